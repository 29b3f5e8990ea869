/- What the law leans on, part 4. -/
import Derived.Test.YtaceeoghjgggjaaPAd3
set_option linter.unusedSimpArgs false
set_option linter.unusedVariables false
set_option linter.unusedSimpArgs false
set_option linter.unusedVariables false
namespace Go.Ev.Ytaceeoghjgggjaa
open Go Go.Ev
attribute [local congr] bind_congr2 ite_congr2 qElse_congr gate_congr guardV_congr
set_option maxRecDepth 100000
def rootW (u v : Go.Fp.Fe) : Go.Fp.Fe := u * (v * v * v) * Go.Fp.pow (u * (v * v * v) * (v * v * v) * v) (2 ^ 252 - 1 - 2)
def jj : Go.Fp.Fe := Go.Fp.pow 2 (2 ^ 253 - 1 - 4)
theorem jj_eq : jj = Go.Fp.i := by
  show Go.Fp.pow (Go.Fp.fp 2) _ = Go.Fp.fp Go.Fp.iN
  exact Go.Fp.pow_test (f := 256) (by decide +kernel) (by decide +kernel)
theorem jj_sq : jj * jj = -1 := by rw [jj_eq]; exact Go.Fp.root_i
theorem quarter : (2 ^ 252 - 1 - 2) + (2 ^ 252 - 1 - 2) + 1 + ((2 ^ 252 - 1 - 2) + (2 ^ 252 - 1 - 2) + 1) = (Go.Fp.P - 1) / 2 := by rw [Go.Fp.P_eq]
theorem no_root {u v s : Go.Fp.Fe} (h1 : v * rootW u v * rootW u v ≠ u) (h2 : v * rootW u v * rootW u v ≠ -u) : v * (s * s) ≠ u := fun hs => by
  have F := Go.Fp.fld
  obtain ⟨g, hg⟩ : ∃ g, g = v * v * v * v * s := ⟨_, rfl⟩
  have ht : u * (v * v * v) * (v * v * v) * v = g * g := by subst hg; subst hs; grobner
  rcases Go.Fp.pow_half g with h | h
  · obtain ⟨k, hk⟩ : ∃ k, k = 2 ^ 252 - 1 - 2 := ⟨_, rfl⟩
    have hq := quarter
    rw [← hk] at hq
    rw [← hq, Go.Fp.pow_add, Go.Fp.pow_add, Go.Fp.pow_add, Go.Fp.pow_one] at h
    have hw : rootW u v = u * (v * v * v) * Go.Fp.pow (g * g) k := by unfold rootW; rw [ht, hk]
    rw [hw] at h1 h2
    generalize Go.Fp.pow (g * g) k = q at *
    have he : (q * q * (g * g) - 1) * (q * q * (g * g) + 1) = 0 := by clear h1 h2 hw ht hg hs; grobner
    have hv : v * (u * (v * v * v) * q) * (u * (v * v * v) * q) = u * (q * q * (g * g)) := by clear h1 h2 hw hg hs he h; grobner
    rcases F.dom he with h | h
    · exact h1 (by rw [hv]; clear h1 h2 hw ht hg hs he hv; grobner)
    · exact h2 (by rw [hv]; clear h1 h2 hw ht hg hs he hv; grobner)
  · have hu : u * (v * v * v) * (v * v * v) * v = 0 := by rw [ht, h]; grobner
    have hu0 : u = 0 := by
      rcases F.dom hu with h0 | h0
      · rcases F.dom h0 with h0 | h0
        · rcases F.dom h0 with h0 | h0
          · exact h0
          · rcases F.dom h0 with h0 | h0
            · rcases F.dom h0 with h0 | h0 <;> (rw [← hs, h0]; grobner)
            · rw [← hs, h0]; grobner
        · rcases F.dom h0 with h0 | h0
          · rcases F.dom h0 with h0 | h0 <;> (rw [← hs, h0]; grobner)
          · rw [← hs, h0]; grobner
      · rw [← hs, h0]; grobner
    exact h1 (by unfold rootW; rw [hu0]; grobner)
theorem ones252 : evVal T 84 [.int .i64 252, .int .u8 2] = some (.agg (u8s (dig 256 32 (2 ^ 252 - 1 - 2))).toArray) := ones_v (n := 252) (less := 2) (by decide) (by decide) (by decide)
theorem ones253 : evVal T 84 [.int .i64 253, .int .u8 4] = some (.agg (u8s (dig 256 32 (2 ^ 253 - 1 - 4))).toArray) := ones_v (n := 253) (less := 4) (by decide) (by decide) (by decide)
def rootV (r : List Nat) (ok : Bool) : Value := .tuple #[eV r, .bool ok]
theorem root_v {u v : List Nat} (Eu : El u (2 ^ 52)) (Ev : El v (2 ^ 52)) :
    ∃ r ok, evVal T 60 [eV u, eV v] = some (rootV r ok) ∧ El r (2 ^ 52) ∧ (ok = true → fe v * (fe r * fe r) = fe u ∧ ((fe r).val % 2 = 0 ∨ fe r = 0)) ∧ (ok = false → ∀ s, fe v * (s * s) ≠ fe u) := by
  obtain ⟨r1, hr1, Er1, fr1⟩ := prod_ev (H := [⟨ns .u64 u, true, true, true, 1⟩, ⟨ns .u64 v, true, true, true, 1⟩, ⟨ns .u64 [0, 0, 0, 0, 0], true, true, true, 1⟩, ⟨ns .u64 [v, v, v].flatten, true, true, true, 1⟩]) (id := 3) (n := 3) (xs := [v, v, v]) rfl (by decide) (by intro w hw; simp only [List.mem_cons, List.not_mem_nil, or_false] at hw; rcases hw with rfl | rfl | rfl <;> assumption) rfl
  simp only [List.map_cons, List.map_nil, List.cons_append, List.nil_append] at hr1
  simp only [List.map_cons, List.map_nil, List.foldl_cons, List.foldl_nil] at fr1
  obtain ⟨r2, hr2, Er2, fr2⟩ := prod_ev (H := [⟨ns .u64 u, true, true, true, 1⟩, ⟨ns .u64 v, true, true, true, 1⟩, ⟨ns .u64 [0, 0, 0, 0, 0], true, true, true, 1⟩, ⟨ns .u64 [v, v, v].flatten, true, true, true, 1⟩, ⟨ns .u64 r1, true, true, true, 1⟩, ⟨ns .u64 r1, true, true, true, 1⟩, ⟨ns .u64 v, true, true, true, 1⟩, ⟨ns .u64 v, true, true, true, 1⟩, ⟨ns .u64 v, true, true, true, 1⟩, ⟨ns .u64 r1, true, true, true, 1⟩, ⟨ns .u64 [u, r1, r1, v].flatten, true, true, true, 1⟩]) (id := 10) (n := 4) (xs := [u, r1, r1, v]) rfl (by decide) (by intro w hw; simp only [List.mem_cons, List.not_mem_nil, or_false] at hw; rcases hw with rfl | rfl | rfl | rfl <;> assumption) rfl
  simp only [List.map_cons, List.map_nil, List.cons_append, List.nil_append] at hr2
  simp only [List.map_cons, List.map_nil, List.foldl_cons, List.foldl_nil] at fr2
  obtain ⟨r3, hr3, Er3, fr3⟩ := power_ones (n := 252) (less := 2) Er2 (by decide) (by decide) (by decide)
  obtain ⟨r4, hr4, Er4, fr4⟩ := prod_ev (H := [⟨ns .u64 u, true, true, true, 1⟩, ⟨ns .u64 v, true, true, true, 1⟩, ⟨ns .u64 [0, 0, 0, 0, 0], true, true, true, 1⟩, ⟨ns .u64 [v, v, v].flatten, true, true, true, 1⟩, ⟨ns .u64 r1, true, true, true, 1⟩, ⟨ns .u64 r1, true, true, true, 1⟩, ⟨ns .u64 v, true, true, true, 1⟩, ⟨ns .u64 v, true, true, true, 1⟩, ⟨ns .u64 v, true, true, true, 1⟩, ⟨ns .u64 r1, true, true, true, 1⟩, ⟨ns .u64 [u, r1, r1, v].flatten, true, true, true, 1⟩, ⟨ns .u64 r2, true, true, true, 1⟩, ⟨ns .u64 r2, true, true, true, 1⟩, ⟨ns .u64 u, true, true, true, 1⟩, ⟨ns .u64 r1, true, true, true, 1⟩, ⟨ns .u64 r1, true, true, true, 1⟩, ⟨ns .u64 v, true, true, true, 1⟩, ⟨ns .u64 [u, r1, r3].flatten, true, true, true, 1⟩]) (id := 17) (n := 3) (xs := [u, r1, r3]) rfl (by decide) (by intro w hw; simp only [List.mem_cons, List.not_mem_nil, or_false] at hw; rcases hw with rfl | rfl | rfl <;> assumption) rfl
  simp only [List.map_cons, List.map_nil, List.cons_append, List.nil_append] at hr4
  simp only [List.map_cons, List.map_nil, List.foldl_cons, List.foldl_nil] at fr4
  obtain ⟨r5, hr5, Er5, fr5⟩ := prod_ev (H := [⟨ns .u64 u, true, true, true, 1⟩, ⟨ns .u64 v, true, true, true, 1⟩, ⟨ns .u64 [0, 0, 0, 0, 0], true, true, true, 1⟩, ⟨ns .u64 [v, v, v].flatten, true, true, true, 1⟩, ⟨ns .u64 r1, true, true, true, 1⟩, ⟨ns .u64 r1, true, true, true, 1⟩, ⟨ns .u64 v, true, true, true, 1⟩, ⟨ns .u64 v, true, true, true, 1⟩, ⟨ns .u64 v, true, true, true, 1⟩, ⟨ns .u64 r1, true, true, true, 1⟩, ⟨ns .u64 [u, r1, r1, v].flatten, true, true, true, 1⟩, ⟨ns .u64 r2, true, true, true, 1⟩, ⟨ns .u64 r2, true, true, true, 1⟩, ⟨ns .u64 u, true, true, true, 1⟩, ⟨ns .u64 r1, true, true, true, 1⟩, ⟨ns .u64 r1, true, true, true, 1⟩, ⟨ns .u64 v, true, true, true, 1⟩, ⟨ns .u64 [u, r1, r3].flatten, true, true, true, 1⟩, ⟨ns .u64 r4, true, true, true, 1⟩, ⟨ns .u64 r4, true, true, true, 1⟩, ⟨ns .u64 u, true, true, true, 1⟩, ⟨ns .u64 r1, true, true, true, 1⟩, ⟨ns .u64 r3, true, true, true, 1⟩, ⟨ns .u64 r4, true, true, true, 1⟩, ⟨ns .u64 [v, r4, r4].flatten, true, true, true, 1⟩]) (id := 24) (n := 3) (xs := [v, r4, r4]) rfl (by decide) (by intro w hw; simp only [List.mem_cons, List.not_mem_nil, or_false] at hw; rcases hw with rfl | rfl | rfl <;> assumption) rfl
  simp only [List.map_cons, List.map_nil, List.cons_append, List.nil_append] at hr5
  simp only [List.map_cons, List.map_nil, List.foldl_cons, List.foldl_nil] at fr5
  have k1 := eq_v Er5 Eu
  obtain ⟨nu, hnu, Enu, fnu⟩ := neg_v Eu
  have k2 := eq_v Er5 Enu
  obtain ⟨two, htwo⟩ : ∃ two : List Nat, two = [2, 0, 0, 0, 0] := ⟨_, rfl⟩
  have Etwo : El two (2 ^ 52) := by rw [htwo]; exact two_E
  have vtwo : evVal T 50 [.int .u32 2] = some (eV two) := by rw [htwo]; exact two_v
  have ftwo : fe two = 2 := by rw [htwo]; exact two_fe
  clear htwo
  obtain ⟨j, hj, Ej, fj⟩ := power_ones (n := 253) (less := 4) Etwo (by decide) (by decide) (by decide)
  obtain ⟨q, hq, Eq, fq⟩ := mul_ev Er4 Ej
  obtain ⟨n1, hn1, En1, fn1⟩ := neg_v Er4
  obtain ⟨n2, hn2, En2, fn2⟩ := neg_v Eq
  have o1 := odd_v Er4
  have o2 := odd_v Eq
  have c1 := ones252
  have c2 := ones253
  have g1 := fill3 Ev Ev Ev
  have g2 := fill4 Eu Er1 Er1 Ev
  rw [pL_flat] at g2
  have g3 := fill3 Eu Er1 Er3
  have g4 := fill3 Ev Er4 Er4
  have hw : fe r4 = rootW (fe u) (fe v) := by
    rw [fr4, fr3, fr1, fr2, fr1]; unfold rootW
    rw [show (1 * fe u * (1 * fe v * fe v * fe v) * (1 * fe v * fe v * fe v) * fe v) = fe u * (fe v * fe v * fe v) * (fe v * fe v * fe v) * fe v from by grobner]
    generalize Go.Fp.pow _ _ = p
    grobner
  have hjj : fe j = jj := by rw [fj, ftwo]; rfl
  have l1 := Eu.len
  have l2 := Ev.len
  have l3 := Er1.len
  have l4 := Er4.len
  have l5 := Er5.len
  have l6 := Eq.len
  have l7 := En1.len
  have l8 := En2.len
  have hz5 : List.replicate 5 (Value.int .u64 0) = ns .u64 [0, 0, 0, 0, 0] := rfl
  have hf5 : fillL (ns .u64 [0, 0, 0, 0, 0]) [] = some (ns .u64 [0, 0, 0, 0, 0]) := rfl
  have l0 : ([0, 0, 0, 0, 0] : List Nat).length = 5 := rfl
  clear Ej Etwo ftwo fj
  generalize dig 256 32 (2 ^ 252 - 1 - 2) = K1 at *
  generalize dig 256 32 (2 ^ 253 - 1 - 4) = K2 at *
  have hsq : fe r5 = fe v * rootW (fe u) (fe v) * rootW (fe u) (fe v) := by rw [fr5, hw]; generalize rootW (fe u) (fe v) = w; grobner
  have evn : ∀ a : Go.Fp.Fe, a.val % 2 = 1 → (-a).val % 2 = 0 ∨ -a = 0 := by
    intro a ha
    left
    have hlt := a.isLt
    have h0 : (Go.Fp.P - a.val) < Go.Fp.P := by omega
    have h1 : (-a).val = (Go.Fp.P - a.val) % Go.Fp.P := rfl
    rw [h1, Nat.mod_eq_of_lt h0]
    have hP : Go.Fp.P % 2 = 1 := by rw [Go.Fp.P_eq]
    omega
  by_cases hA : fe r5 = fe u
  · rw [decide_eq_true hA] at k1
    have hroot : fe v * (fe r4 * fe r4) = fe u := by rw [← hA, hsq, hw]; generalize rootW (fe u) (fe v) = w; grobner
    by_cases hO : (fe r4).val % 2 = 1
    · rw [decide_eq_true hO] at o1
      refine ⟨n1, true, ?_, En1, fun _ => ⟨?_, ?_⟩, fun h => by cases h⟩
      · apply evVal_ex
        apply Exists.intro
        rw [evFun_fn (fn := a60) rfl]
        simp only [a60, envOf, quiet, cF, ↓pF, reduceCtorEq, Nat.reduceEqDiff, Int.reduceEq, fs_callW, fs_regionQ, quiet2_eq, lastOf_nil, lastOf_cons, List.take_succ_cons, List.take_zero, List.drop_succ_cons, List.drop_zero, Int.reduceBEq, Int.reduceBNe, ↓keepV_some, ↓qElse_some, ↓guardV_tt, ↓guardV_ff, ↓guardV_tf, ↓guardV_ft, cL, Int.reduceLE, Int.reduceLT, Int.reduceAdd, Int.reduceMul, Int.reduceSub, Int.reduceTDiv, Int.reduceTMod, Int.reduceNeg, Int.reduceToNat, Int.reduceGT, Int.reduceGE, Int.reducePow, Nat.reduceAdd, Nat.reduceMul, Nat.reduceSub, Nat.reduceDiv, Nat.reduceMod, Nat.reducePow, Nat.reduceLT, Nat.reduceLeDiff, cJ, hz5, hf5, l0, g1, g2, g3, g4, c1, c2, hr1, hr2, hr3, hr4, hr5, k1, o1, hn1, l1, l2, l3, l4, l5, l7, List.length_replicate, take_all, eV_cells, eV_size, eV_ok, eV_fold, ns_len, rf_eV]
        rfl
      · rw [fn1, ← hroot]; generalize fe r4 = w; grobner
      · rw [fn1]; exact evn _ hO
    · rw [decide_eq_false hO] at o1
      refine ⟨r4, true, ?_, Er4, fun _ => ⟨hroot, by left; omega⟩, fun h => by cases h⟩
      apply evVal_ex
      apply Exists.intro
      rw [evFun_fn (fn := a60) rfl]
      simp only [a60, envOf, quiet, cF, ↓pF, reduceCtorEq, Nat.reduceEqDiff, Int.reduceEq, fs_callW, fs_regionQ, quiet2_eq, lastOf_nil, lastOf_cons, List.take_succ_cons, List.take_zero, List.drop_succ_cons, List.drop_zero, Int.reduceBEq, Int.reduceBNe, ↓keepV_some, ↓qElse_some, ↓guardV_tt, ↓guardV_ff, ↓guardV_tf, ↓guardV_ft, cL, Int.reduceLE, Int.reduceLT, Int.reduceAdd, Int.reduceMul, Int.reduceSub, Int.reduceTDiv, Int.reduceTMod, Int.reduceNeg, Int.reduceToNat, Int.reduceGT, Int.reduceGE, Int.reducePow, Nat.reduceAdd, Nat.reduceMul, Nat.reduceSub, Nat.reduceDiv, Nat.reduceMod, Nat.reducePow, Nat.reduceLT, Nat.reduceLeDiff, cJ, hz5, hf5, l0, g1, g2, g3, g4, c1, c2, hr1, hr2, hr3, hr4, hr5, k1, o1, hn1, l1, l2, l3, l4, l5, l7, List.length_replicate, take_all, eV_cells, eV_size, eV_ok, eV_fold, ns_len, rf_eV]
      rfl
  · rw [decide_eq_false hA] at k1
    by_cases hB : fe r5 = fe nu
    · rw [decide_eq_true hB] at k2
      have hroot : fe v * (fe q * fe q) = fe u := by
        have hs := jj_sq
        rw [hsq, fnu] at hB
        rw [fq, hw, hjj]
        generalize rootW (fe u) (fe v) = w at *
        clear k1 k2 o1 o2 c1 c2 hA hsq hw fr1 fr2 fr3 fr4 fr5
        grobner
      by_cases hO : (fe q).val % 2 = 1
      · rw [decide_eq_true hO] at o2
        refine ⟨n2, true, ?_, En2, fun _ => ⟨?_, ?_⟩, fun h => by cases h⟩
        · apply evVal_ex
          apply Exists.intro
          rw [evFun_fn (fn := a60) rfl]
          simp only [a60, envOf, quiet, cF, ↓pF, reduceCtorEq, Nat.reduceEqDiff, Int.reduceEq, fs_callW, fs_regionQ, quiet2_eq, lastOf_nil, lastOf_cons, List.take_succ_cons, List.take_zero, List.drop_succ_cons, List.drop_zero, Int.reduceBEq, Int.reduceBNe, ↓keepV_some, ↓qElse_some, ↓guardV_tt, ↓guardV_ff, ↓guardV_tf, ↓guardV_ft, cL, Int.reduceLE, Int.reduceLT, Int.reduceAdd, Int.reduceMul, Int.reduceSub, Int.reduceTDiv, Int.reduceTMod, Int.reduceNeg, Int.reduceToNat, Int.reduceGT, Int.reduceGE, Int.reducePow, Nat.reduceAdd, Nat.reduceMul, Nat.reduceSub, Nat.reduceDiv, Nat.reduceMod, Nat.reducePow, Nat.reduceLT, Nat.reduceLeDiff, cJ, hz5, hf5, l0, g1, g2, g3, g4, c1, c2, hr1, hr2, hr3, hr4, hr5, k1, k2, hnu, vtwo, hj, hq, o2, hn2, l1, l2, l3, l4, l5, l6, l8, List.length_replicate, take_all, eV_cells, eV_size, eV_ok, eV_fold, ns_len, rf_eV]
          rfl
        · rw [fn2, ← hroot]; generalize fe q = w; grobner
        · rw [fn2]; exact evn _ hO
      · rw [decide_eq_false hO] at o2
        refine ⟨q, true, ?_, Eq, fun _ => ⟨hroot, by left; omega⟩, fun h => by cases h⟩
        apply evVal_ex
        apply Exists.intro
        rw [evFun_fn (fn := a60) rfl]
        simp only [a60, envOf, quiet, cF, ↓pF, reduceCtorEq, Nat.reduceEqDiff, Int.reduceEq, fs_callW, fs_regionQ, quiet2_eq, lastOf_nil, lastOf_cons, List.take_succ_cons, List.take_zero, List.drop_succ_cons, List.drop_zero, Int.reduceBEq, Int.reduceBNe, ↓keepV_some, ↓qElse_some, ↓guardV_tt, ↓guardV_ff, ↓guardV_tf, ↓guardV_ft, cL, Int.reduceLE, Int.reduceLT, Int.reduceAdd, Int.reduceMul, Int.reduceSub, Int.reduceTDiv, Int.reduceTMod, Int.reduceNeg, Int.reduceToNat, Int.reduceGT, Int.reduceGE, Int.reducePow, Nat.reduceAdd, Nat.reduceMul, Nat.reduceSub, Nat.reduceDiv, Nat.reduceMod, Nat.reducePow, Nat.reduceLT, Nat.reduceLeDiff, cJ, hz5, hf5, l0, g1, g2, g3, g4, c1, c2, hr1, hr2, hr3, hr4, hr5, k1, k2, hnu, vtwo, hj, hq, o2, hn2, l1, l2, l3, l4, l5, l6, l8, List.length_replicate, take_all, eV_cells, eV_size, eV_ok, eV_fold, ns_len, rf_eV]
        rfl
    · rw [decide_eq_false hB] at k2
      refine ⟨[0, 0, 0, 0, 0], false, ?_, zero_el5, fun h => (by cases h), fun _ s => no_root (by rw [← hsq]; exact hA) (by rw [← hsq, ← fnu]; exact hB)⟩
      apply evVal_ex
      apply Exists.intro
      rw [evFun_fn (fn := a60) rfl]
      simp only [a60, envOf, quiet, cF, ↓pF, reduceCtorEq, Nat.reduceEqDiff, Int.reduceEq, fs_callW, fs_regionQ, quiet2_eq, lastOf_nil, lastOf_cons, List.take_succ_cons, List.take_zero, List.drop_succ_cons, List.drop_zero, Int.reduceBEq, Int.reduceBNe, ↓keepV_some, ↓qElse_some, ↓guardV_tt, ↓guardV_ff, ↓guardV_tf, ↓guardV_ft, cL, Int.reduceLE, Int.reduceLT, Int.reduceAdd, Int.reduceMul, Int.reduceSub, Int.reduceTDiv, Int.reduceTMod, Int.reduceNeg, Int.reduceToNat, Int.reduceGT, Int.reduceGE, Int.reducePow, Nat.reduceAdd, Nat.reduceMul, Nat.reduceSub, Nat.reduceDiv, Nat.reduceMod, Nat.reducePow, Nat.reduceLT, Nat.reduceLeDiff, cJ, hz5, hf5, l0, g1, g2, g3, g4, c1, c2, hr1, hr2, hr3, hr4, hr5, k1, k2, hnu, l1, l2, l3, l4, l5, List.length_replicate, take_all, eV_cells, eV_size, eV_ok, eV_fold, ns_len, rf_eV]
      rfl
end Go.Ev.Ytaceeoghjgggjaa
set_option linter.unusedSimpArgs false
set_option linter.unusedVariables false
namespace Go.Ev.Ytaceeoghjgggjaa
open Go Go.Ev
attribute [local congr] bind_congr2 ite_congr2 qElse_congr gate_congr guardV_congr
set_option maxRecDepth 100000
structure Jac where
  x : Nat
  y : Nat
  z : Nat
  t : Nat
structure JRep (a : Jac) (p : Go.Cv.Pt Go.Fp.P Go.Fp.d) : Prop where
  nz : Go.Fp.fp a.z ≠ 0
  x : Go.Fp.fp a.x = p.x * Go.Fp.fp a.z
  y : Go.Fp.fp a.y = p.y * Go.Fp.fp a.z
  t : Go.Fp.fp a.t = p.x * p.y * Go.Fp.fp a.z
def nsub (a b : Nat) : Nat := a + (Go.Fp.P - b % Go.Fp.P)
theorem fp_nsub (a b : Nat) : Go.Fp.fp (nsub a b) = Go.Fp.fp a - Go.Fp.fp b := by
  unfold nsub
  have h : b % Go.Fp.P ≤ Go.Fp.P := Nat.le_of_lt (Nat.mod_lt _ (by rw [Go.Fp.P_eq]; decide))
  rw [Go.Fp.fp_add, Go.Fp.fp_sub h, Go.Fp.fp_P, Go.Fp.fp_mod]
  grobner
def jaddA (a b : Jac) : Nat := nsub a.y a.x * nsub b.y b.x % Go.Fp.P
def jaddB (a b : Jac) : Nat := (a.y + a.x) * (b.y + b.x) % Go.Fp.P
def jaddC (a b : Jac) : Nat := 1 * 2 * Go.Fp.dN * a.t * b.t % Go.Fp.P
def jaddD (a b : Jac) : Nat := 1 * 2 * a.z * b.z % Go.Fp.P
def jfin (a b c e : Nat) : Jac := ⟨nsub b a * nsub e c % Go.Fp.P, (e + c) * (b + a) % Go.Fp.P, nsub e c * (e + c) % Go.Fp.P, nsub b a * (b + a) % Go.Fp.P⟩
def jadd (a b : Jac) : Jac := jfin (jaddA a b) (jaddB a b) (jaddC a b) (jaddD a b)
theorem JRep.add {a b : Jac} {p q : Go.Cv.Pt Go.Fp.P Go.Fp.d} (h1 : JRep a p) (h2 : JRep b q) : JRep (jadd a b) (padd p q) := by
  have ha : Go.Fp.fp (jaddA a b) = (Go.Fp.fp a.y - Go.Fp.fp a.x) * (Go.Fp.fp b.y - Go.Fp.fp b.x) := by
    unfold jaddA; rw [Go.Fp.fp_mod, Go.Fp.fp_mul, fp_nsub, fp_nsub]
  have hb : Go.Fp.fp (jaddB a b) = (Go.Fp.fp a.y + Go.Fp.fp a.x) * (Go.Fp.fp b.y + Go.Fp.fp b.x) := by
    unfold jaddB; rw [Go.Fp.fp_mod, Go.Fp.fp_mul, Go.Fp.fp_add, Go.Fp.fp_add]
  have hc : Go.Fp.fp (jaddC a b) = 1 * 2 * Go.Fp.d * Go.Fp.fp a.t * Go.Fp.fp b.t := by
    unfold jaddC; rw [Go.Fp.fp_mod, Go.Fp.fp_mul, Go.Fp.fp_mul, Go.Fp.fp_mul, Go.Fp.fp_mul, Go.Fp.fp_one, Go.Fp.fp_two]; rfl
  have hd : Go.Fp.fp (jaddD a b) = 1 * 2 * Go.Fp.fp a.z * Go.Fp.fp b.z := by
    unfold jaddD; rw [Go.Fp.fp_mod, Go.Fp.fp_mul, Go.Fp.fp_mul, Go.Fp.fp_mul, Go.Fp.fp_one, Go.Fp.fp_two]
  have hx : Go.Fp.fp (jadd a b).x = (Go.Fp.fp (jaddB a b) - Go.Fp.fp (jaddA a b)) * (Go.Fp.fp (jaddD a b) - Go.Fp.fp (jaddC a b)) := by
    show Go.Fp.fp (_ % _) = _; rw [Go.Fp.fp_mod, Go.Fp.fp_mul, fp_nsub, fp_nsub]
  have hy : Go.Fp.fp (jadd a b).y = (Go.Fp.fp (jaddD a b) + Go.Fp.fp (jaddC a b)) * (Go.Fp.fp (jaddB a b) + Go.Fp.fp (jaddA a b)) := by
    show Go.Fp.fp (_ % _) = _; rw [Go.Fp.fp_mod, Go.Fp.fp_mul, Go.Fp.fp_add, Go.Fp.fp_add]
  have hz : Go.Fp.fp (jadd a b).z = (Go.Fp.fp (jaddD a b) - Go.Fp.fp (jaddC a b)) * (Go.Fp.fp (jaddD a b) + Go.Fp.fp (jaddC a b)) := by
    show Go.Fp.fp (_ % _) = _; rw [Go.Fp.fp_mod, Go.Fp.fp_mul, Go.Fp.fp_add, fp_nsub]
  have ht : Go.Fp.fp (jadd a b).t = (Go.Fp.fp (jaddB a b) - Go.Fp.fp (jaddA a b)) * (Go.Fp.fp (jaddB a b) + Go.Fp.fp (jaddA a b)) := by
    show Go.Fp.fp (_ % _) = _; rw [Go.Fp.fp_mod, Go.Fp.fp_mul, Go.Fp.fp_add, fp_nsub]
  obtain ⟨g1, g2, g3, g4⟩ := plus_math h1.x h1.y h1.t h2.x h2.y h2.t ha hb hc hd hx hy hz ht (Go.Cv.add_x Go.Fp.fld p q) (Go.Cv.add_y Go.Fp.fld p q)
  refine ⟨?_, g1, g2, g3⟩
  rw [g4]
  have F := Go.Fp.fld
  have w := F.mul_ne (F.mul_ne F.two h1.nz) h2.nz
  exact F.mul_ne (F.mul_ne w w) (F.mul_ne (F.denM p.on q.on) (F.denP p.on q.on))
def jmul (p : Jac) : Nat → Nat → Jac
  | 0, _ => ⟨0, 1, 1, 0⟩
  | f + 1, k => (fun r => if k % 2 = 1 then jadd (jadd r r) p else jadd r r) (jmul p f (k / 2))
theorem JRep.mul {a : Jac} {p : Go.Cv.Pt Go.Fp.P Go.Fp.d} (h : JRep a p) : ∀ {f k : Nat}, k < 2 ^ f → JRep (jmul a f k) (pmul k p)
  | 0, k, hk => by
    have : k = 0 := by omega
    subst this
    exact ⟨Go.Fp.one_ne, by show (0 : Go.Fp.Fe) = 0 * 1; grobner, by show (1 : Go.Fp.Fe) = 1 * 1; grobner, by show (0 : Go.Fp.Fe) = 0 * 1 * 1; grobner⟩
  | f + 1, k, hk => by
    have ih := JRep.mul h (f := f) (k := k / 2) (by omega)
    have hb := Nat.mod_lt k (by decide : 0 < 2)
    have e : pmul k p = pmul (2 * (k / 2) + k % 2) p := by rw [Nat.div_add_mod]
    rw [e, pmul_step p (k / 2) (k % 2) hb]
    simp only [jmul]
    split
    · exact (ih.add ih).add h
    · exact ih.add ih
def jbase : Jac := ⟨bxN, byN, 1, bxN * byN % Go.Fp.P⟩
theorem jbase_rep : JRep jbase pbase := by
  have h1 : Go.Fp.fp 1 = (1 : Go.Fp.Fe) := rfl
  refine ⟨Go.Fp.one_ne, ?_, ?_, ?_⟩
  · show Go.Fp.fp bxN = Go.Fp.fp bxN * Go.Fp.fp 1; rw [h1]; grobner
  · show Go.Fp.fp byN = Go.Fp.fp byN * Go.Fp.fp 1; rw [h1]; grobner
  · show Go.Fp.fp (bxN * byN % Go.Fp.P) = Go.Fp.fp bxN * Go.Fp.fp byN * Go.Fp.fp 1; rw [h1, Go.Fp.fp_mod, Go.Fp.fp_mul]; grobner
theorem eight_base : pmul 8 pbase ≠ pzero := fun h => by
  have r := jbase_rep.mul (f := 4) (k := 8) (by decide)
  rw [h] at r
  have hx := r.x
  rw [show (pzero : Go.Cv.Pt Go.Fp.P Go.Fp.d).x = 0 from rfl] at hx
  have h0 : Go.Fp.fp (jmul jbase 4 8).x = Go.Fp.fp 0 := by rw [hx]; show _ = (0 : Go.Fp.Fe); grobner
  have h1 := Go.Fp.fp_eq.1 h0
  have h2 : (jmul jbase 4 8).x % Go.Fp.P ≠ 0 % Go.Fp.P := by decide +kernel
  exact h2 h1
end Go.Ev.Ytaceeoghjgggjaa
set_option linter.unusedSimpArgs false
set_option linter.unusedVariables false
namespace Go.Ev.Ytaceeoghjgggjaa
open Go Go.Ev
attribute [local congr] bind_congr2 ite_congr2 qElse_congr gate_congr guardV_congr
set_option maxRecDepth 100000
theorem guardW_tt {α : Type} {x y : Option α} : guardV (.bool true) true x y = x := Eq.trans rfl rfl
theorem guardW_ff {α : Type} {x y : Option α} : guardV (.bool false) false x y = x := Eq.trans rfl rfl
theorem guardW_tf {α : Type} {x y : Option α} : guardV (.bool true) false x y = y := Eq.trans rfl rfl
theorem guardW_ft {α : Type} {x y : Option α} : guardV (.bool false) true x y = y := Eq.trans rfl rfl
theorem keepW_some {t : Nat} {v : Value} {l : Env} : keepV t (some v) l = (t, v) :: l := Eq.trans rfl rfl
theorem qElseW_some {α : Type} {v : α} {y : Option α} : qElse (some v) y = some v := Eq.trans rfl rfl
theorem steps_app {T : Tab} {b : Nat} {q : Bool} : ∀ (o1 o2 : List AOper) (s : St), steps T b q (o1 ++ o2) s = (steps T b q o1 s).bind (steps T b q o2)
  | [], o2, s => rfl
  | o :: o1, o2, s => by
    rw [List.cons_append]
    unfold steps
    cases hg : guardOf s.env o.guard with
    | none => rfl
    | some g =>
      cases g with
      | true =>
        simp only
        cases hx : evOper T o.op s.env s.h with
        | none => rfl
        | some x =>
          simp only [Option.bind_some]
          split
          · rfl
          · exact steps_app o1 o2 _
      | false => exact steps_app o1 o2 _
theorem steps_chunk {T : Tab} {b : Nat} {q : Bool} {a1 a2 a3 a4 a5 a6 a7 : AOper} {r : List AOper} {s : St} : steps T b q (a1 :: a2 :: a3 :: a4 :: a5 :: a6 :: a7 :: r) s = (steps T b q [a1, a2, a3, a4, a5, a6] s).bind fun s' => steps T b q (a7 :: r) s' := by
  rw [← steps_app]; rfl
def encB : List Nat := [88, 102, 102, 102, 102, 102, 102, 102, 102, 102, 102, 102, 102, 102, 102, 102, 102, 102, 102, 102, 102, 102, 102, 102, 102, 102, 102, 102, 102, 102, 102, 102]
def encZ : List Nat := [1, 0, 0, 0, 0, 0, 0, 0, 0, 0, 0, 0, 0, 0, 0, 0, 0, 0, 0, 0, 0, 0, 0, 0, 0, 0, 0, 0, 0, 0, 0, 0]
theorem enc_base : enc pbase = encB := by decide +kernel
theorem enc_zero : enc pzero = encZ := by decide +kernel
theorem tiny_no {p : Go.Cv.Pt Go.Fp.P Go.Fp.d} {l : List Nat} (h : RepL l p) (hp : pmul 8 p ≠ pzero) : evVal T 39 [eV l] = some (.bool false) := by
  have := tiny_v h
  rw [decide_eq_false hp] at this
  exact this
theorem tiny_yes {p : Go.Cv.Pt Go.Fp.P Go.Fp.d} {l : List Nat} (h : RepL l p) (hp : pmul 8 p = pzero) : evVal T 39 [eV l] = some (.bool true) := by
  have := tiny_v h
  rw [decide_eq_true hp] at this
  exact this
theorem enc_of {p : Go.Cv.Pt Go.Fp.P Go.Fp.d} {l E : List Nat} (h : RepL l p) (hp : enc p = E) : evVal T 29 [eV l] = some (.agg (u8s E).toArray) := by
  have := encode_v h
  rw [hp] at this
  exact this
theorem base_facts : ∃ b, evVal T 25 [] = some (eV b) ∧ b.length = 20 ∧ evVal T 29 [eV b] = some (.agg (u8s encB).toArray) ∧ evVal T 39 [eV b] = some (.bool false) := by
  obtain ⟨b, hb, rb⟩ := base_v
  exact ⟨b, hb, rb.len, enc_of rb enc_base, tiny_no rb eight_base⟩
theorem zero_facts : ∃ b, evVal T 30 [] = some (eV b) ∧ b.length = 20 ∧ evVal T 29 [eV b] = some (.agg (u8s encZ).toArray) ∧ evVal T 39 [eV b] = some (.bool true) := by
  obtain ⟨b, hb, rb⟩ := zero_v
  exact ⟨b, hb, rb.len, enc_of rb enc_zero, tiny_yes rb (Go.Cv.mul_zero Go.Fp.fld 8)⟩
theorem bl1 : encB.length = 32 := rfl
theorem bl2 : encZ.length = 32 := rfl
theorem bz32 : List.replicate 32 (Value.int .u8 0) = u8s (dig 256 32 0) := rfl
theorem bl3 : (dig 256 32 0).length = 32 := rfl
theorem bg0 : (u8s encB)[0]? = some (.int .u8 88) := rfl
theorem bg1 : (u8s encB)[1]? = some (.int .u8 102) := rfl
theorem bg2 : (u8s encB)[31]? = some (.int .u8 102) := rfl
theorem bf1 : fillL (u8s (dig 256 32 0)) [(0, 1, .int .u8 1)] = some (u8s encZ) := rfl
theorem bq : (encZ == encZ) = true := by decide
theorem based_w {U : Tab} (hU : U.fn 24 = some a24) {b z B Z O : List Nat} {c0 c1 c2 : Int} (h0 : (c0 == 88) = true) (h1 : (c1 == 102) = true) (h2 : (c2 == 102) = true) (hb : evVal U 25 [] = some (eV b)) (p1 : b.length = 20) (e1 : evVal U 29 [eV b] = some (.agg (u8s B).toArray)) (t1 : evVal U 39 [eV b] = some (.bool false))
    (hz : evVal U 30 [] = some (eV z)) (p2 : z.length = 20) (e2 : evVal U 29 [eV z] = some (.agg (u8s Z).toArray)) (t2 : evVal U 39 [eV z] = some (.bool true)) (l1 : B.length = 32) (l2 : Z.length = 32) (l3 : O.length = 32)
    (g0 : (u8s B)[0]? = some (.int .u8 c0)) (g1 : (u8s B)[1]? = some (.int .u8 c1)) (g2 : (u8s B)[31]? = some (.int .u8 c2)) (hz32 : List.replicate 32 (Value.int .u8 0) = u8s O) (f1 : fillL (u8s O) [(0, 1, .int .u8 1)] = some (u8s Z)) (q : (Z == Z) = true) : evVal U 24 [] = some (.bool true) := by
  apply evVal_ex
  apply Exists.intro
  rw [evFun_fn hU]
  simp only [a24, ↓steps_chunk, envOf, quiet, cF, ↓pF, reduceCtorEq, Nat.reduceEqDiff, Int.reduceEq, fs_callW, fs_regionQ, quiet2_eq, lastOf_nil, lastOf_cons, List.take_succ_cons, List.take_zero, List.drop_succ_cons, List.drop_zero, Int.reduceBEq, Int.reduceBNe, ↓keepW_some, ↓qElseW_some, ↓guardW_tt, ↓guardW_ff, ↓guardW_tf, ↓guardW_ft, cL, Int.reduceLE, Int.reduceLT, Int.reduceAdd, Int.reduceMul, Int.reduceSub, Int.reduceTDiv, Int.reduceTMod, Int.reduceNeg, Int.reduceToNat, Int.reduceGT, Int.reduceGE, Int.reducePow, Nat.reduceAdd, Nat.reduceMul, Nat.reduceSub, Nat.reduceDiv, Nat.reduceMod, Nat.reducePow, Nat.reduceLT, Nat.reduceLeDiff, cJ, hz32, hb, hz, e1, e2, t1, t2, g0, g1, g2, h0, h1, h2, f1, q, cellsEq_u8, List.length_replicate, take_all, eV_cells, eV_size, eV_ok, eV_fold, ns_len, u8s_len, l1, l2, l3, p1, p2, rf_eV]
  rfl
theorem based_v : evVal T 24 [] = some (.bool true) := by
  obtain ⟨b, hb, p1, e1, t1⟩ := base_facts
  obtain ⟨z, hz, p2, e2, t2⟩ := zero_facts
  exact based_w (U := T) rfl (by decide) (by decide) (by decide) hb p1 e1 t1 hz p2 e2 t2 bl1 bl2 bl3 bg0 bg1 bg2 bz32 bf1 bq
end Go.Ev.Ytaceeoghjgggjaa
set_option linter.unusedSimpArgs false
set_option linter.unusedVariables false
namespace Go.Ev.Ytaceeoghjgggjaa
open Go Go.Ev
attribute [local congr] bind_congr2 ite_congr2 qElse_congr gate_congr guardV_congr
set_option maxRecDepth 100000
theorem par_neg {a : Go.Fp.Fe} (h0 : a ≠ 0) : (-a).val % 2 ≠ a.val % 2 := by
  have hlt := a.isLt
  have hne : a.val ≠ 0 := fun h => h0 (Fin.ext h)
  have h1 : (-a).val = (Go.Fp.P - a.val) % Go.Fp.P := rfl
  have h2 : (Go.Fp.P - a.val) < Go.Fp.P := by omega
  rw [h1, Nat.mod_eq_of_lt h2]
  have hP : Go.Fp.P % 2 = 1 := by rw [Go.Fp.P_eq]
  omega
theorem sq_eq {a b : Go.Fp.Fe} (h : a * a = b * b) : a = b ∨ a = -b := by
  have F := Go.Fp.fld
  have : (a - b) * (a + b) = 0 := by grobner
  rcases F.dom this with h1 | h1
  · left; clear h this; grobner
  · right; clear h this; grobner
theorem one_of (dd z : Go.Fp.Fe) (hz : z = 0) : dd * (z * z) + 1 = 1 := by grobner
theorem den_ne (y : Go.Fp.Fe) : Go.Fp.d * (y * y) + 1 ≠ 0 := fun h => by
  have F := Go.Fp.fld
  have hy : y ≠ 0 := by
    intro h0
    rw [one_of _ _ h0] at h
    exact Go.Fp.one_ne h
  have hi := Go.Fp.iv_mul hy
  have hr := Go.Fp.root_i
  apply Go.Fp.nosq (Go.Fp.i * Go.Fp.iv y)
  generalize Go.Fp.d = dd at *
  generalize Go.Fp.i = ii at *
  generalize Go.Fp.iv y = w at *
  clear F hy
  have e1 : dd * (y * w) * (y * w) + w * w = 0 := by
    have : dd * (y * w) * (y * w) + w * w = (dd * (y * y) + 1) * (w * w) := by clear h hi hr; grobner
    rw [this, h]; clear this h hi hr; grobner
  rw [hi] at e1
  have e2 : ii * w * (ii * w) = (ii * ii) * (w * w) := by clear h hi hr e1; grobner
  rw [e2, hr]
  clear h hi hr e2
  grobner
theorem x_sq (p : Go.Cv.Pt Go.Fp.P Go.Fp.d) : (Go.Fp.d * (p.y * p.y) + 1) * (p.x * p.x) = p.y * p.y - 1 := by
  have h := p.on
  unfold Go.Cv.On at h
  generalize Go.Fp.d = dd at *
  generalize p.x = x at *
  generalize p.y = y at *
  grobner
theorem encN_inj {p q : Go.Cv.Pt Go.Fp.P Go.Fp.d} (h : encN p = encN q) : p = q := by
  unfold encN at h
  have h1 := val_lt p.y
  have h2 := val_lt q.y
  have h3 := Nat.mod_lt p.x.val (by decide : 0 < 2)
  have h4 := Nat.mod_lt q.x.val (by decide : 0 < 2)
  have hy : p.y.val = q.y.val := by omega
  have hx : p.x.val % 2 = q.x.val % 2 := by omega
  have hy' : p.y = q.y := Fin.ext hy
  have e1 := x_sq p
  have e2 := x_sq q
  rw [hy', ← e2] at e1
  have e3 := Go.Fp.fld.cancel (den_ne q.y) e1
  refine Go.Cv.Pt.ext ?_ hy'
  rcases sq_eq e3 with h | h
  · exact h
  · by_cases h0 : q.x = 0
    · rw [h, h0]; grobner
    · exfalso
      have := par_neg h0
      rw [← h] at this
      exact this hx
theorem enc_beq (p q : Go.Cv.Pt Go.Fp.P Go.Fp.d) : (enc p == enc q) = decide (p = q) := by
  unfold enc
  rw [key_inj (encN_lt p) (encN_lt q)]
  by_cases h : p = q
  · subst h; rw [decide_eq_true rfl, decide_eq_true rfl]
  · rw [decide_eq_false h, decide_eq_false (fun e => h (encN_inj e))]
theorem fill40 {a b : List Nat} {p q : Go.Cv.Pt Go.Fp.P Go.Fp.d} (ha : RepL a p) (hb : RepL b q) : fillL (List.replicate 40 (Value.int .u64 0)) [(0, 20, eV a), (20, 20, eV b)] = some (ns .u64 [a, b].flatten) := by
  obtain ⟨x1, y1, z1, t1, rfl, h1⟩ := ha
  obtain ⟨x2, y2, z2, t2, rfl, h2⟩ := hb
  obtain ⟨a0, a1, a2, a3, a4, rfl, -⟩ := h1.ex.five
  obtain ⟨b0, b1, b2, b3, b4, rfl, -⟩ := h1.ey.five
  obtain ⟨c0, c1, c2, c3, c4, rfl, -⟩ := h1.ez.five
  obtain ⟨d0, d1, d2, d3, d4, rfl, -⟩ := h1.et.five
  obtain ⟨e0, e1, e2, e3, e4, rfl, -⟩ := h2.ex.five
  obtain ⟨f0, f1, f2, f3, f4, rfl, -⟩ := h2.ey.five
  obtain ⟨g0, g1, g2, g3, g4, rfl, -⟩ := h2.ez.five
  obtain ⟨i0, i1, i2, i3, i4, rfl, -⟩ := h2.et.five
  rfl
theorem padd_assoc (p q r : Go.Cv.Pt Go.Fp.P Go.Fp.d) : padd (padd p q) r = padd p (padd q r) := Go.Cv.add_assoc Go.Fp.fld p q r
theorem equal_yes {l m : List Nat} {p q : Go.Cv.Pt Go.Fp.P Go.Fp.d} (h1 : RepL l p) (h2 : RepL m q) (h : p = q) : evVal T 28 [eV l, eV m] = some (.bool true) := by
  rw [equal_v h1 h2, decide_eq_true h]
end Go.Ev.Ytaceeoghjgggjaa
set_option linter.unusedSimpArgs false
set_option linter.unusedVariables false
namespace Go.Ev.Ytaceeoghjgggjaa
open Go Go.Ev
attribute [local congr] bind_congr2 ite_congr2 qElse_congr gate_congr guardV_congr
set_option maxRecDepth 100000
theorem enc_key {k : List Nat} (lk : k.length = 32) (xk : ∀ x ∈ k, x < 256) {p : Go.Cv.Pt Go.Fp.P Go.Fp.d} : enc p = k ↔ encN p = num 256 k := by
  have h1 := num_lt xk
  rw [lk] at h1
  have h2 := dig_num (by decide : 0 < 256) xk
  rw [lk] at h2
  constructor
  · intro h
    have := num_dig (B := 256) (by decide) 32 (encN p)
    rw [Nat.mod_eq_of_lt (encN_lt p)] at this
    rw [← this, ← h]; rfl
  · intro h
    unfold enc
    rw [h, h2]
theorem enc_parts {p : Go.Cv.Pt Go.Fp.P Go.Fp.d} {V : Nat} : encN p = V ↔ p.y.val = V % 2 ^ 255 ∧ p.x.val % 2 = V / 2 ^ 255 := by
  have h1 := val_lt p.y
  have h3 := Nat.mod_lt p.x.val (by decide : 0 < 2)
  unfold encN
  constructor
  · intro h; omega
  · rintro ⟨h, h'⟩; rw [h, h', Nat.mul_comm, Nat.mod_add_div]
theorem on_of {u v x y : Go.Fp.Fe} (hu : u = y * y - 1) (hv : v = Go.Fp.d * (y * y) + 1) (h : v * (x * x) = u) : Go.Cv.On Go.Fp.d x y := by
  unfold Go.Cv.On
  generalize Go.Fp.d = dd at *
  subst hu hv
  grobner
theorem key_top {k : List Nat} (lk : k.length = 32) (xk : ∀ x ∈ k, x < 256) : ∃ w, k[31]? = some w ∧ w < 256 ∧ w / 128 = num 256 k / 2 ^ 255 ∧ num 256 (k.set 31 (w &&& 127)) = num 256 k % 2 ^ 255 ∧ (∀ x ∈ k.set 31 (w &&& 127), x < 256) ∧ (k.set 31 (w &&& 127)).length = 32 := by
  obtain ⟨w, hw⟩ : ∃ w, k[31]? = some w := ⟨_, List.getElem?_eq_getElem (by omega)⟩
  have hw' : w < 256 := xk w (List.mem_of_getElem? hw)
  have hV := num_lt xk
  rw [lk] at hV
  have hg := num_get (by decide : 0 < 256) xk hw
  have hs := num_set (B := 256) (w &&& 127) hw
  have ha : w &&& 127 = w % 128 := Nat.and_two_pow_sub_one_eq_mod w 7
  refine ⟨w, hw, hw', ?_⟩
  rw [ha] at hs ⊢
  have e31 : (256 : Nat) ^ 31 = 452312848583266388373324160190187140051835877600158453279131187530910662656 := by decide
  have e32 : (256 : Nat) ^ 32 = 115792089237316195423570985008687907853269984665640564039457584007913129639936 := by decide
  have e255 : (2 : Nat) ^ 255 = 57896044618658097711785492504343953926634992332820282019728792003956564819968 := by decide
  rw [e31] at hg hs
  rw [e32] at hV
  rw [e255]
  refine ⟨by omega, by omega, ?_, by rw [List.length_set]; exact lk⟩
  intro x hx
  rcases List.mem_or_eq_of_mem_set hx with h | h
  · exact xk x h
  · omega
def decV (l : List Nat) (c : Int) : Value := .tuple #[eV l, .int .i64 c]
theorem decode_v {k : List Nat} (lk : k.length = 32) (xk : ∀ x ∈ k, x < 256) :
    (∃ l p, evVal T 31 [.agg (u8s k).toArray] = some (decV l 0) ∧ RepL l p ∧ enc p = k) ∨ (∃ l, evVal T 31 [.agg (u8s k).toArray] = some (decV l 60) ∧ l.length = 20 ∧ ∀ p, enc p ≠ k) := by
  obtain ⟨w, hw, hw', ht, hm, xm, lm⟩ := key_top lk xk
  have hwc := u8s_get hw
  have hset := u8s_set k 31 (w &&& 127)
  have o1 : bitsOp .and .u8 (w : Int) 127 = ((w &&& 127 : Nat) : Int) := bits_and (k := .u8) (a := w) (b := 127) rfl hw' (by decide)
  have hof := of_v lm xm
  have hcan := canonical_v lm xm
  rw [hm] at hof hcan
  rw [Nat.mod_mod] at hof
  have hkey : ∀ p : Go.Cv.Pt Go.Fp.P Go.Fp.d, enc p = k ↔ p.y.val = num 256 k % 2 ^ 255 ∧ p.x.val % 2 = num 256 k / 2 ^ 255 := fun p => by rw [enc_key lk xk, enc_parts]
  rw [← ht] at hkey
  have Ey := of_el (V := num 256 k % 2 ^ 255)
  have fy : fe (dig (2 ^ 51) 5 (num 256 k % 2 ^ 255)) = Go.Fp.fp (num 256 k % 2 ^ 255) := by unfold fe; rw [of_v51]
  generalize k.set 31 (w &&& 127) = km at *
  generalize dig (2 ^ 51) 5 (num 256 k % 2 ^ 255) = Y at *
  generalize num 256 k % 2 ^ 255 = V at *
  have hz20 : ∃ O, List.replicate 20 (Value.int .u64 0) = ns .u64 O ∧ O.length = 20 ∧ fillL (ns .u64 O) [] = some (ns .u64 O) := ⟨List.replicate 20 0, rfl, rfl, rfl⟩
  obtain ⟨O, hz20, l0, hf0⟩ := hz20
  have l1 := Ey.len
  have hz5 : List.replicate 5 (Value.int .u64 0) = ns .u64 [0, 0, 0, 0, 0] := rfl
  have l5 : ([0, 0, 0, 0, 0] : List Nat).length = 5 := rfl
  have hbit : ((((w / 128 : Nat) : Int)) == 1) = decide (w / 128 = 1) := by
    by_cases h : w / 128 = 1
    · rw [h]; rfl
    · have : ¬ (((w / 128 : Nat) : Int) = 1) := by omega
      rw [decide_eq_false h, beq_eq_false_iff_ne.2 this]
  have hshr : ((w : Int) / 128) = ((w / 128 : Nat) : Int) := rfl
  by_cases hV : V < Go.Fp.P
  · rw [decide_eq_true hV] at hcan
    have hYv : (Go.Fp.fp V).val = V := Nat.mod_eq_of_lt hV
    obtain ⟨one, hone⟩ : ∃ O : List Nat, O = [1, 0, 0, 0, 0] := ⟨_, rfl⟩
    have Eone : El one (2 ^ 52) := by rw [hone]; exact one_el
    have vone : evVal T 50 [.int .u32 1] = some (eV one) := by rw [hone]; exact one_v
    have fone : fe one = 1 := by rw [hone]; exact one_fe
    clear hone
    obtain ⟨yy, hyy, Eyy, fyy⟩ := mul_ev Ey Ey
    obtain ⟨D, hD, ED, fD⟩ := factor_v
    obtain ⟨uu, huu, Euu, fuu⟩ := sub_v Eyy Eone
    obtain ⟨dy, hdy, Edy, fdy⟩ := mul_ev ED Eyy
    obtain ⟨vv, sv, hvv, Evv, fvv⟩ := add2_ev (H := [⟨u8s km, true, true, true, 1⟩, ⟨ns .u64 O, true, true, true, 1⟩, ⟨ns .u64 Y, true, true, true, 1⟩, ⟨ns .u64 yy, true, true, true, 1⟩, ⟨ns .u64 (dy ++ one), true, true, true, 1⟩]) (id := 4) Edy Eone rfl
    simp only [List.cons_append, List.nil_append] at hvv
    obtain ⟨r, ok, hr, Er, hok, hno⟩ := root_v Euu Evv
    have hf2 := fill2 Edy Eone
    have l6 := Eyy.len
    have l7 := Er.len
    have kz := isZero_v Er
    obtain ⟨nr, hnr, Enr, fnr⟩ := neg_v Er
    obtain ⟨t1, ht1, Et1, ft1⟩ := mul_ev Er Ey
    obtain ⟨t2, ht2, Et2, ft2⟩ := mul_ev Enr Ey
    have g1 := fill4 Er Ey Eone Et1
    have g2 := fill4 Enr Ey Eone Et2
    rw [hz20] at g1 g2
    have q1 := pL_len Er Ey Eone Et1
    have q2 := pL_len Enr Ey Eone Et2
    have l8 := Enr.len
    have hu : fe uu = Go.Fp.fp V * Go.Fp.fp V - 1 := by rw [fuu, fyy, fy, fone]
    have hv : fe vv = Go.Fp.d * (Go.Fp.fp V * Go.Fp.fp V) + 1 := by rw [fvv, fdy, fD, fyy, fy, fone]
    have hyp : ∀ p : Go.Cv.Pt Go.Fp.P Go.Fp.d, enc p = k → p.y = Go.Fp.fp V := fun p hp => Fin.ext (by rw [hYv]; exact ((hkey p).1 hp).1)
    have hxx : ∀ p : Go.Cv.Pt Go.Fp.P Go.Fp.d, enc p = k → fe vv * (p.x * p.x) = fe uu := fun p hp => by
      have := x_sq p
      rw [hyp p hp] at this
      rw [hu, hv]; exact this
    have rft : ∀ b : Bool, rf (Value.tuple #[eV r, .bool b]) = true := fun b => rf_tup2 (a := eV r) (b := .bool b) (rf_eV r) rfl
    cases ok with
    | false =>
      refine .inr ⟨O, ?_, l0, fun p hp => hno rfl p.x (hxx p hp)⟩
      apply evVal_ex
      apply Exists.intro
      rw [evFun_fn (fn := a31) rfl]
      simp only [a31, ↓steps_chunk, envOf, quiet, cF, ↓pF, reduceCtorEq, Nat.reduceEqDiff, Int.reduceEq, fs_callW, fs_regionQ, quiet2_eq, lastOf_nil, lastOf_cons, List.take_succ_cons, List.take_zero, List.drop_succ_cons, List.drop_zero, Int.reduceBEq, Int.reduceBNe, ↓keepW_some, ↓qElseW_some, ↓guardW_tt, ↓guardW_ff, ↓guardW_tf, ↓guardW_ft, cL, Int.reduceLE, Int.reduceLT, Int.reduceAdd, Int.reduceMul, Int.reduceSub, Int.reduceTDiv, Int.reduceTMod, Int.reduceNeg, Int.reduceToNat, Int.reduceGT, Int.reduceGE, Int.reducePow, Nat.reduceAdd, Nat.reduceMul, Nat.reduceSub, Nat.reduceDiv, Nat.reduceMod, Nat.reducePow, Nat.reduceLT, Nat.reduceLeDiff, cJ, cU, hz20, hf0, hz5, hwc, hset, o1, hof, hcan, hbit, hshr, vone, hyy, hD, huu, hdy, hf2, hvv, hr, List.length_replicate, take_all, eV_cells, eV_size, eV_ok, eV_fold, ns_len, u8s_len, lk, lm, l0, l1, l5, l6, l7, vExtract_t, rootV, rft, rf_eV]
      rfl
    | true =>
      obtain ⟨hroot, hev⟩ := hok rfl
      have hev' : (fe r).val % 2 = 0 := by
        rcases hev with h | h
        · exact h
        · rw [h]; rfl
      by_cases hb : w / 128 = 1
      · rw [decide_eq_true hb] at hbit
        by_cases h0 : fe r = 0
        · rw [decide_eq_true h0] at kz
          refine .inr ⟨O, ?_, l0, fun p hp => ?_⟩
          · apply evVal_ex
            apply Exists.intro
            rw [evFun_fn (fn := a31) rfl]
            simp only [a31, ↓steps_chunk, envOf, quiet, cF, ↓pF, reduceCtorEq, Nat.reduceEqDiff, Int.reduceEq, fs_callW, fs_regionQ, quiet2_eq, lastOf_nil, lastOf_cons, List.take_succ_cons, List.take_zero, List.drop_succ_cons, List.drop_zero, Int.reduceBEq, Int.reduceBNe, ↓keepW_some, ↓qElseW_some, ↓guardW_tt, ↓guardW_ff, ↓guardW_tf, ↓guardW_ft, cL, Int.reduceLE, Int.reduceLT, Int.reduceAdd, Int.reduceMul, Int.reduceSub, Int.reduceTDiv, Int.reduceTMod, Int.reduceNeg, Int.reduceToNat, Int.reduceGT, Int.reduceGE, Int.reducePow, Nat.reduceAdd, Nat.reduceMul, Nat.reduceSub, Nat.reduceDiv, Nat.reduceMod, Nat.reducePow, Nat.reduceLT, Nat.reduceLeDiff, cJ, cU, hz20, hf0, hz5, hwc, hset, o1, hof, hcan, hbit, hshr, vone, hyy, hD, huu, hdy, hf2, hvv, hr, List.length_replicate, take_all, eV_cells, eV_size, eV_ok, eV_fold, ns_len, u8s_len, lk, lm, l0, l1, l5, l6, l7, vExtract_t, rootV, rft, rf_eV, kz]
            rfl
          · have h2 := ((hkey p).1 hp).2
            have h3 := hxx p hp
            rw [← hroot, h0] at h3
            have h4 : p.x * p.x = 0 * 0 := Go.Fp.fld.cancel (by rw [hv]; exact den_ne _) h3
            rcases sq_eq h4 with h5 | h5
            · rw [h5, hb] at h2; exact absurd h2 (by decide)
            · rw [h5, hb] at h2; exact absurd h2 (by decide)
        · rw [decide_eq_false h0] at kz
          have hroot' : fe vv * (-fe r * -fe r) = fe uu := by rw [← hroot]; generalize fe r = a; generalize fe vv = b; grobner
          refine .inl ⟨pL nr Y one t2, ⟨-fe r, Go.Fp.fp V, on_of hu hv hroot'⟩, ?_, ⟨nr, Y, one, t2, rfl, Enr, Ey, Eone, Et2, by rw [fone]; exact Go.Fp.one_ne, ?_, ?_, ?_⟩, (hkey _).2 ⟨hYv, ?_⟩⟩
          · generalize pL nr Y one t2 = L at *
            apply evVal_ex
            apply Exists.intro
            rw [evFun_fn (fn := a31) rfl]
            simp only [a31, ↓steps_chunk, envOf, quiet, cF, ↓pF, reduceCtorEq, Nat.reduceEqDiff, Int.reduceEq, fs_callW, fs_regionQ, quiet2_eq, lastOf_nil, lastOf_cons, List.take_succ_cons, List.take_zero, List.drop_succ_cons, List.drop_zero, Int.reduceBEq, Int.reduceBNe, ↓keepW_some, ↓qElseW_some, ↓guardW_tt, ↓guardW_ff, ↓guardW_tf, ↓guardW_ft, cL, Int.reduceLE, Int.reduceLT, Int.reduceAdd, Int.reduceMul, Int.reduceSub, Int.reduceTDiv, Int.reduceTMod, Int.reduceNeg, Int.reduceToNat, Int.reduceGT, Int.reduceGE, Int.reducePow, Nat.reduceAdd, Nat.reduceMul, Nat.reduceSub, Nat.reduceDiv, Nat.reduceMod, Nat.reducePow, Nat.reduceLT, Nat.reduceLeDiff, cJ, cU, hz20, hf0, hz5, hwc, hset, o1, hof, hcan, hbit, hshr, vone, hyy, hD, huu, hdy, hf2, hvv, hr, List.length_replicate, take_all, eV_cells, eV_size, eV_ok, eV_fold, ns_len, u8s_len, lk, lm, l0, l1, l5, l6, l7, vExtract_t, rootV, rft, rf_eV, kz, hnr, ht2, g2, q2, l8]
            rfl
          · rw [fnr, fone]; show -fe r = -fe r * 1; generalize fe r = a; grobner
          · rw [fy, fone]; show Go.Fp.fp V = Go.Fp.fp V * 1; generalize Go.Fp.fp V = a; grobner
          · rw [ft2, fnr, fy, fone]; show -fe r * Go.Fp.fp V = -fe r * Go.Fp.fp V * 1; generalize Go.Fp.fp V = a; generalize fe r = b; grobner
          · have := par_neg h0
            rw [hev'] at this
            show (-fe r).val % 2 = _
            rw [hb]; omega
      · rw [decide_eq_false hb] at hbit
        refine .inl ⟨pL r Y one t1, ⟨fe r, Go.Fp.fp V, on_of hu hv hroot⟩, ?_, ⟨r, Y, one, t1, rfl, Er, Ey, Eone, Et1, by rw [fone]; exact Go.Fp.one_ne, ?_, ?_, ?_⟩, (hkey _).2 ⟨hYv, ?_⟩⟩
        · generalize pL r Y one t1 = L at *
          apply evVal_ex
          apply Exists.intro
          rw [evFun_fn (fn := a31) rfl]
          simp only [a31, ↓steps_chunk, envOf, quiet, cF, ↓pF, reduceCtorEq, Nat.reduceEqDiff, Int.reduceEq, fs_callW, fs_regionQ, quiet2_eq, lastOf_nil, lastOf_cons, List.take_succ_cons, List.take_zero, List.drop_succ_cons, List.drop_zero, Int.reduceBEq, Int.reduceBNe, ↓keepW_some, ↓qElseW_some, ↓guardW_tt, ↓guardW_ff, ↓guardW_tf, ↓guardW_ft, cL, Int.reduceLE, Int.reduceLT, Int.reduceAdd, Int.reduceMul, Int.reduceSub, Int.reduceTDiv, Int.reduceTMod, Int.reduceNeg, Int.reduceToNat, Int.reduceGT, Int.reduceGE, Int.reducePow, Nat.reduceAdd, Nat.reduceMul, Nat.reduceSub, Nat.reduceDiv, Nat.reduceMod, Nat.reducePow, Nat.reduceLT, Nat.reduceLeDiff, cJ, cU, hz20, hf0, hz5, hwc, hset, o1, hof, hcan, hbit, hshr, vone, hyy, hD, huu, hdy, hf2, hvv, hr, List.length_replicate, take_all, eV_cells, eV_size, eV_ok, eV_fold, ns_len, u8s_len, lk, lm, l0, l1, l5, l6, l7, vExtract_t, rootV, rft, rf_eV, ht1, g1, q1]
          rfl
        · rw [fone]; show fe r = fe r * 1; generalize fe r = a; grobner
        · rw [fy, fone]; show Go.Fp.fp V = Go.Fp.fp V * 1; generalize Go.Fp.fp V = a; grobner
        · rw [ft1, fy, fone]; show fe r * Go.Fp.fp V = fe r * Go.Fp.fp V * 1; generalize Go.Fp.fp V = a; generalize fe r = b; grobner
        · show (fe r).val % 2 = _
          rw [hev']; omega
  · rw [decide_eq_false hV] at hcan
    refine .inr ⟨O, ?_, l0, fun p hp => hV ?_⟩
    · apply evVal_ex
      apply Exists.intro
      rw [evFun_fn (fn := a31) rfl]
      simp only [a31, ↓steps_chunk, envOf, quiet, cF, ↓pF, reduceCtorEq, Nat.reduceEqDiff, Int.reduceEq, fs_callW, fs_regionQ, quiet2_eq, lastOf_nil, lastOf_cons, List.take_succ_cons, List.take_zero, List.drop_succ_cons, List.drop_zero, Int.reduceBEq, Int.reduceBNe, ↓keepW_some, ↓qElseW_some, ↓guardW_tt, ↓guardW_ff, ↓guardW_tf, ↓guardW_ft, cL, Int.reduceLE, Int.reduceLT, Int.reduceAdd, Int.reduceMul, Int.reduceSub, Int.reduceTDiv, Int.reduceTMod, Int.reduceNeg, Int.reduceToNat, Int.reduceGT, Int.reduceGE, Int.reducePow, Nat.reduceAdd, Nat.reduceMul, Nat.reduceSub, Nat.reduceDiv, Nat.reduceMod, Nat.reducePow, Nat.reduceLT, Nat.reduceLeDiff, cJ, cU, hz20, hf0, hz5, hwc, hset, o1, hof, hcan, hbit, hshr, List.length_replicate, take_all, eV_cells, eV_size, eV_ok, eV_fold, ns_len, u8s_len, lk, lm, l0, l1, l5, rf_eV]
      rfl
    · rw [← ((hkey p).1 hp).1]; exact p.y.isLt
end Go.Ev.Ytaceeoghjgggjaa
set_option linter.unusedSimpArgs false
set_option linter.unusedVariables false
namespace Go.Ev.Ytaceeoghjgggjaa
open Go Go.Ev
attribute [local congr] bind_congr2 ite_congr2 qElse_congr gate_congr guardV_congr
set_option maxRecDepth 100000
theorem pzero_padd (p : Go.Cv.Pt Go.Fp.P Go.Fp.d) : padd pzero p = p := Go.Cv.zero_add Go.Fp.fld p
theorem padd_pzero (p : Go.Cv.Pt Go.Fp.P Go.Fp.d) : padd p pzero = p := Go.Cv.add_zero Go.Fp.fld p
theorem padd_neg (p : Go.Cv.Pt Go.Fp.P Go.Fp.d) : padd p p.neg = pzero := Go.Cv.add_neg Go.Fp.fld p
end Go.Ev.Ytaceeoghjgggjaa
set_option linter.unusedSimpArgs false
set_option linter.unusedVariables false
namespace Go.Ev.Ytaceeoghjgggjaa
open Go Go.Ev
attribute [local congr] bind_congr2 ite_congr2 qElse_congr gate_congr guardV_congr
set_option maxRecDepth 100000
def pf (n : Nat) (L : List Nat) (i : Nat) : List Nat := L.take i ++ List.replicate (n - i) 0
theorem pf_zero (n : Nat) (L : List Nat) : pf n L 0 = List.replicate n 0 := by simp [pf]
theorem pf_full {n : Nat} {L : List Nat} (h : L.length = n) : pf n L n = L := by simp [pf, ← h]
theorem pf_len {n : Nat} {L : List Nat} (h : L.length = n) {i : Nat} (hi : i ≤ n) : (pf n L i).length = n := by simp [pf]; omega
theorem pf_step {n i x : Nat} {L : List Nat} (h : L.length = n) (hi : i < n) (hx : L[i]? = some x) : (pf n L i).set i x = pf n L (i + 1) := by
  unfold pf
  rw [List.set_append_right _ _ (by simp; omega)]
  have e1 : (L.take i).length = i := by simp; omega
  rw [e1, Nat.sub_self]
  have e2 : n - i = (n - (i + 1)) + 1 := by omega
  rw [e2, List.replicate_succ, List.set_cons_zero, List.take_add_one, hx]
  simp
structure Nm (l : List Nat) : Prop where
  len : l.length = 16
  lt : ∀ x ∈ l, x < 65536
theorem Nm.num_lt {l : List Nat} (h : Nm l) : num 65536 l < 2 ^ 256 := by
  have := Go.Ev.num_lt h.lt
  rw [h.len] at this
  exact this
theorem Nm.dig (v : Nat) : Nm (dig 65536 16 v) := ⟨dig_len _ _ _, fun x h => dig_lt (by decide) h⟩
theorem Nm.eq {l : List Nat} (h : Nm l) : l = Go.Ev.dig 65536 16 (num 65536 l) := by
  have := dig_num (B := 65536) (by decide) h.lt
  rw [h.len] at this
  exact this.symm
theorem Nm.inj {l m : List Nat} (h : Nm l) (h' : Nm m) (e : num 65536 l = num 65536 m) : l = m := by rw [h.eq, h'.eq, e]
theorem nm_dig {v : Nat} (h : v < 2 ^ 256) : num 65536 (dig 65536 16 v) = v := by
  rw [num_dig (by decide)]; exact Nat.mod_eq_of_lt h
def nf (l : List Nat) : Go.Fp.Fe := Go.Fp.fp (num 65536 l)
theorem two_bytes {k : List Nat} (xk : ∀ x ∈ k, x < 256) {i x y : Nat} (hx : k[2 * i]? = some x) (hy : k[2 * i + 1]? = some y) : num 256 k / 65536 ^ i % 65536 = x + 256 * y := by
  have h1 := num_get (B := 256) (by decide) xk hx
  have h2 := num_get (B := 256) (by decide) xk hy
  have e : (65536 : Nat) ^ i = 256 ^ (2 * i) := by rw [show (65536 : Nat) = 256 ^ 2 from rfl, ← Nat.pow_mul]
  rw [e]
  rw [Nat.pow_succ, ← Nat.div_div_eq_div_mul] at h2
  omega
def zero16 : List Nat := List.replicate 16 0
theorem z16_eq : List.replicate 16 (Value.int .u64 0) = ns .u64 zero16 := rfl
theorem z16_fill : fillL (ns .u64 zero16) [] = some (ns .u64 zero16) := rfl
theorem z16_len : zero16.length = 16 := rfl
theorem wn {n : Nat} (h : n < 9223372036854775808) : IntKind.i64.wrap (n : Int) = n := wrap_nat h
theorem w64n {n : Nat} (h : n < 18446744073709551616) : IntKind.u64.wrap (n : Int) = n := by rw [n_w64, Nat.mod_eq_of_lt h]
theorem w64_add {a b : Nat} (h : a + b < 18446744073709551616) : IntKind.u64.wrap ((a : Int) + (b : Int)) = ((a + b : Nat) : Int) := by rw [← Int.natCast_add]; exact w64n h
theorem w64_mul {a b : Nat} (h : a * b < 18446744073709551616) : IntKind.u64.wrap ((a : Int) * (b : Int)) = ((a * b : Nat) : Int) := by rw [← Int.natCast_mul]; exact w64n h
theorem wi_add {a b : Nat} (h : a + b < 9223372036854775808) : IntKind.i64.wrap ((a : Int) + (b : Int)) = ((a + b : Nat) : Int) := by rw [← Int.natCast_add]; exact wn h
theorem wi_mul {a b : Nat} (h : a * b < 9223372036854775808) : IntKind.i64.wrap ((a : Int) * (b : Int)) = ((a * b : Nat) : Int) := by rw [← Int.natCast_mul]; exact wn h
def rofI (k o : List Nat) (i : Int) (ex : Env) : St := ⟨[(1, .pointer (some ⟨0, 0, none⟩)), (2, .pointer (some ⟨1, 0, none⟩)), (3, .pointer (some ⟨2, 0, none⟩)), (4, .int .i64 i)] ++ ex, [⟨u8s k, true, true, true, 1⟩, ⟨ns .u64 zero16, true, true, true, 1⟩, ⟨ns .u64 o, true, true, true, 1⟩], []⟩
theorem rof_body {k : List Nat} {i : Nat} (lk : k.length = 32) (xk : ∀ x ∈ k, x < 256) (hi : i < 16) :
    evCode T 0 a65_l0 (rofI k (pf 16 (dig 65536 16 (num 256 k)) i) i []) = some (.normal, rofI k (pf 16 (dig 65536 16 (num 256 k)) (i + 1)) ((i + 1 : Nat) : Int) []) := by
  obtain ⟨x, hx⟩ : ∃ x, k[2 * i]? = some x := ⟨_, List.getElem?_eq_getElem (by omega)⟩
  obtain ⟨y, hy⟩ : ∃ y, k[2 * i + 1]? = some y := ⟨_, List.getElem?_eq_getElem (by omega)⟩
  have hx' := xk x (List.mem_of_getElem? hx)
  have hy' := xk y (List.mem_of_getElem? hy)
  have hd := two_bytes xk hx hy
  have hg : (dig 65536 16 (num 256 k))[i]? = some (x + 256 * y) := by rw [dig_get hi, hd]
  have hstep := pf_step (dig_len _ _ _) hi hg
  have hlen := pf_len (dig_len 65536 16 (num 256 k)) (Nat.le_of_lt hi)
  have hset := ns_set .u64 (pf 16 (dig 65536 16 (num 256 k)) i) i (x + 256 * y)
  rw [hstep] at hset
  have hxc := u8s_get hx
  have hyc := u8s_get hy
  have w1 : IntKind.i64.wrap ((i : Int) + 1) = ((i + 1 : Nat) : Int) := wi_add (b := 1) (by omega)
  have w2 : IntKind.i64.wrap (2 * (i : Int)) = ((2 * i : Nat) : Int) := wi_mul (a := 2) (by omega)
  have w3 : IntKind.i64.wrap (((2 * i : Nat) : Int) + 1) = ((2 * i + 1 : Nat) : Int) := wi_add (b := 1) (by omega)
  have w4 : IntKind.u64.wrap (x : Int) = (x : Int) := w64n (by omega)
  have w5 : IntKind.u64.wrap (y : Int) = (y : Int) := w64n (by omega)
  have w6 : IntKind.u64.wrap (256 * (y : Int)) = ((256 * y : Nat) : Int) := w64_mul (a := 256) (by omega)
  have w7 : IntKind.u64.wrap ((x : Int) + ((256 * y : Nat) : Int)) = ((x + 256 * y : Nat) : Int) := w64_add (by omega)
  have e1 : ((i : Int) < 16) = True := eq_true (by omega)
  have e2 : (((2 * i : Nat) : Int) < 32) = True := eq_true (by omega)
  have e3 : (((2 * i + 1 : Nat) : Int) < 32) = True := eq_true (by omega)
  have e4 : (i ≤ 15) = True := eq_true (by omega)
  generalize pf 16 (dig 65536 16 (num 256 k)) i = o at *
  generalize hj : 2 * i = j at *
  generalize hj1 : j + 1 = j1 at *
  generalize hv : 256 * y = v at *
  simp only [rofI, a65_l0, envOf, quiet, cF, ↓pF, reduceCtorEq, Nat.reduceEqDiff, Int.reduceEq, fs_callW, fs_regionQ, quiet2_eq, lastOf_nil, lastOf_cons, List.take_succ_cons, List.take_zero, List.drop_succ_cons, List.drop_zero, Int.reduceBEq, Int.reduceBNe, ↓keepV_some, ↓qElse_some, ↓guardV_tt, ↓guardV_ff, ↓guardV_tf, ↓guardV_ft, cL, Int.reduceLE, Int.reduceLT, Int.reduceAdd, Int.reduceMul, Int.reduceSub, Int.reduceTDiv, Int.reduceTMod, Int.reduceNeg, Int.reduceToNat, Int.reduceGT, Int.reduceGE, Int.reducePow, Nat.reduceAdd, Nat.reduceMul, Nat.reduceSub, Nat.reduceDiv, Nat.reduceMod, Nat.reducePow, Nat.reduceLT, Nat.reduceLeDiff, cJ, hxc, hyc, w1, w2, w3, w4, w5, w6, w7, e1, e2, e3, e4, hset, ns_len, hlen]
theorem rof_v {k : List Nat} (lk : k.length = 32) (xk : ∀ x ∈ k, x < 256) : evVal T 65 [.agg (u8s k).toArray] = some (eV (dig 65536 16 (num 256 k % 2 ^ 255))) := by
  have hb := block_loop (T := T) (base := 0) (id := 0) (body := a65_l0) (fun i => rofI k (pf 16 (dig 65536 16 (num 256 k)) i) i []) (s' := rofI k (dig 65536 16 (num 256 k)) 16 [(7, .bool false)]) 16
    (fun i hi => rof_body lk xk hi) (by
      rw [pf_full (dig_len _ _ _)]
      simp only [rofI, a65_l0, envOf, quiet, cF, ↓pF, reduceCtorEq, Nat.reduceEqDiff, Int.reduceEq, fs_callW, fs_regionQ, quiet2_eq, lastOf_nil, lastOf_cons, List.take_succ_cons, List.take_zero, List.drop_succ_cons, List.drop_zero, Int.reduceBEq, Int.reduceBNe, ↓keepV_some, ↓qElse_some, ↓guardV_tt, ↓guardV_ff, ↓guardV_tf, ↓guardV_ft, cL, Int.reduceLE, Int.reduceLT, Int.reduceAdd, Int.reduceMul, Int.reduceSub, Int.reduceTDiv, Int.reduceTMod, Int.reduceNeg, Int.reduceToNat, Int.reduceGT, Int.reduceGE, Int.reducePow, Nat.reduceAdd, Nat.reduceMul, Nat.reduceSub, Nat.reduceDiv, Nat.reduceMod, Nat.reducePow, Nat.reduceLT, Nat.reduceLeDiff])
  rw [pf_zero] at hb
  have hV := num_lt xk
  rw [lk] at hV
  have hN := Nm.dig (num 256 k)
  obtain ⟨w, hw⟩ : ∃ w, (dig 65536 16 (num 256 k))[15]? = some w := ⟨_, List.getElem?_eq_getElem (by rw [dig_len]; omega)⟩
  have hw' := hN.lt w (List.mem_of_getElem? hw)
  have hwv : w = num 256 k / 65536 ^ 15 % 65536 := by rw [dig_get (by decide)] at hw; exact (Option.some.inj hw).symm
  have hs := num_set (B := 65536) (w % 32768) hw
  rw [nm_dig hV] at hs
  have hfin : (dig 65536 16 (num 256 k)).set 15 (w % 32768) = dig 65536 16 (num 256 k % 2 ^ 255) := by
    have hNs : Nm ((dig 65536 16 (num 256 k)).set 15 (w % 32768)) := ⟨by rw [List.length_set, dig_len], set_lt hN.lt (by omega)⟩
    refine hNs.eq.trans (congrArg (dig 65536 16) ?_)
    have e15 : (65536 : Nat) ^ 15 = 1766847064778384329583297500742918515827483896875618958121606201292619776 := by decide
    have e255 : (2 : Nat) ^ 255 = 57896044618658097711785492504343953926634992332820282019728792003956564819968 := by decide
    have e256 : (256 : Nat) ^ 32 = 115792089237316195423570985008687907853269984665640564039457584007913129639936 := by decide
    have hq : w = num 256 k / 65536 ^ 15 := by
      rw [e15] at hwv ⊢
      rw [e256] at hV
      omega
    have hq2 : num 256 k / 2 ^ 255 = w / 32768 := by
      rw [hq, e15, e255]
      omega
    have hdm := Nat.div_add_mod (num 256 k) (2 ^ 255)
    rw [hq2] at hdm
    rw [e15] at hs
    rw [e255] at *
    omega
  have hset := ns_set .u64 (dig 65536 16 (num 256 k)) 15 (w % 32768)
  rw [hfin] at hset
  have hwc := ns_get (k := .u64) hw
  have l1 := dig_len 65536 16 (num 256 k)
  have l2 := dig_len 65536 16 (num 256 k % 2 ^ 255)
  have hm : ((w : Int).tmod 32768) = ((w % 32768 : Nat) : Int) := rfl
  have wm : IntKind.u64.wrap ((w % 32768 : Nat) : Int) = ((w % 32768 : Nat) : Int) := w64n (by omega)
  simp only [rofI, List.cons_append, List.nil_append, Int.natCast_zero] at hb
  have hz := z16_eq
  have hf := z16_fill
  have lz := z16_len
  rw [show List.replicate 16 0 = zero16 from rfl] at hb
  generalize zero16 = Z at *
  generalize dig 65536 16 (num 256 k) = D at *
  generalize dig 65536 16 (num 256 k % 2 ^ 255) = R at *
  apply evVal_ex
  apply Exists.intro
  rw [evFun_fn (fn := a65) rfl]
  simp only [a65, ↓steps_chunk, envOf, quiet, cF, ↓pF, reduceCtorEq, Nat.reduceEqDiff, Int.reduceEq, fs_callW, fs_regionQ, quiet2_eq, lastOf_nil, lastOf_cons, List.take_succ_cons, List.take_zero, List.drop_succ_cons, List.drop_zero, Int.reduceBEq, Int.reduceBNe, ↓keepW_some, ↓qElseW_some, ↓guardW_tt, ↓guardW_ff, ↓guardW_tf, ↓guardW_ft, cL, Int.reduceLE, Int.reduceLT, Int.reduceAdd, Int.reduceMul, Int.reduceSub, Int.reduceTDiv, Int.reduceTMod, Int.reduceNeg, Int.reduceToNat, Int.reduceGT, Int.reduceGE, Int.reducePow, Nat.reduceAdd, Nat.reduceMul, Nat.reduceSub, Nat.reduceDiv, Nat.reduceMod, Nat.reducePow, Nat.reduceLT, Nat.reduceLeDiff, cJ, hz, hf, hb, hwc, hm, wm, hset, List.length_replicate, take_all, eV_cells, eV_size, eV_ok, eV_fold, ns_len, u8s_len, lk, l1, l2, lz, rf_eV]
  rfl
end Go.Ev.Ytaceeoghjgggjaa
set_option linter.unusedSimpArgs false
set_option linter.unusedVariables false
namespace Go.Ev.Ytaceeoghjgggjaa
open Go Go.Ev
attribute [local congr] bind_congr2 ite_congr2 qElse_congr gate_congr guardV_congr
set_option maxRecDepth 100000
theorem w64_sub {a b : Nat} (h : b ≤ a) (ha : a < 18446744073709551616) : IntKind.u64.wrap ((a : Int) - (b : Int)) = ((a - b : Nat) : Int) := by rw [wrap_u64]; omega
theorem cellsEq_u64 {n : Nat} {p q : List Nat} (hp : p.length = n) (hq : q.length = n) : cellsEq (List.replicate n true) (ns .u64 p) (ns .u64 q) = some (p == q) := by
  induction n generalizing p q with
  | zero => cases p with
    | nil => cases q with
      | nil => rfl
      | cons => cases hq
    | cons => cases hp
  | succ n ih => cases p with
    | nil => cases hp
    | cons a p => cases q with
      | nil => cases hq
      | cons b q =>
        have := ih (p := p) (q := q) (by simpa using hp) (by simpa using hq)
        rw [ns_cons, ns_cons, List.replicate_succ]
        simp only [cellsEq, this, cellEq, if_true, Option.bind_some, List.cons_beq_cons]
        congr 2
        by_cases h : a = b
        · subst h; simp
        · have h' : ¬ (a : Int) = (b : Int) := by omega
          rw [beq_eq_false_iff_ne.2 h, beq_eq_false_iff_ne.2 h']
def primeL : List Nat := dig 65536 16 Go.Fp.P
theorem primeL_nm : Nm primeL := Nm.dig _
theorem primeL_num : num 65536 primeL = Go.Fp.P := by decide +kernel
def rprI (o : List Nat) (i : Int) (ex : Env) : St := ⟨[(0, .pointer (some ⟨0, 0, none⟩)), (1, .pointer (some ⟨1, 0, none⟩)), (2, .int .i64 i)] ++ ex, [⟨ns .u64 zero16, true, true, true, 1⟩, ⟨ns .u64 o, true, true, true, 1⟩], []⟩
theorem rpr_body {i : Nat} (hi : i < 16) :
    evCode T 0 a87_l0 (rprI (pf 16 (List.replicate 16 65535) i) i []) = some (.normal, rprI (pf 16 (List.replicate 16 65535) (i + 1)) ((i + 1 : Nat) : Int) []) := by
  have hl : (List.replicate 16 65535).length = 16 := rfl
  have hg : (List.replicate 16 65535)[i]? = some 65535 := by rw [List.getElem?_replicate, if_pos hi]
  have hstep := pf_step hl hi hg
  have hlen := pf_len hl (Nat.le_of_lt hi)
  have hset := ns_set .u64 (pf 16 (List.replicate 16 65535) i) i 65535
  rw [hstep] at hset
  have hset' : (ns .u64 (pf 16 (List.replicate 16 65535) i)).set i (.int .u64 65535) = ns .u64 (pf 16 (List.replicate 16 65535) (i + 1)) := hset
  clear hset
  have w1 : IntKind.i64.wrap ((i : Int) + 1) = ((i + 1 : Nat) : Int) := wi_add (b := 1) (by omega)
  have e1 : ((i : Int) < 16) = True := eq_true (by omega)
  have e4 : (i ≤ 15) = True := eq_true (by omega)
  generalize pf 16 (List.replicate 16 65535) i = o at *
  simp only [rprI, a87_l0, envOf, quiet, cF, ↓pF, reduceCtorEq, Nat.reduceEqDiff, Int.reduceEq, fs_callW, fs_regionQ, quiet2_eq, lastOf_nil, lastOf_cons, List.take_succ_cons, List.take_zero, List.drop_succ_cons, List.drop_zero, Int.reduceBEq, Int.reduceBNe, ↓keepV_some, ↓qElse_some, ↓guardV_tt, ↓guardV_ff, ↓guardV_tf, ↓guardV_ft, cL, Int.reduceLE, Int.reduceLT, Int.reduceAdd, Int.reduceMul, Int.reduceSub, Int.reduceTDiv, Int.reduceTMod, Int.reduceNeg, Int.reduceToNat, Int.reduceGT, Int.reduceGE, Int.reducePow, Nat.reduceAdd, Nat.reduceMul, Nat.reduceSub, Nat.reduceDiv, Nat.reduceMod, Nat.reducePow, Nat.reduceLT, Nat.reduceLeDiff, cJ, w1, e1, e4, hset', ns_len, hlen]
theorem rprime_v : evVal T 87 [] = some (eV primeL) := by
  have hb := block_loop (T := T) (base := 0) (id := 0) (body := a87_l0) (fun i => rprI (pf 16 (List.replicate 16 65535) i) i []) (s' := rprI (List.replicate 16 65535) 16 [(5, .bool false)]) 16
    (fun i hi => rpr_body hi) (by
      rw [pf_full (n := 16) (L := List.replicate 16 65535) rfl]
      simp only [rprI, a87_l0, envOf, quiet, cF, ↓pF, reduceCtorEq, Nat.reduceEqDiff, Int.reduceEq, fs_callW, fs_regionQ, quiet2_eq, lastOf_nil, lastOf_cons, List.take_succ_cons, List.take_zero, List.drop_succ_cons, List.drop_zero, Int.reduceBEq, Int.reduceBNe, ↓keepV_some, ↓qElse_some, ↓guardV_tt, ↓guardV_ff, ↓guardV_tf, ↓guardV_ft, cL, Int.reduceLE, Int.reduceLT, Int.reduceAdd, Int.reduceMul, Int.reduceSub, Int.reduceTDiv, Int.reduceTMod, Int.reduceNeg, Int.reduceToNat, Int.reduceGT, Int.reduceGE, Int.reducePow, Nat.reduceAdd, Nat.reduceMul, Nat.reduceSub, Nat.reduceDiv, Nat.reduceMod, Nat.reducePow, Nat.reduceLT, Nat.reduceLeDiff])
  rw [pf_zero, show List.replicate 16 0 = zero16 from rfl] at hb
  simp only [rprI, List.cons_append, List.nil_append, Int.natCast_zero] at hb
  have hz := z16_eq
  have hf := z16_fill
  have lz := z16_len
  have s1 : (ns .u64 (List.replicate 16 65535)).set 0 (.int .u64 65517) = ns .u64 (65517 :: List.replicate 15 65535) := rfl
  have s2 : (ns .u64 (65517 :: List.replicate 15 65535)).set 15 (.int .u64 32767) = ns .u64 primeL := by
    have : primeL = (65517 :: List.replicate 15 65535).set 15 32767 := by decide +kernel
    rw [this]; rfl
  have l1 : (List.replicate 16 65535).length = 16 := rfl
  have l2 : (65517 :: List.replicate 15 65535).length = 16 := rfl
  have l3 := primeL_nm.len
  generalize zero16 = Z at *
  generalize primeL = R at *
  generalize 65517 :: List.replicate 15 65535 = M at *
  generalize List.replicate 16 65535 = L at *
  apply evVal_ex
  apply Exists.intro
  rw [evFun_fn (fn := a87) rfl]
  simp only [a87, ↓steps_chunk, envOf, quiet, cF, ↓pF, reduceCtorEq, Nat.reduceEqDiff, Int.reduceEq, fs_callW, fs_regionQ, quiet2_eq, lastOf_nil, lastOf_cons, List.take_succ_cons, List.take_zero, List.drop_succ_cons, List.drop_zero, Int.reduceBEq, Int.reduceBNe, ↓keepW_some, ↓qElseW_some, ↓guardW_tt, ↓guardW_ff, ↓guardW_tf, ↓guardW_ft, cL, Int.reduceLE, Int.reduceLT, Int.reduceAdd, Int.reduceMul, Int.reduceSub, Int.reduceTDiv, Int.reduceTMod, Int.reduceNeg, Int.reduceToNat, Int.reduceGT, Int.reduceGE, Int.reducePow, Nat.reduceAdd, Nat.reduceMul, Nat.reduceSub, Nat.reduceDiv, Nat.reduceMod, Nat.reducePow, Nat.reduceLT, Nat.reduceLeDiff, cJ, hz, hf, hb, s1, s2, List.length_replicate, take_all, eV_cells, eV_size, eV_ok, eV_fold, ns_len, l1, l2, l3, lz, rf_eV]
  rfl
def smallL (n : Nat) : List Nat := n % 65536 :: n / 65536 % 65536 :: List.replicate 14 0
theorem smallL_nm (n : Nat) : Nm (smallL n) := ⟨rfl, fun x hx => by
  simp only [smallL, List.mem_cons, List.mem_replicate] at hx
  omega⟩
theorem smallL_num {n : Nat} (h : n < 4294967296) : num 65536 (smallL n) = n := by
  have : num 65536 (List.replicate 14 0) = 0 := by decide
  simp only [smallL, num, this]
  omega
theorem small_fill (a b : Nat) : fillL (ns .u64 zero16) [(0, 1, .int .u64 (a : Int)), (1, 1, .int .u64 (b : Int))] = some (ns .u64 (a :: b :: List.replicate 14 0)) := rfl
theorem rsmall_v (n : Nat) (hn : n < 18446744073709551616) : evVal T 70 [.int .u64 (n : Nat)] = some (eV (smallL n)) := by
  have hz := z16_eq
  have lz := z16_len
  have hf := small_fill (n % 65536) (n / 65536 % 65536)
  have e1 : (n : Int).tmod 65536 = ((n % 65536 : Nat) : Int) := rfl
  have e2 : (n : Int).tdiv 65536 = ((n / 65536 : Nat) : Int) := rfl
  have e3 : (((n / 65536 : Nat) : Int)).tmod 65536 = ((n / 65536 % 65536 : Nat) : Int) := rfl
  have w1 : IntKind.u64.wrap ((n % 65536 : Nat) : Int) = ((n % 65536 : Nat) : Int) := w64n (by omega)
  have w2 : IntKind.u64.wrap ((n / 65536 : Nat) : Int) = ((n / 65536 : Nat) : Int) := w64n (by omega)
  have w3 : IntKind.u64.wrap ((n / 65536 % 65536 : Nat) : Int) = ((n / 65536 % 65536 : Nat) : Int) := w64n (by omega)
  have hl : (n % 65536 :: n / 65536 % 65536 :: List.replicate 14 0).length = 16 := rfl
  unfold smallL
  generalize zero16 = Z at *
  generalize n % 65536 :: n / 65536 % 65536 :: List.replicate 14 0 = R at *
  apply evVal_ex
  apply Exists.intro
  rw [evFun_fn (fn := a70) rfl]
  simp only [a70, ↓steps_chunk, envOf, quiet, cF, ↓pF, reduceCtorEq, Nat.reduceEqDiff, Int.reduceEq, fs_callW, fs_regionQ, quiet2_eq, lastOf_nil, lastOf_cons, List.take_succ_cons, List.take_zero, List.drop_succ_cons, List.drop_zero, Int.reduceBEq, Int.reduceBNe, ↓keepW_some, ↓qElseW_some, ↓guardW_tt, ↓guardW_ff, ↓guardW_tf, ↓guardW_ft, cL, Int.reduceLE, Int.reduceLT, Int.reduceAdd, Int.reduceMul, Int.reduceSub, Int.reduceTDiv, Int.reduceTMod, Int.reduceNeg, Int.reduceToNat, Int.reduceGT, Int.reduceGE, Int.reducePow, Nat.reduceAdd, Nat.reduceMul, Nat.reduceSub, Nat.reduceDiv, Nat.reduceMod, Nat.reducePow, Nat.reduceLT, Nat.reduceLeDiff, cJ, hz, hf, e1, e2, e3, w1, w2, w3, List.length_replicate, take_all, eV_cells, eV_size, eV_ok, eV_fold, ns_len, hl, lz, rf_eV]
  rfl
theorem pf2_step {n i x : Nat} {o : List Nat} (h : o.length = i) (hi : i < n) : (o ++ List.replicate (n - i) 0).set i x = (o ++ [x]) ++ List.replicate (n - (i + 1)) 0 := by
  rw [List.set_append_right _ _ (by omega), h, Nat.sub_self]
  have e2 : n - i = (n - (i + 1)) + 1 := by omega
  rw [e2, List.replicate_succ, List.set_cons_zero]
  simp
theorem pf2_len {n i : Nat} {o : List Nat} (h : o.length = i) (hi : i ≤ n) : (o ++ List.replicate (n - i) 0).length = n := by simp; omega
theorem num_snoc (B : Nat) (o : List Nat) (x : Nat) : num B (o ++ [x]) = num B o + B ^ o.length * x := by
  rw [num_append]; simp [num]
def rmI (a b o : List Nat) (r : Nat) (i : Int) (ex : Env) : St := ⟨[(2, .pointer (some ⟨0, 0, none⟩)), (3, .pointer (some ⟨1, 0, none⟩)), (4, .pointer (some ⟨2, 0, none⟩)), (5, .pointer (some ⟨3, 0, none⟩)), (6, .int .u64 r), (7, .int .i64 i)] ++ ex, [⟨ns .u64 a, true, true, true, 1⟩, ⟨ns .u64 b, true, true, true, 1⟩, ⟨ns .u64 zero16, true, true, true, 1⟩, ⟨ns .u64 o, true, true, true, 1⟩], []⟩
theorem rm_body {a b o : List Nat} {i r : Nat} (ha : Nm a) (hb : Nm b) (hi : i < 16) (ho : o.length = i) (hr : r ≤ 1) (xo : ∀ x ∈ o, x < 65536)
    (hn : num 65536 (a.take i) + 65536 ^ i * r = num 65536 (b.take i) + num 65536 o) :
    ∃ x r', evCode T 0 a90_l0 (rmI a b (o ++ List.replicate (16 - i) 0) r i []) = some (.normal, rmI a b ((o ++ [x]) ++ List.replicate (16 - (i + 1)) 0) r' ((i + 1 : Nat) : Int) []) ∧ x < 65536 ∧ r' ≤ 1 ∧
      num 65536 (a.take (i + 1)) + 65536 ^ (i + 1) * r' = num 65536 (b.take (i + 1)) + num 65536 (o ++ [x]) := by
  obtain ⟨x, hx⟩ : ∃ x, a[i]? = some x := ⟨_, List.getElem?_eq_getElem (by rw [ha.len]; omega)⟩
  obtain ⟨y, hy⟩ : ∃ y, b[i]? = some y := ⟨_, List.getElem?_eq_getElem (by rw [hb.len]; omega)⟩
  have hx' := ha.lt x (List.mem_of_getElem? hx)
  have hy' := hb.lt y (List.mem_of_getElem? hy)
  refine ⟨(x + 65536 - y - r) % 65536, 1 - (x + 65536 - y - r) / 65536, ?_, by omega, by omega, ?_⟩
  · have hset := ns_set .u64 (o ++ List.replicate (16 - i) 0) i ((x + 65536 - y - r) % 65536)
    rw [pf2_step ho hi] at hset
    have hlen := pf2_len ho (Nat.le_of_lt hi)
    have hxc := ns_get (k := .u64) hx
    have hyc := ns_get (k := .u64) hy
    have l1 := ha.len
    have l2 := hb.len
    have w1 : IntKind.i64.wrap ((i : Int) + 1) = ((i + 1 : Nat) : Int) := wi_add (b := 1) (by omega)
    have w2 : IntKind.u64.wrap ((x : Int) + 65536) = ((x + 65536 : Nat) : Int) := w64_add (b := 65536) (by omega)
    have w3 : IntKind.u64.wrap (((x + 65536 : Nat) : Int) - (y : Int)) = ((x + 65536 - y : Nat) : Int) := w64_sub (by omega) (by omega)
    have w4 : IntKind.u64.wrap (((x + 65536 - y : Nat) : Int) - (r : Int)) = ((x + 65536 - y - r : Nat) : Int) := w64_sub (by omega) (by omega)
    have w5 : (((x + 65536 - y - r : Nat) : Int)).tmod 65536 = (((x + 65536 - y - r) % 65536 : Nat) : Int) := rfl
    have w6 : IntKind.u64.wrap ((((x + 65536 - y - r : Nat) : Int)).tdiv 65536) = (((x + 65536 - y - r) / 65536 : Nat) : Int) := w64n (n := (x + 65536 - y - r) / 65536) (by omega)
    have w7 : IntKind.u64.wrap (1 - (((x + 65536 - y - r) / 65536 : Nat) : Int)) = ((1 - (x + 65536 - y - r) / 65536 : Nat) : Int) := w64_sub (a := 1) (by omega) (by omega)
    have e1 : ((i : Int) < 16) = True := eq_true (by omega)
    have e4 : (i ≤ 15) = True := eq_true (by omega)
    generalize (o ++ List.replicate (16 - i) 0) = O at *
    generalize (o ++ [(x + 65536 - y - r) % 65536] ++ List.replicate (16 - (i + 1)) 0) = O' at *
    generalize (x + 65536 - y - r) / 65536 = q at *
    generalize (x + 65536 - y - r) % 65536 = m at *
    generalize x + 65536 - y - r = v1 at *
    generalize x + 65536 - y = v2 at *
    generalize x + 65536 = v3 at *
    generalize 1 - q = v4 at *
    generalize i + 1 = i1 at *
    simp only [rmI, a90_l0, envOf, quiet, cF, ↓pF, reduceCtorEq, Nat.reduceEqDiff, Int.reduceEq, fs_callW, fs_regionQ, quiet2_eq, lastOf_nil, lastOf_cons, List.take_succ_cons, List.take_zero, List.drop_succ_cons, List.drop_zero, Int.reduceBEq, Int.reduceBNe, ↓keepV_some, ↓qElse_some, ↓guardV_tt, ↓guardV_ff, ↓guardV_tf, ↓guardV_ft, cL, Int.reduceLE, Int.reduceLT, Int.reduceAdd, Int.reduceMul, Int.reduceSub, Int.reduceTDiv, Int.reduceTMod, Int.reduceNeg, Int.reduceToNat, Int.reduceGT, Int.reduceGE, Int.reducePow, Nat.reduceAdd, Nat.reduceMul, Nat.reduceSub, Nat.reduceDiv, Nat.reduceMod, Nat.reducePow, Nat.reduceLT, Nat.reduceLeDiff, cJ, hxc, hyc, w1, w2, w3, w4, w5, w6, w7, e1, e4, hset, ns_len, hlen, l1, l2]
  · rw [num_take hx, num_take hy, num_snoc, ho]
    have h : x + 65536 * (1 - (x + 65536 - y - r) / 65536) = y + r + (x + 65536 - y - r) % 65536 := by omega
    generalize (x + 65536 - y - r) % 65536 = m at *
    generalize 1 - (x + 65536 - y - r) / 65536 = q at *
    have h2 := congrArg (fun t => t * 65536 ^ i) h
    simp only [Nat.add_mul] at h2
    rw [Nat.pow_succ]
    generalize 65536 ^ i = p at *
    rw [Nat.mul_comm p r] at hn
    rw [Nat.mul_assoc p, Nat.mul_comm p (65536 * q), Nat.mul_comm p m]
    omega
theorem rminus_v {a b : List Nat} (ha : Nm a) (hb : Nm b) (h : num 65536 b ≤ num 65536 a) : evVal T 90 [eV a, eV b] = some (eV (dig 65536 16 (num 65536 a - num 65536 b))) := by
  obtain ⟨st, hl, o, r, rfl, h1, h2, h3, h4⟩ := block_inv (T := T) (base := 0) (id := 0) (body := a90_l0)
    (fun i st => ∃ (o : List Nat) (r : Nat), st = rmI a b (o ++ List.replicate (16 - i) 0) r i [] ∧ o.length = i ∧ r ≤ 1 ∧ (∀ x ∈ o, x < 65536) ∧ num 65536 (a.take i) + 65536 ^ i * r = num 65536 (b.take i) + num 65536 o)
    (Q := fun st => ∃ (o : List Nat) (r : Nat), st = rmI a b o r 16 [(11, .bool false)] ∧ o.length = 16 ∧ r ≤ 1 ∧ (∀ x ∈ o, x < 65536) ∧ num 65536 a + 65536 ^ 16 * r = num 65536 b + num 65536 o)
    16 (s := rmI a b zero16 0 0 []) ⟨[], 0, rfl, rfl, by omega, by simp, by simp [num]⟩
    (fun i st hi hs => by
      obtain ⟨o, r, rfl, h1, h2, h3, h4⟩ := hs
      obtain ⟨x, r', g1, g2, g3, g4⟩ := rm_body ha hb hi h1 h2 h3 h4
      refine ⟨_, g1, o ++ [x], r', rfl, by simp [h1], g3, ?_, g4⟩
      intro y hy
      rcases List.mem_append.1 hy with hy | hy
      · exact h3 y hy
      · rw [List.mem_singleton.1 hy]; exact g2)
    (fun st hs => by
      obtain ⟨o, r, rfl, h1, h2, h3, h4⟩ := hs
      rw [List.take_of_length_le (by rw [ha.len]; omega), List.take_of_length_le (by rw [hb.len]; omega)] at h4
      refine ⟨_, ?_, o, r, rfl, h1, h2, h3, h4⟩
      rw [Nat.sub_self, List.replicate_zero, List.append_nil]
      simp only [rmI, a90_l0, envOf, quiet, cF, ↓pF, reduceCtorEq, Nat.reduceEqDiff, Int.reduceEq, fs_callW, fs_regionQ, quiet2_eq, lastOf_nil, lastOf_cons, List.take_succ_cons, List.take_zero, List.drop_succ_cons, List.drop_zero, Int.reduceBEq, Int.reduceBNe, ↓keepV_some, ↓qElse_some, ↓guardV_tt, ↓guardV_ff, ↓guardV_tf, ↓guardV_ft, cL, Int.reduceLE, Int.reduceLT, Int.reduceAdd, Int.reduceMul, Int.reduceSub, Int.reduceTDiv, Int.reduceTMod, Int.reduceNeg, Int.reduceToNat, Int.reduceGT, Int.reduceGE, Int.reducePow, Nat.reduceAdd, Nat.reduceMul, Nat.reduceSub, Nat.reduceDiv, Nat.reduceMod, Nat.reducePow, Nat.reduceLT, Nat.reduceLeDiff])
  have hN : Nm o := ⟨h1, h3⟩
  have hlt := hN.num_lt
  have hr : r = 0 := by
    rcases Nat.eq_zero_or_pos r with h0 | h0
    · exact h0
    · exfalso
      have : r = 1 := by omega
      subst this
      rw [show (65536 : Nat) ^ 16 = 2 ^ 256 by decide] at h4
      generalize (2 : Nat) ^ 256 = M at *
      omega
  subst hr
  have ho : o = dig 65536 16 (num 65536 a - num 65536 b) := by
    rw [hN.eq]
    refine congrArg (dig 65536 16) ?_
    generalize (65536 : Nat) ^ 16 = M at *
    omega
  rw [← ho]
  have hz := z16_eq
  have hf := z16_fill
  have lz := z16_len
  have l1 := ha.len
  have l2 := hb.len
  simp only [rmI, List.cons_append, List.nil_append, Int.natCast_zero] at hl
  generalize zero16 = Z at *
  apply evVal_ex
  apply Exists.intro
  rw [evFun_fn (fn := a90) rfl]
  simp only [a90, ↓steps_chunk, envOf, quiet, cF, ↓pF, reduceCtorEq, Nat.reduceEqDiff, Int.reduceEq, fs_callW, fs_regionQ, quiet2_eq, lastOf_nil, lastOf_cons, List.take_succ_cons, List.take_zero, List.drop_succ_cons, List.drop_zero, Int.reduceBEq, Int.reduceBNe, ↓keepW_some, ↓qElseW_some, ↓guardW_tt, ↓guardW_ff, ↓guardW_tf, ↓guardW_ft, cL, Int.reduceLE, Int.reduceLT, Int.reduceAdd, Int.reduceMul, Int.reduceSub, Int.reduceTDiv, Int.reduceTMod, Int.reduceNeg, Int.reduceToNat, Int.reduceGT, Int.reduceGE, Int.reducePow, Nat.reduceAdd, Nat.reduceMul, Nat.reduceSub, Nat.reduceDiv, Nat.reduceMod, Nat.reducePow, Nat.reduceLT, Nat.reduceLeDiff, cJ, hz, hf, hl, List.length_replicate, take_all, eV_cells, eV_size, eV_ok, eV_fold, ns_len, l1, l2, h1, lz, rf_eV]
  rfl
end Go.Ev.Ytaceeoghjgggjaa
set_option linter.unusedSimpArgs false
set_option linter.unusedVariables false
namespace Go.Ev.Ytaceeoghjgggjaa
open Go Go.Ev
attribute [local congr] bind_congr2 ite_congr2 qElse_congr gate_congr guardV_congr
set_option maxRecDepth 100000
theorem num_splitB {B : Nat} {a : List Nat} {m x : Nat} (h : a[m]? = some x) : num B a = num B (a.take m) + x * B ^ m + B ^ (m + 1) * num B (a.drop (m + 1)) := by
  have hm : m < a.length := (List.getElem?_eq_some_iff.1 h).1
  conv => lhs; rw [← List.take_append_drop (m + 1) a, num_append, num_take h]
  rw [List.length_take, Nat.min_eq_left (by omega)]
theorem num_take_ltB {B : Nat} {a : List Nat} {m : Nat} (ha : ∀ x ∈ a, x < B) (hm : m ≤ a.length) : num B (a.take m) < B ^ m := by
  have := num_lt (B := B) (l := a.take m) fun x hx => ha x (List.mem_of_mem_take hx)
  rwa [List.length_take, Nat.min_eq_left hm] at this
theorem less_atB {B : Nat} {a b : List Nat} {m x y : Nat} (hl : a.length = b.length) (ha : ∀ x ∈ a, x < B) (hb : ∀ x ∈ b, x < B) (hx : a[m]? = some x) (hy : b[m]? = some y) (hne : x ≠ y) (hd : a.drop (m + 1) = b.drop (m + 1)) : (num B a < num B b) ↔ x < y := by
  have hm : m < a.length := (List.getElem?_eq_some_iff.1 hx).1
  rw [num_splitB hx, num_splitB hy, hd]
  have h1 := num_take_ltB (m := m) ha (by omega)
  have h2 := num_take_ltB (m := m) hb (by omega)
  rcases Nat.lt_or_ge x y with h | h
  · have : (x + 1) * B ^ m ≤ y * B ^ m := Nat.mul_le_mul_right _ h
    rw [Nat.add_mul, Nat.one_mul] at this
    constructor <;> intro <;> omega
  · have : (y + 1) * B ^ m ≤ x * B ^ m := Nat.mul_le_mul_right _ (by omega)
    rw [Nat.add_mul, Nat.one_mul] at this
    constructor <;> intro <;> omega
def rlsI (a b : List Nat) (i : Int) (ex : Env) : St := ⟨[(2, .pointer (some ⟨0, 0, none⟩)), (3, .pointer (some ⟨1, 0, none⟩)), (5, .int .i64 i)] ++ ex, [⟨ns .u64 a, true, true, true, 1⟩, ⟨ns .u64 b, true, true, true, 1⟩], []⟩
theorem rless_loop {a b : List Nat} (ha : Nm a) (hb : Nm b) :
    ∀ m, m ≤ 16 → a.drop m = b.drop m → evCode T 0 (.loop a93_l0) (rlsI a b ((m : Int) - 1) []) =
      if a = b then some (.exit 0, rlsI a b (-1) [(7, .bool false)]) else some (.ret, ⟨[(4, .bool (decide (num 65536 a < num 65536 b)))], [⟨ns .u64 a, true, true, true, 1⟩, ⟨ns .u64 b, true, true, true, 1⟩], []⟩)
  | 0, _, hd => by
    rw [List.drop_zero, List.drop_zero] at hd
    rw [if_pos hd, evCode_loop]
    have e : ((0 : Int) ≤ -1) = False := by decide
    simp only [rlsI, a93_l0, envOf, quiet, cF, ↓pF, reduceCtorEq, Nat.reduceEqDiff, Int.reduceEq, fs_callW, fs_regionQ, quiet2_eq, lastOf_nil, lastOf_cons, List.take_succ_cons, List.take_zero, List.drop_succ_cons, List.drop_zero, Int.reduceBEq, Int.reduceBNe, ↓keepV_some, ↓qElse_some, ↓guardV_tt, ↓guardV_ff, ↓guardV_tf, ↓guardV_ft, cL, Int.reduceLE, Int.reduceLT, Int.reduceAdd, Int.reduceMul, Int.reduceSub, Int.reduceTDiv, Int.reduceTMod, Int.reduceNeg, Int.reduceToNat, Int.reduceGT, Int.reduceGE, Int.reducePow, Nat.reduceAdd, Nat.reduceMul, Nat.reduceSub, Nat.reduceDiv, Nat.reduceMod, Nat.reducePow, Nat.reduceLT, Nat.reduceLeDiff, Int.zero_sub, e]
  | m + 1, hm, hd => by
    obtain ⟨x, hx⟩ : ∃ x, a[m]? = some x := ⟨_, List.getElem?_eq_getElem (by rw [ha.len]; omega)⟩
    obtain ⟨y, hy⟩ : ∃ y, b[m]? = some y := ⟨_, List.getElem?_eq_getElem (by rw [hb.len]; omega)⟩
    have c1 := ns_get (k := .u64) hx
    have c2 := ns_get (k := .u64) hy
    have l1 := ha.len
    have l2 := hb.len
    have e0 : (((m + 1 : Nat) : Int) - 1) = (m : Int) := by omega
    have e1 : ((0 : Int) ≤ (m : Int)) = True := eq_true (by omega)
    have e2 : ((m : Int) < 16) = True := eq_true (by omega)
    have e3 : IntKind.i64.wrap ((m : Int) - 1) = (m : Int) - 1 := wrapI64_small (by omega) (by omega)
    rw [e0, evCode_loop]
    by_cases hxy : x = y
    · subst hxy
      have hd' : a.drop m = b.drop m := by
        rw [List.drop_eq_getElem?_toList_append, hx, hd, ← hy, ← List.drop_eq_getElem?_toList_append]
      have ih := rless_loop ha hb m (by omega) hd'
      rw [← ih]
      simp only [rlsI, a93_l0, envOf, quiet, cF, ↓pF, reduceCtorEq, Nat.reduceEqDiff, Int.reduceEq, fs_callW, fs_regionQ, quiet2_eq, lastOf_nil, lastOf_cons, List.take_succ_cons, List.take_zero, List.drop_succ_cons, List.drop_zero, Int.reduceBEq, Int.reduceBNe, ↓keepV_some, ↓qElse_some, ↓guardV_tt, ↓guardV_ff, ↓guardV_tf, ↓guardV_ft, cL, Int.reduceLE, Int.reduceLT, Int.reduceAdd, Int.reduceMul, Int.reduceSub, Int.reduceTDiv, Int.reduceTMod, Int.reduceNeg, Int.reduceToNat, Int.reduceGT, Int.reduceGE, Int.reducePow, Nat.reduceAdd, Nat.reduceMul, Nat.reduceSub, Nat.reduceDiv, Nat.reduceMod, Nat.reducePow, Nat.reduceLT, Nat.reduceLeDiff, e1, e2, e3, c1, c2, l1, l2, ns_len]
    · have hab : ¬ a = b := fun h => by subst h; rw [hx] at hy; cases hy; exact hxy rfl
      rw [if_neg hab]
      have hne : ((x : Int) != (y : Int)) = true := by simp; omega
      have hlt := less_atB (by rw [l1, l2]) ha.lt hb.lt hx hy hxy hd
      have hdec : decide ((x : Int) < (y : Int)) = decide (num 65536 a < num 65536 b) := by
        by_cases h : x < y
        · rw [decide_eq_true (hlt.2 h), decide_eq_true (by omega)]
        · rw [decide_eq_false (fun k => h (hlt.1 k)), decide_eq_false (by omega)]
      simp only [rlsI, a93_l0, envOf, quiet, cF, ↓pF, reduceCtorEq, Nat.reduceEqDiff, Int.reduceEq, fs_callW, fs_regionQ, quiet2_eq, lastOf_nil, lastOf_cons, List.take_succ_cons, List.take_zero, List.drop_succ_cons, List.drop_zero, Int.reduceBEq, Int.reduceBNe, ↓keepV_some, ↓qElse_some, ↓guardV_tt, ↓guardV_ff, ↓guardV_tf, ↓guardV_ft, cL, Int.reduceLE, Int.reduceLT, Int.reduceAdd, Int.reduceMul, Int.reduceSub, Int.reduceTDiv, Int.reduceTMod, Int.reduceNeg, Int.reduceToNat, Int.reduceGT, Int.reduceGE, Int.reducePow, Nat.reduceAdd, Nat.reduceMul, Nat.reduceSub, Nat.reduceDiv, Nat.reduceMod, Nat.reducePow, Nat.reduceLT, Nat.reduceLeDiff, e1, e2, e3, c1, c2, hne, hdec, l1, l2, ns_len]
theorem rless_v {a b : List Nat} (ha : Nm a) (hb : Nm b) : evVal T 93 [eV a, eV b] = some (.bool (decide (num 65536 a < num 65536 b))) := by
  have hl := rless_loop ha hb 16 (Nat.le_refl _) (by rw [List.drop_of_length_le (by rw [ha.len]; omega), List.drop_of_length_le (by rw [hb.len]; omega)])
  have l1 := ha.len
  have l2 := hb.len
  have e0 : (((16 : Nat) : Int) - 1) = 15 := by decide
  rw [e0] at hl
  simp only [rlsI, List.cons_append, List.nil_append] at hl
  by_cases hab : a = b
  · rw [if_pos hab] at hl
    subst hab
    apply evVal_ex
    apply Exists.intro
    rw [evFun_fn (fn := a93) rfl]
    have hd : decide (num 65536 a < num 65536 a) = false := by simp
    simp only [a93, ↓steps_chunk, envOf, quiet, cF, ↓pF, reduceCtorEq, Nat.reduceEqDiff, Int.reduceEq, fs_callW, fs_regionQ, quiet2_eq, lastOf_nil, lastOf_cons, List.take_succ_cons, List.take_zero, List.drop_succ_cons, List.drop_zero, Int.reduceBEq, Int.reduceBNe, ↓keepW_some, ↓qElseW_some, ↓guardW_tt, ↓guardW_ff, ↓guardW_tf, ↓guardW_ft, cL, Int.reduceLE, Int.reduceLT, Int.reduceAdd, Int.reduceMul, Int.reduceSub, Int.reduceTDiv, Int.reduceTMod, Int.reduceNeg, Int.reduceToNat, Int.reduceGT, Int.reduceGE, Int.reducePow, Nat.reduceAdd, Nat.reduceMul, Nat.reduceSub, Nat.reduceDiv, Nat.reduceMod, Nat.reducePow, Nat.reduceLT, Nat.reduceLeDiff, cJ, evCode_block, hl, hd, List.length_replicate, take_all, eV_cells, eV_size, eV_ok, eV_fold, ns_len, l1, l2, rf_eV]
    rfl
  · rw [if_neg hab] at hl
    apply evVal_ex
    apply Exists.intro
    rw [evFun_fn (fn := a93) rfl]
    simp only [a93, ↓steps_chunk, envOf, quiet, cF, ↓pF, reduceCtorEq, Nat.reduceEqDiff, Int.reduceEq, fs_callW, fs_regionQ, quiet2_eq, lastOf_nil, lastOf_cons, List.take_succ_cons, List.take_zero, List.drop_succ_cons, List.drop_zero, Int.reduceBEq, Int.reduceBNe, ↓keepW_some, ↓qElseW_some, ↓guardW_tt, ↓guardW_ff, ↓guardW_tf, ↓guardW_ft, cL, Int.reduceLE, Int.reduceLT, Int.reduceAdd, Int.reduceMul, Int.reduceSub, Int.reduceTDiv, Int.reduceTMod, Int.reduceNeg, Int.reduceToNat, Int.reduceGT, Int.reduceGE, Int.reducePow, Nat.reduceAdd, Nat.reduceMul, Nat.reduceSub, Nat.reduceDiv, Nat.reduceMod, Nat.reducePow, Nat.reduceLT, Nat.reduceLeDiff, cJ, evCode_block, hl, List.length_replicate, take_all, eV_cells, eV_size, eV_ok, eV_fold, ns_len, l1, l2, rf_eV]
    rfl
def rcaI (a : List Nat) (ex : Env) : St := ⟨[(1, .pointer (some ⟨0, 0, none⟩)), (2, .pointer (some ⟨1, 0, none⟩))] ++ ex, [⟨ns .u64 a, true, true, true, 1⟩, ⟨ns .u64 zero16, true, true, true, 1⟩], []⟩
theorem rcanon_v {a : List Nat} (ha : Nm a) : evVal T 85 [eV a] = some (eV (dig 65536 16 (num 65536 a % Go.Fp.P))) := by
  have hp := rprime_v
  have hP := primeL_nm
  have hPn := primeL_num
  have hlt := ha.num_lt
  obtain ⟨V, hV⟩ : ∃ V, V = num 65536 a := ⟨_, rfl⟩
  rw [← hV] at hlt ⊢
  have haV : a = dig 65536 16 V := by rw [hV]; exact ha.eq
  have hdm := Nat.div_add_mod V Go.Fp.P
  have lP := hP.len
  obtain ⟨st, hl, rfl⟩ := block_inv (T := T) (base := 0) (id := 0) (body := a85_l0)
    (fun i st => st = rcaI (dig 65536 16 (V - i * Go.Fp.P)) [])
    (Q := fun st => st = rcaI (dig 65536 16 (V % Go.Fp.P)) [(6, .bool false)])
    (V / Go.Fp.P) (s := rcaI a []) (by rw [Nat.zero_mul, Nat.sub_zero, ← haV])
    (fun i st hi hs => by
      subst hs
      have h1 : (i + 1) * Go.Fp.P ≤ V := Nat.le_trans (Nat.mul_le_mul_right _ hi) (Nat.div_mul_le_self V Go.Fp.P)
      rw [Nat.add_mul, Nat.one_mul] at h1
      have hN := Nm.dig (V - i * Go.Fp.P)
      have hn := nm_dig (v := V - i * Go.Fp.P) (by omega)
      have g1 := rless_v hN hP
      have g2 := rminus_v hN hP (by rw [hn, hPn]; omega)
      rw [hn, hPn, decide_eq_false (by omega)] at g1
      rw [hn, hPn, show V - i * Go.Fp.P - Go.Fp.P = V - (i + 1) * Go.Fp.P by rw [Nat.add_mul, Nat.one_mul]; omega] at g2
      have l1 := hN.len
      have l2 := dig_len 65536 16 (V - (i + 1) * Go.Fp.P)
      generalize dig 65536 16 (V - i * Go.Fp.P) = A at *
      generalize dig 65536 16 (V - (i + 1) * Go.Fp.P) = A' at *
      generalize primeL = PL at *
      refine ⟨_, ?_, rfl⟩
      simp only [rcaI, a85_l0, envOf, quiet, cF, ↓pF, reduceCtorEq, Nat.reduceEqDiff, Int.reduceEq, fs_callW, fs_regionQ, quiet2_eq, lastOf_nil, lastOf_cons, List.take_succ_cons, List.take_zero, List.drop_succ_cons, List.drop_zero, Int.reduceBEq, Int.reduceBNe, ↓keepV_some, ↓qElse_some, ↓guardV_tt, ↓guardV_ff, ↓guardV_tf, ↓guardV_ft, cL, Int.reduceLE, Int.reduceLT, Int.reduceAdd, Int.reduceMul, Int.reduceSub, Int.reduceTDiv, Int.reduceTMod, Int.reduceNeg, Int.reduceToNat, Int.reduceGT, Int.reduceGE, Int.reducePow, Nat.reduceAdd, Nat.reduceMul, Nat.reduceSub, Nat.reduceDiv, Nat.reduceMod, Nat.reducePow, Nat.reduceLT, Nat.reduceLeDiff, cJ, hp, g1, g2, eV_cells, eV_size, eV_ok, eV_fold, ns_len, l1, l2, lP, take_all, rf_eV])
    (fun st hs => by
      subst hs
      have e : V - V / Go.Fp.P * Go.Fp.P = V % Go.Fp.P := by rw [Nat.mul_comm]; omega
      rw [e]
      have hm := Nat.mod_lt V (by decide : 0 < Go.Fp.P)
      have hN := Nm.dig (V % Go.Fp.P)
      have hn := nm_dig (v := V % Go.Fp.P) (Nat.lt_of_lt_of_le hm (by decide))
      have g1 := rless_v hN hP
      rw [hn, hPn, decide_eq_true hm] at g1
      have l1 := hN.len
      generalize dig 65536 16 (V % Go.Fp.P) = A at *
      generalize primeL = PL at *
      refine ⟨_, ?_, rfl⟩
      simp only [rcaI, a85_l0, envOf, quiet, cF, ↓pF, reduceCtorEq, Nat.reduceEqDiff, Int.reduceEq, fs_callW, fs_regionQ, quiet2_eq, lastOf_nil, lastOf_cons, List.take_succ_cons, List.take_zero, List.drop_succ_cons, List.drop_zero, Int.reduceBEq, Int.reduceBNe, ↓keepV_some, ↓qElse_some, ↓guardV_tt, ↓guardV_ff, ↓guardV_tf, ↓guardV_ft, cL, Int.reduceLE, Int.reduceLT, Int.reduceAdd, Int.reduceMul, Int.reduceSub, Int.reduceTDiv, Int.reduceTMod, Int.reduceNeg, Int.reduceToNat, Int.reduceGT, Int.reduceGE, Int.reducePow, Nat.reduceAdd, Nat.reduceMul, Nat.reduceSub, Nat.reduceDiv, Nat.reduceMod, Nat.reducePow, Nat.reduceLT, Nat.reduceLeDiff, cJ, hp, g1, eV_cells, eV_size, eV_ok, eV_fold, ns_len, l1, lP, take_all, rf_eV])
  have hz := z16_eq
  have lz := z16_len
  have l1 := ha.len
  have l2 := dig_len 65536 16 (V % Go.Fp.P)
  simp only [rcaI, List.cons_append, List.nil_append] at hl
  generalize zero16 = Z at *
  generalize dig 65536 16 (V % Go.Fp.P) = R at *
  apply evVal_ex
  apply Exists.intro
  rw [evFun_fn (fn := a85) rfl]
  simp only [a85, ↓steps_chunk, envOf, quiet, cF, ↓pF, reduceCtorEq, Nat.reduceEqDiff, Int.reduceEq, fs_callW, fs_regionQ, quiet2_eq, lastOf_nil, lastOf_cons, List.take_succ_cons, List.take_zero, List.drop_succ_cons, List.drop_zero, Int.reduceBEq, Int.reduceBNe, ↓keepW_some, ↓qElseW_some, ↓guardW_tt, ↓guardW_ff, ↓guardW_tf, ↓guardW_ft, cL, Int.reduceLE, Int.reduceLT, Int.reduceAdd, Int.reduceMul, Int.reduceSub, Int.reduceTDiv, Int.reduceTMod, Int.reduceNeg, Int.reduceToNat, Int.reduceGT, Int.reduceGE, Int.reducePow, Nat.reduceAdd, Nat.reduceMul, Nat.reduceSub, Nat.reduceDiv, Nat.reduceMod, Nat.reducePow, Nat.reduceLT, Nat.reduceLeDiff, cJ, hz, hl, List.length_replicate, take_all, eV_cells, eV_size, eV_ok, eV_fold, ns_len, l1, l2, lz, rf_eV]
  rfl
end Go.Ev.Ytaceeoghjgggjaa
set_option linter.unusedSimpArgs false
set_option linter.unusedVariables false
namespace Go.Ev.Ytaceeoghjgggjaa
open Go Go.Ev
attribute [local congr] bind_congr2 ite_congr2 qElse_congr gate_congr guardV_congr
set_option maxRecDepth 100000
theorem z32_eq : List.replicate 32 (Value.int .u8 0) = u8s (dig 256 32 0) := rfl
theorem z32_fill : fillL (u8s (dig 256 32 0)) [] = some (u8s (dig 256 32 0)) := rfl
theorem w8n {n : Nat} (h : n < 256) : IntKind.u8.wrap (n : Int) = n := by rw [n_w8, Nat.mod_eq_of_lt h]
def rbyI (c o : List Nat) (i : Int) (ex : Env) : St := ⟨[(1, .pointer (some ⟨0, 0, none⟩)), (2, .pointer (some ⟨1, 0, none⟩)), (3, .pointer (some ⟨2, 0, none⟩)), (4, .int .i64 i)] ++ ex, [⟨ns .u64 c, true, true, true, 1⟩, ⟨u8s (dig 256 32 0), true, true, true, 1⟩, ⟨u8s o, true, true, true, 1⟩], []⟩
theorem rby_body {V i : Nat} (hi : i < 16) :
    evCode T 0 a66_l0 (rbyI (dig 65536 16 V) (pf 32 (dig 256 32 V) (2 * i)) i []) = some (.normal, rbyI (dig 65536 16 V) (pf 32 (dig 256 32 V) (2 * (i + 1))) ((i + 1 : Nat) : Int) []) := by
  obtain ⟨x, hx0⟩ : ∃ x, x = V / 65536 ^ i % 65536 := ⟨_, rfl⟩
  have hx : (dig 65536 16 V)[i]? = some x := by rw [dig_get hi, hx0]
  have hx' : x < 65536 := by rw [hx0]; exact Nat.mod_lt _ (by decide)
  have e : (65536 : Nat) ^ i = 256 ^ (2 * i) := by rw [show (65536 : Nat) = 256 ^ 2 from rfl, ← Nat.pow_mul]
  rw [e] at hx0
  have hd1 : (dig 256 32 V)[2 * i]? = some (x % 256) := by rw [dig_get (by omega), hx0]; congr 1; omega
  have hd2 : (dig 256 32 V)[2 * i + 1]? = some (x / 256) := by
    rw [dig_get (by omega), hx0, Nat.pow_succ, ← Nat.div_div_eq_div_mul]
    congr 1; omega
  have hs1 := pf_step (dig_len 256 32 V) (by omega : 2 * i < 32) hd1
  have hs2 := pf_step (dig_len 256 32 V) (by omega : 2 * i + 1 < 32) hd2
  have hl1 := pf_len (dig_len 256 32 V) (by omega : 2 * i ≤ 32)
  have hl2 := pf_len (dig_len 256 32 V) (by omega : 2 * i + 1 ≤ 32)
  have hset1 := u8s_set (pf 32 (dig 256 32 V) (2 * i)) (2 * i) (x % 256)
  have hset2 := u8s_set (pf 32 (dig 256 32 V) (2 * i + 1)) (2 * i + 1) (x / 256)
  rw [hs1] at hset1
  rw [hs2] at hset2
  rw [show 2 * (i + 1) = 2 * i + 1 + 1 by omega]
  have hxc := ns_get (k := .u64) hx
  have w1 : IntKind.i64.wrap ((i : Int) + 1) = ((i + 1 : Nat) : Int) := wi_add (b := 1) (by omega)
  have w2 : IntKind.i64.wrap (2 * (i : Int)) = ((2 * i : Nat) : Int) := wi_mul (a := 2) (by omega)
  have w3 : IntKind.i64.wrap (((2 * i : Nat) : Int) + 1) = ((2 * i + 1 : Nat) : Int) := wi_add (b := 1) (by omega)
  have w4 : (x : Int).tmod 256 = ((x % 256 : Nat) : Int) := rfl
  have w5 : IntKind.u8.wrap ((x % 256 : Nat) : Int) = ((x % 256 : Nat) : Int) := w8n (by omega)
  have w6 : IntKind.u64.wrap ((x : Int).tdiv 256) = ((x / 256 : Nat) : Int) := w64n (n := x / 256) (by omega)
  have w7 : IntKind.u8.wrap ((x / 256 : Nat) : Int) = ((x / 256 : Nat) : Int) := w8n (by omega)
  have e1 : ((i : Int) < 16) = True := eq_true (by omega)
  have e2 : (((2 * i : Nat) : Int) < 32) = True := eq_true (by omega)
  have e3 : (((2 * i + 1 : Nat) : Int) < 32) = True := eq_true (by omega)
  have e5 : (2 * i ≤ 31) = True := eq_true (by omega)
  have e6 : (2 * i + 1 ≤ 31) = True := eq_true (by omega)
  have l1 := dig_len 65536 16 V
  generalize dig 65536 16 V = C at *
  generalize pf 32 (dig 256 32 V) (2 * i) = o1 at *
  generalize pf 32 (dig 256 32 V) (2 * i + 1) = o2 at *
  generalize pf 32 (dig 256 32 V) (2 * i + 1 + 1) = o3 at *
  generalize hj1 : 2 * i + 1 = j1 at *
  generalize hj : 2 * i = j at *
  simp only [rbyI, a66_l0, envOf, quiet, cF, ↓pF, reduceCtorEq, Nat.reduceEqDiff, Int.reduceEq, fs_callW, fs_regionQ, quiet2_eq, lastOf_nil, lastOf_cons, List.take_succ_cons, List.take_zero, List.drop_succ_cons, List.drop_zero, Int.reduceBEq, Int.reduceBNe, ↓keepV_some, ↓qElse_some, ↓guardV_tt, ↓guardV_ff, ↓guardV_tf, ↓guardV_ft, cL, Int.reduceLE, Int.reduceLT, Int.reduceAdd, Int.reduceMul, Int.reduceSub, Int.reduceTDiv, Int.reduceTMod, Int.reduceNeg, Int.reduceToNat, Int.reduceGT, Int.reduceGE, Int.reducePow, Nat.reduceAdd, Nat.reduceMul, Nat.reduceSub, Nat.reduceDiv, Nat.reduceMod, Nat.reducePow, Nat.reduceLT, Nat.reduceLeDiff, cJ, hxc, w1, w2, w3, w4, w5, w6, w7, e1, e2, e3, e5, e6, hset1, hset2, ns_len, u8s_len, hl1, hl2, l1]
theorem rbytes_v {a : List Nat} (ha : Nm a) : evVal T 66 [eV a] = some (.agg (u8s (dig 256 32 (nf a).val)).toArray) := by
  have hc := rcanon_v ha
  have hv : (nf a).val = num 65536 a % Go.Fp.P := rfl
  rw [hv]
  generalize num 65536 a % Go.Fp.P = V at *
  have hb := block_loop (T := T) (base := 0) (id := 0) (body := a66_l0) (fun i => rbyI (dig 65536 16 V) (pf 32 (dig 256 32 V) (2 * i)) i []) (s' := rbyI (dig 65536 16 V) (dig 256 32 V) 16 [(9, .bool false)]) 16
    (fun i hi => rby_body hi) (by
      rw [show 2 * 16 = 32 from rfl, pf_full (dig_len _ _ _)]
      simp only [rbyI, a66_l0, envOf, quiet, cF, ↓pF, reduceCtorEq, Nat.reduceEqDiff, Int.reduceEq, fs_callW, fs_regionQ, quiet2_eq, lastOf_nil, lastOf_cons, List.take_succ_cons, List.take_zero, List.drop_succ_cons, List.drop_zero, Int.reduceBEq, Int.reduceBNe, ↓keepV_some, ↓qElse_some, ↓guardV_tt, ↓guardV_ff, ↓guardV_tf, ↓guardV_ft, cL, Int.reduceLE, Int.reduceLT, Int.reduceAdd, Int.reduceMul, Int.reduceSub, Int.reduceTDiv, Int.reduceTMod, Int.reduceNeg, Int.reduceToNat, Int.reduceGT, Int.reduceGE, Int.reducePow, Nat.reduceAdd, Nat.reduceMul, Nat.reduceSub, Nat.reduceDiv, Nat.reduceMod, Nat.reducePow, Nat.reduceLT, Nat.reduceLeDiff])
  rw [Nat.mul_zero, pf_zero, show List.replicate 32 0 = dig 256 32 0 from rfl] at hb
  simp only [rbyI, List.cons_append, List.nil_append, Int.natCast_zero] at hb
  have hz := z32_eq
  have hf := z32_fill
  have lz := dig_len 256 32 0
  have l1 := ha.len
  have l2 := dig_len 65536 16 V
  have l3 := dig_len 256 32 V
  generalize dig 65536 16 V = C at *
  generalize dig 256 32 V = R at *
  generalize dig 256 32 0 = Z at *
  apply evVal_ex
  apply Exists.intro
  rw [evFun_fn (fn := a66) rfl]
  simp only [a66, ↓steps_chunk, envOf, quiet, cF, ↓pF, reduceCtorEq, Nat.reduceEqDiff, Int.reduceEq, fs_callW, fs_regionQ, quiet2_eq, lastOf_nil, lastOf_cons, List.take_succ_cons, List.take_zero, List.drop_succ_cons, List.drop_zero, Int.reduceBEq, Int.reduceBNe, ↓keepW_some, ↓qElseW_some, ↓guardW_tt, ↓guardW_ff, ↓guardW_tf, ↓guardW_ft, cL, Int.reduceLE, Int.reduceLT, Int.reduceAdd, Int.reduceMul, Int.reduceSub, Int.reduceTDiv, Int.reduceTMod, Int.reduceNeg, Int.reduceToNat, Int.reduceGT, Int.reduceGE, Int.reducePow, Nat.reduceAdd, Nat.reduceMul, Nat.reduceSub, Nat.reduceDiv, Nat.reduceMod, Nat.reducePow, Nat.reduceLT, Nat.reduceLeDiff, cJ, hz, hf, hc, hb, List.length_replicate, take_all, eV_cells, eV_size, eV_ok, eV_fold, ns_len, u8s_len, l1, l2, l3, lz, rf_eV]
  rfl
def fH (d : List Nat) (l : List Ob) : List Ob := ⟨ns .u64 d, true, true, true, 1⟩ :: ⟨ns .u64 zero16, true, true, true, 1⟩ :: l
def f2I (d : List Nat) (l : List Ob) (c : Nat) (i : Int) (ex : Env) : St := ⟨[(1, .pointer (some ⟨0, 0, none⟩)), (2, .pointer (some ⟨1, 0, none⟩)), (3, .int .u64 c), (4, .int .i64 i)] ++ ex, fH d l, []⟩
theorem f2_block {d : List Nat} {l : List Ob} (hd : d.length = 32) (hM : ∀ x ∈ d, x < 2 ^ 44) (hN : num 65536 d < 65536 ^ 32) :
    ∃ o c, evCode T 0 (.block 2 (.loop a86_l2)) (f2I d l 0 0 []) = some (.normal, f2I o l c 32 [(11, .bool false)]) ∧ o.length = 32 ∧ (∀ x ∈ o, x < 65536) ∧ num 65536 o = num 65536 d := by
  obtain ⟨st, hl, o, c, rfl, h1, h2, h3⟩ := block_inv (T := T) (base := 0) (id := 2) (body := a86_l2)
    (fun i st => ∃ (o : List Nat) (c : Nat), st = f2I (o ++ d.drop i) l c i [] ∧ o.length = i ∧ (∀ x ∈ o, x < 65536) ∧ c < 2 ^ 30 ∧ num 65536 (d.take i) = num 65536 o + 65536 ^ i * c)
    (Q := fun st => ∃ (o : List Nat) (c : Nat), st = f2I o l c 32 [(11, .bool false)] ∧ o.length = 32 ∧ (∀ x ∈ o, x < 65536) ∧ num 65536 d = num 65536 o + 65536 ^ 32 * c)
    32 (s := f2I d l 0 0 []) ⟨[], 0, by rw [List.drop_zero]; rfl, rfl, by simp, by omega, by simp [num]⟩
    (fun i st hi hs => by
      obtain ⟨o, c, rfl, h1, h2, h3, h4⟩ := hs
      obtain ⟨x, hx⟩ : ∃ x, d[i]? = some x := ⟨_, List.getElem?_eq_getElem (by omega)⟩
      have hx' := hM x (List.mem_of_getElem? hx)
      have hxo : (o ++ d.drop i)[i]? = some x := by
        rw [List.getElem?_append_right (by omega), h1, Nat.sub_self, List.getElem?_drop]; exact hx
      have hstep : (o ++ d.drop i).set i ((x + c) % 65536) = (o ++ [(x + c) % 65536]) ++ d.drop (i + 1) := by
        rw [List.set_append_right _ _ (by omega), h1, Nat.sub_self, List.drop_eq_getElem?_toList_append (i := i), hx]
        simp
      have hset := ns_set .u64 (o ++ d.drop i) i ((x + c) % 65536)
      rw [hstep] at hset
      have hlen : (o ++ d.drop i).length = 32 := by simp; omega
      have hxc := ns_get (k := .u64) hxo
      have w1 : IntKind.i64.wrap ((i : Int) + 1) = ((i + 1 : Nat) : Int) := wi_add (b := 1) (by omega)
      have w2 : IntKind.u64.wrap ((x : Int) + (c : Int)) = ((x + c : Nat) : Int) := w64_add (by omega)
      have w3 : ((x + c : Nat) : Int).tmod 65536 = (((x + c) % 65536 : Nat) : Int) := rfl
      have w4 : IntKind.u64.wrap (((x + c : Nat) : Int).tdiv 65536) = (((x + c) / 65536 : Nat) : Int) := w64n (n := (x + c) / 65536) (by omega)
      have e1 : ((i : Int) < 32) = True := eq_true (by omega)
      have e4 : (i ≤ 31) = True := eq_true (by omega)
      refine ⟨f2I ((o ++ [(x + c) % 65536]) ++ d.drop (i + 1)) l ((x + c) / 65536) ((i + 1 : Nat) : Int) [], ?_, o ++ [(x + c) % 65536], (x + c) / 65536, rfl, by simp [h1], ?_, by omega, ?_⟩
      · generalize (o ++ [(x + c) % 65536]) ++ d.drop (i + 1) = O' at *
        generalize o ++ d.drop i = O at *
        generalize (x + c) / 65536 = q at *
        generalize (x + c) % 65536 = m at *
        generalize x + c = v at *
        generalize i + 1 = i1 at *
        simp only [f2I, fH, a86_l2, envOf, quiet, cF, ↓pF, reduceCtorEq, Nat.reduceEqDiff, Int.reduceEq, fs_callW, fs_regionQ, quiet2_eq, lastOf_nil, lastOf_cons, List.take_succ_cons, List.take_zero, List.drop_succ_cons, List.drop_zero, Int.reduceBEq, Int.reduceBNe, ↓keepV_some, ↓qElse_some, ↓guardV_tt, ↓guardV_ff, ↓guardV_tf, ↓guardV_ft, cL, Int.reduceLE, Int.reduceLT, Int.reduceAdd, Int.reduceMul, Int.reduceSub, Int.reduceTDiv, Int.reduceTMod, Int.reduceNeg, Int.reduceToNat, Int.reduceGT, Int.reduceGE, Int.reducePow, Nat.reduceAdd, Nat.reduceMul, Nat.reduceSub, Nat.reduceDiv, Nat.reduceMod, Nat.reducePow, Nat.reduceLT, Nat.reduceLeDiff, cJ, hxc, w1, w2, w3, w4, e1, e4, hset, ns_len, hlen]
      · intro y hy
        rcases List.mem_append.1 hy with hy | hy
        · exact h2 y hy
        · rw [List.mem_singleton.1 hy]; exact Nat.mod_lt _ (by decide)
      · rw [num_take hx, num_snoc, h1, h4, Nat.pow_succ]
        have h5 : x + c = 65536 * ((x + c) / 65536) + (x + c) % 65536 := (Nat.div_add_mod _ _).symm
        generalize (x + c) / 65536 = q at *
        generalize (x + c) % 65536 = m at *
        generalize (65536 : Nat) ^ i = p at *
        have h6 := congrArg (fun t => t * p) h5
        simp only [Nat.add_mul] at h6
        rw [Nat.mul_assoc p, Nat.mul_comm p c, Nat.mul_comm p m, Nat.mul_comm p (65536 * q)]
        omega)
    (fun st hs => by
      obtain ⟨o, c, rfl, h1, h2, h3, h4⟩ := hs
      rw [List.take_of_length_le (by omega)] at h4
      refine ⟨_, ?_, o, c, rfl, h1, h2, h4⟩
      rw [List.drop_of_length_le (by omega), List.append_nil]
      simp only [f2I, fH, a86_l2, envOf, quiet, cF, ↓pF, reduceCtorEq, Nat.reduceEqDiff, Int.reduceEq, fs_callW, fs_regionQ, quiet2_eq, lastOf_nil, lastOf_cons, List.take_succ_cons, List.take_zero, List.drop_succ_cons, List.drop_zero, Int.reduceBEq, Int.reduceBNe, ↓keepV_some, ↓qElse_some, ↓guardV_tt, ↓guardV_ff, ↓guardV_tf, ↓guardV_ft, cL, Int.reduceLE, Int.reduceLT, Int.reduceAdd, Int.reduceMul, Int.reduceSub, Int.reduceTDiv, Int.reduceTMod, Int.reduceNeg, Int.reduceToNat, Int.reduceGT, Int.reduceGE, Int.reducePow, Nat.reduceAdd, Nat.reduceMul, Nat.reduceSub, Nat.reduceDiv, Nat.reduceMod, Nat.reducePow, Nat.reduceLT, Nat.reduceLeDiff])
  refine ⟨o, c, hl, h1, h2, ?_⟩
  rcases Nat.eq_zero_or_pos c with h | h
  · rw [h3, h]; omega
  · exfalso
    have := Nat.mul_le_mul_left (65536 ^ 32) h
    generalize (65536 : Nat) ^ 32 = M at *
    omega
end Go.Ev.Ytaceeoghjgggjaa
set_option linter.unusedSimpArgs false
set_option linter.unusedVariables false
namespace Go.Ev.Ytaceeoghjgggjaa
open Go Go.Ev
attribute [local congr] bind_congr2 ite_congr2 qElse_congr gate_congr guardV_congr
set_option maxRecDepth 100000
def anyNZ (l : List Nat) : Bool := !(l.all (· == 0))
theorem anyNZ_snoc (l : List Nat) (x : Nat) : anyNZ (l ++ [x]) = (anyNZ l || !(x == 0)) := by simp [anyNZ]
def f1I (d o : List Nat) (l : List Ob) (b : Bool) (i : Int) (ex : Env) : St := ⟨[(1, .pointer (some ⟨0, 0, none⟩)), (2, .pointer (some ⟨1, 0, none⟩)), (6, .pointer (some ⟨l.length + 1 + 1, 0, none⟩)), (7, .bool b), (8, .int .i64 i)] ++ ex, fH d (l ++ [⟨ns .u64 o, true, true, true, 1⟩]), []⟩
theorem f1_body {d : List Nat} {l : List Ob} {i : Nat} {b : Bool} (hd : d.length = 32) (hi : i < 16) (hb : b = anyNZ ((d.drop 16).take i)) :
    evCode T 0 a86_l1 (f1I d (pf 16 (d.take 16) i) l b i []) = some (.normal, f1I d (pf 16 (d.take 16) (i + 1)) l (anyNZ ((d.drop 16).take (i + 1))) ((i + 1 : Nat) : Int) []) := by
  obtain ⟨x, hx⟩ : ∃ x, d[i]? = some x := ⟨_, List.getElem?_eq_getElem (by omega)⟩
  obtain ⟨y, hy⟩ : ∃ y, d[i + 16]? = some y := ⟨_, List.getElem?_eq_getElem (by omega)⟩
  have hx2 : (d.take 16)[i]? = some x := by rw [List.getElem?_take, if_pos hi]; exact hx
  have hy2 : (d.drop 16)[i]? = some y := by rw [List.getElem?_drop, Nat.add_comm]; exact hy
  have hL : (d.take 16).length = 16 := by simp; omega
  have hstep := pf_step hL hi hx2
  have hlen := pf_len hL (Nat.le_of_lt hi)
  have hset := ns_set .u64 (pf 16 (d.take 16) i) i x
  rw [hstep] at hset
  have hxc := ns_get (k := .u64) hx
  have hyc := ns_get (k := .u64) hy
  have hnz : anyNZ ((d.drop 16).take (i + 1)) = (b || !(y == 0)) := by
    rw [List.take_add_one, hy2, hb]; exact anyNZ_snoc _ _
  rw [hnz]
  have w1 : IntKind.i64.wrap ((i : Int) + 1) = ((i + 1 : Nat) : Int) := wi_add (b := 1) (by omega)
  have w2 : IntKind.i64.wrap ((i : Int) + 16) = ((i + 16 : Nat) : Int) := wi_add (b := 16) (by omega)
  have e1 : ((i : Int) < 16) = True := eq_true (by omega)
  have e2 : ((i : Int) < 32) = True := eq_true (by omega)
  have e3 : (((i + 16 : Nat) : Int) < 32) = True := eq_true (by omega)
  have e4 : (i ≤ 15) = True := eq_true (by omega)
  have e5 : ((y : Int) != 0) = !(y == 0) := by
    by_cases h : y = 0
    · subst h; rfl
    · have h' : ¬ (y : Int) = 0 := by omega
      rw [beq_eq_false_iff_ne.2 h, bne_iff_ne.2 h']; rfl
  generalize pf 16 (d.take 16) i = o1 at *
  generalize pf 16 (d.take 16) (i + 1) = o2 at *
  generalize i + 16 = j at *
  generalize (!(y == 0)) = nz at *
  clear hb hnz
  cases b with
  | false => simp only [f1I, fH, a86_l1, envOf, quiet, cF, ↓pF, reduceCtorEq, Nat.reduceEqDiff, Int.reduceEq, fs_callW, fs_regionQ, quiet2_eq, lastOf_nil, lastOf_cons, List.take_succ_cons, List.take_zero, List.drop_succ_cons, List.drop_zero, Int.reduceBEq, Int.reduceBNe, ↓keepW_some, ↓qElseW_some, ↓guardW_tt, ↓guardW_ff, ↓guardW_tf, ↓guardW_ft, cL, Int.reduceLE, Int.reduceLT, Int.reduceAdd, Int.reduceMul, Int.reduceSub, Int.reduceTDiv, Int.reduceTMod, Int.reduceNeg, Int.reduceToNat, Int.reduceGT, Int.reduceGE, Int.reducePow, Nat.reduceAdd, Nat.reduceMul, Nat.reduceSub, Nat.reduceDiv, Nat.reduceMod, Nat.reducePow, Nat.reduceLT, Nat.reduceLeDiff, cJ, hxc, hyc, w1, w2, e1, e2, e3, e4, e5, hset, ns_len, hlen, hd, Bool.false_or]
  | true => simp only [f1I, fH, a86_l1, envOf, quiet, cF, ↓pF, reduceCtorEq, Nat.reduceEqDiff, Int.reduceEq, fs_callW, fs_regionQ, quiet2_eq, lastOf_nil, lastOf_cons, List.take_succ_cons, List.take_zero, List.drop_succ_cons, List.drop_zero, Int.reduceBEq, Int.reduceBNe, ↓keepW_some, ↓qElseW_some, ↓guardW_tt, ↓guardW_ff, ↓guardW_tf, ↓guardW_ft, cL, Int.reduceLE, Int.reduceLT, Int.reduceAdd, Int.reduceMul, Int.reduceSub, Int.reduceTDiv, Int.reduceTMod, Int.reduceNeg, Int.reduceToNat, Int.reduceGT, Int.reduceGE, Int.reducePow, Nat.reduceAdd, Nat.reduceMul, Nat.reduceSub, Nat.reduceDiv, Nat.reduceMod, Nat.reducePow, Nat.reduceLT, Nat.reduceLeDiff, cJ, hxc, hyc, w1, w2, e1, e2, e3, e4, e5, hset, ns_len, hlen, hd, Bool.true_or]
theorem f1_block {d : List Nat} {l : List Ob} (hd : d.length = 32) :
    evCode T 0 (.block 4 (.loop a86_l1)) (f1I d zero16 l false 0 []) = some (.normal, f1I d (d.take 16) l (anyNZ (d.drop 16)) 16 [(27, .bool false)]) := by
  have hL : (d.take 16).length = 16 := by simp; omega
  have hb := block_loop (T := T) (base := 0) (id := 4) (body := a86_l1) (fun i => f1I d (pf 16 (d.take 16) i) l (anyNZ ((d.drop 16).take i)) i []) (s' := f1I d (d.take 16) l (anyNZ (d.drop 16)) 16 [(27, .bool false)]) 16
    (fun i hi => f1_body hd hi rfl) (by
      rw [pf_full hL, List.take_of_length_le (l := d.drop 16) (by simp; omega)]
      simp only [f1I, a86_l1, envOf, quiet, cF, ↓pF, reduceCtorEq, Nat.reduceEqDiff, Int.reduceEq, fs_callW, fs_regionQ, quiet2_eq, lastOf_nil, lastOf_cons, List.take_succ_cons, List.take_zero, List.drop_succ_cons, List.drop_zero, Int.reduceBEq, Int.reduceBNe, ↓keepV_some, ↓qElse_some, ↓guardV_tt, ↓guardV_ff, ↓guardV_tf, ↓guardV_ft, cL, Int.reduceLE, Int.reduceLT, Int.reduceAdd, Int.reduceMul, Int.reduceSub, Int.reduceTDiv, Int.reduceTMod, Int.reduceNeg, Int.reduceToNat, Int.reduceGT, Int.reduceGE, Int.reducePow, Nat.reduceAdd, Nat.reduceMul, Nat.reduceSub, Nat.reduceDiv, Nat.reduceMod, Nat.reducePow, Nat.reduceLT, Nat.reduceLeDiff])
  rw [pf_zero] at hb
  exact hb
def f0I (d : List Nat) (l : List Ob) (i : Int) (ex : Env) : St := ⟨[(1, .pointer (some ⟨0, 0, none⟩)), (2, .pointer (some ⟨1, 0, none⟩)), (9, .int .i64 i)] ++ ex, fH d l, []⟩
theorem f0_block {d : List Nat} {l : List Ob} (hd : d.length = 32) (hM : ∀ x ∈ d, x < 65536) :
    ∃ o, evCode T 0 (.block 6 (.loop a86_l0)) (f0I d l 0 []) = some (.normal, f0I o l 16 [(47, .bool false)]) ∧ o.length = 32 ∧ (∀ x ∈ o, x < 2 ^ 44) ∧ num 65536 o + 65536 ^ 16 * num 65536 (d.drop 16) = num 65536 d + 38 * num 65536 (d.drop 16) := by
  obtain ⟨st, hl, o, rfl, h1, h2, h3⟩ := block_inv (T := T) (base := 0) (id := 6) (body := a86_l0)
    (fun i st => ∃ o : List Nat, st = f0I o l i [] ∧ o.length = 32 ∧ (∀ x ∈ o, x < 2 ^ 44) ∧ (∀ j, i ≤ j → j < 16 → o[j]? = d[j]? ∧ o[j + 16]? = d[j + 16]?) ∧ num 65536 o + 65536 ^ 16 * num 65536 ((d.drop 16).take i) = num 65536 d + 38 * num 65536 ((d.drop 16).take i))
    (Q := fun st => ∃ o : List Nat, st = f0I o l 16 [(47, .bool false)] ∧ o.length = 32 ∧ (∀ x ∈ o, x < 2 ^ 44) ∧ num 65536 o + 65536 ^ 16 * num 65536 (d.drop 16) = num 65536 d + 38 * num 65536 (d.drop 16))
    16 (s := f0I d l 0 []) ⟨d, rfl, hd, fun x hx => Nat.lt_trans (hM x hx) (by decide), fun _ _ _ => ⟨rfl, rfl⟩, by simp [num]⟩
    (fun i st hi hs => by
      obtain ⟨o, rfl, h1, h2, h3, h4⟩ := hs
      obtain ⟨x, hx⟩ : ∃ x, d[i]? = some x := ⟨_, List.getElem?_eq_getElem (by omega)⟩
      obtain ⟨y, hy⟩ : ∃ y, d[i + 16]? = some y := ⟨_, List.getElem?_eq_getElem (by omega)⟩
      have hx' := hM x (List.mem_of_getElem? hx)
      have hy' := hM y (List.mem_of_getElem? hy)
      obtain ⟨ox, oy⟩ := h3 i (Nat.le_refl _) hi
      rw [hx] at ox
      rw [hy] at oy
      have oy' : (o.set i (x + 38 * y))[i + 16]? = some y := by rw [List.getElem?_set_ne (by omega)]; exact oy
      have n1 := num_set (B := 65536) (x + 38 * y) ox
      have n2 := num_set (B := 65536) 0 oy'
      have s1 := ns_set .u64 o i (x + 38 * y)
      have s2 : (ns .u64 (o.set i (x + 38 * y))).set (i + 16) (.int .u64 0) = ns .u64 ((o.set i (x + 38 * y)).set (i + 16) 0) := ns_set .u64 (o.set i (x + 38 * y)) (i + 16) 0
      have l2 : (o.set i (x + 38 * y)).length = 32 := by rw [List.length_set]; exact h1
      have hxc := ns_get (k := .u64) ox
      have hyc := ns_get (k := .u64) oy
      have hy2 : (d.drop 16)[i]? = some y := by rw [List.getElem?_drop, Nat.add_comm]; exact hy
      have w1 : IntKind.i64.wrap ((i : Int) + 1) = ((i + 1 : Nat) : Int) := wi_add (b := 1) (by omega)
      have w2 : IntKind.i64.wrap ((i : Int) + 16) = ((i + 16 : Nat) : Int) := wi_add (b := 16) (by omega)
      have w3 : IntKind.u64.wrap (38 * (y : Int)) = ((38 * y : Nat) : Int) := w64_mul (a := 38) (by omega)
      have w4 : IntKind.u64.wrap ((x : Int) + ((38 * y : Nat) : Int)) = ((x + 38 * y : Nat) : Int) := w64_add (by omega)
      have e1 : ((i : Int) < 16) = True := eq_true (by omega)
      have e2 : ((i : Int) < 32) = True := eq_true (by omega)
      have e3 : (((i + 16 : Nat) : Int) < 32) = True := eq_true (by omega)
      have e4 : (i ≤ 31) = True := eq_true (by omega)
      have e5 : (i + 16 ≤ 31) = True := eq_true (by omega)
      refine ⟨f0I ((o.set i (x + 38 * y)).set (i + 16) 0) l ((i + 1 : Nat) : Int) [], ?_, _, rfl, by rw [List.length_set]; exact l2, ?_, ?_, ?_⟩
      · generalize (o.set i (x + 38 * y)).set (i + 16) 0 = O2 at *
        generalize o.set i (x + 38 * y) = O1 at *
        generalize hj : i + 16 = j at *
        generalize x + 38 * y = v at *
        generalize 38 * y = u at *
        generalize i + 1 = i1 at *
        simp only [f0I, fH, a86_l0, envOf, quiet, cF, ↓pF, reduceCtorEq, Nat.reduceEqDiff, Int.reduceEq, fs_callW, fs_regionQ, quiet2_eq, lastOf_nil, lastOf_cons, List.take_succ_cons, List.take_zero, List.drop_succ_cons, List.drop_zero, Int.reduceBEq, Int.reduceBNe, ↓keepV_some, ↓qElse_some, ↓guardV_tt, ↓guardV_ff, ↓guardV_tf, ↓guardV_ft, cL, Int.reduceLE, Int.reduceLT, Int.reduceAdd, Int.reduceMul, Int.reduceSub, Int.reduceTDiv, Int.reduceTMod, Int.reduceNeg, Int.reduceToNat, Int.reduceGT, Int.reduceGE, Int.reducePow, Nat.reduceAdd, Nat.reduceMul, Nat.reduceSub, Nat.reduceDiv, Nat.reduceMod, Nat.reducePow, Nat.reduceLT, Nat.reduceLeDiff, cJ, hxc, hyc, w1, w2, w3, w4, e1, e2, e3, e4, e5, s1, s2, ns_len, h1, l2]
      · exact set_lt (set_lt h2 (by omega)) (by decide)
      · intro j hj hj'
        obtain ⟨g1, g2⟩ := h3 j (by omega) hj'
        rw [List.getElem?_set_ne (by omega), List.getElem?_set_ne (by omega), List.getElem?_set_ne (by omega), List.getElem?_set_ne (by omega)]
        exact ⟨g1, g2⟩
      · rw [num_take hy2]
        rw [Nat.pow_add] at n2
        generalize num 65536 ((o.set i (x + 38 * y)).set (i + 16) 0) = N2 at *
        generalize num 65536 (o.set i (x + 38 * y)) = N1 at *
        generalize num 65536 (List.take i (List.drop 16 d)) = S at *
        generalize (65536 : Nat) ^ i = p at *
        have e16 : (65536 : Nat) ^ 16 = 115792089237316195423570985008687907853269984665640564039457584007913129639936 := by decide
        rw [e16] at *
        rw [Nat.add_mul, Nat.mul_assoc] at n1
        rw [← Nat.mul_assoc] at n2
        rw [Nat.mul_add, Nat.mul_add]
        generalize y * p = yp at *
        omega)
    (fun st hs => by
      obtain ⟨o, rfl, h1, h2, h3, h4⟩ := hs
      rw [List.take_of_length_le (by simp; omega)] at h4
      refine ⟨_, ?_, o, rfl, h1, h2, h4⟩
      simp only [f0I, fH, a86_l0, envOf, quiet, cF, ↓pF, reduceCtorEq, Nat.reduceEqDiff, Int.reduceEq, fs_callW, fs_regionQ, quiet2_eq, lastOf_nil, lastOf_cons, List.take_succ_cons, List.take_zero, List.drop_succ_cons, List.drop_zero, Int.reduceBEq, Int.reduceBNe, ↓keepV_some, ↓qElse_some, ↓guardV_tt, ↓guardV_ff, ↓guardV_tf, ↓guardV_ft, cL, Int.reduceLE, Int.reduceLT, Int.reduceAdd, Int.reduceMul, Int.reduceSub, Int.reduceTDiv, Int.reduceTMod, Int.reduceNeg, Int.reduceToNat, Int.reduceGT, Int.reduceGE, Int.reducePow, Nat.reduceAdd, Nat.reduceMul, Nat.reduceSub, Nat.reduceDiv, Nat.reduceMod, Nat.reducePow, Nat.reduceLT, Nat.reduceLeDiff])
  exact ⟨o, hl, h1, h2, h3⟩
end Go.Ev.Ytaceeoghjgggjaa
set_option linter.unusedSimpArgs false
set_option linter.unusedVariables false
namespace Go.Ev.Ytaceeoghjgggjaa
open Go Go.Ev
attribute [local congr] bind_congr2 ite_congr2 qElse_congr gate_congr guardV_congr
set_option maxRecDepth 100000
def f3I (d : List Nat) (l : List Ob) (ex : Env) : St := ⟨[(1, .pointer (some ⟨0, 0, none⟩)), (2, .pointer (some ⟨1, 0, none⟩))] ++ ex, fH d l, []⟩
theorem all_zero_num : ∀ {l : List Nat}, anyNZ l = false → num 65536 l = 0
  | [], _ => rfl
  | x :: l, h => by
    have h' : ((x :: l).all (· == 0)) = true := by simpa [anyNZ] using h
    rw [List.all_cons, Bool.and_eq_true] at h'
    have hx : x = 0 := by simpa using h'.1
    have ih := all_zero_num (l := l) (by unfold anyNZ; rw [h'.2]; rfl)
    rw [num, ih, hx]
theorem nz_num : ∀ {l : List Nat}, anyNZ l = true → 0 < num 65536 l
  | [], h => by cases h
  | x :: l, h => by
    rw [num]
    by_cases hx : x = 0
    · have := nz_num (l := l) (by
        subst hx
        simpa [anyNZ] using h)
      omega
    · omega
theorem fold_mod {V W H : Nat} (h : W + 65536 ^ 16 * H = V + 38 * H) : Go.Fp.fp W = Go.Fp.fp V := by
  have h1 := congrArg Go.Fp.fp h
  rw [Go.Fp.fp_add, Go.Fp.fp_add, Go.Fp.fp_mul, Go.Fp.fp_mul] at h1
  have h2 : Go.Fp.fp (65536 ^ 16) = Go.Fp.fp 38 := by decide +kernel
  rw [h2] at h1
  generalize Go.Fp.fp W = a at *
  generalize Go.Fp.fp V = b at *
  generalize Go.Fp.fp 38 * Go.Fp.fp H = c at *
  clear h h2
  grobner
theorem rfold_loop : ∀ (v : Nat) (d : List Nat) (l : List Ob) (ex : Env), num 65536 d = v → d.length = 32 → (∀ x ∈ d, x < 2 ^ 44) → v < 65536 ^ 32 →
    ∃ r d' l', evCode T 0 (.loop a86_l3) (f3I d l ex) = some (.ret, ⟨[(2, .pointer (some ⟨1, 0, none⟩))], ⟨ns .u64 d', true, true, true, 1⟩ :: ⟨ns .u64 r, true, true, true, 1⟩ :: l', []⟩) ∧ Nm r ∧ nf r = Go.Fp.fp v := by
  intro v
  induction v using Nat.strongRecOn with
  | ind v ih =>
    intro d l ex hv hd hM hN
    obtain ⟨o, c, h2, lo, xo, no⟩ := f2_block (l := l) hd hM (by rw [hv]; exact hN)
    have h1 := f1_block (d := o) (l := l) lo
    simp only [f2I, f1I, fH, List.cons_append, List.nil_append, Int.natCast_zero] at h2 h1
    have hz := z16_eq
    have lz := z16_len
    have hf := z16_fill
    by_cases hnz : anyNZ (o.drop 16) = true
    · rw [hnz] at h1
      obtain ⟨o2, h0, lo2, xo2, no2⟩ := f0_block (l := l ++ [⟨ns .u64 (o.take 16), true, true, true, 1⟩]) lo xo
      simp only [f0I, fH, List.cons_append, List.nil_append, Int.natCast_zero] at h0
      have hpos := nz_num hnz
      rw [no, hv] at no2
      have hlt : num 65536 o2 < v := by
        have e16 : (65536 : Nat) ^ 16 = 115792089237316195423570985008687907853269984665640564039457584007913129639936 := by decide
        rw [e16] at no2
        omega
      obtain ⟨r, d', l', hr, hr1, hr2⟩   := ih _ hlt o2 (l ++ [⟨ns .u64 (o.take 16), true, true, true, 1⟩]) [(9, .int .i64 16), (47, .bool false)] rfl lo2 xo2 (Nat.lt_trans hlt hN)
      refine ⟨r, d', l', ?_, hr1, by rw [hr2]; exact fold_mod no2⟩
      rw [← hr, evCode_loop]
      simp only [f3I, fH, List.cons_append, List.nil_append]
      generalize zero16 = Z at *
      simp only [f3I, fH, a86_l3, envOf, quiet, cF, ↓pF, reduceCtorEq, Nat.reduceEqDiff, Int.reduceEq, fs_callW, fs_regionQ, quiet2_eq, lastOf_nil, lastOf_cons, List.take_succ_cons, List.take_zero, List.drop_succ_cons, List.drop_zero, Int.reduceBEq, Int.reduceBNe, ↓keepW_some, ↓qElseW_some, ↓guardW_tt, ↓guardW_ff, ↓guardW_tf, ↓guardW_ft, cL, Int.reduceLE, Int.reduceLT, Int.reduceAdd, Int.reduceMul, Int.reduceSub, Int.reduceTDiv, Int.reduceTMod, Int.reduceNeg, Int.reduceToNat, Int.reduceGT, Int.reduceGE, Int.reducePow, Nat.reduceAdd, Nat.reduceMul, Nat.reduceSub, Nat.reduceDiv, Nat.reduceMod, Nat.reducePow, Nat.reduceLT, Nat.reduceLeDiff, cJ, hz, hf, h2, h1, h0, List.length_replicate, ns_len, lz, take_all, eV_cells, eV_size, eV_ok, eV_fold, rf_eV]
    · have hnz' : anyNZ (o.drop 16) = false := by simpa using hnz
      rw [hnz'] at h1
      have hn0 := all_zero_num hnz'
      have hnum : num 65536 (o.take 16) = v := by
        have := num_append 65536 (o.take 16) (o.drop 16)
        rw [List.take_append_drop, hn0, no, hv] at this
        omega
      have lt : (o.take 16).length = 16 := by simp; omega
      refine ⟨o.take 16, o, l ++ [⟨ns .u64 (o.take 16), true, true, true, 1⟩], ?_, ⟨lt, fun x hx => xo x (List.mem_of_mem_take hx)⟩, by unfold nf; rw [hnum]⟩
      rw [evCode_loop]
      simp only [f3I, fH, List.cons_append, List.nil_append]
      generalize List.take 16 o = R at *
      generalize zero16 = Z at *
      simp only [f3I, fH, a86_l3, envOf, quiet, cF, ↓pF, reduceCtorEq, Nat.reduceEqDiff, Int.reduceEq, fs_callW, fs_regionQ, quiet2_eq, lastOf_nil, lastOf_cons, List.take_succ_cons, List.take_zero, List.drop_succ_cons, List.drop_zero, Int.reduceBEq, Int.reduceBNe, ↓keepW_some, ↓qElseW_some, ↓guardW_tt, ↓guardW_ff, ↓guardW_tf, ↓guardW_ft, cL, Int.reduceLE, Int.reduceLT, Int.reduceAdd, Int.reduceMul, Int.reduceSub, Int.reduceTDiv, Int.reduceTMod, Int.reduceNeg, Int.reduceToNat, Int.reduceGT, Int.reduceGE, Int.reducePow, Nat.reduceAdd, Nat.reduceMul, Nat.reduceSub, Nat.reduceDiv, Nat.reduceMod, Nat.reducePow, Nat.reduceLT, Nat.reduceLeDiff, cJ, hz, hf, h2, h1, List.length_replicate, ns_len, lz, lt, take_all, eV_cells, eV_size, eV_ok, eV_fold, rf_eV]
theorem rfold_v {d : List Nat} (hd : d.length = 32) (hM : ∀ x ∈ d, x < 2 ^ 44) (hN : num 65536 d < 65536 ^ 32) : ∃ r, evVal T 86 [eV d] = some (eV r) ∧ Nm r ∧ nf r = Go.Fp.fp (num 65536 d) := by
  obtain ⟨r, d', l', hr, h1, h2⟩ := rfold_loop _ d [] [] rfl hd hM hN
  refine ⟨r, ?_, h1, h2⟩
  simp only [f3I, fH, List.cons_append, List.nil_append] at hr
  have hz := z16_eq
  have lz := z16_len
  have l1 := h1.len
  generalize zero16 = Z at *
  apply evVal_ex
  apply Exists.intro
  rw [evFun_fn (fn := a86) rfl]
  simp only [a86, ↓steps_chunk, envOf, quiet, cF, ↓pF, reduceCtorEq, Nat.reduceEqDiff, Int.reduceEq, fs_callW, fs_regionQ, quiet2_eq, lastOf_nil, lastOf_cons, List.take_succ_cons, List.take_zero, List.drop_succ_cons, List.drop_zero, Int.reduceBEq, Int.reduceBNe, ↓keepW_some, ↓qElseW_some, ↓guardW_tt, ↓guardW_ff, ↓guardW_tf, ↓guardW_ft, cL, Int.reduceLE, Int.reduceLT, Int.reduceAdd, Int.reduceMul, Int.reduceSub, Int.reduceTDiv, Int.reduceTMod, Int.reduceNeg, Int.reduceToNat, Int.reduceGT, Int.reduceGE, Int.reducePow, Nat.reduceAdd, Nat.reduceMul, Nat.reduceSub, Nat.reduceDiv, Nat.reduceMod, Nat.reducePow, Nat.reduceLT, Nat.reduceLeDiff, cJ, evCode_block, hz, hr, List.length_replicate, take_all, eV_cells, eV_size, eV_ok, eV_fold, ns_len, hd, l1, lz, rf_eV]
  rfl
end Go.Ev.Ytaceeoghjgggjaa
set_option linter.unusedSimpArgs false
set_option linter.unusedVariables false
namespace Go.Ev.Ytaceeoghjgggjaa
open Go Go.Ev
attribute [local congr] bind_congr2 ite_congr2 qElse_congr gate_congr guardV_congr
set_option maxRecDepth 100000
theorem vEq_eV {n : Nat} {p q : List Nat} (hp : p.length = n) (hq : q.length = n) : vEq (some (List.replicate n true)) false (eV p) (eV q) = some (.bool (p == q)) := by
  unfold eV
  rw [vEq_agg, cellsEq_u64 hp hq]
  rfl
theorem vEq_eVN {n : Nat} {p q : List Nat} (hp : p.length = n) (hq : q.length = n) : vEq (some (List.replicate n true)) true (eV p) (eV q) = some (.bool (!(p == q))) := by
  unfold eV
  rw [vEq_aggN, cellsEq_u64 hp hq]
  rfl
theorem fe_sub_neg (x y : Go.Fp.Fe) : x + -y = x - y := by grobner
theorem fe_zero_sub (x : Go.Fp.Fe) : 0 - x = -x := by grobner
def zero32 : List Nat := List.replicate 32 0
theorem z32u_eq : List.replicate 32 (Value.int .u64 0) = ns .u64 zero32 := rfl
theorem z32u_len : zero32.length = 32 := rfl
def abI (a b d : List Nat) (i : Int) (ex : Env) : St := ⟨[(2, .pointer (some ⟨0, 0, none⟩)), (3, .pointer (some ⟨1, 0, none⟩)), (4, .pointer (some ⟨2, 0, none⟩)), (5, .pointer (some ⟨3, 0, none⟩)), (6, .int .i64 i)] ++ ex, [⟨ns .u64 a, true, true, true, 1⟩, ⟨ns .u64 b, true, true, true, 1⟩, ⟨ns .u64 zero16, true, true, true, 1⟩, ⟨ns .u64 d, true, true, true, 1⟩], []⟩
theorem radd_block {a b : List Nat} (ha : Nm a) (hb : Nm b) :
    ∃ d, evCode T 0 (.block 0 (.loop a72_l0)) (abI a b zero32 0 []) = some (.normal, abI a b d 16 [(8, .bool false)]) ∧ d.length = 32 ∧ (∀ x ∈ d, x < 2 ^ 44) ∧ num 65536 d = num 65536 a + num 65536 b := by
  obtain ⟨st, hl, o, rfl, h1, h2, h3⟩ := block_inv (T := T) (base := 0) (id := 0) (body := a72_l0)
    (fun i st => ∃ o : List Nat, st = abI a b o i [] ∧ o.length = 32 ∧ (∀ x ∈ o, x < 2 ^ 44) ∧ (∀ j, i ≤ j → j < 16 → o[j]? = some 0) ∧ num 65536 o = num 65536 (a.take i) + num 65536 (b.take i))
    (Q := fun st => ∃ o : List Nat, st = abI a b o 16 [(8, .bool false)] ∧ o.length = 32 ∧ (∀ x ∈ o, x < 2 ^ 44) ∧ num 65536 o = num 65536 a + num 65536 b)
    16 (s := abI a b zero32 0 []) ⟨zero32, rfl, rfl, by decide, fun j _ hj => by unfold zero32; rw [List.getElem?_replicate, if_pos (by omega)], by simp [num]; decide⟩
    (fun i st hi hs => by
      obtain ⟨o, rfl, h1, h2, h3, h4⟩ := hs
      obtain ⟨x, hx⟩ : ∃ x, a[i]? = some x := ⟨_, List.getElem?_eq_getElem (by rw [ha.len]; omega)⟩
      obtain ⟨y, hy⟩ : ∃ y, b[i]? = some y := ⟨_, List.getElem?_eq_getElem (by rw [hb.len]; omega)⟩
      have hx' := ha.lt x (List.mem_of_getElem? hx)
      have hy' := hb.lt y (List.mem_of_getElem? hy)
      have n1 := num_set (B := 65536) (x + y) (h3 i (Nat.le_refl _) hi)
      have s1 := ns_set .u64 o i (x + y)
      have hxc := ns_get (k := .u64) hx
      have hyc := ns_get (k := .u64) hy
      have l1 := ha.len
      have l2 := hb.len
      have w1 : IntKind.i64.wrap ((i : Int) + 1) = ((i + 1 : Nat) : Int) := wi_add (b := 1) (by omega)
      have w2 : IntKind.u64.wrap ((x : Int) + (y : Int)) = ((x + y : Nat) : Int) := w64_add (by omega)
      have e1 : ((i : Int) < 16) = True := eq_true (by omega)
      have e2 : ((i : Int) < 32) = True := eq_true (by omega)
      have e4 : (i ≤ 31) = True := eq_true (by omega)
      refine ⟨abI a b (o.set i (x + y)) ((i + 1 : Nat) : Int) [], ?_, _, rfl, by rw [List.length_set]; exact h1, set_lt h2 (by omega), ?_, ?_⟩
      · generalize o.set i (x + y) = O1 at *
        generalize x + y = v at *
        generalize i + 1 = i1 at *
        simp only [abI, a72_l0, envOf, quiet, cF, ↓pF, reduceCtorEq, Nat.reduceEqDiff, Int.reduceEq, fs_callW, fs_regionQ, quiet2_eq, lastOf_nil, lastOf_cons, List.take_succ_cons, List.take_zero, List.drop_succ_cons, List.drop_zero, Int.reduceBEq, Int.reduceBNe, ↓keepV_some, ↓qElse_some, ↓guardV_tt, ↓guardV_ff, ↓guardV_tf, ↓guardV_ft, cL, Int.reduceLE, Int.reduceLT, Int.reduceAdd, Int.reduceMul, Int.reduceSub, Int.reduceTDiv, Int.reduceTMod, Int.reduceNeg, Int.reduceToNat, Int.reduceGT, Int.reduceGE, Int.reducePow, Nat.reduceAdd, Nat.reduceMul, Nat.reduceSub, Nat.reduceDiv, Nat.reduceMod, Nat.reducePow, Nat.reduceLT, Nat.reduceLeDiff, cJ, hxc, hyc, w1, w2, e1, e2, e4, s1, ns_len, h1, l1, l2]
      · intro j hj hj'
        rw [List.getElem?_set_ne (by omega)]
        exact h3 j (by omega) hj'
      · rw [num_take hx, num_take hy]
        rw [Nat.add_mul] at n1
        omega)
    (fun st hs => by
      obtain ⟨o, rfl, h1, h2, h3, h4⟩ := hs
      rw [List.take_of_length_le (by rw [ha.len]; omega), List.take_of_length_le (by rw [hb.len]; omega)] at h4
      refine ⟨_, ?_, o, rfl, h1, h2, h4⟩
      simp only [abI, a72_l0, envOf, quiet, cF, ↓pF, reduceCtorEq, Nat.reduceEqDiff, Int.reduceEq, fs_callW, fs_regionQ, quiet2_eq, lastOf_nil, lastOf_cons, List.take_succ_cons, List.take_zero, List.drop_succ_cons, List.drop_zero, Int.reduceBEq, Int.reduceBNe, ↓keepV_some, ↓qElse_some, ↓guardV_tt, ↓guardV_ff, ↓guardV_tf, ↓guardV_ft, cL, Int.reduceLE, Int.reduceLT, Int.reduceAdd, Int.reduceMul, Int.reduceSub, Int.reduceTDiv, Int.reduceTMod, Int.reduceNeg, Int.reduceToNat, Int.reduceGT, Int.reduceGE, Int.reducePow, Nat.reduceAdd, Nat.reduceMul, Nat.reduceSub, Nat.reduceDiv, Nat.reduceMod, Nat.reducePow, Nat.reduceLT, Nat.reduceLeDiff])
  exact ⟨o, hl, h1, h2, h3⟩
theorem radd_v {a b : List Nat} (ha : Nm a) (hb : Nm b) : ∃ r, evVal T 72 [eV a, eV b] = some (eV r) ∧ Nm r ∧ nf r = nf a + nf b := by
  obtain ⟨d, hd, l1, h2, h3⟩ := radd_block ha hb
  have hal := ha.num_lt
  have hbl := hb.num_lt
  obtain ⟨r, hr, hN, hf⟩ := rfold_v l1 h2 (by
    rw [h3]
    have e : (65536 : Nat) ^ 32 = 2 ^ 256 * 2 ^ 256 := by decide
    rw [e]
    have : (2 : Nat) ≤ 2 ^ 256 := by decide
    have := Nat.mul_le_mul_right (2 ^ 256) this
    generalize (2 : Nat) ^ 256 = M at *
    omega)
  refine ⟨r, ?_, hN, by rw [hf, h3, Go.Fp.fp_add]; rfl⟩
  simp only [abI, List.cons_append, List.nil_append, Int.natCast_zero] at hd
  have hz := z16_eq
  have lz := z16_len
  have hz2 := z32u_eq
  have lz2 := z32u_len
  have la := ha.len
  have lb := hb.len
  have lr := hN.len
  generalize zero16 = Z at *
  generalize zero32 = Z2 at *
  apply evVal_ex
  apply Exists.intro
  rw [evFun_fn (fn := a72) rfl]
  simp only [a72, ↓steps_chunk, envOf, quiet, cF, ↓pF, reduceCtorEq, Nat.reduceEqDiff, Int.reduceEq, fs_callW, fs_regionQ, quiet2_eq, lastOf_nil, lastOf_cons, List.take_succ_cons, List.take_zero, List.drop_succ_cons, List.drop_zero, Int.reduceBEq, Int.reduceBNe, ↓keepW_some, ↓qElseW_some, ↓guardW_tt, ↓guardW_ff, ↓guardW_tf, ↓guardW_ft, cL, Int.reduceLE, Int.reduceLT, Int.reduceAdd, Int.reduceMul, Int.reduceSub, Int.reduceTDiv, Int.reduceTMod, Int.reduceNeg, Int.reduceToNat, Int.reduceGT, Int.reduceGE, Int.reducePow, Nat.reduceAdd, Nat.reduceMul, Nat.reduceSub, Nat.reduceDiv, Nat.reduceMod, Nat.reducePow, Nat.reduceLT, Nat.reduceLeDiff, cJ, hz, hz2, hd, hr, List.length_replicate, take_all, eV_cells, eV_size, eV_ok, eV_fold, ns_len, la, lb, l1, lr, lz, lz2, rf_eV]
  rfl
theorem zero16_nm : Nm zero16 := ⟨rfl, by decide⟩
theorem zero16_num : num 65536 zero16 = 0 := by decide
theorem nf_zero_iff {a : List Nat} : nf a = 0 ↔ num 65536 a % Go.Fp.P = 0 := by
  unfold nf
  rw [← Go.Fp.fp_zero, Go.Fp.fp_eq, Nat.zero_mod]
theorem dig16_eq {v w : Nat} (hv : v < 2 ^ 256) (hw : w < 2 ^ 256) : (dig 65536 16 v == dig 65536 16 w) = decide (v = w) := by
  by_cases h : v = w
  · subst h; simp
  · rw [decide_eq_false h, beq_eq_false_iff_ne.2]
    intro e
    have := congrArg (num 65536) e
    rw [nm_dig hv, nm_dig hw] at this
    exact h this
theorem P_lt2 : Go.Fp.P < 2 ^ 256 := by decide
theorem P_pos : 0 < Go.Fp.P := by decide
theorem canon_eq_zero (a : List Nat) : (dig 65536 16 (num 65536 a % Go.Fp.P) == zero16) = decide (nf a = 0) := by
  have hz : zero16 = dig 65536 16 0 := by decide
  have h1 := Nat.mod_lt (num 65536 a) P_pos
  have h2 := P_lt2
  rw [hz, dig16_eq (by omega) (by omega)]
  by_cases h : nf a = 0
  · rw [decide_eq_true h, decide_eq_true (nf_zero_iff.1 h)]
  · rw [decide_eq_false h, decide_eq_false (fun e => h (nf_zero_iff.2 e))]
theorem rneg_v {a : List Nat} (ha : Nm a) : ∃ r, evVal T 73 [eV a] = some (eV r) ∧ Nm r ∧ nf r = -nf a := by
  have hc := rcanon_v ha
  have hq := canon_eq_zero a
  have h1 := Nat.mod_lt (num 65536 a) P_pos
  have hPl := P_lt2
  have hC := Nm.dig (num 65536 a % Go.Fp.P)
  have hCn := nm_dig (v := num 65536 a % Go.Fp.P) (by omega)
  have hp := rprime_v
  have hm := rminus_v primeL_nm hC (by rw [hCn, primeL_num]; omega)
  have lP := primeL_nm.len
  have lC := hC.len
  have la := ha.len
  have hz := z16_eq
  have lz := z16_len
  have hf := z16_fill
  rw [hCn, primeL_num] at hm
  have hceq := vEq_eV lC lz
  rw [hq] at hceq
  by_cases h : nf a = 0
  · rw [decide_eq_true h] at hceq
    refine ⟨dig 65536 16 (num 65536 a % Go.Fp.P), ?_, hC, ?_⟩
    · generalize dig 65536 16 (num 65536 a % Go.Fp.P) = C at *
      generalize zero16 = Z at *
      apply evVal_ex
      apply Exists.intro
      rw [evFun_fn (fn := a73) rfl]
      simp only [a73, ↓steps_chunk, envOf, quiet, cF, ↓pF, reduceCtorEq, Nat.reduceEqDiff, Int.reduceEq, fs_callW, fs_regionQ, quiet2_eq, lastOf_nil, lastOf_cons, List.take_succ_cons, List.take_zero, List.drop_succ_cons, List.drop_zero, Int.reduceBEq, Int.reduceBNe, ↓keepW_some, ↓qElseW_some, ↓guardW_tt, ↓guardW_ff, ↓guardW_tf, ↓guardW_ft, cL, Int.reduceLE, Int.reduceLT, Int.reduceAdd, Int.reduceMul, Int.reduceSub, Int.reduceTDiv, Int.reduceTMod, Int.reduceNeg, Int.reduceToNat, Int.reduceGT, Int.reduceGE, Int.reducePow, Nat.reduceAdd, Nat.reduceMul, Nat.reduceSub, Nat.reduceDiv, Nat.reduceMod, Nat.reducePow, Nat.reduceLT, Nat.reduceLeDiff, cJ, hz, hf, hc, hceq, List.length_replicate, take_all, eV_cells, eV_size, eV_ok, eV_fold, ns_len, la, lC, lz, rf_eV]
      rfl
    · unfold nf
      rw [hCn, Go.Fp.fp_mod]
      show nf a = - nf a
      rw [h]; grobner
  · rw [decide_eq_false h] at hceq
    have hR := Nm.dig (Go.Fp.P - num 65536 a % Go.Fp.P)
    have hRn := nm_dig (v := Go.Fp.P - num 65536 a % Go.Fp.P) (by omega)
    refine ⟨dig 65536 16 (Go.Fp.P - num 65536 a % Go.Fp.P), ?_, hR, ?_⟩
    · have lR := hR.len
      generalize dig 65536 16 (num 65536 a % Go.Fp.P) = C at *
      generalize dig 65536 16 (Go.Fp.P - num 65536 a % Go.Fp.P) = R at *
      generalize primeL = PL at *
      generalize zero16 = Z at *
      apply evVal_ex
      apply Exists.intro
      rw [evFun_fn (fn := a73) rfl]
      simp only [a73, ↓steps_chunk, envOf, quiet, cF, ↓pF, reduceCtorEq, Nat.reduceEqDiff, Int.reduceEq, fs_callW, fs_regionQ, quiet2_eq, lastOf_nil, lastOf_cons, List.take_succ_cons, List.take_zero, List.drop_succ_cons, List.drop_zero, Int.reduceBEq, Int.reduceBNe, ↓keepW_some, ↓qElseW_some, ↓guardW_tt, ↓guardW_ff, ↓guardW_tf, ↓guardW_ft, cL, Int.reduceLE, Int.reduceLT, Int.reduceAdd, Int.reduceMul, Int.reduceSub, Int.reduceTDiv, Int.reduceTMod, Int.reduceNeg, Int.reduceToNat, Int.reduceGT, Int.reduceGE, Int.reducePow, Nat.reduceAdd, Nat.reduceMul, Nat.reduceSub, Nat.reduceDiv, Nat.reduceMod, Nat.reducePow, Nat.reduceLT, Nat.reduceLeDiff, cJ, hz, hf, hc, hceq, hp, hm, List.length_replicate, take_all, eV_cells, eV_size, eV_ok, eV_fold, ns_len, la, lC, lR, lP, lz, rf_eV]
      rfl
    · show Go.Fp.fp (num 65536 _) = _
      rw [hRn, Go.Fp.fp_sub (by omega), Go.Fp.fp_mod, Go.Fp.fp_P]
      exact fe_zero_sub _
theorem rsub_v {a b : List Nat} (ha : Nm a) (hb : Nm b) : ∃ r, evVal T 69 [eV a, eV b] = some (eV r) ∧ Nm r ∧ nf r = nf a - nf b := by
  obtain ⟨n, hn, hN, hnf⟩ := rneg_v hb
  obtain ⟨r, hr, hR, hrf⟩ := radd_v ha hN
  refine ⟨r, ?_, hR, by rw [hrf, hnf, fe_sub_neg]⟩
  have hz := z16_eq
  have lz := z16_len
  have la := ha.len
  have lb := hb.len
  have lr := hR.len
  generalize zero16 = Z at *
  apply evVal_ex
  apply Exists.intro
  rw [evFun_fn (fn := a69) rfl]
  simp only [a69, ↓steps_chunk, envOf, quiet, cF, ↓pF, reduceCtorEq, Nat.reduceEqDiff, Int.reduceEq, fs_callW, fs_regionQ, quiet2_eq, lastOf_nil, lastOf_cons, List.take_succ_cons, List.take_zero, List.drop_succ_cons, List.drop_zero, Int.reduceBEq, Int.reduceBNe, ↓keepW_some, ↓qElseW_some, ↓guardW_tt, ↓guardW_ff, ↓guardW_tf, ↓guardW_ft, cL, Int.reduceLE, Int.reduceLT, Int.reduceAdd, Int.reduceMul, Int.reduceSub, Int.reduceTDiv, Int.reduceTMod, Int.reduceNeg, Int.reduceToNat, Int.reduceGT, Int.reduceGE, Int.reducePow, Nat.reduceAdd, Nat.reduceMul, Nat.reduceSub, Nat.reduceDiv, Nat.reduceMod, Nat.reducePow, Nat.reduceLT, Nat.reduceLeDiff, cJ, hz, hn, hr, List.length_replicate, take_all, eV_cells, eV_size, eV_ok, eV_fold, ns_len, la, lb, lr, lz, rf_eV]
  rfl
def abkI (a b d : List Nat) (i k : Int) (ex : Env) : St := ⟨[(2, .pointer (some ⟨0, 0, none⟩)), (3, .pointer (some ⟨1, 0, none⟩)), (4, .pointer (some ⟨2, 0, none⟩)), (5, .pointer (some ⟨3, 0, none⟩)), (6, .int .i64 i), (7, .int .i64 k)] ++ ex, [⟨ns .u64 a, true, true, true, 1⟩, ⟨ns .u64 b, true, true, true, 1⟩, ⟨ns .u64 zero16, true, true, true, 1⟩, ⟨ns .u64 d, true, true, true, 1⟩], []⟩
theorem rmul_inner {a b d : List Nat} {i x S : Nat} (ha : Nm a) (hb : Nm b) (hi : i < 16) (hx : a[i]? = some x) (hd : d.length = 32) (hM : ∀ x ∈ d, x ≤ S * 4294967296) (hS : S ≤ 256) :
    ∃ d', evCode T 0 (.block 2 (.loop a67_l0)) (abkI a b d i 0 []) = some (.normal, abkI a b d' i 16 [(13, .bool false)]) ∧ d'.length = 32 ∧ (∀ x ∈ d', x ≤ (S + 16) * 4294967296) ∧ num 65536 d' = num 65536 d + x * num 65536 b * 65536 ^ i := by
  have hx' := ha.lt x (List.mem_of_getElem? hx)
  obtain ⟨st, hl, d', rfl, h2, h3, h4⟩ := block_inv (T := T) (base := 0) (id := 2) (body := a67_l0)
    (fun k st => ∃ d' : List Nat, st = abkI a b d' i k [] ∧ d'.length = 32 ∧ (∀ x ∈ d', x ≤ (S + k) * 4294967296) ∧ num 65536 d' = num 65536 d + x * num 65536 (b.take k) * 65536 ^ i)
    (Q := fun st => ∃ d' : List Nat, st = abkI a b d' i 16 [(13, .bool false)] ∧ d'.length = 32 ∧ (∀ x ∈ d', x ≤ (S + 16) * 4294967296) ∧ num 65536 d' = num 65536 d + x * num 65536 b * 65536 ^ i)
    16 (s := abkI a b d i 0 []) ⟨d, rfl, hd, by simpa using hM, by simp [num]⟩
    (fun k st hk hs => by
      obtain ⟨d', rfl, h2, h3, h4⟩ := hs
      obtain ⟨y, hy⟩ : ∃ y, b[k]? = some y := ⟨_, List.getElem?_eq_getElem (by rw [hb.len]; omega)⟩
      obtain ⟨v, hv⟩ : ∃ y, d'[i + k]? = some y := ⟨_, List.getElem?_eq_getElem (by omega)⟩
      have hy' := hb.lt y (List.mem_of_getElem? hy)
      have hv' := h3 v (List.mem_of_getElem? hv)
      have hxy : x * y ≤ 65535 * 65535 := Nat.mul_le_mul (by omega) (by omega)
      have hxc := ns_get (k := .u64) hx
      have hyc := ns_get (k := .u64) hy
      have hvc := ns_get (k := .u64) hv
      have l1 := ha.len
      have l2 := hb.len
      have e1 : ((k : Int) < 16) = True := eq_true (by omega)
      have e3 : ((i : Int) < 16) = True := eq_true (by omega)
      have w1 : IntKind.i64.wrap ((k : Int) + 1) = ((k + 1 : Nat) : Int) := wi_add (b := 1) (by omega)
      have w2 : IntKind.i64.wrap ((i : Int) + (k : Int)) = ((i + k : Nat) : Int) := wi_add (by omega)
      have w5 : IntKind.u64.wrap ((x : Int) * (y : Int)) = ((x * y : Nat) : Int) := w64_mul (by omega)
      have w6 : IntKind.u64.wrap ((v : Int) + ((x * y : Nat) : Int)) = ((v + x * y : Nat) : Int) := w64_add (by omega)
      have hset := ns_set .u64 d' (i + k) (v + x * y)
      have hn := num_set (B := 65536) (v + x * y) hv
      refine ⟨abkI a b (d'.set (i + k) (v + x * y)) i ((k + 1 : Nat) : Int) [], ?_, d'.set (i + k) (v + x * y), rfl, by rw [List.length_set]; exact h2, ?_, ?_⟩
      · have e5 : (((i + k : Nat) : Int) < 32) = True := eq_true (by omega)
        have e7 : (i + k ≤ 31) = True := eq_true (by omega)
        generalize d'.set (i + k) (v + x * y) = D' at *
        generalize v + x * y = u at *
        generalize x * y = xy at *
        generalize i + k = j at *
        generalize k + 1 = k1 at *
        simp only [abkI, a67_l0, envOf, quiet, cF, ↓pF, reduceCtorEq, Nat.reduceEqDiff, Int.reduceEq, fs_callW, fs_regionQ, quiet2_eq, lastOf_nil, lastOf_cons, List.take_succ_cons, List.take_zero, List.drop_succ_cons, List.drop_zero, Int.reduceBEq, Int.reduceBNe, ↓keepV_some, ↓qElse_some, ↓guardV_tt, ↓guardV_ff, ↓guardV_tf, ↓guardV_ft, cL, Int.reduceLE, Int.reduceLT, Int.reduceAdd, Int.reduceMul, Int.reduceSub, Int.reduceTDiv, Int.reduceTMod, Int.reduceNeg, Int.reduceToNat, Int.reduceGT, Int.reduceGE, Int.reducePow, Nat.reduceAdd, Nat.reduceMul, Nat.reduceSub, Nat.reduceDiv, Nat.reduceMod, Nat.reducePow, Nat.reduceLT, Nat.reduceLeDiff, cJ, e1, e3, e5, e7, w1, w2, w5, w6, hxc, hyc, hvc, hset, ns_len, h2, l1, l2]
      · intro z hz
        rcases List.mem_or_eq_of_mem_set hz with h | h
        · exact Nat.le_trans (h3 z h) (Nat.mul_le_mul_right _ (Nat.le_succ _))
        · omega
      · rw [num_take hy]
        have e8 : (v + x * y) * 65536 ^ (i + k) = v * 65536 ^ (i + k) + x * y * 65536 ^ k * 65536 ^ i := by
          rw [Nat.add_mul, Nat.mul_assoc (x * y), ← Nat.pow_add, Nat.add_comm k i]
        rw [Nat.mul_add, Nat.add_mul, ← Nat.mul_assoc x y]
        omega)
    (fun st hs => by
      obtain ⟨d', rfl, h2, h3, h4⟩ := hs
      rw [List.take_of_length_le (by rw [hb.len]; omega)] at h4
      refine ⟨_, ?_, d', rfl, h2, h3, h4⟩
      simp only [abkI, a67_l0, envOf, quiet, cF, ↓pF, reduceCtorEq, Nat.reduceEqDiff, Int.reduceEq, fs_callW, fs_regionQ, quiet2_eq, lastOf_nil, lastOf_cons, List.take_succ_cons, List.take_zero, List.drop_succ_cons, List.drop_zero, Int.reduceBEq, Int.reduceBNe, ↓keepV_some, ↓qElse_some, ↓guardV_tt, ↓guardV_ff, ↓guardV_tf, ↓guardV_ft, cL, Int.reduceLE, Int.reduceLT, Int.reduceAdd, Int.reduceMul, Int.reduceSub, Int.reduceTDiv, Int.reduceTMod, Int.reduceNeg, Int.reduceToNat, Int.reduceGT, Int.reduceGE, Int.reducePow, Nat.reduceAdd, Nat.reduceMul, Nat.reduceSub, Nat.reduceDiv, Nat.reduceMod, Nat.reducePow, Nat.reduceLT, Nat.reduceLeDiff])
  exact ⟨d', hl, h2, h3, h4⟩
theorem rmul_block {a b : List Nat} (ha : Nm a) (hb : Nm b) :
    ∃ d, evCode T 0 (.block 0 (.loop a67_l1)) (abI a b zero32 0 []) = some (.normal, abI a b d 16 [(9, .bool false)]) ∧ d.length = 32 ∧ (∀ x ∈ d, x < 2 ^ 44) ∧ num 65536 d = num 65536 a * num 65536 b := by
  obtain ⟨st, hl, o, rfl, h1, h2, h3⟩ := block_inv (T := T) (base := 0) (id := 0) (body := a67_l1)
    (fun i st => ∃ (o : List Nat) (ex : Env), st = abI a b o i ex ∧ o.length = 32 ∧ (∀ x ∈ o, x ≤ (i * 16) * 4294967296) ∧ num 65536 o = num 65536 (a.take i) * num 65536 b)
    (Q := fun st => ∃ o : List Nat, st = abI a b o 16 [(9, .bool false)] ∧ o.length = 32 ∧ (∀ x ∈ o, x < 2 ^ 44) ∧ num 65536 o = num 65536 a * num 65536 b)
    16 (s := abI a b zero32 0 []) ⟨zero32, [], rfl, rfl, by decide, by simp [num]; decide⟩
    (fun i st hi hs => by
      obtain ⟨o, ex, rfl, h1, h2, h3⟩ := hs
      obtain ⟨x, hx⟩ : ∃ x, a[i]? = some x := ⟨_, List.getElem?_eq_getElem (by rw [ha.len]; omega)⟩
      obtain ⟨d', hb', g1, g2, g3⟩ := rmul_inner ha hb hi hx h1 h2 (by omega)
      simp only [abkI, List.cons_append, List.nil_append, Int.natCast_zero] at hb'
      have w1 : IntKind.i64.wrap ((i : Int) + 1) = ((i + 1 : Nat) : Int) := wi_add (b := 1) (by omega)
      have e1 : ((i : Int) < 16) = True := eq_true (by omega)
      refine ⟨abI a b d' ((i + 1 : Nat) : Int) [], ?_, d', [], rfl, g1, ?_, ?_⟩
      · simp only [abI, a67_l1, envOf, quiet, cF, ↓pF, reduceCtorEq, Nat.reduceEqDiff, Int.reduceEq, fs_callW, fs_regionQ, quiet2_eq, lastOf_nil, lastOf_cons, List.take_succ_cons, List.take_zero, List.drop_succ_cons, List.drop_zero, Int.reduceBEq, Int.reduceBNe, ↓keepV_some, ↓qElse_some, ↓guardV_tt, ↓guardV_ff, ↓guardV_tf, ↓guardV_ft, cL, Int.reduceLE, Int.reduceLT, Int.reduceAdd, Int.reduceMul, Int.reduceSub, Int.reduceTDiv, Int.reduceTMod, Int.reduceNeg, Int.reduceToNat, Int.reduceGT, Int.reduceGE, Int.reducePow, Nat.reduceAdd, Nat.reduceMul, Nat.reduceSub, Nat.reduceDiv, Nat.reduceMod, Nat.reducePow, Nat.reduceLT, Nat.reduceLeDiff, cJ, e1, w1, hb']
      · intro z hz
        exact Nat.le_trans (g2 z hz) (Nat.mul_le_mul_right _ (by omega))
      · rw [g3, h3, num_take hx, Nat.add_mul, Nat.mul_assoc, Nat.mul_assoc, Nat.mul_comm (num 65536 b) (65536 ^ i)])
    (fun st hs => by
      obtain ⟨o, ex, rfl, h1, h2, h3⟩ := hs
      rw [List.take_of_length_le (by rw [ha.len]; omega)] at h3
      refine ⟨_, ?_, o, rfl, h1, fun x hx => Nat.lt_of_le_of_lt (h2 x hx) (by decide), h3⟩
      simp only [abI, a67_l1, envOf, quiet, cF, ↓pF, reduceCtorEq, Nat.reduceEqDiff, Int.reduceEq, fs_callW, fs_regionQ, quiet2_eq, lastOf_nil, lastOf_cons, List.take_succ_cons, List.take_zero, List.drop_succ_cons, List.drop_zero, Int.reduceBEq, Int.reduceBNe, ↓keepV_some, ↓qElse_some, ↓guardV_tt, ↓guardV_ff, ↓guardV_tf, ↓guardV_ft, cL, Int.reduceLE, Int.reduceLT, Int.reduceAdd, Int.reduceMul, Int.reduceSub, Int.reduceTDiv, Int.reduceTMod, Int.reduceNeg, Int.reduceToNat, Int.reduceGT, Int.reduceGE, Int.reducePow, Nat.reduceAdd, Nat.reduceMul, Nat.reduceSub, Nat.reduceDiv, Nat.reduceMod, Nat.reducePow, Nat.reduceLT, Nat.reduceLeDiff])
  exact ⟨o, hl, h1, h2, h3⟩
theorem rmul_v {a b : List Nat} (ha : Nm a) (hb : Nm b) : ∃ r, evVal T 67 [eV a, eV b] = some (eV r) ∧ Nm r ∧ nf r = nf a * nf b := by
  obtain ⟨d, hd, l1, h2, h3⟩ := rmul_block ha hb
  have hal := ha.num_lt
  have hbl := hb.num_lt
  obtain ⟨r, hr, hN, hf⟩ := rfold_v l1 h2 (by
    rw [h3]
    have e : (65536 : Nat) ^ 32 = 2 ^ 256 * 2 ^ 256 := by decide
    rw [e]
    exact Nat.mul_lt_mul'' hal hbl)
  refine ⟨r, ?_, hN, by rw [hf, h3, Go.Fp.fp_mul]; rfl⟩
  simp only [abI, List.cons_append, List.nil_append, Int.natCast_zero] at hd
  have hz := z16_eq
  have lz := z16_len
  have hz2 := z32u_eq
  have lz2 := z32u_len
  have la := ha.len
  have lb := hb.len
  have lr := hN.len
  generalize zero16 = Z at *
  generalize zero32 = Z2 at *
  apply evVal_ex
  apply Exists.intro
  rw [evFun_fn (fn := a67) rfl]
  simp only [a67, ↓steps_chunk, envOf, quiet, cF, ↓pF, reduceCtorEq, Nat.reduceEqDiff, Int.reduceEq, fs_callW, fs_regionQ, quiet2_eq, lastOf_nil, lastOf_cons, List.take_succ_cons, List.take_zero, List.drop_succ_cons, List.drop_zero, Int.reduceBEq, Int.reduceBNe, ↓keepW_some, ↓qElseW_some, ↓guardW_tt, ↓guardW_ff, ↓guardW_tf, ↓guardW_ft, cL, Int.reduceLE, Int.reduceLT, Int.reduceAdd, Int.reduceMul, Int.reduceSub, Int.reduceTDiv, Int.reduceTMod, Int.reduceNeg, Int.reduceToNat, Int.reduceGT, Int.reduceGE, Int.reducePow, Nat.reduceAdd, Nat.reduceMul, Nat.reduceSub, Nat.reduceDiv, Nat.reduceMod, Nat.reducePow, Nat.reduceLT, Nat.reduceLeDiff, cJ, hz, hz2, hd, hr, List.length_replicate, take_all, eV_cells, eV_size, eV_ok, eV_fold, ns_len, la, lb, l1, lr, lz, lz2, rf_eV]
  rfl
end Go.Ev.Ytaceeoghjgggjaa
set_option linter.unusedSimpArgs false
set_option linter.unusedVariables false
namespace Go.Ev.Ytaceeoghjgggjaa
open Go Go.Ev
attribute [local congr] bind_congr2 ite_congr2 qElse_congr gate_congr guardV_congr
set_option maxRecDepth 100000
def rpH (a n o : List Nat) : List Ob := [⟨ns .u64 a, true, true, true, 1⟩, ⟨ns .u64 n, true, true, true, 1⟩, ⟨ns .u64 zero16, true, true, true, 1⟩, ⟨ns .u64 o, true, true, true, 1⟩]
def rpI (a n o : List Nat) (i : Int) (ex : Env) : St := ⟨[(2, .pointer (some ⟨0, 0, none⟩)), (3, .pointer (some ⟨1, 0, none⟩)), (4, .pointer (some ⟨2, 0, none⟩)), (5, .pointer (some ⟨3, 0, none⟩)), (6, .int .i64 i)] ++ ex, rpH a n o, []⟩
def rbI (a n o : List Nat) (i : Int) (w k : Nat) (ex : Env) : St := ⟨[(2, .pointer (some ⟨0, 0, none⟩)), (3, .pointer (some ⟨1, 0, none⟩)), (4, .pointer (some ⟨2, 0, none⟩)), (5, .pointer (some ⟨3, 0, none⟩)), (6, .int .i64 i), (7, .int .u64 w), (8, .int .i64 k)] ++ ex, rpH a n o, []⟩
theorem rb_block {a n o : List Nat} {i w : Nat} (hi : i < 256) (hw : w < 65536) :
    evCode T 0 (.block 2 (.loop a88_l0)) (rbI a n o i w 0 []) = some (.normal, rbI a n o i (w / 2 ^ (i % 16)) (i % 16) [(24, .bool false)]) := by
  have e3 : (i : Int).tmod 16 = ((i % 16 : Nat) : Int) := rfl
  have h := block_loop (T := T) (base := 0) (id := 2) (body := a88_l0) (fun k => rbI a n o i (w / 2 ^ k) k []) (s' := rbI a n o i (w / 2 ^ (i % 16)) (i % 16) [(24, .bool false)]) (i % 16)
    (fun k hk => by
      have h16 := Nat.mod_lt i (by decide : 0 < 16)
      have e1 : ((k : Int) < ((i % 16 : Nat) : Int)) = True := eq_true (by omega)
      have w1 : IntKind.i64.wrap ((k : Int) + 1) = ((k + 1 : Nat) : Int) := wi_add (b := 1) (by omega)
      have hle : w / 2 ^ k ≤ w := Nat.div_le_self _ _
      have w2 : IntKind.u64.wrap (((w / 2 ^ k : Nat) : Int).tdiv 2) = ((w / 2 ^ k / 2 : Nat) : Int) := w64n (n := w / 2 ^ k / 2) (by omega)
      rw [Nat.pow_succ, ← Nat.div_div_eq_div_mul]
      generalize w / 2 ^ k = v at *
      generalize v / 2 = u at *
      generalize i % 16 = m at *
      simp only [rbI, rpH, a88_l0, envOf, quiet, cF, ↓pF, reduceCtorEq, Nat.reduceEqDiff, Int.reduceEq, fs_callW, fs_regionQ, quiet2_eq, lastOf_nil, lastOf_cons, List.take_succ_cons, List.take_zero, List.drop_succ_cons, List.drop_zero, Int.reduceBEq, Int.reduceBNe, ↓keepV_some, ↓qElse_some, ↓guardV_tt, ↓guardV_ff, ↓guardV_tf, ↓guardV_ft, cL, Int.reduceLE, Int.reduceLT, Int.reduceAdd, Int.reduceMul, Int.reduceSub, Int.reduceTDiv, Int.reduceTMod, Int.reduceNeg, Int.reduceToNat, Int.reduceGT, Int.reduceGE, Int.reducePow, Nat.reduceAdd, Nat.reduceMul, Nat.reduceSub, Nat.reduceDiv, Nat.reduceMod, Nat.reducePow, Nat.reduceLT, Nat.reduceLeDiff, cJ, e1, e3, w1, w2])
    (by
      generalize w / 2 ^ (i % 16) = v at *
      generalize i % 16 = m at *
      simp only [rbI, rpH, a88_l0, envOf, quiet, cF, ↓pF, reduceCtorEq, Nat.reduceEqDiff, Int.reduceEq, fs_callW, fs_regionQ, quiet2_eq, lastOf_nil, lastOf_cons, List.take_succ_cons, List.take_zero, List.drop_succ_cons, List.drop_zero, Int.reduceBEq, Int.reduceBNe, ↓keepV_some, ↓qElse_some, ↓guardV_tt, ↓guardV_ff, ↓guardV_tf, ↓guardV_ft, cL, Int.reduceLE, Int.reduceLT, Int.reduceAdd, Int.reduceMul, Int.reduceSub, Int.reduceTDiv, Int.reduceTMod, Int.reduceNeg, Int.reduceToNat, Int.reduceGT, Int.reduceGE, Int.reducePow, Nat.reduceAdd, Nat.reduceMul, Nat.reduceSub, Nat.reduceDiv, Nat.reduceMod, Nat.reducePow, Nat.reduceLT, Nat.reduceLeDiff, cJ, e3])
  rw [Nat.pow_zero, Nat.div_one] at h
  exact h
theorem rp_body {a n o : List Nat} {i : Nat} {ex : Env} (ha : Nm a) (hn : Nm n) (hi : i < 256) (ho : Nm o) (hp : nf o = Go.Fp.pow (nf a) (num 65536 n / 2 ^ (i + 1))) :
    ∃ r ex', evCode T 0 a88_l1 (rpI a n o i ex) = some (.normal, rpI a n r ((i : Int) - 1) ex') ∧ Nm r ∧ nf r = Go.Fp.pow (nf a) (num 65536 n / 2 ^ i) := by
  obtain ⟨w, hw⟩ : ∃ w, n[i / 16]? = some w := ⟨_, List.getElem?_eq_getElem (by rw [hn.len]; omega)⟩
  have hw' := hn.lt w (List.mem_of_getElem? hw)
  have hwv := num_get (B := 65536) (by decide) hn.lt hw
  have hwc := ns_get (k := .u64) hw
  have hbit : w / 2 ^ (i % 16) % 2 = num 65536 n / 2 ^ i % 2 := by
    rw [← hwv, show (65536 : Nat) = 2 ^ 16 from rfl, bitOf (Nat.mod_lt _ (by decide)), Nat.div_add_mod]
  obtain ⟨r1, m1, g1, g2⟩ := rmul_v ho ho
  obtain ⟨r2, m2, g3, g4⟩ := rmul_v g1 ha
  have hlt := bit_lt (num 65536 n) i
  have hnum : num 65536 n / 2 ^ i = 2 * (num 65536 n / 2 ^ (i + 1)) + num 65536 n / 2 ^ i % 2 := by
    rw [Nat.pow_succ, ← Nat.div_div_eq_div_mul]
    omega
  have hstep := pow_step (nf a) (num 65536 n / 2 ^ (i + 1)) (num 65536 n / 2 ^ i % 2) hlt
  rw [← hnum, ← hp] at hstep
  have hb := rb_block (a := a) (n := n) (o := r1) hi hw'
  simp only [rbI, rpH, List.cons_append, List.nil_append, Int.natCast_zero] at hb
  have w2 : IntKind.i64.wrap ((i : Int).tdiv 16) = ((i / 16 : Nat) : Int) := wn (n := i / 16) (by omega)
  have w3 : IntKind.i64.wrap ((i : Int) - 1) = (i : Int) - 1 := wrapI64_small (by omega) (by omega)
  have w4 : ((w / 2 ^ (i % 16) : Nat) : Int).tmod 2 = ((w / 2 ^ (i % 16) % 2 : Nat) : Int) := rfl
  have e1 : ((0 : Int) ≤ (i : Int)) = True := eq_true (by omega)
  have e3 : (((i / 16 : Nat) : Int) < 16) = True := eq_true (by omega)
  have l0 := ha.len
  have l1 := hn.len
  have l2 := ho.len
  have l3 := g1.len
  have l4 := g3.len
  rw [hbit] at w4
  generalize hB : num 65536 n / 2 ^ i % 2 = B at *
  generalize w / 2 ^ (i % 16) = wv at *
  by_cases hB1 : B = 1
  · have hbq : ((B : Int) == 1) = true := by rw [hB1]; rfl
    rw [if_pos hB1] at hstep
    refine ⟨r2, [], ?_, g3, by rw [hstep, g4, g2]⟩
    simp only [rpI, rpH, a88_l1, envOf, quiet, cF, ↓pF, reduceCtorEq, Nat.reduceEqDiff, Int.reduceEq, fs_callW, fs_regionQ, quiet2_eq, lastOf_nil, lastOf_cons, List.take_succ_cons, List.take_zero, List.drop_succ_cons, List.drop_zero, Int.reduceBEq, Int.reduceBNe, ↓keepV_some, ↓qElse_some, ↓guardV_tt, ↓guardV_ff, ↓guardV_tf, ↓guardV_ft, cL, Int.reduceLE, Int.reduceLT, Int.reduceAdd, Int.reduceMul, Int.reduceSub, Int.reduceTDiv, Int.reduceTMod, Int.reduceNeg, Int.reduceToNat, Int.reduceGT, Int.reduceGE, Int.reducePow, Nat.reduceAdd, Nat.reduceMul, Nat.reduceSub, Nat.reduceDiv, Nat.reduceMod, Nat.reducePow, Nat.reduceLT, Nat.reduceLeDiff, cJ, hwc, hb, w2, w3, w4, e1, e3, m1, m2, hbq, eV_cells, eV_size, eV_ok, eV_fold, ns_len, take_all, l0, l1, l2, l3, l4, rf_eV]
  · have hbq : ((B : Int) == 1) = false := by
      have : B = 0 := by omega
      rw [this]; rfl
    rw [if_neg hB1] at hstep
    refine ⟨r1, [], ?_, g1, by rw [hstep, g2]⟩
    simp only [rpI, rpH, a88_l1, envOf, quiet, cF, ↓pF, reduceCtorEq, Nat.reduceEqDiff, Int.reduceEq, fs_callW, fs_regionQ, quiet2_eq, lastOf_nil, lastOf_cons, List.take_succ_cons, List.take_zero, List.drop_succ_cons, List.drop_zero, Int.reduceBEq, Int.reduceBNe, ↓keepV_some, ↓qElse_some, ↓guardV_tt, ↓guardV_ff, ↓guardV_tf, ↓guardV_ft, cL, Int.reduceLE, Int.reduceLT, Int.reduceAdd, Int.reduceMul, Int.reduceSub, Int.reduceTDiv, Int.reduceTMod, Int.reduceNeg, Int.reduceToNat, Int.reduceGT, Int.reduceGE, Int.reducePow, Nat.reduceAdd, Nat.reduceMul, Nat.reduceSub, Nat.reduceDiv, Nat.reduceMod, Nat.reducePow, Nat.reduceLT, Nat.reduceLeDiff, cJ, hwc, hb, w2, w3, w4, e1, e3, m1, m2, hbq, eV_cells, eV_size, eV_ok, eV_fold, ns_len, take_all, l0, l1, l2, l3, l4, rf_eV]
theorem rone_nf : nf (smallL 1) = 1 := by unfold nf; rw [smallL_num (by decide)]; rfl
theorem rpower_v {a n : List Nat} (ha : Nm a) (hn : Nm n) : ∃ r, evVal T 88 [eV a, eV n] = some (eV r) ∧ Nm r ∧ nf r = Go.Fp.pow (nf a) (num 65536 n) := by
  have hK := hn.num_lt
  obtain ⟨st, hb, r, rfl, hr1, hr2⟩ := block_inv (T := T) (base := 0) (id := 0) (body := a88_l1)
    (fun j st => ∃ (r : List Nat) (ex : Env), st = rpI a n r ((255 : Int) - j) ex ∧ Nm r ∧ nf r = Go.Fp.pow (nf a) (num 65536 n / 2 ^ (256 - j)))
    (Q := fun st => ∃ r : List Nat, st = rpI a n r (-1) [(11, .bool false)] ∧ Nm r ∧ nf r = Go.Fp.pow (nf a) (num 65536 n))
    256 (s := rpI a n (smallL 1) 255 []) ⟨_, [], rfl, smallL_nm 1, by rw [rone_nf, Nat.sub_zero, Nat.div_eq_of_lt hK]; rfl⟩
    (fun j st hj hs => by
      obtain ⟨r, ex, rfl, h1, h2⟩ := hs
      obtain ⟨i, hi⟩ : ∃ i, 256 - j = i + 1 := ⟨255 - j, by omega⟩
      rw [hi] at h2
      obtain ⟨r', ex', g1, g2, g3⟩ := rp_body (ex := ex) ha hn (i := i) (by omega) h1 h2
      rw [show (255 : Int) - j = (i : Int) by omega]
      refine ⟨_, g1, r', ex', ?_, g2, ?_⟩
      · rw [show (255 : Int) - ((j + 1 : Nat) : Int) = (i : Int) - 1 by omega]
      · rw [show 256 - (j + 1) = i by omega]; exact g3)
    (fun st hs => by
      obtain ⟨r, ex, rfl, h1, h2⟩ := hs
      rw [Nat.sub_self, Nat.pow_zero, Nat.div_one] at h2
      have e : ((0 : Int) ≤ -1) = False := by decide
      refine ⟨_, ?_, r, rfl, h1, h2⟩
      rw [show (255 : Int) - ((256 : Nat) : Int) = -1 by omega]
      simp only [rpI, rpH, a88_l1, envOf, quiet, cF, ↓pF, reduceCtorEq, Nat.reduceEqDiff, Int.reduceEq, fs_callW, fs_regionQ, quiet2_eq, lastOf_nil, lastOf_cons, List.take_succ_cons, List.take_zero, List.drop_succ_cons, List.drop_zero, Int.reduceBEq, Int.reduceBNe, ↓keepV_some, ↓qElse_some, ↓guardV_tt, ↓guardV_ff, ↓guardV_tf, ↓guardV_ft, cL, Int.reduceLE, Int.reduceLT, Int.reduceAdd, Int.reduceMul, Int.reduceSub, Int.reduceTDiv, Int.reduceTMod, Int.reduceNeg, Int.reduceToNat, Int.reduceGT, Int.reduceGE, Int.reducePow, Nat.reduceAdd, Nat.reduceMul, Nat.reduceSub, Nat.reduceDiv, Nat.reduceMod, Nat.reducePow, Nat.reduceLT, Nat.reduceLeDiff, e])
  refine ⟨r, ?_, hr1, hr2⟩
  have hs := rsmall_v 1 (by decide)
  have ls := (smallL_nm 1).len
  have hz := z16_eq
  have lz := z16_len
  have la := ha.len
  have ln := hn.len
  have lr := hr1.len
  simp only [Int.natCast_one] at hs
  simp only [rpI, rpH, List.cons_append, List.nil_append] at hb
  generalize zero16 = Z at *
  generalize smallL 1 = S at *
  apply evVal_ex
  apply Exists.intro
  rw [evFun_fn (fn := a88) rfl]
  simp only [a88, ↓steps_chunk, envOf, quiet, cF, ↓pF, reduceCtorEq, Nat.reduceEqDiff, Int.reduceEq, fs_callW, fs_regionQ, quiet2_eq, lastOf_nil, lastOf_cons, List.take_succ_cons, List.take_zero, List.drop_succ_cons, List.drop_zero, Int.reduceBEq, Int.reduceBNe, ↓keepW_some, ↓qElseW_some, ↓guardW_tt, ↓guardW_ff, ↓guardW_tf, ↓guardW_ft, cL, Int.reduceLE, Int.reduceLT, Int.reduceAdd, Int.reduceMul, Int.reduceSub, Int.reduceTDiv, Int.reduceTMod, Int.reduceNeg, Int.reduceToNat, Int.reduceGT, Int.reduceGE, Int.reducePow, Nat.reduceAdd, Nat.reduceMul, Nat.reduceSub, Nat.reduceDiv, Nat.reduceMod, Nat.reducePow, Nat.reduceLT, Nat.reduceLeDiff, cJ, hz, hs, hb, List.length_replicate, take_all, eV_cells, eV_size, eV_ok, eV_fold, ns_len, la, ln, lr, ls, lz, rf_eV]
  rfl
theorem rinvert_v {a : List Nat} (ha : Nm a) : ∃ r, evVal T 71 [eV a] = some (eV r) ∧ Nm r ∧ nf r = Go.Fp.iv (nf a) := by
  have hp := rprime_v
  have hs := rsmall_v 2 (by decide)
  have hm := rminus_v primeL_nm (smallL_nm 2) (by rw [primeL_num, smallL_num (by decide)]; decide)
  rw [primeL_num, smallL_num (by decide)] at hm
  have hN := Nm.dig (Go.Fp.P - 2)
  have hn := nm_dig (v := Go.Fp.P - 2) (by decide)
  obtain ⟨r, hr, h1, h2⟩ := rpower_v ha hN
  rw [hn] at h2
  refine ⟨r, ?_, h1, h2⟩
  have hz := z16_eq
  have lz := z16_len
  have la := ha.len
  have lp := primeL_nm.len
  have ls := (smallL_nm 2).len
  have lm := hN.len
  have lr := h1.len
  simp only [Int.cast_ofNat_Int] at hs
  generalize zero16 = Z at *
  generalize primeL = PL at *
  generalize smallL 2 = S at *
  generalize dig 65536 16 (Go.Fp.P - 2) = E at *
  apply evVal_ex
  apply Exists.intro
  rw [evFun_fn (fn := a71) rfl]
  simp only [a71, ↓steps_chunk, envOf, quiet, cF, ↓pF, reduceCtorEq, Nat.reduceEqDiff, Int.reduceEq, fs_callW, fs_regionQ, quiet2_eq, lastOf_nil, lastOf_cons, List.take_succ_cons, List.take_zero, List.drop_succ_cons, List.drop_zero, Int.reduceBEq, Int.reduceBNe, ↓keepW_some, ↓qElseW_some, ↓guardW_tt, ↓guardW_ff, ↓guardW_tf, ↓guardW_ft, cL, Int.reduceLE, Int.reduceLT, Int.reduceAdd, Int.reduceMul, Int.reduceSub, Int.reduceTDiv, Int.reduceTMod, Int.reduceNeg, Int.reduceToNat, Int.reduceGT, Int.reduceGE, Int.reducePow, Nat.reduceAdd, Nat.reduceMul, Nat.reduceSub, Nat.reduceDiv, Nat.reduceMod, Nat.reducePow, Nat.reduceLT, Nat.reduceLeDiff, cJ, hz, hp, hs, hm, hr, List.length_replicate, take_all, eV_cells, eV_size, eV_ok, eV_fold, ns_len, la, lp, ls, lm, lr, lz, rf_eV]
  rfl
theorem d_eq : -(Go.Fp.fp 121665) * Go.Fp.iv (Go.Fp.fp 121666) = Go.Fp.d := by
  have h0 : Go.Fp.fp 121666 ≠ 0 := by decide +kernel
  have h1 := Go.Fp.iv_mul h0
  have h2 : Go.Fp.fp 121666 * Go.Fp.d = - Go.Fp.fp 121665 := by decide +kernel
  refine Go.Fp.fld.cancel h0 ?_
  rw [h2]
  generalize Go.Fp.iv (Go.Fp.fp 121666) = y at *
  generalize Go.Fp.fp 121666 = x at *
  generalize Go.Fp.fp 121665 = z at *
  clear h0 h2
  grobner
theorem rd_v : ∃ r, evVal T 36 [] = some (eV r) ∧ Nm r ∧ nf r = Go.Fp.d := by
  have s1 := rsmall_v 121665 (by decide)
  have s2 := rsmall_v 121666 (by decide)
  obtain ⟨n, hn, n1, n2⟩ := rneg_v (smallL_nm 121665)
  obtain ⟨v, hv, v1, v2⟩ := rinvert_v (smallL_nm 121666)
  obtain ⟨r, hr, r1, r2⟩ := rmul_v n1 v1
  refine ⟨r, ?_, r1, ?_⟩
  · have hz := z16_eq
    have lz := z16_len
    have lr := r1.len
    simp only [Int.cast_ofNat_Int] at s1 s2
    generalize zero16 = Z at *
    generalize smallL 121665 = S1 at *
    generalize smallL 121666 = S2 at *
    apply evVal_ex
    apply Exists.intro
    rw [evFun_fn (fn := a36) rfl]
    simp only [a36, ↓steps_chunk, envOf, quiet, cF, ↓pF, reduceCtorEq, Nat.reduceEqDiff, Int.reduceEq, fs_callW, fs_regionQ, quiet2_eq, lastOf_nil, lastOf_cons, List.take_succ_cons, List.take_zero, List.drop_succ_cons, List.drop_zero, Int.reduceBEq, Int.reduceBNe, ↓keepW_some, ↓qElseW_some, ↓guardW_tt, ↓guardW_ff, ↓guardW_tf, ↓guardW_ft, cL, Int.reduceLE, Int.reduceLT, Int.reduceAdd, Int.reduceMul, Int.reduceSub, Int.reduceTDiv, Int.reduceTMod, Int.reduceNeg, Int.reduceToNat, Int.reduceGT, Int.reduceGE, Int.reducePow, Nat.reduceAdd, Nat.reduceMul, Nat.reduceSub, Nat.reduceDiv, Nat.reduceMod, Nat.reducePow, Nat.reduceLT, Nat.reduceLeDiff, cJ, hz, s1, s2, hn, hv, hr, List.length_replicate, take_all, eV_cells, eV_size, eV_ok, eV_fold, ns_len, lr, lz, rf_eV]
    rfl
  · have e1 : nf (smallL 121665) = Go.Fp.fp 121665 := by unfold nf; rw [smallL_num (by decide)]
    have e2 : nf (smallL 121666) = Go.Fp.fp 121666 := by unfold nf; rw [smallL_num (by decide)]
    rw [r2, n2, v2, e1, e2, d_eq]
end Go.Ev.Ytaceeoghjgggjaa
set_option linter.unusedSimpArgs false
set_option linter.unusedVariables false
namespace Go.Ev.Ytaceeoghjgggjaa
open Go Go.Ev
attribute [local congr] bind_congr2 ite_congr2 qElse_congr gate_congr guardV_congr
set_option maxRecDepth 100000
theorem six (l : List Nat) (h : l.length = 16) : ∃ a0 a1 a2 a3 a4 a5 a6 a7 a8 a9 a10 a11 a12 a13 a14 a15, l = [a0, a1, a2, a3, a4, a5, a6, a7, a8, a9, a10, a11, a12, a13, a14, a15] := by
  match l, h with
  | [a0, a1, a2, a3, a4, a5, a6, a7, a8, a9, a10, a11, a12, a13, a14, a15], _ => exact ⟨a0, a1, a2, a3, a4, a5, a6, a7, a8, a9, a10, a11, a12, a13, a14, a15, rfl⟩
def tL (x y z : List Nat) : List Nat := x ++ (y ++ z)
theorem tL_len {x y z : List Nat} (hx : x.length = 16) (hy : y.length = 16) (hz : z.length = 16) : (tL x y z).length = 48 := by simp [tL, hx, hy, hz]
theorem tri {x y z : List Nat} (hx : x.length = 16) (hy : y.length = 16) (hz : z.length = 16) :
    List.take 16 (ns .u64 (tL x y z)) = ns .u64 x ∧ List.take 16 (List.drop 16 (ns .u64 (tL x y z))) = ns .u64 y ∧ List.take 16 (List.drop 32 (ns .u64 (tL x y z))) = ns .u64 z := by
  obtain ⟨a0, a1, a2, a3, a4, a5, a6, a7, a8, a9, a10, a11, a12, a13, a14, a15, rfl⟩ := six _ hx
  obtain ⟨b0, b1, b2, b3, b4, b5, b6, b7, b8, b9, b10, b11, b12, b13, b14, b15, rfl⟩ := six _ hy
  obtain ⟨c0, c1, c2, c3, c4, c5, c6, c7, c8, c9, c10, c11, c12, c13, c14, c15, rfl⟩ := six _ hz
  exact ⟨rfl, rfl, rfl⟩
def zero48 : List Nat := List.replicate 48 0
theorem z48_eq : List.replicate 48 (Value.int .u64 0) = ns .u64 zero48 := rfl
theorem z48_len : zero48.length = 48 := rfl
theorem fillT {x y z : List Nat} (hx : x.length = 16) (hy : y.length = 16) (hz : z.length = 16) : fillL (ns .u64 zero48) [(0, 16, eV x), (16, 16, eV y), (32, 16, eV z)] = some (ns .u64 (tL x y z)) := by
  obtain ⟨a0, a1, a2, a3, a4, a5, a6, a7, a8, a9, a10, a11, a12, a13, a14, a15, rfl⟩ := six _ hx
  obtain ⟨b0, b1, b2, b3, b4, b5, b6, b7, b8, b9, b10, b11, b12, b13, b14, b15, rfl⟩ := six _ hy
  obtain ⟨c0, c1, c2, c3, c4, c5, c6, c7, c8, c9, c10, c11, c12, c13, c14, c15, rfl⟩ := six _ hz
  rfl
structure RRep (x y z : List Nat) (p : Go.Cv.Pt Go.Fp.P Go.Fp.d) : Prop where
  nx : Nm x
  ny : Nm y
  nz : Nm z
  ne : nf z ≠ 0
  x : nf x = p.x * nf z
  y : nf y = p.y * nf z
def RP (l : List Nat) (p : Go.Cv.Pt Go.Fp.P Go.Fp.d) : Prop := ∃ x y z, l = tL x y z ∧ RRep x y z p
theorem RP.len {l : List Nat} {p : Go.Cv.Pt Go.Fp.P Go.Fp.d} (h : RP l p) : l.length = 48 := by
  obtain ⟨x, y, z, rfl, h⟩ := h
  exact tL_len h.nx.len h.ny.len h.nz.len
theorem fe_m1 (b D : Go.Fp.Fe) : b - D * b = b * (1 - D) := by grobner
theorem fe_m2 (b D : Go.Fp.Fe) : b + D * b = b * (1 + D) := by grobner
theorem sum_x {s D N a b m q w : Go.Fp.Fe} (hs : s * (1 + D) = N) (hb : b = a * a)
    (hm : m = b - D * b) (hq : q = b + D * b) (hw : w = N * a) : a * m * w = s * (m * q) := by
  subst hw hm hq hb
  rw [← hs]
  clear hs
  grobner
theorem sum_y {s D N a b m q : Go.Fp.Fe} (hs : s * (1 - D) = N) (hb : b = a * a)
    (hm : m = b - D * b) (hq : q = b + D * b) : a * q * (N * a) = s * (m * q) := by
  subst hm hq hb
  rw [← hs]
  clear hs
  grobner
theorem radd_rep {x1 y1 z1 x2 y2 z2 : Go.Fp.Fe} {p q : Go.Cv.Pt Go.Fp.P Go.Fp.d} (n1 : z1 ≠ 0) (n2 : z2 ≠ 0) (hx1 : x1 = p.x * z1) (hy1 : y1 = p.y * z1) (hx2 : x2 = q.x * z2) (hy2 : y2 = q.y * z2)
    {a b c e g m u w : Go.Fp.Fe} (ha : a = z1 * z2) (hb : b = a * a) (hc : c = x1 * x2) (he : e = y1 * y2) (hg : g = Go.Fp.d * (c * e)) (hm : m = b - g) (hu : u = b + g) (hw : w = (x1 + y1) * (x2 + y2) - c - e) :
    m * u ≠ 0 ∧ a * m * w = (padd p q).x * (m * u) ∧ a * u * (e + c) = (padd p q).y * (m * u) := by
  have F := Go.Fp.fld
  have hP := F.denP p.on q.on
  have hM := F.denM p.on q.on
  have sx := Go.Cv.add_x Go.Fp.fld p q
  have sy := Go.Cv.add_y Go.Fp.fld p q
  have hx : (padd p q).x * (1 + Go.Fp.d * p.x * q.x * p.y * q.y) = p.x * q.y + q.x * p.y := sx
  have hy : (padd p q).y * (1 - Go.Fp.d * p.x * q.x * p.y * q.y) = p.y * q.y + p.x * q.x := sy
  clear sx sy
  generalize (padd p q).x = s1 at *
  generalize (padd p q).y = s2 at *
  generalize p.x = px at *
  generalize p.y = py at *
  generalize q.x = qx at *
  generalize q.y = qy at *
  generalize Go.Fp.d = d at *
  have an : a ≠ 0 := by rw [ha]; exact F.mul_ne n1 n2
  have bn : b ≠ 0 := by rw [hb]; exact F.mul_ne an an
  have hgb : g = d * px * qx * py * qy * b := by
    subst hx1 hy1 hx2 hy2 hc he hb ha
    rw [hg]
    clear hg hm hu hw hP hM hx hy n1 n2 an bn F
    grobner
  have hwa : w = (px * qy + qx * py) * a := by
    subst hx1 hy1 hx2 hy2 hc he ha
    rw [hw]
    clear hg hm hu hw hP hM hx hy n1 n2 an bn F hgb hb
    grobner
  have hec : e + c = (py * qy + px * qx) * a := by
    subst hx1 hy1 hx2 hy2 hc he ha
    clear hg hm hu hw hP hM hx hy n1 n2 an bn F hgb hb hwa
    grobner
  have hm' : m = b - d * px * qx * py * qy * b := by rw [hm, hgb]
  have hu' : u = b + d * px * qx * py * qy * b := by rw [hu, hgb]
  generalize hD : d * px * qx * py * qy = D at *
  refine ⟨?_, ?_, ?_⟩
  · have e1 : m = b * (1 - D) := by rw [hm']; exact fe_m1 _ _
    have e2 : u = b * (1 + D) := by rw [hu']; exact fe_m2 _ _
    rw [e1, e2]
    exact F.mul_ne (F.mul_ne bn hM) (F.mul_ne bn hP)
  · exact sum_x hx hb hm' hu' hwa
  · rw [hec]
    exact sum_y hy hb hm' hu'
theorem raddp_v {l1 l2 dl : List Nat} {p q : Go.Cv.Pt Go.Fp.P Go.Fp.d} (h1 : RP l1 p) (h2 : RP l2 q) (Nd : Nm dl) (hd : nf dl = Go.Fp.d) : ∃ r, evVal T 35 [eV l1, eV l2, eV dl] = some (eV r) ∧ RP r (padd p q) := by
  obtain ⟨x1, y1, z1, rfl, h1⟩ := h1
  obtain ⟨x2, y2, z2, rfl, h2⟩ := h2
  obtain ⟨a, va, Na, fa⟩ := rmul_v h1.nz h2.nz
  obtain ⟨b, vb, Nb, fb⟩ := rmul_v Na Na
  obtain ⟨c, vc, Nc, fc⟩ := rmul_v h1.nx h2.nx
  obtain ⟨e, ve, Ne, fe'⟩ := rmul_v h1.ny h2.ny
  obtain ⟨ce, vce, Nce, fce⟩ := rmul_v Nc Ne
  obtain ⟨g, vg, Ng, fg⟩ := rmul_v Nd Nce
  obtain ⟨m, vm, Nmm, fm⟩ := rsub_v Nb Ng
  obtain ⟨u, vu, Nu, fu⟩ := radd_v Nb Ng
  obtain ⟨s1, vs1, Ns1, fs1⟩ := radd_v h1.nx h1.ny
  obtain ⟨s2, vs2, Ns2, fs2⟩ := radd_v h2.nx h2.ny
  obtain ⟨s3, vs3, Ns3, fs3⟩ := rmul_v Ns1 Ns2
  obtain ⟨s4, vs4, Ns4, fs4⟩ := rsub_v Ns3 Nc
  obtain ⟨w, vw, Nw, fw⟩ := rsub_v Ns4 Ne
  obtain ⟨am, vam, Nam, fam⟩ := rmul_v Na Nmm
  obtain ⟨X, vX, NX, fX⟩ := rmul_v Nam Nw
  obtain ⟨au, vau, Nau, fau⟩ := rmul_v Na Nu
  obtain ⟨ec, vec, Nec, fec⟩ := radd_v Ne Nc
  obtain ⟨Y, vY, NY, fY⟩ := rmul_v Nau Nec
  obtain ⟨Z, vZ, NZ, fZ⟩ := rmul_v Nmm Nu
  obtain ⟨g1, g2, g3⟩ := radd_rep (w := nf w) (g := nf g) h1.ne h2.ne h1.x h1.y h2.x h2.y fa fb fc fe' (by rw [fg, hd, fce]) fm fu (by rw [fw, fs4, fs3, fs1, fs2])
  refine ⟨tL X Y Z, ?_, X, Y, Z, rfl, NX, NY, NZ, by rw [fZ]; exact g1, by rw [fX, fam, fZ]; exact g2, by rw [fY, fau, fec, fZ]; exact g3⟩
  obtain ⟨u0, u1, u2⟩ := tri h1.nx.len h1.ny.len h1.nz.len
  obtain ⟨v0, v1, v2⟩ := tri h2.nx.len h2.ny.len h2.nz.len
  have L1 := tL_len h1.nx.len h1.ny.len h1.nz.len
  have L2 := tL_len h2.nx.len h2.ny.len h2.nz.len
  have L3 := tL_len NX.len NY.len NZ.len
  have hf := fillT NX.len NY.len NZ.len
  have hz := z16_eq
  have lz := z16_len
  have hz2 := z48_eq
  have lz2 := z48_len
  have ld := Nd.len
  have la := Na.len
  have lb := Nb.len
  have lc := Nc.len
  have le := Ne.len
  have lg := Ng.len
  have lm := Nmm.len
  have lu := Nu.len
  have lw := Nw.len
  generalize zero16 = Z16 at *
  generalize zero48 = Z48 at *
  generalize tL X Y Z = R at *
  generalize tL x1 y1 z1 = P1 at *
  generalize tL x2 y2 z2 = P2 at *
  apply evVal_ex
  apply Exists.intro
  rw [evFun_fn (fn := a35) rfl]
  simp only [a35, ↓steps_chunk, envOf, quiet, cF, ↓pF, reduceCtorEq, Nat.reduceEqDiff, Int.reduceEq, fs_callW, fs_regionQ, quiet2_eq, lastOf_nil, lastOf_cons, List.take_succ_cons, List.take_zero, List.drop_succ_cons, List.drop_zero, Int.reduceBEq, Int.reduceBNe, ↓keepW_some, ↓qElseW_some, ↓guardW_tt, ↓guardW_ff, ↓guardW_tf, ↓guardW_ft, cL, Int.reduceLE, Int.reduceLT, Int.reduceAdd, Int.reduceMul, Int.reduceSub, Int.reduceTDiv, Int.reduceTMod, Int.reduceNeg, Int.reduceToNat, Int.reduceGT, Int.reduceGE, Int.reducePow, Nat.reduceAdd, Nat.reduceMul, Nat.reduceSub, Nat.reduceDiv, Nat.reduceMod, Nat.reducePow, Nat.reduceLT, Nat.reduceLeDiff, cJ, hz, hz2, u0, u1, u2, v0, v1, v2, hf, va, vb, vc, ve, vce, vg, vm, vu, vs1, vs2, vs3, vs4, vw, vam, vX, vau, vec, vY, vZ, List.length_replicate, take_all, eV_cells, eV_size, eV_ok, eV_fold, ns_len, L1, L2, L3, lz, lz2, ld, la, lb, lc, le, lg, lm, lu, lw, rf_eV]
  rfl
end Go.Ev.Ytaceeoghjgggjaa
set_option linter.unusedSimpArgs false
set_option linter.unusedVariables false
namespace Go.Ev.Ytaceeoghjgggjaa
open Go Go.Ev
attribute [local congr] bind_congr2 ite_congr2 qElse_congr gate_congr guardV_congr
set_option maxRecDepth 100000
theorem key_eq {l : List Nat} (hl : l.length = 32) (h : ∀ x ∈ l, x < 256) : l = dig 256 32 (num 256 l) := by
  have := dig_num (B := 256) (by decide) h
  rw [hl] at this
  exact this.symm
theorem top_add {v : Nat} (hv : v < 2 ^ 255) : ∃ w, (dig 256 32 v)[31]? = some w ∧ w < 128 ∧ (dig 256 32 v).set 31 (w + 128) = dig 256 32 (v + 2 ^ 255) := by
  obtain ⟨w, hw⟩ : ∃ w, (dig 256 32 v)[31]? = some w := ⟨_, List.getElem?_eq_getElem (by rw [dig_len]; decide)⟩
  have hwv : w = v / 256 ^ 31 % 256 := by rw [dig_get (by decide)] at hw; exact (Option.some.inj hw).symm
  have e31 : (256 : Nat) ^ 31 = 452312848583266388373324160190187140051835877600158453279131187530910662656 := by decide
  have e32 : (256 : Nat) ^ 32 = 115792089237316195423570985008687907853269984665640564039457584007913129639936 := by decide
  have e255 : (2 : Nat) ^ 255 = 57896044618658097711785492504343953926634992332820282019728792003956564819968 := by decide
  have hw128 : w < 128 := by
    rw [e31] at hwv
    rw [e255] at hv
    omega
  refine ⟨w, hw, hw128, ?_⟩
  have hlt : ∀ x ∈ (dig 256 32 v).set 31 (w + 128), x < 256 := set_lt (fun x hx => dig_lt (by decide) hx) (by omega)
  refine (key_eq (by rw [List.length_set, dig_len]) hlt).trans (congrArg (dig 256 32) ?_)
  have hs := num_set (B := 256) (w + 128) hw
  have hn : num 256 (dig 256 32 v) = v := by
    rw [num_dig (by decide)]
    refine Nat.mod_eq_of_lt ?_
    rw [e32]
    rw [e255] at hv
    omega
  rw [hn, e31] at hs
  rw [e255]
  omega
theorem rencode_v {l : List Nat} {p : Go.Cv.Pt Go.Fp.P Go.Fp.d} (h : RP l p) : evVal T 33 [eV l] = some (.agg (u8s (enc p)).toArray) := by
  obtain ⟨x, y, z, rfl, h⟩ := h
  obtain ⟨i, vi, Ni, fi⟩ := rinvert_v h.nz
  obtain ⟨a, va, Na, fa⟩ := rmul_v h.ny Ni
  obtain ⟨b, vb, Nb, fb⟩ := rmul_v h.nx Ni
  have hinv := Go.Fp.iv_mul h.ne
  have fa' : nf a = p.y := by rw [fa, fi, h.y]; grobner
  have fb' : nf b = p.x := by rw [fb, fi, h.x]; grobner
  have k1 := rbytes_v Na
  have k2 := rbytes_v Nb
  rw [fa'] at k1
  rw [fb'] at k2
  obtain ⟨u0, u1, u2⟩ := tri h.nx.len h.ny.len h.nz.len
  have L1 := tL_len h.nx.len h.ny.len h.nz.len
  have li := Ni.len
  have lk : (dig 256 32 p.y.val).length = 32 := dig_len _ _ _
  have lj : (dig 256 32 p.x.val).length = 32 := dig_len _ _ _
  have lz := dig_len 256 32 0
  have hz := z32_eq
  have h0 : (dig 256 32 p.x.val)[0]? = some (p.x.val % 256) := by rw [dig_get (by decide), Nat.pow_zero, Nat.div_one]
  have h0c := u8s_get h0
  have e0 : ((p.x.val % 256 : Nat) : Int).tmod 2 = ((p.x.val % 2 : Nat) : Int) := by
    have : p.x.val % 256 % 2 = p.x.val % 2 := by omega
    rw [← this]; rfl
  obtain ⟨w, hw, hw', hset0⟩ := top_add (val_lt p.y)
  have hwc := u8s_get hw
  have hset := u8s_set (dig 256 32 p.y.val) 31 (w + 128)
  rw [hset0] at hset
  have wadd : IntKind.u8.wrap ((w : Int) + 128) = ((w + 128 : Nat) : Int) := w8n (n := w + 128) (by omega)
  have lE := dig_len 256 32 (p.y.val + 2 ^ 255)
  generalize tL x y z = P1 at *
  generalize dig 256 32 0 = Z at *
  by_cases ho : p.x.val % 2 = 1
  · have hbq : ((p.x.val % 2 : Nat) : Int) == 1 := by rw [ho]; rfl
    have hbq' : (((p.x.val % 2 : Nat) : Int) == 1) = true := hbq
    have he : enc p = dig 256 32 (p.y.val + 2 ^ 255) := by rw [enc, encN, ho, Nat.one_mul]
    rw [he]
    generalize dig 256 32 (p.y.val + 2 ^ 255) = E at *
    generalize dig 256 32 p.y.val = Y at *
    generalize dig 256 32 p.x.val = X at *
    generalize p.x.val % 2 = par at *
    generalize p.x.val % 256 = x0 at *
    apply evVal_ex
    apply Exists.intro
    rw [evFun_fn (fn := a33) rfl]
    simp only [a33, ↓steps_chunk, envOf, quiet, cF, ↓pF, reduceCtorEq, Nat.reduceEqDiff, Int.reduceEq, fs_callW, fs_regionQ, quiet2_eq, lastOf_nil, lastOf_cons, List.take_succ_cons, List.take_zero, List.drop_succ_cons, List.drop_zero, Int.reduceBEq, Int.reduceBNe, ↓keepW_some, ↓qElseW_some, ↓guardW_tt, ↓guardW_ff, ↓guardW_tf, ↓guardW_ft, cL, Int.reduceLE, Int.reduceLT, Int.reduceAdd, Int.reduceMul, Int.reduceSub, Int.reduceTDiv, Int.reduceTMod, Int.reduceNeg, Int.reduceToNat, Int.reduceGT, Int.reduceGE, Int.reducePow, Nat.reduceAdd, Nat.reduceMul, Nat.reduceSub, Nat.reduceDiv, Nat.reduceMod, Nat.reducePow, Nat.reduceLT, Nat.reduceLeDiff, cJ, hz, u0, u1, u2, vi, va, vb, k1, k2, h0c, e0, hbq', hwc, wadd, hset, List.length_replicate, take_all, eV_cells, eV_size, eV_ok, eV_fold, ns_len, u8s_len, lk, lj, li, lz, lE, L1, rf_eV]
    rfl
  · have hbq' : (((p.x.val % 2 : Nat) : Int) == 1) = false := by
      rw [show p.x.val % 2 = 0 by omega]; rfl
    have he : enc p = dig 256 32 p.y.val := by rw [enc, encN, show p.x.val % 2 = 0 by omega, Nat.zero_mul, Nat.add_zero]
    rw [he]
    generalize dig 256 32 p.y.val = Y at *
    generalize dig 256 32 p.x.val = X at *
    generalize p.x.val % 2 = par at *
    generalize p.x.val % 256 = x0 at *
    apply evVal_ex
    apply Exists.intro
    rw [evFun_fn (fn := a33) rfl]
    simp only [a33, ↓steps_chunk, envOf, quiet, cF, ↓pF, reduceCtorEq, Nat.reduceEqDiff, Int.reduceEq, fs_callW, fs_regionQ, quiet2_eq, lastOf_nil, lastOf_cons, List.take_succ_cons, List.take_zero, List.drop_succ_cons, List.drop_zero, Int.reduceBEq, Int.reduceBNe, ↓keepW_some, ↓qElseW_some, ↓guardW_tt, ↓guardW_ff, ↓guardW_tf, ↓guardW_ft, cL, Int.reduceLE, Int.reduceLT, Int.reduceAdd, Int.reduceMul, Int.reduceSub, Int.reduceTDiv, Int.reduceTMod, Int.reduceNeg, Int.reduceToNat, Int.reduceGT, Int.reduceGE, Int.reducePow, Nat.reduceAdd, Nat.reduceMul, Nat.reduceSub, Nat.reduceDiv, Nat.reduceMod, Nat.reducePow, Nat.reduceLT, Nat.reduceLeDiff, cJ, hz, u0, u1, u2, vi, va, vb, k1, k2, h0c, e0, hbq', List.length_replicate, take_all, eV_cells, eV_size, eV_ok, eV_fold, ns_len, u8s_len, lk, lj, li, lz, L1, rf_eV]
    rfl
end Go.Ev.Ytaceeoghjgggjaa
set_option linter.unusedSimpArgs false
set_option linter.unusedVariables false
namespace Go.Ev.Ytaceeoghjgggjaa
open Go Go.Ev
attribute [local congr] bind_congr2 ite_congr2 qElse_congr gate_congr guardV_congr
set_option maxRecDepth 100000
def hmI (n : List Nat) (i : Int) (c : Nat) (j : Int) (ex : Env) : St := ⟨[(0, .pointer (some ⟨0, 0, none⟩)), (1, .pointer (some ⟨1, 0, none⟩)), (2, .int .i64 i), (3, .int .u64 c), (4, .int .i64 j)] ++ ex, [⟨ns .u64 zero16, true, true, true, 1⟩, ⟨ns .u64 n, true, true, true, 1⟩], []⟩
theorem hm_block {n : List Nat} {i : Int} (hn : Nm n) :
    evCode T 0 (.block 2 (.loop a89_l0)) (hmI n i 0 15 []) = some (.normal, hmI (dig 65536 16 (num 65536 n / 2)) i (num 65536 n % 2) (-1) [(16, .bool false)]) := by
  have hD : Nm (dig 65536 16 (num 65536 n / 2)) := Nm.dig _
  obtain ⟨D, hDd⟩ : ∃ D, D = dig 65536 16 (num 65536 n / 2) := ⟨_, rfl⟩
  rw [← hDd] at hD ⊢
  have hlt := hn.num_lt
  obtain ⟨st, hb, rfl⟩ := block_inv (T := T) (base := 0) (id := 2) (body := a89_l0)
    (fun j st => st = hmI (n.take (16 - j) ++ D.drop (16 - j)) i (num 65536 n / 65536 ^ (16 - j) % 2) ((15 : Int) - j) [])
    (Q := fun st => st = hmI D i (num 65536 n % 2) (-1) [(16, .bool false)])
    16 (s := hmI n i 0 15 []) (by
      rw [Nat.sub_zero, List.take_of_length_le (by rw [hn.len]; omega), List.drop_of_length_le (by rw [hD.len]; omega), List.append_nil, Nat.div_eq_of_lt hlt]; rfl)
    (fun j st hj hs => by
      subst hs
      obtain ⟨m, hm⟩ : ∃ m, 16 - j = m + 1 := ⟨15 - j, by omega⟩
      rw [hm, show (15 : Int) - j = (m : Int) by omega, show 16 - (j + 1) = m by omega, show (15 : Int) - ((j + 1 : Nat) : Int) = (m : Int) - 1 by omega]
      refine ⟨_, ?_, rfl⟩
      obtain ⟨x, hx⟩ : ∃ x, n[m]? = some x := ⟨_, List.getElem?_eq_getElem (by rw [hn.len]; omega)⟩
      have hx' := hn.lt x (List.mem_of_getElem? hx)
      have hxv := num_get (B := 65536) (by decide) hn.lt hx
      obtain ⟨c, hc⟩ : ∃ c, c = num 65536 n / 65536 ^ (m + 1) % 2 := ⟨_, rfl⟩
      rw [← hc]
      have hc2 : num 65536 n / 65536 ^ m / 65536 % 2 = c := by rw [hc, Nat.pow_succ, Nat.div_div_eq_div_mul]
      have hxl : (n.take (m + 1) ++ D.drop (m + 1))[m]? = some x := by
        rw [List.getElem?_append_left (by rw [List.length_take, hn.len]; omega), List.getElem?_take, if_pos (by omega)]; exact hx
      have hdg : D[m]? = some ((x + c * 65536) / 2) := by
        rw [hDd, dig_get (by omega)]
        congr 1
        rw [Nat.div_div_eq_div_mul, Nat.mul_comm 2, ← Nat.div_div_eq_div_mul]
        generalize num 65536 n / 65536 ^ m = q at *
        omega
      have hcn : num 65536 n / 65536 ^ m % 2 = (x + c * 65536) % 2 := by
        generalize num 65536 n / 65536 ^ m = q at *
        omega
      rw [hcn]
      have hstep : (n.take (m + 1) ++ D.drop (m + 1)).set m ((x + c * 65536) / 2) = n.take m ++ D.drop m := by
        rw [List.set_append_left _ _ (by rw [List.length_take, hn.len]; omega), List.take_add_one, hx]
        rw [List.set_append_right _ _ (by rw [List.length_take]; omega)]
        have e : (n.take m).length = m := by rw [List.length_take, hn.len]; omega
        rw [e, Nat.sub_self, List.drop_eq_getElem?_toList_append (i := m), hdg]
        simp
      have hset := ns_set .u64 (n.take (m + 1) ++ D.drop (m + 1)) m ((x + c * 65536) / 2)
      rw [hstep] at hset
      have hlen : (n.take (m + 1) ++ D.drop (m + 1)).length = 16 := by rw [List.length_append, List.length_take, List.length_drop, hn.len, hD.len]; omega
      have hxc := ns_get (k := .u64) hxl
      have hcb : c < 2 := by rw [hc]; exact Nat.mod_lt _ (by decide)
      have w1 : IntKind.i64.wrap ((m : Int) - 1) = (m : Int) - 1 := wrapI64_small (by omega) (by omega)
      have w2 : IntKind.u64.wrap ((c : Int) * 65536) = ((c * 65536 : Nat) : Int) := w64_mul (b := 65536) (by omega)
      have w3 : IntKind.u64.wrap ((x : Int) + ((c * 65536 : Nat) : Int)) = ((x + c * 65536 : Nat) : Int) := w64_add (by omega)
      have w4 : IntKind.u64.wrap (((x + c * 65536 : Nat) : Int).tdiv 2) = (((x + c * 65536) / 2 : Nat) : Int) := w64n (n := (x + c * 65536) / 2) (by omega)
      have w5 : ((x + c * 65536 : Nat) : Int).tmod 2 = (((x + c * 65536) % 2 : Nat) : Int) := rfl
      have e1 : ((0 : Int) ≤ (m : Int)) = True := eq_true (by omega)
      have e2 : ((m : Int) < 16) = True := eq_true (by omega)
      have e4 : (m ≤ 15) = True := eq_true (by omega)
      clear hc hc2 hcn hdg hstep
      generalize n.take (m + 1) ++ D.drop (m + 1) = A1 at *
      generalize n.take m ++ D.drop m = A2 at *
      generalize (x + c * 65536) / 2 = u at *
      generalize (x + c * 65536) % 2 = u2 at *
      generalize x + c * 65536 = v at *
      generalize c * 65536 = v2 at *
      simp only [hmI, a89_l0, envOf, quiet, cF, ↓pF, reduceCtorEq, Nat.reduceEqDiff, Int.reduceEq, fs_callW, fs_regionQ, quiet2_eq, lastOf_nil, lastOf_cons, List.take_succ_cons, List.take_zero, List.drop_succ_cons, List.drop_zero, Int.reduceBEq, Int.reduceBNe, ↓keepV_some, ↓qElse_some, ↓guardV_tt, ↓guardV_ff, ↓guardV_tf, ↓guardV_ft, cL, Int.reduceLE, Int.reduceLT, Int.reduceAdd, Int.reduceMul, Int.reduceSub, Int.reduceTDiv, Int.reduceTMod, Int.reduceNeg, Int.reduceToNat, Int.reduceGT, Int.reduceGE, Int.reducePow, Nat.reduceAdd, Nat.reduceMul, Nat.reduceSub, Nat.reduceDiv, Nat.reduceMod, Nat.reducePow, Nat.reduceLT, Nat.reduceLeDiff, cJ, hxc, w1, w2, w3, w4, w5, e1, e2, e4, hset, ns_len, hlen])
    (fun st hs => by
      subst hs
      have e : ((0 : Int) ≤ -1) = False := by decide
      refine ⟨_, ?_, rfl⟩
      rw [show (15 : Int) - ((16 : Nat) : Int) = -1 by omega, Nat.sub_self, List.take_zero, List.drop_zero, List.nil_append, Nat.pow_zero, Nat.div_one]
      simp only [hmI, a89_l0, envOf, quiet, cF, ↓pF, reduceCtorEq, Nat.reduceEqDiff, Int.reduceEq, fs_callW, fs_regionQ, quiet2_eq, lastOf_nil, lastOf_cons, List.take_succ_cons, List.take_zero, List.drop_succ_cons, List.drop_zero, Int.reduceBEq, Int.reduceBNe, ↓keepV_some, ↓qElse_some, ↓guardV_tt, ↓guardV_ff, ↓guardV_tf, ↓guardV_ft, cL, Int.reduceLE, Int.reduceLT, Int.reduceAdd, Int.reduceMul, Int.reduceSub, Int.reduceTDiv, Int.reduceTMod, Int.reduceNeg, Int.reduceToNat, Int.reduceGT, Int.reduceGE, Int.reducePow, Nat.reduceAdd, Nat.reduceMul, Nat.reduceSub, Nat.reduceDiv, Nat.reduceMod, Nat.reducePow, Nat.reduceLT, Nat.reduceLeDiff, e])
  exact hb
def hmO (n : List Nat) (i : Int) (ex : Env) : St := ⟨[(0, .pointer (some ⟨0, 0, none⟩)), (1, .pointer (some ⟨1, 0, none⟩)), (2, .int .i64 i)] ++ ex, [⟨ns .u64 zero16, true, true, true, 1⟩, ⟨ns .u64 n, true, true, true, 1⟩], []⟩
theorem hm_outer {n : List Nat} (hn : Nm n) :
    evCode T 0 (.block 0 (.loop a89_l1)) (hmO n 0 []) = some (.normal, hmO (dig 65536 16 (num 65536 n / 2 ^ 2)) 2 [(12, .bool false)]) := by
  obtain ⟨st, hb, rfl⟩ := block_inv (T := T) (base := 0) (id := 0) (body := a89_l1)
    (fun i st => ∃ ex, st = hmO (dig 65536 16 (num 65536 n / 2 ^ i)) i ex)
    (Q := fun st => st = hmO (dig 65536 16 (num 65536 n / 2 ^ 2)) 2 [(12, .bool false)])
    2 (s := hmO n 0 []) ⟨[], by rw [Nat.pow_zero, Nat.div_one, ← hn.eq]; rfl⟩
    (fun i st hi hs => by
      obtain ⟨ex, rfl⟩ := hs
      have hN := Nm.dig (num 65536 n / 2 ^ i)
      have hlt : num 65536 n / 2 ^ i < 2 ^ 256 := Nat.lt_of_le_of_lt (Nat.div_le_self _ _) hn.num_lt
      have hb := hm_block (i := (i : Int)) hN
      rw [nm_dig hlt, Nat.div_div_eq_div_mul, ← Nat.pow_succ] at hb
      simp only [hmI, List.cons_append, List.nil_append, Int.natCast_zero] at hb
      have w1 : IntKind.i64.wrap ((i : Int) + 1) = ((i + 1 : Nat) : Int) := wi_add (b := 1) (by omega)
      have e1 : ((i : Int) < 2) = True := eq_true (by omega)
      refine ⟨_, ?_, [], rfl⟩
      generalize dig 65536 16 (num 65536 n / 2 ^ i) = A at *
      generalize dig 65536 16 (num 65536 n / 2 ^ (i + 1)) = A' at *
      simp only [hmO, a89_l1, envOf, quiet, cF, ↓pF, reduceCtorEq, Nat.reduceEqDiff, Int.reduceEq, fs_callW, fs_regionQ, quiet2_eq, lastOf_nil, lastOf_cons, List.take_succ_cons, List.take_zero, List.drop_succ_cons, List.drop_zero, Int.reduceBEq, Int.reduceBNe, ↓keepV_some, ↓qElse_some, ↓guardV_tt, ↓guardV_ff, ↓guardV_tf, ↓guardV_ft, cL, Int.reduceLE, Int.reduceLT, Int.reduceAdd, Int.reduceMul, Int.reduceSub, Int.reduceTDiv, Int.reduceTMod, Int.reduceNeg, Int.reduceToNat, Int.reduceGT, Int.reduceGE, Int.reducePow, Nat.reduceAdd, Nat.reduceMul, Nat.reduceSub, Nat.reduceDiv, Nat.reduceMod, Nat.reducePow, Nat.reduceLT, Nat.reduceLeDiff, cJ, hb, w1, e1])
    (fun st hs => by
      obtain ⟨ex, rfl⟩ := hs
      refine ⟨_, ?_, rfl⟩
      generalize dig 65536 16 (num 65536 n / 2 ^ 2) = A at *
      simp only [hmO, a89_l1, envOf, quiet, cF, ↓pF, reduceCtorEq, Nat.reduceEqDiff, Int.reduceEq, fs_callW, fs_regionQ, quiet2_eq, lastOf_nil, lastOf_cons, List.take_succ_cons, List.take_zero, List.drop_succ_cons, List.drop_zero, Int.reduceBEq, Int.reduceBNe, ↓keepV_some, ↓qElse_some, ↓guardV_tt, ↓guardV_ff, ↓guardV_tf, ↓guardV_ft, cL, Int.reduceLE, Int.reduceLT, Int.reduceAdd, Int.reduceMul, Int.reduceSub, Int.reduceTDiv, Int.reduceTMod, Int.reduceNeg, Int.reduceToNat, Int.reduceGT, Int.reduceGE, Int.reducePow, Nat.reduceAdd, Nat.reduceMul, Nat.reduceSub, Nat.reduceDiv, Nat.reduceMod, Nat.reducePow, Nat.reduceLT, Nat.reduceLeDiff, cJ])
  exact hb
def hrI (a n : List Nat) (i : Int) (c : Nat) (j : Int) (ex : Env) : St := ⟨[(1, .pointer (some ⟨0, 0, none⟩)), (2, .pointer (some ⟨1, 0, none⟩)), (4, .pointer (some ⟨2, 0, none⟩)), (5, .int .i64 i), (6, .int .u64 c), (7, .int .i64 j)] ++ ex, [⟨ns .u64 a, true, true, true, 1⟩, ⟨ns .u64 zero16, true, true, true, 1⟩, ⟨ns .u64 n, true, true, true, 1⟩], []⟩
theorem hr_block {a n : List Nat} {i : Int} (hn : Nm n) :
    evCode T 0 (.block 2 (.loop a68_l0)) (hrI a n i 0 15 []) = some (.normal, hrI a (dig 65536 16 (num 65536 n / 2)) i (num 65536 n % 2) (-1) [(20, .bool false)]) := by
  have hD : Nm (dig 65536 16 (num 65536 n / 2)) := Nm.dig _
  obtain ⟨D, hDd⟩ : ∃ D, D = dig 65536 16 (num 65536 n / 2) := ⟨_, rfl⟩
  rw [← hDd] at hD ⊢
  have hlt := hn.num_lt
  obtain ⟨st, hb, rfl⟩ := block_inv (T := T) (base := 0) (id := 2) (body := a68_l0)
    (fun j st => st = hrI a (n.take (16 - j) ++ D.drop (16 - j)) i (num 65536 n / 65536 ^ (16 - j) % 2) ((15 : Int) - j) [])
    (Q := fun st => st = hrI a D i (num 65536 n % 2) (-1) [(20, .bool false)])
    16 (s := hrI a n i 0 15 []) (by
      rw [Nat.sub_zero, List.take_of_length_le (by rw [hn.len]; omega), List.drop_of_length_le (by rw [hD.len]; omega), List.append_nil, Nat.div_eq_of_lt hlt]; rfl)
    (fun j st hj hs => by
      subst hs
      obtain ⟨m, hm⟩ : ∃ m, 16 - j = m + 1 := ⟨15 - j, by omega⟩
      rw [hm, show (15 : Int) - j = (m : Int) by omega, show 16 - (j + 1) = m by omega, show (15 : Int) - ((j + 1 : Nat) : Int) = (m : Int) - 1 by omega]
      refine ⟨_, ?_, rfl⟩
      obtain ⟨x, hx⟩ : ∃ x, n[m]? = some x := ⟨_, List.getElem?_eq_getElem (by rw [hn.len]; omega)⟩
      have hx' := hn.lt x (List.mem_of_getElem? hx)
      have hxv := num_get (B := 65536) (by decide) hn.lt hx
      obtain ⟨c, hc⟩ : ∃ c, c = num 65536 n / 65536 ^ (m + 1) % 2 := ⟨_, rfl⟩
      rw [← hc]
      have hc2 : num 65536 n / 65536 ^ m / 65536 % 2 = c := by rw [hc, Nat.pow_succ, Nat.div_div_eq_div_mul]
      have hxl : (n.take (m + 1) ++ D.drop (m + 1))[m]? = some x := by
        rw [List.getElem?_append_left (by rw [List.length_take, hn.len]; omega), List.getElem?_take, if_pos (by omega)]; exact hx
      have hdg : D[m]? = some ((x + c * 65536) / 2) := by
        rw [hDd, dig_get (by omega)]
        congr 1
        rw [Nat.div_div_eq_div_mul, Nat.mul_comm 2, ← Nat.div_div_eq_div_mul]
        generalize num 65536 n / 65536 ^ m = q at *
        omega
      have hcn : num 65536 n / 65536 ^ m % 2 = (x + c * 65536) % 2 := by
        generalize num 65536 n / 65536 ^ m = q at *
        omega
      rw [hcn]
      have hstep : (n.take (m + 1) ++ D.drop (m + 1)).set m ((x + c * 65536) / 2) = n.take m ++ D.drop m := by
        rw [List.set_append_left _ _ (by rw [List.length_take, hn.len]; omega), List.take_add_one, hx]
        rw [List.set_append_right _ _ (by rw [List.length_take]; omega)]
        have e : (n.take m).length = m := by rw [List.length_take, hn.len]; omega
        rw [e, Nat.sub_self, List.drop_eq_getElem?_toList_append (i := m), hdg]
        simp
      have hset := ns_set .u64 (n.take (m + 1) ++ D.drop (m + 1)) m ((x + c * 65536) / 2)
      rw [hstep] at hset
      have hlen : (n.take (m + 1) ++ D.drop (m + 1)).length = 16 := by rw [List.length_append, List.length_take, List.length_drop, hn.len, hD.len]; omega
      have hxc := ns_get (k := .u64) hxl
      have hcb : c < 2 := by rw [hc]; exact Nat.mod_lt _ (by decide)
      have w1 : IntKind.i64.wrap ((m : Int) - 1) = (m : Int) - 1 := wrapI64_small (by omega) (by omega)
      have w2 : IntKind.u64.wrap ((c : Int) * 65536) = ((c * 65536 : Nat) : Int) := w64_mul (b := 65536) (by omega)
      have w3 : IntKind.u64.wrap ((x : Int) + ((c * 65536 : Nat) : Int)) = ((x + c * 65536 : Nat) : Int) := w64_add (by omega)
      have w4 : IntKind.u64.wrap (((x + c * 65536 : Nat) : Int).tdiv 2) = (((x + c * 65536) / 2 : Nat) : Int) := w64n (n := (x + c * 65536) / 2) (by omega)
      have w5 : ((x + c * 65536 : Nat) : Int).tmod 2 = (((x + c * 65536) % 2 : Nat) : Int) := rfl
      have e1 : ((0 : Int) ≤ (m : Int)) = True := eq_true (by omega)
      have e2 : ((m : Int) < 16) = True := eq_true (by omega)
      have e4 : (m ≤ 15) = True := eq_true (by omega)
      clear hc hc2 hcn hdg hstep
      generalize n.take (m + 1) ++ D.drop (m + 1) = A1 at *
      generalize n.take m ++ D.drop m = A2 at *
      generalize (x + c * 65536) / 2 = u at *
      generalize (x + c * 65536) % 2 = u2 at *
      generalize x + c * 65536 = v at *
      generalize c * 65536 = v2 at *
      simp only [hrI, a68_l0, envOf, quiet, cF, ↓pF, reduceCtorEq, Nat.reduceEqDiff, Int.reduceEq, fs_callW, fs_regionQ, quiet2_eq, lastOf_nil, lastOf_cons, List.take_succ_cons, List.take_zero, List.drop_succ_cons, List.drop_zero, Int.reduceBEq, Int.reduceBNe, ↓keepV_some, ↓qElse_some, ↓guardV_tt, ↓guardV_ff, ↓guardV_tf, ↓guardV_ft, cL, Int.reduceLE, Int.reduceLT, Int.reduceAdd, Int.reduceMul, Int.reduceSub, Int.reduceTDiv, Int.reduceTMod, Int.reduceNeg, Int.reduceToNat, Int.reduceGT, Int.reduceGE, Int.reducePow, Nat.reduceAdd, Nat.reduceMul, Nat.reduceSub, Nat.reduceDiv, Nat.reduceMod, Nat.reducePow, Nat.reduceLT, Nat.reduceLeDiff, cJ, hxc, w1, w2, w3, w4, w5, e1, e2, e4, hset, ns_len, hlen])
    (fun st hs => by
      subst hs
      have e : ((0 : Int) ≤ -1) = False := by decide
      refine ⟨_, ?_, rfl⟩
      rw [show (15 : Int) - ((16 : Nat) : Int) = -1 by omega, Nat.sub_self, List.take_zero, List.drop_zero, List.nil_append, Nat.pow_zero, Nat.div_one]
      simp only [hrI, a68_l0, envOf, quiet, cF, ↓pF, reduceCtorEq, Nat.reduceEqDiff, Int.reduceEq, fs_callW, fs_regionQ, quiet2_eq, lastOf_nil, lastOf_cons, List.take_succ_cons, List.take_zero, List.drop_succ_cons, List.drop_zero, Int.reduceBEq, Int.reduceBNe, ↓keepV_some, ↓qElse_some, ↓guardV_tt, ↓guardV_ff, ↓guardV_tf, ↓guardV_ft, cL, Int.reduceLE, Int.reduceLT, Int.reduceAdd, Int.reduceMul, Int.reduceSub, Int.reduceTDiv, Int.reduceTMod, Int.reduceNeg, Int.reduceToNat, Int.reduceGT, Int.reduceGE, Int.reducePow, Nat.reduceAdd, Nat.reduceMul, Nat.reduceSub, Nat.reduceDiv, Nat.reduceMod, Nat.reducePow, Nat.reduceLT, Nat.reduceLeDiff, e])
  exact hb
def hrO (a n : List Nat) (i : Int) (ex : Env) : St := ⟨[(1, .pointer (some ⟨0, 0, none⟩)), (2, .pointer (some ⟨1, 0, none⟩)), (4, .pointer (some ⟨2, 0, none⟩)), (5, .int .i64 i)] ++ ex, [⟨ns .u64 a, true, true, true, 1⟩, ⟨ns .u64 zero16, true, true, true, 1⟩, ⟨ns .u64 n, true, true, true, 1⟩], []⟩
theorem hr_outer {a n : List Nat} (hn : Nm n) :
    evCode T 0 (.block 0 (.loop a68_l1)) (hrO a n 0 []) = some (.normal, hrO a (dig 65536 16 (num 65536 n / 2 ^ 3)) 3 [(16, .bool false)]) := by
  obtain ⟨st, hb, rfl⟩ := block_inv (T := T) (base := 0) (id := 0) (body := a68_l1)
    (fun i st => ∃ ex, st = hrO a (dig 65536 16 (num 65536 n / 2 ^ i)) i ex)
    (Q := fun st => st = hrO a (dig 65536 16 (num 65536 n / 2 ^ 3)) 3 [(16, .bool false)])
    3 (s := hrO a n 0 []) ⟨[], by rw [Nat.pow_zero, Nat.div_one, ← hn.eq]; rfl⟩
    (fun i st hi hs => by
      obtain ⟨ex, rfl⟩ := hs
      have hN := Nm.dig (num 65536 n / 2 ^ i)
      have hlt : num 65536 n / 2 ^ i < 2 ^ 256 := Nat.lt_of_le_of_lt (Nat.div_le_self _ _) hn.num_lt
      have hb := hr_block (a := a) (i := (i : Int)) hN
      rw [nm_dig hlt, Nat.div_div_eq_div_mul, ← Nat.pow_succ] at hb
      simp only [hrI, List.cons_append, List.nil_append, Int.natCast_zero] at hb
      have w1 : IntKind.i64.wrap ((i : Int) + 1) = ((i + 1 : Nat) : Int) := wi_add (b := 1) (by omega)
      have e1 : ((i : Int) < 3) = True := eq_true (by omega)
      refine ⟨_, ?_, [], rfl⟩
      generalize dig 65536 16 (num 65536 n / 2 ^ i) = A at *
      generalize dig 65536 16 (num 65536 n / 2 ^ (i + 1)) = A' at *
      simp only [hrO, a68_l1, envOf, quiet, cF, ↓pF, reduceCtorEq, Nat.reduceEqDiff, Int.reduceEq, fs_callW, fs_regionQ, quiet2_eq, lastOf_nil, lastOf_cons, List.take_succ_cons, List.take_zero, List.drop_succ_cons, List.drop_zero, Int.reduceBEq, Int.reduceBNe, ↓keepV_some, ↓qElse_some, ↓guardV_tt, ↓guardV_ff, ↓guardV_tf, ↓guardV_ft, cL, Int.reduceLE, Int.reduceLT, Int.reduceAdd, Int.reduceMul, Int.reduceSub, Int.reduceTDiv, Int.reduceTMod, Int.reduceNeg, Int.reduceToNat, Int.reduceGT, Int.reduceGE, Int.reducePow, Nat.reduceAdd, Nat.reduceMul, Nat.reduceSub, Nat.reduceDiv, Nat.reduceMod, Nat.reducePow, Nat.reduceLT, Nat.reduceLeDiff, cJ, hb, w1, e1])
    (fun st hs => by
      obtain ⟨ex, rfl⟩ := hs
      refine ⟨_, ?_, rfl⟩
      generalize dig 65536 16 (num 65536 n / 2 ^ 3) = A at *
      simp only [hrO, a68_l1, envOf, quiet, cF, ↓pF, reduceCtorEq, Nat.reduceEqDiff, Int.reduceEq, fs_callW, fs_regionQ, quiet2_eq, lastOf_nil, lastOf_cons, List.take_succ_cons, List.take_zero, List.drop_succ_cons, List.drop_zero, Int.reduceBEq, Int.reduceBNe, ↓keepV_some, ↓qElse_some, ↓guardV_tt, ↓guardV_ff, ↓guardV_tf, ↓guardV_ft, cL, Int.reduceLE, Int.reduceLT, Int.reduceAdd, Int.reduceMul, Int.reduceSub, Int.reduceTDiv, Int.reduceTMod, Int.reduceNeg, Int.reduceToNat, Int.reduceGT, Int.reduceGE, Int.reducePow, Nat.reduceAdd, Nat.reduceMul, Nat.reduceSub, Nat.reduceDiv, Nat.reduceMod, Nat.reducePow, Nat.reduceLT, Nat.reduceLeDiff, cJ])
  exact hb
end Go.Ev.Ytaceeoghjgggjaa
set_option linter.unusedSimpArgs false
set_option linter.unusedVariables false
namespace Go.Ev.Ytaceeoghjgggjaa
open Go Go.Ev
attribute [local congr] bind_congr2 ite_congr2 qElse_congr gate_congr guardV_congr
set_option maxRecDepth 100000
def primeM : List Nat := dig 65536 16 (Go.Fp.P - 1)
def primeT : List Nat := dig 65536 16 (Go.Fp.P + 3)
theorem primeM_nm : Nm primeM := Nm.dig _
theorem primeT_nm : Nm primeT := Nm.dig _
theorem prime_get : primeL[0]? = some 65517 := by decide +kernel
theorem prime_setM : (ns .u64 primeL).set 0 (.int .u64 65516) = ns .u64 primeM := by
  have h : primeL.set 0 65516 = primeM := by decide +kernel
  have := ns_set .u64 primeL 0 65516
  rw [h] at this; exact this
theorem prime_setT : (ns .u64 primeL).set 0 (.int .u64 65520) = ns .u64 primeT := by
  have h : primeL.set 0 65520 = primeT := by decide +kernel
  have := ns_set .u64 primeL 0 65520
  rw [h] at this; exact this
theorem two_nf : nf (smallL 2) = Go.Fp.fp 2 := by unfold nf; rw [smallL_num (by decide)]
theorem half_two : Go.Fp.pow (Go.Fp.fp 2) ((Go.Fp.P - 1) / 2) = Go.Fp.fp (Go.Fp.P - 1) := Go.Fp.pow_test (f := 256) (by decide +kernel) (by decide +kernel)
theorem fp_m1 : Go.Fp.fp (Go.Fp.P - 1) = -1 := by decide +kernel
theorem quarterR : (Go.Fp.P - 1) / 2 = (Go.Fp.P - 1) / 4 + (Go.Fp.P - 1) / 4 := by decide +kernel
theorem rminusOne_v : ∃ r, evVal T 89 [] = some (eV r) ∧ Nm r ∧ nf r * nf r = -1 := by
  have hp := rprime_v
  have h2 := rsmall_v 2 (by decide)
  have ho := hm_outer primeM_nm
  have hn : num 65536 primeM / 2 ^ 2 = (Go.Fp.P - 1) / 4 := by decide +kernel
  rw [hn] at ho
  have hE := Nm.dig ((Go.Fp.P - 1) / 4)
  have hEn := nm_dig (v := (Go.Fp.P - 1) / 4) (by decide +kernel)
  obtain ⟨r, hr, r1, r2⟩ := rpower_v (smallL_nm 2) hE
  rw [hEn, two_nf] at r2
  refine ⟨r, ?_, r1, by rw [r2, ← Go.Fp.pow_add, ← quarterR, half_two, fp_m1]⟩
  have g0 := ns_get (k := .u64) prime_get
  have s0 := prime_setM
  have lp := primeL_nm.len
  have lm := primeM_nm.len
  have ls := (smallL_nm 2).len
  have lE := hE.len
  have lr := r1.len
  have hz := z16_eq
  have lz := z16_len
  have w1 : IntKind.u64.wrap 65516 = 65516 := by decide
  simp only [Int.cast_ofNat_Int] at h2 g0
  simp only [hmO, List.cons_append, List.nil_append, Int.natCast_zero] at ho
  generalize primeL = PL at *
  generalize primeM = PM at *
  generalize smallL 2 = S at *
  generalize dig 65536 16 ((Go.Fp.P - 1) / 4) = E at *
  generalize zero16 = Z at *
  apply evVal_ex
  apply Exists.intro
  rw [evFun_fn (fn := a89) rfl]
  simp only [a89, ↓steps_chunk, envOf, quiet, cF, ↓pF, reduceCtorEq, Nat.reduceEqDiff, Int.reduceEq, fs_callW, fs_regionQ, quiet2_eq, lastOf_nil, lastOf_cons, List.take_succ_cons, List.take_zero, List.drop_succ_cons, List.drop_zero, Int.reduceBEq, Int.reduceBNe, ↓keepW_some, ↓qElseW_some, ↓guardW_tt, ↓guardW_ff, ↓guardW_tf, ↓guardW_ft, cL, Int.reduceLE, Int.reduceLT, Int.reduceAdd, Int.reduceMul, Int.reduceSub, Int.reduceTDiv, Int.reduceTMod, Int.reduceNeg, Int.reduceToNat, Int.reduceGT, Int.reduceGE, Int.reducePow, Nat.reduceAdd, Nat.reduceMul, Nat.reduceSub, Nat.reduceDiv, Nat.reduceMod, Nat.reducePow, Nat.reduceLT, Nat.reduceLeDiff, cJ, hz, hp, h2, g0, w1, s0, ho, hr, List.length_replicate, take_all, eV_cells, eV_size, eV_ok, eV_fold, ns_len, lp, lm, ls, lE, lr, lz, rf_eV]
  rfl
theorem canon_beq (a b : List Nat) : (dig 65536 16 (num 65536 a % Go.Fp.P) == dig 65536 16 (num 65536 b % Go.Fp.P)) = decide (nf a = nf b) := by
  have h1 := Nat.mod_lt (num 65536 a) P_pos
  have h2 := Nat.mod_lt (num 65536 b) P_pos
  have h3 := P_lt2
  rw [dig16_eq (by omega) (by omega)]
  by_cases h : nf a = nf b
  · rw [decide_eq_true h, decide_eq_true (Go.Fp.fp_eq.1 h)]
  · rw [decide_eq_false h, decide_eq_false (fun e => h (Go.Fp.fp_eq.2 e))]
theorem canon_nf (a : List Nat) : nf (dig 65536 16 (num 65536 a % Go.Fp.P)) = nf a := by
  have h1 := Nat.mod_lt (num 65536 a) P_pos
  have h3 := P_lt2
  unfold nf
  rw [nm_dig (by omega), Go.Fp.fp_mod]
theorem p_eighth : (Go.Fp.P + 3) / 8 + (Go.Fp.P + 3) / 8 = (Go.Fp.P - 1) / 4 + 1 := by decide +kernel
theorem fe_neg_mul (a : Go.Fp.Fe) : -1 * a = -a := by grobner
theorem fe_one_mul (a : Go.Fp.Fe) : 1 * a = a := by grobner
theorem fe_four (x m : Go.Fp.Fe) : x * m * (x * m) = x * x * (m * m) := by grobner
theorem fe_negneg (a : Go.Fp.Fe) : -a * -1 = a := by grobner
theorem eighth_root {a s : Go.Fp.Fe} (h : s * s = a) : Go.Fp.pow a ((Go.Fp.P + 3) / 8) * Go.Fp.pow a ((Go.Fp.P + 3) / 8) = a ∨ Go.Fp.pow a ((Go.Fp.P + 3) / 8) * Go.Fp.pow a ((Go.Fp.P + 3) / 8) = -a := by
  have e : Go.Fp.pow a ((Go.Fp.P + 3) / 8) * Go.Fp.pow a ((Go.Fp.P + 3) / 8) = Go.Fp.pow a ((Go.Fp.P - 1) / 4) * a := by
    rw [← Go.Fp.pow_add, p_eighth, Go.Fp.pow]
  rcases Go.Fp.pow_half s with h1 | h1
  · rw [h, quarterR, Go.Fp.pow_add] at h1
    have h2 : Go.Fp.pow a ((Go.Fp.P - 1) / 4) * Go.Fp.pow a ((Go.Fp.P - 1) / 4) = 1 * 1 := by rw [h1]; exact (fe_one_mul 1).symm
    rw [e]
    rcases sq_eq h2 with h3 | h3
    · left; rw [h3, fe_one_mul]
    · right; rw [h3, fe_neg_mul]
  · have ha : a = 0 := by rw [← h, h1]; grobner
    left
    rw [e, ha]; grobner
theorem rroot_v {a : List Nat} (ha : Nm a) : ∃ r ok, evVal T 68 [eV a] = some (.tuple #[eV r, .bool ok]) ∧ Nm r ∧ num 65536 r < Go.Fp.P ∧ (ok = true → nf r * nf r = nf a) ∧ (ok = false → ∀ x : Go.Fp.Fe, x * x ≠ nf a) := by
  have hp := rprime_v
  have ho := hr_outer (a := a) primeT_nm
  have hn : num 65536 primeT / 2 ^ 3 = (Go.Fp.P + 3) / 8 := by decide +kernel
  rw [hn] at ho
  have hE := Nm.dig ((Go.Fp.P + 3) / 8)
  have hEn := nm_dig (v := (Go.Fp.P + 3) / 8) (by decide +kernel)
  obtain ⟨x, hx, x1, x2⟩ := rpower_v ha hE
  rw [hEn] at x2
  obtain ⟨q, hq, q1, q2⟩ := rmul_v x1 x1
  obtain ⟨m, hm, m1, m2⟩ := rminusOne_v
  obtain ⟨y, hy, y1, y2⟩ := rmul_v x1 m1
  obtain ⟨t, ht, t1, t2⟩ := rmul_v y1 y1
  have cq := rcanon_v q1
  have ca := rcanon_v ha
  have cx := rcanon_v x1
  have cy := rcanon_v y1
  have ct := rcanon_v t1
  have b1 := canon_beq q a
  have b2 := canon_beq t a
  have nq := Nm.dig (num 65536 q % Go.Fp.P)
  have na := Nm.dig (num 65536 a % Go.Fp.P)
  have nx := Nm.dig (num 65536 x % Go.Fp.P)
  have ny := Nm.dig (num 65536 y % Go.Fp.P)
  have nt := Nm.dig (num 65536 t % Go.Fp.P)
  have v1 := vEq_eVN nq.len na.len
  have v2 := vEq_eV nq.len na.len
  have v3 := vEq_eV nt.len na.len
  rw [b1] at v1 v2
  rw [b2] at v3
  have g0 := ns_get (k := .u64) prime_get
  have s0 := prime_setT
  have lp := primeL_nm.len
  have lm := primeT_nm.len
  have lE := hE.len
  have la := ha.len
  have lx := x1.len
  have ly := y1.len
  have lq := nx.len
  have ly2 := ny.len
  have hz := z16_eq
  have lz := z16_len
  have w1 : IntKind.u64.wrap 65520 = 65520 := by decide
  have rft : ∀ (r : List Nat) (c : Bool), rf (Value.tuple #[eV r, .bool c]) = true := fun r c => rf_tup2 (a := eV r) (b := .bool c) (rf_eV r) rfl
  simp only [Int.cast_ofNat_Int] at g0
  simp only [hrO, List.cons_append, List.nil_append, Int.natCast_zero] at ho
  have hPl := P_lt2
  have ltx : num 65536 (dig 65536 16 (num 65536 x % Go.Fp.P)) < Go.Fp.P := by
    have := Nat.mod_lt (num 65536 x) P_pos
    rw [nm_dig (by omega)]; exact this
  have lty : num 65536 (dig 65536 16 (num 65536 y % Go.Fp.P)) < Go.Fp.P := by
    have := Nat.mod_lt (num 65536 y) P_pos
    rw [nm_dig (by omega)]; exact this
  have fx := canon_nf x
  have fy := canon_nf y
  by_cases h : nf q = nf a
  · rw [decide_eq_true h] at v1 v2
    refine ⟨dig 65536 16 (num 65536 x % Go.Fp.P), true, ?_, nx, ltx, fun _ => by rw [fx, ← q2, h], fun h => absurd h (by decide)⟩
    generalize dig 65536 16 (num 65536 q % Go.Fp.P) = CQ at *
    generalize dig 65536 16 (num 65536 a % Go.Fp.P) = CA at *
    generalize dig 65536 16 (num 65536 x % Go.Fp.P) = CX at *
    generalize primeL = PL at *
    generalize primeT = PM at *
    generalize dig 65536 16 ((Go.Fp.P + 3) / 8) = E at *
    generalize zero16 = Z at *
    apply evVal_ex
    apply Exists.intro
    rw [evFun_fn (fn := a68) rfl]
    simp only [a68, ↓steps_chunk, envOf, quiet, cF, ↓pF, reduceCtorEq, Nat.reduceEqDiff, Int.reduceEq, fs_callW, fs_regionQ, quiet2_eq, lastOf_nil, lastOf_cons, List.take_succ_cons, List.take_zero, List.drop_succ_cons, List.drop_zero, Int.reduceBEq, Int.reduceBNe, ↓keepW_some, ↓qElseW_some, ↓guardW_tt, ↓guardW_ff, ↓guardW_tf, ↓guardW_ft, cL, Int.reduceLE, Int.reduceLT, Int.reduceAdd, Int.reduceMul, Int.reduceSub, Int.reduceTDiv, Int.reduceTMod, Int.reduceNeg, Int.reduceToNat, Int.reduceGT, Int.reduceGE, Int.reducePow, Nat.reduceAdd, Nat.reduceMul, Nat.reduceSub, Nat.reduceDiv, Nat.reduceMod, Nat.reducePow, Nat.reduceLT, Nat.reduceLeDiff, cJ, hz, hp, g0, w1, s0, ho, hx, hq, cq, ca, cx, v1, v2, List.length_replicate, take_all, eV_cells, eV_size, eV_ok, eV_fold, ns_len, lp, lm, lE, la, lx, lq, lz, rft, rf_eV]
    rfl
  · rw [decide_eq_false h] at v1 v2
    refine ⟨dig 65536 16 (num 65536 y % Go.Fp.P), decide (nf t = nf a), ?_, ny, lty, ?_, ?_⟩
    · generalize decide (nf t = nf a) = ok at *
      generalize dig 65536 16 (num 65536 q % Go.Fp.P) = CQ at *
      generalize dig 65536 16 (num 65536 a % Go.Fp.P) = CA at *
      generalize dig 65536 16 (num 65536 y % Go.Fp.P) = CY at *
      generalize dig 65536 16 (num 65536 t % Go.Fp.P) = CT at *
      generalize primeL = PL at *
      generalize primeT = PM at *
      generalize dig 65536 16 ((Go.Fp.P + 3) / 8) = E at *
      generalize zero16 = Z at *
      apply evVal_ex
      apply Exists.intro
      rw [evFun_fn (fn := a68) rfl]
      simp only [a68, ↓steps_chunk, envOf, quiet, cF, ↓pF, reduceCtorEq, Nat.reduceEqDiff, Int.reduceEq, fs_callW, fs_regionQ, quiet2_eq, lastOf_nil, lastOf_cons, List.take_succ_cons, List.take_zero, List.drop_succ_cons, List.drop_zero, Int.reduceBEq, Int.reduceBNe, ↓keepW_some, ↓qElseW_some, ↓guardW_tt, ↓guardW_ff, ↓guardW_tf, ↓guardW_ft, cL, Int.reduceLE, Int.reduceLT, Int.reduceAdd, Int.reduceMul, Int.reduceSub, Int.reduceTDiv, Int.reduceTMod, Int.reduceNeg, Int.reduceToNat, Int.reduceGT, Int.reduceGE, Int.reducePow, Nat.reduceAdd, Nat.reduceMul, Nat.reduceSub, Nat.reduceDiv, Nat.reduceMod, Nat.reducePow, Nat.reduceLT, Nat.reduceLeDiff, cJ, hz, hp, g0, w1, s0, ho, hx, hq, hm, hy, ht, cq, ca, cy, ct, v1, v3, List.length_replicate, take_all, eV_cells, eV_size, eV_ok, eV_fold, ns_len, lp, lm, lE, la, lx, ly, ly2, lz, rft, rf_eV]
      rfl
    · intro ht'
      rw [fy, ← t2]
      exact of_decide_eq_true ht'
    · intro ht' s hs
      have ht'' := of_decide_eq_false ht'
      rcases eighth_root hs with h1 | h1
      · exact h (by rw [q2, x2, h1])
      · apply ht''
        rw [t2, y2, fe_four, m2, x2, h1, fe_negneg]
end Go.Ev.Ytaceeoghjgggjaa
set_option linter.unusedSimpArgs false
set_option linter.unusedVariables false
namespace Go.Ev.Ytaceeoghjgggjaa
open Go Go.Ev
attribute [local congr] bind_congr2 ite_congr2 qElse_congr gate_congr guardV_congr
set_option maxRecDepth 100000
theorem vEq_key {k l : List Nat} (lk : k.length = 32) (ll : l.length = 32) : vEq (some (List.replicate 32 true)) true (.agg (u8s k).toArray) (.agg (u8s l).toArray) = some (.bool (!(k == l))) := by
  rw [vEq_aggN, cellsEq_u8 lk ll]
  rfl
theorem z48_fill : fillL (ns .u64 zero48) [] = some (ns .u64 zero48) := rfl
theorem nf_val {r : List Nat} (h : num 65536 r < Go.Fp.P) : (nf r).val = num 65536 r := Nat.mod_eq_of_lt h
theorem fe_mul_one (a : Go.Fp.Fe) : a * 1 = a := by grobner
theorem fe_negsq (a : Go.Fp.Fe) : -a * -a = a * a := by grobner
theorem iv_cancel {u v : Go.Fp.Fe} (hv : v ≠ 0) {x : Go.Fp.Fe} (h : x * x = u * Go.Fp.iv v) : v * (x * x) = u := by
  have := Go.Fp.iv_mul hv
  rw [h]
  generalize Go.Fp.iv v = w at *
  clear h hv
  grobner
theorem iv_back {u v : Go.Fp.Fe} (hv : v ≠ 0) {x : Go.Fp.Fe} (h : v * (x * x) = u) : x * x = u * Go.Fp.iv v := by
  have := Go.Fp.iv_mul hv
  rw [← h]
  generalize Go.Fp.iv v = w at *
  clear h hv
  grobner
theorem rdecode_v {k : List Nat} (lk : k.length = 32) (xk : ∀ x ∈ k, x < 256) :
    (∃ l p, evVal T 32 [.agg (u8s k).toArray] = some (decV l 0) ∧ RP l p ∧ enc p = k) ∨ (∃ l, evVal T 32 [.agg (u8s k).toArray] = some (decV l 60) ∧ l.length = 48 ∧ ∀ p, enc p ≠ k) := by
  obtain ⟨w, hw, hw', ht, hm, xm, lm⟩ := key_top lk xk
  have ha : w &&& 127 = w % 128 := Nat.and_two_pow_sub_one_eq_mod w 7
  rw [ha] at hm xm lm
  have hwc := u8s_get hw
  have hset := u8s_set k 31 (w % 128)
  have hrem : (w : Int).tmod 128 = ((w % 128 : Nat) : Int) := rfl
  have hof := rof_v lm xm
  rw [hm] at hof
  rw [Nat.mod_mod] at hof
  have hkey : ∀ p : Go.Cv.Pt Go.Fp.P Go.Fp.d, enc p = k ↔ p.y.val = num 256 k % 2 ^ 255 ∧ p.x.val % 2 = num 256 k / 2 ^ 255 := fun p => by rw [enc_key lk xk, enc_parts]
  rw [← ht] at hkey
  have hVlt : num 256 k % 2 ^ 255 < 2 ^ 255 := Nat.mod_lt _ (by decide)
  have hkm := key_eq lm xm
  rw [hm] at hkm
  generalize k.set 31 (w % 128) = km at *
  generalize num 256 k % 2 ^ 255 = V at *
  have NY := Nm.dig V
  have hYn := nm_dig (v := V) (Nat.lt_trans hVlt (by decide))
  have fy : nf (dig 65536 16 V) = Go.Fp.fp V := by unfold nf; rw [hYn]
  have hby := rbytes_v NY
  rw [fy] at hby
  have lB := dig_len 256 32 (Go.Fp.fp V).val
  have heq := vEq_key lB lm
  have hbk : (dig 256 32 (Go.Fp.fp V).val == km) = decide (V < Go.Fp.P) := by
    rw [hkm, key_inj (Nat.lt_trans (Go.Fp.fp V).isLt (by decide)) (Nat.lt_trans hVlt (by decide))]
    by_cases h : V < Go.Fp.P
    · rw [decide_eq_true h, decide_eq_true (show (Go.Fp.fp V).val = V from Nat.mod_eq_of_lt h)]
    · have : ¬ (Go.Fp.fp V).val = V := fun e => h (by rw [← e]; exact (Go.Fp.fp V).isLt)
      rw [decide_eq_false h, decide_eq_false this]
  rw [hbk] at heq
  have hz := z16_eq
  have lz := z16_len
  have hf := z16_fill
  have hz2 := z48_eq
  have lz2 := z48_len
  have hf2 := z48_fill
  have lY := NY.len
  have hge : decide ((128 : Int) ≤ (w : Int)) = decide (w / 128 = 1) := by
    by_cases h : w / 128 = 1
    · rw [decide_eq_true h, decide_eq_true (by omega)]
    · rw [decide_eq_false h, decide_eq_false (by omega)]
  generalize dig 65536 16 V = Y at *
  generalize dig 256 32 (Go.Fp.fp V).val = BY at *
  clear hbk hkm
  by_cases hV : V < Go.Fp.P
  · rw [decide_eq_true hV] at heq
    have hYv : (Go.Fp.fp V).val = V := Nat.mod_eq_of_lt hV
    have s1 := rsmall_v 1 (by decide)
    have N1 := smallL_nm 1
    have f1 := rone_nf
    have l1 := N1.len
    simp only [Int.natCast_one] at s1
    obtain ⟨yy, hyy, Nyy, fyy⟩ := rmul_v NY NY
    obtain ⟨D, hD, ND, fD⟩ := rd_v
    obtain ⟨uu, huu, Nuu, fuu⟩ := rsub_v Nyy N1
    obtain ⟨dy, hdy, Ndy, fdy⟩ := rmul_v ND Nyy
    obtain ⟨vv, hvv, Nvv, fvv⟩ := radd_v Ndy N1
    obtain ⟨iw, hiw, Niw, fiw⟩ := rinvert_v Nvv
    obtain ⟨aa, haa, Naa, faa⟩ := rmul_v Nuu Niw
    obtain ⟨r, ok, hr, Nr, ltr, hok, hno⟩ := rroot_v Naa
    obtain ⟨nr, hnr, Nnr, fnr⟩ := rneg_v Nr
    have hu : nf uu = Go.Fp.fp V * Go.Fp.fp V - 1 := by rw [fuu, fyy, fy, f1]
    have hv : nf vv = Go.Fp.d * (Go.Fp.fp V * Go.Fp.fp V) + 1 := by rw [fvv, fdy, fD, fyy, fy, f1]
    have hvn : nf vv ≠ 0 := by rw [hv]; exact den_ne _
    have hyp : ∀ p : Go.Cv.Pt Go.Fp.P Go.Fp.d, enc p = k → p.y = Go.Fp.fp V := fun p hp => Fin.ext (by rw [hYv]; exact ((hkey p).1 hp).1)
    have hxx : ∀ p : Go.Cv.Pt Go.Fp.P Go.Fp.d, enc p = k → p.x * p.x = nf aa := fun p hp => by
      have := x_sq p
      rw [hyp p hp] at this
      rw [faa, fiw]
      exact iv_back hvn (by rw [hu, hv]; exact this)
    have rft : ∀ b : Bool, rf (Value.tuple #[eV r, .bool b]) = true := fun b => rf_tup2 (a := eV r) (b := .bool b) (rf_eV r) rfl
    have lyy := Nyy.len
    have lr := Nr.len
    have lnr := Nnr.len
    have hq0 := vEq_eV lr lz
    have hq0' : (r == zero16) = decide (nf r = 0) := by
      by_cases h : nf r = 0
      · have h2 := nf_zero_iff.1 h
        rw [Nat.mod_eq_of_lt ltr] at h2
        have : r = zero16 := Nr.inj zero16_nm (by rw [h2, zero16_num])
        rw [decide_eq_true h, this]; simp
      · have : ¬ r = zero16 := fun e => h (by rw [e]; unfold nf; rw [zero16_num]; rfl)
        rw [decide_eq_false h, beq_eq_false_iff_ne.2 this]
    rw [hq0'] at hq0
    obtain ⟨r0, hr0⟩ : ∃ r0, r[0]? = some r0 := ⟨_, List.getElem?_eq_getElem (by rw [lr]; decide)⟩
    have hr0c := ns_get (k := .u64) hr0
    have hr0v := num_get (B := 65536) (by decide) Nr.lt hr0
    rw [Nat.pow_zero, Nat.div_one] at hr0v
    have hpar : r0 % 2 = (nf r).val % 2 := by rw [nf_val ltr, ← hr0v]; omega
    have hr2 : (r0 : Int).tmod 2 = (((nf r).val % 2 : Nat) : Int) := by rw [← hpar]; rfl
    generalize zero16 = Z at *
    obtain ⟨Z48, hz48⟩ : ∃ Z, zero48 = Z := ⟨_, rfl⟩
    rw [hz48] at hz2 lz2 hf2
    cases ok with
    | false =>
      refine .inr ⟨Z48, ?_, lz2, fun p hp => hno rfl p.x (hxx p hp)⟩
      generalize smallL 1 = S1 at *
      apply evVal_ex
      apply Exists.intro
      rw [evFun_fn (fn := a32) rfl]
      simp only [a32, ↓steps_chunk, envOf, quiet, cF, ↓pF, reduceCtorEq, Nat.reduceEqDiff, Int.reduceEq, fs_callW, fs_regionQ, quiet2_eq, lastOf_nil, lastOf_cons, List.take_succ_cons, List.take_zero, List.drop_succ_cons, List.drop_zero, Int.reduceBEq, Int.reduceBNe, ↓keepW_some, ↓qElseW_some, ↓guardW_tt, ↓guardW_ff, ↓guardW_tf, ↓guardW_ft, cL, Int.reduceLE, Int.reduceLT, Int.reduceAdd, Int.reduceMul, Int.reduceSub, Int.reduceTDiv, Int.reduceTMod, Int.reduceNeg, Int.reduceToNat, Int.reduceGT, Int.reduceGE, Int.reducePow, Nat.reduceAdd, Nat.reduceMul, Nat.reduceSub, Nat.reduceDiv, Nat.reduceMod, Nat.reducePow, Nat.reduceLT, Nat.reduceLeDiff, cJ, decV, hz, hf, hz2, hf2, hwc, hset, hrem, hge, hof, hby, heq, s1, hyy, hD, huu, hdy, hvv, hiw, haa, hr, List.length_replicate, take_all, eV_cells, eV_size, eV_ok, eV_fold, ns_len, u8s_len, lk, lm, lz, lz2, lY, l1, lyy, lr, lB, rft, rf_eV]
      rfl
    | true =>
      have hroot := hok rfl
      rw [faa, fiw] at hroot
      have hroot1 := iv_cancel hvn hroot
      have h255 : (nf r).val % 2 < 2 := Nat.mod_lt _ (by decide)
      have hbq : ((((nf r).val % 2 : Nat) : Int) == 1) = decide ((nf r).val % 2 = 1) := by
        by_cases h : (nf r).val % 2 = 1
        · rw [h]; rfl
        · rw [show (nf r).val % 2 = 0 by omega]; rfl
      have bft : (false == true) = false := rfl
      have btf : (true == false) = false := rfl
      have fin : ∀ X : List Nat, Nm X → nf X * nf X = nf r * nf r → (nf X).val % 2 = w / 128 → ∃ p, RP (tL X Y (smallL 1)) p ∧ enc p = k := fun X NX hX hp =>
        ⟨⟨nf X, Go.Fp.fp V, on_of hu hv (by rw [hX]; exact hroot1)⟩, ⟨X, Y, _, rfl, NX, NY, N1, by rw [f1]; exact Go.Fp.one_ne, by rw [f1]; exact (fe_mul_one _).symm, by rw [f1, fy]; exact (fe_mul_one _).symm⟩, (hkey _).2 ⟨hYv, hp⟩⟩
      have hfr := fillT lr lY l1
      have hfn := fillT lnr lY l1
      have lTr := tL_len lr lY l1
      have lTn := tL_len lnr lY l1
      rw [hz48] at hfr hfn
      have hneg : nf nr * nf nr = nf r * nf r := by rw [fnr]; exact fe_negsq _
      have hnpar : nf r ≠ 0 → (nf nr).val % 2 ≠ (nf r).val % 2 := fun h => by rw [fnr]; exact par_neg h
      have hnl := Nat.mod_lt (nf nr).val (by decide : 0 < 2)
      have hw2 : w / 128 < 2 := by omega
      by_cases hb : w / 128 = 1
      · rw [decide_eq_true hb] at hge
        by_cases h0 : nf r = 0
        · rw [decide_eq_true h0] at hq0
          refine .inr ⟨Z48, ?_, lz2, fun p hp => ?_⟩
          · generalize smallL 1 = S1 at *
            apply evVal_ex
            apply Exists.intro
            rw [evFun_fn (fn := a32) rfl]
            simp only [a32, ↓steps_chunk, envOf, quiet, cF, ↓pF, reduceCtorEq, Nat.reduceEqDiff, Int.reduceEq, fs_callW, fs_regionQ, quiet2_eq, lastOf_nil, lastOf_cons, List.take_succ_cons, List.take_zero, List.drop_succ_cons, List.drop_zero, Int.reduceBEq, Int.reduceBNe, ↓keepW_some, ↓qElseW_some, ↓guardW_tt, ↓guardW_ff, ↓guardW_tf, ↓guardW_ft, cL, Int.reduceLE, Int.reduceLT, Int.reduceAdd, Int.reduceMul, Int.reduceSub, Int.reduceTDiv, Int.reduceTMod, Int.reduceNeg, Int.reduceToNat, Int.reduceGT, Int.reduceGE, Int.reducePow, Nat.reduceAdd, Nat.reduceMul, Nat.reduceSub, Nat.reduceDiv, Nat.reduceMod, Nat.reducePow, Nat.reduceLT, Nat.reduceLeDiff, cJ, decV, hz, hf, hz2, hf2, hwc, hset, hrem, hge, hof, hby, heq, s1, hyy, hD, huu, hdy, hvv, hiw, haa, hr, hq0,  List.length_replicate, take_all, eV_cells, eV_size, eV_ok, eV_fold, ns_len, u8s_len, lk, lm, lz, lz2, lY, l1, lyy, lr, lnr, lB,  rft, rf_eV]
            rfl
          · have h2 := ((hkey p).1 hp).2
            have h3 := hxx p hp
            rw [faa, fiw, ← hroot, h0] at h3
            rcases sq_eq h3 with h5 | h5
            · rw [h5, hb] at h2; exact absurd h2 (by decide)
            · rw [h5, hb] at h2; exact absurd h2 (by decide)
        · rw [decide_eq_false h0] at hq0
          by_cases hp1 : (nf r).val % 2 = 1
          · rw [decide_eq_true hp1] at hbq
            obtain ⟨p, rp, he⟩ := fin r Nr rfl (by rw [hb]; exact hp1)
            refine .inl ⟨_, p, ?_, rp, he⟩
            generalize tL r Y (smallL 1) = R at *
            generalize smallL 1 = S1 at *
            apply evVal_ex
            apply Exists.intro
            rw [evFun_fn (fn := a32) rfl]
            simp only [a32, ↓steps_chunk, envOf, quiet, cF, ↓pF, reduceCtorEq, Nat.reduceEqDiff, Int.reduceEq, fs_callW, fs_regionQ, quiet2_eq, lastOf_nil, lastOf_cons, List.take_succ_cons, List.take_zero, List.drop_succ_cons, List.drop_zero, Int.reduceBEq, Int.reduceBNe, ↓keepW_some, ↓qElseW_some, ↓guardW_tt, ↓guardW_ff, ↓guardW_tf, ↓guardW_ft, cL, Int.reduceLE, Int.reduceLT, Int.reduceAdd, Int.reduceMul, Int.reduceSub, Int.reduceTDiv, Int.reduceTMod, Int.reduceNeg, Int.reduceToNat, Int.reduceGT, Int.reduceGE, Int.reducePow, Nat.reduceAdd, Nat.reduceMul, Nat.reduceSub, Nat.reduceDiv, Nat.reduceMod, Nat.reducePow, Nat.reduceLT, Nat.reduceLeDiff, cJ, decV, hz, hf, hz2, hf2, hwc, hset, hrem, hge, hof, hby, heq, s1, hyy, hD, huu, hdy, hvv, hiw, haa, hr, hq0, bft, btf, hr0c, hr2, hbq, hfr, List.length_replicate, take_all, eV_cells, eV_size, eV_ok, eV_fold, ns_len, u8s_len, lk, lm, lz, lz2, lY, l1, lyy, lr, lnr, lB, lTr, rft, rf_eV]
            rfl
          · rw [decide_eq_false hp1] at hbq
            obtain ⟨p, rp, he⟩ := fin nr Nnr hneg (by have := hnpar h0; omega)
            refine .inl ⟨_, p, ?_, rp, he⟩
            generalize tL nr Y (smallL 1) = R at *
            generalize smallL 1 = S1 at *
            apply evVal_ex
            apply Exists.intro
            rw [evFun_fn (fn := a32) rfl]
            simp only [a32, ↓steps_chunk, envOf, quiet, cF, ↓pF, reduceCtorEq, Nat.reduceEqDiff, Int.reduceEq, fs_callW, fs_regionQ, quiet2_eq, lastOf_nil, lastOf_cons, List.take_succ_cons, List.take_zero, List.drop_succ_cons, List.drop_zero, Int.reduceBEq, Int.reduceBNe, ↓keepW_some, ↓qElseW_some, ↓guardW_tt, ↓guardW_ff, ↓guardW_tf, ↓guardW_ft, cL, Int.reduceLE, Int.reduceLT, Int.reduceAdd, Int.reduceMul, Int.reduceSub, Int.reduceTDiv, Int.reduceTMod, Int.reduceNeg, Int.reduceToNat, Int.reduceGT, Int.reduceGE, Int.reducePow, Nat.reduceAdd, Nat.reduceMul, Nat.reduceSub, Nat.reduceDiv, Nat.reduceMod, Nat.reducePow, Nat.reduceLT, Nat.reduceLeDiff, cJ, decV, hz, hf, hz2, hf2, hwc, hset, hrem, hge, hof, hby, heq, s1, hyy, hD, huu, hdy, hvv, hiw, haa, hr, hq0, bft, btf, hr0c, hr2, hbq, hnr, hfn, List.length_replicate, take_all, eV_cells, eV_size, eV_ok, eV_fold, ns_len, u8s_len, lk, lm, lz, lz2, lY, l1, lyy, lr, lnr, lB, lTn, rft, rf_eV]
            rfl
      · rw [decide_eq_false hb] at hge
        by_cases hp1 : (nf r).val % 2 = 1
        · rw [decide_eq_true hp1] at hbq
          have h0 : nf r ≠ 0 := fun h => by rw [h] at hp1; exact absurd hp1 (by decide)
          rw [decide_eq_false h0] at hq0
          obtain ⟨p, rp, he⟩ := fin nr Nnr hneg (by have := hnpar h0; omega)
          refine .inl ⟨_, p, ?_, rp, he⟩
          generalize tL nr Y (smallL 1) = R at *
          generalize smallL 1 = S1 at *
          apply evVal_ex
          apply Exists.intro
          rw [evFun_fn (fn := a32) rfl]
          simp only [a32, ↓steps_chunk, envOf, quiet, cF, ↓pF, reduceCtorEq, Nat.reduceEqDiff, Int.reduceEq, fs_callW, fs_regionQ, quiet2_eq, lastOf_nil, lastOf_cons, List.take_succ_cons, List.take_zero, List.drop_succ_cons, List.drop_zero, Int.reduceBEq, Int.reduceBNe, ↓keepW_some, ↓qElseW_some, ↓guardW_tt, ↓guardW_ff, ↓guardW_tf, ↓guardW_ft, cL, Int.reduceLE, Int.reduceLT, Int.reduceAdd, Int.reduceMul, Int.reduceSub, Int.reduceTDiv, Int.reduceTMod, Int.reduceNeg, Int.reduceToNat, Int.reduceGT, Int.reduceGE, Int.reducePow, Nat.reduceAdd, Nat.reduceMul, Nat.reduceSub, Nat.reduceDiv, Nat.reduceMod, Nat.reducePow, Nat.reduceLT, Nat.reduceLeDiff, cJ, decV, hz, hf, hz2, hf2, hwc, hset, hrem, hge, hof, hby, heq, s1, hyy, hD, huu, hdy, hvv, hiw, haa, hr, hq0, bft, btf, hr0c, hr2, hbq, hnr, hfn, List.length_replicate, take_all, eV_cells, eV_size, eV_ok, eV_fold, ns_len, u8s_len, lk, lm, lz, lz2, lY, l1, lyy, lr, lnr, lB, lTn, rft, rf_eV]
          rfl
        · rw [decide_eq_false hp1] at hbq
          obtain ⟨p, rp, he⟩ := fin r Nr rfl (by omega)
          refine .inl ⟨_, p, ?_, rp, he⟩
          generalize tL r Y (smallL 1) = R at *
          generalize decide (nf r = 0) = zq at *
          cases zq with
          | false =>
            generalize smallL 1 = S1 at *
            apply evVal_ex
            apply Exists.intro
            rw [evFun_fn (fn := a32) rfl]
            simp only [a32, ↓steps_chunk, envOf, quiet, cF, ↓pF, reduceCtorEq, Nat.reduceEqDiff, Int.reduceEq, fs_callW, fs_regionQ, quiet2_eq, lastOf_nil, lastOf_cons, List.take_succ_cons, List.take_zero, List.drop_succ_cons, List.drop_zero, Int.reduceBEq, Int.reduceBNe, ↓keepW_some, ↓qElseW_some, ↓guardW_tt, ↓guardW_ff, ↓guardW_tf, ↓guardW_ft, cL, Int.reduceLE, Int.reduceLT, Int.reduceAdd, Int.reduceMul, Int.reduceSub, Int.reduceTDiv, Int.reduceTMod, Int.reduceNeg, Int.reduceToNat, Int.reduceGT, Int.reduceGE, Int.reducePow, Nat.reduceAdd, Nat.reduceMul, Nat.reduceSub, Nat.reduceDiv, Nat.reduceMod, Nat.reducePow, Nat.reduceLT, Nat.reduceLeDiff, cJ, decV, hz, hf, hz2, hf2, hwc, hset, hrem, hge, hof, hby, heq, s1, hyy, hD, huu, hdy, hvv, hiw, haa, hr, hq0, bft, btf, hr0c, hr2, hbq, hfr, List.length_replicate, take_all, eV_cells, eV_size, eV_ok, eV_fold, ns_len, u8s_len, lk, lm, lz, lz2, lY, l1, lyy, lr, lnr, lB, lTr, rft, rf_eV]
            rfl
          | true =>
            generalize smallL 1 = S1 at *
            apply evVal_ex
            apply Exists.intro
            rw [evFun_fn (fn := a32) rfl]
            simp only [a32, ↓steps_chunk, envOf, quiet, cF, ↓pF, reduceCtorEq, Nat.reduceEqDiff, Int.reduceEq, fs_callW, fs_regionQ, quiet2_eq, lastOf_nil, lastOf_cons, List.take_succ_cons, List.take_zero, List.drop_succ_cons, List.drop_zero, Int.reduceBEq, Int.reduceBNe, ↓keepW_some, ↓qElseW_some, ↓guardW_tt, ↓guardW_ff, ↓guardW_tf, ↓guardW_ft, cL, Int.reduceLE, Int.reduceLT, Int.reduceAdd, Int.reduceMul, Int.reduceSub, Int.reduceTDiv, Int.reduceTMod, Int.reduceNeg, Int.reduceToNat, Int.reduceGT, Int.reduceGE, Int.reducePow, Nat.reduceAdd, Nat.reduceMul, Nat.reduceSub, Nat.reduceDiv, Nat.reduceMod, Nat.reducePow, Nat.reduceLT, Nat.reduceLeDiff, cJ, decV, hz, hf, hz2, hf2, hwc, hset, hrem, hge, hof, hby, heq, s1, hyy, hD, huu, hdy, hvv, hiw, haa, hr, hq0, bft, btf, hr0c, hr2, hbq, hfr, List.length_replicate, take_all, eV_cells, eV_size, eV_ok, eV_fold, ns_len, u8s_len, lk, lm, lz, lz2, lY, l1, lyy, lr, lnr, lB, lTr, rft, rf_eV]
            rfl
  · rw [decide_eq_false hV] at heq
    generalize zero16 = Z at *
    generalize zero48 = Z48 at *
    refine .inr ⟨Z48, ?_, lz2, fun p hp => hV ?_⟩
    · apply evVal_ex
      apply Exists.intro
      rw [evFun_fn (fn := a32) rfl]
      simp only [a32, ↓steps_chunk, envOf, quiet, cF, ↓pF, reduceCtorEq, Nat.reduceEqDiff, Int.reduceEq, fs_callW, fs_regionQ, quiet2_eq, lastOf_nil, lastOf_cons, List.take_succ_cons, List.take_zero, List.drop_succ_cons, List.drop_zero, Int.reduceBEq, Int.reduceBNe, ↓keepW_some, ↓qElseW_some, ↓guardW_tt, ↓guardW_ff, ↓guardW_tf, ↓guardW_ft, cL, Int.reduceLE, Int.reduceLT, Int.reduceAdd, Int.reduceMul, Int.reduceSub, Int.reduceTDiv, Int.reduceTMod, Int.reduceNeg, Int.reduceToNat, Int.reduceGT, Int.reduceGE, Int.reducePow, Nat.reduceAdd, Nat.reduceMul, Nat.reduceSub, Nat.reduceDiv, Nat.reduceMod, Nat.reducePow, Nat.reduceLT, Nat.reduceLeDiff, cJ, decV, hz, hf, hz2, hf2, hwc, hset, hrem, hge, hof, hby, heq, List.length_replicate, take_all, eV_cells, eV_size, eV_ok, eV_fold, ns_len, u8s_len, lk, lm, lz, lz2, lY, lB, rf_eV]
      rfl
    · rw [← ((hkey p).1 hp).1]; exact p.y.isLt
theorem enc_inj {p q : Go.Cv.Pt Go.Fp.P Go.Fp.d} (h : enc p = enc q) : p = q := by
  have := enc_beq p q
  rw [h] at this
  simp at this
  exact this
end Go.Ev.Ytaceeoghjgggjaa
set_option linter.unusedSimpArgs false
set_option linter.unusedVariables false
namespace Go.Ev.Ytaceeoghjgggjaa
open Go Go.Ev
attribute [local congr] bind_congr2 ite_congr2 qElse_congr gate_congr guardV_congr
set_option maxRecDepth 100000
theorem vEq_keyT {k l : List Nat} (lk : k.length = 32) (ll : l.length = 32) : vEq (some (List.replicate 32 true)) false (.agg (u8s k).toArray) (.agg (u8s l).toArray) = some (.bool (k == l)) := by
  rw [vEq_agg, cellsEq_u8 lk ll]
  rfl
end Go.Ev.Ytaceeoghjgggjaa
set_option linter.unusedSimpArgs false
set_option linter.unusedVariables false
namespace Go.Ev.Ytaceeoghjgggjaa
open Go Go.Ev
attribute [local congr] bind_congr2 ite_congr2 qElse_congr gate_congr guardV_congr
set_option maxRecDepth 100000
theorem fold3 {p q r : Go.Cv.Pt Go.Fp.P Go.Fp.d} : [p, q, r].foldl padd pzero = padd (padd p q) r := by
  show padd (padd (padd pzero p) q) r = _
  rw [pzero_padd]
theorem fill60 {a b c : List Nat} {p q r : Go.Cv.Pt Go.Fp.P Go.Fp.d} (ha : RepL a p) (hb : RepL b q) (hc : RepL c r) : fillL (List.replicate 60 (Value.int .u64 0)) [(0, 20, eV a), (20, 20, eV b), (40, 20, eV c)] = some (ns .u64 [a, b, c].flatten) := by
  obtain ⟨x1, y1, z1, t1, rfl, h1⟩ := ha
  obtain ⟨x2, y2, z2, t2, rfl, h2⟩ := hb
  obtain ⟨x3, y3, z3, t3, rfl, h3⟩ := hc
  obtain ⟨ax0, ax1, ax2, ax3, ax4, rfl, -⟩ := h1.ex.five
  obtain ⟨ay0, ay1, ay2, ay3, ay4, rfl, -⟩ := h1.ey.five
  obtain ⟨az0, az1, az2, az3, az4, rfl, -⟩ := h1.ez.five
  obtain ⟨at0, at1, at2, at3, at4, rfl, -⟩ := h1.et.five
  obtain ⟨bx0, bx1, bx2, bx3, bx4, rfl, -⟩ := h2.ex.five
  obtain ⟨by0, by1, by2, by3, by4, rfl, -⟩ := h2.ey.five
  obtain ⟨bz0, bz1, bz2, bz3, bz4, rfl, -⟩ := h2.ez.five
  obtain ⟨bt0, bt1, bt2, bt3, bt4, rfl, -⟩ := h2.et.five
  obtain ⟨cx0, cx1, cx2, cx3, cx4, rfl, -⟩ := h3.ex.five
  obtain ⟨cy0, cy1, cy2, cy3, cy4, rfl, -⟩ := h3.ey.five
  obtain ⟨cz0, cz1, cz2, cz3, cz4, rfl, -⟩ := h3.ez.five
  obtain ⟨ct0, ct1, ct2, ct3, ct4, rfl, -⟩ := h3.et.five
  rfl
theorem adds0_ev (H : List Ob) : ∃ r d, evFun T 27 [.slice none 0 0] H = some (eV r, H ++ [⟨ns .u64 r, true, true, true, 1⟩, ⟨ns .u64 r, true, true, true, 1⟩, ⟨ns .u64 d, true, true, true, 1⟩], []) ∧ RepL r pzero := by
  obtain ⟨d, hd, Ed, fd⟩ := factor_v
  obtain ⟨z, hz, Ez⟩ := zero_v
  have hZ : ∃ Z, List.replicate 20 (Value.int .u64 0) = ns .u64 Z ∧ Z.length = 20 := ⟨List.replicate 20 0, rfl, rfl⟩
  obtain ⟨Z, hZ, l0⟩ := hZ
  refine ⟨z, d, ?_, Ez⟩
  have hb := block_loop (T := T) (base := H.length) (id := 0) (body := a27_l0) (fun _ => ⟨[(2, .pointer (some ⟨H.length, 0, none⟩)), (3, .pointer (some ⟨H.length + 1, 0, none⟩)), (4, .pointer (some ⟨H.length + 2, 0, none⟩)), (9, .slice none 0 0), (10, .int .i64 0), (11, .int .i64 0)], H ++ [⟨ns .u64 Z, true, true, true, 1⟩, ⟨ns .u64 z, true, true, true, 1⟩, ⟨ns .u64 d, true, true, true, 1⟩], []⟩) (s' := ⟨[(2, .pointer (some ⟨H.length, 0, none⟩)), (3, .pointer (some ⟨H.length + 1, 0, none⟩)), (4, .pointer (some ⟨H.length + 2, 0, none⟩)), (9, .slice none 0 0), (10, .int .i64 0), (11, .int .i64 0), (12, .bool false)], H ++ [⟨ns .u64 Z, true, true, true, 1⟩, ⟨ns .u64 z, true, true, true, 1⟩, ⟨ns .u64 d, true, true, true, 1⟩], []⟩) 0
    (fun i hi => absurd hi (Nat.not_lt_zero i)) (by simp only [a27_l0, envOf, quiet, cF, ↓pF, reduceCtorEq, Nat.reduceEqDiff, Int.reduceEq, fs_callW, fs_regionP, ↓keepV_some, ↓qElse_some, ↓guardV_tt, ↓guardV_ff, ↓guardV_tf, ↓guardV_ft, cL, Int.reduceLE, Int.reduceLT, Int.reduceAdd, Int.reduceMul, Int.reduceSub, Int.reduceTDiv, Int.reduceTMod, Int.reduceNeg, Int.reduceToNat, Int.reduceGT, Int.reduceGE, Int.reducePow, Nat.reduceAdd, Nat.reduceMul, Nat.reduceSub, Nat.reduceDiv, Nat.reduceMod, Nat.reducePow, Nat.reduceLT, Nat.reduceLeDiff])
  have l2 := Ez.len
  have l3 := Ed.len
  rw [evFun_fn (fn := a27) rfl]
  have hz5 : List.replicate 5 (Value.int .u64 0) = ns .u64 [0, 0, 0, 0, 0] := rfl
  have l5 : ([0, 0, 0, 0, 0] : List Nat).length = 5 := rfl
  simp only [a27, envOf, quiet, cF, ↓pF, reduceCtorEq, Nat.reduceEqDiff, Int.reduceEq, fs_callW, fs_regionP, ↓keepV_some, ↓qElse_some, ↓guardV_tt, ↓guardV_ff, ↓guardV_tf, ↓guardV_ft, cL, Int.reduceLE, Int.reduceLT, Int.reduceAdd, Int.reduceMul, Int.reduceSub, Int.reduceTDiv, Int.reduceTMod, Int.reduceNeg, Int.reduceToNat, Int.reduceGT, Int.reduceGE, Int.reducePow, Nat.reduceAdd, Nat.reduceMul, Nat.reduceSub, Nat.reduceDiv, Nat.reduceMod, Nat.reducePow, Nat.reduceLT, Nat.reduceLeDiff, cJ, Nat.add_assoc, hZ, hz5, l5, hd, hz, hb, eV_cells, eV_size, eV_ok, eV_fold, ns_len, l0, l2, l3, rf_eV]
theorem rdecode_same {k : List Nat} {p : Go.Cv.Pt Go.Fp.P Go.Fp.d} (lk : k.length = 32) (xk : ∀ x ∈ k, x < 256) (he : enc p = k) : ∃ l, evVal T 32 [.agg (u8s k).toArray] = some (decV l 0) ∧ RP l p := by
  rcases rdecode_v lk xk with ⟨l, q, hd, rq, hq⟩ | ⟨l, hd, ll, hno⟩
  · have := enc_inj (hq.trans he.symm)
    subst this
    exact ⟨l, hd, rq⟩
  · exact absurd he (hno p)
theorem padds_ev {ka kb : List Nat} (la : ka.length = 32) (xa : ∀ x ∈ ka, x < 256) (lb : kb.length = 32) (xb : ∀ x ∈ kb, x < 256) : ∃ l, evFun T 11 [.agg (u8s ka).toArray, .agg (u8s kb).toArray] [] = some (.bool true, l, []) := by
  have hbased := based_v
  have hz20 : ∃ O, List.replicate 20 (Value.int .u64 0) = ns .u64 O ∧ O.length = 20 := ⟨List.replicate 20 0, rfl, rfl⟩
  obtain ⟨O, hz20, l0⟩ := hz20
  have hz2 := z48_eq
  have lz2 := z48_len
  have rft : ∀ (r : List Nat) (c : Int), rf (Value.tuple #[eV r, .int .i64 c]) = true := fun r c => rf_tup2 (a := eV r) (b := .int .i64 c) (rf_eV r) rfl
  generalize zero48 = Z48 at *
  rcases decode_v la xa with ⟨P, p, hP, rp, hep⟩ | ⟨P, hP, lP, hnp⟩ <;> rcases decode_v lb xb with ⟨Q, q, hQ, rq, heq⟩ | ⟨Q, hQ, lQ, hnq⟩
  · obtain ⟨U, hU, rU⟩ := rdecode_same la xa hep
    obtain ⟨V, hV, rV⟩ := rdecode_same lb xb heq
    obtain ⟨NQ, hNQ, rnq⟩ := negp_v rq
    obtain ⟨NP, hNP, rnp⟩ := negp_v rp
    obtain ⟨Z, hZ, rZ⟩ := zero_v
    obtain ⟨D, hD, ND, fD⟩ := rd_v
    obtain ⟨W, hW, rW⟩ := raddp_v rU rV ND fD
    obtain ⟨S1, dS1, hS1, ES1⟩ := adds_ev (H := [⟨u8s ka, true, true, true, 1⟩, ⟨u8s kb, true, true, true, 1⟩, ⟨ns .u64 P, true, true, true, 1⟩, ⟨ns .u64 Q, true, true, true, 1⟩, ⟨ns .u64 U, true, true, true, 1⟩, ⟨ns .u64 V, true, true, true, 1⟩, ⟨ns .u64 [P, Q].flatten, true, true, true, 1⟩]) (id := 6) (n := 2) (xs := [P, Q]) rfl (by decide) (.cons rp (.cons rq .nil)) rfl
    simp only [List.map_cons, List.map_nil, List.cons_append, List.nil_append] at hS1
    rw [fold2] at ES1
    obtain ⟨S2, dS2, hS2, ES2⟩ := adds_ev (H := [⟨u8s ka, true, true, true, 1⟩, ⟨u8s kb, true, true, true, 1⟩, ⟨ns .u64 P, true, true, true, 1⟩, ⟨ns .u64 Q, true, true, true, 1⟩, ⟨ns .u64 U, true, true, true, 1⟩, ⟨ns .u64 V, true, true, true, 1⟩, ⟨ns .u64 [P, Q].flatten, true, true, true, 1⟩, ⟨ns .u64 S1, true, true, true, 1⟩, ⟨ns .u64 S1, true, true, true, 1⟩, ⟨ns .u64 dS1, true, true, true, 1⟩, ⟨ns .u64 P, true, true, true, 1⟩, ⟨ns .u64 Q, true, true, true, 1⟩, ⟨ns .u64 [P, Q, NQ].flatten, true, true, true, 1⟩]) (id := 12) (n := 3) (xs := [P, Q, NQ]) rfl (by decide) (.cons rp (.cons rq (.cons rnq .nil))) rfl
    simp only [List.map_cons, List.map_nil, List.cons_append, List.nil_append] at hS2
    rw [fold3] at ES2
    obtain ⟨S3, dS3, hS3, ES3⟩ := adds_ev (H := [⟨u8s ka, true, true, true, 1⟩, ⟨u8s kb, true, true, true, 1⟩, ⟨ns .u64 P, true, true, true, 1⟩, ⟨ns .u64 Q, true, true, true, 1⟩, ⟨ns .u64 U, true, true, true, 1⟩, ⟨ns .u64 V, true, true, true, 1⟩, ⟨ns .u64 [P, Q].flatten, true, true, true, 1⟩, ⟨ns .u64 S1, true, true, true, 1⟩, ⟨ns .u64 S1, true, true, true, 1⟩, ⟨ns .u64 dS1, true, true, true, 1⟩, ⟨ns .u64 P, true, true, true, 1⟩, ⟨ns .u64 Q, true, true, true, 1⟩, ⟨ns .u64 [P, Q, NQ].flatten, true, true, true, 1⟩, ⟨ns .u64 S2, true, true, true, 1⟩, ⟨ns .u64 S2, true, true, true, 1⟩, ⟨ns .u64 dS2, true, true, true, 1⟩, ⟨ns .u64 P, true, true, true, 1⟩, ⟨ns .u64 Q, true, true, true, 1⟩, ⟨ns .u64 NQ, true, true, true, 1⟩, ⟨ns .u64 [P, NP].flatten, true, true, true, 1⟩]) (id := 19) (n := 2) (xs := [P, NP]) rfl (by decide) (.cons rp (.cons rnp .nil)) rfl
    simp only [List.map_cons, List.map_nil, List.cons_append, List.nil_append] at hS3
    rw [fold2] at ES3
    obtain ⟨S4, dS4, hS4, ES4⟩ := adds0_ev [⟨u8s ka, true, true, true, 1⟩, ⟨u8s kb, true, true, true, 1⟩, ⟨ns .u64 P, true, true, true, 1⟩, ⟨ns .u64 Q, true, true, true, 1⟩, ⟨ns .u64 U, true, true, true, 1⟩, ⟨ns .u64 V, true, true, true, 1⟩, ⟨ns .u64 [P, Q].flatten, true, true, true, 1⟩, ⟨ns .u64 S1, true, true, true, 1⟩, ⟨ns .u64 S1, true, true, true, 1⟩, ⟨ns .u64 dS1, true, true, true, 1⟩, ⟨ns .u64 P, true, true, true, 1⟩, ⟨ns .u64 Q, true, true, true, 1⟩, ⟨ns .u64 [P, Q, NQ].flatten, true, true, true, 1⟩, ⟨ns .u64 S2, true, true, true, 1⟩, ⟨ns .u64 S2, true, true, true, 1⟩, ⟨ns .u64 dS2, true, true, true, 1⟩, ⟨ns .u64 P, true, true, true, 1⟩, ⟨ns .u64 Q, true, true, true, 1⟩, ⟨ns .u64 NQ, true, true, true, 1⟩, ⟨ns .u64 [P, NP].flatten, true, true, true, 1⟩, ⟨ns .u64 S3, true, true, true, 1⟩, ⟨ns .u64 S3, true, true, true, 1⟩, ⟨ns .u64 dS3, true, true, true, 1⟩, ⟨ns .u64 P, true, true, true, 1⟩, ⟨ns .u64 NP, true, true, true, 1⟩]
    simp only [List.cons_append, List.nil_append] at hS4
    have k1 := encode_v ES1
    have k2 := rencode_v rW
    have k3 := vEq_keyT (enc_len (padd p q)) (enc_len (padd p q))
    rw [beq_self_eq_true] at k3
    have k4 := equal_yes ES2 rp (by rw [padd_assoc, padd_neg, padd_pzero])
    have k5 := equal_yes ES3 rZ (padd_neg p)
    have k6 := equal_yes ES4 rZ rfl
    have g1 := fill40 rp rq
    have g2 := fill60 rp rq rnq
    have g3 := fill40 rp rnp
    have p1 := rp.len
    have p2 := rq.len
    have p3 := rU.len
    have p4 := rV.len
    have p5 := ES1.len
    have p6 := ES2.len
    have p7 := ES3.len
    have p8 := ES4.len
    have p9 := rnq.len
    have p10 := rnp.len
    unfold decV at hP hQ hU hV
    generalize enc (padd p q) = E at *
    apply Exists.intro
    rw [evFun_fn (fn := a11) rfl]
    simp only [a11, ↓steps_chunk, envOf, quiet, cF, ↓pF, reduceCtorEq, Nat.reduceEqDiff, Int.reduceEq, fs_callW, fs_regionQ, quiet2_eq, lastOf_nil, lastOf_cons, List.take_succ_cons, List.take_zero, List.drop_succ_cons, List.drop_zero, Int.reduceBEq, Int.reduceBNe, ↓keepW_some, ↓qElseW_some, ↓guardW_tt, ↓guardW_ff, ↓guardW_tf, ↓guardW_ft, cL, Int.reduceLE, Int.reduceLT, Int.reduceAdd, Int.reduceMul, Int.reduceSub, Int.reduceTDiv, Int.reduceTMod, Int.reduceNeg, Int.reduceToNat, Int.reduceGT, Int.reduceGE, Int.reducePow, Nat.reduceAdd, Nat.reduceMul, Nat.reduceSub, Nat.reduceDiv, Nat.reduceMod, Nat.reducePow, Nat.reduceLT, Nat.reduceLeDiff, cJ, hbased, hP, hQ, hU, hV, hNQ, hNP, hZ, hD, hW, hS1, hS2, hS3, hS4, k1, k2, k3, k4, k5, k6, g1, g2, g3, hz20, hz2, List.length_replicate, take_all, eV_cells, eV_size, eV_ok, eV_fold, ns_len, u8s_len, la, lb, l0, lz2, p1, p2, p3, p4, p5, p6, p7, p8, p9, p10, rft, rf_eV]
    rfl
  · have p1 := rp.len
    have p2 := lQ
    unfold decV at hP hQ
    apply Exists.intro
    rw [evFun_fn (fn := a11) rfl]
    simp only [a11, ↓steps_chunk, envOf, quiet, cF, ↓pF, reduceCtorEq, Nat.reduceEqDiff, Int.reduceEq, fs_callW, fs_regionQ, quiet2_eq, lastOf_nil, lastOf_cons, List.take_succ_cons, List.take_zero, List.drop_succ_cons, List.drop_zero, Int.reduceBEq, Int.reduceBNe, ↓keepW_some, ↓qElseW_some, ↓guardW_tt, ↓guardW_ff, ↓guardW_tf, ↓guardW_ft, cL, Int.reduceLE, Int.reduceLT, Int.reduceAdd, Int.reduceMul, Int.reduceSub, Int.reduceTDiv, Int.reduceTMod, Int.reduceNeg, Int.reduceToNat, Int.reduceGT, Int.reduceGE, Int.reducePow, Nat.reduceAdd, Nat.reduceMul, Nat.reduceSub, Nat.reduceDiv, Nat.reduceMod, Nat.reducePow, Nat.reduceLT, Nat.reduceLeDiff, cJ, hbased, hP, hQ, hz20, List.length_replicate, take_all, eV_cells, eV_size, eV_ok, eV_fold, ns_len, u8s_len, la, lb, l0, p1, p2, rft, rf_eV]
    rfl
  · have p1 := lP
    have p2 := rq.len
    unfold decV at hP hQ
    apply Exists.intro
    rw [evFun_fn (fn := a11) rfl]
    simp only [a11, ↓steps_chunk, envOf, quiet, cF, ↓pF, reduceCtorEq, Nat.reduceEqDiff, Int.reduceEq, fs_callW, fs_regionQ, quiet2_eq, lastOf_nil, lastOf_cons, List.take_succ_cons, List.take_zero, List.drop_succ_cons, List.drop_zero, Int.reduceBEq, Int.reduceBNe, ↓keepW_some, ↓qElseW_some, ↓guardW_tt, ↓guardW_ff, ↓guardW_tf, ↓guardW_ft, cL, Int.reduceLE, Int.reduceLT, Int.reduceAdd, Int.reduceMul, Int.reduceSub, Int.reduceTDiv, Int.reduceTMod, Int.reduceNeg, Int.reduceToNat, Int.reduceGT, Int.reduceGE, Int.reducePow, Nat.reduceAdd, Nat.reduceMul, Nat.reduceSub, Nat.reduceDiv, Nat.reduceMod, Nat.reducePow, Nat.reduceLT, Nat.reduceLeDiff, cJ, hbased, hP, hQ, hz20, List.length_replicate, take_all, eV_cells, eV_size, eV_ok, eV_fold, ns_len, u8s_len, la, lb, l0, p1, p2, rft, rf_eV]
    rfl
  · have p1 := lP
    have p2 := lQ
    unfold decV at hP hQ
    apply Exists.intro
    rw [evFun_fn (fn := a11) rfl]
    simp only [a11, ↓steps_chunk, envOf, quiet, cF, ↓pF, reduceCtorEq, Nat.reduceEqDiff, Int.reduceEq, fs_callW, fs_regionQ, quiet2_eq, lastOf_nil, lastOf_cons, List.take_succ_cons, List.take_zero, List.drop_succ_cons, List.drop_zero, Int.reduceBEq, Int.reduceBNe, ↓keepW_some, ↓qElseW_some, ↓guardW_tt, ↓guardW_ff, ↓guardW_tf, ↓guardW_ft, cL, Int.reduceLE, Int.reduceLT, Int.reduceAdd, Int.reduceMul, Int.reduceSub, Int.reduceTDiv, Int.reduceTMod, Int.reduceNeg, Int.reduceToNat, Int.reduceGT, Int.reduceGE, Int.reducePow, Nat.reduceAdd, Nat.reduceMul, Nat.reduceSub, Nat.reduceDiv, Nat.reduceMod, Nat.reducePow, Nat.reduceLT, Nat.reduceLeDiff, cJ, hbased, hP, hQ, hz20, List.length_replicate, take_all, eV_cells, eV_size, eV_ok, eV_fold, ns_len, u8s_len, la, lb, l0, p1, p2, rft, rf_eV]
    rfl
end Go.Ev.Ytaceeoghjgggjaa

/- What the law leans on, part 5. -/
import Derived.Test.YtgacigcbglflkaaSLo4
set_option linter.unusedSimpArgs false
set_option linter.unusedVariables false
set_option linter.unusedSimpArgs false
set_option linter.unusedVariables false
namespace Go.Ev.Ytgacigcbglflkaa
open Go Go.Ev
attribute [local congr] bind_congr2 ite_congr2 qElse_congr gate_congr guardV_congr
set_option maxRecDepth 100000
def pwI (x k o : List Nat) (i : Int) (ex : Env) : St := ⟨[(2, .pointer (some ⟨0, 0, none⟩)), (3, .pointer (some ⟨1, 0, none⟩)), (4, .pointer (some ⟨2, 0, none⟩)), (5, .pointer (some ⟨3, 0, none⟩)), (6, .int .i64 i)] ++ ex, [⟨ns .u64 x, true, true, true, 1⟩, ⟨u8s k, true, true, true, 1⟩, ⟨ns .u64 [0, 0, 0, 0, 0], true, true, true, 1⟩, ⟨ns .u64 o, true, true, true, 1⟩], []⟩
theorem pow_step (a : Go.Fp.Fe) (m b : Nat) (hb : b < 2) : Go.Fp.pow a (2 * m + b) = if b = 1 then Go.Fp.pow a m * Go.Fp.pow a m * a else Go.Fp.pow a m * Go.Fp.pow a m := by
  have h1 : Go.Fp.pow a (2 * m) = Go.Fp.pow a m * Go.Fp.pow a m := by rw [show 2 * m = m + m by omega, Go.Fp.pow_add]
  by_cases h : b = 1
  · subst h
    rw [if_pos rfl, Go.Fp.pow, h1]
  · have : b = 0 := by omega
    subst this
    rw [if_neg (by decide), Nat.add_zero, h1]
theorem pw_body {x k o : List Nat} {i : Nat} {ex : Env} (hx : El x (2 ^ 52)) (lk : k.length = 32) (xk : ∀ x ∈ k, x < 256) (hi : i < 256) (ho : El o (2 ^ 52)) (hp : fe o = Go.Fp.pow (fe x) (num 256 k / 2 ^ (i + 1))) :
    ∃ r, evCode T 0 a83_l0 (pwI x k o i ex) = some (.normal, pwI x k r ((i : Int) - 1) []) ∧ El r (2 ^ 52) ∧ fe r = Go.Fp.pow (fe x) (num 256 k / 2 ^ i) := by
  obtain ⟨b, hb⟩ : ∃ b, k[i / 8]? = some b := ⟨_, List.getElem?_eq_getElem (by omega)⟩
  have hbv := num_get (B := 256) (by decide) xk hb
  have hbc := u8s_get hb
  have hbit : b / 2 ^ (i % 8) % 2 = num 256 k / 2 ^ i % 2 := by
    rw [← hbv, show (256 : Nat) = 2 ^ 8 from rfl, bitOf (Nat.mod_lt _ (by decide)), Nat.div_add_mod]
  obtain ⟨r1, m1, g1, g2⟩ := mul_ev ho ho
  obtain ⟨r2, m2, g3, g4⟩ := mul_ev g1 hx
  have hlt := bit_lt (num 256 k) i
  have hnum : num 256 k / 2 ^ i = 2 * (num 256 k / 2 ^ (i + 1)) + num 256 k / 2 ^ i % 2 := by
    rw [Nat.pow_succ, ← Nat.div_div_eq_div_mul]
    omega
  have hstep := pow_step (fe x) (num 256 k / 2 ^ (i + 1)) (num 256 k / 2 ^ i % 2) hlt
  rw [← hnum, ← hp] at hstep
  have s1 : (2 : Int) ^ min (i % 8) IntKind.u8.bits = ((2 ^ (i % 8) : Nat) : Int) := pow_min (Nat.le_of_lt (Nat.mod_lt _ (by decide)))
  have w2 : IntKind.i64.wrap ((i / 8 : Nat) : Int) = ((i / 8 : Nat) : Int) := wrap_nat (by omega)
  have w3 : IntKind.i64.wrap ((i : Int) - 1) = (i : Int) - 1 := wrapI64_small (by omega) (by omega)
  have e1 : ((0 : Int) ≤ (i : Int)) = True := eq_true (by omega)
  have e3 : (((i / 8 : Nat) : Int) < 32) = True := eq_true (by omega)
  have e4 : (((i % 8 : Nat) : Int) < 0) = False := eq_false (by omega)
  have l1 := hx.len
  have l2 := ho.len
  have l3 := g1.len
  have l4 := g3.len
  have l0 : ([0, 0, 0, 0, 0] : List Nat).length = 5 := rfl
  generalize hB : num 256 k / 2 ^ i % 2 = B at *
  by_cases hB1 : B = 1
  · have hbq : ((B : Int) == 1) = true := by rw [hB1]; rfl
    rw [if_pos hB1] at hstep
    refine ⟨r2, ?_, g3, by rw [hstep, g4, g2]⟩
    simp only [pwI, a83_l0, envOf, quiet, cF, ↓pF, reduceCtorEq, Nat.reduceEqDiff, Int.reduceEq, fs_callW, fs_regionP, ↓keepV_some, ↓qElse_some, ↓guardV_tt, ↓guardV_ff, ↓guardV_tf, ↓guardV_ft, cL, Int.reduceLE, Int.reduceLT, Int.reduceAdd, Int.reduceMul, Int.reduceSub, Int.reduceTDiv, Int.reduceTMod, Int.reduceNeg, Int.reduceToNat, Int.reduceGT, Int.reduceGE, Int.reducePow, Nat.reduceAdd, Nat.reduceMul, Nat.reduceSub, Nat.reduceDiv, Nat.reduceMod, Nat.reducePow, Nat.reduceLT, Nat.reduceLeDiff, cJ, cU, hbc, hbit, s1, w2, w3, e1, e3, e4, m1, m2, hbq, eV_cells, eV_size, eV_ok, eV_fold, ns_len, l1, l2, l3, l4, rf_eV]
  · have hbq : ((B : Int) == 1) = false := by
      have : B = 0 := by omega
      rw [this]; rfl
    rw [if_neg hB1] at hstep
    refine ⟨r1, ?_, g1, by rw [hstep, g2]⟩
    simp only [pwI, a83_l0, envOf, quiet, cF, ↓pF, reduceCtorEq, Nat.reduceEqDiff, Int.reduceEq, fs_callW, fs_regionP, ↓keepV_some, ↓qElse_some, ↓guardV_tt, ↓guardV_ff, ↓guardV_tf, ↓guardV_ft, cL, Int.reduceLE, Int.reduceLT, Int.reduceAdd, Int.reduceMul, Int.reduceSub, Int.reduceTDiv, Int.reduceTMod, Int.reduceNeg, Int.reduceToNat, Int.reduceGT, Int.reduceGE, Int.reducePow, Nat.reduceAdd, Nat.reduceMul, Nat.reduceSub, Nat.reduceDiv, Nat.reduceMod, Nat.reducePow, Nat.reduceLT, Nat.reduceLeDiff, cJ, cU, hbc, hbit, s1, w2, w3, e1, e3, e4, m1, m2, hbq, eV_cells, eV_size, eV_ok, eV_fold, ns_len, l1, l2, l3, l4, rf_eV]
theorem power_v {x k : List Nat} (hx : El x (2 ^ 52)) (lk : k.length = 32) (xk : ∀ x ∈ k, x < 256) : ∃ r, evVal T 61 [eV x, .agg (u8s k).toArray] = some (eV r) ∧ El r (2 ^ 52) ∧ fe r = Go.Fp.pow (fe x) (num 256 k) := by
  have hK := num_lt xk
  rw [lk, show (256 : Nat) ^ 32 = 2 ^ 256 from by rw [show (256 : Nat) = 2 ^ 8 from rfl, ← Nat.pow_mul]] at hK
  obtain ⟨st, hb, r, rfl, hr1, hr2⟩ := block_inv (T := T) (base := 0) (id := 0) (body := a83_l0)
    (fun j st => ∃ r : List Nat, st = pwI x k r ((255 : Int) - j) [] ∧ El r (2 ^ 52) ∧ fe r = Go.Fp.pow (fe x) (num 256 k / 2 ^ (256 - j)))
    (Q := fun st => ∃ r : List Nat, st = pwI x k r (-1) [(9, .bool false)] ∧ El r (2 ^ 52) ∧ fe r = Go.Fp.pow (fe x) (num 256 k))
    256 (s := pwI x k [1, 0, 0, 0, 0] 255 []) ⟨_, rfl, one_el, by rw [one_fe, Nat.sub_zero, Nat.div_eq_of_lt hK]; rfl⟩
    (fun j st hj hs => by
      obtain ⟨r, rfl, h1, h2⟩ := hs
      obtain ⟨i, hi⟩ : ∃ i, 256 - j = i + 1 := ⟨255 - j, by omega⟩
      rw [hi] at h2
      obtain ⟨r', g1, g2, g3⟩ := pw_body (ex := []) hx lk xk (i := i) (by omega) h1 h2
      rw [show (255 : Int) - j = (i : Int) by omega]
      refine ⟨_, g1, r', ?_, g2, ?_⟩
      · rw [show (255 : Int) - ((j + 1 : Nat) : Int) = (i : Int) - 1 by omega]
      · rw [show 256 - (j + 1) = i by omega]; exact g3)
    (fun st hs => by
      obtain ⟨r, rfl, h1, h2⟩ := hs
      rw [Nat.sub_self, Nat.pow_zero, Nat.div_one] at h2
      have e : ((0 : Int) ≤ -1) = False := by decide
      refine ⟨_, ?_, r, rfl, h1, h2⟩
      rw [show (255 : Int) - ((256 : Nat) : Int) = -1 by omega]
      simp only [pwI, a83_l0, envOf, quiet, cF, ↓pF, reduceCtorEq, Nat.reduceEqDiff, Int.reduceEq, fs_callW, fs_regionP, ↓keepV_some, ↓qElse_some, ↓guardV_tt, ↓guardV_ff, ↓guardV_tf, ↓guardV_ft, cL, Int.reduceLE, Int.reduceLT, Int.reduceAdd, Int.reduceMul, Int.reduceSub, Int.reduceTDiv, Int.reduceTMod, Int.reduceNeg, Int.reduceToNat, Int.reduceGT, Int.reduceGE, Int.reducePow, Nat.reduceAdd, Nat.reduceMul, Nat.reduceSub, Nat.reduceDiv, Nat.reduceMod, Nat.reducePow, Nat.reduceLT, Nat.reduceLeDiff, e])
  refine ⟨r, ?_, hr1, hr2⟩
  have hz5 : List.replicate 5 (Value.int .u64 0) = ns .u64 [0, 0, 0, 0, 0] := rfl
  have hs := small_v (n := 1) (by decide)
  have l2 : ([1, 0, 0, 0, 0] : List Nat).length = 5 := rfl
  have l0 : ([0, 0, 0, 0, 0] : List Nat).length = 5 := rfl
  have l1 := hx.len
  have l3 := hr1.len
  simp only [Int.natCast_one] at hs
  simp only [pwI, List.cons_append, List.nil_append] at hb
  apply evVal_ex
  apply Exists.intro
  rw [evFun_fn (fn := a83) rfl]
  simp only [a83, envOf, quiet, cF, ↓pF, reduceCtorEq, Nat.reduceEqDiff, Int.reduceEq, fs_callW, fs_regionP, ↓keepV_some, ↓qElse_some, ↓guardV_tt, ↓guardV_ff, ↓guardV_tf, ↓guardV_ft, cL, Int.reduceLE, Int.reduceLT, Int.reduceAdd, Int.reduceMul, Int.reduceSub, Int.reduceTDiv, Int.reduceTMod, Int.reduceNeg, Int.reduceToNat, Int.reduceGT, Int.reduceGE, Int.reducePow, Nat.reduceAdd, Nat.reduceMul, Nat.reduceSub, Nat.reduceDiv, Nat.reduceMod, Nat.reducePow, Nat.reduceLT, Nat.reduceLeDiff, cJ, hz5, hs, hb, pwI, eV_cells, eV_size, eV_ok, eV_fold, ns_len, l0, l1, l2, l3, rf_eV]
  rfl
def onX (i : Nat) : List Nat := dig (2 ^ 8) 32 (2 ^ i - 1)
def onI (less : Value) (n : Int) (k : List Nat) (i : Nat) (ex : Env) : St := ⟨[(1, less), (4, .pointer (some ⟨0, 0, none⟩)), (5, .pointer (some ⟨1, 0, none⟩)), (7, .int .i64 n), (8, .int .i64 i)] ++ ex, [⟨u8s (dig 256 32 0), true, true, true, 1⟩, ⟨u8s k, true, true, true, 1⟩], []⟩
theorem on_body {less : Value} {n i : Nat} (hn : n ≤ 256) (hi : i < n) : evCode T 0 a84_l0 (onI less n (onX i) i []) = some (.normal, onI less n (onX (i + 1)) (i + 1) []) := by
  have hlen : (onX i).length = 32 := dig_len _ _ _
  obtain ⟨y, hy⟩ : ∃ b, (onX i)[i / 8]? = some b := ⟨_, List.getElem?_eq_getElem (by omega)⟩
  have hyc := u8s_get hy
  have hy' : y < 2 ^ 8 := dig_lt (by decide) (List.mem_of_getElem? hy)
  have hsm : (2 : Nat) ^ (i % 8) ≤ 2 ^ 7 := Nat.pow_le_pow_right (by decide) (by have := Nat.mod_lt i (by decide : 0 < 8); omega)
  have hp : 0 < (2 : Nat) ^ i := Nat.pow_pos (by decide)
  have hput := dig_put (w := 8) (m := 32) (q := i / 8) (s := i % 8) (y := 1) (M := 2 ^ i - 1) (by omega) (Nat.mod_lt _ (by decide)) (by rw [Nat.div_add_mod]; omega) (by omega)
  rw [Nat.div_add_mod, show 2 ^ i - 1 + 1 * 2 ^ i = 2 ^ (i + 1) - 1 by rw [Nat.pow_succ]; omega] at hput
  have hgd : (dig (2 ^ 8) 32 (2 ^ i - 1)).getD (i / 8) 0 = y := by rw [List.getD_eq_getElem?_getD]; unfold onX at hy; rw [hy]; rfl
  rw [hgd, Nat.one_mul] at hput
  have hset := u8s_set (onX i) (i / 8) (y ||| 2 ^ (i % 8))
  rw [show (onX i).set (i / 8) (y ||| 2 ^ (i % 8)) = onX (i + 1) from hput] at hset
  have s1 : (2 : Int) ^ min (i % 8) IntKind.u8.bits = ((2 ^ (i % 8) : Nat) : Int) := pow_min (Nat.le_of_lt (Nat.mod_lt _ (by decide)))
  have o1 : bitsOp .or .u8 (y : Int) ((2 ^ (i % 8) : Nat) : Int) = ((y ||| 2 ^ (i % 8) : Nat) : Int) := bits_or rfl (by show _ < 256; omega) (by show _ < 256; omega)
  have n1 : (2 ^ (i % 8)) % 256 = 2 ^ (i % 8) := Nat.mod_eq_of_lt (Nat.lt_of_le_of_lt hsm (by decide))
  have w2 : IntKind.i64.wrap ((i / 8 : Nat) : Int) = ((i / 8 : Nat) : Int) := wrap_nat (by omega)
  have w3 : IntKind.i64.wrap ((i + 1 : Nat) : Int) = ((i + 1 : Nat) : Int) := wrap_nat (by omega)
  have e1 : ((i : Int) < (n : Int)) = True := eq_true (by omega)
  have e3 : (((i / 8 : Nat) : Int) < 32) = True := eq_true (by omega)
  have e4 : (((i % 8 : Nat) : Int) < 0) = False := eq_false (by omega)
  have e6 : i / 8 + 1 ≤ 32 := by omega
  have p1 : 1 * 2 ^ (i % 8) = 2 ^ (i % 8) := Nat.one_mul _
  simp only [onI, a84_l0, envOf, quiet, cF, ↓pF, reduceCtorEq, Nat.reduceEqDiff, Int.reduceEq, fs_callW, fs_regionP, ↓keepV_some, ↓qElse_some, ↓guardV_tt, ↓guardV_ff, ↓guardV_tf, ↓guardV_ft, cL, Int.reduceLE, Int.reduceLT, Int.reduceAdd, Int.reduceMul, Int.reduceSub, Int.reduceTDiv, Int.reduceTMod, Int.reduceNeg, Int.reduceToNat, Int.reduceGT, Int.reduceGE, Int.reducePow, Nat.reduceAdd, Nat.reduceMul, Nat.reduceSub, Nat.reduceDiv, Nat.reduceMod, Nat.reducePow, Nat.reduceLT, Nat.reduceLeDiff, cJ, cU, hyc, s1, o1, n1, w2, w3, e1, e3, e4, e6, p1, hset, u8s_len, hlen]
theorem ones_v {n less : Nat} (hn : n ≤ 256) (h8 : 8 ≤ n) (hl : less < 256) : evVal T 62 [.int .i64 n, .int .u8 less] = some (.agg (u8s (dig 256 32 (2 ^ n - 1 - less))).toArray) := by
  have hb := block_loop (T := T) (base := 0) (id := 0) (body := a84_l0) (fun i => onI (.int .u8 less) n (onX i) i []) (s' := onI (.int .u8 less) n (onX n) n [(9, .bool false)]) n (fun i hi => on_body hn hi) (by
    have e1 : ((n : Int) < (n : Int)) = False := eq_false (by omega)
    simp only [onI, a84_l0, envOf, quiet, cF, ↓pF, reduceCtorEq, Nat.reduceEqDiff, Int.reduceEq, fs_callW, fs_regionP, ↓keepV_some, ↓qElse_some, ↓guardV_tt, ↓guardV_ff, ↓guardV_tf, ↓guardV_ft, cL, Int.reduceLE, Int.reduceLT, Int.reduceAdd, Int.reduceMul, Int.reduceSub, Int.reduceTDiv, Int.reduceTMod, Int.reduceNeg, Int.reduceToNat, Int.reduceGT, Int.reduceGE, Int.reducePow, Nat.reduceAdd, Nat.reduceMul, Nat.reduceSub, Nat.reduceDiv, Nat.reduceMod, Nat.reducePow, Nat.reduceLT, Nat.reduceLeDiff, e1])
  rw [show onX 0 = dig 256 32 0 from rfl] at hb
  have hp8 : (256 : Nat) ≤ 2 ^ n := by
    have := Nat.pow_le_pow_right (n := 2) (by decide) h8
    exact this
  have hmod : 2 ^ n % 256 = 0 := by
    rw [show n = 8 + (n - 8) by omega, Nat.pow_add]; exact Nat.mul_mod_right _ _
  have h0 : (onX n)[0]? = some 255 := by
    unfold onX
    rw [dig_get (by decide), Nat.pow_zero, Nat.div_one]
    congr 1
    omega
  have h0c := u8s_get h0
  have w0 : IntKind.u8.wrap (255 - (less : Int)) = ((255 - less : Nat) : Int) := by rw [wrap_u8]; omega
  have hset := u8s_set (onX n) 0 (255 - less)
  have hfin : (onX n).set 0 (255 - less) = dig 256 32 (2 ^ n - 1 - less) := by
    apply dig_ext (by rw [List.length_set]; exact dig_len _ _ _)
    intro t ht
    by_cases h0t : t = 0
    · subst h0t
      rw [List.getElem?_set_self (by rw [show (onX n).length = 32 from dig_len _ _ _]; decide), Nat.pow_zero, Nat.div_one]
      congr 1
      omega
    · rw [List.getElem?_set_ne (Ne.symm h0t)]
      unfold onX
      rw [dig_get ht]
      congr 2
      obtain ⟨m, rfl⟩ : ∃ m, t = m + 1 := ⟨t - 1, by omega⟩
      rw [show (2 : Nat) ^ 8 = 256 from rfl, Nat.pow_succ, Nat.mul_comm, ← Nat.div_div_eq_div_mul, ← Nat.div_div_eq_div_mul]
      congr 1
      omega
  rw [hfin] at hset
  simp only [Int.cast_ofNat_Int] at h0c
  have l1 : (dig 256 32 (2 ^ n - 1 - less)).length = 32 := dig_len _ _ _
  have l2 : (onX n).length = 32 := dig_len _ _ _
  have l3 : (dig 256 32 0).length = 32 := rfl
  have hz32 : List.replicate 32 (Value.int .u8 0) = u8s (dig 256 32 0) := rfl
  simp only [onI, List.cons_append, List.nil_append, Int.natCast_zero] at hb
  apply evVal_ex
  apply Exists.intro
  rw [evFun_fn (fn := a84) rfl]
  simp only [a84, envOf, quiet, cF, ↓pF, reduceCtorEq, Nat.reduceEqDiff, Int.reduceEq, fs_callW, fs_regionP, ↓keepV_some, ↓qElse_some, ↓guardV_tt, ↓guardV_ff, ↓guardV_tf, ↓guardV_ft, cL, Int.reduceLE, Int.reduceLT, Int.reduceAdd, Int.reduceMul, Int.reduceSub, Int.reduceTDiv, Int.reduceTMod, Int.reduceNeg, Int.reduceToNat, Int.reduceGT, Int.reduceGE, Int.reducePow, Nat.reduceAdd, Nat.reduceMul, Nat.reduceSub, Nat.reduceDiv, Nat.reduceMod, Nat.reducePow, Nat.reduceLT, Nat.reduceLeDiff, cJ, hz32, hb, onI, h0c, w0, hset, u8s_len, l1, l2, l3]
  rfl
theorem dig32_lt {v : Nat} : ∀ x ∈ dig 256 32 v, x < 256 := fun _ h => dig_lt (by decide) h
theorem power_ones {x : List Nat} {n less : Nat} (hx : El x (2 ^ 52)) (hn : n ≤ 256) (h8 : 8 ≤ n) (hl : less < 256) : ∃ r, evVal T 61 [eV x, .agg (u8s (dig 256 32 (2 ^ n - 1 - less))).toArray] = some (eV r) ∧ El r (2 ^ 52) ∧ fe r = Go.Fp.pow (fe x) (2 ^ n - 1 - less) := by
  obtain ⟨r, h1, h2, h3⟩ := power_v (k := dig 256 32 (2 ^ n - 1 - less)) hx (dig_len _ _ _) dig32_lt
  refine ⟨r, h1, h2, ?_⟩
  rw [h3, num_dig (by decide), Nat.mod_eq_of_lt]
  have h4 : (2 : Nat) ^ n ≤ 256 ^ 32 := by
    rw [show (256 : Nat) ^ 32 = 2 ^ 256 from by rw [show (256 : Nat) = 2 ^ 8 from rfl, ← Nat.pow_mul]]
    exact Nat.pow_le_pow_right (by decide) hn
  have : 0 < (2 : Nat) ^ n := Nat.pow_pos (by decide)
  omega
theorem invert_v {x : List Nat} (hx : El x (2 ^ 52)) : ∃ r, evVal T 34 [eV x] = some (eV r) ∧ El r (2 ^ 52) ∧ fe r = Go.Fp.iv (fe x) := by
  have h1 := ones_v (n := 255) (less := 20) (by decide) (by decide) (by decide)
  obtain ⟨r, h2, h3, h4⟩ := power_ones (n := 255) (less := 20) hx (by decide) (by decide) (by decide)
  refine ⟨r, ?_, h3, ?_⟩
  · have hz5 : List.replicate 5 (Value.int .u64 0) = ns .u64 [0, 0, 0, 0, 0] := rfl
    have l0 : ([0, 0, 0, 0, 0] : List Nat).length = 5 := rfl
    have l1 := hx.len
    have l2 := h3.len
    simp only [Int.cast_ofNat_Int] at h1
    generalize dig 256 32 (2 ^ 255 - 1 - 20) = K at *
    apply evVal_ex
    apply Exists.intro
    rw [evFun_fn (fn := a56) rfl]
    simp only [a56, envOf, quiet, cF, ↓pF, reduceCtorEq, Nat.reduceEqDiff, Int.reduceEq, fs_callW, fs_regionP, ↓keepV_some, ↓qElse_some, ↓guardV_tt, ↓guardV_ff, ↓guardV_tf, ↓guardV_ft, cL, Int.reduceLE, Int.reduceLT, Int.reduceAdd, Int.reduceMul, Int.reduceSub, Int.reduceTDiv, Int.reduceTMod, Int.reduceNeg, Int.reduceToNat, Int.reduceGT, Int.reduceGE, Int.reducePow, Nat.reduceAdd, Nat.reduceMul, Nat.reduceSub, Nat.reduceDiv, Nat.reduceMod, Nat.reducePow, Nat.reduceLT, Nat.reduceLeDiff, cJ, hz5, h1, h2, eV_cells, eV_size, eV_ok, eV_fold, ns_len, l0, l1, l2, rf_eV]
    rfl
  · rw [h4]
    unfold Go.Fp.iv
    rw [Go.Fp.P_eq]
end Go.Ev.Ytgacigcbglflkaa
set_option linter.unusedSimpArgs false
set_option linter.unusedVariables false
namespace Go.Ev
section
variable {T : Tab} {b : Nat}
theorem evOps_append : ∀ (o1 o2 : List AOper) (s : St) (recs : List Rec), evOps T b (o1 ++ o2) s recs = (evOps T b o1 s recs).bind fun r => evOps T b o2 r.1 r.2
  | [], o2, s, recs => by rw [evOps_nil]; rfl
  | o :: o1, o2, s, recs => by
    rw [List.cons_append, evOps_cons, evOps_cons]
    cases hg : guardOf s.env o.guard with
    | none => rfl
    | some g =>
      cases g with
      | false => exact evOps_append o1 o2 _ _
      | true =>
        cases hx : evOper T o.op s.env s.h with
        | none => simp [hx]
        | some x =>
          simp only [hx, Option.bind_some]
          exact evOps_append o1 o2 _ _
theorem evOps_more : ∀ (ops : List AOper) (s : St) (recs : List Rec) (s' : St), steps T b false ops s = some s' → ∃ m, evOps T b ops s recs = some (s', recs ++ m)
  | [], s, recs, s', h => by
    simp only [steps, Option.some.injEq] at h
    subst h
    exact ⟨[], by rw [evOps_nil, List.append_nil]⟩
  | o :: r, s, recs, s', h => by
    rw [evOps_cons]
    unfold steps at h
    cases hg : guardOf s.env o.guard with
    | none => simp only [hg] at h; cases h
    | some g =>
      simp only [hg] at h
      cases g with
      | false =>
        obtain ⟨m, h1⟩ := evOps_more r _ (recs ++ [(some [], [])]) s' h
        exact ⟨(some [], []) :: m, by rw [h1]; simp⟩
      | true =>
        cases hx : evOper T o.op s.env s.h with
        | none => simp [hx] at h
        | some x =>
          simp only [hx, Option.bind_some, Bool.false_and, Bool.false_eq_true, if_false] at h
          obtain ⟨m, h1⟩ := evOps_more r _ (recs ++ [(x.2.2.1, x.2.2.2)]) s' h
          exact ⟨(x.2.2.1, x.2.2.2) :: m, by simp only [hx, Option.bind_some]; rw [h1]; simp⟩
theorem pairsOk_app {r1 r2 : List Rec} : ∀ {pairs : List (Nat × Nat)}, (pairs.all fun p => decide (p.1 < r1.length) && decide (p.2 < r1.length)) = true → pairsOk r1 pairs = true → pairsOk (r1 ++ r2) pairs = true
  | [], _, _ => rfl
  | (i, j) :: ps, h, k => by
    simp only [List.all_cons, Bool.and_eq_true, decide_eq_true_eq] at h
    simp only [pairsOk, List.all_cons, Bool.and_eq_true] at k ⊢
    have ih := pairsOk_app (r1 := r1) (r2 := r2) (pairs := ps) h.2 k.2
    simp only [pairsOk] at ih
    refine ⟨?_, ih⟩
    rw [List.getElem?_append_left h.1.1, List.getElem?_append_left h.1.2]
    exact k.1
def lastOf : List (Nat × Nat) → Nat
  | [] => 0
  | (_, j) :: r => if j + 1 ≤ lastOf r then lastOf r else j + 1
theorem lastOf_nil : lastOf [] = 0 := rfl
theorem lastOf_cons {i j : Nat} {r : List (Nat × Nat)} : lastOf ((i, j) :: r) = if j + 1 ≤ lastOf r then lastOf r else j + 1 := rfl
def quiet2 (T : Tab) (b : Nat) (ops : List AOper) (pairs : List (Nat × Nat)) (s : St) : Option St :=
  gate ((pairs.all fun p => decide (p.1 < lastOf pairs) && decide (p.2 < lastOf pairs)) = true ∧ lastOf pairs ≤ ops.length)
    ((steps T b true (ops.take (lastOf pairs)) s).bind fun s1 => steps T b false (ops.drop (lastOf pairs)) s1)
theorem quiet2_eq {ops : List AOper} {pairs : List (Nat × Nat)} {s : St} : quiet2 T b ops pairs s = gate ((pairs.all fun p => decide (p.1 < lastOf pairs) && decide (p.2 < lastOf pairs)) = true ∧ lastOf pairs ≤ ops.length)
    ((steps T b true (ops.take (lastOf pairs)) s).bind fun s1 => steps T b false (ops.drop (lastOf pairs)) s1) := Eq.trans rfl rfl
theorem fs_regionQ {ops : List AOper} {keep : Option (List Nat)} {p : Nat × Nat} {ps : List (Nat × Nat)} {s : St} : evCode T b (.region ops keep (p :: ps)) s = qElse ((quiet2 T b ops (p :: ps) s).bind fun s' => some (.normal, s'.after keep)) (inText T b (.region ops keep (p :: ps)) s) := by
  cases hq : quiet2 T b ops (p :: ps) s with
  | none => rfl
  | some s' =>
    simp only [Option.bind_some, qElse]
    unfold quiet2 gate at hq
    split at hq
    · rename_i hp
      simp only [Option.bind_eq_some_iff] at hq
      obtain ⟨s1, k1, k2⟩ := hq
      obtain ⟨recs, h1, h2, h3⟩ := evOps_quiet _ s [] s1 k1 (by simp)
      obtain ⟨m, h4⟩ := evOps_more _ s1 recs s' k2
      simp only [List.length_nil, Nat.zero_add, List.length_take, Nat.min_eq_left hp.2] at h3
      rw [evCode_region]
      conv => lhs; rw [← List.take_append_drop (lastOf (p :: ps)) ops]
      rw [evOps_append, h1]
      simp only [Option.bind_some, h4]
      have hpk := hp.1
      rw [← h3] at hpk
      rw [if_pos (pairsOk_app hpk (pairsOk_quiet h2 hpk))]
    · cases hq
end
end Go.Ev
set_option linter.unusedSimpArgs false
set_option linter.unusedVariables false
namespace Go.Ev.Ytgacigcbglflkaa
open Go Go.Ev
attribute [local congr] bind_congr2 ite_congr2 qElse_congr gate_congr guardV_congr
set_option maxRecDepth 100000
theorem take_all {cs : List Value} {n : Nat} (h : cs.length = n) : cs.take n = cs := List.take_of_length_le (by omega)
def pL (x y z t : List Nat) : List Nat := x ++ (y ++ (z ++ t))
def pV (x y z t : List Nat) : Value := .agg (ns .u64 (pL x y z t)).toArray
theorem rf_pV (x y z t : List Nat) : rf (pV x y z t) = true := rf_ns _ _
theorem pV_cells (x y z t : List Nat) : (pV x y z t).cells.toList = ns .u64 (pL x y z t) := rfl
theorem pV_size (x y z t : List Nat) : (pV x y z t).cells.size = (pL x y z t).length := ns_len _ _
theorem pV_ok (x y z t : List Nat) : okVar (pV x y z t) = true := rfl
theorem pV_fold (x y z t : List Nat) : Value.agg (ns .u64 (pL x y z t)).toArray = pV x y z t := rfl
theorem pL_len {x y z t : List Nat} {b : Nat} (hx : El x b) (hy : El y b) (hz : El z b) (ht : El t b) : (pL x y z t).length = 20 := by
  simp [pL, hx.len, hy.len, hz.len, ht.len]
theorem quad {x y z t : List Nat} {b : Nat} (hx : El x b) (hy : El y b) (hz : El z b) (ht : El t b) :
    List.take 5 (ns .u64 (pL x y z t)) = ns .u64 x ∧ List.take 5 (List.drop 5 (ns .u64 (pL x y z t))) = ns .u64 y ∧ List.take 5 (List.drop 10 (ns .u64 (pL x y z t))) = ns .u64 z ∧ List.take 5 (List.drop 15 (ns .u64 (pL x y z t))) = ns .u64 t := by
  obtain ⟨a0, a1, a2, a3, a4, rfl, -⟩ := hx.five
  obtain ⟨b0, b1, b2, b3, b4, rfl, -⟩ := hy.five
  obtain ⟨c0, c1, c2, c3, c4, rfl, -⟩ := hz.five
  obtain ⟨d0, d1, d2, d3, d4, rfl, -⟩ := ht.five
  exact ⟨rfl, rfl, rfl, rfl⟩
theorem fill2 {a b : List Nat} {k : Nat} (ha : El a k) (hb : El b k) : fillL (List.replicate 10 (Value.int .u64 0)) [(0, 5, eV a), (5, 5, eV b)] = some (ns .u64 (a ++ b)) := by
  obtain ⟨a0, a1, a2, a3, a4, rfl, -⟩ := ha.five
  obtain ⟨b0, b1, b2, b3, b4, rfl, -⟩ := hb.five
  rfl
theorem fill3 {a b c : List Nat} {k : Nat} (ha : El a k) (hb : El b k) (hc : El c k) : fillL (List.replicate 15 (Value.int .u64 0)) [(0, 5, eV a), (5, 5, eV b), (10, 5, eV c)] = some (ns .u64 [a, b, c].flatten) := by
  obtain ⟨a0, a1, a2, a3, a4, rfl, -⟩ := ha.five
  obtain ⟨b0, b1, b2, b3, b4, rfl, -⟩ := hb.five
  obtain ⟨c0, c1, c2, c3, c4, rfl, -⟩ := hc.five
  rfl
theorem fill4 {a b c d : List Nat} {k : Nat} (ha : El a k) (hb : El b k) (hc : El c k) (hd : El d k) : fillL (List.replicate 20 (Value.int .u64 0)) [(0, 5, eV a), (5, 5, eV b), (10, 5, eV c), (15, 5, eV d)] = some (ns .u64 (pL a b c d)) := by
  obtain ⟨a0, a1, a2, a3, a4, rfl, -⟩ := ha.five
  obtain ⟨b0, b1, b2, b3, b4, rfl, -⟩ := hb.five
  obtain ⟨c0, c1, c2, c3, c4, rfl, -⟩ := hc.five
  obtain ⟨d0, d1, d2, d3, d4, rfl, -⟩ := hd.five
  rfl
theorem pL_flat (a b c d : List Nat) : pL a b c d = [a, b, c, d].flatten := by simp [pL]
theorem two_E : El [2, 0, 0, 0, 0] (2 ^ 52) := small_el (by decide)
theorem two_v : evVal T 28 [.int .u32 2] = some (eV [2, 0, 0, 0, 0]) := small_v (n := 2) (by decide)
theorem two_fe : fe [2, 0, 0, 0, 0] = 2 := by rw [small_fe]; rfl
theorem plus_v {x1 y1 z1 t1 x2 y2 z2 t2 d : List Nat} (Ex1 : El x1 (2 ^ 52)) (Ey1 : El y1 (2 ^ 52)) (Ez1 : El z1 (2 ^ 52)) (Et1 : El t1 (2 ^ 52)) (Ex2 : El x2 (2 ^ 52)) (Ey2 : El y2 (2 ^ 52)) (Ez2 : El z2 (2 ^ 52)) (Et2 : El t2 (2 ^ 52)) (Ed : El d (2 ^ 52)) :
    ∃ x y z t, evVal T 33 [pV x1 y1 z1 t1, pV x2 y2 z2 t2, eV d] = some (pV x y z t) ∧ El x (2 ^ 52) ∧ El y (2 ^ 52) ∧ El z (2 ^ 52) ∧ El t (2 ^ 52) ∧
      ∃ a b c e : Go.Fp.Fe, a = (fe y1 - fe x1) * (fe y2 - fe x2) ∧ b = (fe y1 + fe x1) * (fe y2 + fe x2) ∧ c = 1 * 2 * fe d * fe t1 * fe t2 ∧ e = 1 * 2 * fe z1 * fe z2 ∧
        fe x = (b - a) * (e - c) ∧ fe y = (e + c) * (b + a) ∧ fe z = (e - c) * (e + c) ∧ fe t = (b - a) * (b + a) := by
  obtain ⟨two, htwo⟩ : ∃ two : List Nat, two = [2, 0, 0, 0, 0] := ⟨_, rfl⟩
  have Etwo : El two (2 ^ 52) := by rw [htwo]; exact two_E
  have vtwo : evVal T 28 [.int .u32 2] = some (eV two) := by rw [htwo]; exact two_v
  have ftwo : fe two = 2 := by rw [htwo]; exact two_fe
  clear htwo
  obtain ⟨r1, hr1, Er1, fr1⟩ := sub_v Ey1 Ex1
  obtain ⟨r2, hr2, Er2, fr2⟩ := sub_v Ey2 Ex2
  obtain ⟨r3, hr3, Er3, fr3⟩ := mul_ev Er1 Er2
  obtain ⟨r4, sr4, hr4, Er4, fr4⟩ := add2_ev (H := [⟨ns .u64 (pL x1 y1 z1 t1), true, true, true, 1⟩, ⟨ns .u64 (pL x2 y2 z2 t2), true, true, true, 1⟩, ⟨ns .u64 d, true, true, true, 1⟩, ⟨List.replicate 20 (.int .u64 0), true, true, true, 1⟩, ⟨ns .u64 r3, true, true, true, 1⟩, ⟨ns .u64 (y1 ++ x1), true, true, true, 1⟩]) (id := 5) Ey1 Ex1 rfl
  simp only [List.cons_append, List.nil_append] at hr4
  obtain ⟨r5, sr5, hr5, Er5, fr5⟩ := add2_ev (H := [⟨ns .u64 (pL x1 y1 z1 t1), true, true, true, 1⟩, ⟨ns .u64 (pL x2 y2 z2 t2), true, true, true, 1⟩, ⟨ns .u64 d, true, true, true, 1⟩, ⟨List.replicate 20 (.int .u64 0), true, true, true, 1⟩, ⟨ns .u64 r3, true, true, true, 1⟩, ⟨ns .u64 (y1 ++ x1), true, true, true, 1⟩, ⟨ns .u64 r4, true, true, true, 1⟩, ⟨ns .u64 sr4, true, true, true, 1⟩, ⟨ns .u64 y1, true, true, true, 1⟩, ⟨ns .u64 x1, true, true, true, 1⟩, ⟨ns .u64 (y2 ++ x2), true, true, true, 1⟩]) (id := 10) Ey2 Ex2 rfl
  simp only [List.cons_append, List.nil_append] at hr5
  obtain ⟨r6, hr6, Er6, fr6⟩ := mul_ev Er4 Er5
  obtain ⟨r7, hr7, Er7, fr7⟩ := prod_ev (H := [⟨ns .u64 (pL x1 y1 z1 t1), true, true, true, 1⟩, ⟨ns .u64 (pL x2 y2 z2 t2), true, true, true, 1⟩, ⟨ns .u64 d, true, true, true, 1⟩, ⟨List.replicate 20 (.int .u64 0), true, true, true, 1⟩, ⟨ns .u64 r3, true, true, true, 1⟩, ⟨ns .u64 (y1 ++ x1), true, true, true, 1⟩, ⟨ns .u64 r4, true, true, true, 1⟩, ⟨ns .u64 sr4, true, true, true, 1⟩, ⟨ns .u64 y1, true, true, true, 1⟩, ⟨ns .u64 x1, true, true, true, 1⟩, ⟨ns .u64 (y2 ++ x2), true, true, true, 1⟩, ⟨ns .u64 r5, true, true, true, 1⟩, ⟨ns .u64 sr5, true, true, true, 1⟩, ⟨ns .u64 y2, true, true, true, 1⟩, ⟨ns .u64 x2, true, true, true, 1⟩, ⟨ns .u64 r6, true, true, true, 1⟩, ⟨ns .u64 [two, d, t1, t2].flatten, true, true, true, 1⟩]) (id := 16) (n := 4) (xs := [two, d, t1, t2]) rfl (by decide) (by intro w hw; simp only [List.mem_cons, List.not_mem_nil, or_false] at hw; rcases hw with rfl | rfl | rfl | rfl <;> assumption) rfl
  simp only [List.cons_append, List.nil_append, List.map_cons, List.map_nil, List.foldl_cons, List.foldl_nil] at hr7 fr7
  obtain ⟨r8, hr8, Er8, fr8⟩ := prod_ev (H := [⟨ns .u64 (pL x1 y1 z1 t1), true, true, true, 1⟩, ⟨ns .u64 (pL x2 y2 z2 t2), true, true, true, 1⟩, ⟨ns .u64 d, true, true, true, 1⟩, ⟨List.replicate 20 (.int .u64 0), true, true, true, 1⟩, ⟨ns .u64 r3, true, true, true, 1⟩, ⟨ns .u64 (y1 ++ x1), true, true, true, 1⟩, ⟨ns .u64 r4, true, true, true, 1⟩, ⟨ns .u64 sr4, true, true, true, 1⟩, ⟨ns .u64 y1, true, true, true, 1⟩, ⟨ns .u64 x1, true, true, true, 1⟩, ⟨ns .u64 (y2 ++ x2), true, true, true, 1⟩, ⟨ns .u64 r5, true, true, true, 1⟩, ⟨ns .u64 sr5, true, true, true, 1⟩, ⟨ns .u64 y2, true, true, true, 1⟩, ⟨ns .u64 x2, true, true, true, 1⟩, ⟨ns .u64 r6, true, true, true, 1⟩, ⟨ns .u64 [two, d, t1, t2].flatten, true, true, true, 1⟩, ⟨ns .u64 r7, true, true, true, 1⟩, ⟨ns .u64 r7, true, true, true, 1⟩, ⟨ns .u64 two, true, true, true, 1⟩, ⟨ns .u64 d, true, true, true, 1⟩, ⟨ns .u64 t1, true, true, true, 1⟩, ⟨ns .u64 t2, true, true, true, 1⟩, ⟨ns .u64 r7, true, true, true, 1⟩, ⟨ns .u64 [two, z1, z2].flatten, true, true, true, 1⟩]) (id := 24) (n := 3) (xs := [two, z1, z2]) rfl (by decide) (by intro w hw; simp only [List.mem_cons, List.not_mem_nil, or_false] at hw; rcases hw with rfl | rfl | rfl <;> assumption) rfl
  simp only [List.cons_append, List.nil_append, List.map_cons, List.map_nil, List.foldl_cons, List.foldl_nil] at hr8 fr8
  obtain ⟨r9, hr9, Er9, fr9⟩ := sub_v Er6 Er3
  obtain ⟨r10, hr10, Er10, fr10⟩ := sub_v Er8 Er7
  obtain ⟨r11, sr11, hr11, Er11, fr11⟩ := add2_ev (H := [⟨ns .u64 (pL x1 y1 z1 t1), true, true, true, 1⟩, ⟨ns .u64 (pL x2 y2 z2 t2), true, true, true, 1⟩, ⟨ns .u64 d, true, true, true, 1⟩, ⟨List.replicate 20 (.int .u64 0), true, true, true, 1⟩, ⟨ns .u64 r3, true, true, true, 1⟩, ⟨ns .u64 (y1 ++ x1), true, true, true, 1⟩, ⟨ns .u64 r4, true, true, true, 1⟩, ⟨ns .u64 sr4, true, true, true, 1⟩, ⟨ns .u64 y1, true, true, true, 1⟩, ⟨ns .u64 x1, true, true, true, 1⟩, ⟨ns .u64 (y2 ++ x2), true, true, true, 1⟩, ⟨ns .u64 r5, true, true, true, 1⟩, ⟨ns .u64 sr5, true, true, true, 1⟩, ⟨ns .u64 y2, true, true, true, 1⟩, ⟨ns .u64 x2, true, true, true, 1⟩, ⟨ns .u64 r6, true, true, true, 1⟩, ⟨ns .u64 [two, d, t1, t2].flatten, true, true, true, 1⟩, ⟨ns .u64 r7, true, true, true, 1⟩, ⟨ns .u64 r7, true, true, true, 1⟩, ⟨ns .u64 two, true, true, true, 1⟩, ⟨ns .u64 d, true, true, true, 1⟩, ⟨ns .u64 t1, true, true, true, 1⟩, ⟨ns .u64 t2, true, true, true, 1⟩, ⟨ns .u64 r7, true, true, true, 1⟩, ⟨ns .u64 [two, z1, z2].flatten, true, true, true, 1⟩, ⟨ns .u64 r8, true, true, true, 1⟩, ⟨ns .u64 r8, true, true, true, 1⟩, ⟨ns .u64 two, true, true, true, 1⟩, ⟨ns .u64 z1, true, true, true, 1⟩, ⟨ns .u64 z2, true, true, true, 1⟩, ⟨ns .u64 r8, true, true, true, 1⟩, ⟨ns .u64 (r8 ++ r7), true, true, true, 1⟩]) (id := 31) Er8 Er7 rfl
  simp only [List.cons_append, List.nil_append] at hr11
  obtain ⟨r12, sr12, hr12, Er12, fr12⟩ := add2_ev (H := [⟨ns .u64 (pL x1 y1 z1 t1), true, true, true, 1⟩, ⟨ns .u64 (pL x2 y2 z2 t2), true, true, true, 1⟩, ⟨ns .u64 d, true, true, true, 1⟩, ⟨List.replicate 20 (.int .u64 0), true, true, true, 1⟩, ⟨ns .u64 r3, true, true, true, 1⟩, ⟨ns .u64 (y1 ++ x1), true, true, true, 1⟩, ⟨ns .u64 r4, true, true, true, 1⟩, ⟨ns .u64 sr4, true, true, true, 1⟩, ⟨ns .u64 y1, true, true, true, 1⟩, ⟨ns .u64 x1, true, true, true, 1⟩, ⟨ns .u64 (y2 ++ x2), true, true, true, 1⟩, ⟨ns .u64 r5, true, true, true, 1⟩, ⟨ns .u64 sr5, true, true, true, 1⟩, ⟨ns .u64 y2, true, true, true, 1⟩, ⟨ns .u64 x2, true, true, true, 1⟩, ⟨ns .u64 r6, true, true, true, 1⟩, ⟨ns .u64 [two, d, t1, t2].flatten, true, true, true, 1⟩, ⟨ns .u64 r7, true, true, true, 1⟩, ⟨ns .u64 r7, true, true, true, 1⟩, ⟨ns .u64 two, true, true, true, 1⟩, ⟨ns .u64 d, true, true, true, 1⟩, ⟨ns .u64 t1, true, true, true, 1⟩, ⟨ns .u64 t2, true, true, true, 1⟩, ⟨ns .u64 r7, true, true, true, 1⟩, ⟨ns .u64 [two, z1, z2].flatten, true, true, true, 1⟩, ⟨ns .u64 r8, true, true, true, 1⟩, ⟨ns .u64 r8, true, true, true, 1⟩, ⟨ns .u64 two, true, true, true, 1⟩, ⟨ns .u64 z1, true, true, true, 1⟩, ⟨ns .u64 z2, true, true, true, 1⟩, ⟨ns .u64 r8, true, true, true, 1⟩, ⟨ns .u64 (r8 ++ r7), true, true, true, 1⟩, ⟨ns .u64 r11, true, true, true, 1⟩, ⟨ns .u64 sr11, true, true, true, 1⟩, ⟨ns .u64 r8, true, true, true, 1⟩, ⟨ns .u64 r7, true, true, true, 1⟩, ⟨ns .u64 (r6 ++ r3), true, true, true, 1⟩]) (id := 36) Er6 Er3 rfl
  simp only [List.cons_append, List.nil_append] at hr12
  obtain ⟨r13, hr13, Er13, fr13⟩ := mul_ev Er9 Er10
  obtain ⟨r14, hr14, Er14, fr14⟩ := mul_ev Er11 Er12
  obtain ⟨r15, hr15, Er15, fr15⟩ := mul_ev Er10 Er11
  obtain ⟨r16, hr16, Er16, fr16⟩ := mul_ev Er9 Er12
  refine ⟨r13, r14, r15, r16, ?_, Er13, Er14, Er15, Er16, fe r3, fe r6, fe r7, fe r8, ?_⟩
  · obtain ⟨q10, q11, q12, q13⟩ := quad Ex1 Ey1 Ez1 Et1
    obtain ⟨q20, q21, q22, q23⟩ := quad Ex2 Ey2 Ez2 Et2
    have p1 := pL_len Ex1 Ey1 Ez1 Et1
    have p2 := pL_len Ex2 Ey2 Ez2 Et2
    have p3 := pL_len Er13 Er14 Er15 Er16
    have k4 := fill4 Etwo Ed Et1 Et2
    rw [pL_flat] at k4
    have k3 := fill3 Etwo Ez1 Ez2
    have kp := fill4 Er13 Er14 Er15 Er16
    have m1 := fill2 Ey1 Ex1
    have m2 := fill2 Ey2 Ex2
    have m3 := fill2 Er8 Er7
    have m4 := fill2 Er6 Er3
    have Lx1 := Ex1.len
    have Ly1 := Ey1.len
    have Lz1 := Ez1.len
    have Lt1 := Et1.len
    have Lx2 := Ex2.len
    have Ly2 := Ey2.len
    have Lz2 := Ez2.len
    have Lt2 := Et2.len
    have Ld := Ed.len
    have Ltwo := Etwo.len
    have Lr1 := Er1.len
    have Lr2 := Er2.len
    have Lr3 := Er3.len
    have Lr4 := Er4.len
    have Lr5 := Er5.len
    have Lr6 := Er6.len
    have Lr7 := Er7.len
    have Lr8 := Er8.len
    have Lr9 := Er9.len
    have Lr10 := Er10.len
    have Lr11 := Er11.len
    have Lr12 := Er12.len
    have Lr13 := Er13.len
    have Lr14 := Er14.len
    have Lr15 := Er15.len
    have Lr16 := Er16.len
    apply evVal_ex
    apply Exists.intro
    rw [evFun_fn (fn := a54) rfl]
    simp only [a54, envOf, quiet, cF, ↓pF, reduceCtorEq, Nat.reduceEqDiff, Int.reduceEq, fs_callW, fs_regionQ, quiet2_eq, lastOf_nil, lastOf_cons, List.take_succ_cons, List.take_zero, List.drop_succ_cons, List.drop_zero, Int.reduceBEq, Int.reduceBNe, ↓keepV_some, ↓qElse_some, ↓guardV_tt, ↓guardV_ff, ↓guardV_tf, ↓guardV_ft, cL, Int.reduceLE, Int.reduceLT, Int.reduceAdd, Int.reduceMul, Int.reduceSub, Int.reduceTDiv, Int.reduceTMod, Int.reduceNeg, Int.reduceToNat, Int.reduceGT, Int.reduceGE, Int.reducePow, Nat.reduceAdd, Nat.reduceMul, Nat.reduceSub, Nat.reduceDiv, Nat.reduceMod, Nat.reducePow, Nat.reduceLT, Nat.reduceLeDiff, cJ, List.length_replicate, take_all, pV_cells, pV_size, pV_ok, pV_fold, rf_pV, eV_cells, eV_size, eV_ok, eV_fold, rf_eV, ns_len, q10, q11, q12, q13, q20, q21, q22, q23, p1, p2, p3, k4, k3, kp, m1, m2, m3, m4, vtwo, hr1, hr2, hr3, hr4, hr5, hr6, hr7, hr8, hr9, hr10, hr11, hr12, hr13, hr14, hr15, hr16, Lx1, Ly1, Lz1, Lt1, Lx2, Ly2, Lz2, Lt2, Ld, Ltwo, Lr1, Lr2, Lr3, Lr4, Lr5, Lr6, Lr7, Lr8, Lr9, Lr10, Lr11, Lr12, Lr13, Lr14, Lr15, Lr16]
    rfl
  · refine ⟨?_, ?_, ?_, ?_, ?_, ?_, ?_, ?_⟩
    · rw [fr3, fr1, fr2]
    · rw [fr6, fr4, fr5]
    · rw [fr7, ftwo]
    · rw [fr8, ftwo]
    · rw [fr13, fr9, fr10]
    · rw [fr14, fr11, fr12]
    · rw [fr15, fr10, fr11]
    · rw [fr16, fr9, fr12]
end Go.Ev.Ytgacigcbglflkaa
set_option linter.unusedSimpArgs false
set_option linter.unusedVariables false
namespace Go.Ev.Ytgacigcbglflkaa
open Go Go.Ev
attribute [local congr] bind_congr2 ite_congr2 qElse_congr gate_congr guardV_congr
set_option maxRecDepth 100000
theorem twice_v {x1 y1 z1 t1 : List Nat} (Ex1 : El x1 (2 ^ 52)) (Ey1 : El y1 (2 ^ 52)) (Ez1 : El z1 (2 ^ 52)) (Et1 : El t1 (2 ^ 52)) :
    ∃ x y z t, evVal T 32 [pV x1 y1 z1 t1] = some (pV x y z t) ∧ El x (2 ^ 52) ∧ El y (2 ^ 52) ∧ El z (2 ^ 52) ∧ El t (2 ^ 52) ∧
      ∃ a b c h e g f : Go.Fp.Fe, a = fe x1 * fe x1 ∧ b = fe y1 * fe y1 ∧ c = 1 * 2 * fe z1 * fe z1 ∧ h = a + b ∧ e = h - (fe x1 + fe y1) * (fe x1 + fe y1) ∧ g = a - b ∧ f = c + g ∧
        fe x = e * f ∧ fe y = g * h ∧ fe z = f * g ∧ fe t = e * h := by
  obtain ⟨two, htwo⟩ : ∃ two : List Nat, two = [2, 0, 0, 0, 0] := ⟨_, rfl⟩
  have Etwo : El two (2 ^ 52) := by rw [htwo]; exact two_E
  have vtwo : evVal T 28 [.int .u32 2] = some (eV two) := by rw [htwo]; exact two_v
  have ftwo : fe two = 2 := by rw [htwo]; exact two_fe
  clear htwo
  obtain ⟨r1, hr1, Er1, fr1⟩ := mul_ev Ex1 Ex1
  obtain ⟨r2, hr2, Er2, fr2⟩ := mul_ev Ey1 Ey1
  obtain ⟨r3, hr3, Er3, fr3⟩ := prod_ev (H := [⟨ns .u64 (pL x1 y1 z1 t1), true, true, true, 1⟩, ⟨List.replicate 20 (.int .u64 0), true, true, true, 1⟩, ⟨ns .u64 r1, true, true, true, 1⟩, ⟨ns .u64 r2, true, true, true, 1⟩, ⟨ns .u64 [two, z1, z1].flatten, true, true, true, 1⟩]) (id := 4) (n := 3) (xs := [two, z1, z1]) rfl (by decide) (by intro w hw; simp only [List.mem_cons, List.not_mem_nil, or_false] at hw; rcases hw with rfl | rfl | rfl <;> assumption) rfl
  simp only [List.cons_append, List.nil_append, List.map_cons, List.map_nil, List.foldl_cons, List.foldl_nil] at hr3 fr3
  obtain ⟨r4, sr4, hr4, Er4, fr4⟩ := add2_ev (H := [⟨ns .u64 (pL x1 y1 z1 t1), true, true, true, 1⟩, ⟨List.replicate 20 (.int .u64 0), true, true, true, 1⟩, ⟨ns .u64 r1, true, true, true, 1⟩, ⟨ns .u64 r2, true, true, true, 1⟩, ⟨ns .u64 [two, z1, z1].flatten, true, true, true, 1⟩, ⟨ns .u64 r3, true, true, true, 1⟩, ⟨ns .u64 r3, true, true, true, 1⟩, ⟨ns .u64 two, true, true, true, 1⟩, ⟨ns .u64 z1, true, true, true, 1⟩, ⟨ns .u64 z1, true, true, true, 1⟩, ⟨ns .u64 r3, true, true, true, 1⟩, ⟨ns .u64 (r1 ++ r2), true, true, true, 1⟩]) (id := 11) Er1 Er2 rfl
  simp only [List.cons_append, List.nil_append] at hr4
  obtain ⟨r5, sr5, hr5, Er5, fr5⟩ := add2_ev (H := [⟨ns .u64 (pL x1 y1 z1 t1), true, true, true, 1⟩, ⟨List.replicate 20 (.int .u64 0), true, true, true, 1⟩, ⟨ns .u64 r1, true, true, true, 1⟩, ⟨ns .u64 r2, true, true, true, 1⟩, ⟨ns .u64 [two, z1, z1].flatten, true, true, true, 1⟩, ⟨ns .u64 r3, true, true, true, 1⟩, ⟨ns .u64 r3, true, true, true, 1⟩, ⟨ns .u64 two, true, true, true, 1⟩, ⟨ns .u64 z1, true, true, true, 1⟩, ⟨ns .u64 z1, true, true, true, 1⟩, ⟨ns .u64 r3, true, true, true, 1⟩, ⟨ns .u64 (r1 ++ r2), true, true, true, 1⟩, ⟨ns .u64 r4, true, true, true, 1⟩, ⟨ns .u64 sr4, true, true, true, 1⟩, ⟨ns .u64 r1, true, true, true, 1⟩, ⟨ns .u64 r2, true, true, true, 1⟩, ⟨ns .u64 r4, true, true, true, 1⟩, ⟨ns .u64 (x1 ++ y1), true, true, true, 1⟩]) (id := 17) Ex1 Ey1 rfl
  simp only [List.cons_append, List.nil_append] at hr5
  obtain ⟨r6, hr6, Er6, fr6⟩ := mul_ev Er5 Er5
  obtain ⟨r7, hr7, Er7, fr7⟩ := sub_v Er4 Er6
  obtain ⟨r8, hr8, Er8, fr8⟩ := sub_v Er1 Er2
  obtain ⟨r9, sr9, hr9, Er9, fr9⟩ := add2_ev (H := [⟨ns .u64 (pL x1 y1 z1 t1), true, true, true, 1⟩, ⟨List.replicate 20 (.int .u64 0), true, true, true, 1⟩, ⟨ns .u64 r1, true, true, true, 1⟩, ⟨ns .u64 r2, true, true, true, 1⟩, ⟨ns .u64 [two, z1, z1].flatten, true, true, true, 1⟩, ⟨ns .u64 r3, true, true, true, 1⟩, ⟨ns .u64 r3, true, true, true, 1⟩, ⟨ns .u64 two, true, true, true, 1⟩, ⟨ns .u64 z1, true, true, true, 1⟩, ⟨ns .u64 z1, true, true, true, 1⟩, ⟨ns .u64 r3, true, true, true, 1⟩, ⟨ns .u64 (r1 ++ r2), true, true, true, 1⟩, ⟨ns .u64 r4, true, true, true, 1⟩, ⟨ns .u64 sr4, true, true, true, 1⟩, ⟨ns .u64 r1, true, true, true, 1⟩, ⟨ns .u64 r2, true, true, true, 1⟩, ⟨ns .u64 r4, true, true, true, 1⟩, ⟨ns .u64 (x1 ++ y1), true, true, true, 1⟩, ⟨ns .u64 r5, true, true, true, 1⟩, ⟨ns .u64 sr5, true, true, true, 1⟩, ⟨ns .u64 x1, true, true, true, 1⟩, ⟨ns .u64 y1, true, true, true, 1⟩, ⟨ns .u64 r5, true, true, true, 1⟩, ⟨ns .u64 r7, true, true, true, 1⟩, ⟨ns .u64 r8, true, true, true, 1⟩, ⟨ns .u64 (r3 ++ r8), true, true, true, 1⟩]) (id := 25) Er3 Er8 rfl
  simp only [List.cons_append, List.nil_append] at hr9
  obtain ⟨r10, hr10, Er10, fr10⟩ := mul_ev Er7 Er9
  obtain ⟨r11, hr11, Er11, fr11⟩ := mul_ev Er8 Er4
  obtain ⟨r12, hr12, Er12, fr12⟩ := mul_ev Er9 Er8
  obtain ⟨r13, hr13, Er13, fr13⟩ := mul_ev Er7 Er4
  refine ⟨r10, r11, r12, r13, ?_, Er10, Er11, Er12, Er13, fe r1, fe r2, fe r3, fe r4, fe r7, fe r8, fe r9, ?_⟩
  · obtain ⟨q10, q11, q12, q13⟩ := quad Ex1 Ey1 Ez1 Et1
    have p1 := pL_len Ex1 Ey1 Ez1 Et1
    have p3 := pL_len Er10 Er11 Er12 Er13
    have k3 := fill3 Etwo Ez1 Ez1
    have kp := fill4 Er10 Er11 Er12 Er13
    have m1 := fill2 Er1 Er2
    have m2 := fill2 Ex1 Ey1
    have m3 := fill2 Er3 Er8
    have Lx1 := Ex1.len
    have Ly1 := Ey1.len
    have Lz1 := Ez1.len
    have Lt1 := Et1.len
    have Ltwo := Etwo.len
    have Lr1 := Er1.len
    have Lr2 := Er2.len
    have Lr3 := Er3.len
    have Lr4 := Er4.len
    have Lr5 := Er5.len
    have Lr6 := Er6.len
    have Lr7 := Er7.len
    have Lr8 := Er8.len
    have Lr9 := Er9.len
    have Lr10 := Er10.len
    have Lr11 := Er11.len
    have Lr12 := Er12.len
    have Lr13 := Er13.len
    apply evVal_ex
    apply Exists.intro
    rw [evFun_fn (fn := a53) rfl]
    simp only [a53, envOf, quiet, cF, ↓pF, reduceCtorEq, Nat.reduceEqDiff, Int.reduceEq, fs_callW, fs_regionQ, quiet2_eq, lastOf_nil, lastOf_cons, List.take_succ_cons, List.take_zero, List.drop_succ_cons, List.drop_zero, Int.reduceBEq, Int.reduceBNe, ↓keepV_some, ↓qElse_some, ↓guardV_tt, ↓guardV_ff, ↓guardV_tf, ↓guardV_ft, cL, Int.reduceLE, Int.reduceLT, Int.reduceAdd, Int.reduceMul, Int.reduceSub, Int.reduceTDiv, Int.reduceTMod, Int.reduceNeg, Int.reduceToNat, Int.reduceGT, Int.reduceGE, Int.reducePow, Nat.reduceAdd, Nat.reduceMul, Nat.reduceSub, Nat.reduceDiv, Nat.reduceMod, Nat.reducePow, Nat.reduceLT, Nat.reduceLeDiff, cJ, List.length_replicate, take_all, pV_cells, pV_size, pV_ok, pV_fold, rf_pV, eV_cells, eV_size, eV_ok, eV_fold, rf_eV, ns_len, q10, q11, q12, q13, p1, p3, k3, kp, m1, m2, m3, vtwo, hr1, hr2, hr3, hr4, hr5, hr6, hr7, hr8, hr9, hr10, hr11, hr12, hr13, Lx1, Ly1, Lz1, Lt1, Ltwo, Lr1, Lr2, Lr3, Lr4, Lr5, Lr6, Lr7, Lr8, Lr9, Lr10, Lr11, Lr12, Lr13]
    rfl
  · refine ⟨fr1, fr2, by rw [fr3, ftwo], fr4, by rw [fr7, fr6, fr5], fr8, fr9, ?_, ?_, ?_, ?_⟩
    · rw [fr10]
    · rw [fr11]
    · rw [fr12]
    · rw [fr13]
structure Rep (x y z t : List Nat) (p : Go.Cv.Pt Go.Fp.P Go.Fp.d) : Prop where
  ex : El x (2 ^ 52)
  ey : El y (2 ^ 52)
  ez : El z (2 ^ 52)
  et : El t (2 ^ 52)
  nz : fe z ≠ 0
  x : fe x = p.x * fe z
  y : fe y = p.y * fe z
  t : fe t = p.x * p.y * fe z
abbrev padd (p q : Go.Cv.Pt Go.Fp.P Go.Fp.d) : Go.Cv.Pt Go.Fp.P Go.Fp.d := Go.Cv.Pt.add Go.Fp.fld p q
abbrev pmul (k : Nat) (p : Go.Cv.Pt Go.Fp.P Go.Fp.d) : Go.Cv.Pt Go.Fp.P Go.Fp.d := Go.Cv.Pt.mul Go.Fp.fld k p
abbrev pzero : Go.Cv.Pt Go.Fp.P Go.Fp.d := Go.Cv.Pt.zero
theorem plus_math {x1 y1 z1 t1 x2 y2 z2 t2 dd a b c e x y z t px py qx qy rx ry : Go.Fp.Fe} (hx1 : x1 = px * z1) (hy1 : y1 = py * z1) (ht1 : t1 = px * py * z1) (hx2 : x2 = qx * z2) (hy2 : y2 = qy * z2) (ht2 : t2 = qx * qy * z2)
    (ha : a = (y1 - x1) * (y2 - x2)) (hb : b = (y1 + x1) * (y2 + x2)) (hc : c = 1 * 2 * dd * t1 * t2) (he : e = 1 * 2 * z1 * z2) (hx : x = (b - a) * (e - c)) (hy : y = (e + c) * (b + a)) (hz : z = (e - c) * (e + c)) (ht : t = (b - a) * (b + a))
    (hrx : rx * (1 + dd * px * qx * py * qy) = px * qy + qx * py) (hry : ry * (1 - dd * px * qx * py * qy) = py * qy + px * qx) :
    x = rx * z ∧ y = ry * z ∧ t = rx * ry * z ∧ z = (2 * z1 * z2) * (2 * z1 * z2) * ((1 - dd * px * qx * py * qy) * (1 + dd * px * qx * py * qy)) := by
  have e1 : b - a = (2 * z1 * z2) * (px * qy + qx * py) := by rw [hb, ha, hx1, hy1, hx2, hy2]; grobner
  have e2 : b + a = (2 * z1 * z2) * (py * qy + px * qx) := by rw [hb, ha, hx1, hy1, hx2, hy2]; grobner
  have e3 : e - c = (2 * z1 * z2) * (1 - dd * px * qx * py * qy) := by rw [he, hc, ht1, ht2]; grobner
  have e4 : e + c = (2 * z1 * z2) * (1 + dd * px * qx * py * qy) := by rw [he, hc, ht1, ht2]; grobner
  rw [e1, ← hrx, e3] at hx
  rw [e4, e2, ← hry] at hy
  rw [e3, e4] at hz
  rw [e1, e2, ← hrx, ← hry] at ht
  clear hx1 hy1 ht1 hx2 hy2 ht2 ha hb hc he hrx hry e1 e2 e3 e4
  generalize 1 + dd * px * qx * py * qy = k at *
  generalize 1 - dd * px * qx * py * qy = m at *
  generalize 2 * z1 * z2 = w at *
  subst hx hy hz ht
  refine ⟨?_, ?_, ?_, ?_⟩ <;> grobner
theorem Rep.plus {x1 y1 z1 t1 x2 y2 z2 t2 d : List Nat} {p q : Go.Cv.Pt Go.Fp.P Go.Fp.d} (h1 : Rep x1 y1 z1 t1 p) (h2 : Rep x2 y2 z2 t2 q) (Ed : El d (2 ^ 52)) (hd : fe d = Go.Fp.d) :
    ∃ x y z t, evVal T 33 [pV x1 y1 z1 t1, pV x2 y2 z2 t2, eV d] = some (pV x y z t) ∧ Rep x y z t (padd p q) := by
  obtain ⟨x, y, z, t, hv, Ex, Ey, Ez, Et, a, b, c, e, ha, hb, hc, he, hx, hy, hz, ht⟩ := plus_v h1.ex h1.ey h1.ez h1.et h2.ex h2.ey h2.ez h2.et Ed
  rw [hd] at hc
  obtain ⟨g1, g2, g3, g4⟩ := plus_math h1.x h1.y h1.t h2.x h2.y h2.t ha hb hc he hx hy hz ht (Go.Cv.add_x Go.Fp.fld p q) (Go.Cv.add_y Go.Fp.fld p q)
  refine ⟨x, y, z, t, hv, Ex, Ey, Ez, Et, ?_, g1, g2, g3⟩
  rw [g4]
  have F := Go.Fp.fld
  have w := F.mul_ne (F.mul_ne F.two h1.nz) h2.nz
  exact F.mul_ne (F.mul_ne w w) (F.mul_ne (F.denM p.on q.on) (F.denP p.on q.on))
theorem twice_math {x1 y1 z1 dd a b c h e g f x y z t px py rx ry : Go.Fp.Fe} (hx1 : x1 = px * z1) (hy1 : y1 = py * z1) (on : -(px * px) + py * py = 1 + dd * (px * px) * (py * py))
    (ha : a = x1 * x1) (hb : b = y1 * y1) (hc : c = 1 * 2 * z1 * z1) (hh : h = a + b) (he : e = h - (x1 + y1) * (x1 + y1)) (hg : g = a - b) (hf : f = c + g) (hx : x = e * f) (hy : y = g * h) (hz : z = f * g) (ht : t = e * h)
    (hrx : rx * (1 + dd * px * px * py * py) = px * py + px * py) (hry : ry * (1 - dd * px * px * py * py) = py * py + px * px) :
    x = rx * z ∧ y = ry * z ∧ t = rx * ry * z ∧ z = -((z1 * z1) * (z1 * z1) * ((1 - dd * px * px * py * py) * (1 + dd * px * px * py * py))) := by
  have e1 : e = -((z1 * z1) * (px * py + px * py)) := by rw [he, hh, ha, hb, hx1, hy1]; grobner
  have e2 : h = (z1 * z1) * (py * py + px * px) := by rw [hh, ha, hb, hx1, hy1]; grobner
  have e3 : g = -((z1 * z1) * (1 + dd * px * px * py * py)) := by
    have : 1 + dd * px * px * py * py = py * py - px * px := by
      clear hx1 hy1 ha hb hc hh he hg hf hx hy hz ht hrx hry e1 e2
      grobner
    rw [this, hg, ha, hb, hx1, hy1]; grobner
  have e4 : f = (z1 * z1) * (1 - dd * px * px * py * py) := by
    rw [hf, e3, hc]
    clear hx1 hy1 on ha hb hc hh he hg hf hx hy hz ht hrx hry e1 e2 e3
    grobner
  rw [← hrx] at e1
  rw [← hry] at e2
  clear hx1 hy1 on ha hb hc hh he hg hf hrx hry
  generalize 1 + dd * px * px * py * py = k at *
  generalize 1 - dd * px * px * py * py = m at *
  generalize z1 * z1 = w at *
  subst e1 e2 e3 e4 hx hy hz ht
  refine ⟨?_, ?_, ?_, ?_⟩ <;> grobner
theorem Rep.twice {x1 y1 z1 t1 : List Nat} {p : Go.Cv.Pt Go.Fp.P Go.Fp.d} (h1 : Rep x1 y1 z1 t1 p) : ∃ x y z t, evVal T 32 [pV x1 y1 z1 t1] = some (pV x y z t) ∧ Rep x y z t (padd p p) := by
  obtain ⟨x, y, z, t, hv, Ex, Ey, Ez, Et, a, b, c, h, e, g, f, ha, hb, hc, hh, he, hg, hf, hx, hy, hz, ht⟩ := twice_v h1.ex h1.ey h1.ez h1.et
  obtain ⟨g1, g2, g3, g4⟩ := twice_math h1.x h1.y p.on ha hb hc hh he hg hf hx hy hz ht (Go.Cv.add_x Go.Fp.fld p p) (Go.Cv.add_y Go.Fp.fld p p)
  refine ⟨x, y, z, t, hv, Ex, Ey, Ez, Et, ?_, g1, g2, g3⟩
  rw [g4]
  have F := Go.Fp.fld
  have w := F.mul_ne h1.nz h1.nz
  have n := F.mul_ne (F.mul_ne w w) (F.mul_ne (F.denM p.on p.on) (F.denP p.on p.on))
  intro h0
  exact n (by grobner)
end Go.Ev.Ytgacigcbglflkaa
set_option linter.unusedSimpArgs false
set_option linter.unusedVariables false
namespace Go.Ev.Ytgacigcbglflkaa
open Go Go.Ev
attribute [local congr] bind_congr2 ite_congr2 qElse_congr gate_congr guardV_congr
set_option maxRecDepth 100000
def RepL (l : List Nat) (p : Go.Cv.Pt Go.Fp.P Go.Fp.d) : Prop := ∃ x y z t, l = pL x y z t ∧ Rep x y z t p
theorem RepL.len {l : List Nat} {p : Go.Cv.Pt Go.Fp.P Go.Fp.d} (h : RepL l p) : l.length = 20 := by
  obtain ⟨x, y, z, t, rfl, h⟩ := h
  exact pL_len h.ex h.ey h.ez h.et
theorem plusL {l m d : List Nat} {p q : Go.Cv.Pt Go.Fp.P Go.Fp.d} (h1 : RepL l p) (h2 : RepL m q) (Ed : El d (2 ^ 52)) (hd : fe d = Go.Fp.d) : ∃ r, evVal T 33 [eV l, eV m, eV d] = some (eV r) ∧ RepL r (padd p q) := by
  obtain ⟨x, y, z, t, rfl, h1⟩ := h1
  obtain ⟨x2, y2, z2, t2, rfl, h2⟩ := h2
  obtain ⟨a, b, c, e, h3, h4⟩ := h1.plus h2 Ed hd
  exact ⟨pL a b c e, h3, a, b, c, e, rfl, h4⟩
theorem twiceL {l : List Nat} {p : Go.Cv.Pt Go.Fp.P Go.Fp.d} (h1 : RepL l p) : ∃ r, evVal T 32 [eV l] = some (eV r) ∧ RepL r (padd p p) := by
  obtain ⟨x, y, z, t, rfl, h1⟩ := h1
  obtain ⟨a, b, c, e, h3, h4⟩ := h1.twice
  exact ⟨pL a b c e, h3, a, b, c, e, rfl, h4⟩
def dK : List Nat := dig 256 32 Go.Fp.dN
theorem dK_num : num 256 dK = Go.Fp.dN := by decide +kernel
theorem dK_lt : ∀ x ∈ dK, x < 256 := fun _ h => dig_lt (by decide) h
theorem factor_v : ∃ r, evVal T 31 [] = some (eV r) ∧ El r (2 ^ 52) ∧ fe r = Go.Fp.d := by
  have h := of_v (k := dK) (dig_len _ _ _) dK_lt
  refine ⟨dig (2 ^ 51) 5 (num 256 dK % 2 ^ 255), ?_, of_el, ?_⟩
  rotate_left
  · unfold fe
    rw [of_v51, dK_num]
    rfl
  · have hl : (dig (2 ^ 51) 5 (num 256 dK % 2 ^ 255)).length = 5 := dig_len _ _ _
    have hf : fillL (List.replicate 32 (Value.int .u8 0)) [(0, 1, .int .u8 163), (1, 1, .int .u8 120), (2, 1, .int .u8 89), (3, 1, .int .u8 19), (4, 1, .int .u8 202), (5, 1, .int .u8 77), (6, 1, .int .u8 235), (7, 1, .int .u8 117), (8, 1, .int .u8 171), (9, 1, .int .u8 216), (10, 1, .int .u8 65), (11, 1, .int .u8 65), (12, 1, .int .u8 77), (13, 1, .int .u8 10), (14, 1, .int .u8 112), (15, 1, .int .u8 0), (16, 1, .int .u8 152), (17, 1, .int .u8 232), (18, 1, .int .u8 121), (19, 1, .int .u8 119), (20, 1, .int .u8 121), (21, 1, .int .u8 64), (22, 1, .int .u8 199), (23, 1, .int .u8 140), (24, 1, .int .u8 115), (25, 1, .int .u8 254), (26, 1, .int .u8 111), (27, 1, .int .u8 43), (28, 1, .int .u8 238), (29, 1, .int .u8 108), (30, 1, .int .u8 3), (31, 1, .int .u8 82)] = some (u8s dK) := by
      have : dK = [163, 120, 89, 19, 202, 77, 235, 117, 171, 216, 65, 65, 77, 10, 112, 0, 152, 232, 121, 119, 121, 64, 199, 140, 115, 254, 111, 43, 238, 108, 3, 82] := by decide +kernel
      rw [this]; rfl
    generalize dig (2 ^ 51) 5 (num 256 dK % 2 ^ 255) = D at *
    apply evVal_ex
    apply Exists.intro
    rw [evFun_fn (fn := a52) rfl]
    simp only [a52, envOf, quiet, cF, ↓pF, reduceCtorEq, Nat.reduceEqDiff, Int.reduceEq, fs_callW, fs_regionQ, quiet2_eq, lastOf_nil, lastOf_cons, List.take_succ_cons, List.take_zero, List.drop_succ_cons, List.drop_zero, Int.reduceBEq, Int.reduceBNe, ↓keepV_some, ↓qElse_some, ↓guardV_tt, ↓guardV_ff, ↓guardV_tf, ↓guardV_ft, cL, Int.reduceLE, Int.reduceLT, Int.reduceAdd, Int.reduceMul, Int.reduceSub, Int.reduceTDiv, Int.reduceTMod, Int.reduceNeg, Int.reduceToNat, Int.reduceGT, Int.reduceGE, Int.reducePow, Nat.reduceAdd, Nat.reduceMul, Nat.reduceSub, Nat.reduceDiv, Nat.reduceMod, Nat.reducePow, Nat.reduceLT, Nat.reduceLeDiff, cJ, hf, h, List.length_replicate, take_all, eV_cells, eV_size, eV_ok, eV_fold, rf_eV, ns_len, hl]
    rfl
theorem one_v : evVal T 28 [.int .u32 1] = some (eV [1, 0, 0, 0, 0]) := small_v (n := 1) (by decide)
theorem zero_el5 : El [0, 0, 0, 0, 0] (2 ^ 52) := small_el (by decide)
theorem zero_fe : fe [0, 0, 0, 0, 0] = 0 := by rw [small_fe]; rfl
theorem zero_v : ∃ r, evVal T 30 [] = some (eV r) ∧ RepL r pzero := by
  refine ⟨pL [0, 0, 0, 0, 0] [1, 0, 0, 0, 0] [1, 0, 0, 0, 0] [0, 0, 0, 0, 0], ?_, _, _, _, _, rfl, zero_el5, one_el, one_el, zero_el5, ?_, ?_, ?_, ?_⟩
  · have hf : fillL (List.replicate 20 (Value.int .u64 0)) [(5, 5, eV [1, 0, 0, 0, 0]), (10, 5, eV [1, 0, 0, 0, 0])] = some (ns .u64 (pL [0, 0, 0, 0, 0] [1, 0, 0, 0, 0] [1, 0, 0, 0, 0] [0, 0, 0, 0, 0])) := rfl
    have hl : (pL [0, 0, 0, 0, 0] [1, 0, 0, 0, 0] [1, 0, 0, 0, 0] [0, 0, 0, 0, 0]).length = 20 := rfl
    have hv := one_v
    generalize pL [0, 0, 0, 0, 0] [1, 0, 0, 0, 0] [1, 0, 0, 0, 0] [0, 0, 0, 0, 0] = Z at *
    generalize ([1, 0, 0, 0, 0] : List Nat) = O at *
    apply evVal_ex
    apply Exists.intro
    rw [evFun_fn (fn := a30) rfl]
    simp only [a30, envOf, quiet, cF, ↓pF, reduceCtorEq, Nat.reduceEqDiff, Int.reduceEq, fs_callW, fs_regionQ, quiet2_eq, lastOf_nil, lastOf_cons, List.take_succ_cons, List.take_zero, List.drop_succ_cons, List.drop_zero, Int.reduceBEq, Int.reduceBNe, ↓keepV_some, ↓qElse_some, ↓guardV_tt, ↓guardV_ff, ↓guardV_tf, ↓guardV_ft, cL, Int.reduceLE, Int.reduceLT, Int.reduceAdd, Int.reduceMul, Int.reduceSub, Int.reduceTDiv, Int.reduceTMod, Int.reduceNeg, Int.reduceToNat, Int.reduceGT, Int.reduceGE, Int.reducePow, Nat.reduceAdd, Nat.reduceMul, Nat.reduceSub, Nat.reduceDiv, Nat.reduceMod, Nat.reducePow, Nat.reduceLT, Nat.reduceLeDiff, cJ, hf, hv, List.length_replicate, take_all, eV_cells, eV_size, eV_ok, eV_fold, rf_eV, ns_len, hl]
    rfl
  · rw [one_fe]; exact Go.Fp.one_ne
  · rw [zero_fe]; simp only [Go.Cv.Pt.zero]; grobner
  · rw [one_fe]; simp only [Go.Cv.Pt.zero]; grobner
  · rw [zero_fe]; simp only [Go.Cv.Pt.zero]; grobner
theorem pmul_step (p : Go.Cv.Pt Go.Fp.P Go.Fp.d) (m b : Nat) (hb : b < 2) : pmul (2 * m + b) p = if b = 1 then padd (padd (pmul m p) (pmul m p)) p else padd (pmul m p) (pmul m p) := by
  have h1 : pmul (2 * m) p = padd (pmul m p) (pmul m p) := by rw [show 2 * m = m + m by omega]; exact Go.Cv.mul_add Go.Fp.fld m m p
  by_cases h : b = 1
  · subst h
    rw [if_pos rfl]
    show padd (pmul (2 * m) p) p = _
    rw [h1]
  · have : b = 0 := by omega
    subst this
    rw [if_neg (by decide), Nat.add_zero, h1]
def muI (l k o d : List Nat) (R : Ob) (i : Int) (ex : Env) : St := ⟨[(2, .pointer (some ⟨0, 0, none⟩)), (3, .pointer (some ⟨1, 0, none⟩)), (4, .pointer (some ⟨2, 0, none⟩)), (5, .pointer (some ⟨3, 0, none⟩)), (6, .pointer (some ⟨4, 0, none⟩)), (7, .int .i64 i)] ++ ex, [⟨ns .u64 l, true, true, true, 1⟩, ⟨u8s k, true, true, true, 1⟩, R, ⟨ns .u64 o, true, true, true, 1⟩, ⟨ns .u64 d, true, true, true, 1⟩], []⟩
theorem mu_body {l k o d : List Nat} {R : Ob} {i : Nat} {p : Go.Cv.Pt Go.Fp.P Go.Fp.d} (hl : RepL l p) (lk : k.length = 32) (xk : ∀ x ∈ k, x < 256) (hi : i < 256) (Ed : El d (2 ^ 52)) (hd : fe d = Go.Fp.d) (ho : RepL o (pmul (num 256 k / 2 ^ (i + 1)) p)) :
    ∃ r, evCode T 0 a26_l0 (muI l k o d R i []) = some (.normal, muI l k r d R ((i : Int) - 1) []) ∧ RepL r (pmul (num 256 k / 2 ^ i) p) := by
  obtain ⟨b, hb⟩ : ∃ b, k[i / 8]? = some b := ⟨_, List.getElem?_eq_getElem (by omega)⟩
  have hbv := num_get (B := 256) (by decide) xk hb
  have hbc := u8s_get hb
  have hbit : b / 2 ^ (i % 8) % 2 = num 256 k / 2 ^ i % 2 := by
    rw [← hbv, show (256 : Nat) = 2 ^ 8 from rfl, bitOf (Nat.mod_lt _ (by decide)), Nat.div_add_mod]
  obtain ⟨r1, m1, g1⟩ := twiceL ho
  obtain ⟨r2, m2, g3⟩ := plusL g1 hl Ed hd
  have hlt := bit_lt (num 256 k) i
  have hnum : num 256 k / 2 ^ i = 2 * (num 256 k / 2 ^ (i + 1)) + num 256 k / 2 ^ i % 2 := by
    rw [Nat.pow_succ, ← Nat.div_div_eq_div_mul]
    omega
  have hstep := pmul_step p (num 256 k / 2 ^ (i + 1)) (num 256 k / 2 ^ i % 2) hlt
  rw [← hnum] at hstep
  have s1 : (2 : Int) ^ min (i % 8) IntKind.u8.bits = ((2 ^ (i % 8) : Nat) : Int) := pow_min (Nat.le_of_lt (Nat.mod_lt _ (by decide)))
  have w2 : IntKind.i64.wrap ((i / 8 : Nat) : Int) = ((i / 8 : Nat) : Int) := wrap_nat (by omega)
  have w3 : IntKind.i64.wrap ((i : Int) - 1) = (i : Int) - 1 := wrapI64_small (by omega) (by omega)
  have e1 : ((0 : Int) ≤ (i : Int)) = True := eq_true (by omega)
  have e3 : (((i / 8 : Nat) : Int) < 32) = True := eq_true (by omega)
  have e4 : (((i % 8 : Nat) : Int) < 0) = False := eq_false (by omega)
  have l1 := hl.len
  have l2 := ho.len
  have l3 := g1.len
  have l4 := g3.len
  have l5 := Ed.len
  generalize hB : num 256 k / 2 ^ i % 2 = B at *
  by_cases hB1 : B = 1
  · have hbq : ((B : Int) == 1) = true := by rw [hB1]; rfl
    rw [if_pos hB1] at hstep
    refine ⟨r2, ?_, by rw [hstep]; exact g3⟩
    simp only [muI, a26_l0, envOf, quiet, cF, ↓pF, reduceCtorEq, Nat.reduceEqDiff, Int.reduceEq, fs_callW, fs_regionQ, quiet2_eq, lastOf_nil, lastOf_cons, List.take_succ_cons, List.take_zero, List.drop_succ_cons, List.drop_zero, Int.reduceBEq, Int.reduceBNe, ↓keepV_some, ↓qElse_some, ↓guardV_tt, ↓guardV_ff, ↓guardV_tf, ↓guardV_ft, cL, Int.reduceLE, Int.reduceLT, Int.reduceAdd, Int.reduceMul, Int.reduceSub, Int.reduceTDiv, Int.reduceTMod, Int.reduceNeg, Int.reduceToNat, Int.reduceGT, Int.reduceGE, Int.reducePow, Nat.reduceAdd, Nat.reduceMul, Nat.reduceSub, Nat.reduceDiv, Nat.reduceMod, Nat.reducePow, Nat.reduceLT, Nat.reduceLeDiff, cJ, cU, hbc, hbit, s1, w2, w3, e1, e3, e4, m1, m2, hbq, take_all, eV_cells, eV_size, eV_ok, eV_fold, ns_len, l1, l2, l3, l4, l5, rf_eV]
  · have hbq : ((B : Int) == 1) = false := by
      have : B = 0 := by omega
      rw [this]; rfl
    rw [if_neg hB1] at hstep
    refine ⟨r1, ?_, by rw [hstep]; exact g1⟩
    simp only [muI, a26_l0, envOf, quiet, cF, ↓pF, reduceCtorEq, Nat.reduceEqDiff, Int.reduceEq, fs_callW, fs_regionQ, quiet2_eq, lastOf_nil, lastOf_cons, List.take_succ_cons, List.take_zero, List.drop_succ_cons, List.drop_zero, Int.reduceBEq, Int.reduceBNe, ↓keepV_some, ↓qElse_some, ↓guardV_tt, ↓guardV_ff, ↓guardV_tf, ↓guardV_ft, cL, Int.reduceLE, Int.reduceLT, Int.reduceAdd, Int.reduceMul, Int.reduceSub, Int.reduceTDiv, Int.reduceTMod, Int.reduceNeg, Int.reduceToNat, Int.reduceGT, Int.reduceGE, Int.reducePow, Nat.reduceAdd, Nat.reduceMul, Nat.reduceSub, Nat.reduceDiv, Nat.reduceMod, Nat.reducePow, Nat.reduceLT, Nat.reduceLeDiff, cJ, cU, hbc, hbit, s1, w2, w3, e1, e3, e4, m1, m2, hbq, take_all, eV_cells, eV_size, eV_ok, eV_fold, ns_len, l1, l2, l3, l4, l5, rf_eV]
theorem multiply_v {l k : List Nat} {p : Go.Cv.Pt Go.Fp.P Go.Fp.d} (hl : RepL l p) (lk : k.length = 32) (xk : ∀ x ∈ k, x < 256) : ∃ r, evVal T 15 [eV l, .agg (u8s k).toArray] = some (eV r) ∧ RepL r (pmul (num 256 k) p) := by
  have hK := num_lt xk
  rw [lk, show (256 : Nat) ^ 32 = 2 ^ 256 from by rw [show (256 : Nat) = 2 ^ 8 from rfl, ← Nat.pow_mul]] at hK
  obtain ⟨z, hz, hz2⟩ := zero_v
  obtain ⟨d, hd1, Ed, hd⟩ := factor_v
  obtain ⟨st, hb, r, rfl, hr1⟩ := block_inv (T := T) (base := 0) (id := 0) (body := a26_l0)
    (fun j st => ∃ r : List Nat, st = muI l k r d ⟨List.replicate 20 (.int .u64 0), true, true, true, 1⟩ ((255 : Int) - j) [] ∧ RepL r (pmul (num 256 k / 2 ^ (256 - j)) p))
    (Q := fun st => ∃ r : List Nat, st = muI l k r d ⟨List.replicate 20 (.int .u64 0), true, true, true, 1⟩ (-1) [(11, .bool false)] ∧ RepL r (pmul (num 256 k) p))
    256 (s := muI l k z d ⟨List.replicate 20 (.int .u64 0), true, true, true, 1⟩ 255 []) ⟨_, rfl, by rw [Nat.sub_zero, Nat.div_eq_of_lt hK]; exact hz2⟩
    (fun j st hj hs => by
      obtain ⟨r, rfl, h2⟩ := hs
      obtain ⟨i, hi⟩ : ∃ i, 256 - j = i + 1 := ⟨255 - j, by omega⟩
      rw [hi] at h2
      obtain ⟨r', g1, g3⟩ := mu_body (R := ⟨List.replicate 20 (.int .u64 0), true, true, true, 1⟩) hl lk xk (i := i) (by omega) Ed hd h2
      rw [show (255 : Int) - j = (i : Int) by omega]
      refine ⟨_, g1, r', ?_, ?_⟩
      · rw [show (255 : Int) - ((j + 1 : Nat) : Int) = (i : Int) - 1 by omega]
      · rw [show 256 - (j + 1) = i by omega]; exact g3)
    (fun st hs => by
      obtain ⟨r, rfl, h2⟩ := hs
      rw [Nat.sub_self, Nat.pow_zero, Nat.div_one] at h2
      have e : ((0 : Int) ≤ -1) = False := by decide
      refine ⟨_, ?_, r, rfl, h2⟩
      rw [show (255 : Int) - ((256 : Nat) : Int) = -1 by omega]
      simp only [muI, a26_l0, envOf, quiet, cF, ↓pF, reduceCtorEq, Nat.reduceEqDiff, Int.reduceEq, fs_callW, fs_regionQ, quiet2_eq, lastOf_nil, lastOf_cons, List.take_succ_cons, List.take_zero, List.drop_succ_cons, List.drop_zero, Int.reduceBEq, Int.reduceBNe, ↓keepV_some, ↓qElse_some, ↓guardV_tt, ↓guardV_ff, ↓guardV_tf, ↓guardV_ft, cL, Int.reduceLE, Int.reduceLT, Int.reduceAdd, Int.reduceMul, Int.reduceSub, Int.reduceTDiv, Int.reduceTMod, Int.reduceNeg, Int.reduceToNat, Int.reduceGT, Int.reduceGE, Int.reducePow, Nat.reduceAdd, Nat.reduceMul, Nat.reduceSub, Nat.reduceDiv, Nat.reduceMod, Nat.reducePow, Nat.reduceLT, Nat.reduceLeDiff, e])
  refine ⟨r, ?_, hr1⟩
  have l1 := hl.len
  have l2 := hz2.len
  have l3 := hr1.len
  have l4 := Ed.len
  simp only [muI, List.cons_append, List.nil_append] at hb
  apply evVal_ex
  apply Exists.intro
  rw [evFun_fn (fn := a26) rfl]
  simp only [a26, envOf, quiet, cF, ↓pF, reduceCtorEq, Nat.reduceEqDiff, Int.reduceEq, fs_callW, fs_regionQ, quiet2_eq, lastOf_nil, lastOf_cons, List.take_succ_cons, List.take_zero, List.drop_succ_cons, List.drop_zero, Int.reduceBEq, Int.reduceBNe, ↓keepV_some, ↓qElse_some, ↓guardV_tt, ↓guardV_ff, ↓guardV_tf, ↓guardV_ft, cL, Int.reduceLE, Int.reduceLT, Int.reduceAdd, Int.reduceMul, Int.reduceSub, Int.reduceTDiv, Int.reduceTMod, Int.reduceNeg, Int.reduceToNat, Int.reduceGT, Int.reduceGE, Int.reducePow, Nat.reduceAdd, Nat.reduceMul, Nat.reduceSub, Nat.reduceDiv, Nat.reduceMod, Nat.reducePow, Nat.reduceLT, Nat.reduceLeDiff, cJ, hz, hd1, hb, muI, List.length_replicate, take_all, eV_cells, eV_size, eV_ok, eV_fold, ns_len, l1, l2, l3, l4, rf_eV]
  rfl
theorem negp_v {l : List Nat} {p : Go.Cv.Pt Go.Fp.P Go.Fp.d} (hl : RepL l p) : ∃ r, evVal T 23 [eV l] = some (eV r) ∧ RepL r p.neg := by
  obtain ⟨x, y, z, t, rfl, h⟩ := hl
  obtain ⟨a, ha, Ea, fa⟩ := neg_v h.ex
  obtain ⟨b, hb, Eb, fb⟩ := neg_v h.et
  obtain ⟨q0, q1, q2, q3⟩ := quad h.ex h.ey h.ez h.et
  have hf := fill4 Ea h.ey h.ez Eb
  have p1 := pL_len h.ex h.ey h.ez h.et
  have p2 := pL_len Ea h.ey h.ez Eb
  refine ⟨pL a y z b, ?_, a, y, z, b, rfl, Ea, h.ey, h.ez, Eb, h.nz, ?_, ?_, ?_⟩
  · generalize pL x y z t = L at *
    generalize pL a y z b = M at *
    apply evVal_ex
    apply Exists.intro
    rw [evFun_fn (fn := a34) rfl]
    simp only [a34, envOf, quiet, cF, ↓pF, reduceCtorEq, Nat.reduceEqDiff, Int.reduceEq, fs_callW, fs_regionQ, quiet2_eq, lastOf_nil, lastOf_cons, List.take_succ_cons, List.take_zero, List.drop_succ_cons, List.drop_zero, Int.reduceBEq, Int.reduceBNe, ↓keepV_some, ↓qElse_some, ↓guardV_tt, ↓guardV_ff, ↓guardV_tf, ↓guardV_ft, cL, Int.reduceLE, Int.reduceLT, Int.reduceAdd, Int.reduceMul, Int.reduceSub, Int.reduceTDiv, Int.reduceTMod, Int.reduceNeg, Int.reduceToNat, Int.reduceGT, Int.reduceGE, Int.reducePow, Nat.reduceAdd, Nat.reduceMul, Nat.reduceSub, Nat.reduceDiv, Nat.reduceMod, Nat.reducePow, Nat.reduceLT, Nat.reduceLeDiff, cJ, q0, q1, q2, q3, ha, hb, hf, List.length_replicate, take_all, eV_cells, eV_size, eV_ok, eV_fold, ns_len, p1, p2, rf_eV]
    rfl
  · rw [fa, h.x]; simp only [Go.Cv.Pt.neg]; grobner
  · rw [h.y]; rfl
  · rw [fb, h.t]; simp only [Go.Cv.Pt.neg]; grobner
end Go.Ev.Ytgacigcbglflkaa
set_option linter.unusedSimpArgs false
set_option linter.unusedVariables false
namespace Go.Ev.Ytgacigcbglflkaa
open Go Go.Ev
attribute [local congr] bind_congr2 ite_congr2 qElse_congr gate_congr guardV_congr
set_option maxRecDepth 100000
instance decPt (p q : Go.Cv.Pt Go.Fp.P Go.Fp.d) : Decidable (p = q) := if h : p.x = q.x ∧ p.y = q.y then isTrue (Go.Cv.Pt.ext h.1 h.2) else isFalse (fun e => h (by rw [e]; exact ⟨rfl, rfl⟩))
theorem same_iff {a b z w : Go.Fp.Fe} (hz : z ≠ 0) (hw : w ≠ 0) : (a * z * w = b * w * z) = (a = b) := by
  apply propext
  constructor
  · intro h
    have F := Go.Fp.fld
    refine F.cancel (F.mul_ne hz hw) ?_
    grobner
  · intro h; subst h; grobner
theorem equal_v {l m : List Nat} {p q : Go.Cv.Pt Go.Fp.P Go.Fp.d} (h1 : RepL l p) (h2 : RepL m q) : evVal T 49 [eV l, eV m] = some (.bool (decide (p = q))) := by
  obtain ⟨x1, y1, z1, t1, rfl, h1⟩ := h1
  obtain ⟨x2, y2, z2, t2, rfl, h2⟩ := h2
  obtain ⟨a, ha, Ea, fa⟩ := mul_ev h1.ex h2.ez
  obtain ⟨b, hb, Eb, fb⟩ := mul_ev h2.ex h1.ez
  obtain ⟨c, hc, Ec, fc⟩ := mul_ev h1.ey h2.ez
  obtain ⟨e, he, Ee, fe_⟩ := mul_ev h2.ey h1.ez
  have q1 := eq_v Ea Eb
  have q2 := eq_v Ec Ee
  rw [fa, fb, h1.x, h2.x] at q1
  rw [fc, fe_, h1.y, h2.y] at q2
  simp only [same_iff h1.nz h2.nz] at q1 q2
  obtain ⟨u0, u1, u2, u3⟩ := quad h1.ex h1.ey h1.ez h1.et
  obtain ⟨v0, v1, v2, v3⟩ := quad h2.ex h2.ey h2.ez h2.et
  have p1 := pL_len h1.ex h1.ey h1.ez h1.et
  have p2 := pL_len h2.ex h2.ey h2.ez h2.et
  generalize pL x1 y1 z1 t1 = L at *
  generalize pL x2 y2 z2 t2 = M at *
  by_cases hx : p.x = q.x
  · rw [decide_eq_true hx] at q1
    have hd : decide (p = q) = decide (p.y = q.y) := by
      by_cases hy : p.y = q.y
      · rw [decide_eq_true hy, decide_eq_true (Go.Cv.Pt.ext hx hy)]
      · rw [decide_eq_false hy, decide_eq_false (fun h => hy (by rw [h]))]
    rw [hd]
    apply evVal_ex
    apply Exists.intro
    rw [evFun_fn (fn := a28) rfl]
    simp only [a28, envOf, quiet, cF, ↓pF, reduceCtorEq, Nat.reduceEqDiff, Int.reduceEq, fs_callW, fs_regionQ, quiet2_eq, lastOf_nil, lastOf_cons, List.take_succ_cons, List.take_zero, List.drop_succ_cons, List.drop_zero, Int.reduceBEq, Int.reduceBNe, ↓keepV_some, ↓qElse_some, ↓guardV_tt, ↓guardV_ff, ↓guardV_tf, ↓guardV_ft, cL, Int.reduceLE, Int.reduceLT, Int.reduceAdd, Int.reduceMul, Int.reduceSub, Int.reduceTDiv, Int.reduceTMod, Int.reduceNeg, Int.reduceToNat, Int.reduceGT, Int.reduceGE, Int.reducePow, Nat.reduceAdd, Nat.reduceMul, Nat.reduceSub, Nat.reduceDiv, Nat.reduceMod, Nat.reducePow, Nat.reduceLT, Nat.reduceLeDiff, cJ, u0, u1, u2, v0, v1, v2, ha, hb, hc, he, q1, q2, List.length_replicate, take_all, eV_cells, eV_size, eV_ok, eV_fold, ns_len, p1, p2, rf_eV]
    rfl
  · rw [decide_eq_false hx] at q1
    rw [decide_eq_false (fun h => hx (by rw [h]))]
    apply evVal_ex
    apply Exists.intro
    rw [evFun_fn (fn := a28) rfl]
    simp only [a28, envOf, quiet, cF, ↓pF, reduceCtorEq, Nat.reduceEqDiff, Int.reduceEq, fs_callW, fs_regionQ, quiet2_eq, lastOf_nil, lastOf_cons, List.take_succ_cons, List.take_zero, List.drop_succ_cons, List.drop_zero, Int.reduceBEq, Int.reduceBNe, ↓keepV_some, ↓qElse_some, ↓guardV_tt, ↓guardV_ff, ↓guardV_tf, ↓guardV_ft, cL, Int.reduceLE, Int.reduceLT, Int.reduceAdd, Int.reduceMul, Int.reduceSub, Int.reduceTDiv, Int.reduceTMod, Int.reduceNeg, Int.reduceToNat, Int.reduceGT, Int.reduceGE, Int.reducePow, Nat.reduceAdd, Nat.reduceMul, Nat.reduceSub, Nat.reduceDiv, Nat.reduceMod, Nat.reducePow, Nat.reduceLT, Nat.reduceLeDiff, cJ, u0, u1, u2, v0, v1, v2, ha, hb, hc, he, q1, q2, List.length_replicate, take_all, eV_cells, eV_size, eV_ok, eV_fold, ns_len, p1, p2, rf_eV]
    rfl
theorem eight_eq (p : Go.Cv.Pt Go.Fp.P Go.Fp.d) : padd (padd (padd p p) (padd p p)) (padd (padd p p) (padd p p)) = pmul 8 p := by
  have h2 : pmul 2 p = padd p p := Go.Cv.mul_two Go.Fp.fld p
  have h4 : pmul 4 p = padd (pmul 2 p) (pmul 2 p) := Go.Cv.mul_add Go.Fp.fld 2 2 p
  have h8 : pmul 8 p = padd (pmul 4 p) (pmul 4 p) := Go.Cv.mul_add Go.Fp.fld 4 4 p
  rw [h8, h4, h2]
theorem tiny_v {l : List Nat} {p : Go.Cv.Pt Go.Fp.P Go.Fp.d} (h : RepL l p) : evVal T 20 [eV l] = some (.bool (decide (pmul 8 p = pzero))) := by
  obtain ⟨a, ha, ra⟩ := twiceL h
  obtain ⟨b, hb, rb⟩ := twiceL ra
  obtain ⟨c, hc, rc⟩ := twiceL rb
  obtain ⟨z, hz, rz⟩ := zero_v
  have he := equal_v rc rz
  rw [eight_eq] at he
  have p1 := h.len
  apply evVal_ex
  apply Exists.intro
  rw [evFun_fn (fn := a39) rfl]
  simp only [a39, envOf, quiet, cF, ↓pF, reduceCtorEq, Nat.reduceEqDiff, Int.reduceEq, fs_callW, fs_regionQ, quiet2_eq, lastOf_nil, lastOf_cons, List.take_succ_cons, List.take_zero, List.drop_succ_cons, List.drop_zero, Int.reduceBEq, Int.reduceBNe, ↓keepV_some, ↓qElse_some, ↓guardV_tt, ↓guardV_ff, ↓guardV_tf, ↓guardV_ft, cL, Int.reduceLE, Int.reduceLT, Int.reduceAdd, Int.reduceMul, Int.reduceSub, Int.reduceTDiv, Int.reduceTMod, Int.reduceNeg, Int.reduceToNat, Int.reduceGT, Int.reduceGE, Int.reducePow, Nat.reduceAdd, Nat.reduceMul, Nat.reduceSub, Nat.reduceDiv, Nat.reduceMod, Nat.reducePow, Nat.reduceLT, Nat.reduceLeDiff, cJ, ha, hb, hc, hz, he, take_all, eV_cells, eV_size, eV_ok, eV_fold, ns_len, p1, rf_eV]
  rfl
def encN (p : Go.Cv.Pt Go.Fp.P Go.Fp.d) : Nat := p.y.val + (p.x.val % 2) * 2 ^ 255
def enc (p : Go.Cv.Pt Go.Fp.P Go.Fp.d) : List Nat := dig 256 32 (encN p)
theorem enc_len (p : Go.Cv.Pt Go.Fp.P Go.Fp.d) : (enc p).length = 32 := dig_len _ _ _
theorem enc_lt (p : Go.Cv.Pt Go.Fp.P Go.Fp.d) : ∀ x ∈ enc p, x < 256 := dig32_lt
theorem val_lt (a : Go.Fp.Fe) : a.val < 2 ^ 255 := Nat.lt_trans a.isLt (by rw [Go.Fp.P_eq]; decide)
theorem encN_lt (p : Go.Cv.Pt Go.Fp.P Go.Fp.d) : encN p < 256 ^ 32 := by
  have h1 := val_lt p.y
  have h2 := Nat.mod_lt p.x.val (by decide : 0 < 2)
  unfold encN
  have : p.x.val % 2 * 2 ^ 255 ≤ 1 * 2 ^ 255 := Nat.mul_le_mul_right _ (by omega)
  have e : (256 : Nat) ^ 32 = 2 ^ 255 + 2 ^ 255 := by decide
  omega
theorem encode_v {l : List Nat} {p : Go.Cv.Pt Go.Fp.P Go.Fp.d} (h : RepL l p) : evVal T 16 [eV l] = some (.agg (u8s (enc p)).toArray) := by
  obtain ⟨x, y, z, t, rfl, h⟩ := h
  obtain ⟨i, hi, Ei, fi⟩ := invert_v h.ez
  obtain ⟨a, ha, Ea, fa⟩ := mul_ev h.ey Ei
  obtain ⟨b, hb, Eb, fb⟩ := mul_ev h.ex Ei
  have hinv := Go.Fp.iv_mul h.nz
  have fa' : fe a = p.y := by rw [fa, fi, h.y]; grobner
  have fb' : fe b = p.x := by rw [fb, fi, h.x]; grobner
  have k1 := bytes_v Ea
  have k2 := odd_v Eb
  rw [fa'] at k1
  rw [fb'] at k2
  obtain ⟨u0, u1, u2, u3⟩ := quad h.ex h.ey h.ez h.et
  have p1 := pL_len h.ex h.ey h.ez h.et
  have L1 := Ei.len
  have lk : (dig 256 32 p.y.val).length = 32 := dig_len _ _ _
  have l0 : (dig 256 32 0).length = 32 := rfl
  have hz32 : List.replicate 32 (Value.int .u8 0) = u8s (dig 256 32 0) := rfl
  generalize pL x y z t = L at *
  by_cases ho : p.x.val % 2 = 1
  · rw [decide_eq_true ho] at k2
    have hv := val_lt p.y
    obtain ⟨w, hw⟩ : ∃ w, (dig 256 32 p.y.val)[31]? = some w := ⟨_, List.getElem?_eq_getElem (by rw [dig_len]; decide)⟩
    have hwc := u8s_get hw
    have hw' : w < 256 := dig_lt (by decide) (List.mem_of_getElem? hw)
    have hput := dig_put (w := 8) (m := 32) (q := 31) (s := 7) (y := 1) (M := p.y.val) (by decide) (by decide) hv (by decide)
    have hgd : (dig (2 ^ 8) 32 p.y.val).getD 31 0 = w := by rw [List.getD_eq_getElem?_getD]; rw [show (2 : Nat) ^ 8 = 256 from rfl, hw]; rfl
    rw [hgd] at hput
    have hset := u8s_set (dig 256 32 p.y.val) 31 (w ||| 128)
    rw [show (dig 256 32 p.y.val).set 31 (w ||| 128) = enc p from by rw [enc, encN, ho]; exact hput] at hset
    have o1 : bitsOp .or .u8 (w : Int) 128 = ((w ||| 128 : Nat) : Int) := bits_or (k := .u8) (a := w) (b := 128) rfl hw' (by decide)
    have le := enc_len p
    generalize enc p = E at *
    apply evVal_ex
    apply Exists.intro
    rw [evFun_fn (fn := a29) rfl]
    simp only [a29, envOf, quiet, cF, ↓pF, reduceCtorEq, Nat.reduceEqDiff, Int.reduceEq, fs_callW, fs_regionQ, quiet2_eq, lastOf_nil, lastOf_cons, List.take_succ_cons, List.take_zero, List.drop_succ_cons, List.drop_zero, Int.reduceBEq, Int.reduceBNe, ↓keepV_some, ↓qElse_some, ↓guardV_tt, ↓guardV_ff, ↓guardV_tf, ↓guardV_ft, cL, Int.reduceLE, Int.reduceLT, Int.reduceAdd, Int.reduceMul, Int.reduceSub, Int.reduceTDiv, Int.reduceTMod, Int.reduceNeg, Int.reduceToNat, Int.reduceGT, Int.reduceGE, Int.reducePow, Nat.reduceAdd, Nat.reduceMul, Nat.reduceSub, Nat.reduceDiv, Nat.reduceMod, Nat.reducePow, Nat.reduceLT, Nat.reduceLeDiff, cJ, hz32, u0, u1, u2, hi, ha, hb, k1, k2, hwc, o1, hset, List.length_replicate, take_all, eV_cells, eV_size, eV_ok, eV_fold, ns_len, u8s_len, lk, l0, le, p1, L1, rf_eV]
    rfl
  · rw [decide_eq_false ho] at k2
    have he : enc p = dig 256 32 p.y.val := by rw [enc, encN, show p.x.val % 2 = 0 by omega, Nat.zero_mul, Nat.add_zero]
    rw [he]
    generalize dig 256 32 p.y.val = E at *
    apply evVal_ex
    apply Exists.intro
    rw [evFun_fn (fn := a29) rfl]
    simp only [a29, envOf, quiet, cF, ↓pF, reduceCtorEq, Nat.reduceEqDiff, Int.reduceEq, fs_callW, fs_regionQ, quiet2_eq, lastOf_nil, lastOf_cons, List.take_succ_cons, List.take_zero, List.drop_succ_cons, List.drop_zero, Int.reduceBEq, Int.reduceBNe, ↓keepV_some, ↓qElse_some, ↓guardV_tt, ↓guardV_ff, ↓guardV_tf, ↓guardV_ft, cL, Int.reduceLE, Int.reduceLT, Int.reduceAdd, Int.reduceMul, Int.reduceSub, Int.reduceTDiv, Int.reduceTMod, Int.reduceNeg, Int.reduceToNat, Int.reduceGT, Int.reduceGE, Int.reducePow, Nat.reduceAdd, Nat.reduceMul, Nat.reduceSub, Nat.reduceDiv, Nat.reduceMod, Nat.reducePow, Nat.reduceLT, Nat.reduceLeDiff, cJ, hz32, u0, u1, u2, hi, ha, hb, k1, k2, List.length_replicate, take_all, eV_cells, eV_size, eV_ok, eV_fold, ns_len, u8s_len, lk, l0, p1, L1, rf_eV]
    rfl
def bxN : Nat := 15112221349535400772501151409588531511454012693041857206046113283949847762202
def byN : Nat := 46316835694926478169428394003475163141307993866256225615783033603165251855960
def pbase : Go.Cv.Pt Go.Fp.P Go.Fp.d := ⟨Go.Fp.fp bxN, Go.Fp.fp byN, by
  unfold Go.Cv.On Go.Fp.d
  have h : (Go.Fp.fp byN * Go.Fp.fp byN : Go.Fp.Fe) = Go.Fp.fp bxN * Go.Fp.fp bxN + (1 + Go.Fp.fp Go.Fp.dN * (Go.Fp.fp bxN * Go.Fp.fp bxN) * (Go.Fp.fp byN * Go.Fp.fp byN)) := by
    rw [← Go.Fp.fp_one, ← Go.Fp.fp_mul, ← Go.Fp.fp_mul, ← Go.Fp.fp_mul, ← Go.Fp.fp_mul, ← Go.Fp.fp_add, ← Go.Fp.fp_add]
    exact Go.Fp.fp_eq.2 (by decide +kernel)
  grobner⟩
def bxK : List Nat := dig 256 32 bxN
def byK : List Nat := dig 256 32 byN
theorem bxK_num : num 256 bxK = bxN := by decide +kernel
theorem byK_num : num 256 byK = byN := by decide +kernel
theorem base_v : ∃ r, evVal T 14 [] = some (eV r) ∧ RepL r pbase := by
  have h1 := of_v (k := bxK) (dig_len _ _ _) dig32_lt
  have h2 := of_v (k := byK) (dig_len _ _ _) dig32_lt
  have E1 := of_el (V := num 256 bxK % 2 ^ 255)
  have E2 := of_el (V := num 256 byK % 2 ^ 255)
  have f1 : fe (dig (2 ^ 51) 5 (num 256 bxK % 2 ^ 255)) = Go.Fp.fp bxN := by unfold fe; rw [of_v51, bxK_num]; rfl
  have f2 : fe (dig (2 ^ 51) 5 (num 256 byK % 2 ^ 255)) = Go.Fp.fp byN := by unfold fe; rw [of_v51, byK_num]; rfl
  generalize dig (2 ^ 51) 5 (num 256 bxK % 2 ^ 255) = X at *
  generalize dig (2 ^ 51) 5 (num 256 byK % 2 ^ 255) = Y at *
  obtain ⟨t, ht, Et, ft⟩ := mul_ev E1 E2
  have E3 : ∃ O : List Nat, O = [1, 0, 0, 0, 0] := ⟨_, rfl⟩
  obtain ⟨O, hO⟩ := E3
  have E3 : El O (2 ^ 52) := by rw [hO]; exact one_el
  have v1 : evVal T 28 [.int .u32 1] = some (eV O) := by rw [hO]; exact one_v
  have f3 : fe O = 1 := by rw [hO]; exact one_fe
  clear hO
  have hf := fill4 E1 E2 E3 Et
  have p1 := pL_len E1 E2 E3 Et
  refine ⟨pL X Y O t, ?_, X, Y, O, t, rfl, E1, E2, E3, Et, by rw [f3]; exact Go.Fp.one_ne, by rw [f1, f3]; simp only [pbase]; grobner, by rw [f2, f3]; simp only [pbase]; grobner, by rw [ft, f1, f2, f3]; simp only [pbase]; grobner⟩
  have L1 := E1.len
  have L2 := E2.len
  have g1 : fillL (List.replicate 32 (Value.int .u8 0)) [(0, 1, .int .u8 26), (1, 1, .int .u8 213), (2, 1, .int .u8 37), (3, 1, .int .u8 143), (4, 1, .int .u8 96), (5, 1, .int .u8 45), (6, 1, .int .u8 86), (7, 1, .int .u8 201), (8, 1, .int .u8 178), (9, 1, .int .u8 167), (10, 1, .int .u8 37), (11, 1, .int .u8 149), (12, 1, .int .u8 96), (13, 1, .int .u8 199), (14, 1, .int .u8 44), (15, 1, .int .u8 105), (16, 1, .int .u8 92), (17, 1, .int .u8 220), (18, 1, .int .u8 214), (19, 1, .int .u8 253), (20, 1, .int .u8 49), (21, 1, .int .u8 226), (22, 1, .int .u8 164), (23, 1, .int .u8 192), (24, 1, .int .u8 254), (25, 1, .int .u8 83), (26, 1, .int .u8 110), (27, 1, .int .u8 205), (28, 1, .int .u8 211), (29, 1, .int .u8 54), (30, 1, .int .u8 105), (31, 1, .int .u8 33)] = some (u8s bxK) := by
    have : bxK = [26, 213, 37, 143, 96, 45, 86, 201, 178, 167, 37, 149, 96, 199, 44, 105, 92, 220, 214, 253, 49, 226, 164, 192, 254, 83, 110, 205, 211, 54, 105, 33] := by decide +kernel
    rw [this]; rfl
  have g2 : fillL (List.replicate 32 (Value.int .u8 0)) [(0, 1, .int .u8 88), (1, 1, .int .u8 102), (2, 1, .int .u8 102), (3, 1, .int .u8 102), (4, 1, .int .u8 102), (5, 1, .int .u8 102), (6, 1, .int .u8 102), (7, 1, .int .u8 102), (8, 1, .int .u8 102), (9, 1, .int .u8 102), (10, 1, .int .u8 102), (11, 1, .int .u8 102), (12, 1, .int .u8 102), (13, 1, .int .u8 102), (14, 1, .int .u8 102), (15, 1, .int .u8 102), (16, 1, .int .u8 102), (17, 1, .int .u8 102), (18, 1, .int .u8 102), (19, 1, .int .u8 102), (20, 1, .int .u8 102), (21, 1, .int .u8 102), (22, 1, .int .u8 102), (23, 1, .int .u8 102), (24, 1, .int .u8 102), (25, 1, .int .u8 102), (26, 1, .int .u8 102), (27, 1, .int .u8 102), (28, 1, .int .u8 102), (29, 1, .int .u8 102), (30, 1, .int .u8 102), (31, 1, .int .u8 102)] = some (u8s byK) := by
    have : byK = [88, 102, 102, 102, 102, 102, 102, 102, 102, 102, 102, 102, 102, 102, 102, 102, 102, 102, 102, 102, 102, 102, 102, 102, 102, 102, 102, 102, 102, 102, 102, 102] := by decide +kernel
    rw [this]; rfl
  generalize pL X Y O t = Q at *
  apply evVal_ex
  apply Exists.intro
  rw [evFun_fn (fn := a25) rfl]
  simp only [a25, envOf, quiet, cF, ↓pF, reduceCtorEq, Nat.reduceEqDiff, Int.reduceEq, fs_callW, fs_regionQ, quiet2_eq, lastOf_nil, lastOf_cons, List.take_succ_cons, List.take_zero, List.drop_succ_cons, List.drop_zero, Int.reduceBEq, Int.reduceBNe, ↓keepV_some, ↓qElse_some, ↓guardV_tt, ↓guardV_ff, ↓guardV_tf, ↓guardV_ft, cL, Int.reduceLE, Int.reduceLT, Int.reduceAdd, Int.reduceMul, Int.reduceSub, Int.reduceTDiv, Int.reduceTMod, Int.reduceNeg, Int.reduceToNat, Int.reduceGT, Int.reduceGE, Int.reducePow, Nat.reduceAdd, Nat.reduceMul, Nat.reduceSub, Nat.reduceDiv, Nat.reduceMod, Nat.reducePow, Nat.reduceLT, Nat.reduceLeDiff, cJ, g1, g2, h1, h2, v1, ht, hf, List.length_replicate, take_all, eV_cells, eV_size, eV_ok, eV_fold, ns_len, p1, L1, L2, rf_eV]
  rfl
end Go.Ev.Ytgacigcbglflkaa
set_option linter.unusedSimpArgs false
set_option linter.unusedVariables false
namespace Go.Ev.Ytgacigcbglflkaa
open Go Go.Ev
attribute [local congr] bind_congr2 ite_congr2 qElse_congr gate_congr guardV_congr
set_option maxRecDepth 100000
theorem part20 {a b c : List Nat} {n : Nat} (hb : b.length = 20) (ha : a.length = n) : List.take 20 (List.drop n (ns .u64 (a ++ (b ++ c)))) = ns .u64 b := by
  simp only [ns_append]
  rw [List.drop_append_of_le_length (by rw [ns_len]; omega), List.drop_of_length_le (by rw [ns_len]; omega), List.nil_append, List.take_append_of_le_length (by rw [ns_len]; omega), List.take_of_length_le (by rw [ns_len]; omega)]
theorem adds_body {H : List Ob} {l : List Ob} {id n i : Nat} {o x r d : List Nat} {R : Ob} {cs : List Value} {g : List Ob} (hi : i < n) (hn : n < 100) (l1 : x.length = 20) (l2 : o.length = 20) (l4 : d.length = 5) (hm : evVal T 33 [eV o, eV x, eV d] = some (eV r)) (l3 : r.length = 20)
    (hA : ∀ l, (H ++ l)[id]? = some ⟨cs, true, true, true, 1⟩) (hcs : (cs.drop (i * 20)).take 20 = ns .u64 x) (hlen : i * 20 + 20 ≤ cs.length) :
    evCode T H.length a27_l0 ⟨[(2, .pointer (some ⟨H.length, 0, none⟩)), (3, .pointer (some ⟨H.length + 1, 0, none⟩)), (4, .pointer (some ⟨H.length + 2, 0, none⟩)), (9, .slice (some ⟨id, 0, none⟩) n n), (10, .int .i64 n), (11, .int .i64 i)], H ++ (R :: ⟨ns .u64 o, true, true, true, 1⟩ :: ⟨ns .u64 d, true, true, true, 1⟩ :: g), []⟩ =
      some (.normal, ⟨[(2, .pointer (some ⟨H.length, 0, none⟩)), (3, .pointer (some ⟨H.length + 1, 0, none⟩)), (4, .pointer (some ⟨H.length + 2, 0, none⟩)), (9, .slice (some ⟨id, 0, none⟩) n n), (10, .int .i64 n), (11, .int .i64 ((i + 1 : Nat) : Int))], H ++ (R :: ⟨ns .u64 r, true, true, true, 1⟩ :: ⟨ns .u64 d, true, true, true, 1⟩ :: (g ++ [⟨ns .u64 x, true, true, true, 1⟩])), []⟩) := by
  have hz : ∃ Z, List.replicate 20 (Value.int .u64 0) = ns .u64 Z ∧ Z.length = 20 := ⟨List.replicate 20 0, rfl, rfl⟩
  obtain ⟨Z, hz, l0⟩ := hz
  have e1 : ((i : Int) < (n : Int)) = True := eq_true (by omega)
  have w3 : IntKind.i64.wrap ((i : Int) + 1) = ((i + 1 : Nat) : Int) := wrap_nat (n := i + 1) (by omega)
  simp only [a27_l0, envOf, quiet, cF, ↓pF, reduceCtorEq, Nat.reduceEqDiff, Int.reduceEq, fs_callW, fs_regionP, ↓keepV_some, ↓qElse_some, ↓guardV_tt, ↓guardV_ff, ↓guardV_tf, ↓guardV_ft, cL, Int.reduceLE, Int.reduceLT, Int.reduceAdd, Int.reduceMul, Int.reduceSub, Int.reduceTDiv, Int.reduceTMod, Int.reduceNeg, Int.reduceToNat, Int.reduceGT, Int.reduceGE, Int.reducePow, Nat.reduceAdd, Nat.reduceMul, Nat.reduceSub, Nat.reduceDiv, Nat.reduceMod, Nat.reducePow, Nat.reduceLT, Nat.reduceLeDiff, cJ, Nat.add_assoc, hz, hA, hcs, hlen, hm, eV_cells, eV_size, eV_ok, eV_fold, ns_len, l0, l1, l2, l3, l4, rf_eV, e1, w3]
inductive Reps : List (List Nat) → List (Go.Cv.Pt Go.Fp.P Go.Fp.d) → Prop
  | nil : Reps [] []
  | cons {x xs p ps} : RepL x p → Reps xs ps → Reps (x :: xs) (p :: ps)
theorem Reps.len {xs : List (List Nat)} {ps : List (Go.Cv.Pt Go.Fp.P Go.Fp.d)} (h : Reps xs ps) : xs.length = ps.length := by
  induction h with
  | nil => rfl
  | cons _ _ ih => simp [ih]
theorem Reps.all {xs : List (List Nat)} {ps : List (Go.Cv.Pt Go.Fp.P Go.Fp.d)} (h : Reps xs ps) : ∀ x ∈ xs, x.length = 20 := by
  induction h with
  | nil => simp
  | cons h _ ih => intro y hy; rcases List.mem_cons.1 hy with rfl | hy; exact h.len; exact ih y hy
theorem Reps.get {xs : List (List Nat)} {ps : List (Go.Cv.Pt Go.Fp.P Go.Fp.d)} (h : Reps xs ps) : ∀ {i : Nat} {x : List Nat}, xs[i]? = some x → ∃ p, ps[i]? = some p ∧ RepL x p := by
  induction h with
  | nil => intro i x h; simp at h
  | cons h _ ih =>
    intro i x hx
    cases i with
    | zero => simp at hx; subst hx; exact ⟨_, rfl, h⟩
    | succ i => simp at hx; simpa using ih hx
theorem flat20 : ∀ (ys : List (List Nat)), (∀ x ∈ ys, x.length = 20) → ys.flatten.length = ys.length * 20 := by
  intro ys hy
  induction ys with
  | nil => rfl
  | cons y ys ih =>
    rw [List.flatten_cons, List.length_append, ih (fun x hx => hy x (by simp [hx])), (hy y (by simp)), List.length_cons]; omega
theorem adds_ev {H : List Ob} {id n : Nat} {xs : List (List Nat)} {ps : List (Go.Cv.Pt Go.Fp.P Go.Fp.d)} (hn : xs.length = n) (hN : n < 100) (hx : Reps xs ps) (h : H[id]? = some ⟨ns .u64 xs.flatten, true, true, true, 1⟩) :
    ∃ r d, evFun T 22 [.slice (some ⟨id, 0, none⟩) n n] H = some (eV r, H ++ (⟨ns .u64 r, true, true, true, 1⟩ :: ⟨ns .u64 r, true, true, true, 1⟩ :: ⟨ns .u64 d, true, true, true, 1⟩ :: xs.map fun x => (⟨ns .u64 x, true, true, true, 1⟩ : Ob)), []) ∧ RepL r (ps.foldl padd pzero) := by
  have hid : id < H.length := (List.getElem?_eq_some_iff.1 h).1
  have hA : ∀ l, (H ++ l)[id]? = some ⟨ns .u64 xs.flatten, true, true, true, 1⟩ := fun l => by rw [List.getElem?_append_left hid]; exact h
  obtain ⟨d, hd, Ed, fd⟩ := factor_v
  obtain ⟨z, hz, Ez⟩ := zero_v
  have hZ : ∃ Z, List.replicate 20 (Value.int .u64 0) = ns .u64 Z ∧ Z.length = 20 := ⟨List.replicate 20 0, rfl, rfl⟩
  obtain ⟨Z, hZ, l0⟩ := hZ
  obtain ⟨st, hb, r, rfl, hr1⟩ := block_inv (T := T) (base := H.length) (id := 0) (body := a27_l0)
    (fun i st => ∃ r : List Nat, st = ⟨[(2, .pointer (some ⟨H.length, 0, none⟩)), (3, .pointer (some ⟨H.length + 1, 0, none⟩)), (4, .pointer (some ⟨H.length + 2, 0, none⟩)), (9, .slice (some ⟨id, 0, none⟩) n n), (10, .int .i64 n), (11, .int .i64 (i : Nat))], H ++ (⟨ns .u64 Z, true, true, true, 1⟩ :: ⟨ns .u64 r, true, true, true, 1⟩ :: ⟨ns .u64 d, true, true, true, 1⟩ :: ((xs.take i).map fun x => (⟨ns .u64 x, true, true, true, 1⟩ : Ob))), []⟩ ∧ RepL r ((ps.take i).foldl padd pzero))
    (Q := fun st => ∃ r : List Nat, st = ⟨[(2, .pointer (some ⟨H.length, 0, none⟩)), (3, .pointer (some ⟨H.length + 1, 0, none⟩)), (4, .pointer (some ⟨H.length + 2, 0, none⟩)), (9, .slice (some ⟨id, 0, none⟩) n n), (10, .int .i64 n), (11, .int .i64 n), (12, .bool false)], H ++ (⟨ns .u64 Z, true, true, true, 1⟩ :: ⟨ns .u64 r, true, true, true, 1⟩ :: ⟨ns .u64 d, true, true, true, 1⟩ :: (xs.map fun x => (⟨ns .u64 x, true, true, true, 1⟩ : Ob))), []⟩ ∧ RepL r (ps.foldl padd pzero))
    n (s := ⟨[(2, .pointer (some ⟨H.length, 0, none⟩)), (3, .pointer (some ⟨H.length + 1, 0, none⟩)), (4, .pointer (some ⟨H.length + 2, 0, none⟩)), (9, .slice (some ⟨id, 0, none⟩) n n), (10, .int .i64 n), (11, .int .i64 0)], H ++ [⟨ns .u64 Z, true, true, true, 1⟩, ⟨ns .u64 z, true, true, true, 1⟩, ⟨ns .u64 d, true, true, true, 1⟩], []⟩) ⟨z, rfl, Ez⟩
    (fun i st hi hs => by
      obtain ⟨r, rfl, hr1⟩ := hs
      obtain ⟨x, hxi⟩ : ∃ y, xs[i]? = some y := ⟨_, List.getElem?_eq_getElem (by omega)⟩
      obtain ⟨p, hpi, hxe⟩ := hx.get hxi
      obtain ⟨r', hm, g1⟩ := plusL hr1 hxe Ed fd
      have hsplit : xs = xs.take i ++ x :: xs.drop (i + 1) := by
        have h1 := List.getElem?_eq_some_iff.1 hxi
        conv => lhs; rw [← List.take_append_drop i xs, List.drop_eq_getElem_cons h1.1, h1.2]
      have htl : (xs.take i).flatten.length = i * 20 := by
        rw [flat20 _ (fun y hy => hx.all y (List.mem_of_mem_take hy)), List.length_take, Nat.min_eq_left (by omega)]
      have hcs : ((ns .u64 xs.flatten).drop (i * 20)).take 20 = ns .u64 x := by
        conv => lhs; rw [hsplit, List.flatten_append, List.flatten_cons]
        exact part20 hxe.len htl
      have hb := adds_body (R := ⟨ns .u64 Z, true, true, true, 1⟩) (g := (xs.take i).map fun x => (⟨ns .u64 x, true, true, true, 1⟩ : Ob)) (l := []) hi hN hxe.len hr1.len Ed.len hm g1.len hA hcs (by rw [ns_len, flat20 xs hx.all, hn]; omega)
      have htk : xs.take (i + 1) = xs.take i ++ [x] := by rw [List.take_add_one, hxi]; rfl
      have htp : ps.take (i + 1) = ps.take i ++ [p] := by rw [List.take_add_one, hpi]; rfl
      refine ⟨_, hb, r', ?_, ?_⟩
      · rw [htk, List.map_append]; rfl
      · rw [htp, List.foldl_append]; exact g1)
    (fun st hs => by
      obtain ⟨r, rfl, hr1⟩ := hs
      have e1 : ((n : Int) < (n : Int)) = False := eq_false (by omega)
      have ht : xs.take n = xs := List.take_of_length_le (by omega)
      have ht2 : ps.take n = ps := List.take_of_length_le (by have := hx.len; omega)
      rw [ht2] at hr1
      rw [ht]
      refine ⟨_, ?_, r, rfl, hr1⟩
      simp only [a27_l0, envOf, quiet, cF, ↓pF, reduceCtorEq, Nat.reduceEqDiff, Int.reduceEq, fs_callW, fs_regionP, ↓keepV_some, ↓qElse_some, ↓guardV_tt, ↓guardV_ff, ↓guardV_tf, ↓guardV_ft, cL, Int.reduceLE, Int.reduceLT, Int.reduceAdd, Int.reduceMul, Int.reduceSub, Int.reduceTDiv, Int.reduceTMod, Int.reduceNeg, Int.reduceToNat, Int.reduceGT, Int.reduceGE, Int.reducePow, Nat.reduceAdd, Nat.reduceMul, Nat.reduceSub, Nat.reduceDiv, Nat.reduceMod, Nat.reducePow, Nat.reduceLT, Nat.reduceLeDiff, e1])
  refine ⟨r, d, ?_, hr1⟩
  have l1 := hr1.len
  have l2 := Ez.len
  have l3 := Ed.len
  rw [evFun_fn (fn := a27) rfl]
  have hz5 : List.replicate 5 (Value.int .u64 0) = ns .u64 [0, 0, 0, 0, 0] := rfl
  have l5 : ([0, 0, 0, 0, 0] : List Nat).length = 5 := rfl
  simp only [a27, envOf, quiet, cF, ↓pF, reduceCtorEq, Nat.reduceEqDiff, Int.reduceEq, fs_callW, fs_regionP, ↓keepV_some, ↓qElse_some, ↓guardV_tt, ↓guardV_ff, ↓guardV_tf, ↓guardV_ft, cL, Int.reduceLE, Int.reduceLT, Int.reduceAdd, Int.reduceMul, Int.reduceSub, Int.reduceTDiv, Int.reduceTMod, Int.reduceNeg, Int.reduceToNat, Int.reduceGT, Int.reduceGE, Int.reducePow, Nat.reduceAdd, Nat.reduceMul, Nat.reduceSub, Nat.reduceDiv, Nat.reduceMod, Nat.reducePow, Nat.reduceLT, Nat.reduceLeDiff, cJ, Nat.add_assoc, hZ, hz5, l5, hd, hz, hb, eV_cells, eV_size, eV_ok, eV_fold, ns_len, l0, l1, l2, l3, rf_eV]
theorem fold2 {p q : Go.Cv.Pt Go.Fp.P Go.Fp.d} : [p, q].foldl padd pzero = padd p q := by
  show padd (padd pzero p) q = _
  rw [show padd pzero p = p from Go.Cv.zero_add Go.Fp.fld p]
end Go.Ev.Ytgacigcbglflkaa
set_option linter.unusedSimpArgs false
set_option linter.unusedVariables false
namespace Go.Ev.Ytgacigcbglflkaa
open Go Go.Ev
attribute [local congr] bind_congr2 ite_congr2 qElse_congr gate_congr guardV_congr
set_option maxRecDepth 100000
def rootW (u v : Go.Fp.Fe) : Go.Fp.Fe := u * (v * v * v) * Go.Fp.pow (u * (v * v * v) * (v * v * v) * v) (2 ^ 252 - 1 - 2)
def jj : Go.Fp.Fe := Go.Fp.pow 2 (2 ^ 253 - 1 - 4)
theorem jj_eq : jj = Go.Fp.i := by
  show Go.Fp.pow (Go.Fp.fp 2) _ = Go.Fp.fp Go.Fp.iN
  exact Go.Fp.pow_test (f := 256) (by decide +kernel) (by decide +kernel)
theorem jj_sq : jj * jj = -1 := by rw [jj_eq]; exact Go.Fp.root_i
theorem quarter : (2 ^ 252 - 1 - 2) + (2 ^ 252 - 1 - 2) + 1 + ((2 ^ 252 - 1 - 2) + (2 ^ 252 - 1 - 2) + 1) = (Go.Fp.P - 1) / 2 := by rw [Go.Fp.P_eq]
theorem no_root {u v s : Go.Fp.Fe} (h1 : v * rootW u v * rootW u v ≠ u) (h2 : v * rootW u v * rootW u v ≠ -u) : v * (s * s) ≠ u := fun hs => by
  have F := Go.Fp.fld
  obtain ⟨g, hg⟩ : ∃ g, g = v * v * v * v * s := ⟨_, rfl⟩
  have ht : u * (v * v * v) * (v * v * v) * v = g * g := by subst hg; subst hs; grobner
  rcases Go.Fp.pow_half g with h | h
  · obtain ⟨k, hk⟩ : ∃ k, k = 2 ^ 252 - 1 - 2 := ⟨_, rfl⟩
    have hq := quarter
    rw [← hk] at hq
    rw [← hq, Go.Fp.pow_add, Go.Fp.pow_add, Go.Fp.pow_add, Go.Fp.pow_one] at h
    have hw : rootW u v = u * (v * v * v) * Go.Fp.pow (g * g) k := by unfold rootW; rw [ht, hk]
    rw [hw] at h1 h2
    generalize Go.Fp.pow (g * g) k = q at *
    have he : (q * q * (g * g) - 1) * (q * q * (g * g) + 1) = 0 := by clear h1 h2 hw ht hg hs; grobner
    have hv : v * (u * (v * v * v) * q) * (u * (v * v * v) * q) = u * (q * q * (g * g)) := by clear h1 h2 hw hg hs he h; grobner
    rcases F.dom he with h | h
    · exact h1 (by rw [hv]; clear h1 h2 hw ht hg hs he hv; grobner)
    · exact h2 (by rw [hv]; clear h1 h2 hw ht hg hs he hv; grobner)
  · have hu : u * (v * v * v) * (v * v * v) * v = 0 := by rw [ht, h]; grobner
    have hu0 : u = 0 := by
      rcases F.dom hu with h0 | h0
      · rcases F.dom h0 with h0 | h0
        · rcases F.dom h0 with h0 | h0
          · exact h0
          · rcases F.dom h0 with h0 | h0
            · rcases F.dom h0 with h0 | h0 <;> (rw [← hs, h0]; grobner)
            · rw [← hs, h0]; grobner
        · rcases F.dom h0 with h0 | h0
          · rcases F.dom h0 with h0 | h0 <;> (rw [← hs, h0]; grobner)
          · rw [← hs, h0]; grobner
      · rw [← hs, h0]; grobner
    exact h1 (by unfold rootW; rw [hu0]; grobner)
theorem ones252 : evVal T 62 [.int .i64 252, .int .u8 2] = some (.agg (u8s (dig 256 32 (2 ^ 252 - 1 - 2))).toArray) := ones_v (n := 252) (less := 2) (by decide) (by decide) (by decide)
theorem ones253 : evVal T 62 [.int .i64 253, .int .u8 4] = some (.agg (u8s (dig 256 32 (2 ^ 253 - 1 - 4))).toArray) := ones_v (n := 253) (less := 4) (by decide) (by decide) (by decide)
def rootV (r : List Nat) (ok : Bool) : Value := .tuple #[eV r, .bool ok]
theorem root_v {u v : List Nat} (Eu : El u (2 ^ 52)) (Ev : El v (2 ^ 52)) :
    ∃ r ok, evVal T 44 [eV u, eV v] = some (rootV r ok) ∧ El r (2 ^ 52) ∧ (ok = true → fe v * (fe r * fe r) = fe u ∧ ((fe r).val % 2 = 0 ∨ fe r = 0)) ∧ (ok = false → ∀ s, fe v * (s * s) ≠ fe u) := by
  obtain ⟨r1, hr1, Er1, fr1⟩ := prod_ev (H := [⟨ns .u64 u, true, true, true, 1⟩, ⟨ns .u64 v, true, true, true, 1⟩, ⟨ns .u64 [0, 0, 0, 0, 0], true, true, true, 1⟩, ⟨ns .u64 [v, v, v].flatten, true, true, true, 1⟩]) (id := 3) (n := 3) (xs := [v, v, v]) rfl (by decide) (by intro w hw; simp only [List.mem_cons, List.not_mem_nil, or_false] at hw; rcases hw with rfl | rfl | rfl <;> assumption) rfl
  simp only [List.map_cons, List.map_nil, List.cons_append, List.nil_append] at hr1
  simp only [List.map_cons, List.map_nil, List.foldl_cons, List.foldl_nil] at fr1
  obtain ⟨r2, hr2, Er2, fr2⟩ := prod_ev (H := [⟨ns .u64 u, true, true, true, 1⟩, ⟨ns .u64 v, true, true, true, 1⟩, ⟨ns .u64 [0, 0, 0, 0, 0], true, true, true, 1⟩, ⟨ns .u64 [v, v, v].flatten, true, true, true, 1⟩, ⟨ns .u64 r1, true, true, true, 1⟩, ⟨ns .u64 r1, true, true, true, 1⟩, ⟨ns .u64 v, true, true, true, 1⟩, ⟨ns .u64 v, true, true, true, 1⟩, ⟨ns .u64 v, true, true, true, 1⟩, ⟨ns .u64 r1, true, true, true, 1⟩, ⟨ns .u64 [u, r1, r1, v].flatten, true, true, true, 1⟩]) (id := 10) (n := 4) (xs := [u, r1, r1, v]) rfl (by decide) (by intro w hw; simp only [List.mem_cons, List.not_mem_nil, or_false] at hw; rcases hw with rfl | rfl | rfl | rfl <;> assumption) rfl
  simp only [List.map_cons, List.map_nil, List.cons_append, List.nil_append] at hr2
  simp only [List.map_cons, List.map_nil, List.foldl_cons, List.foldl_nil] at fr2
  obtain ⟨r3, hr3, Er3, fr3⟩ := power_ones (n := 252) (less := 2) Er2 (by decide) (by decide) (by decide)
  obtain ⟨r4, hr4, Er4, fr4⟩ := prod_ev (H := [⟨ns .u64 u, true, true, true, 1⟩, ⟨ns .u64 v, true, true, true, 1⟩, ⟨ns .u64 [0, 0, 0, 0, 0], true, true, true, 1⟩, ⟨ns .u64 [v, v, v].flatten, true, true, true, 1⟩, ⟨ns .u64 r1, true, true, true, 1⟩, ⟨ns .u64 r1, true, true, true, 1⟩, ⟨ns .u64 v, true, true, true, 1⟩, ⟨ns .u64 v, true, true, true, 1⟩, ⟨ns .u64 v, true, true, true, 1⟩, ⟨ns .u64 r1, true, true, true, 1⟩, ⟨ns .u64 [u, r1, r1, v].flatten, true, true, true, 1⟩, ⟨ns .u64 r2, true, true, true, 1⟩, ⟨ns .u64 r2, true, true, true, 1⟩, ⟨ns .u64 u, true, true, true, 1⟩, ⟨ns .u64 r1, true, true, true, 1⟩, ⟨ns .u64 r1, true, true, true, 1⟩, ⟨ns .u64 v, true, true, true, 1⟩, ⟨ns .u64 [u, r1, r3].flatten, true, true, true, 1⟩]) (id := 17) (n := 3) (xs := [u, r1, r3]) rfl (by decide) (by intro w hw; simp only [List.mem_cons, List.not_mem_nil, or_false] at hw; rcases hw with rfl | rfl | rfl <;> assumption) rfl
  simp only [List.map_cons, List.map_nil, List.cons_append, List.nil_append] at hr4
  simp only [List.map_cons, List.map_nil, List.foldl_cons, List.foldl_nil] at fr4
  obtain ⟨r5, hr5, Er5, fr5⟩ := prod_ev (H := [⟨ns .u64 u, true, true, true, 1⟩, ⟨ns .u64 v, true, true, true, 1⟩, ⟨ns .u64 [0, 0, 0, 0, 0], true, true, true, 1⟩, ⟨ns .u64 [v, v, v].flatten, true, true, true, 1⟩, ⟨ns .u64 r1, true, true, true, 1⟩, ⟨ns .u64 r1, true, true, true, 1⟩, ⟨ns .u64 v, true, true, true, 1⟩, ⟨ns .u64 v, true, true, true, 1⟩, ⟨ns .u64 v, true, true, true, 1⟩, ⟨ns .u64 r1, true, true, true, 1⟩, ⟨ns .u64 [u, r1, r1, v].flatten, true, true, true, 1⟩, ⟨ns .u64 r2, true, true, true, 1⟩, ⟨ns .u64 r2, true, true, true, 1⟩, ⟨ns .u64 u, true, true, true, 1⟩, ⟨ns .u64 r1, true, true, true, 1⟩, ⟨ns .u64 r1, true, true, true, 1⟩, ⟨ns .u64 v, true, true, true, 1⟩, ⟨ns .u64 [u, r1, r3].flatten, true, true, true, 1⟩, ⟨ns .u64 r4, true, true, true, 1⟩, ⟨ns .u64 r4, true, true, true, 1⟩, ⟨ns .u64 u, true, true, true, 1⟩, ⟨ns .u64 r1, true, true, true, 1⟩, ⟨ns .u64 r3, true, true, true, 1⟩, ⟨ns .u64 r4, true, true, true, 1⟩, ⟨ns .u64 [v, r4, r4].flatten, true, true, true, 1⟩]) (id := 24) (n := 3) (xs := [v, r4, r4]) rfl (by decide) (by intro w hw; simp only [List.mem_cons, List.not_mem_nil, or_false] at hw; rcases hw with rfl | rfl | rfl <;> assumption) rfl
  simp only [List.map_cons, List.map_nil, List.cons_append, List.nil_append] at hr5
  simp only [List.map_cons, List.map_nil, List.foldl_cons, List.foldl_nil] at fr5
  have k1 := eq_v Er5 Eu
  obtain ⟨nu, hnu, Enu, fnu⟩ := neg_v Eu
  have k2 := eq_v Er5 Enu
  obtain ⟨two, htwo⟩ : ∃ two : List Nat, two = [2, 0, 0, 0, 0] := ⟨_, rfl⟩
  have Etwo : El two (2 ^ 52) := by rw [htwo]; exact two_E
  have vtwo : evVal T 28 [.int .u32 2] = some (eV two) := by rw [htwo]; exact two_v
  have ftwo : fe two = 2 := by rw [htwo]; exact two_fe
  clear htwo
  obtain ⟨j, hj, Ej, fj⟩ := power_ones (n := 253) (less := 4) Etwo (by decide) (by decide) (by decide)
  obtain ⟨q, hq, Eq, fq⟩ := mul_ev Er4 Ej
  obtain ⟨n1, hn1, En1, fn1⟩ := neg_v Er4
  obtain ⟨n2, hn2, En2, fn2⟩ := neg_v Eq
  have o1 := odd_v Er4
  have o2 := odd_v Eq
  have c1 := ones252
  have c2 := ones253
  have g1 := fill3 Ev Ev Ev
  have g2 := fill4 Eu Er1 Er1 Ev
  rw [pL_flat] at g2
  have g3 := fill3 Eu Er1 Er3
  have g4 := fill3 Ev Er4 Er4
  have hw : fe r4 = rootW (fe u) (fe v) := by
    rw [fr4, fr3, fr1, fr2, fr1]; unfold rootW
    rw [show (1 * fe u * (1 * fe v * fe v * fe v) * (1 * fe v * fe v * fe v) * fe v) = fe u * (fe v * fe v * fe v) * (fe v * fe v * fe v) * fe v from by grobner]
    generalize Go.Fp.pow _ _ = p
    grobner
  have hjj : fe j = jj := by rw [fj, ftwo]; rfl
  have l1 := Eu.len
  have l2 := Ev.len
  have l3 := Er1.len
  have l4 := Er4.len
  have l5 := Er5.len
  have l6 := Eq.len
  have l7 := En1.len
  have l8 := En2.len
  have hz5 : List.replicate 5 (Value.int .u64 0) = ns .u64 [0, 0, 0, 0, 0] := rfl
  have hf5 : fillL (ns .u64 [0, 0, 0, 0, 0]) [] = some (ns .u64 [0, 0, 0, 0, 0]) := rfl
  have l0 : ([0, 0, 0, 0, 0] : List Nat).length = 5 := rfl
  clear Ej Etwo ftwo fj
  generalize dig 256 32 (2 ^ 252 - 1 - 2) = K1 at *
  generalize dig 256 32 (2 ^ 253 - 1 - 4) = K2 at *
  have hsq : fe r5 = fe v * rootW (fe u) (fe v) * rootW (fe u) (fe v) := by rw [fr5, hw]; generalize rootW (fe u) (fe v) = w; grobner
  have evn : ∀ a : Go.Fp.Fe, a.val % 2 = 1 → (-a).val % 2 = 0 ∨ -a = 0 := by
    intro a ha
    left
    have hlt := a.isLt
    have h0 : (Go.Fp.P - a.val) < Go.Fp.P := by omega
    have h1 : (-a).val = (Go.Fp.P - a.val) % Go.Fp.P := rfl
    rw [h1, Nat.mod_eq_of_lt h0]
    have hP : Go.Fp.P % 2 = 1 := by rw [Go.Fp.P_eq]
    omega
  by_cases hA : fe r5 = fe u
  · rw [decide_eq_true hA] at k1
    have hroot : fe v * (fe r4 * fe r4) = fe u := by rw [← hA, hsq, hw]; generalize rootW (fe u) (fe v) = w; grobner
    by_cases hO : (fe r4).val % 2 = 1
    · rw [decide_eq_true hO] at o1
      refine ⟨n1, true, ?_, En1, fun _ => ⟨?_, ?_⟩, fun h => by cases h⟩
      · apply evVal_ex
        apply Exists.intro
        rw [evFun_fn (fn := a60) rfl]
        simp only [a60, envOf, quiet, cF, ↓pF, reduceCtorEq, Nat.reduceEqDiff, Int.reduceEq, fs_callW, fs_regionQ, quiet2_eq, lastOf_nil, lastOf_cons, List.take_succ_cons, List.take_zero, List.drop_succ_cons, List.drop_zero, Int.reduceBEq, Int.reduceBNe, ↓keepV_some, ↓qElse_some, ↓guardV_tt, ↓guardV_ff, ↓guardV_tf, ↓guardV_ft, cL, Int.reduceLE, Int.reduceLT, Int.reduceAdd, Int.reduceMul, Int.reduceSub, Int.reduceTDiv, Int.reduceTMod, Int.reduceNeg, Int.reduceToNat, Int.reduceGT, Int.reduceGE, Int.reducePow, Nat.reduceAdd, Nat.reduceMul, Nat.reduceSub, Nat.reduceDiv, Nat.reduceMod, Nat.reducePow, Nat.reduceLT, Nat.reduceLeDiff, cJ, hz5, hf5, l0, g1, g2, g3, g4, c1, c2, hr1, hr2, hr3, hr4, hr5, k1, o1, hn1, l1, l2, l3, l4, l5, l7, List.length_replicate, take_all, eV_cells, eV_size, eV_ok, eV_fold, ns_len, rf_eV]
        rfl
      · rw [fn1, ← hroot]; generalize fe r4 = w; grobner
      · rw [fn1]; exact evn _ hO
    · rw [decide_eq_false hO] at o1
      refine ⟨r4, true, ?_, Er4, fun _ => ⟨hroot, by left; omega⟩, fun h => by cases h⟩
      apply evVal_ex
      apply Exists.intro
      rw [evFun_fn (fn := a60) rfl]
      simp only [a60, envOf, quiet, cF, ↓pF, reduceCtorEq, Nat.reduceEqDiff, Int.reduceEq, fs_callW, fs_regionQ, quiet2_eq, lastOf_nil, lastOf_cons, List.take_succ_cons, List.take_zero, List.drop_succ_cons, List.drop_zero, Int.reduceBEq, Int.reduceBNe, ↓keepV_some, ↓qElse_some, ↓guardV_tt, ↓guardV_ff, ↓guardV_tf, ↓guardV_ft, cL, Int.reduceLE, Int.reduceLT, Int.reduceAdd, Int.reduceMul, Int.reduceSub, Int.reduceTDiv, Int.reduceTMod, Int.reduceNeg, Int.reduceToNat, Int.reduceGT, Int.reduceGE, Int.reducePow, Nat.reduceAdd, Nat.reduceMul, Nat.reduceSub, Nat.reduceDiv, Nat.reduceMod, Nat.reducePow, Nat.reduceLT, Nat.reduceLeDiff, cJ, hz5, hf5, l0, g1, g2, g3, g4, c1, c2, hr1, hr2, hr3, hr4, hr5, k1, o1, hn1, l1, l2, l3, l4, l5, l7, List.length_replicate, take_all, eV_cells, eV_size, eV_ok, eV_fold, ns_len, rf_eV]
      rfl
  · rw [decide_eq_false hA] at k1
    by_cases hB : fe r5 = fe nu
    · rw [decide_eq_true hB] at k2
      have hroot : fe v * (fe q * fe q) = fe u := by
        have hs := jj_sq
        rw [hsq, fnu] at hB
        rw [fq, hw, hjj]
        generalize rootW (fe u) (fe v) = w at *
        clear k1 k2 o1 o2 c1 c2 hA hsq hw fr1 fr2 fr3 fr4 fr5
        grobner
      by_cases hO : (fe q).val % 2 = 1
      · rw [decide_eq_true hO] at o2
        refine ⟨n2, true, ?_, En2, fun _ => ⟨?_, ?_⟩, fun h => by cases h⟩
        · apply evVal_ex
          apply Exists.intro
          rw [evFun_fn (fn := a60) rfl]
          simp only [a60, envOf, quiet, cF, ↓pF, reduceCtorEq, Nat.reduceEqDiff, Int.reduceEq, fs_callW, fs_regionQ, quiet2_eq, lastOf_nil, lastOf_cons, List.take_succ_cons, List.take_zero, List.drop_succ_cons, List.drop_zero, Int.reduceBEq, Int.reduceBNe, ↓keepV_some, ↓qElse_some, ↓guardV_tt, ↓guardV_ff, ↓guardV_tf, ↓guardV_ft, cL, Int.reduceLE, Int.reduceLT, Int.reduceAdd, Int.reduceMul, Int.reduceSub, Int.reduceTDiv, Int.reduceTMod, Int.reduceNeg, Int.reduceToNat, Int.reduceGT, Int.reduceGE, Int.reducePow, Nat.reduceAdd, Nat.reduceMul, Nat.reduceSub, Nat.reduceDiv, Nat.reduceMod, Nat.reducePow, Nat.reduceLT, Nat.reduceLeDiff, cJ, hz5, hf5, l0, g1, g2, g3, g4, c1, c2, hr1, hr2, hr3, hr4, hr5, k1, k2, hnu, vtwo, hj, hq, o2, hn2, l1, l2, l3, l4, l5, l6, l8, List.length_replicate, take_all, eV_cells, eV_size, eV_ok, eV_fold, ns_len, rf_eV]
          rfl
        · rw [fn2, ← hroot]; generalize fe q = w; grobner
        · rw [fn2]; exact evn _ hO
      · rw [decide_eq_false hO] at o2
        refine ⟨q, true, ?_, Eq, fun _ => ⟨hroot, by left; omega⟩, fun h => by cases h⟩
        apply evVal_ex
        apply Exists.intro
        rw [evFun_fn (fn := a60) rfl]
        simp only [a60, envOf, quiet, cF, ↓pF, reduceCtorEq, Nat.reduceEqDiff, Int.reduceEq, fs_callW, fs_regionQ, quiet2_eq, lastOf_nil, lastOf_cons, List.take_succ_cons, List.take_zero, List.drop_succ_cons, List.drop_zero, Int.reduceBEq, Int.reduceBNe, ↓keepV_some, ↓qElse_some, ↓guardV_tt, ↓guardV_ff, ↓guardV_tf, ↓guardV_ft, cL, Int.reduceLE, Int.reduceLT, Int.reduceAdd, Int.reduceMul, Int.reduceSub, Int.reduceTDiv, Int.reduceTMod, Int.reduceNeg, Int.reduceToNat, Int.reduceGT, Int.reduceGE, Int.reducePow, Nat.reduceAdd, Nat.reduceMul, Nat.reduceSub, Nat.reduceDiv, Nat.reduceMod, Nat.reducePow, Nat.reduceLT, Nat.reduceLeDiff, cJ, hz5, hf5, l0, g1, g2, g3, g4, c1, c2, hr1, hr2, hr3, hr4, hr5, k1, k2, hnu, vtwo, hj, hq, o2, hn2, l1, l2, l3, l4, l5, l6, l8, List.length_replicate, take_all, eV_cells, eV_size, eV_ok, eV_fold, ns_len, rf_eV]
        rfl
    · rw [decide_eq_false hB] at k2
      refine ⟨[0, 0, 0, 0, 0], false, ?_, zero_el5, fun h => (by cases h), fun _ s => no_root (by rw [← hsq]; exact hA) (by rw [← hsq, ← fnu]; exact hB)⟩
      apply evVal_ex
      apply Exists.intro
      rw [evFun_fn (fn := a60) rfl]
      simp only [a60, envOf, quiet, cF, ↓pF, reduceCtorEq, Nat.reduceEqDiff, Int.reduceEq, fs_callW, fs_regionQ, quiet2_eq, lastOf_nil, lastOf_cons, List.take_succ_cons, List.take_zero, List.drop_succ_cons, List.drop_zero, Int.reduceBEq, Int.reduceBNe, ↓keepV_some, ↓qElse_some, ↓guardV_tt, ↓guardV_ff, ↓guardV_tf, ↓guardV_ft, cL, Int.reduceLE, Int.reduceLT, Int.reduceAdd, Int.reduceMul, Int.reduceSub, Int.reduceTDiv, Int.reduceTMod, Int.reduceNeg, Int.reduceToNat, Int.reduceGT, Int.reduceGE, Int.reducePow, Nat.reduceAdd, Nat.reduceMul, Nat.reduceSub, Nat.reduceDiv, Nat.reduceMod, Nat.reducePow, Nat.reduceLT, Nat.reduceLeDiff, cJ, hz5, hf5, l0, g1, g2, g3, g4, c1, c2, hr1, hr2, hr3, hr4, hr5, k1, k2, hnu, l1, l2, l3, l4, l5, List.length_replicate, take_all, eV_cells, eV_size, eV_ok, eV_fold, ns_len, rf_eV]
      rfl
end Go.Ev.Ytgacigcbglflkaa
set_option linter.unusedSimpArgs false
set_option linter.unusedVariables false
namespace Go.Ev.Ytgacigcbglflkaa
open Go Go.Ev
attribute [local congr] bind_congr2 ite_congr2 qElse_congr gate_congr guardV_congr
set_option maxRecDepth 100000
structure Jac where
  x : Nat
  y : Nat
  z : Nat
  t : Nat
structure JRep (a : Jac) (p : Go.Cv.Pt Go.Fp.P Go.Fp.d) : Prop where
  nz : Go.Fp.fp a.z ≠ 0
  x : Go.Fp.fp a.x = p.x * Go.Fp.fp a.z
  y : Go.Fp.fp a.y = p.y * Go.Fp.fp a.z
  t : Go.Fp.fp a.t = p.x * p.y * Go.Fp.fp a.z
def nsub (a b : Nat) : Nat := a + (Go.Fp.P - b % Go.Fp.P)
theorem fp_nsub (a b : Nat) : Go.Fp.fp (nsub a b) = Go.Fp.fp a - Go.Fp.fp b := by
  unfold nsub
  have h : b % Go.Fp.P ≤ Go.Fp.P := Nat.le_of_lt (Nat.mod_lt _ (by rw [Go.Fp.P_eq]; decide))
  rw [Go.Fp.fp_add, Go.Fp.fp_sub h, Go.Fp.fp_P, Go.Fp.fp_mod]
  grobner
def jaddA (a b : Jac) : Nat := nsub a.y a.x * nsub b.y b.x % Go.Fp.P
def jaddB (a b : Jac) : Nat := (a.y + a.x) * (b.y + b.x) % Go.Fp.P
def jaddC (a b : Jac) : Nat := 1 * 2 * Go.Fp.dN * a.t * b.t % Go.Fp.P
def jaddD (a b : Jac) : Nat := 1 * 2 * a.z * b.z % Go.Fp.P
def jfin (a b c e : Nat) : Jac := ⟨nsub b a * nsub e c % Go.Fp.P, (e + c) * (b + a) % Go.Fp.P, nsub e c * (e + c) % Go.Fp.P, nsub b a * (b + a) % Go.Fp.P⟩
def jadd (a b : Jac) : Jac := jfin (jaddA a b) (jaddB a b) (jaddC a b) (jaddD a b)
theorem JRep.add {a b : Jac} {p q : Go.Cv.Pt Go.Fp.P Go.Fp.d} (h1 : JRep a p) (h2 : JRep b q) : JRep (jadd a b) (padd p q) := by
  have ha : Go.Fp.fp (jaddA a b) = (Go.Fp.fp a.y - Go.Fp.fp a.x) * (Go.Fp.fp b.y - Go.Fp.fp b.x) := by
    unfold jaddA; rw [Go.Fp.fp_mod, Go.Fp.fp_mul, fp_nsub, fp_nsub]
  have hb : Go.Fp.fp (jaddB a b) = (Go.Fp.fp a.y + Go.Fp.fp a.x) * (Go.Fp.fp b.y + Go.Fp.fp b.x) := by
    unfold jaddB; rw [Go.Fp.fp_mod, Go.Fp.fp_mul, Go.Fp.fp_add, Go.Fp.fp_add]
  have hc : Go.Fp.fp (jaddC a b) = 1 * 2 * Go.Fp.d * Go.Fp.fp a.t * Go.Fp.fp b.t := by
    unfold jaddC; rw [Go.Fp.fp_mod, Go.Fp.fp_mul, Go.Fp.fp_mul, Go.Fp.fp_mul, Go.Fp.fp_mul, Go.Fp.fp_one, Go.Fp.fp_two]; rfl
  have hd : Go.Fp.fp (jaddD a b) = 1 * 2 * Go.Fp.fp a.z * Go.Fp.fp b.z := by
    unfold jaddD; rw [Go.Fp.fp_mod, Go.Fp.fp_mul, Go.Fp.fp_mul, Go.Fp.fp_mul, Go.Fp.fp_one, Go.Fp.fp_two]
  have hx : Go.Fp.fp (jadd a b).x = (Go.Fp.fp (jaddB a b) - Go.Fp.fp (jaddA a b)) * (Go.Fp.fp (jaddD a b) - Go.Fp.fp (jaddC a b)) := by
    show Go.Fp.fp (_ % _) = _; rw [Go.Fp.fp_mod, Go.Fp.fp_mul, fp_nsub, fp_nsub]
  have hy : Go.Fp.fp (jadd a b).y = (Go.Fp.fp (jaddD a b) + Go.Fp.fp (jaddC a b)) * (Go.Fp.fp (jaddB a b) + Go.Fp.fp (jaddA a b)) := by
    show Go.Fp.fp (_ % _) = _; rw [Go.Fp.fp_mod, Go.Fp.fp_mul, Go.Fp.fp_add, Go.Fp.fp_add]
  have hz : Go.Fp.fp (jadd a b).z = (Go.Fp.fp (jaddD a b) - Go.Fp.fp (jaddC a b)) * (Go.Fp.fp (jaddD a b) + Go.Fp.fp (jaddC a b)) := by
    show Go.Fp.fp (_ % _) = _; rw [Go.Fp.fp_mod, Go.Fp.fp_mul, Go.Fp.fp_add, fp_nsub]
  have ht : Go.Fp.fp (jadd a b).t = (Go.Fp.fp (jaddB a b) - Go.Fp.fp (jaddA a b)) * (Go.Fp.fp (jaddB a b) + Go.Fp.fp (jaddA a b)) := by
    show Go.Fp.fp (_ % _) = _; rw [Go.Fp.fp_mod, Go.Fp.fp_mul, Go.Fp.fp_add, fp_nsub]
  obtain ⟨g1, g2, g3, g4⟩ := plus_math h1.x h1.y h1.t h2.x h2.y h2.t ha hb hc hd hx hy hz ht (Go.Cv.add_x Go.Fp.fld p q) (Go.Cv.add_y Go.Fp.fld p q)
  refine ⟨?_, g1, g2, g3⟩
  rw [g4]
  have F := Go.Fp.fld
  have w := F.mul_ne (F.mul_ne F.two h1.nz) h2.nz
  exact F.mul_ne (F.mul_ne w w) (F.mul_ne (F.denM p.on q.on) (F.denP p.on q.on))
def jmul (p : Jac) : Nat → Nat → Jac
  | 0, _ => ⟨0, 1, 1, 0⟩
  | f + 1, k => (fun r => if k % 2 = 1 then jadd (jadd r r) p else jadd r r) (jmul p f (k / 2))
theorem JRep.mul {a : Jac} {p : Go.Cv.Pt Go.Fp.P Go.Fp.d} (h : JRep a p) : ∀ {f k : Nat}, k < 2 ^ f → JRep (jmul a f k) (pmul k p)
  | 0, k, hk => by
    have : k = 0 := by omega
    subst this
    exact ⟨Go.Fp.one_ne, by show (0 : Go.Fp.Fe) = 0 * 1; grobner, by show (1 : Go.Fp.Fe) = 1 * 1; grobner, by show (0 : Go.Fp.Fe) = 0 * 1 * 1; grobner⟩
  | f + 1, k, hk => by
    have ih := JRep.mul h (f := f) (k := k / 2) (by omega)
    have hb := Nat.mod_lt k (by decide : 0 < 2)
    have e : pmul k p = pmul (2 * (k / 2) + k % 2) p := by rw [Nat.div_add_mod]
    rw [e, pmul_step p (k / 2) (k % 2) hb]
    simp only [jmul]
    split
    · exact (ih.add ih).add h
    · exact ih.add ih
def jbase : Jac := ⟨bxN, byN, 1, bxN * byN % Go.Fp.P⟩
theorem jbase_rep : JRep jbase pbase := by
  have h1 : Go.Fp.fp 1 = (1 : Go.Fp.Fe) := rfl
  refine ⟨Go.Fp.one_ne, ?_, ?_, ?_⟩
  · show Go.Fp.fp bxN = Go.Fp.fp bxN * Go.Fp.fp 1; rw [h1]; grobner
  · show Go.Fp.fp byN = Go.Fp.fp byN * Go.Fp.fp 1; rw [h1]; grobner
  · show Go.Fp.fp (bxN * byN % Go.Fp.P) = Go.Fp.fp bxN * Go.Fp.fp byN * Go.Fp.fp 1; rw [h1, Go.Fp.fp_mod, Go.Fp.fp_mul]; grobner
theorem eight_base : pmul 8 pbase ≠ pzero := fun h => by
  have r := jbase_rep.mul (f := 4) (k := 8) (by decide)
  rw [h] at r
  have hx := r.x
  rw [show (pzero : Go.Cv.Pt Go.Fp.P Go.Fp.d).x = 0 from rfl] at hx
  have h0 : Go.Fp.fp (jmul jbase 4 8).x = Go.Fp.fp 0 := by rw [hx]; show _ = (0 : Go.Fp.Fe); grobner
  have h1 := Go.Fp.fp_eq.1 h0
  have h2 : (jmul jbase 4 8).x % Go.Fp.P ≠ 0 % Go.Fp.P := by decide +kernel
  exact h2 h1
theorem jac_zero {a : Jac} {q : Go.Cv.Pt Go.Fp.P Go.Fp.d} (r : JRep a q) (c1 : a.x % Go.Fp.P = 0 % Go.Fp.P) (c2 : a.y % Go.Fp.P = a.z % Go.Fp.P) : q = pzero := by
  have d1 := Go.Fp.fp_eq.2 c1
  have d2 := Go.Fp.fp_eq.2 c2
  have F := Go.Fp.fld
  have hx := r.x
  have hy := r.y
  have hz := r.nz
  rw [d1] at hx
  rw [d2] at hy
  generalize Go.Fp.fp a.z = z at *
  apply Go.Cv.Pt.ext
  · show _ = (0 : Go.Fp.Fe)
    have h0 : Go.Fp.fp 0 = (0 : Go.Fp.Fe) := rfl
    rw [h0] at hx
    refine F.cancel hz ?_
    generalize q.x = w at *
    clear r hy d1 d2
    grobner
  · show _ = (1 : Go.Fp.Fe)
    refine F.cancel hz ?_
    generalize q.y = w at *
    clear r hx d1 d2
    grobner
def ellTest (a : Jac) : Bool := Nat.beq (a.x % Go.Fp.P) 0 && Nat.beq (a.y % Go.Fp.P) (a.z % Go.Fp.P)
theorem ell_test : ellTest (jmul jbase 253 ell) = true := by decide +kernel
theorem ell_base : pmul ell pbase = pzero := by
  have h := ell_test
  simp only [ellTest, Bool.and_eq_true] at h
  exact jac_zero (jbase_rep.mul (f := 253) (k := ell) (by decide +kernel)) (Nat.eq_of_beq_eq_true h.1) (Nat.eq_of_beq_eq_true h.2)
end Go.Ev.Ytgacigcbglflkaa
set_option linter.unusedSimpArgs false
set_option linter.unusedVariables false
namespace Go.Ev.Ytgacigcbglflkaa
open Go Go.Ev
attribute [local congr] bind_congr2 ite_congr2 qElse_congr gate_congr guardV_congr
set_option maxRecDepth 100000
theorem guardW_tt {α : Type} {x y : Option α} : guardV (.bool true) true x y = x := Eq.trans rfl rfl
theorem guardW_ff {α : Type} {x y : Option α} : guardV (.bool false) false x y = x := Eq.trans rfl rfl
theorem guardW_tf {α : Type} {x y : Option α} : guardV (.bool true) false x y = y := Eq.trans rfl rfl
theorem guardW_ft {α : Type} {x y : Option α} : guardV (.bool false) true x y = y := Eq.trans rfl rfl
theorem keepW_some {t : Nat} {v : Value} {l : Env} : keepV t (some v) l = (t, v) :: l := Eq.trans rfl rfl
theorem qElseW_some {α : Type} {v : α} {y : Option α} : qElse (some v) y = some v := Eq.trans rfl rfl
theorem steps_app {T : Tab} {b : Nat} {q : Bool} : ∀ (o1 o2 : List AOper) (s : St), steps T b q (o1 ++ o2) s = (steps T b q o1 s).bind (steps T b q o2)
  | [], o2, s => rfl
  | o :: o1, o2, s => by
    rw [List.cons_append]
    unfold steps
    cases hg : guardOf s.env o.guard with
    | none => rfl
    | some g =>
      cases g with
      | true =>
        simp only
        cases hx : evOper T o.op s.env s.h with
        | none => rfl
        | some x =>
          simp only [Option.bind_some]
          split
          · rfl
          · exact steps_app o1 o2 _
      | false => exact steps_app o1 o2 _
theorem steps_chunk {T : Tab} {b : Nat} {q : Bool} {a1 a2 a3 a4 a5 a6 a7 : AOper} {r : List AOper} {s : St} : steps T b q (a1 :: a2 :: a3 :: a4 :: a5 :: a6 :: a7 :: r) s = (steps T b q [a1, a2, a3, a4, a5, a6] s).bind fun s' => steps T b q (a7 :: r) s' := by
  rw [← steps_app]; rfl
end Go.Ev.Ytgacigcbglflkaa
set_option linter.unusedSimpArgs false
set_option linter.unusedVariables false
namespace Go.Ev.Ytgacigcbglflkaa
open Go Go.Ev
attribute [local congr] bind_congr2 ite_congr2 qElse_congr gate_congr guardV_congr
set_option maxRecDepth 100000
theorem par_neg {a : Go.Fp.Fe} (h0 : a ≠ 0) : (-a).val % 2 ≠ a.val % 2 := by
  have hlt := a.isLt
  have hne : a.val ≠ 0 := fun h => h0 (Fin.ext h)
  have h1 : (-a).val = (Go.Fp.P - a.val) % Go.Fp.P := rfl
  have h2 : (Go.Fp.P - a.val) < Go.Fp.P := by omega
  rw [h1, Nat.mod_eq_of_lt h2]
  have hP : Go.Fp.P % 2 = 1 := by rw [Go.Fp.P_eq]
  omega
theorem sq_eq {a b : Go.Fp.Fe} (h : a * a = b * b) : a = b ∨ a = -b := by
  have F := Go.Fp.fld
  have : (a - b) * (a + b) = 0 := by grobner
  rcases F.dom this with h1 | h1
  · left; clear h this; grobner
  · right; clear h this; grobner
theorem one_of (dd z : Go.Fp.Fe) (hz : z = 0) : dd * (z * z) + 1 = 1 := by grobner
theorem den_ne (y : Go.Fp.Fe) : Go.Fp.d * (y * y) + 1 ≠ 0 := fun h => by
  have F := Go.Fp.fld
  have hy : y ≠ 0 := by
    intro h0
    rw [one_of _ _ h0] at h
    exact Go.Fp.one_ne h
  have hi := Go.Fp.iv_mul hy
  have hr := Go.Fp.root_i
  apply Go.Fp.nosq (Go.Fp.i * Go.Fp.iv y)
  generalize Go.Fp.d = dd at *
  generalize Go.Fp.i = ii at *
  generalize Go.Fp.iv y = w at *
  clear F hy
  have e1 : dd * (y * w) * (y * w) + w * w = 0 := by
    have : dd * (y * w) * (y * w) + w * w = (dd * (y * y) + 1) * (w * w) := by clear h hi hr; grobner
    rw [this, h]; clear this h hi hr; grobner
  rw [hi] at e1
  have e2 : ii * w * (ii * w) = (ii * ii) * (w * w) := by clear h hi hr e1; grobner
  rw [e2, hr]
  clear h hi hr e2
  grobner
theorem x_sq (p : Go.Cv.Pt Go.Fp.P Go.Fp.d) : (Go.Fp.d * (p.y * p.y) + 1) * (p.x * p.x) = p.y * p.y - 1 := by
  have h := p.on
  unfold Go.Cv.On at h
  generalize Go.Fp.d = dd at *
  generalize p.x = x at *
  generalize p.y = y at *
  grobner
theorem encN_inj {p q : Go.Cv.Pt Go.Fp.P Go.Fp.d} (h : encN p = encN q) : p = q := by
  unfold encN at h
  have h1 := val_lt p.y
  have h2 := val_lt q.y
  have h3 := Nat.mod_lt p.x.val (by decide : 0 < 2)
  have h4 := Nat.mod_lt q.x.val (by decide : 0 < 2)
  have hy : p.y.val = q.y.val := by omega
  have hx : p.x.val % 2 = q.x.val % 2 := by omega
  have hy' : p.y = q.y := Fin.ext hy
  have e1 := x_sq p
  have e2 := x_sq q
  rw [hy', ← e2] at e1
  have e3 := Go.Fp.fld.cancel (den_ne q.y) e1
  refine Go.Cv.Pt.ext ?_ hy'
  rcases sq_eq e3 with h | h
  · exact h
  · by_cases h0 : q.x = 0
    · rw [h, h0]; grobner
    · exfalso
      have := par_neg h0
      rw [← h] at this
      exact this hx
theorem enc_beq (p q : Go.Cv.Pt Go.Fp.P Go.Fp.d) : (enc p == enc q) = decide (p = q) := by
  unfold enc
  rw [key_inj (encN_lt p) (encN_lt q)]
  by_cases h : p = q
  · subst h; rw [decide_eq_true rfl, decide_eq_true rfl]
  · rw [decide_eq_false h, decide_eq_false (fun e => h (encN_inj e))]
theorem fill40 {a b : List Nat} {p q : Go.Cv.Pt Go.Fp.P Go.Fp.d} (ha : RepL a p) (hb : RepL b q) : fillL (List.replicate 40 (Value.int .u64 0)) [(0, 20, eV a), (20, 20, eV b)] = some (ns .u64 [a, b].flatten) := by
  obtain ⟨x1, y1, z1, t1, rfl, h1⟩ := ha
  obtain ⟨x2, y2, z2, t2, rfl, h2⟩ := hb
  obtain ⟨a0, a1, a2, a3, a4, rfl, -⟩ := h1.ex.five
  obtain ⟨b0, b1, b2, b3, b4, rfl, -⟩ := h1.ey.five
  obtain ⟨c0, c1, c2, c3, c4, rfl, -⟩ := h1.ez.five
  obtain ⟨d0, d1, d2, d3, d4, rfl, -⟩ := h1.et.five
  obtain ⟨e0, e1, e2, e3, e4, rfl, -⟩ := h2.ex.five
  obtain ⟨f0, f1, f2, f3, f4, rfl, -⟩ := h2.ey.five
  obtain ⟨g0, g1, g2, g3, g4, rfl, -⟩ := h2.ez.five
  obtain ⟨i0, i1, i2, i3, i4, rfl, -⟩ := h2.et.five
  rfl
theorem padd_comm (p q : Go.Cv.Pt Go.Fp.P Go.Fp.d) : padd p q = padd q p := Go.Cv.add_comm Go.Fp.fld p q
theorem padd_assoc (p q r : Go.Cv.Pt Go.Fp.P Go.Fp.d) : padd (padd p q) r = padd p (padd q r) := Go.Cv.add_assoc Go.Fp.fld p q r
end Go.Ev.Ytgacigcbglflkaa
set_option linter.unusedSimpArgs false
set_option linter.unusedVariables false
namespace Go.Ev.Ytgacigcbglflkaa
open Go Go.Ev
attribute [local congr] bind_congr2 ite_congr2 qElse_congr gate_congr guardV_congr
set_option maxRecDepth 100000
theorem enc_key {k : List Nat} (lk : k.length = 32) (xk : ∀ x ∈ k, x < 256) {p : Go.Cv.Pt Go.Fp.P Go.Fp.d} : enc p = k ↔ encN p = num 256 k := by
  have h1 := num_lt xk
  rw [lk] at h1
  have h2 := dig_num (by decide : 0 < 256) xk
  rw [lk] at h2
  constructor
  · intro h
    have := num_dig (B := 256) (by decide) 32 (encN p)
    rw [Nat.mod_eq_of_lt (encN_lt p)] at this
    rw [← this, ← h]; rfl
  · intro h
    unfold enc
    rw [h, h2]
theorem enc_parts {p : Go.Cv.Pt Go.Fp.P Go.Fp.d} {V : Nat} : encN p = V ↔ p.y.val = V % 2 ^ 255 ∧ p.x.val % 2 = V / 2 ^ 255 := by
  have h1 := val_lt p.y
  have h3 := Nat.mod_lt p.x.val (by decide : 0 < 2)
  unfold encN
  constructor
  · intro h; omega
  · rintro ⟨h, h'⟩; rw [h, h', Nat.mul_comm, Nat.mod_add_div]
theorem on_of {u v x y : Go.Fp.Fe} (hu : u = y * y - 1) (hv : v = Go.Fp.d * (y * y) + 1) (h : v * (x * x) = u) : Go.Cv.On Go.Fp.d x y := by
  unfold Go.Cv.On
  generalize Go.Fp.d = dd at *
  subst hu hv
  grobner
theorem key_top {k : List Nat} (lk : k.length = 32) (xk : ∀ x ∈ k, x < 256) : ∃ w, k[31]? = some w ∧ w < 256 ∧ w / 128 = num 256 k / 2 ^ 255 ∧ num 256 (k.set 31 (w &&& 127)) = num 256 k % 2 ^ 255 ∧ (∀ x ∈ k.set 31 (w &&& 127), x < 256) ∧ (k.set 31 (w &&& 127)).length = 32 := by
  obtain ⟨w, hw⟩ : ∃ w, k[31]? = some w := ⟨_, List.getElem?_eq_getElem (by omega)⟩
  have hw' : w < 256 := xk w (List.mem_of_getElem? hw)
  have hV := num_lt xk
  rw [lk] at hV
  have hg := num_get (by decide : 0 < 256) xk hw
  have hs := num_set (B := 256) (w &&& 127) hw
  have ha : w &&& 127 = w % 128 := Nat.and_two_pow_sub_one_eq_mod w 7
  refine ⟨w, hw, hw', ?_⟩
  rw [ha] at hs ⊢
  have e31 : (256 : Nat) ^ 31 = 452312848583266388373324160190187140051835877600158453279131187530910662656 := by decide
  have e32 : (256 : Nat) ^ 32 = 115792089237316195423570985008687907853269984665640564039457584007913129639936 := by decide
  have e255 : (2 : Nat) ^ 255 = 57896044618658097711785492504343953926634992332820282019728792003956564819968 := by decide
  rw [e31] at hg hs
  rw [e32] at hV
  rw [e255]
  refine ⟨by omega, by omega, ?_, by rw [List.length_set]; exact lk⟩
  intro x hx
  rcases List.mem_or_eq_of_mem_set hx with h | h
  · exact xk x h
  · omega
def decV (l : List Nat) (c : Int) : Value := .tuple #[eV l, .int .i64 c]
theorem decode_v {k : List Nat} (lk : k.length = 32) (xk : ∀ x ∈ k, x < 256) :
    (∃ l p, evVal T 19 [.agg (u8s k).toArray] = some (decV l 0) ∧ RepL l p ∧ enc p = k) ∨ (∃ l, evVal T 19 [.agg (u8s k).toArray] = some (decV l 60) ∧ l.length = 20 ∧ ∀ p, enc p ≠ k) := by
  obtain ⟨w, hw, hw', ht, hm, xm, lm⟩ := key_top lk xk
  have hwc := u8s_get hw
  have hset := u8s_set k 31 (w &&& 127)
  have o1 : bitsOp .and .u8 (w : Int) 127 = ((w &&& 127 : Nat) : Int) := bits_and (k := .u8) (a := w) (b := 127) rfl hw' (by decide)
  have hof := of_v lm xm
  have hcan := canonical_v lm xm
  rw [hm] at hof hcan
  rw [Nat.mod_mod] at hof
  have hkey : ∀ p : Go.Cv.Pt Go.Fp.P Go.Fp.d, enc p = k ↔ p.y.val = num 256 k % 2 ^ 255 ∧ p.x.val % 2 = num 256 k / 2 ^ 255 := fun p => by rw [enc_key lk xk, enc_parts]
  rw [← ht] at hkey
  have Ey := of_el (V := num 256 k % 2 ^ 255)
  have fy : fe (dig (2 ^ 51) 5 (num 256 k % 2 ^ 255)) = Go.Fp.fp (num 256 k % 2 ^ 255) := by unfold fe; rw [of_v51]
  generalize k.set 31 (w &&& 127) = km at *
  generalize dig (2 ^ 51) 5 (num 256 k % 2 ^ 255) = Y at *
  generalize num 256 k % 2 ^ 255 = V at *
  have hz20 : ∃ O, List.replicate 20 (Value.int .u64 0) = ns .u64 O ∧ O.length = 20 ∧ fillL (ns .u64 O) [] = some (ns .u64 O) := ⟨List.replicate 20 0, rfl, rfl, rfl⟩
  obtain ⟨O, hz20, l0, hf0⟩ := hz20
  have l1 := Ey.len
  have hz5 : List.replicate 5 (Value.int .u64 0) = ns .u64 [0, 0, 0, 0, 0] := rfl
  have l5 : ([0, 0, 0, 0, 0] : List Nat).length = 5 := rfl
  have hbit : ((((w / 128 : Nat) : Int)) == 1) = decide (w / 128 = 1) := by
    by_cases h : w / 128 = 1
    · rw [h]; rfl
    · have : ¬ (((w / 128 : Nat) : Int) = 1) := by omega
      rw [decide_eq_false h, beq_eq_false_iff_ne.2 this]
  have hshr : ((w : Int) / 128) = ((w / 128 : Nat) : Int) := rfl
  by_cases hV : V < Go.Fp.P
  · rw [decide_eq_true hV] at hcan
    have hYv : (Go.Fp.fp V).val = V := Nat.mod_eq_of_lt hV
    obtain ⟨one, hone⟩ : ∃ O : List Nat, O = [1, 0, 0, 0, 0] := ⟨_, rfl⟩
    have Eone : El one (2 ^ 52) := by rw [hone]; exact one_el
    have vone : evVal T 28 [.int .u32 1] = some (eV one) := by rw [hone]; exact one_v
    have fone : fe one = 1 := by rw [hone]; exact one_fe
    clear hone
    obtain ⟨yy, hyy, Eyy, fyy⟩ := mul_ev Ey Ey
    obtain ⟨D, hD, ED, fD⟩ := factor_v
    obtain ⟨uu, huu, Euu, fuu⟩ := sub_v Eyy Eone
    obtain ⟨dy, hdy, Edy, fdy⟩ := mul_ev ED Eyy
    obtain ⟨vv, sv, hvv, Evv, fvv⟩ := add2_ev (H := [⟨u8s km, true, true, true, 1⟩, ⟨ns .u64 O, true, true, true, 1⟩, ⟨ns .u64 Y, true, true, true, 1⟩, ⟨ns .u64 yy, true, true, true, 1⟩, ⟨ns .u64 (dy ++ one), true, true, true, 1⟩]) (id := 4) Edy Eone rfl
    simp only [List.cons_append, List.nil_append] at hvv
    obtain ⟨r, ok, hr, Er, hok, hno⟩ := root_v Euu Evv
    have hf2 := fill2 Edy Eone
    have l6 := Eyy.len
    have l7 := Er.len
    have kz := isZero_v Er
    obtain ⟨nr, hnr, Enr, fnr⟩ := neg_v Er
    obtain ⟨t1, ht1, Et1, ft1⟩ := mul_ev Er Ey
    obtain ⟨t2, ht2, Et2, ft2⟩ := mul_ev Enr Ey
    have g1 := fill4 Er Ey Eone Et1
    have g2 := fill4 Enr Ey Eone Et2
    rw [hz20] at g1 g2
    have q1 := pL_len Er Ey Eone Et1
    have q2 := pL_len Enr Ey Eone Et2
    have l8 := Enr.len
    have hu : fe uu = Go.Fp.fp V * Go.Fp.fp V - 1 := by rw [fuu, fyy, fy, fone]
    have hv : fe vv = Go.Fp.d * (Go.Fp.fp V * Go.Fp.fp V) + 1 := by rw [fvv, fdy, fD, fyy, fy, fone]
    have hyp : ∀ p : Go.Cv.Pt Go.Fp.P Go.Fp.d, enc p = k → p.y = Go.Fp.fp V := fun p hp => Fin.ext (by rw [hYv]; exact ((hkey p).1 hp).1)
    have hxx : ∀ p : Go.Cv.Pt Go.Fp.P Go.Fp.d, enc p = k → fe vv * (p.x * p.x) = fe uu := fun p hp => by
      have := x_sq p
      rw [hyp p hp] at this
      rw [hu, hv]; exact this
    have rft : ∀ b : Bool, rf (Value.tuple #[eV r, .bool b]) = true := fun b => rf_tup2 (a := eV r) (b := .bool b) (rf_eV r) rfl
    cases ok with
    | false =>
      refine .inr ⟨O, ?_, l0, fun p hp => hno rfl p.x (hxx p hp)⟩
      apply evVal_ex
      apply Exists.intro
      rw [evFun_fn (fn := a31) rfl]
      simp only [a31, ↓steps_chunk, envOf, quiet, cF, ↓pF, reduceCtorEq, Nat.reduceEqDiff, Int.reduceEq, fs_callW, fs_regionQ, quiet2_eq, lastOf_nil, lastOf_cons, List.take_succ_cons, List.take_zero, List.drop_succ_cons, List.drop_zero, Int.reduceBEq, Int.reduceBNe, ↓keepW_some, ↓qElseW_some, ↓guardW_tt, ↓guardW_ff, ↓guardW_tf, ↓guardW_ft, cL, Int.reduceLE, Int.reduceLT, Int.reduceAdd, Int.reduceMul, Int.reduceSub, Int.reduceTDiv, Int.reduceTMod, Int.reduceNeg, Int.reduceToNat, Int.reduceGT, Int.reduceGE, Int.reducePow, Nat.reduceAdd, Nat.reduceMul, Nat.reduceSub, Nat.reduceDiv, Nat.reduceMod, Nat.reducePow, Nat.reduceLT, Nat.reduceLeDiff, cJ, cU, hz20, hf0, hz5, hwc, hset, o1, hof, hcan, hbit, hshr, vone, hyy, hD, huu, hdy, hf2, hvv, hr, List.length_replicate, take_all, eV_cells, eV_size, eV_ok, eV_fold, ns_len, u8s_len, lk, lm, l0, l1, l5, l6, l7, vExtract_t, rootV, rft, rf_eV]
      rfl
    | true =>
      obtain ⟨hroot, hev⟩ := hok rfl
      have hev' : (fe r).val % 2 = 0 := by
        rcases hev with h | h
        · exact h
        · rw [h]; rfl
      by_cases hb : w / 128 = 1
      · rw [decide_eq_true hb] at hbit
        by_cases h0 : fe r = 0
        · rw [decide_eq_true h0] at kz
          refine .inr ⟨O, ?_, l0, fun p hp => ?_⟩
          · apply evVal_ex
            apply Exists.intro
            rw [evFun_fn (fn := a31) rfl]
            simp only [a31, ↓steps_chunk, envOf, quiet, cF, ↓pF, reduceCtorEq, Nat.reduceEqDiff, Int.reduceEq, fs_callW, fs_regionQ, quiet2_eq, lastOf_nil, lastOf_cons, List.take_succ_cons, List.take_zero, List.drop_succ_cons, List.drop_zero, Int.reduceBEq, Int.reduceBNe, ↓keepW_some, ↓qElseW_some, ↓guardW_tt, ↓guardW_ff, ↓guardW_tf, ↓guardW_ft, cL, Int.reduceLE, Int.reduceLT, Int.reduceAdd, Int.reduceMul, Int.reduceSub, Int.reduceTDiv, Int.reduceTMod, Int.reduceNeg, Int.reduceToNat, Int.reduceGT, Int.reduceGE, Int.reducePow, Nat.reduceAdd, Nat.reduceMul, Nat.reduceSub, Nat.reduceDiv, Nat.reduceMod, Nat.reducePow, Nat.reduceLT, Nat.reduceLeDiff, cJ, cU, hz20, hf0, hz5, hwc, hset, o1, hof, hcan, hbit, hshr, vone, hyy, hD, huu, hdy, hf2, hvv, hr, List.length_replicate, take_all, eV_cells, eV_size, eV_ok, eV_fold, ns_len, u8s_len, lk, lm, l0, l1, l5, l6, l7, vExtract_t, rootV, rft, rf_eV, kz]
            rfl
          · have h2 := ((hkey p).1 hp).2
            have h3 := hxx p hp
            rw [← hroot, h0] at h3
            have h4 : p.x * p.x = 0 * 0 := Go.Fp.fld.cancel (by rw [hv]; exact den_ne _) h3
            rcases sq_eq h4 with h5 | h5
            · rw [h5, hb] at h2; exact absurd h2 (by decide)
            · rw [h5, hb] at h2; exact absurd h2 (by decide)
        · rw [decide_eq_false h0] at kz
          have hroot' : fe vv * (-fe r * -fe r) = fe uu := by rw [← hroot]; generalize fe r = a; generalize fe vv = b; grobner
          refine .inl ⟨pL nr Y one t2, ⟨-fe r, Go.Fp.fp V, on_of hu hv hroot'⟩, ?_, ⟨nr, Y, one, t2, rfl, Enr, Ey, Eone, Et2, by rw [fone]; exact Go.Fp.one_ne, ?_, ?_, ?_⟩, (hkey _).2 ⟨hYv, ?_⟩⟩
          · generalize pL nr Y one t2 = L at *
            apply evVal_ex
            apply Exists.intro
            rw [evFun_fn (fn := a31) rfl]
            simp only [a31, ↓steps_chunk, envOf, quiet, cF, ↓pF, reduceCtorEq, Nat.reduceEqDiff, Int.reduceEq, fs_callW, fs_regionQ, quiet2_eq, lastOf_nil, lastOf_cons, List.take_succ_cons, List.take_zero, List.drop_succ_cons, List.drop_zero, Int.reduceBEq, Int.reduceBNe, ↓keepW_some, ↓qElseW_some, ↓guardW_tt, ↓guardW_ff, ↓guardW_tf, ↓guardW_ft, cL, Int.reduceLE, Int.reduceLT, Int.reduceAdd, Int.reduceMul, Int.reduceSub, Int.reduceTDiv, Int.reduceTMod, Int.reduceNeg, Int.reduceToNat, Int.reduceGT, Int.reduceGE, Int.reducePow, Nat.reduceAdd, Nat.reduceMul, Nat.reduceSub, Nat.reduceDiv, Nat.reduceMod, Nat.reducePow, Nat.reduceLT, Nat.reduceLeDiff, cJ, cU, hz20, hf0, hz5, hwc, hset, o1, hof, hcan, hbit, hshr, vone, hyy, hD, huu, hdy, hf2, hvv, hr, List.length_replicate, take_all, eV_cells, eV_size, eV_ok, eV_fold, ns_len, u8s_len, lk, lm, l0, l1, l5, l6, l7, vExtract_t, rootV, rft, rf_eV, kz, hnr, ht2, g2, q2, l8]
            rfl
          · rw [fnr, fone]; show -fe r = -fe r * 1; generalize fe r = a; grobner
          · rw [fy, fone]; show Go.Fp.fp V = Go.Fp.fp V * 1; generalize Go.Fp.fp V = a; grobner
          · rw [ft2, fnr, fy, fone]; show -fe r * Go.Fp.fp V = -fe r * Go.Fp.fp V * 1; generalize Go.Fp.fp V = a; generalize fe r = b; grobner
          · have := par_neg h0
            rw [hev'] at this
            show (-fe r).val % 2 = _
            rw [hb]; omega
      · rw [decide_eq_false hb] at hbit
        refine .inl ⟨pL r Y one t1, ⟨fe r, Go.Fp.fp V, on_of hu hv hroot⟩, ?_, ⟨r, Y, one, t1, rfl, Er, Ey, Eone, Et1, by rw [fone]; exact Go.Fp.one_ne, ?_, ?_, ?_⟩, (hkey _).2 ⟨hYv, ?_⟩⟩
        · generalize pL r Y one t1 = L at *
          apply evVal_ex
          apply Exists.intro
          rw [evFun_fn (fn := a31) rfl]
          simp only [a31, ↓steps_chunk, envOf, quiet, cF, ↓pF, reduceCtorEq, Nat.reduceEqDiff, Int.reduceEq, fs_callW, fs_regionQ, quiet2_eq, lastOf_nil, lastOf_cons, List.take_succ_cons, List.take_zero, List.drop_succ_cons, List.drop_zero, Int.reduceBEq, Int.reduceBNe, ↓keepW_some, ↓qElseW_some, ↓guardW_tt, ↓guardW_ff, ↓guardW_tf, ↓guardW_ft, cL, Int.reduceLE, Int.reduceLT, Int.reduceAdd, Int.reduceMul, Int.reduceSub, Int.reduceTDiv, Int.reduceTMod, Int.reduceNeg, Int.reduceToNat, Int.reduceGT, Int.reduceGE, Int.reducePow, Nat.reduceAdd, Nat.reduceMul, Nat.reduceSub, Nat.reduceDiv, Nat.reduceMod, Nat.reducePow, Nat.reduceLT, Nat.reduceLeDiff, cJ, cU, hz20, hf0, hz5, hwc, hset, o1, hof, hcan, hbit, hshr, vone, hyy, hD, huu, hdy, hf2, hvv, hr, List.length_replicate, take_all, eV_cells, eV_size, eV_ok, eV_fold, ns_len, u8s_len, lk, lm, l0, l1, l5, l6, l7, vExtract_t, rootV, rft, rf_eV, ht1, g1, q1]
          rfl
        · rw [fone]; show fe r = fe r * 1; generalize fe r = a; grobner
        · rw [fy, fone]; show Go.Fp.fp V = Go.Fp.fp V * 1; generalize Go.Fp.fp V = a; grobner
        · rw [ft1, fy, fone]; show fe r * Go.Fp.fp V = fe r * Go.Fp.fp V * 1; generalize Go.Fp.fp V = a; generalize fe r = b; grobner
        · show (fe r).val % 2 = _
          rw [hev']; omega
  · rw [decide_eq_false hV] at hcan
    refine .inr ⟨O, ?_, l0, fun p hp => hV ?_⟩
    · apply evVal_ex
      apply Exists.intro
      rw [evFun_fn (fn := a31) rfl]
      simp only [a31, ↓steps_chunk, envOf, quiet, cF, ↓pF, reduceCtorEq, Nat.reduceEqDiff, Int.reduceEq, fs_callW, fs_regionQ, quiet2_eq, lastOf_nil, lastOf_cons, List.take_succ_cons, List.take_zero, List.drop_succ_cons, List.drop_zero, Int.reduceBEq, Int.reduceBNe, ↓keepW_some, ↓qElseW_some, ↓guardW_tt, ↓guardW_ff, ↓guardW_tf, ↓guardW_ft, cL, Int.reduceLE, Int.reduceLT, Int.reduceAdd, Int.reduceMul, Int.reduceSub, Int.reduceTDiv, Int.reduceTMod, Int.reduceNeg, Int.reduceToNat, Int.reduceGT, Int.reduceGE, Int.reducePow, Nat.reduceAdd, Nat.reduceMul, Nat.reduceSub, Nat.reduceDiv, Nat.reduceMod, Nat.reducePow, Nat.reduceLT, Nat.reduceLeDiff, cJ, cU, hz20, hf0, hz5, hwc, hset, o1, hof, hcan, hbit, hshr, List.length_replicate, take_all, eV_cells, eV_size, eV_ok, eV_fold, ns_len, u8s_len, lk, lm, l0, l1, l5, rf_eV]
      rfl
    · rw [← ((hkey p).1 hp).1]; exact p.y.isLt
end Go.Ev.Ytgacigcbglflkaa
set_option linter.unusedSimpArgs false
set_option linter.unusedVariables false
namespace Go.Ev.Ytgacigcbglflkaa
open Go Go.Ev
attribute [local congr] bind_congr2 ite_congr2 qElse_congr gate_congr guardV_congr
set_option maxRecDepth 100000
def pf (n : Nat) (L : List Nat) (i : Nat) : List Nat := L.take i ++ List.replicate (n - i) 0
theorem pf_zero (n : Nat) (L : List Nat) : pf n L 0 = List.replicate n 0 := by simp [pf]
theorem pf_full {n : Nat} {L : List Nat} (h : L.length = n) : pf n L n = L := by simp [pf, ← h]
theorem pf_len {n : Nat} {L : List Nat} (h : L.length = n) {i : Nat} (hi : i ≤ n) : (pf n L i).length = n := by simp [pf]; omega
theorem pf_step {n i x : Nat} {L : List Nat} (h : L.length = n) (hi : i < n) (hx : L[i]? = some x) : (pf n L i).set i x = pf n L (i + 1) := by
  unfold pf
  rw [List.set_append_right _ _ (by simp; omega)]
  have e1 : (L.take i).length = i := by simp; omega
  rw [e1, Nat.sub_self]
  have e2 : n - i = (n - (i + 1)) + 1 := by omega
  rw [e2, List.replicate_succ, List.set_cons_zero, List.take_add_one, hx]
  simp
structure Nm (l : List Nat) : Prop where
  len : l.length = 16
  lt : ∀ x ∈ l, x < 65536
theorem Nm.num_lt {l : List Nat} (h : Nm l) : num 65536 l < 2 ^ 256 := by
  have := Go.Ev.num_lt h.lt
  rw [h.len] at this
  exact this
theorem Nm.dig (v : Nat) : Nm (dig 65536 16 v) := ⟨dig_len _ _ _, fun x h => dig_lt (by decide) h⟩
theorem Nm.eq {l : List Nat} (h : Nm l) : l = Go.Ev.dig 65536 16 (num 65536 l) := by
  have := dig_num (B := 65536) (by decide) h.lt
  rw [h.len] at this
  exact this.symm
theorem Nm.inj {l m : List Nat} (h : Nm l) (h' : Nm m) (e : num 65536 l = num 65536 m) : l = m := by rw [h.eq, h'.eq, e]
theorem wn {n : Nat} (h : n < 9223372036854775808) : IntKind.i64.wrap (n : Int) = n := wrap_nat h
theorem w64n {n : Nat} (h : n < 18446744073709551616) : IntKind.u64.wrap (n : Int) = n := by rw [n_w64, Nat.mod_eq_of_lt h]
theorem w64_add {a b : Nat} (h : a + b < 18446744073709551616) : IntKind.u64.wrap ((a : Int) + (b : Int)) = ((a + b : Nat) : Int) := by rw [← Int.natCast_add]; exact w64n h
theorem w64_mul {a b : Nat} (h : a * b < 18446744073709551616) : IntKind.u64.wrap ((a : Int) * (b : Int)) = ((a * b : Nat) : Int) := by rw [← Int.natCast_mul]; exact w64n h
theorem wi_add {a b : Nat} (h : a + b < 9223372036854775808) : IntKind.i64.wrap ((a : Int) + (b : Int)) = ((a + b : Nat) : Int) := by rw [← Int.natCast_add]; exact wn h
theorem wi_mul {a b : Nat} (h : a * b < 9223372036854775808) : IntKind.i64.wrap ((a : Int) * (b : Int)) = ((a * b : Nat) : Int) := by rw [← Int.natCast_mul]; exact wn h
end Go.Ev.Ytgacigcbglflkaa
set_option linter.unusedSimpArgs false
set_option linter.unusedVariables false
namespace Go.Ev.Ytgacigcbglflkaa
open Go Go.Ev
attribute [local congr] bind_congr2 ite_congr2 qElse_congr gate_congr guardV_congr
set_option maxRecDepth 100000
def rotr (x r : Nat) : Nat := x / 2 ^ r + x * 2 ^ (64 - r) % 18446744073709551616
def sg0 (x : Nat) : Nat := rotr x 1 ^^^ rotr x 8 ^^^ (x / 2 ^ 7)
def sg1 (x : Nat) : Nat := rotr x 19 ^^^ rotr x 61 ^^^ (x / 2 ^ 6)
def Sg0 (x : Nat) : Nat := rotr x 28 ^^^ rotr x 34 ^^^ rotr x 39
def Sg1 (x : Nat) : Nat := rotr x 14 ^^^ rotr x 18 ^^^ rotr x 41
def chO (e f g : Nat) : Nat := (e &&& f) ^^^ ((18446744073709551615 ^^^ e) &&& g)
def maO (a b c : Nat) : Nat := (a &&& b) ^^^ (a &&& c) ^^^ (b &&& c)
def be (l : List Nat) : Nat := l.foldl (fun a x => a * 256 + x) 0
def wNext (w : List Nat) : Nat := (w.getD (w.length - 16) 0 + w.getD (w.length - 7) 0 + sg0 (w.getD (w.length - 15) 0) + sg1 (w.getD (w.length - 2) 0)) % 18446744073709551616
def wMore : Nat → List Nat → List Nat
  | 0, l => l
  | n + 1, l => wMore n l ++ [wNext (wMore n l)]
def wBase (b : List Nat) : List Nat := (List.range 16).map fun i => be ((b.drop (8 * i)).take 8)
def wAll (b : List Nat) : List Nat := wMore 64 (wBase b)
def kTab : List Nat := [4794697086780616226, 8158064640168781261, 13096744586834688815, 16840607885511220156, 4131703408338449720, 6480981068601479193, 10538285296894168987, 12329834152419229976, 15566598209576043074, 1334009975649890238, 2608012711638119052, 6128411473006802146, 8268148722764581231, 9286055187155687089, 11230858885718282805, 13951009754708518548, 16472876342353939154, 17275323862435702243, 1135362057144423861, 2597628984639134821, 3308224258029322869, 5365058923640841347, 6679025012923562964, 8573033837759648693, 10970295158949994411, 12119686244451234320, 12683024718118986047, 13788192230050041572, 14330467153632333762, 15395433587784984357, 489312712824947311, 1452737877330783856, 2861767655752347644, 3322285676063803686, 5560940570517711597, 5996557281743188959, 7280758554555802590, 8532644243296465576, 9350256976987008742, 10552545826968843579, 11727347734174303076, 12113106623233404929, 14000437183269869457, 14369950271660146224, 15101387698204529176, 15463397548674623760, 17586052441742319658, 1182934255886127544, 1847814050463011016, 2177327727835720531, 2830643537854262169, 3796741975233480872, 4115178125766777443, 5681478168544905931, 6601373596472566643, 7507060721942968483, 8399075790359081724, 8693463985226723168, 9568029438360202098, 10144078919501101548, 10430055236837252648, 11840083180663258601, 13761210420658862357, 14299343276471374635, 14566680578165727644, 15097957966210449927, 16922976911328602910, 17689382322260857208, 500013540394364858, 748580250866718886, 1242879168328830382, 1977374033974150939, 2944078676154940804, 3659926193048069267, 4368137639120453308, 4836135668995329356, 5532061633213252278, 6448918945643986474, 6902733635092675308, 7801388544844847127]
def t1O (s : List Nat) (k w : Nat) : Nat := (s.getD 7 0 + Sg1 (s.getD 4 0) + chO (s.getD 4 0) (s.getD 5 0) (s.getD 6 0) + k + w) % 18446744073709551616
def t2O (s : List Nat) : Nat := (Sg0 (s.getD 0 0) + maO (s.getD 0 0) (s.getD 1 0) (s.getD 2 0)) % 18446744073709551616
def rnd (s : List Nat) (k w : Nat) : List Nat := [(t1O s k w + t2O s) % 18446744073709551616, s.getD 0 0, s.getD 1 0, s.getD 2 0, (s.getD 3 0 + t1O s k w) % 18446744073709551616, s.getD 4 0, s.getD 5 0, s.getD 6 0]
def rnds : Nat → List Nat → List Nat → List Nat
  | 0, _, s => s
  | n + 1, w, s => rnd (rnds n w s) (kTab.getD n 0) (w.getD n 0)
def blk (s b : List Nat) : List Nat := List.zipWith (fun x y => (x + y) % 18446744073709551616) s (rnds 80 (wAll b) s)
def sInit : List Nat := [7640891576956012808, 13503953896175478587, 4354685564936845355, 11912009170470909681, 5840696475078001361, 11170449401992604703, 2270897969802886507, 6620516959819538809]
def stK : Nat → List Nat → List Nat
  | 0, _ => sInit
  | n + 1, b => blk (stK n b) ((b.drop (128 * n)).take 128)
def padZ (n : Nat) : Nat := (239 - n % 128) % 128
def padL (n : Nat) : List Nat := 128 :: (List.replicate (padZ n) 0 ++ ((List.range 16).map fun i => 8 * n / 256 ^ (15 - i) % 256))
def sha (b : List Nat) : List Nat := (List.range 64).map fun i => (stK ((b ++ padL b.length).length / 128) (b ++ padL b.length)).getD (i / 8) 0 / 256 ^ (7 - i % 8) % 256
theorem kTab_len : kTab.length = 80 := rfl
theorem rotr_lt {x r : Nat} (hx : x < 18446744073709551616) (hr : 0 < r) (hr' : r ≤ 63) : rotr x r < 18446744073709551616 := by
  unfold rotr
  have e : (18446744073709551616 : Nat) = 2 ^ r * 2 ^ (64 - r) := by rw [← Nat.pow_add, show r + (64 - r) = 64 by omega]
  have h1 : x / 2 ^ r < 2 ^ (64 - r) := Nat.div_lt_of_lt_mul (by rw [← e]; exact hx)
  have h2 : x * 2 ^ (64 - r) % 18446744073709551616 = (x % 2 ^ r) * 2 ^ (64 - r) := by rw [e, Nat.mul_mod_mul_right]
  rw [h2]
  have h3 : x % 2 ^ r + 1 ≤ 2 ^ r := Nat.mod_lt _ (Nat.pow_pos (by decide))
  have h4 := Nat.mul_le_mul_right (2 ^ (64 - r)) h3
  rw [← e, Nat.add_mul, Nat.one_mul] at h4
  omega
theorem rotr_or {x r : Nat} (hx : x < 18446744073709551616) (hr : 0 < r) (hr' : r ≤ 63) : (x * 2 ^ (64 - r) % 18446744073709551616) ||| (x / 2 ^ r) = rotr x r := by
  have e : (18446744073709551616 : Nat) = 2 ^ r * 2 ^ (64 - r) := by rw [← Nat.pow_add, show r + (64 - r) = 64 by omega]
  have h1 : x / 2 ^ r < 2 ^ (64 - r) := Nat.div_lt_of_lt_mul (by rw [← e]; exact hx)
  have h2 : x * 2 ^ (64 - r) % 18446744073709551616 = (x % 2 ^ r) * 2 ^ (64 - r) := by rw [e, Nat.mul_mod_mul_right]
  unfold rotr
  rw [h2, or_apart h1, Nat.add_comm]
theorem rot_v {x r : Nat} (hx : x < 18446744073709551616) (hr : 0 < r) (hr' : r ≤ 63) : evVal T 71 [.int .u64 x, .int .i64 (-(r : Int))] = some (.int .u64 (rotr x r : Nat)) := by
  have hw : IntKind.u64.wrap (-(r : Int)) = ((18446744073709551616 - r : Nat) : Int) := by rw [wrap_u64]; omega
  have hm : bitsOp .and .u64 ((18446744073709551616 - r : Nat) : Int) 63 = ((64 - r : Nat) : Int) := by
    have := n_mask .u64 rfl 6 (18446744073709551616 - r) (by decide)
    have e : ((2 ^ 6 - 1 : Nat) : Int) = 63 := by decide
    rw [e] at this
    rw [this]
    have : (18446744073709551616 - r) % 2 ^ 6 = 64 - r := by omega
    rw [this]
  have n1 : (((64 - r : Nat) : Int) < 0) = False := eq_false (by omega)
  have h64 : min (64 - r) IntKind.u64.bits = 64 - r := Nat.min_eq_left (by show 64 - r ≤ 64; omega)
  have hr64 : min r IntKind.u64.bits = r := Nat.min_eq_left (by show r ≤ 64; omega)
  have hs1 : IntKind.u64.wrap ((x : Int) * 2 ^ (64 - r)) = ((x * 2 ^ (64 - r) % 18446744073709551616 : Nat) : Int) := by
    rw [← n_w64, Int.natCast_mul, Int.natCast_pow]; rfl
  have hsub : IntKind.u64.wrap (64 - ((64 - r : Nat) : Int)) = (r : Int) := by rw [wrap_u64]; omega
  have n2 : ((r : Int) < 0) = False := eq_false (by omega)
  have hs2 : (x : Int).fdiv (2 ^ r) = ((x / 2 ^ r : Nat) : Int) := by
    rw [← n_fdiv, Int.natCast_pow]; rfl
  have hlt1 : x * 2 ^ (64 - r) % 18446744073709551616 < 2 ^ IntKind.u64.bits := Nat.mod_lt _ (by decide)
  have hlt2 : x / 2 ^ r < 2 ^ IntKind.u64.bits := Nat.lt_of_le_of_lt (Nat.div_le_self _ _) hx
  have ho : bitsOp .or .u64 ((x * 2 ^ (64 - r) % 18446744073709551616 : Nat) : Int) ((x / 2 ^ r : Nat) : Int) = ((rotr x r : Nat) : Int) := by
    rw [bits_or rfl hlt1 hlt2, rotr_or hx hr hr']
  generalize hq : 64 - r = q at *
  generalize hu : 18446744073709551616 - r = u at *
  apply evVal_ex
  apply Exists.intro
  rw [evFun_fn (fn := a218) rfl]
  simp only [a218, ↓steps_chunk, envOf, quiet, cF, ↓pF, reduceCtorEq, Nat.reduceEqDiff, Int.reduceEq, fs_callW, fs_regionQ, quiet2_eq, lastOf_nil, lastOf_cons, List.take_succ_cons, List.take_zero, List.drop_succ_cons, List.drop_zero, Int.reduceBEq, Int.reduceBNe, ↓keepV_some, ↓qElse_some, ↓guardV_tt, ↓guardV_ff, ↓guardV_tf, ↓guardV_ft, cL, Int.reduceLE, Int.reduceLT, Int.reduceAdd, Int.reduceMul, Int.reduceSub, Int.reduceTDiv, Int.reduceTMod, Int.reduceNeg, Int.reduceToNat, Int.reduceGT, Int.reduceGE, Int.reducePow, Nat.reduceAdd, Nat.reduceMul, Nat.reduceSub, Nat.reduceDiv, Nat.reduceMod, Nat.reducePow, Nat.reduceLT, Nat.reduceLeDiff, cJ, hw, hm, n1, h64, hs1, hsub, n2, hr64, hs2, ho, Int.toNat_natCast]
  rfl
theorem kTab_fill : fillL (List.replicate 80 (Value.int .u64 0)) [(0, 1, .int .u64 4794697086780616226), (1, 1, .int .u64 8158064640168781261), (2, 1, .int .u64 13096744586834688815), (3, 1, .int .u64 16840607885511220156), (4, 1, .int .u64 4131703408338449720), (5, 1, .int .u64 6480981068601479193), (6, 1, .int .u64 10538285296894168987), (7, 1, .int .u64 12329834152419229976), (8, 1, .int .u64 15566598209576043074), (9, 1, .int .u64 1334009975649890238), (10, 1, .int .u64 2608012711638119052), (11, 1, .int .u64 6128411473006802146), (12, 1, .int .u64 8268148722764581231), (13, 1, .int .u64 9286055187155687089), (14, 1, .int .u64 11230858885718282805), (15, 1, .int .u64 13951009754708518548), (16, 1, .int .u64 16472876342353939154), (17, 1, .int .u64 17275323862435702243), (18, 1, .int .u64 1135362057144423861), (19, 1, .int .u64 2597628984639134821), (20, 1, .int .u64 3308224258029322869), (21, 1, .int .u64 5365058923640841347), (22, 1, .int .u64 6679025012923562964), (23, 1, .int .u64 8573033837759648693), (24, 1, .int .u64 10970295158949994411), (25, 1, .int .u64 12119686244451234320), (26, 1, .int .u64 12683024718118986047), (27, 1, .int .u64 13788192230050041572), (28, 1, .int .u64 14330467153632333762), (29, 1, .int .u64 15395433587784984357), (30, 1, .int .u64 489312712824947311), (31, 1, .int .u64 1452737877330783856), (32, 1, .int .u64 2861767655752347644), (33, 1, .int .u64 3322285676063803686), (34, 1, .int .u64 5560940570517711597), (35, 1, .int .u64 5996557281743188959), (36, 1, .int .u64 7280758554555802590), (37, 1, .int .u64 8532644243296465576), (38, 1, .int .u64 9350256976987008742), (39, 1, .int .u64 10552545826968843579), (40, 1, .int .u64 11727347734174303076), (41, 1, .int .u64 12113106623233404929), (42, 1, .int .u64 14000437183269869457), (43, 1, .int .u64 14369950271660146224), (44, 1, .int .u64 15101387698204529176), (45, 1, .int .u64 15463397548674623760), (46, 1, .int .u64 17586052441742319658), (47, 1, .int .u64 1182934255886127544), (48, 1, .int .u64 1847814050463011016), (49, 1, .int .u64 2177327727835720531), (50, 1, .int .u64 2830643537854262169), (51, 1, .int .u64 3796741975233480872), (52, 1, .int .u64 4115178125766777443), (53, 1, .int .u64 5681478168544905931), (54, 1, .int .u64 6601373596472566643), (55, 1, .int .u64 7507060721942968483), (56, 1, .int .u64 8399075790359081724), (57, 1, .int .u64 8693463985226723168), (58, 1, .int .u64 9568029438360202098), (59, 1, .int .u64 10144078919501101548), (60, 1, .int .u64 10430055236837252648), (61, 1, .int .u64 11840083180663258601), (62, 1, .int .u64 13761210420658862357), (63, 1, .int .u64 14299343276471374635), (64, 1, .int .u64 14566680578165727644), (65, 1, .int .u64 15097957966210449927), (66, 1, .int .u64 16922976911328602910), (67, 1, .int .u64 17689382322260857208), (68, 1, .int .u64 500013540394364858), (69, 1, .int .u64 748580250866718886), (70, 1, .int .u64 1242879168328830382), (71, 1, .int .u64 1977374033974150939), (72, 1, .int .u64 2944078676154940804), (73, 1, .int .u64 3659926193048069267), (74, 1, .int .u64 4368137639120453308), (75, 1, .int .u64 4836135668995329356), (76, 1, .int .u64 5532061633213252278), (77, 1, .int .u64 6448918945643986474), (78, 1, .int .u64 6902733635092675308), (79, 1, .int .u64 7801388544844847127)] = some (ns .u64 kTab) := rfl
theorem table_v : evVal T 72 [] = some (eV kTab) := by
  have hf := kTab_fill
  have lk := kTab_len
  generalize kTab = K at *
  apply evVal_ex
  apply Exists.intro
  rw [evFun_fn (fn := a219) rfl]
  simp only [a219, envOf, quiet, cF, ↓pF, reduceCtorEq, Nat.reduceEqDiff, Int.reduceEq, fs_callW, fs_regionQ, quiet2_eq, lastOf_nil, lastOf_cons, List.take_succ_cons, List.take_zero, List.drop_succ_cons, List.drop_zero, Int.reduceBEq, Int.reduceBNe, ↓keepV_some, ↓qElse_some, ↓guardV_tt, ↓guardV_ff, ↓guardV_tf, ↓guardV_ft, cL, Int.reduceLE, Int.reduceLT, Int.reduceAdd, Int.reduceMul, Int.reduceSub, Int.reduceTDiv, Int.reduceTMod, Int.reduceNeg, Int.reduceToNat, Int.reduceGT, Int.reduceGE, Int.reducePow, Nat.reduceAdd, Nat.reduceMul, Nat.reduceSub, Nat.reduceDiv, Nat.reduceMod, Nat.reducePow, Nat.reduceLT, Nat.reduceLeDiff, cJ, hf, List.length_replicate, take_all, eV_cells, eV_size, eV_ok, eV_fold, ns_len, lk, rf_eV]
  rfl
end Go.Ev.Ytgacigcbglflkaa
set_option linter.unusedSimpArgs false
set_option linter.unusedVariables false
namespace Go.Ev.Ytgacigcbglflkaa
open Go Go.Ev
attribute [local congr] bind_congr2 ite_congr2 qElse_congr gate_congr guardV_congr
set_option maxRecDepth 100000
theorem wMore_len (l : List Nat) : ∀ n, (wMore n l).length = l.length + n
  | 0 => rfl
  | n + 1 => by rw [wMore, List.length_append, wMore_len l n]; rfl
theorem wMore_get (l : List Nat) {n j : Nat} (hj : j < l.length + n) : ∀ m, n ≤ m → (wMore m l)[j]? = (wMore n l)[j]?
  | 0, h => by rw [show n = 0 by omega]
  | m + 1, h => by
    by_cases e : n = m + 1
    · rw [e]
    · rw [wMore, List.getElem?_append_left (by rw [wMore_len]; omega), wMore_get l hj m (by omega)]
theorem wBase_len (b : List Nat) : (wBase b).length = 16 := by simp [wBase]
theorem wAll_len (b : List Nat) : (wAll b).length = 80 := by rw [wAll, wMore_len, wBase_len]
theorem wAll_base {b : List Nat} {i : Nat} (hi : i < 16) : (wAll b)[i]? = some (be ((b.drop (8 * i)).take 8)) := by
  rw [wAll, wMore_get _ (n := 0) (by rw [wBase_len]; omega) 64 (by omega)]
  simp [wMore, wBase, hi]
theorem wAll_next {b : List Nat} {i : Nat} (hi : 16 ≤ i) (hi' : i < 80) : (wAll b)[i]? = some (((wAll b).getD (i - 16) 0 + (wAll b).getD (i - 7) 0 + sg0 ((wAll b).getD (i - 15) 0) + sg1 ((wAll b).getD (i - 2) 0)) % 18446744073709551616) := by
  obtain ⟨n, rfl⟩ : ∃ n, i = 16 + n := ⟨i - 16, by omega⟩
  have hl := wBase_len b
  have hn := wMore_len (wBase b) n
  rw [hl] at hn
  have hg : ∀ j, j < 16 + n → (wAll b).getD j 0 = (wMore n (wBase b)).getD j 0 := fun j hj => by
    rw [List.getD_eq_getElem?_getD, List.getD_eq_getElem?_getD, wAll, wMore_get _ (n := n) (by rw [hl]; omega) 64 (by omega)]
  rw [hg _ (by omega), hg _ (by omega), hg _ (by omega), hg _ (by omega)]
  rw [wAll, wMore_get _ (n := n + 1) (by rw [hl]; omega) 64 (by omega), wMore, List.getElem?_append_right (by omega), hn, Nat.sub_self]
  simp only [wNext, hn, List.getElem?_cons_zero]
theorem be_snoc (l : List Nat) (x : Nat) : be (l ++ [x]) = be l * 256 + x := by simp [be]
theorem be_lt : ∀ (n : Nat) (l : List Nat), l.length = n → (∀ x ∈ l, x < 256) → be l < 256 ^ n
  | 0, l, h, _ => by rw [List.eq_nil_of_length_eq_zero h]; decide
  | n + 1, l, h, hx => by
    obtain ⟨m, x, rfl⟩ : ∃ m x, l = m ++ [x] := ⟨l.dropLast, l.getLast (by intro e; rw [e] at h; cases h), (List.dropLast_concat_getLast _).symm⟩
    rw [List.length_append] at h
    have h1 := be_lt n m (by simpa using h) (fun y hy => hx y (List.mem_append_left _ hy))
    have h2 := hx x (by simp)
    rw [be_snoc, Nat.pow_succ]
    omega
theorem wAll_lt {b : List Nat} (hb : ∀ x ∈ b, x < 256) {i x : Nat} (hx : (wAll b)[i]? = some x) : x < 18446744073709551616 := by
  have hi : i < 80 := by have := (List.getElem?_eq_some_iff.1 hx).1; rwa [wAll_len] at this
  by_cases h : i < 16
  · rw [wAll_base h] at hx
    cases hx
    have hl : ((b.drop (8 * i)).take 8).length ≤ 8 := by rw [List.length_take]; omega
    have := be_lt _ _ rfl (fun y hy => hb y (List.mem_of_mem_drop (List.mem_of_mem_take hy)) : ∀ y ∈ (b.drop (8 * i)).take 8, y < 256)
    exact Nat.lt_of_lt_of_le this (Nat.pow_le_pow_right (n := 256) (by decide) hl)
  · rw [wAll_next (by omega) hi] at hx
    cases hx
    exact Nat.mod_lt _ (by decide)
theorem pf_get {n i j : Nat} {L : List Nat} (hj : j < i) (hi : i ≤ L.length) : (pf n L i)[j]? = L[j]? := by
  unfold pf
  rw [List.getElem?_append_left (by rw [List.length_take]; omega), List.getElem?_take, if_pos hj]
theorem set_same {l : List Nat} {i x : Nat} (h : l[i]? = some x) : l.set i x = l := by
  apply List.ext_getElem?
  intro k
  rw [List.getElem?_set]
  by_cases c : i = k
  · rw [if_pos c, ← c, h, if_pos (List.getElem?_eq_some_iff.1 h).1]
  · rw [if_neg c]
theorem pf_zero_at {n i : Nat} {L : List Nat} (hi : i < n) (hl : L.length = n) : (pf n L i)[i]? = some 0 := by
  unfold pf
  rw [List.getElem?_append_right (by rw [List.length_take]; omega), List.length_take, Nat.min_eq_left (by omega), Nat.sub_self, List.getElem?_replicate, if_pos (by omega)]
theorem w64m (a b : Nat) : IntKind.u64.wrap ((a : Int) + (b : Int)) = (((a + b) % 18446744073709551616 : Nat) : Int) := by rw [← Int.natCast_add, n_w64]
theorem xor64 {a b : Nat} (ha : a < 18446744073709551616) (hb : b < 18446744073709551616) : bitsOp .xor .u64 (a : Int) (b : Int) = ((a ^^^ b : Nat) : Int) := bits_xor rfl ha hb
theorem and64 {a b : Nat} (ha : a < 18446744073709551616) (hb : b < 18446744073709551616) : bitsOp .and .u64 (a : Int) (b : Int) = ((a &&& b : Nat) : Int) := bits_and rfl ha hb
theorem xor64_lt {a b : Nat} (ha : a < 18446744073709551616) (hb : b < 18446744073709551616) : a ^^^ b < 18446744073709551616 := Nat.xor_lt_two_pow (n := 64) ha hb
theorem and64_lt {a b : Nat} (hb : b < 18446744073709551616) : a &&& b < 18446744073709551616 := Nat.and_lt_two_pow (n := 64) a hb
theorem shr64 {x r : Nat} (hr : r ≤ 64) : (x : Int).fdiv (2 ^ min r IntKind.u64.bits) = ((x / 2 ^ r : Nat) : Int) := by
  rw [show min r IntKind.u64.bits = r from Nat.min_eq_left hr, ← n_fdiv, Int.natCast_pow]; rfl
theorem div64_lt {x r : Nat} (hx : x < 18446744073709551616) : x / 2 ^ r < 18446744073709551616 := Nat.lt_of_le_of_lt (Nat.div_le_self _ _) hx
structure BB (H : List Ob) (id off : Nat) (b : List Nat) : Prop where
  ob : ∃ all : List Nat, H[id]? = some ⟨u8s all, true, true, false, 1⟩ ∧ ∀ i, i < b.length → all[off + i]? = b[i]?
  lt : ∀ x ∈ b, x < 256
theorem BB.app {H l : List Ob} {id off : Nat} {b : List Nat} (h : BB H id off b) : BB (H ++ l) id off b := by
  obtain ⟨⟨all, h1, h2⟩, h3⟩ := h
  exact ⟨⟨all, by rw [List.getElem?_append_left (List.getElem?_eq_some_iff.1 h1).1]; exact h1, h2⟩, h3⟩
def w2I (H : List Ob) (P : Value) (id off cap : Nat) (w : List Nat) (i : Int) (o8 c8 : Nat) (j : Int) (ex : Env) : St := ⟨[(0, P), (1, .slice (some ⟨id, off, none⟩) 128 cap), (4, .pointer (some ⟨H.length, 0, none⟩)), (5, .int .i64 i), (17, .int .i64 i), (28, .slice (some ⟨id, o8, none⟩) 8 c8), (29, .int .i64 8), (30, .int .i64 j)] ++ ex, H ++ [⟨ns .u64 w, true, true, true, 1⟩], []⟩
theorem w2_block {H : List Ob} {P : Value} {id off cap c8 i : Nat} {b : List Nat} (hb : BB H id off b) (hl : b.length = 128) (hi : i < 16) :
    evCode T H.length (.block 2 (.loop a216_l2)) (w2I H P id off cap (pf 80 (wAll b) i) i (off + 8 * i) c8 0 []) = some (.normal, w2I H P id off cap (pf 80 (wAll b) (i + 1)) i (off + 8 * i) c8 8 [(31, .bool false)]) := by
  obtain ⟨⟨all, h1, h2⟩, h3⟩ := hb
  have hWl := wAll_len b
  have h8 : ((b.drop (8 * i)).take 8).length = 8 := by rw [List.length_take, List.length_drop]; omega
  have hz := pf_zero_at (L := wAll b) (by omega : i < 80) hWl
  have hpl := pf_len hWl (by omega : i ≤ 80)
  have hset0 : (pf 80 (wAll b) i).set i (be []) = pf 80 (wAll b) i := set_same hz
  have hW := wAll_base (b := b) hi
  have hstep := pf_step hWl (by omega : i < 80) hW
  have h := block_loop (T := T) (base := H.length) (id := 2) (body := a216_l2) (fun j => w2I H P id off cap ((pf 80 (wAll b) i).set i (be (((b.drop (8 * i)).take 8).take j))) i (off + 8 * i) c8 j []) (s' := w2I H P id off cap (pf 80 (wAll b) (i + 1)) i (off + 8 * i) c8 8 [(31, .bool false)]) 8
    (fun j hj => by
      obtain ⟨x, hx⟩ : ∃ x, ((b.drop (8 * i)).take 8)[j]? = some x := ⟨_, List.getElem?_eq_getElem (by omega)⟩
      have hxb : b[8 * i + j]? = some x := by
        rw [List.getElem?_take, if_pos hj, List.getElem?_drop] at hx; exact hx
      have hx' := h3 x (List.mem_of_getElem? hxb)
      have hxa : (u8s all)[off + 8 * i + j]? = some (.int .u8 (x : Nat)) := u8s_get (by rw [show off + 8 * i + j = off + (8 * i + j) by omega, h2 _ (by omega)]; exact hxb)
      have hbel := be_lt j (((b.drop (8 * i)).take 8).take j) (by rw [List.length_take]; omega) (fun y hy => h3 y (List.mem_of_mem_drop (List.mem_of_mem_take (List.mem_of_mem_take hy))))
      have hbes : be (((b.drop (8 * i)).take 8).take (j + 1)) = be (((b.drop (8 * i)).take 8).take j) * 256 + x := by rw [List.take_add_one, hx]; exact be_snoc _ _
      rw [hbes]
      have h256 : (256 : Nat) ^ j ≤ 256 ^ 7 := Nat.pow_le_pow_right (by decide) (by omega)
      have e7 : (256 : Nat) ^ 7 = 72057594037927936 := by decide
      rw [e7] at h256
      generalize be (((b.drop (8 * i)).take 8).take j) = a at *
      have hg : ((pf 80 (wAll b) i).set i a)[i]? = some a := by rw [List.getElem?_set_self (by rw [hpl]; omega)]
      have hgc := ns_get (k := .u64) hg
      have hss := ns_set .u64 ((pf 80 (wAll b) i).set i a) i (a * 256 + x)
      rw [List.set_set] at hss
      have hln : ((pf 80 (wAll b) i).set i a).length = 80 := by rw [List.length_set]; exact hpl
      have w1 : IntKind.i64.wrap ((j : Int) + 1) = ((j + 1 : Nat) : Int) := wi_add (b := 1) (by omega)
      have w2 : IntKind.u64.wrap (x : Int) = (x : Int) := w64n (by omega)
      have w3 : IntKind.u64.wrap ((a : Int) * 2 ^ min 8 IntKind.u64.bits) = ((a * 256 : Nat) : Int) := w64_mul (b := 256) (by omega)
      have w4 : bitsOp .or .u64 ((a * 256 : Nat) : Int) (x : Int) = ((a * 256 + x : Nat) : Int) := by
        rw [bits_or rfl (show a * 256 < 2 ^ 64 by omega) (show x < 2 ^ 64 by omega)]
        have := or_apart (a := x) (b := a) (n := 8) (by omega)
        rw [show (2 : Nat) ^ 8 = 256 from rfl] at this
        rw [this]
      have e1 : ((j : Int) < 8) = True := eq_true (by omega)
      have e2 : ((i : Int) < 80) = True := eq_true (by omega)
      have e4 : (i ≤ 79) = True := eq_true (by omega)
      have hl1 : liveAt (H ++ [⟨ns .u64 ((pf 80 (wAll b) i).set i a), true, true, true, 1⟩]) id = some ⟨u8s all, true, true, false, 1⟩ := liveAt_app (liveAt_some h1 rfl)
      generalize (pf 80 (wAll b) i).set i a = O1 at *
      generalize (pf 80 (wAll b) i).set i (a * 256 + x) = O2 at *
      generalize hv : a * 256 + x = v at *
      generalize a * 256 = v2 at *
      simp only [liveAt] at hl1
      generalize hoo : off + 8 * i = oo at *
      have hget : (H ++ [⟨ns .u64 O1, true, true, true, 1⟩])[id]? = some ⟨u8s all, true, true, false, 1⟩ := by rw [List.getElem?_append_left (List.getElem?_eq_some_iff.1 h1).1]; exact h1
      simp only [w2I, a216_l2, envOf, quiet, cF, ↓pF, reduceCtorEq, Nat.reduceEqDiff, Int.reduceEq, fs_callW, fs_regionQ, quiet2_eq, lastOf_nil, lastOf_cons, List.take_succ_cons, List.take_zero, List.drop_succ_cons, List.drop_zero, Int.reduceBEq, Int.reduceBNe, ↓keepV_some, ↓qElse_some, ↓guardV_tt, ↓guardV_ff, ↓guardV_tf, ↓guardV_ft, cL, Int.reduceLE, Int.reduceLT, Int.reduceAdd, Int.reduceMul, Int.reduceSub, Int.reduceTDiv, Int.reduceTMod, Int.reduceNeg, Int.reduceToNat, Int.reduceGT, Int.reduceGE, Int.reducePow, Nat.reduceAdd, Nat.reduceMul, Nat.reduceSub, Nat.reduceDiv, Nat.reduceMod, Nat.reducePow, Nat.reduceLT, Nat.reduceLeDiff, cJ, hget, hxa, hgc, w1, w2, w3, w4, e1, e2, e4, hss, ns_len, hln])
    (by
      rw [List.take_of_length_le (by omega), hstep]
      simp only [w2I, a216_l2, envOf, quiet, cF, ↓pF, reduceCtorEq, Nat.reduceEqDiff, Int.reduceEq, fs_callW, fs_regionQ, quiet2_eq, lastOf_nil, lastOf_cons, List.take_succ_cons, List.take_zero, List.drop_succ_cons, List.drop_zero, Int.reduceBEq, Int.reduceBNe, ↓keepV_some, ↓qElse_some, ↓guardV_tt, ↓guardV_ff, ↓guardV_tf, ↓guardV_ft, cL, Int.reduceLE, Int.reduceLT, Int.reduceAdd, Int.reduceMul, Int.reduceSub, Int.reduceTDiv, Int.reduceTMod, Int.reduceNeg, Int.reduceToNat, Int.reduceGT, Int.reduceGE, Int.reducePow, Nat.reduceAdd, Nat.reduceMul, Nat.reduceSub, Nat.reduceDiv, Nat.reduceMod, Nat.reducePow, Nat.reduceLT, Nat.reduceLeDiff, cJ])
  rw [List.take_zero, hset0] at h
  exact h
end Go.Ev.Ytgacigcbglflkaa
set_option linter.unusedSimpArgs false
set_option linter.unusedVariables false
namespace Go.Ev.Ytgacigcbglflkaa
open Go Go.Ev
attribute [local congr] bind_congr2 ite_congr2 qElse_congr gate_congr guardV_congr
set_option maxRecDepth 100000
theorem natIn_nat {k : IntKind} {n y d : Nat} (h : n ≤ y) : natIn (some (.int k (n : Int))) y d = some n := by
  have e : (0 : Int) ≤ (n : Int) ∧ (n : Int) ≤ (y : Int) := ⟨by omega, by omega⟩
  simp only [natIn, if_pos e, Int.toNat_natCast]
def w3I (H : List Ob) (P : Value) (id off cap : Nat) (w : List Nat) (i : Int) (ex : Env) : St := ⟨[(0, P), (1, .slice (some ⟨id, off, none⟩) 128 cap), (4, .pointer (some ⟨H.length, 0, none⟩)), (17, .int .i64 i)] ++ ex, H ++ [⟨ns .u64 w, true, true, true, 1⟩], []⟩
theorem w3_low {H : List Ob} {P : Value} {id off cap i : Nat} {b : List Nat} (hb : BB H id off b) (hl : b.length = 128) (hc : 128 ≤ cap) (hi : i < 16) :
    evCode T H.length a216_l3 (w3I H P id off cap (pf 80 (wAll b) i) i []) = some (.normal, w3I H P id off cap (pf 80 (wAll b) (i + 1)) ((i + 1 : Nat) : Int) []) := by
  have h2 := w2_block (P := P) (cap := cap) (c8 := cap - 8 * i) hb hl hi
  obtain ⟨⟨all, h1, -⟩, h3⟩ := hb
  simp only [w2I, List.cons_append, List.nil_append, Int.natCast_zero] at h2
  have e1 : ((i : Int) < 80) = True := eq_true (by omega)
  have e2 : ((i : Int) < 16) = True := eq_true (by omega)
  have w1 : IntKind.i64.wrap (8 * (i : Int)) = ((8 * i : Nat) : Int) := wi_mul (a := 8) (by omega)
  have w2 : IntKind.i64.wrap (((8 * i : Nat) : Int) + 8) = ((8 * i + 8 : Nat) : Int) := wi_add (b := 8) (by omega)
  have w3 : IntKind.i64.wrap ((i : Int) + 1) = ((i + 1 : Nat) : Int) := wi_add (b := 1) (by omega)
  have b1 : bounds3 128 cap (some (.int .i64 ((8 * i : Nat) : Int))) (some (.int .i64 ((8 * i + 8 : Nat) : Int))) none = some (8 * i, 8 * i + 8, cap) := by
    have n1 : natIn (some (.int .i64 ((8 * i + 8 : Nat) : Int))) cap 128 = some (8 * i + 8) := natIn_nat (by omega)
    have n2 : natIn (some (.int .i64 ((8 * i : Nat) : Int))) (8 * i + 8) 0 = some (8 * i) := natIn_nat (by omega)
    rw [bounds3_two, n1, Option.bind_some, n2, Option.bind_some]
  have hs : 8 * i + 8 - 8 * i = 8 := by omega
  have hget : ∀ l : List Ob, (H ++ l)[id]? = some ⟨u8s all, true, true, false, 1⟩ := fun l => by rw [List.getElem?_append_left (List.getElem?_eq_some_iff.1 h1).1]; exact h1
  generalize pf 80 (wAll b) i = O1 at *
  generalize pf 80 (wAll b) (i + 1) = O2 at *
  generalize hk8 : 8 * i + 8 = k8 at *
  generalize hk : 8 * i = k at *
  generalize i + 1 = i1 at *
  simp only [w3I, a216_l3, envOf, quiet, cF, ↓pF, reduceCtorEq, Nat.reduceEqDiff, Int.reduceEq, fs_callW, fs_regionQ, quiet2_eq, lastOf_nil, lastOf_cons, List.take_succ_cons, List.take_zero, List.drop_succ_cons, List.drop_zero, Int.reduceBEq, Int.reduceBNe, ↓keepV_some, ↓qElse_some, ↓guardV_tt, ↓guardV_ff, ↓guardV_tf, ↓guardV_ft, cL, Int.reduceLE, Int.reduceLT, Int.reduceAdd, Int.reduceMul, Int.reduceSub, Int.reduceTDiv, Int.reduceTMod, Int.reduceNeg, Int.reduceToNat, Int.reduceGT, Int.reduceGE, Int.reducePow, Nat.reduceAdd, Nat.reduceMul, Nat.reduceSub, Nat.reduceDiv, Nat.reduceMod, Nat.reducePow, Nat.reduceLT, Nat.reduceLeDiff, cJ, e1, e2, w1, w2, w3, b1, hs, hget, h2]
theorem getD_of {l : List Nat} {i x : Nat} (h : l[i]? = some x) : l.getD i 0 = x := by rw [List.getD_eq_getElem?_getD, h]; rfl
theorem w3_high {H : List Ob} {P : Value} {id off cap i : Nat} {b : List Nat} (hb : ∀ x ∈ b, x < 256) (hi : 16 ≤ i) (hi' : i < 80) :
    evCode T H.length a216_l3 (w3I H P id off cap (pf 80 (wAll b) i) i []) = some (.normal, w3I H P id off cap (pf 80 (wAll b) (i + 1)) ((i + 1 : Nat) : Int) []) := by
  have hWl := wAll_len b
  have hW := wAll_next (b := b) hi hi'
  have hstep := pf_step hWl hi' hW
  have hpl := pf_len hWl (Nat.le_of_lt hi')
  obtain ⟨x, hx⟩ : ∃ x, (wAll b)[i - 15]? = some x := ⟨_, List.getElem?_eq_getElem (by omega)⟩
  obtain ⟨y, hy⟩ : ∃ x, (wAll b)[i - 2]? = some x := ⟨_, List.getElem?_eq_getElem (by omega)⟩
  obtain ⟨u, hu⟩ : ∃ x, (wAll b)[i - 16]? = some x := ⟨_, List.getElem?_eq_getElem (by omega)⟩
  obtain ⟨v, hv⟩ : ∃ x, (wAll b)[i - 7]? = some x := ⟨_, List.getElem?_eq_getElem (by omega)⟩
  have lx := wAll_lt hb hx
  have ly := wAll_lt hb hy
  have cx := ns_get (k := .u64) ((pf_get (n := 80) (by omega : i - 15 < i) (by omega)).trans hx)
  have cy := ns_get (k := .u64) ((pf_get (n := 80) (by omega : i - 2 < i) (by omega)).trans hy)
  have cu := ns_get (k := .u64) ((pf_get (n := 80) (by omega : i - 16 < i) (by omega)).trans hu)
  have cv := ns_get (k := .u64) ((pf_get (n := 80) (by omega : i - 7 < i) (by omega)).trans hv)
  rw [getD_of hx, getD_of hy, getD_of hu, getD_of hv] at hstep
  have r1 : evVal T 71 [.int .u64 x, .int .i64 (-1)] = some (.int .u64 (rotr x 1 : Nat)) := rot_v (r := 1) lx (by decide) (by decide)
  have r8 : evVal T 71 [.int .u64 x, .int .i64 (-8)] = some (.int .u64 (rotr x 8 : Nat)) := rot_v (r := 8) lx (by decide) (by decide)
  have r19 : evVal T 71 [.int .u64 y, .int .i64 (-19)] = some (.int .u64 (rotr y 19 : Nat)) := rot_v (r := 19) ly (by decide) (by decide)
  have r61 : evVal T 71 [.int .u64 y, .int .i64 (-61)] = some (.int .u64 (rotr y 61 : Nat)) := rot_v (r := 61) ly (by decide) (by decide)
  have b1 := rotr_lt (r := 1) lx (by decide) (by decide)
  have b8 := rotr_lt (r := 8) lx (by decide) (by decide)
  have b19 := rotr_lt (r := 19) ly (by decide) (by decide)
  have b61 := rotr_lt (r := 61) ly (by decide) (by decide)
  have x1 := xor64 b1 b8
  have x2 : bitsOp .xor .u64 ((rotr x 1 ^^^ rotr x 8 : Nat) : Int) ((x / 2 ^ 7 : Nat) : Int) = ((sg0 x : Nat) : Int) := xor64 (xor64_lt b1 b8) (div64_lt lx)
  have y1 := xor64 b19 b61
  have y2 : bitsOp .xor .u64 ((rotr y 19 ^^^ rotr y 61 : Nat) : Int) ((y / 2 ^ 6 : Nat) : Int) = ((sg1 y : Nat) : Int) := xor64 (xor64_lt b19 b61) (div64_lt ly)
  have s7 : (x : Int).fdiv (2 ^ min 7 IntKind.u64.bits) = ((x / 2 ^ 7 : Nat) : Int) := shr64 (by decide)
  have s6 : (y : Int).fdiv (2 ^ min 6 IntKind.u64.bits) = ((y / 2 ^ 6 : Nat) : Int) := shr64 (by decide)
  have m1 := w64m u v
  have m2 := w64m ((u + v) % 18446744073709551616) (sg0 x)
  have m3 := w64m (((u + v) % 18446744073709551616 + sg0 x) % 18446744073709551616) (sg1 y)
  have hsum : (((u + v) % 18446744073709551616 + sg0 x) % 18446744073709551616 + sg1 y) % 18446744073709551616 = (u + v + sg0 x + sg1 y) % 18446744073709551616 := by omega
  rw [hsum] at m3
  have hset := ns_set .u64 (pf 80 (wAll b) i) i ((u + v + sg0 x + sg1 y) % 18446744073709551616)
  rw [hstep] at hset
  have e1 : ((i : Int) < 80) = True := eq_true (by omega)
  have e2 : ((i : Int) < 16) = False := eq_false (by omega)
  have i15 : IntKind.i64.wrap ((i : Int) - 15) = ((i - 15 : Nat) : Int) := by rw [wrapI64_small (by omega) (by omega)]; omega
  have i2 : IntKind.i64.wrap ((i : Int) - 2) = ((i - 2 : Nat) : Int) := by rw [wrapI64_small (by omega) (by omega)]; omega
  have i16 : IntKind.i64.wrap ((i : Int) - 16) = ((i - 16 : Nat) : Int) := by rw [wrapI64_small (by omega) (by omega)]; omega
  have i7 : IntKind.i64.wrap ((i : Int) - 7) = ((i - 7 : Nat) : Int) := by rw [wrapI64_small (by omega) (by omega)]; omega
  have j15 : (((i - 15 : Nat) : Int) < 80) = True := eq_true (by omega)
  have j2 : (((i - 2 : Nat) : Int) < 80) = True := eq_true (by omega)
  have j16 : (((i - 16 : Nat) : Int) < 80) = True := eq_true (by omega)
  have j7 : (((i - 7 : Nat) : Int) < 80) = True := eq_true (by omega)
  have w3 : IntKind.i64.wrap ((i : Int) + 1) = ((i + 1 : Nat) : Int) := wi_add (b := 1) (by omega)
  have e4 : (i ≤ 79) = True := eq_true (by omega)
  clear hsum hstep hW hx hy hu hv hWl
  generalize pf 80 (wAll b) i = O1 at *
  generalize pf 80 (wAll b) (i + 1) = O2 at *
  generalize (u + v + sg0 x + sg1 y) % 18446744073709551616 = z at *
  generalize ((u + v) % 18446744073709551616 + sg0 x) % 18446744073709551616 = z2 at *
  generalize (u + v) % 18446744073709551616 = z3 at *
  generalize sg0 x = gx at *
  generalize sg1 y = gy at *
  generalize rotr x 1 ^^^ rotr x 8 = xx at *
  generalize rotr y 19 ^^^ rotr y 61 = yy at *
  generalize rotr x 1 = x1v at *
  generalize rotr x 8 = x8v at *
  generalize rotr y 19 = y19v at *
  generalize rotr y 61 = y61v at *
  generalize x / 2 ^ 7 = x7v at *
  generalize y / 2 ^ 6 = y6v at *
  generalize i - 15 = k15 at *
  generalize i - 2 = k2 at *
  generalize i - 16 = k16 at *
  generalize i - 7 = k7 at *
  generalize i + 1 = i1 at *
  simp only [w3I, a216_l3, ↓steps_chunk, envOf, quiet, cF, ↓pF, reduceCtorEq, Nat.reduceEqDiff, Int.reduceEq, fs_callW, fs_regionQ, quiet2_eq, lastOf_nil, lastOf_cons, List.take_succ_cons, List.take_zero, List.drop_succ_cons, List.drop_zero, Int.reduceBEq, Int.reduceBNe, ↓keepW_some, ↓qElseW_some, ↓guardW_tt, ↓guardW_ff, ↓guardW_tf, ↓guardW_ft, cL, Int.reduceLE, Int.reduceLT, Int.reduceAdd, Int.reduceMul, Int.reduceSub, Int.reduceTDiv, Int.reduceTMod, Int.reduceNeg, Int.reduceToNat, Int.reduceGT, Int.reduceGE, Int.reducePow, Nat.reduceAdd, Nat.reduceMul, Nat.reduceSub, Nat.reduceDiv, Nat.reduceMod, Nat.reducePow, Nat.reduceLT, Nat.reduceLeDiff, cJ, e1, e2, e4, i15, i2, i16, i7, j15, j2, j16, j7, cx, cy, cu, cv, r1, r8, r19, r61, x1, x2, y1, y2, s7, s6, m1, m2, m3, hset, w3, ns_len, hpl]
theorem w3_block {H : List Ob} {P : Value} {id off cap : Nat} {b : List Nat} (hb : BB H id off b) (hl : b.length = 128) (hc : 128 ≤ cap) :
    evCode T H.length (.block 0 (.loop a216_l3)) (w3I H P id off cap (List.replicate 80 0) 0 []) = some (.normal, w3I H P id off cap (wAll b) 80 [(18, .bool false)]) := by
  have hWl := wAll_len b
  have h := block_loop (T := T) (base := H.length) (id := 0) (body := a216_l3) (fun i => w3I H P id off cap (pf 80 (wAll b) i) i []) (s' := w3I H P id off cap (wAll b) 80 [(18, .bool false)]) 80
    (fun i hi => by
      by_cases h : i < 16
      · exact w3_low hb hl hc h
      · exact w3_high hb.lt (by omega) hi)
    (by
      rw [pf_full hWl]
      simp only [w3I, a216_l3, envOf, quiet, cF, ↓pF, reduceCtorEq, Nat.reduceEqDiff, Int.reduceEq, fs_callW, fs_regionQ, quiet2_eq, lastOf_nil, lastOf_cons, List.take_succ_cons, List.take_zero, List.drop_succ_cons, List.drop_zero, Int.reduceBEq, Int.reduceBNe, ↓keepV_some, ↓qElse_some, ↓guardV_tt, ↓guardV_ff, ↓guardV_tf, ↓guardV_ft, cL, Int.reduceLE, Int.reduceLT, Int.reduceAdd, Int.reduceMul, Int.reduceSub, Int.reduceTDiv, Int.reduceTMod, Int.reduceNeg, Int.reduceToNat, Int.reduceGT, Int.reduceGE, Int.reducePow, Nat.reduceAdd, Nat.reduceMul, Nat.reduceSub, Nat.reduceDiv, Nat.reduceMod, Nat.reducePow, Nat.reduceLT, Nat.reduceLeDiff, cJ])
  rw [pf_zero] at h
  exact h
end Go.Ev.Ytgacigcbglflkaa
set_option linter.unusedSimpArgs false
set_option linter.unusedVariables false
namespace Go.Ev.Ytgacigcbglflkaa
open Go Go.Ev
attribute [local congr] bind_congr2 ite_congr2 qElse_congr gate_congr guardV_congr
set_option maxRecDepth 100000
theorem eight {l : List Nat} (h : l.length = 8) : ∃ a b c d e f g i, l = [a, b, c, d, e, f, g, i] := by
  match l, h with
  | [a, b, c, d, e, f, g, i], _ => exact ⟨a, b, c, d, e, f, g, i, rfl⟩
theorem rnd_len (s : List Nat) (k w : Nat) : (rnd s k w).length = 8 := rfl
theorem rnds_len {s : List Nat} (hs : s.length = 8) (w : List Nat) : ∀ n, (rnds n w s).length = 8
  | 0 => hs
  | n + 1 => rfl
theorem rnd_lt {s : List Nat} (hs : s.length = 8) (hx : ∀ x ∈ s, x < 18446744073709551616) (k w : Nat) : ∀ x ∈ rnd s k w, x < 18446744073709551616 := by
  obtain ⟨a, b, c, d, e, f, g, h, rfl⟩ := eight hs
  intro x hm
  have h1 : ∀ y z : Nat, (y + z) % 18446744073709551616 < 18446744073709551616 := fun _ _ => Nat.mod_lt _ (by decide)
  simp only [rnd, List.mem_cons, List.not_mem_nil, or_false] at hm
  rcases hm with rfl | rfl | rfl | rfl | rfl | rfl | rfl | rfl
  · exact h1 _ _
  · exact hx _ (by simp)
  · exact hx _ (by simp)
  · exact hx _ (by simp)
  · exact h1 _ _
  · exact hx _ (by simp)
  · exact hx _ (by simp)
  · exact hx _ (by simp)
theorem rnds_lt {s : List Nat} (hs : s.length = 8) (hx : ∀ x ∈ s, x < 18446744073709551616) (w : List Nat) : ∀ n, ∀ x ∈ rnds n w s, x < 18446744073709551616
  | 0 => hx
  | n + 1 => rnd_lt (rnds_len hs w n) (rnds_lt hs hx w n) _ _
theorem fill8 (a b c d e f g h : Nat) : fillL (List.replicate 8 (Value.int .u64 0)) [(0, 1, .int .u64 (a : Int)), (1, 1, .int .u64 (b : Int)), (2, 1, .int .u64 (c : Int)), (3, 1, .int .u64 (d : Int)), (4, 1, .int .u64 (e : Int)), (5, 1, .int .u64 (f : Int)), (6, 1, .int .u64 (g : Int)), (7, 1, .int .u64 (h : Int))] = some (ns .u64 [a, b, c, d, e, f, g, h]) := rfl
def w1I (H : List Ob) (P : Value) (w s : List Nat) (i : Int) (ex : Env) : St := ⟨[(0, P), (4, .pointer (some ⟨H.length, 0, none⟩)), (10, .pointer (some ⟨H.length + 1, 0, none⟩)), (86, eV kTab), (87, .int .i64 i)] ++ ex, H ++ [⟨ns .u64 w, true, true, true, 1⟩, ⟨ns .u64 s, true, true, true, 1⟩], []⟩
theorem w1_body {H : List Ob} {P : Value} {w s : List Nat} {i : Nat} (hw : w.length = 80) (hs : s.length = 8) (hx : ∀ x ∈ s, x < 18446744073709551616) (hi : i < 80) :
    evCode T H.length a216_l1 (w1I H P w s i []) = some (.normal, w1I H P w (rnd s (kTab.getD i 0) (w.getD i 0)) ((i + 1 : Nat) : Int) []) := by
  obtain ⟨a, b, c, d, e, f, g, h, rfl⟩ := eight hs
  obtain ⟨k, hk⟩ : ∃ k, kTab[i]? = some k := ⟨_, List.getElem?_eq_getElem (by rw [kTab_len]; exact hi)⟩
  obtain ⟨v, hv⟩ : ∃ k, w[i]? = some k := ⟨_, List.getElem?_eq_getElem (by omega)⟩
  rw [getD_of hk, getD_of hv]
  have kc := ns_get (k := .u64) hk
  have vc := ns_get (k := .u64) hv
  have la := hx a (by simp)
  have lb := hx b (by simp)
  have lc := hx c (by simp)
  have le := hx e (by simp)
  have lf := hx f (by simp)
  have lg := hx g (by simp)
  have r14 : evVal T 71 [.int .u64 e, .int .i64 (-14)] = some (.int .u64 (rotr e 14 : Nat)) := rot_v (r := 14) le (by decide) (by decide)
  have r18 : evVal T 71 [.int .u64 e, .int .i64 (-18)] = some (.int .u64 (rotr e 18 : Nat)) := rot_v (r := 18) le (by decide) (by decide)
  have r41 : evVal T 71 [.int .u64 e, .int .i64 (-41)] = some (.int .u64 (rotr e 41 : Nat)) := rot_v (r := 41) le (by decide) (by decide)
  have r28 : evVal T 71 [.int .u64 a, .int .i64 (-28)] = some (.int .u64 (rotr a 28 : Nat)) := rot_v (r := 28) la (by decide) (by decide)
  have r34 : evVal T 71 [.int .u64 a, .int .i64 (-34)] = some (.int .u64 (rotr a 34 : Nat)) := rot_v (r := 34) la (by decide) (by decide)
  have r39 : evVal T 71 [.int .u64 a, .int .i64 (-39)] = some (.int .u64 (rotr a 39 : Nat)) := rot_v (r := 39) la (by decide) (by decide)
  have b14 := rotr_lt (r := 14) le (by decide) (by decide)
  have b18 := rotr_lt (r := 18) le (by decide) (by decide)
  have b41 := rotr_lt (r := 41) le (by decide) (by decide)
  have b28 := rotr_lt (r := 28) la (by decide) (by decide)
  have b34 := rotr_lt (r := 34) la (by decide) (by decide)
  have b39 := rotr_lt (r := 39) la (by decide) (by decide)
  have x1 := xor64 b14 b18
  have x2 : bitsOp .xor .u64 ((rotr e 14 ^^^ rotr e 18 : Nat) : Int) ((rotr e 41 : Nat) : Int) = ((Sg1 e : Nat) : Int) := xor64 (xor64_lt b14 b18) b41
  have x3 := xor64 b28 b34
  have x4 : bitsOp .xor .u64 ((rotr a 28 ^^^ rotr a 34 : Nat) : Int) ((rotr a 39 : Nat) : Int) = ((Sg0 a : Nat) : Int) := xor64 (xor64_lt b28 b34) b39
  have a1 := and64 le lf
  have a2 : bitsOp .xor .u64 (if IntKind.u64.signed = true then -1 else IntKind.u64.max) (e : Int) = ((18446744073709551615 ^^^ e : Nat) : Int) := xor64 (a := 18446744073709551615) (by decide) le
  have lne : 18446744073709551615 ^^^ e < 18446744073709551616 := xor64_lt (by decide) le
  have a3 := and64 lne lg
  have a4 : bitsOp .xor .u64 ((e &&& f : Nat) : Int) (((18446744073709551615 ^^^ e) &&& g : Nat) : Int) = ((chO e f g : Nat) : Int) := xor64 (and64_lt lf) (and64_lt lg)
  have a5 := and64 la lb
  have a6 := and64 la lc
  have a7 := and64 lb lc
  have a8 := xor64 (a := a &&& b) (b := a &&& c) (and64_lt lb) (and64_lt lc)
  have a9 : bitsOp .xor .u64 (((a &&& b) ^^^ (a &&& c) : Nat) : Int) ((b &&& c : Nat) : Int) = ((maO a b c : Nat) : Int) := xor64 (xor64_lt (and64_lt lb) (and64_lt lc)) (and64_lt lc)
  have m1 := w64m h (Sg1 e)
  have m2 := w64m ((h + Sg1 e) % 18446744073709551616) (chO e f g)
  have m3 := w64m (((h + Sg1 e) % 18446744073709551616 + chO e f g) % 18446744073709551616) k
  have m4 := w64m ((((h + Sg1 e) % 18446744073709551616 + chO e f g) % 18446744073709551616 + k) % 18446744073709551616) v
  have hT1 : ((((h + Sg1 e) % 18446744073709551616 + chO e f g) % 18446744073709551616 + k) % 18446744073709551616 + v) % 18446744073709551616 = t1O [a, b, c, d, e, f, g, h] k v := by
    show _ = (h + Sg1 e + chO e f g + k + v) % 18446744073709551616
    omega
  rw [hT1] at m4
  have m5 : IntKind.u64.wrap ((Sg0 a : Int) + (maO a b c : Int)) = ((t2O [a, b, c, d, e, f, g, h] : Nat) : Int) := w64m (Sg0 a) (maO a b c)
  have m6 := w64m (t1O [a, b, c, d, e, f, g, h] k v) (t2O [a, b, c, d, e, f, g, h])
  have m7 := w64m d (t1O [a, b, c, d, e, f, g, h] k v)
  have hr : rnd [a, b, c, d, e, f, g, h] k v = [(t1O [a, b, c, d, e, f, g, h] k v + t2O [a, b, c, d, e, f, g, h]) % 18446744073709551616, a, b, c, (d + t1O [a, b, c, d, e, f, g, h] k v) % 18446744073709551616, e, f, g] := rfl
  have hf := fill8 ((t1O [a, b, c, d, e, f, g, h] k v + t2O [a, b, c, d, e, f, g, h]) % 18446744073709551616) a b c ((d + t1O [a, b, c, d, e, f, g, h] k v) % 18446744073709551616) e f g
  rw [← hr] at hf
  have lR := rnd_len [a, b, c, d, e, f, g, h] k v
  have e1 : ((i : Int) < 80) = True := eq_true (by omega)
  have w3 : IntKind.i64.wrap ((i : Int) + 1) = ((i + 1 : Nat) : Int) := wi_add (b := 1) (by omega)
  have vi : vIndex none 80 1 (eV kTab) (.int .i64 (i : Int)) = some (.int .u64 (k : Nat)) := by
    unfold eV
    rw [vIndex_agg]
    simp only [e1, envOf, quiet, cF, ↓pF, reduceCtorEq, Nat.reduceEqDiff, Int.reduceEq, fs_callW, fs_regionQ, quiet2_eq, lastOf_nil, lastOf_cons, List.take_succ_cons, List.take_zero, List.drop_succ_cons, List.drop_zero, Int.reduceBEq, Int.reduceBNe, ↓keepV_some, ↓qElse_some, ↓guardV_tt, ↓guardV_ff, ↓guardV_tf, ↓guardV_ft, cL, Int.reduceLE, Int.reduceLT, Int.reduceAdd, Int.reduceMul, Int.reduceSub, Int.reduceTDiv, Int.reduceTMod, Int.reduceNeg, Int.reduceToNat, Int.reduceGT, Int.reduceGE, Int.reducePow, Nat.reduceAdd, Nat.reduceMul, Nat.reduceSub, Nat.reduceDiv, Nat.reduceMod, Nat.reducePow, Nat.reduceLT, Nat.reduceLeDiff, kc]
  have g0 : (ns .u64 [a, b, c, d, e, f, g, h])[0]? = some (.int .u64 (a : Nat)) := rfl
  have g1 : (ns .u64 [a, b, c, d, e, f, g, h])[1]? = some (.int .u64 (b : Nat)) := rfl
  have g2 : (ns .u64 [a, b, c, d, e, f, g, h])[2]? = some (.int .u64 (c : Nat)) := rfl
  have g3 : (ns .u64 [a, b, c, d, e, f, g, h])[3]? = some (.int .u64 (d : Nat)) := rfl
  have g4 : (ns .u64 [a, b, c, d, e, f, g, h])[4]? = some (.int .u64 (e : Nat)) := rfl
  have g5 : (ns .u64 [a, b, c, d, e, f, g, h])[5]? = some (.int .u64 (f : Nat)) := rfl
  have g6 : (ns .u64 [a, b, c, d, e, f, g, h])[6]? = some (.int .u64 (g : Nat)) := rfl
  have g7 : (ns .u64 [a, b, c, d, e, f, g, h])[7]? = some (.int .u64 (h : Nat)) := rfl
  have lS : (ns .u64 [a, b, c, d, e, f, g, h]).length = 8 := rfl
  clear hT1 hr hk hv kc hs hx
  generalize rnd [a, b, c, d, e, f, g, h] k v = R at *
  generalize (t1O [a, b, c, d, e, f, g, h] k v + t2O [a, b, c, d, e, f, g, h]) % 18446744073709551616 = z1 at *
  generalize (d + t1O [a, b, c, d, e, f, g, h] k v) % 18446744073709551616 = z2 at *
  generalize t1O [a, b, c, d, e, f, g, h] k v = t1 at *
  generalize t2O [a, b, c, d, e, f, g, h] = t2 at *
  generalize (((h + Sg1 e) % 18446744073709551616 + chO e f g) % 18446744073709551616 + k) % 18446744073709551616 = z3 at *
  generalize ((h + Sg1 e) % 18446744073709551616 + chO e f g) % 18446744073709551616 = z4 at *
  generalize (h + Sg1 e) % 18446744073709551616 = z5 at *
  generalize Sg1 e = se at *
  generalize Sg0 a = sa at *
  generalize chO e f g = cc at *
  generalize maO a b c = mm at *
  generalize (a &&& b) ^^^ (a &&& c) = q1 at *
  generalize (18446744073709551615 ^^^ e) &&& g = q2 at *
  generalize 18446744073709551615 ^^^ e = q3 at *
  generalize e &&& f = q4 at *
  generalize a &&& b = q5 at *
  generalize a &&& c = q6 at *
  generalize b &&& c = q7 at *
  generalize rotr e 14 ^^^ rotr e 18 = q8 at *
  generalize rotr a 28 ^^^ rotr a 34 = q9 at *
  generalize rotr e 14 = p1 at *
  generalize rotr e 18 = p2 at *
  generalize rotr e 41 = p3 at *
  generalize rotr a 28 = p4 at *
  generalize rotr a 34 = p5 at *
  generalize rotr a 39 = p6 at *
  generalize i + 1 = i1 at *
  generalize hS : ns .u64 [a, b, c, d, e, f, g, h] = S at *
  simp only [w1I, hS]
  generalize eV kTab = kt at *
  simp only [a216_l1, ↓steps_chunk, envOf, quiet, cF, ↓pF, reduceCtorEq, Nat.reduceEqDiff, Int.reduceEq, fs_callW, fs_regionQ, quiet2_eq, lastOf_nil, lastOf_cons, List.take_succ_cons, List.take_zero, List.drop_succ_cons, List.drop_zero, Int.reduceBEq, Int.reduceBNe, ↓keepW_some, ↓qElseW_some, ↓guardW_tt, ↓guardW_ff, ↓guardW_tf, ↓guardW_ft, cL, Int.reduceLE, Int.reduceLT, Int.reduceAdd, Int.reduceMul, Int.reduceSub, Int.reduceTDiv, Int.reduceTMod, Int.reduceNeg, Int.reduceToNat, Int.reduceGT, Int.reduceGE, Int.reducePow, Nat.reduceAdd, Nat.reduceMul, Nat.reduceSub, Nat.reduceDiv, Nat.reduceMod, Nat.reducePow, Nat.reduceLT, Nat.reduceLeDiff, cJ, e1, vi, vc, r14, r18, r41, r28, r34, r39, x1, x2, x3, x4, a1, a2, a3, a4, a5, a6, a7, a8, a9, m1, m2, m3, m4, m5, m6, m7, hf, w3, g0, g1, g2, g3, g4, g5, g6, g7, lS, ns_len, hw, lR, take_all, List.length_replicate]
theorem w1_block {H : List Ob} {P : Value} {w s : List Nat} (hw : w.length = 80) (hs : s.length = 8) (hx : ∀ x ∈ s, x < 18446744073709551616) :
    evCode T H.length (.block 4 (.loop a216_l1)) (w1I H P w s 0 []) = some (.normal, w1I H P w (rnds 80 w s) 80 [(88, .bool false)]) := by
  have h := block_loop (T := T) (base := H.length) (id := 4) (body := a216_l1) (fun i => w1I H P w (rnds i w s) i []) (s' := w1I H P w (rnds 80 w s) 80 [(88, .bool false)]) 80
    (fun i hi => w1_body hw (rnds_len hs w i) (rnds_lt hs hx w i) hi)
    (by
      generalize rnds 80 w s = R
      simp only [w1I]
      generalize eV kTab = kt
      simp only [a216_l1, envOf, quiet, cF, ↓pF, reduceCtorEq, Nat.reduceEqDiff, Int.reduceEq, fs_callW, fs_regionQ, quiet2_eq, lastOf_nil, lastOf_cons, List.take_succ_cons, List.take_zero, List.drop_succ_cons, List.drop_zero, Int.reduceBEq, Int.reduceBNe, ↓keepV_some, ↓qElse_some, ↓guardV_tt, ↓guardV_ff, ↓guardV_tf, ↓guardV_ft, cL, Int.reduceLE, Int.reduceLT, Int.reduceAdd, Int.reduceMul, Int.reduceSub, Int.reduceTDiv, Int.reduceTMod, Int.reduceNeg, Int.reduceToNat, Int.reduceGT, Int.reduceGE, Int.reducePow, Nat.reduceAdd, Nat.reduceMul, Nat.reduceSub, Nat.reduceDiv, Nat.reduceMod, Nat.reducePow, Nat.reduceLT, Nat.reduceLeDiff, cJ])
  exact h
end Go.Ev.Ytgacigcbglflkaa
set_option linter.unusedSimpArgs false
set_option linter.unusedVariables false
namespace Go.Ev.Ytgacigcbglflkaa
open Go Go.Ev
attribute [local congr] bind_congr2 ite_congr2 qElse_congr gate_congr guardV_congr
set_option maxRecDepth 100000
def hcl (rv : Value) (n : Nat) (st : List Nat) : List Value := rv :: .int .u64 (n : Nat) :: ns .u64 st
def hob (rv : Value) (n : Nat) (st : List Nat) : Ob := ⟨hcl rv n st, true, true, true, 1⟩
theorem hcl_len (rv : Value) (n : Nat) (st : List Nat) : (hcl rv n st).length = 2 + st.length := by simp [hcl, ns_len]; omega
theorem hcl_get {rv : Value} {n i x : Nat} {st : List Nat} (h : st[i]? = some x) : (hcl rv n st)[2 + i]? = some (.int .u64 (x : Nat)) := by
  rw [Nat.add_comm]; exact ns_get h
theorem hcl_set (rv : Value) (n i x : Nat) (st : List Nat) : (hcl rv n st).set (2 + i) (.int .u64 (x : Nat)) = hcl rv n (st.set i x) := by
  rw [Nat.add_comm]
  show rv :: .int .u64 (n : Nat) :: (ns .u64 st).set i _ = _
  rw [ns_set]; rfl
theorem hcl_state {rv : Value} {n : Nat} {st : List Nat} (h : st.length = 8) : List.take 8 (List.drop 2 (hcl rv n st)) = ns .u64 st := by
  show List.take 8 (ns .u64 st) = _
  rw [List.take_of_length_le (by rw [ns_len]; omega)]
theorem blk_len {s b : List Nat} (hs : s.length = 8) : (blk s b).length = 8 := by unfold blk; rw [List.length_zipWith, rnds_len hs, hs]; rfl
theorem blk_lt {s b : List Nat} : ∀ x ∈ blk s b, x < 18446744073709551616 := by
  intro x hx
  unfold blk at hx
  obtain ⟨i, hi⟩ := List.getElem?_of_mem hx
  rw [List.getElem?_zipWith] at hi
  split at hi
  · cases hi; exact Nat.mod_lt _ (by decide)
  · cases hi
theorem inMerge_mem {b : Nat} : ∀ {M L : List Nat} {i : Nat}, i ∈ inMerge b L M → i ∈ L ∨ i ∈ M
  | [], L, i, h => .inl h
  | m :: M, L, i, h => by
    simp only [inMerge] at h
    split at h
    · rcases inMerge_mem h with h1 | h1
      · rcases List.mem_append.1 h1 with h2 | h2
        · exact .inl h2
        · exact .inr (by rw [List.mem_singleton.1 h2]; exact List.mem_cons_self)
      · exact .inr (List.mem_cons_of_mem _ h1)
    · rcases inMerge_mem h with h1 | h1
      · exact .inl h1
      · exact .inr (List.mem_cons_of_mem _ h1)
def w0I (H : List Ob) (hid : Nat) (rv : Value) (n : Nat) (st : List Nat) (s L : List Nat) (ob1 ob2 : Ob) (i : Int) (ex : Env) : St := ⟨[(0, .pointer (some ⟨hid, 0, none⟩)), (174, eV s), (175, .int .i64 i)] ++ ex, H.set hid (hob rv n st) ++ [ob1, ob2], L⟩
theorem w0_block {H : List Ob} {hid n : Nat} {rv : Value} {st s : List Nat} {ob1 ob2 : Ob} (hh : hid < H.length) (hs : s.length = 8) (hst : st.length = 8) :
    ∃ L, evCode T H.length (.block 6 (.loop a216_l0)) (w0I H hid rv n st s [] ob1 ob2 0 []) = some (.normal, w0I H hid rv n (List.zipWith (fun x y => (x + y) % 18446744073709551616) st s) s L ob1 ob2 8 [(176, .bool false)]) ∧ ∀ i ∈ L, i = hid := by
  have hZ : (List.zipWith (fun x y => (x + y) % 18446744073709551616) st s).length = 8 := by rw [List.length_zipWith, hs, hst]; rfl
  obtain ⟨Z, hZd⟩ : ∃ Z, Z = List.zipWith (fun x y => (x + y) % 18446744073709551616) st s := ⟨_, rfl⟩
  rw [← hZd] at hZ ⊢
  obtain ⟨st', hb, L, rfl, hL⟩ := block_inv (T := T) (base := H.length) (id := 6) (body := a216_l0)
    (fun i x => ∃ L, x = w0I H hid rv n (Z.take i ++ st.drop i) s L ob1 ob2 i [] ∧ ∀ j ∈ L, j = hid)
    (Q := fun x => ∃ L, x = w0I H hid rv n Z s L ob1 ob2 8 [(176, .bool false)] ∧ ∀ j ∈ L, j = hid)
    8 (s := w0I H hid rv n st s [] ob1 ob2 0 []) ⟨[], rfl, by simp⟩
    (fun i x hi hx => by
      obtain ⟨L, rfl, hL⟩ := hx
      obtain ⟨u, hu⟩ : ∃ u, st[i]? = some u := ⟨_, List.getElem?_eq_getElem (by omega)⟩
      obtain ⟨v, hv⟩ : ∃ u, s[i]? = some u := ⟨_, List.getElem?_eq_getElem (by omega)⟩
      have hz : Z[i]? = some ((u + v) % 18446744073709551616) := by rw [hZd, List.getElem?_zipWith, hu, hv]
      have hlt : (Z.take i).length = i := by rw [List.length_take]; omega
      have hg : (Z.take i ++ st.drop i)[i]? = some u := by
        rw [List.getElem?_append_right (by omega), hlt, Nat.sub_self, List.getElem?_drop]; exact hu
      have hstep : (Z.take i ++ st.drop i).set i ((u + v) % 18446744073709551616) = Z.take (i + 1) ++ st.drop (i + 1) := by
        rw [List.set_append_right _ _ (by omega), hlt, Nat.sub_self, List.drop_eq_getElem?_toList_append (i := i), hu, List.take_add_one, hz]
        simp
      have hlen : (Z.take i ++ st.drop i).length = 8 := by rw [List.length_append, List.length_drop, hlt]; omega
      have gc := hcl_get (rv := rv) (n := n) hg
      have sc := hcl_set rv n i ((u + v) % 18446744073709551616) (Z.take i ++ st.drop i)
      rw [hstep] at sc
      have cl := hcl_len rv n (Z.take i ++ st.drop i)
      rw [hlen] at cl
      have vc := ns_get (k := .u64) hv
      have vi : vIndex none 8 1 (eV s) (.int .i64 (i : Int)) = some (.int .u64 (v : Nat)) := by
        have e1 : ((i : Int) < 8) = True := eq_true (by omega)
        unfold eV
        rw [vIndex_agg]
        simp only [e1, envOf, quiet, cF, ↓pF, reduceCtorEq, Nat.reduceEqDiff, Int.reduceEq, fs_callW, fs_regionQ, quiet2_eq, lastOf_nil, lastOf_cons, List.take_succ_cons, List.take_zero, List.drop_succ_cons, List.drop_zero, Int.reduceBEq, Int.reduceBNe, ↓keepV_some, ↓qElse_some, ↓guardV_tt, ↓guardV_ff, ↓guardV_tf, ↓guardV_ft, cL, Int.reduceLE, Int.reduceLT, Int.reduceAdd, Int.reduceMul, Int.reduceSub, Int.reduceTDiv, Int.reduceTMod, Int.reduceNeg, Int.reduceToNat, Int.reduceGT, Int.reduceGE, Int.reducePow, Nat.reduceAdd, Nat.reduceMul, Nat.reduceSub, Nat.reduceDiv, Nat.reduceMod, Nat.reducePow, Nat.reduceLT, Nat.reduceLeDiff, vc]
      have m1 := w64m u v
      have e1 : ((i : Int) < 8) = True := eq_true (by omega)
      have w3 : IntKind.i64.wrap ((i : Int) + 1) = ((i + 1 : Nat) : Int) := wi_add (b := 1) (by omega)
      have hget : ∀ o : Ob, (H.set hid o ++ [ob1, ob2])[hid]? = some o := fun o => by
        rw [List.getElem?_append_left (by rw [List.length_set]; exact hh), List.getElem?_set_self hh]
      have hset : ∀ o o' : Ob, (H.set hid o ++ [ob1, ob2]).set hid o' = H.set hid o' ++ [ob1, ob2] := fun o o' => by
        rw [List.set_append_left _ _ (by rw [List.length_set]; exact hh), List.set_set]
      have e5 : (2 + i + 1 ≤ 2 + 8) = True := eq_true (by omega)
      refine ⟨w0I H hid rv n (Z.take (i + 1) ++ st.drop (i + 1)) s (inMerge H.length L [hid]) ob1 ob2 ((i + 1 : Nat) : Int) [], ?_, _, rfl, ?_⟩
      · generalize Z.take (i + 1) ++ st.drop (i + 1) = O2 at *
        generalize Z.take i ++ st.drop i = O1 at *
        generalize (u + v) % 18446744073709551616 = z at *
        simp only [w0I, hob]
        generalize hcl rv n O1 = C1 at *
        generalize hcl rv n O2 = C2 at *
        generalize eV s = sv at *
        generalize i + 1 = i1 at *
        simp only [a216_l0, ↓steps_chunk, envOf, quiet, cF, ↓pF, reduceCtorEq, Nat.reduceEqDiff, Int.reduceEq, fs_callW, fs_regionQ, quiet2_eq, lastOf_nil, lastOf_cons, List.take_succ_cons, List.take_zero, List.drop_succ_cons, List.drop_zero, Int.reduceBEq, Int.reduceBNe, ↓keepW_some, ↓qElseW_some, ↓guardW_tt, ↓guardW_ff, ↓guardW_tf, ↓guardW_ft, cL, Int.reduceLE, Int.reduceLT, Int.reduceAdd, Int.reduceMul, Int.reduceSub, Int.reduceTDiv, Int.reduceTMod, Int.reduceNeg, Int.reduceToNat, Int.reduceGT, Int.reduceGE, Int.reducePow, Nat.reduceAdd, Nat.reduceMul, Nat.reduceSub, Nat.reduceDiv, Nat.reduceMod, Nat.reducePow, Nat.reduceLT, Nat.reduceLeDiff, cJ, e1, vi, m1, w3, gc, sc, cl, e5, hget, hset]
        done
      · intro j hj
        rcases inMerge_mem hj with h | h
        · exact hL j h
        · simpa using h)
    (fun x hx => by
      obtain ⟨L, rfl, hL⟩ := hx
      rw [List.take_of_length_le (by omega), List.drop_of_length_le (by omega), List.append_nil]
      refine ⟨_, ?_, L, rfl, hL⟩
      simp only [w0I, hob]
      generalize hcl rv n Z = C
      generalize eV s = sv
      simp only [a216_l0, envOf, quiet, cF, ↓pF, reduceCtorEq, Nat.reduceEqDiff, Int.reduceEq, fs_callW, fs_regionQ, quiet2_eq, lastOf_nil, lastOf_cons, List.take_succ_cons, List.take_zero, List.drop_succ_cons, List.drop_zero, Int.reduceBEq, Int.reduceBNe, ↓keepV_some, ↓qElse_some, ↓guardV_tt, ↓guardV_ff, ↓guardV_tf, ↓guardV_ft, cL, Int.reduceLE, Int.reduceLT, Int.reduceAdd, Int.reduceMul, Int.reduceSub, Int.reduceTDiv, Int.reduceTMod, Int.reduceNeg, Int.reduceToNat, Int.reduceGT, Int.reduceGE, Int.reducePow, Nat.reduceAdd, Nat.reduceMul, Nat.reduceSub, Nat.reduceDiv, Nat.reduceMod, Nat.reducePow, Nat.reduceLT, Nat.reduceLeDiff, cJ])
  exact ⟨L, hb, hL⟩
end Go.Ev.Ytgacigcbglflkaa
set_option linter.unusedSimpArgs false
set_option linter.unusedVariables false
namespace Go.Ev.Ytgacigcbglflkaa
open Go Go.Ev
attribute [local congr] bind_congr2 ite_congr2 qElse_congr gate_congr guardV_congr
set_option maxRecDepth 100000
theorem set_same' {α : Type} {l : List α} {i : Nat} {x : α} (h : l[i]? = some x) : l.set i x = l := by
  apply List.ext_getElem?
  intro k
  rw [List.getElem?_set]
  by_cases c : i = k
  · rw [if_pos c, ← c, h, if_pos (List.getElem?_eq_some_iff.1 h).1]
  · rw [if_neg c]
def zero80 : List Nat := List.replicate 80 0
theorem z80_eq : List.replicate 80 (Value.int .u64 0) = ns .u64 zero80 := rfl
theorem z80_len : zero80.length = 80 := rfl
def zero8 : List Nat := List.replicate 8 0
theorem z8_eq : List.replicate 8 (Value.int .u64 0) = ns .u64 zero8 := rfl
theorem z8_len : zero8.length = 8 := rfl
theorem block_ev {H : List Ob} {hid id off cap n : Nat} {rv : Value} {st b : List Nat} (hh : H[hid]? = some (hob rv n st)) (hs : st.length = 8) (hx : ∀ x ∈ st, x < 18446744073709551616) (hb : BB H id off b) (hl : b.length = 128) (hc : 128 ≤ cap) :
    ∃ w s M, evFun T 67 [.pointer (some ⟨hid, 0, none⟩), .slice (some ⟨id, off, none⟩) 128 cap] H = some (.tuple #[], H.set hid (hob rv n (blk st b)) ++ [w, s], M) ∧ ∀ i ∈ M, i = hid := by
  have hlt : hid < H.length := (List.getElem?_eq_some_iff.1 hh).1
  have h3 := w3_block (P := .pointer (some ⟨hid, 0, none⟩)) (cap := cap) hb hl hc
  have hWl := wAll_len b
  have h1 := w1_block (H := H) (P := .pointer (some ⟨hid, 0, none⟩)) hWl hs hx
  have lr := rnds_len hs (wAll b) 80
  obtain ⟨L, h0, hL⟩ := w0_block (H := H) (hid := hid) (n := n) (rv := rv) (ob1 := ⟨ns .u64 (wAll b), true, true, true, 1⟩) (ob2 := ⟨ns .u64 (rnds 80 (wAll b) st), true, true, true, 1⟩) hlt lr hs
  rw [show List.zipWith (fun x y => (x + y) % 18446744073709551616) st (rnds 80 (wAll b) st) = blk st b from rfl] at h0
  have hss : H.set hid (hob rv n st) = H := set_same' hh
  refine ⟨⟨ns .u64 (wAll b), true, true, true, 1⟩, ⟨ns .u64 (rnds 80 (wAll b) st), true, true, true, 1⟩, L, ?_, hL⟩
  simp only [w0I, hss, List.cons_append, List.nil_append, Int.natCast_zero] at h0
  have hz := z80_eq
  have lz := z80_len
  have hz8 := z8_eq
  have lz8 := z8_len
  rw [show List.replicate 80 0 = zero80 from rfl] at h3
  simp only [w3I, List.cons_append, List.nil_append, Int.natCast_zero] at h3
  simp only [w1I, List.cons_append, List.nil_append, Int.natCast_zero] at h1
  have ht := table_v
  have hcs := hcl_state (rv := rv) (n := n) hs
  have hcl8 : 2 + 8 ≤ (hcl rv n st).length := by rw [hcl_len]; omega
  have hget : ∀ l : List Ob, (H ++ l)[hid]? = some ⟨hcl rv n st, true, true, true, 1⟩ := fun l => by rw [List.getElem?_append_left hlt]; exact hh
  have lk := kTab_len
  generalize H.set hid (hob rv n (blk st b)) = H' at *
  generalize wAll b = W at *
  generalize rnds 80 W st = R at *
  generalize hcl rv n st = C at *
  generalize zero80 = Z at *
  generalize zero8 = Z8 at *
  generalize kTab = KT at *
  rw [evFun_fn (fn := a216) rfl]
  simp only [a216, ↓steps_chunk, envOf, quiet, cF, ↓pF, reduceCtorEq, Nat.reduceEqDiff, Int.reduceEq, fs_callW, fs_regionQ, quiet2_eq, lastOf_nil, lastOf_cons, List.take_succ_cons, List.take_zero, List.drop_succ_cons, List.drop_zero, Int.reduceBEq, Int.reduceBNe, ↓keepW_some, ↓qElseW_some, ↓guardW_tt, ↓guardW_ff, ↓guardW_tf, ↓guardW_ft, cL, Int.reduceLE, Int.reduceLT, Int.reduceAdd, Int.reduceMul, Int.reduceSub, Int.reduceTDiv, Int.reduceTMod, Int.reduceNeg, Int.reduceToNat, Int.reduceGT, Int.reduceGE, Int.reducePow, Nat.reduceAdd, Nat.reduceMul, Nat.reduceSub, Nat.reduceDiv, Nat.reduceMod, Nat.reducePow, Nat.reduceLT, Nat.reduceLeDiff, cJ, hz, hz8, h3, h1, h0, ht, hget, hcs, hcl8, List.length_replicate, take_all, eV_cells, eV_size, eV_ok, eV_fold, ns_len, hWl, hs, lr, lz, lz8, lk, rf_eV]
  rfl
end Go.Ev.Ytgacigcbglflkaa
set_option linter.unusedSimpArgs false
set_option linter.unusedVariables false
namespace Go.Ev.Ytgacigcbglflkaa
open Go Go.Ev
attribute [local congr] bind_congr2 ite_congr2 qElse_congr gate_congr guardV_congr
set_option maxRecDepth 100000
inductive Rst (K : Nat → Prop) (H : List Ob) : Value → List Nat → Prop
  | nil : Rst K H (.slice none 0 0) []
  | empty {id : Nat} : ¬ K id → H[id]? = some ⟨[], true, true, true, 1⟩ → Rst K H (.slice (some ⟨id, 0, none⟩) 0 0) []
  | own {id off : Nat} {all l : List Nat} : ¬ K id → H[id]? = some ⟨u8s all, true, true, false, 1⟩ → off + l.length ≤ all.length → (∀ i, i < l.length → all[off + i]? = l[i]?) → Rst K H (.slice (some ⟨id, off, none⟩) l.length l.length) l
theorem Rst.app {K : Nat → Prop} {H m : List Ob} {v : Value} {l : List Nat} (h : Rst K H v l) : Rst K (H ++ m) v l := by
  cases h with
  | nil => exact .nil
  | empty h1 h2 => exact .empty h1 (by rw [List.getElem?_append_left (List.getElem?_eq_some_iff.1 h2).1]; exact h2)
  | own h1 h2 h4 h3 => exact .own h1 (by rw [List.getElem?_append_left (List.getElem?_eq_some_iff.1 h2).1]; exact h2) h4 h3
theorem Rst.setH {K : Nat → Prop} {H : List Ob} {v : Value} {l : List Nat} {hid n : Nat} {rv : Value} {st : List Nat} (h : Rst K H v l) (hh : H[hid]? = some (hob rv n st)) (o : Ob) : Rst K (H.set hid o) v l := by
  cases h with
  | nil => exact .nil
  | empty h1 h2 => exact .empty h1 (by
      rw [List.getElem?_set_ne]
      · exact h2
      · intro e; subst e
        have := congrArg Ob.cells (Option.some.inj (hh.symm.trans h2))
        simp [hob, hcl] at this)
  | own h1 h2 h4 h3 => exact .own h1 (by
      rw [List.getElem?_set_ne]
      · exact h2
      · intro e; subst e
        have := congrArg Ob.exact (Option.some.inj (hh.symm.trans h2))
        simp [hob] at this) h4 h3
theorem u8s_part {all l : List Nat} {off : Nat} (h : ∀ i, i < l.length → all[off + i]? = l[i]?) : ((u8s all).drop off).take l.length = u8s l := by
  apply List.ext_getElem?
  intro i
  rw [List.getElem?_take]
  split
  · rename_i hi
    rw [List.getElem?_drop]
    have := h i hi
    simp only [u8s, List.getElem?_map, this]
  · rename_i hi
    rw [List.getElem?_eq_none (by rw [u8s_len]; omega)]
theorem Rst.append {K : Nat → Prop} {H : List Ob} {v x : Value} {l p : List Nat} (h : Rst K H v l) (hK : ∀ i, K i → i < H.length) (hl : Go.Ev.lenV x = some p.length) (he : elemsOf H 1 p.length x = some (u8s p)) (hb : l.length + p.length ≤ 2 ^ 47) :
    ∃ v' H' M, appendV 1 1 H v x = some (v', H', none, M) ∧ Rst K H' v' (l ++ p) ∧ (∀ i ∈ M, ¬ K i) ∧ H.length ≤ H'.length ∧ (∀ i, K i → H'[i]? = H[i]?) ∧ ∀ (i : Nat) (o : Ob), H[i]? = some o → o.exact = true → H'[i]? = some o := by
  rcases Nat.eq_zero_or_pos p.length with hn | hn
  · have : p = [] := List.eq_nil_of_length_eq_zero hn
    subst this
    rw [List.append_nil]
    refine ⟨v, H, [], ?_, h, by simp, Nat.le_refl _, fun _ _ => rfl, fun i o h _ => h⟩
    rw [List.length_nil] at hl he
    cases h <;> simp only [appendV, hl, he, Option.bind_some, if_true]
  · have h1 : ¬ p.length = 0 := by omega
    have hnew : ¬ K H.length := fun h => absurd (hK _ h) (Nat.lt_irrefl _)
    cases h with
    | nil =>
      refine ⟨.slice (some ⟨H.length, 0, none⟩) p.length p.length, H ++ [Ob.grown 1 (u8s p)], [], ?_, ?_, by simp, by simp, ?_, ?_⟩
      · have h2 : (0 + p.length) * 1 ≤ 2 ^ 47 ∧ 0 < 1 ∧ 0 < 1 := ⟨by simpa using hb, by decide, by decide⟩
        simp only [appendV, hl, he, Option.bind_some, if_neg h1, h2, and_self, not_true_eq_false, if_false, if_true]
      · rw [List.nil_append]
        exact .own (all := p) hnew (by simp [Ob.grown]) (by omega) (fun i _ => by rw [Nat.zero_add])
      · intro i hi; rw [List.getElem?_append_left (hK i hi)]
      · intro i o ho _; rw [List.getElem?_append_left (List.getElem?_eq_some_iff.1 ho).1]; exact ho
    | @empty id0 k1 k2 =>
      refine ⟨.slice (some ⟨H.length, 0, none⟩) (0 + p.length) (0 + p.length), H ++ [Ob.grown 1 ([] ++ u8s p)], [], ?_, ?_, by simp, by simp, ?_, ?_⟩
      · have h2 : (0 + p.length) * 1 ≤ 2 ^ 47 ∧ 0 < 1 ∧ 0 < 1 := ⟨by simpa using hb, by decide, by decide⟩
        have h4 : liveAt H id0 = some ⟨[], true, true, true, 1⟩ := liveAt_some k2 rfl
        have h7 : ¬ (0 + p.length ≤ 0) := by omega
        have h8 : elemsOf H 1 0 (.slice (some ⟨id0, 0, none⟩) 0 0) = some [] := by simp [elemsOf, h4]
        simp only [appendV, hl, he, Option.bind_some, if_neg h1, h2, and_self, not_true_eq_false, if_false, if_true, h4, h8, if_neg h7]
      · rw [List.nil_append, List.nil_append, Nat.zero_add]
        exact .own (all := p) hnew (by simp [Ob.grown]) (by omega) (fun i _ => by rw [Nat.zero_add])
      · intro i hi; rw [List.getElem?_append_left (hK i hi)]
      · intro i o ho _; rw [List.getElem?_append_left (List.getElem?_eq_some_iff.1 ho).1]; exact ho
    | @own id0 off all _ k1 k2 k4 k3 =>
      have hid : id0 < H.length := (List.getElem?_eq_some_iff.1 k2).1
      refine ⟨.slice (some ⟨H.length, 0, none⟩) (l.length + p.length) (l.length + p.length), (H.set id0 Ob.dead) ++ [Ob.grown 1 (u8s l ++ u8s p)], [id0], ?_, ?_, by simpa using k1, by simp, ?_, ?_⟩
      · have h2 : (l.length + p.length) * 1 ≤ 2 ^ 47 ∧ 0 < 1 ∧ 0 < 1 := ⟨by omega, by decide, by decide⟩
        have h4 : liveAt H id0 = some ⟨u8s all, true, true, false, 1⟩ := liveAt_some k2 rfl
        have h7 : ¬ (l.length + p.length ≤ l.length) := by omega
        have h8 : elemsOf H 1 l.length (.slice (some ⟨id0, off, none⟩) l.length l.length) = some (u8s l) := by
          have := u8s_part k3
          simp only [elemsOf, h4, Option.bind_some, Nat.mul_one]
          rw [this]
          simp [u8s_len, k4]
        simp only [appendV, hl, he, Option.bind_some, if_neg h1, h2, and_self, not_true_eq_false, if_false, if_true, h4, h8, if_neg h7, Bool.false_eq_true, Nat.le_refl]
      · have := Rst.own (K := K) (H := (H.set id0 Ob.dead) ++ [Ob.grown 1 (u8s l ++ u8s p)]) (id := H.length) (off := 0) (all := l ++ p) (l := l ++ p) hnew (by simp [Ob.grown, u8s]) (by omega) (fun i _ => by rw [Nat.zero_add])
        rwa [List.length_append] at this
      · intro i hi
        rw [List.getElem?_append_left (by rw [List.length_set]; exact hK i hi), List.getElem?_set_ne (fun e => k1 (by rw [e]; exact hi))]
      · intro i o ho hex
        rw [List.getElem?_append_left (by rw [List.length_set]; exact (List.getElem?_eq_some_iff.1 ho).1), List.getElem?_set_ne]
        · exact ho
        · intro e; subst e; rw [k2] at ho; cases ho; cases hex
end Go.Ev.Ytgacigcbglflkaa
set_option linter.unusedSimpArgs false
set_option linter.unusedVariables false
namespace Go.Ev.Ytgacigcbglflkaa
open Go Go.Ev
attribute [local congr] bind_congr2 ite_congr2 qElse_congr gate_congr guardV_congr
set_option maxRecDepth 100000
theorem stK_len (b : List Nat) : ∀ n, (stK n b).length = 8
  | 0 => rfl
  | n + 1 => blk_len (stK_len b n)
theorem sInit_lt : ∀ x ∈ sInit, x < 18446744073709551616 := by decide
theorem stK_lt (b : List Nat) : ∀ n, ∀ x ∈ stK n b, x < 18446744073709551616
  | 0 => sInit_lt
  | n + 1 => blk_lt
theorem stK_app (a b : List Nat) : ∀ q, 128 * q ≤ a.length → stK q (a ++ b) = stK q a
  | 0, _ => rfl
  | q + 1, h => by
    rw [stK, stK, stK_app a b q (by omega), List.drop_append_of_le_length (by omega), List.take_append_of_le_length (by rw [List.length_drop]; omega)]
def Hsh (K : Nat → Prop) (H : List Ob) (hid : Nat) (all : List Nat) : Prop := ∃ rv, H[hid]? = some (hob rv all.length (stK (all.length / 128) all)) ∧ Rst K H rv (all.drop (128 * (all.length / 128)))
def fdF (hid : Nat) : Value := .func (.func 67) [Value.pointer (some ⟨hid, 0, none⟩)].toArray [].toArray
def fdI (hid : Nat) (H : List Ob) (L : List Nat) (ex : Env) : St := ⟨[(0, .pointer (some ⟨hid, 0, none⟩)), (1, .int .i64 128), (3, fdF hid)] ++ ex, H, L⟩
theorem fd_body {K : Nat → Prop} {H : List Ob} {hid b0 n : Nat} {rv : Value} {st rest L : List Nat} {ex : Env} (hK : ∀ i, K i → i < H.length) (hKh : ¬ K hid) (hh : H[hid]? = some (hob rv n st)) (hs : st.length = 8) (hx : ∀ x ∈ st, x < 18446744073709551616) (hr : Rst K H rv rest) (h128 : 128 ≤ rest.length) (xr : ∀ x ∈ rest, x < 256) (hL : ∀ i ∈ L, ¬ K i) (hmx : rest.length < 2 ^ 60) :
    ∃ rv' H' L' ex', evCode T b0 a215_l0 (fdI hid H L ex) = some (.normal, fdI hid H' L' ex') ∧ H'[hid]? = some (hob rv' n (blk st (rest.take 128))) ∧ Rst K H' rv' (rest.drop 128) ∧ (∀ i, K i → H'[i]? = H[i]?) ∧ H.length ≤ H'.length ∧ ∀ i ∈ L', ¬ K i := by
  have hlt : hid < H.length := (List.getElem?_eq_some_iff.1 hh).1
  cases hr with
  | nil => exact absurd h128 (by decide)
  | empty _ _ => exact absurd h128 (by decide)
  | @own id off all _ k1 k2 k4 k3 =>
    have hidne : id ≠ hid := fun e => by
      subst e
      have := congrArg Ob.exact (Option.some.inj (hh.symm.trans k2))
      simp [hob] at this
    have hBB : BB H id off (rest.take 128) := ⟨⟨all, k2, fun i hi => by
      rw [List.length_take] at hi
      rw [k3 i (by omega), List.getElem?_take, if_pos (by omega)]⟩, fun x hx => xr x (List.mem_of_mem_take hx)⟩
    have hl : (rest.take 128).length = 128 := by rw [List.length_take]; omega
    obtain ⟨w, s, M, hb, hM⟩ := block_ev (cap := rest.length) hh hs hx hBB hl h128
    have c0 : ∀ s', (hcl (.slice (some ⟨id, off, none⟩) rest.length rest.length) n s')[0]? = some (.slice (some ⟨id, off, none⟩) rest.length rest.length) := fun _ => rfl
    have cs : ∀ s' v, (hcl (.slice (some ⟨id, off, none⟩) rest.length rest.length) n s').set 0 v = hcl v n s' := fun _ _ => rfl
    have cl : ∀ v s', (1 ≤ (hcl v n s').length) = True := fun v s' => eq_true (by rw [hcl_len]; omega)
    have b1 : bounds3 rest.length rest.length none (some (.int .i64 128)) none = some (0, 128, rest.length) := by
      have n1 : natIn (some (.int .i64 128)) rest.length rest.length = some 128 := natIn_nat (n := 128) h128
      rw [bounds3_two, n1, Option.bind_some]; rfl
    have b2 : bounds3 rest.length rest.length (some (.int .i64 128)) none none = some (128, rest.length, rest.length) := by
      have n1 : natIn (some (.int .i64 128)) rest.length 0 = some 128 := natIn_nat (n := 128) h128
      rw [bounds3_two, natIn_none, Option.bind_some, n1, Option.bind_some]
    have e1 : ((128 : Int) ≤ (rest.length : Int)) = True := eq_true (by omega)
    have g0 : H[hid]? = some ⟨hcl (.slice (some ⟨id, off, none⟩) rest.length rest.length) n st, true, true, true, 1⟩ := hh
    have g1 : ∀ o : Ob, (H.set hid o ++ [w, s])[hid]? = some o := fun o => by
      rw [List.getElem?_append_left (by rw [List.length_set]; exact hlt), List.getElem?_set_self hlt]
    have g2 : ∀ o : Ob, (H.set hid o ++ [w, s])[id]? = some ⟨u8s all, true, true, false, 1⟩ := fun o => by
      rw [List.getElem?_append_left (by rw [List.length_set]; exact (List.getElem?_eq_some_iff.1 k2).1), List.getElem?_set_ne (Ne.symm hidne)]; exact k2
    have g3 : ∀ o o' : Ob, (H.set hid o ++ [w, s]).set hid o' = H.set hid o' ++ [w, s] := fun o o' => by
      rw [List.set_append_left _ _ (by rw [List.length_set]; exact hlt), List.set_set]
    refine ⟨.slice (some ⟨id, off + 128, none⟩) (rest.length - 128) (rest.length - 128), H.set hid (hob (.slice (some ⟨id, off + 128, none⟩) (rest.length - 128) (rest.length - 128)) n (blk st (rest.take 128))) ++ [w, s], inMerge b0 (inMerge b0 L M) [hid], [], ?_, g1 _, ?_, ?_, ?_, ?_⟩
    · simp only [hob] at hb ⊢
      generalize blk st (rest.take 128) = st' at *
      simp only [fdI, fdF, a215_l0, ↓steps_chunk, envOf, quiet, cF, ↓pF, reduceCtorEq, Nat.reduceEqDiff, Int.reduceEq, fs_callW, fs_regionQ, quiet2_eq, lastOf_nil, lastOf_cons, List.take_succ_cons, List.take_zero, List.drop_succ_cons, List.drop_zero, Int.reduceBEq, Int.reduceBNe, ↓keepW_some, ↓qElseW_some, ↓guardW_tt, ↓guardW_ff, ↓guardW_tf, ↓guardW_ft, cL, Int.reduceLE, Int.reduceLT, Int.reduceAdd, Int.reduceMul, Int.reduceSub, Int.reduceTDiv, Int.reduceTMod, Int.reduceNeg, Int.reduceToNat, Int.reduceGT, Int.reduceGE, Int.reducePow, Nat.reduceAdd, Nat.reduceMul, Nat.reduceSub, Nat.reduceDiv, Nat.reduceMod, Nat.reducePow, Nat.reduceLT, Nat.reduceLeDiff, cJ, e1, b1, b2, hb, c0, cs, cl, g0, k2, g1, g2, g3]
    · have := Rst.own (K := K) (H := H.set hid (hob (.slice (some ⟨id, off + 128, none⟩) (rest.length - 128) (rest.length - 128)) n (blk st (rest.take 128))) ++ [w, s]) (id := id) (off := off + 128) (all := all) (l := rest.drop 128) k1 (g2 _) (by rw [List.length_drop]; omega) (fun i hi => by
        rw [List.length_drop] at hi
        rw [List.getElem?_drop, ← k3 _ (by omega), Nat.add_assoc])
      rwa [List.length_drop] at this
    · intro i hi
      rw [List.getElem?_append_left (by rw [List.length_set]; exact hK i hi), List.getElem?_set_ne (fun e => hKh (by rw [e]; exact hi))]
    · simp
    · intro i hi
      rcases inMerge_mem hi with h | h
      · rcases inMerge_mem h with h | h
        · exact hL i h
        · rw [hM i h]; exact hKh
      · rw [List.mem_singleton.1 h]; exact hKh
end Go.Ev.Ytgacigcbglflkaa
set_option linter.unusedSimpArgs false
set_option linter.unusedVariables false
namespace Go.Ev.Ytgacigcbglflkaa
open Go Go.Ev
attribute [local congr] bind_congr2 ite_congr2 qElse_congr gate_congr guardV_congr
set_option maxRecDepth 100000
theorem Rst.shape {K : Nat → Prop} {H : List Ob} {v : Value} {l : List Nat} (h : Rst K H v l) : ∃ (a : Option Addr) (c : Nat), v = .slice a l.length c := by
  cases h with
  | nil => exact ⟨_, _, rfl⟩
  | empty _ _ => exact ⟨_, _, rfl⟩
  | own _ _ _ _ => exact ⟨_, _, rfl⟩
theorem feed_ev {K : Nat → Prop} {H : List Ob} {hid : Nat} {x : Value} {all p : List Nat} (hK : ∀ i, K i → i < H.length) (hKh : ¬ K hid) (hh : Hsh K H hid all) (xa : ∀ y ∈ all, y < 256) (xp : ∀ y ∈ p, y < 256)
    (hl : ∃ (a : Option Addr) (c : Nat), x = .slice a p.length c) (he : ∀ o, elemsOf (H.set hid o) 1 p.length x = some (u8s p)) (hb : all.length + p.length < 2 ^ 50) (hb2 : p.length ≤ 2 ^ 47 - 128) :
    ∃ H' M, evFun T 66 [.pointer (some ⟨hid, 0, none⟩), .int .i64 128, x, fdF hid] H = some (.tuple #[], H', M) ∧ Hsh K H' hid (all ++ p) ∧ (∀ i, K i → H'[i]? = H[i]?) ∧ H.length ≤ H'.length ∧ ∀ i ∈ M, ¬ K i := by
  obtain ⟨rv, h1, h2⟩ := hh
  have hlt : hid < H.length := (List.getElem?_eq_some_iff.1 h1).1
  obtain ⟨q0, hq0⟩ : ∃ q, q = all.length / 128 := ⟨_, rfl⟩
  rw [← hq0] at h1 h2
  have hq1 : 128 * q0 ≤ all.length := by rw [hq0]; omega
  have hst : stK q0 all = stK q0 (all ++ p) := (stK_app all p q0 hq1).symm
  have hN : (all ++ p).length = all.length + p.length := List.length_append
  rw [hst] at h1
  obtain ⟨st0, hst0⟩ : ∃ s, s = stK q0 (all ++ p) := ⟨_, rfl⟩
  rw [← hst0] at h1
  have hrest : all.drop (128 * q0) ++ p = (all ++ p).drop (128 * q0) := (List.drop_append_of_le_length hq1).symm
  have hrl : (all.drop (128 * q0)).length ≤ 127 := by rw [List.length_drop, hq0]; omega
  have hr1 : Rst K (H.set hid (hob rv (all.length + p.length) st0)) rv (all.drop (128 * q0)) := h2.setH h1 _
  have hK1 : ∀ i, K i → i < (H.set hid (hob rv (all.length + p.length) st0)).length := fun i hi => by rw [List.length_set]; exact hK i hi
  have hlen : Go.Ev.lenV x = some p.length := by obtain ⟨a, c, rfl⟩ := hl; rfl
  obtain ⟨rv', H2, M2, ha, a1, a2, a3, a4, a5⟩ := hr1.append hK1 hlen (he _) (by omega)
  have hg1 : (H.set hid (hob rv (all.length + p.length) st0))[hid]? = some (hob rv (all.length + p.length) st0) := List.getElem?_set_self hlt
  have hg2 := a5 hid _ hg1 rfl
  rw [List.length_set] at a3
  have hlt2 : hid < H2.length := by omega
  have hr3 : Rst K (H2.set hid (hob rv' (all.length + p.length) st0)) rv' ((all ++ p).drop (128 * q0)) := by
    rw [hrest] at a1
    exact a1.setH hg2 _
  have hg3 : (H2.set hid (hob rv' (all.length + p.length) st0))[hid]? = some (hob rv' (all.length + p.length) st0) := List.getElem?_set_self hlt2
  obtain ⟨H3, hH3⟩ : ∃ X, X = H2.set hid (hob rv' (all.length + p.length) st0) := ⟨_, rfl⟩
  have hf3 : ∀ i, K i → H3[i]? = H[i]? := fun i hi => by
    have hne : hid ≠ i := fun e => hKh (by rw [e]; exact hi)
    rw [hH3, List.getElem?_set_ne hne, a4 i hi, List.getElem?_set_ne hne]
  have hl3 : H.length ≤ H3.length := by rw [hH3, List.length_set]; exact a3
  obtain ⟨L3, hL3⟩ : ∃ L, L = inMerge H.length (inMerge H.length (inMerge H.length [] [hid]) M2) [hid] := ⟨_, rfl⟩
  have hL3' : ∀ i ∈ L3, ¬ K i := fun i hi => by
    rw [hL3] at hi
    rcases inMerge_mem hi with h | h
    · rcases inMerge_mem h with h | h
      · rcases inMerge_mem h with h | h
        · simp at h
        · rw [List.mem_singleton.1 h]; exact hKh
      · exact a2 i h
    · rw [List.mem_singleton.1 h]; exact hKh
  rw [← hH3] at hr3 hg3
  obtain ⟨st, hloop, H', L', ex', rvf, rfl, f1, f2, f3, f4, f5⟩ := block_inv (T := T) (base := H.length) (id := 0) (body := a215_l0)
    (fun k st => ∃ H' L' ex' rvk, st = fdI hid H' L' ex' ∧ H'[hid]? = some (hob rvk (all.length + p.length) (stK (q0 + k) (all ++ p))) ∧ Rst K H' rvk ((all ++ p).drop (128 * (q0 + k))) ∧ (∀ i, K i → H'[i]? = H[i]?) ∧ H.length ≤ H'.length ∧ ∀ i ∈ L', ¬ K i)
    (Q := fun st => ∃ H' L' ex' rvk, st = fdI hid H' L' ex' ∧ H'[hid]? = some (hob rvk (all.length + p.length) (stK ((all ++ p).length / 128) (all ++ p))) ∧ Rst K H' rvk ((all ++ p).drop (128 * ((all ++ p).length / 128))) ∧ (∀ i, K i → H'[i]? = H[i]?) ∧ H.length ≤ H'.length ∧ ∀ i ∈ L', ¬ K i)
    ((all ++ p).length / 128 - q0) (s := fdI hid H3 L3 []) ⟨H3, L3, [], rv', rfl, by rw [Nat.add_zero, ← hst0]; exact hg3, by rw [Nat.add_zero]; exact hr3, hf3, hl3, hL3'⟩
    (fun k st hk hs => by
      obtain ⟨Hk, Lk, exk, rvk, rfl, k1, k2, k3, k4, k5⟩ := hs
      obtain ⟨rv2, Hk2, L2, ex2, j1, j2, j3, j4, j5, j6⟩ := fd_body (b0 := H.length) (ex := exk) (fun i hi => Nat.lt_of_lt_of_le (hK i hi) k4) hKh k1 (stK_len _ _) (stK_lt _ _) k2 (by rw [List.length_drop]; omega) (fun y hy => by
        rcases List.mem_append.1 (List.mem_of_mem_drop hy) with h | h
        · exact xa y h
        · exact xp y h) k5 (by rw [List.length_drop]; omega)
      refine ⟨_, j1, Hk2, L2, ex2, rv2, rfl, j2, ?_, fun i hi => (j4 i hi).trans (k3 i hi), Nat.le_trans k4 j5, j6⟩
      rw [List.drop_drop] at j3
      rw [show 128 * (q0 + (k + 1)) = 128 * (q0 + k) + 128 by omega]
      exact j3)
    (fun st hs => by
      obtain ⟨Hk, Lk, exk, rvk, rfl, k1, k2, k3, k4, k5⟩ := hs
      have hqq : q0 + ((all ++ p).length / 128 - q0) = (all ++ p).length / 128 := by
        have : q0 ≤ (all ++ p).length / 128 := by rw [hq0, hN]; omega
        omega
      rw [hqq] at k1 k2
      have hrl2 : ((all ++ p).drop (128 * ((all ++ p).length / 128))).length < 128 := by rw [List.length_drop]; omega
      obtain ⟨v, c, hv⟩ := k2.shape
      refine ⟨_, ?_, Hk, Lk, [(33, .bool false)], rvk, rfl, k1, k2, k3, k4, k5⟩
      subst hv
      have c0 : ∀ v' s', (hcl v' (all.length + p.length) s')[0]? = some v' := fun _ _ => rfl
      have e1 : ((128 : Int) ≤ (((all ++ p).drop (128 * ((all ++ p).length / 128))).length : Int)) = False := eq_false (by omega)
      simp only [hob] at k1
      generalize ((all ++ p).drop (128 * ((all ++ p).length / 128))).length = rl at *
      generalize stK ((all ++ p).length / 128) (all ++ p) = sk at *
      simp only [fdI, fdF, a215_l0, ↓steps_chunk, envOf, quiet, cF, ↓pF, reduceCtorEq, Nat.reduceEqDiff, Int.reduceEq, fs_callW, fs_regionQ, quiet2_eq, lastOf_nil, lastOf_cons, List.take_succ_cons, List.take_zero, List.drop_succ_cons, List.drop_zero, Int.reduceBEq, Int.reduceBNe, ↓keepW_some, ↓qElseW_some, ↓guardW_tt, ↓guardW_ff, ↓guardW_tf, ↓guardW_ft, cL, Int.reduceLE, Int.reduceLT, Int.reduceAdd, Int.reduceMul, Int.reduceSub, Int.reduceTDiv, Int.reduceTMod, Int.reduceNeg, Int.reduceToNat, Int.reduceGT, Int.reduceGE, Int.reducePow, Nat.reduceAdd, Nat.reduceMul, Nat.reduceSub, Nat.reduceDiv, Nat.reduceMod, Nat.reducePow, Nat.reduceLT, Nat.reduceLeDiff, cJ, e1, k1, c0])
  refine ⟨H', L', ?_, ⟨rvf, by rw [hN] at f1 ⊢; exact f1, f2⟩, f3, f4, f5⟩
  obtain ⟨c1, c2, rfl⟩ := hl
  simp only [fdI, List.cons_append, List.nil_append, hL3] at hloop
  simp only [hob] at h1 ha hg2 hH3
  have w1 : IntKind.u64.wrap (p.length : Int) = (p.length : Int) := w64n (by omega)
  have w2 : IntKind.u64.wrap ((all.length : Int) + (p.length : Int)) = ((all.length + p.length : Nat) : Int) := w64_add (by omega)
  have c0 : ∀ v' n' s', (hcl v' n' s')[0]? = some v' := fun _ _ _ => rfl
  have c1' : ∀ v' (n' : Nat) s', (hcl v' n' s')[1]? = some (.int .u64 n') := fun _ _ _ => rfl
  have s0 : ∀ v' n' s' v, (hcl v' n' s').set 0 v = hcl v n' s' := fun _ _ _ _ => rfl
  have s1 : ∀ v' n' s' (m : Nat), (hcl v' n' s').set 1 (.int .u64 (m : Int)) = hcl v' m s' := fun _ _ _ _ => rfl
  have cl : ∀ v n' s', (1 ≤ (hcl v n' s').length) = True := fun v n' s' => eq_true (by rw [hcl_len]; omega)
  have cl2 : ∀ v n' s', (2 ≤ (hcl v n' s').length) = True := fun v n' s' => eq_true (by rw [hcl_len]; omega)
  have hgs : ∀ o : Ob, (H.set hid o)[hid]? = some o := fun o => List.getElem?_set_self hlt
  obtain ⟨vr, cr, hvr⟩ := a1.shape
  have hok : okVar rv' = true := by rw [hvr]; rfl
  have hc1 : rv'.cells.toList = [rv'] := by rw [hvr]; rfl
  have hc2 : rv'.cells.size = 1 := by rw [hvr]; rfl
  clear hvr
  generalize all.length + p.length = NN at *
  rw [evFun_fn (fn := a215) rfl]
  simp only [a215, ↓steps_chunk, envOf, quiet, cF, ↓pF, reduceCtorEq, Nat.reduceEqDiff, Int.reduceEq, fs_callW, fs_regionQ, quiet2_eq, lastOf_nil, lastOf_cons, List.take_succ_cons, List.take_zero, List.drop_succ_cons, List.drop_zero, Int.reduceBEq, Int.reduceBNe, ↓keepW_some, ↓qElseW_some, ↓guardW_tt, ↓guardW_ff, ↓guardW_tf, ↓guardW_ft, cL, Int.reduceLE, Int.reduceLT, Int.reduceAdd, Int.reduceMul, Int.reduceSub, Int.reduceTDiv, Int.reduceTMod, Int.reduceNeg, Int.reduceToNat, Int.reduceGT, Int.reduceGE, Int.reducePow, Nat.reduceAdd, Nat.reduceMul, Nat.reduceSub, Nat.reduceDiv, Nat.reduceMod, Nat.reducePow, Nat.reduceLT, Nat.reduceLeDiff, cJ, fdF, h1, c0, c1', s0, s1, cl, cl2, w1, w2, hgs, ha, hg2, ← hH3, hok, hc1, hc2]
  simp only [fdF] at hloop
  simp only [hloop, envOf, quiet, cF, ↓pF, reduceCtorEq, Nat.reduceEqDiff, Int.reduceEq, fs_callW, fs_regionQ, quiet2_eq, lastOf_nil, lastOf_cons, List.take_succ_cons, List.take_zero, List.drop_succ_cons, List.drop_zero, Int.reduceBEq, Int.reduceBNe, ↓keepW_some, ↓qElseW_some, ↓guardW_tt, ↓guardW_ff, ↓guardW_tf, ↓guardW_ft, cL, Int.reduceLE, Int.reduceLT, Int.reduceAdd, Int.reduceMul, Int.reduceSub, Int.reduceTDiv, Int.reduceTMod, Int.reduceNeg, Int.reduceToNat, Int.reduceGT, Int.reduceGE, Int.reducePow, Nat.reduceAdd, Nat.reduceMul, Nat.reduceSub, Nat.reduceDiv, Nat.reduceMod, Nat.reducePow, Nat.reduceLT, Nat.reduceLeDiff]
  rfl
end Go.Ev.Ytgacigcbglflkaa
set_option linter.unusedSimpArgs false
set_option linter.unusedVariables false
namespace Go.Ev.Ytgacigcbglflkaa
open Go Go.Ev
attribute [local congr] bind_congr2 ite_congr2 qElse_congr gate_congr guardV_congr
set_option maxRecDepth 100000
structure HPart (K : Nat → Prop) (H : List Ob) (x : Value) (p : List Nat) : Prop where
  shape : ∃ (a : Option Addr) (c : Nat), x = .slice a p.length c
  reads : ∀ G : List Ob, (∀ i, K i → G[i]? = H[i]?) → elemsOf G 1 p.length x = some (u8s p)
  lt : ∀ y ∈ p, y < 256
  le : p.length ≤ 2 ^ 47 - 128
theorem HPart.of {K : Nat → Prop} {H G : List Ob} {x : Value} {p : List Nat} (h : HPart K H x p) (hg : ∀ i, K i → G[i]? = H[i]?) : HPart K G x p :=
  ⟨h.shape, fun G' hG' => h.reads G' fun i hi => (hG' i hi).trans (hg i hi), h.lt, h.le⟩
inductive HParts (K : Nat → Prop) (H : List Ob) : List Value → List (List Nat) → Prop
  | nil : HParts K H [] []
  | cons {x : Value} {p : List Nat} {xs : List Value} {ps : List (List Nat)} : HPart K H x p → HParts K H xs ps → HParts K H (x :: xs) (p :: ps)
theorem HParts.get {K : Nat → Prop} {H : List Ob} : ∀ {xs : List Value} {ps : List (List Nat)}, HParts K H xs ps → ∀ {i : Nat} {x : Value}, xs[i]? = some x → ∃ p, ps[i]? = some p ∧ HPart K H x p
  | _, _, .nil, i, x, h => by simp at h
  | _, _, .cons a b, 0, x, h => by simp at h; subst h; exact ⟨_, rfl, a⟩
  | _, _, .cons a b, i + 1, x, h => by
    obtain ⟨p, h1, h2⟩ := b.get (i := i) (by simpa using h)
    exact ⟨p, by simpa using h1, h2⟩
theorem HParts.len {K : Nat → Prop} {H : List Ob} : ∀ {xs : List Value} {ps : List (List Nat)}, HParts K H xs ps → ps.length = xs.length
  | _, _, .nil => rfl
  | _, _, .cons _ b => by simp [b.len]
theorem HParts.lt {K : Nat → Prop} {H : List Ob} : ∀ {xs : List Value} {ps : List (List Nat)}, HParts K H xs ps → ∀ y ∈ ps.flatten, y < 256
  | _, _, .nil => by simp
  | _, _, .cons a b => by
    intro y hy
    rw [List.flatten_cons] at hy
    rcases List.mem_append.1 hy with h | h
    · exact a.lt y h
    · exact b.lt y h
def PV (K : Nat → Prop) (H : List Ob) (pv : Value) (xs : List Value) : Prop := (pv = .slice none 0 0 ∧ xs = []) ∨ ∃ pid off cap o, pv = .slice (some ⟨pid, off, none⟩) xs.length cap ∧ K pid ∧ H[pid]? = some o ∧ o.live = true ∧ ∀ i, i < xs.length → o.cells[off + i]? = xs[i]?
def wrI (hid : Nat) (pv : Value) (n : Nat) (i : Int) (H : List Ob) (L : List Nat) (ex : Env) : St := ⟨[(0, .pointer (some ⟨hid, 0, none⟩)), (6, pv), (7, .int .i64 n), (8, .int .i64 i)] ++ ex, H, L⟩
theorem wr_body {K : Nat → Prop} {H H0 : List Ob} {hid b0 i : Nat} {pv : Value} {xs : List Value} {ps : List (List Nat)} {all L : List Nat} (hK : ∀ i, K i → i < H.length) (hKh : ¬ K hid) (hh : Hsh K H hid all) (xa : ∀ y ∈ all, y < 256) (hp : PV K H0 pv xs) (hP : HParts K H0 xs ps) (hF : ∀ i, K i → H[i]? = H0[i]?) (hL : ∀ i ∈ L, ¬ K i) (hi : i < xs.length) (hn : xs.length < 2 ^ 50) (hb : all.length + (ps.getD i []).length < 2 ^ 50) :
    ∃ H' L', evCode T b0 a213_l0 (wrI hid pv xs.length i H L []) = some (.normal, wrI hid pv xs.length ((i + 1 : Nat) : Int) H' L' []) ∧ Hsh K H' hid (all ++ ps.getD i []) ∧ (∀ i, K i → H'[i]? = H[i]?) ∧ H.length ≤ H'.length ∧ ∀ i ∈ L', ¬ K i := by
  obtain ⟨x, hx⟩ : ∃ x, xs[i]? = some x := ⟨_, List.getElem?_eq_getElem hi⟩
  obtain ⟨p, hpi, hpp⟩ := hP.get hx
  have hgd : ps.getD i [] = p := by rw [List.getD_eq_getElem?_getD, hpi]; rfl
  rw [hgd] at hb ⊢
  obtain ⟨H', M, hf, f1, f2, f3, f4⟩ := feed_ev hK hKh hh xa hpp.lt hpp.shape (fun o => hpp.reads _ (fun j hj => by
    rw [List.getElem?_set_ne (fun e => hKh (by rw [e]; exact hj))]; exact hF j hj)) hb hpp.le
  rcases hp with ⟨-, h0⟩ | ⟨pid, off, cap, o, rfl, kp, ho, hlv, hc⟩
  · rw [h0] at hi; exact absurd hi (Nat.not_lt_zero _)
  · have ho' : H[pid]? = some o := (hF pid kp).trans ho
    have hcx : o.cells[off + i]? = some x := (hc i hi).trans hx
    have e1 : ((i : Int) < (xs.length : Int)) = True := eq_true (by omega)
    have w3 : IntKind.i64.wrap ((i : Int) + 1) = ((i + 1 : Nat) : Int) := wi_add (b := 1) (by omega)
    refine ⟨H', inMerge b0 L M, ?_, f1, f2, f3, fun j hj => ?_⟩
    · simp only [fdF] at hf
      generalize i + 1 = i1 at *
      simp only [wrI, a213_l0, ↓steps_chunk, envOf, quiet, cF, ↓pF, reduceCtorEq, Nat.reduceEqDiff, Int.reduceEq, fs_callW, fs_regionQ, quiet2_eq, lastOf_nil, lastOf_cons, List.take_succ_cons, List.take_zero, List.drop_succ_cons, List.drop_zero, Int.reduceBEq, Int.reduceBNe, ↓keepW_some, ↓qElseW_some, ↓guardW_tt, ↓guardW_ff, ↓guardW_tf, ↓guardW_ft, cL, Int.reduceLE, Int.reduceLT, Int.reduceAdd, Int.reduceMul, Int.reduceSub, Int.reduceTDiv, Int.reduceTMod, Int.reduceNeg, Int.reduceToNat, Int.reduceGT, Int.reduceGE, Int.reducePow, Nat.reduceAdd, Nat.reduceMul, Nat.reduceSub, Nat.reduceDiv, Nat.reduceMod, Nat.reducePow, Nat.reduceLT, Nat.reduceLeDiff, cJ, e1, ho', hlv, hcx, w3, hf]
    · rcases inMerge_mem hj with h | h
      · exact hL j h
      · exact f4 j h
theorem write_ev {K : Nat → Prop} {H : List Ob} {hid : Nat} {pv : Value} {xs : List Value} {ps : List (List Nat)} {all : List Nat} (hK : ∀ i, K i → i < H.length) (hKh : ¬ K hid) (hh : Hsh K H hid all) (xa : ∀ y ∈ all, y < 256) (hp : PV K H pv xs) (hP : HParts K H xs ps) (hn : xs.length < 2 ^ 50) (hb : (all ++ ps.flatten).length < 2 ^ 50) :
    ∃ H' M, evFun T 53 [.pointer (some ⟨hid, 0, none⟩), pv] H = some (.tuple #[], H', M) ∧ Hsh K H' hid (all ++ ps.flatten) ∧ (∀ i, K i → H'[i]? = H[i]?) ∧ H.length ≤ H'.length ∧ ∀ i ∈ M, ¬ K i := by
  obtain ⟨st, hl, H', L', rfl, f1, f2, f3, f4⟩ := block_inv (T := T) (base := H.length) (id := 0) (body := a213_l0)
    (fun i st => ∃ H' L', st = wrI hid pv xs.length (i : Nat) H' L' [] ∧ Hsh K H' hid (all ++ (ps.take i).flatten) ∧ (∀ i, K i → H'[i]? = H[i]?) ∧ H.length ≤ H'.length ∧ ∀ i ∈ L', ¬ K i)
    (Q := fun st => ∃ H' L', st = wrI hid pv xs.length (xs.length : Nat) H' L' [(9, .bool false)] ∧ Hsh K H' hid (all ++ ps.flatten) ∧ (∀ i, K i → H'[i]? = H[i]?) ∧ H.length ≤ H'.length ∧ ∀ i ∈ L', ¬ K i)
    xs.length (s := wrI hid pv xs.length 0 H [] []) ⟨H, [], rfl, by simpa using hh, fun _ _ => rfl, Nat.le_refl _, by simp⟩
    (fun i st hi hs => by
      obtain ⟨H1, L1, rfl, g1, g2, g3, g4⟩ := hs
      have hpl := hP.len
      have hsp : ps.flatten = (ps.take i).flatten ++ ((ps.getD i []) ++ (ps.drop (i + 1)).flatten) := by
        obtain ⟨p, hpi⟩ : ∃ p, ps[i]? = some p := ⟨_, List.getElem?_eq_getElem (by omega)⟩
        have hgd : ps.getD i [] = p := by rw [List.getD_eq_getElem?_getD, hpi]; rfl
        rw [hgd, ← List.flatten_cons, ← List.flatten_append]
        congr 1
        have h1 := List.getElem?_eq_some_iff.1 hpi
        conv => lhs; rw [← List.take_append_drop i ps, List.drop_eq_getElem_cons h1.1, h1.2]
      have htk : (ps.take (i + 1)).flatten = (ps.take i).flatten ++ ps.getD i [] := by
        obtain ⟨p, hpi⟩ : ∃ p, ps[i]? = some p := ⟨_, List.getElem?_eq_getElem (by omega)⟩
        have hgd : ps.getD i [] = p := by rw [List.getD_eq_getElem?_getD, hpi]; rfl
        rw [hgd, List.take_add_one, hpi, List.flatten_append]; simp
      have hlt := hP.lt
      obtain ⟨H2, L2, j1, j2, j3, j4, j5⟩ := wr_body (b0 := H.length) (fun j hj => Nat.lt_of_lt_of_le (hK j hj) g3) hKh g1 (fun y hy => by
        rcases List.mem_append.1 hy with h | h
        · exact xa y h
        · exact hlt y (by rw [hsp]; exact List.mem_append_left _ h)) hp hP g2 g4 hi hn (by
          rw [hsp] at hb
          simp only [List.length_append] at hb ⊢
          omega)
      refine ⟨_, j1, H2, L2, rfl, by rw [htk, ← List.append_assoc]; exact j2, fun j hj => (j3 j hj).trans (g2 j hj), Nat.le_trans g3 j4, j5⟩)
    (fun st hs => by
      obtain ⟨H1, L1, rfl, g1, g2, g3, g4⟩ := hs
      rw [List.take_of_length_le (by rw [hP.len]; exact Nat.le_refl _)] at g1
      refine ⟨_, ?_, H1, L1, rfl, g1, g2, g3, g4⟩
      have e1 : ((xs.length : Int) < (xs.length : Int)) = False := eq_false (by omega)
      simp only [wrI, a213_l0, envOf, quiet, cF, ↓pF, reduceCtorEq, Nat.reduceEqDiff, Int.reduceEq, fs_callW, fs_regionQ, quiet2_eq, lastOf_nil, lastOf_cons, List.take_succ_cons, List.take_zero, List.drop_succ_cons, List.drop_zero, Int.reduceBEq, Int.reduceBNe, ↓keepW_some, ↓qElseW_some, ↓guardW_tt, ↓guardW_ff, ↓guardW_tf, ↓guardW_ft, cL, Int.reduceLE, Int.reduceLT, Int.reduceAdd, Int.reduceMul, Int.reduceSub, Int.reduceTDiv, Int.reduceTMod, Int.reduceNeg, Int.reduceToNat, Int.reduceGT, Int.reduceGE, Int.reducePow, Nat.reduceAdd, Nat.reduceMul, Nat.reduceSub, Nat.reduceDiv, Nat.reduceMod, Nat.reducePow, Nat.reduceLT, Nat.reduceLeDiff, cJ, e1])
  refine ⟨H', L', ?_, f1, f2, f3, f4⟩
  simp only [wrI, List.cons_append, List.nil_append, Int.natCast_zero] at hl
  have hlen : vLen false pv = some (.int .i64 xs.length) := by
    rcases hp with ⟨rfl, h0⟩ | ⟨pid, off, cap, o, rfl, -⟩
    · rw [h0]; rfl
    · rfl
  rw [evFun_fn (fn := a213) rfl]
  simp only [a213, ↓steps_chunk, envOf, quiet, cF, ↓pF, reduceCtorEq, Nat.reduceEqDiff, Int.reduceEq, fs_callW, fs_regionQ, quiet2_eq, lastOf_nil, lastOf_cons, List.take_succ_cons, List.take_zero, List.drop_succ_cons, List.drop_zero, Int.reduceBEq, Int.reduceBNe, ↓keepW_some, ↓qElseW_some, ↓guardW_tt, ↓guardW_ff, ↓guardW_tf, ↓guardW_ft, cL, Int.reduceLE, Int.reduceLT, Int.reduceAdd, Int.reduceMul, Int.reduceSub, Int.reduceTDiv, Int.reduceTMod, Int.reduceNeg, Int.reduceToNat, Int.reduceGT, Int.reduceGE, Int.reducePow, Nat.reduceAdd, Nat.reduceMul, Nat.reduceSub, Nat.reduceDiv, Nat.reduceMod, Nat.reducePow, Nat.reduceLT, Nat.reduceLeDiff, cJ, hlen, hl]
  rfl
theorem new_fill : fillL (Value.slice none 0 0 :: List.replicate 9 (.int .u64 0)) [(2, 8, .agg (ns .u64 sInit).toArray)] = some (hcl (.slice none 0 0) 0 sInit) := rfl
theorem new_ev (H : List Ob) : evFun T 52 [] H = some (.pointer (some ⟨H.length, 0, none⟩), H ++ [hob (.slice none 0 0) 0 sInit], []) := by
  have hf : fillL (List.replicate 8 (Value.int .u64 0)) [(0, 1, .int .u64 7640891576956012808), (1, 1, .int .u64 13503953896175478587), (2, 1, .int .u64 4354685564936845355), (3, 1, .int .u64 11912009170470909681), (4, 1, .int .u64 5840696475078001361), (5, 1, .int .u64 11170449401992604703), (6, 1, .int .u64 2270897969802886507), (7, 1, .int .u64 6620516959819538809)] = some (ns .u64 sInit) := rfl
  have hf2 : ∀ a, fillL [Value.slice none 0 0, .int .u64 0, .int .u64 0, .int .u64 0, .int .u64 0, .int .u64 0, .int .u64 0, .int .u64 0, .int .u64 0, .int .u64 0] [(2, 8, .agg (ns .u64 a).toArray)] = fillL (Value.slice none 0 0 :: List.replicate 9 (.int .u64 0)) [(2, 8, .agg (ns .u64 a).toArray)] := fun _ => rfl
  have hf3 := new_fill
  simp only [hob]
  generalize sInit = S at *
  generalize hcl (.slice none 0 0) 0 S = C at *
  rw [evFun_fn (fn := a212) rfl]
  simp only [a212, ↓steps_chunk, envOf, quiet, cF, ↓pF, reduceCtorEq, Nat.reduceEqDiff, Int.reduceEq, fs_callW, fs_regionQ, quiet2_eq, lastOf_nil, lastOf_cons, List.take_succ_cons, List.take_zero, List.drop_succ_cons, List.drop_zero, Int.reduceBEq, Int.reduceBNe, ↓keepW_some, ↓qElseW_some, ↓guardW_tt, ↓guardW_ff, ↓guardW_tf, ↓guardW_ft, cL, Int.reduceLE, Int.reduceLT, Int.reduceAdd, Int.reduceMul, Int.reduceSub, Int.reduceTDiv, Int.reduceTMod, Int.reduceNeg, Int.reduceToNat, Int.reduceGT, Int.reduceGE, Int.reducePow, Nat.reduceAdd, Nat.reduceMul, Nat.reduceSub, Nat.reduceDiv, Nat.reduceMod, Nat.reducePow, Nat.reduceLT, Nat.reduceLeDiff, cJ, hf, hf2, hf3]
theorem new_hsh {K : Nat → Prop} {H : List Ob} {hid : Nat} (h : H[hid]? = some (hob (.slice none 0 0) 0 sInit)) : Hsh K H hid [] := ⟨_, h, .nil⟩
end Go.Ev.Ytgacigcbglflkaa
set_option linter.unusedSimpArgs false
set_option linter.unusedVariables false
namespace Go.Ev.Ytgacigcbglflkaa
open Go Go.Ev
attribute [local congr] bind_congr2 ite_congr2 qElse_congr gate_congr guardV_congr
set_option maxRecDepth 100000
def mA (x y z : List Nat) : List Nat := dig 256 32 ((num 256 x * num 256 y + num 256 z) % ell)
def rd (x : List Nat) : List Nat := dig 256 32 (num 256 x % ell)
theorem mA_len {x y z : List Nat} : (mA x y z).length = 32 := dig_len _ _ _
theorem rd_len {x : List Nat} : (rd x).length = 32 := dig_len _ _ _
theorem mA_lt {x y z : List Nat} : ∀ t ∈ mA x y z, t < 256 := fun _ h => dig_lt (by decide) h
theorem rd_lt {x : List Nat} : ∀ t ∈ rd x, t < 256 := fun _ h => dig_lt (by decide) h
theorem ell_le : ell ≤ 256 ^ 32 := by decide
theorem num_dig_ell (v : Nat) : num 256 (dig 256 32 (v % ell)) = v % ell := by
  rw [num_dig (by decide), Nat.mod_eq_of_lt (Nat.lt_of_lt_of_le (Nat.mod_lt _ ell_pos) ell_le)]
theorem num_mA (x y z : List Nat) : num 256 (mA x y z) = (num 256 x * num 256 y + num 256 z) % ell := num_dig_ell _
theorem mulAdd_mA {a b c : List Nat} (la : a.length = 32) (lb : b.length = 32) (lc : c.length = 32) (xa : ∀ x ∈ a, x < 256) (xb : ∀ x ∈ b, x < 256) (xc : ∀ x ∈ c, x < 256) :
    ∃ l, evFun T 18 [.agg (u8s a).toArray, .agg (u8s b).toArray, .agg (u8s c).toArray] [] = some (.agg (u8s (mA a b c)).toArray, l, []) := mulAdd_ev la lb lc xa xb xc
end Go.Ev.Ytgacigcbglflkaa
set_option linter.unusedSimpArgs false
set_option linter.unusedVariables false
namespace Go.Ev.Ytgacigcbglflkaa
open Go Go.Ev
attribute [local congr] bind_congr2 ite_congr2 qElse_congr gate_congr guardV_congr
set_option maxRecDepth 100000
theorem grow_one {k : IntKind} {B bytes : Nat} {H : List Ob} {s : Value} {bs : List Nat} {x : Nat} (h : Grown k B H s bs) (hB : B ≤ H.length) (hb : (bs.length + 1) * bytes ≤ 2 ^ 47) (hb0 : 0 < bytes) :
    ∃ s' H' M, appendV 1 bytes (H ++ [⟨[.int k (x : Nat)], true, true, true, 1⟩]) s (.slice (some ⟨H.length, 0, none⟩) 1 1) = some (s', H', none, M) ∧ Grown k B H' s' (bs ++ [x]) ∧ (∀ i ∈ M, B ≤ i) ∧ B ≤ H'.length ∧ ∀ i, i < B → H'[i]? = H[i]? := by
  obtain ⟨s', H', M, h1, h2, h3, h4, h5⟩ := (h.app (l' := [⟨[.int k (x : Nat)], true, true, true, 1⟩])).append (bytes := bytes) (x := .slice (some ⟨H.length, 0, none⟩) 1 1) (new := [x]) (by simp; omega) rfl (by simp [elemsOf, liveAt, ns]) hb hb0
  refine ⟨s', H', M, h1, h2, h3, ?_, fun i hi => by rw [h5 i hi, List.getElem?_append_left (by omega)]⟩
  simp at h4
  omega
end Go.Ev.Ytgacigcbglflkaa
set_option linter.unusedSimpArgs false
set_option linter.unusedVariables false
namespace Go.Ev.Ytgacigcbglflkaa
open Go Go.Ev
attribute [local congr] bind_congr2 ite_congr2 qElse_congr gate_congr guardV_congr
set_option maxRecDepth 100000
def paI (hid : Nat) (s : Value) (Hc : List Ob) (ex : Env) : St := ⟨[(0, .pointer (some ⟨hid, 0, none⟩)), (1, .int .i64 128), (2, .int .i64 16), (7, s)] ++ ex, Hc, []⟩
def pbI (hid : Nat) (s : Value) (i : Int) (Hc : List Ob) (ex : Env) : St := ⟨[(0, .pointer (some ⟨hid, 0, none⟩)), (7, s), (8, .int .i64 i)] ++ ex, Hc, []⟩
theorem pad_digit (n i : Nat) : ((n / 256 ^ (i + 1) * 8 % 256) ||| (n / 256 ^ i % 256 / 32)) = 8 * n / 256 ^ (i + 1) % 256 := by
  have h1 : n / 256 ^ (i + 1) = n / 256 ^ i / 256 := by rw [Nat.pow_succ, Nat.div_div_eq_div_mul]
  have h2 : 8 * n / 256 ^ (i + 1) = n / 256 ^ i / 32 := by
    rw [Nat.div_div_eq_div_mul, Nat.pow_succ, show 256 ^ i * 256 = 8 * (256 ^ i * 32) by omega, Nat.mul_div_mul_left _ _ (by decide)]
  rw [h1, h2]
  generalize n / 256 ^ i = m
  have h3 : m / 256 * 8 % 256 = (m / 256 % 32) * 2 ^ 3 := by omega
  rw [h3, or_apart (by omega)]
  omega
theorem padZ_end (n : Nat) : (n + (1 + padZ n) + 16) % 128 = 0 := by unfold padZ; omega
theorem padZ_before (n z : Nat) (h : z < padZ n) : (n + (1 + z) + 16) % 128 ≠ 0 := by unfold padZ at h; omega
theorem padZ_lt (n : Nat) : padZ n < 128 := by unfold padZ; omega
theorem pad_one {H : List Ob} {hid n : Nat} {rv : Value} {st : List Nat} (hh : H[hid]? = some (hob rv n st)) (hn : n < 2 ^ 50) :
    ∃ s l, evCode T H.length (.block 0 (.loop a217_l1)) (paI hid (.slice (some ⟨H.length, 0, none⟩) 1 1) (H ++ [⟨[.int .u8 128], true, true, true, 1⟩]) []) = some (.normal, paI hid s (H ++ l) [(23, .bool false)]) ∧ Grown .u8 H.length (H ++ l) s (128 :: List.replicate (padZ n) 0) := by
  have hlt : hid < H.length := (List.getElem?_eq_some_iff.1 hh).1
  have f0 : fillL [Value.int .u8 0] [(0, 1, .int .u8 0)] = some [.int .u8 0] := rfl
  have c1 : (hcl rv n st)[1]? = some (.int .u64 n) := rfl
  have hz := padZ_lt n
  obtain ⟨x, hb, s, Hc, rfl, hg, hL, hF⟩ := block_inv (T := T) (base := H.length) (id := 0) (body := a217_l1)
    (fun j x => ∃ s Hc, x = paI hid s Hc [] ∧ Grown .u8 H.length Hc s (128 :: List.replicate j 0) ∧ H.length ≤ Hc.length ∧ ∀ i, i < H.length → Hc[i]? = H[i]?)
    (Q := fun x => ∃ s Hc, x = paI hid s Hc [(23, .bool false)] ∧ Grown .u8 H.length Hc s (128 :: List.replicate (padZ n) 0) ∧ H.length ≤ Hc.length ∧ ∀ i, i < H.length → Hc[i]? = H[i]?)
    (padZ n) (s := paI hid (.slice (some ⟨H.length, 0, none⟩) 1 1) (H ++ [⟨[.int .u8 128], true, true, true, 1⟩]) []) ⟨_, _, rfl, Grown.new (k := .u8) (id := H.length) (bs := [128]) (Nat.le_refl _) (by decide) (by simp [Ob.fresh, ns]), by simp, fun i hi => List.getElem?_append_left hi⟩
    (fun j x hj hx => by
      obtain ⟨s, Hc, rfl, hg, hL, hF⟩ := hx
      have hl := hg.len
      have e1 : (128 :: List.replicate j 0).length = 1 + j := by simp; omega
      rw [e1] at hl
      obtain ⟨s', H', M, h1, h2, h3, h4, h5⟩ := grow_one (x := 0) (bytes := 1) hg hL (by rw [e1]; omega) (by decide)
      have hm : inMerge H.length [] M = [] := inMerge_ge h3
      have hget : Hc[hid]? = some ⟨hcl rv n st, true, true, true, 1⟩ := (hF hid hlt).trans hh
      have w1 : IntKind.i64.wrap (n : Int) = (n : Int) := wn (by omega)
      have w2 : IntKind.i64.wrap ((n : Int) + ((1 + j : Nat) : Int)) = ((n + (1 + j) : Nat) : Int) := wi_add (by omega)
      have w3 : IntKind.i64.wrap (((n + (1 + j) : Nat) : Int) + 16) = ((n + (1 + j) + 16 : Nat) : Int) := wi_add (b := 16) (by omega)
      have w4 : ((n + (1 + j) + 16 : Nat) : Int).tmod 128 = (((n + (1 + j) + 16) % 128 : Nat) : Int) := rfl
      have w5 : ((((n + (1 + j) + 16) % 128 : Nat) : Int) != 0) = true := bne_iff_ne.2 (by have := padZ_before n j hj; omega)
      refine ⟨paI hid s' H' [], ?_, s', H', rfl, by rw [List.replicate_succ', ← List.cons_append]; exact h2, h4, fun i hi => by rw [h5 i hi, hF i hi]⟩
      simp only [Int.natCast_zero] at h1
      generalize (n + (1 + j) + 16) % 128 = r at *
      generalize n + (1 + j) + 16 = r2 at *
      generalize n + (1 + j) = r3 at *
      simp only [paI, a217_l1, ↓steps_chunk, envOf, quiet, cF, ↓pF, reduceCtorEq, Nat.reduceEqDiff, Int.reduceEq, fs_callW, fs_regionQ, quiet2_eq, lastOf_nil, lastOf_cons, List.take_succ_cons, List.take_zero, List.drop_succ_cons, List.drop_zero, Int.reduceBEq, Int.reduceBNe, ↓keepW_some, ↓qElseW_some, ↓guardW_tt, ↓guardW_ff, ↓guardW_tf, ↓guardW_ft, cL, Int.reduceLE, Int.reduceLT, Int.reduceAdd, Int.reduceMul, Int.reduceSub, Int.reduceTDiv, Int.reduceTMod, Int.reduceNeg, Int.reduceToNat, Int.reduceGT, Int.reduceGE, Int.reducePow, Nat.reduceAdd, Nat.reduceMul, Nat.reduceSub, Nat.reduceDiv, Nat.reduceMod, Nat.reducePow, Nat.reduceLT, Nat.reduceLeDiff, cJ, hget, c1, hl, w1, w2, w3, w4, w5, f0, h1, hm])
    (fun x hx => by
      obtain ⟨s, Hc, rfl, hg, hL, hF⟩ := hx
      have hl := hg.len
      have e1 : (128 :: List.replicate (padZ n) 0).length = 1 + padZ n := by simp; omega
      rw [e1] at hl
      have hget : Hc[hid]? = some ⟨hcl rv n st, true, true, true, 1⟩ := (hF hid hlt).trans hh
      have w1 : IntKind.i64.wrap (n : Int) = (n : Int) := wn (by omega)
      have w2 : IntKind.i64.wrap ((n : Int) + ((1 + padZ n : Nat) : Int)) = ((n + (1 + padZ n) : Nat) : Int) := wi_add (by omega)
      have w3 : IntKind.i64.wrap (((n + (1 + padZ n) : Nat) : Int) + 16) = ((n + (1 + padZ n) + 16 : Nat) : Int) := wi_add (b := 16) (by omega)
      have w4 : ((n + (1 + padZ n) + 16 : Nat) : Int).tmod 128 = 0 := by
        have : ((n + (1 + padZ n) + 16 : Nat) : Int).tmod 128 = (((n + (1 + padZ n) + 16) % 128 : Nat) : Int) := rfl
        rw [this, padZ_end]; rfl
      refine ⟨_, ?_, s, Hc, rfl, hg, hL, hF⟩
      generalize n + (1 + padZ n) + 16 = r2 at *
      generalize n + (1 + padZ n) = r3 at *
      simp only [paI, a217_l1, ↓steps_chunk, envOf, quiet, cF, ↓pF, reduceCtorEq, Nat.reduceEqDiff, Int.reduceEq, fs_callW, fs_regionQ, quiet2_eq, lastOf_nil, lastOf_cons, List.take_succ_cons, List.take_zero, List.drop_succ_cons, List.drop_zero, Int.reduceBEq, Int.reduceBNe, ↓keepW_some, ↓qElseW_some, ↓guardW_tt, ↓guardW_ff, ↓guardW_tf, ↓guardW_ft, cL, Int.reduceLE, Int.reduceLT, Int.reduceAdd, Int.reduceMul, Int.reduceSub, Int.reduceTDiv, Int.reduceTMod, Int.reduceNeg, Int.reduceToNat, Int.reduceGT, Int.reduceGE, Int.reducePow, Nat.reduceAdd, Nat.reduceMul, Nat.reduceSub, Nat.reduceDiv, Nat.reduceMod, Nat.reducePow, Nat.reduceLT, Nat.reduceLeDiff, cJ, hget, c1, hl, w1, w2, w3, w4])
  obtain ⟨l, rfl⟩ := ext_app hL hF
  exact ⟨s, l, hb, hg⟩
def padD (n i : Nat) : Nat := 8 * n / 256 ^ (15 - i) % 256
theorem pad_two {H l0 : List Ob} {hid n : Nat} {rv s0 : Value} {st bs : List Nat} (hh : H[hid]? = some (hob rv n st)) (hn : n < 2 ^ 50) (hg0 : Grown .u8 H.length (H ++ l0) s0 bs) (hbs : bs.length ≤ 200) :
    ∃ s l, evCode T H.length (.block 2 (.loop a217_l0)) (pbI hid s0 15 (H ++ l0) []) = some (.normal, pbI hid s (-1) (H ++ l) [(30, .bool false)]) ∧ Grown .u8 H.length (H ++ l) s (bs ++ (List.range 16).map (padD n)) := by
  have hlt : hid < H.length := (List.getElem?_eq_some_iff.1 hh).1
  have c1 : (hcl rv n st)[1]? = some (.int .u64 n) := rfl
  obtain ⟨x, hb, s, Hc, rfl, hg, hL, hF⟩ := block_inv (T := T) (base := H.length) (id := 2) (body := a217_l0)
    (fun j x => ∃ s Hc, x = pbI hid s ((15 : Int) - j) Hc [] ∧ Grown .u8 H.length Hc s (bs ++ (List.range j).map (padD n)) ∧ H.length ≤ Hc.length ∧ ∀ i, i < H.length → Hc[i]? = H[i]?)
    (Q := fun x => ∃ s Hc, x = pbI hid s (-1) Hc [(30, .bool false)] ∧ Grown .u8 H.length Hc s (bs ++ (List.range 16).map (padD n)) ∧ H.length ≤ Hc.length ∧ ∀ i, i < H.length → Hc[i]? = H[i]?)
    16 (s := pbI hid s0 15 (H ++ l0) []) ⟨_, _, rfl, by simpa using hg0, by simp, fun i hi => List.getElem?_append_left hi⟩
    (fun j x hj hx => by
      obtain ⟨s, Hc, rfl, hg, hL, hF⟩ := hx
      obtain ⟨i, hi⟩ : ∃ i, i = 15 - j := ⟨_, rfl⟩
      rw [show (15 : Int) - j = (i : Int) by omega, show (15 : Int) - ((j + 1 : Nat) : Int) = (i : Int) - 1 by omega]
      have hl := hg.len
      have hpd : padD n j = 8 * n / 256 ^ i % 256 := by rw [hi]; rfl
      obtain ⟨s', H', M, h1, h2, h3, h4, h5⟩ := grow_one (x := padD n j) (bytes := 1) hg hL (by rw [List.length_append, List.length_map, List.length_range]; omega) (by decide)
      have hm : inMerge H.length [] M = [] := inMerge_ge h3
      have hget : Hc[hid]? = some ⟨hcl rv n st, true, true, true, 1⟩ := (hF hid hlt).trans hh
      have fx : ∀ a : Int, fillL [Value.int .u8 0] [(0, 1, .int .u8 a)] = some [.int .u8 a] := fun _ => rfl
      have w0 : IntKind.i64.wrap ((i : Int) - 1) = (i : Int) - 1 := wrapI64_small (by omega) (by omega)
      have e0 : ((0 : Int) ≤ (i : Int)) = True := eq_true (by omega)
      refine ⟨pbI hid s' ((i : Int) - 1) H' [], ?_, s', H', rfl, by rw [List.range_succ, List.map_append, ← List.append_assoc]; exact h2, h4, fun k hk => by rw [h5 k hk, hF k hk]⟩
      rw [hpd] at h1
      by_cases h9 : i < 9
      · have e9 : ((i : Int) < 9) = True := eq_true (by omega)
        have w1 : IntKind.i64.wrap (8 * (i : Int)) = ((8 * i : Nat) : Int) := wi_mul (a := 8) (by omega)
        have w2 : (((8 * i : Nat) : Int) < 0) = False := eq_false (by omega)
        have w3 : (n : Int).fdiv (2 ^ min (8 * i) IntKind.u64.bits) = ((n / 256 ^ i : Nat) : Int) := by
          rw [shr64 (by omega), show (256 : Nat) = 2 ^ 8 from rfl, ← Nat.pow_mul]
        have hle : n / 256 ^ i ≤ n := Nat.div_le_self _ _
        have w4 : IntKind.u64.wrap (((n / 256 ^ i : Nat) : Int) * 2 ^ min 3 IntKind.u64.bits) = ((n / 256 ^ i * 8 : Nat) : Int) := w64_mul (b := 8) (by omega)
        have w5 : IntKind.u8.wrap ((n / 256 ^ i * 8 : Nat) : Int) = ((n / 256 ^ i * 8 % 256 : Nat) : Int) := n_w8 _
        by_cases hz : i = 0
        · subst hz
          have e8 : n / 256 ^ 0 * 8 % 256 = 8 * n / 256 ^ 0 % 256 := by rw [Nat.pow_zero, Nat.div_one, Nat.div_one]; omega
          rw [e8] at w5
          have ew : (8 * 0 : Nat) = 0 := rfl
          simp only [ew, Int.natCast_zero] at w1 w2 w3
          generalize 8 * n / 256 ^ 0 % 256 = d at *
          generalize n / 256 ^ 0 * 8 = v1 at *
          generalize n / 256 ^ 0 = v2 at *
          simp only [pbI, a217_l0, ↓steps_chunk, envOf, quiet, cF, ↓pF, reduceCtorEq, Nat.reduceEqDiff, Int.reduceEq, fs_callW, fs_regionQ, quiet2_eq, lastOf_nil, lastOf_cons, List.take_succ_cons, List.take_zero, List.drop_succ_cons, List.drop_zero, Int.reduceBEq, Int.reduceBNe, ↓keepW_some, ↓qElseW_some, ↓guardW_tt, ↓guardW_ff, ↓guardW_tf, ↓guardW_ft, cL, Int.reduceLE, Int.reduceLT, Int.reduceAdd, Int.reduceMul, Int.reduceSub, Int.reduceTDiv, Int.reduceTMod, Int.reduceNeg, Int.reduceToNat, Int.reduceGT, Int.reduceGE, Int.reducePow, Nat.reduceAdd, Nat.reduceMul, Nat.reduceSub, Nat.reduceDiv, Nat.reduceMod, Nat.reducePow, Nat.reduceLT, Nat.reduceLeDiff, cJ, hget, c1, w0, e0, e9, w1, w2, w3, w4, w5, fx, h1, hm]
        · obtain ⟨k, rfl⟩ : ∃ k, i = k + 1 := ⟨i - 1, by omega⟩
          have hd := pad_digit n k
          have ep : ((0 : Int) < ((k + 1 : Nat) : Int)) = True := eq_true (by omega)
          have v1 : IntKind.i64.wrap (((8 * (k + 1) : Nat) : Int) - 8) = ((8 * k : Nat) : Int) := by rw [wrapI64_small (by omega) (by omega)]; omega
          have v2 : (((8 * k : Nat) : Int) < 0) = False := eq_false (by omega)
          have v3 : (n : Int).fdiv (2 ^ min (8 * k) IntKind.u64.bits) = ((n / 256 ^ k : Nat) : Int) := by
            rw [shr64 (by omega), show (256 : Nat) = 2 ^ 8 from rfl, ← Nat.pow_mul]
          have v4 : bitsOp .and .u64 ((n / 256 ^ k : Nat) : Int) 255 = ((n / 256 ^ k % 256 : Nat) : Int) := n_mask .u64 rfl 8 _ (by decide)
          have v5 : ((n / 256 ^ k % 256 : Nat) : Int).fdiv (2 ^ min 5 IntKind.u64.bits) = ((n / 256 ^ k % 256 / 32 : Nat) : Int) := shr64 (r := 5) (by decide)
          have v6 : IntKind.u8.wrap ((n / 256 ^ k % 256 / 32 : Nat) : Int) = ((n / 256 ^ k % 256 / 32 : Nat) : Int) := by rw [n_w8, Nat.mod_eq_of_lt (by omega)]
          have v7 : bitsOp .or .u8 ((n / 256 ^ (k + 1) * 8 % 256 : Nat) : Int) ((n / 256 ^ k % 256 / 32 : Nat) : Int) = ((8 * n / 256 ^ (k + 1) % 256 : Nat) : Int) := by
            rw [bits_or rfl (show _ < 2 ^ 8 from Nat.mod_lt _ (by decide)) (show n / 256 ^ k % 256 / 32 < 2 ^ 8 by omega), hd]
          generalize 8 * n / 256 ^ (k + 1) % 256 = d at *
          generalize n / 256 ^ (k + 1) * 8 % 256 = u1 at *
          generalize n / 256 ^ (k + 1) * 8 = u2 at *
          generalize n / 256 ^ (k + 1) = u3 at *
          generalize n / 256 ^ k % 256 / 32 = u4 at *
          generalize n / 256 ^ k % 256 = u5 at *
          generalize n / 256 ^ k = u6 at *
          generalize 8 * (k + 1) = u7 at *
          generalize 8 * k = u8' at *
          generalize k + 1 = k1 at *
          simp only [pbI, a217_l0, ↓steps_chunk, envOf, quiet, cF, ↓pF, reduceCtorEq, Nat.reduceEqDiff, Int.reduceEq, fs_callW, fs_regionQ, quiet2_eq, lastOf_nil, lastOf_cons, List.take_succ_cons, List.take_zero, List.drop_succ_cons, List.drop_zero, Int.reduceBEq, Int.reduceBNe, ↓keepW_some, ↓qElseW_some, ↓guardW_tt, ↓guardW_ff, ↓guardW_tf, ↓guardW_ft, cL, Int.reduceLE, Int.reduceLT, Int.reduceAdd, Int.reduceMul, Int.reduceSub, Int.reduceTDiv, Int.reduceTMod, Int.reduceNeg, Int.reduceToNat, Int.reduceGT, Int.reduceGE, Int.reducePow, Nat.reduceAdd, Nat.reduceMul, Nat.reduceSub, Nat.reduceDiv, Nat.reduceMod, Nat.reducePow, Nat.reduceLT, Nat.reduceLeDiff, cJ, hget, c1, w0, e0, e9, ep, w1, w2, w3, w4, w5, v1, v2, v3, v4, v5, v6, v7, fx, h1, hm]
      · have e9 : ((i : Int) < 9) = False := eq_false (by omega)
        have ep : ((0 : Int) < (i : Int)) = True := eq_true (by omega)
        have hz : 8 * n / 256 ^ i % 256 = 0 := by
          have : (256 : Nat) ^ 9 ≤ 256 ^ i := Nat.pow_le_pow_right (by decide) (by omega)
          rw [Nat.div_eq_of_lt (Nat.lt_of_lt_of_le (by omega) this)]
        rw [hz] at h1
        simp only [Int.natCast_zero] at h1
        simp only [pbI, a217_l0, ↓steps_chunk, envOf, quiet, cF, ↓pF, reduceCtorEq, Nat.reduceEqDiff, Int.reduceEq, fs_callW, fs_regionQ, quiet2_eq, lastOf_nil, lastOf_cons, List.take_succ_cons, List.take_zero, List.drop_succ_cons, List.drop_zero, Int.reduceBEq, Int.reduceBNe, ↓keepW_some, ↓qElseW_some, ↓guardW_tt, ↓guardW_ff, ↓guardW_tf, ↓guardW_ft, cL, Int.reduceLE, Int.reduceLT, Int.reduceAdd, Int.reduceMul, Int.reduceSub, Int.reduceTDiv, Int.reduceTMod, Int.reduceNeg, Int.reduceToNat, Int.reduceGT, Int.reduceGE, Int.reducePow, Nat.reduceAdd, Nat.reduceMul, Nat.reduceSub, Nat.reduceDiv, Nat.reduceMod, Nat.reducePow, Nat.reduceLT, Nat.reduceLeDiff, cJ, hget, c1, w0, e0, e9, ep, fx, h1, hm])
    (fun x hx => by
      obtain ⟨s, Hc, rfl, hg, hL, hF⟩ := hx
      have e : ((0 : Int) ≤ -1) = False := by decide
      refine ⟨_, ?_, s, Hc, rfl, hg, hL, hF⟩
      rw [show (15 : Int) - ((16 : Nat) : Int) = -1 by omega]
      simp only [pbI, a217_l0, envOf, quiet, cF, ↓pF, reduceCtorEq, Nat.reduceEqDiff, Int.reduceEq, fs_callW, fs_regionQ, quiet2_eq, lastOf_nil, lastOf_cons, List.take_succ_cons, List.take_zero, List.drop_succ_cons, List.drop_zero, Int.reduceBEq, Int.reduceBNe, ↓keepW_some, ↓qElseW_some, ↓guardW_tt, ↓guardW_ff, ↓guardW_tf, ↓guardW_ft, cL, Int.reduceLE, Int.reduceLT, Int.reduceAdd, Int.reduceMul, Int.reduceSub, Int.reduceTDiv, Int.reduceTMod, Int.reduceNeg, Int.reduceToNat, Int.reduceGT, Int.reduceGE, Int.reducePow, Nat.reduceAdd, Nat.reduceMul, Nat.reduceSub, Nat.reduceDiv, Nat.reduceMod, Nat.reducePow, Nat.reduceLT, Nat.reduceLeDiff, e])
  obtain ⟨l, rfl⟩ := ext_app hL hF
  exact ⟨s, l, hb, hg⟩
theorem padL_eq (n : Nat) : padL n = (128 :: List.replicate (padZ n) 0) ++ (List.range 16).map (padD n) := by unfold padL padD; rw [List.cons_append]
theorem padding_ev {H : List Ob} {hid n : Nat} {rv : Value} {st : List Nat} (hh : H[hid]? = some (hob rv n st)) (hn : n < 2 ^ 50) :
    ∃ s l, evFun T 68 [.pointer (some ⟨hid, 0, none⟩), .int .i64 128, .int .i64 16] H = some (s, H ++ l, []) ∧ Grown .u8 H.length (H ++ l) s (padL n) := by
  obtain ⟨s1, l1, h1, g1⟩ := pad_one hh hn
  have hz := padZ_lt n
  obtain ⟨s2, l2, h2, g2⟩ := pad_two hh hn g1 (by simp; omega)
  rw [← padL_eq] at g2
  refine ⟨s2, l2, ?_, g2⟩
  have f128 : fillL [Value.int .u8 0] [(0, 1, .int .u8 128)] = some [.int .u8 128] := rfl
  have w1 : IntKind.i64.wrap 15 = 15 := by decide
  simp only [paI, List.cons_append, List.nil_append] at h1
  simp only [pbI, List.cons_append, List.nil_append] at h2
  rw [evFun_fn (fn := a217) rfl]
  simp only [a217, ↓steps_chunk, envOf, quiet, cF, ↓pF, reduceCtorEq, Nat.reduceEqDiff, Int.reduceEq, fs_callW, fs_regionQ, quiet2_eq, lastOf_nil, lastOf_cons, List.take_succ_cons, List.take_zero, List.drop_succ_cons, List.drop_zero, Int.reduceBEq, Int.reduceBNe, ↓keepW_some, ↓qElseW_some, ↓guardW_tt, ↓guardW_ff, ↓guardW_tf, ↓guardW_ft, cL, Int.reduceLE, Int.reduceLT, Int.reduceAdd, Int.reduceMul, Int.reduceSub, Int.reduceTDiv, Int.reduceTMod, Int.reduceNeg, Int.reduceToNat, Int.reduceGT, Int.reduceGE, Int.reducePow, Nat.reduceAdd, Nat.reduceMul, Nat.reduceSub, Nat.reduceDiv, Nat.reduceMod, Nat.reducePow, Nat.reduceLT, Nat.reduceLeDiff, cJ, f128, h1, w1, h2]
end Go.Ev.Ytgacigcbglflkaa
set_option linter.unusedSimpArgs false
set_option linter.unusedVariables false
namespace Go.Ev.Ytgacigcbglflkaa
open Go Go.Ev
attribute [local congr] bind_congr2 ite_congr2 qElse_congr gate_congr guardV_congr
set_option maxRecDepth 100000
theorem Rst.elems {K : Nat → Prop} {H : List Ob} {v : Value} {l : List Nat} (h : Rst K H v l) : elemsOf H 1 l.length v = some (u8s l) := by
  cases h with
  | nil => rfl
  | empty _ h2 => simp [elemsOf, liveAt_some h2 rfl, u8s]
  | own h1 h2 h4 h3 => simp [elemsOf, liveAt_some h2 rfl, u8s_len, h4, u8s_part h3]
theorem app_empty {K : Nat → Prop} {G : List Ob} {e : Nat} {x : Value} {p : List Nat} (he : G[e]? = some ⟨[], true, true, true, 1⟩) (hKe : ¬ K e) (hKg : ¬ K G.length) (hl : Go.Ev.lenV x = some p.length) (hel : elemsOf G 1 p.length x = some (u8s p)) (hb : p.length ≤ 2 ^ 47) :
    ∃ v' l, appendV 1 1 G (.slice (some ⟨e, 0, none⟩) 0 0) x = some (v', G ++ l, none, []) ∧ Rst K (G ++ l) v' p ∧ okVar v' = true ∧ v'.cells.toList = [v'] ∧ v'.cells.size = 1 := by
  have h4 : liveAt G e = some ⟨[], true, true, true, 1⟩ := liveAt_some he rfl
  rcases Nat.eq_zero_or_pos p.length with hn | hn
  · have : p = [] := List.eq_nil_of_length_eq_zero hn
    subst this
    refine ⟨.slice (some ⟨e, 0, none⟩) 0 0, [], ?_, by rw [List.append_nil]; exact .empty hKe he, rfl, rfl, rfl⟩
    rw [List.length_nil] at hl hel
    simp only [appendV, hl, hel, Option.bind_some, if_true, List.append_nil]
  · have h1 : ¬ p.length = 0 := by omega
    have h2 : p.length * 1 ≤ 2 ^ 47 := by omega
    have h7 : ¬ (p.length ≤ 0) := by omega
    have h8 : elemsOf G 1 0 (.slice (some ⟨e, 0, none⟩) 0 0) = some [] := by simp [elemsOf, h4]
    refine ⟨.slice (some ⟨G.length, 0, none⟩) p.length p.length, [Ob.grown 1 (u8s p)], ?_, .own (all := p) hKg (by simp [Ob.grown]) (by omega) (fun i _ => by rw [Nat.zero_add]), rfl, rfl, rfl⟩
    simp only [appendV, hl, hel, Option.bind_some, if_neg h1, Nat.zero_add, h2, Nat.lt_add_one, Nat.zero_lt_one, and_self, not_true_eq_false, if_false, if_true, h4, h8, if_neg h7, List.nil_append]
theorem Rst.len {K : Nat → Prop} {H : List Ob} {v : Value} {l : List Nat} (h : Rst K H v l) : Go.Ev.lenV v = some l.length := by
  obtain ⟨a, c, rfl⟩ := h.shape; rfl
theorem sha_len (b : List Nat) : (sha b).length = 64 := by simp [sha]
theorem sha_lt (b : List Nat) : ∀ x ∈ sha b, x < 256 := by
  intro x hx
  simp only [sha, List.mem_map] at hx
  obtain ⟨i, -, rfl⟩ := hx
  exact Nat.mod_lt _ (by decide)
def suI (r x o : Nat) (G : List Ob) (b : List Nat) (i : Int) (ex : Env) : St := ⟨[(2, .pointer (some ⟨r, 0, none⟩)), (3, .pointer (some ⟨x, 0, none⟩)), (4, .pointer (some ⟨G.length, 0, none⟩)), (32, .int .i64 i)] ++ ex, G ++ [⟨u8s b, true, true, true, 1⟩], []⟩
theorem su_block {r x base n : Nat} {G : List Ob} {rv : Value} {st R : List Nat} (hx : G[x]? = some (hob rv n st)) (hs : st.length = 8) (hR : R.length = 64) (hRi : ∀ i, i < 64 → R[i]? = some (st.getD (i / 8) 0 / 256 ^ (7 - i % 8) % 256)) (hxs : ∀ y ∈ st, y < 18446744073709551616) (hb : base ≤ G.length) :
    evCode T base (.block 0 (.loop a214_l0)) (suI r x 0 G (List.replicate 64 0) 0 []) = some (.normal, suI r x 0 G R 64 [(33, .bool false)]) := by
  have h := block_loop (T := T) (base := base) (id := 0) (body := a214_l0) (fun i => suI r x 0 G (pf 64 R i) i []) (s' := suI r x 0 G R 64 [(33, .bool false)]) 64
    (fun i hi => by
      obtain ⟨w, hw⟩ : ∃ w, st[i / 8]? = some w := ⟨_, List.getElem?_eq_getElem (by omega)⟩
      have hw' := hxs w (List.mem_of_getElem? hw)
      have hv := hRi i hi
      rw [getD_of hw] at hv
      have hstep := pf_step hR hi hv
      have hlen := pf_len hR (Nat.le_of_lt hi)
      have hset := u8s_set (pf 64 R i) i (w / 256 ^ (7 - i % 8) % 256)
      rw [hstep] at hset
      have gc := hcl_get (rv := rv) (n := n) hw
      have hget : ∀ l : List Ob, (G ++ l)[x]? = some ⟨hcl rv n st, true, true, true, 1⟩ := fun l => by rw [List.getElem?_append_left (List.getElem?_eq_some_iff.1 hx).1]; exact hx
      have e1 : ((i : Int) < 64) = True := eq_true (by omega)
      have w3 : IntKind.i64.wrap ((i : Int) + 1) = ((i + 1 : Nat) : Int) := wi_add (b := 1) (by omega)
      have w4 : IntKind.i64.wrap ((i : Int).tdiv 8) = ((i / 8 : Nat) : Int) := wn (n := i / 8) (by omega)
      have e2 : (((i / 8 : Nat) : Int) < 8) = True := eq_true (by omega)
      have w5 : (i : Int).tmod 8 = ((i % 8 : Nat) : Int) := rfl
      have w6 : IntKind.i64.wrap (8 * ((i % 8 : Nat) : Int)) = ((8 * (i % 8) : Nat) : Int) := wi_mul (a := 8) (by omega)
      have w7 : IntKind.i64.wrap (56 - ((8 * (i % 8) : Nat) : Int)) = ((8 * (7 - i % 8) : Nat) : Int) := by rw [wrapI64_small (by omega) (by omega)]; omega
      have e3 : (((8 * (7 - i % 8) : Nat) : Int) < 0) = False := eq_false (by omega)
      have w8 : (w : Int).fdiv (2 ^ min (8 * (7 - i % 8)) IntKind.u64.bits) = ((w / 256 ^ (7 - i % 8) : Nat) : Int) := by
        rw [shr64 (by omega), show (256 : Nat) = 2 ^ 8 from rfl, ← Nat.pow_mul]
      have w9 : IntKind.u8.wrap ((w / 256 ^ (7 - i % 8) : Nat) : Int) = ((w / 256 ^ (7 - i % 8) % 256 : Nat) : Int) := n_w8 _
      have e4 : (i ≤ 63) = True := eq_true (by omega)
      have m1 : inMerge base [] [G.length] = [] := inMerge_ge (by simpa using hb)
      clear hstep hv hw
      generalize pf 64 R i = o1 at *
      generalize pf 64 R (i + 1) = o2 at *
      generalize w / 256 ^ (7 - i % 8) % 256 = d at *
      generalize w / 256 ^ (7 - i % 8) = d2 at *
      generalize 8 * (7 - i % 8) = d3 at *
      generalize 8 * (i % 8) = d4 at *
      generalize i % 8 = d5 at *
      generalize i / 8 = d6 at *
      generalize i + 1 = i1 at *
      simp only [suI, a214_l0, ↓steps_chunk, envOf, quiet, cF, ↓pF, reduceCtorEq, Nat.reduceEqDiff, Int.reduceEq, fs_callW, fs_regionQ, quiet2_eq, lastOf_nil, lastOf_cons, List.take_succ_cons, List.take_zero, List.drop_succ_cons, List.drop_zero, Int.reduceBEq, Int.reduceBNe, ↓keepW_some, ↓qElseW_some, ↓guardW_tt, ↓guardW_ff, ↓guardW_tf, ↓guardW_ft, cL, Int.reduceLE, Int.reduceLT, Int.reduceAdd, Int.reduceMul, Int.reduceSub, Int.reduceTDiv, Int.reduceTMod, Int.reduceNeg, Int.reduceToNat, Int.reduceGT, Int.reduceGE, Int.reducePow, Nat.reduceAdd, Nat.reduceMul, Nat.reduceSub, Nat.reduceDiv, Nat.reduceMod, Nat.reducePow, Nat.reduceLT, Nat.reduceLeDiff, cJ, e1, e2, e3, e4, w3, w4, w5, w6, w7, w8, w9, hget, gc, hset, u8s_len, hlen, m1])
    (by
      rw [pf_full hR]
      simp only [suI, a214_l0, envOf, quiet, cF, ↓pF, reduceCtorEq, Nat.reduceEqDiff, Int.reduceEq, fs_callW, fs_regionQ, quiet2_eq, lastOf_nil, lastOf_cons, List.take_succ_cons, List.take_zero, List.drop_succ_cons, List.drop_zero, Int.reduceBEq, Int.reduceBNe, ↓keepV_some, ↓qElse_some, ↓guardV_tt, ↓guardV_ff, ↓guardV_tf, ↓guardV_ft, cL, Int.reduceLE, Int.reduceLT, Int.reduceAdd, Int.reduceMul, Int.reduceSub, Int.reduceTDiv, Int.reduceTMod, Int.reduceNeg, Int.reduceToNat, Int.reduceGT, Int.reduceGE, Int.reducePow, Nat.reduceAdd, Nat.reduceMul, Nat.reduceSub, Nat.reduceDiv, Nat.reduceMod, Nat.reducePow, Nat.reduceLT, Nat.reduceLeDiff, cJ])
  rw [pf_zero] at h
  exact h
end Go.Ev.Ytgacigcbglflkaa
set_option linter.unusedSimpArgs false
set_option linter.unusedVariables false
namespace Go.Ev.Ytgacigcbglflkaa
open Go Go.Ev
attribute [local congr] bind_congr2 ite_congr2 qElse_congr gate_congr guardV_congr
set_option maxRecDepth 100000
theorem Grown.part {K : Nat → Prop} {B : Nat} {H : List Ob} {s : Value} {p : List Nat} (h : Grown .u8 B H s p) (hK : ∀ i, B ≤ i → i < H.length → K i) (xp : ∀ y ∈ p, y < 256) (hl : p.length ≤ 2 ^ 47 - 128) (h0 : 0 < p.length) : HPart K H s p := by
  refine ⟨?_, fun G hG => ?_, xp, hl⟩
  · cases h with
    | nil => exact absurd h0 (by decide)
    | own _ _ _ => exact ⟨_, _, rfl⟩
    | new _ _ _ => exact ⟨_, _, rfl⟩
  · cases h with
    | nil => exact absurd h0 (by decide)
    | @own id _ h1 h2 h3 =>
      have := hG id (hK id h1 (List.getElem?_eq_some_iff.1 h3).1)
      rw [h3] at this
      simp [elemsOf, liveAt_some this rfl, Ob.grown, ns_len]
      exact List.take_of_length_le (by rw [ns_len]; exact Nat.le_refl _)
    | @new id _ h1 h2 h3 =>
      have := hG id (hK id h1 (List.getElem?_eq_some_iff.1 h3).1)
      rw [h3] at this
      simp [elemsOf, liveAt_some this rfl, Ob.fresh, ns_len]
      exact List.take_of_length_le (by rw [ns_len]; exact Nat.le_refl _)
theorem padL_lt (n : Nat) : ∀ y ∈ padL n, y < 256 := by
  intro y hy
  simp only [padL, List.mem_cons, List.mem_append, List.mem_replicate, List.mem_map] at hy
  rcases hy with rfl | ⟨-, rfl⟩ | ⟨i, -, rfl⟩
  · decide
  · decide
  · exact Nat.mod_lt _ (by decide)
theorem padL_len (n : Nat) : (padL n).length = 17 + padZ n := by simp [padL]; omega
theorem Rst.toK {K K' : Nat → Prop} {H : List Ob} {v : Value} {l : List Nat} (h : Rst K H v l) (hk : ∀ i, ¬ K i → ¬ K' i) : Rst K' H v l := by
  cases h with
  | nil => exact .nil
  | empty h1 h2 => exact .empty (hk _ h1) h2
  | own h1 h2 h4 h3 => exact .own (hk _ h1) h2 h4 h3
theorem z64_eq : List.replicate 64 (Value.int .u8 0) = u8s (List.replicate 64 0) := rfl
theorem copy_fill (va : Option Addr) (rl vc m : Nat) {st : List Nat} (h : st.length = 8) : fillL [Value.slice none 0 0, .int .u64 0, .int .u64 0, .int .u64 0, .int .u64 0, .int .u64 0, .int .u64 0, .int .u64 0, .int .u64 0, .int .u64 0] [(0, 2, .agg [.slice va rl vc, .int .u64 m].toArray), (2, 8, eV st)] = some (hcl (.slice va rl vc) m st) := by
  obtain ⟨a, b, c, d, e, f, g, i, rfl⟩ := eight h
  rfl
theorem sum_ev {K : Nat → Prop} {H : List Ob} {hid : Nat} {all : List Nat} (hh : Hsh K H hid all) (xa : ∀ y ∈ all, y < 256) (hn : all.length < 2 ^ 49) :
    ∃ H', evFun T 54 [.pointer (some ⟨hid, 0, none⟩)] H = some (.agg (u8s (sha all)).toArray, H', []) ∧ (∀ i, i < H.length → H'[i]? = H[i]?) ∧ H.length ≤ H'.length := by
  obtain ⟨rv, h1, h2⟩ := hh
  have hlt : hid < H.length := (List.getElem?_eq_some_iff.1 h1).1
  obtain ⟨st, hst⟩ : ∃ s, s = stK (all.length / 128) all := ⟨_, rfl⟩
  have ls : st.length = 8 := by rw [hst]; exact stK_len _ _
  rw [← hst] at h1
  -- the copy of what is left over
  obtain ⟨G, hG⟩ : ∃ G, G = H ++ [⟨u8s (List.replicate 64 0), true, true, true, 1⟩, ⟨[], true, true, true, 1⟩] := ⟨_, rfl⟩
  have hGl : G.length = H.length + 2 := by rw [hG]; simp
  have hrG : Rst K G rv (all.drop (128 * (all.length / 128))) := by rw [hG]; exact h2.app
  have heG : G[H.length + 1]? = some ⟨[], true, true, true, 1⟩ := by rw [hG, List.getElem?_append_right (by omega), Nat.add_sub_cancel_left]; rfl
  have hzG : G[H.length]? = some ⟨u8s (List.replicate 64 0), true, true, true, 1⟩ := by rw [hG, List.getElem?_append_right (by omega), Nat.sub_self]; rfl
  have hhG : G[hid]? = some (hob rv all.length st) := by rw [hG, List.getElem?_append_left hlt]; exact h1
  obtain ⟨v', l, ha, hr', hok, hc1, hc2⟩ := app_empty (K := fun i => i ≠ H.length + 1 ∧ i ≠ G.length) heG (by simp) (by simp) hrG.len hrG.elems (by rw [List.length_drop]; omega)
  -- the copy of the hash
  obtain ⟨G2, hG2⟩ : ∃ X, X = G ++ l ++ [hob v' all.length st] := ⟨_, rfl⟩
  have hG2l : G2.length = G.length + l.length + 1 := by rw [hG2]; simp; omega
  obtain ⟨xid, hxid⟩ : ∃ x, x = (G ++ l).length := ⟨_, rfl⟩
  have hxl : xid = G.length + l.length := by rw [hxid]; simp
  have hx2 : G2[xid]? = some (hob v' all.length st) := by rw [hG2, hxid, List.getElem?_append_right (Nat.le_refl _), Nat.sub_self]; rfl
  have hh2 : G2[hid]? = some (hob rv all.length st) := by
    have : hid < G.length := by omega
    rw [hG2, List.append_assoc, List.getElem?_append_left this]; exact hhG
  obtain ⟨s, l3, hp, hgr⟩ := padding_ev hh2 (by omega)
  obtain ⟨G4, hG4⟩ : ∃ X, X = G2 ++ l3 ++ [⟨[s], true, true, true, 1⟩] := ⟨_, rfl⟩
  have hG4l : G4.length = G2.length + l3.length + 1 := by rw [hG4]; simp; omega
  have hgr4 : Grown .u8 G2.length G4 s (padL all.length) := by rw [hG4]; exact hgr.app
  obtain ⟨K2, hK2⟩ : ∃ K2 : Nat → Prop, K2 = fun i => i < G4.length ∧ i ≠ xid ∧ i ≠ H.length + 1 ∧ i ≠ G.length := ⟨_, rfl⟩
  have hx4 : G4[xid]? = some (hob v' all.length st) := by rw [hG4, List.append_assoc, List.getElem?_append_left (by omega)]; exact hx2
  have hsh4 : Hsh K2 G4 xid all := by
    refine ⟨v', by rw [← hst]; exact hx4, ?_⟩
    have := (hr'.app (m := [hob v' all.length st])).app (m := l3 ++ [⟨[s], true, true, true, 1⟩])
    rw [← hG2, ← List.append_assoc, ← hG4] at this
    exact this.toK fun i hi hk => by
      rw [hK2] at hk
      exact hi ⟨hk.2.2.1, hk.2.2.2⟩
  have hpz := padZ_lt all.length
  have hpart : HPart K2 G4 s (padL all.length) := Grown.part hgr4 (fun i h1 h2 => by rw [hK2]; exact ⟨h2, by omega, by omega, by omega⟩) (padL_lt _) (by rw [padL_len]; omega) (by rw [padL_len]; omega)
  have harr : (G2 ++ l3).length < G4.length := by rw [hG4]; simp
  have hpv : PV K2 G4 (.slice (some ⟨(G2 ++ l3).length, 0, none⟩) 1 1) [s] := .inr ⟨_, 0, 1, _, rfl, by rw [hK2]; exact ⟨harr, by simp; omega, by simp; omega, by simp; omega⟩, by rw [hG4, List.getElem?_append_right (Nat.le_refl _), Nat.sub_self]; rfl, rfl, fun i _ => by rw [Nat.zero_add]⟩
  have hKx : ¬ K2 xid := by rw [hK2]; intro h; exact h.2.1 rfl
  obtain ⟨G5, M5, hw, hsh5, hf5, hl5, hM5⟩ := write_ev (fun i hi => by rw [hK2] at hi; exact hi.1) hKx hsh4 xa hpv (.cons hpart .nil) (by show 1 < 2 ^ 50; decide) (by simp [padL_len]; omega)
  rw [List.flatten_cons, List.flatten_nil, List.append_nil] at hsh5
  obtain ⟨rv5, hx5, -⟩ := hsh5
  obtain ⟨st5, hst5⟩ : ∃ s, s = stK ((all ++ padL all.length).length / 128) (all ++ padL all.length) := ⟨_, rfl⟩
  rw [← hst5] at hx5
  have ls5 : st5.length = 8 := by rw [hst5]; exact stK_len _ _
  have xs5 : ∀ y ∈ st5, y < 18446744073709551616 := by rw [hst5]; exact stK_lt _ _
  have hb5 : H.length ≤ G5.length := by omega
  have hsu := su_block (r := H.length) (base := H.length) hx5 ls5 (sha_len all) (fun i hi => by simp [sha, hi, hst5]) xs5 hb5
  have hz5 : G5[H.length]? = some ⟨u8s (List.replicate 64 0), true, true, true, 1⟩ := by
    rw [hf5 _ (by rw [hK2]; exact ⟨by omega, by omega, by omega, by omega⟩), hG4, List.append_assoc, List.getElem?_append_left (by omega), hG2, List.append_assoc, List.getElem?_append_left (by omega)]
    exact hzG
  have hfr : ∀ i, i < H.length → G5[i]? = H[i]? := fun i hi => by
    rw [hf5 _ (by rw [hK2]; exact ⟨by omega, by omega, by omega, by omega⟩), hG4, List.append_assoc, List.getElem?_append_left (by omega), hG2, List.append_assoc, List.getElem?_append_left (by omega), hG, List.getElem?_append_left hi]
  have hm5 : inMerge H.length [] M5 = [] := inMerge_ge fun i hi => by
    have := hM5 i hi
    rw [hK2] at this
    rcases Nat.lt_or_ge i H.length with h | h
    · exact absurd (show i < G4.length ∧ i ≠ xid ∧ i ≠ H.length + 1 ∧ i ≠ G.length from ⟨by omega, by omega, by omega, by omega⟩) this
    · exact h
  refine ⟨(G5 ++ [(⟨u8s (sha all), true, true, true, 1⟩ : Ob)]).set H.length (⟨u8s (sha all), true, true, true, 1⟩ : Ob), ?_, fun i hi => by rw [List.getElem?_set_ne (by omega), List.getElem?_append_left (by omega)]; exact hfr i hi, by rw [List.length_set, List.length_append]; omega⟩
  have hz := z64_eq
  have lz : (List.replicate 64 0).length = 64 := List.length_replicate
  have lsh := sha_len all
  have cst := hcl_state (rv := rv) (n := all.length) ls
  have c0 : (hcl rv all.length st)[0]? = some rv := rfl
  have c1 : (hcl rv all.length st)[1]? = some (.int .u64 all.length) := rfl
  have hcl8 : 2 + 8 ≤ (hcl rv all.length st).length := by rw [hcl_len]; omega
  obtain ⟨va, vc, rfl⟩ := hr'.shape
  generalize (all.drop (128 * (all.length / 128))).length = rl at *
  have fl1 : fillL [Value.slice none 0 0, .int .u64 0] [(0, 1, .slice va rl vc), (1, 1, .int .u64 all.length)] = some [.slice va rl vc, .int .u64 all.length] := rfl
  have fl2 := copy_fill va rl vc all.length ls
  have fls : fillL [Value.slice none 0 0] [(0, 1, s)] = some [s] := by
    obtain ⟨sa, sc, hsh⟩ := hpart.shape
    rw [hsh]; rfl
  have f0 : fillL [] [] = some [] := rfl
  have F1 : H ++ [⟨u8s (List.replicate 64 0), true, true, true, 1⟩, ⟨[], true, true, true, 1⟩] = G := hG.symm
  have Fx : G.length + l.length = xid := hxl.symm
  have F2 : G ++ (l ++ [⟨hcl (.slice va rl vc) all.length st, true, true, true, 1⟩]) = G2 := by rw [hG2, List.append_assoc]; rfl
  have F4 : G2 ++ (l3 ++ [⟨[s], true, true, true, 1⟩]) = G4 := by rw [hG4, List.append_assoc]
  have g1 : G[hid]? = some ⟨hcl rv all.length st, true, true, true, 1⟩ := hhG
  have g2 : (G ++ l)[hid]? = some ⟨hcl rv all.length st, true, true, true, 1⟩ := by rw [List.getElem?_append_left (by omega)]; exact hhG
  have g5 : ∀ o : Ob, (G5 ++ [o])[H.length]? = some ⟨u8s (List.replicate 64 0), true, true, true, 1⟩ := fun o => by rw [List.getElem?_append_left (by omega)]; exact hz5
  have g6 : ∀ o o' : Ob, ((G5 ++ [o]).set H.length o')[H.length]? = some o' := fun o o' => List.getElem?_set_self (by rw [List.length_append]; omega)
  have okcl : (hcl (.slice va rl vc) all.length st).all okVar = true := by
    show (okVar (.slice va rl vc) && (okVar (.int .u64 all.length) && (ns .u64 st).all okVar)) = true
    have : (ns .u64 st).all okVar = true := by
      rw [List.all_eq_true]; intro y hy
      simp only [ns, List.mem_map] at hy
      obtain ⟨m, -, rfl⟩ := hy; rfl
    rw [this]; rfl
  rw [List.length_append] at hw
  simp only [suI, List.cons_append, List.nil_append, Int.natCast_zero] at hsu
  have hge : H.length ≤ H.length + 1 := by omega
  generalize hcl rv all.length st = C1 at *
  generalize hcl (.slice va rl vc) all.length st = C2 at *
  generalize sha all = R at *
  generalize List.replicate 64 0 = Z64 at *
  rw [evFun_fn (fn := a214) rfl]
  simp only [a214, ↓steps_chunk, envOf, quiet, cF, ↓pF, reduceCtorEq, Nat.reduceEqDiff, Int.reduceEq, fs_callW, fs_regionQ, quiet2_eq, lastOf_nil, lastOf_cons, List.take_succ_cons, List.take_zero, List.drop_succ_cons, List.drop_zero, Int.reduceBEq, Int.reduceBNe, ↓keepW_some, ↓qElseW_some, ↓guardW_tt, ↓guardW_ff, ↓guardW_tf, ↓guardW_ft, cL, Int.reduceLE, Int.reduceLT, Int.reduceAdd, Int.reduceMul, Int.reduceSub, Int.reduceTDiv, Int.reduceTMod, Int.reduceNeg, Int.reduceToNat, Int.reduceGT, Int.reduceGE, Int.reducePow, Nat.reduceAdd, Nat.reduceMul, Nat.reduceSub, Nat.reduceDiv, Nat.reduceMod, Nat.reducePow, Nat.reduceLT, Nat.reduceLeDiff, cJ, hz, f0, F1, g1, g2, c0, c1, ha, fl1, cst, hcl8, eV_cells, eV_size, eV_ok, eV_fold, fl2, Fx, F2, hp, fls, F4, hw, hm5, hsu, g5, g6, u8s_len, lz, lsh, take_all, List.length_replicate]
theorem sum512_ev {H : List Ob} {pv : Value} {xs : List Value} {ps : List (List Nat)} (hp : PV (fun i => i < H.length) H pv xs) (hP : HParts (fun i => i < H.length) H xs ps) (hn : xs.length < 2 ^ 50) (hb : ps.flatten.length < 2 ^ 49) :
    ∃ l, evFun T 25 [pv] H = some (.agg (u8s (sha ps.flatten)).toArray, H ++ l, []) := by
  obtain ⟨H1, hH1⟩ : ∃ X, X = H ++ [⟨u8s (List.replicate 64 0), true, true, true, 1⟩, hob (.slice none 0 0) 0 sInit] := ⟨_, rfl⟩
  have hl1 : H1.length = H.length + 2 := by rw [hH1]; simp
  have hg1 : H1[H.length + 1]? = some (hob (.slice none 0 0) 0 sInit) := by rw [hH1, List.getElem?_append_right (by omega), Nat.add_sub_cancel_left]; rfl
  have hz1 : H1[H.length]? = some ⟨u8s (List.replicate 64 0), true, true, true, 1⟩ := by rw [hH1, List.getElem?_append_right (by omega), Nat.sub_self]; rfl
  have hf1 : ∀ i, i < H.length → H1[i]? = H[i]? := fun i hi => by rw [hH1, List.getElem?_append_left hi]
  have hp1 : PV (fun i => i < H.length + 1) H1 pv xs := by
    rcases hp with h | ⟨pid, off, cap, o, h1, h2, h3, h4, h5⟩
    · exact .inl h
    · exact .inr ⟨pid, off, cap, o, h1, Nat.lt_succ_of_lt h2, (hf1 _ h2).trans h3, h4, h5⟩
  have hP1 : HParts (fun i => i < H.length + 1) H1 xs ps := by
    clear hn hb hp hp1
    induction hP with
    | nil => exact .nil
    | cons a _ ih => exact .cons ⟨a.shape, fun G hG => a.reads G fun i hi => (hG i (Nat.lt_succ_of_lt hi)).trans (hf1 i hi), a.lt, a.le⟩ ih
  obtain ⟨H2, M2, hw, s2, f2, l2, m2⟩ := write_ev (K := fun i => i < H.length + 1) (hid := H.length + 1) (fun i hi => by have : i < H.length + 1 := hi; omega) (Nat.lt_irrefl _) (new_hsh hg1) (by simp) hp1 hP1 hn (by rw [List.nil_append]; omega)
  rw [List.nil_append] at s2
  obtain ⟨H3, hs3, f3, l3⟩ := sum_ev s2 hP.lt hb
  have hm2 : inMerge H.length [] M2 = [] := inMerge_ge fun i hi => by
    have : ¬ i < H.length + 1 := m2 i hi
    omega
  have g3 : H3[H.length]? = some ⟨u8s (List.replicate 64 0), true, true, true, 1⟩ := by
    rw [f3 _ (by omega), f2 _ (Nat.lt_succ_self _)]; exact hz1
  have hfr : ∀ i, i < H.length → (H3.set H.length (⟨u8s (sha ps.flatten), true, true, true, 1⟩ : Ob))[i]? = H[i]? := fun i hi => by
    rw [List.getElem?_set_ne (by omega), f3 _ (by omega), f2 _ (Nat.lt_succ_of_lt hi)]; exact hf1 i hi
  have hle : H.length ≤ (H3.set H.length (⟨u8s (sha ps.flatten), true, true, true, 1⟩ : Ob)).length := by rw [List.length_set]; omega
  obtain ⟨l, hl⟩ := ext_app hle hfr
  refine ⟨l, ?_⟩
  rw [← hl]
  have hz := z64_eq
  have lz : (List.replicate 64 0).length = 64 := List.length_replicate
  have lsh := sha_len ps.flatten
  have hnew := new_ev (H ++ [⟨u8s (List.replicate 64 0), true, true, true, 1⟩])
  have e1 : (H ++ [(⟨u8s (List.replicate 64 0), true, true, true, 1⟩ : Ob)]).length = H.length + 1 := by simp
  rw [e1, List.append_assoc, List.cons_append, List.nil_append, ← hH1] at hnew
  have g4 : ∀ o : Ob, (H3.set H.length o)[H.length]? = some o := fun o => List.getElem?_set_self (by omega)
  generalize sha ps.flatten = R at *
  generalize List.replicate 64 0 = Z64 at *
  rw [evFun_fn (fn := a211) rfl]
  simp only [a211, ↓steps_chunk, envOf, quiet, cF, ↓pF, reduceCtorEq, Nat.reduceEqDiff, Int.reduceEq, fs_callW, fs_regionQ, quiet2_eq, lastOf_nil, lastOf_cons, List.take_succ_cons, List.take_zero, List.drop_succ_cons, List.drop_zero, Int.reduceBEq, Int.reduceBNe, ↓keepW_some, ↓qElseW_some, ↓guardW_tt, ↓guardW_ff, ↓guardW_tf, ↓guardW_ft, cL, Int.reduceLE, Int.reduceLT, Int.reduceAdd, Int.reduceMul, Int.reduceSub, Int.reduceTDiv, Int.reduceTMod, Int.reduceNeg, Int.reduceToNat, Int.reduceGT, Int.reduceGE, Int.reducePow, Nat.reduceAdd, Nat.reduceMul, Nat.reduceSub, Nat.reduceDiv, Nat.reduceMod, Nat.reducePow, Nat.reduceLT, Nat.reduceLeDiff, cJ, hz, hnew, hw, hm2, hs3, g3, g4, eV_cells, eV_size, eV_ok, eV_fold, u8s_len, lz, lsh, take_all, List.length_replicate]
end Go.Ev.Ytgacigcbglflkaa
set_option linter.unusedSimpArgs false
set_option linter.unusedVariables false
namespace Go.Ev.Ytgacigcbglflkaa
open Go Go.Ev
attribute [local congr] bind_congr2 ite_congr2 qElse_congr gate_congr guardV_congr
set_option maxRecDepth 100000
theorem padd_pzero (p : Go.Cv.Pt Go.Fp.P Go.Fp.d) : padd p pzero = p := Go.Cv.add_zero Go.Fp.fld p
theorem padd_neg (p : Go.Cv.Pt Go.Fp.P Go.Fp.d) : padd p p.neg = pzero := Go.Cv.add_neg Go.Fp.fld p
theorem pmul_add (a b : Nat) (p : Go.Cv.Pt Go.Fp.P Go.Fp.d) : pmul (a + b) p = padd (pmul a p) (pmul b p) := Go.Cv.mul_add Go.Fp.fld a b p
theorem pmul_mul (a b : Nat) (p : Go.Cv.Pt Go.Fp.P Go.Fp.d) : pmul (a * b) p = pmul a (pmul b p) := Go.Cv.mul_mul Go.Fp.fld a b p
theorem pmul_mod {l : Nat} {p : Go.Cv.Pt Go.Fp.P Go.Fp.d} (hl : pmul l p = pzero) (k : Nat) : pmul (k % l) p = pmul k p := Go.Cv.mul_mod Go.Fp.fld hl k
theorem pmul_zero (k : Nat) : pmul k pzero = pzero := Go.Cv.mul_zero Go.Fp.fld k
end Go.Ev.Ytgacigcbglflkaa

/-
  Numbers: primes, Fermat's little theorem, how a prime is told. No program.
-/
set_option linter.unusedSimpArgs false
set_option linter.unusedVariables false
namespace Go.NT
def Pr (p : Nat) : Prop := 2 ≤ p ∧ ∀ m, m ∣ p → m = 1 ∨ m = p

theorem Pr.coprime {p a : Nat} (hp : Pr p) (h : ¬ p ∣ a) : Nat.Coprime p a := by
  rcases hp.2 (Nat.gcd p a) (Nat.gcd_dvd_left p a) with h1 | h1
  · exact h1
  · exact absurd (h1 ▸ Nat.gcd_dvd_right p a) h
theorem Pr.dvd_mul {p a b : Nat} (hp : Pr p) (h : p ∣ a * b) : p ∣ a ∨ p ∣ b := by
  by_cases ha : p ∣ a
  · exact .inl ha
  · exact .inr ((hp.coprime ha).dvd_of_dvd_mul_left h)

def prodL : List Nat → Nat
  | [] => 1
  | x :: r => x * prodL r
theorem prodL_perm {l l' : List Nat} (h : l.Perm l') : prodL l = prodL l' := by
  induction h with
  | nil => rfl
  | cons x _ ih => simp only [prodL, ih]
  | swap x y l => simp only [prodL, Nat.mul_left_comm]
  | trans _ _ h1 h2 => rw [h1, h2]
theorem perm_of : ∀ {l1 l2 : List Nat}, l1.Nodup → (∀ x ∈ l1, x ∈ l2) → l2.length ≤ l1.length → l1.Perm l2
  | [], l2, _, _, hl => by
    have : l2 = [] := by cases l2 with | nil => rfl | cons _ _ => simp at hl
    subst this; exact .nil
  | a :: t, l2, hn, hs, hl => by
    have ha := hs a (by simp)
    have hp := List.perm_cons_erase ha
    have hlen := hp.length_eq
    rw [List.nodup_cons] at hn
    refine (List.Perm.cons a (perm_of hn.2 (fun x hx => ?_) ?_)).trans hp.symm
    · have hxa : x ≠ a := fun h => hn.1 (h ▸ hx)
      exact (List.mem_erase_of_ne hxa).2 (hs x (by simp [hx]))
    · simp only [List.length_cons] at hl hlen ⊢
      omega
theorem prodL_map (a p : Nat) : ∀ l : List Nat, prodL (l.map fun x => a * x % p) % p = a ^ l.length * prodL l % p
  | [] => by simp [prodL]
  | x :: r => by
    have h1 := prodL_map a p r
    simp only [List.map_cons, prodL, List.length_cons, Nat.pow_succ]
    rw [Nat.mul_mod, h1, Nat.mod_mod, ← Nat.mul_mod]
    congr 1
    simp only [Nat.mul_assoc, Nat.mul_left_comm, Nat.mul_comm]

theorem prodL_ndvd {p : Nat} (hp : Pr p) : ∀ {l : List Nat}, (∀ x ∈ l, ¬ p ∣ x) → ¬ p ∣ prodL l
  | [], _ => fun h => by
    have := Nat.le_of_dvd (by decide : 0 < 1) h
    have := hp.1
    omega
  | x :: r, h => fun hd => by
    rcases hp.dvd_mul hd with h1 | h1
    · exact h x (by simp) h1
    · exact prodL_ndvd hp (fun y hy => h y (by simp [hy])) h1

/-- Fermat's little theorem. -/
theorem fermat {p a : Nat} (hp : Pr p) (ha : ¬ p ∣ a) : a ^ (p - 1) % p = 1 := by
  have h2 := hp.1
  have hnd : ((List.range' 1 (p - 1)).map fun x => a * x % p).Nodup := by
    rw [List.nodup_iff_pairwise_ne, List.pairwise_map]
    refine List.Pairwise.imp_of_mem ?_ (List.pairwise_lt_range' (s := 1) (n := p - 1))
    intro x y hx hy hxy he
    simp only [List.mem_range'_1] at hx hy
    have h3 : (a * y - a * x) % p = 0 := Nat.sub_mod_eq_zero_of_mod_eq he.symm
    rw [← Nat.mul_sub] at h3
    rcases hp.dvd_mul (Nat.dvd_of_mod_eq_zero h3) with h4 | h4
    · exact ha h4
    · have := Nat.le_of_dvd (by omega) h4
      omega
  have hmem : ∀ x ∈ (List.range' 1 (p - 1)).map (fun x => a * x % p), x ∈ List.range' 1 (p - 1) := by
    intro x hx
    simp only [List.mem_map, List.mem_range'_1] at hx ⊢
    obtain ⟨y, hy, rfl⟩ := hx
    have h3 : a * y % p < p := Nat.mod_lt _ (by omega)
    have h4 : a * y % p ≠ 0 := fun h => by
      rcases hp.dvd_mul (Nat.dvd_of_mod_eq_zero h) with h4 | h4
      · exact ha h4
      · have := Nat.le_of_dvd (by omega) h4
        omega
    omega
  have hperm := prodL_perm (perm_of hnd hmem (by simp))
  have h5 := prodL_map a p (List.range' 1 (p - 1))
  rw [hperm, List.length_range'] at h5
  have h6 : ¬ p ∣ prodL (List.range' 1 (p - 1)) := prodL_ndvd hp fun x hx hd => by
    simp only [List.mem_range'_1] at hx
    have := Nat.le_of_dvd (by omega) hd
    omega
  have h7 : (a ^ (p - 1) * prodL (List.range' 1 (p - 1)) - 1 * prodL (List.range' 1 (p - 1))) % p = 0 := Nat.sub_mod_eq_zero_of_mod_eq (by rw [← h5, Nat.one_mul])
  rw [← Nat.sub_mul] at h7
  have ha0 : 0 < a := Nat.pos_of_ne_zero fun h => ha (h ▸ Nat.dvd_zero p)
  have h8 : 0 < a ^ (p - 1) := Nat.pow_pos ha0
  rcases hp.dvd_mul (Nat.dvd_of_mod_eq_zero h7) with h9 | h9
  · obtain ⟨k, hk⟩ := h9
    have : a ^ (p - 1) = p * k + 1 := by omega
    rw [this, Nat.mul_add_mod, Nat.mod_eq_of_lt (by omega)]
  · exact absurd h9 h6

/-- A number that isn't a prime has a prime that divides it, whose square isn't above it. -/
theorem has_prime {n : Nat} (hn : 2 ≤ n) : ∃ r, Pr r ∧ r ∣ n ∧ (Pr n ∨ r * r ≤ n) := by
  have ex : ∃ r, 2 ≤ r ∧ r ∣ n ∧ ∀ m, 2 ≤ m → m ∣ n → r ≤ m := by
    have key : ∀ k, (∃ r, 2 ≤ r ∧ r ∣ n ∧ r ≤ k) → ∃ r, 2 ≤ r ∧ r ∣ n ∧ ∀ m, 2 ≤ m → m ∣ n → r ≤ m := by
      intro k
      induction k with
      | zero => rintro ⟨r, h1, _, h3⟩; omega
      | succ k ih =>
        rintro ⟨r, h1, h2, h3⟩
        by_cases h : ∃ r, 2 ≤ r ∧ r ∣ n ∧ r ≤ k
        · exact ih h
        · refine ⟨r, h1, h2, fun m hm hmd => ?_⟩
          rcases Nat.lt_or_ge k m with h4 | h4
          · omega
          · exact absurd ⟨m, hm, hmd, h4⟩ h
    exact key n ⟨n, hn, Nat.dvd_refl n, Nat.le_refl n⟩
  obtain ⟨r, h1, h2, h3⟩ := ex
  have hr : Pr r := ⟨h1, fun m hm => by
    have hm0 : 0 < m := Nat.pos_of_dvd_of_pos hm (by omega)
    rcases Nat.lt_or_ge m 2 with h | h
    · left; omega
    · have := h3 m h (Nat.dvd_trans hm h2)
      have := Nat.le_of_dvd (by omega) hm
      right; omega⟩
  refine ⟨r, hr, h2, ?_⟩
  obtain ⟨k, rfl⟩ := h2
  rcases Nat.lt_or_ge k 2 with h | h
  · have : k = 1 := by
      rcases Nat.eq_zero_or_pos k with h0 | h0
      · subst h0; omega
      · omega
    subst this
    rw [Nat.mul_one]; exact .inl hr
  · exact .inr (Nat.mul_le_mul_left r (h3 k h (Nat.dvd_mul_left k r)))

/-- Powers, fast: so many halvings at most. -/
def pw (m a : Nat) : Nat → Nat → Nat
  | 0, _ => 1 % m
  | f + 1, e => if e % 2 = 1 then (pw m a f (e / 2)) * (pw m a f (e / 2)) % m * a % m else (pw m a f (e / 2)) * (pw m a f (e / 2)) % m
theorem pw_eq (m a : Nat) : ∀ (f e : Nat), e < 2 ^ f → pw m a f e = a ^ e % m
  | 0, e, h => by
    have : e = 0 := by simpa using h
    subst this; rfl
  | f + 1, e, h => by
    have ih := pw_eq m a f (e / 2) (by rw [Nat.pow_succ] at h; omega)
    have hs : a ^ (e / 2) % m * (a ^ (e / 2) % m) % m = a ^ (2 * (e / 2)) % m := by
      rw [← Nat.mul_mod, ← Nat.pow_add]; congr 2; omega
    unfold pw
    rw [ih]
    by_cases he : e % 2 = 1
    · rw [if_pos he, hs, Nat.mod_mul_mod, ← Nat.pow_succ]
      congr 2; omega
    · rw [if_neg he, hs]
      congr 2; omega
/-- The same, written so that the kernel shares what it has found. -/
def pwf (m a : Nat) : Nat → Nat → Nat
  | 0, _ => 1 % m
  | f + 1, e => (fun r => if e % 2 = 1 then r * r % m * a % m else r * r % m) (pwf m a f (e / 2))

theorem pow_gcd {r : Nat} (hr : 2 ≤ r) (b x y : Nat) : b ^ x % r = 1 → b ^ y % r = 1 → b ^ (Nat.gcd x y) % r = 1 := by
  induction x, y using Nat.gcd.induction with
  | H0 y => intro _ h; rwa [Nat.gcd_zero_left]
  | H1 x y hx ih =>
    intro h1 h2
    rw [Nat.gcd_rec]
    refine ih ?_ h1
    have h3 : b ^ (x * (y / x) + y % x) % r = 1 := by rw [Nat.div_add_mod]; exact h2
    rw [Nat.pow_add, Nat.pow_mul, Nat.mul_mod, Nat.pow_mod (b ^ x), h1, Nat.one_pow, Nat.mod_eq_of_lt (a := 1) (by omega), Nat.one_mul, Nat.mod_mod] at h3
    exact h3

/-- Pocklington: a prime that divides n - 1 divides r - 1 for each prime r of n, if some power says so. -/
theorem pock {n q k a r : Nat} (hq : Pr q) (hk : n = q * k + 1) (h1 : a ^ (q * k) % n = 1) (h2 : Nat.gcd (a ^ k % n + n - 1) n = 1) (hr : Pr r) (hrn : r ∣ n) : q ∣ r - 1 := by
  have hr2 := hr.1
  have hn0 : 0 < n := by omega
  have hn2 : r ≤ n := Nat.le_of_dvd hn0 hrn
  have hmodr : ∀ x, x % n % r = x % r := fun x => Nat.mod_mod_of_dvd x hrn
  have hb1 : a ^ (q * k) % r = 1 := by rw [← hmodr, h1, Nat.mod_eq_of_lt (by omega)]
  have hra : ¬ r ∣ a := fun h => by
    have hqk : 0 < q * k := by
      rcases Nat.eq_zero_or_pos (q * k) with h0 | h0
      · omega
      · exact h0
    have : r ∣ a ^ (q * k) := by
      obtain ⟨m, hm⟩ : ∃ m, q * k = m + 1 := ⟨q * k - 1, by omega⟩
      rw [hm, Nat.pow_succ]
      exact Nat.dvd_trans h (Nat.dvd_mul_left a _)
    have := Nat.mod_eq_zero_of_dvd this
    omega
  have hf := fermat hr hra
  by_cases hqd : q ∣ r - 1
  · exact hqd
  · exfalso
    have hc := hq.coprime hqd
    -- a^(k*q) = 1, a^(k*(r-1)) = 1, q and r - 1 are coprime: a^k = 1
    have hpow : ∀ x : Nat, ∀ c, c % r = 1 → c ^ x % r = 1 := fun x c hcx => by rw [Nat.pow_mod, hcx, Nat.one_pow, Nat.mod_eq_of_lt (by omega)]
    have hk1 : (a ^ k) ^ q % r = 1 := by rw [← Nat.pow_mul, Nat.mul_comm k q]; exact hb1
    have hk2 : (a ^ k) ^ (r - 1) % r = 1 := by rw [← Nat.pow_mul, Nat.mul_comm k, Nat.pow_mul]; exact hpow k _ hf
    have hak : a ^ k % r = 1 := by
      have := pow_gcd hr2 (a ^ k) q (r - 1) hk1 hk2
      rwa [hc, Nat.pow_one] at this
    have hdvd : r ∣ a ^ k % n + n - 1 := by
      have e3 : a ^ k % n % r = 1 := by rw [hmodr]; exact hak
      have e4 : 1 ≤ a ^ k % n := by
        rcases Nat.eq_zero_or_pos (a ^ k % n) with h0 | h0
        · rw [h0, Nat.zero_mod] at e3; omega
        · exact h0
      have e5 : r ∣ a ^ k % n - 1 := by
        apply Nat.dvd_of_mod_eq_zero
        exact Nat.sub_mod_eq_zero_of_mod_eq (by rw [e3, Nat.mod_eq_of_lt (by omega)])
      rw [show a ^ k % n + n - 1 = (a ^ k % n - 1) + n by omega]
      exact Nat.dvd_add e5 hrn
    have := Nat.dvd_gcd hdvd hrn
    rw [h2] at this
    have := Nat.le_of_dvd (by decide) this
    omega

/-- A prime, told by one prime of n - 1 whose square is above n. -/
theorem pock_one {n q k a : Nat} (hn : 2 ≤ n) (hq : Pr q) (hk : n = q * k + 1) (hbig : n < q * q) (h1 : a ^ (q * k) % n = 1) (h2 : Nat.gcd (a ^ k % n + n - 1) n = 1) : Pr n := by
  obtain ⟨r, hr, hrn, h | h⟩ := has_prime hn
  · exact h
  · have h3 := pock hq hk h1 h2 hr hrn
    have := hr.1
    have h4 := Nat.le_of_dvd (by omega) h3
    have : q * q ≤ r * r := Nat.mul_le_mul (by omega) (by omega)
    omega
/-- By two. -/
theorem pock_two {n q k a q' k' a' : Nat} (hn : 2 ≤ n) (hq : Pr q) (hk : n = q * k + 1) (hq' : Pr q') (hk' : n = q' * k' + 1) (hne : q ≠ q') (hbig : n < (q * q') * (q * q')) (h1 : a ^ (q * k) % n = 1) (h2 : Nat.gcd (a ^ k % n + n - 1) n = 1)
    (h1' : a' ^ (q' * k') % n = 1) (h2' : Nat.gcd (a' ^ k' % n + n - 1) n = 1) : Pr n := by
  obtain ⟨r, hr, hrn, h | h⟩ := has_prime hn
  · exact h
  · have h3 := pock hq hk h1 h2 hr hrn
    have h3' := pock hq' hk' h1' h2' hr hrn
    have hc : Nat.Coprime q q' := hq.coprime fun hd => by
      rcases hq'.2 q hd with h | h
      · have := hq.1; omega
      · exact hne h
    have h5 := hc.mul_dvd_of_dvd_of_dvd h3 h3'
    have := hr.1
    have h4 := Nat.le_of_dvd (by omega) h5
    have : (q * q') * (q * q') ≤ r * r := Nat.mul_le_mul (by omega) (by omega)
    omega
/-- Small ones, by trying all. -/
def noDiv (n : Nat) : Nat → Nat → Bool
  | 0, _ => true
  | f + 1, m => (n % m != 0) && noDiv n f (m + 1)
theorem noDiv_spec {n : Nat} : ∀ (f m : Nat), noDiv n f m = true → ∀ x, m ≤ x → x < m + f → n % x ≠ 0
  | 0, m, _, x, h1, h2 => by omega
  | f + 1, m, h, x, h1, h2 => by
    simp only [noDiv, Bool.and_eq_true, bne_iff_ne] at h
    rcases Nat.eq_or_lt_of_le h1 with h3 | h3
    · subst h3; exact h.1
    · exact noDiv_spec f (m + 1) h.2 x h3 (by omega)
theorem small_prime {n f : Nat} (hn : 2 ≤ n) (hf : n < (f + 2) * (f + 2)) (h : noDiv n f 2 = true) : Pr n := by
  obtain ⟨r, hr, hrn, h1 | h1⟩ := has_prime hn
  · exact h1
  · have hr2 := hr.1
    have : r < 2 + f := by
      rcases Nat.lt_or_ge r (2 + f) with h2 | h2
      · exact h2
      · have : (f + 2) * (f + 2) ≤ r * r := Nat.mul_le_mul (by omega) (by omega)
        omega
    exact absurd (Nat.mod_eq_zero_of_dvd hrn) (noDiv_spec f 2 h r hr2 this)
end Go.NT

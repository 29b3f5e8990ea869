/-
  Comparing rows of plain cells.
-/
import Derived.Test.YtaceeoghjgggjaaEvSlice
import Derived.ChangeKeysEq
set_option linter.unusedSimpArgs false
set_option linter.unusedVariables false
namespace Go.Ev
open Go.RowKit

theorem cellsEq_append {ks ls : List Bool} {a b c d : List Value} (h : a.length = ks.length) (h' : c.length = ks.length) : cellsEq (ks ++ ls) (a ++ b) (c ++ d) = (cellsEq ks a c).bind fun r => (cellsEq ls b d).bind fun s => some (r && s) := by
  induction ks generalizing a c with
  | nil =>
    cases a with
    | nil => cases c with
      | nil => simp only [List.nil_append, cellsEq, Option.bind_some, Bool.true_and]; cases cellsEq ls b d <;> rfl
      | cons _ _ => simp at h'
    | cons _ _ => simp at h
  | cons k ks ih => cases a with
    | nil => simp at h
    | cons x a => cases c with
      | nil => simp at h'
      | cons y c =>
        simp only [List.cons_append, cellsEq, ih (by simpa using h) (by simpa using h')]
        cases cellEq k x y with
        | none => rfl
        | some r =>
          simp only [Option.bind_some]
          cases cellsEq ks a c with
          | none => rfl
          | some s =>
            simp only [Option.bind_some]
            cases cellsEq ls b d with
            | none => rfl
            | some u => simp [Bool.and_assoc]

theorem cellsEq_len : ∀ {ks : List Bool} {a c : List Value} {r : Bool}, cellsEq ks a c = some r → a.length = ks.length ∧ c.length = ks.length
  | [], [], [], _, _ => by simp
  | [], _ :: _, [], _, h => by simp [cellsEq] at h
  | [], _, _ :: _, _, h => by simp [cellsEq] at h
  | _ :: _, [], _, _, h => by simp [cellsEq] at h
  | _ :: _, _ :: _, [], _, h => by simp [cellsEq] at h
  | k :: ks, x :: a, y :: c, r, h => by
    simp only [cellsEq, Option.bind_eq_some_iff] at h
    obtain ⟨_, _, s, hs, _⟩ := h
    have := cellsEq_len hs
    simp [this.1, this.2]

theorem cellEq_scalar {k : Bool} {x y : Value} {r : Bool} (h : cellEq k x y = some r) : scalarRf x = true ∧ scalarRf y = true := by
  unfold cellEq at h; split at h <;> first | exact ⟨rfl, rfl⟩ | cases h

theorem cellsEq_scalars : ∀ {ks : List Bool} {a c : List Value} {r : Bool}, cellsEq ks a c = some r → a.all scalarRf = true ∧ c.all scalarRf = true
  | [], [], [], _, _ => by simp
  | [], _ :: _, [], _, h => by simp [cellsEq] at h
  | [], _, _ :: _, _, h => by simp [cellsEq] at h
  | _ :: _, [], _, _, h => by simp [cellsEq] at h
  | _ :: _, _ :: _, [], _, h => by simp [cellsEq] at h
  | k :: ks, x :: a, y :: c, r, h => by
    simp only [cellsEq, Option.bind_eq_some_iff] at h
    obtain ⟨_, h1, s, hs, _⟩ := h
    have := cellsEq_scalars hs
    have h2 := cellEq_scalar h1
    simp only [List.all_cons, h2.1, h2.2, this.1, this.2, Bool.and_self, and_self]

/-- A chunk of a row. -/
def chunk (xs : Array Value) (off s : Nat) : List Value := (xs.toList.drop off).take s
theorem chunk_add (xs : Array Value) (off s u : Nat) : chunk xs off (s + u) = chunk xs off s ++ chunk xs (off + s) u := by
  simp only [chunk, List.take_add, List.drop_drop]
theorem chunk_len {xs : Array Value} {off s : Nat} (h : off + s ≤ xs.size) : (chunk xs off s).length = s := by
  simp [chunk]; omega
theorem chunk_one {xs : Array Value} {off : Nat} (h : off + 1 ≤ xs.size) : ∃ c, chunk xs off 1 = [c] ∧ xs[off]? = some c := by
  have hlt : off < xs.toList.length := by simpa using (by omega : off < xs.size)
  refine ⟨xs.toList[off], ?_, ?_⟩
  · simp only [chunk]
    rw [List.drop_eq_getElem_cons hlt]; simp
  · rw [Array.getElem?_eq_getElem (by omega)]; rfl

section
variable {P : Program}

theorem cellsOf_size {t : TypeId} {n : Nat} (h : sizeT P t = some n) : P.cellsOf t = n ∧ ∃ i, P.info? t = some i := by
  simp only [sizeT, Option.map_eq_some_iff] at h
  obtain ⟨i, hi, rfl⟩ := h
  exact ⟨by simp [Program.cellsOf, hi], i, hi⟩

def EqAt (P : Program) (D : Nat) (t : TypeId) (ks : List Bool) : Prop := ∀ (w : World) (xs ys : Array Value) (off : Nat) (b : Bool), off + ks.length ≤ xs.size → off + ks.length ≤ ys.size →
  cellsEq ks (chunk xs off ks.length) (chunk ys off ks.length) = some b →
  ∃ u u', (part t xs off).run P w = .ok u w ∧ (part t ys off).run P w = .ok u' w ∧ (Op.equalIn D t u u').run P w = .ok b w

theorem eqItems_ok {D : Nat} {e : TypeId} {ks : List Bool} (h : EqAt P D e ks) (w : World) (xs ys : Array Value) : ∀ (n k : Nat) (b : Bool), k * ks.length + n * ks.length ≤ xs.size → k * ks.length + n * ks.length ≤ ys.size →
    cellsEq (List.replicate n ks).flatten (chunk xs (k * ks.length) (n * ks.length)) (chunk ys (k * ks.length) (n * ks.length)) = some b → (Op.eqItems D e ks.length xs ys (List.range' k n)).run P w = .ok b w
  | 0, k, b, _, _, hc => by simp [chunk, cellsEq] at hc; subst hc; simp [Op.eqItems]
  | n + 1, k, b, h1, h2, hc => by
    rw [Nat.add_mul, Nat.one_mul, Nat.add_comm (n * ks.length) ks.length] at h1 h2 hc
    rw [chunk_add, chunk_add, List.replicate_succ, List.flatten_cons, cellsEq_append (by rw [chunk_len (by omega)]) (by rw [chunk_len (by omega)])] at hc
    simp only [Option.bind_eq_some_iff, Option.some.injEq] at hc
    obtain ⟨r, hr, r', hr', rfl⟩ := hc
    obtain ⟨u, u', p1, p2, p3⟩ := h w xs ys (k * ks.length) r (by omega) (by omega) hr
    have hk : k * ks.length + ks.length = (k + 1) * ks.length := by rw [Nat.add_mul, Nat.one_mul]
    rw [hk] at hr'
    have ih := eqItems_ok h w xs ys n (k + 1) r' (by omega) (by omega) hr'
    simp only [List.range'_succ, Op.eqItems, Sem.run_bind, p1, p2, p3, Result.andThen_ok]
    cases r
    · simp
    · simpa using ih

theorem eqFields_ok {D : Nat} {pe : TypeId → Option (List Bool)} (h : ∀ t ks, pe t = some ks → EqAt P D t ks) (w : World) (xs ys : Array Value) : ∀ (fs : List Field) (off : Nat) (ks : List Bool) (b : Bool), fieldKinds P pe off fs = some ks →
    off + ks.length ≤ xs.size → off + ks.length ≤ ys.size → cellsEq ks (chunk xs off ks.length) (chunk ys off ks.length) = some b → (Op.eqFields D xs ys fs).run P w = .ok b w
  | [], off, ks, b, hp, _, _, hc => by
    simp only [fieldKinds, Option.some.injEq] at hp
    subst hp
    simp [chunk, cellsEq] at hc; subst hc
    simp [Op.eqFields]
  | f :: fs, off, ks, b, hp, h1, h2, hc => by
    simp only [fieldKinds] at hp
    split at hp
    · rename_i hf
      obtain ⟨rfl, hn⟩ := hf
      simp only [Option.bind_eq_some_iff, Option.map_eq_some_iff] at hp
      obtain ⟨ks1, hs, ks2, hp, rfl⟩ := hp
      rw [List.length_append] at h1 h2 hc
      rw [chunk_add, chunk_add, cellsEq_append (by rw [chunk_len (by omega)]) (by rw [chunk_len (by omega)])] at hc
      simp only [Option.bind_eq_some_iff, Option.some.injEq] at hc
      obtain ⟨r, hr, r', hr', rfl⟩ := hc
      obtain ⟨u, u', p1, p2, p3⟩ := h f.type ks1 hs w xs ys f.offset r (by omega) (by omega) hr
      have ih := eqFields_ok h w xs ys fs (f.offset + ks1.length) ks2 r' hp (by omega) (by omega) hr'
      simp only [Op.eqFields, hn, ne_eq, not_false_eq_true, if_true, Sem.run_bind, p1, p2, p3, Result.andThen_ok]
      cases r
      · simp
      · simpa using ih
    · cases hp

theorem part_agg {t : TypeId} {s : Nat} {d : TypeDesc} (hu : P.underlying t = some d) (hd : (∃ fs, d = .struct fs) ∨ (∃ n e, d = .array n e)) (hs : sizeT P t = some s) {xs : Array Value} {off : Nat} (h : off + s ≤ xs.size) (w : World) :
    (part t xs off).run P w = .ok (.agg (chunk xs off s).toArray) w := by
  have ha : aggT P t = some (some s) := by
    unfold aggT
    rcases hd with ⟨fs, rfl⟩ | ⟨n, e, rfl⟩ <;> simp [hu, hs]
  exact run_part ha (by simp [partL, chunk, h]) w

theorem chunk_chunk {xs : Array Value} {off s o' u : Nat} (h : o' + u ≤ s) : chunk (chunk xs off s).toArray o' u = chunk xs (off + o') u := by
  simp only [chunk]
  rw [List.drop_take, List.take_take, List.drop_drop]
  congr 1; omega

theorem flatten_len {n : Nat} {ks : List Bool} : (List.replicate n ks).flatten.length = n * ks.length := by simp

theorem kindsT_size {d : Nat} {t : TypeId} {ks : List Bool} (h : kindsT P d t = some ks) : sizeT P t = some ks.length := by
  cases d with
  | zero => simp [kindsT] at h
  | succ d =>
    unfold kindsT at h
    simp only [Option.bind_eq_some_iff] at h
    obtain ⟨ks', _, h⟩ := h
    split at h
    · cases h; assumption
    · cases h

theorem eqAt_plain : ∀ (d : Nat) (t : TypeId) (ks : List Bool), kindsT P d t = some ks → ∀ D, d ≤ D → EqAt P D t ks
  | 0, t, ks, h, _, _ => by simp [kindsT] at h
  | d + 1, t, ks, h, 0, hD => by omega
  | d + 1, t, ks, h, D + 1, hD => by
    intro w xs ys off b h1 h2 hc
    have hs := kindsT_size h
    unfold kindsT at h
    simp only [Option.bind_eq_some_iff] at h
    obtain ⟨ks', h, h'⟩ := h
    have h'' : ks' = ks := by
      split at h'
      · cases h'; rfl
      · cases h'
    subst h''
    clear h'
    split at h
    · rename_i k hu
      cases h
      obtain ⟨c, e1, e2⟩ := chunk_one h1
      obtain ⟨c', e3, e4⟩ := chunk_one h2
      have ha : aggT P t = some none := by simp [aggT, hu]
      refine ⟨c, c', run_part ha (by simpa [partL] using e2) w, run_part ha (by simpa [partL] using e4) w, ?_⟩
      simp only [List.length_singleton] at hc
      rw [e1, e3] at hc
      simp only [cellsEq, Option.bind_eq_some_iff, Option.some.injEq] at hc
      obtain ⟨r, hr, r', rfl, rfl⟩ := hc
      unfold cellEq at hr
      split at hr
      · split at hr
        · rename_i hk; subst hk; cases hr; simp [run_equalIn_int w D t _ k _ _ hu]
        · cases hr
      · simp_all
      · cases hr
    · rename_i hu
      cases h
      obtain ⟨c, e1, e2⟩ := chunk_one h1
      obtain ⟨c', e3, e4⟩ := chunk_one h2
      have ha : aggT P t = some none := by simp [aggT, hu]
      refine ⟨c, c', run_part ha (by simpa [partL] using e2) w, run_part ha (by simpa [partL] using e4) w, ?_⟩
      simp only [List.length_singleton] at hc
      rw [e1, e3] at hc
      simp only [cellsEq, Option.bind_eq_some_iff, Option.some.injEq] at hc
      obtain ⟨r, hr, r', rfl, rfl⟩ := hc
      unfold cellEq at hr
      split at hr
      · simp_all
      · cases hr; simp [run_equalIn_bool w D t _ _ hu]
      · cases hr
    · rename_i n e hu
      simp only [Option.map_eq_some_iff] at h
      obtain ⟨ks1, hk1, rfl⟩ := h
      have hs1 := kindsT_size hk1
      rw [flatten_len] at h1 h2 hs hc
      have ih := eqAt_plain d e ks1 hk1 D (by omega)
      refine ⟨_, _, part_agg hu (.inr ⟨n, e, rfl⟩) hs h1 w, part_agg hu (.inr ⟨n, e, rfl⟩) hs h2 w, ?_⟩
      obtain ⟨hc1, i, hi⟩ := cellsOf_size hs1
      rw [run_equalIn_array w D _ _ hu hi, hc1, List.range_eq_range']
      refine eqItems_ok ih w _ _ n 0 b ?_ ?_ ?_
      · simp [chunk_len h1]
      · simp [chunk_len h2]
      · simp only [Nat.zero_mul]
        rw [chunk_chunk (by omega), chunk_chunk (by omega)]
        exact hc
    · rename_i fs hu
      split at h
      · cases h
      rename_i hst
      have ih : ∀ t ks, kindsT P d t = some ks → EqAt P D t ks := fun t ks h1 => eqAt_plain d t ks h1 D (by omega)
      refine ⟨_, _, part_agg hu (.inl ⟨fs, rfl⟩) hs h1 w, part_agg hu (.inl ⟨fs, rfl⟩) hs h2 w, ?_⟩
      have hff : P.fieldsOf t = fs := by simp [Program.fieldsOf, hu]
      rw [run_equalIn_struct w D t _ _ (by rw [hff]; exact hu) (by simpa using hst), hff]
      refine eqFields_ok ih w _ _ fs.toList 0 _ b h ?_ ?_ ?_
      · simp [chunk_len h1]
      · simp [chunk_len h2]
      · rw [chunk_chunk (by omega), chunk_chunk (by omega)]
        exact hc
    · cases h

variable {o : Oper} {e : Env} {H H' : List Ob} {v : Value} {t : Option (List Nat)} {M : List Nat}

theorem ok_eqv {op : BinOp} {x y : Operand} {ty yt : TypeId} {ks : List Bool} {d : TypeDesc} (hop : op = .eql ∨ op = .neq) (hu : P.underlying ty = some d) (hd : (∃ fs, d = .struct fs) ∨ (∃ n e, d = .array n e)) (hk : kindsT P 20 ty = some ks)
    (hg : P.eqGuardType P.depth ty = false) (ho : o.op = .binOp op ty x y yt) (hr : simpleOp H e (.eqv (some ks) (op == .neq) x y) = some (v, H', t, M)) : OpOk P o e H v H' := by
  obtain ⟨h1, rfl, _, _⟩ := pureV_inv hr
  simp only [Option.bind_eq_some_iff] at h1
  obtain ⟨xv, hxv, yv, hyv, b, hb, h1⟩ := h1
  cases h1
  refine .pure fun ρ a w hx _ => ?_
  rw [ho] at hx
  have hx' := hx x (by simp [Op.operands]) xv hxv
  have hy' := hx y (by simp [Op.operands]) yv hyv
  split at hb
  · rename_i ks' p q heq
    cases heq
    obtain ⟨hl1, hl2⟩ := cellsEq_len hb
    have hsc := cellsEq_scalars hb
    have ex : a.eval x = .agg p := hx'.of_rf (by rw [rf_agg]; exact hsc.1)
    have ey : a.eval y = .agg q := hy'.of_rf (by rw [rf_agg]; exact hsc.2)
    have hs := kindsT_size hk
    have hsz1 : 0 + ks.length ≤ p.size := by simp [← hl1]
    have hsz2 : 0 + ks.length ≤ q.size := by simp [← hl2]
    have c1 : chunk p 0 ks.length = p.toList := by rw [← hl1]; simp only [chunk, List.drop_zero, List.take_length]
    have c2 : chunk q 0 ks.length = q.toList := by rw [← hl2]; simp only [chunk, List.drop_zero, List.take_length]
    obtain ⟨u, u', p1, p2, p3⟩ := eqAt_plain 20 ty ks hk Op.maxDepth (by simp [Op.maxDepth]) w p q 0 b hsz1 hsz2 (by rw [c1, c2]; exact hb)
    have e1 := part_agg hu hd hs hsz1 w
    have e2 := part_agg hu hd hs hsz2 w
    rw [c1] at e1; rw [c2] at e2
    rw [e1] at p1; rw [e2] at p2
    cases p1; cases p2
    have p4 : (Op.equal ty (.agg p) (.agg q)).run P w = .ok b w := by simpa [Op.equal] using p3
    refine ⟨_, ?_, .same rfl⟩
    have hgd : (eqGuard op ty x y (.agg p) (.agg q)).run P w = .ok () w := by
      rcases hop with rfl | rfl <;> simp [eqGuard, hg]
    rcases hop with rfl | rfl
    · simp only [execOp, ho, ex, ey, Sem.run_bind, hgd, Result.andThen_ok, binOp, p4, Sem.run_pure]; rfl
    · simp only [execOp, ho, ex, ey, Sem.run_bind, hgd, Result.andThen_ok, binOp, p4, Sem.run_pure]; rfl
  · rename_i heq; cases heq
  · cases hb

theorem ok_eqb {op : BinOp} {x y : Operand} {ty yt : TypeId} (hop : op = .eql ∨ op = .neq) (hu : P.underlying ty = some .bool) (ho : o.op = .binOp op ty x y yt)
    (hr : simpleOp H e (.eqv none (op == .neq) x y) = some (v, H', t, M)) : OpOk P o e H v H' := by
  obtain ⟨h1, rfl, _, _⟩ := pureV_inv hr
  simp only [Option.bind_eq_some_iff] at h1
  obtain ⟨xv, hxv, yv, hyv, b, hb, h1⟩ := h1
  cases h1
  refine .pure fun ρ a w hx _ => ?_
  rw [ho] at hx
  have hx' := hx x (by simp [Op.operands]) xv hxv
  have hy' := hx y (by simp [Op.operands]) yv hyv
  split at hb
  · rename_i heq; cases heq
  · rename_i p q heq
    cases hb
    have ex := hx'.bool
    have ey := hy'.bool
    have p4 : (Op.equal ty (.bool p) (.bool q)).run P w = .ok (p == q) w := run_equalIn_bool w 9999 ty p q hu
    refine ⟨_, ?_, .same rfl⟩
    have hgd : (eqGuard op ty x y (.bool p) (.bool q)).run P w = .ok () w := by
      rcases hop with rfl | rfl <;> simp [eqGuard]
    rcases hop with rfl | rfl
    · simp only [execOp, ho, ex, ey, Sem.run_bind, hgd, Result.andThen_ok, binOp, p4, Sem.run_pure]; rfl
    · simp only [execOp, ho, ex, ey, Sem.run_bind, hgd, Result.andThen_ok, binOp, p4, Sem.run_pure]; rfl
  · cases hb
end
end Go.Ev

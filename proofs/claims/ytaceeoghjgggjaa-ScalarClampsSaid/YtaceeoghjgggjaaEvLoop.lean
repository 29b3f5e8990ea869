/-
  Loops of the evaluator, and what lies where in a heap with new objects at its end.
-/
import Derived.Test.YtaceeoghjgggjaaEvNum
set_option linter.unusedSimpArgs false
set_option linter.unusedVariables false
namespace Go.Ev
section
variable {T : Tab}

/-- A loop that goes so many rounds and is then left. -/
theorem loop_run {base : Nat} {body : ACode} (I : Nat → St) {r : AExit × St} (hr : r.1 ≠ .normal) : ∀ (n i : Nat), (∀ j, i ≤ j → j < i + n → evCode T base body (I j) = some (.normal, I (j + 1))) → evCode T base body (I (i + n)) = some r →
    evCode T base (.loop body) (I i) = some r
  | 0, i, _, hl => by
    rw [evCode_loop, show i = i + 0 from rfl, hl]
    obtain ⟨x, s⟩ := r
    cases x with
    | normal => exact absurd rfl hr
    | exit id => rfl
    | ret => rfl
  | n + 1, i, hs, hl => by
    rw [evCode_loop, hs i (Nat.le_refl _) (by omega)]
    exact loop_run I hr n (i + 1) (fun j h1 h2 => hs j (by omega) (by omega)) (by rw [show i + 1 + n = i + (n + 1) by omega]; exact hl)

theorem block_loop {base id : Nat} {body : ACode} (I : Nat → St) {s' : St} (n : Nat) (hs : ∀ j, j < n → evCode T base body (I j) = some (.normal, I (j + 1))) (hl : evCode T base body (I n) = some (.exit id, s')) :
    evCode T base (.block id (.loop body)) (I 0) = some (.normal, s') := by
  rw [evCode_block, loop_run (r := (.exit id, s')) I (by simp) n 0 (fun j _ h => hs j (by omega)) (by simpa using hl)]
  simp
end

section
variable {T : Tab}
/-- A loop with an invariant, its rounds counted. -/
theorem loop_inv {base : Nat} {body : ACode} {I : Nat → St → Prop} {x : AExit} (hx : x ≠ .normal) {Q : St → Prop} (n : Nat) (hs : ∀ j s, j < n → I j s → ∃ s', evCode T base body s = some (.normal, s') ∧ I (j + 1) s') (hl : ∀ s, I n s → ∃ s', evCode T base body s = some (x, s') ∧ Q s') :
    ∀ (k i : Nat), i + k = n → ∀ s, I i s → ∃ s', evCode T base (.loop body) s = some (x, s') ∧ Q s'
  | 0, i, hi, s, h => by
    obtain ⟨s', h1, h2⟩ := hl s (by rw [← hi]; exact h)
    refine ⟨s', ?_, h2⟩
    rw [evCode_loop, h1]
    cases x with
    | normal => exact absurd rfl hx
    | exit id => rfl
    | ret => rfl
  | k + 1, i, hi, s, h => by
    obtain ⟨s1, h1, h2⟩ := hs i s (by omega) h
    obtain ⟨s', h3, h4⟩ := loop_inv hx n hs hl k (i + 1) (by omega) s1 h2
    exact ⟨s', by rw [evCode_loop, h1]; exact h3, h4⟩

theorem block_inv {base id : Nat} {body : ACode} (I : Nat → St → Prop) {Q : St → Prop} (n : Nat) {s : St} (h0 : I 0 s) (hs : ∀ j s, j < n → I j s → ∃ s', evCode T base body s = some (.normal, s') ∧ I (j + 1) s') (hl : ∀ s, I n s → ∃ s', evCode T base body s = some (.exit id, s') ∧ Q s') :
    ∃ s', evCode T base (.block id (.loop body)) s = some (.normal, s') ∧ Q s' := by
  obtain ⟨s', h1, h2⟩ := loop_inv (T := T) (x := .exit id) (by simp) n hs hl n 0 (by omega) s h0
  exact ⟨s', by rw [evCode_block, h1]; simp, h2⟩
end

theorem at0 {H r : List Ob} {a : Ob} : (H ++ a :: r)[H.length]? = some a := by simp
theorem at1 {H r : List Ob} {a b : Ob} : (H ++ a :: b :: r)[H.length + 1]? = some b := by simp
theorem at2 {H r : List Ob} {a b c : Ob} : (H ++ a :: b :: c :: r)[H.length + 2]? = some c := by simp
theorem set0 {H r : List Ob} {a x : Ob} : (H ++ a :: r).set H.length x = H ++ x :: r := by simp
theorem set1 {H r : List Ob} {a b x : Ob} : (H ++ a :: b :: r).set (H.length + 1) x = H ++ a :: x :: r := by simp
theorem set2 {H r : List Ob} {a b c x : Ob} : (H ++ a :: b :: c :: r).set (H.length + 2) x = H ++ a :: b :: x :: r := by simp

theorem liveAt_some {H : List Ob} {id : Nat} {o : Ob} (h : H[id]? = some o) (hl : o.live = true) : liveAt H id = some o := by simp [liveAt, h, hl]

/-- Numbers of a kind lie in a row in an object. -/
def Row (k : IntKind) (H : List Ob) (id off : Nat) (xs : List Nat) : Prop := ∃ o, liveAt H id = some o ∧ ∀ i x, xs[i]? = some x → o.cells[off + i]? = some (.int k (x : Nat))

theorem liveAt_app {H l : List Ob} {id : Nat} {o : Ob} (h : liveAt H id = some o) : liveAt (H ++ l) id = some o := by
  simp only [liveAt, Option.bind_eq_some_iff] at h ⊢
  obtain ⟨o', h1, h2⟩ := h
  refine ⟨o', ?_, h2⟩
  rw [List.getElem?_append_left (List.getElem?_eq_some_iff.1 h1).1]
  exact h1

theorem Row.app {k : IntKind} {H l : List Ob} {id off : Nat} {xs : List Nat} (h : Row k H id off xs) : Row k (H ++ l) id off xs := by
  obtain ⟨o, h1, h2⟩ := h
  exact ⟨o, liveAt_app h1, h2⟩

/-- A number is read. -/
theorem Row.load {k : IntKind} {H : List Ob} {id off i x : Nat} {xs : List Nat} {e : Env} {a : Operand} (h : Row k H id off xs) (hi : xs[i]? = some x) (ha : opd e a = some (.pointer (some ⟨id, off + i, none⟩))) :
    simpleOp H e (.load none a) = some (.int k (x : Nat), H, some [id], []) := by
  obtain ⟨o, h1, h2⟩ := h
  simp [simpleOp, ha, h1, partL, h2 i x hi]

theorem live0 {H r : List Ob} {cs : List Value} {o e : Bool} {n : Nat} : liveAt (H ++ ⟨cs, true, o, e, n⟩ :: r) H.length = some ⟨cs, true, o, e, n⟩ := by simp [liveAt]
theorem live1 {H r : List Ob} {a : Ob} {cs : List Value} {o e : Bool} {n : Nat} : liveAt (H ++ a :: ⟨cs, true, o, e, n⟩ :: r) (H.length + 1) = some ⟨cs, true, o, e, n⟩ := by simp [liveAt]
theorem live2 {H r : List Ob} {a b : Ob} {cs : List Value} {o e : Bool} {n : Nat} : liveAt (H ++ a :: b :: ⟨cs, true, o, e, n⟩ :: r) (H.length + 2) = some ⟨cs, true, o, e, n⟩ := by simp [liveAt]

def u32s (l : List Nat) : List Value := l.map fun n => .int .u32 (n : Nat)
def u8s (l : List Nat) : List Value := l.map fun n => .int .u8 (n : Nat)
theorem u32s_len (l : List Nat) : (u32s l).length = l.length := by simp [u32s]
theorem u8s_len (l : List Nat) : (u8s l).length = l.length := by simp [u8s]
theorem u32s_set (l : List Nat) (i n : Nat) : (u32s l).set i (.int .u32 (n : Nat)) = u32s (l.set i n) := by simp [u32s, List.map_set]
theorem u8s_set (l : List Nat) (i n : Nat) : (u8s l).set i (.int .u8 (n : Nat)) = u8s (l.set i n) := by simp [u8s, List.map_set]
theorem u32s_get {l : List Nat} {i x : Nat} (h : l[i]? = some x) : (u32s l)[i]? = some (.int .u32 (x : Nat)) := by simp [u32s, h]
theorem u8s_get {l : List Nat} {i x : Nat} (h : l[i]? = some x) : (u8s l)[i]? = some (.int .u8 (x : Nat)) := by simp [u8s, h]
theorem cells_int (k : IntKind) (n : Int) : (Value.int k n).cells.toList = [.int k n] := rfl
theorem cells_int_size (k : IntKind) (n : Int) : (Value.int k n).cells.size = 1 := rfl
theorem storeAt0 {H r : List Ob} {cs : List Value} {e : Bool} {s off : Nat} {v : List Value} (h : off + v.length ≤ cs.length) : storeAt (H ++ ⟨cs, true, true, e, s⟩ :: r) ⟨H.length, off, none⟩ v = some (H ++ ⟨splice cs off v, true, true, e, s⟩ :: r) := by
  simp [storeAt, live0, h]
theorem storeAt1 {H r : List Ob} {a : Ob} {cs : List Value} {e : Bool} {s off : Nat} {v : List Value} (h : off + v.length ≤ cs.length) : storeAt (H ++ a :: ⟨cs, true, true, e, s⟩ :: r) ⟨H.length + 1, off, none⟩ v = some (H ++ a :: ⟨splice cs off v, true, true, e, s⟩ :: r) := by
  simp [storeAt, live1, h]
theorem storeAt2 {H r : List Ob} {a b : Ob} {cs : List Value} {e : Bool} {s off : Nat} {v : List Value} (h : off + v.length ≤ cs.length) : storeAt (H ++ a :: b :: ⟨cs, true, true, e, s⟩ :: r) ⟨H.length + 2, off, none⟩ v = some (H ++ a :: b :: ⟨splice cs off v, true, true, e, s⟩ :: r) := by
  simp [storeAt, live2, h]
theorem addr_add (b o n : Nat) : (⟨b, o, none⟩ : Addr).add n = ⟨b, o + n, none⟩ := by
  unfold Addr.add
  split <;> simp_all
theorem wrap_nat {n : Nat} (h : n < 9223372036854775808) : IntKind.i64.wrap (n : Int) = n := wrapI64_small (by omega) (by omega)
theorem splice_single (cs : List Value) (off : Nat) (x : Value) : splice cs off [x] = cs.set off x := rfl
theorem cells_agg (l : List Value) : (Value.agg l.toArray).cells.toList = l := rfl
theorem cells_agg_size (l : List Value) : (Value.agg l.toArray).cells.size = l.length := rfl
theorem nlt1 (n : Nat) : (n + 1 < n) = False := by simp
theorem nlt2 (n : Nat) : (n + 2 < n) = False := by simp
theorem nlt3 (n : Nat) : (n + 3 < n) = False := by simp
theorem nlt4 (n : Nat) : (n + 4 < n) = False := by simp
theorem rf_int (k : IntKind) (n : Int) : rf (.int k n) = true := rfl
theorem rf_tuple_ints (k j : IntKind) (a b : Int) : rf (.tuple #[.int k a, .int j b]) = true := rfl
theorem toList2 (a b : Value) : (#[a, b] : Array Value).toList = [a, b] := rfl

theorem Row.elems {k : IntKind} {H : List Ob} {id off n c : Nat} {xs : List Nat} (h : Row k H id off xs) (hx : 0 < xs.length) : elemsOf H 1 xs.length (.slice (some ⟨id, off, none⟩) n c) = some (xs.map fun (x : Nat) => Value.int k x) := by
  obtain ⟨o, h1, h2⟩ := h
  have hl : off + xs.length ≤ o.cells.length := by
    have := h2 (xs.length - 1) _ (List.getElem?_eq_getElem (by omega))
    have := (List.getElem?_eq_some_iff.1 this).1
    omega
  simp only [elemsOf, h1, Option.bind_some, Option.isNone_none, Nat.mul_one, hl, and_self, if_true, Option.some.injEq]
  apply List.ext_getElem?
  intro i
  rw [List.getElem?_take]
  by_cases hi : i < xs.length
  · rw [if_pos hi, List.getElem?_drop, h2 i _ (List.getElem?_eq_getElem hi), List.getElem?_map, List.getElem?_eq_getElem hi]; rfl
  · rw [if_neg hi, List.getElem?_eq_none (by simp; omega)]

theorem splice_gen (cs : List Value) (off : Nat) (v : List Value) (h : off + v.length ≤ cs.length) : splice cs off v = cs.take off ++ (v ++ cs.drop (off + v.length)) := by
  unfold splice
  split
  · rename_i x
    simp only [List.length_cons, List.length_nil, Nat.zero_add] at h
    rw [List.set_eq_take_append_cons_drop, if_pos (by omega)]
    simp
  · rfl

/-- What fits is put behind what is there. -/
theorem append_fits {H r : List Ob} {es bytes len cap n : Nat} {cs new : List Value} {x : Value} (hl : lenV x = some n) (hx : elemsOf (H ++ ⟨cs, true, true, true, es⟩ :: r) es n x = some new) (hn : 0 < n) (hc : len + n ≤ cap) (hb : (len + n) * bytes ≤ 2 ^ 47) (hb0 : 0 < bytes) (he : 0 < es) (hf : len * es + new.length ≤ cs.length) :
    appendV es bytes (H ++ ⟨cs, true, true, true, es⟩ :: r) (.slice (some ⟨H.length, 0, none⟩) len cap) x = some (.slice (some ⟨H.length, 0, none⟩) (len + n) cap, H ++ ⟨splice cs (len * es) new, true, true, true, es⟩ :: r, none, [H.length]) := by
  have h1 : ¬ n = 0 := by omega
  have h2 : 0 + len * es ≤ cs.length := by omega
  have h3 : (len + n) * bytes ≤ 2 ^ 47 ∧ 0 < bytes ∧ 0 < es := ⟨hb, hb0, he⟩
  have hold : elemsOf (H ++ ⟨cs, true, true, true, es⟩ :: r) es len (.slice (some ⟨H.length, 0, none⟩) len cap) = some ((cs.drop 0).take (len * es)) := by
    simp only [elemsOf, live0, Option.bind_some, Option.isNone_none, h2, and_self, if_true]
  simp only [appendV, hl, hx, Option.bind_some, if_neg h1, h3, and_self, not_true_eq_false, if_false, live0, hold, if_true, hc, addr_add, Nat.zero_add, storeAt0 hf]
end Go.Ev

/- What the law leans on, part 3. -/
import Derived.Test.YtaceeoghjgggjaaPAd2
set_option linter.unusedSimpArgs false
set_option linter.unusedVariables false
set_option linter.unusedSimpArgs false
set_option linter.unusedVariables false
namespace Go.Ev
def gate {α : Type} (p : Prop) [Decidable p] (x : Option α) : Option α := if p then x else none
theorem gate_congr {α : Type} {p p' : Prop} [Decidable p] [Decidable p'] (x : Option α) (h : ∀ _ : Unit, p = p') : gate p x = gate p' x := by
  have h := h (); subst h; unfold gate; congr
theorem bind_congr2 {α β : Type} {x y : Option α} (f : α → Option β) (h : ∀ _ : Unit, x = y) : x.bind f = y.bind f := by rw [h ()]
theorem ite_congr2 {α : Type} {c c' : Prop} [Decidable c] [Decidable c'] (x y : α) (h : ∀ _ : Unit, c = c') : (if c then x else y) = (if c' then x else y) := by
  have h := h (); subst h; congr
theorem gate_neg {α : Type} (b : Bool) (x : Option α) : (if b = true then none else x) = gate (b = false) x := by cases b <;> rfl
theorem gate_true {α : Type} [Decidable True] {x : Option α} : gate True x = x := by simp [gate]
def guardV {α : Type} (v : Value) (w : Bool) (x y : Option α) : Option α := match v with
  | .bool c => if c = w then x else y
  | _ => none
def gd (w : Bool) (v : Value) : Value := match v with
  | .tuple _ => .bool (!w)
  | v => v
theorem gd_bool {w b : Bool} : gd w (.bool b) = .bool b := Eq.trans rfl rfl
theorem gd_ut : gd true undef = .bool false := Eq.trans rfl rfl
theorem gd_uf : gd false undef = .bool true := Eq.trans rfl rfl
theorem guardV_congr {α : Type} {v v' : Value} (w : Bool) (x y : Option α) (h : ∀ _ : Unit, v = v') : guardV v w x y = guardV v' w x y := by rw [h ()]
theorem guardV_tt {α : Type} {x y : Option α} : guardV (.bool true) true x y = x := rfl
theorem guardV_ff {α : Type} {x y : Option α} : guardV (.bool false) false x y = x := rfl
theorem guardV_tf {α : Type} {x y : Option α} : guardV (.bool true) false x y = y := rfl
theorem guardV_ft {α : Type} {x y : Option α} : guardV (.bool false) true x y = y := rfl
def keepV (t : Nat) (v : Option Value) (l : Env) : Env := match v with
  | some v => (t, v) :: l
  | none => l
theorem keepV_some {t : Nat} {v : Value} {l : Env} : keepV t (some v) l = (t, v) :: l := rfl
theorem keep_nil {e : Env} : Env.keep e [] = [] := rfl
theorem keep_cons {e : Env} {t : Nat} {r : List Nat} : Env.keep e (t :: r) = keepV t (e.get t) (Env.keep e r) := rfl
theorem fs_cond {T : Tab} {base : Nat} {c : Operand} {a b : ACode} {s : St} : evCode T base (.cond c a b) s = (opd s.env c).bind fun v => guardV v true (evCode T base a s) (evCode T base b s) := by
  rw [evCode_cond]
  cases opd s.env c with
  | none => rfl
  | some v =>
    cases v <;> try rfl
    rename_i c
    cases c <;> rfl
def steps (T : Tab) (b : Nat) (q : Bool) : List AOper → St → Option St
  | [], s => some s
  | o :: r, s => match guardOf s.env o.guard with
    | some true => (evOper T o.op s.env s.h).bind fun x => if (q && !x.2.2.2.isEmpty) = true then none else steps T b q r ⟨s.env.put o.dst x.1, x.2.1, inMerge b s.log x.2.2.2⟩
    | some false => steps T b q r ⟨s.env.put o.dst undef, s.h, s.log⟩
    | none => none
section
variable {T : Tab} {b : Nat} {q : Bool}
theorem evOps_steps : ∀ (ops : List AOper) (s : St) (recs : List Rec), (evOps T b ops s recs).map (·.1) = steps T b false ops s
  | [], s, recs => by rw [evOps_nil]; rfl
  | o :: r, s, recs => by
    rw [evOps_cons]
    unfold steps
    cases hg : guardOf s.env o.guard with
    | none => rfl
    | some g =>
      cases g with
      | false => exact evOps_steps r _ _
      | true =>
        cases hx : evOper T o.op s.env s.h with
        | none => simp [hx]
        | some x =>
          simp only [hx, Option.bind_some, Bool.false_and, Bool.false_eq_true, if_false]
          exact evOps_steps r _ _
theorem evOps_quiet : ∀ (ops : List AOper) (s : St) (recs : List Rec) (s' : St), steps T b true ops s = some s' → (∀ r ∈ recs, r.2 = []) → ∃ recs', evOps T b ops s recs = some (s', recs') ∧ (∀ r ∈ recs', r.2 = []) ∧ recs'.length = recs.length + ops.length
  | [], s, recs, s', h, hr => by
    simp only [steps, Option.some.injEq] at h
    subst h
    exact ⟨recs, evOps_nil, hr, rfl⟩
  | o :: r, s, recs, s', h, hr => by
    rw [evOps_cons]
    unfold steps at h
    cases hg : guardOf s.env o.guard with
    | none => simp only [hg] at h; cases h
    | some g =>
      simp only [hg] at h
      cases g with
      | false =>
        obtain ⟨recs', h1, h2, h3⟩ := evOps_quiet r _ (recs ++ [(some [], [])]) s' h (fun x hx => by
          rcases List.mem_append.1 hx with h | h
          · exact hr x h
          · simp at h; subst h; rfl)
        exact ⟨recs', h1, h2, by rw [h3]; simp; omega⟩
      | true =>
        cases hx : evOper T o.op s.env s.h with
        | none => simp [hx] at h
        | some x =>
          simp only [hx, Option.bind_some] at h
          split at h
          · cases h
          · rename_i hq
            have hq' : x.2.2.2 = [] := by simpa using hq
            obtain ⟨recs', h1, h2, h3⟩ := evOps_quiet r _ (recs ++ [(x.2.2.1, x.2.2.2)]) s' h (fun y hy => by
              rcases List.mem_append.1 hy with h | h
              · exact hr y h
              · simp at h; subst h; exact hq')
            exact ⟨recs', h1, h2, by rw [h3]; simp; omega⟩
theorem fs_region {ops : List AOper} {keep : Option (List Nat)} {s : St} : evCode T b (.region ops keep []) s = (steps T b false ops s).bind fun s' => some (.normal, s'.after keep) := by
  rw [evCode_region, ← evOps_steps ops s []]
  cases evOps T b ops s [] <;> rfl
def qElse {α : Type} (x y : Option α) : Option α := match x with
  | some v => some v
  | none => y
theorem qElse_some {α : Type} {v : α} {y : Option α} : qElse (some v) y = some v := rfl
theorem qElse_congr {α : Type} {x x' : Option α} (y : Option α) (h : ∀ _ : Unit, x = x') : qElse x y = qElse x' y := by rw [h ()]
def quiet (T : Tab) (b : Nat) (ops : List AOper) (pairs : List (Nat × Nat)) (s : St) : Option St :=
  match (pairs.all fun p => decide (p.1 < ops.length) && decide (p.2 < ops.length)) with
  | true => steps T b true ops s
  | false => none
theorem pairsOk_quiet {recs : List Rec} (hr : ∀ r ∈ recs, r.2 = []) : ∀ {pairs : List (Nat × Nat)}, (pairs.all fun p => decide (p.1 < recs.length) && decide (p.2 < recs.length)) = true → pairsOk recs pairs = true
  | [], _ => rfl
  | (i, j) :: ps, h => by
    simp only [List.all_cons, Bool.and_eq_true, decide_eq_true_eq] at h
    have ih := pairsOk_quiet hr (pairs := ps) h.2
    simp only [pairsOk, List.all_cons, Bool.and_eq_true] at ih ⊢
    refine ⟨?_, ih⟩
    rw [List.getElem?_eq_getElem h.1.1, List.getElem?_eq_getElem h.1.2]
    simp only [apartOf, hr _ (List.getElem_mem h.1.1), hr _ (List.getElem_mem h.1.2), List.isEmpty_nil, Bool.true_or, Bool.and_self]
def inText (T : Tab) (b : Nat) (c : ACode) (s : St) : Option (AExit × St) := evCode T b c s
theorem fs_regionP {ops : List AOper} {keep : Option (List Nat)} {p : Nat × Nat} {ps : List (Nat × Nat)} {s : St} : evCode T b (.region ops keep (p :: ps)) s = qElse ((quiet T b ops (p :: ps) s).bind fun s' => some (.normal, s'.after keep)) (inText T b (.region ops keep (p :: ps)) s) := by
  cases hq : quiet T b ops (p :: ps) s with
  | none => rfl
  | some s' =>
    simp only [Option.bind_some, qElse]
    unfold quiet at hq
    split at hq
    · rename_i hp
      obtain ⟨recs, h1, h2, h3⟩ := evOps_quiet ops s [] s' hq (by simp)
      simp only [List.length_nil, Nat.zero_add] at h3
      rw [evCode_region, h1]
      simp only [Option.bind_some]
      rw [if_pos (pairsOk_quiet h2 (by rw [h3]; exact hp))]
    · cases hq
theorem fs_nil {s : St} : steps T b q [] s = some s := rfl
theorem fs_guard {o : AOp} {d : Option Nat} {t : Nat} {w : Bool} {r : List AOper} {e : Env} {H : List Ob} {l : List Nat} : steps T b q (⟨d, o, some (t, w)⟩ :: r) ⟨e, H, l⟩ = (e.get t).bind fun v => guardV (gd w v) w (steps T b q (⟨d, o, none⟩ :: r) ⟨e, H, l⟩) (steps T b q r ⟨e.put d undef, H, l⟩) := by
  simp only [steps, guardOf]
  cases e.get t with
  | none => rfl
  | some v =>
    cases v <;> try rfl
    all_goals first | (cases w <;> rfl) | (rename_i c; cases c <;> cases w <;> rfl)
theorem fs_pure {o : AOp} {d : Nat} {r : List AOper} {e : Env} {H : List Ob} {l : List Nat} {v : Option Value} (h : evOper T o e H = pureV H v) : steps T b q (⟨some d, o, none⟩ :: r) ⟨e, H, l⟩ = v.bind fun v => steps T b q r ⟨(d, v) :: e, H, l⟩ := by
  simp only [steps, guardOf, h, pureV]
  cases v <;> cases q <;> rfl
theorem fs_blockS {base id : Nat} {x y : ACode} {s : St} : evCode T base (.block id (.seq x y)) s = (evCode T base (.seq x y) s).bind fun r => match r.1 with
    | .exit i => if i = id then some (.normal, r.2) else some (.exit i, r.2)
    | z => some (z, r.2) := evCode_block
theorem fs_blockR {base id : Nat} {ops : List AOper} {keep : Option (List Nat)} {pairs : List (Nat × Nat)} {s : St} : evCode T base (.block id (.region ops keep pairs)) s = (evCode T base (.region ops keep pairs) s).bind fun r => match r.1 with
    | .exit i => if i = id then some (.normal, r.2) else some (.exit i, r.2)
    | z => some (z, r.2) := evCode_block
theorem fs_blockC {base id : Nat} {c : Operand} {x y : ACode} {s : St} : evCode T base (.block id (.cond c x y)) s = (evCode T base (.cond c x y) s).bind fun r => match r.1 with
    | .exit i => if i = id then some (.normal, r.2) else some (.exit i, r.2)
    | z => some (z, r.2) := evCode_block
theorem fs_blockK {base id : Nat} {s : St} : evCode T base (.block id .skip) s = some (.normal, s) := by rw [evCode_block, evCode_skip]; rfl
theorem fs_blockB {base id id2 : Nat} {x : ACode} {s : St} : evCode T base (.block id (.block id2 x)) s = (evCode T base (.block id2 x) s).bind fun r => match r.1 with
    | .exit i => if i = id then some (.normal, r.2) else some (.exit i, r.2)
    | z => some (z, r.2) := evCode_block
def vPick : Value → Value → Value → Option Value
  | .bool t, a, b => some (if t then a else b)
  | _, _, _ => none
def vEq (ks : Option (List Bool)) (neg : Bool) (x y : Value) : Option Value :=
  (match ks, x, y with
    | some ks, .agg a, .agg b => cellsEq ks a.toList b.toList
    | none, .bool a, .bool b => some (a == b)
    | _, _, _ => none).bind fun b => some (.bool (if neg then !b else b))
def vConv (k : IntKind) : Value → Option Value
  | .int _ n => some (.int k (k.wrap n))
  | _ => none
def vStr : Value → Option Value
  | .string s => some (.string s)
  | _ => none
def vField (n : Option Nat) (off : Nat) : Value → Option Value
  | .agg cs => partL n cs.toList off
  | _ => none
def vIndex (n : Option Nat) (len es : Nat) : Value → Value → Option Value
  | .agg cs, .int _ i => if 0 ≤ i ∧ i < len then partL n cs.toList (i.toNat * es) else none
  | _, _ => none
def vIndexStr : Value → Value → Option Value
  | .string s, .int _ i => if 0 ≤ i then (s.data.toList[i.toNat]?).bind fun b => some (.int .u8 b.toNat) else none
  | _, _ => none
def vFieldAddr (off : Nat) : Value → Option Value
  | .pointer (some a) => some (.pointer (some (a.add off)))
  | _ => none
def vIndexAddr (len es : Nat) : Value → Value → Option Value
  | .pointer (some a), .int _ i => if 0 ≤ i ∧ i < len then some (.pointer (some (a.add (i.toNat * es)))) else none
  | _, _ => none
def vIndexSl (es : Nat) : Value → Value → Option Value
  | .slice (some a) len _, .int _ i => if 0 ≤ i ∧ i < len then some (.pointer (some (a.add (i.toNat * es)))) else none
  | _, _ => none
def vSliceArr (n es : Nat) (lo hi mx : Option Value) : Value → Option Value
  | .pointer (some a) => (bounds3 n n lo hi mx).bind fun r => some (.slice (some (a.add (r.1 * es))) (r.2.1 - r.1) (r.2.2 - r.1))
  | _ => none
def vSliceSl (H : List Ob) (es : Nat) (lo hi mx : Option Value) : Value → Option Value
  | .slice (some a) len cap => (bounds3 len cap lo hi mx).bind fun r => (liveAt H a.block).bind fun o =>
        if o.exact ∨ ¬ o.own ∨ es ≤ o.es then some (.slice (some (a.add (r.1 * es))) (r.2.1 - r.1) (r.2.2 - r.1)) else none
  | .slice none 0 0 => (bounds3 0 0 lo hi mx).bind fun _ => some (.slice none 0 0)
  | _ => none
def vSliceStr (lo hi : Option Value) : Value → Option Value
  | .string s => (bounds3 s.size s.size lo hi none).bind fun r => some (.string (s.extract r.1 r.2.1))
  | _ => none
def vExtract (i : Nat) : Value → Option Value
  | .tuple vs => vs.toList[i]?
  | _ => none
def vNilCheck : Value → Option Value
  | .pointer (some a) => some (.pointer (some a))
  | _ => none
def vS2ap (n : Nat) : Value → Option Value
  | .slice (some a) len _ => if n ≤ len ∧ 0 < n then some (.pointer (some a)) else none
  | _ => none
def vLen (str : Bool) : Value → Option Value
  | .slice _ n _ => if str then none else some (.int .i64 n)
  | .string s => if str then some (.int .i64 s.size) else none
  | _ => none
def vMinmax (mx : Bool) : Value → Value → Option Value
  | .int k a, .int k' b => if k = k' then some (.int k (if mx then (if b > a then b else a) else (if b < a then b else a))) else none
  | _, _ => none
def vLoad (H : List Ob) (n : Option Nat) : Value → Option Value
  | .pointer (some a) => (liveAt H a.block).bind fun o => if a.spot.isNone then partL n o.cells a.off else none
  | _ => none
def vB2s (H : List Ob) (x : Value) : Option Value := match x with
  | .slice _ n _ => (elemsOf H 1 n x).bind fun cs => (bytesOfCells cs).bind fun l => some (.string ⟨l.toArray⟩)
  | _ => none
theorem fs_move {x : Operand} {d : Nat} {r : List AOper} {e : Env} {H : List Ob} {l : List Nat} : steps T b q (⟨some d, .move x, none⟩ :: r) ⟨e, H, l⟩ = (opd e x).bind fun v => steps T b q r ⟨(d, v) :: e, H, l⟩ := fs_pure evOper_move
theorem fs_pick {c x y : Operand} {d : Nat} {r : List AOper} {e : Env} {H : List Ob} {l : List Nat} : steps T b q (⟨some d, .pick c x y, none⟩ :: r) ⟨e, H, l⟩ = (opd e c).bind fun c => (opd e x).bind fun x => (opd e y).bind fun y => (vPick c x y).bind fun v => steps T b q r ⟨(d, v) :: e, H, l⟩ := by
  rw [fs_pure evOper_pick]
  cases opd e c with
  | none => rfl
  | some c =>
    cases opd e x with
    | none => rfl
    | some x =>
      cases opd e y with
      | none => rfl
      | some y => cases c <;> cases q <;> rfl
theorem fs_alloc {zero : List Value} {d : Nat} {r : List AOper} {e : Env} {H : List Ob} {l : List Nat} : steps T b q (⟨some d, .alloc zero, none⟩ :: r) ⟨e, H, l⟩ = steps T b q r ⟨(d, .pointer (some ⟨H.length, 0, none⟩)) :: e, H ++ [⟨zero, true, true, true, 1⟩], l⟩ := by
  simp only [steps, guardOf, evOper_alloc, simpleOp, Option.bind_some, Env.put, inMerge, Ob.fresh]
  cases q <;> rfl
theorem fs_box {x : Operand} {d : Nat} {r : List AOper} {e : Env} {H : List Ob} {l : List Nat} : steps T b q (⟨some d, .box x, none⟩ :: r) ⟨e, H, l⟩ = (opd e x).bind fun v => gate (okVar v = true) (steps T b q r ⟨(d, .pointer (some ⟨H.length, 0, none⟩)) :: e, H ++ [⟨v.cells.toList, true, true, true, 1⟩], l⟩) := by
  simp only [steps, guardOf, evOper_box, simpleOp, Env.put, inMerge, Ob.fresh]
  cases opd e x with
  | none => rfl
  | some v => simp only [Option.bind_some, gate]; split <;> cases q <;> rfl
theorem fs_load {n : Option Nat} {x : Operand} {d : Nat} {r : List AOper} {e : Env} {H : List Ob} {l : List Nat} : steps T b q (⟨some d, .load n x, none⟩ :: r) ⟨e, H, l⟩ = (opd e x).bind fun a => (vLoad H n a).bind fun v => steps T b q r ⟨(d, v) :: e, H, l⟩ := by
  simp only [steps, guardOf, evOper_load, simpleOp, Env.put]
  cases opd e x with
  | none => rfl
  | some v =>
    cases v <;> try rfl
    rename_i p
    cases p with
    | none => rfl
    | some a =>
      simp only [Option.bind_some, vLoad]
      cases liveAt H a.block with
      | none => rfl
      | some o =>
        simp only [Option.bind_some]
        split
        · cases partL n o.cells a.off <;> cases q <;> rfl
        · rfl
def vStore (H : List Ob) (n : Nat) : Value → Value → Option (List Ob)
  | .pointer (some a), v => if v.cells.size = n ∧ okVar v = true then storeAt H a v.cells.toList else none
  | _, _ => none
def baseP : Value → List Nat
  | .pointer (some a) => [a.block]
  | _ => []
theorem fs_store {n : Nat} {a x : Operand} {r : List AOper} {e : Env} {H : List Ob} {l : List Nat} : steps T b q (⟨none, .store n a x, none⟩ :: r) ⟨e, H, l⟩ = (opd e a).bind fun a => (opd e x).bind fun v => (vStore H n a v).bind fun H' => gate (q = false) (steps T b q r ⟨e, H', inMerge b l (baseP a)⟩) := by
  simp only [steps, guardOf, evOper_store, simpleOp, Env.put]
  cases opd e a with
  | none => rfl
  | some av =>
    cases opd e x with
    | none => rfl
    | some v =>
      cases av <;> try rfl
      rename_i p
      cases p with
      | none => rfl
      | some a =>
        simp only [Option.bind_some, vStore, baseP]
        split
        · cases storeAt H a v.cells.toList <;> cases q <;> rfl
        · rfl
theorem fs_bin {op : BinOp} {x y : Operand} {d : Nat} {r : List AOper} {e : Env} {H : List Ob} {l : List Nat} : steps T b q (⟨some d, .bin op x y, none⟩ :: r) ⟨e, H, l⟩ = (opd e x).bind fun x => (opd e y).bind fun y => (binV op x y).bind fun v => steps T b q r ⟨(d, v) :: e, H, l⟩ := by
  rw [fs_pure evOper_bin]
  cases opd e x <;> cases opd e y <;> cases q <;> rfl
theorem fs_eqv {ks : Option (List Bool)} {neg : Bool} {x y : Operand} {d : Nat} {r : List AOper} {e : Env} {H : List Ob} {l : List Nat} : steps T b q (⟨some d, .eqv ks neg x y, none⟩ :: r) ⟨e, H, l⟩ = (opd e x).bind fun x => (opd e y).bind fun y => (vEq ks neg x y).bind fun v => steps T b q r ⟨(d, v) :: e, H, l⟩ := by
  rw [fs_pure evOper_eqv]
  cases opd e x <;> cases opd e y <;> cases q <;> rfl
theorem fs_isNil {k : Nat} {neg : Bool} {x : Operand} {d : Nat} {r : List AOper} {e : Env} {H : List Ob} {l : List Nat} : steps T b q (⟨some d, .isNil k neg x, none⟩ :: r) ⟨e, H, l⟩ = (opd e x).bind fun x => (isNilV k x).bind fun c => steps T b q r ⟨(d, .bool (if neg then !c else c)) :: e, H, l⟩ := by
  rw [fs_pure evOper_isNil]
  cases opd e x with
  | none => rfl
  | some v => simp only [Option.bind_some]; cases isNilV k v <;> cases q <;> rfl
theorem fs_un {op : UnOp} {x : Operand} {d : Nat} {r : List AOper} {e : Env} {H : List Ob} {l : List Nat} : steps T b q (⟨some d, .un op x, none⟩ :: r) ⟨e, H, l⟩ = (opd e x).bind fun x => (unV op x).bind fun v => steps T b q r ⟨(d, v) :: e, H, l⟩ := by
  rw [fs_pure evOper_un]
  cases opd e x <;> cases q <;> rfl
theorem fs_conv {k : IntKind} {x : Operand} {d : Nat} {r : List AOper} {e : Env} {H : List Ob} {l : List Nat} : steps T b q (⟨some d, .conv k x, none⟩ :: r) ⟨e, H, l⟩ = (opd e x).bind fun x => (vConv k x).bind fun v => steps T b q r ⟨(d, v) :: e, H, l⟩ := by
  rw [fs_pure evOper_conv]
  cases opd e x <;> cases q <;> rfl
theorem fs_convStr {x : Operand} {d : Nat} {r : List AOper} {e : Env} {H : List Ob} {l : List Nat} : steps T b q (⟨some d, .convStr x, none⟩ :: r) ⟨e, H, l⟩ = (opd e x).bind fun x => (vStr x).bind fun v => steps T b q r ⟨(d, v) :: e, H, l⟩ := by
  rw [fs_pure evOper_convStr]
  cases opd e x <;> cases q <;> rfl
theorem fs_field {n : Option Nat} {off : Nat} {x : Operand} {d : Nat} {r : List AOper} {e : Env} {H : List Ob} {l : List Nat} : steps T b q (⟨some d, .field n off x, none⟩ :: r) ⟨e, H, l⟩ = (opd e x).bind fun x => (vField n off x).bind fun v => steps T b q r ⟨(d, v) :: e, H, l⟩ := by
  rw [fs_pure evOper_field]
  cases opd e x <;> cases q <;> rfl
theorem fs_index {n : Option Nat} {len es : Nat} {x i : Operand} {d : Nat} {r : List AOper} {e : Env} {H : List Ob} {l : List Nat} : steps T b q (⟨some d, .index n len es x i, none⟩ :: r) ⟨e, H, l⟩ = (opd e x).bind fun x => (opd e i).bind fun i => (vIndex n len es x i).bind fun v => steps T b q r ⟨(d, v) :: e, H, l⟩ := by
  rw [fs_pure evOper_index]
  cases opd e x <;> cases opd e i <;> cases q <;> rfl
theorem fs_indexStr {x i : Operand} {d : Nat} {r : List AOper} {e : Env} {H : List Ob} {l : List Nat} : steps T b q (⟨some d, .indexStr x i, none⟩ :: r) ⟨e, H, l⟩ = (opd e x).bind fun x => (opd e i).bind fun i => (vIndexStr x i).bind fun v => steps T b q r ⟨(d, v) :: e, H, l⟩ := by
  rw [fs_pure evOper_indexStr]
  cases opd e x <;> cases opd e i <;> cases q <;> rfl
theorem fs_build {zero : List Value} {ps : List (Nat × Nat × Operand)} {d : Nat} {r : List AOper} {e : Env} {H : List Ob} {l : List Nat} : steps T b q (⟨some d, .build zero ps, none⟩ :: r) ⟨e, H, l⟩ = (opdParts e ps).bind fun ps => (fillL zero ps).bind fun cs => steps T b q r ⟨(d, .agg cs.toArray) :: e, H, l⟩ := by
  rw [fs_pure evOper_build]
  cases opdParts e ps with
  | none => rfl
  | some v => simp only [Option.bind_some]; cases fillL zero v <;> cases q <;> rfl
theorem fs_buildSlice {cells : List Value} {len : Nat} {ps : List (Nat × Nat × Operand)} {d : Nat} {r : List AOper} {e : Env} {H : List Ob} {l : List Nat} : steps T b q (⟨some d, .buildSlice cells len ps, none⟩ :: r) ⟨e, H, l⟩ = (opdParts e ps).bind fun ps => (fillL cells ps).bind fun cs => steps T b q r ⟨(d, .slice (some ⟨H.length, 0, none⟩) len len) :: e, H ++ [⟨cs, true, true, true, 1⟩], l⟩ := by
  simp only [steps, guardOf, evOper_buildSlice, simpleOp, Env.put, Ob.fresh]
  cases opdParts e ps with
  | none => rfl
  | some v => simp only [Option.bind_some]; cases fillL cells v <;> cases q <;> rfl
theorem fs_fieldAddr {off : Nat} {x : Operand} {d : Nat} {r : List AOper} {e : Env} {H : List Ob} {l : List Nat} : steps T b q (⟨some d, .fieldAddr off x, none⟩ :: r) ⟨e, H, l⟩ = (opd e x).bind fun x => (vFieldAddr off x).bind fun v => steps T b q r ⟨(d, v) :: e, H, l⟩ := by
  rw [fs_pure evOper_fieldAddr]
  cases opd e x <;> cases q <;> rfl
theorem fs_indexAddr {len es : Nat} {x i : Operand} {d : Nat} {r : List AOper} {e : Env} {H : List Ob} {l : List Nat} : steps T b q (⟨some d, .indexAddr len es x i, none⟩ :: r) ⟨e, H, l⟩ = (opd e x).bind fun x => (opd e i).bind fun i => (vIndexAddr len es x i).bind fun v => steps T b q r ⟨(d, v) :: e, H, l⟩ := by
  rw [fs_pure evOper_indexAddr]
  cases opd e x <;> cases opd e i <;> cases q <;> rfl
theorem fs_indexSl {es : Nat} {x i : Operand} {d : Nat} {r : List AOper} {e : Env} {H : List Ob} {l : List Nat} : steps T b q (⟨some d, .indexSl es x i, none⟩ :: r) ⟨e, H, l⟩ = (opd e x).bind fun x => (opd e i).bind fun i => (vIndexSl es x i).bind fun v => steps T b q r ⟨(d, v) :: e, H, l⟩ := by
  rw [fs_pure evOper_indexSl]
  cases opd e x <;> cases opd e i <;> cases q <;> rfl
theorem fs_sliceArr {n es : Nat} {x : Operand} {lo hi mx : Option Operand} {d : Nat} {r : List AOper} {e : Env} {H : List Ob} {l : List Nat} : steps T b q (⟨some d, .sliceArr n es x lo hi mx, none⟩ :: r) ⟨e, H, l⟩ = (opd e x).bind fun x => (opdOpt e lo).bind fun lo => (opdOpt e hi).bind fun hi => (opdOpt e mx).bind fun mx => (vSliceArr n es lo hi mx x).bind fun v => steps T b q r ⟨(d, v) :: e, H, l⟩ := by
  rw [fs_pure evOper_sliceArr]
  cases opd e x <;> cases opdOpt e lo <;> cases opdOpt e hi <;> cases opdOpt e mx <;> cases q <;> rfl
theorem fs_sliceSl {es : Nat} {x : Operand} {lo hi mx : Option Operand} {d : Nat} {r : List AOper} {e : Env} {H : List Ob} {l : List Nat} : steps T b q (⟨some d, .sliceSl es x lo hi mx, none⟩ :: r) ⟨e, H, l⟩ = (opd e x).bind fun x => (opdOpt e lo).bind fun lo => (opdOpt e hi).bind fun hi => (opdOpt e mx).bind fun mx => (vSliceSl H es lo hi mx x).bind fun v => steps T b q r ⟨(d, v) :: e, H, l⟩ := by
  simp only [steps, guardOf, evOper_sliceSl, simpleOp, Env.put]
  cases opd e x with
  | none => rfl
  | some v =>
    cases opdOpt e lo with
    | none => rfl
    | some lo =>
      cases opdOpt e hi with
      | none => rfl
      | some hi =>
        cases opdOpt e mx with
        | none => rfl
        | some mx =>
          simp only [Option.bind_some]
          cases v <;> try rfl
          rename_i base len cap
          cases base with
          | some a =>
            simp only [vSliceSl]
            cases bounds3 len cap lo hi mx with
            | none => rfl
            | some r =>
              simp only [Option.bind_some]
              cases liveAt H a.block with
              | none => rfl
              | some o => simp only [Option.bind_some]; split <;> cases q <;> rfl
          | none =>
            cases len <;> cases cap <;> try rfl
            simp only [vSliceSl]
            cases bounds3 0 0 lo hi mx <;> cases q <;> rfl
theorem fs_sliceStr {x : Operand} {lo hi : Option Operand} {d : Nat} {r : List AOper} {e : Env} {H : List Ob} {l : List Nat} : steps T b q (⟨some d, .sliceStr x lo hi, none⟩ :: r) ⟨e, H, l⟩ = (opd e x).bind fun x => (opdOpt e lo).bind fun lo => (opdOpt e hi).bind fun hi => (vSliceStr lo hi x).bind fun v => steps T b q r ⟨(d, v) :: e, H, l⟩ := by
  rw [fs_pure evOper_sliceStr]
  cases opd e x <;> cases opdOpt e lo <;> cases opdOpt e hi <;> cases q <;> rfl
def vMake (zero : List Value) (bytes : Nat) (id : Nat) : Value → Value → Option (Value × Ob)
  | .int _ l, .int _ c => if 0 ≤ l ∧ l ≤ c ∧ c * bytes ≤ 2 ^ 47 ∧ 0 < bytes ∧ 0 < zero.length then some (.slice (some ⟨id, 0, none⟩) l.toNat c.toNat, ⟨(List.replicate c.toNat zero).flatten, true, true, true, 1⟩) else none
  | _, _ => none
theorem fs_makeSlice {zero : List Value} {bytes : Nat} {x y : Operand} {d : Nat} {r : List AOper} {e : Env} {H : List Ob} {l : List Nat} : steps T b q (⟨some d, .makeSlice zero bytes x y, none⟩ :: r) ⟨e, H, l⟩ = (opd e x).bind fun x => (opd e y).bind fun y => (vMake zero bytes H.length x y).bind fun v => steps T b q r ⟨(d, v.1) :: e, H ++ [v.2], l⟩ := by
  simp only [steps, guardOf, evOper_makeSlice, simpleOp, Env.put]
  cases opd e x with
  | none => rfl
  | some v =>
    cases opd e y with
    | none => rfl
    | some w =>
      simp only [Option.bind_some]
      unfold vMake
      cases v <;> try rfl
      cases w <;> try rfl
      dsimp only
      split <;> cases q <;> rfl
theorem fs_extract {x : Operand} {i d : Nat} {r : List AOper} {e : Env} {H : List Ob} {l : List Nat} : steps T b q (⟨some d, .extract x i, none⟩ :: r) ⟨e, H, l⟩ = (opd e x).bind fun x => (vExtract i x).bind fun v => steps T b q r ⟨(d, v) :: e, H, l⟩ := by
  rw [fs_pure evOper_extract]
  cases opd e x <;> cases q <;> rfl
theorem fs_mkIface {t : TypeId} {x : Operand} {d : Nat} {r : List AOper} {e : Env} {H : List Ob} {l : List Nat} : steps T b q (⟨some d, .mkIface t x, none⟩ :: r) ⟨e, H, l⟩ = (opd e x).bind fun x => steps T b q r ⟨(d, .iface t x) :: e, H, l⟩ := by
  rw [fs_pure evOper_mkIface]
  cases opd e x <;> cases q <;> rfl
theorem fs_mkFunc {fn : Fn} {fs cs : List Operand} {d : Nat} {r : List AOper} {e : Env} {H : List Ob} {l : List Nat} : steps T b q (⟨some d, .mkFunc fn fs cs, none⟩ :: r) ⟨e, H, l⟩ = (opds e fs).bind fun fs => (opds e cs).bind fun cs => steps T b q r ⟨(d, .func fn fs.toArray cs.toArray) :: e, H, l⟩ := by
  rw [fs_pure evOper_mkFunc]
  cases opds e fs <;> cases opds e cs <;> cases q <;> rfl
theorem fs_nilCheck {x : Operand} {d : Nat} {r : List AOper} {e : Env} {H : List Ob} {l : List Nat} : steps T b q (⟨some d, .nilCheck x, none⟩ :: r) ⟨e, H, l⟩ = (opd e x).bind fun x => (vNilCheck x).bind fun v => steps T b q r ⟨(d, v) :: e, H, l⟩ := by
  rw [fs_pure evOper_nilCheck]
  cases opd e x <;> cases q <;> rfl
theorem fs_s2ap {n : Nat} {x : Operand} {d : Nat} {r : List AOper} {e : Env} {H : List Ob} {l : List Nat} : steps T b q (⟨some d, .s2ap n x, none⟩ :: r) ⟨e, H, l⟩ = (opd e x).bind fun x => (vS2ap n x).bind fun v => steps T b q r ⟨(d, v) :: e, H, l⟩ := by
  rw [fs_pure evOper_s2ap]
  cases opd e x <;> cases q <;> rfl
theorem fs_len {str : Bool} {x : Operand} {d : Nat} {r : List AOper} {e : Env} {H : List Ob} {l : List Nat} : steps T b q (⟨some d, .len str x, none⟩ :: r) ⟨e, H, l⟩ = (opd e x).bind fun x => (vLen str x).bind fun v => steps T b q r ⟨(d, v) :: e, H, l⟩ := by
  rw [fs_pure evOper_len]
  cases opd e x <;> cases q <;> rfl
theorem fs_minmax {mx : Bool} {x y : Operand} {d : Nat} {r : List AOper} {e : Env} {H : List Ob} {l : List Nat} : steps T b q (⟨some d, .minmax mx x y, none⟩ :: r) ⟨e, H, l⟩ = (opd e x).bind fun x => (opd e y).bind fun y => (vMinmax mx x y).bind fun v => steps T b q r ⟨(d, v) :: e, H, l⟩ := by
  rw [fs_pure evOper_minmax]
  cases opd e x <;> cases opd e y <;> cases q <;> rfl
def vS2b (id : Nat) : Value → Option (Value × Ob)
  | .string s => if s.size ≤ 2 ^ 47 then some (.slice (some ⟨id, 0, none⟩) s.size s.size, ⟨s.data.toList.map fun b => .int .u8 b.toNat, true, true, false, 1⟩) else none
  | _ => none
theorem fs_s2b {x : Operand} {d : Nat} {r : List AOper} {e : Env} {H : List Ob} {l : List Nat} : steps T b q (⟨some d, .s2b x, none⟩ :: r) ⟨e, H, l⟩ = (opd e x).bind fun x => (vS2b H.length x).bind fun v => steps T b q r ⟨(d, v.1) :: e, H ++ [v.2], l⟩ := by
  simp only [steps, guardOf, evOper_s2b, simpleOp, Env.put, Ob.grown]
  cases opd e x with
  | none => rfl
  | some v =>
    cases v <;> try rfl
    simp only [Option.bind_some, vS2b]
    split <;> cases q <;> rfl
theorem fs_b2s {x : Operand} {d : Nat} {r : List AOper} {e : Env} {H : List Ob} {l : List Nat} : steps T b q (⟨some d, .b2s x, none⟩ :: r) ⟨e, H, l⟩ = (opd e x).bind fun x => (vB2s H x).bind fun v => steps T b q r ⟨(d, v) :: e, H, l⟩ := by
  simp only [steps, guardOf, evOper_b2s, simpleOp, Env.put]
  cases opd e x with
  | none => rfl
  | some v =>
    cases v <;> try rfl
    rename_i base n cap
    simp only [Option.bind_some, vB2s]
    cases elemsOf H 1 n (.slice base n cap) with
    | none => rfl
    | some cs =>
      simp only [Option.bind_some]
      cases bytesOfCells cs <;> cases q <;> rfl
theorem fs_append {es bytes : Nat} {x y : Operand} {d : Nat} {r : List AOper} {e : Env} {H : List Ob} {l : List Nat} : steps T b q (⟨some d, .append es bytes x y, none⟩ :: r) ⟨e, H, l⟩ = (opd e x).bind fun x => (opd e y).bind fun y => (appendV es bytes H x y).bind fun v => gate ((q && !v.2.2.2.isEmpty) = false) (steps T b q r ⟨(d, v.1) :: e, v.2.1, inMerge b l v.2.2.2⟩) := by
  simp only [steps, guardOf, gate_neg, evOper_append, simpleOp, Env.put]
  cases opd e x <;> cases opd e y <;> cases q <;> rfl
def vCopy (H : List Ob) (es : Nat) (d s : Value) : Option (Value × List Ob × List Nat) := match d with
  | .slice base dl _ => (lenV s).bind fun sl => (elemsOf H es (min sl dl) s).bind fun cs => match base with
      | some a => (storeAt H a cs).bind fun H' => some (.int .i64 (min sl dl : Nat), H', [a.block])
      | none => if dl = 0 then some (.int .i64 0, H, []) else none
  | _ => none
theorem fs_copy {es : Nat} {x y : Operand} {d : Option Nat} {r : List AOper} {e : Env} {H : List Ob} {l : List Nat} : steps T b q (⟨d, .copy es x y, none⟩ :: r) ⟨e, H, l⟩ = (opd e x).bind fun x => (opd e y).bind fun y => (vCopy H es x y).bind fun v => gate ((q && !v.2.2.isEmpty) = false) (steps T b q r ⟨e.put d v.1, v.2.1, inMerge b l v.2.2⟩) := by
  simp only [steps, guardOf, gate_neg, evOper_copy, simpleOp]
  cases opd e x with
  | none => rfl
  | some v =>
    cases opd e y with
    | none => rfl
    | some s =>
      simp only [Option.bind_some]
      cases v <;> try rfl
      rename_i base dl cap
      unfold vCopy
      dsimp only
      cases lenV s with
      | none => rfl
      | some sl =>
        simp only [Option.bind_some]
        cases elemsOf H es (min sl dl) s with
        | none => rfl
        | some cs =>
          simp only [Option.bind_some]
          cases base with
          | none => dsimp only; split <;> cases q <;> rfl
          | some a => dsimp only; cases storeAt H a cs <;> cases q <;> rfl
theorem fs_callV {f : Nat} {xs : List Operand} {d : Option Nat} {r : List AOper} {e : Env} {H : List Ob} {l : List Nat} : steps T b q (⟨d, .call f xs true, none⟩ :: r) ⟨e, H, l⟩ = (opds e xs).bind fun args => gate (args.all rf = true) ((evFun T f args []).bind fun v => gate (rf v.1 = true) (steps T b q r ⟨e.put d v.1, H, l⟩)) := by
  simp only [steps, guardOf, evOper_callVal]
  cases opds e xs with
  | none => rfl
  | some args =>
    simp only [Option.bind_some]
    cases args.all rf with
    | false => rfl
    | true =>
      simp only [if_true, gate_true]
      cases evFun T f args [] with
      | none => rfl
      | some v =>
        simp only [Option.bind_some]
        cases rf v.1 <;> cases q <;> rfl
theorem fs_callR {f : Nat} {xs : List Operand} {d : Option Nat} {r : List AOper} {e : Env} {H : List Ob} {l : List Nat} : steps T b q (⟨d, .call f xs false, none⟩ :: r) ⟨e, H, l⟩ = (opds e xs).bind fun args => (evFun T f args H).bind fun v => gate ((q && !v.2.2.isEmpty) = false) (steps T b q r ⟨e.put d v.1, v.2.1, inMerge b l v.2.2⟩) := by
  simp only [steps, guardOf, gate_neg, evOper_call]
  cases opds e xs with
  | none => rfl
  | some args =>
    simp only [Bool.false_eq_true, if_false, Option.bind_some]
    cases evFun T f args H <;> cases q <;> rfl
def callee : Value → List Value → Option (Nat × List Value)
  | .func (.func f) first captured, args => some (f, first.toList ++ args ++ captured.toList)
  | _, _ => none
theorem evOper_cv {f : Operand} {xs : List Operand} {e : Env} {H : List Ob} : evOper T (.callv f xs) e H = (opd e f).bind fun f => (opds e xs).bind fun args => (callee f args).bind fun c => (evFun T c.1 c.2 H).bind fun r => some (r.1, r.2.1, none, r.2.2) := by
  rw [evOper.eq_def]
  dsimp only
  cases opd e f with
  | none => rfl
  | some fv =>
    cases opds e xs with
    | none => cases fv <;> try rfl
              rename_i fn _ _
              cases fn <;> rfl
    | some args =>
      cases fv <;> try rfl
      rename_i fn _ _
      cases fn <;> rfl
theorem fs_callv {f : Operand} {xs : List Operand} {d : Option Nat} {r : List AOper} {e : Env} {H : List Ob} {l : List Nat} : steps T b q (⟨d, .callv f xs, none⟩ :: r) ⟨e, H, l⟩ = (opd e f).bind fun f => (opds e xs).bind fun args => (callee f args).bind fun c => (evFun T c.1 c.2 H).bind fun v => gate ((q && !v.2.2.isEmpty) = false) (steps T b q r ⟨e.put d v.1, v.2.1, inMerge b l v.2.2⟩) := by
  simp only [steps, guardOf, gate_neg, evOper_cv]
  cases opd e f with
  | none => rfl
  | some fv =>
    cases opds e xs with
    | none => rfl
    | some args =>
      simp only [Option.bind_some]
      cases callee fv args with
      | none => rfl
      | some c => simp only [Option.bind_some]; cases evFun T c.1 c.2 H <;> cases q <;> rfl
end
theorem hget0 {H l : List Ob} : (H ++ l)[H.length]? = l[0]? := by rw [List.getElem?_append_right (Nat.le_refl _), Nat.sub_self]
theorem hgetK {H l : List Ob} {k : Nat} : (H ++ l)[H.length + k]? = l[k]? := by rw [List.getElem?_append_right (by omega)]; congr 1; omega
theorem hset0 {H l : List Ob} {o : Ob} : (H ++ l).set H.length o = H ++ l.set 0 o := by rw [List.set_append_right _ _ (Nat.le_refl _), Nat.sub_self]
theorem hsetK {H l : List Ob} {o : Ob} {k : Nat} : (H ++ l).set (H.length + k) o = H ++ l.set k o := by rw [List.set_append_right _ _ (by omega)]; congr 2; omega
theorem splice_whole {cs v : List Value} (h : v.length = cs.length) : splice cs 0 v = v := by
  rw [splice_gen _ _ _ (by omega), List.take_zero, List.nil_append, Nat.zero_add, h, List.drop_length, List.append_nil]
theorem take_whole {cs : List Value} {n : Nat} (h : cs.length = n) : (cs.drop 0).take n = cs := by rw [List.drop_zero, List.take_of_length_le (by omega)]
theorem cellsEq_u8 : ∀ {n : Nat} {p q : List Nat}, p.length = n → q.length = n → cellsEq (List.replicate n true) (u8s p) (u8s q) = some (p == q)
  | 0, [], [], _, _ => rfl
  | n + 1, x :: p, y :: q, hp, hq => by
    have := cellsEq_u8 (n := n) (p := p) (q := q) (by simpa using hp) (by simpa using hq)
    simp only [u8s, List.map_cons, List.replicate_succ, cellsEq, cellEq, if_true, Option.bind_some] at this ⊢
    rw [this]
    simp only [Option.bind_some, List.cons_beq_cons]
    congr 2
    by_cases h : x = y
    · subst h; simp
    · have : ¬ ((x : Int) = y) := by omega
      rw [beq_eq_false_iff_ne.2 h, beq_eq_false_iff_ne.2 this]
theorem rf_u8s (l : List Nat) : rf (.agg (u8s l).toArray) = true := by
  show (u8s l).toArray.toList.all scalarRf = true
  rw [show (u8s l).toArray.toList = u8s l from rfl]
  simp [u8s, scalarRf]
theorem rf_bool (b : Bool) : rf (.bool b) = true := rfl
theorem arr_list (l : List Value) : l.toArray.toList = l := rfl
theorem Grown.len {k : IntKind} {B : Nat} {H : List Ob} {s : Value} {bs : List Nat} (h : Grown k B H s bs) : vLen false s = some (.int .i64 bs.length) := by cases h <;> rfl
theorem Sl.len {k : IntKind} {H : List Ob} {s : Value} {bs : List Nat} (h : Sl k H s bs) : vLen false s = some (.int .i64 bs.length) := by cases h <;> rfl
section
variable {e : Env} {H : List Ob}
theorem opd_tmp {t : Nat} : opd e (.tmp t) = e.get t := Eq.trans rfl rfl
theorem opd_const {v : Value} : opd e (.const v) = some v := Eq.trans rfl rfl
theorem opd_func {f : FuncId} : opd e (.func f) = some (.func (.func f) #[] #[]) := Eq.trans rfl rfl
theorem opds_nil : opds e [] = some [] := Eq.trans rfl rfl
theorem opds_cons {x : Operand} {r : List Operand} : opds e (x :: r) = (opd e x).bind fun v => (opds e r).bind fun vs => some (v :: vs) := Eq.trans rfl rfl
theorem opdOpt_none : opdOpt e none = some none := Eq.trans rfl rfl
theorem opdOpt_some {x : Operand} : opdOpt e (some x) = (opd e x).bind fun v => some (some v) := Eq.trans rfl rfl
theorem opdParts_nil : opdParts e [] = some [] := Eq.trans rfl rfl
theorem opdParts_cons {o n : Nat} {x : Operand} {r : List (Nat × Nat × Operand)} : opdParts e ((o, n, x) :: r) = (opd e x).bind fun v => (opdParts e r).bind fun vs => some ((o, n, v) :: vs) := Eq.trans rfl rfl
theorem get_hit {t : Nat} {v : Value} {r : Env} : Env.get ((t, v) :: r) t = some v := by simp [Env.get]
theorem get_miss {t u : Nat} {v : Value} {r : Env} (h : (t = u) = False) : Env.get ((u, v) :: r) t = Env.get r t := by simp [Env.get, h]
theorem vPick_t {a b : Value} : vPick (.bool true) a b = some a := Eq.trans rfl rfl
theorem vPick_f {a b : Value} : vPick (.bool false) a b = some b := Eq.trans rfl rfl
theorem vEq_agg {ks : List Bool} {a b : Array Value} : vEq (some ks) false (.agg a) (.agg b) = (cellsEq ks a.toList b.toList).bind fun c => some (.bool c) := Eq.trans rfl rfl
theorem vEq_aggN {ks : List Bool} {a b : Array Value} : vEq (some ks) true (.agg a) (.agg b) = (cellsEq ks a.toList b.toList).bind fun c => some (.bool !c) := Eq.trans rfl rfl
theorem vEq_bool {a b : Bool} : vEq none false (.bool a) (.bool b) = some (.bool (a == b)) := Eq.trans rfl rfl
theorem vEq_boolN {a b : Bool} : vEq none true (.bool a) (.bool b) = some (.bool !(a == b)) := Eq.trans rfl rfl
theorem vConv_int {k j : IntKind} {n : Int} : vConv k (.int j n) = some (.int k (k.wrap n)) := Eq.trans rfl rfl
theorem vStr_s {s : ByteArray} : vStr (.string s) = some (.string s) := Eq.trans rfl rfl
theorem vField_agg {n : Option Nat} {off : Nat} {cs : Array Value} : vField n off (.agg cs) = partL n cs.toList off := Eq.trans rfl rfl
theorem vIndex_agg {n : Option Nat} {len es : Nat} {cs : Array Value} {k : IntKind} {i : Int} : vIndex n len es (.agg cs) (.int k i) = gate (0 ≤ i ∧ i < len) (partL n cs.toList (i.toNat * es)) := Eq.trans rfl rfl
theorem vIndexStr_s {s : ByteArray} {k : IntKind} {i : Int} : vIndexStr (.string s) (.int k i) = gate (0 ≤ i) ((s.data.toList[i.toNat]?).bind fun b => some (.int .u8 b.toNat)) := Eq.trans rfl rfl
theorem vFieldAddr_p {off b o : Nat} : vFieldAddr off (.pointer (some ⟨b, o, none⟩)) = some (.pointer (some ⟨b, o + off, none⟩)) := by rw [← addr_add]; rfl
theorem vIndexAddr_p {len es b o : Nat} {k : IntKind} {i : Int} : vIndexAddr len es (.pointer (some ⟨b, o, none⟩)) (.int k i) = gate (0 ≤ i ∧ i < len) (some (.pointer (some ⟨b, o + i.toNat * es, none⟩))) := by rw [← addr_add]; rfl
theorem vIndexSl_s {es b o len cap : Nat} {k : IntKind} {i : Int} : vIndexSl es (.slice (some ⟨b, o, none⟩) len cap) (.int k i) = gate (0 ≤ i ∧ i < len) (some (.pointer (some ⟨b, o + i.toNat * es, none⟩))) := by rw [← addr_add]; rfl
theorem vSliceArr_p {n es b o : Nat} {lo hi mx : Option Value} : vSliceArr n es lo hi mx (.pointer (some ⟨b, o, none⟩)) = (bounds3 n n lo hi mx).bind fun r => some (.slice (some ⟨b, o + r.1 * es, none⟩) (r.2.1 - r.1) (r.2.2 - r.1)) := by
  simp only [vSliceArr, addr_add]
theorem vSliceSl_s {es b o len cap : Nat} {lo hi mx : Option Value} : vSliceSl H es lo hi mx (.slice (some ⟨b, o, none⟩) len cap) = (bounds3 len cap lo hi mx).bind fun r => (liveAt H b).bind fun ob => gate (ob.exact ∨ ¬ ob.own ∨ es ≤ ob.es) (some (.slice (some ⟨b, o + r.1 * es, none⟩) (r.2.1 - r.1) (r.2.2 - r.1))) := by
  simp only [vSliceSl, addr_add, gate]
theorem vSliceSl_n {es : Nat} {lo hi mx : Option Value} : vSliceSl H es lo hi mx (.slice none 0 0) = (bounds3 0 0 lo hi mx).bind fun _ => some (.slice none 0 0) := Eq.trans rfl rfl
theorem vSliceStr_s {s : ByteArray} {lo hi : Option Value} : vSliceStr lo hi (.string s) = (bounds3 s.size s.size lo hi none).bind fun r => some (.string (s.extract r.1 r.2.1)) := Eq.trans rfl rfl
theorem vExtract_t {i : Nat} {vs : Array Value} : vExtract i (.tuple vs) = vs.toList[i]? := Eq.trans rfl rfl
theorem vNilCheck_p {a : Addr} : vNilCheck (.pointer (some a)) = some (.pointer (some a)) := Eq.trans rfl rfl
theorem vS2ap_s {n : Nat} {a : Addr} {len cap : Nat} : vS2ap n (.slice (some a) len cap) = gate (n ≤ len ∧ 0 < n) (some (.pointer (some a))) := Eq.trans rfl rfl
theorem vLen_s {a : Option Addr} {n c : Nat} : vLen false (.slice a n c) = some (.int .i64 n) := Eq.trans rfl rfl
theorem vLen_str {s : ByteArray} : vLen true (.string s) = some (.int .i64 s.size) := Eq.trans rfl rfl
theorem vMin_i {k : IntKind} {a b : Int} : vMinmax false (.int k a) (.int k b) = some (.int k (if b < a then b else a)) := by simp [vMinmax]
theorem vMax_i {k : IntKind} {a b : Int} : vMinmax true (.int k a) (.int k b) = some (.int k (if b > a then b else a)) := by simp [vMinmax]
theorem vLoad_p {n : Option Nat} {b o : Nat} : vLoad H n (.pointer (some ⟨b, o, none⟩)) = (liveAt H b).bind fun ob => partL n ob.cells o := by simp [vLoad]
theorem vStore_p {n b o : Nat} {v : Value} : vStore H n (.pointer (some ⟨b, o, none⟩)) v = gate (v.cells.size = n ∧ okVar v = true) (storeAt H ⟨b, o, none⟩ v.cells.toList) := Eq.trans rfl rfl
theorem baseP_p {b o : Nat} : baseP (.pointer (some ⟨b, o, none⟩)) = [b] := rfl
theorem vB2s_s {a : Option Addr} {n c : Nat} : vB2s H (.slice a n c) = (elemsOf H 1 n (.slice a n c)).bind fun cs => (bytesOfCells cs).bind fun l => some (.string ⟨l.toArray⟩) := Eq.trans rfl rfl
theorem vMake_i {zero : List Value} {bytes id : Nat} {k j : IntKind} {l c : Int} : vMake zero bytes id (.int k l) (.int j c) = gate (0 ≤ l ∧ l ≤ c ∧ c * bytes ≤ 2 ^ 47 ∧ 0 < bytes ∧ 0 < zero.length) (some (.slice (some ⟨id, 0, none⟩) l.toNat c.toNat, ⟨(List.replicate c.toNat zero).flatten, true, true, true, 1⟩)) := Eq.trans rfl rfl
theorem vS2b_s {id : Nat} {s : ByteArray} : vS2b id (.string s) = gate (s.size ≤ 2 ^ 47) (some (.slice (some ⟨id, 0, none⟩) s.size s.size, ⟨s.data.toList.map fun b => .int .u8 b.toNat, true, true, false, 1⟩)) := Eq.trans rfl rfl
theorem callee_f {f : FuncId} {a b : Array Value} {args : List Value} : callee (.func (.func f) a b) args = some (f, a.toList ++ args ++ b.toList) := Eq.trans rfl rfl
theorem liveAt_eq {id : Nat} : liveAt H id = (H[id]?).bind fun o => gate (o.live = true) (some o) := Eq.trans rfl rfl
theorem storeAt_eq {b o : Nat} {v : List Value} : storeAt H ⟨b, o, none⟩ v = (liveAt H b).bind fun ob => gate (ob.own = true ∧ o + v.length ≤ ob.cells.length) (some (H.set b ⟨splice ob.cells o v, ob.live, ob.own, ob.exact, ob.es⟩)) := by simp [storeAt, gate]
theorem partL_none {cs : List Value} {off : Nat} : partL none cs off = cs[off]? := Eq.trans rfl rfl
theorem partL_some {n : Nat} {cs : List Value} {off : Nat} : partL (some n) cs off = gate (off + n ≤ cs.length) (some (.agg ((cs.drop off).take n).toArray)) := Eq.trans rfl rfl
theorem natIn_none {y d : Nat} : natIn none y d = some d := Eq.trans rfl rfl
theorem natIn_int {k : IntKind} {i : Int} {y d : Nat} : natIn (some (.int k i)) y d = gate (0 ≤ i ∧ i ≤ y) (some i.toNat) := Eq.trans rfl rfl
theorem bounds3_two {len cap : Nat} {lo hi : Option Value} : bounds3 len cap lo hi none = (natIn hi cap len).bind fun h => (natIn lo h 0).bind fun l => some (l, h, cap) := by simp [bounds3, natIn]
theorem bin_add {k : IntKind} {a b : Int} : binV .add (.int k a) (.int k b) = some (.int k (k.wrap (a + b))) := by simp [binV, intBin]
theorem bin_sub {k : IntKind} {a b : Int} : binV .sub (.int k a) (.int k b) = some (.int k (k.wrap (a - b))) := by simp [binV, intBin]
theorem bin_mul {k : IntKind} {a b : Int} : binV .mul (.int k a) (.int k b) = some (.int k (k.wrap (a * b))) := by simp [binV, intBin]
theorem bin_quo {k : IntKind} {a b : Int} (h : (b = 0) = False) : binV .quo (.int k a) (.int k b) = some (.int k (k.wrap (a.tdiv b))) := by simp [binV, intBin, h]
theorem bin_rem {k : IntKind} {a b : Int} (h : (b = 0) = False) : binV .rem (.int k a) (.int k b) = some (.int k (a.tmod b)) := by simp [binV, intBin, h]
theorem bin_and {k : IntKind} {a b : Int} : binV .and (.int k a) (.int k b) = some (.int k (bitsOp .and k a b)) := by simp [binV, intBin]
theorem bin_or {k : IntKind} {a b : Int} : binV .or (.int k a) (.int k b) = some (.int k (bitsOp .or k a b)) := by simp [binV, intBin]
theorem bin_xor {k : IntKind} {a b : Int} : binV .xor (.int k a) (.int k b) = some (.int k (bitsOp .xor k a b)) := by simp [binV, intBin]
theorem bin_andNot {k : IntKind} {a b : Int} : binV .andNot (.int k a) (.int k b) = some (.int k (bitsOp .andNot k a b)) := by simp [binV, intBin]
theorem bin_eql {k : IntKind} {a b : Int} : binV .eql (.int k a) (.int k b) = some (.bool (a == b)) := by simp [binV, intBin]
theorem bin_neq {k : IntKind} {a b : Int} : binV .neq (.int k a) (.int k b) = some (.bool (a != b)) := by simp [binV, intBin]
theorem bin_lss {k : IntKind} {a b : Int} : binV .lss (.int k a) (.int k b) = some (.bool (decide (a < b))) := by simp [binV, intBin]
theorem bin_leq {k : IntKind} {a b : Int} : binV .leq (.int k a) (.int k b) = some (.bool (decide (a ≤ b))) := by simp [binV, intBin]
theorem bin_gtr {k : IntKind} {a b : Int} : binV .gtr (.int k a) (.int k b) = some (.bool (decide (b < a))) := by simp [binV, intBin]
theorem bin_geq {k : IntKind} {a b : Int} : binV .geq (.int k a) (.int k b) = some (.bool (decide (b ≤ a))) := by simp [binV, intBin]
theorem bin_shl {k j : IntKind} {a b : Int} (h : (b < 0) = False) : binV .shl (.int k a) (.int j b) = some (.int k (k.wrap (a * 2 ^ (min b.toNat k.bits)))) := by simp [binV, shiftOp, h]
theorem bin_shr {k j : IntKind} {a b : Int} (h : (b < 0) = False) : binV .shr (.int k a) (.int j b) = some (.int k (a.fdiv (2 ^ (min b.toNat k.bits)))) := by simp [binV, shiftOp, h]
theorem bin_sadd {a b : ByteArray} : binV .add (.string a) (.string b) = gate (a.size + b.size ≤ 2 ^ 47) (some (.string (a ++ b))) := Eq.trans rfl rfl
theorem bin_seql {a b : ByteArray} : binV .eql (.string a) (.string b) = some (.bool (a.toList == b.toList)) := Eq.trans rfl rfl
theorem bin_sneq {a b : ByteArray} : binV .neq (.string a) (.string b) = some (.bool !(a.toList == b.toList)) := Eq.trans rfl rfl
theorem un_not {b : Bool} : unV .not (.bool b) = some (.bool !b) := Eq.trans rfl rfl
theorem un_neg {k : IntKind} {n : Int} : unV .neg (.int k n) = some (.int k (k.wrap (0 - n))) := Eq.trans rfl rfl
theorem un_xor {k : IntKind} {n : Int} : unV .xor (.int k n) = some (.int k (bitsOp .xor k (if k.signed then -1 else k.max) n)) := Eq.trans rfl rfl
theorem after_some {l : List Nat} {k : List Nat} : St.after ⟨e, H, l⟩ (some k) = ⟨e.keep k, H, l⟩ := rfl
theorem put_some {d : Nat} {v : Value} : Env.put e (some d) v = (d, v) :: e := rfl
theorem put_none {v : Value} : Env.put e none v = e := rfl
theorem res_nil : resultOf e H [] = some [] := Eq.trans rfl rfl
theorem res_val {t : Nat} {r : List (Nat × Option (Option Nat))} : resultOf e H ((t, none) :: r) = (e.get t).bind fun v => (resultOf e H r).bind fun vs => some (v :: vs) := Eq.trans rfl rfl
theorem res_var {t : Nat} {n : Option Nat} {r : List (Nat × Option (Option Nat))} : resultOf e H ((t, some n) :: r) = (e.get t).bind fun p => (vLoad H n p).bind fun v => (resultOf e H r).bind fun vs => some (v :: vs) := Eq.trans rfl rfl
theorem packed_one {v : Value} : packed [v] = v := rfl
theorem packed_two {v w : Value} {r : List Value} : packed (v :: w :: r) = .tuple (v :: w :: r).toArray := rfl
theorem merge_nil {b : Nat} {l : List Nat} : inMerge b l [] = l := rfl
theorem merge_ge {b i : Nat} {l r : List Nat} (h : b ≤ i) : inMerge b l (i :: r) = inMerge b l r := by
  have h1 : ¬ i < b := by omega
  simp only [inMerge, h1, false_and, if_false]
theorem okV_int {k : IntKind} {n : Int} : okVar (.int k n) = true := rfl
theorem okV_bool {b : Bool} : okVar (.bool b) = true := rfl
theorem okV_str {s : ByteArray} : okVar (.string s) = true := rfl
theorem okV_agg {a : Array Value} : okVar (.agg a) = true := rfl
theorem okV_ptr {a : Option Addr} : okVar (.pointer a) = true := rfl
theorem okV_slice {a : Option Addr} {n c : Nat} : okVar (.slice a n c) = true := rfl
theorem okV_func {f : Fn} {a b : Array Value} : okVar (.func f a b) = true := rfl
theorem okV_nilFunc : okVar .nilFunc = true := rfl
theorem okV_iface {t : TypeId} {v : Value} : okVar (.iface t v) = true := rfl
theorem okV_nilIface : okVar .nilIface = true := rfl
theorem cells_bool (b : Bool) : (Value.bool b).cells.toList = [.bool b] := rfl
theorem cells_bool_size (b : Bool) : (Value.bool b).cells.size = 1 := rfl
theorem cells_ptr (a : Option Addr) : (Value.pointer a).cells.toList = [.pointer a] := rfl
theorem cells_ptr_size (a : Option Addr) : (Value.pointer a).cells.size = 1 := rfl
theorem cells_slice (a : Option Addr) (n c : Nat) : (Value.slice a n c).cells.toList = [.slice a n c] := rfl
theorem cells_slice_size (a : Option Addr) (n c : Nat) : (Value.slice a n c).cells.size = 1 := rfl
theorem cells_str (s : ByteArray) : (Value.string s).cells.toList = [.string s] := rfl
theorem cells_str_size (s : ByteArray) : (Value.string s).cells.size = 1 := rfl
theorem rf_tup2 {a b : Value} (h1 : rfIn a = true) (h2 : rfIn b = true) : rf (.tuple #[a, b]) = true := by simp [rf, h1, h2]
theorem rfIn_int {k : IntKind} {n : Int} : rfIn (.int k n) = true := rfl
theorem rfIn_bool {b : Bool} : rfIn (.bool b) = true := rfl
theorem rfIn_u8s (l : List Nat) : rfIn (.agg (u8s l).toArray) = true := rf_u8s l
theorem rf_str {s : ByteArray} : rf (.string s) = true := rfl
theorem rfIn_str {s : ByteArray} : rfIn (.string s) = true := rfl
end
set_option linter.defProp false
def cF := And.intro (And.intro (And.intro (And.intro (And.intro (And.intro (And.intro (@evCode_skip) (@evCode_exit)) (And.intro (@evCode_seq) (And.intro (@fs_blockS) (@fs_blockR)))) (And.intro (And.intro (@fs_blockC) (And.intro (@fs_blockK) (@fs_blockB))) (And.intro (@evCode_ret) (And.intro (@keep_nil) (@keep_cons))))) (And.intro (And.intro (And.intro (@fs_cond) (And.intro (@fs_region) (@fs_nil))) (And.intro (@fs_guard) (And.intro (@fs_move) (@fs_pick)))) (And.intro (And.intro (@fs_alloc) (And.intro (@fs_box) (@fs_load))) (And.intro (@fs_store) (And.intro (@fs_bin) (@fs_eqv)))))) (And.intro (And.intro (And.intro (And.intro (@fs_isNil) (And.intro (@fs_un) (@fs_conv))) (And.intro (@fs_convStr) (And.intro (@fs_field) (@fs_index)))) (And.intro (And.intro (@fs_indexStr) (And.intro (@fs_build) (@fs_buildSlice))) (And.intro (@fs_fieldAddr) (And.intro (@fs_indexAddr) (@fs_indexSl))))) (And.intro (And.intro (And.intro (@fs_sliceArr) (And.intro (@fs_sliceSl) (@fs_sliceStr))) (And.intro (@fs_makeSlice) (And.intro (@fs_extract) (@fs_mkIface)))) (And.intro (And.intro (@fs_mkFunc) (And.intro (@fs_nilCheck) (@fs_s2ap))) (And.intro (@fs_len) (And.intro (@fs_minmax) (@fs_s2b))))))) (And.intro (And.intro (And.intro (And.intro (And.intro (@fs_b2s) (And.intro (@fs_append) (@fs_copy))) (And.intro (@fs_callR) (And.intro (@fs_callv) (@opd_tmp)))) (And.intro (And.intro (@opd_const) (And.intro (@opd_func) (@opds_nil))) (And.intro (@opds_cons) (And.intro (@opdOpt_none) (@opdOpt_some))))) (And.intro (And.intro (And.intro (@opdParts_nil) (And.intro (@opdParts_cons) (@get_miss))) (And.intro (@vPick_t) (And.intro (@vPick_f) (@vEq_agg)))) (And.intro (And.intro (@vEq_aggN) (And.intro (@vEq_bool) (@vEq_boolN))) (And.intro (@vConv_int) (And.intro (@vStr_s) (@vField_agg)))))) (And.intro (And.intro (And.intro (And.intro (@vIndex_agg) (And.intro (@vIndexStr_s) (@vFieldAddr_p))) (And.intro (@vIndexAddr_p) (And.intro (@vIndexSl_s) (@vSliceArr_p)))) (And.intro (And.intro (@vSliceSl_s) (And.intro (@vSliceSl_n) (@vSliceStr_s))) (And.intro (@vExtract_t) (And.intro (@vNilCheck_p) (@vS2ap_s))))) (And.intro (And.intro (And.intro (@vLen_s) (And.intro (@vLen_str) (@vMin_i))) (And.intro (@vMax_i) (And.intro (@vLoad_p) (@vStore_p)))) (And.intro (And.intro (@baseP_p) (And.intro (@vB2s_s) (@vMake_i))) (And.intro (@vS2b_s) (And.intro (@callee_f) (@liveAt_eq)))))))) (And.intro (And.intro (And.intro (And.intro (And.intro (And.intro (@storeAt_eq) (@partL_none)) (And.intro (@partL_some) (And.intro (@natIn_none) (@natIn_int)))) (And.intro (And.intro (@bounds3_two) (And.intro (@bin_add) (@bin_sub))) (And.intro (@bin_mul) (And.intro (@bin_quo) (@bin_rem))))) (And.intro (And.intro (And.intro (@bin_and) (And.intro (@bin_or) (@bin_xor))) (And.intro (@bin_andNot) (And.intro (@bin_eql) (@bin_neq)))) (And.intro (And.intro (@bin_lss) (And.intro (@bin_leq) (@bin_gtr))) (And.intro (@bin_geq) (And.intro (@bin_shl) (@bin_shr)))))) (And.intro (And.intro (And.intro (And.intro (@bin_sadd) (And.intro (@bin_seql) (@bin_sneq))) (And.intro (@un_not) (And.intro (@un_neg) (@un_xor)))) (And.intro (And.intro (@after_some) (And.intro (@put_some) (@put_none))) (And.intro (@res_nil) (And.intro (@res_val) (@res_var))))) (And.intro (And.intro (And.intro (@packed_one) (And.intro (@packed_two) (@merge_nil))) (And.intro (@merge_ge) (And.intro (@rf_tup2) (@rfIn_int)))) (And.intro (And.intro (@rfIn_bool) (And.intro (@rfIn_u8s) (@rf_str))) (And.intro (@rfIn_str) (And.intro (@gd_bool) (@gd_ut))))))) (And.intro (And.intro (And.intro (And.intro (And.intro (@gd_uf) (And.intro (@List.nil_append.{0}) (@List.cons_append.{0}))) (And.intro (@List.all_nil.{0}) (And.intro (@List.all_cons.{0}) (@List.isEmpty_nil.{0})))) (And.intro (And.intro (@Bool.false_eq_true) (And.intro (@beq_self_eq_true.{0}) (@bne_self_eq_false.{0}))) (And.intro (@Bool.not_true) (And.intro (@Bool.not_false) (@Int.natCast_nonneg))))) (And.intro (And.intro (And.intro (@Nat.lt_irrefl) (And.intro (@false_and) (@rf_int))) (And.intro (@rf_bool) (And.intro (@rf_tuple_ints) (@rf_u8s)))) (And.intro (And.intro (@arr_list) (And.intro (@toList2) (@Bool.and_self))) (And.intro (@Nat.not_lt_zero) (And.intro (@Nat.sub_zero) (@Nat.zero_le)))))) (And.intro (And.intro (And.intro (And.intro (@Nat.le_add_right) (And.intro (@cells_agg) (@cells_agg_size))) (And.intro (@cells_int) (And.intro (@cells_int_size) (@okV_int)))) (And.intro (And.intro (@okV_bool) (And.intro (@okV_str) (@okV_agg))) (And.intro (@okV_ptr) (And.intro (@okV_slice) (@okV_func))))) (And.intro (And.intro (And.intro (@okV_nilFunc) (And.intro (@okV_iface) (@okV_nilIface))) (And.intro (@cells_bool) (And.intro (@cells_bool_size) (@cells_ptr)))) (And.intro (And.intro (@cells_ptr_size) (And.intro (@cells_slice) (@cells_slice_size))) (And.intro (@cells_str) (And.intro (@cells_str_size) (@eq_self.{1}))))))))
def pF := And.intro (And.intro (@gate_true) (@get_hit)) (And.intro (@Option.bind_some.{0, 0}) (And.intro (@if_true.{1}) (@if_false.{1})))
def cL := And.intro (And.intro (And.intro (And.intro (And.intro (@wrapI64_small) (@Int.natCast_zero)) (And.intro (@Int.natCast_one) (And.intro (@Int.cast_ofNat_Int) (@List.length_nil.{0})))) (And.intro (And.intro (@List.length_cons.{0}) (@List.getElem?_cons_zero.{0})) (And.intro (@List.getElem?_cons_succ.{0}) (And.intro (@List.set_cons_zero.{0}) (@List.set_cons_succ.{0}))))) (And.intro (And.intro (And.intro (@Nat.zero_add) (@Nat.add_zero)) (And.intro (@Nat.mul_one) (And.intro (@Nat.zero_mul) (@Int.toNat_natCast)))) (And.intro (And.intro (@Int.toNat_zero) (@Int.lt_irrefl)) (And.intro (@Int.le_refl) (And.intro (@Nat.le_refl) (@and_self)))))) (And.intro (And.intro (And.intro (And.intro (@true_and) (@and_true)) (And.intro (@decide_true) (And.intro (@decide_false) (@Nat.min_self)))) (And.intro (And.intro (@ge_iff_le.{0}) (@gt_iff_lt.{0})) (And.intro (@Option.isNone_none.{0}) (And.intro (@Option.isSome_none.{0}) (@Option.isNone_some.{0}))))) (And.intro (And.intro (And.intro (@Option.isSome_some.{0}) (@Bool.and_true)) (And.intro (@Bool.true_and) (And.intro (@Bool.and_false) (@Bool.false_and)))) (And.intro (And.intro (@not_true_eq_false) (And.intro (@not_false_eq_true) (@or_true))) (And.intro (@true_or) (And.intro (@false_or) (@or_false))))))
def cJ := And.intro (And.intro (And.intro (@hget0) (@hgetK)) (And.intro (@hset0) (And.intro (@hsetK) (@splice_single)))) (And.intro (And.intro (@splice_whole) (@take_whole)) (And.intro (@List.getElem?_nil.{0}) (And.intro (@List.length_append.{0}) (@List.append_assoc.{0}))))
end Go.Ev
set_option linter.unusedSimpArgs false
set_option linter.unusedVariables false
namespace Go.Ev
theorem n_add (a b : Nat) : (a : Int) + (b : Int) = ((a + b : Nat) : Int) := (Int.natCast_add a b).symm
theorem n_mul (a b : Nat) : (a : Int) * (b : Int) = ((a * b : Nat) : Int) := (Int.natCast_mul a b).symm
theorem n_ladd (n a : Nat) : (no_index (@OfNat.ofNat Int n instOfNat)) + (a : Int) = ((n + a : Nat) : Int) := (Int.natCast_add n a).symm
theorem n_addl (n a : Nat) : (a : Int) + (no_index (@OfNat.ofNat Int n instOfNat)) = ((a + n : Nat) : Int) := (Int.natCast_add a n).symm
theorem n_lmul (n a : Nat) : (no_index (@OfNat.ofNat Int n instOfNat)) * (a : Int) = ((n * a : Nat) : Int) := (Int.natCast_mul n a).symm
theorem n_mull (n a : Nat) : (a : Int) * (no_index (@OfNat.ofNat Int n instOfNat)) = ((a * n : Nat) : Int) := (Int.natCast_mul a n).symm
theorem n_fdiv (a b : Nat) : Int.fdiv (a : Int) (b : Int) = ((a / b : Nat) : Int) := by
  rw [Int.fdiv_eq_ediv_of_nonneg _ (Int.natCast_nonneg _)]; rfl
theorem n_fdivl (a n : Nat) : Int.fdiv (a : Int) (no_index (@OfNat.ofNat Int n instOfNat)) = ((a / n : Nat) : Int) := n_fdiv a n
theorem n_tdiv (a n : Nat) : Int.tdiv (a : Int) (no_index (@OfNat.ofNat Int n instOfNat)) = ((a / n : Nat) : Int) := rfl
theorem n_tmod (a n : Nat) : Int.tmod (a : Int) (no_index (@OfNat.ofNat Int n instOfNat)) = ((a % n : Nat) : Int) := rfl
theorem n_w64 (a : Nat) : IntKind.u64.wrap (a : Int) = ((a % 18446744073709551616 : Nat) : Int) := by rw [wrap_u64]; omega
theorem n_w32 (a : Nat) : IntKind.u32.wrap (a : Int) = ((a % 4294967296 : Nat) : Int) := by rw [wrap_u32]; omega
theorem n_w16 (a : Nat) : IntKind.u16.wrap (a : Int) = ((a % 65536 : Nat) : Int) := by rw [wrap_u16]; omega
theorem n_w8 (a : Nat) : IntKind.u8.wrap (a : Int) = ((a % 256 : Nat) : Int) := by rw [wrap_u8]; omega
theorem n_sub64 (a b : Nat) : IntKind.u64.wrap ((a : Int) - (b : Int)) = (((a + (18446744073709551616 - b % 18446744073709551616)) % 18446744073709551616 : Nat) : Int) := by rw [wrap_u64]; omega
theorem n_lsub64 (n b : Nat) : IntKind.u64.wrap ((no_index (@OfNat.ofNat Int n instOfNat)) - (b : Int)) = (((n + (18446744073709551616 - b % 18446744073709551616)) % 18446744073709551616 : Nat) : Int) := n_sub64 n b
theorem n_subl64 (a n : Nat) : IntKind.u64.wrap ((a : Int) - (no_index (@OfNat.ofNat Int n instOfNat))) = (((a + (18446744073709551616 - n % 18446744073709551616)) % 18446744073709551616 : Nat) : Int) := n_sub64 a n
theorem ofInt_nat' (w a : Nat) : BitVec.ofInt w (a : Int) = BitVec.ofNat w a := by simp
theorem n_and (k : IntKind) (hk : k.signed = false) (a b : Nat) : bitsOp .and k (a : Int) (b : Int) = (((a % 2 ^ k.bits) &&& (b % 2 ^ k.bits) : Nat) : Int) := by
  simp only [bitsOp, ofInt_nat']
  rw [BitVec.toNat_and, BitVec.toNat_ofNat, BitVec.toNat_ofNat, wrap_small hk (Nat.and_lt_two_pow _ (Nat.mod_lt _ (Nat.pow_pos (by decide))))]
theorem n_or (k : IntKind) (hk : k.signed = false) (a b : Nat) : bitsOp .or k (a : Int) (b : Int) = (((a % 2 ^ k.bits) ||| (b % 2 ^ k.bits) : Nat) : Int) := by
  simp only [bitsOp, ofInt_nat']
  rw [BitVec.toNat_or, BitVec.toNat_ofNat, BitVec.toNat_ofNat, wrap_small hk (Nat.or_lt_two_pow (Nat.mod_lt _ (Nat.pow_pos (by decide))) (Nat.mod_lt _ (Nat.pow_pos (by decide))))]
theorem n_mask (k : IntKind) (hk : k.signed = false) (w a : Nat) (hw : w ≤ k.bits) : bitsOp .and k (a : Int) ((2 ^ w - 1 : Nat) : Int) = ((a % 2 ^ w : Nat) : Int) := by
  have h1 : (2 : Nat) ^ w ≤ 2 ^ k.bits := Nat.pow_le_pow_right (by decide) hw
  have h0 : 0 < (2 : Nat) ^ w := Nat.pow_pos (by decide)
  rw [n_and k hk, Nat.mod_eq_of_lt (a := 2 ^ w - 1) (by omega), Nat.and_two_pow_sub_one_eq_mod, Nat.mod_mod_of_dvd _ (Nat.pow_dvd_pow 2 hw)]
theorem n_m32 (a : Nat) : bitsOp .and .u64 (a : Int) 4294967295 = ((a % 4294967296 : Nat) : Int) := n_mask .u64 rfl 32 a (by decide)
theorem n_m51 (a : Nat) : bitsOp .and .u64 (a : Int) 2251799813685247 = ((a % 2251799813685248 : Nat) : Int) := n_mask .u64 rfl 51 a (by decide)
theorem n_m1 (a : Nat) : bitsOp .and .u64 (a : Int) 1 = ((a % 2 : Nat) : Int) := n_mask .u64 rfl 1 a (by decide)
theorem n_m1b (a : Nat) : bitsOp .and .u8 (a : Int) 1 = ((a % 2 : Nat) : Int) := n_mask .u8 rfl 1 a (by decide)
theorem n_m7b (a : Nat) : bitsOp .and .u8 (a : Int) 127 = ((a % 128 : Nat) : Int) := n_mask .u8 rfl 7 a (by decide)
theorem p64_32 : (2 : Int) ^ min 32 IntKind.u64.bits = ((4294967296 : Nat) : Int) := rfl
theorem p64_51 : (2 : Int) ^ min 51 IntKind.u64.bits = ((2251799813685248 : Nat) : Int) := rfl
theorem p64_13 : (2 : Int) ^ min 13 IntKind.u64.bits = ((8192 : Nat) : Int) := rfl
theorem p8_7 : (2 : Int) ^ min 7 IntKind.u8.bits = ((128 : Nat) : Int) := rfl
theorem or_apart {a b n : Nat} (h : a < 2 ^ n) : (b * 2 ^ n) ||| a = b * 2 ^ n + a := by
  rw [Nat.mul_comm, Nat.two_pow_add_eq_or_of_lt h]
theorem ns_nil (k : IntKind) : ns k [] = [] := rfl
theorem ns_cons (k : IntKind) (x : Nat) (r : List Nat) : ns k (x :: r) = .int k (x : Nat) :: ns k r := rfl
theorem dig_put {w m q s y M : Nat} (hq : q < m) (hs : s < w) (hM : M < 2 ^ (w * q + s)) (hy : y * 2 ^ s < 2 ^ w) :
    (dig (2 ^ w) m M).set q ((dig (2 ^ w) m M).getD q 0 ||| y * 2 ^ s) = dig (2 ^ w) m (M + y * 2 ^ (w * q + s)) := by
  have hB : (2 ^ w) ^ q = 2 ^ (w * q) := by rw [← Nat.pow_mul]
  have hpos : 0 < (2 ^ w : Nat) ^ q := Nat.pow_pos (Nat.pow_pos (by decide))
  have hpow : (2 : Nat) ^ (w * q + s) = 2 ^ s * (2 ^ w) ^ q := by rw [Nat.pow_add, hB, Nat.mul_comm]
  have hdiv : M / (2 ^ w) ^ q < 2 ^ s := by rw [Nat.div_lt_iff_lt_mul hpos, ← hpow]; exact hM
  have hsw : (2 : Nat) ^ s ≤ 2 ^ w := Nat.pow_le_pow_right (by decide) (by omega)
  have hsum : M / (2 ^ w) ^ q + y * 2 ^ s < 2 ^ w := by
    have h1 : (2 : Nat) ^ w = 2 ^ (w - s) * 2 ^ s := by rw [← Nat.pow_add]; congr 1; omega
    have h2 : y < 2 ^ (w - s) := by
      rw [h1] at hy
      exact Nat.lt_of_mul_lt_mul_right hy
    have h3 : (y + 1) * 2 ^ s ≤ 2 ^ (w - s) * 2 ^ s := Nat.mul_le_mul_right _ h2
    rw [Nat.add_mul, Nat.one_mul, ← h1] at h3
    omega
  apply dig_ext (by rw [List.length_set, dig_len])
  intro i hi
  by_cases hqi : i = q
  · subst hqi
    rw [List.getElem?_set_self (by rw [dig_len]; exact hi), List.getD_eq_getElem?_getD, dig_get hi]
    rw [hpow, ← Nat.mul_assoc, Nat.add_mul_div_right _ _ hpos]
    simp only [Option.getD_some]
    rw [Nat.mod_eq_of_lt (a := M / _) (by omega), Nat.mod_eq_of_lt hsum, Nat.or_comm, or_apart hdiv, Nat.add_comm]
  · rw [List.getElem?_set_ne (Ne.symm hqi), dig_get hi]
    congr 1
    by_cases hlt : i < q
    · have h1 : (2 ^ w : Nat) ^ q = 2 ^ w * (2 ^ w) ^ (q - i - 1) * (2 ^ w) ^ i := by
        rw [Nat.mul_assoc, ← Nat.pow_add, ← Nat.pow_add_one']; congr 1; omega
      rw [hpow, h1]
      rw [show y * (2 ^ s * (2 ^ w * (2 ^ w) ^ (q - i - 1) * (2 ^ w) ^ i)) = (y * 2 ^ s * (2 ^ w) ^ (q - i - 1) * 2 ^ w) * (2 ^ w) ^ i by simp only [Nat.mul_assoc, Nat.mul_left_comm, Nat.mul_comm]]
      rw [Nat.add_mul_div_right _ _ (Nat.pow_pos (Nat.pow_pos (by decide))), Nat.add_mul_mod_self_right]
    · have h1 : M + y * 2 ^ (w * q + s) < (2 ^ w) ^ i := by
        have h2 : (2 ^ w : Nat) ^ (q + 1) ≤ (2 ^ w) ^ i := Nat.pow_le_pow_right (Nat.pow_pos (by decide)) (by omega)
        refine Nat.lt_of_lt_of_le ?_ h2
        have h3 : (M / (2 ^ w) ^ q + y * 2 ^ s + 1) * (2 ^ w) ^ q ≤ 2 ^ w * (2 ^ w) ^ q := Nat.mul_le_mul_right _ hsum
        have h4 := Nat.div_add_mod M ((2 ^ w) ^ q)
        have h5 := Nat.mod_lt M hpos
        rw [Nat.pow_succ, Nat.mul_comm ((2 ^ w) ^ q)]
        refine Nat.lt_of_lt_of_le ?_ h3
        rw [hpow, ← Nat.mul_assoc, Nat.add_mul, Nat.add_mul, Nat.one_mul, Nat.mul_comm (M / (2 ^ w) ^ q)]
        omega
      rw [Nat.div_eq_of_lt h1, Nat.div_eq_of_lt (by omega)]
def evVal (T : Tab) (f : Nat) (args : List Value) : Option Value := (evFun T f args []).map (·.1)
theorem evVal_of {T : Tab} {f : Nat} {args : List Value} {v : Value} {l : List Ob} {M : List Nat} (h : evFun T f args [] = some (v, l, M)) : evVal T f args = some v := by simp [evVal, h]
theorem evVal_ex {T : Tab} {f : Nat} {args : List Value} {v : Value} (h : ∃ l, evFun T f args [] = some (v, l, [])) : evVal T f args = some v := by
  obtain ⟨l, h⟩ := h
  exact evVal_of h
theorem fs_callW {T : Tab} {b : Nat} {q : Bool} {f : Nat} {xs : List Operand} {d : Option Nat} {r : List AOper} {e : Env} {H : List Ob} {l : List Nat} : steps T b q (⟨d, .call f xs true, none⟩ :: r) ⟨e, H, l⟩ = (opds e xs).bind fun args => gate (args.all rf = true) ((evVal T f args).bind fun v => gate (rf v = true) (steps T b q r ⟨e.put d v, H, l⟩)) := by
  rw [fs_callV]
  cases opds e xs with
  | none => rfl
  | some args =>
    simp only [Option.bind_some, evVal]
    cases evFun T f args [] <;> rfl
set_option linter.defProp false
def cU := And.intro (And.intro (And.intro (And.intro (@n_add) (And.intro (@n_mul) (@n_ladd))) (And.intro (@n_addl) (And.intro (@n_lmul) (@n_mull)))) (And.intro (And.intro (@n_fdiv) (And.intro (@n_fdivl) (@n_tdiv))) (And.intro (And.intro (@n_tmod) (@n_w64)) (And.intro (@n_w32) (@n_w16))))) (And.intro (And.intro (And.intro (@n_w8) (And.intro (@n_sub64) (@n_lsub64))) (And.intro (@n_subl64) (And.intro (@n_m32) (@n_m51)))) (And.intro (And.intro (@n_m1) (And.intro (@n_m1b) (@n_m7b))) (And.intro (And.intro (@p64_32) (@p64_51)) (And.intro (@p64_13) (@p8_7)))))
end Go.Ev
set_option linter.unusedSimpArgs false
set_option linter.unusedVariables false
namespace Go.NT
def Pr (p : Nat) : Prop := 2 ≤ p ∧ ∀ m, m ∣ p → m = 1 ∨ m = p
theorem Pr.coprime {p a : Nat} (hp : Pr p) (h : ¬ p ∣ a) : Nat.Coprime p a := by
  rcases hp.2 (Nat.gcd p a) (Nat.gcd_dvd_left p a) with h1 | h1
  · exact h1
  · exact absurd (h1 ▸ Nat.gcd_dvd_right p a) h
theorem Pr.dvd_mul {p a b : Nat} (hp : Pr p) (h : p ∣ a * b) : p ∣ a ∨ p ∣ b := by
  by_cases ha : p ∣ a
  · exact .inl ha
  · exact .inr ((hp.coprime ha).dvd_of_dvd_mul_left h)
def prodL : List Nat → Nat
  | [] => 1
  | x :: r => x * prodL r
theorem prodL_perm {l l' : List Nat} (h : l.Perm l') : prodL l = prodL l' := by
  induction h with
  | nil => rfl
  | cons x _ ih => simp only [prodL, ih]
  | swap x y l => simp only [prodL, Nat.mul_left_comm]
  | trans _ _ h1 h2 => rw [h1, h2]
theorem perm_of : ∀ {l1 l2 : List Nat}, l1.Nodup → (∀ x ∈ l1, x ∈ l2) → l2.length ≤ l1.length → l1.Perm l2
  | [], l2, _, _, hl => by
    have : l2 = [] := by cases l2 with | nil => rfl | cons _ _ => simp at hl
    subst this; exact .nil
  | a :: t, l2, hn, hs, hl => by
    have ha := hs a (by simp)
    have hp := List.perm_cons_erase ha
    have hlen := hp.length_eq
    rw [List.nodup_cons] at hn
    refine (List.Perm.cons a (perm_of hn.2 (fun x hx => ?_) ?_)).trans hp.symm
    · have hxa : x ≠ a := fun h => hn.1 (h ▸ hx)
      exact (List.mem_erase_of_ne hxa).2 (hs x (by simp [hx]))
    · simp only [List.length_cons] at hl hlen ⊢
      omega
theorem prodL_map (a p : Nat) : ∀ l : List Nat, prodL (l.map fun x => a * x % p) % p = a ^ l.length * prodL l % p
  | [] => by simp [prodL]
  | x :: r => by
    have h1 := prodL_map a p r
    simp only [List.map_cons, prodL, List.length_cons, Nat.pow_succ]
    rw [Nat.mul_mod, h1, Nat.mod_mod, ← Nat.mul_mod]
    congr 1
    simp only [Nat.mul_assoc, Nat.mul_left_comm, Nat.mul_comm]
theorem prodL_ndvd {p : Nat} (hp : Pr p) : ∀ {l : List Nat}, (∀ x ∈ l, ¬ p ∣ x) → ¬ p ∣ prodL l
  | [], _ => fun h => by
    have := Nat.le_of_dvd (by decide : 0 < 1) h
    have := hp.1
    omega
  | x :: r, h => fun hd => by
    rcases hp.dvd_mul hd with h1 | h1
    · exact h x (by simp) h1
    · exact prodL_ndvd hp (fun y hy => h y (by simp [hy])) h1
theorem fermat {p a : Nat} (hp : Pr p) (ha : ¬ p ∣ a) : a ^ (p - 1) % p = 1 := by
  have h2 := hp.1
  have hnd : ((List.range' 1 (p - 1)).map fun x => a * x % p).Nodup := by
    rw [List.nodup_iff_pairwise_ne, List.pairwise_map]
    refine List.Pairwise.imp_of_mem ?_ (List.pairwise_lt_range' (s := 1) (n := p - 1))
    intro x y hx hy hxy he
    simp only [List.mem_range'_1] at hx hy
    have h3 : (a * y - a * x) % p = 0 := Nat.sub_mod_eq_zero_of_mod_eq he.symm
    rw [← Nat.mul_sub] at h3
    rcases hp.dvd_mul (Nat.dvd_of_mod_eq_zero h3) with h4 | h4
    · exact ha h4
    · have := Nat.le_of_dvd (by omega) h4
      omega
  have hmem : ∀ x ∈ (List.range' 1 (p - 1)).map (fun x => a * x % p), x ∈ List.range' 1 (p - 1) := by
    intro x hx
    simp only [List.mem_map, List.mem_range'_1] at hx ⊢
    obtain ⟨y, hy, rfl⟩ := hx
    have h3 : a * y % p < p := Nat.mod_lt _ (by omega)
    have h4 : a * y % p ≠ 0 := fun h => by
      rcases hp.dvd_mul (Nat.dvd_of_mod_eq_zero h) with h4 | h4
      · exact ha h4
      · have := Nat.le_of_dvd (by omega) h4
        omega
    omega
  have hperm := prodL_perm (perm_of hnd hmem (by simp))
  have h5 := prodL_map a p (List.range' 1 (p - 1))
  rw [hperm, List.length_range'] at h5
  have h6 : ¬ p ∣ prodL (List.range' 1 (p - 1)) := prodL_ndvd hp fun x hx hd => by
    simp only [List.mem_range'_1] at hx
    have := Nat.le_of_dvd (by omega) hd
    omega
  have h7 : (a ^ (p - 1) * prodL (List.range' 1 (p - 1)) - 1 * prodL (List.range' 1 (p - 1))) % p = 0 := Nat.sub_mod_eq_zero_of_mod_eq (by rw [← h5, Nat.one_mul])
  rw [← Nat.sub_mul] at h7
  have ha0 : 0 < a := Nat.pos_of_ne_zero fun h => ha (h ▸ Nat.dvd_zero p)
  have h8 : 0 < a ^ (p - 1) := Nat.pow_pos ha0
  rcases hp.dvd_mul (Nat.dvd_of_mod_eq_zero h7) with h9 | h9
  · obtain ⟨k, hk⟩ := h9
    have : a ^ (p - 1) = p * k + 1 := by omega
    rw [this, Nat.mul_add_mod, Nat.mod_eq_of_lt (by omega)]
  · exact absurd h9 h6
theorem has_prime {n : Nat} (hn : 2 ≤ n) : ∃ r, Pr r ∧ r ∣ n ∧ (Pr n ∨ r * r ≤ n) := by
  have ex : ∃ r, 2 ≤ r ∧ r ∣ n ∧ ∀ m, 2 ≤ m → m ∣ n → r ≤ m := by
    have key : ∀ k, (∃ r, 2 ≤ r ∧ r ∣ n ∧ r ≤ k) → ∃ r, 2 ≤ r ∧ r ∣ n ∧ ∀ m, 2 ≤ m → m ∣ n → r ≤ m := by
      intro k
      induction k with
      | zero => rintro ⟨r, h1, _, h3⟩; omega
      | succ k ih =>
        rintro ⟨r, h1, h2, h3⟩
        by_cases h : ∃ r, 2 ≤ r ∧ r ∣ n ∧ r ≤ k
        · exact ih h
        · refine ⟨r, h1, h2, fun m hm hmd => ?_⟩
          rcases Nat.lt_or_ge k m with h4 | h4
          · omega
          · exact absurd ⟨m, hm, hmd, h4⟩ h
    exact key n ⟨n, hn, Nat.dvd_refl n, Nat.le_refl n⟩
  obtain ⟨r, h1, h2, h3⟩ := ex
  have hr : Pr r := ⟨h1, fun m hm => by
    have hm0 : 0 < m := Nat.pos_of_dvd_of_pos hm (by omega)
    rcases Nat.lt_or_ge m 2 with h | h
    · left; omega
    · have := h3 m h (Nat.dvd_trans hm h2)
      have := Nat.le_of_dvd (by omega) hm
      right; omega⟩
  refine ⟨r, hr, h2, ?_⟩
  obtain ⟨k, rfl⟩ := h2
  rcases Nat.lt_or_ge k 2 with h | h
  · have : k = 1 := by
      rcases Nat.eq_zero_or_pos k with h0 | h0
      · subst h0; omega
      · omega
    subst this
    rw [Nat.mul_one]; exact .inl hr
  · exact .inr (Nat.mul_le_mul_left r (h3 k h (Nat.dvd_mul_left k r)))
def pw (m a : Nat) : Nat → Nat → Nat
  | 0, _ => 1 % m
  | f + 1, e => if e % 2 = 1 then (pw m a f (e / 2)) * (pw m a f (e / 2)) % m * a % m else (pw m a f (e / 2)) * (pw m a f (e / 2)) % m
theorem pw_eq (m a : Nat) : ∀ (f e : Nat), e < 2 ^ f → pw m a f e = a ^ e % m
  | 0, e, h => by
    have : e = 0 := by simpa using h
    subst this; rfl
  | f + 1, e, h => by
    have ih := pw_eq m a f (e / 2) (by rw [Nat.pow_succ] at h; omega)
    have hs : a ^ (e / 2) % m * (a ^ (e / 2) % m) % m = a ^ (2 * (e / 2)) % m := by
      rw [← Nat.mul_mod, ← Nat.pow_add]; congr 2; omega
    unfold pw
    rw [ih]
    by_cases he : e % 2 = 1
    · rw [if_pos he, hs, Nat.mod_mul_mod, ← Nat.pow_succ]
      congr 2; omega
    · rw [if_neg he, hs]
      congr 2; omega
def pwf (m a : Nat) : Nat → Nat → Nat
  | 0, _ => 1 % m
  | f + 1, e => (fun r => if e % 2 = 1 then r * r % m * a % m else r * r % m) (pwf m a f (e / 2))
theorem pow_gcd {r : Nat} (hr : 2 ≤ r) (b x y : Nat) : b ^ x % r = 1 → b ^ y % r = 1 → b ^ (Nat.gcd x y) % r = 1 := by
  induction x, y using Nat.gcd.induction with
  | H0 y => intro _ h; rwa [Nat.gcd_zero_left]
  | H1 x y hx ih =>
    intro h1 h2
    rw [Nat.gcd_rec]
    refine ih ?_ h1
    have h3 : b ^ (x * (y / x) + y % x) % r = 1 := by rw [Nat.div_add_mod]; exact h2
    rw [Nat.pow_add, Nat.pow_mul, Nat.mul_mod, Nat.pow_mod (b ^ x), h1, Nat.one_pow, Nat.mod_eq_of_lt (a := 1) (by omega), Nat.one_mul, Nat.mod_mod] at h3
    exact h3
theorem pock {n q k a r : Nat} (hq : Pr q) (hk : n = q * k + 1) (h1 : a ^ (q * k) % n = 1) (h2 : Nat.gcd (a ^ k % n + n - 1) n = 1) (hr : Pr r) (hrn : r ∣ n) : q ∣ r - 1 := by
  have hr2 := hr.1
  have hn0 : 0 < n := by omega
  have hn2 : r ≤ n := Nat.le_of_dvd hn0 hrn
  have hmodr : ∀ x, x % n % r = x % r := fun x => Nat.mod_mod_of_dvd x hrn
  have hb1 : a ^ (q * k) % r = 1 := by rw [← hmodr, h1, Nat.mod_eq_of_lt (by omega)]
  have hra : ¬ r ∣ a := fun h => by
    have hqk : 0 < q * k := by
      rcases Nat.eq_zero_or_pos (q * k) with h0 | h0
      · omega
      · exact h0
    have : r ∣ a ^ (q * k) := by
      obtain ⟨m, hm⟩ : ∃ m, q * k = m + 1 := ⟨q * k - 1, by omega⟩
      rw [hm, Nat.pow_succ]
      exact Nat.dvd_trans h (Nat.dvd_mul_left a _)
    have := Nat.mod_eq_zero_of_dvd this
    omega
  have hf := fermat hr hra
  by_cases hqd : q ∣ r - 1
  · exact hqd
  · exfalso
    have hc := hq.coprime hqd
    -- a^(k*q) = 1, a^(k*(r-1)) = 1, q and r - 1 are coprime: a^k = 1
    have hpow : ∀ x : Nat, ∀ c, c % r = 1 → c ^ x % r = 1 := fun x c hcx => by rw [Nat.pow_mod, hcx, Nat.one_pow, Nat.mod_eq_of_lt (by omega)]
    have hk1 : (a ^ k) ^ q % r = 1 := by rw [← Nat.pow_mul, Nat.mul_comm k q]; exact hb1
    have hk2 : (a ^ k) ^ (r - 1) % r = 1 := by rw [← Nat.pow_mul, Nat.mul_comm k, Nat.pow_mul]; exact hpow k _ hf
    have hak : a ^ k % r = 1 := by
      have := pow_gcd hr2 (a ^ k) q (r - 1) hk1 hk2
      rwa [hc, Nat.pow_one] at this
    have hdvd : r ∣ a ^ k % n + n - 1 := by
      have e3 : a ^ k % n % r = 1 := by rw [hmodr]; exact hak
      have e4 : 1 ≤ a ^ k % n := by
        rcases Nat.eq_zero_or_pos (a ^ k % n) with h0 | h0
        · rw [h0, Nat.zero_mod] at e3; omega
        · exact h0
      have e5 : r ∣ a ^ k % n - 1 := by
        apply Nat.dvd_of_mod_eq_zero
        exact Nat.sub_mod_eq_zero_of_mod_eq (by rw [e3, Nat.mod_eq_of_lt (by omega)])
      rw [show a ^ k % n + n - 1 = (a ^ k % n - 1) + n by omega]
      exact Nat.dvd_add e5 hrn
    have := Nat.dvd_gcd hdvd hrn
    rw [h2] at this
    have := Nat.le_of_dvd (by decide) this
    omega
theorem pock_one {n q k a : Nat} (hn : 2 ≤ n) (hq : Pr q) (hk : n = q * k + 1) (hbig : n < q * q) (h1 : a ^ (q * k) % n = 1) (h2 : Nat.gcd (a ^ k % n + n - 1) n = 1) : Pr n := by
  obtain ⟨r, hr, hrn, h | h⟩ := has_prime hn
  · exact h
  · have h3 := pock hq hk h1 h2 hr hrn
    have := hr.1
    have h4 := Nat.le_of_dvd (by omega) h3
    have : q * q ≤ r * r := Nat.mul_le_mul (by omega) (by omega)
    omega
theorem pock_two {n q k a q' k' a' : Nat} (hn : 2 ≤ n) (hq : Pr q) (hk : n = q * k + 1) (hq' : Pr q') (hk' : n = q' * k' + 1) (hne : q ≠ q') (hbig : n < (q * q') * (q * q')) (h1 : a ^ (q * k) % n = 1) (h2 : Nat.gcd (a ^ k % n + n - 1) n = 1)
    (h1' : a' ^ (q' * k') % n = 1) (h2' : Nat.gcd (a' ^ k' % n + n - 1) n = 1) : Pr n := by
  obtain ⟨r, hr, hrn, h | h⟩ := has_prime hn
  · exact h
  · have h3 := pock hq hk h1 h2 hr hrn
    have h3' := pock hq' hk' h1' h2' hr hrn
    have hc : Nat.Coprime q q' := hq.coprime fun hd => by
      rcases hq'.2 q hd with h | h
      · have := hq.1; omega
      · exact hne h
    have h5 := hc.mul_dvd_of_dvd_of_dvd h3 h3'
    have := hr.1
    have h4 := Nat.le_of_dvd (by omega) h5
    have : (q * q') * (q * q') ≤ r * r := Nat.mul_le_mul (by omega) (by omega)
    omega
def noDiv (n : Nat) : Nat → Nat → Bool
  | 0, _ => true
  | f + 1, m => (n % m != 0) && noDiv n f (m + 1)
theorem noDiv_spec {n : Nat} : ∀ (f m : Nat), noDiv n f m = true → ∀ x, m ≤ x → x < m + f → n % x ≠ 0
  | 0, m, _, x, h1, h2 => by omega
  | f + 1, m, h, x, h1, h2 => by
    simp only [noDiv, Bool.and_eq_true, bne_iff_ne] at h
    rcases Nat.eq_or_lt_of_le h1 with h3 | h3
    · subst h3; exact h.1
    · exact noDiv_spec f (m + 1) h.2 x h3 (by omega)
theorem small_prime {n f : Nat} (hn : 2 ≤ n) (hf : n < (f + 2) * (f + 2)) (h : noDiv n f 2 = true) : Pr n := by
  obtain ⟨r, hr, hrn, h1 | h1⟩ := has_prime hn
  · exact h1
  · have hr2 := hr.1
    have : r < 2 + f := by
      rcases Nat.lt_or_ge r (2 + f) with h2 | h2
      · exact h2
      · have : (f + 2) * (f + 2) ≤ r * r := Nat.mul_le_mul (by omega) (by omega)
        omega
    exact absurd (Nat.mod_eq_zero_of_dvd hrn) (noDiv_spec f 2 h r hr2 this)
end Go.NT
set_option linter.unusedSimpArgs false
set_option linter.unusedVariables false
namespace Go.Cv
section
variable {n : Nat} [NeZero n]
structure Fld (n : Nat) [NeZero n] (iv : Fin n → Fin n) (d i : Fin n) : Prop where
  inv : ∀ a : Fin n, a ≠ 0 → a * iv a = 1
  iv0 : iv 0 = 0
  one : (1 : Fin n) ≠ 0
  two : (2 : Fin n) ≠ 0
  root : i * i = -1
  nosq : ∀ r : Fin n, r * r ≠ d
variable {iv : Fin n → Fin n} {d i : Fin n} (F : Fld n iv d i)
include F
theorem Fld.dom {a b : Fin n} (h : a * b = 0) : a = 0 ∨ b = 0 := by
  by_cases ha : a = 0
  · exact .inl ha
  · have := F.inv a ha
    exact .inr (by grobner)
theorem Fld.mul_ne {a b : Fin n} (ha : a ≠ 0) (hb : b ≠ 0) : a * b ≠ 0 := fun h => by
  rcases F.dom h with h | h
  · exact ha h
  · exact hb h
theorem Fld.cancel {a b c : Fin n} (ha : a ≠ 0) (h : a * b = a * c) : b = c := by
  have := F.inv a ha
  grobner
theorem Fld.noratio {u v : Fin n} (hv : v ≠ 0) : u * u ≠ d * (v * v) := fun h => by
  have := F.inv v hv
  apply F.nosq (u * iv v)
  grobner
omit F
def On (d x y : Fin n) : Prop := -(x * x) + y * y = 1 + d * (x * x) * (y * y)
theorem On.sub {d x y : Fin n} (h : On d x y) : -(x * x) + y * y - 1 - d * (x * x) * (y * y) = 0 := by
  unfold On at h; grobner
theorem two_rows {L R a b c e : Fin n} (h : L - R = a * c + b * e) (hc : c = 0) (he : e = 0) : L = R := by
  subst hc he; grobner
theorem three_rows {L R a b c e f g : Fin n} (h : L - R = a * c + b * e + f * g) (hc : c = 0) (he : e = 0) (hg : g = 0) : L = R := by
  subst hc he hg; grobner
theorem closedId (d x1 y1 x2 y2 : Fin n) : -((x1 * y2 + x2 * y1) * (x1 * y2 + x2 * y1) * ((1 - d * x1 * x2 * y1 * y2) * (1 - d * x1 * x2 * y1 * y2))) + (y1 * y2 + x1 * x2) * (y1 * y2 + x1 * x2) * ((1 + d * x1 * x2 * y1 * y2) * (1 + d * x1 * x2 * y1 * y2)) -
      (((1 + d * x1 * x2 * y1 * y2) * (1 - d * x1 * x2 * y1 * y2)) * ((1 + d * x1 * x2 * y1 * y2) * (1 - d * x1 * x2 * y1 * y2)) + d * ((x1 * y2 + x2 * y1) * (x1 * y2 + x2 * y1)) * ((y1 * y2 + x1 * x2) * (y1 * y2 + x1 * x2))) =
      (d * d * d * x1 * x1 * x2 * x2 * x2 * x2 * y1 * y1 * y2 * y2 * y2 * y2 - d * d * x1 * x1 * x2 * x2 * x2 * x2 * y2 * y2 * y2 * y2 + d * d * x2 * x2 * x2 * x2 * y1 * y1 * y2 * y2 * y2 * y2 - d * d * x2 * x2 * x2 * x2 * y2 * y2 * y2 * y2 - d * x1 * x1 * x2 * x2 * x2 * x2 * y2 * y2 + d * x1 * x1 * x2 * x2 * y2 * y2 * y2 * y2 + d * x2 * x2 * x2 * x2 * y1 * y1 * y2 * y2 - 2 * d * x2 * x2 * x2 * x2 * y2 * y2 * y2 * y2 - d * x2 * x2 * y1 * y1 * y2 * y2 * y2 * y2 - 2 * d * x2 * x2 * y2 * y2 - 2 * x2 * x2 * x2 * x2 * y2 * y2 + x2 * x2 * x2 * x2 + 2 * x2 * x2 * y2 * y2 * y2 * y2 - 4 * x2 * x2 * y2 * y2 + y2 * y2 * y2 * y2) * (-(x1 * x1) + y1 * y1 - 1 - d * (x1 * x1) * (y1 * y1)) + (d * x1 * x1 * x1 * x1 * x2 * x2 * y2 * y2 + 2 * d * x1 * x1 * x2 * x2 * y2 * y2 + d * x2 * x2 * y1 * y1 * y1 * y1 * y2 * y2 - 2 * d * x2 * x2 * y1 * y1 * y2 * y2 + d * x2 * x2 * y2 * y2 + 2 * x1 * x1 * x2 * x2 * y2 * y2 - x1 * x1 * x2 * x2 + x1 * x1 * y2 * y2 - 2 * x2 * x2 * y1 * y1 * y2 * y2 + x2 * x2 * y1 * y1 + 2 * x2 * x2 * y2 * y2 - x2 * x2 - y1 * y1 * y2 * y2 + y2 * y2 + 1) * (-(x2 * x2) + y2 * y2 - 1 - d * (x2 * x2) * (y2 * y2)) := by grobner
theorem assocX (d x1 y1 x2 y2 x3 y3 : Fin n) : ((x1 * y2 + x2 * y1) * (1 - d * x1 * x2 * y1 * y2) * y3 + x3 * (y1 * y2 + x1 * x2) * (1 + d * x1 * x2 * y1 * y2)) * ((1 + d * x2 * x3 * y2 * y3) * (1 - d * x2 * x3 * y2 * y3) + d * (x2 * y3 + x3 * y2) * (y2 * y3 + x2 * x3) * x1 * y1) -
      (x1 * (y2 * y3 + x2 * x3) * (1 + d * x2 * x3 * y2 * y3) + (x2 * y3 + x3 * y2) * (1 - d * x2 * x3 * y2 * y3) * y1) * ((1 + d * x1 * x2 * y1 * y2) * (1 - d * x1 * x2 * y1 * y2) + d * (x1 * y2 + x2 * y1) * (y1 * y2 + x1 * x2) * x3 * y3) =
      (-d * d * x1 * x2 * x2 * x2 * x2 * x3 * x3 * y2 * y2 * y2 * y3 - d * d * x1 * x2 * x2 * x2 * x3 * y2 * y2 * y2 * y2 * y3 * y3 + d * d * x2 * x2 * x2 * x2 * x3 * y1 * y2 * y2 * y2 * y3 * y3 + d * d * x2 * x2 * x2 * x3 * x3 * y1 * y2 * y2 * y2 * y2 * y3 - d * x1 * x2 * x2 * x2 * x2 * x3 * x3 * y2 * y3 - d * x1 * x2 * x2 * x2 * x3 * x3 * x3 * y2 * y2 - d * x1 * x2 * x2 * x2 * x3 * y2 * y2 + d * x1 * x2 * x2 * y2 * y2 * y2 * y3 * y3 * y3 - d * x1 * x2 * x2 * y2 * y2 * y2 * y3 + d * x1 * x2 * x3 * y2 * y2 * y2 * y2 * y3 * y3 + d * x2 * x2 * x2 * x2 * x3 * y1 * y2 * y3 * y3 + d * x2 * x2 * x2 * y1 * y2 * y2 * y3 * y3 * y3 - d * x2 * x2 * x2 * y1 * y2 * y2 * y3 - d * x2 * x2 * x3 * x3 * x3 * y1 * y2 * y2 * y2 - d * x2 * x2 * x3 * y1 * y2 * y2 * y2 - d * x2 * x3 * x3 * y1 * y2 * y2 * y2 * y2 * y3) * (-(x1 * x1) + y1 * y1 - 1 - d * (x1 * x1) * (y1 * y1)) + (d * d * x1 * x1 * x2 * x2 * x3 * x3 * x3 * y1 * y2 * y3 * y3 - d * d * x1 * x1 * x2 * x3 * x3 * y1 * y2 * y2 * y3 * y3 * y3 - d * d * x1 * x2 * x2 * x3 * x3 * y1 * y1 * y2 * y3 * y3 * y3 + d * d * x1 * x2 * x3 * x3 * x3 * y1 * y1 * y2 * y2 * y3 * y3 + d * x1 * x1 * x1 * x2 * x2 * x3 * x3 * y2 * y3 + d * x1 * x1 * x1 * x2 * x3 * x3 * x3 * y3 * y3 + d * x1 * x1 * x1 * x2 * x3 * y2 * y2 * y3 * y3 + d * x1 * x1 * x1 * x3 * x3 * y2 * y3 * y3 * y3 - d * x1 * x1 * x2 * x2 * x3 * y1 * y2 * y3 * y3 - d * x1 * x1 * x2 * x3 * x3 * y1 * y2 * y2 * y3 + d * x1 * x1 * x2 * x3 * x3 * y1 * y3 * y3 * y3 + d * x1 * x1 * x3 * x3 * x3 * y1 * y2 * y3 * y3 - d * x1 * x2 * x2 * x3 * x3 * y1 * y1 * y2 * y3 + d * x1 * x2 * x2 * x3 * x3 * y2 * y3 - d * x1 * x2 * x3 * x3 * x3 * y1 * y1 * y3 * y3 + d * x1 * x2 * x3 * x3 * x3 * y3 * y3 - d * x1 * x2 * x3 * y1 * y1 * y2 * y2 * y3 * y3 + d * x1 * x2 * x3 * y2 * y2 * y3 * y3 - d * x1 * x3 * x3 * y1 * y1 * y2 * y3 * y3 * y3 + d * x1 * x3 * x3 * y2 * y3 * y3 * y3 + d * x2 * x2 * x3 * y1 * y1 * y1 * y2 * y3 * y3 - d * x2 * x2 * x3 * y1 * y2 * y3 * y3 + d * x2 * x3 * x3 * y1 * y1 * y1 * y2 * y2 * y3 - d * x2 * x3 * x3 * y1 * y1 * y1 * y3 * y3 * y3 - d * x2 * x3 * x3 * y1 * y2 * y2 * y3 + d * x2 * x3 * x3 * y1 * y3 * y3 * y3 - d * x3 * x3 * x3 * y1 * y1 * y1 * y2 * y3 * y3 + d * x3 * x3 * x3 * y1 * y2 * y3 * y3 + x1 * x1 * x1 * x2 * x3 * x3 * x3 - x1 * x1 * x1 * x2 * x3 * y3 * y3 + x1 * x1 * x1 * x2 * x3 + x1 * x1 * x1 * x3 * x3 * y2 * y3 - x1 * x1 * x1 * y2 * y3 * y3 * y3 + x1 * x1 * x1 * y2 * y3 + x1 * x1 * x2 * x3 * x3 * y1 * y3 - x1 * x1 * x2 * y1 * y3 * y3 * y3 + x1 * x1 * x2 * y1 * y3 + x1 * x1 * x3 * x3 * x3 * y1 * y2 - x1 * x1 * x3 * y1 * y2 * y3 * y3 + x1 * x1 * x3 * y1 * y2 - x1 * x2 * x3 * x3 * x3 * y1 * y1 + x1 * x2 * x3 * x3 * x3 + x1 * x2 * x3 * y1 * y1 * y3 * y3 - x1 * x2 * x3 * y1 * y1 - x1 * x2 * x3 * y3 * y3 + x1 * x2 * x3 - x1 * x3 * x3 * y1 * y1 * y2 * y3 + x1 * x3 * x3 * y2 * y3 + x1 * y1 * y1 * y2 * y3 * y3 * y3 - x1 * y1 * y1 * y2 * y3 - x1 * y2 * y3 * y3 * y3 + x1 * y2 * y3 - x2 * x3 * x3 * y1 * y1 * y1 * y3 + x2 * x3 * x3 * y1 * y3 + x2 * y1 * y1 * y1 * y3 * y3 * y3 - x2 * y1 * y1 * y1 * y3 - x2 * y1 * y3 * y3 * y3 + x2 * y1 * y3 - x3 * x3 * x3 * y1 * y1 * y1 * y2 + x3 * x3 * x3 * y1 * y2 + x3 * y1 * y1 * y1 * y2 * y3 * y3 - x3 * y1 * y1 * y1 * y2 - x3 * y1 * y2 * y3 * y3 + x3 * y1 * y2) * (-(x2 * x2) + y2 * y2 - 1 - d * (x2 * x2) * (y2 * y2)) + (-d * x1 * x1 * x2 * x2 * x3 * y1 * y2 + d * x1 * x1 * x2 * y1 * y2 * y2 * y3 + d * x1 * x2 * x2 * y1 * y1 * y2 * y3 - d * x1 * x2 * x3 * y1 * y1 * y2 * y2 - x1 * x1 * x1 * x2 * x2 * x2 * x3 - x1 * x1 * x1 * x2 * x2 * y2 * y3 + x1 * x1 * x1 * x2 * x3 * y2 * y2 - x1 * x1 * x1 * x2 * x3 + x1 * x1 * x1 * y2 * y2 * y2 * y3 - x1 * x1 * x1 * y2 * y3 - x1 * x1 * x2 * x2 * x2 * y1 * y3 - x1 * x1 * x2 * x2 * x3 * y1 * y2 + x1 * x1 * x2 * y1 * y2 * y2 * y3 - x1 * x1 * x2 * y1 * y3 + x1 * x1 * x3 * y1 * y2 * y2 * y2 - x1 * x1 * x3 * y1 * y2 + x1 * x2 * x2 * x2 * x3 * y1 * y1 - x1 * x2 * x2 * x2 * x3 + x1 * x2 * x2 * y1 * y1 * y2 * y3 - x1 * x2 * x2 * y2 * y3 - x1 * x2 * x3 * y1 * y1 * y2 * y2 + x1 * x2 * x3 * y1 * y1 + x1 * x2 * x3 * y2 * y2 - x1 * x2 * x3 - x1 * y1 * y1 * y2 * y2 * y2 * y3 + x1 * y1 * y1 * y2 * y3 + x1 * y2 * y2 * y2 * y3 - x1 * y2 * y3 + x2 * x2 * x2 * y1 * y1 * y1 * y3 - x2 * x2 * x2 * y1 * y3 + x2 * x2 * x3 * y1 * y1 * y1 * y2 - x2 * x2 * x3 * y1 * y2 - x2 * y1 * y1 * y1 * y2 * y2 * y3 + x2 * y1 * y1 * y1 * y3 + x2 * y1 * y2 * y2 * y3 - x2 * y1 * y3 - x3 * y1 * y1 * y1 * y2 * y2 * y2 + x3 * y1 * y1 * y1 * y2 + x3 * y1 * y2 * y2 * y2 - x3 * y1 * y2) * (-(x3 * x3) + y3 * y3 - 1 - d * (x3 * x3) * (y3 * y3)) := by grobner
theorem assocY (d x1 y1 x2 y2 x3 y3 : Fin n) : ((y1 * y2 + x1 * x2) * (1 + d * x1 * x2 * y1 * y2) * y3 + (x1 * y2 + x2 * y1) * (1 - d * x1 * x2 * y1 * y2) * x3) * ((1 + d * x2 * x3 * y2 * y3) * (1 - d * x2 * x3 * y2 * y3) - d * (x2 * y3 + x3 * y2) * (y2 * y3 + x2 * x3) * x1 * y1) -
      (y1 * (y2 * y3 + x2 * x3) * (1 + d * x2 * x3 * y2 * y3) + x1 * (x2 * y3 + x3 * y2) * (1 - d * x2 * x3 * y2 * y3)) * ((1 + d * x1 * x2 * y1 * y2) * (1 - d * x1 * x2 * y1 * y2) - d * (x1 * y2 + x2 * y1) * (y1 * y2 + x1 * x2) * x3 * y3) =
      (d * d * x1 * x2 * x2 * x2 * x2 * x3 * y2 * y2 * y2 * y3 * y3 + d * d * x1 * x2 * x2 * x2 * x3 * x3 * y2 * y2 * y2 * y2 * y3 - d * d * x2 * x2 * x2 * x2 * x3 * x3 * y1 * y2 * y2 * y2 * y3 - d * d * x2 * x2 * x2 * x3 * y1 * y2 * y2 * y2 * y2 * y3 * y3 + d * x1 * x2 * x2 * x2 * x2 * x3 * y2 * y3 * y3 + d * x1 * x2 * x2 * x2 * y2 * y2 * y3 * y3 * y3 - d * x1 * x2 * x2 * x2 * y2 * y2 * y3 - d * x1 * x2 * x2 * x3 * x3 * x3 * y2 * y2 * y2 - d * x1 * x2 * x2 * x3 * y2 * y2 * y2 - d * x1 * x2 * x3 * x3 * y2 * y2 * y2 * y2 * y3 - d * x2 * x2 * x2 * x2 * x3 * x3 * y1 * y2 * y3 - d * x2 * x2 * x2 * x3 * x3 * x3 * y1 * y2 * y2 - d * x2 * x2 * x2 * x3 * y1 * y2 * y2 + d * x2 * x2 * y1 * y2 * y2 * y2 * y3 * y3 * y3 - d * x2 * x2 * y1 * y2 * y2 * y2 * y3 + d * x2 * x3 * y1 * y2 * y2 * y2 * y2 * y3 * y3) * (-(x1 * x1) + y1 * y1 - 1 - d * (x1 * x1) * (y1 * y1)) + (d * d * x1 * x1 * x2 * x2 * x3 * x3 * y1 * y2 * y3 * y3 * y3 - d * d * x1 * x1 * x2 * x3 * x3 * x3 * y1 * y2 * y2 * y3 * y3 - d * d * x1 * x2 * x2 * x3 * x3 * x3 * y1 * y1 * y2 * y3 * y3 + d * d * x1 * x2 * x3 * x3 * y1 * y1 * y2 * y2 * y3 * y3 * y3 - d * x1 * x1 * x1 * x2 * x2 * x3 * y2 * y3 * y3 - d * x1 * x1 * x1 * x2 * x3 * x3 * y2 * y2 * y3 + d * x1 * x1 * x1 * x2 * x3 * x3 * y3 * y3 * y3 + d * x1 * x1 * x1 * x3 * x3 * x3 * y2 * y3 * y3 + d * x1 * x1 * x2 * x2 * x3 * x3 * y1 * y2 * y3 + d * x1 * x1 * x2 * x3 * x3 * x3 * y1 * y3 * y3 + d * x1 * x1 * x2 * x3 * y1 * y2 * y2 * y3 * y3 + d * x1 * x1 * x3 * x3 * y1 * y2 * y3 * y3 * y3 + d * x1 * x2 * x2 * x3 * y1 * y1 * y2 * y3 * y3 - d * x1 * x2 * x2 * x3 * y2 * y3 * y3 + d * x1 * x2 * x3 * x3 * y1 * y1 * y2 * y2 * y3 - d * x1 * x2 * x3 * x3 * y1 * y1 * y3 * y3 * y3 - d * x1 * x2 * x3 * x3 * y2 * y2 * y3 + d * x1 * x2 * x3 * x3 * y3 * y3 * y3 - d * x1 * x3 * x3 * x3 * y1 * y1 * y2 * y3 * y3 + d * x1 * x3 * x3 * x3 * y2 * y3 * y3 - d * x2 * x2 * x3 * x3 * y1 * y1 * y1 * y2 * y3 + d * x2 * x2 * x3 * x3 * y1 * y2 * y3 - d * x2 * x3 * x3 * x3 * y1 * y1 * y1 * y3 * y3 + d * x2 * x3 * x3 * x3 * y1 * y3 * y3 - d * x2 * x3 * y1 * y1 * y1 * y2 * y2 * y3 * y3 + d * x2 * x3 * y1 * y2 * y2 * y3 * y3 - d * x3 * x3 * y1 * y1 * y1 * y2 * y3 * y3 * y3 + d * x3 * x3 * y1 * y2 * y3 * y3 * y3 + x1 * x1 * x1 * x2 * x3 * x3 * y3 - x1 * x1 * x1 * x2 * y3 * y3 * y3 + x1 * x1 * x1 * x2 * y3 + x1 * x1 * x1 * x3 * x3 * x3 * y2 - x1 * x1 * x1 * x3 * y2 * y3 * y3 + x1 * x1 * x1 * x3 * y2 + x1 * x1 * x2 * x3 * x3 * x3 * y1 - x1 * x1 * x2 * x3 * y1 * y3 * y3 + x1 * x1 * x2 * x3 * y1 + x1 * x1 * x3 * x3 * y1 * y2 * y3 - x1 * x1 * y1 * y2 * y3 * y3 * y3 + x1 * x1 * y1 * y2 * y3 - x1 * x2 * x3 * x3 * y1 * y1 * y3 + x1 * x2 * x3 * x3 * y3 + x1 * x2 * y1 * y1 * y3 * y3 * y3 - x1 * x2 * y1 * y1 * y3 - x1 * x2 * y3 * y3 * y3 + x1 * x2 * y3 - x1 * x3 * x3 * x3 * y1 * y1 * y2 + x1 * x3 * x3 * x3 * y2 + x1 * x3 * y1 * y1 * y2 * y3 * y3 - x1 * x3 * y1 * y1 * y2 - x1 * x3 * y2 * y3 * y3 + x1 * x3 * y2 - x2 * x3 * x3 * x3 * y1 * y1 * y1 + x2 * x3 * x3 * x3 * y1 + x2 * x3 * y1 * y1 * y1 * y3 * y3 - x2 * x3 * y1 * y1 * y1 - x2 * x3 * y1 * y3 * y3 + x2 * x3 * y1 - x3 * x3 * y1 * y1 * y1 * y2 * y3 + x3 * x3 * y1 * y2 * y3 + y1 * y1 * y1 * y2 * y3 * y3 * y3 - y1 * y1 * y1 * y2 * y3 - y1 * y2 * y3 * y3 * y3 + y1 * y2 * y3) * (-(x2 * x2) + y2 * y2 - 1 - d * (x2 * x2) * (y2 * y2)) + (-d * x1 * x1 * x2 * x2 * y1 * y2 * y3 + d * x1 * x1 * x2 * x3 * y1 * y2 * y2 + d * x1 * x2 * x2 * x3 * y1 * y1 * y2 - d * x1 * x2 * y1 * y1 * y2 * y2 * y3 - x1 * x1 * x1 * x2 * x2 * x2 * y3 - x1 * x1 * x1 * x2 * x2 * x3 * y2 + x1 * x1 * x1 * x2 * y2 * y2 * y3 - x1 * x1 * x1 * x2 * y3 + x1 * x1 * x1 * x3 * y2 * y2 * y2 - x1 * x1 * x1 * x3 * y2 - x1 * x1 * x2 * x2 * x2 * x3 * y1 - x1 * x1 * x2 * x2 * y1 * y2 * y3 + x1 * x1 * x2 * x3 * y1 * y2 * y2 - x1 * x1 * x2 * x3 * y1 + x1 * x1 * y1 * y2 * y2 * y2 * y3 - x1 * x1 * y1 * y2 * y3 + x1 * x2 * x2 * x2 * y1 * y1 * y3 - x1 * x2 * x2 * x2 * y3 + x1 * x2 * x2 * x3 * y1 * y1 * y2 - x1 * x2 * x2 * x3 * y2 - x1 * x2 * y1 * y1 * y2 * y2 * y3 + x1 * x2 * y1 * y1 * y3 + x1 * x2 * y2 * y2 * y3 - x1 * x2 * y3 - x1 * x3 * y1 * y1 * y2 * y2 * y2 + x1 * x3 * y1 * y1 * y2 + x1 * x3 * y2 * y2 * y2 - x1 * x3 * y2 + x2 * x2 * x2 * x3 * y1 * y1 * y1 - x2 * x2 * x2 * x3 * y1 + x2 * x2 * y1 * y1 * y1 * y2 * y3 - x2 * x2 * y1 * y2 * y3 - x2 * x3 * y1 * y1 * y1 * y2 * y2 + x2 * x3 * y1 * y1 * y1 + x2 * x3 * y1 * y2 * y2 - x2 * x3 * y1 - y1 * y1 * y1 * y2 * y2 * y2 * y3 + y1 * y1 * y1 * y2 * y3 + y1 * y2 * y2 * y2 * y3 - y1 * y2 * y3) * (-(x3 * x3) + y3 * y3 - 1 - d * (x3 * x3) * (y3 * y3)) := by grobner
include F
theorem Fld.den {x1 y1 x2 y2 : Fin n} (h1 : On d x1 y1) (h2 : On d x2 y2) (e : Fin n) (he : e * e = 1) : d * x1 * x2 * y1 * y2 ≠ e := fun hD => by
  unfold On at h1 h2
  have h10 := F.one
  have hr := F.root
  have hx1 : x1 ≠ 0 := fun h => by subst h; grobner
  have hy1 : y1 ≠ 0 := fun h => by subst h; grobner
  have hx2 : x2 ≠ 0 := fun h => by subst h; grobner
  have key : d * (x1 * x1) * (y1 * y1) * (y2 * y2 - x2 * x2) = y1 * y1 - x1 * x1 := by grobner
  have h3 : (y1 + e * i * x1) * (y1 + e * i * x1) = d * ((x1 * y1 * (y2 + i * x2)) * (x1 * y1 * (y2 + i * x2))) := by grobner
  have h4 : (y1 - e * i * x1) * (y1 - e * i * x1) = d * ((x1 * y1 * (y2 - i * x2)) * (x1 * y1 * (y2 - i * x2))) := by grobner
  by_cases ha : y2 + i * x2 = 0
  · by_cases hb : y2 - i * x2 = 0
    · have hi : i ≠ 0 := fun h => by subst h; grobner
      have : (2 : Fin n) * (i * x2) = 0 := by grobner
      exact F.mul_ne F.two (F.mul_ne hi hx2) this
    · exact F.noratio (F.mul_ne (F.mul_ne hx1 hy1) hb) h4
  · exact F.noratio (F.mul_ne (F.mul_ne hx1 hy1) ha) h3
theorem Fld.denP {x1 y1 x2 y2 : Fin n} (h1 : On d x1 y1) (h2 : On d x2 y2) : 1 + d * x1 * x2 * y1 * y2 ≠ 0 := fun h =>
  F.den h1 h2 (-1) (by grobner) (by grobner)
theorem Fld.denM {x1 y1 x2 y2 : Fin n} (h1 : On d x1 y1) (h2 : On d x2 y2) : 1 - d * x1 * x2 * y1 * y2 ≠ 0 := fun h =>
  F.den h1 h2 1 (by grobner) (by grobner)
theorem closed_poly {x1 y1 x2 y2 : Fin n} (h1 : On d x1 y1) (h2 : On d x2 y2) {a b : Fin n} (ha : a * (1 + d * x1 * x2 * y1 * y2) = x1 * y2 + x2 * y1) (hb : b * (1 - d * x1 * x2 * y1 * y2) = y1 * y2 + x1 * x2) : On d a b := by
  have hp := F.denP h1 h2
  have hm := F.denM h1 h2
  have hC : -((x1 * y2 + x2 * y1) * (x1 * y2 + x2 * y1) * ((1 - d * x1 * x2 * y1 * y2) * (1 - d * x1 * x2 * y1 * y2))) + (y1 * y2 + x1 * x2) * (y1 * y2 + x1 * x2) * ((1 + d * x1 * x2 * y1 * y2) * (1 + d * x1 * x2 * y1 * y2)) =
      ((1 + d * x1 * x2 * y1 * y2) * (1 - d * x1 * x2 * y1 * y2)) * ((1 + d * x1 * x2 * y1 * y2) * (1 - d * x1 * x2 * y1 * y2)) + d * ((x1 * y2 + x2 * y1) * (x1 * y2 + x2 * y1)) * ((y1 * y2 + x1 * x2) * (y1 * y2 + x1 * x2)) := by
    exact two_rows (closedId d x1 y1 x2 y2) h1.sub h2.sub
  unfold On
  have hp2 := F.mul_ne (F.mul_ne hp hm) (F.mul_ne hp hm)
  refine F.cancel hp2 ?_
  rw [← ha, ← hb] at hC
  generalize 1 + d * x1 * x2 * y1 * y2 = p at *
  generalize 1 - d * x1 * x2 * y1 * y2 = m at *
  clear ha hb hp hm hp2 h1 h2
  grobner
theorem assoc_poly {x1 y1 x2 y2 x3 y3 a b a' b' u v u' v' : Fin n} (h1 : On d x1 y1) (h2 : On d x2 y2) (h3 : On d x3 y3)
    (ha : a * (1 + d * x1 * x2 * y1 * y2) = x1 * y2 + x2 * y1) (hb : b * (1 - d * x1 * x2 * y1 * y2) = y1 * y2 + x1 * x2)
    (ha' : a' * (1 + d * x2 * x3 * y2 * y3) = x2 * y3 + x3 * y2) (hb' : b' * (1 - d * x2 * x3 * y2 * y3) = y2 * y3 + x2 * x3)
    (hu : u * (1 + d * a * x3 * b * y3) = a * y3 + x3 * b) (hv : v * (1 - d * a * x3 * b * y3) = b * y3 + a * x3)
    (hu' : u' * (1 + d * x1 * a' * y1 * b') = x1 * b' + a' * y1) (hv' : v' * (1 - d * x1 * a' * y1 * b') = y1 * b' + x1 * a') : u = u' ∧ v = v' := by
  have o12 := closed_poly F h1 h2 ha hb
  have o23 := closed_poly F h2 h3 ha' hb'
  have hp := F.denP h1 h2
  have hm := F.denM h1 h2
  have hp' := F.denP h2 h3
  have hm' := F.denM h2 h3
  have kp := F.denP o12 h3
  have km := F.denM o12 h3
  have kp' := F.denP h1 o23
  have km' := F.denM h1 o23
  have e1 := h1.sub
  have e2 := h2.sub
  have e3 := h3.sub
  clear h1 h2 h3 o12 o23
  have hX : ((x1 * y2 + x2 * y1) * (1 - d * x1 * x2 * y1 * y2) * y3 + x3 * (y1 * y2 + x1 * x2) * (1 + d * x1 * x2 * y1 * y2)) * ((1 + d * x2 * x3 * y2 * y3) * (1 - d * x2 * x3 * y2 * y3) + d * (x2 * y3 + x3 * y2) * (y2 * y3 + x2 * x3) * x1 * y1) =
      (x1 * (y2 * y3 + x2 * x3) * (1 + d * x2 * x3 * y2 * y3) + (x2 * y3 + x3 * y2) * (1 - d * x2 * x3 * y2 * y3) * y1) * ((1 + d * x1 * x2 * y1 * y2) * (1 - d * x1 * x2 * y1 * y2) + d * (x1 * y2 + x2 * y1) * (y1 * y2 + x1 * x2) * x3 * y3) := by
    exact three_rows (assocX d x1 y1 x2 y2 x3 y3) e1 e2 e3
  have hY : ((y1 * y2 + x1 * x2) * (1 + d * x1 * x2 * y1 * y2) * y3 + (x1 * y2 + x2 * y1) * (1 - d * x1 * x2 * y1 * y2) * x3) * ((1 + d * x2 * x3 * y2 * y3) * (1 - d * x2 * x3 * y2 * y3) - d * (x2 * y3 + x3 * y2) * (y2 * y3 + x2 * x3) * x1 * y1) =
      (y1 * (y2 * y3 + x2 * x3) * (1 + d * x2 * x3 * y2 * y3) + x1 * (x2 * y3 + x3 * y2) * (1 - d * x2 * x3 * y2 * y3)) * ((1 + d * x1 * x2 * y1 * y2) * (1 - d * x1 * x2 * y1 * y2) - d * (x1 * y2 + x2 * y1) * (y1 * y2 + x1 * x2) * x3 * y3) := by
    exact three_rows (assocY d x1 y1 x2 y2 x3 y3) e1 e2 e3
  clear e1 e2 e3
  rw [← ha, ← hb, ← ha', ← hb'] at hX hY
  have hp2 := F.mul_ne hp hm
  have hp2' := F.mul_ne hp' hm'
  generalize 1 + d * x1 * x2 * y1 * y2 = p at *
  generalize 1 - d * x1 * x2 * y1 * y2 = m at *
  generalize 1 + d * x2 * x3 * y2 * y3 = p' at *
  generalize 1 - d * x2 * x3 * y2 * y3 = m' at *
  clear ha hb ha' hb' hp hm hp' hm' x2 y2
  have f1 : a * p * m * y3 + x3 * (b * m) * p = (p * m) * (a * y3 + x3 * b) := by grobner
  have f2 : p' * m' + d * (a' * p') * (b' * m') * x1 * y1 = (p' * m') * (1 + d * x1 * a' * y1 * b') := by grobner
  have f3 : x1 * (b' * m') * p' + a' * p' * m' * y1 = (p' * m') * (x1 * b' + a' * y1) := by grobner
  have f4 : p * m + d * (a * p) * (b * m) * x3 * y3 = (p * m) * (1 + d * a * x3 * b * y3) := by grobner
  have f5 : b * m * p * y3 + a * p * m * x3 = (p * m) * (b * y3 + a * x3) := by grobner
  have f6 : p' * m' - d * (a' * p') * (b' * m') * x1 * y1 = (p' * m') * (1 - d * x1 * a' * y1 * b') := by grobner
  have f7 : y1 * (b' * m') * p' + x1 * (a' * p') * m' = (p' * m') * (y1 * b' + x1 * a') := by grobner
  have f8 : p * m - d * (a * p) * (b * m) * x3 * y3 = (p * m) * (1 - d * a * x3 * b * y3) := by grobner
  rw [f1, f2, f3, f4, ← hu, ← hu'] at hX
  rw [f5, f6, f7, f8, ← hv, ← hv'] at hY
  clear f1 f2 f3 f4 f5 f6 f7 f8 hu hu' hv hv'
  generalize 1 + d * x1 * a' * y1 * b' = k' at *
  generalize 1 + d * a * x3 * b * y3 = k at *
  generalize 1 - d * x1 * a' * y1 * b' = l' at *
  generalize 1 - d * a * x3 * b * y3 = l at *
  generalize p * m = s at *
  generalize p' * m' = s' at *
  constructor
  · refine F.cancel (a := s * s' * k * k') (F.mul_ne (F.mul_ne (F.mul_ne hp2 hp2') kp) kp') ?_
    grobner
  · refine F.cancel (a := s * s' * l * l') (F.mul_ne (F.mul_ne (F.mul_ne hp2 hp2') km) km') ?_
    grobner
omit F
end
structure Pt (n : Nat) [NeZero n] (d : Fin n) where
  x : Fin n
  y : Fin n
  on : On d x y
theorem Pt.ext {n : Nat} [NeZero n] {d : Fin n} {p q : Pt n d} (hx : p.x = q.x) (hy : p.y = q.y) : p = q := by
  cases p; cases q; cases hx; cases hy; rfl
section
variable {n : Nat} [NeZero n] {iv : Fin n → Fin n} {d i : Fin n} (F : Fld n iv d i)
def Pt.zero : Pt n d := ⟨0, 1, by unfold On; grobner⟩
def Pt.neg (p : Pt n d) : Pt n d := ⟨-p.x, p.y, by have := p.on; unfold On at *; grobner⟩
def Pt.add (p q : Pt n d) : Pt n d :=
  ⟨(p.x * q.y + q.x * p.y) * iv (1 + d * p.x * q.x * p.y * q.y), (p.y * q.y + p.x * q.x) * iv (1 - d * p.x * q.x * p.y * q.y),
    closed_poly F p.on q.on (by have := F.inv _ (F.denP p.on q.on); grobner) (by have := F.inv _ (F.denM p.on q.on); grobner)⟩
theorem add_x (p q : Pt n d) : (Pt.add F p q).x * (1 + d * p.x * q.x * p.y * q.y) = p.x * q.y + q.x * p.y := by
  have := F.inv _ (F.denP p.on q.on)
  simp only [Pt.add]
  generalize 1 + d * p.x * q.x * p.y * q.y = k at *
  grobner
theorem add_y (p q : Pt n d) : (Pt.add F p q).y * (1 - d * p.x * q.x * p.y * q.y) = p.y * q.y + p.x * q.x := by
  have := F.inv _ (F.denM p.on q.on)
  simp only [Pt.add]
  generalize 1 - d * p.x * q.x * p.y * q.y = k at *
  grobner
theorem add_eq {p q r : Pt n d} (hx : r.x * (1 + d * p.x * q.x * p.y * q.y) = p.x * q.y + q.x * p.y) (hy : r.y * (1 - d * p.x * q.x * p.y * q.y) = p.y * q.y + p.x * q.x) : Pt.add F p q = r := by
  apply Pt.ext
  · apply F.cancel (F.denP p.on q.on)
    rw [← add_x F] at hx
    grobner
  · apply F.cancel (F.denM p.on q.on)
    rw [← add_y F] at hy
    grobner
theorem add_comm (p q : Pt n d) : Pt.add F p q = Pt.add F q p := by
  apply add_eq
  · have := add_x F q p; grobner
  · have := add_y F q p; grobner
theorem add_zero (p : Pt n d) : Pt.add F p Pt.zero = p := by
  apply add_eq <;> simp only [Pt.zero] <;> grobner
theorem zero_add (p : Pt n d) : Pt.add F Pt.zero p = p := by rw [add_comm, add_zero]
theorem add_neg (p : Pt n d) : Pt.add F p p.neg = Pt.zero := by
  have := p.on
  unfold On at this
  apply add_eq <;> simp only [Pt.zero, Pt.neg] <;> grobner
theorem add_assoc (p q r : Pt n d) : Pt.add F (Pt.add F p q) r = Pt.add F p (Pt.add F q r) := by
  obtain ⟨h1, h2⟩ := assoc_poly F p.on q.on r.on (add_x F p q) (add_y F p q) (add_x F q r) (add_y F q r) (add_x F (Pt.add F p q) r) (add_y F (Pt.add F p q) r) (add_x F p (Pt.add F q r)) (add_y F p (Pt.add F q r))
  exact Pt.ext h1 h2
def Pt.mul (k : Nat) (p : Pt n d) : Pt n d := match k with
  | 0 => Pt.zero
  | k + 1 => Pt.add F (Pt.mul k p) p
theorem mul_add (a b : Nat) (p : Pt n d) : Pt.mul F (a + b) p = Pt.add F (Pt.mul F a p) (Pt.mul F b p) := by
  induction b with
  | zero => rw [Nat.add_zero, Pt.mul, add_zero]
  | succ b ih => rw [← Nat.add_assoc, Pt.mul, ih, Pt.mul, add_assoc]
theorem mul_one (p : Pt n d) : Pt.mul F 1 p = p := by rw [Pt.mul, Pt.mul, zero_add]
theorem mul_two (p : Pt n d) : Pt.mul F 2 p = Pt.add F p p := by rw [Pt.mul, mul_one]
theorem mul_zero (k : Nat) : Pt.mul F k (Pt.zero : Pt n d) = Pt.zero := by
  induction k with
  | zero => rfl
  | succ k ih => rw [Pt.mul, ih, zero_add]
theorem mul_mul (a b : Nat) (p : Pt n d) : Pt.mul F (a * b) p = Pt.mul F a (Pt.mul F b p) := by
  induction a with
  | zero => rw [Nat.zero_mul, Pt.mul, Pt.mul]
  | succ a ih => rw [Nat.succ_mul, mul_add, ih, Pt.mul]
theorem mul_mod {l : Nat} {p : Pt n d} (hl : Pt.mul F l p = Pt.zero) (k : Nat) : Pt.mul F (k % l) p = Pt.mul F k p := by
  have h : Pt.mul F k p = Pt.mul F (l * (k / l) + k % l) p := by rw [Nat.div_add_mod]
  rw [h, mul_add, Nat.mul_comm, mul_mul, hl, mul_zero, zero_add]
end
end Go.Cv
set_option linter.unusedSimpArgs false
set_option linter.unusedVariables false
namespace Go.NT
theorem pwf_eq (m a : Nat) : ∀ (f e : Nat), pwf m a f e = pw m a f e
  | 0, _ => rfl
  | f + 1, e => by simp only [pwf, pw, pwf_eq m a f]
theorem pwf_pow {m a f e : Nat} (h : e < 2 ^ f) : pwf m a f e = a ^ e % m := by rw [pwf_eq, pw_eq m a f e h]
def certB (n q k a f : Nat) : Bool := n == q * k + 1 && decide (q * k < 2 ^ f) && pwf n a f (q * k) == 1 && Nat.gcd (pwf n a f k + n - 1) n == 1
theorem certB_spec {n q k a f : Nat} (hq : Pr q) (h : certB n q k a f = true) : n = q * k + 1 ∧ a ^ (q * k) % n = 1 ∧ Nat.gcd (a ^ k % n + n - 1) n = 1 := by
  simp only [certB, Bool.and_eq_true, beq_iff_eq, decide_eq_true_eq] at h
  obtain ⟨⟨⟨h1, h2⟩, h3⟩, h4⟩ := h
  have h5 : k < 2 ^ f := by
    have : k ≤ q * k := Nat.le_mul_of_pos_left k (by have := hq.1; omega)
    omega
  rw [pwf_pow h2] at h3
  rw [pwf_pow h5] at h4
  exact ⟨h1, h3, h4⟩
theorem cert_one {n q k a f : Nat} (hq : Pr q) (h : (certB n q k a f && decide (2 ≤ n) && decide (n < q * q)) = true) : Pr n := by
  simp only [Bool.and_eq_true, decide_eq_true_eq] at h
  obtain ⟨h1, h2, h3⟩ := certB_spec hq h.1.1
  exact pock_one h.1.2 hq h1 h.2 h2 h3
theorem cert_two {n q k a q2 k2 a2 f : Nat} (hq : Pr q) (hq2 : Pr q2) (h : (certB n q k a f && certB n q2 k2 a2 f && decide (2 ≤ n) && decide (q ≠ q2) && decide (n < (q * q2) * (q * q2))) = true) : Pr n := by
  simp only [Bool.and_eq_true, decide_eq_true_eq] at h
  obtain ⟨h1, h2, h3⟩ := certB_spec hq h.1.1.1.1
  obtain ⟨h1', h2', h3'⟩ := certB_spec hq2 h.1.1.1.2
  exact pock_two h.1.1.2 hq h1 hq2 h1' h.1.2 h.2 h2 h3 h2' h3'
theorem pr1 : Pr 991 := small_prime (f := 30) (by decide) (by decide) (by decide +kernel)
theorem pr2 : Pr 103 := small_prime (f := 9) (by decide) (by decide) (by decide +kernel)
theorem pr3 : Pr 8574133 := cert_two (q := 991) (k := 8652) (a := 2) (q2 := 103) (k2 := 83244) (a2 := 2) (f := 25) pr1 pr2 (by decide +kernel)
theorem pr4 : Pr 127 := small_prime (f := 10) (by decide) (by decide) (by decide +kernel)
theorem pr5 : Pr 1919519569386763 := cert_two (q := 8574133) (k := 223873314) (a := 2) (q2 := 127) (k2 := 15114327318006) (a2 := 2) (f := 52) pr3 pr4 (by decide +kernel)
theorem pr6 : Pr 569003 := small_prime (f := 753) (by decide) (by decide) (by decide +kernel)
theorem pr7 : Pr 2773320623 := cert_one (q := 569003) (k := 4874) (a := 2) (f := 33) pr6 (by decide +kernel)
theorem pr8 : Pr 72106336199 := cert_one (q := 2773320623) (k := 26) (a := 2) (f := 38) pr7 (by decide +kernel)
theorem pr9 : Pr 75445702479781427272750846543864801 := cert_two (q := 1919519569386763) (k := 39304471641247389600) (a := 2) (q2 := 72106336199) (k2 := 1046311689884858398375200) (a2 := 2) (f := 117) pr5 pr8 (by decide +kernel)
theorem pr10 : Pr 430751 := small_prime (f := 655) (by decide) (by decide) (by decide +kernel)
theorem pr11 : Pr 4153 := small_prime (f := 63) (by decide) (by decide) (by decide +kernel)
theorem pr12 : Pr 31757755568855353 := cert_two (q := 430751) (k := 73726481352) (a := 2) (q2 := 4153) (k2 := 7646943310584) (a2 := 2) (f := 56) pr10 pr11 (by decide +kernel)
theorem pr13 : Pr 74058212732561358302231226437062788676166966415465897661863160754340907 := cert_two (q := 75445702479781427272750846543864801) (k := 981609426360740691344999861639072106) (a := 2) (q2 := 31757755568855353) (k2 := 2331972502653487852620185443007392165117953542933313402) (a2 := 2) (f := 237) pr9 pr12 (by decide +kernel)
theorem pr14 : Pr 57896044618658097711785492504343953926634992332820282019728792003956564819949 := cert_one (q := 74058212732561358302231226437062788676166966415465897661863160754340907) (k := 781764) (a := 2) (f := 256) pr13 (by decide +kernel)
end Go.NT
namespace Go.Fp
open Go.NT Go.Cv
def P : Nat := 57896044618658097711785492504343953926634992332820282019728792003956564819949
theorem P_eq : P = 57896044618658097711785492504343953926634992332820282019728792003956564819949 := rfl
instance : NeZero P := ⟨by decide⟩
theorem P_prime : Pr P := pr14
abbrev Fe := Fin P
def fp (n : Nat) : Fe := Fin.ofNat P n
theorem fp_val (n : Nat) : (fp n).val = n % P := rfl
theorem fp_eq {a b : Nat} : fp a = fp b ↔ a % P = b % P := by
  constructor
  · intro h; exact congrArg Fin.val h
  · intro h; exact Fin.ext h
theorem fp_mod (a : Nat) : fp (a % P) = fp a := fp_eq.2 (Nat.mod_mod _ _)
theorem fp_add (a b : Nat) : fp (a + b) = fp a + fp b := Fin.ext (by rw [fp_val, Fin.val_add, fp_val, fp_val, ← Nat.add_mod])
theorem fp_mul (a b : Nat) : fp (a * b) = fp a * fp b := Fin.ext (by rw [fp_val, Fin.val_mul, fp_val, fp_val, ← Nat.mul_mod])
theorem fp_zero : fp 0 = 0 := rfl
theorem fp_one : fp 1 = 1 := rfl
theorem fp_two : fp 2 = 2 := rfl
theorem fp_P : fp P = 0 := Fin.ext (by rw [fp_val, Nat.mod_self]; rfl)
theorem fp_mulP (k : Nat) : fp (k * P) = 0 := by rw [fp_mul, fp_P]; grobner
theorem fp_sub {a b : Nat} (h : b ≤ a) : fp (a - b) = fp a - fp b := by
  have h1 := fp_add (a - b) b
  rw [Nat.sub_add_cancel h] at h1
  grobner
def pow (a : Fe) (k : Nat) : Fe := match k with
  | 0 => 1
  | k + 1 => pow a k * a
theorem pow_val (a : Fe) : ∀ k, (pow a k).val = a.val ^ k % P
  | 0 => rfl
  | k + 1 => by rw [pow, Fin.val_mul, pow_val a k, Nat.pow_succ, Nat.mod_mul_mod]
theorem pow_add (a : Fe) (j : Nat) : ∀ k, pow a (j + k) = pow a j * pow a k
  | 0 => by rw [Nat.add_zero]; simp only [pow]; grobner
  | k + 1 => by rw [← Nat.add_assoc, pow, pow_add a j k, pow]; grobner
theorem pow_mul (a : Fe) (j : Nat) : ∀ k, pow a (j * k) = pow (pow a j) k
  | 0 => by rw [Nat.mul_zero]; rfl
  | k + 1 => by rw [Nat.mul_succ, pow_add, pow_mul a j k, pow]
theorem pow_one (a : Fe) : pow a 1 = a := by simp only [pow]; grobner
theorem pow_two (a : Fe) : pow a 2 = a * a := by simp only [pow]; grobner
theorem one_pow : ∀ k, pow 1 k = 1
  | 0 => rfl
  | k + 1 => by rw [pow, one_pow k]; grobner
theorem zero_pow {k : Nat} (hk : 0 < k) : pow 0 k = 0 := by
  obtain ⟨j, rfl⟩ : ∃ j, k = j + 1 := ⟨k - 1, by omega⟩
  rw [pow]; grobner
theorem pow_fp (a k : Nat) : pow (fp a) k = fp (a ^ k) := Fin.ext (by rw [pow_val, fp_val, fp_val, ← Nat.pow_mod])
theorem ndvd {a : Fe} (h : a ≠ 0) : ¬ P ∣ a.val := fun hd => by
  have h1 := Nat.mod_eq_zero_of_dvd hd
  rw [Nat.mod_eq_of_lt a.isLt] at h1
  exact h (Fin.ext h1)
theorem fermat {a : Fe} (h : a ≠ 0) : pow a (P - 1) = 1 := Fin.ext (by rw [pow_val, Go.NT.fermat P_prime (ndvd h)]; rfl)
def iv (a : Fe) : Fe := pow a (P - 2)
theorem iv_mul {a : Fe} (h : a ≠ 0) : a * iv a = 1 := by
  have h1 := fermat h
  rw [show P - 1 = (P - 2) + 1 from rfl, pow] at h1
  unfold iv
  rw [← h1]; grobner
theorem iv_zero : iv 0 = 0 := zero_pow (by decide)
def dN : Nat := 37095705934669439343138083508754565189542113879843219016388785533085940283555
def iN : Nat := 19681161376707505956807079304988542015446066515923890162744021073123829784752
def d : Fe := fp dN
def i : Fe := fp iN
theorem pow_test {a k r f : Nat} (hk : k < 2 ^ f) (h : pwf P a f k = r) : pow (fp a) k = fp r := by
  rw [pow_fp, ← h, pwf_pow hk, fp_mod]
theorem root_i : i * i = -1 := by
  have h : i * i + 1 = 0 := by
    unfold i
    rw [← fp_mul, ← fp_one, ← fp_add]
    exact Fin.ext (by rw [fp_val]; decide +kernel)
  grobner
theorem one_ne : (1 : Fe) ≠ 0 := fun h => by
  have := congrArg Fin.val h
  revert this
  decide +kernel
theorem two_ne : (2 : Fe) ≠ 0 := fun h => by
  have := congrArg Fin.val h
  revert this
  decide +kernel
theorem pow_half (r : Fe) : pow (r * r) ((P - 1) / 2) = 1 ∨ r = 0 := by
  by_cases h : r = 0
  · exact .inr h
  · left
    rw [← pow_two, ← pow_mul, show 2 * ((P - 1) / 2) = P - 1 from by decide +kernel, fermat h]
theorem half_d : pow d ((P - 1) / 2) = fp (P - 1) := pow_test (f := 256) (by decide +kernel) (by decide +kernel)
theorem nosq (r : Fe) : r * r ≠ d := fun h => by
  have h1 := half_d
  rcases pow_half r with h2 | h2
  · rw [h, h1] at h2
    have := congrArg Fin.val h2
    revert this
    decide +kernel
  · subst h2
    have h3 : d = 0 := by rw [← h]; grobner
    have := congrArg Fin.val h3
    revert this
    decide +kernel
theorem fld : Fld P iv d i := ⟨fun _ h => iv_mul h, iv_zero, one_ne, two_ne, root_i, nosq⟩
end Go.Fp
set_option linter.unusedSimpArgs false
set_option linter.unusedVariables false
namespace Go.Ev.Ytaceeoghjgggjaa
open Go Go.Ev
attribute [local congr] bind_congr2 ite_congr2 qElse_congr gate_congr guardV_congr
set_option maxRecDepth 100000
theorem mul64_ev {x y : Nat} (hx : x < 18446744073709551616) (hy : y < 18446744073709551616) :
    evFun T 91 [.int .u64 x, .int .u64 y] [] = some (.tuple #[.int .u64 ((x * y / 18446744073709551616 : Nat) : Int), .int .u64 ((x * y % 18446744073709551616 : Nat) : Int)], [], []) := by
  have key : ∀ a b : Nat, a = x * y / 18446744073709551616 → b = x * y % 18446744073709551616 → (some (.tuple #[.int .u64 (a : Int), .int .u64 (b : Int)], [], []) : Option (Value × List Ob × List Nat)) = some (.tuple #[.int .u64 ((x * y / 18446744073709551616 : Nat) : Int), .int .u64 ((x * y % 18446744073709551616 : Nat) : Int)], [], []) := by
    rintro a b rfl rfl; rfl
  rw [evFun_fn (fn := a91) rfl]
  simp only [a91, envOf, quiet, cF, ↓pF, reduceCtorEq, Nat.reduceEqDiff, Int.reduceEq, fs_callV, fs_regionP, ↓keepV_some, ↓qElse_some, ↓guardV_tt, ↓guardV_ff, ↓guardV_tf, ↓guardV_ft, cL, Int.reduceLE, Int.reduceLT, Int.reduceAdd, Int.reduceMul, Int.reduceSub, Int.reduceTDiv, Int.reduceTMod, Int.reduceNeg, Int.reduceToNat, Int.reduceGT, Int.reduceGE, Int.reducePow, Nat.reduceAdd, Nat.reduceMul, Nat.reduceSub, Nat.reduceDiv, Nat.reduceMod, Nat.reducePow, Nat.reduceLT, Nat.reduceLeDiff, cU]
  apply key
  · have e : x * y = (x / 4294967296 * (y / 4294967296)) * 18446744073709551616 + (x / 4294967296 * (y % 4294967296) + x % 4294967296 * (y / 4294967296)) * 4294967296 + x % 4294967296 * (y % 4294967296) := by
      conv => lhs; rw [← Nat.div_add_mod x 4294967296, ← Nat.div_add_mod y 4294967296]
      generalize x / 4294967296 = x1
      generalize x % 4294967296 = x0
      generalize y / 4294967296 = y1
      generalize y % 4294967296 = y0
      grind
    have b1 : x / 4294967296 ≤ 4294967295 := by omega
    have b2 : x % 4294967296 ≤ 4294967295 := by omega
    have b3 : y / 4294967296 ≤ 4294967295 := by omega
    have b4 : y % 4294967296 ≤ 4294967295 := by omega
    have c1 := Nat.mul_le_mul b1 b3
    have c2 := Nat.mul_le_mul b1 b4
    have c3 := Nat.mul_le_mul b2 b3
    have c4 := Nat.mul_le_mul b2 b4
    rw [e]
    clear e
    generalize x / 4294967296 * (y / 4294967296) = p11 at *
    generalize x / 4294967296 * (y % 4294967296) = p10 at *
    generalize x % 4294967296 * (y / 4294967296) = p01 at *
    generalize x % 4294967296 * (y % 4294967296) = p00 at *
    omega
  · rfl
def wV (n : Nat) : Value := .agg #[.int .u64 ((n / 18446744073709551616 : Nat) : Int), .int .u64 ((n % 18446744073709551616 : Nat) : Int)]
theorem rf_wV (n : Nat) : rf (wV n) = true := rfl
theorem add64_ev {x y c : Nat} (hc : c ≤ 1) : evFun T 92 [.int .u64 x, .int .u64 y, .int .u64 c] [] = some (.tuple #[.int .u64 ((x + y + c) % 18446744073709551616 : Nat), .int .u64 ((x + y + c) / 18446744073709551616 : Nat)], [], []) := by
  rw [evFun.eq_def]
  have h1 : T.fn 92 = none := rfl
  have h2 : ([.int .u64 (x : Int), .int .u64 (y : Int), .int .u64 (c : Int)] : List Value).all rf = true := rfl
  have h3 : T.ext 92 [.int .u64 x, .int .u64 y, .int .u64 c] = some (.tuple #[.int .u64 ((x + y + c) % 18446744073709551616 : Nat), .int .u64 ((x + y + c) / 18446744073709551616 : Nat)]) := by
    have h4 : (c : Int).toNat ≤ 1 := by omega
    simp [T, extS, hc]
  rw [h1]
  simp only [h2, if_true, h3, Option.bind_some]
theorem times_ev2 {x y : Nat} (hx : x < 18446744073709551616) (hy : y < 18446744073709551616) : ∃ l, evFun T 77 [.int .u64 x, .int .u64 y] [] = some (wV (x * y), l, []) := by
  have h := mul64_ev hx hy
  have hf : ∀ a b : Int, fillL [Value.int .u64 0, Value.int .u64 0] [(0, 1, .int .u64 a), (1, 1, .int .u64 b)] = some [.int .u64 a, .int .u64 b] := fun _ _ => rfl
  apply Exists.intro
  rw [evFun_fn (fn := a77) rfl]
  simp only [a77, envOf, quiet, cF, ↓pF, reduceCtorEq, Nat.reduceEqDiff, Int.reduceEq, fs_callV, fs_regionP, ↓keepV_some, ↓qElse_some, ↓guardV_tt, ↓guardV_ff, ↓guardV_tf, ↓guardV_ft, cL, Int.reduceLE, Int.reduceLT, Int.reduceAdd, Int.reduceMul, Int.reduceSub, Int.reduceTDiv, Int.reduceTMod, Int.reduceNeg, Int.reduceToNat, Int.reduceGT, Int.reduceGE, Int.reducePow, Nat.reduceAdd, Nat.reduceMul, Nat.reduceSub, Nat.reduceDiv, Nat.reduceMod, Nat.reducePow, Nat.reduceLT, Nat.reduceLeDiff, cJ, Nat.add_assoc, h, hf]
  rfl
theorem wplus_ev {n x y : Nat} (hx : x < 18446744073709551616) (hy : y < 18446744073709551616) (hn : n + x * y < 340282366920938463463374607431768211456) : ∃ l, evFun T 78 [wV n, .int .u64 x, .int .u64 y] [] = some (wV (n + x * y), l, []) := by
  have h := mul64_ev hx hy
  have hf : ∀ a b : Int, fillL [Value.int .u64 0, Value.int .u64 0] [(0, 1, .int .u64 a), (1, 1, .int .u64 b)] = some [.int .u64 a, .int .u64 b] := fun _ _ => rfl
  have a1 := add64_ev (x := n % 18446744073709551616) (y := x * y % 18446744073709551616) (c := 0) (by decide)
  have a2 := add64_ev (x := n / 18446744073709551616) (y := x * y / 18446744073709551616) (c := (n % 18446744073709551616 + x * y % 18446744073709551616) / 18446744073709551616) (by omega)
  simp only [Int.natCast_zero, Nat.add_zero] at a1
  have key : ∀ (a b : Nat) (l : List Ob), a = (n + x * y) / 18446744073709551616 → b = (n + x * y) % 18446744073709551616 → (some (.agg #[.int .u64 (a : Int), .int .u64 (b : Int)], l, []) : Option (Value × List Ob × List Nat)) = some (wV (n + x * y), l, []) := by
    rintro a b l rfl rfl; rfl
  apply Exists.intro
  rw [evFun_fn (fn := a78) rfl]
  simp only [wV, a78, envOf, quiet, cF, ↓pF, reduceCtorEq, Nat.reduceEqDiff, Int.reduceEq, fs_callV, fs_regionP, ↓keepV_some, ↓qElse_some, ↓guardV_tt, ↓guardV_ff, ↓guardV_tf, ↓guardV_ft, cL, Int.reduceLE, Int.reduceLT, Int.reduceAdd, Int.reduceMul, Int.reduceSub, Int.reduceTDiv, Int.reduceTMod, Int.reduceNeg, Int.reduceToNat, Int.reduceGT, Int.reduceGE, Int.reducePow, Nat.reduceAdd, Nat.reduceMul, Nat.reduceSub, Nat.reduceDiv, Nat.reduceMod, Nat.reducePow, Nat.reduceLT, Nat.reduceLeDiff, cJ, Nat.add_assoc, h, hf, a1, a2]
  apply key
  · generalize x * y = p at *
    omega
  · generalize x * y = p at *
    omega
theorem split_ev {n : Nat} (hn : n < 41538374868278621028243970633760768) : ∃ l, evFun T 79 [wV n] [] = some (.tuple #[.int .u64 ((n / 2251799813685248 : Nat) : Int), .int .u64 ((n % 2251799813685248 : Nat) : Int)], l, []) := by
  have key : ∀ (a b : Nat) (l : List Ob), a = n / 2251799813685248 → b = n % 2251799813685248 → (some (.tuple #[.int .u64 (a : Int), .int .u64 (b : Int)], l, []) : Option (Value × List Ob × List Nat)) = some (.tuple #[.int .u64 ((n / 2251799813685248 : Nat) : Int), .int .u64 ((n % 2251799813685248 : Nat) : Int)], l, []) := by
    rintro a b l rfl rfl; rfl
  have hor := fun a b : Nat => n_or .u64 rfl a b
  apply Exists.intro
  rw [evFun_fn (fn := a79) rfl]
  simp only [wV, a79, envOf, quiet, cF, ↓pF, reduceCtorEq, Nat.reduceEqDiff, Int.reduceEq, fs_callV, fs_regionP, ↓keepV_some, ↓qElse_some, ↓guardV_tt, ↓guardV_ff, ↓guardV_tf, ↓guardV_ft, cL, Int.reduceLE, Int.reduceLT, Int.reduceAdd, Int.reduceMul, Int.reduceSub, Int.reduceTDiv, Int.reduceTMod, Int.reduceNeg, Int.reduceToNat, Int.reduceGT, Int.reduceGE, Int.reducePow, Nat.reduceAdd, Nat.reduceMul, Nat.reduceSub, Nat.reduceDiv, Nat.reduceMod, Nat.reducePow, Nat.reduceLT, Nat.reduceLeDiff, cJ, Nat.add_assoc, cU, hor]
  apply key
  · have h1 : n / 18446744073709551616 < 2251799813685248 := by omega
    have e1 : n / 18446744073709551616 * 8192 % 18446744073709551616 % 2 ^ IntKind.u64.bits = n / 18446744073709551616 * 2 ^ 13 := by
      rw [show (2 : Nat) ^ IntKind.u64.bits = 18446744073709551616 from rfl]; omega
    have e2 : n % 18446744073709551616 / 2251799813685248 % 2 ^ IntKind.u64.bits = n % 18446744073709551616 / 2251799813685248 := by
      rw [show (2 : Nat) ^ IntKind.u64.bits = 18446744073709551616 from rfl]; omega
    rw [e1, e2, or_apart (by omega)]
    omega
  · omega
theorem more_ev {n x : Nat} (hn : n + x < 340282366920938463463374607431768211456) (hx : x < 18446744073709551616) : ∃ l, evFun T 80 [wV n, .int .u64 x] [] = some (wV (n + x), l, []) := by
  have hf : ∀ a b : Int, fillL [Value.int .u64 0, Value.int .u64 0] [(0, 1, .int .u64 a), (1, 1, .int .u64 b)] = some [.int .u64 a, .int .u64 b] := fun _ _ => rfl
  have a1 := add64_ev (x := n % 18446744073709551616) (y := x) (c := 0) (by decide)
  simp only [Int.natCast_zero, Nat.add_zero] at a1
  have key : ∀ (a b : Nat) (l : List Ob), a = (n + x) / 18446744073709551616 → b = (n + x) % 18446744073709551616 → (some (.agg #[.int .u64 (a : Int), .int .u64 (b : Int)], l, []) : Option (Value × List Ob × List Nat)) = some (wV (n + x), l, []) := by
    rintro a b l rfl rfl; rfl
  apply Exists.intro
  rw [evFun_fn (fn := a80) rfl]
  simp only [wV, a80, envOf, quiet, cF, ↓pF, reduceCtorEq, Nat.reduceEqDiff, Int.reduceEq, fs_callV, fs_regionP, ↓keepV_some, ↓qElse_some, ↓guardV_tt, ↓guardV_ff, ↓guardV_tf, ↓guardV_ft, cL, Int.reduceLE, Int.reduceLT, Int.reduceAdd, Int.reduceMul, Int.reduceSub, Int.reduceTDiv, Int.reduceTMod, Int.reduceNeg, Int.reduceToNat, Int.reduceGT, Int.reduceGE, Int.reducePow, Nat.reduceAdd, Nat.reduceMul, Nat.reduceSub, Nat.reduceDiv, Nat.reduceMod, Nat.reducePow, Nat.reduceLT, Nat.reduceLeDiff, cJ, Nat.add_assoc, cU, hf, a1]
  apply key
  · omega
  · omega
def eV (l : List Nat) : Value := .agg (ns .u64 l).toArray
theorem rf_eV (l : List Nat) : rf (eV l) = true := by
  show (ns .u64 l).toArray.toList.all scalarRf = true
  rw [show (ns .u64 l).toArray.toList = ns .u64 l from rfl]
  simp [ns, scalarRf]
theorem rf_ns (k : IntKind) (l : List Nat) : rf (.agg (ns k l).toArray) = true := by
  show (ns k l).toArray.toList.all scalarRf = true
  rw [show (ns k l).toArray.toList = ns k l from rfl]
  simp [ns, scalarRf]
structure El (l : List Nat) (b : Nat) : Prop where
  len : l.length = 5
  lt : ∀ x ∈ l, x < b
theorem El.five {l : List Nat} {b : Nat} (h : El l b) : ∃ x0 x1 x2 x3 x4, l = [x0, x1, x2, x3, x4] ∧ x0 < b ∧ x1 < b ∧ x2 < b ∧ x3 < b ∧ x4 < b := by
  obtain ⟨h1, h2⟩ := h
  match l, h1 with
  | [x0, x1, x2, x3, x4], _ => exact ⟨x0, x1, x2, x3, x4, rfl, h2 _ (by simp), h2 _ (by simp), h2 _ (by simp), h2 _ (by simp), h2 _ (by simp)⟩
theorem El.mk5 {x0 x1 x2 x3 x4 b : Nat} (h0 : x0 < b) (h1 : x1 < b) (h2 : x2 < b) (h3 : x3 < b) (h4 : x4 < b) : El [x0, x1, x2, x3, x4] b := ⟨rfl, by simp; exact ⟨h0, h1, h2, h3, h4⟩⟩
def v51 (l : List Nat) : Nat := num 2251799813685248 l
def fe (l : List Nat) : Go.Fp.Fe := Go.Fp.fp (v51 l)
def carL (x0 x1 x2 x3 x4 : Nat) : List Nat :=
  let c0 := x0 / 2251799813685248
  let c1 := (x1 + c0) / 2251799813685248
  let c2 := (x2 + c1) / 2251799813685248
  let c3 := (x3 + c2) / 2251799813685248
  let c4 := (x4 + c3) / 2251799813685248
  [x0 % 2251799813685248 + 19 * c4, (x1 + c0) % 2251799813685248, (x2 + c1) % 2251799813685248, (x3 + c2) % 2251799813685248, (x4 + c3) % 2251799813685248]
theorem carL_val {x0 x1 x2 x3 x4 : Nat} : ∃ k, v51 (carL x0 x1 x2 x3 x4) + k * Go.Fp.P = v51 [x0, x1, x2, x3, x4] := by
  refine ⟨(x4 + (x3 + (x2 + (x1 + x0 / 2251799813685248) / 2251799813685248) / 2251799813685248) / 2251799813685248) / 2251799813685248, ?_⟩
  simp only [v51, carL, num, Go.Fp.P_eq]
  omega
theorem fe_of {a b k : Nat} (h : a + k * Go.Fp.P = b) : Go.Fp.fp a = Go.Fp.fp b := by
  rw [← h, Go.Fp.fp_add, Go.Fp.fp_mulP]; grobner
theorem carried_ev {x0 x1 x2 x3 x4 : Nat} (h0 : x0 < 9223372036854775808) (h1 : x1 < 9223372036854775808) (h2 : x2 < 9223372036854775808) (h3 : x3 < 9223372036854775808) (h4 : x4 < 9223372036854775808) :
    ∃ l, evFun T 81 [eV [x0, x1, x2, x3, x4]] [] = some (eV (carL x0 x1 x2 x3 x4), l, []) := by
  have key : ∀ (a b c d e : Nat) (l : List Ob), [a, b, c, d, e] = carL x0 x1 x2 x3 x4 → (some (.agg [.int .u64 (a : Int), .int .u64 (b : Int), .int .u64 (c : Int), .int .u64 (d : Int), .int .u64 (e : Int)].toArray, l, []) : Option (Value × List Ob × List Nat)) = some (eV (carL x0 x1 x2 x3 x4), l, []) := by
    intro a b c d e l h
    rw [← h]; rfl
  have hz : List.replicate 5 (Value.int .u64 0) = [.int .u64 0, .int .u64 0, .int .u64 0, .int .u64 0, .int .u64 0] := rfl
  apply Exists.intro
  rw [evFun_fn (fn := a81) rfl]
  simp only [eV, ns_cons, ns_nil, a81, envOf, quiet, cF, ↓pF, reduceCtorEq, Nat.reduceEqDiff, Int.reduceEq, fs_callV, fs_regionP, ↓keepV_some, ↓qElse_some, ↓guardV_tt, ↓guardV_ff, ↓guardV_tf, ↓guardV_ft, cL, Int.reduceLE, Int.reduceLT, Int.reduceAdd, Int.reduceMul, Int.reduceSub, Int.reduceTDiv, Int.reduceTMod, Int.reduceNeg, Int.reduceToNat, Int.reduceGT, Int.reduceGE, Int.reducePow, Nat.reduceAdd, Nat.reduceMul, Nat.reduceSub, Nat.reduceDiv, Nat.reduceMod, Nat.reducePow, Nat.reduceLT, Nat.reduceLeDiff, cJ, Nat.add_assoc, cU, hz, evCode_block, evCode_loop, a81_l0]
  apply key
  simp only [carL, List.cons.injEq, and_true]
  rw [show x0 % 18446744073709551616 = x0 by omega]
  have b0 : x0 / 2251799813685248 < 8192 := by omega
  have hx0 : x0 % 2251799813685248 < 2251799813685248 := by omega
  generalize x0 / 2251799813685248 = c0 at *
  generalize x0 % 2251799813685248 = r0 at *
  rw [show (x1 + c0) % 18446744073709551616 = x1 + c0 by omega]
  have b1 : (x1 + c0) / 2251799813685248 < 8192 := by omega
  generalize (x1 + c0) / 2251799813685248 = c1 at *
  rw [show (x2 + c1) % 18446744073709551616 = x2 + c1 by omega]
  have b2 : (x2 + c1) / 2251799813685248 < 8192 := by omega
  generalize (x2 + c1) / 2251799813685248 = c2 at *
  rw [show (x3 + c2) % 18446744073709551616 = x3 + c2 by omega]
  have b3 : (x3 + c2) / 2251799813685248 < 8192 := by omega
  generalize (x3 + c2) / 2251799813685248 = c3 at *
  rw [show (x4 + c3) % 18446744073709551616 = x4 + c3 by omega]
  have b4 : (x4 + c3) / 2251799813685248 < 8192 := by omega
  generalize (x4 + c3) / 2251799813685248 = c4 at *
  refine ⟨by omega, rfl, rfl, rfl, rfl⟩
end Go.Ev.Ytaceeoghjgggjaa
set_option linter.unusedSimpArgs false
set_option linter.unusedVariables false
namespace Go.Ev.Ytaceeoghjgggjaa
open Go Go.Ev
attribute [local congr] bind_congr2 ite_congr2 qElse_congr gate_congr guardV_congr
set_option maxRecDepth 100000
theorem mulPoly (B P x0 x1 x2 x3 x4 y0 y1 y2 y3 y4 : Nat) (h : B * B * B * B * B = P + 19) :
  (x0 + B * (x1 + B * (x2 + B * (x3 + B * (x4 + B * 0))))) * (y0 + B * (y1 + B * (y2 + B * (y3 + B * (y4 + B * 0))))) =
   (x0 * y0 + 19 * x1 * y4 + 19 * x2 * y3 + 19 * x3 * y2 + 19 * x4 * y1) + B * ((x0 * y1 + x1 * y0 + 19 * x2 * y4 + 19 * x3 * y3 + 19 * x4 * y2) + B * ((x0 * y2 + x1 * y1 + x2 * y0 + 19 * x3 * y4 + 19 * x4 * y3) + B * ((x0 * y3 + x1 * y2 + x2 * y1 + x3 * y0 + 19 * x4 * y4) + B * (x0 * y4 + x1 * y3 + x2 * y2 + x3 * y1 + x4 * y0)))) +
   (x1 * y4 + x2 * y3 + x3 * y2 + x4 * y1 + B * (x2 * y4 + x3 * y3 + x4 * y2 + B * (x3 * y4 + x4 * y3 + B * (x4 * y4)))) * P := by grind
theorem times_v {x y : Nat} (hx : x < 18446744073709551616) (hy : y < 18446744073709551616) : evVal T 77 [.int .u64 x, .int .u64 y] = some (wV (x * y)) := evVal_ex (times_ev2 hx hy)
theorem wplus_v {n x y : Nat} (hx : x < 18446744073709551616) (hy : y < 18446744073709551616) (hn : n + x * y < 340282366920938463463374607431768211456) : evVal T 78 [wV n, .int .u64 x, .int .u64 y] = some (wV (n + x * y)) := evVal_ex (wplus_ev hx hy hn)
theorem split_v {n : Nat} (hn : n < 41538374868278621028243970633760768) : evVal T 79 [wV n] = some (.tuple #[.int .u64 ((n / 2251799813685248 : Nat) : Int), .int .u64 ((n % 2251799813685248 : Nat) : Int)]) := evVal_ex (split_ev hn)
theorem more_v {n x : Nat} (hn : n + x < 340282366920938463463374607431768211456) (hx : x < 18446744073709551616) : evVal T 80 [wV n, .int .u64 x] = some (wV (n + x)) := evVal_ex (more_ev hn hx)
theorem carried_v {x0 x1 x2 x3 x4 : Nat} (h0 : x0 < 9223372036854775808) (h1 : x1 < 9223372036854775808) (h2 : x2 < 9223372036854775808) (h3 : x3 < 9223372036854775808) (h4 : x4 < 9223372036854775808) : evVal T 81 [eV [x0, x1, x2, x3, x4]] = some (eV (carL x0 x1 x2 x3 x4)) := evVal_ex (carried_ev h0 h1 h2 h3 h4)
theorem five_small {a b c d e : Nat} (ha : a < 2 ^ 109) (hb : b < 2 ^ 109) (hc : c < 2 ^ 109) (hd : d < 2 ^ 109) (he : e < 2 ^ 109) : a + b + c + d + e < 2 ^ 112 := by omega
theorem prod_small {x y : Nat} (hx : x < 2 ^ 57) (hy : y < 2 ^ 52) : x * y < 2 ^ 109 := by
  rw [show (2 : Nat) ^ 109 = 2 ^ 57 * 2 ^ 52 from rfl]
  exact Nat.mul_lt_mul'' hx hy
theorem mul_fin {s0 s1 s2 s3 s4 : Nat} (h0 : s0 < 2 ^ 112) (h1 : s1 < 2 ^ 112) (h2 : s2 < 2 ^ 112) (h3 : s3 < 2 ^ 112) (h4 : s4 < 2 ^ 112) : ∃ r, El r (2 ^ 52) ∧ (∃ k, v51 r + k * Go.Fp.P = s0 + 2251799813685248 * (s1 + 2251799813685248 * (s2 + 2251799813685248 * (s3 + 2251799813685248 * s4)))) ∧
    r = carL ((19 * (s4 / 2251799813685248) + s0 % 2251799813685248) % 2251799813685248) (s1 % 2251799813685248 + s0 / 2251799813685248 + (19 * (s4 / 2251799813685248) + s0 % 2251799813685248) / 2251799813685248) (s2 % 2251799813685248 + s1 / 2251799813685248) (s3 % 2251799813685248 + s2 / 2251799813685248) (s4 % 2251799813685248 + s3 / 2251799813685248) := by
  refine ⟨_, ?_, ?_, rfl⟩
  · simp only [carL]
    apply El.mk5 <;> omega
  · obtain ⟨k, hk⟩ := carL_val (x0 := (19 * (s4 / 2251799813685248) + s0 % 2251799813685248) % 2251799813685248) (x1 := s1 % 2251799813685248 + s0 / 2251799813685248 + (19 * (s4 / 2251799813685248) + s0 % 2251799813685248) / 2251799813685248) (x2 := s2 % 2251799813685248 + s1 / 2251799813685248) (x3 := s3 % 2251799813685248 + s2 / 2251799813685248) (x4 := s4 % 2251799813685248 + s3 / 2251799813685248)
    refine ⟨k + s4 / 2251799813685248, ?_⟩
    rw [Nat.add_mul, ← Nat.add_assoc, hk]
    simp only [v51, num, Go.Fp.P_eq]
    omega
theorem mul_ev {x y : List Nat} (hx : El x (2 ^ 52)) (hy : El y (2 ^ 52)) : ∃ r, evVal T 51 [eV x, eV y] = some (eV r) ∧ El r (2 ^ 52) ∧ fe r = fe x * fe y := by
  obtain ⟨x0, x1, x2, x3, x4, rfl, a0, a1, a2, a3, a4⟩ := hx.five
  obtain ⟨y0, y1, y2, y3, y4, rfl, b0, b1, b2, b3, b4⟩ := hy.five
  have m1 : 19 * x1 % 18446744073709551616 = 19 * x1 := by omega
  have m2 : 19 * x2 % 18446744073709551616 = 19 * x2 := by omega
  have m3 : 19 * x3 % 18446744073709551616 = 19 * x3 := by omega
  have m4 : 19 * x4 % 18446744073709551616 = 19 * x4 := by omega
  have t00 := times_v (x := x0) (y := y0) (by omega) (by omega)
  have p00 : x0 * y0 < 2 ^ 109 := prod_small (by omega) (by omega)
  have p01 : 19 * x1 * y4 < 2 ^ 109 := prod_small (by omega) (by omega)
  have p02 : 19 * x2 * y3 < 2 ^ 109 := prod_small (by omega) (by omega)
  have p03 : 19 * x3 * y2 < 2 ^ 109 := prod_small (by omega) (by omega)
  have p04 : 19 * x4 * y1 < 2 ^ 109 := prod_small (by omega) (by omega)
  have t01 := wplus_v (n := x0 * y0) (x := 19 * x1) (y := y4) (by omega) (by omega) (by omega)
  have t02 := wplus_v (n := x0 * y0 + 19 * x1 * y4) (x := 19 * x2) (y := y3) (by omega) (by omega) (by omega)
  have t03 := wplus_v (n := x0 * y0 + 19 * x1 * y4 + 19 * x2 * y3) (x := 19 * x3) (y := y2) (by omega) (by omega) (by omega)
  have t04 := wplus_v (n := x0 * y0 + 19 * x1 * y4 + 19 * x2 * y3 + 19 * x3 * y2) (x := 19 * x4) (y := y1) (by omega) (by omega) (by omega)
  have q0 := five_small p00 p01 p02 p03 p04
  have t10 := times_v (x := x0) (y := y1) (by omega) (by omega)
  have p10 : x0 * y1 < 2 ^ 109 := prod_small (by omega) (by omega)
  have p11 : x1 * y0 < 2 ^ 109 := prod_small (by omega) (by omega)
  have p12 : 19 * x2 * y4 < 2 ^ 109 := prod_small (by omega) (by omega)
  have p13 : 19 * x3 * y3 < 2 ^ 109 := prod_small (by omega) (by omega)
  have p14 : 19 * x4 * y2 < 2 ^ 109 := prod_small (by omega) (by omega)
  have t11 := wplus_v (n := x0 * y1) (x := x1) (y := y0) (by omega) (by omega) (by omega)
  have t12 := wplus_v (n := x0 * y1 + x1 * y0) (x := 19 * x2) (y := y4) (by omega) (by omega) (by omega)
  have t13 := wplus_v (n := x0 * y1 + x1 * y0 + 19 * x2 * y4) (x := 19 * x3) (y := y3) (by omega) (by omega) (by omega)
  have t14 := wplus_v (n := x0 * y1 + x1 * y0 + 19 * x2 * y4 + 19 * x3 * y3) (x := 19 * x4) (y := y2) (by omega) (by omega) (by omega)
  have q1 := five_small p10 p11 p12 p13 p14
  have t20 := times_v (x := x0) (y := y2) (by omega) (by omega)
  have p20 : x0 * y2 < 2 ^ 109 := prod_small (by omega) (by omega)
  have p21 : x1 * y1 < 2 ^ 109 := prod_small (by omega) (by omega)
  have p22 : x2 * y0 < 2 ^ 109 := prod_small (by omega) (by omega)
  have p23 : 19 * x3 * y4 < 2 ^ 109 := prod_small (by omega) (by omega)
  have p24 : 19 * x4 * y3 < 2 ^ 109 := prod_small (by omega) (by omega)
  have t21 := wplus_v (n := x0 * y2) (x := x1) (y := y1) (by omega) (by omega) (by omega)
  have t22 := wplus_v (n := x0 * y2 + x1 * y1) (x := x2) (y := y0) (by omega) (by omega) (by omega)
  have t23 := wplus_v (n := x0 * y2 + x1 * y1 + x2 * y0) (x := 19 * x3) (y := y4) (by omega) (by omega) (by omega)
  have t24 := wplus_v (n := x0 * y2 + x1 * y1 + x2 * y0 + 19 * x3 * y4) (x := 19 * x4) (y := y3) (by omega) (by omega) (by omega)
  have q2 := five_small p20 p21 p22 p23 p24
  have t30 := times_v (x := x0) (y := y3) (by omega) (by omega)
  have p30 : x0 * y3 < 2 ^ 109 := prod_small (by omega) (by omega)
  have p31 : x1 * y2 < 2 ^ 109 := prod_small (by omega) (by omega)
  have p32 : x2 * y1 < 2 ^ 109 := prod_small (by omega) (by omega)
  have p33 : x3 * y0 < 2 ^ 109 := prod_small (by omega) (by omega)
  have p34 : 19 * x4 * y4 < 2 ^ 109 := prod_small (by omega) (by omega)
  have t31 := wplus_v (n := x0 * y3) (x := x1) (y := y2) (by omega) (by omega) (by omega)
  have t32 := wplus_v (n := x0 * y3 + x1 * y2) (x := x2) (y := y1) (by omega) (by omega) (by omega)
  have t33 := wplus_v (n := x0 * y3 + x1 * y2 + x2 * y1) (x := x3) (y := y0) (by omega) (by omega) (by omega)
  have t34 := wplus_v (n := x0 * y3 + x1 * y2 + x2 * y1 + x3 * y0) (x := 19 * x4) (y := y4) (by omega) (by omega) (by omega)
  have q3 := five_small p30 p31 p32 p33 p34
  have t40 := times_v (x := x0) (y := y4) (by omega) (by omega)
  have p40 : x0 * y4 < 2 ^ 109 := prod_small (by omega) (by omega)
  have p41 : x1 * y3 < 2 ^ 109 := prod_small (by omega) (by omega)
  have p42 : x2 * y2 < 2 ^ 109 := prod_small (by omega) (by omega)
  have p43 : x3 * y1 < 2 ^ 109 := prod_small (by omega) (by omega)
  have p44 : x4 * y0 < 2 ^ 109 := prod_small (by omega) (by omega)
  have t41 := wplus_v (n := x0 * y4) (x := x1) (y := y3) (by omega) (by omega) (by omega)
  have t42 := wplus_v (n := x0 * y4 + x1 * y3) (x := x2) (y := y2) (by omega) (by omega) (by omega)
  have t43 := wplus_v (n := x0 * y4 + x1 * y3 + x2 * y2) (x := x3) (y := y1) (by omega) (by omega) (by omega)
  have t44 := wplus_v (n := x0 * y4 + x1 * y3 + x2 * y2 + x3 * y1) (x := x4) (y := y0) (by omega) (by omega) (by omega)
  have q4 := five_small p40 p41 p42 p43 p44
  obtain ⟨r, hr1, ⟨k, hr2⟩, hr3⟩ := mul_fin q0 q1 q2 q3 q4
  have d0 := split_v (n := x0 * y0 + 19 * x1 * y4 + 19 * x2 * y3 + 19 * x3 * y2 + 19 * x4 * y1) (by omega)
  have d1 := split_v (n := x0 * y1 + x1 * y0 + 19 * x2 * y4 + 19 * x3 * y3 + 19 * x4 * y2) (by omega)
  have d2 := split_v (n := x0 * y2 + x1 * y1 + x2 * y0 + 19 * x3 * y4 + 19 * x4 * y3) (by omega)
  have d3 := split_v (n := x0 * y3 + x1 * y2 + x2 * y1 + x3 * y0 + 19 * x4 * y4) (by omega)
  have d4 := split_v (n := x0 * y4 + x1 * y3 + x2 * y2 + x3 * y1 + x4 * y0) (by omega)
  refine ⟨r, ?_, hr1, ?_⟩
  · rw [hr3]
    clear hr2 hr3
    generalize x0 * y0 + 19 * x1 * y4 + 19 * x2 * y3 + 19 * x3 * y2 + 19 * x4 * y1 = s0 at *
    generalize x0 * y1 + x1 * y0 + 19 * x2 * y4 + 19 * x3 * y3 + 19 * x4 * y2 = s1 at *
    generalize x0 * y2 + x1 * y1 + x2 * y0 + 19 * x3 * y4 + 19 * x4 * y3 = s2 at *
    generalize x0 * y3 + x1 * y2 + x2 * y1 + x3 * y0 + 19 * x4 * y4 = s3 at *
    generalize x0 * y4 + x1 * y3 + x2 * y2 + x3 * y1 + x4 * y0 = s4 at *
    have u1 := times_v (x := 19) (y := s4 / 2251799813685248) (by omega) (by omega)
    have u2 := more_v (n := 19 * (s4 / 2251799813685248)) (x := s0 % 2251799813685248) (by omega) (by omega)
    have u3 := split_v (n := 19 * (s4 / 2251799813685248) + s0 % 2251799813685248) (by omega)
    have w1 : (s1 % 2251799813685248 + s0 / 2251799813685248) % 18446744073709551616 = s1 % 2251799813685248 + s0 / 2251799813685248 := by omega
    have w2 : (s1 % 2251799813685248 + s0 / 2251799813685248 + (19 * (s4 / 2251799813685248) + s0 % 2251799813685248) / 2251799813685248) % 18446744073709551616 = s1 % 2251799813685248 + s0 / 2251799813685248 + (19 * (s4 / 2251799813685248) + s0 % 2251799813685248) / 2251799813685248 := by omega
    have w3 : (s2 % 2251799813685248 + s1 / 2251799813685248) % 18446744073709551616 = s2 % 2251799813685248 + s1 / 2251799813685248 := by omega
    have w4 : (s3 % 2251799813685248 + s2 / 2251799813685248) % 18446744073709551616 = s3 % 2251799813685248 + s2 / 2251799813685248 := by omega
    have w5 : (s4 % 2251799813685248 + s3 / 2251799813685248) % 18446744073709551616 = s4 % 2251799813685248 + s3 / 2251799813685248 := by omega
    have v1 := carried_v (x0 := (19 * (s4 / 2251799813685248) + s0 % 2251799813685248) % 2251799813685248) (x1 := s1 % 2251799813685248 + s0 / 2251799813685248 + (19 * (s4 / 2251799813685248) + s0 % 2251799813685248) / 2251799813685248) (x2 := s2 % 2251799813685248 + s1 / 2251799813685248) (x3 := s3 % 2251799813685248 + s2 / 2251799813685248) (x4 := s4 % 2251799813685248 + s3 / 2251799813685248) (by omega) (by omega) (by omega) (by omega) (by omega)
    simp only [Int.cast_ofNat_Int] at u1
    have hz : List.replicate 5 (Value.int .u64 0) = [.int .u64 0, .int .u64 0, .int .u64 0, .int .u64 0, .int .u64 0] := rfl
    have hf : ∀ a b c d e : Int, fillL [Value.int .u64 0, .int .u64 0, .int .u64 0, .int .u64 0, .int .u64 0] [(0, 1, .int .u64 a), (1, 1, .int .u64 b), (2, 1, .int .u64 c), (3, 1, .int .u64 d), (4, 1, .int .u64 e)] = some [.int .u64 a, .int .u64 b, .int .u64 c, .int .u64 d, .int .u64 e] := fun _ _ _ _ _ => rfl
    have hf5 : ∀ a b c d e : Int, fillL [Value.int .u64 0, .int .u64 0, .int .u64 0, .int .u64 0, .int .u64 0] [(0, 5, .agg [.int .u64 a, .int .u64 b, .int .u64 c, .int .u64 d, .int .u64 e].toArray)] = some [.int .u64 a, .int .u64 b, .int .u64 c, .int .u64 d, .int .u64 e] := fun _ _ _ _ _ => rfl
    have hr5 : ∀ a b c d e : Int, rf (.agg [.int .u64 a, .int .u64 b, .int .u64 c, .int .u64 d, .int .u64 e].toArray) = true := fun _ _ _ _ _ => rfl
    have hw : ∀ n, (wV n).cells.size = 2 := fun _ => rfl
    have hw2 : ∀ n, (wV n).cells.toList = [.int .u64 ((n / 18446744073709551616 : Nat) : Int), .int .u64 ((n % 18446744073709551616 : Nat) : Int)] := fun _ => rfl
    have hw3 : ∀ n, okVar (wV n) = true := fun _ => rfl
    have hw4 : ∀ n, Value.agg [.int .u64 ((n / 18446744073709551616 : Nat) : Int), .int .u64 ((n % 18446744073709551616 : Nat) : Int)].toArray = wV n := fun _ => rfl
    simp only [eV, ns_cons, ns_nil] at v1 ⊢
    generalize hc : ns .u64 (carL ((19 * (s4 / 2251799813685248) + s0 % 2251799813685248) % 2251799813685248) (s1 % 2251799813685248 + s0 / 2251799813685248 + (19 * (s4 / 2251799813685248) + s0 % 2251799813685248) / 2251799813685248) (s2 % 2251799813685248 + s1 / 2251799813685248) (s3 % 2251799813685248 + s2 / 2251799813685248) (s4 % 2251799813685248 + s3 / 2251799813685248)) = C at *
    have hC : C.length = 5 := by rw [← hc]; rfl
    have hCr : rf (.agg C.toArray) = true := by rw [← hc]; exact rf_ns _ _
    apply evVal_ex
    apply Exists.intro
    rw [evFun_fn (fn := a51) rfl]
    simp only [a51, envOf, quiet, cF, ↓pF, reduceCtorEq, Nat.reduceEqDiff, Int.reduceEq, fs_callW, fs_regionP, ↓keepV_some, ↓qElse_some, ↓guardV_tt, ↓guardV_ff, ↓guardV_tf, ↓guardV_ft, cL, Int.reduceLE, Int.reduceLT, Int.reduceAdd, Int.reduceMul, Int.reduceSub, Int.reduceTDiv, Int.reduceTMod, Int.reduceNeg, Int.reduceToNat, Int.reduceGT, Int.reduceGE, Int.reducePow, Nat.reduceAdd, Nat.reduceMul, Nat.reduceSub, Nat.reduceDiv, Nat.reduceMod, Nat.reducePow, Nat.reduceLT, Nat.reduceLeDiff, cJ, cU, hz, m1, m2, m3, m4, t00, t01, t02, t03, t04, t10, t11, t12, t13, t14, t20, t21, t22, t23, t24, t30, t31, t32, t33, t34, t40, t41, t42, t43, t44, d0, d1, d2, d3, d4, u1, u2, u3, w1, w2, w3, w4, w5, hf, hf5, hr5, v1, rf_wV, hw, hw2, hw3, hw4, hC, hCr]
    rfl
  · unfold fe
    rw [← Go.Fp.fp_mul]
    have h := mulPoly 2251799813685248 Go.Fp.P x0 x1 x2 x3 x4 y0 y1 y2 y3 y4 (by rw [Go.Fp.P_eq])
    have e : v51 [x0, x1, x2, x3, x4] * v51 [y0, y1, y2, y3, y4] = v51 r + (k + (x1 * y4 + x2 * y3 + x3 * y2 + x4 * y1 + 2251799813685248 * (x2 * y4 + x3 * y3 + x4 * y2 + 2251799813685248 * (x3 * y4 + x4 * y3 + 2251799813685248 * (x4 * y4))))) * Go.Fp.P := by
      simp only [v51, num] at hr2 h ⊢
      rw [h, ← hr2, Nat.add_assoc, ← Nat.add_mul]
    exact fe_of e.symm
end Go.Ev.Ytaceeoghjgggjaa
set_option linter.unusedSimpArgs false
set_option linter.unusedVariables false
namespace Go.Ev.Ytaceeoghjgggjaa
open Go Go.Ev
attribute [local congr] bind_congr2 ite_congr2 qElse_congr gate_congr guardV_congr
set_option maxRecDepth 100000
theorem bitOf {V w q s : Nat} (hs : s < w) : V / (2 ^ w) ^ q % 2 ^ w / 2 ^ s % 2 = V / 2 ^ (w * q + s) % 2 := by
  have h1 : (2 : Nat) ^ w = 2 ^ s * 2 ^ (w - s) := by rw [← Nat.pow_add]; congr 1; omega
  conv => lhs; rw [show V / (2 ^ w) ^ q % 2 ^ w = V / (2 ^ w) ^ q % (2 ^ s * 2 ^ (w - s)) from by rw [← h1]]
  have h2 : (2 : Nat) ∣ 2 ^ (w - s) := by
    obtain ⟨m, hm⟩ : ∃ m, w - s = m + 1 := ⟨w - s - 1, by omega⟩
    rw [hm, Nat.pow_succ]
    exact Nat.dvd_mul_left 2 _
  rw [Nat.mod_mul_right_div_self, Nat.mod_mod_of_dvd _ h2, Nat.div_div_eq_div_mul, ← Nat.pow_mul, ← Nat.pow_add]
theorem bit_step (V i : Nat) : V % 2 ^ i + V / 2 ^ i % 2 * 2 ^ i = V % 2 ^ (i + 1) := by
  rw [Nat.mod_pow_succ, Nat.mul_comm (2 ^ i)]
theorem bit_lt (V i : Nat) : V / 2 ^ i % 2 < 2 := Nat.mod_lt _ (by decide)
theorem pow_min {n b : Nat} (h : n ≤ b) : (2 : Int) ^ min n b = ((2 ^ n : Nat) : Int) := by rw [Nat.min_eq_left h]; simp
theorem small_v {n : Nat} (hn : n < 4294967296) : evVal T 50 [.int .u32 n] = some (eV [n, 0, 0, 0, 0]) := by
  have hz : List.replicate 5 (Value.int .u64 0) = [.int .u64 0, .int .u64 0, .int .u64 0, .int .u64 0, .int .u64 0] := rfl
  have hf : ∀ a : Int, fillL [Value.int .u64 0, .int .u64 0, .int .u64 0, .int .u64 0, .int .u64 0] [(0, 1, .int .u64 a)] = some [.int .u64 a, .int .u64 0, .int .u64 0, .int .u64 0, .int .u64 0] := fun _ => rfl
  have hf5 : ∀ a b c d e : Int, fillL [Value.int .u64 0, .int .u64 0, .int .u64 0, .int .u64 0, .int .u64 0] [(0, 5, .agg [.int .u64 a, .int .u64 b, .int .u64 c, .int .u64 d, .int .u64 e].toArray)] = some [.int .u64 a, .int .u64 b, .int .u64 c, .int .u64 d, .int .u64 e] := fun _ _ _ _ _ => rfl
  have hm : n % 18446744073709551616 = n := by omega
  apply evVal_ex
  apply Exists.intro
  rw [evFun_fn (fn := a50) rfl]
  simp only [a50, envOf, quiet, cF, ↓pF, reduceCtorEq, Nat.reduceEqDiff, Int.reduceEq, fs_callW, fs_regionP, ↓keepV_some, ↓qElse_some, ↓guardV_tt, ↓guardV_ff, ↓guardV_tf, ↓guardV_ft, cL, Int.reduceLE, Int.reduceLT, Int.reduceAdd, Int.reduceMul, Int.reduceSub, Int.reduceTDiv, Int.reduceTMod, Int.reduceNeg, Int.reduceToNat, Int.reduceGT, Int.reduceGE, Int.reducePow, Nat.reduceAdd, Nat.reduceMul, Nat.reduceSub, Nat.reduceDiv, Nat.reduceMod, Nat.reducePow, Nat.reduceLT, Nat.reduceLeDiff, cJ, cU, hz, hf, hf5, hm, eV, ns_cons, ns_nil]
  rfl
theorem small_el {n : Nat} (hn : n < 2 ^ 52) : El [n, 0, 0, 0, 0] (2 ^ 52) := El.mk5 hn (by decide) (by decide) (by decide) (by decide)
theorem small_fe (n : Nat) : fe [n, 0, 0, 0, 0] = Go.Fp.fp n := by simp [fe, v51, num]
def ofX (V i : Nat) : List Nat := dig (2 ^ 51) 5 (V % 2 ^ i)
def ofeI (k x : List Nat) (i : Nat) (ex : Env) : St := ⟨[(1, .pointer (some ⟨0, 0, none⟩)), (2, .pointer (some ⟨1, 0, none⟩)), (3, .pointer (some ⟨2, 0, none⟩)), (5, .int .i64 i)] ++ ex, [⟨u8s k, true, true, true, 1⟩, ⟨ns .u64 [0, 0, 0, 0, 0], true, true, true, 1⟩, ⟨ns .u64 x, true, true, true, 1⟩], []⟩
theorem ofe_body {k : List Nat} (lk : k.length = 32) (xk : ∀ x ∈ k, x < 256) {i : Nat} (hi : i < 255) :
    evCode T 0 a49_l0 (ofeI k (ofX (num 256 k) i) i []) = some (.normal, ofeI k (ofX (num 256 k) (i + 1)) (i + 1) []) := by
  obtain ⟨b, hb⟩ : ∃ b, k[i / 8]? = some b := ⟨_, List.getElem?_eq_getElem (by omega)⟩
  have hbv := num_get (B := 256) (by decide) xk hb
  have hbc := u8s_get hb
  have hlen : (ofX (num 256 k) i).length = 5 := dig_len _ _ _
  obtain ⟨y, hy⟩ : ∃ b, (ofX (num 256 k) i)[i / 51]? = some b := ⟨_, List.getElem?_eq_getElem (by omega)⟩
  have hyc := ns_get (k := .u64) hy
  have hy' : y < 2 ^ 51 := dig_lt (by decide) (List.mem_of_getElem? hy)
  have hbit : b / 2 ^ (i % 8) % 2 = num 256 k / 2 ^ i % 2 := by
    rw [← hbv, show (256 : Nat) = 2 ^ 8 from rfl, bitOf (Nat.mod_lt _ (by decide)), Nat.div_add_mod]
  have hput := dig_put (w := 51) (m := 5) (q := i / 51) (s := i % 51) (y := num 256 k / 2 ^ i % 2) (M := num 256 k % 2 ^ i) (by omega) (Nat.mod_lt _ (by decide)) (by rw [Nat.div_add_mod]; exact Nat.mod_lt _ (Nat.pow_pos (by decide))) (by
    have h1 := bit_lt (num 256 k) i
    have h2 : (2 : Nat) ^ (i % 51) ≤ 2 ^ 50 := Nat.pow_le_pow_right (by decide) (by have := Nat.mod_lt i (by decide : 0 < 51); omega)
    have h3 : num 256 k / 2 ^ i % 2 * 2 ^ (i % 51) ≤ 1 * 2 ^ 50 := Nat.mul_le_mul (by omega) h2
    omega)
  rw [Nat.div_add_mod, bit_step] at hput
  have hgd : (dig (2 ^ 51) 5 (num 256 k % 2 ^ i)).getD (i / 51) 0 = y := by rw [List.getD_eq_getElem?_getD]; unfold ofX at hy; rw [hy]; rfl
  rw [hgd] at hput
  have hset := ns_set .u64 (ofX (num 256 k) i) (i / 51) (y ||| num 256 k / 2 ^ i % 2 * 2 ^ (i % 51))
  rw [show (ofX (num 256 k) i).set (i / 51) (y ||| num 256 k / 2 ^ i % 2 * 2 ^ (i % 51)) = ofX (num 256 k) (i + 1) from hput] at hset
  have hbl := bit_lt (num 256 k) i
  have h50 : (2 : Nat) ^ (i % 51) ≤ 2 ^ 50 := Nat.pow_le_pow_right (by decide) (by have := Nat.mod_lt i (by decide : 0 < 51); omega)
  have hprod : num 256 k / 2 ^ i % 2 * 2 ^ (i % 51) ≤ 1 * 2 ^ 50 := Nat.mul_le_mul (by omega) h50
  have s1 : (2 : Int) ^ min (i % 8) IntKind.u8.bits = ((2 ^ (i % 8) : Nat) : Int) := pow_min (Nat.le_of_lt (Nat.mod_lt _ (by decide)))
  have s2 : (2 : Int) ^ min (i % 51) IntKind.u64.bits = ((2 ^ (i % 51) : Nat) : Int) := pow_min (by have := Nat.mod_lt i (by decide : 0 < 51); exact Nat.le_trans (Nat.le_of_lt this) (by decide))
  have o1 : bitsOp .or .u64 (y : Int) ((num 256 k / 2 ^ i % 2 * 2 ^ (i % 51) : Nat) : Int) = ((y ||| num 256 k / 2 ^ i % 2 * 2 ^ (i % 51) : Nat) : Int) := bits_or rfl (by show _ < 18446744073709551616; omega) (by show _ < 18446744073709551616; omega)
  have n1 : (num 256 k / 2 ^ i % 2 * 2 ^ (i % 51)) % 18446744073709551616 = num 256 k / 2 ^ i % 2 * 2 ^ (i % 51) := by omega
  have n2 : (num 256 k / 2 ^ i % 2) % 18446744073709551616 = num 256 k / 2 ^ i % 2 := by omega
  have w1 : IntKind.i64.wrap ((i / 51 : Nat) : Int) = ((i / 51 : Nat) : Int) := wrap_nat (by omega)
  have w2 : IntKind.i64.wrap ((i / 8 : Nat) : Int) = ((i / 8 : Nat) : Int) := wrap_nat (by omega)
  have w3 : IntKind.i64.wrap ((i + 1 : Nat) : Int) = ((i + 1 : Nat) : Int) := wrap_nat (by omega)
  have e1 : ((i : Int) < 255) = True := eq_true (by omega)
  have e2 : (((i / 51 : Nat) : Int) < 5) = True := eq_true (by omega)
  have e3 : (((i / 8 : Nat) : Int) < 32) = True := eq_true (by omega)
  have e4 : (((i % 8 : Nat) : Int) < 0) = False := eq_false (by omega)
  have e5 : (((i % 51 : Nat) : Int) < 0) = False := eq_false (by omega)
  have e6 : i / 51 + 1 ≤ 5 := by omega
  simp only [ofeI, a49_l0, envOf, quiet, cF, ↓pF, reduceCtorEq, Nat.reduceEqDiff, Int.reduceEq, fs_callW, fs_regionP, ↓keepV_some, ↓qElse_some, ↓guardV_tt, ↓guardV_ff, ↓guardV_tf, ↓guardV_ft, cL, Int.reduceLE, Int.reduceLT, Int.reduceAdd, Int.reduceMul, Int.reduceSub, Int.reduceTDiv, Int.reduceTMod, Int.reduceNeg, Int.reduceToNat, Int.reduceGT, Int.reduceGE, Int.reducePow, Nat.reduceAdd, Nat.reduceMul, Nat.reduceSub, Nat.reduceDiv, Nat.reduceMod, Nat.reducePow, Nat.reduceLT, Nat.reduceLeDiff, cJ, cU, hbc, hyc, hbit, s1, s2, o1, n1, n2, w1, w2, w3, e1, e2, e3, e4, e5, e6, hset, ns_len, hlen]
theorem of_v {k : List Nat} (lk : k.length = 32) (xk : ∀ x ∈ k, x < 256) : evVal T 49 [.agg (u8s k).toArray] = some (eV (dig (2 ^ 51) 5 (num 256 k % 2 ^ 255))) := by
  have hz : List.replicate 5 (Value.int .u64 0) = ns .u64 [0, 0, 0, 0, 0] := rfl
  have hb := block_loop (T := T) (base := 0) (id := 0) (body := a49_l0) (fun i => ofeI k (ofX (num 256 k) i) i []) (s' := ofeI k (ofX (num 256 k) 255) 255 [(6, .bool false)]) 255 (fun i hi => ofe_body lk xk hi) (by
    simp only [ofeI, a49_l0, envOf, quiet, cF, ↓pF, reduceCtorEq, Nat.reduceEqDiff, Int.reduceEq, fs_callW, fs_regionP, ↓keepV_some, ↓qElse_some, ↓guardV_tt, ↓guardV_ff, ↓guardV_tf, ↓guardV_ft, cL, Int.reduceLE, Int.reduceLT, Int.reduceAdd, Int.reduceMul, Int.reduceSub, Int.reduceTDiv, Int.reduceTMod, Int.reduceNeg, Int.reduceToNat, Int.reduceGT, Int.reduceGE, Int.reducePow, Nat.reduceAdd, Nat.reduceMul, Nat.reduceSub, Nat.reduceDiv, Nat.reduceMod, Nat.reducePow, Nat.reduceLT, Nat.reduceLeDiff])
  have h0 : ofX (num 256 k) 0 = [0, 0, 0, 0, 0] := by unfold ofX; rw [Nat.pow_zero, Nat.mod_one]; decide
  rw [h0] at hb
  have hlen : (ofX (num 256 k) 255).length = 5 := dig_len _ _ _
  rw [show dig (2 ^ 51) 5 (num 256 k % 2 ^ 255) = ofX (num 256 k) 255 from rfl]
  generalize ofX (num 256 k) 255 = X at *
  simp only [ofeI, List.cons_append, List.nil_append, Int.natCast_zero] at hb
  apply evVal_ex
  apply Exists.intro
  rw [evFun_fn (fn := a49) rfl]
  have hl5 : (ns .u64 [0, 0, 0, 0, 0]).length = 5 := rfl
  simp only [a49, envOf, quiet, cF, ↓pF, reduceCtorEq, Nat.reduceEqDiff, Int.reduceEq, fs_callW, fs_regionP, ↓keepV_some, ↓qElse_some, ↓guardV_tt, ↓guardV_ff, ↓guardV_tf, ↓guardV_ft, cL, Int.reduceLE, Int.reduceLT, Int.reduceAdd, Int.reduceMul, Int.reduceSub, Int.reduceTDiv, Int.reduceTMod, Int.reduceNeg, Int.reduceToNat, Int.reduceGT, Int.reduceGE, Int.reducePow, Nat.reduceAdd, Nat.reduceMul, Nat.reduceSub, Nat.reduceDiv, Nat.reduceMod, Nat.reducePow, Nat.reduceLT, Nat.reduceLeDiff, cJ, hz, hb, ofeI, eV, hl5, ns_len, hlen]
  rfl
theorem of_el {V : Nat} : El (dig (2 ^ 51) 5 V) (2 ^ 52) := ⟨dig_len _ _ _, fun x hx => by have := dig_lt (by decide) hx; omega⟩
theorem of_v51 {V : Nat} : v51 (dig (2 ^ 51) 5 (V % 2 ^ 255)) = V % 2 ^ 255 := by
  have h := num_dig (B := 2 ^ 51) (by decide) 5 (V % 2 ^ 255)
  rw [show ((2 : Nat) ^ 51) ^ 5 = 2 ^ 255 from by rw [← Nat.pow_mul], Nat.mod_mod] at h
  exact h
end Go.Ev.Ytaceeoghjgggjaa
set_option linter.unusedSimpArgs false
set_option linter.unusedVariables false
namespace Go.Ev.Ytaceeoghjgggjaa
open Go Go.Ev
attribute [local congr] bind_congr2 ite_congr2 qElse_congr gate_congr guardV_congr
set_option maxRecDepth 100000
theorem dm (a b : Nat) : ∃ r, a = b * (a / b) + r ∧ a % b = r ∧ (0 < b → r < b) := ⟨a % b, (Nat.div_add_mod a b).symm, rfl, fun h => Nat.mod_lt _ h⟩
theorem car_twice {x0 x1 x2 x3 x4 : Nat} (h0 : x0 < 9223372036854775808) (h1 : x1 < 9223372036854775808) (h2 : x2 < 9223372036854775808) (h3 : x3 < 9223372036854775808) (h4 : x4 < 9223372036854775808) :
    ∃ y0 y1 y2 y3 y4 z0 z1 z2 z3 z4, carL x0 x1 x2 x3 x4 = [y0, y1, y2, y3, y4] ∧ y0 < 9223372036854775808 ∧ y1 < 9223372036854775808 ∧ y2 < 9223372036854775808 ∧ y3 < 9223372036854775808 ∧ y4 < 9223372036854775808 ∧
      carL y0 y1 y2 y3 y4 = [z0, z1, z2, z3, z4] ∧ z0 < 2251799813685248 + 19 ∧ z1 < 2251799813685248 ∧ z2 < 2251799813685248 ∧ z3 < 2251799813685248 ∧ z4 < 2251799813685248 ∧ (∃ k, v51 [z0, z1, z2, z3, z4] + k * Go.Fp.P = v51 [x0, x1, x2, x3, x4]) := by
  have key : ∀ y0 y1 y2 y3 y4 : Nat, y0 < 2251799813685248 + 19 * 8192 → y1 < 2251799813685248 → y2 < 2251799813685248 → y3 < 2251799813685248 → y4 < 2251799813685248 → carL x0 x1 x2 x3 x4 = [y0, y1, y2, y3, y4] →
      ∃ z0 z1 z2 z3 z4, carL y0 y1 y2 y3 y4 = [z0, z1, z2, z3, z4] ∧ z0 < 2251799813685248 + 19 ∧ z1 < 2251799813685248 ∧ z2 < 2251799813685248 ∧ z3 < 2251799813685248 ∧ z4 < 2251799813685248 ∧ (∃ k, v51 [z0, z1, z2, z3, z4] + k * Go.Fp.P = v51 [x0, x1, x2, x3, x4]) := by
    intro y0 y1 y2 y3 y4 b0 b1 b2 b3 b4 hy
    refine ⟨_, _, _, _, _, rfl, ?_, Nat.mod_lt _ (by decide), Nat.mod_lt _ (by decide), Nat.mod_lt _ (by decide), Nat.mod_lt _ (by decide), ?_⟩
    · have c0 : y0 / 2251799813685248 ≤ 1 := by omega
      have c1 : (y1 + y0 / 2251799813685248) / 2251799813685248 ≤ 1 := by omega
      have c2 : (y2 + (y1 + y0 / 2251799813685248) / 2251799813685248) / 2251799813685248 ≤ 1 := by omega
      have c3 : (y3 + (y2 + (y1 + y0 / 2251799813685248) / 2251799813685248) / 2251799813685248) / 2251799813685248 ≤ 1 := by omega
      generalize (y3 + (y2 + (y1 + y0 / 2251799813685248) / 2251799813685248) / 2251799813685248) / 2251799813685248 = c at *
      rcases Nat.lt_or_ge y0 2251799813685248 with h | h
      · -- nothing carries: each part is below
        have d0 : y0 / 2251799813685248 = 0 := by omega
        have c4 : (y4 + c) / 2251799813685248 ≤ 1 := by omega
        have := Nat.mod_lt y0 (by decide : 0 < 2251799813685248)
        omega
      · have c4 : (y4 + c) / 2251799813685248 ≤ 1 := by omega
        have := Nat.mod_lt y0 (by decide : 0 < 2251799813685248)
        omega
    · obtain ⟨k1, e1⟩ := carL_val (x0 := y0) (x1 := y1) (x2 := y2) (x3 := y3) (x4 := y4)
      obtain ⟨k2, e2⟩ := carL_val (x0 := x0) (x1 := x1) (x2 := x2) (x3 := x3) (x4 := x4)
      rw [hy] at e2
      refine ⟨k1 + k2, ?_⟩
      rw [Nat.add_mul, ← Nat.add_assoc, ← e2, ← e1]
      rfl
  have c0 : x0 / 2251799813685248 < 8192 := by omega
  have c1 : (x1 + x0 / 2251799813685248) / 2251799813685248 < 8192 := by omega
  have c2 : (x2 + (x1 + x0 / 2251799813685248) / 2251799813685248) / 2251799813685248 < 8192 := by omega
  have c3 : (x3 + (x2 + (x1 + x0 / 2251799813685248) / 2251799813685248) / 2251799813685248) / 2251799813685248 < 8192 := by omega
  have c4 : (x4 + (x3 + (x2 + (x1 + x0 / 2251799813685248) / 2251799813685248) / 2251799813685248) / 2251799813685248) / 2251799813685248 < 8192 := by omega
  have m0 := Nat.mod_lt x0 (by decide : 0 < 2251799813685248)
  have m1 := Nat.mod_lt (x1 + x0 / 2251799813685248) (by decide : 0 < 2251799813685248)
  have m2 := Nat.mod_lt (x2 + (x1 + x0 / 2251799813685248) / 2251799813685248) (by decide : 0 < 2251799813685248)
  have m3 := Nat.mod_lt (x3 + (x2 + (x1 + x0 / 2251799813685248) / 2251799813685248) / 2251799813685248) (by decide : 0 < 2251799813685248)
  have m4 := Nat.mod_lt (x4 + (x3 + (x2 + (x1 + x0 / 2251799813685248) / 2251799813685248) / 2251799813685248) / 2251799813685248) (by decide : 0 < 2251799813685248)
  obtain ⟨z0, z1, z2, z3, z4, g1, g2⟩ := key _ _ _ _ _ (by
    generalize (x4 + (x3 + (x2 + (x1 + x0 / 2251799813685248) / 2251799813685248) / 2251799813685248) / 2251799813685248) / 2251799813685248 = c at *
    generalize x0 % 2251799813685248 = r at *
    show r + 19 * c < _
    omega) m1 m2 m3 m4 rfl
  refine ⟨_, _, _, _, _, z0, z1, z2, z3, z4, rfl, ?_, Nat.lt_trans m1 (by decide), Nat.lt_trans m2 (by decide), Nat.lt_trans m3 (by decide), Nat.lt_trans m4 (by decide), g1, g2⟩
  generalize (x4 + (x3 + (x2 + (x1 + x0 / 2251799813685248) / 2251799813685248) / 2251799813685248) / 2251799813685248) / 2251799813685248 = c at *
  generalize x0 % 2251799813685248 = r at *
  show r + 19 * c < _
  omega
def topC (z0 z1 z2 z3 z4 : Nat) : Nat := (z4 + (z3 + (z2 + (z1 + (z0 + 19) / 2251799813685248) / 2251799813685248) / 2251799813685248) / 2251799813685248) / 2251799813685248
def finL (z0 z1 z2 z3 z4 : Nat) : List Nat :=
  let u0 := z0 / 2251799813685248
  let u1 := (z1 + u0) / 2251799813685248
  let u2 := (z2 + u1) / 2251799813685248
  let u3 := (z3 + u2) / 2251799813685248
  [z0 % 2251799813685248, (z1 + u0) % 2251799813685248, (z2 + u1) % 2251799813685248, (z3 + u2) % 2251799813685248, (z4 + u3) % 2251799813685248]
theorem fin_val {z0 z1 z2 z3 z4 : Nat} (h0 : z0 < 2251799813685248 + 19) (h1 : z1 < 2251799813685248) (h2 : z2 < 2251799813685248) (h3 : z3 < 2251799813685248) (h4 : z4 < 2251799813685248) :
    topC z0 z1 z2 z3 z4 ≤ 1 ∧ finL (z0 + 19 * topC z0 z1 z2 z3 z4) z1 z2 z3 z4 = dig (2 ^ 51) 5 (v51 [z0, z1, z2, z3, z4] % Go.Fp.P) := by
  have hc : topC z0 z1 z2 z3 z4 ≤ 1 ∧ ((topC z0 z1 z2 z3 z4 = 0 ∧ v51 [z0, z1, z2, z3, z4] < Go.Fp.P) ∨ (topC z0 z1 z2 z3 z4 = 1 ∧ Go.Fp.P ≤ v51 [z0, z1, z2, z3, z4])) := by
    simp only [topC, v51, num, Go.Fp.P_eq]
    obtain ⟨r0, e0, -, l0⟩ := dm (z0 + 19) 2251799813685248
    generalize (z0 + 19) / 2251799813685248 = t0 at *
    obtain ⟨r1, e1, -, l1⟩ := dm (z1 + t0) 2251799813685248
    generalize (z1 + t0) / 2251799813685248 = t1 at *
    obtain ⟨r2, e2, -, l2⟩ := dm (z2 + t1) 2251799813685248
    generalize (z2 + t1) / 2251799813685248 = t2 at *
    obtain ⟨r3, e3, -, l3⟩ := dm (z3 + t2) 2251799813685248
    generalize (z3 + t2) / 2251799813685248 = t3 at *
    obtain ⟨r4, e4, -, l4⟩ := dm (z4 + t3) 2251799813685248
    generalize (z4 + t3) / 2251799813685248 = t4 at *
    have l0 := l0 (by decide)
    have l1 := l1 (by decide)
    have l2 := l2 (by decide)
    have l3 := l3 (by decide)
    have l4 := l4 (by decide)
    omega
  have hP := Go.Fp.P_eq
  obtain ⟨hc1, hc2⟩ := hc
  refine ⟨hc1, ?_⟩
  generalize topC z0 z1 z2 z3 z4 = c at *
  have hlt : ∀ x ∈ finL (z0 + 19 * c) z1 z2 z3 z4, x < 2251799813685248 := by
    intro x hx
    simp only [finL, List.mem_cons, List.not_mem_nil, or_false] at hx
    rcases hx with h | h | h | h | h <;> (rw [h]; exact Nat.mod_lt _ (by decide))
  have hnum : num 2251799813685248 (finL (z0 + 19 * c) z1 z2 z3 z4) = v51 [z0, z1, z2, z3, z4] % Go.Fp.P := by
    have hV : v51 [z0, z1, z2, z3, z4] % Go.Fp.P = v51 [z0, z1, z2, z3, z4] - c * Go.Fp.P := by
      rcases hc2 with ⟨g1, g2⟩ | ⟨g1, g2⟩
      · rw [Nat.mod_eq_of_lt g2, g1]; omega
      · have g3 : v51 [z0, z1, z2, z3, z4] < Go.Fp.P + Go.Fp.P := by
          simp only [v51, num, Go.Fp.P_eq] at *
          omega
        rw [g1, Nat.one_mul, Nat.mod_eq_sub_mod g2, Nat.mod_eq_of_lt (by omega)]
    rw [hV]
    simp only [finL, v51, num, Go.Fp.P_eq] at hc2 ⊢
    obtain ⟨r0, e0, f0, l0⟩ := dm (z0 + 19 * c) 2251799813685248
    rw [f0]
    generalize (z0 + 19 * c) / 2251799813685248 = t0 at *
    obtain ⟨r1, e1, f1, l1⟩ := dm (z1 + t0) 2251799813685248
    rw [f1]
    generalize (z1 + t0) / 2251799813685248 = t1 at *
    obtain ⟨r2, e2, f2, l2⟩ := dm (z2 + t1) 2251799813685248
    rw [f2]
    generalize (z2 + t1) / 2251799813685248 = t2 at *
    obtain ⟨r3, e3, f3, l3⟩ := dm (z3 + t2) 2251799813685248
    rw [f3]
    generalize (z3 + t2) / 2251799813685248 = t3 at *
    obtain ⟨r4, e4, f4, l4⟩ := dm (z4 + t3) 2251799813685248
    rw [f4]
    generalize (z4 + t3) / 2251799813685248 = t4 at *
    have l0 := l0 (by decide)
    have l1 := l1 (by decide)
    have l2 := l2 (by decide)
    have l3 := l3 (by decide)
    have l4 := l4 (by decide)
    rcases hc2 with ⟨g1, g2⟩ | ⟨g1, g2⟩ <;> subst g1 <;> omega
  have h5 := dig_num (B := 2251799813685248) (by decide) hlt
  rw [hnum] at h5
  exact h5.symm
end Go.Ev.Ytaceeoghjgggjaa
set_option linter.unusedSimpArgs false
set_option linter.unusedVariables false
namespace Go.Ev.Ytaceeoghjgggjaa
open Go Go.Ev
attribute [local congr] bind_congr2 ite_congr2 qElse_congr gate_congr guardV_congr
set_option maxRecDepth 100000
def byX (V i : Nat) : List Nat := dig (2 ^ 8) 32 (V % 2 ^ i)
def byeI (x k : List Nat) (R : Ob) (i : Nat) (ex : Env) : St := ⟨[(1, .pointer (some ⟨0, 0, none⟩)), (2, .pointer (some ⟨1, 0, none⟩)), (6, .pointer (some ⟨2, 0, none⟩)), (54, .int .i64 i)] ++ ex, [⟨ns .u64 x, true, true, true, 1⟩, R, ⟨u8s k, true, true, true, 1⟩], []⟩
theorem bye_body {V : Nat} {R : Ob} {i : Nat} (hi : i < 255) :
    evCode T 0 a57_l0 (byeI (dig (2 ^ 51) 5 V) (byX V i) R i []) = some (.normal, byeI (dig (2 ^ 51) 5 V) (byX V (i + 1)) R (i + 1) []) := by
  obtain ⟨b, hb⟩ : ∃ b, (dig (2 ^ 51) 5 V)[i / 51]? = some b := ⟨_, List.getElem?_eq_getElem (by rw [dig_len]; omega)⟩
  have hbv : V / (2 ^ 51) ^ (i / 51) % 2 ^ 51 = b := by rw [dig_get (by omega)] at hb; exact Option.some.inj hb
  have hbc := ns_get (k := .u64) hb
  have hlen : (byX V i).length = 32 := dig_len _ _ _
  obtain ⟨y, hy⟩ : ∃ b, (byX V i)[i / 8]? = some b := ⟨_, List.getElem?_eq_getElem (by omega)⟩
  have hyc := u8s_get hy
  have hy' : y < 2 ^ 8 := dig_lt (by decide) (List.mem_of_getElem? hy)
  have hbit : b / 2 ^ (i % 51) % 2 = V / 2 ^ i % 2 := by
    rw [← hbv, bitOf (Nat.mod_lt _ (by decide)), Nat.div_add_mod]
  have hsm : (2 : Nat) ^ (i % 8) ≤ 2 ^ 7 := Nat.pow_le_pow_right (by decide) (by have := Nat.mod_lt i (by decide : 0 < 8); omega)
  have hbl := bit_lt V i
  have hprod : V / 2 ^ i % 2 * 2 ^ (i % 8) ≤ 1 * 2 ^ 7 := Nat.mul_le_mul (by omega) hsm
  have hput := dig_put (w := 8) (m := 32) (q := i / 8) (s := i % 8) (y := V / 2 ^ i % 2) (M := V % 2 ^ i) (by omega) (Nat.mod_lt _ (by decide)) (by rw [Nat.div_add_mod]; exact Nat.mod_lt _ (Nat.pow_pos (by decide))) (by omega)
  rw [Nat.div_add_mod, bit_step] at hput
  have hgd : (dig (2 ^ 8) 32 (V % 2 ^ i)).getD (i / 8) 0 = y := by rw [List.getD_eq_getElem?_getD]; unfold byX at hy; rw [hy]; rfl
  rw [hgd] at hput
  have hset := u8s_set (byX V i) (i / 8) (y ||| V / 2 ^ i % 2 * 2 ^ (i % 8))
  rw [show (byX V i).set (i / 8) (y ||| V / 2 ^ i % 2 * 2 ^ (i % 8)) = byX V (i + 1) from hput] at hset
  have s1 : (2 : Int) ^ min (i % 8) IntKind.u8.bits = ((2 ^ (i % 8) : Nat) : Int) := pow_min (Nat.le_of_lt (Nat.mod_lt _ (by decide)))
  have s2 : (2 : Int) ^ min (i % 51) IntKind.u64.bits = ((2 ^ (i % 51) : Nat) : Int) := pow_min (by have := Nat.mod_lt i (by decide : 0 < 51); exact Nat.le_trans (Nat.le_of_lt this) (by decide))
  have o1 : bitsOp .or .u8 (y : Int) ((V / 2 ^ i % 2 * 2 ^ (i % 8) : Nat) : Int) = ((y ||| V / 2 ^ i % 2 * 2 ^ (i % 8) : Nat) : Int) := bits_or rfl (by show _ < 256; omega) (by show _ < 256; omega)
  have n1 : (V / 2 ^ i % 2 * 2 ^ (i % 8)) % 256 = V / 2 ^ i % 2 * 2 ^ (i % 8) := by omega
  have n2 : (V / 2 ^ i % 2) % 256 = V / 2 ^ i % 2 := by omega
  have w1 : IntKind.i64.wrap ((i / 51 : Nat) : Int) = ((i / 51 : Nat) : Int) := wrap_nat (by omega)
  have w2 : IntKind.i64.wrap ((i / 8 : Nat) : Int) = ((i / 8 : Nat) : Int) := wrap_nat (by omega)
  have w3 : IntKind.i64.wrap ((i + 1 : Nat) : Int) = ((i + 1 : Nat) : Int) := wrap_nat (by omega)
  have e1 : ((i : Int) < 255) = True := eq_true (by omega)
  have e2 : (((i / 51 : Nat) : Int) < 5) = True := eq_true (by omega)
  have e3 : (((i / 8 : Nat) : Int) < 32) = True := eq_true (by omega)
  have e4 : (((i % 8 : Nat) : Int) < 0) = False := eq_false (by omega)
  have e5 : (((i % 51 : Nat) : Int) < 0) = False := eq_false (by omega)
  have e6 : i / 8 + 1 ≤ 32 := by omega
  simp only [byeI, a57_l0, envOf, quiet, cF, ↓pF, reduceCtorEq, Nat.reduceEqDiff, Int.reduceEq, fs_callW, fs_regionP, ↓keepV_some, ↓qElse_some, ↓guardV_tt, ↓guardV_ff, ↓guardV_tf, ↓guardV_ft, cL, Int.reduceLE, Int.reduceLT, Int.reduceAdd, Int.reduceMul, Int.reduceSub, Int.reduceTDiv, Int.reduceTMod, Int.reduceNeg, Int.reduceToNat, Int.reduceGT, Int.reduceGE, Int.reducePow, Nat.reduceAdd, Nat.reduceMul, Nat.reduceSub, Nat.reduceDiv, Nat.reduceMod, Nat.reducePow, Nat.reduceLT, Nat.reduceLeDiff, cJ, cU, hbc, hyc, hbit, s1, s2, o1, n1, n2, w1, w2, w3, e1, e2, e3, e4, e5, e6, hset, u8s_len, hlen]
theorem bye_block {V : Nat} {R : Ob} (hV : V < 2 ^ 255) : evCode T 0 (.block 4 (.loop a57_l0)) (byeI (dig (2 ^ 51) 5 V) (dig 256 32 0) R 0 []) = some (.normal, byeI (dig (2 ^ 51) 5 V) (dig 256 32 V) R 255 [(55, .bool false)]) := by
  have hb := block_loop (T := T) (base := 0) (id := 4) (body := a57_l0) (fun i => byeI (dig (2 ^ 51) 5 V) (byX V i) R i []) (s' := byeI (dig (2 ^ 51) 5 V) (byX V 255) R 255 [(55, .bool false)]) 255 (fun i hi => bye_body hi) (by
    simp only [byeI, a57_l0, envOf, quiet, cF, ↓pF, reduceCtorEq, Nat.reduceEqDiff, Int.reduceEq, fs_callW, fs_regionP, ↓keepV_some, ↓qElse_some, ↓guardV_tt, ↓guardV_ff, ↓guardV_tf, ↓guardV_ft, cL, Int.reduceLE, Int.reduceLT, Int.reduceAdd, Int.reduceMul, Int.reduceSub, Int.reduceTDiv, Int.reduceTMod, Int.reduceNeg, Int.reduceToNat, Int.reduceGT, Int.reduceGE, Int.reducePow, Nat.reduceAdd, Nat.reduceMul, Nat.reduceSub, Nat.reduceDiv, Nat.reduceMod, Nat.reducePow, Nat.reduceLT, Nat.reduceLeDiff])
  rw [show byX V 0 = dig 256 32 0 from by unfold byX; rw [Nat.pow_zero, Nat.mod_one], show byX V 255 = dig 256 32 V from by unfold byX; rw [Nat.mod_eq_of_lt hV]] at hb
  exact hb
theorem bytes_key {x0 x1 x2 x3 x4 : Nat} (h0 : x0 < 9223372036854775808) (h1 : x1 < 9223372036854775808) (h2 : x2 < 9223372036854775808) (h3 : x3 < 9223372036854775808) (h4 : x4 < 9223372036854775808) :
    evVal T 57 [eV [x0, x1, x2, x3, x4]] = some (.agg (u8s (dig 256 32 (v51 [x0, x1, x2, x3, x4] % Go.Fp.P))).toArray) := by
  obtain ⟨y0, y1, y2, y3, y4, z0, z1, z2, z3, z4, hy, a0, a1, a2, a3, a4, hz, b0, b1, b2, b3, b4, ⟨kk, hk⟩⟩ := car_twice h0 h1 h2 h3 h4
  have hV : v51 [x0, x1, x2, x3, x4] % Go.Fp.P = v51 [z0, z1, z2, z3, z4] % Go.Fp.P := by rw [← hk, Nat.add_mul_mod_self_right]
  obtain ⟨hc, hfin⟩ := fin_val b0 b1 b2 b3 b4
  have c1 := carried_v h0 h1 h2 h3 h4
  have c2 := carried_v a0 a1 a2 a3 a4
  rw [hy] at c1
  rw [hz] at c2
  have hN : v51 [z0, z1, z2, z3, z4] % Go.Fp.P < 2 ^ 255 := Nat.lt_trans (Nat.mod_lt _ (by decide)) (by rw [Go.Fp.P_eq]; decide)
  have hb := bye_block (R := ⟨u8s (dig 256 32 0), true, true, true, 1⟩) hN
  rw [hV]
  generalize v51 [z0, z1, z2, z3, z4] % Go.Fp.P = N at *
  have hz5 : List.replicate 5 (Value.int .u64 0) = [.int .u64 0, .int .u64 0, .int .u64 0, .int .u64 0, .int .u64 0] := rfl
  have hz32 : List.replicate 32 (Value.int .u8 0) = u8s (dig 256 32 0) := rfl
  have hr5 : ∀ a b c d e : Int, rf (.agg [.int .u64 a, .int .u64 b, .int .u64 c, .int .u64 d, .int .u64 e].toArray) = true := fun _ _ _ _ _ => rfl
  have hlk : (dig 256 32 N).length = 32 := dig_len _ _ _
  have hl0 : (dig 256 32 0).length = 32 := rfl
  -- the chain of the first loop
  have f0 : (z0 + 19) % 18446744073709551616 = z0 + 19 := by omega
  have f1 : (z1 + (z0 + 19) / 2251799813685248) % 18446744073709551616 = z1 + (z0 + 19) / 2251799813685248 := by omega
  have f2 : (z2 + (z1 + (z0 + 19) / 2251799813685248) / 2251799813685248) % 18446744073709551616 = z2 + (z1 + (z0 + 19) / 2251799813685248) / 2251799813685248 := by
    generalize (z1 + (z0 + 19) / 2251799813685248) = t at *; omega
  have f3 : (z3 + (z2 + (z1 + (z0 + 19) / 2251799813685248) / 2251799813685248) / 2251799813685248) % 18446744073709551616 = z3 + (z2 + (z1 + (z0 + 19) / 2251799813685248) / 2251799813685248) / 2251799813685248 := by
    have : (z2 + (z1 + (z0 + 19) / 2251799813685248) / 2251799813685248) / 2251799813685248 < 2251799813685248 := by omega
    generalize (z2 + (z1 + (z0 + 19) / 2251799813685248) / 2251799813685248) / 2251799813685248 = t at *; omega
  have f4 : (z4 + (z3 + (z2 + (z1 + (z0 + 19) / 2251799813685248) / 2251799813685248) / 2251799813685248) / 2251799813685248) % 18446744073709551616 = z4 + (z3 + (z2 + (z1 + (z0 + 19) / 2251799813685248) / 2251799813685248) / 2251799813685248) / 2251799813685248 := by
    have : (z2 + (z1 + (z0 + 19) / 2251799813685248) / 2251799813685248) / 2251799813685248 < 2251799813685248 := by omega
    generalize (z2 + (z1 + (z0 + 19) / 2251799813685248) / 2251799813685248) / 2251799813685248 = t at *; omega
  have ft : (z4 + (z3 + (z2 + (z1 + (z0 + 19) / 2251799813685248) / 2251799813685248) / 2251799813685248) / 2251799813685248) / 2251799813685248 = topC z0 z1 z2 z3 z4 := rfl
  generalize topC z0 z1 z2 z3 z4 = c at *
  have g0 : 19 * c % 18446744073709551616 = 19 * c := by omega
  have g1 : (z0 + 19 * c) % 18446744073709551616 = z0 + 19 * c := by omega
  have g2 : (z0 + 19 * c + 0) % 18446744073709551616 = z0 + 19 * c := by omega
  have k0 : (z0 + 19 * c) / 2251799813685248 < 8 := by omega
  have g3 : (z1 + (z0 + 19 * c) / 2251799813685248) % 18446744073709551616 = z1 + (z0 + 19 * c) / 2251799813685248 := by omega
  have k1 : (z1 + (z0 + 19 * c) / 2251799813685248) / 2251799813685248 < 8 := by omega
  have g4 : (z2 + (z1 + (z0 + 19 * c) / 2251799813685248) / 2251799813685248) % 18446744073709551616 = z2 + (z1 + (z0 + 19 * c) / 2251799813685248) / 2251799813685248 := by
    generalize (z1 + (z0 + 19 * c) / 2251799813685248) / 2251799813685248 = t at *; omega
  have k2 : (z2 + (z1 + (z0 + 19 * c) / 2251799813685248) / 2251799813685248) / 2251799813685248 < 8 := by
    generalize (z1 + (z0 + 19 * c) / 2251799813685248) / 2251799813685248 = t at *; omega
  have g5 : (z3 + (z2 + (z1 + (z0 + 19 * c) / 2251799813685248) / 2251799813685248) / 2251799813685248) % 18446744073709551616 = z3 + (z2 + (z1 + (z0 + 19 * c) / 2251799813685248) / 2251799813685248) / 2251799813685248 := by
    generalize (z2 + (z1 + (z0 + 19 * c) / 2251799813685248) / 2251799813685248) / 2251799813685248 = t at *; omega
  have k3 : (z3 + (z2 + (z1 + (z0 + 19 * c) / 2251799813685248) / 2251799813685248) / 2251799813685248) / 2251799813685248 < 8 := by
    generalize (z2 + (z1 + (z0 + 19 * c) / 2251799813685248) / 2251799813685248) / 2251799813685248 = t at *; omega
  have g6 : (z4 + (z3 + (z2 + (z1 + (z0 + 19 * c) / 2251799813685248) / 2251799813685248) / 2251799813685248) / 2251799813685248) % 18446744073709551616 = z4 + (z3 + (z2 + (z1 + (z0 + 19 * c) / 2251799813685248) / 2251799813685248) / 2251799813685248) / 2251799813685248 := by
    generalize (z3 + (z2 + (z1 + (z0 + 19 * c) / 2251799813685248) / 2251799813685248) / 2251799813685248) / 2251799813685248 = t at *; omega
  rw [← hfin] at hb
  simp only [eV, ns_cons, ns_nil] at c1 c2 ⊢
  simp only [byeI, finL, ns_cons, ns_nil, List.cons_append, List.nil_append, Int.natCast_zero] at hb
  apply evVal_ex
  apply Exists.intro
  rw [evFun_fn (fn := a57) rfl]
  have u0 := fun s => @evCode_loop T 0 a57_l2 s
  have u1 := fun s => @evCode_loop T 0 a57_l1 s
  have v0 := fun s => @evCode_block T 0 0 (.loop a57_l2) s
  have v1 := fun s => @evCode_block T 0 2 (.loop a57_l1) s
  have d0 : ∀ s, evCode T 0 a57_l2 s = evCode T 0 _ s := fun s => congrArg (fun c => evCode T 0 c s) a57_l2.eq_1
  have d1 : ∀ s, evCode T 0 a57_l1 s = evCode T 0 _ s := fun s => congrArg (fun c => evCode T 0 c s) a57_l1.eq_1
  simp only [a57, envOf, quiet, cF, ↓pF, reduceCtorEq, Nat.reduceEqDiff, Int.reduceEq, fs_callW, fs_regionP, ↓keepV_some, ↓qElse_some, ↓guardV_tt, ↓guardV_ff, ↓guardV_tf, ↓guardV_ft, cL, Int.reduceLE, Int.reduceLT, Int.reduceAdd, Int.reduceMul, Int.reduceSub, Int.reduceTDiv, Int.reduceTMod, Int.reduceNeg, Int.reduceToNat, Int.reduceGT, Int.reduceGE, Int.reducePow, Nat.reduceAdd, Nat.reduceMul, Nat.reduceSub, Nat.reduceDiv, Nat.reduceMod, Nat.reducePow, Nat.reduceLT, Nat.reduceLeDiff, cJ, cU, hz5, hz32, c1, c2, hr5, u0, u1, v0, v1, d0, d1, f0, f1, f2, f3, f4, ft, g0, g1, g2, g3, g4, g5, g6, hb, u8s_len, hlk, hl0]
  rfl
theorem key_inj {a b : Nat} (ha : a < 256 ^ 32) (hb : b < 256 ^ 32) : (dig 256 32 a == dig 256 32 b) = decide (a = b) := by
  by_cases h : a = b
  · subst h; simp
  · have : ¬ dig 256 32 a = dig 256 32 b := fun he => h (by
      have h1 := congrArg (num 256) he
      rwa [num_dig (by decide), num_dig (by decide), Nat.mod_eq_of_lt ha, Nat.mod_eq_of_lt hb] at h1)
    rw [decide_eq_false h, beq_eq_false_iff_ne.2 this]
theorem P_lt : Go.Fp.P < 256 ^ 32 := by rw [Go.Fp.P_eq]; decide
theorem fe_val (l : List Nat) : (fe l).val = v51 l % Go.Fp.P := rfl
theorem bytes_v {l : List Nat} (h : El l (2 ^ 52)) : evVal T 57 [eV l] = some (.agg (u8s (dig 256 32 (fe l).val)).toArray) := by
  obtain ⟨x0, x1, x2, x3, x4, rfl, a0, a1, a2, a3, a4⟩ := h.five
  exact bytes_key (by omega) (by omega) (by omega) (by omega) (by omega)
theorem fe_lt (a : Go.Fp.Fe) : a.val < 256 ^ 32 := Nat.lt_trans a.isLt P_lt
theorem fe_beq (a b : Go.Fp.Fe) : (dig 256 32 a.val == dig 256 32 b.val) = decide (a = b) := by
  rw [key_inj (fe_lt a) (fe_lt b)]
  by_cases h : a = b
  · subst h; simp
  · have : ¬ a.val = b.val := fun he => h (Fin.ext he)
    rw [decide_eq_false h, decide_eq_false this]
theorem eV_cells (l : List Nat) : (eV l).cells.toList = ns .u64 l := rfl
theorem eV_size (l : List Nat) : (eV l).cells.size = l.length := ns_len _ _
theorem eV_ok (l : List Nat) : okVar (eV l) = true := rfl
theorem eV_fold (l : List Nat) : Value.agg (ns .u64 l).toArray = eV l := rfl
theorem eq_v {x y : List Nat} (hx : El x (2 ^ 52)) (hy : El y (2 ^ 52)) : evVal T 55 [eV x, eV y] = some (.bool (decide (fe x = fe y))) := by
  have h1 := bytes_v hx
  have h2 := bytes_v hy
  have l1 := hx.len
  have l2 := hy.len
  apply evVal_ex
  apply Exists.intro
  rw [evFun_fn (fn := a55) rfl]
  simp only [a55, envOf, quiet, cF, ↓pF, reduceCtorEq, Nat.reduceEqDiff, Int.reduceEq, fs_callW, fs_regionP, ↓keepV_some, ↓qElse_some, ↓guardV_tt, ↓guardV_ff, ↓guardV_tf, ↓guardV_ft, cL, Int.reduceLE, Int.reduceLT, Int.reduceAdd, Int.reduceMul, Int.reduceSub, Int.reduceTDiv, Int.reduceTMod, Int.reduceNeg, Int.reduceToNat, Int.reduceGT, Int.reduceGE, Int.reducePow, Nat.reduceAdd, Nat.reduceMul, Nat.reduceSub, Nat.reduceDiv, Nat.reduceMod, Nat.reducePow, Nat.reduceLT, Nat.reduceLeDiff, cJ, eV_cells, eV_size, eV_ok, eV_fold, ns_len, l1, l2, h1, h2, cellsEq_u8, dig_len, fe_beq, rf_eV]
  rfl
theorem isZero_v {x : List Nat} (hx : El x (2 ^ 52)) : evVal T 63 [eV x] = some (.bool (decide (fe x = 0))) := by
  have h1 := bytes_v hx
  have l1 := hx.len
  have f0 : fillL (List.replicate 32 (Value.int .u8 0)) [] = some (u8s (dig 256 32 (0 : Go.Fp.Fe).val)) := rfl
  apply evVal_ex
  apply Exists.intro
  rw [evFun_fn (fn := a63) rfl]
  simp only [a63, envOf, quiet, cF, ↓pF, reduceCtorEq, Nat.reduceEqDiff, Int.reduceEq, fs_callW, fs_regionP, ↓keepV_some, ↓qElse_some, ↓guardV_tt, ↓guardV_ff, ↓guardV_tf, ↓guardV_ft, cL, Int.reduceLE, Int.reduceLT, Int.reduceAdd, Int.reduceMul, Int.reduceSub, Int.reduceTDiv, Int.reduceTMod, Int.reduceNeg, Int.reduceToNat, Int.reduceGT, Int.reduceGE, Int.reducePow, Nat.reduceAdd, Nat.reduceMul, Nat.reduceSub, Nat.reduceDiv, Nat.reduceMod, Nat.reducePow, Nat.reduceLT, Nat.reduceLeDiff, cJ, eV_cells, eV_size, eV_ok, eV_fold, ns_len, l1, h1, f0, cellsEq_u8, dig_len, fe_beq, rf_eV]
  rfl
theorem odd_v {x : List Nat} (hx : El x (2 ^ 52)) : evVal T 58 [eV x] = some (.bool (decide ((fe x).val % 2 = 1))) := by
  have h1 := bytes_v hx
  have l1 := hx.len
  have h0 : (u8s (dig 256 32 (fe x).val))[0]? = some (.int .u8 (((fe x).val % 256 : Nat) : Int)) := by
    apply u8s_get
    rw [dig_get (by decide), Nat.pow_zero, Nat.div_one]
  have hm : (fe x).val % 256 % 2 = (fe x).val % 2 := by omega
  have hd : ((((fe x).val % 2 : Nat) : Int) == 1) = decide ((fe x).val % 2 = 1) := by
    by_cases h : (fe x).val % 2 = 1
    · rw [h]; rfl
    · have : ¬ ((((fe x).val % 2 : Nat) : Int) = 1) := by omega
      rw [decide_eq_false h, beq_eq_false_iff_ne.2 this]
  apply evVal_ex
  apply Exists.intro
  rw [evFun_fn (fn := a58) rfl]
  simp only [a58, envOf, quiet, cF, ↓pF, reduceCtorEq, Nat.reduceEqDiff, Int.reduceEq, fs_callW, fs_regionP, ↓keepV_some, ↓qElse_some, ↓guardV_tt, ↓guardV_ff, ↓guardV_tf, ↓guardV_ft, cL, Int.reduceLE, Int.reduceLT, Int.reduceAdd, Int.reduceMul, Int.reduceSub, Int.reduceTDiv, Int.reduceTMod, Int.reduceNeg, Int.reduceToNat, Int.reduceGT, Int.reduceGE, Int.reducePow, Nat.reduceAdd, Nat.reduceMul, Nat.reduceSub, Nat.reduceDiv, Nat.reduceMod, Nat.reducePow, Nat.reduceLT, Nat.reduceLeDiff, cJ, cU, eV_cells, eV_size, eV_ok, eV_fold, ns_len, l1, h1, h0, hm, hd, u8s_len, dig_len, rf_eV]
  rfl
theorem canonical_v {k : List Nat} (lk : k.length = 32) (xk : ∀ x ∈ k, x < 256) : evVal T 59 [.agg (u8s k).toArray] = some (.bool (decide (num 256 k < Go.Fp.P))) := by
  have h0 := of_v lk xk
  have hel := of_el (V := num 256 k % 2 ^ 255)
  have h1 := bytes_v hel
  rw [fe_val, of_v51] at h1
  have hb : (dig 256 32 (num 256 k % 2 ^ 255 % Go.Fp.P) == k) = decide (num 256 k < Go.Fp.P) := by
    have hk := dig_num (B := 256) (by decide) xk
    rw [lk] at hk
    have hkl := num_lt xk
    rw [lk] at hkl
    rw [show (dig 256 32 (num 256 k % 2 ^ 255 % Go.Fp.P) == k) = (dig 256 32 (num 256 k % 2 ^ 255 % Go.Fp.P) == dig 256 32 (num 256 k)) from by rw [hk]]
    have hP := Go.Fp.P_eq
    rw [key_inj (Nat.lt_trans (Nat.mod_lt _ (by rw [hP]; decide)) P_lt) hkl]
    by_cases h : num 256 k < Go.Fp.P
    · rw [decide_eq_true h, Nat.mod_eq_of_lt (a := num 256 k) (by rw [hP] at h; omega), Nat.mod_eq_of_lt h]; simp
    · rw [decide_eq_false h, decide_eq_false]
      have := Nat.mod_lt (num 256 k % 2 ^ 255) (show 0 < Go.Fp.P by rw [hP]; decide)
      omega
  apply evVal_ex
  apply Exists.intro
  rw [evFun_fn (fn := a59) rfl]
  simp only [a59, envOf, quiet, cF, ↓pF, reduceCtorEq, Nat.reduceEqDiff, Int.reduceEq, fs_callW, fs_regionP, ↓keepV_some, ↓qElse_some, ↓guardV_tt, ↓guardV_ff, ↓guardV_tf, ↓guardV_ft, cL, Int.reduceLE, Int.reduceLT, Int.reduceAdd, Int.reduceMul, Int.reduceSub, Int.reduceTDiv, Int.reduceTMod, Int.reduceNeg, Int.reduceToNat, Int.reduceGT, Int.reduceGE, Int.reducePow, Nat.reduceAdd, Nat.reduceMul, Nat.reduceSub, Nat.reduceDiv, Nat.reduceMod, Nat.reducePow, Nat.reduceLT, Nat.reduceLeDiff, cJ, eV_cells, eV_size, eV_ok, eV_fold, ns_len, u8s_len, lk, h0, h1, cellsEq_u8, dig_len, hb, rf_eV]
  rfl
end Go.Ev.Ytaceeoghjgggjaa
set_option linter.unusedSimpArgs false
set_option linter.unusedVariables false
namespace Go.Ev.Ytaceeoghjgggjaa
open Go Go.Ev
attribute [local congr] bind_congr2 ite_congr2 qElse_congr gate_congr guardV_congr
set_option maxRecDepth 100000
theorem carL_el {x0 x1 x2 x3 x4 : Nat} (h0 : x0 < 2 ^ 60) (h1 : x1 < 2 ^ 60) (h2 : x2 < 2 ^ 60) (h3 : x3 < 2 ^ 60) (h4 : x4 < 2 ^ 60) : El (carL x0 x1 x2 x3 x4) (2 ^ 52) := by
  simp only [carL]
  have c0 : x0 / 2251799813685248 < 1024 := by omega
  have c1 : (x1 + x0 / 2251799813685248) / 2251799813685248 < 1024 := by omega
  have c2 : (x2 + (x1 + x0 / 2251799813685248) / 2251799813685248) / 2251799813685248 < 1024 := by omega
  have c3 : (x3 + (x2 + (x1 + x0 / 2251799813685248) / 2251799813685248) / 2251799813685248) / 2251799813685248 < 1024 := by omega
  have c4 : (x4 + (x3 + (x2 + (x1 + x0 / 2251799813685248) / 2251799813685248) / 2251799813685248) / 2251799813685248) / 2251799813685248 < 1024 := by omega
  have m0 := Nat.mod_lt x0 (by decide : 0 < 2251799813685248)
  apply El.mk5
  · generalize (x4 + (x3 + (x2 + (x1 + x0 / 2251799813685248) / 2251799813685248) / 2251799813685248) / 2251799813685248) / 2251799813685248 = c at *
    omega
  all_goals exact Nat.lt_trans (Nat.mod_lt _ (by decide)) (by decide)
theorem carL_fe {x0 x1 x2 x3 x4 : Nat} : fe (carL x0 x1 x2 x3 x4) = fe [x0, x1, x2, x3, x4] := by
  obtain ⟨k, hk⟩ := carL_val (x0 := x0) (x1 := x1) (x2 := x2) (x3 := x3) (x4 := x4)
  exact fe_of hk
theorem sub_v {x y : List Nat} (hx : El x (2 ^ 52)) (hy : El y (2 ^ 52)) : ∃ r, evVal T 61 [eV x, eV y] = some (eV r) ∧ El r (2 ^ 52) ∧ fe r = fe x - fe y := by
  obtain ⟨x0, x1, x2, x3, x4, rfl, a0, a1, a2, a3, a4⟩ := hx.five
  obtain ⟨y0, y1, y2, y3, y4, rfl, b0, b1, b2, b3, b4⟩ := hy.five
  refine ⟨carL (x0 + (9007199254740988 - y0) - 72) (x1 + (9007199254740988 - y1)) (x2 + (9007199254740988 - y2)) (x3 + (9007199254740988 - y3)) (x4 + (9007199254740988 - y4)), ?_, carL_el (by omega) (by omega) (by omega) (by omega) (by omega), ?_⟩
  · have s0 : (9007199254740988 + (18446744073709551616 - y0 % 18446744073709551616)) % 18446744073709551616 = 9007199254740988 - y0 := by omega
    have s1 : (9007199254740988 + (18446744073709551616 - y1 % 18446744073709551616)) % 18446744073709551616 = 9007199254740988 - y1 := by omega
    have s2 : (9007199254740988 + (18446744073709551616 - y2 % 18446744073709551616)) % 18446744073709551616 = 9007199254740988 - y2 := by omega
    have s3 : (9007199254740988 + (18446744073709551616 - y3 % 18446744073709551616)) % 18446744073709551616 = 9007199254740988 - y3 := by omega
    have s4 : (9007199254740988 + (18446744073709551616 - y4 % 18446744073709551616)) % 18446744073709551616 = 9007199254740988 - y4 := by omega
    have t0 : (x0 + (9007199254740988 - y0)) % 18446744073709551616 = x0 + (9007199254740988 - y0) := by omega
    have t1 : (x1 + (9007199254740988 - y1)) % 18446744073709551616 = x1 + (9007199254740988 - y1) := by omega
    have t2 : (x2 + (9007199254740988 - y2)) % 18446744073709551616 = x2 + (9007199254740988 - y2) := by omega
    have t3 : (x3 + (9007199254740988 - y3)) % 18446744073709551616 = x3 + (9007199254740988 - y3) := by omega
    have t4 : (x4 + (9007199254740988 - y4)) % 18446744073709551616 = x4 + (9007199254740988 - y4) := by omega
    have r0 : (x0 + (9007199254740988 - y0) + 18446744073709551544) % 18446744073709551616 = x0 + (9007199254740988 - y0) - 72 := by omega
    have c1 := carried_v (x0 := x0 + (9007199254740988 - y0) - 72) (x1 := x1 + (9007199254740988 - y1)) (x2 := x2 + (9007199254740988 - y2)) (x3 := x3 + (9007199254740988 - y3)) (x4 := x4 + (9007199254740988 - y4)) (by omega) (by omega) (by omega) (by omega) (by omega)
    have hl : (carL (x0 + (9007199254740988 - y0) - 72) (x1 + (9007199254740988 - y1)) (x2 + (9007199254740988 - y2)) (x3 + (9007199254740988 - y3)) (x4 + (9007199254740988 - y4))).length = 5 := rfl
    generalize carL (x0 + (9007199254740988 - y0) - 72) (x1 + (9007199254740988 - y1)) (x2 + (9007199254740988 - y2)) (x3 + (9007199254740988 - y3)) (x4 + (9007199254740988 - y4)) = C at *
    have hz5 : List.replicate 5 (Value.int .u64 0) = [.int .u64 0, .int .u64 0, .int .u64 0, .int .u64 0, .int .u64 0] := rfl
    have hr5 : ∀ a b c d e : Int, rf (.agg [.int .u64 a, .int .u64 b, .int .u64 c, .int .u64 d, .int .u64 e].toArray) = true := fun _ _ _ _ _ => rfl
    have u0 := fun s => @evCode_loop T 0 a61_l0 s
    have v0 := fun s => @evCode_block T 0 0 (.loop a61_l0) s
    have d0 : ∀ s, evCode T 0 a61_l0 s = evCode T 0 _ s := fun s => congrArg (fun c => evCode T 0 c s) a61_l0.eq_1
    have hrC : rf (.agg (ns .u64 C).toArray) = true := rf_ns _ _
    simp only [eV, ns_cons, ns_nil] at c1 ⊢
    apply evVal_ex
    apply Exists.intro
    rw [evFun_fn (fn := a61) rfl]
    simp only [a61, envOf, quiet, cF, ↓pF, reduceCtorEq, Nat.reduceEqDiff, Int.reduceEq, fs_callW, fs_regionP, ↓keepV_some, ↓qElse_some, ↓guardV_tt, ↓guardV_ff, ↓guardV_tf, ↓guardV_ft, cL, Int.reduceLE, Int.reduceLT, Int.reduceAdd, Int.reduceMul, Int.reduceSub, Int.reduceTDiv, Int.reduceTMod, Int.reduceNeg, Int.reduceToNat, Int.reduceGT, Int.reduceGE, Int.reducePow, Nat.reduceAdd, Nat.reduceMul, Nat.reduceSub, Nat.reduceDiv, Nat.reduceMod, Nat.reducePow, Nat.reduceLT, Nat.reduceLeDiff, cJ, cU, hz5, c1, hr5, u0, v0, d0, s0, s1, s2, s3, s4, t0, t1, t2, t3, t4, r0, ns_len, hl, hrC]
    rfl
  · rw [carL_fe]
    have e : v51 [x0 + (9007199254740988 - y0) - 72, x1 + (9007199254740988 - y1), x2 + (9007199254740988 - y2), x3 + (9007199254740988 - y3), x4 + (9007199254740988 - y4)] + v51 [y0, y1, y2, y3, y4] = v51 [x0, x1, x2, x3, x4] + 4 * Go.Fp.P := by
      simp only [v51, num, Go.Fp.P_eq]
      omega
    have h := congrArg Go.Fp.fp e
    rw [Go.Fp.fp_add, Go.Fp.fp_add, Go.Fp.fp_mulP] at h
    unfold fe
    grobner
theorem neg_v {x : List Nat} (hx : El x (2 ^ 52)) : ∃ r, evVal T 64 [eV x] = some (eV r) ∧ El r (2 ^ 52) ∧ fe r = -fe x := by
  have hz := small_el (n := 0) (by decide)
  obtain ⟨r, h1, h2, h3⟩ := sub_v hz hx
  refine ⟨r, ?_, h2, ?_⟩
  · have f0 : fillL (ns .u64 [0, 0, 0, 0, 0]) [] = some (ns .u64 [0, 0, 0, 0, 0]) := rfl
    have hz5 : List.replicate 5 (Value.int .u64 0) = ns .u64 [0, 0, 0, 0, 0] := rfl
    have l1 := hx.len
    have l2 := h2.len
    have l0 : (ns .u64 [0, 0, 0, 0, 0]).length = 5 := rfl
    apply evVal_ex
    apply Exists.intro
    rw [evFun_fn (fn := a64) rfl]
    simp only [a64, envOf, quiet, cF, ↓pF, reduceCtorEq, Nat.reduceEqDiff, Int.reduceEq, fs_callW, fs_regionP, ↓keepV_some, ↓qElse_some, ↓guardV_tt, ↓guardV_ff, ↓guardV_tf, ↓guardV_ft, cL, Int.reduceLE, Int.reduceLT, Int.reduceAdd, Int.reduceMul, Int.reduceSub, Int.reduceTDiv, Int.reduceTMod, Int.reduceNeg, Int.reduceToNat, Int.reduceGT, Int.reduceGE, Int.reducePow, Nat.reduceAdd, Nat.reduceMul, Nat.reduceSub, Nat.reduceDiv, Nat.reduceMod, Nat.reducePow, Nat.reduceLT, Nat.reduceLeDiff, cJ, f0, hz5, h1, eV_cells, eV_size, eV_ok, eV_fold, ns_len, l0, l1, l2, rf_eV]
    rfl
  · rw [h3, small_fe, Go.Fp.fp_zero]; grobner
def two_el (x y : List Nat) : Ob := ⟨ns .u64 (x ++ y), true, true, true, 1⟩
set_option maxHeartbeats 2000000 in
theorem add2_ev {H : List Ob} {id : Nat} {x y : List Nat} (hx : El x (2 ^ 52)) (hy : El y (2 ^ 52)) (h : H[id]? = some (two_el x y)) : ∃ r s, evFun T 62 [.slice (some ⟨id, 0, none⟩) 2 2] H = some (eV r, H ++ [⟨ns .u64 r, true, true, true, 1⟩, ⟨ns .u64 s, true, true, true, 1⟩, ⟨ns .u64 x, true, true, true, 1⟩, ⟨ns .u64 y, true, true, true, 1⟩], []) ∧ El r (2 ^ 52) ∧ fe r = fe x + fe y := by
  have hid : id < H.length := (List.getElem?_eq_some_iff.1 h).1
  have hA : ∀ l, (H ++ l)[id]? = some (two_el x y) := fun l => by rw [List.getElem?_append_left hid]; exact h
  obtain ⟨x0, x1, x2, x3, x4, rfl, a0, a1, a2, a3, a4⟩ := hx.five
  obtain ⟨y0, y1, y2, y3, y4, rfl, b0, b1, b2, b3, b4⟩ := hy.five
  refine ⟨carL (x0 + y0) (x1 + y1) (x2 + y2) (x3 + y3) (x4 + y4), [x0 + y0, x1 + y1, x2 + y2, x3 + y3, x4 + y4], ?_, carL_el (by omega) (by omega) (by omega) (by omega) (by omega), ?_⟩
  · have s0 : (0 + x0) % 18446744073709551616 = x0 := by omega
    have s1 : (0 + x1) % 18446744073709551616 = x1 := by omega
    have s2 : (0 + x2) % 18446744073709551616 = x2 := by omega
    have s3 : (0 + x3) % 18446744073709551616 = x3 := by omega
    have s4 : (0 + x4) % 18446744073709551616 = x4 := by omega
    have q0 : x0 % 18446744073709551616 = x0 := by omega
    have q1 : x1 % 18446744073709551616 = x1 := by omega
    have q2 : x2 % 18446744073709551616 = x2 := by omega
    have q3 : x3 % 18446744073709551616 = x3 := by omega
    have q4 : x4 % 18446744073709551616 = x4 := by omega
    have t0 : (x0 + y0) % 18446744073709551616 = x0 + y0 := by omega
    have t1 : (x1 + y1) % 18446744073709551616 = x1 + y1 := by omega
    have t2 : (x2 + y2) % 18446744073709551616 = x2 + y2 := by omega
    have t3 : (x3 + y3) % 18446744073709551616 = x3 + y3 := by omega
    have t4 : (x4 + y4) % 18446744073709551616 = x4 + y4 := by omega
    have c1 := carried_v (x0 := x0 + y0) (x1 := x1 + y1) (x2 := x2 + y2) (x3 := x3 + y3) (x4 := x4 + y4) (by omega) (by omega) (by omega) (by omega) (by omega)
    have hl : (carL (x0 + y0) (x1 + y1) (x2 + y2) (x3 + y3) (x4 + y4)).length = 5 := rfl
    generalize carL (x0 + y0) (x1 + y1) (x2 + y2) (x3 + y3) (x4 + y4) = C at *
    have hz5 : List.replicate 5 (Value.int .u64 0) = [.int .u64 0, .int .u64 0, .int .u64 0, .int .u64 0, .int .u64 0] := rfl
    have hr5 : ∀ a b c d e : Int, rf (.agg [.int .u64 a, .int .u64 b, .int .u64 c, .int .u64 d, .int .u64 e].toArray) = true := fun _ _ _ _ _ => rfl
    have u0 := fun s => @evCode_loop T H.length a62_l0 s
    have v0 := fun s => @evCode_block T H.length 2 (.loop a62_l0) s
    have d0 : ∀ s, evCode T H.length a62_l0 s = evCode T H.length _ s := fun s => congrArg (fun c => evCode T H.length c s) a62_l0.eq_1
    have u1 := fun s => @evCode_loop T H.length a62_l1 s
    have v1 := fun s => @evCode_block T H.length 0 (.loop a62_l1) s
    have d1 : ∀ s, evCode T H.length a62_l1 s = evCode T H.length _ s := fun s => congrArg (fun c => evCode T H.length c s) a62_l1.eq_1
    have hrC : rf (.agg (ns .u64 C).toArray) = true := rf_ns _ _
    have p1 : ∀ a b c d e f g i j k : Value, List.take 5 (List.drop 0 [a, b, c, d, e, f, g, i, j, k]) = [a, b, c, d, e] := fun _ _ _ _ _ _ _ _ _ _ => rfl
    have p2 : ∀ a b c d e f g i j k : Value, List.take 5 (List.drop 5 [a, b, c, d, e, f, g, i, j, k]) = [f, g, i, j, k] := fun _ _ _ _ _ _ _ _ _ _ => rfl
    simp only [eV, ns_cons, ns_nil] at c1 ⊢
    simp only [two_el, List.cons_append, List.nil_append, ns_cons, ns_nil] at hA h
    rw [evFun_fn (fn := a62) rfl]
    simp only [a62, Int.reduceBEq, Int.reduceBNe, envOf, quiet, cF, ↓pF, reduceCtorEq, Nat.reduceEqDiff, Int.reduceEq, fs_callW, fs_regionP, ↓keepV_some, ↓qElse_some, ↓guardV_tt, ↓guardV_ff, ↓guardV_tf, ↓guardV_ft, cL, Int.reduceLE, Int.reduceLT, Int.reduceAdd, Int.reduceMul, Int.reduceSub, Int.reduceTDiv, Int.reduceTMod, Int.reduceNeg, Int.reduceToNat, Int.reduceGT, Int.reduceGE, Int.reducePow, Nat.reduceAdd, Nat.reduceMul, Nat.reduceSub, Nat.reduceDiv, Nat.reduceMod, Nat.reducePow, Nat.reduceLT, Nat.reduceLeDiff, cJ, cU, h, hA, hz5, c1, hr5, u0, v0, d0, u1, v1, d1, p1, p2, s0, s1, s2, s3, s4, q0, q1, q2, q3, q4, t0, t1, t2, t3, t4, ns_len, hl, hrC]
  · rw [carL_fe]
    have e : v51 [x0 + y0, x1 + y1, x2 + y2, x3 + y3, x4 + y4] = v51 [x0, x1, x2, x3, x4] + v51 [y0, y1, y2, y3, y4] := by
      simp only [v51, num]
      omega
    unfold fe
    rw [e, Go.Fp.fp_add]
end Go.Ev.Ytaceeoghjgggjaa
set_option linter.unusedSimpArgs false
set_option linter.unusedVariables false
namespace Go.Ev.Ytaceeoghjgggjaa
open Go Go.Ev
attribute [local congr] bind_congr2 ite_congr2 qElse_congr gate_congr guardV_congr
set_option maxRecDepth 100000
theorem part5 {a b c : List Nat} {n : Nat} (hb : b.length = 5) (ha : a.length = n) : List.take 5 (List.drop n (ns .u64 (a ++ (b ++ c)))) = ns .u64 b := by
  simp only [ns_append]
  rw [List.drop_append_of_le_length (by rw [ns_len]; omega), List.drop_of_length_le (by rw [ns_len]; omega), List.nil_append, List.take_append_of_le_length (by rw [ns_len]; omega), List.take_of_length_le (by rw [ns_len]; omega)]
theorem prod_body {H : List Ob} {l : List Ob} {id n i : Nat} {o x r R : List Nat} {cs : List Value} {g : List Ob} (hi : i < n) (hn : n < 100) (hx : El x (2 ^ 52)) (ho : El o (2 ^ 52)) (hm : evVal T 51 [eV o, eV x] = some (eV r)) (hr : El r (2 ^ 52))
    (hA : ∀ l, (H ++ l)[id]? = some ⟨cs, true, true, true, 1⟩) (hcs : (cs.drop (i * 5)).take 5 = ns .u64 x) (hlen : i * 5 + 5 ≤ cs.length) :
    evCode T H.length a82_l0 ⟨[(2, .pointer (some ⟨H.length, 0, none⟩)), (3, .pointer (some ⟨H.length + 1, 0, none⟩)), (7, .slice (some ⟨id, 0, none⟩) n n), (8, .int .i64 n), (9, .int .i64 i)], H ++ (⟨ns .u64 R, true, true, true, 1⟩ :: ⟨ns .u64 o, true, true, true, 1⟩ :: g), []⟩ =
      some (.normal, ⟨[(2, .pointer (some ⟨H.length, 0, none⟩)), (3, .pointer (some ⟨H.length + 1, 0, none⟩)), (7, .slice (some ⟨id, 0, none⟩) n n), (8, .int .i64 n), (9, .int .i64 ((i + 1 : Nat) : Int))], H ++ (⟨ns .u64 R, true, true, true, 1⟩ :: ⟨ns .u64 r, true, true, true, 1⟩ :: (g ++ [⟨ns .u64 x, true, true, true, 1⟩])), []⟩) := by
  have hz5 : List.replicate 5 (Value.int .u64 0) = ns .u64 [0, 0, 0, 0, 0] := rfl
  have l0 : (ns .u64 [0, 0, 0, 0, 0]).length = 5 := rfl
  have l1 := hx.len
  have l2 := ho.len
  have l3 := hr.len
  have e1 : ((i : Int) < (n : Int)) = True := eq_true (by omega)
  have w3 : IntKind.i64.wrap ((i : Int) + 1) = ((i + 1 : Nat) : Int) := wrap_nat (n := i + 1) (by omega)
  simp only [a82_l0, envOf, quiet, cF, ↓pF, reduceCtorEq, Nat.reduceEqDiff, Int.reduceEq, fs_callW, fs_regionP, ↓keepV_some, ↓qElse_some, ↓guardV_tt, ↓guardV_ff, ↓guardV_tf, ↓guardV_ft, cL, Int.reduceLE, Int.reduceLT, Int.reduceAdd, Int.reduceMul, Int.reduceSub, Int.reduceTDiv, Int.reduceTMod, Int.reduceNeg, Int.reduceToNat, Int.reduceGT, Int.reduceGE, Int.reducePow, Nat.reduceAdd, Nat.reduceMul, Nat.reduceSub, Nat.reduceDiv, Nat.reduceMod, Nat.reducePow, Nat.reduceLT, Nat.reduceLeDiff, cJ, Nat.add_assoc, hz5, hA, hcs, hlen, hm, eV_cells, eV_size, eV_ok, eV_fold, ns_len, l0, l1, l2, l3, rf_eV, e1, w3]
theorem one_fe : fe [1, 0, 0, 0, 0] = 1 := by rw [small_fe]; rfl
theorem one_el : El [1, 0, 0, 0, 0] (2 ^ 52) := small_el (by decide)
theorem prod_ev {H : List Ob} {id n : Nat} {xs : List (List Nat)} (hn : xs.length = n) (hN : n < 100) (hx : ∀ x ∈ xs, El x (2 ^ 52)) (h : H[id]? = some ⟨ns .u64 xs.flatten, true, true, true, 1⟩) :
    ∃ r, evFun T 82 [.slice (some ⟨id, 0, none⟩) n n] H = some (eV r, H ++ (⟨ns .u64 r, true, true, true, 1⟩ :: ⟨ns .u64 r, true, true, true, 1⟩ :: xs.map fun x => (⟨ns .u64 x, true, true, true, 1⟩ : Ob)), []) ∧ El r (2 ^ 52) ∧ fe r = (xs.map fe).foldl (· * ·) 1 := by
  have hid : id < H.length := (List.getElem?_eq_some_iff.1 h).1
  have hA : ∀ l, (H ++ l)[id]? = some ⟨ns .u64 xs.flatten, true, true, true, 1⟩ := fun l => by rw [List.getElem?_append_left hid]; exact h
  have hfl : ∀ (ys : List (List Nat)), (∀ x ∈ ys, El x (2 ^ 52)) → ys.flatten.length = ys.length * 5 := by
    intro ys hy
    induction ys with
    | nil => rfl
    | cons y ys ih =>
      rw [List.flatten_cons, List.length_append, ih (fun x hx => hy x (by simp [hx])), (hy y (by simp)).len, List.length_cons]; omega
  obtain ⟨st, hb, r, rfl, hr1, hr2⟩ := block_inv (T := T) (base := H.length) (id := 0) (body := a82_l0)
    (fun i st => ∃ r : List Nat, st = ⟨[(2, .pointer (some ⟨H.length, 0, none⟩)), (3, .pointer (some ⟨H.length + 1, 0, none⟩)), (7, .slice (some ⟨id, 0, none⟩) n n), (8, .int .i64 n), (9, .int .i64 (i : Nat))], H ++ (⟨ns .u64 [0, 0, 0, 0, 0], true, true, true, 1⟩ :: ⟨ns .u64 r, true, true, true, 1⟩ :: ((xs.take i).map fun x => (⟨ns .u64 x, true, true, true, 1⟩ : Ob))), []⟩ ∧ El r (2 ^ 52) ∧ fe r = ((xs.take i).map fe).foldl (· * ·) 1)
    (Q := fun st => ∃ r : List Nat, st = ⟨[(2, .pointer (some ⟨H.length, 0, none⟩)), (3, .pointer (some ⟨H.length + 1, 0, none⟩)), (7, .slice (some ⟨id, 0, none⟩) n n), (8, .int .i64 n), (9, .int .i64 n), (10, .bool false)], H ++ (⟨ns .u64 [0, 0, 0, 0, 0], true, true, true, 1⟩ :: ⟨ns .u64 r, true, true, true, 1⟩ :: (xs.map fun x => (⟨ns .u64 x, true, true, true, 1⟩ : Ob))), []⟩ ∧ El r (2 ^ 52) ∧ fe r = (xs.map fe).foldl (· * ·) 1)
    n (s := ⟨[(2, .pointer (some ⟨H.length, 0, none⟩)), (3, .pointer (some ⟨H.length + 1, 0, none⟩)), (7, .slice (some ⟨id, 0, none⟩) n n), (8, .int .i64 n), (9, .int .i64 0)], H ++ [⟨ns .u64 [0, 0, 0, 0, 0], true, true, true, 1⟩, ⟨ns .u64 [1, 0, 0, 0, 0], true, true, true, 1⟩], []⟩) ⟨[1, 0, 0, 0, 0], rfl, one_el, one_fe⟩
    (fun i st hi hs => by
      obtain ⟨r, rfl, hr1, hr2⟩ := hs
      obtain ⟨x, hxi⟩ : ∃ y, xs[i]? = some y := ⟨_, List.getElem?_eq_getElem (by omega)⟩
      have hxe := hx x (List.mem_of_getElem? hxi)
      obtain ⟨r', hm, g1, g2⟩ := mul_ev hr1 hxe
      have hsplit : xs = xs.take i ++ x :: xs.drop (i + 1) := by
        have h1 := List.getElem?_eq_some_iff.1 hxi
        conv => lhs; rw [← List.take_append_drop i xs, List.drop_eq_getElem_cons h1.1, h1.2]
      have htl : (xs.take i).flatten.length = i * 5 := by
        rw [hfl _ (fun y hy => hx y (List.mem_of_mem_take hy)), List.length_take, Nat.min_eq_left (by omega)]
      have hcs : ((ns .u64 xs.flatten).drop (i * 5)).take 5 = ns .u64 x := by
        conv => lhs; rw [hsplit, List.flatten_append, List.flatten_cons]
        exact part5 hxe.len htl
      have hb := prod_body (R := [0, 0, 0, 0, 0]) (g := (xs.take i).map fun x => (⟨ns .u64 x, true, true, true, 1⟩ : Ob)) (l := []) hi hN hxe hr1 hm g1 hA hcs (by rw [ns_len, hfl xs hx, hn]; omega)
      have htk : xs.take (i + 1) = xs.take i ++ [x] := by rw [List.take_add_one, hxi]; rfl
      refine ⟨_, hb, r', ?_, g1, ?_⟩
      · rw [htk, List.map_append]; rfl
      · rw [htk, List.map_append, List.foldl_append, ← hr2, g2]; rfl)
    (fun st hs => by
      obtain ⟨r, rfl, hr1, hr2⟩ := hs
      have e1 : ((n : Int) < (n : Int)) = False := eq_false (by omega)
      have ht : xs.take n = xs := List.take_of_length_le (by omega)
      rw [ht] at hr2 ⊢
      refine ⟨_, ?_, r, rfl, hr1, hr2⟩
      simp only [a82_l0, envOf, quiet, cF, ↓pF, reduceCtorEq, Nat.reduceEqDiff, Int.reduceEq, fs_callW, fs_regionP, ↓keepV_some, ↓qElse_some, ↓guardV_tt, ↓guardV_ff, ↓guardV_tf, ↓guardV_ft, cL, Int.reduceLE, Int.reduceLT, Int.reduceAdd, Int.reduceMul, Int.reduceSub, Int.reduceTDiv, Int.reduceTMod, Int.reduceNeg, Int.reduceToNat, Int.reduceGT, Int.reduceGE, Int.reducePow, Nat.reduceAdd, Nat.reduceMul, Nat.reduceSub, Nat.reduceDiv, Nat.reduceMod, Nat.reducePow, Nat.reduceLT, Nat.reduceLeDiff, e1])
  refine ⟨r, ?_, hr1, hr2⟩
  have hz5 : List.replicate 5 (Value.int .u64 0) = ns .u64 [0, 0, 0, 0, 0] := rfl
  have l0 : (ns .u64 [0, 0, 0, 0, 0]).length = 5 := rfl
  have l1 := hr1.len
  have hs := small_v (n := 1) (by decide)
  have l2 : ([1, 0, 0, 0, 0] : List Nat).length = 5 := rfl
  simp only [Int.natCast_one] at hs
  rw [evFun_fn (fn := a82) rfl]
  simp only [a82, envOf, quiet, cF, ↓pF, reduceCtorEq, Nat.reduceEqDiff, Int.reduceEq, fs_callW, fs_regionP, ↓keepV_some, ↓qElse_some, ↓guardV_tt, ↓guardV_ff, ↓guardV_tf, ↓guardV_ft, cL, Int.reduceLE, Int.reduceLT, Int.reduceAdd, Int.reduceMul, Int.reduceSub, Int.reduceTDiv, Int.reduceTMod, Int.reduceNeg, Int.reduceToNat, Int.reduceGT, Int.reduceGE, Int.reducePow, Nat.reduceAdd, Nat.reduceMul, Nat.reduceSub, Nat.reduceDiv, Nat.reduceMod, Nat.reducePow, Nat.reduceLT, Nat.reduceLeDiff, cJ, Nat.add_assoc, hz5, hs, hb, eV_cells, eV_size, eV_ok, eV_fold, ns_len, l0, l1, l2, rf_eV]
end Go.Ev.Ytaceeoghjgggjaa
set_option linter.unusedSimpArgs false
set_option linter.unusedVariables false
namespace Go.Ev.Ytaceeoghjgggjaa
open Go Go.Ev
attribute [local congr] bind_congr2 ite_congr2 qElse_congr gate_congr guardV_congr
set_option maxRecDepth 100000
def pwI (x k o : List Nat) (i : Int) (ex : Env) : St := ⟨[(2, .pointer (some ⟨0, 0, none⟩)), (3, .pointer (some ⟨1, 0, none⟩)), (4, .pointer (some ⟨2, 0, none⟩)), (5, .pointer (some ⟨3, 0, none⟩)), (6, .int .i64 i)] ++ ex, [⟨ns .u64 x, true, true, true, 1⟩, ⟨u8s k, true, true, true, 1⟩, ⟨ns .u64 [0, 0, 0, 0, 0], true, true, true, 1⟩, ⟨ns .u64 o, true, true, true, 1⟩], []⟩
theorem pow_step (a : Go.Fp.Fe) (m b : Nat) (hb : b < 2) : Go.Fp.pow a (2 * m + b) = if b = 1 then Go.Fp.pow a m * Go.Fp.pow a m * a else Go.Fp.pow a m * Go.Fp.pow a m := by
  have h1 : Go.Fp.pow a (2 * m) = Go.Fp.pow a m * Go.Fp.pow a m := by rw [show 2 * m = m + m by omega, Go.Fp.pow_add]
  by_cases h : b = 1
  · subst h
    rw [if_pos rfl, Go.Fp.pow, h1]
  · have : b = 0 := by omega
    subst this
    rw [if_neg (by decide), Nat.add_zero, h1]
theorem pw_body {x k o : List Nat} {i : Nat} {ex : Env} (hx : El x (2 ^ 52)) (lk : k.length = 32) (xk : ∀ x ∈ k, x < 256) (hi : i < 256) (ho : El o (2 ^ 52)) (hp : fe o = Go.Fp.pow (fe x) (num 256 k / 2 ^ (i + 1))) :
    ∃ r, evCode T 0 a83_l0 (pwI x k o i ex) = some (.normal, pwI x k r ((i : Int) - 1) []) ∧ El r (2 ^ 52) ∧ fe r = Go.Fp.pow (fe x) (num 256 k / 2 ^ i) := by
  obtain ⟨b, hb⟩ : ∃ b, k[i / 8]? = some b := ⟨_, List.getElem?_eq_getElem (by omega)⟩
  have hbv := num_get (B := 256) (by decide) xk hb
  have hbc := u8s_get hb
  have hbit : b / 2 ^ (i % 8) % 2 = num 256 k / 2 ^ i % 2 := by
    rw [← hbv, show (256 : Nat) = 2 ^ 8 from rfl, bitOf (Nat.mod_lt _ (by decide)), Nat.div_add_mod]
  obtain ⟨r1, m1, g1, g2⟩ := mul_ev ho ho
  obtain ⟨r2, m2, g3, g4⟩ := mul_ev g1 hx
  have hlt := bit_lt (num 256 k) i
  have hnum : num 256 k / 2 ^ i = 2 * (num 256 k / 2 ^ (i + 1)) + num 256 k / 2 ^ i % 2 := by
    rw [Nat.pow_succ, ← Nat.div_div_eq_div_mul]
    omega
  have hstep := pow_step (fe x) (num 256 k / 2 ^ (i + 1)) (num 256 k / 2 ^ i % 2) hlt
  rw [← hnum, ← hp] at hstep
  have s1 : (2 : Int) ^ min (i % 8) IntKind.u8.bits = ((2 ^ (i % 8) : Nat) : Int) := pow_min (Nat.le_of_lt (Nat.mod_lt _ (by decide)))
  have w2 : IntKind.i64.wrap ((i / 8 : Nat) : Int) = ((i / 8 : Nat) : Int) := wrap_nat (by omega)
  have w3 : IntKind.i64.wrap ((i : Int) - 1) = (i : Int) - 1 := wrapI64_small (by omega) (by omega)
  have e1 : ((0 : Int) ≤ (i : Int)) = True := eq_true (by omega)
  have e3 : (((i / 8 : Nat) : Int) < 32) = True := eq_true (by omega)
  have e4 : (((i % 8 : Nat) : Int) < 0) = False := eq_false (by omega)
  have l1 := hx.len
  have l2 := ho.len
  have l3 := g1.len
  have l4 := g3.len
  have l0 : ([0, 0, 0, 0, 0] : List Nat).length = 5 := rfl
  generalize hB : num 256 k / 2 ^ i % 2 = B at *
  by_cases hB1 : B = 1
  · have hbq : ((B : Int) == 1) = true := by rw [hB1]; rfl
    rw [if_pos hB1] at hstep
    refine ⟨r2, ?_, g3, by rw [hstep, g4, g2]⟩
    simp only [pwI, a83_l0, envOf, quiet, cF, ↓pF, reduceCtorEq, Nat.reduceEqDiff, Int.reduceEq, fs_callW, fs_regionP, ↓keepV_some, ↓qElse_some, ↓guardV_tt, ↓guardV_ff, ↓guardV_tf, ↓guardV_ft, cL, Int.reduceLE, Int.reduceLT, Int.reduceAdd, Int.reduceMul, Int.reduceSub, Int.reduceTDiv, Int.reduceTMod, Int.reduceNeg, Int.reduceToNat, Int.reduceGT, Int.reduceGE, Int.reducePow, Nat.reduceAdd, Nat.reduceMul, Nat.reduceSub, Nat.reduceDiv, Nat.reduceMod, Nat.reducePow, Nat.reduceLT, Nat.reduceLeDiff, cJ, cU, hbc, hbit, s1, w2, w3, e1, e3, e4, m1, m2, hbq, eV_cells, eV_size, eV_ok, eV_fold, ns_len, l1, l2, l3, l4, rf_eV]
  · have hbq : ((B : Int) == 1) = false := by
      have : B = 0 := by omega
      rw [this]; rfl
    rw [if_neg hB1] at hstep
    refine ⟨r1, ?_, g1, by rw [hstep, g2]⟩
    simp only [pwI, a83_l0, envOf, quiet, cF, ↓pF, reduceCtorEq, Nat.reduceEqDiff, Int.reduceEq, fs_callW, fs_regionP, ↓keepV_some, ↓qElse_some, ↓guardV_tt, ↓guardV_ff, ↓guardV_tf, ↓guardV_ft, cL, Int.reduceLE, Int.reduceLT, Int.reduceAdd, Int.reduceMul, Int.reduceSub, Int.reduceTDiv, Int.reduceTMod, Int.reduceNeg, Int.reduceToNat, Int.reduceGT, Int.reduceGE, Int.reducePow, Nat.reduceAdd, Nat.reduceMul, Nat.reduceSub, Nat.reduceDiv, Nat.reduceMod, Nat.reducePow, Nat.reduceLT, Nat.reduceLeDiff, cJ, cU, hbc, hbit, s1, w2, w3, e1, e3, e4, m1, m2, hbq, eV_cells, eV_size, eV_ok, eV_fold, ns_len, l1, l2, l3, l4, rf_eV]
theorem power_v {x k : List Nat} (hx : El x (2 ^ 52)) (lk : k.length = 32) (xk : ∀ x ∈ k, x < 256) : ∃ r, evVal T 83 [eV x, .agg (u8s k).toArray] = some (eV r) ∧ El r (2 ^ 52) ∧ fe r = Go.Fp.pow (fe x) (num 256 k) := by
  have hK := num_lt xk
  rw [lk, show (256 : Nat) ^ 32 = 2 ^ 256 from by rw [show (256 : Nat) = 2 ^ 8 from rfl, ← Nat.pow_mul]] at hK
  obtain ⟨st, hb, r, rfl, hr1, hr2⟩ := block_inv (T := T) (base := 0) (id := 0) (body := a83_l0)
    (fun j st => ∃ r : List Nat, st = pwI x k r ((255 : Int) - j) [] ∧ El r (2 ^ 52) ∧ fe r = Go.Fp.pow (fe x) (num 256 k / 2 ^ (256 - j)))
    (Q := fun st => ∃ r : List Nat, st = pwI x k r (-1) [(9, .bool false)] ∧ El r (2 ^ 52) ∧ fe r = Go.Fp.pow (fe x) (num 256 k))
    256 (s := pwI x k [1, 0, 0, 0, 0] 255 []) ⟨_, rfl, one_el, by rw [one_fe, Nat.sub_zero, Nat.div_eq_of_lt hK]; rfl⟩
    (fun j st hj hs => by
      obtain ⟨r, rfl, h1, h2⟩ := hs
      obtain ⟨i, hi⟩ : ∃ i, 256 - j = i + 1 := ⟨255 - j, by omega⟩
      rw [hi] at h2
      obtain ⟨r', g1, g2, g3⟩ := pw_body (ex := []) hx lk xk (i := i) (by omega) h1 h2
      rw [show (255 : Int) - j = (i : Int) by omega]
      refine ⟨_, g1, r', ?_, g2, ?_⟩
      · rw [show (255 : Int) - ((j + 1 : Nat) : Int) = (i : Int) - 1 by omega]
      · rw [show 256 - (j + 1) = i by omega]; exact g3)
    (fun st hs => by
      obtain ⟨r, rfl, h1, h2⟩ := hs
      rw [Nat.sub_self, Nat.pow_zero, Nat.div_one] at h2
      have e : ((0 : Int) ≤ -1) = False := by decide
      refine ⟨_, ?_, r, rfl, h1, h2⟩
      rw [show (255 : Int) - ((256 : Nat) : Int) = -1 by omega]
      simp only [pwI, a83_l0, envOf, quiet, cF, ↓pF, reduceCtorEq, Nat.reduceEqDiff, Int.reduceEq, fs_callW, fs_regionP, ↓keepV_some, ↓qElse_some, ↓guardV_tt, ↓guardV_ff, ↓guardV_tf, ↓guardV_ft, cL, Int.reduceLE, Int.reduceLT, Int.reduceAdd, Int.reduceMul, Int.reduceSub, Int.reduceTDiv, Int.reduceTMod, Int.reduceNeg, Int.reduceToNat, Int.reduceGT, Int.reduceGE, Int.reducePow, Nat.reduceAdd, Nat.reduceMul, Nat.reduceSub, Nat.reduceDiv, Nat.reduceMod, Nat.reducePow, Nat.reduceLT, Nat.reduceLeDiff, e])
  refine ⟨r, ?_, hr1, hr2⟩
  have hz5 : List.replicate 5 (Value.int .u64 0) = ns .u64 [0, 0, 0, 0, 0] := rfl
  have hs := small_v (n := 1) (by decide)
  have l2 : ([1, 0, 0, 0, 0] : List Nat).length = 5 := rfl
  have l0 : ([0, 0, 0, 0, 0] : List Nat).length = 5 := rfl
  have l1 := hx.len
  have l3 := hr1.len
  simp only [Int.natCast_one] at hs
  simp only [pwI, List.cons_append, List.nil_append] at hb
  apply evVal_ex
  apply Exists.intro
  rw [evFun_fn (fn := a83) rfl]
  simp only [a83, envOf, quiet, cF, ↓pF, reduceCtorEq, Nat.reduceEqDiff, Int.reduceEq, fs_callW, fs_regionP, ↓keepV_some, ↓qElse_some, ↓guardV_tt, ↓guardV_ff, ↓guardV_tf, ↓guardV_ft, cL, Int.reduceLE, Int.reduceLT, Int.reduceAdd, Int.reduceMul, Int.reduceSub, Int.reduceTDiv, Int.reduceTMod, Int.reduceNeg, Int.reduceToNat, Int.reduceGT, Int.reduceGE, Int.reducePow, Nat.reduceAdd, Nat.reduceMul, Nat.reduceSub, Nat.reduceDiv, Nat.reduceMod, Nat.reducePow, Nat.reduceLT, Nat.reduceLeDiff, cJ, hz5, hs, hb, pwI, eV_cells, eV_size, eV_ok, eV_fold, ns_len, l0, l1, l2, l3, rf_eV]
  rfl
def onX (i : Nat) : List Nat := dig (2 ^ 8) 32 (2 ^ i - 1)
def onI (less : Value) (n : Int) (k : List Nat) (i : Nat) (ex : Env) : St := ⟨[(1, less), (4, .pointer (some ⟨0, 0, none⟩)), (5, .pointer (some ⟨1, 0, none⟩)), (7, .int .i64 n), (8, .int .i64 i)] ++ ex, [⟨u8s (dig 256 32 0), true, true, true, 1⟩, ⟨u8s k, true, true, true, 1⟩], []⟩
theorem on_body {less : Value} {n i : Nat} (hn : n ≤ 256) (hi : i < n) : evCode T 0 a84_l0 (onI less n (onX i) i []) = some (.normal, onI less n (onX (i + 1)) (i + 1) []) := by
  have hlen : (onX i).length = 32 := dig_len _ _ _
  obtain ⟨y, hy⟩ : ∃ b, (onX i)[i / 8]? = some b := ⟨_, List.getElem?_eq_getElem (by omega)⟩
  have hyc := u8s_get hy
  have hy' : y < 2 ^ 8 := dig_lt (by decide) (List.mem_of_getElem? hy)
  have hsm : (2 : Nat) ^ (i % 8) ≤ 2 ^ 7 := Nat.pow_le_pow_right (by decide) (by have := Nat.mod_lt i (by decide : 0 < 8); omega)
  have hp : 0 < (2 : Nat) ^ i := Nat.pow_pos (by decide)
  have hput := dig_put (w := 8) (m := 32) (q := i / 8) (s := i % 8) (y := 1) (M := 2 ^ i - 1) (by omega) (Nat.mod_lt _ (by decide)) (by rw [Nat.div_add_mod]; omega) (by omega)
  rw [Nat.div_add_mod, show 2 ^ i - 1 + 1 * 2 ^ i = 2 ^ (i + 1) - 1 by rw [Nat.pow_succ]; omega] at hput
  have hgd : (dig (2 ^ 8) 32 (2 ^ i - 1)).getD (i / 8) 0 = y := by rw [List.getD_eq_getElem?_getD]; unfold onX at hy; rw [hy]; rfl
  rw [hgd, Nat.one_mul] at hput
  have hset := u8s_set (onX i) (i / 8) (y ||| 2 ^ (i % 8))
  rw [show (onX i).set (i / 8) (y ||| 2 ^ (i % 8)) = onX (i + 1) from hput] at hset
  have s1 : (2 : Int) ^ min (i % 8) IntKind.u8.bits = ((2 ^ (i % 8) : Nat) : Int) := pow_min (Nat.le_of_lt (Nat.mod_lt _ (by decide)))
  have o1 : bitsOp .or .u8 (y : Int) ((2 ^ (i % 8) : Nat) : Int) = ((y ||| 2 ^ (i % 8) : Nat) : Int) := bits_or rfl (by show _ < 256; omega) (by show _ < 256; omega)
  have n1 : (2 ^ (i % 8)) % 256 = 2 ^ (i % 8) := Nat.mod_eq_of_lt (Nat.lt_of_le_of_lt hsm (by decide))
  have w2 : IntKind.i64.wrap ((i / 8 : Nat) : Int) = ((i / 8 : Nat) : Int) := wrap_nat (by omega)
  have w3 : IntKind.i64.wrap ((i + 1 : Nat) : Int) = ((i + 1 : Nat) : Int) := wrap_nat (by omega)
  have e1 : ((i : Int) < (n : Int)) = True := eq_true (by omega)
  have e3 : (((i / 8 : Nat) : Int) < 32) = True := eq_true (by omega)
  have e4 : (((i % 8 : Nat) : Int) < 0) = False := eq_false (by omega)
  have e6 : i / 8 + 1 ≤ 32 := by omega
  have p1 : 1 * 2 ^ (i % 8) = 2 ^ (i % 8) := Nat.one_mul _
  simp only [onI, a84_l0, envOf, quiet, cF, ↓pF, reduceCtorEq, Nat.reduceEqDiff, Int.reduceEq, fs_callW, fs_regionP, ↓keepV_some, ↓qElse_some, ↓guardV_tt, ↓guardV_ff, ↓guardV_tf, ↓guardV_ft, cL, Int.reduceLE, Int.reduceLT, Int.reduceAdd, Int.reduceMul, Int.reduceSub, Int.reduceTDiv, Int.reduceTMod, Int.reduceNeg, Int.reduceToNat, Int.reduceGT, Int.reduceGE, Int.reducePow, Nat.reduceAdd, Nat.reduceMul, Nat.reduceSub, Nat.reduceDiv, Nat.reduceMod, Nat.reducePow, Nat.reduceLT, Nat.reduceLeDiff, cJ, cU, hyc, s1, o1, n1, w2, w3, e1, e3, e4, e6, p1, hset, u8s_len, hlen]
theorem ones_v {n less : Nat} (hn : n ≤ 256) (h8 : 8 ≤ n) (hl : less < 256) : evVal T 84 [.int .i64 n, .int .u8 less] = some (.agg (u8s (dig 256 32 (2 ^ n - 1 - less))).toArray) := by
  have hb := block_loop (T := T) (base := 0) (id := 0) (body := a84_l0) (fun i => onI (.int .u8 less) n (onX i) i []) (s' := onI (.int .u8 less) n (onX n) n [(9, .bool false)]) n (fun i hi => on_body hn hi) (by
    have e1 : ((n : Int) < (n : Int)) = False := eq_false (by omega)
    simp only [onI, a84_l0, envOf, quiet, cF, ↓pF, reduceCtorEq, Nat.reduceEqDiff, Int.reduceEq, fs_callW, fs_regionP, ↓keepV_some, ↓qElse_some, ↓guardV_tt, ↓guardV_ff, ↓guardV_tf, ↓guardV_ft, cL, Int.reduceLE, Int.reduceLT, Int.reduceAdd, Int.reduceMul, Int.reduceSub, Int.reduceTDiv, Int.reduceTMod, Int.reduceNeg, Int.reduceToNat, Int.reduceGT, Int.reduceGE, Int.reducePow, Nat.reduceAdd, Nat.reduceMul, Nat.reduceSub, Nat.reduceDiv, Nat.reduceMod, Nat.reducePow, Nat.reduceLT, Nat.reduceLeDiff, e1])
  rw [show onX 0 = dig 256 32 0 from rfl] at hb
  have hp8 : (256 : Nat) ≤ 2 ^ n := by
    have := Nat.pow_le_pow_right (n := 2) (by decide) h8
    exact this
  have hmod : 2 ^ n % 256 = 0 := by
    rw [show n = 8 + (n - 8) by omega, Nat.pow_add]; exact Nat.mul_mod_right _ _
  have h0 : (onX n)[0]? = some 255 := by
    unfold onX
    rw [dig_get (by decide), Nat.pow_zero, Nat.div_one]
    congr 1
    omega
  have h0c := u8s_get h0
  have w0 : IntKind.u8.wrap (255 - (less : Int)) = ((255 - less : Nat) : Int) := by rw [wrap_u8]; omega
  have hset := u8s_set (onX n) 0 (255 - less)
  have hfin : (onX n).set 0 (255 - less) = dig 256 32 (2 ^ n - 1 - less) := by
    apply dig_ext (by rw [List.length_set]; exact dig_len _ _ _)
    intro t ht
    by_cases h0t : t = 0
    · subst h0t
      rw [List.getElem?_set_self (by rw [show (onX n).length = 32 from dig_len _ _ _]; decide), Nat.pow_zero, Nat.div_one]
      congr 1
      omega
    · rw [List.getElem?_set_ne (Ne.symm h0t)]
      unfold onX
      rw [dig_get ht]
      congr 2
      obtain ⟨m, rfl⟩ : ∃ m, t = m + 1 := ⟨t - 1, by omega⟩
      rw [show (2 : Nat) ^ 8 = 256 from rfl, Nat.pow_succ, Nat.mul_comm, ← Nat.div_div_eq_div_mul, ← Nat.div_div_eq_div_mul]
      congr 1
      omega
  rw [hfin] at hset
  simp only [Int.cast_ofNat_Int] at h0c
  have l1 : (dig 256 32 (2 ^ n - 1 - less)).length = 32 := dig_len _ _ _
  have l2 : (onX n).length = 32 := dig_len _ _ _
  have l3 : (dig 256 32 0).length = 32 := rfl
  have hz32 : List.replicate 32 (Value.int .u8 0) = u8s (dig 256 32 0) := rfl
  simp only [onI, List.cons_append, List.nil_append, Int.natCast_zero] at hb
  apply evVal_ex
  apply Exists.intro
  rw [evFun_fn (fn := a84) rfl]
  simp only [a84, envOf, quiet, cF, ↓pF, reduceCtorEq, Nat.reduceEqDiff, Int.reduceEq, fs_callW, fs_regionP, ↓keepV_some, ↓qElse_some, ↓guardV_tt, ↓guardV_ff, ↓guardV_tf, ↓guardV_ft, cL, Int.reduceLE, Int.reduceLT, Int.reduceAdd, Int.reduceMul, Int.reduceSub, Int.reduceTDiv, Int.reduceTMod, Int.reduceNeg, Int.reduceToNat, Int.reduceGT, Int.reduceGE, Int.reducePow, Nat.reduceAdd, Nat.reduceMul, Nat.reduceSub, Nat.reduceDiv, Nat.reduceMod, Nat.reducePow, Nat.reduceLT, Nat.reduceLeDiff, cJ, hz32, hb, onI, h0c, w0, hset, u8s_len, l1, l2, l3]
  rfl
theorem dig32_lt {v : Nat} : ∀ x ∈ dig 256 32 v, x < 256 := fun _ h => dig_lt (by decide) h
theorem power_ones {x : List Nat} {n less : Nat} (hx : El x (2 ^ 52)) (hn : n ≤ 256) (h8 : 8 ≤ n) (hl : less < 256) : ∃ r, evVal T 83 [eV x, .agg (u8s (dig 256 32 (2 ^ n - 1 - less))).toArray] = some (eV r) ∧ El r (2 ^ 52) ∧ fe r = Go.Fp.pow (fe x) (2 ^ n - 1 - less) := by
  obtain ⟨r, h1, h2, h3⟩ := power_v (k := dig 256 32 (2 ^ n - 1 - less)) hx (dig_len _ _ _) dig32_lt
  refine ⟨r, h1, h2, ?_⟩
  rw [h3, num_dig (by decide), Nat.mod_eq_of_lt]
  have h4 : (2 : Nat) ^ n ≤ 256 ^ 32 := by
    rw [show (256 : Nat) ^ 32 = 2 ^ 256 from by rw [show (256 : Nat) = 2 ^ 8 from rfl, ← Nat.pow_mul]]
    exact Nat.pow_le_pow_right (by decide) hn
  have : 0 < (2 : Nat) ^ n := Nat.pow_pos (by decide)
  omega
theorem invert_v {x : List Nat} (hx : El x (2 ^ 52)) : ∃ r, evVal T 56 [eV x] = some (eV r) ∧ El r (2 ^ 52) ∧ fe r = Go.Fp.iv (fe x) := by
  have h1 := ones_v (n := 255) (less := 20) (by decide) (by decide) (by decide)
  obtain ⟨r, h2, h3, h4⟩ := power_ones (n := 255) (less := 20) hx (by decide) (by decide) (by decide)
  refine ⟨r, ?_, h3, ?_⟩
  · have hz5 : List.replicate 5 (Value.int .u64 0) = ns .u64 [0, 0, 0, 0, 0] := rfl
    have l0 : ([0, 0, 0, 0, 0] : List Nat).length = 5 := rfl
    have l1 := hx.len
    have l2 := h3.len
    simp only [Int.cast_ofNat_Int] at h1
    generalize dig 256 32 (2 ^ 255 - 1 - 20) = K at *
    apply evVal_ex
    apply Exists.intro
    rw [evFun_fn (fn := a56) rfl]
    simp only [a56, envOf, quiet, cF, ↓pF, reduceCtorEq, Nat.reduceEqDiff, Int.reduceEq, fs_callW, fs_regionP, ↓keepV_some, ↓qElse_some, ↓guardV_tt, ↓guardV_ff, ↓guardV_tf, ↓guardV_ft, cL, Int.reduceLE, Int.reduceLT, Int.reduceAdd, Int.reduceMul, Int.reduceSub, Int.reduceTDiv, Int.reduceTMod, Int.reduceNeg, Int.reduceToNat, Int.reduceGT, Int.reduceGE, Int.reducePow, Nat.reduceAdd, Nat.reduceMul, Nat.reduceSub, Nat.reduceDiv, Nat.reduceMod, Nat.reducePow, Nat.reduceLT, Nat.reduceLeDiff, cJ, hz5, h1, h2, eV_cells, eV_size, eV_ok, eV_fold, ns_len, l0, l1, l2, rf_eV]
    rfl
  · rw [h4]
    unfold Go.Fp.iv
    rw [Go.Fp.P_eq]
end Go.Ev.Ytaceeoghjgggjaa
set_option linter.unusedSimpArgs false
set_option linter.unusedVariables false
namespace Go.Ev
section
variable {T : Tab} {b : Nat}
theorem evOps_append : ∀ (o1 o2 : List AOper) (s : St) (recs : List Rec), evOps T b (o1 ++ o2) s recs = (evOps T b o1 s recs).bind fun r => evOps T b o2 r.1 r.2
  | [], o2, s, recs => by rw [evOps_nil]; rfl
  | o :: o1, o2, s, recs => by
    rw [List.cons_append, evOps_cons, evOps_cons]
    cases hg : guardOf s.env o.guard with
    | none => rfl
    | some g =>
      cases g with
      | false => exact evOps_append o1 o2 _ _
      | true =>
        cases hx : evOper T o.op s.env s.h with
        | none => simp [hx]
        | some x =>
          simp only [hx, Option.bind_some]
          exact evOps_append o1 o2 _ _
theorem evOps_more : ∀ (ops : List AOper) (s : St) (recs : List Rec) (s' : St), steps T b false ops s = some s' → ∃ m, evOps T b ops s recs = some (s', recs ++ m)
  | [], s, recs, s', h => by
    simp only [steps, Option.some.injEq] at h
    subst h
    exact ⟨[], by rw [evOps_nil, List.append_nil]⟩
  | o :: r, s, recs, s', h => by
    rw [evOps_cons]
    unfold steps at h
    cases hg : guardOf s.env o.guard with
    | none => simp only [hg] at h; cases h
    | some g =>
      simp only [hg] at h
      cases g with
      | false =>
        obtain ⟨m, h1⟩ := evOps_more r _ (recs ++ [(some [], [])]) s' h
        exact ⟨(some [], []) :: m, by rw [h1]; simp⟩
      | true =>
        cases hx : evOper T o.op s.env s.h with
        | none => simp [hx] at h
        | some x =>
          simp only [hx, Option.bind_some, Bool.false_and, Bool.false_eq_true, if_false] at h
          obtain ⟨m, h1⟩ := evOps_more r _ (recs ++ [(x.2.2.1, x.2.2.2)]) s' h
          exact ⟨(x.2.2.1, x.2.2.2) :: m, by simp only [hx, Option.bind_some]; rw [h1]; simp⟩
theorem pairsOk_app {r1 r2 : List Rec} : ∀ {pairs : List (Nat × Nat)}, (pairs.all fun p => decide (p.1 < r1.length) && decide (p.2 < r1.length)) = true → pairsOk r1 pairs = true → pairsOk (r1 ++ r2) pairs = true
  | [], _, _ => rfl
  | (i, j) :: ps, h, k => by
    simp only [List.all_cons, Bool.and_eq_true, decide_eq_true_eq] at h
    simp only [pairsOk, List.all_cons, Bool.and_eq_true] at k ⊢
    have ih := pairsOk_app (r1 := r1) (r2 := r2) (pairs := ps) h.2 k.2
    simp only [pairsOk] at ih
    refine ⟨?_, ih⟩
    rw [List.getElem?_append_left h.1.1, List.getElem?_append_left h.1.2]
    exact k.1
def lastOf : List (Nat × Nat) → Nat
  | [] => 0
  | (_, j) :: r => if j + 1 ≤ lastOf r then lastOf r else j + 1
theorem lastOf_nil : lastOf [] = 0 := rfl
theorem lastOf_cons {i j : Nat} {r : List (Nat × Nat)} : lastOf ((i, j) :: r) = if j + 1 ≤ lastOf r then lastOf r else j + 1 := rfl
def quiet2 (T : Tab) (b : Nat) (ops : List AOper) (pairs : List (Nat × Nat)) (s : St) : Option St :=
  gate ((pairs.all fun p => decide (p.1 < lastOf pairs) && decide (p.2 < lastOf pairs)) = true ∧ lastOf pairs ≤ ops.length)
    ((steps T b true (ops.take (lastOf pairs)) s).bind fun s1 => steps T b false (ops.drop (lastOf pairs)) s1)
theorem quiet2_eq {ops : List AOper} {pairs : List (Nat × Nat)} {s : St} : quiet2 T b ops pairs s = gate ((pairs.all fun p => decide (p.1 < lastOf pairs) && decide (p.2 < lastOf pairs)) = true ∧ lastOf pairs ≤ ops.length)
    ((steps T b true (ops.take (lastOf pairs)) s).bind fun s1 => steps T b false (ops.drop (lastOf pairs)) s1) := Eq.trans rfl rfl
theorem fs_regionQ {ops : List AOper} {keep : Option (List Nat)} {p : Nat × Nat} {ps : List (Nat × Nat)} {s : St} : evCode T b (.region ops keep (p :: ps)) s = qElse ((quiet2 T b ops (p :: ps) s).bind fun s' => some (.normal, s'.after keep)) (inText T b (.region ops keep (p :: ps)) s) := by
  cases hq : quiet2 T b ops (p :: ps) s with
  | none => rfl
  | some s' =>
    simp only [Option.bind_some, qElse]
    unfold quiet2 gate at hq
    split at hq
    · rename_i hp
      simp only [Option.bind_eq_some_iff] at hq
      obtain ⟨s1, k1, k2⟩ := hq
      obtain ⟨recs, h1, h2, h3⟩ := evOps_quiet _ s [] s1 k1 (by simp)
      obtain ⟨m, h4⟩ := evOps_more _ s1 recs s' k2
      simp only [List.length_nil, Nat.zero_add, List.length_take, Nat.min_eq_left hp.2] at h3
      rw [evCode_region]
      conv => lhs; rw [← List.take_append_drop (lastOf (p :: ps)) ops]
      rw [evOps_append, h1]
      simp only [Option.bind_some, h4]
      have hpk := hp.1
      rw [← h3] at hpk
      rw [if_pos (pairsOk_app hpk (pairsOk_quiet h2 hpk))]
    · cases hq
end
end Go.Ev
set_option linter.unusedSimpArgs false
set_option linter.unusedVariables false
namespace Go.Ev.Ytaceeoghjgggjaa
open Go Go.Ev
attribute [local congr] bind_congr2 ite_congr2 qElse_congr gate_congr guardV_congr
set_option maxRecDepth 100000
theorem take_all {cs : List Value} {n : Nat} (h : cs.length = n) : cs.take n = cs := List.take_of_length_le (by omega)
def pL (x y z t : List Nat) : List Nat := x ++ (y ++ (z ++ t))
def pV (x y z t : List Nat) : Value := .agg (ns .u64 (pL x y z t)).toArray
theorem rf_pV (x y z t : List Nat) : rf (pV x y z t) = true := rf_ns _ _
theorem pV_cells (x y z t : List Nat) : (pV x y z t).cells.toList = ns .u64 (pL x y z t) := rfl
theorem pV_size (x y z t : List Nat) : (pV x y z t).cells.size = (pL x y z t).length := ns_len _ _
theorem pV_ok (x y z t : List Nat) : okVar (pV x y z t) = true := rfl
theorem pV_fold (x y z t : List Nat) : Value.agg (ns .u64 (pL x y z t)).toArray = pV x y z t := rfl
theorem pL_len {x y z t : List Nat} {b : Nat} (hx : El x b) (hy : El y b) (hz : El z b) (ht : El t b) : (pL x y z t).length = 20 := by
  simp [pL, hx.len, hy.len, hz.len, ht.len]
theorem quad {x y z t : List Nat} {b : Nat} (hx : El x b) (hy : El y b) (hz : El z b) (ht : El t b) :
    List.take 5 (ns .u64 (pL x y z t)) = ns .u64 x ∧ List.take 5 (List.drop 5 (ns .u64 (pL x y z t))) = ns .u64 y ∧ List.take 5 (List.drop 10 (ns .u64 (pL x y z t))) = ns .u64 z ∧ List.take 5 (List.drop 15 (ns .u64 (pL x y z t))) = ns .u64 t := by
  obtain ⟨a0, a1, a2, a3, a4, rfl, -⟩ := hx.five
  obtain ⟨b0, b1, b2, b3, b4, rfl, -⟩ := hy.five
  obtain ⟨c0, c1, c2, c3, c4, rfl, -⟩ := hz.five
  obtain ⟨d0, d1, d2, d3, d4, rfl, -⟩ := ht.five
  exact ⟨rfl, rfl, rfl, rfl⟩
theorem fill2 {a b : List Nat} {k : Nat} (ha : El a k) (hb : El b k) : fillL (List.replicate 10 (Value.int .u64 0)) [(0, 5, eV a), (5, 5, eV b)] = some (ns .u64 (a ++ b)) := by
  obtain ⟨a0, a1, a2, a3, a4, rfl, -⟩ := ha.five
  obtain ⟨b0, b1, b2, b3, b4, rfl, -⟩ := hb.five
  rfl
theorem fill3 {a b c : List Nat} {k : Nat} (ha : El a k) (hb : El b k) (hc : El c k) : fillL (List.replicate 15 (Value.int .u64 0)) [(0, 5, eV a), (5, 5, eV b), (10, 5, eV c)] = some (ns .u64 [a, b, c].flatten) := by
  obtain ⟨a0, a1, a2, a3, a4, rfl, -⟩ := ha.five
  obtain ⟨b0, b1, b2, b3, b4, rfl, -⟩ := hb.five
  obtain ⟨c0, c1, c2, c3, c4, rfl, -⟩ := hc.five
  rfl
theorem fill4 {a b c d : List Nat} {k : Nat} (ha : El a k) (hb : El b k) (hc : El c k) (hd : El d k) : fillL (List.replicate 20 (Value.int .u64 0)) [(0, 5, eV a), (5, 5, eV b), (10, 5, eV c), (15, 5, eV d)] = some (ns .u64 (pL a b c d)) := by
  obtain ⟨a0, a1, a2, a3, a4, rfl, -⟩ := ha.five
  obtain ⟨b0, b1, b2, b3, b4, rfl, -⟩ := hb.five
  obtain ⟨c0, c1, c2, c3, c4, rfl, -⟩ := hc.five
  obtain ⟨d0, d1, d2, d3, d4, rfl, -⟩ := hd.five
  rfl
theorem pL_flat (a b c d : List Nat) : pL a b c d = [a, b, c, d].flatten := by simp [pL]
theorem two_E : El [2, 0, 0, 0, 0] (2 ^ 52) := small_el (by decide)
theorem two_v : evVal T 50 [.int .u32 2] = some (eV [2, 0, 0, 0, 0]) := small_v (n := 2) (by decide)
theorem two_fe : fe [2, 0, 0, 0, 0] = 2 := by rw [small_fe]; rfl
theorem plus_v {x1 y1 z1 t1 x2 y2 z2 t2 d : List Nat} (Ex1 : El x1 (2 ^ 52)) (Ey1 : El y1 (2 ^ 52)) (Ez1 : El z1 (2 ^ 52)) (Et1 : El t1 (2 ^ 52)) (Ex2 : El x2 (2 ^ 52)) (Ey2 : El y2 (2 ^ 52)) (Ez2 : El z2 (2 ^ 52)) (Et2 : El t2 (2 ^ 52)) (Ed : El d (2 ^ 52)) :
    ∃ x y z t, evVal T 54 [pV x1 y1 z1 t1, pV x2 y2 z2 t2, eV d] = some (pV x y z t) ∧ El x (2 ^ 52) ∧ El y (2 ^ 52) ∧ El z (2 ^ 52) ∧ El t (2 ^ 52) ∧
      ∃ a b c e : Go.Fp.Fe, a = (fe y1 - fe x1) * (fe y2 - fe x2) ∧ b = (fe y1 + fe x1) * (fe y2 + fe x2) ∧ c = 1 * 2 * fe d * fe t1 * fe t2 ∧ e = 1 * 2 * fe z1 * fe z2 ∧
        fe x = (b - a) * (e - c) ∧ fe y = (e + c) * (b + a) ∧ fe z = (e - c) * (e + c) ∧ fe t = (b - a) * (b + a) := by
  obtain ⟨two, htwo⟩ : ∃ two : List Nat, two = [2, 0, 0, 0, 0] := ⟨_, rfl⟩
  have Etwo : El two (2 ^ 52) := by rw [htwo]; exact two_E
  have vtwo : evVal T 50 [.int .u32 2] = some (eV two) := by rw [htwo]; exact two_v
  have ftwo : fe two = 2 := by rw [htwo]; exact two_fe
  clear htwo
  obtain ⟨r1, hr1, Er1, fr1⟩ := sub_v Ey1 Ex1
  obtain ⟨r2, hr2, Er2, fr2⟩ := sub_v Ey2 Ex2
  obtain ⟨r3, hr3, Er3, fr3⟩ := mul_ev Er1 Er2
  obtain ⟨r4, sr4, hr4, Er4, fr4⟩ := add2_ev (H := [⟨ns .u64 (pL x1 y1 z1 t1), true, true, true, 1⟩, ⟨ns .u64 (pL x2 y2 z2 t2), true, true, true, 1⟩, ⟨ns .u64 d, true, true, true, 1⟩, ⟨List.replicate 20 (.int .u64 0), true, true, true, 1⟩, ⟨ns .u64 r3, true, true, true, 1⟩, ⟨ns .u64 (y1 ++ x1), true, true, true, 1⟩]) (id := 5) Ey1 Ex1 rfl
  simp only [List.cons_append, List.nil_append] at hr4
  obtain ⟨r5, sr5, hr5, Er5, fr5⟩ := add2_ev (H := [⟨ns .u64 (pL x1 y1 z1 t1), true, true, true, 1⟩, ⟨ns .u64 (pL x2 y2 z2 t2), true, true, true, 1⟩, ⟨ns .u64 d, true, true, true, 1⟩, ⟨List.replicate 20 (.int .u64 0), true, true, true, 1⟩, ⟨ns .u64 r3, true, true, true, 1⟩, ⟨ns .u64 (y1 ++ x1), true, true, true, 1⟩, ⟨ns .u64 r4, true, true, true, 1⟩, ⟨ns .u64 sr4, true, true, true, 1⟩, ⟨ns .u64 y1, true, true, true, 1⟩, ⟨ns .u64 x1, true, true, true, 1⟩, ⟨ns .u64 (y2 ++ x2), true, true, true, 1⟩]) (id := 10) Ey2 Ex2 rfl
  simp only [List.cons_append, List.nil_append] at hr5
  obtain ⟨r6, hr6, Er6, fr6⟩ := mul_ev Er4 Er5
  obtain ⟨r7, hr7, Er7, fr7⟩ := prod_ev (H := [⟨ns .u64 (pL x1 y1 z1 t1), true, true, true, 1⟩, ⟨ns .u64 (pL x2 y2 z2 t2), true, true, true, 1⟩, ⟨ns .u64 d, true, true, true, 1⟩, ⟨List.replicate 20 (.int .u64 0), true, true, true, 1⟩, ⟨ns .u64 r3, true, true, true, 1⟩, ⟨ns .u64 (y1 ++ x1), true, true, true, 1⟩, ⟨ns .u64 r4, true, true, true, 1⟩, ⟨ns .u64 sr4, true, true, true, 1⟩, ⟨ns .u64 y1, true, true, true, 1⟩, ⟨ns .u64 x1, true, true, true, 1⟩, ⟨ns .u64 (y2 ++ x2), true, true, true, 1⟩, ⟨ns .u64 r5, true, true, true, 1⟩, ⟨ns .u64 sr5, true, true, true, 1⟩, ⟨ns .u64 y2, true, true, true, 1⟩, ⟨ns .u64 x2, true, true, true, 1⟩, ⟨ns .u64 r6, true, true, true, 1⟩, ⟨ns .u64 [two, d, t1, t2].flatten, true, true, true, 1⟩]) (id := 16) (n := 4) (xs := [two, d, t1, t2]) rfl (by decide) (by intro w hw; simp only [List.mem_cons, List.not_mem_nil, or_false] at hw; rcases hw with rfl | rfl | rfl | rfl <;> assumption) rfl
  simp only [List.cons_append, List.nil_append, List.map_cons, List.map_nil, List.foldl_cons, List.foldl_nil] at hr7 fr7
  obtain ⟨r8, hr8, Er8, fr8⟩ := prod_ev (H := [⟨ns .u64 (pL x1 y1 z1 t1), true, true, true, 1⟩, ⟨ns .u64 (pL x2 y2 z2 t2), true, true, true, 1⟩, ⟨ns .u64 d, true, true, true, 1⟩, ⟨List.replicate 20 (.int .u64 0), true, true, true, 1⟩, ⟨ns .u64 r3, true, true, true, 1⟩, ⟨ns .u64 (y1 ++ x1), true, true, true, 1⟩, ⟨ns .u64 r4, true, true, true, 1⟩, ⟨ns .u64 sr4, true, true, true, 1⟩, ⟨ns .u64 y1, true, true, true, 1⟩, ⟨ns .u64 x1, true, true, true, 1⟩, ⟨ns .u64 (y2 ++ x2), true, true, true, 1⟩, ⟨ns .u64 r5, true, true, true, 1⟩, ⟨ns .u64 sr5, true, true, true, 1⟩, ⟨ns .u64 y2, true, true, true, 1⟩, ⟨ns .u64 x2, true, true, true, 1⟩, ⟨ns .u64 r6, true, true, true, 1⟩, ⟨ns .u64 [two, d, t1, t2].flatten, true, true, true, 1⟩, ⟨ns .u64 r7, true, true, true, 1⟩, ⟨ns .u64 r7, true, true, true, 1⟩, ⟨ns .u64 two, true, true, true, 1⟩, ⟨ns .u64 d, true, true, true, 1⟩, ⟨ns .u64 t1, true, true, true, 1⟩, ⟨ns .u64 t2, true, true, true, 1⟩, ⟨ns .u64 r7, true, true, true, 1⟩, ⟨ns .u64 [two, z1, z2].flatten, true, true, true, 1⟩]) (id := 24) (n := 3) (xs := [two, z1, z2]) rfl (by decide) (by intro w hw; simp only [List.mem_cons, List.not_mem_nil, or_false] at hw; rcases hw with rfl | rfl | rfl <;> assumption) rfl
  simp only [List.cons_append, List.nil_append, List.map_cons, List.map_nil, List.foldl_cons, List.foldl_nil] at hr8 fr8
  obtain ⟨r9, hr9, Er9, fr9⟩ := sub_v Er6 Er3
  obtain ⟨r10, hr10, Er10, fr10⟩ := sub_v Er8 Er7
  obtain ⟨r11, sr11, hr11, Er11, fr11⟩ := add2_ev (H := [⟨ns .u64 (pL x1 y1 z1 t1), true, true, true, 1⟩, ⟨ns .u64 (pL x2 y2 z2 t2), true, true, true, 1⟩, ⟨ns .u64 d, true, true, true, 1⟩, ⟨List.replicate 20 (.int .u64 0), true, true, true, 1⟩, ⟨ns .u64 r3, true, true, true, 1⟩, ⟨ns .u64 (y1 ++ x1), true, true, true, 1⟩, ⟨ns .u64 r4, true, true, true, 1⟩, ⟨ns .u64 sr4, true, true, true, 1⟩, ⟨ns .u64 y1, true, true, true, 1⟩, ⟨ns .u64 x1, true, true, true, 1⟩, ⟨ns .u64 (y2 ++ x2), true, true, true, 1⟩, ⟨ns .u64 r5, true, true, true, 1⟩, ⟨ns .u64 sr5, true, true, true, 1⟩, ⟨ns .u64 y2, true, true, true, 1⟩, ⟨ns .u64 x2, true, true, true, 1⟩, ⟨ns .u64 r6, true, true, true, 1⟩, ⟨ns .u64 [two, d, t1, t2].flatten, true, true, true, 1⟩, ⟨ns .u64 r7, true, true, true, 1⟩, ⟨ns .u64 r7, true, true, true, 1⟩, ⟨ns .u64 two, true, true, true, 1⟩, ⟨ns .u64 d, true, true, true, 1⟩, ⟨ns .u64 t1, true, true, true, 1⟩, ⟨ns .u64 t2, true, true, true, 1⟩, ⟨ns .u64 r7, true, true, true, 1⟩, ⟨ns .u64 [two, z1, z2].flatten, true, true, true, 1⟩, ⟨ns .u64 r8, true, true, true, 1⟩, ⟨ns .u64 r8, true, true, true, 1⟩, ⟨ns .u64 two, true, true, true, 1⟩, ⟨ns .u64 z1, true, true, true, 1⟩, ⟨ns .u64 z2, true, true, true, 1⟩, ⟨ns .u64 r8, true, true, true, 1⟩, ⟨ns .u64 (r8 ++ r7), true, true, true, 1⟩]) (id := 31) Er8 Er7 rfl
  simp only [List.cons_append, List.nil_append] at hr11
  obtain ⟨r12, sr12, hr12, Er12, fr12⟩ := add2_ev (H := [⟨ns .u64 (pL x1 y1 z1 t1), true, true, true, 1⟩, ⟨ns .u64 (pL x2 y2 z2 t2), true, true, true, 1⟩, ⟨ns .u64 d, true, true, true, 1⟩, ⟨List.replicate 20 (.int .u64 0), true, true, true, 1⟩, ⟨ns .u64 r3, true, true, true, 1⟩, ⟨ns .u64 (y1 ++ x1), true, true, true, 1⟩, ⟨ns .u64 r4, true, true, true, 1⟩, ⟨ns .u64 sr4, true, true, true, 1⟩, ⟨ns .u64 y1, true, true, true, 1⟩, ⟨ns .u64 x1, true, true, true, 1⟩, ⟨ns .u64 (y2 ++ x2), true, true, true, 1⟩, ⟨ns .u64 r5, true, true, true, 1⟩, ⟨ns .u64 sr5, true, true, true, 1⟩, ⟨ns .u64 y2, true, true, true, 1⟩, ⟨ns .u64 x2, true, true, true, 1⟩, ⟨ns .u64 r6, true, true, true, 1⟩, ⟨ns .u64 [two, d, t1, t2].flatten, true, true, true, 1⟩, ⟨ns .u64 r7, true, true, true, 1⟩, ⟨ns .u64 r7, true, true, true, 1⟩, ⟨ns .u64 two, true, true, true, 1⟩, ⟨ns .u64 d, true, true, true, 1⟩, ⟨ns .u64 t1, true, true, true, 1⟩, ⟨ns .u64 t2, true, true, true, 1⟩, ⟨ns .u64 r7, true, true, true, 1⟩, ⟨ns .u64 [two, z1, z2].flatten, true, true, true, 1⟩, ⟨ns .u64 r8, true, true, true, 1⟩, ⟨ns .u64 r8, true, true, true, 1⟩, ⟨ns .u64 two, true, true, true, 1⟩, ⟨ns .u64 z1, true, true, true, 1⟩, ⟨ns .u64 z2, true, true, true, 1⟩, ⟨ns .u64 r8, true, true, true, 1⟩, ⟨ns .u64 (r8 ++ r7), true, true, true, 1⟩, ⟨ns .u64 r11, true, true, true, 1⟩, ⟨ns .u64 sr11, true, true, true, 1⟩, ⟨ns .u64 r8, true, true, true, 1⟩, ⟨ns .u64 r7, true, true, true, 1⟩, ⟨ns .u64 (r6 ++ r3), true, true, true, 1⟩]) (id := 36) Er6 Er3 rfl
  simp only [List.cons_append, List.nil_append] at hr12
  obtain ⟨r13, hr13, Er13, fr13⟩ := mul_ev Er9 Er10
  obtain ⟨r14, hr14, Er14, fr14⟩ := mul_ev Er11 Er12
  obtain ⟨r15, hr15, Er15, fr15⟩ := mul_ev Er10 Er11
  obtain ⟨r16, hr16, Er16, fr16⟩ := mul_ev Er9 Er12
  refine ⟨r13, r14, r15, r16, ?_, Er13, Er14, Er15, Er16, fe r3, fe r6, fe r7, fe r8, ?_⟩
  · obtain ⟨q10, q11, q12, q13⟩ := quad Ex1 Ey1 Ez1 Et1
    obtain ⟨q20, q21, q22, q23⟩ := quad Ex2 Ey2 Ez2 Et2
    have p1 := pL_len Ex1 Ey1 Ez1 Et1
    have p2 := pL_len Ex2 Ey2 Ez2 Et2
    have p3 := pL_len Er13 Er14 Er15 Er16
    have k4 := fill4 Etwo Ed Et1 Et2
    rw [pL_flat] at k4
    have k3 := fill3 Etwo Ez1 Ez2
    have kp := fill4 Er13 Er14 Er15 Er16
    have m1 := fill2 Ey1 Ex1
    have m2 := fill2 Ey2 Ex2
    have m3 := fill2 Er8 Er7
    have m4 := fill2 Er6 Er3
    have Lx1 := Ex1.len
    have Ly1 := Ey1.len
    have Lz1 := Ez1.len
    have Lt1 := Et1.len
    have Lx2 := Ex2.len
    have Ly2 := Ey2.len
    have Lz2 := Ez2.len
    have Lt2 := Et2.len
    have Ld := Ed.len
    have Ltwo := Etwo.len
    have Lr1 := Er1.len
    have Lr2 := Er2.len
    have Lr3 := Er3.len
    have Lr4 := Er4.len
    have Lr5 := Er5.len
    have Lr6 := Er6.len
    have Lr7 := Er7.len
    have Lr8 := Er8.len
    have Lr9 := Er9.len
    have Lr10 := Er10.len
    have Lr11 := Er11.len
    have Lr12 := Er12.len
    have Lr13 := Er13.len
    have Lr14 := Er14.len
    have Lr15 := Er15.len
    have Lr16 := Er16.len
    apply evVal_ex
    apply Exists.intro
    rw [evFun_fn (fn := a54) rfl]
    simp only [a54, envOf, quiet, cF, ↓pF, reduceCtorEq, Nat.reduceEqDiff, Int.reduceEq, fs_callW, fs_regionQ, quiet2_eq, lastOf_nil, lastOf_cons, List.take_succ_cons, List.take_zero, List.drop_succ_cons, List.drop_zero, Int.reduceBEq, Int.reduceBNe, ↓keepV_some, ↓qElse_some, ↓guardV_tt, ↓guardV_ff, ↓guardV_tf, ↓guardV_ft, cL, Int.reduceLE, Int.reduceLT, Int.reduceAdd, Int.reduceMul, Int.reduceSub, Int.reduceTDiv, Int.reduceTMod, Int.reduceNeg, Int.reduceToNat, Int.reduceGT, Int.reduceGE, Int.reducePow, Nat.reduceAdd, Nat.reduceMul, Nat.reduceSub, Nat.reduceDiv, Nat.reduceMod, Nat.reducePow, Nat.reduceLT, Nat.reduceLeDiff, cJ, List.length_replicate, take_all, pV_cells, pV_size, pV_ok, pV_fold, rf_pV, eV_cells, eV_size, eV_ok, eV_fold, rf_eV, ns_len, q10, q11, q12, q13, q20, q21, q22, q23, p1, p2, p3, k4, k3, kp, m1, m2, m3, m4, vtwo, hr1, hr2, hr3, hr4, hr5, hr6, hr7, hr8, hr9, hr10, hr11, hr12, hr13, hr14, hr15, hr16, Lx1, Ly1, Lz1, Lt1, Lx2, Ly2, Lz2, Lt2, Ld, Ltwo, Lr1, Lr2, Lr3, Lr4, Lr5, Lr6, Lr7, Lr8, Lr9, Lr10, Lr11, Lr12, Lr13, Lr14, Lr15, Lr16]
    rfl
  · refine ⟨?_, ?_, ?_, ?_, ?_, ?_, ?_, ?_⟩
    · rw [fr3, fr1, fr2]
    · rw [fr6, fr4, fr5]
    · rw [fr7, ftwo]
    · rw [fr8, ftwo]
    · rw [fr13, fr9, fr10]
    · rw [fr14, fr11, fr12]
    · rw [fr15, fr10, fr11]
    · rw [fr16, fr9, fr12]
end Go.Ev.Ytaceeoghjgggjaa
set_option linter.unusedSimpArgs false
set_option linter.unusedVariables false
namespace Go.Ev.Ytaceeoghjgggjaa
open Go Go.Ev
attribute [local congr] bind_congr2 ite_congr2 qElse_congr gate_congr guardV_congr
set_option maxRecDepth 100000
theorem twice_v {x1 y1 z1 t1 : List Nat} (Ex1 : El x1 (2 ^ 52)) (Ey1 : El y1 (2 ^ 52)) (Ez1 : El z1 (2 ^ 52)) (Et1 : El t1 (2 ^ 52)) :
    ∃ x y z t, evVal T 53 [pV x1 y1 z1 t1] = some (pV x y z t) ∧ El x (2 ^ 52) ∧ El y (2 ^ 52) ∧ El z (2 ^ 52) ∧ El t (2 ^ 52) ∧
      ∃ a b c h e g f : Go.Fp.Fe, a = fe x1 * fe x1 ∧ b = fe y1 * fe y1 ∧ c = 1 * 2 * fe z1 * fe z1 ∧ h = a + b ∧ e = h - (fe x1 + fe y1) * (fe x1 + fe y1) ∧ g = a - b ∧ f = c + g ∧
        fe x = e * f ∧ fe y = g * h ∧ fe z = f * g ∧ fe t = e * h := by
  obtain ⟨two, htwo⟩ : ∃ two : List Nat, two = [2, 0, 0, 0, 0] := ⟨_, rfl⟩
  have Etwo : El two (2 ^ 52) := by rw [htwo]; exact two_E
  have vtwo : evVal T 50 [.int .u32 2] = some (eV two) := by rw [htwo]; exact two_v
  have ftwo : fe two = 2 := by rw [htwo]; exact two_fe
  clear htwo
  obtain ⟨r1, hr1, Er1, fr1⟩ := mul_ev Ex1 Ex1
  obtain ⟨r2, hr2, Er2, fr2⟩ := mul_ev Ey1 Ey1
  obtain ⟨r3, hr3, Er3, fr3⟩ := prod_ev (H := [⟨ns .u64 (pL x1 y1 z1 t1), true, true, true, 1⟩, ⟨List.replicate 20 (.int .u64 0), true, true, true, 1⟩, ⟨ns .u64 r1, true, true, true, 1⟩, ⟨ns .u64 r2, true, true, true, 1⟩, ⟨ns .u64 [two, z1, z1].flatten, true, true, true, 1⟩]) (id := 4) (n := 3) (xs := [two, z1, z1]) rfl (by decide) (by intro w hw; simp only [List.mem_cons, List.not_mem_nil, or_false] at hw; rcases hw with rfl | rfl | rfl <;> assumption) rfl
  simp only [List.cons_append, List.nil_append, List.map_cons, List.map_nil, List.foldl_cons, List.foldl_nil] at hr3 fr3
  obtain ⟨r4, sr4, hr4, Er4, fr4⟩ := add2_ev (H := [⟨ns .u64 (pL x1 y1 z1 t1), true, true, true, 1⟩, ⟨List.replicate 20 (.int .u64 0), true, true, true, 1⟩, ⟨ns .u64 r1, true, true, true, 1⟩, ⟨ns .u64 r2, true, true, true, 1⟩, ⟨ns .u64 [two, z1, z1].flatten, true, true, true, 1⟩, ⟨ns .u64 r3, true, true, true, 1⟩, ⟨ns .u64 r3, true, true, true, 1⟩, ⟨ns .u64 two, true, true, true, 1⟩, ⟨ns .u64 z1, true, true, true, 1⟩, ⟨ns .u64 z1, true, true, true, 1⟩, ⟨ns .u64 r3, true, true, true, 1⟩, ⟨ns .u64 (r1 ++ r2), true, true, true, 1⟩]) (id := 11) Er1 Er2 rfl
  simp only [List.cons_append, List.nil_append] at hr4
  obtain ⟨r5, sr5, hr5, Er5, fr5⟩ := add2_ev (H := [⟨ns .u64 (pL x1 y1 z1 t1), true, true, true, 1⟩, ⟨List.replicate 20 (.int .u64 0), true, true, true, 1⟩, ⟨ns .u64 r1, true, true, true, 1⟩, ⟨ns .u64 r2, true, true, true, 1⟩, ⟨ns .u64 [two, z1, z1].flatten, true, true, true, 1⟩, ⟨ns .u64 r3, true, true, true, 1⟩, ⟨ns .u64 r3, true, true, true, 1⟩, ⟨ns .u64 two, true, true, true, 1⟩, ⟨ns .u64 z1, true, true, true, 1⟩, ⟨ns .u64 z1, true, true, true, 1⟩, ⟨ns .u64 r3, true, true, true, 1⟩, ⟨ns .u64 (r1 ++ r2), true, true, true, 1⟩, ⟨ns .u64 r4, true, true, true, 1⟩, ⟨ns .u64 sr4, true, true, true, 1⟩, ⟨ns .u64 r1, true, true, true, 1⟩, ⟨ns .u64 r2, true, true, true, 1⟩, ⟨ns .u64 r4, true, true, true, 1⟩, ⟨ns .u64 (x1 ++ y1), true, true, true, 1⟩]) (id := 17) Ex1 Ey1 rfl
  simp only [List.cons_append, List.nil_append] at hr5
  obtain ⟨r6, hr6, Er6, fr6⟩ := mul_ev Er5 Er5
  obtain ⟨r7, hr7, Er7, fr7⟩ := sub_v Er4 Er6
  obtain ⟨r8, hr8, Er8, fr8⟩ := sub_v Er1 Er2
  obtain ⟨r9, sr9, hr9, Er9, fr9⟩ := add2_ev (H := [⟨ns .u64 (pL x1 y1 z1 t1), true, true, true, 1⟩, ⟨List.replicate 20 (.int .u64 0), true, true, true, 1⟩, ⟨ns .u64 r1, true, true, true, 1⟩, ⟨ns .u64 r2, true, true, true, 1⟩, ⟨ns .u64 [two, z1, z1].flatten, true, true, true, 1⟩, ⟨ns .u64 r3, true, true, true, 1⟩, ⟨ns .u64 r3, true, true, true, 1⟩, ⟨ns .u64 two, true, true, true, 1⟩, ⟨ns .u64 z1, true, true, true, 1⟩, ⟨ns .u64 z1, true, true, true, 1⟩, ⟨ns .u64 r3, true, true, true, 1⟩, ⟨ns .u64 (r1 ++ r2), true, true, true, 1⟩, ⟨ns .u64 r4, true, true, true, 1⟩, ⟨ns .u64 sr4, true, true, true, 1⟩, ⟨ns .u64 r1, true, true, true, 1⟩, ⟨ns .u64 r2, true, true, true, 1⟩, ⟨ns .u64 r4, true, true, true, 1⟩, ⟨ns .u64 (x1 ++ y1), true, true, true, 1⟩, ⟨ns .u64 r5, true, true, true, 1⟩, ⟨ns .u64 sr5, true, true, true, 1⟩, ⟨ns .u64 x1, true, true, true, 1⟩, ⟨ns .u64 y1, true, true, true, 1⟩, ⟨ns .u64 r5, true, true, true, 1⟩, ⟨ns .u64 r7, true, true, true, 1⟩, ⟨ns .u64 r8, true, true, true, 1⟩, ⟨ns .u64 (r3 ++ r8), true, true, true, 1⟩]) (id := 25) Er3 Er8 rfl
  simp only [List.cons_append, List.nil_append] at hr9
  obtain ⟨r10, hr10, Er10, fr10⟩ := mul_ev Er7 Er9
  obtain ⟨r11, hr11, Er11, fr11⟩ := mul_ev Er8 Er4
  obtain ⟨r12, hr12, Er12, fr12⟩ := mul_ev Er9 Er8
  obtain ⟨r13, hr13, Er13, fr13⟩ := mul_ev Er7 Er4
  refine ⟨r10, r11, r12, r13, ?_, Er10, Er11, Er12, Er13, fe r1, fe r2, fe r3, fe r4, fe r7, fe r8, fe r9, ?_⟩
  · obtain ⟨q10, q11, q12, q13⟩ := quad Ex1 Ey1 Ez1 Et1
    have p1 := pL_len Ex1 Ey1 Ez1 Et1
    have p3 := pL_len Er10 Er11 Er12 Er13
    have k3 := fill3 Etwo Ez1 Ez1
    have kp := fill4 Er10 Er11 Er12 Er13
    have m1 := fill2 Er1 Er2
    have m2 := fill2 Ex1 Ey1
    have m3 := fill2 Er3 Er8
    have Lx1 := Ex1.len
    have Ly1 := Ey1.len
    have Lz1 := Ez1.len
    have Lt1 := Et1.len
    have Ltwo := Etwo.len
    have Lr1 := Er1.len
    have Lr2 := Er2.len
    have Lr3 := Er3.len
    have Lr4 := Er4.len
    have Lr5 := Er5.len
    have Lr6 := Er6.len
    have Lr7 := Er7.len
    have Lr8 := Er8.len
    have Lr9 := Er9.len
    have Lr10 := Er10.len
    have Lr11 := Er11.len
    have Lr12 := Er12.len
    have Lr13 := Er13.len
    apply evVal_ex
    apply Exists.intro
    rw [evFun_fn (fn := a53) rfl]
    simp only [a53, envOf, quiet, cF, ↓pF, reduceCtorEq, Nat.reduceEqDiff, Int.reduceEq, fs_callW, fs_regionQ, quiet2_eq, lastOf_nil, lastOf_cons, List.take_succ_cons, List.take_zero, List.drop_succ_cons, List.drop_zero, Int.reduceBEq, Int.reduceBNe, ↓keepV_some, ↓qElse_some, ↓guardV_tt, ↓guardV_ff, ↓guardV_tf, ↓guardV_ft, cL, Int.reduceLE, Int.reduceLT, Int.reduceAdd, Int.reduceMul, Int.reduceSub, Int.reduceTDiv, Int.reduceTMod, Int.reduceNeg, Int.reduceToNat, Int.reduceGT, Int.reduceGE, Int.reducePow, Nat.reduceAdd, Nat.reduceMul, Nat.reduceSub, Nat.reduceDiv, Nat.reduceMod, Nat.reducePow, Nat.reduceLT, Nat.reduceLeDiff, cJ, List.length_replicate, take_all, pV_cells, pV_size, pV_ok, pV_fold, rf_pV, eV_cells, eV_size, eV_ok, eV_fold, rf_eV, ns_len, q10, q11, q12, q13, p1, p3, k3, kp, m1, m2, m3, vtwo, hr1, hr2, hr3, hr4, hr5, hr6, hr7, hr8, hr9, hr10, hr11, hr12, hr13, Lx1, Ly1, Lz1, Lt1, Ltwo, Lr1, Lr2, Lr3, Lr4, Lr5, Lr6, Lr7, Lr8, Lr9, Lr10, Lr11, Lr12, Lr13]
    rfl
  · refine ⟨fr1, fr2, by rw [fr3, ftwo], fr4, by rw [fr7, fr6, fr5], fr8, fr9, ?_, ?_, ?_, ?_⟩
    · rw [fr10]
    · rw [fr11]
    · rw [fr12]
    · rw [fr13]
structure Rep (x y z t : List Nat) (p : Go.Cv.Pt Go.Fp.P Go.Fp.d) : Prop where
  ex : El x (2 ^ 52)
  ey : El y (2 ^ 52)
  ez : El z (2 ^ 52)
  et : El t (2 ^ 52)
  nz : fe z ≠ 0
  x : fe x = p.x * fe z
  y : fe y = p.y * fe z
  t : fe t = p.x * p.y * fe z
abbrev padd (p q : Go.Cv.Pt Go.Fp.P Go.Fp.d) : Go.Cv.Pt Go.Fp.P Go.Fp.d := Go.Cv.Pt.add Go.Fp.fld p q
abbrev pmul (k : Nat) (p : Go.Cv.Pt Go.Fp.P Go.Fp.d) : Go.Cv.Pt Go.Fp.P Go.Fp.d := Go.Cv.Pt.mul Go.Fp.fld k p
abbrev pzero : Go.Cv.Pt Go.Fp.P Go.Fp.d := Go.Cv.Pt.zero
theorem plus_math {x1 y1 z1 t1 x2 y2 z2 t2 dd a b c e x y z t px py qx qy rx ry : Go.Fp.Fe} (hx1 : x1 = px * z1) (hy1 : y1 = py * z1) (ht1 : t1 = px * py * z1) (hx2 : x2 = qx * z2) (hy2 : y2 = qy * z2) (ht2 : t2 = qx * qy * z2)
    (ha : a = (y1 - x1) * (y2 - x2)) (hb : b = (y1 + x1) * (y2 + x2)) (hc : c = 1 * 2 * dd * t1 * t2) (he : e = 1 * 2 * z1 * z2) (hx : x = (b - a) * (e - c)) (hy : y = (e + c) * (b + a)) (hz : z = (e - c) * (e + c)) (ht : t = (b - a) * (b + a))
    (hrx : rx * (1 + dd * px * qx * py * qy) = px * qy + qx * py) (hry : ry * (1 - dd * px * qx * py * qy) = py * qy + px * qx) :
    x = rx * z ∧ y = ry * z ∧ t = rx * ry * z ∧ z = (2 * z1 * z2) * (2 * z1 * z2) * ((1 - dd * px * qx * py * qy) * (1 + dd * px * qx * py * qy)) := by
  have e1 : b - a = (2 * z1 * z2) * (px * qy + qx * py) := by rw [hb, ha, hx1, hy1, hx2, hy2]; grobner
  have e2 : b + a = (2 * z1 * z2) * (py * qy + px * qx) := by rw [hb, ha, hx1, hy1, hx2, hy2]; grobner
  have e3 : e - c = (2 * z1 * z2) * (1 - dd * px * qx * py * qy) := by rw [he, hc, ht1, ht2]; grobner
  have e4 : e + c = (2 * z1 * z2) * (1 + dd * px * qx * py * qy) := by rw [he, hc, ht1, ht2]; grobner
  rw [e1, ← hrx, e3] at hx
  rw [e4, e2, ← hry] at hy
  rw [e3, e4] at hz
  rw [e1, e2, ← hrx, ← hry] at ht
  clear hx1 hy1 ht1 hx2 hy2 ht2 ha hb hc he hrx hry e1 e2 e3 e4
  generalize 1 + dd * px * qx * py * qy = k at *
  generalize 1 - dd * px * qx * py * qy = m at *
  generalize 2 * z1 * z2 = w at *
  subst hx hy hz ht
  refine ⟨?_, ?_, ?_, ?_⟩ <;> grobner
theorem Rep.plus {x1 y1 z1 t1 x2 y2 z2 t2 d : List Nat} {p q : Go.Cv.Pt Go.Fp.P Go.Fp.d} (h1 : Rep x1 y1 z1 t1 p) (h2 : Rep x2 y2 z2 t2 q) (Ed : El d (2 ^ 52)) (hd : fe d = Go.Fp.d) :
    ∃ x y z t, evVal T 54 [pV x1 y1 z1 t1, pV x2 y2 z2 t2, eV d] = some (pV x y z t) ∧ Rep x y z t (padd p q) := by
  obtain ⟨x, y, z, t, hv, Ex, Ey, Ez, Et, a, b, c, e, ha, hb, hc, he, hx, hy, hz, ht⟩ := plus_v h1.ex h1.ey h1.ez h1.et h2.ex h2.ey h2.ez h2.et Ed
  rw [hd] at hc
  obtain ⟨g1, g2, g3, g4⟩ := plus_math h1.x h1.y h1.t h2.x h2.y h2.t ha hb hc he hx hy hz ht (Go.Cv.add_x Go.Fp.fld p q) (Go.Cv.add_y Go.Fp.fld p q)
  refine ⟨x, y, z, t, hv, Ex, Ey, Ez, Et, ?_, g1, g2, g3⟩
  rw [g4]
  have F := Go.Fp.fld
  have w := F.mul_ne (F.mul_ne F.two h1.nz) h2.nz
  exact F.mul_ne (F.mul_ne w w) (F.mul_ne (F.denM p.on q.on) (F.denP p.on q.on))
theorem twice_math {x1 y1 z1 dd a b c h e g f x y z t px py rx ry : Go.Fp.Fe} (hx1 : x1 = px * z1) (hy1 : y1 = py * z1) (on : -(px * px) + py * py = 1 + dd * (px * px) * (py * py))
    (ha : a = x1 * x1) (hb : b = y1 * y1) (hc : c = 1 * 2 * z1 * z1) (hh : h = a + b) (he : e = h - (x1 + y1) * (x1 + y1)) (hg : g = a - b) (hf : f = c + g) (hx : x = e * f) (hy : y = g * h) (hz : z = f * g) (ht : t = e * h)
    (hrx : rx * (1 + dd * px * px * py * py) = px * py + px * py) (hry : ry * (1 - dd * px * px * py * py) = py * py + px * px) :
    x = rx * z ∧ y = ry * z ∧ t = rx * ry * z ∧ z = -((z1 * z1) * (z1 * z1) * ((1 - dd * px * px * py * py) * (1 + dd * px * px * py * py))) := by
  have e1 : e = -((z1 * z1) * (px * py + px * py)) := by rw [he, hh, ha, hb, hx1, hy1]; grobner
  have e2 : h = (z1 * z1) * (py * py + px * px) := by rw [hh, ha, hb, hx1, hy1]; grobner
  have e3 : g = -((z1 * z1) * (1 + dd * px * px * py * py)) := by
    have : 1 + dd * px * px * py * py = py * py - px * px := by
      clear hx1 hy1 ha hb hc hh he hg hf hx hy hz ht hrx hry e1 e2
      grobner
    rw [this, hg, ha, hb, hx1, hy1]; grobner
  have e4 : f = (z1 * z1) * (1 - dd * px * px * py * py) := by
    rw [hf, e3, hc]
    clear hx1 hy1 on ha hb hc hh he hg hf hx hy hz ht hrx hry e1 e2 e3
    grobner
  rw [← hrx] at e1
  rw [← hry] at e2
  clear hx1 hy1 on ha hb hc hh he hg hf hrx hry
  generalize 1 + dd * px * px * py * py = k at *
  generalize 1 - dd * px * px * py * py = m at *
  generalize z1 * z1 = w at *
  subst e1 e2 e3 e4 hx hy hz ht
  refine ⟨?_, ?_, ?_, ?_⟩ <;> grobner
theorem Rep.twice {x1 y1 z1 t1 : List Nat} {p : Go.Cv.Pt Go.Fp.P Go.Fp.d} (h1 : Rep x1 y1 z1 t1 p) : ∃ x y z t, evVal T 53 [pV x1 y1 z1 t1] = some (pV x y z t) ∧ Rep x y z t (padd p p) := by
  obtain ⟨x, y, z, t, hv, Ex, Ey, Ez, Et, a, b, c, h, e, g, f, ha, hb, hc, hh, he, hg, hf, hx, hy, hz, ht⟩ := twice_v h1.ex h1.ey h1.ez h1.et
  obtain ⟨g1, g2, g3, g4⟩ := twice_math h1.x h1.y p.on ha hb hc hh he hg hf hx hy hz ht (Go.Cv.add_x Go.Fp.fld p p) (Go.Cv.add_y Go.Fp.fld p p)
  refine ⟨x, y, z, t, hv, Ex, Ey, Ez, Et, ?_, g1, g2, g3⟩
  rw [g4]
  have F := Go.Fp.fld
  have w := F.mul_ne h1.nz h1.nz
  have n := F.mul_ne (F.mul_ne w w) (F.mul_ne (F.denM p.on p.on) (F.denP p.on p.on))
  intro h0
  exact n (by grobner)
end Go.Ev.Ytaceeoghjgggjaa
set_option linter.unusedSimpArgs false
set_option linter.unusedVariables false
namespace Go.Ev.Ytaceeoghjgggjaa
open Go Go.Ev
attribute [local congr] bind_congr2 ite_congr2 qElse_congr gate_congr guardV_congr
set_option maxRecDepth 100000
def RepL (l : List Nat) (p : Go.Cv.Pt Go.Fp.P Go.Fp.d) : Prop := ∃ x y z t, l = pL x y z t ∧ Rep x y z t p
theorem RepL.len {l : List Nat} {p : Go.Cv.Pt Go.Fp.P Go.Fp.d} (h : RepL l p) : l.length = 20 := by
  obtain ⟨x, y, z, t, rfl, h⟩ := h
  exact pL_len h.ex h.ey h.ez h.et
theorem plusL {l m d : List Nat} {p q : Go.Cv.Pt Go.Fp.P Go.Fp.d} (h1 : RepL l p) (h2 : RepL m q) (Ed : El d (2 ^ 52)) (hd : fe d = Go.Fp.d) : ∃ r, evVal T 54 [eV l, eV m, eV d] = some (eV r) ∧ RepL r (padd p q) := by
  obtain ⟨x, y, z, t, rfl, h1⟩ := h1
  obtain ⟨x2, y2, z2, t2, rfl, h2⟩ := h2
  obtain ⟨a, b, c, e, h3, h4⟩ := h1.plus h2 Ed hd
  exact ⟨pL a b c e, h3, a, b, c, e, rfl, h4⟩
theorem twiceL {l : List Nat} {p : Go.Cv.Pt Go.Fp.P Go.Fp.d} (h1 : RepL l p) : ∃ r, evVal T 53 [eV l] = some (eV r) ∧ RepL r (padd p p) := by
  obtain ⟨x, y, z, t, rfl, h1⟩ := h1
  obtain ⟨a, b, c, e, h3, h4⟩ := h1.twice
  exact ⟨pL a b c e, h3, a, b, c, e, rfl, h4⟩
def dK : List Nat := dig 256 32 Go.Fp.dN
theorem dK_num : num 256 dK = Go.Fp.dN := by decide +kernel
theorem dK_lt : ∀ x ∈ dK, x < 256 := fun _ h => dig_lt (by decide) h
theorem factor_v : ∃ r, evVal T 52 [] = some (eV r) ∧ El r (2 ^ 52) ∧ fe r = Go.Fp.d := by
  have h := of_v (k := dK) (dig_len _ _ _) dK_lt
  refine ⟨dig (2 ^ 51) 5 (num 256 dK % 2 ^ 255), ?_, of_el, ?_⟩
  rotate_left
  · unfold fe
    rw [of_v51, dK_num]
    rfl
  · have hl : (dig (2 ^ 51) 5 (num 256 dK % 2 ^ 255)).length = 5 := dig_len _ _ _
    have hf : fillL (List.replicate 32 (Value.int .u8 0)) [(0, 1, .int .u8 163), (1, 1, .int .u8 120), (2, 1, .int .u8 89), (3, 1, .int .u8 19), (4, 1, .int .u8 202), (5, 1, .int .u8 77), (6, 1, .int .u8 235), (7, 1, .int .u8 117), (8, 1, .int .u8 171), (9, 1, .int .u8 216), (10, 1, .int .u8 65), (11, 1, .int .u8 65), (12, 1, .int .u8 77), (13, 1, .int .u8 10), (14, 1, .int .u8 112), (15, 1, .int .u8 0), (16, 1, .int .u8 152), (17, 1, .int .u8 232), (18, 1, .int .u8 121), (19, 1, .int .u8 119), (20, 1, .int .u8 121), (21, 1, .int .u8 64), (22, 1, .int .u8 199), (23, 1, .int .u8 140), (24, 1, .int .u8 115), (25, 1, .int .u8 254), (26, 1, .int .u8 111), (27, 1, .int .u8 43), (28, 1, .int .u8 238), (29, 1, .int .u8 108), (30, 1, .int .u8 3), (31, 1, .int .u8 82)] = some (u8s dK) := by
      have : dK = [163, 120, 89, 19, 202, 77, 235, 117, 171, 216, 65, 65, 77, 10, 112, 0, 152, 232, 121, 119, 121, 64, 199, 140, 115, 254, 111, 43, 238, 108, 3, 82] := by decide +kernel
      rw [this]; rfl
    generalize dig (2 ^ 51) 5 (num 256 dK % 2 ^ 255) = D at *
    apply evVal_ex
    apply Exists.intro
    rw [evFun_fn (fn := a52) rfl]
    simp only [a52, envOf, quiet, cF, ↓pF, reduceCtorEq, Nat.reduceEqDiff, Int.reduceEq, fs_callW, fs_regionQ, quiet2_eq, lastOf_nil, lastOf_cons, List.take_succ_cons, List.take_zero, List.drop_succ_cons, List.drop_zero, Int.reduceBEq, Int.reduceBNe, ↓keepV_some, ↓qElse_some, ↓guardV_tt, ↓guardV_ff, ↓guardV_tf, ↓guardV_ft, cL, Int.reduceLE, Int.reduceLT, Int.reduceAdd, Int.reduceMul, Int.reduceSub, Int.reduceTDiv, Int.reduceTMod, Int.reduceNeg, Int.reduceToNat, Int.reduceGT, Int.reduceGE, Int.reducePow, Nat.reduceAdd, Nat.reduceMul, Nat.reduceSub, Nat.reduceDiv, Nat.reduceMod, Nat.reducePow, Nat.reduceLT, Nat.reduceLeDiff, cJ, hf, h, List.length_replicate, take_all, eV_cells, eV_size, eV_ok, eV_fold, rf_eV, ns_len, hl]
    rfl
theorem one_v : evVal T 50 [.int .u32 1] = some (eV [1, 0, 0, 0, 0]) := small_v (n := 1) (by decide)
theorem zero_el5 : El [0, 0, 0, 0, 0] (2 ^ 52) := small_el (by decide)
theorem zero_fe : fe [0, 0, 0, 0, 0] = 0 := by rw [small_fe]; rfl
theorem zero_v : ∃ r, evVal T 30 [] = some (eV r) ∧ RepL r pzero := by
  refine ⟨pL [0, 0, 0, 0, 0] [1, 0, 0, 0, 0] [1, 0, 0, 0, 0] [0, 0, 0, 0, 0], ?_, _, _, _, _, rfl, zero_el5, one_el, one_el, zero_el5, ?_, ?_, ?_, ?_⟩
  · have hf : fillL (List.replicate 20 (Value.int .u64 0)) [(5, 5, eV [1, 0, 0, 0, 0]), (10, 5, eV [1, 0, 0, 0, 0])] = some (ns .u64 (pL [0, 0, 0, 0, 0] [1, 0, 0, 0, 0] [1, 0, 0, 0, 0] [0, 0, 0, 0, 0])) := rfl
    have hl : (pL [0, 0, 0, 0, 0] [1, 0, 0, 0, 0] [1, 0, 0, 0, 0] [0, 0, 0, 0, 0]).length = 20 := rfl
    have hv := one_v
    generalize pL [0, 0, 0, 0, 0] [1, 0, 0, 0, 0] [1, 0, 0, 0, 0] [0, 0, 0, 0, 0] = Z at *
    generalize ([1, 0, 0, 0, 0] : List Nat) = O at *
    apply evVal_ex
    apply Exists.intro
    rw [evFun_fn (fn := a30) rfl]
    simp only [a30, envOf, quiet, cF, ↓pF, reduceCtorEq, Nat.reduceEqDiff, Int.reduceEq, fs_callW, fs_regionQ, quiet2_eq, lastOf_nil, lastOf_cons, List.take_succ_cons, List.take_zero, List.drop_succ_cons, List.drop_zero, Int.reduceBEq, Int.reduceBNe, ↓keepV_some, ↓qElse_some, ↓guardV_tt, ↓guardV_ff, ↓guardV_tf, ↓guardV_ft, cL, Int.reduceLE, Int.reduceLT, Int.reduceAdd, Int.reduceMul, Int.reduceSub, Int.reduceTDiv, Int.reduceTMod, Int.reduceNeg, Int.reduceToNat, Int.reduceGT, Int.reduceGE, Int.reducePow, Nat.reduceAdd, Nat.reduceMul, Nat.reduceSub, Nat.reduceDiv, Nat.reduceMod, Nat.reducePow, Nat.reduceLT, Nat.reduceLeDiff, cJ, hf, hv, List.length_replicate, take_all, eV_cells, eV_size, eV_ok, eV_fold, rf_eV, ns_len, hl]
    rfl
  · rw [one_fe]; exact Go.Fp.one_ne
  · rw [zero_fe]; simp only [Go.Cv.Pt.zero]; grobner
  · rw [one_fe]; simp only [Go.Cv.Pt.zero]; grobner
  · rw [zero_fe]; simp only [Go.Cv.Pt.zero]; grobner
theorem pmul_step (p : Go.Cv.Pt Go.Fp.P Go.Fp.d) (m b : Nat) (hb : b < 2) : pmul (2 * m + b) p = if b = 1 then padd (padd (pmul m p) (pmul m p)) p else padd (pmul m p) (pmul m p) := by
  have h1 : pmul (2 * m) p = padd (pmul m p) (pmul m p) := by rw [show 2 * m = m + m by omega]; exact Go.Cv.mul_add Go.Fp.fld m m p
  by_cases h : b = 1
  · subst h
    rw [if_pos rfl]
    show padd (pmul (2 * m) p) p = _
    rw [h1]
  · have : b = 0 := by omega
    subst this
    rw [if_neg (by decide), Nat.add_zero, h1]
theorem negp_v {l : List Nat} {p : Go.Cv.Pt Go.Fp.P Go.Fp.d} (hl : RepL l p) : ∃ r, evVal T 34 [eV l] = some (eV r) ∧ RepL r p.neg := by
  obtain ⟨x, y, z, t, rfl, h⟩ := hl
  obtain ⟨a, ha, Ea, fa⟩ := neg_v h.ex
  obtain ⟨b, hb, Eb, fb⟩ := neg_v h.et
  obtain ⟨q0, q1, q2, q3⟩ := quad h.ex h.ey h.ez h.et
  have hf := fill4 Ea h.ey h.ez Eb
  have p1 := pL_len h.ex h.ey h.ez h.et
  have p2 := pL_len Ea h.ey h.ez Eb
  refine ⟨pL a y z b, ?_, a, y, z, b, rfl, Ea, h.ey, h.ez, Eb, h.nz, ?_, ?_, ?_⟩
  · generalize pL x y z t = L at *
    generalize pL a y z b = M at *
    apply evVal_ex
    apply Exists.intro
    rw [evFun_fn (fn := a34) rfl]
    simp only [a34, envOf, quiet, cF, ↓pF, reduceCtorEq, Nat.reduceEqDiff, Int.reduceEq, fs_callW, fs_regionQ, quiet2_eq, lastOf_nil, lastOf_cons, List.take_succ_cons, List.take_zero, List.drop_succ_cons, List.drop_zero, Int.reduceBEq, Int.reduceBNe, ↓keepV_some, ↓qElse_some, ↓guardV_tt, ↓guardV_ff, ↓guardV_tf, ↓guardV_ft, cL, Int.reduceLE, Int.reduceLT, Int.reduceAdd, Int.reduceMul, Int.reduceSub, Int.reduceTDiv, Int.reduceTMod, Int.reduceNeg, Int.reduceToNat, Int.reduceGT, Int.reduceGE, Int.reducePow, Nat.reduceAdd, Nat.reduceMul, Nat.reduceSub, Nat.reduceDiv, Nat.reduceMod, Nat.reducePow, Nat.reduceLT, Nat.reduceLeDiff, cJ, q0, q1, q2, q3, ha, hb, hf, List.length_replicate, take_all, eV_cells, eV_size, eV_ok, eV_fold, ns_len, p1, p2, rf_eV]
    rfl
  · rw [fa, h.x]; simp only [Go.Cv.Pt.neg]; grobner
  · rw [h.y]; rfl
  · rw [fb, h.t]; simp only [Go.Cv.Pt.neg]; grobner
end Go.Ev.Ytaceeoghjgggjaa
set_option linter.unusedSimpArgs false
set_option linter.unusedVariables false
namespace Go.Ev.Ytaceeoghjgggjaa
open Go Go.Ev
attribute [local congr] bind_congr2 ite_congr2 qElse_congr gate_congr guardV_congr
set_option maxRecDepth 100000
instance decPt (p q : Go.Cv.Pt Go.Fp.P Go.Fp.d) : Decidable (p = q) := if h : p.x = q.x ∧ p.y = q.y then isTrue (Go.Cv.Pt.ext h.1 h.2) else isFalse (fun e => h (by rw [e]; exact ⟨rfl, rfl⟩))
theorem same_iff {a b z w : Go.Fp.Fe} (hz : z ≠ 0) (hw : w ≠ 0) : (a * z * w = b * w * z) = (a = b) := by
  apply propext
  constructor
  · intro h
    have F := Go.Fp.fld
    refine F.cancel (F.mul_ne hz hw) ?_
    grobner
  · intro h; subst h; grobner
theorem equal_v {l m : List Nat} {p q : Go.Cv.Pt Go.Fp.P Go.Fp.d} (h1 : RepL l p) (h2 : RepL m q) : evVal T 28 [eV l, eV m] = some (.bool (decide (p = q))) := by
  obtain ⟨x1, y1, z1, t1, rfl, h1⟩ := h1
  obtain ⟨x2, y2, z2, t2, rfl, h2⟩ := h2
  obtain ⟨a, ha, Ea, fa⟩ := mul_ev h1.ex h2.ez
  obtain ⟨b, hb, Eb, fb⟩ := mul_ev h2.ex h1.ez
  obtain ⟨c, hc, Ec, fc⟩ := mul_ev h1.ey h2.ez
  obtain ⟨e, he, Ee, fe_⟩ := mul_ev h2.ey h1.ez
  have q1 := eq_v Ea Eb
  have q2 := eq_v Ec Ee
  rw [fa, fb, h1.x, h2.x] at q1
  rw [fc, fe_, h1.y, h2.y] at q2
  simp only [same_iff h1.nz h2.nz] at q1 q2
  obtain ⟨u0, u1, u2, u3⟩ := quad h1.ex h1.ey h1.ez h1.et
  obtain ⟨v0, v1, v2, v3⟩ := quad h2.ex h2.ey h2.ez h2.et
  have p1 := pL_len h1.ex h1.ey h1.ez h1.et
  have p2 := pL_len h2.ex h2.ey h2.ez h2.et
  generalize pL x1 y1 z1 t1 = L at *
  generalize pL x2 y2 z2 t2 = M at *
  by_cases hx : p.x = q.x
  · rw [decide_eq_true hx] at q1
    have hd : decide (p = q) = decide (p.y = q.y) := by
      by_cases hy : p.y = q.y
      · rw [decide_eq_true hy, decide_eq_true (Go.Cv.Pt.ext hx hy)]
      · rw [decide_eq_false hy, decide_eq_false (fun h => hy (by rw [h]))]
    rw [hd]
    apply evVal_ex
    apply Exists.intro
    rw [evFun_fn (fn := a28) rfl]
    simp only [a28, envOf, quiet, cF, ↓pF, reduceCtorEq, Nat.reduceEqDiff, Int.reduceEq, fs_callW, fs_regionQ, quiet2_eq, lastOf_nil, lastOf_cons, List.take_succ_cons, List.take_zero, List.drop_succ_cons, List.drop_zero, Int.reduceBEq, Int.reduceBNe, ↓keepV_some, ↓qElse_some, ↓guardV_tt, ↓guardV_ff, ↓guardV_tf, ↓guardV_ft, cL, Int.reduceLE, Int.reduceLT, Int.reduceAdd, Int.reduceMul, Int.reduceSub, Int.reduceTDiv, Int.reduceTMod, Int.reduceNeg, Int.reduceToNat, Int.reduceGT, Int.reduceGE, Int.reducePow, Nat.reduceAdd, Nat.reduceMul, Nat.reduceSub, Nat.reduceDiv, Nat.reduceMod, Nat.reducePow, Nat.reduceLT, Nat.reduceLeDiff, cJ, u0, u1, u2, v0, v1, v2, ha, hb, hc, he, q1, q2, List.length_replicate, take_all, eV_cells, eV_size, eV_ok, eV_fold, ns_len, p1, p2, rf_eV]
    rfl
  · rw [decide_eq_false hx] at q1
    rw [decide_eq_false (fun h => hx (by rw [h]))]
    apply evVal_ex
    apply Exists.intro
    rw [evFun_fn (fn := a28) rfl]
    simp only [a28, envOf, quiet, cF, ↓pF, reduceCtorEq, Nat.reduceEqDiff, Int.reduceEq, fs_callW, fs_regionQ, quiet2_eq, lastOf_nil, lastOf_cons, List.take_succ_cons, List.take_zero, List.drop_succ_cons, List.drop_zero, Int.reduceBEq, Int.reduceBNe, ↓keepV_some, ↓qElse_some, ↓guardV_tt, ↓guardV_ff, ↓guardV_tf, ↓guardV_ft, cL, Int.reduceLE, Int.reduceLT, Int.reduceAdd, Int.reduceMul, Int.reduceSub, Int.reduceTDiv, Int.reduceTMod, Int.reduceNeg, Int.reduceToNat, Int.reduceGT, Int.reduceGE, Int.reducePow, Nat.reduceAdd, Nat.reduceMul, Nat.reduceSub, Nat.reduceDiv, Nat.reduceMod, Nat.reducePow, Nat.reduceLT, Nat.reduceLeDiff, cJ, u0, u1, u2, v0, v1, v2, ha, hb, hc, he, q1, q2, List.length_replicate, take_all, eV_cells, eV_size, eV_ok, eV_fold, ns_len, p1, p2, rf_eV]
    rfl
theorem eight_eq (p : Go.Cv.Pt Go.Fp.P Go.Fp.d) : padd (padd (padd p p) (padd p p)) (padd (padd p p) (padd p p)) = pmul 8 p := by
  have h2 : pmul 2 p = padd p p := Go.Cv.mul_two Go.Fp.fld p
  have h4 : pmul 4 p = padd (pmul 2 p) (pmul 2 p) := Go.Cv.mul_add Go.Fp.fld 2 2 p
  have h8 : pmul 8 p = padd (pmul 4 p) (pmul 4 p) := Go.Cv.mul_add Go.Fp.fld 4 4 p
  rw [h8, h4, h2]
theorem tiny_v {l : List Nat} {p : Go.Cv.Pt Go.Fp.P Go.Fp.d} (h : RepL l p) : evVal T 39 [eV l] = some (.bool (decide (pmul 8 p = pzero))) := by
  obtain ⟨a, ha, ra⟩ := twiceL h
  obtain ⟨b, hb, rb⟩ := twiceL ra
  obtain ⟨c, hc, rc⟩ := twiceL rb
  obtain ⟨z, hz, rz⟩ := zero_v
  have he := equal_v rc rz
  rw [eight_eq] at he
  have p1 := h.len
  apply evVal_ex
  apply Exists.intro
  rw [evFun_fn (fn := a39) rfl]
  simp only [a39, envOf, quiet, cF, ↓pF, reduceCtorEq, Nat.reduceEqDiff, Int.reduceEq, fs_callW, fs_regionQ, quiet2_eq, lastOf_nil, lastOf_cons, List.take_succ_cons, List.take_zero, List.drop_succ_cons, List.drop_zero, Int.reduceBEq, Int.reduceBNe, ↓keepV_some, ↓qElse_some, ↓guardV_tt, ↓guardV_ff, ↓guardV_tf, ↓guardV_ft, cL, Int.reduceLE, Int.reduceLT, Int.reduceAdd, Int.reduceMul, Int.reduceSub, Int.reduceTDiv, Int.reduceTMod, Int.reduceNeg, Int.reduceToNat, Int.reduceGT, Int.reduceGE, Int.reducePow, Nat.reduceAdd, Nat.reduceMul, Nat.reduceSub, Nat.reduceDiv, Nat.reduceMod, Nat.reducePow, Nat.reduceLT, Nat.reduceLeDiff, cJ, ha, hb, hc, hz, he, take_all, eV_cells, eV_size, eV_ok, eV_fold, ns_len, p1, rf_eV]
  rfl
def encN (p : Go.Cv.Pt Go.Fp.P Go.Fp.d) : Nat := p.y.val + (p.x.val % 2) * 2 ^ 255
def enc (p : Go.Cv.Pt Go.Fp.P Go.Fp.d) : List Nat := dig 256 32 (encN p)
theorem enc_len (p : Go.Cv.Pt Go.Fp.P Go.Fp.d) : (enc p).length = 32 := dig_len _ _ _
theorem val_lt (a : Go.Fp.Fe) : a.val < 2 ^ 255 := Nat.lt_trans a.isLt (by rw [Go.Fp.P_eq]; decide)
theorem encN_lt (p : Go.Cv.Pt Go.Fp.P Go.Fp.d) : encN p < 256 ^ 32 := by
  have h1 := val_lt p.y
  have h2 := Nat.mod_lt p.x.val (by decide : 0 < 2)
  unfold encN
  have : p.x.val % 2 * 2 ^ 255 ≤ 1 * 2 ^ 255 := Nat.mul_le_mul_right _ (by omega)
  have e : (256 : Nat) ^ 32 = 2 ^ 255 + 2 ^ 255 := by decide
  omega
theorem encode_v {l : List Nat} {p : Go.Cv.Pt Go.Fp.P Go.Fp.d} (h : RepL l p) : evVal T 29 [eV l] = some (.agg (u8s (enc p)).toArray) := by
  obtain ⟨x, y, z, t, rfl, h⟩ := h
  obtain ⟨i, hi, Ei, fi⟩ := invert_v h.ez
  obtain ⟨a, ha, Ea, fa⟩ := mul_ev h.ey Ei
  obtain ⟨b, hb, Eb, fb⟩ := mul_ev h.ex Ei
  have hinv := Go.Fp.iv_mul h.nz
  have fa' : fe a = p.y := by rw [fa, fi, h.y]; grobner
  have fb' : fe b = p.x := by rw [fb, fi, h.x]; grobner
  have k1 := bytes_v Ea
  have k2 := odd_v Eb
  rw [fa'] at k1
  rw [fb'] at k2
  obtain ⟨u0, u1, u2, u3⟩ := quad h.ex h.ey h.ez h.et
  have p1 := pL_len h.ex h.ey h.ez h.et
  have L1 := Ei.len
  have lk : (dig 256 32 p.y.val).length = 32 := dig_len _ _ _
  have l0 : (dig 256 32 0).length = 32 := rfl
  have hz32 : List.replicate 32 (Value.int .u8 0) = u8s (dig 256 32 0) := rfl
  generalize pL x y z t = L at *
  by_cases ho : p.x.val % 2 = 1
  · rw [decide_eq_true ho] at k2
    have hv := val_lt p.y
    obtain ⟨w, hw⟩ : ∃ w, (dig 256 32 p.y.val)[31]? = some w := ⟨_, List.getElem?_eq_getElem (by rw [dig_len]; decide)⟩
    have hwc := u8s_get hw
    have hw' : w < 256 := dig_lt (by decide) (List.mem_of_getElem? hw)
    have hput := dig_put (w := 8) (m := 32) (q := 31) (s := 7) (y := 1) (M := p.y.val) (by decide) (by decide) hv (by decide)
    have hgd : (dig (2 ^ 8) 32 p.y.val).getD 31 0 = w := by rw [List.getD_eq_getElem?_getD]; rw [show (2 : Nat) ^ 8 = 256 from rfl, hw]; rfl
    rw [hgd] at hput
    have hset := u8s_set (dig 256 32 p.y.val) 31 (w ||| 128)
    rw [show (dig 256 32 p.y.val).set 31 (w ||| 128) = enc p from by rw [enc, encN, ho]; exact hput] at hset
    have o1 : bitsOp .or .u8 (w : Int) 128 = ((w ||| 128 : Nat) : Int) := bits_or (k := .u8) (a := w) (b := 128) rfl hw' (by decide)
    have le := enc_len p
    generalize enc p = E at *
    apply evVal_ex
    apply Exists.intro
    rw [evFun_fn (fn := a29) rfl]
    simp only [a29, envOf, quiet, cF, ↓pF, reduceCtorEq, Nat.reduceEqDiff, Int.reduceEq, fs_callW, fs_regionQ, quiet2_eq, lastOf_nil, lastOf_cons, List.take_succ_cons, List.take_zero, List.drop_succ_cons, List.drop_zero, Int.reduceBEq, Int.reduceBNe, ↓keepV_some, ↓qElse_some, ↓guardV_tt, ↓guardV_ff, ↓guardV_tf, ↓guardV_ft, cL, Int.reduceLE, Int.reduceLT, Int.reduceAdd, Int.reduceMul, Int.reduceSub, Int.reduceTDiv, Int.reduceTMod, Int.reduceNeg, Int.reduceToNat, Int.reduceGT, Int.reduceGE, Int.reducePow, Nat.reduceAdd, Nat.reduceMul, Nat.reduceSub, Nat.reduceDiv, Nat.reduceMod, Nat.reducePow, Nat.reduceLT, Nat.reduceLeDiff, cJ, hz32, u0, u1, u2, hi, ha, hb, k1, k2, hwc, o1, hset, List.length_replicate, take_all, eV_cells, eV_size, eV_ok, eV_fold, ns_len, u8s_len, lk, l0, le, p1, L1, rf_eV]
    rfl
  · rw [decide_eq_false ho] at k2
    have he : enc p = dig 256 32 p.y.val := by rw [enc, encN, show p.x.val % 2 = 0 by omega, Nat.zero_mul, Nat.add_zero]
    rw [he]
    generalize dig 256 32 p.y.val = E at *
    apply evVal_ex
    apply Exists.intro
    rw [evFun_fn (fn := a29) rfl]
    simp only [a29, envOf, quiet, cF, ↓pF, reduceCtorEq, Nat.reduceEqDiff, Int.reduceEq, fs_callW, fs_regionQ, quiet2_eq, lastOf_nil, lastOf_cons, List.take_succ_cons, List.take_zero, List.drop_succ_cons, List.drop_zero, Int.reduceBEq, Int.reduceBNe, ↓keepV_some, ↓qElse_some, ↓guardV_tt, ↓guardV_ff, ↓guardV_tf, ↓guardV_ft, cL, Int.reduceLE, Int.reduceLT, Int.reduceAdd, Int.reduceMul, Int.reduceSub, Int.reduceTDiv, Int.reduceTMod, Int.reduceNeg, Int.reduceToNat, Int.reduceGT, Int.reduceGE, Int.reducePow, Nat.reduceAdd, Nat.reduceMul, Nat.reduceSub, Nat.reduceDiv, Nat.reduceMod, Nat.reducePow, Nat.reduceLT, Nat.reduceLeDiff, cJ, hz32, u0, u1, u2, hi, ha, hb, k1, k2, List.length_replicate, take_all, eV_cells, eV_size, eV_ok, eV_fold, ns_len, u8s_len, lk, l0, p1, L1, rf_eV]
    rfl
def bxN : Nat := 15112221349535400772501151409588531511454012693041857206046113283949847762202
def byN : Nat := 46316835694926478169428394003475163141307993866256225615783033603165251855960
def pbase : Go.Cv.Pt Go.Fp.P Go.Fp.d := ⟨Go.Fp.fp bxN, Go.Fp.fp byN, by
  unfold Go.Cv.On Go.Fp.d
  have h : (Go.Fp.fp byN * Go.Fp.fp byN : Go.Fp.Fe) = Go.Fp.fp bxN * Go.Fp.fp bxN + (1 + Go.Fp.fp Go.Fp.dN * (Go.Fp.fp bxN * Go.Fp.fp bxN) * (Go.Fp.fp byN * Go.Fp.fp byN)) := by
    rw [← Go.Fp.fp_one, ← Go.Fp.fp_mul, ← Go.Fp.fp_mul, ← Go.Fp.fp_mul, ← Go.Fp.fp_mul, ← Go.Fp.fp_add, ← Go.Fp.fp_add]
    exact Go.Fp.fp_eq.2 (by decide +kernel)
  grobner⟩
def bxK : List Nat := dig 256 32 bxN
def byK : List Nat := dig 256 32 byN
theorem bxK_num : num 256 bxK = bxN := by decide +kernel
theorem byK_num : num 256 byK = byN := by decide +kernel
theorem base_v : ∃ r, evVal T 25 [] = some (eV r) ∧ RepL r pbase := by
  have h1 := of_v (k := bxK) (dig_len _ _ _) dig32_lt
  have h2 := of_v (k := byK) (dig_len _ _ _) dig32_lt
  have E1 := of_el (V := num 256 bxK % 2 ^ 255)
  have E2 := of_el (V := num 256 byK % 2 ^ 255)
  have f1 : fe (dig (2 ^ 51) 5 (num 256 bxK % 2 ^ 255)) = Go.Fp.fp bxN := by unfold fe; rw [of_v51, bxK_num]; rfl
  have f2 : fe (dig (2 ^ 51) 5 (num 256 byK % 2 ^ 255)) = Go.Fp.fp byN := by unfold fe; rw [of_v51, byK_num]; rfl
  generalize dig (2 ^ 51) 5 (num 256 bxK % 2 ^ 255) = X at *
  generalize dig (2 ^ 51) 5 (num 256 byK % 2 ^ 255) = Y at *
  obtain ⟨t, ht, Et, ft⟩ := mul_ev E1 E2
  have E3 : ∃ O : List Nat, O = [1, 0, 0, 0, 0] := ⟨_, rfl⟩
  obtain ⟨O, hO⟩ := E3
  have E3 : El O (2 ^ 52) := by rw [hO]; exact one_el
  have v1 : evVal T 50 [.int .u32 1] = some (eV O) := by rw [hO]; exact one_v
  have f3 : fe O = 1 := by rw [hO]; exact one_fe
  clear hO
  have hf := fill4 E1 E2 E3 Et
  have p1 := pL_len E1 E2 E3 Et
  refine ⟨pL X Y O t, ?_, X, Y, O, t, rfl, E1, E2, E3, Et, by rw [f3]; exact Go.Fp.one_ne, by rw [f1, f3]; simp only [pbase]; grobner, by rw [f2, f3]; simp only [pbase]; grobner, by rw [ft, f1, f2, f3]; simp only [pbase]; grobner⟩
  have L1 := E1.len
  have L2 := E2.len
  have g1 : fillL (List.replicate 32 (Value.int .u8 0)) [(0, 1, .int .u8 26), (1, 1, .int .u8 213), (2, 1, .int .u8 37), (3, 1, .int .u8 143), (4, 1, .int .u8 96), (5, 1, .int .u8 45), (6, 1, .int .u8 86), (7, 1, .int .u8 201), (8, 1, .int .u8 178), (9, 1, .int .u8 167), (10, 1, .int .u8 37), (11, 1, .int .u8 149), (12, 1, .int .u8 96), (13, 1, .int .u8 199), (14, 1, .int .u8 44), (15, 1, .int .u8 105), (16, 1, .int .u8 92), (17, 1, .int .u8 220), (18, 1, .int .u8 214), (19, 1, .int .u8 253), (20, 1, .int .u8 49), (21, 1, .int .u8 226), (22, 1, .int .u8 164), (23, 1, .int .u8 192), (24, 1, .int .u8 254), (25, 1, .int .u8 83), (26, 1, .int .u8 110), (27, 1, .int .u8 205), (28, 1, .int .u8 211), (29, 1, .int .u8 54), (30, 1, .int .u8 105), (31, 1, .int .u8 33)] = some (u8s bxK) := by
    have : bxK = [26, 213, 37, 143, 96, 45, 86, 201, 178, 167, 37, 149, 96, 199, 44, 105, 92, 220, 214, 253, 49, 226, 164, 192, 254, 83, 110, 205, 211, 54, 105, 33] := by decide +kernel
    rw [this]; rfl
  have g2 : fillL (List.replicate 32 (Value.int .u8 0)) [(0, 1, .int .u8 88), (1, 1, .int .u8 102), (2, 1, .int .u8 102), (3, 1, .int .u8 102), (4, 1, .int .u8 102), (5, 1, .int .u8 102), (6, 1, .int .u8 102), (7, 1, .int .u8 102), (8, 1, .int .u8 102), (9, 1, .int .u8 102), (10, 1, .int .u8 102), (11, 1, .int .u8 102), (12, 1, .int .u8 102), (13, 1, .int .u8 102), (14, 1, .int .u8 102), (15, 1, .int .u8 102), (16, 1, .int .u8 102), (17, 1, .int .u8 102), (18, 1, .int .u8 102), (19, 1, .int .u8 102), (20, 1, .int .u8 102), (21, 1, .int .u8 102), (22, 1, .int .u8 102), (23, 1, .int .u8 102), (24, 1, .int .u8 102), (25, 1, .int .u8 102), (26, 1, .int .u8 102), (27, 1, .int .u8 102), (28, 1, .int .u8 102), (29, 1, .int .u8 102), (30, 1, .int .u8 102), (31, 1, .int .u8 102)] = some (u8s byK) := by
    have : byK = [88, 102, 102, 102, 102, 102, 102, 102, 102, 102, 102, 102, 102, 102, 102, 102, 102, 102, 102, 102, 102, 102, 102, 102, 102, 102, 102, 102, 102, 102, 102, 102] := by decide +kernel
    rw [this]; rfl
  generalize pL X Y O t = Q at *
  apply evVal_ex
  apply Exists.intro
  rw [evFun_fn (fn := a25) rfl]
  simp only [a25, envOf, quiet, cF, ↓pF, reduceCtorEq, Nat.reduceEqDiff, Int.reduceEq, fs_callW, fs_regionQ, quiet2_eq, lastOf_nil, lastOf_cons, List.take_succ_cons, List.take_zero, List.drop_succ_cons, List.drop_zero, Int.reduceBEq, Int.reduceBNe, ↓keepV_some, ↓qElse_some, ↓guardV_tt, ↓guardV_ff, ↓guardV_tf, ↓guardV_ft, cL, Int.reduceLE, Int.reduceLT, Int.reduceAdd, Int.reduceMul, Int.reduceSub, Int.reduceTDiv, Int.reduceTMod, Int.reduceNeg, Int.reduceToNat, Int.reduceGT, Int.reduceGE, Int.reducePow, Nat.reduceAdd, Nat.reduceMul, Nat.reduceSub, Nat.reduceDiv, Nat.reduceMod, Nat.reducePow, Nat.reduceLT, Nat.reduceLeDiff, cJ, g1, g2, h1, h2, v1, ht, hf, List.length_replicate, take_all, eV_cells, eV_size, eV_ok, eV_fold, ns_len, p1, L1, L2, rf_eV]
  rfl
end Go.Ev.Ytaceeoghjgggjaa
set_option linter.unusedSimpArgs false
set_option linter.unusedVariables false
namespace Go.Ev.Ytaceeoghjgggjaa
open Go Go.Ev
attribute [local congr] bind_congr2 ite_congr2 qElse_congr gate_congr guardV_congr
set_option maxRecDepth 100000
theorem part20 {a b c : List Nat} {n : Nat} (hb : b.length = 20) (ha : a.length = n) : List.take 20 (List.drop n (ns .u64 (a ++ (b ++ c)))) = ns .u64 b := by
  simp only [ns_append]
  rw [List.drop_append_of_le_length (by rw [ns_len]; omega), List.drop_of_length_le (by rw [ns_len]; omega), List.nil_append, List.take_append_of_le_length (by rw [ns_len]; omega), List.take_of_length_le (by rw [ns_len]; omega)]
theorem adds_body {H : List Ob} {l : List Ob} {id n i : Nat} {o x r d : List Nat} {R : Ob} {cs : List Value} {g : List Ob} (hi : i < n) (hn : n < 100) (l1 : x.length = 20) (l2 : o.length = 20) (l4 : d.length = 5) (hm : evVal T 54 [eV o, eV x, eV d] = some (eV r)) (l3 : r.length = 20)
    (hA : ∀ l, (H ++ l)[id]? = some ⟨cs, true, true, true, 1⟩) (hcs : (cs.drop (i * 20)).take 20 = ns .u64 x) (hlen : i * 20 + 20 ≤ cs.length) :
    evCode T H.length a27_l0 ⟨[(2, .pointer (some ⟨H.length, 0, none⟩)), (3, .pointer (some ⟨H.length + 1, 0, none⟩)), (4, .pointer (some ⟨H.length + 2, 0, none⟩)), (9, .slice (some ⟨id, 0, none⟩) n n), (10, .int .i64 n), (11, .int .i64 i)], H ++ (R :: ⟨ns .u64 o, true, true, true, 1⟩ :: ⟨ns .u64 d, true, true, true, 1⟩ :: g), []⟩ =
      some (.normal, ⟨[(2, .pointer (some ⟨H.length, 0, none⟩)), (3, .pointer (some ⟨H.length + 1, 0, none⟩)), (4, .pointer (some ⟨H.length + 2, 0, none⟩)), (9, .slice (some ⟨id, 0, none⟩) n n), (10, .int .i64 n), (11, .int .i64 ((i + 1 : Nat) : Int))], H ++ (R :: ⟨ns .u64 r, true, true, true, 1⟩ :: ⟨ns .u64 d, true, true, true, 1⟩ :: (g ++ [⟨ns .u64 x, true, true, true, 1⟩])), []⟩) := by
  have hz : ∃ Z, List.replicate 20 (Value.int .u64 0) = ns .u64 Z ∧ Z.length = 20 := ⟨List.replicate 20 0, rfl, rfl⟩
  obtain ⟨Z, hz, l0⟩ := hz
  have e1 : ((i : Int) < (n : Int)) = True := eq_true (by omega)
  have w3 : IntKind.i64.wrap ((i : Int) + 1) = ((i + 1 : Nat) : Int) := wrap_nat (n := i + 1) (by omega)
  simp only [a27_l0, envOf, quiet, cF, ↓pF, reduceCtorEq, Nat.reduceEqDiff, Int.reduceEq, fs_callW, fs_regionP, ↓keepV_some, ↓qElse_some, ↓guardV_tt, ↓guardV_ff, ↓guardV_tf, ↓guardV_ft, cL, Int.reduceLE, Int.reduceLT, Int.reduceAdd, Int.reduceMul, Int.reduceSub, Int.reduceTDiv, Int.reduceTMod, Int.reduceNeg, Int.reduceToNat, Int.reduceGT, Int.reduceGE, Int.reducePow, Nat.reduceAdd, Nat.reduceMul, Nat.reduceSub, Nat.reduceDiv, Nat.reduceMod, Nat.reducePow, Nat.reduceLT, Nat.reduceLeDiff, cJ, Nat.add_assoc, hz, hA, hcs, hlen, hm, eV_cells, eV_size, eV_ok, eV_fold, ns_len, l0, l1, l2, l3, l4, rf_eV, e1, w3]
inductive Reps : List (List Nat) → List (Go.Cv.Pt Go.Fp.P Go.Fp.d) → Prop
  | nil : Reps [] []
  | cons {x xs p ps} : RepL x p → Reps xs ps → Reps (x :: xs) (p :: ps)
theorem Reps.len {xs : List (List Nat)} {ps : List (Go.Cv.Pt Go.Fp.P Go.Fp.d)} (h : Reps xs ps) : xs.length = ps.length := by
  induction h with
  | nil => rfl
  | cons _ _ ih => simp [ih]
theorem Reps.all {xs : List (List Nat)} {ps : List (Go.Cv.Pt Go.Fp.P Go.Fp.d)} (h : Reps xs ps) : ∀ x ∈ xs, x.length = 20 := by
  induction h with
  | nil => simp
  | cons h _ ih => intro y hy; rcases List.mem_cons.1 hy with rfl | hy; exact h.len; exact ih y hy
theorem Reps.get {xs : List (List Nat)} {ps : List (Go.Cv.Pt Go.Fp.P Go.Fp.d)} (h : Reps xs ps) : ∀ {i : Nat} {x : List Nat}, xs[i]? = some x → ∃ p, ps[i]? = some p ∧ RepL x p := by
  induction h with
  | nil => intro i x h; simp at h
  | cons h _ ih =>
    intro i x hx
    cases i with
    | zero => simp at hx; subst hx; exact ⟨_, rfl, h⟩
    | succ i => simp at hx; simpa using ih hx
theorem flat20 : ∀ (ys : List (List Nat)), (∀ x ∈ ys, x.length = 20) → ys.flatten.length = ys.length * 20 := by
  intro ys hy
  induction ys with
  | nil => rfl
  | cons y ys ih =>
    rw [List.flatten_cons, List.length_append, ih (fun x hx => hy x (by simp [hx])), (hy y (by simp)), List.length_cons]; omega
theorem adds_ev {H : List Ob} {id n : Nat} {xs : List (List Nat)} {ps : List (Go.Cv.Pt Go.Fp.P Go.Fp.d)} (hn : xs.length = n) (hN : n < 100) (hx : Reps xs ps) (h : H[id]? = some ⟨ns .u64 xs.flatten, true, true, true, 1⟩) :
    ∃ r d, evFun T 27 [.slice (some ⟨id, 0, none⟩) n n] H = some (eV r, H ++ (⟨ns .u64 r, true, true, true, 1⟩ :: ⟨ns .u64 r, true, true, true, 1⟩ :: ⟨ns .u64 d, true, true, true, 1⟩ :: xs.map fun x => (⟨ns .u64 x, true, true, true, 1⟩ : Ob)), []) ∧ RepL r (ps.foldl padd pzero) := by
  have hid : id < H.length := (List.getElem?_eq_some_iff.1 h).1
  have hA : ∀ l, (H ++ l)[id]? = some ⟨ns .u64 xs.flatten, true, true, true, 1⟩ := fun l => by rw [List.getElem?_append_left hid]; exact h
  obtain ⟨d, hd, Ed, fd⟩ := factor_v
  obtain ⟨z, hz, Ez⟩ := zero_v
  have hZ : ∃ Z, List.replicate 20 (Value.int .u64 0) = ns .u64 Z ∧ Z.length = 20 := ⟨List.replicate 20 0, rfl, rfl⟩
  obtain ⟨Z, hZ, l0⟩ := hZ
  obtain ⟨st, hb, r, rfl, hr1⟩ := block_inv (T := T) (base := H.length) (id := 0) (body := a27_l0)
    (fun i st => ∃ r : List Nat, st = ⟨[(2, .pointer (some ⟨H.length, 0, none⟩)), (3, .pointer (some ⟨H.length + 1, 0, none⟩)), (4, .pointer (some ⟨H.length + 2, 0, none⟩)), (9, .slice (some ⟨id, 0, none⟩) n n), (10, .int .i64 n), (11, .int .i64 (i : Nat))], H ++ (⟨ns .u64 Z, true, true, true, 1⟩ :: ⟨ns .u64 r, true, true, true, 1⟩ :: ⟨ns .u64 d, true, true, true, 1⟩ :: ((xs.take i).map fun x => (⟨ns .u64 x, true, true, true, 1⟩ : Ob))), []⟩ ∧ RepL r ((ps.take i).foldl padd pzero))
    (Q := fun st => ∃ r : List Nat, st = ⟨[(2, .pointer (some ⟨H.length, 0, none⟩)), (3, .pointer (some ⟨H.length + 1, 0, none⟩)), (4, .pointer (some ⟨H.length + 2, 0, none⟩)), (9, .slice (some ⟨id, 0, none⟩) n n), (10, .int .i64 n), (11, .int .i64 n), (12, .bool false)], H ++ (⟨ns .u64 Z, true, true, true, 1⟩ :: ⟨ns .u64 r, true, true, true, 1⟩ :: ⟨ns .u64 d, true, true, true, 1⟩ :: (xs.map fun x => (⟨ns .u64 x, true, true, true, 1⟩ : Ob))), []⟩ ∧ RepL r (ps.foldl padd pzero))
    n (s := ⟨[(2, .pointer (some ⟨H.length, 0, none⟩)), (3, .pointer (some ⟨H.length + 1, 0, none⟩)), (4, .pointer (some ⟨H.length + 2, 0, none⟩)), (9, .slice (some ⟨id, 0, none⟩) n n), (10, .int .i64 n), (11, .int .i64 0)], H ++ [⟨ns .u64 Z, true, true, true, 1⟩, ⟨ns .u64 z, true, true, true, 1⟩, ⟨ns .u64 d, true, true, true, 1⟩], []⟩) ⟨z, rfl, Ez⟩
    (fun i st hi hs => by
      obtain ⟨r, rfl, hr1⟩ := hs
      obtain ⟨x, hxi⟩ : ∃ y, xs[i]? = some y := ⟨_, List.getElem?_eq_getElem (by omega)⟩
      obtain ⟨p, hpi, hxe⟩ := hx.get hxi
      obtain ⟨r', hm, g1⟩ := plusL hr1 hxe Ed fd
      have hsplit : xs = xs.take i ++ x :: xs.drop (i + 1) := by
        have h1 := List.getElem?_eq_some_iff.1 hxi
        conv => lhs; rw [← List.take_append_drop i xs, List.drop_eq_getElem_cons h1.1, h1.2]
      have htl : (xs.take i).flatten.length = i * 20 := by
        rw [flat20 _ (fun y hy => hx.all y (List.mem_of_mem_take hy)), List.length_take, Nat.min_eq_left (by omega)]
      have hcs : ((ns .u64 xs.flatten).drop (i * 20)).take 20 = ns .u64 x := by
        conv => lhs; rw [hsplit, List.flatten_append, List.flatten_cons]
        exact part20 hxe.len htl
      have hb := adds_body (R := ⟨ns .u64 Z, true, true, true, 1⟩) (g := (xs.take i).map fun x => (⟨ns .u64 x, true, true, true, 1⟩ : Ob)) (l := []) hi hN hxe.len hr1.len Ed.len hm g1.len hA hcs (by rw [ns_len, flat20 xs hx.all, hn]; omega)
      have htk : xs.take (i + 1) = xs.take i ++ [x] := by rw [List.take_add_one, hxi]; rfl
      have htp : ps.take (i + 1) = ps.take i ++ [p] := by rw [List.take_add_one, hpi]; rfl
      refine ⟨_, hb, r', ?_, ?_⟩
      · rw [htk, List.map_append]; rfl
      · rw [htp, List.foldl_append]; exact g1)
    (fun st hs => by
      obtain ⟨r, rfl, hr1⟩ := hs
      have e1 : ((n : Int) < (n : Int)) = False := eq_false (by omega)
      have ht : xs.take n = xs := List.take_of_length_le (by omega)
      have ht2 : ps.take n = ps := List.take_of_length_le (by have := hx.len; omega)
      rw [ht2] at hr1
      rw [ht]
      refine ⟨_, ?_, r, rfl, hr1⟩
      simp only [a27_l0, envOf, quiet, cF, ↓pF, reduceCtorEq, Nat.reduceEqDiff, Int.reduceEq, fs_callW, fs_regionP, ↓keepV_some, ↓qElse_some, ↓guardV_tt, ↓guardV_ff, ↓guardV_tf, ↓guardV_ft, cL, Int.reduceLE, Int.reduceLT, Int.reduceAdd, Int.reduceMul, Int.reduceSub, Int.reduceTDiv, Int.reduceTMod, Int.reduceNeg, Int.reduceToNat, Int.reduceGT, Int.reduceGE, Int.reducePow, Nat.reduceAdd, Nat.reduceMul, Nat.reduceSub, Nat.reduceDiv, Nat.reduceMod, Nat.reducePow, Nat.reduceLT, Nat.reduceLeDiff, e1])
  refine ⟨r, d, ?_, hr1⟩
  have l1 := hr1.len
  have l2 := Ez.len
  have l3 := Ed.len
  rw [evFun_fn (fn := a27) rfl]
  have hz5 : List.replicate 5 (Value.int .u64 0) = ns .u64 [0, 0, 0, 0, 0] := rfl
  have l5 : ([0, 0, 0, 0, 0] : List Nat).length = 5 := rfl
  simp only [a27, envOf, quiet, cF, ↓pF, reduceCtorEq, Nat.reduceEqDiff, Int.reduceEq, fs_callW, fs_regionP, ↓keepV_some, ↓qElse_some, ↓guardV_tt, ↓guardV_ff, ↓guardV_tf, ↓guardV_ft, cL, Int.reduceLE, Int.reduceLT, Int.reduceAdd, Int.reduceMul, Int.reduceSub, Int.reduceTDiv, Int.reduceTMod, Int.reduceNeg, Int.reduceToNat, Int.reduceGT, Int.reduceGE, Int.reducePow, Nat.reduceAdd, Nat.reduceMul, Nat.reduceSub, Nat.reduceDiv, Nat.reduceMod, Nat.reducePow, Nat.reduceLT, Nat.reduceLeDiff, cJ, Nat.add_assoc, hZ, hz5, l5, hd, hz, hb, eV_cells, eV_size, eV_ok, eV_fold, ns_len, l0, l1, l2, l3, rf_eV]
theorem fold2 {p q : Go.Cv.Pt Go.Fp.P Go.Fp.d} : [p, q].foldl padd pzero = padd p q := by
  show padd (padd pzero p) q = _
  rw [show padd pzero p = p from Go.Cv.zero_add Go.Fp.fld p]
end Go.Ev.Ytaceeoghjgggjaa

/-
  Operations one behind the other; what the compiler says of the orders.
-/
import Derived.Test.YtaceeoghjgggjaaEvStep
set_option linter.unusedSimpArgs false
set_option linter.unusedVariables false
namespace Go.Ev
open Go.RowKit

def EnvRel (ρ : Pl) (e : Env) (a : Act) : Prop := ∀ t v, e.get t = some v → ∃ v', a.tmps[t]? = some v' ∧ VRel ρ v v'

theorem EnvRel.mono {ρ ρ' : Pl} {e : Env} {a : Act} (h : EnvRel ρ e a) (hle : PlLe ρ ρ') : EnvRel ρ' e a := fun t v ht => by
  obtain ⟨v', h1, h2⟩ := h t v ht
  exact ⟨v', h1, h2.mono hle⟩

theorem opRel_one {ρ : Pl} {e : Env} {a : Act} {x : Operand} (hc : okConst x = true) (h : ∀ t, x = .tmp t → ∀ v, e.get t = some v → ∃ v', a.tmps[t]? = some v' ∧ VRel ρ v v') {v : Value} (hv : opd e x = some v) : VRel ρ v (a.eval x) := by
  cases x with
  | tmp t =>
    obtain ⟨v', h1, h2⟩ := h t rfl v hv
    simp only [Act.eval, Array.getD_eq_getD_getElem?, h1, Option.getD_some]; exact h2
  | const u => simp only [opd, Option.some.injEq] at hv; subst hv; exact VRel.of_const hc
  | global g => simp [okConst] at hc
  | func f => simp only [opd, Option.some.injEq] at hv; subst hv; exact .same rfl

theorem EnvRel.opRel {ρ : Pl} {e : Env} {a : Act} {xs : List Operand} (h : EnvRel ρ e a) (hc : xs.all okConst = true) : OpRel ρ e a xs :=
  fun x hx v hv => opRel_one (List.all_eq_true.1 hc x hx) (fun t _ v hv => h t v hv) hv

theorem get_put (e : Env) (dst : Option Nat) (v : Value) (t : Nat) : (e.put dst v).get t = if dst = some t then some v else e.get t := by
  cases dst with
  | none => simp [Env.put]
  | some d =>
    simp only [Env.put, Env.get, Option.some.injEq]
    by_cases c : t = d
    · subst c; simp
    · simp [c, Ne.symm c]

theorem tmps_put (a : Act) (dst : Option Nat) (v : Value) (hd : ∀ d, dst = some d → d < a.tmps.size) (t : Nat) : (a.put dst v).tmps[t]? = if dst = some t then some v else a.tmps[t]? := by
  cases dst with
  | none => simp [Act.put]
  | some d =>
    have := hd d rfl
    simp only [Act.put, Array.getElem?_setIfInBounds, Option.some.injEq]
    by_cases c : d = t
    · subst c; simp [this]
    · simp [c]

theorem put_defers (a : Act) (dst : Option Nat) (v : Value) : (a.put dst v).defers = a.defers := by cases dst <;> rfl
theorem put_size (a : Act) (dst : Option Nat) (v : Value) : (a.put dst v).tmps.size = a.tmps.size := by cases dst <;> simp [Act.put]

theorem EnvRel.put {ρ : Pl} {e : Env} {a : Act} (h : EnvRel ρ e a) {dst : Option Nat} {v v' : Value} (hv : VRel ρ v v') (hd : ∀ d, dst = some d → d < a.tmps.size) : EnvRel ρ (e.put dst v) (a.put dst v') := by
  intro t u ht
  rw [get_put] at ht
  rw [tmps_put _ _ _ hd]
  split at ht
  · cases ht; rename_i hc; rw [if_pos hc]; exact ⟨v', rfl, hv⟩
  · rename_i hc; rw [if_neg hc]; exact h t u ht

theorem keep_get : ∀ (l : List Nat) (e : Env) (t : Nat) (v : Value), (e.keep l).get t = some v → e.get t = some v
  | [], e, t, v, h => by simp [Env.keep, Env.get] at h
  | u :: l, e, t, v, h => by
    unfold Env.keep at h
    split at h
    · rename_i x hx
      simp only [Env.get] at h
      split at h
      · subst_vars; cases h; exact hx
      · exact keep_get l e t v h
    · exact keep_get l e t v h

theorem EnvRel.after {ρ : Pl} {s : St} {a : Act} (h : EnvRel ρ s.env a) (keep : Option (List Nat)) : EnvRel ρ (s.after keep).env a := by
  cases keep with
  | none => exact h
  | some l => exact fun t v ht => h t v (keep_get l _ t v ht)

theorem after_h (s : St) (keep : Option (List Nat)) : (s.after keep).h = s.h ∧ (s.after keep).log = s.log := by cases keep <;> exact ⟨rfl, rfl⟩

/-- One step of the evaluator through a list of operations. -/
def StepAt (P : Program) (base : Nat) (ao : AOper) (s s' : St) (r : Rec) : Prop :=
  (guardOf s.env ao.guard = some true ∧ ∃ v H' t M, StepGood P ao.op s.env s.h v H' t M ∧ s' = ⟨s.env.put ao.dst v, H', inMerge base s.log M⟩ ∧ r = (t, M)) ∨
  (guardOf s.env ao.guard = some false ∧ s' = ⟨s.env.put ao.dst undef, s.h, s.log⟩ ∧ r = (some [], []))

structure Trace (P : Program) (base : Nat) (aops : List AOper) (s s' : St) (recs0 recs : List Rec) (S : Nat → St) (R : Nat → Rec) : Prop where
  first : S 0 = s
  last : S aops.length = s'
  recs : recs = recs0 ++ (List.range aops.length).map R
  step : ∀ j ao, aops[j]? = some ao → StepAt P base ao (S j) (S (j + 1)) (R j)

theorem Trace.nil {P : Program} {base : Nat} {s : St} {recs : List Rec} : Trace P base [] s s recs recs (fun _ => s) (fun _ => (none, [])) := ⟨rfl, rfl, by simp, fun j ao h => by simp at h⟩

theorem Trace.cons {P : Program} {base : Nat} {ao : AOper} {aops : List AOper} {s s1 s' : St} {r : Rec} {recs0 recs : List Rec} {S : Nat → St} {R : Nat → Rec} (h1 : StepAt P base ao s s1 r) (h : Trace P base aops s1 s' (recs0 ++ [r]) recs S R) :
    Trace P base (ao :: aops) s s' recs0 recs (fun | 0 => s | j + 1 => S j) (fun | 0 => r | j + 1 => R j) := by
  refine ⟨rfl, h.last, ?_, fun j x hx => ?_⟩
  · rw [h.recs, List.length_cons, List.range_succ_eq_map]; simp [Function.comp_def]
  · cases j with
    | zero => simp at hx; subst hx; simp only; rw [h.first]; exact h1
    | succ j => exact h.step j x (by simpa using hx)

theorem inMerge_mem (base : Nat) : ∀ (M log : List Nat) (id : Nat), id ∈ inMerge base log M ↔ id ∈ log ∨ (id ∈ M ∧ id < base)
  | [], log, id => by simp [inMerge]
  | i :: M, log, id => by
    unfold inMerge
    split
    · rename_i hc
      rw [inMerge_mem base M]
      simp only [List.mem_append, List.mem_cons, List.not_mem_nil, or_false]
      constructor
      · rintro ((h | rfl) | ⟨h, h'⟩)
        · exact .inl h
        · exact .inr ⟨.inl rfl, hc.1⟩
        · exact .inr ⟨.inr h, h'⟩
      · rintro (h | ⟨rfl | h, h'⟩)
        · exact .inl (.inl h)
        · exact .inl (.inr rfl)
        · exact .inr ⟨h, h'⟩
    · rename_i hc
      rw [inMerge_mem base M]
      simp only [List.mem_cons]
      constructor
      · rintro (h | ⟨h, h'⟩)
        · exact .inl h
        · exact .inr ⟨.inr h, h'⟩
      · rintro (h | ⟨rfl | h, h'⟩)
        · exact .inl h
        · by_cases hl : id ∈ log
          · exact .inl hl
          · exact absurd ⟨h', hl⟩ hc
        · exact .inr ⟨h, h'⟩

/-- What a piece of code keeps to, in a function that began with so many objects. -/
structure CAbs (base : Nat) (s s' : St) : Prop where
  len : s.h.length ≤ s'.h.length
  flags : ∀ (id : Nat) ob', id < s.h.length → s'.h[id]? = some ob' → ob'.live = true → ∃ ob, s.h[id]? = some ob ∧ ob.live = true ∧ ob.own = ob'.own
  log : ∀ id : Nat, id < base → id < s.h.length → id ∉ s'.log → s'.h[id]? = s.h[id]?
  sub : ∀ id ∈ s.log, id ∈ s'.log
  ids : ∀ id ∈ s'.log, id ∈ s.log ∨ (id < base ∧ id < s'.h.length)

theorem CAbs.refl (base : Nat) (s : St) : CAbs base s s := ⟨Nat.le_refl _, fun _ ob' _ h h' => ⟨ob', h, h', rfl⟩, fun _ _ _ _ => rfl, fun _ h => h, fun _ h => .inl h⟩
theorem CAbs.trans {base : Nat} {a b c : St} (h : CAbs base a b) (k : CAbs base b c) : CAbs base a c := by
  refine ⟨Nat.le_trans h.len k.len, fun id ob h1 h2 h3 => ?_, fun id h1 h2 h3 => ?_, fun id hid => k.sub id (h.sub id hid), fun id hid => ?_⟩
  · obtain ⟨o1, a1, a2, a3⟩ := k.flags id ob (Nat.lt_of_lt_of_le h1 h.len) h2 h3
    obtain ⟨o2, b1, b2, b3⟩ := h.flags id o1 h1 a1 a2
    exact ⟨o2, b1, b2, b3.trans a3⟩
  · rw [k.log id h1 (Nat.lt_of_lt_of_le h2 h.len) h3, h.log id h1 h2 fun hm => h3 (k.sub id hm)]
  · rcases k.ids id hid with h1 | h1
    · rcases h.ids id h1 with h2 | h2
      · exact .inl h2
      · exact .inr ⟨h2.1, Nat.lt_of_lt_of_le h2.2 k.len⟩
    · exact .inr h1

theorem StepAt.abs {P : Program} {base : Nat} {ao : AOper} {s s' : St} {r : Rec} (h : StepAt P base ao s s' r) : AbsOk s.h s'.h r.2 ∧ CAbs base s s' := by
  rcases h with ⟨_, v, H', t, M, hg, rfl, rfl⟩ | ⟨_, rfl, rfl⟩
  · refine ⟨hg.abs, ⟨hg.abs.len, hg.abs.flags, fun id h1 h2 h3 => hg.abs.log id h2 fun hm => h3 ((inMerge_mem _ _ _ _).2 (.inr ⟨hm, h1⟩)), fun id h => (inMerge_mem _ _ _ _).2 (.inl h), fun id h => ?_⟩⟩
    rcases (inMerge_mem _ _ _ _).1 h with h1 | ⟨h1, h2⟩
    · exact .inl h1
    · exact .inr ⟨h2, Nat.lt_of_lt_of_le (hg.abs.ids id h1) hg.abs.len⟩
  · exact ⟨.refl _ _ (by simp), ⟨Nat.le_refl _, fun _ ob' _ h h' => ⟨ob', h, h', rfl⟩, fun _ _ _ _ => rfl, fun _ h => h, fun _ h => .inl h⟩⟩

theorem Trace.cabs {P : Program} {base : Nat} {aops : List AOper} {s s' : St} {recs0 recs : List Rec} {S : Nat → St} {R : Nat → Rec} (h : Trace P base aops s s' recs0 recs S R) {i j : Nat} (hij : i ≤ j) (hj : j ≤ aops.length) : CAbs base (S i) (S j) := by
  induction j with
  | zero => have : i = 0 := by omega
            subst this; exact .refl _ _
  | succ j ih =>
    rcases Nat.lt_or_ge i (j + 1) with hlt | hge
    · have hs := h.step j (aops[j]'(by omega)) (List.getElem?_eq_getElem (by omega))
      exact (ih (by omega) (by omega)).trans hs.abs.2
    · have : i = j + 1 := by omega
      subst this; exact .refl _ _

theorem flags_of {base : Nat} {s s' : St} {ρ : Pl} (h : CAbs base s s') (hfree : Free ρ s.h.length s'.h.length) : Flags ρ (hp s.h) (hp s'.h) := by
  intro id ob' pl hρ h1 h2
  have hid : id < s'.h.length := (List.getElem?_eq_some_iff.1 h1).1
  rcases Nat.lt_or_ge id s.h.length with hlt | hge
  · exact h.flags id ob' hlt h1 h2
  · have := hfree id hge hid; rw [this] at hρ; cases hρ

structure CPost (ρ : Pl) (s s' : St) (a : Act) (w : World) (a' : Act) (w' : World) (ρ' : Pl) : Prop where
  env : EnvRel ρ' s'.env a'
  defers : a'.defers = []
  size : a'.tmps.size = a.tmps.size
  ext : Ext ρ ρ' s.h.length s'.h.length
  rel : RelF ρ' (hp s'.h) w'
  frm : Frm ρ ρ' (hp s.h) (hp s'.h) w w'
  pres : Pres ρ s.h s'.h

theorem Free.later {ρ ρ1 : Pl} {n n1 n2 : Nat} (h : Free ρ n n2) (he : Ext ρ ρ1 n n1) (hn : n ≤ n1) : Free ρ1 n1 n2 := by
  intro id h1 h2
  cases hc : ρ1 id with
  | none => rfl
  | some pl =>
    have := he.dom id pl hc (h id (Nat.le_trans hn h1) h2)
    omega

theorem CPost.trans {base : Nat} {ρ ρ1 ρ2 : Pl} {s s1 s2 : St} {a a1 a2 : Act} {w w1 w2 : World} (h : CPost ρ s s1 a w a1 w1 ρ1) (k : CPost ρ1 s1 s2 a1 w1 a2 w2 ρ2) (c1 : CAbs base s s1) (c2 : CAbs base s1 s2) (hfree : Free ρ s.h.length s2.h.length) :
    CPost ρ s s2 a w a2 w2 ρ2 := by
  have f1 : Free ρ s.h.length s1.h.length := fun id h1 h2 => hfree id h1 (Nat.lt_of_lt_of_le h2 c2.len)
  refine ⟨k.env, k.defers, k.size.trans h.size, ⟨h.ext.le.trans k.ext.le, fun id pl h2 h0 => ?_⟩, k.rel, h.frm.trans k.frm h.ext.le k.ext.le (flags_of c1 f1) (flags_of c2 fun id h1 h2 => hfree id (Nat.le_trans c1.len h1) h2), fun id h1 h2 => ?_⟩
  · cases hρ1 : ρ1 id with
    | some p =>
      have := h.ext.dom id p hρ1 h0
      exact ⟨this.1, Nat.lt_of_lt_of_le this.2 c2.len⟩
    | none =>
      have := k.ext.dom id pl h2 hρ1
      exact ⟨Nat.le_trans c1.len this.1, this.2⟩
  · have hρ1 : ρ1 id = none := by
      cases hc : ρ1 id with
      | none => rfl
      | some pl => have := h.ext.dom id pl hc h2; omega
    rw [k.pres id (Nat.lt_of_lt_of_le h1 c1.len) hρ1, h.pres id h1 h2]

/-- What the compiler says of each operation. -/
theorem compOpers_get {P : Program} {n : Nat} {all : List Oper} : ∀ {ops : List Oper} {aops : List AOper}, compOpers P n all ops = some aops → aops.length = ops.length ∧ ∀ (j : Nat) (o : Oper), ops[j]? = some o → ∃ ao : AOper, aops[j]? = some ao ∧ compOp P o = some ao.op ∧ ao.dst = o.dst ∧
    compGuard all o.guard = some ao.guard ∧ o.op.operands.toList.all okConst = true ∧ ∀ d, o.dst = some d → d < n
  | [], aops, h => by simp [compOpers] at h; subst h; exact ⟨rfl, fun j o h => by simp at h⟩
  | o :: ops, aops, h => by
    simp only [compOpers] at h
    split at h
    · rename_i hc
      simp only [Option.bind_eq_some_iff, Option.map_eq_some_iff] at h
      obtain ⟨ao, h1, g, h2, l, h3, rfl⟩ := h
      obtain ⟨ih1, ih2⟩ := compOpers_get h3
      refine ⟨by simp [ih1], fun j x hx => ?_⟩
      cases j with
      | zero =>
        simp at hx; subst hx
        simp only [Bool.and_eq_true] at hc
        exact ⟨_, rfl, h1, rfl, h2, hc.1, fun d hd => by have := hc.2; rw [hd] at this; simpa using this⟩
      | succ j => simpa using ih2 j x (by simpa using hx)
    · cases h

theorem wanted_of {ρ : Pl} {e : Env} {a : Act} {ops : Array Oper} {o : Oper} {g : Option (Nat × Bool)} {b : Bool} (hg : compGuard ops.toList o.guard = some g) (hb : guardOf e g = some b)
    (hn : ∀ k want d, o.guard = some (k, want) → (ops[k]?).bind (·.dst) = some d → ∀ v, e.get d = some v → ∃ v', a.tmps[d]? = some v' ∧ VRel ρ v v') : Region.wanted o (yielded ops a.tmps) = b := by
  unfold Region.wanted
  cases ho : o.guard with
  | none =>
    rw [ho] at hg
    simp only [compGuard, Option.some.injEq] at hg
    subst hg
    simp only [guardOf, Option.some.injEq] at hb
    exact hb
  | some p =>
    obtain ⟨k, want⟩ := p
    rw [ho] at hg
    simp only [compGuard, Option.map_eq_some_iff] at hg
    obtain ⟨d, hd, rfl⟩ := hg
    simp only [guardOf, Option.bind_eq_some_iff] at hb
    obtain ⟨v, hv, hb⟩ := hb
    have hd' : (ops[k]?).bind (·.dst) = some d := by simpa using hd
    obtain ⟨v', h1, h2⟩ := hn k want d ho hd' v hv
    split at hb
    · rename_i t
      cases hb
      have := h2.bool
      subst this
      show (yielded ops a.tmps k == some want) = _
      unfold yielded
      rw [hd']
      simp [h1]
    · cases hb

section
variable {P : Program} {n base : Nat} {ops : Array Oper} {aops : List AOper} {s s' : St} {recs0 recs : List Rec} {S : Nat → St} {R : Nat → Rec} {Q : Exit → Act → World → Prop}

/-- A region whose order is fixed. -/
theorem seq_ok (hc : compOpers P n ops.toList ops.toList = some aops) (ht : Trace P base aops s s' recs0 recs S R) : ∀ (k j : Nat), j + k = aops.length → ∀ (ρ : Pl) (a : Act) (w : World), EnvRel ρ (S j).env a → a.defers = [] → n ≤ a.tmps.size → RelF ρ (hp (S j).h) w →
    Free ρ (S j).h.length s'.h.length → (∀ a' w' ρ', CPost ρ (S j) s' a w a' w' ρ' → Q .normal a' w') → wpOps P ops Q (List.range' j k) a w
  | 0, j, hj, ρ, a, w, h1, h2, h3, h4, h5, hQ => by
    simp only [List.range'_zero, wpOps]
    have hs : S j = s' := by rw [← ht.last]; congr 1
    rw [hs] at h1 h4 hQ
    exact hQ a w ρ ⟨h1, h2, rfl, .refl _ _ _, h4, .refl _ _ _ _, fun _ _ _ => rfl⟩
  | k + 1, j, hj, ρ, a, w, h1, h2, h3, h4, h5, hQ => by
    obtain ⟨hl, hget⟩ := compOpers_get hc
    have hjlt : j < ops.toList.length := by omega
    have hjs : j < ops.size := by simpa using hjlt
    obtain ⟨ao, ha1, ha2, ha3, ha4, ha5, ha6⟩ := hget j _ (List.getElem?_eq_getElem hjlt)
    have hoj : ops[j]? = some ops.toList[j] := by rw [← Array.getElem?_toList, List.getElem?_eq_getElem hjlt]
    generalize ops.toList[j] = o at ha2 ha3 ha4 ha5 ha6 hoj
    have hst := ht.step j ao ha1
    have hd : ∀ d, o.dst = some d → d < a.tmps.size := fun d hd => Nat.lt_of_lt_of_le (ha6 d hd) h3
    have hc1 := ht.cabs (i := j) (j := j + 1) (by omega) (by omega)
    have hc2 := ht.cabs (i := j + 1) (j := aops.length) (by omega) (by omega)
    rw [ht.last] at hc2
    rw [List.range'_succ]
    rw [wpOps_cons]
    unfold wpOp
    rw [hoj]
    dsimp only
    have hw : ∀ b, guardOf (S j).env ao.guard = some b → Region.wanted o (yielded ops a.tmps) = b := fun b hb => wanted_of (ρ := ρ) ha4 hb fun _ _ d _ _ v hv => h1 d v hv
    rcases hst with ⟨hg, v, H', t, M, hgood, hs1, _⟩ | ⟨hg, hs1, _⟩
    · rw [if_pos (hw true hg)]
      left
      have hf1 : Free ρ (S j).h.length H'.length := fun id i1 i2 => h5 id i1 (by have := hc2.len; rw [hs1] at this; exact Nat.lt_of_lt_of_le i2 this)
      refine hgood.ok o ha2 ρ a w (h1.opRel ha5) h4 hf1 _ _ fun v' w' ρ' hp => ?_
      have hcp : CPost ρ (S j) (S (j + 1)) a w (a.put o.dst v') w' ρ' := by
        rw [hs1]
        refine ⟨?_, by rw [put_defers]; exact h2, put_size _ _ _, hp.ext, hp.rel, hp.frm, hp.pres⟩
        rw [ha3]
        exact (h1.mono hp.ext.le).put hp.val hd
      refine seq_ok hc ht k (j + 1) (by omega) ρ' _ w' hcp.env hcp.defers (by rw [hcp.size]; exact h3) hcp.rel (h5.later hcp.ext hc1.len) fun a2 w2 ρ2 hp2 => hQ a2 w2 ρ2 (hcp.trans hp2 hc1 hc2 h5)
    · rw [if_neg (by rw [hw false hg]; simp)]
      have hcp : CPost ρ (S j) (S (j + 1)) a w (a.put o.dst undef) w ρ := by
        rw [hs1]
        refine ⟨?_, by rw [put_defers]; exact h2, put_size _ _ _, .refl _ _ _, h4, .refl _ _ _ _, fun _ _ _ => rfl⟩
        rw [ha3]
        exact h1.put (.tuple .nil) hd
      refine seq_ok hc ht k (j + 1) (by omega) ρ _ w hcp.env hcp.defers (by rw [hcp.size]; exact h3) hcp.rel (h5.later hcp.ext hc1.len) fun a2 w2 ρ2 hp2 => hQ a2 w2 ρ2 (hcp.trans hp2 hc1 hc2 h5)

end
end Go.Ev

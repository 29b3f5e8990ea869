/-
  Calls; one operation as a step.
-/
import Derived.Test.YtaceeoghjgggjaaEvMerge
set_option linter.unusedSimpArgs false
set_option linter.unusedVariables false
namespace Go.Ev
open Go.RowKit

/-- What isn't there in the world isn't changed. -/
def Pres (ρ : Pl) (H H' : List Ob) : Prop := ∀ id, id < H.length → ρ id = none → H'[id]? = H[id]?

structure Post1 (ρ : Pl) (H : List Ob) (w : World) (v : Value) (H' : List Ob) (v' : Value) (w' : World) (ρ' : Pl) : Prop extends Post ρ H w v H' v' w' ρ' where
  pres : Pres ρ H H'

/-- A call does what the evaluator says. -/
def CallOk (P : Program) (f : FuncId) (args : List Value) (H : List Ob) (v : Value) (H' : List Ob) : Prop :=
  ∀ (ρ : Pl) (args' : List Value) (w : World), LRel ρ args args' → RelF ρ (hp H) w → Free ρ H.length H'.length → ∀ (o : Oper) (a : Act) (K : Act → World → Prop) (Q : Exit → Act → World → Prop),
    (∀ v' w' ρ', Post1 ρ H w v H' v' w' ρ' → K (a.put o.dst v') w') → o.upon P a K Q ((callFunc f args'.toArray).run P w)

def OperOk (P : Program) (o : Oper) (e : Env) (H : List Ob) (v : Value) (H' : List Ob) : Prop :=
  ∀ (ρ : Pl) (a : Act) (w : World), OpRel ρ e a o.op.operands.toList → RelF ρ (hp H) w → Free ρ H.length H'.length → ∀ (K : Act → World → Prop) (Q : Exit → Act → World → Prop),
    (∀ v' w' ρ', Post1 ρ H w v H' v' w' ρ' → K (a.put o.dst v') w') → o.wp P a w K Q

theorem OpOk.oper {P : Program} {o : Oper} {e : Env} {H H' : List Ob} {v : Value} (h : OpOk P o e H v H') (hpr : ∀ (ρ : Pl) (a : Act), OpRel ρ e a o.op.operands.toList → Pres ρ H H') : OperOk P o e H v H' := by
  intro ρ a w h1 h2 h3 K Q hK
  obtain ⟨nx, v', w', ρ', hr, hn, hp⟩ := h ρ a w h1 h2 h3
  unfold Oper.wp
  rw [hr]
  cases nx <;> simp only [nextVal] at hn <;> first
    | (subst hn; exact hK _ _ _ ⟨hp, hpr ρ a h1⟩)
    | exact hn.elim

def OkOps (o : Oper) : Prop := o.op.operands.toList.all okConst = true

/-- What is known of one step of the evaluator. -/
structure StepGood (P : Program) (ao : AOp) (e : Env) (H : List Ob) (v : Value) (H' : List Ob) (t : Option (List Nat)) (M : List Nat) : Prop where
  abs : AbsOk H H' M
  ok : ∀ o : Oper, compOp P o = some ao → OperOk P o e H v H'
  loc : ∀ l, t = some l → ∀ G : List Ob, G.length = H.length → (∀ id ∈ l, G[id]? = H[id]?) → ∃ G', LocalAt H H' G G' M ∧ AbsOk G G' M ∧ ∀ o : Oper, compOp P o = some ao → OperOk P o e G v G'
  mt : ∀ l, t = some l → ∀ id ∈ M, id ∈ l
  free : ao.free = true → t = some [] ∧ M = []
  quiet : ao.quiet = true → M = []

structure TabOk (P : Program) (T : Tab) : Prop where
  fn : ∀ f af, T.fn f = some af → ∃ fn, P.funcs[f]? = some fn ∧ compFun P fn = some af.strip ∧ (fn.name == "runtime.NumGoroutine") = false
  ext : ∀ f args v, T.fn f = none → T.ext f args = some v → args.all rf = true → (∀ ρ, VRel ρ v v) ∧ ∀ w, (callFunc f args.toArray).run P w = .ok (.value v) w

section
variable {P : Program} {T : Tab}

theorem run_resolve_func {f : FuncId} {xs : Array Operand} {ρ : Operand → Value} {c : Call} {ty : TypeId} (hc : c.callee = .value (.func f)) (hf : ρ (.func f) = .func (.func f) #[] #[]) (w : World) :
    (do let d ← resolve ρ c ty; invoke d.target d.args : Sem Next).run P w = (callFunc f (c.args.map ρ)).run P w := by
  simp [resolve, hc, hf, Deferred.ofValue, invoke]

theorem free_empty (n : Nat) : Free (fun _ => none) 0 n := fun _ _ _ => rfl
theorem rel_empty (w : World) : RelF (fun _ => none) (hp []) w := ⟨fun _ _ h => by simp at h, fun _ _ _ h => by simp [hp] at h, fun _ _ _ _ _ _ h => by simp [hp] at h⟩

/-- A call by value: whatever the heap. -/
theorem callOk_byVal {f : FuncId} {args : List Value} {v : Value} {H' : List Ob} (h : CallOk P f args [] v H') (ha : args.all rf = true) (hv : rf v = true) (H : List Ob) : CallOk P f args H v H := by
  intro ρ args' w hl hrel hfree o a K Q hK
  refine h (fun _ => none) args' w (hl.rf_any ha) (rel_empty w) (free_empty _) o a K Q fun v' w' ρ' hp => hK v' w' ρ ⟨?_, fun _ _ _ => rfl⟩
  have hb : ∀ b, b < w.heap.size → w'.heap[b]? = w.heap[b]? := fun b hb => hp.frm.blocks b hb fun id ob pl h1 => by simp [Ev.hp] at h1
  refine ⟨.refl _ _ _, hp.val.rf_any hv, ⟨fun id pl h => Nat.lt_of_lt_of_le (hrel.bound id pl h) hp.frm.size, fun id ob pl h1 h2 h3 => (hrel.obj id ob pl h1 h2 h3).same_block (.refl _) (hb _ (hrel.bound _ _ h2)), hrel.inj⟩,
    ⟨hp.frm.os, hp.frm.tape, hp.frm.output, hp.frm.size, fun b hb' _ => hb b hb', fun id pl h1 h2 => by rw [h2] at h1; cases h1⟩⟩

theorem simple_free {ao : AOp} (hs : ao.simple = true) (hf : ao.free = true) {e : Env} {H H' : List Ob} {v : Value} {t : Option (List Nat)} {M : List Nat} (h : simpleOp H e ao = some (v, H', t, M)) : t = some [] ∧ M = [] := by
  have hp : ∀ r, pureV H r = some (v, H', t, M) → t = some [] ∧ M = [] := fun r hr => (pureV_inv hr).2.2
  cases ao <;> simp only [simpleOp] at h <;> simp [AOp.free] at hf <;> first
    | exact hp _ h
    | skip
  case alloc z => simp only [Option.some.injEq, Prod.mk.injEq] at h; obtain ⟨_, _, rfl, rfl⟩ := h; simp
  case box x =>
    simp only [Option.bind_eq_some_iff] at h
    obtain ⟨_, _, h⟩ := h
    split at h
    · simp only [Option.some.injEq, Prod.mk.injEq] at h; obtain ⟨_, _, rfl, rfl⟩ := h; simp
    · cases h
  case s2b x =>
    simp only [Option.bind_eq_some_iff] at h
    obtain ⟨_, _, h⟩ := h
    split at h
    · split at h
      · simp only [Option.some.injEq, Prod.mk.injEq] at h; obtain ⟨_, _, rfl, rfl⟩ := h; simp
      · cases h
    · cases h
  case buildSlice cs l ps =>
    simp only [Option.bind_eq_some_iff, Option.some.injEq, Prod.mk.injEq] at h
    obtain ⟨_, _, _, _, _, _, rfl, rfl⟩ := h
    simp
  case makeSlice z b l c =>
    simp only [Option.bind_eq_some_iff] at h
    obtain ⟨_, _, _, _, h⟩ := h
    split at h
    · split at h
      · simp only [Option.some.injEq, Prod.mk.injEq] at h; obtain ⟨_, _, rfl, rfl⟩ := h; simp
      · cases h
    · cases h
  all_goals (first | (cases h; done) | simp [AOp.simple] at hs)

theorem simple_quiet {ao : AOp} (hs : ao.simple = true) (hf : ao.quiet = true) {e : Env} {H H' : List Ob} {v : Value} {t : Option (List Nat)} {M : List Nat} (h : simpleOp H e ao = some (v, H', t, M)) : M = [] := by
  by_cases hfr : ao.free = true
  · exact (simple_free hs hfr h).2
  cases ao <;> simp only [simpleOp] at h <;> simp [AOp.free] at hfr <;> simp [AOp.quiet] at hf <;> first | (simp [AOp.simple] at hs; done) | skip
  case load n a =>
    simp only [Option.bind_eq_some_iff] at h
    obtain ⟨_, _, h⟩ := h
    split at h
    · simp only [Option.bind_eq_some_iff] at h
      obtain ⟨_, _, h⟩ := h
      split at h
      · simp only [Option.bind_eq_some_iff, Option.some.injEq, Prod.mk.injEq] at h
        obtain ⟨_, _, _, _, _, rfl⟩ := h; rfl
      · cases h
    · cases h
  case b2s x =>
    simp only [Option.bind_eq_some_iff] at h
    obtain ⟨_, _, h⟩ := h
    split at h
    · simp only [Option.bind_eq_some_iff, Option.some.injEq, Prod.mk.injEq] at h
      obtain ⟨_, _, _, _, _, _, _, rfl⟩ := h; rfl
    · cases h
  case sliceSl es x lo hi mx =>
    simp only [Option.bind_eq_some_iff] at h
    obtain ⟨_, _, _, _, _, _, _, _, h⟩ := h
    split at h
    · simp only [Option.bind_eq_some_iff] at h
      obtain ⟨_, _, _, _, h⟩ := h
      split at h
      · simp only [Option.some.injEq, Prod.mk.injEq] at h; obtain ⟨_, _, _, rfl⟩ := h; rfl
      · cases h
    · simp only [Option.bind_eq_some_iff, Option.some.injEq, Prod.mk.injEq] at h
      obtain ⟨_, _, _, _, _, rfl⟩ := h; rfl
    · cases h

/-- What a simple operation changes is named by its operands. -/
theorem simple_names {ao : AOp} {e : Env} {H H' : List Ob} {v : Value} {t : Option (List Nat)} {M : List Nat} (h : simpleOp H e ao = some (v, H', t, M)) : (∀ l, t = some l → ∀ id ∈ M, id ∈ l) ∧
    ∀ id ∈ M, ∃ x y u, (ao = .store y x u ∨ (∃ b, ao = .append y b x u) ∨ ao = .copy y x u) ∧ ∃ v, opd e x = some v ∧ baseOf v = [id] := by
  have hnil : M = [] → (∀ l, t = some l → ∀ id ∈ M, id ∈ l) ∧ ∀ id ∈ M, ∃ x y u, (ao = .store y x u ∨ (∃ b, ao = .append y b x u) ∨ ao = .copy y x u) ∧ ∃ v, opd e x = some v ∧ baseOf v = [id] := by
    rintro rfl; simp
  have hs : ao.simple = true := by cases ao <;> first | rfl | (simp [simpleOp] at h)
  by_cases hq : ao.quiet = true
  · exact hnil (simple_quiet hs hq h)
  cases ao <;> simp [AOp.quiet] at hq <;> simp [AOp.simple] at hs
  case store n x y =>
    simp only [simpleOp, Option.bind_eq_some_iff] at h
    obtain ⟨u, hu, z, hz, h⟩ := h
    split at h
    · rename_i ad
      split at h
      · simp only [Option.bind_eq_some_iff, Option.some.injEq, Prod.mk.injEq] at h
        obtain ⟨H1, hst, _, _, rfl, rfl⟩ := h
        refine ⟨fun l hl id hid => (by cases hl; exact hid), fun id hid => ⟨x, n, y, .inl rfl, _, hu, ?_⟩⟩
        simp at hid; subst hid; rfl
      · cases h
    · cases h
  case append es b x y =>
    simp only [simpleOp, Option.bind_eq_some_iff] at h
    obtain ⟨sv, hsv, xv, hxv, h⟩ := h
    unfold appendV at h
    split at h
    · rename_i base len cap
      simp only [Option.bind_eq_some_iff] at h
      obtain ⟨n, _, new, _, h⟩ := h
      split at h
      · simp only [Option.some.injEq, Prod.mk.injEq] at h; obtain ⟨_, _, _, rfl⟩ := h; exact hnil rfl
      · split at h
        · cases h
        · split at h
          · split at h
            · simp only [Option.some.injEq, Prod.mk.injEq] at h; obtain ⟨_, _, _, rfl⟩ := h; exact hnil rfl
            · cases h
          · rename_i ad
            simp only [Option.bind_eq_some_iff] at h
            obtain ⟨ob, hob, old, _, h⟩ := h
            have key : M = [ad.block] → t = none → (∀ l, t = some l → ∀ id ∈ M, id ∈ l) ∧ ∀ id ∈ M, ∃ x' y' u, (AOp.append es b x y = .store y' x' u ∨ (∃ b', AOp.append es b x y = .append y' b' x' u) ∨ AOp.append es b x y = .copy y' x' u) ∧ ∃ v, opd e x' = some v ∧ baseOf v = [id] := by
              rintro rfl rfl
              refine ⟨fun l hl => (by cases hl), fun id hid => ⟨x, es, y, .inr (.inl ⟨b, rfl⟩), _, hsv, ?_⟩⟩
              simp at hid; subst hid; rfl
            split at h
            · cases h
            · split at h
              · simp only [Option.bind_eq_some_iff, Option.some.injEq, Prod.mk.injEq] at h
                obtain ⟨H1, hst, _, _, rfl, rfl⟩ := h
                exact key rfl rfl
              · split at h
                · simp only [Option.some.injEq, Prod.mk.injEq] at h; obtain ⟨_, _, _, rfl⟩ := h; exact hnil rfl
                · split at h
                  · simp only [Option.some.injEq, Prod.mk.injEq] at h
                    obtain ⟨_, _, rfl, rfl⟩ := h
                    exact key rfl rfl
                  · cases h
    · cases h
  case copy es x y =>
    simp only [simpleOp, Option.bind_eq_some_iff] at h
    obtain ⟨dv, hdv, _, _, h⟩ := h
    split at h
    · rename_i base dl cap
      simp only [Option.bind_eq_some_iff] at h
      obtain ⟨_, _, _, _, h⟩ := h
      split at h
      · simp only [Option.bind_eq_some_iff, Option.some.injEq, Prod.mk.injEq] at h
        obtain ⟨H1, hst, _, _, rfl, rfl⟩ := h
        refine ⟨fun l hl => (by cases hl), fun id hid => ⟨x, es, y, .inr (.inr rfl), _, hdv, ?_⟩⟩
        simp at hid; subst hid; rfl
      · split at h
        · simp only [Option.some.injEq, Prod.mk.injEq] at h; obtain ⟨_, _, _, rfl⟩ := h; exact hnil rfl
        · cases h
    · cases h

theorem base_rel {ρ : Pl} {v v' : Value} {id : Nat} (h : VRel ρ v v') (hb : baseOf v = [id]) : ρ id ≠ none := by
  cases h with
  | same hs =>
    cases v with
    | pointer a => cases a with
      | none => simp [baseOf] at hb
      | some a => simp [scalarRf] at hs
    | slice a n m => cases a with
      | none => simp [baseOf] at hb
      | some a => simp [scalarRf] at hs
    | _ => simp [baseOf] at hb
  | ptr h1 h2 => simp [baseOf] at hb; subst hb; rw [h1]; simp
  | slice h1 _ _ _ _ _ _ _ => simp [baseOf] at hb; subst hb; rw [h1]; simp
  | func _ _ => simp [baseOf] at hb
  | iface _ => simp [baseOf] at hb
  | agg _ _ => simp [baseOf] at hb
  | tuple _ => simp [baseOf] at hb

theorem simple_pres {ao : AOp} {o : Oper} (hc : compOp P o = some ao) {e : Env} {H H' : List Ob} {v : Value} {t : Option (List Nat)} {M : List Nat} (h : simpleOp H e ao = some (v, H', t, M)) {ρ : Pl} {a : Act} (hop : OpRel ρ e a o.op.operands.toList) : Pres ρ H H' := by
  intro id hid hn
  refine (simple_abs h).log id hid fun hm => ?_
  obtain ⟨x, y, u, hao, w, hw, hb⟩ := (simple_names h).2 id hm
  have hx : x ∈ o.op.operands.toList := by
    rcases hao with rfl | ⟨b, rfl⟩ | rfl
    · cases hop' : o.op <;> simp only [compOp, hop'] at hc <;> first
        | (simp only [Option.map_eq_some_iff, AOp.store.injEq] at hc; obtain ⟨_, _, _, rfl, rfl⟩ := hc; simp [Op.operands]; done)
        | (exfalso; (repeat' (first | (simp at hc; done) | split at hc)) <;> (simp [Option.bind_eq_some_iff] at hc))
    · cases hop' : o.op with
      | call c =>
        simp only [compOp, hop'] at hc
        split at hc
        · simp at hc
        · simp at hc
        · split at hc
          · rename_i s z ts tx h1 h2
            have hs : s = x := by
              split at hc
              · simp only [Option.bind_eq_some_iff] at hc
                obtain ⟨_, _, _, _, hc⟩ := hc
                split at hc <;> simp at hc; exact hc.2.2.1
              · simp only [Option.bind_eq_some_iff] at hc
                obtain ⟨_, _, _, _, hc⟩ := hc
                split at hc <;> simp at hc; exact hc.2.2.1
              · cases hc
            subst hs
            simp only [Op.operands, Call.operands, Array.toList_append, List.mem_append]; right; rw [h1]; simp
          · cases hc
        all_goals (exfalso; (repeat' (first | (simp at hc; done) | split at hc)) <;> (simp [Option.bind_eq_some_iff] at hc))
      | _ => exfalso; simp only [compOp, hop'] at hc; (repeat' (first | (simp at hc; done) | split at hc)) <;> (simp [Option.bind_eq_some_iff] at hc)
    · cases hop' : o.op with
      | call c =>
        simp only [compOp, hop'] at hc
        split at hc
        · simp at hc
        · simp at hc
        · exfalso; (repeat' (first | (simp at hc; done) | split at hc)) <;> (simp [Option.bind_eq_some_iff] at hc)
        · split at hc
          · rename_i d s td ts h1 h2
            have hs : d = x := by
              split at hc
              · simp only [Option.map_eq_some_iff, AOp.copy.injEq] at hc; obtain ⟨_, _, _, h3, _⟩ := hc; exact h3
              · cases hc
            subst hs
            simp only [Op.operands, Call.operands, Array.toList_append, List.mem_append]; right; rw [h1]; simp
          · cases hc
        all_goals (exfalso; (repeat' (first | (simp at hc; done) | split at hc)) <;> (simp [Option.bind_eq_some_iff] at hc))
      | _ => exfalso; simp only [compOp, hop'] at hc; (repeat' (first | (simp at hc; done) | split at hc)) <;> (simp [Option.bind_eq_some_iff] at hc)
  exact base_rel (hop x hx w hw) hb hn

theorem simple_good {ao : AOp} (hs : ao.simple = true) {e : Env} {H H' : List Ob} {v : Value} {t : Option (List Nat)} {M : List Nat} (h : simpleOp H e ao = some (v, H', t, M)) : StepGood P ao e H v H' t M where
  abs := simple_abs h
  ok := fun o hc => (simple_ok hc hs h).oper fun ρ a hx => simple_pres hc h hx
  loc := fun l hl G hG hag => by
    subst hl
    obtain ⟨G', h1, h2⟩ := simple_local h hG hag
    exact ⟨G', h2, simple_abs h1, fun o hc => (simple_ok hc hs h1).oper fun ρ a hx => simple_pres hc h1 hx⟩
  mt := (simple_names h).1
  free := fun hf => simple_free hs hf h
  quiet := fun hf => simple_quiet hs hf h

theorem comp_call {o : Oper} {f : FuncId} {xs : List Operand} {b : Bool} (hc : compOp P o = some (.call f xs b)) : ∃ c, o.op = .call c ∧ c.callee = .value (.func f) ∧ c.args.toList = xs := by
  cases hop : o.op with
  | call c =>
    refine ⟨c, rfl, ?_⟩
    simp only [compOp, hop] at hc
    split at hc
    · rename_i g hcal; simp only [Option.some.injEq, AOp.call.injEq] at hc; obtain ⟨rfl, rfl, _⟩ := hc; exact ⟨hcal, rfl⟩
    · simp at hc
    all_goals (exfalso; (repeat' (first | (simp at hc; done) | split at hc)) <;> (simp [Option.bind_eq_some_iff] at hc))
  | _ => exfalso; simp only [compOp, hop] at hc; (repeat' (first | (simp at hc; done) | split at hc)) <;> (simp [Option.bind_eq_some_iff] at hc)

theorem comp_callv {o : Oper} {f : Operand} {xs : List Operand} (hc : compOp P o = some (.callv f xs)) : ∃ c, o.op = .call c ∧ c.callee = .value f ∧ c.args.toList = xs := by
  cases hop : o.op with
  | call c =>
    refine ⟨c, rfl, ?_⟩
    simp only [compOp, hop] at hc
    split at hc
    · simp at hc
    · rename_i g hcal; simp only [Option.some.injEq, AOp.callv.injEq] at hc; obtain ⟨rfl, rfl⟩ := hc; exact ⟨by assumption, rfl⟩
    all_goals (exfalso; (repeat' (first | (simp at hc; done) | split at hc)) <;> (simp [Option.bind_eq_some_iff] at hc))
  | _ => exfalso; simp only [compOp, hop] at hc; (repeat' (first | (simp at hc; done) | split at hc)) <;> (simp [Option.bind_eq_some_iff] at hc)

theorem operOk_call {o : Oper} {f : FuncId} {xs : List Operand} {b : Bool} (hc : compOp P o = some (.call f xs b)) {e : Env} {args : List Value} (hx : opds e xs = some args) {H H' : List Ob} {v : Value} (h : CallOk P f args H v H') : OperOk P o e H v H' := by
  obtain ⟨c, ho, hcal, hargs⟩ := comp_call hc
  intro ρ a w hop hrel hfree K Q hK
  rw [ho] at hop
  have hl : LRel ρ args (xs.map a.eval) := opds_rel (hop.of_sub fun y hy => by simp only [Op.operands, Call.operands, Array.toList_append, List.mem_append]; right; rw [hargs]; exact hy) hx
  have hr := h ρ (xs.map a.eval) w hl hrel hfree o a K Q hK
  unfold Oper.wp
  have : (execOp a.eval o).run P w = (callFunc f (xs.map a.eval).toArray).run P w := by
    simp only [execOp, ho]
    rw [run_resolve_func (f := f) (xs := c.args) hcal rfl]
    congr 2
    apply Array.toList_inj.1
    rw [Array.toList_map, hargs]
  rw [this]; exact hr

theorem operOk_callv {o : Oper} {f : Operand} {xs : List Operand} (hc : compOp P o = some (.callv f xs)) {e : Env} {g : FuncId} {fi ca : Array Value} {args : List Value} (hf : opd e f = some (.func (.func g) fi ca)) (hx : opds e xs = some args) {H H' : List Ob} {v : Value}
    (h : CallOk P g (fi.toList ++ args ++ ca.toList) H v H') : OperOk P o e H v H' := by
  obtain ⟨c, ho, hcal, hargs⟩ := comp_callv hc
  intro ρ a w hop hrel hfree K Q hK
  rw [ho] at hop
  have hl : LRel ρ args (xs.map a.eval) := opds_rel (hop.of_sub fun y hy => by simp only [Op.operands, Call.operands, Array.toList_append, List.mem_append]; right; rw [hargs]; exact hy) hx
  have hfv : VRel ρ (.func (.func g) fi ca) (a.eval f) := hop f (by simp [Op.operands, Call.operands, hcal]) _ hf
  have hfi : ∃ fi' ca' : List Value, a.eval f = .func (.func g) fi'.toArray ca'.toArray ∧ LRel ρ fi.toList fi' ∧ LRel ρ ca.toList ca' := by
    generalize a.eval f = u at hfv
    cases hfv with
    | same hs =>
      simp only [scalarRf, Bool.and_eq_true, Array.isEmpty_iff] at hs
      obtain ⟨rfl, rfl⟩ := hs
      exact ⟨[], [], rfl, .nil, .nil⟩
    | func p q => exact ⟨_, _, rfl, p, q⟩
  obtain ⟨fi', ca', e1, e2, e3⟩ := hfi
  have hr := h ρ (fi' ++ xs.map a.eval ++ ca') w ((e2.append hl).append e3) hrel hfree o a K Q hK
  unfold Oper.wp
  have : (execOp a.eval o).run P w = (callFunc g (fi' ++ xs.map a.eval ++ ca').toArray).run P w := by
    simp only [execOp, ho, resolve, hcal, e1, Deferred.ofValue, Sem.run_bind, Sem.run_pure, Result.andThen_ok, invoke]
    congr 2
    apply Array.toList_inj.1
    simp [hargs]
  rw [this]; exact hr

end
end Go.Ev

/-
  The evaluator is right: what it answers, the model's call answers, in whatever order.
-/
import Derived.Test.YtaceeoghjgggjaaEvDraw2
import Derived.LoopN
set_option linter.unusedSimpArgs false
set_option linter.unusedVariables false
namespace Go.Ev
open Go.RowKit

def exitOf : AExit → Exit
  | .normal => .normal
  | .exit id => .exit id
  | .ret => .ret

section
variable {P : Program} {T : Tab}

theorem load_run {ρ : Pl} {H : List Ob} {w : World} (hrel : RelF ρ (hp H) w) {ad : Addr} {pl : Place} (e1 : ρ ad.block = some pl) {ob : Ob} (hob : liveAt H ad.block = some ob) {n : Option Nat} {ty : TypeId} (ha : aggT P ty = some n) {u : Value} (hu : partL n ob.cells ad.off = some u) :
    ∃ u', (loadVar ty ⟨pl.block, pl.base + ad.off, none⟩).run P w = .ok u' w ∧ VRel ρ u u' := by
  obtain ⟨hob1, hob2⟩ := liveAt_inv hob
  obtain ⟨_, _, cs, el, fr, g1, g2, g3, g4, _⟩ := hrel.obj _ _ _ hob1 e1 hob2
  obtain ⟨b, hb, hbn, hk⟩ := run_aggT (P := P) (w := w) ha
  cases n with
  | none =>
    simp only [Option.isSome_none] at hbn; subst hbn
    obtain ⟨_, u', g5, g6⟩ := g4 ad.off u hu
    have hc : w.cell? ⟨pl.block, pl.base + ad.off, none⟩ = some u' := by rw [cell_at g1]; exact g5
    exact ⟨u', by simp [loadVar, hb, hc], g6⟩
  | some n =>
    simp only [Option.isSome_some] at hbn; subst hbn
    simp only [partL] at hu
    split at hu
    · rename_i hle
      cases hu
      refine ⟨.agg ((cs.toList.drop (pl.base + ad.off)).take n).toArray, ?_, ?_⟩
      · have := run_loadCells (P := P) (n := n) (off := pl.base + ad.off) g1 (by omega)
        simp only [loadVar, hb, run_sizeT (hk n rfl), this, Sem.run_bind, Result.andThen_ok, Sem.run_pure, Sem.run_ite, if_true]
      · refine .agg (LRel.of_get (by simp; omega) fun i u hi => ?_) fun x hx => ?_
        · simp only [List.getElem?_take, List.getElem?_drop] at hi ⊢
          split at hi
          · rename_i hlt
            obtain ⟨_, u', g5, g6⟩ := g4 _ u hi
            exact ⟨u', by rw [if_pos hlt]; simpa [Nat.add_assoc] using g5, g6⟩
          · cases hi
        · have hx' := List.mem_of_mem_drop (List.mem_of_mem_take hx)
          obtain ⟨i, hi⟩ := List.getElem?_of_mem hx'
          exact (g4 i x hi).1
    · cases hu

theorem env_get {ρ : Pl} {args args' : List Value} (h : LRel ρ args args') : ∀ (k t : Nat) (v : Value), (envOf k args).get t = some v → ∃ v', k ≤ t ∧ args'[t - k]? = some v' ∧ VRel ρ v v' := by
  induction args generalizing args' with
  | nil => intro k t v h; simp [envOf, Env.get] at h
  | cons x args ih =>
    cases h with
    | cons hx hl =>
      intro k t v hv
      simp only [envOf, Env.get] at hv
      split at hv
      · subst_vars; cases hv; exact ⟨_, Nat.le_refl _, by simp, hx⟩
      · rename_i hne
        obtain ⟨v', h1, h2, h3⟩ := ih hl (k + 1) t v hv
        refine ⟨v', by omega, ?_, h3⟩
        rw [show t - k = (t - (k + 1)) + 1 by omega]
        simpa using h2

def resOne (a : Act) (r : ResultVar) : Sem Value :=
  match r with
  | .tmp t => pure (a.tmps.getD t undef)
  | .cell a' t => do loadVar t (← asAddr (a.tmps.getD a' undef))
def resA (P : Program) (r : ResultVar) : Option (Nat × Option (Option Nat)) :=
  match r with
  | .tmp t => some (t, none)
  | .cell a t => (aggT P t).map fun n => (a, some n)

theorem results_run {ρ : Pl} {e : Env} {a : Act} {H : List Ob} {w : World} (henv : EnvRel ρ e a) (hrel : RelF ρ (hp H) w) : ∀ {rs : List ResultVar} {ars : List (Nat × Option (Option Nat))} {vs : List Value},
    rs.mapM (resA P) = some ars → resultOf e H ars = some vs → ∃ vs', (rs.mapM (resOne a)).run P w = .ok vs' w ∧ LRel ρ vs vs'
  | [], ars, vs, h, hr => by
    simp at h; subst h
    simp [resultOf] at hr; subst hr
    exact ⟨[], by simp, .nil⟩
  | r :: rs, ars, vs, h, hr => by
    rw [List.mapM_cons] at h
    simp only [bind, Option.bind_eq_some_iff, pure, Option.some.injEq] at h
    obtain ⟨ar, h1, ars', h2, rfl⟩ := h
    cases r with
    | tmp t =>
      simp only [resA, Option.some.injEq] at h1
      subst h1
      simp only [resultOf, Option.bind_eq_some_iff, Option.some.injEq] at hr
      obtain ⟨v, hv, v2, rfl, vs', hvs, rfl⟩ := hr
      obtain ⟨us, e1, e2⟩ := results_run henv hrel h2 hvs
      obtain ⟨v', e3, e4⟩ := henv t v hv
      have e5 : (resOne a (.tmp t)).run P w = .ok v' w := by simp [resOne, e3]
      refine ⟨v' :: us, ?_, .cons e4 e2⟩
      rw [List.mapM_cons]
      simp only [Sem.run_bind, Sem.run_pure, Result.andThen_ok, e1, e5]
    | cell ad ty =>
      simp only [resA, Option.map_eq_some_iff] at h1
      obtain ⟨n, hn, rfl⟩ := h1
      simp only [resultOf, Option.bind_eq_some_iff] at hr
      obtain ⟨v, hv, u, hu, vs', hvs, hr⟩ := hr
      simp only [Option.some.injEq] at hr
      subst hr
      obtain ⟨us, e1, e2⟩ := results_run henv hrel h2 hvs
      obtain ⟨v', e3, e4⟩ := henv ad v hv
      split at hu
      · rename_i a2
        simp only [Option.bind_eq_some_iff] at hu
        obtain ⟨ob, hob, hu⟩ := hu
        split at hu
        · obtain ⟨pl, e5, e6, rfl⟩ := e4.ptr_inv
          obtain ⟨u', e7, e8⟩ := load_run (P := P) hrel e5 hob hn hu
          have e9 : (resOne a (.cell ad ty)).run P w = .ok u' w := by simp [resOne, e3, asAddr, e7]
          refine ⟨u' :: us, ?_, .cons e8 e2⟩
          rw [List.mapM_cons]
          simp only [Sem.run_bind, Sem.run_pure, Result.andThen_ok, e1, e9]
        · cases hu
      · cases hu

theorem packed_rel {ρ : Pl} {vs vs' : List Value} (h : LRel ρ vs vs') : VRel ρ (packed vs) (packed vs') := by
  cases h with
  | nil => exact .tuple .nil
  | cons a b => cases b with
    | nil => exact a
    | cons c d => exact .tuple (.cons a (.cons c d))

theorem results_packed {a : Act} {w : World} {fn : Func} {vs' : List Value} (h : (fn.results.toList.mapM (resOne a)).run P w = .ok vs' w) : (results fn a.tmps).run P w = .ok (packed vs') w := by
  have h1 : results fn a.tmps = (do
    let vs ← fn.results.mapM (resOne a)
    pure (if h : vs.size = 1 then vs[0] else .tuple vs)) := by
    unfold results
    have : (fun r => match r with
      | ResultVar.tmp t => pure (a.tmps.getD t undef)
      | ResultVar.cell a' t => do loadVar t (← asAddr (a.tmps.getD a' undef)) : ResultVar → Sem Value) = resOne a := by funext r; cases r <;> rfl
    rw [← this]
    rfl
  rw [h1]
  have h2 : fn.results.mapM (resOne a) = List.toArray <$> fn.results.toList.mapM (resOne a) := by
    rw [← List.mapM_toArray]
  rw [h2]
  simp only [Sem.run_bind, Sem.run_map, h, Result.andThen_ok, Sem.run_pure]
  congr 1
  match vs' with
  | [] => rfl
  | [x] => rfl
  | x :: y :: l => simp [packed]

theorem comp_region {n : Nat} {code : Code} {l : List AOper} {prs : List (Nat × Nat)} (h : comp P n code = some (.region l none prs)) : ∃ id ops draw, code = .region id ops draw ∧ compOpers P n ops.toList ops.toList = some l ∧
    (draw = true → backEdges ops.toList = true ∧ slotsOk ops.toList (openPairs (upsOf ops.toList)) = true ∧ prs = memPairs l (openPairs (upsOf ops.toList))) := by
  cases code with
  | region id ops draw =>
    simp only [comp, Option.bind_eq_some_iff] at h
    obtain ⟨l', h1, h⟩ := h
    refine ⟨id, ops, draw, rfl, ?_⟩
    split at h
    · split at h
      · rename_i hb
        simp only [Bool.and_eq_true] at hb
        simp only [Option.some.injEq, ACode.region.injEq] at h
        obtain ⟨rfl, _, rfl⟩ := h
        exact ⟨h1, fun _ => ⟨hb.1, hb.2, rfl⟩⟩
      · cases h
    · rename_i hd
      simp only [Option.some.injEq, ACode.region.injEq] at h
      obtain ⟨rfl, _, rfl⟩ := h
      exact ⟨h1, fun hd' => absurd hd' (by simpa using hd)⟩
  | _ => simp [comp, Option.bind_eq_some_iff] at h

theorem comp_seq {n : Nat} {code : Code} {x y : ACode} (h : comp P n code = some (.seq x y)) : ∃ a b, code = .seq a b ∧ comp P n a = some x ∧ comp P n b = some y := by
  cases code with
  | seq a b =>
    simp only [comp, Option.bind_eq_some_iff, Option.map_eq_some_iff, ACode.seq.injEq] at h
    obtain ⟨x', h1, y', h2, rfl, rfl⟩ := h
    exact ⟨a, b, rfl, h1, h2⟩
  | region id ops draw => simp only [comp, Option.bind_eq_some_iff] at h; obtain ⟨_, _, h⟩ := h; split at h <;> (try split at h) <;> simp at h
  | _ => simp [comp, Option.bind_eq_some_iff] at h

theorem comp_cond {n : Nat} {code : Code} {c : Operand} {x y : ACode} (h : comp P n code = some (.cond c x y)) : ∃ a b, code = .cond c a b ∧ okConst c = true ∧ comp P n a = some x ∧ comp P n b = some y := by
  cases code with
  | cond c' a b =>
    simp only [comp] at h
    split at h
    · simp only [Option.bind_eq_some_iff, Option.map_eq_some_iff, ACode.cond.injEq] at h
      obtain ⟨x', h1, y', h2, rfl, rfl, rfl⟩ := h
      exact ⟨a, b, rfl, by assumption, h1, h2⟩
    · cases h
  | region id ops draw => simp only [comp, Option.bind_eq_some_iff] at h; obtain ⟨_, _, h⟩ := h; split at h <;> (try split at h) <;> simp at h
  | _ => simp [comp, Option.bind_eq_some_iff] at h

theorem comp_block {n id : Nat} {code : Code} {x : ACode} (h : comp P n code = some (.block id x)) : ∃ a, code = .block id a ∧ comp P n a = some x := by
  cases code with
  | block i a =>
    simp only [comp, Option.map_eq_some_iff, ACode.block.injEq] at h
    obtain ⟨x', h1, rfl, rfl⟩ := h
    exact ⟨a, rfl, h1⟩
  | region id ops draw => simp only [comp, Option.bind_eq_some_iff] at h; obtain ⟨_, _, h⟩ := h; split at h <;> (try split at h) <;> simp at h
  | cond c a b => simp only [comp] at h; split at h <;> simp [Option.bind_eq_some_iff] at h
  | _ => simp [comp, Option.bind_eq_some_iff] at h

theorem comp_loop {n : Nat} {code : Code} {x : ACode} (h : comp P n code = some (.loop x)) : ∃ a, code = .loop a ∧ comp P n a = some x := by
  cases code with
  | loop a =>
    simp only [comp, Option.map_eq_some_iff, ACode.loop.injEq] at h
    obtain ⟨x', h1, rfl⟩ := h
    exact ⟨a, rfl, h1⟩
  | region id ops draw => simp only [comp, Option.bind_eq_some_iff] at h; obtain ⟨_, _, h⟩ := h; split at h <;> (try split at h) <;> simp at h
  | cond c a b => simp only [comp] at h; split at h <;> simp [Option.bind_eq_some_iff] at h
  | _ => simp [comp, Option.bind_eq_some_iff] at h

theorem comp_leaf {n : Nat} {code : Code} {x : ACode} (hx : x = .skip ∨ x = .ret ∨ ∃ id, x = .exit id) (h : comp P n code = some x) : (x = .skip → code = .skip) ∧ (x = .ret → code = .ret) ∧ (∀ id, x = .exit id → code = .exit id) := by
  cases code with
  | region id ops draw => simp only [comp, Option.bind_eq_some_iff] at h; obtain ⟨_, _, h⟩ := h; split at h <;> (try split at h) <;> simp at h <;> subst h <;> simp at hx
  | cond c a b => simp only [comp] at h; split at h <;> simp [Option.bind_eq_some_iff] at h; obtain ⟨_, _, _, _, rfl⟩ := h; simp at hx
  | seq a b => simp [comp, Option.bind_eq_some_iff] at h; obtain ⟨_, _, _, _, rfl⟩ := h; simp at hx
  | block i a => simp [comp] at h; obtain ⟨_, _, rfl⟩ := h; simp at hx
  | loop a => simp [comp] at h; obtain ⟨_, _, rfl⟩ := h; simp at hx
  | skip => simp [comp] at h; subst h; simp
  | exit i => simp [comp] at h; subst h; simp
  | ret => simp [comp] at h; subst h; simp
  | _ => simp [comp] at h

/-- A piece of code comes to its end; a loop in so many rounds. -/
def GoodN (P : Program) (N : Nat) (code : Code) (Q : Exit → Act → World → Prop) (a : Act) (w : World) : Prop :=
  match code with
  | .loop b => Code.rounds P b Q N a w
  | c => c.wp P Q a w

theorem GoodN.wp {N : Nat} {code : Code} {Q : Exit → Act → World → Prop} {a : Act} {w : World} (h : GoodN P N code Q a w) : code.wp P Q a w := by
  cases code with
  | loop b => exact wp_loop_rounds N h
  | _ => exact h

def CodeOk (P : Program) (c : ACode) (s : St) (x : AExit) (s' : St) : Prop := ∃ N, ∀ (n : Nat) (code : Code), comp P n code = some c.strip → ∀ (ρ : Pl) (a : Act) (w : World), EnvRel ρ s.env a → a.defers = [] → n ≤ a.tmps.size → RelF ρ (hp s.h) w → Free ρ s.h.length s'.h.length →
  ∀ Q : Exit → Act → World → Prop, (∀ a' w' ρ', CPost ρ s s' a w a' w' ρ' → Q (exitOf x) a' w') → GoodN P N code Q a w

theorem compFun_inv {fn : Func} {af : AFun} (h : compFun P fn = some af.strip) : ∃ code, fn.body = some code ∧ comp P fn.ntmps code = some af.body.strip ∧ fn.results.toList.mapM (resA P) = some af.results := by
  simp only [compFun, Option.bind_eq_some_iff, Option.map_eq_some_iff] at h
  obtain ⟨code, h1, a, h2, rs, h3, h4⟩ := h
  simp only [AFun.strip, AFun.mk.injEq] at h4
  obtain ⟨rfl, rfl⟩ := h4
  refine ⟨code, h1, h2, ?_⟩
  rw [← h3]
  congr 1

theorem cpost_refl {ρ : Pl} {s : St} {a : Act} {w : World} (h1 : EnvRel ρ s.env a) (h2 : a.defers = []) (h3 : RelF ρ (hp s.h) w) : CPost ρ s s a w a w ρ := ⟨h1, h2, rfl, .refl _ _ _, h3, .refl _ _ _ _, fun _ _ _ => rfl⟩

theorem call_sound (hT : TabOk P T) {f : FuncId} {args : List Value} {H : List Ob} {fn : AFun} (hfn : T.fn f = some fn) {x : AExit} {s' : St} (hx : ∀ id, x ≠ .exit id) (hcode : CodeOk P fn.body ⟨envOf 0 args, H, []⟩ x s') {vs : List Value}
    (hres : resultOf s'.env s'.h fn.results = some vs) : CallOk P f args H (packed vs) s'.h := by
  obtain ⟨pf, h1, h2, h3⟩ := hT.fn f fn hfn
  obtain ⟨code, h4, h5, h6⟩ := compFun_inv h2
  obtain ⟨N, hN⟩ := hcode
  intro ρ args' w hl hrel hfree o a K Q hK
  have hcf : (callFunc f args'.toArray).run P w = .ok (.enter f args'.toArray) w := by
    have h3' : ¬ (pf.name = "runtime.NumGoroutine") := by simpa using h3
    simp [callFunc, h1, h3', h4]
  rw [hcf, Oper.upon_enter]
  refine calls_of_wp h1 h4 ?_
  refine (hN pf.ntmps code h5 ρ _ w ?_ rfl ?_ hrel hfree _ fun a' w' ρ' hp => ?_).wp
  · intro t v hv
    obtain ⟨v', g1, g2, g3⟩ := env_get hl 0 t v hv
    refine ⟨v', ?_, g3⟩
    have hlt := (List.getElem?_eq_some_iff.1 g2).1
    rw [Array.getElem?_append_left (by simpa using hlt)]
    simpa using g2
  · simp; omega
  · obtain ⟨vs', g1, g2⟩ := results_run (P := P) hp.env hp.rel h6 hres
    have g3 := results_packed g1
    have hfin : bodyPost P pf (fun | .returned v, w'' => K (a.put o.dst v) w'' | .panicked chain, w'' => Q (.panic chain) a w'' | .outgrown, _ => LetsOut Q) .normal a' w' :=
      ⟨hp.defers, _, g3, hK _ _ ρ' ⟨⟨hp.ext, packed_rel g2, hp.rel, hp.frm⟩, hp.pres⟩⟩
    cases x with
    | normal => exact hfin
    | ret => exact hfin
    | exit id => exact absurd rfl (hx id)

theorem cabs_abs {H : List Ob} {e : Env} {s' : St} (h : CAbs H.length ⟨e, H, []⟩ s') : AbsOk H s'.h s'.log := by
  refine ⟨h.len, h.flags, fun id h1 h2 => h.log id h1 h1 h2, fun id hid => ?_⟩
  rcases h.ids id hid with h1 | h1
  · simp at h1
  · exact h1.1

def M1 (P : Program) (f : Nat) (args : List Value) (H : List Ob) (r : Value × List Ob × List Nat) : Prop := CallOk P f args H r.1 r.2.1 ∧ AbsOk H r.2.1 r.2.2
def M2 (P : Program) (base : Nat) (c : ACode) (s : St) (r : AExit × St) : Prop := CAbs base s r.2 ∧ CodeOk P c s r.1 r.2
def M3 (P : Program) (base : Nat) (aops : List AOper) (s : St) (recs : List Rec) (r : St × List Rec) : Prop := ∃ S R, Trace P base aops s r.1 recs r.2 S R
def M4 (P : Program) (ao : AOp) (e : Env) (H : List Ob) (r : Value × List Ob × Option (List Nat) × List Nat) : Prop := StepGood P ao e H r.1 r.2.1 r.2.2.1 r.2.2.2

theorem good_call_ref {f : FuncId} {xs : List Operand} {e : Env} {args : List Value} {H H' : List Ob} {v : Value} {M : List Nat} (hx : opds e xs = some args) (hc : CallOk P f args H v H') (ha : AbsOk H H' M) : StepGood P (.call f xs false) e H v H' none M :=
  ⟨ha, fun o ho => operOk_call ho hx hc, fun l h => (by cases h), fun l h => (by cases h), fun h => (by simp [AOp.free] at h), fun h => (by simp [AOp.quiet] at h)⟩

theorem good_callv {f : Operand} {xs : List Operand} {e : Env} {g : FuncId} {fi ca : Array Value} {args : List Value} {H H' : List Ob} {v : Value} {M : List Nat} (hf : opd e f = some (.func (.func g) fi ca)) (hx : opds e xs = some args)
    (hc : CallOk P g (fi.toList ++ args ++ ca.toList) H v H') (ha : AbsOk H H' M) : StepGood P (.callv f xs) e H v H' none M :=
  ⟨ha, fun o ho => operOk_callv ho hf hx hc, fun l h => (by cases h), fun l h => (by cases h), fun h => (by simp [AOp.free] at h), fun h => (by simp [AOp.quiet] at h)⟩

theorem good_call_val {f : FuncId} {xs : List Operand} {e : Env} {args : List Value} {H0 H : List Ob} {v : Value} (hx : opds e xs = some args) (hc : CallOk P f args [] v H0) (ha : args.all rf = true) (hv : rf v = true) : StepGood P (.call f xs true) e H v H (some []) [] :=
  ⟨.refl _ _ (by simp), fun o ho => operOk_call ho hx (callOk_byVal hc ha hv H), fun l h G hG _ => ⟨G, ⟨hG, fun id h => by
    rcases h with h | h
    · simp at h
    · rw [List.getElem?_eq_none (by omega), List.getElem?_eq_none h]⟩, .refl _ _ (by simp), fun o ho => operOk_call ho hx (callOk_byVal hc ha hv G)⟩, fun l h id hid => (by simp at hid), fun _ => ⟨rfl, rfl⟩, fun _ => rfl⟩

theorem LRel.of_all {ρ : Pl} : ∀ {l l' : List Value}, LRel ρ l l' → l.all rf = true → l' = l
  | [], _, h, _ => by cases h; rfl
  | _ :: _, _, h, ha => by
    cases h with
    | cons hx hr =>
      simp only [List.all_cons, Bool.and_eq_true] at ha
      rw [hx.of_rf ha.1, LRel.of_all hr ha.2]

theorem good_ext (hT : TabOk P T) {f : FuncId} {args : List Value} {H : List Ob} {v : Value} (hn : T.fn f = none) (he : T.ext f args = some v) (ha : args.all rf = true) : CallOk P f args H v H := by
  obtain ⟨h1, h2⟩ := hT.ext f args v hn he ha
  intro ρ args' w hl hrel hfree o a K Q hK
  have : args' = args := LRel.of_all hl ha
  subst this
  rw [h2 w]
  exact hK v w ρ ⟨⟨.refl _ _ _, h1 ρ, hrel, .refl _ _ _ _⟩, fun _ _ _ => rfl⟩

theorem eval_bool {ρ : Pl} {e : Env} {a : Act} {c : Operand} {b : Bool} (hc : okConst c = true) (henv : EnvRel ρ e a) (h : opd e c = some (.bool b)) : a.eval c = .bool b :=
  (opRel_one hc (fun t _ v hv => henv t v hv) h).bool

theorem sound (hm : P.follows .mixedOrders = true) (hT : TabOk P T) : ∀ (f : Nat) (args : List Value) (H : List Ob) (r : Value × List Ob × List Nat), evFun T f args H = some r → M1 P f args H r := by
  refine evFun.partial_correctness T (M1 P) (M2 P) (M3 P) (M4 P) ?_ ?_ ?_ ?_
  · -- a call
    intro evCode hcode f args H r hr
    split at hr
    · rename_i fn hfn
      simp only [Option.bind_eq_bind, Option.bind_eq_some_iff] at hr
      obtain ⟨⟨x, s'⟩, hx, hr⟩ := hr
      have h2 := hcode _ _ _ _ hx
      dsimp only at hr
      cases x with
      | exit id => cases hr
      | normal =>
        simp only [Option.bind_eq_some_iff, Option.some.injEq] at hr
        obtain ⟨vs, hvs, rfl⟩ := hr
        exact ⟨call_sound hT hfn (fun id h => by cases h) h2.2 hvs, cabs_abs h2.1⟩
      | ret =>
        simp only [Option.bind_eq_some_iff, Option.some.injEq] at hr
        obtain ⟨vs, hvs, rfl⟩ := hr
        exact ⟨call_sound hT hfn (fun id h => by cases h) h2.2 hvs, cabs_abs h2.1⟩
    · rename_i hfn
      split at hr
      · rename_i ha
        simp only [Option.bind_eq_some_iff, Option.some.injEq] at hr
        obtain ⟨v, hv, rfl⟩ := hr
        exact ⟨good_ext hT hfn hv ha, .refl _ _ (by simp)⟩
      · cases hr
  · -- a piece of code
    intro evCode evOps hcode hops base c s r hr
    cases c with
    | skip =>
      simp only [Option.some.injEq] at hr; subst hr
      refine ⟨.refl _ _, 0, fun n code hc ρ a w h1 h2 h3 h4 h5 Q hQ => ?_⟩
      have := (comp_leaf (.inl rfl) hc).1 rfl
      subst this
      exact wp_skip (hQ a w ρ (cpost_refl h1 h2 h4))
    | exit id =>
      simp only [Option.some.injEq] at hr; subst hr
      refine ⟨.refl _ _, 0, fun n code hc ρ a w h1 h2 h3 h4 h5 Q hQ => ?_⟩
      have := (comp_leaf (.inr (.inr ⟨id, rfl⟩)) hc).2.2 id rfl
      subst this
      exact wp_exit (hQ a w ρ (cpost_refl h1 h2 h4))
    | ret =>
      simp only [Option.some.injEq] at hr; subst hr
      refine ⟨.refl _ _, 0, fun n code hc ρ a w h1 h2 h3 h4 h5 Q hQ => ?_⟩
      have := (comp_leaf (.inr (.inl rfl)) hc).2.1 rfl
      subst this
      exact wp_ret (hQ a w ρ (cpost_refl h1 h2 h4))
    | region ops keep pairs =>
      simp only [Option.bind_eq_bind, Option.bind_eq_some_iff] at hr
      obtain ⟨⟨s1, recs⟩, h1, hr⟩ := hr
      dsimp only at hr
      split at hr
      · rename_i hpk
        simp only [Option.some.injEq] at hr; subst hr
        obtain ⟨S, R, ht⟩ := hops _ _ _ _ _ h1
        dsimp only at ht ⊢
        obtain ⟨k1, k2⟩ := after_h s1 keep
        have hcab := ht.cabs (i := 0) (j := ops.length) (Nat.zero_le _) (Nat.le_refl _)
        rw [ht.first, ht.last] at hcab
        refine ⟨⟨by rw [k1]; exact hcab.len, by rw [k1]; exact hcab.flags, by rw [k1, k2]; exact hcab.log, by rw [k2]; exact hcab.sub, by rw [k1, k2]; exact hcab.ids⟩, 0, fun n code hc ρ a w e1 e2 e3 e4 e5 Q hQ => ?_⟩
        obtain ⟨id, cops, draw, rfl, hcp, hdr⟩ := comp_region hc
        rw [k1] at e5
        have hQ' : ∀ a' w' ρ', CPost ρ s s1 a w a' w' ρ' → Q .normal a' w' := fun a' w' ρ' hp => hQ a' w' ρ' ⟨hp.env.after keep, hp.defers, hp.size, by rw [k1]; exact hp.ext, by rw [k1]; exact hp.rel, by rw [k1]; exact hp.frm, by rw [k1]; exact hp.pres⟩
        show (Code.region id cops draw).wp P Q a w
        cases draw with
        | false =>
          refine wp_region ?_
          have hl := (compOpers_get hcp).1
          have : List.range cops.size = List.range' 0 ops.length := by rw [List.range_eq_range']; congr 1; simpa using hl.symm
          rw [this]
          refine seq_ok hcp ht ops.length 0 (by omega) ρ a w (by rw [ht.first]; exact e1) e2 e3 (by rw [ht.first]; exact e4) (by rw [ht.first]; exact e5) fun a' w' ρ' hp => hQ' a' w' ρ' (by rw [ht.first] at hp; exact hp)
        | true =>
          obtain ⟨d1, d2, d3⟩ := hdr rfl
          subst d3
          exact draw_ok hcp ht d2 hpk hm d1 e1 e2 e3 e4 e5 hQ'
      · cases hr
    | seq x y =>
      simp only [Option.bind_eq_bind, Option.bind_eq_some_iff] at hr
      obtain ⟨⟨ex, s1⟩, h1, hr⟩ := hr
      obtain ⟨ca1, N1, hN1⟩ := hcode _ _ _ _ h1
      dsimp only at hr ca1 hN1
      cases ex with
      | normal =>
        obtain ⟨ca2, N2, hN2⟩ := hcode _ _ _ _ hr
        refine ⟨ca1.trans ca2, 0, fun n code hc ρ a w e1 e2 e3 e4 e5 Q hQ => ?_⟩
        obtain ⟨p, q, rfl, hp1, hq1⟩ := comp_seq hc
        refine wp_seq (hN1 n p hp1 ρ a w e1 e2 e3 e4 (fun id i1 i2 => e5 id i1 (Nat.lt_of_lt_of_le i2 ca2.len)) _ fun a1 w1 ρ1 hp => ?_).wp
        show q.wp P Q a1 w1
        exact (hN2 n q hq1 ρ1 a1 w1 hp.env hp.defers (by rw [hp.size]; exact e3) hp.rel (e5.later hp.ext ca1.len) Q fun a2 w2 ρ2 hp2 => hQ a2 w2 ρ2 (hp.trans hp2 ca1 ca2 e5)).wp
      | exit id =>
        simp only [Option.some.injEq] at hr; subst hr
        refine ⟨ca1, 0, fun n code hc ρ a w e1 e2 e3 e4 e5 Q hQ => ?_⟩
        obtain ⟨p, q, rfl, hp1, hq1⟩ := comp_seq hc
        refine wp_seq (hN1 n p hp1 ρ a w e1 e2 e3 e4 e5 _ fun a1 w1 ρ1 hp => ?_).wp
        exact hQ a1 w1 ρ1 hp
      | ret =>
        simp only [Option.some.injEq] at hr; subst hr
        refine ⟨ca1, 0, fun n code hc ρ a w e1 e2 e3 e4 e5 Q hQ => ?_⟩
        obtain ⟨p, q, rfl, hp1, hq1⟩ := comp_seq hc
        refine wp_seq (hN1 n p hp1 ρ a w e1 e2 e3 e4 e5 _ fun a1 w1 ρ1 hp => ?_).wp
        exact hQ a1 w1 ρ1 hp
    | cond c x y =>
      dsimp only at hr
      split at hr
      · rename_i hb
        obtain ⟨ca1, N1, hN1⟩ := hcode _ _ _ _ hr
        refine ⟨ca1, 0, fun n code hc ρ a w e1 e2 e3 e4 e5 Q hQ => ?_⟩
        obtain ⟨p, q, rfl, hok, hp1, hq1⟩ := comp_cond hc
        exact wp_cond_true (eval_bool hok e1 hb) (hN1 n p hp1 ρ a w e1 e2 e3 e4 e5 Q hQ).wp
      · rename_i hb
        obtain ⟨ca1, N1, hN1⟩ := hcode _ _ _ _ hr
        refine ⟨ca1, 0, fun n code hc ρ a w e1 e2 e3 e4 e5 Q hQ => ?_⟩
        obtain ⟨p, q, rfl, hok, hp1, hq1⟩ := comp_cond hc
        exact wp_cond_false (eval_bool hok e1 hb) (hN1 n q hq1 ρ a w e1 e2 e3 e4 e5 Q hQ).wp
      · cases hr
    | block id x =>
      simp only [Option.bind_eq_bind, Option.bind_eq_some_iff] at hr
      obtain ⟨⟨ex, s1⟩, h1, hr⟩ := hr
      obtain ⟨ca1, N1, hN1⟩ := hcode _ _ _ _ h1
      dsimp only at hr ca1 hN1
      cases ex with
      | normal =>
        simp only [Option.some.injEq] at hr; subst hr
        refine ⟨ca1, 0, fun n code hc ρ a w e1 e2 e3 e4 e5 Q hQ => ?_⟩
        obtain ⟨p, rfl, hp1⟩ := comp_block hc
        refine wp_block (hN1 n p hp1 ρ a w e1 e2 e3 e4 e5 _ fun a1 w1 ρ1 hp => ?_).wp
        exact hQ a1 w1 ρ1 hp
      | ret =>
        simp only [Option.some.injEq] at hr; subst hr
        refine ⟨ca1, 0, fun n code hc ρ a w e1 e2 e3 e4 e5 Q hQ => ?_⟩
        obtain ⟨p, rfl, hp1⟩ := comp_block hc
        refine wp_block (hN1 n p hp1 ρ a w e1 e2 e3 e4 e5 _ fun a1 w1 ρ1 hp => ?_).wp
        exact hQ a1 w1 ρ1 hp
      | exit i =>
        dsimp only at hr
        split at hr
        · rename_i hid
          simp only [Option.some.injEq] at hr; subst hr
          refine ⟨ca1, 0, fun n code hc ρ a w e1 e2 e3 e4 e5 Q hQ => ?_⟩
          obtain ⟨p, rfl, hp1⟩ := comp_block hc
          refine wp_block (hN1 n p hp1 ρ a w e1 e2 e3 e4 e5 _ fun a1 w1 ρ1 hp => ?_).wp
          show Exit.inBlock id Q (.exit i) a1 w1
          simp only [Exit.inBlock, if_pos hid]
          exact hQ a1 w1 ρ1 hp
        · rename_i hid
          simp only [Option.some.injEq] at hr; subst hr
          refine ⟨ca1, 0, fun n code hc ρ a w e1 e2 e3 e4 e5 Q hQ => ?_⟩
          obtain ⟨p, rfl, hp1⟩ := comp_block hc
          refine wp_block (hN1 n p hp1 ρ a w e1 e2 e3 e4 e5 _ fun a1 w1 ρ1 hp => ?_).wp
          show Exit.inBlock id Q (.exit i) a1 w1
          simp only [Exit.inBlock, if_neg hid]
          exact hQ a1 w1 ρ1 hp
    | loop x =>
      simp only [Option.bind_eq_bind, Option.bind_eq_some_iff] at hr
      obtain ⟨⟨ex, s1⟩, h1, hr⟩ := hr
      obtain ⟨ca1, N1, hN1⟩ := hcode _ _ _ _ h1
      dsimp only at hr ca1 hN1
      cases ex with
      | normal =>
        obtain ⟨ca2, N2, hN2⟩ := hcode _ _ _ _ hr
        refine ⟨ca1.trans ca2, N2 + 1, fun n code hc ρ a w e1 e2 e3 e4 e5 Q hQ => ?_⟩
        obtain ⟨p, rfl, hp1⟩ := comp_loop hc
        show Code.rounds P p Q (N2 + 1) a w
        rw [rounds_succ]
        refine (hN1 n p hp1 ρ a w e1 e2 e3 e4 (fun id i1 i2 => e5 id i1 (Nat.lt_of_lt_of_le i2 ca2.len)) _ fun a1 w1 ρ1 hp => ?_).wp
        show Code.rounds P p Q N2 a1 w1
        exact hN2 n (.loop p) hc ρ1 a1 w1 hp.env hp.defers (by rw [hp.size]; exact e3) hp.rel (e5.later hp.ext ca1.len) Q fun a2 w2 ρ2 hp2 => hQ a2 w2 ρ2 (hp.trans hp2 ca1 ca2 e5)
      | exit id =>
        simp only [Option.some.injEq] at hr; subst hr
        refine ⟨ca1, 1, fun n code hc ρ a w e1 e2 e3 e4 e5 Q hQ => ?_⟩
        obtain ⟨p, rfl, hp1⟩ := comp_loop hc
        show Code.rounds P p Q (0 + 1) a w
        rw [rounds_succ]
        refine (hN1 n p hp1 ρ a w e1 e2 e3 e4 e5 _ fun a1 w1 ρ1 hp => ?_).wp
        exact hQ a1 w1 ρ1 hp
      | ret =>
        simp only [Option.some.injEq] at hr; subst hr
        refine ⟨ca1, 1, fun n code hc ρ a w e1 e2 e3 e4 e5 Q hQ => ?_⟩
        obtain ⟨p, rfl, hp1⟩ := comp_loop hc
        show Code.rounds P p Q (0 + 1) a w
        rw [rounds_succ]
        refine (hN1 n p hp1 ρ a w e1 e2 e3 e4 e5 _ fun a1 w1 ρ1 hp => ?_).wp
        exact hQ a1 w1 ρ1 hp
  · -- operations
    intro evOps evOper hops hoper base aops s recs r hr
    cases aops with
    | nil => simp only [Option.some.injEq] at hr; subst hr; exact ⟨_, _, .nil⟩
    | cons ao aops =>
      dsimp only at hr
      split at hr
      · rename_i hg
        simp only [Option.bind_eq_bind, Option.bind_eq_some_iff] at hr
        obtain ⟨⟨v, H', t, M⟩, h1, hr⟩ := hr
        obtain ⟨S, R, ht⟩ := hops _ _ _ _ _ hr
        exact ⟨_, _, Trace.cons (.inl ⟨hg, v, H', t, M, hoper _ _ _ _ h1, rfl, rfl⟩) ht⟩
      · rename_i hg
        obtain ⟨S, R, ht⟩ := hops _ _ _ _ _ hr
        exact ⟨_, _, Trace.cons (.inr ⟨hg, rfl, rfl⟩) ht⟩
      · cases hr
  · -- one operation
    intro evFun hfun ao e H r hr
    cases ao with
    | call f xs b =>
      dsimp only at hr
      cases b with
      | true =>
        simp only [if_true] at hr
        split at hr
        · rename_i args hx
          split at hr
          · rename_i ha
            simp only [Option.bind_eq_bind, Option.bind_eq_some_iff] at hr
            obtain ⟨⟨v, H', M⟩, h1, hr⟩ := hr
            dsimp only at hr
            split at hr
            · rename_i hv
              simp only [Option.some.injEq] at hr; subst hr
              exact good_call_val hx (hfun _ _ _ _ h1).1 ha hv
            · cases hr
          · cases hr
        · cases hr
      | false =>
        simp only [Bool.false_eq_true, if_false] at hr
        split at hr
        · rename_i args hx
          simp only [Option.bind_eq_bind, Option.bind_eq_some_iff, Option.some.injEq] at hr
          obtain ⟨⟨v, H', M⟩, h1, rfl⟩ := hr
          exact good_call_ref hx (hfun _ _ _ _ h1).1 (hfun _ _ _ _ h1).2
        · cases hr
    | callv f xs =>
      dsimp only at hr
      split at hr
      · rename_i g fi ca args hf hx
        simp only [Option.bind_eq_bind, Option.bind_eq_some_iff, Option.some.injEq] at hr
        obtain ⟨⟨v, H', M⟩, h1, rfl⟩ := hr
        exact good_callv hf hx (hfun _ _ _ _ h1).1 (hfun _ _ _ _ h1).2
      · cases hr
    | _ => exact simple_good rfl hr

end
end Go.Ev

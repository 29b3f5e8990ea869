/-
  From the evaluator to the calls of the model.
-/
import Derived.Test.YtaceeoghjgggjaaEvSound
import Derived.ProofKit
set_option linter.unusedSimpArgs false
set_option linter.unusedVariables false
namespace Go.Ev
open Go.RowKit Go.WideShapes Go.ChangeShapes
section
variable {P : Program} {T : Tab}

theorem VRel.refl_in {ρ : Pl} {v : Value} (h : rfIn v = true) : VRel ρ v v := by
  rcases rfIn_cases h with h1 | ⟨cs, rfl⟩
  · exact .same h1
  · have h2 : cs.toList.all scalarRf = true := h
    exact VRel.agg (l := cs.toList) (l' := cs.toList) (LRel.same h2) fun v hv => scalarRf_oneCell (List.all_eq_true.1 h2 v hv)

theorem LRel.refl_in {ρ : Pl} : ∀ {l : List Value}, l.all rfIn = true → LRel ρ l l
  | [], _ => .nil
  | _ :: _, h => by
    simp only [List.all_cons, Bool.and_eq_true] at h
    exact .cons (VRel.refl_in h.1) (LRel.refl_in h.2)

theorem calls_value (hm : P.follows .mixedOrders = true) (hT : TabOk P T) {f : Nat} {args : List Value} {v : Value} {H' : List Ob} {M : List Nat} (h : evFun T f args [] = some (v, H', M)) (hn : T.fn f ≠ none) (ha : args.all rfIn = true) (hv : rf v = true) (w : World) :
    Calls P f args.toArray w fun e w' => e = .returned v ∧ Below w.heap.size w w' := by
  have h1 := (sound hm hT f args [] _ h).1
  have h2 := h1 (fun _ => none) args w (LRel.refl_in ha) (rel_empty w) (fun _ _ _ => rfl) { (default : Oper) with dst := some 0 } { tmps := #[undef], defers := [] }
    (fun a w' => ∃ v', a.tmps = #[v'] ∧ v' = v ∧ Below w.heap.size w w') (fun _ _ _ => False) fun v' w' ρ' hp => ⟨v', by simp [Act.put], hp.val.of_rf hv, ⟨hp.frm.os, hp.frm.tape, hp.frm.output, hp.frm.size, fun k hk => hp.frm.blocks k hk fun id ob pl hc => by simp [hp] at hc⟩⟩
  obtain ⟨af, haf⟩ := Option.ne_none_iff_exists'.1 hn
  obtain ⟨pf, g1, g2, g3⟩ := hT.fn f af haf
  obtain ⟨code, g4, g5, g6⟩ := compFun_inv g2
  have hcf : (callFunc f args.toArray).run P w = .ok (.enter f args.toArray) w := by
    have g3' : ¬ (pf.name = "runtime.NumGoroutine") := by simpa using g3
    simp [callFunc, g1, g3', g4]
  rw [hcf, Oper.upon_enter] at h2
  refine h2.mono fun e w' he => ?_
  cases e with
  | returned v1 =>
    obtain ⟨v', k1, k2, k3⟩ := he
    have : v1 = v' := by simpa [Act.put] using k1
    exact ⟨by rw [this, k2], k3⟩
  | panicked c => exact he.elim
  | outgrown => obtain ⟨_, _, hx⟩ := he; exact hx.elim


open Go.RowKit Go.WideShapes Go.ChangeShapes in
theorem post_of_below {H : Type} {enc : TypeId × Value → H} {f : Func} {s : ChangeSpec} {apart fresh handsOn again : Bool} {W W' : World} {args : Array Value} {v : Value} {ds gs : List (DataW H)} {before pa pv : List MemPlace}
    (hW : DataW.Whole enc P f.params.toList s.vars apart W args.toList ds gs before)
    (hres : ∀ (b : Nat) (sp : Nat → Bool) (hd : Bool), DataW.TrodAll enc P W' b sp hd f.resultTypes.toList (v.resultList f.resultTypes.size) (s.fn H (ds ++ gs)).results [])
    (hargs : ∀ sp : Nat → Bool, (∀ p ∈ before, sp p.block = true) → DataW.TrodAll enc P W' 0 sp true f.params.toList args.toList (s.fn H (ds ++ gs)).args pa)
    (hvars : ∀ sp : Nat → Bool, (∀ p ∈ before, sp p.block = true) → DataW.TrodVars enc P W' sp s.vars (s.fn H (ds ++ gs)).vars pv)
    (hps : before = pa ++ pv) (hb : Below W.heap.size W W')
    (hok : ∀ (j : Nat) (t : TypeId) (r : Value), f.resultTypes[j]? = some t → (v.resultList f.resultTypes.size)[j]? = some r → Value.okWide P W' .any 0 t r) :
    s.post enc P f apart fresh handsOn again W args v W' := by
  have hlt : ∀ p ∈ before, p.block < W.heap.size := fun p hp => hW.lt p hp
  have hold : ∀ p ∈ before, (fun b => decide (b < W.heap.size)) p.block = true := fun p hp => by simpa using hlt p hp
  refine ⟨ds, gs, before, [], pa, pv, hW, hres _ _ _, hargs _ hold, hvars _ hold, World.keptBut_mono (fun p hp => ⟨hp, ?_⟩) (hb.frame (· ∈ before)), fun _ => ?_⟩
  · rw [hps, List.mem_append] at hp
    exact Or.inr hp
  · obtain ⟨_, _, _, _, _, hz, hn⟩ := hW
    refine ⟨hok, _, _, ([] ++ pa) ++ pv, ⟨[] ++ pa, pv, trodAll_append (hargs _ (fun _ _ => rfl)) (hres _ _ _), hvars _ (fun _ _ => rfl), rfl, ?_, ?_⟩, ?_⟩
    · intro b off hp
      have hin : MemPlace.cell b off ∈ before := by rw [hps]; simpa using hp
      rw [hb.frozen (hlt _ hin)]
      exact hz b off hin
    · intro ha
      have := hn ha
      rw [hps] at this
      simpa using this
    · intro p hp _
      rw [hps]
      simpa using hp
end
end Go.Ev

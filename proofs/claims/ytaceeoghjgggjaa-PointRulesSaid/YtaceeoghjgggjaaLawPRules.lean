/-
  'pointRules' answers true for every input, and each argument reads behind the call as it read before. No conditions.
-/
import Derived.Test.YtaceeoghjgggjaaEvTab
import Derived.Test.YtaceeoghjgggjaaBunC
import Derived.Test.YtaceeoghjgggjaaPW9
import Derived.Test.YtaceeoghjgggjaaRows
import Derived.ProofKit
set_option linter.unusedSimpArgs false
set_option linter.unusedVariables false
namespace Go.Proofs.Ytaceeoghjgggjaa
open Go.ChangeShapes Go.WideShapes Go.ChangeAt Go.RowKit
theorem pointRules_own : ownKnob Try.prog.godebug = none := by kernel_rfl
theorem pointRules_laid : laidOutB Try.prog = true := by kernel_rfl
theorem pointRules_underK : Try.prog.underlying 23 = some (.array 32 5) := by kernel_rfl
theorem pointRules_cellsK : Try.prog.cellsOf 23 = 32 := by kernel_rfl
theorem pointRules_typesK : Try.prog.cellTypes Try.prog.depth 23 = some (List.replicate 32 5) := by kernel_rfl
def pointRules_zK : Value := .agg (Array.replicate 32 (.int .u8 0))
theorem pointRules_underu8 : Try.prog.underlying 5 = some (.int .u8) := by kernel_rfl
theorem pointRules_underb : Try.prog.underlying 4 = some .bool := by kernel_rfl
set_option maxRecDepth 100000 in
theorem pointRules_lifted (os : Os) (started : os.Started) (H : Type) (enc : TypeId × Value → H) :
    ReturnsInHanded {} Try.checked os 8 .any (Rows.pointRulesSpec.pre6 enc Try.prog Try.f8 Rows.pointRulesRow.domain false) (Rows.pointRulesSpec.post enc Try.prog Try.f8 false true false false) := by
  refine returnsInHanded_of_change (C := Try.checked) pointRules_own started (by kernel_rfl) Try.func8
    (ChangeSpec.witness6 (enc := enc) (C := Try.checked) false ⟨#[], #[pointRules_zK, pointRules_zK, (.int .u8 0)], []⟩ 8 (by kernel_rfl) (by kernel_rfl) (by kernel_rfl) (by kernel_rfl)) ?_
  intro W base args ds gs before hval0 hW hcnd _
  have hval : ∀ (j : Nat) t v, Try.f8.params[j]? = some t → args[j]? = some v → Value.okWide Try.prog W .any base t v := hval0
  have hW' := hW
  obtain ⟨p, q, hA0, hV, rfl, hfz, hnd⟩ := hW
  have hA : DataW.TrodAll enc Try.prog W 0 (fun _ => true) true Try.f8.params.toList args.toList ds p := hA0
  rw [Try.params8] at hA hval
  obtain ⟨v0, v1, v2, d0, d1, d2, p0, p1, p2, hargs, rfl, rfl, h0, h1, h2⟩ := trodAll_three hA
  subst hargs
  obtain ⟨rfl, rfl⟩ := trodVars_none hV
  have h0k := h0
  have h1k := h1
  have h2k := h2
  have hlt : ∀ x ∈ p0 ++ p1 ++ p2, x.block < W.heap.size := fun x hx => by
    have := hW'.lt x
    simpa using this (by simpa using hx)
  obtain ⟨l0, rfl, ll0, lx0⟩ := Go.Ev.open_bytes pointRules_underK pointRules_cellsK pointRules_typesK pointRules_underu8 (by decide) (hval 0 23 v0 rfl rfl)
  obtain ⟨l1, rfl, ll1, lx1⟩ := Go.Ev.open_bytes pointRules_underK pointRules_cellsK pointRules_typesK pointRules_underu8 (by decide) (hval 1 23 v1 rfl rfl)
  obtain ⟨n2, rfl, lx2⟩ := Go.Ev.open_uint pointRules_underu8 rfl (hval 2 5 v2 rfl rfl)
  clear hA0 hval0
  simp only [List.append_nil] at hW'
  obtain ⟨lH, hev⟩ := Go.Ev.Ytaceeoghjgggjaa.prules_ev ll0 lx0 ll1 lx1 lx2
  refine (Go.Ev.calls_value Go.Ev.Ytaceeoghjgggjaa.mixed Go.Ev.Ytaceeoghjgggjaa.tabOk hev (by simp [Go.Ev.Ytaceeoghjgggjaa.T, Go.Ev.Ytaceeoghjgggjaa.fnS]) (by simp [Go.Ev.rfIn_u8s, Go.Ev.rfIn_int]) rfl W).mono fun e W' ⟨he, hb⟩ => ?_
  subst he
  exact ⟨_, rfl, Go.Ev.post_of_below (pa := p0 ++ p1 ++ p2) (pv := []) hW' (fun _ _ _ => trodAll_mk1 (shut_bool pointRules_underb true)) (fun sp hsp => by rw [List.append_assoc]; exact trodAll_mk3 (WideElems.Trod_stays pointRules_laid (by kernel_rfl) (of_decide_eq_true (by kernel_rfl)) h0k (fun x hx => hb.same (hlt x (List.mem_append.2 (.inl (List.mem_append.2 (.inl hx)))))) (fun x hx => hsp x (List.mem_append.2 (.inl (List.mem_append.2 (.inl hx)))))) (WideElems.Trod_stays pointRules_laid (by kernel_rfl) (of_decide_eq_true (by kernel_rfl)) h1k (fun x hx => hb.same (hlt x (List.mem_append.2 (.inl (List.mem_append.2 (.inr hx)))))) (fun x hx => hsp x (List.mem_append.2 (.inl (List.mem_append.2 (.inr hx)))))) (WideElems.Trod_stays pointRules_laid (by kernel_rfl) (of_decide_eq_true (by kernel_rfl)) h2k (fun x hx => hb.same (hlt x (List.mem_append.2 (.inr hx)))) (fun x hx => hsp x (List.mem_append.2 (.inr hx))))) (fun _ _ => rfl) (by simp) hb (ok_one (by kernel_rfl) rfl (okWide_bool_mk pointRules_underb _))⟩

theorem pointRules_holds : Rows.PointRulesSaid :=
  OpenClaim.holds_of_wide 8 Try.f8 rfl rfl rfl rfl rfl rfl rfl ⟨rfl, rfl, rfl, rfl, rfl⟩ rfl rfl rfl rfl rfl (by kernel_rfl) Try.func8 (by kernel_rfl)
    (of_decide_eq_true (by kernel_rfl)) (by unfold Func.isWrapper; first | (rw [if_pos (by decide +kernel)]; kernel_rfl) | (rw [if_neg (by decide +kernel)]; exact ⟨rfl, rfl⟩))
    (fun os started H enc _ => pointRules_lifted os started H enc)
end Go.Proofs.Ytaceeoghjgggjaa

/-
  'pointAdds' answers true for every input, and each argument reads behind the call as it read before. No conditions.
-/
import Derived.Test.YtaceeoghjgggjaaPAd4
import Derived.Test.YtaceeoghjgggjaaRows
import Derived.ProofKit
set_option linter.unusedSimpArgs false
set_option linter.unusedVariables false
namespace Go.Proofs.Ytaceeoghjgggjaa
open Go.ChangeShapes Go.WideShapes Go.ChangeAt Go.RowKit
theorem pointAdds_own : ownKnob Try.prog.godebug = none := by kernel_rfl
theorem pointAdds_laid : laidOutB Try.prog = true := by kernel_rfl
theorem pointAdds_underK : Try.prog.underlying 23 = some (.array 32 5) := by kernel_rfl
theorem pointAdds_cellsK : Try.prog.cellsOf 23 = 32 := by kernel_rfl
theorem pointAdds_typesK : Try.prog.cellTypes Try.prog.depth 23 = some (List.replicate 32 5) := by kernel_rfl
def pointAdds_zK : Value := .agg (Array.replicate 32 (.int .u8 0))
theorem pointAdds_underu8 : Try.prog.underlying 5 = some (.int .u8) := by kernel_rfl
theorem pointAdds_underb : Try.prog.underlying 4 = some .bool := by kernel_rfl
set_option maxRecDepth 100000 in
theorem pointAdds_lifted (os : Os) (started : os.Started) (H : Type) (enc : TypeId × Value → H) :
    ReturnsInHanded {} Try.checked os 11 .any (Rows.pointAddsSpec.pre6 enc Try.prog Try.f11 Rows.pointAddsRow.domain false) (Rows.pointAddsSpec.post enc Try.prog Try.f11 false true false false) := by
  refine returnsInHanded_of_change (C := Try.checked) pointAdds_own started (by kernel_rfl) Try.func11
    (ChangeSpec.witness6 (enc := enc) (C := Try.checked) false ⟨#[], #[pointAdds_zK, pointAdds_zK], []⟩ 8 (by kernel_rfl) (by kernel_rfl) (by kernel_rfl) (by kernel_rfl)) ?_
  intro W base args ds gs before hval0 hW hcnd _
  have hval : ∀ (j : Nat) t v, Try.f11.params[j]? = some t → args[j]? = some v → Value.okWide Try.prog W .any base t v := hval0
  have hW' := hW
  obtain ⟨p, q, hA0, hV, rfl, hfz, hnd⟩ := hW
  have hA : DataW.TrodAll enc Try.prog W 0 (fun _ => true) true Try.f11.params.toList args.toList ds p := hA0
  rw [Try.params11] at hA hval
  obtain ⟨v0, v1, d0, d1, p0, p1, hargs, rfl, rfl, h0, h1⟩ := trodAll_two hA
  subst hargs
  obtain ⟨rfl, rfl⟩ := trodVars_none hV
  have h0k := h0
  have h1k := h1
  have hlt : ∀ x ∈ p0 ++ p1, x.block < W.heap.size := fun x hx => by
    have := hW'.lt x
    simpa using this (by simpa using hx)
  obtain ⟨l0, rfl, ll0, lx0⟩ := Go.Ev.open_bytes pointAdds_underK pointAdds_cellsK pointAdds_typesK pointAdds_underu8 (by decide) (hval 0 23 v0 rfl rfl)
  obtain ⟨l1, rfl, ll1, lx1⟩ := Go.Ev.open_bytes pointAdds_underK pointAdds_cellsK pointAdds_typesK pointAdds_underu8 (by decide) (hval 1 23 v1 rfl rfl)
  clear hA0 hval0
  simp only [List.append_nil] at hW'
  obtain ⟨lH, hev⟩ := Go.Ev.Ytaceeoghjgggjaa.padds_ev ll0 lx0 ll1 lx1
  refine (Go.Ev.calls_value Go.Ev.Ytaceeoghjgggjaa.mixed Go.Ev.Ytaceeoghjgggjaa.tabOk hev (by simp [Go.Ev.Ytaceeoghjgggjaa.T, Go.Ev.Ytaceeoghjgggjaa.fnS]) (by simp [Go.Ev.rfIn_u8s, Go.Ev.rfIn_int]) rfl W).mono fun e W' ⟨he, hb⟩ => ?_
  subst he
  exact ⟨_, rfl, Go.Ev.post_of_below (pa := p0 ++ p1) (pv := []) hW' (fun _ _ _ => trodAll_mk1 (shut_bool pointAdds_underb true)) (fun sp hsp => trodAll_mk2 (WideElems.Trod_stays pointAdds_laid (by kernel_rfl) (of_decide_eq_true (by kernel_rfl)) h0k (fun x hx => hb.same (hlt x (List.mem_append.2 (.inl hx)))) (fun x hx => hsp x (List.mem_append.2 (.inl hx)))) (WideElems.Trod_stays pointAdds_laid (by kernel_rfl) (of_decide_eq_true (by kernel_rfl)) h1k (fun x hx => hb.same (hlt x (List.mem_append.2 (.inr hx)))) (fun x hx => hsp x (List.mem_append.2 (.inr hx))))) (fun _ _ => rfl) (by simp) hb (ok_one (by kernel_rfl) rfl (okWide_bool_mk pointAdds_underb _))⟩

theorem pointAdds_holds : Rows.PointAddsSaid :=
  OpenClaim.holds_of_wide 11 Try.f11 rfl rfl rfl rfl rfl rfl rfl ⟨rfl, rfl, rfl, rfl, rfl⟩ rfl rfl rfl rfl rfl (by kernel_rfl) Try.func11 (by kernel_rfl)
    (of_decide_eq_true (by kernel_rfl)) (by unfold Func.isWrapper; first | (rw [if_pos (by decide +kernel)]; kernel_rfl) | (rw [if_neg (by decide +kernel)]; exact ⟨rfl, rfl⟩))
    (fun os started H enc _ => pointAdds_lifted os started H enc)
end Go.Proofs.Ytaceeoghjgggjaa

/-
  'scalarLeft' answers true for every input, and each argument reads behind the call as it read before. No conditions.
-/
import Derived.Test.YtaceeoghjgggjaaEvTab
import Derived.Test.YtaceeoghjgggjaaBunC
import Derived.Test.YtaceeoghjgggjaaBunE
import Derived.Test.YtaceeoghjgggjaaRows
import Derived.ProofKit
set_option linter.unusedSimpArgs false
set_option linter.unusedVariables false
namespace Go.Proofs.Ytaceeoghjgggjaa
open Go.ChangeShapes Go.WideShapes Go.ChangeAt Go.RowKit
theorem scalarLeft_own : ownKnob Try.prog.godebug = none := by kernel_rfl
theorem scalarLeft_laid : laidOutB Try.prog = true := by kernel_rfl
theorem scalarLeft_underS : Try.prog.underlying 27 = some (.slice 5) := by kernel_rfl
theorem scalarLeft_underi : Try.prog.underlying 3 = some (.int .i64) := by kernel_rfl
theorem scalarLeft_underu8 : Try.prog.underlying 5 = some (.int .u8) := by kernel_rfl
theorem scalarLeft_cellsu8 : Try.prog.cellsOf 5 = 1 := by kernel_rfl
theorem scalarLeft_underb : Try.prog.underlying 4 = some .bool := by kernel_rfl
set_option maxRecDepth 100000 in
theorem scalarLeft_lifted (os : Os) (started : os.Started) (H : Type) (enc : TypeId × Value → H) :
    ReturnsInHanded {} Try.checked os 4 .any (Rows.scalarLeftSpec.pre6 enc Try.prog Try.f4 Rows.scalarLeftRow.domain false) (Rows.scalarLeftSpec.post enc Try.prog Try.f4 false true false false) := by
  refine returnsInHanded_of_change (C := Try.checked) scalarLeft_own started (by kernel_rfl) Try.func4
    (ChangeSpec.witness6 (enc := enc) (C := Try.checked) false ⟨#[], #[.slice none 0 0, .int .i64 0], []⟩ 8 (by kernel_rfl) (by kernel_rfl) (by kernel_rfl) (by kernel_rfl)) ?_
  intro W base args ds gs before hval0 hW hcnd _
  have hval : ∀ (j : Nat) t v, Try.f4.params[j]? = some t → args[j]? = some v → Value.okWide Try.prog W .any base t v := hval0
  have hW' := hW
  obtain ⟨p, q, hA0, hV, rfl, hfz, hnd⟩ := hW
  have hA : DataW.TrodAll enc Try.prog W 0 (fun _ => true) true Try.f4.params.toList args.toList ds p := hA0
  rw [Try.params4] at hA hval
  obtain ⟨v0, v1, d0, d1, p0, p1, hargs, rfl, rfl, h0, h1⟩ := trodAll_two hA
  subst hargs
  obtain ⟨rfl, rfl⟩ := trodVars_none hV
  have h0k := h0
  have h1k := h1
  have hlt : ∀ x ∈ p0 ++ p1, x.block < W.heap.size := fun x hx => by
    have := hW'.lt x
    simpa using this (by simpa using hx)
  obtain ⟨n1, rfl, ln1, lx1⟩ := Go.Ev.open_int scalarLeft_underi (hval 1 3 v1 rfl rfl)
  have hopen := Go.Ev.open_u8s scalarLeft_underS scalarLeft_underu8 scalarLeft_cellsu8 (hval 0 27 v0 rfl rfl) h0
  clear hA0 hval0
  simp only [List.append_nil] at hW'
  rcases hopen with rfl | ⟨a, len, cap, l, rfl, hl⟩
  · obtain ⟨lH, hev⟩ := Go.Ev.Ytaceeoghjgggjaa.left_nil n1 ln1 lx1
    refine (Go.Ev.calls_value Go.Ev.Ytaceeoghjgggjaa.mixed Go.Ev.Ytaceeoghjgggjaa.tabOk hev (by simp [Go.Ev.Ytaceeoghjgggjaa.T, Go.Ev.Ytaceeoghjgggjaa.fnS]) rfl rfl W).mono fun e W' ⟨he, hb⟩ => ?_
    subst he
    exact ⟨_, rfl, (Go.Ev.post_of_below (pa := p0 ++ p1) (pv := []) hW' (fun _ _ _ => trodAll_mk1 (shut_bool scalarLeft_underb true)) (fun sp hsp => trodAll_mk2 (WideElems.Trod_stays scalarLeft_laid (by kernel_rfl) (of_decide_eq_true (by kernel_rfl)) h0k (fun x hx => hb.same (hlt x (List.mem_append.2 (.inl hx)))) (fun x hx => hsp x (List.mem_append.2 (.inl hx)))) (WideElems.Trod_stays scalarLeft_laid (by kernel_rfl) (of_decide_eq_true (by kernel_rfl)) h1k (fun x hx => hb.same (hlt x (List.mem_append.2 (.inr hx)))) (fun x hx => hsp x (List.mem_append.2 (.inr hx))))) (fun _ _ => rfl) (by simp) hb (ok_one (by kernel_rfl) rfl (okWide_bool_mk scalarLeft_underb _)))⟩
  · obtain ⟨pl, g1, g2, g3, g4⟩ := Go.Ev.lies_rel hl
    obtain ⟨lH, hev⟩ := Go.Ev.Ytaceeoghjgggjaa.left_some hl.len hl.lt (Nat.le_trans hl.le hl.max) n1 ln1 lx1
    refine (Go.Ev.calls_rel (ρ := Go.Ev.pl1 pl) (args' := [.slice (some a) len cap, .int .i64 n1]) Go.Ev.Ytaceeoghjgggjaa.mixed Go.Ev.Ytaceeoghjgggjaa.tabOk hev (by simp [Go.Ev.Ytaceeoghjgggjaa.T, Go.Ev.Ytaceeoghjgggjaa.fnS]) rfl (.cons (g4 _ 0 rfl) (.cons (.same rfl) .nil)) (Go.Ev.rel_one g2 g3) Go.Ev.free_one Go.Ev.own_one).mono fun e W' ⟨he, hb⟩ => ?_
    subst he
    exact ⟨_, rfl, (Go.Ev.post_of_below (pa := p0 ++ p1) (pv := []) hW' (fun _ _ _ => trodAll_mk1 (shut_bool scalarLeft_underb true)) (fun sp hsp => trodAll_mk2 (WideElems.Trod_stays scalarLeft_laid (by kernel_rfl) (of_decide_eq_true (by kernel_rfl)) h0k (fun x hx => hb.same (hlt x (List.mem_append.2 (.inl hx)))) (fun x hx => hsp x (List.mem_append.2 (.inl hx)))) (WideElems.Trod_stays scalarLeft_laid (by kernel_rfl) (of_decide_eq_true (by kernel_rfl)) h1k (fun x hx => hb.same (hlt x (List.mem_append.2 (.inr hx)))) (fun x hx => hsp x (List.mem_append.2 (.inr hx))))) (fun _ _ => rfl) (by simp) hb (ok_one (by kernel_rfl) rfl (okWide_bool_mk scalarLeft_underb _)))⟩

theorem scalarLeft_holds : Rows.ScalarLeftSaid :=
  OpenClaim.holds_of_wide 4 Try.f4 rfl rfl rfl rfl rfl rfl rfl ⟨rfl, rfl, rfl, rfl, rfl⟩ rfl rfl rfl rfl rfl (by kernel_rfl) Try.func4 (by kernel_rfl)
    (of_decide_eq_true (by kernel_rfl)) (by unfold Func.isWrapper; first | (rw [if_pos (by decide +kernel)]; kernel_rfl) | (rw [if_neg (by decide +kernel)]; exact ⟨rfl, rfl⟩))
    (fun os started H enc _ => scalarLeft_lifted os started H enc)
end Go.Proofs.Ytaceeoghjgggjaa

/-
  'intagliolaw04.ScalarClamps' answers true for every key, and the key reads behind the call as it read before. No conditions.
-/
import Derived.Test.YtaceeoghjgggjaaEvTab
import Derived.Test.YtaceeoghjgggjaaEvArg
import Derived.Test.YtaceeoghjgggjaaSW10
import Derived.Test.YtaceeoghjgggjaaRows
import Derived.ProofKit
set_option linter.unusedSimpArgs false
set_option linter.unusedVariables false
namespace Go.Proofs.Ytaceeoghjgggjaa
open Go.ChangeShapes Go.WideShapes Go.ChangeAt Go.RowKit

theorem Try.own : ownKnob Try.prog.godebug = none := by kernel_rfl
theorem Try.laidOut : laidOutB Try.prog = true := by kernel_rfl
theorem key_under : Try.prog.underlying 23 = some (.array 32 5) := by kernel_rfl
theorem key_cells : Try.prog.cellsOf 23 = 32 := by kernel_rfl
theorem key_types : Try.prog.cellTypes Try.prog.depth 23 = some (List.replicate 32 5) := by kernel_rfl
theorem u8_under : Try.prog.underlying 5 = some (.int .u8) := by kernel_rfl
theorem bool_under : Try.prog.underlying 4 = some .bool := by kernel_rfl
def key0 : Value := .agg (Array.replicate 32 (.int .u8 0))

theorem all_rfIn (l : List Nat) : Go.Ev.rfIn (.agg (Go.Ev.u8s l).toArray) = true := by
  show (Go.Ev.u8s l).toArray.toList.all Go.Ev.scalarRf = true
  rw [Go.Ev.Ytaceeoghjgggjaa.toList_toArray'']
  simp [Go.Ev.u8s, Go.Ev.scalarRf]

set_option maxRecDepth 100000 in
theorem scalarClamps_lifted (os : Os) (started : os.Started) (H : Type) (enc : TypeId × Value → H) :
    ReturnsInHanded {} Try.checked os 3 .any (Rows.scalarClampsSpec.pre6 enc Try.prog Try.f3 Rows.scalarClampsRow.domain false) (Rows.scalarClampsSpec.post enc Try.prog Try.f3 false true false false) := by
  refine returnsInHanded_of_change (C := Try.checked) Try.own started (by kernel_rfl) Try.func3
    (ChangeSpec.witness6 (enc := enc) (C := Try.checked) false ⟨#[], #[key0], []⟩ 8 (by kernel_rfl) (by kernel_rfl) (by kernel_rfl) (by kernel_rfl)) ?_
  intro W base args ds gs before hval0 hW hcnd _
  have hval : ∀ (j : Nat) t v, Try.f3.params[j]? = some t → args[j]? = some v → Value.okWide Try.prog W .any base t v := hval0
  have hW' := hW
  obtain ⟨p, q, hA0, hV, rfl, hfz, hnd⟩ := hW
  have hA : DataW.TrodAll enc Try.prog W 0 (fun _ => true) true Try.f3.params.toList args.toList ds p := hA0
  rw [Try.params3] at hA hval
  obtain ⟨v0, d0, rfl, rfl, h0⟩ := trodAll_one hA
  obtain ⟨rfl, rfl⟩ := trodVars_none hV
  have h0k := h0
  have hlt : ∀ x ∈ p, x.block < W.heap.size := fun x hx => by
    have := hW'.lt x
    simpa using this (by simpa using hx)
  obtain ⟨l, rfl, ll, lx⟩ := Go.Ev.open_bytes key_under key_cells key_types u8_under (by decide) (hval 0 23 v0 rfl rfl)
  clear hA0 hval0
  simp only [List.append_nil] at hW'
  obtain ⟨lH, hev⟩ := Go.Ev.Ytaceeoghjgggjaa.clamps_ev ll lx
  refine (Go.Ev.calls_value Go.Ev.Ytaceeoghjgggjaa.mixed Go.Ev.Ytaceeoghjgggjaa.tabOk hev (by simp [Go.Ev.Ytaceeoghjgggjaa.T, Go.Ev.Ytaceeoghjgggjaa.fnS]) (by simp [all_rfIn]) rfl W).mono fun e W' ⟨he, hb⟩ => ?_
  subst he
  exact ⟨_, rfl, Go.Ev.post_of_below (pa := p) (pv := []) hW' (fun _ _ _ => trodAll_mk1 (shut_bool bool_under true)) (fun sp hsp => trodAll_mk1 (WideElems.Trod_stays Try.laidOut (by kernel_rfl) (of_decide_eq_true (by kernel_rfl)) h0k (fun x hx => hb.same (hlt x hx)) (fun x hx => hsp x hx))) (fun _ _ => rfl) (by simp) hb (ok_one (by kernel_rfl) rfl (okWide_bool_mk bool_under _))⟩

theorem scalarClamps_holds : Rows.ScalarClampsSaid :=
  OpenClaim.holds_of_wide 3 Try.f3 rfl rfl rfl rfl rfl rfl rfl ⟨rfl, rfl, rfl, rfl, rfl⟩ rfl rfl rfl rfl rfl (by kernel_rfl) Try.func3 (by kernel_rfl)
    (of_decide_eq_true (by kernel_rfl)) (by unfold Func.isWrapper; first | (rw [if_pos (by decide +kernel)]; kernel_rfl) | (rw [if_neg (by decide +kernel)]; exact ⟨rfl, rfl⟩))
    (fun os started H enc _ => scalarClamps_lifted os started H enc)
end Go.Proofs.Ytaceeoghjgggjaa

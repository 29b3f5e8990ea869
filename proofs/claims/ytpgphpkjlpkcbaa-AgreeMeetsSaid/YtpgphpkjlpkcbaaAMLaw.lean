/-
  'agreeMeets' answers true for every input, and each argument reads behind the call as it read before. No conditions.
-/
import Derived.Test.YtpgphpkjlpkcbaaAM5
import Derived.Test.YtpgphpkjlpkcbaaRows
import Derived.ProofKit
open Array renaming replicate → Dr
open List renaming append_assoc → Z1, append_nil → Xj, mem_append → Xg, replicate → Qa
set_option linter.unusedSimpArgs false
set_option linter.unusedVariables false
namespace Go.Proofs.Ytpgphpkjlpkcbaa
open Go.ChangeShapes Go.WideShapes Go.ChangeAt Go.RowKit
theorem agreeMeets_own : ownKnob Try.prog.godebug = none := by kernel_rfl
theorem agreeMeets_laid : laidOutB Try.prog = true := by kernel_rfl
theorem agreeMeets_underK3 : (match Try.prog.underlying 26 with | some (.struct _) | some (.array _ _) => true | _ => false) = true := by kernel_rfl
theorem agreeMeets_cellsK3 : Try.prog.cellsOf 26 = 96 := by kernel_rfl
theorem agreeMeets_typesK3 : Try.prog.cellTypes Try.prog.depth 26 = some (Qa 96 5) := by kernel_rfl
def agreeMeets_zK3 : Value := .agg (Dr 96 (.int .u8 0))
theorem agreeMeets_underP2 : (match Try.prog.underlying 25 with | some (.struct _) | some (.array _ _) => true | _ => false) = true := by kernel_rfl
theorem agreeMeets_cellsP2 : Try.prog.cellsOf 25 = 64 := by kernel_rfl
theorem agreeMeets_typesP2 : Try.prog.cellTypes Try.prog.depth 25 = some (Qa 64 5) := by kernel_rfl
def agreeMeets_zP2 : Value := .agg (Dr 64 (.int .u8 0))
theorem agreeMeets_underu8 : Try.prog.underlying 5 = some (.int .u8) := by kernel_rfl
theorem agreeMeets_underb : Try.prog.underlying 4 = some .bool := by kernel_rfl
set_option maxRecDepth 100000 in
theorem agreeMeets_lifted (os : Os) (started : os.Started) (H : Type) (enc : TypeId × Value → H) :
    ReturnsInHanded {} Try.checked os 3 .any (Rows.agreeMeetsSpec.pre6 enc Try.prog Try.f3 Rows.agreeMeetsRow.domain false) (Rows.agreeMeetsSpec.post enc Try.prog Try.f3 false true false false) := by
  refine returnsInHanded_of_change (C := Try.checked) agreeMeets_own started (by kernel_rfl) Try.func3
    (ChangeSpec.witness6 (enc := enc) (C := Try.checked) false ⟨#[], #[agreeMeets_zP2, agreeMeets_zP2, agreeMeets_zK3], []⟩ 8 (by kernel_rfl) (by kernel_rfl) (by kernel_rfl) (by kernel_rfl)) ?_
  intro W base args ds gs before hval0 hW hcnd _
  have hval : ∀ (j : Nat) t v, Try.f3.params[j]? = some t → args[j]? = some v → Value.okWide Try.prog W .any base t v := hval0
  have hW' := hW
  obtain ⟨p, q, hA0, hV, rfl, hfz, hnd⟩ := hW
  have hA : DataW.TrodAll enc Try.prog W 0 (fun _ => true) true Try.f3.params.toList args.toList ds p := hA0
  rw [Try.params3] at hA hval
  obtain ⟨v0, v1, v2, d0, d1, d2, p0, p1, p2, hargs, rfl, rfl, h0, h1, h2⟩ := trodAll_three hA
  subst hargs
  obtain ⟨rfl, rfl⟩ := trodVars_none hV
  have h0k := h0
  have h1k := h1
  have h2k := h2
  have hlt : ∀ x ∈ p0 ++ p1 ++ p2, x.block < W.heap.size := fun x hx => by
    have := hW'.lt x
    simpa using this (by simpa using hx)
  obtain ⟨l0, rfl, ll0, lx0⟩ := Go.Ev.Qe6 agreeMeets_underP2 agreeMeets_cellsP2 agreeMeets_typesP2 agreeMeets_underu8 (by decide) (hval 0 25 v0 rfl rfl)
  obtain ⟨l1, rfl, ll1, lx1⟩ := Go.Ev.Qe6 agreeMeets_underP2 agreeMeets_cellsP2 agreeMeets_typesP2 agreeMeets_underu8 (by decide) (hval 1 25 v1 rfl rfl)
  obtain ⟨l2, rfl, ll2, lx2⟩ := Go.Ev.Qe6 agreeMeets_underK3 agreeMeets_cellsK3 agreeMeets_typesK3 agreeMeets_underu8 (by decide) (hval 2 26 v2 rfl rfl)
  clear hA0 hval0
  simp only [Xj] at hW'
  obtain ⟨lH, hev⟩ := Go.Ev.Ytpgphpkjlpkcbaa.Qjm ll0 lx0 ll1 lx1 ll2 lx2
  refine (Go.Ev.Qos Go.Ev.Ytpgphpkjlpkcbaa.mixed Go.Ev.Ytpgphpkjlpkcbaa.tabOk hev (by simp [Go.Ev.Ytpgphpkjlpkcbaa.T, Go.Ev.Ytpgphpkjlpkcbaa.fnS]) (by simp [Go.Ev.Qa2, Go.Ev.Qmz]) rfl W).mono fun e W' ⟨he, hb⟩ => ?_
  subst he
  exact ⟨_, rfl, Go.Ev.Qi9 (pa := p0 ++ p1 ++ p2) (pv := []) hW' (fun _ _ _ => trodAll_mk1 (shut_bool agreeMeets_underb true)) (fun sp hsp => by rw [Z1]; exact trodAll_mk3 (WideElems.Trod_stays agreeMeets_laid (by kernel_rfl) (of_decide_eq_true (by kernel_rfl)) h0k (fun x hx => hb.same (hlt x (Xg.2 (.inl (Xg.2 (.inl hx)))))) (fun x hx => hsp x (Xg.2 (.inl (Xg.2 (.inl hx)))))) (WideElems.Trod_stays agreeMeets_laid (by kernel_rfl) (of_decide_eq_true (by kernel_rfl)) h1k (fun x hx => hb.same (hlt x (Xg.2 (.inl (Xg.2 (.inr hx)))))) (fun x hx => hsp x (Xg.2 (.inl (Xg.2 (.inr hx)))))) (WideElems.Trod_stays agreeMeets_laid (by kernel_rfl) (of_decide_eq_true (by kernel_rfl)) h2k (fun x hx => hb.same (hlt x (Xg.2 (.inr hx)))) (fun x hx => hsp x (Xg.2 (.inr hx))))) (fun _ _ => rfl) (by simp) hb (ok_one (by kernel_rfl) rfl (okWide_bool_mk agreeMeets_underb _))⟩

theorem agreeMeets_holds : Rows.AgreeMeetsSaid :=
  OpenClaim.holds_of_wide 3 Try.f3 rfl rfl rfl rfl rfl rfl rfl ⟨rfl, rfl, rfl, rfl, rfl⟩ rfl rfl rfl rfl rfl (by kernel_rfl) Try.func3 (by kernel_rfl)
    (of_decide_eq_true (by kernel_rfl)) (by unfold Func.isWrapper; first | (rw [if_pos (by decide +kernel)]; kernel_rfl) | (rw [if_neg (by decide +kernel)]; exact ⟨rfl, rfl⟩))
    (fun os started H enc _ => agreeMeets_lifted os started H enc)
end Go.Proofs.Ytpgphpkjlpkcbaa

/-
  'agreeTampers' answers true for every input, and each argument reads behind the call as it read before. No conditions.
-/
import Derived.Test.YtpgphpkjlpkcbaaGreatAt6
import Derived.Test.YtpgphpkjlpkcbaaGreatRows
import Derived.ProofKit
open Array renaming replicate → Rp
open List renaming append_assoc → Je, append_nil → Xd, mem_append → J8, replicate → Qa
set_option linter.unusedSimpArgs false
set_option linter.unusedVariables false
namespace Go.Proofs.YtpgphpkjlpkcbaaGreat
open Go.ChangeShapes Go.WideShapes Go.ChangeAt Go.RowKit
theorem agreeTampers_own : ownKnob Tryz.prog.godebug = none := by kernel_rfl
theorem agreeTampers_laid : laidOutB Tryz.prog = true := by kernel_rfl
theorem agreeTampers_underI2 : (match Tryz.prog.underlying 52 with | some (.struct _) | some (.array _ _) => true | _ => false) = true := by kernel_rfl
theorem agreeTampers_cellsI2 : Tryz.prog.cellsOf 52 = 2 := by kernel_rfl
theorem agreeTampers_typesI2 : Tryz.prog.cellTypes Tryz.prog.depth 52 = some (Qa 2 3) := by kernel_rfl
theorem agreeTampers_elI2 : Tryz.prog.underlying 3 = some (.int .i64) := by kernel_rfl
theorem agreeTampers_underK2 : Tryz.prog.underlying 47 = some (.array 2 23) := by kernel_rfl
theorem agreeTampers_cellsK2 : Tryz.prog.cellsOf 47 = 64 := by kernel_rfl
theorem agreeTampers_typesK2 : Tryz.prog.cellTypes Tryz.prog.depth 47 = some (Qa 64 5) := by kernel_rfl
def agreeTampers_zK2 : Value := .agg (Rp 64 (.int .u8 0))
theorem agreeTampers_underP2 : (match Tryz.prog.underlying 25 with | some (.struct _) | some (.array _ _) => true | _ => false) = true := by kernel_rfl
theorem agreeTampers_cellsP2 : Tryz.prog.cellsOf 25 = 64 := by kernel_rfl
theorem agreeTampers_typesP2 : Tryz.prog.cellTypes Tryz.prog.depth 25 = some (Qa 64 5) := by kernel_rfl
def agreeTampers_zP2 : Value := .agg (Rp 64 (.int .u8 0))
theorem agreeTampers_underu8 : Tryz.prog.underlying 5 = some (.int .u8) := by kernel_rfl
theorem agreeTampers_underb : Tryz.prog.underlying 4 = some .bool := by kernel_rfl
set_option maxRecDepth 100000 in
theorem agreeTampers_lifted (os : Os) (started : os.Started) (H : Type) (enc : TypeId × Value → H) :
    ReturnsInHanded {} Tryz.checked os 5 .any (Rows.agreeTampersSpec.pre6 enc Tryz.prog Tryz.f5 Rows.agreeTampersRow.domain false) (Rows.agreeTampersSpec.post enc Tryz.prog Tryz.f5 false true false false) := by
  refine returnsInHanded_of_change (C := Tryz.checked) agreeTampers_own started (by kernel_rfl) Tryz.func5
    (ChangeSpec.witness6 (enc := enc) (C := Tryz.checked) false ⟨#[], #[agreeTampers_zP2, agreeTampers_zK2, (.agg #[.int .i64 0, .int .i64 0])], []⟩ 8 (by kernel_rfl) (by kernel_rfl) (by kernel_rfl) (by kernel_rfl)) ?_
  intro W base args ds gs before hval0 hW hcnd _
  have hval : ∀ (j : Nat) t v, Tryz.f5.params[j]? = some t → args[j]? = some v → Value.okWide Tryz.prog W .any base t v := hval0
  have hW' := hW
  obtain ⟨p, q, hA0, hV, rfl, hfz, hnd⟩ := hW
  have hA : DataW.TrodAll enc Tryz.prog W 0 (fun _ => true) true Tryz.f5.params.toList args.toList ds p := hA0
  rw [Tryz.params5] at hA hval
  obtain ⟨v0, v1, v2, d0, d1, d2, p0, p1, p2, hargs, rfl, rfl, h0, h1, h2⟩ := trodAll_three hA
  subst hargs
  obtain ⟨rfl, rfl⟩ := trodVars_none hV
  have h0k := h0
  have h1k := h1
  have h2k := h2
  have hlt : ∀ x ∈ p0 ++ p1 ++ p2, x.block < W.heap.size := fun x hx => by
    have := hW'.lt x
    simpa using this (by simpa using hx)
  obtain ⟨l0, rfl, ll0, lx0⟩ := Go.Ev.Qz3 agreeTampers_underP2 agreeTampers_cellsP2 agreeTampers_typesP2 agreeTampers_underu8 (by decide) (hval 0 25 v0 rfl rfl)
  obtain ⟨l1, rfl, ll1, lx1⟩ := Go.Ev.Qz2 agreeTampers_underK2 agreeTampers_cellsK2 agreeTampers_typesK2 agreeTampers_underu8 (by decide) (hval 1 47 v1 rfl rfl)
  obtain ⟨l2, rfl, ll2, lx2⟩ := Go.Ev.open_ints agreeTampers_underI2 agreeTampers_cellsI2 agreeTampers_typesI2 agreeTampers_elI2 (hval 2 52 v2 rfl rfl)
  obtain ⟨a2, b2, rfl⟩ := Go.Ev.Q5m (k:=.u8) ll2
  clear hA0 hval0
  simp only [Xd] at hW'
  obtain ⟨lH, hev⟩ := Go.Ev.YtpgphpkjlpkcbaaGreat.Qu7 ll0 lx0 ll1 lx1
  refine (Go.Ev.Qud Go.Ev.YtpgphpkjlpkcbaaGreat.mixed Go.Ev.YtpgphpkjlpkcbaaGreat.tabOk hev (by simp [Go.Ev.YtpgphpkjlpkcbaaGreat.T, Go.Ev.YtpgphpkjlpkcbaaGreat.fnS]) (by simp [Go.Ev.Rr, Go.Ev.Qsg, Go.Ev.Q3n, Go.Ev.Qvn]) rfl W).mono fun e W' ⟨he, hb⟩ => ?_
  subst he
  exact ⟨_, rfl, Go.Ev.Qnx (pa := p0 ++ p1 ++ p2) (pv := []) hW' (fun _ _ _ => trodAll_mk1 (shut_bool agreeTampers_underb true)) (fun sp hsp => by rw [Je]; exact trodAll_mk3 (WideElems.Trod_stays agreeTampers_laid (by kernel_rfl) (of_decide_eq_true (by kernel_rfl)) h0k (fun x hx => hb.same (hlt x (J8.2 (.inl (J8.2 (.inl hx)))))) (fun x hx => hsp x (J8.2 (.inl (J8.2 (.inl hx)))))) (WideElems.Trod_stays agreeTampers_laid (by kernel_rfl) (of_decide_eq_true (by kernel_rfl)) h1k (fun x hx => hb.same (hlt x (J8.2 (.inl (J8.2 (.inr hx)))))) (fun x hx => hsp x (J8.2 (.inl (J8.2 (.inr hx)))))) (WideElems.Trod_stays agreeTampers_laid (by kernel_rfl) (of_decide_eq_true (by kernel_rfl)) h2k (fun x hx => hb.same (hlt x (J8.2 (.inr hx)))) (fun x hx => hsp x (J8.2 (.inr hx))))) (fun _ _ => rfl) (by simp) hb (ok_one (by kernel_rfl) rfl (okWide_bool_mk agreeTampers_underb _))⟩

theorem agreeTampers_holds : Rows.AgreeTampersSaid :=
  OpenClaim.holds_of_wide 5 Tryz.f5 rfl rfl rfl rfl rfl rfl rfl ⟨rfl, rfl, rfl, rfl, rfl⟩ rfl rfl rfl rfl rfl (by kernel_rfl) Tryz.func5 (by kernel_rfl)
    (of_decide_eq_true (by kernel_rfl)) (by unfold Func.isWrapper; first | (rw [if_pos (by decide +kernel)]; kernel_rfl) | (rw [if_neg (by decide +kernel)]; exact ⟨rfl, rfl⟩))
    (fun os started H enc _ => agreeTampers_lifted os started H enc)
end Go.Proofs.YtpgphpkjlpkcbaaGreat

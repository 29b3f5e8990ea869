/-
  'signChecks' answers true for every input, and each argument reads behind the call as it read before. No conditions.
-/
import Derived.Test.YtgacigcbglflkaaGreatSC5
import Derived.Test.YtgacigcbglflkaaGreatRows
import Derived.ProofKit
open Array renaming replicate → De
open List renaming append_assoc → J3, append_nil → Kv, mem_append → Xb, replicate → Qa
set_option linter.unusedSimpArgs false
set_option linter.unusedVariables false
namespace Go.Proofs.YtgacigcbglflkaaGreat
open Go.ChangeShapes Go.WideShapes Go.ChangeAt Go.RowKit
theorem signChecks_own : ownKnob Tryz.prog.godebug = none := by kernel_rfl
theorem signChecks_laid : laidOutB Tryz.prog = true := by kernel_rfl
theorem signChecks_underB : Tryz.prog.underlying 24 = some (.slice 5) := by kernel_rfl
theorem signChecks_cellsu8 : Tryz.prog.cellsOf 5 = 1 := by kernel_rfl
theorem signChecks_bytesu8 : Tryz.prog.bytesOf 5 = 1 := by kernel_rfl
theorem signChecks_underK : Tryz.prog.underlying 23 = some (.array 32 5) := by kernel_rfl
theorem signChecks_cellsK : Tryz.prog.cellsOf 23 = 32 := by kernel_rfl
theorem signChecks_typesK : Tryz.prog.cellTypes Tryz.prog.depth 23 = some (Qa 32 5) := by kernel_rfl
def signChecks_zK : Value := .agg (De 32 (.int .u8 0))
theorem signChecks_underS : Tryz.prog.underlying 27 = some (.array 64 5) := by kernel_rfl
theorem signChecks_cellsS : Tryz.prog.cellsOf 27 = 64 := by kernel_rfl
theorem signChecks_typesS : Tryz.prog.cellTypes Tryz.prog.depth 27 = some (Qa 64 5) := by kernel_rfl
def signChecks_zS : Value := .agg (De 64 (.int .u8 0))
theorem signChecks_underu8 : Tryz.prog.underlying 5 = some (.int .u8) := by kernel_rfl
theorem signChecks_underb : Tryz.prog.underlying 4 = some .bool := by kernel_rfl
set_option maxRecDepth 100000 in
theorem signChecks_lifted (os : Os) (started : os.Started) (H : Type) (enc : TypeId × Value → H) :
    ReturnsInHanded {} Tryz.checked os 4 .any (Rows.signChecksSpec.pre6 enc Tryz.prog Tryz.f4 Rows.signChecksRow.domain false) (Rows.signChecksSpec.post enc Tryz.prog Tryz.f4 false true false false) := by
  refine returnsInHanded_of_change_sized (C := Tryz.checked) signChecks_own started (by kernel_rfl) Tryz.func4
    (ChangeSpec.witness6 (enc := enc) (C := Tryz.checked) false ⟨#[], #[signChecks_zK, signChecks_zS, (.slice none 0 0)], []⟩ 8 (by kernel_rfl) (by kernel_rfl) (by kernel_rfl) (by kernel_rfl)) ?_
  intro W base args ds gs before hval0 hW hcnd hsz _
  have hval : ∀ (j : Nat) t v, Tryz.f4.params[j]? = some t → args[j]? = some v → Value.okWide Tryz.prog W .any base t v := hval0
  have hW' := hW
  obtain ⟨p, q, hA0, hV, rfl, hfz, hnd⟩ := hW
  have hA : DataW.TrodAll enc Tryz.prog W 0 (fun _ => true) true Tryz.f4.params.toList args.toList ds p := hA0
  rw [Tryz.params4] at hA hval
  obtain ⟨v0, v1, v2, d0, d1, d2, p0, p1, p2, hargs, rfl, rfl, h0, h1, h2⟩ := trodAll_three hA
  subst hargs
  obtain ⟨rfl, rfl⟩ := trodVars_none hV
  have h0k := h0
  have h1k := h1
  have h2k := h2
  have hlt : ∀ x ∈ p0 ++ p1 ++ p2, x.block < W.heap.size := fun x hx => by
    have := hW'.lt x
    simpa using this (by simpa using hx)
  obtain ⟨l0, rfl, ll0, lx0⟩ := Go.Ev.Qgs signChecks_underK signChecks_cellsK signChecks_typesK signChecks_underu8 (by decide) (hval 0 23 v0 rfl rfl)
  obtain ⟨l1, rfl, ll1, lx1⟩ := Go.Ev.Qgs signChecks_underS signChecks_cellsS signChecks_typesS signChecks_underu8 (by decide) (hval 1 27 v1 rfl rfl)
  have hmax := fun a len cap hv => Go.Ev.Qus (a := a) (len := len) (cap := cap) hsz (j := 2) (by rw [Tryz.params4]; rfl) rfl signChecks_underB signChecks_bytesu8 h2 hv
  have hopen := Go.Ev.Qv5 signChecks_underB signChecks_underu8 signChecks_cellsu8 (hval 2 24 v2 rfl rfl) h2
  clear hA0 hval0
  simp only [Kv] at hW'
  rcases hopen with rfl | ⟨a, len, cap, l, rfl, hl⟩
  · obtain ⟨lH, hev⟩ := Go.Ev.YtgacigcbglflkaaGreat.Qj2 ll0 lx0 ll1 lx1 Go.Ev.YtgacigcbglflkaaGreat.BH.nil
    refine (Go.Ev.Qnz Go.Ev.YtgacigcbglflkaaGreat.mixed Go.Ev.YtgacigcbglflkaaGreat.Q3g hev (by simp [Go.Ev.YtgacigcbglflkaaGreat.T, Go.Ev.YtgacigcbglflkaaGreat.fnS]) (by simp [Go.Ev.Qml, Go.Ev.Qmm]; first | rfl | skip) rfl W).mono fun e W' ⟨he, hb⟩ => ?_
    subst he
    exact ⟨_, rfl, Go.Ev.Qbe (pa := p0 ++ p1 ++ p2) (pv := []) hW' (fun _ _ _ => trodAll_mk1 (shut_bool signChecks_underb true)) (fun sp hsp => by rw [J3]; exact trodAll_mk3 (WideElems.Trod_stays signChecks_laid (by kernel_rfl) (of_decide_eq_true (by kernel_rfl)) h0k (fun x hx => hb.same (hlt x (Xb.2 (.inl (Xb.2 (.inl hx)))))) (fun x hx => hsp x (Xb.2 (.inl (Xb.2 (.inl hx)))))) (WideElems.Trod_stays signChecks_laid (by kernel_rfl) (of_decide_eq_true (by kernel_rfl)) h1k (fun x hx => hb.same (hlt x (Xb.2 (.inl (Xb.2 (.inr hx)))))) (fun x hx => hsp x (Xb.2 (.inl (Xb.2 (.inr hx)))))) (WideElems.Trod_stays signChecks_laid (by kernel_rfl) (of_decide_eq_true (by kernel_rfl)) h2k (fun x hx => hb.same (hlt x (Xb.2 (.inr hx)))) (fun x hx => hsp x (Xb.2 (.inr hx))))) (fun _ _ => rfl) (by simp) hb (ok_one (by kernel_rfl) rfl (okWide_bool_mk signChecks_underb _))⟩
  · obtain ⟨pl, g1, g2, g3, g4⟩ := Go.Ev.Qwu hl
    obtain ⟨lH, hev⟩ := Go.Ev.YtgacigcbglflkaaGreat.Qj2 ll0 lx0 ll1 lx1 (Go.Ev.YtgacigcbglflkaaGreat.BH.some hl.len hl.lt (hmax a len cap rfl))
    refine (Go.Ev.Qtr (ρ := Go.Ev.pl1 pl) (args' := [.agg (Go.Ev.u8s l0).toArray, .agg (Go.Ev.u8s l1).toArray, .slice (some a) len cap]) Go.Ev.YtgacigcbglflkaaGreat.mixed Go.Ev.YtgacigcbglflkaaGreat.Q3g hev (by simp [Go.Ev.YtgacigcbglflkaaGreat.T, Go.Ev.YtgacigcbglflkaaGreat.fnS]) rfl (.cons (Go.Ev.Qlu _ _) (.cons (Go.Ev.Qlu _ _) (.cons (g4 _ 0 rfl) .nil))) (Go.Ev.Qzp g2 g3) Go.Ev.Qxn Go.Ev.Qz7).mono fun e W' ⟨he, hb⟩ => ?_
    subst he
    exact ⟨_, rfl, Go.Ev.Qbe (pa := p0 ++ p1 ++ p2) (pv := []) hW' (fun _ _ _ => trodAll_mk1 (shut_bool signChecks_underb true)) (fun sp hsp => by rw [J3]; exact trodAll_mk3 (WideElems.Trod_stays signChecks_laid (by kernel_rfl) (of_decide_eq_true (by kernel_rfl)) h0k (fun x hx => hb.same (hlt x (Xb.2 (.inl (Xb.2 (.inl hx)))))) (fun x hx => hsp x (Xb.2 (.inl (Xb.2 (.inl hx)))))) (WideElems.Trod_stays signChecks_laid (by kernel_rfl) (of_decide_eq_true (by kernel_rfl)) h1k (fun x hx => hb.same (hlt x (Xb.2 (.inl (Xb.2 (.inr hx)))))) (fun x hx => hsp x (Xb.2 (.inl (Xb.2 (.inr hx)))))) (WideElems.Trod_stays signChecks_laid (by kernel_rfl) (of_decide_eq_true (by kernel_rfl)) h2k (fun x hx => hb.same (hlt x (Xb.2 (.inr hx)))) (fun x hx => hsp x (Xb.2 (.inr hx))))) (fun _ _ => rfl) (by simp) hb (ok_one (by kernel_rfl) rfl (okWide_bool_mk signChecks_underb _))⟩

theorem signChecks_holds : Rows.SignChecksSaid :=
  OpenClaim.holds_of_wide 4 Tryz.f4 rfl rfl rfl rfl rfl rfl rfl ⟨rfl, rfl, rfl, rfl, rfl⟩ rfl rfl rfl rfl rfl (by kernel_rfl) Tryz.func4 (by kernel_rfl)
    (of_decide_eq_true (by kernel_rfl)) (by unfold Func.isWrapper; first | (rw [if_pos (by decide +kernel)]; kernel_rfl) | (rw [if_neg (by decide +kernel)]; exact ⟨rfl, rfl⟩))
    (fun os started H enc _ => signChecks_lifted os started H enc)
end Go.Proofs.YtgacigcbglflkaaGreat

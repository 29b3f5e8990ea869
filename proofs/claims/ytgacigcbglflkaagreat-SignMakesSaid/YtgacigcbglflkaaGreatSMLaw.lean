/-
  'signMakes' answers true for every input, and each argument reads behind the call as it read before. No conditions.
-/
import Derived.Test.YtgacigcbglflkaaGreatSM5
import Derived.Test.YtgacigcbglflkaaGreatRows
import Derived.ProofKit
open Array renaming replicate → R3
open List renaming append_assoc → J3, append_nil → Kv, mem_append → J0, replicate → Qa
set_option linter.unusedSimpArgs false
set_option linter.unusedVariables false
namespace Go.Proofs.YtgacigcbglflkaaGreat
open Go.ChangeShapes Go.WideShapes Go.ChangeAt Go.RowKit
theorem signMakes_own : ownKnob Tryz.prog.godebug = none := by kernel_rfl
theorem signMakes_laid : laidOutB Tryz.prog = true := by kernel_rfl
theorem signMakes_underB : Tryz.prog.underlying 24 = some (.slice 5) := by kernel_rfl
theorem signMakes_cellsu8 : Tryz.prog.cellsOf 5 = 1 := by kernel_rfl
theorem signMakes_bytesu8 : Tryz.prog.bytesOf 5 = 1 := by kernel_rfl
theorem signMakes_underK : Tryz.prog.underlying 23 = some (.array 32 5) := by kernel_rfl
theorem signMakes_cellsK : Tryz.prog.cellsOf 23 = 32 := by kernel_rfl
theorem signMakes_typesK : Tryz.prog.cellTypes Tryz.prog.depth 23 = some (Qa 32 5) := by kernel_rfl
def signMakes_zK : Value := .agg (R3 32 (.int .u8 0))
theorem signMakes_underi64 : Tryz.prog.underlying 3 = some (.int .i64) := by kernel_rfl
theorem signMakes_underu8 : Tryz.prog.underlying 5 = some (.int .u8) := by kernel_rfl
theorem signMakes_underb : Tryz.prog.underlying 4 = some .bool := by kernel_rfl
set_option maxRecDepth 100000 in
theorem signMakes_lifted (os : Os) (started : os.Started) (H : Type) (enc : TypeId × Value → H) :
    ReturnsInHanded {} Tryz.checked os 3 .any (Rows.signMakesSpec.pre6 enc Tryz.prog Tryz.f3 Rows.signMakesRow.domain false) (Rows.signMakesSpec.post enc Tryz.prog Tryz.f3 false true false false) := by
  refine returnsInHanded_of_change_sized (C := Tryz.checked) signMakes_own started (by kernel_rfl) Tryz.func3
    (ChangeSpec.witness6 (enc := enc) (C := Tryz.checked) false ⟨#[], #[signMakes_zK, (.slice none 0 0), (.int .i64 0)], []⟩ 8 (by kernel_rfl) (by kernel_rfl) (by kernel_rfl) (by kernel_rfl)) ?_
  intro W base args ds gs before hval0 hW hcnd hsz _
  have hval : ∀ (j : Nat) t v, Tryz.f3.params[j]? = some t → args[j]? = some v → Value.okWide Tryz.prog W .any base t v := hval0
  have hW' := hW
  obtain ⟨p, q, hA0, hV, rfl, hfz, hnd⟩ := hW
  have hA : DataW.TrodAll enc Tryz.prog W 0 (fun _ => true) true Tryz.f3.params.toList args.toList ds p := hA0
  rw [Tryz.params3] at hA hval
  obtain ⟨v0, v1, v2, d0, d1, d2, p0, p1, p2, hargs, rfl, rfl, h0, h1, h2⟩ := trodAll_three hA
  subst hargs
  obtain ⟨rfl, rfl⟩ := trodVars_none hV
  have h0k := h0
  have h1k := h1
  have h2k := h2
  have hlt : ∀ x ∈ p0 ++ p1 ++ p2, x.block < W.heap.size := fun x hx => by
    have := hW'.lt x
    simpa using this (by simpa using hx)
  obtain ⟨l0, rfl, ll0, lx0⟩ := Go.Ev.Qps signMakes_underK signMakes_cellsK signMakes_typesK signMakes_underu8 (by decide) (hval 0 23 v0 rfl rfl)
  have hmax := fun a len cap hv => Go.Ev.Qu6 (a := a) (len := len) (cap := cap) hsz (j := 1) (by rw [Tryz.params3]; rfl) rfl signMakes_underB signMakes_bytesu8 h1 hv
  have hopen := Go.Ev.Qwj signMakes_underB signMakes_underu8 signMakes_cellsu8 (hval 1 24 v1 rfl rfl) h1
  obtain ⟨n2, rfl, ln2, lx2⟩ := Go.Ev.open_int signMakes_underi64 (hval 2 3 v2 rfl rfl)
  clear hA0 hval0
  simp only [Kv] at hW'
  rcases hopen with rfl | ⟨a, len, cap, l, rfl, hl⟩
  · obtain ⟨lH, hev⟩ := Go.Ev.YtgacigcbglflkaaGreat.Qnf ll0 lx0 Go.Ev.YtgacigcbglflkaaGreat.BH.nil n2 ln2 lx2
    refine (Go.Ev.Qn6 Go.Ev.YtgacigcbglflkaaGreat.mixed Go.Ev.YtgacigcbglflkaaGreat.Q3y hev (by simp [Go.Ev.YtgacigcbglflkaaGreat.T, Go.Ev.YtgacigcbglflkaaGreat.fnS]) (by simp [Go.Ev.Qmo, Go.Ev.Qmp]; first | rfl | skip) rfl W).mono fun e W' ⟨he, hb⟩ => ?_
    subst he
    exact ⟨_, rfl, Go.Ev.Qbl (pa := p0 ++ p1 ++ p2) (pv := []) hW' (fun _ _ _ => trodAll_mk1 (shut_bool signMakes_underb true)) (fun sp hsp => by rw [J3]; exact trodAll_mk3 (WideElems.Trod_stays signMakes_laid (by kernel_rfl) (of_decide_eq_true (by kernel_rfl)) h0k (fun x hx => hb.same (hlt x (J0.2 (.inl (J0.2 (.inl hx)))))) (fun x hx => hsp x (J0.2 (.inl (J0.2 (.inl hx)))))) (WideElems.Trod_stays signMakes_laid (by kernel_rfl) (of_decide_eq_true (by kernel_rfl)) h1k (fun x hx => hb.same (hlt x (J0.2 (.inl (J0.2 (.inr hx)))))) (fun x hx => hsp x (J0.2 (.inl (J0.2 (.inr hx)))))) (WideElems.Trod_stays signMakes_laid (by kernel_rfl) (of_decide_eq_true (by kernel_rfl)) h2k (fun x hx => hb.same (hlt x (J0.2 (.inr hx)))) (fun x hx => hsp x (J0.2 (.inr hx))))) (fun _ _ => rfl) (by simp) hb (ok_one (by kernel_rfl) rfl (okWide_bool_mk signMakes_underb _))⟩
  · obtain ⟨pl, g1, g2, g3, g4⟩ := Go.Ev.Qxc hl
    obtain ⟨lH, hev⟩ := Go.Ev.YtgacigcbglflkaaGreat.Qnf ll0 lx0 (Go.Ev.YtgacigcbglflkaaGreat.BH.some hl.len hl.lt (hmax a len cap rfl)) n2 ln2 lx2
    refine (Go.Ev.Qt1 (ρ := Go.Ev.pl1 pl) (args' := [.agg (Go.Ev.u8s l0).toArray, .slice (some a) len cap, .int .i64 n2]) Go.Ev.YtgacigcbglflkaaGreat.mixed Go.Ev.YtgacigcbglflkaaGreat.Q3y hev (by simp [Go.Ev.YtgacigcbglflkaaGreat.T, Go.Ev.YtgacigcbglflkaaGreat.fnS]) rfl (.cons (Go.Ev.Quj _ _) (.cons (g4 _ 0 rfl) (.cons (.same rfl) .nil))) (Go.Ev.Qz5 g2 g3) Go.Ev.Qx4 Go.Ev.Q0m).mono fun e W' ⟨he, hb⟩ => ?_
    subst he
    exact ⟨_, rfl, Go.Ev.Qbl (pa := p0 ++ p1 ++ p2) (pv := []) hW' (fun _ _ _ => trodAll_mk1 (shut_bool signMakes_underb true)) (fun sp hsp => by rw [J3]; exact trodAll_mk3 (WideElems.Trod_stays signMakes_laid (by kernel_rfl) (of_decide_eq_true (by kernel_rfl)) h0k (fun x hx => hb.same (hlt x (J0.2 (.inl (J0.2 (.inl hx)))))) (fun x hx => hsp x (J0.2 (.inl (J0.2 (.inl hx)))))) (WideElems.Trod_stays signMakes_laid (by kernel_rfl) (of_decide_eq_true (by kernel_rfl)) h1k (fun x hx => hb.same (hlt x (J0.2 (.inl (J0.2 (.inr hx)))))) (fun x hx => hsp x (J0.2 (.inl (J0.2 (.inr hx)))))) (WideElems.Trod_stays signMakes_laid (by kernel_rfl) (of_decide_eq_true (by kernel_rfl)) h2k (fun x hx => hb.same (hlt x (J0.2 (.inr hx)))) (fun x hx => hsp x (J0.2 (.inr hx))))) (fun _ _ => rfl) (by simp) hb (ok_one (by kernel_rfl) rfl (okWide_bool_mk signMakes_underb _))⟩

theorem signMakes_holds : Rows.SignMakesSaid :=
  OpenClaim.holds_of_wide 3 Tryz.f3 rfl rfl rfl rfl rfl rfl rfl ⟨rfl, rfl, rfl, rfl, rfl⟩ rfl rfl rfl rfl rfl (by kernel_rfl) Tryz.func3 (by kernel_rfl)
    (of_decide_eq_true (by kernel_rfl)) (by unfold Func.isWrapper; first | (rw [if_pos (by decide +kernel)]; kernel_rfl) | (rw [if_neg (by decide +kernel)]; exact ⟨rfl, rfl⟩))
    (fun os started H enc _ => signMakes_lifted os started H enc)
end Go.Proofs.YtgacigcbglflkaaGreat

/-
  'signOther' answers true for every input, and each argument reads behind the call as it read before. No conditions.
-/
import Derived.Test.YtgacigcbglflkaaGreatSO5
import Derived.Test.YtgacigcbglflkaaGreatRows
import Derived.ProofKit
open Array renaming replicate → R7
open List renaming append_assoc → Jx, append_nil → Kw, mem_append → Jb, replicate → Qa
open Nat renaming le_refl → Zj
set_option linter.unusedSimpArgs false
set_option linter.unusedVariables false
namespace Go.Proofs.YtgacigcbglflkaaGreat
open Go.ChangeShapes Go.WideShapes Go.ChangeAt Go.RowKit
theorem signOther_own : ownKnob Tryz.prog.godebug = none := by kernel_rfl
theorem signOther_laid : laidOutB Tryz.prog = true := by kernel_rfl
theorem signOther_underB : Tryz.prog.underlying 24 = some (.slice 5) := by kernel_rfl
theorem signOther_cellsu8 : Tryz.prog.cellsOf 5 = 1 := by kernel_rfl
theorem signOther_bytesu8 : Tryz.prog.bytesOf 5 = 1 := by kernel_rfl
theorem signOther_underK2 : Tryz.prog.underlying 36 = some (.array 2 23) := by kernel_rfl
theorem signOther_cellsK2 : Tryz.prog.cellsOf 36 = 64 := by kernel_rfl
theorem signOther_typesK2 : Tryz.prog.cellTypes Tryz.prog.depth 36 = some (Qa 64 5) := by kernel_rfl
def signOther_zK2 : Value := .agg (R7 64 (.int .u8 0))
theorem signOther_underu8 : Tryz.prog.underlying 5 = some (.int .u8) := by kernel_rfl
theorem signOther_underb : Tryz.prog.underlying 4 = some .bool := by kernel_rfl
set_option maxRecDepth 100000 in
theorem signOther_lifted (os : Os) (started : os.Started) (H : Type) (enc : TypeId × Value → H) :
    ReturnsInHanded {} Tryz.checked os 5 .any (Rows.signOtherSpec.pre6 enc Tryz.prog Tryz.f5 Rows.signOtherRow.domain false) (Rows.signOtherSpec.post enc Tryz.prog Tryz.f5 false true false false) := by
  refine returnsInHanded_of_change_sized (C := Tryz.checked) signOther_own started (by kernel_rfl) Tryz.func5
    (ChangeSpec.witness6 (enc := enc) (C := Tryz.checked) false ⟨#[], #[signOther_zK2, (.slice none 0 0), (.slice none 0 0)], []⟩ 8 (by kernel_rfl) (by kernel_rfl) (by kernel_rfl) (by kernel_rfl)) ?_
  intro W base args ds gs before hval0 hW hcnd hsz _
  have hval : ∀ (j : Nat) t v, Tryz.f5.params[j]? = some t → args[j]? = some v → Value.okWide Tryz.prog W .any base t v := hval0
  have hW' := hW
  obtain ⟨p, q, hA0, hV, rfl, hfz, hnd⟩ := hW
  have hA : DataW.TrodAll enc Tryz.prog W 0 (fun _ => true) true Tryz.f5.params.toList args.toList ds p := hA0
  rw [Tryz.params5] at hA hval
  obtain ⟨v0, v1, v2, d0, d1, d2, p0, p1, p2, hargs, rfl, rfl, h0, h1, h2⟩ := trodAll_three hA
  subst hargs
  obtain ⟨rfl, rfl⟩ := trodVars_none hV
  have h0k := h0
  have h1k := h1
  have h2k := h2
  have hlt : ∀ x ∈ p0 ++ p1 ++ p2, x.block < W.heap.size := fun x hx => by
    have := hW'.lt x
    simpa using this (by simpa using hx)
  obtain ⟨l0, rfl, ll0, lx0⟩ := Go.Ev.Qsy signOther_underK2 signOther_cellsK2 signOther_typesK2 signOther_underu8 (by decide) (hval 0 36 v0 rfl rfl)
  have hmax1 := fun a len cap hv => Go.Ev.Qmn (a := a) (len := len) (cap := cap) hsz (j := 1) (by rw [Tryz.params5]; rfl) rfl signOther_underB signOther_bytesu8 h1 hv
  have hopen1 := Go.Ev.Qm4 signOther_underB signOther_underu8 signOther_cellsu8 (hval 1 24 v1 rfl rfl) h1
  have hmax2 := fun a len cap hv => Go.Ev.Qmn (a := a) (len := len) (cap := cap) hsz (j := 2) (by rw [Tryz.params5]; rfl) rfl signOther_underB signOther_bytesu8 h2 hv
  have hopen2 := Go.Ev.Qm4 signOther_underB signOther_underu8 signOther_cellsu8 (hval 2 24 v2 rfl rfl) h2
  clear hA0 hval0
  simp only [Kw] at hW'
  rcases hopen1 with rfl | ⟨a1, len1, cap1, l1b, rfl, hl1⟩ <;> rcases hopen2 with rfl | ⟨a2, len2, cap2, l2b, rfl, hl2⟩
  · obtain ⟨lH, hev⟩ := Go.Ev.YtgacigcbglflkaaGreat.Qa2 ll0 lx0 (Go.Ev.YtgacigcbglflkaaGreat.Qdk []) (Go.Ev.YtgacigcbglflkaaGreat.Qdk [])
    refine (Go.Ev.Qod Go.Ev.YtgacigcbglflkaaGreat.mixed Go.Ev.YtgacigcbglflkaaGreat.Qq4 hev (by simp [Go.Ev.YtgacigcbglflkaaGreat.T, Go.Ev.YtgacigcbglflkaaGreat.fnS]) (by simp [Go.Ev.Qmw, Go.Ev.Qmx]; first | rfl | skip) rfl W).mono fun e W' ⟨he, hb⟩ => ?_
    subst he
    exact ⟨_, rfl, Go.Ev.Dc (pa := p0 ++ p1 ++ p2) (pv := []) hW' (fun _ _ _ => trodAll_mk1 (shut_bool signOther_underb true)) (fun sp hsp => by rw [Jx]; exact trodAll_mk3 (WideElems.Trod_stays signOther_laid (by kernel_rfl) (of_decide_eq_true (by kernel_rfl)) h0k (fun x hx => hb.same (hlt x (Jb.2 (.inl (Jb.2 (.inl hx)))))) (fun x hx => hsp x (Jb.2 (.inl (Jb.2 (.inl hx)))))) (WideElems.Trod_stays signOther_laid (by kernel_rfl) (of_decide_eq_true (by kernel_rfl)) h1k (fun x hx => hb.same (hlt x (Jb.2 (.inl (Jb.2 (.inr hx)))))) (fun x hx => hsp x (Jb.2 (.inl (Jb.2 (.inr hx)))))) (WideElems.Trod_stays signOther_laid (by kernel_rfl) (of_decide_eq_true (by kernel_rfl)) h2k (fun x hx => hb.same (hlt x (Jb.2 (.inr hx)))) (fun x hx => hsp x (Jb.2 (.inr hx))))) (fun _ _ => rfl) (by simp) hb (ok_one (by kernel_rfl) rfl (okWide_bool_mk signOther_underb _))⟩
  · obtain ⟨pl2, g12, g22, g32, g42⟩ := Go.Ev.Qc8 hl2
    obtain ⟨lH, hev⟩ := Go.Ev.YtgacigcbglflkaaGreat.Qa2 ll0 lx0 (Go.Ev.YtgacigcbglflkaaGreat.Qdk [Go.Ev.ob8 l2b]) (Go.Ev.YtgacigcbglflkaaGreat.Qoi (H0 := [Go.Ev.ob8 l2b]) (id := 0) (w := false) (e := false) (s := 1) rfl (.inr (.inr (Zj 1))) hl2.lt hl2.len (hmax2 a2 len2 cap2 rfl))
    refine (Go.Ev.Qe2 (ρ := Go.Ev.pl1 pl2) (args' := [.agg (Go.Ev.u8s l0).toArray, .slice none 0 0, .slice (some a2) len2 cap2]) Go.Ev.YtgacigcbglflkaaGreat.mixed Go.Ev.YtgacigcbglflkaaGreat.Qq4 hev (by simp [Go.Ev.YtgacigcbglflkaaGreat.T, Go.Ev.YtgacigcbglflkaaGreat.fnS]) rfl (.cons (Go.Ev.Qgc _ _) (.cons (.same rfl) (.cons (g42 _ 0 rfl) .nil))) (Go.Ev.Qre g22 g32) Go.Ev.Qnx Go.Ev.Qrl).mono fun e W' ⟨he, hb⟩ => ?_
    subst he
    exact ⟨_, rfl, Go.Ev.Dc (pa := p0 ++ p1 ++ p2) (pv := []) hW' (fun _ _ _ => trodAll_mk1 (shut_bool signOther_underb true)) (fun sp hsp => by rw [Jx]; exact trodAll_mk3 (WideElems.Trod_stays signOther_laid (by kernel_rfl) (of_decide_eq_true (by kernel_rfl)) h0k (fun x hx => hb.same (hlt x (Jb.2 (.inl (Jb.2 (.inl hx)))))) (fun x hx => hsp x (Jb.2 (.inl (Jb.2 (.inl hx)))))) (WideElems.Trod_stays signOther_laid (by kernel_rfl) (of_decide_eq_true (by kernel_rfl)) h1k (fun x hx => hb.same (hlt x (Jb.2 (.inl (Jb.2 (.inr hx)))))) (fun x hx => hsp x (Jb.2 (.inl (Jb.2 (.inr hx)))))) (WideElems.Trod_stays signOther_laid (by kernel_rfl) (of_decide_eq_true (by kernel_rfl)) h2k (fun x hx => hb.same (hlt x (Jb.2 (.inr hx)))) (fun x hx => hsp x (Jb.2 (.inr hx))))) (fun _ _ => rfl) (by simp) hb (ok_one (by kernel_rfl) rfl (okWide_bool_mk signOther_underb _))⟩
  · obtain ⟨pl1, g11, g21, g31, g41⟩ := Go.Ev.Qc8 hl1
    obtain ⟨lH, hev⟩ := Go.Ev.YtgacigcbglflkaaGreat.Qa2 ll0 lx0 (Go.Ev.YtgacigcbglflkaaGreat.Qoi (H0 := [Go.Ev.ob8 l1b]) (id := 0) (w := false) (e := false) (s := 1) rfl (.inr (.inr (Zj 1))) hl1.lt hl1.len (hmax1 a1 len1 cap1 rfl)) (Go.Ev.YtgacigcbglflkaaGreat.Qdk [Go.Ev.ob8 l1b])
    refine (Go.Ev.Qe2 (ρ := Go.Ev.pl1 pl1) (args' := [.agg (Go.Ev.u8s l0).toArray, .slice (some a1) len1 cap1, .slice none 0 0]) Go.Ev.YtgacigcbglflkaaGreat.mixed Go.Ev.YtgacigcbglflkaaGreat.Qq4 hev (by simp [Go.Ev.YtgacigcbglflkaaGreat.T, Go.Ev.YtgacigcbglflkaaGreat.fnS]) rfl (.cons (Go.Ev.Qgc _ _) (.cons (g41 _ 0 rfl) (.cons (.same rfl) .nil))) (Go.Ev.Qre g21 g31) Go.Ev.Qnx Go.Ev.Qrl).mono fun e W' ⟨he, hb⟩ => ?_
    subst he
    exact ⟨_, rfl, Go.Ev.Dc (pa := p0 ++ p1 ++ p2) (pv := []) hW' (fun _ _ _ => trodAll_mk1 (shut_bool signOther_underb true)) (fun sp hsp => by rw [Jx]; exact trodAll_mk3 (WideElems.Trod_stays signOther_laid (by kernel_rfl) (of_decide_eq_true (by kernel_rfl)) h0k (fun x hx => hb.same (hlt x (Jb.2 (.inl (Jb.2 (.inl hx)))))) (fun x hx => hsp x (Jb.2 (.inl (Jb.2 (.inl hx)))))) (WideElems.Trod_stays signOther_laid (by kernel_rfl) (of_decide_eq_true (by kernel_rfl)) h1k (fun x hx => hb.same (hlt x (Jb.2 (.inl (Jb.2 (.inr hx)))))) (fun x hx => hsp x (Jb.2 (.inl (Jb.2 (.inr hx)))))) (WideElems.Trod_stays signOther_laid (by kernel_rfl) (of_decide_eq_true (by kernel_rfl)) h2k (fun x hx => hb.same (hlt x (Jb.2 (.inr hx)))) (fun x hx => hsp x (Jb.2 (.inr hx))))) (fun _ _ => rfl) (by simp) hb (ok_one (by kernel_rfl) rfl (okWide_bool_mk signOther_underb _))⟩
  · obtain ⟨pl1, g11, g21, g31, g41⟩ := Go.Ev.Qc8 hl1
    obtain ⟨pl2, g12, g22, g32, g42⟩ := Go.Ev.Qc8 hl2
    obtain ⟨lH, hev⟩ := Go.Ev.YtgacigcbglflkaaGreat.Qa2 ll0 lx0 (Go.Ev.YtgacigcbglflkaaGreat.Qoi (H0 := [Go.Ev.ob8 l1b, Go.Ev.ob8 l2b]) (id := 0) (w := false) (e := false) (s := 1) rfl (.inr (.inr (Zj 1))) hl1.lt hl1.len (hmax1 a1 len1 cap1 rfl)) (Go.Ev.YtgacigcbglflkaaGreat.Qoi (H0 := [Go.Ev.ob8 l1b, Go.Ev.ob8 l2b]) (id := 1) (w := false) (e := false) (s := 1) rfl (.inr (.inr (Zj 1))) hl2.lt hl2.len (hmax2 a2 len2 cap2 rfl))
    refine (Go.Ev.Qe2 (ρ := Go.Ev.pl2 pl1 pl2) (args' := [.agg (Go.Ev.u8s l0).toArray, .slice (some a1) len1 cap1, .slice (some a2) len2 cap2]) Go.Ev.YtgacigcbglflkaaGreat.mixed Go.Ev.YtgacigcbglflkaaGreat.Qq4 hev (by simp [Go.Ev.YtgacigcbglflkaaGreat.T, Go.Ev.YtgacigcbglflkaaGreat.fnS]) rfl (.cons (Go.Ev.Qgc _ _) (.cons (g41 _ 0 rfl) (.cons (g42 _ 1 rfl) .nil))) (Go.Ev.Qz2 g21 g31 g22 g32) Go.Ev.Qx0 Go.Ev.Q0k).mono fun e W' ⟨he, hb⟩ => ?_
    subst he
    exact ⟨_, rfl, Go.Ev.Dc (pa := p0 ++ p1 ++ p2) (pv := []) hW' (fun _ _ _ => trodAll_mk1 (shut_bool signOther_underb true)) (fun sp hsp => by rw [Jx]; exact trodAll_mk3 (WideElems.Trod_stays signOther_laid (by kernel_rfl) (of_decide_eq_true (by kernel_rfl)) h0k (fun x hx => hb.same (hlt x (Jb.2 (.inl (Jb.2 (.inl hx)))))) (fun x hx => hsp x (Jb.2 (.inl (Jb.2 (.inl hx)))))) (WideElems.Trod_stays signOther_laid (by kernel_rfl) (of_decide_eq_true (by kernel_rfl)) h1k (fun x hx => hb.same (hlt x (Jb.2 (.inl (Jb.2 (.inr hx)))))) (fun x hx => hsp x (Jb.2 (.inl (Jb.2 (.inr hx)))))) (WideElems.Trod_stays signOther_laid (by kernel_rfl) (of_decide_eq_true (by kernel_rfl)) h2k (fun x hx => hb.same (hlt x (Jb.2 (.inr hx)))) (fun x hx => hsp x (Jb.2 (.inr hx))))) (fun _ _ => rfl) (by simp) hb (ok_one (by kernel_rfl) rfl (okWide_bool_mk signOther_underb _))⟩

theorem signOther_holds : Rows.SignOtherSaid :=
  OpenClaim.holds_of_wide 5 Tryz.f5 rfl rfl rfl rfl rfl rfl rfl ⟨rfl, rfl, rfl, rfl, rfl⟩ rfl rfl rfl rfl rfl (by kernel_rfl) Tryz.func5 (by kernel_rfl)
    (of_decide_eq_true (by kernel_rfl)) (by unfold Func.isWrapper; first | (rw [if_pos (by decide +kernel)]; kernel_rfl) | (rw [if_neg (by decide +kernel)]; exact ⟨rfl, rfl⟩))
    (fun os started H enc _ => signOther_lifted os started H enc)
end Go.Proofs.YtgacigcbglflkaaGreat

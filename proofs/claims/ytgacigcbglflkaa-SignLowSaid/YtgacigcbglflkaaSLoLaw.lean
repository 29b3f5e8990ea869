/-
  'signLow' answers true for every input, and each argument reads behind the call as it read before. No conditions.
-/
import Derived.Test.YtgacigcbglflkaaSLo6
import Derived.Test.YtgacigcbglflkaaRows
import Derived.ProofKit
set_option linter.unusedSimpArgs false
set_option linter.unusedVariables false
namespace Go.Proofs.Ytgacigcbglflkaa
open Go.ChangeShapes Go.WideShapes Go.ChangeAt Go.RowKit
theorem signLow_own : ownKnob Try.prog.godebug = none := by kernel_rfl
theorem signLow_laid : laidOutB Try.prog = true := by kernel_rfl
theorem signLow_underB : Try.prog.underlying 24 = some (.slice 5) := by kernel_rfl
theorem signLow_cellsu8 : Try.prog.cellsOf 5 = 1 := by kernel_rfl
theorem signLow_bytesu8 : Try.prog.bytesOf 5 = 1 := by kernel_rfl
theorem signLow_underS : Try.prog.underlying 27 = some (.array 64 5) := by kernel_rfl
theorem signLow_cellsS : Try.prog.cellsOf 27 = 64 := by kernel_rfl
theorem signLow_typesS : Try.prog.cellTypes Try.prog.depth 27 = some (List.replicate 64 5) := by kernel_rfl
def signLow_zS : Value := .agg (Array.replicate 64 (.int .u8 0))
theorem signLow_underi64 : Try.prog.underlying 3 = some (.int .i64) := by kernel_rfl
theorem signLow_underu8 : Try.prog.underlying 5 = some (.int .u8) := by kernel_rfl
theorem signLow_underb : Try.prog.underlying 4 = some .bool := by kernel_rfl
set_option maxRecDepth 100000 in
theorem signLow_lifted (os : Os) (started : os.Started) (H : Type) (enc : TypeId × Value → H) :
    ReturnsInHanded {} Try.checked os 5 .any (Rows.signLowSpec.pre6 enc Try.prog Try.f5 Rows.signLowRow.domain false) (Rows.signLowSpec.post enc Try.prog Try.f5 false true false false) := by
  refine returnsInHanded_of_change_sized (C := Try.checked) signLow_own started (by kernel_rfl) Try.func5
    (ChangeSpec.witness6 (enc := enc) (C := Try.checked) false ⟨#[], #[(.int .i64 0), signLow_zS, (.slice none 0 0)], []⟩ 8 (by kernel_rfl) (by kernel_rfl) (by kernel_rfl) (by kernel_rfl)) ?_
  intro W base args ds gs before hval0 hW hcnd hsz _
  have hval : ∀ (j : Nat) t v, Try.f5.params[j]? = some t → args[j]? = some v → Value.okWide Try.prog W .any base t v := hval0
  have hW' := hW
  obtain ⟨p, q, hA0, hV, rfl, hfz, hnd⟩ := hW
  have hA : DataW.TrodAll enc Try.prog W 0 (fun _ => true) true Try.f5.params.toList args.toList ds p := hA0
  rw [Try.params5] at hA hval
  obtain ⟨v0, v1, v2, d0, d1, d2, p0, p1, p2, hargs, rfl, rfl, h0, h1, h2⟩ := trodAll_three hA
  subst hargs
  obtain ⟨rfl, rfl⟩ := trodVars_none hV
  have h0k := h0
  have h1k := h1
  have h2k := h2
  have hlt : ∀ x ∈ p0 ++ p1 ++ p2, x.block < W.heap.size := fun x hx => by
    have := hW'.lt x
    simpa using this (by simpa using hx)
  obtain ⟨n0, rfl, ln0, lx0⟩ := Go.Ev.open_int signLow_underi64 (hval 0 3 v0 rfl rfl)
  obtain ⟨l1, rfl, ll1, lx1⟩ := Go.Ev.open_bytes signLow_underS signLow_cellsS signLow_typesS signLow_underu8 (by decide) (hval 1 27 v1 rfl rfl)
  have hmax := fun a len cap hv => Go.Ev.slice_le (a := a) (len := len) (cap := cap) hsz (j := 2) (by rw [Try.params5]; rfl) rfl signLow_underB signLow_bytesu8 h2 hv
  have hopen := Go.Ev.open_u8s signLow_underB signLow_underu8 signLow_cellsu8 (hval 2 24 v2 rfl rfl) h2
  clear hA0 hval0
  simp only [List.append_nil] at hW'
  rcases hopen with rfl | ⟨a, len, cap, l, rfl, hl⟩
  · obtain ⟨lH, hev⟩ := Go.Ev.Ytgacigcbglflkaa.lows_ev n0 ln0 lx0 ll1 lx1 Go.Ev.Ytgacigcbglflkaa.BA.nil
    refine (Go.Ev.calls_value Go.Ev.Ytgacigcbglflkaa.mixed Go.Ev.Ytgacigcbglflkaa.tabOk hev (by simp [Go.Ev.Ytgacigcbglflkaa.T, Go.Ev.Ytgacigcbglflkaa.fnS]) (by simp [Go.Ev.rfIn_u8s, Go.Ev.rfIn_int]; first | rfl | skip) rfl W).mono fun e W' ⟨he, hb⟩ => ?_
    subst he
    exact ⟨_, rfl, Go.Ev.post_of_below (pa := p0 ++ p1 ++ p2) (pv := []) hW' (fun _ _ _ => trodAll_mk1 (shut_bool signLow_underb true)) (fun sp hsp => by rw [List.append_assoc]; exact trodAll_mk3 (WideElems.Trod_stays signLow_laid (by kernel_rfl) (of_decide_eq_true (by kernel_rfl)) h0k (fun x hx => hb.same (hlt x (List.mem_append.2 (.inl (List.mem_append.2 (.inl hx)))))) (fun x hx => hsp x (List.mem_append.2 (.inl (List.mem_append.2 (.inl hx)))))) (WideElems.Trod_stays signLow_laid (by kernel_rfl) (of_decide_eq_true (by kernel_rfl)) h1k (fun x hx => hb.same (hlt x (List.mem_append.2 (.inl (List.mem_append.2 (.inr hx)))))) (fun x hx => hsp x (List.mem_append.2 (.inl (List.mem_append.2 (.inr hx)))))) (WideElems.Trod_stays signLow_laid (by kernel_rfl) (of_decide_eq_true (by kernel_rfl)) h2k (fun x hx => hb.same (hlt x (List.mem_append.2 (.inr hx)))) (fun x hx => hsp x (List.mem_append.2 (.inr hx))))) (fun _ _ => rfl) (by simp) hb (ok_one (by kernel_rfl) rfl (okWide_bool_mk signLow_underb _))⟩
  · obtain ⟨pl, g1, g2, g3, g4⟩ := Go.Ev.lies_rel hl
    obtain ⟨lH, hev⟩ := Go.Ev.Ytgacigcbglflkaa.lows_ev n0 ln0 lx0 ll1 lx1 (Go.Ev.Ytgacigcbglflkaa.BA.some hl.len hl.lt (hmax a len cap rfl))
    refine (Go.Ev.calls_rel (ρ := Go.Ev.pl1 pl) (args' := [.int .i64 n0, .agg (Go.Ev.u8s l1).toArray, .slice (some a) len cap]) Go.Ev.Ytgacigcbglflkaa.mixed Go.Ev.Ytgacigcbglflkaa.tabOk hev (by simp [Go.Ev.Ytgacigcbglflkaa.T, Go.Ev.Ytgacigcbglflkaa.fnS]) rfl (.cons (.same rfl) (.cons (Go.Ev.vrel_u8s _ _) (.cons (g4 _ 0 rfl) .nil))) (Go.Ev.rel_one g2 g3) Go.Ev.free_one Go.Ev.own_one).mono fun e W' ⟨he, hb⟩ => ?_
    subst he
    exact ⟨_, rfl, Go.Ev.post_of_below (pa := p0 ++ p1 ++ p2) (pv := []) hW' (fun _ _ _ => trodAll_mk1 (shut_bool signLow_underb true)) (fun sp hsp => by rw [List.append_assoc]; exact trodAll_mk3 (WideElems.Trod_stays signLow_laid (by kernel_rfl) (of_decide_eq_true (by kernel_rfl)) h0k (fun x hx => hb.same (hlt x (List.mem_append.2 (.inl (List.mem_append.2 (.inl hx)))))) (fun x hx => hsp x (List.mem_append.2 (.inl (List.mem_append.2 (.inl hx)))))) (WideElems.Trod_stays signLow_laid (by kernel_rfl) (of_decide_eq_true (by kernel_rfl)) h1k (fun x hx => hb.same (hlt x (List.mem_append.2 (.inl (List.mem_append.2 (.inr hx)))))) (fun x hx => hsp x (List.mem_append.2 (.inl (List.mem_append.2 (.inr hx)))))) (WideElems.Trod_stays signLow_laid (by kernel_rfl) (of_decide_eq_true (by kernel_rfl)) h2k (fun x hx => hb.same (hlt x (List.mem_append.2 (.inr hx)))) (fun x hx => hsp x (List.mem_append.2 (.inr hx))))) (fun _ _ => rfl) (by simp) hb (ok_one (by kernel_rfl) rfl (okWide_bool_mk signLow_underb _))⟩

theorem signLow_holds : Rows.SignLowSaid :=
  OpenClaim.holds_of_wide 5 Try.f5 rfl rfl rfl rfl rfl rfl rfl ⟨rfl, rfl, rfl, rfl, rfl⟩ rfl rfl rfl rfl rfl (by kernel_rfl) Try.func5 (by kernel_rfl)
    (of_decide_eq_true (by kernel_rfl)) (by unfold Func.isWrapper; first | (rw [if_pos (by decide +kernel)]; kernel_rfl) | (rw [if_neg (by decide +kernel)]; exact ⟨rfl, rfl⟩))
    (fun os started H enc _ => signLow_lifted os started H enc)
end Go.Proofs.Ytgacigcbglflkaa

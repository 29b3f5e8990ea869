/-
  'signOnly' answers true for every input, and each argument reads behind the call as it read before. No conditions.
-/
import Derived.Test.YtgacigcbglflkaaSOn6
import Derived.Test.YtgacigcbglflkaaRows
import Derived.ProofKit
set_option linter.unusedSimpArgs false
set_option linter.unusedVariables false
namespace Go.Proofs.Ytgacigcbglflkaa
open Go.ChangeShapes Go.WideShapes Go.ChangeAt Go.RowKit
theorem signOnly_own : ownKnob Try.prog.godebug = none := by kernel_rfl
theorem signOnly_laid : laidOutB Try.prog = true := by kernel_rfl
theorem signOnly_underB : Try.prog.underlying 24 = some (.slice 5) := by kernel_rfl
theorem signOnly_cellsu8 : Try.prog.cellsOf 5 = 1 := by kernel_rfl
theorem signOnly_bytesu8 : Try.prog.bytesOf 5 = 1 := by kernel_rfl
theorem signOnly_underK : Try.prog.underlying 23 = some (.array 32 5) := by kernel_rfl
theorem signOnly_cellsK : Try.prog.cellsOf 23 = 32 := by kernel_rfl
theorem signOnly_typesK : Try.prog.cellTypes Try.prog.depth 23 = some (List.replicate 32 5) := by kernel_rfl
def signOnly_zK : Value := .agg (Array.replicate 32 (.int .u8 0))
theorem signOnly_underu8 : Try.prog.underlying 5 = some (.int .u8) := by kernel_rfl
theorem signOnly_underb : Try.prog.underlying 4 = some .bool := by kernel_rfl
set_option maxRecDepth 100000 in
theorem signOnly_lifted (os : Os) (started : os.Started) (H : Type) (enc : TypeId × Value → H) :
    ReturnsInHanded {} Try.checked os 4 .any (Rows.signOnlySpec.pre6 enc Try.prog Try.f4 Rows.signOnlyRow.domain false) (Rows.signOnlySpec.post enc Try.prog Try.f4 false true false false) := by
  refine returnsInHanded_of_change_sized (C := Try.checked) signOnly_own started (by kernel_rfl) Try.func4
    (ChangeSpec.witness6 (enc := enc) (C := Try.checked) false ⟨#[], #[signOnly_zK, (.slice none 0 0), signOnly_zK], []⟩ 8 (by kernel_rfl) (by kernel_rfl) (by kernel_rfl) (by kernel_rfl)) ?_
  intro W base args ds gs before hval0 hW hcnd hsz _
  have hval : ∀ (j : Nat) t v, Try.f4.params[j]? = some t → args[j]? = some v → Value.okWide Try.prog W .any base t v := hval0
  have hW' := hW
  obtain ⟨p, q, hA0, hV, rfl, hfz, hnd⟩ := hW
  have hA : DataW.TrodAll enc Try.prog W 0 (fun _ => true) true Try.f4.params.toList args.toList ds p := hA0
  rw [Try.params4] at hA hval
  obtain ⟨v0, v1, v2, d0, d1, d2, p0, p1, p2, hargs, rfl, rfl, h0, h1, h2⟩ := trodAll_three hA
  subst hargs
  obtain ⟨rfl, rfl⟩ := trodVars_none hV
  have h0k := h0
  have h1k := h1
  have h2k := h2
  have hlt : ∀ x ∈ p0 ++ p1 ++ p2, x.block < W.heap.size := fun x hx => by
    have := hW'.lt x
    simpa using this (by simpa using hx)
  obtain ⟨l0, rfl, ll0, lx0⟩ := Go.Ev.open_bytes signOnly_underK signOnly_cellsK signOnly_typesK signOnly_underu8 (by decide) (hval 0 23 v0 rfl rfl)
  have hmax := fun a len cap hv => Go.Ev.slice_le (a := a) (len := len) (cap := cap) hsz (j := 1) (by rw [Try.params4]; rfl) rfl signOnly_underB signOnly_bytesu8 h1 hv
  have hopen := Go.Ev.open_u8s signOnly_underB signOnly_underu8 signOnly_cellsu8 (hval 1 24 v1 rfl rfl) h1
  obtain ⟨l2, rfl, ll2, lx2⟩ := Go.Ev.open_bytes signOnly_underK signOnly_cellsK signOnly_typesK signOnly_underu8 (by decide) (hval 2 23 v2 rfl rfl)
  clear hA0 hval0
  simp only [List.append_nil] at hW'
  rcases hopen with rfl | ⟨a, len, cap, l, rfl, hl⟩
  · obtain ⟨lH, hev⟩ := Go.Ev.Ytgacigcbglflkaa.onlys_ev ll0 lx0 Go.Ev.Ytgacigcbglflkaa.BA.nil ll2 lx2
    refine (Go.Ev.calls_value Go.Ev.Ytgacigcbglflkaa.mixed Go.Ev.Ytgacigcbglflkaa.tabOk hev (by simp [Go.Ev.Ytgacigcbglflkaa.T, Go.Ev.Ytgacigcbglflkaa.fnS]) (by simp [Go.Ev.rfIn_u8s, Go.Ev.rfIn_int]; first | rfl | skip) rfl W).mono fun e W' ⟨he, hb⟩ => ?_
    subst he
    exact ⟨_, rfl, Go.Ev.post_of_below (pa := p0 ++ p1 ++ p2) (pv := []) hW' (fun _ _ _ => trodAll_mk1 (shut_bool signOnly_underb true)) (fun sp hsp => by rw [List.append_assoc]; exact trodAll_mk3 (WideElems.Trod_stays signOnly_laid (by kernel_rfl) (of_decide_eq_true (by kernel_rfl)) h0k (fun x hx => hb.same (hlt x (List.mem_append.2 (.inl (List.mem_append.2 (.inl hx)))))) (fun x hx => hsp x (List.mem_append.2 (.inl (List.mem_append.2 (.inl hx)))))) (WideElems.Trod_stays signOnly_laid (by kernel_rfl) (of_decide_eq_true (by kernel_rfl)) h1k (fun x hx => hb.same (hlt x (List.mem_append.2 (.inl (List.mem_append.2 (.inr hx)))))) (fun x hx => hsp x (List.mem_append.2 (.inl (List.mem_append.2 (.inr hx)))))) (WideElems.Trod_stays signOnly_laid (by kernel_rfl) (of_decide_eq_true (by kernel_rfl)) h2k (fun x hx => hb.same (hlt x (List.mem_append.2 (.inr hx)))) (fun x hx => hsp x (List.mem_append.2 (.inr hx))))) (fun _ _ => rfl) (by simp) hb (ok_one (by kernel_rfl) rfl (okWide_bool_mk signOnly_underb _))⟩
  · obtain ⟨pl, g1, g2, g3, g4⟩ := Go.Ev.lies_rel hl
    obtain ⟨lH, hev⟩ := Go.Ev.Ytgacigcbglflkaa.onlys_ev ll0 lx0 (Go.Ev.Ytgacigcbglflkaa.BA.some hl.len hl.lt (hmax a len cap rfl)) ll2 lx2
    refine (Go.Ev.calls_rel (ρ := Go.Ev.pl1 pl) (args' := [.agg (Go.Ev.u8s l0).toArray, .slice (some a) len cap, .agg (Go.Ev.u8s l2).toArray]) Go.Ev.Ytgacigcbglflkaa.mixed Go.Ev.Ytgacigcbglflkaa.tabOk hev (by simp [Go.Ev.Ytgacigcbglflkaa.T, Go.Ev.Ytgacigcbglflkaa.fnS]) rfl (.cons (Go.Ev.vrel_u8s _ _) (.cons (g4 _ 0 rfl) (.cons (Go.Ev.vrel_u8s _ _) .nil))) (Go.Ev.rel_one g2 g3) Go.Ev.free_one Go.Ev.own_one).mono fun e W' ⟨he, hb⟩ => ?_
    subst he
    exact ⟨_, rfl, Go.Ev.post_of_below (pa := p0 ++ p1 ++ p2) (pv := []) hW' (fun _ _ _ => trodAll_mk1 (shut_bool signOnly_underb true)) (fun sp hsp => by rw [List.append_assoc]; exact trodAll_mk3 (WideElems.Trod_stays signOnly_laid (by kernel_rfl) (of_decide_eq_true (by kernel_rfl)) h0k (fun x hx => hb.same (hlt x (List.mem_append.2 (.inl (List.mem_append.2 (.inl hx)))))) (fun x hx => hsp x (List.mem_append.2 (.inl (List.mem_append.2 (.inl hx)))))) (WideElems.Trod_stays signOnly_laid (by kernel_rfl) (of_decide_eq_true (by kernel_rfl)) h1k (fun x hx => hb.same (hlt x (List.mem_append.2 (.inl (List.mem_append.2 (.inr hx)))))) (fun x hx => hsp x (List.mem_append.2 (.inl (List.mem_append.2 (.inr hx)))))) (WideElems.Trod_stays signOnly_laid (by kernel_rfl) (of_decide_eq_true (by kernel_rfl)) h2k (fun x hx => hb.same (hlt x (List.mem_append.2 (.inr hx)))) (fun x hx => hsp x (List.mem_append.2 (.inr hx))))) (fun _ _ => rfl) (by simp) hb (ok_one (by kernel_rfl) rfl (okWide_bool_mk signOnly_underb _))⟩

theorem signOnly_holds : Rows.SignOnlySaid :=
  OpenClaim.holds_of_wide 4 Try.f4 rfl rfl rfl rfl rfl rfl rfl ⟨rfl, rfl, rfl, rfl, rfl⟩ rfl rfl rfl rfl rfl (by kernel_rfl) Try.func4 (by kernel_rfl)
    (of_decide_eq_true (by kernel_rfl)) (by unfold Func.isWrapper; first | (rw [if_pos (by decide +kernel)]; kernel_rfl) | (rw [if_neg (by decide +kernel)]; exact ⟨rfl, rfl⟩))
    (fun os started H enc _ => signOnly_lifted os started H enc)
end Go.Proofs.Ytgacigcbglflkaa

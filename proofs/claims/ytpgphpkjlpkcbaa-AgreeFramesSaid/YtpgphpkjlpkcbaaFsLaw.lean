/-
  'AgreeFrames' answers true for every input, and each argument reads behind the call as it read before. No conditions.
-/
import Derived.Test.YtpgphpkjlpkcbaaFs5
import Derived.Test.YtpgphpkjlpkcbaaRows
import Derived.ProofKit
open List renaming append_nil → Jj, range → Wm
set_option linter.unusedSimpArgs false
set_option linter.unusedVariables false
namespace Go.Proofs.Ytpgphpkjlpkcbaa
open Go.ChangeShapes Go.WideShapes Go.ChangeAt Go.RowKit
theorem agreeFrames_own : ownKnob Try.prog.godebug = none := by kernel_rfl
theorem agreeFrames_laid : laidOutB Try.prog = true := by kernel_rfl
theorem agreeFrames_und : (match Try.prog.underlying 50 with | some (.struct fs) => fs.toList.map (fun f => (f.type, f.offset)) == (Wm [3, 45, 46, 47, 48].length).map (fun i => ([3, 45, 46, 47, 48].getD i 0, i)) | _ => false) = true := by kernel_rfl
theorem agreeFrames_cells : Try.prog.cellsOf 50 = 5 := by kernel_rfl
theorem agreeFrames_ones : ([3, 45, 46, 47, 48].all fun u => Try.prog.cellsOf u == 1) = true := by kernel_rfl
theorem agreeFrames_types : Try.prog.cellTypes Try.prog.depth 50 = some [3, 45, 46, 47, 48] := by kernel_rfl
theorem agreeFrames_u0 : Try.prog.underlying 3 = some (.int .i64) := by kernel_rfl
theorem agreeFrames_u1 : Try.prog.underlying 45 = some (.slice 23) := by kernel_rfl
theorem agreeFrames_u2 : Try.prog.underlying 46 = some (.slice 29) := by kernel_rfl
theorem agreeFrames_u3 : Try.prog.underlying 47 = some (.slice 31) := by kernel_rfl
theorem agreeFrames_u4 : Try.prog.underlying 48 = some (.slice 5) := by kernel_rfl
theorem agreeFrames_k1 : Try.prog.underlying 23 = some (.array 32 5) := by kernel_rfl
theorem agreeFrames_k2 : Try.prog.underlying 29 = some (.int .u32) := by kernel_rfl
theorem agreeFrames_k3 : Try.prog.underlying 31 = some (.array 64 5) := by kernel_rfl
theorem agreeFrames_k4 : Try.prog.underlying 5 = some (.int .u8) := by kernel_rfl
theorem agreeFrames_c1 : Try.prog.cellsOf 23 = 32 := by kernel_rfl
theorem agreeFrames_c2 : Try.prog.cellsOf 29 = 1 := by kernel_rfl
theorem agreeFrames_c3 : Try.prog.cellsOf 31 = 64 := by kernel_rfl
theorem agreeFrames_c4 : Try.prog.cellsOf 5 = 1 := by kernel_rfl
theorem agreeFrames_underb : Try.prog.underlying 4 = some .bool := by kernel_rfl
set_option maxRecDepth 100000 in
theorem agreeFrames_lifted (os : Os) (started : os.Started) (H : Type) (enc : TypeId × Value → H) :
    ReturnsInHanded {} Try.checked os 4 .any (Rows.agreeFramesSpec.pre6 enc Try.prog Try.f4 Rows.agreeFramesRow.domain false) (Rows.agreeFramesSpec.post enc Try.prog Try.f4 false true false false) := by
  refine returnsInHanded_of_change (C := Try.checked) agreeFrames_own started (by kernel_rfl) Try.func4
    (ChangeSpec.witness6 (enc := enc) (C := Try.checked) false ⟨#[], #[.agg #[.int .i64 0, .slice none 0 0, .slice none 0 0, .slice none 0 0, .slice none 0 0]], []⟩ 8 (by kernel_rfl) (by kernel_rfl) (by kernel_rfl) (by kernel_rfl)) ?_
  intro W base args ds gs before hval0 hW hcnd _
  have hval : ∀ (j : Nat) t v, Try.f4.params[j]? = some t → args[j]? = some v → Value.okWide Try.prog W .any base t v := hval0
  have hW' := hW
  obtain ⟨p, q, hA0, hV, rfl, hfz, hnd⟩ := hW
  have hA : DataW.TrodAll enc Try.prog W 0 (fun _ => true) true Try.f4.params.toList args.toList ds p := hA0
  rw [Try.params4] at hA hval
  obtain ⟨v0, d0, rfl, rfl, h0⟩ := trodAll_one hA
  obtain ⟨rfl, rfl⟩ := trodVars_none hV
  have h0k := h0
  have hlt : ∀ x ∈ p, x.block < W.heap.size := fun x hx => by
    have := hW'.lt x
    simpa using this (by simpa using hx)
  obtain ⟨cs, rfl, lc, hc⟩ := Go.Ev.Qos agreeFrames_und agreeFrames_cells agreeFrames_ones agreeFrames_types (hval 0 50 v0 rfl rfl) h0
  obtain ⟨c0, f0, y0, g0, o0, t0⟩ := hc 0 _ rfl
  obtain ⟨c1, f1, y1, g1, o1, t1⟩ := hc 1 _ rfl
  obtain ⟨c2, f2, y2, g2, o2, t2⟩ := hc 2 _ rfl
  obtain ⟨c3, f3, y3, g3, o3, t3⟩ := hc 3 _ rfl
  obtain ⟨c4, f4, y4, g4, o4, t4⟩ := hc 4 _ rfl
  clear hc
  obtain rfl := Go.Ev.Q0q lc g0 g1 g2 g3 g4
  obtain ⟨k, rfl, -, -⟩ := Go.Ev.open_int agreeFrames_u0 (show Value.okWide Try.prog W .any base 3 c0 by simp only [Value.okWide, agreeFrames_u0]; exact o0)
  have sc8 : ∀ v, Go.Ev.Ytpgphpkjlpkcbaa.QI .u8 v → Go.Ev.oneCellB v = true ∧ Go.Ev.scalarRf v = true := fun v ⟨_, hv, _⟩ => by rw [hv]; exact ⟨rfl, rfl⟩
  have sc32 : ∀ v, Go.Ev.Ytpgphpkjlpkcbaa.QI .u32 v → Go.Ev.oneCellB v = true ∧ Go.Ev.scalarRf v = true := fun v ⟨_, hv, _⟩ => by rw [hv]; exact ⟨rfl, rfl⟩
  have q8 := Go.Ev.Qjm (enc := enc) (w := W) agreeFrames_k4 rfl
  have e1 := Go.Ev.Qal agreeFrames_u1 agreeFrames_c1 (by decide) (Go.Ev.Qjn agreeFrames_k1 agreeFrames_c1 agreeFrames_c4 q8) sc8 o1 t1
  have e2 := Go.Ev.Qal agreeFrames_u2 agreeFrames_c2 (by decide) (Go.Ev.Qjm (enc := enc) (w := W) agreeFrames_k2 rfl) sc32 o2 t2
  have e3 := Go.Ev.Qal agreeFrames_u3 agreeFrames_c3 (by decide) (Go.Ev.Qjn agreeFrames_k3 agreeFrames_c3 agreeFrames_c4 q8) sc8 o3 t3
  have e4 := Go.Ev.Qal agreeFrames_u4 agreeFrames_c4 (by decide) q8 sc8 o4 t4
  obtain ⟨H0, ρ, ka, na, sa, da, kl, nl, sl, dl, hF, hn, r1, r2, r3, r4⟩ := Go.Ev.Ytpgphpkjlpkcbaa.Qpt (k := k) e1 e2 e3 e4
  clear hA0 hval0
  simp only [Jj] at hW'
  obtain ⟨lH, hev⟩ := Go.Ev.Ytpgphpkjlpkcbaa.Qjs (k := k) hF hn
  refine (Go.Ev.Qws (ρ := ρ) (args' := [.agg #[.int .i64 k, c1, c2, c3, c4]]) Go.Ev.Ytpgphpkjlpkcbaa.mixed Go.Ev.Ytpgphpkjlpkcbaa.tabOk hev (by simp [Go.Ev.Ytpgphpkjlpkcbaa.T, Go.Ev.Ytpgphpkjlpkcbaa.fnS]) rfl (.cons r4 .nil) r1 r2 r3).mono fun e W' ⟨he, hb⟩ => ?_
  subst he
  exact ⟨_, rfl, Go.Ev.Qke (pa := p) (pv := []) hW' (fun _ _ _ => trodAll_mk1 (shut_bool agreeFrames_underb true)) (fun sp hsp => trodAll_mk1 (WideElems.Trod_stays agreeFrames_laid (by kernel_rfl) (of_decide_eq_true (by kernel_rfl)) h0k (fun x hx => hb.same (hlt x hx)) (fun x hx => hsp x hx))) (fun _ _ => rfl) (by simp) hb (ok_one (by kernel_rfl) rfl (okWide_bool_mk agreeFrames_underb _))⟩

theorem agreeFrames_holds : Rows.AgreeFramesSaid :=
  OpenClaim.holds_of_wide 4 Try.f4 rfl rfl rfl rfl rfl rfl rfl ⟨rfl, rfl, rfl, rfl, rfl⟩ rfl rfl rfl rfl rfl (by kernel_rfl) Try.func4 (by kernel_rfl)
    (of_decide_eq_true (by kernel_rfl)) (by unfold Func.isWrapper; first | (rw [if_pos (by decide +kernel)]; kernel_rfl) | (rw [if_neg (by decide +kernel)]; exact ⟨rfl, rfl⟩))
    (fun os started H enc _ => agreeFrames_lifted os started H enc)
end Go.Proofs.Ytpgphpkjlpkcbaa

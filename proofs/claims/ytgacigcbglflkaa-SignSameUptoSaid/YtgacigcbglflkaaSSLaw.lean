/-
  'signSame' answers true for every input whose bulk is at most 1048576, and each argument reads behind the call as it read before.
-/
import Derived.Test.YtgacigcbglflkaaSS4
import Derived.Test.YtgacigcbglflkaaRows
import Derived.ProofKit
import Derived.JoinedCond
open Array renaming replicate → D1
open Int renaming toNat → Mi
open List renaming append_nil → Kw, flatten_cons → Ki, length_append → Zn, length_cons → Zg, length_map → D0, length_range → Ry, map_cons → Yf, mem_append → Kf, mem_cons_of_mem → Qb7, mem_map → Wu, mem_range → Bs, range → Yi, replicate → Qb
set_option linter.unusedSimpArgs false
set_option linter.unusedVariables false
namespace Go.Proofs.Ytgacigcbglflkaa
open Go.ChangeShapes Go.WideShapes Go.ChangeAt Go.RowKit
theorem signSame_own : ownKnob Try.prog.godebug = none := by kernel_rfl
theorem signSame_laid : laidOutB Try.prog = true := by kernel_rfl
theorem signSame_underK : Try.prog.underlying 23 = some (.array 32 5) := by kernel_rfl
theorem signSame_cellsK : Try.prog.cellsOf 23 = 32 := by kernel_rfl
theorem signSame_typesK : Try.prog.cellTypes Try.prog.depth 23 = some (Qb 32 5) := by kernel_rfl
theorem signSame_underR : Try.prog.underlying 38 = some (.slice 24) := by kernel_rfl
theorem signSame_underB : Try.prog.underlying 24 = some (.slice 5) := by kernel_rfl
theorem signSame_cellsB : Try.prog.cellsOf 24 = 1 := by kernel_rfl
theorem signSame_cellsu8 : Try.prog.cellsOf 5 = 1 := by kernel_rfl
theorem signSame_underu8 : Try.prog.underlying 5 = some (.int .u8) := by kernel_rfl
theorem signSame_underb : Try.prog.underlying 4 = some .bool := by kernel_rfl
def signSame_zK : Value := .agg (D1 32 (.int .u8 0))
theorem bulk_lits {H : Type} (zs : List Int) : Rows.uptoBulkAll (lits (H := H) .u8 zs) = zs.length := by
  induction zs with
  | nil => simp [lits, Rows.uptoBulkAll]
  | cons z zs ih =>
    simp only [lits, Yf, Rows.uptoBulkAll, Rows.uptoBulk, Zg] at ih ⊢
    omega
theorem bulk_row {H : Type} (A : Option Addr) (L C : Nat) (Z : List Int) (hz : A = none → L = 0) : ((Z.take L).map Mi).length ≤ Rows.uptoBulk (Deep.intRow (H := H) .u8 A L Z) := by
  rw [D0]
  cases A with
  | none => rw [hz rfl]; simp
  | some a =>
    simp only [Deep.intRow, Rows.uptoBulk, bulk_lits]
    omega
theorem bulk_rows {H : Type} {A : Nat → Option Addr} {L : Nat → Nat} {Z : Nat → List Int} : ∀ (l : List Nat), (∀ r ∈ l, A r = none → L r = 0) →
    ((l.map fun r => ((Z r).take (L r)).map Mi).flatten).length + l.length ≤ Rows.uptoBulkAll (l.map fun r => Deep.intRow (H := H) .u8 (A r) (L r) (Z r)) := by
  intro l
  induction l with
  | nil => intro _; simp [Rows.uptoBulkAll]
  | cons r l ih =>
    intro h
    have h1 := ih fun x hx => h x (Qb7 _ hx)
    have h2 := bulk_row (H := H) (A r) (L r) 0 (Z r) (h r (by simp))
    have h3 : 1 ≤ Rows.uptoBulk (Deep.intRow (H := H) .u8 (A r) (L r) (Z r)) := by
      cases A r <;> simp [Deep.intRow, Rows.uptoBulk]
    have h4 : ((Z r).take (L r)).length + 1 ≤ Rows.uptoBulk (Deep.intRow (H := H) .u8 (A r) (L r) (Z r)) := by
      cases hA : A r with
      | none => rw [h r (by simp) hA]; simp [Deep.intRow, Rows.uptoBulk]
      | some a => simp only [Deep.intRow, Rows.uptoBulk, bulk_lits]; omega
    simp only [Yf, Ki, Zn, Zg, Rows.uptoBulkAll, D0] at h1 ⊢
    omega
set_option maxRecDepth 100000 in
theorem signSame_lifted (os : Os) (started : os.Started) (H : Type) (enc : TypeId × Value → H) (F : Stop.Interp) :
    ReturnsInHanded {} Try.checked os 6 .any ((Rows.OpenSpec.upto Rows.signSameSpec).pre6 enc Try.prog Try.f6 Rows.signSameUptoRow.domain false) (((Rows.OpenSpec.upto Rows.signSameSpec).at F).post enc Try.prog Try.f6 false true false false) := by
  refine returnsInHanded_of_cond (C := Try.checked) (s := Rows.OpenSpec.upto Rows.signSameSpec) (k := Rows.uptoSmall) rfl signSame_own started (by kernel_rfl) Try.func6
    (OpenSpec.witness (enc := enc) (C := Try.checked) (s := Rows.OpenSpec.upto Rows.signSameSpec) (k := Rows.uptoSmall) rfl false ⟨#[], #[signSame_zK, (.slice none 0 0)], []⟩ 8 (by kernel_rfl) (by kernel_rfl) (by kernel_rfl)
      (x := ([.agg (Qb 32 (.lit (.int .u8 0))), .nil], [], [])) (by kernel_rfl) (by kernel_rfl) (by kernel_rfl)) ?_
  intro W base args ds gs before hval0 hW _ hk _
  have hval : ∀ (j : Nat) t v, Try.f6.params[j]? = some t → args[j]? = some v → Value.okWide Try.prog W .any base t v := hval0
  have hW' := hW
  obtain ⟨p, q, hA0, hV, rfl, hfz, hnd⟩ := hW
  have hA : DataW.TrodAll enc Try.prog W 0 (fun _ => true) true Try.f6.params.toList args.toList ds p := hA0
  rw [Try.params6] at hA hval
  obtain ⟨v0, v1, d0, d1, p0, p1, hargs, rfl, rfl, h0, h1⟩ := trodAll_two hA
  subst hargs
  obtain ⟨rfl, rfl⟩ := trodVars_none hV
  have h0k := h0
  have h1k := h1
  have hlt : ∀ x ∈ p0 ++ p1, x.block < W.heap.size := fun x hx => by
    have := hW'.lt x
    simpa using this (by simpa using hx)
  obtain ⟨l0, rfl, ll0, lx0⟩ := Go.Ev.Qke signSame_underK signSame_cellsK signSame_typesK signSame_underu8 (by decide) (hval 0 23 v0 rfl rfl)
  have hopen := Go.Ev.Qkd signSame_underR signSame_underB signSame_underu8 signSame_cellsB signSame_cellsu8 (hval 1 38 v1 rfl rfl) h1
  clear hA0 hval0
  simp only [Kw] at hW'
  rcases hopen with rfl | ⟨a, len, cap, A, L, C, Z, rfl, hl, ds1, rfl⟩
  · obtain ⟨lH, hev⟩ := Go.Ev.Ytgacigcbglflkaa.Qhq ll0 lx0 (Go.Ev.Ytgacigcbglflkaa.Args.nothing []) (by decide)
    refine (Go.Ev.Qi8 Go.Ev.Ytgacigcbglflkaa.mixed Go.Ev.Ytgacigcbglflkaa.Qvt hev (by simp [Go.Ev.Ytgacigcbglflkaa.T, Go.Ev.Ytgacigcbglflkaa.fnS]) (by simp [Go.Ev.Qhu, Go.Ev.Qhv]; first | rfl | skip) rfl W).mono fun e W' ⟨he, hb⟩ => ?_
    subst he
    exact ⟨_, rfl, Go.Ev.R5 (s := Rows.signSameSpec) (pa := p0 ++ p1) (pv := []) hW' (fun _ _ _ => trodAll_mk1 (shut_bool signSame_underb true)) (fun sp hsp => trodAll_mk2 (WideElems.Trod_stays signSame_laid (by kernel_rfl) (of_decide_eq_true (by kernel_rfl)) h0k (fun x hx => hb.same (hlt x (Kf.2 (.inl hx)))) (fun x hx => hsp x (Kf.2 (.inl hx)))) (WideElems.Trod_stays signSame_laid (by kernel_rfl) (of_decide_eq_true (by kernel_rfl)) h1k (fun x hx => hb.same (hlt x (Kf.2 (.inr hx)))) (fun x hx => hsp x (Kf.2 (.inr hx))))) (fun _ _ => rfl) (by simp) hb (ok_one (by kernel_rfl) rfl (okWide_bool_mk signSame_underb _))⟩
  · obtain ⟨ρ, g1, g2, g3⟩ := Go.Ev.Qpf hl
    have hsmall := of_decide_eq_true hk
    have hnone : ∀ r, r < len → A r = none → L r = 0 := fun r hr hA => by
      obtain ⟨k1, -, -, -, k5, -⟩ := hl.row r hr
      have := k5 hA
      omega
    have hbulk := bulk_rows (H := H) (A := A) (L := L) (Z := Z) (Yi len) fun r hr => hnone r (Bs.1 hr)
    simp only [Kw, Rows.uptoBulkAll, Rows.uptoBulk] at hsmall
    rw [Ry] at hbulk
    have hfl : ((Yi len).map fun r => ((Z r).take (L r)).map Mi).flatten.length + len ≤ 1048576 := by omega
    have hone : ∀ r, r < len → (((Z r).take (L r)).map Mi).length ≤ 2 ^ 40 := fun r hr => by
      have h1 : (((Z r).take (L r)).map Mi) ∈ (Yi len).map fun r => ((Z r).take (L r)).map Mi := Wu.2 ⟨r, Bs.2 hr, rfl⟩
      have h2 := (List.sublist_flatten_of_mem h1).length_le
      omega
    obtain ⟨lH, hev⟩ := Go.Ev.Ytgacigcbglflkaa.Qhq ll0 lx0 (Go.Ev.Ytgacigcbglflkaa.Qn9 (A := A) (L := L) (B := fun r => ((Z r).take (L r)).map Mi) (fun r hr hA => by rw [hnone r hr hA]; rfl) (fun r hr => (hl.row r hr).2.2.1) (fun r hr => (hl.row r hr).2.2.2.1) hone (by omega)) (by omega)
    refine (Go.Ev.Qn6 (ρ := ρ) (args' := [.agg (Go.Ev.u8s l0).toArray, .slice (some a) len cap]) Go.Ev.Ytgacigcbglflkaa.mixed Go.Ev.Ytgacigcbglflkaa.Qvt hev (by simp [Go.Ev.Ytgacigcbglflkaa.T, Go.Ev.Ytgacigcbglflkaa.fnS]) rfl (.cons (Go.Ev.Qol _ _) (.cons g1 .nil)) g2 g3 Go.Ev.Qe5).mono fun e W' ⟨he, hb⟩ => ?_
    subst he
    exact ⟨_, rfl, Go.Ev.R5 (s := Rows.signSameSpec) (pa := p0 ++ p1) (pv := []) hW' (fun _ _ _ => trodAll_mk1 (shut_bool signSame_underb true)) (fun sp hsp => trodAll_mk2 (WideElems.Trod_stays signSame_laid (by kernel_rfl) (of_decide_eq_true (by kernel_rfl)) h0k (fun x hx => hb.same (hlt x (Kf.2 (.inl hx)))) (fun x hx => hsp x (Kf.2 (.inl hx)))) (WideElems.Trod_stays signSame_laid (by kernel_rfl) (of_decide_eq_true (by kernel_rfl)) h1k (fun x hx => hb.same (hlt x (Kf.2 (.inr hx)))) (fun x hx => hsp x (Kf.2 (.inr hx))))) (fun _ _ => rfl) (by simp) hb (ok_one (by kernel_rfl) rfl (okWide_bool_mk signSame_underb _))⟩

theorem signSame_holds : Rows.SignSameUptoSaid :=
  OpenClaim.holds_of_cond 6 Try.f6 rfl rfl rfl rfl rfl rfl rfl ⟨rfl, rfl, rfl, rfl, rfl⟩ rfl rfl rfl rfl rfl (by kernel_rfl) Try.func6 (by kernel_rfl)
    (of_decide_eq_true (by kernel_rfl)) (by unfold Func.isWrapper; first | (rw [if_pos (by decide +kernel)]; kernel_rfl) | (rw [if_neg (by decide +kernel)]; exact ⟨rfl, rfl⟩))
    (fun os started H enc _ F => signSame_lifted os started H enc F)
end Go.Proofs.Ytgacigcbglflkaa

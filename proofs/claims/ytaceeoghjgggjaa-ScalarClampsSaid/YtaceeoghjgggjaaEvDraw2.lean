/-
  A region whose order is open: the step, and the whole.
-/
import Derived.Test.YtaceeoghjgggjaaEvDraw
set_option linter.unusedSimpArgs false
set_option linter.unusedVariables false
namespace Go.Ev
open Go.RowKit

section
variable {P : Program} {n base : Nat} {ops : Array Oper} {aops : List AOper} {s s' : St} {recs : List Rec} {S : Nat → St} {R : Nat → Rec}

theorem slots_spec {l : List Oper} {prs : List (Nat × Nat)} (h : slotsOk l prs = true) {i j : Nat} (hp : (i, j) ∈ prs) {a b : Oper} (ha : l[i]? = some a) (hb : l[j]? = some b) :
    (∀ d, a.dst = some d → d ∉ namesOf l b ∧ b.dst ≠ some d) ∧ (∀ d, b.dst = some d → d ∉ namesOf l a) := by
  have := List.all_eq_true.1 h (i, j) hp
  simp only [ha, hb, Bool.and_eq_true] at this
  obtain ⟨h1, h2⟩ := this
  refine ⟨fun d hd => ?_, fun d hd => ?_⟩
  · rw [hd] at h1; simp at h1; exact h1
  · rw [hd] at h2; simpa using h2

variable (hc : compOpers P n ops.toList ops.toList = some aops) (ht : Trace P base aops s s' [] recs S R)
include hc ht

theorem pair_apart (hpairs : pairsOk recs (memPairs aops (openPairs (upsOf ops.toList))) = true) {i j : Nat} (hij : i < j) (hj : j < ops.size) (hp : (i, j) ∈ openPairs (upsOf ops.toList)) :
    (∀ id ∈ (R i).2, ¬ touches (R j) id) ∧ (∀ id ∈ (R j).2, ¬ touches (R i) id) := by
  obtain ⟨hl, hget⟩ := compOpers_get hc
  have hlen : aops.length = ops.size := by simpa using hl
  have hrec : ∀ k, k < ops.size → recs[k]? = some (R k) := by
    intro k hk
    rw [ht.recs]
    simp [hlen, hk]
  have hi : i < ops.size := by omega
  have hai : aops[i]? = some (aops[i]'(by omega)) := List.getElem?_eq_getElem (by omega)
  have haj : aops[j]? = some (aops[j]'(by omega)) := List.getElem?_eq_getElem (by omega)
  generalize aops[i]'(by omega) = ai at hai
  generalize aops[j]'(by omega) = aj at haj
  have hfree : ∀ k ak, aops[k]? = some ak → ak.op.free = true → R k = (some [], []) ∨ ((R k).1 = some [] ∧ (R k).2 = []) := by
    intro k ak hk hf
    rcases ht.step k ak hk with ⟨_, v, H', t, M, hg, _, hr⟩ | ⟨_, _, hr⟩
    · right; rw [hr]; exact hg.free hf
    · left; exact hr
  have hquiet : ∀ k ak, aops[k]? = some ak → ak.op.quiet = true → (R k).2 = [] := by
    intro k ak hk hf
    rcases ht.step k ak hk with ⟨_, v, H', t, M, hg, _, hr⟩ | ⟨_, _, hr⟩
    · rw [hr]; exact hg.quiet hf
    · rw [hr]
  have hnone : ∀ k ak, aops[k]? = some ak → ak.op.free = true → (R k).2 = [] ∧ ∀ id, ¬ touches (R k) id := by
    intro k ak hk hf
    rcases hfree k ak hk hf with h | ⟨h1, h2⟩
    · rw [h]; exact ⟨rfl, fun id h => by simp [touches] at h⟩
    · exact ⟨h2, fun id h => by simp [touches, h1] at h⟩
  by_cases hm : (i, j) ∈ memPairs aops (openPairs (upsOf ops.toList))
  · have := List.all_eq_true.1 hpairs (i, j) hm
    simp only [hrec i hi, hrec j hj] at this
    exact apart_spec this
  · have hx : (ai.op.free || aj.op.free || (ai.op.quiet && aj.op.quiet)) = true := by
      cases hb : (ai.op.free || aj.op.free || (ai.op.quiet && aj.op.quiet)) with
      | true => rfl
      | false =>
        exfalso; apply hm
        unfold memPairs
        rw [List.mem_filter]
        refine ⟨hp, ?_⟩
        simp only [hai, haj, hb, Bool.not_false]
    simp only [Bool.or_eq_true, Bool.and_eq_true] at hx
    rcases hx with (h1 | h1) | ⟨h1, h2⟩
    · obtain ⟨a1, a2⟩ := hnone i ai hai h1
      exact ⟨fun id hid => by rw [a1] at hid; simp at hid, fun id _ => a2 id⟩
    · obtain ⟨a1, a2⟩ := hnone j aj haj h1
      exact ⟨fun id _ => a2 id, fun id hid => by rw [a1] at hid; simp at hid⟩
    · have a1 := hquiet i ai hai h1
      have a2 := hquiet j aj haj h2
      exact ⟨fun id hid => by rw [a1] at hid; simp at hid, fun id hid => by rw [a2] at hid; simp at hid⟩

variable (hslots : slotsOk ops.toList (openPairs (upsOf ops.toList)) = true) (hpairs : pairsOk recs (memPairs aops (openPairs (upsOf ops.toList))) = true)
include hslots hpairs

theorem draw_step {ρ0 : Pl} {a0 : Act} {w0 : World} (hfree0 : Free ρ0 (S 0).h.length (S ops.size).h.length) (hn : n ≤ a0.tmps.size) {listed : Array Bool} {a : Act} {w : World} {ρ : Pl} {c : Nat → Option Ob} (hI : Inv P ops S R ρ0 a0 w0 listed a w ρ c) {k : Nat}
    (hk : k < ops.size) (hkl : listed.getD k false = false) (hready : ∀ o, ops.toList[k]? = some o → ∀ e ∈ o.after.toList, Region.binds .any e = true → listed.getD e.on false = true)
    {Q : Exit → Act → World → Prop} {K : Act → World → Prop} (hK : ∀ a' w' ρ' c', Inv P ops S R ρ0 a0 w0 (listed.setIfInBounds k true) a' w' ρ' c' → K a' w') : wpOp P ops Q k K a w := by
  obtain ⟨hl, hget⟩ := compOpers_get hc
  have hlen : aops.length = ops.size := by simpa using hl
  have hkl' : k < ops.toList.length := by simpa using hk
  obtain ⟨ao, ha1, ha2, ha3, ha4, ha5, ha6⟩ := hget k _ (List.getElem?_eq_getElem hkl')
  have hoL : ops.toList[k]? = some ops.toList[k] := List.getElem?_eq_getElem hkl'
  have hoj : ops[k]? = some ops.toList[k] := by rw [← Array.getElem?_toList]; exact hoL
  generalize ops.toList[k] = o at ha2 ha3 ha4 ha5 ha6 hoj hoL
  have hst := ht.step k ao ha1
  have hks : k < listed.size := by rw [hI.size]; exact hk
  have hls : ∀ j, (listed.setIfInBounds k true).getD j false = if j = k then true else listed.getD j false := fun j => getD_set hks
  have hdst : ∀ d, o.dst = some d → d < a.tmps.size := fun d hd => by rw [hI.tsize]; exact Nat.lt_of_lt_of_le (ha6 d hd) hn
  -- what isn't done yet, ahead of this one, isn't bound to be
  have hun1 : ∀ i, i < k → listed.getD i false = false → (i, k) ∈ openPairs (upsOf ops.toList) := by
    intro i hi hli
    refine open_mem hi hkl' ?_
    cases hb : ((upsOf ops.toList).getD k 0).testBit i with
    | false => rfl
    | true =>
      have := ups_listed (ops := ops.toList) (L := fun j => j = k ∨ listed.getD j false = true) (fun j x hj hx e he hbd => by
        rcases hj with rfl | hj
        · exact .inr (hready x hx e he hbd)
        · exact .inr (hI.down j x hj hx e he hbd)) k (.inl rfl) i hb
      rcases this with rfl | h
      · omega
      · rw [hli] at h; cases h
  -- what is done already, behind this one, isn't bound to it
  have hun2 : ∀ i, k < i → i < ops.size → listed.getD i false = true → (k, i) ∈ openPairs (upsOf ops.toList) := by
    intro i hi him hli
    refine open_mem hi (by simpa using him) ?_
    cases hb : ((upsOf ops.toList).getD i 0).testBit k with
    | false => rfl
    | true =>
      have := ups_listed (ops := ops.toList) (L := fun j => listed.getD j false = true) (fun j x hj hx e he hbd => hI.down j x hj hx e he hbd) i hli k hb
      rw [hkl] at this; cases this
  -- what isn't done yet, ahead or behind: its pair with this one
  have hun3 : ∀ j, j < k → listed.getD j false = false → (j, k) ∈ openPairs (upsOf ops.toList) := hun1
  have hconk : ∀ id, ρ id ≠ none → id < (S k).h.length → touches (R k) id → c id = (S k).h[id]? := by
    intro id hρ hid htc
    obtain ⟨pl, hpl⟩ : ∃ pl, ρ id = some pl := by cases h : ρ id with
      | none => exact absurd h hρ
      | some pl => exact ⟨pl, rfl⟩
    refine hI.con k (by omega) hkl id pl hpl hid (.inr htc) fun i hi hli hch => ?_
    have := (pair_apart hc ht hpairs hi hk (hun1 i hi hli)).1 id (changed_mem hc ht (by omega) hch).1
    exact this htc
  have henvk : ∀ t, t ∈ namesOf ops.toList o → ∀ v, (S k).env.get t = some v → ∃ v', a.tmps[t]? = some v' ∧ VRel ρ v v' := by
    intro t htn
    refine hI.env k (by omega) hkl t (.inr ⟨o, hoL, htn⟩) fun i hi hli x hx hxd => ?_
    exact ((slots_spec hslots (hun1 i hi hli) hx hoL).1 t hxd).1 htn
  have hfreek : Free ρ (S k).h.length (S (k + 1)).h.length := by
    intro id h1 h2
    cases hρ : ρ id with
    | none => rfl
    | some pl =>
      exfalso
      cases h0 : ρ0 id with
      | none =>
        obtain ⟨k', a1, a2, a3, a4⟩ := hI.dom id pl hρ h0
        have hne : k' ≠ k := fun e => by subst e; rw [hkl] at a2; cases a2
        rcases Nat.lt_or_ge k' k with h | h
        · have := len_mono hc ht (i := k' + 1) (j := k) (by omega) (by omega); omega
        · have := len_mono hc ht (i := k + 1) (j := k') (by omega) (by omega); omega
      | some p =>
        have h3 := len_mono hc ht (i := 0) (j := k) (by omega) (by omega)
        have h4 := len_mono hc ht (i := k + 1) (j := ops.size) (by omega) (by omega)
        have := hfree0 id (by omega) (by omega)
        rw [this] at h0; cases h0
  -- the end of the step: from its effect on the heap to what holds behind it
  have finish : ∀ (v : Value) (G G' : List Ob) (v' : Value) (w' : World) (ρ' : Pl), (S (k + 1)).env = (S k).env.put o.dst v → G.length = (S k).h.length → G'.length = (S (k + 1)).h.length → AbsOk G G' (R k).2 → (∀ id : Nat, id ∈ (R k).2 ∨ (S k).h.length ≤ id → G'[id]? = (S (k + 1)).h[id]?) →
      (∀ (id : Nat) ob, G[id]? = some ob → ob.live = true → ρ id ≠ none → c id = some ob) → (∀ id ∈ (R k).2, touches (R k) id → G[id]? = (S k).h[id]?) → Post1 ρ G w v G' v' w' ρ' → K (a.put o.dst v') w' := by
    intro v G G' v' w' ρ' henv hG hG' hab hnew hsub hGM hp
    refine hK _ _ ρ' (mergeC c G' (R k).2 G.length) ?_
    have hfG : Free ρ G.length G'.length := by rw [hG, hG']; exact hfreek
    have hmr := merge_rel hI.rel hsub hp.ext hfG hp.rel hp.frm hab
    have hmf := merge_frm hsub hp.frm hab
    have hmfl := merge_flags (ρ' := ρ') hsub hfG hab
    have hρnew : ∀ {id pl}, ρ' id = some pl → ¬ ((S k).h.length ≤ id ∧ id < (S (k + 1)).h.length) → ρ id = some pl := by
      intro id pl h hnn
      cases hρ : ρ id with
      | none => have := hp.ext.dom id pl h hρ; rw [hG, hG'] at this; exact absurd this hnn
      | some p => have := hp.ext.le id p hρ; rw [h] at this; cases this; rfl
    have hchk : ∀ id, Changed S k id → ρ id ≠ none := by
      intro id hch hno
      have hm := changed_mem hc ht hk hch
      have h1 := hp.pres id (by rw [hG]; exact hch.1) hno
      rw [hnew id (.inl hm.1), hGM id hm.1 hm.2] at h1
      exact hch.2 h1
    refine ⟨by simp [hI.size], ?_, hmr, hI.le.trans hp.ext.le, ?_, ?_, ?_, ?_, ?_, ?_, ?_, by rw [put_defers]; exact hI.defers, by rw [put_size]; exact hI.tsize⟩
    · intro j x hj hx e he hbd
      rw [hls] at hj ⊢
      split
      · rfl
      · split at hj
        · rename_i hjk; subst hjk; exact hready x hx e he hbd
        · exact hI.down j x hj hx e he hbd
    · intro id pl h1 h2
      cases hρ : ρ id with
      | none =>
        have := hp.ext.dom id pl h1 hρ
        rw [hG, hG'] at this
        exact ⟨k, hk, by rw [hls]; simp, this.1, this.2⟩
      | some p =>
        obtain ⟨k', a1, a2, a3, a4⟩ := hI.dom id p hρ h2
        exact ⟨k', a1, by rw [hls]; split <;> simp [a2], a3, a4⟩
    · intro j hj hjl id pl hpl hid htc hch
      rw [hls] at hjl
      have hjk : j ≠ k := fun e => by simp [e] at hjl
      rw [if_neg hjk] at hjl
      have hch' : ∀ i, i < j → i ≠ k → listed.getD i false = false → ¬ Changed S i id := fun i hi hik hli => hch i hi (by rw [hls, if_neg hik]; exact hli)
      unfold mergeC
      rw [hG, hG']
      by_cases hin : id ∈ (R k).2 ∨ ((S k).h.length ≤ id ∧ id < (S (k + 1)).h.length)
      · rw [if_pos hin]
        have hge : id ∈ (R k).2 ∨ (S k).h.length ≤ id := hin.imp (fun z => z) (fun z => z.1)
        rw [hnew id hge]
        have hidk1 : id < (S (k + 1)).h.length := by
          rcases hin with h | h
          · have := hab.ids id h; rw [hG] at this
            have := len_mono hc ht (i := k) (j := k + 1) (by omega) (by omega); omega
          · exact h.2
        rcases Nat.lt_or_ge k j with hkj | hjk'
        · refine (chain_h hc ht (i := k + 1) (j := j) (by omega) hj hidk1 fun i h1 h2 hci => ?_).symm
          cases hli : listed.getD i false with
          | false => exact hch' i h2 (by omega) hli hci
          | true =>
            have him : i < ops.size := by omega
            rcases hin with h | h
            · have hpa := pair_apart hc ht hpairs (by omega : k < i) him (hun2 i (by omega) him hli)
              exact hpa.1 id h (changed_mem hc ht him hci).2
            · have := hI.there i hli id hci
              exact this (hfreek id h.1 h.2)
        · exfalso
          have hjlt : j < k := by omega
          rcases hin with h | h
          · have hpa := pair_apart hc ht hpairs hjlt hk (hun1 j hjlt hjl)
            rcases htc with h' | h'
            · omega
            · exact hpa.2 id h h'
          · have := len_mono hc ht (i := j) (j := k) (by omega) (by omega); omega
      · rw [if_neg hin]
        have hρ := hρnew hpl fun h => hin (.inr h)
        refine hI.con j hj hjl id pl hρ hid htc fun i hi hli => ?_
        by_cases hik : i = k
        · subst hik
          exact fun hci => hin (.inl (changed_mem hc ht hk hci).1)
        · exact hch' i hi hik hli
    · intro j hj hjl t htn hnd v1 hv1
      rw [hls] at hjl
      have hjk : j ≠ k := fun e => by simp [e] at hjl
      rw [if_neg hjk] at hjl
      rw [tmps_put _ _ _ hdst]
      by_cases hdt : o.dst = some t
      · rw [if_pos hdt]
        rcases Nat.lt_or_ge k j with hkj | hjk'
        · have hce := chain_env hc ht (i := k + 1) (j := j) (t := t) (by omega) hj fun i h1 h2 x hx hxd => by
            cases hli : listed.getD i false with
            | false => exact hnd i h2 (by rw [hls, if_neg (by omega)]; exact hli) x hx hxd
            | true =>
              have him : i < ops.size := by omega
              exact ((slots_spec hslots (hun2 i (by omega) him hli) hoL hx).1 t hdt).2 hxd
          rw [hce, henv, get_put, if_pos hdt] at hv1
          cases hv1
          exact ⟨v', rfl, hp.val⟩
        · exfalso
          have hjlt : j < k := by omega
          rcases htn with h' | ⟨x, hx, hxn⟩
          · omega
          · exact (slots_spec hslots (hun1 j hjlt hjl) hx hoL).2 t hdt hxn
      · rw [if_neg hdt]
        obtain ⟨u, h1, h2⟩ := hI.env j hj hjl t htn (fun i hi hli x hx => by
          by_cases hik : i = k
          · subst hik; rw [hoL] at hx; cases hx; exact hdt
          · exact hnd i hi (by rw [hls, if_neg hik]; exact hli) x hx) v1 hv1
        exact ⟨u, h1, h2.mono hp.ext.le⟩
    · exact hI.frm.trans hmf hI.le hp.ext.le hI.flags fun id ob' pl h1 h2 h3 => hmfl id ob' pl (hI.le id pl h1) h2 h3
    · intro id ob' pl h1 h2 h3
      obtain ⟨o2, b1, b2, b3⟩ := hmfl id ob' pl (hI.le id pl h1) h2 h3
      obtain ⟨o3, d1, d2, d3⟩ := hI.flags id o2 pl h1 b1 b2
      exact ⟨o3, d1, d2, d3.trans b3⟩
    · intro i hi id hci
      rw [hls] at hi
      have : ρ id ≠ none := by
        split at hi
        · rename_i hik; subst hik; exact hchk id hci
        · exact hI.there i hi id hci
      intro hno
      cases hρ : ρ id with
      | none => exact this hρ
      | some p => rw [hp.ext.le id p hρ] at hno; cases hno
    · intro id hid hno i hi hci
      rw [hls] at hi
      split at hi
      · rename_i hik; subst hik
        have h1 := hchk id hci
        cases hρ : ρ id with
        | none => exact h1 hρ
        | some p =>
          obtain ⟨k', a1, a2, a3, a4⟩ := hI.dom id p hρ hno
          have := len_mono hc ht (i := 0) (j := k') (by omega) (by omega); omega
      · exact hI.pres id hid hno i hi hci
  -- the guard
  have hw : ∀ b, guardOf (S k).env ao.guard = some b → Region.wanted o (yielded ops a.tmps) = b := fun b hb => wanted_of (ρ := ρ) ha4 hb fun g want d h1 h2 v hv =>
    henvk d (by unfold namesOf; rw [List.mem_append]; right; rw [h1]; have h2' : (ops.toList[g]?).bind (·.dst) = some d := by simpa using h2
                simp only [h2']; simp) v hv
  unfold wpOp
  rw [hoj]
  dsimp only
  rcases hst with ⟨hg, v, H', t, M, hgood, hs1, hr⟩ | ⟨hg, hs1, hr⟩
  · rw [if_pos (hw true hg)]
    left
    have hRM : (R k).2 = M := by rw [hr]
    have hRt : (R k).1 = t := by rw [hr]
    have hS1 : (S (k + 1)).h = H' := by rw [hs1]
    have henv1 : (S (k + 1)).env = (S k).env.put o.dst v := by rw [hs1, ha3]
    have hopr : OpRel ρ (S k).env a o.op.operands.toList := fun x hx u hu => opRel_one (List.all_eq_true.1 ha5 x hx) (fun t' ht' u' hu' => henvk t' (by
      unfold namesOf; rw [List.mem_append]; left; unfold tmpsOf; rw [List.mem_filterMap]; exact ⟨x, hx, by rw [ht']⟩) u' hu') hu
    cases t with
    | none =>
      have htch : ∀ id, touches (R k) id := fun id => by unfold touches; rw [hRt]; trivial
      have hsub : ∀ (id : Nat) ob, (S k).h[id]? = some ob → ob.live = true → ρ id ≠ none → c id = some ob := fun id ob h1 _ h3 => by
        rw [hconk id h3 (List.getElem?_eq_some_iff.1 h1).1 (htch id)]; exact h1
      refine hgood.ok o ha2 ρ a w hopr (hI.rel.forget2 fun id ob h1 h2 h3 => hsub id ob h2 h3 h1) (by rw [← hS1]; exact hfreek) K Q fun v' w' ρ' hp => ?_
      refine finish v (S k).h H' v' w' ρ' henv1 rfl (by rw [hS1]) (by rw [hRM]; exact hgood.abs) (fun id _ => by rw [hS1]) hsub (fun _ _ _ => rfl) hp
    | some l =>
      let G : List Ob := (List.range (S k).h.length).map fun i => if i ∈ l then ((S k).h[i]?).getD Ob.dead else Ob.dead
      have hGl : G.length = (S k).h.length := by simp [G]
      have hGget : ∀ i : Nat, i < (S k).h.length → G[i]? = some (if i ∈ l then ((S k).h[i]?).getD Ob.dead else Ob.dead) := fun i hi => by
        simp only [G, List.getElem?_map, List.getElem?_range hi, Option.map_some]
      have hag : ∀ id ∈ l, G[id]? = (S k).h[id]? := by
        intro id hid
        rcases Nat.lt_or_ge id (S k).h.length with h | h
        · rw [hGget id h, if_pos hid, List.getElem?_eq_getElem h]; rfl
        · rw [List.getElem?_eq_none (by omega), List.getElem?_eq_none h]
      obtain ⟨G', hloc, habs, hokG⟩ := hgood.loc l rfl G hGl hag
      have htc : ∀ id, touches (R k) id ↔ id ∈ l := fun id => by unfold touches; rw [hRt]
      have hsub : ∀ (id : Nat) ob, G[id]? = some ob → ob.live = true → ρ id ≠ none → c id = some ob := by
        intro id ob h1 h2 h3
        have hid : id < (S k).h.length := by have := (List.getElem?_eq_some_iff.1 h1).1; omega
        by_cases hil : id ∈ l
        · rw [hconk id h3 hid ((htc id).2 hil), ← hag id hil]; exact h1
        · rw [hGget id hid, if_neg hil] at h1; cases h1; simp [Ob.dead] at h2
      have hGlen' : G'.length = (S (k + 1)).h.length := by rw [hS1]; exact hloc.len
      refine hokG o ha2 ρ a w hopr (hI.rel.forget2 fun id ob h1 h2 h3 => hsub id ob h2 h3 h1) (by rw [hGl, hGlen']; exact hfreek) K Q fun v' w' ρ' hp => ?_
      exact finish v G G' v' w' ρ' henv1 hGl hGlen' (by rw [hRM]; exact habs) (fun id hid => by rw [hS1]; exact hloc.new id (by rw [hRM] at hid; exact hid)) hsub (fun id _ htt => hag id ((htc id).1 htt)) hp
  · rw [if_neg (by rw [hw false hg]; simp)]
    have hS1 : (S (k + 1)).h = (S k).h := by rw [hs1]
    let G : List Ob := (List.range (S k).h.length).map fun _ => Ob.dead
    have hGget : ∀ (i : Nat) ob, G[i]? = some ob → ob = Ob.dead := fun i ob h => by
      have hi : i < (S k).h.length := by have := (List.getElem?_eq_some_iff.1 h).1; simpa [G] using this
      simp only [G, List.getElem?_map, List.getElem?_range hi, Option.map_some, Option.some.injEq] at h; exact h.symm
    have hsub : ∀ (id : Nat) ob, G[id]? = some ob → ob.live = true → ρ id ≠ none → c id = some ob := fun id ob h1 h2 _ => by rw [hGget id ob h1] at h2; simp [Ob.dead] at h2
    refine finish undef G G undef w ρ (by rw [hs1, ha3]) (by simp [G]) (by rw [hS1]; simp [G]) (by rw [hr]; exact .refl _ _ (by simp)) (fun id hid => ?_) hsub (fun id hid => by rw [hr] at hid; simp at hid) ⟨⟨.refl _ _ _, .tuple .nil, hI.rel.forget2 fun id ob h1 h2 h3 => hsub id ob h2 h3 h1, .refl _ _ _ _⟩, fun _ _ _ => rfl⟩
    rw [hr] at hid
    rcases hid with h | h
    · simp at h
    · rw [List.getElem?_eq_none (by simpa [G] using h), List.getElem?_eq_none (by rw [hS1]; exact h)]

theorem draw_any {ρ0 : Pl} {a0 : Act} {w0 : World} (hback : backEdges ops.toList = true) (hfree0 : Free ρ0 (S 0).h.length (S ops.size).h.length) (hn : n ≤ a0.tmps.size) {Q : Exit → Act → World → Prop}
    (hQ : ∀ a w ρ, CPost ρ0 s s' a0 w0 a w ρ → Q .normal a w) : ∀ (fuel : Nat) (listed : Array Bool) (a : Act) (w : World) (ρ : Pl) (c : Nat → Option Ob), listed.toList.count false = fuel → Inv P ops S R ρ0 a0 w0 listed a w ρ c → wpAny P .any ops Q fuel listed a w := by
  obtain ⟨hl, hget⟩ := compOpers_get hc
  have hlen : aops.length = ops.size := by simpa using hl
  -- all is done
  have hend : ∀ (listed : Array Bool) (a : Act) (w : World) (ρ : Pl) (c : Nat → Option Ob), Inv P ops S R ρ0 a0 w0 listed a w ρ c → (∀ j, j < ops.size → listed.getD j false = true) → Q .normal a w := by
    intro listed a w ρ c hI hall
    have hS0 : S 0 = s := ht.first
    have hSm : S ops.size = s' := by rw [← hlen]; exact ht.last
    have hnm : listed.getD ops.size false = false := by simp [Array.getD_eq_getD_getElem?, hI.size]
    have hcon : ∀ id pl, ρ id = some pl → id < s'.h.length → c id = s'.h[id]? := fun id pl h1 h2 => by
      rw [← hSm] at h2 ⊢
      exact hI.con ops.size (Nat.le_refl _) hnm id pl h1 h2 (.inl rfl) fun i hi hli => by rw [hall i hi] at hli; cases hli
    refine hQ a w ρ ⟨?_, hI.defers, hI.tsize, ⟨hI.le, fun id pl h1 h2 => ?_⟩, ?_, ?_, ?_⟩
    · intro t v hv
      rw [← hSm] at hv
      exact hI.env ops.size (Nat.le_refl _) hnm t (.inl rfl) (fun i hi hli => by rw [hall i hi] at hli; cases hli) v hv
    · obtain ⟨k, a1, a2, a3, a4⟩ := hI.dom id pl h1 h2
      have h3 := len_mono hc ht (i := 0) (j := k) (by omega) (by omega)
      have h4 := len_mono hc ht (i := k + 1) (j := ops.size) (by omega) (by omega)
      rw [hS0] at h3; rw [hSm] at h4
      omega
    · refine hI.rel.forget2 fun id ob h1 h2 _ => ?_
      cases hρ : ρ id with
      | none => exact absurd hρ h1
      | some pl => rw [hcon id pl hρ (List.getElem?_eq_some_iff.1 h2).1]; exact h2
    · have hf := hI.frm
      rw [hS0] at hf
      refine ⟨hf.os, hf.tape, hf.output, hf.size, hf.blocks, fun id pl h1 h2 => (hf.fresh id pl h1 h2).imp (fun z => z) fun ⟨i, ob, p0, b1, b2, b3, b4, b5, b6⟩ => ⟨i, ob, p0, b1, b2, b3, b4, b5, fun ob' h' => ?_⟩⟩
      refine b6 ob' ?_
      rw [hcon i p0 (hI.le i p0 b2) (List.getElem?_eq_some_iff.1 h').1]; exact h'
    · intro id h1 h2
      rw [← hSm, ← hS0]
      rw [← hS0] at h1
      refine chain_h hc ht (Nat.zero_le _) (Nat.le_refl _) h1 fun k _ hk => hI.pres id h1 h2 k (hall k hk)
  -- what isn't done has a least one, and it is ready
  have hleast : ∀ (listed : Array Bool), listed.size = ops.size → Region.ready .any ops listed = [] → ∀ j, j < ops.size → listed.getD j false = true := by
    intro listed hsz hr j
    induction j using Nat.strongRecOn with
    | _ j ih =>
      intro hj
      cases hlj : listed.getD j false with
      | true => rfl
      | false =>
        exfalso
        have hmem : j ∈ Region.ready .any ops listed := by
          unfold Region.ready
          rw [List.mem_filter]
          refine ⟨List.mem_range.2 hj, ?_⟩
          have h1 : listed.getD j true = false := by
            rcases getD_of listed j with h | h
            · simp only [Array.getD_eq_getD_getElem?] at h hlj
              rw [Array.getElem?_eq_getElem (by omega)] at h hlj
              simp only [Option.getD_some] at h hlj
              rw [h] at hlj; cases hlj
            · simp only [Array.getD_eq_getD_getElem?] at h ⊢
              rw [Array.getElem?_eq_getElem (by omega)] at h ⊢
              simpa using h.1
          have h2 : ops[j]? = some ops[j] := Array.getElem?_eq_getElem hj
          rw [h1, h2]
          simp only [Bool.not_false, Bool.true_and, Option.map_some, Option.getD_some]
          rw [← Array.all_toList, List.all_eq_true]
          intro e he
          cases hb : Region.binds .any e with
          | false => rfl
          | true =>
            have hlt : e.on < j := by
              have := List.all_eq_true.1 hback (j, ops[j]) (idx_mem (by rw [Array.getElem?_toList]; exact h2))
              have := List.all_eq_true.1 this e he
              simpa [hb] using this
            simp only [Bool.not_true, Bool.false_or]
            exact ih e.on hlt (by omega)
        rw [hr] at hmem; simp at hmem
  intro fuel
  induction fuel with
  | zero =>
    intro listed a w ρ c hf hI
    have hall : ∀ j, j < ops.size → listed.getD j false = true := by
      intro j hj
      cases hlj : listed.getD j false with
      | true => rfl
      | false =>
        exfalso
        simp only [Array.getD_eq_getD_getElem?] at hlj
        rw [Array.getElem?_eq_getElem (by rw [hI.size]; exact hj)] at hlj
        simp only [Option.getD_some] at hlj
        have : false ∈ listed.toList := by rw [← hlj]; exact Array.getElem_mem_toList _
        have := List.count_pos_iff.2 this
        omega
    refine ⟨?_, hend listed a w ρ c hI hall⟩
    unfold Region.ready
    rw [List.filter_eq_nil_iff]
    intro j hj
    have := hall j (List.mem_range.1 hj)
    have h1 : listed.getD j true = true := by
      simp only [Array.getD_eq_getD_getElem?] at this ⊢
      rw [Array.getElem?_eq_getElem (by rw [hI.size]; exact List.mem_range.1 hj)] at this ⊢
      exact this
    simp [h1]
  | succ fuel ih =>
    intro listed a w ρ c hf hI
    refine ⟨fun hr => hend listed a w ρ c hI (hleast listed hI.size hr), fun k hk => ?_⟩
    unfold Region.ready at hk
    rw [List.mem_filter] at hk
    obtain ⟨hk1, hk2⟩ := hk
    have hk1 := List.mem_range.1 hk1
    simp only [Bool.and_eq_true, Bool.not_eq_true'] at hk2
    obtain ⟨hk2, hk3⟩ := hk2
    have hks : k < listed.size := by rw [hI.size]; exact hk1
    have hkl : listed.getD k false = false := by
      simp only [Array.getD_eq_getD_getElem?] at hk2 ⊢
      rw [Array.getElem?_eq_getElem hks] at hk2 ⊢
      exact hk2
    refine draw_step hc ht hslots hpairs hfree0 hn hI hk1 hkl (fun o ho e he hb => ?_) fun a' w' ρ' c' hI' => ih _ a' w' ρ' c' ?_ hI'
    · have h2 : ops[k]? = some o := by rw [← Array.getElem?_toList]; exact ho
      rw [h2] at hk3
      simp only [Option.map_some, Option.getD_some] at hk3
      rw [← Array.all_toList, List.all_eq_true] at hk3
      have := hk3 e he
      simpa [hb] using this
    · have hke : listed.toList[k]? = some false := by
        simp only [Array.getD_eq_getD_getElem?] at hkl
        rw [Array.getElem?_eq_getElem hks] at hkl
        simp only [Option.getD_some] at hkl
        rw [Array.getElem?_toList, Array.getElem?_eq_getElem hks, hkl]
      rw [Array.toList_setIfInBounds]
      have := count_set hke
      omega

theorem draw_ok {id : Nat} {ρ : Pl} {a : Act} {w : World} (hm : P.follows .mixedOrders = true) (hback : backEdges ops.toList = true) (h1 : EnvRel ρ s.env a) (h2 : a.defers = []) (h3 : n ≤ a.tmps.size) (h4 : RelF ρ (hp s.h) w) (h5 : Free ρ s.h.length s'.h.length)
    {Q : Exit → Act → World → Prop} (hQ : ∀ a' w' ρ', CPost ρ s s' a w a' w' ρ' → Q .normal a' w') : (Code.region id ops true).wp P Q a w := by
  obtain ⟨hl, hget⟩ := compOpers_get hc
  have hlen : aops.length = ops.size := by simpa using hl
  have hS0 : S 0 = s := ht.first
  have hSm : S ops.size = s' := by rw [← hlen]; exact ht.last
  have hf0 : Free ρ (S 0).h.length (S ops.size).h.length := by rw [hS0, hSm]; exact h5
  refine wp_region_any hm (draw_any hc ht hslots hpairs (w0 := w) (a0 := a) hback hf0 h3 hQ _ _ _ _ ρ (hp s.h) (by simp) ?_)
  have hlf : ∀ j, (Array.replicate ops.size false).getD j false = false := by
    intro j; simp only [Array.getD_eq_getD_getElem?, Array.getElem?_replicate]; split <;> rfl
  refine ⟨by simp, fun j o h => (by rw [hlf] at h; cases h), h4.drawn _, .refl _, fun id pl h1 h2 => (by rw [h1] at h2; cases h2), ?_, ?_, (by rw [hS0]; exact .drawn _ _ _ _ _), ?_, fun i h => (by rw [hlf] at h; cases h), fun id _ _ i h => (by rw [hlf] at h; cases h), h2, rfl⟩
  · intro j hj _ id pl hpl hid _ hch
    have hid0 : id < (S 0).h.length := by
      rcases Nat.lt_or_ge id (S 0).h.length with h | h
      · exact h
      · have := len_mono hc ht (i := j) (j := ops.size) hj (Nat.le_refl _)
        have := hf0 id h (by omega)
        rw [this] at hpl; cases hpl
    have := chain_h hc ht (Nat.zero_le j) hj hid0 fun k _ hk => hch k hk (hlf k)
    rw [this, hS0]
  · intro j hj _ t _ hnd v hv
    have := chain_env hc ht (t := t) (Nat.zero_le j) hj fun k _ hk x hx => hnd k hk (hlf k) x hx
    rw [this, hS0] at hv
    exact h1 t v hv
  · intro id ob' pl h1 h2 h3
    rw [hS0]
    exact ⟨ob', h2, h3, rfl⟩

end
end Go.Ev

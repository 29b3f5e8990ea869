/- What the law leans on, part 2. -/
import Derived.Test.YtgacigcbglflkaaSLo1
import Derived.LoopN
import Derived.ProofKit
import Derived.SizedLaws
import Derived.ChangeArms
set_option linter.unusedSimpArgs false
set_option linter.unusedVariables false
set_option linter.unusedSimpArgs false
set_option linter.unusedVariables false
namespace Go.Ev
open Go.RowKit
section
variable {P : Program} {n base : Nat} {ops : Array Oper} {aops : List AOper} {s s' : St} {recs : List Rec} {S : Nat → St} {R : Nat → Rec}
theorem slots_spec {l : List Oper} {prs : List (Nat × Nat)} (h : slotsOk l prs = true) {i j : Nat} (hp : (i, j) ∈ prs) {a b : Oper} (ha : l[i]? = some a) (hb : l[j]? = some b) :
    (∀ d, a.dst = some d → d ∉ namesOf l b ∧ b.dst ≠ some d) ∧ (∀ d, b.dst = some d → d ∉ namesOf l a) := by
  have := List.all_eq_true.1 h (i, j) hp
  simp only [ha, hb, Bool.and_eq_true] at this
  obtain ⟨h1, h2⟩ := this
  refine ⟨fun d hd => ?_, fun d hd => ?_⟩
  · rw [hd] at h1; simp at h1; exact h1
  · rw [hd] at h2; simpa using h2
variable (hc : compOpers P n ops.toList ops.toList = some aops) (ht : Trace P base aops s s' [] recs S R)
include hc ht
theorem pair_apart (hpairs : pairsOk recs (memPairs aops (openPairs (upsOf ops.toList))) = true) {i j : Nat} (hij : i < j) (hj : j < ops.size) (hp : (i, j) ∈ openPairs (upsOf ops.toList)) :
    (∀ id ∈ (R i).2, ¬ touches (R j) id) ∧ (∀ id ∈ (R j).2, ¬ touches (R i) id) := by
  obtain ⟨hl, hget⟩ := compOpers_get hc
  have hlen : aops.length = ops.size := by simpa using hl
  have hrec : ∀ k, k < ops.size → recs[k]? = some (R k) := by
    intro k hk
    rw [ht.recs]
    simp [hlen, hk]
  have hi : i < ops.size := by omega
  have hai : aops[i]? = some (aops[i]'(by omega)) := List.getElem?_eq_getElem (by omega)
  have haj : aops[j]? = some (aops[j]'(by omega)) := List.getElem?_eq_getElem (by omega)
  generalize aops[i]'(by omega) = ai at hai
  generalize aops[j]'(by omega) = aj at haj
  have hfree : ∀ k ak, aops[k]? = some ak → ak.op.free = true → R k = (some [], []) ∨ ((R k).1 = some [] ∧ (R k).2 = []) := by
    intro k ak hk hf
    rcases ht.step k ak hk with ⟨_, v, H', t, M, hg, _, hr⟩ | ⟨_, _, hr⟩
    · right; rw [hr]; exact hg.free hf
    · left; exact hr
  have hquiet : ∀ k ak, aops[k]? = some ak → ak.op.quiet = true → (R k).2 = [] := by
    intro k ak hk hf
    rcases ht.step k ak hk with ⟨_, v, H', t, M, hg, _, hr⟩ | ⟨_, _, hr⟩
    · rw [hr]; exact hg.quiet hf
    · rw [hr]
  have hnone : ∀ k ak, aops[k]? = some ak → ak.op.free = true → (R k).2 = [] ∧ ∀ id, ¬ touches (R k) id := by
    intro k ak hk hf
    rcases hfree k ak hk hf with h | ⟨h1, h2⟩
    · rw [h]; exact ⟨rfl, fun id h => by simp [touches] at h⟩
    · exact ⟨h2, fun id h => by simp [touches, h1] at h⟩
  by_cases hm : (i, j) ∈ memPairs aops (openPairs (upsOf ops.toList))
  · have := List.all_eq_true.1 hpairs (i, j) hm
    simp only [hrec i hi, hrec j hj] at this
    exact apart_spec this
  · have hx : (ai.op.free || aj.op.free || (ai.op.quiet && aj.op.quiet)) = true := by
      cases hb : (ai.op.free || aj.op.free || (ai.op.quiet && aj.op.quiet)) with
      | true => rfl
      | false =>
        exfalso; apply hm
        unfold memPairs
        rw [List.mem_filter]
        refine ⟨hp, ?_⟩
        simp only [hai, haj, hb, Bool.not_false]
    simp only [Bool.or_eq_true, Bool.and_eq_true] at hx
    rcases hx with (h1 | h1) | ⟨h1, h2⟩
    · obtain ⟨a1, a2⟩ := hnone i ai hai h1
      exact ⟨fun id hid => by rw [a1] at hid; simp at hid, fun id _ => a2 id⟩
    · obtain ⟨a1, a2⟩ := hnone j aj haj h1
      exact ⟨fun id _ => a2 id, fun id hid => by rw [a1] at hid; simp at hid⟩
    · have a1 := hquiet i ai hai h1
      have a2 := hquiet j aj haj h2
      exact ⟨fun id hid => by rw [a1] at hid; simp at hid, fun id hid => by rw [a2] at hid; simp at hid⟩
variable (hslots : slotsOk ops.toList (openPairs (upsOf ops.toList)) = true) (hpairs : pairsOk recs (memPairs aops (openPairs (upsOf ops.toList))) = true)
include hslots hpairs
theorem draw_step {ρ0 : Pl} {a0 : Act} {w0 : World} (hfree0 : Free ρ0 (S 0).h.length (S ops.size).h.length) (hn : n ≤ a0.tmps.size) {listed : Array Bool} {a : Act} {w : World} {ρ : Pl} {c : Nat → Option Ob} (hI : Inv P ops S R ρ0 a0 w0 listed a w ρ c) {k : Nat}
    (hk : k < ops.size) (hkl : listed.getD k false = false) (hready : ∀ o, ops.toList[k]? = some o → ∀ e ∈ o.after.toList, Region.binds .any e = true → listed.getD e.on false = true)
    {Q : Exit → Act → World → Prop} {K : Act → World → Prop} (hK : ∀ a' w' ρ' c', Inv P ops S R ρ0 a0 w0 (listed.setIfInBounds k true) a' w' ρ' c' → K a' w') : wpOp P ops Q k K a w := by
  obtain ⟨hl, hget⟩ := compOpers_get hc
  have hlen : aops.length = ops.size := by simpa using hl
  have hkl' : k < ops.toList.length := by simpa using hk
  obtain ⟨ao, ha1, ha2, ha3, ha4, ha5, ha6⟩ := hget k _ (List.getElem?_eq_getElem hkl')
  have hoL : ops.toList[k]? = some ops.toList[k] := List.getElem?_eq_getElem hkl'
  have hoj : ops[k]? = some ops.toList[k] := by rw [← Array.getElem?_toList]; exact hoL
  generalize ops.toList[k] = o at ha2 ha3 ha4 ha5 ha6 hoj hoL
  have hst := ht.step k ao ha1
  have hks : k < listed.size := by rw [hI.size]; exact hk
  have hls : ∀ j, (listed.setIfInBounds k true).getD j false = if j = k then true else listed.getD j false := fun j => getD_set hks
  have hdst : ∀ d, o.dst = some d → d < a.tmps.size := fun d hd => by rw [hI.tsize]; exact Nat.lt_of_lt_of_le (ha6 d hd) hn
  -- what isn't done yet, ahead of this one, isn't bound to be
  have hun1 : ∀ i, i < k → listed.getD i false = false → (i, k) ∈ openPairs (upsOf ops.toList) := by
    intro i hi hli
    refine open_mem hi hkl' ?_
    cases hb : ((upsOf ops.toList).getD k 0).testBit i with
    | false => rfl
    | true =>
      have := ups_listed (ops := ops.toList) (L := fun j => j = k ∨ listed.getD j false = true) (fun j x hj hx e he hbd => by
        rcases hj with rfl | hj
        · exact .inr (hready x hx e he hbd)
        · exact .inr (hI.down j x hj hx e he hbd)) k (.inl rfl) i hb
      rcases this with rfl | h
      · omega
      · rw [hli] at h; cases h
  -- what is done already, behind this one, isn't bound to it
  have hun2 : ∀ i, k < i → i < ops.size → listed.getD i false = true → (k, i) ∈ openPairs (upsOf ops.toList) := by
    intro i hi him hli
    refine open_mem hi (by simpa using him) ?_
    cases hb : ((upsOf ops.toList).getD i 0).testBit k with
    | false => rfl
    | true =>
      have := ups_listed (ops := ops.toList) (L := fun j => listed.getD j false = true) (fun j x hj hx e he hbd => hI.down j x hj hx e he hbd) i hli k hb
      rw [hkl] at this; cases this
  -- what isn't done yet, ahead or behind: its pair with this one
  have hun3 : ∀ j, j < k → listed.getD j false = false → (j, k) ∈ openPairs (upsOf ops.toList) := hun1
  have hconk : ∀ id, ρ id ≠ none → id < (S k).h.length → touches (R k) id → c id = (S k).h[id]? := by
    intro id hρ hid htc
    obtain ⟨pl, hpl⟩ : ∃ pl, ρ id = some pl := by cases h : ρ id with
      | none => exact absurd h hρ
      | some pl => exact ⟨pl, rfl⟩
    refine hI.con k (by omega) hkl id pl hpl hid (.inr htc) fun i hi hli hch => ?_
    have := (pair_apart hc ht hpairs hi hk (hun1 i hi hli)).1 id (changed_mem hc ht (by omega) hch).1
    exact this htc
  have henvk : ∀ t, t ∈ namesOf ops.toList o → ∀ v, (S k).env.get t = some v → ∃ v', a.tmps[t]? = some v' ∧ VRel ρ v v' := by
    intro t htn
    refine hI.env k (by omega) hkl t (.inr ⟨o, hoL, htn⟩) fun i hi hli x hx hxd => ?_
    exact ((slots_spec hslots (hun1 i hi hli) hx hoL).1 t hxd).1 htn
  have hfreek : Free ρ (S k).h.length (S (k + 1)).h.length := by
    intro id h1 h2
    cases hρ : ρ id with
    | none => rfl
    | some pl =>
      exfalso
      cases h0 : ρ0 id with
      | none =>
        obtain ⟨k', a1, a2, a3, a4⟩ := hI.dom id pl hρ h0
        have hne : k' ≠ k := fun e => by subst e; rw [hkl] at a2; cases a2
        rcases Nat.lt_or_ge k' k with h | h
        · have := len_mono hc ht (i := k' + 1) (j := k) (by omega) (by omega); omega
        · have := len_mono hc ht (i := k + 1) (j := k') (by omega) (by omega); omega
      | some p =>
        have h3 := len_mono hc ht (i := 0) (j := k) (by omega) (by omega)
        have h4 := len_mono hc ht (i := k + 1) (j := ops.size) (by omega) (by omega)
        have := hfree0 id (by omega) (by omega)
        rw [this] at h0; cases h0
  -- the end of the step: from its effect on the heap to what holds behind it
  have finish : ∀ (v : Value) (G G' : List Ob) (v' : Value) (w' : World) (ρ' : Pl), (S (k + 1)).env = (S k).env.put o.dst v → G.length = (S k).h.length → G'.length = (S (k + 1)).h.length → AbsOk G G' (R k).2 → (∀ id : Nat, id ∈ (R k).2 ∨ (S k).h.length ≤ id → G'[id]? = (S (k + 1)).h[id]?) →
      (∀ (id : Nat) ob, G[id]? = some ob → ob.live = true → ρ id ≠ none → c id = some ob) → (∀ id ∈ (R k).2, touches (R k) id → G[id]? = (S k).h[id]?) → Post1 ρ G w v G' v' w' ρ' → K (a.put o.dst v') w' := by
    intro v G G' v' w' ρ' henv hG hG' hab hnew hsub hGM hp
    refine hK _ _ ρ' (mergeC c G' (R k).2 G.length) ?_
    have hfG : Free ρ G.length G'.length := by rw [hG, hG']; exact hfreek
    have hmr := merge_rel hI.rel hsub hp.ext hfG hp.rel hp.frm hab
    have hmf := merge_frm hsub hp.frm hab
    have hmfl := merge_flags (ρ' := ρ') hsub hfG hab
    have hρnew : ∀ {id pl}, ρ' id = some pl → ¬ ((S k).h.length ≤ id ∧ id < (S (k + 1)).h.length) → ρ id = some pl := by
      intro id pl h hnn
      cases hρ : ρ id with
      | none => have := hp.ext.dom id pl h hρ; rw [hG, hG'] at this; exact absurd this hnn
      | some p => have := hp.ext.le id p hρ; rw [h] at this; cases this; rfl
    have hchk : ∀ id, Changed S k id → ρ id ≠ none := by
      intro id hch hno
      have hm := changed_mem hc ht hk hch
      have h1 := hp.pres id (by rw [hG]; exact hch.1) hno
      rw [hnew id (.inl hm.1), hGM id hm.1 hm.2] at h1
      exact hch.2 h1
    refine ⟨by simp [hI.size], ?_, hmr, hI.le.trans hp.ext.le, ?_, ?_, ?_, ?_, ?_, ?_, ?_, by rw [put_defers]; exact hI.defers, by rw [put_size]; exact hI.tsize⟩
    · intro j x hj hx e he hbd
      rw [hls] at hj ⊢
      split
      · rfl
      · split at hj
        · rename_i hjk; subst hjk; exact hready x hx e he hbd
        · exact hI.down j x hj hx e he hbd
    · intro id pl h1 h2
      cases hρ : ρ id with
      | none =>
        have := hp.ext.dom id pl h1 hρ
        rw [hG, hG'] at this
        exact ⟨k, hk, by rw [hls]; simp, this.1, this.2⟩
      | some p =>
        obtain ⟨k', a1, a2, a3, a4⟩ := hI.dom id p hρ h2
        exact ⟨k', a1, by rw [hls]; split <;> simp [a2], a3, a4⟩
    · intro j hj hjl id pl hpl hid htc hch
      rw [hls] at hjl
      have hjk : j ≠ k := fun e => by simp [e] at hjl
      rw [if_neg hjk] at hjl
      have hch' : ∀ i, i < j → i ≠ k → listed.getD i false = false → ¬ Changed S i id := fun i hi hik hli => hch i hi (by rw [hls, if_neg hik]; exact hli)
      unfold mergeC
      rw [hG, hG']
      by_cases hin : id ∈ (R k).2 ∨ ((S k).h.length ≤ id ∧ id < (S (k + 1)).h.length)
      · rw [if_pos hin]
        have hge : id ∈ (R k).2 ∨ (S k).h.length ≤ id := hin.imp (fun z => z) (fun z => z.1)
        rw [hnew id hge]
        have hidk1 : id < (S (k + 1)).h.length := by
          rcases hin with h | h
          · have := hab.ids id h; rw [hG] at this
            have := len_mono hc ht (i := k) (j := k + 1) (by omega) (by omega); omega
          · exact h.2
        rcases Nat.lt_or_ge k j with hkj | hjk'
        · refine (chain_h hc ht (i := k + 1) (j := j) (by omega) hj hidk1 fun i h1 h2 hci => ?_).symm
          cases hli : listed.getD i false with
          | false => exact hch' i h2 (by omega) hli hci
          | true =>
            have him : i < ops.size := by omega
            rcases hin with h | h
            · have hpa := pair_apart hc ht hpairs (by omega : k < i) him (hun2 i (by omega) him hli)
              exact hpa.1 id h (changed_mem hc ht him hci).2
            · have := hI.there i hli id hci
              exact this (hfreek id h.1 h.2)
        · exfalso
          have hjlt : j < k := by omega
          rcases hin with h | h
          · have hpa := pair_apart hc ht hpairs hjlt hk (hun1 j hjlt hjl)
            rcases htc with h' | h'
            · omega
            · exact hpa.2 id h h'
          · have := len_mono hc ht (i := j) (j := k) (by omega) (by omega); omega
      · rw [if_neg hin]
        have hρ := hρnew hpl fun h => hin (.inr h)
        refine hI.con j hj hjl id pl hρ hid htc fun i hi hli => ?_
        by_cases hik : i = k
        · subst hik
          exact fun hci => hin (.inl (changed_mem hc ht hk hci).1)
        · exact hch' i hi hik hli
    · intro j hj hjl t htn hnd v1 hv1
      rw [hls] at hjl
      have hjk : j ≠ k := fun e => by simp [e] at hjl
      rw [if_neg hjk] at hjl
      rw [tmps_put _ _ _ hdst]
      by_cases hdt : o.dst = some t
      · rw [if_pos hdt]
        rcases Nat.lt_or_ge k j with hkj | hjk'
        · have hce := chain_env hc ht (i := k + 1) (j := j) (t := t) (by omega) hj fun i h1 h2 x hx hxd => by
            cases hli : listed.getD i false with
            | false => exact hnd i h2 (by rw [hls, if_neg (by omega)]; exact hli) x hx hxd
            | true =>
              have him : i < ops.size := by omega
              exact ((slots_spec hslots (hun2 i (by omega) him hli) hoL hx).1 t hdt).2 hxd
          rw [hce, henv, get_put, if_pos hdt] at hv1
          cases hv1
          exact ⟨v', rfl, hp.val⟩
        · exfalso
          have hjlt : j < k := by omega
          rcases htn with h' | ⟨x, hx, hxn⟩
          · omega
          · exact (slots_spec hslots (hun1 j hjlt hjl) hx hoL).2 t hdt hxn
      · rw [if_neg hdt]
        obtain ⟨u, h1, h2⟩ := hI.env j hj hjl t htn (fun i hi hli x hx => by
          by_cases hik : i = k
          · subst hik; rw [hoL] at hx; cases hx; exact hdt
          · exact hnd i hi (by rw [hls, if_neg hik]; exact hli) x hx) v1 hv1
        exact ⟨u, h1, h2.mono hp.ext.le⟩
    · exact hI.frm.trans hmf hI.le hp.ext.le hI.flags fun id ob' pl h1 h2 h3 => hmfl id ob' pl (hI.le id pl h1) h2 h3
    · intro id ob' pl h1 h2 h3
      obtain ⟨o2, b1, b2, b3⟩ := hmfl id ob' pl (hI.le id pl h1) h2 h3
      obtain ⟨o3, d1, d2, d3⟩ := hI.flags id o2 pl h1 b1 b2
      exact ⟨o3, d1, d2, d3.trans b3⟩
    · intro i hi id hci
      rw [hls] at hi
      have : ρ id ≠ none := by
        split at hi
        · rename_i hik; subst hik; exact hchk id hci
        · exact hI.there i hi id hci
      intro hno
      cases hρ : ρ id with
      | none => exact this hρ
      | some p => rw [hp.ext.le id p hρ] at hno; cases hno
    · intro id hid hno i hi hci
      rw [hls] at hi
      split at hi
      · rename_i hik; subst hik
        have h1 := hchk id hci
        cases hρ : ρ id with
        | none => exact h1 hρ
        | some p =>
          obtain ⟨k', a1, a2, a3, a4⟩ := hI.dom id p hρ hno
          have := len_mono hc ht (i := 0) (j := k') (by omega) (by omega); omega
      · exact hI.pres id hid hno i hi hci
  -- the guard
  have hw : ∀ b, guardOf (S k).env ao.guard = some b → Region.wanted o (yielded ops a.tmps) = b := fun b hb => wanted_of (ρ := ρ) ha4 hb fun g want d h1 h2 v hv =>
    henvk d (by unfold namesOf; rw [List.mem_append]; right; rw [h1]; have h2' : (ops.toList[g]?).bind (·.dst) = some d := by simpa using h2
                simp only [h2']; simp) v hv
  unfold wpOp
  rw [hoj]
  dsimp only
  rcases hst with ⟨hg, v, H', t, M, hgood, hs1, hr⟩ | ⟨hg, hs1, hr⟩
  · rw [if_pos (hw true hg)]
    left
    have hRM : (R k).2 = M := by rw [hr]
    have hRt : (R k).1 = t := by rw [hr]
    have hS1 : (S (k + 1)).h = H' := by rw [hs1]
    have henv1 : (S (k + 1)).env = (S k).env.put o.dst v := by rw [hs1, ha3]
    have hopr : OpRel ρ (S k).env a o.op.operands.toList := fun x hx u hu => opRel_one (List.all_eq_true.1 ha5 x hx) (fun t' ht' u' hu' => henvk t' (by
      unfold namesOf; rw [List.mem_append]; left; unfold tmpsOf; rw [List.mem_filterMap]; exact ⟨x, hx, by rw [ht']⟩) u' hu') hu
    cases t with
    | none =>
      have htch : ∀ id, touches (R k) id := fun id => by unfold touches; rw [hRt]; trivial
      have hsub : ∀ (id : Nat) ob, (S k).h[id]? = some ob → ob.live = true → ρ id ≠ none → c id = some ob := fun id ob h1 _ h3 => by
        rw [hconk id h3 (List.getElem?_eq_some_iff.1 h1).1 (htch id)]; exact h1
      refine hgood.ok o ha2 ρ a w hopr (hI.rel.forget2 fun id ob h1 h2 h3 => hsub id ob h2 h3 h1) (by rw [← hS1]; exact hfreek) K Q fun v' w' ρ' hp => ?_
      refine finish v (S k).h H' v' w' ρ' henv1 rfl (by rw [hS1]) (by rw [hRM]; exact hgood.abs) (fun id _ => by rw [hS1]) hsub (fun _ _ _ => rfl) hp
    | some l =>
      let G : List Ob := (List.range (S k).h.length).map fun i => if i ∈ l then ((S k).h[i]?).getD Ob.dead else Ob.dead
      have hGl : G.length = (S k).h.length := by simp [G]
      have hGget : ∀ i : Nat, i < (S k).h.length → G[i]? = some (if i ∈ l then ((S k).h[i]?).getD Ob.dead else Ob.dead) := fun i hi => by
        simp only [G, List.getElem?_map, List.getElem?_range hi, Option.map_some]
      have hag : ∀ id ∈ l, G[id]? = (S k).h[id]? := by
        intro id hid
        rcases Nat.lt_or_ge id (S k).h.length with h | h
        · rw [hGget id h, if_pos hid, List.getElem?_eq_getElem h]; rfl
        · rw [List.getElem?_eq_none (by omega), List.getElem?_eq_none h]
      obtain ⟨G', hloc, habs, hokG⟩ := hgood.loc l rfl G hGl hag
      have htc : ∀ id, touches (R k) id ↔ id ∈ l := fun id => by unfold touches; rw [hRt]
      have hsub : ∀ (id : Nat) ob, G[id]? = some ob → ob.live = true → ρ id ≠ none → c id = some ob := by
        intro id ob h1 h2 h3
        have hid : id < (S k).h.length := by have := (List.getElem?_eq_some_iff.1 h1).1; omega
        by_cases hil : id ∈ l
        · rw [hconk id h3 hid ((htc id).2 hil), ← hag id hil]; exact h1
        · rw [hGget id hid, if_neg hil] at h1; cases h1; simp [Ob.dead] at h2
      have hGlen' : G'.length = (S (k + 1)).h.length := by rw [hS1]; exact hloc.len
      refine hokG o ha2 ρ a w hopr (hI.rel.forget2 fun id ob h1 h2 h3 => hsub id ob h2 h3 h1) (by rw [hGl, hGlen']; exact hfreek) K Q fun v' w' ρ' hp => ?_
      exact finish v G G' v' w' ρ' henv1 hGl hGlen' (by rw [hRM]; exact habs) (fun id hid => by rw [hS1]; exact hloc.new id (by rw [hRM] at hid; exact hid)) hsub (fun id _ htt => hag id ((htc id).1 htt)) hp
  · rw [if_neg (by rw [hw false hg]; simp)]
    have hS1 : (S (k + 1)).h = (S k).h := by rw [hs1]
    let G : List Ob := (List.range (S k).h.length).map fun _ => Ob.dead
    have hGget : ∀ (i : Nat) ob, G[i]? = some ob → ob = Ob.dead := fun i ob h => by
      have hi : i < (S k).h.length := by have := (List.getElem?_eq_some_iff.1 h).1; simpa [G] using this
      simp only [G, List.getElem?_map, List.getElem?_range hi, Option.map_some, Option.some.injEq] at h; exact h.symm
    have hsub : ∀ (id : Nat) ob, G[id]? = some ob → ob.live = true → ρ id ≠ none → c id = some ob := fun id ob h1 h2 _ => by rw [hGget id ob h1] at h2; simp [Ob.dead] at h2
    refine finish undef G G undef w ρ (by rw [hs1, ha3]) (by simp [G]) (by rw [hS1]; simp [G]) (by rw [hr]; exact .refl _ _ (by simp)) (fun id hid => ?_) hsub (fun id hid => by rw [hr] at hid; simp at hid) ⟨⟨.refl _ _ _, .tuple .nil, hI.rel.forget2 fun id ob h1 h2 h3 => hsub id ob h2 h3 h1, .refl _ _ _ _⟩, fun _ _ _ => rfl⟩
    rw [hr] at hid
    rcases hid with h | h
    · simp at h
    · rw [List.getElem?_eq_none (by simpa [G] using h), List.getElem?_eq_none (by rw [hS1]; exact h)]
theorem draw_any {ρ0 : Pl} {a0 : Act} {w0 : World} (hback : backEdges ops.toList = true) (hfree0 : Free ρ0 (S 0).h.length (S ops.size).h.length) (hn : n ≤ a0.tmps.size) {Q : Exit → Act → World → Prop}
    (hQ : ∀ a w ρ, CPost ρ0 s s' a0 w0 a w ρ → Q .normal a w) : ∀ (fuel : Nat) (listed : Array Bool) (a : Act) (w : World) (ρ : Pl) (c : Nat → Option Ob), listed.toList.count false = fuel → Inv P ops S R ρ0 a0 w0 listed a w ρ c → wpAny P .any ops Q fuel listed a w := by
  obtain ⟨hl, hget⟩ := compOpers_get hc
  have hlen : aops.length = ops.size := by simpa using hl
  -- all is done
  have hend : ∀ (listed : Array Bool) (a : Act) (w : World) (ρ : Pl) (c : Nat → Option Ob), Inv P ops S R ρ0 a0 w0 listed a w ρ c → (∀ j, j < ops.size → listed.getD j false = true) → Q .normal a w := by
    intro listed a w ρ c hI hall
    have hS0 : S 0 = s := ht.first
    have hSm : S ops.size = s' := by rw [← hlen]; exact ht.last
    have hnm : listed.getD ops.size false = false := by simp [Array.getD_eq_getD_getElem?, hI.size]
    have hcon : ∀ id pl, ρ id = some pl → id < s'.h.length → c id = s'.h[id]? := fun id pl h1 h2 => by
      rw [← hSm] at h2 ⊢
      exact hI.con ops.size (Nat.le_refl _) hnm id pl h1 h2 (.inl rfl) fun i hi hli => by rw [hall i hi] at hli; cases hli
    refine hQ a w ρ ⟨?_, hI.defers, hI.tsize, ⟨hI.le, fun id pl h1 h2 => ?_⟩, ?_, ?_, ?_⟩
    · intro t v hv
      rw [← hSm] at hv
      exact hI.env ops.size (Nat.le_refl _) hnm t (.inl rfl) (fun i hi hli => by rw [hall i hi] at hli; cases hli) v hv
    · obtain ⟨k, a1, a2, a3, a4⟩ := hI.dom id pl h1 h2
      have h3 := len_mono hc ht (i := 0) (j := k) (by omega) (by omega)
      have h4 := len_mono hc ht (i := k + 1) (j := ops.size) (by omega) (by omega)
      rw [hS0] at h3; rw [hSm] at h4
      omega
    · refine hI.rel.forget2 fun id ob h1 h2 _ => ?_
      cases hρ : ρ id with
      | none => exact absurd hρ h1
      | some pl => rw [hcon id pl hρ (List.getElem?_eq_some_iff.1 h2).1]; exact h2
    · have hf := hI.frm
      rw [hS0] at hf
      refine ⟨hf.os, hf.tape, hf.output, hf.size, hf.blocks, fun id pl h1 h2 => (hf.fresh id pl h1 h2).imp (fun z => z) fun ⟨i, ob, p0, b1, b2, b3, b4, b5, b6⟩ => ⟨i, ob, p0, b1, b2, b3, b4, b5, fun ob' h' => ?_⟩⟩
      refine b6 ob' ?_
      rw [hcon i p0 (hI.le i p0 b2) (List.getElem?_eq_some_iff.1 h').1]; exact h'
    · intro id h1 h2
      rw [← hSm, ← hS0]
      rw [← hS0] at h1
      refine chain_h hc ht (Nat.zero_le _) (Nat.le_refl _) h1 fun k _ hk => hI.pres id h1 h2 k (hall k hk)
  -- what isn't done has a least one, and it is ready
  have hleast : ∀ (listed : Array Bool), listed.size = ops.size → Region.ready .any ops listed = [] → ∀ j, j < ops.size → listed.getD j false = true := by
    intro listed hsz hr j
    induction j using Nat.strongRecOn with
    | _ j ih =>
      intro hj
      cases hlj : listed.getD j false with
      | true => rfl
      | false =>
        exfalso
        have hmem : j ∈ Region.ready .any ops listed := by
          unfold Region.ready
          rw [List.mem_filter]
          refine ⟨List.mem_range.2 hj, ?_⟩
          have h1 : listed.getD j true = false := by
            rcases getD_of listed j with h | h
            · simp only [Array.getD_eq_getD_getElem?] at h hlj
              rw [Array.getElem?_eq_getElem (by omega)] at h hlj
              simp only [Option.getD_some] at h hlj
              rw [h] at hlj; cases hlj
            · simp only [Array.getD_eq_getD_getElem?] at h ⊢
              rw [Array.getElem?_eq_getElem (by omega)] at h ⊢
              simpa using h.1
          have h2 : ops[j]? = some ops[j] := Array.getElem?_eq_getElem hj
          rw [h1, h2]
          simp only [Bool.not_false, Bool.true_and, Option.map_some, Option.getD_some]
          rw [← Array.all_toList, List.all_eq_true]
          intro e he
          cases hb : Region.binds .any e with
          | false => rfl
          | true =>
            have hlt : e.on < j := by
              have := List.all_eq_true.1 hback (j, ops[j]) (idx_mem (by rw [Array.getElem?_toList]; exact h2))
              have := List.all_eq_true.1 this e he
              simpa [hb] using this
            simp only [Bool.not_true, Bool.false_or]
            exact ih e.on hlt (by omega)
        rw [hr] at hmem; simp at hmem
  intro fuel
  induction fuel with
  | zero =>
    intro listed a w ρ c hf hI
    have hall : ∀ j, j < ops.size → listed.getD j false = true := by
      intro j hj
      cases hlj : listed.getD j false with
      | true => rfl
      | false =>
        exfalso
        simp only [Array.getD_eq_getD_getElem?] at hlj
        rw [Array.getElem?_eq_getElem (by rw [hI.size]; exact hj)] at hlj
        simp only [Option.getD_some] at hlj
        have : false ∈ listed.toList := by rw [← hlj]; exact Array.getElem_mem_toList _
        have := List.count_pos_iff.2 this
        omega
    refine ⟨?_, hend listed a w ρ c hI hall⟩
    unfold Region.ready
    rw [List.filter_eq_nil_iff]
    intro j hj
    have := hall j (List.mem_range.1 hj)
    have h1 : listed.getD j true = true := by
      simp only [Array.getD_eq_getD_getElem?] at this ⊢
      rw [Array.getElem?_eq_getElem (by rw [hI.size]; exact List.mem_range.1 hj)] at this ⊢
      exact this
    simp [h1]
  | succ fuel ih =>
    intro listed a w ρ c hf hI
    refine ⟨fun hr => hend listed a w ρ c hI (hleast listed hI.size hr), fun k hk => ?_⟩
    unfold Region.ready at hk
    rw [List.mem_filter] at hk
    obtain ⟨hk1, hk2⟩ := hk
    have hk1 := List.mem_range.1 hk1
    simp only [Bool.and_eq_true, Bool.not_eq_true'] at hk2
    obtain ⟨hk2, hk3⟩ := hk2
    have hks : k < listed.size := by rw [hI.size]; exact hk1
    have hkl : listed.getD k false = false := by
      simp only [Array.getD_eq_getD_getElem?] at hk2 ⊢
      rw [Array.getElem?_eq_getElem hks] at hk2 ⊢
      exact hk2
    refine draw_step hc ht hslots hpairs hfree0 hn hI hk1 hkl (fun o ho e he hb => ?_) fun a' w' ρ' c' hI' => ih _ a' w' ρ' c' ?_ hI'
    · have h2 : ops[k]? = some o := by rw [← Array.getElem?_toList]; exact ho
      rw [h2] at hk3
      simp only [Option.map_some, Option.getD_some] at hk3
      rw [← Array.all_toList, List.all_eq_true] at hk3
      have := hk3 e he
      simpa [hb] using this
    · have hke : listed.toList[k]? = some false := by
        simp only [Array.getD_eq_getD_getElem?] at hkl
        rw [Array.getElem?_eq_getElem hks] at hkl
        simp only [Option.getD_some] at hkl
        rw [Array.getElem?_toList, Array.getElem?_eq_getElem hks, hkl]
      rw [Array.toList_setIfInBounds]
      have := count_set hke
      omega
theorem draw_ok {id : Nat} {ρ : Pl} {a : Act} {w : World} (hm : P.follows .mixedOrders = true) (hback : backEdges ops.toList = true) (h1 : EnvRel ρ s.env a) (h2 : a.defers = []) (h3 : n ≤ a.tmps.size) (h4 : RelF ρ (hp s.h) w) (h5 : Free ρ s.h.length s'.h.length)
    {Q : Exit → Act → World → Prop} (hQ : ∀ a' w' ρ', CPost ρ s s' a w a' w' ρ' → Q .normal a' w') : (Code.region id ops true).wp P Q a w := by
  obtain ⟨hl, hget⟩ := compOpers_get hc
  have hlen : aops.length = ops.size := by simpa using hl
  have hS0 : S 0 = s := ht.first
  have hSm : S ops.size = s' := by rw [← hlen]; exact ht.last
  have hf0 : Free ρ (S 0).h.length (S ops.size).h.length := by rw [hS0, hSm]; exact h5
  refine wp_region_any hm (draw_any hc ht hslots hpairs (w0 := w) (a0 := a) hback hf0 h3 hQ _ _ _ _ ρ (hp s.h) (by simp) ?_)
  have hlf : ∀ j, (Array.replicate ops.size false).getD j false = false := by
    intro j; simp only [Array.getD_eq_getD_getElem?, Array.getElem?_replicate]; split <;> rfl
  refine ⟨by simp, fun j o h => (by rw [hlf] at h; cases h), h4.drawn _, .refl _, fun id pl h1 h2 => (by rw [h1] at h2; cases h2), ?_, ?_, (by rw [hS0]; exact .drawn _ _ _ _ _), ?_, fun i h => (by rw [hlf] at h; cases h), fun id _ _ i h => (by rw [hlf] at h; cases h), h2, rfl⟩
  · intro j hj _ id pl hpl hid _ hch
    have hid0 : id < (S 0).h.length := by
      rcases Nat.lt_or_ge id (S 0).h.length with h | h
      · exact h
      · have := len_mono hc ht (i := j) (j := ops.size) hj (Nat.le_refl _)
        have := hf0 id h (by omega)
        rw [this] at hpl; cases hpl
    have := chain_h hc ht (Nat.zero_le j) hj hid0 fun k _ hk => hch k hk (hlf k)
    rw [this, hS0]
  · intro j hj _ t _ hnd v hv
    have := chain_env hc ht (t := t) (Nat.zero_le j) hj fun k _ hk x hx => hnd k hk (hlf k) x hx
    rw [this, hS0] at hv
    exact h1 t v hv
  · intro id ob' pl h1 h2 h3
    rw [hS0]
    exact ⟨ob', h2, h3, rfl⟩
end
end Go.Ev
set_option linter.unusedSimpArgs false
set_option linter.unusedVariables false
namespace Go.Ev
open Go.RowKit
def exitOf : AExit → Exit
  | .normal => .normal
  | .exit id => .exit id
  | .ret => .ret
section
variable {P : Program} {T : Tab}
theorem load_run {ρ : Pl} {H : List Ob} {w : World} (hrel : RelF ρ (hp H) w) {ad : Addr} {pl : Place} (e1 : ρ ad.block = some pl) {ob : Ob} (hob : liveAt H ad.block = some ob) {n : Option Nat} {ty : TypeId} (ha : aggT P ty = some n) {u : Value} (hu : partL n ob.cells ad.off = some u) :
    ∃ u', (loadVar ty ⟨pl.block, pl.base + ad.off, none⟩).run P w = .ok u' w ∧ VRel ρ u u' := by
  obtain ⟨hob1, hob2⟩ := liveAt_inv hob
  obtain ⟨_, _, cs, el, fr, g1, g2, g3, g4, _⟩ := hrel.obj _ _ _ hob1 e1 hob2
  obtain ⟨b, hb, hbn, hk⟩ := run_aggT (P := P) (w := w) ha
  cases n with
  | none =>
    simp only [Option.isSome_none] at hbn; subst hbn
    obtain ⟨_, u', g5, g6⟩ := g4 ad.off u hu
    have hc : w.cell? ⟨pl.block, pl.base + ad.off, none⟩ = some u' := by rw [cell_at g1]; exact g5
    exact ⟨u', by simp [loadVar, hb, hc], g6⟩
  | some n =>
    simp only [Option.isSome_some] at hbn; subst hbn
    simp only [partL] at hu
    split at hu
    · rename_i hle
      cases hu
      refine ⟨.agg ((cs.toList.drop (pl.base + ad.off)).take n).toArray, ?_, ?_⟩
      · have := run_loadCells (P := P) (n := n) (off := pl.base + ad.off) g1 (by omega)
        simp only [loadVar, hb, run_sizeT (hk n rfl), this, Sem.run_bind, Result.andThen_ok, Sem.run_pure, Sem.run_ite, if_true]
      · refine .agg (LRel.of_get (by simp; omega) fun i u hi => ?_) fun x hx => ?_
        · simp only [List.getElem?_take, List.getElem?_drop] at hi ⊢
          split at hi
          · rename_i hlt
            obtain ⟨_, u', g5, g6⟩ := g4 _ u hi
            exact ⟨u', by rw [if_pos hlt]; simpa [Nat.add_assoc] using g5, g6⟩
          · cases hi
        · have hx' := List.mem_of_mem_drop (List.mem_of_mem_take hx)
          obtain ⟨i, hi⟩ := List.getElem?_of_mem hx'
          exact (g4 i x hi).1
    · cases hu
theorem env_get {ρ : Pl} {args args' : List Value} (h : LRel ρ args args') : ∀ (k t : Nat) (v : Value), (envOf k args).get t = some v → ∃ v', k ≤ t ∧ args'[t - k]? = some v' ∧ VRel ρ v v' := by
  induction args generalizing args' with
  | nil => intro k t v h; simp [envOf, Env.get] at h
  | cons x args ih =>
    cases h with
    | cons hx hl =>
      intro k t v hv
      simp only [envOf, Env.get] at hv
      split at hv
      · subst_vars; cases hv; exact ⟨_, Nat.le_refl _, by simp, hx⟩
      · rename_i hne
        obtain ⟨v', h1, h2, h3⟩ := ih hl (k + 1) t v hv
        refine ⟨v', by omega, ?_, h3⟩
        rw [show t - k = (t - (k + 1)) + 1 by omega]
        simpa using h2
def resOne (a : Act) (r : ResultVar) : Sem Value :=
  match r with
  | .tmp t => pure (a.tmps.getD t undef)
  | .cell a' t => do loadVar t (← asAddr (a.tmps.getD a' undef))
def resA (P : Program) (r : ResultVar) : Option (Nat × Option (Option Nat)) :=
  match r with
  | .tmp t => some (t, none)
  | .cell a t => (aggT P t).map fun n => (a, some n)
theorem results_run {ρ : Pl} {e : Env} {a : Act} {H : List Ob} {w : World} (henv : EnvRel ρ e a) (hrel : RelF ρ (hp H) w) : ∀ {rs : List ResultVar} {ars : List (Nat × Option (Option Nat))} {vs : List Value},
    rs.mapM (resA P) = some ars → resultOf e H ars = some vs → ∃ vs', (rs.mapM (resOne a)).run P w = .ok vs' w ∧ LRel ρ vs vs'
  | [], ars, vs, h, hr => by
    simp at h; subst h
    simp [resultOf] at hr; subst hr
    exact ⟨[], by simp, .nil⟩
  | r :: rs, ars, vs, h, hr => by
    rw [List.mapM_cons] at h
    simp only [bind, Option.bind_eq_some_iff, pure, Option.some.injEq] at h
    obtain ⟨ar, h1, ars', h2, rfl⟩ := h
    cases r with
    | tmp t =>
      simp only [resA, Option.some.injEq] at h1
      subst h1
      simp only [resultOf, Option.bind_eq_some_iff, Option.some.injEq] at hr
      obtain ⟨v, hv, v2, rfl, vs', hvs, rfl⟩ := hr
      obtain ⟨us, e1, e2⟩ := results_run henv hrel h2 hvs
      obtain ⟨v', e3, e4⟩ := henv t v hv
      have e5 : (resOne a (.tmp t)).run P w = .ok v' w := by simp [resOne, e3]
      refine ⟨v' :: us, ?_, .cons e4 e2⟩
      rw [List.mapM_cons]
      simp only [Sem.run_bind, Sem.run_pure, Result.andThen_ok, e1, e5]
    | cell ad ty =>
      simp only [resA, Option.map_eq_some_iff] at h1
      obtain ⟨n, hn, rfl⟩ := h1
      simp only [resultOf, Option.bind_eq_some_iff] at hr
      obtain ⟨v, hv, u, hu, vs', hvs, hr⟩ := hr
      simp only [Option.some.injEq] at hr
      subst hr
      obtain ⟨us, e1, e2⟩ := results_run henv hrel h2 hvs
      obtain ⟨v', e3, e4⟩ := henv ad v hv
      split at hu
      · rename_i a2
        simp only [Option.bind_eq_some_iff] at hu
        obtain ⟨ob, hob, hu⟩ := hu
        split at hu
        · obtain ⟨pl, e5, e6, rfl⟩ := e4.ptr_inv
          obtain ⟨u', e7, e8⟩ := load_run (P := P) hrel e5 hob hn hu
          have e9 : (resOne a (.cell ad ty)).run P w = .ok u' w := by simp [resOne, e3, asAddr, e7]
          refine ⟨u' :: us, ?_, .cons e8 e2⟩
          rw [List.mapM_cons]
          simp only [Sem.run_bind, Sem.run_pure, Result.andThen_ok, e1, e9]
        · cases hu
      · cases hu
theorem packed_rel {ρ : Pl} {vs vs' : List Value} (h : LRel ρ vs vs') : VRel ρ (packed vs) (packed vs') := by
  cases h with
  | nil => exact .tuple .nil
  | cons a b => cases b with
    | nil => exact a
    | cons c d => exact .tuple (.cons a (.cons c d))
theorem results_packed {a : Act} {w : World} {fn : Func} {vs' : List Value} (h : (fn.results.toList.mapM (resOne a)).run P w = .ok vs' w) : (results fn a.tmps).run P w = .ok (packed vs') w := by
  have h1 : results fn a.tmps = (do
    let vs ← fn.results.mapM (resOne a)
    pure (if h : vs.size = 1 then vs[0] else .tuple vs)) := by
    unfold results
    have : (fun r => match r with
      | ResultVar.tmp t => pure (a.tmps.getD t undef)
      | ResultVar.cell a' t => do loadVar t (← asAddr (a.tmps.getD a' undef)) : ResultVar → Sem Value) = resOne a := by funext r; cases r <;> rfl
    rw [← this]
    rfl
  rw [h1]
  have h2 : fn.results.mapM (resOne a) = List.toArray <$> fn.results.toList.mapM (resOne a) := by
    rw [← List.mapM_toArray]
  rw [h2]
  simp only [Sem.run_bind, Sem.run_map, h, Result.andThen_ok, Sem.run_pure]
  congr 1
  match vs' with
  | [] => rfl
  | [x] => rfl
  | x :: y :: l => simp [packed]
theorem comp_region {n : Nat} {code : Code} {l : List AOper} {prs : List (Nat × Nat)} (h : comp P n code = some (.region l none prs)) : ∃ id ops draw, code = .region id ops draw ∧ compOpers P n ops.toList ops.toList = some l ∧
    (draw = true → backEdges ops.toList = true ∧ slotsOk ops.toList (openPairs (upsOf ops.toList)) = true ∧ prs = memPairs l (openPairs (upsOf ops.toList))) := by
  cases code with
  | region id ops draw =>
    simp only [comp, Option.bind_eq_some_iff] at h
    obtain ⟨l', h1, h⟩ := h
    refine ⟨id, ops, draw, rfl, ?_⟩
    split at h
    · split at h
      · rename_i hb
        simp only [Bool.and_eq_true] at hb
        simp only [Option.some.injEq, ACode.region.injEq] at h
        obtain ⟨rfl, _, rfl⟩ := h
        exact ⟨h1, fun _ => ⟨hb.1, hb.2, rfl⟩⟩
      · cases h
    · rename_i hd
      simp only [Option.some.injEq, ACode.region.injEq] at h
      obtain ⟨rfl, _, rfl⟩ := h
      exact ⟨h1, fun hd' => absurd hd' (by simpa using hd)⟩
  | _ => simp [comp, Option.bind_eq_some_iff] at h
theorem comp_seq {n : Nat} {code : Code} {x y : ACode} (h : comp P n code = some (.seq x y)) : ∃ a b, code = .seq a b ∧ comp P n a = some x ∧ comp P n b = some y := by
  cases code with
  | seq a b =>
    simp only [comp, Option.bind_eq_some_iff, Option.map_eq_some_iff, ACode.seq.injEq] at h
    obtain ⟨x', h1, y', h2, rfl, rfl⟩ := h
    exact ⟨a, b, rfl, h1, h2⟩
  | region id ops draw => simp only [comp, Option.bind_eq_some_iff] at h; obtain ⟨_, _, h⟩ := h; split at h <;> (try split at h) <;> simp at h
  | _ => simp [comp, Option.bind_eq_some_iff] at h
theorem comp_cond {n : Nat} {code : Code} {c : Operand} {x y : ACode} (h : comp P n code = some (.cond c x y)) : ∃ a b, code = .cond c a b ∧ okConst c = true ∧ comp P n a = some x ∧ comp P n b = some y := by
  cases code with
  | cond c' a b =>
    simp only [comp] at h
    split at h
    · simp only [Option.bind_eq_some_iff, Option.map_eq_some_iff, ACode.cond.injEq] at h
      obtain ⟨x', h1, y', h2, rfl, rfl, rfl⟩ := h
      exact ⟨a, b, rfl, by assumption, h1, h2⟩
    · cases h
  | region id ops draw => simp only [comp, Option.bind_eq_some_iff] at h; obtain ⟨_, _, h⟩ := h; split at h <;> (try split at h) <;> simp at h
  | _ => simp [comp, Option.bind_eq_some_iff] at h
theorem comp_block {n id : Nat} {code : Code} {x : ACode} (h : comp P n code = some (.block id x)) : ∃ a, code = .block id a ∧ comp P n a = some x := by
  cases code with
  | block i a =>
    simp only [comp, Option.map_eq_some_iff, ACode.block.injEq] at h
    obtain ⟨x', h1, rfl, rfl⟩ := h
    exact ⟨a, rfl, h1⟩
  | region id ops draw => simp only [comp, Option.bind_eq_some_iff] at h; obtain ⟨_, _, h⟩ := h; split at h <;> (try split at h) <;> simp at h
  | cond c a b => simp only [comp] at h; split at h <;> simp [Option.bind_eq_some_iff] at h
  | _ => simp [comp, Option.bind_eq_some_iff] at h
theorem comp_loop {n : Nat} {code : Code} {x : ACode} (h : comp P n code = some (.loop x)) : ∃ a, code = .loop a ∧ comp P n a = some x := by
  cases code with
  | loop a =>
    simp only [comp, Option.map_eq_some_iff, ACode.loop.injEq] at h
    obtain ⟨x', h1, rfl⟩ := h
    exact ⟨a, rfl, h1⟩
  | region id ops draw => simp only [comp, Option.bind_eq_some_iff] at h; obtain ⟨_, _, h⟩ := h; split at h <;> (try split at h) <;> simp at h
  | cond c a b => simp only [comp] at h; split at h <;> simp [Option.bind_eq_some_iff] at h
  | _ => simp [comp, Option.bind_eq_some_iff] at h
theorem comp_leaf {n : Nat} {code : Code} {x : ACode} (hx : x = .skip ∨ x = .ret ∨ ∃ id, x = .exit id) (h : comp P n code = some x) : (x = .skip → code = .skip) ∧ (x = .ret → code = .ret) ∧ (∀ id, x = .exit id → code = .exit id) := by
  cases code with
  | region id ops draw => simp only [comp, Option.bind_eq_some_iff] at h; obtain ⟨_, _, h⟩ := h; split at h <;> (try split at h) <;> simp at h <;> subst h <;> simp at hx
  | cond c a b => simp only [comp] at h; split at h <;> simp [Option.bind_eq_some_iff] at h; obtain ⟨_, _, _, _, rfl⟩ := h; simp at hx
  | seq a b => simp [comp, Option.bind_eq_some_iff] at h; obtain ⟨_, _, _, _, rfl⟩ := h; simp at hx
  | block i a => simp [comp] at h; obtain ⟨_, _, rfl⟩ := h; simp at hx
  | loop a => simp [comp] at h; obtain ⟨_, _, rfl⟩ := h; simp at hx
  | skip => simp [comp] at h; subst h; simp
  | exit i => simp [comp] at h; subst h; simp
  | ret => simp [comp] at h; subst h; simp
  | _ => simp [comp] at h
def GoodN (P : Program) (N : Nat) (code : Code) (Q : Exit → Act → World → Prop) (a : Act) (w : World) : Prop :=
  match code with
  | .loop b => Code.rounds P b Q N a w
  | c => c.wp P Q a w
theorem GoodN.wp {N : Nat} {code : Code} {Q : Exit → Act → World → Prop} {a : Act} {w : World} (h : GoodN P N code Q a w) : code.wp P Q a w := by
  cases code with
  | loop b => exact wp_loop_rounds N h
  | _ => exact h
def CodeOk (P : Program) (c : ACode) (s : St) (x : AExit) (s' : St) : Prop := ∃ N, ∀ (n : Nat) (code : Code), comp P n code = some c.strip → ∀ (ρ : Pl) (a : Act) (w : World), EnvRel ρ s.env a → a.defers = [] → n ≤ a.tmps.size → RelF ρ (hp s.h) w → Free ρ s.h.length s'.h.length →
  ∀ Q : Exit → Act → World → Prop, (∀ a' w' ρ', CPost ρ s s' a w a' w' ρ' → Q (exitOf x) a' w') → GoodN P N code Q a w
theorem compFun_inv {fn : Func} {af : AFun} (h : compFun P fn = some af.strip) : ∃ code, fn.body = some code ∧ comp P fn.ntmps code = some af.body.strip ∧ fn.results.toList.mapM (resA P) = some af.results := by
  simp only [compFun, Option.bind_eq_some_iff, Option.map_eq_some_iff] at h
  obtain ⟨code, h1, a, h2, rs, h3, h4⟩ := h
  simp only [AFun.strip, AFun.mk.injEq] at h4
  obtain ⟨rfl, rfl⟩ := h4
  refine ⟨code, h1, h2, ?_⟩
  rw [← h3]
  congr 1
theorem cpost_refl {ρ : Pl} {s : St} {a : Act} {w : World} (h1 : EnvRel ρ s.env a) (h2 : a.defers = []) (h3 : RelF ρ (hp s.h) w) : CPost ρ s s a w a w ρ := ⟨h1, h2, rfl, .refl _ _ _, h3, .refl _ _ _ _, fun _ _ _ => rfl⟩
theorem call_sound (hT : TabOk P T) {f : FuncId} {args : List Value} {H : List Ob} {fn : AFun} (hfn : T.fn f = some fn) {x : AExit} {s' : St} (hx : ∀ id, x ≠ .exit id) (hcode : CodeOk P fn.body ⟨envOf 0 args, H, []⟩ x s') {vs : List Value}
    (hres : resultOf s'.env s'.h fn.results = some vs) : CallOk P f args H (packed vs) s'.h := by
  obtain ⟨pf, h1, h2, h3⟩ := hT.fn f fn hfn
  obtain ⟨code, h4, h5, h6⟩ := compFun_inv h2
  obtain ⟨N, hN⟩ := hcode
  intro ρ args' w hl hrel hfree o a K Q hK
  have hcf : (callFunc f args'.toArray).run P w = .ok (.enter f args'.toArray) w := by
    have h3' : ¬ (pf.name = "runtime.NumGoroutine") := by simpa using h3
    simp [callFunc, h1, h3', h4]
  rw [hcf, Oper.upon_enter]
  refine calls_of_wp h1 h4 ?_
  refine (hN pf.ntmps code h5 ρ _ w ?_ rfl ?_ hrel hfree _ fun a' w' ρ' hp => ?_).wp
  · intro t v hv
    obtain ⟨v', g1, g2, g3⟩ := env_get hl 0 t v hv
    refine ⟨v', ?_, g3⟩
    have hlt := (List.getElem?_eq_some_iff.1 g2).1
    rw [Array.getElem?_append_left (by simpa using hlt)]
    simpa using g2
  · simp; omega
  · obtain ⟨vs', g1, g2⟩ := results_run (P := P) hp.env hp.rel h6 hres
    have g3 := results_packed g1
    have hfin : bodyPost P pf (fun | .returned v, w'' => K (a.put o.dst v) w'' | .panicked chain, w'' => Q (.panic chain) a w'' | .outgrown, _ => LetsOut Q) .normal a' w' :=
      ⟨hp.defers, _, g3, hK _ _ ρ' ⟨⟨hp.ext, packed_rel g2, hp.rel, hp.frm⟩, hp.pres⟩⟩
    cases x with
    | normal => exact hfin
    | ret => exact hfin
    | exit id => exact absurd rfl (hx id)
theorem cabs_abs {H : List Ob} {e : Env} {s' : St} (h : CAbs H.length ⟨e, H, []⟩ s') : AbsOk H s'.h s'.log := by
  refine ⟨h.len, h.flags, fun id h1 h2 => h.log id h1 h1 h2, fun id hid => ?_⟩
  rcases h.ids id hid with h1 | h1
  · simp at h1
  · exact h1.1
def M1 (P : Program) (f : Nat) (args : List Value) (H : List Ob) (r : Value × List Ob × List Nat) : Prop := CallOk P f args H r.1 r.2.1 ∧ AbsOk H r.2.1 r.2.2
def M2 (P : Program) (base : Nat) (c : ACode) (s : St) (r : AExit × St) : Prop := CAbs base s r.2 ∧ CodeOk P c s r.1 r.2
def M3 (P : Program) (base : Nat) (aops : List AOper) (s : St) (recs : List Rec) (r : St × List Rec) : Prop := ∃ S R, Trace P base aops s r.1 recs r.2 S R
def M4 (P : Program) (ao : AOp) (e : Env) (H : List Ob) (r : Value × List Ob × Option (List Nat) × List Nat) : Prop := StepGood P ao e H r.1 r.2.1 r.2.2.1 r.2.2.2
theorem good_call_ref {f : FuncId} {xs : List Operand} {e : Env} {args : List Value} {H H' : List Ob} {v : Value} {M : List Nat} (hx : opds e xs = some args) (hc : CallOk P f args H v H') (ha : AbsOk H H' M) : StepGood P (.call f xs false) e H v H' none M :=
  ⟨ha, fun o ho => operOk_call ho hx hc, fun l h => (by cases h), fun l h => (by cases h), fun h => (by simp [AOp.free] at h), fun h => (by simp [AOp.quiet] at h)⟩
theorem good_callv {f : Operand} {xs : List Operand} {e : Env} {g : FuncId} {fi ca : Array Value} {args : List Value} {H H' : List Ob} {v : Value} {M : List Nat} (hf : opd e f = some (.func (.func g) fi ca)) (hx : opds e xs = some args)
    (hc : CallOk P g (fi.toList ++ args ++ ca.toList) H v H') (ha : AbsOk H H' M) : StepGood P (.callv f xs) e H v H' none M :=
  ⟨ha, fun o ho => operOk_callv ho hf hx hc, fun l h => (by cases h), fun l h => (by cases h), fun h => (by simp [AOp.free] at h), fun h => (by simp [AOp.quiet] at h)⟩
theorem good_call_val {f : FuncId} {xs : List Operand} {e : Env} {args : List Value} {H0 H : List Ob} {v : Value} (hx : opds e xs = some args) (hc : CallOk P f args [] v H0) (ha : args.all rf = true) (hv : rf v = true) : StepGood P (.call f xs true) e H v H (some []) [] :=
  ⟨.refl _ _ (by simp), fun o ho => operOk_call ho hx (callOk_byVal hc ha hv H), fun l h G hG _ => ⟨G, ⟨hG, fun id h => by
    rcases h with h | h
    · simp at h
    · rw [List.getElem?_eq_none (by omega), List.getElem?_eq_none h]⟩, .refl _ _ (by simp), fun o ho => operOk_call ho hx (callOk_byVal hc ha hv G)⟩, fun l h id hid => (by simp at hid), fun _ => ⟨rfl, rfl⟩, fun _ => rfl⟩
theorem LRel.of_all {ρ : Pl} : ∀ {l l' : List Value}, LRel ρ l l' → l.all rf = true → l' = l
  | [], _, h, _ => by cases h; rfl
  | _ :: _, _, h, ha => by
    cases h with
    | cons hx hr =>
      simp only [List.all_cons, Bool.and_eq_true] at ha
      rw [hx.of_rf ha.1, LRel.of_all hr ha.2]
theorem good_ext (hT : TabOk P T) {f : FuncId} {args : List Value} {H : List Ob} {v : Value} (hn : T.fn f = none) (he : T.ext f args = some v) (ha : args.all rf = true) : CallOk P f args H v H := by
  obtain ⟨h1, h2⟩ := hT.ext f args v hn he ha
  intro ρ args' w hl hrel hfree o a K Q hK
  have : args' = args := LRel.of_all hl ha
  subst this
  rw [h2 w]
  exact hK v w ρ ⟨⟨.refl _ _ _, h1 ρ, hrel, .refl _ _ _ _⟩, fun _ _ _ => rfl⟩
theorem eval_bool {ρ : Pl} {e : Env} {a : Act} {c : Operand} {b : Bool} (hc : okConst c = true) (henv : EnvRel ρ e a) (h : opd e c = some (.bool b)) : a.eval c = .bool b :=
  (opRel_one hc (fun t _ v hv => henv t v hv) h).bool
theorem sound (hm : P.follows .mixedOrders = true) (hT : TabOk P T) : ∀ (f : Nat) (args : List Value) (H : List Ob) (r : Value × List Ob × List Nat), evFun T f args H = some r → M1 P f args H r := by
  refine evFun.partial_correctness T (M1 P) (M2 P) (M3 P) (M4 P) ?_ ?_ ?_ ?_
  · -- a call
    intro evCode hcode f args H r hr
    split at hr
    · rename_i fn hfn
      simp only [Option.bind_eq_bind, Option.bind_eq_some_iff] at hr
      obtain ⟨⟨x, s'⟩, hx, hr⟩ := hr
      have h2 := hcode _ _ _ _ hx
      dsimp only at hr
      cases x with
      | exit id => cases hr
      | normal =>
        simp only [Option.bind_eq_some_iff, Option.some.injEq] at hr
        obtain ⟨vs, hvs, rfl⟩ := hr
        exact ⟨call_sound hT hfn (fun id h => by cases h) h2.2 hvs, cabs_abs h2.1⟩
      | ret =>
        simp only [Option.bind_eq_some_iff, Option.some.injEq] at hr
        obtain ⟨vs, hvs, rfl⟩ := hr
        exact ⟨call_sound hT hfn (fun id h => by cases h) h2.2 hvs, cabs_abs h2.1⟩
    · rename_i hfn
      split at hr
      · rename_i ha
        simp only [Option.bind_eq_some_iff, Option.some.injEq] at hr
        obtain ⟨v, hv, rfl⟩ := hr
        exact ⟨good_ext hT hfn hv ha, .refl _ _ (by simp)⟩
      · cases hr
  · -- a piece of code
    intro evCode evOps hcode hops base c s r hr
    cases c with
    | skip =>
      simp only [Option.some.injEq] at hr; subst hr
      refine ⟨.refl _ _, 0, fun n code hc ρ a w h1 h2 h3 h4 h5 Q hQ => ?_⟩
      have := (comp_leaf (.inl rfl) hc).1 rfl
      subst this
      exact wp_skip (hQ a w ρ (cpost_refl h1 h2 h4))
    | exit id =>
      simp only [Option.some.injEq] at hr; subst hr
      refine ⟨.refl _ _, 0, fun n code hc ρ a w h1 h2 h3 h4 h5 Q hQ => ?_⟩
      have := (comp_leaf (.inr (.inr ⟨id, rfl⟩)) hc).2.2 id rfl
      subst this
      exact wp_exit (hQ a w ρ (cpost_refl h1 h2 h4))
    | ret =>
      simp only [Option.some.injEq] at hr; subst hr
      refine ⟨.refl _ _, 0, fun n code hc ρ a w h1 h2 h3 h4 h5 Q hQ => ?_⟩
      have := (comp_leaf (.inr (.inl rfl)) hc).2.1 rfl
      subst this
      exact wp_ret (hQ a w ρ (cpost_refl h1 h2 h4))
    | region ops keep pairs =>
      simp only [Option.bind_eq_bind, Option.bind_eq_some_iff] at hr
      obtain ⟨⟨s1, recs⟩, h1, hr⟩ := hr
      dsimp only at hr
      split at hr
      · rename_i hpk
        simp only [Option.some.injEq] at hr; subst hr
        obtain ⟨S, R, ht⟩ := hops _ _ _ _ _ h1
        dsimp only at ht ⊢
        obtain ⟨k1, k2⟩ := after_h s1 keep
        have hcab := ht.cabs (i := 0) (j := ops.length) (Nat.zero_le _) (Nat.le_refl _)
        rw [ht.first, ht.last] at hcab
        refine ⟨⟨by rw [k1]; exact hcab.len, by rw [k1]; exact hcab.flags, by rw [k1, k2]; exact hcab.log, by rw [k2]; exact hcab.sub, by rw [k1, k2]; exact hcab.ids⟩, 0, fun n code hc ρ a w e1 e2 e3 e4 e5 Q hQ => ?_⟩
        obtain ⟨id, cops, draw, rfl, hcp, hdr⟩ := comp_region hc
        rw [k1] at e5
        have hQ' : ∀ a' w' ρ', CPost ρ s s1 a w a' w' ρ' → Q .normal a' w' := fun a' w' ρ' hp => hQ a' w' ρ' ⟨hp.env.after keep, hp.defers, hp.size, by rw [k1]; exact hp.ext, by rw [k1]; exact hp.rel, by rw [k1]; exact hp.frm, by rw [k1]; exact hp.pres⟩
        show (Code.region id cops draw).wp P Q a w
        cases draw with
        | false =>
          refine wp_region ?_
          have hl := (compOpers_get hcp).1
          have : List.range cops.size = List.range' 0 ops.length := by rw [List.range_eq_range']; congr 1; simpa using hl.symm
          rw [this]
          refine seq_ok hcp ht ops.length 0 (by omega) ρ a w (by rw [ht.first]; exact e1) e2 e3 (by rw [ht.first]; exact e4) (by rw [ht.first]; exact e5) fun a' w' ρ' hp => hQ' a' w' ρ' (by rw [ht.first] at hp; exact hp)
        | true =>
          obtain ⟨d1, d2, d3⟩ := hdr rfl
          subst d3
          exact draw_ok hcp ht d2 hpk hm d1 e1 e2 e3 e4 e5 hQ'
      · cases hr
    | seq x y =>
      simp only [Option.bind_eq_bind, Option.bind_eq_some_iff] at hr
      obtain ⟨⟨ex, s1⟩, h1, hr⟩ := hr
      obtain ⟨ca1, N1, hN1⟩ := hcode _ _ _ _ h1
      dsimp only at hr ca1 hN1
      cases ex with
      | normal =>
        obtain ⟨ca2, N2, hN2⟩ := hcode _ _ _ _ hr
        refine ⟨ca1.trans ca2, 0, fun n code hc ρ a w e1 e2 e3 e4 e5 Q hQ => ?_⟩
        obtain ⟨p, q, rfl, hp1, hq1⟩ := comp_seq hc
        refine wp_seq (hN1 n p hp1 ρ a w e1 e2 e3 e4 (fun id i1 i2 => e5 id i1 (Nat.lt_of_lt_of_le i2 ca2.len)) _ fun a1 w1 ρ1 hp => ?_).wp
        show q.wp P Q a1 w1
        exact (hN2 n q hq1 ρ1 a1 w1 hp.env hp.defers (by rw [hp.size]; exact e3) hp.rel (e5.later hp.ext ca1.len) Q fun a2 w2 ρ2 hp2 => hQ a2 w2 ρ2 (hp.trans hp2 ca1 ca2 e5)).wp
      | exit id =>
        simp only [Option.some.injEq] at hr; subst hr
        refine ⟨ca1, 0, fun n code hc ρ a w e1 e2 e3 e4 e5 Q hQ => ?_⟩
        obtain ⟨p, q, rfl, hp1, hq1⟩ := comp_seq hc
        refine wp_seq (hN1 n p hp1 ρ a w e1 e2 e3 e4 e5 _ fun a1 w1 ρ1 hp => ?_).wp
        exact hQ a1 w1 ρ1 hp
      | ret =>
        simp only [Option.some.injEq] at hr; subst hr
        refine ⟨ca1, 0, fun n code hc ρ a w e1 e2 e3 e4 e5 Q hQ => ?_⟩
        obtain ⟨p, q, rfl, hp1, hq1⟩ := comp_seq hc
        refine wp_seq (hN1 n p hp1 ρ a w e1 e2 e3 e4 e5 _ fun a1 w1 ρ1 hp => ?_).wp
        exact hQ a1 w1 ρ1 hp
    | cond c x y =>
      dsimp only at hr
      split at hr
      · rename_i hb
        obtain ⟨ca1, N1, hN1⟩ := hcode _ _ _ _ hr
        refine ⟨ca1, 0, fun n code hc ρ a w e1 e2 e3 e4 e5 Q hQ => ?_⟩
        obtain ⟨p, q, rfl, hok, hp1, hq1⟩ := comp_cond hc
        exact wp_cond_true (eval_bool hok e1 hb) (hN1 n p hp1 ρ a w e1 e2 e3 e4 e5 Q hQ).wp
      · rename_i hb
        obtain ⟨ca1, N1, hN1⟩ := hcode _ _ _ _ hr
        refine ⟨ca1, 0, fun n code hc ρ a w e1 e2 e3 e4 e5 Q hQ => ?_⟩
        obtain ⟨p, q, rfl, hok, hp1, hq1⟩ := comp_cond hc
        exact wp_cond_false (eval_bool hok e1 hb) (hN1 n q hq1 ρ a w e1 e2 e3 e4 e5 Q hQ).wp
      · cases hr
    | block id x =>
      simp only [Option.bind_eq_bind, Option.bind_eq_some_iff] at hr
      obtain ⟨⟨ex, s1⟩, h1, hr⟩ := hr
      obtain ⟨ca1, N1, hN1⟩ := hcode _ _ _ _ h1
      dsimp only at hr ca1 hN1
      cases ex with
      | normal =>
        simp only [Option.some.injEq] at hr; subst hr
        refine ⟨ca1, 0, fun n code hc ρ a w e1 e2 e3 e4 e5 Q hQ => ?_⟩
        obtain ⟨p, rfl, hp1⟩ := comp_block hc
        refine wp_block (hN1 n p hp1 ρ a w e1 e2 e3 e4 e5 _ fun a1 w1 ρ1 hp => ?_).wp
        exact hQ a1 w1 ρ1 hp
      | ret =>
        simp only [Option.some.injEq] at hr; subst hr
        refine ⟨ca1, 0, fun n code hc ρ a w e1 e2 e3 e4 e5 Q hQ => ?_⟩
        obtain ⟨p, rfl, hp1⟩ := comp_block hc
        refine wp_block (hN1 n p hp1 ρ a w e1 e2 e3 e4 e5 _ fun a1 w1 ρ1 hp => ?_).wp
        exact hQ a1 w1 ρ1 hp
      | exit i =>
        dsimp only at hr
        split at hr
        · rename_i hid
          simp only [Option.some.injEq] at hr; subst hr
          refine ⟨ca1, 0, fun n code hc ρ a w e1 e2 e3 e4 e5 Q hQ => ?_⟩
          obtain ⟨p, rfl, hp1⟩ := comp_block hc
          refine wp_block (hN1 n p hp1 ρ a w e1 e2 e3 e4 e5 _ fun a1 w1 ρ1 hp => ?_).wp
          show Exit.inBlock id Q (.exit i) a1 w1
          simp only [Exit.inBlock, if_pos hid]
          exact hQ a1 w1 ρ1 hp
        · rename_i hid
          simp only [Option.some.injEq] at hr; subst hr
          refine ⟨ca1, 0, fun n code hc ρ a w e1 e2 e3 e4 e5 Q hQ => ?_⟩
          obtain ⟨p, rfl, hp1⟩ := comp_block hc
          refine wp_block (hN1 n p hp1 ρ a w e1 e2 e3 e4 e5 _ fun a1 w1 ρ1 hp => ?_).wp
          show Exit.inBlock id Q (.exit i) a1 w1
          simp only [Exit.inBlock, if_neg hid]
          exact hQ a1 w1 ρ1 hp
    | loop x =>
      simp only [Option.bind_eq_bind, Option.bind_eq_some_iff] at hr
      obtain ⟨⟨ex, s1⟩, h1, hr⟩ := hr
      obtain ⟨ca1, N1, hN1⟩ := hcode _ _ _ _ h1
      dsimp only at hr ca1 hN1
      cases ex with
      | normal =>
        obtain ⟨ca2, N2, hN2⟩ := hcode _ _ _ _ hr
        refine ⟨ca1.trans ca2, N2 + 1, fun n code hc ρ a w e1 e2 e3 e4 e5 Q hQ => ?_⟩
        obtain ⟨p, rfl, hp1⟩ := comp_loop hc
        show Code.rounds P p Q (N2 + 1) a w
        rw [rounds_succ]
        refine (hN1 n p hp1 ρ a w e1 e2 e3 e4 (fun id i1 i2 => e5 id i1 (Nat.lt_of_lt_of_le i2 ca2.len)) _ fun a1 w1 ρ1 hp => ?_).wp
        show Code.rounds P p Q N2 a1 w1
        exact hN2 n (.loop p) hc ρ1 a1 w1 hp.env hp.defers (by rw [hp.size]; exact e3) hp.rel (e5.later hp.ext ca1.len) Q fun a2 w2 ρ2 hp2 => hQ a2 w2 ρ2 (hp.trans hp2 ca1 ca2 e5)
      | exit id =>
        simp only [Option.some.injEq] at hr; subst hr
        refine ⟨ca1, 1, fun n code hc ρ a w e1 e2 e3 e4 e5 Q hQ => ?_⟩
        obtain ⟨p, rfl, hp1⟩ := comp_loop hc
        show Code.rounds P p Q (0 + 1) a w
        rw [rounds_succ]
        refine (hN1 n p hp1 ρ a w e1 e2 e3 e4 e5 _ fun a1 w1 ρ1 hp => ?_).wp
        exact hQ a1 w1 ρ1 hp
      | ret =>
        simp only [Option.some.injEq] at hr; subst hr
        refine ⟨ca1, 1, fun n code hc ρ a w e1 e2 e3 e4 e5 Q hQ => ?_⟩
        obtain ⟨p, rfl, hp1⟩ := comp_loop hc
        show Code.rounds P p Q (0 + 1) a w
        rw [rounds_succ]
        refine (hN1 n p hp1 ρ a w e1 e2 e3 e4 e5 _ fun a1 w1 ρ1 hp => ?_).wp
        exact hQ a1 w1 ρ1 hp
  · -- operations
    intro evOps evOper hops hoper base aops s recs r hr
    cases aops with
    | nil => simp only [Option.some.injEq] at hr; subst hr; exact ⟨_, _, .nil⟩
    | cons ao aops =>
      dsimp only at hr
      split at hr
      · rename_i hg
        simp only [Option.bind_eq_bind, Option.bind_eq_some_iff] at hr
        obtain ⟨⟨v, H', t, M⟩, h1, hr⟩ := hr
        obtain ⟨S, R, ht⟩ := hops _ _ _ _ _ hr
        exact ⟨_, _, Trace.cons (.inl ⟨hg, v, H', t, M, hoper _ _ _ _ h1, rfl, rfl⟩) ht⟩
      · rename_i hg
        obtain ⟨S, R, ht⟩ := hops _ _ _ _ _ hr
        exact ⟨_, _, Trace.cons (.inr ⟨hg, rfl, rfl⟩) ht⟩
      · cases hr
  · -- one operation
    intro evFun hfun ao e H r hr
    cases ao with
    | call f xs b =>
      dsimp only at hr
      cases b with
      | true =>
        simp only [if_true] at hr
        split at hr
        · rename_i args hx
          split at hr
          · rename_i ha
            simp only [Option.bind_eq_bind, Option.bind_eq_some_iff] at hr
            obtain ⟨⟨v, H', M⟩, h1, hr⟩ := hr
            dsimp only at hr
            split at hr
            · rename_i hv
              simp only [Option.some.injEq] at hr; subst hr
              exact good_call_val hx (hfun _ _ _ _ h1).1 ha hv
            · cases hr
          · cases hr
        · cases hr
      | false =>
        simp only [Bool.false_eq_true, if_false] at hr
        split at hr
        · rename_i args hx
          simp only [Option.bind_eq_bind, Option.bind_eq_some_iff, Option.some.injEq] at hr
          obtain ⟨⟨v, H', M⟩, h1, rfl⟩ := hr
          exact good_call_ref hx (hfun _ _ _ _ h1).1 (hfun _ _ _ _ h1).2
        · cases hr
    | callv f xs =>
      dsimp only at hr
      split at hr
      · rename_i g fi ca args hf hx
        simp only [Option.bind_eq_bind, Option.bind_eq_some_iff, Option.some.injEq] at hr
        obtain ⟨⟨v, H', M⟩, h1, rfl⟩ := hr
        exact good_callv hf hx (hfun _ _ _ _ h1).1 (hfun _ _ _ _ h1).2
      · cases hr
    | _ => exact simple_good rfl hr
end
end Go.Ev
set_option linter.unusedSimpArgs false
set_option linter.unusedVariables false
namespace Go.Ev
open Go.RowKit Go.WideShapes Go.ChangeShapes
section
variable {P : Program} {T : Tab}
theorem VRel.refl_in {ρ : Pl} {v : Value} (h : rfIn v = true) : VRel ρ v v := by
  rcases rfIn_cases h with h1 | ⟨cs, rfl⟩
  · exact .same h1
  · have h2 : cs.toList.all scalarRf = true := h
    exact VRel.agg (l := cs.toList) (l' := cs.toList) (LRel.same h2) fun v hv => scalarRf_oneCell (List.all_eq_true.1 h2 v hv)
theorem LRel.refl_in {ρ : Pl} : ∀ {l : List Value}, l.all rfIn = true → LRel ρ l l
  | [], _ => .nil
  | _ :: _, h => by
    simp only [List.all_cons, Bool.and_eq_true] at h
    exact .cons (VRel.refl_in h.1) (LRel.refl_in h.2)
theorem calls_value (hm : P.follows .mixedOrders = true) (hT : TabOk P T) {f : Nat} {args : List Value} {v : Value} {H' : List Ob} {M : List Nat} (h : evFun T f args [] = some (v, H', M)) (hn : T.fn f ≠ none) (ha : args.all rfIn = true) (hv : rf v = true) (w : World) :
    Calls P f args.toArray w fun e w' => e = .returned v ∧ Below w.heap.size w w' := by
  have h1 := (sound hm hT f args [] _ h).1
  have h2 := h1 (fun _ => none) args w (LRel.refl_in ha) (rel_empty w) (fun _ _ _ => rfl) { (default : Oper) with dst := some 0 } { tmps := #[undef], defers := [] }
    (fun a w' => ∃ v', a.tmps = #[v'] ∧ v' = v ∧ Below w.heap.size w w') (fun _ _ _ => False) fun v' w' ρ' hp => ⟨v', by simp [Act.put], hp.val.of_rf hv, ⟨hp.frm.os, hp.frm.tape, hp.frm.output, hp.frm.size, fun k hk => hp.frm.blocks k hk fun id ob pl hc => by simp [hp] at hc⟩⟩
  obtain ⟨af, haf⟩ := Option.ne_none_iff_exists'.1 hn
  obtain ⟨pf, g1, g2, g3⟩ := hT.fn f af haf
  obtain ⟨code, g4, g5, g6⟩ := compFun_inv g2
  have hcf : (callFunc f args.toArray).run P w = .ok (.enter f args.toArray) w := by
    have g3' : ¬ (pf.name = "runtime.NumGoroutine") := by simpa using g3
    simp [callFunc, g1, g3', g4]
  rw [hcf, Oper.upon_enter] at h2
  refine h2.mono fun e w' he => ?_
  cases e with
  | returned v1 =>
    obtain ⟨v', k1, k2, k3⟩ := he
    have : v1 = v' := by simpa [Act.put] using k1
    exact ⟨by rw [this, k2], k3⟩
  | panicked c => exact he.elim
  | outgrown => obtain ⟨_, _, hx⟩ := he; exact hx.elim
open Go.RowKit Go.WideShapes Go.ChangeShapes in
theorem post_of_below {H : Type} {enc : TypeId × Value → H} {f : Func} {s : ChangeSpec} {apart fresh handsOn again : Bool} {W W' : World} {args : Array Value} {v : Value} {ds gs : List (DataW H)} {before pa pv : List MemPlace}
    (hW : DataW.Whole enc P f.params.toList s.vars apart W args.toList ds gs before)
    (hres : ∀ (b : Nat) (sp : Nat → Bool) (hd : Bool), DataW.TrodAll enc P W' b sp hd f.resultTypes.toList (v.resultList f.resultTypes.size) (s.fn H (ds ++ gs)).results [])
    (hargs : ∀ sp : Nat → Bool, (∀ p ∈ before, sp p.block = true) → DataW.TrodAll enc P W' 0 sp true f.params.toList args.toList (s.fn H (ds ++ gs)).args pa)
    (hvars : ∀ sp : Nat → Bool, (∀ p ∈ before, sp p.block = true) → DataW.TrodVars enc P W' sp s.vars (s.fn H (ds ++ gs)).vars pv)
    (hps : before = pa ++ pv) (hb : Below W.heap.size W W')
    (hok : ∀ (j : Nat) (t : TypeId) (r : Value), f.resultTypes[j]? = some t → (v.resultList f.resultTypes.size)[j]? = some r → Value.okWide P W' .any 0 t r) :
    s.post enc P f apart fresh handsOn again W args v W' := by
  have hlt : ∀ p ∈ before, p.block < W.heap.size := fun p hp => hW.lt p hp
  have hold : ∀ p ∈ before, (fun b => decide (b < W.heap.size)) p.block = true := fun p hp => by simpa using hlt p hp
  refine ⟨ds, gs, before, [], pa, pv, hW, hres _ _ _, hargs _ hold, hvars _ hold, World.keptBut_mono (fun p hp => ⟨hp, ?_⟩) (hb.frame (· ∈ before)), fun _ => ?_⟩
  · rw [hps, List.mem_append] at hp
    exact Or.inr hp
  · obtain ⟨_, _, _, _, _, hz, hn⟩ := hW
    refine ⟨hok, _, _, ([] ++ pa) ++ pv, ⟨[] ++ pa, pv, trodAll_append (hargs _ (fun _ _ => rfl)) (hres _ _ _), hvars _ (fun _ _ => rfl), rfl, ?_, ?_⟩, ?_⟩
    · intro b off hp
      have hin : MemPlace.cell b off ∈ before := by rw [hps]; simpa using hp
      rw [hb.frozen (hlt _ hin)]
      exact hz b off hin
    · intro ha
      have := hn ha
      rw [hps] at this
      simpa using this
    · intro p hp _
      rw [hps]
      simpa using hp
end
end Go.Ev
set_option linter.unusedSimpArgs false
set_option linter.unusedVariables false
namespace Go.Ev
section
variable {T : Tab}
def AOp.noCall : AOp → Bool
  | .call .. | .callv .. => false
  | _ => true
theorem evOper_simple {o : AOp} {e : Env} {H : List Ob} (h : o.noCall = true) : evOper T o e H = simpleOp H e o := by
  rw [evOper.eq_def]
  cases o <;> first | rfl | (simp [AOp.noCall] at h)
theorem evOper_move {e : Env} {H : List Ob} {x : Operand} : evOper T (.move x) e H = simpleOp H e (.move x) := evOper_simple rfl
theorem evOper_pick {e : Env} {H : List Ob} {c a b : Operand} : evOper T (.pick c a b) e H = simpleOp H e (.pick c a b) := evOper_simple rfl
theorem evOper_alloc {e : Env} {H : List Ob} {zero : List Value} : evOper T (.alloc zero) e H = simpleOp H e (.alloc zero) := evOper_simple rfl
theorem evOper_box {e : Env} {H : List Ob} {x : Operand} : evOper T (.box x) e H = simpleOp H e (.box x) := evOper_simple rfl
theorem evOper_load {e : Env} {H : List Ob} {n : Option Nat} {a : Operand} : evOper T (.load n a) e H = simpleOp H e (.load n a) := evOper_simple rfl
theorem evOper_store {e : Env} {H : List Ob} {n : Nat} {a v : Operand} : evOper T (.store n a v) e H = simpleOp H e (.store n a v) := evOper_simple rfl
theorem evOper_bin {e : Env} {H : List Ob} {op : BinOp} {x y : Operand} : evOper T (.bin op x y) e H = simpleOp H e (.bin op x y) := evOper_simple rfl
theorem evOper_eqv {e : Env} {H : List Ob} {ks : Option (List Bool)} {neg : Bool} {x y : Operand} : evOper T (.eqv ks neg x y) e H = simpleOp H e (.eqv ks neg x y) := evOper_simple rfl
theorem evOper_isNil {e : Env} {H : List Ob} {k : Nat} {neg : Bool} {x : Operand} : evOper T (.isNil k neg x) e H = simpleOp H e (.isNil k neg x) := evOper_simple rfl
theorem evOper_un {e : Env} {H : List Ob} {op : UnOp} {x : Operand} : evOper T (.un op x) e H = simpleOp H e (.un op x) := evOper_simple rfl
theorem evOper_conv {e : Env} {H : List Ob} {k : IntKind} {x : Operand} : evOper T (.conv k x) e H = simpleOp H e (.conv k x) := evOper_simple rfl
theorem evOper_convStr {e : Env} {H : List Ob} {x : Operand} : evOper T (.convStr x) e H = simpleOp H e (.convStr x) := evOper_simple rfl
theorem evOper_convSl {e : Env} {H : List Ob} {x : Operand} : evOper T (.convSl x) e H = simpleOp H e (.convSl x) := evOper_simple rfl
theorem evOper_s2b {e : Env} {H : List Ob} {x : Operand} : evOper T (.s2b x) e H = simpleOp H e (.s2b x) := evOper_simple rfl
theorem evOper_b2s {e : Env} {H : List Ob} {x : Operand} : evOper T (.b2s x) e H = simpleOp H e (.b2s x) := evOper_simple rfl
theorem evOper_field {e : Env} {H : List Ob} {n : Option Nat} {off : Nat} {x : Operand} : evOper T (.field n off x) e H = simpleOp H e (.field n off x) := evOper_simple rfl
theorem evOper_index {e : Env} {H : List Ob} {n : Option Nat} {len es : Nat} {x i : Operand} : evOper T (.index n len es x i) e H = simpleOp H e (.index n len es x i) := evOper_simple rfl
theorem evOper_indexStr {e : Env} {H : List Ob} {x i : Operand} : evOper T (.indexStr x i) e H = simpleOp H e (.indexStr x i) := evOper_simple rfl
theorem evOper_build {e : Env} {H : List Ob} {zero : List Value} {parts : List (Nat × Nat × Operand)} : evOper T (.build zero parts) e H = simpleOp H e (.build zero parts) := evOper_simple rfl
theorem evOper_buildSlice {e : Env} {H : List Ob} {cells : List Value} {len : Nat} {parts : List (Nat × Nat × Operand)} : evOper T (.buildSlice cells len parts) e H = simpleOp H e (.buildSlice cells len parts) := evOper_simple rfl
theorem evOper_fieldAddr {e : Env} {H : List Ob} {off : Nat} {x : Operand} : evOper T (.fieldAddr off x) e H = simpleOp H e (.fieldAddr off x) := evOper_simple rfl
theorem evOper_indexAddr {e : Env} {H : List Ob} {len es : Nat} {x i : Operand} : evOper T (.indexAddr len es x i) e H = simpleOp H e (.indexAddr len es x i) := evOper_simple rfl
theorem evOper_indexSl {e : Env} {H : List Ob} {es : Nat} {x i : Operand} : evOper T (.indexSl es x i) e H = simpleOp H e (.indexSl es x i) := evOper_simple rfl
theorem evOper_sliceArr {e : Env} {H : List Ob} {n es : Nat} {x : Operand} {lo hi mx : Option Operand} : evOper T (.sliceArr n es x lo hi mx) e H = simpleOp H e (.sliceArr n es x lo hi mx) := evOper_simple rfl
theorem evOper_sliceSl {e : Env} {H : List Ob} {es : Nat} {x : Operand} {lo hi mx : Option Operand} : evOper T (.sliceSl es x lo hi mx) e H = simpleOp H e (.sliceSl es x lo hi mx) := evOper_simple rfl
theorem evOper_sliceStr {e : Env} {H : List Ob} {x : Operand} {lo hi : Option Operand} : evOper T (.sliceStr x lo hi) e H = simpleOp H e (.sliceStr x lo hi) := evOper_simple rfl
theorem evOper_makeSlice {e : Env} {H : List Ob} {zero : List Value} {bytes : Nat} {l c : Operand} : evOper T (.makeSlice zero bytes l c) e H = simpleOp H e (.makeSlice zero bytes l c) := evOper_simple rfl
theorem evOper_extract {e : Env} {H : List Ob} {x : Operand} {i : Nat} : evOper T (.extract x i) e H = simpleOp H e (.extract x i) := evOper_simple rfl
theorem evOper_mkIface {e : Env} {H : List Ob} {t : TypeId} {x : Operand} : evOper T (.mkIface t x) e H = simpleOp H e (.mkIface t x) := evOper_simple rfl
theorem evOper_mkFunc {e : Env} {H : List Ob} {fn : Fn} {first captured : List Operand} : evOper T (.mkFunc fn first captured) e H = simpleOp H e (.mkFunc fn first captured) := evOper_simple rfl
theorem evOper_nilCheck {e : Env} {H : List Ob} {x : Operand} : evOper T (.nilCheck x) e H = simpleOp H e (.nilCheck x) := evOper_simple rfl
theorem evOper_s2ap {e : Env} {H : List Ob} {n : Nat} {x : Operand} : evOper T (.s2ap n x) e H = simpleOp H e (.s2ap n x) := evOper_simple rfl
theorem evOper_append {e : Env} {H : List Ob} {es bytes : Nat} {s x : Operand} : evOper T (.append es bytes s x) e H = simpleOp H e (.append es bytes s x) := evOper_simple rfl
theorem evOper_copy {e : Env} {H : List Ob} {es : Nat} {d s : Operand} : evOper T (.copy es d s) e H = simpleOp H e (.copy es d s) := evOper_simple rfl
theorem evOper_len {e : Env} {H : List Ob} {str : Bool} {x : Operand} : evOper T (.len str x) e H = simpleOp H e (.len str x) := evOper_simple rfl
theorem evOper_minmax {e : Env} {H : List Ob} {max : Bool} {x y : Operand} : evOper T (.minmax max x y) e H = simpleOp H e (.minmax max x y) := evOper_simple rfl
theorem evOper_call {e : Env} {H : List Ob} {f : FuncId} {xs : List Operand} : evOper T (.call f xs false) e H = (opds e xs).bind fun args => (evFun T f args H).bind fun r => some (r.1, r.2.1, none, r.2.2) := by
  rw [evOper.eq_def]; dsimp only; cases opds e xs <;> rfl
theorem evOper_callVal {e : Env} {H : List Ob} {f : FuncId} {xs : List Operand} : evOper T (.call f xs true) e H = (opds e xs).bind fun args => if args.all rf then (evFun T f args []).bind fun r => if rf r.1 then some (r.1, H, some [], []) else none else none := by
  rw [evOper.eq_def]; dsimp only; cases opds e xs <;> rfl
theorem evCode_skip {base : Nat} {s : St} : evCode T base .skip s = some (.normal, s) := by rw [evCode.eq_def]
theorem evCode_exit {base id : Nat} {s : St} : evCode T base (.exit id) s = some (.exit id, s) := by rw [evCode.eq_def]
theorem evCode_ret {base : Nat} {s : St} : evCode T base .ret s = some (.ret, s) := by rw [evCode.eq_def]
theorem evCode_region {base : Nat} {ops : List AOper} {keep : Option (List Nat)} {pairs : List (Nat × Nat)} {s : St} : evCode T base (.region ops keep pairs) s =
    (evOps T base ops s []).bind fun r => if pairsOk r.2 pairs then some (.normal, r.1.after keep) else none := by rw [evCode.eq_def]; rfl
theorem evCode_seq {base : Nat} {a b : ACode} {s : St} : evCode T base (.seq a b) s = (evCode T base a s).bind fun r => match r.1 with
    | .normal => evCode T base b r.2
    | x => some (x, r.2) := by rw [evCode.eq_def]; rfl
theorem evCode_cond {base : Nat} {c : Operand} {a b : ACode} {s : St} : evCode T base (.cond c a b) s = match opd s.env c with
    | some (.bool true) => evCode T base a s
    | some (.bool false) => evCode T base b s
    | _ => none := by rw [evCode.eq_def]; rfl
theorem evCode_block {base id : Nat} {b : ACode} {s : St} : evCode T base (.block id b) s = (evCode T base b s).bind fun r => match r.1 with
    | .exit i => if i = id then some (.normal, r.2) else some (.exit i, r.2)
    | x => some (x, r.2) := by rw [evCode.eq_def]; rfl
theorem evCode_loop {base : Nat} {b : ACode} {s : St} : evCode T base (.loop b) s = (evCode T base b s).bind fun r => match r.1 with
    | .normal => evCode T base (.loop b) r.2
    | x => some (x, r.2) := by rw [evCode.eq_def]; rfl
theorem evOps_nil {base : Nat} {s : St} {recs : List Rec} : evOps T base [] s recs = some (s, recs) := by rw [evOps.eq_def]
theorem evOps_cons {base : Nat} {o : AOper} {r : List AOper} {s : St} {recs : List Rec} : evOps T base (o :: r) s recs = match guardOf s.env o.guard with
      | some true => (evOper T o.op s.env s.h).bind fun x => evOps T base r ⟨s.env.put o.dst x.1, x.2.1, inMerge base s.log x.2.2.2⟩ (recs ++ [(x.2.2.1, x.2.2.2)])
      | some false => evOps T base r ⟨s.env.put o.dst undef, s.h, s.log⟩ (recs ++ [(some [], [])])
      | none => none := by rw [evOps.eq_def]; rfl
end
theorem bind_congr1 {α β : Type} {x y : Option α} (f : α → Option β) (h : x = y) : x.bind f = y.bind f := by rw [h]
abbrev FunE := Nat → List Value → List Ob → Option (Value × List Ob × List Nat)
section
variable {T : Tab} {F : FunE}
theorem evFun_fn {f : Nat} {args : List Value} {H : List Ob} {fn : AFun} (hfn : T.fn f = some fn) : evFun T f args H = (evCode T H.length fn.body ⟨envOf 0 args, H, []⟩).bind fun xs => match xs.1 with
      | .exit _ => none
      | _ => (resultOf xs.2.env xs.2.h fn.results).bind fun vs => some (packed vs, xs.2.h, xs.2.log) := by
  rw [evFun.eq_def, hfn]; rfl
end
end Go.Ev
set_option linter.unusedSimpArgs false
set_option linter.unusedVariables false
namespace Go.Ev
theorem wrap_u32 (x : Int) : IntKind.u32.wrap x = x % 4294967296 := rfl
theorem wrap_u64 (x : Int) : IntKind.u64.wrap x = x % 18446744073709551616 := rfl
theorem wrap_u8 (x : Int) : IntKind.u8.wrap x = x % 256 := rfl
theorem wrap_u16 (x : Int) : IntKind.u16.wrap x = x % 65536 := rfl
theorem wrapI64_small {x : Int} (h : -9223372036854775808 ≤ x) (k : x < 9223372036854775808) : IntKind.i64.wrap x = x := by
  simp [IntKind.wrap, IntKind.signed, IntKind.bits]
  omega
theorem wrap_small {k : IntKind} (hk : k.signed = false) {n : Nat} (h : n < 2 ^ k.bits) : k.wrap (n : Int) = n := by
  simp only [IntKind.wrap, hk, Bool.false_and, if_false, Bool.false_eq_true]
  rw [Int.emod_eq_of_lt (Int.natCast_nonneg _)]
  exact_mod_cast h
theorem ofInt_nat {w a : Nat} : BitVec.ofInt w (a : Int) = BitVec.ofNat w a := by simp
theorem bits_and {k : IntKind} (hk : k.signed = false) {a b : Nat} (ha : a < 2 ^ k.bits) (hb : b < 2 ^ k.bits) : bitsOp .and k a b = ((a &&& b : Nat) : Int) := by
  simp only [bitsOp, ofInt_nat]
  rw [BitVec.toNat_and, BitVec.toNat_ofNat, BitVec.toNat_ofNat, Nat.mod_eq_of_lt ha, Nat.mod_eq_of_lt hb, wrap_small hk (Nat.and_lt_two_pow _ hb)]
theorem bits_or {k : IntKind} (hk : k.signed = false) {a b : Nat} (ha : a < 2 ^ k.bits) (hb : b < 2 ^ k.bits) : bitsOp .or k a b = ((a ||| b : Nat) : Int) := by
  simp only [bitsOp, ofInt_nat]
  rw [BitVec.toNat_or, BitVec.toNat_ofNat, BitVec.toNat_ofNat, Nat.mod_eq_of_lt ha, Nat.mod_eq_of_lt hb, wrap_small hk (Nat.or_lt_two_pow ha hb)]
theorem bits_xor {k : IntKind} (hk : k.signed = false) {a b : Nat} (ha : a < 2 ^ k.bits) (hb : b < 2 ^ k.bits) : bitsOp .xor k a b = ((a ^^^ b : Nat) : Int) := by
  simp only [bitsOp, ofInt_nat]
  rw [BitVec.toNat_xor, BitVec.toNat_ofNat, BitVec.toNat_ofNat, Nat.mod_eq_of_lt ha, Nat.mod_eq_of_lt hb, wrap_small hk (Nat.xor_lt_two_pow ha hb)]
theorem bits32 (op : BinOp) (a b : Int) : (bitsOp .and .u32 a b = ((BitVec.ofInt 32 a &&& BitVec.ofInt 32 b).toNat : Int)) ∧ (bitsOp .or .u32 a b = ((BitVec.ofInt 32 a ||| BitVec.ofInt 32 b).toNat : Int)) ∧ (bitsOp .xor .u32 a b = ((BitVec.ofInt 32 a ^^^ BitVec.ofInt 32 b).toNat : Int)) :=
  ⟨wrap_small (k := .u32) rfl (BitVec.isLt _), wrap_small (k := .u32) rfl (BitVec.isLt _), wrap_small (k := .u32) rfl (BitVec.isLt _)⟩
theorem ofInt_toNat32 (v : BitVec 32) : BitVec.ofInt 32 (v.toNat : Int) = v := by simp
theorem top32 (v : BitVec 32) : ((v.toNat : Int).fdiv (2 ^ 31)) = if v.msb then 1 else 0 := by
  have h := v.isLt
  rw [BitVec.msb_eq_decide]
  have e : ((v.toNat : Int).fdiv (2 ^ 31)) = ((v.toNat / 2147483648 : Nat) : Int) := by
    rw [Int.fdiv_eq_ediv_of_nonneg _ (by decide)]; rfl
  rw [e]
  by_cases hv : 2 ^ (32 - 1) ≤ v.toNat
  · simp only [hv, decide_true, if_true]; omega
  · simp only [hv, decide_false, Bool.false_eq_true, if_false]; omega
theorem msb_ofInt32 (x : Int) : (BitVec.ofInt 32 x).msb = decide (2147483648 ≤ x % 4294967296) := by
  rw [BitVec.msb_eq_decide, BitVec.toNat_ofInt]
  by_cases h : 2147483648 ≤ x % 4294967296
  · simp only [h, decide_true, decide_eq_true_eq]; omega
  · simp only [h, decide_false, decide_eq_false_iff_not]; omega
theorem borrow32 {x y c : Nat} (hx : x < 4294967296) (hy : y < 4294967296) (hc : c ≤ 1) :
    (bitsOp .or .u32 (bitsOp .and .u32 (bitsOp .xor .u32 IntKind.u32.max x) y) (bitsOp .and .u32 (bitsOp .xor .u32 IntKind.u32.max (bitsOp .xor .u32 x y)) (((x : Int) - y - c) % 4294967296))).fdiv (2 ^ 31) = if x < y + c then 1 else 0 := by
  have hm : BitVec.ofInt 32 IntKind.u32.max = BitVec.allOnes 32 := by decide
  simp only [(bits32 .and _ _).1, (bits32 .and _ _).2.1, (bits32 .and _ _).2.2, ofInt_toNat32, top32, hm]
  simp only [BitVec.msb_or, BitVec.msb_and, BitVec.msb_xor, msb_ofInt32, BitVec.msb_allOnes (by decide : 0 < 32)]
  by_cases a : (2147483648 : Int) ≤ (x : Int) % 4294967296 <;> by_cases b : (2147483648 : Int) ≤ (y : Int) % 4294967296 <;> by_cases d : (2147483648 : Int) ≤ ((x : Int) - y - c) % 4294967296 % 4294967296 <;> simp [a, b, d] <;> omega
end Go.Ev
set_option linter.unusedSimpArgs false
set_option linter.unusedVariables false
namespace Go.Ev
section
variable {T : Tab}
theorem loop_run {base : Nat} {body : ACode} (I : Nat → St) {r : AExit × St} (hr : r.1 ≠ .normal) : ∀ (n i : Nat), (∀ j, i ≤ j → j < i + n → evCode T base body (I j) = some (.normal, I (j + 1))) → evCode T base body (I (i + n)) = some r →
    evCode T base (.loop body) (I i) = some r
  | 0, i, _, hl => by
    rw [evCode_loop, show i = i + 0 from rfl, hl]
    obtain ⟨x, s⟩ := r
    cases x with
    | normal => exact absurd rfl hr
    | exit id => rfl
    | ret => rfl
  | n + 1, i, hs, hl => by
    rw [evCode_loop, hs i (Nat.le_refl _) (by omega)]
    exact loop_run I hr n (i + 1) (fun j h1 h2 => hs j (by omega) (by omega)) (by rw [show i + 1 + n = i + (n + 1) by omega]; exact hl)
theorem block_loop {base id : Nat} {body : ACode} (I : Nat → St) {s' : St} (n : Nat) (hs : ∀ j, j < n → evCode T base body (I j) = some (.normal, I (j + 1))) (hl : evCode T base body (I n) = some (.exit id, s')) :
    evCode T base (.block id (.loop body)) (I 0) = some (.normal, s') := by
  rw [evCode_block, loop_run (r := (.exit id, s')) I (by simp) n 0 (fun j _ h => hs j (by omega)) (by simpa using hl)]
  simp
end
section
variable {T : Tab}
theorem loop_inv {base : Nat} {body : ACode} {I : Nat → St → Prop} {x : AExit} (hx : x ≠ .normal) {Q : St → Prop} (n : Nat) (hs : ∀ j s, j < n → I j s → ∃ s', evCode T base body s = some (.normal, s') ∧ I (j + 1) s') (hl : ∀ s, I n s → ∃ s', evCode T base body s = some (x, s') ∧ Q s') :
    ∀ (k i : Nat), i + k = n → ∀ s, I i s → ∃ s', evCode T base (.loop body) s = some (x, s') ∧ Q s'
  | 0, i, hi, s, h => by
    obtain ⟨s', h1, h2⟩ := hl s (by rw [← hi]; exact h)
    refine ⟨s', ?_, h2⟩
    rw [evCode_loop, h1]
    cases x with
    | normal => exact absurd rfl hx
    | exit id => rfl
    | ret => rfl
  | k + 1, i, hi, s, h => by
    obtain ⟨s1, h1, h2⟩ := hs i s (by omega) h
    obtain ⟨s', h3, h4⟩ := loop_inv hx n hs hl k (i + 1) (by omega) s1 h2
    exact ⟨s', by rw [evCode_loop, h1]; exact h3, h4⟩
theorem block_inv {base id : Nat} {body : ACode} (I : Nat → St → Prop) {Q : St → Prop} (n : Nat) {s : St} (h0 : I 0 s) (hs : ∀ j s, j < n → I j s → ∃ s', evCode T base body s = some (.normal, s') ∧ I (j + 1) s') (hl : ∀ s, I n s → ∃ s', evCode T base body s = some (.exit id, s') ∧ Q s') :
    ∃ s', evCode T base (.block id (.loop body)) s = some (.normal, s') ∧ Q s' := by
  obtain ⟨s', h1, h2⟩ := loop_inv (T := T) (x := .exit id) (by simp) n hs hl n 0 (by omega) s h0
  exact ⟨s', by rw [evCode_block, h1]; simp, h2⟩
end
theorem liveAt_some {H : List Ob} {id : Nat} {o : Ob} (h : H[id]? = some o) (hl : o.live = true) : liveAt H id = some o := by simp [liveAt, h, hl]
def Row (k : IntKind) (H : List Ob) (id off : Nat) (xs : List Nat) : Prop := ∃ o, liveAt H id = some o ∧ ∀ i x, xs[i]? = some x → o.cells[off + i]? = some (.int k (x : Nat))
theorem liveAt_app {H l : List Ob} {id : Nat} {o : Ob} (h : liveAt H id = some o) : liveAt (H ++ l) id = some o := by
  simp only [liveAt, Option.bind_eq_some_iff] at h ⊢
  obtain ⟨o', h1, h2⟩ := h
  refine ⟨o', ?_, h2⟩
  rw [List.getElem?_append_left (List.getElem?_eq_some_iff.1 h1).1]
  exact h1
theorem Row.app {k : IntKind} {H l : List Ob} {id off : Nat} {xs : List Nat} (h : Row k H id off xs) : Row k (H ++ l) id off xs := by
  obtain ⟨o, h1, h2⟩ := h
  exact ⟨o, liveAt_app h1, h2⟩
theorem Row.load {k : IntKind} {H : List Ob} {id off i x : Nat} {xs : List Nat} {e : Env} {a : Operand} (h : Row k H id off xs) (hi : xs[i]? = some x) (ha : opd e a = some (.pointer (some ⟨id, off + i, none⟩))) :
    simpleOp H e (.load none a) = some (.int k (x : Nat), H, some [id], []) := by
  obtain ⟨o, h1, h2⟩ := h
  simp [simpleOp, ha, h1, partL, h2 i x hi]
theorem live0 {H r : List Ob} {cs : List Value} {o e : Bool} {n : Nat} : liveAt (H ++ ⟨cs, true, o, e, n⟩ :: r) H.length = some ⟨cs, true, o, e, n⟩ := by simp [liveAt]
theorem live1 {H r : List Ob} {a : Ob} {cs : List Value} {o e : Bool} {n : Nat} : liveAt (H ++ a :: ⟨cs, true, o, e, n⟩ :: r) (H.length + 1) = some ⟨cs, true, o, e, n⟩ := by simp [liveAt]
theorem live2 {H r : List Ob} {a b : Ob} {cs : List Value} {o e : Bool} {n : Nat} : liveAt (H ++ a :: b :: ⟨cs, true, o, e, n⟩ :: r) (H.length + 2) = some ⟨cs, true, o, e, n⟩ := by simp [liveAt]
def u32s (l : List Nat) : List Value := l.map fun n => .int .u32 (n : Nat)
def u8s (l : List Nat) : List Value := l.map fun n => .int .u8 (n : Nat)
theorem u32s_len (l : List Nat) : (u32s l).length = l.length := by simp [u32s]
theorem u8s_len (l : List Nat) : (u8s l).length = l.length := by simp [u8s]
theorem u32s_set (l : List Nat) (i n : Nat) : (u32s l).set i (.int .u32 (n : Nat)) = u32s (l.set i n) := by simp [u32s, List.map_set]
theorem u8s_set (l : List Nat) (i n : Nat) : (u8s l).set i (.int .u8 (n : Nat)) = u8s (l.set i n) := by simp [u8s, List.map_set]
theorem u32s_get {l : List Nat} {i x : Nat} (h : l[i]? = some x) : (u32s l)[i]? = some (.int .u32 (x : Nat)) := by simp [u32s, h]
theorem u8s_get {l : List Nat} {i x : Nat} (h : l[i]? = some x) : (u8s l)[i]? = some (.int .u8 (x : Nat)) := by simp [u8s, h]
theorem cells_int (k : IntKind) (n : Int) : (Value.int k n).cells.toList = [.int k n] := rfl
theorem cells_int_size (k : IntKind) (n : Int) : (Value.int k n).cells.size = 1 := rfl
theorem storeAt0 {H r : List Ob} {cs : List Value} {e : Bool} {s off : Nat} {v : List Value} (h : off + v.length ≤ cs.length) : storeAt (H ++ ⟨cs, true, true, e, s⟩ :: r) ⟨H.length, off, none⟩ v = some (H ++ ⟨splice cs off v, true, true, e, s⟩ :: r) := by
  simp [storeAt, live0, h]
theorem storeAt1 {H r : List Ob} {a : Ob} {cs : List Value} {e : Bool} {s off : Nat} {v : List Value} (h : off + v.length ≤ cs.length) : storeAt (H ++ a :: ⟨cs, true, true, e, s⟩ :: r) ⟨H.length + 1, off, none⟩ v = some (H ++ a :: ⟨splice cs off v, true, true, e, s⟩ :: r) := by
  simp [storeAt, live1, h]
theorem storeAt2 {H r : List Ob} {a b : Ob} {cs : List Value} {e : Bool} {s off : Nat} {v : List Value} (h : off + v.length ≤ cs.length) : storeAt (H ++ a :: b :: ⟨cs, true, true, e, s⟩ :: r) ⟨H.length + 2, off, none⟩ v = some (H ++ a :: b :: ⟨splice cs off v, true, true, e, s⟩ :: r) := by
  simp [storeAt, live2, h]
theorem addr_add (b o n : Nat) : (⟨b, o, none⟩ : Addr).add n = ⟨b, o + n, none⟩ := by
  unfold Addr.add
  split <;> simp_all
theorem wrap_nat {n : Nat} (h : n < 9223372036854775808) : IntKind.i64.wrap (n : Int) = n := wrapI64_small (by omega) (by omega)
theorem splice_single (cs : List Value) (off : Nat) (x : Value) : splice cs off [x] = cs.set off x := rfl
theorem cells_agg (l : List Value) : (Value.agg l.toArray).cells.toList = l := rfl
theorem cells_agg_size (l : List Value) : (Value.agg l.toArray).cells.size = l.length := rfl
theorem nlt1 (n : Nat) : (n + 1 < n) = False := by simp
theorem nlt2 (n : Nat) : (n + 2 < n) = False := by simp
theorem nlt3 (n : Nat) : (n + 3 < n) = False := by simp
theorem nlt4 (n : Nat) : (n + 4 < n) = False := by simp
theorem rf_int (k : IntKind) (n : Int) : rf (.int k n) = true := rfl
theorem rf_tuple_ints (k j : IntKind) (a b : Int) : rf (.tuple #[.int k a, .int j b]) = true := rfl
theorem toList2 (a b : Value) : (#[a, b] : Array Value).toList = [a, b] := rfl
theorem Row.elems {k : IntKind} {H : List Ob} {id off n c : Nat} {xs : List Nat} (h : Row k H id off xs) (hx : 0 < xs.length) : elemsOf H 1 xs.length (.slice (some ⟨id, off, none⟩) n c) = some (xs.map fun (x : Nat) => Value.int k x) := by
  obtain ⟨o, h1, h2⟩ := h
  have hl : off + xs.length ≤ o.cells.length := by
    have := h2 (xs.length - 1) _ (List.getElem?_eq_getElem (by omega))
    have := (List.getElem?_eq_some_iff.1 this).1
    omega
  simp only [elemsOf, h1, Option.bind_some, Option.isNone_none, Nat.mul_one, hl, and_self, if_true, Option.some.injEq]
  apply List.ext_getElem?
  intro i
  rw [List.getElem?_take]
  by_cases hi : i < xs.length
  · rw [if_pos hi, List.getElem?_drop, h2 i _ (List.getElem?_eq_getElem hi), List.getElem?_map, List.getElem?_eq_getElem hi]; rfl
  · rw [if_neg hi, List.getElem?_eq_none (by simp; omega)]
theorem splice_gen (cs : List Value) (off : Nat) (v : List Value) (h : off + v.length ≤ cs.length) : splice cs off v = cs.take off ++ (v ++ cs.drop (off + v.length)) := by
  unfold splice
  split
  · rename_i x
    simp only [List.length_cons, List.length_nil, Nat.zero_add] at h
    rw [List.set_eq_take_append_cons_drop, if_pos (by omega)]
    simp
  · rfl
theorem append_fits {H r : List Ob} {es bytes len cap n : Nat} {cs new : List Value} {x : Value} (hl : lenV x = some n) (hx : elemsOf (H ++ ⟨cs, true, true, true, es⟩ :: r) es n x = some new) (hn : 0 < n) (hc : len + n ≤ cap) (hb : (len + n) * bytes ≤ 2 ^ 47) (hb0 : 0 < bytes) (he : 0 < es) (hf : len * es + new.length ≤ cs.length) :
    appendV es bytes (H ++ ⟨cs, true, true, true, es⟩ :: r) (.slice (some ⟨H.length, 0, none⟩) len cap) x = some (.slice (some ⟨H.length, 0, none⟩) (len + n) cap, H ++ ⟨splice cs (len * es) new, true, true, true, es⟩ :: r, none, [H.length]) := by
  have h1 : ¬ n = 0 := by omega
  have h2 : 0 + len * es ≤ cs.length := by omega
  have h3 : (len + n) * bytes ≤ 2 ^ 47 ∧ 0 < bytes ∧ 0 < es := ⟨hb, hb0, he⟩
  have hold : elemsOf (H ++ ⟨cs, true, true, true, es⟩ :: r) es len (.slice (some ⟨H.length, 0, none⟩) len cap) = some ((cs.drop 0).take (len * es)) := by
    simp only [elemsOf, live0, Option.bind_some, Option.isNone_none, h2, and_self, if_true]
  simp only [appendV, hl, hx, Option.bind_some, if_neg h1, h3, and_self, not_true_eq_false, if_false, live0, hold, if_true, hc, addr_add, Nat.zero_add, storeAt0 hf]
end Go.Ev
set_option linter.unusedSimpArgs false
set_option linter.unusedVariables false
namespace Go.Ev
def num (B : Nat) : List Nat → Nat
  | [] => 0
  | x :: r => x + B * num B r
def dig (B n v : Nat) : List Nat := (List.range n).map fun i => v / B ^ i % B
theorem dig_len (B n v : Nat) : (dig B n v).length = n := by simp [dig]
theorem dig_get {B n v i : Nat} (h : i < n) : (dig B n v)[i]? = some (v / B ^ i % B) := by simp [dig, h]
theorem dig_lt {B n v x : Nat} (hB : 0 < B) (h : x ∈ dig B n v) : x < B := by
  simp only [dig, List.mem_map] at h
  obtain ⟨i, _, rfl⟩ := h
  exact Nat.mod_lt _ hB
theorem dig_ext {B n v : Nat} {l : List Nat} (hl : l.length = n) (h : ∀ i, i < n → l[i]? = some (v / B ^ i % B)) : l = dig B n v := by
  apply List.ext_getElem?
  intro i
  by_cases hi : i < n
  · rw [h i hi, dig_get hi]
  · rw [List.getElem?_eq_none (by omega), List.getElem?_eq_none (by rw [dig_len]; omega)]
theorem num_lt {B : Nat} : ∀ {l : List Nat}, (∀ x ∈ l, x < B) → num B l < B ^ l.length
  | [], _ => by simp [num]
  | x :: r, h => by
    have h1 : x < B := h x (by simp)
    have h2 := num_lt (l := r) fun y hy => h y (by simp [hy])
    simp only [num, List.length_cons, Nat.pow_succ]
    have h3 : B * (num B r + 1) ≤ B * B ^ r.length := Nat.mul_le_mul_left _ h2
    rw [Nat.mul_add, Nat.mul_one] at h3
    rw [Nat.mul_comm (B ^ r.length) B]
    omega
theorem num_append (B : Nat) : ∀ (a b : List Nat), num B (a ++ b) = num B a + B ^ a.length * num B b
  | [], b => by simp [num]
  | x :: r, b => by
    simp only [num, List.cons_append, num_append B r b, List.length_cons, Nat.pow_succ, Nat.mul_add]
    rw [← Nat.mul_assoc, Nat.mul_comm B (B ^ r.length)]
    omega
theorem num_take {B : Nat} {l : List Nat} {j x : Nat} (h : l[j]? = some x) : num B (l.take (j + 1)) = num B (l.take j) + x * B ^ j := by
  have hj : j < l.length := (List.getElem?_eq_some_iff.1 h).1
  rw [List.take_add_one, h, num_append]
  simp [num, Nat.min_eq_left (Nat.le_of_lt hj), Nat.mul_comm]
theorem num_get {B : Nat} (hB : 0 < B) : ∀ {l : List Nat} {i x : Nat}, (∀ x ∈ l, x < B) → l[i]? = some x → num B l / B ^ i % B = x
  | [], i, x, _, h => by simp at h
  | y :: r, 0, x, hl, h => by
    simp at h; subst h
    have := hl y (by simp)
    simp only [num, Nat.pow_zero, Nat.div_one, Nat.add_mul_mod_self_left]
    exact Nat.mod_eq_of_lt this
  | y :: r, i + 1, x, hl, h => by
    have := hl y (by simp)
    simp only [num, Nat.pow_succ, Nat.mul_comm (B ^ i) B]
    rw [← Nat.div_div_eq_div_mul, Nat.add_mul_div_left _ _ hB, Nat.div_eq_of_lt this, Nat.zero_add]
    exact num_get hB (fun z hz => hl z (by simp [hz])) (by simpa using h)
theorem dig_num {B : Nat} (hB : 0 < B) {l : List Nat} (h : ∀ x ∈ l, x < B) : dig B l.length (num B l) = l := by
  symm
  exact dig_ext rfl fun i hi => by rw [num_get hB h (List.getElem?_eq_getElem hi)]; exact List.getElem?_eq_getElem hi
theorem dig_succ (B n v : Nat) : dig B (n + 1) v = v % B :: dig B n (v / B) := by
  simp only [dig, List.range_succ_eq_map, List.map_cons, List.map_map, Nat.pow_zero, Nat.div_one]
  congr 1
  apply List.map_congr_left
  intro i _
  simp only [Function.comp, Nat.succ_eq_add_one, Nat.pow_succ, Nat.div_div_eq_div_mul, Nat.mul_comm (B ^ i) B]
theorem num_dig {B : Nat} (hB : 0 < B) : ∀ (n v : Nat), num B (dig B n v) = v % B ^ n
  | 0, v => by simp [dig, num, Nat.mod_one]
  | n + 1, v => by
    rw [dig_succ, num, num_dig hB n, Nat.pow_succ, Nat.mul_comm (B ^ n) B, Nat.mod_mul]
theorem num_set {B : Nat} : ∀ {l : List Nat} {i x : Nat} (y : Nat), l[i]? = some x → num B (l.set i y) + x * B ^ i = num B l + y * B ^ i
  | [], i, x, y, h => by simp at h
  | z :: r, 0, x, y, h => by
    simp at h; subst h
    simp only [List.set_cons_zero, num, Nat.pow_zero]
    omega
  | z :: r, i + 1, x, y, h => by
    have := num_set (B := B) (l := r) (i := i) y (by simpa using h)
    simp only [List.set_cons_succ, num, Nat.pow_succ]
    have e : B * (num B (r.set i y) + x * B ^ i) = B * (num B r + y * B ^ i) := by rw [this]
    rw [Nat.mul_add, Nat.mul_add] at e
    rw [show x * (B ^ i * B) = B * (x * B ^ i) by simp only [Nat.mul_assoc, Nat.mul_left_comm, Nat.mul_comm], show y * (B ^ i * B) = B * (y * B ^ i) by simp only [Nat.mul_assoc, Nat.mul_left_comm, Nat.mul_comm]]
    omega
theorem set_lt {B : Nat} {l : List Nat} {i y : Nat} (h : ∀ x ∈ l, x < B) (hy : y < B) : ∀ x ∈ l.set i y, x < B := by
  intro x hx
  rcases List.mem_or_eq_of_mem_set hx with h1 | h1
  · exact h x h1
  · rw [h1]; exact hy
theorem dig_byte {m j x N : Nat} (hj : j / 4 < m) (hN : N < 256 ^ j) (hx : x < 256) :
    (dig 4294967296 m N).set (j / 4) ((dig 4294967296 m N).getD (j / 4) 0 ||| x * 2 ^ (8 * (j % 4))) = dig 4294967296 m (N + x * 256 ^ j) := by
  have e256 : (256 : Nat) = 2 ^ 8 := rfl
  have eW : (4294967296 : Nat) = 2 ^ 32 := rfl
  have hpow : (256 : Nat) ^ j = 2 ^ (8 * (j % 4)) * 4294967296 ^ (j / 4) := by
    rw [e256, eW, ← Nat.pow_mul, ← Nat.pow_mul, ← Nat.pow_add]
    congr 1; omega
  have hWq : 0 < 4294967296 ^ (j / 4) := Nat.pow_pos (by decide)
  have hdiv : N / 4294967296 ^ (j / 4) < 2 ^ (8 * (j % 4)) := by
    rw [Nat.div_lt_iff_lt_mul hWq, ← hpow]; exact hN
  have h24 : (2 : Nat) ^ (8 * (j % 4)) ≤ 2 ^ 24 := Nat.pow_le_pow_right (by decide) (by omega)
  have hx24 : (x + 1) * 2 ^ (8 * (j % 4)) ≤ 256 * 2 ^ 24 := Nat.mul_le_mul (by omega) h24
  rw [Nat.add_mul, Nat.one_mul] at hx24
  have hsum : N / 4294967296 ^ (j / 4) + x * 2 ^ (8 * (j % 4)) < 4294967296 := by show _ < 4294967296; omega
  apply dig_ext (by rw [List.length_set, dig_len])
  intro i hi
  by_cases hq : i = j / 4
  · subst hq
    rw [List.getElem?_set_self (by rw [dig_len]; exact hi), List.getD_eq_getElem?_getD, dig_get hi]
    rw [hpow, ← Nat.mul_assoc, Nat.add_mul_div_right _ _ hWq]
    simp only [Option.getD_some]
    rw [Nat.mod_eq_of_lt (a := N / _) (by omega), Nat.mod_eq_of_lt hsum, Nat.add_comm, Nat.mul_comm x, Nat.two_pow_add_eq_or_of_lt hdiv, Nat.or_comm]
  · rw [List.getElem?_set_ne (Ne.symm hq), dig_get hi]
    congr 1
    by_cases hlt : i < j / 4
    · have : 4294967296 ^ (j / 4) = 4294967296 * 4294967296 ^ (j / 4 - i - 1) * 4294967296 ^ i := by
        rw [Nat.mul_assoc, ← Nat.pow_add, ← Nat.pow_add_one']; congr 1; omega
      rw [hpow, this]
      rw [show x * (2 ^ (8 * (j % 4)) * (4294967296 * 4294967296 ^ (j / 4 - i - 1) * 4294967296 ^ i)) = (x * 2 ^ (8 * (j % 4)) * 4294967296 ^ (j / 4 - i - 1) * 4294967296) * 4294967296 ^ i by simp only [Nat.mul_assoc, Nat.mul_left_comm, Nat.mul_comm]]
      rw [Nat.add_mul_div_right _ _ (Nat.pow_pos (by decide)), Nat.add_mul_mod_self_right]
    · have hle : 4294967296 ^ (j / 4 + 1) ≤ 4294967296 ^ i := Nat.pow_le_pow_right (by decide) (by omega)
      have h1 : N + x * 256 ^ j < 4294967296 ^ i := by
        refine Nat.lt_of_lt_of_le ?_ hle
        have : (256 : Nat) ^ (j + 1) ≤ 4294967296 ^ (j / 4 + 1) := by
          rw [e256, eW, ← Nat.pow_mul, ← Nat.pow_mul]; exact Nat.pow_le_pow_right (by decide) (by omega)
        refine Nat.lt_of_lt_of_le ?_ this
        rw [Nat.pow_succ]
        have : x * 256 ^ j ≤ 255 * 256 ^ j := Nat.mul_le_mul_right _ (by omega)
        omega
      rw [Nat.div_eq_of_lt h1, Nat.div_eq_of_lt (by omega)]
end Go.Ev
set_option linter.unusedSimpArgs false
set_option linter.unusedVariables false
namespace Go.Ev
def ns (k : IntKind) (l : List Nat) : List Value := l.map fun n => .int k (n : Nat)
theorem ns_len (k : IntKind) (l : List Nat) : (ns k l).length = l.length := by simp [ns]
theorem ns_set (k : IntKind) (l : List Nat) (i n : Nat) : (ns k l).set i (.int k (n : Nat)) = ns k (l.set i n) := by simp [ns, List.map_set]
theorem ns_get {k : IntKind} {l : List Nat} {i x : Nat} (h : l[i]? = some x) : (ns k l)[i]? = some (.int k (x : Nat)) := by simp [ns, h]
theorem ns_append (k : IntKind) (a b : List Nat) : ns k (a ++ b) = ns k a ++ ns k b := by simp [ns]
theorem liveAt_lt {H : List Ob} {id : Nat} {o : Ob} (h : liveAt H id = some o) : id < H.length := by
  simp only [liveAt, Option.bind_eq_some_iff] at h
  obtain ⟨o', h1, _⟩ := h
  exact (List.getElem?_eq_some_iff.1 h1).1
theorem liveAt_congr {H H' : List Ob} {id : Nat} (h : H'[id]? = H[id]?) : liveAt H' id = liveAt H id := by simp only [liveAt, h]
inductive Sl (k : IntKind) (H : List Ob) : Value → List Nat → Prop
  | nil : Sl k H (.slice none 0 0) []
  | mk {id off c : Nat} {o : Ob} {l : List Nat} : liveAt H id = some o → off + l.length ≤ o.cells.length → (∀ (i x : Nat), l[i]? = some x → o.cells[off + i]? = some (.int k (x : Nat))) → Sl k H (.slice (some ⟨id, off, none⟩) l.length c) l
theorem Sl.row {k : IntKind} {H : List Ob} {v : Value} {l : List Nat} (h : Sl k H v l) (hl : 0 < l.length) : ∃ id off c, v = .slice (some ⟨id, off, none⟩) l.length c ∧ Row k H id off l := by
  cases h with
  | nil => simp at hl
  | mk h1 h2 h3 => exact ⟨_, _, _, rfl, _, h1, h3⟩
theorem Sl.congr {k : IntKind} {H H' : List Ob} {v : Value} {l : List Nat} (h : Sl k H v l) (hH : ∀ id, id < H.length → H'[id]? = H[id]?) : Sl k H' v l := by
  cases h with
  | nil => exact .nil
  | mk h1 h2 h3 => exact .mk (by rw [liveAt_congr (hH _ (liveAt_lt h1))]; exact h1) h2 h3
theorem Sl.app {k : IntKind} {H l' : List Ob} {v : Value} {l : List Nat} (h : Sl k H v l) : Sl k (H ++ l') v l :=
  h.congr fun id hid => List.getElem?_append_left hid
theorem Sl.lenV {k : IntKind} {H : List Ob} {v : Value} {l : List Nat} (h : Sl k H v l) : lenV v = some l.length := by
  cases h <;> rfl
theorem Sl.elems {k : IntKind} {H : List Ob} {v : Value} {l : List Nat} (h : Sl k H v l) : elemsOf H 1 l.length v = some (ns k l) := by
  cases h with
  | nil => rfl
  | mk h1 h2 h3 =>
    simp only [elemsOf, h1, Option.bind_some, Option.isNone_none, Nat.mul_one, h2, and_self, if_true, Option.some.injEq]
    apply List.ext_getElem?
    intro i
    rw [List.getElem?_take]
    by_cases hi : i < l.length
    · rw [if_pos hi, List.getElem?_drop, h3 i _ (List.getElem?_eq_getElem hi), ns_get (List.getElem?_eq_getElem hi)]
    · rw [if_neg hi, List.getElem?_eq_none (by rw [ns_len]; omega)]
inductive Grown (k : IntKind) (B : Nat) (H : List Ob) : Value → List Nat → Prop
  | nil : Grown k B H (.slice none 0 0) []
  | own {id : Nat} {bs : List Nat} : B ≤ id → 0 < bs.length → H[id]? = some (Ob.grown 1 (ns k bs)) → Grown k B H (.slice (some ⟨id, 0, none⟩) bs.length bs.length) bs
  | new {id : Nat} {bs : List Nat} : B ≤ id → 0 < bs.length → H[id]? = some (Ob.fresh (ns k bs)) → Grown k B H (.slice (some ⟨id, 0, none⟩) bs.length bs.length) bs
theorem Grown.sl {k : IntKind} {B : Nat} {H : List Ob} {v : Value} {l : List Nat} (h : Grown k B H v l) : Sl k H v l := by
  cases h with
  | nil => exact .nil
  | own h1 h2 h3 => exact .mk (liveAt_some h3 rfl) (by simp [Ob.grown, ns_len]) (fun i x hx => by rw [Nat.zero_add]; exact ns_get hx)
  | new h1 h2 h3 => exact .mk (liveAt_some h3 rfl) (by simp [Ob.fresh, ns_len]) (fun i x hx => by rw [Nat.zero_add]; exact ns_get hx)
theorem Grown.app {k : IntKind} {B : Nat} {H l' : List Ob} {v : Value} {l : List Nat} (h : Grown k B H v l) : Grown k B (H ++ l') v l := by
  cases h with
  | nil => exact .nil
  | own h1 h2 h3 => exact .own h1 h2 (by rw [List.getElem?_append_left (List.getElem?_eq_some_iff.1 h3).1]; exact h3)
  | new h1 h2 h3 => exact .new h1 h2 (by rw [List.getElem?_append_left (List.getElem?_eq_some_iff.1 h3).1]; exact h3)
theorem Grown.append {k : IntKind} {B bytes : Nat} {H : List Ob} {s x : Value} {bs new : List Nat} (h : Grown k B H s bs) (hB : B ≤ H.length) (hl : Go.Ev.lenV x = some new.length) (he : elemsOf H 1 new.length x = some (ns k new)) (hb : (bs.length + new.length) * bytes ≤ 2 ^ 47) (hb0 : 0 < bytes) :
    ∃ s' H' M, appendV 1 bytes H s x = some (s', H', none, M) ∧ Grown k B H' s' (bs ++ new) ∧ (∀ i ∈ M, B ≤ i) ∧ H.length ≤ H'.length ∧ ∀ i, i < B → H'[i]? = H[i]? := by
  rcases Nat.eq_zero_or_pos new.length with hn | hn
  · have : new = [] := List.eq_nil_of_length_eq_zero hn
    subst this
    rw [List.append_nil]
    refine ⟨s, H, [], ?_, h, by simp, Nat.le_refl _, fun _ _ => rfl⟩
    rw [List.length_nil] at hl he
    cases h <;> simp only [appendV, hl, he, Option.bind_some, if_true]
  · cases h with
    | nil =>
      refine ⟨.slice (some ⟨H.length, 0, none⟩) new.length new.length, H ++ [Ob.grown 1 (ns k new)], [], ?_, ?_, by simp, by simp, ?_⟩
      · have h1 : ¬ new.length = 0 := by omega
        have h2 : (0 + new.length) * bytes ≤ 2 ^ 47 ∧ 0 < bytes ∧ 0 < 1 := ⟨by simpa using hb, hb0, by decide⟩
        simp only [appendV, hl, he, Option.bind_some, if_neg h1, h2, and_self, not_true_eq_false, if_false, if_true]
      · rw [List.nil_append]
        exact .own hB hn (by simp)
      · intro i hi
        rw [List.getElem?_append_left (by omega)]
    | @own id0 _ h1 h2 h3 =>
      refine ⟨.slice (some ⟨H.length, 0, none⟩) (bs.length + new.length) (bs.length + new.length), (H.set id0 Ob.dead) ++ [Ob.grown 1 (ns k (bs ++ new))], [id0], ?_, ?_, by simpa using h1, by simp, ?_⟩
      · have h4 : liveAt H id0 = some (Ob.grown 1 (ns k bs)) := liveAt_some h3 rfl
        have h5 : ¬ new.length = 0 := by omega
        have h6 : (bs.length + new.length) * bytes ≤ 2 ^ 47 ∧ 0 < bytes ∧ 0 < 1 := ⟨hb, hb0, by decide⟩
        have h7 : ¬ (bs.length + new.length ≤ bs.length) := by omega
        have h8 : elemsOf H 1 bs.length (.slice (some ⟨id0, 0, none⟩) bs.length bs.length) = some (ns k bs) := (Grown.own h1 h2 h3).sl.elems
        simp only [appendV, hl, he, Option.bind_some, if_neg h5, h6, and_self, not_true_eq_false, if_false, if_true, h4, h8]
        simp only [Ob.grown, not_true_eq_false, if_false, if_neg h7, Bool.false_eq_true, Nat.le_refl, if_true, ← ns_append]
      · have := Grown.own (k := k) (B := B) (H := (H.set id0 Ob.dead) ++ [Ob.grown 1 (ns k (bs ++ new))]) (id := H.length) (bs := bs ++ new) hB (by simp; omega) (by simp)
        rwa [List.length_append] at this
      · intro i hi
        rw [List.getElem?_append_left (by simp; have := (List.getElem?_eq_some_iff.1 h3).1; omega), List.getElem?_set_ne (by omega)]
    | @new id0 _ h1 h2 h3 =>
      refine ⟨.slice (some ⟨H.length, 0, none⟩) (bs.length + new.length) (bs.length + new.length), H ++ [Ob.grown 1 (ns k (bs ++ new))], [], ?_, ?_, by simp, by simp, ?_⟩
      · have h4 : liveAt H id0 = some (Ob.fresh (ns k bs)) := liveAt_some h3 rfl
        have h5 : ¬ new.length = 0 := by omega
        have h6 : (bs.length + new.length) * bytes ≤ 2 ^ 47 ∧ 0 < bytes ∧ 0 < 1 := ⟨hb, hb0, by decide⟩
        have h7 : ¬ (bs.length + new.length ≤ bs.length) := by omega
        have h8 : elemsOf H 1 bs.length (.slice (some ⟨id0, 0, none⟩) bs.length bs.length) = some (ns k bs) := (Grown.new h1 h2 h3).sl.elems
        simp only [appendV, hl, he, Option.bind_some, if_neg h5, h6, and_self, not_true_eq_false, if_false, if_true, h4, h8]
        simp only [Ob.fresh, not_true_eq_false, if_false, if_neg h7, Bool.false_eq_true, Nat.le_refl, if_true, ← ns_append]
      · have := Grown.own (k := k) (B := B) (H := H ++ [Ob.grown 1 (ns k (bs ++ new))]) (id := H.length) (bs := bs ++ new) hB (by simp; omega) (by simp)
        rwa [List.length_append] at this
      · intro i hi
        rw [List.getElem?_append_left (by omega)]
theorem ext_app {H H' : List Ob} (h1 : H.length ≤ H'.length) (h2 : ∀ i, i < H.length → H'[i]? = H[i]?) : ∃ l, H' = H ++ l := by
  refine ⟨H'.drop H.length, ?_⟩
  apply List.ext_getElem?
  intro i
  by_cases hi : i < H.length
  · rw [List.getElem?_append_left hi, h2 i hi]
  · rw [List.getElem?_append_right (by omega), List.getElem?_drop]
    congr 1; omega
theorem inMerge_ge {base : Nat} : ∀ {log M : List Nat}, (∀ i ∈ M, base ≤ i) → inMerge base log M = log
  | log, [], _ => rfl
  | log, i :: r, h => by
    have h1 : ¬ i < base := by have := h i (by simp); omega
    simp only [inMerge, h1, false_and, if_false]
    exact inMerge_ge fun j hj => h j (by simp [hj])
end Go.Ev
set_option linter.unusedSimpArgs false
set_option linter.unusedVariables false
namespace Go.Ev
def gate {α : Type} (p : Prop) [Decidable p] (x : Option α) : Option α := if p then x else none
theorem gate_congr {α : Type} {p p' : Prop} [Decidable p] [Decidable p'] (x : Option α) (h : ∀ _ : Unit, p = p') : gate p x = gate p' x := by
  have h := h (); subst h; unfold gate; congr
theorem bind_congr2 {α β : Type} {x y : Option α} (f : α → Option β) (h : ∀ _ : Unit, x = y) : x.bind f = y.bind f := by rw [h ()]
theorem ite_congr2 {α : Type} {c c' : Prop} [Decidable c] [Decidable c'] (x y : α) (h : ∀ _ : Unit, c = c') : (if c then x else y) = (if c' then x else y) := by
  have h := h (); subst h; congr
theorem gate_neg {α : Type} (b : Bool) (x : Option α) : (if b = true then none else x) = gate (b = false) x := by cases b <;> rfl
theorem gate_true {α : Type} [Decidable True] {x : Option α} : gate True x = x := by simp [gate]
def guardV {α : Type} (v : Value) (w : Bool) (x y : Option α) : Option α := match v with
  | .bool c => if c = w then x else y
  | _ => none
def gd (w : Bool) (v : Value) : Value := match v with
  | .tuple _ => .bool (!w)
  | v => v
theorem gd_bool {w b : Bool} : gd w (.bool b) = .bool b := Eq.trans rfl rfl
theorem gd_ut : gd true undef = .bool false := Eq.trans rfl rfl
theorem gd_uf : gd false undef = .bool true := Eq.trans rfl rfl
theorem guardV_congr {α : Type} {v v' : Value} (w : Bool) (x y : Option α) (h : ∀ _ : Unit, v = v') : guardV v w x y = guardV v' w x y := by rw [h ()]
theorem guardV_tt {α : Type} {x y : Option α} : guardV (.bool true) true x y = x := rfl
theorem guardV_ff {α : Type} {x y : Option α} : guardV (.bool false) false x y = x := rfl
theorem guardV_tf {α : Type} {x y : Option α} : guardV (.bool true) false x y = y := rfl
theorem guardV_ft {α : Type} {x y : Option α} : guardV (.bool false) true x y = y := rfl
def keepV (t : Nat) (v : Option Value) (l : Env) : Env := match v with
  | some v => (t, v) :: l
  | none => l
theorem keepV_some {t : Nat} {v : Value} {l : Env} : keepV t (some v) l = (t, v) :: l := rfl
theorem keep_nil {e : Env} : Env.keep e [] = [] := rfl
theorem keep_cons {e : Env} {t : Nat} {r : List Nat} : Env.keep e (t :: r) = keepV t (e.get t) (Env.keep e r) := rfl
theorem fs_cond {T : Tab} {base : Nat} {c : Operand} {a b : ACode} {s : St} : evCode T base (.cond c a b) s = (opd s.env c).bind fun v => guardV v true (evCode T base a s) (evCode T base b s) := by
  rw [evCode_cond]
  cases opd s.env c with
  | none => rfl
  | some v =>
    cases v <;> try rfl
    rename_i c
    cases c <;> rfl
def steps (T : Tab) (b : Nat) (q : Bool) : List AOper → St → Option St
  | [], s => some s
  | o :: r, s => match guardOf s.env o.guard with
    | some true => (evOper T o.op s.env s.h).bind fun x => if (q && !x.2.2.2.isEmpty) = true then none else steps T b q r ⟨s.env.put o.dst x.1, x.2.1, inMerge b s.log x.2.2.2⟩
    | some false => steps T b q r ⟨s.env.put o.dst undef, s.h, s.log⟩
    | none => none
section
variable {T : Tab} {b : Nat} {q : Bool}
theorem evOps_steps : ∀ (ops : List AOper) (s : St) (recs : List Rec), (evOps T b ops s recs).map (·.1) = steps T b false ops s
  | [], s, recs => by rw [evOps_nil]; rfl
  | o :: r, s, recs => by
    rw [evOps_cons]
    unfold steps
    cases hg : guardOf s.env o.guard with
    | none => rfl
    | some g =>
      cases g with
      | false => exact evOps_steps r _ _
      | true =>
        cases hx : evOper T o.op s.env s.h with
        | none => simp [hx]
        | some x =>
          simp only [hx, Option.bind_some, Bool.false_and, Bool.false_eq_true, if_false]
          exact evOps_steps r _ _
theorem evOps_quiet : ∀ (ops : List AOper) (s : St) (recs : List Rec) (s' : St), steps T b true ops s = some s' → (∀ r ∈ recs, r.2 = []) → ∃ recs', evOps T b ops s recs = some (s', recs') ∧ (∀ r ∈ recs', r.2 = []) ∧ recs'.length = recs.length + ops.length
  | [], s, recs, s', h, hr => by
    simp only [steps, Option.some.injEq] at h
    subst h
    exact ⟨recs, evOps_nil, hr, rfl⟩
  | o :: r, s, recs, s', h, hr => by
    rw [evOps_cons]
    unfold steps at h
    cases hg : guardOf s.env o.guard with
    | none => simp only [hg] at h; cases h
    | some g =>
      simp only [hg] at h
      cases g with
      | false =>
        obtain ⟨recs', h1, h2, h3⟩ := evOps_quiet r _ (recs ++ [(some [], [])]) s' h (fun x hx => by
          rcases List.mem_append.1 hx with h | h
          · exact hr x h
          · simp at h; subst h; rfl)
        exact ⟨recs', h1, h2, by rw [h3]; simp; omega⟩
      | true =>
        cases hx : evOper T o.op s.env s.h with
        | none => simp [hx] at h
        | some x =>
          simp only [hx, Option.bind_some] at h
          split at h
          · cases h
          · rename_i hq
            have hq' : x.2.2.2 = [] := by simpa using hq
            obtain ⟨recs', h1, h2, h3⟩ := evOps_quiet r _ (recs ++ [(x.2.2.1, x.2.2.2)]) s' h (fun y hy => by
              rcases List.mem_append.1 hy with h | h
              · exact hr y h
              · simp at h; subst h; exact hq')
            exact ⟨recs', h1, h2, by rw [h3]; simp; omega⟩
theorem fs_region {ops : List AOper} {keep : Option (List Nat)} {s : St} : evCode T b (.region ops keep []) s = (steps T b false ops s).bind fun s' => some (.normal, s'.after keep) := by
  rw [evCode_region, ← evOps_steps ops s []]
  cases evOps T b ops s [] <;> rfl
def qElse {α : Type} (x y : Option α) : Option α := match x with
  | some v => some v
  | none => y
theorem qElse_some {α : Type} {v : α} {y : Option α} : qElse (some v) y = some v := rfl
theorem qElse_congr {α : Type} {x x' : Option α} (y : Option α) (h : ∀ _ : Unit, x = x') : qElse x y = qElse x' y := by rw [h ()]
def quiet (T : Tab) (b : Nat) (ops : List AOper) (pairs : List (Nat × Nat)) (s : St) : Option St :=
  match (pairs.all fun p => decide (p.1 < ops.length) && decide (p.2 < ops.length)) with
  | true => steps T b true ops s
  | false => none
theorem pairsOk_quiet {recs : List Rec} (hr : ∀ r ∈ recs, r.2 = []) : ∀ {pairs : List (Nat × Nat)}, (pairs.all fun p => decide (p.1 < recs.length) && decide (p.2 < recs.length)) = true → pairsOk recs pairs = true
  | [], _ => rfl
  | (i, j) :: ps, h => by
    simp only [List.all_cons, Bool.and_eq_true, decide_eq_true_eq] at h
    have ih := pairsOk_quiet hr (pairs := ps) h.2
    simp only [pairsOk, List.all_cons, Bool.and_eq_true] at ih ⊢
    refine ⟨?_, ih⟩
    rw [List.getElem?_eq_getElem h.1.1, List.getElem?_eq_getElem h.1.2]
    simp only [apartOf, hr _ (List.getElem_mem h.1.1), hr _ (List.getElem_mem h.1.2), List.isEmpty_nil, Bool.true_or, Bool.and_self]
def inText (T : Tab) (b : Nat) (c : ACode) (s : St) : Option (AExit × St) := evCode T b c s
theorem fs_regionP {ops : List AOper} {keep : Option (List Nat)} {p : Nat × Nat} {ps : List (Nat × Nat)} {s : St} : evCode T b (.region ops keep (p :: ps)) s = qElse ((quiet T b ops (p :: ps) s).bind fun s' => some (.normal, s'.after keep)) (inText T b (.region ops keep (p :: ps)) s) := by
  cases hq : quiet T b ops (p :: ps) s with
  | none => rfl
  | some s' =>
    simp only [Option.bind_some, qElse]
    unfold quiet at hq
    split at hq
    · rename_i hp
      obtain ⟨recs, h1, h2, h3⟩ := evOps_quiet ops s [] s' hq (by simp)
      simp only [List.length_nil, Nat.zero_add] at h3
      rw [evCode_region, h1]
      simp only [Option.bind_some]
      rw [if_pos (pairsOk_quiet h2 (by rw [h3]; exact hp))]
    · cases hq
theorem fs_nil {s : St} : steps T b q [] s = some s := rfl
theorem fs_guard {o : AOp} {d : Option Nat} {t : Nat} {w : Bool} {r : List AOper} {e : Env} {H : List Ob} {l : List Nat} : steps T b q (⟨d, o, some (t, w)⟩ :: r) ⟨e, H, l⟩ = (e.get t).bind fun v => guardV (gd w v) w (steps T b q (⟨d, o, none⟩ :: r) ⟨e, H, l⟩) (steps T b q r ⟨e.put d undef, H, l⟩) := by
  simp only [steps, guardOf]
  cases e.get t with
  | none => rfl
  | some v =>
    cases v <;> try rfl
    all_goals first | (cases w <;> rfl) | (rename_i c; cases c <;> cases w <;> rfl)
theorem fs_pure {o : AOp} {d : Nat} {r : List AOper} {e : Env} {H : List Ob} {l : List Nat} {v : Option Value} (h : evOper T o e H = pureV H v) : steps T b q (⟨some d, o, none⟩ :: r) ⟨e, H, l⟩ = v.bind fun v => steps T b q r ⟨(d, v) :: e, H, l⟩ := by
  simp only [steps, guardOf, h, pureV]
  cases v <;> cases q <;> rfl
theorem fs_blockS {base id : Nat} {x y : ACode} {s : St} : evCode T base (.block id (.seq x y)) s = (evCode T base (.seq x y) s).bind fun r => match r.1 with
    | .exit i => if i = id then some (.normal, r.2) else some (.exit i, r.2)
    | z => some (z, r.2) := evCode_block
theorem fs_blockR {base id : Nat} {ops : List AOper} {keep : Option (List Nat)} {pairs : List (Nat × Nat)} {s : St} : evCode T base (.block id (.region ops keep pairs)) s = (evCode T base (.region ops keep pairs) s).bind fun r => match r.1 with
    | .exit i => if i = id then some (.normal, r.2) else some (.exit i, r.2)
    | z => some (z, r.2) := evCode_block
theorem fs_blockC {base id : Nat} {c : Operand} {x y : ACode} {s : St} : evCode T base (.block id (.cond c x y)) s = (evCode T base (.cond c x y) s).bind fun r => match r.1 with
    | .exit i => if i = id then some (.normal, r.2) else some (.exit i, r.2)
    | z => some (z, r.2) := evCode_block
theorem fs_blockK {base id : Nat} {s : St} : evCode T base (.block id .skip) s = some (.normal, s) := by rw [evCode_block, evCode_skip]; rfl
theorem fs_blockB {base id id2 : Nat} {x : ACode} {s : St} : evCode T base (.block id (.block id2 x)) s = (evCode T base (.block id2 x) s).bind fun r => match r.1 with
    | .exit i => if i = id then some (.normal, r.2) else some (.exit i, r.2)
    | z => some (z, r.2) := evCode_block
def vPick : Value → Value → Value → Option Value
  | .bool t, a, b => some (if t then a else b)
  | _, _, _ => none
def vEq (ks : Option (List Bool)) (neg : Bool) (x y : Value) : Option Value :=
  (match ks, x, y with
    | some ks, .agg a, .agg b => cellsEq ks a.toList b.toList
    | none, .bool a, .bool b => some (a == b)
    | _, _, _ => none).bind fun b => some (.bool (if neg then !b else b))
def vConv (k : IntKind) : Value → Option Value
  | .int _ n => some (.int k (k.wrap n))
  | _ => none
def vStr : Value → Option Value
  | .string s => some (.string s)
  | _ => none
def vField (n : Option Nat) (off : Nat) : Value → Option Value
  | .agg cs => partL n cs.toList off
  | _ => none
def vIndex (n : Option Nat) (len es : Nat) : Value → Value → Option Value
  | .agg cs, .int _ i => if 0 ≤ i ∧ i < len then partL n cs.toList (i.toNat * es) else none
  | _, _ => none
def vIndexStr : Value → Value → Option Value
  | .string s, .int _ i => if 0 ≤ i then (s.data.toList[i.toNat]?).bind fun b => some (.int .u8 b.toNat) else none
  | _, _ => none
def vFieldAddr (off : Nat) : Value → Option Value
  | .pointer (some a) => some (.pointer (some (a.add off)))
  | _ => none
def vIndexAddr (len es : Nat) : Value → Value → Option Value
  | .pointer (some a), .int _ i => if 0 ≤ i ∧ i < len then some (.pointer (some (a.add (i.toNat * es)))) else none
  | _, _ => none
def vIndexSl (es : Nat) : Value → Value → Option Value
  | .slice (some a) len _, .int _ i => if 0 ≤ i ∧ i < len then some (.pointer (some (a.add (i.toNat * es)))) else none
  | _, _ => none
def vSliceArr (n es : Nat) (lo hi mx : Option Value) : Value → Option Value
  | .pointer (some a) => (bounds3 n n lo hi mx).bind fun r => some (.slice (some (a.add (r.1 * es))) (r.2.1 - r.1) (r.2.2 - r.1))
  | _ => none
def vSliceSl (H : List Ob) (es : Nat) (lo hi mx : Option Value) : Value → Option Value
  | .slice (some a) len cap => (bounds3 len cap lo hi mx).bind fun r => (liveAt H a.block).bind fun o =>
        if o.exact ∨ ¬ o.own ∨ es ≤ o.es then some (.slice (some (a.add (r.1 * es))) (r.2.1 - r.1) (r.2.2 - r.1)) else none
  | .slice none 0 0 => (bounds3 0 0 lo hi mx).bind fun _ => some (.slice none 0 0)
  | _ => none
def vSliceStr (lo hi : Option Value) : Value → Option Value
  | .string s => (bounds3 s.size s.size lo hi none).bind fun r => some (.string (s.extract r.1 r.2.1))
  | _ => none
def vExtract (i : Nat) : Value → Option Value
  | .tuple vs => vs.toList[i]?
  | _ => none
def vNilCheck : Value → Option Value
  | .pointer (some a) => some (.pointer (some a))
  | _ => none
def vS2ap (n : Nat) : Value → Option Value
  | .slice (some a) len _ => if n ≤ len ∧ 0 < n then some (.pointer (some a)) else none
  | _ => none
def vLen (str : Bool) : Value → Option Value
  | .slice _ n _ => if str then none else some (.int .i64 n)
  | .string s => if str then some (.int .i64 s.size) else none
  | _ => none
def vMinmax (mx : Bool) : Value → Value → Option Value
  | .int k a, .int k' b => if k = k' then some (.int k (if mx then (if b > a then b else a) else (if b < a then b else a))) else none
  | _, _ => none
def vLoad (H : List Ob) (n : Option Nat) : Value → Option Value
  | .pointer (some a) => (liveAt H a.block).bind fun o => if a.spot.isNone then partL n o.cells a.off else none
  | _ => none
def vB2s (H : List Ob) (x : Value) : Option Value := match x with
  | .slice _ n _ => (elemsOf H 1 n x).bind fun cs => (bytesOfCells cs).bind fun l => some (.string ⟨l.toArray⟩)
  | _ => none
theorem fs_move {x : Operand} {d : Nat} {r : List AOper} {e : Env} {H : List Ob} {l : List Nat} : steps T b q (⟨some d, .move x, none⟩ :: r) ⟨e, H, l⟩ = (opd e x).bind fun v => steps T b q r ⟨(d, v) :: e, H, l⟩ := fs_pure evOper_move
theorem fs_pick {c x y : Operand} {d : Nat} {r : List AOper} {e : Env} {H : List Ob} {l : List Nat} : steps T b q (⟨some d, .pick c x y, none⟩ :: r) ⟨e, H, l⟩ = (opd e c).bind fun c => (opd e x).bind fun x => (opd e y).bind fun y => (vPick c x y).bind fun v => steps T b q r ⟨(d, v) :: e, H, l⟩ := by
  rw [fs_pure evOper_pick]
  cases opd e c with
  | none => rfl
  | some c =>
    cases opd e x with
    | none => rfl
    | some x =>
      cases opd e y with
      | none => rfl
      | some y => cases c <;> cases q <;> rfl
theorem fs_alloc {zero : List Value} {d : Nat} {r : List AOper} {e : Env} {H : List Ob} {l : List Nat} : steps T b q (⟨some d, .alloc zero, none⟩ :: r) ⟨e, H, l⟩ = steps T b q r ⟨(d, .pointer (some ⟨H.length, 0, none⟩)) :: e, H ++ [⟨zero, true, true, true, 1⟩], l⟩ := by
  simp only [steps, guardOf, evOper_alloc, simpleOp, Option.bind_some, Env.put, inMerge, Ob.fresh]
  cases q <;> rfl
theorem fs_box {x : Operand} {d : Nat} {r : List AOper} {e : Env} {H : List Ob} {l : List Nat} : steps T b q (⟨some d, .box x, none⟩ :: r) ⟨e, H, l⟩ = (opd e x).bind fun v => gate (okVar v = true) (steps T b q r ⟨(d, .pointer (some ⟨H.length, 0, none⟩)) :: e, H ++ [⟨v.cells.toList, true, true, true, 1⟩], l⟩) := by
  simp only [steps, guardOf, evOper_box, simpleOp, Env.put, inMerge, Ob.fresh]
  cases opd e x with
  | none => rfl
  | some v => simp only [Option.bind_some, gate]; split <;> cases q <;> rfl
theorem fs_load {n : Option Nat} {x : Operand} {d : Nat} {r : List AOper} {e : Env} {H : List Ob} {l : List Nat} : steps T b q (⟨some d, .load n x, none⟩ :: r) ⟨e, H, l⟩ = (opd e x).bind fun a => (vLoad H n a).bind fun v => steps T b q r ⟨(d, v) :: e, H, l⟩ := by
  simp only [steps, guardOf, evOper_load, simpleOp, Env.put]
  cases opd e x with
  | none => rfl
  | some v =>
    cases v <;> try rfl
    rename_i p
    cases p with
    | none => rfl
    | some a =>
      simp only [Option.bind_some, vLoad]
      cases liveAt H a.block with
      | none => rfl
      | some o =>
        simp only [Option.bind_some]
        split
        · cases partL n o.cells a.off <;> cases q <;> rfl
        · rfl
def vStore (H : List Ob) (n : Nat) : Value → Value → Option (List Ob)
  | .pointer (some a), v => if v.cells.size = n ∧ okVar v = true then storeAt H a v.cells.toList else none
  | _, _ => none
def baseP : Value → List Nat
  | .pointer (some a) => [a.block]
  | _ => []
theorem fs_store {n : Nat} {a x : Operand} {r : List AOper} {e : Env} {H : List Ob} {l : List Nat} : steps T b q (⟨none, .store n a x, none⟩ :: r) ⟨e, H, l⟩ = (opd e a).bind fun a => (opd e x).bind fun v => (vStore H n a v).bind fun H' => gate (q = false) (steps T b q r ⟨e, H', inMerge b l (baseP a)⟩) := by
  simp only [steps, guardOf, evOper_store, simpleOp, Env.put]
  cases opd e a with
  | none => rfl
  | some av =>
    cases opd e x with
    | none => rfl
    | some v =>
      cases av <;> try rfl
      rename_i p
      cases p with
      | none => rfl
      | some a =>
        simp only [Option.bind_some, vStore, baseP]
        split
        · cases storeAt H a v.cells.toList <;> cases q <;> rfl
        · rfl
theorem fs_bin {op : BinOp} {x y : Operand} {d : Nat} {r : List AOper} {e : Env} {H : List Ob} {l : List Nat} : steps T b q (⟨some d, .bin op x y, none⟩ :: r) ⟨e, H, l⟩ = (opd e x).bind fun x => (opd e y).bind fun y => (binV op x y).bind fun v => steps T b q r ⟨(d, v) :: e, H, l⟩ := by
  rw [fs_pure evOper_bin]
  cases opd e x <;> cases opd e y <;> cases q <;> rfl
theorem fs_eqv {ks : Option (List Bool)} {neg : Bool} {x y : Operand} {d : Nat} {r : List AOper} {e : Env} {H : List Ob} {l : List Nat} : steps T b q (⟨some d, .eqv ks neg x y, none⟩ :: r) ⟨e, H, l⟩ = (opd e x).bind fun x => (opd e y).bind fun y => (vEq ks neg x y).bind fun v => steps T b q r ⟨(d, v) :: e, H, l⟩ := by
  rw [fs_pure evOper_eqv]
  cases opd e x <;> cases opd e y <;> cases q <;> rfl
theorem fs_isNil {k : Nat} {neg : Bool} {x : Operand} {d : Nat} {r : List AOper} {e : Env} {H : List Ob} {l : List Nat} : steps T b q (⟨some d, .isNil k neg x, none⟩ :: r) ⟨e, H, l⟩ = (opd e x).bind fun x => (isNilV k x).bind fun c => steps T b q r ⟨(d, .bool (if neg then !c else c)) :: e, H, l⟩ := by
  rw [fs_pure evOper_isNil]
  cases opd e x with
  | none => rfl
  | some v => simp only [Option.bind_some]; cases isNilV k v <;> cases q <;> rfl
theorem fs_un {op : UnOp} {x : Operand} {d : Nat} {r : List AOper} {e : Env} {H : List Ob} {l : List Nat} : steps T b q (⟨some d, .un op x, none⟩ :: r) ⟨e, H, l⟩ = (opd e x).bind fun x => (unV op x).bind fun v => steps T b q r ⟨(d, v) :: e, H, l⟩ := by
  rw [fs_pure evOper_un]
  cases opd e x <;> cases q <;> rfl
theorem fs_conv {k : IntKind} {x : Operand} {d : Nat} {r : List AOper} {e : Env} {H : List Ob} {l : List Nat} : steps T b q (⟨some d, .conv k x, none⟩ :: r) ⟨e, H, l⟩ = (opd e x).bind fun x => (vConv k x).bind fun v => steps T b q r ⟨(d, v) :: e, H, l⟩ := by
  rw [fs_pure evOper_conv]
  cases opd e x <;> cases q <;> rfl
def vConvSl (H : List Ob) : Value → Option Value
  | .slice (some a) n c => (liveAt H a.block).bind fun o => if o.own = true ∧ a.spot.isNone = true then some (.slice (some a) n c) else none
  | _ => none
theorem fs_convSl {x : Operand} {d : Nat} {r : List AOper} {e : Env} {H : List Ob} {l : List Nat} : steps T b q (⟨some d, .convSl x, none⟩ :: r) ⟨e, H, l⟩ = (opd e x).bind fun x => (vConvSl H x).bind fun v => steps T b q r ⟨(d, v) :: e, H, l⟩ := by
  simp only [steps, guardOf, evOper_convSl, simpleOp, Env.put]
  cases opd e x with
  | none => rfl
  | some v =>
    simp only [Option.bind_some]
    cases v with
    | slice a n c =>
      cases a with
      | none => rfl
      | some a =>
        simp only [vConvSl]
        cases liveAt H a.block with
        | none => rfl
        | some o =>
          simp only [Option.bind_some]
          split <;> cases q <;> rfl
    | _ => rfl
theorem fs_convStr {x : Operand} {d : Nat} {r : List AOper} {e : Env} {H : List Ob} {l : List Nat} : steps T b q (⟨some d, .convStr x, none⟩ :: r) ⟨e, H, l⟩ = (opd e x).bind fun x => (vStr x).bind fun v => steps T b q r ⟨(d, v) :: e, H, l⟩ := by
  rw [fs_pure evOper_convStr]
  cases opd e x <;> cases q <;> rfl
theorem fs_field {n : Option Nat} {off : Nat} {x : Operand} {d : Nat} {r : List AOper} {e : Env} {H : List Ob} {l : List Nat} : steps T b q (⟨some d, .field n off x, none⟩ :: r) ⟨e, H, l⟩ = (opd e x).bind fun x => (vField n off x).bind fun v => steps T b q r ⟨(d, v) :: e, H, l⟩ := by
  rw [fs_pure evOper_field]
  cases opd e x <;> cases q <;> rfl
theorem fs_index {n : Option Nat} {len es : Nat} {x i : Operand} {d : Nat} {r : List AOper} {e : Env} {H : List Ob} {l : List Nat} : steps T b q (⟨some d, .index n len es x i, none⟩ :: r) ⟨e, H, l⟩ = (opd e x).bind fun x => (opd e i).bind fun i => (vIndex n len es x i).bind fun v => steps T b q r ⟨(d, v) :: e, H, l⟩ := by
  rw [fs_pure evOper_index]
  cases opd e x <;> cases opd e i <;> cases q <;> rfl
theorem fs_indexStr {x i : Operand} {d : Nat} {r : List AOper} {e : Env} {H : List Ob} {l : List Nat} : steps T b q (⟨some d, .indexStr x i, none⟩ :: r) ⟨e, H, l⟩ = (opd e x).bind fun x => (opd e i).bind fun i => (vIndexStr x i).bind fun v => steps T b q r ⟨(d, v) :: e, H, l⟩ := by
  rw [fs_pure evOper_indexStr]
  cases opd e x <;> cases opd e i <;> cases q <;> rfl
theorem fs_build {zero : List Value} {ps : List (Nat × Nat × Operand)} {d : Nat} {r : List AOper} {e : Env} {H : List Ob} {l : List Nat} : steps T b q (⟨some d, .build zero ps, none⟩ :: r) ⟨e, H, l⟩ = (opdParts e ps).bind fun ps => (fillL zero ps).bind fun cs => steps T b q r ⟨(d, .agg cs.toArray) :: e, H, l⟩ := by
  rw [fs_pure evOper_build]
  cases opdParts e ps with
  | none => rfl
  | some v => simp only [Option.bind_some]; cases fillL zero v <;> cases q <;> rfl
theorem fs_buildSlice {cells : List Value} {len : Nat} {ps : List (Nat × Nat × Operand)} {d : Nat} {r : List AOper} {e : Env} {H : List Ob} {l : List Nat} : steps T b q (⟨some d, .buildSlice cells len ps, none⟩ :: r) ⟨e, H, l⟩ = (opdParts e ps).bind fun ps => (fillL cells ps).bind fun cs => steps T b q r ⟨(d, .slice (some ⟨H.length, 0, none⟩) len len) :: e, H ++ [⟨cs, true, true, true, 1⟩], l⟩ := by
  simp only [steps, guardOf, evOper_buildSlice, simpleOp, Env.put, Ob.fresh]
  cases opdParts e ps with
  | none => rfl
  | some v => simp only [Option.bind_some]; cases fillL cells v <;> cases q <;> rfl
theorem fs_fieldAddr {off : Nat} {x : Operand} {d : Nat} {r : List AOper} {e : Env} {H : List Ob} {l : List Nat} : steps T b q (⟨some d, .fieldAddr off x, none⟩ :: r) ⟨e, H, l⟩ = (opd e x).bind fun x => (vFieldAddr off x).bind fun v => steps T b q r ⟨(d, v) :: e, H, l⟩ := by
  rw [fs_pure evOper_fieldAddr]
  cases opd e x <;> cases q <;> rfl
theorem fs_indexAddr {len es : Nat} {x i : Operand} {d : Nat} {r : List AOper} {e : Env} {H : List Ob} {l : List Nat} : steps T b q (⟨some d, .indexAddr len es x i, none⟩ :: r) ⟨e, H, l⟩ = (opd e x).bind fun x => (opd e i).bind fun i => (vIndexAddr len es x i).bind fun v => steps T b q r ⟨(d, v) :: e, H, l⟩ := by
  rw [fs_pure evOper_indexAddr]
  cases opd e x <;> cases opd e i <;> cases q <;> rfl
theorem fs_indexSl {es : Nat} {x i : Operand} {d : Nat} {r : List AOper} {e : Env} {H : List Ob} {l : List Nat} : steps T b q (⟨some d, .indexSl es x i, none⟩ :: r) ⟨e, H, l⟩ = (opd e x).bind fun x => (opd e i).bind fun i => (vIndexSl es x i).bind fun v => steps T b q r ⟨(d, v) :: e, H, l⟩ := by
  rw [fs_pure evOper_indexSl]
  cases opd e x <;> cases opd e i <;> cases q <;> rfl
theorem fs_sliceArr {n es : Nat} {x : Operand} {lo hi mx : Option Operand} {d : Nat} {r : List AOper} {e : Env} {H : List Ob} {l : List Nat} : steps T b q (⟨some d, .sliceArr n es x lo hi mx, none⟩ :: r) ⟨e, H, l⟩ = (opd e x).bind fun x => (opdOpt e lo).bind fun lo => (opdOpt e hi).bind fun hi => (opdOpt e mx).bind fun mx => (vSliceArr n es lo hi mx x).bind fun v => steps T b q r ⟨(d, v) :: e, H, l⟩ := by
  rw [fs_pure evOper_sliceArr]
  cases opd e x <;> cases opdOpt e lo <;> cases opdOpt e hi <;> cases opdOpt e mx <;> cases q <;> rfl
theorem fs_sliceSl {es : Nat} {x : Operand} {lo hi mx : Option Operand} {d : Nat} {r : List AOper} {e : Env} {H : List Ob} {l : List Nat} : steps T b q (⟨some d, .sliceSl es x lo hi mx, none⟩ :: r) ⟨e, H, l⟩ = (opd e x).bind fun x => (opdOpt e lo).bind fun lo => (opdOpt e hi).bind fun hi => (opdOpt e mx).bind fun mx => (vSliceSl H es lo hi mx x).bind fun v => steps T b q r ⟨(d, v) :: e, H, l⟩ := by
  simp only [steps, guardOf, evOper_sliceSl, simpleOp, Env.put]
  cases opd e x with
  | none => rfl
  | some v =>
    cases opdOpt e lo with
    | none => rfl
    | some lo =>
      cases opdOpt e hi with
      | none => rfl
      | some hi =>
        cases opdOpt e mx with
        | none => rfl
        | some mx =>
          simp only [Option.bind_some]
          cases v <;> try rfl
          rename_i base len cap
          cases base with
          | some a =>
            simp only [vSliceSl]
            cases bounds3 len cap lo hi mx with
            | none => rfl
            | some r =>
              simp only [Option.bind_some]
              cases liveAt H a.block with
              | none => rfl
              | some o => simp only [Option.bind_some]; split <;> cases q <;> rfl
          | none =>
            cases len <;> cases cap <;> try rfl
            simp only [vSliceSl]
            cases bounds3 0 0 lo hi mx <;> cases q <;> rfl
theorem fs_sliceStr {x : Operand} {lo hi : Option Operand} {d : Nat} {r : List AOper} {e : Env} {H : List Ob} {l : List Nat} : steps T b q (⟨some d, .sliceStr x lo hi, none⟩ :: r) ⟨e, H, l⟩ = (opd e x).bind fun x => (opdOpt e lo).bind fun lo => (opdOpt e hi).bind fun hi => (vSliceStr lo hi x).bind fun v => steps T b q r ⟨(d, v) :: e, H, l⟩ := by
  rw [fs_pure evOper_sliceStr]
  cases opd e x <;> cases opdOpt e lo <;> cases opdOpt e hi <;> cases q <;> rfl
def vMake (zero : List Value) (bytes : Nat) (id : Nat) : Value → Value → Option (Value × Ob)
  | .int _ l, .int _ c => if 0 ≤ l ∧ l ≤ c ∧ c * bytes ≤ 2 ^ 47 ∧ 0 < bytes ∧ 0 < zero.length then some (.slice (some ⟨id, 0, none⟩) l.toNat c.toNat, ⟨(List.replicate c.toNat zero).flatten, true, true, true, 1⟩) else none
  | _, _ => none
theorem fs_makeSlice {zero : List Value} {bytes : Nat} {x y : Operand} {d : Nat} {r : List AOper} {e : Env} {H : List Ob} {l : List Nat} : steps T b q (⟨some d, .makeSlice zero bytes x y, none⟩ :: r) ⟨e, H, l⟩ = (opd e x).bind fun x => (opd e y).bind fun y => (vMake zero bytes H.length x y).bind fun v => steps T b q r ⟨(d, v.1) :: e, H ++ [v.2], l⟩ := by
  simp only [steps, guardOf, evOper_makeSlice, simpleOp, Env.put]
  cases opd e x with
  | none => rfl
  | some v =>
    cases opd e y with
    | none => rfl
    | some w =>
      simp only [Option.bind_some]
      unfold vMake
      cases v <;> try rfl
      cases w <;> try rfl
      dsimp only
      split <;> cases q <;> rfl
theorem fs_extract {x : Operand} {i d : Nat} {r : List AOper} {e : Env} {H : List Ob} {l : List Nat} : steps T b q (⟨some d, .extract x i, none⟩ :: r) ⟨e, H, l⟩ = (opd e x).bind fun x => (vExtract i x).bind fun v => steps T b q r ⟨(d, v) :: e, H, l⟩ := by
  rw [fs_pure evOper_extract]
  cases opd e x <;> cases q <;> rfl
theorem fs_mkIface {t : TypeId} {x : Operand} {d : Nat} {r : List AOper} {e : Env} {H : List Ob} {l : List Nat} : steps T b q (⟨some d, .mkIface t x, none⟩ :: r) ⟨e, H, l⟩ = (opd e x).bind fun x => steps T b q r ⟨(d, .iface t x) :: e, H, l⟩ := by
  rw [fs_pure evOper_mkIface]
  cases opd e x <;> cases q <;> rfl
theorem fs_mkFunc {fn : Fn} {fs cs : List Operand} {d : Nat} {r : List AOper} {e : Env} {H : List Ob} {l : List Nat} : steps T b q (⟨some d, .mkFunc fn fs cs, none⟩ :: r) ⟨e, H, l⟩ = (opds e fs).bind fun fs => (opds e cs).bind fun cs => steps T b q r ⟨(d, .func fn fs.toArray cs.toArray) :: e, H, l⟩ := by
  rw [fs_pure evOper_mkFunc]
  cases opds e fs <;> cases opds e cs <;> cases q <;> rfl
theorem fs_nilCheck {x : Operand} {d : Nat} {r : List AOper} {e : Env} {H : List Ob} {l : List Nat} : steps T b q (⟨some d, .nilCheck x, none⟩ :: r) ⟨e, H, l⟩ = (opd e x).bind fun x => (vNilCheck x).bind fun v => steps T b q r ⟨(d, v) :: e, H, l⟩ := by
  rw [fs_pure evOper_nilCheck]
  cases opd e x <;> cases q <;> rfl
theorem fs_s2ap {n : Nat} {x : Operand} {d : Nat} {r : List AOper} {e : Env} {H : List Ob} {l : List Nat} : steps T b q (⟨some d, .s2ap n x, none⟩ :: r) ⟨e, H, l⟩ = (opd e x).bind fun x => (vS2ap n x).bind fun v => steps T b q r ⟨(d, v) :: e, H, l⟩ := by
  rw [fs_pure evOper_s2ap]
  cases opd e x <;> cases q <;> rfl
theorem fs_len {str : Bool} {x : Operand} {d : Nat} {r : List AOper} {e : Env} {H : List Ob} {l : List Nat} : steps T b q (⟨some d, .len str x, none⟩ :: r) ⟨e, H, l⟩ = (opd e x).bind fun x => (vLen str x).bind fun v => steps T b q r ⟨(d, v) :: e, H, l⟩ := by
  rw [fs_pure evOper_len]
  cases opd e x <;> cases q <;> rfl
theorem fs_minmax {mx : Bool} {x y : Operand} {d : Nat} {r : List AOper} {e : Env} {H : List Ob} {l : List Nat} : steps T b q (⟨some d, .minmax mx x y, none⟩ :: r) ⟨e, H, l⟩ = (opd e x).bind fun x => (opd e y).bind fun y => (vMinmax mx x y).bind fun v => steps T b q r ⟨(d, v) :: e, H, l⟩ := by
  rw [fs_pure evOper_minmax]
  cases opd e x <;> cases opd e y <;> cases q <;> rfl
def vS2b (id : Nat) : Value → Option (Value × Ob)
  | .string s => if s.size ≤ 2 ^ 47 then some (.slice (some ⟨id, 0, none⟩) s.size s.size, ⟨s.data.toList.map fun b => .int .u8 b.toNat, true, true, false, 1⟩) else none
  | _ => none
theorem fs_s2b {x : Operand} {d : Nat} {r : List AOper} {e : Env} {H : List Ob} {l : List Nat} : steps T b q (⟨some d, .s2b x, none⟩ :: r) ⟨e, H, l⟩ = (opd e x).bind fun x => (vS2b H.length x).bind fun v => steps T b q r ⟨(d, v.1) :: e, H ++ [v.2], l⟩ := by
  simp only [steps, guardOf, evOper_s2b, simpleOp, Env.put, Ob.grown]
  cases opd e x with
  | none => rfl
  | some v =>
    cases v <;> try rfl
    simp only [Option.bind_some, vS2b]
    split <;> cases q <;> rfl
theorem fs_b2s {x : Operand} {d : Nat} {r : List AOper} {e : Env} {H : List Ob} {l : List Nat} : steps T b q (⟨some d, .b2s x, none⟩ :: r) ⟨e, H, l⟩ = (opd e x).bind fun x => (vB2s H x).bind fun v => steps T b q r ⟨(d, v) :: e, H, l⟩ := by
  simp only [steps, guardOf, evOper_b2s, simpleOp, Env.put]
  cases opd e x with
  | none => rfl
  | some v =>
    cases v <;> try rfl
    rename_i base n cap
    simp only [Option.bind_some, vB2s]
    cases elemsOf H 1 n (.slice base n cap) with
    | none => rfl
    | some cs =>
      simp only [Option.bind_some]
      cases bytesOfCells cs <;> cases q <;> rfl
theorem fs_append {es bytes : Nat} {x y : Operand} {d : Nat} {r : List AOper} {e : Env} {H : List Ob} {l : List Nat} : steps T b q (⟨some d, .append es bytes x y, none⟩ :: r) ⟨e, H, l⟩ = (opd e x).bind fun x => (opd e y).bind fun y => (appendV es bytes H x y).bind fun v => gate ((q && !v.2.2.2.isEmpty) = false) (steps T b q r ⟨(d, v.1) :: e, v.2.1, inMerge b l v.2.2.2⟩) := by
  simp only [steps, guardOf, gate_neg, evOper_append, simpleOp, Env.put]
  cases opd e x <;> cases opd e y <;> cases q <;> rfl
def vCopy (H : List Ob) (es : Nat) (d s : Value) : Option (Value × List Ob × List Nat) := match d with
  | .slice base dl _ => (lenV s).bind fun sl => (elemsOf H es (min sl dl) s).bind fun cs => match base with
      | some a => (storeAt H a cs).bind fun H' => some (.int .i64 (min sl dl : Nat), H', [a.block])
      | none => if dl = 0 then some (.int .i64 0, H, []) else none
  | _ => none
theorem fs_copy {es : Nat} {x y : Operand} {d : Option Nat} {r : List AOper} {e : Env} {H : List Ob} {l : List Nat} : steps T b q (⟨d, .copy es x y, none⟩ :: r) ⟨e, H, l⟩ = (opd e x).bind fun x => (opd e y).bind fun y => (vCopy H es x y).bind fun v => gate ((q && !v.2.2.isEmpty) = false) (steps T b q r ⟨e.put d v.1, v.2.1, inMerge b l v.2.2⟩) := by
  simp only [steps, guardOf, gate_neg, evOper_copy, simpleOp]
  cases opd e x with
  | none => rfl
  | some v =>
    cases opd e y with
    | none => rfl
    | some s =>
      simp only [Option.bind_some]
      cases v <;> try rfl
      rename_i base dl cap
      unfold vCopy
      dsimp only
      cases lenV s with
      | none => rfl
      | some sl =>
        simp only [Option.bind_some]
        cases elemsOf H es (min sl dl) s with
        | none => rfl
        | some cs =>
          simp only [Option.bind_some]
          cases base with
          | none => dsimp only; split <;> cases q <;> rfl
          | some a => dsimp only; cases storeAt H a cs <;> cases q <;> rfl
theorem fs_callV {f : Nat} {xs : List Operand} {d : Option Nat} {r : List AOper} {e : Env} {H : List Ob} {l : List Nat} : steps T b q (⟨d, .call f xs true, none⟩ :: r) ⟨e, H, l⟩ = (opds e xs).bind fun args => gate (args.all rf = true) ((evFun T f args []).bind fun v => gate (rf v.1 = true) (steps T b q r ⟨e.put d v.1, H, l⟩)) := by
  simp only [steps, guardOf, evOper_callVal]
  cases opds e xs with
  | none => rfl
  | some args =>
    simp only [Option.bind_some]
    cases args.all rf with
    | false => rfl
    | true =>
      simp only [if_true, gate_true]
      cases evFun T f args [] with
      | none => rfl
      | some v =>
        simp only [Option.bind_some]
        cases rf v.1 <;> cases q <;> rfl
theorem fs_callR {f : Nat} {xs : List Operand} {d : Option Nat} {r : List AOper} {e : Env} {H : List Ob} {l : List Nat} : steps T b q (⟨d, .call f xs false, none⟩ :: r) ⟨e, H, l⟩ = (opds e xs).bind fun args => (evFun T f args H).bind fun v => gate ((q && !v.2.2.isEmpty) = false) (steps T b q r ⟨e.put d v.1, v.2.1, inMerge b l v.2.2⟩) := by
  simp only [steps, guardOf, gate_neg, evOper_call]
  cases opds e xs with
  | none => rfl
  | some args =>
    simp only [Bool.false_eq_true, if_false, Option.bind_some]
    cases evFun T f args H <;> cases q <;> rfl
def callee : Value → List Value → Option (Nat × List Value)
  | .func (.func f) first captured, args => some (f, first.toList ++ args ++ captured.toList)
  | _, _ => none
theorem evOper_cv {f : Operand} {xs : List Operand} {e : Env} {H : List Ob} : evOper T (.callv f xs) e H = (opd e f).bind fun f => (opds e xs).bind fun args => (callee f args).bind fun c => (evFun T c.1 c.2 H).bind fun r => some (r.1, r.2.1, none, r.2.2) := by
  rw [evOper.eq_def]
  dsimp only
  cases opd e f with
  | none => rfl
  | some fv =>
    cases opds e xs with
    | none => cases fv <;> try rfl
              rename_i fn _ _
              cases fn <;> rfl
    | some args =>
      cases fv <;> try rfl
      rename_i fn _ _
      cases fn <;> rfl
theorem fs_callv {f : Operand} {xs : List Operand} {d : Option Nat} {r : List AOper} {e : Env} {H : List Ob} {l : List Nat} : steps T b q (⟨d, .callv f xs, none⟩ :: r) ⟨e, H, l⟩ = (opd e f).bind fun f => (opds e xs).bind fun args => (callee f args).bind fun c => (evFun T c.1 c.2 H).bind fun v => gate ((q && !v.2.2.isEmpty) = false) (steps T b q r ⟨e.put d v.1, v.2.1, inMerge b l v.2.2⟩) := by
  simp only [steps, guardOf, gate_neg, evOper_cv]
  cases opd e f with
  | none => rfl
  | some fv =>
    cases opds e xs with
    | none => rfl
    | some args =>
      simp only [Option.bind_some]
      cases callee fv args with
      | none => rfl
      | some c => simp only [Option.bind_some]; cases evFun T c.1 c.2 H <;> cases q <;> rfl
end
theorem hget0 {H l : List Ob} : (H ++ l)[H.length]? = l[0]? := by rw [List.getElem?_append_right (Nat.le_refl _), Nat.sub_self]
theorem hgetK {H l : List Ob} {k : Nat} : (H ++ l)[H.length + k]? = l[k]? := by rw [List.getElem?_append_right (by omega)]; congr 1; omega
theorem hset0 {H l : List Ob} {o : Ob} : (H ++ l).set H.length o = H ++ l.set 0 o := by rw [List.set_append_right _ _ (Nat.le_refl _), Nat.sub_self]
theorem hsetK {H l : List Ob} {o : Ob} {k : Nat} : (H ++ l).set (H.length + k) o = H ++ l.set k o := by rw [List.set_append_right _ _ (by omega)]; congr 2; omega
theorem splice_whole {cs v : List Value} (h : v.length = cs.length) : splice cs 0 v = v := by
  rw [splice_gen _ _ _ (by omega), List.take_zero, List.nil_append, Nat.zero_add, h, List.drop_length, List.append_nil]
theorem take_whole {cs : List Value} {n : Nat} (h : cs.length = n) : (cs.drop 0).take n = cs := by rw [List.drop_zero, List.take_of_length_le (by omega)]
theorem cellsEq_u8 : ∀ {n : Nat} {p q : List Nat}, p.length = n → q.length = n → cellsEq (List.replicate n true) (u8s p) (u8s q) = some (p == q)
  | 0, [], [], _, _ => rfl
  | n + 1, x :: p, y :: q, hp, hq => by
    have := cellsEq_u8 (n := n) (p := p) (q := q) (by simpa using hp) (by simpa using hq)
    simp only [u8s, List.map_cons, List.replicate_succ, cellsEq, cellEq, if_true, Option.bind_some] at this ⊢
    rw [this]
    simp only [Option.bind_some, List.cons_beq_cons]
    congr 2
    by_cases h : x = y
    · subst h; simp
    · have : ¬ ((x : Int) = y) := by omega
      rw [beq_eq_false_iff_ne.2 h, beq_eq_false_iff_ne.2 this]
theorem rf_u8s (l : List Nat) : rf (.agg (u8s l).toArray) = true := by
  show (u8s l).toArray.toList.all scalarRf = true
  rw [show (u8s l).toArray.toList = u8s l from rfl]
  simp [u8s, scalarRf]
theorem rf_bool (b : Bool) : rf (.bool b) = true := rfl
theorem arr_list (l : List Value) : l.toArray.toList = l := rfl
theorem Grown.len {k : IntKind} {B : Nat} {H : List Ob} {s : Value} {bs : List Nat} (h : Grown k B H s bs) : vLen false s = some (.int .i64 bs.length) := by cases h <;> rfl
theorem Sl.len {k : IntKind} {H : List Ob} {s : Value} {bs : List Nat} (h : Sl k H s bs) : vLen false s = some (.int .i64 bs.length) := by cases h <;> rfl
section
variable {e : Env} {H : List Ob}
theorem opd_tmp {t : Nat} : opd e (.tmp t) = e.get t := Eq.trans rfl rfl
theorem opd_const {v : Value} : opd e (.const v) = some v := Eq.trans rfl rfl
theorem opd_func {f : FuncId} : opd e (.func f) = some (.func (.func f) #[] #[]) := Eq.trans rfl rfl
theorem opds_nil : opds e [] = some [] := Eq.trans rfl rfl
theorem opds_cons {x : Operand} {r : List Operand} : opds e (x :: r) = (opd e x).bind fun v => (opds e r).bind fun vs => some (v :: vs) := Eq.trans rfl rfl
theorem opdOpt_none : opdOpt e none = some none := Eq.trans rfl rfl
theorem opdOpt_some {x : Operand} : opdOpt e (some x) = (opd e x).bind fun v => some (some v) := Eq.trans rfl rfl
theorem opdParts_nil : opdParts e [] = some [] := Eq.trans rfl rfl
theorem opdParts_cons {o n : Nat} {x : Operand} {r : List (Nat × Nat × Operand)} : opdParts e ((o, n, x) :: r) = (opd e x).bind fun v => (opdParts e r).bind fun vs => some ((o, n, v) :: vs) := Eq.trans rfl rfl
theorem get_hit {t : Nat} {v : Value} {r : Env} : Env.get ((t, v) :: r) t = some v := by simp [Env.get]
theorem get_miss {t u : Nat} {v : Value} {r : Env} (h : (t = u) = False) : Env.get ((u, v) :: r) t = Env.get r t := by simp [Env.get, h]
theorem vPick_t {a b : Value} : vPick (.bool true) a b = some a := Eq.trans rfl rfl
theorem vPick_f {a b : Value} : vPick (.bool false) a b = some b := Eq.trans rfl rfl
theorem vEq_agg {ks : List Bool} {a b : Array Value} : vEq (some ks) false (.agg a) (.agg b) = (cellsEq ks a.toList b.toList).bind fun c => some (.bool c) := Eq.trans rfl rfl
theorem vEq_aggN {ks : List Bool} {a b : Array Value} : vEq (some ks) true (.agg a) (.agg b) = (cellsEq ks a.toList b.toList).bind fun c => some (.bool !c) := Eq.trans rfl rfl
theorem vEq_bool {a b : Bool} : vEq none false (.bool a) (.bool b) = some (.bool (a == b)) := Eq.trans rfl rfl
theorem vEq_boolN {a b : Bool} : vEq none true (.bool a) (.bool b) = some (.bool !(a == b)) := Eq.trans rfl rfl
theorem vConv_int {k j : IntKind} {n : Int} : vConv k (.int j n) = some (.int k (k.wrap n)) := Eq.trans rfl rfl
theorem vStr_s {s : ByteArray} : vStr (.string s) = some (.string s) := Eq.trans rfl rfl
theorem vField_agg {n : Option Nat} {off : Nat} {cs : Array Value} : vField n off (.agg cs) = partL n cs.toList off := Eq.trans rfl rfl
theorem vIndex_agg {n : Option Nat} {len es : Nat} {cs : Array Value} {k : IntKind} {i : Int} : vIndex n len es (.agg cs) (.int k i) = gate (0 ≤ i ∧ i < len) (partL n cs.toList (i.toNat * es)) := Eq.trans rfl rfl
theorem vIndexStr_s {s : ByteArray} {k : IntKind} {i : Int} : vIndexStr (.string s) (.int k i) = gate (0 ≤ i) ((s.data.toList[i.toNat]?).bind fun b => some (.int .u8 b.toNat)) := Eq.trans rfl rfl
theorem vFieldAddr_p {off b o : Nat} : vFieldAddr off (.pointer (some ⟨b, o, none⟩)) = some (.pointer (some ⟨b, o + off, none⟩)) := by rw [← addr_add]; rfl
theorem vIndexAddr_p {len es b o : Nat} {k : IntKind} {i : Int} : vIndexAddr len es (.pointer (some ⟨b, o, none⟩)) (.int k i) = gate (0 ≤ i ∧ i < len) (some (.pointer (some ⟨b, o + i.toNat * es, none⟩))) := by rw [← addr_add]; rfl
theorem vIndexSl_s {es b o len cap : Nat} {k : IntKind} {i : Int} : vIndexSl es (.slice (some ⟨b, o, none⟩) len cap) (.int k i) = gate (0 ≤ i ∧ i < len) (some (.pointer (some ⟨b, o + i.toNat * es, none⟩))) := by rw [← addr_add]; rfl
theorem vSliceArr_p {n es b o : Nat} {lo hi mx : Option Value} : vSliceArr n es lo hi mx (.pointer (some ⟨b, o, none⟩)) = (bounds3 n n lo hi mx).bind fun r => some (.slice (some ⟨b, o + r.1 * es, none⟩) (r.2.1 - r.1) (r.2.2 - r.1)) := by
  simp only [vSliceArr, addr_add]
theorem vConvSl_s {i o n c : Nat} : vConvSl H (.slice (some ⟨i, o, none⟩) n c) = (liveAt H i).bind fun ob => gate (ob.own = true) (some (.slice (some ⟨i, o, none⟩) n c)) := by
  simp only [vConvSl, gate, Option.isNone_none, and_true]
theorem vSliceSl_s {es b o len cap : Nat} {lo hi mx : Option Value} : vSliceSl H es lo hi mx (.slice (some ⟨b, o, none⟩) len cap) = (bounds3 len cap lo hi mx).bind fun r => (liveAt H b).bind fun ob => gate (ob.exact ∨ ¬ ob.own ∨ es ≤ ob.es) (some (.slice (some ⟨b, o + r.1 * es, none⟩) (r.2.1 - r.1) (r.2.2 - r.1))) := by
  simp only [vSliceSl, addr_add, gate]
theorem vSliceSl_n {es : Nat} {lo hi mx : Option Value} : vSliceSl H es lo hi mx (.slice none 0 0) = (bounds3 0 0 lo hi mx).bind fun _ => some (.slice none 0 0) := Eq.trans rfl rfl
theorem vSliceStr_s {s : ByteArray} {lo hi : Option Value} : vSliceStr lo hi (.string s) = (bounds3 s.size s.size lo hi none).bind fun r => some (.string (s.extract r.1 r.2.1)) := Eq.trans rfl rfl
theorem vExtract_t {i : Nat} {vs : Array Value} : vExtract i (.tuple vs) = vs.toList[i]? := Eq.trans rfl rfl
theorem vNilCheck_p {a : Addr} : vNilCheck (.pointer (some a)) = some (.pointer (some a)) := Eq.trans rfl rfl
theorem vS2ap_s {n : Nat} {a : Addr} {len cap : Nat} : vS2ap n (.slice (some a) len cap) = gate (n ≤ len ∧ 0 < n) (some (.pointer (some a))) := Eq.trans rfl rfl
theorem vLen_s {a : Option Addr} {n c : Nat} : vLen false (.slice a n c) = some (.int .i64 n) := Eq.trans rfl rfl
theorem vLen_str {s : ByteArray} : vLen true (.string s) = some (.int .i64 s.size) := Eq.trans rfl rfl
theorem vMin_i {k : IntKind} {a b : Int} : vMinmax false (.int k a) (.int k b) = some (.int k (if b < a then b else a)) := by simp [vMinmax]
theorem vMax_i {k : IntKind} {a b : Int} : vMinmax true (.int k a) (.int k b) = some (.int k (if b > a then b else a)) := by simp [vMinmax]
theorem vLoad_p {n : Option Nat} {b o : Nat} : vLoad H n (.pointer (some ⟨b, o, none⟩)) = (liveAt H b).bind fun ob => partL n ob.cells o := by simp [vLoad]
theorem vStore_p {n b o : Nat} {v : Value} : vStore H n (.pointer (some ⟨b, o, none⟩)) v = gate (v.cells.size = n ∧ okVar v = true) (storeAt H ⟨b, o, none⟩ v.cells.toList) := Eq.trans rfl rfl
theorem baseP_p {b o : Nat} : baseP (.pointer (some ⟨b, o, none⟩)) = [b] := rfl
theorem vB2s_s {a : Option Addr} {n c : Nat} : vB2s H (.slice a n c) = (elemsOf H 1 n (.slice a n c)).bind fun cs => (bytesOfCells cs).bind fun l => some (.string ⟨l.toArray⟩) := Eq.trans rfl rfl
theorem vMake_i {zero : List Value} {bytes id : Nat} {k j : IntKind} {l c : Int} : vMake zero bytes id (.int k l) (.int j c) = gate (0 ≤ l ∧ l ≤ c ∧ c * bytes ≤ 2 ^ 47 ∧ 0 < bytes ∧ 0 < zero.length) (some (.slice (some ⟨id, 0, none⟩) l.toNat c.toNat, ⟨(List.replicate c.toNat zero).flatten, true, true, true, 1⟩)) := Eq.trans rfl rfl
theorem vS2b_s {id : Nat} {s : ByteArray} : vS2b id (.string s) = gate (s.size ≤ 2 ^ 47) (some (.slice (some ⟨id, 0, none⟩) s.size s.size, ⟨s.data.toList.map fun b => .int .u8 b.toNat, true, true, false, 1⟩)) := Eq.trans rfl rfl
theorem callee_f {f : FuncId} {a b : Array Value} {args : List Value} : callee (.func (.func f) a b) args = some (f, a.toList ++ args ++ b.toList) := Eq.trans rfl rfl
theorem liveAt_eq {id : Nat} : liveAt H id = (H[id]?).bind fun o => gate (o.live = true) (some o) := Eq.trans rfl rfl
theorem storeAt_eq {b o : Nat} {v : List Value} : storeAt H ⟨b, o, none⟩ v = (liveAt H b).bind fun ob => gate (ob.own = true ∧ o + v.length ≤ ob.cells.length) (some (H.set b ⟨splice ob.cells o v, ob.live, ob.own, ob.exact, ob.es⟩)) := by simp [storeAt, gate]
theorem partL_none {cs : List Value} {off : Nat} : partL none cs off = cs[off]? := Eq.trans rfl rfl
theorem partL_some {n : Nat} {cs : List Value} {off : Nat} : partL (some n) cs off = gate (off + n ≤ cs.length) (some (.agg ((cs.drop off).take n).toArray)) := Eq.trans rfl rfl
theorem natIn_none {y d : Nat} : natIn none y d = some d := Eq.trans rfl rfl
theorem natIn_int {k : IntKind} {i : Int} {y d : Nat} : natIn (some (.int k i)) y d = gate (0 ≤ i ∧ i ≤ y) (some i.toNat) := Eq.trans rfl rfl
theorem bounds3_two {len cap : Nat} {lo hi : Option Value} : bounds3 len cap lo hi none = (natIn hi cap len).bind fun h => (natIn lo h 0).bind fun l => some (l, h, cap) := by simp [bounds3, natIn]
theorem bin_add {k : IntKind} {a b : Int} : binV .add (.int k a) (.int k b) = some (.int k (k.wrap (a + b))) := by simp [binV, intBin]
theorem bin_sub {k : IntKind} {a b : Int} : binV .sub (.int k a) (.int k b) = some (.int k (k.wrap (a - b))) := by simp [binV, intBin]
theorem bin_mul {k : IntKind} {a b : Int} : binV .mul (.int k a) (.int k b) = some (.int k (k.wrap (a * b))) := by simp [binV, intBin]
theorem bin_quo {k : IntKind} {a b : Int} (h : (b = 0) = False) : binV .quo (.int k a) (.int k b) = some (.int k (k.wrap (a.tdiv b))) := by simp [binV, intBin, h]
theorem bin_rem {k : IntKind} {a b : Int} (h : (b = 0) = False) : binV .rem (.int k a) (.int k b) = some (.int k (a.tmod b)) := by simp [binV, intBin, h]
theorem bin_and {k : IntKind} {a b : Int} : binV .and (.int k a) (.int k b) = some (.int k (bitsOp .and k a b)) := by simp [binV, intBin]
theorem bin_or {k : IntKind} {a b : Int} : binV .or (.int k a) (.int k b) = some (.int k (bitsOp .or k a b)) := by simp [binV, intBin]
theorem bin_xor {k : IntKind} {a b : Int} : binV .xor (.int k a) (.int k b) = some (.int k (bitsOp .xor k a b)) := by simp [binV, intBin]
theorem bin_andNot {k : IntKind} {a b : Int} : binV .andNot (.int k a) (.int k b) = some (.int k (bitsOp .andNot k a b)) := by simp [binV, intBin]
theorem bin_eql {k : IntKind} {a b : Int} : binV .eql (.int k a) (.int k b) = some (.bool (a == b)) := by simp [binV, intBin]
theorem bin_neq {k : IntKind} {a b : Int} : binV .neq (.int k a) (.int k b) = some (.bool (a != b)) := by simp [binV, intBin]
theorem bin_lss {k : IntKind} {a b : Int} : binV .lss (.int k a) (.int k b) = some (.bool (decide (a < b))) := by simp [binV, intBin]
theorem bin_leq {k : IntKind} {a b : Int} : binV .leq (.int k a) (.int k b) = some (.bool (decide (a ≤ b))) := by simp [binV, intBin]
theorem bin_gtr {k : IntKind} {a b : Int} : binV .gtr (.int k a) (.int k b) = some (.bool (decide (b < a))) := by simp [binV, intBin]
theorem bin_geq {k : IntKind} {a b : Int} : binV .geq (.int k a) (.int k b) = some (.bool (decide (b ≤ a))) := by simp [binV, intBin]
theorem bin_shl {k j : IntKind} {a b : Int} (h : (b < 0) = False) : binV .shl (.int k a) (.int j b) = some (.int k (k.wrap (a * 2 ^ (min b.toNat k.bits)))) := by simp [binV, shiftOp, h]
theorem bin_shr {k j : IntKind} {a b : Int} (h : (b < 0) = False) : binV .shr (.int k a) (.int j b) = some (.int k (a.fdiv (2 ^ (min b.toNat k.bits)))) := by simp [binV, shiftOp, h]
theorem bin_sadd {a b : ByteArray} : binV .add (.string a) (.string b) = gate (a.size + b.size ≤ 2 ^ 47) (some (.string (a ++ b))) := Eq.trans rfl rfl
theorem bin_seql {a b : ByteArray} : binV .eql (.string a) (.string b) = some (.bool (a.toList == b.toList)) := Eq.trans rfl rfl
theorem bin_sneq {a b : ByteArray} : binV .neq (.string a) (.string b) = some (.bool !(a.toList == b.toList)) := Eq.trans rfl rfl
theorem un_not {b : Bool} : unV .not (.bool b) = some (.bool !b) := Eq.trans rfl rfl
theorem un_neg {k : IntKind} {n : Int} : unV .neg (.int k n) = some (.int k (k.wrap (0 - n))) := Eq.trans rfl rfl
theorem un_xor {k : IntKind} {n : Int} : unV .xor (.int k n) = some (.int k (bitsOp .xor k (if k.signed then -1 else k.max) n)) := Eq.trans rfl rfl
theorem after_some {l : List Nat} {k : List Nat} : St.after ⟨e, H, l⟩ (some k) = ⟨e.keep k, H, l⟩ := rfl
theorem put_some {d : Nat} {v : Value} : Env.put e (some d) v = (d, v) :: e := rfl
theorem put_none {v : Value} : Env.put e none v = e := rfl
theorem res_nil : resultOf e H [] = some [] := Eq.trans rfl rfl
theorem res_val {t : Nat} {r : List (Nat × Option (Option Nat))} : resultOf e H ((t, none) :: r) = (e.get t).bind fun v => (resultOf e H r).bind fun vs => some (v :: vs) := Eq.trans rfl rfl
theorem res_var {t : Nat} {n : Option Nat} {r : List (Nat × Option (Option Nat))} : resultOf e H ((t, some n) :: r) = (e.get t).bind fun p => (vLoad H n p).bind fun v => (resultOf e H r).bind fun vs => some (v :: vs) := Eq.trans rfl rfl
theorem packed_one {v : Value} : packed [v] = v := rfl
theorem packed_two {v w : Value} {r : List Value} : packed (v :: w :: r) = .tuple (v :: w :: r).toArray := rfl
theorem merge_nil {b : Nat} {l : List Nat} : inMerge b l [] = l := rfl
theorem merge_ge {b i : Nat} {l r : List Nat} (h : b ≤ i) : inMerge b l (i :: r) = inMerge b l r := by
  have h1 : ¬ i < b := by omega
  simp only [inMerge, h1, false_and, if_false]
theorem okV_int {k : IntKind} {n : Int} : okVar (.int k n) = true := rfl
theorem okV_bool {b : Bool} : okVar (.bool b) = true := rfl
theorem okV_str {s : ByteArray} : okVar (.string s) = true := rfl
theorem okV_agg {a : Array Value} : okVar (.agg a) = true := rfl
theorem okV_ptr {a : Option Addr} : okVar (.pointer a) = true := rfl
theorem okV_slice {a : Option Addr} {n c : Nat} : okVar (.slice a n c) = true := rfl
theorem okV_func {f : Fn} {a b : Array Value} : okVar (.func f a b) = true := rfl
theorem okV_nilFunc : okVar .nilFunc = true := rfl
theorem okV_iface {t : TypeId} {v : Value} : okVar (.iface t v) = true := rfl
theorem okV_nilIface : okVar .nilIface = true := rfl
theorem cells_bool (b : Bool) : (Value.bool b).cells.toList = [.bool b] := rfl
theorem cells_bool_size (b : Bool) : (Value.bool b).cells.size = 1 := rfl
theorem cells_ptr (a : Option Addr) : (Value.pointer a).cells.toList = [.pointer a] := rfl
theorem cells_ptr_size (a : Option Addr) : (Value.pointer a).cells.size = 1 := rfl
theorem cells_slice (a : Option Addr) (n c : Nat) : (Value.slice a n c).cells.toList = [.slice a n c] := rfl
theorem cells_slice_size (a : Option Addr) (n c : Nat) : (Value.slice a n c).cells.size = 1 := rfl
theorem cells_str (s : ByteArray) : (Value.string s).cells.toList = [.string s] := rfl
theorem cells_str_size (s : ByteArray) : (Value.string s).cells.size = 1 := rfl
theorem rf_tup2 {a b : Value} (h1 : rfIn a = true) (h2 : rfIn b = true) : rf (.tuple #[a, b]) = true := by simp [rf, h1, h2]
theorem rfIn_int {k : IntKind} {n : Int} : rfIn (.int k n) = true := rfl
theorem rfIn_bool {b : Bool} : rfIn (.bool b) = true := rfl
theorem rfIn_u8s (l : List Nat) : rfIn (.agg (u8s l).toArray) = true := rf_u8s l
theorem rf_str {s : ByteArray} : rf (.string s) = true := rfl
theorem rfIn_str {s : ByteArray} : rfIn (.string s) = true := rfl
end
set_option linter.defProp false
def cF := And.intro (And.intro (And.intro (And.intro (And.intro (And.intro (And.intro (@evCode_skip) (And.intro (@evCode_exit) (@evCode_seq))) (And.intro (@fs_blockS) (And.intro (@fs_blockR) (@fs_blockC)))) (And.intro (And.intro (@fs_blockK) (And.intro (@fs_blockB) (@evCode_ret))) (And.intro (@keep_nil) (And.intro (@keep_cons) (@fs_cond))))) (And.intro (And.intro (And.intro (@fs_region) (And.intro (@fs_nil) (@fs_guard))) (And.intro (@fs_move) (And.intro (@fs_pick) (@fs_alloc)))) (And.intro (And.intro (@fs_box) (And.intro (@fs_load) (@fs_store))) (And.intro (@fs_bin) (And.intro (@fs_eqv) (@fs_isNil)))))) (And.intro (And.intro (And.intro (And.intro (@fs_un) (And.intro (@fs_conv) (@fs_convStr))) (And.intro (@fs_convSl) (And.intro (@fs_field) (@fs_index)))) (And.intro (And.intro (@fs_indexStr) (And.intro (@fs_build) (@fs_buildSlice))) (And.intro (@fs_fieldAddr) (And.intro (@fs_indexAddr) (@fs_indexSl))))) (And.intro (And.intro (And.intro (@fs_sliceArr) (And.intro (@fs_sliceSl) (@fs_sliceStr))) (And.intro (@fs_makeSlice) (And.intro (@fs_extract) (@fs_mkIface)))) (And.intro (And.intro (@fs_mkFunc) (And.intro (@fs_nilCheck) (@fs_s2ap))) (And.intro (@fs_len) (And.intro (@fs_minmax) (@fs_s2b))))))) (And.intro (And.intro (And.intro (And.intro (And.intro (@fs_b2s) (And.intro (@fs_append) (@fs_copy))) (And.intro (@fs_callR) (And.intro (@fs_callv) (@opd_tmp)))) (And.intro (And.intro (@opd_const) (And.intro (@opd_func) (@opds_nil))) (And.intro (@opds_cons) (And.intro (@opdOpt_none) (@opdOpt_some))))) (And.intro (And.intro (And.intro (@opdParts_nil) (And.intro (@opdParts_cons) (@get_miss))) (And.intro (@vPick_t) (And.intro (@vPick_f) (@vEq_agg)))) (And.intro (And.intro (@vEq_aggN) (And.intro (@vEq_bool) (@vEq_boolN))) (And.intro (@vConv_int) (And.intro (@vStr_s) (@vConvSl_s)))))) (And.intro (And.intro (And.intro (And.intro (@vField_agg) (And.intro (@vIndex_agg) (@vIndexStr_s))) (And.intro (@vFieldAddr_p) (And.intro (@vIndexAddr_p) (@vIndexSl_s)))) (And.intro (And.intro (@vSliceArr_p) (And.intro (@vSliceSl_s) (@vSliceSl_n))) (And.intro (@vSliceStr_s) (And.intro (@vExtract_t) (@vNilCheck_p))))) (And.intro (And.intro (And.intro (@vS2ap_s) (And.intro (@vLen_s) (@vLen_str))) (And.intro (@vMin_i) (And.intro (@vMax_i) (@vLoad_p)))) (And.intro (And.intro (@vStore_p) (And.intro (@baseP_p) (@vB2s_s))) (And.intro (@vMake_i) (And.intro (@vS2b_s) (@callee_f)))))))) (And.intro (And.intro (And.intro (And.intro (And.intro (And.intro (@liveAt_eq) (And.intro (@storeAt_eq) (@partL_none))) (And.intro (@partL_some) (And.intro (@natIn_none) (@natIn_int)))) (And.intro (And.intro (@bounds3_two) (And.intro (@bin_add) (@bin_sub))) (And.intro (@bin_mul) (And.intro (@bin_quo) (@bin_rem))))) (And.intro (And.intro (And.intro (@bin_and) (And.intro (@bin_or) (@bin_xor))) (And.intro (@bin_andNot) (And.intro (@bin_eql) (@bin_neq)))) (And.intro (And.intro (@bin_lss) (And.intro (@bin_leq) (@bin_gtr))) (And.intro (@bin_geq) (And.intro (@bin_shl) (@bin_shr)))))) (And.intro (And.intro (And.intro (And.intro (@bin_sadd) (And.intro (@bin_seql) (@bin_sneq))) (And.intro (@un_not) (And.intro (@un_neg) (@un_xor)))) (And.intro (And.intro (@after_some) (And.intro (@put_some) (@put_none))) (And.intro (@res_nil) (And.intro (@res_val) (@res_var))))) (And.intro (And.intro (And.intro (@packed_one) (And.intro (@packed_two) (@merge_nil))) (And.intro (@merge_ge) (And.intro (@rf_tup2) (@rfIn_int)))) (And.intro (And.intro (@rfIn_bool) (And.intro (@rfIn_u8s) (@rf_str))) (And.intro (@rfIn_str) (And.intro (@gd_bool) (@gd_ut))))))) (And.intro (And.intro (And.intro (And.intro (And.intro (@gd_uf) (And.intro (@List.nil_append.{0}) (@List.cons_append.{0}))) (And.intro (@List.all_nil.{0}) (And.intro (@List.all_cons.{0}) (@List.isEmpty_nil.{0})))) (And.intro (And.intro (@Bool.false_eq_true) (And.intro (@beq_self_eq_true.{0}) (@bne_self_eq_false.{0}))) (And.intro (@Bool.not_true) (And.intro (@Bool.not_false) (@Int.natCast_nonneg))))) (And.intro (And.intro (And.intro (@Nat.lt_irrefl) (And.intro (@false_and) (@rf_int))) (And.intro (@rf_bool) (And.intro (@rf_tuple_ints) (@rf_u8s)))) (And.intro (And.intro (@arr_list) (And.intro (@toList2) (@Bool.and_self))) (And.intro (@Nat.not_lt_zero) (And.intro (@Nat.sub_zero) (@Nat.zero_le)))))) (And.intro (And.intro (And.intro (And.intro (@Nat.le_add_right) (And.intro (@cells_agg) (@cells_agg_size))) (And.intro (@cells_int) (And.intro (@cells_int_size) (@okV_int)))) (And.intro (And.intro (@okV_bool) (And.intro (@okV_str) (@okV_agg))) (And.intro (@okV_ptr) (And.intro (@okV_slice) (@okV_func))))) (And.intro (And.intro (And.intro (@okV_nilFunc) (And.intro (@okV_iface) (@okV_nilIface))) (And.intro (@cells_bool) (And.intro (@cells_bool_size) (@cells_ptr)))) (And.intro (And.intro (@cells_ptr_size) (And.intro (@cells_slice) (@cells_slice_size))) (And.intro (@cells_str) (And.intro (@cells_str_size) (@eq_self.{1}))))))))
def pF := And.intro (And.intro (@gate_true) (@get_hit)) (And.intro (@Option.bind_some.{0, 0}) (And.intro (@if_true.{1}) (@if_false.{1})))
def cL := And.intro (And.intro (And.intro (And.intro (And.intro (@wrapI64_small) (@Int.natCast_zero)) (And.intro (@Int.natCast_one) (And.intro (@Int.cast_ofNat_Int) (@List.length_nil.{0})))) (And.intro (And.intro (@List.length_cons.{0}) (@List.getElem?_cons_zero.{0})) (And.intro (@List.getElem?_cons_succ.{0}) (And.intro (@List.set_cons_zero.{0}) (@List.set_cons_succ.{0}))))) (And.intro (And.intro (And.intro (@Nat.zero_add) (@Nat.add_zero)) (And.intro (@Nat.mul_one) (And.intro (@Nat.zero_mul) (@Int.toNat_natCast)))) (And.intro (And.intro (@Int.toNat_zero) (@Int.lt_irrefl)) (And.intro (@Int.le_refl) (And.intro (@Nat.le_refl) (@and_self)))))) (And.intro (And.intro (And.intro (And.intro (@true_and) (@and_true)) (And.intro (@decide_true) (And.intro (@decide_false) (@Nat.min_self)))) (And.intro (And.intro (@ge_iff_le.{0}) (@gt_iff_lt.{0})) (And.intro (@Option.isNone_none.{0}) (And.intro (@Option.isSome_none.{0}) (@Option.isNone_some.{0}))))) (And.intro (And.intro (And.intro (@Option.isSome_some.{0}) (@Bool.and_true)) (And.intro (@Bool.true_and) (And.intro (@Bool.and_false) (@Bool.false_and)))) (And.intro (And.intro (@not_true_eq_false) (And.intro (@not_false_eq_true) (@or_true))) (And.intro (@true_or) (And.intro (@false_or) (@or_false))))))
def cJ := And.intro (And.intro (And.intro (@hget0) (@hgetK)) (And.intro (@hset0) (And.intro (@hsetK) (@splice_single)))) (And.intro (And.intro (@splice_whole) (@take_whole)) (And.intro (@List.getElem?_nil.{0}) (And.intro (@List.length_append.{0}) (@List.append_assoc.{0}))))
end Go.Ev
set_option linter.unusedSimpArgs false
set_option linter.unusedVariables false
namespace Go.Ev
open Go.RowKit Go.WideShapes Go.ChangeShapes
theorem open_bytes {P : Program} {w : World} {r : Reach} {base : Nat} {t e : TypeId} {v : Value} {n : Nat} {e' : TypeId} (ht : P.underlying t = some (.array n e')) (hc : P.cellsOf t = n) (hts : P.cellTypes P.depth t = some (List.replicate n e)) (he : P.underlying e = some (.int .u8)) (hn : 0 < n)
    (h : Value.okWide P w r base t v) : ∃ l : List Nat, v = .agg (u8s l).toArray ∧ l.length = n ∧ ∀ x ∈ l, x < 256 := by
  simp only [Value.okWide, ht] at h
  obtain ⟨cs, rfl, h1, ts, h2, -, h3⟩ := h
  rw [hc] at h1
  rw [hts] at h2
  cases h2
  have hcell : ∀ (i : Nat) (v : Value), cs[i]? = some v → ∃ x : Nat, v = Value.int .u8 (x : Nat) ∧ x < 256 := by
    intro i v hv
    obtain ⟨u, g1, g2⟩ := h3 i v hv
    have hu : u = e := by
      have := List.mem_of_getElem? g1
      exact List.eq_of_mem_replicate this
    subst hu
    simp only [Cell.okWide, Cell.ok, he] at g2
    cases v <;> try (exact g2.elim)
    · rename_i k x
      obtain ⟨rfl, g3, g4⟩ := g2
      have g3' : (0 : Int) ≤ x := g3
      have g4' : x ≤ 255 := g4
      exact ⟨x.toNat, by rw [Int.toNat_of_nonneg g3'], by omega⟩
  refine ⟨cs.toList.map fun v => match v with | .int _ n => n.toNat | _ => 0, ?_, by simp [h1], ?_⟩
  · congr 1
    apply Array.ext_getElem?
    intro i
    simp only [u8s, List.map_map, List.getElem?_toArray, List.getElem?_map, Array.getElem?_toList]
    cases hv : cs[i]? with
    | none => rfl
    | some v =>
      obtain ⟨x, rfl, hx⟩ := hcell i v hv
      simp
  · intro x hx
    simp only [List.mem_map] at hx
    obtain ⟨v, hv, rfl⟩ := hx
    obtain ⟨i, hi⟩ := List.mem_iff_getElem?.1 hv
    rw [Array.getElem?_toList] at hi
    obtain ⟨x, rfl, hx⟩ := hcell i v hi
    simpa using hx
theorem open_int {P : Program} {w : World} {r : Reach} {base : Nat} {t : TypeId} {v : Value} {k : IntKind} (ht : P.underlying t = some (.int k))
    (h : Value.okWide P w r base t v) : ∃ x : Int, v = .int k x ∧ k.min ≤ x ∧ x ≤ k.max := by
  simp only [Value.okWide, ht, Cell.okWide, Cell.ok] at h
  cases v <;> try (exact h.elim)
  obtain ⟨rfl, h1, h2⟩ := h
  exact ⟨_, rfl, h1, h2⟩
end Go.Ev
set_option linter.unusedSimpArgs false
set_option linter.unusedVariables false
namespace Go.Ev
open Go.RowKit Go.WideShapes Go.ChangeShapes
section
variable {P : Program} {T : Tab}
theorem calls_rel (hm : P.follows .mixedOrders = true) (hT : TabOk P T) {f : Nat} {args args' : List Value} {v : Value} {H H' : List Ob} {M : List Nat} (h : evFun T f args H = some (v, H', M)) (hn : T.fn f ≠ none) (hv : rf v = true) {ρ : Pl} {w : World} (hl : LRel ρ args args')
    (hrel : RelF ρ (hp H) w) (hfree : ∀ id, H.length ≤ id → ρ id = none) (hown : ∀ (i : Nat) (o : Ob), H[i]? = some o → o.own = false) :
    Calls P f args'.toArray w fun e w' => e = .returned v ∧ Below w.heap.size w w' := by
  have h1 := (sound hm hT f args H _ h).1
  have h2 := h1 ρ args' w hl hrel (fun id h _ => hfree id h) { (default : Oper) with dst := some 0 } { tmps := #[undef], defers := [] }
    (fun a w' => ∃ v', a.tmps = #[v'] ∧ v' = v ∧ Below w.heap.size w w') (fun _ _ _ => False) fun v' w' ρ' hp => ⟨v', by simp [Act.put], hp.val.of_rf hv, ⟨hp.frm.os, hp.frm.tape, hp.frm.output, hp.frm.size, fun k hk => hp.frm.blocks k hk fun id ob pl hc _ _ ho => by rw [hown id ob hc] at ho; cases ho⟩⟩
  obtain ⟨af, haf⟩ := Option.ne_none_iff_exists'.1 hn
  obtain ⟨pf, g1, g2, g3⟩ := hT.fn f af haf
  obtain ⟨code, g4, g5, g6⟩ := compFun_inv g2
  have hcf : (callFunc f args'.toArray).run P w = .ok (.enter f args'.toArray) w := by
    have g3' : ¬ (pf.name = "runtime.NumGoroutine") := by simpa using g3
    simp [callFunc, g1, g3', g4]
  rw [hcf, Oper.upon_enter] at h2
  refine h2.mono fun e w' he => ?_
  cases e with
  | returned v1 =>
    obtain ⟨v', k1, k2, k3⟩ := he
    have : v1 = v' := by simpa [Act.put] using k1
    exact ⟨by rw [this, k2], k3⟩
  | panicked c => exact he.elim
  | outgrown => obtain ⟨_, _, hx⟩ := he; exact hx.elim
structure Lies8 (w : World) (a : Addr) (len cap : Nat) (l : List Nat) : Prop where
  spot : a.spot = none
  at_ : ∃ cs e fr, w.heap[a.block]? = some (.cells cs e fr) ∧ (cap = 0 ∨ a.off + cap ≤ cs.size) ∧ ∀ (i x : Nat), l[i]? = some x → cs[a.off + i]? = some (.int .u8 (x : Nat))
  le : len ≤ cap
  max : cap ≤ maxLen
  len : l.length = len
  lt : ∀ x ∈ l, x < 256
theorem cells_one_get {w : World} {base : Nat} {a : Addr} {cs : List Value} (h : w.cells? base a 1 = some cs) : ∃ v, cs = [v] ∧ w.cell? a = some v := by
  obtain ⟨_, hlen1, hcell⟩ := World.cells?_some h
  obtain ⟨v, rfl⟩ : ∃ v, cs = [v] := by
    match cs, hlen1 with
    | [v], _ => exact ⟨v, rfl⟩
  refine ⟨v, rfl, ?_⟩
  have h0 := hcell 0 (by omega)
  simpa [Addr.add] using h0
theorem open_u8s {w : World} {r : Reach} {b0 : Nat} {H : Type} {enc : TypeId × Value → H} {t e : TypeId} {v : Value} {d : DataW H} {ps : List MemPlace} (ht : P.underlying t = some (.slice e)) (he : P.underlying e = some (.int .u8)) (hc : P.cellsOf e = 1)
    (hval : Value.okWide P w r b0 t v) (hd : DataW.Trod enc P w 0 (fun _ => true) true t v d ps) :
    v = .slice none 0 0 ∨ ∃ a len cap l, v = .slice (some a) len cap ∧ Lies8 w a len cap l := by
  obtain ⟨a0, len0, cap0, rfl⟩ := okWide_slice ht hval
  obtain ⟨fuel, hf⟩ := hd
  rcases DataW.trod_slice ht hf with ⟨h1, h2⟩ | ⟨a, len, cap, elems, rest, n, _, h1, h2, h3, h4, h5, h6, h7, h8, h9⟩
  · left
    simpa [Value.cells] using h1
  · right
    simp only [Value.cells, List.cons.injEq, Value.slice.injEq, and_true] at h1
    obtain ⟨rfl, rfl, rfl⟩ := h1
    simp only [Value.okWide, ht, Cell.okWide, Cell.ok] at hval
    obtain ⟨_, _, _, hsp, row, cells, hsh, _⟩ := hval
    simp only [World.shape?] at hsh
    cases hb : w.heap[a.block]? with
    | none => rw [hb] at hsh; cases hsh
    | some ob =>
      rw [hb] at hsh
      cases ob with
      | cells cs el fr =>
        have hcell : ∀ i, w.cell? (a.add i) = cs[a.off + i]? := fun i => by
          have h1 : (a.add i) = ⟨a.block, a.off + i, none⟩ := by
            obtain ⟨ab, ao, asp⟩ := a
            simp only at hsp
            subst hsp
            exact addr_add _ _ _
          rw [h1]
          simp [World.cell?, hb]
        have hel : ∀ i, i < len0 → ∃ x : Nat, cs[a.off + i]? = some (.int .u8 (x : Nat)) ∧ x < 256 := fun i hi => by
          have h10 := h7 i hi
          rw [hc, Nat.mul_one] at h10
          obtain ⟨y, hy⟩ : ∃ y, elems[i]? = some y := ⟨_, List.getElem?_eq_getElem (by omega)⟩
          rw [hy, Option.bind_eq_some_iff] at h10
          obtain ⟨c1, hc1, hof⟩ := h10
          obtain ⟨v1, rfl, hv1⟩ := cells_one_get hc1
          obtain ⟨m, hm, _, hw⟩ := DataW.trod_int he hof
          simp only [List.cons.injEq, and_true] at hm
          subst hm
          rw [hcell] at hv1
          simp only [Lit.wf, decide_eq_true_eq, Bool.and_eq_true] at hw
          have hw1 : (0 : Int) ≤ m := hw.1
          have hw2 : m ≤ 255 := hw.2
          exact ⟨m.toNat, by rw [hv1, Int.toNat_of_nonneg hw1], by omega⟩
        have hcap : cap0 = 0 ∨ a.off + cap0 ≤ cs.size := by
          rcases Nat.eq_zero_or_pos cap0 with h0 | h0
          · exact .inl h0
          · right
            rcases Nat.lt_or_ge len0 cap0 with hlt | hge
            · obtain ⟨hr1, hr2⟩ := h8 rfl
              have h10 := hr2 (cap0 - len0 - 1) (by omega)
              rw [hc, Nat.mul_one] at h10
              obtain ⟨y, hy⟩ : ∃ y, rest[cap0 - len0 - 1]? = some y := ⟨_, List.getElem?_eq_getElem (by omega)⟩
              rw [hy, Option.bind_eq_some_iff] at h10
              obtain ⟨c1, hc1, hof⟩ := h10
              obtain ⟨v1, rfl, hv1⟩ := cells_one_get hc1
              rw [hcell] at hv1
              have := (Array.getElem?_eq_some_iff.1 hv1).1
              omega
            · obtain ⟨x, hx, _⟩ := hel (cap0 - 1) (by omega)
              have := (Array.getElem?_eq_some_iff.1 hx).1
              omega
        refine ⟨a, len0, cap0, (List.range len0).map fun i => match cs[a.off + i]? with | some (.int _ m) => m.toNat | _ => 0, rfl, hsp, ⟨cs, el, fr, hb, hcap, fun i x hx => ?_⟩, h4, h5, by simp, fun x hx => ?_⟩
        · simp only [List.getElem?_map, Option.map_eq_some_iff] at hx
          obtain ⟨j, hj, rfl⟩ := hx
          have hj2 := List.getElem?_eq_some_iff.1 hj
          obtain ⟨hj3, hj4⟩ := hj2
          simp only [List.length_range] at hj3
          rw [List.getElem_range] at hj4
          subst hj4
          obtain ⟨y, hy, _⟩ := hel i hj3
          rw [hy]
          simp
        · simp only [List.mem_map, List.mem_range] at hx
          obtain ⟨j, hj, rfl⟩ := hx
          obtain ⟨y, hy, hy2⟩ := hel j hj
          rw [hy]
          simpa using hy2
      | _ => cases hsh
theorem slice_le {w : World} {H : Type} {enc : TypeId × Value → H} {t e : TypeId} {v : Value} {d : DataW H} {ps : List MemPlace} {ts : List TypeId} {ds : List (DataW H)} (hw : (DataW.weightsEach P ts ds).all (· ≤ reachBytes) = true) {j : Nat} (htj : ts[j]? = some t) (hdj : ds[j]? = some d)
    (ht : P.underlying t = some (.slice e)) (hb : P.bytesOf e = 1) (hd : DataW.Trod enc P w 0 (fun _ => true) true t v d ps) {a : Addr} {len cap : Nat} (hv : v = .slice (some a) len cap) : len ≤ 2 ^ 47 - 4096 := by
  subst hv
  obtain ⟨fuel, hf⟩ := hd
  rcases DataW.trod_slice ht hf with ⟨h1, h2⟩ | ⟨a', len', cap', elems, rest, n, _, h1, h2, h3, h4, h5, h6, h7, h8, h9⟩
  · simp [Value.cells] at h1
  · simp only [Value.cells, List.cons.injEq, Value.slice.injEq, and_true] at h1
    obtain ⟨_, rfl, _⟩ := h1
    simp only [Prod.mk.injEq] at h2
    obtain ⟨rfl, -⟩ := h2
    have := sized_slice hw htj hdj ht
    rw [hb, List.length_map, h6] at this
    have e1 : reachBytes = 2 ^ 47 - 4096 := by decide
    omega
theorem vrel_u8s (ρ : Pl) (l : List Nat) : VRel ρ (.agg (u8s l).toArray) (.agg (u8s l).toArray) :=
  .agg (LRel.same (by rw [List.all_eq_true]; intro x hx; simp only [u8s, List.mem_map] at hx; obtain ⟨n, -, rfl⟩ := hx; rfl)) (fun x hx => by simp only [u8s, List.mem_map] at hx; obtain ⟨n, -, rfl⟩ := hx; rfl)
def ob8 (l : List Nat) : Ob := ⟨u8s l, true, false, false, 1⟩
theorem lies_rel {w : World} {a : Addr} {len cap : Nat} {l : List Nat} (h : Lies8 w a len cap l) : ∃ pl : Place, pl.block = a.block ∧ pl.block < w.heap.size ∧ (∀ ρ, ObjRel ρ w pl (ob8 l)) ∧
    ∀ (ρ : Pl) (id : Nat), ρ id = some pl → VRel ρ (.slice (some ⟨id, 0, none⟩) len len) (.slice (some a) len cap) := by
  obtain ⟨cs, e, fr, h1, h2, h3⟩ := h.at_
  have hlt : a.block < w.heap.size := (Array.getElem?_eq_some_iff.1 h1).1
  have hle := h.le
  have hln := h.len
  rcases Nat.eq_zero_or_pos cap with h0 | h0
  · subst h0
    have hl0 : l = [] := List.eq_nil_of_length_eq_zero (by omega)
    have hlen0 : len = 0 := by omega
    subst hl0 hlen0
    refine ⟨⟨a.block, 0, cs.size, 1, .foreign⟩, rfl, hlt, fun ρ => ⟨rfl, rfl, cs, e, fr, h1, rfl, by simp [ob8, u8s], fun i v hv => by simp [ob8, u8s] at hv, fun ho => by simp [ob8] at ho⟩, fun ρ id hρ => ?_⟩
    exact .slice hρ rfl h.spot rfl (.inr rfl) (Nat.le_refl _) (Nat.le_refl _) trivial
  · have h4 : a.off + cap ≤ cs.size := by
      rcases h2 with h2 | h2
      · omega
      · exact h2
    refine ⟨⟨a.block, a.off, cs.size, 1, .foreign⟩, rfl, hlt, fun ρ => ⟨rfl, rfl, cs, e, fr, h1, rfl, by simp only [ob8, u8s_len]; omega, fun i v hv => ?_, fun ho => by simp [ob8] at ho⟩, fun ρ id hρ => ?_⟩
    · simp only [ob8, u8s, List.getElem?_map, Option.map_eq_some_iff] at hv
      obtain ⟨x, hx, rfl⟩ := hv
      exact ⟨rfl, _, h3 i x hx, .same rfl⟩
    · exact .slice hρ rfl h.spot rfl (.inl rfl) (Nat.le_refl _) h.le trivial
def pl1 (pl : Place) : Pl := fun id => if id = 0 then some pl else none
theorem rel_one {w : World} {pl : Place} {l : List Nat} (h1 : pl.block < w.heap.size) (h2 : ∀ ρ, ObjRel ρ w pl (ob8 l)) : RelF (pl1 pl) (hp [ob8 l]) w := by
  refine ⟨fun id p h => ?_, fun id ob p h k hl => ?_, fun i j oi oj pi pj hi hj hpi hpj hl ho hlj hne => ?_⟩
  · unfold pl1 at h
    split at h
    · cases h; exact h1
    · cases h
  · unfold pl1 at k
    split at k
    · rename_i h0
      subst h0
      cases k
      simp [hp] at h
      subst h
      exact h2 _
    · cases k
  · rcases i with _ | i
    · simp [hp] at hi
      subst hi
      cases ho
    · simp [hp] at hi
theorem own_one {l : List Nat} : ∀ (i : Nat) (o : Ob), ([ob8 l] : List Ob)[i]? = some o → o.own = false := by
  intro i o h
  rcases i with _ | i
  · simp at h; subst h; rfl
  · simp at h
theorem free_one {pl : Place} {l : List Nat} : ∀ id, ([ob8 l] : List Ob).length ≤ id → pl1 pl id = none := by
  intro id h
  have : ¬ id = 0 := by simp at h; omega
  simp [pl1, this]
end
end Go.Ev

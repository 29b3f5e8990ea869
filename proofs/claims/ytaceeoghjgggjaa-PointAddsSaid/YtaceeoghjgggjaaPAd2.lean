/- What the law leans on, part 2. -/
import Derived.Test.YtaceeoghjgggjaaPAd1
import Derived.LoopN
import Derived.ProofKit
import Derived.Test.YtaceeoghjgggjaaChecked
import Derived.KernelRfl
import Derived.Laws.Externs
set_option linter.unusedSimpArgs false
set_option linter.unusedVariables false
set_option linter.unusedSimpArgs false
set_option linter.unusedVariables false
namespace Go.Ev
open Go.RowKit
section
variable {P : Program} {n base : Nat} {ops : Array Oper} {aops : List AOper} {s s' : St} {recs : List Rec} {S : Nat → St} {R : Nat → Rec}
theorem slots_spec {l : List Oper} {prs : List (Nat × Nat)} (h : slotsOk l prs = true) {i j : Nat} (hp : (i, j) ∈ prs) {a b : Oper} (ha : l[i]? = some a) (hb : l[j]? = some b) :
    (∀ d, a.dst = some d → d ∉ namesOf l b ∧ b.dst ≠ some d) ∧ (∀ d, b.dst = some d → d ∉ namesOf l a) := by
  have := List.all_eq_true.1 h (i, j) hp
  simp only [ha, hb, Bool.and_eq_true] at this
  obtain ⟨h1, h2⟩ := this
  refine ⟨fun d hd => ?_, fun d hd => ?_⟩
  · rw [hd] at h1; simp at h1; exact h1
  · rw [hd] at h2; simpa using h2
variable (hc : compOpers P n ops.toList ops.toList = some aops) (ht : Trace P base aops s s' [] recs S R)
include hc ht
theorem pair_apart (hpairs : pairsOk recs (memPairs aops (openPairs (upsOf ops.toList))) = true) {i j : Nat} (hij : i < j) (hj : j < ops.size) (hp : (i, j) ∈ openPairs (upsOf ops.toList)) :
    (∀ id ∈ (R i).2, ¬ touches (R j) id) ∧ (∀ id ∈ (R j).2, ¬ touches (R i) id) := by
  obtain ⟨hl, hget⟩ := compOpers_get hc
  have hlen : aops.length = ops.size := by simpa using hl
  have hrec : ∀ k, k < ops.size → recs[k]? = some (R k) := by
    intro k hk
    rw [ht.recs]
    simp [hlen, hk]
  have hi : i < ops.size := by omega
  have hai : aops[i]? = some (aops[i]'(by omega)) := List.getElem?_eq_getElem (by omega)
  have haj : aops[j]? = some (aops[j]'(by omega)) := List.getElem?_eq_getElem (by omega)
  generalize aops[i]'(by omega) = ai at hai
  generalize aops[j]'(by omega) = aj at haj
  have hfree : ∀ k ak, aops[k]? = some ak → ak.op.free = true → R k = (some [], []) ∨ ((R k).1 = some [] ∧ (R k).2 = []) := by
    intro k ak hk hf
    rcases ht.step k ak hk with ⟨_, v, H', t, M, hg, _, hr⟩ | ⟨_, _, hr⟩
    · right; rw [hr]; exact hg.free hf
    · left; exact hr
  have hquiet : ∀ k ak, aops[k]? = some ak → ak.op.quiet = true → (R k).2 = [] := by
    intro k ak hk hf
    rcases ht.step k ak hk with ⟨_, v, H', t, M, hg, _, hr⟩ | ⟨_, _, hr⟩
    · rw [hr]; exact hg.quiet hf
    · rw [hr]
  have hnone : ∀ k ak, aops[k]? = some ak → ak.op.free = true → (R k).2 = [] ∧ ∀ id, ¬ touches (R k) id := by
    intro k ak hk hf
    rcases hfree k ak hk hf with h | ⟨h1, h2⟩
    · rw [h]; exact ⟨rfl, fun id h => by simp [touches] at h⟩
    · exact ⟨h2, fun id h => by simp [touches, h1] at h⟩
  by_cases hm : (i, j) ∈ memPairs aops (openPairs (upsOf ops.toList))
  · have := List.all_eq_true.1 hpairs (i, j) hm
    simp only [hrec i hi, hrec j hj] at this
    exact apart_spec this
  · have hx : (ai.op.free || aj.op.free || (ai.op.quiet && aj.op.quiet)) = true := by
      cases hb : (ai.op.free || aj.op.free || (ai.op.quiet && aj.op.quiet)) with
      | true => rfl
      | false =>
        exfalso; apply hm
        unfold memPairs
        rw [List.mem_filter]
        refine ⟨hp, ?_⟩
        simp only [hai, haj, hb, Bool.not_false]
    simp only [Bool.or_eq_true, Bool.and_eq_true] at hx
    rcases hx with (h1 | h1) | ⟨h1, h2⟩
    · obtain ⟨a1, a2⟩ := hnone i ai hai h1
      exact ⟨fun id hid => by rw [a1] at hid; simp at hid, fun id _ => a2 id⟩
    · obtain ⟨a1, a2⟩ := hnone j aj haj h1
      exact ⟨fun id _ => a2 id, fun id hid => by rw [a1] at hid; simp at hid⟩
    · have a1 := hquiet i ai hai h1
      have a2 := hquiet j aj haj h2
      exact ⟨fun id hid => by rw [a1] at hid; simp at hid, fun id hid => by rw [a2] at hid; simp at hid⟩
variable (hslots : slotsOk ops.toList (openPairs (upsOf ops.toList)) = true) (hpairs : pairsOk recs (memPairs aops (openPairs (upsOf ops.toList))) = true)
include hslots hpairs
theorem draw_step {ρ0 : Pl} {a0 : Act} {w0 : World} (hfree0 : Free ρ0 (S 0).h.length (S ops.size).h.length) (hn : n ≤ a0.tmps.size) {listed : Array Bool} {a : Act} {w : World} {ρ : Pl} {c : Nat → Option Ob} (hI : Inv P ops S R ρ0 a0 w0 listed a w ρ c) {k : Nat}
    (hk : k < ops.size) (hkl : listed.getD k false = false) (hready : ∀ o, ops.toList[k]? = some o → ∀ e ∈ o.after.toList, Region.binds .any e = true → listed.getD e.on false = true)
    {Q : Exit → Act → World → Prop} {K : Act → World → Prop} (hK : ∀ a' w' ρ' c', Inv P ops S R ρ0 a0 w0 (listed.setIfInBounds k true) a' w' ρ' c' → K a' w') : wpOp P ops Q k K a w := by
  obtain ⟨hl, hget⟩ := compOpers_get hc
  have hlen : aops.length = ops.size := by simpa using hl
  have hkl' : k < ops.toList.length := by simpa using hk
  obtain ⟨ao, ha1, ha2, ha3, ha4, ha5, ha6⟩ := hget k _ (List.getElem?_eq_getElem hkl')
  have hoL : ops.toList[k]? = some ops.toList[k] := List.getElem?_eq_getElem hkl'
  have hoj : ops[k]? = some ops.toList[k] := by rw [← Array.getElem?_toList]; exact hoL
  generalize ops.toList[k] = o at ha2 ha3 ha4 ha5 ha6 hoj hoL
  have hst := ht.step k ao ha1
  have hks : k < listed.size := by rw [hI.size]; exact hk
  have hls : ∀ j, (listed.setIfInBounds k true).getD j false = if j = k then true else listed.getD j false := fun j => getD_set hks
  have hdst : ∀ d, o.dst = some d → d < a.tmps.size := fun d hd => by rw [hI.tsize]; exact Nat.lt_of_lt_of_le (ha6 d hd) hn
  -- what isn't done yet, ahead of this one, isn't bound to be
  have hun1 : ∀ i, i < k → listed.getD i false = false → (i, k) ∈ openPairs (upsOf ops.toList) := by
    intro i hi hli
    refine open_mem hi hkl' ?_
    cases hb : ((upsOf ops.toList).getD k 0).testBit i with
    | false => rfl
    | true =>
      have := ups_listed (ops := ops.toList) (L := fun j => j = k ∨ listed.getD j false = true) (fun j x hj hx e he hbd => by
        rcases hj with rfl | hj
        · exact .inr (hready x hx e he hbd)
        · exact .inr (hI.down j x hj hx e he hbd)) k (.inl rfl) i hb
      rcases this with rfl | h
      · omega
      · rw [hli] at h; cases h
  -- what is done already, behind this one, isn't bound to it
  have hun2 : ∀ i, k < i → i < ops.size → listed.getD i false = true → (k, i) ∈ openPairs (upsOf ops.toList) := by
    intro i hi him hli
    refine open_mem hi (by simpa using him) ?_
    cases hb : ((upsOf ops.toList).getD i 0).testBit k with
    | false => rfl
    | true =>
      have := ups_listed (ops := ops.toList) (L := fun j => listed.getD j false = true) (fun j x hj hx e he hbd => hI.down j x hj hx e he hbd) i hli k hb
      rw [hkl] at this; cases this
  -- what isn't done yet, ahead or behind: its pair with this one
  have hun3 : ∀ j, j < k → listed.getD j false = false → (j, k) ∈ openPairs (upsOf ops.toList) := hun1
  have hconk : ∀ id, ρ id ≠ none → id < (S k).h.length → touches (R k) id → c id = (S k).h[id]? := by
    intro id hρ hid htc
    obtain ⟨pl, hpl⟩ : ∃ pl, ρ id = some pl := by cases h : ρ id with
      | none => exact absurd h hρ
      | some pl => exact ⟨pl, rfl⟩
    refine hI.con k (by omega) hkl id pl hpl hid (.inr htc) fun i hi hli hch => ?_
    have := (pair_apart hc ht hpairs hi hk (hun1 i hi hli)).1 id (changed_mem hc ht (by omega) hch).1
    exact this htc
  have henvk : ∀ t, t ∈ namesOf ops.toList o → ∀ v, (S k).env.get t = some v → ∃ v', a.tmps[t]? = some v' ∧ VRel ρ v v' := by
    intro t htn
    refine hI.env k (by omega) hkl t (.inr ⟨o, hoL, htn⟩) fun i hi hli x hx hxd => ?_
    exact ((slots_spec hslots (hun1 i hi hli) hx hoL).1 t hxd).1 htn
  have hfreek : Free ρ (S k).h.length (S (k + 1)).h.length := by
    intro id h1 h2
    cases hρ : ρ id with
    | none => rfl
    | some pl =>
      exfalso
      cases h0 : ρ0 id with
      | none =>
        obtain ⟨k', a1, a2, a3, a4⟩ := hI.dom id pl hρ h0
        have hne : k' ≠ k := fun e => by subst e; rw [hkl] at a2; cases a2
        rcases Nat.lt_or_ge k' k with h | h
        · have := len_mono hc ht (i := k' + 1) (j := k) (by omega) (by omega); omega
        · have := len_mono hc ht (i := k + 1) (j := k') (by omega) (by omega); omega
      | some p =>
        have h3 := len_mono hc ht (i := 0) (j := k) (by omega) (by omega)
        have h4 := len_mono hc ht (i := k + 1) (j := ops.size) (by omega) (by omega)
        have := hfree0 id (by omega) (by omega)
        rw [this] at h0; cases h0
  -- the end of the step: from its effect on the heap to what holds behind it
  have finish : ∀ (v : Value) (G G' : List Ob) (v' : Value) (w' : World) (ρ' : Pl), (S (k + 1)).env = (S k).env.put o.dst v → G.length = (S k).h.length → G'.length = (S (k + 1)).h.length → AbsOk G G' (R k).2 → (∀ id : Nat, id ∈ (R k).2 ∨ (S k).h.length ≤ id → G'[id]? = (S (k + 1)).h[id]?) →
      (∀ (id : Nat) ob, G[id]? = some ob → ob.live = true → ρ id ≠ none → c id = some ob) → (∀ id ∈ (R k).2, touches (R k) id → G[id]? = (S k).h[id]?) → Post1 ρ G w v G' v' w' ρ' → K (a.put o.dst v') w' := by
    intro v G G' v' w' ρ' henv hG hG' hab hnew hsub hGM hp
    refine hK _ _ ρ' (mergeC c G' (R k).2 G.length) ?_
    have hfG : Free ρ G.length G'.length := by rw [hG, hG']; exact hfreek
    have hmr := merge_rel hI.rel hsub hp.ext hfG hp.rel hp.frm hab
    have hmf := merge_frm hsub hp.frm hab
    have hmfl := merge_flags (ρ' := ρ') hsub hfG hab
    have hρnew : ∀ {id pl}, ρ' id = some pl → ¬ ((S k).h.length ≤ id ∧ id < (S (k + 1)).h.length) → ρ id = some pl := by
      intro id pl h hnn
      cases hρ : ρ id with
      | none => have := hp.ext.dom id pl h hρ; rw [hG, hG'] at this; exact absurd this hnn
      | some p => have := hp.ext.le id p hρ; rw [h] at this; cases this; rfl
    have hchk : ∀ id, Changed S k id → ρ id ≠ none := by
      intro id hch hno
      have hm := changed_mem hc ht hk hch
      have h1 := hp.pres id (by rw [hG]; exact hch.1) hno
      rw [hnew id (.inl hm.1), hGM id hm.1 hm.2] at h1
      exact hch.2 h1
    refine ⟨by simp [hI.size], ?_, hmr, hI.le.trans hp.ext.le, ?_, ?_, ?_, ?_, ?_, ?_, ?_, by rw [put_defers]; exact hI.defers, by rw [put_size]; exact hI.tsize⟩
    · intro j x hj hx e he hbd
      rw [hls] at hj ⊢
      split
      · rfl
      · split at hj
        · rename_i hjk; subst hjk; exact hready x hx e he hbd
        · exact hI.down j x hj hx e he hbd
    · intro id pl h1 h2
      cases hρ : ρ id with
      | none =>
        have := hp.ext.dom id pl h1 hρ
        rw [hG, hG'] at this
        exact ⟨k, hk, by rw [hls]; simp, this.1, this.2⟩
      | some p =>
        obtain ⟨k', a1, a2, a3, a4⟩ := hI.dom id p hρ h2
        exact ⟨k', a1, by rw [hls]; split <;> simp [a2], a3, a4⟩
    · intro j hj hjl id pl hpl hid htc hch
      rw [hls] at hjl
      have hjk : j ≠ k := fun e => by simp [e] at hjl
      rw [if_neg hjk] at hjl
      have hch' : ∀ i, i < j → i ≠ k → listed.getD i false = false → ¬ Changed S i id := fun i hi hik hli => hch i hi (by rw [hls, if_neg hik]; exact hli)
      unfold mergeC
      rw [hG, hG']
      by_cases hin : id ∈ (R k).2 ∨ ((S k).h.length ≤ id ∧ id < (S (k + 1)).h.length)
      · rw [if_pos hin]
        have hge : id ∈ (R k).2 ∨ (S k).h.length ≤ id := hin.imp (fun z => z) (fun z => z.1)
        rw [hnew id hge]
        have hidk1 : id < (S (k + 1)).h.length := by
          rcases hin with h | h
          · have := hab.ids id h; rw [hG] at this
            have := len_mono hc ht (i := k) (j := k + 1) (by omega) (by omega); omega
          · exact h.2
        rcases Nat.lt_or_ge k j with hkj | hjk'
        · refine (chain_h hc ht (i := k + 1) (j := j) (by omega) hj hidk1 fun i h1 h2 hci => ?_).symm
          cases hli : listed.getD i false with
          | false => exact hch' i h2 (by omega) hli hci
          | true =>
            have him : i < ops.size := by omega
            rcases hin with h | h
            · have hpa := pair_apart hc ht hpairs (by omega : k < i) him (hun2 i (by omega) him hli)
              exact hpa.1 id h (changed_mem hc ht him hci).2
            · have := hI.there i hli id hci
              exact this (hfreek id h.1 h.2)
        · exfalso
          have hjlt : j < k := by omega
          rcases hin with h | h
          · have hpa := pair_apart hc ht hpairs hjlt hk (hun1 j hjlt hjl)
            rcases htc with h' | h'
            · omega
            · exact hpa.2 id h h'
          · have := len_mono hc ht (i := j) (j := k) (by omega) (by omega); omega
      · rw [if_neg hin]
        have hρ := hρnew hpl fun h => hin (.inr h)
        refine hI.con j hj hjl id pl hρ hid htc fun i hi hli => ?_
        by_cases hik : i = k
        · subst hik
          exact fun hci => hin (.inl (changed_mem hc ht hk hci).1)
        · exact hch' i hi hik hli
    · intro j hj hjl t htn hnd v1 hv1
      rw [hls] at hjl
      have hjk : j ≠ k := fun e => by simp [e] at hjl
      rw [if_neg hjk] at hjl
      rw [tmps_put _ _ _ hdst]
      by_cases hdt : o.dst = some t
      · rw [if_pos hdt]
        rcases Nat.lt_or_ge k j with hkj | hjk'
        · have hce := chain_env hc ht (i := k + 1) (j := j) (t := t) (by omega) hj fun i h1 h2 x hx hxd => by
            cases hli : listed.getD i false with
            | false => exact hnd i h2 (by rw [hls, if_neg (by omega)]; exact hli) x hx hxd
            | true =>
              have him : i < ops.size := by omega
              exact ((slots_spec hslots (hun2 i (by omega) him hli) hoL hx).1 t hdt).2 hxd
          rw [hce, henv, get_put, if_pos hdt] at hv1
          cases hv1
          exact ⟨v', rfl, hp.val⟩
        · exfalso
          have hjlt : j < k := by omega
          rcases htn with h' | ⟨x, hx, hxn⟩
          · omega
          · exact (slots_spec hslots (hun1 j hjlt hjl) hx hoL).2 t hdt hxn
      · rw [if_neg hdt]
        obtain ⟨u, h1, h2⟩ := hI.env j hj hjl t htn (fun i hi hli x hx => by
          by_cases hik : i = k
          · subst hik; rw [hoL] at hx; cases hx; exact hdt
          · exact hnd i hi (by rw [hls, if_neg hik]; exact hli) x hx) v1 hv1
        exact ⟨u, h1, h2.mono hp.ext.le⟩
    · exact hI.frm.trans hmf hI.le hp.ext.le hI.flags fun id ob' pl h1 h2 h3 => hmfl id ob' pl (hI.le id pl h1) h2 h3
    · intro id ob' pl h1 h2 h3
      obtain ⟨o2, b1, b2, b3⟩ := hmfl id ob' pl (hI.le id pl h1) h2 h3
      obtain ⟨o3, d1, d2, d3⟩ := hI.flags id o2 pl h1 b1 b2
      exact ⟨o3, d1, d2, d3.trans b3⟩
    · intro i hi id hci
      rw [hls] at hi
      have : ρ id ≠ none := by
        split at hi
        · rename_i hik; subst hik; exact hchk id hci
        · exact hI.there i hi id hci
      intro hno
      cases hρ : ρ id with
      | none => exact this hρ
      | some p => rw [hp.ext.le id p hρ] at hno; cases hno
    · intro id hid hno i hi hci
      rw [hls] at hi
      split at hi
      · rename_i hik; subst hik
        have h1 := hchk id hci
        cases hρ : ρ id with
        | none => exact h1 hρ
        | some p =>
          obtain ⟨k', a1, a2, a3, a4⟩ := hI.dom id p hρ hno
          have := len_mono hc ht (i := 0) (j := k') (by omega) (by omega); omega
      · exact hI.pres id hid hno i hi hci
  -- the guard
  have hw : ∀ b, guardOf (S k).env ao.guard = some b → Region.wanted o (yielded ops a.tmps) = b := fun b hb => wanted_of (ρ := ρ) ha4 hb fun g want d h1 h2 v hv =>
    henvk d (by unfold namesOf; rw [List.mem_append]; right; rw [h1]; have h2' : (ops.toList[g]?).bind (·.dst) = some d := by simpa using h2
                simp only [h2']; simp) v hv
  unfold wpOp
  rw [hoj]
  dsimp only
  rcases hst with ⟨hg, v, H', t, M, hgood, hs1, hr⟩ | ⟨hg, hs1, hr⟩
  · rw [if_pos (hw true hg)]
    left
    have hRM : (R k).2 = M := by rw [hr]
    have hRt : (R k).1 = t := by rw [hr]
    have hS1 : (S (k + 1)).h = H' := by rw [hs1]
    have henv1 : (S (k + 1)).env = (S k).env.put o.dst v := by rw [hs1, ha3]
    have hopr : OpRel ρ (S k).env a o.op.operands.toList := fun x hx u hu => opRel_one (List.all_eq_true.1 ha5 x hx) (fun t' ht' u' hu' => henvk t' (by
      unfold namesOf; rw [List.mem_append]; left; unfold tmpsOf; rw [List.mem_filterMap]; exact ⟨x, hx, by rw [ht']⟩) u' hu') hu
    cases t with
    | none =>
      have htch : ∀ id, touches (R k) id := fun id => by unfold touches; rw [hRt]; trivial
      have hsub : ∀ (id : Nat) ob, (S k).h[id]? = some ob → ob.live = true → ρ id ≠ none → c id = some ob := fun id ob h1 _ h3 => by
        rw [hconk id h3 (List.getElem?_eq_some_iff.1 h1).1 (htch id)]; exact h1
      refine hgood.ok o ha2 ρ a w hopr (hI.rel.forget2 fun id ob h1 h2 h3 => hsub id ob h2 h3 h1) (by rw [← hS1]; exact hfreek) K Q fun v' w' ρ' hp => ?_
      refine finish v (S k).h H' v' w' ρ' henv1 rfl (by rw [hS1]) (by rw [hRM]; exact hgood.abs) (fun id _ => by rw [hS1]) hsub (fun _ _ _ => rfl) hp
    | some l =>
      let G : List Ob := (List.range (S k).h.length).map fun i => if i ∈ l then ((S k).h[i]?).getD Ob.dead else Ob.dead
      have hGl : G.length = (S k).h.length := by simp [G]
      have hGget : ∀ i : Nat, i < (S k).h.length → G[i]? = some (if i ∈ l then ((S k).h[i]?).getD Ob.dead else Ob.dead) := fun i hi => by
        simp only [G, List.getElem?_map, List.getElem?_range hi, Option.map_some]
      have hag : ∀ id ∈ l, G[id]? = (S k).h[id]? := by
        intro id hid
        rcases Nat.lt_or_ge id (S k).h.length with h | h
        · rw [hGget id h, if_pos hid, List.getElem?_eq_getElem h]; rfl
        · rw [List.getElem?_eq_none (by omega), List.getElem?_eq_none h]
      obtain ⟨G', hloc, habs, hokG⟩ := hgood.loc l rfl G hGl hag
      have htc : ∀ id, touches (R k) id ↔ id ∈ l := fun id => by unfold touches; rw [hRt]
      have hsub : ∀ (id : Nat) ob, G[id]? = some ob → ob.live = true → ρ id ≠ none → c id = some ob := by
        intro id ob h1 h2 h3
        have hid : id < (S k).h.length := by have := (List.getElem?_eq_some_iff.1 h1).1; omega
        by_cases hil : id ∈ l
        · rw [hconk id h3 hid ((htc id).2 hil), ← hag id hil]; exact h1
        · rw [hGget id hid, if_neg hil] at h1; cases h1; simp [Ob.dead] at h2
      have hGlen' : G'.length = (S (k + 1)).h.length := by rw [hS1]; exact hloc.len
      refine hokG o ha2 ρ a w hopr (hI.rel.forget2 fun id ob h1 h2 h3 => hsub id ob h2 h3 h1) (by rw [hGl, hGlen']; exact hfreek) K Q fun v' w' ρ' hp => ?_
      exact finish v G G' v' w' ρ' henv1 hGl hGlen' (by rw [hRM]; exact habs) (fun id hid => by rw [hS1]; exact hloc.new id (by rw [hRM] at hid; exact hid)) hsub (fun id _ htt => hag id ((htc id).1 htt)) hp
  · rw [if_neg (by rw [hw false hg]; simp)]
    have hS1 : (S (k + 1)).h = (S k).h := by rw [hs1]
    let G : List Ob := (List.range (S k).h.length).map fun _ => Ob.dead
    have hGget : ∀ (i : Nat) ob, G[i]? = some ob → ob = Ob.dead := fun i ob h => by
      have hi : i < (S k).h.length := by have := (List.getElem?_eq_some_iff.1 h).1; simpa [G] using this
      simp only [G, List.getElem?_map, List.getElem?_range hi, Option.map_some, Option.some.injEq] at h; exact h.symm
    have hsub : ∀ (id : Nat) ob, G[id]? = some ob → ob.live = true → ρ id ≠ none → c id = some ob := fun id ob h1 h2 _ => by rw [hGget id ob h1] at h2; simp [Ob.dead] at h2
    refine finish undef G G undef w ρ (by rw [hs1, ha3]) (by simp [G]) (by rw [hS1]; simp [G]) (by rw [hr]; exact .refl _ _ (by simp)) (fun id hid => ?_) hsub (fun id hid => by rw [hr] at hid; simp at hid) ⟨⟨.refl _ _ _, .tuple .nil, hI.rel.forget2 fun id ob h1 h2 h3 => hsub id ob h2 h3 h1, .refl _ _ _ _⟩, fun _ _ _ => rfl⟩
    rw [hr] at hid
    rcases hid with h | h
    · simp at h
    · rw [List.getElem?_eq_none (by simpa [G] using h), List.getElem?_eq_none (by rw [hS1]; exact h)]
theorem draw_any {ρ0 : Pl} {a0 : Act} {w0 : World} (hback : backEdges ops.toList = true) (hfree0 : Free ρ0 (S 0).h.length (S ops.size).h.length) (hn : n ≤ a0.tmps.size) {Q : Exit → Act → World → Prop}
    (hQ : ∀ a w ρ, CPost ρ0 s s' a0 w0 a w ρ → Q .normal a w) : ∀ (fuel : Nat) (listed : Array Bool) (a : Act) (w : World) (ρ : Pl) (c : Nat → Option Ob), listed.toList.count false = fuel → Inv P ops S R ρ0 a0 w0 listed a w ρ c → wpAny P .any ops Q fuel listed a w := by
  obtain ⟨hl, hget⟩ := compOpers_get hc
  have hlen : aops.length = ops.size := by simpa using hl
  -- all is done
  have hend : ∀ (listed : Array Bool) (a : Act) (w : World) (ρ : Pl) (c : Nat → Option Ob), Inv P ops S R ρ0 a0 w0 listed a w ρ c → (∀ j, j < ops.size → listed.getD j false = true) → Q .normal a w := by
    intro listed a w ρ c hI hall
    have hS0 : S 0 = s := ht.first
    have hSm : S ops.size = s' := by rw [← hlen]; exact ht.last
    have hnm : listed.getD ops.size false = false := by simp [Array.getD_eq_getD_getElem?, hI.size]
    have hcon : ∀ id pl, ρ id = some pl → id < s'.h.length → c id = s'.h[id]? := fun id pl h1 h2 => by
      rw [← hSm] at h2 ⊢
      exact hI.con ops.size (Nat.le_refl _) hnm id pl h1 h2 (.inl rfl) fun i hi hli => by rw [hall i hi] at hli; cases hli
    refine hQ a w ρ ⟨?_, hI.defers, hI.tsize, ⟨hI.le, fun id pl h1 h2 => ?_⟩, ?_, ?_, ?_⟩
    · intro t v hv
      rw [← hSm] at hv
      exact hI.env ops.size (Nat.le_refl _) hnm t (.inl rfl) (fun i hi hli => by rw [hall i hi] at hli; cases hli) v hv
    · obtain ⟨k, a1, a2, a3, a4⟩ := hI.dom id pl h1 h2
      have h3 := len_mono hc ht (i := 0) (j := k) (by omega) (by omega)
      have h4 := len_mono hc ht (i := k + 1) (j := ops.size) (by omega) (by omega)
      rw [hS0] at h3; rw [hSm] at h4
      omega
    · refine hI.rel.forget2 fun id ob h1 h2 _ => ?_
      cases hρ : ρ id with
      | none => exact absurd hρ h1
      | some pl => rw [hcon id pl hρ (List.getElem?_eq_some_iff.1 h2).1]; exact h2
    · have hf := hI.frm
      rw [hS0] at hf
      refine ⟨hf.os, hf.tape, hf.output, hf.size, hf.blocks, fun id pl h1 h2 => (hf.fresh id pl h1 h2).imp (fun z => z) fun ⟨i, ob, p0, b1, b2, b3, b4, b5, b6⟩ => ⟨i, ob, p0, b1, b2, b3, b4, b5, fun ob' h' => ?_⟩⟩
      refine b6 ob' ?_
      rw [hcon i p0 (hI.le i p0 b2) (List.getElem?_eq_some_iff.1 h').1]; exact h'
    · intro id h1 h2
      rw [← hSm, ← hS0]
      rw [← hS0] at h1
      refine chain_h hc ht (Nat.zero_le _) (Nat.le_refl _) h1 fun k _ hk => hI.pres id h1 h2 k (hall k hk)
  -- what isn't done has a least one, and it is ready
  have hleast : ∀ (listed : Array Bool), listed.size = ops.size → Region.ready .any ops listed = [] → ∀ j, j < ops.size → listed.getD j false = true := by
    intro listed hsz hr j
    induction j using Nat.strongRecOn with
    | _ j ih =>
      intro hj
      cases hlj : listed.getD j false with
      | true => rfl
      | false =>
        exfalso
        have hmem : j ∈ Region.ready .any ops listed := by
          unfold Region.ready
          rw [List.mem_filter]
          refine ⟨List.mem_range.2 hj, ?_⟩
          have h1 : listed.getD j true = false := by
            rcases getD_of listed j with h | h
            · simp only [Array.getD_eq_getD_getElem?] at h hlj
              rw [Array.getElem?_eq_getElem (by omega)] at h hlj
              simp only [Option.getD_some] at h hlj
              rw [h] at hlj; cases hlj
            · simp only [Array.getD_eq_getD_getElem?] at h ⊢
              rw [Array.getElem?_eq_getElem (by omega)] at h ⊢
              simpa using h.1
          have h2 : ops[j]? = some ops[j] := Array.getElem?_eq_getElem hj
          rw [h1, h2]
          simp only [Bool.not_false, Bool.true_and, Option.map_some, Option.getD_some]
          rw [← Array.all_toList, List.all_eq_true]
          intro e he
          cases hb : Region.binds .any e with
          | false => rfl
          | true =>
            have hlt : e.on < j := by
              have := List.all_eq_true.1 hback (j, ops[j]) (idx_mem (by rw [Array.getElem?_toList]; exact h2))
              have := List.all_eq_true.1 this e he
              simpa [hb] using this
            simp only [Bool.not_true, Bool.false_or]
            exact ih e.on hlt (by omega)
        rw [hr] at hmem; simp at hmem
  intro fuel
  induction fuel with
  | zero =>
    intro listed a w ρ c hf hI
    have hall : ∀ j, j < ops.size → listed.getD j false = true := by
      intro j hj
      cases hlj : listed.getD j false with
      | true => rfl
      | false =>
        exfalso
        simp only [Array.getD_eq_getD_getElem?] at hlj
        rw [Array.getElem?_eq_getElem (by rw [hI.size]; exact hj)] at hlj
        simp only [Option.getD_some] at hlj
        have : false ∈ listed.toList := by rw [← hlj]; exact Array.getElem_mem_toList _
        have := List.count_pos_iff.2 this
        omega
    refine ⟨?_, hend listed a w ρ c hI hall⟩
    unfold Region.ready
    rw [List.filter_eq_nil_iff]
    intro j hj
    have := hall j (List.mem_range.1 hj)
    have h1 : listed.getD j true = true := by
      simp only [Array.getD_eq_getD_getElem?] at this ⊢
      rw [Array.getElem?_eq_getElem (by rw [hI.size]; exact List.mem_range.1 hj)] at this ⊢
      exact this
    simp [h1]
  | succ fuel ih =>
    intro listed a w ρ c hf hI
    refine ⟨fun hr => hend listed a w ρ c hI (hleast listed hI.size hr), fun k hk => ?_⟩
    unfold Region.ready at hk
    rw [List.mem_filter] at hk
    obtain ⟨hk1, hk2⟩ := hk
    have hk1 := List.mem_range.1 hk1
    simp only [Bool.and_eq_true, Bool.not_eq_true'] at hk2
    obtain ⟨hk2, hk3⟩ := hk2
    have hks : k < listed.size := by rw [hI.size]; exact hk1
    have hkl : listed.getD k false = false := by
      simp only [Array.getD_eq_getD_getElem?] at hk2 ⊢
      rw [Array.getElem?_eq_getElem hks] at hk2 ⊢
      exact hk2
    refine draw_step hc ht hslots hpairs hfree0 hn hI hk1 hkl (fun o ho e he hb => ?_) fun a' w' ρ' c' hI' => ih _ a' w' ρ' c' ?_ hI'
    · have h2 : ops[k]? = some o := by rw [← Array.getElem?_toList]; exact ho
      rw [h2] at hk3
      simp only [Option.map_some, Option.getD_some] at hk3
      rw [← Array.all_toList, List.all_eq_true] at hk3
      have := hk3 e he
      simpa [hb] using this
    · have hke : listed.toList[k]? = some false := by
        simp only [Array.getD_eq_getD_getElem?] at hkl
        rw [Array.getElem?_eq_getElem hks] at hkl
        simp only [Option.getD_some] at hkl
        rw [Array.getElem?_toList, Array.getElem?_eq_getElem hks, hkl]
      rw [Array.toList_setIfInBounds]
      have := count_set hke
      omega
theorem draw_ok {id : Nat} {ρ : Pl} {a : Act} {w : World} (hm : P.follows .mixedOrders = true) (hback : backEdges ops.toList = true) (h1 : EnvRel ρ s.env a) (h2 : a.defers = []) (h3 : n ≤ a.tmps.size) (h4 : RelF ρ (hp s.h) w) (h5 : Free ρ s.h.length s'.h.length)
    {Q : Exit → Act → World → Prop} (hQ : ∀ a' w' ρ', CPost ρ s s' a w a' w' ρ' → Q .normal a' w') : (Code.region id ops true).wp P Q a w := by
  obtain ⟨hl, hget⟩ := compOpers_get hc
  have hlen : aops.length = ops.size := by simpa using hl
  have hS0 : S 0 = s := ht.first
  have hSm : S ops.size = s' := by rw [← hlen]; exact ht.last
  have hf0 : Free ρ (S 0).h.length (S ops.size).h.length := by rw [hS0, hSm]; exact h5
  refine wp_region_any hm (draw_any hc ht hslots hpairs (w0 := w) (a0 := a) hback hf0 h3 hQ _ _ _ _ ρ (hp s.h) (by simp) ?_)
  have hlf : ∀ j, (Array.replicate ops.size false).getD j false = false := by
    intro j; simp only [Array.getD_eq_getD_getElem?, Array.getElem?_replicate]; split <;> rfl
  refine ⟨by simp, fun j o h => (by rw [hlf] at h; cases h), h4.drawn _, .refl _, fun id pl h1 h2 => (by rw [h1] at h2; cases h2), ?_, ?_, (by rw [hS0]; exact .drawn _ _ _ _ _), ?_, fun i h => (by rw [hlf] at h; cases h), fun id _ _ i h => (by rw [hlf] at h; cases h), h2, rfl⟩
  · intro j hj _ id pl hpl hid _ hch
    have hid0 : id < (S 0).h.length := by
      rcases Nat.lt_or_ge id (S 0).h.length with h | h
      · exact h
      · have := len_mono hc ht (i := j) (j := ops.size) hj (Nat.le_refl _)
        have := hf0 id h (by omega)
        rw [this] at hpl; cases hpl
    have := chain_h hc ht (Nat.zero_le j) hj hid0 fun k _ hk => hch k hk (hlf k)
    rw [this, hS0]
  · intro j hj _ t _ hnd v hv
    have := chain_env hc ht (t := t) (Nat.zero_le j) hj fun k _ hk x hx => hnd k hk (hlf k) x hx
    rw [this, hS0] at hv
    exact h1 t v hv
  · intro id ob' pl h1 h2 h3
    rw [hS0]
    exact ⟨ob', h2, h3, rfl⟩
end
end Go.Ev
set_option linter.unusedSimpArgs false
set_option linter.unusedVariables false
namespace Go.Ev
open Go.RowKit
def exitOf : AExit → Exit
  | .normal => .normal
  | .exit id => .exit id
  | .ret => .ret
section
variable {P : Program} {T : Tab}
theorem load_run {ρ : Pl} {H : List Ob} {w : World} (hrel : RelF ρ (hp H) w) {ad : Addr} {pl : Place} (e1 : ρ ad.block = some pl) {ob : Ob} (hob : liveAt H ad.block = some ob) {n : Option Nat} {ty : TypeId} (ha : aggT P ty = some n) {u : Value} (hu : partL n ob.cells ad.off = some u) :
    ∃ u', (loadVar ty ⟨pl.block, pl.base + ad.off, none⟩).run P w = .ok u' w ∧ VRel ρ u u' := by
  obtain ⟨hob1, hob2⟩ := liveAt_inv hob
  obtain ⟨_, _, cs, el, fr, g1, g2, g3, g4, _⟩ := hrel.obj _ _ _ hob1 e1 hob2
  obtain ⟨b, hb, hbn, hk⟩ := run_aggT (P := P) (w := w) ha
  cases n with
  | none =>
    simp only [Option.isSome_none] at hbn; subst hbn
    obtain ⟨_, u', g5, g6⟩ := g4 ad.off u hu
    have hc : w.cell? ⟨pl.block, pl.base + ad.off, none⟩ = some u' := by rw [cell_at g1]; exact g5
    exact ⟨u', by simp [loadVar, hb, hc], g6⟩
  | some n =>
    simp only [Option.isSome_some] at hbn; subst hbn
    simp only [partL] at hu
    split at hu
    · rename_i hle
      cases hu
      refine ⟨.agg ((cs.toList.drop (pl.base + ad.off)).take n).toArray, ?_, ?_⟩
      · have := run_loadCells (P := P) (n := n) (off := pl.base + ad.off) g1 (by omega)
        simp only [loadVar, hb, run_sizeT (hk n rfl), this, Sem.run_bind, Result.andThen_ok, Sem.run_pure, Sem.run_ite, if_true]
      · refine .agg (LRel.of_get (by simp; omega) fun i u hi => ?_) fun x hx => ?_
        · simp only [List.getElem?_take, List.getElem?_drop] at hi ⊢
          split at hi
          · rename_i hlt
            obtain ⟨_, u', g5, g6⟩ := g4 _ u hi
            exact ⟨u', by rw [if_pos hlt]; simpa [Nat.add_assoc] using g5, g6⟩
          · cases hi
        · have hx' := List.mem_of_mem_drop (List.mem_of_mem_take hx)
          obtain ⟨i, hi⟩ := List.getElem?_of_mem hx'
          exact (g4 i x hi).1
    · cases hu
theorem env_get {ρ : Pl} {args args' : List Value} (h : LRel ρ args args') : ∀ (k t : Nat) (v : Value), (envOf k args).get t = some v → ∃ v', k ≤ t ∧ args'[t - k]? = some v' ∧ VRel ρ v v' := by
  induction args generalizing args' with
  | nil => intro k t v h; simp [envOf, Env.get] at h
  | cons x args ih =>
    cases h with
    | cons hx hl =>
      intro k t v hv
      simp only [envOf, Env.get] at hv
      split at hv
      · subst_vars; cases hv; exact ⟨_, Nat.le_refl _, by simp, hx⟩
      · rename_i hne
        obtain ⟨v', h1, h2, h3⟩ := ih hl (k + 1) t v hv
        refine ⟨v', by omega, ?_, h3⟩
        rw [show t - k = (t - (k + 1)) + 1 by omega]
        simpa using h2
def resOne (a : Act) (r : ResultVar) : Sem Value :=
  match r with
  | .tmp t => pure (a.tmps.getD t undef)
  | .cell a' t => do loadVar t (← asAddr (a.tmps.getD a' undef))
def resA (P : Program) (r : ResultVar) : Option (Nat × Option (Option Nat)) :=
  match r with
  | .tmp t => some (t, none)
  | .cell a t => (aggT P t).map fun n => (a, some n)
theorem results_run {ρ : Pl} {e : Env} {a : Act} {H : List Ob} {w : World} (henv : EnvRel ρ e a) (hrel : RelF ρ (hp H) w) : ∀ {rs : List ResultVar} {ars : List (Nat × Option (Option Nat))} {vs : List Value},
    rs.mapM (resA P) = some ars → resultOf e H ars = some vs → ∃ vs', (rs.mapM (resOne a)).run P w = .ok vs' w ∧ LRel ρ vs vs'
  | [], ars, vs, h, hr => by
    simp at h; subst h
    simp [resultOf] at hr; subst hr
    exact ⟨[], by simp, .nil⟩
  | r :: rs, ars, vs, h, hr => by
    rw [List.mapM_cons] at h
    simp only [bind, Option.bind_eq_some_iff, pure, Option.some.injEq] at h
    obtain ⟨ar, h1, ars', h2, rfl⟩ := h
    cases r with
    | tmp t =>
      simp only [resA, Option.some.injEq] at h1
      subst h1
      simp only [resultOf, Option.bind_eq_some_iff, Option.some.injEq] at hr
      obtain ⟨v, hv, v2, rfl, vs', hvs, rfl⟩ := hr
      obtain ⟨us, e1, e2⟩ := results_run henv hrel h2 hvs
      obtain ⟨v', e3, e4⟩ := henv t v hv
      have e5 : (resOne a (.tmp t)).run P w = .ok v' w := by simp [resOne, e3]
      refine ⟨v' :: us, ?_, .cons e4 e2⟩
      rw [List.mapM_cons]
      simp only [Sem.run_bind, Sem.run_pure, Result.andThen_ok, e1, e5]
    | cell ad ty =>
      simp only [resA, Option.map_eq_some_iff] at h1
      obtain ⟨n, hn, rfl⟩ := h1
      simp only [resultOf, Option.bind_eq_some_iff] at hr
      obtain ⟨v, hv, u, hu, vs', hvs, hr⟩ := hr
      simp only [Option.some.injEq] at hr
      subst hr
      obtain ⟨us, e1, e2⟩ := results_run henv hrel h2 hvs
      obtain ⟨v', e3, e4⟩ := henv ad v hv
      split at hu
      · rename_i a2
        simp only [Option.bind_eq_some_iff] at hu
        obtain ⟨ob, hob, hu⟩ := hu
        split at hu
        · obtain ⟨pl, e5, e6, rfl⟩ := e4.ptr_inv
          obtain ⟨u', e7, e8⟩ := load_run (P := P) hrel e5 hob hn hu
          have e9 : (resOne a (.cell ad ty)).run P w = .ok u' w := by simp [resOne, e3, asAddr, e7]
          refine ⟨u' :: us, ?_, .cons e8 e2⟩
          rw [List.mapM_cons]
          simp only [Sem.run_bind, Sem.run_pure, Result.andThen_ok, e1, e9]
        · cases hu
      · cases hu
theorem packed_rel {ρ : Pl} {vs vs' : List Value} (h : LRel ρ vs vs') : VRel ρ (packed vs) (packed vs') := by
  cases h with
  | nil => exact .tuple .nil
  | cons a b => cases b with
    | nil => exact a
    | cons c d => exact .tuple (.cons a (.cons c d))
theorem results_packed {a : Act} {w : World} {fn : Func} {vs' : List Value} (h : (fn.results.toList.mapM (resOne a)).run P w = .ok vs' w) : (results fn a.tmps).run P w = .ok (packed vs') w := by
  have h1 : results fn a.tmps = (do
    let vs ← fn.results.mapM (resOne a)
    pure (if h : vs.size = 1 then vs[0] else .tuple vs)) := by
    unfold results
    have : (fun r => match r with
      | ResultVar.tmp t => pure (a.tmps.getD t undef)
      | ResultVar.cell a' t => do loadVar t (← asAddr (a.tmps.getD a' undef)) : ResultVar → Sem Value) = resOne a := by funext r; cases r <;> rfl
    rw [← this]
    rfl
  rw [h1]
  have h2 : fn.results.mapM (resOne a) = List.toArray <$> fn.results.toList.mapM (resOne a) := by
    rw [← List.mapM_toArray]
  rw [h2]
  simp only [Sem.run_bind, Sem.run_map, h, Result.andThen_ok, Sem.run_pure]
  congr 1
  match vs' with
  | [] => rfl
  | [x] => rfl
  | x :: y :: l => simp [packed]
theorem comp_region {n : Nat} {code : Code} {l : List AOper} {prs : List (Nat × Nat)} (h : comp P n code = some (.region l none prs)) : ∃ id ops draw, code = .region id ops draw ∧ compOpers P n ops.toList ops.toList = some l ∧
    (draw = true → backEdges ops.toList = true ∧ slotsOk ops.toList (openPairs (upsOf ops.toList)) = true ∧ prs = memPairs l (openPairs (upsOf ops.toList))) := by
  cases code with
  | region id ops draw =>
    simp only [comp, Option.bind_eq_some_iff] at h
    obtain ⟨l', h1, h⟩ := h
    refine ⟨id, ops, draw, rfl, ?_⟩
    split at h
    · split at h
      · rename_i hb
        simp only [Bool.and_eq_true] at hb
        simp only [Option.some.injEq, ACode.region.injEq] at h
        obtain ⟨rfl, _, rfl⟩ := h
        exact ⟨h1, fun _ => ⟨hb.1, hb.2, rfl⟩⟩
      · cases h
    · rename_i hd
      simp only [Option.some.injEq, ACode.region.injEq] at h
      obtain ⟨rfl, _, rfl⟩ := h
      exact ⟨h1, fun hd' => absurd hd' (by simpa using hd)⟩
  | _ => simp [comp, Option.bind_eq_some_iff] at h
theorem comp_seq {n : Nat} {code : Code} {x y : ACode} (h : comp P n code = some (.seq x y)) : ∃ a b, code = .seq a b ∧ comp P n a = some x ∧ comp P n b = some y := by
  cases code with
  | seq a b =>
    simp only [comp, Option.bind_eq_some_iff, Option.map_eq_some_iff, ACode.seq.injEq] at h
    obtain ⟨x', h1, y', h2, rfl, rfl⟩ := h
    exact ⟨a, b, rfl, h1, h2⟩
  | region id ops draw => simp only [comp, Option.bind_eq_some_iff] at h; obtain ⟨_, _, h⟩ := h; split at h <;> (try split at h) <;> simp at h
  | _ => simp [comp, Option.bind_eq_some_iff] at h
theorem comp_cond {n : Nat} {code : Code} {c : Operand} {x y : ACode} (h : comp P n code = some (.cond c x y)) : ∃ a b, code = .cond c a b ∧ okConst c = true ∧ comp P n a = some x ∧ comp P n b = some y := by
  cases code with
  | cond c' a b =>
    simp only [comp] at h
    split at h
    · simp only [Option.bind_eq_some_iff, Option.map_eq_some_iff, ACode.cond.injEq] at h
      obtain ⟨x', h1, y', h2, rfl, rfl, rfl⟩ := h
      exact ⟨a, b, rfl, by assumption, h1, h2⟩
    · cases h
  | region id ops draw => simp only [comp, Option.bind_eq_some_iff] at h; obtain ⟨_, _, h⟩ := h; split at h <;> (try split at h) <;> simp at h
  | _ => simp [comp, Option.bind_eq_some_iff] at h
theorem comp_block {n id : Nat} {code : Code} {x : ACode} (h : comp P n code = some (.block id x)) : ∃ a, code = .block id a ∧ comp P n a = some x := by
  cases code with
  | block i a =>
    simp only [comp, Option.map_eq_some_iff, ACode.block.injEq] at h
    obtain ⟨x', h1, rfl, rfl⟩ := h
    exact ⟨a, rfl, h1⟩
  | region id ops draw => simp only [comp, Option.bind_eq_some_iff] at h; obtain ⟨_, _, h⟩ := h; split at h <;> (try split at h) <;> simp at h
  | cond c a b => simp only [comp] at h; split at h <;> simp [Option.bind_eq_some_iff] at h
  | _ => simp [comp, Option.bind_eq_some_iff] at h
theorem comp_loop {n : Nat} {code : Code} {x : ACode} (h : comp P n code = some (.loop x)) : ∃ a, code = .loop a ∧ comp P n a = some x := by
  cases code with
  | loop a =>
    simp only [comp, Option.map_eq_some_iff, ACode.loop.injEq] at h
    obtain ⟨x', h1, rfl⟩ := h
    exact ⟨a, rfl, h1⟩
  | region id ops draw => simp only [comp, Option.bind_eq_some_iff] at h; obtain ⟨_, _, h⟩ := h; split at h <;> (try split at h) <;> simp at h
  | cond c a b => simp only [comp] at h; split at h <;> simp [Option.bind_eq_some_iff] at h
  | _ => simp [comp, Option.bind_eq_some_iff] at h
theorem comp_leaf {n : Nat} {code : Code} {x : ACode} (hx : x = .skip ∨ x = .ret ∨ ∃ id, x = .exit id) (h : comp P n code = some x) : (x = .skip → code = .skip) ∧ (x = .ret → code = .ret) ∧ (∀ id, x = .exit id → code = .exit id) := by
  cases code with
  | region id ops draw => simp only [comp, Option.bind_eq_some_iff] at h; obtain ⟨_, _, h⟩ := h; split at h <;> (try split at h) <;> simp at h <;> subst h <;> simp at hx
  | cond c a b => simp only [comp] at h; split at h <;> simp [Option.bind_eq_some_iff] at h; obtain ⟨_, _, _, _, rfl⟩ := h; simp at hx
  | seq a b => simp [comp, Option.bind_eq_some_iff] at h; obtain ⟨_, _, _, _, rfl⟩ := h; simp at hx
  | block i a => simp [comp] at h; obtain ⟨_, _, rfl⟩ := h; simp at hx
  | loop a => simp [comp] at h; obtain ⟨_, _, rfl⟩ := h; simp at hx
  | skip => simp [comp] at h; subst h; simp
  | exit i => simp [comp] at h; subst h; simp
  | ret => simp [comp] at h; subst h; simp
  | _ => simp [comp] at h
def GoodN (P : Program) (N : Nat) (code : Code) (Q : Exit → Act → World → Prop) (a : Act) (w : World) : Prop :=
  match code with
  | .loop b => Code.rounds P b Q N a w
  | c => c.wp P Q a w
theorem GoodN.wp {N : Nat} {code : Code} {Q : Exit → Act → World → Prop} {a : Act} {w : World} (h : GoodN P N code Q a w) : code.wp P Q a w := by
  cases code with
  | loop b => exact wp_loop_rounds N h
  | _ => exact h
def CodeOk (P : Program) (c : ACode) (s : St) (x : AExit) (s' : St) : Prop := ∃ N, ∀ (n : Nat) (code : Code), comp P n code = some c.strip → ∀ (ρ : Pl) (a : Act) (w : World), EnvRel ρ s.env a → a.defers = [] → n ≤ a.tmps.size → RelF ρ (hp s.h) w → Free ρ s.h.length s'.h.length →
  ∀ Q : Exit → Act → World → Prop, (∀ a' w' ρ', CPost ρ s s' a w a' w' ρ' → Q (exitOf x) a' w') → GoodN P N code Q a w
theorem compFun_inv {fn : Func} {af : AFun} (h : compFun P fn = some af.strip) : ∃ code, fn.body = some code ∧ comp P fn.ntmps code = some af.body.strip ∧ fn.results.toList.mapM (resA P) = some af.results := by
  simp only [compFun, Option.bind_eq_some_iff, Option.map_eq_some_iff] at h
  obtain ⟨code, h1, a, h2, rs, h3, h4⟩ := h
  simp only [AFun.strip, AFun.mk.injEq] at h4
  obtain ⟨rfl, rfl⟩ := h4
  refine ⟨code, h1, h2, ?_⟩
  rw [← h3]
  congr 1
theorem cpost_refl {ρ : Pl} {s : St} {a : Act} {w : World} (h1 : EnvRel ρ s.env a) (h2 : a.defers = []) (h3 : RelF ρ (hp s.h) w) : CPost ρ s s a w a w ρ := ⟨h1, h2, rfl, .refl _ _ _, h3, .refl _ _ _ _, fun _ _ _ => rfl⟩
theorem call_sound (hT : TabOk P T) {f : FuncId} {args : List Value} {H : List Ob} {fn : AFun} (hfn : T.fn f = some fn) {x : AExit} {s' : St} (hx : ∀ id, x ≠ .exit id) (hcode : CodeOk P fn.body ⟨envOf 0 args, H, []⟩ x s') {vs : List Value}
    (hres : resultOf s'.env s'.h fn.results = some vs) : CallOk P f args H (packed vs) s'.h := by
  obtain ⟨pf, h1, h2, h3⟩ := hT.fn f fn hfn
  obtain ⟨code, h4, h5, h6⟩ := compFun_inv h2
  obtain ⟨N, hN⟩ := hcode
  intro ρ args' w hl hrel hfree o a K Q hK
  have hcf : (callFunc f args'.toArray).run P w = .ok (.enter f args'.toArray) w := by
    have h3' : ¬ (pf.name = "runtime.NumGoroutine") := by simpa using h3
    simp [callFunc, h1, h3', h4]
  rw [hcf, Oper.upon_enter]
  refine calls_of_wp h1 h4 ?_
  refine (hN pf.ntmps code h5 ρ _ w ?_ rfl ?_ hrel hfree _ fun a' w' ρ' hp => ?_).wp
  · intro t v hv
    obtain ⟨v', g1, g2, g3⟩ := env_get hl 0 t v hv
    refine ⟨v', ?_, g3⟩
    have hlt := (List.getElem?_eq_some_iff.1 g2).1
    rw [Array.getElem?_append_left (by simpa using hlt)]
    simpa using g2
  · simp; omega
  · obtain ⟨vs', g1, g2⟩ := results_run (P := P) hp.env hp.rel h6 hres
    have g3 := results_packed g1
    have hfin : bodyPost P pf (fun | .returned v, w'' => K (a.put o.dst v) w'' | .panicked chain, w'' => Q (.panic chain) a w'' | .outgrown, _ => LetsOut Q) .normal a' w' :=
      ⟨hp.defers, _, g3, hK _ _ ρ' ⟨⟨hp.ext, packed_rel g2, hp.rel, hp.frm⟩, hp.pres⟩⟩
    cases x with
    | normal => exact hfin
    | ret => exact hfin
    | exit id => exact absurd rfl (hx id)
theorem cabs_abs {H : List Ob} {e : Env} {s' : St} (h : CAbs H.length ⟨e, H, []⟩ s') : AbsOk H s'.h s'.log := by
  refine ⟨h.len, h.flags, fun id h1 h2 => h.log id h1 h1 h2, fun id hid => ?_⟩
  rcases h.ids id hid with h1 | h1
  · simp at h1
  · exact h1.1
def M1 (P : Program) (f : Nat) (args : List Value) (H : List Ob) (r : Value × List Ob × List Nat) : Prop := CallOk P f args H r.1 r.2.1 ∧ AbsOk H r.2.1 r.2.2
def M2 (P : Program) (base : Nat) (c : ACode) (s : St) (r : AExit × St) : Prop := CAbs base s r.2 ∧ CodeOk P c s r.1 r.2
def M3 (P : Program) (base : Nat) (aops : List AOper) (s : St) (recs : List Rec) (r : St × List Rec) : Prop := ∃ S R, Trace P base aops s r.1 recs r.2 S R
def M4 (P : Program) (ao : AOp) (e : Env) (H : List Ob) (r : Value × List Ob × Option (List Nat) × List Nat) : Prop := StepGood P ao e H r.1 r.2.1 r.2.2.1 r.2.2.2
theorem good_call_ref {f : FuncId} {xs : List Operand} {e : Env} {args : List Value} {H H' : List Ob} {v : Value} {M : List Nat} (hx : opds e xs = some args) (hc : CallOk P f args H v H') (ha : AbsOk H H' M) : StepGood P (.call f xs false) e H v H' none M :=
  ⟨ha, fun o ho => operOk_call ho hx hc, fun l h => (by cases h), fun l h => (by cases h), fun h => (by simp [AOp.free] at h), fun h => (by simp [AOp.quiet] at h)⟩
theorem good_callv {f : Operand} {xs : List Operand} {e : Env} {g : FuncId} {fi ca : Array Value} {args : List Value} {H H' : List Ob} {v : Value} {M : List Nat} (hf : opd e f = some (.func (.func g) fi ca)) (hx : opds e xs = some args)
    (hc : CallOk P g (fi.toList ++ args ++ ca.toList) H v H') (ha : AbsOk H H' M) : StepGood P (.callv f xs) e H v H' none M :=
  ⟨ha, fun o ho => operOk_callv ho hf hx hc, fun l h => (by cases h), fun l h => (by cases h), fun h => (by simp [AOp.free] at h), fun h => (by simp [AOp.quiet] at h)⟩
theorem good_call_val {f : FuncId} {xs : List Operand} {e : Env} {args : List Value} {H0 H : List Ob} {v : Value} (hx : opds e xs = some args) (hc : CallOk P f args [] v H0) (ha : args.all rf = true) (hv : rf v = true) : StepGood P (.call f xs true) e H v H (some []) [] :=
  ⟨.refl _ _ (by simp), fun o ho => operOk_call ho hx (callOk_byVal hc ha hv H), fun l h G hG _ => ⟨G, ⟨hG, fun id h => by
    rcases h with h | h
    · simp at h
    · rw [List.getElem?_eq_none (by omega), List.getElem?_eq_none h]⟩, .refl _ _ (by simp), fun o ho => operOk_call ho hx (callOk_byVal hc ha hv G)⟩, fun l h id hid => (by simp at hid), fun _ => ⟨rfl, rfl⟩, fun _ => rfl⟩
theorem LRel.of_all {ρ : Pl} : ∀ {l l' : List Value}, LRel ρ l l' → l.all rf = true → l' = l
  | [], _, h, _ => by cases h; rfl
  | _ :: _, _, h, ha => by
    cases h with
    | cons hx hr =>
      simp only [List.all_cons, Bool.and_eq_true] at ha
      rw [hx.of_rf ha.1, LRel.of_all hr ha.2]
theorem good_ext (hT : TabOk P T) {f : FuncId} {args : List Value} {H : List Ob} {v : Value} (hn : T.fn f = none) (he : T.ext f args = some v) (ha : args.all rf = true) : CallOk P f args H v H := by
  obtain ⟨h1, h2⟩ := hT.ext f args v hn he ha
  intro ρ args' w hl hrel hfree o a K Q hK
  have : args' = args := LRel.of_all hl ha
  subst this
  rw [h2 w]
  exact hK v w ρ ⟨⟨.refl _ _ _, h1 ρ, hrel, .refl _ _ _ _⟩, fun _ _ _ => rfl⟩
theorem eval_bool {ρ : Pl} {e : Env} {a : Act} {c : Operand} {b : Bool} (hc : okConst c = true) (henv : EnvRel ρ e a) (h : opd e c = some (.bool b)) : a.eval c = .bool b :=
  (opRel_one hc (fun t _ v hv => henv t v hv) h).bool
theorem sound (hm : P.follows .mixedOrders = true) (hT : TabOk P T) : ∀ (f : Nat) (args : List Value) (H : List Ob) (r : Value × List Ob × List Nat), evFun T f args H = some r → M1 P f args H r := by
  refine evFun.partial_correctness T (M1 P) (M2 P) (M3 P) (M4 P) ?_ ?_ ?_ ?_
  · -- a call
    intro evCode hcode f args H r hr
    split at hr
    · rename_i fn hfn
      simp only [Option.bind_eq_bind, Option.bind_eq_some_iff] at hr
      obtain ⟨⟨x, s'⟩, hx, hr⟩ := hr
      have h2 := hcode _ _ _ _ hx
      dsimp only at hr
      cases x with
      | exit id => cases hr
      | normal =>
        simp only [Option.bind_eq_some_iff, Option.some.injEq] at hr
        obtain ⟨vs, hvs, rfl⟩ := hr
        exact ⟨call_sound hT hfn (fun id h => by cases h) h2.2 hvs, cabs_abs h2.1⟩
      | ret =>
        simp only [Option.bind_eq_some_iff, Option.some.injEq] at hr
        obtain ⟨vs, hvs, rfl⟩ := hr
        exact ⟨call_sound hT hfn (fun id h => by cases h) h2.2 hvs, cabs_abs h2.1⟩
    · rename_i hfn
      split at hr
      · rename_i ha
        simp only [Option.bind_eq_some_iff, Option.some.injEq] at hr
        obtain ⟨v, hv, rfl⟩ := hr
        exact ⟨good_ext hT hfn hv ha, .refl _ _ (by simp)⟩
      · cases hr
  · -- a piece of code
    intro evCode evOps hcode hops base c s r hr
    cases c with
    | skip =>
      simp only [Option.some.injEq] at hr; subst hr
      refine ⟨.refl _ _, 0, fun n code hc ρ a w h1 h2 h3 h4 h5 Q hQ => ?_⟩
      have := (comp_leaf (.inl rfl) hc).1 rfl
      subst this
      exact wp_skip (hQ a w ρ (cpost_refl h1 h2 h4))
    | exit id =>
      simp only [Option.some.injEq] at hr; subst hr
      refine ⟨.refl _ _, 0, fun n code hc ρ a w h1 h2 h3 h4 h5 Q hQ => ?_⟩
      have := (comp_leaf (.inr (.inr ⟨id, rfl⟩)) hc).2.2 id rfl
      subst this
      exact wp_exit (hQ a w ρ (cpost_refl h1 h2 h4))
    | ret =>
      simp only [Option.some.injEq] at hr; subst hr
      refine ⟨.refl _ _, 0, fun n code hc ρ a w h1 h2 h3 h4 h5 Q hQ => ?_⟩
      have := (comp_leaf (.inr (.inl rfl)) hc).2.1 rfl
      subst this
      exact wp_ret (hQ a w ρ (cpost_refl h1 h2 h4))
    | region ops keep pairs =>
      simp only [Option.bind_eq_bind, Option.bind_eq_some_iff] at hr
      obtain ⟨⟨s1, recs⟩, h1, hr⟩ := hr
      dsimp only at hr
      split at hr
      · rename_i hpk
        simp only [Option.some.injEq] at hr; subst hr
        obtain ⟨S, R, ht⟩ := hops _ _ _ _ _ h1
        dsimp only at ht ⊢
        obtain ⟨k1, k2⟩ := after_h s1 keep
        have hcab := ht.cabs (i := 0) (j := ops.length) (Nat.zero_le _) (Nat.le_refl _)
        rw [ht.first, ht.last] at hcab
        refine ⟨⟨by rw [k1]; exact hcab.len, by rw [k1]; exact hcab.flags, by rw [k1, k2]; exact hcab.log, by rw [k2]; exact hcab.sub, by rw [k1, k2]; exact hcab.ids⟩, 0, fun n code hc ρ a w e1 e2 e3 e4 e5 Q hQ => ?_⟩
        obtain ⟨id, cops, draw, rfl, hcp, hdr⟩ := comp_region hc
        rw [k1] at e5
        have hQ' : ∀ a' w' ρ', CPost ρ s s1 a w a' w' ρ' → Q .normal a' w' := fun a' w' ρ' hp => hQ a' w' ρ' ⟨hp.env.after keep, hp.defers, hp.size, by rw [k1]; exact hp.ext, by rw [k1]; exact hp.rel, by rw [k1]; exact hp.frm, by rw [k1]; exact hp.pres⟩
        show (Code.region id cops draw).wp P Q a w
        cases draw with
        | false =>
          refine wp_region ?_
          have hl := (compOpers_get hcp).1
          have : List.range cops.size = List.range' 0 ops.length := by rw [List.range_eq_range']; congr 1; simpa using hl.symm
          rw [this]
          refine seq_ok hcp ht ops.length 0 (by omega) ρ a w (by rw [ht.first]; exact e1) e2 e3 (by rw [ht.first]; exact e4) (by rw [ht.first]; exact e5) fun a' w' ρ' hp => hQ' a' w' ρ' (by rw [ht.first] at hp; exact hp)
        | true =>
          obtain ⟨d1, d2, d3⟩ := hdr rfl
          subst d3
          exact draw_ok hcp ht d2 hpk hm d1 e1 e2 e3 e4 e5 hQ'
      · cases hr
    | seq x y =>
      simp only [Option.bind_eq_bind, Option.bind_eq_some_iff] at hr
      obtain ⟨⟨ex, s1⟩, h1, hr⟩ := hr
      obtain ⟨ca1, N1, hN1⟩ := hcode _ _ _ _ h1
      dsimp only at hr ca1 hN1
      cases ex with
      | normal =>
        obtain ⟨ca2, N2, hN2⟩ := hcode _ _ _ _ hr
        refine ⟨ca1.trans ca2, 0, fun n code hc ρ a w e1 e2 e3 e4 e5 Q hQ => ?_⟩
        obtain ⟨p, q, rfl, hp1, hq1⟩ := comp_seq hc
        refine wp_seq (hN1 n p hp1 ρ a w e1 e2 e3 e4 (fun id i1 i2 => e5 id i1 (Nat.lt_of_lt_of_le i2 ca2.len)) _ fun a1 w1 ρ1 hp => ?_).wp
        show q.wp P Q a1 w1
        exact (hN2 n q hq1 ρ1 a1 w1 hp.env hp.defers (by rw [hp.size]; exact e3) hp.rel (e5.later hp.ext ca1.len) Q fun a2 w2 ρ2 hp2 => hQ a2 w2 ρ2 (hp.trans hp2 ca1 ca2 e5)).wp
      | exit id =>
        simp only [Option.some.injEq] at hr; subst hr
        refine ⟨ca1, 0, fun n code hc ρ a w e1 e2 e3 e4 e5 Q hQ => ?_⟩
        obtain ⟨p, q, rfl, hp1, hq1⟩ := comp_seq hc
        refine wp_seq (hN1 n p hp1 ρ a w e1 e2 e3 e4 e5 _ fun a1 w1 ρ1 hp => ?_).wp
        exact hQ a1 w1 ρ1 hp
      | ret =>
        simp only [Option.some.injEq] at hr; subst hr
        refine ⟨ca1, 0, fun n code hc ρ a w e1 e2 e3 e4 e5 Q hQ => ?_⟩
        obtain ⟨p, q, rfl, hp1, hq1⟩ := comp_seq hc
        refine wp_seq (hN1 n p hp1 ρ a w e1 e2 e3 e4 e5 _ fun a1 w1 ρ1 hp => ?_).wp
        exact hQ a1 w1 ρ1 hp
    | cond c x y =>
      dsimp only at hr
      split at hr
      · rename_i hb
        obtain ⟨ca1, N1, hN1⟩ := hcode _ _ _ _ hr
        refine ⟨ca1, 0, fun n code hc ρ a w e1 e2 e3 e4 e5 Q hQ => ?_⟩
        obtain ⟨p, q, rfl, hok, hp1, hq1⟩ := comp_cond hc
        exact wp_cond_true (eval_bool hok e1 hb) (hN1 n p hp1 ρ a w e1 e2 e3 e4 e5 Q hQ).wp
      · rename_i hb
        obtain ⟨ca1, N1, hN1⟩ := hcode _ _ _ _ hr
        refine ⟨ca1, 0, fun n code hc ρ a w e1 e2 e3 e4 e5 Q hQ => ?_⟩
        obtain ⟨p, q, rfl, hok, hp1, hq1⟩ := comp_cond hc
        exact wp_cond_false (eval_bool hok e1 hb) (hN1 n q hq1 ρ a w e1 e2 e3 e4 e5 Q hQ).wp
      · cases hr
    | block id x =>
      simp only [Option.bind_eq_bind, Option.bind_eq_some_iff] at hr
      obtain ⟨⟨ex, s1⟩, h1, hr⟩ := hr
      obtain ⟨ca1, N1, hN1⟩ := hcode _ _ _ _ h1
      dsimp only at hr ca1 hN1
      cases ex with
      | normal =>
        simp only [Option.some.injEq] at hr; subst hr
        refine ⟨ca1, 0, fun n code hc ρ a w e1 e2 e3 e4 e5 Q hQ => ?_⟩
        obtain ⟨p, rfl, hp1⟩ := comp_block hc
        refine wp_block (hN1 n p hp1 ρ a w e1 e2 e3 e4 e5 _ fun a1 w1 ρ1 hp => ?_).wp
        exact hQ a1 w1 ρ1 hp
      | ret =>
        simp only [Option.some.injEq] at hr; subst hr
        refine ⟨ca1, 0, fun n code hc ρ a w e1 e2 e3 e4 e5 Q hQ => ?_⟩
        obtain ⟨p, rfl, hp1⟩ := comp_block hc
        refine wp_block (hN1 n p hp1 ρ a w e1 e2 e3 e4 e5 _ fun a1 w1 ρ1 hp => ?_).wp
        exact hQ a1 w1 ρ1 hp
      | exit i =>
        dsimp only at hr
        split at hr
        · rename_i hid
          simp only [Option.some.injEq] at hr; subst hr
          refine ⟨ca1, 0, fun n code hc ρ a w e1 e2 e3 e4 e5 Q hQ => ?_⟩
          obtain ⟨p, rfl, hp1⟩ := comp_block hc
          refine wp_block (hN1 n p hp1 ρ a w e1 e2 e3 e4 e5 _ fun a1 w1 ρ1 hp => ?_).wp
          show Exit.inBlock id Q (.exit i) a1 w1
          simp only [Exit.inBlock, if_pos hid]
          exact hQ a1 w1 ρ1 hp
        · rename_i hid
          simp only [Option.some.injEq] at hr; subst hr
          refine ⟨ca1, 0, fun n code hc ρ a w e1 e2 e3 e4 e5 Q hQ => ?_⟩
          obtain ⟨p, rfl, hp1⟩ := comp_block hc
          refine wp_block (hN1 n p hp1 ρ a w e1 e2 e3 e4 e5 _ fun a1 w1 ρ1 hp => ?_).wp
          show Exit.inBlock id Q (.exit i) a1 w1
          simp only [Exit.inBlock, if_neg hid]
          exact hQ a1 w1 ρ1 hp
    | loop x =>
      simp only [Option.bind_eq_bind, Option.bind_eq_some_iff] at hr
      obtain ⟨⟨ex, s1⟩, h1, hr⟩ := hr
      obtain ⟨ca1, N1, hN1⟩ := hcode _ _ _ _ h1
      dsimp only at hr ca1 hN1
      cases ex with
      | normal =>
        obtain ⟨ca2, N2, hN2⟩ := hcode _ _ _ _ hr
        refine ⟨ca1.trans ca2, N2 + 1, fun n code hc ρ a w e1 e2 e3 e4 e5 Q hQ => ?_⟩
        obtain ⟨p, rfl, hp1⟩ := comp_loop hc
        show Code.rounds P p Q (N2 + 1) a w
        rw [rounds_succ]
        refine (hN1 n p hp1 ρ a w e1 e2 e3 e4 (fun id i1 i2 => e5 id i1 (Nat.lt_of_lt_of_le i2 ca2.len)) _ fun a1 w1 ρ1 hp => ?_).wp
        show Code.rounds P p Q N2 a1 w1
        exact hN2 n (.loop p) hc ρ1 a1 w1 hp.env hp.defers (by rw [hp.size]; exact e3) hp.rel (e5.later hp.ext ca1.len) Q fun a2 w2 ρ2 hp2 => hQ a2 w2 ρ2 (hp.trans hp2 ca1 ca2 e5)
      | exit id =>
        simp only [Option.some.injEq] at hr; subst hr
        refine ⟨ca1, 1, fun n code hc ρ a w e1 e2 e3 e4 e5 Q hQ => ?_⟩
        obtain ⟨p, rfl, hp1⟩ := comp_loop hc
        show Code.rounds P p Q (0 + 1) a w
        rw [rounds_succ]
        refine (hN1 n p hp1 ρ a w e1 e2 e3 e4 e5 _ fun a1 w1 ρ1 hp => ?_).wp
        exact hQ a1 w1 ρ1 hp
      | ret =>
        simp only [Option.some.injEq] at hr; subst hr
        refine ⟨ca1, 1, fun n code hc ρ a w e1 e2 e3 e4 e5 Q hQ => ?_⟩
        obtain ⟨p, rfl, hp1⟩ := comp_loop hc
        show Code.rounds P p Q (0 + 1) a w
        rw [rounds_succ]
        refine (hN1 n p hp1 ρ a w e1 e2 e3 e4 e5 _ fun a1 w1 ρ1 hp => ?_).wp
        exact hQ a1 w1 ρ1 hp
  · -- operations
    intro evOps evOper hops hoper base aops s recs r hr
    cases aops with
    | nil => simp only [Option.some.injEq] at hr; subst hr; exact ⟨_, _, .nil⟩
    | cons ao aops =>
      dsimp only at hr
      split at hr
      · rename_i hg
        simp only [Option.bind_eq_bind, Option.bind_eq_some_iff] at hr
        obtain ⟨⟨v, H', t, M⟩, h1, hr⟩ := hr
        obtain ⟨S, R, ht⟩ := hops _ _ _ _ _ hr
        exact ⟨_, _, Trace.cons (.inl ⟨hg, v, H', t, M, hoper _ _ _ _ h1, rfl, rfl⟩) ht⟩
      · rename_i hg
        obtain ⟨S, R, ht⟩ := hops _ _ _ _ _ hr
        exact ⟨_, _, Trace.cons (.inr ⟨hg, rfl, rfl⟩) ht⟩
      · cases hr
  · -- one operation
    intro evFun hfun ao e H r hr
    cases ao with
    | call f xs b =>
      dsimp only at hr
      cases b with
      | true =>
        simp only [if_true] at hr
        split at hr
        · rename_i args hx
          split at hr
          · rename_i ha
            simp only [Option.bind_eq_bind, Option.bind_eq_some_iff] at hr
            obtain ⟨⟨v, H', M⟩, h1, hr⟩ := hr
            dsimp only at hr
            split at hr
            · rename_i hv
              simp only [Option.some.injEq] at hr; subst hr
              exact good_call_val hx (hfun _ _ _ _ h1).1 ha hv
            · cases hr
          · cases hr
        · cases hr
      | false =>
        simp only [Bool.false_eq_true, if_false] at hr
        split at hr
        · rename_i args hx
          simp only [Option.bind_eq_bind, Option.bind_eq_some_iff, Option.some.injEq] at hr
          obtain ⟨⟨v, H', M⟩, h1, rfl⟩ := hr
          exact good_call_ref hx (hfun _ _ _ _ h1).1 (hfun _ _ _ _ h1).2
        · cases hr
    | callv f xs =>
      dsimp only at hr
      split at hr
      · rename_i g fi ca args hf hx
        simp only [Option.bind_eq_bind, Option.bind_eq_some_iff, Option.some.injEq] at hr
        obtain ⟨⟨v, H', M⟩, h1, rfl⟩ := hr
        exact good_callv hf hx (hfun _ _ _ _ h1).1 (hfun _ _ _ _ h1).2
      · cases hr
    | _ => exact simple_good rfl hr
end
end Go.Ev
set_option linter.unusedSimpArgs false
set_option linter.unusedVariables false
namespace Go.Ev
open Go.RowKit Go.WideShapes Go.ChangeShapes
section
variable {P : Program} {T : Tab}
theorem VRel.refl_in {ρ : Pl} {v : Value} (h : rfIn v = true) : VRel ρ v v := by
  rcases rfIn_cases h with h1 | ⟨cs, rfl⟩
  · exact .same h1
  · have h2 : cs.toList.all scalarRf = true := h
    exact VRel.agg (l := cs.toList) (l' := cs.toList) (LRel.same h2) fun v hv => scalarRf_oneCell (List.all_eq_true.1 h2 v hv)
theorem LRel.refl_in {ρ : Pl} : ∀ {l : List Value}, l.all rfIn = true → LRel ρ l l
  | [], _ => .nil
  | _ :: _, h => by
    simp only [List.all_cons, Bool.and_eq_true] at h
    exact .cons (VRel.refl_in h.1) (LRel.refl_in h.2)
theorem calls_value (hm : P.follows .mixedOrders = true) (hT : TabOk P T) {f : Nat} {args : List Value} {v : Value} {H' : List Ob} {M : List Nat} (h : evFun T f args [] = some (v, H', M)) (hn : T.fn f ≠ none) (ha : args.all rfIn = true) (hv : rf v = true) (w : World) :
    Calls P f args.toArray w fun e w' => e = .returned v ∧ Below w.heap.size w w' := by
  have h1 := (sound hm hT f args [] _ h).1
  have h2 := h1 (fun _ => none) args w (LRel.refl_in ha) (rel_empty w) (fun _ _ _ => rfl) { (default : Oper) with dst := some 0 } { tmps := #[undef], defers := [] }
    (fun a w' => ∃ v', a.tmps = #[v'] ∧ v' = v ∧ Below w.heap.size w w') (fun _ _ _ => False) fun v' w' ρ' hp => ⟨v', by simp [Act.put], hp.val.of_rf hv, ⟨hp.frm.os, hp.frm.tape, hp.frm.output, hp.frm.size, fun k hk => hp.frm.blocks k hk fun id ob pl hc => by simp [hp] at hc⟩⟩
  obtain ⟨af, haf⟩ := Option.ne_none_iff_exists'.1 hn
  obtain ⟨pf, g1, g2, g3⟩ := hT.fn f af haf
  obtain ⟨code, g4, g5, g6⟩ := compFun_inv g2
  have hcf : (callFunc f args.toArray).run P w = .ok (.enter f args.toArray) w := by
    have g3' : ¬ (pf.name = "runtime.NumGoroutine") := by simpa using g3
    simp [callFunc, g1, g3', g4]
  rw [hcf, Oper.upon_enter] at h2
  refine h2.mono fun e w' he => ?_
  cases e with
  | returned v1 =>
    obtain ⟨v', k1, k2, k3⟩ := he
    have : v1 = v' := by simpa [Act.put] using k1
    exact ⟨by rw [this, k2], k3⟩
  | panicked c => exact he.elim
  | outgrown => obtain ⟨_, _, hx⟩ := he; exact hx.elim
open Go.RowKit Go.WideShapes Go.ChangeShapes in
theorem post_of_below {H : Type} {enc : TypeId × Value → H} {f : Func} {s : ChangeSpec} {apart fresh handsOn again : Bool} {W W' : World} {args : Array Value} {v : Value} {ds gs : List (DataW H)} {before pa pv : List MemPlace}
    (hW : DataW.Whole enc P f.params.toList s.vars apart W args.toList ds gs before)
    (hres : ∀ (b : Nat) (sp : Nat → Bool) (hd : Bool), DataW.TrodAll enc P W' b sp hd f.resultTypes.toList (v.resultList f.resultTypes.size) (s.fn H (ds ++ gs)).results [])
    (hargs : ∀ sp : Nat → Bool, (∀ p ∈ before, sp p.block = true) → DataW.TrodAll enc P W' 0 sp true f.params.toList args.toList (s.fn H (ds ++ gs)).args pa)
    (hvars : ∀ sp : Nat → Bool, (∀ p ∈ before, sp p.block = true) → DataW.TrodVars enc P W' sp s.vars (s.fn H (ds ++ gs)).vars pv)
    (hps : before = pa ++ pv) (hb : Below W.heap.size W W')
    (hok : ∀ (j : Nat) (t : TypeId) (r : Value), f.resultTypes[j]? = some t → (v.resultList f.resultTypes.size)[j]? = some r → Value.okWide P W' .any 0 t r) :
    s.post enc P f apart fresh handsOn again W args v W' := by
  have hlt : ∀ p ∈ before, p.block < W.heap.size := fun p hp => hW.lt p hp
  have hold : ∀ p ∈ before, (fun b => decide (b < W.heap.size)) p.block = true := fun p hp => by simpa using hlt p hp
  refine ⟨ds, gs, before, [], pa, pv, hW, hres _ _ _, hargs _ hold, hvars _ hold, World.keptBut_mono (fun p hp => ⟨hp, ?_⟩) (hb.frame (· ∈ before)), fun _ => ?_⟩
  · rw [hps, List.mem_append] at hp
    exact Or.inr hp
  · obtain ⟨_, _, _, _, _, hz, hn⟩ := hW
    refine ⟨hok, _, _, ([] ++ pa) ++ pv, ⟨[] ++ pa, pv, trodAll_append (hargs _ (fun _ _ => rfl)) (hres _ _ _), hvars _ (fun _ _ => rfl), rfl, ?_, ?_⟩, ?_⟩
    · intro b off hp
      have hin : MemPlace.cell b off ∈ before := by rw [hps]; simpa using hp
      rw [hb.frozen (hlt _ hin)]
      exact hz b off hin
    · intro ha
      have := hn ha
      rw [hps] at this
      simpa using this
    · intro p hp _
      rw [hps]
      simpa using hp
end
end Go.Ev
set_option linter.unusedSimpArgs false
set_option linter.unusedVariables false
namespace Go.Ev
section
variable {T : Tab}
def AOp.noCall : AOp → Bool
  | .call .. | .callv .. => false
  | _ => true
theorem evOper_simple {o : AOp} {e : Env} {H : List Ob} (h : o.noCall = true) : evOper T o e H = simpleOp H e o := by
  rw [evOper.eq_def]
  cases o <;> first | rfl | (simp [AOp.noCall] at h)
theorem evOper_move {e : Env} {H : List Ob} {x : Operand} : evOper T (.move x) e H = simpleOp H e (.move x) := evOper_simple rfl
theorem evOper_pick {e : Env} {H : List Ob} {c a b : Operand} : evOper T (.pick c a b) e H = simpleOp H e (.pick c a b) := evOper_simple rfl
theorem evOper_alloc {e : Env} {H : List Ob} {zero : List Value} : evOper T (.alloc zero) e H = simpleOp H e (.alloc zero) := evOper_simple rfl
theorem evOper_box {e : Env} {H : List Ob} {x : Operand} : evOper T (.box x) e H = simpleOp H e (.box x) := evOper_simple rfl
theorem evOper_load {e : Env} {H : List Ob} {n : Option Nat} {a : Operand} : evOper T (.load n a) e H = simpleOp H e (.load n a) := evOper_simple rfl
theorem evOper_store {e : Env} {H : List Ob} {n : Nat} {a v : Operand} : evOper T (.store n a v) e H = simpleOp H e (.store n a v) := evOper_simple rfl
theorem evOper_bin {e : Env} {H : List Ob} {op : BinOp} {x y : Operand} : evOper T (.bin op x y) e H = simpleOp H e (.bin op x y) := evOper_simple rfl
theorem evOper_eqv {e : Env} {H : List Ob} {ks : Option (List Bool)} {neg : Bool} {x y : Operand} : evOper T (.eqv ks neg x y) e H = simpleOp H e (.eqv ks neg x y) := evOper_simple rfl
theorem evOper_isNil {e : Env} {H : List Ob} {k : Nat} {neg : Bool} {x : Operand} : evOper T (.isNil k neg x) e H = simpleOp H e (.isNil k neg x) := evOper_simple rfl
theorem evOper_un {e : Env} {H : List Ob} {op : UnOp} {x : Operand} : evOper T (.un op x) e H = simpleOp H e (.un op x) := evOper_simple rfl
theorem evOper_conv {e : Env} {H : List Ob} {k : IntKind} {x : Operand} : evOper T (.conv k x) e H = simpleOp H e (.conv k x) := evOper_simple rfl
theorem evOper_convStr {e : Env} {H : List Ob} {x : Operand} : evOper T (.convStr x) e H = simpleOp H e (.convStr x) := evOper_simple rfl
theorem evOper_s2b {e : Env} {H : List Ob} {x : Operand} : evOper T (.s2b x) e H = simpleOp H e (.s2b x) := evOper_simple rfl
theorem evOper_b2s {e : Env} {H : List Ob} {x : Operand} : evOper T (.b2s x) e H = simpleOp H e (.b2s x) := evOper_simple rfl
theorem evOper_field {e : Env} {H : List Ob} {n : Option Nat} {off : Nat} {x : Operand} : evOper T (.field n off x) e H = simpleOp H e (.field n off x) := evOper_simple rfl
theorem evOper_index {e : Env} {H : List Ob} {n : Option Nat} {len es : Nat} {x i : Operand} : evOper T (.index n len es x i) e H = simpleOp H e (.index n len es x i) := evOper_simple rfl
theorem evOper_indexStr {e : Env} {H : List Ob} {x i : Operand} : evOper T (.indexStr x i) e H = simpleOp H e (.indexStr x i) := evOper_simple rfl
theorem evOper_build {e : Env} {H : List Ob} {zero : List Value} {parts : List (Nat × Nat × Operand)} : evOper T (.build zero parts) e H = simpleOp H e (.build zero parts) := evOper_simple rfl
theorem evOper_buildSlice {e : Env} {H : List Ob} {cells : List Value} {len : Nat} {parts : List (Nat × Nat × Operand)} : evOper T (.buildSlice cells len parts) e H = simpleOp H e (.buildSlice cells len parts) := evOper_simple rfl
theorem evOper_fieldAddr {e : Env} {H : List Ob} {off : Nat} {x : Operand} : evOper T (.fieldAddr off x) e H = simpleOp H e (.fieldAddr off x) := evOper_simple rfl
theorem evOper_indexAddr {e : Env} {H : List Ob} {len es : Nat} {x i : Operand} : evOper T (.indexAddr len es x i) e H = simpleOp H e (.indexAddr len es x i) := evOper_simple rfl
theorem evOper_indexSl {e : Env} {H : List Ob} {es : Nat} {x i : Operand} : evOper T (.indexSl es x i) e H = simpleOp H e (.indexSl es x i) := evOper_simple rfl
theorem evOper_sliceArr {e : Env} {H : List Ob} {n es : Nat} {x : Operand} {lo hi mx : Option Operand} : evOper T (.sliceArr n es x lo hi mx) e H = simpleOp H e (.sliceArr n es x lo hi mx) := evOper_simple rfl
theorem evOper_sliceSl {e : Env} {H : List Ob} {es : Nat} {x : Operand} {lo hi mx : Option Operand} : evOper T (.sliceSl es x lo hi mx) e H = simpleOp H e (.sliceSl es x lo hi mx) := evOper_simple rfl
theorem evOper_sliceStr {e : Env} {H : List Ob} {x : Operand} {lo hi : Option Operand} : evOper T (.sliceStr x lo hi) e H = simpleOp H e (.sliceStr x lo hi) := evOper_simple rfl
theorem evOper_makeSlice {e : Env} {H : List Ob} {zero : List Value} {bytes : Nat} {l c : Operand} : evOper T (.makeSlice zero bytes l c) e H = simpleOp H e (.makeSlice zero bytes l c) := evOper_simple rfl
theorem evOper_extract {e : Env} {H : List Ob} {x : Operand} {i : Nat} : evOper T (.extract x i) e H = simpleOp H e (.extract x i) := evOper_simple rfl
theorem evOper_mkIface {e : Env} {H : List Ob} {t : TypeId} {x : Operand} : evOper T (.mkIface t x) e H = simpleOp H e (.mkIface t x) := evOper_simple rfl
theorem evOper_mkFunc {e : Env} {H : List Ob} {fn : Fn} {first captured : List Operand} : evOper T (.mkFunc fn first captured) e H = simpleOp H e (.mkFunc fn first captured) := evOper_simple rfl
theorem evOper_nilCheck {e : Env} {H : List Ob} {x : Operand} : evOper T (.nilCheck x) e H = simpleOp H e (.nilCheck x) := evOper_simple rfl
theorem evOper_s2ap {e : Env} {H : List Ob} {n : Nat} {x : Operand} : evOper T (.s2ap n x) e H = simpleOp H e (.s2ap n x) := evOper_simple rfl
theorem evOper_append {e : Env} {H : List Ob} {es bytes : Nat} {s x : Operand} : evOper T (.append es bytes s x) e H = simpleOp H e (.append es bytes s x) := evOper_simple rfl
theorem evOper_copy {e : Env} {H : List Ob} {es : Nat} {d s : Operand} : evOper T (.copy es d s) e H = simpleOp H e (.copy es d s) := evOper_simple rfl
theorem evOper_len {e : Env} {H : List Ob} {str : Bool} {x : Operand} : evOper T (.len str x) e H = simpleOp H e (.len str x) := evOper_simple rfl
theorem evOper_minmax {e : Env} {H : List Ob} {max : Bool} {x y : Operand} : evOper T (.minmax max x y) e H = simpleOp H e (.minmax max x y) := evOper_simple rfl
theorem evOper_call {e : Env} {H : List Ob} {f : FuncId} {xs : List Operand} : evOper T (.call f xs false) e H = (opds e xs).bind fun args => (evFun T f args H).bind fun r => some (r.1, r.2.1, none, r.2.2) := by
  rw [evOper.eq_def]; dsimp only; cases opds e xs <;> rfl
theorem evOper_callVal {e : Env} {H : List Ob} {f : FuncId} {xs : List Operand} : evOper T (.call f xs true) e H = (opds e xs).bind fun args => if args.all rf then (evFun T f args []).bind fun r => if rf r.1 then some (r.1, H, some [], []) else none else none := by
  rw [evOper.eq_def]; dsimp only; cases opds e xs <;> rfl
theorem evCode_skip {base : Nat} {s : St} : evCode T base .skip s = some (.normal, s) := by rw [evCode.eq_def]
theorem evCode_exit {base id : Nat} {s : St} : evCode T base (.exit id) s = some (.exit id, s) := by rw [evCode.eq_def]
theorem evCode_ret {base : Nat} {s : St} : evCode T base .ret s = some (.ret, s) := by rw [evCode.eq_def]
theorem evCode_region {base : Nat} {ops : List AOper} {keep : Option (List Nat)} {pairs : List (Nat × Nat)} {s : St} : evCode T base (.region ops keep pairs) s =
    (evOps T base ops s []).bind fun r => if pairsOk r.2 pairs then some (.normal, r.1.after keep) else none := by rw [evCode.eq_def]; rfl
theorem evCode_seq {base : Nat} {a b : ACode} {s : St} : evCode T base (.seq a b) s = (evCode T base a s).bind fun r => match r.1 with
    | .normal => evCode T base b r.2
    | x => some (x, r.2) := by rw [evCode.eq_def]; rfl
theorem evCode_cond {base : Nat} {c : Operand} {a b : ACode} {s : St} : evCode T base (.cond c a b) s = match opd s.env c with
    | some (.bool true) => evCode T base a s
    | some (.bool false) => evCode T base b s
    | _ => none := by rw [evCode.eq_def]; rfl
theorem evCode_block {base id : Nat} {b : ACode} {s : St} : evCode T base (.block id b) s = (evCode T base b s).bind fun r => match r.1 with
    | .exit i => if i = id then some (.normal, r.2) else some (.exit i, r.2)
    | x => some (x, r.2) := by rw [evCode.eq_def]; rfl
theorem evCode_loop {base : Nat} {b : ACode} {s : St} : evCode T base (.loop b) s = (evCode T base b s).bind fun r => match r.1 with
    | .normal => evCode T base (.loop b) r.2
    | x => some (x, r.2) := by rw [evCode.eq_def]; rfl
theorem evOps_nil {base : Nat} {s : St} {recs : List Rec} : evOps T base [] s recs = some (s, recs) := by rw [evOps.eq_def]
theorem evOps_cons {base : Nat} {o : AOper} {r : List AOper} {s : St} {recs : List Rec} : evOps T base (o :: r) s recs = match guardOf s.env o.guard with
      | some true => (evOper T o.op s.env s.h).bind fun x => evOps T base r ⟨s.env.put o.dst x.1, x.2.1, inMerge base s.log x.2.2.2⟩ (recs ++ [(x.2.2.1, x.2.2.2)])
      | some false => evOps T base r ⟨s.env.put o.dst undef, s.h, s.log⟩ (recs ++ [(some [], [])])
      | none => none := by rw [evOps.eq_def]; rfl
end
theorem bind_congr1 {α β : Type} {x y : Option α} (f : α → Option β) (h : x = y) : x.bind f = y.bind f := by rw [h]
abbrev FunE := Nat → List Value → List Ob → Option (Value × List Ob × List Nat)
section
variable {T : Tab} {F : FunE}
theorem evFun_fn {f : Nat} {args : List Value} {H : List Ob} {fn : AFun} (hfn : T.fn f = some fn) : evFun T f args H = (evCode T H.length fn.body ⟨envOf 0 args, H, []⟩).bind fun xs => match xs.1 with
      | .exit _ => none
      | _ => (resultOf xs.2.env xs.2.h fn.results).bind fun vs => some (packed vs, xs.2.h, xs.2.log) := by
  rw [evFun.eq_def, hfn]; rfl
end
end Go.Ev
set_option linter.unusedSimpArgs false
set_option linter.unusedVariables false
set_option maxRecDepth 100000
namespace Go.Ev.Ytaceeoghjgggjaa
open Go Go.Ev
def a11 : AFun := ⟨(.seq (.region [(AOper.mk (some 2) (.box (.tmp 0)) none), (AOper.mk (some 3) (.box (.tmp 1)) none), (AOper.mk (some 4) (.move (.const (.bool false))) none)] (some [2, 3]) []) (.seq (.seq (.region [(AOper.mk (some 13) (.call 24 [] true) none), (AOper.mk (some 14) (.un .not (.tmp 13)) none)] (some [2, 3, 14]) []) (.cond (.tmp 14) (.seq (.region [(AOper.mk (some 4) (.move (.const (.bool false))) none)] (some [4]) []) .ret) .skip)) (.seq (.region [(AOper.mk (some 16) (.load (some 32) (.tmp 2)) none), (AOper.mk (some 17) (.call 31 [(.tmp 16)] true) none), (AOper.mk (some 15) (.move (.tmp 17)) none), (AOper.mk (some 18) (.extract (.tmp 15) 0) none), (AOper.mk (some 19) (.extract (.tmp 15) 1) none), (AOper.mk (some 5) (.alloc (List.replicate 20 (.int .u64 0))) none), (AOper.mk none (.store 20 (.tmp 5) (.tmp 18)) none), (AOper.mk (some 6) (.move (.tmp 19)) none)] (some [2, 3, 5, 6]) []) (.seq (.region [(AOper.mk (some 21) (.load (some 32) (.tmp 3)) none), (AOper.mk (some 22) (.call 31 [(.tmp 21)] true) none), (AOper.mk (some 20) (.move (.tmp 22)) none), (AOper.mk (some 23) (.extract (.tmp 20) 0) none), (AOper.mk (some 24) (.extract (.tmp 20) 1) none), (AOper.mk (some 7) (.alloc (List.replicate 20 (.int .u64 0))) none), (AOper.mk none (.store 20 (.tmp 7) (.tmp 23)) none), (AOper.mk (some 8) (.move (.tmp 24)) none)] (some [2, 3, 5, 6, 7, 8]) []) (.seq (.seq (.region [(AOper.mk (some 25) (.move (.tmp 6)) none), (AOper.mk (some 26) (.bin .neq (.tmp 25) (.const (.int .i64 0))) none), (AOper.mk (some 27) (.move (.tmp 26)) none), (AOper.mk (some 28) (.move (.tmp 8)) (some (27, false))), (AOper.mk (some 29) (.bin .neq (.tmp 28) (.const (.int .i64 0))) (some (27, false))), (AOper.mk (some 30) (.pick (.tmp 27) (.const (.bool true)) (.tmp 29)) none)] (some [2, 3, 5, 7, 30]) []) (.cond (.tmp 30) (.seq (.region [(AOper.mk (some 4) (.move (.const (.bool true))) none)] (some [4]) []) .ret) .skip)) (.seq (.region [(AOper.mk (some 32) (.load (some 32) (.tmp 2)) none), (AOper.mk (some 33) (.call 32 [(.tmp 32)] true) none), (AOper.mk (some 31) (.move (.tmp 33)) none), (AOper.mk (some 34) (.extract (.tmp 31) 0) none), (AOper.mk (some 35) (.extract (.tmp 31) 1) none), (AOper.mk (some 9) (.alloc (List.replicate 48 (.int .u64 0))) none), (AOper.mk none (.store 48 (.tmp 9) (.tmp 34)) none), (AOper.mk (some 10) (.move (.tmp 35)) none)] (some [3, 5, 7, 9]) []) (.seq (.region [(AOper.mk (some 37) (.load (some 32) (.tmp 3)) none), (AOper.mk (some 38) (.call 32 [(.tmp 37)] true) none), (AOper.mk (some 36) (.move (.tmp 38)) none), (AOper.mk (some 39) (.extract (.tmp 36) 0) none), (AOper.mk (some 40) (.extract (.tmp 36) 1) none), (AOper.mk (some 11) (.alloc (List.replicate 48 (.int .u64 0))) none), (AOper.mk none (.store 48 (.tmp 11) (.tmp 39)) none), (AOper.mk (some 12) (.move (.tmp 40)) none)] (some [5, 7, 9, 11]) []) (.seq (.region [(AOper.mk (some 41) (.load (some 20) (.tmp 5)) none), (AOper.mk (some 42) (.load (some 20) (.tmp 7)) none), (AOper.mk (some 43) (.buildSlice (List.replicate 40 (.int .u64 0)) 2 [(0, (20, (.tmp 41))), (20, (20, (.tmp 42)))]) none), (AOper.mk (some 44) (.call 27 [(.tmp 43)] false) none), (AOper.mk (some 45) (.call 29 [(.tmp 44)] true) none), (AOper.mk (some 46) (.load (some 48) (.tmp 9)) none), (AOper.mk (some 47) (.load (some 48) (.tmp 11)) none), (AOper.mk (some 48) (.call 36 [] true) none), (AOper.mk (some 49) (.call 35 [(.tmp 46), (.tmp 47), (.tmp 48)] true) none), (AOper.mk (some 50) (.call 33 [(.tmp 49)] true) none), (AOper.mk (some 51) (.eqv (some (List.replicate 32 true)) false (.tmp 45) (.tmp 50)) none), (AOper.mk (some 52) (.move (.tmp 51)) none), (AOper.mk (some 53) (.load (some 20) (.tmp 5)) (some (52, true))), (AOper.mk (some 54) (.load (some 20) (.tmp 7)) (some (52, true))), (AOper.mk (some 55) (.load (some 20) (.tmp 7)) (some (52, true))), (AOper.mk (some 56) (.call 34 [(.tmp 55)] true) (some (52, true))), (AOper.mk (some 57) (.buildSlice (List.replicate 60 (.int .u64 0)) 3 [(0, (20, (.tmp 53))), (20, (20, (.tmp 54))), (40, (20, (.tmp 56)))]) (some (52, true))), (AOper.mk (some 58) (.call 27 [(.tmp 57)] false) (some (52, true))), (AOper.mk (some 59) (.load (some 20) (.tmp 5)) (some (52, true))), (AOper.mk (some 60) (.call 28 [(.tmp 58), (.tmp 59)] true) (some (52, true))), (AOper.mk (some 61) (.pick (.tmp 52) (.tmp 60) (.const (.bool false))) none), (AOper.mk (some 62) (.move (.tmp 61)) none), (AOper.mk (some 63) (.load (some 20) (.tmp 5)) (some (62, true))), (AOper.mk (some 64) (.load (some 20) (.tmp 5)) (some (62, true))), (AOper.mk (some 65) (.call 34 [(.tmp 64)] true) (some (62, true))), (AOper.mk (some 66) (.buildSlice (List.replicate 40 (.int .u64 0)) 2 [(0, (20, (.tmp 63))), (20, (20, (.tmp 65)))]) (some (62, true))), (AOper.mk (some 67) (.call 27 [(.tmp 66)] false) (some (62, true))), (AOper.mk (some 68) (.call 30 [] true) (some (62, true))), (AOper.mk (some 69) (.call 28 [(.tmp 67), (.tmp 68)] true) (some (62, true))), (AOper.mk (some 70) (.pick (.tmp 62) (.tmp 69) (.const (.bool false))) none), (AOper.mk (some 71) (.move (.tmp 70)) none), (AOper.mk (some 72) (.call 27 [(.const (.slice none 0 0))] false) (some (71, true))), (AOper.mk (some 73) (.call 30 [] true) (some (71, true))), (AOper.mk (some 74) (.call 28 [(.tmp 72), (.tmp 73)] true) (some (71, true))), (AOper.mk (some 75) (.pick (.tmp 71) (.tmp 74) (.const (.bool false))) none), (AOper.mk (some 4) (.move (.tmp 75)) none)] (some [4]) [(3, 5), (3, 6), (17, 18)]) .ret)))))))), [(4, none)]⟩
def a24 : AFun := ⟨(.seq (.region [(AOper.mk (some 0) (.move (.const (.bool false))) none)] (some []) []) (.seq (.region [(AOper.mk (some 2) (.call 25 [] true) none), (AOper.mk (some 3) (.call 29 [(.tmp 2)] true) none), (AOper.mk (some 1) (.alloc (List.replicate 32 (.int .u8 0))) none), (AOper.mk none (.store 32 (.tmp 1) (.tmp 3)) none)] (some [1]) []) (.seq (.region [(AOper.mk (some 4) (.indexAddr 32 1 (.tmp 1) (.const (.int .i64 0))) none), (AOper.mk (some 5) (.load none (.tmp 4)) none), (AOper.mk (some 6) (.bin .eql (.tmp 5) (.const (.int .u8 88))) none), (AOper.mk (some 7) (.move (.tmp 6)) none), (AOper.mk (some 8) (.indexAddr 32 1 (.tmp 1) (.const (.int .i64 1))) (some (7, true))), (AOper.mk (some 9) (.load none (.tmp 8)) (some (7, true))), (AOper.mk (some 10) (.bin .eql (.tmp 9) (.const (.int .u8 102))) (some (7, true))), (AOper.mk (some 11) (.pick (.tmp 7) (.tmp 10) (.const (.bool false))) none), (AOper.mk (some 12) (.move (.tmp 11)) none), (AOper.mk (some 13) (.indexAddr 32 1 (.tmp 1) (.const (.int .i64 31))) (some (12, true))), (AOper.mk (some 14) (.load none (.tmp 13)) (some (12, true))), (AOper.mk (some 15) (.bin .eql (.tmp 14) (.const (.int .u8 102))) (some (12, true))), (AOper.mk (some 16) (.pick (.tmp 12) (.tmp 15) (.const (.bool false))) none), (AOper.mk (some 17) (.move (.tmp 16)) none), (AOper.mk (some 18) (.call 25 [] true) (some (17, true))), (AOper.mk (some 19) (.call 39 [(.tmp 18)] true) (some (17, true))), (AOper.mk (some 20) (.un .not (.tmp 19)) (some (17, true))), (AOper.mk (some 21) (.pick (.tmp 17) (.tmp 20) (.const (.bool false))) none), (AOper.mk (some 22) (.move (.tmp 21)) none), (AOper.mk (some 23) (.call 30 [] true) (some (22, true))), (AOper.mk (some 24) (.call 39 [(.tmp 23)] true) (some (22, true))), (AOper.mk (some 25) (.pick (.tmp 22) (.tmp 24) (.const (.bool false))) none), (AOper.mk (some 26) (.move (.tmp 25)) none), (AOper.mk (some 27) (.call 30 [] true) (some (26, true))), (AOper.mk (some 28) (.call 29 [(.tmp 27)] true) (some (26, true))), (AOper.mk (some 29) (.build (List.replicate 32 (.int .u8 0)) [(0, (1, (.const (.int .u8 1))))]) (some (26, true))), (AOper.mk (some 30) (.eqv (some (List.replicate 32 true)) false (.tmp 28) (.tmp 29)) (some (26, true))), (AOper.mk (some 31) (.pick (.tmp 26) (.tmp 30) (.const (.bool false))) none), (AOper.mk (some 0) (.move (.tmp 31)) none)] (some [0]) []) .ret))), [(0, none)]⟩
def a25 : AFun := ⟨(.seq (.region [(AOper.mk (some 0) (.alloc (List.replicate 20 (.int .u64 0))) none)] (some [0]) []) (.seq (.region [(AOper.mk (some 3) (.build (List.replicate 32 (.int .u8 0)) [(0, (1, (.const (.int .u8 26)))), (1, (1, (.const (.int .u8 213)))), (2, (1, (.const (.int .u8 37)))), (3, (1, (.const (.int .u8 143)))), (4, (1, (.const (.int .u8 96)))), (5, (1, (.const (.int .u8 45)))), (6, (1, (.const (.int .u8 86)))), (7, (1, (.const (.int .u8 201)))), (8, (1, (.const (.int .u8 178)))), (9, (1, (.const (.int .u8 167)))), (10, (1, (.const (.int .u8 37)))), (11, (1, (.const (.int .u8 149)))), (12, (1, (.const (.int .u8 96)))), (13, (1, (.const (.int .u8 199)))), (14, (1, (.const (.int .u8 44)))), (15, (1, (.const (.int .u8 105)))), (16, (1, (.const (.int .u8 92)))), (17, (1, (.const (.int .u8 220)))), (18, (1, (.const (.int .u8 214)))), (19, (1, (.const (.int .u8 253)))), (20, (1, (.const (.int .u8 49)))), (21, (1, (.const (.int .u8 226)))), (22, (1, (.const (.int .u8 164)))), (23, (1, (.const (.int .u8 192)))), (24, (1, (.const (.int .u8 254)))), (25, (1, (.const (.int .u8 83)))), (26, (1, (.const (.int .u8 110)))), (27, (1, (.const (.int .u8 205)))), (28, (1, (.const (.int .u8 211)))), (29, (1, (.const (.int .u8 54)))), (30, (1, (.const (.int .u8 105)))), (31, (1, (.const (.int .u8 33))))]) none), (AOper.mk (some 4) (.call 49 [(.tmp 3)] true) none), (AOper.mk (some 1) (.alloc (List.replicate 5 (.int .u64 0))) none), (AOper.mk none (.store 5 (.tmp 1) (.tmp 4)) none)] (some [0, 1]) []) (.seq (.region [(AOper.mk (some 5) (.build (List.replicate 32 (.int .u8 0)) [(0, (1, (.const (.int .u8 88)))), (1, (1, (.const (.int .u8 102)))), (2, (1, (.const (.int .u8 102)))), (3, (1, (.const (.int .u8 102)))), (4, (1, (.const (.int .u8 102)))), (5, (1, (.const (.int .u8 102)))), (6, (1, (.const (.int .u8 102)))), (7, (1, (.const (.int .u8 102)))), (8, (1, (.const (.int .u8 102)))), (9, (1, (.const (.int .u8 102)))), (10, (1, (.const (.int .u8 102)))), (11, (1, (.const (.int .u8 102)))), (12, (1, (.const (.int .u8 102)))), (13, (1, (.const (.int .u8 102)))), (14, (1, (.const (.int .u8 102)))), (15, (1, (.const (.int .u8 102)))), (16, (1, (.const (.int .u8 102)))), (17, (1, (.const (.int .u8 102)))), (18, (1, (.const (.int .u8 102)))), (19, (1, (.const (.int .u8 102)))), (20, (1, (.const (.int .u8 102)))), (21, (1, (.const (.int .u8 102)))), (22, (1, (.const (.int .u8 102)))), (23, (1, (.const (.int .u8 102)))), (24, (1, (.const (.int .u8 102)))), (25, (1, (.const (.int .u8 102)))), (26, (1, (.const (.int .u8 102)))), (27, (1, (.const (.int .u8 102)))), (28, (1, (.const (.int .u8 102)))), (29, (1, (.const (.int .u8 102)))), (30, (1, (.const (.int .u8 102)))), (31, (1, (.const (.int .u8 102))))]) none), (AOper.mk (some 6) (.call 49 [(.tmp 5)] true) none), (AOper.mk (some 2) (.alloc (List.replicate 5 (.int .u64 0))) none), (AOper.mk none (.store 5 (.tmp 2) (.tmp 6)) none)] (some [0, 1, 2]) []) (.seq (.region [(AOper.mk (some 7) (.load (some 5) (.tmp 1)) none), (AOper.mk (some 8) (.load (some 5) (.tmp 2)) none), (AOper.mk (some 9) (.call 50 [(.const (.int .u32 1))] true) none), (AOper.mk (some 10) (.load (some 5) (.tmp 1)) none), (AOper.mk (some 11) (.load (some 5) (.tmp 2)) none), (AOper.mk (some 12) (.call 51 [(.tmp 10), (.tmp 11)] true) none), (AOper.mk (some 13) (.build (List.replicate 20 (.int .u64 0)) [(0, (5, (.tmp 7))), (5, (5, (.tmp 8))), (10, (5, (.tmp 9))), (15, (5, (.tmp 12)))]) none), (AOper.mk none (.store 20 (.tmp 0) (.tmp 13)) none)] (some [0]) []) .ret)))), [(0, (some (some 20)))]⟩
def a27_l0 : ACode := (.seq (.region [(AOper.mk (some 12) (.bin .lss (.tmp 11) (.tmp 10)) none)] (some [2, 3, 4, 9, 10, 11, 12]) []) (.seq (.cond (.tmp 12) .skip (.exit 0)) (.seq (.block 1 (.seq (.region [(AOper.mk (some 13) (.indexSl 20 (.tmp 9) (.tmp 11)) none), (AOper.mk (some 14) (.load (some 20) (.tmp 13)) none), (AOper.mk (some 6) (.alloc (List.replicate 20 (.int .u64 0))) none), (AOper.mk none (.store 20 (.tmp 6) (.tmp 14)) none)] (some [2, 3, 4, 6, 9, 10, 11]) []) (.region [(AOper.mk (some 15) (.load (some 20) (.tmp 3)) none), (AOper.mk (some 16) (.load (some 20) (.tmp 6)) none), (AOper.mk (some 17) (.load (some 5) (.tmp 4)) none), (AOper.mk (some 18) (.call 54 [(.tmp 15), (.tmp 16), (.tmp 17)] true) none), (AOper.mk none (.store 20 (.tmp 3) (.tmp 18)) none)] (some [2, 3, 4, 9, 10, 11]) []))) (.region [(AOper.mk (some 19) (.bin .add (.tmp 11) (.const (.int .i64 1))) none), (AOper.mk (some 11) (.move (.tmp 19)) none)] (some [2, 3, 4, 9, 10, 11]) []))))
def a27 : AFun := ⟨(.seq (.region [(AOper.mk (some 2) (.alloc (List.replicate 20 (.int .u64 0))) none)] (some [0, 2]) []) (.seq (.region [(AOper.mk (some 7) (.call 30 [] true) none), (AOper.mk (some 8) (.call 52 [] true) none), (AOper.mk (some 3) (.alloc (List.replicate 20 (.int .u64 0))) none), (AOper.mk (some 4) (.alloc (List.replicate 5 (.int .u64 0))) none), (AOper.mk none (.store 20 (.tmp 3) (.tmp 7)) none), (AOper.mk none (.store 5 (.tmp 4) (.tmp 8)) none)] (some [0, 2, 3, 4]) []) (.seq (.seq (.region [(AOper.mk (some 9) (.move (.tmp 0)) none), (AOper.mk (some 10) (.len false (.tmp 9)) none), (AOper.mk (some 11) (.move (.const (.int .i64 0))) none)] (some [2, 3, 4, 9, 10, 11]) []) (.block 0 (.loop a27_l0))) (.seq (.region [(AOper.mk (some 20) (.load (some 20) (.tmp 3)) none), (AOper.mk none (.store 20 (.tmp 2) (.tmp 20)) none)] (some [2]) []) .ret)))), [(2, (some (some 20)))]⟩
def a28 : AFun := ⟨(.seq (.region [(AOper.mk (some 2) (.box (.tmp 0)) none), (AOper.mk (some 3) (.box (.tmp 1)) none), (AOper.mk (some 4) (.move (.const (.bool false))) none)] (some [2, 3]) []) (.seq (.region [(AOper.mk (some 5) (.fieldAddr 0 (.tmp 2)) none), (AOper.mk (some 6) (.load (some 5) (.tmp 5)) none), (AOper.mk (some 7) (.fieldAddr 10 (.tmp 3)) none), (AOper.mk (some 8) (.load (some 5) (.tmp 7)) none), (AOper.mk (some 9) (.call 51 [(.tmp 6), (.tmp 8)] true) none), (AOper.mk (some 10) (.fieldAddr 0 (.tmp 3)) none), (AOper.mk (some 11) (.load (some 5) (.tmp 10)) none), (AOper.mk (some 12) (.fieldAddr 10 (.tmp 2)) none), (AOper.mk (some 13) (.load (some 5) (.tmp 12)) none), (AOper.mk (some 14) (.call 51 [(.tmp 11), (.tmp 13)] true) none), (AOper.mk (some 15) (.call 55 [(.tmp 9), (.tmp 14)] true) none), (AOper.mk (some 16) (.move (.tmp 15)) none), (AOper.mk (some 17) (.fieldAddr 5 (.tmp 2)) (some (16, true))), (AOper.mk (some 18) (.load (some 5) (.tmp 17)) (some (16, true))), (AOper.mk (some 19) (.fieldAddr 10 (.tmp 3)) (some (16, true))), (AOper.mk (some 20) (.load (some 5) (.tmp 19)) (some (16, true))), (AOper.mk (some 21) (.call 51 [(.tmp 18), (.tmp 20)] true) (some (16, true))), (AOper.mk (some 22) (.fieldAddr 5 (.tmp 3)) (some (16, true))), (AOper.mk (some 23) (.load (some 5) (.tmp 22)) (some (16, true))), (AOper.mk (some 24) (.fieldAddr 10 (.tmp 2)) (some (16, true))), (AOper.mk (some 25) (.load (some 5) (.tmp 24)) (some (16, true))), (AOper.mk (some 26) (.call 51 [(.tmp 23), (.tmp 25)] true) (some (16, true))), (AOper.mk (some 27) (.call 55 [(.tmp 21), (.tmp 26)] true) (some (16, true))), (AOper.mk (some 28) (.pick (.tmp 16) (.tmp 27) (.const (.bool false))) none), (AOper.mk (some 4) (.move (.tmp 28)) none)] (some [4]) []) .ret)), [(4, none)]⟩
def a29 : AFun := ⟨(.seq (.region [(AOper.mk (some 1) (.box (.tmp 0)) none), (AOper.mk (some 2) (.alloc (List.replicate 32 (.int .u8 0))) none)] (some [1, 2]) []) (.seq (.region [(AOper.mk (some 5) (.fieldAddr 10 (.tmp 1)) none), (AOper.mk (some 6) (.load (some 5) (.tmp 5)) none), (AOper.mk (some 7) (.call 56 [(.tmp 6)] true) none), (AOper.mk (some 3) (.alloc (List.replicate 5 (.int .u64 0))) none), (AOper.mk none (.store 5 (.tmp 3) (.tmp 7)) none)] (some [1, 2, 3]) []) (.seq (.region [(AOper.mk (some 8) (.fieldAddr 5 (.tmp 1)) none), (AOper.mk (some 9) (.load (some 5) (.tmp 8)) none), (AOper.mk (some 10) (.load (some 5) (.tmp 3)) none), (AOper.mk (some 11) (.call 51 [(.tmp 9), (.tmp 10)] true) none), (AOper.mk (some 12) (.call 57 [(.tmp 11)] true) none), (AOper.mk (some 4) (.alloc (List.replicate 32 (.int .u8 0))) none), (AOper.mk none (.store 32 (.tmp 4) (.tmp 12)) none)] (some [1, 2, 3, 4]) []) (.seq (.seq (.region [(AOper.mk (some 13) (.fieldAddr 0 (.tmp 1)) none), (AOper.mk (some 14) (.load (some 5) (.tmp 13)) none), (AOper.mk (some 15) (.load (some 5) (.tmp 3)) none), (AOper.mk (some 16) (.call 51 [(.tmp 14), (.tmp 15)] true) none), (AOper.mk (some 17) (.call 58 [(.tmp 16)] true) none)] (some [2, 4, 17]) []) (.cond (.tmp 17) (.region [(AOper.mk (some 18) (.indexAddr 32 1 (.tmp 4) (.const (.int .i64 31))) none), (AOper.mk (some 19) (.load none (.tmp 18)) none), (AOper.mk (some 20) (.bin .or (.tmp 19) (.const (.int .u8 128))) none), (AOper.mk (some 21) (.indexAddr 32 1 (.tmp 4) (.const (.int .i64 31))) none), (AOper.mk none (.store 1 (.tmp 21) (.tmp 20)) none)] (some [2, 4]) []) .skip)) (.seq (.region [(AOper.mk (some 22) (.load (some 32) (.tmp 4)) none), (AOper.mk none (.store 32 (.tmp 2) (.tmp 22)) none)] (some [2]) []) .ret))))), [(2, (some (some 32)))]⟩
def a30 : AFun := ⟨(.seq (.region [(AOper.mk (some 0) (.alloc (List.replicate 20 (.int .u64 0))) none)] (some [0]) []) (.seq (.region [(AOper.mk (some 1) (.call 50 [(.const (.int .u32 1))] true) none), (AOper.mk (some 2) (.call 50 [(.const (.int .u32 1))] true) none), (AOper.mk (some 3) (.build (List.replicate 20 (.int .u64 0)) [(5, (5, (.tmp 1))), (10, (5, (.tmp 2)))]) none), (AOper.mk none (.store 20 (.tmp 0) (.tmp 3)) none)] (some [0]) []) .ret)), [(0, (some (some 20)))]⟩
def a31 : AFun := ⟨(.seq (.region [(AOper.mk (some 1) (.box (.tmp 0)) none), (AOper.mk (some 2) (.alloc (List.replicate 20 (.int .u64 0))) none), (AOper.mk (some 3) (.move (.const (.int .i64 0))) none)] (some [1, 2]) []) (.seq (.region [(AOper.mk (some 9) (.indexAddr 32 1 (.tmp 1) (.const (.int .i64 31))) none), (AOper.mk (some 10) (.load none (.tmp 9)) none), (AOper.mk (some 11) (.bin .shr (.tmp 10) (.const (.int .u64 7))) none), (AOper.mk (some 12) (.bin .eql (.tmp 11) (.const (.int .u8 1))) none), (AOper.mk (some 4) (.move (.tmp 12)) none)] (some [1, 2, 4]) []) (.seq (.region [(AOper.mk (some 13) (.indexAddr 32 1 (.tmp 1) (.const (.int .i64 31))) none), (AOper.mk (some 14) (.load none (.tmp 13)) none), (AOper.mk (some 15) (.bin .and (.tmp 14) (.const (.int .u8 127))) none), (AOper.mk (some 16) (.indexAddr 32 1 (.tmp 1) (.const (.int .i64 31))) none), (AOper.mk none (.store 1 (.tmp 16) (.tmp 15)) none)] (some [1, 2, 4]) []) (.seq (.region [(AOper.mk (some 17) (.load (some 32) (.tmp 1)) none), (AOper.mk (some 18) (.call 49 [(.tmp 17)] true) none), (AOper.mk (some 5) (.alloc (List.replicate 5 (.int .u64 0))) none), (AOper.mk none (.store 5 (.tmp 5) (.tmp 18)) none)] (some [1, 2, 4, 5]) []) (.seq (.seq (.region [(AOper.mk (some 19) (.load (some 32) (.tmp 1)) none), (AOper.mk (some 20) (.call 59 [(.tmp 19)] true) none), (AOper.mk (some 21) (.un .not (.tmp 20)) none)] (some [2, 4, 5, 21]) []) (.cond (.tmp 21) (.seq (.region [(AOper.mk (some 22) (.build (List.replicate 20 (.int .u64 0)) []) none), (AOper.mk none (.store 20 (.tmp 2) (.tmp 22)) none), (AOper.mk (some 3) (.move (.const (.int .i64 60))) none)] (some [2, 3]) []) .ret) .skip)) (.seq (.region [(AOper.mk (some 23) (.load (some 5) (.tmp 5)) none), (AOper.mk (some 24) (.load (some 5) (.tmp 5)) none), (AOper.mk (some 25) (.call 51 [(.tmp 23), (.tmp 24)] true) none), (AOper.mk (some 6) (.alloc (List.replicate 5 (.int .u64 0))) none), (AOper.mk none (.store 5 (.tmp 6) (.tmp 25)) none)] (some [2, 4, 5, 6]) []) (.seq (.region [(AOper.mk (some 27) (.load (some 5) (.tmp 6)) none), (AOper.mk (some 28) (.call 50 [(.const (.int .u32 1))] true) none), (AOper.mk (some 29) (.call 61 [(.tmp 27), (.tmp 28)] true) none), (AOper.mk (some 30) (.call 52 [] true) none), (AOper.mk (some 31) (.load (some 5) (.tmp 6)) none), (AOper.mk (some 32) (.call 51 [(.tmp 30), (.tmp 31)] true) none), (AOper.mk (some 33) (.call 50 [(.const (.int .u32 1))] true) none), (AOper.mk (some 34) (.buildSlice (List.replicate 10 (.int .u64 0)) 2 [(0, (5, (.tmp 32))), (5, (5, (.tmp 33)))]) none), (AOper.mk (some 35) (.call 62 [(.tmp 34)] false) none), (AOper.mk (some 36) (.call 60 [(.tmp 29), (.tmp 35)] true) none), (AOper.mk (some 26) (.move (.tmp 36)) none), (AOper.mk (some 37) (.extract (.tmp 26) 0) none), (AOper.mk (some 38) (.extract (.tmp 26) 1) none), (AOper.mk (some 7) (.alloc (List.replicate 5 (.int .u64 0))) none), (AOper.mk none (.store 5 (.tmp 7) (.tmp 37)) none), (AOper.mk (some 8) (.move (.tmp 38)) none)] (some [2, 4, 5, 7, 8]) []) (.seq (.seq (.region [(AOper.mk (some 39) (.move (.tmp 8)) none), (AOper.mk (some 40) (.un .not (.tmp 39)) none), (AOper.mk (some 41) (.move (.tmp 40)) none), (AOper.mk (some 42) (.move (.tmp 4)) (some (41, false))), (AOper.mk (some 43) (.move (.tmp 42)) (some (41, false))), (AOper.mk (some 44) (.load (some 5) (.tmp 7)) (some (43, true))), (AOper.mk (some 45) (.call 63 [(.tmp 44)] true) (some (43, true))), (AOper.mk (some 46) (.pick (.tmp 43) (.tmp 45) (.const (.bool false))) (some (41, false))), (AOper.mk (some 47) (.pick (.tmp 41) (.const (.bool true)) (.tmp 46)) none)] (some [2, 4, 5, 7, 47]) []) (.cond (.tmp 47) (.seq (.region [(AOper.mk (some 48) (.build (List.replicate 20 (.int .u64 0)) []) none), (AOper.mk none (.store 20 (.tmp 2) (.tmp 48)) none), (AOper.mk (some 3) (.move (.const (.int .i64 60))) none)] (some [2, 3]) []) .ret) .skip)) (.seq (.seq (.region [(AOper.mk (some 49) (.move (.tmp 4)) none)] (some [2, 5, 7, 49]) []) (.cond (.tmp 49) (.region [(AOper.mk (some 50) (.load (some 5) (.tmp 7)) none), (AOper.mk (some 51) (.call 64 [(.tmp 50)] true) none), (AOper.mk none (.store 5 (.tmp 7) (.tmp 51)) none)] (some [2, 5, 7]) []) .skip)) (.seq (.region [(AOper.mk (some 52) (.load (some 5) (.tmp 7)) none), (AOper.mk (some 53) (.load (some 5) (.tmp 5)) none), (AOper.mk (some 54) (.call 50 [(.const (.int .u32 1))] true) none), (AOper.mk (some 55) (.load (some 5) (.tmp 7)) none), (AOper.mk (some 56) (.load (some 5) (.tmp 5)) none), (AOper.mk (some 57) (.call 51 [(.tmp 55), (.tmp 56)] true) none), (AOper.mk (some 58) (.build (List.replicate 20 (.int .u64 0)) [(0, (5, (.tmp 52))), (5, (5, (.tmp 53))), (10, (5, (.tmp 54))), (15, (5, (.tmp 57)))]) none), (AOper.mk none (.store 20 (.tmp 2) (.tmp 58)) none), (AOper.mk (some 3) (.move (.const (.int .i64 0))) none)] (some [2, 3]) []) .ret)))))))))), [(2, (some (some 20))), (3, none)]⟩
def a32 : AFun := ⟨(.seq (.region [(AOper.mk (some 1) (.box (.tmp 0)) none), (AOper.mk (some 2) (.alloc (List.replicate 48 (.int .u64 0))) none), (AOper.mk (some 3) (.move (.const (.int .i64 0))) none)] (some [1, 2]) []) (.seq (.region [(AOper.mk (some 9) (.indexAddr 32 1 (.tmp 1) (.const (.int .i64 31))) none), (AOper.mk (some 10) (.load none (.tmp 9)) none), (AOper.mk (some 11) (.bin .geq (.tmp 10) (.const (.int .u8 128))) none), (AOper.mk (some 4) (.move (.tmp 11)) none)] (some [1, 2, 4]) []) (.seq (.region [(AOper.mk (some 12) (.indexAddr 32 1 (.tmp 1) (.const (.int .i64 31))) none), (AOper.mk (some 13) (.load none (.tmp 12)) none), (AOper.mk (some 14) (.bin .rem (.tmp 13) (.const (.int .u8 128))) none), (AOper.mk (some 15) (.indexAddr 32 1 (.tmp 1) (.const (.int .i64 31))) none), (AOper.mk none (.store 1 (.tmp 15) (.tmp 14)) none)] (some [1, 2, 4]) []) (.seq (.region [(AOper.mk (some 16) (.load (some 32) (.tmp 1)) none), (AOper.mk (some 17) (.call 65 [(.tmp 16)] true) none), (AOper.mk (some 5) (.alloc (List.replicate 16 (.int .u64 0))) none), (AOper.mk none (.store 16 (.tmp 5) (.tmp 17)) none)] (some [1, 2, 4, 5]) []) (.seq (.seq (.region [(AOper.mk (some 18) (.load (some 16) (.tmp 5)) none), (AOper.mk (some 19) (.call 66 [(.tmp 18)] true) none), (AOper.mk (some 20) (.load (some 32) (.tmp 1)) none), (AOper.mk (some 21) (.eqv (some (List.replicate 32 true)) true (.tmp 19) (.tmp 20)) none)] (some [2, 4, 5, 21]) []) (.cond (.tmp 21) (.seq (.region [(AOper.mk (some 22) (.build (List.replicate 48 (.int .u64 0)) []) none), (AOper.mk none (.store 48 (.tmp 2) (.tmp 22)) none), (AOper.mk (some 3) (.move (.const (.int .i64 60))) none)] (some [2, 3]) []) .ret) .skip)) (.seq (.region [(AOper.mk (some 23) (.load (some 16) (.tmp 5)) none), (AOper.mk (some 24) (.load (some 16) (.tmp 5)) none), (AOper.mk (some 25) (.call 67 [(.tmp 23), (.tmp 24)] true) none), (AOper.mk (some 6) (.alloc (List.replicate 16 (.int .u64 0))) none), (AOper.mk none (.store 16 (.tmp 6) (.tmp 25)) none)] (some [2, 4, 5, 6]) []) (.seq (.region [(AOper.mk (some 27) (.load (some 16) (.tmp 6)) none), (AOper.mk (some 28) (.call 70 [(.const (.int .u64 1))] true) none), (AOper.mk (some 29) (.call 69 [(.tmp 27), (.tmp 28)] true) none), (AOper.mk (some 30) (.call 36 [] true) none), (AOper.mk (some 31) (.load (some 16) (.tmp 6)) none), (AOper.mk (some 32) (.call 67 [(.tmp 30), (.tmp 31)] true) none), (AOper.mk (some 33) (.call 70 [(.const (.int .u64 1))] true) none), (AOper.mk (some 34) (.call 72 [(.tmp 32), (.tmp 33)] true) none), (AOper.mk (some 35) (.call 71 [(.tmp 34)] true) none), (AOper.mk (some 36) (.call 67 [(.tmp 29), (.tmp 35)] true) none), (AOper.mk (some 37) (.call 68 [(.tmp 36)] true) none), (AOper.mk (some 26) (.move (.tmp 37)) none), (AOper.mk (some 38) (.extract (.tmp 26) 0) none), (AOper.mk (some 39) (.extract (.tmp 26) 1) none), (AOper.mk (some 7) (.alloc (List.replicate 16 (.int .u64 0))) none), (AOper.mk none (.store 16 (.tmp 7) (.tmp 38)) none), (AOper.mk (some 8) (.move (.tmp 39)) none)] (some [2, 4, 5, 7, 8]) []) (.seq (.seq (.region [(AOper.mk (some 40) (.move (.tmp 8)) none), (AOper.mk (some 41) (.un .not (.tmp 40)) none), (AOper.mk (some 42) (.move (.tmp 41)) none), (AOper.mk (some 43) (.load (some 16) (.tmp 7)) (some (42, false))), (AOper.mk (some 44) (.build (List.replicate 16 (.int .u64 0)) []) (some (42, false))), (AOper.mk (some 45) (.eqv (some (List.replicate 16 true)) false (.tmp 43) (.tmp 44)) (some (42, false))), (AOper.mk (some 46) (.move (.tmp 45)) (some (42, false))), (AOper.mk (some 47) (.move (.tmp 4)) (some (46, true))), (AOper.mk (some 48) (.pick (.tmp 46) (.tmp 47) (.const (.bool false))) (some (42, false))), (AOper.mk (some 49) (.pick (.tmp 42) (.const (.bool true)) (.tmp 48)) none)] (some [2, 4, 5, 7, 49]) []) (.cond (.tmp 49) (.seq (.region [(AOper.mk (some 50) (.build (List.replicate 48 (.int .u64 0)) []) none), (AOper.mk none (.store 48 (.tmp 2) (.tmp 50)) none), (AOper.mk (some 3) (.move (.const (.int .i64 60))) none)] (some [2, 3]) []) .ret) .skip)) (.seq (.seq (.region [(AOper.mk (some 51) (.indexAddr 16 1 (.tmp 7) (.const (.int .i64 0))) none), (AOper.mk (some 52) (.load none (.tmp 51)) none), (AOper.mk (some 53) (.bin .rem (.tmp 52) (.const (.int .u64 2))) none), (AOper.mk (some 54) (.bin .eql (.tmp 53) (.const (.int .u64 1))) none), (AOper.mk (some 55) (.move (.tmp 4)) none), (AOper.mk (some 56) (.eqv none true (.tmp 54) (.tmp 55)) none)] (some [2, 5, 7, 56]) []) (.cond (.tmp 56) (.region [(AOper.mk (some 57) (.load (some 16) (.tmp 7)) none), (AOper.mk (some 58) (.call 73 [(.tmp 57)] true) none), (AOper.mk none (.store 16 (.tmp 7) (.tmp 58)) none)] (some [2, 5, 7]) []) .skip)) (.seq (.region [(AOper.mk (some 59) (.load (some 16) (.tmp 7)) none), (AOper.mk (some 60) (.load (some 16) (.tmp 5)) none), (AOper.mk (some 61) (.call 70 [(.const (.int .u64 1))] true) none), (AOper.mk (some 62) (.build (List.replicate 48 (.int .u64 0)) [(0, (16, (.tmp 59))), (16, (16, (.tmp 60))), (32, (16, (.tmp 61)))]) none), (AOper.mk none (.store 48 (.tmp 2) (.tmp 62)) none), (AOper.mk (some 3) (.move (.const (.int .i64 0))) none)] (some [2, 3]) []) .ret)))))))))), [(2, (some (some 48))), (3, none)]⟩
def a33 : AFun := ⟨(.seq (.region [(AOper.mk (some 1) (.box (.tmp 0)) none), (AOper.mk (some 2) (.alloc (List.replicate 32 (.int .u8 0))) none)] (some [1, 2]) []) (.seq (.region [(AOper.mk (some 6) (.fieldAddr 32 (.tmp 1)) none), (AOper.mk (some 7) (.load (some 16) (.tmp 6)) none), (AOper.mk (some 8) (.call 71 [(.tmp 7)] true) none), (AOper.mk (some 3) (.alloc (List.replicate 16 (.int .u64 0))) none), (AOper.mk none (.store 16 (.tmp 3) (.tmp 8)) none)] (some [1, 2, 3]) []) (.seq (.region [(AOper.mk (some 9) (.fieldAddr 16 (.tmp 1)) none), (AOper.mk (some 10) (.load (some 16) (.tmp 9)) none), (AOper.mk (some 11) (.load (some 16) (.tmp 3)) none), (AOper.mk (some 12) (.call 67 [(.tmp 10), (.tmp 11)] true) none), (AOper.mk (some 13) (.call 66 [(.tmp 12)] true) none), (AOper.mk (some 4) (.alloc (List.replicate 32 (.int .u8 0))) none), (AOper.mk none (.store 32 (.tmp 4) (.tmp 13)) none)] (some [1, 2, 3, 4]) []) (.seq (.region [(AOper.mk (some 14) (.fieldAddr 0 (.tmp 1)) none), (AOper.mk (some 15) (.load (some 16) (.tmp 14)) none), (AOper.mk (some 16) (.load (some 16) (.tmp 3)) none), (AOper.mk (some 17) (.call 67 [(.tmp 15), (.tmp 16)] true) none), (AOper.mk (some 18) (.call 66 [(.tmp 17)] true) none), (AOper.mk (some 5) (.alloc (List.replicate 32 (.int .u8 0))) none), (AOper.mk none (.store 32 (.tmp 5) (.tmp 18)) none)] (some [2, 4, 5]) []) (.seq (.seq (.region [(AOper.mk (some 19) (.indexAddr 32 1 (.tmp 5) (.const (.int .i64 0))) none), (AOper.mk (some 20) (.load none (.tmp 19)) none), (AOper.mk (some 21) (.bin .rem (.tmp 20) (.const (.int .u8 2))) none), (AOper.mk (some 22) (.bin .eql (.tmp 21) (.const (.int .u8 1))) none)] (some [2, 4, 22]) []) (.cond (.tmp 22) (.region [(AOper.mk (some 23) (.indexAddr 32 1 (.tmp 4) (.const (.int .i64 31))) none), (AOper.mk (some 24) (.load none (.tmp 23)) none), (AOper.mk (some 25) (.bin .add (.tmp 24) (.const (.int .u8 128))) none), (AOper.mk (some 26) (.indexAddr 32 1 (.tmp 4) (.const (.int .i64 31))) none), (AOper.mk none (.store 1 (.tmp 26) (.tmp 25)) none)] (some [2, 4]) []) .skip)) (.seq (.region [(AOper.mk (some 27) (.load (some 32) (.tmp 4)) none), (AOper.mk none (.store 32 (.tmp 2) (.tmp 27)) none)] (some [2]) []) .ret)))))), [(2, (some (some 32)))]⟩
def a34 : AFun := ⟨(.seq (.region [(AOper.mk (some 1) (.box (.tmp 0)) none), (AOper.mk (some 2) (.alloc (List.replicate 20 (.int .u64 0))) none)] (some [1, 2]) []) (.seq (.region [(AOper.mk (some 3) (.fieldAddr 0 (.tmp 1)) none), (AOper.mk (some 4) (.load (some 5) (.tmp 3)) none), (AOper.mk (some 5) (.call 64 [(.tmp 4)] true) none), (AOper.mk (some 6) (.fieldAddr 5 (.tmp 1)) none), (AOper.mk (some 7) (.load (some 5) (.tmp 6)) none), (AOper.mk (some 8) (.fieldAddr 10 (.tmp 1)) none), (AOper.mk (some 9) (.load (some 5) (.tmp 8)) none), (AOper.mk (some 10) (.fieldAddr 15 (.tmp 1)) none), (AOper.mk (some 11) (.load (some 5) (.tmp 10)) none), (AOper.mk (some 12) (.call 64 [(.tmp 11)] true) none), (AOper.mk (some 13) (.build (List.replicate 20 (.int .u64 0)) [(0, (5, (.tmp 5))), (5, (5, (.tmp 7))), (10, (5, (.tmp 9))), (15, (5, (.tmp 12)))]) none), (AOper.mk none (.store 20 (.tmp 2) (.tmp 13)) none)] (some [2]) []) .ret)), [(2, (some (some 20)))]⟩
def a35 : AFun := ⟨(.seq (.region [(AOper.mk (some 3) (.box (.tmp 0)) none), (AOper.mk (some 4) (.box (.tmp 1)) none), (AOper.mk (some 5) (.box (.tmp 2)) none), (AOper.mk (some 6) (.alloc (List.replicate 48 (.int .u64 0))) none)] (some [3, 4, 5, 6]) []) (.seq (.region [(AOper.mk (some 15) (.fieldAddr 32 (.tmp 3)) none), (AOper.mk (some 16) (.load (some 16) (.tmp 15)) none), (AOper.mk (some 17) (.fieldAddr 32 (.tmp 4)) none), (AOper.mk (some 18) (.load (some 16) (.tmp 17)) none), (AOper.mk (some 19) (.call 67 [(.tmp 16), (.tmp 18)] true) none), (AOper.mk (some 7) (.alloc (List.replicate 16 (.int .u64 0))) none), (AOper.mk none (.store 16 (.tmp 7) (.tmp 19)) none)] (some [3, 4, 5, 6, 7]) []) (.seq (.region [(AOper.mk (some 20) (.load (some 16) (.tmp 7)) none), (AOper.mk (some 21) (.load (some 16) (.tmp 7)) none), (AOper.mk (some 22) (.call 67 [(.tmp 20), (.tmp 21)] true) none), (AOper.mk (some 8) (.alloc (List.replicate 16 (.int .u64 0))) none), (AOper.mk none (.store 16 (.tmp 8) (.tmp 22)) none)] (some [3, 4, 5, 6, 7, 8]) []) (.seq (.region [(AOper.mk (some 23) (.fieldAddr 0 (.tmp 3)) none), (AOper.mk (some 24) (.load (some 16) (.tmp 23)) none), (AOper.mk (some 25) (.fieldAddr 0 (.tmp 4)) none), (AOper.mk (some 26) (.load (some 16) (.tmp 25)) none), (AOper.mk (some 27) (.call 67 [(.tmp 24), (.tmp 26)] true) none), (AOper.mk (some 28) (.fieldAddr 16 (.tmp 3)) none), (AOper.mk (some 29) (.load (some 16) (.tmp 28)) none), (AOper.mk (some 30) (.fieldAddr 16 (.tmp 4)) none), (AOper.mk (some 31) (.load (some 16) (.tmp 30)) none), (AOper.mk (some 32) (.call 67 [(.tmp 29), (.tmp 31)] true) none), (AOper.mk (some 9) (.alloc (List.replicate 16 (.int .u64 0))) none), (AOper.mk (some 10) (.alloc (List.replicate 16 (.int .u64 0))) none), (AOper.mk none (.store 16 (.tmp 9) (.tmp 27)) none), (AOper.mk none (.store 16 (.tmp 10) (.tmp 32)) none)] (some [3, 4, 5, 6, 7, 8, 9, 10]) []) (.seq (.region [(AOper.mk (some 33) (.load (some 16) (.tmp 5)) none), (AOper.mk (some 34) (.load (some 16) (.tmp 9)) none), (AOper.mk (some 35) (.load (some 16) (.tmp 10)) none), (AOper.mk (some 36) (.call 67 [(.tmp 34), (.tmp 35)] true) none), (AOper.mk (some 37) (.call 67 [(.tmp 33), (.tmp 36)] true) none), (AOper.mk (some 11) (.alloc (List.replicate 16 (.int .u64 0))) none), (AOper.mk none (.store 16 (.tmp 11) (.tmp 37)) none)] (some [3, 4, 6, 7, 8, 9, 10, 11]) []) (.seq (.region [(AOper.mk (some 38) (.load (some 16) (.tmp 8)) none), (AOper.mk (some 39) (.load (some 16) (.tmp 11)) none), (AOper.mk (some 40) (.call 69 [(.tmp 38), (.tmp 39)] true) none), (AOper.mk (some 41) (.load (some 16) (.tmp 8)) none), (AOper.mk (some 42) (.load (some 16) (.tmp 11)) none), (AOper.mk (some 43) (.call 72 [(.tmp 41), (.tmp 42)] true) none), (AOper.mk (some 12) (.alloc (List.replicate 16 (.int .u64 0))) none), (AOper.mk (some 13) (.alloc (List.replicate 16 (.int .u64 0))) none), (AOper.mk none (.store 16 (.tmp 12) (.tmp 40)) none), (AOper.mk none (.store 16 (.tmp 13) (.tmp 43)) none)] (some [3, 4, 6, 7, 9, 10, 12, 13]) []) (.seq (.region [(AOper.mk (some 44) (.fieldAddr 0 (.tmp 3)) none), (AOper.mk (some 45) (.load (some 16) (.tmp 44)) none), (AOper.mk (some 46) (.fieldAddr 16 (.tmp 3)) none), (AOper.mk (some 47) (.load (some 16) (.tmp 46)) none), (AOper.mk (some 48) (.call 72 [(.tmp 45), (.tmp 47)] true) none), (AOper.mk (some 49) (.fieldAddr 0 (.tmp 4)) none), (AOper.mk (some 50) (.load (some 16) (.tmp 49)) none), (AOper.mk (some 51) (.fieldAddr 16 (.tmp 4)) none), (AOper.mk (some 52) (.load (some 16) (.tmp 51)) none), (AOper.mk (some 53) (.call 72 [(.tmp 50), (.tmp 52)] true) none), (AOper.mk (some 54) (.call 67 [(.tmp 48), (.tmp 53)] true) none), (AOper.mk (some 55) (.load (some 16) (.tmp 9)) none), (AOper.mk (some 56) (.call 69 [(.tmp 54), (.tmp 55)] true) none), (AOper.mk (some 57) (.load (some 16) (.tmp 10)) none), (AOper.mk (some 58) (.call 69 [(.tmp 56), (.tmp 57)] true) none), (AOper.mk (some 14) (.alloc (List.replicate 16 (.int .u64 0))) none), (AOper.mk none (.store 16 (.tmp 14) (.tmp 58)) none)] (some [6, 7, 9, 10, 12, 13, 14]) []) (.seq (.region [(AOper.mk (some 59) (.load (some 16) (.tmp 7)) none), (AOper.mk (some 60) (.load (some 16) (.tmp 12)) none), (AOper.mk (some 61) (.call 67 [(.tmp 59), (.tmp 60)] true) none), (AOper.mk (some 62) (.load (some 16) (.tmp 14)) none), (AOper.mk (some 63) (.call 67 [(.tmp 61), (.tmp 62)] true) none), (AOper.mk (some 64) (.load (some 16) (.tmp 7)) none), (AOper.mk (some 65) (.load (some 16) (.tmp 13)) none), (AOper.mk (some 66) (.call 67 [(.tmp 64), (.tmp 65)] true) none), (AOper.mk (some 67) (.load (some 16) (.tmp 10)) none), (AOper.mk (some 68) (.load (some 16) (.tmp 9)) none), (AOper.mk (some 69) (.call 72 [(.tmp 67), (.tmp 68)] true) none), (AOper.mk (some 70) (.call 67 [(.tmp 66), (.tmp 69)] true) none), (AOper.mk (some 71) (.load (some 16) (.tmp 12)) none), (AOper.mk (some 72) (.load (some 16) (.tmp 13)) none), (AOper.mk (some 73) (.call 67 [(.tmp 71), (.tmp 72)] true) none), (AOper.mk (some 74) (.build (List.replicate 48 (.int .u64 0)) [(0, (16, (.tmp 63))), (16, (16, (.tmp 70))), (32, (16, (.tmp 73)))]) none), (AOper.mk none (.store 48 (.tmp 6) (.tmp 74)) none)] (some [6]) []) .ret)))))))), [(6, (some (some 48)))]⟩
def a36 : AFun := ⟨(.seq (.region [(AOper.mk (some 0) (.alloc (List.replicate 16 (.int .u64 0))) none)] (some [0]) []) (.seq (.region [(AOper.mk (some 1) (.call 70 [(.const (.int .u64 121665))] true) none), (AOper.mk (some 2) (.call 73 [(.tmp 1)] true) none), (AOper.mk (some 3) (.call 70 [(.const (.int .u64 121666))] true) none), (AOper.mk (some 4) (.call 71 [(.tmp 3)] true) none), (AOper.mk (some 5) (.call 67 [(.tmp 2), (.tmp 4)] true) none), (AOper.mk none (.store 16 (.tmp 0) (.tmp 5)) none)] (some [0]) []) .ret)), [(0, (some (some 16)))]⟩
def a39 : AFun := ⟨(.seq (.region [(AOper.mk (some 1) (.box (.tmp 0)) none), (AOper.mk (some 2) (.move (.const (.bool false))) none)] (some [1]) []) (.seq (.region [(AOper.mk (some 3) (.load (some 20) (.tmp 1)) none), (AOper.mk (some 4) (.call 53 [(.tmp 3)] true) none), (AOper.mk (some 5) (.call 53 [(.tmp 4)] true) none), (AOper.mk (some 6) (.call 53 [(.tmp 5)] true) none), (AOper.mk (some 7) (.call 30 [] true) none), (AOper.mk (some 8) (.call 28 [(.tmp 6), (.tmp 7)] true) none), (AOper.mk (some 2) (.move (.tmp 8)) none)] (some [2]) []) .ret)), [(2, none)]⟩
def a49_l0 : ACode := (.seq (.region [(AOper.mk (some 6) (.bin .lss (.tmp 5) (.const (.int .i64 255))) none)] (some [1, 2, 3, 5, 6]) []) (.seq (.cond (.tmp 6) .skip (.exit 0)) (.seq (.block 1 (.seq (.region [(AOper.mk (some 7) (.move (.tmp 5)) none), (AOper.mk (some 4) (.move (.tmp 7)) none)] (some [1, 2, 3, 4, 5]) []) (.region [(AOper.mk (some 8) (.move (.tmp 4)) none), (AOper.mk (some 9) (.bin .quo (.tmp 8) (.const (.int .i64 51))) none), (AOper.mk (some 10) (.fieldAddr 0 (.tmp 3)) none), (AOper.mk (some 11) (.indexAddr 5 1 (.tmp 10) (.tmp 9)) none), (AOper.mk (some 12) (.load none (.tmp 11)) none), (AOper.mk (some 13) (.move (.tmp 4)) none), (AOper.mk (some 14) (.bin .quo (.tmp 13) (.const (.int .i64 8))) none), (AOper.mk (some 15) (.indexAddr 32 1 (.tmp 1) (.tmp 14)) none), (AOper.mk (some 16) (.load none (.tmp 15)) none), (AOper.mk (some 17) (.move (.tmp 4)) none), (AOper.mk (some 18) (.bin .rem (.tmp 17) (.const (.int .i64 8))) none), (AOper.mk (some 19) (.bin .shr (.tmp 16) (.tmp 18)) none), (AOper.mk (some 20) (.bin .and (.tmp 19) (.const (.int .u8 1))) none), (AOper.mk (some 21) (.conv .u64 (.tmp 20)) none), (AOper.mk (some 22) (.move (.tmp 4)) none), (AOper.mk (some 23) (.bin .rem (.tmp 22) (.const (.int .i64 51))) none), (AOper.mk (some 24) (.bin .shl (.tmp 21) (.tmp 23)) none), (AOper.mk (some 25) (.bin .or (.tmp 12) (.tmp 24)) none), (AOper.mk (some 26) (.fieldAddr 0 (.tmp 3)) none), (AOper.mk (some 27) (.indexAddr 5 1 (.tmp 26) (.tmp 9)) none), (AOper.mk none (.store 1 (.tmp 27) (.tmp 25)) none)] (some [1, 2, 3, 5]) []))) (.region [(AOper.mk (some 28) (.bin .add (.tmp 5) (.const (.int .i64 1))) none), (AOper.mk (some 5) (.move (.tmp 28)) none)] (some [1, 2, 3, 5]) []))))
def a49 : AFun := ⟨(.seq (.region [(AOper.mk (some 1) (.box (.tmp 0)) none), (AOper.mk (some 2) (.alloc (List.replicate 5 (.int .u64 0))) none)] (some [1, 2]) []) (.seq (.region [(AOper.mk (some 3) (.alloc (List.replicate 5 (.int .u64 0))) none)] (some [1, 2, 3]) []) (.seq (.seq (.region [(AOper.mk (some 5) (.move (.const (.int .i64 0))) none)] (some [1, 2, 3, 5]) []) (.block 0 (.loop a49_l0))) (.seq (.region [(AOper.mk (some 29) (.load (some 5) (.tmp 3)) none), (AOper.mk none (.store 5 (.tmp 2) (.tmp 29)) none)] (some [2]) []) .ret)))), [(2, (some (some 5)))]⟩
def a50 : AFun := ⟨(.seq (.region [(AOper.mk (some 2) (.alloc (List.replicate 5 (.int .u64 0))) none)] (some [0, 2]) []) (.seq (.region [(AOper.mk (some 3) (.move (.tmp 0)) none), (AOper.mk (some 4) (.conv .u64 (.tmp 3)) none), (AOper.mk (some 5) (.build (List.replicate 5 (.int .u64 0)) [(0, (1, (.tmp 4)))]) none), (AOper.mk (some 6) (.build (List.replicate 5 (.int .u64 0)) [(0, (5, (.tmp 5)))]) none), (AOper.mk none (.store 5 (.tmp 2) (.tmp 6)) none)] (some [2]) []) .ret)), [(2, (some (some 5)))]⟩
def a51 : AFun := ⟨(.seq (.region [(AOper.mk (some 2) (.box (.tmp 0)) none), (AOper.mk (some 3) (.box (.tmp 1)) none), (AOper.mk (some 4) (.alloc (List.replicate 5 (.int .u64 0))) none)] (some [2, 3, 4]) []) (.seq (.region [(AOper.mk (some 29) (.fieldAddr 0 (.tmp 2)) none), (AOper.mk (some 30) (.fieldAddr 0 (.tmp 3)) none), (AOper.mk (some 5) (.move (.tmp 29)) none), (AOper.mk (some 6) (.move (.tmp 30)) none)] (some [4, 5, 6]) []) (.seq (.region [(AOper.mk (some 31) (.move (.tmp 5)) none), (AOper.mk (some 32) (.nilCheck (.tmp 31)) none), (AOper.mk (some 33) (.indexAddr 5 1 (.tmp 32) (.const (.int .i64 1))) none), (AOper.mk (some 34) (.load none (.tmp 33)) none), (AOper.mk (some 35) (.bin .mul (.const (.int .u64 19)) (.tmp 34)) none), (AOper.mk (some 36) (.move (.tmp 5)) none), (AOper.mk (some 37) (.nilCheck (.tmp 36)) none), (AOper.mk (some 38) (.indexAddr 5 1 (.tmp 37) (.const (.int .i64 2))) none), (AOper.mk (some 39) (.load none (.tmp 38)) none), (AOper.mk (some 40) (.bin .mul (.const (.int .u64 19)) (.tmp 39)) none), (AOper.mk (some 41) (.move (.tmp 5)) none), (AOper.mk (some 42) (.nilCheck (.tmp 41)) none), (AOper.mk (some 43) (.indexAddr 5 1 (.tmp 42) (.const (.int .i64 3))) none), (AOper.mk (some 44) (.load none (.tmp 43)) none), (AOper.mk (some 45) (.bin .mul (.const (.int .u64 19)) (.tmp 44)) none), (AOper.mk (some 46) (.move (.tmp 5)) none), (AOper.mk (some 47) (.nilCheck (.tmp 46)) none), (AOper.mk (some 48) (.indexAddr 5 1 (.tmp 47) (.const (.int .i64 4))) none), (AOper.mk (some 49) (.load none (.tmp 48)) none), (AOper.mk (some 50) (.bin .mul (.const (.int .u64 19)) (.tmp 49)) none), (AOper.mk (some 7) (.move (.tmp 35)) none), (AOper.mk (some 8) (.move (.tmp 40)) none), (AOper.mk (some 9) (.move (.tmp 45)) none), (AOper.mk (some 10) (.move (.tmp 50)) none)] (some [4, 5, 6, 7, 8, 9, 10]) []) (.seq (.region [(AOper.mk (some 51) (.move (.tmp 5)) none), (AOper.mk (some 52) (.nilCheck (.tmp 51)) none), (AOper.mk (some 53) (.indexAddr 5 1 (.tmp 52) (.const (.int .i64 0))) none), (AOper.mk (some 54) (.load none (.tmp 53)) none), (AOper.mk (some 55) (.move (.tmp 6)) none), (AOper.mk (some 56) (.nilCheck (.tmp 55)) none), (AOper.mk (some 57) (.indexAddr 5 1 (.tmp 56) (.const (.int .i64 0))) none), (AOper.mk (some 58) (.load none (.tmp 57)) none), (AOper.mk (some 59) (.call 77 [(.tmp 54), (.tmp 58)] true) none), (AOper.mk (some 60) (.move (.tmp 7)) none), (AOper.mk (some 61) (.move (.tmp 6)) none), (AOper.mk (some 62) (.nilCheck (.tmp 61)) none), (AOper.mk (some 63) (.indexAddr 5 1 (.tmp 62) (.const (.int .i64 4))) none), (AOper.mk (some 64) (.load none (.tmp 63)) none), (AOper.mk (some 65) (.call 78 [(.tmp 59), (.tmp 60), (.tmp 64)] true) none), (AOper.mk (some 66) (.move (.tmp 8)) none), (AOper.mk (some 67) (.move (.tmp 6)) none), (AOper.mk (some 68) (.nilCheck (.tmp 67)) none), (AOper.mk (some 69) (.indexAddr 5 1 (.tmp 68) (.const (.int .i64 3))) none), (AOper.mk (some 70) (.load none (.tmp 69)) none), (AOper.mk (some 71) (.call 78 [(.tmp 65), (.tmp 66), (.tmp 70)] true) none), (AOper.mk (some 72) (.move (.tmp 9)) none), (AOper.mk (some 73) (.move (.tmp 6)) none), (AOper.mk (some 74) (.nilCheck (.tmp 73)) none), (AOper.mk (some 75) (.indexAddr 5 1 (.tmp 74) (.const (.int .i64 2))) none), (AOper.mk (some 76) (.load none (.tmp 75)) none), (AOper.mk (some 77) (.call 78 [(.tmp 71), (.tmp 72), (.tmp 76)] true) none), (AOper.mk (some 78) (.move (.tmp 10)) none), (AOper.mk (some 79) (.move (.tmp 6)) none), (AOper.mk (some 80) (.nilCheck (.tmp 79)) none), (AOper.mk (some 81) (.indexAddr 5 1 (.tmp 80) (.const (.int .i64 1))) none), (AOper.mk (some 82) (.load none (.tmp 81)) none), (AOper.mk (some 83) (.call 78 [(.tmp 77), (.tmp 78), (.tmp 82)] true) none), (AOper.mk (some 11) (.alloc [(.int .u64 0), (.int .u64 0)]) none), (AOper.mk none (.store 2 (.tmp 11) (.tmp 83)) none)] (some [4, 5, 6, 8, 9, 10, 11]) []) (.seq (.region [(AOper.mk (some 84) (.move (.tmp 5)) none), (AOper.mk (some 85) (.nilCheck (.tmp 84)) none), (AOper.mk (some 86) (.indexAddr 5 1 (.tmp 85) (.const (.int .i64 0))) none), (AOper.mk (some 87) (.load none (.tmp 86)) none), (AOper.mk (some 88) (.move (.tmp 6)) none), (AOper.mk (some 89) (.nilCheck (.tmp 88)) none), (AOper.mk (some 90) (.indexAddr 5 1 (.tmp 89) (.const (.int .i64 1))) none), (AOper.mk (some 91) (.load none (.tmp 90)) none), (AOper.mk (some 92) (.call 77 [(.tmp 87), (.tmp 91)] true) none), (AOper.mk (some 93) (.move (.tmp 5)) none), (AOper.mk (some 94) (.nilCheck (.tmp 93)) none), (AOper.mk (some 95) (.indexAddr 5 1 (.tmp 94) (.const (.int .i64 1))) none), (AOper.mk (some 96) (.load none (.tmp 95)) none), (AOper.mk (some 97) (.move (.tmp 6)) none), (AOper.mk (some 98) (.nilCheck (.tmp 97)) none), (AOper.mk (some 99) (.indexAddr 5 1 (.tmp 98) (.const (.int .i64 0))) none), (AOper.mk (some 100) (.load none (.tmp 99)) none), (AOper.mk (some 101) (.call 78 [(.tmp 92), (.tmp 96), (.tmp 100)] true) none), (AOper.mk (some 102) (.move (.tmp 8)) none), (AOper.mk (some 103) (.move (.tmp 6)) none), (AOper.mk (some 104) (.nilCheck (.tmp 103)) none), (AOper.mk (some 105) (.indexAddr 5 1 (.tmp 104) (.const (.int .i64 4))) none), (AOper.mk (some 106) (.load none (.tmp 105)) none), (AOper.mk (some 107) (.call 78 [(.tmp 101), (.tmp 102), (.tmp 106)] true) none), (AOper.mk (some 108) (.move (.tmp 9)) none), (AOper.mk (some 109) (.move (.tmp 6)) none), (AOper.mk (some 110) (.nilCheck (.tmp 109)) none), (AOper.mk (some 111) (.indexAddr 5 1 (.tmp 110) (.const (.int .i64 3))) none), (AOper.mk (some 112) (.load none (.tmp 111)) none), (AOper.mk (some 113) (.call 78 [(.tmp 107), (.tmp 108), (.tmp 112)] true) none), (AOper.mk (some 114) (.move (.tmp 10)) none), (AOper.mk (some 115) (.move (.tmp 6)) none), (AOper.mk (some 116) (.nilCheck (.tmp 115)) none), (AOper.mk (some 117) (.indexAddr 5 1 (.tmp 116) (.const (.int .i64 2))) none), (AOper.mk (some 118) (.load none (.tmp 117)) none), (AOper.mk (some 119) (.call 78 [(.tmp 113), (.tmp 114), (.tmp 118)] true) none), (AOper.mk (some 12) (.alloc [(.int .u64 0), (.int .u64 0)]) none), (AOper.mk none (.store 2 (.tmp 12) (.tmp 119)) none)] (some [4, 5, 6, 9, 10, 11, 12]) []) (.seq (.region [(AOper.mk (some 120) (.move (.tmp 5)) none), (AOper.mk (some 121) (.nilCheck (.tmp 120)) none), (AOper.mk (some 122) (.indexAddr 5 1 (.tmp 121) (.const (.int .i64 0))) none), (AOper.mk (some 123) (.load none (.tmp 122)) none), (AOper.mk (some 124) (.move (.tmp 6)) none), (AOper.mk (some 125) (.nilCheck (.tmp 124)) none), (AOper.mk (some 126) (.indexAddr 5 1 (.tmp 125) (.const (.int .i64 2))) none), (AOper.mk (some 127) (.load none (.tmp 126)) none), (AOper.mk (some 128) (.call 77 [(.tmp 123), (.tmp 127)] true) none), (AOper.mk (some 129) (.move (.tmp 5)) none), (AOper.mk (some 130) (.nilCheck (.tmp 129)) none), (AOper.mk (some 131) (.indexAddr 5 1 (.tmp 130) (.const (.int .i64 1))) none), (AOper.mk (some 132) (.load none (.tmp 131)) none), (AOper.mk (some 133) (.move (.tmp 6)) none), (AOper.mk (some 134) (.nilCheck (.tmp 133)) none), (AOper.mk (some 135) (.indexAddr 5 1 (.tmp 134) (.const (.int .i64 1))) none), (AOper.mk (some 136) (.load none (.tmp 135)) none), (AOper.mk (some 137) (.call 78 [(.tmp 128), (.tmp 132), (.tmp 136)] true) none), (AOper.mk (some 138) (.move (.tmp 5)) none), (AOper.mk (some 139) (.nilCheck (.tmp 138)) none), (AOper.mk (some 140) (.indexAddr 5 1 (.tmp 139) (.const (.int .i64 2))) none), (AOper.mk (some 141) (.load none (.tmp 140)) none), (AOper.mk (some 142) (.move (.tmp 6)) none), (AOper.mk (some 143) (.nilCheck (.tmp 142)) none), (AOper.mk (some 144) (.indexAddr 5 1 (.tmp 143) (.const (.int .i64 0))) none), (AOper.mk (some 145) (.load none (.tmp 144)) none), (AOper.mk (some 146) (.call 78 [(.tmp 137), (.tmp 141), (.tmp 145)] true) none), (AOper.mk (some 147) (.move (.tmp 9)) none), (AOper.mk (some 148) (.move (.tmp 6)) none), (AOper.mk (some 149) (.nilCheck (.tmp 148)) none), (AOper.mk (some 150) (.indexAddr 5 1 (.tmp 149) (.const (.int .i64 4))) none), (AOper.mk (some 151) (.load none (.tmp 150)) none), (AOper.mk (some 152) (.call 78 [(.tmp 146), (.tmp 147), (.tmp 151)] true) none), (AOper.mk (some 153) (.move (.tmp 10)) none), (AOper.mk (some 154) (.move (.tmp 6)) none), (AOper.mk (some 155) (.nilCheck (.tmp 154)) none), (AOper.mk (some 156) (.indexAddr 5 1 (.tmp 155) (.const (.int .i64 3))) none), (AOper.mk (some 157) (.load none (.tmp 156)) none), (AOper.mk (some 158) (.call 78 [(.tmp 152), (.tmp 153), (.tmp 157)] true) none), (AOper.mk (some 13) (.alloc [(.int .u64 0), (.int .u64 0)]) none), (AOper.mk none (.store 2 (.tmp 13) (.tmp 158)) none)] (some [4, 5, 6, 10, 11, 12, 13]) []) (.seq (.region [(AOper.mk (some 159) (.move (.tmp 5)) none), (AOper.mk (some 160) (.nilCheck (.tmp 159)) none), (AOper.mk (some 161) (.indexAddr 5 1 (.tmp 160) (.const (.int .i64 0))) none), (AOper.mk (some 162) (.load none (.tmp 161)) none), (AOper.mk (some 163) (.move (.tmp 6)) none), (AOper.mk (some 164) (.nilCheck (.tmp 163)) none), (AOper.mk (some 165) (.indexAddr 5 1 (.tmp 164) (.const (.int .i64 3))) none), (AOper.mk (some 166) (.load none (.tmp 165)) none), (AOper.mk (some 167) (.call 77 [(.tmp 162), (.tmp 166)] true) none), (AOper.mk (some 168) (.move (.tmp 5)) none), (AOper.mk (some 169) (.nilCheck (.tmp 168)) none), (AOper.mk (some 170) (.indexAddr 5 1 (.tmp 169) (.const (.int .i64 1))) none), (AOper.mk (some 171) (.load none (.tmp 170)) none), (AOper.mk (some 172) (.move (.tmp 6)) none), (AOper.mk (some 173) (.nilCheck (.tmp 172)) none), (AOper.mk (some 174) (.indexAddr 5 1 (.tmp 173) (.const (.int .i64 2))) none), (AOper.mk (some 175) (.load none (.tmp 174)) none), (AOper.mk (some 176) (.call 78 [(.tmp 167), (.tmp 171), (.tmp 175)] true) none), (AOper.mk (some 177) (.move (.tmp 5)) none), (AOper.mk (some 178) (.nilCheck (.tmp 177)) none), (AOper.mk (some 179) (.indexAddr 5 1 (.tmp 178) (.const (.int .i64 2))) none), (AOper.mk (some 180) (.load none (.tmp 179)) none), (AOper.mk (some 181) (.move (.tmp 6)) none), (AOper.mk (some 182) (.nilCheck (.tmp 181)) none), (AOper.mk (some 183) (.indexAddr 5 1 (.tmp 182) (.const (.int .i64 1))) none), (AOper.mk (some 184) (.load none (.tmp 183)) none), (AOper.mk (some 185) (.call 78 [(.tmp 176), (.tmp 180), (.tmp 184)] true) none), (AOper.mk (some 186) (.move (.tmp 5)) none), (AOper.mk (some 187) (.nilCheck (.tmp 186)) none), (AOper.mk (some 188) (.indexAddr 5 1 (.tmp 187) (.const (.int .i64 3))) none), (AOper.mk (some 189) (.load none (.tmp 188)) none), (AOper.mk (some 190) (.move (.tmp 6)) none), (AOper.mk (some 191) (.nilCheck (.tmp 190)) none), (AOper.mk (some 192) (.indexAddr 5 1 (.tmp 191) (.const (.int .i64 0))) none), (AOper.mk (some 193) (.load none (.tmp 192)) none), (AOper.mk (some 194) (.call 78 [(.tmp 185), (.tmp 189), (.tmp 193)] true) none), (AOper.mk (some 195) (.move (.tmp 10)) none), (AOper.mk (some 196) (.move (.tmp 6)) none), (AOper.mk (some 197) (.nilCheck (.tmp 196)) none), (AOper.mk (some 198) (.indexAddr 5 1 (.tmp 197) (.const (.int .i64 4))) none), (AOper.mk (some 199) (.load none (.tmp 198)) none), (AOper.mk (some 200) (.call 78 [(.tmp 194), (.tmp 195), (.tmp 199)] true) none), (AOper.mk (some 14) (.alloc [(.int .u64 0), (.int .u64 0)]) none), (AOper.mk none (.store 2 (.tmp 14) (.tmp 200)) none)] (some [4, 5, 6, 11, 12, 13, 14]) []) (.seq (.region [(AOper.mk (some 201) (.move (.tmp 5)) none), (AOper.mk (some 202) (.nilCheck (.tmp 201)) none), (AOper.mk (some 203) (.indexAddr 5 1 (.tmp 202) (.const (.int .i64 0))) none), (AOper.mk (some 204) (.load none (.tmp 203)) none), (AOper.mk (some 205) (.move (.tmp 6)) none), (AOper.mk (some 206) (.nilCheck (.tmp 205)) none), (AOper.mk (some 207) (.indexAddr 5 1 (.tmp 206) (.const (.int .i64 4))) none), (AOper.mk (some 208) (.load none (.tmp 207)) none), (AOper.mk (some 209) (.call 77 [(.tmp 204), (.tmp 208)] true) none), (AOper.mk (some 210) (.move (.tmp 5)) none), (AOper.mk (some 211) (.nilCheck (.tmp 210)) none), (AOper.mk (some 212) (.indexAddr 5 1 (.tmp 211) (.const (.int .i64 1))) none), (AOper.mk (some 213) (.load none (.tmp 212)) none), (AOper.mk (some 214) (.move (.tmp 6)) none), (AOper.mk (some 215) (.nilCheck (.tmp 214)) none), (AOper.mk (some 216) (.indexAddr 5 1 (.tmp 215) (.const (.int .i64 3))) none), (AOper.mk (some 217) (.load none (.tmp 216)) none), (AOper.mk (some 218) (.call 78 [(.tmp 209), (.tmp 213), (.tmp 217)] true) none), (AOper.mk (some 219) (.move (.tmp 5)) none), (AOper.mk (some 220) (.nilCheck (.tmp 219)) none), (AOper.mk (some 221) (.indexAddr 5 1 (.tmp 220) (.const (.int .i64 2))) none), (AOper.mk (some 222) (.load none (.tmp 221)) none), (AOper.mk (some 223) (.move (.tmp 6)) none), (AOper.mk (some 224) (.nilCheck (.tmp 223)) none), (AOper.mk (some 225) (.indexAddr 5 1 (.tmp 224) (.const (.int .i64 2))) none), (AOper.mk (some 226) (.load none (.tmp 225)) none), (AOper.mk (some 227) (.call 78 [(.tmp 218), (.tmp 222), (.tmp 226)] true) none), (AOper.mk (some 228) (.move (.tmp 5)) none), (AOper.mk (some 229) (.nilCheck (.tmp 228)) none), (AOper.mk (some 230) (.indexAddr 5 1 (.tmp 229) (.const (.int .i64 3))) none), (AOper.mk (some 231) (.load none (.tmp 230)) none), (AOper.mk (some 232) (.move (.tmp 6)) none), (AOper.mk (some 233) (.nilCheck (.tmp 232)) none), (AOper.mk (some 234) (.indexAddr 5 1 (.tmp 233) (.const (.int .i64 1))) none), (AOper.mk (some 235) (.load none (.tmp 234)) none), (AOper.mk (some 236) (.call 78 [(.tmp 227), (.tmp 231), (.tmp 235)] true) none), (AOper.mk (some 237) (.move (.tmp 5)) none), (AOper.mk (some 238) (.nilCheck (.tmp 237)) none), (AOper.mk (some 239) (.indexAddr 5 1 (.tmp 238) (.const (.int .i64 4))) none), (AOper.mk (some 240) (.load none (.tmp 239)) none), (AOper.mk (some 241) (.move (.tmp 6)) none), (AOper.mk (some 242) (.nilCheck (.tmp 241)) none), (AOper.mk (some 243) (.indexAddr 5 1 (.tmp 242) (.const (.int .i64 0))) none), (AOper.mk (some 244) (.load none (.tmp 243)) none), (AOper.mk (some 245) (.call 78 [(.tmp 236), (.tmp 240), (.tmp 244)] true) none), (AOper.mk (some 15) (.alloc [(.int .u64 0), (.int .u64 0)]) none), (AOper.mk none (.store 2 (.tmp 15) (.tmp 245)) none)] (some [4, 11, 12, 13, 14, 15]) []) (.seq (.region [(AOper.mk (some 247) (.load (some 2) (.tmp 11)) none), (AOper.mk (some 248) (.call 79 [(.tmp 247)] true) none), (AOper.mk (some 246) (.move (.tmp 248)) none), (AOper.mk (some 249) (.extract (.tmp 246) 0) none), (AOper.mk (some 250) (.extract (.tmp 246) 1) none), (AOper.mk (some 16) (.move (.tmp 249)) none), (AOper.mk (some 17) (.move (.tmp 250)) none)] (some [4, 12, 13, 14, 15, 16, 17]) []) (.seq (.region [(AOper.mk (some 252) (.load (some 2) (.tmp 12)) none), (AOper.mk (some 253) (.call 79 [(.tmp 252)] true) none), (AOper.mk (some 251) (.move (.tmp 253)) none), (AOper.mk (some 254) (.extract (.tmp 251) 0) none), (AOper.mk (some 255) (.extract (.tmp 251) 1) none), (AOper.mk (some 18) (.move (.tmp 254)) none), (AOper.mk (some 19) (.move (.tmp 255)) none)] (some [4, 13, 14, 15, 16, 17, 18, 19]) []) (.seq (.region [(AOper.mk (some 257) (.load (some 2) (.tmp 13)) none), (AOper.mk (some 258) (.call 79 [(.tmp 257)] true) none), (AOper.mk (some 256) (.move (.tmp 258)) none), (AOper.mk (some 259) (.extract (.tmp 256) 0) none), (AOper.mk (some 260) (.extract (.tmp 256) 1) none), (AOper.mk (some 20) (.move (.tmp 259)) none), (AOper.mk (some 21) (.move (.tmp 260)) none)] (some [4, 14, 15, 16, 17, 18, 19, 20, 21]) []) (.seq (.region [(AOper.mk (some 262) (.load (some 2) (.tmp 14)) none), (AOper.mk (some 263) (.call 79 [(.tmp 262)] true) none), (AOper.mk (some 261) (.move (.tmp 263)) none), (AOper.mk (some 264) (.extract (.tmp 261) 0) none), (AOper.mk (some 265) (.extract (.tmp 261) 1) none), (AOper.mk (some 22) (.move (.tmp 264)) none), (AOper.mk (some 23) (.move (.tmp 265)) none)] (some [4, 15, 16, 17, 18, 19, 20, 21, 22, 23]) []) (.seq (.region [(AOper.mk (some 267) (.load (some 2) (.tmp 15)) none), (AOper.mk (some 268) (.call 79 [(.tmp 267)] true) none), (AOper.mk (some 266) (.move (.tmp 268)) none), (AOper.mk (some 269) (.extract (.tmp 266) 0) none), (AOper.mk (some 270) (.extract (.tmp 266) 1) none), (AOper.mk (some 24) (.move (.tmp 269)) none), (AOper.mk (some 25) (.move (.tmp 270)) none)] (some [4, 16, 17, 18, 19, 20, 21, 22, 23, 24, 25]) []) (.seq (.region [(AOper.mk (some 271) (.move (.tmp 24)) none), (AOper.mk (some 272) (.call 77 [(.const (.int .u64 19)), (.tmp 271)] true) none), (AOper.mk (some 273) (.move (.tmp 17)) none), (AOper.mk (some 274) (.call 80 [(.tmp 272), (.tmp 273)] true) none), (AOper.mk (some 26) (.alloc [(.int .u64 0), (.int .u64 0)]) none), (AOper.mk none (.store 2 (.tmp 26) (.tmp 274)) none)] (some [4, 16, 18, 19, 20, 21, 22, 23, 25, 26]) []) (.seq (.region [(AOper.mk (some 276) (.load (some 2) (.tmp 26)) none), (AOper.mk (some 277) (.call 79 [(.tmp 276)] true) none), (AOper.mk (some 275) (.move (.tmp 277)) none), (AOper.mk (some 278) (.extract (.tmp 275) 0) none), (AOper.mk (some 279) (.extract (.tmp 275) 1) none), (AOper.mk (some 27) (.move (.tmp 278)) none), (AOper.mk (some 28) (.move (.tmp 279)) none)] (some [4, 16, 18, 19, 20, 21, 22, 23, 25, 27, 28]) []) (.seq (.region [(AOper.mk (some 280) (.move (.tmp 28)) none), (AOper.mk (some 281) (.move (.tmp 19)) none), (AOper.mk (some 282) (.move (.tmp 16)) none), (AOper.mk (some 283) (.bin .add (.tmp 281) (.tmp 282)) none), (AOper.mk (some 284) (.move (.tmp 27)) none), (AOper.mk (some 285) (.bin .add (.tmp 283) (.tmp 284)) none), (AOper.mk (some 286) (.move (.tmp 21)) none), (AOper.mk (some 287) (.move (.tmp 18)) none), (AOper.mk (some 288) (.bin .add (.tmp 286) (.tmp 287)) none), (AOper.mk (some 289) (.move (.tmp 23)) none), (AOper.mk (some 290) (.move (.tmp 20)) none), (AOper.mk (some 291) (.bin .add (.tmp 289) (.tmp 290)) none), (AOper.mk (some 292) (.move (.tmp 25)) none), (AOper.mk (some 293) (.move (.tmp 22)) none), (AOper.mk (some 294) (.bin .add (.tmp 292) (.tmp 293)) none), (AOper.mk (some 295) (.build (List.replicate 5 (.int .u64 0)) [(0, (1, (.tmp 280))), (1, (1, (.tmp 285))), (2, (1, (.tmp 288))), (3, (1, (.tmp 291))), (4, (1, (.tmp 294)))]) none), (AOper.mk (some 296) (.build (List.replicate 5 (.int .u64 0)) [(0, (5, (.tmp 295)))]) none), (AOper.mk (some 297) (.call 81 [(.tmp 296)] true) none), (AOper.mk none (.store 5 (.tmp 4) (.tmp 297)) none)] (some [4]) []) .ret)))))))))))))))), [(4, (some (some 5)))]⟩
def a52 : AFun := ⟨(.seq (.region [(AOper.mk (some 0) (.alloc (List.replicate 5 (.int .u64 0))) none)] (some [0]) []) (.seq (.region [(AOper.mk (some 1) (.build (List.replicate 32 (.int .u8 0)) [(0, (1, (.const (.int .u8 163)))), (1, (1, (.const (.int .u8 120)))), (2, (1, (.const (.int .u8 89)))), (3, (1, (.const (.int .u8 19)))), (4, (1, (.const (.int .u8 202)))), (5, (1, (.const (.int .u8 77)))), (6, (1, (.const (.int .u8 235)))), (7, (1, (.const (.int .u8 117)))), (8, (1, (.const (.int .u8 171)))), (9, (1, (.const (.int .u8 216)))), (10, (1, (.const (.int .u8 65)))), (11, (1, (.const (.int .u8 65)))), (12, (1, (.const (.int .u8 77)))), (13, (1, (.const (.int .u8 10)))), (14, (1, (.const (.int .u8 112)))), (15, (1, (.const (.int .u8 0)))), (16, (1, (.const (.int .u8 152)))), (17, (1, (.const (.int .u8 232)))), (18, (1, (.const (.int .u8 121)))), (19, (1, (.const (.int .u8 119)))), (20, (1, (.const (.int .u8 121)))), (21, (1, (.const (.int .u8 64)))), (22, (1, (.const (.int .u8 199)))), (23, (1, (.const (.int .u8 140)))), (24, (1, (.const (.int .u8 115)))), (25, (1, (.const (.int .u8 254)))), (26, (1, (.const (.int .u8 111)))), (27, (1, (.const (.int .u8 43)))), (28, (1, (.const (.int .u8 238)))), (29, (1, (.const (.int .u8 108)))), (30, (1, (.const (.int .u8 3)))), (31, (1, (.const (.int .u8 82))))]) none), (AOper.mk (some 2) (.call 49 [(.tmp 1)] true) none), (AOper.mk none (.store 5 (.tmp 0) (.tmp 2)) none)] (some [0]) []) .ret)), [(0, (some (some 5)))]⟩
def a53 : AFun := ⟨(.seq (.region [(AOper.mk (some 1) (.box (.tmp 0)) none), (AOper.mk (some 2) (.alloc (List.replicate 20 (.int .u64 0))) none)] (some [1, 2]) []) (.seq (.region [(AOper.mk (some 11) (.fieldAddr 0 (.tmp 1)) none), (AOper.mk (some 12) (.load (some 5) (.tmp 11)) none), (AOper.mk (some 13) (.fieldAddr 0 (.tmp 1)) none), (AOper.mk (some 14) (.load (some 5) (.tmp 13)) none), (AOper.mk (some 15) (.call 51 [(.tmp 12), (.tmp 14)] true) none), (AOper.mk (some 16) (.fieldAddr 5 (.tmp 1)) none), (AOper.mk (some 17) (.load (some 5) (.tmp 16)) none), (AOper.mk (some 18) (.fieldAddr 5 (.tmp 1)) none), (AOper.mk (some 19) (.load (some 5) (.tmp 18)) none), (AOper.mk (some 20) (.call 51 [(.tmp 17), (.tmp 19)] true) none), (AOper.mk (some 3) (.alloc (List.replicate 5 (.int .u64 0))) none), (AOper.mk (some 4) (.alloc (List.replicate 5 (.int .u64 0))) none), (AOper.mk none (.store 5 (.tmp 3) (.tmp 15)) none), (AOper.mk none (.store 5 (.tmp 4) (.tmp 20)) none)] (some [1, 2, 3, 4]) []) (.seq (.region [(AOper.mk (some 21) (.call 50 [(.const (.int .u32 2))] true) none), (AOper.mk (some 22) (.fieldAddr 10 (.tmp 1)) none), (AOper.mk (some 23) (.load (some 5) (.tmp 22)) none), (AOper.mk (some 24) (.fieldAddr 10 (.tmp 1)) none), (AOper.mk (some 25) (.load (some 5) (.tmp 24)) none), (AOper.mk (some 26) (.buildSlice (List.replicate 15 (.int .u64 0)) 3 [(0, (5, (.tmp 21))), (5, (5, (.tmp 23))), (10, (5, (.tmp 25)))]) none), (AOper.mk (some 27) (.call 82 [(.tmp 26)] false) none), (AOper.mk (some 5) (.alloc (List.replicate 5 (.int .u64 0))) none), (AOper.mk none (.store 5 (.tmp 5) (.tmp 27)) none)] (some [1, 2, 3, 4, 5]) []) (.seq (.region [(AOper.mk (some 28) (.load (some 5) (.tmp 3)) none), (AOper.mk (some 29) (.load (some 5) (.tmp 4)) none), (AOper.mk (some 30) (.buildSlice (List.replicate 10 (.int .u64 0)) 2 [(0, (5, (.tmp 28))), (5, (5, (.tmp 29)))]) none), (AOper.mk (some 31) (.call 62 [(.tmp 30)] false) none), (AOper.mk (some 6) (.alloc (List.replicate 5 (.int .u64 0))) none), (AOper.mk none (.store 5 (.tmp 6) (.tmp 31)) none)] (some [1, 2, 3, 4, 5, 6]) []) (.seq (.region [(AOper.mk (some 32) (.fieldAddr 0 (.tmp 1)) none), (AOper.mk (some 33) (.load (some 5) (.tmp 32)) none), (AOper.mk (some 34) (.fieldAddr 5 (.tmp 1)) none), (AOper.mk (some 35) (.load (some 5) (.tmp 34)) none), (AOper.mk (some 36) (.buildSlice (List.replicate 10 (.int .u64 0)) 2 [(0, (5, (.tmp 33))), (5, (5, (.tmp 35)))]) none), (AOper.mk (some 37) (.call 62 [(.tmp 36)] false) none), (AOper.mk (some 7) (.alloc (List.replicate 5 (.int .u64 0))) none), (AOper.mk none (.store 5 (.tmp 7) (.tmp 37)) none)] (some [2, 3, 4, 5, 6, 7]) []) (.seq (.region [(AOper.mk (some 38) (.load (some 5) (.tmp 6)) none), (AOper.mk (some 39) (.load (some 5) (.tmp 7)) none), (AOper.mk (some 40) (.load (some 5) (.tmp 7)) none), (AOper.mk (some 41) (.call 51 [(.tmp 39), (.tmp 40)] true) none), (AOper.mk (some 42) (.call 61 [(.tmp 38), (.tmp 41)] true) none), (AOper.mk (some 8) (.alloc (List.replicate 5 (.int .u64 0))) none), (AOper.mk none (.store 5 (.tmp 8) (.tmp 42)) none)] (some [2, 3, 4, 5, 6, 8]) []) (.seq (.region [(AOper.mk (some 43) (.load (some 5) (.tmp 3)) none), (AOper.mk (some 44) (.load (some 5) (.tmp 4)) none), (AOper.mk (some 45) (.call 61 [(.tmp 43), (.tmp 44)] true) none), (AOper.mk (some 9) (.alloc (List.replicate 5 (.int .u64 0))) none), (AOper.mk none (.store 5 (.tmp 9) (.tmp 45)) none)] (some [2, 5, 6, 8, 9]) []) (.seq (.region [(AOper.mk (some 46) (.load (some 5) (.tmp 5)) none), (AOper.mk (some 47) (.load (some 5) (.tmp 9)) none), (AOper.mk (some 48) (.buildSlice (List.replicate 10 (.int .u64 0)) 2 [(0, (5, (.tmp 46))), (5, (5, (.tmp 47)))]) none), (AOper.mk (some 49) (.call 62 [(.tmp 48)] false) none), (AOper.mk (some 10) (.alloc (List.replicate 5 (.int .u64 0))) none), (AOper.mk none (.store 5 (.tmp 10) (.tmp 49)) none)] (some [2, 6, 8, 9, 10]) []) (.seq (.region [(AOper.mk (some 50) (.load (some 5) (.tmp 8)) none), (AOper.mk (some 51) (.load (some 5) (.tmp 10)) none), (AOper.mk (some 52) (.call 51 [(.tmp 50), (.tmp 51)] true) none), (AOper.mk (some 53) (.load (some 5) (.tmp 9)) none), (AOper.mk (some 54) (.load (some 5) (.tmp 6)) none), (AOper.mk (some 55) (.call 51 [(.tmp 53), (.tmp 54)] true) none), (AOper.mk (some 56) (.load (some 5) (.tmp 10)) none), (AOper.mk (some 57) (.load (some 5) (.tmp 9)) none), (AOper.mk (some 58) (.call 51 [(.tmp 56), (.tmp 57)] true) none), (AOper.mk (some 59) (.load (some 5) (.tmp 8)) none), (AOper.mk (some 60) (.load (some 5) (.tmp 6)) none), (AOper.mk (some 61) (.call 51 [(.tmp 59), (.tmp 60)] true) none), (AOper.mk (some 62) (.build (List.replicate 20 (.int .u64 0)) [(0, (5, (.tmp 52))), (5, (5, (.tmp 55))), (10, (5, (.tmp 58))), (15, (5, (.tmp 61)))]) none), (AOper.mk none (.store 20 (.tmp 2) (.tmp 62)) none)] (some [2]) []) .ret))))))))), [(2, (some (some 20)))]⟩
def a54 : AFun := ⟨(.seq (.region [(AOper.mk (some 3) (.box (.tmp 0)) none), (AOper.mk (some 4) (.box (.tmp 1)) none), (AOper.mk (some 5) (.box (.tmp 2)) none), (AOper.mk (some 6) (.alloc (List.replicate 20 (.int .u64 0))) none)] (some [3, 4, 5, 6]) []) (.seq (.region [(AOper.mk (some 15) (.fieldAddr 5 (.tmp 3)) none), (AOper.mk (some 16) (.load (some 5) (.tmp 15)) none), (AOper.mk (some 17) (.fieldAddr 0 (.tmp 3)) none), (AOper.mk (some 18) (.load (some 5) (.tmp 17)) none), (AOper.mk (some 19) (.call 61 [(.tmp 16), (.tmp 18)] true) none), (AOper.mk (some 20) (.fieldAddr 5 (.tmp 4)) none), (AOper.mk (some 21) (.load (some 5) (.tmp 20)) none), (AOper.mk (some 22) (.fieldAddr 0 (.tmp 4)) none), (AOper.mk (some 23) (.load (some 5) (.tmp 22)) none), (AOper.mk (some 24) (.call 61 [(.tmp 21), (.tmp 23)] true) none), (AOper.mk (some 25) (.call 51 [(.tmp 19), (.tmp 24)] true) none), (AOper.mk (some 7) (.alloc (List.replicate 5 (.int .u64 0))) none), (AOper.mk none (.store 5 (.tmp 7) (.tmp 25)) none)] (some [3, 4, 5, 6, 7]) []) (.seq (.region [(AOper.mk (some 26) (.fieldAddr 5 (.tmp 3)) none), (AOper.mk (some 27) (.load (some 5) (.tmp 26)) none), (AOper.mk (some 28) (.fieldAddr 0 (.tmp 3)) none), (AOper.mk (some 29) (.load (some 5) (.tmp 28)) none), (AOper.mk (some 30) (.buildSlice (List.replicate 10 (.int .u64 0)) 2 [(0, (5, (.tmp 27))), (5, (5, (.tmp 29)))]) none), (AOper.mk (some 31) (.call 62 [(.tmp 30)] false) none), (AOper.mk (some 32) (.fieldAddr 5 (.tmp 4)) none), (AOper.mk (some 33) (.load (some 5) (.tmp 32)) none), (AOper.mk (some 34) (.fieldAddr 0 (.tmp 4)) none), (AOper.mk (some 35) (.load (some 5) (.tmp 34)) none), (AOper.mk (some 36) (.buildSlice (List.replicate 10 (.int .u64 0)) 2 [(0, (5, (.tmp 33))), (5, (5, (.tmp 35)))]) none), (AOper.mk (some 37) (.call 62 [(.tmp 36)] false) none), (AOper.mk (some 38) (.call 51 [(.tmp 31), (.tmp 37)] true) none), (AOper.mk (some 8) (.alloc (List.replicate 5 (.int .u64 0))) none), (AOper.mk none (.store 5 (.tmp 8) (.tmp 38)) none)] (some [3, 4, 5, 6, 7, 8]) [(5, 7), (5, 9)]) (.seq (.region [(AOper.mk (some 39) (.call 50 [(.const (.int .u32 2))] true) none), (AOper.mk (some 40) (.load (some 5) (.tmp 5)) none), (AOper.mk (some 41) (.fieldAddr 15 (.tmp 3)) none), (AOper.mk (some 42) (.load (some 5) (.tmp 41)) none), (AOper.mk (some 43) (.fieldAddr 15 (.tmp 4)) none), (AOper.mk (some 44) (.load (some 5) (.tmp 43)) none), (AOper.mk (some 45) (.buildSlice (List.replicate 20 (.int .u64 0)) 4 [(0, (5, (.tmp 39))), (5, (5, (.tmp 40))), (10, (5, (.tmp 42))), (15, (5, (.tmp 44)))]) none), (AOper.mk (some 46) (.call 82 [(.tmp 45)] false) none), (AOper.mk (some 9) (.alloc (List.replicate 5 (.int .u64 0))) none), (AOper.mk none (.store 5 (.tmp 9) (.tmp 46)) none)] (some [3, 4, 6, 7, 8, 9]) []) (.seq (.region [(AOper.mk (some 47) (.call 50 [(.const (.int .u32 2))] true) none), (AOper.mk (some 48) (.fieldAddr 10 (.tmp 3)) none), (AOper.mk (some 49) (.load (some 5) (.tmp 48)) none), (AOper.mk (some 50) (.fieldAddr 10 (.tmp 4)) none), (AOper.mk (some 51) (.load (some 5) (.tmp 50)) none), (AOper.mk (some 52) (.buildSlice (List.replicate 15 (.int .u64 0)) 3 [(0, (5, (.tmp 47))), (5, (5, (.tmp 49))), (10, (5, (.tmp 51)))]) none), (AOper.mk (some 53) (.call 82 [(.tmp 52)] false) none), (AOper.mk (some 10) (.alloc (List.replicate 5 (.int .u64 0))) none), (AOper.mk none (.store 5 (.tmp 10) (.tmp 53)) none)] (some [6, 7, 8, 9, 10]) []) (.seq (.region [(AOper.mk (some 54) (.load (some 5) (.tmp 8)) none), (AOper.mk (some 55) (.load (some 5) (.tmp 7)) none), (AOper.mk (some 56) (.call 61 [(.tmp 54), (.tmp 55)] true) none), (AOper.mk (some 57) (.load (some 5) (.tmp 10)) none), (AOper.mk (some 58) (.load (some 5) (.tmp 9)) none), (AOper.mk (some 59) (.call 61 [(.tmp 57), (.tmp 58)] true) none), (AOper.mk (some 60) (.load (some 5) (.tmp 10)) none), (AOper.mk (some 61) (.load (some 5) (.tmp 9)) none), (AOper.mk (some 62) (.buildSlice (List.replicate 10 (.int .u64 0)) 2 [(0, (5, (.tmp 60))), (5, (5, (.tmp 61)))]) none), (AOper.mk (some 63) (.call 62 [(.tmp 62)] false) none), (AOper.mk (some 64) (.load (some 5) (.tmp 8)) none), (AOper.mk (some 65) (.load (some 5) (.tmp 7)) none), (AOper.mk (some 66) (.buildSlice (List.replicate 10 (.int .u64 0)) 2 [(0, (5, (.tmp 64))), (5, (5, (.tmp 65)))]) none), (AOper.mk (some 67) (.call 62 [(.tmp 66)] false) none), (AOper.mk (some 11) (.alloc (List.replicate 5 (.int .u64 0))) none), (AOper.mk (some 12) (.alloc (List.replicate 5 (.int .u64 0))) none), (AOper.mk (some 13) (.alloc (List.replicate 5 (.int .u64 0))) none), (AOper.mk (some 14) (.alloc (List.replicate 5 (.int .u64 0))) none), (AOper.mk none (.store 5 (.tmp 11) (.tmp 56)) none), (AOper.mk none (.store 5 (.tmp 12) (.tmp 59)) none), (AOper.mk none (.store 5 (.tmp 13) (.tmp 63)) none), (AOper.mk none (.store 5 (.tmp 14) (.tmp 67)) none)] (some [6, 11, 12, 13, 14]) [(9, 10), (9, 11)]) (.seq (.region [(AOper.mk (some 68) (.load (some 5) (.tmp 11)) none), (AOper.mk (some 69) (.load (some 5) (.tmp 12)) none), (AOper.mk (some 70) (.call 51 [(.tmp 68), (.tmp 69)] true) none), (AOper.mk (some 71) (.load (some 5) (.tmp 13)) none), (AOper.mk (some 72) (.load (some 5) (.tmp 14)) none), (AOper.mk (some 73) (.call 51 [(.tmp 71), (.tmp 72)] true) none), (AOper.mk (some 74) (.load (some 5) (.tmp 12)) none), (AOper.mk (some 75) (.load (some 5) (.tmp 13)) none), (AOper.mk (some 76) (.call 51 [(.tmp 74), (.tmp 75)] true) none), (AOper.mk (some 77) (.load (some 5) (.tmp 11)) none), (AOper.mk (some 78) (.load (some 5) (.tmp 14)) none), (AOper.mk (some 79) (.call 51 [(.tmp 77), (.tmp 78)] true) none), (AOper.mk (some 80) (.build (List.replicate 20 (.int .u64 0)) [(0, (5, (.tmp 70))), (5, (5, (.tmp 73))), (10, (5, (.tmp 76))), (15, (5, (.tmp 79)))]) none), (AOper.mk none (.store 20 (.tmp 6) (.tmp 80)) none)] (some [6]) []) .ret))))))), [(6, (some (some 20)))]⟩
def a55 : AFun := ⟨(.seq (.region [(AOper.mk (some 2) (.box (.tmp 0)) none), (AOper.mk (some 3) (.box (.tmp 1)) none), (AOper.mk (some 4) (.move (.const (.bool false))) none)] (some [2, 3]) []) (.seq (.region [(AOper.mk (some 5) (.load (some 5) (.tmp 2)) none), (AOper.mk (some 6) (.call 57 [(.tmp 5)] true) none), (AOper.mk (some 7) (.load (some 5) (.tmp 3)) none), (AOper.mk (some 8) (.call 57 [(.tmp 7)] true) none), (AOper.mk (some 9) (.eqv (some (List.replicate 32 true)) false (.tmp 6) (.tmp 8)) none), (AOper.mk (some 4) (.move (.tmp 9)) none)] (some [4]) []) .ret)), [(4, none)]⟩
def a56 : AFun := ⟨(.seq (.region [(AOper.mk (some 1) (.box (.tmp 0)) none), (AOper.mk (some 2) (.alloc (List.replicate 5 (.int .u64 0))) none)] (some [1, 2]) []) (.seq (.region [(AOper.mk (some 3) (.load (some 5) (.tmp 1)) none), (AOper.mk (some 4) (.call 84 [(.const (.int .i64 255)), (.const (.int .u8 20))] true) none), (AOper.mk (some 5) (.call 83 [(.tmp 3), (.tmp 4)] true) none), (AOper.mk none (.store 5 (.tmp 2) (.tmp 5)) none)] (some [2]) []) .ret)), [(2, (some (some 5)))]⟩
def a57_l0 : ACode := (.seq (.region [(AOper.mk (some 55) (.bin .lss (.tmp 54) (.const (.int .i64 255))) none)] (some [1, 2, 6, 54, 55]) []) (.seq (.cond (.tmp 55) .skip (.exit 4)) (.seq (.block 5 (.seq (.region [(AOper.mk (some 56) (.move (.tmp 54)) none), (AOper.mk (some 8) (.move (.tmp 56)) none)] (some [1, 2, 6, 8, 54]) []) (.region [(AOper.mk (some 57) (.move (.tmp 8)) none), (AOper.mk (some 58) (.bin .quo (.tmp 57) (.const (.int .i64 8))) none), (AOper.mk (some 59) (.indexAddr 32 1 (.tmp 6) (.tmp 58)) none), (AOper.mk (some 60) (.load none (.tmp 59)) none), (AOper.mk (some 61) (.move (.tmp 8)) none), (AOper.mk (some 62) (.bin .quo (.tmp 61) (.const (.int .i64 51))) none), (AOper.mk (some 63) (.fieldAddr 0 (.tmp 1)) none), (AOper.mk (some 64) (.indexAddr 5 1 (.tmp 63) (.tmp 62)) none), (AOper.mk (some 65) (.load none (.tmp 64)) none), (AOper.mk (some 66) (.move (.tmp 8)) none), (AOper.mk (some 67) (.bin .rem (.tmp 66) (.const (.int .i64 51))) none), (AOper.mk (some 68) (.bin .shr (.tmp 65) (.tmp 67)) none), (AOper.mk (some 69) (.bin .and (.tmp 68) (.const (.int .u64 1))) none), (AOper.mk (some 70) (.conv .u8 (.tmp 69)) none), (AOper.mk (some 71) (.move (.tmp 8)) none), (AOper.mk (some 72) (.bin .rem (.tmp 71) (.const (.int .i64 8))) none), (AOper.mk (some 73) (.bin .shl (.tmp 70) (.tmp 72)) none), (AOper.mk (some 74) (.bin .or (.tmp 60) (.tmp 73)) none), (AOper.mk (some 75) (.indexAddr 32 1 (.tmp 6) (.tmp 58)) none), (AOper.mk none (.store 1 (.tmp 75) (.tmp 74)) none)] (some [1, 2, 6, 54]) []))) (.region [(AOper.mk (some 76) (.bin .add (.tmp 54) (.const (.int .i64 1))) none), (AOper.mk (some 54) (.move (.tmp 76)) none)] (some [1, 2, 6, 54]) []))))
def a57_l1 : ACode := (.seq (.region [(AOper.mk (some 31) (.bin .lss (.tmp 30) (.const (.int .i64 5))) none)] (some [1, 2, 3, 6, 30, 31]) []) (.seq (.cond (.tmp 31) .skip (.exit 2)) (.seq (.block 3 (.seq (.region [(AOper.mk (some 32) (.move (.tmp 30)) none), (AOper.mk (some 7) (.move (.tmp 32)) none)] (some [1, 2, 3, 6, 7, 30]) []) (.seq (.region [(AOper.mk (some 33) (.move (.tmp 7)) none), (AOper.mk (some 34) (.fieldAddr 0 (.tmp 1)) none), (AOper.mk (some 35) (.indexAddr 5 1 (.tmp 34) (.tmp 33)) none), (AOper.mk (some 36) (.load none (.tmp 35)) none), (AOper.mk (some 37) (.move (.tmp 3)) none), (AOper.mk (some 38) (.bin .add (.tmp 36) (.tmp 37)) none), (AOper.mk (some 39) (.fieldAddr 0 (.tmp 1)) none), (AOper.mk (some 40) (.indexAddr 5 1 (.tmp 39) (.tmp 33)) none), (AOper.mk none (.store 1 (.tmp 40) (.tmp 38)) none)] (some [1, 2, 6, 7, 30]) []) (.seq (.region [(AOper.mk (some 41) (.move (.tmp 7)) none), (AOper.mk (some 42) (.fieldAddr 0 (.tmp 1)) none), (AOper.mk (some 43) (.indexAddr 5 1 (.tmp 42) (.tmp 41)) none), (AOper.mk (some 44) (.load none (.tmp 43)) none), (AOper.mk (some 45) (.bin .shr (.tmp 44) (.const (.int .u64 51))) none), (AOper.mk (some 3) (.move (.tmp 45)) none)] (some [1, 2, 3, 6, 7, 30]) []) (.region [(AOper.mk (some 46) (.move (.tmp 7)) none), (AOper.mk (some 47) (.fieldAddr 0 (.tmp 1)) none), (AOper.mk (some 48) (.indexAddr 5 1 (.tmp 47) (.tmp 46)) none), (AOper.mk (some 49) (.load none (.tmp 48)) none), (AOper.mk (some 50) (.bin .and (.tmp 49) (.const (.int .u64 2251799813685247))) none), (AOper.mk (some 51) (.fieldAddr 0 (.tmp 1)) none), (AOper.mk (some 52) (.indexAddr 5 1 (.tmp 51) (.tmp 46)) none), (AOper.mk none (.store 1 (.tmp 52) (.tmp 50)) none)] (some [1, 2, 3, 6, 30]) []))))) (.region [(AOper.mk (some 53) (.bin .add (.tmp 30) (.const (.int .i64 1))) none), (AOper.mk (some 30) (.move (.tmp 53)) none)] (some [1, 2, 3, 6, 30]) []))))
def a57_l2 : ACode := (.seq (.region [(AOper.mk (some 15) (.bin .lss (.tmp 14) (.const (.int .i64 5))) none)] (some [1, 2, 3, 13, 14, 15]) []) (.seq (.cond (.tmp 15) .skip (.exit 0)) (.seq (.block 1 (.seq (.region [(AOper.mk (some 16) (.index none 5 1 (.tmp 13) (.tmp 14)) none), (AOper.mk (some 5) (.move (.tmp 16)) none)] (some [1, 2, 3, 5, 13, 14]) []) (.region [(AOper.mk (some 17) (.move (.tmp 5)) none), (AOper.mk (some 18) (.move (.tmp 3)) none), (AOper.mk (some 19) (.bin .add (.tmp 17) (.tmp 18)) none), (AOper.mk (some 20) (.bin .shr (.tmp 19) (.const (.int .u64 51))) none), (AOper.mk (some 3) (.move (.tmp 20)) none)] (some [1, 2, 3, 13, 14]) []))) (.region [(AOper.mk (some 21) (.bin .add (.tmp 14) (.const (.int .i64 1))) none), (AOper.mk (some 14) (.move (.tmp 21)) none)] (some [1, 2, 3, 13, 14]) []))))
def a57 : AFun := ⟨(.seq (.region [(AOper.mk (some 1) (.box (.tmp 0)) none), (AOper.mk (some 2) (.alloc (List.replicate 32 (.int .u8 0))) none)] (some [1, 2]) []) (.seq (.region [(AOper.mk (some 9) (.load (some 5) (.tmp 1)) none), (AOper.mk (some 10) (.call 81 [(.tmp 9)] true) none), (AOper.mk (some 11) (.call 81 [(.tmp 10)] true) none), (AOper.mk none (.store 5 (.tmp 1) (.tmp 11)) none)] (some [1, 2]) []) (.seq (.region [(AOper.mk (some 3) (.move (.const (.int .u64 19))) none)] (some [1, 2, 3]) []) (.seq (.seq (.region [(AOper.mk (some 12) (.fieldAddr 0 (.tmp 1)) none), (AOper.mk (some 13) (.load (some 5) (.tmp 12)) none), (AOper.mk (some 14) (.move (.const (.int .i64 0))) none)] (some [1, 2, 3, 13, 14]) []) (.block 0 (.loop a57_l2))) (.seq (.region [(AOper.mk (some 22) (.fieldAddr 0 (.tmp 1)) none), (AOper.mk (some 23) (.indexAddr 5 1 (.tmp 22) (.const (.int .i64 0))) none), (AOper.mk (some 24) (.load none (.tmp 23)) none), (AOper.mk (some 25) (.move (.tmp 3)) none), (AOper.mk (some 26) (.bin .mul (.const (.int .u64 19)) (.tmp 25)) none), (AOper.mk (some 27) (.bin .add (.tmp 24) (.tmp 26)) none), (AOper.mk (some 28) (.fieldAddr 0 (.tmp 1)) none), (AOper.mk (some 29) (.indexAddr 5 1 (.tmp 28) (.const (.int .i64 0))) none), (AOper.mk none (.store 1 (.tmp 29) (.tmp 27)) none)] (some [1, 2]) []) (.seq (.region [(AOper.mk (some 3) (.move (.const (.int .u64 0))) none)] (some [1, 2, 3]) []) (.seq (.region [(AOper.mk (some 6) (.alloc (List.replicate 32 (.int .u8 0))) none)] (some [1, 2, 3, 6]) []) (.seq (.seq (.region [(AOper.mk (some 30) (.move (.const (.int .i64 0))) none)] (some [1, 2, 3, 6, 30]) []) (.block 2 (.loop a57_l1))) (.seq (.seq (.region [(AOper.mk (some 54) (.move (.const (.int .i64 0))) none)] (some [1, 2, 6, 54]) []) (.block 4 (.loop a57_l0))) (.seq (.region [(AOper.mk (some 77) (.load (some 32) (.tmp 6)) none), (AOper.mk none (.store 32 (.tmp 2) (.tmp 77)) none)] (some [2]) []) .ret)))))))))), [(2, (some (some 32)))]⟩
def a58 : AFun := ⟨(.seq (.region [(AOper.mk (some 1) (.box (.tmp 0)) none), (AOper.mk (some 2) (.move (.const (.bool false))) none)] (some [1]) []) (.seq (.region [(AOper.mk (some 3) (.load (some 5) (.tmp 1)) none), (AOper.mk (some 4) (.call 57 [(.tmp 3)] true) none), (AOper.mk (some 5) (.index none 32 1 (.tmp 4) (.const (.int .i64 0))) none), (AOper.mk (some 6) (.bin .and (.tmp 5) (.const (.int .u8 1))) none), (AOper.mk (some 7) (.bin .eql (.tmp 6) (.const (.int .u8 1))) none), (AOper.mk (some 2) (.move (.tmp 7)) none)] (some [2]) []) .ret)), [(2, none)]⟩
def a59 : AFun := ⟨(.seq (.region [(AOper.mk (some 1) (.box (.tmp 0)) none), (AOper.mk (some 2) (.move (.const (.bool false))) none)] (some [1]) []) (.seq (.region [(AOper.mk (some 3) (.load (some 32) (.tmp 1)) none), (AOper.mk (some 4) (.call 49 [(.tmp 3)] true) none), (AOper.mk (some 5) (.call 57 [(.tmp 4)] true) none), (AOper.mk (some 6) (.load (some 32) (.tmp 1)) none), (AOper.mk (some 7) (.eqv (some (List.replicate 32 true)) false (.tmp 5) (.tmp 6)) none), (AOper.mk (some 2) (.move (.tmp 7)) none)] (some [2]) []) .ret)), [(2, none)]⟩
def a60 : AFun := ⟨(.seq (.region [(AOper.mk (some 2) (.box (.tmp 0)) none), (AOper.mk (some 3) (.box (.tmp 1)) none), (AOper.mk (some 4) (.alloc (List.replicate 5 (.int .u64 0))) none), (AOper.mk (some 5) (.move (.const (.bool false))) none)] (some [2, 3, 4]) []) (.seq (.region [(AOper.mk (some 9) (.load (some 5) (.tmp 3)) none), (AOper.mk (some 10) (.load (some 5) (.tmp 3)) none), (AOper.mk (some 11) (.load (some 5) (.tmp 3)) none), (AOper.mk (some 12) (.buildSlice (List.replicate 15 (.int .u64 0)) 3 [(0, (5, (.tmp 9))), (5, (5, (.tmp 10))), (10, (5, (.tmp 11)))]) none), (AOper.mk (some 13) (.call 82 [(.tmp 12)] false) none), (AOper.mk (some 6) (.alloc (List.replicate 5 (.int .u64 0))) none), (AOper.mk none (.store 5 (.tmp 6) (.tmp 13)) none)] (some [2, 3, 4, 6]) []) (.seq (.region [(AOper.mk (some 14) (.load (some 5) (.tmp 2)) none), (AOper.mk (some 15) (.load (some 5) (.tmp 6)) none), (AOper.mk (some 16) (.load (some 5) (.tmp 2)) none), (AOper.mk (some 17) (.load (some 5) (.tmp 6)) none), (AOper.mk (some 18) (.load (some 5) (.tmp 6)) none), (AOper.mk (some 19) (.load (some 5) (.tmp 3)) none), (AOper.mk (some 20) (.buildSlice (List.replicate 20 (.int .u64 0)) 4 [(0, (5, (.tmp 16))), (5, (5, (.tmp 17))), (10, (5, (.tmp 18))), (15, (5, (.tmp 19)))]) none), (AOper.mk (some 21) (.call 82 [(.tmp 20)] false) none), (AOper.mk (some 22) (.call 84 [(.const (.int .i64 252)), (.const (.int .u8 2))] true) none), (AOper.mk (some 23) (.call 83 [(.tmp 21), (.tmp 22)] true) none), (AOper.mk (some 24) (.buildSlice (List.replicate 15 (.int .u64 0)) 3 [(0, (5, (.tmp 14))), (5, (5, (.tmp 15))), (10, (5, (.tmp 23)))]) none), (AOper.mk (some 25) (.call 82 [(.tmp 24)] false) none), (AOper.mk (some 7) (.alloc (List.replicate 5 (.int .u64 0))) none), (AOper.mk none (.store 5 (.tmp 7) (.tmp 25)) none)] (some [2, 3, 4, 7]) [(0, 7), (1, 7)]) (.seq (.seq (.region [(AOper.mk (some 26) (.load (some 5) (.tmp 3)) none), (AOper.mk (some 27) (.load (some 5) (.tmp 7)) none), (AOper.mk (some 28) (.load (some 5) (.tmp 7)) none), (AOper.mk (some 29) (.buildSlice (List.replicate 15 (.int .u64 0)) 3 [(0, (5, (.tmp 26))), (5, (5, (.tmp 27))), (10, (5, (.tmp 28)))]) none), (AOper.mk (some 30) (.call 82 [(.tmp 29)] false) none), (AOper.mk (some 8) (.alloc (List.replicate 5 (.int .u64 0))) none), (AOper.mk none (.store 5 (.tmp 8) (.tmp 30)) none)] (some [2, 4, 7, 8]) []) (.block 0 (.seq (.region [(AOper.mk (some 33) (.load (some 5) (.tmp 8)) none), (AOper.mk (some 34) (.load (some 5) (.tmp 2)) none), (AOper.mk (some 35) (.call 55 [(.tmp 33), (.tmp 34)] true) none), (AOper.mk (some 32) (.move (.tmp 35)) none)] (some [2, 4, 7, 8, 32]) []) (.cond (.tmp 32) .skip (.seq (.region [(AOper.mk (some 37) (.load (some 5) (.tmp 8)) none), (AOper.mk (some 38) (.load (some 5) (.tmp 2)) none), (AOper.mk (some 39) (.call 64 [(.tmp 38)] true) none), (AOper.mk (some 40) (.call 55 [(.tmp 37), (.tmp 39)] true) none), (AOper.mk (some 36) (.move (.tmp 40)) none)] (some [4, 7, 36]) []) (.cond (.tmp 36) (.region [(AOper.mk (some 41) (.load (some 5) (.tmp 7)) none), (AOper.mk (some 42) (.call 50 [(.const (.int .u32 2))] true) none), (AOper.mk (some 43) (.call 84 [(.const (.int .i64 253)), (.const (.int .u8 4))] true) none), (AOper.mk (some 44) (.call 83 [(.tmp 42), (.tmp 43)] true) none), (AOper.mk (some 45) (.call 51 [(.tmp 41), (.tmp 44)] true) none), (AOper.mk none (.store 5 (.tmp 7) (.tmp 45)) none)] (some [4, 7]) []) (.seq (.region [(AOper.mk (some 31) (.build (List.replicate 5 (.int .u64 0)) []) none), (AOper.mk none (.store 5 (.tmp 4) (.tmp 31)) none), (AOper.mk (some 5) (.move (.const (.bool false))) none)] (some [4, 5]) []) .ret))))))) (.seq (.seq (.region [(AOper.mk (some 46) (.load (some 5) (.tmp 7)) none), (AOper.mk (some 47) (.call 58 [(.tmp 46)] true) none)] (some [4, 7, 47]) []) (.cond (.tmp 47) (.region [(AOper.mk (some 48) (.load (some 5) (.tmp 7)) none), (AOper.mk (some 49) (.call 64 [(.tmp 48)] true) none), (AOper.mk none (.store 5 (.tmp 7) (.tmp 49)) none)] (some [4, 7]) []) .skip)) (.seq (.region [(AOper.mk (some 50) (.load (some 5) (.tmp 7)) none), (AOper.mk none (.store 5 (.tmp 4) (.tmp 50)) none), (AOper.mk (some 5) (.move (.const (.bool true))) none)] (some [4, 5]) []) .ret)))))), [(4, (some (some 5))), (5, none)]⟩
def a61_l0 : ACode := (.seq (.region [(AOper.mk (some 7) (.bin .lss (.tmp 6) (.const (.int .i64 5))) none)] (some [2, 3, 4, 6, 7]) []) (.seq (.cond (.tmp 7) .skip (.exit 0)) (.seq (.block 1 (.seq (.region [(AOper.mk (some 8) (.move (.tmp 6)) none), (AOper.mk (some 5) (.move (.tmp 8)) none)] (some [2, 3, 4, 5, 6]) []) (.region [(AOper.mk (some 9) (.move (.tmp 5)) none), (AOper.mk (some 10) (.fieldAddr 0 (.tmp 2)) none), (AOper.mk (some 11) (.indexAddr 5 1 (.tmp 10) (.tmp 9)) none), (AOper.mk (some 12) (.load none (.tmp 11)) none), (AOper.mk (some 13) (.move (.tmp 5)) none), (AOper.mk (some 14) (.fieldAddr 0 (.tmp 3)) none), (AOper.mk (some 15) (.indexAddr 5 1 (.tmp 14) (.tmp 13)) none), (AOper.mk (some 16) (.load none (.tmp 15)) none), (AOper.mk (some 17) (.bin .sub (.const (.int .u64 9007199254740988)) (.tmp 16)) none), (AOper.mk (some 18) (.bin .add (.tmp 12) (.tmp 17)) none), (AOper.mk (some 19) (.fieldAddr 0 (.tmp 2)) none), (AOper.mk (some 20) (.indexAddr 5 1 (.tmp 19) (.tmp 9)) none), (AOper.mk none (.store 1 (.tmp 20) (.tmp 18)) none)] (some [2, 3, 4, 6]) []))) (.region [(AOper.mk (some 21) (.bin .add (.tmp 6) (.const (.int .i64 1))) none), (AOper.mk (some 6) (.move (.tmp 21)) none)] (some [2, 3, 4, 6]) []))))
def a61 : AFun := ⟨(.seq (.region [(AOper.mk (some 2) (.box (.tmp 0)) none), (AOper.mk (some 3) (.box (.tmp 1)) none), (AOper.mk (some 4) (.alloc (List.replicate 5 (.int .u64 0))) none)] (some [2, 3, 4]) []) (.seq (.seq (.region [(AOper.mk (some 6) (.move (.const (.int .i64 0))) none)] (some [2, 3, 4, 6]) []) (.block 0 (.loop a61_l0))) (.seq (.region [(AOper.mk (some 22) (.fieldAddr 0 (.tmp 2)) none), (AOper.mk (some 23) (.indexAddr 5 1 (.tmp 22) (.const (.int .i64 0))) none), (AOper.mk (some 24) (.load none (.tmp 23)) none), (AOper.mk (some 25) (.bin .sub (.tmp 24) (.const (.int .u64 72))) none), (AOper.mk (some 26) (.fieldAddr 0 (.tmp 2)) none), (AOper.mk (some 27) (.indexAddr 5 1 (.tmp 26) (.const (.int .i64 0))) none), (AOper.mk none (.store 1 (.tmp 27) (.tmp 25)) none)] (some [2, 4]) []) (.seq (.region [(AOper.mk (some 28) (.load (some 5) (.tmp 2)) none), (AOper.mk (some 29) (.call 81 [(.tmp 28)] true) none), (AOper.mk none (.store 5 (.tmp 4) (.tmp 29)) none)] (some [4]) []) .ret)))), [(4, (some (some 5)))]⟩
def a62_l0 : ACode := (.seq (.region [(AOper.mk (some 15) (.bin .lss (.tmp 14) (.const (.int .i64 5))) none)] (some [2, 3, 4, 5, 7, 8, 9, 14, 15]) []) (.seq (.cond (.tmp 15) .skip (.exit 2)) (.seq (.block 3 (.seq (.region [(AOper.mk (some 16) (.move (.tmp 14)) none), (AOper.mk (some 6) (.move (.tmp 16)) none)] (some [2, 3, 4, 5, 6, 7, 8, 9, 14]) []) (.region [(AOper.mk (some 17) (.move (.tmp 6)) none), (AOper.mk (some 18) (.fieldAddr 0 (.tmp 3)) none), (AOper.mk (some 19) (.indexAddr 5 1 (.tmp 18) (.tmp 17)) none), (AOper.mk (some 20) (.load none (.tmp 19)) none), (AOper.mk (some 21) (.move (.tmp 6)) none), (AOper.mk (some 22) (.fieldAddr 0 (.tmp 5)) none), (AOper.mk (some 23) (.indexAddr 5 1 (.tmp 22) (.tmp 21)) none), (AOper.mk (some 24) (.load none (.tmp 23)) none), (AOper.mk (some 25) (.bin .add (.tmp 20) (.tmp 24)) none), (AOper.mk (some 26) (.fieldAddr 0 (.tmp 3)) none), (AOper.mk (some 27) (.indexAddr 5 1 (.tmp 26) (.tmp 17)) none), (AOper.mk none (.store 1 (.tmp 27) (.tmp 25)) none)] (some [2, 3, 4, 5, 7, 8, 9, 14]) []))) (.region [(AOper.mk (some 28) (.bin .add (.tmp 14) (.const (.int .i64 1))) none), (AOper.mk (some 14) (.move (.tmp 28)) none)] (some [2, 3, 4, 5, 7, 8, 9, 14]) []))))
def a62_l1 : ACode := (.seq (.region [(AOper.mk (some 10) (.bin .lss (.tmp 9) (.tmp 8)) none)] (some [2, 3, 7, 8, 9, 10]) []) (.seq (.cond (.tmp 10) .skip (.exit 0)) (.seq (.block 1 (.seq (.region [(AOper.mk (some 11) (.move (.tmp 9)) none), (AOper.mk (some 12) (.indexSl 5 (.tmp 7) (.tmp 9)) none), (AOper.mk (some 13) (.load (some 5) (.tmp 12)) none), (AOper.mk (some 5) (.alloc (List.replicate 5 (.int .u64 0))) none), (AOper.mk (some 4) (.move (.tmp 11)) none), (AOper.mk none (.store 5 (.tmp 5) (.tmp 13)) none)] (some [2, 3, 4, 5, 7, 8, 9]) []) (.seq (.seq (.region [(AOper.mk (some 14) (.move (.const (.int .i64 0))) none)] (some [2, 3, 4, 5, 7, 8, 9, 14]) []) (.block 2 (.loop a62_l0))) (.seq (.region [(AOper.mk (some 29) (.move (.tmp 4)) none), (AOper.mk (some 30) (.bin .rem (.tmp 29) (.const (.int .i64 64))) none), (AOper.mk (some 31) (.bin .eql (.tmp 30) (.const (.int .i64 63))) none)] (some [2, 3, 7, 8, 9, 31]) []) (.cond (.tmp 31) (.region [(AOper.mk (some 32) (.load (some 5) (.tmp 3)) none), (AOper.mk (some 33) (.call 81 [(.tmp 32)] true) none), (AOper.mk none (.store 5 (.tmp 3) (.tmp 33)) none)] (some [2, 3, 7, 8, 9]) []) .skip))))) (.region [(AOper.mk (some 34) (.bin .add (.tmp 9) (.const (.int .i64 1))) none), (AOper.mk (some 9) (.move (.tmp 34)) none)] (some [2, 3, 7, 8, 9]) []))))
def a62 : AFun := ⟨(.seq (.region [(AOper.mk (some 2) (.alloc (List.replicate 5 (.int .u64 0))) none)] (some [0, 2]) []) (.seq (.region [(AOper.mk (some 3) (.alloc (List.replicate 5 (.int .u64 0))) none)] (some [0, 2, 3]) []) (.seq (.seq (.region [(AOper.mk (some 7) (.move (.tmp 0)) none), (AOper.mk (some 8) (.len false (.tmp 7)) none), (AOper.mk (some 9) (.move (.const (.int .i64 0))) none)] (some [2, 3, 7, 8, 9]) []) (.block 0 (.loop a62_l1))) (.seq (.region [(AOper.mk (some 35) (.load (some 5) (.tmp 3)) none), (AOper.mk (some 36) (.call 81 [(.tmp 35)] true) none), (AOper.mk none (.store 5 (.tmp 2) (.tmp 36)) none)] (some [2]) []) .ret)))), [(2, (some (some 5)))]⟩
def a63 : AFun := ⟨(.seq (.region [(AOper.mk (some 1) (.box (.tmp 0)) none), (AOper.mk (some 2) (.move (.const (.bool false))) none)] (some [1]) []) (.seq (.region [(AOper.mk (some 3) (.load (some 5) (.tmp 1)) none), (AOper.mk (some 4) (.call 57 [(.tmp 3)] true) none), (AOper.mk (some 5) (.build (List.replicate 32 (.int .u8 0)) []) none), (AOper.mk (some 6) (.eqv (some (List.replicate 32 true)) false (.tmp 4) (.tmp 5)) none), (AOper.mk (some 2) (.move (.tmp 6)) none)] (some [2]) []) .ret)), [(2, none)]⟩
def a64 : AFun := ⟨(.seq (.region [(AOper.mk (some 1) (.box (.tmp 0)) none), (AOper.mk (some 2) (.alloc (List.replicate 5 (.int .u64 0))) none)] (some [1, 2]) []) (.seq (.region [(AOper.mk (some 3) (.build (List.replicate 5 (.int .u64 0)) []) none), (AOper.mk (some 4) (.load (some 5) (.tmp 1)) none), (AOper.mk (some 5) (.call 61 [(.tmp 3), (.tmp 4)] true) none), (AOper.mk none (.store 5 (.tmp 2) (.tmp 5)) none)] (some [2]) []) .ret)), [(2, (some (some 5)))]⟩
def a65_l0 : ACode := (.seq (.seq (.region [(AOper.mk (some 6) (.move (.tmp 4)) none), (AOper.mk (some 7) (.bin .lss (.tmp 6) (.const (.int .i64 16))) none)] (some [1, 2, 3, 4, 7]) []) (.cond (.tmp 7) .skip (.exit 0))) (.seq (.block 1 (.region [(AOper.mk (some 10) (.move (.tmp 4)) none), (AOper.mk (some 11) (.move (.tmp 4)) none), (AOper.mk (some 12) (.bin .mul (.const (.int .i64 2)) (.tmp 11)) none), (AOper.mk (some 13) (.indexAddr 32 1 (.tmp 1) (.tmp 12)) none), (AOper.mk (some 14) (.load none (.tmp 13)) none), (AOper.mk (some 15) (.conv .u64 (.tmp 14)) none), (AOper.mk (some 16) (.move (.tmp 4)) none), (AOper.mk (some 17) (.bin .mul (.const (.int .i64 2)) (.tmp 16)) none), (AOper.mk (some 18) (.bin .add (.tmp 17) (.const (.int .i64 1))) none), (AOper.mk (some 19) (.indexAddr 32 1 (.tmp 1) (.tmp 18)) none), (AOper.mk (some 20) (.load none (.tmp 19)) none), (AOper.mk (some 21) (.conv .u64 (.tmp 20)) none), (AOper.mk (some 22) (.bin .mul (.const (.int .u64 256)) (.tmp 21)) none), (AOper.mk (some 23) (.bin .add (.tmp 15) (.tmp 22)) none), (AOper.mk (some 24) (.indexAddr 16 1 (.tmp 3) (.tmp 10)) none), (AOper.mk none (.store 1 (.tmp 24) (.tmp 23)) none)] (some [1, 2, 3, 4]) [])) (.region [(AOper.mk (some 8) (.move (.tmp 4)) none), (AOper.mk (some 9) (.bin .add (.tmp 8) (.const (.int .i64 1))) none), (AOper.mk (some 4) (.move (.tmp 9)) none)] (some [1, 2, 3, 4]) [])))
def a65 : AFun := ⟨(.seq (.region [(AOper.mk (some 1) (.box (.tmp 0)) none), (AOper.mk (some 2) (.alloc (List.replicate 16 (.int .u64 0))) none)] (some [1, 2]) []) (.seq (.region [(AOper.mk (some 5) (.build (List.replicate 16 (.int .u64 0)) []) none), (AOper.mk (some 3) (.alloc (List.replicate 16 (.int .u64 0))) none), (AOper.mk none (.store 16 (.tmp 3) (.tmp 5)) none)] (some [1, 2, 3]) []) (.seq (.seq (.region [(AOper.mk (some 4) (.move (.const (.int .i64 0))) none)] (some [1, 2, 3, 4]) []) (.block 0 (.loop a65_l0))) (.seq (.region [(AOper.mk (some 25) (.indexAddr 16 1 (.tmp 3) (.const (.int .i64 15))) none), (AOper.mk (some 26) (.load none (.tmp 25)) none), (AOper.mk (some 27) (.bin .rem (.tmp 26) (.const (.int .u64 32768))) none), (AOper.mk (some 28) (.indexAddr 16 1 (.tmp 3) (.const (.int .i64 15))) none), (AOper.mk none (.store 1 (.tmp 28) (.tmp 27)) none)] (some [2, 3]) []) (.seq (.region [(AOper.mk (some 29) (.load (some 16) (.tmp 3)) none), (AOper.mk none (.store 16 (.tmp 2) (.tmp 29)) none)] (some [2]) []) .ret))))), [(2, (some (some 16)))]⟩
def a66_l0 : ACode := (.seq (.seq (.region [(AOper.mk (some 8) (.move (.tmp 4)) none), (AOper.mk (some 9) (.bin .lss (.tmp 8) (.const (.int .i64 16))) none)] (some [1, 2, 3, 4, 9]) []) (.cond (.tmp 9) .skip (.exit 0))) (.seq (.block 1 (.seq (.region [(AOper.mk (some 12) (.move (.tmp 4)) none), (AOper.mk (some 13) (.bin .mul (.const (.int .i64 2)) (.tmp 12)) none), (AOper.mk (some 14) (.move (.tmp 4)) none), (AOper.mk (some 15) (.indexAddr 16 1 (.tmp 1) (.tmp 14)) none), (AOper.mk (some 16) (.load none (.tmp 15)) none), (AOper.mk (some 17) (.bin .rem (.tmp 16) (.const (.int .u64 256))) none), (AOper.mk (some 18) (.conv .u8 (.tmp 17)) none), (AOper.mk (some 19) (.indexAddr 32 1 (.tmp 3) (.tmp 13)) none), (AOper.mk none (.store 1 (.tmp 19) (.tmp 18)) none)] (some [1, 2, 3, 4]) []) (.region [(AOper.mk (some 20) (.move (.tmp 4)) none), (AOper.mk (some 21) (.bin .mul (.const (.int .i64 2)) (.tmp 20)) none), (AOper.mk (some 22) (.bin .add (.tmp 21) (.const (.int .i64 1))) none), (AOper.mk (some 23) (.move (.tmp 4)) none), (AOper.mk (some 24) (.indexAddr 16 1 (.tmp 1) (.tmp 23)) none), (AOper.mk (some 25) (.load none (.tmp 24)) none), (AOper.mk (some 26) (.bin .quo (.tmp 25) (.const (.int .u64 256))) none), (AOper.mk (some 27) (.conv .u8 (.tmp 26)) none), (AOper.mk (some 28) (.indexAddr 32 1 (.tmp 3) (.tmp 22)) none), (AOper.mk none (.store 1 (.tmp 28) (.tmp 27)) none)] (some [1, 2, 3, 4]) []))) (.region [(AOper.mk (some 10) (.move (.tmp 4)) none), (AOper.mk (some 11) (.bin .add (.tmp 10) (.const (.int .i64 1))) none), (AOper.mk (some 4) (.move (.tmp 11)) none)] (some [1, 2, 3, 4]) [])))
def a66 : AFun := ⟨(.seq (.region [(AOper.mk (some 1) (.box (.tmp 0)) none), (AOper.mk (some 2) (.alloc (List.replicate 32 (.int .u8 0))) none)] (some [1, 2]) []) (.seq (.region [(AOper.mk (some 5) (.load (some 16) (.tmp 1)) none), (AOper.mk (some 6) (.call 85 [(.tmp 5)] true) none), (AOper.mk none (.store 16 (.tmp 1) (.tmp 6)) none)] (some [1, 2]) []) (.seq (.region [(AOper.mk (some 7) (.build (List.replicate 32 (.int .u8 0)) []) none), (AOper.mk (some 3) (.alloc (List.replicate 32 (.int .u8 0))) none), (AOper.mk none (.store 32 (.tmp 3) (.tmp 7)) none)] (some [1, 2, 3]) []) (.seq (.seq (.region [(AOper.mk (some 4) (.move (.const (.int .i64 0))) none)] (some [1, 2, 3, 4]) []) (.block 0 (.loop a66_l0))) (.seq (.region [(AOper.mk (some 29) (.load (some 32) (.tmp 3)) none), (AOper.mk none (.store 32 (.tmp 2) (.tmp 29)) none)] (some [2]) []) .ret))))), [(2, (some (some 32)))]⟩
def a67_l0 : ACode := (.seq (.seq (.region [(AOper.mk (some 12) (.move (.tmp 7)) none), (AOper.mk (some 13) (.bin .lss (.tmp 12) (.const (.int .i64 16))) none)] (some [2, 3, 4, 5, 6, 7, 13]) []) (.cond (.tmp 13) .skip (.exit 2))) (.seq (.block 3 (.region [(AOper.mk (some 16) (.move (.tmp 6)) none), (AOper.mk (some 17) (.move (.tmp 7)) none), (AOper.mk (some 18) (.bin .add (.tmp 16) (.tmp 17)) none), (AOper.mk (some 19) (.indexAddr 32 1 (.tmp 5) (.tmp 18)) none), (AOper.mk (some 20) (.load none (.tmp 19)) none), (AOper.mk (some 21) (.move (.tmp 6)) none), (AOper.mk (some 22) (.indexAddr 16 1 (.tmp 2) (.tmp 21)) none), (AOper.mk (some 23) (.load none (.tmp 22)) none), (AOper.mk (some 24) (.move (.tmp 7)) none), (AOper.mk (some 25) (.indexAddr 16 1 (.tmp 3) (.tmp 24)) none), (AOper.mk (some 26) (.load none (.tmp 25)) none), (AOper.mk (some 27) (.bin .mul (.tmp 23) (.tmp 26)) none), (AOper.mk (some 28) (.bin .add (.tmp 20) (.tmp 27)) none), (AOper.mk (some 29) (.indexAddr 32 1 (.tmp 5) (.tmp 18)) none), (AOper.mk none (.store 1 (.tmp 29) (.tmp 28)) none)] (some [2, 3, 4, 5, 6, 7]) [])) (.region [(AOper.mk (some 14) (.move (.tmp 7)) none), (AOper.mk (some 15) (.bin .add (.tmp 14) (.const (.int .i64 1))) none), (AOper.mk (some 7) (.move (.tmp 15)) none)] (some [2, 3, 4, 5, 6, 7]) [])))
def a67_l1 : ACode := (.seq (.seq (.region [(AOper.mk (some 8) (.move (.tmp 6)) none), (AOper.mk (some 9) (.bin .lss (.tmp 8) (.const (.int .i64 16))) none)] (some [2, 3, 4, 5, 6, 9]) []) (.cond (.tmp 9) .skip (.exit 0))) (.seq (.block 1 (.seq (.region [(AOper.mk (some 7) (.move (.const (.int .i64 0))) none)] (some [2, 3, 4, 5, 6, 7]) []) (.block 2 (.loop a67_l0)))) (.region [(AOper.mk (some 10) (.move (.tmp 6)) none), (AOper.mk (some 11) (.bin .add (.tmp 10) (.const (.int .i64 1))) none), (AOper.mk (some 6) (.move (.tmp 11)) none)] (some [2, 3, 4, 5, 6]) [])))
def a67 : AFun := ⟨(.seq (.region [(AOper.mk (some 2) (.box (.tmp 0)) none), (AOper.mk (some 3) (.box (.tmp 1)) none), (AOper.mk (some 4) (.alloc (List.replicate 16 (.int .u64 0))) none)] (some [2, 3, 4]) []) (.seq (.region [(AOper.mk (some 5) (.alloc (List.replicate 32 (.int .u64 0))) none)] (some [2, 3, 4, 5]) []) (.seq (.seq (.region [(AOper.mk (some 6) (.move (.const (.int .i64 0))) none)] (some [2, 3, 4, 5, 6]) []) (.block 0 (.loop a67_l1))) (.seq (.region [(AOper.mk (some 30) (.load (some 32) (.tmp 5)) none), (AOper.mk (some 31) (.call 86 [(.tmp 30)] true) none), (AOper.mk none (.store 16 (.tmp 4) (.tmp 31)) none)] (some [4]) []) .ret)))), [(4, (some (some 16)))]⟩
def a68_l0 : ACode := (.seq (.seq (.region [(AOper.mk (some 19) (.move (.tmp 7)) none), (AOper.mk (some 20) (.bin .geq (.tmp 19) (.const (.int .i64 0))) none)] (some [1, 2, 4, 5, 6, 7, 20]) []) (.cond (.tmp 20) .skip (.exit 2))) (.seq (.block 3 (.seq (.region [(AOper.mk (some 23) (.move (.tmp 7)) none), (AOper.mk (some 24) (.indexAddr 16 1 (.tmp 4) (.tmp 23)) none), (AOper.mk (some 25) (.load none (.tmp 24)) none), (AOper.mk (some 26) (.move (.tmp 6)) none), (AOper.mk (some 27) (.bin .mul (.tmp 26) (.const (.int .u64 65536))) none), (AOper.mk (some 28) (.bin .add (.tmp 25) (.tmp 27)) none), (AOper.mk (some 8) (.move (.tmp 28)) none)] (some [1, 2, 4, 5, 7, 8]) []) (.seq (.region [(AOper.mk (some 29) (.move (.tmp 7)) none), (AOper.mk (some 30) (.move (.tmp 8)) none), (AOper.mk (some 31) (.bin .quo (.tmp 30) (.const (.int .u64 2))) none), (AOper.mk (some 32) (.indexAddr 16 1 (.tmp 4) (.tmp 29)) none), (AOper.mk none (.store 1 (.tmp 32) (.tmp 31)) none)] (some [1, 2, 4, 5, 7, 8]) []) (.region [(AOper.mk (some 33) (.move (.tmp 8)) none), (AOper.mk (some 34) (.bin .rem (.tmp 33) (.const (.int .u64 2))) none), (AOper.mk (some 6) (.move (.tmp 34)) none)] (some [1, 2, 4, 5, 6, 7]) [])))) (.region [(AOper.mk (some 21) (.move (.tmp 7)) none), (AOper.mk (some 22) (.bin .sub (.tmp 21) (.const (.int .i64 1))) none), (AOper.mk (some 7) (.move (.tmp 22)) none)] (some [1, 2, 4, 5, 6, 7]) [])))
def a68_l1 : ACode := (.seq (.seq (.region [(AOper.mk (some 15) (.move (.tmp 5)) none), (AOper.mk (some 16) (.bin .lss (.tmp 15) (.const (.int .i64 3))) none)] (some [1, 2, 4, 5, 16]) []) (.cond (.tmp 16) .skip (.exit 0))) (.seq (.block 1 (.seq (.region [(AOper.mk (some 6) (.move (.const (.int .u64 0))) none)] (some [1, 2, 4, 5, 6]) []) (.seq (.region [(AOper.mk (some 7) (.move (.const (.int .i64 15))) none)] (some [1, 2, 4, 5, 6, 7]) []) (.block 2 (.loop a68_l0))))) (.region [(AOper.mk (some 17) (.move (.tmp 5)) none), (AOper.mk (some 18) (.bin .add (.tmp 17) (.const (.int .i64 1))) none), (AOper.mk (some 5) (.move (.tmp 18)) none)] (some [1, 2, 4, 5]) [])))
def a68 : AFun := ⟨(.seq (.region [(AOper.mk (some 1) (.box (.tmp 0)) none), (AOper.mk (some 2) (.alloc (List.replicate 16 (.int .u64 0))) none), (AOper.mk (some 3) (.move (.const (.bool false))) none)] (some [1, 2]) []) (.seq (.region [(AOper.mk (some 10) (.call 87 [] true) none), (AOper.mk (some 4) (.alloc (List.replicate 16 (.int .u64 0))) none), (AOper.mk none (.store 16 (.tmp 4) (.tmp 10)) none)] (some [1, 2, 4]) []) (.seq (.region [(AOper.mk (some 11) (.indexAddr 16 1 (.tmp 4) (.const (.int .i64 0))) none), (AOper.mk (some 12) (.load none (.tmp 11)) none), (AOper.mk (some 13) (.bin .add (.tmp 12) (.const (.int .u64 3))) none), (AOper.mk (some 14) (.indexAddr 16 1 (.tmp 4) (.const (.int .i64 0))) none), (AOper.mk none (.store 1 (.tmp 14) (.tmp 13)) none)] (some [1, 2, 4]) []) (.seq (.seq (.region [(AOper.mk (some 5) (.move (.const (.int .i64 0))) none)] (some [1, 2, 4, 5]) []) (.block 0 (.loop a68_l1))) (.seq (.region [(AOper.mk (some 35) (.load (some 16) (.tmp 1)) none), (AOper.mk (some 36) (.load (some 16) (.tmp 4)) none), (AOper.mk (some 37) (.call 88 [(.tmp 35), (.tmp 36)] true) none), (AOper.mk (some 9) (.alloc (List.replicate 16 (.int .u64 0))) none), (AOper.mk none (.store 16 (.tmp 9) (.tmp 37)) none)] (some [1, 2, 9]) []) (.seq (.seq (.region [(AOper.mk (some 38) (.load (some 16) (.tmp 9)) none), (AOper.mk (some 39) (.load (some 16) (.tmp 9)) none), (AOper.mk (some 40) (.call 67 [(.tmp 38), (.tmp 39)] true) none), (AOper.mk (some 41) (.call 85 [(.tmp 40)] true) none), (AOper.mk (some 42) (.load (some 16) (.tmp 1)) none), (AOper.mk (some 43) (.call 85 [(.tmp 42)] true) none), (AOper.mk (some 44) (.eqv (some (List.replicate 16 true)) true (.tmp 41) (.tmp 43)) none)] (some [1, 2, 9, 44]) []) (.cond (.tmp 44) (.region [(AOper.mk (some 45) (.load (some 16) (.tmp 9)) none), (AOper.mk (some 46) (.call 89 [] true) none), (AOper.mk (some 47) (.call 67 [(.tmp 45), (.tmp 46)] true) none), (AOper.mk none (.store 16 (.tmp 9) (.tmp 47)) none)] (some [1, 2, 9]) []) .skip)) (.seq (.region [(AOper.mk (some 48) (.load (some 16) (.tmp 9)) none), (AOper.mk (some 49) (.call 85 [(.tmp 48)] true) none), (AOper.mk (some 50) (.load (some 16) (.tmp 9)) none), (AOper.mk (some 51) (.load (some 16) (.tmp 9)) none), (AOper.mk (some 52) (.call 67 [(.tmp 50), (.tmp 51)] true) none), (AOper.mk (some 53) (.call 85 [(.tmp 52)] true) none), (AOper.mk (some 54) (.load (some 16) (.tmp 1)) none), (AOper.mk (some 55) (.call 85 [(.tmp 54)] true) none), (AOper.mk (some 56) (.eqv (some (List.replicate 16 true)) false (.tmp 53) (.tmp 55)) none), (AOper.mk none (.store 16 (.tmp 2) (.tmp 49)) none), (AOper.mk (some 3) (.move (.tmp 56)) none)] (some [2, 3]) []) .ret))))))), [(2, (some (some 16))), (3, none)]⟩
def a69 : AFun := ⟨(.seq (.region [(AOper.mk (some 2) (.box (.tmp 0)) none), (AOper.mk (some 3) (.box (.tmp 1)) none), (AOper.mk (some 4) (.alloc (List.replicate 16 (.int .u64 0))) none)] (some [2, 3, 4]) []) (.seq (.region [(AOper.mk (some 5) (.load (some 16) (.tmp 2)) none), (AOper.mk (some 6) (.load (some 16) (.tmp 3)) none), (AOper.mk (some 7) (.call 73 [(.tmp 6)] true) none), (AOper.mk (some 8) (.call 72 [(.tmp 5), (.tmp 7)] true) none), (AOper.mk none (.store 16 (.tmp 4) (.tmp 8)) none)] (some [4]) []) .ret)), [(4, (some (some 16)))]⟩
def a70 : AFun := ⟨(.seq (.region [(AOper.mk (some 2) (.alloc (List.replicate 16 (.int .u64 0))) none)] (some [0, 2]) []) (.seq (.region [(AOper.mk (some 3) (.move (.tmp 0)) none), (AOper.mk (some 4) (.bin .rem (.tmp 3) (.const (.int .u64 65536))) none), (AOper.mk (some 5) (.move (.tmp 0)) none), (AOper.mk (some 6) (.bin .quo (.tmp 5) (.const (.int .u64 65536))) none), (AOper.mk (some 7) (.bin .rem (.tmp 6) (.const (.int .u64 65536))) none), (AOper.mk (some 8) (.build (List.replicate 16 (.int .u64 0)) [(0, (1, (.tmp 4))), (1, (1, (.tmp 7)))]) none), (AOper.mk none (.store 16 (.tmp 2) (.tmp 8)) none)] (some [2]) []) .ret)), [(2, (some (some 16)))]⟩
def a71 : AFun := ⟨(.seq (.region [(AOper.mk (some 1) (.box (.tmp 0)) none), (AOper.mk (some 2) (.alloc (List.replicate 16 (.int .u64 0))) none)] (some [1, 2]) []) (.seq (.region [(AOper.mk (some 3) (.load (some 16) (.tmp 1)) none), (AOper.mk (some 4) (.call 87 [] true) none), (AOper.mk (some 5) (.call 70 [(.const (.int .u64 2))] true) none), (AOper.mk (some 6) (.call 90 [(.tmp 4), (.tmp 5)] true) none), (AOper.mk (some 7) (.call 88 [(.tmp 3), (.tmp 6)] true) none), (AOper.mk none (.store 16 (.tmp 2) (.tmp 7)) none)] (some [2]) []) .ret)), [(2, (some (some 16)))]⟩
def a72_l0 : ACode := (.seq (.seq (.region [(AOper.mk (some 7) (.move (.tmp 6)) none), (AOper.mk (some 8) (.bin .lss (.tmp 7) (.const (.int .i64 16))) none)] (some [2, 3, 4, 5, 6, 8]) []) (.cond (.tmp 8) .skip (.exit 0))) (.seq (.block 1 (.region [(AOper.mk (some 11) (.move (.tmp 6)) none), (AOper.mk (some 12) (.move (.tmp 6)) none), (AOper.mk (some 13) (.indexAddr 16 1 (.tmp 2) (.tmp 12)) none), (AOper.mk (some 14) (.load none (.tmp 13)) none), (AOper.mk (some 15) (.move (.tmp 6)) none), (AOper.mk (some 16) (.indexAddr 16 1 (.tmp 3) (.tmp 15)) none), (AOper.mk (some 17) (.load none (.tmp 16)) none), (AOper.mk (some 18) (.bin .add (.tmp 14) (.tmp 17)) none), (AOper.mk (some 19) (.indexAddr 32 1 (.tmp 5) (.tmp 11)) none), (AOper.mk none (.store 1 (.tmp 19) (.tmp 18)) none)] (some [2, 3, 4, 5, 6]) [])) (.region [(AOper.mk (some 9) (.move (.tmp 6)) none), (AOper.mk (some 10) (.bin .add (.tmp 9) (.const (.int .i64 1))) none), (AOper.mk (some 6) (.move (.tmp 10)) none)] (some [2, 3, 4, 5, 6]) [])))
def a72 : AFun := ⟨(.seq (.region [(AOper.mk (some 2) (.box (.tmp 0)) none), (AOper.mk (some 3) (.box (.tmp 1)) none), (AOper.mk (some 4) (.alloc (List.replicate 16 (.int .u64 0))) none)] (some [2, 3, 4]) []) (.seq (.region [(AOper.mk (some 5) (.alloc (List.replicate 32 (.int .u64 0))) none)] (some [2, 3, 4, 5]) []) (.seq (.seq (.region [(AOper.mk (some 6) (.move (.const (.int .i64 0))) none)] (some [2, 3, 4, 5, 6]) []) (.block 0 (.loop a72_l0))) (.seq (.region [(AOper.mk (some 20) (.load (some 32) (.tmp 5)) none), (AOper.mk (some 21) (.call 86 [(.tmp 20)] true) none), (AOper.mk none (.store 16 (.tmp 4) (.tmp 21)) none)] (some [4]) []) .ret)))), [(4, (some (some 16)))]⟩
def a73 : AFun := ⟨(.seq (.region [(AOper.mk (some 1) (.box (.tmp 0)) none), (AOper.mk (some 2) (.alloc (List.replicate 16 (.int .u64 0))) none)] (some [1, 2]) []) (.seq (.region [(AOper.mk (some 3) (.load (some 16) (.tmp 1)) none), (AOper.mk (some 4) (.call 85 [(.tmp 3)] true) none), (AOper.mk none (.store 16 (.tmp 1) (.tmp 4)) none)] (some [1, 2]) []) (.seq (.seq (.region [(AOper.mk (some 5) (.load (some 16) (.tmp 1)) none), (AOper.mk (some 6) (.build (List.replicate 16 (.int .u64 0)) []) none), (AOper.mk (some 7) (.eqv (some (List.replicate 16 true)) false (.tmp 5) (.tmp 6)) none)] (some [1, 2, 7]) []) (.cond (.tmp 7) (.seq (.region [(AOper.mk (some 8) (.load (some 16) (.tmp 1)) none), (AOper.mk none (.store 16 (.tmp 2) (.tmp 8)) none)] (some [2]) []) .ret) .skip)) (.seq (.region [(AOper.mk (some 9) (.call 87 [] true) none), (AOper.mk (some 10) (.load (some 16) (.tmp 1)) none), (AOper.mk (some 11) (.call 90 [(.tmp 9), (.tmp 10)] true) none), (AOper.mk none (.store 16 (.tmp 2) (.tmp 11)) none)] (some [2]) []) .ret)))), [(2, (some (some 16)))]⟩
def a77 : AFun := ⟨(.seq (.region [(AOper.mk (some 4) (.alloc [(.int .u64 0), (.int .u64 0)]) none)] (some [0, 1, 4]) []) (.seq (.region [(AOper.mk (some 8) (.move (.tmp 0)) none), (AOper.mk (some 9) (.move (.tmp 1)) none), (AOper.mk (some 10) (.call 91 [(.tmp 8), (.tmp 9)] true) none), (AOper.mk (some 7) (.move (.tmp 10)) none), (AOper.mk (some 11) (.extract (.tmp 7) 0) none), (AOper.mk (some 12) (.extract (.tmp 7) 1) none), (AOper.mk (some 5) (.move (.tmp 11)) none), (AOper.mk (some 6) (.move (.tmp 12)) none)] (some [4, 5, 6]) []) (.seq (.region [(AOper.mk (some 13) (.move (.tmp 5)) none), (AOper.mk (some 14) (.move (.tmp 6)) none), (AOper.mk (some 15) (.build [(.int .u64 0), (.int .u64 0)] [(0, (1, (.tmp 13))), (1, (1, (.tmp 14)))]) none), (AOper.mk none (.store 2 (.tmp 4) (.tmp 15)) none)] (some [4]) []) .ret))), [(4, (some (some 2)))]⟩
def a78 : AFun := ⟨(.seq (.region [(AOper.mk (some 3) (.box (.tmp 0)) none), (AOper.mk (some 6) (.alloc [(.int .u64 0), (.int .u64 0)]) none)] (some [1, 2, 3, 6]) []) (.seq (.region [(AOper.mk (some 11) (.move (.tmp 1)) none), (AOper.mk (some 12) (.move (.tmp 2)) none), (AOper.mk (some 13) (.call 91 [(.tmp 11), (.tmp 12)] true) none), (AOper.mk (some 10) (.move (.tmp 13)) none), (AOper.mk (some 14) (.extract (.tmp 10) 0) none), (AOper.mk (some 15) (.extract (.tmp 10) 1) none), (AOper.mk (some 7) (.move (.tmp 14)) none), (AOper.mk (some 8) (.move (.tmp 15)) none)] (some [3, 6, 7, 8]) []) (.seq (.region [(AOper.mk (some 17) (.fieldAddr 1 (.tmp 3)) none), (AOper.mk (some 18) (.load none (.tmp 17)) none), (AOper.mk (some 19) (.move (.tmp 8)) none), (AOper.mk (some 20) (.call 92 [(.tmp 18), (.tmp 19), (.const (.int .u64 0))] true) none), (AOper.mk (some 16) (.move (.tmp 20)) none), (AOper.mk (some 21) (.extract (.tmp 16) 0) none), (AOper.mk (some 22) (.extract (.tmp 16) 1) none), (AOper.mk (some 8) (.move (.tmp 21)) none), (AOper.mk (some 9) (.move (.tmp 22)) none)] (some [3, 6, 7, 8, 9]) []) (.seq (.region [(AOper.mk (some 24) (.fieldAddr 0 (.tmp 3)) none), (AOper.mk (some 25) (.load none (.tmp 24)) none), (AOper.mk (some 26) (.move (.tmp 7)) none), (AOper.mk (some 27) (.move (.tmp 9)) none), (AOper.mk (some 28) (.call 92 [(.tmp 25), (.tmp 26), (.tmp 27)] true) none), (AOper.mk (some 23) (.move (.tmp 28)) none), (AOper.mk (some 29) (.extract (.tmp 23) 0) none), (AOper.mk (some 30) (.extract (.tmp 23) 1) none), (AOper.mk (some 7) (.move (.tmp 29)) none)] (some [6, 7, 8]) []) (.seq (.region [(AOper.mk (some 31) (.move (.tmp 7)) none), (AOper.mk (some 32) (.move (.tmp 8)) none), (AOper.mk (some 33) (.build [(.int .u64 0), (.int .u64 0)] [(0, (1, (.tmp 31))), (1, (1, (.tmp 32)))]) none), (AOper.mk none (.store 2 (.tmp 6) (.tmp 33)) none)] (some [6]) []) .ret))))), [(6, (some (some 2)))]⟩
def a79 : AFun := ⟨(.seq (.region [(AOper.mk (some 1) (.box (.tmp 0)) none), (AOper.mk (some 2) (.move (.const (.int .u64 0))) none), (AOper.mk (some 3) (.move (.const (.int .u64 0))) none)] (some [1]) []) (.seq (.region [(AOper.mk (some 4) (.fieldAddr 0 (.tmp 1)) none), (AOper.mk (some 5) (.load none (.tmp 4)) none), (AOper.mk (some 6) (.bin .shl (.tmp 5) (.const (.int .u64 13))) none), (AOper.mk (some 7) (.fieldAddr 1 (.tmp 1)) none), (AOper.mk (some 8) (.load none (.tmp 7)) none), (AOper.mk (some 9) (.bin .shr (.tmp 8) (.const (.int .u64 51))) none), (AOper.mk (some 10) (.bin .or (.tmp 6) (.tmp 9)) none), (AOper.mk (some 11) (.fieldAddr 1 (.tmp 1)) none), (AOper.mk (some 12) (.load none (.tmp 11)) none), (AOper.mk (some 13) (.bin .and (.tmp 12) (.const (.int .u64 2251799813685247))) none), (AOper.mk (some 2) (.move (.tmp 10)) none), (AOper.mk (some 3) (.move (.tmp 13)) none)] (some [2, 3]) []) .ret)), [(2, none), (3, none)]⟩
def a80 : AFun := ⟨(.seq (.region [(AOper.mk (some 2) (.box (.tmp 0)) none), (AOper.mk (some 4) (.alloc [(.int .u64 0), (.int .u64 0)]) none)] (some [1, 2, 4]) []) (.seq (.region [(AOper.mk (some 8) (.fieldAddr 1 (.tmp 2)) none), (AOper.mk (some 9) (.load none (.tmp 8)) none), (AOper.mk (some 10) (.move (.tmp 1)) none), (AOper.mk (some 11) (.call 92 [(.tmp 9), (.tmp 10), (.const (.int .u64 0))] true) none), (AOper.mk (some 7) (.move (.tmp 11)) none), (AOper.mk (some 12) (.extract (.tmp 7) 0) none), (AOper.mk (some 13) (.extract (.tmp 7) 1) none), (AOper.mk (some 5) (.move (.tmp 12)) none), (AOper.mk (some 6) (.move (.tmp 13)) none)] (some [2, 4, 5, 6]) []) (.seq (.region [(AOper.mk (some 14) (.fieldAddr 0 (.tmp 2)) none), (AOper.mk (some 15) (.load none (.tmp 14)) none), (AOper.mk (some 16) (.move (.tmp 6)) none), (AOper.mk (some 17) (.bin .add (.tmp 15) (.tmp 16)) none), (AOper.mk (some 18) (.move (.tmp 5)) none), (AOper.mk (some 19) (.build [(.int .u64 0), (.int .u64 0)] [(0, (1, (.tmp 17))), (1, (1, (.tmp 18)))]) none), (AOper.mk none (.store 2 (.tmp 4) (.tmp 19)) none)] (some [4]) []) .ret))), [(4, (some (some 2)))]⟩
def a81_l0 : ACode := (.seq (.region [(AOper.mk (some 6) (.bin .lss (.tmp 5) (.const (.int .i64 5))) none)] (some [1, 2, 3, 5, 6]) []) (.seq (.cond (.tmp 6) .skip (.exit 0)) (.seq (.block 1 (.seq (.region [(AOper.mk (some 7) (.move (.tmp 5)) none), (AOper.mk (some 4) (.move (.tmp 7)) none)] (some [1, 2, 3, 4, 5]) []) (.seq (.region [(AOper.mk (some 8) (.move (.tmp 4)) none), (AOper.mk (some 9) (.fieldAddr 0 (.tmp 1)) none), (AOper.mk (some 10) (.indexAddr 5 1 (.tmp 9) (.tmp 8)) none), (AOper.mk (some 11) (.load none (.tmp 10)) none), (AOper.mk (some 12) (.move (.tmp 3)) none), (AOper.mk (some 13) (.bin .add (.tmp 11) (.tmp 12)) none), (AOper.mk (some 14) (.fieldAddr 0 (.tmp 1)) none), (AOper.mk (some 15) (.indexAddr 5 1 (.tmp 14) (.tmp 8)) none), (AOper.mk none (.store 1 (.tmp 15) (.tmp 13)) none)] (some [1, 2, 4, 5]) []) (.seq (.region [(AOper.mk (some 16) (.move (.tmp 4)) none), (AOper.mk (some 17) (.fieldAddr 0 (.tmp 1)) none), (AOper.mk (some 18) (.indexAddr 5 1 (.tmp 17) (.tmp 16)) none), (AOper.mk (some 19) (.load none (.tmp 18)) none), (AOper.mk (some 20) (.bin .shr (.tmp 19) (.const (.int .u64 51))) none), (AOper.mk (some 3) (.move (.tmp 20)) none)] (some [1, 2, 3, 4, 5]) []) (.region [(AOper.mk (some 21) (.move (.tmp 4)) none), (AOper.mk (some 22) (.fieldAddr 0 (.tmp 1)) none), (AOper.mk (some 23) (.indexAddr 5 1 (.tmp 22) (.tmp 21)) none), (AOper.mk (some 24) (.load none (.tmp 23)) none), (AOper.mk (some 25) (.bin .and (.tmp 24) (.const (.int .u64 2251799813685247))) none), (AOper.mk (some 26) (.fieldAddr 0 (.tmp 1)) none), (AOper.mk (some 27) (.indexAddr 5 1 (.tmp 26) (.tmp 21)) none), (AOper.mk none (.store 1 (.tmp 27) (.tmp 25)) none)] (some [1, 2, 3, 5]) []))))) (.region [(AOper.mk (some 28) (.bin .add (.tmp 5) (.const (.int .i64 1))) none), (AOper.mk (some 5) (.move (.tmp 28)) none)] (some [1, 2, 3, 5]) []))))
def a81 : AFun := ⟨(.seq (.region [(AOper.mk (some 1) (.box (.tmp 0)) none), (AOper.mk (some 2) (.alloc (List.replicate 5 (.int .u64 0))) none)] (some [1, 2]) []) (.seq (.region [(AOper.mk (some 3) (.move (.const (.int .u64 0))) none)] (some [1, 2, 3]) []) (.seq (.seq (.region [(AOper.mk (some 5) (.move (.const (.int .i64 0))) none)] (some [1, 2, 3, 5]) []) (.block 0 (.loop a81_l0))) (.seq (.region [(AOper.mk (some 29) (.fieldAddr 0 (.tmp 1)) none), (AOper.mk (some 30) (.indexAddr 5 1 (.tmp 29) (.const (.int .i64 0))) none), (AOper.mk (some 31) (.load none (.tmp 30)) none), (AOper.mk (some 32) (.move (.tmp 3)) none), (AOper.mk (some 33) (.bin .mul (.const (.int .u64 19)) (.tmp 32)) none), (AOper.mk (some 34) (.bin .add (.tmp 31) (.tmp 33)) none), (AOper.mk (some 35) (.fieldAddr 0 (.tmp 1)) none), (AOper.mk (some 36) (.indexAddr 5 1 (.tmp 35) (.const (.int .i64 0))) none), (AOper.mk none (.store 1 (.tmp 36) (.tmp 34)) none)] (some [1, 2]) []) (.seq (.region [(AOper.mk (some 37) (.load (some 5) (.tmp 1)) none), (AOper.mk none (.store 5 (.tmp 2) (.tmp 37)) none)] (some [2]) []) .ret))))), [(2, (some (some 5)))]⟩
def a82_l0 : ACode := (.seq (.region [(AOper.mk (some 10) (.bin .lss (.tmp 9) (.tmp 8)) none)] (some [2, 3, 7, 8, 9, 10]) []) (.seq (.cond (.tmp 10) .skip (.exit 0)) (.seq (.block 1 (.seq (.region [(AOper.mk (some 11) (.indexSl 5 (.tmp 7) (.tmp 9)) none), (AOper.mk (some 12) (.load (some 5) (.tmp 11)) none), (AOper.mk (some 5) (.alloc (List.replicate 5 (.int .u64 0))) none), (AOper.mk none (.store 5 (.tmp 5) (.tmp 12)) none)] (some [2, 3, 5, 7, 8, 9]) []) (.region [(AOper.mk (some 13) (.load (some 5) (.tmp 3)) none), (AOper.mk (some 14) (.load (some 5) (.tmp 5)) none), (AOper.mk (some 15) (.call 51 [(.tmp 13), (.tmp 14)] true) none), (AOper.mk none (.store 5 (.tmp 3) (.tmp 15)) none)] (some [2, 3, 7, 8, 9]) []))) (.region [(AOper.mk (some 16) (.bin .add (.tmp 9) (.const (.int .i64 1))) none), (AOper.mk (some 9) (.move (.tmp 16)) none)] (some [2, 3, 7, 8, 9]) []))))
def a82 : AFun := ⟨(.seq (.region [(AOper.mk (some 2) (.alloc (List.replicate 5 (.int .u64 0))) none)] (some [0, 2]) []) (.seq (.region [(AOper.mk (some 6) (.call 50 [(.const (.int .u32 1))] true) none), (AOper.mk (some 3) (.alloc (List.replicate 5 (.int .u64 0))) none), (AOper.mk none (.store 5 (.tmp 3) (.tmp 6)) none)] (some [0, 2, 3]) []) (.seq (.seq (.region [(AOper.mk (some 7) (.move (.tmp 0)) none), (AOper.mk (some 8) (.len false (.tmp 7)) none), (AOper.mk (some 9) (.move (.const (.int .i64 0))) none)] (some [2, 3, 7, 8, 9]) []) (.block 0 (.loop a82_l0))) (.seq (.region [(AOper.mk (some 17) (.load (some 5) (.tmp 3)) none), (AOper.mk none (.store 5 (.tmp 2) (.tmp 17)) none)] (some [2]) []) .ret)))), [(2, (some (some 5)))]⟩
def a83_l0 : ACode := (.seq (.seq (.region [(AOper.mk (some 8) (.move (.tmp 6)) none), (AOper.mk (some 9) (.bin .geq (.tmp 8) (.const (.int .i64 0))) none)] (some [2, 3, 4, 5, 6, 9]) []) (.cond (.tmp 9) .skip (.exit 0))) (.seq (.block 1 (.seq (.region [(AOper.mk (some 12) (.load (some 5) (.tmp 5)) none), (AOper.mk (some 13) (.load (some 5) (.tmp 5)) none), (AOper.mk (some 14) (.call 51 [(.tmp 12), (.tmp 13)] true) none), (AOper.mk none (.store 5 (.tmp 5) (.tmp 14)) none)] (some [2, 3, 4, 5, 6]) []) (.seq (.region [(AOper.mk (some 15) (.move (.tmp 6)) none), (AOper.mk (some 16) (.bin .quo (.tmp 15) (.const (.int .i64 8))) none), (AOper.mk (some 17) (.indexAddr 32 1 (.tmp 3) (.tmp 16)) none), (AOper.mk (some 18) (.load none (.tmp 17)) none), (AOper.mk (some 19) (.move (.tmp 6)) none), (AOper.mk (some 20) (.bin .rem (.tmp 19) (.const (.int .i64 8))) none), (AOper.mk (some 21) (.bin .shr (.tmp 18) (.tmp 20)) none), (AOper.mk (some 22) (.bin .and (.tmp 21) (.const (.int .u8 1))) none), (AOper.mk (some 23) (.bin .eql (.tmp 22) (.const (.int .u8 1))) none)] (some [2, 3, 4, 5, 6, 23]) []) (.cond (.tmp 23) (.region [(AOper.mk (some 24) (.load (some 5) (.tmp 5)) none), (AOper.mk (some 25) (.load (some 5) (.tmp 2)) none), (AOper.mk (some 26) (.call 51 [(.tmp 24), (.tmp 25)] true) none), (AOper.mk none (.store 5 (.tmp 5) (.tmp 26)) none)] (some [2, 3, 4, 5, 6]) []) .skip)))) (.region [(AOper.mk (some 10) (.move (.tmp 6)) none), (AOper.mk (some 11) (.bin .sub (.tmp 10) (.const (.int .i64 1))) none), (AOper.mk (some 6) (.move (.tmp 11)) none)] (some [2, 3, 4, 5, 6]) [])))
def a83 : AFun := ⟨(.seq (.region [(AOper.mk (some 2) (.box (.tmp 0)) none), (AOper.mk (some 3) (.box (.tmp 1)) none), (AOper.mk (some 4) (.alloc (List.replicate 5 (.int .u64 0))) none)] (some [2, 3, 4]) []) (.seq (.region [(AOper.mk (some 7) (.call 50 [(.const (.int .u32 1))] true) none), (AOper.mk (some 5) (.alloc (List.replicate 5 (.int .u64 0))) none), (AOper.mk none (.store 5 (.tmp 5) (.tmp 7)) none)] (some [2, 3, 4, 5]) []) (.seq (.seq (.region [(AOper.mk (some 6) (.move (.const (.int .i64 255))) none)] (some [2, 3, 4, 5, 6]) []) (.block 0 (.loop a83_l0))) (.seq (.region [(AOper.mk (some 27) (.load (some 5) (.tmp 5)) none), (AOper.mk none (.store 5 (.tmp 4) (.tmp 27)) none)] (some [4]) []) .ret)))), [(4, (some (some 5)))]⟩
def a84_l0 : ACode := (.seq (.region [(AOper.mk (some 9) (.bin .lss (.tmp 8) (.tmp 7)) none)] (some [1, 4, 5, 7, 8, 9]) []) (.seq (.cond (.tmp 9) .skip (.exit 0)) (.seq (.block 1 (.seq (.region [(AOper.mk (some 10) (.move (.tmp 8)) none), (AOper.mk (some 6) (.move (.tmp 10)) none)] (some [1, 4, 5, 6, 7, 8]) []) (.region [(AOper.mk (some 11) (.move (.tmp 6)) none), (AOper.mk (some 12) (.bin .quo (.tmp 11) (.const (.int .i64 8))) none), (AOper.mk (some 13) (.indexAddr 32 1 (.tmp 5) (.tmp 12)) none), (AOper.mk (some 14) (.load none (.tmp 13)) none), (AOper.mk (some 15) (.move (.tmp 6)) none), (AOper.mk (some 16) (.bin .rem (.tmp 15) (.const (.int .i64 8))) none), (AOper.mk (some 17) (.bin .shl (.const (.int .u8 1)) (.tmp 16)) none), (AOper.mk (some 18) (.bin .or (.tmp 14) (.tmp 17)) none), (AOper.mk (some 19) (.indexAddr 32 1 (.tmp 5) (.tmp 12)) none), (AOper.mk none (.store 1 (.tmp 19) (.tmp 18)) none)] (some [1, 4, 5, 7, 8]) []))) (.region [(AOper.mk (some 20) (.bin .add (.tmp 8) (.const (.int .i64 1))) none), (AOper.mk (some 8) (.move (.tmp 20)) none)] (some [1, 4, 5, 7, 8]) []))))
def a84 : AFun := ⟨(.seq (.region [(AOper.mk (some 4) (.alloc (List.replicate 32 (.int .u8 0))) none)] (some [0, 1, 4]) []) (.seq (.region [(AOper.mk (some 5) (.alloc (List.replicate 32 (.int .u8 0))) none)] (some [0, 1, 4, 5]) []) (.seq (.seq (.region [(AOper.mk (some 7) (.move (.tmp 0)) none), (AOper.mk (some 8) (.move (.const (.int .i64 0))) none)] (some [1, 4, 5, 7, 8]) []) (.block 0 (.loop a84_l0))) (.seq (.region [(AOper.mk (some 21) (.indexAddr 32 1 (.tmp 5) (.const (.int .i64 0))) none), (AOper.mk (some 22) (.load none (.tmp 21)) none), (AOper.mk (some 23) (.move (.tmp 1)) none), (AOper.mk (some 24) (.bin .sub (.tmp 22) (.tmp 23)) none), (AOper.mk (some 25) (.indexAddr 32 1 (.tmp 5) (.const (.int .i64 0))) none), (AOper.mk none (.store 1 (.tmp 25) (.tmp 24)) none)] (some [4, 5]) []) (.seq (.region [(AOper.mk (some 26) (.load (some 32) (.tmp 5)) none), (AOper.mk none (.store 32 (.tmp 4) (.tmp 26)) none)] (some [4]) []) .ret))))), [(4, (some (some 32)))]⟩
def a85_l0 : ACode := (.seq (.seq (.region [(AOper.mk (some 3) (.load (some 16) (.tmp 1)) none), (AOper.mk (some 4) (.call 87 [] true) none), (AOper.mk (some 5) (.call 93 [(.tmp 3), (.tmp 4)] true) none), (AOper.mk (some 6) (.un .not (.tmp 5)) none)] (some [1, 2, 6]) []) (.cond (.tmp 6) .skip (.exit 0))) (.block 1 (.region [(AOper.mk (some 7) (.load (some 16) (.tmp 1)) none), (AOper.mk (some 8) (.call 87 [] true) none), (AOper.mk (some 9) (.call 90 [(.tmp 7), (.tmp 8)] true) none), (AOper.mk none (.store 16 (.tmp 1) (.tmp 9)) none)] (some [1, 2]) [])))
def a85 : AFun := ⟨(.seq (.region [(AOper.mk (some 1) (.box (.tmp 0)) none), (AOper.mk (some 2) (.alloc (List.replicate 16 (.int .u64 0))) none)] (some [1, 2]) []) (.seq (.block 0 (.loop a85_l0)) (.seq (.region [(AOper.mk (some 10) (.load (some 16) (.tmp 1)) none), (AOper.mk none (.store 16 (.tmp 2) (.tmp 10)) none)] (some [2]) []) .ret))), [(2, (some (some 16)))]⟩
def a86_l0 : ACode := (.seq (.seq (.region [(AOper.mk (some 46) (.move (.tmp 9)) none), (AOper.mk (some 47) (.bin .lss (.tmp 46) (.const (.int .i64 16))) none)] (some [1, 2, 9, 47]) []) (.cond (.tmp 47) .skip (.exit 6))) (.seq (.block 7 (.seq (.region [(AOper.mk (some 50) (.move (.tmp 9)) none), (AOper.mk (some 51) (.indexAddr 32 1 (.tmp 1) (.tmp 50)) none), (AOper.mk (some 52) (.load none (.tmp 51)) none), (AOper.mk (some 53) (.move (.tmp 9)) none), (AOper.mk (some 54) (.bin .add (.tmp 53) (.const (.int .i64 16))) none), (AOper.mk (some 55) (.indexAddr 32 1 (.tmp 1) (.tmp 54)) none), (AOper.mk (some 56) (.load none (.tmp 55)) none), (AOper.mk (some 57) (.bin .mul (.const (.int .u64 38)) (.tmp 56)) none), (AOper.mk (some 58) (.bin .add (.tmp 52) (.tmp 57)) none), (AOper.mk (some 59) (.indexAddr 32 1 (.tmp 1) (.tmp 50)) none), (AOper.mk none (.store 1 (.tmp 59) (.tmp 58)) none)] (some [1, 2, 9]) []) (.region [(AOper.mk (some 60) (.move (.tmp 9)) none), (AOper.mk (some 61) (.bin .add (.tmp 60) (.const (.int .i64 16))) none), (AOper.mk (some 62) (.indexAddr 32 1 (.tmp 1) (.tmp 61)) none), (AOper.mk none (.store 1 (.tmp 62) (.const (.int .u64 0))) none)] (some [1, 2, 9]) []))) (.region [(AOper.mk (some 48) (.move (.tmp 9)) none), (AOper.mk (some 49) (.bin .add (.tmp 48) (.const (.int .i64 1))) none), (AOper.mk (some 9) (.move (.tmp 49)) none)] (some [1, 2, 9]) [])))
def a86_l1 : ACode := (.seq (.seq (.region [(AOper.mk (some 26) (.move (.tmp 8)) none), (AOper.mk (some 27) (.bin .lss (.tmp 26) (.const (.int .i64 16))) none)] (some [1, 2, 6, 7, 8, 27]) []) (.cond (.tmp 27) .skip (.exit 4))) (.seq (.block 5 (.seq (.region [(AOper.mk (some 30) (.move (.tmp 8)) none), (AOper.mk (some 31) (.move (.tmp 8)) none), (AOper.mk (some 32) (.indexAddr 32 1 (.tmp 1) (.tmp 31)) none), (AOper.mk (some 33) (.load none (.tmp 32)) none), (AOper.mk (some 34) (.indexAddr 16 1 (.tmp 6) (.tmp 30)) none), (AOper.mk none (.store 1 (.tmp 34) (.tmp 33)) none)] (some [1, 2, 6, 7, 8]) []) (.region [(AOper.mk (some 35) (.move (.tmp 7)) none), (AOper.mk (some 36) (.move (.tmp 35)) none), (AOper.mk (some 37) (.move (.tmp 8)) (some (36, false))), (AOper.mk (some 38) (.bin .add (.tmp 37) (.const (.int .i64 16))) (some (36, false))), (AOper.mk (some 39) (.indexAddr 32 1 (.tmp 1) (.tmp 38)) (some (36, false))), (AOper.mk (some 40) (.load none (.tmp 39)) (some (36, false))), (AOper.mk (some 41) (.bin .neq (.tmp 40) (.const (.int .u64 0))) (some (36, false))), (AOper.mk (some 42) (.pick (.tmp 36) (.const (.bool true)) (.tmp 41)) none), (AOper.mk (some 7) (.move (.tmp 42)) none)] (some [1, 2, 6, 7, 8]) []))) (.region [(AOper.mk (some 28) (.move (.tmp 8)) none), (AOper.mk (some 29) (.bin .add (.tmp 28) (.const (.int .i64 1))) none), (AOper.mk (some 8) (.move (.tmp 29)) none)] (some [1, 2, 6, 7, 8]) [])))
def a86_l2 : ACode := (.seq (.seq (.region [(AOper.mk (some 10) (.move (.tmp 4)) none), (AOper.mk (some 11) (.bin .lss (.tmp 10) (.const (.int .i64 32))) none)] (some [1, 2, 3, 4, 11]) []) (.cond (.tmp 11) .skip (.exit 2))) (.seq (.block 3 (.seq (.region [(AOper.mk (some 14) (.move (.tmp 4)) none), (AOper.mk (some 15) (.indexAddr 32 1 (.tmp 1) (.tmp 14)) none), (AOper.mk (some 16) (.load none (.tmp 15)) none), (AOper.mk (some 17) (.move (.tmp 3)) none), (AOper.mk (some 18) (.bin .add (.tmp 16) (.tmp 17)) none), (AOper.mk (some 5) (.move (.tmp 18)) none)] (some [1, 2, 4, 5]) []) (.seq (.region [(AOper.mk (some 19) (.move (.tmp 4)) none), (AOper.mk (some 20) (.move (.tmp 5)) none), (AOper.mk (some 21) (.bin .rem (.tmp 20) (.const (.int .u64 65536))) none), (AOper.mk (some 22) (.indexAddr 32 1 (.tmp 1) (.tmp 19)) none), (AOper.mk none (.store 1 (.tmp 22) (.tmp 21)) none)] (some [1, 2, 4, 5]) []) (.region [(AOper.mk (some 23) (.move (.tmp 5)) none), (AOper.mk (some 24) (.bin .quo (.tmp 23) (.const (.int .u64 65536))) none), (AOper.mk (some 3) (.move (.tmp 24)) none)] (some [1, 2, 3, 4]) [])))) (.region [(AOper.mk (some 12) (.move (.tmp 4)) none), (AOper.mk (some 13) (.bin .add (.tmp 12) (.const (.int .i64 1))) none), (AOper.mk (some 4) (.move (.tmp 13)) none)] (some [1, 2, 3, 4]) [])))
def a86_l3 : ACode := (.block 1 (.seq (.region [(AOper.mk (some 3) (.move (.const (.int .u64 0))) none)] (some [1, 2, 3]) []) (.seq (.seq (.region [(AOper.mk (some 4) (.move (.const (.int .i64 0))) none)] (some [1, 2, 3, 4]) []) (.block 2 (.loop a86_l2))) (.seq (.region [(AOper.mk (some 25) (.build (List.replicate 16 (.int .u64 0)) []) none), (AOper.mk (some 6) (.alloc (List.replicate 16 (.int .u64 0))) none), (AOper.mk none (.store 16 (.tmp 6) (.tmp 25)) none)] (some [1, 2, 6]) []) (.seq (.region [(AOper.mk (some 7) (.move (.const (.bool false))) none)] (some [1, 2, 6, 7]) []) (.seq (.seq (.region [(AOper.mk (some 8) (.move (.const (.int .i64 0))) none)] (some [1, 2, 6, 7, 8]) []) (.block 4 (.loop a86_l1))) (.seq (.seq (.region [(AOper.mk (some 43) (.move (.tmp 7)) none), (AOper.mk (some 44) (.un .not (.tmp 43)) none)] (some [1, 2, 6, 44]) []) (.cond (.tmp 44) (.seq (.region [(AOper.mk (some 45) (.load (some 16) (.tmp 6)) none), (AOper.mk none (.store 16 (.tmp 2) (.tmp 45)) none)] (some [2]) []) .ret) .skip)) (.seq (.region [(AOper.mk (some 9) (.move (.const (.int .i64 0))) none)] (some [1, 2, 9]) []) (.block 6 (.loop a86_l0))))))))))
def a86 : AFun := ⟨(.seq (.region [(AOper.mk (some 1) (.box (.tmp 0)) none), (AOper.mk (some 2) (.alloc (List.replicate 16 (.int .u64 0))) none)] (some [1, 2]) []) (.block 0 (.loop a86_l3))), [(2, (some (some 16)))]⟩
def a87_l0 : ACode := (.seq (.seq (.region [(AOper.mk (some 4) (.move (.tmp 2)) none), (AOper.mk (some 5) (.bin .lss (.tmp 4) (.const (.int .i64 16))) none)] (some [0, 1, 2, 5]) []) (.cond (.tmp 5) .skip (.exit 0))) (.seq (.block 1 (.region [(AOper.mk (some 8) (.move (.tmp 2)) none), (AOper.mk (some 9) (.indexAddr 16 1 (.tmp 1) (.tmp 8)) none), (AOper.mk none (.store 1 (.tmp 9) (.const (.int .u64 65535))) none)] (some [0, 1, 2]) [])) (.region [(AOper.mk (some 6) (.move (.tmp 2)) none), (AOper.mk (some 7) (.bin .add (.tmp 6) (.const (.int .i64 1))) none), (AOper.mk (some 2) (.move (.tmp 7)) none)] (some [0, 1, 2]) [])))
def a87 : AFun := ⟨(.seq (.region [(AOper.mk (some 0) (.alloc (List.replicate 16 (.int .u64 0))) none)] (some [0]) []) (.seq (.region [(AOper.mk (some 3) (.build (List.replicate 16 (.int .u64 0)) []) none), (AOper.mk (some 1) (.alloc (List.replicate 16 (.int .u64 0))) none), (AOper.mk none (.store 16 (.tmp 1) (.tmp 3)) none)] (some [0, 1]) []) (.seq (.seq (.region [(AOper.mk (some 2) (.move (.const (.int .i64 0))) none)] (some [0, 1, 2]) []) (.block 0 (.loop a87_l0))) (.seq (.region [(AOper.mk (some 10) (.indexAddr 16 1 (.tmp 1) (.const (.int .i64 0))) none), (AOper.mk none (.store 1 (.tmp 10) (.const (.int .u64 65517))) none)] (some [0, 1]) []) (.seq (.region [(AOper.mk (some 11) (.indexAddr 16 1 (.tmp 1) (.const (.int .i64 15))) none), (AOper.mk none (.store 1 (.tmp 11) (.const (.int .u64 32767))) none)] (some [0, 1]) []) (.seq (.region [(AOper.mk (some 12) (.load (some 16) (.tmp 1)) none), (AOper.mk none (.store 16 (.tmp 0) (.tmp 12)) none)] (some [0]) []) .ret)))))), [(0, (some (some 16)))]⟩
def a88_l0 : ACode := (.seq (.seq (.region [(AOper.mk (some 21) (.move (.tmp 8)) none), (AOper.mk (some 22) (.move (.tmp 6)) none), (AOper.mk (some 23) (.bin .rem (.tmp 22) (.const (.int .i64 16))) none), (AOper.mk (some 24) (.bin .lss (.tmp 21) (.tmp 23)) none)] (some [2, 3, 4, 5, 6, 7, 8, 24]) []) (.cond (.tmp 24) .skip (.exit 2))) (.seq (.block 3 (.region [(AOper.mk (some 27) (.move (.tmp 7)) none), (AOper.mk (some 28) (.bin .quo (.tmp 27) (.const (.int .u64 2))) none), (AOper.mk (some 7) (.move (.tmp 28)) none)] (some [2, 3, 4, 5, 6, 7, 8]) [])) (.region [(AOper.mk (some 25) (.move (.tmp 8)) none), (AOper.mk (some 26) (.bin .add (.tmp 25) (.const (.int .i64 1))) none), (AOper.mk (some 8) (.move (.tmp 26)) none)] (some [2, 3, 4, 5, 6, 7, 8]) [])))
def a88_l1 : ACode := (.seq (.seq (.region [(AOper.mk (some 10) (.move (.tmp 6)) none), (AOper.mk (some 11) (.bin .geq (.tmp 10) (.const (.int .i64 0))) none)] (some [2, 3, 4, 5, 6, 11]) []) (.cond (.tmp 11) .skip (.exit 0))) (.seq (.block 1 (.seq (.region [(AOper.mk (some 14) (.load (some 16) (.tmp 5)) none), (AOper.mk (some 15) (.load (some 16) (.tmp 5)) none), (AOper.mk (some 16) (.call 67 [(.tmp 14), (.tmp 15)] true) none), (AOper.mk none (.store 16 (.tmp 5) (.tmp 16)) none)] (some [2, 3, 4, 5, 6]) []) (.seq (.region [(AOper.mk (some 17) (.move (.tmp 6)) none), (AOper.mk (some 18) (.bin .quo (.tmp 17) (.const (.int .i64 16))) none), (AOper.mk (some 19) (.indexAddr 16 1 (.tmp 3) (.tmp 18)) none), (AOper.mk (some 20) (.load none (.tmp 19)) none), (AOper.mk (some 7) (.move (.tmp 20)) none)] (some [2, 3, 4, 5, 6, 7]) []) (.seq (.seq (.region [(AOper.mk (some 8) (.move (.const (.int .i64 0))) none)] (some [2, 3, 4, 5, 6, 7, 8]) []) (.block 2 (.loop a88_l0))) (.seq (.region [(AOper.mk (some 29) (.move (.tmp 7)) none), (AOper.mk (some 30) (.bin .rem (.tmp 29) (.const (.int .u64 2))) none), (AOper.mk (some 31) (.bin .eql (.tmp 30) (.const (.int .u64 1))) none)] (some [2, 3, 4, 5, 6, 31]) []) (.cond (.tmp 31) (.region [(AOper.mk (some 32) (.load (some 16) (.tmp 5)) none), (AOper.mk (some 33) (.load (some 16) (.tmp 2)) none), (AOper.mk (some 34) (.call 67 [(.tmp 32), (.tmp 33)] true) none), (AOper.mk none (.store 16 (.tmp 5) (.tmp 34)) none)] (some [2, 3, 4, 5, 6]) []) .skip)))))) (.region [(AOper.mk (some 12) (.move (.tmp 6)) none), (AOper.mk (some 13) (.bin .sub (.tmp 12) (.const (.int .i64 1))) none), (AOper.mk (some 6) (.move (.tmp 13)) none)] (some [2, 3, 4, 5, 6]) [])))
def a88 : AFun := ⟨(.seq (.region [(AOper.mk (some 2) (.box (.tmp 0)) none), (AOper.mk (some 3) (.box (.tmp 1)) none), (AOper.mk (some 4) (.alloc (List.replicate 16 (.int .u64 0))) none)] (some [2, 3, 4]) []) (.seq (.region [(AOper.mk (some 9) (.call 70 [(.const (.int .u64 1))] true) none), (AOper.mk (some 5) (.alloc (List.replicate 16 (.int .u64 0))) none), (AOper.mk none (.store 16 (.tmp 5) (.tmp 9)) none)] (some [2, 3, 4, 5]) []) (.seq (.seq (.region [(AOper.mk (some 6) (.move (.const (.int .i64 255))) none)] (some [2, 3, 4, 5, 6]) []) (.block 0 (.loop a88_l1))) (.seq (.region [(AOper.mk (some 35) (.load (some 16) (.tmp 5)) none), (AOper.mk none (.store 16 (.tmp 4) (.tmp 35)) none)] (some [4]) []) .ret)))), [(4, (some (some 16)))]⟩
def a89_l0 : ACode := (.seq (.seq (.region [(AOper.mk (some 15) (.move (.tmp 4)) none), (AOper.mk (some 16) (.bin .geq (.tmp 15) (.const (.int .i64 0))) none)] (some [0, 1, 2, 3, 4, 16]) []) (.cond (.tmp 16) .skip (.exit 2))) (.seq (.block 3 (.seq (.region [(AOper.mk (some 19) (.move (.tmp 4)) none), (AOper.mk (some 20) (.indexAddr 16 1 (.tmp 1) (.tmp 19)) none), (AOper.mk (some 21) (.load none (.tmp 20)) none), (AOper.mk (some 22) (.move (.tmp 3)) none), (AOper.mk (some 23) (.bin .mul (.tmp 22) (.const (.int .u64 65536))) none), (AOper.mk (some 24) (.bin .add (.tmp 21) (.tmp 23)) none), (AOper.mk (some 5) (.move (.tmp 24)) none)] (some [0, 1, 2, 4, 5]) []) (.seq (.region [(AOper.mk (some 25) (.move (.tmp 4)) none), (AOper.mk (some 26) (.move (.tmp 5)) none), (AOper.mk (some 27) (.bin .quo (.tmp 26) (.const (.int .u64 2))) none), (AOper.mk (some 28) (.indexAddr 16 1 (.tmp 1) (.tmp 25)) none), (AOper.mk none (.store 1 (.tmp 28) (.tmp 27)) none)] (some [0, 1, 2, 4, 5]) []) (.region [(AOper.mk (some 29) (.move (.tmp 5)) none), (AOper.mk (some 30) (.bin .rem (.tmp 29) (.const (.int .u64 2))) none), (AOper.mk (some 3) (.move (.tmp 30)) none)] (some [0, 1, 2, 3, 4]) [])))) (.region [(AOper.mk (some 17) (.move (.tmp 4)) none), (AOper.mk (some 18) (.bin .sub (.tmp 17) (.const (.int .i64 1))) none), (AOper.mk (some 4) (.move (.tmp 18)) none)] (some [0, 1, 2, 3, 4]) [])))
def a89_l1 : ACode := (.seq (.seq (.region [(AOper.mk (some 11) (.move (.tmp 2)) none), (AOper.mk (some 12) (.bin .lss (.tmp 11) (.const (.int .i64 2))) none)] (some [0, 1, 2, 12]) []) (.cond (.tmp 12) .skip (.exit 0))) (.seq (.block 1 (.seq (.region [(AOper.mk (some 3) (.move (.const (.int .u64 0))) none)] (some [0, 1, 2, 3]) []) (.seq (.region [(AOper.mk (some 4) (.move (.const (.int .i64 15))) none)] (some [0, 1, 2, 3, 4]) []) (.block 2 (.loop a89_l0))))) (.region [(AOper.mk (some 13) (.move (.tmp 2)) none), (AOper.mk (some 14) (.bin .add (.tmp 13) (.const (.int .i64 1))) none), (AOper.mk (some 2) (.move (.tmp 14)) none)] (some [0, 1, 2]) [])))
def a89 : AFun := ⟨(.seq (.region [(AOper.mk (some 0) (.alloc (List.replicate 16 (.int .u64 0))) none)] (some [0]) []) (.seq (.region [(AOper.mk (some 6) (.call 87 [] true) none), (AOper.mk (some 1) (.alloc (List.replicate 16 (.int .u64 0))) none), (AOper.mk none (.store 16 (.tmp 1) (.tmp 6)) none)] (some [0, 1]) []) (.seq (.region [(AOper.mk (some 7) (.indexAddr 16 1 (.tmp 1) (.const (.int .i64 0))) none), (AOper.mk (some 8) (.load none (.tmp 7)) none), (AOper.mk (some 9) (.bin .sub (.tmp 8) (.const (.int .u64 1))) none), (AOper.mk (some 10) (.indexAddr 16 1 (.tmp 1) (.const (.int .i64 0))) none), (AOper.mk none (.store 1 (.tmp 10) (.tmp 9)) none)] (some [0, 1]) []) (.seq (.seq (.region [(AOper.mk (some 2) (.move (.const (.int .i64 0))) none)] (some [0, 1, 2]) []) (.block 0 (.loop a89_l1))) (.seq (.region [(AOper.mk (some 31) (.call 70 [(.const (.int .u64 2))] true) none), (AOper.mk (some 32) (.load (some 16) (.tmp 1)) none), (AOper.mk (some 33) (.call 88 [(.tmp 31), (.tmp 32)] true) none), (AOper.mk none (.store 16 (.tmp 0) (.tmp 33)) none)] (some [0]) []) .ret))))), [(0, (some (some 16)))]⟩
def a90_l0 : ACode := (.seq (.seq (.region [(AOper.mk (some 10) (.move (.tmp 7)) none), (AOper.mk (some 11) (.bin .lss (.tmp 10) (.const (.int .i64 16))) none)] (some [2, 3, 4, 5, 6, 7, 11]) []) (.cond (.tmp 11) .skip (.exit 0))) (.seq (.block 1 (.seq (.region [(AOper.mk (some 14) (.move (.tmp 7)) none), (AOper.mk (some 15) (.indexAddr 16 1 (.tmp 2) (.tmp 14)) none), (AOper.mk (some 16) (.load none (.tmp 15)) none), (AOper.mk (some 17) (.bin .add (.tmp 16) (.const (.int .u64 65536))) none), (AOper.mk (some 18) (.move (.tmp 7)) none), (AOper.mk (some 19) (.indexAddr 16 1 (.tmp 3) (.tmp 18)) none), (AOper.mk (some 20) (.load none (.tmp 19)) none), (AOper.mk (some 21) (.bin .sub (.tmp 17) (.tmp 20)) none), (AOper.mk (some 22) (.move (.tmp 6)) none), (AOper.mk (some 23) (.bin .sub (.tmp 21) (.tmp 22)) none), (AOper.mk (some 8) (.move (.tmp 23)) none)] (some [2, 3, 4, 5, 7, 8]) []) (.seq (.region [(AOper.mk (some 24) (.move (.tmp 7)) none), (AOper.mk (some 25) (.move (.tmp 8)) none), (AOper.mk (some 26) (.bin .rem (.tmp 25) (.const (.int .u64 65536))) none), (AOper.mk (some 27) (.indexAddr 16 1 (.tmp 5) (.tmp 24)) none), (AOper.mk none (.store 1 (.tmp 27) (.tmp 26)) none)] (some [2, 3, 4, 5, 7, 8]) []) (.region [(AOper.mk (some 28) (.move (.tmp 8)) none), (AOper.mk (some 29) (.bin .quo (.tmp 28) (.const (.int .u64 65536))) none), (AOper.mk (some 30) (.bin .sub (.const (.int .u64 1)) (.tmp 29)) none), (AOper.mk (some 6) (.move (.tmp 30)) none)] (some [2, 3, 4, 5, 6, 7]) [])))) (.region [(AOper.mk (some 12) (.move (.tmp 7)) none), (AOper.mk (some 13) (.bin .add (.tmp 12) (.const (.int .i64 1))) none), (AOper.mk (some 7) (.move (.tmp 13)) none)] (some [2, 3, 4, 5, 6, 7]) [])))
def a90 : AFun := ⟨(.seq (.region [(AOper.mk (some 2) (.box (.tmp 0)) none), (AOper.mk (some 3) (.box (.tmp 1)) none), (AOper.mk (some 4) (.alloc (List.replicate 16 (.int .u64 0))) none)] (some [2, 3, 4]) []) (.seq (.region [(AOper.mk (some 9) (.build (List.replicate 16 (.int .u64 0)) []) none), (AOper.mk (some 5) (.alloc (List.replicate 16 (.int .u64 0))) none), (AOper.mk none (.store 16 (.tmp 5) (.tmp 9)) none)] (some [2, 3, 4, 5]) []) (.seq (.region [(AOper.mk (some 6) (.move (.const (.int .u64 0))) none)] (some [2, 3, 4, 5, 6]) []) (.seq (.seq (.region [(AOper.mk (some 7) (.move (.const (.int .i64 0))) none)] (some [2, 3, 4, 5, 6, 7]) []) (.block 0 (.loop a90_l0))) (.seq (.region [(AOper.mk (some 31) (.load (some 16) (.tmp 5)) none), (AOper.mk none (.store 16 (.tmp 4) (.tmp 31)) none)] (some [4]) []) .ret))))), [(4, (some (some 16)))]⟩
def a91 : AFun := ⟨(.seq (.region [(AOper.mk (some 4) (.move (.const (.int .u64 0))) none), (AOper.mk (some 5) (.move (.const (.int .u64 0))) none)] (some [0, 1]) []) (.seq (.region [(AOper.mk (some 14) (.move (.tmp 0)) none), (AOper.mk (some 15) (.bin .and (.tmp 14) (.const (.int .u64 4294967295))) none), (AOper.mk (some 6) (.move (.tmp 15)) none)] (some [0, 1, 6]) []) (.seq (.region [(AOper.mk (some 16) (.move (.tmp 0)) none), (AOper.mk (some 17) (.bin .shr (.tmp 16) (.const (.int .u64 32))) none), (AOper.mk (some 7) (.move (.tmp 17)) none)] (some [0, 1, 6, 7]) []) (.seq (.region [(AOper.mk (some 18) (.move (.tmp 1)) none), (AOper.mk (some 19) (.bin .and (.tmp 18) (.const (.int .u64 4294967295))) none), (AOper.mk (some 8) (.move (.tmp 19)) none)] (some [0, 1, 6, 7, 8]) []) (.seq (.region [(AOper.mk (some 20) (.move (.tmp 1)) none), (AOper.mk (some 21) (.bin .shr (.tmp 20) (.const (.int .u64 32))) none), (AOper.mk (some 9) (.move (.tmp 21)) none)] (some [0, 1, 6, 7, 8, 9]) []) (.seq (.region [(AOper.mk (some 22) (.move (.tmp 6)) none), (AOper.mk (some 23) (.move (.tmp 8)) none), (AOper.mk (some 24) (.bin .mul (.tmp 22) (.tmp 23)) none), (AOper.mk (some 10) (.move (.tmp 24)) none)] (some [0, 1, 6, 7, 8, 9, 10]) []) (.seq (.region [(AOper.mk (some 25) (.move (.tmp 7)) none), (AOper.mk (some 26) (.move (.tmp 8)) none), (AOper.mk (some 27) (.bin .mul (.tmp 25) (.tmp 26)) none), (AOper.mk (some 28) (.move (.tmp 10)) none), (AOper.mk (some 29) (.bin .shr (.tmp 28) (.const (.int .u64 32))) none), (AOper.mk (some 30) (.bin .add (.tmp 27) (.tmp 29)) none), (AOper.mk (some 11) (.move (.tmp 30)) none)] (some [0, 1, 6, 7, 9, 11]) []) (.seq (.region [(AOper.mk (some 31) (.move (.tmp 11)) none), (AOper.mk (some 32) (.bin .and (.tmp 31) (.const (.int .u64 4294967295))) none), (AOper.mk (some 12) (.move (.tmp 32)) none)] (some [0, 1, 6, 7, 9, 11, 12]) []) (.seq (.region [(AOper.mk (some 33) (.move (.tmp 11)) none), (AOper.mk (some 34) (.bin .shr (.tmp 33) (.const (.int .u64 32))) none), (AOper.mk (some 13) (.move (.tmp 34)) none)] (some [0, 1, 6, 7, 9, 12, 13]) []) (.seq (.region [(AOper.mk (some 35) (.move (.tmp 12)) none), (AOper.mk (some 36) (.move (.tmp 6)) none), (AOper.mk (some 37) (.move (.tmp 9)) none), (AOper.mk (some 38) (.bin .mul (.tmp 36) (.tmp 37)) none), (AOper.mk (some 39) (.bin .add (.tmp 35) (.tmp 38)) none), (AOper.mk (some 12) (.move (.tmp 39)) none)] (some [0, 1, 7, 9, 12, 13]) []) (.seq (.region [(AOper.mk (some 40) (.move (.tmp 7)) none), (AOper.mk (some 41) (.move (.tmp 9)) none), (AOper.mk (some 42) (.bin .mul (.tmp 40) (.tmp 41)) none), (AOper.mk (some 43) (.move (.tmp 13)) none), (AOper.mk (some 44) (.bin .add (.tmp 42) (.tmp 43)) none), (AOper.mk (some 45) (.move (.tmp 12)) none), (AOper.mk (some 46) (.bin .shr (.tmp 45) (.const (.int .u64 32))) none), (AOper.mk (some 47) (.bin .add (.tmp 44) (.tmp 46)) none), (AOper.mk (some 4) (.move (.tmp 47)) none)] (some [0, 1, 4]) []) (.seq (.region [(AOper.mk (some 48) (.move (.tmp 0)) none), (AOper.mk (some 49) (.move (.tmp 1)) none), (AOper.mk (some 50) (.bin .mul (.tmp 48) (.tmp 49)) none), (AOper.mk (some 5) (.move (.tmp 50)) none)] (some [4, 5]) []) .ret)))))))))))), [(4, none), (5, none)]⟩
def a93_l0 : ACode := (.seq (.seq (.region [(AOper.mk (some 6) (.move (.tmp 5)) none), (AOper.mk (some 7) (.bin .geq (.tmp 6) (.const (.int .i64 0))) none)] (some [2, 3, 5, 7]) []) (.cond (.tmp 7) .skip (.exit 0))) (.seq (.block 1 (.seq (.region [(AOper.mk (some 10) (.move (.tmp 5)) none), (AOper.mk (some 11) (.indexAddr 16 1 (.tmp 2) (.tmp 10)) none), (AOper.mk (some 12) (.load none (.tmp 11)) none), (AOper.mk (some 13) (.move (.tmp 5)) none), (AOper.mk (some 14) (.indexAddr 16 1 (.tmp 3) (.tmp 13)) none), (AOper.mk (some 15) (.load none (.tmp 14)) none), (AOper.mk (some 16) (.bin .neq (.tmp 12) (.tmp 15)) none)] (some [2, 3, 5, 16]) []) (.cond (.tmp 16) (.seq (.region [(AOper.mk (some 17) (.move (.tmp 5)) none), (AOper.mk (some 18) (.indexAddr 16 1 (.tmp 2) (.tmp 17)) none), (AOper.mk (some 19) (.load none (.tmp 18)) none), (AOper.mk (some 20) (.move (.tmp 5)) none), (AOper.mk (some 21) (.indexAddr 16 1 (.tmp 3) (.tmp 20)) none), (AOper.mk (some 22) (.load none (.tmp 21)) none), (AOper.mk (some 23) (.bin .lss (.tmp 19) (.tmp 22)) none), (AOper.mk (some 4) (.move (.tmp 23)) none)] (some [4]) []) .ret) .skip))) (.region [(AOper.mk (some 8) (.move (.tmp 5)) none), (AOper.mk (some 9) (.bin .sub (.tmp 8) (.const (.int .i64 1))) none), (AOper.mk (some 5) (.move (.tmp 9)) none)] (some [2, 3, 5]) [])))
def a93 : AFun := ⟨(.seq (.region [(AOper.mk (some 2) (.box (.tmp 0)) none), (AOper.mk (some 3) (.box (.tmp 1)) none), (AOper.mk (some 4) (.move (.const (.bool false))) none)] (some [2, 3]) []) (.seq (.seq (.region [(AOper.mk (some 5) (.move (.const (.int .i64 15))) none)] (some [2, 3, 5]) []) (.block 0 (.loop a93_l0))) (.seq (.region [(AOper.mk (some 4) (.move (.const (.bool false))) none)] (some [4]) []) .ret))), [(4, none)]⟩
def fnS : Nat → Option AFun
  | 11 => some a11
  | 24 => some a24
  | 25 => some a25
  | 27 => some a27
  | 28 => some a28
  | 29 => some a29
  | 30 => some a30
  | 31 => some a31
  | 32 => some a32
  | 33 => some a33
  | 34 => some a34
  | 35 => some a35
  | 36 => some a36
  | 39 => some a39
  | 49 => some a49
  | 50 => some a50
  | 51 => some a51
  | 52 => some a52
  | 53 => some a53
  | 54 => some a54
  | 55 => some a55
  | 56 => some a56
  | 57 => some a57
  | 58 => some a58
  | 59 => some a59
  | 60 => some a60
  | 61 => some a61
  | 62 => some a62
  | 63 => some a63
  | 64 => some a64
  | 65 => some a65
  | 66 => some a66
  | 67 => some a67
  | 68 => some a68
  | 69 => some a69
  | 70 => some a70
  | 71 => some a71
  | 72 => some a72
  | 73 => some a73
  | 77 => some a77
  | 78 => some a78
  | 79 => some a79
  | 80 => some a80
  | 81 => some a81
  | 82 => some a82
  | 83 => some a83
  | 84 => some a84
  | 85 => some a85
  | 86 => some a86
  | 87 => some a87
  | 88 => some a88
  | 89 => some a89
  | 90 => some a90
  | 91 => some a91
  | 93 => some a93
  | _ => none
end Go.Ev.Ytaceeoghjgggjaa
set_option linter.unusedSimpArgs false
set_option linter.unusedVariables false
namespace Go.Ev
theorem wrap_u32 (x : Int) : IntKind.u32.wrap x = x % 4294967296 := rfl
theorem wrap_u64 (x : Int) : IntKind.u64.wrap x = x % 18446744073709551616 := rfl
theorem wrap_u8 (x : Int) : IntKind.u8.wrap x = x % 256 := rfl
theorem wrap_u16 (x : Int) : IntKind.u16.wrap x = x % 65536 := rfl
theorem wrapI64_small {x : Int} (h : -9223372036854775808 ≤ x) (k : x < 9223372036854775808) : IntKind.i64.wrap x = x := by
  simp [IntKind.wrap, IntKind.signed, IntKind.bits]
  omega
theorem wrap_small {k : IntKind} (hk : k.signed = false) {n : Nat} (h : n < 2 ^ k.bits) : k.wrap (n : Int) = n := by
  simp only [IntKind.wrap, hk, Bool.false_and, if_false, Bool.false_eq_true]
  rw [Int.emod_eq_of_lt (Int.natCast_nonneg _)]
  exact_mod_cast h
theorem ofInt_nat {w a : Nat} : BitVec.ofInt w (a : Int) = BitVec.ofNat w a := by simp
theorem bits_and {k : IntKind} (hk : k.signed = false) {a b : Nat} (ha : a < 2 ^ k.bits) (hb : b < 2 ^ k.bits) : bitsOp .and k a b = ((a &&& b : Nat) : Int) := by
  simp only [bitsOp, ofInt_nat]
  rw [BitVec.toNat_and, BitVec.toNat_ofNat, BitVec.toNat_ofNat, Nat.mod_eq_of_lt ha, Nat.mod_eq_of_lt hb, wrap_small hk (Nat.and_lt_two_pow _ hb)]
theorem bits_or {k : IntKind} (hk : k.signed = false) {a b : Nat} (ha : a < 2 ^ k.bits) (hb : b < 2 ^ k.bits) : bitsOp .or k a b = ((a ||| b : Nat) : Int) := by
  simp only [bitsOp, ofInt_nat]
  rw [BitVec.toNat_or, BitVec.toNat_ofNat, BitVec.toNat_ofNat, Nat.mod_eq_of_lt ha, Nat.mod_eq_of_lt hb, wrap_small hk (Nat.or_lt_two_pow ha hb)]
end Go.Ev
set_option linter.unusedSimpArgs false
set_option linter.unusedVariables false
namespace Go.Ev
section
variable {T : Tab}
theorem loop_run {base : Nat} {body : ACode} (I : Nat → St) {r : AExit × St} (hr : r.1 ≠ .normal) : ∀ (n i : Nat), (∀ j, i ≤ j → j < i + n → evCode T base body (I j) = some (.normal, I (j + 1))) → evCode T base body (I (i + n)) = some r →
    evCode T base (.loop body) (I i) = some r
  | 0, i, _, hl => by
    rw [evCode_loop, show i = i + 0 from rfl, hl]
    obtain ⟨x, s⟩ := r
    cases x with
    | normal => exact absurd rfl hr
    | exit id => rfl
    | ret => rfl
  | n + 1, i, hs, hl => by
    rw [evCode_loop, hs i (Nat.le_refl _) (by omega)]
    exact loop_run I hr n (i + 1) (fun j h1 h2 => hs j (by omega) (by omega)) (by rw [show i + 1 + n = i + (n + 1) by omega]; exact hl)
theorem block_loop {base id : Nat} {body : ACode} (I : Nat → St) {s' : St} (n : Nat) (hs : ∀ j, j < n → evCode T base body (I j) = some (.normal, I (j + 1))) (hl : evCode T base body (I n) = some (.exit id, s')) :
    evCode T base (.block id (.loop body)) (I 0) = some (.normal, s') := by
  rw [evCode_block, loop_run (r := (.exit id, s')) I (by simp) n 0 (fun j _ h => hs j (by omega)) (by simpa using hl)]
  simp
end
section
variable {T : Tab}
theorem loop_inv {base : Nat} {body : ACode} {I : Nat → St → Prop} {x : AExit} (hx : x ≠ .normal) {Q : St → Prop} (n : Nat) (hs : ∀ j s, j < n → I j s → ∃ s', evCode T base body s = some (.normal, s') ∧ I (j + 1) s') (hl : ∀ s, I n s → ∃ s', evCode T base body s = some (x, s') ∧ Q s') :
    ∀ (k i : Nat), i + k = n → ∀ s, I i s → ∃ s', evCode T base (.loop body) s = some (x, s') ∧ Q s'
  | 0, i, hi, s, h => by
    obtain ⟨s', h1, h2⟩ := hl s (by rw [← hi]; exact h)
    refine ⟨s', ?_, h2⟩
    rw [evCode_loop, h1]
    cases x with
    | normal => exact absurd rfl hx
    | exit id => rfl
    | ret => rfl
  | k + 1, i, hi, s, h => by
    obtain ⟨s1, h1, h2⟩ := hs i s (by omega) h
    obtain ⟨s', h3, h4⟩ := loop_inv hx n hs hl k (i + 1) (by omega) s1 h2
    exact ⟨s', by rw [evCode_loop, h1]; exact h3, h4⟩
theorem block_inv {base id : Nat} {body : ACode} (I : Nat → St → Prop) {Q : St → Prop} (n : Nat) {s : St} (h0 : I 0 s) (hs : ∀ j s, j < n → I j s → ∃ s', evCode T base body s = some (.normal, s') ∧ I (j + 1) s') (hl : ∀ s, I n s → ∃ s', evCode T base body s = some (.exit id, s') ∧ Q s') :
    ∃ s', evCode T base (.block id (.loop body)) s = some (.normal, s') ∧ Q s' := by
  obtain ⟨s', h1, h2⟩ := loop_inv (T := T) (x := .exit id) (by simp) n hs hl n 0 (by omega) s h0
  exact ⟨s', by rw [evCode_block, h1]; simp, h2⟩
end
theorem at0 {H r : List Ob} {a : Ob} : (H ++ a :: r)[H.length]? = some a := by simp
theorem at1 {H r : List Ob} {a b : Ob} : (H ++ a :: b :: r)[H.length + 1]? = some b := by simp
theorem at2 {H r : List Ob} {a b c : Ob} : (H ++ a :: b :: c :: r)[H.length + 2]? = some c := by simp
theorem liveAt_some {H : List Ob} {id : Nat} {o : Ob} (h : H[id]? = some o) (hl : o.live = true) : liveAt H id = some o := by simp [liveAt, h, hl]
def Row (k : IntKind) (H : List Ob) (id off : Nat) (xs : List Nat) : Prop := ∃ o, liveAt H id = some o ∧ ∀ i x, xs[i]? = some x → o.cells[off + i]? = some (.int k (x : Nat))
theorem Row.load {k : IntKind} {H : List Ob} {id off i x : Nat} {xs : List Nat} {e : Env} {a : Operand} (h : Row k H id off xs) (hi : xs[i]? = some x) (ha : opd e a = some (.pointer (some ⟨id, off + i, none⟩))) :
    simpleOp H e (.load none a) = some (.int k (x : Nat), H, some [id], []) := by
  obtain ⟨o, h1, h2⟩ := h
  simp [simpleOp, ha, h1, partL, h2 i x hi]
def u8s (l : List Nat) : List Value := l.map fun n => .int .u8 (n : Nat)
theorem u8s_len (l : List Nat) : (u8s l).length = l.length := by simp [u8s]
theorem u8s_set (l : List Nat) (i n : Nat) : (u8s l).set i (.int .u8 (n : Nat)) = u8s (l.set i n) := by simp [u8s, List.map_set]
theorem u8s_get {l : List Nat} {i x : Nat} (h : l[i]? = some x) : (u8s l)[i]? = some (.int .u8 (x : Nat)) := by simp [u8s, h]
theorem cells_int (k : IntKind) (n : Int) : (Value.int k n).cells.toList = [.int k n] := rfl
theorem cells_int_size (k : IntKind) (n : Int) : (Value.int k n).cells.size = 1 := rfl
theorem addr_add (b o n : Nat) : (⟨b, o, none⟩ : Addr).add n = ⟨b, o + n, none⟩ := by
  unfold Addr.add
  split <;> simp_all
theorem wrap_nat {n : Nat} (h : n < 9223372036854775808) : IntKind.i64.wrap (n : Int) = n := wrapI64_small (by omega) (by omega)
theorem splice_single (cs : List Value) (off : Nat) (x : Value) : splice cs off [x] = cs.set off x := rfl
theorem cells_agg (l : List Value) : (Value.agg l.toArray).cells.toList = l := rfl
theorem cells_agg_size (l : List Value) : (Value.agg l.toArray).cells.size = l.length := rfl
theorem rf_int (k : IntKind) (n : Int) : rf (.int k n) = true := rfl
theorem rf_tuple_ints (k j : IntKind) (a b : Int) : rf (.tuple #[.int k a, .int j b]) = true := rfl
theorem toList2 (a b : Value) : (#[a, b] : Array Value).toList = [a, b] := rfl
theorem Row.elems {k : IntKind} {H : List Ob} {id off n c : Nat} {xs : List Nat} (h : Row k H id off xs) (hx : 0 < xs.length) : elemsOf H 1 xs.length (.slice (some ⟨id, off, none⟩) n c) = some (xs.map fun (x : Nat) => Value.int k x) := by
  obtain ⟨o, h1, h2⟩ := h
  have hl : off + xs.length ≤ o.cells.length := by
    have := h2 (xs.length - 1) _ (List.getElem?_eq_getElem (by omega))
    have := (List.getElem?_eq_some_iff.1 this).1
    omega
  simp only [elemsOf, h1, Option.bind_some, Option.isNone_none, Nat.mul_one, hl, and_self, if_true, Option.some.injEq]
  apply List.ext_getElem?
  intro i
  rw [List.getElem?_take]
  by_cases hi : i < xs.length
  · rw [if_pos hi, List.getElem?_drop, h2 i _ (List.getElem?_eq_getElem hi), List.getElem?_map, List.getElem?_eq_getElem hi]; rfl
  · rw [if_neg hi, List.getElem?_eq_none (by simp; omega)]
theorem splice_gen (cs : List Value) (off : Nat) (v : List Value) (h : off + v.length ≤ cs.length) : splice cs off v = cs.take off ++ (v ++ cs.drop (off + v.length)) := by
  unfold splice
  split
  · rename_i x
    simp only [List.length_cons, List.length_nil, Nat.zero_add] at h
    rw [List.set_eq_take_append_cons_drop, if_pos (by omega)]
    simp
  · rfl
end Go.Ev
set_option linter.unusedSimpArgs false
set_option linter.unusedVariables false
namespace Go.Ev.Ytaceeoghjgggjaa
open Go Go.Ev
def extS (f : Nat) (args : List Value) : Option Value :=
  match f, args with
  | 92, [.int .u64 x, .int .u64 y, .int .u64 c] => if c.toNat ≤ 1 then some (.tuple #[.int .u64 ((x.toNat + y.toNat + c.toNat) % 18446744073709551616 : Nat), .int .u64 ((x.toNat + y.toNat + c.toNat) / 18446744073709551616 : Nat)]) else none
  | _, _ => none
def T : Tab := ⟨fnS, extS⟩
attribute [local congr] bind_congr1
set_option maxRecDepth 100000
def subB (x y c : Nat) : Nat := if x < y + c then 1 else 0
def subD (x y c : Nat) : Nat := if x < y + c then x + 4294967296 - (y + c) else x - (y + c)
def addC (x y c : Nat) : Nat := (x + y + c) / 4294967296
def addS (x y c : Nat) : Nat := (x + y + c) % 4294967296
def orderW : List Nat := [1559614445, 1477600026, 2734136534, 350157278, 0, 0, 0, 268435456]
end Go.Ev.Ytaceeoghjgggjaa
set_option linter.unusedSimpArgs false
set_option linter.unusedVariables false
namespace Go.Ev.Ytaceeoghjgggjaa
open Go Go.Ev Go.Proofs
set_option maxRecDepth 100000
theorem tab11 : ∃ fn, Try.prog.funcs[11]? = some fn ∧ compFun Try.prog fn = some a11.strip ∧ (fn.name == "runtime.NumGoroutine") = false := ⟨Try.f11, Try.func11, by kernel_rfl, by kernel_rfl⟩
theorem tab24 : ∃ fn, Try.prog.funcs[24]? = some fn ∧ compFun Try.prog fn = some a24.strip ∧ (fn.name == "runtime.NumGoroutine") = false := ⟨Try.f24, Try.func24, by kernel_rfl, by kernel_rfl⟩
theorem tab25 : ∃ fn, Try.prog.funcs[25]? = some fn ∧ compFun Try.prog fn = some a25.strip ∧ (fn.name == "runtime.NumGoroutine") = false := ⟨Try.f25, Try.func25, by kernel_rfl, by kernel_rfl⟩
theorem tab27 : ∃ fn, Try.prog.funcs[27]? = some fn ∧ compFun Try.prog fn = some a27.strip ∧ (fn.name == "runtime.NumGoroutine") = false := ⟨Try.f27, Try.func27, by kernel_rfl, by kernel_rfl⟩
theorem tab28 : ∃ fn, Try.prog.funcs[28]? = some fn ∧ compFun Try.prog fn = some a28.strip ∧ (fn.name == "runtime.NumGoroutine") = false := ⟨Try.f28, Try.func28, by kernel_rfl, by kernel_rfl⟩
theorem tab29 : ∃ fn, Try.prog.funcs[29]? = some fn ∧ compFun Try.prog fn = some a29.strip ∧ (fn.name == "runtime.NumGoroutine") = false := ⟨Try.f29, Try.func29, by kernel_rfl, by kernel_rfl⟩
theorem tab30 : ∃ fn, Try.prog.funcs[30]? = some fn ∧ compFun Try.prog fn = some a30.strip ∧ (fn.name == "runtime.NumGoroutine") = false := ⟨Try.f30, Try.func30, by kernel_rfl, by kernel_rfl⟩
theorem tab31 : ∃ fn, Try.prog.funcs[31]? = some fn ∧ compFun Try.prog fn = some a31.strip ∧ (fn.name == "runtime.NumGoroutine") = false := ⟨Try.f31, Try.func31, by kernel_rfl, by kernel_rfl⟩
theorem tab32 : ∃ fn, Try.prog.funcs[32]? = some fn ∧ compFun Try.prog fn = some a32.strip ∧ (fn.name == "runtime.NumGoroutine") = false := ⟨Try.f32, Try.func32, by kernel_rfl, by kernel_rfl⟩
theorem tab33 : ∃ fn, Try.prog.funcs[33]? = some fn ∧ compFun Try.prog fn = some a33.strip ∧ (fn.name == "runtime.NumGoroutine") = false := ⟨Try.f33, Try.func33, by kernel_rfl, by kernel_rfl⟩
theorem tab34 : ∃ fn, Try.prog.funcs[34]? = some fn ∧ compFun Try.prog fn = some a34.strip ∧ (fn.name == "runtime.NumGoroutine") = false := ⟨Try.f34, Try.func34, by kernel_rfl, by kernel_rfl⟩
theorem tab35 : ∃ fn, Try.prog.funcs[35]? = some fn ∧ compFun Try.prog fn = some a35.strip ∧ (fn.name == "runtime.NumGoroutine") = false := ⟨Try.f35, Try.func35, by kernel_rfl, by kernel_rfl⟩
theorem tab36 : ∃ fn, Try.prog.funcs[36]? = some fn ∧ compFun Try.prog fn = some a36.strip ∧ (fn.name == "runtime.NumGoroutine") = false := ⟨Try.f36, Try.func36, by kernel_rfl, by kernel_rfl⟩
theorem tab39 : ∃ fn, Try.prog.funcs[39]? = some fn ∧ compFun Try.prog fn = some a39.strip ∧ (fn.name == "runtime.NumGoroutine") = false := ⟨Try.f39, Try.func39, by kernel_rfl, by kernel_rfl⟩
theorem tab49 : ∃ fn, Try.prog.funcs[49]? = some fn ∧ compFun Try.prog fn = some a49.strip ∧ (fn.name == "runtime.NumGoroutine") = false := ⟨Try.f49, Try.func49, by kernel_rfl, by kernel_rfl⟩
theorem tab50 : ∃ fn, Try.prog.funcs[50]? = some fn ∧ compFun Try.prog fn = some a50.strip ∧ (fn.name == "runtime.NumGoroutine") = false := ⟨Try.f50, Try.func50, by kernel_rfl, by kernel_rfl⟩
theorem tab51 : ∃ fn, Try.prog.funcs[51]? = some fn ∧ compFun Try.prog fn = some a51.strip ∧ (fn.name == "runtime.NumGoroutine") = false := ⟨Try.f51, Try.func51, by kernel_rfl, by kernel_rfl⟩
theorem tab52 : ∃ fn, Try.prog.funcs[52]? = some fn ∧ compFun Try.prog fn = some a52.strip ∧ (fn.name == "runtime.NumGoroutine") = false := ⟨Try.f52, Try.func52, by kernel_rfl, by kernel_rfl⟩
theorem tab53 : ∃ fn, Try.prog.funcs[53]? = some fn ∧ compFun Try.prog fn = some a53.strip ∧ (fn.name == "runtime.NumGoroutine") = false := ⟨Try.f53, Try.func53, by kernel_rfl, by kernel_rfl⟩
theorem tab54 : ∃ fn, Try.prog.funcs[54]? = some fn ∧ compFun Try.prog fn = some a54.strip ∧ (fn.name == "runtime.NumGoroutine") = false := ⟨Try.f54, Try.func54, by kernel_rfl, by kernel_rfl⟩
theorem tab55 : ∃ fn, Try.prog.funcs[55]? = some fn ∧ compFun Try.prog fn = some a55.strip ∧ (fn.name == "runtime.NumGoroutine") = false := ⟨Try.f55, Try.func55, by kernel_rfl, by kernel_rfl⟩
theorem tab56 : ∃ fn, Try.prog.funcs[56]? = some fn ∧ compFun Try.prog fn = some a56.strip ∧ (fn.name == "runtime.NumGoroutine") = false := ⟨Try.f56, Try.func56, by kernel_rfl, by kernel_rfl⟩
theorem tab57 : ∃ fn, Try.prog.funcs[57]? = some fn ∧ compFun Try.prog fn = some a57.strip ∧ (fn.name == "runtime.NumGoroutine") = false := ⟨Try.f57, Try.func57, by kernel_rfl, by kernel_rfl⟩
theorem tab58 : ∃ fn, Try.prog.funcs[58]? = some fn ∧ compFun Try.prog fn = some a58.strip ∧ (fn.name == "runtime.NumGoroutine") = false := ⟨Try.f58, Try.func58, by kernel_rfl, by kernel_rfl⟩
theorem tab59 : ∃ fn, Try.prog.funcs[59]? = some fn ∧ compFun Try.prog fn = some a59.strip ∧ (fn.name == "runtime.NumGoroutine") = false := ⟨Try.f59, Try.func59, by kernel_rfl, by kernel_rfl⟩
theorem tab60 : ∃ fn, Try.prog.funcs[60]? = some fn ∧ compFun Try.prog fn = some a60.strip ∧ (fn.name == "runtime.NumGoroutine") = false := ⟨Try.f60, Try.func60, by kernel_rfl, by kernel_rfl⟩
theorem tab61 : ∃ fn, Try.prog.funcs[61]? = some fn ∧ compFun Try.prog fn = some a61.strip ∧ (fn.name == "runtime.NumGoroutine") = false := ⟨Try.f61, Try.func61, by kernel_rfl, by kernel_rfl⟩
theorem tab62 : ∃ fn, Try.prog.funcs[62]? = some fn ∧ compFun Try.prog fn = some a62.strip ∧ (fn.name == "runtime.NumGoroutine") = false := ⟨Try.f62, Try.func62, by kernel_rfl, by kernel_rfl⟩
theorem tab63 : ∃ fn, Try.prog.funcs[63]? = some fn ∧ compFun Try.prog fn = some a63.strip ∧ (fn.name == "runtime.NumGoroutine") = false := ⟨Try.f63, Try.func63, by kernel_rfl, by kernel_rfl⟩
theorem tab64 : ∃ fn, Try.prog.funcs[64]? = some fn ∧ compFun Try.prog fn = some a64.strip ∧ (fn.name == "runtime.NumGoroutine") = false := ⟨Try.f64, Try.func64, by kernel_rfl, by kernel_rfl⟩
theorem tab65 : ∃ fn, Try.prog.funcs[65]? = some fn ∧ compFun Try.prog fn = some a65.strip ∧ (fn.name == "runtime.NumGoroutine") = false := ⟨Try.f65, Try.func65, by kernel_rfl, by kernel_rfl⟩
theorem tab66 : ∃ fn, Try.prog.funcs[66]? = some fn ∧ compFun Try.prog fn = some a66.strip ∧ (fn.name == "runtime.NumGoroutine") = false := ⟨Try.f66, Try.func66, by kernel_rfl, by kernel_rfl⟩
theorem tab67 : ∃ fn, Try.prog.funcs[67]? = some fn ∧ compFun Try.prog fn = some a67.strip ∧ (fn.name == "runtime.NumGoroutine") = false := ⟨Try.f67, Try.func67, by kernel_rfl, by kernel_rfl⟩
theorem tab68 : ∃ fn, Try.prog.funcs[68]? = some fn ∧ compFun Try.prog fn = some a68.strip ∧ (fn.name == "runtime.NumGoroutine") = false := ⟨Try.f68, Try.func68, by kernel_rfl, by kernel_rfl⟩
theorem tab69 : ∃ fn, Try.prog.funcs[69]? = some fn ∧ compFun Try.prog fn = some a69.strip ∧ (fn.name == "runtime.NumGoroutine") = false := ⟨Try.f69, Try.func69, by kernel_rfl, by kernel_rfl⟩
theorem tab70 : ∃ fn, Try.prog.funcs[70]? = some fn ∧ compFun Try.prog fn = some a70.strip ∧ (fn.name == "runtime.NumGoroutine") = false := ⟨Try.f70, Try.func70, by kernel_rfl, by kernel_rfl⟩
theorem tab71 : ∃ fn, Try.prog.funcs[71]? = some fn ∧ compFun Try.prog fn = some a71.strip ∧ (fn.name == "runtime.NumGoroutine") = false := ⟨Try.f71, Try.func71, by kernel_rfl, by kernel_rfl⟩
theorem tab72 : ∃ fn, Try.prog.funcs[72]? = some fn ∧ compFun Try.prog fn = some a72.strip ∧ (fn.name == "runtime.NumGoroutine") = false := ⟨Try.f72, Try.func72, by kernel_rfl, by kernel_rfl⟩
theorem tab73 : ∃ fn, Try.prog.funcs[73]? = some fn ∧ compFun Try.prog fn = some a73.strip ∧ (fn.name == "runtime.NumGoroutine") = false := ⟨Try.f73, Try.func73, by kernel_rfl, by kernel_rfl⟩
theorem tab77 : ∃ fn, Try.prog.funcs[77]? = some fn ∧ compFun Try.prog fn = some a77.strip ∧ (fn.name == "runtime.NumGoroutine") = false := ⟨Try.f77, Try.func77, by kernel_rfl, by kernel_rfl⟩
theorem tab78 : ∃ fn, Try.prog.funcs[78]? = some fn ∧ compFun Try.prog fn = some a78.strip ∧ (fn.name == "runtime.NumGoroutine") = false := ⟨Try.f78, Try.func78, by kernel_rfl, by kernel_rfl⟩
theorem tab79 : ∃ fn, Try.prog.funcs[79]? = some fn ∧ compFun Try.prog fn = some a79.strip ∧ (fn.name == "runtime.NumGoroutine") = false := ⟨Try.f79, Try.func79, by kernel_rfl, by kernel_rfl⟩
theorem tab80 : ∃ fn, Try.prog.funcs[80]? = some fn ∧ compFun Try.prog fn = some a80.strip ∧ (fn.name == "runtime.NumGoroutine") = false := ⟨Try.f80, Try.func80, by kernel_rfl, by kernel_rfl⟩
theorem tab81 : ∃ fn, Try.prog.funcs[81]? = some fn ∧ compFun Try.prog fn = some a81.strip ∧ (fn.name == "runtime.NumGoroutine") = false := ⟨Try.f81, Try.func81, by kernel_rfl, by kernel_rfl⟩
theorem tab82 : ∃ fn, Try.prog.funcs[82]? = some fn ∧ compFun Try.prog fn = some a82.strip ∧ (fn.name == "runtime.NumGoroutine") = false := ⟨Try.f82, Try.func82, by kernel_rfl, by kernel_rfl⟩
theorem tab83 : ∃ fn, Try.prog.funcs[83]? = some fn ∧ compFun Try.prog fn = some a83.strip ∧ (fn.name == "runtime.NumGoroutine") = false := ⟨Try.f83, Try.func83, by kernel_rfl, by kernel_rfl⟩
theorem tab84 : ∃ fn, Try.prog.funcs[84]? = some fn ∧ compFun Try.prog fn = some a84.strip ∧ (fn.name == "runtime.NumGoroutine") = false := ⟨Try.f84, Try.func84, by kernel_rfl, by kernel_rfl⟩
theorem tab85 : ∃ fn, Try.prog.funcs[85]? = some fn ∧ compFun Try.prog fn = some a85.strip ∧ (fn.name == "runtime.NumGoroutine") = false := ⟨Try.f85, Try.func85, by kernel_rfl, by kernel_rfl⟩
theorem tab86 : ∃ fn, Try.prog.funcs[86]? = some fn ∧ compFun Try.prog fn = some a86.strip ∧ (fn.name == "runtime.NumGoroutine") = false := ⟨Try.f86, Try.func86, by kernel_rfl, by kernel_rfl⟩
theorem tab87 : ∃ fn, Try.prog.funcs[87]? = some fn ∧ compFun Try.prog fn = some a87.strip ∧ (fn.name == "runtime.NumGoroutine") = false := ⟨Try.f87, Try.func87, by kernel_rfl, by kernel_rfl⟩
theorem tab88 : ∃ fn, Try.prog.funcs[88]? = some fn ∧ compFun Try.prog fn = some a88.strip ∧ (fn.name == "runtime.NumGoroutine") = false := ⟨Try.f88, Try.func88, by kernel_rfl, by kernel_rfl⟩
theorem tab89 : ∃ fn, Try.prog.funcs[89]? = some fn ∧ compFun Try.prog fn = some a89.strip ∧ (fn.name == "runtime.NumGoroutine") = false := ⟨Try.f89, Try.func89, by kernel_rfl, by kernel_rfl⟩
theorem tab90 : ∃ fn, Try.prog.funcs[90]? = some fn ∧ compFun Try.prog fn = some a90.strip ∧ (fn.name == "runtime.NumGoroutine") = false := ⟨Try.f90, Try.func90, by kernel_rfl, by kernel_rfl⟩
theorem tab91 : ∃ fn, Try.prog.funcs[91]? = some fn ∧ compFun Try.prog fn = some a91.strip ∧ (fn.name == "runtime.NumGoroutine") = false := ⟨Try.f91, Try.func91, by kernel_rfl, by kernel_rfl⟩
theorem tab93 : ∃ fn, Try.prog.funcs[93]? = some fn ∧ compFun Try.prog fn = some a93.strip ∧ (fn.name == "runtime.NumGoroutine") = false := ⟨Try.f93, Try.func93, by kernel_rfl, by kernel_rfl⟩
theorem call_add64 (args : Array Value) (w : World) : (callFunc 92 args).run Try.prog w = (((do
    let (x, y, c) ← Extern.MathBitsCarry.three "Add64" args
    pure (Extern.MathBitsCarry.pair ((x + y + c) % Extern.MathBitsCarry.m64) ((x + y + c) / Extern.MathBitsCarry.m64))) : Sem Value).run Try.prog w).andThen fun v w' => .ok (.value v) w' :=
  run_callFunc_extern (e := fun args => do
    let (x, y, c) ← Extern.MathBitsCarry.three "Add64" args
    pure (Extern.MathBitsCarry.pair ((x + y + c) % Extern.MathBitsCarry.m64) ((x + y + c) / Extern.MathBitsCarry.m64))) Try.func92 (by kernel_rfl) (by kernel_rfl) (by kernel_rfl) (by kernel_rfl) args w
theorem run_add64 (P : Program) (w : World) (x y c : Int) (hc : c.toNat ≤ 1) : (((do
    let (x, y, c) ← Extern.MathBitsCarry.three "Add64" [Value.int .u64 x, .int .u64 y, .int .u64 c].toArray
    pure (Extern.MathBitsCarry.pair ((x + y + c) % Extern.MathBitsCarry.m64) ((x + y + c) / Extern.MathBitsCarry.m64))) : Sem Value).run P w) = .ok (.tuple #[.int .u64 ((x.toNat + y.toNat + c.toNat) % 18446744073709551616 : Nat), .int .u64 ((x.toNat + y.toNat + c.toNat) / 18446744073709551616 : Nat)]) w := by
  have hc' : ¬ c.toNat > 1 := by omega
  have e : Extern.MathBitsCarry.three "Add64" [Value.int .u64 x, .int .u64 y, .int .u64 c].toArray = (if c.toNat > 1 then (do unsupported (.noEntry ("extern/math/bits." ++ "Add64" ++ ": a carry that is neither 0 nor 1")); pure (x.toNat, y.toNat, c.toNat)) else pure (x.toNat, y.toNat, c.toNat) : Sem (Nat × Nat × Nat)) := by
    rfl
  rw [e, if_neg hc']
  rfl
theorem tabExt (f : Nat) (args : List Value) (v : Value) (h : T.ext f args = some v) : (∀ ρ, VRel ρ v v) ∧ ∀ w, (callFunc f args.toArray).run Try.prog w = .ok (.value v) w := by
  have h' : extS f args = some v := h
  unfold extS at h'
  split at h'
  · split at h'
    · rename_i hc
      cases h'
      refine ⟨fun ρ => VRel.tuple (.cons (.same rfl) (.cons (.same rfl) .nil)), fun w => ?_⟩
      rw [call_add64, run_add64 _ _ _ _ _ hc]
      rfl
    · cases h'
  · cases h'
theorem tabOk : TabOk Try.prog T := by
  refine ⟨fun f af h => ?_, fun f args v _ h _ => tabExt f args v h⟩
  have h' : fnS f = some af := h
  unfold fnS at h'
  split at h'
  · cases h'; exact tab11
  · cases h'; exact tab24
  · cases h'; exact tab25
  · cases h'; exact tab27
  · cases h'; exact tab28
  · cases h'; exact tab29
  · cases h'; exact tab30
  · cases h'; exact tab31
  · cases h'; exact tab32
  · cases h'; exact tab33
  · cases h'; exact tab34
  · cases h'; exact tab35
  · cases h'; exact tab36
  · cases h'; exact tab39
  · cases h'; exact tab49
  · cases h'; exact tab50
  · cases h'; exact tab51
  · cases h'; exact tab52
  · cases h'; exact tab53
  · cases h'; exact tab54
  · cases h'; exact tab55
  · cases h'; exact tab56
  · cases h'; exact tab57
  · cases h'; exact tab58
  · cases h'; exact tab59
  · cases h'; exact tab60
  · cases h'; exact tab61
  · cases h'; exact tab62
  · cases h'; exact tab63
  · cases h'; exact tab64
  · cases h'; exact tab65
  · cases h'; exact tab66
  · cases h'; exact tab67
  · cases h'; exact tab68
  · cases h'; exact tab69
  · cases h'; exact tab70
  · cases h'; exact tab71
  · cases h'; exact tab72
  · cases h'; exact tab73
  · cases h'; exact tab77
  · cases h'; exact tab78
  · cases h'; exact tab79
  · cases h'; exact tab80
  · cases h'; exact tab81
  · cases h'; exact tab82
  · cases h'; exact tab83
  · cases h'; exact tab84
  · cases h'; exact tab85
  · cases h'; exact tab86
  · cases h'; exact tab87
  · cases h'; exact tab88
  · cases h'; exact tab89
  · cases h'; exact tab90
  · cases h'; exact tab91
  · cases h'; exact tab93
  · cases h'
theorem mixed : Try.prog.follows .mixedOrders = true := by kernel_rfl
end Go.Ev.Ytaceeoghjgggjaa
set_option linter.unusedSimpArgs false
set_option linter.unusedVariables false
namespace Go.Ev
open Go.RowKit Go.WideShapes Go.ChangeShapes
theorem open_bytes {P : Program} {w : World} {r : Reach} {base : Nat} {t e : TypeId} {v : Value} {n : Nat} {e' : TypeId} (ht : P.underlying t = some (.array n e')) (hc : P.cellsOf t = n) (hts : P.cellTypes P.depth t = some (List.replicate n e)) (he : P.underlying e = some (.int .u8)) (hn : 0 < n)
    (h : Value.okWide P w r base t v) : ∃ l : List Nat, v = .agg (u8s l).toArray ∧ l.length = n ∧ ∀ x ∈ l, x < 256 := by
  simp only [Value.okWide, ht] at h
  obtain ⟨cs, rfl, h1, ts, h2, -, h3⟩ := h
  rw [hc] at h1
  rw [hts] at h2
  cases h2
  have hcell : ∀ (i : Nat) (v : Value), cs[i]? = some v → ∃ x : Nat, v = Value.int .u8 (x : Nat) ∧ x < 256 := by
    intro i v hv
    obtain ⟨u, g1, g2⟩ := h3 i v hv
    have hu : u = e := by
      have := List.mem_of_getElem? g1
      exact List.eq_of_mem_replicate this
    subst hu
    simp only [Cell.okWide, Cell.ok, he] at g2
    cases v <;> try (exact g2.elim)
    · rename_i k x
      obtain ⟨rfl, g3, g4⟩ := g2
      have g3' : (0 : Int) ≤ x := g3
      have g4' : x ≤ 255 := g4
      exact ⟨x.toNat, by rw [Int.toNat_of_nonneg g3'], by omega⟩
  refine ⟨cs.toList.map fun v => match v with | .int _ n => n.toNat | _ => 0, ?_, by simp [h1], ?_⟩
  · congr 1
    apply Array.ext_getElem?
    intro i
    simp only [u8s, List.map_map, List.getElem?_toArray, List.getElem?_map, Array.getElem?_toList]
    cases hv : cs[i]? with
    | none => rfl
    | some v =>
      obtain ⟨x, rfl, hx⟩ := hcell i v hv
      simp
  · intro x hx
    simp only [List.mem_map] at hx
    obtain ⟨v, hv, rfl⟩ := hx
    obtain ⟨i, hi⟩ := List.mem_iff_getElem?.1 hv
    rw [Array.getElem?_toList] at hi
    obtain ⟨x, rfl, hx⟩ := hcell i v hi
    simpa using hx
end Go.Ev
set_option linter.unusedSimpArgs false
set_option linter.unusedVariables false
namespace Go.Ev
def num (B : Nat) : List Nat → Nat
  | [] => 0
  | x :: r => x + B * num B r
def dig (B n v : Nat) : List Nat := (List.range n).map fun i => v / B ^ i % B
theorem dig_len (B n v : Nat) : (dig B n v).length = n := by simp [dig]
theorem dig_get {B n v i : Nat} (h : i < n) : (dig B n v)[i]? = some (v / B ^ i % B) := by simp [dig, h]
theorem dig_lt {B n v x : Nat} (hB : 0 < B) (h : x ∈ dig B n v) : x < B := by
  simp only [dig, List.mem_map] at h
  obtain ⟨i, _, rfl⟩ := h
  exact Nat.mod_lt _ hB
theorem dig_ext {B n v : Nat} {l : List Nat} (hl : l.length = n) (h : ∀ i, i < n → l[i]? = some (v / B ^ i % B)) : l = dig B n v := by
  apply List.ext_getElem?
  intro i
  by_cases hi : i < n
  · rw [h i hi, dig_get hi]
  · rw [List.getElem?_eq_none (by omega), List.getElem?_eq_none (by rw [dig_len]; omega)]
theorem num_lt {B : Nat} : ∀ {l : List Nat}, (∀ x ∈ l, x < B) → num B l < B ^ l.length
  | [], _ => by simp [num]
  | x :: r, h => by
    have h1 : x < B := h x (by simp)
    have h2 := num_lt (l := r) fun y hy => h y (by simp [hy])
    simp only [num, List.length_cons, Nat.pow_succ]
    have h3 : B * (num B r + 1) ≤ B * B ^ r.length := Nat.mul_le_mul_left _ h2
    rw [Nat.mul_add, Nat.mul_one] at h3
    rw [Nat.mul_comm (B ^ r.length) B]
    omega
theorem num_append (B : Nat) : ∀ (a b : List Nat), num B (a ++ b) = num B a + B ^ a.length * num B b
  | [], b => by simp [num]
  | x :: r, b => by
    simp only [num, List.cons_append, num_append B r b, List.length_cons, Nat.pow_succ, Nat.mul_add]
    rw [← Nat.mul_assoc, Nat.mul_comm B (B ^ r.length)]
    omega
theorem num_take {B : Nat} {l : List Nat} {j x : Nat} (h : l[j]? = some x) : num B (l.take (j + 1)) = num B (l.take j) + x * B ^ j := by
  have hj : j < l.length := (List.getElem?_eq_some_iff.1 h).1
  rw [List.take_add_one, h, num_append]
  simp [num, Nat.min_eq_left (Nat.le_of_lt hj), Nat.mul_comm]
theorem num_get {B : Nat} (hB : 0 < B) : ∀ {l : List Nat} {i x : Nat}, (∀ x ∈ l, x < B) → l[i]? = some x → num B l / B ^ i % B = x
  | [], i, x, _, h => by simp at h
  | y :: r, 0, x, hl, h => by
    simp at h; subst h
    have := hl y (by simp)
    simp only [num, Nat.pow_zero, Nat.div_one, Nat.add_mul_mod_self_left]
    exact Nat.mod_eq_of_lt this
  | y :: r, i + 1, x, hl, h => by
    have := hl y (by simp)
    simp only [num, Nat.pow_succ, Nat.mul_comm (B ^ i) B]
    rw [← Nat.div_div_eq_div_mul, Nat.add_mul_div_left _ _ hB, Nat.div_eq_of_lt this, Nat.zero_add]
    exact num_get hB (fun z hz => hl z (by simp [hz])) (by simpa using h)
theorem dig_num {B : Nat} (hB : 0 < B) {l : List Nat} (h : ∀ x ∈ l, x < B) : dig B l.length (num B l) = l := by
  symm
  exact dig_ext rfl fun i hi => by rw [num_get hB h (List.getElem?_eq_getElem hi)]; exact List.getElem?_eq_getElem hi
theorem dig_succ (B n v : Nat) : dig B (n + 1) v = v % B :: dig B n (v / B) := by
  simp only [dig, List.range_succ_eq_map, List.map_cons, List.map_map, Nat.pow_zero, Nat.div_one]
  congr 1
  apply List.map_congr_left
  intro i _
  simp only [Function.comp, Nat.succ_eq_add_one, Nat.pow_succ, Nat.div_div_eq_div_mul, Nat.mul_comm (B ^ i) B]
theorem num_dig {B : Nat} (hB : 0 < B) : ∀ (n v : Nat), num B (dig B n v) = v % B ^ n
  | 0, v => by simp [dig, num, Nat.mod_one]
  | n + 1, v => by
    rw [dig_succ, num, num_dig hB n, Nat.pow_succ, Nat.mul_comm (B ^ n) B, Nat.mod_mul]
theorem num_set {B : Nat} : ∀ {l : List Nat} {i x : Nat} (y : Nat), l[i]? = some x → num B (l.set i y) + x * B ^ i = num B l + y * B ^ i
  | [], i, x, y, h => by simp at h
  | z :: r, 0, x, y, h => by
    simp at h; subst h
    simp only [List.set_cons_zero, num, Nat.pow_zero]
    omega
  | z :: r, i + 1, x, y, h => by
    have := num_set (B := B) (l := r) (i := i) y (by simpa using h)
    simp only [List.set_cons_succ, num, Nat.pow_succ]
    have e : B * (num B (r.set i y) + x * B ^ i) = B * (num B r + y * B ^ i) := by rw [this]
    rw [Nat.mul_add, Nat.mul_add] at e
    rw [show x * (B ^ i * B) = B * (x * B ^ i) by simp only [Nat.mul_assoc, Nat.mul_left_comm, Nat.mul_comm], show y * (B ^ i * B) = B * (y * B ^ i) by simp only [Nat.mul_assoc, Nat.mul_left_comm, Nat.mul_comm]]
    omega
theorem set_lt {B : Nat} {l : List Nat} {i y : Nat} (h : ∀ x ∈ l, x < B) (hy : y < B) : ∀ x ∈ l.set i y, x < B := by
  intro x hx
  rcases List.mem_or_eq_of_mem_set hx with h1 | h1
  · exact h x h1
  · rw [h1]; exact hy
end Go.Ev
set_option linter.unusedSimpArgs false
set_option linter.unusedVariables false
namespace Go.Ev.Ytaceeoghjgggjaa
open Go Go.Ev
attribute [local congr] bind_congr1
set_option maxRecDepth 100000
structure MulInv (n m i k A a : Nat) (os out : List Nat) (c : Nat) : Prop where
  len : out.length = n + m
  lt : ∀ x ∈ out, x < 4294967296
  clt : c < 4294967296
  eq : num 4294967296 out + c * 4294967296 ^ (i + k) = A + a * 4294967296 ^ i * num 4294967296 (os.take k)
  top : ∀ j, i + m ≤ j → j < n + m → out[j]? = some 0
theorem MulInv.step {n m i k A a b y c : Nat} {os out : List Nat} (h : MulInv n m i k A a os out c) (ha : a < 4294967296) (hb : os[k]? = some b) (hb' : b < 4294967296) (hy : out[i + k]? = some y) (hk : k < m) :
    MulInv n m i (k + 1) A a os (out.set (i + k) ((c + (y + a * b)) % 4294967296)) ((c + (y + a * b)) / 4294967296) := by
  have hy' : y < 4294967296 := h.lt y (List.mem_of_getElem? hy)
  have hc := h.clt
  refine ⟨by rw [List.length_set]; exact h.len, set_lt h.lt (Nat.mod_lt _ (by decide)), ?_, ?_, ?_⟩
  · have : a * b ≤ 4294967295 * 4294967295 := Nat.mul_le_mul (by omega) (by omega)
    rw [Nat.div_lt_iff_lt_mul (by decide)]
    show _ < 4294967296 * 4294967296
    omega
  · have h1 := num_set (B := 4294967296) ((c + (y + a * b)) % 4294967296) hy
    have h2 := h.eq
    rw [num_take hb]
    have h3 := Nat.div_add_mod (c + (y + a * b)) 4294967296
    generalize (c + (y + a * b)) / 4294967296 = q at *
    generalize (c + (y + a * b)) % 4294967296 = r at *
    have e1 : a * 4294967296 ^ i * (num 4294967296 (os.take k) + b * 4294967296 ^ k) = a * 4294967296 ^ i * num 4294967296 (os.take k) + a * b * 4294967296 ^ (i + k) := by
      rw [Nat.mul_add, Nat.pow_add]; congr 1; simp only [Nat.mul_assoc, Nat.mul_left_comm, Nat.mul_comm]
    have e2 : q * 4294967296 ^ (i + (k + 1)) = 4294967296 * q * 4294967296 ^ (i + k) := by
      rw [← Nat.add_assoc, Nat.pow_succ]; simp only [Nat.mul_assoc, Nat.mul_left_comm, Nat.mul_comm]
    rw [e1, e2]
    have e3 : (4294967296 * q + r) * 4294967296 ^ (i + k) = (c + (y + a * b)) * 4294967296 ^ (i + k) := by rw [h3]
    rw [Nat.add_mul, Nat.add_mul, Nat.add_mul] at e3
    omega
  · intro j h1 h2
    rw [List.getElem?_set_ne (by omega)]
    exact h.top j h1 h2
structure TimesInv (n m i : Nat) (ws os out : List Nat) : Prop where
  len : out.length = n + m
  lt : ∀ x ∈ out, x < 4294967296
  eq : num 4294967296 out = num 4294967296 (ws.take i) * num 4294967296 os
  top : ∀ j, i + m ≤ j → j < n + m → out[j]? = some 0
end Go.Ev.Ytaceeoghjgggjaa
set_option linter.unusedSimpArgs false
set_option linter.unusedVariables false
namespace Go.Ev.Ytaceeoghjgggjaa
open Go Go.Ev
attribute [local congr] bind_congr1
set_option maxRecDepth 100000
structure PlusInv (n i A : Nat) (os out : List Nat) (c : Nat) : Prop where
  len : out.length = n + 1
  lt : ∀ x ∈ out, x < 4294967296
  cle : c ≤ 1
  eq : num 4294967296 out + c * 4294967296 ^ i = A + num 4294967296 (os.take i)
theorem num_take_getD {B : Nat} (l : List Nat) (i : Nat) : num B (l.take (i + 1)) = num B (l.take i) + l.getD i 0 * B ^ i := by
  cases h : l[i]? with
  | some x => rw [num_take h, List.getD_eq_getElem?_getD, h]; rfl
  | none =>
    have := List.getElem?_eq_none_iff.1 h
    rw [List.getD_eq_getElem?_getD, h, List.take_of_length_le this, List.take_of_length_le (by omega)]
    simp
theorem PlusInv.step {n i A c y : Nat} {os out : List Nat} (h : PlusInv n i A os out c) (hos : ∀ x ∈ os, x < 4294967296) (hy : out[i]? = some y) : PlusInv n (i + 1) A os (out.set i (addS y (os.getD i 0) c)) (addC y (os.getD i 0) c) := by
  have hy' : y < 4294967296 := h.lt y (List.mem_of_getElem? hy)
  have hc := h.cle
  have hx : os.getD i 0 < 4294967296 := by
    rw [List.getD_eq_getElem?_getD]
    cases hh : os[i]? with
    | some x => exact hos x (List.mem_of_getElem? hh)
    | none => decide
  refine ⟨by rw [List.length_set]; exact h.len, set_lt h.lt (Nat.mod_lt _ (by decide)), ?_, ?_⟩
  · unfold addC; omega
  · have h1 := num_set (B := 4294967296) (addS y (os.getD i 0) c) hy
    have h2 := h.eq
    rw [num_take_getD]
    have h3 : 4294967296 * addC y (os.getD i 0) c + addS y (os.getD i 0) c = y + os.getD i 0 + c := Nat.div_add_mod _ _
    generalize addC y (os.getD i 0) c = q at *
    generalize addS y (os.getD i 0) c = r at *
    have e2 : q * 4294967296 ^ (i + 1) = 4294967296 * q * 4294967296 ^ i := by
      rw [Nat.pow_succ]; simp only [Nat.mul_assoc, Nat.mul_left_comm, Nat.mul_comm]
    have e3 : (4294967296 * q + r) * 4294967296 ^ i = (y + os.getD i 0 + c) * 4294967296 ^ i := by rw [h3]
    rw [Nat.add_mul, Nat.add_mul, Nat.add_mul] at e3
    rw [e2]
    omega
end Go.Ev.Ytaceeoghjgggjaa
set_option linter.unusedSimpArgs false
set_option linter.unusedVariables false
namespace Go.Ev.Ytaceeoghjgggjaa
open Go Go.Ev
attribute [local congr] bind_congr1
set_option maxRecDepth 100000
def ell : Nat := 7237005577332262213973186563042994240857116359379907606001950938285454250989
theorem ell_num : num 4294967296 orderW = ell := by decide
theorem order_lt : ∀ x ∈ orderW, x < 4294967296 := by decide
structure ShInv (k c0 : Nat) (r0 r : List Nat) (c : Nat) : Prop where
  len : r.length = 8
  lt : ∀ x ∈ r, x < 4294967296
  cle : c ≤ 1
  eq : num 4294967296 r + c * 4294967296 ^ k = num 4294967296 r0 + num 4294967296 (r0.take k) + c0
  rest : ∀ j, k ≤ j → r[j]? = r0[j]?
theorem ShInv.step {k c0 c x : Nat} {r0 r : List Nat} (h : ShInv k c0 r0 r c) (hx : r[k]? = some x) : ShInv (k + 1) c0 r0 (r.set k ((2 * x + c) % 4294967296)) (x / 2147483648) := by
  have hx' : x < 4294967296 := h.lt x (List.mem_of_getElem? hx)
  have hc := h.cle
  refine ⟨by rw [List.length_set]; exact h.len, set_lt h.lt (Nat.mod_lt _ (by decide)), by omega, ?_, ?_⟩
  · have h1 := num_set (B := 4294967296) ((2 * x + c) % 4294967296) hx
    have h2 := h.eq
    rw [num_take (by rw [← h.rest k (Nat.le_refl _)]; exact hx)]
    have h3 : 4294967296 * (x / 2147483648) + (2 * x + c) % 4294967296 = 2 * x + c := by omega
    generalize (2 * x + c) % 4294967296 = y at *
    generalize x / 2147483648 = q at *
    have e2 : q * 4294967296 ^ (k + 1) = 4294967296 * q * 4294967296 ^ k := by
      rw [Nat.pow_succ]; simp only [Nat.mul_assoc, Nat.mul_left_comm, Nat.mul_comm]
    have e3 : (4294967296 * q + y) * 4294967296 ^ k = (2 * x + c) * 4294967296 ^ k := by rw [h3]
    rw [Nat.add_mul, Nat.add_mul, Nat.mul_assoc 2] at e3
    rw [e2]
    omega
  · intro j hj
    rw [List.getElem?_set_ne (by omega)]
    exact h.rest j (by omega)
structure SbInv (k : Nat) (r nx : List Nat) (b : Nat) : Prop where
  len : nx.length = 8
  lt : ∀ x ∈ nx, x < 4294967296
  ble : b ≤ 1
  eq : num 4294967296 (r.take k) + b * 4294967296 ^ k = num 4294967296 (orderW.take k) + num 4294967296 (nx.take k)
theorem take_set_self {l : List Nat} {k y : Nat} : (l.set k y).take k = l.take k := by
  apply List.ext_getElem?
  intro i
  rw [List.getElem?_take, List.getElem?_take]
  by_cases h : i < k
  · rw [if_pos h, if_pos h, List.getElem?_set_ne (by omega)]
  · rw [if_neg h, if_neg h]
theorem SbInv.step {k b x l : Nat} {r nx : List Nat} (h : SbInv k r nx b) (hr : ∀ x ∈ r, x < 4294967296) (hk : k < 8) (hx : r[k]? = some x) (hl : orderW[k]? = some l) : SbInv (k + 1) r (nx.set k (subD x l b)) (subB x l b) := by
  have hx' : x < 4294967296 := hr x (List.mem_of_getElem? hx)
  have hl' : l < 4294967296 := order_lt l (List.mem_of_getElem? hl)
  have hb := h.ble
  have hd : subD x l b < 4294967296 ∧ x + 4294967296 * subB x l b = l + b + subD x l b ∧ subB x l b ≤ 1 := by
    unfold subD subB; split <;> omega
  refine ⟨by rw [List.length_set]; exact h.len, set_lt h.lt hd.1, hd.2.2, ?_⟩
  have h2 := h.eq
  have hy : (nx.set k (subD x l b))[k]? = some (subD x l b) := List.getElem?_set_self (by rw [h.len]; exact hk)
  rw [num_take hx, num_take hl, num_take hy, take_set_self]
  have h3 := hd.2.1
  generalize subD x l b = d at *
  generalize subB x l b = q at *
  have e2 : q * 4294967296 ^ (k + 1) = 4294967296 * q * 4294967296 ^ k := by
    rw [Nat.pow_succ]; simp only [Nat.mul_assoc, Nat.mul_left_comm, Nat.mul_comm]
  have e3 : (x + 4294967296 * q) * 4294967296 ^ k = (l + b + d) * 4294967296 ^ k := by rw [h3]
  rw [Nat.add_mul, Nat.add_mul, Nat.add_mul] at e3
  rw [e2]
  omega
end Go.Ev.Ytaceeoghjgggjaa
set_option linter.unusedSimpArgs false
set_option linter.unusedVariables false
namespace Go.Ev.Ytaceeoghjgggjaa
open Go Go.Ev
attribute [local congr] bind_congr1
set_option maxRecDepth 100000
structure RInv (V : Nat) (r nx : List Nat) : Prop where
  len : r.length = 8
  lt : ∀ x ∈ r, x < 4294967296
  len2 : nx.length = 8
  lt2 : ∀ x ∈ nx, x < 4294967296
  eq : num 4294967296 r = V % ell
theorem ell_pow : 2 * ell + 1 < 4294967296 ^ 8 := by decide
theorem ell_pos : 0 < ell := by decide
theorem RInv.step {V c c' b : Nat} {r nx r' nx' : List Nat} (h : RInv V r nx) (hc : c ≤ 1) (h1 : ShInv 8 c r r' c') (h2 : SbInv 8 r' nx' b) : (b = 0 → RInv (2 * V + c) nx' r') ∧ (b ≠ 0 → RInv (2 * V + c) r' nx') := by
  have e1 := h1.eq
  have e2 := h2.eq
  have l1 := h.len
  have l2 := h1.len
  have l3 := h2.len
  rw [List.take_of_length_le (by omega)] at e1
  rw [List.take_of_length_le (by omega), List.take_of_length_le (show orderW.length ≤ 8 from Nat.le_refl _), List.take_of_length_le (by omega), ell_num] at e2
  have b1 := num_lt h1.lt
  have b2 := num_lt h2.lt
  rw [l2] at b1
  rw [l3] at b2
  have hp := ell_pow
  have hr : num 4294967296 r < ell := by rw [h.eq]; exact Nat.mod_lt _ ell_pos
  have hV : (2 * V + c) % ell = (2 * num 4294967296 r + c) % ell := by
    rw [h.eq, Nat.add_mod, Nat.mul_mod, Nat.add_mod (2 * (V % ell)), Nat.mul_mod 2 (V % ell), Nat.mod_mod]
  have hle := h1.cle
  have hbe := h2.ble
  generalize 4294967296 ^ 8 = W at *
  have hc0 : c' = 0 := by
    rcases Nat.lt_or_ge 0 c' with hh | hh
    · have : c' = 1 := by omega
      subst this
      omega
    · omega
  subst hc0
  generalize num 4294967296 r = x at *
  generalize hyy : num 4294967296 r' = y at *
  generalize hz : num 4294967296 nx' = z at *
  have hy : y = 2 * x + c := by omega
  subst hy
  refine ⟨fun h0 => ⟨l3, h2.lt, l2, h1.lt, ?_⟩, fun h0 => ⟨l2, h1.lt, l3, h2.lt, ?_⟩⟩
  · subst h0
    rw [hV, show 2 * x + c = z + ell by omega, Nat.add_mod_right, Nat.mod_eq_of_lt (by omega)]
    exact hz
  · have : b = 1 := by omega
    subst this
    have hlt : 2 * x + c < ell := by omega
    rw [hV, Nat.mod_eq_of_lt hlt]
    exact hyy
end Go.Ev.Ytaceeoghjgggjaa
set_option linter.unusedSimpArgs false
set_option linter.unusedVariables false
namespace Go.Ev.Ytaceeoghjgggjaa
open Go Go.Ev
attribute [local congr] bind_congr1
set_option maxRecDepth 100000
def k1 (n : Nat) : List Nat := n :: List.replicate 31 0
end Go.Ev.Ytaceeoghjgggjaa
set_option linter.unusedSimpArgs false
set_option linter.unusedVariables false
namespace Go.Ev.Ytaceeoghjgggjaa
open Go Go.Ev
attribute [local congr] bind_congr1
set_option maxRecDepth 100000
theorem rf_bool (b : Bool) : rf (.bool b) = true := rfl
theorem v0 (p q : List Value) : liveAt [⟨p, true, true, true, 1⟩, ⟨q, true, true, true, 1⟩] 0 = some ⟨p, true, true, true, 1⟩ := rfl
theorem v1 (p q : List Value) : liveAt [⟨p, true, true, true, 1⟩, ⟨q, true, true, true, 1⟩] 1 = some ⟨q, true, true, true, 1⟩ := rfl
end Go.Ev.Ytaceeoghjgggjaa
namespace Go.Ev.Ytaceeoghjgggjaa
open Go Go.Ev
attribute [local congr] bind_congr1
set_option maxRecDepth 100000
structure LessInv (k : Nat) (ws os : List Nat) (b : Nat) : Prop where
  ble : b ≤ 1
  eq : ∃ z, z < 4294967296 ^ k ∧ num 4294967296 (ws.take k) + b * 4294967296 ^ k = num 4294967296 (os.take k) + z
theorem LessInv.step {k b x y : Nat} {ws os : List Nat} (h : LessInv k ws os b) (hx : ws[k]? = some x) (hy : os[k]? = some y) (hx' : x < 4294967296) (hy' : y < 4294967296) : LessInv (k + 1) ws os (subB x y b) := by
  have hb := h.ble
  have hd : subD x y b < 4294967296 ∧ x + 4294967296 * subB x y b = y + b + subD x y b ∧ subB x y b ≤ 1 := by
    unfold subD subB; split <;> omega
  refine ⟨hd.2.2, ?_⟩
  obtain ⟨z, hz, h2⟩ := h.eq
  rw [num_take hx, num_take hy]
  have h3 := hd.2.1
  have h4 := hd.1
  generalize subD x y b = d at *
  generalize subB x y b = q at *
  refine ⟨z + d * 4294967296 ^ k, ?_, ?_⟩
  · have : (d + 1) * 4294967296 ^ k ≤ 4294967296 * 4294967296 ^ k := Nat.mul_le_mul_right _ h4
    rw [Nat.add_mul, Nat.one_mul] at this
    rw [Nat.pow_succ, Nat.mul_comm (4294967296 ^ k)]
    omega
  · have e2 : q * 4294967296 ^ (k + 1) = 4294967296 * q * 4294967296 ^ k := by
      rw [Nat.pow_succ]; simp only [Nat.mul_assoc, Nat.mul_left_comm, Nat.mul_comm]
    have e3 : (x + 4294967296 * q) * 4294967296 ^ k = (y + b + d) * 4294967296 ^ k := by rw [h3]
    rw [Nat.add_mul, Nat.add_mul, Nat.add_mul] at e3
    rw [e2]
    omega
end Go.Ev.Ytaceeoghjgggjaa
set_option linter.unusedSimpArgs false
set_option linter.unusedVariables false
namespace Go.Ev
def ns (k : IntKind) (l : List Nat) : List Value := l.map fun n => .int k (n : Nat)
theorem ns_len (k : IntKind) (l : List Nat) : (ns k l).length = l.length := by simp [ns]
theorem ns_set (k : IntKind) (l : List Nat) (i n : Nat) : (ns k l).set i (.int k (n : Nat)) = ns k (l.set i n) := by simp [ns, List.map_set]
theorem ns_get {k : IntKind} {l : List Nat} {i x : Nat} (h : l[i]? = some x) : (ns k l)[i]? = some (.int k (x : Nat)) := by simp [ns, h]
theorem ns_append (k : IntKind) (a b : List Nat) : ns k (a ++ b) = ns k a ++ ns k b := by simp [ns]
theorem liveAt_lt {H : List Ob} {id : Nat} {o : Ob} (h : liveAt H id = some o) : id < H.length := by
  simp only [liveAt, Option.bind_eq_some_iff] at h
  obtain ⟨o', h1, _⟩ := h
  exact (List.getElem?_eq_some_iff.1 h1).1
theorem liveAt_congr {H H' : List Ob} {id : Nat} (h : H'[id]? = H[id]?) : liveAt H' id = liveAt H id := by simp only [liveAt, h]
inductive Sl (k : IntKind) (H : List Ob) : Value → List Nat → Prop
  | nil : Sl k H (.slice none 0 0) []
  | mk {id off c : Nat} {o : Ob} {l : List Nat} : liveAt H id = some o → off + l.length ≤ o.cells.length → (∀ (i x : Nat), l[i]? = some x → o.cells[off + i]? = some (.int k (x : Nat))) → Sl k H (.slice (some ⟨id, off, none⟩) l.length c) l
theorem Sl.congr {k : IntKind} {H H' : List Ob} {v : Value} {l : List Nat} (h : Sl k H v l) (hH : ∀ id, id < H.length → H'[id]? = H[id]?) : Sl k H' v l := by
  cases h with
  | nil => exact .nil
  | mk h1 h2 h3 => exact .mk (by rw [liveAt_congr (hH _ (liveAt_lt h1))]; exact h1) h2 h3
theorem Sl.lenV {k : IntKind} {H : List Ob} {v : Value} {l : List Nat} (h : Sl k H v l) : lenV v = some l.length := by
  cases h <;> rfl
theorem Sl.elems {k : IntKind} {H : List Ob} {v : Value} {l : List Nat} (h : Sl k H v l) : elemsOf H 1 l.length v = some (ns k l) := by
  cases h with
  | nil => rfl
  | mk h1 h2 h3 =>
    simp only [elemsOf, h1, Option.bind_some, Option.isNone_none, Nat.mul_one, h2, and_self, if_true, Option.some.injEq]
    apply List.ext_getElem?
    intro i
    rw [List.getElem?_take]
    by_cases hi : i < l.length
    · rw [if_pos hi, List.getElem?_drop, h3 i _ (List.getElem?_eq_getElem hi), ns_get (List.getElem?_eq_getElem hi)]
    · rw [if_neg hi, List.getElem?_eq_none (by rw [ns_len]; omega)]
inductive Grown (k : IntKind) (B : Nat) (H : List Ob) : Value → List Nat → Prop
  | nil : Grown k B H (.slice none 0 0) []
  | own {id : Nat} {bs : List Nat} : B ≤ id → 0 < bs.length → H[id]? = some (Ob.grown 1 (ns k bs)) → Grown k B H (.slice (some ⟨id, 0, none⟩) bs.length bs.length) bs
  | new {id : Nat} {bs : List Nat} : B ≤ id → 0 < bs.length → H[id]? = some (Ob.fresh (ns k bs)) → Grown k B H (.slice (some ⟨id, 0, none⟩) bs.length bs.length) bs
theorem Grown.sl {k : IntKind} {B : Nat} {H : List Ob} {v : Value} {l : List Nat} (h : Grown k B H v l) : Sl k H v l := by
  cases h with
  | nil => exact .nil
  | own h1 h2 h3 => exact .mk (liveAt_some h3 rfl) (by simp [Ob.grown, ns_len]) (fun i x hx => by rw [Nat.zero_add]; exact ns_get hx)
  | new h1 h2 h3 => exact .mk (liveAt_some h3 rfl) (by simp [Ob.fresh, ns_len]) (fun i x hx => by rw [Nat.zero_add]; exact ns_get hx)
theorem Grown.append {k : IntKind} {B bytes : Nat} {H : List Ob} {s x : Value} {bs new : List Nat} (h : Grown k B H s bs) (hB : B ≤ H.length) (hl : Go.Ev.lenV x = some new.length) (he : elemsOf H 1 new.length x = some (ns k new)) (hb : (bs.length + new.length) * bytes ≤ 2 ^ 47) (hb0 : 0 < bytes) :
    ∃ s' H' M, appendV 1 bytes H s x = some (s', H', none, M) ∧ Grown k B H' s' (bs ++ new) ∧ (∀ i ∈ M, B ≤ i) ∧ H.length ≤ H'.length ∧ ∀ i, i < B → H'[i]? = H[i]? := by
  rcases Nat.eq_zero_or_pos new.length with hn | hn
  · have : new = [] := List.eq_nil_of_length_eq_zero hn
    subst this
    rw [List.append_nil]
    refine ⟨s, H, [], ?_, h, by simp, Nat.le_refl _, fun _ _ => rfl⟩
    rw [List.length_nil] at hl he
    cases h <;> simp only [appendV, hl, he, Option.bind_some, if_true]
  · cases h with
    | nil =>
      refine ⟨.slice (some ⟨H.length, 0, none⟩) new.length new.length, H ++ [Ob.grown 1 (ns k new)], [], ?_, ?_, by simp, by simp, ?_⟩
      · have h1 : ¬ new.length = 0 := by omega
        have h2 : (0 + new.length) * bytes ≤ 2 ^ 47 ∧ 0 < bytes ∧ 0 < 1 := ⟨by simpa using hb, hb0, by decide⟩
        simp only [appendV, hl, he, Option.bind_some, if_neg h1, h2, and_self, not_true_eq_false, if_false, if_true]
      · rw [List.nil_append]
        exact .own hB hn (by simp)
      · intro i hi
        rw [List.getElem?_append_left (by omega)]
    | @own id0 _ h1 h2 h3 =>
      refine ⟨.slice (some ⟨H.length, 0, none⟩) (bs.length + new.length) (bs.length + new.length), (H.set id0 Ob.dead) ++ [Ob.grown 1 (ns k (bs ++ new))], [id0], ?_, ?_, by simpa using h1, by simp, ?_⟩
      · have h4 : liveAt H id0 = some (Ob.grown 1 (ns k bs)) := liveAt_some h3 rfl
        have h5 : ¬ new.length = 0 := by omega
        have h6 : (bs.length + new.length) * bytes ≤ 2 ^ 47 ∧ 0 < bytes ∧ 0 < 1 := ⟨hb, hb0, by decide⟩
        have h7 : ¬ (bs.length + new.length ≤ bs.length) := by omega
        have h8 : elemsOf H 1 bs.length (.slice (some ⟨id0, 0, none⟩) bs.length bs.length) = some (ns k bs) := (Grown.own h1 h2 h3).sl.elems
        simp only [appendV, hl, he, Option.bind_some, if_neg h5, h6, and_self, not_true_eq_false, if_false, if_true, h4, h8]
        simp only [Ob.grown, not_true_eq_false, if_false, if_neg h7, Bool.false_eq_true, Nat.le_refl, if_true, ← ns_append]
      · have := Grown.own (k := k) (B := B) (H := (H.set id0 Ob.dead) ++ [Ob.grown 1 (ns k (bs ++ new))]) (id := H.length) (bs := bs ++ new) hB (by simp; omega) (by simp)
        rwa [List.length_append] at this
      · intro i hi
        rw [List.getElem?_append_left (by simp; have := (List.getElem?_eq_some_iff.1 h3).1; omega), List.getElem?_set_ne (by omega)]
    | @new id0 _ h1 h2 h3 =>
      refine ⟨.slice (some ⟨H.length, 0, none⟩) (bs.length + new.length) (bs.length + new.length), H ++ [Ob.grown 1 (ns k (bs ++ new))], [], ?_, ?_, by simp, by simp, ?_⟩
      · have h4 : liveAt H id0 = some (Ob.fresh (ns k bs)) := liveAt_some h3 rfl
        have h5 : ¬ new.length = 0 := by omega
        have h6 : (bs.length + new.length) * bytes ≤ 2 ^ 47 ∧ 0 < bytes ∧ 0 < 1 := ⟨hb, hb0, by decide⟩
        have h7 : ¬ (bs.length + new.length ≤ bs.length) := by omega
        have h8 : elemsOf H 1 bs.length (.slice (some ⟨id0, 0, none⟩) bs.length bs.length) = some (ns k bs) := (Grown.new h1 h2 h3).sl.elems
        simp only [appendV, hl, he, Option.bind_some, if_neg h5, h6, and_self, not_true_eq_false, if_false, if_true, h4, h8]
        simp only [Ob.fresh, not_true_eq_false, if_false, if_neg h7, Bool.false_eq_true, Nat.le_refl, if_true, ← ns_append]
      · have := Grown.own (k := k) (B := B) (H := H ++ [Ob.grown 1 (ns k (bs ++ new))]) (id := H.length) (bs := bs ++ new) hB (by simp; omega) (by simp)
        rwa [List.length_append] at this
      · intro i hi
        rw [List.getElem?_append_left (by omega)]
end Go.Ev

/-
  The operations that make, read and write memory.
-/
import Derived.Test.YtaceeoghjgggjaaEvEq
set_option linter.unusedSimpArgs false
set_option linter.unusedVariables false
namespace Go.Ev
open Go.RowKit

theorem okVar_one {ρ : Pl} {v v' : Value} (h : VRel ρ v v') (hk : okVar v = true) : ∀ x ∈ v.cells.toList, oneCellB x = true := by
  refine h.cells_one ?_
  cases v <;> first | exact .inl rfl | exact .inr ⟨_, rfl⟩ | (simp [okVar] at hk)

theorem splice_eq {cs v : List Value} {off : Nat} (h : off + v.length ≤ cs.length) : splice cs off v = cs.take off ++ (v ++ cs.drop (off + v.length)) := by
  unfold splice
  split
  · rename_i x
    have h' : off < cs.length := by simp at h; omega
    rw [List.set_eq_take_append_cons_drop, if_pos h']
    simp
  · rfl

theorem splice_len {cs v : List Value} {off : Nat} (h : off + v.length ≤ cs.length) : (splice cs off v).length = cs.length := by
  rw [splice_eq h]; simp; omega

theorem LRel.splice {ρ : Pl} {cs cs' v v' : List Value} {off : Nat} (h : LRel ρ cs cs') (hv : LRel ρ v v') : LRel ρ (splice cs off v) (splice cs' off v') := by
  unfold Ev.splice
  cases hv with
  | nil => exact (h.take _).append (LRel.nil.append (h.drop _))
  | cons a b =>
    cases b with
    | nil => exact h.set _ a
    | cons c d =>
      have e := d.length
      simp only [List.length_cons]
      rw [e]
      exact (h.take _).append ((LRel.cons a (.cons c d)).append (h.drop _))

theorem splice_one {cs v : List Value} {off : Nat} (h : ∀ x ∈ cs, oneCellB x = true) (hv : ∀ x ∈ v, oneCellB x = true) : ∀ x ∈ splice cs off v, oneCellB x = true := by
  intro x hx
  unfold splice at hx
  split at hx
  · rcases List.mem_or_eq_of_mem_set hx with h1 | h1
    · exact h x h1
    · subst h1; exact hv x (by simp)
  · simp only [List.mem_append] at hx
    rcases hx with h1 | h1 | h1
    · exact h x (List.mem_of_mem_take h1)
    · exact hv x h1
    · exact h x (List.mem_of_mem_drop h1)

theorem fold_set (off : Nat) : ∀ (v : List Value) (j : Nat) (cs : Array Value), off + j + v.length ≤ cs.size →
    ((v.zipIdx j).foldl (fun cs (x : Value × Nat) => cs.setIfInBounds (off + x.2) x.1) cs).toList = cs.toList.take (off + j) ++ (v ++ cs.toList.drop (off + j + v.length))
  | [], j, cs, _ => by simp
  | x :: v, j, cs, h => by
    simp only [List.length_cons] at h
    simp only [List.zipIdx_cons, List.foldl_cons]
    rw [fold_set off v (j + 1) _ (by simp; omega)]
    have := set_splice x v cs.toList (off + j) (by simp; omega)
    simpa [Nat.add_assoc] using this

inductive PartsRel (ρ : Pl) (place : Nat → Option (Nat × Nat)) : List (Nat × Nat × Value) → List (Nat × Value) → Prop
  | nil : PartsRel ρ place [] []
  | cons {off n i : Nat} {v v' : Value} {l : List (Nat × Nat × Value)} {l' : List (Nat × Value)} : place i = some (off, n) → VRel ρ v v' → PartsRel ρ place l l' → PartsRel ρ place ((off, n, v) :: l) ((i, v') :: l')

theorem fill_ok {ρ : Pl} {place : Nat → Option (Nat × Nat)} {l : List (Nat × Nat × Value)} {l' : List (Nat × Value)} (hp : PartsRel ρ place l l') : ∀ {cs : List Value} {cs' : Array Value} {r : List Value}, LRel ρ cs cs'.toList → (∀ x ∈ cs, oneCellB x = true) →
    fillL cs l = some r → ∃ r', Instr.fill place cs' l' = some r' ∧ LRel ρ r r'.toList ∧ r.length = cs.length ∧ ∀ x ∈ r, oneCellB x = true := by
  induction hp with
  | nil => intro cs cs' r h h1 hf; simp [fillL] at hf; subst hf; exact ⟨cs', rfl, h, rfl, h1⟩
  | cons hpl hv hrest ih =>
    rename_i off n i v v' l l'
    intro cs cs' r h h1 hf
    simp only [fillL] at hf
    split at hf
    · rename_i hc
      obtain ⟨hn, hle, hk⟩ := hc
      have hcl := hv.cells
      have hn' : v'.cells.size = n := by rw [← hn]; have := hcl.length; simpa using this.symm
      have hle' : off + v'.cells.toList.length ≤ cs'.toList.length := by
        rw [← h.length]; simp only [Array.length_toList]; rw [hn']; exact hle
      have hfold : (v'.cells.zipIdx.foldl (fun cs (c, j) => cs.setIfInBounds (off + j) c) cs').toList = splice cs'.toList off v'.cells.toList := by
        rw [splice_eq hle']
        have := fold_set off v'.cells.toList 0 cs' (by simpa using hle')
        simp only [Nat.add_zero] at this
        rw [← this]
        congr 1
        rw [← Array.foldl_toList]
        congr 1
        simp
      have hsp := LRel.splice (off := off) h hcl
      obtain ⟨r', e1, e2, e3, e4⟩ := ih (cs' := v'.cells.zipIdx.foldl (fun cs (c, j) => cs.setIfInBounds (off + j) c) cs') (by rw [hfold]; exact hsp) (splice_one h1 (okVar_one hv hk)) hf
      refine ⟨r', ?_, e2, ?_, e4⟩
      · simp only [Instr.fill, hpl]
        rw [if_neg]
        · exact e1
        · simp only [Bool.or_eq_true, decide_eq_true_eq, not_or, bne_iff_ne, ne_eq]
          have : cs'.toList.length = cs'.size := by simp
          simp only [Array.length_toList] at hle'
          omega
      · rw [e3, splice_len]
        simpa [hn] using hle
    · cases hf

theorem parts_rel {ρ : Pl} {e : Env} {a : Act} {place : Nat → Option (Nat × Nat)} : ∀ {ps : List (Nat × Operand)} {cps : List (Nat × Nat × Operand)} {vs : List (Nat × Nat × Value)}, OpRel ρ e a (ps.map (·.2)) → compParts place ps = some cps → opdParts e cps = some vs →
    PartsRel ρ place vs (ps.map fun p => (p.1, a.eval p.2))
  | [], cps, vs, _, hc, hv => by simp [compParts] at hc; subst hc; simp [opdParts] at hv; subst hv; exact .nil
  | (i, x) :: ps, cps, vs, hx, hc, hv => by
    simp only [compParts, Option.bind_eq_some_iff, Option.map_eq_some_iff] at hc
    obtain ⟨⟨off, n⟩, hpl, l, hl, rfl⟩ := hc
    simp only [opdParts, Option.bind_eq_some_iff, Option.some.injEq] at hv
    obtain ⟨v, hv1, vs', hv2, rfl⟩ := hv
    exact .cons hpl (hx.head hv1) (parts_rel hx.tail hl hv2)

section
variable {P : Program} {o : Oper} {e : Env} {H H' : List Ob} {v : Value} {t : Option (List Nat)} {M : List Nat}

theorem ok_build {ty : TypeId} {ps : Array (Nat × Operand)} {zero : List Value} {cps : List (Nat × Nat × Operand)} {place : Nat → Option (Nat × Nat)} (hz : zeroT P ty = some zero)
    (hpl : (∃ fs : Array Field, P.underlying ty = some (.struct fs) ∧ place = fun (i : Nat) => (fs[i]?).bind fun f => (sizeT P f.type).map fun n => (f.offset, n)) ∨ (∃ n el s, P.underlying ty = some (.array n el) ∧ sizeT P el = some s ∧ place = fun (i : Nat) => some (i * s, s)))
    (hall : ∀ fs : Array Field, P.underlying ty = some (.struct fs) → ∀ f ∈ fs.toList, (sizeT P f.type).isSome = true) (hc : compParts place ps.toList = some cps) (ho : o.op = .build ty ps)
    (hr : simpleOp H e (.build zero cps) = some (v, H', t, M)) : OpOk P o e H v H' := by
  obtain ⟨h1, rfl, _, _⟩ := pureV_inv hr
  simp only [Option.bind_eq_some_iff, Option.some.injEq] at h1
  obtain ⟨vs, hvs, cs, hcs, rfl⟩ := h1
  refine .pure fun ρ a w hx _ => ?_
  rw [ho] at hx
  have hx' : OpRel ρ e a (ps.toList.map (·.2)) := hx.of_sub fun y hy => by simpa [Op.operands] using hy
  have hpr := parts_rel hx' hc hvs
  obtain ⟨hzs, z, hz1, hz2⟩ := run_zeroT (P := P) (w := w) hz
  obtain ⟨r', e1, e2, e3, e4⟩ := fill_ok hpr (cs := zero) (cs' := z.cells) (by rw [hz2]; exact LRel.same hzs) (fun x hx => scalarRf_oneCell (by simp at hzs; exact hzs x hx)) hcs
  refine ⟨.agg r', ?_, .agg e2 e4⟩
  have em : (ps.map fun (i, x) => (i, a.eval x)).toList = ps.toList.map fun p => (p.1, a.eval p.2) := by simp
  rcases hpl with ⟨fs, hu, rfl⟩ | ⟨n, el, s, hu, hs, rfl⟩
  · have hpm : ∃ places : Array (Nat × Nat), (fs.mapM fun f => (do pure (f.offset, ← sizeOf f.type) : Sem (Nat × Nat))).run P w = .ok places w ∧ ∀ i : Nat, places[i]? = (fs[i]?).bind fun f => (sizeT P f.type).map fun n => (f.offset, n) := by
      have hl := hall fs hu
      obtain ⟨fl⟩ := fs
      have key : ∀ (fl : List Field), (∀ f ∈ fl, (sizeT P f.type).isSome = true) → ∃ pl : List (Nat × Nat), (fl.mapM fun f => (do pure (f.offset, ← sizeOf f.type) : Sem (Nat × Nat))).run P w = .ok pl w ∧
          ∀ i : Nat, pl[i]? = (fl[i]?).bind fun f => (sizeT P f.type).map fun n => (f.offset, n) := by
        intro fl
        induction fl with
        | nil => intro _; exact ⟨[], by simp, by simp⟩
        | cons f fl ih =>
          intro h
          obtain ⟨pl, p1, p2⟩ := ih fun g hg => h g (by simp [hg])
          obtain ⟨n, hn⟩ := Option.isSome_iff_exists.1 (h f (by simp))
          refine ⟨(f.offset, n) :: pl, ?_, ?_⟩
          · rw [List.mapM_cons]
            simp only [Sem.run_bind, run_sizeT hn, Result.andThen_ok, Sem.run_pure, p1]
          · intro i
            cases i with
            | zero => simp [hn]
            | succ i => simpa using p2 i
      obtain ⟨pl, p1, p2⟩ := key fl hl
      refine ⟨pl.toArray, ?_, fun i => by simpa using p2 i⟩
      rw [List.mapM_toArray, Sem.run_map, p1]; rfl
    obtain ⟨places, p1, p2⟩ := hpm
    have e1' : Instr.fill (places[·]?) z.cells (ps.map fun (i, x) => (i, a.eval x)).toList = some r' := by
      rw [em, ← e1]; congr 1; funext i; exact p2 i
    simp only [execOp, ho, Instr.build, Sem.run_bind, hz1, Result.andThen_ok, run_underlying hu, p1]
    rw [e1']; rfl
  · simp only [execOp, ho, Instr.build, Sem.run_bind, hz1, Result.andThen_ok, run_underlying hu, run_sizeT hs]
    rw [em, e1]; rfl

/-- A new block at the end of the heap. -/
theorem push_rel {ρ : Pl} {w w' : World} (hrel : RelF ρ (hp H) w) (hfree : ρ H.length = none) {ob : Ob} (hl : ob.live = true) (hown : ob.own = true) {cells' : Array Value} {el : TypeId} {fr : Nat × Nat}
    (hw : w'.heap = w.heap.push (.cells cells' el fr)) (h1 : w'.os = w.os) (h2 : w'.tape = w.tape) (h3 : w'.output = w.output) {base : Nat} (hbase : base = 0) {l' : List Value}
    (hc : LRel ρ ob.cells l') (hl' : ∃ ex, cells'.toList = l' ++ ex) (hone : ∀ x ∈ ob.cells, oneCellB x = true) (hfr : ∀ i, i < cells'.size → ¬ (fr.1 ≤ i ∧ i < fr.2)) :
    ∃ ρ', Ext ρ ρ' H.length (H.length + 1) ∧ ρ' H.length = some ⟨w.heap.size, 0, cells'.size, ob.es, if ob.exact then .exact else .grown⟩ ∧ RelF ρ' (hp (H ++ [ob])) w' ∧ Frm ρ ρ' (hp H) (hp (H ++ [ob])) w w' := by
  let pl : Place := ⟨w.heap.size, 0, cells'.size, ob.es, if ob.exact then .exact else .grown⟩
  let ρ' : Pl := fun id => if id = H.length then some pl else ρ id
  have hle : PlLe ρ ρ' := fun id p h => by
    by_cases c : id = H.length
    · subst c; rw [hfree] at h; cases h
    · simp only [ρ', if_neg c]; exact h
  have hnew : w'.heap[w.heap.size]? = some (.cells cells' el fr) := by rw [hw]; simp
  have hold : ∀ b, b < w.heap.size → w'.heap[b]? = w.heap[b]? := fun b hb => by rw [hw, Array.getElem?_push, if_neg (by omega)]
  have hget : ∀ id, id ≠ H.length → hp (H ++ [ob]) id = hp H id ∨ hp (H ++ [ob]) id = none := fun id hid => by
    rcases Nat.lt_trichotomy id H.length with h | h | h
    · left; simp only [hp, List.getElem?_append_left h]
    · exact absurd h hid
    · right; simp only [hp]; rw [List.getElem?_eq_none]; simp; omega
  have hgetn : hp (H ++ [ob]) H.length = some ob := by simp [hp]
  refine ⟨ρ', ⟨hle, fun id p h k => ?_⟩, by simp [ρ', pl], ⟨?_, ?_, ?_⟩, ⟨h1, h2, h3, by rw [hw]; simp, fun b hb _ => hold b hb, fun id p h k => ?_⟩⟩
  · by_cases c : id = H.length
    · subst c; omega
    · simp only [ρ', if_neg c] at h; rw [k] at h; cases h
  · intro id p h
    by_cases c : id = H.length
    · simp only [ρ', if_pos c, Option.some.injEq] at h; subst h; rw [hw]; simp [pl]
    · simp only [ρ', if_neg c] at h; have := hrel.bound id p h; rw [hw]; simp; omega
  · intro id ob' p ho h hlv
    by_cases c : id = H.length
    · subst c
      rw [hgetn] at ho; cases ho
      simp only [ρ', if_true, Option.some.injEq] at h; subst h
      refine ⟨by simp [pl, hown], rfl, cells', el, fr, hnew, rfl, ?_, ?_, fun _ => hfr⟩
      · obtain ⟨ex, hex⟩ := hl'
        have : cells'.size = cells'.toList.length := by simp
        simp only [pl]
        rw [this, hex, List.length_append, hc.length]; omega
      · intro i u hi
        refine ⟨hone u (List.mem_of_getElem? hi), ?_⟩
        obtain ⟨u', e1, e2⟩ := hc.get hi
        obtain ⟨ex, hex⟩ := hl'
        refine ⟨u', ?_, e2.mono hle⟩
        simp only [pl, Nat.zero_add]
        rw [← Array.getElem?_toList, hex, List.getElem?_append_left]
        · exact e1
        · exact (List.getElem?_eq_some_iff.1 e1).1
    · rcases hget id c with h4 | h4
      · rw [h4] at ho
        simp only [ρ', if_neg c] at h
        exact (hrel.obj id ob' p ho h hlv).same_block hle (hold _ (hrel.bound _ _ h))
      · rw [h4] at ho; cases ho
  · intro i j oi oj pi pj hi hj hpi hpj a1 a2 a3 hij
    by_cases ci : i = H.length
    · by_cases cj : j = H.length
      · omega
      · simp only [ρ', if_pos ci, Option.some.injEq] at hpi
        simp only [ρ', if_neg cj] at hpj
        have := hrel.bound _ _ hpj
        subst hpi; simp only [pl]; omega
    · simp only [ρ', if_neg ci] at hpi
      by_cases cj : j = H.length
      · simp only [ρ', if_pos cj, Option.some.injEq] at hpj
        have := hrel.bound _ _ hpi
        subst hpj; simp only [pl]; omega
      · simp only [ρ', if_neg cj] at hpj
        rcases hget i ci with h4 | h4 <;> rcases hget j cj with h5 | h5
        · rw [h4] at hi; rw [h5] at hj; exact hrel.inj i j oi oj pi pj hi hj hpi hpj a1 a2 a3 hij
        · rw [h5] at hj; cases hj
        · rw [h4] at hi; cases hi
        · rw [h4] at hi; cases hi
  · left
    by_cases c : id = H.length
    · simp only [ρ', if_pos c, Option.some.injEq] at h; subst h; exact Nat.le_refl _
    · simp only [ρ', if_neg c] at h; rw [k] at h; cases h

end
end Go.Ev

/-
  Stores, appends, copies, conversions.
-/
import Derived.Test.YtaceeoghjgggjaaEvMem2
set_option linter.unusedSimpArgs false
set_option linter.unusedVariables false
namespace Go.Ev
open Go.RowKit

section
variable {P : Program} {o : Oper} {e : Env} {H H' : List Ob} {v : Value} {t : Option (List Nat)} {M : List Nat}

theorem hp_set (H : List Ob) (id : Nat) (ob : Ob) (h : id < H.length) (j : Nat) : hp (H.set id ob) j = if j = id then some ob else hp H j := by
  simp only [hp, List.getElem?_set]
  by_cases c : id = j
  · subst c; simp [h]
  · simp [c, Ne.symm c]

theorem store_world {ρ : Pl} {w : World} {vs' : List Value} {off : Nat} {cs : Array Value} {el : TypeId} {fr : Nat × Nat} {b : Nat} :
    ({ w with heap := w.heap.setIfInBounds b (.cells (cs.toList.take off ++ (vs' ++ cs.toList.drop (off + vs'.length))).toArray el fr) } : World).heap = w.heap.setIfInBounds b (.cells (cs.toList.take off ++ (vs' ++ cs.toList.drop (off + vs'.length))).toArray el fr) := rfl

theorem update_rel {ρ : Pl} {w : World} (hrel : RelF ρ (hp H) w) {id off : Nat} {ob : Ob} {pl : Place} (hob : H[id]? = some ob) (hl : ob.live = true) (hown : ob.own = true) (hpl : ρ id = some pl) {vs vs' : List Value} (hv : LRel ρ vs vs')
    (hone : ∀ x ∈ vs, oneCellB x = true) (hle : off + vs.length ≤ ob.cells.length) {cs : Array Value} {el : TypeId} {fr : Nat × Nat} (hb : w.heap[pl.block]? = some (.cells cs el fr)) {w' : World}
    (hw : w' = { w with heap := w.heap.setIfInBounds pl.block (.cells (cs.toList.take (pl.base + off) ++ (vs' ++ cs.toList.drop (pl.base + off + vs'.length))).toArray el fr) }) :
    RelF ρ (hp (H.set id { ob with cells := splice ob.cells off vs })) w' ∧ Frm ρ ρ (hp H) (hp (H.set id { ob with cells := splice ob.cells off vs })) w w' := by
  have hid : id < H.length := (List.getElem?_eq_some_iff.1 hob).1
  have hobj := hrel.obj id ob pl hob hpl hl
  obtain ⟨k1, k2, cs0, el0, fr0, g1, g2, g3, g4, g5⟩ := hobj
  rw [hb] at g1
  simp only [Option.some.injEq, Obj.cells.injEq] at g1
  obtain ⟨rfl, rfl, rfl⟩ := g1
  have hbs : pl.block < w.heap.size := hrel.bound _ _ hpl
  have hvl := hv.length
  have hnew : w'.heap[pl.block]? = some (.cells (cs.toList.take (pl.base + off) ++ (vs' ++ cs.toList.drop (pl.base + off + vs'.length))).toArray el fr) := by
    subst hw; simp [hbs]
  have hold : ∀ b, b ≠ pl.block → w'.heap[b]? = w.heap[b]? := fun b hne => by subst hw; simp [Array.getElem?_setIfInBounds, Ne.symm hne]
  have hsz : w'.heap.size = w.heap.size := by subst hw; simp
  have hcl : cs.toList.length = cs.size := by simp
  refine ⟨⟨?_, ?_, ?_⟩, ⟨by subst hw; rfl, by subst hw; rfl, by subst hw; rfl, by rw [hsz]; exact Nat.le_refl _, ?_, fun i p h k => by rw [k] at h; cases h⟩⟩
  · intro i p h; rw [hsz]; exact hrel.bound i p h
  · intro i oi p hi hp' hli
    rw [hp_set _ _ _ hid] at hi
    by_cases c : i = id
    · subst c
      rw [if_pos rfl] at hi; cases hi
      rw [hpl] at hp'; cases hp'
      refine ⟨k1, k2, _, el, fr, hnew, ?_, ?_, ?_, ?_⟩
      · rw [← g2]; simp; omega
      · simp only; rw [splice_len hle]; simp; omega
      · intro i u hu
        have hsp : ∀ x ∈ splice ob.cells off vs, oneCellB x = true := by
          refine splice_one (fun x hx => ?_) hone
          obtain ⟨j, hj⟩ := List.getElem?_of_mem hx
          exact (g4 j x hj).1
        refine ⟨hsp u (List.mem_of_getElem? hu), ?_⟩
        simp only at hu
        rw [splice_eq hle] at hu
        rw [List.getElem?_append] at hu
        simp only [List.length_take, Nat.min_eq_left (show off ≤ ob.cells.length by omega), List.getElem?_take] at hu
        rw [← Array.getElem?_toList]
        simp only
        rw [List.getElem?_append]
        simp only [List.length_take, hcl, Nat.min_eq_left (show pl.base + off ≤ cs.size by omega), List.getElem?_take]
        by_cases c1 : i < off
        · rw [if_pos c1, if_pos c1] at hu
          obtain ⟨_, u', e1, e2⟩ := g4 i u hu
          refine ⟨u', ?_, e2⟩
          rw [if_pos (by omega), if_pos (by omega)]; simpa using e1
        · rw [if_neg c1] at hu
          rw [if_neg (by omega), show pl.base + i - (pl.base + off) = i - off by omega]
          rw [List.getElem?_append] at hu ⊢
          by_cases c2 : i - off < vs.length
          · rw [if_pos c2] at hu
            rw [if_pos (by omega)]
            exact hv.get hu
          · rw [if_neg c2] at hu
            rw [if_neg (by omega)]
            rw [List.getElem?_drop] at hu ⊢
            rw [show off + vs.length + (i - off - vs.length) = i by omega] at hu
            rw [show pl.base + off + vs'.length + (i - off - vs'.length) = pl.base + i by omega]
            obtain ⟨_, u', e1, e2⟩ := g4 i u hu
            exact ⟨u', by simpa using e1, e2⟩
      · intro _ j hj
        have : j < cs.size := by simp at hj; omega
        exact g5 hown j this
    · rw [if_neg c] at hi
      have hne : p.block ≠ pl.block := fun h => hrel.inj id i ob oi pl p hob hi hpl hp' hl hown hli (Ne.symm c) h.symm
      exact (hrel.obj i oi p hi hp' hli).same_block (.refl _) (hold _ hne)
  · intro i j oi oj pi pj hi hj hpi hpj a1 a2 a3 hij
    rw [hp_set _ _ _ hid] at hi hj
    have hi' : ∃ oi', hp H i = some oi' ∧ oi'.live = true ∧ oi'.own = true := by
      split at hi
      · subst_vars; cases hi; exact ⟨ob, hob, hl, hown⟩
      · exact ⟨oi, hi, a1, a2⟩
    have hj' : ∃ oj', hp H j = some oj' ∧ oj'.live = true := by
      split at hj
      · subst_vars; cases hj; exact ⟨ob, hob, hl⟩
      · exact ⟨oj, hj, a3⟩
    obtain ⟨oi', b1, b2, b3⟩ := hi'
    obtain ⟨oj', b4, b5⟩ := hj'
    exact hrel.inj i j oi' oj' pi pj b1 b4 hpi hpj b2 b3 b5 hij
  · intro b hb' h
    exact hold b fun hbe => h id ob pl hob hpl hl hown hbe.symm

theorem storeAt_inv {a : Addr} {vs : List Value} {H' : List Ob} (h : storeAt H a vs = some H') : ∃ ob, H[a.block]? = some ob ∧ ob.live = true ∧ ob.own = true ∧ a.spot = none ∧ a.off + vs.length ≤ ob.cells.length ∧ H' = H.set a.block { ob with cells := splice ob.cells a.off vs } := by
  simp only [storeAt, Option.bind_eq_some_iff] at h
  obtain ⟨ob, h1, h⟩ := h
  obtain ⟨h2, h3⟩ := liveAt_inv h1
  split at h
  · rename_i hc
    cases h
    exact ⟨ob, h2, h3, hc.1, by simpa using hc.2.1, hc.2.2, rfl⟩
  · cases h

/-- The cells of a slice's elements, or of an object, written anew. -/
theorem storeAt_run {ρ : Pl} {w : World} (hrel : RelF ρ (hp H) w) {a : Addr} {vs vs' : List Value} {pl : Place} (hpl : ρ a.block = some pl) (h : storeAt H a vs = some H') (hv : LRel ρ vs vs') (hone : ∀ x ∈ vs, oneCellB x = true) :
    ∃ w', (storeCells ⟨pl.block, pl.base + a.off, none⟩ vs').run P w = .ok () w' ∧ RelF ρ (hp H') w' ∧ Frm ρ ρ (hp H) (hp H') w w' ∧ H'.length = H.length := by
  obtain ⟨ob, h1, h2, h3, h4, h5, rfl⟩ := storeAt_inv h
  obtain ⟨_, _, cs, el, fr, g1, g2, g3, g4, g5⟩ := hrel.obj _ _ _ h1 hpl h2
  have hvl := hv.length
  have hone' : ∀ x ∈ vs', oneCellB x = true := by
    intro x hx
    obtain ⟨i, hi⟩ := List.getElem?_of_mem hx
    have hlt := (List.getElem?_eq_some_iff.1 hi).1
    obtain ⟨x', e1, e2⟩ := hv.get (List.getElem?_eq_getElem (show i < vs.length by omega))
    rw [hi] at e1; cases e1
    rw [e2.oneCell]; exact hone _ (List.getElem_mem _)
  have hr := run_storeCells (P := P) (b := pl.block) (off := pl.base + a.off) (el := el) (fr := fr) vs' 0 cs w g1 (by omega) hone' (fun k hk => g5 h3 _ (by omega))
  simp only [Nat.add_zero] at hr
  obtain ⟨r1, r2⟩ := update_rel hrel h1 h2 h3 hpl hv hone h5 g1 rfl
  exact ⟨_, hr, r1, r2, by simp⟩

theorem ok_store {ty : TypeId} {x y : Operand} {n : Nat} (hs : sizeT P ty = some n) (ho : o.op = .store ty x y) (hr : simpleOp H e (.store n x y) = some (v, H', t, M)) : OpOk P o e H v H' := by
  simp only [simpleOp, Option.bind_eq_some_iff] at hr
  obtain ⟨xv, hxv, yv, hyv, hr⟩ := hr
  split at hr
  · rename_i ad
    split at hr
    · rename_i hc
      simp only [Option.bind_eq_some_iff, Option.some.injEq, Prod.mk.injEq] at hr
      obtain ⟨H1, hst, rfl, rfl, _, _⟩ := hr
      intro ρ a w hx hrel _
      rw [ho] at hx
      obtain ⟨pl, e1, e2, e3⟩ := (hx x (by simp [Op.operands]) _ hxv).ptr_inv
      have hy := hx y (by simp [Op.operands]) _ hyv
      obtain ⟨w', r1, r2, r3, r4⟩ := storeAt_run (P := P) hrel e1 hst hy.cells (okVar_one hy hc.2)
      refine ⟨.skip, undef, w', ρ, ?_, rfl, ⟨.refl _ _ _, .tuple .nil, r2, r3⟩⟩
      have hsz : ¬ ((a.eval y).cells.size ≠ n) := by
        have := hy.cells.length
        simp only [Array.length_toList] at this
        omega
      simp only [execOp, ho, e3, Instr.storeAt, Instr.sureAddr, storeVar, run_sizeT hs, Sem.run_bind, Sem.run_pure, Result.andThen_ok, Sem.run_ite, if_neg hsz, r1]
    · cases hr
  · cases hr

theorem ok_s2b {x : Operand} {s d el : TypeId} (hs : P.underlying s = some .string) (hd : P.underlying d = some (.slice el)) (hel : P.underlying el = some (.int .u8)) (ho : o.op = .convert s d x)
    (hr : simpleOp H e (.s2b x) = some (v, H', t, M)) : OpOk P o e H v H' := by
  simp only [simpleOp, Option.bind_eq_some_iff] at hr
  obtain ⟨xv, hxv, hr⟩ := hr
  split at hr
  · rename_i s0
    split at hr
    · rename_i hsz
      simp only [Option.some.injEq, Prod.mk.injEq] at hr
      obtain ⟨rfl, rfl, _, _⟩ := hr
      refine ok_push rfl rfl fun ρ a w hx => ?_
      rw [ho] at hx
      have hx' := (hx x (by simp [Op.operands]) _ hxv).string
      obtain ⟨cap, hcap1, hcap2⟩ : ∃ cap, s0.size ≤ cap ∧ Question.cut (.appendCap s0.size 0 el) (w.tape w.drawn (.appendCap s0.size 0 el)) = cap := ⟨_, by simp [Question.cut], rfl⟩
      refine ⟨.slice (some ⟨w.heap.size, 0, none⟩) s0.size cap, { w with drawn := w.drawn + 1, heap := w.heap.push (.cells (s0.data.map (fun b => Value.int .u8 b.toNat) ++ Array.replicate (cap - s0.size) (.int .u8 0)) el (cap, cap + 1)) }, _, el, (cap, cap + 1), s0.data.toList.map fun b => .int .u8 b.toNat, ?_, rfl, rfl, rfl, rfl,
        LRel.same (by rw [List.all_eq_true]; intro y hy; simp [Ob.grown] at hy; obtain ⟨b, _, rfl⟩ := hy; rfl), ⟨(Array.replicate (cap - s0.size) (.int .u8 0)).toList, by simp⟩, ?_, ?_, fun ρ' h => fresh_slice h (Nat.le_refl _) hcap1 (.inr ⟨rfl, .inr ?_⟩)⟩
      · have hsd : s0.data.size = s0.size := rfl
        simp only [execOp, ho, hx', convert, run_underlying hs, run_underlying hd, run_underlying hel, Conv.stringToBytes, Sem.run_bind, Result.andThen_ok, run_choose, Question.forced, Bool.false_eq_true, if_false, hcap2, run_newRow, markStringish, run_shape, World.shape?]
        have hsize : (s0.data.map (fun b => Value.int .u8 b.toNat) ++ Array.replicate (cap - s0.size) (Value.int .u8 0)).size = cap := by simp [hsd]; omega
        simp only [Array.getElem?_push_size, run_freeze, Result.andThen_ok, Sem.run_pure, hsize, World.freeze, Nat.one_ne_zero, if_false]
        congr 2
        apply Array.ext_getElem?
        intro k
        rw [Array.getElem?_modify, Array.getElem?_push, Array.getElem?_push]
        by_cases c : k = w.heap.size
        · subst c; simp
        · simp [c, Ne.symm c]
      · intro y hy; simp [Ob.grown] at hy; obtain ⟨b, _, rfl⟩ := hy; rfl
      · intro i hi; simp only; have : i < cap := by simp [show s0.data.size = s0.size from rfl] at hi; omega
        omega
      · simp [Ob.grown, show s0.data.size = s0.size from rfl]; omega
    · cases hr
  · cases hr

end
end Go.Ev

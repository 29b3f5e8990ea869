/-
  Appends, copies, bytes to strings.
-/
import Derived.Test.YtaceeoghjgggjaaEvMem3
import Derived.Laws.Append
import Derived.Laws.BytesString
set_option linter.unusedSimpArgs false
set_option linter.unusedVariables false
namespace Go.Ev
open Go.RowKit

section
variable {P : Program} {o : Oper} {e : Env} {H H' : List Ob} {v : Value} {t : Option (List Nat)} {M : List Nat}

theorem elems_run {ρ : Pl} {w : World} (hrel : RelF ρ (hp H) w) {x x' : Value} {es n : Nat} {l : List Value} (hx : VRel ρ x x') (hl : elemsOf H es n x = some l) (hn : ∃ m, lenV x = some m ∧ n ≤ m) :
    ∃ l', (∀ w2 : World, w2.heap = w.heap → (Builtin.firstCells es n x').run P w2 = .ok l' w2) ∧ LRel ρ l l'.toList ∧ l.length = n * es ∧ ∀ y ∈ l, oneCellB y = true := by
  unfold elemsOf at hl
  split at hl
  · cases hl
    obtain ⟨rfl, rfl, rfl⟩ := hx.nslice
    obtain ⟨m, h1, h2⟩ := hn
    simp [lenV] at h1; subst h1
    have : n = 0 := by omega
    subst this
    exact ⟨#[], fun _ _ => by simp [Builtin.firstCells], .nil, by simp, by simp⟩
  · rename_i a len cap
    simp only [Option.bind_eq_some_iff] at hl
    obtain ⟨ob, hob, hl⟩ := hl
    obtain ⟨h1, h2⟩ := liveAt_inv hob
    split at hl
    · rename_i hc
      cases hl
      obtain ⟨m, h3, h4⟩ := hn
      simp only [lenV, Option.some.injEq] at h3; subst h3
      obtain ⟨pl, a', cap', e1, e2, e3, e4, e5, e6, e7, e8, rfl⟩ := hx.slice_inv
      obtain ⟨_, _, cs, el, fr, g1, g2, g3, g4, _⟩ := hrel.obj _ _ _ h1 e1 h2
      have hlen : ((ob.cells.drop a.off).take (n * es)).length = n * es := by simp; omega
      have hone : ∀ y ∈ (ob.cells.drop a.off).take (n * es), oneCellB y = true := fun y hy => by
        obtain ⟨i, hi⟩ := List.getElem?_of_mem (List.mem_of_mem_drop (List.mem_of_mem_take hy))
        exact (g4 i y hi).1
      by_cases hz : n * es = 0
      · refine ⟨#[], ?_, ?_, hlen, hone⟩
        · intro w2 _; simp [Builtin.firstCells, hz, loadCells, loadCellsFrom]
        · rw [hz]; simp; exact .nil
      · have hn0 : 0 < n := by rcases Nat.eq_zero_or_pos n with h | h; simp [h] at hz; exact h
        have hoff : a'.off = pl.base + a.off := by rcases e5 with h | h <;> omega
        have ha' : a' = ⟨pl.block, pl.base + a.off, none⟩ := by rw [Addr_eta a' e3, e4, hoff]
        refine ⟨((cs.toList.drop (pl.base + a.off)).take (n * es)).toArray, ?_, ?_, hlen, hone⟩
        · intro w2 hw2
          simp only [Builtin.firstCells, ha']
          exact run_loadCells (by rw [hw2]; exact g1) (by omega)
        · refine LRel.of_get (by simp; omega) fun i u hi => ?_
          simp only [List.getElem?_take, List.getElem?_drop] at hi ⊢
          split at hi
          · rename_i hlt
            obtain ⟨_, u', g5, g6⟩ := g4 _ u hi
            exact ⟨u', by rw [if_pos hlt]; simpa [Nat.add_assoc] using g5, g6⟩
          · cases hi
    · cases hl
  · rename_i s
    split at hl
    · rename_i hes
      cases hl
      subst hes
      obtain ⟨m, h1, h2⟩ := hn
      simp only [lenV, Option.some.injEq] at h1
      have hsz : s.data.toList.length = s.size := by simp
      refine ⟨((s.extract 0 n).data.map fun b => .int .u8 b.toNat), fun _ _ => by simp [Builtin.firstCells, hx.string], ?_, by simp; omega, ?_⟩
      · have : ((s.extract 0 n).data.map fun b => Value.int .u8 b.toNat).toList = (s.data.toList.take n).map fun b => .int .u8 b.toNat := by
          simp [ByteArray.data_extract]
        rw [this]
        exact LRel.same (by rw [List.all_eq_true]; intro y hy; rw [List.mem_map] at hy; obtain ⟨b, _, rfl⟩ := hy; rfl)
      · intro y hy; rw [List.mem_map] at hy; obtain ⟨b, _, rfl⟩ := hy; rfl
    · cases hl
  · cases hl

theorem lenOf_run {ρ : Pl} {x x' : Value} {n : Nat} (hx : VRel ρ x x') (hn : lenV x = some n) (w : World) : (Builtin.lenOf x').run P w = .ok n w := by
  unfold lenV at hn
  split at hn
  · rename_i b l c
    cases hn
    cases b with
    | none => obtain ⟨rfl, _, _⟩ := hx.nslice; rfl
    | some a => obtain ⟨pl, a', cap', _, _, _, _, _, _, _, _, rfl⟩ := hx.slice_inv; rfl
  · cases hn; rw [hx.string]; rfl
  · cases hn

theorem ok_b2s {x : Operand} {s d el : TypeId} (hs : P.underlying s = some (.slice el)) (hel : P.underlying el = some (.int .u8)) (hd : P.underlying d = some .string) (ho : o.op = .convert s d x)
    (hr : simpleOp H e (.b2s x) = some (v, H', t, M)) : OpOk P o e H v H' := by
  simp only [simpleOp, Option.bind_eq_some_iff] at hr
  obtain ⟨xv, hxv, hr⟩ := hr
  split at hr
  · rename_i b n cap
    simp only [Option.bind_eq_some_iff, Option.some.injEq, Prod.mk.injEq] at hr
    obtain ⟨cs, hcs, l, hl, rfl, rfl, _, _⟩ := hr
    intro ρ a w hx hrel _
    rw [ho] at hx
    have hx' := hx x (by simp [Op.operands]) _ hxv
    obtain ⟨l', e1, e2, e3, e4⟩ := elems_run (P := P) hrel hx' hcs ⟨n, rfl, Nat.le_refl _⟩
    replace e1 := e1 w rfl
    have hb : ∀ (cs : List Value) (l : List UInt8), bytesOfCells cs = some l → ∃ ns : List Int, cs = ns.map (Value.int .u8) ∧ l = ns.map fun n => UInt8.ofNat n.toNat := by
      intro cs
      induction cs with
      | nil => intro l h; simp [bytesOfCells] at h; subst h; exact ⟨[], rfl, rfl⟩
      | cons c cs ih =>
        intro l h
        unfold bytesOfCells at h
        split at h
        · rename_i heq; cases heq
        · rename_i heq
          cases heq
          simp only [Option.bind_eq_some_iff, Option.some.injEq] at h
          obtain ⟨l1, h1, rfl⟩ := h
          obtain ⟨ns, rfl, rfl⟩ := ih l1 h1
          exact ⟨_ :: ns, rfl, rfl⟩
        · cases h
    obtain ⟨ns, rfl, rfl⟩ := hb cs l hl
    have hl' : l' = (ns.map (Value.int .u8)).toArray := by
      apply Array.toList_inj.1
      exact e2.of_scalars (by rw [List.all_eq_true]; intro y hy; simp at hy; obtain ⟨b, _, rfl⟩ := hy; rfl)
    have hfold : ∀ (ns : List Int) (r : ByteArray), ns.foldl (fun r n => r.push (UInt8.ofNat n.toNat)) r = ⟨r.data ++ (ns.map fun n => UInt8.ofNat n.toNat).toArray⟩ := by
      intro ns
      induction ns with
      | nil => intro r; simp
      | cons n ns ih =>
        intro r
        rw [List.foldl_cons, ih]
        congr 1
        apply Array.toList_inj.1
        show ((r.push (UInt8.ofNat n.toNat)).data ++ _).toList = _
        have : (r.push (UInt8.ofNat n.toNat)).data = r.data.push (UInt8.ofNat n.toNat) := rfl
        rw [this]; simp
    refine ⟨.value (.string ⟨(ns.map fun n => UInt8.ofNat n.toNat).toArray⟩), _, w, ρ, ?_, rfl, .refl _ _ _, .same rfl, hrel, .refl _ _ _ _⟩
    cases b with
    | none =>
      obtain ⟨e5, rfl, rfl⟩ := hx'.nslice
      simp only [elemsOf, Option.some.injEq] at hcs
      have : ns = [] := by cases ns <;> simp at hcs; rfl
      subst this
      simp only [execOp, ho, e5, Sem.run_bind, run_convert_bytes_string w s d el none 0 0 hs hel hd, Conv.bytesToString, Sem.run_pure, Result.andThen_ok]
      rfl
    | some ad =>
      obtain ⟨pl, a', cap', _, _, _, _, _, _, _, _, e9⟩ := hx'.slice_inv
      have e10 : (loadCells a' n).run P w = .ok (ns.map (Value.int .u8)).toArray w := by
        rw [e9] at e1
        simpa [Builtin.firstCells, hl'] using e1
      simp only [execOp, ho, e9, Sem.run_bind, run_convert_bytes_string w s d el (some a') n cap' hs hel hd, run_bytesToString w a' n cap' ns e10, Result.andThen_ok, Sem.run_pure]
      rw [hfold]
      simp
  · cases hr

theorem ok_copy {es : Nat} {x y : Operand} {td : TypeId} {ts : List TypeId} {el : TypeId} (hu : P.underlying td = some (.slice el)) (hs : sizeT P el = some es) {c : Call} (hc1 : c.callee = .builtin .copy) (hc2 : c.args.toList = [x, y])
    (hc3 : c.argTypes.toList = td :: ts) (ho : o.op = .call c) (hr : simpleOp H e (.copy es x y) = some (v, H', t, M)) : OpOk P o e H v H' := by
  simp only [simpleOp, Option.bind_eq_some_iff] at hr
  obtain ⟨dv, hdv, sv, hsv, hr⟩ := hr
  have hca : c.args = #[x, y] := Array.toList_inj.1 hc2
  have hct : c.argTypes[0]? = some td := by rw [← Array.getElem?_toList, hc3]; rfl
  split at hr
  · rename_i base dl cap
    simp only [Option.bind_eq_some_iff] at hr
    obtain ⟨sl, hsl, cs, hcs, hr⟩ := hr
    intro ρ a w hx hrel _
    rw [ho] at hx
    have hx' := hx x (by simp [Op.operands, Call.operands, hca]) _ hdv
    have hy' := hx y (by simp [Op.operands, Call.operands, hca]) _ hsv
    obtain ⟨l', e1, e2, e3, e4⟩ := elems_run (P := P) hrel hy' hcs ⟨sl, hsl, Nat.min_le_left _ _⟩
    replace e1 := e1 w rfl
    have e5 := lenOf_run (P := P) hy' hsl w
    have hop : ∀ base' cap', a.eval x = .slice base' dl cap' → (execOp a.eval o).run P w = ((match base' with | some a => storeCells a l'.toList | none => pure ()).run P w).andThen fun _ w' => .ok (.value (.int .i64 (Nat.min sl dl : Nat))) w' := by
      intro base' cap' hd
      simp only [execOp, ho, resolve, hc1, Sem.run_bind, Sem.run_pure, Result.andThen_ok, invoke, builtin, Builtin.copy_, hca]
      simp only [List.map_toArray, List.map_cons, List.map_nil, hd, hct, Sem.run_bind, run_underlying hu, Result.andThen_ok, e5, run_sizeT hs]
      have e6 : (Builtin.firstCells es (Nat.min sl dl) (a.eval y)).run P w = .ok l' w := e1
      simp only [List.getElem?_toArray, List.getElem?_cons_zero, List.getElem?_cons_succ, Sem.run_bind, run_underlying hu, Result.andThen_ok, e5, run_sizeT hs, e6]
      cases base' with
      | none => simp [goInt]
      | some b => simp only [Sem.run_bind, goInt, Sem.run_pure]; generalize (storeCells b l'.toList).run P w = r; cases r <;> rfl
    cases base with
    | some ad =>
      simp only [Option.bind_eq_some_iff, Option.some.injEq, Prod.mk.injEq] at hr
      obtain ⟨H1, hst, rfl, rfl, _, _⟩ := hr
      obtain ⟨pl, a', cap', g1, g2, g3, g4, g5, g6, g7, g8, g9⟩ := hx'.slice_inv
      by_cases hz : cap' = 0
      · -- nothing is written
        have hd0 : dl = 0 := by omega
        subst hd0
        have hcs0 : cs = [] := by have : cs.length = 0 := by simpa using e3
                                  exact List.eq_nil_of_length_eq_zero this
        subst hcs0
        have hl0 : l'.toList = [] := by
          have := e2.length
          exact List.eq_nil_of_length_eq_zero this.symm
        obtain ⟨w', r1, r2, r3, r4⟩ := storeAt_run (P := P) hrel g1 hst .nil (by simp)
        have hw : w' = w := by simp [storeCells] at r1; exact r1.symm
        subst hw
        refine ⟨.value (.int .i64 (Nat.min sl 0 : Nat)), _, w', ρ, ?_, rfl, .refl _ _ _, .same rfl, r2, r3⟩
        rw [hop _ _ g9, hl0]; simp [storeCells]
      · have hoff : a'.off = pl.base + ad.off := by rcases g5 with h | h <;> omega
        have ha' : a' = ⟨pl.block, pl.base + ad.off, none⟩ := by rw [Addr_eta a' g3, g4, hoff]
        obtain ⟨w', r1, r2, r3, r4⟩ := storeAt_run (P := P) hrel g1 hst e2 e4
        refine ⟨.value (.int .i64 (Nat.min sl dl : Nat)), _, w', ρ, ?_, rfl, .refl _ _ _, .same rfl, r2, r3⟩
        rw [hop _ _ g9, ha', r1]; rfl
    | none =>
      dsimp only at hr
      split at hr
      · rename_i hd0
        subst hd0
        simp only [Option.some.injEq, Prod.mk.injEq] at hr
        obtain ⟨rfl, rfl, _, _⟩ := hr
        refine ⟨.value (.int .i64 0), _, w, ρ, ?_, rfl, .refl _ _ _, .same rfl, hrel, .refl _ _ _ _⟩
        rw [hop none cap hx'.nslice.1]; simp
      · cases hr
  · cases hr

/-- A heap of which something is forgotten. -/
theorem RelF.forget {ρ : Pl} {c c' : Nat → Option Ob} {w : World} (h : RelF ρ c w) (hc : ∀ id ob, c' id = some ob → ob.live = true → c id = some ob) : RelF ρ c' w :=
  ⟨h.bound, fun id ob pl h1 h2 h3 => h.obj id ob pl (hc id ob h1 h3) h2 h3,
    fun i j oi oj pi pj h1 h2 h3 h4 h5 h6 h7 h8 => h.inj i j oi oj pi pj (hc i oi h1 h5) (hc j oj h2 h7) h3 h4 h5 h6 h7 h8⟩

theorem Frm.weaken {ρ ρ' : Pl} {c c1 c' : Nat → Option Ob} {w w' : World} (h : Frm ρ ρ' c1 c' w w') (hc : ∀ id ob, c1 id = some ob → ob.live = true → c id = some ob) : Frm ρ ρ' c c' w w' :=
  ⟨h.os, h.tape, h.output, h.size, fun b hb k => h.blocks b hb fun id ob pl h1 h2 h3 h4 => k id ob pl (hc id ob h1 h3) h2 h3 h4,
    fun id pl h1 h2 => (h.fresh id pl h1 h2).imp (fun z => z) fun ⟨i, ob, pl0, a1, a2, a3, a4, a5, a6⟩ => ⟨i, ob, pl0, hc i ob a1 a3, a2, a3, a4, a5, a6⟩⟩

end
end Go.Ev

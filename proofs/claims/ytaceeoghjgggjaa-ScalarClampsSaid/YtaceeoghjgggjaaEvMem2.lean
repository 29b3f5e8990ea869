/-
  The operations that make, read and write memory: one by one.
-/
import Derived.Test.YtaceeoghjgggjaaEvMem
set_option linter.unusedSimpArgs false
set_option linter.unusedVariables false
namespace Go.Ev
open Go.RowKit

section
variable {P : Program} {o : Oper} {e : Env} {H H' : List Ob} {v : Value} {t : Option (List Nat)} {M : List Nat}

theorem run_newRow (el : TypeId) (cells : Array Value) (w : World) : (newRow el cells).run P w = .ok ⟨w.heap.size, 0, none⟩ { w with heap := w.heap.push (.cells cells el) } := by
  simp [newRow]

/-- An operation that makes one block and answers its address, or a slice over it. -/
theorem ok_push {ob : Ob} (hl : ob.live = true) (hown : ob.own = true)
    (h : ∀ (ρ : Pl) (a : Act) (w : World), OpRel ρ e a o.op.operands.toList → ∃ (v' : Value) (w' : World) (cells' : Array Value) (el : TypeId) (fr : Nat × Nat) (l' : List Value),
      (execOp a.eval o).run P w = .ok (.value v') w' ∧ w'.heap = w.heap.push (.cells cells' el fr) ∧ w'.os = w.os ∧ w'.tape = w.tape ∧ w'.output = w.output ∧ LRel ρ ob.cells l' ∧ (∃ ex, cells'.toList = l' ++ ex) ∧
      (∀ x ∈ ob.cells, oneCellB x = true) ∧ (∀ i, i < cells'.size → ¬ (fr.1 ≤ i ∧ i < fr.2)) ∧
      ∀ ρ' : Pl, ρ' H.length = some ⟨w.heap.size, 0, cells'.size, ob.es, if ob.exact then .exact else .grown⟩ → VRel ρ' v v') : OpOk P o e H v (H ++ [ob]) := by
  intro ρ a w hx hrel hfree
  obtain ⟨v', w', cells', el, fr, l', h1, h2, h3, h4, h5, h6, h7, h8, h9, h10⟩ := h ρ a w hx
  obtain ⟨ρ', e1, e2, e3, e4⟩ := push_rel hrel (hfree H.length (Nat.le_refl _) (by simp)) hl hown h2 h3 h4 h5 rfl h6 h7 h8 h9
  exact ⟨.value v', v', w', ρ', h1, rfl, ⟨by simpa using e1, h10 ρ' e2, e3, e4⟩⟩

theorem fresh_ptr {ρ' : Pl} {n b s es : Nat} (h : ρ' n = some ⟨b, 0, s, es, .exact⟩) : VRel ρ' (.pointer (some ⟨n, 0, none⟩)) (.pointer (some ⟨b, 0, none⟩)) :=
  .ptr (a := ⟨n, 0, none⟩) h rfl

theorem ok_alloc {ty : TypeId} {zero : List Value} (hz : zeroT P ty = some zero) (ho : o.op = .alloc ty) (hr : simpleOp H e (.alloc zero) = some (v, H', t, M)) : OpOk P o e H v H' := by
  simp only [simpleOp, Option.some.injEq, Prod.mk.injEq] at hr
  obtain ⟨rfl, rfl, _, _⟩ := hr
  refine ok_push rfl rfl fun ρ a w hx => ?_
  obtain ⟨hzs, z, hz1, hz2⟩ := run_zeroT (P := P) (w := w) hz
  refine ⟨_, { w with heap := w.heap.push (.cells z.cells ty) }, z.cells, ty, (0, 0), zero, ?_, rfl, rfl, rfl, rfl, LRel.same hzs, ⟨[], by simp [hz2]⟩, fun x hx => scalarRf_oneCell (by simp at hzs; exact hzs x hx), fun i _ => by simp, fun ρ' h => fresh_ptr h⟩
  simp [execOp, ho, Instr.alloc, hz1, newVar, run_newRow]

theorem ok_box {ty : TypeId} {x : Operand} (ho : o.op = .box ty x) (hr : simpleOp H e (.box x) = some (v, H', t, M)) : OpOk P o e H v H' := by
  simp only [simpleOp, Option.bind_eq_some_iff] at hr
  obtain ⟨xv, hxv, hr⟩ := hr
  split at hr
  · rename_i hk
    simp only [Option.some.injEq, Prod.mk.injEq] at hr
    obtain ⟨rfl, rfl, _, _⟩ := hr
    refine ok_push rfl rfl fun ρ a w hx => ?_
    rw [ho] at hx
    have hx' := hx x (by simp [Op.operands]) xv hxv
    refine ⟨_, { w with heap := w.heap.push (.cells (a.eval x).cells ty) }, (a.eval x).cells, ty, (0, 0), (a.eval x).cells.toList, ?_, rfl, rfl, rfl, rfl, hx'.cells, ⟨[], by simp⟩, okVar_one hx' hk, fun i _ => by simp, fun ρ' h => fresh_ptr h⟩
    simp [execOp, ho, Instr.box, newVar, run_newRow]
  · cases hr

theorem fresh_slice {ρ' : Pl} {n b s es len cap cap' : Nat} {k : Kind} (h : ρ' n = some ⟨b, 0, s, es, k⟩) (h1 : len ≤ cap) (h2 : cap ≤ cap') (h3 : k = .exact ∧ cap' = cap ∨ k = .grown ∧ (cap' = cap ∨ cap' * es ≤ s)) :
    VRel ρ' (.slice (some ⟨n, 0, none⟩) len cap) (.slice (some ⟨b, 0, none⟩) len cap') := by
  refine .slice (a := ⟨n, 0, none⟩) h rfl rfl rfl (.inl rfl) h1 h2 ?_
  unfold Place.capOk
  rcases h3 with ⟨rfl, rfl⟩ | ⟨rfl, h3⟩
  · rfl
  · simpa using h3

theorem zeros_flatten {z : Array Value} : ∀ n, ((Array.range (n * z.size)).map fun i => z[i % z.size]!).toList = (List.replicate n z.toList).flatten := by
  intro n
  induction n with
  | zero => simp
  | succ n ih =>
    rw [List.replicate_succ', List.flatten_append, ← ih]
    simp only [Array.toList_map, Array.toList_range, List.flatten_cons, List.flatten_nil, List.append_nil]
    rw [Nat.add_mul, Nat.one_mul, List.range_add, List.map_append]
    congr 1
    apply List.ext_getElem?
    intro i
    simp only [List.map_map, List.getElem?_map, Function.comp]
    by_cases h : i < z.size
    · rw [List.getElem?_range h]
      simp only [Option.map_some, Array.getElem?_toList]
      have h1 : (n * z.size + i) % z.size = i := by
        rw [Nat.add_comm, Nat.add_mul_mod_self_right, Nat.mod_eq_of_lt h]
      show some (z[(n * z.size + i) % z.size]!) = z[i]?
      rw [h1]
      rw [getElem!_pos z i h, Array.getElem?_eq_getElem h]
    · rw [List.getElem?_eq_none (by simp; omega), List.getElem?_eq_none (by simp; omega)]; rfl

theorem all_flat {p : Value → Bool} {z : List Value} (h : z.all p = true) : ∀ n, (List.replicate n z).flatten.all p = true
  | 0 => by simp
  | n + 1 => by rw [List.replicate_succ, List.flatten_cons, List.all_append, h, all_flat h n]; rfl

theorem wrap_i64 {n : Int} (h : 0 ≤ n) (h' : n < 2 ^ 63) : IntKind.i64.wrap n = n := by
  have e : n % (2 ^ 64 : Int) = n := Int.emod_eq_of_lt h (by omega)
  show (if (true && decide (n % (2 ^ 64 : Int) ≥ 2 ^ 63)) = true then n % (2 ^ 64 : Int) - 2 ^ 64 else n % (2 ^ 64 : Int)) = n
  rw [e, if_neg]
  simp; omega

theorem ok_buildSlice {ty el : TypeId} {ps : Array (Nat × Operand)} {zero : List Value} {cps : List (Nat × Nat × Operand)} {len s : Nat} (hu : P.underlying ty = some (.slice el)) (hz : zeroT P el = some zero) (hs : sizeT P el = some s)
    (hlen : len * s ≤ 2 ^ 24) (hs0 : 0 < s) (hzl : zero.length = s) (hc : compParts (fun i => some (i * s, s)) ps.toList = some cps) (ho : o.op = .buildSlice ty len ps)
    (hr : simpleOp H e (.buildSlice (List.replicate len zero).flatten len cps) = some (v, H', t, M)) : OpOk P o e H v H' := by
  simp only [simpleOp, Option.bind_eq_some_iff, Option.some.injEq, Prod.mk.injEq] at hr
  obtain ⟨vs, hvs, cs, hcs, rfl, rfl, _, _⟩ := hr
  refine ok_push rfl rfl fun ρ a w hx => ?_
  rw [ho] at hx
  have hx' : OpRel ρ e a (ps.toList.map (·.2)) := hx.of_sub fun y hy => by simpa [Op.operands] using hy
  have hpr := parts_rel hx' hc hvs
  obtain ⟨hzs, z, hz1, hz2⟩ := run_zeroT (P := P) (w := w) hz
  have hzz : z.cells.size = s := by rw [← hzl, ← hz2]; simp
  have hzall := fun n => all_flat hzs n
  have hcells : ∀ zc : Array Value, (zc = if len * s = 0 then #[] else z.cells) → ((Array.range (len * s)).map (zc[· % zc.size]!)).toList = (List.replicate len zero).flatten := by
    intro zc hzc
    by_cases h0 : len * s = 0
    · have hl0 : len = 0 := by rcases Nat.mul_eq_zero.1 h0 with h | h <;> omega
      simp [hl0]
    · rw [if_neg h0] at hzc; subst hzc
      rw [← hzz, ← hz2]; exact zeros_flatten len
  obtain ⟨r', e1, e2, e3, e4⟩ := fill_ok hpr (cs := (List.replicate len zero).flatten) (cs' := (Array.range (len * s)).map ((if len * s = 0 then #[] else z.cells)[· % (if len * s = 0 then #[] else z.cells : Array Value).size]!))
    (by rw [hcells _ rfl]; exact LRel.same (hzall len)) (fun x hx => scalarRf_oneCell (List.all_eq_true.1 (hzall len) x hx)) hcs
  refine ⟨_, { w with heap := w.heap.push (.cells r' el) }, r', el, (0, 0), r'.toList, ?_, rfl, rfl, rfl, rfl, e2, ⟨[], by simp⟩, e4, fun i _ => by simp, fun ρ' h => fresh_slice h (Nat.le_refl _) (Nat.le_refl _) (.inl ⟨rfl, rfl⟩)⟩
  have em : (ps.map fun (i, x) => (i, a.eval x)).toList = ps.toList.map fun p => (p.1, a.eval p.2) := by simp
  simp only [execOp, ho, Instr.buildSlice, Sem.run_bind, run_underlying hu, Result.andThen_ok, run_sizeT hs, Sem.run_ite, if_neg (show ¬ len * s > 2 ^ 24 by omega), Sem.run_pure]
  by_cases h0 : len * s = 0
  · simp only [if_pos h0, Result.andThen_ok] at e1 ⊢
    rw [em, e1]
    simp [run_newRow]
  · simp only [if_neg h0, hz1, Result.andThen_ok] at e1 ⊢
    rw [em, e1]
    simp [run_newRow]

theorem ok_makeSlice {ty el : TypeId} {l c : Operand} {zero : List Value} {bytes : Nat} (hu : P.underlying ty = some (.slice el)) (hz : zeroT P el = some zero) (hsz : sizeT P el = some zero.length) (hb : bytesT P el = some bytes) (ho : o.op = .makeSlice ty l c)
    (hr : simpleOp H e (.makeSlice zero bytes l c) = some (v, H', t, M)) : OpOk P o e H v H' := by
  simp only [simpleOp, Option.bind_eq_some_iff] at hr
  obtain ⟨lv, hlv, cv, hcv, hr⟩ := hr
  split at hr
  · rename_i k1 l0 k2 c0
    split at hr
    · rename_i hc
      obtain ⟨h1, h2, h3, h4, h5⟩ := hc
      simp only [Option.some.injEq, Prod.mk.injEq] at hr
      obtain ⟨rfl, rfl, _, _⟩ := hr
      refine ok_push rfl rfl fun ρ a w hx => ?_
      rw [ho] at hx
      have hl' := (hx l (by simp [Op.operands]) _ hlv).int
      have hc' := (hx c (by simp [Op.operands]) _ hcv).int
      obtain ⟨hzs, z, hz1, hz2⟩ := run_zeroT (P := P) (w := w) hz
      obtain ⟨i, hi1, hi2⟩ := run_bytesT (P := P) (w := w) hb
      have hzz : z.cells.size = zero.length := by rw [← hz2]; simp
      have hc47 : c0 ≤ 2 ^ 47 := by
        have : c0 * 1 ≤ c0 * bytes := Int.mul_le_mul_of_nonneg_left (by omega) (by omega)
        omega
      have wl := wrap_i64 h1 (by omega : l0 < 2 ^ 63)
      have wc := wrap_i64 (by omega : 0 ≤ c0) (by omega : c0 < 2 ^ 63)
      have hcells : ∀ zc : Array Value, (zc = if c0.toNat * zero.length = 0 then #[] else z.cells) → ((Array.range (c0.toNat * zero.length)).map (zc[· % zc.size]!)).toList = (List.replicate c0.toNat zero).flatten := by
        intro zc hzc
        by_cases h0 : c0.toNat * zero.length = 0
        · have hl0 : c0.toNat = 0 := by rcases Nat.mul_eq_zero.1 h0 with h | h <;> omega
          simp [hl0]
        · rw [if_neg h0] at hzc; subst hzc
          rw [← hzz, ← hz2]; exact zeros_flatten _
      have hzall := all_flat hzs c0.toNat
      refine ⟨_, { w with heap := w.heap.push (.cells ((Array.range (c0.toNat * zero.length)).map ((if c0.toNat * zero.length = 0 then #[] else z.cells)[· % (if c0.toNat * zero.length = 0 then #[] else z.cells : Array Value).size]!)) el) }, (Array.range (c0.toNat * zero.length)).map ((if c0.toNat * zero.length = 0 then #[] else z.cells)[· % (if c0.toNat * zero.length = 0 then #[] else z.cells : Array Value).size]!), el, (0, 0), (List.replicate c0.toNat zero).flatten, ?_, rfl, rfl, rfl, rfl, LRel.same hzall, ⟨[], by rw [hcells _ rfl]; simp⟩,
        fun x hx => scalarRf_oneCell (by simp only [List.all_eq_true] at hzall; exact hzall x hx), fun i _ => by simp, fun ρ' h => fresh_slice h (by omega) (Nat.le_refl _) (.inl ⟨rfl, rfl⟩)⟩
      have ht : ¬ ((decide (c0 < 0) || decide ((i.bytes : Int) * c0 > 2 ^ 48) || decide (l0 < 0) || decide (l0 > c0)) = true) := by
        rw [hi2]
        have : (bytes : Int) * c0 = c0 * bytes := Int.mul_comm _ _
        rw [this]
        simp only [Bool.or_eq_true, decide_eq_true_eq, not_or]
        refine ⟨⟨⟨by omega, by omega⟩, by omega⟩, by omega⟩
      simp only [execOp, ho, Instr.makeSlice, Sem.run_bind, run_underlying hu, Result.andThen_ok, hl', hc', asInt, asIntOf, Sem.run_pure, hi1, wl, wc, Sem.run_ite, if_neg ht, run_askRoom, run_sizeT hsz]
      by_cases h0 : c0.toNat * zero.length = 0
      · simp only [if_pos h0, Result.andThen_ok]
        simp [run_newRow]
      · simp only [if_neg h0, hz1, Result.andThen_ok]
        simp [run_newRow]
    · cases hr
  · cases hr

theorem ok_load {ty : TypeId} {x : Operand} {n : Option Nat} (ha : aggT P ty = some n) (ho : o.op = .load ty x) (hr : simpleOp H e (.load n x) = some (v, H', t, M)) : OpOk P o e H v H' := by
  simp only [simpleOp, Option.bind_eq_some_iff] at hr
  obtain ⟨xv, hxv, hr⟩ := hr
  split at hr
  · rename_i ad
    simp only [Option.bind_eq_some_iff] at hr
    obtain ⟨ob, hob, hr⟩ := hr
    split at hr
    · simp only [Option.bind_eq_some_iff, Option.some.injEq, Prod.mk.injEq] at hr
      obtain ⟨u, hu, rfl, rfl, _, _⟩ := hr
      obtain ⟨hob1, hob2⟩ := liveAt_inv hob
      intro ρ a w hx hrel _
      rw [ho] at hx
      obtain ⟨pl, e1, e2, e3⟩ := (hx x (by simp [Op.operands]) _ hxv).ptr_inv
      obtain ⟨_, _, cs, el, fr, g1, g2, g3, g4, _⟩ := hrel.obj _ _ _ hob1 e1 hob2
      obtain ⟨b, hb, hbn, hk⟩ := run_aggT (P := P) (w := w) ha
      cases n with
      | none =>
        simp only [Option.isSome_none] at hbn; subst hbn
        obtain ⟨_, u', g5, g6⟩ := g4 ad.off u hu
        refine ⟨.value u', u', w, ρ, ?_, rfl, .refl _ _ _, g6, hrel, .refl _ _ _ _⟩
        have hc : w.cell? ⟨pl.block, pl.base + ad.off, none⟩ = some u' := by rw [cell_at g1]; exact g5
        simp [execOp, ho, e3, Instr.loadAt, Instr.sureAddr, loadVar, hb, hc]
      | some n =>
        simp only [Option.isSome_some] at hbn; subst hbn
        simp only [partL] at hu
        split at hu
        · rename_i hle
          cases hu
          refine ⟨.value (.agg ((cs.toList.drop (pl.base + ad.off)).take n).toArray), _, w, ρ, ?_, rfl, .refl _ _ _, ?_, hrel, .refl _ _ _ _⟩
          · have := run_loadCells (P := P) (n := n) (off := pl.base + ad.off) g1 (by omega)
            simp only [execOp, ho, e3, Instr.loadAt, Instr.sureAddr, loadVar, hb, run_sizeT (hk n rfl), this, Sem.run_bind, Result.andThen_ok, Sem.run_pure, Sem.run_ite, if_true]
          · refine .agg (LRel.of_get (by simp; omega) fun i u hi => ?_) fun x hx => ?_
            · simp only [List.getElem?_take, List.getElem?_drop] at hi ⊢
              split at hi
              · rename_i hlt
                obtain ⟨_, u', g5, g6⟩ := g4 _ u hi
                exact ⟨u', by rw [if_pos hlt]; simpa [Nat.add_assoc] using g5, g6⟩
              · cases hi
            · have hx' := List.mem_of_mem_drop (List.mem_of_mem_take hx)
              obtain ⟨i, hi⟩ := List.getElem?_of_mem hx'
              exact (g4 i x hi).1
        · cases hu
    · cases hr
  · cases hr

end
end Go.Ev

/-
  Appends.
-/
import Derived.Test.YtaceeoghjgggjaaEvMem4
set_option linter.unusedSimpArgs false
set_option linter.unusedVariables false
namespace Go.Ev
open Go.RowKit

section
variable {P : Program} {o : Oper} {e : Env} {H H' : List Ob} {v : Value} {t : Option (List Nat)} {M : List Nat}

/-- The growth of a slice, in the model: a new block. -/
theorem append_grows {w : World} {ts tx el : TypeId} {zero : List Value} {bytes n need len cap : Nat} {d : TypeDesc} {base : Option Addr} {x : Value} {old new : Array Value} {ty : TypeId} (hu : P.underlying ts = some (.slice el)) (hx : P.underlying tx = some d)
    (hd : ∀ k, d ≠ .int k) (hz : zeroT P el = some zero) (hsz : sizeT P el = some zero.length) (hb : bytesT P el = some bytes) (hn : (Builtin.lenOf x).run P w = .ok n w) (hneed : len + n = need) (hgrow : cap < need)
    (hfit : need * bytes ≤ 2 ^ 47) (hbp : 0 < bytes) (hold : ∀ w2 : World, w2.heap = w.heap → (Builtin.firstCells zero.length len (.slice base len cap)).run P w2 = .ok old w2)
    (hnew : ∀ w2 : World, w2.heap = w.heap → (Builtin.firstCells zero.length n x).run P w2 = .ok new w2) :
    ∃ (nc : Nat) (ext : Array Value), need ≤ nc ∧ ext.size = (nc - need) * zero.length ∧ (Builtin.append_ #[ts, tx] ty #[.slice base len cap, x]).run P w = .ok (.slice (some ⟨w.heap.size, 0, none⟩) need nc)
      { w with drawn := w.drawn + 1, heap := w.heap.push (.cells (old ++ new ++ ext) el (0, 0)) } := by
  obtain ⟨i, hi1, hi2⟩ := run_bytesT (P := P) (w := w) hb
  have hi1' : ∀ k, (typeInfo el).run P { w with drawn := w.drawn + k } = .ok i { w with drawn := w.drawn + k } := by
    intro k
    simp only [bytesT, Option.map_eq_some_iff] at hb
    obtain ⟨j, hj, hjb⟩ := hb
    have : (typeInfo el).run P w = .ok j w := by simp [typeInfo, hj]
    rw [this] at hi1; cases hi1
    simp [typeInfo, hj]
  obtain ⟨hzs, z, hz1, hz2⟩ := run_zeroT (P := P) (w := { w with drawn := w.drawn + 1 }) hz
  let nc := Question.cut (.appendCap need cap el) (w.tape w.drawn (.appendCap need cap el))
  have hnc : need ≤ nc := by simp [nc, Question.cut]
  refine ⟨nc, Builtin.zeroCells z.cells (nc - need), hnc, ?_, ?_⟩
  · have : z.cells.size = zero.length := by rw [← hz2]; simp
    simp [Builtin.zeroCells, this]
  · have hzf : (d matches .int _) = false := by cases d <;> first | rfl | exact absurd rfl (hd _)
    have c1 : ¬ (need ≤ cap) := by omega
    have c2 : ¬ ((need : Int) > IntKind.i64.max ∧ (i.bytes = 0)) := by rintro ⟨_, h⟩; omega
    have c3 : ¬ (Builtin.nextslicecap need cap * i.bytes > 2 ^ 48) := by
      have := growslice_fits hgrow (bytes := i.bytes) (by rw [hi2]; exact hfit)
      omega
    have hho := hold { w with drawn := w.drawn + 1 } rfl
    have hnn := hnew { w with drawn := w.drawn + 1 } rfl
    have h0 := hi1' 0
    unfold Builtin.append_
    simp only [List.getElem?_toArray, List.getElem?_cons_zero, List.getElem?_cons_succ]
    simp only [Sem.run_bind, run_underlying hu, Result.andThen_ok, run_sizeT hsz, run_underlying hx, Sem.run_pure, hzf]
    simp only [Result.andThen_ok, Bool.false_eq_true, if_false, hn, Sem.run_ite, Sem.run_bind, hneed, if_neg c1, Bool.not_false, if_true, hi1, false_or]
    rw [if_neg c2]
    simp only [Sem.run_pure, Result.andThen_ok, if_neg c3, hi1, run_choose, Question.forced, Bool.false_eq_true, if_false]
    have hch : Question.cut (.appendCap need cap el) (w.tape w.drawn (.appendCap need cap el)) = nc := rfl
    simp only [hch, Sem.run_pure, Result.andThen_ok, hi1' 1, run_askRoom, hho, hnn, hz1, run_newRow]


theorem ok_append {x y : Operand} {ts tx el : TypeId} {zero : List Value} {bytes : Nat} {d : TypeDesc} (hu : P.underlying ts = some (.slice el)) (hx : P.underlying tx = some d) (hd : ∀ k, d ≠ .int k) (hz : zeroT P el = some zero)
    (hsz : sizeT P el = some zero.length) (hb : bytesT P el = some bytes) {c : Call} (hc1 : c.callee = .builtin .append) (hc2 : c.args.toList = [x, y]) (hc3 : c.argTypes.toList = [ts, tx]) (ho : o.op = .call c)
    (hr : simpleOp H e (.append zero.length bytes x y) = some (v, H', t, M)) : OpOk P o e H v H' := by
  simp only [simpleOp, Option.bind_eq_some_iff] at hr
  obtain ⟨sv, hsv, xv, hxv, hr⟩ := hr
  have hca : c.args = #[x, y] := Array.toList_inj.1 hc2
  have hct : c.argTypes = #[ts, tx] := Array.toList_inj.1 hc3
  have hshape : ∃ base len cap, sv = .slice base len cap := by
    cases sv <;> first | exact ⟨_, _, _, rfl⟩ | (simp [appendV] at hr)
  obtain ⟨base, len, cap, rfl⟩ := hshape
  unfold appendV at hr
  dsimp only at hr
  simp only [Option.bind_eq_some_iff] at hr
  obtain ⟨n, hn, new, hnew, hr⟩ := hr
  intro ρ a w hxx hrel hfree
  rw [ho] at hxx
  have hs' := hxx x (by simp [Op.operands, Call.operands, hca]) _ hsv
  have hy' := hxx y (by simp [Op.operands, Call.operands, hca]) _ hxv
  have hrun : (execOp a.eval o).run P w = ((Builtin.append_ #[ts, tx] o.type #[a.eval x, a.eval y]).run P w).andThen fun v w' => .ok (.value v) w' := by
    simp only [execOp, ho, resolve, hc1, Sem.run_bind, Sem.run_pure, Result.andThen_ok, invoke, builtin, hca, hct]
    simp only [List.map_toArray, List.map_cons, List.map_nil]
  have hlen := lenOf_run (P := P) hy' hn w
  obtain ⟨new', q1, q2, q3, q4⟩ := elems_run (P := P) hrel hy' hnew ⟨n, hn, Nat.le_refl _⟩
  have hzf : (d matches .int _) = false := by cases d <;> first | rfl | exact absurd rfl (hd _)
  have hin : ∀ base' len' cap', len' + n ≤ cap' → a.eval x = .slice base' len' cap' → (execOp a.eval o).run P w =
      ((match base' with | some a => storeCells (a.add (len' * zero.length)) new'.toList | none => pure ()).run P w).andThen fun _ w' => .ok (.value (.slice base' (len' + n) cap')) w' := by
    intro base' len' cap' hle hd
    rw [hrun, hd]
    unfold Builtin.append_
    simp only [List.getElem?_toArray, List.getElem?_cons_zero, List.getElem?_cons_succ]
    simp only [Sem.run_bind, run_underlying hu, Result.andThen_ok, run_sizeT hsz, run_underlying hx, Sem.run_pure, hzf]
    simp only [Bool.false_eq_true, if_false, hlen, Result.andThen_ok, Sem.run_ite, if_pos hle, Bool.not_false, if_true, Sem.run_bind, q1 w rfl]
    cases base' with
    | none => simp
    | some b => simp only [Sem.run_bind, Sem.run_pure]; generalize (storeCells (b.add (len' * zero.length)) new'.toList).run P w = r; cases r <;> rfl
  by_cases hn0 : n = 0
  · rw [if_pos hn0] at hr
    subst hn0
    simp only [Option.some.injEq, Prod.mk.injEq] at hr
    obtain ⟨rfl, rfl, _, _⟩ := hr
    have hnew0 : new'.toList = [] := by
      have : new'.toList.length = 0 := by rw [← q2.length, q3]; simp
      exact List.eq_nil_of_length_eq_zero this
    cases base with
    | none =>
      obtain ⟨e1, rfl, rfl⟩ := hs'.nslice
      refine ⟨.value (.slice none 0 0), _, w, ρ, ?_, rfl, .refl _ _ _, .same rfl, hrel, .refl _ _ _ _⟩
      rw [hin none 0 0 (Nat.le_refl _) e1]; simp
    | some ad =>
      obtain ⟨pl, a', cap', g1, g2, g3, g4, g5, g6, g7, g8, g9⟩ := hs'.slice_inv
      refine ⟨.value (.slice (some a') len cap'), _, w, ρ, ?_, rfl, .refl _ _ _, ?_, hrel, .refl _ _ _ _⟩
      · rw [hin (some a') len cap' (by omega) g9, hnew0]; simp [storeCells]
      · rw [← g9]; exact hs'
  rw [if_neg hn0] at hr
  split at hr
  · cases hr
  rename_i hc
  have hc := Decidable.of_not_not hc
  obtain ⟨hfit, hbp, hes⟩ := hc
  cases base with
  | none =>
    obtain ⟨e1, rfl, rfl⟩ := hs'.nslice
    simp only [and_self, if_true, Option.some.injEq, Prod.mk.injEq] at hr
    obtain ⟨rfl, rfl, _, _⟩ := hr
    obtain ⟨nc, ext, k1, k2, k3⟩ := append_grows (P := P) (w := w) (base := none) (old := #[]) (new := new') (ty := o.type) (len := 0) (cap := 0) hu hx hd hz hsz hb hlen rfl (by omega) hfit hbp (fun w2 _ => by simp [Builtin.firstCells]) q1
    have hf := hfree H.length (Nat.le_refl _) (by simp)
    simp only [Nat.zero_add] at k1 k2 k3
    obtain ⟨ρ', e2, e3, e4, e5⟩ := push_rel (ob := Ob.grown zero.length new) (w' := { w with drawn := w.drawn + 1, heap := w.heap.push (.cells (#[] ++ new' ++ ext) el (0, 0)) }) hrel hf rfl rfl rfl rfl rfl rfl rfl q2 ⟨ext.toList, by simp⟩ q4 (fun i _ => by simp)
    refine ⟨.value (.slice (some ⟨w.heap.size, 0, none⟩) n nc), _, _, ρ', by rw [hrun, e1, k3]; rfl, rfl, ⟨by simpa using e2, fresh_slice e3 (Nat.le_refl _) k1 (.inr ⟨rfl, .inr ?_⟩), e4, e5⟩⟩
    have : new'.size = n * zero.length := by have := q2.length; simp at this; omega
    have h2 : nc * zero.length = n * zero.length + (nc - n) * zero.length := by rw [← Nat.add_mul]; congr 1; omega
    simp [Ob.grown, this, k2]; omega
  | some ad =>
    simp only [Option.bind_eq_some_iff] at hr
    obtain ⟨ob, hob, old, hold, hr⟩ := hr
    obtain ⟨hob1, hob2⟩ := liveAt_inv hob
    obtain ⟨pl, a', cap', g1, g2, g3, g4, g5, g6, g7, g8, g9⟩ := hs'.slice_inv
    have hor := hrel.obj _ _ _ hob1 g1 hob2
    obtain ⟨old', r1, r2, r3, r4⟩ := elems_run (P := P) hrel hs' hold ⟨len, rfl, Nat.le_refl _⟩
    split at hr
    · cases hr
    rename_i hown
    have hown := Decidable.of_not_not hown
    have hgrowth : cap' < len + n → ∀ (H1 : List Ob), RelF ρ (hp H1) w → H1.length = H.length → (∀ id ob, hp H1 id = some ob → ob.live = true → hp H id = some ob) → H' = H1 ++ [Ob.grown zero.length (old ++ new)] →
        v = .slice (some ⟨H.length, 0, none⟩) (len + n) (len + n) → ∃ nx v' w' ρ', (execOp a.eval o).run P w = .ok nx w' ∧ nextVal nx v' ∧ Post ρ H w v H' v' w' ρ' := by
      intro hg H1 hrel1 hlen1 hsub hH' hv
      subst hH' hv
      rw [g9] at r1
      obtain ⟨nc, ext, k1, k2, k3⟩ := append_grows (P := P) (w := w) (base := some a') (old := old') (new := new') (ty := o.type) hu hx hd hz hsz hb hlen rfl hg hfit hbp r1 q1
      have hf := hfree H.length (Nat.le_refl _) (by simp [hlen1])
      obtain ⟨ρ', e2, e3, e4, e5⟩ := push_rel (H := H1) (ob := Ob.grown zero.length (old ++ new)) (w' := { w with drawn := w.drawn + 1, heap := w.heap.push (.cells (old' ++ new' ++ ext) el (0, 0)) }) hrel1 (by rw [hlen1]; exact hf) rfl rfl rfl rfl rfl rfl rfl (r2.append q2) ⟨ext.toList, by simp⟩
        (fun y hy => by simp only [Ob.grown, List.mem_append] at hy; exact hy.elim (r4 y) (q4 y)) (fun i _ => by simp)
      rw [hlen1] at e2 e3
      refine ⟨.value (.slice (some ⟨w.heap.size, 0, none⟩) (len + n) nc), _, _, ρ', by rw [hrun, g9, k3]; rfl, rfl, ⟨by simpa [hlen1] using e2, fresh_slice e3 (Nat.le_refl _) k1 (.inr ⟨rfl, .inr ?_⟩), e4, e5.weaken hsub⟩⟩
      have h3 : new'.size = n * zero.length := by have := q2.length; simp at this; omega
      have h4 : old'.size = len * zero.length := by have := r2.length; simp at this; omega
      have h2 : nc * zero.length = (len + n) * zero.length + (nc - (len + n)) * zero.length := by rw [← Nat.add_mul]; congr 1; omega
      have h5 : (len + n) * zero.length = len * zero.length + n * zero.length := Nat.add_mul _ _ _
      simp [Ob.grown, h3, h4, k2]; omega
    split at hr
    · rename_i hle
      simp only [Option.bind_eq_some_iff, Option.some.injEq, Prod.mk.injEq] at hr
      obtain ⟨H1, hst, rfl, rfl, _, _⟩ := hr
      have hoff : a'.off = pl.base + ad.off := by rcases g5 with h | h <;> omega
      have ha' : a' = ⟨pl.block, pl.base + ad.off, none⟩ := by rw [Addr_eta a' g3, g4, hoff]
      have had : ad.add (len * zero.length) = ⟨ad.block, ad.off + len * zero.length, none⟩ := by rw [Addr_eta ad g2]; exact add_none _ _ _
      rw [had] at hst
      obtain ⟨w', s1, s2, s3, s4⟩ := storeAt_run (P := P) (a := ⟨ad.block, ad.off + len * zero.length, none⟩) hrel g1 hst q2 q4
      refine ⟨.value (.slice (some a') (len + n) cap'), _, w', ρ, ?_, rfl, .refl _ _ _, ?_, s2, s3⟩
      · rw [hin (some a') len cap' (by omega) g9]
        have : a'.add (len * zero.length) = ⟨pl.block, pl.base + (ad.off + len * zero.length), none⟩ := by rw [ha', add_none, Nat.add_assoc]
        simp only [this, s1, Result.andThen_ok]
      · exact .slice g1 g2 g3 g4 g5 hle g7 g8
    · rename_i hle
      have hkind := hor.kind
      rw [hown] at hkind
      simp only [if_true] at hkind
      split at hr
      · rename_i hex
        rw [hex] at hkind; simp only [if_true] at hkind
        simp only [Option.some.injEq, Prod.mk.injEq] at hr
        obtain ⟨rfl, rfl, _, _⟩ := hr
        have hcc : cap' = cap := by unfold Place.capOk at g8; rw [hkind] at g8; exact g8
        exact hgrowth (by omega) H hrel rfl (fun _ _ h _ => h) rfl rfl
      · rename_i hex
        have hex' : ob.exact = false := by simpa using hex
        rw [hex'] at hkind; simp only [Bool.false_eq_true, if_false] at hkind
        split at hr
        · rename_i hes2
          simp only [Option.some.injEq, Prod.mk.injEq] at hr
          obtain ⟨rfl, rfl, _, _⟩ := hr
          have hid : ad.block < H.length := (List.getElem?_eq_some_iff.1 hob1).1
          have hsub : ∀ id ob', hp (H.set ad.block Ob.dead) id = some ob' → ob'.live = true → hp H id = some ob' := by
            intro id ob' h hl
            rw [hp_set _ _ _ hid] at h
            split at h
            · cases h; simp [Ob.dead] at hl
            · exact h
          have hrel1 := hrel.forget hsub
          by_cases hgr : cap' < len + n
          · exact hgrowth hgr _ hrel1 (by simp) hsub rfl rfl
          · -- in place: the new object stands where the old one stood
            have hcap : a'.off + cap' * pl.es ≤ pl.size := by
              unfold Place.capOk at g8; rw [hkind] at g8
              rcases g8 with h | h
              · omega
              · exact h
            have hoff : a'.off = pl.base + ad.off := by rcases g5 with h | h <;> omega
            have ha' : a' = ⟨pl.block, pl.base + ad.off, none⟩ := by rw [Addr_eta a' g3, g4, hoff]
            obtain ⟨_, hes3, cs, el', fr, b1, b2, b3, b4, b5⟩ := hor
            have hes4 : zero.length ≤ pl.es := by rw [hes3]; exact hes2
            have hneed : a'.off + (len + n) * zero.length ≤ cs.size := by
              have h1 : (len + n) * zero.length ≤ cap' * pl.es := Nat.mul_le_mul (by omega) hes4
              omega
            have h3 : new'.toList.length = n * zero.length := by rw [← q2.length, q3]
            have hmul : (len + n) * zero.length = len * zero.length + n * zero.length := Nat.add_mul _ _ _
            have hone' : ∀ y ∈ new'.toList, oneCellB y = true := by
              intro y hy
              obtain ⟨i, hi⟩ := List.getElem?_of_mem hy
              have hlt := (List.getElem?_eq_some_iff.1 hi).1
              obtain ⟨x', e1, e2⟩ := q2.get (List.getElem?_eq_getElem (show i < new.length by rw [q3]; omega))
              rw [hi] at e1; cases e1
              rw [e2.oneCell]; exact q4 _ (List.getElem_mem _)
            have hsr := run_storeCells (P := P) (b := pl.block) (off := a'.off + len * zero.length) (el := el') (fr := fr) new'.toList 0 cs w b1 (by omega) hone' (fun k hk => b5 hown _ (by omega))
            simp only [Nat.add_zero] at hsr
            have hcl : cs.toList.length = cs.size := by simp
            have hold2 : old = (ob.cells.drop ad.off).take (len * zero.length) ∧ ad.off + len * zero.length ≤ ob.cells.length := by
              simp only [elemsOf, hob, Option.bind_some] at hold
              split at hold
              · rename_i hcc; cases hold; exact ⟨rfl, hcc.2⟩
              · cases hold
            have hoL : old.length = len * zero.length := r3
            have hbs : pl.block < w.heap.size := hrel.bound _ _ g1
            let cs2 : Array Value := (cs.toList.take (a'.off + len * zero.length) ++ (new'.toList ++ cs.toList.drop (a'.off + len * zero.length + new'.toList.length))).toArray
            let w' : World := { w with heap := w.heap.setIfInBounds pl.block (.cells cs2 el' fr) }
            let pl' : Place := ⟨pl.block, a'.off, pl.size, zero.length, .grown⟩
            let ρ' : Pl := fun id => if id = H.length then some pl' else ρ id
            have hfr := hfree H.length (Nat.le_refl _) (by simp)
            have hle' : PlLe ρ ρ' := fun id p h => by
              by_cases c : id = H.length
              · subst c; rw [hfr] at h; cases h
              · simp only [ρ', if_neg c]; exact h
            have hcs2 : cs2.size = cs.size := by simp only [cs2, List.size_toArray, List.length_append, List.length_take, List.length_drop, hcl]; omega
            have hnewb : w'.heap[pl.block]? = some (.cells cs2 el' fr) := by simp [w', hbs]
            have holdb : ∀ b, b ≠ pl.block → w'.heap[b]? = w.heap[b]? := fun b hne => by simp [w', Array.getElem?_setIfInBounds, Ne.symm hne]
            have hws : w'.heap.size = w.heap.size := by simp [w']
            have hget : ∀ id ob', hp (H.set ad.block Ob.dead ++ [Ob.grown zero.length (old ++ new)]) id = some ob' → ob'.live = true → (id = H.length ∧ ob' = Ob.grown zero.length (old ++ new)) ∨ (id ≠ H.length ∧ id ≠ ad.block ∧ hp H id = some ob') := by
              intro id ob' h hl
              rcases Nat.lt_trichotomy id H.length with h1 | h1 | h1
              · right
                have : hp (H.set ad.block Ob.dead ++ [Ob.grown zero.length (old ++ new)]) id = hp (H.set ad.block Ob.dead) id := by simp only [hp]; rw [List.getElem?_append_left (by simpa using h1)]
                rw [this, hp_set _ _ _ hid] at h
                split at h
                · cases h; simp [Ob.dead] at hl
                · exact ⟨by omega, by assumption, h⟩
              · left; subst h1; simp [hp] at h; exact ⟨rfl, h.symm⟩
              · simp only [hp] at h; rw [List.getElem?_eq_none (by simp; omega)] at h; cases h
            refine ⟨.value (.slice (some a') (len + n) cap'), _, w', ρ', ?_, rfl, ⟨⟨hle', fun id p h k => ?_⟩, ?_, ⟨?_, ?_, ?_⟩, ⟨rfl, rfl, rfl, by rw [hws]; exact Nat.le_refl _, ?_, ?_⟩⟩⟩
            · rw [hin (some a') len cap' (by omega) g9]
              have : a'.add (len * zero.length) = ⟨pl.block, a'.off + len * zero.length, none⟩ := by rw [Addr_eta a' g3, g4]; exact add_none _ _ _
              simp only [this, hsr, Result.andThen_ok]
              rfl
            · by_cases c : id = H.length
              · subst c; simp
              · simp only [ρ', if_neg c] at h; rw [k] at h; cases h
            · refine .slice (a := ⟨H.length, 0, none⟩) (pl := pl') (by simp [ρ']) rfl g3 g4 (.inl (by simp [pl'])) (Nat.le_refl _) (by omega) ?_
              show _ ∨ _
              right
              simp only [pl']
              have : cap' * zero.length ≤ cap' * pl.es := Nat.mul_le_mul_left _ hes4
              omega
            · intro id p h
              rw [hws]
              by_cases c : id = H.length
              · simp only [ρ', if_pos c, Option.some.injEq] at h; subst h; exact hbs
              · simp only [ρ', if_neg c] at h; exact hrel.bound _ _ h
            · intro id ob' p ho' h hl
              rcases hget id ob' ho' hl with ⟨rfl, rfl⟩ | ⟨c1, c2, c3⟩
              · simp only [ρ', if_true, Option.some.injEq] at h; subst h
                refine ⟨by simp [pl', Ob.grown], rfl, cs2, el', fr, hnewb, by rw [hcs2]; exact b2, ?_, ?_, fun _ i hi => b5 hown i (by omega)⟩
                · simp only [pl', Ob.grown, List.length_append, hoL, q3, hcs2]; omega
                · intro i u hi
                  simp only [Ob.grown, pl'] at hi ⊢
                  rw [List.getElem?_append] at hi
                  by_cases c : i < old.length
                  · rw [if_pos c] at hi
                    rw [hold2.1, List.getElem?_take, if_pos (by omega), List.getElem?_drop] at hi
                    obtain ⟨h6, u', h7, h8⟩ := b4 _ u hi
                    refine ⟨h6, u', ?_, h8.mono hle'⟩
                    rw [← Array.getElem?_toList]
                    simp only [cs2]
                    rw [List.getElem?_append_left (by simp; omega), List.getElem?_take, if_pos (by omega), hoff]
                    simpa [Nat.add_assoc] using h7
                  · rw [if_neg c] at hi
                    refine ⟨q4 u (List.mem_of_getElem? hi), ?_⟩
                    obtain ⟨u', h7, h8⟩ := q2.get hi
                    refine ⟨u', ?_, h8.mono hle'⟩
                    have hlt := (List.getElem?_eq_some_iff.1 h7).1
                    rw [← Array.getElem?_toList]
                    simp only [cs2]
                    rw [List.getElem?_append_right (by simp; omega), List.length_take, hcl, Nat.min_eq_left (by omega), show a'.off + i - (a'.off + len * zero.length) = i - old.length by omega, List.getElem?_append_left hlt]
                    exact h7
              · simp only [ρ', if_neg c1] at h
                have hne : p.block ≠ pl.block := fun hb => hrel.inj ad.block id ob ob' pl p hob1 c3 g1 h hob2 hown hl (Ne.symm c2) hb.symm
                exact (hrel.obj id ob' p c3 h hl).same_block hle' (holdb _ hne)
            · intro i j oi oj pi pj hi hj hpi hpj a1 a2 a3 hij
              rcases hget i oi hi a1 with ⟨rfl, rfl⟩ | ⟨c1, c2, c3⟩ <;> rcases hget j oj hj a3 with ⟨rfl, rfl⟩ | ⟨d1, d2, d3⟩
              · exact absurd rfl hij
              · simp only [ρ', if_true, Option.some.injEq] at hpi; subst hpi
                simp only [ρ', if_neg d1] at hpj
                exact hrel.inj ad.block j ob oj pl pj hob1 d3 g1 hpj hob2 hown a3 (Ne.symm d2)
              · simp only [ρ', if_true, Option.some.injEq] at hpj; subst hpj
                simp only [ρ', if_neg c1] at hpi
                exact hrel.inj i ad.block oi ob pi pl c3 hob1 hpi g1 a1 a2 hob2 c2
              · simp only [ρ', if_neg c1] at hpi
                simp only [ρ', if_neg d1] at hpj
                exact hrel.inj i j oi oj pi pj c3 d3 hpi hpj a1 a2 a3 hij
            · intro b hb' h
              exact holdb b fun hbe => h ad.block ob pl hob1 g1 hob2 hown hbe.symm
            · intro id p h k
              by_cases c : id = H.length
              · simp only [ρ', if_pos c, Option.some.injEq] at h; subst h
                refine .inr ⟨ad.block, ob, pl, hob1, g1, hob2, hown, rfl, fun ob' h' => ?_⟩
                simp only [hp] at h'
                rw [List.getElem?_append_left (by simpa using hid), List.getElem?_set] at h'
                simp [hid] at h'
                subst h'; rfl
              · simp only [ρ', if_neg c] at h; rw [k] at h; cases h
        · cases hr
end
end Go.Ev

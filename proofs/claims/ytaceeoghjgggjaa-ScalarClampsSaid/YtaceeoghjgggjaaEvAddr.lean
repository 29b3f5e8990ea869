/-
  Addresses, parts, slices, comparisons.
-/
import Derived.Test.YtaceeoghjgggjaaEvPure
set_option linter.unusedSimpArgs false
set_option linter.unusedVariables false
namespace Go.Ev
open Go.RowKit

theorem Addr_eta (a : Addr) (h : a.spot = none) : a = ⟨a.block, a.off, none⟩ := by cases a; cases h; rfl

section
variable {P : Program} {o : Oper} {e : Env} {H H' : List Ob} {v : Value} {t : Option (List Nat)} {M : List Nat} {ρ : Pl}

theorem partL_rel {n : Option Nat} {cs cs' : List Value} {off : Nat} {u : Value} (h : LRel ρ cs cs') (h1 : ∀ x ∈ cs, oneCellB x = true) (hp : partL n cs off = some u) :
    ∃ u', partL n cs' off = some u' ∧ VRel ρ u u' := by
  cases n with
  | none => exact h.get hp
  | some n =>
    simp only [partL] at hp ⊢
    split at hp
    · cases hp
      rename_i hl
      rw [if_pos (by rw [← h.length]; exact hl)]
      refine ⟨_, rfl, .agg ((h.drop off).take n) fun x hx => h1 x (List.mem_of_mem_drop (List.mem_of_mem_take hx))⟩
    · cases hp

theorem run_part {ty : TypeId} {n : Option Nat} {cs : Array Value} {off : Nat} {u : Value} (ha : aggT P ty = some n) (hp : partL n cs.toList off = some u) (w : World) : (part ty cs off).run P w = .ok u w := by
  obtain ⟨b, hb, hbn, hk⟩ := run_aggT (P := P) (w := w) ha
  simp only [part, Sem.run_bind, hb, Result.andThen_ok]
  cases n with
  | none =>
    simp only [Option.isSome_none] at hbn
    subst hbn
    have : cs[off]? = some u := by simpa [partL] using hp
    simp [this]
  | some n =>
    simp only [Option.isSome_some] at hbn
    subst hbn
    simp only [partL] at hp
    split at hp
    · cases hp
      simp only [Sem.run_ite, if_true, Sem.run_bind, run_sizeT (hk n rfl), Result.andThen_ok, Sem.run_pure]
      congr 2
      apply Array.toList_inj.1
      simp [List.take_drop]
    · cases hp

theorem ok_field {n : Option Nat} {off : Nat} {x : Operand} {s : TypeId} {f : Nat} {fs : Array Field} {fd : Field} (hu : P.underlying s = some (.struct fs)) (hf : fs[f]? = some fd) (ho' : fd.offset = off)
    (ha : aggT P fd.type = some n) (ho : o.op = .field s x f) (hr : simpleOp H e (.field n off x) = some (v, H', t, M)) : OpOk P o e H v H' := by
  obtain ⟨h1, rfl, _, _⟩ := pureV_inv hr
  simp only [Option.bind_eq_some_iff] at h1
  obtain ⟨xv, hxv, h1⟩ := h1
  refine .pure fun ρ a w hx _ => ?_
  rw [ho] at hx
  have hx' := hx x (by simp [Op.operands]) xv hxv
  split at h1
  · obtain ⟨cs', e1, e2, e3⟩ := hx'.agg_inv
    obtain ⟨u', e4, e5⟩ := partL_rel e2 e3 h1
    refine ⟨u', ?_, e5⟩
    subst ho'
    simp [execOp, ho, e1, Instr.field, run_underlying hu, hf, asAgg, run_part ha e4 w]
  · cases h1

theorem ok_index {n : Option Nat} {len es : Nat} {x i : Operand} {ty el : TypeId} (hu : P.underlying ty = some (.array len el)) (hs : sizeT P el = some es) (ha : aggT P el = some n) (ho : o.op = .index ty x i)
    (hr : simpleOp H e (.index n len es x i) = some (v, H', t, M)) : OpOk P o e H v H' := by
  obtain ⟨h1, rfl, _, _⟩ := pureV_inv hr
  simp only [Option.bind_eq_some_iff] at h1
  obtain ⟨xv, hxv, iv, hiv, h1⟩ := h1
  refine .pure fun ρ a w hx _ => ?_
  rw [ho] at hx
  have hx' := hx x (by simp [Op.operands]) xv hxv
  have hi' := hx i (by simp [Op.operands]) iv hiv
  split at h1
  · split at h1
    · rename_i hb
      obtain ⟨cs', e1, e2, e3⟩ := hx'.agg_inv
      obtain ⟨u', e4, e5⟩ := partL_rel e2 e3 h1
      refine ⟨u', ?_, e5⟩
      simp [execOp, ho, e1, hi'.int, Instr.index, asIntOf, run_underlying hu, hb, run_sizeT hs, run_part ha e4 w]
    · cases h1
  · cases h1

theorem ok_indexStr {x i : Operand} {ty : TypeId} (hu : P.underlying ty = some .string) (ho : o.op = .index ty x i)
    (hr : simpleOp H e (.indexStr x i) = some (v, H', t, M)) : OpOk P o e H v H' := by
  obtain ⟨h1, rfl, _, _⟩ := pureV_inv hr
  simp only [Option.bind_eq_some_iff] at h1
  obtain ⟨xv, hxv, iv, hiv, h1⟩ := h1
  refine .pure fun ρ a w hx _ => ?_
  rw [ho] at hx
  have hx' := hx x (by simp [Op.operands]) xv hxv
  have hi' := hx i (by simp [Op.operands]) iv hiv
  split at h1
  · rename_i s k i
    split at h1
    · rename_i hb
      simp only [Option.bind_eq_some_iff] at h1
      obtain ⟨b, hbb, h1⟩ := h1
      cases h1
      refine ⟨_, ?_, .same rfl⟩
      have e : s[i.toNat]? = some b := by
        have hlt : i.toNat < s.data.toList.length := by
          rcases Nat.lt_or_ge i.toNat s.data.toList.length with h | h
          · exact h
          · rw [List.getElem?_eq_none h] at hbb; cases hbb
        have hlt' : i.toNat < s.size := by simpa using hlt
        have e1 : s[i.toNat]? = some s[i.toNat] := getElem?_pos s i.toNat hlt'
        rw [e1]
        rw [List.getElem?_eq_getElem hlt] at hbb
        rw [← hbb]; rfl
      simp [execOp, ho, hx'.string, hi'.int, Instr.index, asIntOf, run_underlying hu, hb, e]
    · cases h1
  · cases h1

theorem ok_fieldAddr {off : Nat} {x : Operand} {s : TypeId} {f : Nat} {fs : Array Field} {fd : Field} {n : Nat} (hu : P.underlying s = some (.struct fs)) (hf : fs[f]? = some fd) (ho' : fd.offset = off)
    (hs : sizeT P fd.type = some n) (hn : n ≠ 0) (ho : o.op = .fieldAddr s x f) (hr : simpleOp H e (.fieldAddr off x) = some (v, H', t, M)) : OpOk P o e H v H' := by
  obtain ⟨h1, rfl, _, _⟩ := pureV_inv hr
  simp only [Option.bind_eq_some_iff] at h1
  obtain ⟨xv, hxv, h1⟩ := h1
  refine .pure fun ρ a w hx _ => ?_
  rw [ho] at hx
  have hx' := hx x (by simp [Op.operands]) xv hxv
  split at h1
  · rename_i ad
    cases h1
    obtain ⟨pl, e1, e2, e3⟩ := hx'.ptr_inv
    refine ⟨.pointer (some ⟨pl.block, pl.base + (ad.off + off), none⟩), ?_, ?_⟩
    · subst ho'
      simp [execOp, ho, e3, Instr.fieldAt, run_underlying hu, hf, Instr.sureAddr, fieldPlace, run_sizeT hs, hn, add_none, Nat.add_assoc]
    · have : ad.add off = ⟨ad.block, ad.off + off, none⟩ := by rw [Addr_eta ad e2]; exact add_none _ _ _
      rw [this]
      exact .ptr (a := ⟨ad.block, ad.off + off, none⟩) e1 rfl
  · cases h1

theorem ok_indexAddr {len es : Nat} {x i : Operand} {ty el : TypeId} (hu : P.underlying ty = some (.array len el)) (hs : sizeT P el = some es) (ho : o.op = .indexAddr ty x i)
    (hr : simpleOp H e (.indexAddr len es x i) = some (v, H', t, M)) : OpOk P o e H v H' := by
  obtain ⟨h1, rfl, _, _⟩ := pureV_inv hr
  simp only [Option.bind_eq_some_iff] at h1
  obtain ⟨xv, hxv, iv, hiv, h1⟩ := h1
  refine .pure fun ρ a w hx _ => ?_
  rw [ho] at hx
  have hx' := hx x (by simp [Op.operands]) xv hxv
  have hi' := hx i (by simp [Op.operands]) iv hiv
  split at h1
  · rename_i ad k i
    split at h1
    · rename_i hb
      cases h1
      obtain ⟨pl, e1, e2, e3⟩ := hx'.ptr_inv
      refine ⟨.pointer (some ⟨pl.block, pl.base + (ad.off + i.toNat * es), none⟩), ?_, ?_⟩
      · simp [execOp, ho, e3, hi'.int, Instr.indexAt, asIntOf, run_underlying hu, Instr.sureAddr, hb, run_sizeT hs, add_none, Nat.add_assoc]
      · have : ad.add (i.toNat * es) = ⟨ad.block, ad.off + i.toNat * es, none⟩ := by rw [Addr_eta ad e2]; exact add_none _ _ _
        rw [this]
        exact .ptr (a := ⟨ad.block, ad.off + i.toNat * es, none⟩) e1 rfl
    · cases h1
  · cases h1

theorem ok_indexSl {es : Nat} {x i : Operand} {ty el : TypeId} (hu : P.underlying ty = some (.slice el)) (hs : sizeT P el = some es) (ho : o.op = .indexAddr ty x i)
    (hr : simpleOp H e (.indexSl es x i) = some (v, H', t, M)) : OpOk P o e H v H' := by
  obtain ⟨h1, rfl, _, _⟩ := pureV_inv hr
  simp only [Option.bind_eq_some_iff] at h1
  obtain ⟨xv, hxv, iv, hiv, h1⟩ := h1
  refine .pure fun ρ a w hx _ => ?_
  rw [ho] at hx
  have hx' := hx x (by simp [Op.operands]) xv hxv
  have hi' := hx i (by simp [Op.operands]) iv hiv
  split at h1
  · rename_i ad len cap k i
    split at h1
    · rename_i hb
      cases h1
      obtain ⟨pl, a', cap', e1, e2, e3, e4, e5, e6, e7, e8, e9⟩ := hx'.slice_inv
      have hoff : a'.off = pl.base + ad.off := by rcases e5 with h | h <;> omega
      have ha' : a' = ⟨pl.block, pl.base + ad.off, none⟩ := by rw [Addr_eta a' e3, e4, hoff]
      refine ⟨.pointer (some ⟨pl.block, pl.base + (ad.off + i.toNat * es), none⟩), ?_, ?_⟩
      · simp [execOp, ho, e9, hi'.int, Instr.indexAt, asIntOf, run_underlying hu, hb, run_sizeT hs, ha', add_none, Nat.add_assoc]
      · have : ad.add (i.toNat * es) = ⟨ad.block, ad.off + i.toNat * es, none⟩ := by rw [Addr_eta ad e2]; exact add_none _ _ _
        rw [this]
        exact .ptr (a := ⟨ad.block, ad.off + i.toNat * es, none⟩) e1 rfl
    · cases h1
  · cases h1

theorem ok_s2ap {n : Nat} {x : Operand} {ty el : TypeId} (hu : P.underlying ty = some (.array n el)) (ho : o.op = .sliceToArrayPointer ty x)
    (hr : simpleOp H e (.s2ap n x) = some (v, H', t, M)) : OpOk P o e H v H' := by
  obtain ⟨h1, rfl, _, _⟩ := pureV_inv hr
  simp only [Option.bind_eq_some_iff] at h1
  obtain ⟨xv, hxv, h1⟩ := h1
  refine .pure fun ρ a w hx _ => ?_
  rw [ho] at hx
  have hx' := hx x (by simp [Op.operands]) xv hxv
  split at h1
  · rename_i ad len cap
    split at h1
    · rename_i hb
      cases h1
      obtain ⟨pl, a', cap', e1, e2, e3, e4, e5, e6, e7, e8, e9⟩ := hx'.slice_inv
      have hoff : a'.off = pl.base + ad.off := by rcases e5 with h | h <;> omega
      have ha' : a' = ⟨pl.block, pl.base + ad.off, none⟩ := by rw [Addr_eta a' e3, e4, hoff]
      exact ⟨.pointer (some ⟨pl.block, pl.base + ad.off, none⟩), by simp [execOp, ho, e9, Instr.arrayAt, run_underlying hu, show ¬ len < n by omega, ha'], .ptr e1 e2⟩
    · cases h1
  · cases h1

theorem ok_len {str : Bool} {x : Operand} {ty : TypeId} {d : TypeDesc} (hu : P.underlying ty = some d) (hd : (str = true ∧ d = .string) ∨ (str = false ∧ ∃ el, d = .slice el))
    {c : Call} (hc1 : c.callee = .builtin .len) (hc2 : c.args.toList = [x]) (hc3 : c.argTypes.toList = [ty]) (ho : o.op = .call c)
    (hr : simpleOp H e (.len str x) = some (v, H', t, M)) : OpOk P o e H v H' := by
  obtain ⟨h1, rfl, _, _⟩ := pureV_inv hr
  simp only [Option.bind_eq_some_iff] at h1
  obtain ⟨xv, hxv, h1⟩ := h1
  refine .pure fun ρ a w hx _ => ?_
  have hca : c.args = #[x] := Array.toList_inj.1 hc2
  have hct : c.argTypes = #[ty] := Array.toList_inj.1 hc3
  rw [ho] at hx
  have hx' := hx x (by simp [Op.operands, Call.operands, hca]) xv hxv
  split at h1
  · rename_i b l cp
    split at h1
    · cases h1
    · cases h1
      have : ∃ b' cp', a.eval x = .slice b' l cp' := by
        cases b with
        | none => exact ⟨_, _, hx'.nslice.1⟩
        | some ad => obtain ⟨pl, a', cap', _, _, _, _, _, _, _, _, e9⟩ := hx'.slice_inv; exact ⟨_, _, e9⟩
      obtain ⟨b', cp', e1⟩ := this
      rcases hd with ⟨h, _⟩ | ⟨_, el, rfl⟩
      · contradiction
      · exact ⟨_, by simp [execOp, ho, resolve, hc1, invoke, builtin, Builtin.len_, hca, hct, e1, run_underlying hu, goInt], .same rfl⟩
  · split at h1
    · cases h1
      rcases hd with ⟨_, rfl⟩ | ⟨h, _⟩
      · exact ⟨_, by simp [execOp, ho, resolve, hc1, invoke, builtin, Builtin.len_, hca, hct, hx'.string, run_underlying hu, goInt], .same rfl⟩
      · simp_all
    · cases h1
  · cases h1

theorem ok_lenArr {x : Operand} {ty : TypeId} {n : Nat} {el : TypeId} (hu : P.underlying ty = some (.array n el))
    {c : Call} (hc1 : c.callee = .builtin .len) (hc2 : c.args.toList = [x]) (hc3 : c.argTypes.toList = [ty]) (ho : o.op = .call c)
    (hr : simpleOp H e (.move (.const (.int .i64 n))) = some (v, H', t, M)) : OpOk P o e H v H' := by
  obtain ⟨h1, rfl, _, _⟩ := pureV_inv hr
  cases h1
  refine .pure fun ρ a w hx _ => ?_
  have hca : c.args = #[x] := Array.toList_inj.1 hc2
  have hct : c.argTypes = #[ty] := Array.toList_inj.1 hc3
  exact ⟨_, by simp [execOp, ho, resolve, hc1, invoke, builtin, Builtin.len_, hca, hct, run_underlying hu, goInt], .same rfl⟩

theorem ok_minmax {mx : Bool} {x y : Operand} {c : Call} (hc1 : c.callee = .builtin (if mx then .max else .min)) (hc2 : c.args.toList = [x, y]) (ho : o.op = .call c)
    (hr : simpleOp H e (.minmax mx x y) = some (v, H', t, M)) : OpOk P o e H v H' := by
  obtain ⟨h1, rfl, _, _⟩ := pureV_inv hr
  simp only [Option.bind_eq_some_iff] at h1
  obtain ⟨xv, hxv, yv, hyv, h1⟩ := h1
  refine .pure fun ρ a w hx _ => ?_
  have hca : c.args = #[x, y] := Array.toList_inj.1 hc2
  rw [ho] at hx
  have hx' := hx x (by simp [Op.operands, Call.operands, hca]) xv hxv
  have hy' := hx y (by simp [Op.operands, Call.operands, hca]) yv hyv
  split at h1
  · split at h1
    · cases h1
      cases mx
      · exact ⟨_, by simp [execOp, ho, resolve, hc1, invoke, builtin, Builtin.min_, Builtin.min2, hca, hx'.int, hy'.int], .same rfl⟩
      · exact ⟨_, by simp [execOp, ho, resolve, hc1, invoke, builtin, Builtin.max_, Builtin.max2, hca, hx'.int, hy'.int], .same rfl⟩
    · cases h1
  · cases h1

/-- The bounds of a slice expression, in the model. -/
theorem natIn_run {x : Option Value} {x' : Option Value} {y dflt r : Nat} {code : BoundsCode} (hx : (x = none ∧ x' = none) ∨ ∃ u u', x = some u ∧ x' = some u' ∧ VRel ρ u u') (h : natIn x y dflt = some r) (w : World) :
    (x = none ∧ x' = none ∧ r = dflt) ∨ ∃ u', x.isSome = true ∧ x' = some u' ∧ r ≤ y ∧ ∀ y', y ≤ y' → (Instr.sliceBound u' y' code).run P w = .ok r w := by
  rcases hx with ⟨rfl, rfl⟩ | ⟨u, u', rfl, rfl, hv⟩
  · simp [natIn] at h; exact .inl ⟨rfl, rfl, h.symm⟩
  · right
    refine ⟨u', rfl, rfl, ?_⟩
    cases u <;> simp only [natIn] at h <;> first | (cases h; done) | skip
    rename_i k i
    split at h
    · rename_i hb
      cases h
      refine ⟨by omega, fun y' hy' => ?_⟩
      have hb' : 0 ≤ i ∧ i ≤ (y' : Int) := by omega
      simp [hv.int, Instr.sliceBound, asIntOf, hb']
    · cases h

/-- The capacity may be more than is known. -/
theorem bounds_run {isSlice : Bool} {len cap cap' : Nat} {lo hi mx lo' hi' mx' : Option Value} {l h m : Nat} (hlo : (lo = none ∧ lo' = none) ∨ ∃ u u', lo = some u ∧ lo' = some u' ∧ VRel ρ u u')
    (hhi : (hi = none ∧ hi' = none) ∨ ∃ u u', hi = some u ∧ hi' = some u' ∧ VRel ρ u u') (hmx : (mx = none ∧ mx' = none) ∨ ∃ u u', mx = some u ∧ mx' = some u' ∧ VRel ρ u u')
    (hcap : cap ≤ cap') (hlen : len ≤ cap) (hb : bounds3 len cap lo hi mx = some (l, h, m)) (w : World) :
    ∃ m', (Instr.sliceBounds isSlice len cap' lo' hi' mx').run P w = .ok (l, h, m') w ∧ l ≤ h ∧ h ≤ m ∧ m ≤ cap ∧ (mx = none ∧ m = cap ∧ m' = cap' ∨ mx.isSome = true ∧ m' = m) := by
  simp only [bounds3, Option.bind_eq_some_iff] at hb
  obtain ⟨m0, hm, h0, hh, l0, hl, hb⟩ := hb
  split at hb
  · cases hb
  rename_i hne
  cases hb
  rcases natIn_run (P := P) (code := if isSlice then .slice3Acap else .slice3Alen) hmx hm w with ⟨rfl, rfl, rfl⟩ | ⟨um, hms, rfl, hmc, hmr⟩
  · rcases natIn_run (P := P) (code := if isSlice then .sliceAcap else .sliceAlen) hhi hh w with ⟨rfl, rfl, rfl⟩ | ⟨uh, hhs, rfl, hhc, hhr⟩
    · rcases natIn_run (P := P) (code := .sliceB) hlo hl w with ⟨rfl, rfl, rfl⟩ | ⟨ul, hls, rfl, hlc, hlr⟩
      · exact ⟨cap', by simp [Instr.sliceBounds], by omega, hlen, Nat.le_refl _, .inl ⟨rfl, rfl, rfl⟩⟩
      · exact ⟨cap', by simp [Instr.sliceBounds, hlr h (Nat.le_refl _)], hlc, hlen, Nat.le_refl _, .inl ⟨rfl, rfl, rfl⟩⟩
    · rcases natIn_run (P := P) (code := .sliceB) hlo hl w with ⟨rfl, rfl, rfl⟩ | ⟨ul, hls, rfl, hlc, hlr⟩
      · exact ⟨cap', by simp [Instr.sliceBounds, hhr cap' hcap], by omega, hhc, Nat.le_refl _, .inl ⟨rfl, rfl, rfl⟩⟩
      · exact ⟨cap', by simp [Instr.sliceBounds, hhr cap' hcap, hlr h (Nat.le_refl _)], hlc, hhc, Nat.le_refl _, .inl ⟨rfl, rfl, rfl⟩⟩
  · rcases natIn_run (P := P) (code := .slice3B) hhi hh w with ⟨rfl, rfl, rfl⟩ | ⟨uh, hhs, rfl, hhc, hhr⟩
    · simp [hms] at hne
    · rcases natIn_run (P := P) (code := .slice3C) hlo hl w with ⟨rfl, rfl, rfl⟩ | ⟨ul, hls, rfl, hlc, hlr⟩
      · exact ⟨m, by simp [Instr.sliceBounds, hmr cap' hcap, hhr m (Nat.le_refl _)], by omega, hhc, hmc, .inr ⟨hms, rfl⟩⟩
      · exact ⟨m, by simp [Instr.sliceBounds, hmr cap' hcap, hhr m (Nat.le_refl _), hlr h (Nat.le_refl _)], hlc, hhc, hmc, .inr ⟨hms, rfl⟩⟩

end
end Go.Ev

/-
  Slice expressions, comparisons, literals.
-/
import Derived.Test.YtaceeoghjgggjaaEvAddr
set_option linter.unusedSimpArgs false
set_option linter.unusedVariables false
namespace Go.Ev
open Go.RowKit

theorem liveAt_inv {H : List Ob} {id : Nat} {ob : Ob} (h : liveAt H id = some ob) : H[id]? = some ob ∧ ob.live = true := by
  simp only [liveAt, Option.bind_eq_some_iff] at h
  obtain ⟨o, h1, h2⟩ := h
  split at h2
  · cases h2; exact ⟨h1, by assumption⟩
  · cases h2

section
variable {P : Program} {o : Oper} {e : Env} {H H' : List Ob} {v : Value} {t : Option (List Nat)} {M : List Nat} {ρ : Pl}

theorem ok_sliceStr {x : Operand} {lo hi : Option Operand} {ty : TypeId} (hu : P.underlying ty = some .string) (ho : o.op = .slice ty x lo hi none)
    (hr : simpleOp H e (.sliceStr x lo hi) = some (v, H', t, M)) : OpOk P o e H v H' := by
  obtain ⟨h1, rfl, _, _⟩ := pureV_inv hr
  simp only [Option.bind_eq_some_iff] at h1
  obtain ⟨xv, hxv, lov, hlo, hiv, hhi, h1⟩ := h1
  refine .pure fun ρ a w hx _ => ?_
  rw [ho] at hx
  have hx' := hx x (by simp [Op.operands]) xv hxv
  have hlo' := opdOpt_rel (hx.of_sub (ys := lo.toList) fun y hy => by simp [Op.operands] at hy ⊢; simp [hy]) hlo
  have hhi' := opdOpt_rel (hx.of_sub (ys := hi.toList) fun y hy => by simp [Op.operands] at hy ⊢; simp [hy]) hhi
  split at h1
  · rename_i s
    simp only [Option.bind_eq_some_iff] at h1
    obtain ⟨⟨l, h, m⟩, hb, h1⟩ := h1
    dsimp only at h1
    cases h1
    obtain ⟨m', hrun, h2, h3, h4, h5⟩ := bounds_run (P := P) (isSlice := false) hlo' hhi' (mx' := none) (.inl ⟨rfl, rfl⟩) (Nat.le_refl _) (Nat.le_refl _) hb w
    exact ⟨_, by simp [execOp, ho, hx'.string, Instr.sliceAt, run_underlying hu, Instr.slice, hrun], .same rfl⟩
  · cases h1

theorem ok_sliceArr {n es : Nat} {x : Operand} {lo hi mx : Option Operand} {ty el : TypeId} (hu : P.underlying ty = some (.array n el)) (hs : sizeT P el = some es) (ho : o.op = .slice ty x lo hi mx)
    (hr : simpleOp H e (.sliceArr n es x lo hi mx) = some (v, H', t, M)) : OpOk P o e H v H' := by
  obtain ⟨h1, rfl, _, _⟩ := pureV_inv hr
  simp only [Option.bind_eq_some_iff] at h1
  obtain ⟨xv, hxv, lov, hlo, hiv, hhi, mxv, hmx, h1⟩ := h1
  refine .pure fun ρ a w hx _ => ?_
  rw [ho] at hx
  have hx' := hx x (by simp [Op.operands]) xv hxv
  have hlo' := opdOpt_rel (hx.of_sub (ys := lo.toList) fun y hy => by simp [Op.operands] at hy ⊢; simp [hy]) hlo
  have hhi' := opdOpt_rel (hx.of_sub (ys := hi.toList) fun y hy => by simp [Op.operands] at hy ⊢; simp [hy]) hhi
  have hmx' := opdOpt_rel (hx.of_sub (ys := mx.toList) fun y hy => by simp [Op.operands] at hy ⊢; simp [hy]) hmx
  split at h1
  · rename_i ad
    simp only [Option.bind_eq_some_iff] at h1
    obtain ⟨⟨l, h, m⟩, hb, h1⟩ := h1
    dsimp only at h1
    cases h1
    obtain ⟨m', hrun, h2, h3, h4, h5⟩ := bounds_run (P := P) (isSlice := false) hlo' hhi' hmx' (Nat.le_refl _) (Nat.le_refl _) hb w
    have hm : m' = m := by rcases h5 with ⟨_, rfl, rfl⟩ | ⟨_, rfl⟩ <;> rfl
    subst hm
    obtain ⟨pl, e1, e2, e3⟩ := hx'.ptr_inv
    have hadd : ad.add (l * es) = ⟨ad.block, ad.off + l * es, none⟩ := by rw [Addr_eta ad e2]; exact add_none _ _ _
    refine ⟨.slice (some (if m' = l then ⟨pl.block, pl.base + ad.off, none⟩ else ⟨pl.block, pl.base + ad.off + l * es, none⟩)) (h - l) (m' - l), ?_, ?_⟩
    · simp [execOp, ho, e3, Instr.sliceAt, run_underlying hu, Instr.sureAddr, hrun, run_sizeT hs, add_none]
    · rw [hadd]
      refine .slice (a := ⟨ad.block, ad.off + l * es, none⟩) (pl := pl) e1 rfl (by split <;> rfl) (by split <;> rfl) ?_ (by omega) (Nat.le_refl _) ?_
      · by_cases c : m' = l
        · exact .inr (by omega)
        · exact .inl (by rw [if_neg c]; simp [Nat.add_assoc])
      · unfold Place.capOk; split <;> first | rfl | exact .inl rfl | trivial
  · cases h1

theorem ok_sliceSl {es : Nat} {x : Operand} {lo hi mx : Option Operand} {ty el : TypeId} (hu : P.underlying ty = some (.slice el)) (hs : sizeT P el = some es) (ho : o.op = .slice ty x lo hi mx)
    (hr : simpleOp H e (.sliceSl es x lo hi mx) = some (v, H', t, M)) : OpOk P o e H v H' := by
  simp only [simpleOp, Option.bind_eq_some_iff] at hr
  obtain ⟨xv, hxv, lov, hlo, hiv, hhi, mxv, hmx, h1⟩ := hr
  intro ρ a w hx hrel hfree
  rw [ho] at hx
  have hx' := hx x (by simp [Op.operands]) xv hxv
  have hlo' := opdOpt_rel (hx.of_sub (ys := lo.toList) fun y hy => by simp [Op.operands] at hy ⊢; simp [hy]) hlo
  have hhi' := opdOpt_rel (hx.of_sub (ys := hi.toList) fun y hy => by simp [Op.operands] at hy ⊢; simp [hy]) hhi
  have hmx' := opdOpt_rel (hx.of_sub (ys := mx.toList) fun y hy => by simp [Op.operands] at hy ⊢; simp [hy]) hmx
  split at h1
  · rename_i ad len cap
    simp only [Option.bind_eq_some_iff] at h1
    obtain ⟨⟨l, h, m⟩, hb, ob, hob, h1⟩ := h1
    dsimp only at h1
    obtain ⟨hob1, hob2⟩ := liveAt_inv hob
    split at h1
    · rename_i hok
      cases h1
      obtain ⟨pl, a', cap', e1, e2, e3, e4, e5, e6, e7, e8, e9⟩ := hx'.slice_inv
      obtain ⟨m', hrun, h2, h3, h4, h5⟩ := bounds_run (P := P) (isSlice := true) hlo' hhi' hmx' e7 e6 hb w
      have hadd : ad.add (l * es) = ⟨ad.block, ad.off + l * es, none⟩ := by rw [Addr_eta ad e2]; exact add_none _ _ _
      have hadd' : a'.add (l * es) = ⟨a'.block, a'.off + l * es, none⟩ := by rw [Addr_eta a' e3]; exact add_none _ _ _
      have hor := hrel.obj _ _ _ hob1 e1 hob2
      refine ⟨.value (.slice (some (if m' = l then a' else a'.add (l * es))) (h - l) (m' - l)), _, w, ρ, ?_, rfl, .refl _ _ _, ?_, hrel, .refl _ _ _ _⟩
      · simp [execOp, ho, e9, Instr.sliceAt, run_underlying hu, Instr.slice, hrun, run_sizeT hs]
        split <;> rfl
      · rw [hadd]
        refine .slice (a := ⟨ad.block, ad.off + l * es, none⟩) (pl := pl) e1 rfl (by split; exact e3; rw [hadd']) (by split; exact e4; rw [hadd']; exact e4) ?_ (by omega) ?_ ?_
        · by_cases c : m' = l
          · exact .inr (by omega)
          · rw [if_neg c, hadd']
            rcases e5 with e5 | e5
            · exact .inl (by simp [e5, Nat.add_assoc])
            · rcases h5 with ⟨_, rfl, rfl⟩ | ⟨_, rfl⟩ <;> exact .inr (by omega)
        · rcases h5 with ⟨_, rfl, rfl⟩ | ⟨_, rfl⟩ <;> omega
        · unfold Place.capOk at e8 ⊢
          split at e8
          · rcases h5 with ⟨_, rfl, rfl⟩ | ⟨_, rfl⟩ <;> omega
          · rename_i hk
            have hes : es ≤ pl.es := by
              have hk' := hor.kind
              rw [hk] at hk'
              rw [hor.es]
              cases ho1 : ob.own <;> cases ho2 : ob.exact <;> simp [ho1, ho2] at hk' hok
              exact hok
            rcases h5 with ⟨_, rfl, rfl⟩ | ⟨_, rfl⟩
            · rcases e8 with e8 | e8
              · exact .inl (by omega)
              · right
                by_cases c : m' = l
                · rw [if_pos c]
                  subst c
                  simp
                  have : a'.off ≤ a'.off + m' * pl.es := Nat.le_add_right _ _
                  omega
                · rw [if_neg c, hadd']
                  simp only
                  have : l * es ≤ l * pl.es := Nat.mul_le_mul_left _ hes
                  have h6 : (m' - l) * pl.es = m' * pl.es - l * pl.es := Nat.sub_mul _ _ _
                  have h7 : l * pl.es ≤ m' * pl.es := Nat.mul_le_mul_right _ (by omega)
                  omega
            · exact .inl rfl
          · trivial
    · cases h1
  · simp only [Option.bind_eq_some_iff] at h1
    obtain ⟨⟨l, h, m⟩, hb, h1⟩ := h1
    cases h1
    obtain ⟨m', hrun, h2, h3, h4, h5⟩ := bounds_run (P := P) (isSlice := true) hlo' hhi' hmx' (Nat.le_refl _) (Nat.le_refl _) hb w
    have hz : l = 0 ∧ h = 0 ∧ m' = 0 := by rcases h5 with ⟨_, rfl, rfl⟩ | ⟨_, rfl⟩ <;> omega
    obtain ⟨rfl, rfl, rfl⟩ := hz
    refine ⟨.value (.slice none 0 0), _, w, ρ, ?_, rfl, .refl _ _ _, .same rfl, hrel, .refl _ _ _ _⟩
    simp [execOp, ho, hx'.nslice.1, Instr.sliceAt, run_underlying hu, Instr.slice, hrun, run_sizeT hs]
  · cases h1

theorem isNilV_inv {k : Nat} {x : Value} {b : Bool} (h : isNilV k x = some b) : (k = 0 ∧ ∃ a, x = .pointer a ∧ b = a.isNone) ∨ (k = 1 ∧ ∃ a n m, x = .slice a n m ∧ b = a.isNone) ∨
    (k = 2 ∧ ((x = .nilFunc ∧ b = true) ∨ ∃ f g c, x = .func f g c ∧ b = false)) ∨ (k = 3 ∧ ((x = .nilIface ∧ b = true) ∨ ∃ f g, x = .iface f g ∧ b = false)) ∨ (k = 4 ∧ ∃ a, x = .map a ∧ b = a.isNone) := by
  unfold isNilV at h
  split at h <;> simp_all

theorem isNil_rel {k : Nat} {x x' : Value} {b : Bool} (h : VRel ρ x x') (hb : isNilV k x = some b) : isNilV k x' = some b := by
  rcases isNilV_inv hb with ⟨rfl, a, rfl, rfl⟩ | ⟨rfl, a, n, m, rfl, rfl⟩ | ⟨rfl, ⟨rfl, rfl⟩ | ⟨f, g, c, rfl, rfl⟩⟩ | ⟨rfl, ⟨rfl, rfl⟩ | ⟨f, g, rfl, rfl⟩⟩ | ⟨rfl, a, rfl, rfl⟩ <;> cases h <;> rfl

theorem nilConst_inv {k : Nat} {y : Value} (hy : isNilConst k (.const y) = true) : (k = 0 ∧ y = .pointer none) ∨ (k = 1 ∧ ∃ n m, y = .slice none n m) ∨ (k = 2 ∧ y = .nilFunc) ∨ (k = 3 ∧ y = .nilIface) ∨ (k = 4 ∧ y = .map none) := by
  unfold isNilConst at hy
  split at hy <;> simp_all

theorem nilKind_inv (d : TypeDesc) : (nilKind d = 0 → ∃ el, d = .pointer el) ∧ (nilKind d = 1 → ∃ el, d = .slice el) ∧ (nilKind d = 2 → ∃ p q r, d = .func p q r) ∧ (nilKind d = 3 → ∃ ms, d = .interface ms) ∧ (nilKind d = 4 → ∃ k el, d = .map k el) := by
  cases d <;> simp [nilKind]

theorem equal_nil {x y : Value} {ty : TypeId} {d : TypeDesc} {b : Bool} (hu : P.underlying ty = some d) (hx : isNilV (nilKind d) x = some b) (hy : isNilConst (nilKind d) (.const y) = true) (w : World) :
    (Op.equal ty x y).run P w = .ok b w := by
  unfold Op.equal Op.maxDepth
  rw [Op.equalIn]
  simp only [Sem.run_bind, run_underlying hu, Result.andThen_ok]
  obtain ⟨k0, k1, k2, k3, k4⟩ := nilKind_inv d
  rcases isNilV_inv hx with ⟨hk, a, rfl, rfl⟩ | ⟨hk, a, n, m, rfl, rfl⟩ | ⟨hk, h⟩ | ⟨hk, h⟩ | ⟨hk, a, rfl, rfl⟩
  · obtain ⟨el, rfl⟩ := k0 hk
    rcases nilConst_inv hy with ⟨_, rfl⟩ | ⟨h, _⟩ | ⟨h, _⟩ | ⟨h, _⟩ | ⟨h, _⟩ <;> first | (cases a <;> rfl) | simp [nilKind] at h
  · obtain ⟨el, rfl⟩ := k1 hk
    rcases nilConst_inv hy with ⟨h, _⟩ | ⟨_, n', m', rfl⟩ | ⟨h, _⟩ | ⟨h, _⟩ | ⟨h, _⟩ <;> first | (cases a <;> rfl) | simp [nilKind] at h
  · obtain ⟨p, q, r, rfl⟩ := k2 hk
    rcases nilConst_inv hy with ⟨h', _⟩ | ⟨h', _⟩ | ⟨_, rfl⟩ | ⟨h', _⟩ | ⟨h', _⟩ <;> first | (rcases h with ⟨rfl, rfl⟩ | ⟨f, g, c, rfl, rfl⟩ <;> rfl) | simp [nilKind] at h'
  · obtain ⟨ms, rfl⟩ := k3 hk
    rcases nilConst_inv hy with ⟨h', _⟩ | ⟨h', _⟩ | ⟨h', _⟩ | ⟨_, rfl⟩ | ⟨h', _⟩ <;> first | (rcases h with ⟨rfl, rfl⟩ | ⟨f, g, rfl, rfl⟩ <;> rfl) | simp [nilKind] at h'
  · obtain ⟨kk, el, rfl⟩ := k4 hk
    rcases nilConst_inv hy with ⟨h, _⟩ | ⟨h, _⟩ | ⟨h, _⟩ | ⟨h, _⟩ | ⟨_, rfl⟩ <;> first | (cases a <;> rfl) | simp [nilKind] at h

theorem isNil_notInt {k : Nat} {x : Value} {b : Bool} (hx : isNilV k x = some b) : (∀ kk n, x ≠ .int kk n) ∧ (∀ s, x ≠ .string s) ∧ (∀ f s, x ≠ .float f s) ∧ (∀ f s u, x ≠ .complex f s u) ∧ (∀ cs, x ≠ .agg cs) := by
  unfold isNilV at hx
  split at hx <;> simp_all

theorem nilConst_eval {k : Nat} {y : Operand} (hy : isNilConst k y = true) : ∃ u, y = .const u := by
  unfold isNilConst at hy
  split at hy <;> simp at hy <;> exact ⟨_, rfl⟩

theorem binOp_eql {x y : Value} {ty : TypeId} {k : Nat} {b : Bool} {w : World} (hx : isNilV k x = some b) (h : (Op.equal ty x y).run P w = .ok b w) : (binOp .eql ty x y).run P w = .ok (.bool b) w := by
  obtain ⟨h1, h2, h3, h4, h5⟩ := isNil_notInt hx
  cases x <;> first | exact absurd rfl (h1 _ _) | exact absurd rfl (h2 _) | exact absurd rfl (h3 _ _) | exact absurd rfl (h4 _ _ _) | (simp [binOp, h])

theorem binOp_neq {x y : Value} {ty : TypeId} {k : Nat} {b : Bool} {w : World} (hx : isNilV k x = some b) (h : (Op.equal ty x y).run P w = .ok b w) : (binOp .neq ty x y).run P w = .ok (.bool !b) w := by
  obtain ⟨h1, h2, h3, h4, h5⟩ := isNil_notInt hx
  cases x <;> first | exact absurd rfl (h1 _ _) | exact absurd rfl (h2 _) | exact absurd rfl (h3 _ _) | exact absurd rfl (h4 _ _ _) | (simp [binOp, h])

theorem eqGuard_const {op : BinOp} {x : Operand} {u v : Value} {ty : TypeId} (hv : ∀ cs, v ≠ .agg cs) (w : World) : (eqGuard op ty x (.const u) v u).run P w = .ok () w := by
  cases v with
  | agg cs => exact absurd rfl (hv _)
  | nilIface => cases u <;> cases op <;> simp [eqGuard]
  | _ => cases op <;> simp [eqGuard]

theorem ok_isNil {op : BinOp} {x y : Operand} {ty yt : TypeId} {d : TypeDesc} (hop : op = .eql ∨ op = .neq) (hu : P.underlying ty = some d) (hy : isNilConst (nilKind d) y = true)
    (ho : o.op = .binOp op ty x y yt) (hr : simpleOp H e (.isNil (nilKind d) (op == .neq) x) = some (v, H', t, M)) : OpOk P o e H v H' := by
  obtain ⟨h1, rfl, _, _⟩ := pureV_inv hr
  simp only [Option.bind_eq_some_iff] at h1
  obtain ⟨xv, hxv, b, hb, h1⟩ := h1
  cases h1
  obtain ⟨u, rfl⟩ := nilConst_eval hy
  refine .pure fun ρ a w hx _ => ?_
  rw [ho] at hx
  have hx' := hx x (by simp [Op.operands]) xv hxv
  have hb' := isNil_rel hx' hb
  have he := equal_nil (P := P) hu hb' hy w
  refine ⟨_, ?_, .same rfl⟩
  have hg := eqGuard_const (P := P) (op := op) (x := x) (u := u) (ty := ty) (isNil_notInt hb').2.2.2.2 w
  have heu : a.eval (.const u) = u := rfl
  rcases hop with rfl | rfl
  · simp only [execOp, ho, heu, Sem.run_bind, hg, Result.andThen_ok, binOp_eql hb' he, Sem.run_pure]; rfl
  · simp only [execOp, ho, heu, Sem.run_bind, hg, Result.andThen_ok, binOp_neq hb' he, Sem.run_pure]; rfl

end
end Go.Ev

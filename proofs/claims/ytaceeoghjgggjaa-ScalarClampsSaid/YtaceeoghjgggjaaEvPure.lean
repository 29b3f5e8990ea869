/-
  The operations that leave memory alone.
-/
import Derived.Test.YtaceeoghjgggjaaEvOps
set_option linter.unusedSimpArgs false
set_option linter.unusedVariables false
namespace Go.Ev
open Go.RowKit

theorem pureV_inv {H H' : List Ob} {r : Option Value} {v : Value} {t : Option (List Nat)} {M : List Nat} (h : pureV H r = some (v, H', t, M)) : r = some v ∧ H' = H ∧ t = some [] ∧ M = [] := by
  cases r with
  | none => simp [pureV] at h
  | some u => simp [pureV] at h; obtain ⟨rfl, rfl, rfl, rfl⟩ := h; simp

theorem VRel.bool {ρ : Pl} {b : Bool} {v : Value} (h : VRel ρ (.bool b) v) : v = .bool b := h.of_scalar rfl
theorem VRel.int {ρ : Pl} {k : IntKind} {n : Int} {v : Value} (h : VRel ρ (.int k n) v) : v = .int k n := h.of_scalar rfl
theorem VRel.string {ρ : Pl} {s : ByteArray} {v : Value} (h : VRel ρ (.string s) v) : v = .string s := h.of_scalar rfl
theorem VRel.ptr_inv {ρ : Pl} {a : Addr} {v : Value} (h : VRel ρ (.pointer (some a)) v) : ∃ pl, ρ a.block = some pl ∧ a.spot = none ∧ v = .pointer (some ⟨pl.block, pl.base + a.off, none⟩) := by
  cases h with
  | same h => simp [scalarRf] at h
  | ptr h k => exact ⟨_, h, k, rfl⟩
theorem VRel.slice_inv {ρ : Pl} {a : Addr} {len cap : Nat} {v : Value} (h : VRel ρ (.slice (some a) len cap) v) : ∃ pl a' cap', ρ a.block = some pl ∧ a.spot = none ∧ a'.spot = none ∧ a'.block = pl.block ∧
    (a'.off = pl.base + a.off ∨ cap' = 0) ∧ len ≤ cap ∧ cap ≤ cap' ∧ pl.capOk a'.off cap cap' ∧ v = .slice (some a') len cap' := by
  cases h with
  | same h => simp [scalarRf] at h
  | slice a b c d e f g i => exact ⟨_, _, _, a, b, c, d, e, f, g, i, rfl⟩
theorem VRel.nslice {ρ : Pl} {len cap : Nat} {v : Value} (h : VRel ρ (.slice none len cap) v) : v = .slice none len cap ∧ len = 0 ∧ cap = 0 := by
  cases h with
  | same h => simp [scalarRf] at h; exact ⟨rfl, h.1, h.2⟩
theorem VRel.agg_inv {ρ : Pl} {cs : Array Value} {v : Value} (h : VRel ρ (.agg cs) v) : ∃ cs', v = .agg cs' ∧ LRel ρ cs.toList cs'.toList ∧ ∀ x ∈ cs.toList, oneCellB x = true := by
  cases h with
  | same h => simp [scalarRf] at h
  | agg a b => exact ⟨_, rfl, a, b⟩
theorem VRel.tuple_inv {ρ : Pl} {cs : Array Value} {v : Value} (h : VRel ρ (.tuple cs) v) : ∃ cs', v = .tuple cs' ∧ LRel ρ cs.toList cs'.toList := by
  cases h with
  | same h => simp [scalarRf] at h
  | tuple a => exact ⟨_, rfl, a⟩

section
variable {P : Program} {o : Oper} {e : Env} {H H' : List Ob} {v : Value} {t : Option (List Nat)} {M : List Nat}

theorem ok_move {x : Operand} (ho : o.op = .move x ∨ o.op = .assign x) (hr : simpleOp H e (.move x) = some (v, H', t, M)) : OpOk P o e H v H' := by
  obtain ⟨h1, rfl, _, _⟩ := pureV_inv hr
  refine .pure fun ρ a w hx _ => ⟨a.eval x, ?_, ?_⟩
  · rcases ho with ho | ho <;> simp [execOp, ho]
  · refine hx x ?_ v h1
    rcases ho with ho | ho <;> simp [ho, Op.operands]

theorem ok_pick {c x y : Operand} (ho : o.op = .pick c x y) (hr : simpleOp H e (.pick c x y) = some (v, H', t, M)) : OpOk P o e H v H' := by
  obtain ⟨h1, rfl, _, _⟩ := pureV_inv hr
  simp only [Option.bind_eq_some_iff] at h1
  obtain ⟨cv, hc, xv, hxv, yv, hyv, h1⟩ := h1
  refine .pure fun ρ a w hx _ => ?_
  rw [ho] at hx
  have hc' := hx c (by simp [Op.operands]) cv hc
  have hx' := hx x (by simp [Op.operands]) xv hxv
  have hy' := hx y (by simp [Op.operands]) yv hyv
  split at h1
  · rename_i b
    have := hc'.bool
    cases h1
    refine ⟨if b then a.eval x else a.eval y, by simp [execOp, ho, this, asBool], ?_⟩
    cases b <;> simpa
  · cases h1

theorem stringOp_add {x y : ByteArray} (h : x.size + y.size ≤ 2 ^ 47) : (Op.stringOp .add x y) = pure (.string (x ++ y)) := by
  have h' : ¬ (((x.size + y.size : Nat) : Int) > IntKind.i64.max) := by
    have : IntKind.i64.max = 9223372036854775807 := by decide
    rw [this]; omega
  unfold Op.stringOp
  simp only [h', if_false]

theorem bin_run {op : BinOp} {x y r : Value} (h : binV op x y = some r) (w : World) (t : TypeId) : (binOp op t x y).run P w = .ok r w := by
  unfold binV at h
  split at h
  · rename_i k a k' b
    split at h
    · simp only [shiftOp] at h
      split at h
      · cases h
      · rename_i hn; cases h; simp [binOp, Op.shift, hn]
    · simp only [shiftOp] at h
      split at h
      · cases h
      · rename_i hn; cases h; simp [binOp, Op.shift, hn]
    · rename_i n1 n2
      split at h
      · rename_i hk
        subst hk
        cases op <;> simp only [intBin] at h <;> first
          | (cases h; done)
          | (exact absurd rfl n1)
          | (exact absurd rfl n2)
          | (cases h; simp [binOp, Op.intArith]; done)
          | (cases h; simp [binOp, Op.intBits, bitsOp]; done)
          | (cases h; simp [binOp, Op.intCmp]; done)
          | (split at h
             · cases h
             · rename_i hz; cases h; simp [binOp, Op.intDiv, hz])
      · cases h
  · rename_i a b
    cases op <;> simp only [strBin] at h <;> first
      | (cases h; done)
      | (cases h; simp [binOp, Op.stringOp]; done)
      | (split at h
         · rename_i hz; cases h; simp [binOp, stringOp_add hz]
         · cases h)
  · cases h

theorem eqGuard_bin {op : BinOp} {x y r : Value} (h : binV op x y = some r) (w : World) (t : TypeId) (p q : Operand) : (eqGuard op t p q x y).run P w = .ok () w := by
  unfold binV at h
  unfold eqGuard
  split at h
  · by_cases hc : (!(op matches .eql | .neq)) = true
    · simp [hc]
    · simp [hc]
  · by_cases hc : (!(op matches .eql | .neq)) = true
    · simp [hc]
    · simp [hc]
  · cases h

theorem ok_bin {op : BinOp} {x y : Operand} {ty yt : TypeId} (ho : o.op = .binOp op ty x y yt) (hr : simpleOp H e (.bin op x y) = some (v, H', t, M)) : OpOk P o e H v H' := by
  obtain ⟨h1, rfl, _, _⟩ := pureV_inv hr
  simp only [Option.bind_eq_some_iff] at h1
  obtain ⟨xv, hxv, yv, hyv, h1⟩ := h1
  refine .pure fun ρ a w hx _ => ?_
  rw [ho] at hx
  have hx' := hx x (by simp [Op.operands]) xv hxv
  have hy' := hx y (by simp [Op.operands]) yv hyv
  have hs : scalarRf xv = true ∧ scalarRf yv = true ∧ scalarRf v = true := by
    have h2 := h1
    unfold binV at h2
    split at h2
    · refine ⟨rfl, rfl, ?_⟩
      split at h2
      · simp only [shiftOp] at h2; split at h2 <;> cases h2; rfl
      · simp only [shiftOp] at h2; split at h2 <;> cases h2; rfl
      · split at h2
        · cases op <;> simp only [intBin] at h2 <;> first | (cases h2; done) | (cases h2; rfl) | (split at h2 <;> cases h2; rfl)
        · cases h2
    · refine ⟨rfl, rfl, ?_⟩
      cases op <;> simp only [strBin] at h2 <;> first | (cases h2; done) | (cases h2; rfl) | (split at h2 <;> cases h2; rfl)
    · cases h2
  refine ⟨v, ?_, .same hs.2.2⟩
  simp [execOp, ho, VRel.of_scalar hs.1 hx', VRel.of_scalar hs.2.1 hy', eqGuard_bin h1 w ty x y, bin_run h1 w ty]

theorem ok_un {op : UnOp} {x : Operand} {ty : TypeId} (ho : o.op = .unOp op ty x) (hr : simpleOp H e (.un op x) = some (v, H', t, M)) : OpOk P o e H v H' := by
  obtain ⟨h1, rfl, _, _⟩ := pureV_inv hr
  simp only [Option.bind_eq_some_iff] at h1
  obtain ⟨xv, hxv, h1⟩ := h1
  refine .pure fun ρ a w hx _ => ?_
  rw [ho] at hx
  have hx' := hx x (by simp [Op.operands]) xv hxv
  unfold unV at h1
  split at h1
  · cases h1; exact ⟨_, by simp [execOp, ho, hx'.int, Op.unary, Op.intArith], .same rfl⟩
  · cases h1; exact ⟨_, by simp [execOp, ho, hx'.int, Op.unary, Op.intBits, bitsOp], .same rfl⟩
  · cases h1; exact ⟨_, by simp [execOp, ho, hx'.bool, Op.unary], .same rfl⟩
  · cases h1

theorem ok_conv {k : IntKind} {x : Operand} {s d : TypeId} {ks : IntKind} (hs : P.underlying s = some (.int ks)) (hd : P.underlying d = some (.int k)) (ho : o.op = .convert s d x)
    (hr : simpleOp H e (.conv k x) = some (v, H', t, M)) : OpOk P o e H v H' := by
  obtain ⟨h1, rfl, _, _⟩ := pureV_inv hr
  simp only [Option.bind_eq_some_iff] at h1
  obtain ⟨xv, hxv, h1⟩ := h1
  refine .pure fun ρ a w hx _ => ?_
  rw [ho] at hx
  have hx' := hx x (by simp [Op.operands]) xv hxv
  split at h1
  · cases h1
    exact ⟨_, by simp [execOp, ho, hx'.int, convert, run_underlying hs, run_underlying hd, Conv.intToInt], .same rfl⟩
  · cases h1

theorem ok_convStr {x : Operand} {s d : TypeId} (hs : P.underlying s = some .string) (hd : P.underlying d = some .string) (ho : o.op = .convert s d x)
    (hr : simpleOp H e (.convStr x) = some (v, H', t, M)) : OpOk P o e H v H' := by
  obtain ⟨h1, rfl, _, _⟩ := pureV_inv hr
  simp only [Option.bind_eq_some_iff] at h1
  obtain ⟨xv, hxv, h1⟩ := h1
  refine .pure fun ρ a w hx _ => ?_
  rw [ho] at hx
  have hx' := hx x (by simp [Op.operands]) xv hxv
  split at h1
  · cases h1
    exact ⟨_, by simp [execOp, ho, hx'.string, convert, run_underlying hs, run_underlying hd], .same rfl⟩
  · cases h1

theorem ok_extract {x : Operand} {i : Nat} (ho : o.op = .extract x i) (hr : simpleOp H e (.extract x i) = some (v, H', t, M)) : OpOk P o e H v H' := by
  obtain ⟨h1, rfl, _, _⟩ := pureV_inv hr
  simp only [Option.bind_eq_some_iff] at h1
  obtain ⟨xv, hxv, h1⟩ := h1
  refine .pure fun ρ a w hx _ => ?_
  rw [ho] at hx
  have hx' := hx x (by simp [Op.operands]) xv hxv
  split at h1
  · obtain ⟨cs', e1, e2⟩ := hx'.tuple_inv
    obtain ⟨v', e3, e4⟩ := e2.get h1
    refine ⟨v', ?_, e4⟩
    have e5 : cs'[i]? = some v' := by simpa using e3
    simp [execOp, ho, e1, Instr.extract, e5]
  · cases h1

theorem ok_mkIface {x : Operand} {ty : TypeId} {d : TypeDesc} (hu : P.underlying ty = some d) (hn : ∀ ms, d ≠ .interface ms) (ho : o.op = .makeInterface ty x)
    (hr : simpleOp H e (.mkIface ty x) = some (v, H', t, M)) : OpOk P o e H v H' := by
  obtain ⟨h1, rfl, _, _⟩ := pureV_inv hr
  simp only [Option.bind_eq_some_iff] at h1
  obtain ⟨xv, hxv, h1⟩ := h1
  cases h1
  refine .pure fun ρ a w hx _ => ?_
  rw [ho] at hx
  have hx' := hx x (by simp [Op.operands]) xv hxv
  refine ⟨_, ?_, .iface hx'⟩
  simp only [execOp, ho, Instr.makeInterface, Sem.run_bind, run_underlying hu, Result.andThen_ok]
  cases d <;> first | rfl | exact absurd rfl (hn _)

theorem ok_mkFunc {fn : Fn} {f c : Array Operand} (ho : o.op = .makeFunc fn f c) (hr : simpleOp H e (.mkFunc fn f.toList c.toList) = some (v, H', t, M)) : OpOk P o e H v H' := by
  obtain ⟨h1, rfl, _, _⟩ := pureV_inv hr
  simp only [Option.bind_eq_some_iff, Option.some.injEq] at h1
  obtain ⟨fv, hf, cv, hc, rfl⟩ := h1
  refine .pure fun ρ a w hx _ => ?_
  rw [ho] at hx
  have h2 := opds_rel (hx.of_sub (ys := f.toList) fun y hy => by simp only [Op.operands, Array.toList_append, List.mem_append]; exact .inl hy) hf
  have h3 := opds_rel (hx.of_sub (ys := c.toList) fun y hy => by simp only [Op.operands, Array.toList_append, List.mem_append]; exact .inr hy) hc
  have e1 : f.map a.eval = (f.toList.map a.eval).toArray := by apply Array.toList_inj.1; rw [Array.toList_map]
  have e2 : c.map a.eval = (c.toList.map a.eval).toArray := by apply Array.toList_inj.1; rw [Array.toList_map]
  refine ⟨_, ?_, .func h2 h3⟩
  simp only [execOp, ho, Instr.makeFunc, e1, e2]; rfl

theorem ok_nilCheck {x : Operand} (ho : o.op = .nilCheck x) (hr : simpleOp H e (.nilCheck x) = some (v, H', t, M)) : OpOk P o e H v H' := by
  obtain ⟨h1, rfl, _, _⟩ := pureV_inv hr
  simp only [Option.bind_eq_some_iff] at h1
  obtain ⟨xv, hxv, h1⟩ := h1
  refine .pure fun ρ a w hx _ => ?_
  rw [ho] at hx
  have hx' := hx x (by simp [Op.operands]) xv hxv
  split at h1
  · cases h1
    obtain ⟨pl, e1, e2, e3⟩ := hx'.ptr_inv
    exact ⟨_, by simp [execOp, ho, e3], .ptr e1 e2⟩
  · cases h1

end
end Go.Ev

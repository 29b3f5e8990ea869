/-
  From the model's code to the evaluator's: types are looked up, orders that are open are listed as pairs.
-/
import Derived.Test.YtaceeoghjgggjaaEvCore
set_option linter.unusedSimpArgs false
set_option linter.unusedVariables false
namespace Go.Ev

def sizeT (P : Program) (t : TypeId) : Option Nat := (P.info? t).map (·.size)
def bytesT (P : Program) (t : TypeId) : Option Nat := (P.info? t).map (·.bytes)
def zeroT (P : Program) (t : TypeId) : Option (List Value) := ((P.info? t).bind (·.zero)).bind fun v => if v.cells.toList.all scalarRf then some v.cells.toList else none
def aggT (P : Program) (t : TypeId) : Option (Option Nat) :=
  match P.underlying t with
  | some (.struct _) | some (.array _ _) => (sizeT P t).map some
  | some _ => some none
  | none => none

def fieldKinds (P : Program) (pe : TypeId → Option (List Bool)) : Nat → List Field → Option (List Bool)
  | _, [] => some []
  | off, f :: fs => if f.offset = off ∧ f.name ≠ "_" then (pe f.type).bind fun ks => (fieldKinds P pe (off + ks.length) fs).map fun l => ks ++ l else none

/-- Types whose values are compared cell by cell: numbers, bools, and arrays and structs of those: which of the cells are numbers. -/
def kindsT (P : Program) : Nat → TypeId → Option (List Bool)
  | 0, _ => none
  | d + 1, t => (match P.underlying t with
    | some (.int _) => some [true]
    | some .bool => some [false]
    | some (.array n e) => (kindsT P d e).map fun ks => (List.replicate n ks).flatten
    | some (.struct fs) => if P.stoodInHeld t then none else fieldKinds P (kindsT P d) 0 fs.toList
    | _ => none).bind fun ks => if sizeT P t = some ks.length then some ks else none

/-- Types whose values hold no address. -/
def noRefs (P : Program) : Nat → TypeId → Bool
  | 0, _ => false
  | d + 1, t => match P.underlying t with
    | some (.int _) | some .bool | some .string => true
    | some (.array _ e) => noRefs P d e
    | some (.struct fs) => fs.toList.all fun f => noRefs P d f.type
    | _ => false

def compParts (place : Nat → Option (Nat × Nat)) : List (Nat × Operand) → Option (List (Nat × Nat × Operand))
  | [] => some []
  | (i, x) :: r => (place i).bind fun (o, n) => (compParts place r).map fun l => (o, n, x) :: l

def isNilConst : Nat → Operand → Bool
  | 0, .const (.pointer none) | 1, .const (.slice none _ _) | 2, .const .nilFunc | 3, .const .nilIface | 4, .const (.map none) => true
  | _, _ => false
def nilKind : TypeDesc → Nat
  | .pointer _ => 0 | .slice _ => 1 | .func .. => 2 | .interface _ => 3 | .map .. => 4 | _ => 5

def okConst : Operand → Bool
  | .const v => rf v && (match v with | .agg cs => cs.toList.all oneCellB | .tuple _ => false | _ => true)
  | .global _ => false
  | _ => true

def compOp (P : Program) (o : Oper) : Option AOp :=
  match o.op with
  | .move x | .assign x => some (.move x)
  | .pick c a b => some (.pick c a b)
  | .alloc t => (zeroT P t).map .alloc
  | .box _ x => some (.box x)
  | .load t a => (aggT P t).map fun n => .load n a
  | .store t a v => (sizeT P t).map fun n => .store n a v
  | .nilCheck x => some (.nilCheck x)
  | .binOp op t x y _ =>
    match op with
    | .eql | .neq =>
      match P.underlying t with
      | some (.int _) | some .string => some (.bin op x y)
      | some .bool => some (.eqv none (op == .neq) x y)
      | some (.array ..) | some (.struct _) => if P.eqGuardType P.depth t then none else (kindsT P 20 t).map fun ks => .eqv (some ks) (op == .neq) x y
      | some d => if isNilConst (nilKind d) y then some (.isNil (nilKind d) (op == .neq) x) else none
      | _ => none
    | _ => some (.bin op x y)
  | .unOp op _ x => some (.un op x)
  | .convert s t x =>
    match P.underlying s, P.underlying t with
    | some (.int _), some (.int k) => some (.conv k x)
    | some .string, some .string => some (.convStr x)
    | some .string, some (.slice e) => if P.underlying e matches some (.int .u8) then some (.s2b x) else none
    | some (.slice e), some .string => if P.underlying e matches some (.int .u8) then some (.b2s x) else none
    | _, _ => none
  | .makeInterface t x => if P.underlying t matches some (.interface _) then none else if (P.underlying t).isSome then some (.mkIface t x) else none
  | .makeFunc fn f c => some (.mkFunc fn f.toList c.toList)
  | .makeSlice t l c =>
    match P.underlying t with
    | some (.slice e) => (zeroT P e).bind fun z => (bytesT P e).bind fun b => if sizeT P e = some z.length then some (.makeSlice z b l c) else none
    | _ => none
  | .slice t x lo hi mx =>
    match P.underlying t with
    | some (.array n e) => (sizeT P e).map fun s => .sliceArr n s x lo hi mx
    | some (.slice e) => (sizeT P e).map fun s => .sliceSl s x lo hi mx
    | some .string => if mx.isNone then some (.sliceStr x lo hi) else none
    | _ => none
  | .fieldAddr s x f =>
    match P.underlying s with
    | some (.struct fs) => (fs[f]?).bind fun f => (sizeT P f.type).bind fun n => if n = 0 then none else some (.fieldAddr f.offset x)
    | _ => none
  | .field s x f =>
    match P.underlying s with
    | some (.struct fs) => (fs[f]?).bind fun f => (aggT P f.type).map fun n => .field n f.offset x
    | _ => none
  | .indexAddr t x i =>
    match P.underlying t with
    | some (.array n e) => (sizeT P e).map fun s => .indexAddr n s x i
    | some (.slice e) => (sizeT P e).map fun s => .indexSl s x i
    | _ => none
  | .index t x i =>
    match P.underlying t with
    | some (.array n e) => (sizeT P e).bind fun s => (aggT P e).map fun m => .index m n s x i
    | some .string => some (.indexStr x i)
    | _ => none
  | .build t ps =>
    match P.underlying t with
    | some (.struct fs) => if fs.toList.all (fun f => (sizeT P f.type).isSome) then (zeroT P t).bind fun z => (compParts (fun i => (fs[i]?).bind fun f => (sizeT P f.type).map fun n => (f.offset, n)) ps.toList).map fun l => .build z l else none
    | some (.array _ e) => (zeroT P t).bind fun z => (sizeT P e).bind fun s => (compParts (fun i => some (i * s, s)) ps.toList).map fun l => .build z l
    | _ => none
  | .buildSlice t len ps =>
    match P.underlying t with
    | some (.slice e) => (zeroT P e).bind fun z => (sizeT P e).bind fun s =>
        if len * s ≤ 2 ^ 24 ∧ 0 < s ∧ z.length = s then (compParts (fun i => some (i * s, s)) ps.toList).map fun l => .buildSlice (List.replicate len z).flatten len l else none
    | _ => none
  | .extract x i => some (.extract x i)
  | .sliceToArrayPointer t x =>
    match P.underlying t with
    | some (.array n _) => if 0 < n then some (.s2ap n x) else none
    | _ => none
  | .call c =>
    match c.callee with
    | .value (.func f) => some (.call f c.args.toList (match P.funcs[f]? with
        | some fn => fn.params.all (noRefs P 20) && fn.resultTypes.all (noRefs P 20) && fn.nfree == 0 && fn.params.size == c.args.size
        | none => false))
    | .value x => some (.callv x c.args.toList)
    | .builtin .append =>
      match c.args.toList, c.argTypes.toList with
      | [s, x], [ts, tx] => match P.underlying ts, P.underlying tx with
        | some (.slice e), some (.slice _) | some (.slice e), some .string => (zeroT P e).bind fun z => (bytesT P e).bind fun b => if sizeT P e = some z.length then some (.append z.length b s x) else none
        | _, _ => none
      | _, _ => none
    | .builtin .copy =>
      match c.args.toList, c.argTypes.toList with
      | [d, s], td :: _ => match P.underlying td with
        | some (.slice e) => (sizeT P e).map fun n => .copy n d s
        | _ => none
      | _, _ => none
    | .builtin .len =>
      match c.args.toList, c.argTypes.toList with
      | [x], [t] => match P.underlying t with
        | some (.array n _) => some (.move (.const (.int .i64 n)))
        | some .string => some (.len true x)
        | some (.slice _) => some (.len false x)
        | _ => none
      | _, _ => none
    | .builtin .min => match c.args.toList with | [x, y] => some (.minmax false x y) | _ => none
    | .builtin .max => match c.args.toList with | [x, y] => some (.minmax true x y) | _ => none
    | _ => none
  | _ => none

/-- What stands ahead of an operation, transitively: as bits. -/
def upOf (acc : List Nat) (es : List Edge) : Nat :=
  es.foldl (fun u e => if Region.binds .any e then u ||| (2 ^ e.on ||| acc.getD e.on 0) else u) 0
def upsOf (ops : List Oper) : List Nat :=
  ops.foldl (init := []) fun acc o => acc ++ [upOf acc o.after.toList]

def tmpsOf (l : List Operand) : List Nat := l.filterMap fun | .tmp t => some t | _ => none
/-- The slots that an operation names; of a guard the slot of the operation that it asks. -/
def namesOf (ops : List Oper) (o : Oper) : List Nat :=
  tmpsOf o.op.operands.toList ++ (match o.guard with | some (g, _) => ((ops[g]?).bind (·.dst)).toList | none => [])

/-- May an operation touch memory? -/
def AOp.free : AOp → Bool
  | .load .. | .store .. | .sliceSl .. | .call _ _ false | .callv .. | .append .. | .copy .. | .b2s .. => false
  | _ => true
/-- May an operation change memory that was there? -/
def AOp.quiet : AOp → Bool
  | .store .. | .call _ _ false | .callv .. | .append .. | .copy .. => false
  | _ => true

def idx {α : Type} (l : List α) : List (Nat × α) := (List.range l.length).zip l

/-- Pairs i < j whose order is open. -/
def openPairs (ups : List Nat) : List (Nat × Nat) :=
  (idx ups).flatMap fun (j, u) => ((List.range j).filter fun i => !u.testBit i).map fun i => (i, j)

def slotsOk (ops : List Oper) (prs : List (Nat × Nat)) : Bool :=
  prs.all fun (i, j) => match ops[i]?, ops[j]? with
    | some a, some b => (match a.dst with | some d => !(namesOf ops b).contains d && b.dst != some d | none => true) &&
        (match b.dst with | some d => !(namesOf ops a).contains d | none => true)
    | _, _ => false

def compGuard (ops : List Oper) : Option (Nat × Bool) → Option (Option (Nat × Bool))
  | none => some none
  | some (g, want) => ((ops[g]?).bind (·.dst)).map fun t => some (t, want)

def compOpers (P : Program) (n : Nat) (all : List Oper) : List Oper → Option (List AOper)
  | [] => some []
  | o :: r => if o.op.operands.toList.all okConst && o.dst.all (fun d => decide (d < n)) then (compOp P o).bind fun a => (compGuard all o.guard).bind fun g => (compOpers P n all r).map fun l => ⟨o.dst, a, g⟩ :: l else none

def backEdges (ops : List Oper) : Bool :=
  (idx ops).all fun (j, o) => o.after.toList.all fun e => !Region.binds .any e || decide (e.on < j)

def memPairs (l : List AOper) (prs : List (Nat × Nat)) : List (Nat × Nat) :=
  prs.filter fun (i, j) => match l[i]?, l[j]? with
    | some a, some b => !(a.op.free || b.op.free || (a.op.quiet && b.op.quiet))
    | _, _ => true

def comp (P : Program) (n : Nat) : Code → Option ACode
  | .skip => some .skip
  | .region _ ops draw => (compOpers P n ops.toList ops.toList).bind fun l =>
      if draw then
        let prs := openPairs (upsOf ops.toList)
        if backEdges ops.toList && slotsOk ops.toList prs then some (.region l none (memPairs l prs)) else none
      else some (.region l none [])
  | .seq a b => (comp P n a).bind fun x => (comp P n b).map fun y => .seq x y
  | .cond c a b => if okConst c then (comp P n a).bind fun x => (comp P n b).map fun y => .cond c x y else none
  | .block id b => (comp P n b).map fun x => .block id x
  | .loop b => (comp P n b).map fun x => .loop x
  | .exit id => some (.exit id)
  | .ret => some .ret
  | _ => none

def compFun (P : Program) (fn : Func) : Option AFun :=
  fn.body.bind fun c => (comp P fn.ntmps c).bind fun a =>
    ((fn.results.toList.mapM fun
      | .tmp t => some (t, none)
      | .cell t ty => (aggT P ty).map fun n => (t, some n)) : Option (List (Nat × Option (Option Nat)))).map fun rs => ⟨a, rs⟩

/-- Without its notes on what is kept. -/
def ACode.strip : ACode → ACode
  | .region ops _ prs => .region ops none prs
  | .seq a b => .seq a.strip b.strip
  | .cond c a b => .cond c a.strip b.strip
  | .block id b => .block id b.strip
  | .loop b => .loop b.strip
  | c => c
def AFun.strip (f : AFun) : AFun := ⟨f.body.strip, f.results⟩

end Go.Ev

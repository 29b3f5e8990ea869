/-
  The abstract evaluator: a deterministic reading of the model's code over a small heap of objects.
-/
import Derived.Orders
import Derived.KernelRfl
set_option linter.unusedSimpArgs false
set_option linter.unusedVariables false
namespace Go.Ev

/-- An object: a row of cells. own: the call's own; exact: the block ends where the cells end; es: cells of an element of a row that may have grown. -/
structure Ob where
  cells : List Value
  live : Bool
  own : Bool
  exact : Bool
  es : Nat
  deriving Inhabited

def Ob.fresh (cells : List Value) : Ob := ⟨cells, true, true, true, 1⟩
def Ob.grown (es : Nat) (cells : List Value) : Ob := ⟨cells, true, true, false, es⟩
def Ob.dead : Ob := ⟨[], false, false, true, 1⟩

abbrev Env := List (Nat × Value)

def Env.get (e : Env) (t : Nat) : Option Value :=
  match e with
  | [] => none
  | (u, v) :: r => if t = u then some v else Env.get r t

def Env.keep (e : Env) : List Nat → Env
  | [] => []
  | t :: r => match e.get t with
    | some v => (t, v) :: Env.keep e r
    | none => Env.keep e r

def opd (e : Env) : Operand → Option Value
  | .tmp t => e.get t
  | .const v => some v
  | .global _ => none
  | .func f => some (.func (.func f) #[] #[])

def opds (e : Env) : List Operand → Option (List Value)
  | [] => some []
  | x :: r => (opd e x).bind fun v => (opds e r).bind fun vs => some (v :: vs)

def opdOpt (e : Env) : Option Operand → Option (Option Value)
  | none => some none
  | some x => (opd e x).bind fun v => some (some v)

def opdParts (e : Env) : List (Nat × Nat × Operand) → Option (List (Nat × Nat × Value))
  | [] => some []
  | (o, n, x) :: r => (opd e x).bind fun v => (opdParts e r).bind fun vs => some ((o, n, v) :: vs)

inductive AOp where
  | move (x : Operand)
  | pick (c a b : Operand)
  | alloc (zero : List Value)
  | box (x : Operand)
  | load (n : Option Nat) (a : Operand)
  | store (n : Nat) (a v : Operand)
  | bin (op : BinOp) (x y : Operand)
  | eqv (ks : Option (List Bool)) (neg : Bool) (x y : Operand)
  | isNil (k : Nat) (neg : Bool) (x : Operand)
  | un (op : UnOp) (x : Operand)
  | conv (k : IntKind) (x : Operand)
  | convStr (x : Operand)
  | s2b (x : Operand)
  | b2s (x : Operand)
  | field (n : Option Nat) (off : Nat) (x : Operand)
  | index (n : Option Nat) (len es : Nat) (x i : Operand)
  | indexStr (x i : Operand)
  | build (zero : List Value) (parts : List (Nat × Nat × Operand))
  | buildSlice (cells : List Value) (len : Nat) (parts : List (Nat × Nat × Operand))
  | fieldAddr (off : Nat) (x : Operand)
  | indexAddr (len es : Nat) (x i : Operand)
  | indexSl (es : Nat) (x i : Operand)
  | sliceArr (n es : Nat) (x : Operand) (lo hi mx : Option Operand)
  | sliceSl (es : Nat) (x : Operand) (lo hi mx : Option Operand)
  | sliceStr (x : Operand) (lo hi : Option Operand)
  | makeSlice (zero : List Value) (bytes : Nat) (l c : Operand)
  | extract (x : Operand) (i : Nat)
  | mkIface (t : TypeId) (x : Operand)
  | mkFunc (fn : Fn) (first captured : List Operand)
  | nilCheck (x : Operand)
  | s2ap (n : Nat) (x : Operand)
  | call (f : FuncId) (args : List Operand) (byVal : Bool)
  | callv (f : Operand) (args : List Operand)
  | append (es bytes : Nat) (s x : Operand)
  | copy (es : Nat) (d s : Operand)
  | len (str : Bool) (x : Operand)
  | minmax (max : Bool) (x y : Operand)
  deriving Inhabited

structure AOper where
  dst : Option Nat
  op : AOp
  guard : Option (Nat × Bool)
  deriving Inhabited

inductive ACode where
  | skip
  | region (ops : List AOper) (keep : Option (List Nat)) (pairs : List (Nat × Nat))
  | seq (a b : ACode)
  | cond (c : Operand) (thn els : ACode)
  | block (id : Nat) (body : ACode)
  | loop (body : ACode)
  | exit (id : Nat)
  | ret
  deriving Inhabited

structure AFun where
  body : ACode
  results : List (Nat × Option (Option Nat))   -- a slot: its value; or (some n) the variable behind it
  deriving Inhabited

inductive AExit where
  | normal | exit (id : Nat) | ret
  deriving DecidableEq, Inhabited

/-- Does a value hold no address? -/
def scalarRf : Value → Bool
  | .bool _ | .int _ _ | .float _ _ | .complex _ _ _ | .string _ | .pointer none | .nilFunc | .nilIface | .map none | .chan none => true
  | .slice none n m => n == 0 && m == 0
  | .func (.func _) f c => f.isEmpty && c.isEmpty
  | _ => false
def rfIn (v : Value) : Bool := match v with
  | .agg cs => cs.toList.all scalarRf
  | v => scalarRf v
def rf : Value → Bool
  | .tuple vs => vs.toList.all rfIn
  | v => rfIn v

def oneCellB : Value → Bool
  | .agg _ | .tuple _ => false
  | _ => true

def bitsOp (op : BinOp) (k : IntKind) (x y : Int) : Int :=
  let a := BitVec.ofInt k.bits x
  let b := BitVec.ofInt k.bits y
  match op with
  | .and => k.wrap (a &&& b).toNat
  | .or => k.wrap (a ||| b).toNat
  | .xor => k.wrap (a ^^^ b).toNat
  | _ => k.wrap (a &&& ~~~b).toNat

def intBin (op : BinOp) (k : IntKind) (a b : Int) : Option Value :=
  match op with
  | .add => some (.int k (k.wrap (a + b)))
  | .sub => some (.int k (k.wrap (a - b)))
  | .mul => some (.int k (k.wrap (a * b)))
  | .quo => if b = 0 then none else some (.int k (k.wrap (a.tdiv b)))
  | .rem => if b = 0 then none else some (.int k (a.tmod b))
  | .and => some (.int k (bitsOp .and k a b))
  | .or => some (.int k (bitsOp .or k a b))
  | .xor => some (.int k (bitsOp .xor k a b))
  | .andNot => some (.int k (bitsOp .andNot k a b))
  | .eql => some (.bool (a == b))
  | .neq => some (.bool (a != b))
  | .lss => some (.bool (a < b))
  | .leq => some (.bool (a ≤ b))
  | .gtr => some (.bool (a > b))
  | .geq => some (.bool (a ≥ b))
  | _ => none

def shiftOp (op : BinOp) (k : IntKind) (x : Int) (y : Int) : Option Value :=
  if y < 0 then none else
  match op with
  | .shl => some (.int k (k.wrap (x * 2 ^ (min y.toNat k.bits))))
  | .shr => some (.int k (x.fdiv (2 ^ (min y.toNat k.bits))))
  | _ => none

def strBin (op : BinOp) (a b : ByteArray) : Option Value :=
  match op with
  | .add => if a.size + b.size ≤ 2 ^ 47 then some (.string (a ++ b)) else none
  | .eql => some (.bool (a.toList == b.toList))
  | .neq => some (.bool !(a.toList == b.toList))
  | _ => none

def binV (op : BinOp) (x y : Value) : Option Value :=
  match x, y with
  | .int k a, .int k' b =>
    match op with
    | .shl | .shr => shiftOp op k a b
    | _ => if k = k' then intBin op k a b else none
  | .string a, .string b => strBin op a b
  | _, _ => none

def cellEq : Bool → Value → Value → Option Bool
  | true, .int k a, .int k' b => if k = k' then some (a == b) else none
  | false, .bool a, .bool b => some (a == b)
  | _, _, _ => none

/-- Two rows of cells, of which it is known which are numbers, and which are bools. -/
def cellsEq : List Bool → List Value → List Value → Option Bool
  | [], [], [] => some true
  | k :: ks, a :: as, b :: bs => (cellEq k a b).bind fun r => (cellsEq ks as bs).bind fun s => some (r && s)
  | _, _, _ => none

def unV (op : UnOp) (x : Value) : Option Value :=
  match op, x with
  | .neg, .int k n => some (.int k (k.wrap (0 - n)))
  | .xor, .int k n => some (.int k (bitsOp .xor k (if k.signed then -1 else k.max) n))
  | .not, .bool b => some (.bool !b)
  | _, _ => none

/-- Is a value nil: 0: a pointer, 1: a slice, 2: a function, 3: an interface value, 4: a map. -/
def isNilV (k : Nat) (v : Value) : Option Bool :=
  match k, v with
  | 0, .pointer a => some a.isNone
  | 1, .slice a _ _ => some a.isNone
  | 2, .nilFunc => some true
  | 2, .func _ _ _ => some false
  | 3, .nilIface => some true
  | 3, .iface _ _ => some false
  | 4, .map a => some a.isNone
  | _, _ => none

def partL (n : Option Nat) (cs : List Value) (off : Nat) : Option Value :=
  match n with
  | none => cs[off]?
  | some n => if off + n ≤ cs.length then some (.agg ((cs.drop off).take n).toArray) else none

/-- A part of a row, written anew. -/
def splice (cs : List Value) (off : Nat) (v : List Value) : List Value :=
  match v with
  | [x] => cs.set off x
  | _ => cs.take off ++ (v ++ cs.drop (off + v.length))

def okVar : Value → Bool
  | .tuple _ => false
  | _ => true

def fillL (cs : List Value) : List (Nat × Nat × Value) → Option (List Value)
  | [] => some cs
  | (off, n, v) :: r => if v.cells.size = n ∧ off + n ≤ cs.length ∧ okVar v = true then fillL (splice cs off v.cells.toList) r else none

def natIn (x : Option Value) (y : Nat) (dflt : Nat) : Option Nat :=
  match x with
  | none => some dflt
  | some (.int _ i) => if 0 ≤ i ∧ i ≤ y then some i.toNat else none
  | some _ => none

def bounds3 (len cap : Nat) (lo hi mx : Option Value) : Option (Nat × Nat × Nat) :=
  (natIn mx cap cap).bind fun m => (natIn hi m len).bind fun h => (natIn lo h 0).bind fun l =>
    if mx.isSome && hi.isNone then none else some (l, h, m)

def liveAt (H : List Ob) (id : Nat) : Option Ob := (H[id]?).bind fun o => if o.live then some o else none

/-- The elements of a slice, or a string's bytes. -/
def elemsOf (H : List Ob) (es n : Nat) : Value → Option (List Value)
  | .slice none _ _ => some []
  | .slice (some a) _ _ => (liveAt H a.block).bind fun o =>
      if a.spot.isNone ∧ a.off + n * es ≤ o.cells.length then some ((o.cells.drop a.off).take (n * es)) else none
  | .string s => if es = 1 then some ((s.data.toList.take n).map fun b => .int .u8 b.toNat) else none
  | _ => none
def lenV : Value → Option Nat
  | .slice _ n _ => some n
  | .string s => some s.size
  | _ => none
def baseOf : Value → List Nat
  | .slice (some a) _ _ => [a.block]
  | .pointer (some a) => [a.block]
  | _ => []

abbrev Step := Option (Value × List Ob × Option (List Nat) × List Nat)
/-- A value, and nothing touched. -/
def pureV (H : List Ob) (v : Option Value) : Step := v.bind fun v => some (v, H, some [], [])

def bytesOfCells : List Value → Option (List UInt8)
  | [] => some []
  | .int .u8 n :: r => (bytesOfCells r).bind fun l => some (UInt8.ofNat n.toNat :: l)
  | _ => none

def storeAt (H : List Ob) (a : Addr) (v : List Value) : Option (List Ob) :=
  (liveAt H a.block).bind fun o =>
    if o.own ∧ a.spot.isNone ∧ a.off + v.length ≤ o.cells.length then some (H.set a.block { o with cells := splice o.cells a.off v }) else none

def appendV (es bytes : Nat) (H : List Ob) (s x : Value) : Step :=
  match s with
  | .slice base len cap =>
    (lenV x).bind fun n => (elemsOf H es n x).bind fun new =>
      if n = 0 then some (s, H, none, [])
      else if ¬ ((len + n) * bytes ≤ 2 ^ 47 ∧ 0 < bytes ∧ 0 < es) then none
      else match base with
      | none => if len = 0 ∧ cap = 0 then some (.slice (some ⟨H.length, 0, none⟩) n n, H ++ [Ob.grown es new], none, []) else none
      | some a =>
        (liveAt H a.block).bind fun o => (elemsOf H es len s).bind fun old =>
        if ¬ o.own then none
        else if len + n ≤ cap then
          (storeAt H (a.add (len * es)) new).bind fun H' => some (.slice (some a) (len + n) cap, H', none, [a.block])
        else if o.exact then some (.slice (some ⟨H.length, 0, none⟩) (len + n) (len + n), H ++ [Ob.grown es (old ++ new)], none, [])
        else if es ≤ o.es then some (.slice (some ⟨H.length, 0, none⟩) (len + n) (len + n), (H.set a.block Ob.dead) ++ [Ob.grown es (old ++ new)], none, [a.block])
        else none
  | _ => none

def simpleOp (H : List Ob) (e : Env) : AOp → Step
  | .move x => pureV H (opd e x)
  | .pick c a b => pureV H ((opd e c).bind fun c => (opd e a).bind fun a => (opd e b).bind fun b => match c with | .bool t => some (if t then a else b) | _ => none)
  | .alloc zero => some (.pointer (some ⟨H.length, 0, none⟩), H ++ [Ob.fresh zero], some [], [])
  | .box x => (opd e x).bind fun v => if okVar v then some (.pointer (some ⟨H.length, 0, none⟩), H ++ [Ob.fresh v.cells.toList], some [], []) else none
  | .load n a => (opd e a).bind fun v => match v with
    | .pointer (some a) => (liveAt H a.block).bind fun o => if a.spot.isNone then (partL n o.cells a.off).bind fun v => some (v, H, some [a.block], []) else none
    | _ => none
  | .store n a v => (opd e a).bind fun av => (opd e v).bind fun v => match av with
    | .pointer (some a) => if v.cells.size = n ∧ okVar v = true then (storeAt H a v.cells.toList).bind fun H' => some (undef, H', some [a.block], [a.block]) else none
    | _ => none
  | .bin op x y => pureV H ((opd e x).bind fun x => (opd e y).bind fun y => binV op x y)
  | .eqv n neg x y => pureV H ((opd e x).bind fun x => (opd e y).bind fun y => (match n, x, y with
    | some ks, .agg a, .agg b => cellsEq ks a.toList b.toList
    | none, .bool a, .bool b => some (a == b)
    | _, _, _ => none).bind fun b => some (.bool (if neg then !b else b)))
  | .isNil k neg x => pureV H ((opd e x).bind fun x => (isNilV k x).bind fun b => some (.bool (if neg then !b else b)))
  | .un op x => pureV H ((opd e x).bind fun x => unV op x)
  | .conv k x => pureV H ((opd e x).bind fun x => match x with | .int _ n => some (.int k (k.wrap n)) | _ => none)
  | .convStr x => pureV H ((opd e x).bind fun x => match x with | .string s => some (.string s) | _ => none)
  | .s2b x => (opd e x).bind fun x => match x with
    | .string s => if s.size ≤ 2 ^ 47 then some (.slice (some ⟨H.length, 0, none⟩) s.size s.size, H ++ [Ob.grown 1 (s.data.toList.map fun b => .int .u8 b.toNat)], some [], []) else none
    | _ => none
  | .b2s x => (opd e x).bind fun x => match x with
    | .slice _ n _ => (elemsOf H 1 n x).bind fun cs => (bytesOfCells cs).bind fun l => some (.string ⟨l.toArray⟩, H, some (baseOf x), [])
    | _ => none
  | .field n off x => pureV H ((opd e x).bind fun x => match x with | .agg cs => partL n cs.toList off | _ => none)
  | .index n len es x i => pureV H ((opd e x).bind fun x => (opd e i).bind fun i => match x, i with
    | .agg cs, .int _ i => if 0 ≤ i ∧ i < len then partL n cs.toList (i.toNat * es) else none
    | _, _ => none)
  | .indexStr x i => pureV H ((opd e x).bind fun x => (opd e i).bind fun i => match x, i with
    | .string s, .int _ i => if 0 ≤ i then (s.data.toList[i.toNat]?).bind fun b => some (.int .u8 b.toNat) else none
    | _, _ => none)
  | .build zero parts => pureV H ((opdParts e parts).bind fun ps => (fillL zero ps).bind fun cs => some (.agg cs.toArray))
  | .buildSlice cells len parts => (opdParts e parts).bind fun ps => (fillL cells ps).bind fun cs =>
      some (.slice (some ⟨H.length, 0, none⟩) len len, H ++ [Ob.fresh cs], some [], [])
  | .fieldAddr off x => pureV H ((opd e x).bind fun x => match x with | .pointer (some a) => some (.pointer (some (a.add off))) | _ => none)
  | .indexAddr len es x i => pureV H ((opd e x).bind fun x => (opd e i).bind fun i => match x, i with
    | .pointer (some a), .int _ i => if 0 ≤ i ∧ i < len then some (.pointer (some (a.add (i.toNat * es)))) else none
    | _, _ => none)
  | .indexSl es x i => pureV H ((opd e x).bind fun x => (opd e i).bind fun i => match x, i with
    | .slice (some a) len _, .int _ i => if 0 ≤ i ∧ i < len then some (.pointer (some (a.add (i.toNat * es)))) else none
    | _, _ => none)
  | .sliceArr n es x lo hi mx => pureV H ((opd e x).bind fun x => (opdOpt e lo).bind fun lo => (opdOpt e hi).bind fun hi => (opdOpt e mx).bind fun mx => match x with
    | .pointer (some a) => (bounds3 n n lo hi mx).bind fun (l, h, m) => some (.slice (some (a.add (l * es))) (h - l) (m - l))
    | _ => none)
  | .sliceSl es x lo hi mx => (opd e x).bind fun x => (opdOpt e lo).bind fun lo => (opdOpt e hi).bind fun hi => (opdOpt e mx).bind fun mx => match x with
    | .slice (some a) len cap => (bounds3 len cap lo hi mx).bind fun (l, h, m) => (liveAt H a.block).bind fun o =>
        if o.exact ∨ ¬ o.own ∨ es ≤ o.es then some (.slice (some (a.add (l * es))) (h - l) (m - l), H, some [a.block], []) else none
    | .slice none 0 0 => (bounds3 0 0 lo hi mx).bind fun _ => some (.slice none 0 0, H, some [], [])
    | _ => none
  | .sliceStr x lo hi => pureV H ((opd e x).bind fun x => (opdOpt e lo).bind fun lo => (opdOpt e hi).bind fun hi => match x with
    | .string s => (bounds3 s.size s.size lo hi none).bind fun (l, h, _) => some (.string (s.extract l h))
    | _ => none)
  | .makeSlice zero bytes l c => (opd e l).bind fun l => (opd e c).bind fun c => match l, c with
    | .int _ l, .int _ c => if 0 ≤ l ∧ l ≤ c ∧ c * bytes ≤ 2 ^ 47 ∧ 0 < bytes ∧ 0 < zero.length then
        some (.slice (some ⟨H.length, 0, none⟩) l.toNat c.toNat, H ++ [Ob.fresh ((List.replicate c.toNat zero).flatten)], some [], []) else none
    | _, _ => none
  | .extract x i => pureV H ((opd e x).bind fun x => match x with | .tuple vs => vs.toList[i]? | _ => none)
  | .mkIface t x => pureV H ((opd e x).bind fun x => some (.iface t x))
  | .mkFunc fn first captured => pureV H ((opds e first).bind fun fs => (opds e captured).bind fun cs => some (.func fn fs.toArray cs.toArray))
  | .nilCheck x => pureV H ((opd e x).bind fun x => match x with | .pointer (some a) => some (.pointer (some a)) | _ => none)
  | .s2ap n x => pureV H ((opd e x).bind fun x => match x with | .slice (some a) len _ => if n ≤ len ∧ 0 < n then some (.pointer (some a)) else none | _ => none)
  | .append es bytes s x => (opd e s).bind fun s => (opd e x).bind fun x => appendV es bytes H s x
  | .copy es d s => (opd e d).bind fun d => (opd e s).bind fun s => match d with
    | .slice base dl _ => (lenV s).bind fun sl => (elemsOf H es (min sl dl) s).bind fun cs => match base with
      | some a => (storeAt H a cs).bind fun H' => some (.int .i64 (min sl dl : Nat), H', none, [a.block])
      | none => if dl = 0 then some (.int .i64 0, H, none, []) else none
    | _ => none
  | .len str x => pureV H ((opd e x).bind fun x => match x with | .slice _ n _ => if str then none else some (.int .i64 n) | .string s => if str then some (.int .i64 s.size) else none | _ => none)
  | .minmax mx x y => pureV H ((opd e x).bind fun x => (opd e y).bind fun y => match x, y with
    | .int k a, .int k' b => if k = k' then some (.int k (if mx then (if b > a then b else a) else (if b < a then b else a))) else none
    | _, _ => none)
  | .call .. | .callv .. => none

/-- What an operation answers: the result, the heap behind it, what it touched (none: anything), what it changed of what was there. -/
def inMerge (base : Nat) (log : List Nat) : List Nat → List Nat
  | [] => log
  | i :: r => if i < base ∧ i ∉ log then inMerge base (log ++ [i]) r else inMerge base log r

structure St where
  env : Env
  h : List Ob
  log : List Nat

abbrev Rec := Option (List Nat) × List Nat

def Env.put (e : Env) (dst : Option Nat) (v : Value) : Env :=
  match dst with
  | some d => (d, v) :: e
  | none => e

def guardOf (e : Env) : Option (Nat × Bool) → Option Bool
  | none => some true
  | some (t, want) => (e.get t).bind fun v => match v with | .bool b => some (b == want) | _ => none

def apartOf (r s : Rec) : Bool :=
  (r.2.isEmpty || (match s.1 with | some l => r.2.all fun i => !l.contains i | none => false)) &&
  (s.2.isEmpty || (match r.1 with | some l => s.2.all fun i => !l.contains i | none => false))

def pairsOk (recs : List Rec) (pairs : List (Nat × Nat)) : Bool :=
  pairs.all fun (i, j) => match recs[i]?, recs[j]? with
    | some r, some s => apartOf r s
    | _, _ => false

def St.after (s : St) (keep : Option (List Nat)) : St :=
  match keep with
  | some k => { s with env := s.env.keep k }
  | none => s

def resultOf (e : Env) (H : List Ob) : List (Nat × Option (Option Nat)) → Option (List Value)
  | [] => some []
  | (t, how) :: r => (e.get t).bind fun v => (match how with
      | none => some v
      | some n => match v with
        | .pointer (some a) => (liveAt H a.block).bind fun o => if a.spot.isNone then partL n o.cells a.off else none
        | _ => none).bind fun v => (resultOf e H r).bind fun vs => some (v :: vs)

def packed : List Value → Value
  | [v] => v
  | vs => .tuple vs.toArray

def envOf (k : Nat) : List Value → Env
  | [] => []
  | v :: r => (k, v) :: envOf (k + 1) r

/-- A table of functions; those that have no text of ours: what they answer. -/
structure Tab where
  fn : Nat → Option AFun
  ext : Nat → List Value → Option Value

mutual
def evFun (T : Tab) (f : Nat) (args : List Value) (H : List Ob) : Option (Value × List Ob × List Nat) :=
  match T.fn f with
  | some fn => do
    let xs ← evCode T H.length fn.body ⟨envOf 0 args, H, []⟩
    match xs.1 with
    | .exit _ => none
    | _ => (resultOf xs.2.env xs.2.h fn.results).bind fun vs => some (packed vs, xs.2.h, xs.2.log)
  | none => if args.all rf then (T.ext f args).bind fun v => some (v, H, []) else none
  partial_fixpoint

def evOper (T : Tab) (o : AOp) (e : Env) (H : List Ob) : Step :=
  match o with
  | .call f xs byVal =>
      if byVal then
        match opds e xs with
        | some args => if args.all rf then do
            let r ← evFun T f args []
            if rf r.1 then some (r.1, H, some [], []) else none
          else none
        | none => none
      else
        match opds e xs with
        | some args => do
          let r ← evFun T f args H
          some (r.1, r.2.1, none, r.2.2)
        | none => none
  | .callv f xs =>
      match opd e f, opds e xs with
      | some (.func (.func f) first captured), some args => do
        let r ← evFun T f (first.toList ++ args ++ captured.toList) H
        some (r.1, r.2.1, none, r.2.2)
      | _, _ => none
  | o => simpleOp H e o
  partial_fixpoint

def evOps (T : Tab) (base : Nat) (ops : List AOper) (s : St) (recs : List Rec) : Option (St × List Rec) :=
  match ops with
  | [] => some (s, recs)
  | o :: r =>
      match guardOf s.env o.guard with
      | some true => do
        let x ← evOper T o.op s.env s.h
        evOps T base r ⟨s.env.put o.dst x.1, x.2.1, inMerge base s.log x.2.2.2⟩ (recs ++ [(x.2.2.1, x.2.2.2)])
      | some false => evOps T base r ⟨s.env.put o.dst undef, s.h, s.log⟩ (recs ++ [(some [], [])])
      | none => none
  partial_fixpoint

def evCode (T : Tab) (base : Nat) (c : ACode) (s : St) : Option (AExit × St) :=
  match c with
  | .skip => some (.normal, s)
  | .region ops keep pairs => do
    let r ← evOps T base ops s []
    if pairsOk r.2 pairs then some (.normal, r.1.after keep) else none
  | .seq a b => do
    let r ← evCode T base a s
    match r.1 with
    | .normal => evCode T base b r.2
    | x => some (x, r.2)
  | .cond c a b =>
    match opd s.env c with
    | some (.bool true) => evCode T base a s
    | some (.bool false) => evCode T base b s
    | _ => none
  | .block id b => do
    let r ← evCode T base b s
    match r.1 with
    | .exit i => if i = id then some (.normal, r.2) else some (.exit i, r.2)
    | x => some (x, r.2)
  | .loop b => do
    let r ← evCode T base b s
    match r.1 with
    | .normal => evCode T base (.loop b) r.2
    | x => some (x, r.2)
  | .exit id => some (.exit id, s)
  | .ret => some (.ret, s)
  partial_fixpoint
end
end Go.Ev

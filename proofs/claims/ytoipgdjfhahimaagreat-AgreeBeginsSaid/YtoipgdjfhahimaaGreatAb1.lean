/- What the law leans on, part 1. -/
import Derived.Orders
import Derived.KernelRfl
import Derived.Below
import Derived.ChangeKeysEq
import Derived.Laws.Append
import Derived.Laws.BytesString
import Derived.LoopN
import Derived.ProofKit
set_option linter.unusedSimpArgs false
set_option linter.unusedVariables false
theorem qr{p:Prop}(h:p:=by omega):p:=h
theorem ww{p:Prop}(h:p:=by decide):p:=h
theorem wd{p:Prop}(h:p:=by simp):p:=h
theorem wf{p:Prop}(h:p:=by omega):p=True:=eq_true h
theorem wr{p:Prop}(h:¬p:=by omega):p=False:=eq_false h
instance:Coe Nat (Option Go.Addr):=⟨fun b=>some ⟨b,0,none⟩⟩
open Array renaming ext_getElem? -> KK, getD_eq_getD_getElem? -> Jq, getElem?_eq_getElem -> ZG, getElem?_eq_none -> WO, getElem?_modify -> KN, getElem?_push -> Ft, getElem?_setIfInBounds -> Xq, getElem?_toList -> ZA, length_toList -> Fs, range -> Dl, replicate -> Ve, toList_append -> XS, toList_inj -> Ji, toList_map -> U3
open Bool renaming and_eq_true -> ZY, false_eq_true -> ZM, not_false -> WN, or_eq_true -> Wl, true_and -> Fu
open List renaming all_cons -> KD, all_eq_true -> ZX, append_nil -> QG, cons_append -> Qn, drop_drop -> XQ, drop_eq_getElem_cons -> Jp, drop_succ_cons -> Fq, drop_zero -> ZS, eq_nil_of_length_eq_zero -> J7, ext_getElem? -> ZW, flatten_cons -> QO, foldl_cons -> Xy, getD_eq_getElem?_getD -> QD, getElem?_append -> Bi, getElem?_append_left -> Qc, getElem?_append_right -> Qh, getElem?_cons_succ -> JU, getElem?_cons_zero -> Xx, getElem?_drop -> Zp, getElem?_eq_getElem -> Qf, getElem?_eq_none -> QI, getElem?_eq_some_iff -> Qg, getElem?_map -> JB, getElem?_of_mem -> Xf, getElem?_range -> V8, getElem?_set -> Kw, getElem?_set_ne -> Qu, getElem?_take -> QW, getElem?_toArray -> KM, getElem_mem -> U2, length_append -> Qj, length_cons -> Zv, length_nil -> ZT, length_singleton -> T4, length_take -> Q3, mapM_cons -> Ar, map_cons -> JC, map_map -> R2, map_nil -> Xv, map_set -> uQ, map_toArray -> PQ, mem_append -> QC, mem_cons -> Jr, mem_filter -> R7, mem_map -> Xo, mem_of_getElem? -> Qo, mem_of_mem_drop -> ZF, mem_of_mem_take -> QP, mem_or_eq_of_mem_set -> KX, mem_range -> Gy, nil_append -> Ql, range -> ZH, range' -> Ya, replicate -> Qa, replicate_succ -> XC, set_cons_succ -> Yi, take_length -> YU
open Nat renaming add_assoc -> Zb, add_comm -> Xu, add_mul -> Zl, add_mul_div_right -> U0, add_mul_mod_self_right -> KJ, add_zero -> Jl, div_div_eq_div_mul -> QV, div_eq_of_lt -> JK, div_one -> J1, eq_zero_or_pos -> Jo, le_refl -> Qs, le_trans -> Xm, lt_of_lt_of_le -> QM, lt_or_ge -> ZL, min_eq_left -> Zw, mod_eq_of_lt -> Qv, mod_lt -> Q9, mul_add -> YE, mul_assoc -> ZD, mul_comm -> Zm, mul_le_mul -> Xe, mul_le_mul_left -> XR, mul_le_mul_right -> Z9, mul_left_comm -> JM, mul_one -> Vn, one_mul -> Xd, pow_add -> JI, pow_le_pow_right -> Zo, pow_mul -> Je, pow_pos -> JT, pow_succ -> Zj, pow_zero -> ZN, strongRecOn -> R6, testBit_or -> Gw, zero_add -> QL, zero_le -> Dk
open Option renaming bind_eq_bind -> XB, bind_eq_some_iff -> Qd, bind_some -> Qp, getD_some -> X6, isNone_none -> Yg, isSome_none -> Wr, isSome_some -> Gu, map_eq_some_iff -> QF, map_some -> Yo
open Option.some renaming inj -> Xp, injEq -> Qk
namespace Go.Ev
structure Ob where
 c:List Value
 live:Bool:=true
 own:Bool:=true
 exact:Bool:=true
 es:Nat:=1
 deriving Inhabited
def Ob.fresh(cells:List Value):Ob:={c:=cells}
def Ob.grown(es:Nat)(cells:List Value):Ob:=⟨cells,true,true,false,es⟩
def Ob.dead:Ob:=⟨[],false,false,true,1⟩
abbrev Env:=List (Nat×Value)
def Env.get(e:Env)(t:Nat):Option Value :=
 match e with
 |[]=>none
 |(u,v)::r=>if t=u then some v else Env.get r t
def Env.keep(e:Env):List Nat->Env
 |[]=>[]
 |t::r=>match e.get t with
  |some v=>(t,v)::Env.keep e r
  |none=>Env.keep e r
def opd(e:Env):Operand->Option Value
 |.tmp t=>e.get t
 |.const v=>some v
 |.global _=>none
 |.func f=>some (.func (.func f) #[] #[])
def Xb(e:Env):List Operand->Option (List Value)
 |[]=>some []
 |x::r=>(opd e x).bind fun v=>(Xb e r).bind fun vs=>some (v::vs)
def ZI(e:Env):Option Operand->Option (Option Value)
 |none=>some none
 |some x=>(opd e x).bind fun v=>some (some v)
def Zq(e:Env):List (Nat×Nat×Operand)->Option (List (Nat×Nat×Value))
 |[]=>some []
 |(o,n,x)::r=>(opd e x).bind fun v=>(Zq e r).bind fun vs=>some ((o,n,v)::vs)
inductive AOp where
 |move (x:Operand)
 |pick (c a b:Operand)
 |alloc (zero:List Value)
 |box (x:Operand)
 |load (n:Option Nat) (a:Operand)
 |store (n:Nat) (a v:Operand)
 |bin (op:BinOp) (x y:Operand)
 |eqv (ks:Option (List Bool)) (neg:Bool) (x y:Operand)
 |isNil (k:Nat) (neg:Bool) (x:Operand)
 |un (op:UnOp) (x:Operand)
 |conv (k:IntKind) (x:Operand)
 |convStr (x:Operand)
 |convSl (x:Operand)
 |s2b (x:Operand)
 |b2s (x:Operand)
 |field (n:Option Nat) (off:Nat) (x:Operand)
 |index (n:Option Nat) (len es:Nat) (x i:Operand)
 |indexStr (x i:Operand)
 |build (zero:List Value) (parts:List (Nat×Nat×Operand))
 |buildSlice (cells:List Value) (len:Nat) (parts:List (Nat×Nat×Operand))
 |fieldAddr (off:Nat) (x:Operand)
 |indexAddr (len es:Nat) (x i:Operand)
 |indexSl (es:Nat) (x i:Operand)
 |sliceArr (n es:Nat) (x:Operand) (lo hi mx:Option Operand)
 |sliceSl (es:Nat) (x:Operand) (lo hi mx:Option Operand)
 |sliceStr (x:Operand) (lo hi:Option Operand)
 |makeSlice (zero:List Value) (bytes:Nat) (l c:Operand)
 |extract (x:Operand) (i:Nat)
 |mkIface (t:TypeId) (x:Operand)
 |mkFunc (fn:Fn) (first captured:List Operand)
 |nilCheck (x:Operand)
 |s2ap (n:Nat) (x:Operand)
 |call (f:FuncId) (args:List Operand) (byVal:Bool)
 |callv (f:Operand) (args:List Operand)
 |append (es bytes:Nat) (s x:Operand)
 |copy (es:Nat) (d s:Operand)
 |clear (zero:List Value) (x:Operand)
 |len (str:Bool) (x:Operand)
 |minmax (max:Bool) (x y:Operand)
 deriving Inhabited
structure AOper where
 dst:Option Nat
 op:AOp
 guard:Option (Nat×Bool)
 deriving Inhabited
inductive ACode where
 |skip
 |region (ops:List AOper) (keep:Option (List Nat)) (pairs:List (Nat×Nat))
 |seq (a b:ACode)
 |cond (c:Operand) (thn els:ACode)
 |block (id:Nat) (body:ACode)
 |loop (body:ACode)
 |exit (id:Nat)
 |ret
 deriving Inhabited
structure AFun where
 body:ACode
 results:List (Nat×Option (Option Nat))
 deriving Inhabited
inductive AExit where
 |normal|exit (id:Nat)|ret
 deriving DecidableEq,Inhabited
def Z4:Value->Bool
 |.bool _ | .int _ _ | .float _ _ | .complex _ _ _ | .string _ | .pointer none | .nilFunc | .nilIface | .map none | .chan none=>true
 |.slice none n m=>n==0&&m==0
 |.func (.func _) f c=>f.isEmpty&&c.isEmpty
 |_=>false
def Bw(v:Value):Bool:=match v with
 |.agg cs=>cs.toList.all Z4
 |v=>Z4 v
def rf:Value->Bool
 |.tuple vs=>vs.toList.all Bw
 |v=>Bw v
def oneCellB:Value->Bool
 |.agg _ | .tuple _=>false
 |_=>true
def Zr(op:BinOp)(k:IntKind)(x y:Int):Int :=
 let a:=BitVec.ofInt k.bits x
 let b:=BitVec.ofInt k.bits y
 match op with
 |.and=>k.wrap (a&&&b).toNat
 |.or=>k.wrap (a|||b).toNat
 |.xor=>k.wrap (a^^^b).toNat
 |_=>k.wrap (a &&& ~~~b).toNat
def Jb(op:BinOp)(k:IntKind)(a b:Int):Option Value :=
 match op with
 |.add=>some (.int k (k.wrap (a+b)))
 |.sub=>some (.int k (k.wrap (a-b)))
 |.mul=>some (.int k (k.wrap (a*b)))
 |.quo=>if b=0 then none else some (.int k (k.wrap (a.tdiv b)))
 |.rem=>if b=0 then none else some (.int k (a.tmod b))
 |.and=>some (.int k (Zr .and k a b))
 |.or=>some (.int k (Zr .or k a b))
 |.xor=>some (.int k (Zr .xor k a b))
 |.andNot=>some (.int k (Zr .andNot k a b))
 |.eql=>some (.bool (a==b))
 |.neq=>some (.bool (a != b))
 |.lss=>some (.bool (a<b))
 |.leq=>some (.bool (a<=b))
 |.gtr=>some (.bool (a>b))
 |.geq=>some (.bool (a≥b))
 |_=>none
def ZU(op:BinOp)(k:IntKind)(x:Int)(y:Int):Option Value :=
 if y<0 then none else
 match op with
 |.shl=>some (.int k (k.wrap (x*2^(min y.toNat k.bits))))
 |.shr=>some (.int k (x.fdiv (2^(min y.toNat k.bits))))
 |_=>none
def Sj(op:BinOp)(a b:ByteArray):Option Value :=
 match op with
 |.add=>if a.size+b.size<=2^47 then some (.string (a++b))else none
 |.eql=>some (.bool (a.toList==b.toList))
 |.neq=>some (.bool !(a.toList==b.toList))
 |_=>none
def Ju(op:BinOp)(x y:Value):Option Value :=
 match x,y with
 |.int k a,.int k' b =>
  match op with
  |.shl | .shr=>ZU op k a b
  |_=>if k=k' then Jb op k a b else none
 |.string a,.string b=>Sj op a b
 |_,_=>none
def Hp:Bool->Value->Value->Option Bool
 |true,.int k a,.int k' b=>if k=k' then some (a==b)else none
 |false,.bool a,.bool b=>some (a==b)
 |_,_,_=>none
def JA:List Bool->List Value->List Value->Option Bool
 |[],[],[]=>some true
 |k::ks,a::as,b::bs=>(Hp k a b).bind fun r=>(JA ks as bs).bind fun s=>some (r&&s)
 |_,_,_=>none
def unV(op:UnOp)(x:Value):Option Value :=
 match op,x with
 |.neg,.int k n=>some (.int k (k.wrap (0-n)))
 |.xor,.int k n=>some (.int k (Zr .xor k (if k.signed then -1 else k.max) n))
 |.not,.bool b=>some (.bool !b)
 |_,_=>none
def Be(k:Nat)(v:Value):Option Bool :=
 match k,v with
 |0,.pointer a=>some a.isNone
 |1,.slice a _ _=>some a.isNone
 |2,.nilFunc=>some true
 |2,.func _ _ _=>some false
 |3,.nilIface=>some true
 |3,.iface _ _=>some false
 |4,.map a=>some a.isNone
 |_,_=>none
def Jn(n:Option Nat)(cs:List Value)(off:Nat):Option Value :=
 match n with
 |none=>cs[off]?
 |some n=>if off+n<=cs.length then some (.agg ((cs.drop off).take n).toArray)else none
def splice(cs:List Value)(off:Nat)(v:List Value):List Value :=
 match v with
 |[x]=>cs.set off x
 |_=>cs.take off++(v++cs.drop (off+v.length))
def Z7:Value->Bool
 |.tuple _=>false
 |_=>true
def fillL(cs:List Value):List (Nat×Nat×Value)->Option (List Value)
 |[]=>some cs
 |(off,n,v)::r=>if v.cells.size=n/\off+n<=cs.length/\Z7 v=true then fillL (splice cs off v.cells.toList) r else none
def Va(x:Option Value)(y:Nat)(dflt:Nat):Option Nat :=
 match x with
 |none=>some dflt
 |some (.int _ i)=>if 0<=i/\i<=y then some i.toNat else none
 |some _=>none
def J8(len cap:Nat)(lo hi mx:Option Value):Option (Nat×Nat×Nat) :=
 (Va mx cap cap).bind fun m=>(Va hi m len).bind fun h=>(Va lo h 0).bind fun l =>
  if mx.isSome&&hi.isNone then none else some (l,h,m)
def liveAt(H:List Ob)(id:Nat):Option Ob:=(H[id]?).bind fun o=>if o.live then some o else none
def elemsOf(H:List Ob)(es n:Nat):Value->Option (List Value)
 |.slice none _ _=>some []
 |.slice (some a) _ _=>(liveAt H a.block).bind fun o =>
   if a.spot.isNone/\a.off+n*es<=o.c.length then some ((o.c.drop a.off).take (n*es))else none
 |.string s=>if es=1 then some ((s.data.toList.take n).map fun b=>.int .u8 b.toNat)else none
 |_=>none
def lenV:Value->Option Nat
 |.slice _ n _=>some n
 |.string s=>some s.size
 |_=>none
def Y5:Value->List Nat
 |.slice (some a) _ _=>[a.block]
 |.pointer (some a)=>[a.block]
 |_=>[]
abbrev Step:=Option (Value×List Ob×Option (List Nat)×List Nat)
def Jj(H:List Ob)(v:Option Value):Step:=v.bind fun v=>some (v,H,some [],[])
def XO:List Value->Option (List UInt8)
 |[]=>some []
 |.int .u8 n::r=>(XO r).bind fun l=>some (UInt8.ofNat n.toNat::l)
 |_=>none
def storeAt(H:List Ob)(a:Addr)(v:List Value):Option (List Ob) :=
 (liveAt H a.block).bind fun o =>
  if o.own/\a.spot.isNone/\a.off+v.length<=o.c.length then some (H.set a.block { o with c:=splice o.c a.off v })else none
def Jw(es bytes:Nat)(H:List Ob)(s x:Value):Step :=
 match s with
 |.slice base len cap =>
  (lenV x).bind fun n=>(elemsOf H es n x).bind fun new =>
   if n=0 then some (s,H,none,[])
   else if ¬((len+n)*bytes<=2^47/\0<bytes/\0<es)then none
   else match base with
   |none=>if len=0/\cap=0 then some (.slice H.length n n,H++[Ob.grown es new],none,[])else none
   |some a =>
    (liveAt H a.block).bind fun o=>(elemsOf H es len s).bind fun old =>
    if ¬o.own then none
    else if len+n<=cap then
     (storeAt H (a.add (len*es)) new).bind fun H'=>some (.slice (some a) (len+n) cap,H',none,[a.block])
    else if o.exact then some (.slice H.length (len+n) (len+n),H++[Ob.grown es (old++new)],none,[])
    else if es<=o.es then some (.slice H.length (len+n) (len+n),(H.set a.block Ob.dead)++[Ob.grown es (old++new)],none,[a.block])
    else none
 |_=>none
def Qz(H:List Ob)(e:Env):AOp->Step
 |.move x=>Jj H (opd e x)
 |.pick c a b=>Jj H ((opd e c).bind fun c=>(opd e a).bind fun a=>(opd e b).bind fun b=>match c with | .bool t=>some (if t then a else b)|_=>none)
 |.alloc zero=>some (.pointer H.length,H++[Ob.fresh zero],some [],[])
 |.box x=>(opd e x).bind fun v=>if Z7 v then some (.pointer H.length,H++[Ob.fresh v.cells.toList],some [],[])else none
 |.load n a=>(opd e a).bind fun v=>match v with
  |.pointer (some a)=>(liveAt H a.block).bind fun o=>if a.spot.isNone then(Jn n o.c a.off).bind fun v=>some (v,H,some [a.block],[])else none
  |_=>none
 |.store n a v=>(opd e a).bind fun av=>(opd e v).bind fun v=>match av with
  |.pointer (some a)=>if v.cells.size=n/\Z7 v=true then(storeAt H a v.cells.toList).bind fun H'=>some (undef,H',some [a.block],[a.block])else none
  |_=>none
 |.bin op x y=>Jj H ((opd e x).bind fun x=>(opd e y).bind fun y=>Ju op x y)
 |.eqv n neg x y=>Jj H ((opd e x).bind fun x=>(opd e y).bind fun y=>(match n,x,y with
  |some ks,.agg a,.agg b=>JA ks a.toList b.toList
  |none,.bool a,.bool b=>some (a==b)
  |_,_,_=>none).bind fun b=>some (.bool (if neg then !b else b)))
 |.isNil k neg x=>Jj H ((opd e x).bind fun x=>(Be k x).bind fun b=>some (.bool (if neg then !b else b)))
 |.un op x=>Jj H ((opd e x).bind fun x=>unV op x)
 |.conv k x=>Jj H ((opd e x).bind fun x=>match x with | .int _ n=>some (.int k (k.wrap n))|_=>none)
 |.convStr x=>Jj H ((opd e x).bind fun x=>match x with | .string s=>some (.string s)|_=>none)
 |.convSl x=>(opd e x).bind fun x=>match x with
  |.slice (some a) n c=>(liveAt H a.block).bind fun o=>if o.own=true/\a.spot.isNone=true then some (.slice (some a) n c,H,some [a.block],[])else none
  |_=>none
 |.s2b x=>(opd e x).bind fun x=>match x with
  |.string s=>if s.size<=2^47 then some (.slice H.length s.size s.size,H++[Ob.grown 1 (s.data.toList.map fun b=>.int .u8 b.toNat)],some [],[])else none
  |_=>none
 |.b2s x=>(opd e x).bind fun x=>match x with
  |.slice _ n _=>(elemsOf H 1 n x).bind fun cs=>(XO cs).bind fun l=>some (.string ⟨l.toArray⟩,H,some (Y5 x),[])
  |_=>none
 |.field n off x=>Jj H ((opd e x).bind fun x=>match x with | .agg cs=>Jn n cs.toList off|_=>none)
 |.index n len es x i=>Jj H ((opd e x).bind fun x=>(opd e i).bind fun i=>match x,i with
  |.agg cs,.int _ i=>if 0<=i/\i<len then Jn n cs.toList (i.toNat*es)else none
  |_,_=>none)
 |.indexStr x i=>Jj H ((opd e x).bind fun x=>(opd e i).bind fun i=>match x,i with
  |.string s,.int _ i=>if 0<=i then(s.data.toList[i.toNat]?).bind fun b=>some (.int .u8 b.toNat)else none
  |_,_=>none)
 |.build zero parts=>Jj H ((Zq e parts).bind fun ps=>(fillL zero ps).bind fun cs=>some (.agg cs.toArray))
 |.buildSlice cells len parts=>(Zq e parts).bind fun ps=>(fillL cells ps).bind fun cs =>
   some (.slice H.length len len,H++[Ob.fresh cs],some [],[])
 |.fieldAddr off x=>Jj H ((opd e x).bind fun x=>match x with | .pointer (some a)=>some (.pointer (some (a.add off)))|_=>none)
 |.indexAddr len es x i=>Jj H ((opd e x).bind fun x=>(opd e i).bind fun i=>match x,i with
  |.pointer (some a),.int _ i=>if 0<=i/\i<len then some (.pointer (some (a.add (i.toNat*es))))else none
  |_,_=>none)
 |.indexSl es x i=>Jj H ((opd e x).bind fun x=>(opd e i).bind fun i=>match x,i with
  |.slice (some a) len _,.int _ i=>if 0<=i/\i<len then some (.pointer (some (a.add (i.toNat*es))))else none
  |_,_=>none)
 |.sliceArr n es x lo hi mx=>Jj H ((opd e x).bind fun x=>(ZI e lo).bind fun lo=>(ZI e hi).bind fun hi=>(ZI e mx).bind fun mx=>match x with
  |.pointer (some a)=>(J8 n n lo hi mx).bind fun(l,h,m)=>some (.slice (some (a.add (l*es))) (h-l) (m-l))
  |_=>none)
 |.sliceSl es x lo hi mx=>(opd e x).bind fun x=>(ZI e lo).bind fun lo=>(ZI e hi).bind fun hi=>(ZI e mx).bind fun mx=>match x with
  |.slice (some a) len cap=>(J8 len cap lo hi mx).bind fun(l,h,m)=>(liveAt H a.block).bind fun o =>
    if o.exact\/¬o.own\/es<=o.es then some (.slice (some (a.add (l*es))) (h-l) (m-l),H,some [a.block],[])else none
  |.slice none 0 0=>(J8 0 0 lo hi mx).bind fun _=>some (.slice none 0 0,H,some [],[])
  |_=>none
 |.sliceStr x lo hi=>Jj H ((opd e x).bind fun x=>(ZI e lo).bind fun lo=>(ZI e hi).bind fun hi=>match x with
  |.string s=>(J8 s.size s.size lo hi none).bind fun(l,h,_)=>some (.string (s.extract l h))
  |_=>none)
 |.makeSlice zero bytes l c=>(opd e l).bind fun l=>(opd e c).bind fun c=>match l,c with
  |.int _ l,.int _ c=>if 0<=l/\l<=c/\c*bytes<=2^47/\0<bytes/\0<zero.length then
    some (.slice H.length l.toNat c.toNat,H++[Ob.fresh ((Qa c.toNat zero).flatten)],some [],[])else none
  |_,_=>none
 |.extract x i=>Jj H ((opd e x).bind fun x=>match x with | .tuple vs=>vs.toList[i]? | _=>none)
 |.mkIface t x=>Jj H ((opd e x).bind fun x=>some (.iface t x))
 |.mkFunc fn first captured=>Jj H ((Xb e first).bind fun fs=>(Xb e captured).bind fun cs=>some (.func fn fs.toArray cs.toArray))
 |.nilCheck x=>Jj H ((opd e x).bind fun x=>match x with | .pointer (some a)=>some (.pointer (some a))|_=>none)
 |.s2ap n x=>Jj H ((opd e x).bind fun x=>match x with | .slice (some a) len _=>if n<=len/\0<n then some (.pointer (some a))else none|_=>none)
 |.append es bytes s x=>(opd e s).bind fun s=>(opd e x).bind fun x=>Jw es bytes H s x
 |.copy es d s=>(opd e d).bind fun d=>(opd e s).bind fun s=>match d with
  |.slice base dl _=>(lenV s).bind fun sl=>(elemsOf H es (min sl dl) s).bind fun cs=>match base with
   |some a=>(storeAt H a cs).bind fun H'=>some (.int .i64 (min sl dl:Nat),H',none,[a.block])
   |none=>if dl=0 then some (.int .i64 0,H,none,[])else none
  |_=>none
 |.clear z x=>(opd e x).bind fun x=>match x with
  |.slice (some a) n _=>(storeAt H a (Builtin.zeroCells z.toArray n).toList).bind fun H'=>some (.tuple #[],H',none,[a.block])
  |_=>none
 |.len str x=>Jj H ((opd e x).bind fun x=>match x with | .slice _ n _=>if str then none else some (.int .i64 n) | .string s=>if str then some (.int .i64 s.size)else none|_=>none)
 |.minmax mx x y=>Jj H ((opd e x).bind fun x=>(opd e y).bind fun y=>match x,y with
  |.int k a,.int k' b=>if k=k' then some (.int k (if mx then(if b>a then b else a)else(if b<a then b else a)))else none
  |_,_=>none)
 |.call .. | .callv .. =>none
def Q1(base:Nat)(log:List Nat):List Nat->List Nat
 |[]=>log
 |i::r=>if i<base/\i∉log then Q1 base (log++[i]) r else Q1 base log r
structure St where
 env:Env
 h:List Ob
 log:List Nat
abbrev Rec:=Option (List Nat)×List Nat
def Env.put(e:Env)(dst:Option Nat)(v:Value):Env :=
 match dst with
 |some d=>(d,v)::e
 |none=>e
def guardOf(e:Env):Option (Nat×Bool)->Option Bool
 |none=>some true
 |some (t,want)=>(e.get t).bind fun v=>match v with | .bool b=>some (b==want) | .tuple _=>some false|_=>none
def Wj(r s:Rec):Bool :=
 (r.2.isEmpty || (match s.1 with|some l=>r.2.all fun i => !l.contains i|none=>false)) &&
 (s.2.isEmpty || (match r.1 with|some l=>s.2.all fun i => !l.contains i|none=>false))
def ZC(recs:List Rec)(pairs:List (Nat×Nat)):Bool :=
 pairs.all fun(i,j)=>match recs[i]?,recs[j]? with
  |some r,some s=>Wj r s
  |_,_=>false
def St.after(s:St)(keep:Option (List Nat)):St :=
 match keep with
 |some k=>{ s with env:=s.env.keep k }
 |none=>s
def Zt(e:Env)(H:List Ob):List (Nat×Option (Option Nat))->Option (List Value)
 |[]=>some []
 |(t,how)::r=>(e.get t).bind fun v=>(match how with
   |none=>some v
   |some n=>match v with
    |.pointer (some a)=>(liveAt H a.block).bind fun o=>if a.spot.isNone then Jn n o.c a.off else none
    |_=>none).bind fun v=>(Zt e H r).bind fun vs=>some (v::vs)
def packed:List Value->Value
 |[v]=>v
 |vs=>.tuple vs.toArray
def Qr(k:Nat):List Value->Env
 |[]=>[]
 |v::r=>(k,v)::Qr (k+1) r
structure Tab where
 fn:Nat->Option AFun
 ext:Nat->List Value->Option Value
mutual
def Z6(T:Tab)(f:Nat)(args:List Value)(H:List Ob):Option (Value×List Ob×List Nat) :=
 match T.fn f with
 |some fn=>do
  let xs <- Q0 T H.length fn.body ⟨Qr 0 args,H,[]⟩
  match xs.1 with
  |.exit _=>none
  |_=>(Zt xs.2.env xs.2.h fn.results).bind fun vs=>some (packed vs,xs.2.h,xs.2.log)
 |none=>if args.all rf then(T.ext f args).bind fun v=>some (v,H,[])else none
 partial_fixpoint
def J9(T:Tab)(o:AOp)(e:Env)(H:List Ob):Step :=
 match o with
 |.call f xs byVal =>
   if byVal then
    match Xb e xs with
    |some args=>if args.all rf then do
      let r <- Z6 T f args []
      if rf r.1 then some (r.1,H,some [],[])else none
     else none
    |none=>none
   else
    match Xb e xs with
    |some args=>do
     let r <- Z6 T f args H
     some (r.1,r.2.1,none,r.2.2)
    |none=>none
 |.callv f xs =>
   match opd e f,Xb e xs with
   |some (.func (.func f) first captured),some args=>do
    let r <- Z6 T f (first.toList++args++captured.toList) H
    some (r.1,r.2.1,none,r.2.2)
   |_,_=>none
 |o=>Qz H e o
 partial_fixpoint
def evOps(T:Tab)(base:Nat)(ops:List AOper)(s:St)(recs:List Rec):Option (St×List Rec) :=
 match ops with
 |[]=>some (s,recs)
 |o::r =>
   match guardOf s.env o.guard with
   |some true=>do
    let x <- J9 T o.op s.env s.h
    evOps T base r ⟨s.env.put o.dst x.1,x.2.1,Q1 base s.log x.2.2.2⟩ (recs++[(x.2.2.1,x.2.2.2)])
   |some false=>evOps T base r ⟨s.env.put o.dst undef,s.h,s.log⟩ (recs++[(some [],[])])
   |none=>none
 partial_fixpoint
def Q0(T:Tab)(base:Nat)(c:ACode)(s:St):Option (AExit×St) :=
 match c with
 |.skip=>some (.normal,s)
 |.region ops keep pairs=>do
  let r <- evOps T base ops s []
  if ZC r.2 pairs then some (.normal,r.1.after keep)else none
 |.seq a b=>do
  let r <- Q0 T base a s
  match r.1 with
  |.normal=>Q0 T base b r.2
  |x=>some (x,r.2)
 |.cond c a b =>
  match opd s.env c with
  |some (.bool true)=>Q0 T base a s
  |some (.bool false)=>Q0 T base b s
  |_=>none
 |.block id b=>do
  let r <- Q0 T base b s
  match r.1 with
  |.exit i=>if i=id then some (.normal,r.2)else some (.exit i,r.2)
  |x=>some (x,r.2)
 |.loop b=>do
  let r <- Q0 T base b s
  match r.1 with
  |.normal=>Q0 T base (.loop b) r.2
  |x=>some (x,r.2)
 |.exit id=>some (.exit id,s)
 |.ret=>some (.ret,s)
 partial_fixpoint
end
def X9(P:Program)(t:TypeId):Option Nat:=(P.info? t).map (·.size)
def Hq(P:Program)(t:TypeId):Option Nat:=(P.info? t).map (·.bytes)
def Wy(P:Program)(t:TypeId):Option (List Value):=((P.info? t).bind (·.zero)).bind fun v=>if v.cells.toList.all Z4 then some v.cells.toList else none
def Gt(P:Program)(t:TypeId):Option (Option Nat) :=
 match P.underlying t with
 |some (.struct _)|some (.array _ _)=>(X9 P t).map some
 |some _=>some none
 |none=>none
def Up(P:Program)(pe:TypeId->Option (List Bool)):Nat->List Field->Option (List Bool)
 |_,[]=>some []
 | off, f :: fs => if f.offset = off ∧ f.name ≠ "_" then (pe f.type).bind fun ks => (Up P pe (off + ks.length) fs).map fun l => ks ++ l else none
def Ww(P:Program):Nat->TypeId->Option (List Bool)
 |0,_=>none
 |d+1,t=>(match P.underlying t with
  |some (.int _)=>some [true]
  |some .bool=>some [false]
  |some (.array n e)=>(Ww P d e).map fun ks=>(Qa n ks).flatten
  |some (.struct fs)=>if P.stoodInHeld t then none else Up P (Ww P d) 0 fs.toList
  |_=>none).bind fun ks=>if X9 P t=some ks.length then some ks else none
def LC(P:Program):Nat->TypeId->Bool
 |0,_=>false
 |d+1,t=>match P.underlying t with
  |some (.int _)|some .bool|some .string=>true
  |some (.array _ e)=>LC P d e
  |some (.struct fs)=>fs.toList.all fun f=>LC P d f.type
  |_=>false
def Yd(place:Nat->Option (Nat×Nat)):List (Nat×Operand)->Option (List (Nat×Nat×Operand))
 |[]=>some []
 |(i,x)::r=>(place i).bind fun(o,n)=>(Yd place r).map fun l=>(o,n,x)::l
def VW:Nat->Operand->Bool
 |0,.const (.pointer none)|1,.const (.slice none _ _)|2,.const .nilFunc|3,.const .nilIface|4,.const (.map none)=>true
 |_,_=>false
def Kf:TypeDesc->Nat
 |.pointer _=>0 | .slice _=>1 | .func .. =>2 | .interface _=>3 | .map .. =>4|_=>5
def Wh:Operand->Bool
 |.const v=>rf v&&(match v with | .agg cs=>cs.toList.all oneCellB | .tuple _=>false|_=>true)
 |.global _=>false
 |_=>true
def compOp(P:Program)(o:Oper):Option AOp :=
 match o.op with
 |.move x | .assign x=>some (.move x)
 |.pick c a b=>some (.pick c a b)
 |.alloc t=>(Wy P t).map .alloc
 |.box _ x=>some (.box x)
 |.load t a=>(Gt P t).map fun n=>.load n a
 |.store t a v=>(X9 P t).map fun n=>.store n a v
 |.nilCheck x=>some (.nilCheck x)
 |.binOp op t x y _ =>
  match op with
  |.eql | .neq =>
   match P.underlying t with
   |some (.int _)|some .string=>some (.bin op x y)
   |some .bool=>some (.eqv none (op==.neq) x y)
   |some (.array ..)|some (.struct _)=>if P.eqGuardType P.depth t then none else(Ww P 20 t).map fun ks=>.eqv (some ks) (op==.neq) x y
   |some d=>if VW (Kf d) y then some (.isNil (Kf d) (op==.neq) x)else none
   |_=>none
  |_=>some (.bin op x y)
 |.unOp op _ x=>some (.un op x)
 |.convert s t x =>
  match P.underlying s,P.underlying t with
  |some (.int _),some (.int k)=>some (.conv k x)
  |some .string,some .string=>some (.convStr x)
  |some .string,some (.slice e)=>if P.underlying e matches some (.int .u8)then some (.s2b x)else none
  |some (.slice e),some .string=>if P.underlying e matches some (.int .u8)then some (.b2s x)else none
  |some (.slice _),some (.slice e)=>if s=t then(if P.underlying e matches some (.int .u8)then some (.convSl x)else none)else none
  |_,_=>none
 |.makeInterface t x=>if P.underlying t matches some (.interface _)then none else if(P.underlying t).isSome then some (.mkIface t x)else none
 |.makeFunc fn f c=>some (.mkFunc fn f.toList c.toList)
 |.makeSlice t l c =>
  match P.underlying t with
  |some (.slice e)=>(Wy P e).bind fun z=>(Hq P e).bind fun b=>if X9 P e=some z.length then some (.makeSlice z b l c)else none
  |_=>none
 |.slice t x lo hi mx =>
  match P.underlying t with
  |some (.array n e)=>(X9 P e).map fun s=>.sliceArr n s x lo hi mx
  |some (.slice e)=>(X9 P e).map fun s=>.sliceSl s x lo hi mx
  |some .string=>if mx.isNone then some (.sliceStr x lo hi)else none
  |_=>none
 |.fieldAddr s x f =>
  match P.underlying s with
  |some (.struct fs)=>(fs[f]?).bind fun f=>(X9 P f.type).bind fun n=>if n=0 then none else some (.fieldAddr f.offset x)
  |_=>none
 |.field s x f =>
  match P.underlying s with
  |some (.struct fs)=>(fs[f]?).bind fun f=>(Gt P f.type).map fun n=>.field n f.offset x
  |_=>none
 |.indexAddr t x i =>
  match P.underlying t with
  |some (.array n e)=>(X9 P e).map fun s=>.indexAddr n s x i
  |some (.slice e)=>(X9 P e).map fun s=>.indexSl s x i
  |_=>none
 |.index t x i =>
  match P.underlying t with
  |some (.array n e)=>(X9 P e).bind fun s=>(Gt P e).map fun m=>.index m n s x i
  |some .string=>some (.indexStr x i)
  |_=>none
 |.build t ps =>
  match P.underlying t with
  |some (.struct fs)=>if fs.toList.all (fun f=>(X9 P f.type).isSome)then(Wy P t).bind fun z=>(Yd (fun i=>(fs[i]?).bind fun f=>(X9 P f.type).map fun n=>(f.offset,n)) ps.toList).map fun l=>.build z l else none
  |some (.array _ e)=>(Wy P t).bind fun z=>(X9 P e).bind fun s=>(Yd (fun i=>some (i*s,s)) ps.toList).map fun l=>.build z l
  |_=>none
 |.buildSlice t len ps =>
  match P.underlying t with
  |some (.slice e)=>(Wy P e).bind fun z=>(X9 P e).bind fun s =>
    if len*s<=2^24/\0<s/\z.length=s then(Yd (fun i=>some (i*s,s)) ps.toList).map fun l=>.buildSlice (Qa len z).flatten len l else none
  |_=>none
 |.extract x i=>some (.extract x i)
 |.sliceToArrayPointer t x =>
  match P.underlying t with
  |some (.array n _)=>if 0<n then some (.s2ap n x)else none
  |_=>none
 |.call c =>
  match c.callee with
  |.value (.func f)=>some (.call f c.args.toList (match P.funcs[f]? with
    |some fn=>fn.params.all (LC P 20)&&fn.resultTypes.all (LC P 20)&&fn.nfree==0&&fn.params.size==c.args.size
    |none=>false))
  |.value x=>some (.callv x c.args.toList)
  |.builtin .append =>
   match c.args.toList,c.argTypes.toList with
   |[s,x],[ts,tx]=>match P.underlying ts,P.underlying tx with
    |some (.slice e),some (.slice _)|some (.slice e),some .string=>(Wy P e).bind fun z=>(Hq P e).bind fun b=>if X9 P e=some z.length then some (.append z.length b s x)else none
    |_,_=>none
   |_,_=>none
  |.builtin .copy =>
   match c.args.toList,c.argTypes.toList with
   |[d,s],td::_=>match P.underlying td with
    |some (.slice e)=>(X9 P e).map fun n=>.copy n d s
    |_=>none
   |_,_=>none
  |.builtin .clear =>
   match c.args.toList,c.argTypes.toList with
   |[x],[t]=>match P.underlying t with
    |some (.slice e)=>(Wy P e).map fun z=>.clear z x
    |_=>none
   |_,_=>none
  |.builtin .len =>
   match c.args.toList,c.argTypes.toList with
   |[x],[t]=>match P.underlying t with
    |some (.array n _)=>some (.move (.const (.int .i64 n)))
    |some .string=>some (.len true x)
    |some (.slice _)=>some (.len false x)
    |_=>none
   |_,_=>none
  |.builtin .min=>match c.args.toList with | [x,y]=>some (.minmax false x y)|_=>none
  |.builtin .max=>match c.args.toList with | [x,y]=>some (.minmax true x y)|_=>none
  |_=>none
 |_=>none
def qB(acc:List Nat)(es:List Edge):Nat :=
 es.foldl (fun u e=>if Region.binds .any e then u|||(2^e.on|||acc.getD e.on 0)else u) 0
def Vz(ops:List Oper):List Nat :=
 ops.foldl (init:=[]) fun acc o=>acc++[qB acc o.after.toList]
def iS(l:List Operand):List Nat:=l.filterMap fun | .tmp t=>some t|_=>none
def namesOf(ops:List Oper)(o:Oper):List Nat :=
 iS o.op.operands.toList++(match o.guard with|some (g,_)=>((ops[g]?).bind (·.dst)).toList|none=>[])
def AOp.free:AOp->Bool
 |.load .. | .store .. | .sliceSl .. | .convSl .. | .call _ _ false | .callv .. | .append .. | .copy .. | .clear .. | .b2s .. =>false
 |_=>true
def AOp.quiet:AOp->Bool
 |.store .. | .call _ _ false | .callv .. | .append .. | .copy .. | .clear .. =>false
 |_=>true
def idx{α:Type}(l:List α):List (Nat×α):=(ZH l.length).zip l
def Kj(ups:List Nat):List (Nat×Nat) :=
 (idx ups).flatMap fun(j,u)=>((ZH j).filter fun i => !u.testBit i).map fun i=>(i,j)
def Ax(ops:List Oper)(prs:List (Nat×Nat)):Bool :=
 prs.all fun(i,j)=>match ops[i]?,ops[j]? with
  |some a,some b=>(match a.dst with|some d => !(namesOf ops b).contains d&&b.dst != some d|none=>true) &&
    (match b.dst with|some d => !(namesOf ops a).contains d|none=>true)
  |_,_=>false
def BI(ops:List Oper):Option (Nat×Bool)->Option (Option (Nat×Bool))
 |none=>some none
 |some (g,want)=>((ops[g]?).bind (·.dst)).map fun t=>some (t,want)
def Ye(P:Program)(n:Nat)(all:List Oper):List Oper->Option (List AOper)
 |[]=>some []
 |o::r=>if o.op.operands.toList.all Wh&&o.dst.all (fun d=>decide (d<n))then(compOp P o).bind fun a=>(BI all o.guard).bind fun g=>(Ye P n all r).map fun l=>⟨o.dst,a,g⟩::l else none
def Dc(ops:List Oper):Bool :=
 (idx ops).all fun(j,o)=>o.after.toList.all fun e => !Region.binds .any e || decide (e.on<j)
def B6(l:List AOper)(prs:List (Nat×Nat)):List (Nat×Nat) :=
 prs.filter fun(i,j)=>match l[i]?,l[j]? with
  |some a,some b => !(a.op.free || b.op.free || (a.op.quiet&&b.op.quiet))
  |_,_=>true
def comp(P:Program)(n:Nat):Code->Option ACode
 |.skip=>some .skip
 |.region _ ops draw=>(Ye P n ops.toList ops.toList).bind fun l =>
   if draw then
    let prs:=Kj (Vz ops.toList)
    if Dc ops.toList&&Ax ops.toList prs then some (.region l none (B6 l prs))else none
   else some (.region l none [])
 |.seq a b=>(comp P n a).bind fun x=>(comp P n b).map fun y=>.seq x y
 |.cond c a b=>if Wh c then(comp P n a).bind fun x=>(comp P n b).map fun y=>.cond c x y else none
 |.block id b=>(comp P n b).map fun x=>.block id x
 |.loop b=>(comp P n b).map fun x=>.loop x
 |.exit id=>some (.exit id)
 |.ret=>some .ret
 |_=>none
def compFun(P:Program)(fn:Func):Option AFun :=
 fn.body.bind fun c=>(comp P fn.ntmps c).bind fun a =>
  ((fn.results.toList.mapM fun
   |.tmp t=>some (t,none)
   |.cell t ty=>(Gt P ty).map fun n=>(t,some n)):Option (List (Nat×Option (Option Nat)))).map fun rs=>⟨a,rs⟩
def ACode.strip:ACode->ACode
 |.region ops _ prs=>.region ops none prs
 |.seq a b=>.seq a.strip b.strip
 |.cond c a b=>.cond c a.strip b.strip
 |.block id b=>.block id b.strip
 |.loop b=>.loop b.strip
 |c=>c
def AFun.strip(f:AFun):AFun:=⟨f.body.strip,f.results⟩
end Go.Ev
namespace Go.Ev
open Go.RowKit
inductive Kind where|exact|grown|foreign
 deriving DecidableEq
structure Place where
 block:Nat
 base:Nat
 size:Nat
 es:Nat
 kind:Kind
def Place.capOk(pl:Place)(off cap cap':Nat):Prop :=
 match pl.kind with
 |.exact=>cap'=cap
 |.grown=>cap'=cap\/off+cap'*pl.es<=pl.size
 |.foreign=>True
def Place.far(pl:Place)(cap':Nat):Prop:=cap'=0/\pl.kind=.foreign
abbrev Pl:=Nat->Option Place
mutual
inductive VRel(ρ:Pl):Value->Value->Prop
 |same {v:Value}:Z4 v=true->VRel ρ v v
 |ptr {a:Addr} {pl:Place}:ρ a.block=some pl->a.spot=none->VRel ρ (.pointer (some a)) (.pointer (some ⟨pl.block,pl.base+a.off,none⟩))
 |slice {a:Addr} {pl:Place} {len cap:Nat} {a':Addr} {cap':Nat}:ρ a.block=some pl->a.spot=none->(a'.spot=none\/pl.far cap')->(a'.block=pl.block\/pl.far cap') ->
   (a'.off=pl.base+a.off\/cap'=0)->len<=cap->cap<=cap'->pl.capOk a'.off cap cap'->VRel ρ (.slice (some a) len cap) (.slice (some a') len cap')
 |func {fn:Fn} {f f' c c':List Value}:LRel ρ f f'->LRel ρ c c'->VRel ρ (.func fn ⟨f⟩ ⟨c⟩) (.func fn ⟨f'⟩ ⟨c'⟩)
 |iface {t:TypeId} {v v':Value}:VRel ρ v v'->VRel ρ (.iface t v) (.iface t v')
 |agg {l l':List Value}:LRel ρ l l'->(∀v∈l,oneCellB v=true)->VRel ρ (.agg ⟨l⟩) (.agg ⟨l'⟩)
 |tuple {l l':List Value}:LRel ρ l l'->VRel ρ (.tuple ⟨l⟩) (.tuple ⟨l'⟩)
inductive LRel(ρ:Pl):List Value->List Value->Prop
 |nil:LRel ρ [] []
 |cons {a b:Value} {l l':List Value}:VRel ρ a b->LRel ρ l l'->LRel ρ (a::l) (b::l')
end
def PlLe(ρ ρ':Pl):Prop:=∀id pl,ρ id=some pl->ρ' id=some pl
theorem PlLe.refl(ρ:Pl):PlLe ρ ρ:=fun _ _ h=>h
theorem PlLe.trans{a b c:Pl}(h:PlLe a b)(k:PlLe b c):PlLe a c:=fun i p e=>k i p (h i p e)
mutual
theorem VRel.mono{ρ ρ':Pl}(h:PlLe ρ ρ'){v v':Value}(hv:VRel ρ v v'):VRel ρ' v v' :=
 match hv with
 |.same hs=>.same hs
 |.ptr a b=>.ptr (h _ _ a) b
 |.slice a b c d e f g i=>.slice (h _ _ a) b c d e f g i
 |.func a b=>.func (LRel.mono h a) (LRel.mono h b)
 |.iface a=>.iface (VRel.mono h a)
 |.agg a b=>.agg (LRel.mono h a) b
 |.tuple a=>.tuple (LRel.mono h a)
theorem LRel.mono{ρ ρ':Pl}(h:PlLe ρ ρ'){l l':List Value}(hl:LRel ρ l l'):LRel ρ' l l' :=
 match hl with
 |.nil=>.nil
 |.cons a b=>.cons (VRel.mono h a) (LRel.mono h b)
end
variable{ρ:Pl}
theorem LRel.length{l l':List Value}(h:LRel ρ l l'):l.length=l'.length:=by
 induction l generalizing l' with
 |nil=>cases h;rfl
 |cons a l ih=>cases h with|cons _ h=>simp[ih h]
theorem LRel.get{l l':List Value}(h:LRel ρ l l'){i:Nat}{v:Value}(hi:l[i]?=some v):∃v',l'[i]?=some v'/\VRel ρ v v':=by
 induction l generalizing l' i with
 |nil=>simp at hi
 |cons a l ih =>
  cases h with
  |cons hv hl =>
   cases i with
   |zero=>simp at hi;subst hi;exact⟨_,by simp,hv⟩
   |succ i=>simp at hi;obtain⟨v',h1,h2⟩:=ih hl hi;exact⟨v',by simpa using h1,h2⟩
theorem LRel.of_get{l l':List Value}(hl:l.length=l'.length)(h:∀(i:Nat) (v:Value),l[i]?=some v->∃v',l'[i]?=some v'/\VRel ρ v v'):LRel ρ l l':=by
 induction l generalizing l' with
 |nil=>cases l' with|nil=>exact .nil|cons _ _=>simp at hl
 |cons a l ih =>
  cases l' with
  |nil=>simp at hl
  |cons b l' =>
   obtain⟨v',h1,h2⟩:=h 0 a wd
   simp at h1;subst h1
   exact .cons h2 (ih (by simpa using hl) fun i v hv=>by have:=h (i+1) v (by simpa using hv);simpa using this)
theorem LRel.append{a a' b b':List Value}(h:LRel ρ a a')(k:LRel ρ b b'):LRel ρ (a++b) (a'++b'):=by
 induction a generalizing a' with
 |nil=>cases h;exact k
 |cons x a ih=>cases h with|cons hv hl=>exact .cons hv (ih hl)
theorem LRel.take{a a':List Value}(h:LRel ρ a a')(n:Nat):LRel ρ (a.take n) (a'.take n):=by
 induction a generalizing a' n with
 |nil=>cases h;simp;exact .nil
 |cons x a ih=>cases h with|cons hv hl=>cases n with
  |zero=>simp;exact .nil
  |succ n=>simp;exact .cons hv (ih hl n)
theorem LRel.drop{a a':List Value}(h:LRel ρ a a')(n:Nat):LRel ρ (a.drop n) (a'.drop n):=by
 induction a generalizing a' n with
 |nil=>cases h;simp;exact .nil
 |cons x a ih=>cases h with|cons hv hl=>cases n with
  |zero=>simp;exact .cons hv hl
  |succ n=>simp;exact ih hl n
theorem LRel.set{a a':List Value}(h:LRel ρ a a')(n:Nat){v v':Value}(hv:VRel ρ v v'):LRel ρ (a.set n v) (a'.set n v'):=by
 induction a generalizing a' n with
 |nil=>cases h;simp;exact .nil
 |cons x a ih=>cases h with|cons hx hl=>cases n with
  |zero=>simp;exact .cons hv hl
  |succ n=>simp;exact .cons hx (ih hl n)
theorem LRel.same{l:List Value}(h:l.all Z4=true):LRel ρ l l:=by
 induction l with
 |nil=>exact .nil
 |cons a l ih=>simp at h;exact .cons (.same h.1) (ih (by simpa using h.2))
theorem OU{fn:Fn}{f c:List Value}(h:Z4 (.func fn ⟨f⟩ ⟨c⟩)=true):f=[]/\c=[]:=by
 cases fn<;>simp[Z4]at h
 exact h
theorem VRel.of_scalar{v v':Value}(hs:Z4 v=true)(h:VRel ρ v v'):v'=v:=by
 cases h with
 |same _=>rfl
 |ptr _ _=>simp[Z4]at hs
 |slice=>simp[Z4]at hs
 |func a b =>
  obtain⟨rfl,rfl⟩:=OU hs
  cases a;cases b;rfl
 |iface=>simp[Z4]at hs
 |agg=>simp[Z4]at hs
 |tuple=>simp[Z4]at hs
theorem LRel.of_scalars{l l':List Value}(hs:l.all Z4=true)(h:LRel ρ l l'):l'=l:=by
 induction l generalizing l' with
 |nil=>cases h;rfl
 |cons a l ih=>cases h with|cons hv hl=>simp at hs;rw[hv.of_scalar hs.1,ih (by simpa using hs.2) hl]
theorem NV(cs:Array Value):Bw (.agg cs)=cs.toList.all Z4:=rfl
theorem S0(cs:Array Value):rf (.agg cs)=cs.toList.all Z4:=rfl
theorem NS(cs:Array Value):rf (.tuple cs)=cs.toList.all Bw:=rfl
theorem DN{v:Value}(h:Bw v=true):Z4 v=true\/∃cs,v=.agg cs:=by
 cases v<;>first|exact .inr ⟨_,rfl⟩|exact .inl h
theorem NU{v:Value}(h:rf v=true):Bw v=true\/∃cs,v=.tuple cs:=by
 cases v<;>first|exact .inr ⟨_,rfl⟩|exact .inl h
theorem VRel.of_rfIn{v v':Value}(hs:Bw v=true)(h:VRel ρ v v'):v'=v:=by
 rcases DN hs with h1|⟨cs,rfl⟩
 ·exact h.of_scalar h1
 ·cases h with
  |same h=>simp[Z4]at h
  |agg a b=>rw[NV]at hs;rw[a.of_scalars hs]
theorem LRel.of_rfIns{l l':List Value}(hs:l.all Bw=true)(h:LRel ρ l l'):l'=l:=by
 induction l generalizing l' with
 |nil=>cases h;rfl
 |cons a l ih=>cases h with|cons hv hl=>simp at hs;rw[hv.of_rfIn hs.1,ih (by simpa using hs.2) hl]
theorem VRel.of_rf{v v':Value}(hs:rf v=true)(h:VRel ρ v v'):v'=v:=by
 rcases NU hs with h1|⟨cs,rfl⟩
 ·exact h.of_rfIn h1
 ·cases h with
  |same h=>simp[Z4]at h
  |tuple a=>rw[NS]at hs;rw[a.of_rfIns hs]
theorem VRel.rfIn_any{ρ':Pl}{v v':Value}(hs:Bw v=true)(h:VRel ρ v v'):VRel ρ' v v':=by
 rcases DN hs with h1|⟨cs,rfl⟩
 ·rw[h.of_scalar h1];exact .same h1
 ·cases h with
  |same h=>simp[Z4]at h
  |agg a b=>rw[NV]at hs;rw[a.of_scalars hs];exact .agg (LRel.same hs) b
theorem LRel.rfIn_any{ρ':Pl}{l l':List Value}(hs:l.all Bw=true)(h:LRel ρ l l'):LRel ρ' l l':=by
 induction l generalizing l' with
 |nil=>cases h;exact .nil
 |cons a l ih=>cases h with|cons hv hl=>simp at hs;exact .cons (hv.rfIn_any hs.1) (ih (by simpa using hs.2) hl)
theorem VRel.rf_any{ρ':Pl}{v v':Value}(hs:rf v=true)(h:VRel ρ v v'):VRel ρ' v v':=by
 rcases NU hs with h1|⟨cs,rfl⟩
 ·exact h.rfIn_any h1
 ·cases h with
  |same h=>simp[Z4]at h
  |tuple a=>rw[NS]at hs;exact .tuple (a.rfIn_any hs)
theorem LRel.rf_any{ρ':Pl}{l l':List Value}(hs:l.all rf=true)(h:LRel ρ l l'):LRel ρ' l l':=by
 induction l generalizing l' with
 |nil=>cases h;exact .nil
 |cons a l ih=>cases h with|cons hv hl=>simp at hs;exact .cons (hv.rf_any hs.1) (ih (by simpa using hs.2) hl)
theorem XK{v:Value}(h:Z4 v=true):oneCellB v=true:=by
 cases v<;>simp_all[Z4,oneCellB]
theorem VRel.oneCell{v v':Value}(h:VRel ρ v v'):oneCellB v'=oneCellB v:=by
 cases h<;>rfl
theorem VRel.of_const{v:Value}(h:Wh (.const v)=true):VRel ρ v v:=by
 simp only[Wh,ZY]at h
 obtain⟨h1,h2⟩:=h
 cases v with
 |agg cs=>obtain⟨l⟩:=cs;rw[S0]at h1;exact .agg (LRel.same h1) (fun v hv=>XK (by simp at h1;exact h1 v hv))
 |tuple vs=>simp at h2
 |_=>exact .same h1
theorem VRel.cells{v v':Value}(h:VRel ρ v v'):LRel ρ v.cells.toList v'.cells.toList:=by
 cases h with
 |agg a b=>exact a
 |same hs=>cases v<;>first|exact .cons (.same hs) .nil|(simp[Z4]at hs)
 |ptr a b=>exact .cons (.ptr a b) .nil
 |slice a b c d e f g i=>exact .cons (.slice a b c d e f g i) .nil
 |func a b=>exact .cons (.func a b) .nil
 |iface a=>exact .cons (.iface a) .nil
 |tuple a=>exact .cons (.tuple a) .nil
theorem VRel.cells_one{v v':Value}(h:VRel ρ v v')(hn:oneCellB v=true\/∃cs,v=.agg cs):∀x∈v.cells.toList,oneCellB x=true:=by
 cases h with
 |agg a b=>exact b
 |same hs=>cases v<;>simp_all[Value.cells,Z4,oneCellB]
 |tuple a=>simp[oneCellB]at hn
 |_=>simp[Value.cells,oneCellB]
def Unfr(fr:Nat×Nat)(n:Nat):Prop:=fr.1=fr.2\/n<=fr.1
theorem Unfr.free{fr:Nat×Nat}{n i:Nat}(h:Unfr fr n)(hi:i<n):¬(fr.1<=i/\i<fr.2):=by
 unfold Unfr at h;omega
structure ObjRel(ρ:Pl)(w:World)(pl:Place)(ob:Ob):Prop where
 kind:pl.kind=if ob.own then(if ob.exact then .exact else .grown)else .foreign
 es:pl.es=ob.es
 block:∃cs e fr,w.heap[pl.block]?=some (.cells cs e fr)/\cs.size=pl.size/\pl.base+ob.c.length<=cs.size /\
  (∀i v,ob.c[i]?=some v->oneCellB v=true/\∃v',cs[pl.base+i]?=some v'/\VRel ρ v v') /\
  (ob.own=true->Unfr fr cs.size)
structure RelF(ρ:Pl)(c:Nat->Option Ob)(w:World):Prop where
 bound:∀id pl,ρ id=some pl->pl.block<w.heap.size
 obj:∀id ob pl,c id=some ob->ρ id=some pl->ob.live=true->ObjRel ρ w pl ob
 inj:∀i j oi oj pi pj,c i=some oi->c j=some oj->ρ i=some pi->ρ j=some pj->oi.live=true->oi.own=true->oj.live=true->i≠j->pi.block≠pj.block
abbrev hp(H:List Ob):Nat->Option Ob:=fun i=>H[i]?
structure Ext(ρ ρ':Pl)(n n':Nat):Prop where
 le:PlLe ρ ρ'
 dom:∀id pl,ρ' id=some pl->ρ id=none->n<=id/\id<n'
theorem Ext.refl(ρ:Pl)(n n':Nat):Ext ρ ρ n n':=⟨.refl _,fun id pl h k=>by rw[h]at k;cases k⟩
structure Frm(ρ ρ':Pl)(c c':Nat->Option Ob)(w w':World):Prop where
 os:w'.os=w.os
 tape:w'.tape=w.tape
 output:w'.output=w.output
 size:w.heap.size<=w'.heap.size
 blocks:∀b,b<w.heap.size->(∀id ob pl,c id=some ob->ρ id=some pl->ob.live=true->ob.own=true->pl.block≠b)->w'.heap[b]?=w.heap[b]?
 fresh:∀id pl,ρ' id=some pl->ρ id=none->w.heap.size<=pl.block \/
  ∃i ob pl0,c i=some ob/\ρ i=some pl0/\ob.live=true/\ob.own=true/\pl0.block=pl.block/\(∀ob',c' i=some ob'->ob'.live=false)
theorem Frm.refl(ρ:Pl)(c c':Nat->Option Ob)(w:World):Frm ρ ρ c c' w w :=
 ⟨rfl,rfl,rfl,Qs _,fun _ _ _=>rfl,fun id pl h k=>by rw[h]at k;cases k⟩
theorem Frm.drawn(ρ:Pl)(c c':Nat->Option Ob)(w:World)(d:Nat):Frm ρ ρ c c' w { w with drawn:=d } :=
 ⟨rfl,rfl,rfl,Qs _,fun _ _ _=>rfl,fun id pl h k=>by rw[h]at k;cases k⟩
theorem ObjRel.same_block{w w':World}{pl:Place}{ob:Ob}{ρ':Pl}(h:ObjRel ρ w pl ob)(hle:PlLe ρ ρ')(hb:w'.heap[pl.block]?=w.heap[pl.block]?):ObjRel ρ' w' pl ob:=by
 obtain⟨k,e,cs,el,fr,h1,h2,h3,h4,h5⟩:=h
 refine⟨k,e,cs,el,fr,hb.trans h1,h2,h3,fun i v hi =>?_,h5⟩
 obtain⟨a,v',b,c⟩:=h4 i v hi
 exact⟨a,v',b,c.mono hle⟩
theorem RelF.drawn{c:Nat->Option Ob}{w:World}(h:RelF ρ c w)(d:Nat):RelF ρ c { w with drawn:=d } :=
 ⟨h.bound,fun id ob pl a b l=>(h.obj id ob pl a b l).same_block (.refl _) rfl,h.inj⟩
end Go.Ev
namespace Go.Ev
open Go.RowKit
section
variable{ρ:Pl}{e:Env}
def OpRel(ρ:Pl)(e:Env)(a:Act)(xs:List Operand):Prop:=∀x∈xs,∀v,opd e x=some v->VRel ρ v (a.eval x)
theorem OpRel.head{ρ:Pl}{e:Env}{a:Act}{x:Operand}{xs:List Operand}(h:OpRel ρ e a (x::xs)){v:Value}(hv:opd e x=some v):VRel ρ v (a.eval x):=h x wd v hv
theorem OpRel.tail{ρ:Pl}{e:Env}{a:Act}{x:Operand}{xs:List Operand}(h:OpRel ρ e a (x::xs)):OpRel ρ e a xs:=fun y hy=>h y (by simp[hy])
theorem OpRel.of_sub{ρ:Pl}{e:Env}{a:Act}{xs ys:List Operand}(h:OpRel ρ e a xs)(hs:∀y∈ys,y∈xs):OpRel ρ e a ys:=fun y hy=>h y (hs y hy)
theorem MH{a:Act}{xs:List Operand}{vs:List Value}(h:OpRel ρ e a xs)(hv:Xb e xs=some vs):LRel ρ vs (xs.map a.eval):=by
 induction xs generalizing vs with
 |nil=>simp[Xb]at hv;subst hv;exact .nil
 |cons x xs ih =>
  simp only[Xb,Qd,Qk]at hv
  obtain⟨v,h1,vs',h2,rfl⟩:=hv
  exact .cons (h.head h1) (ih h.tail h2)
theorem VQ{a:Act}{x:Option Operand}{v:Option Value}(h:OpRel ρ e a x.toList)(hv:ZI e x=some v) :
  (v=none/\x.map a.eval=none)\/∃u u',v=some u/\x.map a.eval=some u'/\VRel ρ u u':=by
 cases x with
 |none=>simp[ZI]at hv;subst hv;exact .inl ⟨rfl,rfl⟩
 |some x =>
  simp only[ZI,Qd,Qk]at hv
  obtain⟨u,h1,rfl⟩:=hv
  exact .inr ⟨u,_,rfl,rfl,h x wd u h1⟩
def LD:Next->Value->Prop
 |.value v,u=>v=u
 |.skip,u=>u=undef
 |_,_=>False
structure Post(ρ:Pl)(H:List Ob)(w:World)(v:Value)(H':List Ob)(v':Value)(w':World)(ρ':Pl):Prop where
 ext:Ext ρ ρ' H.length H'.length
 val:VRel ρ' v v'
 rel:RelF ρ' (hp H') w'
 frm:Frm ρ ρ' (hp H) (hp H') w w'
def Free(ρ:Pl)(n n':Nat):Prop:=∀id,n<=id->id<n'->ρ id=none
def OpOk(P:Program)(o:Oper)(e:Env)(H:List Ob)(v:Value)(H':List Ob):Prop :=
 ∀(ρ:Pl) (a:Act) (w:World),OpRel ρ e a o.op.operands.toList->RelF ρ (hp H) w->Free ρ H.length H'.length ->
  ∃nx v' w' ρ',(execOp a.eval o).run P w=.ok nx w'/\LD nx v'/\Post ρ H w v H' v' w' ρ'
end
section
variable{P:Program}{o:Oper}{e:Env}{H H':List Ob}{v:Value}
theorem OpOk.pure(h:∀(ρ:Pl) (a:Act) (w:World),OpRel ρ e a o.op.operands.toList->RelF ρ (hp H) w->∃v',(execOp a.eval o).run P w=.ok (.value v') w/\VRel ρ v v') :
  OpOk P o e H v H:=fun ρ a w h1 h2 _=>by
 obtain⟨v',h3,h4⟩:=h ρ a w h1 h2
 exact⟨_,v',w,ρ,h3,rfl,.refl _ _ _,h4,h2,.refl _ _ _ _⟩
end
theorem Ov(v:Value):v.oneCell'=oneCellB v:=by cases v<;>rfl
section runs
variable{P:Program}{w:World}
section
variable{t el:TypeId}{n b:Nat}{cs:Array Value}
theorem Xs(h:X9 P t=some n):(sizeOf t).run P w=.ok n w:=by
 simp only[X9,QF]at h
 obtain⟨i,hi,rfl⟩:=h
 simp[sizeOf,typeInfo,hi]
theorem AT(h:Hq P t=some n):∃i,(typeInfo t).run P w=.ok i w/\i.bytes=n:=by
 simp only[Hq,QF]at h
 obtain⟨i,hi,rfl⟩:=h
 exact⟨i,by simp[typeInfo,hi],rfl⟩
theorem WQ{z:List Value}(h:Wy P t=some z):z.all Z4=true/\∃v,(zeroValue t).run P w=.ok v w/\v.cells.toList=z:=by
 simp only[Wy,Qd]at h
 obtain⟨v,⟨i,hi,hz⟩,h⟩:=h
 split at h
 ·cases h
  exact⟨by assumption,v,by simp[zeroValue,typeInfo,hi,hz],rfl⟩
 ·cases h
theorem AU{n:Option Nat}(h:Gt P t=some n):∃b,(isAgg t).run P w=.ok b w/\(b=n.isSome)/\∀k,n=some k->X9 P t=some k:=by
 unfold Gt at h
 split at h
 ·rename_i fs hu
  simp only[QF]at h
  obtain⟨k,hk,rfl⟩:=h
  exact⟨true,by simp[isAgg,run_underlying hu],rfl,fun k' e=>by cases e;exact hk⟩
 ·rename_i m e hu
  simp only[QF]at h
  obtain⟨k,hk,rfl⟩:=h
  exact⟨true,by simp[isAgg,run_underlying hu],rfl,fun k' e=>by cases e;exact hk⟩
 ·rename_i d hu h1 h2
  cases h
  refine⟨false,?_,rfl,fun k' e=>by cases e⟩
  simp only[isAgg,Sem.run_bind,run_underlying h2,Result.andThen_ok]
  cases d<;>first|rfl|exact absurd rfl (hu _)|exact absurd rfl (h1 _ _)
 ·cases h
theorem A8{fr:Nat×Nat}(hb:w.heap[b]?=some (.cells cs el fr))(off:Nat):w.cell? ⟨b,off,none⟩=cs[off]? := by
 simp[World.cell?,hb]
theorem gi{fr:Nat×Nat}(hb:w.heap[b]?=some (.cells cs el fr))(off:Nat):w.frozen? ⟨b,off,none⟩=(decide (fr.1<=off)&&decide (off<fr.2)):=by
 obtain⟨lo,hi⟩:=fr
 simp[World.frozen?,hb]
theorem Kt(b off n:Nat):(⟨b,off,none⟩:Addr).add n=⟨b,off+n,none⟩:=by
 unfold Addr.add;split
 ·subst_vars;rfl
 ·rfl
theorem run_loadCellsFrom{b off:Nat}{cs:Array Value}{el:TypeId}{fr:Nat×Nat}(hb:w.heap[b]?=some (.cells cs el fr)) :
  ∀(n i:Nat) (acc:Array Value),off+i+n<=cs.size->(loadCellsFrom ⟨b,off,none⟩ i n acc).run P w=.ok (acc++((cs.toList.drop (off+i)).take n).toArray) w
 |0,i,acc,_=>by simp[loadCellsFrom]
 |n+1,i,acc,h=>by
  have hc:w.cell? ⟨b,off+i,none⟩=some (cs[off+i]'qr):=by rw[A8 hb];exact ZG qr
  simp only[loadCellsFrom,Sem.run_bind,Kt,run_load,hc,Result.andThen_ok]
  rw[run_loadCellsFrom hb n (i+1) _ qr]
  congr 1
  apply Ji.1
  simp only[XS,Array.toList_push,List.append_assoc]
  congr 1
  rw[Jp (show off+i<cs.toList.length by simpa using(by omega:off+i<cs.size))]
  simp[Zb]
theorem run_loadCells{off:Nat}{fr:Nat×Nat}(hb:w.heap[b]?=some (.cells cs el fr))(h:off+n<=cs.size) :
  (loadCells ⟨b,off,none⟩ n).run P w=.ok ((cs.toList.drop off).take n).toArray w:=by
 rw[loadCells,run_loadCellsFrom hb n 0 #[] qr];simp
theorem DL(v:Value)(vs:List Value):∀(l:List Value) (n:Nat),n<l.length ->
  (l.set n v).take (n+1)++(vs++(l.set n v).drop (n+1+vs.length))=l.take n++(v::vs++l.drop (n+(vs.length+1)))
 |[],n,h=>by simp at h
 |x::l,0,_=>by simp[show 0+1+vs.length=vs.length+1 by omega]
 |x::l,n+1,h=>by
  have:=DL v vs l n (by simpa using h)
  simp only[Yi,List.take_succ_cons,Qn,List.cons.injEq,true_and]
  rw[show n+1+1+vs.length=(n+1+vs.length)+1 by omega,show n+1+(vs.length+1)=(n+(vs.length+1))+1 by omega,Fq,Fq]
  simpa using this
theorem WY{b off:Nat}{el:TypeId}{fr:Nat×Nat}:∀(vs:List Value) (i:Nat) (cs:Array Value) (w:World),w.heap[b]?=some (.cells cs el fr)->off+i+vs.length<=cs.size ->
  (∀v∈vs,oneCellB v=true)->(∀k,k<vs.length->¬(fr.1<=off+i+k/\off+i+k<fr.2)) ->
  (storeCells ⟨b,off,none⟩ vs i).run P w=.ok () { w with heap:=w.heap.setIfInBounds b (.cells (cs.toList.take (off+i)++(vs++cs.toList.drop (off+i+vs.length))).toArray el fr) }
 |[],i,cs,w,hb,_,_,_=>by
  simp only[storeCells,Sem.run_pure,ZT,Jl,Ql,List.take_append_drop]
  congr 1
  have:w.heap.setIfInBounds b (.cells cs.toList.toArray el fr)=w.heap:=by
   apply KK
   intro k
   rw[Xq]
   split
   ·subst_vars;split
    ·simp[hb]
    ·rename_i h;simp at h;simp[WO h]
   ·rfl
  rw[this]
 |v::vs,i,cs,w,hb,h,h1,h2=>by
  simp only[Zv]at h
  have hlt:off+i<cs.size:=qr
  have hc:w.cell? ⟨b,off+i,none⟩=some (cs[off+i]'hlt):=by rw[A8 hb];exact ZG hlt
  have hf:w.frozen? ⟨b,off+i,none⟩=false:=by
   rw[gi hb]
   have:=h2 0 wd
   simp only[Jl]at this
   cases e:(decide (fr.1<=off+i)&&decide (off+i<fr.2))with
   |false=>rfl
   |true=>simp at e;exact absurd e this
  have hs:w.setCell ⟨b,off+i,none⟩ v={ w with heap:=w.heap.setIfInBounds b (.cells (cs.setIfInBounds (off+i) v) el fr) }:=by
   unfold World.setCell
   congr 1
   apply KK
   intro k
   simp only[KN,Xq]
   by_cases e:b=k
   ·subst e
    have hlt':b<w.heap.size:=by
     rcases ZL b w.heap.size with h|h
     ·exact h
     ·simp[WO h]at hb
    have hb':w.heap[b]=.cells cs el fr:=by rw[ZG hlt']at hb;exact Xp hb
    simp[hlt',hb']
   ·simp[e]
  simp only[storeCells,Sem.run_bind,Kt]
  rw[run_store P w _ v _ (by rw[Ov];exact h1 v wd),hc]
  simp only[hf,ZM,if_false,Result.andThen_ok,hs]
  have hlt':b<w.heap.size:=by
   rcases ZL b w.heap.size with h|h
   ·exact h
   ·simp[WO h]at hb
  rw[WY (el:=el) (fr:=fr) vs (i+1) (cs.setIfInBounds (off+i) v) _ (by simp[hlt']) (by simp;omega) (fun u hu=>h1 u (by simp[hu]))
   (fun k hk=>by have:=h2 (k+1) (by simp;omega);rw[show off+(i+1)+k=off+i+(k+1) by omega];exact this)]
  congr 1
  simp only[World.mk.injEq,and_true]
  apply KK
  intro k
  simp only[Xq]
  by_cases e:b=k
  ·subst e
   simp only[hlt',Array.size_setIfInBounds,if_true,Qk,Obj.cells.injEq,and_true]
   apply Ji.1
   simp only[Array.toList_setIfInBounds,Zv]
   exact DL v vs cs.toList (off+i) (by simpa using hlt)
  ·simp[e]
end
end runs
end Go.Ev
namespace Go.Ev
open Go.RowKit
theorem J3{H H':List Ob}{r:Option Value}{v:Value}{t:Option (List Nat)}{M:List Nat}(h:Jj H r=some (v,H',t,M)):r=some v/\H'=H/\t=some []/\M=[]:=by
 cases r with
 |none=>simp[Jj]at h
 |some u=>simp[Jj]at h;obtain⟨rfl,rfl,rfl,rfl⟩:=h;simp
theorem VRel.bool{ρ:Pl}{b:Bool}{v:Value}(h:VRel ρ (.bool b) v):v=.bool b:=h.of_scalar rfl
theorem VRel.int{ρ:Pl}{k:IntKind}{n:Int}{v:Value}(h:VRel ρ (.int k n) v):v=.int k n:=h.of_scalar rfl
theorem VRel.string{ρ:Pl}{s:ByteArray}{v:Value}(h:VRel ρ (.string s) v):v=.string s:=h.of_scalar rfl
theorem VRel.ptr_inv{ρ:Pl}{a:Addr}{v:Value}(h:VRel ρ (.pointer (some a)) v):∃pl,ρ a.block=some pl/\a.spot=none/\v=.pointer (some ⟨pl.block,pl.base+a.off,none⟩):=by
 cases h with
 |same h=>simp[Z4]at h
 |ptr h k=>exact⟨_,h,k,rfl⟩
theorem VRel.slice_inv{ρ:Pl}{a:Addr}{len cap:Nat}{v:Value}(h:VRel ρ (.slice (some a) len cap) v):∃pl a' cap',ρ a.block=some pl/\a.spot=none/\(a'.spot=none\/pl.far cap')/\(a'.block=pl.block\/pl.far cap') /\
  (a'.off=pl.base+a.off\/cap'=0)/\len<=cap/\cap<=cap'/\pl.capOk a'.off cap cap'/\v=.slice (some a') len cap':=by
 cases h with
 |same h=>simp[Z4]at h
 |slice a b c d e f g i=>exact⟨_,_,_,a,b,c,d,e,f,g,i,rfl⟩
theorem VRel.nslice{ρ:Pl}{len cap:Nat}{v:Value}(h:VRel ρ (.slice none len cap) v):v=.slice none len cap/\len=0/\cap=0:=by
 cases h with
 |same h=>simp[Z4]at h;exact⟨rfl,h.1,h.2⟩
theorem VRel.agg_inv{ρ:Pl}{cs:Array Value}{v:Value}(h:VRel ρ (.agg cs) v):∃cs',v=.agg cs'/\LRel ρ cs.toList cs'.toList/\∀x∈cs.toList,oneCellB x=true:=by
 cases h with
 |same h=>simp[Z4]at h
 |agg a b=>exact⟨_,rfl,a,b⟩
theorem VRel.tuple_inv{ρ:Pl}{cs:Array Value}{v:Value}(h:VRel ρ (.tuple cs) v):∃cs',v=.tuple cs'/\LRel ρ cs.toList cs'.toList:=by
 cases h with
 |same h=>simp[Z4]at h
 |tuple a=>exact⟨_,rfl,a⟩
section
variable{P:Program}{o:Oper}{e:Env}{H H':List Ob}{v:Value}{t:Option (List Nat)}{M:List Nat}
section
variable{x y:Operand}{ty s:TypeId}{r:Value}
theorem bW(ho:o.op=.move x\/o.op=.assign x)(hr:Qz H e (.move x)=some (v,H',t,M)):OpOk P o e H v H':=by
 obtain⟨h1,rfl,_,_⟩:=J3 hr
 refine .pure fun ρ a w hx _=>⟨a.eval x,?_,?_⟩
 ·rcases ho with ho|ho<;>simp[execOp,ho]
 ·refine hx x ?_ v h1
  rcases ho with ho|ho<;>simp[ho,Op.operands]
theorem si{c:Operand}(ho:o.op=.pick c x y)(hr:Qz H e (.pick c x y)=some (v,H',t,M)):OpOk P o e H v H':=by
 obtain⟨h1,rfl,_,_⟩:=J3 hr
 simp only[Qd]at h1
 obtain⟨cv,hc,xv,hxv,yv,hyv,h1⟩:=h1
 refine .pure fun ρ a w hx _ =>?_
 rw[ho]at hx
 have hc':=hx c (by simp[Op.operands]) cv hc
 have hx':=hx x (by simp[Op.operands]) xv hxv
 have hy':=hx y (by simp[Op.operands]) yv hyv
 split at h1
 ·rename_i b
  have:=hc'.bool
  cases h1
  refine⟨if b then a.eval x else a.eval y,by simp[execOp,ho,this,asBool],?_⟩
  cases b<;>simpa
 ·cases h1
theorem Lj{x y:ByteArray}(h:x.size+y.size<=2^47):(Op.stringOp .add x y)=pure (.string (x++y)):=by
 have h':¬(((x.size+y.size:Nat):Int)>IntKind.i64.max):=by
  have:IntKind.i64.max=9223372036854775807:=ww
  rw[this];omega
 unfold Op.stringOp
 simp only[h',if_false]
theorem ui{op:BinOp}{x y:Value}(h:Ju op x y=some r)(w:World)(t:TypeId):(binOp op t x y).run P w=.ok r w:=by
  unfold Ju at h
  split at h
  · rename_i k a k' b
    split at h
    · simp only[ZU]at h
      split at h
      · cases h
      · rename_i hn;cases h;simp[binOp,Op.shift,hn]
    · simp only[ZU]at h
      split at h
      · cases h
      · rename_i hn;cases h;simp[binOp,Op.shift,hn]
    · rename_i n1 n2
      split at h
      · rename_i hk
        subst hk
        cases op<;>simp only[Jb]at h<;>first
          |(cases h;done)
          |(exact absurd rfl n1)
          |(exact absurd rfl n2)
          |(cases h;simp[binOp,Op.intArith];done)
          |(cases h;simp[binOp,Op.intBits,Zr];done)
          |(cases h;simp[binOp,Op.intCmp];done)
          | (split at h
             · cases h
             · rename_i hz;cases h;simp[binOp,Op.intDiv,hz])
      · cases h
  · rename_i a b
    cases op<;>simp only[Sj]at h<;>first
      |(cases h;done)
      |(cases h;simp[binOp,Op.stringOp];done)
      | (split at h
         · rename_i hz;cases h;simp[binOp,Lj hz]
         · cases h)
  · cases h
theorem Pg{op:BinOp}{x y:Value}(h:Ju op x y=some r)(w:World)(t:TypeId)(p q:Operand):(eqGuard op t p q x y).run P w=.ok () w:=by
 unfold Ju at h
 unfold eqGuard
 split at h
 ·by_cases hc:(!(op matches .eql | .neq))=true
  ·simp[hc]
  ·simp[hc]
 ·by_cases hc:(!(op matches .eql | .neq))=true
  ·simp[hc]
  ·simp[hc]
 ·cases h
theorem SW{op:BinOp}{yt:TypeId}(ho:o.op=.binOp op ty x y yt)(hr:Qz H e (.bin op x y)=some (v,H',t,M)):OpOk P o e H v H':=by
 obtain⟨h1,rfl,_,_⟩:=J3 hr
 simp only[Qd]at h1
 obtain⟨xv,hxv,yv,hyv,h1⟩:=h1
 refine .pure fun ρ a w hx _ =>?_
 rw[ho]at hx
 have hx':=hx x (by simp[Op.operands]) xv hxv
 have hy':=hx y (by simp[Op.operands]) yv hyv
 have hs:Z4 xv=true/\Z4 yv=true/\Z4 v=true:=by
  have h2:=h1
  unfold Ju at h2
  split at h2
  ·refine⟨rfl,rfl,?_⟩
   split at h2
   ·simp only[ZU]at h2;split at h2<;>cases h2;rfl
   ·simp only[ZU]at h2;split at h2<;>cases h2;rfl
   ·split at h2
    ·cases op<;>simp only[Jb]at h2<;>first|(cases h2;done)|(cases h2;rfl)|(split at h2<;>cases h2;rfl)
    ·cases h2
  ·refine⟨rfl,rfl,?_⟩
   cases op<;>simp only[Sj]at h2<;>first|(cases h2;done)|(cases h2;rfl)|(split at h2<;>cases h2;rfl)
  ·cases h2
 refine⟨v,?_,.same hs.2.2⟩
 simp[execOp,ho,VRel.of_scalar hs.1 hx',VRel.of_scalar hs.2.1 hy',Pg h1 w ty x y,ui h1 w ty]
theorem ok_un{op:UnOp}(ho:o.op=.unOp op ty x)(hr:Qz H e (.un op x)=some (v,H',t,M)):OpOk P o e H v H':=by
 obtain⟨h1,rfl,_,_⟩:=J3 hr
 simp only[Qd]at h1
 obtain⟨xv,hxv,h1⟩:=h1
 refine .pure fun ρ a w hx _ =>?_
 rw[ho]at hx
 have hx':=hx x (by simp[Op.operands]) xv hxv
 unfold unV at h1
 split at h1
 ·cases h1;exact⟨_,by simp[execOp,ho,hx'.int,Op.unary,Op.intArith],.same rfl⟩
 ·cases h1;exact⟨_,by simp[execOp,ho,hx'.int,Op.unary,Op.intBits,Zr],.same rfl⟩
 ·cases h1;exact⟨_,by simp[execOp,ho,hx'.bool,Op.unary],.same rfl⟩
 ·cases h1
theorem sn{k:IntKind}{d:TypeId}{ks:IntKind}(hs:P.underlying s=some (.int ks))(hd:P.underlying d=some (.int k))(ho:o.op=.convert s d x)
 (hr:Qz H e (.conv k x)=some (v,H',t,M)):OpOk P o e H v H':=by
  obtain⟨h1,rfl,_,_⟩:=J3 hr
  simp only[Qd]at h1
  obtain⟨xv,hxv,h1⟩:=h1
  refine .pure fun ρ a w hx _ =>?_
  rw[ho]at hx
  have hx':=hx x (by simp[Op.operands]) xv hxv
  split at h1
  · cases h1
    exact⟨_,by simp[execOp,ho,hx'.int,convert,run_underlying hs,run_underlying hd,Conv.intToInt],.same rfl⟩
  · cases h1
theorem SV{d:TypeId}(hs:P.underlying s=some .string)(hd:P.underlying d=some .string)(ho:o.op=.convert s d x)
 (hr:Qz H e (.convStr x)=some (v,H',t,M)):OpOk P o e H v H':=by
  obtain⟨h1,rfl,_,_⟩:=J3 hr
  simp only[Qd]at h1
  obtain⟨xv,hxv,h1⟩:=h1
  refine .pure fun ρ a w hx _ =>?_
  rw[ho]at hx
  have hx':=hx x (by simp[Op.operands]) xv hxv
  split at h1
  · cases h1
    exact⟨_,by simp[execOp,ho,hx'.string,convert,run_underlying hs,run_underlying hd],.same rfl⟩
  · cases h1
theorem SU{i:Nat}(ho:o.op=.extract x i)(hr:Qz H e (.extract x i)=some (v,H',t,M)):OpOk P o e H v H':=by
 obtain⟨h1,rfl,_,_⟩:=J3 hr
 simp only[Qd]at h1
 obtain⟨xv,hxv,h1⟩:=h1
 refine .pure fun ρ a w hx _ =>?_
 rw[ho]at hx
 have hx':=hx x (by simp[Op.operands]) xv hxv
 split at h1
 ·obtain⟨cs',e1,e2⟩:=hx'.tuple_inv
  obtain⟨v',e3,e4⟩:=e2.get h1
  refine⟨v',?_,e4⟩
  have e5:cs'[i]?=some v':=by simpa using e3
  simp[execOp,ho,e1,Instr.extract,e5]
 ·cases h1
theorem SR{d:TypeDesc}(hu:P.underlying ty=some d)(hn:∀ms,d≠.interface ms)(ho:o.op=.makeInterface ty x)
 (hr:Qz H e (.mkIface ty x)=some (v,H',t,M)):OpOk P o e H v H':=by
  obtain⟨h1,rfl,_,_⟩:=J3 hr
  simp only[Qd]at h1
  obtain⟨xv,hxv,h1⟩:=h1
  cases h1
  refine .pure fun ρ a w hx _ =>?_
  rw[ho]at hx
  have hx':=hx x (by simp[Op.operands]) xv hxv
  refine⟨_,?_,.iface hx'⟩
  simp only[execOp,ho,Instr.makeInterface,Sem.run_bind,run_underlying hu,Result.andThen_ok]
  cases d<;>first|rfl|exact absurd rfl (hn _)
theorem eE{fn:Fn}{f c:Array Operand}(ho:o.op=.makeFunc fn f c)(hr:Qz H e (.mkFunc fn f.toList c.toList)=some (v,H',t,M)):OpOk P o e H v H':=by
 obtain⟨h1,rfl,_,_⟩:=J3 hr
 simp only[Qd,Qk]at h1
 obtain⟨fv,hf,cv,hc,rfl⟩:=h1
 refine .pure fun ρ a w hx _ =>?_
 rw[ho]at hx
 have h2:=MH (hx.of_sub (ys:=f.toList) fun y hy=>by simp only[Op.operands,XS,QC];exact .inl hy) hf
 have h3:=MH (hx.of_sub (ys:=c.toList) fun y hy=>by simp only[Op.operands,XS,QC];exact .inr hy) hc
 have e1:f.map a.eval=(f.toList.map a.eval).toArray:=by apply Ji.1;rw[U3]
 have e2:c.map a.eval=(c.toList.map a.eval).toArray:=by apply Ji.1;rw[U3]
 refine⟨_,?_,.func h2 h3⟩
 simp only[execOp,ho,Instr.makeFunc,e1,e2];rfl
theorem Oy(ho:o.op=.nilCheck x)(hr:Qz H e (.nilCheck x)=some (v,H',t,M)):OpOk P o e H v H':=by
 obtain⟨h1,rfl,_,_⟩:=J3 hr
 simp only[Qd]at h1
 obtain⟨xv,hxv,h1⟩:=h1
 refine .pure fun ρ a w hx _ =>?_
 rw[ho]at hx
 have hx':=hx x (by simp[Op.operands]) xv hxv
 split at h1
 ·cases h1
  obtain⟨pl,e1,e2,e3⟩:=hx'.ptr_inv
  exact⟨_,by simp[execOp,ho,e3],.ptr e1 e2⟩
 ·cases h1
end
end
end Go.Ev
namespace Go.Ev
open Go.RowKit
theorem Ku(a:Addr)(h:a.spot=none):a=⟨a.block,a.off,none⟩:=by cases a;cases h;rfl
section
variable{P:Program}{o:Oper}{e:Env}{H H':List Ob}{v:Value}{t:Option (List Nat)}{M:List Nat}{ρ:Pl}
section
variable{x i:Operand}{ty el s:TypeId}{off es n f:Nat}{u:Value}
theorem Im{n:Option Nat}{cs cs':List Value}(h:LRel ρ cs cs')(h1:∀x∈cs,oneCellB x=true)(hp:Jn n cs off=some u) :
  ∃u',Jn n cs' off=some u'/\VRel ρ u u':=by
 cases n with
 |none=>exact h.get hp
 |some n =>
  simp only[Jn]at hp ⊢
  split at hp
  ·cases hp
   rename_i hl
   rw[if_pos (by rw[<-h.length];exact hl)]
   refine⟨_,rfl,.agg ((h.drop off).take n) fun x hx=>h1 x (ZF (QP hx))⟩
  ·cases hp
theorem WZ{n:Option Nat}{cs:Array Value}(ha:Gt P ty=some n)(hp:Jn n cs.toList off=some u)(w:World):(part ty cs off).run P w=.ok u w:=by
 obtain⟨b,hb,hbn,hk⟩:=AU (P:=P) (w:=w) ha
 simp only[part,Sem.run_bind,hb,Result.andThen_ok]
 cases n with
 |none =>
  simp only[Wr]at hbn
  subst hbn
  have:cs[off]?=some u:=by simpa [Jn]using hp
  simp[this]
 |some n =>
  simp only[Gu]at hbn
  subst hbn
  simp only[Jn]at hp
  split at hp
  ·cases hp
   simp only[Sem.run_ite,if_true,Sem.run_bind,Xs (hk n rfl),Result.andThen_ok,Sem.run_pure]
   congr 2
   apply Ji.1
   simp[List.take_drop]
  ·cases hp
theorem mL{n:Option Nat}{fs:Array Field}{fd:Field}(hu:P.underlying s=some (.struct fs))(hf:fs[f]?=some fd)(ho':fd.offset=off)
 (ha:Gt P fd.type=some n) (ho:o.op=.field s x f) (hr:Qz H e (.field n off x)=some (v,H',t,M)):OpOk P o e H v H':=by
  obtain⟨h1,rfl,_,_⟩:=J3 hr
  simp only[Qd]at h1
  obtain⟨xv,hxv,h1⟩:=h1
  refine .pure fun ρ a w hx _ =>?_
  rw[ho]at hx
  have hx':=hx x (by simp[Op.operands]) xv hxv
  split at h1
  · obtain⟨cs',e1,e2,e3⟩:=hx'.agg_inv
    obtain⟨u',e4,e5⟩:=Im e2 e3 h1
    refine⟨u',?_,e5⟩
    subst ho'
    simp[execOp,ho,e1,Instr.field,run_underlying hu,hf,asAgg,WZ ha e4 w]
  · cases h1
theorem mK{n:Option Nat}{len:Nat}(hu:P.underlying ty=some (.array len el))(hs:X9 P el=some es)(ha:Gt P el=some n)(ho:o.op=.index ty x i)
 (hr:Qz H e (.index n len es x i)=some (v,H',t,M)):OpOk P o e H v H':=by
  obtain⟨h1,rfl,_,_⟩:=J3 hr
  simp only[Qd]at h1
  obtain⟨xv,hxv,iv,hiv,h1⟩:=h1
  refine .pure fun ρ a w hx _ =>?_
  rw[ho]at hx
  have hx':=hx x (by simp[Op.operands]) xv hxv
  have hi':=hx i (by simp[Op.operands]) iv hiv
  split at h1
  · split at h1
    · rename_i hb
      obtain⟨cs',e1,e2,e3⟩:=hx'.agg_inv
      obtain⟨u',e4,e5⟩:=Im e2 e3 h1
      refine⟨u',?_,e5⟩
      simp[execOp,ho,e1,hi'.int,Instr.index,asIntOf,run_underlying hu,hb,Xs hs,WZ ha e4 w]
    · cases h1
  · cases h1
theorem Oz{i:Operand}(hu:P.underlying ty=some .string)(ho:o.op=.index ty x i)
 (hr:Qz H e (.indexStr x i)=some (v,H',t,M)):OpOk P o e H v H':=by
  obtain⟨h1,rfl,_,_⟩:=J3 hr
  simp only[Qd]at h1
  obtain⟨xv,hxv,iv,hiv,h1⟩:=h1
  refine .pure fun ρ a w hx _ =>?_
  rw[ho]at hx
  have hx':=hx x (by simp[Op.operands]) xv hxv
  have hi':=hx i (by simp[Op.operands]) iv hiv
  split at h1
  · rename_i s k i
    split at h1
    · rename_i hb
      simp only[Qd]at h1
      obtain⟨b,hbb,h1⟩:=h1
      cases h1
      refine⟨_,?_,.same rfl⟩
      have e:s[i.toNat]?=some b:=by
        have hlt:i.toNat<s.data.toList.length:=by
          rcases ZL i.toNat s.data.toList.length with h|h
          · exact h
          · rw[QI h]at hbb;cases hbb
        have hlt':i.toNat<s.size:=by simpa using hlt
        have e1:s[i.toNat]?=some s[i.toNat]:=getElem?_pos s i.toNat hlt'
        rw[e1]
        rw[Qf hlt]at hbb
        rw[<-hbb];rfl
      simp[execOp,ho,hx'.string,hi'.int,Instr.index,asIntOf,run_underlying hu,hb,e]
    · cases h1
  · cases h1
theorem LB{fs:Array Field}{fd:Field}(hu:P.underlying s=some (.struct fs))(hf:fs[f]?=some fd)(ho':fd.offset=off)
 (hs:X9 P fd.type=some n) (hn:n≠0) (ho:o.op=.fieldAddr s x f) (hr:Qz H e (.fieldAddr off x)=some (v,H',t,M)):OpOk P o e H v H':=by
  obtain⟨h1,rfl,_,_⟩:=J3 hr
  simp only[Qd]at h1
  obtain⟨xv,hxv,h1⟩:=h1
  refine .pure fun ρ a w hx _ =>?_
  rw[ho]at hx
  have hx':=hx x (by simp[Op.operands]) xv hxv
  split at h1
  · rename_i ad
    cases h1
    obtain⟨pl,e1,e2,e3⟩:=hx'.ptr_inv
    refine⟨.pointer (some ⟨pl.block,pl.base+(ad.off+off),none⟩),?_,?_⟩
    · subst ho'
      simp[execOp,ho,e3,Instr.fieldAt,run_underlying hu,hf,Instr.sureAddr,fieldPlace,Xs hs,hn,Kt,Zb]
    · have:ad.add off=⟨ad.block,ad.off+off,none⟩:=by rw[Ku ad e2];exact Kt _ _ _
      rw[this]
      exact .ptr (a:=⟨ad.block,ad.off+off,none⟩) e1 rfl
  · cases h1
theorem LA{len:Nat}(hu:P.underlying ty=some (.array len el))(hs:X9 P el=some es)(ho:o.op=.indexAddr ty x i)
 (hr:Qz H e (.indexAddr len es x i)=some (v,H',t,M)):OpOk P o e H v H':=by
  obtain⟨h1,rfl,_,_⟩:=J3 hr
  simp only[Qd]at h1
  obtain⟨xv,hxv,iv,hiv,h1⟩:=h1
  refine .pure fun ρ a w hx _ =>?_
  rw[ho]at hx
  have hx':=hx x (by simp[Op.operands]) xv hxv
  have hi':=hx i (by simp[Op.operands]) iv hiv
  split at h1
  · rename_i ad k i
    split at h1
    · rename_i hb
      cases h1
      obtain⟨pl,e1,e2,e3⟩:=hx'.ptr_inv
      refine⟨.pointer (some ⟨pl.block,pl.base+(ad.off+i.toNat*es),none⟩),?_,?_⟩
      · simp[execOp,ho,e3,hi'.int,Instr.indexAt,asIntOf,run_underlying hu,Instr.sureAddr,hb,Xs hs,Kt,Zb]
      · have:ad.add (i.toNat*es)=⟨ad.block,ad.off+i.toNat*es,none⟩:=by rw[Ku ad e2];exact Kt _ _ _
        rw[this]
        exact .ptr (a:=⟨ad.block,ad.off+i.toNat*es,none⟩) e1 rfl
    · cases h1
  · cases h1
theorem SS(hu:P.underlying ty=some (.slice el))(hs:X9 P el=some es)(ho:o.op=.indexAddr ty x i)
 (hr:Qz H e (.indexSl es x i)=some (v,H',t,M)):OpOk P o e H v H':=by
  obtain⟨h1,rfl,_,_⟩:=J3 hr
  simp only[Qd]at h1
  obtain⟨xv,hxv,iv,hiv,h1⟩:=h1
  refine .pure fun ρ a w hx _ =>?_
  rw[ho]at hx
  have hx':=hx x (by simp[Op.operands]) xv hxv
  have hi':=hx i (by simp[Op.operands]) iv hiv
  split at h1
  · rename_i ad len cap k i
    split at h1
    · rename_i hb
      cases h1
      obtain⟨pl,a',cap',e1,e2,e3,e4,e5,e6,e7,e8,e9⟩:=hx'.slice_inv
      replace e3:=e3.resolve_right fun h=>by have:=h.1;omega
      replace e4:=e4.resolve_right fun h=>by have:=h.1;omega
      have hoff:a'.off=pl.base+ad.off:=by rcases e5 with h|h<;>omega
      have ha':a'=⟨pl.block,pl.base+ad.off,none⟩:=by rw[Ku a' e3,e4,hoff]
      refine⟨.pointer (some ⟨pl.block,pl.base+(ad.off+i.toNat*es),none⟩),?_,?_⟩
      · simp[execOp,ho,e9,hi'.int,Instr.indexAt,asIntOf,run_underlying hu,hb,Xs hs,ha',Kt,Zb]
      · have:ad.add (i.toNat*es)=⟨ad.block,ad.off+i.toNat*es,none⟩:=by rw[Ku ad e2];exact Kt _ _ _
        rw[this]
        exact .ptr (a:=⟨ad.block,ad.off+i.toNat*es,none⟩) e1 rfl
    · cases h1
  · cases h1
theorem sg(hu:P.underlying ty=some (.array n el))(ho:o.op=.sliceToArrayPointer ty x)
 (hr:Qz H e (.s2ap n x)=some (v,H',t,M)):OpOk P o e H v H':=by
  obtain⟨h1,rfl,_,_⟩:=J3 hr
  simp only[Qd]at h1
  obtain⟨xv,hxv,h1⟩:=h1
  refine .pure fun ρ a w hx _ =>?_
  rw[ho]at hx
  have hx':=hx x (by simp[Op.operands]) xv hxv
  split at h1
  · rename_i ad len cap
    split at h1
    · rename_i hb
      cases h1
      obtain⟨pl,a',cap',e1,e2,e3,e4,e5,e6,e7,e8,e9⟩:=hx'.slice_inv
      replace e3:=e3.resolve_right fun h=>by have:=h.1;omega
      replace e4:=e4.resolve_right fun h=>by have:=h.1;omega
      have hoff:a'.off=pl.base+ad.off:=by rcases e5 with h|h<;>omega
      have ha':a'=⟨pl.block,pl.base+ad.off,none⟩:=by rw[Ku a' e3,e4,hoff]
      exact⟨.pointer (some ⟨pl.block,pl.base+ad.off,none⟩),by simp[execOp,ho,e9,Instr.arrayAt,run_underlying hu,show ¬len<n by omega,ha'],.ptr e1 e2⟩
    · cases h1
  · cases h1
theorem mI{str:Bool}{d:TypeDesc}(hu:P.underlying ty=some d)(hd:(str=true/\d=.string)\/(str=false/\∃el,d=.slice el))
 {c:Call} (hc1:c.callee=.builtin .len) (hc2:c.args.toList=[x]) (hc3:c.argTypes.toList=[ty]) (ho:o.op=.call c)
 (hr:Qz H e (.len str x)=some (v,H',t,M)):OpOk P o e H v H':=by
  obtain⟨h1,rfl,_,_⟩:=J3 hr
  simp only[Qd]at h1
  obtain⟨xv,hxv,h1⟩:=h1
  refine .pure fun ρ a w hx _ =>?_
  have hca:c.args=#[x]:=Ji.1 hc2
  have hct:c.argTypes=#[ty]:=Ji.1 hc3
  rw[ho]at hx
  have hx':=hx x (by simp[Op.operands,Call.operands,hca]) xv hxv
  split at h1
  · rename_i b l cp
    split at h1
    · cases h1
    · cases h1
      have:∃b' cp',a.eval x=.slice b' l cp':=by
        cases b with
        |none=>exact⟨_,_,hx'.nslice.1⟩
        |some ad=>obtain⟨pl,a',cap',_,_,_,_,_,_,_,_,e9⟩:=hx'.slice_inv;exact⟨_,_,e9⟩
      obtain⟨b',cp',e1⟩:=this
      rcases hd with⟨h,_⟩|⟨_,el,rfl⟩
      · contradiction
      · exact⟨_,by simp[execOp,ho,resolve,hc1,invoke,builtin,Builtin.len_,hca,hct,e1,run_underlying hu,goInt],.same rfl⟩
  · split at h1
    · cases h1
      rcases hd with⟨_,rfl⟩|⟨h,_⟩
      · exact⟨_,by simp[execOp,ho,resolve,hc1,invoke,builtin,Builtin.len_,hca,hct,hx'.string,run_underlying hu,goInt],.same rfl⟩
      · simp_all
    · cases h1
  · cases h1
theorem eF(hu:P.underlying ty=some (.array n el))
 {c:Call} (hc1:c.callee=.builtin .len) (hc2:c.args.toList=[x]) (hc3:c.argTypes.toList=[ty]) (ho:o.op=.call c)
    (hr:Qz H e (.move (.const (.int .i64 n)))=some (v,H',t,M)):OpOk P o e H v H':=by
  obtain⟨h1,rfl,_,_⟩:=J3 hr
  cases h1
  refine .pure fun ρ a w hx _ =>?_
  have hca:c.args=#[x]:=Ji.1 hc2
  have hct:c.argTypes=#[ty]:=Ji.1 hc3
  exact⟨_,by simp[execOp,ho,resolve,hc1,invoke,builtin,Builtin.len_,hca,hct,run_underlying hu,goInt],.same rfl⟩
theorem Is{mx:Bool}{y:Operand}{c:Call}(hc1:c.callee=.builtin (if mx then .max else .min))(hc2:c.args.toList=[x,y])(ho:o.op=.call c)
 (hr:Qz H e (.minmax mx x y)=some (v,H',t,M)):OpOk P o e H v H':=by
  obtain⟨h1,rfl,_,_⟩:=J3 hr
  simp only[Qd]at h1
  obtain⟨xv,hxv,yv,hyv,h1⟩:=h1
  refine .pure fun ρ a w hx _ =>?_
  have hca:c.args=#[x,y]:=Ji.1 hc2
  rw[ho]at hx
  have hx':=hx x (by simp[Op.operands,Call.operands,hca]) xv hxv
  have hy':=hx y (by simp[Op.operands,Call.operands,hca]) yv hyv
  split at h1
  · split at h1
    · cases h1
      cases mx
      · exact⟨_,by simp[execOp,ho,resolve,hc1,invoke,builtin,Builtin.min_,Builtin.min2,hca,hx'.int,hy'.int],.same rfl⟩
      · exact⟨_,by simp[execOp,ho,resolve,hc1,invoke,builtin,Builtin.max_,Builtin.max2,hca,hx'.int,hy'.int],.same rfl⟩
    · cases h1
  · cases h1
theorem WS{x:Option Value}{x':Option Value}{y dflt r:Nat}{code:BoundsCode}(hx:(x=none/\x'=none)\/∃u u',x=some u/\x'=some u'/\VRel ρ u u')(h:Va x y dflt=some r)(w:World) :
  (x=none/\x'=none/\r=dflt)\/∃u',x.isSome=true/\x'=some u'/\r<=y/\∀y',y<=y'->(Instr.sliceBound u' y' code).run P w=.ok r w:=by
 rcases hx with⟨rfl,rfl⟩|⟨u,u',rfl,rfl,hv⟩
 ·simp[Va]at h;exact .inl ⟨rfl,rfl,h.symm⟩
 ·right
  refine⟨u',rfl,rfl,?_⟩
  cases u<;>simp only[Va]at h<;>first|(cases h;done)|skip
  rename_i k i
  split at h
  ·rename_i hb
   cases h
   refine⟨by omega,fun y' hy' =>?_⟩
   have hb':0<=i/\i<=(y':Int):=qr
   simp[hv.int,Instr.sliceBound,asIntOf,hb']
  ·cases h
theorem Gj{isSlice:Bool}{len cap cap':Nat}{lo hi mx lo' hi' mx':Option Value}{l h m:Nat}(hlo:(lo=none/\lo'=none)\/∃u u',lo=some u/\lo'=some u'/\VRel ρ u u')
 (hhi:(hi=none/\hi'=none)\/∃u u',hi=some u/\hi'=some u'/\VRel ρ u u') (hmx:(mx=none/\mx'=none)\/∃u u',mx=some u/\mx'=some u'/\VRel ρ u u')
 (hcap:cap<=cap') (hlen:len<=cap) (hb:J8 len cap lo hi mx=some (l,h,m)) (w:World) :
    ∃m',(Instr.sliceBounds isSlice len cap' lo' hi' mx').run P w=.ok (l,h,m') w/\l<=h/\h<=m/\m<=cap/\(mx=none/\m=cap/\m'=cap'\/mx.isSome=true/\m'=m):=by
  simp only[J8,Qd]at hb
  obtain⟨m0,hm,h0,hh,l0,hl,hb⟩:=hb
  split at hb
  · cases hb
  rename_i hne
  cases hb
  rcases WS (P:=P) (code:=if isSlice then .slice3Acap else .slice3Alen) hmx hm w with⟨rfl,rfl,rfl⟩|⟨um,hms,rfl,hmc,hmr⟩
  · rcases WS (P:=P) (code:=if isSlice then .sliceAcap else .sliceAlen) hhi hh w with⟨rfl,rfl,rfl⟩|⟨uh,hhs,rfl,hhc,hhr⟩
    · rcases WS (P:=P) (code := .sliceB) hlo hl w with⟨rfl,rfl,rfl⟩|⟨ul,hls,rfl,hlc,hlr⟩
      · exact⟨cap',by simp[Instr.sliceBounds],by omega,hlen,Qs _,.inl ⟨rfl,rfl,rfl⟩⟩
      · exact⟨cap',by simp[Instr.sliceBounds,hlr h (Qs _)],hlc,hlen,Qs _,.inl ⟨rfl,rfl,rfl⟩⟩
    · rcases WS (P:=P) (code := .sliceB) hlo hl w with⟨rfl,rfl,rfl⟩|⟨ul,hls,rfl,hlc,hlr⟩
      · exact⟨cap',by simp[Instr.sliceBounds,hhr cap' hcap],by omega,hhc,Qs _,.inl ⟨rfl,rfl,rfl⟩⟩
      · exact⟨cap',by simp[Instr.sliceBounds,hhr cap' hcap,hlr h (Qs _)],hlc,hhc,Qs _,.inl ⟨rfl,rfl,rfl⟩⟩
  · rcases WS (P:=P) (code := .slice3B) hhi hh w with⟨rfl,rfl,rfl⟩|⟨uh,hhs,rfl,hhc,hhr⟩
    · simp[hms]at hne
    · rcases WS (P:=P) (code := .slice3C) hlo hl w with⟨rfl,rfl,rfl⟩|⟨ul,hls,rfl,hlc,hlr⟩
      · exact⟨m,by simp[Instr.sliceBounds,hmr cap' hcap,hhr m (Qs _)],by omega,hhc,hmc,.inr ⟨hms,rfl⟩⟩
      · exact⟨m,by simp[Instr.sliceBounds,hmr cap' hcap,hhr m (Qs _),hlr h (Qs _)],hlc,hhc,hmc,.inr ⟨hms,rfl⟩⟩
end
end
end Go.Ev
namespace Go.Ev
open Go.RowKit
theorem VU{H:List Ob}{id:Nat}{ob:Ob}(h:liveAt H id=some ob):H[id]?=some ob/\ob.live=true:=by
 simp only[liveAt,Qd]at h
 obtain⟨o,h1,h2⟩:=h
 split at h2
 ·cases h2;exact⟨h1,by assumption⟩
 ·cases h2
section
variable{P:Program}{o:Oper}{e:Env}{H H':List Ob}{v:Value}{t:Option (List Nat)}{M:List Nat}{ρ:Pl}
section
variable{ty el:TypeId}{k es:Nat}{b:Bool}{x:Operand}{y:Value}{w:World}
theorem Ow{lo hi:Option Operand}(hu:P.underlying ty=some .string)(ho:o.op=.slice ty x lo hi none)
 (hr:Qz H e (.sliceStr x lo hi)=some (v,H',t,M)):OpOk P o e H v H':=by
  obtain⟨h1,rfl,_,_⟩:=J3 hr
  simp only[Qd]at h1
  obtain⟨xv,hxv,lov,hlo,hiv,hhi,h1⟩:=h1
  refine .pure fun ρ a w hx _ =>?_
  rw[ho]at hx
  have hx':=hx x (by simp[Op.operands]) xv hxv
  have hlo':=VQ (hx.of_sub (ys:=lo.toList) fun y hy=>by simp[Op.operands]at hy ⊢;simp[hy]) hlo
  have hhi':=VQ (hx.of_sub (ys:=hi.toList) fun y hy=>by simp[Op.operands]at hy ⊢;simp[hy]) hhi
  split at h1
  · rename_i s
    simp only[Qd]at h1
    obtain⟨⟨l,h,m⟩,hb,h1⟩:=h1
    dsimp only at h1
    cases h1
    obtain⟨m',hrun,h2,h3,h4,h5⟩:=Gj (P:=P) (isSlice:=false) hlo' hhi' (mx':=none) (.inl ⟨rfl,rfl⟩) (Qs _) (Qs _) hb w
    exact⟨_,by simp[execOp,ho,hx'.string,Instr.sliceAt,run_underlying hu,Instr.slice,hrun],.same rfl⟩
  · cases h1
theorem Ox{n:Nat}{lo hi mx:Option Operand}(hu:P.underlying ty=some (.array n el))(hs:X9 P el=some es)(ho:o.op=.slice ty x lo hi mx)
 (hr:Qz H e (.sliceArr n es x lo hi mx)=some (v,H',t,M)):OpOk P o e H v H':=by
  obtain⟨h1,rfl,_,_⟩:=J3 hr
  simp only[Qd]at h1
  obtain⟨xv,hxv,lov,hlo,hiv,hhi,mxv,hmx,h1⟩:=h1
  refine .pure fun ρ a w hx _ =>?_
  rw[ho]at hx
  have hx':=hx x (by simp[Op.operands]) xv hxv
  have hlo':=VQ (hx.of_sub (ys:=lo.toList) fun y hy=>by simp[Op.operands]at hy ⊢;simp[hy]) hlo
  have hhi':=VQ (hx.of_sub (ys:=hi.toList) fun y hy=>by simp[Op.operands]at hy ⊢;simp[hy]) hhi
  have hmx':=VQ (hx.of_sub (ys:=mx.toList) fun y hy=>by simp[Op.operands]at hy ⊢;simp[hy]) hmx
  split at h1
  · rename_i ad
    simp only[Qd]at h1
    obtain⟨⟨l,h,m⟩,hb,h1⟩:=h1
    dsimp only at h1
    cases h1
    obtain⟨m',hrun,h2,h3,h4,h5⟩:=Gj (P:=P) (isSlice:=false) hlo' hhi' hmx' (Qs _) (Qs _) hb w
    have hm:m'=m:=by rcases h5 with⟨_,rfl,rfl⟩|⟨_,rfl⟩<;>rfl
    subst hm
    obtain⟨pl,e1,e2,e3⟩:=hx'.ptr_inv
    have hadd:ad.add (l*es)=⟨ad.block,ad.off+l*es,none⟩:=by rw[Ku ad e2];exact Kt _ _ _
    refine⟨.slice (some (if m'=l then⟨pl.block,pl.base+ad.off,none⟩else⟨pl.block,pl.base+ad.off+l*es,none⟩)) (h-l) (m'-l),?_,?_⟩
    · simp[execOp,ho,e3,Instr.sliceAt,run_underlying hu,Instr.sureAddr,hrun,Xs hs,Kt]
    · rw[hadd]
      refine .slice (a:=⟨ad.block,ad.off+l*es,none⟩) (pl:=pl) e1 rfl (.inl (by split<;>rfl)) (.inl (by split<;>rfl)) ?_ qr (Qs _) ?_
      · by_cases c:m'=l
        · exact .inr qr
        · exact .inl (by rw[if_neg c];simp[Zb])
      · unfold Place.capOk;split<;>first|rfl|exact .inl rfl|trivial
  · cases h1
theorem SQ{lo hi mx:Option Operand}(hu:P.underlying ty=some (.slice el))(hs:X9 P el=some es)(ho:o.op=.slice ty x lo hi mx)
 (hr:Qz H e (.sliceSl es x lo hi mx)=some (v,H',t,M)):OpOk P o e H v H':=by
  simp only[Qz,Qd]at hr
  obtain⟨xv,hxv,lov,hlo,hiv,hhi,mxv,hmx,h1⟩:=hr
  intro ρ a w hx hrel hfree
  rw[ho]at hx
  have hx':=hx x (by simp[Op.operands]) xv hxv
  have hlo':=VQ (hx.of_sub (ys:=lo.toList) fun y hy=>by simp[Op.operands]at hy ⊢;simp[hy]) hlo
  have hhi':=VQ (hx.of_sub (ys:=hi.toList) fun y hy=>by simp[Op.operands]at hy ⊢;simp[hy]) hhi
  have hmx':=VQ (hx.of_sub (ys:=mx.toList) fun y hy=>by simp[Op.operands]at hy ⊢;simp[hy]) hmx
  split at h1
  · rename_i ad len cap
    simp only[Qd]at h1
    obtain⟨⟨l,h,m⟩,hb,ob,hob,h1⟩:=h1
    dsimp only at h1
    obtain⟨hob1,hob2⟩:=VU hob
    split at h1
    · rename_i hok
      cases h1
      obtain⟨pl,a',cap',e1,e2,e3,e4,e5,e6,e7,e8,e9⟩:=hx'.slice_inv
      obtain⟨m',hrun,h2,h3,h4,h5⟩:=Gj (P:=P) (isSlice:=true) hlo' hhi' hmx' e7 e6 hb w
      have hadd:ad.add (l*es)=⟨ad.block,ad.off+l*es,none⟩:=by rw[Ku ad e2];exact Kt _ _ _
      have hadd':¬m'=l->a'.add (l*es)=⟨a'.block,a'.off+l*es,none⟩:=fun c=>by
        have e3':=e3.resolve_right fun h=>by have h':=h.1;rcases h5 with⟨_,rfl,rfl⟩|⟨_,rfl⟩<;>omega
        rw[Ku a' e3'];exact Kt _ _ _
      have hfar:pl.far cap'->pl.far (m'-l):=fun h=>⟨by have h':=h.1;rcases h5 with⟨_,rfl,rfl⟩|⟨_,rfl⟩<;>omega,h.2⟩
      have hor:=hrel.obj _ _ _ hob1 e1 hob2
      refine⟨.value (.slice (some (if m'=l then a' else a'.add (l*es))) (h-l) (m'-l)),_,w,ρ,?_,rfl,.refl _ _ _,?_,hrel,.refl _ _ _ _⟩
      · simp[execOp,ho,e9,Instr.sliceAt,run_underlying hu,Instr.slice,hrun,Xs hs]
        split<;>rfl
      · rw[hadd]
        refine .slice (a:=⟨ad.block,ad.off+l*es,none⟩) (pl:=pl) e1 rfl (by split;exact e3.imp_right hfar;rename_i c;rw[hadd' c];exact .inl rfl) (by split;exact e4.imp_right hfar;rename_i c;rw[hadd' c];exact e4.imp_right hfar) ?_ qr ?_ ?_
        · by_cases c:m'=l
          · exact .inr qr
          · rw[if_neg c,hadd' c]
            rcases e5 with e5|e5
            · exact .inl (by simp[e5,Zb])
            · rcases h5 with⟨_,rfl,rfl⟩|⟨_,rfl⟩<;>exact .inr qr
        · rcases h5 with⟨_,rfl,rfl⟩|⟨_,rfl⟩<;>omega
        · unfold Place.capOk at e8 ⊢
          split at e8
          · rcases h5 with⟨_,rfl,rfl⟩|⟨_,rfl⟩<;>omega
          · rename_i hk
            have hes:es<=pl.es:=by
              have hk':=hor.kind
              rw[hk]at hk'
              rw[hor.es]
              cases ho1:ob.own<;>cases ho2:ob.exact<;>simp[ho1,ho2]at hk' hok
              exact hok
            rcases h5 with⟨_,rfl,rfl⟩|⟨_,rfl⟩
            · rcases e8 with e8|e8
              · exact .inl qr
              · right
                by_cases c:m'=l
                · rw[if_pos c]
                  subst c
                  simp
                  have:a'.off<=a'.off+m'*pl.es:=Nat.le_add_right _ _
                  omega
                · rw[if_neg c,hadd' c]
                  simp only
                  have:l*es<=l*pl.es:=XR _ hes
                  have h6:(m'-l)*pl.es=m'*pl.es-l*pl.es:=Nat.sub_mul _ _ _
                  have h7:l*pl.es<=m'*pl.es:=Z9 _ qr
                  omega
            · exact .inl rfl
          · trivial
    · cases h1
  · simp only[Qd]at h1
    obtain⟨⟨l,h,m⟩,hb,h1⟩:=h1
    cases h1
    obtain⟨m',hrun,h2,h3,h4,h5⟩:=Gj (P:=P) (isSlice:=true) hlo' hhi' hmx' (Qs _) (Qs _) hb w
    have hz:l=0/\h=0/\m'=0:=by rcases h5 with⟨_,rfl,rfl⟩|⟨_,rfl⟩<;>omega
    obtain⟨rfl,rfl,rfl⟩:=hz
    refine⟨.value (.slice none 0 0),_,w,ρ,?_,rfl,.refl _ _ _,.same rfl,hrel,.refl _ _ _ _⟩
    simp[execOp,ho,hx'.nslice.1,Instr.sliceAt,run_underlying hu,Instr.slice,hrun,Xs hs]
  · cases h1
theorem CG{x:Value}(h:Be k x=some b):(k=0/\∃a,x=.pointer a/\b=a.isNone)\/(k=1/\∃a n m,x=.slice a n m/\b=a.isNone) \/
  (k=2/\((x=.nilFunc/\b=true)\/∃f g c,x=.func f g c/\b=false))\/(k=3/\((x=.nilIface/\b=true)\/∃f g,x=.iface f g/\b=false))\/(k=4/\∃a,x=.map a/\b=a.isNone):=by
 unfold Be at h
 split at h<;>simp_all
theorem fE{x x':Value}(h:VRel ρ x x')(hb:Be k x=some b):Be k x'=some b:=by
 rcases CG hb with⟨rfl,a,rfl,rfl⟩|⟨rfl,a,n,m,rfl,rfl⟩|⟨rfl,⟨rfl,rfl⟩|⟨f,g,c,rfl,rfl⟩⟩|⟨rfl,⟨rfl,rfl⟩|⟨f,g,rfl,rfl⟩⟩|⟨rfl,a,rfl,rfl⟩<;>cases h<;>rfl
theorem YL(hy:VW k (.const y)=true):(k=0/\y=.pointer none)\/(k=1/\∃n m,y=.slice none n m)\/(k=2/\y=.nilFunc)\/(k=3/\y=.nilIface)\/(k=4/\y=.map none):=by
 unfold VW at hy
 split at hy<;>simp_all
theorem OD(d:TypeDesc):(Kf d=0->∃el,d=.pointer el)/\(Kf d=1->∃el,d=.slice el)/\(Kf d=2->∃p q r,d=.func p q r)/\(Kf d=3->∃ms,d=.interface ms)/\(Kf d=4->∃k el,d=.map k el):=by
 cases d<;>simp[Kf]
theorem gu{x:Value}{d:TypeDesc}(hu:P.underlying ty=some d)(hx:Be (Kf d) x=some b)(hy:VW (Kf d) (.const y)=true)(w:World) :
  (Op.equal ty x y).run P w=.ok b w:=by
 unfold Op.equal Op.maxDepth
 rw[Op.equalIn]
 simp only[Sem.run_bind,run_underlying hu,Result.andThen_ok]
 obtain⟨k0,k1,k2,k3,k4⟩:=OD d
 rcases CG hx with⟨hk,a,rfl,rfl⟩|⟨hk,a,n,m,rfl,rfl⟩|⟨hk,h⟩|⟨hk,h⟩|⟨hk,a,rfl,rfl⟩
 ·obtain⟨el,rfl⟩:=k0 hk
  rcases YL hy with⟨_,rfl⟩|⟨h,_⟩|⟨h,_⟩|⟨h,_⟩|⟨h,_⟩<;>first|(cases a<;>rfl)|simp[Kf]at h
 ·obtain⟨el,rfl⟩:=k1 hk
  rcases YL hy with⟨h,_⟩|⟨_,n',m',rfl⟩|⟨h,_⟩|⟨h,_⟩|⟨h,_⟩<;>first|(cases a<;>rfl)|simp[Kf]at h
 ·obtain⟨p,q,r,rfl⟩:=k2 hk
  rcases YL hy with⟨h',_⟩|⟨h',_⟩|⟨_,rfl⟩|⟨h',_⟩|⟨h',_⟩<;>first|(rcases h with⟨rfl,rfl⟩|⟨f,g,c,rfl,rfl⟩<;>rfl)|simp[Kf]at h'
 ·obtain⟨ms,rfl⟩:=k3 hk
  rcases YL hy with⟨h',_⟩|⟨h',_⟩|⟨h',_⟩|⟨_,rfl⟩|⟨h',_⟩<;>first|(rcases h with⟨rfl,rfl⟩|⟨f,g,rfl,rfl⟩<;>rfl)|simp[Kf]at h'
 ·obtain⟨kk,el,rfl⟩:=k4 hk
  rcases YL hy with⟨h,_⟩|⟨h,_⟩|⟨h,_⟩|⟨h,_⟩|⟨_,rfl⟩<;>first|(cases a<;>rfl)|simp[Kf]at h
theorem Gd{x:Value}(hx:Be k x=some b):(∀kk n,x≠.int kk n)/\(∀s,x≠.string s)/\(∀f s,x≠.float f s)/\(∀f s u,x≠.complex f s u)/\(∀cs,x≠.agg cs):=by
 unfold Be at hx
 split at hx<;>simp_all
theorem FH{y:Operand}(hy:VW k y=true):∃u,y=.const u:=by
 unfold VW at hy
 split at hy<;>simp at hy<;>exact⟨_,rfl⟩
theorem binOp_eql{x:Value}(hx:Be k x=some b)(h:(Op.equal ty x y).run P w=.ok b w):(binOp .eql ty x y).run P w=.ok (.bool b) w:=by
 obtain⟨h1,h2,h3,h4,h5⟩:=Gd hx
 cases x<;>first|exact absurd rfl (h1 _ _)|exact absurd rfl (h2 _)|exact absurd rfl (h3 _ _)|exact absurd rfl (h4 _ _ _)|(simp[binOp,h])
theorem binOp_neq{x:Value}(hx:Be k x=some b)(h:(Op.equal ty x y).run P w=.ok b w):(binOp .neq ty x y).run P w=.ok (.bool !b) w:=by
 obtain⟨h1,h2,h3,h4,h5⟩:=Gd hx
 cases x<;>first|exact absurd rfl (h1 _ _)|exact absurd rfl (h2 _)|exact absurd rfl (h3 _ _)|exact absurd rfl (h4 _ _ _)|(simp[binOp,h])
theorem FM{op:BinOp}{u v:Value}(hv:∀cs,v≠.agg cs)(w:World):(eqGuard op ty x (.const u) v u).run P w=.ok () w:=by
 cases v with
 |agg cs=>exact absurd rfl (hv _)
 |nilIface=>cases u<;>cases op<;>simp[eqGuard]
 |_=>cases op<;>simp[eqGuard]
theorem mJ{op:BinOp}{y:Operand}{yt:TypeId}{d:TypeDesc}(hop:op=.eql\/op=.neq)(hu:P.underlying ty=some d)(hy:VW (Kf d) y=true)
 (ho:o.op=.binOp op ty x y yt) (hr:Qz H e (.isNil (Kf d) (op==.neq) x)=some (v,H',t,M)):OpOk P o e H v H':=by
  obtain⟨h1,rfl,_,_⟩:=J3 hr
  simp only[Qd]at h1
  obtain⟨xv,hxv,b,hb,h1⟩:=h1
  cases h1
  obtain⟨u,rfl⟩:=FH hy
  refine .pure fun ρ a w hx _ =>?_
  rw[ho]at hx
  have hx':=hx x (by simp[Op.operands]) xv hxv
  have hb':=fE hx' hb
  have he:=gu (P:=P) hu hb' hy w
  refine⟨_,?_,.same rfl⟩
  have hg:=FM (P:=P) (op:=op) (x:=x) (u:=u) (ty:=ty) (Gd hb').2.2.2.2 w
  have heu:a.eval (.const u)=u:=rfl
  rcases hop with rfl|rfl
  · simp only[execOp,ho,heu,Sem.run_bind,hg,Result.andThen_ok,binOp_eql hb' he,Sem.run_pure];rfl
  · simp only[execOp,ho,heu,Sem.run_bind,hg,Result.andThen_ok,binOp_neq hb' he,Sem.run_pure];rfl
end
end
end Go.Ev
namespace Go.Ev
open Go.RowKit
section
variable{xs:Array Value}{off:Nat}
theorem Ho{ks ls:List Bool}{a b c d:List Value}(h:a.length=ks.length)(h':c.length=ks.length):JA (ks++ls) (a++b) (c++d)=(JA ks a c).bind fun r=>(JA ls b d).bind fun s=>some (r&&s):=by
 induction ks generalizing a c with
 |nil =>
  cases a with
  |nil=>cases c with
   |nil=>simp only[Ql,JA,Qp,Fu];cases JA ls b d<;>rfl
   |cons _ _=>simp at h'
  |cons _ _=>simp at h
 |cons k ks ih=>cases a with
  |nil=>simp at h
  |cons x a=>cases c with
   |nil=>simp at h'
   |cons y c =>
    simp only[Qn,JA,ih (by simpa using h) (by simpa using h')]
    cases Hp k x y with
    |none=>rfl
    |some r =>
     simp only[Qp]
     cases JA ks a c with
     |none=>rfl
     |some s =>
      simp only[Qp]
      cases JA ls b d with
      |none=>rfl
      |some u=>simp[Bool.and_assoc]
theorem Ac:∀ {ks:List Bool} {a c:List Value} {r:Bool},JA ks a c=some r->a.length=ks.length/\c.length=ks.length
 |[],[],[],_,_=>by simp
 |[],_::_,[],_,h=>by simp[JA]at h
 |[],_,_::_,_,h=>by simp[JA]at h
 |_::_,[],_,_,h=>by simp[JA]at h
 |_::_,_::_,[],_,h=>by simp[JA]at h
 |k::ks,x::a,y::c,r,h=>by
  simp only[JA,Qd]at h
  obtain⟨_,_,s,hs,_⟩:=h
  have:=Ac hs
  simp[this.1,this.2]
theorem FO{k:Bool}{x y:Value}{r:Bool}(h:Hp k x y=some r):Z4 x=true/\Z4 y=true:=by
 unfold Hp at h;split at h<;>first|exact⟨rfl,rfl⟩|cases h
theorem Gs:∀ {ks:List Bool} {a c:List Value} {r:Bool},JA ks a c=some r->a.all Z4=true/\c.all Z4=true
 |[],[],[],_,_=>by simp
 |[],_::_,[],_,h=>by simp[JA]at h
 |[],_,_::_,_,h=>by simp[JA]at h
 |_::_,[],_,_,h=>by simp[JA]at h
 |_::_,_::_,[],_,h=>by simp[JA]at h
 |k::ks,x::a,y::c,r,h=>by
  simp only[JA,Qd]at h
  obtain⟨_,h1,s,hs,_⟩:=h
  have:=Gs hs
  have h2:=FO h1
  simp only[KD,h2.1,h2.2,this.1,this.2,Bool.and_self,and_self]
def chunk(xs:Array Value)(off s:Nat):List Value:=(xs.toList.drop off).take s
theorem Da(xs:Array Value)(off s u:Nat):chunk xs off (s+u)=chunk xs off s++chunk xs (off+s) u:=by
 simp only[chunk,List.take_add,XQ]
theorem Y9{s:Nat}(h:off+s<=xs.size):(chunk xs off s).length=s:=by
 simp[chunk];omega
theorem HZ(h:off+1<=xs.size):∃c,chunk xs off 1=[c]/\xs[off]?=some c:=by
 have hlt:off<xs.toList.length:=by simpa using(by omega:off<xs.size)
 refine⟨xs.toList[off],?_,?_⟩
 ·simp only[chunk]
  rw[Jp hlt];simp
 ·rw[ZG qr];rfl
end
section
variable{P:Program}
section
variable{t:TypeId}{n s off:Nat}{xs:Array Value}
theorem LW(h:X9 P t=some n):P.cellsOf t=n/\∃i,P.info? t=some i:=by
 simp only[X9,QF]at h
 obtain⟨i,hi,rfl⟩:=h
 exact⟨by simp[Program.cellsOf,hi],i,hi⟩
def EqAt(P:Program)(D:Nat)(t:TypeId)(ks:List Bool):Prop:=∀(w:World) (xs ys:Array Value) (off:Nat) (b:Bool),off+ks.length<=xs.size->off+ks.length<=ys.size ->
 JA ks (chunk xs off ks.length) (chunk ys off ks.length)=some b ->
 ∃u u',(part t xs off).run P w=.ok u w/\(part t ys off).run P w=.ok u' w/\(Op.equalIn D t u u').run P w=.ok b w
theorem CW{D:Nat}{e:TypeId}{ks:List Bool}(h:EqAt P D e ks)(w:World)(xs ys:Array Value):∀(n k:Nat) (b:Bool),k*ks.length+n*ks.length<=xs.size->k*ks.length+n*ks.length<=ys.size ->
  JA (Qa n ks).flatten (chunk xs (k*ks.length) (n*ks.length)) (chunk ys (k*ks.length) (n*ks.length))=some b->(Op.eqItems D e ks.length xs ys (Ya k n)).run P w=.ok b w
 |0,k,b,_,_,hc=>by simp[chunk,JA]at hc;subst hc;simp[Op.eqItems]
 |n+1,k,b,h1,h2,hc=>by
  rw[Zl,Xd,Xu (n*ks.length) ks.length]at h1 h2 hc
  rw[Da,Da,XC,QO,Ho (by rw[Y9 qr]) (by rw[Y9 qr])]at hc
  simp only[Qd,Qk]at hc
  obtain⟨r,hr,r',hr',rfl⟩:=hc
  obtain⟨u,u',p1,p2,p3⟩:=h w xs ys (k*ks.length) r qr qr hr
  have hk:k*ks.length+ks.length=(k+1)*ks.length:=by rw[Zl,Xd]
  rw[hk]at hr'
  have ih:=CW h w xs ys n (k+1) r' qr qr hr'
  simp only[List.range'_succ,Op.eqItems,Sem.run_bind,p1,p2,p3,Result.andThen_ok]
  cases r
  ·simp
  ·simpa using ih
theorem TZ{D:Nat}{pe:TypeId->Option (List Bool)}(h:∀t ks,pe t=some ks->EqAt P D t ks)(w:World)(xs ys:Array Value):∀(fs:List Field) (off:Nat) (ks:List Bool) (b:Bool),Up P pe off fs=some ks ->
  off+ks.length<=xs.size->off+ks.length<=ys.size->JA ks (chunk xs off ks.length) (chunk ys off ks.length)=some b->(Op.eqFields D xs ys fs).run P w=.ok b w
 |[],off,ks,b,hp,_,_,hc=>by
  simp only[Up,Qk]at hp
  subst hp
  simp[chunk,JA]at hc;subst hc
  simp[Op.eqFields]
 |f::fs,off,ks,b,hp,h1,h2,hc=>by
  simp only[Up]at hp
  split at hp
  ·rename_i hf
   obtain⟨rfl,hn⟩:=hf
   simp only[Qd,QF]at hp
   obtain⟨ks1,hs,ks2,hp,rfl⟩:=hp
   rw[Qj]at h1 h2 hc
   rw[Da,Da,Ho (by rw[Y9 qr]) (by rw[Y9 qr])]at hc
   simp only[Qd,Qk]at hc
   obtain⟨r,hr,r',hr',rfl⟩:=hc
   obtain⟨u,u',p1,p2,p3⟩:=h f.type ks1 hs w xs ys f.offset r qr qr hr
   have ih:=TZ h w xs ys fs (f.offset+ks1.length) ks2 r' hp qr qr hr'
   simp only[Op.eqFields,hn,ne_eq,not_false_eq_true,if_true,Sem.run_bind,p1,p2,p3,Result.andThen_ok]
   cases r
   ·simp
   ·simpa using ih
  ·cases hp
theorem By{d:TypeDesc}(hu:P.underlying t=some d)(hd:(∃fs,d=.struct fs)\/(∃n e,d=.array n e))(hs:X9 P t=some s)(h:off+s<=xs.size)(w:World) :
  (part t xs off).run P w=.ok (.agg (chunk xs off s).toArray) w:=by
 have ha:Gt P t=some (some s):=by
  unfold Gt
  rcases hd with⟨fs,rfl⟩|⟨n,e,rfl⟩<;>simp[hu,hs]
 exact WZ ha (by simp[Jn,chunk,h]) w
theorem UJ{o' u:Nat}(h:o'+u<=s):chunk (chunk xs off s).toArray o' u=chunk xs (off+o') u:=by
 simp only[chunk]
 rw[List.drop_take,List.take_take,XQ]
 congr 1;omega
theorem Pb{ks:List Bool}:(Qa n ks).flatten.length=n*ks.length:=by simp
theorem Ha{d:Nat}{ks:List Bool}(h:Ww P d t=some ks):X9 P t=some ks.length:=by
 cases d with
 |zero=>simp[Ww]at h
 |succ d =>
  unfold Ww at h
  simp only[Qd]at h
  obtain⟨ks',_,h⟩:=h
  split at h
  ·cases h;assumption
  ·cases h
theorem DW:∀(d:Nat) (t:TypeId) (ks:List Bool),Ww P d t=some ks->∀D,d<=D->EqAt P D t ks
 |0,t,ks,h,_,_=>by simp[Ww]at h
 |d+1,t,ks,h,0,hD=>by omega
 |d+1,t,ks,h,D+1,hD=>by
  intro w xs ys off b h1 h2 hc
  have hs:=Ha h
  unfold Ww at h
  simp only[Qd]at h
  obtain⟨ks',h,h'⟩:=h
  have h'':ks'=ks:=by
   split at h'
   ·cases h';rfl
   ·cases h'
  subst h''
  clear h'
  split at h
  ·rename_i k hu
   cases h
   obtain⟨c,e1,e2⟩:=HZ h1
   obtain⟨c',e3,e4⟩:=HZ h2
   have ha:Gt P t=some none:=by simp[Gt,hu]
   refine⟨c,c',WZ ha (by simpa [Jn]using e2) w,WZ ha (by simpa [Jn]using e4) w,?_⟩
   simp only[T4]at hc
   rw[e1,e3]at hc
   simp only[JA,Qd,Qk]at hc
   obtain⟨r,hr,r',rfl,rfl⟩:=hc
   unfold Hp at hr
   split at hr
   ·split at hr
    ·rename_i hk;subst hk;cases hr;simp[run_equalIn_int w D t _ k _ _ hu]
    ·cases hr
   ·simp_all
   ·cases hr
  ·rename_i hu
   cases h
   obtain⟨c,e1,e2⟩:=HZ h1
   obtain⟨c',e3,e4⟩:=HZ h2
   have ha:Gt P t=some none:=by simp[Gt,hu]
   refine⟨c,c',WZ ha (by simpa [Jn]using e2) w,WZ ha (by simpa [Jn]using e4) w,?_⟩
   simp only[T4]at hc
   rw[e1,e3]at hc
   simp only[JA,Qd,Qk]at hc
   obtain⟨r,hr,r',rfl,rfl⟩:=hc
   unfold Hp at hr
   split at hr
   ·simp_all
   ·cases hr;simp[run_equalIn_bool w D t _ _ hu]
   ·cases hr
  ·rename_i n e hu
   simp only[QF]at h
   obtain⟨ks1,hk1,rfl⟩:=h
   have hs1:=Ha hk1
   rw[Pb]at h1 h2 hs hc
   have ih:=DW d e ks1 hk1 D qr
   refine⟨_,_,By hu (.inr ⟨n,e,rfl⟩) hs h1 w,By hu (.inr ⟨n,e,rfl⟩) hs h2 w,?_⟩
   obtain⟨hc1,i,hi⟩:=LW hs1
   rw[run_equalIn_array w D _ _ hu hi,hc1,List.range_eq_range']
   refine CW ih w _ _ n 0 b ?_ ?_ ?_
   ·simp[Y9 h1]
   ·simp[Y9 h2]
   ·simp only[Nat.zero_mul]
    rw[UJ qr,UJ qr]
    exact hc
  ·rename_i fs hu
   split at h
   ·cases h
   rename_i hst
   have ih:∀t ks,Ww P d t=some ks->EqAt P D t ks:=fun t ks h1=>DW d t ks h1 D qr
   refine⟨_,_,By hu (.inl ⟨fs,rfl⟩) hs h1 w,By hu (.inl ⟨fs,rfl⟩) hs h2 w,?_⟩
   have hff:P.fieldsOf t=fs:=by simp[Program.fieldsOf,hu]
   rw[run_equalIn_struct w D t _ _ (by rw[hff];exact hu) (by simpa using hst),hff]
   refine TZ ih w _ _ fs.toList 0 _ b h ?_ ?_ ?_
   ·simp[Y9 h1]
   ·simp[Y9 h2]
   ·rw[UJ qr,UJ qr]
    exact hc
  ·cases h
end
variable{o:Oper}{e:Env}{H H':List Ob}{v:Value}{t:Option (List Nat)}{M:List Nat}
theorem mM{op:BinOp}{x y:Operand}{ty yt:TypeId}{ks:List Bool}{d:TypeDesc}(hop:op=.eql\/op=.neq)(hu:P.underlying ty=some d)(hd:(∃fs,d=.struct fs)\/(∃n e,d=.array n e))(hk:Ww P 20 ty=some ks)
  (hg:P.eqGuardType P.depth ty=false) (ho:o.op=.binOp op ty x y yt) (hr:Qz H e (.eqv (some ks) (op==.neq) x y)=some (v,H',t,M)):OpOk P o e H v H':=by
 obtain⟨h1,rfl,_,_⟩:=J3 hr
 simp only[Qd]at h1
 obtain⟨xv,hxv,yv,hyv,b,hb,h1⟩:=h1
 cases h1
 refine .pure fun ρ a w hx _ =>?_
 rw[ho]at hx
 have hx':=hx x (by simp[Op.operands]) xv hxv
 have hy':=hx y (by simp[Op.operands]) yv hyv
 split at hb
 ·rename_i ks' p q heq
  cases heq
  obtain⟨hl1,hl2⟩:=Ac hb
  have hsc:=Gs hb
  have ex:a.eval x=.agg p:=hx'.of_rf (by rw[S0];exact hsc.1)
  have ey:a.eval y=.agg q:=hy'.of_rf (by rw[S0];exact hsc.2)
  have hs:=Ha hk
  have hsz1:0+ks.length<=p.size:=by simp[<-hl1]
  have hsz2:0+ks.length<=q.size:=by simp[<-hl2]
  have c1:chunk p 0 ks.length=p.toList:=by rw[<-hl1];simp only[chunk,ZS,YU]
  have c2:chunk q 0 ks.length=q.toList:=by rw[<-hl2];simp only[chunk,ZS,YU]
  obtain⟨u,u',p1,p2,p3⟩:=DW 20 ty ks hk Op.maxDepth (by simp[Op.maxDepth]) w p q 0 b hsz1 hsz2 (by rw[c1,c2];exact hb)
  have e1:=By hu hd hs hsz1 w
  have e2:=By hu hd hs hsz2 w
  rw[c1]at e1;rw[c2]at e2
  rw[e1]at p1;rw[e2]at p2
  cases p1;cases p2
  have p4:(Op.equal ty (.agg p) (.agg q)).run P w=.ok b w:=by simpa [Op.equal]using p3
  refine⟨_,?_,.same rfl⟩
  have hgd:(eqGuard op ty x y (.agg p) (.agg q)).run P w=.ok () w:=by
   rcases hop with rfl|rfl<;>simp[eqGuard,hg]
  rcases hop with rfl|rfl
  ·simp only[execOp,ho,ex,ey,Sem.run_bind,hgd,Result.andThen_ok,binOp,p4,Sem.run_pure];rfl
  ·simp only[execOp,ho,ex,ey,Sem.run_bind,hgd,Result.andThen_ok,binOp,p4,Sem.run_pure];rfl
 ·rename_i heq;cases heq
 ·cases hb
theorem wF{op:BinOp}{x y:Operand}{ty yt:TypeId}(hop:op=.eql\/op=.neq)(hu:P.underlying ty=some .bool)(ho:o.op=.binOp op ty x y yt)
  (hr:Qz H e (.eqv none (op==.neq) x y)=some (v,H',t,M)):OpOk P o e H v H':=by
 obtain⟨h1,rfl,_,_⟩:=J3 hr
 simp only[Qd]at h1
 obtain⟨xv,hxv,yv,hyv,b,hb,h1⟩:=h1
 cases h1
 refine .pure fun ρ a w hx _ =>?_
 rw[ho]at hx
 have hx':=hx x (by simp[Op.operands]) xv hxv
 have hy':=hx y (by simp[Op.operands]) yv hyv
 split at hb
 ·rename_i heq;cases heq
 ·rename_i p q heq
  cases hb
  have ex:=hx'.bool
  have ey:=hy'.bool
  have p4:(Op.equal ty (.bool p) (.bool q)).run P w=.ok (p==q) w:=run_equalIn_bool w 9999 ty p q hu
  refine⟨_,?_,.same rfl⟩
  have hgd:(eqGuard op ty x y (.bool p) (.bool q)).run P w=.ok () w:=by
   rcases hop with rfl|rfl<;>simp[eqGuard]
  rcases hop with rfl|rfl
  ·simp only[execOp,ho,ex,ey,Sem.run_bind,hgd,Result.andThen_ok,binOp,p4,Sem.run_pure];rfl
  ·simp only[execOp,ho,ex,ey,Sem.run_bind,hgd,Result.andThen_ok,binOp,p4,Sem.run_pure];rfl
 ·cases hb
end
end Go.Ev
namespace Go.Ev
open Go.RowKit
section
variable{cs v:List Value}{off:Nat}{ρ:Pl}
theorem RZ{v v':Value}(h:VRel ρ v v')(hk:Z7 v=true):∀x∈v.cells.toList,oneCellB x=true:=by
 refine h.cells_one ?_
 cases v<;>first|exact .inl rfl|exact .inr ⟨_,rfl⟩|(simp[Z7]at hk)
theorem RJ(h:off+v.length<=cs.length):splice cs off v=cs.take off++(v++cs.drop (off+v.length)):=by
 unfold splice
 split
 ·rename_i x
  have h':off<cs.length:=by simp at h;omega
  rw[List.set_eq_take_append_cons_drop,if_pos h']
  simp
 ·rfl
theorem AP(h:off+v.length<=cs.length):(splice cs off v).length=cs.length:=by
 rw[RJ h];simp;omega
theorem LRel.splice{ρ:Pl}{cs cs' v v':List Value}{off:Nat}(h:LRel ρ cs cs')(hv:LRel ρ v v'):LRel ρ (splice cs off v) (splice cs' off v'):=by
 unfold Ev.splice
 cases hv with
 |nil=>exact(h.take _).append (LRel.nil.append (h.drop _))
 |cons a b =>
  cases b with
  |nil=>exact h.set _ a
  |cons c d =>
   have e:=d.length
   simp only[Zv]
   rw[e]
   exact(h.take _).append ((LRel.cons a (.cons c d)).append (h.drop _))
theorem AO(h:∀x∈cs,oneCellB x=true)(hv:∀x∈v,oneCellB x=true):∀x∈splice cs off v,oneCellB x=true:=by
 intro x hx
 unfold splice at hx
 split at hx
 ·rcases KX hx with h1|h1
  ·exact h x h1
  ·subst h1;exact hv x wd
 ·simp only[QC]at hx
  rcases hx with h1|h1|h1
  ·exact h x (QP h1)
  ·exact hv x h1
  ·exact h x (ZF h1)
theorem OZ(off:Nat):∀(v:List Value) (j:Nat) (cs:Array Value),off+j+v.length<=cs.size ->
  ((v.zipIdx j).foldl (fun cs (x:Value×Nat)=>cs.setIfInBounds (off+x.2) x.1) cs).toList=cs.toList.take (off+j)++(v++cs.toList.drop (off+j+v.length))
 |[],j,cs,_=>by simp
 |x::v,j,cs,h=>by
  simp only[Zv]at h
  simp only[List.zipIdx_cons,Xy]
  rw[OZ off v (j+1) _ (by simp;omega)]
  have:=DL x v cs.toList (off+j) (by simp;omega)
  simpa [Zb]using this
inductive PartsRel(ρ:Pl)(place:Nat->Option (Nat×Nat)):List (Nat×Nat×Value)->List (Nat×Value)->Prop
 |nil:PartsRel ρ place [] []
 |cons {off n i:Nat} {v v':Value} {l:List (Nat×Nat×Value)} {l':List (Nat×Value)}:place i=some (off,n)->VRel ρ v v'->PartsRel ρ place l l'->PartsRel ρ place ((off,n,v)::l) ((i,v')::l')
theorem cM{place:Nat->Option (Nat×Nat)}{l:List (Nat×Nat×Value)}{l':List (Nat×Value)}(hp:PartsRel ρ place l l'):∀ {cs:List Value} {cs':Array Value} {r:List Value},LRel ρ cs cs'.toList->(∀x∈cs,oneCellB x=true) ->
  fillL cs l=some r->∃r',Instr.fill place cs' l'=some r'/\LRel ρ r r'.toList/\r.length=cs.length/\∀x∈r,oneCellB x=true:=by
 induction hp with
 |nil=>intro cs cs' r h h1 hf;simp[fillL]at hf;subst hf;exact⟨cs',rfl,h,rfl,h1⟩
 |cons hpl hv hrest ih =>
  rename_i off n i v v' l l'
  intro cs cs' r h h1 hf
  simp only[fillL]at hf
  split at hf
  ·rename_i hc
   obtain⟨hn,hle,hk⟩:=hc
   have hcl:=hv.cells
   have hn':v'.cells.size=n:=by rw[<-hn];have:=hcl.length;simpa using this.symm
   have hle':off+v'.cells.toList.length<=cs'.toList.length:=by
    rw[<-h.length];simp only[Fs];rw[hn'];exact hle
   have hfold:(v'.cells.zipIdx.foldl (fun cs (c,j)=>cs.setIfInBounds (off+j) c) cs').toList=splice cs'.toList off v'.cells.toList:=by
    rw[RJ hle']
    have:=OZ off v'.cells.toList 0 cs' (by simpa using hle')
    simp only[Jl]at this
    rw[<-this]
    congr 1
    rw[<-Array.foldl_toList]
    congr 1
    simp
   have hsp:=LRel.splice (off:=off) h hcl
   obtain⟨r',e1,e2,e3,e4⟩:=ih (cs':=v'.cells.zipIdx.foldl (fun cs (c,j)=>cs.setIfInBounds (off+j) c) cs') (by rw[hfold];exact hsp) (AO h1 (RZ hv hk)) hf
   refine⟨r',?_,e2,?_,e4⟩
   ·simp only[Instr.fill,hpl]
    rw[if_neg]
    ·exact e1
    ·simp only[Wl,decide_eq_true_eq,not_or,bne_iff_ne,ne_eq]
     have:cs'.toList.length=cs'.size:=by simp
     simp only[Fs]at hle'
     omega
   ·rw[e3,AP]
    simpa [hn]using hle
  ·cases hf
theorem RU{ρ:Pl}{e:Env}{a:Act}{place:Nat->Option (Nat×Nat)}:∀ {ps:List (Nat×Operand)} {cps:List (Nat×Nat×Operand)} {vs:List (Nat×Nat×Value)},OpRel ρ e a (ps.map (·.2))->Yd place ps=some cps->Zq e cps=some vs ->
  PartsRel ρ place vs (ps.map fun p=>(p.1,a.eval p.2))
 |[],cps,vs,_,hc,hv=>by simp[Yd]at hc;subst hc;simp[Zq]at hv;subst hv;exact .nil
 |(i,x)::ps,cps,vs,hx,hc,hv=>by
  simp only[Yd,Qd,QF]at hc
  obtain⟨⟨off,n⟩,hpl,l,hl,rfl⟩:=hc
  simp only[Zq,Qd,Qk]at hv
  obtain⟨v,hv1,vs',hv2,rfl⟩:=hv
  exact .cons hpl (hx.head hv1) (RU hx.tail hl hv2)
end
section
variable{P:Program}{o:Oper}{e:Env}{H H':List Ob}{v:Value}{t:Option (List Nat)}{M:List Nat}
theorem O0{ty:TypeId}{ps:Array (Nat×Operand)}{zero:List Value}{cps:List (Nat×Nat×Operand)}{place:Nat->Option (Nat×Nat)}(hz:Wy P ty=some zero)
  (hpl:(∃fs:Array Field,P.underlying ty=some (.struct fs)/\place=fun(i:Nat)=>(fs[i]?).bind fun f=>(X9 P f.type).map fun n=>(f.offset,n))\/(∃n el s,P.underlying ty=some (.array n el)/\X9 P el=some s/\place=fun(i:Nat)=>some (i*s,s)))
  (hall:∀fs:Array Field,P.underlying ty=some (.struct fs)->∀f∈fs.toList,(X9 P f.type).isSome=true) (hc:Yd place ps.toList=some cps) (ho:o.op=.build ty ps)
  (hr:Qz H e (.build zero cps)=some (v,H',t,M)):OpOk P o e H v H':=by
 obtain⟨h1,rfl,_,_⟩:=J3 hr
 simp only[Qd,Qk]at h1
 obtain⟨vs,hvs,cs,hcs,rfl⟩:=h1
 refine .pure fun ρ a w hx _ =>?_
 rw[ho]at hx
 have hx':OpRel ρ e a (ps.toList.map (·.2)):=hx.of_sub fun y hy=>by simpa [Op.operands]using hy
 have hpr:=RU hx' hc hvs
 obtain⟨hzs,z,hz1,hz2⟩:=WQ (P:=P) (w:=w) hz
 obtain⟨r',e1,e2,e3,e4⟩:=cM hpr (cs:=zero) (cs':=z.cells) (by rw[hz2];exact LRel.same hzs) (fun x hx=>XK (by simp at hzs;exact hzs x hx)) hcs
 refine⟨.agg r',?_,.agg e2 e4⟩
 have em:(ps.map fun(i,x)=>(i,a.eval x)).toList=ps.toList.map fun p=>(p.1,a.eval p.2):=by simp
 rcases hpl with⟨fs,hu,rfl⟩|⟨n,el,s,hu,hs,rfl⟩
 ·have hpm:∃places:Array (Nat×Nat),(fs.mapM fun f=>(do pure (f.offset,<-sizeOf f.type):Sem (Nat×Nat))).run P w=.ok places w/\∀i:Nat,places[i]?=(fs[i]?).bind fun f=>(X9 P f.type).map fun n=>(f.offset,n):=by
   have hl:=hall fs hu
   obtain⟨fl⟩:=fs
   have key:∀(fl:List Field),(∀f∈fl,(X9 P f.type).isSome=true)->∃pl:List (Nat×Nat),(fl.mapM fun f=>(do pure (f.offset,<-sizeOf f.type):Sem (Nat×Nat))).run P w=.ok pl w /\
     ∀i:Nat,pl[i]?=(fl[i]?).bind fun f=>(X9 P f.type).map fun n=>(f.offset,n):=by
    intro fl
    induction fl with
    |nil=>intro _;exact⟨[],by simp,by simp⟩
    |cons f fl ih =>
     intro h
     obtain⟨pl,p1,p2⟩:=ih fun g hg=>h g (by simp[hg])
     obtain⟨n,hn⟩:=Option.isSome_iff_exists.1 (h f wd)
     refine⟨(f.offset,n)::pl,?_,?_⟩
     ·rw[Ar]
      simp only[Sem.run_bind,Xs hn,Result.andThen_ok,Sem.run_pure,p1]
     ·intro i
      cases i with
      |zero=>simp[hn]
      |succ i=>simpa using p2 i
   obtain⟨pl,p1,p2⟩:=key fl hl
   refine⟨pl.toArray,?_,fun i=>by simpa using p2 i⟩
   rw[List.mapM_toArray,Sem.run_map,p1];rfl
  obtain⟨places,p1,p2⟩:=hpm
  have e1':Instr.fill (places[·]?) z.cells (ps.map fun(i,x)=>(i,a.eval x)).toList=some r':=by
   rw[em,<-e1];congr 1;funext i;exact p2 i
  simp only[execOp,ho,Instr.build,Sem.run_bind,hz1,Result.andThen_ok,run_underlying hu,p1]
  rw[e1'];rfl
 ·simp only[execOp,ho,Instr.build,Sem.run_bind,hz1,Result.andThen_ok,run_underlying hu,Xs hs]
  rw[em,e1];rfl
theorem Cd{ρ:Pl}{w w':World}(hrel:RelF ρ (hp H) w)(hfree:ρ H.length=none){ob:Ob}(hl:ob.live=true)(hown:ob.own=true){cells':Array Value}{el:TypeId}{fr:Nat×Nat}
  (hw:w'.heap=w.heap.push (.cells cells' el fr)) (h1:w'.os=w.os) (h2:w'.tape=w.tape) (h3:w'.output=w.output) {base:Nat} (hbase:base=0) {l':List Value}
  (hc:LRel ρ ob.c l') (hl':∃ex,cells'.toList=l'++ex) (hone:∀x∈ob.c,oneCellB x=true) (hfr:Unfr fr cells'.size) :
  ∃ρ',Ext ρ ρ' H.length (H.length+1)/\ρ' H.length=some ⟨w.heap.size,0,cells'.size,ob.es,if ob.exact then .exact else .grown⟩/\RelF ρ' (hp (H++[ob])) w'/\Frm ρ ρ' (hp H) (hp (H++[ob])) w w':=by
 let pl:Place:=⟨w.heap.size,0,cells'.size,ob.es,if ob.exact then .exact else .grown⟩
 let ρ':Pl:=fun id=>if id=H.length then some pl else ρ id
 have hle:PlLe ρ ρ':=fun id p h=>by
  by_cases c:id=H.length
  ·subst c;rw[hfree]at h;cases h
  ·simp only[ρ',if_neg c];exact h
 have hnew:w'.heap[w.heap.size]?=some (.cells cells' el fr):=by rw[hw];simp
 have hold:∀b,b<w.heap.size->w'.heap[b]?=w.heap[b]? := fun b hb=>by rw[hw,Ft,if_neg qr]
 have hget:∀id,id≠H.length->hp (H++[ob]) id=hp H id\/hp (H++[ob]) id=none:=fun id hid=>by
  rcases Nat.lt_trichotomy id H.length with h|h|h
  ·left;simp only[hp,Qc h]
  ·exact absurd h hid
  ·right;simp only[hp];rw[QI];simp;omega
 have hgetn:hp (H++[ob]) H.length=some ob:=by simp[hp]
 refine⟨ρ',⟨hle,fun id p h k =>?_⟩,by simp[ρ',pl],⟨?_,?_,?_⟩,⟨h1,h2,h3,by rw[hw];simp,fun b hb _=>hold b hb,fun id p h k =>?_⟩⟩
 ·by_cases c:id=H.length
  ·subst c;omega
  ·simp only[ρ',if_neg c]at h;rw[k]at h;cases h
 ·intro id p h
  by_cases c:id=H.length
  ·simp only[ρ',if_pos c,Qk]at h;subst h;rw[hw];simp[pl]
  ·simp only[ρ',if_neg c]at h;have:=hrel.bound id p h;rw[hw];simp;omega
 ·intro id ob' p ho h hlv
  by_cases c:id=H.length
  ·subst c
   rw[hgetn]at ho;cases ho
   simp only[ρ',if_true,Qk]at h;subst h
   refine⟨by simp[pl,hown],rfl,cells',el,fr,hnew,rfl,?_,?_,fun _=>hfr⟩
   ·obtain⟨ex,hex⟩:=hl'
    have:cells'.size=cells'.toList.length:=by simp
    simp only[pl]
    rw[this,hex,Qj,hc.length];omega
   ·intro i u hi
    refine⟨hone u (Qo hi),?_⟩
    obtain⟨u',e1,e2⟩:=hc.get hi
    obtain⟨ex,hex⟩:=hl'
    refine⟨u',?_,e2.mono hle⟩
    simp only[pl,QL]
    rw[<-ZA,hex,Qc]
    ·exact e1
    ·exact(Qg.1 e1).1
  ·rcases hget id c with h4|h4
   ·rw[h4]at ho
    simp only[ρ',if_neg c]at h
    exact(hrel.obj id ob' p ho h hlv).same_block hle (hold _ (hrel.bound _ _ h))
   ·rw[h4]at ho;cases ho
 ·intro i j oi oj pi pj hi hj hpi hpj a1 a2 a3 hij
  by_cases ci:i=H.length
  ·by_cases cj:j=H.length
   ·omega
   ·simp only[ρ',if_pos ci,Qk]at hpi
    simp only[ρ',if_neg cj]at hpj
    have:=hrel.bound _ _ hpj
    subst hpi;simp only[pl];omega
  ·simp only[ρ',if_neg ci]at hpi
   by_cases cj:j=H.length
   ·simp only[ρ',if_pos cj,Qk]at hpj
    have:=hrel.bound _ _ hpi
    subst hpj;simp only[pl];omega
   ·simp only[ρ',if_neg cj]at hpj
    rcases hget i ci with h4|h4<;>rcases hget j cj with h5|h5
    ·rw[h4]at hi;rw[h5]at hj;exact hrel.inj i j oi oj pi pj hi hj hpi hpj a1 a2 a3 hij
    ·rw[h5]at hj;cases hj
    ·rw[h4]at hi;cases hi
    ·rw[h4]at hi;cases hi
 ·left
  by_cases c:id=H.length
  ·simp only[ρ',if_pos c,Qk]at h;subst h;exact Qs _
  ·simp only[ρ',if_neg c]at h;rw[k]at h;cases h
end
end Go.Ev
namespace Go.Ev
open Go.RowKit
section
variable{P:Program}{o:Oper}{e:Env}{H H':List Ob}{v:Value}{t:Option (List Nat)}{M:List Nat}
section
variable{ty el:TypeId}{ρ':Pl}{n b s es:Nat}{x:Operand}
theorem VJ(el:TypeId)(cells:Array Value)(w:World):(newRow el cells).run P w=.ok ⟨w.heap.size,0,none⟩ { w with heap:=w.heap.push (.cells cells el) }:=by
 simp[newRow]
theorem MI{ob:Ob}(hl:ob.live=true)(hown:ob.own=true)
 (h:∀(ρ:Pl) (a:Act) (w:World),OpRel ρ e a o.op.operands.toList->∃(v':Value) (w':World) (cells':Array Value) (el:TypeId) (fr:Nat×Nat) (l':List Value),
 (execOp a.eval o).run P w=.ok (.value v') w'/\w'.heap=w.heap.push (.cells cells' el fr)/\w'.os=w.os/\w'.tape=w.tape/\w'.output=w.output/\LRel ρ ob.c l'/\(∃ex,cells'.toList=l'++ex) /\
 (∀x∈ob.c,oneCellB x=true)/\Unfr fr cells'.size /\
 ∀ρ':Pl,ρ' H.length=some ⟨w.heap.size,0,cells'.size,ob.es,if ob.exact then .exact else .grown⟩->VRel ρ' v v'):OpOk P o e H v (H++[ob]):=by
  intro ρ a w hx hrel hfree
  obtain⟨v',w',cells',el,fr,l',h1,h2,h3,h4,h5,h6,h7,h8,h9,h10⟩:=h ρ a w hx
  obtain⟨ρ',e1,e2,e3,e4⟩:=Cd hrel (hfree H.length (Qs _) wd) hl hown h2 h3 h4 h5 rfl h6 h7 h8 h9
  exact⟨.value v',v',w',ρ',h1,rfl,⟨by simpa using e1,h10 ρ' e2,e3,e4⟩⟩
theorem I9(h:ρ' n=some ⟨b,0,s,es,.exact⟩):VRel ρ' (.pointer n) (.pointer b) :=
 .ptr (a:=⟨n,0,none⟩) h rfl
theorem mO{zero:List Value}(hz:Wy P ty=some zero)(ho:o.op=.alloc ty)(hr:Qz H e (.alloc zero)=some (v,H',t,M)):OpOk P o e H v H':=by
 simp only[Qz,Qk,Prod.mk.injEq]at hr
 obtain⟨rfl,rfl,_,_⟩:=hr
 refine MI rfl rfl fun ρ a w hx =>?_
 obtain⟨hzs,z,hz1,hz2⟩:=WQ (P:=P) (w:=w) hz
 refine⟨_,{ w with heap:=w.heap.push (.cells z.cells ty) },z.cells,ty,(0,0),zero,?_,rfl,rfl,rfl,rfl,LRel.same hzs,⟨[],by simp[hz2]⟩,fun x hx=>XK (by simp at hzs;exact hzs x hx),.inl rfl,fun ρ' h=>I9 h⟩
 simp[execOp,ho,Instr.alloc,hz1,newVar,VJ]
theorem wG(ho:o.op=.box ty x)(hr:Qz H e (.box x)=some (v,H',t,M)):OpOk P o e H v H':=by
 simp only[Qz,Qd]at hr
 obtain⟨xv,hxv,hr⟩:=hr
 split at hr
 ·rename_i hk
  simp only[Qk,Prod.mk.injEq]at hr
  obtain⟨rfl,rfl,_,_⟩:=hr
  refine MI rfl rfl fun ρ a w hx =>?_
  rw[ho]at hx
  have hx':=hx x (by simp[Op.operands]) xv hxv
  refine⟨_,{ w with heap:=w.heap.push (.cells (a.eval x).cells ty) },(a.eval x).cells,ty,(0,0),(a.eval x).cells.toList,?_,rfl,rfl,rfl,rfl,hx'.cells,⟨[],by simp⟩,RZ hx' hk,.inl rfl,fun ρ' h=>I9 h⟩
  simp[execOp,ho,Instr.box,newVar,VJ]
 ·cases hr
theorem Wp{len cap cap':Nat}{k:Kind}(h:ρ' n=some ⟨b,0,s,es,k⟩)(h1:len<=cap)(h2:cap<=cap')(h3:k=.exact/\cap'=cap\/k=.grown/\(cap'=cap\/cap'*es<=s)) :
  VRel ρ' (.slice n len cap) (.slice b len cap'):=by
 refine .slice (a:=⟨n,0,none⟩) h rfl (.inl rfl) (.inl rfl) (.inl rfl) h1 h2 ?_
 unfold Place.capOk
 rcases h3 with⟨rfl,rfl⟩|⟨rfl,h3⟩
 ·rfl
 ·simpa using h3
theorem D1{z:Array Value}:∀n,((Dl (n*z.size)).map fun i=>z[i%z.size]!).toList=(Qa n z.toList).flatten:=by
 intro n
 induction n with
 |zero=>simp
 |succ n ih =>
  rw[List.replicate_succ',List.flatten_append,<-ih]
  simp only[U3,Array.toList_range,QO,List.flatten_nil,QG]
  rw[Zl,Xd,List.range_add,List.map_append]
  congr 1
  apply ZW
  intro i
  simp only[R2,JB,Function.comp]
  by_cases h:i<z.size
  ·rw[V8 h]
   simp only[Yo,ZA]
   have h1:(n*z.size+i)%z.size=i:=by
    rw[Xu,KJ,Qv h]
   show some (z[(n*z.size+i)%z.size]!)=z[i]?
   rw[h1]
   rw[getElem!_pos z i h,ZG h]
  ·rw[QI (by simp;omega),QI (by simp;omega)];rfl
theorem Eo{p:Value->Bool}{z:List Value}(h:z.all p=true):∀n,(Qa n z).flatten.all p=true
 |0=>by simp
 |n+1=>by rw[XC,QO,List.all_append,h,Eo h n];rfl
theorem wrap_i64{n:Int}(h:0<=n)(h':n<2^63):IntKind.i64.wrap n=n:=by
 have e:n%(2^64:Int)=n:=Int.emod_eq_of_lt h qr
 show(if(true&&decide (n%(2^64:Int)≥2^63))=true then n%(2^64:Int)-2^64 else n%(2^64:Int))=n
 rw[e,if_neg]
 simp;omega
theorem FE{ps:Array (Nat×Operand)}{zero:List Value}{cps:List (Nat×Nat×Operand)}{len s:Nat}(hu:P.underlying ty=some (.slice el))(hz:Wy P el=some zero)(hs:X9 P el=some s)
 (hlen:len*s<=2^24) (hs0:0<s) (hzl:zero.length=s) (hc:Yd (fun i=>some (i*s,s)) ps.toList=some cps) (ho:o.op=.buildSlice ty len ps)
 (hr:Qz H e (.buildSlice (Qa len zero).flatten len cps)=some (v,H',t,M)):OpOk P o e H v H':=by
  simp only[Qz,Qd,Qk,Prod.mk.injEq]at hr
  obtain⟨vs,hvs,cs,hcs,rfl,rfl,_,_⟩:=hr
  refine MI rfl rfl fun ρ a w hx =>?_
  rw[ho]at hx
  have hx':OpRel ρ e a (ps.toList.map (·.2)):=hx.of_sub fun y hy=>by simpa [Op.operands]using hy
  have hpr:=RU hx' hc hvs
  obtain⟨hzs,z,hz1,hz2⟩:=WQ (P:=P) (w:=w) hz
  have hzz:z.cells.size=s:=by rw[<-hzl,<-hz2];simp
  have hzall:=fun n=>Eo hzs n
  have hcells:∀zc:Array Value,(zc=if len*s=0 then #[]else z.cells)->((Dl (len*s)).map (zc[· % zc.size]!)).toList=(Qa len zero).flatten:=by
    intro zc hzc
    by_cases h0:len*s=0
    · have hl0:len=0:=by rcases Nat.mul_eq_zero.1 h0 with h|h<;>omega
      simp[hl0]
    · rw[if_neg h0]at hzc;subst hzc
      rw[<-hzz,<-hz2];exact D1 len
  obtain⟨r',e1,e2,e3,e4⟩:=cM hpr (cs:=(Qa len zero).flatten) (cs':=(Dl (len*s)).map ((if len*s=0 then #[]else z.cells)[· % (if len*s=0 then #[]else z.cells:Array Value).size]!))
    (by rw[hcells _ rfl];exact LRel.same (hzall len)) (fun x hx=>XK (ZX.1 (hzall len) x hx)) hcs
  refine⟨_,{ w with heap:=w.heap.push (.cells r' el) },r',el,(0,0),r'.toList,?_,rfl,rfl,rfl,rfl,e2,⟨[],by simp⟩,e4,.inl rfl,fun ρ' h=>Wp h (Qs _) (Qs _) (.inl ⟨rfl,rfl⟩)⟩
  have em:(ps.map fun(i,x)=>(i,a.eval x)).toList=ps.toList.map fun p=>(p.1,a.eval p.2):=by simp
  simp only[execOp,ho,Instr.buildSlice,Sem.run_bind,run_underlying hu,Result.andThen_ok,Xs hs,Sem.run_ite,if_neg (show ¬len*s>2^24 by omega),Sem.run_pure]
  by_cases h0:len*s=0
  · simp only[if_pos h0,Result.andThen_ok]at e1 ⊢
    rw[em,e1]
    simp[VJ]
  · simp only[if_neg h0,hz1,Result.andThen_ok]at e1 ⊢
    rw[em,e1]
    simp[VJ]
theorem L8{l c:Operand}{zero:List Value}{bytes:Nat}(hu:P.underlying ty=some (.slice el))(hz:Wy P el=some zero)(hsz:X9 P el=some zero.length)(hb:Hq P el=some bytes)(ho:o.op=.makeSlice ty l c)
 (hr:Qz H e (.makeSlice zero bytes l c)=some (v,H',t,M)):OpOk P o e H v H':=by
  simp only[Qz,Qd]at hr
  obtain⟨lv,hlv,cv,hcv,hr⟩:=hr
  split at hr
  · rename_i k1 l0 k2 c0
    split at hr
    · rename_i hc
      obtain⟨h1,h2,h3,h4,h5⟩:=hc
      simp only[Qk,Prod.mk.injEq]at hr
      obtain⟨rfl,rfl,_,_⟩:=hr
      refine MI rfl rfl fun ρ a w hx =>?_
      rw[ho]at hx
      have hl':=(hx l (by simp[Op.operands]) _ hlv).int
      have hc':=(hx c (by simp[Op.operands]) _ hcv).int
      obtain⟨hzs,z,hz1,hz2⟩:=WQ (P:=P) (w:=w) hz
      obtain⟨i,hi1,hi2⟩:=AT (P:=P) (w:=w) hb
      have hzz:z.cells.size=zero.length:=by rw[<-hz2];simp
      have hc47:c0<=2^47:=by
        have:c0*1<=c0*bytes:=Int.mul_le_mul_of_nonneg_left qr qr
        omega
      have wl:=wrap_i64 h1 (by omega:l0<2^63)
      have wc:=wrap_i64 (by omega:0<=c0) (by omega:c0<2^63)
      have hcells:∀zc:Array Value,(zc=if c0.toNat*zero.length=0 then #[]else z.cells)->((Dl (c0.toNat*zero.length)).map (zc[· % zc.size]!)).toList=(Qa c0.toNat zero).flatten:=by
        intro zc hzc
        by_cases h0:c0.toNat*zero.length=0
        · have hl0:c0.toNat=0:=by rcases Nat.mul_eq_zero.1 h0 with h|h<;>omega
          simp[hl0]
        · rw[if_neg h0]at hzc;subst hzc
          rw[<-hzz,<-hz2];exact D1 _
      have hzall:=Eo hzs c0.toNat
      refine⟨_,{ w with heap:=w.heap.push (.cells ((Dl (c0.toNat*zero.length)).map ((if c0.toNat*zero.length=0 then #[]else z.cells)[· % (if c0.toNat*zero.length=0 then #[]else z.cells:Array Value).size]!)) el) },(Dl (c0.toNat*zero.length)).map ((if c0.toNat*zero.length=0 then #[]else z.cells)[· % (if c0.toNat*zero.length=0 then #[]else z.cells:Array Value).size]!),el,(0,0),(Qa c0.toNat zero).flatten,?_,rfl,rfl,rfl,rfl,LRel.same hzall,⟨[],by rw[hcells _ rfl];simp⟩,
        fun x hx=>XK (by simp only[ZX]at hzall;exact hzall x hx),.inl rfl,fun ρ' h=>Wp h qr (Qs _) (.inl ⟨rfl,rfl⟩)⟩
      have ht:¬((decide (c0<0) || decide ((i.bytes:Int)*c0>2^48) || decide (l0<0) || decide (l0>c0))=true):=by
        rw[hi2]
        have:(bytes:Int)*c0=c0*bytes:=Int.mul_comm _ _
        rw[this]
        simp only[Wl,decide_eq_true_eq,not_or]
        refine⟨⟨⟨by omega,by omega⟩,by omega⟩,by omega⟩
      simp only[execOp,ho,Instr.makeSlice,Sem.run_bind,run_underlying hu,Result.andThen_ok,hl',hc',asInt,asIntOf,Sem.run_pure,hi1,wl,wc,Sem.run_ite,if_neg ht,run_askRoom,Xs hsz]
      by_cases h0:c0.toNat*zero.length=0
      · simp only[if_pos h0,Result.andThen_ok]
        simp[VJ]
      · simp only[if_neg h0,hz1,Result.andThen_ok]
        simp[VJ]
    · cases hr
  · cases hr
theorem sj{n:Option Nat}(ha:Gt P ty=some n)(ho:o.op=.load ty x)(hr:Qz H e (.load n x)=some (v,H',t,M)):OpOk P o e H v H':=by
 simp only[Qz,Qd]at hr
 obtain⟨xv,hxv,hr⟩:=hr
 split at hr
 ·rename_i ad
  simp only[Qd]at hr
  obtain⟨ob,hob,hr⟩:=hr
  split at hr
  ·simp only[Qd,Qk,Prod.mk.injEq]at hr
   obtain⟨u,hu,rfl,rfl,_,_⟩:=hr
   obtain⟨hob1,hob2⟩:=VU hob
   intro ρ a w hx hrel _
   rw[ho]at hx
   obtain⟨pl,e1,e2,e3⟩:=(hx x (by simp[Op.operands]) _ hxv).ptr_inv
   obtain⟨_,_,cs,el,fr,g1,g2,g3,g4,_⟩:=hrel.obj _ _ _ hob1 e1 hob2
   obtain⟨b,hb,hbn,hk⟩:=AU (P:=P) (w:=w) ha
   cases n with
   |none =>
    simp only[Wr]at hbn;subst hbn
    obtain⟨_,u',g5,g6⟩:=g4 ad.off u hu
    refine⟨.value u',u',w,ρ,?_,rfl,.refl _ _ _,g6,hrel,.refl _ _ _ _⟩
    have hc:w.cell? ⟨pl.block,pl.base+ad.off,none⟩=some u':=by rw[A8 g1];exact g5
    simp[execOp,ho,e3,Instr.loadAt,Instr.sureAddr,loadVar,hb,hc]
   |some n =>
    simp only[Gu]at hbn;subst hbn
    simp only[Jn]at hu
    split at hu
    ·rename_i hle
     cases hu
     refine⟨.value (.agg ((cs.toList.drop (pl.base+ad.off)).take n).toArray),_,w,ρ,?_,rfl,.refl _ _ _,?_,hrel,.refl _ _ _ _⟩
     ·have:=run_loadCells (P:=P) (n:=n) (off:=pl.base+ad.off) g1 qr
      simp only[execOp,ho,e3,Instr.loadAt,Instr.sureAddr,loadVar,hb,Xs (hk n rfl),this,Sem.run_bind,Result.andThen_ok,Sem.run_pure,Sem.run_ite,if_true]
     ·refine .agg (LRel.of_get (by simp;omega) fun i u hi =>?_) fun x hx =>?_
      ·simp only[QW,Zp]at hi ⊢
       split at hi
       ·rename_i hlt
        obtain⟨_,u',g5,g6⟩:=g4 _ u hi
        exact⟨u',by rw[if_pos hlt];simpa [Zb]using g5,g6⟩
       ·cases hi
      ·have hx':=ZF (QP hx)
       obtain⟨i,hi⟩:=Xf hx'
       exact(g4 i x hi).1
    ·cases hu
  ·cases hr
 ·cases hr
end
end
end Go.Ev
namespace Go.Ev
open Go.RowKit
section
variable{P:Program}{o:Oper}{e:Env}{H H':List Ob}{v:Value}{t:Option (List Nat)}{M:List Nat}
section
variable{el s:TypeId}{x:Operand}{ρ:Pl}{w:World}{pl:Place}{vs' vs:List Value}{a:Addr}
theorem LJ(H:List Ob)(id:Nat)(ob:Ob)(h:id<H.length)(j:Nat):hp (H.set id ob) j=if j=id then some ob else hp H j:=by
 simp only[hp,Kw]
 by_cases c:id=j
 ·subst c;simp[h]
 ·simp[c,Ne.symm c]
theorem Sa(hrel:RelF ρ (hp H) w){id off:Nat}{ob:Ob}(hob:H[id]?=some ob)(hl:ob.live=true)(hown:ob.own=true)(hpl:ρ id=some pl){vs:List Value}(hv:LRel ρ vs vs')
 (hone:∀x∈vs,oneCellB x=true) (hle:off+vs.length<=ob.c.length) {cs:Array Value} {fr:Nat×Nat} (hb:w.heap[pl.block]?=some (.cells cs el fr)) {w':World}
    (hw:w'={ w with heap:=w.heap.setIfInBounds pl.block (.cells (cs.toList.take (pl.base+off)++(vs'++cs.toList.drop (pl.base+off+vs'.length))).toArray el fr) }) :
    RelF ρ (hp (H.set id { ob with c:=splice ob.c off vs })) w'/\Frm ρ ρ (hp H) (hp (H.set id { ob with c:=splice ob.c off vs })) w w':=by
  have hid:id<H.length:=(Qg.1 hob).1
  have hobj:=hrel.obj id ob pl hob hpl hl
  obtain⟨k1,k2,cs0,el0,fr0,g1,g2,g3,g4,g5⟩:=hobj
  rw[hb]at g1
  simp only[Qk,Obj.cells.injEq]at g1
  obtain⟨rfl,rfl,rfl⟩:=g1
  have hbs:pl.block<w.heap.size:=hrel.bound _ _ hpl
  have hvl:=hv.length
  have hnew:w'.heap[pl.block]?=some (.cells (cs.toList.take (pl.base+off)++(vs'++cs.toList.drop (pl.base+off+vs'.length))).toArray el fr):=by
    subst hw;simp[hbs]
  have hold:∀b,b≠pl.block->w'.heap[b]?=w.heap[b]? := fun b hne=>by subst hw;simp[Xq,Ne.symm hne]
  have hsz:w'.heap.size=w.heap.size:=by subst hw;simp
  have hcl:cs.toList.length=cs.size:=by simp
  refine⟨⟨?_,?_,?_⟩,⟨by subst hw;rfl,by subst hw;rfl,by subst hw;rfl,by rw[hsz];exact Qs _,?_,fun i p h k=>by rw[k]at h;cases h⟩⟩
  · intro i p h;rw[hsz];exact hrel.bound i p h
  · intro i oi p hi hp' hli
    rw[LJ _ _ _ hid]at hi
    by_cases c:i=id
    · subst c
      rw[if_pos rfl]at hi;cases hi
      rw[hpl]at hp';cases hp'
      refine⟨k1,k2,_,el,fr,hnew,?_,?_,?_,?_⟩
      · rw[<-g2];simp;omega
      · simp only;rw[AP hle];simp;omega
      · intro i u hu
        have hsp:∀x∈splice ob.c off vs,oneCellB x=true:=by
          refine AO (fun x hx =>?_) hone
          obtain⟨j,hj⟩:=Xf hx
          exact(g4 j x hj).1
        refine⟨hsp u (Qo hu),?_⟩
        simp only at hu
        rw[RJ hle]at hu
        rw[Bi]at hu
        simp only[Q3,Zw (show off<=ob.c.length by omega),QW]at hu
        rw[<-ZA]
        simp only
        rw[Bi]
        simp only[Q3,hcl,Zw (show pl.base+off<=cs.size by omega),QW]
        by_cases c1:i<off
        · rw[if_pos c1,if_pos c1]at hu
          obtain⟨_,u',e1,e2⟩:=g4 i u hu
          refine⟨u',?_,e2⟩
          rw[if_pos qr,if_pos qr];simpa using e1
        · rw[if_neg c1]at hu
          rw[if_neg qr,show pl.base+i-(pl.base+off)=i-off by omega]
          rw[Bi]at hu ⊢
          by_cases c2:i-off<vs.length
          · rw[if_pos c2]at hu
            rw[if_pos qr]
            exact hv.get hu
          · rw[if_neg c2]at hu
            rw[if_neg qr]
            rw[Zp]at hu ⊢
            rw[show off+vs.length+(i-off-vs.length)=i by omega]at hu
            rw[show pl.base+off+vs'.length+(i-off-vs'.length)=pl.base+i by omega]
            obtain⟨_,u',e1,e2⟩:=g4 i u hu
            exact⟨u',by simpa using e1,e2⟩
      · intro _
        have hs:(cs.toList.take (pl.base+off)++(vs'++cs.toList.drop (pl.base+off+vs'.length))).toArray.size=cs.size:=by simp;omega
        rw[hs]
        exact g5 hown
    · rw[if_neg c]at hi
      have hne:p.block≠pl.block:=fun h=>hrel.inj id i ob oi pl p hob hi hpl hp' hl hown hli (Ne.symm c) h.symm
      exact(hrel.obj i oi p hi hp' hli).same_block (.refl _) (hold _ hne)
  · intro i j oi oj pi pj hi hj hpi hpj a1 a2 a3 hij
    rw[LJ _ _ _ hid]at hi hj
    have hi':∃oi',hp H i=some oi'/\oi'.live=true/\oi'.own=true:=by
      split at hi
      · subst_vars;cases hi;exact⟨ob,hob,hl,hown⟩
      · exact⟨oi,hi,a1,a2⟩
    have hj':∃oj',hp H j=some oj'/\oj'.live=true:=by
      split at hj
      · subst_vars;cases hj;exact⟨ob,hob,hl⟩
      · exact⟨oj,hj,a3⟩
    obtain⟨oi',b1,b2,b3⟩:=hi'
    obtain⟨oj',b4,b5⟩:=hj'
    exact hrel.inj i j oi' oj' pi pj b1 b4 hpi hpj b2 b3 b5 hij
  · intro b hb' h
    exact hold b fun hbe=>h id ob pl hob hpl hl hown hbe.symm
theorem GI{H':List Ob}(h:storeAt H a vs=some H'):∃ob,H[a.block]?=some ob/\ob.live=true/\ob.own=true/\a.spot=none/\a.off+vs.length<=ob.c.length/\H'=H.set a.block { ob with c:=splice ob.c a.off vs }:=by
 simp only[storeAt,Qd]at h
 obtain⟨ob,h1,h⟩:=h
 obtain⟨h2,h3⟩:=VU h1
 split at h
 ·rename_i hc
  cases h
  exact⟨ob,h2,h3,hc.1,by simpa using hc.2.1,hc.2.2,rfl⟩
 ·cases h
theorem Wn(hrel:RelF ρ (hp H) w)(hpl:ρ a.block=some pl)(h:storeAt H a vs=some H')(hv:LRel ρ vs vs')(hone:∀x∈vs,oneCellB x=true) :
  ∃w',(storeCells ⟨pl.block,pl.base+a.off,none⟩ vs').run P w=.ok () w'/\RelF ρ (hp H') w'/\Frm ρ ρ (hp H) (hp H') w w'/\H'.length=H.length:=by
 obtain⟨ob,h1,h2,h3,h4,h5,rfl⟩:=GI h
 obtain⟨_,_,cs,el,fr,g1,g2,g3,g4,g5⟩:=hrel.obj _ _ _ h1 hpl h2
 have hvl:=hv.length
 have hone':∀x∈vs',oneCellB x=true:=by
  intro x hx
  obtain⟨i,hi⟩:=Xf hx
  have hlt:=(Qg.1 hi).1
  obtain⟨x',e1,e2⟩:=hv.get (Qf (show i<vs.length by omega))
  rw[hi]at e1;cases e1
  rw[e2.oneCell];exact hone _ (U2 _)
 have hr:=WY (P:=P) (b:=pl.block) (off:=pl.base+a.off) (el:=el) (fr:=fr) vs' 0 cs w g1 qr hone' (fun k hk=>(g5 h3).free qr)
 simp only[Jl]at hr
 obtain⟨r1,r2⟩:=Sa hrel h1 h2 h3 hpl hv hone h5 g1 rfl
 exact⟨_,hr,r1,r2,by simp⟩
theorem mG{ty:TypeId}{y:Operand}{n:Nat}(hs:X9 P ty=some n)(ho:o.op=.store ty x y)(hr:Qz H e (.store n x y)=some (v,H',t,M)):OpOk P o e H v H':=by
 simp only[Qz,Qd]at hr
 obtain⟨xv,hxv,yv,hyv,hr⟩:=hr
 split at hr
 ·rename_i ad
  split at hr
  ·rename_i hc
   simp only[Qd,Qk,Prod.mk.injEq]at hr
   obtain⟨H1,hst,rfl,rfl,_,_⟩:=hr
   intro ρ a w hx hrel _
   rw[ho]at hx
   obtain⟨pl,e1,e2,e3⟩:=(hx x (by simp[Op.operands]) _ hxv).ptr_inv
   have hy:=hx y (by simp[Op.operands]) _ hyv
   obtain⟨w',r1,r2,r3,r4⟩:=Wn (P:=P) hrel e1 hst hy.cells (RZ hy hc.2)
   refine⟨.skip,undef,w',ρ,?_,rfl,⟨.refl _ _ _,.tuple .nil,r2,r3⟩⟩
   have hsz:¬((a.eval y).cells.size≠n):=by
    have:=hy.cells.length
    simp only[Fs]at this
    omega
   simp only[execOp,ho,e3,Instr.storeAt,Instr.sureAddr,storeVar,Xs hs,Sem.run_bind,Sem.run_pure,Result.andThen_ok,Sem.run_ite,if_neg hsz,r1]
  ·cases hr
 ·cases hr
theorem wE{d:TypeId}(hs:P.underlying s=some .string)(hd:P.underlying d=some (.slice el))(hel:P.underlying el=some (.int .u8))(ho:o.op=.convert s d x)
 (hr:Qz H e (.s2b x)=some (v,H',t,M)):OpOk P o e H v H':=by
  simp only[Qz,Qd]at hr
  obtain⟨xv,hxv,hr⟩:=hr
  split at hr
  · rename_i s0
    split at hr
    · rename_i hsz
      simp only[Qk,Prod.mk.injEq]at hr
      obtain⟨rfl,rfl,_,_⟩:=hr
      refine MI rfl rfl fun ρ a w hx =>?_
      rw[ho]at hx
      have hx':=(hx x (by simp[Op.operands]) _ hxv).string
      obtain⟨cap,hcap1,hcap2⟩:∃cap,s0.size<=cap/\Question.cut (.appendCap s0.size 0 el) (w.tape w.drawn (.appendCap s0.size 0 el))=cap:=⟨_,by simp[Question.cut],rfl⟩
      refine⟨.slice w.heap.size s0.size cap,{ w with drawn:=w.drawn+1,heap:=w.heap.push (.cells (s0.data.map (fun b=>Value.int .u8 b.toNat)++Ve (cap-s0.size) (.int .u8 0)) el (cap,cap+1)) },_,el,(cap,cap+1),s0.data.toList.map fun b=>.int .u8 b.toNat,?_,rfl,rfl,rfl,rfl,
        LRel.same (by rw[ZX];intro y hy;simp[Ob.grown]at hy;obtain⟨b,_,rfl⟩:=hy;rfl),⟨(Ve (cap-s0.size) (.int .u8 0)).toList,by simp⟩,?_,?_,fun ρ' h=>Wp h (Qs _) hcap1 (.inr ⟨rfl,.inr ?_⟩)⟩
      · have hsd:s0.data.size=s0.size:=rfl
        simp only[execOp,ho,hx',convert,run_underlying hs,run_underlying hd,run_underlying hel,Conv.stringToBytes,Sem.run_bind,Result.andThen_ok,run_choose,Question.forced,ZM,if_false,hcap2,VJ,markStringish,run_shape,World.shape?]
        have hsize:(s0.data.map (fun b=>Value.int .u8 b.toNat)++Ve (cap-s0.size) (Value.int .u8 0)).size=cap:=by simp[hsd];omega
        simp only[Array.getElem?_push_size,run_freeze,Result.andThen_ok,Sem.run_pure,hsize,World.freeze,Nat.one_ne_zero,if_false]
        congr 2
        apply KK
        intro k
        rw[KN,Ft,Ft]
        by_cases c:k=w.heap.size
        · subst c;simp
        · simp[c,Ne.symm c]
      · intro y hy;simp[Ob.grown]at hy;obtain⟨b,_,rfl⟩:=hy;rfl
      · right;simp[show s0.data.size=s0.size from rfl];omega
      · simp[Ob.grown,show s0.data.size=s0.size from rfl];omega
    · cases hr
  · cases hr
theorem eG(hs:P.underlying s=some (.slice el))(hel:P.underlying el=some (.int .u8))(ho:o.op=.convert s s x)
 (hr:Qz H e (.convSl x)=some (v,H',t,M)):OpOk P o e H v H':=by
  simp only[Qz,Qd]at hr
  obtain⟨xv,hxv,hr⟩:=hr
  split at hr
  · rename_i ad n c
    simp only[Qd]at hr
    obtain⟨ob,hob,hr⟩:=hr
    split at hr
    · rename_i hc
      simp only[Qk,Prod.mk.injEq]at hr
      obtain⟨rfl,rfl,_,_⟩:=hr
      obtain⟨h1,h2⟩:=VU hob
      intro ρ a w hx hrel _
      rw[ho]at hx
      have hv:=hx x (by simp[Op.operands]) _ hxv
      generalize hax:a.eval x=xv' at hv
      cases hv with
      |same h=>simp[Z4]at h
      |@slice _ pl _ _ a' cap' q1 q2 q3 q4 q5 q6 q7 q8 =>
        obtain⟨k1,k2,cs,el',fr,g1,g2,g3,g4,g5⟩:=hrel.obj _ _ _ h1 q1 h2
        have hnf:pl.kind≠.foreign:=by rw[k1,if_pos hc.1];split<;>decide
        have q3w:=q3
        have q4w:=q4
        replace q3:=q3.resolve_right fun h=>hnf h.2
        replace q4:=q4.resolve_right fun h=>hnf h.2
        have hbs:pl.block<w.heap.size:=hrel.bound _ _ q1
        have hshape:w.shape? a'.block=some (el',cs.size):=by rw[q4];simp[World.shape?,g1]
        have hfree:=g5 hc.1
        obtain⟨fr',hfr',hfz⟩:∃fr':Nat×Nat,Unfr fr' cs.size/\(w.freeze ⟨a'.block,cs.size,none⟩ 1).heap=w.heap.modify pl.block fun _=>.cells cs el' fr':=by
          obtain⟨lo,hi⟩:=fr
          refine⟨if lo==hi then(cs.size,cs.size+1)else(min lo cs.size,max hi (cs.size+1)),?_,?_⟩
          · unfold Unfr at hfree ⊢
            simp only at hfree
            split
            · right;exact Qs _
            · rename_i hne
              right
              simp only
              rcases hfree with h|h
              · subst h;simp at hne
              · omega
          · simp only[World.freeze,Nat.one_ne_zero,if_false,q4]
            apply KK
            intro k
            rw[KN,KN]
            by_cases ck:pl.block=k
            · subst ck
              rw[if_pos rfl,if_pos rfl,g1]
              rfl
            · rw[if_neg ck,if_neg ck]
        have hw1:(w.freeze ⟨a'.block,cs.size,none⟩ 1).os=w.os/\(w.freeze ⟨a'.block,cs.size,none⟩ 1).tape=w.tape/\(w.freeze ⟨a'.block,cs.size,none⟩ 1).output=w.output:=by simp[World.freeze]
        generalize hwn:w.freeze ⟨a'.block,cs.size,none⟩ 1=w' at hfz hw1
        have hold:∀b,b≠pl.block->w'.heap[b]?=w.heap[b]? := fun b hb=>by rw[hfz,KN,if_neg (Ne.symm hb)]
        have hnew:w'.heap[pl.block]?=some (.cells cs el' fr'):=by rw[hfz,KN,if_pos rfl,g1];rfl
        have hsz:w'.heap.size=w.heap.size:=by rw[hfz];simp
        refine⟨.value (.slice (some a') n cap'),.slice (some a') n cap',w',ρ,?_,rfl,⟨.refl _ _ _,.slice q1 q2 q3w q4w q5 q6 q7 q8,⟨?_,?_,hrel.inj⟩,⟨hw1.1,hw1.2.1,hw1.2.2,by rw[hsz];exact Qs _,?_,fun i p h k=>by rw[k]at h;cases h⟩⟩⟩
        · have hss:(s==s)=true:=by simp
          simp only[execOp,ho,hax,convert,run_underlying hs,run_underlying hel,hss,Sem.run_bind,Result.andThen_ok,markStringish,run_shape,hshape,run_freeze,Sem.run_pure,hwn]
        · intro i p h;rw[hsz];exact hrel.bound i p h
        · intro i oi p hi hp' hli
          by_cases ci:i=ad.block
          · subst ci
            rw[q1]at hp';cases hp'
            have:oi=ob:=by have h1':hp H ad.block=some ob:=h1;rw[h1']at hi;cases hi;rfl
            subst this
            exact⟨k1,k2,cs,el',fr',hnew,g2,g3,g4,fun _=>hfr'⟩
          · have hne:p.block≠pl.block:=fun h=>hrel.inj ad.block i ob oi pl p h1 hi q1 hp' h2 hc.1 hli (Ne.symm ci) h.symm
            exact(hrel.obj i oi p hi hp' hli).same_block (.refl _) (hold _ hne)
        · intro b _ hno
          exact hold b fun h=>hno ad.block ob pl h1 q1 h2 hc.1 h.symm
    · cases hr
  · cases hr
end
end
end Go.Ev
namespace Go.Ev
open Go.RowKit
section
variable{P:Program}{o:Oper}{e:Env}{H H':List Ob}{v:Value}{t:Option (List Nat)}{M:List Nat}
section
variable{x:Operand}{el td:TypeId}{ρ:Pl}{x':Value}
theorem HX{w:World}(hrel:RelF ρ (hp H) w){x:Value}{es n:Nat}{l:List Value}(hx:VRel ρ x x')(hl:elemsOf H es n x=some l)(hn:∃m,lenV x=some m/\n<=m) :
  ∃l',(∀w2:World,w2.heap=w.heap->(Builtin.firstCells es n x').run P w2=.ok l' w2)/\LRel ρ l l'.toList/\l.length=n*es/\∀y∈l,oneCellB y=true:=by
 unfold elemsOf at hl
 split at hl
 ·cases hl
  obtain⟨rfl,rfl,rfl⟩:=hx.nslice
  obtain⟨m,h1,h2⟩:=hn
  simp[lenV]at h1;subst h1
  have:n=0:=qr
  subst this
  exact⟨#[],fun _ _=>by simp[Builtin.firstCells],.nil,by simp,by simp⟩
 ·rename_i a len cap
  simp only[Qd]at hl
  obtain⟨ob,hob,hl⟩:=hl
  obtain⟨h1,h2⟩:=VU hob
  split at hl
  ·rename_i hc
   cases hl
   obtain⟨m,h3,h4⟩:=hn
   simp only[lenV,Qk]at h3;subst h3
   obtain⟨pl,a',cap',e1,e2,e3,e4,e5,e6,e7,e8,rfl⟩:=hx.slice_inv
   obtain⟨_,_,cs,el,fr,g1,g2,g3,g4,_⟩:=hrel.obj _ _ _ h1 e1 h2
   have hlen:((ob.c.drop a.off).take (n*es)).length=n*es:=by simp;omega
   have hone:∀y∈(ob.c.drop a.off).take (n*es),oneCellB y=true:=fun y hy=>by
    obtain⟨i,hi⟩:=Xf (ZF (QP hy))
    exact(g4 i y hi).1
   by_cases hz:n*es=0
   ·refine⟨#[],?_,?_,hlen,hone⟩
    ·intro w2 _;simp[Builtin.firstCells,hz,loadCells,loadCellsFrom]
    ·rw[hz];simp;exact .nil
   ·have hn0:0<n:=by rcases Jo n with h|h;simp[h]at hz;exact h
    have hoff:a'.off=pl.base+a.off:=by rcases e5 with h|h<;>omega
    have e3':=e3.resolve_right fun h=>by have:=h.1;omega
    have e4':=e4.resolve_right fun h=>by have:=h.1;omega
    have ha':a'=⟨pl.block,pl.base+a.off,none⟩:=by rw[Ku a' e3',e4',hoff]
    refine⟨((cs.toList.drop (pl.base+a.off)).take (n*es)).toArray,?_,?_,hlen,hone⟩
    ·intro w2 hw2
     simp only[Builtin.firstCells,ha']
     exact run_loadCells (by rw[hw2];exact g1) qr
    ·refine LRel.of_get (by simp;omega) fun i u hi =>?_
     simp only[QW,Zp]at hi ⊢
     split at hi
     ·rename_i hlt
      obtain⟨_,u',g5,g6⟩:=g4 _ u hi
      exact⟨u',by rw[if_pos hlt];simpa [Zb]using g5,g6⟩
     ·cases hi
  ·cases hl
 ·rename_i s
  split at hl
  ·rename_i hes
   cases hl
   subst hes
   obtain⟨m,h1,h2⟩:=hn
   simp only[lenV,Qk]at h1
   have hsz:s.data.toList.length=s.size:=by simp
   refine⟨((s.extract 0 n).data.map fun b=>.int .u8 b.toNat),fun _ _=>by simp[Builtin.firstCells,hx.string],?_,by simp;omega,?_⟩
   ·have:((s.extract 0 n).data.map fun b=>Value.int .u8 b.toNat).toList=(s.data.toList.take n).map fun b=>.int .u8 b.toNat:=by
     simp[ByteArray.data_extract]
    rw[this]
    exact LRel.same (by rw[ZX];intro y hy;rw[Xo]at hy;obtain⟨b,_,rfl⟩:=hy;rfl)
   ·intro y hy;rw[Xo]at hy;obtain⟨b,_,rfl⟩:=hy;rfl
  ·cases hl
 ·cases hl
theorem I3{x:Value}{n:Nat}(hx:VRel ρ x x')(hn:lenV x=some n)(w:World):(Builtin.lenOf x').run P w=.ok n w:=by
 unfold lenV at hn
 split at hn
 ·rename_i b l c
  cases hn
  cases b with
  |none=>obtain⟨rfl,_,_⟩:=hx.nslice;rfl
  |some a=>obtain⟨pl,a',cap',_,_,_,_,_,_,_,_,rfl⟩:=hx.slice_inv;rfl
 ·cases hn;rw[hx.string];rfl
 ·cases hn
theorem wH{s d:TypeId}(hs:P.underlying s=some (.slice el))(hel:P.underlying el=some (.int .u8))(hd:P.underlying d=some .string)(ho:o.op=.convert s d x)
 (hr:Qz H e (.b2s x)=some (v,H',t,M)):OpOk P o e H v H':=by
  simp only[Qz,Qd]at hr
  obtain⟨xv,hxv,hr⟩:=hr
  split at hr
  · rename_i b n cap
    simp only[Qd,Qk,Prod.mk.injEq]at hr
    obtain⟨cs,hcs,l,hl,rfl,rfl,_,_⟩:=hr
    intro ρ a w hx hrel _
    rw[ho]at hx
    have hx':=hx x (by simp[Op.operands]) _ hxv
    obtain⟨l',e1,e2,e3,e4⟩:=HX (P:=P) hrel hx' hcs ⟨n,rfl,Qs _⟩
    replace e1:=e1 w rfl
    have hb:∀(cs:List Value) (l:List UInt8),XO cs=some l->∃ns:List Int,cs=ns.map (Value.int .u8)/\l=ns.map fun n=>UInt8.ofNat n.toNat:=by
      intro cs
      induction cs with
      |nil=>intro l h;simp[XO]at h;subst h;exact⟨[],rfl,rfl⟩
      |cons c cs ih =>
        intro l h
        unfold XO at h
        split at h
        · rename_i heq;cases heq
        · rename_i heq
          cases heq
          simp only[Qd,Qk]at h
          obtain⟨l1,h1,rfl⟩:=h
          obtain⟨ns,rfl,rfl⟩:=ih l1 h1
          exact⟨_::ns,rfl,rfl⟩
        · cases h
    obtain⟨ns,rfl,rfl⟩:=hb cs l hl
    have hl':l'=(ns.map (Value.int .u8)).toArray:=by
      apply Ji.1
      exact e2.of_scalars (by rw[ZX];intro y hy;simp at hy;obtain⟨b,_,rfl⟩:=hy;rfl)
    have hfold:∀(ns:List Int) (r:ByteArray),ns.foldl (fun r n=>r.push (UInt8.ofNat n.toNat)) r=⟨r.data++(ns.map fun n=>UInt8.ofNat n.toNat).toArray⟩:=by
      intro ns
      induction ns with
      |nil=>intro r;simp
      |cons n ns ih =>
        intro r
        rw[Xy,ih]
        congr 1
        apply Ji.1
        show((r.push (UInt8.ofNat n.toNat)).data++_).toList=_
        have:(r.push (UInt8.ofNat n.toNat)).data=r.data.push (UInt8.ofNat n.toNat):=rfl
        rw[this];simp
    refine⟨.value (.string ⟨(ns.map fun n=>UInt8.ofNat n.toNat).toArray⟩),_,w,ρ,?_,rfl,.refl _ _ _,.same rfl,hrel,.refl _ _ _ _⟩
    cases b with
    |none =>
      obtain⟨e5,rfl,rfl⟩:=hx'.nslice
      simp only[elemsOf,Qk]at hcs
      have:ns=[]:=by cases ns<;>simp at hcs;rfl
      subst this
      simp only[execOp,ho,e5,Sem.run_bind,run_convert_bytes_string w s d el none 0 0 hs hel hd,Conv.bytesToString,Sem.run_pure,Result.andThen_ok]
      rfl
    |some ad =>
      obtain⟨pl,a',cap',_,_,_,_,_,_,_,_,e9⟩:=hx'.slice_inv
      have e10:(loadCells a' n).run P w=.ok (ns.map (Value.int .u8)).toArray w:=by
        rw[e9]at e1
        simpa [Builtin.firstCells,hl']using e1
      simp only[execOp,ho,e9,Sem.run_bind,run_convert_bytes_string w s d el (some a') n cap' hs hel hd,run_bytesToString w a' n cap' ns e10,Result.andThen_ok,Sem.run_pure]
      rw[hfold]
      simp
  · cases hr
theorem mN{z:List Value}(hu:P.underlying td=some (.slice el))(hz:Wy P el=some z){c:Call}(hc1:c.callee=.builtin .clear)(hc2:c.args.toList=[x])
 (hc3:c.argTypes.toList=[td]) (ho:o.op=.call c) (hr:Qz H e (.clear z x)=some (v,H',t,M)):OpOk P o e H v H':=by
  simp only[Qz,Qd]at hr
  obtain⟨dv,hdv,hr⟩:=hr
  have hca:c.args=#[x]:=Ji.1 hc2
  have hct:c.argTypes=#[td]:=Ji.1 hc3
  split at hr
  · rename_i ad dl cap
    simp only[Qd,Qk,Prod.mk.injEq]at hr
    obtain⟨H1,hst,rfl,rfl,_,_⟩:=hr
    intro ρ a w hx hrel _
    rw[ho]at hx
    have hx':=hx x (by simp[Op.operands,Call.operands,hca]) _ hdv
    obtain⟨zs,zv,hzr,hzc⟩:=WQ (P:=P) (w:=w) hz
    have hzA:zv.cells=z.toArray:=Ji.1 hzc
    have hmem:∀y∈(Builtin.zeroCells z.toArray dl).toList,Z4 y=true:=by
      intro y hy
      simp only[Builtin.zeroCells,U3,Xo]at hy
      obtain⟨i,hi,rfl⟩:=hy
      have hi':i<dl*z.length:=by simpa using hi
      have h0:0<z.length:=by
        rcases Jo z.length with h|h
        · rw[h]at hi';omega
        · exact h
      have hm:i%z.length<z.length:=Q9 _ h0
      have:(z.toArray[i%z.toArray.size]!)=z[i%z.length]:=by simp[hm]
      rw[this]
      exact ZX.1 zs _ (U2 _)
    have hop:∀a' cap',a.eval x=.slice (some a') dl cap'->(execOp a.eval o).run P w=((if dl=0 then pure ()else storeCells a' (Builtin.zeroCells z.toArray dl).toList).run P w).andThen fun _ w'=>.ok (.value (.tuple #[])) w':=by
      intro a' cap' hd
      simp only[execOp,ho,resolve,hc1,Sem.run_bind,Sem.run_pure,Result.andThen_ok,invoke,builtin,Builtin.clear_,hca,hct]
      simp only[PQ,JC,Xv,hd,KM,Xx,Sem.run_bind,run_underlying hu,Result.andThen_ok]
      cases dl with
      |zero=>simp
      |succ n =>
        simp only[Sem.run_bind,hzr,Result.andThen_ok,hzA,Sem.run_pure,if_neg (Nat.succ_ne_zero n)]
        generalize(storeCells a' (Builtin.zeroCells z.toArray (n+1)).toList).run P w=r
        cases r<;>rfl
    obtain⟨pl,a',cap',g1,g2,g3,g4,g5,g6,g7,g8,g9⟩:=hx'.slice_inv
    have hone:=fun y hy=>XK (hmem y hy)
    have hall:((Builtin.zeroCells z.toArray dl).toList).all Z4=true:=ZX.2 hmem
    obtain⟨w',r1,r2,r3,r4⟩:=Wn (P:=P) hrel g1 hst (.same hall) hone
    by_cases h0:dl=0
    · subst h0
      have hnil:(Builtin.zeroCells z.toArray 0).toList=[]:=by simp[Builtin.zeroCells]
      rw[hnil]at r1
      have hw:w'=w:=by simp[storeCells]at r1;exact r1.symm
      subst hw
      refine⟨.value (.tuple #[]),_,w',ρ,?_,rfl,.refl _ _ _,.tuple .nil,r2,r3⟩
      rw[hop _ _ g9];simp
    · have hz':¬cap'=0:=qr
      have hoff:a'.off=pl.base+ad.off:=by rcases g5 with h|h<;>omega
      have g3':=g3.resolve_right fun h=>hz' h.1
      have g4':=g4.resolve_right fun h=>hz' h.1
      have ha':a'=⟨pl.block,pl.base+ad.off,none⟩:=by rw[Ku a' g3',g4',hoff]
      refine⟨.value (.tuple #[]),_,w',ρ,?_,rfl,.refl _ _ _,.tuple .nil,r2,r3⟩
      rw[hop _ _ g9,ha',if_neg h0,r1];rfl
  · cases hr
theorem sm{es:Nat}{y:Operand}{ts:List TypeId}(hu:P.underlying td=some (.slice el))(hs:X9 P el=some es){c:Call}(hc1:c.callee=.builtin .copy)(hc2:c.args.toList=[x,y])
 (hc3:c.argTypes.toList=td::ts) (ho:o.op=.call c) (hr:Qz H e (.copy es x y)=some (v,H',t,M)):OpOk P o e H v H':=by
  simp only[Qz,Qd]at hr
  obtain⟨dv,hdv,sv,hsv,hr⟩:=hr
  have hca:c.args=#[x,y]:=Ji.1 hc2
  have hct:c.argTypes[0]?=some td:=by rw[<-ZA,hc3];rfl
  split at hr
  · rename_i base dl cap
    simp only[Qd]at hr
    obtain⟨sl,hsl,cs,hcs,hr⟩:=hr
    intro ρ a w hx hrel _
    rw[ho]at hx
    have hx':=hx x (by simp[Op.operands,Call.operands,hca]) _ hdv
    have hy':=hx y (by simp[Op.operands,Call.operands,hca]) _ hsv
    obtain⟨l',e1,e2,e3,e4⟩:=HX (P:=P) hrel hy' hcs ⟨sl,hsl,Nat.min_le_left _ _⟩
    replace e1:=e1 w rfl
    have e5:=I3 (P:=P) hy' hsl w
    have hop:∀base' cap',a.eval x=.slice base' dl cap'->(execOp a.eval o).run P w=((match base' with|some a=>storeCells a l'.toList|none=>pure ()).run P w).andThen fun _ w'=>.ok (.value (.int .i64 (Nat.min sl dl:Nat))) w':=by
      intro base' cap' hd
      simp only[execOp,ho,resolve,hc1,Sem.run_bind,Sem.run_pure,Result.andThen_ok,invoke,builtin,Builtin.copy_,hca]
      simp only[PQ,JC,Xv,hd,hct,Sem.run_bind,run_underlying hu,Result.andThen_ok,e5,Xs hs]
      have e6:(Builtin.firstCells es (Nat.min sl dl) (a.eval y)).run P w=.ok l' w:=e1
      simp only[KM,Xx,JU,Sem.run_bind,run_underlying hu,Result.andThen_ok,e5,Xs hs,e6]
      cases base' with
      |none=>simp[goInt]
      |some b=>simp only[Sem.run_bind,goInt,Sem.run_pure];generalize(storeCells b l'.toList).run P w=r;cases r<;>rfl
    cases base with
    |some ad =>
      simp only[Qd,Qk,Prod.mk.injEq]at hr
      obtain⟨H1,hst,rfl,rfl,_,_⟩:=hr
      obtain⟨pl,a',cap',g1,g2,g3,g4,g5,g6,g7,g8,g9⟩:=hx'.slice_inv
      by_cases hz:cap'=0
      ·
        have hd0:dl=0:=qr
        subst hd0
        have hcs0:cs=[]:=by
          have:cs.length=0:=by simpa using e3
          exact J7 this
        subst hcs0
        have hl0:l'.toList=[]:=by
          have:=e2.length
          exact J7 this.symm
        obtain⟨w',r1,r2,r3,r4⟩:=Wn (P:=P) hrel g1 hst .nil wd
        have hw:w'=w:=by simp[storeCells]at r1;exact r1.symm
        subst hw
        refine⟨.value (.int .i64 (Nat.min sl 0:Nat)),_,w',ρ,?_,rfl,.refl _ _ _,.same rfl,r2,r3⟩
        rw[hop _ _ g9,hl0];simp[storeCells]
      · have hoff:a'.off=pl.base+ad.off:=by rcases g5 with h|h<;>omega
        have g3':=g3.resolve_right fun h=>hz h.1
        have g4':=g4.resolve_right fun h=>hz h.1
        have ha':a'=⟨pl.block,pl.base+ad.off,none⟩:=by rw[Ku a' g3',g4',hoff]
        obtain⟨w',r1,r2,r3,r4⟩:=Wn (P:=P) hrel g1 hst e2 e4
        refine⟨.value (.int .i64 (Nat.min sl dl:Nat)),_,w',ρ,?_,rfl,.refl _ _ _,.same rfl,r2,r3⟩
        rw[hop _ _ g9,ha',r1];rfl
    |none =>
      dsimp only at hr
      split at hr
      · rename_i hd0
        subst hd0
        simp only[Qk,Prod.mk.injEq]at hr
        obtain⟨rfl,rfl,_,_⟩:=hr
        refine⟨.value (.int .i64 0),_,w,ρ,?_,rfl,.refl _ _ _,.same rfl,hrel,.refl _ _ _ _⟩
        rw[hop none cap hx'.nslice.1];simp
      · cases hr
  · cases hr
theorem RelF.forget{ρ:Pl}{c c':Nat->Option Ob}{w:World}(h:RelF ρ c w)(hc:∀id ob,c' id=some ob->ob.live=true->c id=some ob):RelF ρ c' w :=
 ⟨h.bound,fun id ob pl h1 h2 h3=>h.obj id ob pl (hc id ob h1 h3) h2 h3,
  fun i j oi oj pi pj h1 h2 h3 h4 h5 h6 h7 h8=>h.inj i j oi oj pi pj (hc i oi h1 h5) (hc j oj h2 h7) h3 h4 h5 h6 h7 h8⟩
theorem Frm.weaken{ρ ρ':Pl}{c c1 c':Nat->Option Ob}{w w':World}(h:Frm ρ ρ' c1 c' w w')(hc:∀id ob,c1 id=some ob->ob.live=true->c id=some ob):Frm ρ ρ' c c' w w' :=
 ⟨h.os,h.tape,h.output,h.size,fun b hb k=>h.blocks b hb fun id ob pl h1 h2 h3 h4=>k id ob pl (hc id ob h1 h3) h2 h3 h4,
  fun id pl h1 h2=>(h.fresh id pl h1 h2).imp (fun z=>z) fun⟨i,ob,pl0,a1,a2,a3,a4,a5,a6⟩=>⟨i,ob,pl0,hc i ob a1 a3,a2,a3,a4,a5,a6⟩⟩
end
end
end Go.Ev
namespace Go.Ev
open Go.RowKit
section
variable{P:Program}{o:Oper}{e:Env}{H H':List Ob}{v:Value}{t:Option (List Nat)}{M:List Nat}
theorem Re{w:World}{ts tx el:TypeId}{zero:List Value}{bytes n need len cap:Nat}{d:TypeDesc}{base:Option Addr}{x:Value}{old new:Array Value}{ty:TypeId}(hu:P.underlying ts=some (.slice el))(hx:P.underlying tx=some d)
  (hd:∀k,d≠.int k) (hz:Wy P el=some zero) (hsz:X9 P el=some zero.length) (hb:Hq P el=some bytes) (hn:(Builtin.lenOf x).run P w=.ok n w) (hneed:len+n=need) (hgrow:cap<need)
  (hfit:need*bytes<=2^47) (hbp:0<bytes) (hold:∀w2:World,w2.heap=w.heap->(Builtin.firstCells zero.length len (.slice base len cap)).run P w2=.ok old w2)
  (hnew:∀w2:World,w2.heap=w.heap->(Builtin.firstCells zero.length n x).run P w2=.ok new w2) :
  ∃(nc:Nat) (ext:Array Value),need<=nc/\ext.size=(nc-need)*zero.length/\(Builtin.append_ #[ts,tx] ty #[.slice base len cap,x]).run P w=.ok (.slice w.heap.size need nc)
   { w with drawn:=w.drawn+1,heap:=w.heap.push (.cells (old++new++ext) el (0,0)) }:=by
 obtain⟨i,hi1,hi2⟩:=AT (P:=P) (w:=w) hb
 have hi1':∀k,(typeInfo el).run P { w with drawn:=w.drawn+k }=.ok i { w with drawn:=w.drawn+k }:=by
  intro k
  simp only[Hq,QF]at hb
  obtain⟨j,hj,hjb⟩:=hb
  have:(typeInfo el).run P w=.ok j w:=by simp[typeInfo,hj]
  rw[this]at hi1;cases hi1
  simp[typeInfo,hj]
 obtain⟨hzs,z,hz1,hz2⟩:=WQ (P:=P) (w:={ w with drawn:=w.drawn+1 }) hz
 let nc:=Question.cut (.appendCap need cap el) (w.tape w.drawn (.appendCap need cap el))
 have hnc:need<=nc:=by simp[nc,Question.cut]
 refine⟨nc,Builtin.zeroCells z.cells (nc-need),hnc,?_,?_⟩
 ·have:z.cells.size=zero.length:=by rw[<-hz2];simp
  simp[Builtin.zeroCells,this]
 ·have hzf:(d matches .int _)=false:=by cases d<;>first|rfl|exact absurd rfl (hd _)
  have c1:¬(need<=cap):=qr
  have c2:¬((need:Int)>IntKind.i64.max/\(i.bytes=0)):=by rintro⟨_,h⟩;omega
  have c3:¬(Builtin.nextslicecap need cap*i.bytes>2^48):=by
   have:=growslice_fits hgrow (bytes:=i.bytes) (by rw[hi2];exact hfit)
   omega
  have hho:=hold { w with drawn:=w.drawn+1 } rfl
  have hnn:=hnew { w with drawn:=w.drawn+1 } rfl
  have h0:=hi1' 0
  unfold Builtin.append_
  simp only[KM,Xx,JU]
  simp only[Sem.run_bind,run_underlying hu,Result.andThen_ok,Xs hsz,run_underlying hx,Sem.run_pure,hzf]
  simp only[Result.andThen_ok,ZM,if_false,hn,Sem.run_ite,Sem.run_bind,hneed,if_neg c1,WN,if_true,hi1,false_or]
  rw[if_neg c2]
  simp only[Sem.run_pure,Result.andThen_ok,if_neg c3,hi1,run_choose,Question.forced,ZM,if_false]
  have hch:Question.cut (.appendCap need cap el) (w.tape w.drawn (.appendCap need cap el))=nc:=rfl
  simp only[hch,Sem.run_pure,Result.andThen_ok,hi1' 1,run_askRoom,hho,hnn,hz1,VJ]
theorem It{x y:Operand}{ts tx el:TypeId}{zero:List Value}{bytes:Nat}{d:TypeDesc}(hu:P.underlying ts=some (.slice el))(hx:P.underlying tx=some d)(hd:∀k,d≠.int k)(hz:Wy P el=some zero)
  (hsz:X9 P el=some zero.length) (hb:Hq P el=some bytes) {c:Call} (hc1:c.callee=.builtin .append) (hc2:c.args.toList=[x,y]) (hc3:c.argTypes.toList=[ts,tx]) (ho:o.op=.call c)
  (hr:Qz H e (.append zero.length bytes x y)=some (v,H',t,M)):OpOk P o e H v H':=by
 simp only[Qz,Qd]at hr
 obtain⟨sv,hsv,xv,hxv,hr⟩:=hr
 have hca:c.args=#[x,y]:=Ji.1 hc2
 have hct:c.argTypes=#[ts,tx]:=Ji.1 hc3
 have hshape:∃base len cap,sv=.slice base len cap:=by
  cases sv<;>first|exact⟨_,_,_,rfl⟩|(simp[Jw]at hr)
 obtain⟨base,len,cap,rfl⟩:=hshape
 unfold Jw at hr
 dsimp only at hr
 simp only[Qd]at hr
 obtain⟨n,hn,new,hnew,hr⟩:=hr
 intro ρ a w hxx hrel hfree
 rw[ho]at hxx
 have hs':=hxx x (by simp[Op.operands,Call.operands,hca]) _ hsv
 have hy':=hxx y (by simp[Op.operands,Call.operands,hca]) _ hxv
 have hrun:(execOp a.eval o).run P w=((Builtin.append_ #[ts,tx] o.type #[a.eval x,a.eval y]).run P w).andThen fun v w'=>.ok (.value v) w':=by
  simp only[execOp,ho,resolve,hc1,Sem.run_bind,Sem.run_pure,Result.andThen_ok,invoke,builtin,hca,hct]
  simp only[PQ,JC,Xv]
 have hlen:=I3 (P:=P) hy' hn w
 obtain⟨new',q1,q2,q3,q4⟩:=HX (P:=P) hrel hy' hnew ⟨n,hn,Qs _⟩
 have hzf:(d matches .int _)=false:=by cases d<;>first|rfl|exact absurd rfl (hd _)
 have hin:∀base' len' cap',len'+n<=cap'->a.eval x=.slice base' len' cap'->(execOp a.eval o).run P w =
   ((match base' with|some a=>storeCells (a.add (len'*zero.length)) new'.toList|none=>pure ()).run P w).andThen fun _ w'=>.ok (.value (.slice base' (len'+n) cap')) w':=by
  intro base' len' cap' hle hd
  rw[hrun,hd]
  unfold Builtin.append_
  simp only[KM,Xx,JU]
  simp only[Sem.run_bind,run_underlying hu,Result.andThen_ok,Xs hsz,run_underlying hx,Sem.run_pure,hzf]
  simp only[ZM,if_false,hlen,Result.andThen_ok,Sem.run_ite,if_pos hle,WN,if_true,Sem.run_bind,q1 w rfl]
  cases base' with
  |none=>simp
  |some b=>simp only[Sem.run_bind,Sem.run_pure];generalize(storeCells (b.add (len'*zero.length)) new'.toList).run P w=r;cases r<;>rfl
 by_cases hn0:n=0
 ·rw[if_pos hn0]at hr
  subst hn0
  simp only[Qk,Prod.mk.injEq]at hr
  obtain⟨rfl,rfl,_,_⟩:=hr
  have hnew0:new'.toList=[]:=by
   have:new'.toList.length=0:=by rw[<-q2.length,q3];simp
   exact J7 this
  cases base with
  |none =>
   obtain⟨e1,rfl,rfl⟩:=hs'.nslice
   refine⟨.value (.slice none 0 0),_,w,ρ,?_,rfl,.refl _ _ _,.same rfl,hrel,.refl _ _ _ _⟩
   rw[hin none 0 0 (Qs _) e1];simp
  |some ad =>
   obtain⟨pl,a',cap',g1,g2,g3,g4,g5,g6,g7,g8,g9⟩:=hs'.slice_inv
   refine⟨.value (.slice (some a') len cap'),_,w,ρ,?_,rfl,.refl _ _ _,?_,hrel,.refl _ _ _ _⟩
   ·rw[hin (some a') len cap' qr g9,hnew0];simp[storeCells]
   ·rw[<-g9];exact hs'
 rw[if_neg hn0]at hr
 split at hr
 ·cases hr
 rename_i hc
 have hc:=Decidable.of_not_not hc
 obtain⟨hfit,hbp,hes⟩:=hc
 cases base with
 |none =>
  obtain⟨e1,rfl,rfl⟩:=hs'.nslice
  simp only[and_self,if_true,Qk,Prod.mk.injEq]at hr
  obtain⟨rfl,rfl,_,_⟩:=hr
  obtain⟨nc,ext,k1,k2,k3⟩:=Re (P:=P) (w:=w) (base:=none) (old := #[]) (new:=new') (ty:=o.type) (len:=0) (cap:=0) hu hx hd hz hsz hb hlen rfl qr hfit hbp (fun w2 _=>by simp[Builtin.firstCells]) q1
  have hf:=hfree H.length (Qs _) wd
  simp only[QL]at k1 k2 k3
  obtain⟨ρ',e2,e3,e4,e5⟩:=Cd (ob:=Ob.grown zero.length new) (w':={ w with drawn:=w.drawn+1,heap:=w.heap.push (.cells (#[]++new'++ext) el (0,0)) }) hrel hf rfl rfl rfl rfl rfl rfl rfl q2 ⟨ext.toList,by simp⟩ q4 (.inl rfl)
  refine⟨.value (.slice w.heap.size n nc),_,_,ρ',by rw[hrun,e1,k3];rfl,rfl,⟨by simpa using e2,Wp e3 (Qs _) k1 (.inr ⟨rfl,.inr ?_⟩),e4,e5⟩⟩
  have:new'.size=n*zero.length:=by have:=q2.length;simp at this;omega
  have h2:nc*zero.length=n*zero.length+(nc-n)*zero.length:=by rw[<-Zl];congr 1;omega
  simp[Ob.grown,this,k2];omega
 |some ad =>
  simp only[Qd]at hr
  obtain⟨ob,hob,old,hold,hr⟩:=hr
  obtain⟨hob1,hob2⟩:=VU hob
  obtain⟨pl,a',cap',g1,g2,g3,g4,g5,g6,g7,g8,g9⟩:=hs'.slice_inv
  have hor:=hrel.obj _ _ _ hob1 g1 hob2
  obtain⟨old',r1,r2,r3,r4⟩:=HX (P:=P) hrel hs' hold ⟨len,rfl,Qs _⟩
  split at hr
  ·cases hr
  rename_i hown
  have hown:=Decidable.of_not_not hown
  have hgrowth:cap'<len+n->∀(H1:List Ob),RelF ρ (hp H1) w->H1.length=H.length->(∀id ob,hp H1 id=some ob->ob.live=true->hp H id=some ob)->H'=H1++[Ob.grown zero.length (old++new)] ->
    v=.slice H.length (len+n) (len+n)->∃nx v' w' ρ',(execOp a.eval o).run P w=.ok nx w'/\LD nx v'/\Post ρ H w v H' v' w' ρ':=by
   intro hg H1 hrel1 hlen1 hsub hH' hv
   subst hH' hv
   rw[g9]at r1
   obtain⟨nc,ext,k1,k2,k3⟩:=Re (P:=P) (w:=w) (base:=some a') (old:=old') (new:=new') (ty:=o.type) hu hx hd hz hsz hb hlen rfl hg hfit hbp r1 q1
   have hf:=hfree H.length (Qs _) (by simp[hlen1])
   obtain⟨ρ',e2,e3,e4,e5⟩:=Cd (H:=H1) (ob:=Ob.grown zero.length (old++new)) (w':={ w with drawn:=w.drawn+1,heap:=w.heap.push (.cells (old'++new'++ext) el (0,0)) }) hrel1 (by rw[hlen1];exact hf) rfl rfl rfl rfl rfl rfl rfl (r2.append q2) ⟨ext.toList,by simp⟩
    (fun y hy=>by simp only[Ob.grown,QC]at hy;exact hy.elim (r4 y) (q4 y)) (.inl rfl)
   rw[hlen1]at e2 e3
   refine⟨.value (.slice w.heap.size (len+n) nc),_,_,ρ',by rw[hrun,g9,k3];rfl,rfl,⟨by simpa [hlen1]using e2,Wp e3 (Qs _) k1 (.inr ⟨rfl,.inr ?_⟩),e4,e5.weaken hsub⟩⟩
   have h3:new'.size=n*zero.length:=by have:=q2.length;simp at this;omega
   have h4:old'.size=len*zero.length:=by have:=r2.length;simp at this;omega
   have h2:nc*zero.length=(len+n)*zero.length+(nc-(len+n))*zero.length:=by rw[<-Zl];congr 1;omega
   have h5:(len+n)*zero.length=len*zero.length+n*zero.length:=Zl _ _ _
   simp[Ob.grown,h3,h4,k2];omega
  split at hr
  ·rename_i hle
   simp only[Qd,Qk,Prod.mk.injEq]at hr
   obtain⟨H1,hst,rfl,rfl,_,_⟩:=hr
   have hoff:a'.off=pl.base+ad.off:=by rcases g5 with h|h<;>omega
   have g3':=g3.resolve_right fun h=>by have:=h.1;omega
   have g4':=g4.resolve_right fun h=>by have:=h.1;omega
   have ha':a'=⟨pl.block,pl.base+ad.off,none⟩:=by rw[Ku a' g3',g4',hoff]
   have had:ad.add (len*zero.length)=⟨ad.block,ad.off+len*zero.length,none⟩:=by rw[Ku ad g2];exact Kt _ _ _
   rw[had]at hst
   obtain⟨w',s1,s2,s3,s4⟩:=Wn (P:=P) (a:=⟨ad.block,ad.off+len*zero.length,none⟩) hrel g1 hst q2 q4
   refine⟨.value (.slice (some a') (len+n) cap'),_,w',ρ,?_,rfl,.refl _ _ _,?_,s2,s3⟩
   ·rw[hin (some a') len cap' qr g9]
    have:a'.add (len*zero.length)=⟨pl.block,pl.base+(ad.off+len*zero.length),none⟩:=by rw[ha',Kt,Zb]
    simp only[this,s1,Result.andThen_ok]
   ·exact .slice g1 g2 g3 g4 g5 hle g7 g8
  ·rename_i hle
   have hkind:=hor.kind
   rw[hown]at hkind
   simp only[if_true]at hkind
   split at hr
   ·rename_i hex
    rw[hex]at hkind;simp only[if_true]at hkind
    simp only[Qk,Prod.mk.injEq]at hr
    obtain⟨rfl,rfl,_,_⟩:=hr
    have hcc:cap'=cap:=by unfold Place.capOk at g8;rw[hkind]at g8;exact g8
    exact hgrowth qr H hrel rfl (fun _ _ h _=>h) rfl rfl
   ·rename_i hex
    have hex':ob.exact=false:=by simpa using hex
    rw[hex']at hkind;simp only[ZM,if_false]at hkind
    split at hr
    ·rename_i hes2
     simp only[Qk,Prod.mk.injEq]at hr
     obtain⟨rfl,rfl,_,_⟩:=hr
     have hid:ad.block<H.length:=(Qg.1 hob1).1
     have hsub:∀id ob',hp (H.set ad.block Ob.dead) id=some ob'->ob'.live=true->hp H id=some ob':=by
      intro id ob' h hl
      rw[LJ _ _ _ hid]at h
      split at h
      ·cases h;simp[Ob.dead]at hl
      ·exact h
     have hrel1:=hrel.forget hsub
     by_cases hgr:cap'<len+n
     ·exact hgrowth hgr _ hrel1 wd hsub rfl rfl
     ·
      have hnf:pl.kind≠.foreign:=by rw[hkind];decide
      replace g3:=g3.resolve_right fun h=>hnf h.2
      replace g4:=g4.resolve_right fun h=>hnf h.2
      have hcap:a'.off+cap'*pl.es<=pl.size:=by
       unfold Place.capOk at g8;rw[hkind]at g8
       rcases g8 with h|h
       ·omega
       ·exact h
      have hoff:a'.off=pl.base+ad.off:=by rcases g5 with h|h<;>omega
      have ha':a'=⟨pl.block,pl.base+ad.off,none⟩:=by rw[Ku a' g3,g4,hoff]
      obtain⟨_,hes3,cs,el',fr,b1,b2,b3,b4,b5⟩:=hor
      have hes4:zero.length<=pl.es:=by rw[hes3];exact hes2
      have hneed:a'.off+(len+n)*zero.length<=cs.size:=by
       have h1:(len+n)*zero.length<=cap'*pl.es:=Xe qr hes4
       omega
      have h3:new'.toList.length=n*zero.length:=by rw[<-q2.length,q3]
      have hmul:(len+n)*zero.length=len*zero.length+n*zero.length:=Zl _ _ _
      have hone':∀y∈new'.toList,oneCellB y=true:=by
       intro y hy
       obtain⟨i,hi⟩:=Xf hy
       have hlt:=(Qg.1 hi).1
       obtain⟨x',e1,e2⟩:=q2.get (Qf (show i<new.length by rw[q3];omega))
       rw[hi]at e1;cases e1
       rw[e2.oneCell];exact q4 _ (U2 _)
      have hsr:=WY (P:=P) (b:=pl.block) (off:=a'.off+len*zero.length) (el:=el') (fr:=fr) new'.toList 0 cs w b1 qr hone' (fun k hk=>(b5 hown).free qr)
      simp only[Jl]at hsr
      have hcl:cs.toList.length=cs.size:=by simp
      have hold2:old=(ob.c.drop ad.off).take (len*zero.length)/\ad.off+len*zero.length<=ob.c.length:=by
       simp only[elemsOf,hob,Qp]at hold
       split at hold
       ·rename_i hcc;cases hold;exact⟨rfl,hcc.2⟩
       ·cases hold
      have hoL:old.length=len*zero.length:=r3
      have hbs:pl.block<w.heap.size:=hrel.bound _ _ g1
      let cs2:Array Value:=(cs.toList.take (a'.off+len*zero.length)++(new'.toList++cs.toList.drop (a'.off+len*zero.length+new'.toList.length))).toArray
      let w':World:={ w with heap:=w.heap.setIfInBounds pl.block (.cells cs2 el' fr) }
      let pl':Place:=⟨pl.block,a'.off,pl.size,zero.length,.grown⟩
      let ρ':Pl:=fun id=>if id=H.length then some pl' else ρ id
      have hfr:=hfree H.length (Qs _) wd
      have hle':PlLe ρ ρ':=fun id p h=>by
       by_cases c:id=H.length
       ·subst c;rw[hfr]at h;cases h
       ·simp only[ρ',if_neg c];exact h
      have hcs2:cs2.size=cs.size:=by simp only[cs2,List.size_toArray,Qj,Q3,List.length_drop,hcl];omega
      have hnewb:w'.heap[pl.block]?=some (.cells cs2 el' fr):=by simp[w',hbs]
      have holdb:∀b,b≠pl.block->w'.heap[b]?=w.heap[b]? := fun b hne=>by simp[w',Xq,Ne.symm hne]
      have hws:w'.heap.size=w.heap.size:=by simp[w']
      have hget:∀id ob',hp (H.set ad.block Ob.dead++[Ob.grown zero.length (old++new)]) id=some ob'->ob'.live=true->(id=H.length/\ob'=Ob.grown zero.length (old++new))\/(id≠H.length/\id≠ad.block/\hp H id=some ob'):=by
       intro id ob' h hl
       rcases Nat.lt_trichotomy id H.length with h1|h1|h1
       ·right
        have:hp (H.set ad.block Ob.dead++[Ob.grown zero.length (old++new)]) id=hp (H.set ad.block Ob.dead) id:=by simp only[hp];rw[Qc (by simpa using h1)]
        rw[this,LJ _ _ _ hid]at h
        split at h
        ·cases h;simp[Ob.dead]at hl
        ·exact⟨by omega,by assumption,h⟩
       ·left;subst h1;simp[hp]at h;exact⟨rfl,h.symm⟩
       ·simp only[hp]at h;rw[QI (by simp;omega)]at h;cases h
      refine⟨.value (.slice (some a') (len+n) cap'),_,w',ρ',?_,rfl,⟨⟨hle',fun id p h k =>?_⟩,?_,⟨?_,?_,?_⟩,⟨rfl,rfl,rfl,by rw[hws];exact Qs _,?_,?_⟩⟩⟩
      ·rw[hin (some a') len cap' qr g9]
       have:a'.add (len*zero.length)=⟨pl.block,a'.off+len*zero.length,none⟩:=by rw[Ku a' g3,g4];exact Kt _ _ _
       simp only[this,hsr,Result.andThen_ok]
       rfl
      ·by_cases c:id=H.length
       ·subst c;simp
       ·simp only[ρ',if_neg c]at h;rw[k]at h;cases h
      ·refine .slice (a:=⟨H.length,0,none⟩) (pl:=pl') (by simp[ρ']) rfl (.inl g3) (.inl g4) (.inl (by simp[pl'])) (Qs _) qr ?_
       show _\/_
       right
       simp only[pl']
       have:cap'*zero.length<=cap'*pl.es:=XR _ hes4
       omega
      ·intro id p h
       rw[hws]
       by_cases c:id=H.length
       ·simp only[ρ',if_pos c,Qk]at h;subst h;exact hbs
       ·simp only[ρ',if_neg c]at h;exact hrel.bound _ _ h
      ·intro id ob' p ho' h hl
       rcases hget id ob' ho' hl with⟨rfl,rfl⟩|⟨c1,c2,c3⟩
       ·simp only[ρ',if_true,Qk]at h;subst h
        refine⟨by simp[pl',Ob.grown],rfl,cs2,el',fr,hnewb,by rw[hcs2];exact b2,?_,?_,fun _=>by rw[hcs2];exact b5 hown⟩
        ·simp only[pl',Ob.grown,Qj,hoL,q3,hcs2];omega
        ·intro i u hi
         simp only[Ob.grown,pl']at hi ⊢
         rw[Bi]at hi
         by_cases c:i<old.length
         ·rw[if_pos c]at hi
          rw[hold2.1,QW,if_pos qr,Zp]at hi
          obtain⟨h6,u',h7,h8⟩:=b4 _ u hi
          refine⟨h6,u',?_,h8.mono hle'⟩
          rw[<-ZA]
          simp only[cs2]
          rw[Qc (by simp;omega),QW,if_pos qr,hoff]
          simpa [Zb]using h7
         ·rw[if_neg c]at hi
          refine⟨q4 u (Qo hi),?_⟩
          obtain⟨u',h7,h8⟩:=q2.get hi
          refine⟨u',?_,h8.mono hle'⟩
          have hlt:=(Qg.1 h7).1
          rw[<-ZA]
          simp only[cs2]
          rw[Qh (by simp;omega),Q3,hcl,Zw qr,show a'.off+i-(a'.off+len*zero.length)=i-old.length by omega,Qc hlt]
          exact h7
       ·simp only[ρ',if_neg c1]at h
        have hne:p.block≠pl.block:=fun hb=>hrel.inj ad.block id ob ob' pl p hob1 c3 g1 h hob2 hown hl (Ne.symm c2) hb.symm
        exact(hrel.obj id ob' p c3 h hl).same_block hle' (holdb _ hne)
      ·intro i j oi oj pi pj hi hj hpi hpj a1 a2 a3 hij
       rcases hget i oi hi a1 with⟨rfl,rfl⟩|⟨c1,c2,c3⟩<;>rcases hget j oj hj a3 with⟨rfl,rfl⟩|⟨d1,d2,d3⟩
       ·exact absurd rfl hij
       ·simp only[ρ',if_true,Qk]at hpi;subst hpi
        simp only[ρ',if_neg d1]at hpj
        exact hrel.inj ad.block j ob oj pl pj hob1 d3 g1 hpj hob2 hown a3 (Ne.symm d2)
       ·simp only[ρ',if_true,Qk]at hpj;subst hpj
        simp only[ρ',if_neg c1]at hpi
        exact hrel.inj i ad.block oi ob pi pl c3 hob1 hpi g1 a1 a2 hob2 c2
       ·simp only[ρ',if_neg c1]at hpi
        simp only[ρ',if_neg d1]at hpj
        exact hrel.inj i j oi oj pi pj c3 d3 hpi hpj a1 a2 a3 hij
      ·intro b hb' h
       exact holdb b fun hbe=>h ad.block ob pl hob1 g1 hob2 hown hbe.symm
      ·intro id p h k
       by_cases c:id=H.length
       ·simp only[ρ',if_pos c,Qk]at h;subst h
        refine .inr ⟨ad.block,ob,pl,hob1,g1,hob2,hown,rfl,fun ob' h' =>?_⟩
        simp only[hp]at h'
        rw[Qc (by simpa using hid),Kw]at h'
        simp[hid]at h'
        subst h';rfl
       ·simp only[ρ',if_neg c]at h;rw[k]at h;cases h
    ·cases hr
end
end Go.Ev
namespace Go.Ev
open Go.RowKit
section
variable{P:Program}{o:Oper}{e:Env}{H H':List Ob}{v:Value}{t:Option (List Nat)}{M:List Nat}
def AOp.simple:AOp->Bool
 |.call .. | .callv .. =>false
 |_=>true
theorem FW{ao:AOp}(hc:compOp P o=some ao)(hsim:ao.simple=true)(hr:Qz H e ao=some (v,H',t,M)):OpOk P o e H v H':=by
 cases hop:o.op with
 |move x=>simp only[compOp,hop,Qk]at hc;subst hc;exact bW (.inl hop) hr
 |assign x=>simp only[compOp,hop,Qk]at hc;subst hc;exact bW (.inr hop) hr
 |pick c a b=>simp only[compOp,hop,Qk]at hc;subst hc;exact si hop hr
 |alloc ty=>simp only[compOp,hop,QF]at hc;obtain⟨z,hz,rfl⟩:=hc;exact mO hz hop hr
 |box ty x=>simp only[compOp,hop,Qk]at hc;subst hc;exact wG hop hr
 |load ty x=>simp only[compOp,hop,QF]at hc;obtain⟨z,hz,rfl⟩:=hc;exact sj hz hop hr
 |store ty x y=>simp only[compOp,hop,QF]at hc;obtain⟨z,hz,rfl⟩:=hc;exact mG hz hop hr
 |nilCheck x=>simp only[compOp,hop,Qk]at hc;subst hc;exact Oy hop hr
 |unOp op ty x=>simp only[compOp,hop,Qk]at hc;subst hc;exact ok_un hop hr
 |extract x i=>simp only[compOp,hop,Qk]at hc;subst hc;exact SU hop hr
 |makeFunc fn f c=>simp only[compOp,hop,Qk]at hc;subst hc;exact eE hop hr
 |makeInterface ty x =>
  simp only[compOp,hop]at hc
  cases hu:P.underlying ty with
  |none=>simp[hu]at hc
  |some d =>
   rw[hu]at hc
   have hn:∀ms,d≠.interface ms:=fun ms hms=>by subst hms;simp at hc
   have:ao=.mkIface ty x:=by
    cases d<;>first|exact absurd rfl (hn _)|(simp at hc;exact hc.symm)
   subst this
   exact SR hu hn hop hr
 |binOp op ty x y yt =>
  simp only[compOp,hop]at hc
  have hcmp:∀(hop2:op=.eql\/op=.neq),(match P.underlying ty with
   |some (.int _)|some .string=>some (AOp.bin op x y)
   |some .bool=>some (.eqv none (op==.neq) x y)
   |some (.array ..)|some (.struct _)=>if P.eqGuardType P.depth ty then none else(Ww P 20 ty).map fun ks=>.eqv (some ks) (op==.neq) x y
   |some d=>if VW (Kf d) y then some (.isNil (Kf d) (op==.neq) x)else none
   |_=>none)=some ao->OpOk P o e H v H':=by
   intro hop2 hc
   split at hc
   ·cases hc;exact SW hop hr
   ·cases hc;exact SW hop hr
   ·rename_i hu;cases hc;exact wF hop2 hu hop hr
   ·rename_i n el hu
    split at hc
    ·cases hc
    ·rename_i hg
     simp only[QF]at hc
     obtain⟨ks,hk,rfl⟩:=hc
     exact mM hop2 hu (.inr ⟨n,el,rfl⟩) hk (by simpa using hg) hop hr
   ·rename_i fs hu
    split at hc
    ·cases hc
    ·rename_i hg
     simp only[QF]at hc
     obtain⟨ks,hk,rfl⟩:=hc
     exact mM hop2 hu (.inl ⟨fs,rfl⟩) hk (by simpa using hg) hop hr
   ·rename_i d _ _ _ _ _ hu
    split at hc
    ·rename_i hn;cases hc;exact mJ hop2 hu hn hop hr
    ·cases hc
   ·cases hc
  cases op with
  |eql=>exact hcmp (.inl rfl) hc
  |neq=>exact hcmp (.inr rfl) hc
  |_=>simp only[Qk]at hc;subst hc;exact SW hop hr
 |convert s d x =>
  simp only[compOp,hop]at hc
  split at hc
  ·rename_i ks k h1 h2;cases hc;exact sn h1 h2 hop hr
  ·rename_i h1 h2;cases hc;exact SV h1 h2 hop hr
  ·rename_i el h1 h2
   split at hc
   ·rename_i he
    cases hc
    have he':P.underlying el=some (.int .u8):=by
     cases hu:P.underlying el with
     |none=>simp[hu]at he
     |some d =>
      rw[hu]at he
      cases d with
      |int k=>cases k<;>simp at he ⊢
      |_=>simp at he
    exact wE h1 h2 he' hop hr
   ·cases hc
  ·rename_i el h1 h2
   split at hc
   ·rename_i he
    cases hc
    have he':P.underlying el=some (.int .u8):=by
     cases hu:P.underlying el with
     |none=>simp[hu]at he
     |some d =>
      rw[hu]at he
      cases d with
      |int k=>cases k<;>simp at he ⊢
      |_=>simp at he
    exact wH h1 he' h2 hop hr
   ·cases hc
  ·rename_i el' el h1 h2
   split at hc
   ·rename_i hsd
    subst hsd
    split at hc
    ·rename_i he
     cases hc
     have he':P.underlying el=some (.int .u8):=by
      cases hu:P.underlying el with
      |none=>simp[hu]at he
      |some d =>
       rw[hu]at he
       cases d with
       |int k=>cases k<;>simp at he ⊢
       |_=>simp at he
     exact eG h2 he' hop hr
    ·cases hc
   ·cases hc
  ·cases hc
 |makeSlice ty l c =>
  simp only[compOp,hop]at hc
  split at hc
  ·rename_i el hu
   simp only[Qd]at hc
   obtain⟨z,hz,b,hb,hc⟩:=hc
   split at hc
   ·rename_i hsz;cases hc;exact L8 hu hz hsz hb hop hr
   ·cases hc
  ·cases hc
 |slice ty x lo hi mx =>
  simp only[compOp,hop]at hc
  split at hc
  ·rename_i n el hu
   simp only[QF]at hc
   obtain⟨s,hs,rfl⟩:=hc
   exact Ox hu hs hop hr
  ·rename_i el hu
   simp only[QF]at hc
   obtain⟨s,hs,rfl⟩:=hc
   exact SQ hu hs hop hr
  ·rename_i hu
   split at hc
   ·rename_i hm
    cases hc
    have:mx=none:=by cases mx<;>simp at hm ⊢
    subst this
    exact Ow hu hop hr
   ·cases hc
  ·cases hc
 |fieldAddr s x f =>
  simp only[compOp,hop]at hc
  split at hc
  ·rename_i fs hu
   simp only[Qd]at hc
   obtain⟨fd,hf,n,hn,hc⟩:=hc
   split at hc
   ·cases hc
   ·rename_i h0;cases hc;exact LB hu hf rfl hn h0 hop hr
  ·cases hc
 |field s x f =>
  simp only[compOp,hop]at hc
  split at hc
  ·rename_i fs hu
   simp only[Qd,QF]at hc
   obtain⟨fd,hf,n,hn,rfl⟩:=hc
   exact mL hu hf rfl hn hop hr
  ·cases hc
 |indexAddr ty x i =>
  simp only[compOp,hop]at hc
  split at hc
  ·rename_i n el hu
   simp only[QF]at hc
   obtain⟨s,hs,rfl⟩:=hc
   exact LA hu hs hop hr
  ·rename_i el hu
   simp only[QF]at hc
   obtain⟨s,hs,rfl⟩:=hc
   exact SS hu hs hop hr
  ·cases hc
 |index ty x i =>
  simp only[compOp,hop]at hc
  split at hc
  ·rename_i n el hu
   simp only[Qd,QF]at hc
   obtain⟨s,hs,m,hm,rfl⟩:=hc
   exact mK hu hs hm hop hr
  ·rename_i hu;cases hc;exact Oz hu hop hr
  ·cases hc
 |build ty ps =>
  simp only[compOp,hop]at hc
  split at hc
  ·rename_i fs hu
   split at hc
   ·rename_i hall
    simp only[Qd,QF]at hc
    obtain⟨z,hz,cps,hcp,rfl⟩:=hc
    refine O0 hz (.inl ⟨fs,hu,rfl⟩) (fun fs' h f hf =>?_) hcp hop hr
    rw[hu]at h;cases h
    exact ZX.1 hall f hf
   ·cases hc
  ·rename_i n el hu
   simp only[Qd,QF]at hc
   obtain⟨z,hz,s,hs,cps,hcp,rfl⟩:=hc
   refine O0 hz (.inr ⟨n,el,s,hu,hs,rfl⟩) (fun fs' h f hf =>?_) hcp hop hr
   rw[hu]at h;cases h
  ·cases hc
 |buildSlice ty len ps =>
  simp only[compOp,hop]at hc
  split at hc
  ·rename_i el hu
   simp only[Qd]at hc
   obtain⟨z,hz,s,hs,hc⟩:=hc
   split at hc
   ·rename_i hcond
    simp only[QF]at hc
    obtain⟨cps,hcp,rfl⟩:=hc
    exact FE hu hz hs hcond.1 hcond.2.1 hcond.2.2 hcp hop hr
   ·cases hc
  ·cases hc
 |sliceToArrayPointer ty x =>
  simp only[compOp,hop]at hc
  split at hc
  ·rename_i n el hu
   split at hc
   ·cases hc;exact sg hu hop hr
   ·cases hc
  ·cases hc
 |call c =>
  simp only[compOp,hop]at hc
  split at hc
  ·cases hc;simp[AOp.simple]at hsim
  ·cases hc;simp[AOp.simple]at hsim
  ·rename_i hcal
   split at hc
   ·rename_i s x ts tx h1 h2
    split at hc
    ·rename_i el1 el2 hu1 hu2
     simp only[Qd]at hc
     obtain⟨z,hz,b,hb,hc⟩:=hc
     split at hc
     ·rename_i hsz;cases hc;exact It hu1 hu2 (fun k hk=>by cases hk) hz hsz hb hcal h1 h2 hop hr
     ·cases hc
    ·rename_i el1 hu1 hu2
     simp only[Qd]at hc
     obtain⟨z,hz,b,hb,hc⟩:=hc
     split at hc
     ·rename_i hsz;cases hc;exact It hu1 hu2 (fun k hk=>by cases hk) hz hsz hb hcal h1 h2 hop hr
     ·cases hc
    ·cases hc
   ·cases hc
  ·rename_i hcal
   split at hc
   ·rename_i d s td ts h1 h2
    split at hc
    ·rename_i el hu
     simp only[QF]at hc
     obtain⟨n,hn,rfl⟩:=hc
     exact sm hu hn hcal h1 h2 hop hr
    ·cases hc
   ·cases hc
  ·rename_i hcal
   split at hc
   ·rename_i d td h1 h2
    split at hc
    ·rename_i el hu
     simp only[QF]at hc
     obtain⟨z,hz,rfl⟩:=hc
     exact mN hu hz hcal h1 h2 hop hr
    ·cases hc
   ·cases hc
  ·rename_i hcal
   split at hc
   ·rename_i x ty h1 h2
    split at hc
    ·rename_i n el hu;cases hc;exact eF hu hcal h1 h2 hop hr
    ·rename_i hu;cases hc;exact mI hu (.inl ⟨rfl,rfl⟩) hcal h1 h2 hop hr
    ·rename_i el hu;cases hc;exact mI hu (.inr ⟨rfl,el,rfl⟩) hcal h1 h2 hop hr
    ·cases hc
   ·cases hc
  ·rename_i hcal
   split at hc
   ·rename_i x y h1;cases hc;exact Is (mx:=false) hcal h1 hop hr
   ·cases hc
  ·rename_i hcal
   split at hc
   ·rename_i x y h1;cases hc;exact Is (mx:=true) hcal h1 hop hr
   ·cases hc
  ·cases hc
 |_=>simp[compOp,hop]at hc
end
end Go.Ev
namespace Go.Ev
open Go.RowKit
variable{M:List Nat}{H H' G' G:List Ob}{e:Env}{v:Value}{ρ' ρ:Pl}{w w':World}
structure AbsOk(H H':List Ob)(M:List Nat):Prop where
 len:H.length<=H'.length
 flags:∀(id:Nat) ob',id<H.length->H'[id]?=some ob'->ob'.live=true->∃ob,H[id]?=some ob/\ob.live=true/\ob.own=ob'.own
 log:∀id:Nat,id<H.length->id∉M->H'[id]?=H[id]?
 ids:∀id∈M,id<H.length
theorem AbsOk.refl(H:List Ob)(M:List Nat)(h:∀id∈M,id<H.length):AbsOk H H M:=⟨Qs _,fun _ ob' _ h h'=>⟨ob',h,h',rfl⟩,fun _ _ _=>rfl,h⟩
theorem AbsOk.push(H:List Ob)(ob:Ob):AbsOk H (H++[ob]) [] :=
 ⟨by simp,fun id ob' h1 h2 h3=>⟨ob',by rw[Qc h1]at h2;exact h2,h3,rfl⟩,fun id h _=>Qc h,by simp⟩
theorem AbsOk.set{H:List Ob}{id:Nat}{ob ob':Ob}(h:H[id]?=some ob)(hf:ob'.live=true->ob.live=true/\ob.own=ob'.own):AbsOk H (H.set id ob') [id]:=by
 have hid:=(Qg.1 h).1
 refine⟨by simp,fun i o h1 h2 h3 =>?_,fun i h1 h2 =>?_,by simpa using hid⟩
 ·rw[Kw]at h2
  split at h2
  ·subst_vars
   simp[hid]at h2;subst h2
   exact⟨ob,h,(hf h3).1,(hf h3).2⟩
  ·exact⟨o,h2,h3,rfl⟩
 ·rw[Kw,if_neg (by simp at h2;omega)]
theorem AbsOk.trans{A B C:List Ob}{M M' N:List Nat}(h:AbsOk A B M)(k:AbsOk B C M')(hN:∀id,id∈N↔id∈M\/(id∈M'/\id<A.length)):AbsOk A C N:=by
 refine⟨Xm h.len k.len,fun id ob h1 h2 h3 =>?_,fun id h1 h2 =>?_,fun id hid =>?_⟩
 ·obtain⟨o1,a1,a2,a3⟩:=k.flags id ob (QM h1 h.len) h2 h3
  obtain⟨o2,b1,b2,b3⟩:=h.flags id o1 h1 a1 a2
  exact⟨o2,b1,b2,b3.trans a3⟩
 ·rw[hN]at h2
  rw[k.log id (QM h1 h.len) (fun hm=>h2 (.inr ⟨hm,h1⟩)),h.log id h1 fun hm=>h2 (.inl hm)]
 ·rcases(hN id).1 hid with h1|h1
  ·exact h.ids id h1
  ·exact h1.2
theorem U5{a:Addr}{vs:List Value}(h:storeAt H a vs=some H'):AbsOk H H' [a.block]:=by
 obtain⟨ob,h1,h2,h3,h4,h5,rfl⟩:=GI h
 exact .set h1 fun _=>⟨h2,rfl⟩
theorem DJ{t:Option (List Nat)}{ao:AOp}(h:Qz H e ao=some (v,H',t,M)):AbsOk H H' M:=by
 have hp:∀r,Jj H r=some (v,H',t,M)->AbsOk H H' M:=fun r hr=>by
  obtain⟨_,rfl,_,rfl⟩:=J3 hr
  exact .refl _ _ wd
 cases ao<;>simp only[Qz]at h<;>first|exact hp _ h|skip
 case alloc z=>simp only[Qk,Prod.mk.injEq]at h;obtain⟨_,rfl,_,rfl⟩:=h;exact .push _ _
 case box x =>
  simp only[Qd]at h
  obtain⟨_,_,h⟩:=h
  split at h
  ·simp only[Qk,Prod.mk.injEq]at h;obtain⟨_,rfl,_,rfl⟩:=h;exact .push _ _
  ·cases h
 case load n a =>
  simp only[Qd]at h
  obtain⟨_,_,h⟩:=h
  split at h
  ·simp only[Qd]at h
   obtain⟨_,_,h⟩:=h
   split at h
   ·simp only[Qd,Qk,Prod.mk.injEq]at h
    obtain⟨_,_,_,rfl,_,rfl⟩:=h;exact .refl _ _ wd
   ·cases h
  ·cases h
 case store n a x =>
  simp only[Qd]at h
  obtain⟨_,_,_,_,h⟩:=h
  split at h
  ·split at h
   ·simp only[Qd,Qk,Prod.mk.injEq]at h
    obtain⟨H1,hst,_,rfl,_,rfl⟩:=h
    exact U5 hst
   ·cases h
  ·cases h
 case convSl x =>
  simp only[Qd]at h
  obtain⟨_,_,h⟩:=h
  split at h
  ·simp only[Qd]at h
   obtain⟨_,_,h⟩:=h
   split at h
   ·simp only[Qk,Prod.mk.injEq]at h
    obtain⟨_,rfl,_,rfl⟩:=h;exact .refl _ _ wd
   ·cases h
  ·cases h
 case s2b x =>
  simp only[Qd]at h
  obtain⟨_,_,h⟩:=h
  split at h
  ·split at h
   ·simp only[Qk,Prod.mk.injEq]at h;obtain⟨_,rfl,_,rfl⟩:=h;exact .push _ _
   ·cases h
  ·cases h
 case b2s x =>
  simp only[Qd]at h
  obtain⟨_,_,h⟩:=h
  split at h
  ·simp only[Qd,Qk,Prod.mk.injEq]at h
   obtain⟨_,_,_,_,_,rfl,_,rfl⟩:=h;exact .refl _ _ wd
  ·cases h
 case buildSlice cs l ps =>
  simp only[Qd,Qk,Prod.mk.injEq]at h
  obtain⟨_,_,_,_,_,rfl,_,rfl⟩:=h
  exact .push _ _
 case sliceSl es x lo hi mx =>
  simp only[Qd]at h
  obtain⟨_,_,_,_,_,_,_,_,h⟩:=h
  split at h
  ·simp only[Qd]at h
   obtain⟨_,_,_,_,h⟩:=h
   split at h
   ·simp only[Qk,Prod.mk.injEq]at h;obtain⟨_,rfl,_,rfl⟩:=h;exact .refl _ _ wd
   ·cases h
  ·simp only[Qd,Qk,Prod.mk.injEq]at h
   obtain⟨_,_,_,rfl,_,rfl⟩:=h;exact .refl _ _ wd
  ·cases h
 case makeSlice z b l c =>
  simp only[Qd]at h
  obtain⟨_,_,_,_,h⟩:=h
  split at h
  ·split at h
   ·simp only[Qk,Prod.mk.injEq]at h;obtain⟨_,rfl,_,rfl⟩:=h;exact .push _ _
   ·cases h
  ·cases h
 case append es b s x =>
  simp only[Qd]at h
  obtain⟨sv,_,xv,_,h⟩:=h
  unfold Jw at h
  split at h
  ·simp only[Qd]at h
   obtain⟨n,_,new,_,h⟩:=h
   split at h
   ·simp only[Qk,Prod.mk.injEq]at h;obtain⟨_,rfl,_,rfl⟩:=h;exact .refl _ _ wd
   ·split at h
    ·cases h
    ·split at h
     ·split at h
      ·simp only[Qk,Prod.mk.injEq]at h;obtain⟨_,rfl,_,rfl⟩:=h;exact .push _ _
      ·cases h
     ·simp only[Qd]at h
      obtain⟨ob,hob,old,_,h⟩:=h
      obtain⟨h1,h2⟩:=VU hob
      split at h
      ·cases h
      ·split at h
       ·simp only[Qd,Qk,Prod.mk.injEq]at h
        obtain⟨H1,hst,_,rfl,_,rfl⟩:=h
        have:=U5 hst
        have e1:∀(a:Addr) (k:Nat),(a.add k).block=a.block:=fun a k=>by unfold Addr.add;split<;>rfl
        rwa[e1]at this
       ·split at h
        ·simp only[Qk,Prod.mk.injEq]at h;obtain⟨_,rfl,_,rfl⟩:=h;exact .push _ _
        ·split at h
         ·simp only[Qk,Prod.mk.injEq]at h
          obtain⟨_,rfl,_,rfl⟩:=h
          refine AbsOk.trans (.set h1 fun h=>by simp[Ob.dead]at h) (.push _ _) wd
         ·cases h
  ·cases h
 case copy es d s =>
  simp only[Qd]at h
  obtain⟨_,_,_,_,h⟩:=h
  split at h
  ·simp only[Qd]at h
   obtain⟨_,_,_,_,h⟩:=h
   split at h
   ·simp only[Qd,Qk,Prod.mk.injEq]at h
    obtain⟨H1,hst,_,rfl,_,rfl⟩:=h
    exact U5 hst
   ·split at h
    ·simp only[Qk,Prod.mk.injEq]at h;obtain⟨_,rfl,_,rfl⟩:=h;exact .refl _ _ wd
    ·cases h
  ·cases h
 case clear z x =>
  simp only[Qd]at h
  obtain⟨_,_,h⟩:=h
  split at h
  ·simp only[Qd,Qk,Prod.mk.injEq]at h
   obtain⟨H1,hst,_,rfl,_,rfl⟩:=h
   exact U5 hst
  ·cases h
 all_goals(cases h)
structure LocalAt(H H' G G':List Ob)(M:List Nat):Prop where
 len:G'.length=H'.length
 new:∀id:Nat,id∈M\/H.length<=id->G'[id]?=H'[id]?
theorem Ln{l:List Nat}{ao:AOp}(h:Qz H e ao=some (v,H',some l,M))(hG:G.length=H.length)(hl:∀id∈l,G[id]?=H[id]?) :
  ∃G',Qz G e ao=some (v,G',some l,M)/\LocalAt H H' G G' M:=by
 have hrefl:LocalAt H H G G []:=⟨hG,fun id h=>by rcases h with h|h;simp at h;rw[QI qr,QI h]⟩
 have hpush:∀ob,LocalAt H (H++[ob]) G (G++[ob]) []:=fun ob=>⟨by simp[hG],fun id h=>by
  rcases h with h|h
  ·simp at h
  ·rw[Qh qr,Qh h,hG]⟩
 have hp:∀r,Jj H r=some (v,H',some l,M)->∃G',Jj G r=some (v,G',some l,M)/\LocalAt H H' G G' M:=fun r hr=>by
  obtain⟨h1,rfl,h2,rfl⟩:=J3 hr
  exact⟨G,by simp only[Jj,h1,Qp,h2],hrefl⟩
 have hlive:∀id,id∈l->liveAt G id=liveAt H id:=fun id hid=>by simp only[liveAt,hl id hid]
 cases ao<;>simp only[Qz]at h ⊢<;>first|exact hp _ h|skip
 case alloc z=>simp only[Qk,Prod.mk.injEq]at h;obtain⟨rfl,rfl,h1,rfl⟩:=h;exact⟨_,by rw[hG,<-h1],hpush _⟩
 case box x =>
  simp only[Qd]at h
  obtain⟨u,hu,h⟩:=h
  split at h
  ·rename_i hk;simp only[Qk,Prod.mk.injEq]at h;obtain⟨rfl,rfl,h1,rfl⟩:=h;exact⟨_,by rw[hu,Qp,if_pos hk,hG,<-h1],hpush _⟩
  ·cases h
 case load n a =>
  simp only[Qd]at h
  obtain⟨u,hu,h⟩:=h
  rw[hu,Qp]
  split at h
  ·rename_i ad
   simp only[Qd]at h
   obtain⟨ob,hob,h⟩:=h
   split at h
   ·rename_i hsp
    simp only[Qd,Qk,Prod.mk.injEq]at h
    obtain⟨x,hx,rfl,rfl,h1,rfl⟩:=h
    refine⟨G,?_,hrefl⟩
    (try dsimp only)
    rw[hlive ad.block (by rw[<-h1];simp),hob,Qp,if_pos hsp,hx,Qp,h1]
   ·cases h
  ·cases h
 case store n a x =>
  simp only[Qd]at h
  obtain⟨u,hu,y,hy,h⟩:=h
  rw[hu,Qp,hy,Qp]
  split at h
  ·rename_i ad
   split at h
   ·rename_i hc
    simp only[Qd,Qk,Prod.mk.injEq]at h
    obtain⟨H1,hst,rfl,rfl,h1,rfl⟩:=h
    have hmem:ad.block∈l:=by rw[<-h1];simp
    obtain⟨ob,a1,a2,a3,a4,a5,rfl⟩:=GI hst
    have hst':storeAt G ad y.cells.toList=some (G.set ad.block { ob with c:=splice ob.c ad.off y.cells.toList }):=by
     simp only[storeAt,hlive _ hmem]
     have:liveAt H ad.block=some ob:=by simp[liveAt,a1,a2]
     rw[this,Qp,if_pos ⟨a3,by simp[a4],a5⟩]
    refine⟨_,by(try dsimp only);rw[if_pos hc,hst',Qp,h1],by simp[hG],fun id hid =>?_⟩
    have hlt:=(Qg.1 a1).1
    rcases hid with hid|hid
    ·simp at hid;subst hid
     rw[Kw,Kw];simp[hlt,hG]
    ·rw[QI (by simp;omega),QI (by simp;omega)]
   ·cases h
  ·cases h
 case convSl x =>
  simp only[Qd]at h
  obtain⟨u,hu,h⟩:=h
  rw[hu,Qp]
  split at h
  ·rename_i ad n c
   simp only[Qd]at h
   obtain⟨ob,hob,h⟩:=h
   split at h
   ·rename_i hk
    simp only[Qk,Prod.mk.injEq]at h
    obtain⟨rfl,rfl,h1,rfl⟩:=h
    refine⟨G,?_,hrefl⟩
    (try dsimp only)
    rw[hlive ad.block (by rw[<-h1];simp),hob,Qp,if_pos hk,h1]
   ·cases h
  ·cases h
 case s2b x =>
  simp only[Qd]at h
  obtain⟨u,hu,h⟩:=h
  rw[hu,Qp]
  split at h
  ·split at h
   ·rename_i hk;simp only[Qk,Prod.mk.injEq]at h;obtain⟨rfl,rfl,h1,rfl⟩:=h;exact⟨_,by(try dsimp only);rw[if_pos hk,hG,<-h1],hpush _⟩
   ·cases h
  ·cases h
 case b2s x =>
  simp only[Qd]at h
  obtain⟨u,hu,h⟩:=h
  rw[hu,Qp]
  split at h
  ·rename_i b n c
   simp only[Qd,Qk,Prod.mk.injEq]at h
   obtain⟨cs,hcs,bs,hbs,rfl,rfl,h1,rfl⟩:=h
   refine⟨G,?_,hrefl⟩
   (try dsimp only)
   have:elemsOf G 1 n (.slice b n c)=elemsOf H 1 n (.slice b n c):=by
    cases b with
    |none=>rfl
    |some ad=>simp only[elemsOf];rw[hlive ad.block (by rw[<-h1];simp[Y5])]
   rw[this,hcs,Qp,hbs,Qp,h1]
  ·cases h
 case buildSlice cs n ps =>
  simp only[Qd,Qk,Prod.mk.injEq]at h
  obtain⟨vs,hvs,cs',hcs,rfl,rfl,h1,rfl⟩:=h
  exact⟨_,by rw[hvs,Qp,hcs,Qp,hG,h1],hpush _⟩
 case sliceSl es x lo hi mx =>
  simp only[Qd]at h
  obtain⟨u,hu,lo',hlo,hi',hhi,mx',hmx,h⟩:=h
  rw[hu,Qp,hlo,Qp,hhi,Qp,hmx,Qp]
  split at h
  ·rename_i ad len cap
   simp only[Qd]at h
   obtain⟨⟨p,q,r⟩,hb,ob,hob,h⟩:=h
   dsimp only at h
   split at h
   ·rename_i hk
    simp only[Qk,Prod.mk.injEq]at h
    obtain⟨rfl,rfl,h1,rfl⟩:=h
    refine⟨G,?_,hrefl⟩
    (try dsimp only)
    rw[hb,Qp]
    (try dsimp only)
    rw[hlive ad.block (by rw[<-h1];simp),hob,Qp,if_pos hk,h1]
   ·cases h
  ·simp only[Qd,Qk,Prod.mk.injEq]at h
   obtain⟨x,hx,rfl,rfl,h1,rfl⟩:=h
   exact⟨G,by(try dsimp only);rw[hx,Qp,h1],hrefl⟩
  ·cases h
 case makeSlice z b l c =>
  simp only[Qd]at h
  obtain⟨u,hu,y,hy,h⟩:=h
  rw[hu,Qp,hy,Qp]
  split at h
  ·split at h
   ·rename_i hk;simp only[Qk,Prod.mk.injEq]at h;obtain⟨rfl,rfl,h1,rfl⟩:=h;exact⟨_,by(try dsimp only);rw[if_pos hk,hG,h1],hpush _⟩
   ·cases h
  ·cases h
 case append es b s x =>
  exfalso
  simp only[Qd]at h
  obtain⟨sv,_,xv,_,h⟩:=h
  unfold Jw at h
  split at h
  ·simp only[Qd]at h
   obtain⟨n,_,new,_,h⟩:=h
   split at h
   ·simp at h
   ·split at h
    ·cases h
    ·split at h
     ·split at h<;>simp at h
     ·simp only[Qd]at h
      obtain⟨ob,hob,old,_,h⟩:=h
      split at h
      ·cases h
      ·split at h
       ·simp only[Qd]at h;obtain⟨_,_,h⟩:=h;simp at h
       ·split at h
        ·simp at h
        ·split at h<;>simp at h
  ·cases h
 case copy es d s =>
  exfalso
  simp only[Qd]at h
  obtain⟨_,_,_,_,h⟩:=h
  split at h
  ·simp only[Qd]at h
   obtain⟨_,_,_,_,h⟩:=h
   split at h
   ·simp only[Qd]at h;obtain⟨_,_,h⟩:=h;simp at h
   ·split at h<;>simp at h
  ·cases h
 case clear z x =>
  exfalso
  simp only[Qd]at h
  obtain⟨_,_,h⟩:=h
  split at h
  ·simp only[Qd]at h;obtain⟨_,_,h⟩:=h;simp at h
  ·cases h
 all_goals(cases h)
def Gb(c:Nat->Option Ob)(G':List Ob)(M:List Nat)(n:Nat):Nat->Option Ob:=fun id=>if id∈M\/(n<=id/\id<G'.length)then G'[id]? else c id
theorem eQ{ρ:Pl}{c:Nat->Option Ob}{G:List Ob}(hc:RelF ρ c w)(hsub:∀(id:Nat) ob,G[id]?=some ob->ob.live=true->ρ id≠none->c id=some ob)
 (hext:Ext ρ ρ' G.length G'.length) (hfree:Free ρ G.length G'.length) (hr:RelF ρ' (hp G') w') (hf:Frm ρ ρ' (hp G) (hp G') w w') (ha:AbsOk G G' M):RelF ρ' (Gb c G' M G.length) w':=by
  have hold:∀ {id pl},ρ' id=some pl->¬(G.length<=id/\id<G'.length)->ρ id=some pl:=by
    intro id pl h hn
    cases hρ:ρ id with
    |none=>exact absurd (hext.dom id pl h hρ) hn
    |some p=>have:=hext.le id p hρ;rw[h]at this;cases this;rfl
  have hcl:∀ {id ob pl},Gb c G' M G.length id=some ob->ρ' id=some pl->ob.live=true->hp G' id=some ob\/(c id=some ob/\ρ id=some pl/\∀ob2,hp G id=some ob2->ob2.live=false):=by
    intro id ob pl h hp' hl
    unfold Gb at h
    split at h
    · exact .inl h
    · rename_i hn
      have hn':id∉M/\¬(G.length<=id/\id<G'.length):=⟨fun hm=>hn (.inl hm),fun hm=>hn (.inr hm)⟩
      have hρ:=hold hp' hn'.2
      by_cases hlv:∃ob2,hp G id=some ob2/\ob2.live=true
      · obtain⟨ob2,h2,h3⟩:=hlv
        have hid:id<G.length:=(Qg.1 h2).1
        have:=hsub id ob2 h2 h3 (by rw[hρ];simp)
        rw[h]at this;cases this
        left
        show G'[id]?=_
        rw[ha.log id hid hn'.1];exact h2
      · refine .inr ⟨h,hρ,fun ob2 h2 =>?_⟩
        cases hl2:ob2.live with
        |false=>rfl
        |true=>exact absurd ⟨ob2,h2,hl2⟩ hlv
  have hown:∀ {id ob pl},hp G' id=some ob->ρ id=some pl->ob.live=true->∃ob2,hp G id=some ob2/\ob2.live=true/\ob2.own=ob.own:=by
    intro id ob pl h hρ hl
    have hid':id<G'.length:=(Qg.1 h).1
    rcases ZL id G.length with hlt|hge
    · exact ha.flags id ob hlt h hl
    · have:=hfree id hge hid';rw[this]at hρ;cases hρ
  refine⟨hr.bound,?_,?_⟩
  · intro id ob pl h hp' hl
    rcases hcl h hp' hl with h1|⟨h1,h2,h3⟩
    · exact hr.obj id ob pl h1 hp' hl
    · refine(hc.obj id ob pl h1 h2 hl).same_block hext.le (hf.blocks _ (hc.bound _ _ h2) fun i oi pi a1 a2 a3 a4 hb =>?_)
      have hi:i≠id:=fun e=>by subst e;rw[h3 oi a1]at a3;cases a3
      exact hc.inj i id oi ob pi pl (hsub i oi a1 a3 (by rw[a2];simp)) h1 a2 h2 a3 a4 hl hi hb
  · intro i j oi oj pi pj hi hj hpi hpj a1 a2 a3 hij
    rcases hcl hi hpi a1 with h1|⟨h1,h2,h3⟩<;>rcases hcl hj hpj a3 with k1|⟨k1,k2,k3⟩
    · exact hr.inj i j oi oj pi pj h1 k1 hpi hpj a1 a2 a3 hij
    · cases hρ:ρ i with
      |some p =>
        have:=hext.le i p hρ;rw[hpi]at this;cases this
        obtain⟨o2,b1,b2,b3⟩:=hown h1 hρ a1
        exact hc.inj i j o2 oj pi pj (hsub i o2 b1 b2 (by rw[hρ];simp)) k1 hρ k2 b2 (b3.trans a2) a3 hij
      |none =>
        have hb:=hc.bound _ _ k2
        rcases hf.fresh i pi hpi hρ with h|⟨i0,o0,p0,b1,b2,b3,b4,b5,_⟩
        · omega
        · have hne:i0≠j:=fun e=>by subst e;rw[k3 o0 b1]at b3;cases b3
          rw[<-b5]
          exact hc.inj i0 j o0 oj p0 pj (hsub i0 o0 b1 b3 (by rw[b2];simp)) k1 b2 k2 b3 b4 a3 hne
    · cases hρ:ρ j with
      |some p =>
        have:=hext.le j p hρ;rw[hpj]at this;cases this
        obtain⟨o2,b1,b2,b3⟩:=hown k1 hρ a3
        exact hc.inj i j oi o2 pi pj h1 (hsub j o2 b1 b2 (by rw[hρ];simp)) h2 hρ a1 a2 b2 hij
      |none =>
        have hb:=hc.bound _ _ h2
        rcases hf.fresh j pj hpj hρ with h|⟨i0,o0,p0,b1,b2,b3,b4,b5,_⟩
        · omega
        · have hne:i0≠i:=fun e=>by subst e;rw[h3 o0 b1]at b3;cases b3
          rw[<-b5]
          exact fun e=>hc.inj i0 i o0 oi p0 pi (hsub i0 o0 b1 b3 (by rw[b2];simp)) h1 b2 h2 b3 b4 a1 hne e.symm
    · exact hc.inj i j oi oj pi pj h1 k1 h2 k2 a1 a2 a3 hij
def Flags(ρ:Pl)(c c':Nat->Option Ob):Prop:=∀id ob' pl,ρ id=some pl->c' id=some ob'->ob'.live=true->∃ob,c id=some ob/\ob.live=true/\ob.own=ob'.own
theorem OH{ρ':Pl}{c:Nat->Option Ob}{G:List Ob}(hsub:∀(id:Nat) ob,G[id]?=some ob->ob.live=true->ρ id≠none->c id=some ob)(hfree:Free ρ G.length G'.length)(ha:AbsOk G G' M) :
  Flags ρ c (Gb c G' M G.length):=by
 intro id ob' pl hρ h hl
 unfold Gb at h
 split at h
 ·rename_i hm
  have hid':id<G'.length:=(Qg.1 h).1
  rcases ZL id G.length with hlt|hge
  ·obtain⟨o2,b1,b2,b3⟩:=ha.flags id ob' hlt h hl
   exact⟨o2,hsub id o2 b1 b2 (by rw[hρ];simp),b2,b3⟩
  ·have:=hfree id hge hid';rw[this]at hρ;cases hρ
 ·exact⟨ob',h,hl,rfl⟩
theorem eT{c:Nat->Option Ob}(hsub:∀(id:Nat) ob,G[id]?=some ob->ob.live=true->ρ id≠none->c id=some ob)(hf:Frm ρ ρ' (hp G) (hp G') w w')(ha:AbsOk G G' M) :
  Frm ρ ρ' c (Gb c G' M G.length) w w':=by
 refine⟨hf.os,hf.tape,hf.output,hf.size,fun b hb k=>hf.blocks b hb fun id ob pl h1 h2 h3 h4=>k id ob pl (hsub id ob h1 h3 (by rw[h2];simp)) h2 h3 h4,fun id pl h1 h2 =>?_⟩
 rcases hf.fresh id pl h1 h2 with h|⟨i,ob,p0,b1,b2,b3,b4,b5,b6⟩
 ·exact .inl h
 ·refine .inr ⟨i,ob,p0,hsub i ob b1 b3 (by rw[b2];simp),b2,b3,b4,b5,fun ob' h' =>?_⟩
  have hid:i<G.length:=(Qg.1 b1).1
  have hM:i∈M:=by
   apply Classical.byContradiction
   intro hn
   have:=b6 ob (by show G'[i]?=_;rw[ha.log i hid hn];exact b1)
   rw[b3]at this;cases this
  unfold Gb at h'
  rw[if_pos (.inl hM)]at h'
  exact b6 ob' h'
theorem Frm.trans{ρ ρ1 ρ2:Pl}{c c1 c2:Nat->Option Ob}{w w1 w2:World}(h:Frm ρ ρ1 c c1 w w1)(k:Frm ρ1 ρ2 c1 c2 w1 w2)(hle:PlLe ρ ρ1)(hle2:PlLe ρ1 ρ2)(f1:Flags ρ c c1)(f2:Flags ρ c1 c2):Frm ρ ρ2 c c2 w w2:=by
 have hnone:∀ {id pl},ρ1 id=some pl->ρ id=none\/ρ id=some pl:=by
  intro id pl h
  cases hρ:ρ id with
  |none=>exact .inl rfl
  |some p=>have:=hle id p hρ;rw[h]at this;cases this;exact .inr rfl
 refine⟨k.os.trans h.os,k.tape.trans h.tape,k.output.trans h.output,Xm h.size k.size,fun b hb hn =>?_,fun id pl h2 h0 =>?_⟩
 ·have e1:=h.blocks b hb hn
  rw[k.blocks b (QM hb h.size) fun id ob pl a1 a2 a3 a4 hbe =>?_]
  ·exact e1
  ·rcases hnone a2 with hρ|hρ
   ·rcases h.fresh id pl a2 hρ with h5|⟨i,oi,p0,b1,b2,b3,b4,b5,b6⟩
    ·omega
    ·exact hn i oi p0 b1 b2 b3 b4 (b5.trans hbe)
   ·obtain⟨o2,b1,b2,b3⟩:=f1 id ob pl hρ a1 a3
    exact hn id o2 pl b1 hρ b2 (b3.trans a4) hbe
 ·cases h1:ρ1 id with
  |some p =>
   have hpp:=hle2 id p h1
   rw[h2]at hpp;cases hpp
   rcases h.fresh id pl h1 h0 with h5|⟨i,oi,p0,b1,b2,b3,b4,b5,b6⟩
   ·exact .inl h5
   ·refine .inr ⟨i,oi,p0,b1,b2,b3,b4,b5,fun ob' h' =>?_⟩
    cases hl:ob'.live with
    |false=>rfl
    |true =>
     obtain⟨o2,g1,g2,_⟩:=f2 i ob' p0 b2 h' hl
     rw[b6 o2 g1]at g2;cases g2
  |none =>
   rcases k.fresh id pl h2 h1 with h5|⟨i,oi,p0,b1,b2,b3,b4,b5,b6⟩
   ·exact .inl (Xm h.size h5)
   ·rcases hnone b2 with hρ|hρ
    ·rcases h.fresh i p0 b2 hρ with h6|⟨i',oi',p0',d1,d2,d3,d4,d5,d6⟩
     ·left;omega
     ·refine .inr ⟨i',oi',p0',d1,d2,d3,d4,d5.trans b5,fun ob' h' =>?_⟩
      cases hl:ob'.live with
      |false=>rfl
      |true =>
       obtain⟨o2,g1,g2,_⟩:=f2 i' ob' p0' d2 h' hl
       rw[d6 o2 g1]at g2;cases g2
    ·obtain⟨o2,g1,g2,g3⟩:=f1 i oi p0 hρ b1 b3
     exact .inr ⟨i,o2,p0,g1,hρ,g2,g3.trans b4,b5,b6⟩
end Go.Ev
namespace Go.Ev
open Go.RowKit
def Pres(ρ:Pl)(H H':List Ob):Prop:=∀id,id<H.length->ρ id=none->H'[id]?=H[id]?
structure Post1(ρ:Pl)(H:List Ob)(w:World)(v:Value)(H':List Ob)(v':Value)(w':World)(ρ':Pl):Prop extends Post ρ H w v H' v' w' ρ' where
 pres:Pres ρ H H'
def Bl(P:Program)(f:FuncId)(args:List Value)(H:List Ob)(v:Value)(H':List Ob):Prop :=
 ∀(ρ:Pl) (args':List Value) (w:World),LRel ρ args args'->RelF ρ (hp H) w->Free ρ H.length H'.length->∀(o:Oper) (a:Act) (K:Act->World->Prop) (Q:Exit->Act->World->Prop),
  (∀v' w' ρ',Post1 ρ H w v H' v' w' ρ'->K (a.put o.dst v') w')->o.upon P a K Q ((callFunc f args'.toArray).run P w)
def OperOk(P:Program)(o:Oper)(e:Env)(H:List Ob)(v:Value)(H':List Ob):Prop :=
 ∀(ρ:Pl) (a:Act) (w:World),OpRel ρ e a o.op.operands.toList->RelF ρ (hp H) w->Free ρ H.length H'.length->∀(K:Act->World->Prop) (Q:Exit->Act->World->Prop),
  (∀v' w' ρ',Post1 ρ H w v H' v' w' ρ'->K (a.put o.dst v') w')->o.wp P a w K Q
theorem OpOk.oper{P:Program}{o:Oper}{e:Env}{H H':List Ob}{v:Value}(h:OpOk P o e H v H')(hpr:∀(ρ:Pl) (a:Act),OpRel ρ e a o.op.operands.toList->Pres ρ H H'):OperOk P o e H v H':=by
 intro ρ a w h1 h2 h3 K Q hK
 obtain⟨nx,v',w',ρ',hr,hn,hp⟩:=h ρ a w h1 h2 h3
 unfold Oper.wp
 rw[hr]
 cases nx<;>simp only[LD]at hn<;>first
  |(subst hn;exact hK _ _ _ ⟨hp,hpr ρ a h1⟩)
  |exact hn.elim
structure StepGood(P:Program)(ao:AOp)(e:Env)(H:List Ob)(v:Value)(H':List Ob)(t:Option (List Nat))(M:List Nat):Prop where
 abs:AbsOk H H' M
 ok:∀o:Oper,compOp P o=some ao->OperOk P o e H v H'
 loc:∀l,t=some l->∀G:List Ob,G.length=H.length->(∀id∈l,G[id]?=H[id]?)->∃G',LocalAt H H' G G' M/\AbsOk G G' M/\∀o:Oper,compOp P o=some ao->OperOk P o e G v G'
 mt:∀l,t=some l->∀id∈M,id∈l
 free:ao.free=true->t=some []/\M=[]
 quiet:ao.quiet=true->M=[]
structure TabOk(P:Program)(T:Tab):Prop where
 fn : ∀ f af, T.fn f = some af → ∃ fn, P.funcs[f]? = some fn ∧ compFun P fn = some af.strip ∧ (fn.name == "runtime.NumGoroutine") = false
 ext:∀f args v,T.fn f=none->T.ext f args=some v->args.all rf=true->(∀ρ,VRel ρ v v)/\∀w,(callFunc f args.toArray).run P w=.ok (.value v) w
section
variable{P:Program}{T:Tab}
section
variable{v:Value}{H' H:List Ob}{e:Env}{t:Option (List Nat)}{M:List Nat}{f:FuncId}{xs:List Operand}{args:List Value}{ρ:Pl}{ao:AOp}{b:Bool}
theorem RL{xs:Array Operand}{ρ:Operand->Value}{c:Call}{ty:TypeId}(hc:c.callee=.value (.func f))(hf:ρ (.func f)=.func (.func f) #[] #[])(w:World) :
  (do let d <- resolve ρ c ty;invoke d.target d.args:Sem Next).run P w=(callFunc f (c.args.map ρ)).run P w:=by
 simp[resolve,hc,hf,Deferred.ofValue,invoke]
theorem aC(n:Nat):Free (fun _=>none) 0 n:=fun _ _ _=>rfl
theorem Ib(w:World):RelF (fun _=>none) (hp []) w:=⟨fun _ _ h=>by simp at h,fun _ _ _ h=>by simp[hp]at h,fun _ _ _ _ _ _ h=>by simp[hp]at h⟩
theorem Rc(h:Bl P f args [] v H')(ha:args.all rf=true)(hv:rf v=true)(H:List Ob):Bl P f args H v H:=by
 intro ρ args' w hl hrel hfree o a K Q hK
 refine h (fun _=>none) args' w (hl.rf_any ha) (Ib w) (aC _) o a K Q fun v' w' ρ' hp=>hK v' w' ρ ⟨?_,fun _ _ _=>rfl⟩
 have hb:∀b,b<w.heap.size->w'.heap[b]?=w.heap[b]? := fun b hb=>hp.frm.blocks b hb fun id ob pl h1=>by simp[Ev.hp]at h1
 refine⟨.refl _ _ _,hp.val.rf_any hv,⟨fun id pl h=>QM (hrel.bound id pl h) hp.frm.size,fun id ob pl h1 h2 h3=>(hrel.obj id ob pl h1 h2 h3).same_block (.refl _) (hb _ (hrel.bound _ _ h2)),hrel.inj⟩,
  ⟨hp.frm.os,hp.frm.tape,hp.frm.output,hp.frm.size,fun b hb' _=>hb b hb',fun id pl h1 h2=>by rw[h2]at h1;cases h1⟩⟩
theorem T7{ao:AOp}(hs:ao.simple=true)(hf:ao.free=true)(h:Qz H e ao=some (v,H',t,M)):t=some []/\M=[]:=by
 have hp:∀r,Jj H r=some (v,H',t,M)->t=some []/\M=[]:=fun r hr=>(J3 hr).2.2
 cases ao<;>simp only[Qz]at h<;>simp[AOp.free]at hf<;>first
  |exact hp _ h
  |skip
 case alloc z=>simp only[Qk,Prod.mk.injEq]at h;obtain⟨_,_,rfl,rfl⟩:=h;simp
 case box x =>
  simp only[Qd]at h
  obtain⟨_,_,h⟩:=h
  split at h
  ·simp only[Qk,Prod.mk.injEq]at h;obtain⟨_,_,rfl,rfl⟩:=h;simp
  ·cases h
 case s2b x =>
  simp only[Qd]at h
  obtain⟨_,_,h⟩:=h
  split at h
  ·split at h
   ·simp only[Qk,Prod.mk.injEq]at h;obtain⟨_,_,rfl,rfl⟩:=h;simp
   ·cases h
  ·cases h
 case buildSlice cs l ps =>
  simp only[Qd,Qk,Prod.mk.injEq]at h
  obtain⟨_,_,_,_,_,_,rfl,rfl⟩:=h
  simp
 case makeSlice z b l c =>
  simp only[Qd]at h
  obtain⟨_,_,_,_,h⟩:=h
  split at h
  ·split at h
   ·simp only[Qk,Prod.mk.injEq]at h;obtain⟨_,_,rfl,rfl⟩:=h;simp
   ·cases h
  ·cases h
 all_goals(first|(cases h;done)|simp[AOp.simple]at hs)
theorem Ms{ao:AOp}(hs:ao.simple=true)(hf:ao.quiet=true)(h:Qz H e ao=some (v,H',t,M)):M=[]:=by
 by_cases hfr:ao.free=true
 ·exact(T7 hs hfr h).2
 cases ao<;>simp only[Qz]at h<;>simp[AOp.free]at hfr<;>simp[AOp.quiet]at hf<;>first|(simp[AOp.simple]at hs;done)|skip
 case load n a =>
  simp only[Qd]at h
  obtain⟨_,_,h⟩:=h
  split at h
  ·simp only[Qd]at h
   obtain⟨_,_,h⟩:=h
   split at h
   ·simp only[Qd,Qk,Prod.mk.injEq]at h
    obtain⟨_,_,_,_,_,rfl⟩:=h;rfl
   ·cases h
  ·cases h
 case convSl x =>
  simp only[Qd]at h
  obtain⟨_,_,h⟩:=h
  split at h
  ·simp only[Qd]at h
   obtain⟨_,_,h⟩:=h
   split at h
   ·simp only[Qk,Prod.mk.injEq]at h
    obtain⟨_,_,_,rfl⟩:=h;rfl
   ·cases h
  ·cases h
 case b2s x =>
  simp only[Qd]at h
  obtain⟨_,_,h⟩:=h
  split at h
  ·simp only[Qd,Qk,Prod.mk.injEq]at h
   obtain⟨_,_,_,_,_,_,_,rfl⟩:=h;rfl
  ·cases h
 case sliceSl es x lo hi mx =>
  simp only[Qd]at h
  obtain⟨_,_,_,_,_,_,_,_,h⟩:=h
  split at h
  ·simp only[Qd]at h
   obtain⟨_,_,_,_,h⟩:=h
   split at h
   ·simp only[Qk,Prod.mk.injEq]at h;obtain⟨_,_,_,rfl⟩:=h;rfl
   ·cases h
  ·simp only[Qd,Qk,Prod.mk.injEq]at h
   obtain⟨_,_,_,_,_,rfl⟩:=h;rfl
  ·cases h
theorem Mt{ao:AOp}(h:Qz H e ao=some (v,H',t,M)):(∀l,t=some l->∀id∈M,id∈l) /\
  ∀id∈M,∃x y u,(ao=.store y x u\/(∃b,ao=.append y b x u)\/ao=.copy y x u\/∃z,ao=.clear z x)/\∃v,opd e x=some v/\Y5 v=[id]:=by
 have hnil:M=[]->(∀l,t=some l->∀id∈M,id∈l)/\∀id∈M,∃x y u,(ao=.store y x u\/(∃b,ao=.append y b x u)\/ao=.copy y x u\/∃z,ao=.clear z x)/\∃v,opd e x=some v/\Y5 v=[id]:=by
  rintro rfl;simp
 have hs:ao.simple=true:=by cases ao<;>first|rfl|(simp[Qz]at h)
 by_cases hq:ao.quiet=true
 ·exact hnil (Ms hs hq h)
 cases ao<;>simp[AOp.quiet]at hq<;>simp[AOp.simple]at hs
 case store n x y =>
  simp only[Qz,Qd]at h
  obtain⟨u,hu,z,hz,h⟩:=h
  split at h
  ·rename_i ad
   split at h
   ·simp only[Qd,Qk,Prod.mk.injEq]at h
    obtain⟨H1,hst,_,_,rfl,rfl⟩:=h
    refine⟨fun l hl id hid=>(by cases hl;exact hid),fun id hid=>⟨x,n,y,.inl rfl,_,hu,?_⟩⟩
    simp at hid;subst hid;rfl
   ·cases h
  ·cases h
 case append es b x y =>
  simp only[Qz,Qd]at h
  obtain⟨sv,hsv,xv,hxv,h⟩:=h
  unfold Jw at h
  split at h
  ·rename_i base len cap
   simp only[Qd]at h
   obtain⟨n,_,new,_,h⟩:=h
   split at h
   ·simp only[Qk,Prod.mk.injEq]at h;obtain⟨_,_,_,rfl⟩:=h;exact hnil rfl
   ·split at h
    ·cases h
    ·split at h
     ·split at h
      ·simp only[Qk,Prod.mk.injEq]at h;obtain⟨_,_,_,rfl⟩:=h;exact hnil rfl
      ·cases h
     ·rename_i ad
      simp only[Qd]at h
      obtain⟨ob,hob,old,_,h⟩:=h
      have key:M=[ad.block]->t=none->(∀l,t=some l->∀id∈M,id∈l)/\∀id∈M,∃x' y' u,(AOp.append es b x y=.store y' x' u\/(∃b',AOp.append es b x y=.append y' b' x' u)\/AOp.append es b x y=.copy y' x' u\/∃z,AOp.append es b x y=.clear z x')/\∃v,opd e x'=some v/\Y5 v=[id]:=by
       rintro rfl rfl
       refine⟨fun l hl=>(by cases hl),fun id hid=>⟨x,es,y,.inr (.inl ⟨b,rfl⟩),_,hsv,?_⟩⟩
       simp at hid;subst hid;rfl
      split at h
      ·cases h
      ·split at h
       ·simp only[Qd,Qk,Prod.mk.injEq]at h
        obtain⟨H1,hst,_,_,rfl,rfl⟩:=h
        exact key rfl rfl
       ·split at h
        ·simp only[Qk,Prod.mk.injEq]at h;obtain⟨_,_,_,rfl⟩:=h;exact hnil rfl
        ·split at h
         ·simp only[Qk,Prod.mk.injEq]at h
          obtain⟨_,_,rfl,rfl⟩:=h
          exact key rfl rfl
         ·cases h
  ·cases h
 case copy es x y =>
  simp only[Qz,Qd]at h
  obtain⟨dv,hdv,_,_,h⟩:=h
  split at h
  ·rename_i base dl cap
   simp only[Qd]at h
   obtain⟨_,_,_,_,h⟩:=h
   split at h
   ·simp only[Qd,Qk,Prod.mk.injEq]at h
    obtain⟨H1,hst,_,_,rfl,rfl⟩:=h
    refine⟨fun l hl=>(by cases hl),fun id hid=>⟨x,es,y,.inr (.inr (.inl rfl)),_,hdv,?_⟩⟩
    simp at hid;subst hid;rfl
   ·split at h
    ·simp only[Qk,Prod.mk.injEq]at h;obtain⟨_,_,_,rfl⟩:=h;exact hnil rfl
    ·cases h
  ·cases h
 case clear z x =>
  simp only[Qz,Qd]at h
  obtain⟨dv,hdv,h⟩:=h
  split at h
  ·simp only[Qd,Qk,Prod.mk.injEq]at h
   obtain⟨H1,hst,_,_,rfl,rfl⟩:=h
   refine⟨fun l hl=>(by cases hl),fun id hid=>⟨x,0,x,.inr (.inr (.inr ⟨z,rfl⟩)),_,hdv,?_⟩⟩
   simp at hid;subst hid;rfl
  ·cases h
theorem pB{v v':Value}{id:Nat}(h:VRel ρ v v')(hb:Y5 v=[id]):ρ id≠none:=by
 cases h with
 |same hs =>
  cases v with
  |pointer a=>cases a with
   |none=>simp[Y5]at hb
   |some a=>simp[Z4]at hs
  |slice a n m=>cases a with
   |none=>simp[Y5]at hb
   |some a=>simp[Z4]at hs
  |_=>simp[Y5]at hb
 |ptr h1 h2=>simp[Y5]at hb;subst hb;rw[h1];simp
 |slice h1 _ _ _ _ _ _ _=>simp[Y5]at hb;subst hb;rw[h1];simp
 |func _ _=>simp[Y5]at hb
 |iface _=>simp[Y5]at hb
 |agg _ _=>simp[Y5]at hb
 |tuple _=>simp[Y5]at hb
theorem T6{o:Oper}(hc:compOp P o=some ao)(h:Qz H e ao=some (v,H',t,M)){a:Act}(hop:OpRel ρ e a o.op.operands.toList):Pres ρ H H':=by
 intro id hid hn
 refine(DJ h).log id hid fun hm =>?_
 obtain⟨x,y,u,hao,w,hw,hb⟩:=(Mt h).2 id hm
 have hx:x∈o.op.operands.toList:=by
  rcases hao with rfl|⟨b,rfl⟩|rfl|⟨z,rfl⟩
  ·cases hop':o.op<;>simp only[compOp,hop']at hc<;>first
    |(simp only[QF,AOp.store.injEq]at hc;obtain⟨_,_,_,rfl,rfl⟩:=hc;simp[Op.operands];done)
    |(exfalso;(repeat'(first|(simp at hc;done)|split at hc))<;>(simp[Qd]at hc))
  ·cases hop':o.op with
   |call c =>
    simp only[compOp,hop']at hc
    split at hc
    ·simp at hc
    ·simp at hc
    ·split at hc
     ·rename_i s z ts tx h1 h2
      have hs:s=x:=by
       split at hc
       ·simp only[Qd]at hc
        obtain⟨_,_,_,_,hc⟩:=hc
        split at hc<;>simp at hc;exact hc.2.2.1
       ·simp only[Qd]at hc
        obtain⟨_,_,_,_,hc⟩:=hc
        split at hc<;>simp at hc;exact hc.2.2.1
       ·cases hc
      subst hs
      simp only[Op.operands,Call.operands,XS,QC];right;rw[h1];simp
     ·cases hc
    all_goals(exfalso;(repeat'(first|(simp at hc;done)|split at hc))<;>(simp[Qd]at hc))
   |_=>exfalso;simp only[compOp,hop']at hc;(repeat'(first|(simp at hc;done)|split at hc))<;>(simp[Qd]at hc)
  ·cases hop':o.op with
   |call c =>
    simp only[compOp,hop']at hc
    split at hc
    ·simp at hc
    ·simp at hc
    ·exfalso;(repeat'(first|(simp at hc;done)|split at hc))<;>(simp[Qd]at hc)
    ·split at hc
     ·rename_i d s td ts h1 h2
      have hs:d=x:=by
       split at hc
       ·simp only[QF,AOp.copy.injEq]at hc;obtain⟨_,_,_,h3,_⟩:=hc;exact h3
       ·cases hc
      subst hs
      simp only[Op.operands,Call.operands,XS,QC];right;rw[h1];simp
     ·cases hc
    all_goals(exfalso;(repeat'(first|(simp at hc;done)|split at hc))<;>(simp[Qd]at hc))
   |_=>exfalso;simp only[compOp,hop']at hc;(repeat'(first|(simp at hc;done)|split at hc))<;>(simp[Qd]at hc)
  ·cases hop':o.op with
   |call c =>
    simp only[compOp,hop']at hc
    split at hc
    ·simp at hc
    ·simp at hc
    ·exfalso;(repeat'(first|(simp at hc;done)|split at hc))<;>(simp[Qd]at hc)
    ·exfalso;(repeat'(first|(simp at hc;done)|split at hc))<;>(simp[Qd]at hc)
    ·split at hc
     ·rename_i d td h1 h2
      have hs:d=x:=by
       split at hc
       ·simp only[QF,AOp.clear.injEq]at hc;obtain⟨_,_,_,h3⟩:=hc;exact h3
       ·cases hc
      subst hs
      simp only[Op.operands,Call.operands,XS,QC];right;rw[h1];simp
     ·cases hc
    all_goals(exfalso;(repeat'(first|(simp at hc;done)|split at hc))<;>(simp[Qd]at hc))
   |_=>exfalso;simp only[compOp,hop']at hc;(repeat'(first|(simp at hc;done)|split at hc))<;>(simp[Qd]at hc)
 exact pB (hop x hx w hw) hb hn
theorem NL(hs:ao.simple=true)(h:Qz H e ao=some (v,H',t,M)):StepGood P ao e H v H' t M where
 abs:=DJ h
 ok:=fun o hc=>(FW hc hs h).oper fun ρ a hx=>T6 hc h hx
 loc:=fun l hl G hG hag=>by
  subst hl
  obtain⟨G',h1,h2⟩:=Ln h hG hag
  exact⟨G',h2,DJ h1,fun o hc=>(FW hc hs h1).oper fun ρ a hx=>T6 hc h1 hx⟩
 mt:=(Mt h).1
 free:=fun hf=>T7 hs hf h
 quiet:=fun hf=>Ms hs hf h
theorem gJ{o:Oper}(hc:compOp P o=some (.call f xs b)):∃c,o.op=.call c/\c.callee=.value (.func f)/\c.args.toList=xs:=by
 cases hop:o.op with
 |call c =>
  refine⟨c,rfl,?_⟩
  simp only[compOp,hop]at hc
  split at hc
  ·rename_i g hcal;simp only[Qk,AOp.call.injEq]at hc;obtain⟨rfl,rfl,_⟩:=hc;exact⟨hcal,rfl⟩
  ·simp at hc
  all_goals(exfalso;(repeat'(first|(simp at hc;done)|split at hc))<;>(simp[Qd]at hc))
 |_=>exfalso;simp only[compOp,hop]at hc;(repeat'(first|(simp at hc;done)|split at hc))<;>(simp[Qd]at hc)
theorem aR{o:Oper}{f:Operand}(hc:compOp P o=some (.callv f xs)):∃c,o.op=.call c/\c.callee=.value f/\c.args.toList=xs:=by
 cases hop:o.op with
 |call c =>
  refine⟨c,rfl,?_⟩
  simp only[compOp,hop]at hc
  split at hc
  ·simp at hc
  ·rename_i g hcal;simp only[Qk,AOp.callv.injEq]at hc;obtain⟨rfl,rfl⟩:=hc;exact⟨by assumption,rfl⟩
  all_goals(exfalso;(repeat'(first|(simp at hc;done)|split at hc))<;>(simp[Qd]at hc))
 |_=>exfalso;simp only[compOp,hop]at hc;(repeat'(first|(simp at hc;done)|split at hc))<;>(simp[Qd]at hc)
theorem GU{o:Oper}(hc:compOp P o=some (.call f xs b))(hx:Xb e xs=some args)(h:Bl P f args H v H'):OperOk P o e H v H':=by
 obtain⟨c,ho,hcal,hargs⟩:=gJ hc
 intro ρ a w hop hrel hfree K Q hK
 rw[ho]at hop
 have hl:LRel ρ args (xs.map a.eval):=MH (hop.of_sub fun y hy=>by simp only[Op.operands,Call.operands,XS,QC];right;rw[hargs];exact hy) hx
 have hr:=h ρ (xs.map a.eval) w hl hrel hfree o a K Q hK
 unfold Oper.wp
 have:(execOp a.eval o).run P w=(callFunc f (xs.map a.eval).toArray).run P w:=by
  simp only[execOp,ho]
  rw[RL (f:=f) (xs:=c.args) hcal rfl]
  congr 2
  apply Ji.1
  rw[U3,hargs]
 rw[this];exact hr
theorem L6{o:Oper}{f:Operand}(hc:compOp P o=some (.callv f xs)){g:FuncId}{fi ca:Array Value}(hf:opd e f=some (.func (.func g) fi ca))(hx:Xb e xs=some args)
 (h:Bl P g (fi.toList++args++ca.toList) H v H'):OperOk P o e H v H':=by
  obtain⟨c,ho,hcal,hargs⟩:=aR hc
  intro ρ a w hop hrel hfree K Q hK
  rw[ho]at hop
  have hl:LRel ρ args (xs.map a.eval):=MH (hop.of_sub fun y hy=>by simp only[Op.operands,Call.operands,XS,QC];right;rw[hargs];exact hy) hx
  have hfv:VRel ρ (.func (.func g) fi ca) (a.eval f):=hop f (by simp[Op.operands,Call.operands,hcal]) _ hf
  have hfi:∃fi' ca':List Value,a.eval f=.func (.func g) fi'.toArray ca'.toArray/\LRel ρ fi.toList fi'/\LRel ρ ca.toList ca':=by
    generalize a.eval f=u at hfv
    cases hfv with
    |same hs =>
      simp only[Z4,ZY,Array.isEmpty_iff]at hs
      obtain⟨rfl,rfl⟩:=hs
      exact⟨[],[],rfl,.nil,.nil⟩
    |func p q=>exact⟨_,_,rfl,p,q⟩
  obtain⟨fi',ca',e1,e2,e3⟩:=hfi
  have hr:=h ρ (fi'++xs.map a.eval++ca') w ((e2.append hl).append e3) hrel hfree o a K Q hK
  unfold Oper.wp
  have:(execOp a.eval o).run P w=(callFunc g (fi'++xs.map a.eval++ca').toArray).run P w:=by
    simp only[execOp,ho,resolve,hcal,e1,Deferred.ofValue,Sem.run_bind,Sem.run_pure,Result.andThen_ok,invoke]
    congr 2
    apply Ji.1
    simp[hargs]
  rw[this];exact hr
end
end
end Go.Ev
namespace Go.Ev
open Go.RowKit
section
variable{ρ:Pl}{e:Env}
def EnvRel(ρ:Pl)(e:Env)(a:Act):Prop:=∀t v,e.get t=some v->∃v',a.tmps[t]?=some v'/\VRel ρ v v'
theorem EnvRel.mono{ρ ρ':Pl}{e:Env}{a:Act}(h:EnvRel ρ e a)(hle:PlLe ρ ρ'):EnvRel ρ' e a:=fun t v ht=>by
 obtain⟨v',h1,h2⟩:=h t v ht
 exact⟨v',h1,h2.mono hle⟩
theorem RY{a:Act}{x:Operand}(hc:Wh x=true)(h:∀t,x=.tmp t->∀v,e.get t=some v->∃v',a.tmps[t]?=some v'/\VRel ρ v v'){v:Value}(hv:opd e x=some v):VRel ρ v (a.eval x):=by
 cases x with
 |tmp t =>
  obtain⟨v',h1,h2⟩:=h t rfl v hv
  simp only[Act.eval,Jq,h1,X6];exact h2
 |const u=>simp only[opd,Qk]at hv;subst hv;exact VRel.of_const hc
 |global g=>simp[Wh]at hc
 |func f=>simp only[opd,Qk]at hv;subst hv;exact .same rfl
theorem EnvRel.opRel{ρ:Pl}{e:Env}{a:Act}{xs:List Operand}(h:EnvRel ρ e a)(hc:xs.all Wh=true):OpRel ρ e a xs :=
 fun x hx v hv=>RY (ZX.1 hc x hx) (fun t _ v hv=>h t v hv) hv
theorem LM(e:Env)(dst:Option Nat)(v:Value)(t:Nat):(e.put dst v).get t=if dst=some t then some v else e.get t:=by
 cases dst with
 |none=>simp[Env.put]
 |some d =>
  simp only[Env.put,Env.get,Qk]
  by_cases c:t=d
  ·subst c;simp
  ·simp[c,Ne.symm c]
theorem N8(a:Act)(dst:Option Nat)(v:Value)(hd:∀d,dst=some d->d<a.tmps.size)(t:Nat):(a.put dst v).tmps[t]?=if dst=some t then some v else a.tmps[t]? := by
 cases dst with
 |none=>simp[Act.put]
 |some d =>
  have:=hd d rfl
  simp only[Act.put,Xq,Qk]
  by_cases c:d=t
  ·subst c;simp[this]
  ·simp[c]
theorem DO(a:Act)(dst:Option Nat)(v:Value):(a.put dst v).defers=a.defers:=by cases dst<;>rfl
theorem Cc(a:Act)(dst:Option Nat)(v:Value):(a.put dst v).tmps.size=a.tmps.size:=by cases dst<;>simp[Act.put]
theorem EnvRel.put{ρ:Pl}{e:Env}{a:Act}(h:EnvRel ρ e a){dst:Option Nat}{v v':Value}(hv:VRel ρ v v')(hd:∀d,dst=some d->d<a.tmps.size):EnvRel ρ (e.put dst v) (a.put dst v'):=by
 intro t u ht
 rw[LM]at ht
 rw[N8 _ _ _ hd]
 split at ht
 ·cases ht;rename_i hc;rw[if_pos hc];exact⟨v',rfl,hv⟩
 ·rename_i hc;rw[if_neg hc];exact h t u ht
theorem C8:∀(l:List Nat) (e:Env) (t:Nat) (v:Value),(e.keep l).get t=some v->e.get t=some v
 |[],e,t,v,h=>by simp[Env.keep,Env.get]at h
 |u::l,e,t,v,h=>by
  unfold Env.keep at h
  split at h
  ·rename_i x hx
   simp only[Env.get]at h
   split at h
   ·subst_vars;cases h;exact hx
   ·exact C8 l e t v h
  ·exact C8 l e t v h
theorem EnvRel.after{ρ:Pl}{s:St}{a:Act}(h:EnvRel ρ s.env a)(keep:Option (List Nat)):EnvRel ρ (s.after keep).env a:=by
 cases keep with
 |none=>exact h
 |some l=>exact fun t v ht=>h t v (C8 l _ t v ht)
theorem uH(s:St)(keep:Option (List Nat)):(s.after keep).h=s.h/\(s.after keep).log=s.log:=by cases keep<;>exact⟨rfl,rfl⟩
def StepAt(P:Program)(base:Nat)(ao:AOper)(s s':St)(r:Rec):Prop :=
 (guardOf s.env ao.guard=some true/\∃v H' t M,StepGood P ao.op s.env s.h v H' t M/\s'=⟨s.env.put ao.dst v,H',Q1 base s.log M⟩/\r=(t,M)) \/
 (guardOf s.env ao.guard=some false/\s'=⟨s.env.put ao.dst undef,s.h,s.log⟩/\r=(some [],[]))
structure Trace(P:Program)(base:Nat)(aops:List AOper)(s s':St)(recs0 recs:List Rec)(S:Nat->St)(R:Nat->Rec):Prop where
 first:S 0=s
 last:S aops.length=s'
 recs:recs=recs0++(ZH aops.length).map R
 step:∀j ao,aops[j]?=some ao->StepAt P base ao (S j) (S (j+1)) (R j)
theorem Trace.nil{P:Program}{base:Nat}{s:St}{recs:List Rec}:Trace P base [] s s recs recs (fun _=>s) (fun _=>(none,[])):=⟨rfl,rfl,by simp,fun j ao h=>by simp at h⟩
theorem Trace.cons{P:Program}{base:Nat}{ao:AOper}{aops:List AOper}{s s1 s':St}{r:Rec}{recs0 recs:List Rec}{S:Nat->St}{R:Nat->Rec}(h1:StepAt P base ao s s1 r)(h:Trace P base aops s1 s' (recs0++[r]) recs S R) :
  Trace P base (ao::aops) s s' recs0 recs (fun|0=>s|j+1=>S j) (fun|0=>r|j+1=>R j):=by
 refine⟨rfl,h.last,?_,fun j x hx =>?_⟩
 ·rw[h.recs,Zv,List.range_succ_eq_map];simp[Function.comp_def]
 ·cases j with
  |zero=>simp at hx;subst hx;simp only;rw[h.first];exact h1
  |succ j=>exact h.step j x (by simpa using hx)
theorem J5(base:Nat):∀(M log:List Nat) (id:Nat),id∈Q1 base log M↔id∈log\/(id∈M/\id<base)
 |[],log,id=>by simp[Q1]
 |i::M,log,id=>by
  unfold Q1
  split
  ·rename_i hc
   rw[J5 base M]
   simp only[QC,Jr,List.not_mem_nil,or_false]
   constructor
   ·rintro((h|rfl)|⟨h,h'⟩)
    ·exact .inl h
    ·exact .inr ⟨.inl rfl,hc.1⟩
    ·exact .inr ⟨.inr h,h'⟩
   ·rintro(h|⟨rfl|h,h'⟩)
    ·exact .inl (.inl h)
    ·exact .inl (.inr rfl)
    ·exact .inr ⟨h,h'⟩
  ·rename_i hc
   rw[J5 base M]
   simp only[Jr]
   constructor
   ·rintro(h|⟨h,h'⟩)
    ·exact .inl h
    ·exact .inr ⟨.inr h,h'⟩
   ·rintro(h|⟨rfl|h,h'⟩)
    ·exact .inl h
    ·by_cases hl:id∈log
     ·exact .inl hl
     ·exact absurd ⟨h',hl⟩ hc
    ·exact .inr ⟨h,h'⟩
structure CAbs(base:Nat)(s s':St):Prop where
 len:s.h.length<=s'.h.length
 flags:∀(id:Nat) ob',id<s.h.length->s'.h[id]?=some ob'->ob'.live=true->∃ob,s.h[id]?=some ob/\ob.live=true/\ob.own=ob'.own
 log:∀id:Nat,id<base->id<s.h.length->id∉s'.log->s'.h[id]?=s.h[id]?
 sub:∀id∈s.log,id∈s'.log
 ids:∀id∈s'.log,id∈s.log\/(id<base/\id<s'.h.length)
theorem CAbs.refl(base:Nat)(s:St):CAbs base s s:=⟨Qs _,fun _ ob' _ h h'=>⟨ob',h,h',rfl⟩,fun _ _ _ _=>rfl,fun _ h=>h,fun _ h=>.inl h⟩
theorem CAbs.trans{base:Nat}{a b c:St}(h:CAbs base a b)(k:CAbs base b c):CAbs base a c:=by
 refine⟨Xm h.len k.len,fun id ob h1 h2 h3 =>?_,fun id h1 h2 h3 =>?_,fun id hid=>k.sub id (h.sub id hid),fun id hid =>?_⟩
 ·obtain⟨o1,a1,a2,a3⟩:=k.flags id ob (QM h1 h.len) h2 h3
  obtain⟨o2,b1,b2,b3⟩:=h.flags id o1 h1 a1 a2
  exact⟨o2,b1,b2,b3.trans a3⟩
 ·rw[k.log id h1 (QM h2 h.len) h3,h.log id h1 h2 fun hm=>h3 (k.sub id hm)]
 ·rcases k.ids id hid with h1|h1
  ·rcases h.ids id h1 with h2|h2
   ·exact .inl h2
   ·exact .inr ⟨h2.1,QM h2.2 k.len⟩
  ·exact .inr h1
theorem StepAt.abs{P:Program}{base:Nat}{ao:AOper}{s s':St}{r:Rec}(h:StepAt P base ao s s' r):AbsOk s.h s'.h r.2/\CAbs base s s':=by
 rcases h with⟨_,v,H',t,M,hg,rfl,rfl⟩|⟨_,rfl,rfl⟩
 ·refine⟨hg.abs,⟨hg.abs.len,hg.abs.flags,fun id h1 h2 h3=>hg.abs.log id h2 fun hm=>h3 ((J5 _ _ _ _).2 (.inr ⟨hm,h1⟩)),fun id h=>(J5 _ _ _ _).2 (.inl h),fun id h =>?_⟩⟩
  rcases(J5 _ _ _ _).1 h with h1|⟨h1,h2⟩
  ·exact .inl h1
  ·exact .inr ⟨h2,QM (hg.abs.ids id h1) hg.abs.len⟩
 ·exact⟨.refl _ _ wd,⟨Qs _,fun _ ob' _ h h'=>⟨ob',h,h',rfl⟩,fun _ _ _ _=>rfl,fun _ h=>h,fun _ h=>.inl h⟩⟩
theorem Trace.cabs{P:Program}{base:Nat}{aops:List AOper}{s s':St}{recs0 recs:List Rec}{S:Nat->St}{R:Nat->Rec}(h:Trace P base aops s s' recs0 recs S R){i j:Nat}(hij:i<=j)(hj:j<=aops.length):CAbs base (S i) (S j):=by
 induction j with
 |zero =>
  have:i=0:=qr
  subst this;exact .refl _ _
 |succ j ih =>
  rcases ZL i (j+1)with hlt|hge
  ·have hs:=h.step j (aops[j]'qr) (Qf qr)
   exact(ih qr qr).trans hs.abs.2
  ·have:i=j+1:=qr
   subst this;exact .refl _ _
theorem Pc{base:Nat}{s s':St}(h:CAbs base s s')(hfree:Free ρ s.h.length s'.h.length):Flags ρ (hp s.h) (hp s'.h):=by
 intro id ob' pl hρ h1 h2
 have hid:id<s'.h.length:=(Qg.1 h1).1
 rcases ZL id s.h.length with hlt|hge
 ·exact h.flags id ob' hlt h1 h2
 ·have:=hfree id hge hid;rw[this]at hρ;cases hρ
structure CPost(ρ:Pl)(s s':St)(a:Act)(w:World)(a':Act)(w':World)(ρ':Pl):Prop where
 env:EnvRel ρ' s'.env a'
 defers:a'.defers=[]
 size:a'.tmps.size=a.tmps.size
 ext:Ext ρ ρ' s.h.length s'.h.length
 rel:RelF ρ' (hp s'.h) w'
 frm:Frm ρ ρ' (hp s.h) (hp s'.h) w w'
 pres:Pres ρ s.h s'.h
theorem Free.later{ρ ρ1:Pl}{n n1 n2:Nat}(h:Free ρ n n2)(he:Ext ρ ρ1 n n1)(hn:n<=n1):Free ρ1 n1 n2:=by
 intro id h1 h2
 cases hc:ρ1 id with
 |none=>rfl
 |some pl =>
  have:=he.dom id pl hc (h id (Xm hn h1) h2)
  omega
theorem CPost.trans{base:Nat}{ρ ρ1 ρ2:Pl}{s s1 s2:St}{a a1 a2:Act}{w w1 w2:World}(h:CPost ρ s s1 a w a1 w1 ρ1)(k:CPost ρ1 s1 s2 a1 w1 a2 w2 ρ2)(c1:CAbs base s s1)(c2:CAbs base s1 s2)(hfree:Free ρ s.h.length s2.h.length) :
  CPost ρ s s2 a w a2 w2 ρ2:=by
 have f1:Free ρ s.h.length s1.h.length:=fun id h1 h2=>hfree id h1 (QM h2 c2.len)
 refine⟨k.env,k.defers,k.size.trans h.size,⟨h.ext.le.trans k.ext.le,fun id pl h2 h0 =>?_⟩,k.rel,h.frm.trans k.frm h.ext.le k.ext.le (Pc c1 f1) (Pc c2 fun id h1 h2=>hfree id (Xm c1.len h1) h2),fun id h1 h2 =>?_⟩
 ·cases hρ1:ρ1 id with
  |some p =>
   have:=h.ext.dom id p hρ1 h0
   exact⟨this.1,QM this.2 c2.len⟩
  |none =>
   have:=k.ext.dom id pl h2 hρ1
   exact⟨Xm c1.len this.1,this.2⟩
 ·have hρ1:ρ1 id=none:=by
   cases hc:ρ1 id with
   |none=>rfl
   |some pl=>have:=h.ext.dom id pl hc h2;omega
  rw[k.pres id (QM h1 c1.len) hρ1,h.pres id h1 h2]
theorem X5{P:Program}{n:Nat}{all:List Oper}:∀ {ops:List Oper} {aops:List AOper},Ye P n all ops=some aops->aops.length=ops.length/\∀(j:Nat) (o:Oper),ops[j]?=some o->∃ao:AOper,aops[j]?=some ao/\compOp P o=some ao.op/\ao.dst=o.dst /\
  BI all o.guard=some ao.guard/\o.op.operands.toList.all Wh=true/\∀d,o.dst=some d->d<n
 |[],aops,h=>by simp[Ye]at h;subst h;exact⟨rfl,fun j o h=>by simp at h⟩
 |o::ops,aops,h=>by
  simp only[Ye]at h
  split at h
  ·rename_i hc
   simp only[Qd,QF]at h
   obtain⟨ao,h1,g,h2,l,h3,rfl⟩:=h
   obtain⟨ih1,ih2⟩:=X5 h3
   refine⟨by simp[ih1],fun j x hx =>?_⟩
   cases j with
   |zero =>
    simp at hx;subst hx
    simp only[ZY]at hc
    exact⟨_,rfl,h1,rfl,h2,hc.1,fun d hd=>by have:=hc.2;rw[hd]at this;simpa using this⟩
   |succ j=>simpa using ih2 j x (by simpa using hx)
  ·cases h
theorem FQ{a:Act}{ops:Array Oper}{o:Oper}{g:Option (Nat×Bool)}{b:Bool}(hg:BI ops.toList o.guard=some g)(hb:guardOf e g=some b)
 (hn:∀k want d,o.guard=some (k,want)->(ops[k]?).bind (·.dst)=some d->∀v,e.get d=some v->∃v',a.tmps[d]?=some v'/\VRel ρ v v'):Region.wanted o (yielded ops a.tmps)=b:=by
  unfold Region.wanted
  cases ho:o.guard with
  |none =>
    rw[ho]at hg
    simp only[BI,Qk]at hg
    subst hg
    simp only[guardOf,Qk]at hb
    exact hb
  |some p =>
    obtain⟨k,want⟩:=p
    rw[ho]at hg
    simp only[BI,QF]at hg
    obtain⟨d,hd,rfl⟩:=hg
    simp only[guardOf,Qd]at hb
    obtain⟨v,hv,hb⟩:=hb
    have hd':(ops[k]?).bind (·.dst)=some d:=by simpa using hd
    obtain⟨v',h1,h2⟩:=hn k want d ho hd' v hv
    split at hb
    · rename_i t
      cases hb
      have:=h2.bool
      subst this
      show(yielded ops a.tmps k==some want)=_
      unfold yielded
      rw[hd']
      simp[h1]
    · cases hb
      show(yielded ops a.tmps k==some want)=false
      unfold yielded
      rw[hd']
      cases h2 with
      |same h=>simp[Z4]at h
      |_=>simp[h1]
    · cases hb
end
section
variable{P:Program}{n base:Nat}{ops:Array Oper}{aops:List AOper}{s s':St}{recs0 recs:List Rec}{S:Nat->St}{R:Nat->Rec}{Q:Exit->Act->World->Prop}
theorem Sn(hc:Ye P n ops.toList ops.toList=some aops)(ht:Trace P base aops s s' recs0 recs S R):∀(k j:Nat),j+k=aops.length->∀(ρ:Pl) (a:Act) (w:World),EnvRel ρ (S j).env a->a.defers=[]->n<=a.tmps.size->RelF ρ (hp (S j).h) w ->
  Free ρ (S j).h.length s'.h.length->(∀a' w' ρ',CPost ρ (S j) s' a w a' w' ρ'->Q .normal a' w')->wpOps P ops Q (Ya j k) a w
 |0,j,hj,ρ,a,w,h1,h2,h3,h4,h5,hQ=>by
  simp only[List.range'_zero,wpOps]
  have hs:S j=s':=by rw[<-ht.last];congr 1
  rw[hs]at h1 h4 hQ
  exact hQ a w ρ ⟨h1,h2,rfl,.refl _ _ _,h4,.refl _ _ _ _,fun _ _ _=>rfl⟩
 |k+1,j,hj,ρ,a,w,h1,h2,h3,h4,h5,hQ=>by
  obtain⟨hl,hget⟩:=X5 hc
  have hjlt:j<ops.toList.length:=qr
  have hjs:j<ops.size:=by simpa using hjlt
  obtain⟨ao,ha1,ha2,ha3,ha4,ha5,ha6⟩:=hget j _ (Qf hjlt)
  have hoj:ops[j]?=some ops.toList[j]:=by rw[<-ZA,Qf hjlt]
  generalize ops.toList[j]=o at ha2 ha3 ha4 ha5 ha6 hoj
  have hst:=ht.step j ao ha1
  have hd:∀d,o.dst=some d->d<a.tmps.size:=fun d hd=>QM (ha6 d hd) h3
  have hc1:=ht.cabs (i:=j) (j:=j+1) qr qr
  have hc2:=ht.cabs (i:=j+1) (j:=aops.length) qr qr
  rw[ht.last]at hc2
  rw[List.range'_succ]
  rw[wpOps_cons]
  unfold wpOp
  rw[hoj]
  dsimp only
  have hw:∀b,guardOf (S j).env ao.guard=some b->Region.wanted o (yielded ops a.tmps)=b:=fun b hb=>FQ (ρ:=ρ) ha4 hb fun _ _ d _ _ v hv=>h1 d v hv
  rcases hst with⟨hg,v,H',t,M,hgood,hs1,_⟩|⟨hg,hs1,_⟩
  ·rw[if_pos (hw true hg)]
   left
   have hf1:Free ρ (S j).h.length H'.length:=fun id i1 i2=>h5 id i1 (by have:=hc2.len;rw[hs1]at this;exact QM i2 this)
   refine hgood.ok o ha2 ρ a w (h1.opRel ha5) h4 hf1 _ _ fun v' w' ρ' hp =>?_
   have hcp:CPost ρ (S j) (S (j+1)) a w (a.put o.dst v') w' ρ':=by
    rw[hs1]
    refine⟨?_,by rw[DO];exact h2,Cc _ _ _,hp.ext,hp.rel,hp.frm,hp.pres⟩
    rw[ha3]
    exact(h1.mono hp.ext.le).put hp.val hd
   refine Sn hc ht k (j+1) qr ρ' _ w' hcp.env hcp.defers (by rw[hcp.size];exact h3) hcp.rel (h5.later hcp.ext hc1.len) fun a2 w2 ρ2 hp2=>hQ a2 w2 ρ2 (hcp.trans hp2 hc1 hc2 h5)
  ·rw[if_neg (by rw[hw false hg];simp)]
   have hcp:CPost ρ (S j) (S (j+1)) a w (a.put o.dst undef) w ρ:=by
    rw[hs1]
    refine⟨?_,by rw[DO];exact h2,Cc _ _ _,.refl _ _ _,h4,.refl _ _ _ _,fun _ _ _=>rfl⟩
    rw[ha3]
    exact h1.put (.tuple .nil) hd
   refine Sn hc ht k (j+1) qr ρ _ w hcp.env hcp.defers (by rw[hcp.size];exact h3) hcp.rel (h5.later hcp.ext hc1.len) fun a2 w2 ρ2 hp2=>hQ a2 w2 ρ2 (hcp.trans hp2 hc1 hc2 h5)
end
end Go.Ev
namespace Go.Ev
open Go.RowKit
section
variable{i:Nat}
theorem RelF.forget2{ρ:Pl}{c c':Nat->Option Ob}{w:World}(h:RelF ρ c w)(hc:∀id ob,ρ id≠none->c' id=some ob->ob.live=true->c id=some ob):RelF ρ c' w :=
 ⟨h.bound,fun id ob pl h1 h2 h3=>h.obj id ob pl (hc id ob (by rw[h2];simp) h1 h3) h2 h3,
  fun i j oi oj pi pj h1 h2 h3 h4 h5 h6 h7 h8=>h.inj i j oi oj pi pj (hc i oi (by rw[h3];simp) h1 h5) (hc j oj (by rw[h4];simp) h2 h7) h3 h4 h5 h6 h7 h8⟩
theorem Th{α β:Type}(f:List β->α->β):∀(l:List α) (init:List β),(l.foldl (fun acc o=>acc++[f acc o]) init).length=init.length+l.length/\(∀k,k<init.length->(l.foldl (fun acc o=>acc++[f acc o]) init)[k]?=init[k]?) /\
  ∀(k:Nat) o,l[k]?=some o->(l.foldl (fun acc o=>acc++[f acc o]) init)[init.length+k]?=some (f ((l.foldl (fun acc o=>acc++[f acc o]) init).take (init.length+k)) o)
 |[],init=>by simp
 |x::l,init=>by
  obtain⟨h1,h2,h3⟩:=Th f l (init++[f init x])
  simp only[Xy]
  refine⟨by rw[h1];simp;omega,fun k hk=>by rw[h2 k (by simp;omega),Qc hk],fun k o hk =>?_⟩
  cases k with
  |zero =>
   simp at hk;subst hk
   rw[Jl,h2 init.length wd]
   have:(l.foldl (fun acc o=>acc++[f acc o]) (init++[f init x])).take init.length=init:=by
    apply ZW
    intro i
    rw[QW]
    split
    ·rename_i hi
     rw[h2 i (by simp;omega),Qc hi]
    ·rw[QI qr]
   rw[this];simp
  |succ k =>
   have:=h3 k o (by simpa using hk)
   simp only[Qj,T4]at this
   rw[show init.length+(k+1)=init.length+1+k by omega]
   exact this
theorem N4:∀(es:List Edge) (acc:List Nat) (u i:Nat),(es.foldl (fun u e=>if Region.binds .any e then u|||(2^e.on|||acc.getD e.on 0)else u) u).testBit i=true ->
  u.testBit i=true\/∃e∈es,Region.binds .any e=true/\(i=e.on\/(acc.getD e.on 0).testBit i=true)
 |[],acc,u,i,h=>.inl h
 |e::es,acc,u,i,h=>by
  simp only[Xy]at h
  rcases N4 es acc _ i h with h1|⟨e',h1,h2,h3⟩
  ·split at h1
   ·rename_i hb
    rw[Gw,Gw,Wl,Wl,Nat.testBit_two_pow]at h1
    rcases h1 with h1|h1|h1
    ·exact .inl h1
    ·exact .inr ⟨e,by simp,hb,.inl (by have h1':=of_decide_eq_true h1;omega)⟩
    ·exact .inr ⟨e,by simp,hb,.inr h1⟩
   ·exact .inl h1
  ·exact .inr ⟨e',by simp[h1],h2,h3⟩
theorem AI{ops:List Oper}{L:Nat->Prop}(hd:∀j o,L j->ops[j]?=some o->∀e∈o.after.toList,Region.binds .any e=true->L e.on):∀(j:Nat),L j->∀i,((Vz ops).getD j 0).testBit i=true->L i:=by
 intro j
 induction j using R6 with
 |_ j ih =>
  intro hj i hi
  obtain⟨h1,h2,h3⟩:=Th (fun acc (o:Oper)=>qB acc o.after.toList) ops []
  cases ho:ops[j]? with
  |none =>
   have:(Vz ops).getD j 0=0:=by
    have hl:(Vz ops).length=ops.length:=by have:=h1;simpa [Vz]using this
    rw[QD,QI]
    ·rfl
    ·rw[hl];exact List.getElem?_eq_none_iff.1 ho
   rw[this]at hi;simp at hi
  |some o =>
   have h4:=h3 j o ho
   simp only[ZT,QL]at h4
   have h5:(Vz ops)[j]?=some (qB ((Vz ops).take j) o.after.toList):=h4
   rw[QD,h5,X6]at hi
   rcases N4 _ _ _ _ hi with h6|⟨e,h6,h7,h8⟩
   ·simp at h6
   ·have he:=hd j o hj ho e h6 h7
    rcases h8 with rfl|h8
    ·exact he
    ·have hlt:e.on<j:=by
      rcases ZL e.on j with h|h
      ·exact h
      ·rw[QD,QI (by simp;omega)]at h8;simp at h8
     refine ih e.on hlt he i ?_
     rw[QD,QW,if_pos hlt,<-QD]at h8
     exact h8
theorem cC{α:Type}{l:List α}{x:α}(h:l[i]?=some x):(i,x)∈idx l:=by
 unfold idx
 rw[List.mem_iff_getElem?]
 refine⟨i,?_⟩
 have hlt:=(Qg.1 h).1
 rw[List.getElem?_zip_eq_some]
 exact⟨by rw[V8 hlt],h⟩
theorem dn(ops:List Oper):(Vz ops).length=ops.length:=by
 have:=(Th (fun acc (o:Oper)=>qB acc o.after.toList) ops []).1
 simpa [Vz]using this
theorem Om{ops:List Oper}{j:Nat}(hij:i<j)(hj:j<ops.length)(h:((Vz ops).getD j 0).testBit i=false):(i,j)∈Kj (Vz ops):=by
 unfold Kj
 rw[List.mem_flatMap]
 have hl:=dn ops
 refine⟨(j,(Vz ops)[j]'qr),cC (Qf qr),?_⟩
 simp only[Xo,R7,Gy,Prod.mk.injEq]
 refine⟨i,⟨hij,?_⟩,by simp⟩
 rw[QD,Qf qr,X6]at h
 simp[h]
theorem JQ(l:Array Bool)(j:Nat):l.getD j true=true\/(l.getD j false=false/\j<l.size):=by
 simp only[Jq]
 rcases ZL j l.size with h|h
 ·rw[ZG h]
  simp only[X6]
  cases l[j]<;>simp[h]
 ·left;rw[WO h];rfl
theorem count_set{l:List Bool}{k:Nat}(h:l[k]?=some false):(l.set k true).count false+1=l.count false:=by
 induction l generalizing k with
 |nil=>simp at h
 |cons b l ih =>
  cases k with
  |zero=>simp at h;subst h;simp
  |succ k=>simp at h;have:=ih h;simp only[Yi,List.count_cons];omega
def touches(r:Rec)(id:Nat):Prop:=match r.1 with|some l=>id∈l|none=>True
theorem bd{r s:Rec}(h:Wj r s=true):(∀id∈r.2,¬touches s id)/\(∀id∈s.2,¬touches r id):=by
 unfold Wj at h
 simp only[ZY,Wl,List.isEmpty_iff]at h
 obtain⟨h1,h2⟩:=h
 constructor
 ·intro id hid ht
  rcases h1 with h1|h1
  ·rw[h1]at hid;simp at hid
  ·unfold touches at ht
   split at h1
   ·rename_i l hl
    rw[hl]at ht
    have:=ZX.1 h1 id hid
    simp at this;exact this ht
   ·cases h1
 ·intro id hid ht
  rcases h2 with h2|h2
  ·rw[h2]at hid;simp at hid
  ·unfold touches at ht
   split at h2
   ·rename_i l hl
    rw[hl]at ht
    have:=ZX.1 h2 id hid
    simp at this;exact this ht
   ·cases h2
end
section
variable{P:Program}{n base:Nat}{ops:Array Oper}{aops:List AOper}{s s':St}{recs:List Rec}{S:Nat->St}{R:Nat->Rec}
def Changed(S:Nat->St)(i id:Nat):Prop:=id<(S i).h.length/\(S (i+1)).h[id]?≠(S i).h[id]?
structure Inv(P:Program)(ops:Array Oper)(S:Nat->St)(R:Nat->Rec)(ρ0:Pl)(a0:Act)(w0:World)(listed:Array Bool)(a:Act)(w:World)(ρ:Pl)(c:Nat->Option Ob):Prop where
 size:listed.size=ops.size
 down:∀(j:Nat) o,listed.getD j false=true->ops.toList[j]?=some o->∀e∈o.after.toList,Region.binds .any e=true->listed.getD e.on false=true
 rel:RelF ρ c w
 le:PlLe ρ0 ρ
 dom:∀id pl,ρ id=some pl->ρ0 id=none->∃k,k<ops.size/\listed.getD k false=true/\(S k).h.length<=id/\id<(S (k+1)).h.length
 con:∀j,j<=ops.size->listed.getD j false=false->∀id pl,ρ id=some pl->id<(S j).h.length->(j=ops.size\/touches (R j) id)->(∀i,i<j->listed.getD i false=false->¬Changed S i id)->c id=(S j).h[id]?
 env:∀j,j<=ops.size->listed.getD j false=false->∀t,(j=ops.size\/∃o,ops.toList[j]?=some o/\t∈namesOf ops.toList o)->(∀i,i<j->listed.getD i false=false->∀o,ops.toList[i]?=some o->o.dst≠some t) ->
  ∀v,(S j).env.get t=some v->∃v',a.tmps[t]?=some v'/\VRel ρ v v'
 frm:Frm ρ0 ρ (hp (S 0).h) c w0 w
 flags:Flags ρ0 (hp (S 0).h) c
 there:∀i,listed.getD i false=true->∀id,Changed S i id->ρ id≠none
 pres:∀id,id<(S 0).h.length->ρ0 id=none->(∀i,listed.getD i false=true->¬Changed S i id)
 defers:a.defers=[]
 tsize:a.tmps.size=a0.tmps.size
theorem nY{l:Array Bool}{k j:Nat}(hk:k<l.size):(l.setIfInBounds k true).getD j false=if j=k then true else l.getD j false:=by
 simp only[Jq,Xq]
 by_cases c:k=j
 ·subst c;simp[hk]
 ·simp[c,Ne.symm c]
variable(hc:Ye P n ops.toList ops.toList=some aops)(ht:Trace P base aops s s' [] recs S R)
section
variable{id t i:Nat}
include hc ht
theorem LV{i j:Nat}(hij:i<=j)(hj:j<=ops.size)(hid:id<(S i).h.length)(h:∀k,i<=k->k<j->¬Changed S k id):(S j).h[id]?=(S i).h[id]? := by
 obtain⟨hl,_⟩:=X5 hc
 have hlen:aops.length=ops.size:=by simpa using hl
 induction j with
 |zero =>
  have:i=0:=qr
  subst this;rfl
 |succ j ih =>
  rcases ZL i (j+1)with hlt|hge
  ·have h1:=ih qr qr fun k a b=>h k a qr
   have h2:=h j qr qr
   have h3:=(ht.cabs (i:=i) (j:=j) qr qr).len
   have h4:(S (j+1)).h[id]?=(S j).h[id]? := by
    apply Classical.byContradiction
    intro hne
    exact h2 ⟨by omega,hne⟩
   rw[h4,h1]
  ·have:i=j+1:=qr
   subst this;rfl
theorem iX{j:Nat}(hj:j<ops.size)(h:∀o,ops.toList[j]?=some o->o.dst≠some t):(S (j+1)).env.get t=(S j).env.get t:=by
 obtain⟨hl,hget⟩:=X5 hc
 have hjl:j<ops.toList.length:=by simpa using hj
 obtain⟨ao,ha1,ha2,ha3,_⟩:=hget j _ (Qf hjl)
 have hd:=h _ (Qf hjl)
 rw[<-ha3]at hd
 rcases ht.step j ao ha1 with⟨_,v,H',tt,M,_,hs,_⟩|⟨_,hs,_⟩<;>(rw[hs];simp only[LM,if_neg hd])
theorem IJ{i j:Nat}(hij:i<=j)(hj:j<=ops.size)(h:∀k,i<=k->k<j->∀o,ops.toList[k]?=some o->o.dst≠some t):(S j).env.get t=(S i).env.get t:=by
 induction j with
 |zero =>
  have:i=0:=qr
  subst this;rfl
 |succ j ih =>
  rcases ZL i (j+1)with hlt|hge
  ·rw[iX hc ht qr (h j qr qr),ih qr qr fun k a b=>h k a qr]
  ·have:i=j+1:=qr
   subst this;rfl
theorem UK(hi:i<ops.size)(h:Changed S i id):id∈(R i).2/\touches (R i) id:=by
 obtain⟨hl,hget⟩:=X5 hc
 have hjl:i<ops.toList.length:=by simpa using hi
 obtain⟨ao,ha1,_⟩:=hget i _ (Qf hjl)
 have hst:=ht.step i ao ha1
 have hM:id∈(R i).2:=by
  apply Classical.byContradiction
  intro hn
  exact h.2 (hst.abs.1.log id h.1 hn)
 refine⟨hM,?_⟩
 rcases hst with⟨_,v,H',tt,M,hg,_,hr⟩|⟨_,_,hr⟩
 ·rw[hr]at hM ⊢
  cases tt with
  |none=>trivial
  |some l=>exact hg.mt l rfl id hM
 ·rw[hr]at hM;simp at hM
theorem Yv{j:Nat}(hij:i<=j)(hj:j<=ops.size):(S i).h.length<=(S j).h.length:=by
 obtain⟨hl,_⟩:=X5 hc
 have hlen:aops.length=ops.size:=by simpa using hl
 exact(ht.cabs hij qr).len
end
end
end Go.Ev
namespace Go.Ev
open Go.RowKit
section
variable{P:Program}{n base:Nat}{ops:Array Oper}{aops:List AOper}{s s':St}{recs:List Rec}{S:Nat->St}{R:Nat->Rec}
theorem DI{l:List Oper}{prs:List (Nat×Nat)}(h:Ax l prs=true){i j:Nat}(hp:(i,j)∈prs){a b:Oper}(ha:l[i]?=some a)(hb:l[j]?=some b) :
  (∀d,a.dst=some d->d∉namesOf l b/\b.dst≠some d)/\(∀d,b.dst=some d->d∉namesOf l a):=by
 have:=ZX.1 h (i,j) hp
 simp only[ha,hb,ZY]at this
 obtain⟨h1,h2⟩:=this
 refine⟨fun d hd =>?_,fun d hd =>?_⟩
 ·rw[hd]at h1;simp at h1;exact h1
 ·rw[hd]at h2;simpa using h2
variable(hc:Ye P n ops.toList ops.toList=some aops)(ht:Trace P base aops s s' [] recs S R)
include hc ht
theorem DR(hpairs:ZC recs (B6 aops (Kj (Vz ops.toList)))=true){i j:Nat}(hij:i<j)(hj:j<ops.size)(hp:(i,j)∈Kj (Vz ops.toList)) :
  (∀id∈(R i).2,¬touches (R j) id)/\(∀id∈(R j).2,¬touches (R i) id):=by
 obtain⟨hl,hget⟩:=X5 hc
 have hlen:aops.length=ops.size:=by simpa using hl
 have hrec:∀k,k<ops.size->recs[k]?=some (R k):=by
  intro k hk
  rw[ht.recs]
  simp[hlen,hk]
 have hi:i<ops.size:=qr
 have hai:aops[i]?=some (aops[i]'qr):=Qf qr
 have haj:aops[j]?=some (aops[j]'qr):=Qf qr
 generalize aops[i]'qr=ai at hai
 generalize aops[j]'qr=aj at haj
 have hfree:∀k ak,aops[k]?=some ak->ak.op.free=true->R k=(some [],[])\/((R k).1=some []/\(R k).2=[]):=by
  intro k ak hk hf
  rcases ht.step k ak hk with⟨_,v,H',t,M,hg,_,hr⟩|⟨_,_,hr⟩
  ·right;rw[hr];exact hg.free hf
  ·left;exact hr
 have hquiet:∀k ak,aops[k]?=some ak->ak.op.quiet=true->(R k).2=[]:=by
  intro k ak hk hf
  rcases ht.step k ak hk with⟨_,v,H',t,M,hg,_,hr⟩|⟨_,_,hr⟩
  ·rw[hr];exact hg.quiet hf
  ·rw[hr]
 have hnone:∀k ak,aops[k]?=some ak->ak.op.free=true->(R k).2=[]/\∀id,¬touches (R k) id:=by
  intro k ak hk hf
  rcases hfree k ak hk hf with h|⟨h1,h2⟩
  ·rw[h];exact⟨rfl,fun id h=>by simp[touches]at h⟩
  ·exact⟨h2,fun id h=>by simp[touches,h1]at h⟩
 by_cases hm:(i,j)∈B6 aops (Kj (Vz ops.toList))
 ·have:=ZX.1 hpairs (i,j) hm
  simp only[hrec i hi,hrec j hj]at this
  exact bd this
 ·have hx:(ai.op.free || aj.op.free || (ai.op.quiet&&aj.op.quiet))=true:=by
   cases hb:(ai.op.free || aj.op.free || (ai.op.quiet&&aj.op.quiet))with
   |true=>rfl
   |false =>
    exfalso;apply hm
    unfold B6
    rw[R7]
    refine⟨hp,?_⟩
    simp only[hai,haj,hb,WN]
  simp only[Wl,ZY]at hx
  rcases hx with(h1|h1)|⟨h1,h2⟩
  ·obtain⟨a1,a2⟩:=hnone i ai hai h1
   exact⟨fun id hid=>by rw[a1]at hid;simp at hid,fun id _=>a2 id⟩
  ·obtain⟨a1,a2⟩:=hnone j aj haj h1
   exact⟨fun id _=>a2 id,fun id hid=>by rw[a1]at hid;simp at hid⟩
  ·have a1:=hquiet i ai hai h1
   have a2:=hquiet j aj haj h2
   exact⟨fun id hid=>by rw[a1]at hid;simp at hid,fun id hid=>by rw[a2]at hid;simp at hid⟩
variable(hslots:Ax ops.toList (Kj (Vz ops.toList))=true)(hpairs:ZC recs (B6 aops (Kj (Vz ops.toList)))=true)
section
variable{w0 w:World}
include hslots hpairs
theorem gF{ρ0:Pl}{a0:Act}(hfree0:Free ρ0 (S 0).h.length (S ops.size).h.length)(hn:n<=a0.tmps.size){listed:Array Bool}{a:Act}{ρ:Pl}{c:Nat->Option Ob}(hI:Inv P ops S R ρ0 a0 w0 listed a w ρ c){k:Nat}
 (hk:k<ops.size) (hkl:listed.getD k false=false) (hready:∀o,ops.toList[k]?=some o->∀e∈o.after.toList,Region.binds .any e=true->listed.getD e.on false=true)
 {Q:Exit->Act->World->Prop} {K:Act->World->Prop} (hK:∀a' w' ρ' c',Inv P ops S R ρ0 a0 w0 (listed.setIfInBounds k true) a' w' ρ' c'->K a' w'):wpOp P ops Q k K a w:=by
  obtain⟨hl,hget⟩:=X5 hc
  have hlen:aops.length=ops.size:=by simpa using hl
  have hkl':k<ops.toList.length:=by simpa using hk
  obtain⟨ao,ha1,ha2,ha3,ha4,ha5,ha6⟩:=hget k _ (Qf hkl')
  have hoL:ops.toList[k]?=some ops.toList[k]:=Qf hkl'
  have hoj:ops[k]?=some ops.toList[k]:=by rw[<-ZA];exact hoL
  generalize ops.toList[k]=o at ha2 ha3 ha4 ha5 ha6 hoj hoL
  have hst:=ht.step k ao ha1
  have hks:k<listed.size:=by rw[hI.size];exact hk
  have hls:∀j,(listed.setIfInBounds k true).getD j false=if j=k then true else listed.getD j false:=fun j=>nY hks
  have hdst:∀d,o.dst=some d->d<a.tmps.size:=fun d hd=>by rw[hI.tsize];exact QM (ha6 d hd) hn
  have hun1:∀i,i<k->listed.getD i false=false->(i,k)∈Kj (Vz ops.toList):=by
    intro i hi hli
    refine Om hi hkl' ?_
    cases hb:((Vz ops.toList).getD k 0).testBit i with
    |false=>rfl
    |true =>
      have:=AI (ops:=ops.toList) (L:=fun j=>j=k\/listed.getD j false=true) (fun j x hj hx e he hbd=>by
        rcases hj with rfl|hj
        · exact .inr (hready x hx e he hbd)
        · exact .inr (hI.down j x hj hx e he hbd)) k (.inl rfl) i hb
      rcases this with rfl|h
      · omega
      · rw[hli]at h;cases h
  have hun2:∀i,k<i->i<ops.size->listed.getD i false=true->(k,i)∈Kj (Vz ops.toList):=by
    intro i hi him hli
    refine Om hi (by simpa using him) ?_
    cases hb:((Vz ops.toList).getD i 0).testBit k with
    |false=>rfl
    |true =>
      have:=AI (ops:=ops.toList) (L:=fun j=>listed.getD j false=true) (fun j x hj hx e he hbd=>hI.down j x hj hx e he hbd) i hli k hb
      rw[hkl]at this;cases this
  have hun3:∀j,j<k->listed.getD j false=false->(j,k)∈Kj (Vz ops.toList):=hun1
  have hconk:∀id,ρ id≠none->id<(S k).h.length->touches (R k) id->c id=(S k).h[id]? := by
    intro id hρ hid htc
    obtain⟨pl,hpl⟩:∃pl,ρ id=some pl:=by cases h:ρ id with
      |none=>exact absurd h hρ
      |some pl=>exact⟨pl,rfl⟩
    refine hI.con k qr hkl id pl hpl hid (.inr htc) fun i hi hli hch =>?_
    have:=(DR hc ht hpairs hi hk (hun1 i hi hli)).1 id (UK hc ht qr hch).1
    exact this htc
  have henvk:∀t,t∈namesOf ops.toList o->∀v,(S k).env.get t=some v->∃v',a.tmps[t]?=some v'/\VRel ρ v v':=by
    intro t htn
    refine hI.env k qr hkl t (.inr ⟨o,hoL,htn⟩) fun i hi hli x hx hxd =>?_
    exact((DI hslots (hun1 i hi hli) hx hoL).1 t hxd).1 htn
  have hfreek:Free ρ (S k).h.length (S (k+1)).h.length:=by
    intro id h1 h2
    cases hρ:ρ id with
    |none=>rfl
    |some pl =>
      exfalso
      cases h0:ρ0 id with
      |none =>
        obtain⟨k',a1,a2,a3,a4⟩:=hI.dom id pl hρ h0
        have hne:k'≠k:=fun e=>by subst e;rw[hkl]at a2;cases a2
        rcases ZL k' k with h|h
        · have:=Yv hc ht (i:=k'+1) (j:=k) qr qr;omega
        · have:=Yv hc ht (i:=k+1) (j:=k') qr qr;omega
      |some p =>
        have h3:=Yv hc ht (i:=0) (j:=k) qr qr
        have h4:=Yv hc ht (i:=k+1) (j:=ops.size) qr qr
        have:=hfree0 id qr qr
        rw[this]at h0;cases h0
  have finish:∀(v:Value) (G G':List Ob) (v':Value) (w':World) (ρ':Pl),(S (k+1)).env=(S k).env.put o.dst v->G.length=(S k).h.length->G'.length=(S (k+1)).h.length->AbsOk G G' (R k).2->(∀id:Nat,id∈(R k).2\/(S k).h.length<=id->G'[id]?=(S (k+1)).h[id]?) ->
      (∀(id:Nat) ob,G[id]?=some ob->ob.live=true->ρ id≠none->c id=some ob)->(∀id∈(R k).2,touches (R k) id->G[id]?=(S k).h[id]?)->Post1 ρ G w v G' v' w' ρ'->K (a.put o.dst v') w':=by
    intro v G G' v' w' ρ' henv hG hG' hab hnew hsub hGM hp
    refine hK _ _ ρ' (Gb c G' (R k).2 G.length) ?_
    have hfG:Free ρ G.length G'.length:=by rw[hG,hG'];exact hfreek
    have hmr:=eQ hI.rel hsub hp.ext hfG hp.rel hp.frm hab
    have hmf:=eT hsub hp.frm hab
    have hmfl:=OH (ρ':=ρ') hsub hfG hab
    have hρnew:∀ {id pl},ρ' id=some pl->¬((S k).h.length<=id/\id<(S (k+1)).h.length)->ρ id=some pl:=by
      intro id pl h hnn
      cases hρ:ρ id with
      |none=>have:=hp.ext.dom id pl h hρ;rw[hG,hG']at this;exact absurd this hnn
      |some p=>have:=hp.ext.le id p hρ;rw[h]at this;cases this;rfl
    have hchk:∀id,Changed S k id->ρ id≠none:=by
      intro id hch hno
      have hm:=UK hc ht hk hch
      have h1:=hp.pres id (by rw[hG];exact hch.1) hno
      rw[hnew id (.inl hm.1),hGM id hm.1 hm.2]at h1
      exact hch.2 h1
    refine⟨by simp[hI.size],?_,hmr,hI.le.trans hp.ext.le,?_,?_,?_,?_,?_,?_,?_,by rw[DO];exact hI.defers,by rw[Cc];exact hI.tsize⟩
    · intro j x hj hx e he hbd
      rw[hls]at hj ⊢
      split
      · rfl
      · split at hj
        · rename_i hjk;subst hjk;exact hready x hx e he hbd
        · exact hI.down j x hj hx e he hbd
    · intro id pl h1 h2
      cases hρ:ρ id with
      |none =>
        have:=hp.ext.dom id pl h1 hρ
        rw[hG,hG']at this
        exact⟨k,hk,by rw[hls];simp,this.1,this.2⟩
      |some p =>
        obtain⟨k',a1,a2,a3,a4⟩:=hI.dom id p hρ h2
        exact⟨k',a1,by rw[hls];split<;>simp[a2],a3,a4⟩
    · intro j hj hjl id pl hpl hid htc hch
      rw[hls]at hjl
      have hjk:j≠k:=fun e=>by simp[e]at hjl
      rw[if_neg hjk]at hjl
      have hch':∀i,i<j->i≠k->listed.getD i false=false->¬Changed S i id:=fun i hi hik hli=>hch i hi (by rw[hls,if_neg hik];exact hli)
      unfold Gb
      rw[hG,hG']
      by_cases hin:id∈(R k).2\/((S k).h.length<=id/\id<(S (k+1)).h.length)
      · rw[if_pos hin]
        have hge:id∈(R k).2\/(S k).h.length<=id:=hin.imp (fun z=>z) (fun z=>z.1)
        rw[hnew id hge]
        have hidk1:id<(S (k+1)).h.length:=by
          rcases hin with h|h
          · have:=hab.ids id h;rw[hG]at this
            have:=Yv hc ht (i:=k) (j:=k+1) qr qr;omega
          · exact h.2
        rcases ZL k j with hkj|hjk'
        · refine(LV hc ht (i:=k+1) (j:=j) qr hj hidk1 fun i h1 h2 hci =>?_).symm
          cases hli:listed.getD i false with
          |false=>exact hch' i h2 qr hli hci
          |true =>
            have him:i<ops.size:=qr
            rcases hin with h|h
            · have hpa:=DR hc ht hpairs (by omega:k<i) him (hun2 i qr him hli)
              exact hpa.1 id h (UK hc ht him hci).2
            · have:=hI.there i hli id hci
              exact this (hfreek id h.1 h.2)
        · exfalso
          have hjlt:j<k:=qr
          rcases hin with h|h
          · have hpa:=DR hc ht hpairs hjlt hk (hun1 j hjlt hjl)
            rcases htc with h'|h'
            · omega
            · exact hpa.2 id h h'
          · have:=Yv hc ht (i:=j) (j:=k) qr qr;omega
      · rw[if_neg hin]
        have hρ:=hρnew hpl fun h=>hin (.inr h)
        refine hI.con j hj hjl id pl hρ hid htc fun i hi hli =>?_
        by_cases hik:i=k
        · subst hik
          exact fun hci=>hin (.inl (UK hc ht hk hci).1)
        · exact hch' i hi hik hli
    · intro j hj hjl t htn hnd v1 hv1
      rw[hls]at hjl
      have hjk:j≠k:=fun e=>by simp[e]at hjl
      rw[if_neg hjk]at hjl
      rw[N8 _ _ _ hdst]
      by_cases hdt:o.dst=some t
      · rw[if_pos hdt]
        rcases ZL k j with hkj|hjk'
        · have hce:=IJ hc ht (i:=k+1) (j:=j) (t:=t) qr hj fun i h1 h2 x hx hxd=>by
            cases hli:listed.getD i false with
            |false=>exact hnd i h2 (by rw[hls,if_neg qr];exact hli) x hx hxd
            |true =>
              have him:i<ops.size:=qr
              exact((DI hslots (hun2 i qr him hli) hoL hx).1 t hdt).2 hxd
          rw[hce,henv,LM,if_pos hdt]at hv1
          cases hv1
          exact⟨v',rfl,hp.val⟩
        · exfalso
          have hjlt:j<k:=qr
          rcases htn with h'|⟨x,hx,hxn⟩
          · omega
          · exact(DI hslots (hun1 j hjlt hjl) hx hoL).2 t hdt hxn
      · rw[if_neg hdt]
        obtain⟨u,h1,h2⟩:=hI.env j hj hjl t htn (fun i hi hli x hx=>by
          by_cases hik:i=k
          · subst hik;rw[hoL]at hx;cases hx;exact hdt
          · exact hnd i hi (by rw[hls,if_neg hik];exact hli) x hx) v1 hv1
        exact⟨u,h1,h2.mono hp.ext.le⟩
    · exact hI.frm.trans hmf hI.le hp.ext.le hI.flags fun id ob' pl h1 h2 h3=>hmfl id ob' pl (hI.le id pl h1) h2 h3
    · intro id ob' pl h1 h2 h3
      obtain⟨o2,b1,b2,b3⟩:=hmfl id ob' pl (hI.le id pl h1) h2 h3
      obtain⟨o3,d1,d2,d3⟩:=hI.flags id o2 pl h1 b1 b2
      exact⟨o3,d1,d2,d3.trans b3⟩
    · intro i hi id hci
      rw[hls]at hi
      have:ρ id≠none:=by
        split at hi
        · rename_i hik;subst hik;exact hchk id hci
        · exact hI.there i hi id hci
      intro hno
      cases hρ:ρ id with
      |none=>exact this hρ
      |some p=>rw[hp.ext.le id p hρ]at hno;cases hno
    · intro id hid hno i hi hci
      rw[hls]at hi
      split at hi
      · rename_i hik;subst hik
        have h1:=hchk id hci
        cases hρ:ρ id with
        |none=>exact h1 hρ
        |some p =>
          obtain⟨k',a1,a2,a3,a4⟩:=hI.dom id p hρ hno
          have:=Yv hc ht (i:=0) (j:=k') qr qr;omega
      · exact hI.pres id hid hno i hi hci
  have hw:∀b,guardOf (S k).env ao.guard=some b->Region.wanted o (yielded ops a.tmps)=b:=fun b hb=>FQ (ρ:=ρ) ha4 hb fun g want d h1 h2 v hv =>
    henvk d (by unfold namesOf;rw[QC];right;rw[h1];have h2':(ops.toList[g]?).bind (·.dst)=some d:=(by simpa using h2);simp only[h2'];simp) v hv
  unfold wpOp
  rw[hoj]
  dsimp only
  rcases hst with⟨hg,v,H',t,M,hgood,hs1,hr⟩|⟨hg,hs1,hr⟩
  · rw[if_pos (hw true hg)]
    left
    have hRM:(R k).2=M:=by rw[hr]
    have hRt:(R k).1=t:=by rw[hr]
    have hS1:(S (k+1)).h=H':=by rw[hs1]
    have henv1:(S (k+1)).env=(S k).env.put o.dst v:=by rw[hs1,ha3]
    have hopr:OpRel ρ (S k).env a o.op.operands.toList:=fun x hx u hu=>RY (ZX.1 ha5 x hx) (fun t' ht' u' hu'=>henvk t' (by
      unfold namesOf;rw[QC];left;unfold iS;rw[List.mem_filterMap];exact⟨x,hx,by rw[ht']⟩) u' hu') hu
    cases t with
    |none =>
      have htch:∀id,touches (R k) id:=fun id=>by unfold touches;rw[hRt];trivial
      have hsub:∀(id:Nat) ob,(S k).h[id]?=some ob->ob.live=true->ρ id≠none->c id=some ob:=fun id ob h1 _ h3=>by
        rw[hconk id h3 (Qg.1 h1).1 (htch id)];exact h1
      refine hgood.ok o ha2 ρ a w hopr (hI.rel.forget2 fun id ob h1 h2 h3=>hsub id ob h2 h3 h1) (by rw[<-hS1];exact hfreek) K Q fun v' w' ρ' hp =>?_
      refine finish v (S k).h H' v' w' ρ' henv1 rfl (by rw[hS1]) (by rw[hRM];exact hgood.abs) (fun id _=>by rw[hS1]) hsub (fun _ _ _=>rfl) hp
    |some l =>
      let G:List Ob:=(ZH (S k).h.length).map fun i=>if i∈l then((S k).h[i]?).getD Ob.dead else Ob.dead
      have hGl:G.length=(S k).h.length:=by simp[G]
      have hGget:∀i:Nat,i<(S k).h.length->G[i]?=some (if i∈l then((S k).h[i]?).getD Ob.dead else Ob.dead):=fun i hi=>by
        simp only[G,JB,V8 hi,Yo]
      have hag:∀id∈l,G[id]?=(S k).h[id]? := by
        intro id hid
        rcases ZL id (S k).h.length with h|h
        · rw[hGget id h,if_pos hid,Qf h];rfl
        · rw[QI qr,QI h]
      obtain⟨G',hloc,habs,hokG⟩:=hgood.loc l rfl G hGl hag
      have htc:∀id,touches (R k) id↔id∈l:=fun id=>by unfold touches;rw[hRt]
      have hsub:∀(id:Nat) ob,G[id]?=some ob->ob.live=true->ρ id≠none->c id=some ob:=by
        intro id ob h1 h2 h3
        have hid:id<(S k).h.length:=by have:=(Qg.1 h1).1;omega
        by_cases hil:id∈l
        · rw[hconk id h3 hid ((htc id).2 hil),<-hag id hil];exact h1
        · rw[hGget id hid,if_neg hil]at h1;cases h1;simp[Ob.dead]at h2
      have hGlen':G'.length=(S (k+1)).h.length:=by rw[hS1];exact hloc.len
      refine hokG o ha2 ρ a w hopr (hI.rel.forget2 fun id ob h1 h2 h3=>hsub id ob h2 h3 h1) (by rw[hGl,hGlen'];exact hfreek) K Q fun v' w' ρ' hp =>?_
      exact finish v G G' v' w' ρ' henv1 hGl hGlen' (by rw[hRM];exact habs) (fun id hid=>by rw[hS1];exact hloc.new id (by rw[hRM]at hid;exact hid)) hsub (fun id _ htt=>hag id ((htc id).1 htt)) hp
  · rw[if_neg (by rw[hw false hg];simp)]
    have hS1:(S (k+1)).h=(S k).h:=by rw[hs1]
    let G:List Ob:=(ZH (S k).h.length).map fun _=>Ob.dead
    have hGget:∀(i:Nat) ob,G[i]?=some ob->ob=Ob.dead:=fun i ob h=>by
      have hi:i<(S k).h.length:=by have:=(Qg.1 h).1;simpa [G]using this
      simp only[G,JB,V8 hi,Yo,Qk]at h;exact h.symm
    have hsub:∀(id:Nat) ob,G[id]?=some ob->ob.live=true->ρ id≠none->c id=some ob:=fun id ob h1 h2 _=>by rw[hGget id ob h1]at h2;simp[Ob.dead]at h2
    refine finish undef G G undef w ρ (by rw[hs1,ha3]) (by simp[G]) (by rw[hS1];simp[G]) (by rw[hr];exact .refl _ _ wd) (fun id hid =>?_) hsub (fun id hid=>by rw[hr]at hid;simp at hid) ⟨⟨.refl _ _ _,.tuple .nil,hI.rel.forget2 fun id ob h1 h2 h3=>hsub id ob h2 h3 h1,.refl _ _ _ _⟩,fun _ _ _=>rfl⟩
    rw[hr]at hid
    rcases hid with h|h
    · simp at h
    · rw[QI (by simpa [G]using h),QI (by rw[hS1];exact h)]
theorem oP{ρ0:Pl}{a0:Act}(hback:Dc ops.toList=true)(hfree0:Free ρ0 (S 0).h.length (S ops.size).h.length)(hn:n<=a0.tmps.size){Q:Exit->Act->World->Prop}
 (hQ:∀a w ρ,CPost ρ0 s s' a0 w0 a w ρ->Q .normal a w):∀(fuel:Nat) (listed:Array Bool) (a:Act) (w:World) (ρ:Pl) (c:Nat->Option Ob),listed.toList.count false=fuel->Inv P ops S R ρ0 a0 w0 listed a w ρ c->wpAny P .any ops Q fuel listed a w:=by
  obtain⟨hl,hget⟩:=X5 hc
  have hlen:aops.length=ops.size:=by simpa using hl
  have hend:∀(listed:Array Bool) (a:Act) (w:World) (ρ:Pl) (c:Nat->Option Ob),Inv P ops S R ρ0 a0 w0 listed a w ρ c->(∀j,j<ops.size->listed.getD j false=true)->Q .normal a w:=by
    intro listed a w ρ c hI hall
    have hS0:S 0=s:=ht.first
    have hSm:S ops.size=s':=by rw[<-hlen];exact ht.last
    have hnm:listed.getD ops.size false=false:=by simp[Jq,hI.size]
    have hcon:∀id pl,ρ id=some pl->id<s'.h.length->c id=s'.h[id]? := fun id pl h1 h2=>by
      rw[<-hSm]at h2 ⊢
      exact hI.con ops.size (Qs _) hnm id pl h1 h2 (.inl rfl) fun i hi hli=>by rw[hall i hi]at hli;cases hli
    refine hQ a w ρ ⟨?_,hI.defers,hI.tsize,⟨hI.le,fun id pl h1 h2 =>?_⟩,?_,?_,?_⟩
    · intro t v hv
      rw[<-hSm]at hv
      exact hI.env ops.size (Qs _) hnm t (.inl rfl) (fun i hi hli=>by rw[hall i hi]at hli;cases hli) v hv
    · obtain⟨k,a1,a2,a3,a4⟩:=hI.dom id pl h1 h2
      have h3:=Yv hc ht (i:=0) (j:=k) qr qr
      have h4:=Yv hc ht (i:=k+1) (j:=ops.size) qr qr
      rw[hS0]at h3;rw[hSm]at h4
      omega
    · refine hI.rel.forget2 fun id ob h1 h2 _ =>?_
      cases hρ:ρ id with
      |none=>exact absurd hρ h1
      |some pl=>rw[hcon id pl hρ (Qg.1 h2).1];exact h2
    · have hf:=hI.frm
      rw[hS0]at hf
      refine⟨hf.os,hf.tape,hf.output,hf.size,hf.blocks,fun id pl h1 h2=>(hf.fresh id pl h1 h2).imp (fun z=>z) fun⟨i,ob,p0,b1,b2,b3,b4,b5,b6⟩=>⟨i,ob,p0,b1,b2,b3,b4,b5,fun ob' h' =>?_⟩⟩
      refine b6 ob' ?_
      rw[hcon i p0 (hI.le i p0 b2) (Qg.1 h').1];exact h'
    · intro id h1 h2
      rw[<-hSm,<-hS0]
      rw[<-hS0]at h1
      refine LV hc ht (Dk _) (Qs _) h1 fun k _ hk=>hI.pres id h1 h2 k (hall k hk)
  have hleast:∀(listed:Array Bool),listed.size=ops.size->Region.ready .any ops listed=[]->∀j,j<ops.size->listed.getD j false=true:=by
    intro listed hsz hr j
    induction j using R6 with
    |_ j ih =>
      intro hj
      cases hlj:listed.getD j false with
      |true=>rfl
      |false =>
        exfalso
        have hmem:j∈Region.ready .any ops listed:=by
          unfold Region.ready
          rw[R7]
          refine⟨Gy.2 hj,?_⟩
          have h1:listed.getD j true=false:=by
            rcases JQ listed j with h|h
            · simp only[Jq]at h hlj
              rw[ZG qr]at h hlj
              simp only[X6]at h hlj
              rw[h]at hlj;cases hlj
            · simp only[Jq]at h ⊢
              rw[ZG qr]at h ⊢
              simpa using h.1
          have h2:ops[j]?=some ops[j]:=ZG hj
          rw[h1,h2]
          simp only[WN,Fu,Yo,X6]
          rw[<-Array.all_toList,ZX]
          intro e he
          cases hb:Region.binds .any e with
          |false=>rfl
          |true =>
            have hlt:e.on<j:=by
              have:=ZX.1 hback (j,ops[j]) (cC (by rw[ZA];exact h2))
              have:=ZX.1 this e he
              simpa [hb]using this
            simp only[Bool.not_true,Bool.false_or]
            exact ih e.on hlt qr
        rw[hr]at hmem;simp at hmem
  intro fuel
  induction fuel with
  |zero =>
    intro listed a w ρ c hf hI
    have hall:∀j,j<ops.size->listed.getD j false=true:=by
      intro j hj
      cases hlj:listed.getD j false with
      |true=>rfl
      |false =>
        exfalso
        simp only[Jq]at hlj
        rw[ZG (by rw[hI.size];exact hj)]at hlj
        simp only[X6]at hlj
        have:false∈listed.toList:=by rw[<-hlj];exact Array.getElem_mem_toList _
        have:=List.count_pos_iff.2 this
        omega
    refine⟨?_,hend listed a w ρ c hI hall⟩
    unfold Region.ready
    rw[List.filter_eq_nil_iff]
    intro j hj
    have:=hall j (Gy.1 hj)
    have h1:listed.getD j true=true:=by
      simp only[Jq]at this ⊢
      rw[ZG (by rw[hI.size];exact Gy.1 hj)]at this ⊢
      exact this
    simp[h1]
  |succ fuel ih =>
    intro listed a w ρ c hf hI
    refine⟨fun hr=>hend listed a w ρ c hI (hleast listed hI.size hr),fun k hk =>?_⟩
    unfold Region.ready at hk
    rw[R7]at hk
    obtain⟨hk1,hk2⟩:=hk
    have hk1:=Gy.1 hk1
    simp only[ZY,Bool.not_eq_true']at hk2
    obtain⟨hk2,hk3⟩:=hk2
    have hks:k<listed.size:=by rw[hI.size];exact hk1
    have hkl:listed.getD k false=false:=by
      simp only[Jq]at hk2 ⊢
      rw[ZG hks]at hk2 ⊢
      exact hk2
    refine gF hc ht hslots hpairs hfree0 hn hI hk1 hkl (fun o ho e he hb =>?_) fun a' w' ρ' c' hI'=>ih _ a' w' ρ' c' ?_ hI'
    · have h2:ops[k]?=some o:=by rw[<-ZA];exact ho
      rw[h2]at hk3
      simp only[Yo,X6]at hk3
      rw[<-Array.all_toList,ZX]at hk3
      have:=hk3 e he
      simpa [hb]using this
    · have hke:listed.toList[k]?=some false:=by
        simp only[Jq]at hkl
        rw[ZG hks]at hkl
        simp only[X6]at hkl
        rw[ZA,ZG hks,hkl]
      rw[Array.toList_setIfInBounds]
      have:=count_set hke
      omega
theorem tJ{id:Nat}{ρ:Pl}{a:Act}(hm:P.follows .mixedOrders=true)(hback:Dc ops.toList=true)(h1:EnvRel ρ s.env a)(h2:a.defers=[])(h3:n<=a.tmps.size)(h4:RelF ρ (hp s.h) w)(h5:Free ρ s.h.length s'.h.length)
 {Q:Exit->Act->World->Prop} (hQ:∀a' w' ρ',CPost ρ s s' a w a' w' ρ'->Q .normal a' w'):(Code.region id ops true).wp P Q a w:=by
  obtain⟨hl,hget⟩:=X5 hc
  have hlen:aops.length=ops.size:=by simpa using hl
  have hS0:S 0=s:=ht.first
  have hSm:S ops.size=s':=by rw[<-hlen];exact ht.last
  have hf0:Free ρ (S 0).h.length (S ops.size).h.length:=by rw[hS0,hSm];exact h5
  refine wp_region_any hm (oP hc ht hslots hpairs (w0:=w) (a0:=a) hback hf0 h3 hQ _ _ _ _ ρ (hp s.h) wd ?_)
  have hlf:∀j,(Ve ops.size false).getD j false=false:=by
    intro j;simp only[Jq,Array.getElem?_replicate];split<;>rfl
  refine⟨by simp,fun j o h=>(by rw[hlf]at h;cases h),h4.drawn _,.refl _,fun id pl h1 h2=>(by rw[h1]at h2;cases h2),?_,?_,(by rw[hS0];exact .drawn _ _ _ _ _),?_,fun i h=>(by rw[hlf]at h;cases h),fun id _ _ i h=>(by rw[hlf]at h;cases h),h2,rfl⟩
  · intro j hj _ id pl hpl hid _ hch
    have hid0:id<(S 0).h.length:=by
      rcases ZL id (S 0).h.length with h|h
      · exact h
      · have:=Yv hc ht (i:=j) (j:=ops.size) hj (Qs _)
        have:=hf0 id h qr
        rw[this]at hpl;cases hpl
    have:=LV hc ht (Dk j) hj hid0 fun k _ hk=>hch k hk (hlf k)
    rw[this,hS0]
  · intro j hj _ t _ hnd v hv
    have:=IJ hc ht (t:=t) (Dk j) hj fun k _ hk x hx=>hnd k hk (hlf k) x hx
    rw[this,hS0]at hv
    exact h1 t v hv
  · intro id ob' pl h1 h2 h3
    rw[hS0]
    exact⟨ob',h2,h3,rfl⟩
end
end
end Go.Ev
namespace Go.Ev
open Go.RowKit
def xJ:AExit->Exit
 |.normal=>.normal
 |.exit id=>.exit id
 |.ret=>.ret
section
variable{P:Program}{T:Tab}
section
variable{H H':List Ob}{n:Nat}{ρ:Pl}{x y:ACode}{args vs:List Value}{e:Env}{f:FuncId}{v:Value}{w:World}{xs:List Operand}{c:Operand}{s':St}{M:List Nat}
theorem nw(hrel:RelF ρ (hp H) w){ad:Addr}{pl:Place}(e1:ρ ad.block=some pl){ob:Ob}(hob:liveAt H ad.block=some ob){n:Option Nat}{ty:TypeId}(ha:Gt P ty=some n){u:Value}(hu:Jn n ob.c ad.off=some u) :
  ∃u',(loadVar ty ⟨pl.block,pl.base+ad.off,none⟩).run P w=.ok u' w/\VRel ρ u u':=by
 obtain⟨hob1,hob2⟩:=VU hob
 obtain⟨_,_,cs,el,fr,g1,g2,g3,g4,_⟩:=hrel.obj _ _ _ hob1 e1 hob2
 obtain⟨b,hb,hbn,hk⟩:=AU (P:=P) (w:=w) ha
 cases n with
 |none =>
  simp only[Wr]at hbn;subst hbn
  obtain⟨_,u',g5,g6⟩:=g4 ad.off u hu
  have hc:w.cell? ⟨pl.block,pl.base+ad.off,none⟩=some u':=by rw[A8 g1];exact g5
  exact⟨u',by simp[loadVar,hb,hc],g6⟩
 |some n =>
  simp only[Gu]at hbn;subst hbn
  simp only[Jn]at hu
  split at hu
  ·rename_i hle
   cases hu
   refine⟨.agg ((cs.toList.drop (pl.base+ad.off)).take n).toArray,?_,?_⟩
   ·have:=run_loadCells (P:=P) (n:=n) (off:=pl.base+ad.off) g1 qr
    simp only[loadVar,hb,Xs (hk n rfl),this,Sem.run_bind,Result.andThen_ok,Sem.run_pure,Sem.run_ite,if_true]
   ·refine .agg (LRel.of_get (by simp;omega) fun i u hi =>?_) fun x hx =>?_
    ·simp only[QW,Zp]at hi ⊢
     split at hi
     ·rename_i hlt
      obtain⟨_,u',g5,g6⟩:=g4 _ u hi
      exact⟨u',by rw[if_pos hlt];simpa [Zb]using g5,g6⟩
     ·cases hi
    ·have hx':=ZF (QP hx)
     obtain⟨i,hi⟩:=Xf hx'
     exact(g4 i x hi).1
  ·cases hu
theorem tH{args args':List Value}(h:LRel ρ args args'):∀(k t:Nat) (v:Value),(Qr k args).get t=some v->∃v',k<=t/\args'[t-k]?=some v'/\VRel ρ v v':=by
 induction args generalizing args' with
 |nil=>intro k t v h;simp[Qr,Env.get]at h
 |cons x args ih =>
  cases h with
  |cons hx hl =>
   intro k t v hv
   simp only[Qr,Env.get]at hv
   split at hv
   ·subst_vars;cases hv;exact⟨_,Qs _,by simp,hx⟩
   ·rename_i hne
    obtain⟨v',h1,h2,h3⟩:=ih hl (k+1) t v hv
    refine⟨v',by omega,?_,h3⟩
    rw[show t-k=(t-(k+1))+1 by omega]
    simpa using h2
def UX(a:Act)(r:ResultVar):Sem Value :=
 match r with
 |.tmp t=>pure (a.tmps.getD t undef)
 |.cell a' t=>do loadVar t (<- asAddr (a.tmps.getD a' undef))
def rj(P:Program)(r:ResultVar):Option (Nat×Option (Option Nat)) :=
 match r with
 |.tmp t=>some (t,none)
 |.cell a t=>(Gt P t).map fun n=>(a,some n)
theorem GO{ρ:Pl}{e:Env}{a:Act}{H:List Ob}{w:World}(henv:EnvRel ρ e a)(hrel:RelF ρ (hp H) w):∀ {rs:List ResultVar} {ars:List (Nat×Option (Option Nat))} {vs:List Value},
  rs.mapM (rj P)=some ars->Zt e H ars=some vs->∃vs',(rs.mapM (UX a)).run P w=.ok vs' w/\LRel ρ vs vs'
 |[],ars,vs,h,hr=>by
  simp at h;subst h
  simp[Zt]at hr;subst hr
  exact⟨[],by simp,.nil⟩
 |r::rs,ars,vs,h,hr=>by
  rw[Ar]at h
  simp only[bind,Qd,pure,Qk]at h
  obtain⟨ar,h1,ars',h2,rfl⟩:=h
  cases r with
  |tmp t =>
   simp only[rj,Qk]at h1
   subst h1
   simp only[Zt,Qd,Qk]at hr
   obtain⟨v,hv,v2,rfl,vs',hvs,rfl⟩:=hr
   obtain⟨us,e1,e2⟩:=GO henv hrel h2 hvs
   obtain⟨v',e3,e4⟩:=henv t v hv
   have e5:(UX a (.tmp t)).run P w=.ok v' w:=by simp[UX,e3]
   refine⟨v'::us,?_,.cons e4 e2⟩
   rw[Ar]
   simp only[Sem.run_bind,Sem.run_pure,Result.andThen_ok,e1,e5]
  |cell ad ty =>
   simp only[rj,QF]at h1
   obtain⟨n,hn,rfl⟩:=h1
   simp only[Zt,Qd]at hr
   obtain⟨v,hv,u,hu,vs',hvs,hr⟩:=hr
   simp only[Qk]at hr
   subst hr
   obtain⟨us,e1,e2⟩:=GO henv hrel h2 hvs
   obtain⟨v',e3,e4⟩:=henv ad v hv
   split at hu
   ·rename_i a2
    simp only[Qd]at hu
    obtain⟨ob,hob,hu⟩:=hu
    split at hu
    ·obtain⟨pl,e5,e6,rfl⟩:=e4.ptr_inv
     obtain⟨u',e7,e8⟩:=nw (P:=P) hrel e5 hob hn hu
     have e9:(UX a (.cell ad ty)).run P w=.ok u' w:=by simp[UX,e3,asAddr,e7]
     refine⟨u'::us,?_,.cons e8 e2⟩
     rw[Ar]
     simp only[Sem.run_bind,Sem.run_pure,Result.andThen_ok,e1,e9]
    ·cases hu
   ·cases hu
theorem SL{vs':List Value}(h:LRel ρ vs vs'):VRel ρ (packed vs) (packed vs'):=by
 cases h with
 |nil=>exact .tuple .nil
 |cons a b=>cases b with
  |nil=>exact a
  |cons c d=>exact .tuple (.cons a (.cons c d))
theorem Ca{a:Act}{fn:Func}{vs':List Value}(h:(fn.results.toList.mapM (UX a)).run P w=.ok vs' w):(results fn a.tmps).run P w=.ok (packed vs') w:=by
 have h1:results fn a.tmps=(do
  let vs <- fn.results.mapM (UX a)
  pure (if h:vs.size=1 then vs[0]else .tuple vs)):=by
  unfold results
  have:(fun r=>match r with
   |ResultVar.tmp t=>pure (a.tmps.getD t undef)
   |ResultVar.cell a' t=>do loadVar t (<- asAddr (a.tmps.getD a' undef)):ResultVar->Sem Value)=UX a:=by funext r;cases r<;>rfl
  rw[<-this]
  rfl
 rw[h1]
 have h2:fn.results.mapM (UX a)=List.toArray <$> fn.results.toList.mapM (UX a):=by
  rw[<-List.mapM_toArray]
 rw[h2]
 simp only[Sem.run_bind,Sem.run_map,h,Result.andThen_ok,Sem.run_pure]
 congr 1
 match vs' with
 |[]=>rfl
 |[x]=>rfl
 |x::y::l=>simp[packed]
theorem Pw{code:Code}{l:List AOper}{prs:List (Nat×Nat)}(h:comp P n code=some (.region l none prs)):∃id ops draw,code=.region id ops draw/\Ye P n ops.toList ops.toList=some l /\
  (draw=true->Dc ops.toList=true/\Ax ops.toList (Kj (Vz ops.toList))=true/\prs=B6 l (Kj (Vz ops.toList))):=by
 cases code with
 |region id ops draw =>
  simp only[comp,Qd]at h
  obtain⟨l',h1,h⟩:=h
  refine⟨id,ops,draw,rfl,?_⟩
  split at h
  ·split at h
   ·rename_i hb
    simp only[ZY]at hb
    simp only[Qk,ACode.region.injEq]at h
    obtain⟨rfl,_,rfl⟩:=h
    exact⟨h1,fun _=>⟨hb.1,hb.2,rfl⟩⟩
   ·cases h
  ·rename_i hd
   simp only[Qk,ACode.region.injEq]at h
   obtain⟨rfl,_,rfl⟩:=h
   exact⟨h1,fun hd'=>absurd hd' (by simpa using hd)⟩
 |_=>simp[comp,Qd]at h
theorem Ef{code:Code}(h:comp P n code=some (.seq x y)):∃a b,code=.seq a b/\comp P n a=some x/\comp P n b=some y:=by
 cases code with
 |seq a b =>
  simp only[comp,Qd,QF,ACode.seq.injEq]at h
  obtain⟨x',h1,y',h2,rfl,rfl⟩:=h
  exact⟨a,b,rfl,h1,h2⟩
 |region id ops draw=>simp only[comp,Qd]at h;obtain⟨_,_,h⟩:=h;split at h<;>(try split at h)<;>simp at h
 |_=>simp[comp,Qd]at h
theorem IH{code:Code}(h:comp P n code=some (.cond c x y)):∃a b,code=.cond c a b/\Wh c=true/\comp P n a=some x/\comp P n b=some y:=by
 cases code with
 |cond c' a b =>
  simp only[comp]at h
  split at h
  ·simp only[Qd,QF,ACode.cond.injEq]at h
   obtain⟨x',h1,y',h2,rfl,rfl,rfl⟩:=h
   exact⟨a,b,rfl,by assumption,h1,h2⟩
  ·cases h
 |region id ops draw=>simp only[comp,Qd]at h;obtain⟨_,_,h⟩:=h;split at h<;>(try split at h)<;>simp at h
 |_=>simp[comp,Qd]at h
theorem Gg{id:Nat}{code:Code}(h:comp P n code=some (.block id x)):∃a,code=.block id a/\comp P n a=some x:=by
 cases code with
 |block i a =>
  simp only[comp,QF,ACode.block.injEq]at h
  obtain⟨x',h1,rfl,rfl⟩:=h
  exact⟨a,rfl,h1⟩
 |region id ops draw=>simp only[comp,Qd]at h;obtain⟨_,_,h⟩:=h;split at h<;>(try split at h)<;>simp at h
 |cond c a b=>simp only[comp]at h;split at h<;>simp[Qd]at h
 |_=>simp[comp,Qd]at h
theorem To{code:Code}(h:comp P n code=some (.loop x)):∃a,code=.loop a/\comp P n a=some x:=by
 cases code with
 |loop a =>
  simp only[comp,QF,ACode.loop.injEq]at h
  obtain⟨x',h1,rfl⟩:=h
  exact⟨a,rfl,h1⟩
 |region id ops draw=>simp only[comp,Qd]at h;obtain⟨_,_,h⟩:=h;split at h<;>(try split at h)<;>simp at h
 |cond c a b=>simp only[comp]at h;split at h<;>simp[Qd]at h
 |_=>simp[comp,Qd]at h
theorem Tp{code:Code}(hx:x=.skip\/x=.ret\/∃id,x=.exit id)(h:comp P n code=some x):(x=.skip->code=.skip)/\(x=.ret->code=.ret)/\(∀id,x=.exit id->code=.exit id):=by
 cases code with
 |region id ops draw=>simp only[comp,Qd]at h;obtain⟨_,_,h⟩:=h;split at h<;>(try split at h)<;>simp at h<;>subst h<;>simp at hx
 |cond c a b=>simp only[comp]at h;split at h<;>simp[Qd]at h;obtain⟨_,_,_,_,rfl⟩:=h;simp at hx
 |seq a b=>simp[comp,Qd]at h;obtain⟨_,_,_,_,rfl⟩:=h;simp at hx
 |block i a=>simp[comp]at h;obtain⟨_,_,rfl⟩:=h;simp at hx
 |loop a=>simp[comp]at h;obtain⟨_,_,rfl⟩:=h;simp at hx
 |skip=>simp[comp]at h;subst h;simp
 |exit i=>simp[comp]at h;subst h;simp
 |ret=>simp[comp]at h;subst h;simp
 |_=>simp[comp]at h
def GoodN(P:Program)(N:Nat)(code:Code)(Q:Exit->Act->World->Prop)(a:Act)(w:World):Prop :=
 match code with
 |.loop b=>Code.rounds P b Q N a w
 |c=>c.wp P Q a w
theorem GoodN.wp{N:Nat}{code:Code}{Q:Exit->Act->World->Prop}{a:Act}{w:World}(h:GoodN P N code Q a w):code.wp P Q a w:=by
 cases code with
 |loop b=>exact wp_loop_rounds N h
 |_=>exact h
def qb(P:Program)(c:ACode)(s:St)(x:AExit)(s':St):Prop:=∃N,∀(n:Nat) (code:Code),comp P n code=some c.strip->∀(ρ:Pl) (a:Act) (w:World),EnvRel ρ s.env a->a.defers=[]->n<=a.tmps.size->RelF ρ (hp s.h) w->Free ρ s.h.length s'.h.length ->
 ∀Q:Exit->Act->World->Prop,(∀a' w' ρ',CPost ρ s s' a w a' w' ρ'->Q (xJ x) a' w')->GoodN P N code Q a w
theorem Aa{fn:Func}{af:AFun}(h:compFun P fn=some af.strip):∃code,fn.body=some code/\comp P fn.ntmps code=some af.body.strip/\fn.results.toList.mapM (rj P)=some af.results:=by
 simp only[compFun,Qd,QF]at h
 obtain⟨code,h1,a,h2,rs,h3,h4⟩:=h
 simp only[AFun.strip,AFun.mk.injEq]at h4
 obtain⟨rfl,rfl⟩:=h4
 refine⟨code,h1,h2,?_⟩
 rw[<-h3]
 congr 1
theorem DX{s:St}{a:Act}(h1:EnvRel ρ s.env a)(h2:a.defers=[])(h3:RelF ρ (hp s.h) w):CPost ρ s s a w a w ρ:=⟨h1,h2,rfl,.refl _ _ _,h3,.refl _ _ _ _,fun _ _ _=>rfl⟩
theorem Ek(hT:TabOk P T){fn:AFun}(hfn:T.fn f=some fn){x:AExit}(hx:∀id,x≠.exit id)(hcode:qb P fn.body ⟨Qr 0 args,H,[]⟩ x s')
 (hres:Zt s'.env s'.h fn.results=some vs):Bl P f args H (packed vs) s'.h:=by
  obtain⟨pf,h1,h2,h3⟩:=hT.fn f fn hfn
  obtain⟨code,h4,h5,h6⟩:=Aa h2
  obtain⟨N,hN⟩:=hcode
  intro ρ args' w hl hrel hfree o a K Q hK
  have hcf:(callFunc f args'.toArray).run P w=.ok (.enter f args'.toArray) w:=by
    have h3' : ¬ (pf.name = "runtime.NumGoroutine") := by simpa using h3
    simp[callFunc,h1,h3',h4]
  rw[hcf,Oper.upon_enter]
  refine calls_of_wp h1 h4 ?_
  refine(hN pf.ntmps code h5 ρ _ w ?_ rfl ?_ hrel hfree _ fun a' w' ρ' hp =>?_).wp
  · intro t v hv
    obtain⟨v',g1,g2,g3⟩:=tH hl 0 t v hv
    refine⟨v',?_,g3⟩
    have hlt:=(Qg.1 g2).1
    rw[Array.getElem?_append_left (by simpa using hlt)]
    simpa using g2
  · simp;omega
  · obtain⟨vs',g1,g2⟩:=GO (P:=P) hp.env hp.rel h6 hres
    have g3:=Ca g1
    have hfin:bodyPost P pf (fun | .returned v,w''=>K (a.put o.dst v) w'' | .panicked chain,w''=>Q (.panic chain) a w'' | .outgrown,_=>LetsOut Q) .normal a' w' :=
      ⟨hp.defers,_,g3,hK _ _ ρ' ⟨⟨hp.ext,SL g2,hp.rel,hp.frm⟩,hp.pres⟩⟩
    cases x with
    |normal=>exact hfin
    |ret=>exact hfin
    |exit id=>exact absurd rfl (hx id)
theorem P6(h:CAbs H.length ⟨e,H,[]⟩ s'):AbsOk H s'.h s'.log:=by
 refine⟨h.len,h.flags,fun id h1 h2=>h.log id h1 h1 h2,fun id hid =>?_⟩
 rcases h.ids id hid with h1|h1
 ·simp at h1
 ·exact h1.1
def M1(P:Program)(f:Nat)(args:List Value)(H:List Ob)(r:Value×List Ob×List Nat):Prop:=Bl P f args H r.1 r.2.1/\AbsOk H r.2.1 r.2.2
def M2(P:Program)(base:Nat)(c:ACode)(s:St)(r:AExit×St):Prop:=CAbs base s r.2/\qb P c s r.1 r.2
def M3(P:Program)(base:Nat)(aops:List AOper)(s:St)(recs:List Rec)(r:St×List Rec):Prop:=∃S R,Trace P base aops s r.1 recs r.2 S R
def M4(P:Program)(ao:AOp)(e:Env)(H:List Ob)(r:Value×List Ob×Option (List Nat)×List Nat):Prop:=StepGood P ao e H r.1 r.2.1 r.2.2.1 r.2.2.2
theorem FJ(hx:Xb e xs=some args)(hc:Bl P f args H v H')(ha:AbsOk H H' M):StepGood P (.call f xs false) e H v H' none M :=
 ⟨ha,fun o ho=>GU ho hx hc,fun l h=>(by cases h),fun l h=>(by cases h),fun h=>(by simp[AOp.free]at h),fun h=>(by simp[AOp.quiet]at h)⟩
theorem aq{f:Operand}{g:FuncId}{fi ca:Array Value}(hf:opd e f=some (.func (.func g) fi ca))(hx:Xb e xs=some args)
 (hc:Bl P g (fi.toList++args++ca.toList) H v H') (ha:AbsOk H H' M):StepGood P (.callv f xs) e H v H' none M :=
  ⟨ha,fun o ho=>L6 ho hf hx hc,fun l h=>(by cases h),fun l h=>(by cases h),fun h=>(by simp[AOp.free]at h),fun h=>(by simp[AOp.quiet]at h)⟩
theorem FI{H0:List Ob}(hx:Xb e xs=some args)(hc:Bl P f args [] v H0)(ha:args.all rf=true)(hv:rf v=true):StepGood P (.call f xs true) e H v H (some []) [] :=
 ⟨.refl _ _ wd,fun o ho=>GU ho hx (Rc hc ha hv H),fun l h G hG _=>⟨G,⟨hG,fun id h=>by
  rcases h with h|h
  ·simp at h
  ·rw[QI qr,QI h]⟩,.refl _ _ wd,fun o ho=>GU ho hx (Rc hc ha hv G)⟩,fun l h id hid=>(by simp at hid),fun _=>⟨rfl,rfl⟩,fun _=>rfl⟩
theorem LRel.of_all{ρ:Pl}:∀ {l l':List Value},LRel ρ l l'->l.all rf=true->l'=l
 |[],_,h,_=>by cases h;rfl
 |_::_,_,h,ha=>by
  cases h with
  |cons hx hr =>
   simp only[KD,ZY]at ha
   rw[hx.of_rf ha.1,LRel.of_all hr ha.2]
theorem nW(hT:TabOk P T)(hn:T.fn f=none)(he:T.ext f args=some v)(ha:args.all rf=true):Bl P f args H v H:=by
 obtain⟨h1,h2⟩:=hT.ext f args v hn he ha
 intro ρ args' w hl hrel hfree o a K Q hK
 have:args'=args:=LRel.of_all hl ha
 subst this
 rw[h2 w]
 exact hK v w ρ ⟨⟨.refl _ _ _,h1 ρ,hrel,.refl _ _ _ _⟩,fun _ _ _=>rfl⟩
theorem IE{a:Act}{b:Bool}(hc:Wh c=true)(henv:EnvRel ρ e a)(h:opd e c=some (.bool b)):a.eval c=.bool b :=
 (RY hc (fun t _ v hv=>henv t v hv) h).bool
theorem sound(hm:P.follows .mixedOrders=true)(hT:TabOk P T):∀(f:Nat) (args:List Value) (H:List Ob) (r:Value×List Ob×List Nat),Z6 T f args H=some r->M1 P f args H r:=by
 refine Z6.partial_correctness T (M1 P) (M2 P) (M3 P) (M4 P) ?_ ?_ ?_ ?_
 ·
  intro Q0 hcode f args H r hr
  split at hr
  ·rename_i fn hfn
   simp only[XB,Qd]at hr
   obtain⟨⟨x,s'⟩,hx,hr⟩:=hr
   have h2:=hcode _ _ _ _ hx
   dsimp only at hr
   cases x with
   |exit id=>cases hr
   |normal =>
    simp only[Qd,Qk]at hr
    obtain⟨vs,hvs,rfl⟩:=hr
    exact⟨Ek hT hfn (fun id h=>by cases h) h2.2 hvs,P6 h2.1⟩
   |ret =>
    simp only[Qd,Qk]at hr
    obtain⟨vs,hvs,rfl⟩:=hr
    exact⟨Ek hT hfn (fun id h=>by cases h) h2.2 hvs,P6 h2.1⟩
  ·rename_i hfn
   split at hr
   ·rename_i ha
    simp only[Qd,Qk]at hr
    obtain⟨v,hv,rfl⟩:=hr
    exact⟨nW hT hfn hv ha,.refl _ _ wd⟩
   ·cases hr
 ·
  intro Q0 evOps hcode hops base c s r hr
  cases c with
  |skip =>
   simp only[Qk]at hr;subst hr
   refine⟨.refl _ _,0,fun n code hc ρ a w h1 h2 h3 h4 h5 Q hQ =>?_⟩
   have:=(Tp (.inl rfl) hc).1 rfl
   subst this
   exact wp_skip (hQ a w ρ (DX h1 h2 h4))
  |exit id =>
   simp only[Qk]at hr;subst hr
   refine⟨.refl _ _,0,fun n code hc ρ a w h1 h2 h3 h4 h5 Q hQ =>?_⟩
   have:=(Tp (.inr (.inr ⟨id,rfl⟩)) hc).2.2 id rfl
   subst this
   exact wp_exit (hQ a w ρ (DX h1 h2 h4))
  |ret =>
   simp only[Qk]at hr;subst hr
   refine⟨.refl _ _,0,fun n code hc ρ a w h1 h2 h3 h4 h5 Q hQ =>?_⟩
   have:=(Tp (.inr (.inl rfl)) hc).2.1 rfl
   subst this
   exact wp_ret (hQ a w ρ (DX h1 h2 h4))
  |region ops keep pairs =>
   simp only[XB,Qd]at hr
   obtain⟨⟨s1,recs⟩,h1,hr⟩:=hr
   dsimp only at hr
   split at hr
   ·rename_i hpk
    simp only[Qk]at hr;subst hr
    obtain⟨S,R,ht⟩:=hops _ _ _ _ _ h1
    dsimp only at ht ⊢
    obtain⟨k1,k2⟩:=uH s1 keep
    have hcab:=ht.cabs (i:=0) (j:=ops.length) (Dk _) (Qs _)
    rw[ht.first,ht.last]at hcab
    refine⟨⟨by rw[k1];exact hcab.len,by rw[k1];exact hcab.flags,by rw[k1,k2];exact hcab.log,by rw[k2];exact hcab.sub,by rw[k1,k2];exact hcab.ids⟩,0,fun n code hc ρ a w e1 e2 e3 e4 e5 Q hQ =>?_⟩
    obtain⟨id,cops,draw,rfl,hcp,hdr⟩:=Pw hc
    rw[k1]at e5
    have hQ':∀a' w' ρ',CPost ρ s s1 a w a' w' ρ'->Q .normal a' w':=fun a' w' ρ' hp=>hQ a' w' ρ' ⟨hp.env.after keep,hp.defers,hp.size,by rw[k1];exact hp.ext,by rw[k1];exact hp.rel,by rw[k1];exact hp.frm,by rw[k1];exact hp.pres⟩
    show(Code.region id cops draw).wp P Q a w
    cases draw with
    |false =>
     refine wp_region ?_
     have hl:=(X5 hcp).1
     have:ZH cops.size=Ya 0 ops.length:=by rw[List.range_eq_range'];congr 1;simpa using hl.symm
     rw[this]
     refine Sn hcp ht ops.length 0 qr ρ a w (by rw[ht.first];exact e1) e2 e3 (by rw[ht.first];exact e4) (by rw[ht.first];exact e5) fun a' w' ρ' hp=>hQ' a' w' ρ' (by rw[ht.first]at hp;exact hp)
    |true =>
     obtain⟨d1,d2,d3⟩:=hdr rfl
     subst d3
     exact tJ hcp ht d2 hpk hm d1 e1 e2 e3 e4 e5 hQ'
   ·cases hr
  |seq x y =>
   simp only[XB,Qd]at hr
   obtain⟨⟨ex,s1⟩,h1,hr⟩:=hr
   obtain⟨ca1,N1,hN1⟩:=hcode _ _ _ _ h1
   dsimp only at hr ca1 hN1
   cases ex with
   |normal =>
    obtain⟨ca2,N2,hN2⟩:=hcode _ _ _ _ hr
    refine⟨ca1.trans ca2,0,fun n code hc ρ a w e1 e2 e3 e4 e5 Q hQ =>?_⟩
    obtain⟨p,q,rfl,hp1,hq1⟩:=Ef hc
    refine wp_seq (hN1 n p hp1 ρ a w e1 e2 e3 e4 (fun id i1 i2=>e5 id i1 (QM i2 ca2.len)) _ fun a1 w1 ρ1 hp =>?_).wp
    show q.wp P Q a1 w1
    exact(hN2 n q hq1 ρ1 a1 w1 hp.env hp.defers (by rw[hp.size];exact e3) hp.rel (e5.later hp.ext ca1.len) Q fun a2 w2 ρ2 hp2=>hQ a2 w2 ρ2 (hp.trans hp2 ca1 ca2 e5)).wp
   |exit id =>
    simp only[Qk]at hr;subst hr
    refine⟨ca1,0,fun n code hc ρ a w e1 e2 e3 e4 e5 Q hQ =>?_⟩
    obtain⟨p,q,rfl,hp1,hq1⟩:=Ef hc
    refine wp_seq (hN1 n p hp1 ρ a w e1 e2 e3 e4 e5 _ fun a1 w1 ρ1 hp =>?_).wp
    exact hQ a1 w1 ρ1 hp
   |ret =>
    simp only[Qk]at hr;subst hr
    refine⟨ca1,0,fun n code hc ρ a w e1 e2 e3 e4 e5 Q hQ =>?_⟩
    obtain⟨p,q,rfl,hp1,hq1⟩:=Ef hc
    refine wp_seq (hN1 n p hp1 ρ a w e1 e2 e3 e4 e5 _ fun a1 w1 ρ1 hp =>?_).wp
    exact hQ a1 w1 ρ1 hp
  |cond c x y =>
   dsimp only at hr
   split at hr
   ·rename_i hb
    obtain⟨ca1,N1,hN1⟩:=hcode _ _ _ _ hr
    refine⟨ca1,0,fun n code hc ρ a w e1 e2 e3 e4 e5 Q hQ =>?_⟩
    obtain⟨p,q,rfl,hok,hp1,hq1⟩:=IH hc
    exact wp_cond_true (IE hok e1 hb) (hN1 n p hp1 ρ a w e1 e2 e3 e4 e5 Q hQ).wp
   ·rename_i hb
    obtain⟨ca1,N1,hN1⟩:=hcode _ _ _ _ hr
    refine⟨ca1,0,fun n code hc ρ a w e1 e2 e3 e4 e5 Q hQ =>?_⟩
    obtain⟨p,q,rfl,hok,hp1,hq1⟩:=IH hc
    exact wp_cond_false (IE hok e1 hb) (hN1 n q hq1 ρ a w e1 e2 e3 e4 e5 Q hQ).wp
   ·cases hr
  |block id x =>
   simp only[XB,Qd]at hr
   obtain⟨⟨ex,s1⟩,h1,hr⟩:=hr
   obtain⟨ca1,N1,hN1⟩:=hcode _ _ _ _ h1
   dsimp only at hr ca1 hN1
   cases ex with
   |normal =>
    simp only[Qk]at hr;subst hr
    refine⟨ca1,0,fun n code hc ρ a w e1 e2 e3 e4 e5 Q hQ =>?_⟩
    obtain⟨p,rfl,hp1⟩:=Gg hc
    refine wp_block (hN1 n p hp1 ρ a w e1 e2 e3 e4 e5 _ fun a1 w1 ρ1 hp =>?_).wp
    exact hQ a1 w1 ρ1 hp
   |ret =>
    simp only[Qk]at hr;subst hr
    refine⟨ca1,0,fun n code hc ρ a w e1 e2 e3 e4 e5 Q hQ =>?_⟩
    obtain⟨p,rfl,hp1⟩:=Gg hc
    refine wp_block (hN1 n p hp1 ρ a w e1 e2 e3 e4 e5 _ fun a1 w1 ρ1 hp =>?_).wp
    exact hQ a1 w1 ρ1 hp
   |exit i =>
    dsimp only at hr
    split at hr
    ·rename_i hid
     simp only[Qk]at hr;subst hr
     refine⟨ca1,0,fun n code hc ρ a w e1 e2 e3 e4 e5 Q hQ =>?_⟩
     obtain⟨p,rfl,hp1⟩:=Gg hc
     refine wp_block (hN1 n p hp1 ρ a w e1 e2 e3 e4 e5 _ fun a1 w1 ρ1 hp =>?_).wp
     show Exit.inBlock id Q (.exit i) a1 w1
     simp only[Exit.inBlock,if_pos hid]
     exact hQ a1 w1 ρ1 hp
    ·rename_i hid
     simp only[Qk]at hr;subst hr
     refine⟨ca1,0,fun n code hc ρ a w e1 e2 e3 e4 e5 Q hQ =>?_⟩
     obtain⟨p,rfl,hp1⟩:=Gg hc
     refine wp_block (hN1 n p hp1 ρ a w e1 e2 e3 e4 e5 _ fun a1 w1 ρ1 hp =>?_).wp
     show Exit.inBlock id Q (.exit i) a1 w1
     simp only[Exit.inBlock,if_neg hid]
     exact hQ a1 w1 ρ1 hp
  |loop x =>
   simp only[XB,Qd]at hr
   obtain⟨⟨ex,s1⟩,h1,hr⟩:=hr
   obtain⟨ca1,N1,hN1⟩:=hcode _ _ _ _ h1
   dsimp only at hr ca1 hN1
   cases ex with
   |normal =>
    obtain⟨ca2,N2,hN2⟩:=hcode _ _ _ _ hr
    refine⟨ca1.trans ca2,N2+1,fun n code hc ρ a w e1 e2 e3 e4 e5 Q hQ =>?_⟩
    obtain⟨p,rfl,hp1⟩:=To hc
    show Code.rounds P p Q (N2+1) a w
    rw[rounds_succ]
    refine(hN1 n p hp1 ρ a w e1 e2 e3 e4 (fun id i1 i2=>e5 id i1 (QM i2 ca2.len)) _ fun a1 w1 ρ1 hp =>?_).wp
    show Code.rounds P p Q N2 a1 w1
    exact hN2 n (.loop p) hc ρ1 a1 w1 hp.env hp.defers (by rw[hp.size];exact e3) hp.rel (e5.later hp.ext ca1.len) Q fun a2 w2 ρ2 hp2=>hQ a2 w2 ρ2 (hp.trans hp2 ca1 ca2 e5)
   |exit id =>
    simp only[Qk]at hr;subst hr
    refine⟨ca1,1,fun n code hc ρ a w e1 e2 e3 e4 e5 Q hQ =>?_⟩
    obtain⟨p,rfl,hp1⟩:=To hc
    show Code.rounds P p Q (0+1) a w
    rw[rounds_succ]
    refine(hN1 n p hp1 ρ a w e1 e2 e3 e4 e5 _ fun a1 w1 ρ1 hp =>?_).wp
    exact hQ a1 w1 ρ1 hp
   |ret =>
    simp only[Qk]at hr;subst hr
    refine⟨ca1,1,fun n code hc ρ a w e1 e2 e3 e4 e5 Q hQ =>?_⟩
    obtain⟨p,rfl,hp1⟩:=To hc
    show Code.rounds P p Q (0+1) a w
    rw[rounds_succ]
    refine(hN1 n p hp1 ρ a w e1 e2 e3 e4 e5 _ fun a1 w1 ρ1 hp =>?_).wp
    exact hQ a1 w1 ρ1 hp
 ·
  intro evOps J9 hops hoper base aops s recs r hr
  cases aops with
  |nil=>simp only[Qk]at hr;subst hr;exact⟨_,_,.nil⟩
  |cons ao aops =>
   dsimp only at hr
   split at hr
   ·rename_i hg
    simp only[XB,Qd]at hr
    obtain⟨⟨v,H',t,M⟩,h1,hr⟩:=hr
    obtain⟨S,R,ht⟩:=hops _ _ _ _ _ hr
    exact⟨_,_,Trace.cons (.inl ⟨hg,v,H',t,M,hoper _ _ _ _ h1,rfl,rfl⟩) ht⟩
   ·rename_i hg
    obtain⟨S,R,ht⟩:=hops _ _ _ _ _ hr
    exact⟨_,_,Trace.cons (.inr ⟨hg,rfl,rfl⟩) ht⟩
   ·cases hr
 ·
  intro Z6 hfun ao e H r hr
  cases ao with
  |call f xs b =>
   dsimp only at hr
   cases b with
   |true =>
    simp only[if_true]at hr
    split at hr
    ·rename_i args hx
     split at hr
     ·rename_i ha
      simp only[XB,Qd]at hr
      obtain⟨⟨v,H',M⟩,h1,hr⟩:=hr
      dsimp only at hr
      split at hr
      ·rename_i hv
       simp only[Qk]at hr;subst hr
       exact FI hx (hfun _ _ _ _ h1).1 ha hv
      ·cases hr
     ·cases hr
    ·cases hr
   |false =>
    simp only[ZM,if_false]at hr
    split at hr
    ·rename_i args hx
     simp only[XB,Qd,Qk]at hr
     obtain⟨⟨v,H',M⟩,h1,rfl⟩:=hr
     exact FJ hx (hfun _ _ _ _ h1).1 (hfun _ _ _ _ h1).2
    ·cases hr
  |callv f xs =>
   dsimp only at hr
   split at hr
   ·rename_i g fi ca args hf hx
    simp only[XB,Qd,Qk]at hr
    obtain⟨⟨v,H',M⟩,h1,rfl⟩:=hr
    exact aq hf hx (hfun _ _ _ _ h1).1 (hfun _ _ _ _ h1).2
   ·cases hr
  |_=>exact NL rfl hr
end
end
end Go.Ev
namespace Go.Ev
open Go.RowKit Go.WideShapes Go.ChangeShapes
section
variable{P:Program}{T:Tab}
theorem VRel.refl_in{ρ:Pl}{v:Value}(h:Bw v=true):VRel ρ v v:=by
 rcases DN h with h1|⟨cs,rfl⟩
 ·exact .same h1
 ·have h2:cs.toList.all Z4=true:=h
  exact VRel.agg (l:=cs.toList) (l':=cs.toList) (LRel.same h2) fun v hv=>XK (ZX.1 h2 v hv)
theorem LRel.refl_in{ρ:Pl}:∀ {l:List Value},l.all Bw=true->LRel ρ l l
 |[],_=>.nil
 |_::_,h=>by
  simp only[KD,ZY]at h
  exact .cons (VRel.refl_in h.1) (LRel.refl_in h.2)
theorem P5(hm:P.follows .mixedOrders=true)(hT:TabOk P T){f:Nat}{args:List Value}{v:Value}{H':List Ob}{M:List Nat}(h:Z6 T f args []=some (v,H',M))(hn:T.fn f≠none)(ha:args.all Bw=true)(hv:rf v=true)(w:World) :
  Calls P f args.toArray w fun e w'=>e=.returned v/\Below w.heap.size w w':=by
 have h1:=(sound hm hT f args [] _ h).1
 have h2:=h1 (fun _=>none) args w (LRel.refl_in ha) (Ib w) (fun _ _ _=>rfl) { (default:Oper)with dst:=some 0 } { tmps := #[undef],defers:=[] }
  (fun a w'=>∃v',a.tmps=#[v']/\v'=v/\Below w.heap.size w w') (fun _ _ _=>False) fun v' w' ρ' hp=>⟨v',by simp[Act.put],hp.val.of_rf hv,⟨hp.frm.os,hp.frm.tape,hp.frm.output,hp.frm.size,fun k hk=>hp.frm.blocks k hk fun id ob pl hc=>by simp[hp]at hc⟩⟩
 obtain⟨af,haf⟩:=Option.ne_none_iff_exists'.1 hn
 obtain⟨pf,g1,g2,g3⟩:=hT.fn f af haf
 obtain⟨code,g4,g5,g6⟩:=Aa g2
 have hcf:(callFunc f args.toArray).run P w=.ok (.enter f args.toArray) w:=by
  have g3' : ¬ (pf.name = "runtime.NumGoroutine") := by simpa using g3
  simp[callFunc,g1,g3',g4]
 rw[hcf,Oper.upon_enter]at h2
 refine h2.mono fun e w' he =>?_
 cases e with
 |returned v1 =>
  obtain⟨v',k1,k2,k3⟩:=he
  have:v1=v':=by simpa [Act.put]using k1
  exact⟨by rw[this,k2],k3⟩
 |panicked c=>exact he.elim
 |outgrown=>obtain⟨_,_,hx⟩:=he;exact hx.elim
open Go.RowKit Go.WideShapes Go.ChangeShapes in
theorem FC{H:Type}{enc:TypeId×Value->H}{f:Func}{s:ChangeSpec}{apart fresh handsOn again:Bool}{W W':World}{args:Array Value}{v:Value}{ds gs:List (DataW H)}{before pa pv:List MemPlace}
  (hW:DataW.Whole enc P f.params.toList s.vars apart W args.toList ds gs before)
  (hres:∀(b:Nat) (sp:Nat->Bool) (hd:Bool),DataW.TrodAll enc P W' b sp hd f.resultTypes.toList (v.resultList f.resultTypes.size) (s.fn H (ds++gs)).results [])
  (hargs:∀sp:Nat->Bool,(∀p∈before,sp p.block=true)->DataW.TrodAll enc P W' 0 sp true f.params.toList args.toList (s.fn H (ds++gs)).args pa)
  (hvars:∀sp:Nat->Bool,(∀p∈before,sp p.block=true)->DataW.TrodVars enc P W' sp s.vars (s.fn H (ds++gs)).vars pv)
  (hps:before=pa++pv) (hb:Below W.heap.size W W')
  (hok:∀(j:Nat) (t:TypeId) (r:Value),f.resultTypes[j]?=some t->(v.resultList f.resultTypes.size)[j]?=some r->Value.okWide P W' .any 0 t r) :
  s.post enc P f apart fresh handsOn again W args v W':=by
 have hlt:∀p∈before,p.block<W.heap.size:=fun p hp=>hW.lt p hp
 have hold:∀p∈before,(fun b=>decide (b<W.heap.size)) p.block=true:=fun p hp=>by simpa using hlt p hp
 refine⟨ds,gs,before,[],pa,pv,hW,hres _ _ _,hargs _ hold,hvars _ hold,World.keptBut_mono (fun p hp=>⟨hp,?_⟩) (hb.frame (· ∈ before)),fun _ =>?_⟩
 ·rw[hps,QC]at hp
  exact Or.inr hp
 ·obtain⟨_,_,_,_,_,hz,hn⟩:=hW
  refine⟨hok,_,_,([]++pa)++pv,⟨[]++pa,pv,trodAll_append (hargs _ (fun _ _=>rfl)) (hres _ _ _),hvars _ (fun _ _=>rfl),rfl,?_,?_⟩,?_⟩
  ·intro b off hp
   have hin:MemPlace.cell b off∈before:=by rw[hps];simpa using hp
   rw[hb.frozen (hlt _ hin)]
   exact hz b off hin
  ·intro ha
   have:=hn ha
   rw[hps]at this
   simpa using this
  ·intro p hp _
   rw[hps]
   simpa using hp
end
end Go.Ev
namespace Go.Ev
section
variable{T:Tab}
section
variable{H:List Ob}{e:Env}{x i a c y:Operand}{base es off bytes:Nat}{s:St}{n:Option Nat}{f:FuncId}{b:ACode}
def AOp.noCall:AOp->Bool
 |.call .. | .callv .. =>false
 |_=>true
theorem Zy{o:AOp}(h:o.noCall=true):J9 T o e H=Qz H e o:=by
 rw[J9.eq_def]
 cases o<;>first|rfl|(simp[AOp.noCall]at h)
theorem TR:J9 T (.move x) e H=Qz H e (.move x):=Zy rfl
theorem TQ{b:Operand}:J9 T (.pick c a b) e H=Qz H e (.pick c a b):=Zy rfl
theorem WC{zero:List Value}:J9 T (.alloc zero) e H=Qz H e (.alloc zero):=Zy rfl
theorem CP:J9 T (.box x) e H=Qz H e (.box x):=Zy rfl
theorem Vb:J9 T (.load n a) e H=Qz H e (.load n a):=Zy rfl
theorem KB{n:Nat}{v:Operand}:J9 T (.store n a v) e H=Qz H e (.store n a v):=Zy rfl
theorem CR{op:BinOp}:J9 T (.bin op x y) e H=Qz H e (.bin op x y):=Zy rfl
theorem CO{ks:Option (List Bool)}{neg:Bool}:J9 T (.eqv ks neg x y) e H=Qz H e (.eqv ks neg x y):=Zy rfl
theorem IF{op:UnOp}:J9 T (.un op x) e H=Qz H e (.un op x):=Zy rfl
theorem TV{k:IntKind}:J9 T (.conv k x) e H=Qz H e (.conv k x):=Zy rfl
theorem FL:J9 T (.convSl x) e H=Qz H e (.convSl x):=Zy rfl
theorem CM:J9 T (.s2b x) e H=Qz H e (.s2b x):=Zy rfl
theorem CS:J9 T (.b2s x) e H=Qz H e (.b2s x):=Zy rfl
theorem MT:J9 T (.field n off x) e H=Qz H e (.field n off x):=Zy rfl
theorem MS{len:Nat}:J9 T (.index n len es x i) e H=Qz H e (.index n len es x i):=Zy rfl
theorem Gr:J9 T (.indexStr x i) e H=Qz H e (.indexStr x i):=Zy rfl
theorem WB{zero:List Value}{parts:List (Nat×Nat×Operand)}:J9 T (.build zero parts) e H=Qz H e (.build zero parts):=Zy rfl
theorem UG{cells:List Value}{len:Nat}{parts:List (Nat×Nat×Operand)}:J9 T (.buildSlice cells len parts) e H=Qz H e (.buildSlice cells len parts):=Zy rfl
theorem BH:J9 T (.fieldAddr off x) e H=Qz H e (.fieldAddr off x):=Zy rfl
theorem BG{len:Nat}:J9 T (.indexAddr len es x i) e H=Qz H e (.indexAddr len es x i):=Zy rfl
theorem Hg:J9 T (.indexSl es x i) e H=Qz H e (.indexSl es x i):=Zy rfl
theorem Gp{n:Nat}{lo hi mx:Option Operand}:J9 T (.sliceArr n es x lo hi mx) e H=Qz H e (.sliceArr n es x lo hi mx):=Zy rfl
theorem Hf{lo hi mx:Option Operand}:J9 T (.sliceSl es x lo hi mx) e H=Qz H e (.sliceSl es x lo hi mx):=Zy rfl
theorem Gn{lo hi:Option Operand}:J9 T (.sliceStr x lo hi) e H=Qz H e (.sliceStr x lo hi):=Zy rfl
theorem BF{zero:List Value}{l:Operand}:J9 T (.makeSlice zero bytes l c) e H=Qz H e (.makeSlice zero bytes l c):=Zy rfl
theorem Hh{i:Nat}:J9 T (.extract x i) e H=Qz H e (.extract x i):=Zy rfl
theorem D7{fn:Fn}{first captured:List Operand}:J9 T (.mkFunc fn first captured) e H=Qz H e (.mkFunc fn first captured):=Zy rfl
theorem Gq:J9 T (.nilCheck x) e H=Qz H e (.nilCheck x):=Zy rfl
theorem TP{n:Nat}:J9 T (.s2ap n x) e H=Qz H e (.s2ap n x):=Zy rfl
theorem D8{s:Operand}:J9 T (.append es bytes s x) e H=Qz H e (.append es bytes s x):=Zy rfl
theorem TS{d s:Operand}:J9 T (.copy es d s) e H=Qz H e (.copy es d s):=Zy rfl
theorem CN{str:Bool}:J9 T (.len str x) e H=Qz H e (.len str x):=Zy rfl
theorem TW{e:Env}{xs:List Operand}:J9 T (.call f xs false) e H=(Xb e xs).bind fun args=>(Z6 T f args H).bind fun r=>some (r.1,r.2.1,none,r.2.2):=by
 rw[J9.eq_def];dsimp only;cases Xb e xs<;>rfl
theorem VZ{e:Env}{xs:List Operand}:J9 T (.call f xs true) e H=(Xb e xs).bind fun args=>if args.all rf then(Z6 T f args []).bind fun r=>if rf r.1 then some (r.1,H,some [],[])else none else none:=by
 rw[J9.eq_def];dsimp only;cases Xb e xs<;>rfl
theorem Hi:Q0 T base .skip s=some (.normal,s):=by rw[Q0.eq_def]
theorem TX{id:Nat}:Q0 T base (.exit id) s=some (.exit id,s):=by rw[Q0.eq_def]
theorem CV:Q0 T base .ret s=some (.ret,s):=by rw[Q0.eq_def]
theorem XE{ops:List AOper}{keep:Option (List Nat)}{pairs:List (Nat×Nat)}:Q0 T base (.region ops keep pairs) s =
  (evOps T base ops s []).bind fun r=>if ZC r.2 pairs then some (.normal,r.1.after keep)else none:=by rw[Q0.eq_def]<;>rfl
theorem CU{a:ACode}:Q0 T base (.seq a b) s=(Q0 T base a s).bind fun r=>match r.1 with
  |.normal=>Q0 T base b r.2
  |x=>some (x,r.2):=by rw[Q0.eq_def]<;>rfl
theorem TY{c:Operand}{a:ACode}{s:St}:Q0 T base (.cond c a b) s=match opd s.env c with
  |some (.bool true)=>Q0 T base a s
  |some (.bool false)=>Q0 T base b s
  |_=>none:=by rw[Q0.eq_def]<;>rfl
theorem Jt{base id:Nat}{b:ACode}{s:St}:Q0 T base (.block id b) s=(Q0 T base b s).bind fun r=>match r.1 with
  |.exit i=>if i=id then some (.normal,r.2)else some (.exit i,r.2)
  |x=>some (x,r.2):=by rw[Q0.eq_def]<;>rfl
theorem J6{base:Nat}{b:ACode}{s:St}:Q0 T base (.loop b) s=(Q0 T base b s).bind fun r=>match r.1 with
  |.normal=>Q0 T base (.loop b) r.2
  |x=>some (x,r.2):=by rw[Q0.eq_def]<;>rfl
theorem KU{recs:List Rec}:evOps T base [] s recs=some (s,recs):=by rw[evOps.eq_def]
theorem XY{o:AOper}{r:List AOper}{s:St}{recs:List Rec}:evOps T base (o::r) s recs=match guardOf s.env o.guard with
   |some true=>(J9 T o.op s.env s.h).bind fun x=>evOps T base r ⟨s.env.put o.dst x.1,x.2.1,Q1 base s.log x.2.2.2⟩ (recs++[(x.2.2.1,x.2.2.2)])
   |some false=>evOps T base r ⟨s.env.put o.dst undef,s.h,s.log⟩ (recs++[(some [],[])])
   |none=>none:=by rw[evOps.eq_def]<;>rfl
end
end
theorem Hr{α β:Type}{x y:Option α}(f:α->Option β)(h:x=y):x.bind f=y.bind f:=by rw[h]
abbrev FunE:=Nat->List Value->List Ob->Option (Value×List Ob×List Nat)
section
variable{T:Tab}{F:FunE}
theorem QY{f:Nat}{args:List Value}{H:List Ob}{fn:AFun}(hfn:T.fn f=some fn):Z6 T f args H=(Q0 T H.length fn.body ⟨Qr 0 args,H,[]⟩).bind fun xs=>match xs.1 with
   |.exit _=>none
   |_=>(Zt xs.2.env xs.2.h fn.results).bind fun vs=>some (packed vs,xs.2.h,xs.2.log):=by
 rw[Z6.eq_def,hfn];rfl
end
end Go.Ev
namespace Go.Ev
variable{k:IntKind}{a b:Nat}
theorem wrap_u32(x:Int):IntKind.u32.wrap x=x%4294967296:=rfl
theorem WU(x:Int):IntKind.u64.wrap x=x%18446744073709551616:=rfl
theorem wrap_u8(x:Int):IntKind.u8.wrap x=x%256:=rfl
theorem ik(x:Int):IntKind.u16.wrap x=x%65536:=rfl
theorem QU{x:Int}(h : -9223372036854775808<=x)(k:x<9223372036854775808):IntKind.i64.wrap x=x:=by
 simp[IntKind.wrap,IntKind.signed,IntKind.bits]
 omega
theorem Xj(hk:k.signed=false){n:Nat}(h:n<2^k.bits):k.wrap (n:Int)=n:=by
 simp only[IntKind.wrap,hk,Bool.false_and,if_false,ZM]
 rw[Int.emod_eq_of_lt (Int.natCast_nonneg _)]
 exact_mod_cast h
theorem Te{w:Nat}:BitVec.ofInt w (a:Int)=BitVec.ofNat w a:=by simp
theorem Uu(hk:k.signed=false)(ha:a<2^k.bits)(hb:b<2^k.bits):Zr .and k a b=((a&&&b:Nat):Int):=by
 simp only[Zr,Te]
 rw[BitVec.toNat_and,BitVec.toNat_ofNat,BitVec.toNat_ofNat,Qv ha,Qv hb,Xj hk (Nat.and_lt_two_pow _ hb)]
theorem Kh(hk:k.signed=false)(ha:a<2^k.bits)(hb:b<2^k.bits):Zr .or k a b=((a|||b:Nat):Int):=by
 simp only[Zr,Te]
 rw[BitVec.toNat_or,BitVec.toNat_ofNat,BitVec.toNat_ofNat,Qv ha,Qv hb,Xj hk (Nat.or_lt_two_pow ha hb)]
theorem En(hk:k.signed=false)(ha:a<2^k.bits)(hb:b<2^k.bits):Zr .xor k a b=((a^^^b:Nat):Int):=by
 simp only[Zr,Te]
 rw[BitVec.toNat_xor,BitVec.toNat_ofNat,BitVec.toNat_ofNat,Qv ha,Qv hb,Xj hk (Nat.xor_lt_two_pow ha hb)]
theorem aW(op:BinOp)(a b:Int):(Zr .and .u32 a b=((BitVec.ofInt 32 a&&&BitVec.ofInt 32 b).toNat:Int))/\(Zr .or .u32 a b=((BitVec.ofInt 32 a|||BitVec.ofInt 32 b).toNat:Int))/\(Zr .xor .u32 a b=((BitVec.ofInt 32 a^^^BitVec.ofInt 32 b).toNat:Int)) :=
 ⟨Xj (k := .u32) rfl (BitVec.isLt _),Xj (k := .u32) rfl (BitVec.isLt _),Xj (k := .u32) rfl (BitVec.isLt _)⟩
theorem FF(v:BitVec 32):BitVec.ofInt 32 (v.toNat:Int)=v:=by simp
theorem top32(v:BitVec 32):((v.toNat:Int).fdiv (2^31))=if v.msb then 1 else 0:=by
 have h:=v.isLt
 rw[BitVec.msb_eq_decide]
 have e:((v.toNat:Int).fdiv (2^31))=((v.toNat/2147483648:Nat):Int):=by
  rw[Int.fdiv_eq_ediv_of_nonneg _ ww];rfl
 rw[e]
 by_cases hv:2^(32-1)<=v.toNat
 ·simp only[hv,decide_true,if_true];omega
 ·simp only[hv,decide_false,ZM,if_false];omega
theorem OG(x:Int):(BitVec.ofInt 32 x).msb=decide (2147483648<=x%4294967296):=by
 rw[BitVec.msb_eq_decide,BitVec.toNat_ofInt]
 by_cases h:2147483648<=x%4294967296
 ·simp only[h,decide_true,decide_eq_true_eq];omega
 ·simp only[h,decide_false,decide_eq_false_iff_not];omega
theorem pr{x y c:Nat}(hx:x<4294967296)(hy:y<4294967296)(hc:c<=1) :
  (Zr .or .u32 (Zr .and .u32 (Zr .xor .u32 IntKind.u32.max x) y) (Zr .and .u32 (Zr .xor .u32 IntKind.u32.max (Zr .xor .u32 x y)) (((x:Int)-y-c)%4294967296))).fdiv (2^31)=if x<y+c then 1 else 0:=by
 have hm:BitVec.ofInt 32 IntKind.u32.max=BitVec.allOnes 32:=ww
 simp only[(aW .and _ _).1,(aW .and _ _).2.1,(aW .and _ _).2.2,FF,top32,hm]
 simp only[BitVec.msb_or,BitVec.msb_and,BitVec.msb_xor,OG,BitVec.msb_allOnes (by decide:0<32)]
 by_cases a:(2147483648:Int)<=(x:Int)%4294967296<;>by_cases b:(2147483648:Int)<=(y:Int)%4294967296<;>by_cases d:(2147483648:Int)<=((x:Int)-y-c)%4294967296%4294967296<;>simp[a,b,d]<;>omega
end Go.Ev
namespace Go.Ev
section
variable{T:Tab}
theorem OI{base:Nat}{body:ACode}(I:Nat->St){r:AExit×St}(hr:r.1≠.normal):∀(n i:Nat),(∀j,i<=j->j<i+n->Q0 T base body (I j)=some (.normal,I (j+1)))->Q0 T base body (I (i+n))=some r ->
  Q0 T base (.loop body) (I i)=some r
 |0,i,_,hl=>by
  rw[J6,show i=i+0 from rfl,hl]
  obtain⟨x,s⟩:=r
  cases x with
  |normal=>exact absurd rfl hr
  |exit id=>rfl
  |ret=>rfl
 |n+1,i,hs,hl=>by
  rw[J6,hs i (Qs _) qr]
  exact OI I hr n (i+1) (fun j h1 h2=>hs j qr qr) (by rw[show i+1+n=i+(n+1) by omega];exact hl)
theorem ZR{base id:Nat}{body:ACode}(I:Nat->St){s':St}(n:Nat)(hs:∀j,j<n->Q0 T base body (I j)=some (.normal,I (j+1)))(hl:Q0 T base body (I n)=some (.exit id,s')) :
  Q0 T base (.block id (.loop body)) (I 0)=some (.normal,s'):=by
 rw[Jt,OI (r:=(.exit id,s')) I wd n 0 (fun j _ h=>hs j qr) (by simpa using hl)]
 simp
end
section
variable{T:Tab}
theorem Cz{base:Nat}{body:ACode}{I:Nat->St->Prop}{x:AExit}(hx:x≠.normal){Q:St->Prop}(n:Nat)(hs:∀j s,j<n->I j s->∃s',Q0 T base body s=some (.normal,s')/\I (j+1) s')(hl:∀s,I n s->∃s',Q0 T base body s=some (x,s')/\Q s') :
  ∀(k i:Nat),i+k=n->∀s,I i s->∃s',Q0 T base (.loop body) s=some (x,s')/\Q s'
 |0,i,hi,s,h=>by
  obtain⟨s',h1,h2⟩:=hl s (by rw[<-hi];exact h)
  refine⟨s',?_,h2⟩
  rw[J6,h1]
  cases x with
  |normal=>exact absurd rfl hx
  |exit id=>rfl
  |ret=>rfl
 |k+1,i,hi,s,h=>by
  obtain⟨s1,h1,h2⟩:=hs i s qr h
  obtain⟨s',h3,h4⟩:=Cz hx n hs hl k (i+1) qr s1 h2
  exact⟨s',by rw[J6,h1];exact h3,h4⟩
theorem Zh{base id:Nat}{body:ACode}(I:Nat->St->Prop){Q:St->Prop}(n:Nat){s:St}(h0:I 0 s)(hs:∀j s,j<n->I j s->∃s',Q0 T base body s=some (.normal,s')/\I (j+1) s')(hl:∀s,I n s->∃s',Q0 T base body s=some (.exit id,s')/\Q s') :
  ∃s',Q0 T base (.block id (.loop body)) s=some (.normal,s')/\Q s':=by
 obtain⟨s',h1,h2⟩:=Cz (T:=T) (x := .exit id) wd n hs hl n 0 qr s h0
 exact⟨s',by rw[Jt,h1];simp,h2⟩
end
section
variable{H r:List Ob}{cs v:List Value}{a b:Ob}{e o:Bool}{n s off id i x:Nat}{l:List Nat}
theorem at2{c:Ob}:(H++a::b::c::r)[H.length+2]?=some c:=by simp
theorem vS{x:Ob}:(H++a::b::r).set (H.length+1) x=H++a::x::r:=by simp
theorem Zz{o:Ob}(h:H[id]?=some o)(hl:o.live=true):liveAt H id=some o:=by simp[liveAt,h,hl]
def Row(k:IntKind)(H:List Ob)(id off:Nat)(xs:List Nat):Prop:=∃o,liveAt H id=some o/\∀i x,xs[i]?=some x->o.c[off+i]?=some (.int k (x:Nat))
theorem KF{l:List Ob}{o:Ob}(h:liveAt H id=some o):liveAt (H++l) id=some o:=by
 simp only[liveAt,Qd]at h ⊢
 obtain⟨o',h1,h2⟩:=h
 refine⟨o',?_,h2⟩
 rw[Qc (Qg.1 h1).1]
 exact h1
theorem Row.app{k:IntKind}{H l:List Ob}{id off:Nat}{xs:List Nat}(h:Row k H id off xs):Row k (H++l) id off xs:=by
 obtain⟨o,h1,h2⟩:=h
 exact⟨o,KF h1,h2⟩
theorem Row.load{k:IntKind}{H:List Ob}{id off i x:Nat}{xs:List Nat}{e:Env}{a:Operand}(h:Row k H id off xs)(hi:xs[i]?=some x)(ha:opd e a=some (.pointer (some ⟨id,off+i,none⟩))) :
  Qz H e (.load none a)=some (.int k (x:Nat),H,some [id],[]):=by
 obtain⟨o,h1,h2⟩:=h
 simp[Qz,ha,h1,Jn,h2 i x hi]
theorem B9:liveAt (H++⟨cs,true,o,e,n⟩::r) H.length=some ⟨cs,true,o,e,n⟩:=by simp[liveAt]
theorem OJ:liveAt (H++a::⟨cs,true,o,e,n⟩::r) (H.length+1)=some ⟨cs,true,o,e,n⟩:=by simp[liveAt]
theorem nB:liveAt (H++a::b::⟨cs,true,o,e,n⟩::r) (H.length+2)=some ⟨cs,true,o,e,n⟩:=by simp[liveAt]
def Zc(l:List Nat):List Value:=l.map fun n=>.int .u32 (n:Nat)
def u8s(l:List Nat):List Value:=l.map fun n=>.int .u8 (n:Nat)
theorem Kn(l:List Nat):(Zc l).length=l.length:=by simp[Zc]
theorem Qq(l:List Nat):(u8s l).length=l.length:=by simp[u8s]
theorem YG(l:List Nat)(i n:Nat):(Zc l).set i (.int .u32 (n:Nat))=Zc (l.set i n):=by simp[Zc,uQ]
theorem Xc(l:List Nat)(i n:Nat):(u8s l).set i (.int .u8 (n:Nat))=u8s (l.set i n):=by simp[u8s,uQ]
theorem Ko(h:l[i]?=some x):(Zc l)[i]?=some (.int .u32 (x:Nat)):=by simp[Zc,h]
theorem Js(h:l[i]?=some x):(u8s l)[i]?=some (.int .u8 (x:Nat)):=by simp[u8s,h]
theorem IK(k:IntKind)(n:Int):(Value.int k n).cells.toList=[.int k n]:=rfl
theorem Hn(k:IntKind)(n:Int):(Value.int k n).cells.size=1:=rfl
theorem KP(h:off+v.length<=cs.length):storeAt (H++⟨cs,true,true,e,s⟩::r) ⟨H.length,off,none⟩ v=some (H++⟨splice cs off v,true,true,e,s⟩::r):=by
 simp[storeAt,B9,h]
theorem NI(h:off+v.length<=cs.length):storeAt (H++a::⟨cs,true,true,e,s⟩::r) ⟨H.length+1,off,none⟩ v=some (H++a::⟨splice cs off v,true,true,e,s⟩::r):=by
 simp[storeAt,OJ,h]
theorem NH(h:off+v.length<=cs.length):storeAt (H++a::b::⟨cs,true,true,e,s⟩::r) ⟨H.length+2,off,none⟩ v=some (H++a::b::⟨splice cs off v,true,true,e,s⟩::r):=by
 simp[storeAt,nB,h]
theorem Ux(b o n:Nat):(⟨b,o,none⟩:Addr).add n=⟨b,o+n,none⟩:=by
 unfold Addr.add
 split<;>simp_all
theorem ZB(h:n<9223372036854775808):IntKind.i64.wrap (n:Int)=n:=QU qr qr
theorem Yt(cs:List Value)(off:Nat)(x:Value):splice cs off [x]=cs.set off x:=rfl
theorem Ts(l:List Value):(Value.agg l.toArray).cells.toList=l:=rfl
theorem Ur(l:List Value):(Value.agg l.toArray).cells.size=l.length:=rfl
theorem nlt1(n:Nat):(n+1<n)=False:=by simp
theorem nlt2(n:Nat):(n+2<n)=False:=by simp
theorem nlt3(n:Nat):(n+3<n)=False:=by simp
theorem nlt4(n:Nat):(n+4<n)=False:=by simp
theorem kR(k:IntKind)(n:Int):rf (.int k n)=true:=rfl
theorem D4(k j:IntKind)(a b:Int):rf (.tuple #[.int k a,.int j b])=true:=rfl
theorem br(a b:Value):(#[a,b]:Array Value).toList=[a,b]:=rfl
theorem Row.elems{k:IntKind}{H:List Ob}{id off n c:Nat}{xs:List Nat}(h:Row k H id off xs)(hx:0<xs.length):elemsOf H 1 xs.length (.slice (some ⟨id,off,none⟩) n c)=some (xs.map fun(x:Nat)=>Value.int k x):=by
 obtain⟨o,h1,h2⟩:=h
 have hl:off+xs.length<=o.c.length:=by
  have:=h2 (xs.length-1) _ (Qf qr)
  have:=(Qg.1 this).1
  omega
 simp only[elemsOf,h1,Qp,Yg,Vn,hl,and_self,if_true,Qk]
 apply ZW
 intro i
 rw[QW]
 by_cases hi:i<xs.length
 ·rw[if_pos hi,Zp,h2 i _ (Qf hi),JB,Qf hi];rfl
 ·rw[if_neg hi,QI (by simp;omega)]
theorem Vh(cs:List Value)(off:Nat)(v:List Value)(h:off+v.length<=cs.length):splice cs off v=cs.take off++(v++cs.drop (off+v.length)):=by
 unfold splice
 split
 ·rename_i x
  simp only[Zv,ZT,QL]at h
  rw[List.set_eq_take_append_cons_drop,if_pos qr]
  simp
 ·rfl
theorem Ae{es bytes len cap:Nat}{new:List Value}{x:Value}(hl:lenV x=some n)(hx:elemsOf (H++⟨cs,true,true,true,es⟩::r) es n x=some new)(hn:0<n)(hc:len+n<=cap)(hb:(len+n)*bytes<=2^47)(hb0:0<bytes)(he:0<es)(hf:len*es+new.length<=cs.length) :
  Jw es bytes (H++⟨cs,true,true,true,es⟩::r) (.slice H.length len cap) x=some (.slice H.length (len+n) cap,H++⟨splice cs (len*es) new,true,true,true,es⟩::r,none,[H.length]):=by
 have h1:¬n=0:=qr
 have h2:0+len*es<=cs.length:=qr
 have h3:(len+n)*bytes<=2^47/\0<bytes/\0<es:=⟨hb,hb0,he⟩
 have hold:elemsOf (H++⟨cs,true,true,true,es⟩::r) es len (.slice H.length len cap)=some ((cs.drop 0).take (len*es)):=by
  simp only[elemsOf,B9,Qp,Yg,h2,and_self,if_true]
 simp only[Jw,hl,hx,Qp,if_neg h1,h3,and_self,not_true_eq_false,if_false,B9,hold,if_true,hc,Ux,QL,KP hf]
end
end Go.Ev
namespace Go.Ev
variable{B x v i n id:Nat}{l:List Nat}{H H':List Ob}
def num(B:Nat):List Nat->Nat
 |[]=>0
 |x::r=>x+B*num B r
def dig(B n v:Nat):List Nat:=(ZH n).map fun i=>v/B^i%B
theorem Zg(B n v:Nat):(dig B n v).length=n:=by simp[dig]
theorem XX(h:i<n):(dig B n v)[i]?=some (v/B^i%B):=by simp[dig,h]
theorem Vy(hB:0<B)(h:x∈dig B n v):x<B:=by
 simp only[dig,Xo]at h
 obtain⟨i,_,rfl⟩:=h
 exact Q9 _ hB
theorem HY{n:Nat}(hl:l.length=n)(h:∀i,i<n->l[i]?=some (v/B^i%B)):l=dig B n v:=by
 apply ZW
 intro i
 by_cases hi:i<n
 ·rw[h i hi,XX hi]
 ·rw[QI qr,QI (by rw[Zg];omega)]
theorem num_lt{B:Nat}:∀ {l:List Nat},(∀x∈l,x<B)->num B l<B^l.length
 |[],_=>by simp[num]
 |x::r,h=>by
  have h1:x<B:=h x wd
  have h2:=num_lt (l:=r) fun y hy=>h y (by simp[hy])
  simp only[num,Zv,Zj]
  have h3:B*(num B r+1)<=B*B^r.length:=XR _ h2
  rw[YE,Vn]at h3
  rw[Zm (B^r.length) B]
  omega
theorem Vj(B:Nat):∀(a b:List Nat),num B (a++b)=num B a+B^a.length*num B b
 |[],b=>by simp[num]
 |x::r,b=>by
  simp only[num,Qn,Vj B r b,Zv,Zj,YE]
  rw[<-ZD,Zm B (B^r.length)]
  omega
theorem Xa{j:Nat}(h:l[j]?=some x):num B (l.take (j+1))=num B (l.take j)+x*B^j:=by
 have hj:j<l.length:=(Qg.1 h).1
 rw[List.take_add_one,h,Vj]
 simp[num,Zw (Nat.le_of_lt hj),Zm]
theorem Kv{B:Nat}(hB:0<B):∀ {l:List Nat} {i x:Nat},(∀x∈l,x<B)->l[i]?=some x->num B l/B^i%B=x
 |[],i,x,_,h=>by simp at h
 |y::r,0,x,hl,h=>by
  simp at h;subst h
  have:=hl y wd
  simp only[num,ZN,J1,Nat.add_mul_mod_self_left]
  exact Qv this
 |y::r,i+1,x,hl,h=>by
  have:=hl y wd
  simp only[num,Zj,Zm (B^i) B]
  rw[<-QV,Nat.add_mul_div_left _ _ hB,JK this,QL]
  exact Kv hB (fun z hz=>hl z (by simp[hz])) (by simpa using h)
theorem WD(hB:0<B)(h:∀x∈l,x<B):dig B l.length (num B l)=l:=by
 symm
 exact HY rfl fun i hi=>by rw[Kv hB h (Qf hi)];exact Qf hi
theorem oV(B n v:Nat):dig B (n+1) v=v%B::dig B n (v/B):=by
 simp only[dig,List.range_succ_eq_map,JC,R2,ZN,J1]
 congr 1
 apply List.map_congr_left
 intro i _
 simp only[Function.comp,Nat.succ_eq_add_one,Zj,QV,Zm (B^i) B]
theorem XJ{B:Nat}(hB:0<B):∀(n v:Nat),num B (dig B n v)=v%B^n
 |0,v=>by simp[dig,num,Nat.mod_one]
 |n+1,v=>by
  rw[oV,num,XJ hB n,Zj,Zm (B^n) B,Nat.mod_mul]
theorem V6{B:Nat}:∀ {l:List Nat} {i x:Nat} (y:Nat),l[i]?=some x->num B (l.set i y)+x*B^i=num B l+y*B^i
 |[],i,x,y,h=>by simp at h
 |z::r,0,x,y,h=>by
  simp at h;subst h
  simp only[List.set_cons_zero,num,ZN]
  omega
 |z::r,i+1,x,y,h=>by
  have:=V6 (B:=B) (l:=r) (i:=i) y (by simpa using h)
  simp only[Yi,num,Zj]
  have e:B*(num B (r.set i y)+x*B^i)=B*(num B r+y*B^i):=by rw[this]
  rw[YE,YE]at e
  rw[show x*(B^i*B)=B*(x*B^i) by simp only[ZD,JM,Zm],show y*(B^i*B)=B*(y*B^i) by simp only[ZD,JM,Zm]]
  omega
theorem VH{y:Nat}(h:∀x∈l,x<B)(hy:y<B):∀x∈l.set i y,x<B:=by
 intro x hx
 rcases KX hx with h1|h1
 ·exact h x h1
 ·rw[h1];exact hy
theorem oW{m j N:Nat}(hj:j/4<m)(hN:N<256^j)(hx:x<256) :
  (dig 4294967296 m N).set (j/4) ((dig 4294967296 m N).getD (j/4) 0|||x*2^(8*(j%4)))=dig 4294967296 m (N+x*256^j):=by
 have e256:(256:Nat)=2^8:=rfl
 have eW:(4294967296:Nat)=2^32:=rfl
 have hpow:(256:Nat)^j=2^(8*(j%4))*4294967296^(j/4):=by
  rw[e256,eW,<-Je,<-Je,<-JI]
  congr 1;omega
 have hWq:0<4294967296^(j/4):=JT ww
 have hdiv:N/4294967296^(j/4)<2^(8*(j%4)):=by
  rw[Nat.div_lt_iff_lt_mul hWq,<-hpow];exact hN
 have h24:(2:Nat)^(8*(j%4))<=2^24:=Zo ww qr
 have hx24:(x+1)*2^(8*(j%4))<=256*2^24:=Xe qr h24
 rw[Zl,Xd]at hx24
 have hsum:N/4294967296^(j/4)+x*2^(8*(j%4))<4294967296:=by show _<4294967296;omega
 apply HY (by rw[List.length_set,Zg])
 intro i hi
 by_cases hq:i=j/4
 ·subst hq
  rw[List.getElem?_set_self (by rw[Zg];exact hi),QD,XX hi]
  rw[hpow,<-ZD,U0 _ _ hWq]
  simp only[X6]
  rw[Qv (a:=N/_) qr,Qv hsum,Xu,Zm x,Nat.two_pow_add_eq_or_of_lt hdiv,Nat.or_comm]
 ·rw[Qu (Ne.symm hq),XX hi]
  congr 1
  by_cases hlt:i<j/4
  ·have:4294967296^(j/4)=4294967296*4294967296^(j/4-i-1)*4294967296^i:=by
    rw[ZD,<-JI,<-Nat.pow_add_one'];congr 1;omega
   rw[hpow,this]
   rw[show x*(2^(8*(j%4))*(4294967296*4294967296^(j/4-i-1)*4294967296^i))=(x*2^(8*(j%4))*4294967296^(j/4-i-1)*4294967296)*4294967296^i by simp only[ZD,JM,Zm]]
   rw[U0 _ _ (JT ww),KJ]
  ·have hle:4294967296^(j/4+1)<=4294967296^i:=Zo ww qr
   have h1:N+x*256^j<4294967296^i:=by
    refine QM ?_ hle
    have:(256:Nat)^(j+1)<=4294967296^(j/4+1):=by
     rw[e256,eW,<-Je,<-Je];exact Zo ww qr
    refine QM ?_ this
    rw[Zj]
    have:x*256^j<=255*256^j:=Z9 _ qr
    omega
   rw[JK h1,JK qr]
def ns(k:IntKind)(l:List Nat):List Value:=l.map fun n=>.int k (n:Nat)
theorem Q8(k:IntKind)(l:List Nat):(ns k l).length=l.length:=by simp[ns]
theorem Xt(k:IntKind)(l:List Nat)(i n:Nat):(ns k l).set i (.int k (n:Nat))=ns k (l.set i n):=by simp[ns,uQ]
theorem ZJ{k:IntKind}(h:l[i]?=some x):(ns k l)[i]?=some (.int k (x:Nat)):=by simp[ns,h]
theorem HQ(k:IntKind)(a b:List Nat):ns k (a++b)=ns k a++ns k b:=by simp[ns]
theorem I2{o:Ob}(h:liveAt H id=some o):id<H.length:=by
 simp only[liveAt,Qd]at h
 obtain⟨o',h1,_⟩:=h
 exact(Qg.1 h1).1
theorem Gc(h:H'[id]?=H[id]?):liveAt H' id=liveAt H id:=by simp only[liveAt,h]
inductive Sl(k:IntKind)(H:List Ob):Value->List Nat->Prop
 |nil:Sl k H (.slice none 0 0) []
 |mk {id off c:Nat} {o:Ob} {l:List Nat}:liveAt H id=some o->off+l.length<=o.c.length->(∀(i x:Nat),l[i]?=some x->o.c[off+i]?=some (.int k (x:Nat)))->Sl k H (.slice (some ⟨id,off,none⟩) l.length c) l
theorem Sl.row{k:IntKind}{H:List Ob}{v:Value}{l:List Nat}(h:Sl k H v l)(hl:0<l.length):∃id off c,v=.slice (some ⟨id,off,none⟩) l.length c/\Row k H id off l:=by
 cases h with
 |nil=>simp at hl
 |mk h1 h2 h3=>exact⟨_,_,_,rfl,_,h1,h3⟩
theorem Sl.congr{k:IntKind}{H H':List Ob}{v:Value}{l:List Nat}(h:Sl k H v l)(hH:∀id,id<H.length->H'[id]?=H[id]?):Sl k H' v l:=by
 cases h with
 |nil=>exact .nil
 |mk h1 h2 h3=>exact .mk (by rw[Gc (hH _ (I2 h1))];exact h1) h2 h3
theorem Sl.app{k:IntKind}{H l':List Ob}{v:Value}{l:List Nat}(h:Sl k H v l):Sl k (H++l') v l :=
 h.congr fun id hid=>Qc hid
theorem Sl.lenV{k:IntKind}{H:List Ob}{v:Value}{l:List Nat}(h:Sl k H v l):lenV v=some l.length:=by
 cases h<;>rfl
theorem Sl.elems{k:IntKind}{H:List Ob}{v:Value}{l:List Nat}(h:Sl k H v l):elemsOf H 1 l.length v=some (ns k l):=by
 cases h with
 |nil=>rfl
 |mk h1 h2 h3 =>
  simp only[elemsOf,h1,Qp,Yg,Vn,h2,and_self,if_true,Qk]
  apply ZW
  intro i
  rw[QW]
  by_cases hi:i<l.length
  ·rw[if_pos hi,Zp,h3 i _ (Qf hi),ZJ (Qf hi)]
  ·rw[if_neg hi,QI (by rw[Q8];omega)]
inductive Grown(k:IntKind)(B:Nat)(H:List Ob):Value->List Nat->Prop
 |nil:Grown k B H (.slice none 0 0) []
 |own {id:Nat} {bs:List Nat}:B<=id->0<bs.length->H[id]?=some (Ob.grown 1 (ns k bs))->Grown k B H (.slice id bs.length bs.length) bs
 |new {id:Nat} {bs:List Nat}:B<=id->0<bs.length->H[id]?=some (Ob.fresh (ns k bs))->Grown k B H (.slice id bs.length bs.length) bs
theorem Grown.sl{k:IntKind}{B:Nat}{H:List Ob}{v:Value}{l:List Nat}(h:Grown k B H v l):Sl k H v l:=by
 cases h with
 |nil=>exact .nil
 |own h1 h2 h3=>exact .mk (Zz h3 rfl) (by simp[Ob.grown,Q8]) (fun i x hx=>by rw[QL];exact ZJ hx)
 |new h1 h2 h3=>exact .mk (Zz h3 rfl) (by simp[Ob.fresh,Q8]) (fun i x hx=>by rw[QL];exact ZJ hx)
theorem Grown.app{k:IntKind}{B:Nat}{H l':List Ob}{v:Value}{l:List Nat}(h:Grown k B H v l):Grown k B (H++l') v l:=by
 cases h with
 |nil=>exact .nil
 |own h1 h2 h3=>exact .own h1 h2 (by rw[Qc (Qg.1 h3).1];exact h3)
 |new h1 h2 h3=>exact .new h1 h2 (by rw[Qc (Qg.1 h3).1];exact h3)
theorem Grown.append{k:IntKind}{B bytes:Nat}{H:List Ob}{s x:Value}{bs new:List Nat}(h:Grown k B H s bs)(hB:B<=H.length)(hl:Go.Ev.lenV x=some new.length)(he:elemsOf H 1 new.length x=some (ns k new))(hb:(bs.length+new.length)*bytes<=2^47)(hb0:0<bytes) :
  ∃s' H' M,Jw 1 bytes H s x=some (s',H',none,M)/\Grown k B H' s' (bs++new)/\(∀i∈M,B<=i)/\H.length<=H'.length/\∀i,i<B->H'[i]?=H[i]? := by
 rcases Jo new.length with hn|hn
 ·have:new=[]:=J7 hn
  subst this
  rw[QG]
  refine⟨s,H,[],?_,h,by simp,Qs _,fun _ _=>rfl⟩
  rw[ZT]at hl he
  cases h<;>simp only[Jw,hl,he,Qp,if_true]
 ·cases h with
  |nil =>
   refine⟨.slice H.length new.length new.length,H++[Ob.grown 1 (ns k new)],[],?_,?_,by simp,by simp,?_⟩
   ·have h1:¬new.length=0:=qr
    have h2:(0+new.length)*bytes<=2^47/\0<bytes/\0<1:=⟨by simpa using hb,hb0,by decide⟩
    simp only[Jw,hl,he,Qp,if_neg h1,h2,and_self,not_true_eq_false,if_false,if_true]
   ·rw[Ql]
    exact .own hB hn wd
   ·intro i hi
    rw[Qc qr]
  |@own id0 _ h1 h2 h3 =>
   refine⟨.slice H.length (bs.length+new.length) (bs.length+new.length),(H.set id0 Ob.dead)++[Ob.grown 1 (ns k (bs++new))],[id0],?_,?_,by simpa using h1,by simp,?_⟩
   ·have h4:liveAt H id0=some (Ob.grown 1 (ns k bs)):=Zz h3 rfl
    have h5:¬new.length=0:=qr
    have h6:(bs.length+new.length)*bytes<=2^47/\0<bytes/\0<1:=⟨hb,hb0,by decide⟩
    have h7:¬(bs.length+new.length<=bs.length):=qr
    have h8:elemsOf H 1 bs.length (.slice id0 bs.length bs.length)=some (ns k bs):=(Grown.own h1 h2 h3).sl.elems
    simp only[Jw,hl,he,Qp,if_neg h5,h6,and_self,not_true_eq_false,if_false,if_true,h4,h8]
    simp only[Ob.grown,not_true_eq_false,if_false,if_neg h7,ZM,Qs,if_true,<-HQ]
   ·have:=Grown.own (k:=k) (B:=B) (H:=(H.set id0 Ob.dead)++[Ob.grown 1 (ns k (bs++new))]) (id:=H.length) (bs:=bs++new) hB (by simp;omega) wd
    rwa[Qj]at this
   ·intro i hi
    rw[Qc (by simp;have:=(Qg.1 h3).1;omega),Qu qr]
  |@new id0 _ h1 h2 h3 =>
   refine⟨.slice H.length (bs.length+new.length) (bs.length+new.length),H++[Ob.grown 1 (ns k (bs++new))],[],?_,?_,by simp,by simp,?_⟩
   ·have h4:liveAt H id0=some (Ob.fresh (ns k bs)):=Zz h3 rfl
    have h5:¬new.length=0:=qr
    have h6:(bs.length+new.length)*bytes<=2^47/\0<bytes/\0<1:=⟨hb,hb0,by decide⟩
    have h7:¬(bs.length+new.length<=bs.length):=qr
    have h8:elemsOf H 1 bs.length (.slice id0 bs.length bs.length)=some (ns k bs):=(Grown.new h1 h2 h3).sl.elems
    simp only[Jw,hl,he,Qp,if_neg h5,h6,and_self,not_true_eq_false,if_false,if_true,h4,h8]
    simp only[Ob.fresh,not_true_eq_false,if_false,if_neg h7,ZM,Qs,if_true,<-HQ]
   ·have:=Grown.own (k:=k) (B:=B) (H:=H++[Ob.grown 1 (ns k (bs++new))]) (id:=H.length) (bs:=bs++new) hB (by simp;omega) wd
    rwa[Qj]at this
   ·intro i hi
    rw[Qc qr]
theorem XG{H:List Ob}(h1:H.length<=H'.length)(h2:∀i,i<H.length->H'[i]?=H[i]?):∃l,H'=H++l:=by
 refine⟨H'.drop H.length,?_⟩
 apply ZW
 intro i
 by_cases hi:i<H.length
 ·rw[Qc hi,h2 i hi]
 ·rw[Qh qr,Zp]
  congr 1;omega
theorem QB{base:Nat}:∀ {log M:List Nat},(∀i∈M,base<=i)->Q1 base log M=log
 |log,[],_=>rfl
 |log,i::r,h=>by
  have h1:¬i<base:=by have:=h i wd;omega
  simp only[Q1,h1,false_and,if_false]
  exact QB fun j hj=>h j (by simp[hj])
end Go.Ev

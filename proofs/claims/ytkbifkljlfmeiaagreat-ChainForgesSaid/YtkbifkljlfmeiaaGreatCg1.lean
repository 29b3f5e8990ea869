/- What the law leans on, part 1. -/
import Derived.Orders
import Derived.KernelRfl
import Derived.Below
import Derived.ChangeKeysEq
import Derived.Laws.Append
import Derived.Laws.BytesString
import Derived.LoopN
import Derived.ProofKit
set_option linter.unusedSimpArgs false
set_option linter.unusedVariables false
set_option linter.defProp false
theorem qr{p:Prop}(h:p:=by omega):p:=h
theorem ww{p:Prop}(h:p:=by decide):p:=h
theorem wd{p:Prop}(h:p:=by simp):p:=h
theorem wr{p:Prop}(h:p:=by omega):p=True:=eq_true h
theorem ut{p:Prop}(h:¬p:=by omega):p=False:=eq_false h
instance:Coe Nat (Option Go.Addr):=⟨fun b=>some ⟨b,0,none⟩⟩
open Array renaming ext_getElem? -> VB, getD_eq_getD_getElem? -> Jo, getElem?_eq_getElem -> ZL, getElem?_eq_none -> YU, getElem?_modify -> KM, getElem?_push -> Eh, getElem?_setIfInBounds -> Xp, getElem?_toList -> ZQ, length_toList -> Eg, range -> GS, replicate -> Y2, toList_append -> XV, toList_inj -> Ji, toList_map -> Wy
open Bool renaming and_eq_true -> Jd, false_eq_true -> Z6, not_false -> YT, or_eq_true -> Y1, true_and -> Em
open List renaming all_cons -> KC, all_eq_true -> ZX, append_nil -> QF, cons_append -> Qp, drop_drop -> Kp, drop_eq_getElem_cons -> J4, drop_succ_cons -> CZ, drop_zero -> Jt, eq_nil_of_length_eq_zero -> ZU, ext_getElem? -> ZE, flatten_cons -> QO, foldl_cons -> XK, getD_eq_getElem?_getD -> Qy, getElem?_append -> WW, getElem?_append_left -> Qb, getElem?_append_right -> Qd, getElem?_cons_succ -> JI, getElem?_cons_zero -> JV, getElem?_drop -> Zf, getElem?_eq_getElem -> Qg, getElem?_eq_none -> QE, getElem?_eq_some_iff -> Qf, getElem?_map -> J5, getElem?_of_mem -> Xe, getElem?_range -> Yp, getElem?_set -> Ky, getElem?_set_ne -> Ql, getElem?_take -> QN, getElem?_toArray -> VJ, getElem_mem -> Xq, length_append -> Qh, length_cons -> Zt, length_nil -> Z9, length_singleton -> R6, length_take -> Q0, mapM_cons -> Tj, map_cons -> J9, map_map -> UR, map_nil -> Xj, map_set -> vQ, map_toArray -> Pn, mem_append -> QB, mem_cons -> J8, mem_filter -> MH, mem_map -> JN, mem_of_getElem? -> Qw, mem_of_mem_drop -> Zq, mem_of_mem_take -> QG, mem_or_eq_of_mem_set -> J3, mem_range -> YS, nil_append -> Qn, range -> Jn, range' -> Vv, replicate -> Qc, replicate_succ -> Xr, set_cons_succ -> YB, take_length -> Yn
open Nat renaming add_assoc -> QV, add_comm -> Xu, add_mul -> Zl, add_mul_div_right -> Wu, add_mul_mod_self_right -> KJ, add_zero -> ZM, div_div_eq_div_mul -> Zc, div_eq_of_lt -> Xk, div_one -> JQ, eq_zero_or_pos -> ZP, le_refl -> Qj, le_trans -> JG, lt_of_lt_of_le -> QJ, lt_or_ge -> ZA, min_eq_left -> Zg, mod_eq_of_lt -> Q6, mod_lt -> Q3, mul_add -> VW, mul_assoc -> ZI, mul_comm -> Zw, mul_le_mul -> Xc, mul_le_mul_left -> XU, mul_le_mul_right -> ZG, mul_left_comm -> Xb, mul_one -> Xy, one_mul -> Xa, pow_add -> JU, pow_le_pow_right -> Zy, pow_mul -> Jj, pow_pos -> Xi, pow_succ -> Zn, pow_zero -> Jg, strongRecOn -> MG, testBit_or -> Tg, zero_add -> QH, zero_le -> Xx
open Option renaming bind_eq_bind -> XE, bind_eq_some_iff -> Qe, bind_some -> Qk, getD_some -> X8, isNone_none -> V7, isSome_none -> KH, isSome_some -> Bc, map_eq_some_iff -> QI, map_some -> Y0
open Option.some renaming inj -> JJ, injEq -> Qm
namespace Go.Ev
structure Ob where
 c:List Value
 live:Bool:=true
 own:Bool:=true
 exact:Bool:=true
 es:Nat:=1
 deriving Inhabited
def Ob.fresh(cells:List Value):Ob:={c:=cells}
def Ob.grown(es:Nat)(cells:List Value):Ob:=⟨cells,true,true,false,es⟩
def Ob.dead:Ob:=⟨[],false,false,true,1⟩
abbrev Env:=List (Nat×Value)
def Env.get(e:Env)(t:Nat):Option Value :=
 match e with
 |[]=>none
 |(u,v)::r=>if t=u then some v else Env.get r t
def Env.keep(e:Env):List Nat->Env
 |[]=>[]
 |t::r=>match e.get t with
  |some v=>(t,v)::Env.keep e r
  |none=>Env.keep e r
def opd(e:Env):Operand->Option Value
 |.tmp t=>e.get t
 |.const v=>some v
 |.global _=>none
 |.func f=>some (.func (.func f) #[] #[])
def Xf(e:Env):List Operand->Option (List Value)
 |[]=>some []
 |x::r=>(opd e x).bind fun v=>(Xf e r).bind fun vs=>some (v::vs)
def ZR(e:Env):Option Operand->Option (Option Value)
 |none=>some none
 |some x=>(opd e x).bind fun v=>some (some v)
def Z5(e:Env):List (Nat×Nat×Operand)->Option (List (Nat×Nat×Value))
 |[]=>some []
 |(o,n,x)::r=>(opd e x).bind fun v=>(Z5 e r).bind fun vs=>some ((o,n,v)::vs)
inductive AOp where
 |move (x:Operand)
 |pick (c a b:Operand)
 |alloc (zero:List Value)
 |box (x:Operand)
 |load (n:Option Nat) (a:Operand)
 |store (n:Nat) (a v:Operand)
 |bin (op:BinOp) (x y:Operand)
 |eqv (ks:Option (List Bool)) (neg:Bool) (x y:Operand)
 |isNil (k:Nat) (neg:Bool) (x:Operand)
 |un (op:UnOp) (x:Operand)
 |conv (k:IntKind) (x:Operand)
 |convStr (x:Operand)
 |convSl (x:Operand)
 |s2b (x:Operand)
 |b2s (x:Operand)
 |field (n:Option Nat) (off:Nat) (x:Operand)
 |index (n:Option Nat) (len es:Nat) (x i:Operand)
 |indexStr (x i:Operand)
 |build (zero:List Value) (parts:List (Nat×Nat×Operand))
 |buildSlice (cells:List Value) (len:Nat) (parts:List (Nat×Nat×Operand))
 |fieldAddr (off:Nat) (x:Operand)
 |indexAddr (len es:Nat) (x i:Operand)
 |indexSl (es:Nat) (x i:Operand)
 |sliceArr (n es:Nat) (x:Operand) (lo hi mx:Option Operand)
 |sliceSl (es:Nat) (x:Operand) (lo hi mx:Option Operand)
 |sliceStr (x:Operand) (lo hi:Option Operand)
 |makeSlice (zero:List Value) (bytes:Nat) (l c:Operand)
 |extract (x:Operand) (i:Nat)
 |mkIface (t:TypeId) (x:Operand)
 |mkFunc (fn:Fn) (first captured:List Operand)
 |nilCheck (x:Operand)
 |s2ap (n:Nat) (x:Operand)
 |call (f:FuncId) (args:List Operand) (byVal:Bool)
 |callv (f:Operand) (args:List Operand)
 |append (es bytes:Nat) (s x:Operand)
 |copy (es:Nat) (d s:Operand)
 |clear (zero:List Value) (x:Operand)
 |len (str:Bool) (x:Operand)
 |minmax (max:Bool) (x y:Operand)
 deriving Inhabited
structure AOper where
 dst:Option Nat
 op:AOp
 guard:Option (Nat×Bool)
 deriving Inhabited
inductive ACode where
 |skip
 |region (ops:List AOper) (keep:Option (List Nat)) (pairs:List (Nat×Nat))
 |seq (a b:ACode)
 |cond (c:Operand) (thn els:ACode)
 |block (id:Nat) (body:ACode)
 |loop (body:ACode)
 |exit (id:Nat)
 |ret
 deriving Inhabited
structure AFun where
 body:ACode
 results:List (Nat×Option (Option Nat))
 deriving Inhabited
inductive AExit where
 |normal|exit (id:Nat)|ret
 deriving DecidableEq,Inhabited
def ZD:Value->Bool
 |.bool _ | .int _ _ | .float _ _ | .complex _ _ _ | .string _ | .pointer none | .nilFunc | .nilIface | .map none | .chan none=>true
 |.slice none n m=>n==0&&m==0
 |.func (.func _) f c=>f.isEmpty&&c.isEmpty
 |_=>false
def Wv(v:Value):Bool:=match v with
 |.agg cs=>cs.toList.all ZD
 |v=>ZD v
def rf:Value->Bool
 |.tuple vs=>vs.toList.all Wv
 |v=>Wv v
def oneCellB:Value->Bool
 |.agg _ | .tuple _=>false
 |_=>true
def Z3(op:BinOp)(k:IntKind)(x y:Int):Int :=
 let a:=BitVec.ofInt k.bits x
 let b:=BitVec.ofInt k.bits y
 match op with
 |.and=>k.wrap (a&&&b).toNat
 |.or=>k.wrap (a|||b).toNat
 |.xor=>k.wrap (a^^^b).toNat
 |_=>k.wrap (a &&& ~~~b).toNat
def Je(op:BinOp)(k:IntKind)(a b:Int):Option Value :=
 match op with
 |.add=>some (.int k (k.wrap (a+b)))
 |.sub=>some (.int k (k.wrap (a-b)))
 |.mul=>some (.int k (k.wrap (a*b)))
 |.quo=>if b=0 then none else some (.int k (k.wrap (a.tdiv b)))
 |.rem=>if b=0 then none else some (.int k (a.tmod b))
 |.and=>some (.int k (Z3 .and k a b))
 |.or=>some (.int k (Z3 .or k a b))
 |.xor=>some (.int k (Z3 .xor k a b))
 |.andNot=>some (.int k (Z3 .andNot k a b))
 |.eql=>some (.bool (a==b))
 |.neq=>some (.bool (a != b))
 |.lss=>some (.bool (a<b))
 |.leq=>some (.bool (a<=b))
 |.gtr=>some (.bool (a>b))
 |.geq=>some (.bool (a≥b))
 |_=>none
def Jb(op:BinOp)(k:IntKind)(x:Int)(y:Int):Option Value :=
 if y<0 then none else
 match op with
 |.shl=>some (.int k (k.wrap (x*2^(min y.toNat k.bits))))
 |.shr=>some (.int k (x.fdiv (2^(min y.toNat k.bits))))
 |_=>none
def PB(op:BinOp)(a b:ByteArray):Option Value :=
 match op with
 |.add=>if a.size+b.size<=2^47 then some (.string (a++b))else none
 |.eql=>some (.bool (a.toList==b.toList))
 |.neq=>some (.bool !(a.toList==b.toList))
 |_=>none
def JC(op:BinOp)(x y:Value):Option Value :=
 match x,y with
 |.int k a,.int E b =>
  match op with
  |.shl | .shr=>Jb op k a b
  |_=>if k=E then Je op k a b else none
 |.string a,.string b=>PB op a b
 |_,_=>none
def BN:Bool->Value->Value->Option Bool
 |true,.int k a,.int E b=>if k=E then some (a==b)else none
 |false,.bool a,.bool b=>some (a==b)
 |_,_,_=>none
def JK:List Bool->List Value->List Value->Option Bool
 |[],[],[]=>some true
 |k::ks,a::as,b::bs=>(BN k a b).bind fun r=>(JK ks as bs).bind fun s=>some (r&&s)
 |_,_,_=>none
def unV(op:UnOp)(x:Value):Option Value :=
 match op,x with
 |.neg,.int k n=>some (.int k (k.wrap (0-n)))
 |.xor,.int k n=>some (.int k (Z3 .xor k (if k.signed then -1 else k.max) n))
 |.not,.bool b=>some (.bool !b)
 |_,_=>none
def Ys(k:Nat)(v:Value):Option Bool :=
 match k,v with
 |0,.pointer a=>some a.isNone
 |1,.slice a _ _=>some a.isNone
 |2,.nilFunc=>some true
 |2,.func _ _ _=>some false
 |3,.nilIface=>some true
 |3,.iface _ _=>some false
 |4,.map a=>some a.isNone
 |_,_=>none
def Jq(n:Option Nat)(cs:List Value)(off:Nat):Option Value :=
 match n with
 |none=>cs[off]?
 |some n=>if off+n<=cs.length then some (.agg ((cs.drop off).take n).toArray)else none
def splice(cs:List Value)(off:Nat)(v:List Value):List Value :=
 match v with
 |[x]=>cs.set off x
 |_=>cs.take off++(v++cs.drop (off+v.length))
def okVar:Value->Bool
 |.tuple _=>false
 |_=>true
def fillL(cs:List Value):List (Nat×Nat×Value)->Option (List Value)
 |[]=>some cs
 |(off,n,v)::r=>if v.cells.size=n/\off+n<=cs.length/\okVar v=true then fillL (splice cs off v.cells.toList) r else none
def Kt(x:Option Value)(y:Nat)(E:Nat):Option Nat :=
 match x with
 |none=>some E
 |some (.int _ i)=>if 0<=i/\i<=y then some i.toNat else none
 |some _=>none
def Jc(len cap:Nat)(lo hi mx:Option Value):Option (Nat×Nat×Nat) :=
 (Kt mx cap cap).bind fun m=>(Kt hi m len).bind fun h=>(Kt lo h 0).bind fun l =>
  if mx.isSome&&hi.isNone then none else some (l,h,m)
def liveAt(H:List Ob)(id:Nat):Option Ob:=(H[id]?).bind fun o=>if o.live then some o else none
def elemsOf(H:List Ob)(es n:Nat):Value->Option (List Value)
 |.slice none _ _=>some []
 |.slice (some a) _ _=>(liveAt H a.block).bind fun o =>
   if a.spot.isNone/\a.off+n*es<=o.c.length then some ((o.c.drop a.off).take (n*es))else none
 |.string s=>if es=1 then some ((s.data.toList.take n).map fun b=>.int .u8 b.toNat)else none
 |_=>none
def lenV:Value->Option Nat
 |.slice _ n _=>some n
 |.string s=>some s.size
 |_=>none
def VP:Value->List Nat
 |.slice (some a) _ _=>[a.block]
 |.pointer (some a)=>[a.block]
 |_=>[]
abbrev Step:=Option (Value×List Ob×Option (List Nat)×List Nat)
def Jm(H:List Ob)(v:Option Value):Step:=v.bind fun v=>some (v,H,some [],[])
def XS:List Value->Option (List UInt8)
 |[]=>some []
 |.int .u8 n::r=>(XS r).bind fun l=>some (UInt8.ofNat n.toNat::l)
 |_=>none
def storeAt(H:List Ob)(a:Addr)(v:List Value):Option (List Ob) :=
 (liveAt H a.block).bind fun o =>
  if o.own/\a.spot.isNone/\a.off+v.length<=o.c.length then some (H.set a.block { o with c:=splice o.c a.off v })else none
def ZV(es bytes:Nat)(H:List Ob)(s x:Value):Step :=
 match s with
 |.slice base len cap =>
  (lenV x).bind fun n=>(elemsOf H es n x).bind fun new =>
   if n=0 then some (s,H,none,[])
   else if ¬((len+n)*bytes<=2^47/\0<bytes/\0<es)then none
   else match base with
   |none=>if len=0/\cap=0 then some (.slice H.length n n,H++[Ob.grown es new],none,[])else none
   |some a =>
    (liveAt H a.block).bind fun o=>(elemsOf H es len s).bind fun E =>
    if ¬o.own then none
    else if len+n<=cap then
     (storeAt H (a.add (len*es)) new).bind fun H'=>some (.slice (some a) (len+n) cap,H',none,[a.block])
    else if o.exact then some (.slice H.length (len+n) (len+n),H++[Ob.grown es (E++new)],none,[])
    else if es<=o.es then some (.slice H.length (len+n) (len+n),(H.set a.block Ob.dead)++[Ob.grown es (E++new)],none,[a.block])
    else none
 |_=>none
def Q2(H:List Ob)(e:Env):AOp->Step
 |.move x=>Jm H (opd e x)
 |.pick c a b=>Jm H ((opd e c).bind fun c=>(opd e a).bind fun a=>(opd e b).bind fun b=>match c with | .bool t=>some (if t then a else b)|_=>none)
 |.alloc zero=>some (.pointer H.length,H++[Ob.fresh zero],some [],[])
 |.box x=>(opd e x).bind fun v=>if okVar v then some (.pointer H.length,H++[Ob.fresh v.cells.toList],some [],[])else none
 |.load n a=>(opd e a).bind fun v=>match v with
  |.pointer (some a)=>(liveAt H a.block).bind fun o=>if a.spot.isNone then(Jq n o.c a.off).bind fun v=>some (v,H,some [a.block],[])else none
  |_=>none
 |.store n a v=>(opd e a).bind fun J=>(opd e v).bind fun v=>match J with
  |.pointer (some a)=>if v.cells.size=n/\okVar v=true then(storeAt H a v.cells.toList).bind fun H'=>some (undef,H',some [a.block],[a.block])else none
  |_=>none
 |.bin op x y=>Jm H ((opd e x).bind fun x=>(opd e y).bind fun y=>JC op x y)
 |.eqv n neg x y=>Jm H ((opd e x).bind fun x=>(opd e y).bind fun y=>(match n,x,y with
  |some ks,.agg a,.agg b=>JK ks a.toList b.toList
  |none,.bool a,.bool b=>some (a==b)
  |_,_,_=>none).bind fun b=>some (.bool (if neg then !b else b)))
 |.isNil k neg x=>Jm H ((opd e x).bind fun x=>(Ys k x).bind fun b=>some (.bool (if neg then !b else b)))
 |.un op x=>Jm H ((opd e x).bind fun x=>unV op x)
 |.conv k x=>Jm H ((opd e x).bind fun x=>match x with | .int _ n=>some (.int k (k.wrap n))|_=>none)
 |.convStr x=>Jm H ((opd e x).bind fun x=>match x with | .string s=>some (.string s)|_=>none)
 |.convSl x=>(opd e x).bind fun x=>match x with
  |.slice (some a) n c=>(liveAt H a.block).bind fun o=>if o.own=true/\a.spot.isNone=true then some (.slice (some a) n c,H,some [a.block],[])else none
  |_=>none
 |.s2b x=>(opd e x).bind fun x=>match x with
  |.string s=>if s.size<=2^47 then some (.slice H.length s.size s.size,H++[Ob.grown 1 (s.data.toList.map fun b=>.int .u8 b.toNat)],some [],[])else none
  |_=>none
 |.b2s x=>(opd e x).bind fun x=>match x with
  |.slice _ n _=>(elemsOf H 1 n x).bind fun cs=>(XS cs).bind fun l=>some (.string ⟨l.toArray⟩,H,some (VP x),[])
  |_=>none
 |.field n off x=>Jm H ((opd e x).bind fun x=>match x with | .agg cs=>Jq n cs.toList off|_=>none)
 |.index n len es x i=>Jm H ((opd e x).bind fun x=>(opd e i).bind fun i=>match x,i with
  |.agg cs,.int _ i=>if 0<=i/\i<len then Jq n cs.toList (i.toNat*es)else none
  |_,_=>none)
 |.indexStr x i=>Jm H ((opd e x).bind fun x=>(opd e i).bind fun i=>match x,i with
  |.string s,.int _ i=>if 0<=i then(s.data.toList[i.toNat]?).bind fun b=>some (.int .u8 b.toNat)else none
  |_,_=>none)
 |.build zero parts=>Jm H ((Z5 e parts).bind fun ps=>(fillL zero ps).bind fun cs=>some (.agg cs.toArray))
 |.buildSlice cells len parts=>(Z5 e parts).bind fun ps=>(fillL cells ps).bind fun cs =>
   some (.slice H.length len len,H++[Ob.fresh cs],some [],[])
 |.fieldAddr off x=>Jm H ((opd e x).bind fun x=>match x with | .pointer (some a)=>some (.pointer (some (a.add off)))|_=>none)
 |.indexAddr len es x i=>Jm H ((opd e x).bind fun x=>(opd e i).bind fun i=>match x,i with
  |.pointer (some a),.int _ i=>if 0<=i/\i<len then some (.pointer (some (a.add (i.toNat*es))))else none
  |_,_=>none)
 |.indexSl es x i=>Jm H ((opd e x).bind fun x=>(opd e i).bind fun i=>match x,i with
  |.slice (some a) len _,.int _ i=>if 0<=i/\i<len then some (.pointer (some (a.add (i.toNat*es))))else none
  |_,_=>none)
 |.sliceArr n es x lo hi mx=>Jm H ((opd e x).bind fun x=>(ZR e lo).bind fun lo=>(ZR e hi).bind fun hi=>(ZR e mx).bind fun mx=>match x with
  |.pointer (some a)=>(Jc n n lo hi mx).bind fun(l,h,m)=>some (.slice (some (a.add (l*es))) (h-l) (m-l))
  |_=>none)
 |.sliceSl es x lo hi mx=>(opd e x).bind fun x=>(ZR e lo).bind fun lo=>(ZR e hi).bind fun hi=>(ZR e mx).bind fun mx=>match x with
  |.slice (some a) len cap=>(Jc len cap lo hi mx).bind fun(l,h,m)=>(liveAt H a.block).bind fun o =>
    if o.exact\/¬o.own\/es<=o.es then some (.slice (some (a.add (l*es))) (h-l) (m-l),H,some [a.block],[])else none
  |.slice none 0 0=>(Jc 0 0 lo hi mx).bind fun _=>some (.slice none 0 0,H,some [],[])
  |_=>none
 |.sliceStr x lo hi=>Jm H ((opd e x).bind fun x=>(ZR e lo).bind fun lo=>(ZR e hi).bind fun hi=>match x with
  |.string s=>(Jc s.size s.size lo hi none).bind fun(l,h,_)=>some (.string (s.extract l h))
  |_=>none)
 |.makeSlice zero bytes l c=>(opd e l).bind fun l=>(opd e c).bind fun c=>match l,c with
  |.int _ l,.int _ c=>if 0<=l/\l<=c/\c*bytes<=2^47/\0<bytes/\0<zero.length then
    some (.slice H.length l.toNat c.toNat,H++[Ob.fresh ((Qc c.toNat zero).flatten)],some [],[])else none
  |_,_=>none
 |.extract x i=>Jm H ((opd e x).bind fun x=>match x with | .tuple vs=>vs.toList[i]? | _=>none)
 |.mkIface t x=>Jm H ((opd e x).bind fun x=>some (.iface t x))
 |.mkFunc fn first captured=>Jm H ((Xf e first).bind fun I=>(Xf e captured).bind fun cs=>some (.func fn I.toArray cs.toArray))
 |.nilCheck x=>Jm H ((opd e x).bind fun x=>match x with | .pointer (some a)=>some (.pointer (some a))|_=>none)
 |.s2ap n x=>Jm H ((opd e x).bind fun x=>match x with | .slice (some a) len _=>if n<=len/\0<n then some (.pointer (some a))else none|_=>none)
 |.append es bytes s x=>(opd e s).bind fun s=>(opd e x).bind fun x=>ZV es bytes H s x
 |.copy es d s=>(opd e d).bind fun d=>(opd e s).bind fun s=>match d with
  |.slice base dl _=>(lenV s).bind fun sl=>(elemsOf H es (min sl dl) s).bind fun cs=>match base with
   |some a=>(storeAt H a cs).bind fun H'=>some (.int .i64 (min sl dl:Nat),H',none,[a.block])
   |none=>if dl=0 then some (.int .i64 0,H,none,[])else none
  |_=>none
 |.clear z x=>(opd e x).bind fun x=>match x with
  |.slice (some a) n _=>(storeAt H a (Builtin.zeroCells z.toArray n).toList).bind fun H'=>some (.tuple #[],H',none,[a.block])
  |_=>none
 |.len str x=>Jm H ((opd e x).bind fun x=>match x with | .slice _ n _=>if str then none else some (.int .i64 n) | .string s=>if str then some (.int .i64 s.size)else none|_=>none)
 |.minmax mx x y=>Jm H ((opd e x).bind fun x=>(opd e y).bind fun y=>match x,y with
  |.int k a,.int E b=>if k=E then some (.int k (if mx then(if b>a then b else a)else(if b<a then b else a)))else none
  |_,_=>none)
 |.call .. | .callv .. =>none
def Qz(base:Nat)(log:List Nat):List Nat->List Nat
 |[]=>log
 |i::r=>if i<base/\i∉log then Qz base (log++[i]) r else Qz base log r
structure St where
 env:Env
 h:List Ob
 log:List Nat
abbrev Rec:=Option (List Nat)×List Nat
def Env.put(e:Env)(dst:Option Nat)(v:Value):Env :=
 match dst with
 |some d=>(d,v)::e
 |none=>e
def guardOf(e:Env):Option (Nat×Bool)->Option Bool
 |none=>some true
 |some (t,E)=>(e.get t).bind fun v=>match v with | .bool b=>some (b==E) | .tuple _=>some false|_=>none
def DQ(r s:Rec):Bool :=
 (r.2.isEmpty || (match s.1 with|some l=>r.2.all fun i => !l.contains i|none=>false)) &&
 (s.2.isEmpty || (match r.1 with|some l=>s.2.all fun i => !l.contains i|none=>false))
def ZO(recs:List Rec)(pairs:List (Nat×Nat)):Bool :=
 pairs.all fun(i,j)=>match recs[i]?,recs[j]? with
  |some r,some s=>DQ r s
  |_,_=>false
def St.after(s:St)(keep:Option (List Nat)):St :=
 match keep with
 |some k=>{ s with env:=s.env.keep k }
 |none=>s
def Z1(e:Env)(H:List Ob):List (Nat×Option (Option Nat))->Option (List Value)
 |[]=>some []
 |(t,E)::r=>(e.get t).bind fun v=>(match E with
   |none=>some v
   |some n=>match v with
    |.pointer (some a)=>(liveAt H a.block).bind fun o=>if a.spot.isNone then Jq n o.c a.off else none
    |_=>none).bind fun v=>(Z1 e H r).bind fun vs=>some (v::vs)
def packed:List Value->Value
 |[v]=>v
 |vs=>.tuple vs.toArray
def Qv(k:Nat):List Value->Env
 |[]=>[]
 |v::r=>(k,v)::Qv (k+1) r
structure Tab where
 fn:Nat->Option AFun
 ext:Nat->List Value->Option Value
mutual
def Zp(T:Tab)(f:Nat)(args:List Value)(H:List Ob):Option (Value×List Ob×List Nat) :=
 match T.fn f with
 |some fn=>do
  let xs <- Q4 T H.length fn.body ⟨Qv 0 args,H,[]⟩
  match xs.1 with
  |.exit _=>none
  |_=>(Z1 xs.2.env xs.2.h fn.results).bind fun vs=>some (packed vs,xs.2.h,xs.2.log)
 |none=>if args.all rf then(T.ext f args).bind fun v=>some (v,H,[])else none
 partial_fixpoint
def Ju(T:Tab)(o:AOp)(e:Env)(H:List Ob):Step :=
 match o with
 |.call f xs byVal =>
   if byVal then
    match Xf e xs with
    |some args=>if args.all rf then do
      let r <- Zp T f args []
      if rf r.1 then some (r.1,H,some [],[])else none
     else none
    |none=>none
   else
    match Xf e xs with
    |some args=>do
     let r <- Zp T f args H
     some (r.1,r.2.1,none,r.2.2)
    |none=>none
 |.callv f xs =>
   match opd e f,Xf e xs with
   |some (.func (.func f) first captured),some args=>do
    let r <- Zp T f (first.toList++args++captured.toList) H
    some (r.1,r.2.1,none,r.2.2)
   |_,_=>none
 |o=>Q2 H e o
 partial_fixpoint
def evOps(T:Tab)(base:Nat)(ops:List AOper)(s:St)(recs:List Rec):Option (St×List Rec) :=
 match ops with
 |[]=>some (s,recs)
 |o::r =>
   match guardOf s.env o.guard with
   |some true=>do
    let x <- Ju T o.op s.env s.h
    evOps T base r ⟨s.env.put o.dst x.1,x.2.1,Qz base s.log x.2.2.2⟩ (recs++[(x.2.2.1,x.2.2.2)])
   |some false=>evOps T base r ⟨s.env.put o.dst undef,s.h,s.log⟩ (recs++[(some [],[])])
   |none=>none
 partial_fixpoint
def Q4(T:Tab)(base:Nat)(c:ACode)(s:St):Option (AExit×St) :=
 match c with
 |.skip=>some (.normal,s)
 |.region ops keep pairs=>do
  let r <- evOps T base ops s []
  if ZO r.2 pairs then some (.normal,r.1.after keep)else none
 |.seq a b=>do
  let r <- Q4 T base a s
  match r.1 with
  |.normal=>Q4 T base b r.2
  |x=>some (x,r.2)
 |.cond c a b =>
  match opd s.env c with
  |some (.bool true)=>Q4 T base a s
  |some (.bool false)=>Q4 T base b s
  |_=>none
 |.block id b=>do
  let r <- Q4 T base b s
  match r.1 with
  |.exit i=>if i=id then some (.normal,r.2)else some (.exit i,r.2)
  |x=>some (x,r.2)
 |.loop b=>do
  let r <- Q4 T base b s
  match r.1 with
  |.normal=>Q4 T base (.loop b) r.2
  |x=>some (x,r.2)
 |.exit id=>some (.exit id,s)
 |.ret=>some (.ret,s)
 partial_fixpoint
end
def XB(P:Program)(t:TypeId):Option Nat:=(P.info? t).map (·.size)
def BO(P:Program)(t:TypeId):Option Nat:=(P.info? t).map (·.bytes)
def YI(P:Program)(t:TypeId):Option (List Value):=((P.info? t).bind (·.zero)).bind fun v=>if v.cells.toList.all ZD then some v.cells.toList else none
def Bb(P:Program)(t:TypeId):Option (Option Nat) :=
 match P.underlying t with
 |some (.struct _)|some (.array _ _)=>(XB P t).map some
 |some _=>some none
 |none=>none
def Wl(P:Program)(pe:TypeId->Option (List Bool)):Nat->List Field->Option (List Bool)
 |_,[]=>some []
 | off, f :: fs => if f.offset = off ∧ f.name ≠ "_" then (pe f.type).bind fun ks => (Wl P pe (off + ks.length) fs).map fun l => ks ++ l else none
def YH(P:Program):Nat->TypeId->Option (List Bool)
 |0,_=>none
 |d+1,t=>(match P.underlying t with
  |some (.int _)=>some [true]
  |some .bool=>some [false]
  |some (.array n e)=>(YH P d e).map fun ks=>(Qc n ks).flatten
  |some (.struct E)=>if P.stoodInHeld t then none else Wl P (YH P d) 0 E.toList
  |_=>none).bind fun ks=>if XB P t=some ks.length then some ks else none
def IU(P:Program):Nat->TypeId->Bool
 |0,_=>false
 |d+1,t=>match P.underlying t with
  |some (.int _)|some .bool|some .string=>true
  |some (.array _ e)=>IU P d e
  |some (.struct E)=>E.toList.all fun f=>IU P d f.type
  |_=>false
def Vz(place:Nat->Option (Nat×Nat)):List (Nat×Operand)->Option (List (Nat×Nat×Operand))
 |[]=>some []
 |(i,x)::r=>(place i).bind fun(o,n)=>(Vz place r).map fun l=>(o,n,x)::l
def Vs:Nat->Operand->Bool
 |0,.const (.pointer none)|1,.const (.slice none _ _)|2,.const .nilFunc|3,.const .nilIface|4,.const (.map none)=>true
 |_,_=>false
def Kg:TypeDesc->Nat
 |.pointer _=>0 | .slice _=>1 | .func .. =>2 | .interface _=>3 | .map .. =>4|_=>5
def Yx:Operand->Bool
 |.const v=>rf v&&(match v with | .agg cs=>cs.toList.all oneCellB | .tuple _=>false|_=>true)
 |.global _=>false
 |_=>true
def compOp(P:Program)(o:Oper):Option AOp :=
 match o.op with
 |.move x | .assign x=>some (.move x)
 |.pick c a b=>some (.pick c a b)
 |.alloc t=>(YI P t).map .alloc
 |.box _ x=>some (.box x)
 |.load t a=>(Bb P t).map fun n=>.load n a
 |.store t a v=>(XB P t).map fun n=>.store n a v
 |.nilCheck x=>some (.nilCheck x)
 |.binOp op t x y _ =>
  match op with
  |.eql | .neq =>
   match P.underlying t with
   |some (.int _)|some .string=>some (.bin op x y)
   |some .bool=>some (.eqv none (op==.neq) x y)
   |some (.array ..)|some (.struct _)=>if P.eqGuardType P.depth t then none else(YH P 20 t).map fun ks=>.eqv (some ks) (op==.neq) x y
   |some d=>if Vs (Kg d) y then some (.isNil (Kg d) (op==.neq) x)else none
   |_=>none
  |_=>some (.bin op x y)
 |.unOp op _ x=>some (.un op x)
 |.convert s t x =>
  match P.underlying s,P.underlying t with
  |some (.int _),some (.int k)=>some (.conv k x)
  |some .string,some .string=>some (.convStr x)
  |some .string,some (.slice e)=>if P.underlying e matches some (.int .u8)then some (.s2b x)else none
  |some (.slice e),some .string=>if P.underlying e matches some (.int .u8)then some (.b2s x)else none
  |some (.slice _),some (.slice e)=>if s=t then(if P.underlying e matches some (.int .u8)then some (.convSl x)else none)else none
  |_,_=>none
 |.makeInterface t x=>if P.underlying t matches some (.interface _)then none else if(P.underlying t).isSome then some (.mkIface t x)else none
 |.makeFunc fn f c=>some (.mkFunc fn f.toList c.toList)
 |.makeSlice t l c =>
  match P.underlying t with
  |some (.slice e)=>(YI P e).bind fun z=>(BO P e).bind fun b=>if XB P e=some z.length then some (.makeSlice z b l c)else none
  |_=>none
 |.slice t x lo hi mx =>
  match P.underlying t with
  |some (.array n e)=>(XB P e).map fun s=>.sliceArr n s x lo hi mx
  |some (.slice e)=>(XB P e).map fun s=>.sliceSl s x lo hi mx
  |some .string=>if mx.isNone then some (.sliceStr x lo hi)else none
  |_=>none
 |.fieldAddr s x f =>
  match P.underlying s with
  |some (.struct E)=>(E[f]?).bind fun f=>(XB P f.type).bind fun n=>if n=0 then none else some (.fieldAddr f.offset x)
  |_=>none
 |.field s x f =>
  match P.underlying s with
  |some (.struct E)=>(E[f]?).bind fun f=>(Bb P f.type).map fun n=>.field n f.offset x
  |_=>none
 |.indexAddr t x i =>
  match P.underlying t with
  |some (.array n e)=>(XB P e).map fun s=>.indexAddr n s x i
  |some (.slice e)=>(XB P e).map fun s=>.indexSl s x i
  |_=>none
 |.index t x i =>
  match P.underlying t with
  |some (.array n e)=>(XB P e).bind fun s=>(Bb P e).map fun m=>.index m n s x i
  |some .string=>some (.indexStr x i)
  |_=>none
 |.build t ps =>
  match P.underlying t with
  |some (.struct E)=>if E.toList.all (fun f=>(XB P f.type).isSome)then(YI P t).bind fun z=>(Vz (fun i=>(E[i]?).bind fun f=>(XB P f.type).map fun n=>(f.offset,n)) ps.toList).map fun l=>.build z l else none
  |some (.array _ e)=>(YI P t).bind fun z=>(XB P e).bind fun s=>(Vz (fun i=>some (i*s,s)) ps.toList).map fun l=>.build z l
  |_=>none
 |.buildSlice t len ps =>
  match P.underlying t with
  |some (.slice e)=>(YI P e).bind fun z=>(XB P e).bind fun s =>
    if len*s<=2^24/\0<s/\z.length=s then(Vz (fun i=>some (i*s,s)) ps.toList).map fun l=>.buildSlice (Qc len z).flatten len l else none
  |_=>none
 |.extract x i=>some (.extract x i)
 |.sliceToArrayPointer t x =>
  match P.underlying t with
  |some (.array n _)=>if 0<n then some (.s2ap n x)else none
  |_=>none
 |.call c =>
  match c.callee with
  |.value (.func f)=>some (.call f c.args.toList (match P.funcs[f]? with
    |some fn=>fn.params.all (IU P 20)&&fn.resultTypes.all (IU P 20)&&fn.nfree==0&&fn.params.size==c.args.size
    |none=>false))
  |.value x=>some (.callv x c.args.toList)
  |.builtin .append =>
   match c.args.toList,c.argTypes.toList with
   |[s,x],[I,tx]=>match P.underlying I,P.underlying tx with
    |some (.slice e),some (.slice _)|some (.slice e),some .string=>(YI P e).bind fun z=>(BO P e).bind fun b=>if XB P e=some z.length then some (.append z.length b s x)else none
    |_,_=>none
   |_,_=>none
  |.builtin .copy =>
   match c.args.toList,c.argTypes.toList with
   |[d,s],td::_=>match P.underlying td with
    |some (.slice e)=>(XB P e).map fun n=>.copy n d s
    |_=>none
   |_,_=>none
  |.builtin .clear =>
   match c.args.toList,c.argTypes.toList with
   |[x],[t]=>match P.underlying t with
    |some (.slice e)=>(YI P e).map fun z=>.clear z x
    |_=>none
   |_,_=>none
  |.builtin .len =>
   match c.args.toList,c.argTypes.toList with
   |[x],[t]=>match P.underlying t with
    |some (.array n _)=>some (.move (.const (.int .i64 n)))
    |some .string=>some (.len true x)
    |some (.slice _)=>some (.len false x)
    |_=>none
   |_,_=>none
  |.builtin .min=>match c.args.toList with | [x,y]=>some (.minmax false x y)|_=>none
  |.builtin .max=>match c.args.toList with | [x,y]=>some (.minmax true x y)|_=>none
  |_=>none
 |_=>none
def qV(acc:List Nat)(es:List Edge):Nat :=
 es.foldl (fun u e=>if Region.binds .any e then u|||(2^e.on|||acc.getD e.on 0)else u) 0
def Vi(ops:List Oper):List Nat :=
 ops.foldl (init:=[]) fun acc o=>acc++[qV acc o.after.toList]
def iz(l:List Operand):List Nat:=l.filterMap fun | .tmp t=>some t|_=>none
def namesOf(ops:List Oper)(o:Oper):List Nat :=
 iz o.op.operands.toList++(match o.guard with|some (g,_)=>((ops[g]?).bind (·.dst)).toList|none=>[])
def AOp.free:AOp->Bool
 |.load .. | .store .. | .sliceSl .. | .convSl .. | .call _ _ false | .callv .. | .append .. | .copy .. | .clear .. | .b2s .. =>false
 |_=>true
def AOp.quiet:AOp->Bool
 |.store .. | .call _ _ false | .callv .. | .append .. | .copy .. | .clear .. =>false
 |_=>true
def idx{α:Type}(l:List α):List (Nat×α):=(Jn l.length).zip l
def Kk(E:List Nat):List (Nat×Nat) :=
 (idx E).flatMap fun(j,u)=>((Jn j).filter fun i => !u.testBit i).map fun i=>(i,j)
def Tp(ops:List Oper)(E:List (Nat×Nat)):Bool :=
 E.all fun(i,j)=>match ops[i]?,ops[j]? with
  |some a,some b=>(match a.dst with|some d => !(namesOf ops b).contains d&&b.dst != some d|none=>true) &&
    (match b.dst with|some d => !(namesOf ops a).contains d|none=>true)
  |_,_=>false
def Ux(ops:List Oper):Option (Nat×Bool)->Option (Option (Nat×Bool))
 |none=>some none
 |some (g,E)=>((ops[g]?).bind (·.dst)).map fun t=>some (t,E)
def V5(P:Program)(n:Nat)(all:List Oper):List Oper->Option (List AOper)
 |[]=>some []
 |o::r=>if o.op.operands.toList.all Yx&&o.dst.all (fun d=>decide (d<n))then(compOp P o).bind fun a=>(Ux all o.guard).bind fun g=>(V5 P n all r).map fun l=>⟨o.dst,a,g⟩::l else none
def Gy(ops:List Oper):Bool :=
 (idx ops).all fun(j,o)=>o.after.toList.all fun e => !Region.binds .any e || decide (e.on<j)
def Ul(l:List AOper)(E:List (Nat×Nat)):List (Nat×Nat) :=
 E.filter fun(i,j)=>match l[i]?,l[j]? with
  |some a,some b => !(a.op.free || b.op.free || (a.op.quiet&&b.op.quiet))
  |_,_=>true
def comp(P:Program)(n:Nat):Code->Option ACode
 |.skip=>some .skip
 |.region _ ops draw=>(V5 P n ops.toList ops.toList).bind fun l =>
   if draw then
    let E:=Kk (Vi ops.toList)
    if Gy ops.toList&&Tp ops.toList E then some (.region l none (Ul l E))else none
   else some (.region l none [])
 |.seq a b=>(comp P n a).bind fun x=>(comp P n b).map fun y=>.seq x y
 |.cond c a b=>if Yx c then(comp P n a).bind fun x=>(comp P n b).map fun y=>.cond c x y else none
 |.block id b=>(comp P n b).map fun x=>.block id x
 |.loop b=>(comp P n b).map fun x=>.loop x
 |.exit id=>some (.exit id)
 |.ret=>some .ret
 |_=>none
def compFun(P:Program)(fn:Func):Option AFun :=
 fn.body.bind fun c=>(comp P fn.ntmps c).bind fun a =>
  ((fn.results.toList.mapM fun
   |.tmp t=>some (t,none)
   |.cell t ty=>(Bb P ty).map fun n=>(t,some n)):Option (List (Nat×Option (Option Nat)))).map fun rs=>⟨a,rs⟩
def ACode.strip:ACode->ACode
 |.region ops _ prs=>.region ops none prs
 |.seq a b=>.seq a.strip b.strip
 |.cond c a b=>.cond c a.strip b.strip
 |.block id b=>.block id b.strip
 |.loop b=>.loop b.strip
 |c=>c
def AFun.strip(f:AFun):AFun:=⟨f.body.strip,f.results⟩
end Go.Ev
namespace Go.Ev
open Go.RowKit
inductive Kind where|exact|grown|foreign
 deriving DecidableEq
structure Place where
 block:Nat
 base:Nat
 size:Nat
 es:Nat
 kind:Kind
def Place.capOk(pl:Place)(off cap cap':Nat):Prop :=
 match pl.kind with
 |.exact=>cap'=cap
 |.grown=>cap'=cap\/off+cap'*pl.es<=pl.size
 |.foreign=>True
def Place.far(pl:Place)(cap':Nat):Prop:=cap'=0/\pl.kind=.foreign
abbrev Pl:=Nat->Option Place
mutual
inductive VRel(ρ:Pl):Value->Value->Prop
 |same {v:Value}:ZD v=true->VRel ρ v v
 |ptr {a:Addr} {pl:Place}:ρ a.block=some pl->a.spot=none->VRel ρ (.pointer (some a)) (.pointer (some ⟨pl.block,pl.base+a.off,none⟩))
 |slice {a:Addr} {pl:Place} {len cap:Nat} {a':Addr} {cap':Nat}:ρ a.block=some pl->a.spot=none->(a'.spot=none\/pl.far cap')->(a'.block=pl.block\/pl.far cap') ->
   (a'.off=pl.base+a.off\/cap'=0)->len<=cap->cap<=cap'->pl.capOk a'.off cap cap'->VRel ρ (.slice (some a) len cap) (.slice (some a') len cap')
 |func {fn:Fn} {f f' c c':List Value}:LRel ρ f f'->LRel ρ c c'->VRel ρ (.func fn ⟨f⟩ ⟨c⟩) (.func fn ⟨f'⟩ ⟨c'⟩)
 |iface {t:TypeId} {v v':Value}:VRel ρ v v'->VRel ρ (.iface t v) (.iface t v')
 |agg {l l':List Value}:LRel ρ l l'->(∀v∈l,oneCellB v=true)->VRel ρ (.agg ⟨l⟩) (.agg ⟨l'⟩)
 |tuple {l l':List Value}:LRel ρ l l'->VRel ρ (.tuple ⟨l⟩) (.tuple ⟨l'⟩)
inductive LRel(ρ:Pl):List Value->List Value->Prop
 |nil:LRel ρ [] []
 |cons {a b:Value} {l l':List Value}:VRel ρ a b->LRel ρ l l'->LRel ρ (a::l) (b::l')
end
def PlLe(ρ ρ':Pl):Prop:=∀id pl,ρ id=some pl->ρ' id=some pl
def PlLe.refl(ρ:Pl):PlLe ρ ρ:=fun _ _ h=>h
def PlLe.trans{a b c:Pl}(h:PlLe a b)(k:PlLe b c):PlLe a c:=fun i p e=>k i p (h i p e)
mutual
def VRel.mono{ρ ρ':Pl}(h:PlLe ρ ρ'){v v':Value}(hv:VRel ρ v v'):VRel ρ' v v' :=
 match hv with
 |.same hs=>.same hs
 |.ptr a b=>.ptr (h _ _ a) b
 |.slice a b c d e f g i=>.slice (h _ _ a) b c d e f g i
 |.func a b=>.func (LRel.mono h a) (LRel.mono h b)
 |.iface a=>.iface (VRel.mono h a)
 |.agg a b=>.agg (LRel.mono h a) b
 |.tuple a=>.tuple (LRel.mono h a)
def LRel.mono{ρ ρ':Pl}(h:PlLe ρ ρ'){l l':List Value}(E:LRel ρ l l'):LRel ρ' l l' :=
 match E with
 |.nil=>.nil
 |.cons a b=>.cons (VRel.mono h a) (LRel.mono h b)
end
variable{ρ:Pl}
def LRel.length{l l':List Value}(h:LRel ρ l l'):l.length=l'.length:=by
 induction l generalizing l' with
 |nil=>cases h;rfl
 |cons a l E=>cases h with|cons _ h=>simp[E h]
def LRel.get{l l':List Value}(h:LRel ρ l l'){i:Nat}{v:Value}(hi:l[i]?=some v):∃v',l'[i]?=some v'/\VRel ρ v v':=by
 induction l generalizing l' i with
 |nil=>simp at hi
 |cons a l E =>
  cases h with
  |cons hv I =>
   cases i with
   |zero=>simp at hi;subst hi;exact⟨_,by simp,hv⟩
   |succ i=>simp at hi;obtain⟨v',O,J⟩:=E I hi;exact⟨v',by simpa using O,J⟩
def LRel.of_get{l l':List Value}(E:l.length=l'.length)(h:∀(i:Nat) (v:Value),l[i]?=some v->∃v',l'[i]?=some v'/\VRel ρ v v'):LRel ρ l l':=by
 induction l generalizing l' with
 |nil=>cases l' with|nil=>exact .nil|cons _ _=>simp at E
 |cons a l J =>
  cases l' with
  |nil=>simp at E
  |cons b l' =>
   obtain⟨v',I,O⟩:=h 0 a wd
   simp at I;subst I
   exact .cons O (J (by simpa using E) fun i v hv=>by have:=h (i+1) v (by simpa using hv);simpa using this)
def LRel.append{a a' b E:List Value}(h:LRel ρ a a')(k:LRel ρ b E):LRel ρ (a++b) (a'++E):=by
 induction a generalizing a' with
 |nil=>cases h;exact k
 |cons x a I=>cases h with|cons hv J=>exact .cons hv (I J)
def LRel.take{a a':List Value}(h:LRel ρ a a')(n:Nat):LRel ρ (a.take n) (a'.take n):=by
 induction a generalizing a' n with
 |nil=>cases h;simp;exact .nil
 |cons x a E=>cases h with|cons hv I=>cases n with
  |zero=>simp;exact .nil
  |succ n=>simp;exact .cons hv (E I n)
def LRel.drop{a a':List Value}(h:LRel ρ a a')(n:Nat):LRel ρ (a.drop n) (a'.drop n):=by
 induction a generalizing a' n with
 |nil=>cases h;simp;exact .nil
 |cons x a I=>cases h with|cons hv E=>cases n with
  |zero=>simp;exact .cons hv E
  |succ n=>simp;exact I E n
def LRel.set{a a':List Value}(h:LRel ρ a a')(n:Nat){v v':Value}(hv:VRel ρ v v'):LRel ρ (a.set n v) (a'.set n v'):=by
 induction a generalizing a' n with
 |nil=>cases h;simp;exact .nil
 |cons x a I=>cases h with|cons J E=>cases n with
  |zero=>simp;exact .cons hv E
  |succ n=>simp;exact .cons J (I E n)
def LRel.same{l:List Value}(h:l.all ZD=true):LRel ρ l l:=by
 induction l with
 |nil=>exact .nil
 |cons a l E=>simp at h;exact .cons (.same h.1) (E (by simpa using h.2))
def Om{fn:Fn}{f c:List Value}(h:ZD (.func fn ⟨f⟩ ⟨c⟩)=true):f=[]/\c=[]:=by
 cases fn<;>simp[ZD]at h
 exact h
def VRel.of_scalar{v v':Value}(hs:ZD v=true)(h:VRel ρ v v'):v'=v:=by
 cases h with
 |same _=>rfl
 |ptr _ _=>simp[ZD]at hs
 |slice=>simp[ZD]at hs
 |func a b =>
  obtain⟨rfl,rfl⟩:=Om hs
  cases a;cases b;rfl
 |iface=>simp[ZD]at hs
 |agg=>simp[ZD]at hs
 |tuple=>simp[ZD]at hs
def LRel.of_scalars{l l':List Value}(hs:l.all ZD=true)(h:LRel ρ l l'):l'=l:=by
 induction l generalizing l' with
 |nil=>cases h;rfl
 |cons a l E=>cases h with|cons hv I=>simp at hs;rw[hv.of_scalar hs.1,E (by simpa using hs.2) I]
def Np(cs:Array Value):Wv (.agg cs)=cs.toList.all ZD:=rfl
def PQ(cs:Array Value):rf (.agg cs)=cs.toList.all ZD:=rfl
def Nn(cs:Array Value):rf (.tuple cs)=cs.toList.all Wv:=rfl
def HN{v:Value}(h:Wv v=true):ZD v=true\/∃cs,v=.agg cs:=by
 cases v<;>first|exact .inr ⟨_,rfl⟩|exact .inl h
def No{v:Value}(h:rf v=true):Wv v=true\/∃cs,v=.tuple cs:=by
 cases v<;>first|exact .inr ⟨_,rfl⟩|exact .inl h
def VRel.of_rfIn{v v':Value}(hs:Wv v=true)(h:VRel ρ v v'):v'=v:=by
 rcases HN hs with E|⟨cs,rfl⟩
 ·exact h.of_scalar E
 ·cases h with
  |same h=>simp[ZD]at h
  |agg a b=>rw[Np]at hs;rw[a.of_scalars hs]
def LRel.of_rfIns{l l':List Value}(hs:l.all Wv=true)(h:LRel ρ l l'):l'=l:=by
 induction l generalizing l' with
 |nil=>cases h;rfl
 |cons a l E=>cases h with|cons hv I=>simp at hs;rw[hv.of_rfIn hs.1,E (by simpa using hs.2) I]
def VRel.of_rf{v v':Value}(hs:rf v=true)(h:VRel ρ v v'):v'=v:=by
 rcases No hs with E|⟨cs,rfl⟩
 ·exact h.of_rfIn E
 ·cases h with
  |same h=>simp[ZD]at h
  |tuple a=>rw[Nn]at hs;rw[a.of_rfIns hs]
def VRel.rfIn_any{ρ':Pl}{v v':Value}(hs:Wv v=true)(h:VRel ρ v v'):VRel ρ' v v':=by
 rcases HN hs with E|⟨cs,rfl⟩
 ·rw[h.of_scalar E];exact .same E
 ·cases h with
  |same h=>simp[ZD]at h
  |agg a b=>rw[Np]at hs;rw[a.of_scalars hs];exact .agg (LRel.same hs) b
def LRel.rfIn_any{ρ':Pl}{l l':List Value}(hs:l.all Wv=true)(h:LRel ρ l l'):LRel ρ' l l':=by
 induction l generalizing l' with
 |nil=>cases h;exact .nil
 |cons a l E=>cases h with|cons hv I=>simp at hs;exact .cons (hv.rfIn_any hs.1) (E (by simpa using hs.2) I)
def VRel.rf_any{ρ':Pl}{v v':Value}(hs:rf v=true)(h:VRel ρ v v'):VRel ρ' v v':=by
 rcases No hs with E|⟨cs,rfl⟩
 ·exact h.rfIn_any E
 ·cases h with
  |same h=>simp[ZD]at h
  |tuple a=>rw[Nn]at hs;exact .tuple (a.rfIn_any hs)
def LRel.rf_any{ρ':Pl}{l l':List Value}(hs:l.all rf=true)(h:LRel ρ l l'):LRel ρ' l l':=by
 induction l generalizing l' with
 |nil=>cases h;exact .nil
 |cons a l E=>cases h with|cons hv I=>simp at hs;exact .cons (hv.rf_any hs.1) (E (by simpa using hs.2) I)
def XC{v:Value}(h:ZD v=true):oneCellB v=true:=by
 cases v<;>simp_all[ZD,oneCellB]
def VRel.oneCell{v v':Value}(h:VRel ρ v v'):oneCellB v'=oneCellB v:=by
 cases h<;>rfl
def VRel.of_const{v:Value}(h:Yx (.const v)=true):VRel ρ v v:=by
 simp only[Yx,Jd]at h
 obtain⟨E,I⟩:=h
 cases v with
 |agg cs=>obtain⟨l⟩:=cs;rw[PQ]at E;exact .agg (LRel.same E) (fun v hv=>XC (by simp at E;exact E v hv))
 |tuple vs=>simp at I
 |_=>exact .same E
def VRel.cells{v v':Value}(h:VRel ρ v v'):LRel ρ v.cells.toList v'.cells.toList:=by
 cases h with
 |agg a b=>exact a
 |same hs=>cases v<;>first|exact .cons (.same hs) .nil|(simp[ZD]at hs)
 |ptr a b=>exact .cons (.ptr a b) .nil
 |slice a b c d e f g i=>exact .cons (.slice a b c d e f g i) .nil
 |func a b=>exact .cons (.func a b) .nil
 |iface a=>exact .cons (.iface a) .nil
 |tuple a=>exact .cons (.tuple a) .nil
def VRel.cells_one{v v':Value}(h:VRel ρ v v')(hn:oneCellB v=true\/∃cs,v=.agg cs):∀x∈v.cells.toList,oneCellB x=true:=by
 cases h with
 |agg a b=>exact b
 |same hs=>cases v<;>simp_all[Value.cells,ZD,oneCellB]
 |tuple a=>simp[oneCellB]at hn
 |_=>simp[Value.cells,oneCellB]
def Unfr(fr:Nat×Nat)(n:Nat):Prop:=fr.1=fr.2\/n<=fr.1
def Unfr.free{fr:Nat×Nat}{n i:Nat}(h:Unfr fr n)(hi:i<n):¬(fr.1<=i/\i<fr.2):=by
 unfold Unfr at h;omega
structure ObjRel(ρ:Pl)(w:World)(pl:Place)(ob:Ob):Prop where
 kind:pl.kind=if ob.own then(if ob.exact then .exact else .grown)else .foreign
 es:pl.es=ob.es
 block:∃cs e fr,w.heap[pl.block]?=some (.cells cs e fr)/\cs.size=pl.size/\pl.base+ob.c.length<=cs.size /\
  (∀i v,ob.c[i]?=some v->oneCellB v=true/\∃v',cs[pl.base+i]?=some v'/\VRel ρ v v') /\
  (ob.own=true->Unfr fr cs.size)
structure RelF(ρ:Pl)(c:Nat->Option Ob)(w:World):Prop where
 bound:∀id pl,ρ id=some pl->pl.block<w.heap.size
 obj:∀id ob pl,c id=some ob->ρ id=some pl->ob.live=true->ObjRel ρ w pl ob
 inj:∀i j oi oj pi pj,c i=some oi->c j=some oj->ρ i=some pi->ρ j=some pj->oi.live=true->oi.own=true->oj.live=true->i≠j->pi.block≠pj.block
abbrev hp(H:List Ob):Nat->Option Ob:=fun i=>H[i]?
structure Ext(ρ ρ':Pl)(n n':Nat):Prop where
 le:PlLe ρ ρ'
 dom:∀id pl,ρ' id=some pl->ρ id=none->n<=id/\id<n'
def Ext.refl(ρ:Pl)(n n':Nat):Ext ρ ρ n n':=⟨.refl _,fun id pl h k=>by rw[h]at k;cases k⟩
structure Frm(ρ ρ':Pl)(c c':Nat->Option Ob)(w w':World):Prop where
 os:w'.os=w.os
 tape:w'.tape=w.tape
 output:w'.output=w.output
 size:w.heap.size<=w'.heap.size
 blocks:∀b,b<w.heap.size->(∀id ob pl,c id=some ob->ρ id=some pl->ob.live=true->ob.own=true->pl.block≠b)->w'.heap[b]?=w.heap[b]?
 fresh:∀id pl,ρ' id=some pl->ρ id=none->w.heap.size<=pl.block \/
  ∃i ob pl0,c i=some ob/\ρ i=some pl0/\ob.live=true/\ob.own=true/\pl0.block=pl.block/\(∀ob',c' i=some ob'->ob'.live=false)
def Frm.refl(ρ:Pl)(c c':Nat->Option Ob)(w:World):Frm ρ ρ c c' w w :=
 ⟨rfl,rfl,rfl,Qj _,fun _ _ _=>rfl,fun id pl h k=>by rw[h]at k;cases k⟩
def Frm.drawn(ρ:Pl)(c c':Nat->Option Ob)(w:World)(d:Nat):Frm ρ ρ c c' w { w with drawn:=d } :=
 ⟨rfl,rfl,rfl,Qj _,fun _ _ _=>rfl,fun id pl h k=>by rw[h]at k;cases k⟩
def ObjRel.same_block{w w':World}{pl:Place}{ob:Ob}{ρ':Pl}(h:ObjRel ρ w pl ob)(hle:PlLe ρ ρ')(hb:w'.heap[pl.block]?=w.heap[pl.block]?):ObjRel ρ' w' pl ob:=by
 obtain⟨k,e,cs,el,fr,U,O,J,I,E⟩:=h
 refine⟨k,e,cs,el,fr,hb.trans U,O,J,fun i v hi =>?_,E⟩
 obtain⟨a,v',b,c⟩:=I i v hi
 exact⟨a,v',b,c.mono hle⟩
def RelF.drawn{c:Nat->Option Ob}{w:World}(h:RelF ρ c w)(d:Nat):RelF ρ c { w with drawn:=d } :=
 ⟨h.bound,fun id ob pl a b l=>(h.obj id ob pl a b l).same_block (.refl _) rfl,h.inj⟩
end Go.Ev
namespace Go.Ev
open Go.RowKit
section
variable{ρ:Pl}{e:Env}
def OpRel(ρ:Pl)(e:Env)(a:Act)(xs:List Operand):Prop:=∀x∈xs,∀v,opd e x=some v->VRel ρ v (a.eval x)
def OpRel.head{ρ:Pl}{e:Env}{a:Act}{x:Operand}{xs:List Operand}(h:OpRel ρ e a (x::xs)){v:Value}(hv:opd e x=some v):VRel ρ v (a.eval x):=h x wd v hv
def OpRel.tail{ρ:Pl}{e:Env}{a:Act}{x:Operand}{xs:List Operand}(h:OpRel ρ e a (x::xs)):OpRel ρ e a xs:=fun y E=>h y (by simp[E])
def OpRel.of_sub{ρ:Pl}{e:Env}{a:Act}{xs ys:List Operand}(h:OpRel ρ e a xs)(hs:∀y∈ys,y∈xs):OpRel ρ e a ys:=fun y E=>h y (hs y E)
def Dz{a:Act}{xs:List Operand}{vs:List Value}(h:OpRel ρ e a xs)(hv:Xf e xs=some vs):LRel ρ vs (xs.map a.eval):=by
 induction xs generalizing vs with
 |nil=>simp[Xf]at hv;subst hv;exact .nil
 |cons x xs E =>
  simp only[Xf,Qe,Qm]at hv
  obtain⟨v,J,vs',I,rfl⟩:=hv
  exact .cons (h.head J) (E h.tail I)
def Vo{a:Act}{x:Option Operand}{v:Option Value}(h:OpRel ρ e a x.toList)(hv:ZR e x=some v) :
  (v=none/\x.map a.eval=none)\/∃u E,v=some u/\x.map a.eval=some E/\VRel ρ u E:=by
 cases x with
 |none=>simp[ZR]at hv;subst hv;exact .inl ⟨rfl,rfl⟩
 |some x =>
  simp only[ZR,Qe,Qm]at hv
  obtain⟨u,I,rfl⟩:=hv
  exact .inr ⟨u,_,rfl,rfl,h x wd u I⟩
def IV:Next->Value->Prop
 |.value v,u=>v=u
 |.skip,u=>u=undef
 |_,_=>False
structure Post(ρ:Pl)(H:List Ob)(w:World)(v:Value)(H':List Ob)(v':Value)(w':World)(ρ':Pl):Prop where
 ext:Ext ρ ρ' H.length H'.length
 val:VRel ρ' v v'
 rel:RelF ρ' (hp H') w'
 frm:Frm ρ ρ' (hp H) (hp H') w w'
def Free(ρ:Pl)(n n':Nat):Prop:=∀id,n<=id->id<n'->ρ id=none
def OpOk(P:Program)(o:Oper)(e:Env)(H:List Ob)(v:Value)(H':List Ob):Prop :=
 ∀(ρ:Pl) (a:Act) (w:World),OpRel ρ e a o.op.operands.toList->RelF ρ (hp H) w->Free ρ H.length H'.length ->
  ∃nx v' w' ρ',(execOp a.eval o).run P w=.ok nx w'/\IV nx v'/\Post ρ H w v H' v' w' ρ'
end
section
variable{P:Program}{o:Oper}{e:Env}{H H':List Ob}{v:Value}
def OpOk.pure(h:∀(ρ:Pl) (a:Act) (w:World),OpRel ρ e a o.op.operands.toList->RelF ρ (hp H) w->∃v',(execOp a.eval o).run P w=.ok (.value v') w/\VRel ρ v v') :
  OpOk P o e H v H:=fun ρ a w O E _=>by
 obtain⟨v',J,I⟩:=h ρ a w O E
 exact⟨_,v',w,ρ,J,rfl,.refl _ _ _,I,E,.refl _ _ _ _⟩
end
def NG(v:Value):v.oneCell'=oneCellB v:=by cases v<;>rfl
section runs
variable{P:Program}{w:World}
section
variable{t el:TypeId}{n b:Nat}{cs:Array Value}
def Xt(h:XB P t=some n):(sizeOf t).run P w=.ok n w:=by
 simp only[XB,QI]at h
 obtain⟨i,hi,rfl⟩:=h
 simp[sizeOf,typeInfo,hi]
def TS(h:BO P t=some n):∃i,(typeInfo t).run P w=.ok i w/\i.bytes=n:=by
 simp only[BO,QI]at h
 obtain⟨i,hi,rfl⟩:=h
 exact⟨i,by simp[typeInfo,hi],rfl⟩
def YV{z:List Value}(h:YI P t=some z):z.all ZD=true/\∃v,(zeroValue t).run P w=.ok v w/\v.cells.toList=z:=by
 simp only[YI,Qe]at h
 obtain⟨v,⟨i,hi,hz⟩,h⟩:=h
 split at h
 ·cases h
  exact⟨by assumption,v,by simp[zeroValue,typeInfo,hi,hz],rfl⟩
 ·cases h
def TV{n:Option Nat}(h:Bb P t=some n):∃b,(isAgg t).run P w=.ok b w/\(b=n.isSome)/\∀k,n=some k->XB P t=some k:=by
 unfold Bb at h
 split at h
 ·rename_i U hu
  simp only[QI]at h
  obtain⟨k,E,rfl⟩:=h
  exact⟨true,by simp[isAgg,run_underlying hu],rfl,fun I e=>by cases e;exact E⟩
 ·rename_i m e hu
  simp only[QI]at h
  obtain⟨k,E,rfl⟩:=h
  exact⟨true,by simp[isAgg,run_underlying hu],rfl,fun I e=>by cases e;exact E⟩
 ·rename_i d hu O J
  cases h
  refine⟨false,?_,rfl,fun I e=>by cases e⟩
  simp only[isAgg,Sem.run_bind,run_underlying J,Result.andThen_ok]
  cases d<;>first|rfl|exact absurd rfl (hu _)|exact absurd rfl (O _ _)
 ·cases h
def T1{fr:Nat×Nat}(hb:w.heap[b]?=some (.cells cs el fr))(off:Nat):w.cell? ⟨b,off,none⟩=cs[off]? := by
 simp[World.cell?,hb]
def eP{fr:Nat×Nat}(hb:w.heap[b]?=some (.cells cs el fr))(off:Nat):w.frozen? ⟨b,off,none⟩=(decide (fr.1<=off)&&decide (off<fr.2)):=by
 obtain⟨lo,hi⟩:=fr
 simp[World.frozen?,hb]
def Ku(b off n:Nat):(⟨b,off,none⟩:Addr).add n=⟨b,off+n,none⟩:=by
 unfold Addr.add;split
 ·subst_vars;rfl
 ·rfl
def run_loadCellsFrom{b off:Nat}{cs:Array Value}{el:TypeId}{fr:Nat×Nat}(hb:w.heap[b]?=some (.cells cs el fr)) :
  ∀(n i:Nat) (acc:Array Value),off+i+n<=cs.size->(loadCellsFrom ⟨b,off,none⟩ i n acc).run P w=.ok (acc++((cs.toList.drop (off+i)).take n).toArray) w
 |0,i,acc,_=>by simp[loadCellsFrom]
 |n+1,i,acc,h=>by
  have hc:w.cell? ⟨b,off+i,none⟩=some (cs[off+i]'qr):=by rw[T1 hb];exact ZL qr
  simp only[loadCellsFrom,Sem.run_bind,Ku,run_load,hc,Result.andThen_ok]
  rw[run_loadCellsFrom hb n (i+1) _ qr]
  congr 1
  apply Ji.1
  simp only[XV,Array.toList_push,List.append_assoc]
  congr 1
  rw[J4 (show off+i<cs.toList.length by simpa using(by omega:off+i<cs.size))]
  simp[QV]
def run_loadCells{off:Nat}{fr:Nat×Nat}(hb:w.heap[b]?=some (.cells cs el fr))(h:off+n<=cs.size) :
  (loadCells ⟨b,off,none⟩ n).run P w=.ok ((cs.toList.drop off).take n).toArray w:=by
 rw[loadCells,run_loadCellsFrom hb n 0 #[] qr];simp
def HL(v:Value)(vs:List Value):∀(l:List Value) (n:Nat),n<l.length ->
  (l.set n v).take (n+1)++(vs++(l.set n v).drop (n+1+vs.length))=l.take n++(v::vs++l.drop (n+(vs.length+1)))
 |[],n,h=>by simp at h
 |x::l,0,_=>by simp[show 0+1+vs.length=vs.length+1 by omega]
 |x::l,n+1,h=>by
  have:=HL v vs l n (by simpa using h)
  simp only[YB,List.take_succ_cons,Qp,List.cons.injEq,true_and]
  rw[show n+1+1+vs.length=(n+1+vs.length)+1 by omega,show n+1+(vs.length+1)=(n+(vs.length+1))+1 by omega,CZ,CZ]
  simpa using this
def We{b off:Nat}{el:TypeId}{fr:Nat×Nat}:∀(vs:List Value) (i:Nat) (cs:Array Value) (w:World),w.heap[b]?=some (.cells cs el fr)->off+i+vs.length<=cs.size ->
  (∀v∈vs,oneCellB v=true)->(∀k,k<vs.length->¬(fr.1<=off+i+k/\off+i+k<fr.2)) ->
  (storeCells ⟨b,off,none⟩ vs i).run P w=.ok () { w with heap:=w.heap.setIfInBounds b (.cells (cs.toList.take (off+i)++(vs++cs.toList.drop (off+i+vs.length))).toArray el fr) }
 |[],i,cs,w,hb,_,_,_=>by
  simp only[storeCells,Sem.run_pure,Z9,ZM,Qn,List.take_append_drop]
  congr 1
  have:w.heap.setIfInBounds b (.cells cs.toList.toArray el fr)=w.heap:=by
   apply VB
   intro k
   rw[Xp]
   split
   ·subst_vars;split
    ·simp[hb]
    ·rename_i h;simp at h;simp[YU h]
   ·rfl
  rw[this]
 |v::vs,i,cs,w,hb,h,O,J=>by
  simp only[Zt]at h
  have hlt:off+i<cs.size:=qr
  have hc:w.cell? ⟨b,off+i,none⟩=some (cs[off+i]'hlt):=by rw[T1 hb];exact ZL hlt
  have U:w.frozen? ⟨b,off+i,none⟩=false:=by
   rw[eP hb]
   have:=J 0 wd
   simp only[ZM]at this
   cases e:(decide (fr.1<=off+i)&&decide (off+i<fr.2))with
   |false=>rfl
   |true=>simp at e;exact absurd e this
  have hs:w.setCell ⟨b,off+i,none⟩ v={ w with heap:=w.heap.setIfInBounds b (.cells (cs.setIfInBounds (off+i) v) el fr) }:=by
   unfold World.setCell
   congr 1
   apply VB
   intro k
   simp only[KM,Xp]
   by_cases e:b=k
   ·subst e
    have E:b<w.heap.size:=by
     rcases ZA b w.heap.size with h|h
     ·exact h
     ·simp[YU h]at hb
    have I:w.heap[b]=.cells cs el fr:=by rw[ZL E]at hb;exact JJ hb
    simp[E,I]
   ·simp[e]
  simp only[storeCells,Sem.run_bind,Ku]
  rw[run_store P w _ v _ (by rw[NG];exact O v wd),hc]
  simp only[U,Z6,if_false,Result.andThen_ok,hs]
  have E:b<w.heap.size:=by
   rcases ZA b w.heap.size with h|h
   ·exact h
   ·simp[YU h]at hb
  rw[We (el:=el) (fr:=fr) vs (i+1) (cs.setIfInBounds (off+i) v) _ (by simp[E]) (by simp;omega) (fun u hu=>O u (by simp[hu]))
   (fun k Y=>by have:=J (k+1) (by simp;omega);rw[show off+(i+1)+k=off+i+(k+1) by omega];exact this)]
  congr 1
  simp only[World.mk.injEq,and_true]
  apply VB
  intro k
  simp only[Xp]
  by_cases e:b=k
  ·subst e
   simp only[E,Array.size_setIfInBounds,if_true,Qm,Obj.cells.injEq,and_true]
   apply Ji.1
   simp only[Array.toList_setIfInBounds,Zt]
   exact HL v vs cs.toList (off+i) (by simpa using hlt)
  ·simp[e]
end
end runs
end Go.Ev
namespace Go.Ev
open Go.RowKit
def J7{H H':List Ob}{r:Option Value}{v:Value}{t:Option (List Nat)}{M:List Nat}(h:Jm H r=some (v,H',t,M)):r=some v/\H'=H/\t=some []/\M=[]:=by
 cases r with
 |none=>simp[Jm]at h
 |some u=>simp[Jm]at h;obtain⟨rfl,rfl,rfl,rfl⟩:=h;simp
def VRel.bool{ρ:Pl}{b:Bool}{v:Value}(h:VRel ρ (.bool b) v):v=.bool b:=h.of_scalar rfl
def VRel.int{ρ:Pl}{k:IntKind}{n:Int}{v:Value}(h:VRel ρ (.int k n) v):v=.int k n:=h.of_scalar rfl
def VRel.string{ρ:Pl}{s:ByteArray}{v:Value}(h:VRel ρ (.string s) v):v=.string s:=h.of_scalar rfl
def VRel.ptr_inv{ρ:Pl}{a:Addr}{v:Value}(h:VRel ρ (.pointer (some a)) v):∃pl,ρ a.block=some pl/\a.spot=none/\v=.pointer (some ⟨pl.block,pl.base+a.off,none⟩):=by
 cases h with
 |same h=>simp[ZD]at h
 |ptr h k=>exact⟨_,h,k,rfl⟩
def VRel.slice_inv{ρ:Pl}{a:Addr}{len cap:Nat}{v:Value}(h:VRel ρ (.slice (some a) len cap) v):∃pl a' cap',ρ a.block=some pl/\a.spot=none/\(a'.spot=none\/pl.far cap')/\(a'.block=pl.block\/pl.far cap') /\
  (a'.off=pl.base+a.off\/cap'=0)/\len<=cap/\cap<=cap'/\pl.capOk a'.off cap cap'/\v=.slice (some a') len cap':=by
 cases h with
 |same h=>simp[ZD]at h
 |slice a b c d e f g i=>exact⟨_,_,_,a,b,c,d,e,f,g,i,rfl⟩
def VRel.nslice{ρ:Pl}{len cap:Nat}{v:Value}(h:VRel ρ (.slice none len cap) v):v=.slice none len cap/\len=0/\cap=0:=by
 cases h with
 |same h=>simp[ZD]at h;exact⟨rfl,h.1,h.2⟩
def VRel.agg_inv{ρ:Pl}{cs:Array Value}{v:Value}(h:VRel ρ (.agg cs) v):∃cs',v=.agg cs'/\LRel ρ cs.toList cs'.toList/\∀x∈cs.toList,oneCellB x=true:=by
 cases h with
 |same h=>simp[ZD]at h
 |agg a b=>exact⟨_,rfl,a,b⟩
def VRel.tuple_inv{ρ:Pl}{cs:Array Value}{v:Value}(h:VRel ρ (.tuple cs) v):∃cs',v=.tuple cs'/\LRel ρ cs.toList cs'.toList:=by
 cases h with
 |same h=>simp[ZD]at h
 |tuple a=>exact⟨_,rfl,a⟩
section
variable{P:Program}{o:Oper}{e:Env}{H H':List Ob}{v:Value}{t:Option (List Nat)}{M:List Nat}
section
variable{x y:Operand}{ty s:TypeId}{r:Value}
def bJ(E:o.op=.move x\/o.op=.assign x)(J:Q2 H e (.move x)=some (v,H',t,M)):OpOk P o e H v H':=by
 obtain⟨O,rfl,_,_⟩:=J7 J
 refine .pure fun ρ a w I _=>⟨a.eval x,?_,?_⟩
 ·rcases E with E|E<;>simp[execOp,E]
 ·refine I x ?_ v O
  rcases E with E|E<;>simp[E,Op.operands]
def sW{c:Operand}(Y:o.op=.pick c x y)(hr:Q2 H e (.pick c x y)=some (v,H',t,M)):OpOk P o e H v H':=by
 obtain⟨E,rfl,_,_⟩:=J7 hr
 simp only[Qe]at E
 obtain⟨cv,hc,xv,O,Z,J,E⟩:=E
 refine .pure fun ρ a w I _ =>?_
 rw[Y]at I
 have U:=I c (by simp[Op.operands]) cv hc
 have hx':=I x (by simp[Op.operands]) xv O
 have hy':=I y (by simp[Op.operands]) Z J
 split at E
 ·rename_i b
  have:=U.bool
  cases E
  refine⟨if b then a.eval x else a.eval y,by simp[execOp,Y,this,asBool],?_⟩
  cases b<;>simpa
 ·cases E
def Iw{x y:ByteArray}(h:x.size+y.size<=2^47):(Op.stringOp .add x y)=pure (.string (x++y)):=by
 have E:¬(((x.size+y.size:Nat):Int)>IntKind.i64.max):=by
  have:IntKind.i64.max=9223372036854775807:=ww
  rw[this];omega
 unfold Op.stringOp
 simp only[E,if_false]
def vz{op:BinOp}{x y:Value}(h:JC op x y=some r)(w:World)(t:TypeId):(binOp op t x y).run P w=.ok r w:=by
  unfold JC at h
  split at h
  · rename_i k a O b
    split at h
    · simp only[Jb]at h
      split at h
      · cases h
      · rename_i hn;cases h;simp[binOp,Op.shift,hn]
    · simp only[Jb]at h
      split at h
      · cases h
      · rename_i hn;cases h;simp[binOp,Op.shift,hn]
    · rename_i I E
      split at h
      · rename_i J
        subst J
        cases op<;>simp only[Je]at h<;>first
          |(cases h;done)
          |(exact absurd rfl I)
          |(exact absurd rfl E)
          |(cases h;simp[binOp,Op.intArith];done)
          |(cases h;simp[binOp,Op.intBits,Z3];done)
          |(cases h;simp[binOp,Op.intCmp];done)
          | (split at h
             · cases h
             · rename_i hz;cases h;simp[binOp,Op.intDiv,hz])
      · cases h
  · rename_i a b
    cases op<;>simp only[PB]at h<;>first
      |(cases h;done)
      |(cases h;simp[binOp,Op.stringOp];done)
      | (split at h
         · rename_i hz;cases h;simp[binOp,Iw hz]
         · cases h)
  · cases h
def OC{op:BinOp}{x y:Value}(h:JC op x y=some r)(w:World)(t:TypeId)(p q:Operand):(eqGuard op t p q x y).run P w=.ok () w:=by
 unfold JC at h
 unfold eqGuard
 split at h
 ·by_cases hc:(!(op matches .eql | .neq))=true
  ·simp[hc]
  ·simp[hc]
 ·by_cases hc:(!(op matches .eql | .neq))=true
  ·simp[hc]
  ·simp[hc]
 ·cases h
def Ss{op:BinOp}{yt:TypeId}(ho:o.op=.binOp op ty x y yt)(hr:Q2 H e (.bin op x y)=some (v,H',t,M)):OpOk P o e H v H':=by
 obtain⟨I,rfl,_,_⟩:=J7 hr
 simp only[Qe]at I
 obtain⟨xv,U,yv,J,I⟩:=I
 refine .pure fun ρ a w Z _ =>?_
 rw[ho]at Z
 have Y:=Z x (by simp[Op.operands]) xv U
 have O:=Z y (by simp[Op.operands]) yv J
 have hs:ZD xv=true/\ZD yv=true/\ZD v=true:=by
  have E:=I
  unfold JC at E
  split at E
  ·refine⟨rfl,rfl,?_⟩
   split at E
   ·simp only[Jb]at E;split at E<;>cases E;rfl
   ·simp only[Jb]at E;split at E<;>cases E;rfl
   ·split at E
    ·cases op<;>simp only[Je]at E<;>first|(cases E;done)|(cases E;rfl)|(split at E<;>cases E;rfl)
    ·cases E
  ·refine⟨rfl,rfl,?_⟩
   cases op<;>simp only[PB]at E<;>first|(cases E;done)|(cases E;rfl)|(split at E<;>cases E;rfl)
  ·cases E
 refine⟨v,?_,.same hs.2.2⟩
 simp[execOp,ho,VRel.of_scalar hs.1 Y,VRel.of_scalar hs.2.1 O,OC I w ty x y,vz I w ty]
def ok_un{op:UnOp}(J:o.op=.unOp op ty x)(Z:Q2 H e (.un op x)=some (v,H',t,M)):OpOk P o e H v H':=by
 obtain⟨E,rfl,_,_⟩:=J7 Z
 simp only[Qe]at E
 obtain⟨Y,O,E⟩:=E
 refine .pure fun ρ a w U _ =>?_
 rw[J]at U
 have I:=U x (by simp[Op.operands]) Y O
 unfold unV at E
 split at E
 ·cases E;exact⟨_,by simp[execOp,J,I.int,Op.unary,Op.intArith],.same rfl⟩
 ·cases E;exact⟨_,by simp[execOp,J,I.int,Op.unary,Op.intBits,Z3],.same rfl⟩
 ·cases E;exact⟨_,by simp[execOp,J,I.bool,Op.unary],.same rfl⟩
 ·cases E
def sZ{k:IntKind}{d:TypeId}{ks:IntKind}(hs:P.underlying s=some (.int ks))(hd:P.underlying d=some (.int k))(U:o.op=.convert s d x)
 (Z:Q2 H e (.conv k x)=some (v,H',t,M)):OpOk P o e H v H':=by
  obtain⟨E,rfl,_,_⟩:=J7 Z
  simp only[Qe]at E
  obtain⟨Y,I,E⟩:=E
  refine .pure fun ρ a w O _ =>?_
  rw[U]at O
  have J:=O x (by simp[Op.operands]) Y I
  split at E
  · cases E
    exact⟨_,by simp[execOp,U,J.int,convert,run_underlying hs,run_underlying hd,Conv.intToInt],.same rfl⟩
  · cases E
def Sr{d:TypeId}(hs:P.underlying s=some .string)(hd:P.underlying d=some .string)(U:o.op=.convert s d x)
 (Z:Q2 H e (.convStr x)=some (v,H',t,M)):OpOk P o e H v H':=by
  obtain⟨E,rfl,_,_⟩:=J7 Z
  simp only[Qe]at E
  obtain⟨Y,I,E⟩:=E
  refine .pure fun ρ a w O _ =>?_
  rw[U]at O
  have J:=O x (by simp[Op.operands]) Y I
  split at E
  · cases E
    exact⟨_,by simp[execOp,U,J.string,convert,run_underlying hs,run_underlying hd],.same rfl⟩
  · cases E
def Sp{i:Nat}(Y:o.op=.extract x i)(hr:Q2 H e (.extract x i)=some (v,H',t,M)):OpOk P o e H v H':=by
 obtain⟨E,rfl,_,_⟩:=J7 hr
 simp only[Qe]at E
 obtain⟨Z,I,E⟩:=E
 refine .pure fun ρ a w U _ =>?_
 rw[Y]at U
 have J:=U x (by simp[Op.operands]) Z I
 split at E
 ·obtain⟨O,e1,e2⟩:=J.tuple_inv
  obtain⟨v',e3,e4⟩:=e2.get E
  refine⟨v',?_,e4⟩
  have e5:O[i]?=some v':=by simpa using e3
  simp[execOp,Y,e1,Instr.extract,e5]
 ·cases E
def Sn{d:TypeDesc}(hu:P.underlying ty=some d)(hn:∀ms,d≠.interface ms)(U:o.op=.makeInterface ty x)
 (Z:Q2 H e (.mkIface ty x)=some (v,H',t,M)):OpOk P o e H v H':=by
  obtain⟨E,rfl,_,_⟩:=J7 Z
  simp only[Qe]at E
  obtain⟨Y,I,E⟩:=E
  cases E
  refine .pure fun ρ a w O _ =>?_
  rw[U]at O
  have J:=O x (by simp[Op.operands]) Y I
  refine⟨_,?_,.iface J⟩
  simp only[execOp,U,Instr.makeInterface,Sem.run_bind,run_underlying hu,Result.andThen_ok]
  cases d<;>first|rfl|exact absurd rfl (hn _)
def dO{fn:Fn}{f c:Array Operand}(J:o.op=.makeFunc fn f c)(U:Q2 H e (.mkFunc fn f.toList c.toList)=some (v,H',t,M)):OpOk P o e H v H':=by
 obtain⟨O,rfl,_,_⟩:=J7 U
 simp only[Qe,Qm]at O
 obtain⟨fv,Y,cv,hc,rfl⟩:=O
 refine .pure fun ρ a w I _ =>?_
 rw[J]at I
 have h2:=Dz (I.of_sub (ys:=f.toList) fun y E=>by simp only[Op.operands,XV,QB];exact .inl E) Y
 have Z:=Dz (I.of_sub (ys:=c.toList) fun y E=>by simp only[Op.operands,XV,QB];exact .inr E) hc
 have e1:f.map a.eval=(f.toList.map a.eval).toArray:=by apply Ji.1;rw[Wy]
 have e2:c.map a.eval=(c.toList.map a.eval).toArray:=by apply Ji.1;rw[Wy]
 refine⟨_,?_,.func h2 Z⟩
 simp only[execOp,J,Instr.makeFunc,e1,e2];rfl
def NJ(U:o.op=.nilCheck x)(Z:Q2 H e (.nilCheck x)=some (v,H',t,M)):OpOk P o e H v H':=by
 obtain⟨E,rfl,_,_⟩:=J7 Z
 simp only[Qe]at E
 obtain⟨Y,I,E⟩:=E
 refine .pure fun ρ a w O _ =>?_
 rw[U]at O
 have J:=O x (by simp[Op.operands]) Y I
 split at E
 ·cases E
  obtain⟨pl,e1,e2,e3⟩:=J.ptr_inv
  exact⟨_,by simp[execOp,U,e3],.ptr e1 e2⟩
 ·cases E
end
end
end Go.Ev
namespace Go.Ev
open Go.RowKit
def Kv(a:Addr)(h:a.spot=none):a=⟨a.block,a.off,none⟩:=by cases a;cases h;rfl
section
variable{P:Program}{o:Oper}{e:Env}{H H':List Ob}{v:Value}{t:Option (List Nat)}{M:List Nat}{ρ:Pl}
section
variable{x i:Operand}{ty el s:TypeId}{off es n f:Nat}{u:Value}
def Fq{n:Option Nat}{cs cs':List Value}(h:LRel ρ cs cs')(O:∀x∈cs,oneCellB x=true)(hp:Jq n cs off=some u) :
  ∃E,Jq n cs' off=some E/\VRel ρ u E:=by
 cases n with
 |none=>exact h.get hp
 |some n =>
  simp only[Jq]at hp ⊢
  split at hp
  ·cases hp
   rename_i J
   rw[if_pos (by rw[<-h.length];exact J)]
   refine⟨_,rfl,.agg ((h.drop off).take n) fun x I=>O x (Zq (QG I))⟩
  ·cases hp
def Wf{n:Option Nat}{cs:Array Value}(ha:Bb P ty=some n)(hp:Jq n cs.toList off=some u)(w:World):(part ty cs off).run P w=.ok u w:=by
 obtain⟨b,hb,E,I⟩:=TV (P:=P) (w:=w) ha
 simp only[part,Sem.run_bind,hb,Result.andThen_ok]
 cases n with
 |none =>
  simp only[KH]at E
  subst E
  have:cs[off]?=some u:=by simpa [Jq]using hp
  simp[this]
 |some n =>
  simp only[Bc]at E
  subst E
  simp only[Jq]at hp
  split at hp
  ·cases hp
   simp only[Sem.run_ite,if_true,Sem.run_bind,Xt (I n rfl),Result.andThen_ok,Sem.run_pure]
   congr 2
   apply Ji.1
   simp[List.take_drop]
  ·cases hp
def mQ{n:Option Nat}{Z:Array Field}{fd:Field}(hu:P.underlying s=some (.struct Z))(hf:Z[f]?=some fd)(O:fd.offset=off)
 (ha:Bb P fd.type=some n) (Y:o.op=.field s x f) (hr:Q2 H e (.field n off x)=some (v,H',t,M)):OpOk P o e H v H':=by
  obtain⟨E,rfl,_,_⟩:=J7 hr
  simp only[Qe]at E
  obtain⟨xv,I,E⟩:=E
  refine .pure fun ρ a w U _ =>?_
  rw[Y]at U
  have J:=U x (by simp[Op.operands]) xv I
  split at E
  · obtain⟨cs',e1,e2,e3⟩:=J.agg_inv
    obtain⟨u',e4,e5⟩:=Fq e2 e3 E
    refine⟨u',?_,e5⟩
    subst O
    simp[execOp,Y,e1,Instr.field,run_underlying hu,hf,asAgg,Wf ha e4 w]
  · cases E
def mP{n:Option Nat}{len:Nat}(hu:P.underlying ty=some (.array len el))(hs:XB P el=some es)(ha:Bb P el=some n)(Z:o.op=.index ty x i)
 (hr:Q2 H e (.index n len es x i)=some (v,H',t,M)):OpOk P o e H v H':=by
  obtain⟨E,rfl,_,_⟩:=J7 hr
  simp only[Qe]at E
  obtain⟨xv,I,iv,U,E⟩:=E
  refine .pure fun ρ a w O _ =>?_
  rw[Z]at O
  have J:=O x (by simp[Op.operands]) xv I
  have Y:=O i (by simp[Op.operands]) iv U
  split at E
  · split at E
    · rename_i hb
      obtain⟨cs',e1,e2,e3⟩:=J.agg_inv
      obtain⟨u',e4,e5⟩:=Fq e2 e3 E
      refine⟨u',?_,e5⟩
      simp[execOp,Z,e1,Y.int,Instr.index,asIntOf,run_underlying hu,hb,Xt hs,Wf ha e4 w]
    · cases E
  · cases E
def NK{i:Operand}(hu:P.underlying ty=some .string)(ho:o.op=.index ty x i)
 (hr:Q2 H e (.indexStr x i)=some (v,H',t,M)):OpOk P o e H v H':=by
  obtain⟨E,rfl,_,_⟩:=J7 hr
  simp only[Qe]at E
  obtain⟨xv,O,iv,Z,E⟩:=E
  refine .pure fun ρ a w Y _ =>?_
  rw[ho]at Y
  have U:=Y x (by simp[Op.operands]) xv O
  have hi':=Y i (by simp[Op.operands]) iv Z
  split at E
  · rename_i s k i
    split at E
    · rename_i hb
      simp only[Qe]at E
      obtain⟨b,I,E⟩:=E
      cases E
      refine⟨_,?_,.same rfl⟩
      have e:s[i.toNat]?=some b:=by
        have hlt:i.toNat<s.data.toList.length:=by
          rcases ZA i.toNat s.data.toList.length with h|h
          · exact h
          · rw[QE h]at I;cases I
        have J:i.toNat<s.size:=by simpa using hlt
        have e1:s[i.toNat]?=some s[i.toNat]:=getElem?_pos s i.toNat J
        rw[e1]
        rw[Qg hlt]at I
        rw[<-I];rfl
      simp[execOp,ho,U.string,hi'.int,Instr.index,asIntOf,run_underlying hu,hb,e]
    · cases E
  · cases E
def IS{fs:Array Field}{fd:Field}(hu:P.underlying s=some (.struct fs))(hf:fs[f]?=some fd)(U:fd.offset=off)
 (hs:XB P fd.type=some n) (hn:n≠0) (Z:o.op=.fieldAddr s x f) (hr:Q2 H e (.fieldAddr off x)=some (v,H',t,M)):OpOk P o e H v H':=by
  obtain⟨I,rfl,_,_⟩:=J7 hr
  simp only[Qe]at I
  obtain⟨xv,J,I⟩:=I
  refine .pure fun ρ a w Y _ =>?_
  rw[Z]at Y
  have O:=Y x (by simp[Op.operands]) xv J
  split at I
  · rename_i E
    cases I
    obtain⟨pl,e1,e2,e3⟩:=O.ptr_inv
    refine⟨.pointer (some ⟨pl.block,pl.base+(E.off+off),none⟩),?_,?_⟩
    · subst U
      simp[execOp,Z,e3,Instr.fieldAt,run_underlying hu,hf,Instr.sureAddr,fieldPlace,Xt hs,hn,Ku,QV]
    · have:E.add off=⟨E.block,E.off+off,none⟩:=by rw[Kv E e2];exact Ku _ _ _
      rw[this]
      exact .ptr (a:=⟨E.block,E.off+off,none⟩) e1 rfl
  · cases I
def IQ{len:Nat}(hu:P.underlying ty=some (.array len el))(hs:XB P el=some es)(ho:o.op=.indexAddr ty x i)
 (hr:Q2 H e (.indexAddr len es x i)=some (v,H',t,M)):OpOk P o e H v H':=by
  obtain⟨E,rfl,_,_⟩:=J7 hr
  simp only[Qe]at E
  obtain⟨xv,J,iv,Y,E⟩:=E
  refine .pure fun ρ a w U _ =>?_
  rw[ho]at U
  have O:=U x (by simp[Op.operands]) xv J
  have Z:=U i (by simp[Op.operands]) iv Y
  split at E
  · rename_i I k i
    split at E
    · rename_i hb
      cases E
      obtain⟨pl,e1,e2,e3⟩:=O.ptr_inv
      refine⟨.pointer (some ⟨pl.block,pl.base+(I.off+i.toNat*es),none⟩),?_,?_⟩
      · simp[execOp,ho,e3,Z.int,Instr.indexAt,asIntOf,run_underlying hu,Instr.sureAddr,hb,Xt hs,Ku,QV]
      · have:I.add (i.toNat*es)=⟨I.block,I.off+i.toNat*es,none⟩:=by rw[Kv I e2];exact Ku _ _ _
        rw[this]
        exact .ptr (a:=⟨I.block,I.off+i.toNat*es,none⟩) e1 rfl
    · cases E
  · cases E
def So(hu:P.underlying ty=some (.slice el))(hs:XB P el=some es)(ho:o.op=.indexAddr ty x i)
 (hr:Q2 H e (.indexSl es x i)=some (v,H',t,M)):OpOk P o e H v H':=by
  obtain⟨I,rfl,_,_⟩:=J7 hr
  simp only[Qe]at I
  obtain⟨xv,O,iv,Z,I⟩:=I
  refine .pure fun ρ a w Y _ =>?_
  rw[ho]at Y
  have U:=Y x (by simp[Op.operands]) xv O
  have hi':=Y i (by simp[Op.operands]) iv Z
  split at I
  · rename_i E len cap k i
    split at I
    · rename_i hb
      cases I
      obtain⟨pl,a',cap',e1,e2,e3,e4,e5,e6,e7,e8,e9⟩:=U.slice_inv
      replace e3:=e3.resolve_right fun h=>by have:=h.1;omega
      replace e4:=e4.resolve_right fun h=>by have:=h.1;omega
      have J:a'.off=pl.base+E.off:=by rcases e5 with h|h<;>omega
      have ha':a'=⟨pl.block,pl.base+E.off,none⟩:=by rw[Kv a' e3,e4,J]
      refine⟨.pointer (some ⟨pl.block,pl.base+(E.off+i.toNat*es),none⟩),?_,?_⟩
      · simp[execOp,ho,e9,hi'.int,Instr.indexAt,asIntOf,run_underlying hu,hb,Xt hs,ha',Ku,QV]
      · have:E.add (i.toNat*es)=⟨E.block,E.off+i.toNat*es,none⟩:=by rw[Kv E e2];exact Ku _ _ _
        rw[this]
        exact .ptr (a:=⟨E.block,E.off+i.toNat*es,none⟩) e1 rfl
    · cases I
  · cases I
def sV(hu:P.underlying ty=some (.array n el))(ho:o.op=.sliceToArrayPointer ty x)
 (hr:Q2 H e (.s2ap n x)=some (v,H',t,M)):OpOk P o e H v H':=by
  obtain⟨E,rfl,_,_⟩:=J7 hr
  simp only[Qe]at E
  obtain⟨xv,J,E⟩:=E
  refine .pure fun ρ a w hx _ =>?_
  rw[ho]at hx
  have O:=hx x (by simp[Op.operands]) xv J
  split at E
  · rename_i ad len cap
    split at E
    · rename_i hb
      cases E
      obtain⟨pl,a',cap',e1,e2,Z,Y,e5,e6,e7,e8,e9⟩:=O.slice_inv
      replace Z:=Z.resolve_right fun h=>by have:=h.1;omega
      replace Y:=Y.resolve_right fun h=>by have:=h.1;omega
      have I:a'.off=pl.base+ad.off:=by rcases e5 with h|h<;>omega
      have U:a'=⟨pl.block,pl.base+ad.off,none⟩:=by rw[Kv a' Z,Y,I]
      exact⟨.pointer (some ⟨pl.block,pl.base+ad.off,none⟩),by simp[execOp,ho,e9,Instr.arrayAt,run_underlying hu,show ¬len<n by omega,U],.ptr e1 e2⟩
    · cases E
  · cases E
def mN{str:Bool}{d:TypeDesc}(hu:P.underlying ty=some d)(hd:(str=true/\d=.string)\/(str=false/\∃el,d=.slice el))
 {c:Call} (U:c.callee=.builtin .len) (hc2:c.args.toList=[x]) (hc3:c.argTypes.toList=[ty]) (ho:o.op=.call c)
 (hr:Q2 H e (.len str x)=some (v,H',t,M)):OpOk P o e H v H':=by
  obtain⟨E,rfl,_,_⟩:=J7 hr
  simp only[Qe]at E
  obtain⟨xv,Z,E⟩:=E
  refine .pure fun ρ a w hx _ =>?_
  have J:c.args=#[x]:=Ji.1 hc2
  have O:c.argTypes=#[ty]:=Ji.1 hc3
  rw[ho]at hx
  have I:=hx x (by simp[Op.operands,Call.operands,J]) xv Z
  split at E
  · rename_i b l cp
    split at E
    · cases E
    · cases E
      have:∃b' Y,a.eval x=.slice b' l Y:=by
        cases b with
        |none=>exact⟨_,_,I.nslice.1⟩
        |some ad=>obtain⟨pl,a',cap',_,_,_,_,_,_,_,_,e9⟩:=I.slice_inv;exact⟨_,_,e9⟩
      obtain⟨b',Y,e1⟩:=this
      rcases hd with⟨h,_⟩|⟨_,el,rfl⟩
      · contradiction
      · exact⟨_,by simp[execOp,ho,resolve,U,invoke,builtin,Builtin.len_,J,O,e1,run_underlying hu,goInt],.same rfl⟩
  · split at E
    · cases E
      rcases hd with⟨_,rfl⟩|⟨h,_⟩
      · exact⟨_,by simp[execOp,ho,resolve,U,invoke,builtin,Builtin.len_,J,O,I.string,run_underlying hu,goInt],.same rfl⟩
      · simp_all
    · cases E
  · cases E
def dP(hu:P.underlying ty=some (.array n el))
 {c:Call} (U:c.callee=.builtin .len) (O:c.args.toList=[x]) (J:c.argTypes.toList=[ty]) (Z:o.op=.call c)
    (Y:Q2 H e (.move (.const (.int .i64 n)))=some (v,H',t,M)):OpOk P o e H v H':=by
  obtain⟨h1,rfl,_,_⟩:=J7 Y
  cases h1
  refine .pure fun ρ a w hx _ =>?_
  have I:c.args=#[x]:=Ji.1 O
  have E:c.argTypes=#[ty]:=Ji.1 J
  exact⟨_,by simp[execOp,Z,resolve,U,invoke,builtin,Builtin.len_,I,E,run_underlying hu,goInt],.same rfl⟩
def Fv{mx:Bool}{y:Operand}{c:Call}(U:c.callee=.builtin (if mx then .max else .min))(hc2:c.args.toList=[x,y])(ho:o.op=.call c)
 (hr:Q2 H e (.minmax mx x y)=some (v,H',t,M)):OpOk P o e H v H':=by
  obtain⟨I,rfl,_,_⟩:=J7 hr
  simp only[Qe]at I
  obtain⟨xv,Z,yv,Y,I⟩:=I
  refine .pure fun ρ a w hx _ =>?_
  have E:c.args=#[x,y]:=Ji.1 hc2
  rw[ho]at hx
  have O:=hx x (by simp[Op.operands,Call.operands,E]) xv Z
  have J:=hx y (by simp[Op.operands,Call.operands,E]) yv Y
  split at I
  · split at I
    · cases I
      cases mx
      · exact⟨_,by simp[execOp,ho,resolve,U,invoke,builtin,Builtin.min_,Builtin.min2,E,O.int,J.int],.same rfl⟩
      · exact⟨_,by simp[execOp,ho,resolve,U,invoke,builtin,Builtin.max_,Builtin.max2,E,O.int,J.int],.same rfl⟩
    · cases I
  · cases I
def YW{x:Option Value}{x':Option Value}{y E r:Nat}{code:BoundsCode}(Y:(x=none/\x'=none)\/∃u I,x=some u/\x'=some I/\VRel ρ u I)(h:Kt x y E=some r)(w:World) :
  (x=none/\x'=none/\r=E)\/∃I,x.isSome=true/\x'=some I/\r<=y/\∀J,y<=J->(Instr.sliceBound I J code).run P w=.ok r w:=by
 rcases Y with⟨rfl,rfl⟩|⟨u,I,rfl,rfl,hv⟩
 ·simp[Kt]at h;exact .inl ⟨rfl,rfl,h.symm⟩
 ·right
  refine⟨I,rfl,rfl,?_⟩
  cases u<;>simp only[Kt]at h<;>first|(cases h;done)|skip
  rename_i k i
  split at h
  ·rename_i hb
   cases h
   refine⟨by omega,fun J U =>?_⟩
   have O:0<=i/\i<=(J:Int):=qr
   simp[hv.int,Instr.sliceBound,asIntOf,O]
  ·cases h
def UL{isSlice:Bool}{len cap cap':Nat}{lo hi mx Z hi' mx':Option Value}{l h m:Nat}(hlo:(lo=none/\Z=none)\/∃u Y,lo=some u/\Z=some Y/\VRel ρ u Y)
 (hhi:(hi=none/\hi'=none)\/∃u Y,hi=some u/\hi'=some Y/\VRel ρ u Y) (hmx:(mx=none/\mx'=none)\/∃u Y,mx=some u/\mx'=some Y/\VRel ρ u Y)
 (E:cap<=cap') (hlen:len<=cap) (hb:Jc len cap lo hi mx=some (l,h,m)) (w:World) :
    ∃m',(Instr.sliceBounds isSlice len cap' Z hi' mx').run P w=.ok (l,h,m') w/\l<=h/\h<=m/\m<=cap/\(mx=none/\m=cap/\m'=cap'\/mx.isSome=true/\m'=m):=by
  simp only[Jc,Qe]at hb
  obtain⟨m0,hm,h0,hh,l0,hl,hb⟩:=hb
  split at hb
  · cases hb
  rename_i hne
  cases hb
  rcases YW (P:=P) (code:=if isSlice then .slice3Acap else .slice3Alen) hmx hm w with⟨rfl,rfl,rfl⟩|⟨um,hms,rfl,hmc,hmr⟩
  · rcases YW (P:=P) (code:=if isSlice then .sliceAcap else .sliceAlen) hhi hh w with⟨rfl,rfl,rfl⟩|⟨uh,hhs,rfl,U,O⟩
    · rcases YW (P:=P) (code := .sliceB) hlo hl w with⟨rfl,rfl,rfl⟩|⟨ul,hls,rfl,J,I⟩
      · exact⟨cap',by simp[Instr.sliceBounds],by omega,hlen,Qj _,.inl ⟨rfl,rfl,rfl⟩⟩
      · exact⟨cap',by simp[Instr.sliceBounds,I h (Qj _)],J,hlen,Qj _,.inl ⟨rfl,rfl,rfl⟩⟩
    · rcases YW (P:=P) (code := .sliceB) hlo hl w with⟨rfl,rfl,rfl⟩|⟨ul,hls,rfl,J,I⟩
      · exact⟨cap',by simp[Instr.sliceBounds,O cap' E],by omega,U,Qj _,.inl ⟨rfl,rfl,rfl⟩⟩
      · exact⟨cap',by simp[Instr.sliceBounds,O cap' E,I h (Qj _)],J,U,Qj _,.inl ⟨rfl,rfl,rfl⟩⟩
  · rcases YW (P:=P) (code := .slice3B) hhi hh w with⟨rfl,rfl,rfl⟩|⟨uh,hhs,rfl,U,O⟩
    · simp[hms]at hne
    · rcases YW (P:=P) (code := .slice3C) hlo hl w with⟨rfl,rfl,rfl⟩|⟨ul,hls,rfl,J,I⟩
      · exact⟨m,by simp[Instr.sliceBounds,hmr cap' E,O m (Qj _)],by omega,U,hmc,.inr ⟨hms,rfl⟩⟩
      · exact⟨m,by simp[Instr.sliceBounds,hmr cap' E,O m (Qj _),I h (Qj _)],J,U,hmc,.inr ⟨hms,rfl⟩⟩
end
end
end Go.Ev
namespace Go.Ev
open Go.RowKit
def Vp{H:List Ob}{id:Nat}{ob:Ob}(h:liveAt H id=some ob):H[id]?=some ob/\ob.live=true:=by
 simp only[liveAt,Qe]at h
 obtain⟨o,I,E⟩:=h
 split at E
 ·cases E;exact⟨I,by assumption⟩
 ·cases E
section
variable{P:Program}{o:Oper}{e:Env}{H H':List Ob}{v:Value}{t:Option (List Nat)}{M:List Nat}{ρ:Pl}
section
variable{ty el:TypeId}{k es:Nat}{b:Bool}{x:Operand}{y:Value}{w:World}
def NH{lo hi:Option Operand}(hu:P.underlying ty=some .string)(ho:o.op=.slice ty x lo hi none)
 (hr:Q2 H e (.sliceStr x lo hi)=some (v,H',t,M)):OpOk P o e H v H':=by
  obtain⟨E,rfl,_,_⟩:=J7 hr
  simp only[Qe]at E
  obtain⟨xv,Z,lov,hlo,hiv,hhi,E⟩:=E
  refine .pure fun ρ a w Y _ =>?_
  rw[ho]at Y
  have hx':=Y x (by simp[Op.operands]) xv Z
  have O:=Vo (Y.of_sub (ys:=lo.toList) fun y I=>by simp[Op.operands]at I ⊢;simp[I]) hlo
  have U:=Vo (Y.of_sub (ys:=hi.toList) fun y I=>by simp[Op.operands]at I ⊢;simp[I]) hhi
  split at E
  · rename_i s
    simp only[Qe]at E
    obtain⟨⟨l,h,m⟩,hb,E⟩:=E
    dsimp only at E
    cases E
    obtain⟨m',J,h2,h3,h4,h5⟩:=UL (P:=P) (isSlice:=false) O U (mx':=none) (.inl ⟨rfl,rfl⟩) (Qj _) (Qj _) hb w
    exact⟨_,by simp[execOp,ho,hx'.string,Instr.sliceAt,run_underlying hu,Instr.slice,J],.same rfl⟩
  · cases E
def NI{n:Nat}{lo hi mx:Option Operand}(hu:P.underlying ty=some (.array n el))(hs:XB P el=some es)(ho:o.op=.slice ty x lo hi mx)
 (hr:Q2 H e (.sliceArr n es x lo hi mx)=some (v,H',t,M)):OpOk P o e H v H':=by
  obtain⟨E,rfl,_,_⟩:=J7 hr
  simp only[Qe]at E
  obtain⟨xv,hxv,lov,hlo,hiv,hhi,mxv,hmx,E⟩:=E
  refine .pure fun ρ a w O _ =>?_
  rw[ho]at O
  have hx':=O x (by simp[Op.operands]) xv hxv
  have Z:=Vo (O.of_sub (ys:=lo.toList) fun y I=>by simp[Op.operands]at I ⊢;simp[I]) hlo
  have hhi':=Vo (O.of_sub (ys:=hi.toList) fun y I=>by simp[Op.operands]at I ⊢;simp[I]) hhi
  have Y:=Vo (O.of_sub (ys:=mx.toList) fun y I=>by simp[Op.operands]at I ⊢;simp[I]) hmx
  split at E
  · rename_i J
    simp only[Qe]at E
    obtain⟨⟨l,h,m⟩,hb,E⟩:=E
    dsimp only at E
    cases E
    obtain⟨m',U,h2,h3,h4,h5⟩:=UL (P:=P) (isSlice:=false) Z hhi' Y (Qj _) (Qj _) hb w
    have hm:m'=m:=by rcases h5 with⟨_,rfl,rfl⟩|⟨_,rfl⟩<;>rfl
    subst hm
    obtain⟨pl,e1,e2,e3⟩:=hx'.ptr_inv
    have hadd:J.add (l*es)=⟨J.block,J.off+l*es,none⟩:=by rw[Kv J e2];exact Ku _ _ _
    refine⟨.slice (some (if m'=l then⟨pl.block,pl.base+J.off,none⟩else⟨pl.block,pl.base+J.off+l*es,none⟩)) (h-l) (m'-l),?_,?_⟩
    · simp[execOp,ho,e3,Instr.sliceAt,run_underlying hu,Instr.sureAddr,U,Xt hs,Ku]
    · rw[hadd]
      refine .slice (a:=⟨J.block,J.off+l*es,none⟩) (pl:=pl) e1 rfl (.inl (by split<;>rfl)) (.inl (by split<;>rfl)) ?_ qr (Qj _) ?_
      · by_cases c:m'=l
        · exact .inr qr
        · exact .inl (by rw[if_neg c];simp[QV])
      · unfold Place.capOk;split<;>first|rfl|exact .inl rfl|trivial
  · cases E
def Sm{lo hi mx:Option Operand}(hu:P.underlying ty=some (.slice el))(hs:XB P el=some es)(ho:o.op=.slice ty x lo hi mx)
 (hr:Q2 H e (.sliceSl es x lo hi mx)=some (v,H',t,M)):OpOk P o e H v H':=by
  simp only[Q2,Qe]at hr
  obtain⟨xv,hxv,lov,hlo,hiv,hhi,mxv,hmx,I⟩:=hr
  intro ρ a w hx U hfree
  rw[ho]at hx
  have hx':=hx x (by simp[Op.operands]) xv hxv
  have hlo':=Vo (hx.of_sub (ys:=lo.toList) fun y Z=>by simp[Op.operands]at Z ⊢;simp[Z]) hlo
  have hhi':=Vo (hx.of_sub (ys:=hi.toList) fun y Z=>by simp[Op.operands]at Z ⊢;simp[Z]) hhi
  have hmx':=Vo (hx.of_sub (ys:=mx.toList) fun y Z=>by simp[Op.operands]at Z ⊢;simp[Z]) hmx
  split at I
  · rename_i ad len cap
    simp only[Qe]at I
    obtain⟨⟨l,h,m⟩,hb,ob,hob,I⟩:=I
    dsimp only at I
    obtain⟨hob1,hob2⟩:=Vp hob
    split at I
    · rename_i hok
      cases I
      obtain⟨pl,a',cap',e1,e2,e3,e4,e5,e6,e7,e8,e9⟩:=hx'.slice_inv
      obtain⟨J,O,h2,h3,h4,h5⟩:=UL (P:=P) (isSlice:=true) hlo' hhi' hmx' e7 e6 hb w
      have hadd:ad.add (l*es)=⟨ad.block,ad.off+l*es,none⟩:=by rw[Kv ad e2];exact Ku _ _ _
      have E:¬J=l->a'.add (l*es)=⟨a'.block,a'.off+l*es,none⟩:=fun c=>by
        have e3':=e3.resolve_right fun h=>by have h':=h.1;rcases h5 with⟨_,rfl,rfl⟩|⟨_,rfl⟩<;>omega
        rw[Kv a' e3'];exact Ku _ _ _
      have Y:pl.far cap'->pl.far (J-l):=fun h=>⟨by have h':=h.1;rcases h5 with⟨_,rfl,rfl⟩|⟨_,rfl⟩<;>omega,h.2⟩
      have hor:=U.obj _ _ _ hob1 e1 hob2
      refine⟨.value (.slice (some (if J=l then a' else a'.add (l*es))) (h-l) (J-l)),_,w,ρ,?_,rfl,.refl _ _ _,?_,U,.refl _ _ _ _⟩
      · simp[execOp,ho,e9,Instr.sliceAt,run_underlying hu,Instr.slice,O,Xt hs]
        split<;>rfl
      · rw[hadd]
        refine .slice (a:=⟨ad.block,ad.off+l*es,none⟩) (pl:=pl) e1 rfl (by split;exact e3.imp_right Y;rename_i c;rw[E c];exact .inl rfl) (by split;exact e4.imp_right Y;rename_i c;rw[E c];exact e4.imp_right Y) ?_ qr ?_ ?_
        · by_cases c:J=l
          · exact .inr qr
          · rw[if_neg c,E c]
            rcases e5 with e5|e5
            · exact .inl (by simp[e5,QV])
            · rcases h5 with⟨_,rfl,rfl⟩|⟨_,rfl⟩<;>exact .inr qr
        · rcases h5 with⟨_,rfl,rfl⟩|⟨_,rfl⟩<;>omega
        · unfold Place.capOk at e8 ⊢
          split at e8
          · rcases h5 with⟨_,rfl,rfl⟩|⟨_,rfl⟩<;>omega
          · rename_i hk
            have hes:es<=pl.es:=by
              have hk':=hor.kind
              rw[hk]at hk'
              rw[hor.es]
              cases ho1:ob.own<;>cases ho2:ob.exact<;>simp[ho1,ho2]at hk' hok
              exact hok
            rcases h5 with⟨_,rfl,rfl⟩|⟨_,rfl⟩
            · rcases e8 with e8|e8
              · exact .inl qr
              · right
                by_cases c:J=l
                · rw[if_pos c]
                  subst c
                  simp
                  have:a'.off<=a'.off+J*pl.es:=Nat.le_add_right _ _
                  omega
                · rw[if_neg c,E c]
                  simp only
                  have:l*es<=l*pl.es:=XU _ hes
                  have h6:(J-l)*pl.es=J*pl.es-l*pl.es:=Nat.sub_mul _ _ _
                  have h7:l*pl.es<=J*pl.es:=ZG _ qr
                  omega
            · exact .inl rfl
          · trivial
    · cases I
  · simp only[Qe]at I
    obtain⟨⟨l,h,m⟩,hb,I⟩:=I
    cases I
    obtain⟨J,O,h2,h3,h4,h5⟩:=UL (P:=P) (isSlice:=true) hlo' hhi' hmx' (Qj _) (Qj _) hb w
    have hz:l=0/\h=0/\J=0:=by rcases h5 with⟨_,rfl,rfl⟩|⟨_,rfl⟩<;>omega
    obtain⟨rfl,rfl,rfl⟩:=hz
    refine⟨.value (.slice none 0 0),_,w,ρ,?_,rfl,.refl _ _ _,.same rfl,U,.refl _ _ _ _⟩
    simp[execOp,ho,hx'.nslice.1,Instr.sliceAt,run_underlying hu,Instr.slice,O,Xt hs]
  · cases I
def AK{x:Value}(h:Ys k x=some b):(k=0/\∃a,x=.pointer a/\b=a.isNone)\/(k=1/\∃a n m,x=.slice a n m/\b=a.isNone) \/
  (k=2/\((x=.nilFunc/\b=true)\/∃f g c,x=.func f g c/\b=false))\/(k=3/\((x=.nilIface/\b=true)\/∃f g,x=.iface f g/\b=false))\/(k=4/\∃a,x=.map a/\b=a.isNone):=by
 unfold Ys at h
 split at h<;>simp_all
def er{x x':Value}(h:VRel ρ x x')(hb:Ys k x=some b):Ys k x'=some b:=by
 rcases AK hb with⟨rfl,a,rfl,rfl⟩|⟨rfl,a,n,m,rfl,rfl⟩|⟨rfl,⟨rfl,rfl⟩|⟨f,g,c,rfl,rfl⟩⟩|⟨rfl,⟨rfl,rfl⟩|⟨f,g,rfl,rfl⟩⟩|⟨rfl,a,rfl,rfl⟩<;>cases h<;>rfl
def Yj(E:Vs k (.const y)=true):(k=0/\y=.pointer none)\/(k=1/\∃n m,y=.slice none n m)\/(k=2/\y=.nilFunc)\/(k=3/\y=.nilIface)\/(k=4/\y=.map none):=by
 unfold Vs at E
 split at E<;>simp_all
def NS(d:TypeDesc):(Kg d=0->∃el,d=.pointer el)/\(Kg d=1->∃el,d=.slice el)/\(Kg d=2->∃p q r,d=.func p q r)/\(Kg d=3->∃ms,d=.interface ms)/\(Kg d=4->∃k el,d=.map k el):=by
 cases d<;>simp[Kg]
def fE{x:Value}{d:TypeDesc}(hu:P.underlying ty=some d)(hx:Ys (Kg d) x=some b)(J:Vs (Kg d) (.const y)=true)(w:World) :
  (Op.equal ty x y).run P w=.ok b w:=by
 unfold Op.equal Op.maxDepth
 rw[Op.equalIn]
 simp only[Sem.run_bind,run_underlying hu,Result.andThen_ok]
 obtain⟨Z,k1,Y,U,O⟩:=NS d
 rcases AK hx with⟨E,a,rfl,rfl⟩|⟨E,a,n,m,rfl,rfl⟩|⟨E,h⟩|⟨E,h⟩|⟨E,a,rfl,rfl⟩
 ·obtain⟨el,rfl⟩:=Z E
  rcases Yj J with⟨_,rfl⟩|⟨h,_⟩|⟨h,_⟩|⟨h,_⟩|⟨h,_⟩<;>first|(cases a<;>rfl)|simp[Kg]at h
 ·obtain⟨el,rfl⟩:=k1 E
  rcases Yj J with⟨h,_⟩|⟨_,n',m',rfl⟩|⟨h,_⟩|⟨h,_⟩|⟨h,_⟩<;>first|(cases a<;>rfl)|simp[Kg]at h
 ·obtain⟨p,q,r,rfl⟩:=Y E
  rcases Yj J with⟨I,_⟩|⟨I,_⟩|⟨_,rfl⟩|⟨I,_⟩|⟨I,_⟩<;>first|(rcases h with⟨rfl,rfl⟩|⟨f,g,c,rfl,rfl⟩<;>rfl)|simp[Kg]at I
 ·obtain⟨ms,rfl⟩:=U E
  rcases Yj J with⟨I,_⟩|⟨I,_⟩|⟨I,_⟩|⟨_,rfl⟩|⟨I,_⟩<;>first|(rcases h with⟨rfl,rfl⟩|⟨f,g,rfl,rfl⟩<;>rfl)|simp[Kg]at I
 ·obtain⟨kk,el,rfl⟩:=O E
  rcases Yj J with⟨h,_⟩|⟨h,_⟩|⟨h,_⟩|⟨h,_⟩|⟨_,rfl⟩<;>first|(cases a<;>rfl)|simp[Kg]at h
def UC{x:Value}(E:Ys k x=some b):(∀I n,x≠.int I n)/\(∀s,x≠.string s)/\(∀f s,x≠.float f s)/\(∀f s u,x≠.complex f s u)/\(∀cs,x≠.agg cs):=by
 unfold Ys at E
 split at E<;>simp_all
def E5{y:Operand}(E:Vs k y=true):∃u,y=.const u:=by
 unfold Vs at E
 split at E<;>simp at E<;>exact⟨_,rfl⟩
def binOp_eql{x:Value}(E:Ys k x=some b)(h:(Op.equal ty x y).run P w=.ok b w):(binOp .eql ty x y).run P w=.ok (.bool b) w:=by
 obtain⟨U,O,J,I,Y⟩:=UC E
 cases x<;>first|exact absurd rfl (U _ _)|exact absurd rfl (O _)|exact absurd rfl (J _ _)|exact absurd rfl (I _ _ _)|(simp[binOp,h])
def binOp_neq{x:Value}(E:Ys k x=some b)(h:(Op.equal ty x y).run P w=.ok b w):(binOp .neq ty x y).run P w=.ok (.bool !b) w:=by
 obtain⟨U,O,J,I,Y⟩:=UC E
 cases x<;>first|exact absurd rfl (U _ _)|exact absurd rfl (O _)|exact absurd rfl (J _ _)|exact absurd rfl (I _ _ _)|(simp[binOp,h])
def EF{op:BinOp}{u v:Value}(hv:∀cs,v≠.agg cs)(w:World):(eqGuard op ty x (.const u) v u).run P w=.ok () w:=by
 cases v with
 |agg cs=>exact absurd rfl (hv _)
 |nilIface=>cases u<;>cases op<;>simp[eqGuard]
 |_=>cases op<;>simp[eqGuard]
def mO{op:BinOp}{y:Operand}{yt:TypeId}{d:TypeDesc}(Y:op=.eql\/op=.neq)(hu:P.underlying ty=some d)(hy:Vs (Kg d) y=true)
 (Z:o.op=.binOp op ty x y yt) (hr:Q2 H e (.isNil (Kg d) (op==.neq) x)=some (v,H',t,M)):OpOk P o e H v H':=by
  obtain⟨J,rfl,_,_⟩:=J7 hr
  simp only[Qe]at J
  obtain⟨xv,O,b,hb,J⟩:=J
  cases J
  obtain⟨u,rfl⟩:=E5 hy
  refine .pure fun ρ a w hx _ =>?_
  rw[Z]at hx
  have U:=hx x (by simp[Op.operands]) xv O
  have E:=er U hb
  have he:=fE (P:=P) hu E hy w
  refine⟨_,?_,.same rfl⟩
  have hg:=EF (P:=P) (op:=op) (x:=x) (u:=u) (ty:=ty) (UC E).2.2.2.2 w
  have I:a.eval (.const u)=u:=rfl
  rcases Y with rfl|rfl
  · simp only[execOp,Z,I,Sem.run_bind,hg,Result.andThen_ok,binOp_eql E he,Sem.run_pure];rfl
  · simp only[execOp,Z,I,Sem.run_bind,hg,Result.andThen_ok,binOp_neq E he,Sem.run_pure];rfl
end
end
end Go.Ev
namespace Go.Ev
open Go.RowKit
section
variable{xs:Array Value}{off:Nat}
def BM{ks ls:List Bool}{a b c d:List Value}(h:a.length=ks.length)(E:c.length=ks.length):JK (ks++ls) (a++b) (c++d)=(JK ks a c).bind fun r=>(JK ls b d).bind fun s=>some (r&&s):=by
 induction ks generalizing a c with
 |nil =>
  cases a with
  |nil=>cases c with
   |nil=>simp only[Qn,JK,Qk,Em];cases JK ls b d<;>rfl
   |cons _ _=>simp at E
  |cons _ _=>simp at h
 |cons k ks I=>cases a with
  |nil=>simp at h
  |cons x a=>cases c with
   |nil=>simp at E
   |cons y c =>
    simp only[Qp,JK,I (by simpa using h) (by simpa using E)]
    cases BN k x y with
    |none=>rfl
    |some r =>
     simp only[Qk]
     cases JK ks a c with
     |none=>rfl
     |some s =>
      simp only[Qk]
      cases JK ls b d with
      |none=>rfl
      |some u=>simp[Bool.and_assoc]
def RW:∀ {ks:List Bool} {a c:List Value} {r:Bool},JK ks a c=some r->a.length=ks.length/\c.length=ks.length
 |[],[],[],_,_=>by simp
 |[],_::_,[],_,h=>by simp[JK]at h
 |[],_,_::_,_,h=>by simp[JK]at h
 |_::_,[],_,_,h=>by simp[JK]at h
 |_::_,_::_,[],_,h=>by simp[JK]at h
 |k::ks,x::a,y::c,r,h=>by
  simp only[JK,Qe]at h
  obtain⟨_,_,s,hs,_⟩:=h
  have:=RW hs
  simp[this.1,this.2]
def EH{k:Bool}{x y:Value}{r:Bool}(h:BN k x y=some r):ZD x=true/\ZD y=true:=by
 unfold BN at h;split at h<;>first|exact⟨rfl,rfl⟩|cases h
def UY:∀ {ks:List Bool} {a c:List Value} {r:Bool},JK ks a c=some r->a.all ZD=true/\c.all ZD=true
 |[],[],[],_,_=>by simp
 |[],_::_,[],_,h=>by simp[JK]at h
 |[],_,_::_,_,h=>by simp[JK]at h
 |_::_,[],_,_,h=>by simp[JK]at h
 |_::_,_::_,[],_,h=>by simp[JK]at h
 |k::ks,x::a,y::c,r,h=>by
  simp only[JK,Qe]at h
  obtain⟨_,I,s,hs,_⟩:=h
  have:=UY hs
  have E:=EH I
  simp only[KC,E.1,E.2,this.1,this.2,Bool.and_self,and_self]
def chunk(xs:Array Value)(off s:Nat):List Value:=(xs.toList.drop off).take s
def Gw(xs:Array Value)(off s u:Nat):chunk xs off (s+u)=chunk xs off s++chunk xs (off+s) u:=by
 simp only[chunk,List.take_add,Kp]
def VT{s:Nat}(h:off+s<=xs.size):(chunk xs off s).length=s:=by
 simp[chunk];omega
def Gv(h:off+1<=xs.size):∃c,chunk xs off 1=[c]/\xs[off]?=some c:=by
 have hlt:off<xs.toList.length:=by simpa using(by omega:off<xs.size)
 refine⟨xs.toList[off],?_,?_⟩
 ·simp only[chunk]
  rw[J4 hlt];simp
 ·rw[ZL qr];rfl
end
section
variable{P:Program}
section
variable{t:TypeId}{n s off:Nat}{xs:Array Value}
def Lp(h:XB P t=some n):P.cellsOf t=n/\∃i,P.info? t=some i:=by
 simp only[XB,QI]at h
 obtain⟨i,hi,rfl⟩:=h
 exact⟨by simp[Program.cellsOf,hi],i,hi⟩
def EqAt(P:Program)(D:Nat)(t:TypeId)(ks:List Bool):Prop:=∀(w:World) (xs E:Array Value) (off:Nat) (b:Bool),off+ks.length<=xs.size->off+ks.length<=E.size ->
 JK ks (chunk xs off ks.length) (chunk E off ks.length)=some b ->
 ∃u I,(part t xs off).run P w=.ok u w/\(part t E off).run P w=.ok I w/\(Op.equalIn D t u I).run P w=.ok b w
def Cc{D:Nat}{e:TypeId}{ks:List Bool}(h:EqAt P D e ks)(w:World)(xs ys:Array Value):∀(n k:Nat) (b:Bool),k*ks.length+n*ks.length<=xs.size->k*ks.length+n*ks.length<=ys.size ->
  JK (Qc n ks).flatten (chunk xs (k*ks.length) (n*ks.length)) (chunk ys (k*ks.length) (n*ks.length))=some b->(Op.eqItems D e ks.length xs ys (Vv k n)).run P w=.ok b w
 |0,k,b,_,_,hc=>by simp[chunk,JK]at hc;subst hc;simp[Op.eqItems]
 |n+1,k,b,h1,h2,hc=>by
  rw[Zl,Xa,Xu (n*ks.length) ks.length]at h1 h2 hc
  rw[Gw,Gw,Xr,QO,BM (by rw[VT qr]) (by rw[VT qr])]at hc
  simp only[Qe,Qm]at hc
  obtain⟨r,Y,r',E,rfl⟩:=hc
  obtain⟨u,u',O,J,I⟩:=h w xs ys (k*ks.length) r qr qr Y
  have Z:k*ks.length+ks.length=(k+1)*ks.length:=by rw[Zl,Xa]
  rw[Z]at E
  have U:=Cc h w xs ys n (k+1) r' qr qr E
  simp only[List.range'_succ,Op.eqItems,Sem.run_bind,O,J,I,Result.andThen_ok]
  cases r
  ·simp
  ·simpa using U
def RU{D:Nat}{U:TypeId->Option (List Bool)}(h:∀t ks,U t=some ks->EqAt P D t ks)(w:World)(xs ys:Array Value):∀(I:List Field) (off:Nat) (ks:List Bool) (b:Bool),Wl P U off I=some ks ->
  off+ks.length<=xs.size->off+ks.length<=ys.size->JK ks (chunk xs off ks.length) (chunk ys off ks.length)=some b->(Op.eqFields D xs ys I).run P w=.ok b w
 |[],off,ks,b,hp,_,_,hc=>by
  simp only[Wl,Qm]at hp
  subst hp
  simp[chunk,JK]at hc;subst hc
  simp[Op.eqFields]
 |f::I,off,ks,b,hp,h1,h2,hc=>by
  simp only[Wl]at hp
  split at hp
  ·rename_i hf
   obtain⟨rfl,hn⟩:=hf
   simp only[Qe,QI]at hp
   obtain⟨E,hs,J,hp,rfl⟩:=hp
   rw[Qh]at h1 h2 hc
   rw[Gw,Gw,BM (by rw[VT qr]) (by rw[VT qr])]at hc
   simp only[Qe,Qm]at hc
   obtain⟨r,hr,r',O,rfl⟩:=hc
   obtain⟨u,u',p1,Z,Y⟩:=h f.type E hs w xs ys f.offset r qr qr hr
   have ih:=RU h w xs ys I (f.offset+E.length) J r' hp qr qr O
   simp only[Op.eqFields,hn,ne_eq,not_false_eq_true,if_true,Sem.run_bind,p1,Z,Y,Result.andThen_ok]
   cases r
   ·simp
   ·simpa using ih
  ·cases hp
def Uh{d:TypeDesc}(hu:P.underlying t=some d)(hd:(∃E,d=.struct E)\/(∃n e,d=.array n e))(hs:XB P t=some s)(h:off+s<=xs.size)(w:World) :
  (part t xs off).run P w=.ok (.agg (chunk xs off s).toArray) w:=by
 have ha:Bb P t=some (some s):=by
  unfold Bb
  rcases hd with⟨E,rfl⟩|⟨n,e,rfl⟩<;>simp[hu,hs]
 exact Wf ha (by simp[Jq,chunk,h]) w
def WB{E u:Nat}(h:E+u<=s):chunk (chunk xs off s).toArray E u=chunk xs (off+E) u:=by
 simp only[chunk]
 rw[List.drop_take,List.take_take,Kp]
 congr 1;omega
def Ov{ks:List Bool}:(Qc n ks).flatten.length=n*ks.length:=by simp
def B3{d:Nat}{ks:List Bool}(h:YH P d t=some ks):XB P t=some ks.length:=by
 cases d with
 |zero=>simp[YH]at h
 |succ d =>
  unfold YH at h
  simp only[Qe]at h
  obtain⟨E,_,h⟩:=h
  split at h
  ·cases h;assumption
  ·cases h
def HV:∀(d:Nat) (t:TypeId) (ks:List Bool),YH P d t=some ks->∀D,d<=D->EqAt P D t ks
 |0,t,ks,h,_,_=>by simp[YH]at h
 |d+1,t,ks,h,0,hD=>by omega
 |d+1,t,ks,h,D+1,hD=>by
  intro w xs ys off b I J hc
  have hs:=B3 h
  unfold YH at h
  simp only[Qe]at h
  obtain⟨ks',h,Y⟩:=h
  have h'':ks'=ks:=by
   split at Y
   ·cases Y;rfl
   ·cases Y
  subst h''
  clear Y
  split at h
  ·rename_i k hu
   cases h
   obtain⟨c,e1,e2⟩:=Gv I
   obtain⟨c',e3,e4⟩:=Gv J
   have ha:Bb P t=some none:=by simp[Bb,hu]
   refine⟨c,c',Wf ha (by simpa [Jq]using e2) w,Wf ha (by simpa [Jq]using e4) w,?_⟩
   simp only[R6]at hc
   rw[e1,e3]at hc
   simp only[JK,Qe,Qm]at hc
   obtain⟨r,E,r',rfl,rfl⟩:=hc
   unfold BN at E
   split at E
   ·split at E
    ·rename_i hk;subst hk;cases E;simp[run_equalIn_int w D t _ k _ _ hu]
    ·cases E
   ·simp_all
   ·cases E
  ·rename_i hu
   cases h
   obtain⟨c,e1,e2⟩:=Gv I
   obtain⟨c',e3,e4⟩:=Gv J
   have ha:Bb P t=some none:=by simp[Bb,hu]
   refine⟨c,c',Wf ha (by simpa [Jq]using e2) w,Wf ha (by simpa [Jq]using e4) w,?_⟩
   simp only[R6]at hc
   rw[e1,e3]at hc
   simp only[JK,Qe,Qm]at hc
   obtain⟨r,E,r',rfl,rfl⟩:=hc
   unfold BN at E
   split at E
   ·simp_all
   ·cases E;simp[run_equalIn_bool w D t _ _ hu]
   ·cases E
  ·rename_i n e hu
   simp only[QI]at h
   obtain⟨ks1,O,rfl⟩:=h
   have hs1:=B3 O
   rw[Ov]at I J hs hc
   have ih:=HV d e ks1 O D qr
   refine⟨_,_,Uh hu (.inr ⟨n,e,rfl⟩) hs I w,Uh hu (.inr ⟨n,e,rfl⟩) hs J w,?_⟩
   obtain⟨hc1,i,hi⟩:=Lp hs1
   rw[run_equalIn_array w D _ _ hu hi,hc1,List.range_eq_range']
   refine Cc ih w _ _ n 0 b ?_ ?_ ?_
   ·simp[VT I]
   ·simp[VT J]
   ·simp only[Nat.zero_mul]
    rw[WB qr,WB qr]
    exact hc
  ·rename_i Z hu
   split at h
   ·cases h
   rename_i hst
   have ih:∀t ks,YH P d t=some ks->EqAt P D t ks:=fun t ks I=>HV d t ks I D qr
   refine⟨_,_,Uh hu (.inl ⟨Z,rfl⟩) hs I w,Uh hu (.inl ⟨Z,rfl⟩) hs J w,?_⟩
   have U:P.fieldsOf t=Z:=by simp[Program.fieldsOf,hu]
   rw[run_equalIn_struct w D t _ _ (by rw[U];exact hu) (by simpa using hst),U]
   refine RU ih w _ _ Z.toList 0 _ b h ?_ ?_ ?_
   ·simp[VT I]
   ·simp[VT J]
   ·rw[WB qr,WB qr]
    exact hc
  ·cases h
end
variable{o:Oper}{e:Env}{H H':List Ob}{v:Value}{t:Option (List Nat)}{M:List Nat}
def mR{op:BinOp}{x y:Operand}{ty yt:TypeId}{ks:List Bool}{d:TypeDesc}(O:op=.eql\/op=.neq)(hu:P.underlying ty=some d)(hd:(∃fs,d=.struct fs)\/(∃n e,d=.array n e))(hk:YH P 20 ty=some ks)
  (hg:P.eqGuardType P.depth ty=false) (ho:o.op=.binOp op ty x y yt) (hr:Q2 H e (.eqv (some ks) (op==.neq) x y)=some (v,H',t,M)):OpOk P o e H v H':=by
 obtain⟨h1,rfl,_,_⟩:=J7 hr
 simp only[Qe]at h1
 obtain⟨xv,hxv,yv,hyv,b,hb,h1⟩:=h1
 cases h1
 refine .pure fun ρ a w hx _ =>?_
 rw[ho]at hx
 have hx':=hx x (by simp[Op.operands]) xv hxv
 have hy':=hx y (by simp[Op.operands]) yv hyv
 split at hb
 ·rename_i ks' p q heq
  cases heq
  obtain⟨Y,U⟩:=RW hb
  have J:=UY hb
  have ex:a.eval x=.agg p:=hx'.of_rf (by rw[PQ];exact J.1)
  have ey:a.eval y=.agg q:=hy'.of_rf (by rw[PQ];exact J.2)
  have hs:=B3 hk
  have I:0+ks.length<=p.size:=by simp[<-Y]
  have E:0+ks.length<=q.size:=by simp[<-U]
  have c1:chunk p 0 ks.length=p.toList:=by rw[<-Y];simp only[chunk,Jt,Yn]
  have c2:chunk q 0 ks.length=q.toList:=by rw[<-U];simp only[chunk,Jt,Yn]
  obtain⟨u,u',p1,p2,p3⟩:=HV 20 ty ks hk Op.maxDepth (by simp[Op.maxDepth]) w p q 0 b I E (by rw[c1,c2];exact hb)
  have e1:=Uh hu hd hs I w
  have e2:=Uh hu hd hs E w
  rw[c1]at e1;rw[c2]at e2
  rw[e1]at p1;rw[e2]at p2
  cases p1;cases p2
  have p4:(Op.equal ty (.agg p) (.agg q)).run P w=.ok b w:=by simpa [Op.equal]using p3
  refine⟨_,?_,.same rfl⟩
  have Z:(eqGuard op ty x y (.agg p) (.agg q)).run P w=.ok () w:=by
   rcases O with rfl|rfl<;>simp[eqGuard,hg]
  rcases O with rfl|rfl
  ·simp only[execOp,ho,ex,ey,Sem.run_bind,Z,Result.andThen_ok,binOp,p4,Sem.run_pure];rfl
  ·simp only[execOp,ho,ex,ey,Sem.run_bind,Z,Result.andThen_ok,binOp,p4,Sem.run_pure];rfl
 ·rename_i heq;cases heq
 ·cases hb
def xR{op:BinOp}{x y:Operand}{ty yt:TypeId}(E:op=.eql\/op=.neq)(hu:P.underlying ty=some .bool)(ho:o.op=.binOp op ty x y yt)
  (hr:Q2 H e (.eqv none (op==.neq) x y)=some (v,H',t,M)):OpOk P o e H v H':=by
 obtain⟨J,rfl,_,_⟩:=J7 hr
 simp only[Qe]at J
 obtain⟨xv,Y,yv,O,b,hb,J⟩:=J
 cases J
 refine .pure fun ρ a w hx _ =>?_
 rw[ho]at hx
 have Z:=hx x (by simp[Op.operands]) xv Y
 have U:=hx y (by simp[Op.operands]) yv O
 split at hb
 ·rename_i heq;cases heq
 ·rename_i p q heq
  cases hb
  have ex:=Z.bool
  have ey:=U.bool
  have p4:(Op.equal ty (.bool p) (.bool q)).run P w=.ok (p==q) w:=run_equalIn_bool w 9999 ty p q hu
  refine⟨_,?_,.same rfl⟩
  have I:(eqGuard op ty x y (.bool p) (.bool q)).run P w=.ok () w:=by
   rcases E with rfl|rfl<;>simp[eqGuard]
  rcases E with rfl|rfl
  ·simp only[execOp,ho,ex,ey,Sem.run_bind,I,Result.andThen_ok,binOp,p4,Sem.run_pure];rfl
  ·simp only[execOp,ho,ex,ey,Sem.run_bind,I,Result.andThen_ok,binOp,p4,Sem.run_pure];rfl
 ·cases hb
end
end Go.Ev
namespace Go.Ev
open Go.RowKit
section
variable{cs v:List Value}{off:Nat}{ρ:Pl}
def Rl{v v':Value}(h:VRel ρ v v')(E:okVar v=true):∀x∈v.cells.toList,oneCellB x=true:=by
 refine h.cells_one ?_
 cases v<;>first|exact .inl rfl|exact .inr ⟨_,rfl⟩|(simp[okVar]at E)
def MV(h:off+v.length<=cs.length):splice cs off v=cs.take off++(v++cs.drop (off+v.length)):=by
 unfold splice
 split
 ·rename_i x
  have E:off<cs.length:=by simp at h;omega
  rw[List.set_eq_take_append_cons_drop,if_pos E]
  simp
 ·rfl
def TQ(h:off+v.length<=cs.length):(splice cs off v).length=cs.length:=by
 rw[MV h];simp;omega
def LRel.splice{ρ:Pl}{cs cs' v v':List Value}{off:Nat}(h:LRel ρ cs cs')(hv:LRel ρ v v'):LRel ρ (splice cs off v) (splice cs' off v'):=by
 unfold Ev.splice
 cases hv with
 |nil=>exact(h.take _).append (LRel.nil.append (h.drop _))
 |cons a b =>
  cases b with
  |nil=>exact h.set _ a
  |cons c d =>
   have e:=d.length
   simp only[Zt]
   rw[e]
   exact(h.take _).append ((LRel.cons a (.cons c d)).append (h.drop _))
def TP(h:∀x∈cs,oneCellB x=true)(hv:∀x∈v,oneCellB x=true):∀x∈splice cs off v,oneCellB x=true:=by
 intro x I
 unfold splice at I
 split at I
 ·rcases J3 I with E|E
  ·exact h x E
  ·subst E;exact hv x wd
 ·simp only[QB]at I
  rcases I with E|E|E
  ·exact h x (QG E)
  ·exact hv x E
  ·exact h x (Zq E)
def Ou(off:Nat):∀(v:List Value) (j:Nat) (cs:Array Value),off+j+v.length<=cs.size ->
  ((v.zipIdx j).foldl (fun cs (x:Value×Nat)=>cs.setIfInBounds (off+x.2) x.1) cs).toList=cs.toList.take (off+j)++(v++cs.toList.drop (off+j+v.length))
 |[],j,cs,_=>by simp
 |x::v,j,cs,h=>by
  simp only[Zt]at h
  simp only[List.zipIdx_cons,XK]
  rw[Ou off v (j+1) _ (by simp;omega)]
  have:=HL x v cs.toList (off+j) (by simp;omega)
  simpa [QV]using this
inductive PartsRel(ρ:Pl)(place:Nat->Option (Nat×Nat)):List (Nat×Nat×Value)->List (Nat×Value)->Prop
 |nil:PartsRel ρ place [] []
 |cons {off n i:Nat} {v v':Value} {l:List (Nat×Nat×Value)} {l':List (Nat×Value)}:place i=some (off,n)->VRel ρ v v'->PartsRel ρ place l l'->PartsRel ρ place ((off,n,v)::l) ((i,v')::l')
def bZ{place:Nat->Option (Nat×Nat)}{l:List (Nat×Nat×Value)}{l':List (Nat×Value)}(hp:PartsRel ρ place l l'):∀ {cs:List Value} {cs':Array Value} {r:List Value},LRel ρ cs cs'.toList->(∀x∈cs,oneCellB x=true) ->
  fillL cs l=some r->∃r',Instr.fill place cs' l'=some r'/\LRel ρ r r'.toList/\r.length=cs.length/\∀x∈r,oneCellB x=true:=by
 induction hp with
 |nil=>intro cs cs' r h Y I;simp[fillL]at I;subst I;exact⟨cs',rfl,h,rfl,Y⟩
 |cons O hv hrest Z =>
  rename_i off n i v v' l l'
  intro cs cs' r h Y I
  simp only[fillL]at I
  split at I
  ·rename_i hc
   obtain⟨hn,hle,hk⟩:=hc
   have hcl:=hv.cells
   have U:v'.cells.size=n:=by rw[<-hn];have:=hcl.length;simpa using this.symm
   have E:off+v'.cells.toList.length<=cs'.toList.length:=by
    rw[<-h.length];simp only[Eg];rw[U];exact hle
   have hfold:(v'.cells.zipIdx.foldl (fun cs (c,j)=>cs.setIfInBounds (off+j) c) cs').toList=splice cs'.toList off v'.cells.toList:=by
    rw[MV E]
    have:=Ou off v'.cells.toList 0 cs' (by simpa using E)
    simp only[ZM]at this
    rw[<-this]
    congr 1
    rw[<-Array.foldl_toList]
    congr 1
    simp
   have J:=LRel.splice (off:=off) h hcl
   obtain⟨r',e1,e2,e3,e4⟩:=Z (cs':=v'.cells.zipIdx.foldl (fun cs (c,j)=>cs.setIfInBounds (off+j) c) cs') (by rw[hfold];exact J) (TP Y (Rl hv hk)) I
   refine⟨r',?_,e2,?_,e4⟩
   ·simp only[Instr.fill,O]
    rw[if_neg]
    ·exact e1
    ·simp only[Y1,decide_eq_true_eq,not_or,bne_iff_ne,ne_eq]
     have:cs'.toList.length=cs'.size:=by simp
     simp only[Eg]at E
     omega
   ·rw[e3,TQ]
    simpa [hn]using hle
  ·cases I
def Rf{ρ:Pl}{e:Env}{a:Act}{place:Nat->Option (Nat×Nat)}:∀ {ps:List (Nat×Operand)} {E:List (Nat×Nat×Operand)} {vs:List (Nat×Nat×Value)},OpRel ρ e a (ps.map (·.2))->Vz place ps=some E->Z5 e E=some vs ->
  PartsRel ρ place vs (ps.map fun p=>(p.1,a.eval p.2))
 |[],E,vs,_,hc,hv=>by simp[Vz]at hc;subst hc;simp[Z5]at hv;subst hv;exact .nil
 |(i,x)::ps,E,vs,U,hc,hv=>by
  simp only[Vz,Qe,QI]at hc
  obtain⟨⟨off,n⟩,O,l,Y,rfl⟩:=hc
  simp only[Z5,Qe,Qm]at hv
  obtain⟨v,J,vs',I,rfl⟩:=hv
  exact .cons O (U.head J) (Rf U.tail Y I)
end
section
variable{P:Program}{o:Oper}{e:Env}{H H':List Ob}{v:Value}{t:Option (List Nat)}{M:List Nat}
def NL{ty:TypeId}{ps:Array (Nat×Operand)}{zero:List Value}{cps:List (Nat×Nat×Operand)}{place:Nat->Option (Nat×Nat)}(hz:YI P ty=some zero)
  (hpl:(∃E:Array Field,P.underlying ty=some (.struct E)/\place=fun(i:Nat)=>(E[i]?).bind fun f=>(XB P f.type).map fun n=>(f.offset,n))\/(∃n el s,P.underlying ty=some (.array n el)/\XB P el=some s/\place=fun(i:Nat)=>some (i*s,s)))
  (Z:∀E:Array Field,P.underlying ty=some (.struct E)->∀f∈E.toList,(XB P f.type).isSome=true) (hc:Vz place ps.toList=some cps) (ho:o.op=.build ty ps)
  (hr:Q2 H e (.build zero cps)=some (v,H',t,M)):OpOk P o e H v H':=by
 obtain⟨h1,rfl,_,_⟩:=J7 hr
 simp only[Qe,Qm]at h1
 obtain⟨vs,hvs,cs,hcs,rfl⟩:=h1
 refine .pure fun ρ a w hx _ =>?_
 rw[ho]at hx
 have hx':OpRel ρ e a (ps.toList.map (·.2)):=hx.of_sub fun y hy=>by simpa [Op.operands]using hy
 have hpr:=Rf hx' hc hvs
 obtain⟨J,z,Y,hz2⟩:=YV (P:=P) (w:=w) hz
 obtain⟨r',e1,e2,e3,e4⟩:=bZ hpr (cs:=zero) (cs':=z.cells) (by rw[hz2];exact LRel.same J) (fun x hx=>XC (by simp at J;exact J x hx)) hcs
 refine⟨.agg r',?_,.agg e2 e4⟩
 have em:(ps.map fun(i,x)=>(i,a.eval x)).toList=ps.toList.map fun p=>(p.1,a.eval p.2):=by simp
 rcases hpl with⟨E,hu,rfl⟩|⟨n,el,s,hu,hs,rfl⟩
 ·have hpm:∃places:Array (Nat×Nat),(E.mapM fun f=>(do pure (f.offset,<-sizeOf f.type):Sem (Nat×Nat))).run P w=.ok places w/\∀i:Nat,places[i]?=(E[i]?).bind fun f=>(XB P f.type).map fun n=>(f.offset,n):=by
   have hl:=Z E hu
   obtain⟨I⟩:=E
   have key:∀(I:List Field),(∀f∈I,(XB P f.type).isSome=true)->∃pl:List (Nat×Nat),(I.mapM fun f=>(do pure (f.offset,<-sizeOf f.type):Sem (Nat×Nat))).run P w=.ok pl w /\
     ∀i:Nat,pl[i]?=(I[i]?).bind fun f=>(XB P f.type).map fun n=>(f.offset,n):=by
    intro I
    induction I with
    |nil=>intro _;exact⟨[],by simp,by simp⟩
    |cons f I ih =>
     intro h
     obtain⟨pl,U,O⟩:=ih fun g hg=>h g (by simp[hg])
     obtain⟨n,hn⟩:=Option.isSome_iff_exists.1 (h f wd)
     refine⟨(f.offset,n)::pl,?_,?_⟩
     ·rw[Tj]
      simp only[Sem.run_bind,Xt hn,Result.andThen_ok,Sem.run_pure,U]
     ·intro i
      cases i with
      |zero=>simp[hn]
      |succ i=>simpa using O i
   obtain⟨pl,U,O⟩:=key I hl
   refine⟨pl.toArray,?_,fun i=>by simpa using O i⟩
   rw[List.mapM_toArray,Sem.run_map,U];rfl
  obtain⟨places,U,O⟩:=hpm
  have e1':Instr.fill (places[·]?) z.cells (ps.map fun(i,x)=>(i,a.eval x)).toList=some r':=by
   rw[em,<-e1];congr 1;funext i;exact O i
  simp only[execOp,ho,Instr.build,Sem.run_bind,Y,Result.andThen_ok,run_underlying hu,U]
  rw[e1'];rfl
 ·simp only[execOp,ho,Instr.build,Sem.run_bind,Y,Result.andThen_ok,run_underlying hu,Xt hs]
  rw[em,e1];rfl
def Af{ρ:Pl}{w w':World}(E:RelF ρ (hp H) w)(hfree:ρ H.length=none){ob:Ob}(hl:ob.live=true)(Z:ob.own=true){cells':Array Value}{el:TypeId}{fr:Nat×Nat}
  (hw:w'.heap=w.heap.push (.cells cells' el fr)) (h1:w'.os=w.os) (h2:w'.tape=w.tape) (h3:w'.output=w.output) {base:Nat} (hbase:base=0) {l':List Value}
  (hc:LRel ρ ob.c l') (hl':∃ex,cells'.toList=l'++ex) (hone:∀x∈ob.c,oneCellB x=true) (hfr:Unfr fr cells'.size) :
  ∃ρ',Ext ρ ρ' H.length (H.length+1)/\ρ' H.length=some ⟨w.heap.size,0,cells'.size,ob.es,if ob.exact then .exact else .grown⟩/\RelF ρ' (hp (H++[ob])) w'/\Frm ρ ρ' (hp H) (hp (H++[ob])) w w':=by
 let pl:Place:=⟨w.heap.size,0,cells'.size,ob.es,if ob.exact then .exact else .grown⟩
 let ρ':Pl:=fun id=>if id=H.length then some pl else ρ id
 have hle:PlLe ρ ρ':=fun id p h=>by
  by_cases c:id=H.length
  ·subst c;rw[hfree]at h;cases h
  ·simp only[ρ',if_neg c];exact h
 have hnew:w'.heap[w.heap.size]?=some (.cells cells' el fr):=by rw[hw];simp
 have hold:∀b,b<w.heap.size->w'.heap[b]?=w.heap[b]? := fun b hb=>by rw[hw,Eh,if_neg qr]
 have O:∀id,id≠H.length->hp (H++[ob]) id=hp H id\/hp (H++[ob]) id=none:=fun id hid=>by
  rcases Nat.lt_trichotomy id H.length with h|h|h
  ·left;simp only[hp,Qb h]
  ·exact absurd h hid
  ·right;simp only[hp];rw[QE];simp;omega
 have hgetn:hp (H++[ob]) H.length=some ob:=by simp[hp]
 refine⟨ρ',⟨hle,fun id p h k =>?_⟩,by simp[ρ',pl],⟨?_,?_,?_⟩,⟨h1,h2,h3,by rw[hw];simp,fun b hb _=>hold b hb,fun id p h k =>?_⟩⟩
 ·by_cases c:id=H.length
  ·subst c;omega
  ·simp only[ρ',if_neg c]at h;rw[k]at h;cases h
 ·intro id p h
  by_cases c:id=H.length
  ·simp only[ρ',if_pos c,Qm]at h;subst h;rw[hw];simp[pl]
  ·simp only[ρ',if_neg c]at h;have:=E.bound id p h;rw[hw];simp;omega
 ·intro id ob' p Y h hlv
  by_cases c:id=H.length
  ·subst c
   rw[hgetn]at Y;cases Y
   simp only[ρ',if_true,Qm]at h;subst h
   refine⟨by simp[pl,Z],rfl,cells',el,fr,hnew,rfl,?_,?_,fun _=>hfr⟩
   ·obtain⟨ex,hex⟩:=hl'
    have:cells'.size=cells'.toList.length:=by simp
    simp only[pl]
    rw[this,hex,Qh,hc.length];omega
   ·intro i u hi
    refine⟨hone u (Qw hi),?_⟩
    obtain⟨u',e1,e2⟩:=hc.get hi
    obtain⟨ex,hex⟩:=hl'
    refine⟨u',?_,e2.mono hle⟩
    simp only[pl,QH]
    rw[<-ZQ,hex,Qb]
    ·exact e1
    ·exact(Qf.1 e1).1
  ·rcases O id c with U|U
   ·rw[U]at Y
    simp only[ρ',if_neg c]at h
    exact(E.obj id ob' p Y h hlv).same_block hle (hold _ (E.bound _ _ h))
   ·rw[U]at Y;cases Y
 ·intro i j oi oj pi pj hi hj J I a1 a2 a3 hij
  by_cases ci:i=H.length
  ·by_cases cj:j=H.length
   ·omega
   ·simp only[ρ',if_pos ci,Qm]at J
    simp only[ρ',if_neg cj]at I
    have:=E.bound _ _ I
    subst J;simp only[pl];omega
  ·simp only[ρ',if_neg ci]at J
   by_cases cj:j=H.length
   ·simp only[ρ',if_pos cj,Qm]at I
    have:=E.bound _ _ J
    subst I;simp only[pl];omega
   ·simp only[ρ',if_neg cj]at I
    rcases O i ci with U|U<;>rcases O j cj with h5|h5
    ·rw[U]at hi;rw[h5]at hj;exact E.inj i j oi oj pi pj hi hj J I a1 a2 a3 hij
    ·rw[h5]at hj;cases hj
    ·rw[U]at hi;cases hi
    ·rw[U]at hi;cases hi
 ·left
  by_cases c:id=H.length
  ·simp only[ρ',if_pos c,Qm]at h;subst h;exact Qj _
  ·simp only[ρ',if_neg c]at h;rw[k]at h;cases h
end
end Go.Ev
namespace Go.Ev
open Go.RowKit
section
variable{P:Program}{o:Oper}{e:Env}{H H':List Ob}{v:Value}{t:Option (List Nat)}{M:List Nat}
section
variable{ty el:TypeId}{ρ':Pl}{n b s es:Nat}{x:Operand}
def Vl(el:TypeId)(cells:Array Value)(w:World):(newRow el cells).run P w=.ok ⟨w.heap.size,0,none⟩ { w with heap:=w.heap.push (.cells cells el) }:=by
 simp[newRow]
def D0{ob:Ob}(U:ob.live=true)(I:ob.own=true)
 (h:∀(ρ:Pl) (a:Act) (w:World),OpRel ρ e a o.op.operands.toList->∃(v':Value) (w':World) (cells':Array Value) (el:TypeId) (fr:Nat×Nat) (l':List Value),
 (execOp a.eval o).run P w=.ok (.value v') w'/\w'.heap=w.heap.push (.cells cells' el fr)/\w'.os=w.os/\w'.tape=w.tape/\w'.output=w.output/\LRel ρ ob.c l'/\(∃ex,cells'.toList=l'++ex) /\
 (∀x∈ob.c,oneCellB x=true)/\Unfr fr cells'.size /\
 ∀ρ':Pl,ρ' H.length=some ⟨w.heap.size,0,cells'.size,ob.es,if ob.exact then .exact else .grown⟩->VRel ρ' v v'):OpOk P o e H v (H++[ob]):=by
  intro ρ a w O E hfree
  obtain⟨v',w',cells',el,fr,l',h1,h2,h3,h4,h5,h6,h7,Z,Y,J⟩:=h ρ a w O
  obtain⟨ρ',e1,e2,e3,e4⟩:=Af E (hfree H.length (Qj _) wd) U I h2 h3 h4 h5 rfl h6 h7 Z Y
  exact⟨.value v',v',w',ρ',h1,rfl,⟨by simpa using e1,J ρ' e2,e3,e4⟩⟩
def FO(h:ρ' n=some ⟨b,0,s,es,.exact⟩):VRel ρ' (.pointer n) (.pointer b) :=
 .ptr (a:=⟨n,0,none⟩) h rfl
def mT{zero:List Value}(hz:YI P ty=some zero)(Y:o.op=.alloc ty)(U:Q2 H e (.alloc zero)=some (v,H',t,M)):OpOk P o e H v H':=by
 simp only[Q2,Qm,Prod.mk.injEq]at U
 obtain⟨rfl,rfl,_,_⟩:=U
 refine D0 rfl rfl fun ρ a w O =>?_
 obtain⟨E,z,J,I⟩:=YV (P:=P) (w:=w) hz
 refine⟨_,{ w with heap:=w.heap.push (.cells z.cells ty) },z.cells,ty,(0,0),zero,?_,rfl,rfl,rfl,rfl,LRel.same E,⟨[],by simp[I]⟩,fun x O=>XC (by simp at E;exact E x O),.inl rfl,fun ρ' h=>FO h⟩
 simp[execOp,Y,Instr.alloc,J,newVar,Vl]
def xT(U:o.op=.box ty x)(E:Q2 H e (.box x)=some (v,H',t,M)):OpOk P o e H v H':=by
 simp only[Q2,Qe]at E
 obtain⟨Y,J,E⟩:=E
 split at E
 ·rename_i Z
  simp only[Qm,Prod.mk.injEq]at E
  obtain⟨rfl,rfl,_,_⟩:=E
  refine D0 rfl rfl fun ρ a w O =>?_
  rw[U]at O
  have I:=O x (by simp[Op.operands]) Y J
  refine⟨_,{ w with heap:=w.heap.push (.cells (a.eval x).cells ty) },(a.eval x).cells,ty,(0,0),(a.eval x).cells.toList,?_,rfl,rfl,rfl,rfl,I.cells,⟨[],by simp⟩,Rl I Z,.inl rfl,fun ρ' h=>FO h⟩
  simp[execOp,U,Instr.box,newVar,Vl]
 ·cases E
def Y5{len cap cap':Nat}{k:Kind}(h:ρ' n=some ⟨b,0,s,es,k⟩)(J:len<=cap)(I:cap<=cap')(E:k=.exact/\cap'=cap\/k=.grown/\(cap'=cap\/cap'*es<=s)) :
  VRel ρ' (.slice n len cap) (.slice b len cap'):=by
 refine .slice (a:=⟨n,0,none⟩) h rfl (.inl rfl) (.inl rfl) (.inl rfl) J I ?_
 unfold Place.capOk
 rcases E with⟨rfl,rfl⟩|⟨rfl,E⟩
 ·rfl
 ·simpa using E
def Hj{z:Array Value}:∀n,((GS (n*z.size)).map fun i=>z[i%z.size]!).toList=(Qc n z.toList).flatten:=by
 intro n
 induction n with
 |zero=>simp
 |succ n E =>
  rw[List.replicate_succ',List.flatten_append,<-E]
  simp only[Wy,Array.toList_range,QO,List.flatten_nil,QF]
  rw[Zl,Xa,List.range_add,List.map_append]
  congr 1
  apply ZE
  intro i
  simp only[UR,J5,Function.comp]
  by_cases h:i<z.size
  ·rw[Yp h]
   simp only[Y0,ZQ]
   have I:(n*z.size+i)%z.size=i:=by
    rw[Xu,KJ,Q6 h]
   show some (z[(n*z.size+i)%z.size]!)=z[i]?
   rw[I]
   rw[getElem!_pos z i h,ZL h]
  ·rw[QE (by simp;omega),QE (by simp;omega)];rfl
def Cl{p:Value->Bool}{z:List Value}(h:z.all p=true):∀n,(Qc n z).flatten.all p=true
 |0=>by simp
 |n+1=>by rw[Xr,QO,List.all_append,h,Cl h n];rfl
def wrap_i64{n:Int}(h:0<=n)(E:n<2^63):IntKind.i64.wrap n=n:=by
 have e:n%(2^64:Int)=n:=Int.emod_eq_of_lt h qr
 show(if(true&&decide (n%(2^64:Int)≥2^63))=true then n%(2^64:Int)-2^64 else n%(2^64:Int))=n
 rw[e,if_neg]
 simp;omega
def Ew{ps:Array (Nat×Operand)}{zero:List Value}{O:List (Nat×Nat×Operand)}{len s:Nat}(hu:P.underlying ty=some (.slice el))(hz:YI P el=some zero)(hs:XB P el=some s)
 (hlen:len*s<=2^24) (hs0:0<s) (hzl:zero.length=s) (hc:Vz (fun i=>some (i*s,s)) ps.toList=some O) (ho:o.op=.buildSlice ty len ps)
 (hr:Q2 H e (.buildSlice (Qc len zero).flatten len O)=some (v,H',t,M)):OpOk P o e H v H':=by
  simp only[Q2,Qe,Qm,Prod.mk.injEq]at hr
  obtain⟨vs,hvs,cs,hcs,rfl,rfl,_,_⟩:=hr
  refine D0 rfl rfl fun ρ a w Y =>?_
  rw[ho]at Y
  have hx':OpRel ρ e a (ps.toList.map (·.2)):=Y.of_sub fun y hy=>by simpa [Op.operands]using hy
  have hpr:=Rf hx' hc hvs
  obtain⟨hzs,z,hz1,I⟩:=YV (P:=P) (w:=w) hz
  have hzz:z.cells.size=s:=by rw[<-hzl,<-I];simp
  have hzall:=fun n=>Cl hzs n
  have KW:∀U:Array Value,(U=if len*s=0 then #[]else z.cells)->((GS (len*s)).map (U[· % U.size]!)).toList=(Qc len zero).flatten:=by
    intro U E
    by_cases J:len*s=0
    · have hl0:len=0:=by rcases Nat.mul_eq_zero.1 J with h|h<;>omega
      simp[hl0]
    · rw[if_neg J]at E;subst E
      rw[<-hzz,<-I];exact Hj len
  obtain⟨r',Z,e2,e3,e4⟩:=bZ hpr (cs:=(Qc len zero).flatten) (cs':=(GS (len*s)).map ((if len*s=0 then #[]else z.cells)[· % (if len*s=0 then #[]else z.cells:Array Value).size]!))
    (by rw[KW _ rfl];exact LRel.same (hzall len)) (fun x Y=>XC (ZX.1 (hzall len) x Y)) hcs
  refine⟨_,{ w with heap:=w.heap.push (.cells r' el) },r',el,(0,0),r'.toList,?_,rfl,rfl,rfl,rfl,e2,⟨[],by simp⟩,e4,.inl rfl,fun ρ' h=>Y5 h (Qj _) (Qj _) (.inl ⟨rfl,rfl⟩)⟩
  have em:(ps.map fun(i,x)=>(i,a.eval x)).toList=ps.toList.map fun p=>(p.1,a.eval p.2):=by simp
  simp only[execOp,ho,Instr.buildSlice,Sem.run_bind,run_underlying hu,Result.andThen_ok,Xt hs,Sem.run_ite,if_neg (show ¬len*s>2^24 by omega),Sem.run_pure]
  by_cases J:len*s=0
  · simp only[if_pos J,Result.andThen_ok]at Z ⊢
    rw[em,Z]
    simp[Vl]
  · simp only[if_neg J,hz1,Result.andThen_ok]at Z ⊢
    rw[em,Z]
    simp[Vl]
def IM{l c:Operand}{zero:List Value}{bytes:Nat}(hu:P.underlying ty=some (.slice el))(hz:YI P el=some zero)(hsz:XB P el=some zero.length)(hb:BO P el=some bytes)(ho:o.op=.makeSlice ty l c)
 (E:Q2 H e (.makeSlice zero bytes l c)=some (v,H',t,M)):OpOk P o e H v H':=by
  simp only[Q2,Qe]at E
  obtain⟨lv,hlv,cv,hcv,E⟩:=E
  split at E
  · rename_i k1 Z k2 c0
    split at E
    · rename_i hc
      obtain⟨h1,h2,h3,h4,h5⟩:=hc
      simp only[Qm,Prod.mk.injEq]at E
      obtain⟨rfl,rfl,_,_⟩:=E
      refine D0 rfl rfl fun ρ a w O =>?_
      rw[ho]at O
      have hl':=(O l (by simp[Op.operands]) _ hlv).int
      have hc':=(O c (by simp[Op.operands]) _ hcv).int
      obtain⟨hzs,z,hz1,J⟩:=YV (P:=P) (w:=w) hz
      obtain⟨i,hi1,hi2⟩:=TS (P:=P) (w:=w) hb
      have hzz:z.cells.size=zero.length:=by rw[<-J];simp
      have hc47:c0<=2^47:=by
        have:c0*1<=c0*bytes:=Int.mul_le_mul_of_nonneg_left qr qr
        omega
      have wl:=wrap_i64 h1 (by omega:Z<2^63)
      have wc:=wrap_i64 (by omega:0<=c0) (by omega:c0<2^63)
      have KW:∀Y:Array Value,(Y=if c0.toNat*zero.length=0 then #[]else z.cells)->((GS (c0.toNat*zero.length)).map (Y[· % Y.size]!)).toList=(Qc c0.toNat zero).flatten:=by
        intro Y I
        by_cases U:c0.toNat*zero.length=0
        · have hl0:c0.toNat=0:=by rcases Nat.mul_eq_zero.1 U with h|h<;>omega
          simp[hl0]
        · rw[if_neg U]at I;subst I
          rw[<-hzz,<-J];exact Hj _
      have hzall:=Cl hzs c0.toNat
      refine⟨_,{ w with heap:=w.heap.push (.cells ((GS (c0.toNat*zero.length)).map ((if c0.toNat*zero.length=0 then #[]else z.cells)[· % (if c0.toNat*zero.length=0 then #[]else z.cells:Array Value).size]!)) el) },(GS (c0.toNat*zero.length)).map ((if c0.toNat*zero.length=0 then #[]else z.cells)[· % (if c0.toNat*zero.length=0 then #[]else z.cells:Array Value).size]!),el,(0,0),(Qc c0.toNat zero).flatten,?_,rfl,rfl,rfl,rfl,LRel.same hzall,⟨[],by rw[KW _ rfl];simp⟩,
        fun x O=>XC (by simp only[ZX]at hzall;exact hzall x O),.inl rfl,fun ρ' h=>Y5 h qr (Qj _) (.inl ⟨rfl,rfl⟩)⟩
      have ht:¬((decide (c0<0) || decide ((i.bytes:Int)*c0>2^48) || decide (Z<0) || decide (Z>c0))=true):=by
        rw[hi2]
        have:(bytes:Int)*c0=c0*bytes:=Int.mul_comm _ _
        rw[this]
        simp only[Y1,decide_eq_true_eq,not_or]
        refine⟨⟨⟨by omega,by omega⟩,by omega⟩,by omega⟩
      simp only[execOp,ho,Instr.makeSlice,Sem.run_bind,run_underlying hu,Result.andThen_ok,hl',hc',asInt,asIntOf,Sem.run_pure,hi1,wl,wc,Sem.run_ite,if_neg ht,run_askRoom,Xt hsz]
      by_cases U:c0.toNat*zero.length=0
      · simp only[if_pos U,Result.andThen_ok]
        simp[Vl]
      · simp only[if_neg U,hz1,Result.andThen_ok]
        simp[Vl]
    · cases E
  · cases E
def sX{n:Option Nat}(ha:Bb P ty=some n)(ho:o.op=.load ty x)(E:Q2 H e (.load n x)=some (v,H',t,M)):OpOk P o e H v H':=by
 simp only[Q2,Qe]at E
 obtain⟨xv,hxv,E⟩:=E
 split at E
 ·rename_i ad
  simp only[Qe]at E
  obtain⟨ob,hob,E⟩:=E
  split at E
  ·simp only[Qe,Qm,Prod.mk.injEq]at E
   obtain⟨u,hu,rfl,rfl,_,_⟩:=E
   obtain⟨Y,U⟩:=Vp hob
   intro ρ a w Z I _
   rw[ho]at Z
   obtain⟨pl,e1,e2,e3⟩:=(Z x (by simp[Op.operands]) _ hxv).ptr_inv
   obtain⟨_,_,cs,el,fr,g1,g2,g3,g4,_⟩:=I.obj _ _ _ Y e1 U
   obtain⟨b,hb,J,hk⟩:=TV (P:=P) (w:=w) ha
   cases n with
   |none =>
    simp only[KH]at J;subst J
    obtain⟨_,O,g5,g6⟩:=g4 ad.off u hu
    refine⟨.value O,O,w,ρ,?_,rfl,.refl _ _ _,g6,I,.refl _ _ _ _⟩
    have hc:w.cell? ⟨pl.block,pl.base+ad.off,none⟩=some O:=by rw[T1 g1];exact g5
    simp[execOp,ho,e3,Instr.loadAt,Instr.sureAddr,loadVar,hb,hc]
   |some n =>
    simp only[Bc]at J;subst J
    simp only[Jq]at hu
    split at hu
    ·rename_i hle
     cases hu
     refine⟨.value (.agg ((cs.toList.drop (pl.base+ad.off)).take n).toArray),_,w,ρ,?_,rfl,.refl _ _ _,?_,I,.refl _ _ _ _⟩
     ·have:=run_loadCells (P:=P) (n:=n) (off:=pl.base+ad.off) g1 qr
      simp only[execOp,ho,e3,Instr.loadAt,Instr.sureAddr,loadVar,hb,Xt (hk n rfl),this,Sem.run_bind,Result.andThen_ok,Sem.run_pure,Sem.run_ite,if_true]
     ·refine .agg (LRel.of_get (by simp;omega) fun i u hi =>?_) fun x Z =>?_
      ·simp only[QN,Zf]at hi ⊢
       split at hi
       ·rename_i hlt
        obtain⟨_,O,g5,g6⟩:=g4 _ u hi
        exact⟨O,by rw[if_pos hlt];simpa [QV]using g5,g6⟩
       ·cases hi
      ·have hx':=Zq (QG Z)
       obtain⟨i,hi⟩:=Xe hx'
       exact(g4 i x hi).1
    ·cases hu
  ·cases E
 ·cases E
end
end
end Go.Ev
namespace Go.Ev
open Go.RowKit
section
variable{P:Program}{o:Oper}{e:Env}{H H':List Ob}{v:Value}{t:Option (List Nat)}{M:List Nat}
section
variable{el s:TypeId}{x:Operand}{ρ:Pl}{w:World}{pl:Place}{vs' vs:List Value}{a:Addr}
def Lb(H:List Ob)(id:Nat)(ob:Ob)(h:id<H.length)(j:Nat):hp (H.set id ob) j=if j=id then some ob else hp H j:=by
 simp only[hp,Ky]
 by_cases c:id=j
 ·subst c;simp[h]
 ·simp[c,Ne.symm c]
def P3(E:RelF ρ (hp H) w){id off:Nat}{ob:Ob}(hob:H[id]?=some ob)(hl:ob.live=true)(I:ob.own=true)(O:ρ id=some pl){vs:List Value}(hv:LRel ρ vs vs')
 (hone:∀x∈vs,oneCellB x=true) (hle:off+vs.length<=ob.c.length) {cs:Array Value} {fr:Nat×Nat} (hb:w.heap[pl.block]?=some (.cells cs el fr)) {w':World}
    (hw:w'={ w with heap:=w.heap.setIfInBounds pl.block (.cells (cs.toList.take (pl.base+off)++(vs'++cs.toList.drop (pl.base+off+vs'.length))).toArray el fr) }) :
    RelF ρ (hp (H.set id { ob with c:=splice ob.c off vs })) w'/\Frm ρ ρ (hp H) (hp (H.set id { ob with c:=splice ob.c off vs })) w w':=by
  have hid:id<H.length:=(Qf.1 hob).1
  have hobj:=E.obj id ob pl hob O hl
  obtain⟨k1,k2,cs0,el0,fr0,g1,g2,g3,g4,g5⟩:=hobj
  rw[hb]at g1
  simp only[Qm,Obj.cells.injEq]at g1
  obtain⟨rfl,rfl,rfl⟩:=g1
  have hbs:pl.block<w.heap.size:=E.bound _ _ O
  have hvl:=hv.length
  have hnew:w'.heap[pl.block]?=some (.cells (cs.toList.take (pl.base+off)++(vs'++cs.toList.drop (pl.base+off+vs'.length))).toArray el fr):=by
    subst hw;simp[hbs]
  have hold:∀b,b≠pl.block->w'.heap[b]?=w.heap[b]? := fun b Z=>by subst hw;simp[Xp,Ne.symm Z]
  have hsz:w'.heap.size=w.heap.size:=by subst hw;simp
  have hcl:cs.toList.length=cs.size:=by simp
  refine⟨⟨?_,?_,?_⟩,⟨by subst hw;rfl,by subst hw;rfl,by subst hw;rfl,by rw[hsz];exact Qj _,?_,fun i p h k=>by rw[k]at h;cases h⟩⟩
  · intro i p h;rw[hsz];exact E.bound i p h
  · intro i oi p hi Y hli
    rw[Lb _ _ _ hid]at hi
    by_cases c:i=id
    · subst c
      rw[if_pos rfl]at hi;cases hi
      rw[O]at Y;cases Y
      refine⟨k1,k2,_,el,fr,hnew,?_,?_,?_,?_⟩
      · rw[<-g2];simp;omega
      · simp only;rw[TQ hle];simp;omega
      · intro i u hu
        have hsp:∀x∈splice ob.c off vs,oneCellB x=true:=by
          refine TP (fun x hx =>?_) hone
          obtain⟨j,hj⟩:=Xe hx
          exact(g4 j x hj).1
        refine⟨hsp u (Qw hu),?_⟩
        simp only at hu
        rw[MV hle]at hu
        rw[WW]at hu
        simp only[Q0,Zg (show off<=ob.c.length by omega),QN]at hu
        rw[<-ZQ]
        simp only
        rw[WW]
        simp only[Q0,hcl,Zg (show pl.base+off<=cs.size by omega),QN]
        by_cases c1:i<off
        · rw[if_pos c1,if_pos c1]at hu
          obtain⟨_,u',e1,e2⟩:=g4 i u hu
          refine⟨u',?_,e2⟩
          rw[if_pos qr,if_pos qr];simpa using e1
        · rw[if_neg c1]at hu
          rw[if_neg qr,show pl.base+i-(pl.base+off)=i-off by omega]
          rw[WW]at hu ⊢
          by_cases c2:i-off<vs.length
          · rw[if_pos c2]at hu
            rw[if_pos qr]
            exact hv.get hu
          · rw[if_neg c2]at hu
            rw[if_neg qr]
            rw[Zf]at hu ⊢
            rw[show off+vs.length+(i-off-vs.length)=i by omega]at hu
            rw[show pl.base+off+vs'.length+(i-off-vs'.length)=pl.base+i by omega]
            obtain⟨_,u',e1,e2⟩:=g4 i u hu
            exact⟨u',by simpa using e1,e2⟩
      · intro _
        have hs:(cs.toList.take (pl.base+off)++(vs'++cs.toList.drop (pl.base+off+vs'.length))).toArray.size=cs.size:=by simp;omega
        rw[hs]
        exact g5 I
    · rw[if_neg c]at hi
      have Z:p.block≠pl.block:=fun h=>E.inj id i ob oi pl p hob hi O Y hl I hli (Ne.symm c) h.symm
      exact(E.obj i oi p hi Y hli).same_block (.refl _) (hold _ Z)
  · intro i j oi oj pi pj hi hj hpi hpj a1 a2 a3 hij
    rw[Lb _ _ _ hid]at hi hj
    have hi':∃J,hp H i=some J/\J.live=true/\J.own=true:=by
      split at hi
      · subst_vars;cases hi;exact⟨ob,hob,hl,I⟩
      · exact⟨oi,hi,a1,a2⟩
    have hj':∃U,hp H j=some U/\U.live=true:=by
      split at hj
      · subst_vars;cases hj;exact⟨ob,hob,hl⟩
      · exact⟨oj,hj,a3⟩
    obtain⟨J,b1,b2,b3⟩:=hi'
    obtain⟨U,b4,b5⟩:=hj'
    exact E.inj i j J U pi pj b1 b4 hpi hpj b2 b3 b5 hij
  · intro b hb' h
    exact hold b fun hbe=>h id ob pl hob O hl I hbe.symm
def Bm{H':List Ob}(h:storeAt H a vs=some H'):∃ob,H[a.block]?=some ob/\ob.live=true/\ob.own=true/\a.spot=none/\a.off+vs.length<=ob.c.length/\H'=H.set a.block { ob with c:=splice ob.c a.off vs }:=by
 simp only[storeAt,Qe]at h
 obtain⟨ob,J,h⟩:=h
 obtain⟨I,E⟩:=Vp J
 split at h
 ·rename_i hc
  cases h
  exact⟨ob,I,E,hc.1,by simpa using hc.2.1,hc.2.2,rfl⟩
 ·cases h
def Y3(E:RelF ρ (hp H) w)(O:ρ a.block=some pl)(h:storeAt H a vs=some H')(hv:LRel ρ vs vs')(I:∀x∈vs,oneCellB x=true) :
  ∃w',(storeCells ⟨pl.block,pl.base+a.off,none⟩ vs').run P w=.ok () w'/\RelF ρ (hp H') w'/\Frm ρ ρ (hp H) (hp H') w w'/\H'.length=H.length:=by
 obtain⟨ob,h1,Z,Y,h4,h5,rfl⟩:=Bm h
 obtain⟨_,_,cs,el,fr,g1,g2,g3,g4,g5⟩:=E.obj _ _ _ h1 O Z
 have hvl:=hv.length
 have J:∀x∈vs',oneCellB x=true:=by
  intro x hx
  obtain⟨i,hi⟩:=Xe hx
  have hlt:=(Qf.1 hi).1
  obtain⟨x',e1,e2⟩:=hv.get (Qg (show i<vs.length by omega))
  rw[hi]at e1;cases e1
  rw[e2.oneCell];exact I _ (Xq _)
 have U:=We (P:=P) (b:=pl.block) (off:=pl.base+a.off) (el:=el) (fr:=fr) vs' 0 cs w g1 qr J (fun k hk=>(g5 Y).free qr)
 simp only[ZM]at U
 obtain⟨r1,r2⟩:=P3 E h1 Z Y O hv I h5 g1 rfl
 exact⟨_,U,r1,r2,by simp⟩
def mM{ty:TypeId}{y:Operand}{n:Nat}(hs:XB P ty=some n)(ho:o.op=.store ty x y)(E:Q2 H e (.store n x y)=some (v,H',t,M)):OpOk P o e H v H':=by
 simp only[Q2,Qe]at E
 obtain⟨xv,U,yv,J,E⟩:=E
 split at E
 ·rename_i ad
  split at E
  ·rename_i hc
   simp only[Qe,Qm,Prod.mk.injEq]at E
   obtain⟨H1,hst,rfl,rfl,_,_⟩:=E
   intro ρ a w Y I _
   rw[ho]at Y
   obtain⟨pl,e1,e2,e3⟩:=(Y x (by simp[Op.operands]) _ U).ptr_inv
   have O:=Y y (by simp[Op.operands]) _ J
   obtain⟨w',r1,r2,r3,r4⟩:=Y3 (P:=P) I e1 hst O.cells (Rl O hc.2)
   refine⟨.skip,undef,w',ρ,?_,rfl,⟨.refl _ _ _,.tuple .nil,r2,r3⟩⟩
   have Z:¬((a.eval y).cells.size≠n):=by
    have:=O.cells.length
    simp only[Eg]at this
    omega
   simp only[execOp,ho,e3,Instr.storeAt,Instr.sureAddr,storeVar,Xt hs,Sem.run_bind,Sem.run_pure,Result.andThen_ok,Sem.run_ite,if_neg Z,r1]
  ·cases E
 ·cases E
def xQ{d:TypeId}(hs:P.underlying s=some .string)(hd:P.underlying d=some (.slice el))(Z:P.underlying el=some (.int .u8))(ho:o.op=.convert s d x)
 (I:Q2 H e (.s2b x)=some (v,H',t,M)):OpOk P o e H v H':=by
  simp only[Q2,Qe]at I
  obtain⟨xv,O,I⟩:=I
  split at I
  · rename_i E
    split at I
    · rename_i hsz
      simp only[Qm,Prod.mk.injEq]at I
      obtain⟨rfl,rfl,_,_⟩:=I
      refine D0 rfl rfl fun ρ a w hx =>?_
      rw[ho]at hx
      have U:=(hx x (by simp[Op.operands]) _ O).string
      obtain⟨cap,hcap1,hcap2⟩:∃cap,E.size<=cap/\Question.cut (.appendCap E.size 0 el) (w.tape w.drawn (.appendCap E.size 0 el))=cap:=⟨_,by simp[Question.cut],rfl⟩
      refine⟨.slice w.heap.size E.size cap,{ w with drawn:=w.drawn+1,heap:=w.heap.push (.cells (E.data.map (fun b=>Value.int .u8 b.toNat)++Y2 (cap-E.size) (.int .u8 0)) el (cap,cap+1)) },_,el,(cap,cap+1),E.data.toList.map fun b=>.int .u8 b.toNat,?_,rfl,rfl,rfl,rfl,
        LRel.same (by rw[ZX];intro y J;simp[Ob.grown]at J;obtain⟨b,_,rfl⟩:=J;rfl),⟨(Y2 (cap-E.size) (.int .u8 0)).toList,by simp⟩,?_,?_,fun ρ' h=>Y5 h (Qj _) hcap1 (.inr ⟨rfl,.inr ?_⟩)⟩
      · have Y:E.data.size=E.size:=rfl
        simp only[execOp,ho,U,convert,run_underlying hs,run_underlying hd,run_underlying Z,Conv.stringToBytes,Sem.run_bind,Result.andThen_ok,run_choose,Question.forced,Z6,if_false,hcap2,Vl,markStringish,run_shape,World.shape?]
        have hsize:(E.data.map (fun b=>Value.int .u8 b.toNat)++Y2 (cap-E.size) (Value.int .u8 0)).size=cap:=by simp[Y];omega
        simp only[Array.getElem?_push_size,run_freeze,Result.andThen_ok,Sem.run_pure,hsize,World.freeze,Nat.one_ne_zero,if_false]
        congr 2
        apply VB
        intro k
        rw[KM,Eh,Eh]
        by_cases c:k=w.heap.size
        · subst c;simp
        · simp[c,Ne.symm c]
      · intro y J;simp[Ob.grown]at J;obtain⟨b,_,rfl⟩:=J;rfl
      · right;simp[show E.data.size=E.size from rfl];omega
      · simp[Ob.grown,show E.data.size=E.size from rfl];omega
    · cases I
  · cases I
def dQ(hs:P.underlying s=some (.slice el))(hel:P.underlying el=some (.int .u8))(ho:o.op=.convert s s x)
 (I:Q2 H e (.convSl x)=some (v,H',t,M)):OpOk P o e H v H':=by
  simp only[Q2,Qe]at I
  obtain⟨xv,hxv,I⟩:=I
  split at I
  · rename_i ad n c
    simp only[Qe]at I
    obtain⟨ob,hob,I⟩:=I
    split at I
    · rename_i hc
      simp only[Qm,Prod.mk.injEq]at I
      obtain⟨rfl,rfl,_,_⟩:=I
      obtain⟨h1,h2⟩:=Vp hob
      intro ρ a w hx E _
      rw[ho]at hx
      have hv:=hx x (by simp[Op.operands]) _ hxv
      generalize hax:a.eval x=xv' at hv
      cases hv with
      |same h=>simp[ZD]at h
      |@slice _ pl _ _ a' cap' q1 q2 q3 q4 q5 q6 q7 q8 =>
        obtain⟨k1,k2,cs,Z,fr,g1,g2,g3,g4,g5⟩:=E.obj _ _ _ h1 q1 h2
        have hnf:pl.kind≠.foreign:=by rw[k1,if_pos hc.1];split<;>decide
        have q3w:=q3
        have q4w:=q4
        replace q3:=q3.resolve_right fun h=>hnf h.2
        replace q4:=q4.resolve_right fun h=>hnf h.2
        have hbs:pl.block<w.heap.size:=E.bound _ _ q1
        have hshape:w.shape? a'.block=some (Z,cs.size):=by rw[q4];simp[World.shape?,g1]
        have hfree:=g5 hc.1
        obtain⟨J,hfr',Y⟩:∃J:Nat×Nat,Unfr J cs.size/\(w.freeze ⟨a'.block,cs.size,none⟩ 1).heap=w.heap.modify pl.block fun _=>.cells cs Z J:=by
          obtain⟨lo,hi⟩:=fr
          refine⟨if lo==hi then(cs.size,cs.size+1)else(min lo cs.size,max hi (cs.size+1)),?_,?_⟩
          · unfold Unfr at hfree ⊢
            simp only at hfree
            split
            · right;exact Qj _
            · rename_i hne
              right
              simp only
              rcases hfree with h|h
              · subst h;simp at hne
              · omega
          · simp only[World.freeze,Nat.one_ne_zero,if_false,q4]
            apply VB
            intro k
            rw[KM,KM]
            by_cases ck:pl.block=k
            · subst ck
              rw[if_pos rfl,if_pos rfl,g1]
              rfl
            · rw[if_neg ck,if_neg ck]
        have O:(w.freeze ⟨a'.block,cs.size,none⟩ 1).os=w.os/\(w.freeze ⟨a'.block,cs.size,none⟩ 1).tape=w.tape/\(w.freeze ⟨a'.block,cs.size,none⟩ 1).output=w.output:=by simp[World.freeze]
        generalize hwn:w.freeze ⟨a'.block,cs.size,none⟩ 1=w' at Y O
        have hold:∀b,b≠pl.block->w'.heap[b]?=w.heap[b]? := fun b hb=>by rw[Y,KM,if_neg (Ne.symm hb)]
        have hnew:w'.heap[pl.block]?=some (.cells cs Z J):=by rw[Y,KM,if_pos rfl,g1];rfl
        have hsz:w'.heap.size=w.heap.size:=by rw[Y];simp
        refine⟨.value (.slice (some a') n cap'),.slice (some a') n cap',w',ρ,?_,rfl,⟨.refl _ _ _,.slice q1 q2 q3w q4w q5 q6 q7 q8,⟨?_,?_,E.inj⟩,⟨O.1,O.2.1,O.2.2,by rw[hsz];exact Qj _,?_,fun i p h k=>by rw[k]at h;cases h⟩⟩⟩
        · have hss:(s==s)=true:=by simp
          simp only[execOp,ho,hax,convert,run_underlying hs,run_underlying hel,hss,Sem.run_bind,Result.andThen_ok,markStringish,run_shape,hshape,run_freeze,Sem.run_pure,hwn]
        · intro i p h;rw[hsz];exact E.bound i p h
        · intro i oi p hi U hli
          by_cases ci:i=ad.block
          · subst ci
            rw[q1]at U;cases U
            have:oi=ob:=by have h1':hp H ad.block=some ob:=h1;rw[h1']at hi;cases hi;rfl
            subst this
            exact⟨k1,k2,cs,Z,J,hnew,g2,g3,g4,fun _=>hfr'⟩
          · have hne:p.block≠pl.block:=fun h=>E.inj ad.block i ob oi pl p h1 hi q1 U h2 hc.1 hli (Ne.symm ci) h.symm
            exact(E.obj i oi p hi U hli).same_block (.refl _) (hold _ hne)
        · intro b _ hno
          exact hold b fun h=>hno ad.block ob pl h1 q1 h2 hc.1 h.symm
    · cases I
  · cases I
end
end
end Go.Ev
namespace Go.Ev
open Go.RowKit
section
variable{P:Program}{o:Oper}{e:Env}{H H':List Ob}{v:Value}{t:Option (List Nat)}{M:List Nat}
section
variable{x:Operand}{el td:TypeId}{ρ:Pl}{x':Value}
def Gt{w:World}(Y:RelF ρ (hp H) w){x:Value}{es n:Nat}{l:List Value}(hx:VRel ρ x x')(E:elemsOf H es n x=some l)(hn:∃m,lenV x=some m/\n<=m) :
  ∃l',(∀U:World,U.heap=w.heap->(Builtin.firstCells es n x').run P U=.ok l' U)/\LRel ρ l l'.toList/\l.length=n*es/\∀y∈l,oneCellB y=true:=by
 unfold elemsOf at E
 split at E
 ·cases E
  obtain⟨rfl,rfl,rfl⟩:=hx.nslice
  obtain⟨m,O,h2⟩:=hn
  simp[lenV]at O;subst O
  have:n=0:=qr
  subst this
  exact⟨#[],fun _ _=>by simp[Builtin.firstCells],.nil,by simp,by simp⟩
 ·rename_i a len cap
  simp only[Qe]at E
  obtain⟨ob,hob,E⟩:=E
  obtain⟨O,h2⟩:=Vp hob
  split at E
  ·rename_i hc
   cases E
   obtain⟨m,h3,h4⟩:=hn
   simp only[lenV,Qm]at h3;subst h3
   obtain⟨pl,a',cap',e1,e2,e3,e4,e5,e6,e7,e8,rfl⟩:=hx.slice_inv
   obtain⟨_,_,cs,el,fr,g1,g2,g3,g4,_⟩:=Y.obj _ _ _ O e1 h2
   have hlen:((ob.c.drop a.off).take (n*es)).length=n*es:=by simp;omega
   have I:∀y∈(ob.c.drop a.off).take (n*es),oneCellB y=true:=fun y J=>by
    obtain⟨i,hi⟩:=Xe (Zq (QG J))
    exact(g4 i y hi).1
   by_cases hz:n*es=0
   ·refine⟨#[],?_,?_,hlen,I⟩
    ·intro U _;simp[Builtin.firstCells,hz,loadCells,loadCellsFrom]
    ·rw[hz];simp;exact .nil
   ·have hn0:0<n:=by rcases ZP n with h|h;simp[h]at hz;exact h
    have Z:a'.off=pl.base+a.off:=by rcases e5 with h|h<;>omega
    have e3':=e3.resolve_right fun h=>by have:=h.1;omega
    have e4':=e4.resolve_right fun h=>by have:=h.1;omega
    have ha':a'=⟨pl.block,pl.base+a.off,none⟩:=by rw[Kv a' e3',e4',Z]
    refine⟨((cs.toList.drop (pl.base+a.off)).take (n*es)).toArray,?_,?_,hlen,I⟩
    ·intro U hw2
     simp only[Builtin.firstCells,ha']
     exact run_loadCells (by rw[hw2];exact g1) qr
    ·refine LRel.of_get (by simp;omega) fun i u hi =>?_
     simp only[QN,Zf]at hi ⊢
     split at hi
     ·rename_i hlt
      obtain⟨_,u',g5,g6⟩:=g4 _ u hi
      exact⟨u',by rw[if_pos hlt];simpa [QV]using g5,g6⟩
     ·cases hi
  ·cases E
 ·rename_i s
  split at E
  ·rename_i hes
   cases E
   subst hes
   obtain⟨m,O,h2⟩:=hn
   simp only[lenV,Qm]at O
   have hsz:s.data.toList.length=s.size:=by simp
   refine⟨((s.extract 0 n).data.map fun b=>.int .u8 b.toNat),fun _ _=>by simp[Builtin.firstCells,hx.string],?_,by simp;omega,?_⟩
   ·have:((s.extract 0 n).data.map fun b=>Value.int .u8 b.toNat).toList=(s.data.toList.take n).map fun b=>.int .u8 b.toNat:=by
     simp[ByteArray.data_extract]
    rw[this]
    exact LRel.same (by rw[ZX];intro y J;rw[JN]at J;obtain⟨b,_,rfl⟩:=J;rfl)
   ·intro y J;rw[JN]at J;obtain⟨b,_,rfl⟩:=J;rfl
  ·cases E
 ·cases E
def FH{x:Value}{n:Nat}(E:VRel ρ x x')(hn:lenV x=some n)(w:World):(Builtin.lenOf x').run P w=.ok n w:=by
 unfold lenV at hn
 split at hn
 ·rename_i b l c
  cases hn
  cases b with
  |none=>obtain⟨rfl,_,_⟩:=E.nslice;rfl
  |some a=>obtain⟨pl,a',cap',_,_,_,_,_,_,_,_,rfl⟩:=E.slice_inv;rfl
 ·cases hn;rw[E.string];rfl
 ·cases hn
def xU{s d:TypeId}(hs:P.underlying s=some (.slice el))(U:P.underlying el=some (.int .u8))(hd:P.underlying d=some .string)(ho:o.op=.convert s d x)
 (J:Q2 H e (.b2s x)=some (v,H',t,M)):OpOk P o e H v H':=by
  simp only[Q2,Qe]at J
  obtain⟨xv,hxv,J⟩:=J
  split at J
  · rename_i b n cap
    simp only[Qe,Qm,Prod.mk.injEq]at J
    obtain⟨cs,O,l,hl,rfl,rfl,_,_⟩:=J
    intro ρ a w hx E _
    rw[ho]at hx
    have I:=hx x (by simp[Op.operands]) _ hxv
    obtain⟨l',Y,e2,e3,e4⟩:=Gt (P:=P) E I O ⟨n,rfl,Qj _⟩
    replace Y:=Y w rfl
    have hb:∀(cs:List Value) (l:List UInt8),XS cs=some l->∃ns:List Int,cs=ns.map (Value.int .u8)/\l=ns.map fun n=>UInt8.ofNat n.toNat:=by
      intro cs
      induction cs with
      |nil=>intro l h;simp[XS]at h;subst h;exact⟨[],rfl,rfl⟩
      |cons c cs Z =>
        intro l h
        unfold XS at h
        split at h
        · rename_i heq;cases heq
        · rename_i heq
          cases heq
          simp only[Qe,Qm]at h
          obtain⟨l1,h1,rfl⟩:=h
          obtain⟨ns,rfl,rfl⟩:=Z l1 h1
          exact⟨_::ns,rfl,rfl⟩
        · cases h
    obtain⟨ns,rfl,rfl⟩:=hb cs l hl
    have hl':l'=(ns.map (Value.int .u8)).toArray:=by
      apply Ji.1
      exact e2.of_scalars (by rw[ZX];intro y hy;simp at hy;obtain⟨b,_,rfl⟩:=hy;rfl)
    have hfold:∀(ns:List Int) (r:ByteArray),ns.foldl (fun r n=>r.push (UInt8.ofNat n.toNat)) r=⟨r.data++(ns.map fun n=>UInt8.ofNat n.toNat).toArray⟩:=by
      intro ns
      induction ns with
      |nil=>intro r;simp
      |cons n ns Z =>
        intro r
        rw[XK,Z]
        congr 1
        apply Ji.1
        show((r.push (UInt8.ofNat n.toNat)).data++_).toList=_
        have:(r.push (UInt8.ofNat n.toNat)).data=r.data.push (UInt8.ofNat n.toNat):=rfl
        rw[this];simp
    refine⟨.value (.string ⟨(ns.map fun n=>UInt8.ofNat n.toNat).toArray⟩),_,w,ρ,?_,rfl,.refl _ _ _,.same rfl,E,.refl _ _ _ _⟩
    cases b with
    |none =>
      obtain⟨e5,rfl,rfl⟩:=I.nslice
      simp only[elemsOf,Qm]at O
      have:ns=[]:=by cases ns<;>simp at O;rfl
      subst this
      simp only[execOp,ho,e5,Sem.run_bind,run_convert_bytes_string w s d el none 0 0 hs U hd,Conv.bytesToString,Sem.run_pure,Result.andThen_ok]
      rfl
    |some ad =>
      obtain⟨pl,a',cap',_,_,_,_,_,_,_,_,e9⟩:=I.slice_inv
      have e10:(loadCells a' n).run P w=.ok (ns.map (Value.int .u8)).toArray w:=by
        rw[e9]at Y
        simpa [Builtin.firstCells,hl']using Y
      simp only[execOp,ho,e9,Sem.run_bind,run_convert_bytes_string w s d el (some a') n cap' hs U hd,run_bytesToString w a' n cap' ns e10,Result.andThen_ok,Sem.run_pure]
      rw[hfold]
      simp
  · cases J
def mS{z:List Value}(hu:P.underlying td=some (.slice el))(hz:YI P el=some z){c:Call}(hc1:c.callee=.builtin .clear)(hc2:c.args.toList=[x])
 (hc3:c.argTypes.toList=[td]) (ho:o.op=.call c) (I:Q2 H e (.clear z x)=some (v,H',t,M)):OpOk P o e H v H':=by
  simp only[Q2,Qe]at I
  obtain⟨dv,hdv,I⟩:=I
  have hca:c.args=#[x]:=Ji.1 hc2
  have hct:c.argTypes=#[td]:=Ji.1 hc3
  split at I
  · rename_i ad dl cap
    simp only[Qe,Qm,Prod.mk.injEq]at I
    obtain⟨H1,hst,rfl,rfl,_,_⟩:=I
    intro ρ a w hx O _
    rw[ho]at hx
    have hx':=hx x (by simp[Op.operands,Call.operands,hca]) _ hdv
    obtain⟨zs,zv,hzr,hzc⟩:=YV (P:=P) (w:=w) hz
    have hzA:zv.cells=z.toArray:=Ji.1 hzc
    have E:∀y∈(Builtin.zeroCells z.toArray dl).toList,ZD y=true:=by
      intro y hy
      simp only[Builtin.zeroCells,Wy,JN]at hy
      obtain⟨i,hi,rfl⟩:=hy
      have hi':i<dl*z.length:=by simpa using hi
      have h0:0<z.length:=by
        rcases ZP z.length with h|h
        · rw[h]at hi';omega
        · exact h
      have hm:i%z.length<z.length:=Q3 _ h0
      have:(z.toArray[i%z.toArray.size]!)=z[i%z.length]:=by simp[hm]
      rw[this]
      exact ZX.1 zs _ (Xq _)
    have U:∀a' cap',a.eval x=.slice (some a') dl cap'->(execOp a.eval o).run P w=((if dl=0 then pure ()else storeCells a' (Builtin.zeroCells z.toArray dl).toList).run P w).andThen fun _ w'=>.ok (.value (.tuple #[])) w':=by
      intro a' cap' hd
      simp only[execOp,ho,resolve,hc1,Sem.run_bind,Sem.run_pure,Result.andThen_ok,invoke,builtin,Builtin.clear_,hca,hct]
      simp only[Pn,J9,Xj,hd,VJ,JV,Sem.run_bind,run_underlying hu,Result.andThen_ok]
      cases dl with
      |zero=>simp
      |succ n =>
        simp only[Sem.run_bind,hzr,Result.andThen_ok,hzA,Sem.run_pure,if_neg (Nat.succ_ne_zero n)]
        generalize(storeCells a' (Builtin.zeroCells z.toArray (n+1)).toList).run P w=r
        cases r<;>rfl
    obtain⟨pl,a',cap',g1,g2,g3,g4,g5,g6,g7,g8,g9⟩:=hx'.slice_inv
    have Y:=fun y hy=>XC (E y hy)
    have hall:((Builtin.zeroCells z.toArray dl).toList).all ZD=true:=ZX.2 E
    obtain⟨w',r1,r2,r3,r4⟩:=Y3 (P:=P) O g1 hst (.same hall) Y
    by_cases h0:dl=0
    · subst h0
      have hnil:(Builtin.zeroCells z.toArray 0).toList=[]:=by simp[Builtin.zeroCells]
      rw[hnil]at r1
      have hw:w'=w:=by simp[storeCells]at r1;exact r1.symm
      subst hw
      refine⟨.value (.tuple #[]),_,w',ρ,?_,rfl,.refl _ _ _,.tuple .nil,r2,r3⟩
      rw[U _ _ g9];simp
    · have J:¬cap'=0:=qr
      have Z:a'.off=pl.base+ad.off:=by rcases g5 with h|h<;>omega
      have g3':=g3.resolve_right fun h=>J h.1
      have g4':=g4.resolve_right fun h=>J h.1
      have ha':a'=⟨pl.block,pl.base+ad.off,none⟩:=by rw[Kv a' g3',g4',Z]
      refine⟨.value (.tuple #[]),_,w',ρ,?_,rfl,.refl _ _ _,.tuple .nil,r2,r3⟩
      rw[U _ _ g9,ha',if_neg h0,r1];rfl
  · cases I
def sY{es:Nat}{y:Operand}{ts:List TypeId}(hu:P.underlying td=some (.slice el))(hs:XB P el=some es){c:Call}(hc1:c.callee=.builtin .copy)(hc2:c.args.toList=[x,y])
 (hc3:c.argTypes.toList=td::ts) (ho:o.op=.call c) (I:Q2 H e (.copy es x y)=some (v,H',t,M)):OpOk P o e H v H':=by
  simp only[Q2,Qe]at I
  obtain⟨dv,hdv,sv,hsv,I⟩:=I
  have Y:c.args=#[x,y]:=Ji.1 hc2
  have hct:c.argTypes[0]?=some td:=by rw[<-ZQ,hc3];rfl
  split at I
  · rename_i base dl cap
    simp only[Qe]at I
    obtain⟨sl,hsl,cs,hcs,I⟩:=I
    intro ρ a w hx J _
    rw[ho]at hx
    have hx':=hx x (by simp[Op.operands,Call.operands,Y]) _ hdv
    have Z:=hx y (by simp[Op.operands,Call.operands,Y]) _ hsv
    obtain⟨l',e1,e2,e3,e4⟩:=Gt (P:=P) J Z hcs ⟨sl,hsl,Nat.min_le_left _ _⟩
    replace e1:=e1 w rfl
    have e5:=FH (P:=P) Z hsl w
    have O:∀E cap',a.eval x=.slice E dl cap'->(execOp a.eval o).run P w=((match E with|some a=>storeCells a l'.toList|none=>pure ()).run P w).andThen fun _ w'=>.ok (.value (.int .i64 (Nat.min sl dl:Nat))) w':=by
      intro E cap' hd
      simp only[execOp,ho,resolve,hc1,Sem.run_bind,Sem.run_pure,Result.andThen_ok,invoke,builtin,Builtin.copy_,Y]
      simp only[Pn,J9,Xj,hd,hct,Sem.run_bind,run_underlying hu,Result.andThen_ok,e5,Xt hs]
      have e6:(Builtin.firstCells es (Nat.min sl dl) (a.eval y)).run P w=.ok l' w:=e1
      simp only[VJ,JV,JI,Sem.run_bind,run_underlying hu,Result.andThen_ok,e5,Xt hs,e6]
      cases E with
      |none=>simp[goInt]
      |some b=>simp only[Sem.run_bind,goInt,Sem.run_pure];generalize(storeCells b l'.toList).run P w=r;cases r<;>rfl
    cases base with
    |some ad =>
      simp only[Qe,Qm,Prod.mk.injEq]at I
      obtain⟨H1,hst,rfl,rfl,_,_⟩:=I
      obtain⟨pl,a',cap',g1,g2,g3,g4,g5,g6,g7,g8,g9⟩:=hx'.slice_inv
      by_cases hz:cap'=0
      ·
        have U:dl=0:=qr
        subst U
        have hcs0:cs=[]:=by
          have:cs.length=0:=by simpa using e3
          exact ZU this
        subst hcs0
        have hl0:l'.toList=[]:=by
          have:=e2.length
          exact ZU this.symm
        obtain⟨w',r1,r2,r3,r4⟩:=Y3 (P:=P) J g1 hst .nil wd
        have hw:w'=w:=by simp[storeCells]at r1;exact r1.symm
        subst hw
        refine⟨.value (.int .i64 (Nat.min sl 0:Nat)),_,w',ρ,?_,rfl,.refl _ _ _,.same rfl,r2,r3⟩
        rw[O _ _ g9,hl0];simp[storeCells]
      · have hoff:a'.off=pl.base+ad.off:=by rcases g5 with h|h<;>omega
        have g3':=g3.resolve_right fun h=>hz h.1
        have g4':=g4.resolve_right fun h=>hz h.1
        have ha':a'=⟨pl.block,pl.base+ad.off,none⟩:=by rw[Kv a' g3',g4',hoff]
        obtain⟨w',r1,r2,r3,r4⟩:=Y3 (P:=P) J g1 hst e2 e4
        refine⟨.value (.int .i64 (Nat.min sl dl:Nat)),_,w',ρ,?_,rfl,.refl _ _ _,.same rfl,r2,r3⟩
        rw[O _ _ g9,ha',r1];rfl
    |none =>
      dsimp only at I
      split at I
      · rename_i U
        subst U
        simp only[Qm,Prod.mk.injEq]at I
        obtain⟨rfl,rfl,_,_⟩:=I
        refine⟨.value (.int .i64 0),_,w,ρ,?_,rfl,.refl _ _ _,.same rfl,J,.refl _ _ _ _⟩
        rw[O none cap hx'.nslice.1];simp
      · cases I
  · cases I
def RelF.forget{ρ:Pl}{c c':Nat->Option Ob}{w:World}(h:RelF ρ c w)(hc:∀id ob,c' id=some ob->ob.live=true->c id=some ob):RelF ρ c' w :=
 ⟨h.bound,fun id ob pl J I E=>h.obj id ob pl (hc id ob J E) I E,
  fun i j oi oj pi pj J I E h4 U Z O Y=>h.inj i j oi oj pi pj (hc i oi J U) (hc j oj I O) E h4 U Z O Y⟩
def Frm.weaken{ρ ρ':Pl}{c c1 c':Nat->Option Ob}{w w':World}(h:Frm ρ ρ' c1 c' w w')(hc:∀id ob,c1 id=some ob->ob.live=true->c id=some ob):Frm ρ ρ' c c' w w' :=
 ⟨h.os,h.tape,h.output,h.size,fun b hb k=>h.blocks b hb fun id ob pl I E J U=>k id ob pl (hc id ob I J) E J U,
  fun id pl I E=>(h.fresh id pl I E).imp (fun z=>z) fun⟨i,ob,pl0,a1,a2,O,a4,Z,Y⟩=>⟨i,ob,pl0,hc i ob a1 O,a2,O,a4,Z,Y⟩⟩
end
end
end Go.Ev
namespace Go.Ev
open Go.RowKit
section
variable{P:Program}{o:Oper}{e:Env}{H H':List Ob}{v:Value}{t:Option (List Nat)}{M:List Nat}
def DP{w:World}{ts tx el:TypeId}{zero:List Value}{bytes n E len cap:Nat}{d:TypeDesc}{base:Option Addr}{x:Value}{old new:Array Value}{ty:TypeId}(hu:P.underlying ts=some (.slice el))(hx:P.underlying tx=some d)
  (hd:∀k,d≠.int k) (hz:YI P el=some zero) (hsz:XB P el=some zero.length) (hb:BO P el=some bytes) (hn:(Builtin.lenOf x).run P w=.ok n w) (hneed:len+n=E) (hgrow:cap<E)
  (Z:E*bytes<=2^47) (hbp:0<bytes) (hold:∀U:World,U.heap=w.heap->(Builtin.firstCells zero.length len (.slice base len cap)).run P U=.ok old U)
  (Y:∀U:World,U.heap=w.heap->(Builtin.firstCells zero.length n x).run P U=.ok new U) :
  ∃(I:Nat) (ext:Array Value),E<=I/\ext.size=(I-E)*zero.length/\(Builtin.append_ #[ts,tx] ty #[.slice base len cap,x]).run P w=.ok (.slice w.heap.size E I)
   { w with drawn:=w.drawn+1,heap:=w.heap.push (.cells (old++new++ext) el (0,0)) }:=by
 obtain⟨i,J,hi2⟩:=TS (P:=P) (w:=w) hb
 have O:∀k,(typeInfo el).run P { w with drawn:=w.drawn+k }=.ok i { w with drawn:=w.drawn+k }:=by
  intro k
  simp only[BO,QI]at hb
  obtain⟨j,hj,hjb⟩:=hb
  have:(typeInfo el).run P w=.ok j w:=by simp[typeInfo,hj]
  rw[this]at J;cases J
  simp[typeInfo,hj]
 obtain⟨hzs,z,hz1,hz2⟩:=YV (P:=P) (w:={ w with drawn:=w.drawn+1 }) hz
 let I:=Question.cut (.appendCap E cap el) (w.tape w.drawn (.appendCap E cap el))
 have hnc:E<=I:=by simp[I,Question.cut]
 refine⟨I,Builtin.zeroCells z.cells (I-E),hnc,?_,?_⟩
 ·have:z.cells.size=zero.length:=by rw[<-hz2];simp
  simp[Builtin.zeroCells,this]
 ·have hzf:(d matches .int _)=false:=by cases d<;>first|rfl|exact absurd rfl (hd _)
  have c1:¬(E<=cap):=qr
  have c2:¬((E:Int)>IntKind.i64.max/\(i.bytes=0)):=by rintro⟨_,h⟩;omega
  have c3:¬(Builtin.nextslicecap E cap*i.bytes>2^48):=by
   have:=growslice_fits hgrow (bytes:=i.bytes) (by rw[hi2];exact Z)
   omega
  have hho:=hold { w with drawn:=w.drawn+1 } rfl
  have hnn:=Y { w with drawn:=w.drawn+1 } rfl
  have h0:=O 0
  unfold Builtin.append_
  simp only[VJ,JV,JI]
  simp only[Sem.run_bind,run_underlying hu,Result.andThen_ok,Xt hsz,run_underlying hx,Sem.run_pure,hzf]
  simp only[Result.andThen_ok,Z6,if_false,hn,Sem.run_ite,Sem.run_bind,hneed,if_neg c1,YT,if_true,J,false_or]
  rw[if_neg c2]
  simp only[Sem.run_pure,Result.andThen_ok,if_neg c3,J,run_choose,Question.forced,Z6,if_false]
  have hch:Question.cut (.appendCap E cap el) (w.tape w.drawn (.appendCap E cap el))=I:=rfl
  simp only[hch,Sem.run_pure,Result.andThen_ok,O 1,run_askRoom,hho,hnn,hz1,Vl]
def Fw{x y:Operand}{ts tx el:TypeId}{zero:List Value}{bytes:Nat}{d:TypeDesc}(hu:P.underlying ts=some (.slice el))(hx:P.underlying tx=some d)(hd:∀k,d≠.int k)(hz:YI P el=some zero)
  (hsz:XB P el=some zero.length) (hb:BO P el=some bytes) {c:Call} (hc1:c.callee=.builtin .append) (hc2:c.args.toList=[x,y]) (hc3:c.argTypes.toList=[ts,tx]) (ho:o.op=.call c)
  (J:Q2 H e (.append zero.length bytes x y)=some (v,H',t,M)):OpOk P o e H v H':=by
 simp only[Q2,Qe]at J
 obtain⟨sv,hsv,xv,hxv,J⟩:=J
 have hca:c.args=#[x,y]:=Ji.1 hc2
 have hct:c.argTypes=#[ts,tx]:=Ji.1 hc3
 have hshape:∃base len cap,sv=.slice base len cap:=by
  cases sv<;>first|exact⟨_,_,_,rfl⟩|(simp[ZV]at J)
 obtain⟨base,len,cap,rfl⟩:=hshape
 unfold ZV at J
 dsimp only at J
 simp only[Qe]at J
 obtain⟨n,hn,new,hnew,J⟩:=J
 intro ρ a w hxx E hfree
 rw[ho]at hxx
 have hs':=hxx x (by simp[Op.operands,Call.operands,hca]) _ hsv
 have hy':=hxx y (by simp[Op.operands,Call.operands,hca]) _ hxv
 have hrun:(execOp a.eval o).run P w=((Builtin.append_ #[ts,tx] o.type #[a.eval x,a.eval y]).run P w).andThen fun v w'=>.ok (.value v) w':=by
  simp only[execOp,ho,resolve,hc1,Sem.run_bind,Sem.run_pure,Result.andThen_ok,invoke,builtin,hca,hct]
  simp only[Pn,J9,Xj]
 have hlen:=FH (P:=P) hy' hn w
 obtain⟨I,q1,q2,q3,q4⟩:=Gt (P:=P) E hy' hnew ⟨n,hn,Qj _⟩
 have hzf:(d matches .int _)=false:=by cases d<;>first|rfl|exact absurd rfl (hd _)
 have hin:∀Z len' cap',len'+n<=cap'->a.eval x=.slice Z len' cap'->(execOp a.eval o).run P w =
   ((match Z with|some a=>storeCells (a.add (len'*zero.length)) I.toList|none=>pure ()).run P w).andThen fun _ w'=>.ok (.value (.slice Z (len'+n) cap')) w':=by
  intro Z len' cap' hle hd
  rw[hrun,hd]
  unfold Builtin.append_
  simp only[VJ,JV,JI]
  simp only[Sem.run_bind,run_underlying hu,Result.andThen_ok,Xt hsz,run_underlying hx,Sem.run_pure,hzf]
  simp only[Z6,if_false,hlen,Result.andThen_ok,Sem.run_ite,if_pos hle,YT,if_true,Sem.run_bind,q1 w rfl]
  cases Z with
  |none=>simp
  |some b=>simp only[Sem.run_bind,Sem.run_pure];generalize(storeCells (b.add (len'*zero.length)) I.toList).run P w=r;cases r<;>rfl
 by_cases hn0:n=0
 ·rw[if_pos hn0]at J
  subst hn0
  simp only[Qm,Prod.mk.injEq]at J
  obtain⟨rfl,rfl,_,_⟩:=J
  have hnew0:I.toList=[]:=by
   have:I.toList.length=0:=by rw[<-q2.length,q3];simp
   exact ZU this
  cases base with
  |none =>
   obtain⟨e1,rfl,rfl⟩:=hs'.nslice
   refine⟨.value (.slice none 0 0),_,w,ρ,?_,rfl,.refl _ _ _,.same rfl,E,.refl _ _ _ _⟩
   rw[hin none 0 0 (Qj _) e1];simp
  |some U =>
   obtain⟨pl,a',cap',g1,g2,g3,g4,g5,g6,g7,g8,g9⟩:=hs'.slice_inv
   refine⟨.value (.slice (some a') len cap'),_,w,ρ,?_,rfl,.refl _ _ _,?_,E,.refl _ _ _ _⟩
   ·rw[hin (some a') len cap' qr g9,hnew0];simp[storeCells]
   ·rw[<-g9];exact hs'
 rw[if_neg hn0]at J
 split at J
 ·cases J
 rename_i hc
 have hc:=Decidable.of_not_not hc
 obtain⟨hfit,hbp,hes⟩:=hc
 cases base with
 |none =>
  obtain⟨e1,rfl,rfl⟩:=hs'.nslice
  simp only[and_self,if_true,Qm,Prod.mk.injEq]at J
  obtain⟨rfl,rfl,_,_⟩:=J
  obtain⟨nc,ext,k1,k2,k3⟩:=DP (P:=P) (w:=w) (base:=none) (old := #[]) (new:=I) (ty:=o.type) (len:=0) (cap:=0) hu hx hd hz hsz hb hlen rfl qr hfit hbp (fun w2 _=>by simp[Builtin.firstCells]) q1
  have hf:=hfree H.length (Qj _) wd
  simp only[QH]at k1 k2 k3
  obtain⟨ρ',e2,e3,e4,e5⟩:=Af (ob:=Ob.grown zero.length new) (w':={ w with drawn:=w.drawn+1,heap:=w.heap.push (.cells (#[]++I++ext) el (0,0)) }) E hf rfl rfl rfl rfl rfl rfl rfl q2 ⟨ext.toList,by simp⟩ q4 (.inl rfl)
  refine⟨.value (.slice w.heap.size n nc),_,_,ρ',by rw[hrun,e1,k3];rfl,rfl,⟨by simpa using e2,Y5 e3 (Qj _) k1 (.inr ⟨rfl,.inr ?_⟩),e4,e5⟩⟩
  have:I.size=n*zero.length:=by have:=q2.length;simp at this;omega
  have h2:nc*zero.length=n*zero.length+(nc-n)*zero.length:=by rw[<-Zl];congr 1;omega
  simp[Ob.grown,this,k2];omega
 |some U =>
  simp only[Qe]at J
  obtain⟨ob,hob,old,hold,J⟩:=J
  obtain⟨Y,hob2⟩:=Vp hob
  obtain⟨pl,a',cap',g1,g2,g3,g4,g5,g6,g7,g8,g9⟩:=hs'.slice_inv
  have hor:=E.obj _ _ _ Y g1 hob2
  obtain⟨old',r1,r2,r3,r4⟩:=Gt (P:=P) E hs' hold ⟨len,rfl,Qj _⟩
  split at J
  ·cases J
  rename_i O
  have O:=Decidable.of_not_not O
  have hgrowth:cap'<len+n->∀(H1:List Ob),RelF ρ (hp H1) w->H1.length=H.length->(∀id ob,hp H1 id=some ob->ob.live=true->hp H id=some ob)->H'=H1++[Ob.grown zero.length (old++new)] ->
    v=.slice H.length (len+n) (len+n)->∃nx v' w' ρ',(execOp a.eval o).run P w=.ok nx w'/\IV nx v'/\Post ρ H w v H' v' w' ρ':=by
   intro hg H1 hrel1 hlen1 hsub hH' hv
   subst hH' hv
   rw[g9]at r1
   obtain⟨nc,ext,k1,k2,k3⟩:=DP (P:=P) (w:=w) (base:=some a') (old:=old') (new:=I) (ty:=o.type) hu hx hd hz hsz hb hlen rfl hg hfit hbp r1 q1
   have hf:=hfree H.length (Qj _) (by simp[hlen1])
   obtain⟨ρ',e2,e3,e4,e5⟩:=Af (H:=H1) (ob:=Ob.grown zero.length (old++new)) (w':={ w with drawn:=w.drawn+1,heap:=w.heap.push (.cells (old'++I++ext) el (0,0)) }) hrel1 (by rw[hlen1];exact hf) rfl rfl rfl rfl rfl rfl rfl (r2.append q2) ⟨ext.toList,by simp⟩
    (fun y hy=>by simp only[Ob.grown,QB]at hy;exact hy.elim (r4 y) (q4 y)) (.inl rfl)
   rw[hlen1]at e2 e3
   refine⟨.value (.slice w.heap.size (len+n) nc),_,_,ρ',by rw[hrun,g9,k3];rfl,rfl,⟨by simpa [hlen1]using e2,Y5 e3 (Qj _) k1 (.inr ⟨rfl,.inr ?_⟩),e4,e5.weaken hsub⟩⟩
   have h3:I.size=n*zero.length:=by have:=q2.length;simp at this;omega
   have h4:old'.size=len*zero.length:=by have:=r2.length;simp at this;omega
   have h2:nc*zero.length=(len+n)*zero.length+(nc-(len+n))*zero.length:=by rw[<-Zl];congr 1;omega
   have h5:(len+n)*zero.length=len*zero.length+n*zero.length:=Zl _ _ _
   simp[Ob.grown,h3,h4,k2];omega
  split at J
  ·rename_i hle
   simp only[Qe,Qm,Prod.mk.injEq]at J
   obtain⟨H1,hst,rfl,rfl,_,_⟩:=J
   have hoff:a'.off=pl.base+U.off:=by rcases g5 with h|h<;>omega
   have g3':=g3.resolve_right fun h=>by have:=h.1;omega
   have g4':=g4.resolve_right fun h=>by have:=h.1;omega
   have ha':a'=⟨pl.block,pl.base+U.off,none⟩:=by rw[Kv a' g3',g4',hoff]
   have had:U.add (len*zero.length)=⟨U.block,U.off+len*zero.length,none⟩:=by rw[Kv U g2];exact Ku _ _ _
   rw[had]at hst
   obtain⟨w',s1,s2,s3,s4⟩:=Y3 (P:=P) (a:=⟨U.block,U.off+len*zero.length,none⟩) E g1 hst q2 q4
   refine⟨.value (.slice (some a') (len+n) cap'),_,w',ρ,?_,rfl,.refl _ _ _,?_,s2,s3⟩
   ·rw[hin (some a') len cap' qr g9]
    have:a'.add (len*zero.length)=⟨pl.block,pl.base+(U.off+len*zero.length),none⟩:=by rw[ha',Ku,QV]
    simp only[this,s1,Result.andThen_ok]
   ·exact .slice g1 g2 g3 g4 g5 hle g7 g8
  ·rename_i hle
   have hkind:=hor.kind
   rw[O]at hkind
   simp only[if_true]at hkind
   split at J
   ·rename_i hex
    rw[hex]at hkind;simp only[if_true]at hkind
    simp only[Qm,Prod.mk.injEq]at J
    obtain⟨rfl,rfl,_,_⟩:=J
    have hcc:cap'=cap:=by unfold Place.capOk at g8;rw[hkind]at g8;exact g8
    exact hgrowth qr H E rfl (fun _ _ h _=>h) rfl rfl
   ·rename_i hex
    have hex':ob.exact=false:=by simpa using hex
    rw[hex']at hkind;simp only[Z6,if_false]at hkind
    split at J
    ·rename_i hes2
     simp only[Qm,Prod.mk.injEq]at J
     obtain⟨rfl,rfl,_,_⟩:=J
     have hid:U.block<H.length:=(Qf.1 Y).1
     have hsub:∀id ob',hp (H.set U.block Ob.dead) id=some ob'->ob'.live=true->hp H id=some ob':=by
      intro id ob' h hl
      rw[Lb _ _ _ hid]at h
      split at h
      ·cases h;simp[Ob.dead]at hl
      ·exact h
     have hrel1:=E.forget hsub
     by_cases hgr:cap'<len+n
     ·exact hgrowth hgr _ hrel1 wd hsub rfl rfl
     ·
      have hnf:pl.kind≠.foreign:=by rw[hkind];decide
      replace g3:=g3.resolve_right fun h=>hnf h.2
      replace g4:=g4.resolve_right fun h=>hnf h.2
      have hcap:a'.off+cap'*pl.es<=pl.size:=by
       unfold Place.capOk at g8;rw[hkind]at g8
       rcases g8 with h|h
       ·omega
       ·exact h
      have hoff:a'.off=pl.base+U.off:=by rcases g5 with h|h<;>omega
      have ha':a'=⟨pl.block,pl.base+U.off,none⟩:=by rw[Kv a' g3,g4,hoff]
      obtain⟨_,hes3,cs,el',fr,b1,b2,b3,b4,b5⟩:=hor
      have hes4:zero.length<=pl.es:=by rw[hes3];exact hes2
      have hneed:a'.off+(len+n)*zero.length<=cs.size:=by
       have h1:(len+n)*zero.length<=cap'*pl.es:=Xc qr hes4
       omega
      have h3:I.toList.length=n*zero.length:=by rw[<-q2.length,q3]
      have hmul:(len+n)*zero.length=len*zero.length+n*zero.length:=Zl _ _ _
      have hone':∀y∈I.toList,oneCellB y=true:=by
       intro y hy
       obtain⟨i,hi⟩:=Xe hy
       have hlt:=(Qf.1 hi).1
       obtain⟨x',e1,e2⟩:=q2.get (Qg (show i<new.length by rw[q3];omega))
       rw[hi]at e1;cases e1
       rw[e2.oneCell];exact q4 _ (Xq _)
      have hsr:=We (P:=P) (b:=pl.block) (off:=a'.off+len*zero.length) (el:=el') (fr:=fr) I.toList 0 cs w b1 qr hone' (fun k hk=>(b5 O).free qr)
      simp only[ZM]at hsr
      have hcl:cs.toList.length=cs.size:=by simp
      have hold2:old=(ob.c.drop U.off).take (len*zero.length)/\U.off+len*zero.length<=ob.c.length:=by
       simp only[elemsOf,hob,Qk]at hold
       split at hold
       ·rename_i hcc;cases hold;exact⟨rfl,hcc.2⟩
       ·cases hold
      have hoL:old.length=len*zero.length:=r3
      have hbs:pl.block<w.heap.size:=E.bound _ _ g1
      let cs2:Array Value:=(cs.toList.take (a'.off+len*zero.length)++(I.toList++cs.toList.drop (a'.off+len*zero.length+I.toList.length))).toArray
      let w':World:={ w with heap:=w.heap.setIfInBounds pl.block (.cells cs2 el' fr) }
      let pl':Place:=⟨pl.block,a'.off,pl.size,zero.length,.grown⟩
      let ρ':Pl:=fun id=>if id=H.length then some pl' else ρ id
      have hfr:=hfree H.length (Qj _) wd
      have hle':PlLe ρ ρ':=fun id p h=>by
       by_cases c:id=H.length
       ·subst c;rw[hfr]at h;cases h
       ·simp only[ρ',if_neg c];exact h
      have hcs2:cs2.size=cs.size:=by simp only[cs2,List.size_toArray,Qh,Q0,List.length_drop,hcl];omega
      have hnewb:w'.heap[pl.block]?=some (.cells cs2 el' fr):=by simp[w',hbs]
      have holdb:∀b,b≠pl.block->w'.heap[b]?=w.heap[b]? := fun b hne=>by simp[w',Xp,Ne.symm hne]
      have hws:w'.heap.size=w.heap.size:=by simp[w']
      have hget:∀id ob',hp (H.set U.block Ob.dead++[Ob.grown zero.length (old++new)]) id=some ob'->ob'.live=true->(id=H.length/\ob'=Ob.grown zero.length (old++new))\/(id≠H.length/\id≠U.block/\hp H id=some ob'):=by
       intro id ob' h hl
       rcases Nat.lt_trichotomy id H.length with h1|h1|h1
       ·right
        have:hp (H.set U.block Ob.dead++[Ob.grown zero.length (old++new)]) id=hp (H.set U.block Ob.dead) id:=by simp only[hp];rw[Qb (by simpa using h1)]
        rw[this,Lb _ _ _ hid]at h
        split at h
        ·cases h;simp[Ob.dead]at hl
        ·exact⟨by omega,by assumption,h⟩
       ·left;subst h1;simp[hp]at h;exact⟨rfl,h.symm⟩
       ·simp only[hp]at h;rw[QE (by simp;omega)]at h;cases h
      refine⟨.value (.slice (some a') (len+n) cap'),_,w',ρ',?_,rfl,⟨⟨hle',fun id p h k =>?_⟩,?_,⟨?_,?_,?_⟩,⟨rfl,rfl,rfl,by rw[hws];exact Qj _,?_,?_⟩⟩⟩
      ·rw[hin (some a') len cap' qr g9]
       have:a'.add (len*zero.length)=⟨pl.block,a'.off+len*zero.length,none⟩:=by rw[Kv a' g3,g4];exact Ku _ _ _
       simp only[this,hsr,Result.andThen_ok]
       rfl
      ·by_cases c:id=H.length
       ·subst c;simp
       ·simp only[ρ',if_neg c]at h;rw[k]at h;cases h
      ·refine .slice (a:=⟨H.length,0,none⟩) (pl:=pl') (by simp[ρ']) rfl (.inl g3) (.inl g4) (.inl (by simp[pl'])) (Qj _) qr ?_
       show _\/_
       right
       simp only[pl']
       have:cap'*zero.length<=cap'*pl.es:=XU _ hes4
       omega
      ·intro id p h
       rw[hws]
       by_cases c:id=H.length
       ·simp only[ρ',if_pos c,Qm]at h;subst h;exact hbs
       ·simp only[ρ',if_neg c]at h;exact E.bound _ _ h
      ·intro id ob' p ho' h hl
       rcases hget id ob' ho' hl with⟨rfl,rfl⟩|⟨c1,c2,c3⟩
       ·simp only[ρ',if_true,Qm]at h;subst h
        refine⟨by simp[pl',Ob.grown],rfl,cs2,el',fr,hnewb,by rw[hcs2];exact b2,?_,?_,fun _=>by rw[hcs2];exact b5 O⟩
        ·simp only[pl',Ob.grown,Qh,hoL,q3,hcs2];omega
        ·intro i u hi
         simp only[Ob.grown,pl']at hi ⊢
         rw[WW]at hi
         by_cases c:i<old.length
         ·rw[if_pos c]at hi
          rw[hold2.1,QN,if_pos qr,Zf]at hi
          obtain⟨h6,u',h7,h8⟩:=b4 _ u hi
          refine⟨h6,u',?_,h8.mono hle'⟩
          rw[<-ZQ]
          simp only[cs2]
          rw[Qb (by simp;omega),QN,if_pos qr,hoff]
          simpa [QV]using h7
         ·rw[if_neg c]at hi
          refine⟨q4 u (Qw hi),?_⟩
          obtain⟨u',h7,h8⟩:=q2.get hi
          refine⟨u',?_,h8.mono hle'⟩
          have hlt:=(Qf.1 h7).1
          rw[<-ZQ]
          simp only[cs2]
          rw[Qd (by simp;omega),Q0,hcl,Zg qr,show a'.off+i-(a'.off+len*zero.length)=i-old.length by omega,Qb hlt]
          exact h7
       ·simp only[ρ',if_neg c1]at h
        have hne:p.block≠pl.block:=fun hb=>E.inj U.block id ob ob' pl p Y c3 g1 h hob2 O hl (Ne.symm c2) hb.symm
        exact(E.obj id ob' p c3 h hl).same_block hle' (holdb _ hne)
      ·intro i j oi oj pi pj hi hj hpi hpj a1 a2 a3 hij
       rcases hget i oi hi a1 with⟨rfl,rfl⟩|⟨c1,c2,c3⟩<;>rcases hget j oj hj a3 with⟨rfl,rfl⟩|⟨d1,d2,d3⟩
       ·exact absurd rfl hij
       ·simp only[ρ',if_true,Qm]at hpi;subst hpi
        simp only[ρ',if_neg d1]at hpj
        exact E.inj U.block j ob oj pl pj Y d3 g1 hpj hob2 O a3 (Ne.symm d2)
       ·simp only[ρ',if_true,Qm]at hpj;subst hpj
        simp only[ρ',if_neg c1]at hpi
        exact E.inj i U.block oi ob pi pl c3 Y hpi g1 a1 a2 hob2 c2
       ·simp only[ρ',if_neg c1]at hpi
        simp only[ρ',if_neg d1]at hpj
        exact E.inj i j oi oj pi pj c3 d3 hpi hpj a1 a2 a3 hij
      ·intro b hb' h
       exact holdb b fun hbe=>h U.block ob pl Y g1 hob2 O hbe.symm
      ·intro id p h k
       by_cases c:id=H.length
       ·simp only[ρ',if_pos c,Qm]at h;subst h
        refine .inr ⟨U.block,ob,pl,Y,g1,hob2,O,rfl,fun ob' h' =>?_⟩
        simp only[hp]at h'
        rw[Qb (by simpa using hid),Ky]at h'
        simp[hid]at h'
        subst h';rfl
       ·simp only[ρ',if_neg c]at h;rw[k]at h;cases h
    ·cases J
end
end Go.Ev
namespace Go.Ev
open Go.RowKit
section
variable{P:Program}{o:Oper}{e:Env}{H H':List Ob}{v:Value}{t:Option (List Nat)}{M:List Nat}
def AOp.simple:AOp->Bool
 |.call .. | .callv .. =>false
 |_=>true
def ER{ao:AOp}(hc:compOp P o=some ao)(hsim:ao.simple=true)(I:Q2 H e ao=some (v,H',t,M)):OpOk P o e H v H':=by
 cases E:o.op with
 |move x=>simp only[compOp,E,Qm]at hc;subst hc;exact bJ (.inl E) I
 |assign x=>simp only[compOp,E,Qm]at hc;subst hc;exact bJ (.inr E) I
 |pick c a b=>simp only[compOp,E,Qm]at hc;subst hc;exact sW E I
 |alloc ty=>simp only[compOp,E,QI]at hc;obtain⟨z,hz,rfl⟩:=hc;exact mT hz E I
 |box ty x=>simp only[compOp,E,Qm]at hc;subst hc;exact xT E I
 |load ty x=>simp only[compOp,E,QI]at hc;obtain⟨z,hz,rfl⟩:=hc;exact sX hz E I
 |store ty x y=>simp only[compOp,E,QI]at hc;obtain⟨z,hz,rfl⟩:=hc;exact mM hz E I
 |nilCheck x=>simp only[compOp,E,Qm]at hc;subst hc;exact NJ E I
 |unOp op ty x=>simp only[compOp,E,Qm]at hc;subst hc;exact ok_un E I
 |extract x i=>simp only[compOp,E,Qm]at hc;subst hc;exact Sp E I
 |makeFunc fn f c=>simp only[compOp,E,Qm]at hc;subst hc;exact dO E I
 |makeInterface ty x =>
  simp only[compOp,E]at hc
  cases hu:P.underlying ty with
  |none=>simp[hu]at hc
  |some d =>
   rw[hu]at hc
   have hn:∀ms,d≠.interface ms:=fun ms hms=>by subst hms;simp at hc
   have:ao=.mkIface ty x:=by
    cases d<;>first|exact absurd rfl (hn _)|(simp at hc;exact hc.symm)
   subst this
   exact Sn hu hn E I
 |binOp op ty x y yt =>
  simp only[compOp,E]at hc
  have hcmp:∀(Y:op=.eql\/op=.neq),(match P.underlying ty with
   |some (.int _)|some .string=>some (AOp.bin op x y)
   |some .bool=>some (.eqv none (op==.neq) x y)
   |some (.array ..)|some (.struct _)=>if P.eqGuardType P.depth ty then none else(YH P 20 ty).map fun ks=>.eqv (some ks) (op==.neq) x y
   |some d=>if Vs (Kg d) y then some (.isNil (Kg d) (op==.neq) x)else none
   |_=>none)=some ao->OpOk P o e H v H':=by
   intro Y hc
   split at hc
   ·cases hc;exact Ss E I
   ·cases hc;exact Ss E I
   ·rename_i hu;cases hc;exact xR Y hu E I
   ·rename_i n el hu
    split at hc
    ·cases hc
    ·rename_i hg
     simp only[QI]at hc
     obtain⟨ks,hk,rfl⟩:=hc
     exact mR Y hu (.inr ⟨n,el,rfl⟩) hk (by simpa using hg) E I
   ·rename_i fs hu
    split at hc
    ·cases hc
    ·rename_i hg
     simp only[QI]at hc
     obtain⟨ks,hk,rfl⟩:=hc
     exact mR Y hu (.inl ⟨fs,rfl⟩) hk (by simpa using hg) E I
   ·rename_i d _ _ _ _ _ hu
    split at hc
    ·rename_i hn;cases hc;exact mO Y hu hn E I
    ·cases hc
   ·cases hc
  cases op with
  |eql=>exact hcmp (.inl rfl) hc
  |neq=>exact hcmp (.inr rfl) hc
  |_=>simp only[Qm]at hc;subst hc;exact Ss E I
 |convert s d x =>
  simp only[compOp,E]at hc
  split at hc
  ·rename_i ks k O U;cases hc;exact sZ O U E I
  ·rename_i O U;cases hc;exact Sr O U E I
  ·rename_i el O U
   split at hc
   ·rename_i he
    cases hc
    have he':P.underlying el=some (.int .u8):=by
     cases hu:P.underlying el with
     |none=>simp[hu]at he
     |some d =>
      rw[hu]at he
      cases d with
      |int k=>cases k<;>simp at he ⊢
      |_=>simp at he
    exact xQ O U he' E I
   ·cases hc
  ·rename_i el O U
   split at hc
   ·rename_i he
    cases hc
    have he':P.underlying el=some (.int .u8):=by
     cases hu:P.underlying el with
     |none=>simp[hu]at he
     |some d =>
      rw[hu]at he
      cases d with
      |int k=>cases k<;>simp at he ⊢
      |_=>simp at he
    exact xU O he' U E I
   ·cases hc
  ·rename_i el' el O U
   split at hc
   ·rename_i hsd
    subst hsd
    split at hc
    ·rename_i he
     cases hc
     have he':P.underlying el=some (.int .u8):=by
      cases hu:P.underlying el with
      |none=>simp[hu]at he
      |some d =>
       rw[hu]at he
       cases d with
       |int k=>cases k<;>simp at he ⊢
       |_=>simp at he
     exact dQ U he' E I
    ·cases hc
   ·cases hc
  ·cases hc
 |makeSlice ty l c =>
  simp only[compOp,E]at hc
  split at hc
  ·rename_i el hu
   simp only[Qe]at hc
   obtain⟨z,hz,b,hb,hc⟩:=hc
   split at hc
   ·rename_i Z;cases hc;exact IM hu hz Z hb E I
   ·cases hc
  ·cases hc
 |slice ty x lo hi mx =>
  simp only[compOp,E]at hc
  split at hc
  ·rename_i n el hu
   simp only[QI]at hc
   obtain⟨s,hs,rfl⟩:=hc
   exact NI hu hs E I
  ·rename_i el hu
   simp only[QI]at hc
   obtain⟨s,hs,rfl⟩:=hc
   exact Sm hu hs E I
  ·rename_i hu
   split at hc
   ·rename_i hm
    cases hc
    have:mx=none:=by cases mx<;>simp at hm ⊢
    subst this
    exact NH hu E I
   ·cases hc
  ·cases hc
 |fieldAddr s x f =>
  simp only[compOp,E]at hc
  split at hc
  ·rename_i fs hu
   simp only[Qe]at hc
   obtain⟨fd,hf,n,hn,hc⟩:=hc
   split at hc
   ·cases hc
   ·rename_i h0;cases hc;exact IS hu hf rfl hn h0 E I
  ·cases hc
 |field s x f =>
  simp only[compOp,E]at hc
  split at hc
  ·rename_i fs hu
   simp only[Qe,QI]at hc
   obtain⟨fd,hf,n,hn,rfl⟩:=hc
   exact mQ hu hf rfl hn E I
  ·cases hc
 |indexAddr ty x i =>
  simp only[compOp,E]at hc
  split at hc
  ·rename_i n el hu
   simp only[QI]at hc
   obtain⟨s,hs,rfl⟩:=hc
   exact IQ hu hs E I
  ·rename_i el hu
   simp only[QI]at hc
   obtain⟨s,hs,rfl⟩:=hc
   exact So hu hs E I
  ·cases hc
 |index ty x i =>
  simp only[compOp,E]at hc
  split at hc
  ·rename_i n el hu
   simp only[Qe,QI]at hc
   obtain⟨s,hs,m,hm,rfl⟩:=hc
   exact mP hu hs hm E I
  ·rename_i hu;cases hc;exact NK hu E I
  ·cases hc
 |build ty ps =>
  simp only[compOp,E]at hc
  split at hc
  ·rename_i fs hu
   split at hc
   ·rename_i hall
    simp only[Qe,QI]at hc
    obtain⟨z,hz,cps,hcp,rfl⟩:=hc
    refine NL hz (.inl ⟨fs,hu,rfl⟩) (fun fs' h f hf =>?_) hcp E I
    rw[hu]at h;cases h
    exact ZX.1 hall f hf
   ·cases hc
  ·rename_i n el hu
   simp only[Qe,QI]at hc
   obtain⟨z,hz,s,hs,cps,hcp,rfl⟩:=hc
   refine NL hz (.inr ⟨n,el,s,hu,hs,rfl⟩) (fun fs' h f hf =>?_) hcp E I
   rw[hu]at h;cases h
  ·cases hc
 |buildSlice ty len ps =>
  simp only[compOp,E]at hc
  split at hc
  ·rename_i el hu
   simp only[Qe]at hc
   obtain⟨z,hz,s,hs,hc⟩:=hc
   split at hc
   ·rename_i hcond
    simp only[QI]at hc
    obtain⟨cps,hcp,rfl⟩:=hc
    exact Ew hu hz hs hcond.1 hcond.2.1 hcond.2.2 hcp E I
   ·cases hc
  ·cases hc
 |sliceToArrayPointer ty x =>
  simp only[compOp,E]at hc
  split at hc
  ·rename_i n el hu
   split at hc
   ·cases hc;exact sV hu E I
   ·cases hc
  ·cases hc
 |call c =>
  simp only[compOp,E]at hc
  split at hc
  ·cases hc;simp[AOp.simple]at hsim
  ·cases hc;simp[AOp.simple]at hsim
  ·rename_i J
   split at hc
   ·rename_i s x ts tx O U
    split at hc
    ·rename_i el1 el2 hu1 hu2
     simp only[Qe]at hc
     obtain⟨z,hz,b,hb,hc⟩:=hc
     split at hc
     ·rename_i Z;cases hc;exact Fw hu1 hu2 (fun k hk=>by cases hk) hz Z hb J O U E I
     ·cases hc
    ·rename_i el1 hu1 hu2
     simp only[Qe]at hc
     obtain⟨z,hz,b,hb,hc⟩:=hc
     split at hc
     ·rename_i Z;cases hc;exact Fw hu1 hu2 (fun k hk=>by cases hk) hz Z hb J O U E I
     ·cases hc
    ·cases hc
   ·cases hc
  ·rename_i J
   split at hc
   ·rename_i d s td ts O U
    split at hc
    ·rename_i el hu
     simp only[QI]at hc
     obtain⟨n,hn,rfl⟩:=hc
     exact sY hu hn J O U E I
    ·cases hc
   ·cases hc
  ·rename_i J
   split at hc
   ·rename_i d td O U
    split at hc
    ·rename_i el hu
     simp only[QI]at hc
     obtain⟨z,hz,rfl⟩:=hc
     exact mS hu hz J O U E I
    ·cases hc
   ·cases hc
  ·rename_i J
   split at hc
   ·rename_i x ty O U
    split at hc
    ·rename_i n el hu;cases hc;exact dP hu J O U E I
    ·rename_i hu;cases hc;exact mN hu (.inl ⟨rfl,rfl⟩) J O U E I
    ·rename_i el hu;cases hc;exact mN hu (.inr ⟨rfl,el,rfl⟩) J O U E I
    ·cases hc
   ·cases hc
  ·rename_i J
   split at hc
   ·rename_i x y O;cases hc;exact Fv (mx:=false) J O E I
   ·cases hc
  ·rename_i J
   split at hc
   ·rename_i x y O;cases hc;exact Fv (mx:=true) J O E I
   ·cases hc
  ·cases hc
 |_=>simp[compOp,E]at hc
end
end Go.Ev
namespace Go.Ev
open Go.RowKit
variable{M:List Nat}{H H' G' G:List Ob}{e:Env}{v:Value}{ρ' ρ:Pl}{w w':World}
structure AbsOk(H H':List Ob)(M:List Nat):Prop where
 len:H.length<=H'.length
 flags:∀(id:Nat) ob',id<H.length->H'[id]?=some ob'->ob'.live=true->∃ob,H[id]?=some ob/\ob.live=true/\ob.own=ob'.own
 log:∀id:Nat,id<H.length->id∉M->H'[id]?=H[id]?
 ids:∀id∈M,id<H.length
def AbsOk.refl(H:List Ob)(M:List Nat)(h:∀id∈M,id<H.length):AbsOk H H M:=⟨Qj _,fun _ ob' _ h E=>⟨ob',h,E,rfl⟩,fun _ _ _=>rfl,h⟩
def AbsOk.push(H:List Ob)(ob:Ob):AbsOk H (H++[ob]) [] :=
 ⟨by simp,fun id ob' J E I=>⟨ob',by rw[Qb J]at E;exact E,I,rfl⟩,fun id h _=>Qb h,by simp⟩
def AbsOk.set{H:List Ob}{id:Nat}{ob ob':Ob}(h:H[id]?=some ob)(J:ob'.live=true->ob.live=true/\ob.own=ob'.own):AbsOk H (H.set id ob') [id]:=by
 have hid:=(Qf.1 h).1
 refine⟨by simp,fun i o O E I =>?_,fun i O E =>?_,by simpa using hid⟩
 ·rw[Ky]at E
  split at E
  ·subst_vars
   simp[hid]at E;subst E
   exact⟨ob,h,(J I).1,(J I).2⟩
  ·exact⟨o,E,I,rfl⟩
 ·rw[Ky,if_neg (by simp at E;omega)]
def AbsOk.trans{A B C:List Ob}{M O N:List Nat}(h:AbsOk A B M)(k:AbsOk B C O)(J:∀id,id∈N↔id∈M\/(id∈O/\id<A.length)):AbsOk A C N:=by
 refine⟨JG h.len k.len,fun id ob E I Z =>?_,fun id E I =>?_,fun id hid =>?_⟩
 ·obtain⟨Y,a1,a2,a3⟩:=k.flags id ob (QJ E h.len) I Z
  obtain⟨U,b1,b2,b3⟩:=h.flags id Y E a1 a2
  exact⟨U,b1,b2,b3.trans a3⟩
 ·rw[J]at I
  rw[k.log id (QJ E h.len) (fun hm=>I (.inr ⟨hm,E⟩)),h.log id E fun hm=>I (.inl hm)]
 ·rcases(J id).1 hid with E|E
  ·exact h.ids id E
  ·exact E.2
def W2{a:Addr}{vs:List Value}(h:storeAt H a vs=some H'):AbsOk H H' [a.block]:=by
 obtain⟨ob,I,E,U,O,J,rfl⟩:=Bm h
 exact .set I fun _=>⟨E,rfl⟩
def HJ{t:Option (List Nat)}{ao:AOp}(h:Q2 H e ao=some (v,H',t,M)):AbsOk H H' M:=by
 have hp:∀r,Jm H r=some (v,H',t,M)->AbsOk H H' M:=fun r J=>by
  obtain⟨_,rfl,_,rfl⟩:=J7 J
  exact .refl _ _ wd
 cases ao<;>simp only[Q2]at h<;>first|exact hp _ h|skip
 case alloc z=>simp only[Qm,Prod.mk.injEq]at h;obtain⟨_,rfl,_,rfl⟩:=h;exact .push _ _
 case box x =>
  simp only[Qe]at h
  obtain⟨_,_,h⟩:=h
  split at h
  ·simp only[Qm,Prod.mk.injEq]at h;obtain⟨_,rfl,_,rfl⟩:=h;exact .push _ _
  ·cases h
 case load n a =>
  simp only[Qe]at h
  obtain⟨_,_,h⟩:=h
  split at h
  ·simp only[Qe]at h
   obtain⟨_,_,h⟩:=h
   split at h
   ·simp only[Qe,Qm,Prod.mk.injEq]at h
    obtain⟨_,_,_,rfl,_,rfl⟩:=h;exact .refl _ _ wd
   ·cases h
  ·cases h
 case store n a x =>
  simp only[Qe]at h
  obtain⟨_,_,_,_,h⟩:=h
  split at h
  ·split at h
   ·simp only[Qe,Qm,Prod.mk.injEq]at h
    obtain⟨H1,E,_,rfl,_,rfl⟩:=h
    exact W2 E
   ·cases h
  ·cases h
 case convSl x =>
  simp only[Qe]at h
  obtain⟨_,_,h⟩:=h
  split at h
  ·simp only[Qe]at h
   obtain⟨_,_,h⟩:=h
   split at h
   ·simp only[Qm,Prod.mk.injEq]at h
    obtain⟨_,rfl,_,rfl⟩:=h;exact .refl _ _ wd
   ·cases h
  ·cases h
 case s2b x =>
  simp only[Qe]at h
  obtain⟨_,_,h⟩:=h
  split at h
  ·split at h
   ·simp only[Qm,Prod.mk.injEq]at h;obtain⟨_,rfl,_,rfl⟩:=h;exact .push _ _
   ·cases h
  ·cases h
 case b2s x =>
  simp only[Qe]at h
  obtain⟨_,_,h⟩:=h
  split at h
  ·simp only[Qe,Qm,Prod.mk.injEq]at h
   obtain⟨_,_,_,_,_,rfl,_,rfl⟩:=h;exact .refl _ _ wd
  ·cases h
 case buildSlice cs l ps =>
  simp only[Qe,Qm,Prod.mk.injEq]at h
  obtain⟨_,_,_,_,_,rfl,_,rfl⟩:=h
  exact .push _ _
 case sliceSl es x lo hi mx =>
  simp only[Qe]at h
  obtain⟨_,_,_,_,_,_,_,_,h⟩:=h
  split at h
  ·simp only[Qe]at h
   obtain⟨_,_,_,_,h⟩:=h
   split at h
   ·simp only[Qm,Prod.mk.injEq]at h;obtain⟨_,rfl,_,rfl⟩:=h;exact .refl _ _ wd
   ·cases h
  ·simp only[Qe,Qm,Prod.mk.injEq]at h
   obtain⟨_,_,_,rfl,_,rfl⟩:=h;exact .refl _ _ wd
  ·cases h
 case makeSlice z b l c =>
  simp only[Qe]at h
  obtain⟨_,_,_,_,h⟩:=h
  split at h
  ·split at h
   ·simp only[Qm,Prod.mk.injEq]at h;obtain⟨_,rfl,_,rfl⟩:=h;exact .push _ _
   ·cases h
  ·cases h
 case append es b s x =>
  simp only[Qe]at h
  obtain⟨sv,_,Y,_,h⟩:=h
  unfold ZV at h
  split at h
  ·simp only[Qe]at h
   obtain⟨n,_,new,_,h⟩:=h
   split at h
   ·simp only[Qm,Prod.mk.injEq]at h;obtain⟨_,rfl,_,rfl⟩:=h;exact .refl _ _ wd
   ·split at h
    ·cases h
    ·split at h
     ·split at h
      ·simp only[Qm,Prod.mk.injEq]at h;obtain⟨_,rfl,_,rfl⟩:=h;exact .push _ _
      ·cases h
     ·simp only[Qe]at h
      obtain⟨ob,hob,I,_,h⟩:=h
      obtain⟨O,Z⟩:=Vp hob
      split at h
      ·cases h
      ·split at h
       ·simp only[Qe,Qm,Prod.mk.injEq]at h
        obtain⟨H1,E,_,rfl,_,rfl⟩:=h
        have:=W2 E
        have U:∀(a:Addr) (k:Nat),(a.add k).block=a.block:=fun a k=>by unfold Addr.add;split<;>rfl
        rwa[U]at this
       ·split at h
        ·simp only[Qm,Prod.mk.injEq]at h;obtain⟨_,rfl,_,rfl⟩:=h;exact .push _ _
        ·split at h
         ·simp only[Qm,Prod.mk.injEq]at h
          obtain⟨_,rfl,_,rfl⟩:=h
          refine AbsOk.trans (.set O fun h=>by simp[Ob.dead]at h) (.push _ _) wd
         ·cases h
  ·cases h
 case copy es d s =>
  simp only[Qe]at h
  obtain⟨_,_,_,_,h⟩:=h
  split at h
  ·simp only[Qe]at h
   obtain⟨_,_,_,_,h⟩:=h
   split at h
   ·simp only[Qe,Qm,Prod.mk.injEq]at h
    obtain⟨H1,E,_,rfl,_,rfl⟩:=h
    exact W2 E
   ·split at h
    ·simp only[Qm,Prod.mk.injEq]at h;obtain⟨_,rfl,_,rfl⟩:=h;exact .refl _ _ wd
    ·cases h
  ·cases h
 case clear z x =>
  simp only[Qe]at h
  obtain⟨_,_,h⟩:=h
  split at h
  ·simp only[Qe,Qm,Prod.mk.injEq]at h
   obtain⟨H1,E,_,rfl,_,rfl⟩:=h
   exact W2 E
  ·cases h
 all_goals(cases h)
structure LocalAt(H H' G G':List Ob)(M:List Nat):Prop where
 len:G'.length=H'.length
 new:∀id:Nat,id∈M\/H.length<=id->G'[id]?=H'[id]?
def Iz{l:List Nat}{ao:AOp}(h:Q2 H e ao=some (v,H',some l,M))(J:G.length=H.length)(hl:∀id∈l,G[id]?=H[id]?) :
  ∃G',Q2 G e ao=some (v,G',some l,M)/\LocalAt H H' G G' M:=by
 have hrefl:LocalAt H H G G []:=⟨J,fun id h=>by rcases h with h|h;simp at h;rw[QE qr,QE h]⟩
 have hpush:∀ob,LocalAt H (H++[ob]) G (G++[ob]) []:=fun ob=>⟨by simp[J],fun id h=>by
  rcases h with h|h
  ·simp at h
  ·rw[Qd qr,Qd h,J]⟩
 have hp:∀r,Jm H r=some (v,H',some l,M)->∃G',Jm G r=some (v,G',some l,M)/\LocalAt H H' G G' M:=fun r hr=>by
  obtain⟨E,rfl,h2,rfl⟩:=J7 hr
  exact⟨G,by simp only[Jm,E,Qk,h2],hrefl⟩
 have hlive:∀id,id∈l->liveAt G id=liveAt H id:=fun id hid=>by simp only[liveAt,hl id hid]
 cases ao<;>simp only[Q2]at h ⊢<;>first|exact hp _ h|skip
 case alloc z=>simp only[Qm,Prod.mk.injEq]at h;obtain⟨rfl,rfl,E,rfl⟩:=h;exact⟨_,by rw[J,<-E],hpush _⟩
 case box x =>
  simp only[Qe]at h
  obtain⟨u,hu,h⟩:=h
  split at h
  ·rename_i O;simp only[Qm,Prod.mk.injEq]at h;obtain⟨rfl,rfl,E,rfl⟩:=h;exact⟨_,by rw[hu,Qk,if_pos O,J,<-E],hpush _⟩
  ·cases h
 case load n a =>
  simp only[Qe]at h
  obtain⟨u,hu,h⟩:=h
  rw[hu,Qk]
  split at h
  ·rename_i I
   simp only[Qe]at h
   obtain⟨ob,hob,h⟩:=h
   split at h
   ·rename_i hsp
    simp only[Qe,Qm,Prod.mk.injEq]at h
    obtain⟨x,hx,rfl,rfl,E,rfl⟩:=h
    refine⟨G,?_,hrefl⟩
    (try dsimp only)
    rw[hlive I.block (by rw[<-E];simp),hob,Qk,if_pos hsp,hx,Qk,E]
   ·cases h
  ·cases h
 case store n a x =>
  simp only[Qe]at h
  obtain⟨u,hu,y,hy,h⟩:=h
  rw[hu,Qk,hy,Qk]
  split at h
  ·rename_i I
   split at h
   ·rename_i hc
    simp only[Qe,Qm,Prod.mk.injEq]at h
    obtain⟨H1,hst,rfl,rfl,E,rfl⟩:=h
    have Z:I.block∈l:=by rw[<-E];simp
    obtain⟨ob,a1,a2,a3,a4,a5,rfl⟩:=Bm hst
    have Y:storeAt G I y.cells.toList=some (G.set I.block { ob with c:=splice ob.c I.off y.cells.toList }):=by
     simp only[storeAt,hlive _ Z]
     have:liveAt H I.block=some ob:=by simp[liveAt,a1,a2]
     rw[this,Qk,if_pos ⟨a3,by simp[a4],a5⟩]
    refine⟨_,by(try dsimp only);rw[if_pos hc,Y,Qk,E],by simp[J],fun id hid =>?_⟩
    have hlt:=(Qf.1 a1).1
    rcases hid with hid|hid
    ·simp at hid;subst hid
     rw[Ky,Ky];simp[hlt,J]
    ·rw[QE (by simp;omega),QE (by simp;omega)]
   ·cases h
  ·cases h
 case convSl x =>
  simp only[Qe]at h
  obtain⟨u,hu,h⟩:=h
  rw[hu,Qk]
  split at h
  ·rename_i I n c
   simp only[Qe]at h
   obtain⟨ob,hob,h⟩:=h
   split at h
   ·rename_i O
    simp only[Qm,Prod.mk.injEq]at h
    obtain⟨rfl,rfl,E,rfl⟩:=h
    refine⟨G,?_,hrefl⟩
    (try dsimp only)
    rw[hlive I.block (by rw[<-E];simp),hob,Qk,if_pos O,E]
   ·cases h
  ·cases h
 case s2b x =>
  simp only[Qe]at h
  obtain⟨u,hu,h⟩:=h
  rw[hu,Qk]
  split at h
  ·split at h
   ·rename_i O;simp only[Qm,Prod.mk.injEq]at h;obtain⟨rfl,rfl,E,rfl⟩:=h;exact⟨_,by(try dsimp only);rw[if_pos O,J,<-E],hpush _⟩
   ·cases h
  ·cases h
 case b2s x =>
  simp only[Qe]at h
  obtain⟨u,hu,h⟩:=h
  rw[hu,Qk]
  split at h
  ·rename_i b n c
   simp only[Qe,Qm,Prod.mk.injEq]at h
   obtain⟨cs,U,bs,hbs,rfl,rfl,E,rfl⟩:=h
   refine⟨G,?_,hrefl⟩
   (try dsimp only)
   have:elemsOf G 1 n (.slice b n c)=elemsOf H 1 n (.slice b n c):=by
    cases b with
    |none=>rfl
    |some I=>simp only[elemsOf];rw[hlive I.block (by rw[<-E];simp[VP])]
   rw[this,U,Qk,hbs,Qk,E]
  ·cases h
 case buildSlice cs n ps =>
  simp only[Qe,Qm,Prod.mk.injEq]at h
  obtain⟨vs,hvs,cs',U,rfl,rfl,E,rfl⟩:=h
  exact⟨_,by rw[hvs,Qk,U,Qk,J,E],hpush _⟩
 case sliceSl es x lo hi mx =>
  simp only[Qe]at h
  obtain⟨u,hu,lo',hlo,hi',hhi,mx',hmx,h⟩:=h
  rw[hu,Qk,hlo,Qk,hhi,Qk,hmx,Qk]
  split at h
  ·rename_i I len cap
   simp only[Qe]at h
   obtain⟨⟨p,q,r⟩,hb,ob,hob,h⟩:=h
   dsimp only at h
   split at h
   ·rename_i O
    simp only[Qm,Prod.mk.injEq]at h
    obtain⟨rfl,rfl,E,rfl⟩:=h
    refine⟨G,?_,hrefl⟩
    (try dsimp only)
    rw[hb,Qk]
    (try dsimp only)
    rw[hlive I.block (by rw[<-E];simp),hob,Qk,if_pos O,E]
   ·cases h
  ·simp only[Qe,Qm,Prod.mk.injEq]at h
   obtain⟨x,hx,rfl,rfl,E,rfl⟩:=h
   exact⟨G,by(try dsimp only);rw[hx,Qk,E],hrefl⟩
  ·cases h
 case makeSlice z b l c =>
  simp only[Qe]at h
  obtain⟨u,hu,y,hy,h⟩:=h
  rw[hu,Qk,hy,Qk]
  split at h
  ·split at h
   ·rename_i O;simp only[Qm,Prod.mk.injEq]at h;obtain⟨rfl,rfl,E,rfl⟩:=h;exact⟨_,by(try dsimp only);rw[if_pos O,J,E],hpush _⟩
   ·cases h
  ·cases h
 case append es b s x =>
  exfalso
  simp only[Qe]at h
  obtain⟨sv,_,xv,_,h⟩:=h
  unfold ZV at h
  split at h
  ·simp only[Qe]at h
   obtain⟨n,_,new,_,h⟩:=h
   split at h
   ·simp at h
   ·split at h
    ·cases h
    ·split at h
     ·split at h<;>simp at h
     ·simp only[Qe]at h
      obtain⟨ob,hob,old,_,h⟩:=h
      split at h
      ·cases h
      ·split at h
       ·simp only[Qe]at h;obtain⟨_,_,h⟩:=h;simp at h
       ·split at h
        ·simp at h
        ·split at h<;>simp at h
  ·cases h
 case copy es d s =>
  exfalso
  simp only[Qe]at h
  obtain⟨_,_,_,_,h⟩:=h
  split at h
  ·simp only[Qe]at h
   obtain⟨_,_,_,_,h⟩:=h
   split at h
   ·simp only[Qe]at h;obtain⟨_,_,h⟩:=h;simp at h
   ·split at h<;>simp at h
  ·cases h
 case clear z x =>
  exfalso
  simp only[Qe]at h
  obtain⟨_,_,h⟩:=h
  split at h
  ·simp only[Qe]at h;obtain⟨_,_,h⟩:=h;simp at h
  ·cases h
 all_goals(cases h)
def UA(c:Nat->Option Ob)(G':List Ob)(M:List Nat)(n:Nat):Nat->Option Ob:=fun id=>if id∈M\/(n<=id/\id<G'.length)then G'[id]? else c id
def eb{ρ:Pl}{c:Nat->Option Ob}{G:List Ob}(hc:RelF ρ c w)(I:∀(id:Nat) ob,G[id]?=some ob->ob.live=true->ρ id≠none->c id=some ob)
 (J:Ext ρ ρ' G.length G'.length) (hfree:Free ρ G.length G'.length) (hr:RelF ρ' (hp G') w') (hf:Frm ρ ρ' (hp G) (hp G') w w') (ha:AbsOk G G' M):RelF ρ' (UA c G' M G.length) w':=by
  have hold:∀ {id pl},ρ' id=some pl->¬(G.length<=id/\id<G'.length)->ρ id=some pl:=by
    intro id pl h hn
    cases hρ:ρ id with
    |none=>exact absurd (J.dom id pl h hρ) hn
    |some p=>have:=J.le id p hρ;rw[h]at this;cases this;rfl
  have hcl:∀ {id ob pl},UA c G' M G.length id=some ob->ρ' id=some pl->ob.live=true->hp G' id=some ob\/(c id=some ob/\ρ id=some pl/\∀E,hp G id=some E->E.live=false):=by
    intro id ob pl h hp' hl
    unfold UA at h
    split at h
    · exact .inl h
    · rename_i hn
      have hn':id∉M/\¬(G.length<=id/\id<G'.length):=⟨fun hm=>hn (.inl hm),fun hm=>hn (.inr hm)⟩
      have hρ:=hold hp' hn'.2
      by_cases hlv:∃E,hp G id=some E/\E.live=true
      · obtain⟨E,O,h3⟩:=hlv
        have hid:id<G.length:=(Qf.1 O).1
        have:=I id E O h3 (by rw[hρ];simp)
        rw[h]at this;cases this
        left
        show G'[id]?=_
        rw[ha.log id hid hn'.1];exact O
      · refine .inr ⟨h,hρ,fun E O =>?_⟩
        cases hl2:E.live with
        |false=>rfl
        |true=>exact absurd ⟨E,O,hl2⟩ hlv
  have hown:∀ {id ob pl},hp G' id=some ob->ρ id=some pl->ob.live=true->∃E,hp G id=some E/\E.live=true/\E.own=ob.own:=by
    intro id ob pl h hρ hl
    have hid':id<G'.length:=(Qf.1 h).1
    rcases ZA id G.length with hlt|hge
    · exact ha.flags id ob hlt h hl
    · have:=hfree id hge hid';rw[this]at hρ;cases hρ
  refine⟨hr.bound,?_,?_⟩
  · intro id ob pl h hp' hl
    rcases hcl h hp' hl with Y|⟨Y,O,h3⟩
    · exact hr.obj id ob pl Y hp' hl
    · refine(hc.obj id ob pl Y O hl).same_block J.le (hf.blocks _ (hc.bound _ _ O) fun i oi pi a1 a2 a3 a4 hb =>?_)
      have hi:i≠id:=fun e=>by subst e;rw[h3 oi a1]at a3;cases a3
      exact hc.inj i id oi ob pi pl (I i oi a1 a3 (by rw[a2];simp)) Y a2 O a3 a4 hl hi hb
  · intro i j oi oj pi pj hi hj hpi hpj a1 a2 a3 hij
    rcases hcl hi hpi a1 with Y|⟨Y,O,h3⟩<;>rcases hcl hj hpj a3 with k1|⟨k1,k2,k3⟩
    · exact hr.inj i j oi oj pi pj Y k1 hpi hpj a1 a2 a3 hij
    · cases hρ:ρ i with
      |some p =>
        have:=J.le i p hρ;rw[hpi]at this;cases this
        obtain⟨o2,b1,Z,U⟩:=hown Y hρ a1
        exact hc.inj i j o2 oj pi pj (I i o2 b1 Z (by rw[hρ];simp)) k1 hρ k2 Z (U.trans a2) a3 hij
      |none =>
        have hb:=hc.bound _ _ k2
        rcases hf.fresh i pi hpi hρ with h|⟨i0,o0,p0,b1,Z,U,b4,b5,_⟩
        · omega
        · have hne:i0≠j:=fun e=>by subst e;rw[k3 o0 b1]at U;cases U
          rw[<-b5]
          exact hc.inj i0 j o0 oj p0 pj (I i0 o0 b1 U (by rw[Z];simp)) k1 Z k2 U b4 a3 hne
    · cases hρ:ρ j with
      |some p =>
        have:=J.le j p hρ;rw[hpj]at this;cases this
        obtain⟨o2,b1,Z,U⟩:=hown k1 hρ a3
        exact hc.inj i j oi o2 pi pj Y (I j o2 b1 Z (by rw[hρ];simp)) O hρ a1 a2 Z hij
      |none =>
        have hb:=hc.bound _ _ O
        rcases hf.fresh j pj hpj hρ with h|⟨i0,o0,p0,b1,Z,U,b4,b5,_⟩
        · omega
        · have hne:i0≠i:=fun e=>by subst e;rw[h3 o0 b1]at U;cases U
          rw[<-b5]
          exact fun e=>hc.inj i0 i o0 oi p0 pi (I i0 o0 b1 U (by rw[Z];simp)) Y Z O U b4 a1 hne e.symm
    · exact hc.inj i j oi oj pi pj Y k1 O k2 a1 a2 a3 hij
def Flags(ρ:Pl)(c c':Nat->Option Ob):Prop:=∀id ob' pl,ρ id=some pl->c' id=some ob'->ob'.live=true->∃ob,c id=some ob/\ob.live=true/\ob.own=ob'.own
def Oa{ρ':Pl}{c:Nat->Option Ob}{G:List Ob}(E:∀(id:Nat) ob,G[id]?=some ob->ob.live=true->ρ id≠none->c id=some ob)(hfree:Free ρ G.length G'.length)(ha:AbsOk G G' M) :
  Flags ρ c (UA c G' M G.length):=by
 intro id ob' pl hρ h U
 unfold UA at h
 split at h
 ·rename_i hm
  have I:id<G'.length:=(Qf.1 h).1
  rcases ZA id G.length with hlt|J
  ·obtain⟨O,b1,Y,Z⟩:=ha.flags id ob' hlt h U
   exact⟨O,E id O b1 Y (by rw[hρ];simp),Y,Z⟩
  ·have:=hfree id J I;rw[this]at hρ;cases hρ
 ·exact⟨ob',h,U,rfl⟩
def ee{c:Nat->Option Ob}(E:∀(id:Nat) ob,G[id]?=some ob->ob.live=true->ρ id≠none->c id=some ob)(I:Frm ρ ρ' (hp G) (hp G') w w')(ha:AbsOk G G' M) :
  Frm ρ ρ' c (UA c G' M G.length) w w':=by
 refine⟨I.os,I.tape,I.output,I.size,fun b hb k=>I.blocks b hb fun id ob pl O J h3 h4=>k id ob pl (E id ob O h3 (by rw[J];simp)) J h3 h4,fun id pl O J =>?_⟩
 rcases I.fresh id pl O J with h|⟨i,ob,p0,Z,b2,Y,b4,b5,b6⟩
 ·exact .inl h
 ·refine .inr ⟨i,ob,p0,E i ob Z Y (by rw[b2];simp),b2,Y,b4,b5,fun ob' U =>?_⟩
  have hid:i<G.length:=(Qf.1 Z).1
  have hM:i∈M:=by
   apply Classical.byContradiction
   intro hn
   have:=b6 ob (by show G'[i]?=_;rw[ha.log i hid hn];exact Z)
   rw[Y]at this;cases this
  unfold UA at U
  rw[if_pos (.inl hM)]at U
  exact b6 ob' U
def Frm.trans{ρ ρ1 ρ2:Pl}{c c1 c2:Nat->Option Ob}{w w1 w2:World}(h:Frm ρ ρ1 c c1 w w1)(k:Frm ρ1 ρ2 c1 c2 w1 w2)(hle:PlLe ρ ρ1)(hle2:PlLe ρ1 ρ2)(f1:Flags ρ c c1)(f2:Flags ρ c1 c2):Frm ρ ρ2 c c2 w w2:=by
 have hnone:∀ {id pl},ρ1 id=some pl->ρ id=none\/ρ id=some pl:=by
  intro id pl h
  cases hρ:ρ id with
  |none=>exact .inl rfl
  |some p=>have:=hle id p hρ;rw[h]at this;cases this;exact .inr rfl
 refine⟨k.os.trans h.os,k.tape.trans h.tape,k.output.trans h.output,JG h.size k.size,fun b hb hn =>?_,fun id pl h2 h0 =>?_⟩
 ·have e1:=h.blocks b hb hn
  rw[k.blocks b (QJ hb h.size) fun id ob pl a1 a2 a3 a4 hbe =>?_]
  ·exact e1
  ·rcases hnone a2 with hρ|hρ
   ·rcases h.fresh id pl a2 hρ with h5|⟨i,oi,I,Y,E,U,b4,Z,b6⟩
    ·omega
    ·exact hn i oi I Y E U b4 (Z.trans hbe)
   ·obtain⟨J,Y,E,U⟩:=f1 id ob pl hρ a1 a3
    exact hn id J pl Y hρ E (U.trans a4) hbe
 ·cases h1:ρ1 id with
  |some p =>
   have hpp:=hle2 id p h1
   rw[h2]at hpp;cases hpp
   rcases h.fresh id pl h1 h0 with h5|⟨i,oi,I,Y,E,U,b4,Z,b6⟩
   ·exact .inl h5
   ·refine .inr ⟨i,oi,I,Y,E,U,b4,Z,fun ob' h' =>?_⟩
    cases hl:ob'.live with
    |false=>rfl
    |true =>
     obtain⟨J,g1,O,_⟩:=f2 i ob' I E h' hl
     rw[b6 J g1]at O;cases O
  |none =>
   rcases k.fresh id pl h2 h1 with h5|⟨i,oi,I,Y,E,U,b4,Z,b6⟩
   ·exact .inl (JG h.size h5)
   ·rcases hnone E with hρ|hρ
    ·rcases h.fresh i I E hρ with h6|⟨i',oi',p0',d1,d2,d3,d4,d5,d6⟩
     ·left;omega
     ·refine .inr ⟨i',oi',p0',d1,d2,d3,d4,d5.trans Z,fun ob' h' =>?_⟩
      cases hl:ob'.live with
      |false=>rfl
      |true =>
       obtain⟨J,g1,O,_⟩:=f2 i' ob' p0' d2 h' hl
       rw[d6 J g1]at O;cases O
    ·obtain⟨J,g1,O,g3⟩:=f1 i oi I hρ Y U
     exact .inr ⟨i,J,I,g1,hρ,O,g3.trans b4,Z,b6⟩
end Go.Ev
namespace Go.Ev
open Go.RowKit
def Pres(ρ:Pl)(H H':List Ob):Prop:=∀id,id<H.length->ρ id=none->H'[id]?=H[id]?
structure Post1(ρ:Pl)(H:List Ob)(w:World)(v:Value)(H':List Ob)(v':Value)(w':World)(ρ':Pl):Prop extends Post ρ H w v H' v' w' ρ' where
 pres:Pres ρ H H'
def WY(P:Program)(f:FuncId)(args:List Value)(H:List Ob)(v:Value)(H':List Ob):Prop :=
 ∀(ρ:Pl) (E:List Value) (w:World),LRel ρ args E->RelF ρ (hp H) w->Free ρ H.length H'.length->∀(o:Oper) (a:Act) (K:Act->World->Prop) (Q:Exit->Act->World->Prop),
  (∀v' w' ρ',Post1 ρ H w v H' v' w' ρ'->K (a.put o.dst v') w')->o.upon P a K Q ((callFunc f E.toArray).run P w)
def OperOk(P:Program)(o:Oper)(e:Env)(H:List Ob)(v:Value)(H':List Ob):Prop :=
 ∀(ρ:Pl) (a:Act) (w:World),OpRel ρ e a o.op.operands.toList->RelF ρ (hp H) w->Free ρ H.length H'.length->∀(K:Act->World->Prop) (Q:Exit->Act->World->Prop),
  (∀v' w' ρ',Post1 ρ H w v H' v' w' ρ'->K (a.put o.dst v') w')->o.wp P a w K Q
def OpOk.oper{P:Program}{o:Oper}{e:Env}{H H':List Ob}{v:Value}(h:OpOk P o e H v H')(E:∀(ρ:Pl) (a:Act),OpRel ρ e a o.op.operands.toList->Pres ρ H H'):OperOk P o e H v H':=by
 intro ρ a w I Y U K Q O
 obtain⟨nx,v',w',ρ',J,hn,hp⟩:=h ρ a w I Y U
 unfold Oper.wp
 rw[J]
 cases nx<;>simp only[IV]at hn<;>first
  |(subst hn;exact O _ _ _ ⟨hp,E ρ a I⟩)
  |exact hn.elim
structure StepGood(P:Program)(ao:AOp)(e:Env)(H:List Ob)(v:Value)(H':List Ob)(t:Option (List Nat))(M:List Nat):Prop where
 abs:AbsOk H H' M
 ok:∀o:Oper,compOp P o=some ao->OperOk P o e H v H'
 loc:∀l,t=some l->∀G:List Ob,G.length=H.length->(∀id∈l,G[id]?=H[id]?)->∃G',LocalAt H H' G G' M/\AbsOk G G' M/\∀o:Oper,compOp P o=some ao->OperOk P o e G v G'
 mt:∀l,t=some l->∀id∈M,id∈l
 free:ao.free=true->t=some []/\M=[]
 quiet:ao.quiet=true->M=[]
structure TabOk(P:Program)(T:Tab):Prop where
 fn : ∀ f af, T.fn f = some af → ∃ fn, P.funcs[f]? = some fn ∧ compFun P fn = some af.strip ∧ (fn.name == "runtime.NumGoroutine") = false
 ext:∀f args v,T.fn f=none->T.ext f args=some v->args.all rf=true->(∀ρ,VRel ρ v v)/\∀w,(callFunc f args.toArray).run P w=.ok (.value v) w
section
variable{P:Program}{T:Tab}
section
variable{v:Value}{H' H:List Ob}{e:Env}{t:Option (List Nat)}{M:List Nat}{f:FuncId}{xs:List Operand}{args:List Value}{ρ:Pl}{ao:AOp}{b:Bool}
def MX{xs:Array Operand}{ρ:Operand->Value}{c:Call}{ty:TypeId}(hc:c.callee=.value (.func f))(E:ρ (.func f)=.func (.func f) #[] #[])(w:World) :
  (do let d <- resolve ρ c ty;invoke d.target d.args:Sem Next).run P w=(callFunc f (c.args.map ρ)).run P w:=by
 simp[resolve,hc,E,Deferred.ofValue,invoke]
def SP(n:Nat):Free (fun _=>none) 0 n:=fun _ _ _=>rfl
def EZ(w:World):RelF (fun _=>none) (hp []) w:=⟨fun _ _ h=>by simp at h,fun _ _ _ h=>by simp[hp]at h,fun _ _ _ _ _ _ h=>by simp[hp]at h⟩
def DN(h:WY P f args [] v H')(ha:args.all rf=true)(hv:rf v=true)(H:List Ob):WY P f args H v H:=by
 intro ρ I w Y E hfree o a K Q Z
 refine h (fun _=>none) I w (Y.rf_any ha) (EZ w) (SP _) o a K Q fun v' w' ρ' hp=>Z v' w' ρ ⟨?_,fun _ _ _=>rfl⟩
 have hb:∀b,b<w.heap.size->w'.heap[b]?=w.heap[b]? := fun b hb=>hp.frm.blocks b hb fun id ob pl J=>by simp[Ev.hp]at J
 refine⟨.refl _ _ _,hp.val.rf_any hv,⟨fun id pl h=>QJ (E.bound id pl h) hp.frm.size,fun id ob pl J O h3=>(E.obj id ob pl J O h3).same_block (.refl _) (hb _ (E.bound _ _ O)),E.inj⟩,
  ⟨hp.frm.os,hp.frm.tape,hp.frm.output,hp.frm.size,fun b U _=>hb b U,fun id pl J O=>by rw[O]at J;cases J⟩⟩
def R9{ao:AOp}(hs:ao.simple=true)(I:ao.free=true)(h:Q2 H e ao=some (v,H',t,M)):t=some []/\M=[]:=by
 have hp:∀r,Jm H r=some (v,H',t,M)->t=some []/\M=[]:=fun r E=>(J7 E).2.2
 cases ao<;>simp only[Q2]at h<;>simp[AOp.free]at I<;>first
  |exact hp _ h
  |skip
 case alloc z=>simp only[Qm,Prod.mk.injEq]at h;obtain⟨_,_,rfl,rfl⟩:=h;simp
 case box x =>
  simp only[Qe]at h
  obtain⟨_,_,h⟩:=h
  split at h
  ·simp only[Qm,Prod.mk.injEq]at h;obtain⟨_,_,rfl,rfl⟩:=h;simp
  ·cases h
 case s2b x =>
  simp only[Qe]at h
  obtain⟨_,_,h⟩:=h
  split at h
  ·split at h
   ·simp only[Qm,Prod.mk.injEq]at h;obtain⟨_,_,rfl,rfl⟩:=h;simp
   ·cases h
  ·cases h
 case buildSlice cs l ps =>
  simp only[Qe,Qm,Prod.mk.injEq]at h
  obtain⟨_,_,_,_,_,_,rfl,rfl⟩:=h
  simp
 case makeSlice z b l c =>
  simp only[Qe]at h
  obtain⟨_,_,_,_,h⟩:=h
  split at h
  ·split at h
   ·simp only[Qm,Prod.mk.injEq]at h;obtain⟨_,_,rfl,rfl⟩:=h;simp
   ·cases h
  ·cases h
 all_goals(first|(cases h;done)|simp[AOp.simple]at hs)
def Dn{ao:AOp}(hs:ao.simple=true)(I:ao.quiet=true)(h:Q2 H e ao=some (v,H',t,M)):M=[]:=by
 by_cases E:ao.free=true
 ·exact(R9 hs E h).2
 cases ao<;>simp only[Q2]at h<;>simp[AOp.free]at E<;>simp[AOp.quiet]at I<;>first|(simp[AOp.simple]at hs;done)|skip
 case load n a =>
  simp only[Qe]at h
  obtain⟨_,_,h⟩:=h
  split at h
  ·simp only[Qe]at h
   obtain⟨_,_,h⟩:=h
   split at h
   ·simp only[Qe,Qm,Prod.mk.injEq]at h
    obtain⟨_,_,_,_,_,rfl⟩:=h;rfl
   ·cases h
  ·cases h
 case convSl x =>
  simp only[Qe]at h
  obtain⟨_,_,h⟩:=h
  split at h
  ·simp only[Qe]at h
   obtain⟨_,_,h⟩:=h
   split at h
   ·simp only[Qm,Prod.mk.injEq]at h
    obtain⟨_,_,_,rfl⟩:=h;rfl
   ·cases h
  ·cases h
 case b2s x =>
  simp only[Qe]at h
  obtain⟨_,_,h⟩:=h
  split at h
  ·simp only[Qe,Qm,Prod.mk.injEq]at h
   obtain⟨_,_,_,_,_,_,_,rfl⟩:=h;rfl
  ·cases h
 case sliceSl es x lo hi mx =>
  simp only[Qe]at h
  obtain⟨_,_,_,_,_,_,_,_,h⟩:=h
  split at h
  ·simp only[Qe]at h
   obtain⟨_,_,_,_,h⟩:=h
   split at h
   ·simp only[Qm,Prod.mk.injEq]at h;obtain⟨_,_,_,rfl⟩:=h;rfl
   ·cases h
  ·simp only[Qe,Qm,Prod.mk.injEq]at h
   obtain⟨_,_,_,_,_,rfl⟩:=h;rfl
  ·cases h
def Dp{ao:AOp}(h:Q2 H e ao=some (v,H',t,M)):(∀l,t=some l->∀id∈M,id∈l) /\
  ∀id∈M,∃x y u,(ao=.store y x u\/(∃b,ao=.append y b x u)\/ao=.copy y x u\/∃z,ao=.clear z x)/\∃v,opd e x=some v/\VP v=[id]:=by
 have E:M=[]->(∀l,t=some l->∀id∈M,id∈l)/\∀id∈M,∃x y u,(ao=.store y x u\/(∃b,ao=.append y b x u)\/ao=.copy y x u\/∃z,ao=.clear z x)/\∃v,opd e x=some v/\VP v=[id]:=by
  rintro rfl;simp
 have hs:ao.simple=true:=by cases ao<;>first|rfl|(simp[Q2]at h)
 by_cases Z:ao.quiet=true
 ·exact E (Dn hs Z h)
 cases ao<;>simp[AOp.quiet]at Z<;>simp[AOp.simple]at hs
 case store n x y =>
  simp only[Q2,Qe]at h
  obtain⟨u,hu,z,hz,h⟩:=h
  split at h
  ·rename_i ad
   split at h
   ·simp only[Qe,Qm,Prod.mk.injEq]at h
    obtain⟨H1,I,_,_,rfl,rfl⟩:=h
    refine⟨fun l J id hid=>(by cases J;exact hid),fun id hid=>⟨x,n,y,.inl rfl,_,hu,?_⟩⟩
    simp at hid;subst hid;rfl
   ·cases h
  ·cases h
 case append es b x y =>
  simp only[Q2,Qe]at h
  obtain⟨sv,Y,xv,hxv,h⟩:=h
  unfold ZV at h
  split at h
  ·rename_i base len cap
   simp only[Qe]at h
   obtain⟨n,_,new,_,h⟩:=h
   split at h
   ·simp only[Qm,Prod.mk.injEq]at h;obtain⟨_,_,_,rfl⟩:=h;exact E rfl
   ·split at h
    ·cases h
    ·split at h
     ·split at h
      ·simp only[Qm,Prod.mk.injEq]at h;obtain⟨_,_,_,rfl⟩:=h;exact E rfl
      ·cases h
     ·rename_i ad
      simp only[Qe]at h
      obtain⟨ob,hob,old,_,h⟩:=h
      have key:M=[ad.block]->t=none->(∀l,t=some l->∀id∈M,id∈l)/\∀id∈M,∃x' U u,(AOp.append es b x y=.store U x' u\/(∃b',AOp.append es b x y=.append U b' x' u)\/AOp.append es b x y=.copy U x' u\/∃z,AOp.append es b x y=.clear z x')/\∃v,opd e x'=some v/\VP v=[id]:=by
       rintro rfl rfl
       refine⟨fun l J=>(by cases J),fun id hid=>⟨x,es,y,.inr (.inl ⟨b,rfl⟩),_,Y,?_⟩⟩
       simp at hid;subst hid;rfl
      split at h
      ·cases h
      ·split at h
       ·simp only[Qe,Qm,Prod.mk.injEq]at h
        obtain⟨H1,I,_,_,rfl,rfl⟩:=h
        exact key rfl rfl
       ·split at h
        ·simp only[Qm,Prod.mk.injEq]at h;obtain⟨_,_,_,rfl⟩:=h;exact E rfl
        ·split at h
         ·simp only[Qm,Prod.mk.injEq]at h
          obtain⟨_,_,rfl,rfl⟩:=h
          exact key rfl rfl
         ·cases h
  ·cases h
 case copy es x y =>
  simp only[Q2,Qe]at h
  obtain⟨dv,O,_,_,h⟩:=h
  split at h
  ·rename_i base dl cap
   simp only[Qe]at h
   obtain⟨_,_,_,_,h⟩:=h
   split at h
   ·simp only[Qe,Qm,Prod.mk.injEq]at h
    obtain⟨H1,I,_,_,rfl,rfl⟩:=h
    refine⟨fun l J=>(by cases J),fun id hid=>⟨x,es,y,.inr (.inr (.inl rfl)),_,O,?_⟩⟩
    simp at hid;subst hid;rfl
   ·split at h
    ·simp only[Qm,Prod.mk.injEq]at h;obtain⟨_,_,_,rfl⟩:=h;exact E rfl
    ·cases h
  ·cases h
 case clear z x =>
  simp only[Q2,Qe]at h
  obtain⟨dv,O,h⟩:=h
  split at h
  ·simp only[Qe,Qm,Prod.mk.injEq]at h
   obtain⟨H1,I,_,_,rfl,rfl⟩:=h
   refine⟨fun l J=>(by cases J),fun id hid=>⟨x,0,x,.inr (.inr (.inr ⟨z,rfl⟩)),_,O,?_⟩⟩
   simp at hid;subst hid;rfl
  ·cases h
def pT{v v':Value}{id:Nat}(h:VRel ρ v v')(hb:VP v=[id]):ρ id≠none:=by
 cases h with
 |same hs =>
  cases v with
  |pointer a=>cases a with
   |none=>simp[VP]at hb
   |some a=>simp[ZD]at hs
  |slice a n m=>cases a with
   |none=>simp[VP]at hb
   |some a=>simp[ZD]at hs
  |_=>simp[VP]at hb
 |ptr E I=>simp[VP]at hb;subst hb;rw[E];simp
 |slice E _ _ _ _ _ _ _=>simp[VP]at hb;subst hb;rw[E];simp
 |func _ _=>simp[VP]at hb
 |iface _=>simp[VP]at hb
 |agg _ _=>simp[VP]at hb
 |tuple _=>simp[VP]at hb
def R8{o:Oper}(hc:compOp P o=some ao)(h:Q2 H e ao=some (v,H',t,M)){a:Act}(J:OpRel ρ e a o.op.operands.toList):Pres ρ H H':=by
 intro id hid hn
 refine(HJ h).log id hid fun hm =>?_
 obtain⟨x,y,u,O,w,hw,hb⟩:=(Dp h).2 id hm
 have hx:x∈o.op.operands.toList:=by
  rcases O with rfl|⟨b,rfl⟩|rfl|⟨z,rfl⟩
  ·cases E:o.op<;>simp only[compOp,E]at hc<;>first
    |(simp only[QI,AOp.store.injEq]at hc;obtain⟨_,_,_,rfl,rfl⟩:=hc;simp[Op.operands];done)
    |(exfalso;(repeat'(first|(simp at hc;done)|split at hc))<;>(simp[Qe]at hc))
  ·cases E:o.op with
   |call c =>
    simp only[compOp,E]at hc
    split at hc
    ·simp at hc
    ·simp at hc
    ·split at hc
     ·rename_i s z Z tx I Y
      have hs:s=x:=by
       split at hc
       ·simp only[Qe]at hc
        obtain⟨_,_,_,_,hc⟩:=hc
        split at hc<;>simp at hc;exact hc.2.2.1
       ·simp only[Qe]at hc
        obtain⟨_,_,_,_,hc⟩:=hc
        split at hc<;>simp at hc;exact hc.2.2.1
       ·cases hc
      subst hs
      simp only[Op.operands,Call.operands,XV,QB];right;rw[I];simp
     ·cases hc
    all_goals(exfalso;(repeat'(first|(simp at hc;done)|split at hc))<;>(simp[Qe]at hc))
   |_=>exfalso;simp only[compOp,E]at hc;(repeat'(first|(simp at hc;done)|split at hc))<;>(simp[Qe]at hc)
  ·cases E:o.op with
   |call c =>
    simp only[compOp,E]at hc
    split at hc
    ·simp at hc
    ·simp at hc
    ·exfalso;(repeat'(first|(simp at hc;done)|split at hc))<;>(simp[Qe]at hc)
    ·split at hc
     ·rename_i d s td Z I Y
      have hs:d=x:=by
       split at hc
       ·simp only[QI,AOp.copy.injEq]at hc;obtain⟨_,_,_,U,_⟩:=hc;exact U
       ·cases hc
      subst hs
      simp only[Op.operands,Call.operands,XV,QB];right;rw[I];simp
     ·cases hc
    all_goals(exfalso;(repeat'(first|(simp at hc;done)|split at hc))<;>(simp[Qe]at hc))
   |_=>exfalso;simp only[compOp,E]at hc;(repeat'(first|(simp at hc;done)|split at hc))<;>(simp[Qe]at hc)
  ·cases E:o.op with
   |call c =>
    simp only[compOp,E]at hc
    split at hc
    ·simp at hc
    ·simp at hc
    ·exfalso;(repeat'(first|(simp at hc;done)|split at hc))<;>(simp[Qe]at hc)
    ·exfalso;(repeat'(first|(simp at hc;done)|split at hc))<;>(simp[Qe]at hc)
    ·split at hc
     ·rename_i d td I Y
      have hs:d=x:=by
       split at hc
       ·simp only[QI,AOp.clear.injEq]at hc;obtain⟨_,_,_,U⟩:=hc;exact U
       ·cases hc
      subst hs
      simp only[Op.operands,Call.operands,XV,QB];right;rw[I];simp
     ·cases hc
    all_goals(exfalso;(repeat'(first|(simp at hc;done)|split at hc))<;>(simp[Qe]at hc))
   |_=>exfalso;simp only[compOp,E]at hc;(repeat'(first|(simp at hc;done)|split at hc))<;>(simp[Qe]at hc)
 exact pT (J x hx w hw) hb hn
def LY(hs:ao.simple=true)(h:Q2 H e ao=some (v,H',t,M)):StepGood P ao e H v H' t M where
 abs:=HJ h
 ok:=fun o hc=>(ER hc hs h).oper fun ρ a E=>R8 hc h E
 loc:=fun l U G Y J=>by
  subst U
  obtain⟨G',O,Z⟩:=Iz h Y J
  exact⟨G',Z,HJ O,fun o hc=>(ER hc hs O).oper fun ρ a E=>R8 hc O E⟩
 mt:=(Dp h).1
 free:=fun I=>R9 hs I h
 quiet:=fun I=>Dn hs I h
def fN{o:Oper}(hc:compOp P o=some (.call f xs b)):∃c,o.op=.call c/\c.callee=.value (.func f)/\c.args.toList=xs:=by
 cases E:o.op with
 |call c =>
  refine⟨c,rfl,?_⟩
  simp only[compOp,E]at hc
  split at hc
  ·rename_i g I;simp only[Qm,AOp.call.injEq]at hc;obtain⟨rfl,rfl,_⟩:=hc;exact⟨I,rfl⟩
  ·simp at hc
  all_goals(exfalso;(repeat'(first|(simp at hc;done)|split at hc))<;>(simp[Qe]at hc))
 |_=>exfalso;simp only[compOp,E]at hc;(repeat'(first|(simp at hc;done)|split at hc))<;>(simp[Qe]at hc)
def aw{o:Oper}{f:Operand}(hc:compOp P o=some (.callv f xs)):∃c,o.op=.call c/\c.callee=.value f/\c.args.toList=xs:=by
 cases E:o.op with
 |call c =>
  refine⟨c,rfl,?_⟩
  simp only[compOp,E]at hc
  split at hc
  ·simp at hc
  ·rename_i g I;simp only[Qm,AOp.callv.injEq]at hc;obtain⟨rfl,rfl⟩:=hc;exact⟨by assumption,rfl⟩
  all_goals(exfalso;(repeat'(first|(simp at hc;done)|split at hc))<;>(simp[Qe]at hc))
 |_=>exfalso;simp only[compOp,E]at hc;(repeat'(first|(simp at hc;done)|split at hc))<;>(simp[Qe]at hc)
def By{o:Oper}(hc:compOp P o=some (.call f xs b))(Y:Xf e xs=some args)(h:WY P f args H v H'):OperOk P o e H v H':=by
 obtain⟨c,O,J,hargs⟩:=fN hc
 intro ρ a w I E hfree K Q hK
 rw[O]at I
 have hl:LRel ρ args (xs.map a.eval):=Dz (I.of_sub fun y U=>by simp only[Op.operands,Call.operands,XV,QB];right;rw[hargs];exact U) Y
 have Z:=h ρ (xs.map a.eval) w hl E hfree o a K Q hK
 unfold Oper.wp
 have:(execOp a.eval o).run P w=(callFunc f (xs.map a.eval).toArray).run P w:=by
  simp only[execOp,O]
  rw[MX (f:=f) (xs:=c.args) J rfl]
  congr 2
  apply Ji.1
  rw[Wy,hargs]
 rw[this];exact Z
def IK{o:Oper}{f:Operand}(hc:compOp P o=some (.callv f xs)){g:FuncId}{Z ca:Array Value}(hf:opd e f=some (.func (.func g) Z ca))(hx:Xf e xs=some args)
 (h:WY P g (Z.toList++args++ca.toList) H v H'):OperOk P o e H v H':=by
  obtain⟨c,ho,J,hargs⟩:=aw hc
  intro ρ a w O U hfree K Q hK
  rw[ho]at O
  have hl:LRel ρ args (xs.map a.eval):=Dz (O.of_sub fun y hy=>by simp only[Op.operands,Call.operands,XV,QB];right;rw[hargs];exact hy) hx
  have Y:VRel ρ (.func (.func g) Z ca) (a.eval f):=O f (by simp[Op.operands,Call.operands,J]) _ hf
  have hfi:∃E I:List Value,a.eval f=.func (.func g) E.toArray I.toArray/\LRel ρ Z.toList E/\LRel ρ ca.toList I:=by
    generalize a.eval f=u at Y
    cases Y with
    |same hs =>
      simp only[ZD,Jd,Array.isEmpty_iff]at hs
      obtain⟨rfl,rfl⟩:=hs
      exact⟨[],[],rfl,.nil,.nil⟩
    |func p q=>exact⟨_,_,rfl,p,q⟩
  obtain⟨E,I,e1,e2,e3⟩:=hfi
  have hr:=h ρ (E++xs.map a.eval++I) w ((e2.append hl).append e3) U hfree o a K Q hK
  unfold Oper.wp
  have:(execOp a.eval o).run P w=(callFunc g (E++xs.map a.eval++I).toArray).run P w:=by
    simp only[execOp,ho,resolve,J,e1,Deferred.ofValue,Sem.run_bind,Sem.run_pure,Result.andThen_ok,invoke]
    congr 2
    apply Ji.1
    simp[hargs]
  rw[this];exact hr
end
end
end Go.Ev
namespace Go.Ev
open Go.RowKit
section
variable{ρ:Pl}{e:Env}
def EnvRel(ρ:Pl)(e:Env)(a:Act):Prop:=∀t v,e.get t=some v->∃v',a.tmps[t]?=some v'/\VRel ρ v v'
def EnvRel.mono{ρ ρ':Pl}{e:Env}{a:Act}(h:EnvRel ρ e a)(hle:PlLe ρ ρ'):EnvRel ρ' e a:=fun t v ht=>by
 obtain⟨v',I,E⟩:=h t v ht
 exact⟨v',I,E.mono hle⟩
def Ri{a:Act}{x:Operand}(hc:Yx x=true)(h:∀t,x=.tmp t->∀v,e.get t=some v->∃v',a.tmps[t]?=some v'/\VRel ρ v v'){v:Value}(hv:opd e x=some v):VRel ρ v (a.eval x):=by
 cases x with
 |tmp t =>
  obtain⟨v',I,E⟩:=h t rfl v hv
  simp only[Act.eval,Jo,I,X8];exact E
 |const u=>simp only[opd,Qm]at hv;subst hv;exact VRel.of_const hc
 |global g=>simp[Yx]at hc
 |func f=>simp only[opd,Qm]at hv;subst hv;exact .same rfl
def EnvRel.opRel{ρ:Pl}{e:Env}{a:Act}{xs:List Operand}(h:EnvRel ρ e a)(hc:xs.all Yx=true):OpRel ρ e a xs :=
 fun x E v hv=>Ri (ZX.1 hc x E) (fun t _ v hv=>h t v hv) hv
def Lc(e:Env)(dst:Option Nat)(v:Value)(t:Nat):(e.put dst v).get t=if dst=some t then some v else e.get t:=by
 cases dst with
 |none=>simp[Env.put]
 |some d =>
  simp only[Env.put,Env.get,Qm]
  by_cases c:t=d
  ·subst c;simp
  ·simp[c,Ne.symm c]
def LQ(a:Act)(dst:Option Nat)(v:Value)(hd:∀d,dst=some d->d<a.tmps.size)(t:Nat):(a.put dst v).tmps[t]?=if dst=some t then some v else a.tmps[t]? := by
 cases dst with
 |none=>simp[Act.put]
 |some d =>
  have:=hd d rfl
  simp only[Act.put,Xp,Qm]
  by_cases c:d=t
  ·subst c;simp[this]
  ·simp[c]
def HO(a:Act)(dst:Option Nat)(v:Value):(a.put dst v).defers=a.defers:=by cases dst<;>rfl
def Ae(a:Act)(dst:Option Nat)(v:Value):(a.put dst v).tmps.size=a.tmps.size:=by cases dst<;>simp[Act.put]
def EnvRel.put{ρ:Pl}{e:Env}{a:Act}(h:EnvRel ρ e a){dst:Option Nat}{v v':Value}(hv:VRel ρ v v')(hd:∀d,dst=some d->d<a.tmps.size):EnvRel ρ (e.put dst v) (a.put dst v'):=by
 intro t u ht
 rw[Lc]at ht
 rw[LQ _ _ _ hd]
 split at ht
 ·cases ht;rename_i hc;rw[if_pos hc];exact⟨v',rfl,hv⟩
 ·rename_i hc;rw[if_neg hc];exact h t u ht
def AF:∀(l:List Nat) (e:Env) (t:Nat) (v:Value),(e.keep l).get t=some v->e.get t=some v
 |[],e,t,v,h=>by simp[Env.keep,Env.get]at h
 |u::l,e,t,v,h=>by
  unfold Env.keep at h
  split at h
  ·rename_i x E
   simp only[Env.get]at h
   split at h
   ·subst_vars;cases h;exact E
   ·exact AF l e t v h
  ·exact AF l e t v h
def EnvRel.after{ρ:Pl}{s:St}{a:Act}(h:EnvRel ρ s.env a)(keep:Option (List Nat)):EnvRel ρ (s.after keep).env a:=by
 cases keep with
 |none=>exact h
 |some l=>exact fun t v ht=>h t v (AF l _ t v ht)
def vN(s:St)(keep:Option (List Nat)):(s.after keep).h=s.h/\(s.after keep).log=s.log:=by cases keep<;>exact⟨rfl,rfl⟩
def StepAt(P:Program)(base:Nat)(ao:AOper)(s s':St)(r:Rec):Prop :=
 (guardOf s.env ao.guard=some true/\∃v H' t M,StepGood P ao.op s.env s.h v H' t M/\s'=⟨s.env.put ao.dst v,H',Qz base s.log M⟩/\r=(t,M)) \/
 (guardOf s.env ao.guard=some false/\s'=⟨s.env.put ao.dst undef,s.h,s.log⟩/\r=(some [],[]))
structure Trace(P:Program)(base:Nat)(aops:List AOper)(s s':St)(recs0 recs:List Rec)(S:Nat->St)(R:Nat->Rec):Prop where
 first:S 0=s
 last:S aops.length=s'
 recs:recs=recs0++(Jn aops.length).map R
 step:∀j ao,aops[j]?=some ao->StepAt P base ao (S j) (S (j+1)) (R j)
def Trace.nil{P:Program}{base:Nat}{s:St}{recs:List Rec}:Trace P base [] s s recs recs (fun _=>s) (fun _=>(none,[])):=⟨rfl,rfl,by simp,fun j ao h=>by simp at h⟩
def Trace.cons{P:Program}{base:Nat}{ao:AOper}{aops:List AOper}{s s1 s':St}{r:Rec}{recs0 recs:List Rec}{S:Nat->St}{R:Nat->Rec}(I:StepAt P base ao s s1 r)(h:Trace P base aops s1 s' (recs0++[r]) recs S R) :
  Trace P base (ao::aops) s s' recs0 recs (fun|0=>s|j+1=>S j) (fun|0=>r|j+1=>R j):=by
 refine⟨rfl,h.last,?_,fun j x E =>?_⟩
 ·rw[h.recs,Zt,List.range_succ_eq_map];simp[Function.comp_def]
 ·cases j with
  |zero=>simp at E;subst E;simp only;rw[h.first];exact I
  |succ j=>exact h.step j x (by simpa using E)
def Zv(base:Nat):∀(M log:List Nat) (id:Nat),id∈Qz base log M↔id∈log\/(id∈M/\id<base)
 |[],log,id=>by simp[Qz]
 |i::M,log,id=>by
  unfold Qz
  split
  ·rename_i hc
   rw[Zv base M]
   simp only[QB,J8,List.not_mem_nil,or_false]
   constructor
   ·rintro((h|rfl)|⟨h,E⟩)
    ·exact .inl h
    ·exact .inr ⟨.inl rfl,hc.1⟩
    ·exact .inr ⟨.inr h,E⟩
   ·rintro(h|⟨rfl|h,E⟩)
    ·exact .inl (.inl h)
    ·exact .inl (.inr rfl)
    ·exact .inr ⟨h,E⟩
  ·rename_i hc
   rw[Zv base M]
   simp only[J8]
   constructor
   ·rintro(h|⟨h,E⟩)
    ·exact .inl h
    ·exact .inr ⟨.inr h,E⟩
   ·rintro(h|⟨rfl|h,E⟩)
    ·exact .inl h
    ·by_cases I:id∈log
     ·exact .inl I
     ·exact absurd ⟨E,I⟩ hc
    ·exact .inr ⟨h,E⟩
structure CAbs(base:Nat)(s s':St):Prop where
 len:s.h.length<=s'.h.length
 flags:∀(id:Nat) ob',id<s.h.length->s'.h[id]?=some ob'->ob'.live=true->∃ob,s.h[id]?=some ob/\ob.live=true/\ob.own=ob'.own
 log:∀id:Nat,id<base->id<s.h.length->id∉s'.log->s'.h[id]?=s.h[id]?
 sub:∀id∈s.log,id∈s'.log
 ids:∀id∈s'.log,id∈s.log\/(id<base/\id<s'.h.length)
def CAbs.refl(base:Nat)(s:St):CAbs base s s:=⟨Qj _,fun _ ob' _ h E=>⟨ob',h,E,rfl⟩,fun _ _ _ _=>rfl,fun _ h=>h,fun _ h=>.inl h⟩
def CAbs.trans{base:Nat}{a b c:St}(h:CAbs base a b)(k:CAbs base b c):CAbs base a c:=by
 refine⟨JG h.len k.len,fun id ob I E J =>?_,fun id I E J =>?_,fun id hid=>k.sub id (h.sub id hid),fun id hid =>?_⟩
 ·obtain⟨U,a1,a2,a3⟩:=k.flags id ob (QJ I h.len) E J
  obtain⟨O,b1,Z,Y⟩:=h.flags id U I a1 a2
  exact⟨O,b1,Z,Y.trans a3⟩
 ·rw[k.log id I (QJ E h.len) J,h.log id I E fun hm=>J (k.sub id hm)]
 ·rcases k.ids id hid with I|I
  ·rcases h.ids id I with E|E
   ·exact .inl E
   ·exact .inr ⟨E.1,QJ E.2 k.len⟩
  ·exact .inr I
def StepAt.abs{P:Program}{base:Nat}{ao:AOper}{s s':St}{r:Rec}(h:StepAt P base ao s s' r):AbsOk s.h s'.h r.2/\CAbs base s s':=by
 rcases h with⟨_,v,H',t,M,E,rfl,rfl⟩|⟨_,rfl,rfl⟩
 ·refine⟨E.abs,⟨E.abs.len,E.abs.flags,fun id I J O=>E.abs.log id J fun hm=>O ((Zv _ _ _ _).2 (.inr ⟨hm,I⟩)),fun id h=>(Zv _ _ _ _).2 (.inl h),fun id h =>?_⟩⟩
  rcases(Zv _ _ _ _).1 h with I|⟨I,J⟩
  ·exact .inl I
  ·exact .inr ⟨J,QJ (E.abs.ids id I) E.abs.len⟩
 ·exact⟨.refl _ _ wd,⟨Qj _,fun _ ob' _ h U=>⟨ob',h,U,rfl⟩,fun _ _ _ _=>rfl,fun _ h=>h,fun _ h=>.inl h⟩⟩
def Trace.cabs{P:Program}{base:Nat}{aops:List AOper}{s s':St}{recs0 recs:List Rec}{S:Nat->St}{R:Nat->Rec}(h:Trace P base aops s s' recs0 recs S R){i j:Nat}(I:i<=j)(O:j<=aops.length):CAbs base (S i) (S j):=by
 induction j with
 |zero =>
  have:i=0:=qr
  subst this;exact .refl _ _
 |succ j E =>
  rcases ZA i (j+1)with hlt|J
  ·have hs:=h.step j (aops[j]'qr) (Qg qr)
   exact(E qr qr).trans hs.abs.2
  ·have:i=j+1:=qr
   subst this;exact .refl _ _
def Oy{base:Nat}{s s':St}(h:CAbs base s s')(hfree:Free ρ s.h.length s'.h.length):Flags ρ (hp s.h) (hp s'.h):=by
 intro id ob' pl hρ I J
 have hid:id<s'.h.length:=(Qf.1 I).1
 rcases ZA id s.h.length with hlt|E
 ·exact h.flags id ob' hlt I J
 ·have:=hfree id E hid;rw[this]at hρ;cases hρ
structure CPost(ρ:Pl)(s s':St)(a:Act)(w:World)(a':Act)(w':World)(ρ':Pl):Prop where
 env:EnvRel ρ' s'.env a'
 defers:a'.defers=[]
 size:a'.tmps.size=a.tmps.size
 ext:Ext ρ ρ' s.h.length s'.h.length
 rel:RelF ρ' (hp s'.h) w'
 frm:Frm ρ ρ' (hp s.h) (hp s'.h) w w'
 pres:Pres ρ s.h s'.h
def Free.later{ρ ρ1:Pl}{n E I:Nat}(h:Free ρ n I)(he:Ext ρ ρ1 n E)(hn:n<=E):Free ρ1 E I:=by
 intro id O J
 cases hc:ρ1 id with
 |none=>rfl
 |some pl =>
  have:=he.dom id pl hc (h id (JG hn O) J)
  omega
def CPost.trans{base:Nat}{ρ ρ1 ρ2:Pl}{s s1 s2:St}{a U a2:Act}{w O J:World}(h:CPost ρ s s1 a w U O ρ1)(k:CPost ρ1 s1 s2 U O a2 J ρ2)(c1:CAbs base s s1)(c2:CAbs base s1 s2)(hfree:Free ρ s.h.length s2.h.length) :
  CPost ρ s s2 a w a2 J ρ2:=by
 have Z:Free ρ s.h.length s1.h.length:=fun id I E=>hfree id I (QJ E c2.len)
 refine⟨k.env,k.defers,k.size.trans h.size,⟨h.ext.le.trans k.ext.le,fun id pl E Y =>?_⟩,k.rel,h.frm.trans k.frm h.ext.le k.ext.le (Oy c1 Z) (Oy c2 fun id I E=>hfree id (JG c1.len I) E),fun id I E =>?_⟩
 ·cases hρ1:ρ1 id with
  |some p =>
   have:=h.ext.dom id p hρ1 Y
   exact⟨this.1,QJ this.2 c2.len⟩
  |none =>
   have:=k.ext.dom id pl E hρ1
   exact⟨JG c1.len this.1,this.2⟩
 ·have hρ1:ρ1 id=none:=by
   cases hc:ρ1 id with
   |none=>rfl
   |some pl=>have:=h.ext.dom id pl hc E;omega
  rw[k.pres id (QJ I c1.len) hρ1,h.pres id I E]
def X7{P:Program}{n:Nat}{all:List Oper}:∀ {ops:List Oper} {aops:List AOper},V5 P n all ops=some aops->aops.length=ops.length/\∀(j:Nat) (o:Oper),ops[j]?=some o->∃ao:AOper,aops[j]?=some ao/\compOp P o=some ao.op/\ao.dst=o.dst /\
  Ux all o.guard=some ao.guard/\o.op.operands.toList.all Yx=true/\∀d,o.dst=some d->d<n
 |[],aops,h=>by simp[V5]at h;subst h;exact⟨rfl,fun j o h=>by simp at h⟩
 |o::ops,aops,h=>by
  simp only[V5]at h
  split at h
  ·rename_i hc
   simp only[Qe,QI]at h
   obtain⟨ao,Y,g,U,l,O,rfl⟩:=h
   obtain⟨I,E⟩:=X7 O
   refine⟨by simp[I],fun j x J =>?_⟩
   cases j with
   |zero =>
    simp at J;subst J
    simp only[Jd]at hc
    exact⟨_,rfl,Y,rfl,U,hc.1,fun d hd=>by have:=hc.2;rw[hd]at this;simpa using this⟩
   |succ j=>simpa using E j x (by simpa using J)
  ·cases h
def EL{a:Act}{ops:Array Oper}{o:Oper}{g:Option (Nat×Bool)}{b:Bool}(J:Ux ops.toList o.guard=some g)(hb:guardOf e g=some b)
 (hn:∀k E d,o.guard=some (k,E)->(ops[k]?).bind (·.dst)=some d->∀v,e.get d=some v->∃v',a.tmps[d]?=some v'/\VRel ρ v v'):Region.wanted o (yielded ops a.tmps)=b:=by
  unfold Region.wanted
  cases O:o.guard with
  |none =>
    rw[O]at J
    simp only[Ux,Qm]at J
    subst J
    simp only[guardOf,Qm]at hb
    exact hb
  |some p =>
    obtain⟨k,E⟩:=p
    rw[O]at J
    simp only[Ux,QI]at J
    obtain⟨d,hd,rfl⟩:=J
    simp only[guardOf,Qe]at hb
    obtain⟨v,hv,hb⟩:=hb
    have I:(ops[k]?).bind (·.dst)=some d:=by simpa using hd
    obtain⟨v',Y,U⟩:=hn k E d O I v hv
    split at hb
    · rename_i t
      cases hb
      have:=U.bool
      subst this
      show(yielded ops a.tmps k==some E)=_
      unfold yielded
      rw[I]
      simp[Y]
    · cases hb
      show(yielded ops a.tmps k==some E)=false
      unfold yielded
      rw[I]
      cases U with
      |same h=>simp[ZD]at h
      |_=>simp[Y]
    · cases hb
end
section
variable{P:Program}{n base:Nat}{ops:Array Oper}{aops:List AOper}{s s':St}{recs0 recs:List Rec}{S:Nat->St}{R:Nat->Rec}{Q:Exit->Act->World->Prop}
def PD(hc:V5 P n ops.toList ops.toList=some aops)(ht:Trace P base aops s s' recs0 recs S R):∀(k j:Nat),j+k=aops.length->∀(ρ:Pl) (a:Act) (w:World),EnvRel ρ (S j).env a->a.defers=[]->n<=a.tmps.size->RelF ρ (hp (S j).h) w ->
  Free ρ (S j).h.length s'.h.length->(∀a' w' ρ',CPost ρ (S j) s' a w a' w' ρ'->Q .normal a' w')->wpOps P ops Q (Vv j k) a w
 |0,j,hj,ρ,a,w,h1,h2,h3,h4,h5,hQ=>by
  simp only[List.range'_zero,wpOps]
  have hs:S j=s':=by rw[<-ht.last];congr 1
  rw[hs]at h1 h4 hQ
  exact hQ a w ρ ⟨h1,h2,rfl,.refl _ _ _,h4,.refl _ _ _ _,fun _ _ _=>rfl⟩
 |k+1,j,hj,ρ,a,w,h1,h2,h3,h4,h5,hQ=>by
  obtain⟨hl,hget⟩:=X7 hc
  have I:j<ops.toList.length:=qr
  have hjs:j<ops.size:=by simpa using I
  obtain⟨ao,ha1,ha2,Z,ha4,ha5,ha6⟩:=hget j _ (Qg I)
  have hoj:ops[j]?=some ops.toList[j]:=by rw[<-ZQ,Qg I]
  generalize ops.toList[j]=o at ha2 Z ha4 ha5 ha6 hoj
  have hst:=ht.step j ao ha1
  have hd:∀d,o.dst=some d->d<a.tmps.size:=fun d hd=>QJ (ha6 d hd) h3
  have U:=ht.cabs (i:=j) (j:=j+1) qr qr
  have O:=ht.cabs (i:=j+1) (j:=aops.length) qr qr
  rw[ht.last]at O
  rw[List.range'_succ]
  rw[wpOps_cons]
  unfold wpOp
  rw[hoj]
  dsimp only
  have hw:∀b,guardOf (S j).env ao.guard=some b->Region.wanted o (yielded ops a.tmps)=b:=fun b hb=>EL (ρ:=ρ) ha4 hb fun _ _ d _ _ v hv=>h1 d v hv
  rcases hst with⟨hg,v,H',t,M,hgood,J,_⟩|⟨hg,J,_⟩
  ·rw[if_pos (hw true hg)]
   left
   have hf1:Free ρ (S j).h.length H'.length:=fun id i1 i2=>h5 id i1 (by have:=O.len;rw[J]at this;exact QJ i2 this)
   refine hgood.ok o ha2 ρ a w (h1.opRel ha5) h4 hf1 _ _ fun v' w' ρ' hp =>?_
   have E:CPost ρ (S j) (S (j+1)) a w (a.put o.dst v') w' ρ':=by
    rw[J]
    refine⟨?_,by rw[HO];exact h2,Ae _ _ _,hp.ext,hp.rel,hp.frm,hp.pres⟩
    rw[Z]
    exact(h1.mono hp.ext.le).put hp.val hd
   refine PD hc ht k (j+1) qr ρ' _ w' E.env E.defers (by rw[E.size];exact h3) E.rel (h5.later E.ext U.len) fun a2 w2 ρ2 Y=>hQ a2 w2 ρ2 (E.trans Y U O h5)
  ·rw[if_neg (by rw[hw false hg];simp)]
   have E:CPost ρ (S j) (S (j+1)) a w (a.put o.dst undef) w ρ:=by
    rw[J]
    refine⟨?_,by rw[HO];exact h2,Ae _ _ _,.refl _ _ _,h4,.refl _ _ _ _,fun _ _ _=>rfl⟩
    rw[Z]
    exact h1.put (.tuple .nil) hd
   refine PD hc ht k (j+1) qr ρ _ w E.env E.defers (by rw[E.size];exact h3) E.rel (h5.later E.ext U.len) fun a2 w2 ρ2 Y=>hQ a2 w2 ρ2 (E.trans Y U O h5)
end
end Go.Ev
namespace Go.Ev
open Go.RowKit
section
variable{i:Nat}
def RelF.forget2{ρ:Pl}{c c':Nat->Option Ob}{w:World}(h:RelF ρ c w)(hc:∀id ob,ρ id≠none->c' id=some ob->ob.live=true->c id=some ob):RelF ρ c' w :=
 ⟨h.bound,fun id ob pl J I E=>h.obj id ob pl (hc id ob (by rw[I];simp) J E) I E,
  fun i j oi oj pi pj J I E Y U h6 O Z=>h.inj i j oi oj pi pj (hc i oi (by rw[E];simp) J U) (hc j oj (by rw[Y];simp) I O) E Y U h6 O Z⟩
def Rp{α β:Type}(f:List β->α->β):∀(l:List α) (init:List β),(l.foldl (fun acc o=>acc++[f acc o]) init).length=init.length+l.length/\(∀k,k<init.length->(l.foldl (fun acc o=>acc++[f acc o]) init)[k]?=init[k]?) /\
  ∀(k:Nat) o,l[k]?=some o->(l.foldl (fun acc o=>acc++[f acc o]) init)[init.length+k]?=some (f ((l.foldl (fun acc o=>acc++[f acc o]) init).take (init.length+k)) o)
 |[],init=>by simp
 |x::l,init=>by
  obtain⟨O,I,J⟩:=Rp f l (init++[f init x])
  simp only[XK]
  refine⟨by rw[O];simp;omega,fun k E=>by rw[I k (by simp;omega),Qb E],fun k o E =>?_⟩
  cases k with
  |zero =>
   simp at E;subst E
   rw[ZM,I init.length wd]
   have:(l.foldl (fun acc o=>acc++[f acc o]) (init++[f init x])).take init.length=init:=by
    apply ZE
    intro i
    rw[QN]
    split
    ·rename_i hi
     rw[I i (by simp;omega),Qb hi]
    ·rw[QE qr]
   rw[this];simp
  |succ k =>
   have:=J k o (by simpa using E)
   simp only[Qh,R6]at this
   rw[show init.length+(k+1)=init.length+1+k by omega]
   exact this
def LO:∀(es:List Edge) (acc:List Nat) (u i:Nat),(es.foldl (fun u e=>if Region.binds .any e then u|||(2^e.on|||acc.getD e.on 0)else u) u).testBit i=true ->
  u.testBit i=true\/∃e∈es,Region.binds .any e=true/\(i=e.on\/(acc.getD e.on 0).testBit i=true)
 |[],acc,u,i,h=>.inl h
 |e::es,acc,u,i,h=>by
  simp only[XK]at h
  rcases LO es acc _ i h with E|⟨U,E,J,I⟩
  ·split at E
   ·rename_i hb
    rw[Tg,Tg,Y1,Y1,Nat.testBit_two_pow]at E
    rcases E with E|E|E
    ·exact .inl E
    ·exact .inr ⟨e,by simp,hb,.inl (by have O:=of_decide_eq_true E;omega)⟩
    ·exact .inr ⟨e,by simp,hb,.inr E⟩
   ·exact .inl E
  ·exact .inr ⟨U,by simp[E],J,I⟩
def TH{ops:List Oper}{L:Nat->Prop}(hd:∀j o,L j->ops[j]?=some o->∀e∈o.after.toList,Region.binds .any e=true->L e.on):∀(j:Nat),L j->∀i,((Vi ops).getD j 0).testBit i=true->L i:=by
 intro j
 induction j using MG with
 |_ j U =>
  intro Z i hi
  obtain⟨h1,h2,h3⟩:=Rp (fun acc (o:Oper)=>qV acc o.after.toList) ops []
  cases I:ops[j]? with
  |none =>
   have:(Vi ops).getD j 0=0:=by
    have Y:(Vi ops).length=ops.length:=by have:=h1;simpa [Vi]using this
    rw[Qy,QE]
    ·rfl
    ·rw[Y];exact List.getElem?_eq_none_iff.1 I
   rw[this]at hi;simp at hi
  |some o =>
   have O:=h3 j o I
   simp only[Z9,QH]at O
   have h5:(Vi ops)[j]?=some (qV ((Vi ops).take j) o.after.toList):=O
   rw[Qy,h5,X8]at hi
   rcases LO _ _ _ _ hi with J|⟨e,J,h7,E⟩
   ·simp at J
   ·have he:=hd j o Z I e J h7
    rcases E with rfl|E
    ·exact he
    ·have hlt:e.on<j:=by
      rcases ZA e.on j with h|h
      ·exact h
      ·rw[Qy,QE (by simp;omega)]at E;simp at E
     refine U e.on hlt he i ?_
     rw[Qy,QN,if_pos hlt,<-Qy]at E
     exact E
def bU{α:Type}{l:List α}{x:α}(h:l[i]?=some x):(i,x)∈idx l:=by
 unfold idx
 rw[List.mem_iff_getElem?]
 refine⟨i,?_⟩
 have hlt:=(Qf.1 h).1
 rw[List.getElem?_zip_eq_some]
 exact⟨by rw[Yp hlt],h⟩
def cM(ops:List Oper):(Vi ops).length=ops.length:=by
 have:=(Rp (fun acc (o:Oper)=>qV acc o.after.toList) ops []).1
 simpa [Vi]using this
def NB{ops:List Oper}{j:Nat}(E:i<j)(J:j<ops.length)(h:((Vi ops).getD j 0).testBit i=false):(i,j)∈Kk (Vi ops):=by
 unfold Kk
 rw[List.mem_flatMap]
 have I:=cM ops
 refine⟨(j,(Vi ops)[j]'qr),bU (Qg qr),?_⟩
 simp only[JN,MH,YS,Prod.mk.injEq]
 refine⟨i,⟨E,?_⟩,by simp⟩
 rw[Qy,Qg qr,X8]at h
 simp[h]
def XF(l:Array Bool)(j:Nat):l.getD j true=true\/(l.getD j false=false/\j<l.size):=by
 simp only[Jo]
 rcases ZA j l.size with h|h
 ·rw[ZL h]
  simp only[X8]
  cases l[j]<;>simp[h]
 ·left;rw[YU h];rfl
def count_set{l:List Bool}{k:Nat}(h:l[k]?=some false):(l.set k true).count false+1=l.count false:=by
 induction l generalizing k with
 |nil=>simp at h
 |cons b l E =>
  cases k with
  |zero=>simp at h;subst h;simp
  |succ k=>simp at h;have:=E h;simp only[YB,List.count_cons];omega
def touches(r:Rec)(id:Nat):Prop:=match r.1 with|some l=>id∈l|none=>True
def aG{r s:Rec}(h:DQ r s=true):(∀id∈r.2,¬touches s id)/\(∀id∈s.2,¬touches r id):=by
 unfold DQ at h
 simp only[Jd,Y1,List.isEmpty_iff]at h
 obtain⟨I,E⟩:=h
 constructor
 ·intro id hid ht
  rcases I with I|I
  ·rw[I]at hid;simp at hid
  ·unfold touches at ht
   split at I
   ·rename_i l J
    rw[J]at ht
    have:=ZX.1 I id hid
    simp at this;exact this ht
   ·cases I
 ·intro id hid ht
  rcases E with E|E
  ·rw[E]at hid;simp at hid
  ·unfold touches at ht
   split at E
   ·rename_i l J
    rw[J]at ht
    have:=ZX.1 E id hid
    simp at this;exact this ht
   ·cases E
end
section
variable{P:Program}{n base:Nat}{ops:Array Oper}{aops:List AOper}{s s':St}{recs:List Rec}{S:Nat->St}{R:Nat->Rec}
def Changed(S:Nat->St)(i id:Nat):Prop:=id<(S i).h.length/\(S (i+1)).h[id]?≠(S i).h[id]?
structure Inv(P:Program)(ops:Array Oper)(S:Nat->St)(R:Nat->Rec)(ρ0:Pl)(a0:Act)(w0:World)(listed:Array Bool)(a:Act)(w:World)(ρ:Pl)(c:Nat->Option Ob):Prop where
 size:listed.size=ops.size
 down:∀(j:Nat) o,listed.getD j false=true->ops.toList[j]?=some o->∀e∈o.after.toList,Region.binds .any e=true->listed.getD e.on false=true
 rel:RelF ρ c w
 le:PlLe ρ0 ρ
 dom:∀id pl,ρ id=some pl->ρ0 id=none->∃k,k<ops.size/\listed.getD k false=true/\(S k).h.length<=id/\id<(S (k+1)).h.length
 con:∀j,j<=ops.size->listed.getD j false=false->∀id pl,ρ id=some pl->id<(S j).h.length->(j=ops.size\/touches (R j) id)->(∀i,i<j->listed.getD i false=false->¬Changed S i id)->c id=(S j).h[id]?
 env:∀j,j<=ops.size->listed.getD j false=false->∀t,(j=ops.size\/∃o,ops.toList[j]?=some o/\t∈namesOf ops.toList o)->(∀i,i<j->listed.getD i false=false->∀o,ops.toList[i]?=some o->o.dst≠some t) ->
  ∀v,(S j).env.get t=some v->∃v',a.tmps[t]?=some v'/\VRel ρ v v'
 frm:Frm ρ0 ρ (hp (S 0).h) c w0 w
 flags:Flags ρ0 (hp (S 0).h) c
 there:∀i,listed.getD i false=true->∀id,Changed S i id->ρ id≠none
 pres:∀id,id<(S 0).h.length->ρ0 id=none->(∀i,listed.getD i false=true->¬Changed S i id)
 defers:a.defers=[]
 tsize:a.tmps.size=a0.tmps.size
def og{l:Array Bool}{k j:Nat}(E:k<l.size):(l.setIfInBounds k true).getD j false=if j=k then true else l.getD j false:=by
 simp only[Jo,Xp]
 by_cases c:k=j
 ·subst c;simp[E]
 ·simp[c,Ne.symm c]
variable(hc:V5 P n ops.toList ops.toList=some aops)(ht:Trace P base aops s s' [] recs S R)
section
variable{id t i:Nat}
include hc ht
def Lo{i j:Nat}(O:i<=j)(hj:j<=ops.size)(hid:id<(S i).h.length)(h:∀k,i<=k->k<j->¬Changed S k id):(S j).h[id]?=(S i).h[id]? := by
 obtain⟨J,_⟩:=X7 hc
 have hlen:aops.length=ops.size:=by simpa using J
 induction j with
 |zero =>
  have:i=0:=qr
  subst this;rfl
 |succ j I =>
  rcases ZA i (j+1)with hlt|U
  ·have h1:=I qr qr fun k a b=>h k a qr
   have Z:=h j qr qr
   have h3:=(ht.cabs (i:=i) (j:=j) qr qr).len
   have Y:(S (j+1)).h[id]?=(S j).h[id]? := by
    apply Classical.byContradiction
    intro E
    exact Z ⟨by omega,E⟩
   rw[Y,h1]
  ·have:i=j+1:=qr
   subst this;rfl
def iC{j:Nat}(U:j<ops.size)(h:∀o,ops.toList[j]?=some o->o.dst≠some t):(S (j+1)).env.get t=(S j).env.get t:=by
 obtain⟨hl,I⟩:=X7 hc
 have E:j<ops.toList.length:=by simpa using U
 obtain⟨ao,O,Y,J,_⟩:=I j _ (Qg E)
 have hd:=h _ (Qg E)
 rw[<-J]at hd
 rcases ht.step j ao O with⟨_,v,H',Z,M,_,hs,_⟩|⟨_,hs,_⟩<;>(rw[hs];simp only[Lc,if_neg hd])
def Ib{i j:Nat}(I:i<=j)(O:j<=ops.size)(h:∀k,i<=k->k<j->∀o,ops.toList[k]?=some o->o.dst≠some t):(S j).env.get t=(S i).env.get t:=by
 induction j with
 |zero =>
  have:i=0:=qr
  subst this;rfl
 |succ j E =>
  rcases ZA i (j+1)with hlt|J
  ·rw[iC hc ht qr (h j qr qr),E qr qr fun k a b=>h k a qr]
  ·have:i=j+1:=qr
   subst this;rfl
def WC(hi:i<ops.size)(h:Changed S i id):id∈(R i).2/\touches (R i) id:=by
 obtain⟨hl,I⟩:=X7 hc
 have U:i<ops.toList.length:=by simpa using hi
 obtain⟨ao,Y,_⟩:=I i _ (Qg U)
 have E:=ht.step i ao Y
 have J:id∈(R i).2:=by
  apply Classical.byContradiction
  intro hn
  exact h.2 (E.abs.1.log id h.1 hn)
 refine⟨J,?_⟩
 rcases E with⟨_,v,H',Z,M,hg,_,O⟩|⟨_,_,O⟩
 ·rw[O]at J ⊢
  cases Z with
  |none=>trivial
  |some l=>exact hg.mt l rfl id J
 ·rw[O]at J;simp at J
def VG{j:Nat}(E:i<=j)(J:j<=ops.size):(S i).h.length<=(S j).h.length:=by
 obtain⟨I,_⟩:=X7 hc
 have hlen:aops.length=ops.size:=by simpa using I
 exact(ht.cabs E qr).len
end
end
end Go.Ev
namespace Go.Ev
open Go.RowKit
section
variable{P:Program}{n base:Nat}{ops:Array Oper}{aops:List AOper}{s s':St}{recs:List Rec}{S:Nat->St}{R:Nat->Rec}
def HI{l:List Oper}{E:List (Nat×Nat)}(h:Tp l E=true){i j:Nat}(hp:(i,j)∈E){a b:Oper}(ha:l[i]?=some a)(hb:l[j]?=some b) :
  (∀d,a.dst=some d->d∉namesOf l b/\b.dst≠some d)/\(∀d,b.dst=some d->d∉namesOf l a):=by
 have:=ZX.1 h (i,j) hp
 simp only[ha,hb,Jd]at this
 obtain⟨I,J⟩:=this
 refine⟨fun d hd =>?_,fun d hd =>?_⟩
 ·rw[hd]at I;simp at I;exact I
 ·rw[hd]at J;simpa using J
variable(hc:V5 P n ops.toList ops.toList=some aops)(ht:Trace P base aops s s' [] recs S R)
include hc ht
def HR(hpairs:ZO recs (Ul aops (Kk (Vi ops.toList)))=true){i j:Nat}(hij:i<j)(hj:j<ops.size)(hp:(i,j)∈Kk (Vi ops.toList)) :
  (∀id∈(R i).2,¬touches (R j) id)/\(∀id∈(R j).2,¬touches (R i) id):=by
 obtain⟨hl,hget⟩:=X7 hc
 have hlen:aops.length=ops.size:=by simpa using hl
 have O:∀k,k<ops.size->recs[k]?=some (R k):=by
  intro k Y
  rw[ht.recs]
  simp[hlen,Y]
 have hi:i<ops.size:=qr
 have J:aops[i]?=some (aops[i]'qr):=Qg qr
 have I:aops[j]?=some (aops[j]'qr):=Qg qr
 generalize aops[i]'qr=ai at J
 generalize aops[j]'qr=aj at I
 have hfree:∀k E,aops[k]?=some E->E.op.free=true->R k=(some [],[])\/((R k).1=some []/\(R k).2=[]):=by
  intro k E Y hf
  rcases ht.step k E Y with⟨_,v,H',t,M,hg,_,U⟩|⟨_,_,U⟩
  ·right;rw[U];exact hg.free hf
  ·left;exact U
 have hquiet:∀k E,aops[k]?=some E->E.op.quiet=true->(R k).2=[]:=by
  intro k E Y hf
  rcases ht.step k E Y with⟨_,v,H',t,M,hg,_,U⟩|⟨_,_,U⟩
  ·rw[U];exact hg.quiet hf
  ·rw[U]
 have hnone:∀k E,aops[k]?=some E->E.op.free=true->(R k).2=[]/\∀id,¬touches (R k) id:=by
  intro k E Y hf
  rcases hfree k E Y hf with h|⟨Z,h2⟩
  ·rw[h];exact⟨rfl,fun id h=>by simp[touches]at h⟩
  ·exact⟨h2,fun id h=>by simp[touches,Z]at h⟩
 by_cases hm:(i,j)∈Ul aops (Kk (Vi ops.toList))
 ·have:=ZX.1 hpairs (i,j) hm
  simp only[O i hi,O j hj]at this
  exact aG this
 ·have hx:(ai.op.free || aj.op.free || (ai.op.quiet&&aj.op.quiet))=true:=by
   cases hb:(ai.op.free || aj.op.free || (ai.op.quiet&&aj.op.quiet))with
   |true=>rfl
   |false =>
    exfalso;apply hm
    unfold Ul
    rw[MH]
    refine⟨hp,?_⟩
    simp only[J,I,hb,YT]
  simp only[Y1,Jd]at hx
  rcases hx with(Z|Z)|⟨Z,h2⟩
  ·obtain⟨a1,a2⟩:=hnone i ai J Z
   exact⟨fun id hid=>by rw[a1]at hid;simp at hid,fun id _=>a2 id⟩
  ·obtain⟨a1,a2⟩:=hnone j aj I Z
   exact⟨fun id _=>a2 id,fun id hid=>by rw[a1]at hid;simp at hid⟩
  ·have a1:=hquiet i ai J Z
   have a2:=hquiet j aj I h2
   exact⟨fun id hid=>by rw[a1]at hid;simp at hid,fun id hid=>by rw[a2]at hid;simp at hid⟩
variable(hslots:Tp ops.toList (Kk (Vi ops.toList))=true)(hpairs:ZO recs (Ul aops (Kk (Vi ops.toList)))=true)
section
variable{w0 w:World}
include hslots hpairs
def fL{ρ0:Pl}{a0:Act}(hfree0:Free ρ0 (S 0).h.length (S ops.size).h.length)(hn:n<=a0.tmps.size){listed:Array Bool}{a:Act}{ρ:Pl}{c:Nat->Option Ob}(O:Inv P ops S R ρ0 a0 w0 listed a w ρ c){k:Nat}
 (hk:k<ops.size) (hkl:listed.getD k false=false) (hready:∀o,ops.toList[k]?=some o->∀e∈o.after.toList,Region.binds .any e=true->listed.getD e.on false=true)
 {Q:Exit->Act->World->Prop} {K:Act->World->Prop} (hK:∀a' w' ρ' c',Inv P ops S R ρ0 a0 w0 (listed.setIfInBounds k true) a' w' ρ' c'->K a' w'):wpOp P ops Q k K a w:=by
  obtain⟨hl,hget⟩:=X7 hc
  have hlen:aops.length=ops.size:=by simpa using hl
  have hkl':k<ops.toList.length:=by simpa using hk
  obtain⟨ao,ha1,ha2,ha3,ha4,ha5,ha6⟩:=hget k _ (Qg hkl')
  have hoL:ops.toList[k]?=some ops.toList[k]:=Qg hkl'
  have hoj:ops[k]?=some ops.toList[k]:=by rw[<-ZQ];exact hoL
  generalize ops.toList[k]=o at ha2 ha3 ha4 ha5 ha6 hoj hoL
  have hst:=ht.step k ao ha1
  have hks:k<listed.size:=by rw[O.size];exact hk
  have hls:∀j,(listed.setIfInBounds k true).getD j false=if j=k then true else listed.getD j false:=fun j=>og hks
  have hdst:∀d,o.dst=some d->d<a.tmps.size:=fun d hd=>by rw[O.tsize];exact QJ (ha6 d hd) hn
  have hun1:∀i,i<k->listed.getD i false=false->(i,k)∈Kk (Vi ops.toList):=by
    intro i hi E
    refine NB hi hkl' ?_
    cases hb:((Vi ops.toList).getD k 0).testBit i with
    |false=>rfl
    |true =>
      have:=TH (ops:=ops.toList) (L:=fun j=>j=k\/listed.getD j false=true) (fun j x hj hx e he hbd=>by
        rcases hj with rfl|hj
        · exact .inr (hready x hx e he hbd)
        · exact .inr (O.down j x hj hx e he hbd)) k (.inl rfl) i hb
      rcases this with rfl|h
      · omega
      · rw[E]at h;cases h
  have hun2:∀i,k<i->i<ops.size->listed.getD i false=true->(k,i)∈Kk (Vi ops.toList):=by
    intro i hi him E
    refine NB hi (by simpa using him) ?_
    cases hb:((Vi ops.toList).getD i 0).testBit k with
    |false=>rfl
    |true =>
      have:=TH (ops:=ops.toList) (L:=fun j=>listed.getD j false=true) (fun j x hj hx e he hbd=>O.down j x hj hx e he hbd) i E k hb
      rw[hkl]at this;cases this
  have hun3:∀j,j<k->listed.getD j false=false->(j,k)∈Kk (Vi ops.toList):=hun1
  have hconk:∀id,ρ id≠none->id<(S k).h.length->touches (R k) id->c id=(S k).h[id]? := by
    intro id hρ hid htc
    obtain⟨pl,hpl⟩:∃pl,ρ id=some pl:=by cases h:ρ id with
      |none=>exact absurd h hρ
      |some pl=>exact⟨pl,rfl⟩
    refine O.con k qr hkl id pl hpl hid (.inr htc) fun i hi E hch =>?_
    have:=(HR hc ht hpairs hi hk (hun1 i hi E)).1 id (WC hc ht qr hch).1
    exact this htc
  have henvk:∀t,t∈namesOf ops.toList o->∀v,(S k).env.get t=some v->∃v',a.tmps[t]?=some v'/\VRel ρ v v':=by
    intro t htn
    refine O.env k qr hkl t (.inr ⟨o,hoL,htn⟩) fun i hi E x hx hxd =>?_
    exact((HI hslots (hun1 i hi E) hx hoL).1 t hxd).1 htn
  have hfreek:Free ρ (S k).h.length (S (k+1)).h.length:=by
    intro id J U
    cases hρ:ρ id with
    |none=>rfl
    |some pl =>
      exfalso
      cases h0:ρ0 id with
      |none =>
        obtain⟨k',a1,a2,a3,a4⟩:=O.dom id pl hρ h0
        have hne:k'≠k:=fun e=>by subst e;rw[hkl]at a2;cases a2
        rcases ZA k' k with h|h
        · have:=VG hc ht (i:=k'+1) (j:=k) qr qr;omega
        · have:=VG hc ht (i:=k+1) (j:=k') qr qr;omega
      |some p =>
        have h3:=VG hc ht (i:=0) (j:=k) qr qr
        have h4:=VG hc ht (i:=k+1) (j:=ops.size) qr qr
        have:=hfree0 id qr qr
        rw[this]at h0;cases h0
  have finish:∀(v:Value) (G G':List Ob) (v':Value) (w':World) (ρ':Pl),(S (k+1)).env=(S k).env.put o.dst v->G.length=(S k).h.length->G'.length=(S (k+1)).h.length->AbsOk G G' (R k).2->(∀id:Nat,id∈(R k).2\/(S k).h.length<=id->G'[id]?=(S (k+1)).h[id]?) ->
      (∀(id:Nat) ob,G[id]?=some ob->ob.live=true->ρ id≠none->c id=some ob)->(∀id∈(R k).2,touches (R k) id->G[id]?=(S k).h[id]?)->Post1 ρ G w v G' v' w' ρ'->K (a.put o.dst v') w':=by
    intro v G G' v' w' ρ' henv hG hG' hab hnew I hGM hp
    refine hK _ _ ρ' (UA c G' (R k).2 G.length) ?_
    have hfG:Free ρ G.length G'.length:=by rw[hG,hG'];exact hfreek
    have hmr:=eb O.rel I hp.ext hfG hp.rel hp.frm hab
    have hmf:=ee I hp.frm hab
    have hmfl:=Oa (ρ':=ρ') I hfG hab
    have hρnew:∀ {id pl},ρ' id=some pl->¬((S k).h.length<=id/\id<(S (k+1)).h.length)->ρ id=some pl:=by
      intro id pl h hnn
      cases hρ:ρ id with
      |none=>have:=hp.ext.dom id pl h hρ;rw[hG,hG']at this;exact absurd this hnn
      |some p=>have:=hp.ext.le id p hρ;rw[h]at this;cases this;rfl
    have hchk:∀id,Changed S k id->ρ id≠none:=by
      intro id hch hno
      have hm:=WC hc ht hk hch
      have J:=hp.pres id (by rw[hG];exact hch.1) hno
      rw[hnew id (.inl hm.1),hGM id hm.1 hm.2]at J
      exact hch.2 J
    refine⟨by simp[O.size],?_,hmr,O.le.trans hp.ext.le,?_,?_,?_,?_,?_,?_,?_,by rw[HO];exact O.defers,by rw[Ae];exact O.tsize⟩
    · intro j x hj hx e he hbd
      rw[hls]at hj ⊢
      split
      · rfl
      · split at hj
        · rename_i hjk;subst hjk;exact hready x hx e he hbd
        · exact O.down j x hj hx e he hbd
    · intro id pl J U
      cases hρ:ρ id with
      |none =>
        have:=hp.ext.dom id pl J hρ
        rw[hG,hG']at this
        exact⟨k,hk,by rw[hls];simp,this.1,this.2⟩
      |some p =>
        obtain⟨k',a1,a2,a3,a4⟩:=O.dom id p hρ U
        exact⟨k',a1,by rw[hls];split<;>simp[a2],a3,a4⟩
    · intro j hj Y id pl hpl hid htc hch
      rw[hls]at Y
      have hjk:j≠k:=fun e=>by simp[e]at Y
      rw[if_neg hjk]at Y
      have hch':∀i,i<j->i≠k->listed.getD i false=false->¬Changed S i id:=fun i hi Z E=>hch i hi (by rw[hls,if_neg Z];exact E)
      unfold UA
      rw[hG,hG']
      by_cases hin:id∈(R k).2\/((S k).h.length<=id/\id<(S (k+1)).h.length)
      · rw[if_pos hin]
        have hge:id∈(R k).2\/(S k).h.length<=id:=hin.imp (fun z=>z) (fun z=>z.1)
        rw[hnew id hge]
        have hidk1:id<(S (k+1)).h.length:=by
          rcases hin with h|h
          · have:=hab.ids id h;rw[hG]at this
            have:=VG hc ht (i:=k) (j:=k+1) qr qr;omega
          · exact h.2
        rcases ZA k j with hkj|hjk'
        · refine(Lo hc ht (i:=k+1) (j:=j) qr hj hidk1 fun i J U hci =>?_).symm
          cases E:listed.getD i false with
          |false=>exact hch' i U qr E hci
          |true =>
            have him:i<ops.size:=qr
            rcases hin with h|h
            · have hpa:=HR hc ht hpairs (by omega:k<i) him (hun2 i qr him E)
              exact hpa.1 id h (WC hc ht him hci).2
            · have:=O.there i E id hci
              exact this (hfreek id h.1 h.2)
        · exfalso
          have hjlt:j<k:=qr
          rcases hin with h|h
          · have hpa:=HR hc ht hpairs hjlt hk (hun1 j hjlt Y)
            rcases htc with h'|h'
            · omega
            · exact hpa.2 id h h'
          · have:=VG hc ht (i:=j) (j:=k) qr qr;omega
      · rw[if_neg hin]
        have hρ:=hρnew hpl fun h=>hin (.inr h)
        refine O.con j hj Y id pl hρ hid htc fun i hi E =>?_
        by_cases Z:i=k
        · subst Z
          exact fun hci=>hin (.inl (WC hc ht hk hci).1)
        · exact hch' i hi Z E
    · intro j hj Y t htn hnd v1 hv1
      rw[hls]at Y
      have hjk:j≠k:=fun e=>by simp[e]at Y
      rw[if_neg hjk]at Y
      rw[LQ _ _ _ hdst]
      by_cases hdt:o.dst=some t
      · rw[if_pos hdt]
        rcases ZA k j with hkj|hjk'
        · have hce:=Ib hc ht (i:=k+1) (j:=j) (t:=t) qr hj fun i J U x hx hxd=>by
            cases E:listed.getD i false with
            |false=>exact hnd i U (by rw[hls,if_neg qr];exact E) x hx hxd
            |true =>
              have him:i<ops.size:=qr
              exact((HI hslots (hun2 i qr him E) hoL hx).1 t hdt).2 hxd
          rw[hce,henv,Lc,if_pos hdt]at hv1
          cases hv1
          exact⟨v',rfl,hp.val⟩
        · exfalso
          have hjlt:j<k:=qr
          rcases htn with h'|⟨x,hx,hxn⟩
          · omega
          · exact(HI hslots (hun1 j hjlt Y) hx hoL).2 t hdt hxn
      · rw[if_neg hdt]
        obtain⟨u,J,U⟩:=O.env j hj Y t htn (fun i hi E x hx=>by
          by_cases Z:i=k
          · subst Z;rw[hoL]at hx;cases hx;exact hdt
          · exact hnd i hi (by rw[hls,if_neg Z];exact E) x hx) v1 hv1
        exact⟨u,J,U.mono hp.ext.le⟩
    · exact O.frm.trans hmf O.le hp.ext.le O.flags fun id ob' pl J U h3=>hmfl id ob' pl (O.le id pl J) U h3
    · intro id ob' pl J U h3
      obtain⟨o2,b1,b2,b3⟩:=hmfl id ob' pl (O.le id pl J) U h3
      obtain⟨o3,d1,d2,d3⟩:=O.flags id o2 pl J b1 b2
      exact⟨o3,d1,d2,d3.trans b3⟩
    · intro i hi id hci
      rw[hls]at hi
      have:ρ id≠none:=by
        split at hi
        · rename_i Z;subst Z;exact hchk id hci
        · exact O.there i hi id hci
      intro hno
      cases hρ:ρ id with
      |none=>exact this hρ
      |some p=>rw[hp.ext.le id p hρ]at hno;cases hno
    · intro id hid hno i hi hci
      rw[hls]at hi
      split at hi
      · rename_i Z;subst Z
        have J:=hchk id hci
        cases hρ:ρ id with
        |none=>exact J hρ
        |some p =>
          obtain⟨k',a1,a2,a3,a4⟩:=O.dom id p hρ hno
          have:=VG hc ht (i:=0) (j:=k') qr qr;omega
      · exact O.pres id hid hno i hi hci
  have hw:∀b,guardOf (S k).env ao.guard=some b->Region.wanted o (yielded ops a.tmps)=b:=fun b hb=>EL (ρ:=ρ) ha4 hb fun g want d J U v hv =>
    henvk d (by unfold namesOf;rw[QB];right;rw[J];have h2':(ops.toList[g]?).bind (·.dst)=some d:=(by simpa using U);simp only[h2'];simp) v hv
  unfold wpOp
  rw[hoj]
  dsimp only
  rcases hst with⟨hg,v,H',t,M,hgood,hs1,hr⟩|⟨hg,hs1,hr⟩
  · rw[if_pos (hw true hg)]
    left
    have hRM:(R k).2=M:=by rw[hr]
    have hRt:(R k).1=t:=by rw[hr]
    have hS1:(S (k+1)).h=H':=by rw[hs1]
    have henv1:(S (k+1)).env=(S k).env.put o.dst v:=by rw[hs1,ha3]
    have hopr:OpRel ρ (S k).env a o.op.operands.toList:=fun x hx u hu=>Ri (ZX.1 ha5 x hx) (fun t' ht' u' hu'=>henvk t' (by
      unfold namesOf;rw[QB];left;unfold iz;rw[List.mem_filterMap];exact⟨x,hx,by rw[ht']⟩) u' hu') hu
    cases t with
    |none =>
      have htch:∀id,touches (R k) id:=fun id=>by unfold touches;rw[hRt];trivial
      have I:∀(id:Nat) ob,(S k).h[id]?=some ob->ob.live=true->ρ id≠none->c id=some ob:=fun id ob J _ h3=>by
        rw[hconk id h3 (Qf.1 J).1 (htch id)];exact J
      refine hgood.ok o ha2 ρ a w hopr (O.rel.forget2 fun id ob J U h3=>I id ob U h3 J) (by rw[<-hS1];exact hfreek) K Q fun v' w' ρ' hp =>?_
      refine finish v (S k).h H' v' w' ρ' henv1 rfl (by rw[hS1]) (by rw[hRM];exact hgood.abs) (fun id _=>by rw[hS1]) I (fun _ _ _=>rfl) hp
    |some l =>
      let G:List Ob:=(Jn (S k).h.length).map fun i=>if i∈l then((S k).h[i]?).getD Ob.dead else Ob.dead
      have hGl:G.length=(S k).h.length:=by simp[G]
      have hGget:∀i:Nat,i<(S k).h.length->G[i]?=some (if i∈l then((S k).h[i]?).getD Ob.dead else Ob.dead):=fun i hi=>by
        simp only[G,J5,Yp hi,Y0]
      have hag:∀id∈l,G[id]?=(S k).h[id]? := by
        intro id hid
        rcases ZA id (S k).h.length with h|h
        · rw[hGget id h,if_pos hid,Qg h];rfl
        · rw[QE qr,QE h]
      obtain⟨G',hloc,habs,hokG⟩:=hgood.loc l rfl G hGl hag
      have htc:∀id,touches (R k) id↔id∈l:=fun id=>by unfold touches;rw[hRt]
      have I:∀(id:Nat) ob,G[id]?=some ob->ob.live=true->ρ id≠none->c id=some ob:=by
        intro id ob J U h3
        have hid:id<(S k).h.length:=by have:=(Qf.1 J).1;omega
        by_cases hil:id∈l
        · rw[hconk id h3 hid ((htc id).2 hil),<-hag id hil];exact J
        · rw[hGget id hid,if_neg hil]at J;cases J;simp[Ob.dead]at U
      have hGlen':G'.length=(S (k+1)).h.length:=by rw[hS1];exact hloc.len
      refine hokG o ha2 ρ a w hopr (O.rel.forget2 fun id ob J U h3=>I id ob U h3 J) (by rw[hGl,hGlen'];exact hfreek) K Q fun v' w' ρ' hp =>?_
      exact finish v G G' v' w' ρ' henv1 hGl hGlen' (by rw[hRM];exact habs) (fun id hid=>by rw[hS1];exact hloc.new id (by rw[hRM]at hid;exact hid)) I (fun id _ htt=>hag id ((htc id).1 htt)) hp
  · rw[if_neg (by rw[hw false hg];simp)]
    have hS1:(S (k+1)).h=(S k).h:=by rw[hs1]
    let G:List Ob:=(Jn (S k).h.length).map fun _=>Ob.dead
    have hGget:∀(i:Nat) ob,G[i]?=some ob->ob=Ob.dead:=fun i ob h=>by
      have hi:i<(S k).h.length:=by have:=(Qf.1 h).1;simpa [G]using this
      simp only[G,J5,Yp hi,Y0,Qm]at h;exact h.symm
    have I:∀(id:Nat) ob,G[id]?=some ob->ob.live=true->ρ id≠none->c id=some ob:=fun id ob J U _=>by rw[hGget id ob J]at U;simp[Ob.dead]at U
    refine finish undef G G undef w ρ (by rw[hs1,ha3]) (by simp[G]) (by rw[hS1];simp[G]) (by rw[hr];exact .refl _ _ wd) (fun id hid =>?_) I (fun id hid=>by rw[hr]at hid;simp at hid) ⟨⟨.refl _ _ _,.tuple .nil,O.rel.forget2 fun id ob J U h3=>I id ob U h3 J,.refl _ _ _ _⟩,fun _ _ _=>rfl⟩
    rw[hr]at hid
    rcases hid with h|h
    · simp at h
    · rw[QE (by simpa [G]using h),QE (by rw[hS1];exact h)]
def ph{ρ0:Pl}{a0:Act}(hback:Gy ops.toList=true)(hfree0:Free ρ0 (S 0).h.length (S ops.size).h.length)(hn:n<=a0.tmps.size){Q:Exit->Act->World->Prop}
 (hQ:∀a w ρ,CPost ρ0 s s' a0 w0 a w ρ->Q .normal a w):∀(fuel:Nat) (listed:Array Bool) (a:Act) (w:World) (ρ:Pl) (c:Nat->Option Ob),listed.toList.count false=fuel->Inv P ops S R ρ0 a0 w0 listed a w ρ c->wpAny P .any ops Q fuel listed a w:=by
  obtain⟨hl,hget⟩:=X7 hc
  have hlen:aops.length=ops.size:=by simpa using hl
  have hend:∀(listed:Array Bool) (a:Act) (w:World) (ρ:Pl) (c:Nat->Option Ob),Inv P ops S R ρ0 a0 w0 listed a w ρ c->(∀j,j<ops.size->listed.getD j false=true)->Q .normal a w:=by
    intro listed a w ρ c J I
    have hS0:S 0=s:=ht.first
    have hSm:S ops.size=s':=by rw[<-hlen];exact ht.last
    have hnm:listed.getD ops.size false=false:=by simp[Jo,J.size]
    have hcon:∀id pl,ρ id=some pl->id<s'.h.length->c id=s'.h[id]? := fun id pl U O=>by
      rw[<-hSm]at O ⊢
      exact J.con ops.size (Qj _) hnm id pl U O (.inl rfl) fun i hi Z=>by rw[I i hi]at Z;cases Z
    refine hQ a w ρ ⟨?_,J.defers,J.tsize,⟨J.le,fun id pl U O =>?_⟩,?_,?_,?_⟩
    · intro t v hv
      rw[<-hSm]at hv
      exact J.env ops.size (Qj _) hnm t (.inl rfl) (fun i hi Z=>by rw[I i hi]at Z;cases Z) v hv
    · obtain⟨k,a1,a2,a3,a4⟩:=J.dom id pl U O
      have h3:=VG hc ht (i:=0) (j:=k) qr qr
      have h4:=VG hc ht (i:=k+1) (j:=ops.size) qr qr
      rw[hS0]at h3;rw[hSm]at h4
      omega
    · refine J.rel.forget2 fun id ob U O _ =>?_
      cases hρ:ρ id with
      |none=>exact absurd hρ U
      |some pl=>rw[hcon id pl hρ (Qf.1 O).1];exact O
    · have hf:=J.frm
      rw[hS0]at hf
      refine⟨hf.os,hf.tape,hf.output,hf.size,hf.blocks,fun id pl U O=>(hf.fresh id pl U O).imp (fun z=>z) fun⟨i,ob,p0,b1,b2,b3,b4,b5,b6⟩=>⟨i,ob,p0,b1,b2,b3,b4,b5,fun ob' h' =>?_⟩⟩
      refine b6 ob' ?_
      rw[hcon i p0 (J.le i p0 b2) (Qf.1 h').1];exact h'
    · intro id U O
      rw[<-hSm,<-hS0]
      rw[<-hS0]at U
      refine Lo hc ht (Xx _) (Qj _) U fun k _ hk=>J.pres id U O k (I k hk)
  have hleast:∀(listed:Array Bool),listed.size=ops.size->Region.ready .any ops listed=[]->∀j,j<ops.size->listed.getD j false=true:=by
    intro listed hsz hr j
    induction j using MG with
    |_ j ih =>
      intro hj
      cases E:listed.getD j false with
      |true=>rfl
      |false =>
        exfalso
        have hmem:j∈Region.ready .any ops listed:=by
          unfold Region.ready
          rw[MH]
          refine⟨YS.2 hj,?_⟩
          have U:listed.getD j true=false:=by
            rcases XF listed j with h|h
            · simp only[Jo]at h E
              rw[ZL qr]at h E
              simp only[X8]at h E
              rw[h]at E;cases E
            · simp only[Jo]at h ⊢
              rw[ZL qr]at h ⊢
              simpa using h.1
          have O:ops[j]?=some ops[j]:=ZL hj
          rw[U,O]
          simp only[YT,Em,Y0,X8]
          rw[<-Array.all_toList,ZX]
          intro e he
          cases hb:Region.binds .any e with
          |false=>rfl
          |true =>
            have hlt:e.on<j:=by
              have:=ZX.1 hback (j,ops[j]) (bU (by rw[ZQ];exact O))
              have:=ZX.1 this e he
              simpa [hb]using this
            simp only[Bool.not_true,Bool.false_or]
            exact ih e.on hlt qr
        rw[hr]at hmem;simp at hmem
  intro fuel
  induction fuel with
  |zero =>
    intro listed a w ρ c hf J
    have I:∀j,j<ops.size->listed.getD j false=true:=by
      intro j hj
      cases E:listed.getD j false with
      |true=>rfl
      |false =>
        exfalso
        simp only[Jo]at E
        rw[ZL (by rw[J.size];exact hj)]at E
        simp only[X8]at E
        have:false∈listed.toList:=by rw[<-E];exact Array.getElem_mem_toList _
        have:=List.count_pos_iff.2 this
        omega
    refine⟨?_,hend listed a w ρ c J I⟩
    unfold Region.ready
    rw[List.filter_eq_nil_iff]
    intro j hj
    have:=I j (YS.1 hj)
    have U:listed.getD j true=true:=by
      simp only[Jo]at this ⊢
      rw[ZL (by rw[J.size];exact YS.1 hj)]at this ⊢
      exact this
    simp[U]
  |succ fuel ih =>
    intro listed a w ρ c hf J
    refine⟨fun hr=>hend listed a w ρ c J (hleast listed J.size hr),fun k hk =>?_⟩
    unfold Region.ready at hk
    rw[MH]at hk
    obtain⟨hk1,Y⟩:=hk
    have hk1:=YS.1 hk1
    simp only[Jd,Bool.not_eq_true']at Y
    obtain⟨Y,hk3⟩:=Y
    have hks:k<listed.size:=by rw[J.size];exact hk1
    have hkl:listed.getD k false=false:=by
      simp only[Jo]at Y ⊢
      rw[ZL hks]at Y ⊢
      exact Y
    refine fL hc ht hslots hpairs hfree0 hn J hk1 hkl (fun o ho e he hb =>?_) fun a' w' ρ' c' hI'=>ih _ a' w' ρ' c' ?_ hI'
    · have O:ops[k]?=some o:=by rw[<-ZQ];exact ho
      rw[O]at hk3
      simp only[Y0,X8]at hk3
      rw[<-Array.all_toList,ZX]at hk3
      have:=hk3 e he
      simpa [hb]using this
    · have hke:listed.toList[k]?=some false:=by
        simp only[Jo]at hkl
        rw[ZL hks]at hkl
        simp only[X8]at hkl
        rw[ZQ,ZL hks,hkl]
      rw[Array.toList_setIfInBounds]
      have:=count_set hke
      omega
def uU{id:Nat}{ρ:Pl}{a:Act}(hm:P.follows .mixedOrders=true)(hback:Gy ops.toList=true)(h1:EnvRel ρ s.env a)(J:a.defers=[])(h3:n<=a.tmps.size)(h4:RelF ρ (hp s.h) w)(h5:Free ρ s.h.length s'.h.length)
 {Q:Exit->Act->World->Prop} (hQ:∀a' w' ρ',CPost ρ s s' a w a' w' ρ'->Q .normal a' w'):(Code.region id ops true).wp P Q a w:=by
  obtain⟨hl,hget⟩:=X7 hc
  have hlen:aops.length=ops.size:=by simpa using hl
  have I:S 0=s:=ht.first
  have hSm:S ops.size=s':=by rw[<-hlen];exact ht.last
  have Y:Free ρ (S 0).h.length (S ops.size).h.length:=by rw[I,hSm];exact h5
  refine wp_region_any hm (ph hc ht hslots hpairs (w0:=w) (a0:=a) hback Y h3 hQ _ _ _ _ ρ (hp s.h) wd ?_)
  have E:∀j,(Y2 ops.size false).getD j false=false:=by
    intro j;simp only[Jo,Array.getElem?_replicate];split<;>rfl
  refine⟨by simp,fun j o h=>(by rw[E]at h;cases h),h4.drawn _,.refl _,fun id pl h1 J=>(by rw[h1]at J;cases J),?_,?_,(by rw[I];exact .drawn _ _ _ _ _),?_,fun i h=>(by rw[E]at h;cases h),fun id _ _ i h=>(by rw[E]at h;cases h),J,rfl⟩
  · intro j Z _ id pl O hid _ hch
    have U:id<(S 0).h.length:=by
      rcases ZA id (S 0).h.length with h|h
      · exact h
      · have:=VG hc ht (i:=j) (j:=ops.size) Z (Qj _)
        have:=Y id h qr
        rw[this]at O;cases O
    have:=Lo hc ht (Xx j) Z U fun k _ hk=>hch k hk (E k)
    rw[this,I]
  · intro j Z _ t _ hnd v hv
    have:=Ib hc ht (t:=t) (Xx j) Z fun k _ hk x hx=>hnd k hk (E k) x hx
    rw[this,I]at hv
    exact h1 t v hv
  · intro id ob' pl h1 J h3
    rw[I]
    exact⟨ob',J,h3,rfl⟩
end
end
end Go.Ev
namespace Go.Ev
open Go.RowKit
def yB:AExit->Exit
 |.normal=>.normal
 |.exit id=>.exit id
 |.ret=>.ret
section
variable{P:Program}{T:Tab}
section
variable{H H':List Ob}{n:Nat}{ρ:Pl}{x y:ACode}{args vs:List Value}{e:Env}{f:FuncId}{v:Value}{w:World}{xs:List Operand}{c:Operand}{s':St}{M:List Nat}
def nC(O:RelF ρ (hp H) w){I:Addr}{pl:Place}(e1:ρ I.block=some pl){ob:Ob}(hob:liveAt H I.block=some ob){n:Option Nat}{ty:TypeId}(ha:Bb P ty=some n){u:Value}(hu:Jq n ob.c I.off=some u) :
  ∃J,(loadVar ty ⟨pl.block,pl.base+I.off,none⟩).run P w=.ok J w/\VRel ρ u J:=by
 obtain⟨Y,U⟩:=Vp hob
 obtain⟨_,_,cs,el,fr,g1,g2,g3,g4,_⟩:=O.obj _ _ _ Y e1 U
 obtain⟨b,hb,E,hk⟩:=TV (P:=P) (w:=w) ha
 cases n with
 |none =>
  simp only[KH]at E;subst E
  obtain⟨_,J,g5,g6⟩:=g4 I.off u hu
  have hc:w.cell? ⟨pl.block,pl.base+I.off,none⟩=some J:=by rw[T1 g1];exact g5
  exact⟨J,by simp[loadVar,hb,hc],g6⟩
 |some n =>
  simp only[Bc]at E;subst E
  simp only[Jq]at hu
  split at hu
  ·rename_i hle
   cases hu
   refine⟨.agg ((cs.toList.drop (pl.base+I.off)).take n).toArray,?_,?_⟩
   ·have:=run_loadCells (P:=P) (n:=n) (off:=pl.base+I.off) g1 qr
    simp only[loadVar,hb,Xt (hk n rfl),this,Sem.run_bind,Result.andThen_ok,Sem.run_pure,Sem.run_ite,if_true]
   ·refine .agg (LRel.of_get (by simp;omega) fun i u hi =>?_) fun x hx =>?_
    ·simp only[QN,Zf]at hi ⊢
     split at hi
     ·rename_i hlt
      obtain⟨_,J,g5,g6⟩:=g4 _ u hi
      exact⟨J,by rw[if_pos hlt];simpa [QV]using g5,g6⟩
     ·cases hi
    ·have Z:=Zq (QG hx)
     obtain⟨i,hi⟩:=Xe Z
     exact(g4 i x hi).1
  ·cases hu
def uR{args args':List Value}(h:LRel ρ args args'):∀(k t:Nat) (v:Value),(Qv k args).get t=some v->∃v',k<=t/\args'[t-k]?=some v'/\VRel ρ v v':=by
 induction args generalizing args' with
 |nil=>intro k t v h;simp[Qv,Env.get]at h
 |cons x args E =>
  cases h with
  |cons I O =>
   intro k t v hv
   simp only[Qv,Env.get]at hv
   split at hv
   ·subst_vars;cases hv;exact⟨_,Qj _,by simp,I⟩
   ·rename_i J
    obtain⟨v',Z,Y,U⟩:=E O (k+1) t v hv
    refine⟨v',by omega,?_,U⟩
    rw[show t-k=(t-(k+1))+1 by omega]
    simpa using Y
def WO(a:Act)(r:ResultVar):Sem Value :=
 match r with
 |.tmp t=>pure (a.tmps.getD t undef)
 |.cell a' t=>do loadVar t (<- asAddr (a.tmps.getD a' undef))
def rT(P:Program)(r:ResultVar):Option (Nat×Option (Option Nat)) :=
 match r with
 |.tmp t=>some (t,none)
 |.cell a t=>(Bb P t).map fun n=>(a,some n)
def Bt{ρ:Pl}{e:Env}{a:Act}{H:List Ob}{w:World}(E:EnvRel ρ e a)(I:RelF ρ (hp H) w):∀ {rs:List ResultVar} {O:List (Nat×Option (Option Nat))} {vs:List Value},
  rs.mapM (rT P)=some O->Z1 e H O=some vs->∃vs',(rs.mapM (WO a)).run P w=.ok vs' w/\LRel ρ vs vs'
 |[],O,vs,h,J=>by
  simp at h;subst h
  simp[Z1]at J;subst J
  exact⟨[],by simp,.nil⟩
 |r::rs,O,vs,h,J=>by
  rw[Tj]at h
  simp only[bind,Qe,pure,Qm]at h
  obtain⟨ar,Y,ars',h2,rfl⟩:=h
  cases r with
  |tmp t =>
   simp only[rT,Qm]at Y
   subst Y
   simp only[Z1,Qe,Qm]at J
   obtain⟨v,hv,v2,rfl,vs',U,rfl⟩:=J
   obtain⟨us,e1,e2⟩:=Bt E I h2 U
   obtain⟨v',e3,e4⟩:=E t v hv
   have Z:(WO a (.tmp t)).run P w=.ok v' w:=by simp[WO,e3]
   refine⟨v'::us,?_,.cons e4 e2⟩
   rw[Tj]
   simp only[Sem.run_bind,Sem.run_pure,Result.andThen_ok,e1,Z]
  |cell ad ty =>
   simp only[rT,QI]at Y
   obtain⟨n,hn,rfl⟩:=Y
   simp only[Z1,Qe]at J
   obtain⟨v,hv,u,hu,vs',U,J⟩:=J
   simp only[Qm]at J
   subst J
   obtain⟨us,e1,e2⟩:=Bt E I h2 U
   obtain⟨v',e3,e4⟩:=E ad v hv
   split at hu
   ·rename_i a2
    simp only[Qe]at hu
    obtain⟨ob,hob,hu⟩:=hu
    split at hu
    ·obtain⟨pl,Z,e6,rfl⟩:=e4.ptr_inv
     obtain⟨u',e7,e8⟩:=nC (P:=P) I Z hob hn hu
     have e9:(WO a (.cell ad ty)).run P w=.ok u' w:=by simp[WO,e3,asAddr,e7]
     refine⟨u'::us,?_,.cons e8 e2⟩
     rw[Tj]
     simp only[Sem.run_bind,Sem.run_pure,Result.andThen_ok,e1,e9]
    ·cases hu
   ·cases hu
def Sh{vs':List Value}(h:LRel ρ vs vs'):VRel ρ (packed vs) (packed vs'):=by
 cases h with
 |nil=>exact .tuple .nil
 |cons a b=>cases b with
  |nil=>exact a
  |cons c d=>exact .tuple (.cons a (.cons c d))
def TZ{a:Act}{fn:Func}{vs':List Value}(h:(fn.results.toList.mapM (WO a)).run P w=.ok vs' w):(results fn a.tmps).run P w=.ok (packed vs') w:=by
 have I:results fn a.tmps=(do
  let vs <- fn.results.mapM (WO a)
  pure (if h:vs.size=1 then vs[0]else .tuple vs)):=by
  unfold results
  have:(fun r=>match r with
   |ResultVar.tmp t=>pure (a.tmps.getD t undef)
   |ResultVar.cell a' t=>do loadVar t (<- asAddr (a.tmps.getD a' undef)):ResultVar->Sem Value)=WO a:=by funext r;cases r<;>rfl
  rw[<-this]
  rfl
 rw[I]
 have E:fn.results.mapM (WO a)=List.toArray <$> fn.results.toList.mapM (WO a):=by
  rw[<-List.mapM_toArray]
 rw[E]
 simp only[Sem.run_bind,Sem.run_map,h,Result.andThen_ok,Sem.run_pure]
 congr 1
 match vs' with
 |[]=>rfl
 |[x]=>rfl
 |x::y::l=>simp[packed]
def OM{code:Code}{l:List AOper}{E:List (Nat×Nat)}(h:comp P n code=some (.region l none E)):∃id ops draw,code=.region id ops draw/\V5 P n ops.toList ops.toList=some l /\
  (draw=true->Gy ops.toList=true/\Tp ops.toList (Kk (Vi ops.toList))=true/\E=Ul l (Kk (Vi ops.toList))):=by
 cases code with
 |region id ops draw =>
  simp only[comp,Qe]at h
  obtain⟨l',J,h⟩:=h
  refine⟨id,ops,draw,rfl,?_⟩
  split at h
  ·split at h
   ·rename_i hb
    simp only[Jd]at hb
    simp only[Qm,ACode.region.injEq]at h
    obtain⟨rfl,_,rfl⟩:=h
    exact⟨J,fun _=>⟨hb.1,hb.2,rfl⟩⟩
   ·cases h
  ·rename_i hd
   simp only[Qm,ACode.region.injEq]at h
   obtain⟨rfl,_,rfl⟩:=h
   exact⟨J,fun I=>absurd I (by simpa using hd)⟩
 |_=>simp[comp,Qe]at h
def Ce{code:Code}(h:comp P n code=some (.seq x y)):∃a b,code=.seq a b/\comp P n a=some x/\comp P n b=some y:=by
 cases code with
 |seq a b =>
  simp only[comp,Qe,QI,ACode.seq.injEq]at h
  obtain⟨x',I,J,E,rfl,rfl⟩:=h
  exact⟨a,b,rfl,I,E⟩
 |region id ops draw=>simp only[comp,Qe]at h;obtain⟨_,_,h⟩:=h;split at h<;>(try split at h)<;>simp at h
 |_=>simp[comp,Qe]at h
def FZ{code:Code}(h:comp P n code=some (.cond c x y)):∃a b,code=.cond c a b/\Yx c=true/\comp P n a=some x/\comp P n b=some y:=by
 cases code with
 |cond c' a b =>
  simp only[comp]at h
  split at h
  ·simp only[Qe,QI,ACode.cond.injEq]at h
   obtain⟨x',I,J,E,rfl,rfl,rfl⟩:=h
   exact⟨a,b,rfl,by assumption,I,E⟩
  ·cases h
 |region id ops draw=>simp only[comp,Qe]at h;obtain⟨_,_,h⟩:=h;split at h<;>(try split at h)<;>simp at h
 |_=>simp[comp,Qe]at h
def UG{id:Nat}{code:Code}(h:comp P n code=some (.block id x)):∃a,code=.block id a/\comp P n a=some x:=by
 cases code with
 |block i a =>
  simp only[comp,QI,ACode.block.injEq]at h
  obtain⟨x',E,rfl,rfl⟩:=h
  exact⟨a,rfl,E⟩
 |region id ops draw=>simp only[comp,Qe]at h;obtain⟨_,_,h⟩:=h;split at h<;>(try split at h)<;>simp at h
 |cond c a b=>simp only[comp]at h;split at h<;>simp[Qe]at h
 |_=>simp[comp,Qe]at h
def Rr{code:Code}(h:comp P n code=some (.loop x)):∃a,code=.loop a/\comp P n a=some x:=by
 cases code with
 |loop a =>
  simp only[comp,QI,ACode.loop.injEq]at h
  obtain⟨x',E,rfl⟩:=h
  exact⟨a,rfl,E⟩
 |region id ops draw=>simp only[comp,Qe]at h;obtain⟨_,_,h⟩:=h;split at h<;>(try split at h)<;>simp at h
 |cond c a b=>simp only[comp]at h;split at h<;>simp[Qe]at h
 |_=>simp[comp,Qe]at h
def Rs{code:Code}(E:x=.skip\/x=.ret\/∃id,x=.exit id)(h:comp P n code=some x):(x=.skip->code=.skip)/\(x=.ret->code=.ret)/\(∀id,x=.exit id->code=.exit id):=by
 cases code with
 |region id ops draw=>simp only[comp,Qe]at h;obtain⟨_,_,h⟩:=h;split at h<;>(try split at h)<;>simp at h<;>subst h<;>simp at E
 |cond c a b=>simp only[comp]at h;split at h<;>simp[Qe]at h;obtain⟨_,_,_,_,rfl⟩:=h;simp at E
 |seq a b=>simp[comp,Qe]at h;obtain⟨_,_,_,_,rfl⟩:=h;simp at E
 |block i a=>simp[comp]at h;obtain⟨_,_,rfl⟩:=h;simp at E
 |loop a=>simp[comp]at h;obtain⟨_,_,rfl⟩:=h;simp at E
 |skip=>simp[comp]at h;subst h;simp
 |exit i=>simp[comp]at h;subst h;simp
 |ret=>simp[comp]at h;subst h;simp
 |_=>simp[comp]at h
def GoodN(P:Program)(N:Nat)(code:Code)(Q:Exit->Act->World->Prop)(a:Act)(w:World):Prop :=
 match code with
 |.loop b=>Code.rounds P b Q N a w
 |c=>c.wp P Q a w
def GoodN.wp{N:Nat}{code:Code}{Q:Exit->Act->World->Prop}{a:Act}{w:World}(h:GoodN P N code Q a w):code.wp P Q a w:=by
 cases code with
 |loop b=>exact wp_loop_rounds N h
 |_=>exact h
def qp(P:Program)(c:ACode)(s:St)(x:AExit)(s':St):Prop:=∃N,∀(n:Nat) (code:Code),comp P n code=some c.strip->∀(ρ:Pl) (a:Act) (w:World),EnvRel ρ s.env a->a.defers=[]->n<=a.tmps.size->RelF ρ (hp s.h) w->Free ρ s.h.length s'.h.length ->
 ∀Q:Exit->Act->World->Prop,(∀a' w' ρ',CPost ρ s s' a w a' w' ρ'->Q (yB x) a' w')->GoodN P N code Q a w
def BJ{fn:Func}{af:AFun}(h:compFun P fn=some af.strip):∃code,fn.body=some code/\comp P fn.ntmps code=some af.body.strip/\fn.results.toList.mapM (rT P)=some af.results:=by
 simp only[compFun,Qe,QI]at h
 obtain⟨code,h1,a,h2,rs,h3,h4⟩:=h
 simp only[AFun.strip,AFun.mk.injEq]at h4
 obtain⟨rfl,rfl⟩:=h4
 refine⟨code,h1,h2,?_⟩
 rw[<-h3]
 congr 1
def HW{s:St}{a:Act}(J:EnvRel ρ s.env a)(I:a.defers=[])(E:RelF ρ (hp s.h) w):CPost ρ s s a w a w ρ:=⟨J,I,rfl,.refl _ _ _,E,.refl _ _ _ _,fun _ _ _=>rfl⟩
def Ci(hT:TabOk P T){fn:AFun}(hfn:T.fn f=some fn){x:AExit}(hx:∀id,x≠.exit id)(hcode:qp P fn.body ⟨Qv 0 args,H,[]⟩ x s')
 (hres:Z1 s'.env s'.h fn.results=some vs):WY P f args H (packed vs) s'.h:=by
  obtain⟨pf,h1,h2,h3⟩:=hT.fn f fn hfn
  obtain⟨code,h4,h5,h6⟩:=BJ h2
  obtain⟨N,hN⟩:=hcode
  intro ρ args' w hl hrel hfree o a K Q hK
  have hcf:(callFunc f args'.toArray).run P w=.ok (.enter f args'.toArray) w:=by
    have h3' : ¬ (pf.name = "runtime.NumGoroutine") := by simpa using h3
    simp[callFunc,h1,h3',h4]
  rw[hcf,Oper.upon_enter]
  refine calls_of_wp h1 h4 ?_
  refine(hN pf.ntmps code h5 ρ _ w ?_ rfl ?_ hrel hfree _ fun a' w' ρ' hp =>?_).wp
  · intro t v hv
    obtain⟨v',g1,g2,g3⟩:=uR hl 0 t v hv
    refine⟨v',?_,g3⟩
    have hlt:=(Qf.1 g2).1
    rw[Array.getElem?_append_left (by simpa using hlt)]
    simpa using g2
  · simp;omega
  · obtain⟨vs',g1,g2⟩:=Bt (P:=P) hp.env hp.rel h6 hres
    have g3:=TZ g1
    have hfin:bodyPost P pf (fun | .returned v,w''=>K (a.put o.dst v) w'' | .panicked chain,w''=>Q (.panic chain) a w'' | .outgrown,_=>LetsOut Q) .normal a' w' :=
      ⟨hp.defers,_,g3,hK _ _ ρ' ⟨⟨hp.ext,Sh g2,hp.rel,hp.frm⟩,hp.pres⟩⟩
    cases x with
    |normal=>exact hfin
    |ret=>exact hfin
    |exit id=>exact absurd rfl (hx id)
def OU(h:CAbs H.length ⟨e,H,[]⟩ s'):AbsOk H s'.h s'.log:=by
 refine⟨h.len,h.flags,fun id E I=>h.log id E E I,fun id hid =>?_⟩
 rcases h.ids id hid with E|E
 ·simp at E
 ·exact E.1
def M1(P:Program)(f:Nat)(args:List Value)(H:List Ob)(r:Value×List Ob×List Nat):Prop:=WY P f args H r.1 r.2.1/\AbsOk H r.2.1 r.2.2
def M2(P:Program)(base:Nat)(c:ACode)(s:St)(r:AExit×St):Prop:=CAbs base s r.2/\qp P c s r.1 r.2
def M3(P:Program)(base:Nat)(aops:List AOper)(s:St)(recs:List Rec)(r:St×List Rec):Prop:=∃S R,Trace P base aops s r.1 recs r.2 S R
def M4(P:Program)(ao:AOp)(e:Env)(H:List Ob)(r:Value×List Ob×Option (List Nat)×List Nat):Prop:=StepGood P ao e H r.1 r.2.1 r.2.2.1 r.2.2.2
def E7(E:Xf e xs=some args)(hc:WY P f args H v H')(ha:AbsOk H H' M):StepGood P (.call f xs false) e H v H' none M :=
 ⟨ha,fun o I=>By I E hc,fun l h=>(by cases h),fun l h=>(by cases h),fun h=>(by simp[AOp.free]at h),fun h=>(by simp[AOp.quiet]at h)⟩
def SK{f:Operand}{g:FuncId}{E ca:Array Value}(O:opd e f=some (.func (.func g) E ca))(I:Xf e xs=some args)
 (hc:WY P g (E.toList++args++ca.toList) H v H') (ha:AbsOk H H' M):StepGood P (.callv f xs) e H v H' none M :=
  ⟨ha,fun o J=>IK J O I hc,fun l h=>(by cases h),fun l h=>(by cases h),fun h=>(by simp[AOp.free]at h),fun h=>(by simp[AOp.quiet]at h)⟩
def E6{H0:List Ob}(I:Xf e xs=some args)(hc:WY P f args [] v H0)(ha:args.all rf=true)(hv:rf v=true):StepGood P (.call f xs true) e H v H (some []) [] :=
 ⟨.refl _ _ wd,fun o E=>By E I (DN hc ha hv H),fun l h G J _=>⟨G,⟨J,fun id h=>by
  rcases h with h|h
  ·simp at h
  ·rw[QE qr,QE h]⟩,.refl _ _ wd,fun o E=>By E I (DN hc ha hv G)⟩,fun l h id hid=>(by simp at hid),fun _=>⟨rfl,rfl⟩,fun _=>rfl⟩
def LRel.of_all{ρ:Pl}:∀ {l l':List Value},LRel ρ l l'->l.all rf=true->l'=l
 |[],_,h,_=>by cases h;rfl
 |_::_,_,h,ha=>by
  cases h with
  |cons E I =>
   simp only[KC,Jd]at ha
   rw[E.of_rf ha.1,LRel.of_all I ha.2]
def oe(O:TabOk P T)(hn:T.fn f=none)(he:T.ext f args=some v)(ha:args.all rf=true):WY P f args H v H:=by
 obtain⟨Z,Y⟩:=O.ext f args v hn he ha
 intro ρ E w J I hfree o a K Q U
 have:E=args:=LRel.of_all J ha
 subst this
 rw[Y w]
 exact U v w ρ ⟨⟨.refl _ _ _,Z ρ,I,.refl _ _ _ _⟩,fun _ _ _=>rfl⟩
def FT{a:Act}{b:Bool}(hc:Yx c=true)(E:EnvRel ρ e a)(h:opd e c=some (.bool b)):a.eval c=.bool b :=
 (Ri hc (fun t _ v hv=>E t v hv) h).bool
def sound(hm:P.follows .mixedOrders=true)(hT:TabOk P T):∀(f:Nat) (args:List Value) (H:List Ob) (r:Value×List Ob×List Nat),Zp T f args H=some r->M1 P f args H r:=by
 refine Zp.partial_correctness T (M1 P) (M2 P) (M3 P) (M4 P) ?_ ?_ ?_ ?_
 ·
  intro Q4 hcode f args H r E
  split at E
  ·rename_i fn hfn
   simp only[XE,Qe]at E
   obtain⟨⟨x,s'⟩,hx,E⟩:=E
   have h2:=hcode _ _ _ _ hx
   dsimp only at E
   cases x with
   |exit id=>cases E
   |normal =>
    simp only[Qe,Qm]at E
    obtain⟨vs,hvs,rfl⟩:=E
    exact⟨Ci hT hfn (fun id h=>by cases h) h2.2 hvs,OU h2.1⟩
   |ret =>
    simp only[Qe,Qm]at E
    obtain⟨vs,hvs,rfl⟩:=E
    exact⟨Ci hT hfn (fun id h=>by cases h) h2.2 hvs,OU h2.1⟩
  ·rename_i hfn
   split at E
   ·rename_i ha
    simp only[Qe,Qm]at E
    obtain⟨v,hv,rfl⟩:=E
    exact⟨oe hT hfn hv ha,.refl _ _ wd⟩
   ·cases E
 ·
  intro Q4 evOps hcode hops base c s r E
  cases c with
  |skip =>
   simp only[Qm]at E;subst E
   refine⟨.refl _ _,0,fun n code hc ρ a w h1 h2 h3 h4 h5 Q U =>?_⟩
   have:=(Rs (.inl rfl) hc).1 rfl
   subst this
   exact wp_skip (U a w ρ (HW h1 h2 h4))
  |exit id =>
   simp only[Qm]at E;subst E
   refine⟨.refl _ _,0,fun n code hc ρ a w h1 h2 h3 h4 h5 Q U =>?_⟩
   have:=(Rs (.inr (.inr ⟨id,rfl⟩)) hc).2.2 id rfl
   subst this
   exact wp_exit (U a w ρ (HW h1 h2 h4))
  |ret =>
   simp only[Qm]at E;subst E
   refine⟨.refl _ _,0,fun n code hc ρ a w h1 h2 h3 h4 h5 Q U =>?_⟩
   have:=(Rs (.inr (.inl rfl)) hc).2.1 rfl
   subst this
   exact wp_ret (U a w ρ (HW h1 h2 h4))
  |region ops keep pairs =>
   simp only[XE,Qe]at E
   obtain⟨⟨s1,recs⟩,h1,E⟩:=E
   dsimp only at E
   split at E
   ·rename_i hpk
    simp only[Qm]at E;subst E
    obtain⟨S,R,ht⟩:=hops _ _ _ _ _ h1
    dsimp only at ht ⊢
    obtain⟨k1,k2⟩:=vN s1 keep
    have hcab:=ht.cabs (i:=0) (j:=ops.length) (Xx _) (Qj _)
    rw[ht.first,ht.last]at hcab
    refine⟨⟨by rw[k1];exact hcab.len,by rw[k1];exact hcab.flags,by rw[k1,k2];exact hcab.log,by rw[k2];exact hcab.sub,by rw[k1,k2];exact hcab.ids⟩,0,fun n code hc ρ a w e1 e2 Z e4 Y Q U =>?_⟩
    obtain⟨id,cops,draw,rfl,hcp,hdr⟩:=OM hc
    rw[k1]at Y
    have hQ':∀a' w' ρ',CPost ρ s s1 a w a' w' ρ'->Q .normal a' w':=fun a' w' ρ' hp=>U a' w' ρ' ⟨hp.env.after keep,hp.defers,hp.size,by rw[k1];exact hp.ext,by rw[k1];exact hp.rel,by rw[k1];exact hp.frm,by rw[k1];exact hp.pres⟩
    show(Code.region id cops draw).wp P Q a w
    cases draw with
    |false =>
     refine wp_region ?_
     have hl:=(X7 hcp).1
     have:Jn cops.size=Vv 0 ops.length:=by rw[List.range_eq_range'];congr 1;simpa using hl.symm
     rw[this]
     refine PD hcp ht ops.length 0 qr ρ a w (by rw[ht.first];exact e1) e2 Z (by rw[ht.first];exact e4) (by rw[ht.first];exact Y) fun a' w' ρ' hp=>hQ' a' w' ρ' (by rw[ht.first]at hp;exact hp)
    |true =>
     obtain⟨d1,d2,d3⟩:=hdr rfl
     subst d3
     exact uU hcp ht d2 hpk hm d1 e1 e2 Z e4 Y hQ'
   ·cases E
  |seq x y =>
   simp only[XE,Qe]at E
   obtain⟨⟨ex,s1⟩,h1,E⟩:=E
   obtain⟨I,N1,O⟩:=hcode _ _ _ _ h1
   dsimp only at E I O
   cases ex with
   |normal =>
    obtain⟨ca2,N2,hN2⟩:=hcode _ _ _ _ E
    refine⟨I.trans ca2,0,fun n code hc ρ a w e1 e2 Z e4 Y Q U =>?_⟩
    obtain⟨p,q,rfl,J,hq1⟩:=Ce hc
    refine wp_seq (O n p J ρ a w e1 e2 Z e4 (fun id i1 i2=>Y id i1 (QJ i2 ca2.len)) _ fun a1 w1 ρ1 hp =>?_).wp
    show q.wp P Q a1 w1
    exact(hN2 n q hq1 ρ1 a1 w1 hp.env hp.defers (by rw[hp.size];exact Z) hp.rel (Y.later hp.ext I.len) Q fun a2 w2 ρ2 hp2=>U a2 w2 ρ2 (hp.trans hp2 I ca2 Y)).wp
   |exit id =>
    simp only[Qm]at E;subst E
    refine⟨I,0,fun n code hc ρ a w e1 e2 Z e4 Y Q U =>?_⟩
    obtain⟨p,q,rfl,J,hq1⟩:=Ce hc
    refine wp_seq (O n p J ρ a w e1 e2 Z e4 Y _ fun a1 w1 ρ1 hp =>?_).wp
    exact U a1 w1 ρ1 hp
   |ret =>
    simp only[Qm]at E;subst E
    refine⟨I,0,fun n code hc ρ a w e1 e2 Z e4 Y Q U =>?_⟩
    obtain⟨p,q,rfl,J,hq1⟩:=Ce hc
    refine wp_seq (O n p J ρ a w e1 e2 Z e4 Y _ fun a1 w1 ρ1 hp =>?_).wp
    exact U a1 w1 ρ1 hp
  |cond c x y =>
   dsimp only at E
   split at E
   ·rename_i hb
    obtain⟨I,N1,O⟩:=hcode _ _ _ _ E
    refine⟨I,0,fun n code hc ρ a w e1 e2 Z e4 Y Q U =>?_⟩
    obtain⟨p,q,rfl,hok,J,hq1⟩:=FZ hc
    exact wp_cond_true (FT hok e1 hb) (O n p J ρ a w e1 e2 Z e4 Y Q U).wp
   ·rename_i hb
    obtain⟨I,N1,O⟩:=hcode _ _ _ _ E
    refine⟨I,0,fun n code hc ρ a w e1 e2 Z e4 Y Q U =>?_⟩
    obtain⟨p,q,rfl,hok,J,hq1⟩:=FZ hc
    exact wp_cond_false (FT hok e1 hb) (O n q hq1 ρ a w e1 e2 Z e4 Y Q U).wp
   ·cases E
  |block id x =>
   simp only[XE,Qe]at E
   obtain⟨⟨ex,s1⟩,h1,E⟩:=E
   obtain⟨I,N1,O⟩:=hcode _ _ _ _ h1
   dsimp only at E I O
   cases ex with
   |normal =>
    simp only[Qm]at E;subst E
    refine⟨I,0,fun n code hc ρ a w e1 e2 Z e4 Y Q U =>?_⟩
    obtain⟨p,rfl,J⟩:=UG hc
    refine wp_block (O n p J ρ a w e1 e2 Z e4 Y _ fun a1 w1 ρ1 hp =>?_).wp
    exact U a1 w1 ρ1 hp
   |ret =>
    simp only[Qm]at E;subst E
    refine⟨I,0,fun n code hc ρ a w e1 e2 Z e4 Y Q U =>?_⟩
    obtain⟨p,rfl,J⟩:=UG hc
    refine wp_block (O n p J ρ a w e1 e2 Z e4 Y _ fun a1 w1 ρ1 hp =>?_).wp
    exact U a1 w1 ρ1 hp
   |exit i =>
    dsimp only at E
    split at E
    ·rename_i hid
     simp only[Qm]at E;subst E
     refine⟨I,0,fun n code hc ρ a w e1 e2 Z e4 Y Q U =>?_⟩
     obtain⟨p,rfl,J⟩:=UG hc
     refine wp_block (O n p J ρ a w e1 e2 Z e4 Y _ fun a1 w1 ρ1 hp =>?_).wp
     show Exit.inBlock id Q (.exit i) a1 w1
     simp only[Exit.inBlock,if_pos hid]
     exact U a1 w1 ρ1 hp
    ·rename_i hid
     simp only[Qm]at E;subst E
     refine⟨I,0,fun n code hc ρ a w e1 e2 Z e4 Y Q U =>?_⟩
     obtain⟨p,rfl,J⟩:=UG hc
     refine wp_block (O n p J ρ a w e1 e2 Z e4 Y _ fun a1 w1 ρ1 hp =>?_).wp
     show Exit.inBlock id Q (.exit i) a1 w1
     simp only[Exit.inBlock,if_neg hid]
     exact U a1 w1 ρ1 hp
  |loop x =>
   simp only[XE,Qe]at E
   obtain⟨⟨ex,s1⟩,h1,E⟩:=E
   obtain⟨I,N1,O⟩:=hcode _ _ _ _ h1
   dsimp only at E I O
   cases ex with
   |normal =>
    obtain⟨ca2,N2,hN2⟩:=hcode _ _ _ _ E
    refine⟨I.trans ca2,N2+1,fun n code hc ρ a w e1 e2 Z e4 Y Q U =>?_⟩
    obtain⟨p,rfl,J⟩:=Rr hc
    show Code.rounds P p Q (N2+1) a w
    rw[rounds_succ]
    refine(O n p J ρ a w e1 e2 Z e4 (fun id i1 i2=>Y id i1 (QJ i2 ca2.len)) _ fun a1 w1 ρ1 hp =>?_).wp
    show Code.rounds P p Q N2 a1 w1
    exact hN2 n (.loop p) hc ρ1 a1 w1 hp.env hp.defers (by rw[hp.size];exact Z) hp.rel (Y.later hp.ext I.len) Q fun a2 w2 ρ2 hp2=>U a2 w2 ρ2 (hp.trans hp2 I ca2 Y)
   |exit id =>
    simp only[Qm]at E;subst E
    refine⟨I,1,fun n code hc ρ a w e1 e2 Z e4 Y Q U =>?_⟩
    obtain⟨p,rfl,J⟩:=Rr hc
    show Code.rounds P p Q (0+1) a w
    rw[rounds_succ]
    refine(O n p J ρ a w e1 e2 Z e4 Y _ fun a1 w1 ρ1 hp =>?_).wp
    exact U a1 w1 ρ1 hp
   |ret =>
    simp only[Qm]at E;subst E
    refine⟨I,1,fun n code hc ρ a w e1 e2 Z e4 Y Q U =>?_⟩
    obtain⟨p,rfl,J⟩:=Rr hc
    show Code.rounds P p Q (0+1) a w
    rw[rounds_succ]
    refine(O n p J ρ a w e1 e2 Z e4 Y _ fun a1 w1 ρ1 hp =>?_).wp
    exact U a1 w1 ρ1 hp
 ·
  intro evOps Ju hops hoper base aops s recs r E
  cases aops with
  |nil=>simp only[Qm]at E;subst E;exact⟨_,_,.nil⟩
  |cons ao aops =>
   dsimp only at E
   split at E
   ·rename_i hg
    simp only[XE,Qe]at E
    obtain⟨⟨v,H',t,M⟩,h1,E⟩:=E
    obtain⟨S,R,ht⟩:=hops _ _ _ _ _ E
    exact⟨_,_,Trace.cons (.inl ⟨hg,v,H',t,M,hoper _ _ _ _ h1,rfl,rfl⟩) ht⟩
   ·rename_i hg
    obtain⟨S,R,ht⟩:=hops _ _ _ _ _ E
    exact⟨_,_,Trace.cons (.inr ⟨hg,rfl,rfl⟩) ht⟩
   ·cases E
 ·
  intro Zp hfun ao e H r E
  cases ao with
  |call f xs b =>
   dsimp only at E
   cases b with
   |true =>
    simp only[if_true]at E
    split at E
    ·rename_i args hx
     split at E
     ·rename_i ha
      simp only[XE,Qe]at E
      obtain⟨⟨v,H',M⟩,h1,E⟩:=E
      dsimp only at E
      split at E
      ·rename_i hv
       simp only[Qm]at E;subst E
       exact E6 hx (hfun _ _ _ _ h1).1 ha hv
      ·cases E
     ·cases E
    ·cases E
   |false =>
    simp only[Z6,if_false]at E
    split at E
    ·rename_i args hx
     simp only[XE,Qe,Qm]at E
     obtain⟨⟨v,H',M⟩,h1,rfl⟩:=E
     exact E7 hx (hfun _ _ _ _ h1).1 (hfun _ _ _ _ h1).2
    ·cases E
  |callv f xs =>
   dsimp only at E
   split at E
   ·rename_i g fi ca args hf hx
    simp only[XE,Qe,Qm]at E
    obtain⟨⟨v,H',M⟩,h1,rfl⟩:=E
    exact SK hf hx (hfun _ _ _ _ h1).1 (hfun _ _ _ _ h1).2
   ·cases E
  |_=>exact LY rfl E
end
end
end Go.Ev
namespace Go.Ev
open Go.RowKit Go.WideShapes Go.ChangeShapes
section
variable{P:Program}{T:Tab}
def VRel.refl_in{ρ:Pl}{v:Value}(h:Wv v=true):VRel ρ v v:=by
 rcases HN h with I|⟨cs,rfl⟩
 ·exact .same I
 ·have E:cs.toList.all ZD=true:=h
  exact VRel.agg (l:=cs.toList) (l':=cs.toList) (LRel.same E) fun v hv=>XC (ZX.1 E v hv)
def LRel.refl_in{ρ:Pl}:∀ {l:List Value},l.all Wv=true->LRel ρ l l
 |[],_=>.nil
 |_::_,h=>by
  simp only[KC,Jd]at h
  exact .cons (VRel.refl_in h.1) (LRel.refl_in h.2)
def OT(hm:P.follows .mixedOrders=true)(hT:TabOk P T){f:Nat}{args:List Value}{v:Value}{H':List Ob}{M:List Nat}(h:Zp T f args []=some (v,H',M))(hn:T.fn f≠none)(ha:args.all Wv=true)(hv:rf v=true)(w:World) :
  Calls P f args.toArray w fun e w'=>e=.returned v/\Below w.heap.size w w':=by
 have h1:=(sound hm hT f args [] _ h).1
 have h2:=h1 (fun _=>none) args w (LRel.refl_in ha) (EZ w) (fun _ _ _=>rfl) { (default:Oper)with dst:=some 0 } { tmps := #[undef],defers:=[] }
  (fun a w'=>∃v',a.tmps=#[v']/\v'=v/\Below w.heap.size w w') (fun _ _ _=>False) fun v' w' ρ' hp=>⟨v',by simp[Act.put],hp.val.of_rf hv,⟨hp.frm.os,hp.frm.tape,hp.frm.output,hp.frm.size,fun k hk=>hp.frm.blocks k hk fun id ob pl hc=>by simp[hp]at hc⟩⟩
 obtain⟨af,haf⟩:=Option.ne_none_iff_exists'.1 hn
 obtain⟨pf,g1,g2,g3⟩:=hT.fn f af haf
 obtain⟨code,g4,g5,g6⟩:=BJ g2
 have hcf:(callFunc f args.toArray).run P w=.ok (.enter f args.toArray) w:=by
  have g3' : ¬ (pf.name = "runtime.NumGoroutine") := by simpa using g3
  simp[callFunc,g1,g3',g4]
 rw[hcf,Oper.upon_enter]at h2
 refine h2.mono fun e w' he =>?_
 cases e with
 |returned v1 =>
  obtain⟨v',k1,k2,k3⟩:=he
  have:v1=v':=by simpa [Act.put]using k1
  exact⟨by rw[this,k2],k3⟩
 |panicked c=>exact he.elim
 |outgrown=>obtain⟨_,_,hx⟩:=he;exact hx.elim
open Go.RowKit Go.WideShapes Go.ChangeShapes in
def Hp{H:Type}{enc:TypeId×Value->H}{f:Func}{s:ChangeSpec}{apart fresh handsOn again:Bool}{W W':World}{args:Array Value}{v:Value}{ds gs:List (DataW H)}{before pa pv:List MemPlace}
  (hW:DataW.Whole enc P f.params.toList s.vars apart W args.toList ds gs before)
  (hres:∀(b:Nat) (sp:Nat->Bool) (hd:Bool),DataW.TrodAll enc P W' b sp hd f.resultTypes.toList (v.resultList f.resultTypes.size) (s.fn H (ds++gs)).results [])
  (hargs:∀sp:Nat->Bool,(∀p∈before,sp p.block=true)->DataW.TrodAll enc P W' 0 sp true f.params.toList args.toList (s.fn H (ds++gs)).args pa)
  (hvars:∀sp:Nat->Bool,(∀p∈before,sp p.block=true)->DataW.TrodVars enc P W' sp s.vars (s.fn H (ds++gs)).vars pv)
  (hps:before=pa++pv) (hb:Below W.heap.size W W')
  (hok:∀(j:Nat) (t:TypeId) (r:Value),f.resultTypes[j]?=some t->(v.resultList f.resultTypes.size)[j]?=some r->Value.okWide P W' .any 0 t r) :
  s.post enc P f apart fresh handsOn again W args v W':=by
 have hlt:∀p∈before,p.block<W.heap.size:=fun p hp=>hW.lt p hp
 have hold:∀p∈before,(fun b=>decide (b<W.heap.size)) p.block=true:=fun p hp=>by simpa using hlt p hp
 refine⟨ds,gs,before,[],pa,pv,hW,hres _ _ _,hargs _ hold,hvars _ hold,World.keptBut_mono (fun p hp=>⟨hp,?_⟩) (hb.frame (· ∈ before)),fun _ =>?_⟩
 ·rw[hps,QB]at hp
  exact Or.inr hp
 ·obtain⟨_,_,_,_,_,hz,hn⟩:=hW
  refine⟨hok,_,_,([]++pa)++pv,⟨[]++pa,pv,trodAll_append (hargs _ (fun _ _=>rfl)) (hres _ _ _),hvars _ (fun _ _=>rfl),rfl,?_,?_⟩,?_⟩
  ·intro b off hp
   have hin:MemPlace.cell b off∈before:=by rw[hps];simpa using hp
   rw[hb.frozen (hlt _ hin)]
   exact hz b off hin
  ·intro ha
   have:=hn ha
   rw[hps]at this
   simpa using this
  ·intro p hp _
   rw[hps]
   simpa using hp
end
end Go.Ev
namespace Go.Ev
section
variable{T:Tab}
section
variable{H:List Ob}{e:Env}{x i a y c:Operand}{base es off bytes:Nat}{s:St}{n:Option Nat}{f:FuncId}{b:ACode}
def AOp.noCall:AOp->Bool
 |.call .. | .callv .. =>false
 |_=>true
def Z0{o:AOp}(h:o.noCall=true):Ju T o e H=Q2 H e o:=by
 rw[Ju.eq_def]
 cases o<;>first|rfl|(simp[AOp.noCall]at h)
def RM:Ju T (.move x) e H=Q2 H e (.move x):=Z0 rfl
def RL{b:Operand}:Ju T (.pick c a b) e H=Q2 H e (.pick c a b):=Z0 rfl
def DF{zero:List Value}:Ju T (.alloc zero) e H=Q2 H e (.alloc zero):=Z0 rfl
def AX:Ju T (.box x) e H=Q2 H e (.box x):=Z0 rfl
def BD:Ju T (.load n a) e H=Q2 H e (.load n a):=Z0 rfl
def UF{n:Nat}{v:Operand}:Ju T (.store n a v) e H=Q2 H e (.store n a v):=Z0 rfl
def AY{op:BinOp}:Ju T (.bin op x y) e H=Q2 H e (.bin op x y):=Z0 rfl
def AW{ks:Option (List Bool)}{neg:Bool}:Ju T (.eqv ks neg x y) e H=Q2 H e (.eqv ks neg x y):=Z0 rfl
def DA{k:Nat}{neg:Bool}:Ju T (.isNil k neg x) e H=Q2 H e (.isNil k neg x):=Z0 rfl
def FU{op:UnOp}:Ju T (.un op x) e H=Q2 H e (.un op x):=Z0 rfl
def RO{k:IntKind}:Ju T (.conv k x) e H=Q2 H e (.conv k x):=Z0 rfl
def EE:Ju T (.convSl x) e H=Q2 H e (.convSl x):=Z0 rfl
def AU:Ju T (.s2b x) e H=Q2 H e (.s2b x):=Z0 rfl
def AZ:Ju T (.b2s x) e H=Q2 H e (.b2s x):=Z0 rfl
def DC:Ju T (.field n off x) e H=Q2 H e (.field n off x):=Z0 rfl
def DB{len:Nat}:Ju T (.index n len es x i) e H=Q2 H e (.index n len es x i):=Z0 rfl
def UX:Ju T (.indexStr x i) e H=Q2 H e (.indexStr x i):=Z0 rfl
def DE{zero:List Value}{parts:List (Nat×Nat×Operand)}:Ju T (.build zero parts) e H=Q2 H e (.build zero parts):=Z0 rfl
def W9{cells:List Value}{len:Nat}{parts:List (Nat×Nat×Operand)}:Ju T (.buildSlice cells len parts) e H=Q2 H e (.buildSlice cells len parts):=Z0 rfl
def Uv:Ju T (.fieldAddr off x) e H=Q2 H e (.fieldAddr off x):=Z0 rfl
def Uu{len:Nat}:Ju T (.indexAddr len es x i) e H=Q2 H e (.indexAddr len es x i):=Z0 rfl
def BE:Ju T (.indexSl es x i) e H=Q2 H e (.indexSl es x i):=Z0 rfl
def UU{n:Nat}{lo hi mx:Option Operand}:Ju T (.sliceArr n es x lo hi mx) e H=Q2 H e (.sliceArr n es x lo hi mx):=Z0 rfl
def BC{lo hi mx:Option Operand}:Ju T (.sliceSl es x lo hi mx) e H=Q2 H e (.sliceSl es x lo hi mx):=Z0 rfl
def Ut{zero:List Value}{l:Operand}:Ju T (.makeSlice zero bytes l c) e H=Q2 H e (.makeSlice zero bytes l c):=Z0 rfl
def BF{i:Nat}:Ju T (.extract x i) e H=Q2 H e (.extract x i):=Z0 rfl
def Hs{fn:Fn}{first captured:List Operand}:Ju T (.mkFunc fn first captured) e H=Q2 H e (.mkFunc fn first captured):=Z0 rfl
def UW:Ju T (.nilCheck x) e H=Q2 H e (.nilCheck x):=Z0 rfl
def RK{n:Nat}:Ju T (.s2ap n x) e H=Q2 H e (.s2ap n x):=Z0 rfl
def Hu{s:Operand}:Ju T (.append es bytes s x) e H=Q2 H e (.append es bytes s x):=Z0 rfl
def RN{d s:Operand}:Ju T (.copy es d s) e H=Q2 H e (.copy es d s):=Z0 rfl
def AV{str:Bool}:Ju T (.len str x) e H=Q2 H e (.len str x):=Z0 rfl
def Ht{max:Bool}:Ju T (.minmax max x y) e H=Q2 H e (.minmax max x y):=Z0 rfl
def RQ{e:Env}{xs:List Operand}:Ju T (.call f xs false) e H=(Xf e xs).bind fun args=>(Zp T f args H).bind fun r=>some (r.1,r.2.1,none,r.2.2):=by
 rw[Ju.eq_def];dsimp only;cases Xf e xs<;>rfl
def BG{e:Env}{xs:List Operand}:Ju T (.call f xs true) e H=(Xf e xs).bind fun args=>if args.all rf then(Zp T f args []).bind fun r=>if rf r.1 then some (r.1,H,some [],[])else none else none:=by
 rw[Ju.eq_def];dsimp only;cases Xf e xs<;>rfl
def BH:Q4 T base .skip s=some (.normal,s):=by rw[Q4.eq_def]
def RR{id:Nat}:Q4 T base (.exit id) s=some (.exit id,s):=by rw[Q4.eq_def]
def Cb:Q4 T base .ret s=some (.ret,s):=by rw[Q4.eq_def]
def VH{ops:List AOper}{keep:Option (List Nat)}{pairs:List (Nat×Nat)}:Q4 T base (.region ops keep pairs) s =
  (evOps T base ops s []).bind fun r=>if ZO r.2 pairs then some (.normal,r.1.after keep)else none:=by rw[Q4.eq_def]<;>rfl
def Ca{a:ACode}:Q4 T base (.seq a b) s=(Q4 T base a s).bind fun r=>match r.1 with
  |.normal=>Q4 T base b r.2
  |x=>some (x,r.2):=by rw[Q4.eq_def]<;>rfl
def RS{c:Operand}{a:ACode}{s:St}:Q4 T base (.cond c a b) s=match opd s.env c with
  |some (.bool true)=>Q4 T base a s
  |some (.bool false)=>Q4 T base b s
  |_=>none:=by rw[Q4.eq_def]<;>rfl
def Jl{base id:Nat}{b:ACode}{s:St}:Q4 T base (.block id b) s=(Q4 T base b s).bind fun r=>match r.1 with
  |.exit i=>if i=id then some (.normal,r.2)else some (.exit i,r.2)
  |x=>some (x,r.2):=by rw[Q4.eq_def]<;>rfl
def Jf{base:Nat}{b:ACode}{s:St}:Q4 T base (.loop b) s=(Q4 T base b s).bind fun r=>match r.1 with
  |.normal=>Q4 T base (.loop b) r.2
  |x=>some (x,r.2):=by rw[Q4.eq_def]<;>rfl
def Us{recs:List Rec}:evOps T base [] s recs=some (s,recs):=by rw[evOps.eq_def]
def KX{o:AOper}{r:List AOper}{s:St}{recs:List Rec}:evOps T base (o::r) s recs=match guardOf s.env o.guard with
   |some true=>(Ju T o.op s.env s.h).bind fun x=>evOps T base r ⟨s.env.put o.dst x.1,x.2.1,Qz base s.log x.2.2.2⟩ (recs++[(x.2.2.1,x.2.2.2)])
   |some false=>evOps T base r ⟨s.env.put o.dst undef,s.h,s.log⟩ (recs++[(some [],[])])
   |none=>none:=by rw[evOps.eq_def]<;>rfl
end
end
def BR{α β:Type}{x y:Option α}(f:α->Option β)(h:x=y):x.bind f=y.bind f:=by rw[h]
abbrev FunE:=Nat->List Value->List Ob->Option (Value×List Ob×List Nat)
section
variable{T:Tab}{F:FunE}
def Q9{f:Nat}{args:List Value}{H:List Ob}{fn:AFun}(hfn:T.fn f=some fn):Zp T f args H=(Q4 T H.length fn.body ⟨Qv 0 args,H,[]⟩).bind fun xs=>match xs.1 with
   |.exit _=>none
   |_=>(Z1 xs.2.env xs.2.h fn.results).bind fun vs=>some (packed vs,xs.2.h,xs.2.log):=by
 rw[Zp.eq_def,hfn];rfl
end
end Go.Ev
namespace Go.Ev
variable{k:IntKind}{a b:Nat}
def wrap_u32(x:Int):IntKind.u32.wrap x=x%4294967296:=rfl
def Wb(x:Int):IntKind.u64.wrap x=x%18446744073709551616:=rfl
def wrap_u8(x:Int):IntKind.u8.wrap x=x%256:=rfl
def gK(x:Int):IntKind.u16.wrap x=x%65536:=rfl
def Zd{x:Int}(h : -9223372036854775808<=x)(k:x<9223372036854775808):IntKind.i64.wrap x=x:=by
 simp[IntKind.wrap,IntKind.signed,IntKind.bits]
 omega
def Xm(E:k.signed=false){n:Nat}(h:n<2^k.bits):k.wrap (n:Int)=n:=by
 simp only[IntKind.wrap,E,Bool.false_and,if_false,Z6]
 rw[Int.emod_eq_of_lt (Int.natCast_nonneg _)]
 exact_mod_cast h
def Rm{w:Nat}:BitVec.ofInt w (a:Int)=BitVec.ofNat w a:=by simp
def Y7(E:k.signed=false)(ha:a<2^k.bits)(hb:b<2^k.bits):Z3 .and k a b=((a&&&b:Nat):Int):=by
 simp only[Z3,Rm]
 rw[BitVec.toNat_and,BitVec.toNat_ofNat,BitVec.toNat_ofNat,Q6 ha,Q6 hb,Xm E (Nat.and_lt_two_pow _ hb)]
def Kx(E:k.signed=false)(ha:a<2^k.bits)(hb:b<2^k.bits):Z3 .or k a b=((a|||b:Nat):Int):=by
 simp only[Z3,Rm]
 rw[BitVec.toNat_or,BitVec.toNat_ofNat,BitVec.toNat_ofNat,Q6 ha,Q6 hb,Xm E (Nat.or_lt_two_pow ha hb)]
def Cj(E:k.signed=false)(ha:a<2^k.bits)(hb:b<2^k.bits):Z3 .xor k a b=((a^^^b:Nat):Int):=by
 simp only[Z3,Rm]
 rw[BitVec.toNat_xor,BitVec.toNat_ofNat,BitVec.toNat_ofNat,Q6 ha,Q6 hb,Xm E (Nat.xor_lt_two_pow ha hb)]
def aC(op:BinOp)(a b:Int):(Z3 .and .u32 a b=((BitVec.ofInt 32 a&&&BitVec.ofInt 32 b).toNat:Int))/\(Z3 .or .u32 a b=((BitVec.ofInt 32 a|||BitVec.ofInt 32 b).toNat:Int))/\(Z3 .xor .u32 a b=((BitVec.ofInt 32 a^^^BitVec.ofInt 32 b).toNat:Int)) :=
 ⟨Xm (k := .u32) rfl (BitVec.isLt _),Xm (k := .u32) rfl (BitVec.isLt _),Xm (k := .u32) rfl (BitVec.isLt _)⟩
def E0(v:BitVec 32):BitVec.ofInt 32 (v.toNat:Int)=v:=by simp
def top32(v:BitVec 32):((v.toNat:Int).fdiv (2^31))=if v.msb then 1 else 0:=by
 have h:=v.isLt
 rw[BitVec.msb_eq_decide]
 have e:((v.toNat:Int).fdiv (2^31))=((v.toNat/2147483648:Nat):Int):=by
  rw[Int.fdiv_eq_ediv_of_nonneg _ ww];rfl
 rw[e]
 by_cases hv:2^(32-1)<=v.toNat
 ·simp only[hv,decide_true,if_true];omega
 ·simp only[hv,decide_false,Z6,if_false];omega
def NW(x:Int):(BitVec.ofInt 32 x).msb=decide (2147483648<=x%4294967296):=by
 rw[BitVec.msb_eq_decide,BitVec.toNat_ofInt]
 by_cases h:2147483648<=x%4294967296
 ·simp only[h,decide_true,decide_eq_true_eq];omega
 ·simp only[h,decide_false,decide_eq_false_iff_not];omega
def pD{x y c:Nat}(I:x<4294967296)(E:y<4294967296)(hc:c<=1) :
  (Z3 .or .u32 (Z3 .and .u32 (Z3 .xor .u32 IntKind.u32.max x) y) (Z3 .and .u32 (Z3 .xor .u32 IntKind.u32.max (Z3 .xor .u32 x y)) (((x:Int)-y-c)%4294967296))).fdiv (2^31)=if x<y+c then 1 else 0:=by
 have hm:BitVec.ofInt 32 IntKind.u32.max=BitVec.allOnes 32:=ww
 simp only[(aC .and _ _).1,(aC .and _ _).2.1,(aC .and _ _).2.2,E0,top32,hm]
 simp only[BitVec.msb_or,BitVec.msb_and,BitVec.msb_xor,NW,BitVec.msb_allOnes (by decide:0<32)]
 by_cases a:(2147483648:Int)<=(x:Int)%4294967296<;>by_cases b:(2147483648:Int)<=(y:Int)%4294967296<;>by_cases d:(2147483648:Int)<=((x:Int)-y-c)%4294967296%4294967296<;>simp[a,b,d]<;>omega
end Go.Ev
namespace Go.Ev
section
variable{T:Tab}
def Od{base:Nat}{body:ACode}(I:Nat->St){r:AExit×St}(hr:r.1≠.normal):∀(n i:Nat),(∀j,i<=j->j<i+n->Q4 T base body (I j)=some (.normal,I (j+1)))->Q4 T base body (I (i+n))=some r ->
  Q4 T base (.loop body) (I i)=some r
 |0,i,_,hl=>by
  rw[Jf,show i=i+0 from rfl,hl]
  obtain⟨x,s⟩:=r
  cases x with
  |normal=>exact absurd rfl hr
  |exit id=>rfl
  |ret=>rfl
 |n+1,i,hs,hl=>by
  rw[Jf,hs i (Qj _) qr]
  exact Od I hr n (i+1) (fun j h1 h2=>hs j qr qr) (by rw[show i+1+n=i+(n+1) by omega];exact hl)
def JB{base id:Nat}{body:ACode}(I:Nat->St){s':St}(n:Nat)(hs:∀j,j<n->Q4 T base body (I j)=some (.normal,I (j+1)))(hl:Q4 T base body (I n)=some (.exit id,s')) :
  Q4 T base (.block id (.loop body)) (I 0)=some (.normal,s'):=by
 rw[Jl,Od (r:=(.exit id,s')) I wd n 0 (fun j _ h=>hs j qr) (by simpa using hl)]
 simp
end
section
variable{T:Tab}
def Oe{base:Nat}{body:ACode}{I:Nat->St->Prop}{x:AExit}(hx:x≠.normal){Q:St->Prop}(n:Nat)(hs:∀j s,j<n->I j s->∃s',Q4 T base body s=some (.normal,s')/\I (j+1) s')(hl:∀s,I n s->∃s',Q4 T base body s=some (x,s')/\Q s') :
  ∀(k i:Nat),i+k=n->∀s,I i s->∃s',Q4 T base (.loop body) s=some (x,s')/\Q s'
 |0,i,hi,s,h=>by
  obtain⟨s',h1,h2⟩:=hl s (by rw[<-hi];exact h)
  refine⟨s',?_,h2⟩
  rw[Jf,h1]
  cases x with
  |normal=>exact absurd rfl hx
  |exit id=>rfl
  |ret=>rfl
 |k+1,i,hi,s,h=>by
  obtain⟨s1,h1,h2⟩:=hs i s qr h
  obtain⟨s',h3,h4⟩:=Oe hx n hs hl k (i+1) qr s1 h2
  exact⟨s',by rw[Jf,h1];exact h3,h4⟩
def QM{base id:Nat}{body:ACode}(I:Nat->St->Prop){Q:St->Prop}(n:Nat){s:St}(h0:I 0 s)(hs:∀j s,j<n->I j s->∃s',Q4 T base body s=some (.normal,s')/\I (j+1) s')(hl:∀s,I n s->∃s',Q4 T base body s=some (.exit id,s')/\Q s') :
  ∃s',Q4 T base (.block id (.loop body)) s=some (.normal,s')/\Q s':=by
 obtain⟨s',h1,h2⟩:=Oe (T:=T) (x := .exit id) wd n hs hl n 0 qr s h0
 exact⟨s',by rw[Jl,h1];simp,h2⟩
end
section
variable{H r:List Ob}{cs v:List Value}{a b:Ob}{e o:Bool}{n s off id i x:Nat}{l:List Nat}
def at1:(H++a::b::r)[H.length+1]?=some b:=by simp
def at2{c:Ob}:(H++a::b::c::r)[H.length+2]?=some c:=by simp
def Zs{o:Ob}(h:H[id]?=some o)(E:o.live=true):liveAt H id=some o:=by simp[liveAt,h,E]
def Row(k:IntKind)(H:List Ob)(id off:Nat)(xs:List Nat):Prop:=∃o,liveAt H id=some o/\∀i x,xs[i]?=some x->o.c[off+i]?=some (.int k (x:Nat))
def KD{l:List Ob}{o:Ob}(h:liveAt H id=some o):liveAt (H++l) id=some o:=by
 simp only[liveAt,Qe]at h ⊢
 obtain⟨I,E,J⟩:=h
 refine⟨I,?_,J⟩
 rw[Qb (Qf.1 E).1]
 exact E
def Row.app{k:IntKind}{H l:List Ob}{id off:Nat}{xs:List Nat}(h:Row k H id off xs):Row k (H++l) id off xs:=by
 obtain⟨o,I,E⟩:=h
 exact⟨o,KD I,E⟩
def Row.load{k:IntKind}{H:List Ob}{id off i x:Nat}{xs:List Nat}{e:Env}{a:Operand}(h:Row k H id off xs)(hi:xs[i]?=some x)(ha:opd e a=some (.pointer (some ⟨id,off+i,none⟩))) :
  Q2 H e (.load none a)=some (.int k (x:Nat),H,some [id],[]):=by
 obtain⟨o,I,E⟩:=h
 simp[Q2,ha,I,Jq,E i x hi]
def UT:liveAt (H++⟨cs,true,o,e,n⟩::r) H.length=some ⟨cs,true,o,e,n⟩:=by simp[liveAt]
def Of:liveAt (H++a::⟨cs,true,o,e,n⟩::r) (H.length+1)=some ⟨cs,true,o,e,n⟩:=by simp[liveAt]
def nF:liveAt (H++a::b::⟨cs,true,o,e,n⟩::r) (H.length+2)=some ⟨cs,true,o,e,n⟩:=by simp[liveAt]
def QX(l:List Nat):List Value:=l.map fun n=>.int .u32 (n:Nat)
def u8s(l:List Nat):List Value:=l.map fun n=>.int .u8 (n:Nat)
def Kq(l:List Nat):(QX l).length=l.length:=by simp[QX]
def Qq(l:List Nat):(u8s l).length=l.length:=by simp[u8s]
def Yd(l:List Nat)(i n:Nat):(QX l).set i (.int .u32 (n:Nat))=QX (l.set i n):=by simp[QX,vQ]
def Xg(l:List Nat)(i n:Nat):(u8s l).set i (.int .u8 (n:Nat))=u8s (l.set i n):=by simp[u8s,vQ]
def Kr(h:l[i]?=some x):(QX l)[i]?=some (.int .u32 (x:Nat)):=by simp[QX,h]
def ZN(h:l[i]?=some x):(u8s l)[i]?=some (.int .u8 (x:Nat)):=by simp[u8s,h]
def Ic(k:IntKind)(n:Int):(Value.int k n).cells.toList=[.int k n]:=rfl
def BL(k:IntKind)(n:Int):(Value.int k n).cells.size=1:=rfl
def KN(h:off+v.length<=cs.length):storeAt (H++⟨cs,true,true,e,s⟩::r) ⟨H.length,off,none⟩ v=some (H++⟨splice cs off v,true,true,e,s⟩::r):=by
 simp[storeAt,UT,h]
def LW(h:off+v.length<=cs.length):storeAt (H++a::⟨cs,true,true,e,s⟩::r) ⟨H.length+1,off,none⟩ v=some (H++a::⟨splice cs off v,true,true,e,s⟩::r):=by
 simp[storeAt,Of,h]
def LV(h:off+v.length<=cs.length):storeAt (H++a::b::⟨cs,true,true,e,s⟩::r) ⟨H.length+2,off,none⟩ v=some (H++a::b::⟨splice cs off v,true,true,e,s⟩::r):=by
 simp[storeAt,nF,h]
def Y9(b o n:Nat):(⟨b,o,none⟩:Addr).add n=⟨b,o+n,none⟩:=by
 unfold Addr.add
 split<;>simp_all
def ZC(h:n<9223372036854775808):IntKind.i64.wrap (n:Int)=n:=Zd qr qr
def XP(cs:List Value)(off:Nat)(x:Value):splice cs off [x]=cs.set off x:=rfl
def Rw(l:List Value):(Value.agg l.toArray).cells.toList=l:=rfl
def Wn(l:List Value):(Value.agg l.toArray).cells.size=l.length:=rfl
def nlt1(n:Nat):(n+1<n)=False:=by simp
def nlt2(n:Nat):(n+2<n)=False:=by simp
def nlt3(n:Nat):(n+3<n)=False:=by simp
def nlt4(n:Nat):(n+4<n)=False:=by simp
def kv(k:IntKind)(n:Int):rf (.int k n)=true:=rfl
def Ho(k j:IntKind)(a b:Int):rf (.tuple #[.int k a,.int j b])=true:=rfl
def aX(a b:Value):(#[a,b]:Array Value).toList=[a,b]:=rfl
def Row.elems{k:IntKind}{H:List Ob}{id off n c:Nat}{xs:List Nat}(h:Row k H id off xs)(O:0<xs.length):elemsOf H 1 xs.length (.slice (some ⟨id,off,none⟩) n c)=some (xs.map fun(x:Nat)=>Value.int k x):=by
 obtain⟨o,J,E⟩:=h
 have I:off+xs.length<=o.c.length:=by
  have:=E (xs.length-1) _ (Qg qr)
  have:=(Qf.1 this).1
  omega
 simp only[elemsOf,J,Qk,V7,Xy,I,and_self,if_true,Qm]
 apply ZE
 intro i
 rw[QN]
 by_cases hi:i<xs.length
 ·rw[if_pos hi,Zf,E i _ (Qg hi),J5,Qg hi];rfl
 ·rw[if_neg hi,QE (by simp;omega)]
def Xv(cs:List Value)(off:Nat)(v:List Value)(h:off+v.length<=cs.length):splice cs off v=cs.take off++(v++cs.drop (off+v.length)):=by
 unfold splice
 split
 ·rename_i x
  simp only[Zt,Z9,QH]at h
  rw[List.set_eq_take_append_cons_drop,if_pos qr]
  simp
 ·rfl
def RX{es bytes len cap:Nat}{new:List Value}{x:Value}(J:lenV x=some n)(I:elemsOf (H++⟨cs,true,true,true,es⟩::r) es n x=some new)(hn:0<n)(hc:len+n<=cap)(hb:(len+n)*bytes<=2^47)(E:0<bytes)(he:0<es)(O:len*es+new.length<=cs.length) :
  ZV es bytes (H++⟨cs,true,true,true,es⟩::r) (.slice H.length len cap) x=some (.slice H.length (len+n) cap,H++⟨splice cs (len*es) new,true,true,true,es⟩::r,none,[H.length]):=by
 have Z:¬n=0:=qr
 have Y:0+len*es<=cs.length:=qr
 have U:(len+n)*bytes<=2^47/\0<bytes/\0<es:=⟨hb,E,he⟩
 have hold:elemsOf (H++⟨cs,true,true,true,es⟩::r) es len (.slice H.length len cap)=some ((cs.drop 0).take (len*es)):=by
  simp only[elemsOf,UT,Qk,V7,Y,and_self,if_true]
 simp only[ZV,J,I,Qk,if_neg Z,U,and_self,not_true_eq_false,if_false,UT,hold,if_true,hc,Y9,QH,KN O]
end
end Go.Ev
namespace Go.Ev
variable{B x v i n id:Nat}{l:List Nat}{H H':List Ob}
def num(B:Nat):List Nat->Nat
 |[]=>0
 |x::r=>x+B*num B r
def dig(B n v:Nat):List Nat:=(Jn n).map fun i=>v/B^i%B
def Ze(B n v:Nat):(dig B n v).length=n:=by simp[dig]
def Kc(h:i<n):(dig B n v)[i]?=some (v/B^i%B):=by simp[dig,h]
def Vt(E:0<B)(h:x∈dig B n v):x<B:=by
 simp only[dig,JN]at h
 obtain⟨i,_,rfl⟩:=h
 exact Q3 _ E
def Gu{n:Nat}(E:l.length=n)(h:∀i,i<n->l[i]?=some (v/B^i%B)):l=dig B n v:=by
 apply ZE
 intro i
 by_cases hi:i<n
 ·rw[h i hi,Kc hi]
 ·rw[QE qr,QE (by rw[Ze];omega)]
def num_lt{B:Nat}:∀ {l:List Nat},(∀x∈l,x<B)->num B l<B^l.length
 |[],_=>by simp[num]
 |x::r,h=>by
  have O:x<B:=h x wd
  have J:=num_lt (l:=r) fun y E=>h y (by simp[E])
  simp only[num,Zt,Zn]
  have I:B*(num B r+1)<=B*B^r.length:=XU _ J
  rw[VW,Xy]at I
  rw[Zw (B^r.length) B]
  omega
def KV(B:Nat):∀(a b:List Nat),num B (a++b)=num B a+B^a.length*num B b
 |[],b=>by simp[num]
 |x::r,b=>by
  simp only[num,Qp,KV B r b,Zt,Zn,VW]
  rw[<-ZI,Zw B (B^r.length)]
  omega
def JY{j:Nat}(h:l[j]?=some x):num B (l.take (j+1))=num B (l.take j)+x*B^j:=by
 have E:j<l.length:=(Qf.1 h).1
 rw[List.take_add_one,h,KV]
 simp[num,Zg (Nat.le_of_lt E),Zw]
def KL{B:Nat}(I:0<B):∀ {l:List Nat} {i x:Nat},(∀x∈l,x<B)->l[i]?=some x->num B l/B^i%B=x
 |[],i,x,_,h=>by simp at h
 |y::r,0,x,E,h=>by
  simp at h;subst h
  have:=E y wd
  simp only[num,Jg,JQ,Nat.add_mul_mod_self_left]
  exact Q6 this
 |y::r,i+1,x,E,h=>by
  have:=E y wd
  simp only[num,Zn,Zw (B^i) B]
  rw[<-Zc,Nat.add_mul_div_left _ _ I,Xk this,QH]
  exact KL I (fun z hz=>E z (by simp[hz])) (by simpa using h)
def YN(E:0<B)(h:∀x∈l,x<B):dig B l.length (num B l)=l:=by
 symm
 exact Gu rfl fun i hi=>by rw[KL E h (Qg hi)];exact Qg hi
def po(B n v:Nat):dig B (n+1) v=v%B::dig B n (v/B):=by
 simp only[dig,List.range_succ_eq_map,J9,UR,Jg,JQ]
 congr 1
 apply List.map_congr_left
 intro i _
 simp only[Function.comp,Nat.succ_eq_add_one,Zn,Zc,Zw (B^i) B]
def Kf{B:Nat}(E:0<B):∀(n v:Nat),num B (dig B n v)=v%B^n
 |0,v=>by simp[dig,num,Nat.mod_one]
 |n+1,v=>by
  rw[po,num,Kf E n,Zn,Zw (B^n) B,Nat.mod_mul]
def Vj{B:Nat}:∀ {l:List Nat} {i x:Nat} (y:Nat),l[i]?=some x->num B (l.set i y)+x*B^i=num B l+y*B^i
 |[],i,x,y,h=>by simp at h
 |z::r,0,x,y,h=>by
  simp at h;subst h
  simp only[List.set_cons_zero,num,Jg]
  omega
 |z::r,i+1,x,y,h=>by
  have:=Vj (B:=B) (l:=r) (i:=i) y (by simpa using h)
  simp only[YB,num,Zn]
  have e:B*(num B (r.set i y)+x*B^i)=B*(num B r+y*B^i):=by rw[this]
  rw[VW,VW]at e
  rw[show x*(B^i*B)=B*(x*B^i) by simp only[ZI,Xb,Zw],show y*(B^i*B)=B*(y*B^i) by simp only[ZI,Xb,Zw]]
  omega
def Yf{y:Nat}(h:∀x∈l,x<B)(I:y<B):∀x∈l.set i y,x<B:=by
 intro x J
 rcases J3 J with E|E
 ·exact h x E
 ·rw[E];exact I
def pq{m j N:Nat}(hj:j/4<m)(hN:N<256^j)(hx:x<256) :
  (dig 4294967296 m N).set (j/4) ((dig 4294967296 m N).getD (j/4) 0|||x*2^(8*(j%4)))=dig 4294967296 m (N+x*256^j):=by
 have e256:(256:Nat)=2^8:=rfl
 have Z:(4294967296:Nat)=2^32:=rfl
 have E:(256:Nat)^j=2^(8*(j%4))*4294967296^(j/4):=by
  rw[e256,Z,<-Jj,<-Jj,<-JU]
  congr 1;omega
 have O:0<4294967296^(j/4):=Xi ww
 have hdiv:N/4294967296^(j/4)<2^(8*(j%4)):=by
  rw[Nat.div_lt_iff_lt_mul O,<-E];exact hN
 have U:(2:Nat)^(8*(j%4))<=2^24:=Zy ww qr
 have I:(x+1)*2^(8*(j%4))<=256*2^24:=Xc qr U
 rw[Zl,Xa]at I
 have J:N/4294967296^(j/4)+x*2^(8*(j%4))<4294967296:=by show _<4294967296;omega
 apply Gu (by rw[List.length_set,Ze])
 intro i hi
 by_cases Y:i=j/4
 ·subst Y
  rw[List.getElem?_set_self (by rw[Ze];exact hi),Qy,Kc hi]
  rw[E,<-ZI,Wu _ _ O]
  simp only[X8]
  rw[Q6 (a:=N/_) qr,Q6 J,Xu,Zw x,Nat.two_pow_add_eq_or_of_lt hdiv,Nat.or_comm]
 ·rw[Ql (Ne.symm Y),Kc hi]
  congr 1
  by_cases hlt:i<j/4
  ·have:4294967296^(j/4)=4294967296*4294967296^(j/4-i-1)*4294967296^i:=by
    rw[ZI,<-JU,<-Nat.pow_add_one'];congr 1;omega
   rw[E,this]
   rw[show x*(2^(8*(j%4))*(4294967296*4294967296^(j/4-i-1)*4294967296^i))=(x*2^(8*(j%4))*4294967296^(j/4-i-1)*4294967296)*4294967296^i by simp only[ZI,Xb,Zw]]
   rw[Wu _ _ (Xi ww),KJ]
  ·have hle:4294967296^(j/4+1)<=4294967296^i:=Zy ww qr
   have h1:N+x*256^j<4294967296^i:=by
    refine QJ ?_ hle
    have:(256:Nat)^(j+1)<=4294967296^(j/4+1):=by
     rw[e256,Z,<-Jj,<-Jj];exact Zy ww qr
    refine QJ ?_ this
    rw[Zn]
    have:x*256^j<=255*256^j:=ZG _ qr
    omega
   rw[Xk h1,Xk qr]
def ns(k:IntKind)(l:List Nat):List Value:=l.map fun n=>.int k (n:Nat)
def QA(k:IntKind)(l:List Nat):(ns k l).length=l.length:=by simp[ns]
def JL(k:IntKind)(l:List Nat)(i n:Nat):(ns k l).set i (.int k (n:Nat))=ns k (l.set i n):=by simp[ns,vQ]
def Z4{k:IntKind}(h:l[i]?=some x):(ns k l)[i]?=some (.int k (x:Nat)):=by simp[ns,h]
def Gn(k:IntKind)(a b:List Nat):ns k (a++b)=ns k a++ns k b:=by simp[ns]
def FG{o:Ob}(h:liveAt H id=some o):id<H.length:=by
 simp only[liveAt,Qe]at h
 obtain⟨I,E,_⟩:=h
 exact(Qf.1 E).1
def UB(h:H'[id]?=H[id]?):liveAt H' id=liveAt H id:=by simp only[liveAt,h]
inductive Sl(k:IntKind)(H:List Ob):Value->List Nat->Prop
 |nil:Sl k H (.slice none 0 0) []
 |mk {id off c:Nat} {o:Ob} {l:List Nat}:liveAt H id=some o->off+l.length<=o.c.length->(∀(i x:Nat),l[i]?=some x->o.c[off+i]?=some (.int k (x:Nat)))->Sl k H (.slice (some ⟨id,off,none⟩) l.length c) l
def Sl.row{k:IntKind}{H:List Ob}{v:Value}{l:List Nat}(h:Sl k H v l)(E:0<l.length):∃id off c,v=.slice (some ⟨id,off,none⟩) l.length c/\Row k H id off l:=by
 cases h with
 |nil=>simp at E
 |mk J O I=>exact⟨_,_,_,rfl,_,J,I⟩
def Sl.congr{k:IntKind}{H H':List Ob}{v:Value}{l:List Nat}(h:Sl k H v l)(I:∀id,id<H.length->H'[id]?=H[id]?):Sl k H' v l:=by
 cases h with
 |nil=>exact .nil
 |mk E O J=>exact .mk (by rw[UB (I _ (FG E))];exact E) O J
def Sl.app{k:IntKind}{H l':List Ob}{v:Value}{l:List Nat}(h:Sl k H v l):Sl k (H++l') v l :=
 h.congr fun id hid=>Qb hid
def Sl.lenV{k:IntKind}{H:List Ob}{v:Value}{l:List Nat}(h:Sl k H v l):lenV v=some l.length:=by
 cases h<;>rfl
def Sl.elems{k:IntKind}{H:List Ob}{v:Value}{l:List Nat}(h:Sl k H v l):elemsOf H 1 l.length v=some (ns k l):=by
 cases h with
 |nil=>rfl
 |mk J I E =>
  simp only[elemsOf,J,Qk,V7,Xy,I,and_self,if_true,Qm]
  apply ZE
  intro i
  rw[QN]
  by_cases hi:i<l.length
  ·rw[if_pos hi,Zf,E i _ (Qg hi),Z4 (Qg hi)]
  ·rw[if_neg hi,QE (by rw[QA];omega)]
inductive Grown(k:IntKind)(B:Nat)(H:List Ob):Value->List Nat->Prop
 |nil:Grown k B H (.slice none 0 0) []
 |own {id:Nat} {bs:List Nat}:B<=id->0<bs.length->H[id]?=some (Ob.grown 1 (ns k bs))->Grown k B H (.slice id bs.length bs.length) bs
 |new {id:Nat} {bs:List Nat}:B<=id->0<bs.length->H[id]?=some (Ob.fresh (ns k bs))->Grown k B H (.slice id bs.length bs.length) bs
def Grown.sl{k:IntKind}{B:Nat}{H:List Ob}{v:Value}{l:List Nat}(h:Grown k B H v l):Sl k H v l:=by
 cases h with
 |nil=>exact .nil
 |own O J I=>exact .mk (Zs I rfl) (by simp[Ob.grown,QA]) (fun i x E=>by rw[QH];exact Z4 E)
 |new O J I=>exact .mk (Zs I rfl) (by simp[Ob.fresh,QA]) (fun i x E=>by rw[QH];exact Z4 E)
def Grown.app{k:IntKind}{B:Nat}{H l':List Ob}{v:Value}{l:List Nat}(h:Grown k B H v l):Grown k B (H++l') v l:=by
 cases h with
 |nil=>exact .nil
 |own J I E=>exact .own J I (by rw[Qb (Qf.1 E).1];exact E)
 |new J I E=>exact .new J I (by rw[Qb (Qf.1 E).1];exact E)
def Grown.append{k:IntKind}{B bytes:Nat}{H:List Ob}{s x:Value}{bs new:List Nat}(h:Grown k B H s bs)(Z:B<=H.length)(U:Go.Ev.lenV x=some new.length)(he:elemsOf H 1 new.length x=some (ns k new))(hb:(bs.length+new.length)*bytes<=2^47)(I:0<bytes) :
  ∃s' H' M,ZV 1 bytes H s x=some (s',H',none,M)/\Grown k B H' s' (bs++new)/\(∀i∈M,B<=i)/\H.length<=H'.length/\∀i,i<B->H'[i]?=H[i]? := by
 rcases ZP new.length with hn|hn
 ·have:new=[]:=ZU hn
  subst this
  rw[QF]
  refine⟨s,H,[],?_,h,by simp,Qj _,fun _ _=>rfl⟩
  rw[Z9]at U he
  cases h<;>simp only[ZV,U,he,Qk,if_true]
 ·cases h with
  |nil =>
   refine⟨.slice H.length new.length new.length,H++[Ob.grown 1 (ns k new)],[],?_,?_,by simp,by simp,?_⟩
   ·have O:¬new.length=0:=qr
    have Y:(0+new.length)*bytes<=2^47/\0<bytes/\0<1:=⟨by simpa using hb,I,by decide⟩
    simp only[ZV,U,he,Qk,if_neg O,Y,and_self,not_true_eq_false,if_false,if_true]
   ·rw[Qn]
    exact .own Z hn wd
   ·intro i hi
    rw[Qb qr]
  |@own E _ O Y J =>
   refine⟨.slice H.length (bs.length+new.length) (bs.length+new.length),(H.set E Ob.dead)++[Ob.grown 1 (ns k (bs++new))],[E],?_,?_,by simpa using O,by simp,?_⟩
   ·have h4:liveAt H E=some (Ob.grown 1 (ns k bs)):=Zs J rfl
    have h5:¬new.length=0:=qr
    have h6:(bs.length+new.length)*bytes<=2^47/\0<bytes/\0<1:=⟨hb,I,by decide⟩
    have h7:¬(bs.length+new.length<=bs.length):=qr
    have h8:elemsOf H 1 bs.length (.slice E bs.length bs.length)=some (ns k bs):=(Grown.own O Y J).sl.elems
    simp only[ZV,U,he,Qk,if_neg h5,h6,and_self,not_true_eq_false,if_false,if_true,h4,h8]
    simp only[Ob.grown,not_true_eq_false,if_false,if_neg h7,Z6,Qj,if_true,<-Gn]
   ·have:=Grown.own (k:=k) (B:=B) (H:=(H.set E Ob.dead)++[Ob.grown 1 (ns k (bs++new))]) (id:=H.length) (bs:=bs++new) Z (by simp;omega) wd
    rwa[Qh]at this
   ·intro i hi
    rw[Qb (by simp;have:=(Qf.1 J).1;omega),Ql qr]
  |@new E _ O Y J =>
   refine⟨.slice H.length (bs.length+new.length) (bs.length+new.length),H++[Ob.grown 1 (ns k (bs++new))],[],?_,?_,by simp,by simp,?_⟩
   ·have h4:liveAt H E=some (Ob.fresh (ns k bs)):=Zs J rfl
    have h5:¬new.length=0:=qr
    have h6:(bs.length+new.length)*bytes<=2^47/\0<bytes/\0<1:=⟨hb,I,by decide⟩
    have h7:¬(bs.length+new.length<=bs.length):=qr
    have h8:elemsOf H 1 bs.length (.slice E bs.length bs.length)=some (ns k bs):=(Grown.new O Y J).sl.elems
    simp only[ZV,U,he,Qk,if_neg h5,h6,and_self,not_true_eq_false,if_false,if_true,h4,h8]
    simp only[Ob.fresh,not_true_eq_false,if_false,if_neg h7,Z6,Qj,if_true,<-Gn]
   ·have:=Grown.own (k:=k) (B:=B) (H:=H++[Ob.grown 1 (ns k (bs++new))]) (id:=H.length) (bs:=bs++new) Z (by simp;omega) wd
    rwa[Qh]at this
   ·intro i hi
    rw[Qb qr]
def XI{H:List Ob}(I:H.length<=H'.length)(E:∀i,i<H.length->H'[i]?=H[i]?):∃l,H'=H++l:=by
 refine⟨H'.drop H.length,?_⟩
 apply ZE
 intro i
 by_cases hi:i<H.length
 ·rw[Qb hi,E i hi]
 ·rw[Qd qr,Zf]
  congr 1;omega
def QC{base:Nat}:∀ {log M:List Nat},(∀i∈M,base<=i)->Qz base log M=log
 |log,[],_=>rfl
 |log,i::r,h=>by
  have I:¬i<base:=by have:=h i wd;omega
  simp only[Qz,I,false_and,if_false]
  exact QC fun j E=>h j (by simp[E])
end Go.Ev

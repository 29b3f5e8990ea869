/- What the law leans on, part 2. -/
import Derived.Test.YtkbifkljlfmeiaaGreatCg1
import Derived.SizedLaws
import Derived.ChangeArms
import Derived.Test.YtkbifkljlfmeiaaGreatProg
import Derived.Test.YtkbifkljlfmeiaaGreatChecked
import Derived.KernelRfl
import Derived.Laws.Externs
set_option linter.unusedSimpArgs false
set_option linter.unusedVariables false
set_option linter.defProp false
open And renaming intro -> Qi
open Array renaming getElem?_eq_some_iff -> XT, getElem?_toList -> ZQ
open Bool renaming and_eq_true -> Jd, and_self -> En, false_and -> KK, false_eq_true -> Z6, not_false -> YT, not_true -> qt, true_and -> Em
open Exists renaming intro -> Zk
open Int renaming cast_ofNat_Int -> Xo, fdiv -> Bi, fdiv_eq_ediv_of_nonneg -> JT, le_of_lt -> vR, le_refl -> WX, natCast_add -> Kz, natCast_mul -> Jy, natCast_nonneg -> Bh, natCast_one -> KR, natCast_zero -> Zx, pow_pos -> zW, reduceAdd -> Hi, reduceEq -> Zj, reduceGE -> ME, reduceGT -> MD, reduceLE -> Za, reduceLT -> QZ, reduceMul -> Hh, reduceNeg -> Hg, reducePow -> WL, reduceSub -> Hf, reduceTDiv -> Bg, reduceTMod -> Bf, reduceToNat -> QK, toNat_natCast -> Vb, toNat_of_nonneg -> Ef
open List renaming all_cons -> KC, append_assoc -> Qx, append_nil -> QF, cons_append -> Qp, drop_drop -> Kp, drop_eq_getElem?_toList_append -> ZJ, drop_eq_getElem_cons -> J4, drop_of_length_le -> ZH, drop_zero -> Jt, ext_getElem? -> ZE, flatten_cons -> QO, getD_eq_getElem?_getD -> Qy, getElem?_append_left -> Qb, getElem?_append_right -> Qd, getElem?_cons_succ -> JI, getElem?_cons_zero -> JV, getElem?_drop -> Zf, getElem?_eq_getElem -> Qg, getElem?_eq_none -> QE, getElem?_eq_some_iff -> Qf, getElem?_map -> J5, getElem?_of_mem -> Xe, getElem?_set_ne -> Ql, getElem?_set_self -> Qu, getElem?_take -> QN, getElem_mem -> Xq, length -> zV, length_append -> Qh, length_cons -> Zt, length_nil -> Z9, length_set -> Qr, length_take -> Q0, map_cons -> J9, mem_append -> QB, mem_cons -> J8, mem_map -> JN, mem_of_getElem? -> Qw, mem_of_mem_take -> QG, nil_append -> Qn, reduceReplicate -> Qa, replicate -> Qc, replicate_succ -> Xr, set_append_right -> Q1, take_add_one -> Zh, take_append_drop -> Z7, take_length -> Yn, take_of_length_le -> Qo, take_zero -> Js
open List.cons renaming injEq -> U1
open Nat renaming add_assoc -> QV, add_mod -> Ti, add_mul -> Zl, add_mul_div_right -> Wu, add_mul_mod_self_right -> KJ, add_zero -> ZM, div_add_mod -> ZK, div_div_eq_div_mul -> Zc, div_eq_of_lt -> Xk, div_le_self -> Jp, div_lt_iff_lt_mul -> R5, eq_zero_or_pos -> ZP, le_refl -> Qj, lt_irrefl -> Yu, lt_of_le_of_lt -> Ja, lt_of_lt_of_le -> QJ, lt_or_ge -> ZA, min_eq_left -> Zg, mod_eq_of_lt -> Q6, mod_lt -> Q3, mod_mod -> Vu, mod_mod_of_dvd -> YA, mod_mul_right_div_self -> Bd, mul_add -> VW, mul_assoc -> ZI, mul_comm -> Zw, mul_le_mul -> Xc, mul_le_mul_left -> XU, mul_le_mul_right -> ZG, mul_left_comm -> Xb, mul_mod -> VV, mul_one -> Xy, not_lt_zero -> XY, one_mul -> Xa, pow_add -> JU, pow_add_one' -> Pg, pow_le_pow_right -> Zy, pow_mul -> Jj, pow_pos -> Xi, pow_succ -> Zn, reduceAdd -> QQ, reduceDiv -> He, reduceEqDiff -> QL, reduceLT -> QY, reduceLeDiff -> Ww, reduceMod -> Hd, reduceMul -> QU, reducePow -> WK, reduceSub -> QS, sub_self -> Qs, sub_zero -> V8, two_pow_add_eq_or_of_lt -> VL, zero_add -> QH, zero_mul -> KA
open Option renaming bind_eq_some_iff -> Qe, bind_some -> Qk, isNone_none -> V7, isSome_none -> KH, map_eq_some_iff -> QI
open Option.some renaming inj -> JJ, injEq -> Qm
namespace Go.Ev
section
variable{e:Env}
def gate{α:Type}(p:Prop)[Decidable p](x:Option α):Option α:=if p then x else none
def JE{α:Type}{p E:Prop}[Decidable p][Decidable E](x:Option α)(h:∀_:Unit,p=E):gate p x=gate E x:=by
 have h:=h ();subst h;unfold gate;congr
def Jw{α β:Type}{x y:Option α}(f:α->Option β)(h:∀_:Unit,x=y):x.bind f=y.bind f:=by rw[h ()]
def JD{α:Type}{c c':Prop}[Decidable c][Decidable c'](x y:α)(h:∀_:Unit,c=c'):(if c then x else y)=(if c' then x else y):=by
 have h:=h ();subst h;congr
def D7{α:Type}(b:Bool)(x:Option α):(if b=true then none else x)=gate (b=false) x:=by cases b<;>rfl
def FM{α:Type}[Decidable True]{x:Option α}:gate True x=x:=by simp[gate]
def B9{α:Type}(v:Value)(w:Bool)(x y:Option α):Option α:=match v with
 |.bool c=>if c=w then x else y
 |_=>none
def gd(w:Bool)(v:Value):Value:=match v with
 |.tuple _=>.bool (!w)
 |v=>v
def uv{w b:Bool}:gd w (.bool b)=.bool b:=Eq.trans rfl rfl
def gd_ut:gd true undef=.bool false:=Eq.trans rfl rfl
def gd_uf:gd false undef=.bool true:=Eq.trans rfl rfl
def Jk{α:Type}{v v':Value}(w:Bool)(x y:Option α)(h:∀_:Unit,v=v'):B9 v w x y=B9 v' w x y:=by rw[h ()]
def wy(t:Nat)(v:Option Value)(l:Env):Env:=match v with
 |some v=>(t,v)::l
 |none=>l
def nN:Env.keep e []=[]:=rfl
def ej{t:Nat}{r:List Nat}:Env.keep e (t::r)=wy t (e.get t) (Env.keep e r):=rfl
def uF{T:Tab}{base:Nat}{c:Operand}{a b:ACode}{s:St}:Q4 T base (.cond c a b) s=(opd s.env c).bind fun v=>B9 v true (Q4 T base a s) (Q4 T base b s):=by
 rw[RS]
 cases opd s.env c with
 |none=>rfl
 |some v =>
  cases v<;>try rfl
  rename_i c
  cases c<;>rfl
def steps(T:Tab)(b:Nat)(q:Bool):List AOper->St->Option St
 |[],s=>some s
 |o::r,s=>match guardOf s.env o.guard with
  |some true=>(Ju T o.op s.env s.h).bind fun x=>if(q && !x.2.2.2.isEmpty)=true then none else steps T b q r ⟨s.env.put o.dst x.1,x.2.1,Qz b s.log x.2.2.2⟩
  |some false=>steps T b q r ⟨s.env.put o.dst undef,s.h,s.log⟩
  |none=>none
end
section
variable{T:Tab}{b:Nat}{q:Bool}
section
variable{r:List AOper}{l:List Nat}{H:List Ob}{s:St}{es base id n off bytes:Nat}{e:Env}{x y:ACode}{o:AOp}
def W7:∀(ops:List AOper) (s:St) (recs:List Rec),(evOps T b ops s recs).map (·.1)=steps T b false ops s
 |[],s,recs=>by rw[Us];rfl
 |o::r,s,recs=>by
  rw[KX]
  unfold steps
  cases I:guardOf s.env o.guard with
  |none=>rfl
  |some g =>
   cases g with
   |false=>exact W7 r _ _
   |true =>
    cases E:Ju T o.op s.env s.h with
    |none=>simp[E]
    |some x =>
     simp only[E,Qk,KK,Z6,if_false]
     exact W7 r _ _
def W8:∀(ops:List AOper) (s:St) (recs:List Rec) (s':St),steps T b true ops s=some s'->(∀r∈recs,r.2=[])->∃E,evOps T b ops s recs=some (s',E)/\(∀r∈E,r.2=[])/\E.length=recs.length+ops.length
 |[],s,recs,s',h,J=>by
  simp only[steps,Qm]at h
  subst h
  exact⟨recs,Us,J,rfl⟩
 |o::r,s,recs,s',h,J=>by
  rw[KX]
  unfold steps at h
  cases hg:guardOf s.env o.guard with
  |none=>simp only[hg]at h;cases h
  |some g =>
   simp only[hg]at h
   cases g with
   |false =>
    obtain⟨E,Z,Y,U⟩:=W8 r _ (recs++[(some [],[])]) s' h (fun x I=>by
     rcases QB.1 I with h|h
     ·exact J x h
     ·simp at h;subst h;rfl)
    exact⟨E,Z,Y,by rw[U];simp;omega⟩
   |true =>
    cases I:Ju T o.op s.env s.h with
    |none=>simp[I]at h
    |some x =>
     simp only[I,Qk]at h
     split at h
     ·cases h
     ·rename_i hq
      have O:x.2.2.2=[]:=by simpa using hq
      obtain⟨E,Z,Y,U⟩:=W8 r _ (recs++[(x.2.2.1,x.2.2.2)]) s' h (fun y hy=>by
       rcases QB.1 hy with h|h
       ·exact J y h
       ·simp at h;subst h;exact O)
      exact⟨E,Z,Y,by rw[U];simp;omega⟩
def eE{ops:List AOper}{keep:Option (List Nat)}{s:St}:Q4 T b (.region ops keep []) s=(steps T b false ops s).bind fun s'=>some (.normal,s'.after keep):=by
 rw[VH,<-W7 ops s []]
 cases evOps T b ops s []<;>rfl
def RB{α:Type}(x y:Option α):Option α:=match x with
 |some v=>some v
 |none=>y
def Jv{α:Type}{x x':Option α}(y:Option α)(h:∀_:Unit,x=x'):RB x y=RB x' y:=by rw[h ()]
def quiet(T:Tab)(b:Nat)(ops:List AOper)(pairs:List (Nat×Nat))(s:St):Option St :=
 match(pairs.all fun p=>decide (p.1<ops.length)&&decide (p.2<ops.length))with
 |true=>steps T b true ops s
 |false=>none
def WQ{recs:List Rec}(E:∀r∈recs,r.2=[]):∀ {pairs:List (Nat×Nat)},(pairs.all fun p=>decide (p.1<recs.length)&&decide (p.2<recs.length))=true->ZO recs pairs=true
 |[],_=>rfl
 |(i,j)::ps,h=>by
  simp only[KC,Jd,decide_eq_true_eq]at h
  have I:=WQ E (pairs:=ps) h.2
  simp only[ZO,KC,Jd]at I ⊢
  refine⟨?_,I⟩
  rw[Qg h.1.1,Qg h.1.2]
  simp only[DQ,E _ (Xq h.1.1),E _ (Xq h.1.2),List.isEmpty_nil,Bool.true_or,En]
def La(T:Tab)(b:Nat)(c:ACode)(s:St):Option (AExit×St):=Q4 T b c s
def QW{ops:List AOper}{keep:Option (List Nat)}{p:Nat×Nat}{ps:List (Nat×Nat)}{s:St}:Q4 T b (.region ops keep (p::ps)) s=RB ((quiet T b ops (p::ps) s).bind fun s'=>some (.normal,s'.after keep)) (La T b (.region ops keep (p::ps)) s):=by
 cases E:quiet T b ops (p::ps) s with
 |none=>rfl
 |some s' =>
  simp only[Qk,RB]
  unfold quiet at E
  split at E
  ·rename_i hp
   obtain⟨recs,O,J,I⟩:=W8 ops s [] s' E wd
   simp only[Z9,QH]at I
   rw[VH,O]
   simp only[Qk]
   rw[if_pos (WQ J (by rw[I];exact hp))]
  ·cases E
def yq:steps T b q [] s=some s:=rfl
def ot{d:Option Nat}{t:Nat}{w:Bool}{e:Env}:steps T b q (⟨d,o,some (t,w)⟩::r) ⟨e,H,l⟩=(e.get t).bind fun v=>B9 (gd w v) w (steps T b q (⟨d,o,none⟩::r) ⟨e,H,l⟩) (steps T b q r ⟨e.put d undef,H,l⟩):=by
 simp only[steps,guardOf]
 cases e.get t with
 |none=>rfl
 |some v =>
  cases v<;>try rfl
  all_goals first|(cases w<;>rfl)|(rename_i c;cases c<;>cases w<;>rfl)
def XR{d:Nat}{v:Option Value}(h:Ju T o e H=Jm H v):steps T b q (⟨some d,o,none⟩::r) ⟨e,H,l⟩=v.bind fun v=>steps T b q r ⟨(d,v)::e,H,l⟩:=by
 simp only[steps,guardOf,h,Jm]
 cases v<;>cases q<;>rfl
def eI:Q4 T base (.block id (.seq x y)) s=(Q4 T base (.seq x y) s).bind fun r=>match r.1 with
  |.exit i=>if i=id then some (.normal,r.2)else some (.exit i,r.2)
  |z=>some (z,r.2):=Jl
def eJ{ops:List AOper}{keep:Option (List Nat)}{pairs:List (Nat×Nat)}:Q4 T base (.block id (.region ops keep pairs)) s=(Q4 T base (.region ops keep pairs) s).bind fun r=>match r.1 with
  |.exit i=>if i=id then some (.normal,r.2)else some (.exit i,r.2)
  |z=>some (z,r.2):=Jl
def eL{c:Operand}:Q4 T base (.block id (.cond c x y)) s=(Q4 T base (.cond c x y) s).bind fun r=>match r.1 with
  |.exit i=>if i=id then some (.normal,r.2)else some (.exit i,r.2)
  |z=>some (z,r.2):=Jl
def eK:Q4 T base (.block id .skip) s=some (.normal,s):=by rw[Jl,BH];rfl
def eM{id2:Nat}:Q4 T base (.block id (.block id2 x)) s=(Q4 T base (.block id2 x) s).bind fun r=>match r.1 with
  |.exit i=>if i=id then some (.normal,r.2)else some (.exit i,r.2)
  |z=>some (z,r.2):=Jl
def gZ:Value->Value->Value->Option Value
 |.bool t,a,b=>some (if t then a else b)
 |_,_,_=>none
def vEq(ks:Option (List Bool))(neg:Bool)(x y:Value):Option Value :=
 (match ks,x,y with
  |some ks,.agg a,.agg b=>JK ks a.toList b.toList
  |none,.bool a,.bool b=>some (a==b)
  |_,_,_=>none).bind fun b=>some (.bool (if neg then !b else b))
def vW(k:IntKind):Value->Option Value
 |.int _ n=>some (.int k (k.wrap n))
 |_=>none
def ie(n:Option Nat)(off:Nat):Value->Option Value
 |.agg cs=>Jq n cs.toList off
 |_=>none
def Io(n:Option Nat)(len es:Nat):Value->Value->Option Value
 |.agg cs,.int _ i=>if 0<=i/\i<len then Jq n cs.toList (i.toNat*es)else none
 |_,_=>none
def Ge:Value->Value->Option Value
 |.string s,.int _ i=>if 0<=i then(s.data.toList[i.toNat]?).bind fun b=>some (.int .u8 b.toNat)else none
 |_,_=>none
def TG(off:Nat):Value->Option Value
 |.pointer (some a)=>some (.pointer (some (a.add off)))
 |_=>none
def TF(len es:Nat):Value->Value->Option Value
 |.pointer (some a),.int _ i=>if 0<=i/\i<len then some (.pointer (some (a.add (i.toNat*es))))else none
 |_,_=>none
def LK(es:Nat):Value->Value->Option Value
 |.slice (some a) len _,.int _ i=>if 0<=i/\i<len then some (.pointer (some (a.add (i.toNat*es))))else none
 |_,_=>none
def MQ(n es:Nat)(lo hi mx:Option Value):Value->Option Value
 |.pointer (some a)=>(Jc n n lo hi mx).bind fun r=>some (.slice (some (a.add (r.1*es))) (r.2.1-r.1) (r.2.2-r.1))
 |_=>none
def vSliceSl(H:List Ob)(es:Nat)(lo hi mx:Option Value):Value->Option Value
 |.slice (some a) len cap=>(Jc len cap lo hi mx).bind fun r=>(liveAt H a.block).bind fun o =>
    if o.exact\/¬o.own\/es<=o.es then some (.slice (some (a.add (r.1*es))) (r.2.1-r.1) (r.2.2-r.1))else none
 |.slice none 0 0=>(Jc 0 0 lo hi mx).bind fun _=>some (.slice none 0 0)
 |_=>none
def LM(i:Nat):Value->Option Value
 |.tuple vs=>vs.toList[i]?
 |_=>none
def EN:Value->Option Value
 |.pointer (some a)=>some (.pointer (some a))
 |_=>none
def vV(n:Nat):Value->Option Value
 |.slice (some a) len _=>if n<=len/\0<n then some (.pointer (some a))else none
 |_=>none
def vLen(str:Bool):Value->Option Value
 |.slice _ n _=>if str then none else some (.int .i64 n)
 |.string s=>if str then some (.int .i64 s.size)else none
 |_=>none
def Gd(mx:Bool):Value->Value->Option Value
 |.int k a,.int E b=>if k=E then some (.int k (if mx then(if b>a then b else a)else(if b<a then b else a)))else none
 |_,_=>none
def LI(H:List Ob)(n:Option Nat):Value->Option Value
 |.pointer (some a)=>(liveAt H a.block).bind fun o=>if a.spot.isNone then Jq n o.c a.off else none
 |_=>none
def LN(H:List Ob)(x:Value):Option Value:=match x with
 |.slice _ n _=>(elemsOf H 1 n x).bind fun cs=>(XS cs).bind fun l=>some (.string ⟨l.toArray⟩)
 |_=>none
def uz{x:Operand}{d:Nat}:steps T b q (⟨some d,.move x,none⟩::r) ⟨e,H,l⟩=(opd e x).bind fun v=>steps T b q r ⟨(d,v)::e,H,l⟩:=XR RM
def uy{c x y:Operand}{d:Nat}{e:Env}:steps T b q (⟨some d,.pick c x y,none⟩::r) ⟨e,H,l⟩=(opd e c).bind fun c=>(opd e x).bind fun x=>(opd e y).bind fun y=>(gZ c x y).bind fun v=>steps T b q r ⟨(d,v)::e,H,l⟩:=by
 rw[XR RL]
 cases opd e c with
 |none=>rfl
 |some c =>
  cases opd e x with
  |none=>rfl
  |some x =>
   cases opd e y with
   |none=>rfl
   |some y=>cases c<;>cases q<;>rfl
def oA{zero:List Value}{d:Nat}:steps T b q (⟨some d,.alloc zero,none⟩::r) ⟨e,H,l⟩=steps T b q r ⟨(d,.pointer H.length)::e,H++[{c:=zero}],l⟩:=by
 simp only[steps,guardOf,DF,Q2,Qk,Env.put,Qz,Ob.fresh]
 cases q<;>rfl
def yw{x:Operand}{d:Nat}{e:Env}:steps T b q (⟨some d,.box x,none⟩::r) ⟨e,H,l⟩=(opd e x).bind fun v=>gate (okVar v=true) (steps T b q r ⟨(d,.pointer H.length)::e,H++[{c:=v.cells.toList}],l⟩):=by
 simp only[steps,guardOf,AX,Q2,Env.put,Qz,Ob.fresh]
 cases opd e x with
 |none=>rfl
 |some v=>simp only[Qk,gate];split<;>cases q<;>rfl
def uC{n:Option Nat}{x:Operand}{d:Nat}{e:Env}{H:List Ob}:steps T b q (⟨some d,.load n x,none⟩::r) ⟨e,H,l⟩=(opd e x).bind fun a=>(LI H n a).bind fun v=>steps T b q r ⟨(d,v)::e,H,l⟩:=by
 simp only[steps,guardOf,BD,Q2,Env.put]
 cases opd e x with
 |none=>rfl
 |some v =>
  cases v<;>try rfl
  rename_i p
  cases p with
  |none=>rfl
  |some a =>
   simp only[Qk,LI]
   cases liveAt H a.block with
   |none=>rfl
   |some o =>
    simp only[Qk]
    split
    ·cases Jq n o.c a.off<;>cases q<;>rfl
    ·rfl
def Pv(H:List Ob)(n:Nat):Value->Value->Option (List Ob)
 |.pointer (some a),v=>if v.cells.size=n/\okVar v=true then storeAt H a v.cells.toList else none
 |_,_=>none
def pU:Value->List Nat
 |.pointer (some a)=>[a.block]
 |_=>[]
def oh{a x:Operand}{e:Env}{H:List Ob}:steps T b q (⟨none,.store n a x,none⟩::r) ⟨e,H,l⟩=(opd e a).bind fun a=>(opd e x).bind fun v=>(Pv H n a v).bind fun H'=>gate (q=false) (steps T b q r ⟨e,H',Qz b l (pU a)⟩):=by
 simp only[steps,guardOf,UF,Q2,Env.put]
 cases opd e a with
 |none=>rfl
 |some E =>
  cases opd e x with
  |none=>rfl
  |some v =>
   cases E<;>try rfl
   rename_i p
   cases p with
   |none=>rfl
   |some a =>
    simp only[Qk,Pv,pU]
    split
    ·cases storeAt H a v.cells.toList<;>cases q<;>rfl
    ·rfl
def yx{op:BinOp}{x y:Operand}{d:Nat}{e:Env}:steps T b q (⟨some d,.bin op x y,none⟩::r) ⟨e,H,l⟩=(opd e x).bind fun x=>(opd e y).bind fun y=>(JC op x y).bind fun v=>steps T b q r ⟨(d,v)::e,H,l⟩:=by
 rw[XR AY]
 cases opd e x<;>cases opd e y<;>cases q<;>rfl
def yu{ks:Option (List Bool)}{neg:Bool}{x y:Operand}{d:Nat}{e:Env}:steps T b q (⟨some d,.eqv ks neg x y,none⟩::r) ⟨e,H,l⟩=(opd e x).bind fun x=>(opd e y).bind fun y=>(vEq ks neg x y).bind fun v=>steps T b q r ⟨(d,v)::e,H,l⟩:=by
 rw[XR AW]
 cases opd e x<;>cases opd e y<;>cases q<;>rfl
def om{k:Nat}{neg:Bool}{x:Operand}{d:Nat}{e:Env}:steps T b q (⟨some d,.isNil k neg x,none⟩::r) ⟨e,H,l⟩=(opd e x).bind fun x=>(Ys k x).bind fun c=>steps T b q r ⟨(d,.bool (if neg then !c else c))::e,H,l⟩:=by
 rw[XR DA]
 cases opd e x with
 |none=>rfl
 |some v=>simp only[Qk];cases Ys k v<;>cases q<;>rfl
def fs_un{op:UnOp}{x:Operand}{d:Nat}{e:Env}:steps T b q (⟨some d,.un op x,none⟩::r) ⟨e,H,l⟩=(opd e x).bind fun x=>(unV op x).bind fun v=>steps T b q r ⟨(d,v)::e,H,l⟩:=by
 rw[XR FU]
 cases opd e x<;>cases q<;>rfl
def uE{k:IntKind}{x:Operand}{d:Nat}{e:Env}:steps T b q (⟨some d,.conv k x,none⟩::r) ⟨e,H,l⟩=(opd e x).bind fun x=>(vW k x).bind fun v=>steps T b q r ⟨(d,v)::e,H,l⟩:=by
 rw[XR RO]
 cases opd e x<;>cases q<;>rfl
def Tn(H:List Ob):Value->Option Value
 |.slice (some a) n c=>(liveAt H a.block).bind fun o=>if o.own=true/\a.spot.isNone=true then some (.slice (some a) n c)else none
 |_=>none
def eH{x:Operand}{d:Nat}{e:Env}{H:List Ob}:steps T b q (⟨some d,.convSl x,none⟩::r) ⟨e,H,l⟩=(opd e x).bind fun x=>(Tn H x).bind fun v=>steps T b q r ⟨(d,v)::e,H,l⟩:=by
 simp only[steps,guardOf,EE,Q2,Env.put]
 cases opd e x with
 |none=>rfl
 |some v =>
  simp only[Qk]
  cases v with
  |slice a n c =>
   cases a with
   |none=>rfl
   |some a =>
    simp only[Tn]
    cases liveAt H a.block with
    |none=>rfl
    |some o =>
     simp only[Qk]
     split<;>cases q<;>rfl
  |_=>rfl
def ou{n:Option Nat}{x:Operand}{d:Nat}{e:Env}:steps T b q (⟨some d,.field n off x,none⟩::r) ⟨e,H,l⟩=(opd e x).bind fun x=>(ie n off x).bind fun v=>steps T b q r ⟨(d,v)::e,H,l⟩:=by
 rw[XR DC]
 cases opd e x<;>cases q<;>rfl
def oq{n:Option Nat}{len:Nat}{x i:Operand}{d:Nat}{e:Env}:steps T b q (⟨some d,.index n len es x i,none⟩::r) ⟨e,H,l⟩=(opd e x).bind fun x=>(opd e i).bind fun i=>(Io n len es x i).bind fun v=>steps T b q r ⟨(d,v)::e,H,l⟩:=by
 rw[XR DB]
 cases opd e x<;>cases opd e i<;>cases q<;>rfl
def Ot{x i:Operand}{d:Nat}{e:Env}:steps T b q (⟨some d,.indexStr x i,none⟩::r) ⟨e,H,l⟩=(opd e x).bind fun x=>(opd e i).bind fun i=>(Ge x i).bind fun v=>steps T b q r ⟨(d,v)::e,H,l⟩:=by
 rw[XR UX]
 cases opd e x<;>cases opd e i<;>cases q<;>rfl
def o9{zero:List Value}{ps:List (Nat×Nat×Operand)}{d:Nat}{e:Env}:steps T b q (⟨some d,.build zero ps,none⟩::r) ⟨e,H,l⟩=(Z5 e ps).bind fun ps=>(fillL zero ps).bind fun cs=>steps T b q r ⟨(d,.agg cs.toArray)::e,H,l⟩:=by
 rw[XR DE]
 cases Z5 e ps with
 |none=>rfl
 |some v=>simp only[Qk];cases fillL zero v<;>cases q<;>rfl
def E9{cells:List Value}{len:Nat}{ps:List (Nat×Nat×Operand)}{d:Nat}{e:Env}:steps T b q (⟨some d,.buildSlice cells len ps,none⟩::r) ⟨e,H,l⟩=(Z5 e ps).bind fun ps=>(fillL cells ps).bind fun cs=>steps T b q r ⟨(d,.slice H.length len len)::e,H++[{c:=cs}],l⟩:=by
 simp only[steps,guardOf,W9,Q2,Env.put,Ob.fresh]
 cases Z5 e ps with
 |none=>rfl
 |some v=>simp only[Qk];cases fillL cells v<;>cases q<;>rfl
def Lg{x:Operand}{d:Nat}{e:Env}:steps T b q (⟨some d,.fieldAddr off x,none⟩::r) ⟨e,H,l⟩=(opd e x).bind fun x=>(TG off x).bind fun v=>steps T b q r ⟨(d,v)::e,H,l⟩:=by
 rw[XR Uv]
 cases opd e x<;>cases q<;>rfl
def Lf{len:Nat}{x i:Operand}{d:Nat}{e:Env}:steps T b q (⟨some d,.indexAddr len es x i,none⟩::r) ⟨e,H,l⟩=(opd e x).bind fun x=>(opd e i).bind fun i=>(TF len es x i).bind fun v=>steps T b q r ⟨(d,v)::e,H,l⟩:=by
 rw[XR Uu]
 cases opd e x<;>cases opd e i<;>cases q<;>rfl
def SN{x i:Operand}{d:Nat}{e:Env}:steps T b q (⟨some d,.indexSl es x i,none⟩::r) ⟨e,H,l⟩=(opd e x).bind fun x=>(opd e i).bind fun i=>(LK es x i).bind fun v=>steps T b q r ⟨(d,v)::e,H,l⟩:=by
 rw[XR BE]
 cases opd e x<;>cases opd e i<;>cases q<;>rfl
def Oo{x:Operand}{lo hi mx:Option Operand}{d:Nat}{e:Env}:steps T b q (⟨some d,.sliceArr n es x lo hi mx,none⟩::r) ⟨e,H,l⟩=(opd e x).bind fun x=>(ZR e lo).bind fun lo=>(ZR e hi).bind fun hi=>(ZR e mx).bind fun mx=>(MQ n es lo hi mx x).bind fun v=>steps T b q r ⟨(d,v)::e,H,l⟩:=by
 rw[XR UU]
 cases opd e x<;>cases ZR e lo<;>cases ZR e hi<;>cases ZR e mx<;>cases q<;>rfl
def SL{x:Operand}{lo hi mx:Option Operand}{d:Nat}{e:Env}{H:List Ob}:steps T b q (⟨some d,.sliceSl es x lo hi mx,none⟩::r) ⟨e,H,l⟩=(opd e x).bind fun x=>(ZR e lo).bind fun lo=>(ZR e hi).bind fun hi=>(ZR e mx).bind fun mx=>(vSliceSl H es lo hi mx x).bind fun v=>steps T b q r ⟨(d,v)::e,H,l⟩:=by
 simp only[steps,guardOf,BC,Q2,Env.put]
 cases opd e x with
 |none=>rfl
 |some v =>
  cases ZR e lo with
  |none=>rfl
  |some lo =>
   cases ZR e hi with
   |none=>rfl
   |some hi =>
    cases ZR e mx with
    |none=>rfl
    |some mx =>
     simp only[Qk]
     cases v<;>try rfl
     rename_i base len cap
     cases base with
     |some a =>
      simp only[vSliceSl]
      cases Jc len cap lo hi mx with
      |none=>rfl
      |some r =>
       simp only[Qk]
       cases liveAt H a.block with
       |none=>rfl
       |some o=>simp only[Qk];split<;>cases q<;>rfl
     |none =>
      cases len<;>cases cap<;>try rfl
      simp only[vSliceSl]
      cases Jc 0 0 lo hi mx<;>cases q<;>rfl
def hJ(zero:List Value)(bytes:Nat)(id:Nat):Value->Value->Option (Value×Ob)
 |.int _ l,.int _ c=>if 0<=l/\l<=c/\c*bytes<=2^47/\0<bytes/\0<zero.length then some (.slice id l.toNat c.toNat,{c:=(Qc c.toNat zero).flatten})else none
 |_,_=>none
def Le{zero:List Value}{x y:Operand}{d:Nat}{e:Env}:steps T b q (⟨some d,.makeSlice zero bytes x y,none⟩::r) ⟨e,H,l⟩=(opd e x).bind fun x=>(opd e y).bind fun y=>(hJ zero bytes H.length x y).bind fun v=>steps T b q r ⟨(d,v.1)::e,H++[v.2],l⟩:=by
 simp only[steps,guardOf,Ut,Q2,Env.put]
 cases opd e x with
 |none=>rfl
 |some v =>
  cases opd e y with
  |none=>rfl
  |some w =>
   simp only[Qk]
   unfold hJ
   cases v<;>try rfl
   cases w<;>try rfl
   dsimp only
   split<;>cases q<;>rfl
def SO{x:Operand}{i d:Nat}{e:Env}:steps T b q (⟨some d,.extract x i,none⟩::r) ⟨e,H,l⟩=(opd e x).bind fun x=>(LM i x).bind fun v=>steps T b q r ⟨(d,v)::e,H,l⟩:=by
 rw[XR BF]
 cases opd e x<;>cases q<;>rfl
def eF{fn:Fn}{E cs:List Operand}{d:Nat}{e:Env}:steps T b q (⟨some d,.mkFunc fn E cs,none⟩::r) ⟨e,H,l⟩=(Xf e E).bind fun E=>(Xf e cs).bind fun cs=>steps T b q r ⟨(d,.func fn E.toArray cs.toArray)::e,H,l⟩:=by
 rw[XR Hs]
 cases Xf e E<;>cases Xf e cs<;>cases q<;>rfl
def Oq{x:Operand}{d:Nat}{e:Env}:steps T b q (⟨some d,.nilCheck x,none⟩::r) ⟨e,H,l⟩=(opd e x).bind fun x=>(EN x).bind fun v=>steps T b q r ⟨(d,v)::e,H,l⟩:=by
 rw[XR UW]
 cases opd e x<;>cases q<;>rfl
def ux{x:Operand}{d:Nat}{e:Env}:steps T b q (⟨some d,.s2ap n x,none⟩::r) ⟨e,H,l⟩=(opd e x).bind fun x=>(vV n x).bind fun v=>steps T b q r ⟨(d,v)::e,H,l⟩:=by
 rw[XR RK]
 cases opd e x<;>cases q<;>rfl
def yr{str:Bool}{x:Operand}{d:Nat}{e:Env}:steps T b q (⟨some d,.len str x,none⟩::r) ⟨e,H,l⟩=(opd e x).bind fun x=>(vLen str x).bind fun v=>steps T b q r ⟨(d,v)::e,H,l⟩:=by
 rw[XR AV]
 cases opd e x<;>cases q<;>rfl
def eG{mx:Bool}{x y:Operand}{d:Nat}{e:Env}:steps T b q (⟨some d,.minmax mx x y,none⟩::r) ⟨e,H,l⟩=(opd e x).bind fun x=>(opd e y).bind fun y=>(Gd mx x y).bind fun v=>steps T b q r ⟨(d,v)::e,H,l⟩:=by
 rw[XR Ht]
 cases opd e x<;>cases opd e y<;>cases q<;>rfl
def qL(id:Nat):Value->Option (Value×Ob)
 |.string s=>if s.size<=2^47 then some (.slice id s.size s.size,⟨s.data.toList.map fun b=>.int .u8 b.toNat,true,true,false,1⟩)else none
 |_=>none
def yo{x:Operand}{d:Nat}{e:Env}:steps T b q (⟨some d,.s2b x,none⟩::r) ⟨e,H,l⟩=(opd e x).bind fun x=>(qL H.length x).bind fun v=>steps T b q r ⟨(d,v.1)::e,H++[v.2],l⟩:=by
 simp only[steps,guardOf,AU,Q2,Env.put,Ob.grown]
 cases opd e x with
 |none=>rfl
 |some v =>
  cases v<;>try rfl
  simp only[Qk,qL]
  split<;>cases q<;>rfl
def yz{x:Operand}{d:Nat}{e:Env}{H:List Ob}:steps T b q (⟨some d,.b2s x,none⟩::r) ⟨e,H,l⟩=(opd e x).bind fun x=>(LN H x).bind fun v=>steps T b q r ⟨(d,v)::e,H,l⟩:=by
 simp only[steps,guardOf,AZ,Q2,Env.put]
 cases opd e x with
 |none=>rfl
 |some v =>
  cases v<;>try rfl
  rename_i base n cap
  simp only[Qk,LN]
  cases elemsOf H 1 n (.slice base n cap)with
  |none=>rfl
  |some cs =>
   simp only[Qk]
   cases XS cs<;>cases q<;>rfl
def eN{x y:Operand}{d:Nat}{e:Env}:steps T b q (⟨some d,.append es bytes x y,none⟩::r) ⟨e,H,l⟩=(opd e x).bind fun x=>(opd e y).bind fun y=>(ZV es bytes H x y).bind fun v=>gate ((q && !v.2.2.2.isEmpty)=false) (steps T b q r ⟨(d,v.1)::e,v.2.1,Qz b l v.2.2.2⟩):=by
 simp only[steps,guardOf,D7,Hu,Q2,Env.put]
 cases opd e x<;>cases opd e y<;>cases q<;>rfl
def aV(H:List Ob)(es:Nat)(d s:Value):Option (Value×List Ob×List Nat):=match d with
 |.slice base dl _=>(lenV s).bind fun sl=>(elemsOf H es (min sl dl) s).bind fun cs=>match base with
   |some a=>(storeAt H a cs).bind fun H'=>some (.int .i64 (min sl dl:Nat),H',[a.block])
   |none=>if dl=0 then some (.int .i64 0,H,[])else none
 |_=>none
def uD{es:Nat}{x y:Operand}{d:Option Nat}{e:Env}{H:List Ob}:steps T b q (⟨d,.copy es x y,none⟩::r) ⟨e,H,l⟩=(opd e x).bind fun x=>(opd e y).bind fun y=>(aV H es x y).bind fun v=>gate ((q && !v.2.2.isEmpty)=false) (steps T b q r ⟨e.put d v.1,v.2.1,Qz b l v.2.2⟩):=by
 simp only[steps,guardOf,D7,RN,Q2]
 cases opd e x with
 |none=>rfl
 |some v =>
  cases opd e y with
  |none=>rfl
  |some s =>
   simp only[Qk]
   cases v<;>try rfl
   rename_i base dl cap
   unfold aV
   dsimp only
   cases lenV s with
   |none=>rfl
   |some sl =>
    simp only[Qk]
    cases elemsOf H es (min sl dl) s with
    |none=>rfl
    |some cs =>
     simp only[Qk]
     cases base with
     |none=>dsimp only;split<;>cases q<;>rfl
     |some a=>dsimp only;cases storeAt H a cs<;>cases q<;>rfl
def J0{f:Nat}{xs:List Operand}{d:Option Nat}{e:Env}:steps T b q (⟨d,.call f xs true,none⟩::r) ⟨e,H,l⟩=(Xf e xs).bind fun args=>gate (args.all rf=true) ((Zp T f args []).bind fun v=>gate (rf v.1=true) (steps T b q r ⟨e.put d v.1,H,l⟩)):=by
 simp only[steps,guardOf,BG]
 cases Xf e xs with
 |none=>rfl
 |some args =>
  simp only[Qk]
  cases args.all rf with
  |false=>rfl
  |true =>
   simp only[if_true,FM]
   cases Zp T f args []with
   |none=>rfl
   |some v =>
    simp only[Qk]
    cases rf v.1<;>cases q<;>rfl
def oz{f:Nat}{xs:List Operand}{d:Option Nat}{e:Env}{H:List Ob}:steps T b q (⟨d,.call f xs false,none⟩::r) ⟨e,H,l⟩=(Xf e xs).bind fun args=>(Zp T f args H).bind fun v=>gate ((q && !v.2.2.isEmpty)=false) (steps T b q r ⟨e.put d v.1,v.2.1,Qz b l v.2.2⟩):=by
 simp only[steps,guardOf,D7,RQ]
 cases Xf e xs with
 |none=>rfl
 |some args =>
  simp only[Z6,if_false,Qk]
  cases Zp T f args H<;>cases q<;>rfl
def callee:Value->List Value->Option (Nat×List Value)
 |.func (.func f) first captured,args=>some (f,first.toList++args++captured.toList)
 |_,_=>none
def f9{f:Operand}{xs:List Operand}{e:Env}:Ju T (.callv f xs) e H=(opd e f).bind fun f=>(Xf e xs).bind fun args=>(callee f args).bind fun c=>(Zp T c.1 c.2 H).bind fun r=>some (r.1,r.2.1,none,r.2.2):=by
 rw[Ju.eq_def]
 dsimp only
 cases opd e f with
 |none=>rfl
 |some fv =>
  cases Xf e xs with
  |none =>
   cases fv<;>try rfl
   rename_i fn _ _
   cases fn<;>rfl
  |some args =>
   cases fv<;>try rfl
   rename_i fn _ _
   cases fn<;>rfl
def ov{f:Operand}{xs:List Operand}{d:Option Nat}{e:Env}{H:List Ob}:steps T b q (⟨d,.callv f xs,none⟩::r) ⟨e,H,l⟩=(opd e f).bind fun f=>(Xf e xs).bind fun args=>(callee f args).bind fun c=>(Zp T c.1 c.2 H).bind fun v=>gate ((q && !v.2.2.isEmpty)=false) (steps T b q r ⟨e.put d v.1,v.2.1,Qz b l v.2.2⟩):=by
 simp only[steps,guardOf,D7,f9]
 cases opd e f with
 |none=>rfl
 |some fv =>
  cases Xf e xs with
  |none=>rfl
  |some args =>
   simp only[Qk]
   cases callee fv args with
   |none=>rfl
   |some c=>simp only[Qk];cases Zp T c.1 c.2 H<;>cases q<;>rfl
end
end
section
variable{H l:List Ob}{k:Nat}{o:Ob}{cs:List Value}
def hget0:(H++l)[H.length]?=l[0]? := by rw[Qd (Qj _),Qs]
def hgetK:(H++l)[H.length+k]?=l[k]? := by rw[Qd qr];congr 1;omega
def AM:(H++l).set H.length o=H++l.set 0 o:=by rw[Q1 _ _ (Qj _),Qs]
def hsetK:(H++l).set (H.length+k) o=H++l.set k o:=by rw[Q1 _ _ qr];congr 2;omega
def QP{v:List Value}(h:v.length=cs.length):splice cs 0 v=v:=by
 rw[Xv _ _ _ qr,Js,Qn,QH,h,List.drop_length,QF]
def P7{n:Nat}(h:cs.length=n):(cs.drop 0).take n=cs:=by rw[Jt,Qo qr]
def KG:∀ {n:Nat} {p q:List Nat},p.length=n->q.length=n->JK (Qc n true) (u8s p) (u8s q)=some (p==q)
 |0,[],[],_,_=>rfl
 |n+1,x::p,y::q,hp,E=>by
  have:=KG (n:=n) (p:=p) (q:=q) (by simpa using hp) (by simpa using E)
  simp only[u8s,J9,Xr,JK,BN,if_true,Qk]at this ⊢
  rw[this]
  simp only[Qk,List.cons_beq_cons]
  congr 2
  by_cases h:x=y
  ·subst h;simp
  ·have:¬((x:Int)=y):=qr
   rw[beq_eq_false_iff_ne.2 h,beq_eq_false_iff_ne.2 this]
def kr(l:List Nat):rf (.agg (u8s l).toArray)=true:=by
 show(u8s l).toArray.toList.all ZD=true
 rw[show(u8s l).toArray.toList=u8s l from rfl]
 simp[u8s,ZD]
def bo(b:Bool):rf (.bool b)=true:=rfl
def pZ(l:List Value):l.toArray.toList=l:=rfl
def Grown.len{k:IntKind}{B:Nat}{H:List Ob}{s:Value}{bs:List Nat}(h:Grown k B H s bs):vLen false s=some (.int .i64 bs.length):=by cases h<;>rfl
def Sl.len{k:IntKind}{H:List Ob}{s:Value}{bs:List Nat}(h:Sl k H s bs):vLen false s=some (.int .i64 bs.length):=by cases h<;>rfl
end
section
variable{e:Env}{H:List Ob}
section
variable{k j:IntKind}{a b i:Int}{o n es t off cap c id y:Nat}{v:Value}{x:Operand}{l:List Nat}{f:FuncId}{r:Env}{cs:Array Value}
def sQ:opd e (.tmp t)=e.get t:=Eq.trans rfl rfl
def dL:opd e (.const v)=some v:=Eq.trans rfl rfl
def mI:opd e (.func f)=some (.func (.func f) #[] #[]):=Eq.trans rfl rfl
def mG:Xf e []=some []:=Eq.trans rfl rfl
def dJ{r:List Operand}:Xf e (x::r)=(opd e x).bind fun v=>(Xf e r).bind fun vs=>some (v::vs):=Eq.trans rfl rfl
def NF:ZR e none=some none:=Eq.trans rfl rfl
def NC:ZR e (some x)=(opd e x).bind fun v=>some (some v):=Eq.trans rfl rfl
def IL:Z5 e []=some []:=Eq.trans rfl rfl
def Es{r:List (Nat×Nat×Operand)}:Z5 e ((o,n,x)::r)=(opd e x).bind fun v=>(Z5 e r).bind fun vs=>some ((o,n,v)::vs):=Eq.trans rfl rfl
def ur:Env.get ((t,v)::r) t=some v:=by simp[Env.get]
def D6{u:Nat}(h:(t=u)=False):Env.get ((u,v)::r) t=Env.get r t:=by simp[Env.get,h]
def qN{a b:Value}:gZ (.bool true) a b=some a:=Eq.trans rfl rfl
def qP{a b:Value}:gZ (.bool false) a b=some b:=Eq.trans rfl rfl
def aU{ks:List Bool}{a b:Array Value}:vEq (some ks) false (.agg a) (.agg b)=(JK ks a.toList b.toList).bind fun c=>some (.bool c):=Eq.trans rfl rfl
def Dh{ks:List Bool}{a b:Array Value}:vEq (some ks) true (.agg a) (.agg b)=(JK ks a.toList b.toList).bind fun c=>some (.bool !c):=Eq.trans rfl rfl
def ij{a b:Bool}:vEq none false (.bool a) (.bool b)=some (.bool (a==b)):=Eq.trans rfl rfl
def cG{a b:Bool}:vEq none true (.bool a) (.bool b)=some (.bool !(a==b)):=Eq.trans rfl rfl
def cH{n:Int}:vW k (.int j n)=some (.int k (k.wrap n)):=Eq.trans rfl rfl
def Py{n:Option Nat}:ie n off (.agg cs)=Jq n cs.toList off:=Eq.trans rfl rfl
def HF{n:Option Nat}{len:Nat}:Io n len es (.agg cs) (.int k i)=gate (0<=i/\i<len) (Jq n cs.toList (i.toNat*es)):=Eq.trans rfl rfl
def LJ{s:ByteArray}:Ge (.string s) (.int k i)=gate (0<=i) ((s.data.toList[i.toNat]?).bind fun b=>some (.int .u8 b.toNat)):=Eq.trans rfl rfl
def Ip{b:Nat}:TG off (.pointer (some ⟨b,o,none⟩))=some (.pointer (some ⟨b,o+off,none⟩)):=by rw[<-Y9];rfl
def Im{len b:Nat}:TF len es (.pointer (some ⟨b,o,none⟩)) (.int k i)=gate (0<=i/\i<len) (some (.pointer (some ⟨b,o+i.toNat*es,none⟩))):=by rw[<-Y9];rfl
def Px{b len:Nat}:LK es (.slice (some ⟨b,o,none⟩) len cap) (.int k i)=gate (0<=i/\i<len) (some (.pointer (some ⟨b,o+i.toNat*es,none⟩))):=by rw[<-Y9];rfl
def LG{b:Nat}{lo hi mx:Option Value}:MQ n es lo hi mx (.pointer (some ⟨b,o,none⟩))=(Jc n n lo hi mx).bind fun r=>some (.slice (some ⟨b,o+r.1*es,none⟩) (r.2.1-r.1) (r.2.2-r.1)):=by
 simp only[MQ,Y9]
def cI{i:Nat}:Tn H (.slice (some ⟨i,o,none⟩) n c)=(liveAt H i).bind fun ob=>gate (ob.own=true) (some (.slice (some ⟨i,o,none⟩) n c)):=by
 simp only[Tn,gate,V7,and_true]
def Yr{b len:Nat}{lo hi mx:Option Value}:vSliceSl H es lo hi mx (.slice (some ⟨b,o,none⟩) len cap)=(Jc len cap lo hi mx).bind fun r=>(liveAt H b).bind fun ob=>gate (ob.exact\/¬ob.own\/es<=ob.es) (some (.slice (some ⟨b,o+r.1*es,none⟩) (r.2.1-r.1) (r.2.2-r.1))):=by
 simp only[vSliceSl,Y9,gate]
def Pw{lo hi mx:Option Value}:vSliceSl H es lo hi mx (.slice none 0 0)=(Jc 0 0 lo hi mx).bind fun _=>some (.slice none 0 0):=Eq.trans rfl rfl
def Pz{i:Nat}{vs:Array Value}:LM i (.tuple vs)=vs.toList[i]? := Eq.trans rfl rfl
def LH{a:Addr}:EN (.pointer (some a))=some (.pointer (some a)):=Eq.trans rfl rfl
def qM{a:Addr}{len:Nat}:vV n (.slice (some a) len cap)=gate (n<=len/\0<n) (some (.pointer (some a))):=Eq.trans rfl rfl
def wK{a:Option Addr}:vLen false (.slice a n c)=some (.int .i64 n):=Eq.trans rfl rfl
def ic{s:ByteArray}:vLen true (.string s)=some (.int .i64 s.size):=Eq.trans rfl rfl
def wI:Gd false (.int k a) (.int k b)=some (.int k (if b<a then b else a)):=by simp[Gd]
def wJ:Gd true (.int k a) (.int k b)=some (.int k (if b>a then b else a)):=by simp[Gd]
def qR{n:Option Nat}{b:Nat}:LI H n (.pointer (some ⟨b,o,none⟩))=(liveAt H b).bind fun ob=>Jq n ob.c o:=by simp[LI]
def gX{b:Nat}:Pv H n (.pointer (some ⟨b,o,none⟩)) v=gate (v.cells.size=n/\okVar v=true) (storeAt H ⟨b,o,none⟩ v.cells.toList):=Eq.trans rfl rfl
def vL{b:Nat}:pU (.pointer (some ⟨b,o,none⟩))=[b]:=rfl
def Ir{a:Option Addr}:LN H (.slice a n c)=(elemsOf H 1 n (.slice a n c)).bind fun cs=>(XS cs).bind fun l=>some (.string ⟨l.toArray⟩):=Eq.trans rfl rfl
def qQ{zero:List Value}{bytes:Nat}{l c:Int}:hJ zero bytes id (.int k l) (.int j c)=gate (0<=l/\l<=c/\c*bytes<=2^47/\0<bytes/\0<zero.length) (some (.slice id l.toNat c.toNat,{c:=(Qc c.toNat zero).flatten})):=Eq.trans rfl rfl
def gY{s:ByteArray}:qL id (.string s)=gate (s.size<=2^47) (some (.slice id s.size s.size,⟨s.data.toList.map fun b=>.int .u8 b.toNat,true,true,false,1⟩)):=Eq.trans rfl rfl
def pA{a b:Array Value}{args:List Value}:callee (.func (.func f) a b) args=some (f,a.toList++args++b.toList):=Eq.trans rfl rfl
def ef:liveAt H id=(H[id]?).bind fun o=>gate (o.live=true) (some o):=Eq.trans rfl rfl
def TO{b:Nat}{v:List Value}:storeAt H ⟨b,o,none⟩ v=(liveAt H b).bind fun ob=>gate (ob.own=true/\o+v.length<=ob.c.length) (some (H.set b ⟨splice ob.c o v,ob.live,ob.own,ob.exact,ob.es⟩)):=by simp[storeAt,gate]
def Sd{cs:List Value}:Jq none cs off=cs[off]? := Eq.trans rfl rfl
def Sb{cs:List Value}:Jq (some n) cs off=gate (off+n<=cs.length) (some (.agg ((cs.drop off).take n).toArray)):=Eq.trans rfl rfl
def Ks{d:Nat}:Kt none y d=some d:=Eq.trans rfl rfl
def dU{d:Nat}:Kt (some (.int k i)) y d=gate (0<=i/\i<=y) (some i.toNat):=Eq.trans rfl rfl
def Xh{len:Nat}{lo hi:Option Value}:Jc len cap lo hi none=(Kt hi cap len).bind fun h=>(Kt lo h 0).bind fun l=>some (l,h,cap):=by simp[Jc,Kt]
def vJ:JC .add (.int k a) (.int k b)=some (.int k (k.wrap (a+b))):=by simp[JC,Je]
def vq:JC .sub (.int k a) (.int k b)=some (.int k (k.wrap (a-b))):=by simp[JC,Je]
def vC:JC .mul (.int k a) (.int k b)=some (.int k (k.wrap (a*b))):=by simp[JC,Je]
def vA(h:(b=0)=False):JC .quo (.int k a) (.int k b)=some (.int k (k.wrap (a.tdiv b))):=by simp[JC,Je,h]
def v9(h:(b=0)=False):JC .rem (.int k a) (.int k b)=some (.int k (a.tmod b)):=by simp[JC,Je,h]
def vI:JC .and (.int k a) (.int k b)=some (.int k (Z3 .and k a b)):=by simp[JC,Je]
def yI:JC .or (.int k a) (.int k b)=some (.int k (Z3 .or k a b)):=by simp[JC,Je]
def vp:JC .xor (.int k a) (.int k b)=some (.int k (Z3 .xor k a b)):=by simp[JC,Je]
def aD:JC .andNot (.int k a) (.int k b)=some (.int k (Z3 .andNot k a b)):=by simp[JC,Je]
def vH:JC .eql (.int k a) (.int k b)=some (.bool (a==b)):=by simp[JC,Je]
def vB:JC .neq (.int k a) (.int k b)=some (.bool (a != b)):=by simp[JC,Je]
def vD:JC .lss (.int k a) (.int k b)=some (.bool (decide (a<b))):=by simp[JC,Je]
def vE:JC .leq (.int k a) (.int k b)=some (.bool (decide (a<=b))):=by simp[JC,Je]
def vF:JC .gtr (.int k a) (.int k b)=some (.bool (decide (b<a))):=by simp[JC,Je]
def vG:JC .geq (.int k a) (.int k b)=some (.bool (decide (b<=a))):=by simp[JC,Je]
def vy(h:(b<0)=False):JC .shl (.int k a) (.int j b)=some (.int k (k.wrap (a*2^(min b.toNat k.bits)))):=by simp[JC,Jb,h]
def vt(h:(b<0)=False):JC .shr (.int k a) (.int j b)=some (.int k (a.fdiv (2^(min b.toNat k.bits)))):=by simp[JC,Jb,h]
def OX{a b:ByteArray}:JC .add (.string a) (.string b)=gate (a.size+b.size<=2^47) (some (.string (a++b))):=Eq.trans rfl rfl
def pS{a b:ByteArray}:JC .eql (.string a) (.string b)=some (.bool (a.toList==b.toList)):=Eq.trans rfl rfl
def pR{a b:ByteArray}:JC .neq (.string a) (.string b)=some (.bool !(a.toList==b.toList)):=Eq.trans rfl rfl
def wM{b:Bool}:unV .not (.bool b)=some (.bool !b):=Eq.trans rfl rfl
def wN{n:Int}:unV .neg (.int k n)=some (.int k (k.wrap (0-n))):=Eq.trans rfl rfl
def wL{n:Int}:unV .xor (.int k n)=some (.int k (Z3 .xor k (if k.signed then -1 else k.max) n)):=Eq.trans rfl rfl
def aI{k:List Nat}:St.after ⟨e,H,l⟩ (some k)=⟨e.keep k,H,l⟩:=rfl
def kP{d:Nat}:Env.put e (some d) v=(d,v)::e:=rfl
def kQ:Env.put e none v=e:=rfl
def rS:Z1 e H []=some []:=Eq.trans rfl rfl
def rQ{r:List (Nat×Option (Option Nat))}:Z1 e H ((t,none)::r)=(e.get t).bind fun v=>(Z1 e H r).bind fun vs=>some (v::vs):=Eq.trans rfl rfl
def rO{n:Option Nat}{r:List (Nat×Option (Option Nat))}:Z1 e H ((t,some n)::r)=(e.get t).bind fun p=>(LI H n p).bind fun v=>(Z1 e H r).bind fun vs=>some (v::vs):=Eq.trans rfl rfl
def Si:packed [v]=v:=rfl
def Sg{w:Value}{r:List Value}:packed (v::w::r)=.tuple (v::w::r).toArray:=rfl
def ed{b:Nat}:Qz b l []=l:=rfl
def n9{b i:Nat}{r:List Nat}(h:b<=i):Qz b l (i::r)=Qz b l r:=by
 have E:¬i<b:=qr
 simp only[Qz,E,false_and,if_false]
def th{n:Int}:okVar (.int k n)=true:=rfl
def mV{b:Bool}:okVar (.bool b)=true:=rfl
def te{s:ByteArray}:okVar (.string s)=true:=rfl
def ti{a:Array Value}:okVar (.agg a)=true:=rfl
def tf{a:Option Addr}:okVar (.pointer a)=true:=rfl
def dR{a:Option Addr}:okVar (.slice a n c)=true:=rfl
def mU{f:Fn}{a b:Array Value}:okVar (.func f a b)=true:=rfl
def NM:okVar .nilFunc=true:=rfl
def ay(b:Bool):(Value.bool b).cells.toList=[.bool b]:=rfl
def Td(b:Bool):(Value.bool b).cells.size=1:=rfl
def fQ(a:Option Addr):(Value.pointer a).cells.toList=[.pointer a]:=rfl
def Ch(a:Option Addr):(Value.pointer a).cells.size=1:=rfl
def OQ(a:Option Addr)(n c:Nat):(Value.slice a n c).cells.toList=[.slice a n c]:=rfl
def Rv(a:Option Addr)(n c:Nat):(Value.slice a n c).cells.size=1:=rfl
def fP(s:ByteArray):(Value.string s).cells.toList=[.string s]:=rfl
def Cg(s:ByteArray):(Value.string s).cells.size=1:=rfl
def Gl{a b:Value}(I:Wv a=true)(E:Wv b=true):rf (.tuple #[a,b])=true:=by simp[rf,I,E]
def kB{n:Int}:Wv (.int k n)=true:=rfl
def dr{b:Bool}:Wv (.bool b)=true:=rfl
def ky(l:List Nat):Wv (.agg (u8s l).toArray)=true:=kr l
def xg{s:ByteArray}:rf (.string s)=true:=rfl
def kA{s:ByteArray}:Wv (.string s)=true:=rfl
end
end
def cF:=Qi (Qi (Qi (Qi (Qi (Qi (Qi (@BH) (@RR)) (Qi (@Ca) (Qi (@eI) (@eJ)))) (Qi (Qi (@eL) (Qi (@eK) (@eM))) (Qi (@Cb) (Qi (@nN) (@ej))))) (Qi (Qi (Qi (@uF) (Qi (@eE) (@yq))) (Qi (@ot) (Qi (@uz) (@uy)))) (Qi (Qi (@oA) (Qi (@yw) (@uC))) (Qi (@oh) (Qi (@yx) (@yu)))))) (Qi (Qi (Qi (Qi (@om) (@fs_un)) (Qi (@uE) (Qi (@eH) (@ou)))) (Qi (Qi (@oq) (Qi (@Ot) (@o9))) (Qi (@E9) (Qi (@Lg) (@Lf))))) (Qi (Qi (Qi (@SN) (Qi (@Oo) (@SL))) (Qi (@Le) (Qi (@SO) (@eF)))) (Qi (Qi (@Oq) (Qi (@ux) (@yr))) (Qi (@eG) (Qi (@yo) (@yz))))))) (Qi (Qi (Qi (Qi (Qi (@eN) (@uD)) (Qi (@oz) (Qi (@ov) (@sQ)))) (Qi (Qi (@dL) (Qi (@mI) (@mG))) (Qi (@dJ) (Qi (@NF) (@NC))))) (Qi (Qi (Qi (@IL) (Qi (@Es) (@D6))) (Qi (@qN) (Qi (@qP) (@aU)))) (Qi (Qi (@Dh) (Qi (@ij) (@cG))) (Qi (@cH) (Qi (@cI) (@Py)))))) (Qi (Qi (Qi (Qi (@HF) (@LJ)) (Qi (@Ip) (Qi (@Im) (@Px)))) (Qi (Qi (@LG) (Qi (@Yr) (@Pw))) (Qi (@Pz) (Qi (@LH) (@qM))))) (Qi (Qi (Qi (@wK) (Qi (@ic) (@wI))) (Qi (@wJ) (Qi (@qR) (@gX)))) (Qi (Qi (@vL) (Qi (@Ir) (@qQ))) (Qi (@gY) (Qi (@pA) (@ef)))))))) (Qi (Qi (Qi (Qi (Qi (Qi (@TO) (@Sd)) (Qi (@Sb) (Qi (@Ks) (@dU)))) (Qi (Qi (@Xh) (Qi (@vJ) (@vq))) (Qi (@vC) (Qi (@vA) (@v9))))) (Qi (Qi (Qi (@vI) (Qi (@yI) (@vp))) (Qi (@aD) (Qi (@vH) (@vB)))) (Qi (Qi (@vD) (Qi (@vE) (@vF))) (Qi (@vG) (Qi (@vy) (@vt)))))) (Qi (Qi (Qi (Qi (@OX) (@pS)) (Qi (@pR) (Qi (@wM) (@wN)))) (Qi (Qi (@wL) (Qi (@aI) (@kP))) (Qi (@kQ) (Qi (@rS) (@rQ))))) (Qi (Qi (Qi (@rO) (Qi (@Si) (@Sg))) (Qi (@ed) (Qi (@n9) (@Gl)))) (Qi (Qi (@kB) (Qi (@dr) (@ky))) (Qi (@xg) (Qi (@kA) (@uv))))))) (Qi (Qi (Qi (Qi (Qi (@gd_ut) (@gd_uf)) (Qi (@Qn.{0}) (Qi (@Qp.{0}) (@List.all_nil.{0})))) (Qi (Qi (@KC.{0}) (Qi (@List.isEmpty_nil.{0}) (@Z6))) (Qi (@beq_self_eq_true.{0}) (Qi (@bne_self_eq_false.{0}) (@qt))))) (Qi (Qi (Qi (@YT) (Qi (@Bh) (@Yu))) (Qi (@false_and) (Qi (@kv) (@bo)))) (Qi (Qi (@Ho) (Qi (@kr) (@pZ))) (Qi (@aX) (Qi (@En) (@XY)))))) (Qi (Qi (Qi (Qi (@V8) (Qi (@Nat.zero_le) (@Nat.le_add_right))) (Qi (@Rw) (Qi (@Wn) (@Ic)))) (Qi (Qi (@BL) (Qi (@th) (@mV))) (Qi (@te) (Qi (@ti) (@tf))))) (Qi (Qi (Qi (@dR) (Qi (@mU) (@NM))) (Qi (@ay) (Qi (@Td) (@fQ)))) (Qi (Qi (@Ch) (Qi (@OQ) (@Rv))) (Qi (@fP) (Qi (@Cg) (@eq_self.{1}))))))))
def pF:=Qi (Qi (@FM) (@ur)) (Qi (@Qk.{0,0}) (Qi (@if_true.{1}) (@if_false.{1})))
def cL:=Qi (Qi (Qi (Qi (Qi (@Zd) (@Zx)) (Qi (@KR) (Qi (@Xo) (@Z9.{0})))) (Qi (Qi (@Zt.{0}) (@JV.{0})) (Qi (@JI.{0}) (Qi (@List.set_cons_zero.{0}) (@List.set_cons_succ.{0}))))) (Qi (Qi (Qi (@QH) (@ZM)) (Qi (@Xy) (Qi (@KA) (@Vb)))) (Qi (Qi (@Int.toNat_zero) (@Int.lt_irrefl)) (Qi (@WX) (Qi (@Qj) (@and_self)))))) (Qi (Qi (Qi (Qi (@true_and) (@and_true)) (Qi (@decide_true) (Qi (@decide_false) (@Nat.min_self)))) (Qi (Qi (@ge_iff_le.{0}) (@gt_iff_lt.{0})) (Qi (@V7.{0}) (Qi (@KH.{0}) (@Option.isNone_some.{0}))))) (Qi (Qi (Qi (@Option.isSome_some.{0}) (@Bool.and_true)) (Qi (@Em) (Qi (@Bool.and_false) (@KK)))) (Qi (Qi (@not_true_eq_false) (Qi (@not_false_eq_true) (@or_true))) (Qi (@true_or) (Qi (@false_or) (@or_false))))))
def cJ:=Qi (Qi (Qi (@hget0) (@hgetK)) (Qi (@AM) (Qi (@hsetK) (@XP)))) (Qi (Qi (@QP) (@P7)) (Qi (@List.getElem?_nil.{0}) (Qi (@Qh.{0}) (@Qx.{0}))))
def cS:=Qi (Qi (Qi (Qi (Qi (Qi (@BH) (Qi (@RR) (@Ca))) (Qi (@VH) (Qi (@RS) (@Jl)))) (Qi (Qi (@Cb) (Qi (@KX) (@Us))) (Qi (@Qk.{0,0}) (Qi (@Qn.{0}) (@Qp.{0}))))) (Qi (Qi (Qi (@List.all_nil.{0}) (Qi (@KC.{0}) (@if_true.{1}))) (Qi (@if_false.{1}) (Qi (@ite_true.{0}) (@ite_false.{0})))) (Qi (Qi (@V7.{0}) (Qi (@KH.{0}) (@Z6))) (Qi (@QH) (Qi (@Zt.{0}) (@Z9.{0})))))) (Qi (Qi (Qi (Qi (@beq_self_eq_true.{0}) (Qi (@qt) (@YT))) (Qi (@RM) (Qi (@RL) (@DF)))) (Qi (Qi (@AX) (Qi (@BD) (@UF))) (Qi (@AY) (Qi (@AW) (@DA))))) (Qi (Qi (Qi (@FU) (Qi (@RO) (@AU))) (Qi (@AZ) (Qi (@DC) (@DB)))) (Qi (Qi (@UX) (Qi (@DE) (@W9))) (Qi (Qi (@Uv) (@Uu)) (Qi (@BE) (@UU))))))) (Qi (Qi (Qi (Qi (Qi (@BC) (Qi (@Ut) (@BF))) (Qi (@Hs) (Qi (@UW) (@RK)))) (Qi (Qi (@Hu) (Qi (@RN) (@AV))) (Qi (@Ht) (Qi (@RQ) (@BG))))) (Qi (Qi (Qi (@UT) (Qi (@Of) (@nF))) (Qi (@Bh) (Qi (@and_self) (@true_and)))) (Qi (Qi (@and_true) (Qi (@Vb) (@Xy))) (Qi (@Y9) (Qi (@Ic) (@BL)))))) (Qi (Qi (Qi (Qi (@XP) (Qi (@Yu) (@false_and))) (Qi (@decide_true) (Qi (@decide_false) (@ZM)))) (Qi (Qi (@kv) (Qi (@Ho) (@aX))) (Qi (@Bool.and_true) (Qi (@Em) (@En))))) (Qi (Qi (Qi (@JV.{0}) (Qi (@JI.{0}) (@nlt1))) (Qi (@nlt2) (Qi (@nlt3) (@nlt4)))) (Qi (Qi (@Qj) (Qi (@WX) (@XY))) (Qi (Qi (@V8) (@KA)) (Qi (@Rw) (@Wn)))))))
def ev{α:Type}{x y:Option α}:B9 (.bool true) true x y=x:=Eq.trans rfl rfl
def eD{α:Type}{x y:Option α}:B9 (.bool false) false x y=x:=Eq.trans rfl rfl
def eB{α:Type}{x y:Option α}:B9 (.bool true) false x y=y:=Eq.trans rfl rfl
def eC{α:Type}{x y:Option α}:B9 (.bool false) true x y=y:=Eq.trans rfl rfl
def SC{t:Nat}{v:Value}{l:Env}:wy t (some v) l=(t,v)::l:=Eq.trans rfl rfl
def Nt{α:Type}{v:α}{y:Option α}:RB (some v) y=some v:=Eq.trans rfl rfl
def pQ:=Qi pF (Qi (@SC) (Qi (@Nt) (Qi (@ev) (Qi (@eD) (Qi (@eB) (@eC))))))
end Go.Ev
namespace Go.Ev
open Go.RowKit Go.WideShapes Go.ChangeShapes
section
variable{P:Program}{T:Tab}
section
variable{w:World}{l:List Nat}{v:Value}{a:Addr}{t e:TypeId}{pl:Place}
def fU(hm:P.follows .mixedOrders=true)(hT:TabOk P T){f:Nat}{args args':List Value}{H H':List Ob}{M:List Nat}(h:Zp T f args H=some (v,H',M))(hn:T.fn f≠none)(hv:rf v=true){ρ:Pl}(hl:LRel ρ args args')
 (hrel:RelF ρ (hp H) w) (hfree:∀id,H.length<=id->ρ id=none) (hown:∀(i:Nat) (o:Ob),H[i]?=some o->o.own=false) :
    Calls P f args'.toArray w fun e w'=>e=.returned v/\Below w.heap.size w w':=by
  have h1:=(sound hm hT f args H _ h).1
  have h2:=h1 ρ args' w hl hrel (fun id h _=>hfree id h) { (default:Oper)with dst:=some 0 } { tmps := #[undef],defers:=[] }
    (fun a w'=>∃v',a.tmps=#[v']/\v'=v/\Below w.heap.size w w') (fun _ _ _=>False) fun v' w' ρ' hp=>⟨v',by simp[Act.put],hp.val.of_rf hv,⟨hp.frm.os,hp.frm.tape,hp.frm.output,hp.frm.size,fun k hk=>hp.frm.blocks k hk fun id ob pl hc _ _ ho=>by rw[hown id ob hc]at ho;cases ho⟩⟩
  obtain⟨af,haf⟩:=Option.ne_none_iff_exists'.1 hn
  obtain⟨pf,g1,g2,g3⟩:=hT.fn f af haf
  obtain⟨code,g4,g5,g6⟩:=BJ g2
  have hcf:(callFunc f args'.toArray).run P w=.ok (.enter f args'.toArray) w:=by
    have g3' : ¬ (pf.name = "runtime.NumGoroutine") := by simpa using g3
    simp[callFunc,g1,g3',g4]
  rw[hcf,Oper.upon_enter]at h2
  refine h2.mono fun e w' he =>?_
  cases e with
  |returned v1 =>
    obtain⟨v',k1,k2,k3⟩:=he
    have:v1=v':=by simpa [Act.put]using k1
    exact⟨by rw[this,k2],k3⟩
  |panicked c=>exact he.elim
  |outgrown=>obtain⟨_,_,hx⟩:=he;exact hx.elim
structure Lies8(w:World)(a:Addr)(len cap:Nat)(l:List Nat):Prop where
 spot:a.spot=none
 at_:∃cs e fr,w.heap[a.block]?=some (.cells cs e fr)/\(cap=0\/a.off+cap<=cs.size)/\∀(i x:Nat),l[i]?=some x->cs[a.off+i]?=some (.int .u8 (x:Nat))
 le:len<=cap
 max:cap<=maxLen
 len:l.length=len
 lt:∀x∈l,x<256
def Hw{base:Nat}{cs:List Value}(h:w.cells? base a 1=some cs):∃v,cs=[v]/\w.cell? a=some v:=by
 obtain⟨_,hlen1,JP⟩:=World.cells?_some h
 obtain⟨v,rfl⟩:∃v,cs=[v]:=by
  match cs,hlen1 with
  |[v],_=>exact⟨v,rfl⟩
 refine⟨v,rfl,?_⟩
 have E:=JP 0 qr
 simpa [Addr.add]using E
def mD{w:World}{r:Reach}{b0:Nat}{H:Type}{enc:TypeId×Value->H}{d:DataW H}{ps:List MemPlace}(ht:P.underlying t=some (.slice e))(he:P.underlying e=some (.int .u8))(hc:P.cellsOf e=1)
 (O:Value.okWide P w r b0 t v) (hd:DataW.Trod enc P w 0 (fun _=>true) true t v d ps) :
    v=.slice none 0 0\/∃a len cap l,v=.slice (some a) len cap/\Lies8 w a len cap l:=by
  obtain⟨a0,I,E,rfl⟩:=okWide_slice ht O
  obtain⟨fuel,hf⟩:=hd
  rcases DataW.trod_slice ht hf with⟨h1,h2⟩|⟨a,len,cap,elems,rest,n,_,h1,h2,h3,h4,h5,h6,h7,h8,h9⟩
  · left
    simpa [Value.cells]using h1
  · right
    simp only[Value.cells,U1,Value.slice.injEq,and_true]at h1
    obtain⟨rfl,rfl,rfl⟩:=h1
    simp only[Value.okWide,ht,Cell.okWide,Cell.ok]at O
    obtain⟨_,_,_,hsp,row,cells,hsh,_⟩:=O
    simp only[World.shape?]at hsh
    cases hb:w.heap[a.block]? with
    |none=>rw[hb]at hsh;cases hsh
    |some ob =>
      rw[hb]at hsh
      cases ob with
      |cells cs el fr =>
        have JP:∀i,w.cell? (a.add i)=cs[a.off+i]? := fun i=>by
          have h1:(a.add i)=⟨a.block,a.off+i,none⟩:=by
            obtain⟨ab,ao,asp⟩:=a
            simp only at hsp
            subst hsp
            exact Y9 _ _ _
          rw[h1]
          simp[World.cell?,hb]
        have hel:∀i,i<I->∃x:Nat,cs[a.off+i]?=some (.int .u8 (x:Nat))/\x<256:=fun i hi=>by
          have J:=h7 i hi
          rw[hc,Xy]at J
          obtain⟨y,Y⟩:∃y,elems[i]?=some y:=⟨_,Qg qr⟩
          rw[Y,Qe]at J
          obtain⟨c1,hc1,hof⟩:=J
          obtain⟨v1,rfl,U⟩:=Hw hc1
          obtain⟨m,hm,_,hw⟩:=DataW.trod_int he hof
          simp only[U1,and_true]at hm
          subst hm
          rw[JP]at U
          simp only[Lit.wf,decide_eq_true_eq,Jd]at hw
          have hw1:(0:Int)<=m:=hw.1
          have hw2:m<=255:=hw.2
          exact⟨m.toNat,by rw[U,Ef hw1],by omega⟩
        have hcap:E=0\/a.off+E<=cs.size:=by
          rcases ZP E with h0|h0
          · exact .inl h0
          · right
            rcases ZA I E with hlt|hge
            · obtain⟨hr1,hr2⟩:=h8 rfl
              have J:=hr2 (E-I-1) qr
              rw[hc,Xy]at J
              obtain⟨y,Y⟩:∃y,rest[E-I-1]?=some y:=⟨_,Qg qr⟩
              rw[Y,Qe]at J
              obtain⟨c1,hc1,hof⟩:=J
              obtain⟨v1,rfl,U⟩:=Hw hc1
              rw[JP]at U
              have:=(XT.1 U).1
              omega
            · obtain⟨x,Z,_⟩:=hel (E-1) qr
              have:=(XT.1 Z).1
              omega
        refine⟨a,I,E,(List.range I).map fun i=>match cs[a.off+i]? with|some (.int _ m)=>m.toNat|_=>0,rfl,hsp,⟨cs,el,fr,hb,hcap,fun i x Z =>?_⟩,h4,h5,by simp,fun x Z =>?_⟩
        · simp only[J5,QI]at Z
          obtain⟨j,hj,rfl⟩:=Z
          have hj2:=Qf.1 hj
          obtain⟨hj3,hj4⟩:=hj2
          simp only[List.length_range]at hj3
          rw[List.getElem_range]at hj4
          subst hj4
          obtain⟨y,Y,_⟩:=hel i hj3
          rw[Y]
          simp
        · simp only[JN,List.mem_range]at Z
          obtain⟨j,hj,rfl⟩:=Z
          obtain⟨y,Y,hy2⟩:=hel j hj
          rw[Y]
          simpa using hy2
      |_=>cases hsh
def iE{H:Type}{enc:TypeId×Value->H}{d:DataW H}{ps:List MemPlace}{U:List TypeId}{ds:List (DataW H)}(hw:(DataW.weightsEach P U ds).all (· <= reachBytes)=true){j:Nat}(I:U[j]?=some t)(J:ds[j]?=some d)
 (ht:P.underlying t=some (.slice e)) (hb:P.bytesOf e=1) (hd:DataW.Trod enc P w 0 (fun _=>true) true t v d ps) {len cap:Nat} (hv:v=.slice (some a) len cap):len<=2^47-4096:=by
  subst hv
  obtain⟨fuel,Z⟩:=hd
  rcases DataW.trod_slice ht Z with⟨E,O⟩|⟨a',Y,cap',elems,rest,n,_,E,O,h3,h4,h5,h6,h7,h8,h9⟩
  · simp[Value.cells]at E
  · simp only[Value.cells,U1,Value.slice.injEq,and_true]at E
    obtain⟨_,rfl,_⟩:=E
    simp only[Prod.mk.injEq]at O
    obtain⟨rfl,-⟩:=O
    have:=sized_slice hw I J ht
    rw[hb,List.length_map,h6]at this
    have e1:reachBytes=2^47-4096:=ww
    omega
def ob8(l:List Nat):Ob:=⟨u8s l,true,false,false,1⟩
def nG{len cap:Nat}(h:Lies8 w a len cap l):∃pl:Place,pl.block=a.block/\pl.block<w.heap.size/\(∀ρ,ObjRel ρ w pl (ob8 l)) /\
  ∀(ρ:Pl) (id:Nat),ρ id=some pl->VRel ρ (.slice id len len) (.slice (some a) len cap):=by
 obtain⟨cs,e,fr,O,E,h3⟩:=h.at_
 have hlt:a.block<w.heap.size:=(XT.1 O).1
 have hle:=h.le
 have Z:=h.len
 rcases ZP cap with U|U
 ·subst U
  have J:l=[]:=List.eq_nil_of_length_eq_zero qr
  have hlen0:len=0:=qr
  subst J hlen0
  refine⟨⟨a.block,0,cs.size,1,.foreign⟩,rfl,hlt,fun ρ=>⟨rfl,rfl,cs,e,fr,O,rfl,by simp[ob8,u8s],fun i v hv=>by simp[ob8,u8s]at hv,fun I=>by simp[ob8]at I⟩,fun ρ id hρ =>?_⟩
  exact .slice hρ rfl (.inl h.spot) (.inl rfl) (.inr rfl) (Qj _) (Qj _) trivial
 ·have h4:a.off+cap<=cs.size:=by
   rcases E with E|E
   ·omega
   ·exact E
  refine⟨⟨a.block,a.off,cs.size,1,.foreign⟩,rfl,hlt,fun ρ=>⟨rfl,rfl,cs,e,fr,O,rfl,by simp only[ob8,Qq];omega,fun i v hv =>?_,fun I=>by simp[ob8]at I⟩,fun ρ id hρ =>?_⟩
  ·simp only[ob8,u8s,J5,QI]at hv
   obtain⟨x,Y,rfl⟩:=hv
   exact⟨rfl,_,h3 i x Y,.same rfl⟩
  ·exact .slice hρ rfl (.inl h.spot) (.inl rfl) (.inl rfl) (Qj _) h.le trivial
def pl1(pl:Place):Pl:=fun id=>if id=0 then some pl else none
def rU(h1:pl.block<w.heap.size)(Z:∀ρ,ObjRel ρ w pl (ob8 l)):RelF (pl1 pl) (hp [ob8 l]) w:=by
 refine⟨fun id p h =>?_,fun id ob p h k Y =>?_,fun i j oi oj pi pj hi hj I E Y J U O =>?_⟩
 ·unfold pl1 at h
  split at h
  ·cases h;exact h1
  ·cases h
 ·unfold pl1 at k
  split at k
  ·rename_i h0
   subst h0
   cases k
   simp[hp]at h
   subst h
   exact Z _
  ·cases k
 ·rcases i with _|i
  ·simp[hp]at hi
   subst hi
   cases J
  ·simp[hp]at hi
def sM:∀(i:Nat) (o:Ob),([ob8 l]:List Ob)[i]?=some o->o.own=false:=by
 intro i o h
 rcases i with _|i
 ·simp at h;subst h;rfl
 ·simp at h
def oF:∀id,([ob8 l]:List Ob).length<=id->pl1 pl id=none:=by
 intro id h
 have:¬id=0:=by simp at h;omega
 simp[pl1,this]
end
end
end Go.Ev
namespace Go.Ev
abbrev RT:=Nat->Value->List Value
abbrev QT:=Nat->Bool->List Bool
section
variable(R:RT)(Q:QT)(zs:List (Nat×List Value))
def vT(n:Nat)(d:List Value):List (Nat×List Value)->List Value
 |[]=>d
 |(m,z)::r=>bif m==n then z else vT n d r
def qu(v:Value):List Value->Bool
 |[]=>true
 |.int k n::r=>(match v with | .int j m=>(j==k&&m==n)|_=>false)&&qu v r
 |.bool b::r=>(match v with | .bool c=>b==c|_=>false)&&qu v r
 |.slice none 0 0::r=>(match v with | .slice none 0 0=>true|_=>false)&&qu v r
 |_=>false
def gC:List Value->List Value
 |[]=>[]
 |v::r=>bif 3<r.length&&qu v r then R (r.length+1) v else vT (r.length+1) (v::r) zs
def qRow:List Bool->List Bool
 |[]=>[]
 |v::r=>bif 3<r.length&&r.all (· == v)then Q (r.length+1) v else v::r
def gOp:AOp->AOp
 |.alloc z=>.alloc (gC R zs z)
 |.build z l=>.build (gC R zs z) l
 |.buildSlice z n l=>.buildSlice (gC R zs z) n l
 |.makeSlice z b l c=>.makeSlice (gC R zs z) b l c
 |.clear z x=>.clear (gC R zs z) x
 |.eqv (some ks) b x y=>.eqv (some (qRow Q ks)) b x y
 |o=>o
def gOps:List AOper->List AOper
 |[]=>[]
 |⟨d,o,g⟩::r=>⟨d,gOp R Q zs o,g⟩::gOps r
def FN:ACode->List (List Nat)->List ACode->ACode×List (List Nat)×List ACode
 |.region l _ p,k::ks,ls=>(.region (gOps R Q zs l) (some k) p,ks,ls)
 |.seq a b,ks,ls=>match FN a ks ls with
  |(a,ks,ls)=>match FN b ks ls with
   |(b,ks)=>(.seq a b,ks)
 |.cond c a b,ks,ls=>match FN a ks ls with
  |(a,ks,ls)=>match FN b ks ls with
   |(b,ks)=>(.cond c a b,ks)
 |.block i a,ks,ls=>match FN a ks ls with
  |(a,ks)=>(.block i a,ks)
 |.loop _,ks,l::ls=>(.loop l,ks,ls)
 |c,ks,ls=>(c,ks,ls)
def XH:List (Option AFun×List (List Nat)×List ACode)->List AFun
 |[]=>[]
 |(some f,ks,ls)::r=>⟨(FN R Q zs f.body ks ls).1,f.results⟩::XH r
 |(none,_)::r=>XH r
end
def Jz:List AFun->Nat->AFun
 |f::_,0=>f
 |_::r,n+1=>Jz r n
 |[],_=>⟨.skip,[]⟩
end Go.Ev
set_option maxRecDepth 100000
namespace Go.Ev.YtkbifkljlfmeiaaGreat
open Go Go.Ev
set_option maxRecDepth 100000
section
def T9:List Value:=Qc 32 (.int .u8 0)++([.int .u32 0,.int .u32 0]++Qc 32 (.int .u8 0))
def K0:List Value:=Qc 32 (.int .u8 0)++([.int .u32 0,.int .u32 0]++Qc 64 (.int .u8 0))
def XG:List Value:=Qc 32 (.int .u8 0)++([.int .u32 0,.int .u32 0]++(Qc 64 (.int .u8 0)++[.slice none 0 0]))
def TA:List Value := .int .u32 0::Qc 32 (.int .u8 0)
def Xs:List Value:=[.int .i64 0,.slice none 0 0,.slice none 0 0,.slice none 0 0,.slice none 0 0]
def zMac:List Value := .pointer none::Qc 64 (.int .u8 0)
abbrev jt(n:Nat):Operand := .tmp n
abbrev ji(n:Int):Operand := .const (.int .i64 n)
abbrev jo(n:Nat)(o:AOp):AOper:=AOper.mk (some n) o none
abbrev jq(o:AOp):AOper:=AOper.mk none o none
abbrev jr(l:List AOper)(k:List Nat):ACode := .region l (some k) []
abbrev js(l:List AOper)(k:List Nat)(c:ACode):ACode := .seq (.region l (some k) []) c
abbrev jx(n m:Nat):ACode := .cond (.tmp n) .skip (.exit m)
abbrev jM(n m:Nat):AOper:=AOper.mk (some n) (.move (.tmp m)) none
abbrev jI(n:Nat)(v:Int):AOper:=AOper.mk (some n) (.move (.const (.int .i64 v))) none
abbrev jL(n k m:Nat):AOper:=AOper.mk (some n) (.load (some k) (.tmp m)) none
abbrev jE(n m:Nat):AOper:=AOper.mk (some n) (.load none (.tmp m)) none
abbrev jS(k a b:Nat):AOper:=AOper.mk none (.store k (.tmp a) (.tmp b)) none
abbrev jF(n k m:Nat):AOper:=AOper.mk (some n) (.fieldAddr k (.tmp m)) none
abbrev jZ(n k:Nat)(i:IntKind):AOper:=AOper.mk (some n) (.alloc (Qc k (.int i 0))) none
abbrev jB(n m:Nat):AOper:=AOper.mk (some n) (.box (.tmp m)) none
abbrev jN(n m:Nat):AOper:=AOper.mk (some n) (.nilCheck (.tmp m)) none
abbrev jO(n:Nat)(o:BinOp)(a b:Nat):AOper:=AOper.mk (some n) (.bin o (.tmp a) (.tmp b)) none
abbrev jP(n:Nat)(o:BinOp)(a:Nat)(v:Int):AOper:=AOper.mk (some n) (.bin o (.tmp a) (.const (.int .i64 v))) none
abbrev jQ(n:Nat)(o:BinOp)(a:Nat)(i:IntKind)(v:Int):AOper:=AOper.mk (some n) (.bin o (.tmp a) (.const (.int i v))) none
abbrev jX(n m i:Nat):AOper:=AOper.mk (some n) (.extract (.tmp m) i) none
abbrev jC(n f a:Nat):AOper:=AOper.mk (some n) (.call f [.tmp a] true) none
abbrev jD(n f a b:Nat):AOper:=AOper.mk (some n) (.call f [.tmp a,.tmp b] true) none
abbrev jG(n f a b c:Nat):AOper:=AOper.mk (some n) (.call f [.tmp a,.tmp b,.tmp c] true) none
abbrev jc(n f a:Nat):AOper:=AOper.mk (some n) (.call f [.tmp a] false) none
abbrev jd(n f a b:Nat):AOper:=AOper.mk (some n) (.call f [.tmp a,.tmp b] false) none
abbrev jA(n l e m:Nat)(v:Int):AOper:=AOper.mk (some n) (.indexAddr l e (.tmp m) (.const (.int .i64 v))) none
abbrev jH(n l e m i:Nat):AOper:=AOper.mk (some n) (.indexAddr l e (.tmp m) (.tmp i)) none
abbrev jJ(n e m i:Nat):AOper:=AOper.mk (some n) (.indexSl e (.tmp m) (.tmp i)) none
abbrev jV(n:Nat)(k:IntKind)(m:Nat):AOper:=AOper.mk (some n) (.conv k (.tmp m)) none
abbrev jY(n m:Nat):AOper:=AOper.mk (some n) (.len false (.tmp m)) none
abbrev jp(o n t:Nat):Nat×Nat×Operand:=(o,n,.tmp t)
abbrev jg(o:Nat)(k:IntKind)(v:Int):Nat×Nat×Operand:=(o,1,.const (.int k v))
abbrev jz(n:Nat):List Value:=Qc n (.int .u8 0)
abbrev jb(n:Nat)(l:List (Nat×Nat×Operand))(m:Nat):AOper:=AOper.mk (some n) (.build (Qc m (.int .u8 0)) l) none
abbrev jh(n a e t m:Nat):AOper:=AOper.mk (some n) (.append a e (.tmp t) (.tmp m)) none
abbrev jK(n:Nat)(c:ACode):ACode := .block n (.loop c)
abbrev jT(n:Nat)(b:Bool):AOper:=AOper.mk (some n) (.move (.const (.bool b))) none
abbrev jU(n m:Nat):AOper:=AOper.mk (some n) (.un .not (.tmp m)) none
abbrev je(n m:Nat)(b:Bool)(x y:Nat):AOper:=AOper.mk (some n) (.eqv (some (Qc m true)) b (.tmp x) (.tmp y)) none
abbrev jf(n a:Nat):AOper:=AOper.mk (some n) (.call a [] true) none
abbrev ju(n f a b c d:Nat):AOper:=AOper.mk (some n) (.call f [.tmp a,.tmp b,.tmp c,.tmp d] true) none
abbrev jw(n c a b:Nat):AOper:=AOper.mk (some n) (.pick (.tmp c) (.tmp a) (.tmp b)) none
abbrev jn(n:Nat):AOper:=AOper.mk (some n) (.move (.const (.slice none 0 0))) none
abbrev jk(n:Nat)(k:IntKind)(v:Int):AOper:=AOper.mk (some n) (.move (.const (.int k v))) none
abbrev jv(n f:Nat)(k:IntKind)(v:Int):AOper:=AOper.mk (some n) (.call f [.const (.int k v)] true) none
abbrev ja(l:List AOper)(k:List Nat):ACode := .seq (.region l (some k) []) .ret
abbrev jl(n:Nat)(l:List AOper)(k:List Nat):ACode := .cond (.tmp n) (.seq (.region l (some k) []) .ret) .skip
abbrev jm(n k m:Nat)(l:List (Nat×Nat×Operand)):AOper:=AOper.mk (some n) (.buildSlice (Qc k (.int .u8 0)) m l) none
abbrev jy(n e m:Nat)(v:Int):AOper:=AOper.mk (some n) (.indexSl e (.tmp m) (.const (.int .i64 v))) none
abbrev jW(n a e m:Nat):AOper:=AOper.mk (some n) (.sliceArr a e (.tmp m) none none none) none
def CV:ACode:=(js [jO 9 .lss 8 7] [2,3,6,7,8,9] (.seq (jx 9 0) (.seq (.block 1 (js [jJ 10 1 6 8,jE 11 10,jM 5 11] [2,3,5,6,7,8] (jr [jM 12 3,jM 13 5,jh 14 1 1 12 13,jM 3 14] [2,3,6,7,8]))) (jr [jP 15 .add 8 1,jM 8 15] [2,3,6,7,8]))))
def CU:ACode:=(.seq (js [jM 8 4,jM 9 0,jo 10 (.len true (jt 9)),jO 11 .lss 8 10] [0,2,3,4,11] (jx 11 0)) (.seq (.block 1 (jr [jM 14 3,jM 15 4,jM 16 0,jM 17 4,jo 18 (.indexStr (jt 16) (jt 17)),jV 19 .i64 18,jJ 20 1 14 15,jS 1 20 19] [0,2,3,4])) (jr [jM 12 4,jP 13 .add 12 1,jM 4 13] [0,2,3,4])))
def CS:ACode:=(.seq (js [jM 6 4,jP 7 .lss 6 32] [1,3,4,7] (jx 7 0)) (.seq (.block 1 (jr [jM 10 3,jM 11 4,jM 12 4,jH 13 32 1 1 12,jE 14 13,jV 15 .i64 14,jJ 16 1 10 11,jS 1 16 15] [1,3,4])) (jr [jM 8 4,jP 9 .add 8 1,jM 4 9] [1,3,4])))
def L4:ACode:=(.seq (js [jM 3 1,jY 4 3,jP 5 .lss 4 31] [1,5] (jx 5 0)) (.block 1 (jr [jM 6 1,jo 7 (.buildSlice [(.int .i64 0)] 1 [jg 0 .i64 0]),jh 8 1 8 6 7,jM 1 8] [1])))
def R2:ACode:=(.seq (js [jM 10 7,jP 11 .geq 10 0] [2,3,4,5,6,7,11] (jx 11 0)) (.seq (.block 1 (js [jL 14 20 5,jC 15 88 14,jS 20 5 15] [2,3,4,5,6,7] (js [jM 16 7,jP 17 .quo 16 8,jH 18 32 1 3 17,jE 19 18,jM 20 7,jP 21 .rem 20 8,jO 22 .shr 19 21,jQ 23 .and 22 .u8 1,jQ 24 .eql 23 .u8 1] [2,3,4,5,6,7,24] (.cond (jt 24) (jr [jL 25 20 5,jL 26 20 2,jL 27 5 6,jG 28 95 25 26 27,jS 20 5 28] [2,3,4,5,6,7]) .skip)))) (jr [jM 12 7,jP 13 .sub 12 1,jM 7 13] [2,3,4,5,6,7])))
def CR:ACode:=(js [jO 12 .lss 11 10] [2,3,4,9,10,11,12] (.seq (jx 12 0) (.seq (.block 1 (js [jJ 13 20 9 11,jL 14 20 13,jZ 6 20 .u64,jS 20 6 14] [2,3,4,6,9,10,11] (jr [jL 15 20 3,jL 16 20 6,jL 17 5 4,jG 18 95 15 16 17,jS 20 3 18] [2,3,4,9,10,11]))) (jr [jP 19 .add 11 1,jM 11 19] [2,3,4,9,10,11]))))
def CP:ACode:=(.seq (js [jM 21 9,jM 22 7,jP 23 .rem 22 8,jO 24 .lss 21 23] [2,3,4,5,6,7,8,9,24] (jx 24 2)) (.seq (.block 3 (jr [jM 27 8,jP 28 .quo 27 2,jM 8 28] [2,3,4,5,6,7,8,9])) (jr [jM 25 9,jP 26 .add 25 1,jM 9 26] [2,3,4,5,6,7,8,9])))
def R0:ACode:=(.seq (js [jM 12 7,jP 13 .lss 12 256] [2,3,4,5,6,7,13] (jx 13 0)) (.seq (.block 1 (js [jM 16 7,jP 17 .quo 16 8,jH 18 32 1 2 17,jE 19 18,jV 20 .i64 19,jM 8 20] [2,3,4,5,6,7,8] (.seq (js [jI 9 0] [2,3,4,5,6,7,8,9] (jK 2 CP)) (.seq (js [jM 29 8,jP 30 .rem 29 2,jP 31 .eql 30 1] [2,3,4,5,6,7,31] (.cond (jt 31) (jr [jL 32 48 5,jL 33 48 3,jL 34 16 6,jG 35 53 32 33 34,jS 48 5 35] [2,3,4,5,6,7]) .skip)) (jr [jL 36 48 3,jL 37 48 3,jL 38 16 6,jG 39 53 36 37 38,jS 48 3 39] [2,3,4,5,6,7]))))) (jr [jM 14 7,jP 15 .add 14 1,jM 7 15] [2,3,4,5,6,7])))
def Df:ACode:=(js [jO 14 .lss 13 12] [3,11,12,13,14] (.seq (jx 14 0) (.seq (.block 1 (js [jM 15 13,jJ 16 1 11 13,jE 17 16,jM 4 15,jM 5 17] [3,4,5,11,12,13] (jr [jM 18 3,jM 19 4,jP 20 .quo 19 4,jJ 21 1 18 20,jE 22 21,jM 23 5,jV 24 .u32 23,jM 25 4,jP 26 .rem 25 4,jo 27 (.bin .mul (ji 8) (jt 26)),jO 28 .shl 24 27,jO 29 .or 22 28,jJ 30 1 18 20,jS 1 30 29] [3,11,12,13]))) (jr [jP 31 .add 13 1,jM 13 31] [3,11,12,13]))))
def Ws:ACode:=(js [jO 55 .lss 54 53] [0,3,4,5,6,9,53,54,55] (.seq (jx 55 4) (.seq (.block 5 (js [jM 56 54,jM 10 56] [0,3,4,5,6,9,10,53,54] (jr [jM 58 5,jM 59 10,jM 60 3,jM 61 10,jJ 62 1 60 61,jE 63 62,jM 64 4,jM 65 10,jJ 66 1 64 65,jE 67 66,jM 68 9,jG 69 144 63 67 68,jM 57 69,jX 70 57 0,jX 71 57 1,jJ 72 1 58 59,jS 1 72 70,jM 9 71] [0,3,4,5,6,9,53,54]))) (jr [jP 73 .add 54 1,jM 54 73] [0,3,4,5,6,9,53,54]))))
def Wq:ACode:=(js [jO 34 .lss 33 32] [0,3,4,5,6,7,32,33,34] (.seq (jx 34 2) (.seq (.block 3 (js [jM 35 33,jM 8 35] [0,3,4,5,6,7,8,32,33] (jr [jM 36 3,jM 37 8,jM 38 3,jM 39 8,jJ 40 1 38 39,jE 41 40,jQ 42 .shl 41 .u64 1,jM 43 7,jO 44 .or 42 43,jM 45 3,jM 46 8,jJ 47 1 45 46,jE 48 47,jQ 49 .shr 48 .u64 31,jJ 50 1 36 37,jS 1 50 44,jM 7 49] [0,3,4,5,6,7,32,33]))) (jr [jP 51 .add 33 1,jM 33 51] [0,3,4,5,6,7,32,33]))))
def VQ:ACode:=(.seq (js [jM 18 6,jP 19 .geq 18 0] [0,3,4,5,6,19] (jx 19 0)) (.seq (.block 1 (js [jM 22 0,jM 23 6,jP 24 .quo 23 32,jJ 25 1 22 24,jE 26 25,jM 27 6,jP 28 .rem 27 32,jO 29 .shr 26 28,jQ 30 .and 29 .u32 1,jM 7 30] [0,3,4,5,6,7] (.seq (js [jM 31 3,jY 32 31,jI 33 0] [0,3,4,5,6,7,32,33] (jK 2 Wq)) (js [jk 9 .u32 0] [0,3,4,5,6,9] (.seq (js [jM 52 3,jY 53 52,jI 54 0] [0,3,4,5,6,9,53,54] (jK 4 Ws)) (js [jM 74 9,jQ 75 .eql 74 .u32 0] [0,3,4,5,6,75] (.cond (jt 75) (jr [jM 76 5,jM 77 3,jM 3 76,jM 5 77] [0,3,4,5,6]) .skip))))))) (jr [jM 20 6,jP 21 .sub 20 1,jM 6 21] [0,3,4,5,6])))
def CO:ACode:=(js [jP 6 .lss 5 32] [0,2,3,5,6] (.seq (jx 6 0) (.seq (.block 1 (js [jM 7 5,jM 4 7] [0,2,3,4,5] (jr [jM 8 4,jM 9 0,jM 10 4,jP 11 .quo 10 4,jJ 12 1 9 11,jE 13 12,jM 14 4,jP 15 .rem 14 4,jo 16 (.bin .mul (ji 8) (jt 15)),jO 17 .shr 13 16,jV 18 .u8 17,jH 19 32 1 3 8,jS 1 19 18] [0,2,3,5]))) (jr [jP 20 .add 5 1,jM 5 20] [0,2,3,5]))))
def CN:ACode:=(.seq (js [jM 85 12,jP 86 .lss 85 32] [2,3,11,12,86] (jx 86 10)) (.seq (.block 11 (jr [jM 89 12,jM 90 3,jM 91 12,jJ 92 1 90 91,jE 93 92,jV 94 .u8 93,jH 95 32 1 11 89,jS 1 95 94] [2,3,11,12])) (jr [jM 87 12,jP 88 .add 87 1,jM 12 88] [2,3,11,12])))
def Lz:ACode:=(.seq (js [jM 74 10,jP 75 .lss 74 0] [0,2,3,4,5,7,8,9,10,75] (jx 75 8)) (.block 9 (js [jM 76 10,jP 77 .add 76 256,jM 10 77] [0,2,3,4,5,7,8,9,10] (jr [jM 78 8,jP 79 .add 78 1,jM 8 79] [0,2,3,4,5,7,8,9,10]))))
def De:ACode:=(.seq (js [jM 57 9,jP 58 .lss 57 33] [0,2,3,4,5,7,8,9,58] (jx 58 6)) (.seq (.block 7 (js [jM 61 3,jM 62 9,jJ 63 1 61 62,jE 64 63,jM 65 7,jM 66 4,jM 67 9,jJ 68 1 66 67,jE 69 68,jO 70 .mul 65 69,jO 71 .sub 64 70,jM 72 8,jO 73 .sub 71 72,jM 10 73] [0,2,3,4,5,7,9,10] (js [jI 8 0] [0,2,3,4,5,7,8,9,10] (.seq (jK 8 Lz) (jr [jM 80 3,jM 81 9,jM 82 10,jJ 83 1 80 81,jS 1 83 82] [0,2,3,4,5,7,8,9]))))) (jr [jM 59 9,jP 60 .add 59 1,jM 9 60] [0,2,3,4,5,7,8,9])))
def Dd:ACode:=(.seq (js [jM 42 3,jM 43 4,jd 44 109 42 43,jU 45 44] [0,2,3,4,5,45] (jx 45 4)) (.block 5 (js [jM 46 3,jy 47 1 46 32,jE 48 47,jP 49 .mul 48 256,jM 50 3,jy 51 1 50 31,jE 52 51,jO 53 .add 49 52,jP 54 .quo 53 17,jM 7 54] [0,2,3,4,5,7] (.seq (js [jM 55 7,jP 56 .lss 55 1] [0,2,3,4,5,7,56] (.cond (jt 56) (jr [jI 7 1] [0,2,3,4,5,7]) .skip)) (js [jI 8 0] [0,2,3,4,5,7,8] (js [jI 9 0] [0,2,3,4,5,7,8,9] (jK 6 De)))))))
def CM:ACode:=(.seq (js [jM 24 6,jP 25 .gtr 24 0] [0,2,3,4,5,6,25] (jx 25 2)) (.seq (.block 3 (jr [jM 28 3,jM 29 6,jM 30 3,jM 31 6,jP 32 .sub 31 1,jJ 33 1 30 32,jE 34 33,jJ 35 1 28 29,jS 1 35 34] [0,2,3,4,5,6])) (jr [jM 26 6,jP 27 .sub 26 1,jM 6 27] [0,2,3,4,5,6])))
def CL:ACode:=(.seq (js [jM 20 5,jP 21 .geq 20 0] [0,2,3,4,5,21] (jx 21 0)) (.seq (.block 1 (.seq (js [jI 6 32] [0,2,3,4,5,6] (jK 2 CM)) (js [jM 36 3,jM 37 0,jM 38 5,jJ 39 1 37 38,jE 40 39,jy 41 1 36 0,jS 1 41 40] [0,2,3,4,5] (jK 4 Dd)))) (jr [jM 22 5,jP 23 .sub 22 1,jM 5 23] [0,2,3,4,5])))
def CK:ACode:=(js [jO 27 .lss 26 25] [1,5,6,7,8,17,18,19,24,25,26,27] (.seq (jx 27 2) (.seq (.block 3 (js [jM 28 26,jJ 29 1 24 26,jE 30 29,jM 9 28,jM 10 30] [1,5,6,7,8,9,10,17,18,19,24,25,26] (js [jM 31 8,jM 32 5,jM 33 6,jM 34 9,jO 35 .add 33 34,jJ 36 1 32 35,jE 37 36,jV 38 .u64 37,jM 39 7,jV 40 .u64 39,jM 41 10,jV 42 .u64 41,jO 43 .mul 40 42,jO 44 .add 38 43,jO 45 .add 31 44,jM 8 45] [1,5,6,7,8,9,17,18,19,24,25,26] (js [jM 46 5,jM 47 6,jM 48 9,jO 49 .add 47 48,jM 50 8,jV 51 .u32 50,jJ 52 1 46 49,jS 1 52 51] [1,5,6,7,8,17,18,19,24,25,26] (jr [jM 53 8,jQ 54 .shr 53 .u64 32,jM 8 54] [1,5,6,7,8,17,18,19,24,25,26]))))) (jr [jP 55 .add 26 1,jM 26 55] [1,5,6,7,8,17,18,19,24,25,26]))))
def CJ:ACode:=(js [jO 20 .lss 19 18] [1,5,17,18,19,20] (.seq (jx 20 0) (.seq (.block 1 (js [jM 21 19,jJ 22 1 17 19,jE 23 22,jM 6 21,jM 7 23] [1,5,6,7,17,18,19] (js [jk 8 .u64 0] [1,5,6,7,8,17,18,19] (.seq (js [jM 24 1,jY 25 24,jI 26 0] [1,5,6,7,8,17,18,19,24,25,26] (jK 2 CK)) (jr [jM 56 5,jM 57 6,jM 58 1,jY 59 58,jO 60 .add 57 59,jM 61 8,jV 62 .u32 61,jJ 63 1 56 60,jS 1 63 62] [1,5,17,18,19]))))) (jr [jP 64 .add 19 1,jM 19 64] [1,5,17,18,19]))))
def BT:ACode:=(js [jO 21 .lss 20 19] [1,5,6,19,20,21] (.seq (jx 21 0) (.seq (.block 1 (js [jM 22 20,jM 7 22] [1,5,6,7,19,20] (js [jk 8 .u32 0] [1,5,6,7,8,19,20] (.seq (js [jM 23 7,jM 24 1,jY 25 24,jO 26 .lss 23 25] [1,5,6,7,8,19,20,26] (.cond (jt 26) (jr [jM 27 1,jM 28 7,jJ 29 1 27 28,jE 30 29,jM 8 30] [1,5,6,7,8,19,20]) .skip)) (jr [jM 32 5,jM 33 7,jM 34 5,jM 35 7,jJ 36 1 34 35,jE 37 36,jM 38 8,jM 39 6,jG 40 171 37 38 39,jM 31 40,jX 41 31 0,jX 42 31 1,jJ 43 1 32 33,jS 1 43 41,jM 6 42] [1,5,6,19,20]))))) (jr [jP 44 .add 20 1,jM 20 44] [1,5,6,19,20]))))
def CI:ACode:=(js [jO 10 .lss 9 8] [0,1,5,8,9,10] (.seq (jx 10 0) (.seq (.block 1 (js [jM 11 9,jM 6 11] [0,1,5,6,8,9] (jr [jM 13 0,jM 14 6,jJ 15 1 13 14,jE 16 15,jM 17 1,jM 18 6,jJ 19 1 17 18,jE 20 19,jM 21 5,jG 22 144 16 20 21,jM 12 22,jX 23 12 0,jX 24 12 1,jM 5 24] [0,1,5,8,9]))) (jr [jP 25 .add 9 1,jM 9 25] [0,1,5,8,9]))))
def CG:ACode:=(.seq (js [jM 9 5,jP 10 .geq 9 0] [0,1,5,10] (jx 10 0)) (.seq (.block 1 (js [jM 13 0,jM 14 5,jJ 15 1 13 14,jE 16 15,jM 17 1,jM 18 5,jJ 19 1 17 18,jE 20 19,jO 21 .neq 16 20] [0,1,5,21] (jl 21 [jM 22 0,jM 23 5,jJ 24 1 22 23,jE 25 24,jM 26 1,jM 27 5,jJ 28 1 26 27,jE 29 28,jO 30 .lss 25 29,jM 4 30] [4]))) (jr [jM 11 5,jP 12 .sub 11 1,jM 5 12] [0,1,5])))
def CF:ACode:=(js [jP 6 .lss 5 255] [1,2,3,5,6] (.seq (jx 6 0) (.seq (.block 1 (js [jM 7 5,jM 4 7] [1,2,3,4,5] (jr [jM 8 4,jP 9 .quo 8 51,jF 10 0 3,jH 11 5 1 10 9,jE 12 11,jM 13 4,jP 14 .quo 13 8,jH 15 32 1 1 14,jE 16 15,jM 17 4,jP 18 .rem 17 8,jO 19 .shr 16 18,jQ 20 .and 19 .u8 1,jV 21 .u64 20,jM 22 4,jP 23 .rem 22 51,jO 24 .shl 21 23,jO 25 .or 12 24,jF 26 0 3,jH 27 5 1 26 9,jS 1 27 25] [1,2,3,5]))) (jr [jP 28 .add 5 1,jM 5 28] [1,2,3,5]))))
def Rz:ACode:=(js [jP 55 .lss 54 255] [1,2,6,54,55] (.seq (jx 55 4) (.seq (.block 5 (js [jM 56 54,jM 8 56] [1,2,6,8,54] (jr [jM 57 8,jP 58 .quo 57 8,jH 59 32 1 6 58,jE 60 59,jM 61 8,jP 62 .quo 61 51,jF 63 0 1,jH 64 5 1 63 62,jE 65 64,jM 66 8,jP 67 .rem 66 51,jO 68 .shr 65 67,jQ 69 .and 68 .u64 1,jV 70 .u8 69,jM 71 8,jP 72 .rem 71 8,jO 73 .shl 70 72,jO 74 .or 60 73,jH 75 32 1 6 58,jS 1 75 74] [1,2,6,54]))) (jr [jP 76 .add 54 1,jM 54 76] [1,2,6,54]))))
def CE:ACode:=(js [jP 31 .lss 30 5] [1,2,3,6,30,31] (.seq (jx 31 2) (.seq (.block 3 (js [jM 32 30,jM 7 32] [1,2,3,6,7,30] (js [jM 33 7,jF 34 0 1,jH 35 5 1 34 33,jE 36 35,jM 37 3,jO 38 .add 36 37,jF 39 0 1,jH 40 5 1 39 33,jS 1 40 38] [1,2,6,7,30] (js [jM 41 7,jF 42 0 1,jH 43 5 1 42 41,jE 44 43,jQ 45 .shr 44 .u64 51,jM 3 45] [1,2,3,6,7,30] (jr [jM 46 7,jF 47 0 1,jH 48 5 1 47 46,jE 49 48,jQ 50 .and 49 .u64 2251799813685247,jF 51 0 1,jH 52 5 1 51 46,jS 1 52 50] [1,2,3,6,30]))))) (jr [jP 53 .add 30 1,jM 30 53] [1,2,3,6,30]))))
def CD:ACode:=(js [jP 15 .lss 14 5] [1,2,3,13,14,15] (.seq (jx 15 0) (.seq (.block 1 (js [jo 16 (.index none 5 1 (jt 13) (jt 14)),jM 5 16] [1,2,3,5,13,14] (jr [jM 17 5,jM 18 3,jO 19 .add 17 18,jQ 20 .shr 19 .u64 51,jM 3 20] [1,2,3,13,14]))) (jr [jP 21 .add 14 1,jM 14 21] [1,2,3,13,14]))))
def CC:ACode:=(js [jP 7 .lss 6 5] [2,3,4,6,7] (.seq (jx 7 0) (.seq (.block 1 (js [jM 8 6,jM 5 8] [2,3,4,5,6] (jr [jM 9 5,jF 10 0 2,jH 11 5 1 10 9,jE 12 11,jM 13 5,jF 14 0 3,jH 15 5 1 14 13,jE 16 15,jo 17 (.bin .sub (.const (.int .u64 9007199254740988)) (jt 16)),jO 18 .add 12 17,jF 19 0 2,jH 20 5 1 19 9,jS 1 20 18] [2,3,4,6]))) (jr [jP 21 .add 6 1,jM 6 21] [2,3,4,6]))))
def C9:ACode:=(js [jP 15 .lss 14 5] [2,3,4,5,7,8,9,14,15] (.seq (jx 15 2) (.seq (.block 3 (js [jM 16 14,jM 6 16] [2,3,4,5,6,7,8,9,14] (jr [jM 17 6,jF 18 0 3,jH 19 5 1 18 17,jE 20 19,jM 21 6,jF 22 0 5,jH 23 5 1 22 21,jE 24 23,jO 25 .add 20 24,jF 26 0 3,jH 27 5 1 26 17,jS 1 27 25] [2,3,4,5,7,8,9,14]))) (jr [jP 28 .add 14 1,jM 14 28] [2,3,4,5,7,8,9,14]))))
def C8:ACode:=(js [jO 10 .lss 9 8] [2,3,7,8,9,10] (.seq (jx 10 0) (.seq (.block 1 (js [jM 11 9,jJ 12 5 7 9,jL 13 5 12,jZ 5 5 .u64,jM 4 11,jS 5 5 13] [2,3,4,5,7,8,9] (.seq (js [jI 14 0] [2,3,4,5,7,8,9,14] (jK 2 C9)) (js [jM 29 4,jP 30 .rem 29 64,jP 31 .eql 30 63] [2,3,7,8,9,31] (.cond (jt 31) (jr [jL 32 5 3,jC 33 139 32,jS 5 3 33] [2,3,7,8,9]) .skip))))) (jr [jP 34 .add 9 1,jM 9 34] [2,3,7,8,9]))))
def C7:ACode:=(.seq (js [jM 6 4,jP 7 .lss 6 16] [1,2,3,4,7] (jx 7 0)) (.seq (.block 1 (jr [jM 10 4,jM 11 4,jo 12 (.bin .mul (ji 2) (jt 11)),jH 13 32 1 1 12,jE 14 13,jV 15 .u64 14,jM 16 4,jo 17 (.bin .mul (ji 2) (jt 16)),jP 18 .add 17 1,jH 19 32 1 1 18,jE 20 19,jV 21 .u64 20,jo 22 (.bin .mul (.const (.int .u64 256)) (jt 21)),jO 23 .add 15 22,jH 24 16 1 3 10,jS 1 24 23] [1,2,3,4])) (jr [jM 8 4,jP 9 .add 8 1,jM 4 9] [1,2,3,4])))
def C6:ACode:=(.seq (js [jM 8 4,jP 9 .lss 8 16] [1,2,3,4,9] (jx 9 0)) (.seq (.block 1 (js [jM 12 4,jo 13 (.bin .mul (ji 2) (jt 12)),jM 14 4,jH 15 16 1 1 14,jE 16 15,jQ 17 .rem 16 .u64 256,jV 18 .u8 17,jH 19 32 1 3 13,jS 1 19 18] [1,2,3,4] (jr [jM 20 4,jo 21 (.bin .mul (ji 2) (jt 20)),jP 22 .add 21 1,jM 23 4,jH 24 16 1 1 23,jE 25 24,jQ 26 .quo 25 .u64 256,jV 27 .u8 26,jH 28 32 1 3 22,jS 1 28 27] [1,2,3,4]))) (jr [jM 10 4,jP 11 .add 10 1,jM 4 11] [1,2,3,4])))
def C5:ACode:=(.seq (js [jM 12 7,jP 13 .lss 12 16] [2,3,4,5,6,7,13] (jx 13 2)) (.seq (.block 3 (jr [jM 16 6,jM 17 7,jO 18 .add 16 17,jH 19 32 1 5 18,jE 20 19,jM 21 6,jH 22 16 1 2 21,jE 23 22,jM 24 7,jH 25 16 1 3 24,jE 26 25,jO 27 .mul 23 26,jO 28 .add 20 27,jH 29 32 1 5 18,jS 1 29 28] [2,3,4,5,6,7])) (jr [jM 14 7,jP 15 .add 14 1,jM 7 15] [2,3,4,5,6,7])))
def C4:ACode:=(.seq (js [jM 8 6,jP 9 .lss 8 16] [2,3,4,5,6,9] (jx 9 0)) (.seq (.block 1 (js [jI 7 0] [2,3,4,5,6,7] (jK 2 C5))) (jr [jM 10 6,jP 11 .add 10 1,jM 6 11] [2,3,4,5,6])))
def C0:ACode:=(.seq (js [jM 19 7,jP 20 .geq 19 0] [1,2,4,5,6,7,20] (jx 20 2)) (.seq (.block 3 (js [jM 23 7,jH 24 16 1 4 23,jE 25 24,jM 26 6,jQ 27 .mul 26 .u64 65536,jO 28 .add 25 27,jM 8 28] [1,2,4,5,7,8] (js [jM 29 7,jM 30 8,jQ 31 .quo 30 .u64 2,jH 32 16 1 4 29,jS 1 32 31] [1,2,4,5,7,8] (jr [jM 33 8,jQ 34 .rem 33 .u64 2,jM 6 34] [1,2,4,5,6,7])))) (jr [jM 21 7,jP 22 .sub 21 1,jM 7 22] [1,2,4,5,6,7])))
def Cz:ACode:=(.seq (js [jM 15 5,jP 16 .lss 15 3] [1,2,4,5,16] (jx 16 0)) (.seq (.block 1 (js [jk 6 .u64 0] [1,2,4,5,6] (js [jI 7 15] [1,2,4,5,6,7] (jK 2 C0)))) (jr [jM 17 5,jP 18 .add 17 1,jM 5 18] [1,2,4,5])))
def Cy:ACode:=(.seq (js [jM 7 6,jP 8 .lss 7 16] [2,3,4,5,6,8] (jx 8 0)) (.seq (.block 1 (jr [jM 11 6,jM 12 6,jH 13 16 1 2 12,jE 14 13,jM 15 6,jH 16 16 1 3 15,jE 17 16,jO 18 .add 14 17,jH 19 32 1 5 11,jS 1 19 18] [2,3,4,5,6])) (jr [jM 9 6,jP 10 .add 9 1,jM 6 10] [2,3,4,5,6])))
def qb:ACode:=(js [jP 6 .lss 5 5] [1,2,3,5,6] (.seq (jx 6 0) (.seq (.block 1 (js [jM 7 5,jM 4 7] [1,2,3,4,5] (js [jM 8 4,jF 9 0 1,jH 10 5 1 9 8,jE 11 10,jM 12 3,jO 13 .add 11 12,jF 14 0 1,jH 15 5 1 14 8,jS 1 15 13] [1,2,4,5] (js [jM 16 4,jF 17 0 1,jH 18 5 1 17 16,jE 19 18,jQ 20 .shr 19 .u64 51,jM 3 20] [1,2,3,4,5] (jr [jM 21 4,jF 22 0 1,jH 23 5 1 22 21,jE 24 23,jQ 25 .and 24 .u64 2251799813685247,jF 26 0 1,jH 27 5 1 26 21,jS 1 27 25] [1,2,3,5]))))) (jr [jP 28 .add 5 1,jM 5 28] [1,2,3,5]))))
def Cx:ACode:=(js [jO 10 .lss 9 8] [2,3,7,8,9,10] (.seq (jx 10 0) (.seq (.block 1 (js [jJ 11 5 7 9,jL 12 5 11,jZ 5 5 .u64,jS 5 5 12] [2,3,5,7,8,9] (jr [jL 13 5 3,jL 14 5 5,jD 15 79 13 14,jS 5 3 15] [2,3,7,8,9]))) (jr [jP 16 .add 9 1,jM 9 16] [2,3,7,8,9]))))
def Ry:ACode:=(.seq (js [jM 8 6,jP 9 .geq 8 0] [2,3,4,5,6,9] (jx 9 0)) (.seq (.block 1 (js [jL 12 5 5,jL 13 5 5,jD 14 79 12 13,jS 5 5 14] [2,3,4,5,6] (js [jM 15 6,jP 16 .quo 15 8,jH 17 32 1 3 16,jE 18 17,jM 19 6,jP 20 .rem 19 8,jO 21 .shr 18 20,jQ 22 .and 21 .u8 1,jQ 23 .eql 22 .u8 1] [2,3,4,5,6,23] (.cond (jt 23) (jr [jL 24 5 5,jL 25 5 2,jD 26 79 24 25,jS 5 5 26] [2,3,4,5,6]) .skip)))) (jr [jM 10 6,jP 11 .sub 10 1,jM 6 11] [2,3,4,5,6])))
def Cw:ACode:=(js [jO 9 .lss 8 7] [1,4,5,7,8,9] (.seq (jx 9 0) (.seq (.block 1 (js [jM 10 8,jM 6 10] [1,4,5,6,7,8] (jr [jM 11 6,jP 12 .quo 11 8,jH 13 32 1 5 12,jE 14 13,jM 15 6,jP 16 .rem 15 8,jo 17 (.bin .shl (.const (.int .u8 1)) (jt 16)),jO 18 .or 14 17,jH 19 32 1 5 12,jS 1 19 18] [1,4,5,7,8]))) (jr [jP 20 .add 8 1,jM 8 20] [1,4,5,7,8]))))
def Ly:ACode:=(.seq (js [jL 3 16 1,jf 4 150,jD 5 176 3 4,jU 6 5] [1,2,6] (jx 6 0)) (.block 1 (jr [jL 7 16 1,jf 8 150,jD 9 153 7 8,jS 16 1 9] [1,2])))
def Cu:ACode:=(.seq (js [jM 46 9,jP 47 .lss 46 16] [1,2,9,47] (jx 47 6)) (.seq (.block 7 (js [jM 50 9,jH 51 32 1 1 50,jE 52 51,jM 53 9,jP 54 .add 53 16,jH 55 32 1 1 54,jE 56 55,jo 57 (.bin .mul (.const (.int .u64 38)) (jt 56)),jO 58 .add 52 57,jH 59 32 1 1 50,jS 1 59 58] [1,2,9] (jr [jM 60 9,jP 61 .add 60 16,jH 62 32 1 1 61,jq (.store 1 (jt 62) (.const (.int .u64 0)))] [1,2,9]))) (jr [jM 48 9,jP 49 .add 48 1,jM 9 49] [1,2,9])))
def Dc:ACode:=(.seq (js [jM 26 8,jP 27 .lss 26 16] [1,2,6,7,8,27] (jx 27 4)) (.seq (.block 5 (js [jM 30 8,jM 31 8,jH 32 32 1 1 31,jE 33 32,jH 34 16 1 6 30,jS 1 34 33] [1,2,6,7,8] (jr [jM 35 7,jM 36 35,.mk (some 37) (.move (jt 8)) (some (36,false)),.mk (some 38) (.bin .add (jt 37) (ji 16)) (some (36,false)),.mk (some 39) (.indexAddr 32 1 (jt 1) (jt 38)) (some (36,false)),.mk (some 40) (.load none (jt 39)) (some (36,false)),.mk (some 41) (.bin .neq (jt 40) (.const (.int .u64 0))) (some (36,false)),jo 42 (.pick (jt 36) (.const (.bool true)) (jt 41)),jM 7 42] [1,2,6,7,8]))) (jr [jM 28 8,jP 29 .add 28 1,jM 8 29] [1,2,6,7,8])))
def Ct:ACode:=(.seq (js [jM 10 4,jP 11 .lss 10 32] [1,2,3,4,11] (jx 11 2)) (.seq (.block 3 (js [jM 14 4,jH 15 32 1 1 14,jE 16 15,jM 17 3,jO 18 .add 16 17,jM 5 18] [1,2,4,5] (js [jM 19 4,jM 20 5,jQ 21 .rem 20 .u64 65536,jH 22 32 1 1 19,jS 1 22 21] [1,2,4,5] (jr [jM 23 5,jQ 24 .quo 23 .u64 65536,jM 3 24] [1,2,3,4])))) (jr [jM 12 4,jP 13 .add 12 1,jM 4 13] [1,2,3,4])))
def Lx:ACode:=(.block 1 (js [jk 3 .u64 0] [1,2,3] (.seq (js [jI 4 0] [1,2,3,4] (jK 2 Ct)) (js [jo 25 (.build (Qc 16 (.int .u64 0)) []),jZ 6 16 .u64,jS 16 6 25] [1,2,6] (js [jT 7 false] [1,2,6,7] (.seq (js [jI 8 0] [1,2,6,7,8] (jK 4 Dc)) (.seq (js [jM 43 7,jU 44 43] [1,2,6,44] (jl 44 [jL 45 16 6,jS 16 2 45] [2])) (js [jI 9 0] [1,2,9] (jK 6 Cu)))))))))
def Cs:ACode:=(.seq (js [jM 4 2,jP 5 .lss 4 16] [0,1,2,5] (jx 5 0)) (.seq (.block 1 (jr [jM 8 2,jH 9 16 1 1 8,jq (.store 1 (jt 9) (.const (.int .u64 65535)))] [0,1,2])) (jr [jM 6 2,jP 7 .add 6 1,jM 2 7] [0,1,2])))
def Cr:ACode:=(.seq (js [jM 21 8,jM 22 6,jP 23 .rem 22 16,jO 24 .lss 21 23] [2,3,4,5,6,7,8,24] (jx 24 2)) (.seq (.block 3 (jr [jM 27 7,jQ 28 .quo 27 .u64 2,jM 7 28] [2,3,4,5,6,7,8])) (jr [jM 25 8,jP 26 .add 25 1,jM 8 26] [2,3,4,5,6,7,8])))
def Rx:ACode:=(.seq (js [jM 10 6,jP 11 .geq 10 0] [2,3,4,5,6,11] (jx 11 0)) (.seq (.block 1 (js [jL 14 16 5,jL 15 16 5,jD 16 101 14 15,jS 16 5 16] [2,3,4,5,6] (js [jM 17 6,jP 18 .quo 17 16,jH 19 16 1 3 18,jE 20 19,jM 7 20] [2,3,4,5,6,7] (.seq (js [jI 8 0] [2,3,4,5,6,7,8] (jK 2 Cr)) (js [jM 29 7,jQ 30 .rem 29 .u64 2,jQ 31 .eql 30 .u64 1] [2,3,4,5,6,31] (.cond (jt 31) (jr [jL 32 16 5,jL 33 16 2,jD 34 101 32 33,jS 16 5 34] [2,3,4,5,6]) .skip)))))) (jr [jM 12 6,jP 13 .sub 12 1,jM 6 13] [2,3,4,5,6])))
def Cq:ACode:=(.seq (js [jM 15 4,jP 16 .geq 15 0] [0,1,2,3,4,16] (jx 16 2)) (.seq (.block 3 (js [jM 19 4,jH 20 16 1 1 19,jE 21 20,jM 22 3,jQ 23 .mul 22 .u64 65536,jO 24 .add 21 23,jM 5 24] [0,1,2,4,5] (js [jM 25 4,jM 26 5,jQ 27 .quo 26 .u64 2,jH 28 16 1 1 25,jS 1 28 27] [0,1,2,4,5] (jr [jM 29 5,jQ 30 .rem 29 .u64 2,jM 3 30] [0,1,2,3,4])))) (jr [jM 17 4,jP 18 .sub 17 1,jM 4 18] [0,1,2,3,4])))
def Cp:ACode:=(.seq (js [jM 11 2,jP 12 .lss 11 2] [0,1,2,12] (jx 12 0)) (.seq (.block 1 (js [jk 3 .u64 0] [0,1,2,3] (js [jI 4 15] [0,1,2,3,4] (jK 2 Cq)))) (jr [jM 13 2,jP 14 .add 13 1,jM 2 14] [0,1,2])))
def Co:ACode:=(.seq (js [jM 10 7,jP 11 .lss 10 16] [2,3,4,5,6,7,11] (jx 11 0)) (.seq (.block 1 (js [jM 14 7,jH 15 16 1 2 14,jE 16 15,jQ 17 .add 16 .u64 65536,jM 18 7,jH 19 16 1 3 18,jE 20 19,jO 21 .sub 17 20,jM 22 6,jO 23 .sub 21 22,jM 8 23] [2,3,4,5,7,8] (js [jM 24 7,jM 25 8,jQ 26 .rem 25 .u64 65536,jH 27 16 1 5 24,jS 1 27 26] [2,3,4,5,7,8] (jr [jM 28 8,jQ 29 .quo 28 .u64 65536,jo 30 (.bin .sub (.const (.int .u64 1)) (jt 29)),jM 6 30] [2,3,4,5,6,7])))) (jr [jM 12 7,jP 13 .add 12 1,jM 7 13] [2,3,4,5,6,7])))
def Cn:ACode:=(.seq (js [jM 6 5,jP 7 .geq 6 0] [2,3,5,7] (jx 7 0)) (.seq (.block 1 (js [jM 10 5,jH 11 16 1 2 10,jE 12 11,jM 13 5,jH 14 16 1 3 13,jE 15 14,jO 16 .neq 12 15] [2,3,5,16] (jl 16 [jM 17 5,jH 18 16 1 2 17,jE 19 18,jM 20 5,jH 21 16 1 3 20,jE 22 21,jO 23 .lss 19 22,jM 4 23] [4]))) (jr [jM 8 5,jP 9 .sub 8 1,jM 5 9] [2,3,5])))
def M8:ACode:=(js [jO 9 .lss 8 7] [0,6,7,8,9] (.seq (jx 9 0) (.seq (.block 1 (js [jJ 10 1 6 8,jE 11 10,jM 5 11] [0,5,6,7,8] (jr [jM 12 0,jN 13 12,jF 14 0 13,jM 15 5,jM 16 0,jo 17 (.mkFunc (.func 174) [(jt 16)] []),jo 18 (.call 158 [(jt 14),(ji 128),(jt 15),(jt 17)] false)] [0,6,7,8]))) (jr [jP 19 .add 8 1,jM 8 19] [0,6,7,8]))))
def M0:ACode:=(js [jP 33 .lss 32 64] [2,3,4,32,33] (.seq (jx 33 0) (.seq (.block 1 (js [jM 34 32,jM 5 34] [2,3,4,5,32] (jr [jM 35 5,jM 36 3,jM 37 5,jP 38 .quo 37 8,jN 39 36,jF 40 2 39,jH 41 8 1 40 38,jE 42 41,jM 43 5,jP 44 .rem 43 8,jo 45 (.bin .mul (ji 8) (jt 44)),jo 46 (.bin .sub (ji 56) (jt 45)),jO 47 .shr 42 46,jV 48 .u8 47,jH 49 64 1 4 35,jS 1 49 48] [2,3,4,32]))) (jr [jP 50 .add 32 1,jM 32 50] [2,3,4,32]))))
def YQ:ACode:=(.seq (js [jM 27 0,jN 28 27,jF 29 0 28,jE 30 29,jY 31 30,jM 32 1,jO 33 .geq 31 32] [0,1,3,33] (jx 33 0)) (.block 1 (js [jM 34 3,jM 35 0,jN 36 35,jF 37 0 36,jE 38 37,jM 39 1,jo 40 (.sliceSl 1 (jt 38) none (some (jt 39)) none),jo 41 (.callv (jt 34) [(jt 40)])] [0,1,3] (jr [jM 42 0,jM 43 0,jN 44 43,jF 45 0 44,jE 46 45,jM 47 1,jo 48 (.sliceSl 1 (jt 46) (some (jt 47)) none none),jN 49 42,jF 50 0 49,jS 1 50 48] [0,1,3]))))
def Mz:ACode:=(js [jP 176 .lss 175 8] [0,174,175,176] (.seq (jx 176 6) (.seq (.block 7 (js [jM 177 175,jo 178 (.index none 8 1 (jt 174) (jt 175)),jM 15 177,jM 16 178] [0,15,16,174,175] (jr [jM 179 0,jM 180 15,jN 181 179,jF 182 2 181,jH 183 8 1 182 180,jE 184 183,jM 185 16,jO 186 .add 184 185,jN 187 179,jF 188 2 187,jH 189 8 1 188 180,jS 1 189 186] [0,174,175]))) (jr [jP 190 .add 175 1,jM 175 190] [0,174,175]))))
def GQ:ACode:=(js [jP 88 .lss 87 80] [0,4,10,86,87,88] (.seq (jx 88 4) (.seq (.block 5 (js [jM 89 87,jo 90 (.index none 80 1 (jt 86) (jt 87)),jM 11 89,jM 12 90] [0,4,10,11,12,86,87] (js [jA 91 8 1 10 7,jE 92 91,jA 93 8 1 10 4,jE 94 93,jo 95 (.call 186 [(jt 94),(ji (-14))] true),jA 96 8 1 10 4,jE 97 96,jo 98 (.call 186 [(jt 97),(ji (-18))] true),jO 99 .xor 95 98,jA 100 8 1 10 4,jE 101 100,jo 102 (.call 186 [(jt 101),(ji (-41))] true),jO 103 .xor 99 102,jO 104 .add 92 103,jA 105 8 1 10 4,jE 106 105,jA 107 8 1 10 5,jE 108 107,jO 109 .and 106 108,jA 110 8 1 10 4,jE 111 110,jo 112 (.un .xor (jt 111)),jA 113 8 1 10 6,jE 114 113,jO 115 .and 112 114,jO 116 .xor 109 115,jO 117 .add 104 116,jM 118 12,jO 119 .add 117 118,jM 120 11,jH 121 80 1 4 120,jE 122 121,jO 123 .add 119 122,jM 13 123] [0,4,10,13,86,87] (js [jA 124 8 1 10 0,jE 125 124,jo 126 (.call 186 [(jt 125),(ji (-28))] true),jA 127 8 1 10 0,jE 128 127,jo 129 (.call 186 [(jt 128),(ji (-34))] true),jO 130 .xor 126 129,jA 131 8 1 10 0,jE 132 131,jo 133 (.call 186 [(jt 132),(ji (-39))] true),jO 134 .xor 130 133,jA 135 8 1 10 0,jE 136 135,jA 137 8 1 10 1,jE 138 137,jO 139 .and 136 138,jA 140 8 1 10 0,jE 141 140,jA 142 8 1 10 2,jE 143 142,jO 144 .and 141 143,jO 145 .xor 139 144,jA 146 8 1 10 1,jE 147 146,jA 148 8 1 10 2,jE 149 148,jO 150 .and 147 149,jO 151 .xor 145 150,jO 152 .add 134 151,jM 14 152] [0,4,10,13,14,86,87] (jr [jM 153 13,jM 154 14,jO 155 .add 153 154,jA 156 8 1 10 0,jE 157 156,jA 158 8 1 10 1,jE 159 158,jA 160 8 1 10 2,jE 161 160,jA 162 8 1 10 3,jE 163 162,jM 164 13,jO 165 .add 163 164,jA 166 8 1 10 4,jE 167 166,jA 168 8 1 10 5,jE 169 168,jA 170 8 1 10 6,jE 171 170,jo 172 (.build (Qc 8 (.int .u64 0)) [jp 0 1 155,jp 1 1 157,jp 2 1 159,jp 3 1 161,jp 4 1 165,jp 5 1 167,jp 6 1 169,jp 7 1 171]),jS 8 10 172] [0,4,10,86,87]))))) (jr [jP 173 .add 87 1,jM 87 173] [0,4,10,86,87]))))
def My:ACode:=(js [jO 31 .lss 30 29] [0,1,4,5,17,28,29,30,31] (.seq (jx 31 2) (.seq (.block 3 (js [jJ 32 1 28 30,jE 33 32,jM 7 33] [0,1,4,5,7,17,28,29,30] (jr [jM 34 5,jM 35 5,jH 36 80 1 4 35,jE 37 36,jQ 38 .shl 37 .u64 8,jM 39 7,jV 40 .u64 39,jO 41 .or 38 40,jH 42 80 1 4 34,jS 1 42 41] [0,1,4,5,17,28,29,30]))) (jr [jP 43 .add 30 1,jM 30 43] [0,1,4,5,17,28,29,30]))))
def WJ:ACode:=(js [jP 18 .lss 17 80] [0,1,4,17,18] (.seq (jx 18 0) (.seq (.block 1 (js [jM 19 17,jM 5 19] [0,1,4,5,17] (.seq (js [jM 20 5,jP 21 .lss 20 16] [0,1,4,5,17,21] (.cond (jt 21) (.seq (js [jM 22 1,jM 23 5,jo 24 (.bin .mul (ji 8) (jt 23)),jM 25 5,jo 26 (.bin .mul (ji 8) (jt 25)),jP 27 .add 26 8,jo 28 (.sliceSl 1 (jt 22) (some (jt 24)) (some (jt 27)) none),jY 29 28,jI 30 0] [0,1,4,5,17,28,29,30] (jK 2 My)) (.exit 1)) .skip)) (js [jM 44 5,jP 45 .sub 44 15,jH 46 80 1 4 45,jE 47 46,jM 48 5,jP 49 .sub 48 2,jH 50 80 1 4 49,jE 51 50,jM 8 47,jM 9 51] [0,1,4,5,8,9,17] (jr [jM 52 5,jM 53 5,jP 54 .sub 53 16,jH 55 80 1 4 54,jE 56 55,jM 57 5,jP 58 .sub 57 7,jH 59 80 1 4 58,jE 60 59,jO 61 .add 56 60,jM 62 8,jo 63 (.call 186 [(jt 62),(ji (-1))] true),jM 64 8,jo 65 (.call 186 [(jt 64),(ji (-8))] true),jO 66 .xor 63 65,jM 67 8,jQ 68 .shr 67 .u64 7,jO 69 .xor 66 68,jO 70 .add 61 69,jM 71 9,jo 72 (.call 186 [(jt 71),(ji (-19))] true),jM 73 9,jo 74 (.call 186 [(jt 73),(ji (-61))] true),jO 75 .xor 72 74,jM 76 9,jQ 77 .shr 76 .u64 6,jO 78 .xor 75 77,jO 79 .add 70 78,jH 80 80 1 4 52,jS 1 80 79] [0,1,4,17]))))) (jr [jP 81 .add 17 1,jM 17 81] [0,1,4,17]))))
def V6:ACode:=(.seq (js [jM 29 8,jP 30 .geq 29 0] [0,7,8,30] (jx 30 2)) (.seq (.block 3 (js [jk 9 .u8 0] [0,7,8,9] (.seq (js [jM 33 8,jP 34 .lss 33 9] [0,7,8,9,34] (.cond (jt 34) (jr [jM 35 0,jN 36 35,jF 37 1 36,jE 38 37,jM 39 8,jo 40 (.bin .mul (ji 8) (jt 39)),jO 41 .shr 38 40,jQ 42 .shl 41 .u64 3,jV 43 .u8 42,jM 9 43] [0,7,8,9]) .skip)) (.seq (js [jM 44 8,jP 45 .gtr 44 0,jM 46 45,.mk (some 47) (.move (jt 8)) (some (46,true)),.mk (some 48) (.bin .lss (jt 47) (ji 9)) (some (46,true)),jo 49 (.pick (jt 46) (jt 48) (.const (.bool false)))] [0,7,8,9,49] (.cond (jt 49) (jr [jM 50 9,jM 51 0,jN 52 51,jF 53 1 52,jE 54 53,jM 55 8,jo 56 (.bin .mul (ji 8) (jt 55)),jP 57 .sub 56 8,jO 58 .shr 54 57,jQ 59 .and 58 .u64 255,jQ 60 .shr 59 .u64 5,jV 61 .u8 60,jO 62 .or 50 61,jM 9 62] [0,7,8,9]) .skip)) (jr [jM 63 7,jM 64 9,jo 65 (.buildSlice [(.int .u8 0)] 1 [jp 0 1 64]),jh 66 1 1 63 65,jM 7 66] [0,7,8]))))) (jr [jM 31 8,jP 32 .sub 31 1,jM 8 32] [0,7,8])))
def YP:ACode:=(.seq (js [jM 11 0,jN 12 11,jF 13 1 12,jE 14 13,jV 15 .i64 14,jM 16 7,jY 17 16,jO 18 .add 15 17,jM 19 2,jO 20 .add 18 19,jM 21 1,jO 22 .rem 20 21,jP 23 .neq 22 0] [0,1,2,7,23] (jx 23 0)) (.block 1 (jr [jM 24 7,jo 25 (.buildSlice [(.int .u8 0)] 1 [jg 0 .u8 0]),jh 26 1 1 24 25,jM 7 26] [0,1,2,7])))
def Mx:ACode:=(.seq (js [jM 25 11,jP 26 .lss 25 32] [2,3,4,7,9,10,11,26] (jx 26 0)) (.seq (.block 1 (js [jM 29 11,jM 30 11,jH 31 64 1 4 30,jE 32 31,jH 33 32 1 9 29,jS 1 33 32] [2,3,4,7,9,10,11] (jr [jM 34 11,jM 35 11,jP 36 .add 35 32,jH 37 64 1 4 36,jE 38 37,jH 39 32 1 10 34,jS 1 39 38] [2,3,4,7,9,10,11]))) (jr [jM 27 11,jP 28 .add 27 1,jM 11 28] [2,3,4,7,9,10,11])))
def GP:ACode:=(.seq (js [jM 8 5,jP 9 .lss 8 64] [2,3,4,5,9] (jx 9 0)) (.seq (.block 1 (jr [jM 12 4,jM 13 5,jH 14 64 1 3 13,jE 15 14,jo 16 (.buildSlice [(.int .u8 0)] 1 [jp 0 1 15]),jo 17 (.b2s (jt 16)),jO 18 .add 12 17,jM 4 18] [2,3,4,5])) (jr [jM 10 5,jP 11 .add 10 1,jM 5 11] [2,3,4,5])))
def GO:ACode:=(.seq (js [jM 5 4,jP 6 .lss 5 32] [1,3,4,6] (jx 6 0)) (.seq (.block 1 (jr [jM 9 3,jM 10 4,jH 11 32 1 1 10,jE 12 11,jo 13 (.buildSlice [(.int .u8 0)] 1 [jp 0 1 12]),jo 14 (.b2s (jt 13)),jO 15 .add 9 14,jM 3 15] [1,3,4])) (jr [jM 7 4,jP 8 .add 7 1,jM 4 8] [1,3,4])))
def Mw:ACode:=(.seq (js [jM 16 6,jP 17 .lss 16 64] [2,4,5,6,17] (jx 17 0)) (.seq (.block 1 (jr [jM 20 6,jM 21 4,jM 22 6,jJ 23 1 21 22,jE 24 23,jH 25 64 1 5 20,jS 1 25 24] [2,4,5,6])) (jr [jM 18 6,jP 19 .add 18 1,jM 6 19] [2,4,5,6])))
def GN:ACode:=(.seq (js [jM 381 32,jP 382 .geq 381 0] [5,11,30,31,32,382] (jx 382 16)) (.seq (.block 17 (jr [jM 385 30,jM 386 11,jM 387 31,jJ 388 1 386 387,jE 389 388,jM 390 32,jo 391 (.bin .mul (ji 8) (jt 390)),jC 392 180 391,jO 393 .quo 389 392,jQ 394 .rem 393 .u64 256,jV 395 .u8 394,jo 396 (.buildSlice [(.int .u8 0)] 1 [jp 0 1 395]),jh 397 1 1 385 396,jM 30 397] [5,11,30,31,32])) (jr [jM 383 32,jP 384 .sub 383 1,jM 32 384] [5,11,30,31,32])))
def Mv:ACode:=(.seq (js [jM 375 31,jP 376 .lss 375 8] [5,11,30,31,376] (jx 376 14)) (.seq (.block 15 (js [jM 379 5,jP 380 .sub 379 1,jM 32 380] [5,11,30,31,32] (jK 16 GN))) (jr [jM 377 31,jP 378 .add 377 1,jM 31 378] [5,11,30,31])))
def GM:ACode:=(.seq (js [jM 357 29,jP 358 .lss 357 8] [3,5,6,10,11,12,13,14,22,29,358] (jx 358 12)) (.seq (.block 13 (jr [jM 361 11,jM 362 29,jM 363 11,jM 364 29,jJ 365 1 363 364,jE 366 365,jM 367 22,jM 368 29,jJ 369 1 367 368,jE 370 369,jO 371 .add 366 370,jM 372 12,jD 373 181 371 372,jJ 374 1 361 362,jS 1 374 373] [3,5,6,10,11,12,13,14,22,29])) (jr [jM 359 29,jP 360 .add 359 1,jM 29 360] [3,5,6,10,11,12,13,14,22,29])))
def GL:ACode:=(.seq (js [jM 208 23,jF 209 1 3,jE 210 209,jO 211 .lss 208 210] [3,5,6,10,11,12,13,14,15,22,23,211] (jx 211 10)) (.seq (.block 11 (js [jM 214 10,jM 215 23,jJ 216 1 214 215,jE 217 216,jM 24 217] [3,5,6,10,11,12,13,14,15,22,23,24] (.seq (js [jM 218 12,jP 219 .eql 218 32] [3,5,6,10,11,12,13,14,15,22,23,24,219] (.cond (jt 219) (jr [jM 220 10,jM 221 23,jJ 222 1 220 221,jE 223 222,jo 224 (.call 180 [(ji 32)] true),jO 225 .quo 223 224,jM 24 225] [3,5,6,10,11,12,13,14,15,22,23,24]) .skip)) (js [jM 226 22,jy 227 1 226 4,jE 228 227,jM 229 22,jy 230 1 229 5,jE 231 230,jO 232 .and 228 231,jM 233 22,jy 234 1 233 4,jE 235 234,jo 236 (.bin .sub (.const (.int .u64 18446744073709551615)) (jt 235)),jM 237 12,jD 238 181 236 237,jM 239 22,jy 240 1 239 6,jE 241 240,jO 242 .and 238 241,jO 243 .or 232 242,jM 25 243] [3,5,6,10,11,12,13,14,15,22,23,24,25] (js [jM 244 22,jy 245 1 244 0,jE 246 245,jM 247 22,jy 248 1 247 1,jE 249 248,jO 250 .and 246 249,jM 251 22,jy 252 1 251 0,jE 253 252,jM 254 22,jy 255 1 254 2,jE 256 255,jO 257 .and 253 256,jO 258 .or 250 257,jM 259 22,jy 260 1 259 1,jE 261 260,jM 262 22,jy 263 1 262 2,jE 264 263,jO 265 .and 261 264,jO 266 .or 258 265,jM 26 266] [3,5,6,10,11,12,13,14,15,22,23,24,25,26] (js [jM 267 22,jy 268 1 267 7,jE 269 268,jM 270 22,jy 271 1 270 4,jE 272 271,jA 273 12 1 13 9,jE 274 273,jM 275 12,jG 276 179 272 274 275,jM 277 22,jy 278 1 277 4,jE 279 278,jA 280 12 1 13 10,jE 281 280,jM 282 12,jG 283 179 279 281 282,jM 284 22,jy 285 1 284 4,jE 286 285,jA 287 12 1 13 11,jE 288 287,jM 289 12,jG 290 179 286 288 289,jG 291 178 276 283 290,jO 292 .add 269 291,jM 293 25,jO 294 .add 292 293,jM 295 24,jO 296 .add 294 295,jM 297 15,jM 298 23,jJ 299 1 297 298,jE 300 299,jO 301 .add 296 300,jM 27 301] [3,5,6,10,11,12,13,14,15,22,23,26,27] (js [jM 302 22,jy 303 1 302 0,jE 304 303,jA 305 12 1 13 6,jE 306 305,jM 307 12,jG 308 179 304 306 307,jM 309 22,jy 310 1 309 0,jE 311 310,jA 312 12 1 13 7,jE 313 312,jM 314 12,jG 315 179 311 313 314,jM 316 22,jy 317 1 316 0,jE 318 317,jA 319 12 1 13 8,jE 320 319,jM 321 12,jG 322 179 318 320 321,jG 323 178 308 315 322,jM 324 26,jO 325 .add 323 324,jM 28 325] [3,5,6,10,11,12,13,14,15,22,23,27,28] (jr [jM 326 27,jM 327 28,jO 328 .add 326 327,jM 329 12,jD 330 181 328 329,jM 331 22,jy 332 1 331 0,jE 333 332,jM 334 22,jy 335 1 334 1,jE 336 335,jM 337 22,jy 338 1 337 2,jE 339 338,jM 340 22,jy 341 1 340 3,jE 342 341,jM 343 27,jO 344 .add 342 343,jM 345 12,jD 346 181 344 345,jM 347 22,jy 348 1 347 4,jE 349 348,jM 350 22,jy 351 1 350 5,jE 352 351,jM 353 22,jy 354 1 353 6,jE 355 354,jo 356 (.buildSlice (Qc 8 (.int .u64 0)) 8 [jp 0 1 330,jp 1 1 333,jp 2 1 336,jp 3 1 339,jp 4 1 346,jp 5 1 349,jp 6 1 352,jp 7 1 355]),jM 22 356] [3,5,6,10,11,12,13,14,15,22,23])))))))) (jr [jM 212 23,jP 213 .add 212 1,jM 23 213] [3,5,6,10,11,12,13,14,15,22,23])))
def Mu:ACode:=(.seq (js [jM 118 17,jM 119 5,jO 120 .lss 118 119] [3,5,6,10,11,12,13,14,15,16,17,120] (jx 120 8)) (.seq (.block 9 (jr [jM 123 15,jM 124 16,jM 125 15,jM 126 16,jJ 127 1 125 126,jE 128 127,jQ 129 .mul 128 .u64 256,jM 130 6,jM 131 14,jM 132 5,jM 133 16,jO 134 .mul 132 133,jO 135 .add 131 134,jM 136 17,jO 137 .add 135 136,jJ 138 1 130 137,jE 139 138,jV 140 .u64 139,jO 141 .add 129 140,jJ 142 1 123 124,jS 1 142 141] [3,5,6,10,11,12,13,14,15,16,17])) (jr [jM 121 17,jP 122 .add 121 1,jM 17 122] [3,5,6,10,11,12,13,14,15,16,17])))
def WI:ACode:=(.seq (js [jM 110 16,jF 111 1 3,jE 112 111,jO 113 .lss 110 112] [3,5,6,10,11,12,13,14,15,16,113] (jx 113 6)) (.seq (.block 7 (.seq (js [jM 116 16,jP 117 .lss 116 16] [3,5,6,10,11,12,13,14,15,16,117] (.cond (jt 117) (.seq (js [jI 17 0] [3,5,6,10,11,12,13,14,15,16,17] (jK 8 Mu)) (.exit 7)) .skip)) (js [jM 143 15,jM 144 16,jP 145 .sub 144 15,jJ 146 1 143 145,jE 147 146,jM 148 15,jM 149 16,jP 150 .sub 149 2,jJ 151 1 148 150,jE 152 151,jM 18 147,jM 19 152] [3,5,6,10,11,12,13,14,15,16,18,19] (js [jM 153 18,jA 154 12 1 13 0,jE 155 154,jM 156 12,jG 157 179 153 155 156,jM 158 18,jA 159 12 1 13 1,jE 160 159,jM 161 12,jG 162 179 158 160 161,jM 163 18,jA 164 12 1 13 2,jE 165 164,jC 166 180 165,jO 167 .quo 163 166,jG 168 178 157 162 167,jM 20 168] [3,5,6,10,11,12,13,14,15,16,19,20] (js [jM 169 19,jA 170 12 1 13 3,jE 171 170,jM 172 12,jG 173 179 169 171 172,jM 174 19,jA 175 12 1 13 4,jE 176 175,jM 177 12,jG 178 179 174 176 177,jM 179 19,jA 180 12 1 13 5,jE 181 180,jC 182 180 181,jO 183 .quo 179 182,jG 184 178 173 178 183,jM 21 184] [3,5,6,10,11,12,13,14,15,16,20,21] (jr [jM 185 15,jM 186 16,jM 187 15,jM 188 16,jP 189 .sub 188 16,jJ 190 1 187 189,jE 191 190,jM 192 20,jO 193 .add 191 192,jM 194 15,jM 195 16,jP 196 .sub 195 7,jJ 197 1 194 196,jE 198 197,jO 199 .add 193 198,jM 200 21,jO 201 .add 199 200,jM 202 12,jD 203 181 201 202,jJ 204 1 185 186,jS 1 204 203] [3,5,6,10,11,12,13,14,15,16])))))) (jr [jM 114 16,jP 115 .add 114 1,jM 16 115] [3,5,6,10,11,12,13,14,15,16])))
def GK:ACode:=(.seq (js [jM 99 14,jM 100 6,jY 101 100,jO 102 .lss 99 101] [3,5,6,10,11,12,13,14,102] (jx 102 4)) (.seq (.block 5 (js [jF 107 1 3,jE 108 107,jo 109 (.makeSlice [(.int .u64 0)] 8 (jt 108) (jt 108)),jM 15 109] [3,5,6,10,11,12,13,14,15] (.seq (js [jI 16 0] [3,5,6,10,11,12,13,14,15,16] (jK 6 WI)) (js [jo 205 (.buildSlice [] 0 []),jM 206 11,jh 207 1 8 205 206,jM 22 207] [3,5,6,10,11,12,13,14,15,22] (.seq (js [jI 23 0] [3,5,6,10,11,12,13,14,15,22,23] (jK 10 GL)) (js [jI 29 0] [3,5,6,10,11,12,13,14,22,29] (jK 12 GM))))))) (jr [jM 103 14,jF 104 2 3,jE 105 104,jO 106 .add 103 105,jM 14 106] [3,5,6,10,11,12,13,14])))
def WH:ACode:=(.seq (js [jM 61 9,jP 62 .geq 61 0] [3,5,6,7,8,9,62] (jx 62 2)) (.seq (.block 3 (js [jM 65 9,jM 66 5,jo 67 (.bin .mul (ji 2) (jt 66)),jP 68 .sub 67 1,jO 69 .eql 65 68] [3,5,6,7,8,9,69] (.cond (jt 69) (js [jM 70 7,jM 71 9,jM 72 8,jQ 73 .rem 72 .u64 32,jQ 74 .mul 73 .u64 8,jV 75 .u8 74,jJ 76 1 70 71,jS 1 76 75] [3,5,6,7,8,9] (jr [jM 77 8,jQ 78 .quo 77 .u64 32,jM 8 78] [3,5,6,7,8,9])) (js [jM 79 7,jM 80 9,jM 81 8,jQ 82 .rem 81 .u64 256,jV 83 .u8 82,jJ 84 1 79 80,jS 1 84 83] [3,5,6,7,8,9] (jr [jM 85 8,jQ 86 .quo 85 .u64 256,jM 8 86] [3,5,6,7,8,9]))))) (jr [jM 63 9,jP 64 .sub 63 1,jM 9 64] [3,5,6,7,8,9])))
def Mt:ACode:=(.seq (js [jM 40 6,jY 41 40,jM 42 5,jo 43 (.bin .mul (ji 2) (jt 42)),jO 44 .add 41 43,jF 45 2 3,jE 46 45,jO 47 .rem 44 46,jP 48 .neq 47 0] [0,3,5,6,48] (jx 48 0)) (.block 1 (jr [jM 49 6,jo 50 (.buildSlice [(.int .u8 0)] 1 [jg 0 .u8 0]),jh 51 1 1 49 50,jM 6 51] [0,3,5,6])))
def Ms:ACode:=(.seq (js [jM 5 4,jM 6 0,jO 7 .lss 5 6] [0,3,4,7] (jx 7 0)) (.seq (.block 1 (jr [jM 10 3,jQ 11 .mul 10 .u64 2,jM 3 11] [0,3,4])) (jr [jM 8 4,jP 9 .add 8 1,jM 4 9] [0,3,4])))
def Mr:ACode:=(.seq (js [jM 109 11,jP 110 .lss 109 64] [1,4,6,10,11,110] (jx 110 8)) (.seq (.block 9 (jr [jM 113 6,jF 114 3 1,jE 115 114,jM 116 10,jM 117 11,jJ 118 64 115 116,jH 119 64 1 118 117,jE 120 119,jo 121 (.buildSlice [(.int .u8 0)] 1 [jp 0 1 120]),jo 122 (.b2s (jt 121)),jO 123 .add 113 122,jM 6 123] [1,4,6,10,11])) (jr [jM 111 11,jP 112 .add 111 1,jM 11 112] [1,4,6,10,11])))
def Mq:ACode:=(.seq (js [jM 102 10,jF 103 3 1,jE 104 103,jY 105 104,jO 106 .lss 102 105] [1,4,6,10,106] (jx 106 6)) (.seq (.block 7 (js [jI 11 0] [1,4,6,10,11] (jK 8 Mr))) (jr [jM 107 10,jP 108 .add 107 1,jM 10 108] [1,4,6,10])))
def Mp:ACode:=(.seq (js [jM 86 9,jF 87 2 1,jE 88 87,jY 89 88,jO 90 .lss 86 89] [1,4,6,9,90] (jx 90 4)) (.seq (.block 5 (jr [jM 93 6,jF 94 2 1,jE 95 94,jM 96 9,jJ 97 1 95 96,jE 98 97,jV 99 .i64 98,jC 100 70 99,jO 101 .add 93 100,jM 6 101] [1,4,6,9])) (jr [jM 91 9,jP 92 .add 91 1,jM 9 92] [1,4,6,9])))
def Mo:ACode:=(.seq (js [jM 71 8,jP 72 .lss 71 32] [1,4,6,7,8,72] (jx 72 2)) (.seq (.block 3 (jr [jM 75 6,jF 76 1 1,jE 77 76,jM 78 7,jM 79 8,jJ 80 32 77 78,jH 81 32 1 80 79,jE 82 81,jo 83 (.buildSlice [(.int .u8 0)] 1 [jp 0 1 82]),jo 84 (.b2s (jt 83)),jO 85 .add 75 84,jM 6 85] [1,4,6,7,8])) (jr [jM 73 8,jP 74 .add 73 1,jM 8 74] [1,4,6,7,8])))
def Mn:ACode:=(.seq (js [jM 64 7,jF 65 1 1,jE 66 65,jY 67 66,jO 68 .lss 64 67] [1,4,6,7,68] (jx 68 0)) (.seq (.block 1 (js [jI 8 0] [1,4,6,7,8] (jK 2 Mo))) (jr [jM 69 7,jP 70 .add 69 1,jM 7 70] [1,4,6,7])))
def GJ:ACode:=(js [jO 94 .lss 93 92] [1,4,6,91,92,93,94] (.seq (jx 94 5) (.seq (.block 6 (js [jJ 95 64 91 93,jL 96 64 95,jZ 12 64 .u8,jS 64 12 96] [1,4,6,12,91,92,93] (jr [jF 97 0 6,jE 98 97,jW 99 64 1 12,jh 100 1 1 98 99,jF 101 0 6,jS 1 101 100] [1,4,6,91,92,93]))) (jr [jP 102 .add 93 1,jM 93 102] [1,4,6,91,92,93]))))
def GI:ACode:=(js [jO 84 .lss 83 82] [1,4,6,81,82,83,84] (.seq (jx 84 3) (.seq (.block 4 (js [jJ 85 1 81 83,jE 86 85,jM 10 86] [1,4,6,10,81,82,83] (jr [jM 87 10,jd 88 60 6 87] [1,4,6,81,82,83]))) (jr [jP 89 .add 83 1,jM 83 89] [1,4,6,81,82,83]))))
def GH:ACode:=(js [jO 71 .lss 70 69] [1,4,6,68,69,70,71] (.seq (jx 71 1) (.seq (.block 2 (js [jJ 72 32 68 70,jL 73 32 72,jZ 8 32 .u8,jS 32 8 73] [1,4,6,8,68,69,70] (jr [jF 74 0 6,jE 75 74,jW 76 32 1 8,jh 77 1 1 75 76,jF 78 0 6,jS 1 78 77] [1,4,6,68,69,70]))) (jr [jP 79 .add 70 1,jM 70 79] [1,4,6,68,69,70]))))
def Mm:ACode:=(.seq (js [jM 35 10,jY 36 35,jP 37 .gtr 36 0] [10,12,37] (jx 37 0)) (.seq (.block 1 (jr [jM 40 12,jM 41 10,jo 42 (.sliceSl 1 (jt 41) none (some (ji 32)) none),jo 43 (.s2ap 32 (jt 42)),jL 44 32 43,jm 45 32 1 [jp 0 32 44],jh 46 32 32 40 45,jM 12 46] [10,12])) (jr [jM 38 10,jo 39 (.sliceSl 1 (jt 38) (some (ji 32)) none none),jM 10 39] [10,12])))
def Ml:ACode:=(.seq (js [jM 19 8,jY 20 19,jM 21 1,jO 22 .lss 20 21] [1,2,3,8,9,10,22] (jx 22 0)) (.seq (.block 1 (js [jW 25 32 1 3,jc 26 116 25,jM 11 26] [1,2,3,8,9,10,11] (js [jM 27 11,jN 28 27,jF 29 0 28,jE 30 29,jM 31 9,jo 32 (.buildSlice [(.slice none 0 0)] 1 [jp 0 1 31]),jd 33 117 30 32] [1,2,3,8,10,11] (js [jM 34 11,jN 35 34,jF 36 0 35,jE 37 36,jM 38 2,jd 39 117 37 38] [1,2,3,8,10,11] (js [jM 40 11,jN 41 40,jF 42 0 41,jE 43 42,jM 44 10,jo 45 (.buildSlice [(.int .u8 0)] 1 [jp 0 1 44]),jo 46 (.buildSlice [(.slice none 0 0)] 1 [jp 0 1 45]),jd 47 117 43 46] [1,2,3,8,10,11] (js [jM 48 11,jc 49 118 48,jZ 12 32 .u8,jS 32 12 49] [1,2,3,8,10,12] (js [jW 50 32 1 12,jM 9 50] [1,2,3,8,9,10] (jr [jM 51 8,jM 52 9,jh 53 1 1 51 52,jM 8 53] [1,2,3,8,9,10])))))))) (jr [jM 23 10,jQ 24 .add 23 .u8 1,jM 10 24] [1,2,3,8,9,10])))
def Mk:ACode:=(js [jO 9 .lss 8 7] [0,6,7,8,9] (.seq (jx 9 0) (.seq (.block 1 (js [jJ 10 1 6 8,jE 11 10,jM 5 11] [0,5,6,7,8] (jr [jM 12 0,jN 13 12,jF 14 0 13,jM 15 5,jM 16 0,jo 17 (.mkFunc (.func 159) [(jt 16)] []),jo 18 (.call 158 [(jt 14),(ji 64),(jt 15),(jt 17)] false)] [0,6,7,8]))) (jr [jP 19 .add 8 1,jM 8 19] [0,6,7,8]))))
def Mj:ACode:=(js [jP 33 .lss 32 32] [2,3,4,32,33] (.seq (jx 33 0) (.seq (.block 1 (js [jM 34 32,jM 5 34] [2,3,4,5,32] (jr [jM 35 5,jM 36 3,jM 37 5,jP 38 .quo 37 4,jN 39 36,jF 40 2 39,jH 41 8 1 40 38,jE 42 41,jM 43 5,jP 44 .rem 43 4,jo 45 (.bin .mul (ji 8) (jt 44)),jo 46 (.bin .sub (ji 24) (jt 45)),jO 47 .shr 42 46,jV 48 .u8 47,jH 49 32 1 4 35,jS 1 49 48] [2,3,4,32]))) (jr [jP 50 .add 32 1,jM 32 50] [2,3,4,32]))))
def Mi:ACode:=(js [jP 23 .lss 22 64] [3,4,21,22,23] (.seq (jx 23 0) (.seq (.block 1 (js [jM 24 22,jo 25 (.index none 64 1 (jt 21) (jt 22)),jM 6 24,jM 7 25] [3,4,6,7,21,22] (jr [jM 26 6,jM 27 4,jM 28 6,jM 29 7,jQ 30 .xor 29 .u8 54,jM 31 7,jQ 32 .xor 31 .u8 92,jH 33 64 1 3 26,jS 1 33 30,jN 34 27,jF 35 1 34,jH 36 64 1 35 28,jS 1 36 32] [3,4,21,22]))) (jr [jP 37 .add 22 1,jM 22 37] [3,4,21,22]))))
def Mh:ACode:=(js [jP 216 .lss 215 8] [0,214,215,216] (.seq (jx 216 4) (.seq (.block 5 (js [jM 217 215,jo 218 (.index none 8 1 (jt 214) (jt 215)),jM 20 217,jM 21 218] [0,20,21,214,215] (jr [jM 219 0,jM 220 20,jN 221 219,jF 222 2 221,jH 223 8 1 222 220,jE 224 223,jM 225 21,jO 226 .add 224 225,jN 227 219,jF 228 2 227,jH 229 8 1 228 220,jS 1 229 226] [0,214,215]))) (jr [jP 230 .add 215 1,jM 215 230] [0,214,215]))))
def GF:ACode:=(js [jP 142 .lss 141 64] [0,4,8,9,10,11,12,13,14,15,16,141,142] (.seq (jx 142 2) (.seq (.block 3 (js [jM 143 141,jM 17 143] [0,4,8,9,10,11,12,13,14,15,16,17,141] (js [jM 144 16,jM 145 13,jo 146 (.call 182 [(jt 145),(ji 26)] true),jM 147 13,jo 148 (.call 182 [(jt 147),(ji 21)] true),jO 149 .xor 146 148,jM 150 13,jo 151 (.call 182 [(jt 150),(ji 7)] true),jO 152 .xor 149 151,jO 153 .add 144 152,jM 154 13,jM 155 14,jO 156 .and 154 155,jM 157 13,jo 158 (.un .xor (jt 157)),jM 159 15,jO 160 .and 158 159,jO 161 .xor 156 160,jO 162 .add 153 161,jM 163 17,jH 164 80 1 8 163,jE 165 164,jQ 166 .shr 165 .u64 32,jV 167 .u32 166,jO 168 .add 162 167,jM 169 17,jH 170 64 1 4 169,jE 171 170,jO 172 .add 168 171,jM 18 172] [0,4,8,9,10,11,12,13,14,15,18,141] (js [jM 173 9,jo 174 (.call 182 [(jt 173),(ji 30)] true),jM 175 9,jo 176 (.call 182 [(jt 175),(ji 19)] true),jO 177 .xor 174 176,jM 178 9,jo 179 (.call 182 [(jt 178),(ji 10)] true),jO 180 .xor 177 179,jM 181 9,jM 182 10,jO 183 .and 181 182,jM 184 9,jM 185 11,jO 186 .and 184 185,jO 187 .xor 183 186,jM 188 10,jM 189 11,jO 190 .and 188 189,jO 191 .xor 187 190,jO 192 .add 180 191,jM 19 192] [0,4,8,9,10,11,12,13,14,15,18,19,141] (jr [jM 193 18,jM 194 19,jO 195 .add 193 194,jM 196 9,jM 197 10,jM 198 11,jM 199 12,jM 200 18,jO 201 .add 199 200,jM 202 13,jM 203 14,jM 204 15,jM 9 195,jM 10 196,jM 11 197,jM 12 198,jM 13 201,jM 14 202,jM 15 203,jM 16 204] [0,4,8,9,10,11,12,13,14,15,16,141]))))) (jr [jP 205 .add 141 1,jM 141 205] [0,4,8,9,10,11,12,13,14,15,16,141]))))
def WG:ACode:=(js [jP 23 .lss 22 64] [0,1,4,22,23] (.seq (jx 23 0) (.seq (.block 1 (js [jM 24 22,jM 5 24] [0,1,4,5,22] (.seq (js [jM 25 5,jP 26 .lss 25 16] [0,1,4,5,22,26] (.cond (jt 26) (js [jM 27 5,jM 28 1,jM 29 5,jo 30 (.bin .mul (ji 4) (jt 29)),jJ 31 1 28 30,jE 32 31,jV 33 .u32 32,jQ 34 .shl 33 .u64 24,jM 35 1,jM 36 5,jo 37 (.bin .mul (ji 4) (jt 36)),jP 38 .add 37 1,jJ 39 1 35 38,jE 40 39,jV 41 .u32 40,jQ 42 .shl 41 .u64 16,jO 43 .or 34 42,jM 44 1,jM 45 5,jo 46 (.bin .mul (ji 4) (jt 45)),jP 47 .add 46 2,jJ 48 1 44 47,jE 49 48,jV 50 .u32 49,jQ 51 .shl 50 .u64 8,jO 52 .or 43 51,jM 53 1,jM 54 5,jo 55 (.bin .mul (ji 4) (jt 54)),jP 56 .add 55 3,jJ 57 1 53 56,jE 58 57,jV 59 .u32 58,jO 60 .or 52 59,jH 61 64 1 4 27,jS 1 61 60] [0,1,4,22] (.exit 1)) .skip)) (js [jM 62 5,jP 63 .sub 62 15,jH 64 64 1 4 63,jE 65 64,jM 66 5,jP 67 .sub 66 2,jH 68 64 1 4 67,jE 69 68,jM 6 65,jM 7 69] [0,1,4,5,6,7,22] (jr [jM 70 5,jM 71 5,jP 72 .sub 71 16,jH 73 64 1 4 72,jE 74 73,jM 75 5,jP 76 .sub 75 7,jH 77 64 1 4 76,jE 78 77,jO 79 .add 74 78,jM 80 6,jo 81 (.call 182 [(jt 80),(ji 25)] true),jM 82 6,jo 83 (.call 182 [(jt 82),(ji 14)] true),jO 84 .xor 81 83,jM 85 6,jQ 86 .shr 85 .u64 3,jO 87 .xor 84 86,jO 88 .add 79 87,jM 89 7,jo 90 (.call 182 [(jt 89),(ji 15)] true),jM 91 7,jo 92 (.call 182 [(jt 91),(ji 13)] true),jO 93 .xor 90 92,jM 94 7,jQ 95 .shr 94 .u64 10,jO 96 .xor 93 95,jO 97 .add 88 96,jH 98 64 1 4 70,jS 1 98 97] [0,1,4,22]))))) (jr [jP 99 .add 22 1,jM 22 99] [0,1,4,22]))))
def T4:ACode:=(js [jL 149 99 7,jL 150 5 10,jd 151 8 149 150,jM 148 151,jX 152 148 0,jX 153 148 1,jX 154 148 2,jo 19 (.alloc XG),jS 99 19 152,jM 20 153,jM 21 154] [7,10,21] (.seq (.region [jM 155 21,jP 156 .neq 155 0,jM 157 156,.mk (some 158) (.fieldAddr 66 (jt 7)) (some (157,false)),.mk (some 159) (.load (some 32) (jt 158)) (some (157,false)),.mk (some 160) (.fieldAddr 3 (jt 10)) (some (157,false)),.mk (some 161) (.load none (jt 160)) (some (157,false)),.mk (some 162) (.indexSl 64 (jt 161) (ji 0)) (some (157,false)),.mk (some 163) (.load (some 64) (jt 162)) (some (157,false)),.mk (some 164) (.load (some 5) (jt 10)) (some (157,false)),.mk (some 165) (.call 15 [(jt 164)] false) (some (157,false)),.mk (some 166) (.fieldAddr 4 (jt 10)) (some (157,false)),.mk (some 167) (.load none (jt 166)) (some (157,false)),.mk (some 168) (.b2s (jt 167)) (some (157,false)),.mk (some 169) (.bin .add (jt 165) (jt 168)) (some (157,false)),.mk (some 170) (.call 16 [(jt 159),(jt 163),(jt 169)] true) (some (157,false)),.mk (some 171) (.bin .eql (jt 170) (ji 0)) (some (157,false)),jo 172 (.pick (jt 157) (.const (.bool true)) (jt 171)),jM 6 172] (some [6]) [(4,10),(6,10),(8,10),(10,12),(10,13)]) .ret))
def UP:ACode:=(js [jo 85 (.buildSlice [] 0 []),jF 86 4 10,jE 87 86,jh 88 1 1 85 87,jF 89 4 10,jS 1 89 88] [5,7,10] (.seq (js [jA 90 3 1 5 0,jE 91 90] [5,7,10,91] (.block 0 (js [jP 93 .eql 91 0,jM 92 93] [5,7,10,91,92] (.cond (jt 92) (jr [jF 94 2 10,jE 95 94,jy 96 1 95 0,jE 97 96,jF 98 2 10,jE 99 98,jy 100 1 99 1,jE 101 100,jQ 102 .add 101 .u32 1,jo 103 (.buildSlice [(.int .u32 0),(.int .u32 0)] 2 [jp 0 1 97,jp 1 1 102]),jF 104 2 10,jS 1 104 103] [7,10]) (js [jP 106 .eql 91 1,jM 105 106] [5,7,10,91,105] (.cond (jt 105) (jr [jF 107 4 10,jE 108 107,jA 109 3 1 5 1,jE 110 109,jF 111 4 10,jE 112 111,jY 113 112,jO 114 .rem 110 113,jF 115 4 10,jE 116 115,jY 117 116,jO 118 .add 114 117,jF 119 4 10,jE 120 119,jY 121 120,jO 122 .rem 118 121,jJ 123 1 108 122,jE 124 123,jQ 125 .xor 124 .u8 1,jJ 126 1 108 122,jS 1 126 125] [7,10]) (js [jP 128 .eql 91 2,jM 127 128] [5,7,10,127] (.cond (jt 127) (js [jF 129 3 10,jE 130 129,jy 131 64 130 0,jL 132 64 131,jm 133 64 1 [jp 0 64 132],jF 134 3 10,jS 1 134 133] [5,7,10] (jr [jF 135 3 10,jE 136 135,jA 137 3 1 5 1,jE 138 137,jP 139 .rem 138 64,jP 140 .add 139 64,jP 141 .rem 140 64,jy 142 64 136 0,jH 143 64 1 142 141,jE 144 143,jQ 145 .xor 144 .u8 4,jy 146 64 136 0,jH 147 64 1 146 141,jS 1 147 145] [7,10])) (ja [jT 6 true] [6]))))))))) T4))
def T5:ACode:=(js [jL 44 98 3,jo 12 (.alloc K0),jS 98 12 44] [1,5,7,10,12] (js [jF 45 66 12,jA 46 32 1 45 0,jE 47 46,jQ 48 .xor 47 .u8 1,jF 49 66 12,jA 50 32 1 49 0,jS 1 50 48] [1,5,7,10,12] (js [jL 52 98 12,jM 53 1,jd 54 13 52 53,jM 51 54,jX 55 51 0,jX 56 51 1,jX 57 51 2,jo 13 (.alloc K0),jo 14 (.alloc Xs),jS 98 13 55,jS 5 14 56,jM 15 57] [5,7,10,14,15] (.seq (js [jM 58 15,jP 59 .neq 58 0] [5,7,10,14,59] (jl 59 [jT 6 false] [6])) (.seq (js [jL 61 99 7,jL 62 5 14,jd 63 8 61 62,jM 60 63,jX 64 60 0,jX 65 60 1,jX 66 60 2,jo 16 (.alloc XG),jS 99 16 64,jM 17 65,jM 18 66] [5,7,10,14,18] (.seq (.region [jM 67 18,jP 68 .eql 67 0,jM 69 68,.mk (some 70) (.fieldAddr 66 (jt 7)) (some (69,true)),.mk (some 71) (.load (some 32) (jt 70)) (some (69,true)),.mk (some 72) (.fieldAddr 3 (jt 14)) (some (69,true)),.mk (some 73) (.load none (jt 72)) (some (69,true)),.mk (some 74) (.indexSl 64 (jt 73) (ji 0)) (some (69,true)),.mk (some 75) (.load (some 64) (jt 74)) (some (69,true)),.mk (some 76) (.load (some 5) (jt 14)) (some (69,true)),.mk (some 77) (.call 15 [(jt 76)] false) (some (69,true)),.mk (some 78) (.s2b (jt 77)) (some (69,true)),.mk (some 79) (.fieldAddr 4 (jt 14)) (some (69,true)),.mk (some 80) (.load none (jt 79)) (some (69,true)),.mk (some 81) (.buildSlice [(.slice none 0 0),(.slice none 0 0)] 2 [jp 0 1 78,jp 1 1 80]) (some (69,true)),.mk (some 82) (.call 14 [(jt 71),(jt 75),(jt 81)] false) (some (69,true)),.mk (some 83) (.bin .neq (jt 82) (ji 0)) (some (69,true)),jo 84 (.pick (jt 69) (jt 83) (.const (.bool false)))] (some [5,7,10,84]) [(4,10),(6,10),(8,10),(10,13)]) (jl 84 [jT 6 false] [6]))) UP)))))
def YO:ACode:=(.seq (js [jM 56 0,jN 57 56,jF 58 0 57,jF 59 33 58,jE 60 59,jE 61 3,jO 62 .lss 60 61] [0,3,4,62] (jx 62 0)) (.block 1 (js [jM 63 0,jN 64 63,jF 65 0 64,jF 66 33 65,jE 67 66,jM 8 67] [0,3,4,8] (js [jM 69 0,jN 70 69,jF 71 0 70,jc 72 34 71,jM 68 72,jX 73 68 0,jX 74 68 1,jZ 9 32 .u8,jS 32 9 73,jM 10 74] [0,3,4,8,9,10] (.seq (js [jM 75 10,jP 76 .neq 75 0] [0,3,4,8,9,10,76] (.cond (jt 76) (ja [jb 77 [] 32,jM 78 10,jS 32 4 77,jM 5 78] [4,5]) .skip)) (jr [jM 79 0,jM 80 0,jN 81 80,jF 82 98 81,jE 83 82,jM 84 8,jL 85 32 9,jo 86 (.build TA [jp 0 1 84,jp 1 32 85]),jo 87 (.buildSlice TA 1 [jp 0 33 86]),jh 88 33 36 83 87,jN 89 79,jF 90 98 89,jS 1 90 88] [0,3,4]))))))
def L0:ACode:=(js [jO 9 .lss 8 7] [0,1,7,8,9] (.seq (jx 9 0) (.seq (.block 1 (js [jM 10 8,jM 5 10] [0,1,5,7,8] (js [jM 11 1,jM 12 0,jM 13 5,jJ 14 33 12 13,jL 15 33 14,jo 16 (.callv (jt 11) [(jt 15)])] [0,1,5,7,8,16] (jl 16 [jM 17 5,jM 4 17] [4])))) (jr [jP 18 .add 8 1,jM 8 18] [0,1,7,8]))))
def T3:ACode:=(js [jO 9 .lss 8 7] [3,6,7,8,9] (.seq (jx 9 0) (.seq (.block 1 (js [jJ 10 1 6 8,jE 11 10,jM 5 11] [3,5,6,7,8] (.seq (js [jM 12 5,jY 13 12,jM 14 3,jo 15 (.bin .sub (ji 1048576) (jt 14)),jO 16 .gtr 13 15] [3,5,6,7,8,16] (jl 16 [jT 2 true] [2])) (jr [jM 17 3,jM 18 5,jY 19 18,jO 20 .add 17 19,jM 3 20] [3,6,7,8])))) (jr [jP 21 .add 8 1,jM 8 21] [3,6,7,8]))))
def Mg:ACode:=(js [jO 20 .lss 19 18] [1,6,7,8,17,18,19,20] (.seq (jx 20 0) (.seq (.block 1 (js [jJ 21 1 17 19,jE 22 21,jM 10 22] [1,6,7,8,10,17,18,19] (jr [jM 23 8,jM 24 10,jh 25 1 1 23 24,jM 8 25] [1,6,7,8,17,18,19]))) (jr [jP 26 .add 19 1,jM 19 26] [1,6,7,8,17,18,19]))))
def UO:ACode:=(js [jO 15 .lss 14 13] [0,1,5,13,14,15] (.seq (jx 15 0) (.seq (.block 1 (js [jM 16 14,jM 6 16] [0,1,5,6,13,14] (jr [jM 17 5,jM 18 0,jM 19 6,jJ 20 1 18 19,jE 21 20,jM 22 1,jM 23 6,jJ 24 1 22 23,jE 25 24,jO 26 .xor 21 25,jO 27 .or 17 26,jM 5 27] [0,1,5,13,14]))) (jr [jP 28 .add 14 1,jM 14 28] [0,1,5,13,14]))))
def WE:ACode:=(js [jO 34 .lss 33 32] [2,4,5,10,13,32,33,34] (.seq (jx 34 2) (.seq (.block 3 (js [jM 35 33,jM 14 35] [2,4,5,10,13,14,32,33] (.seq (js [jM 36 14,jP 37 .rem 36 64,jP 38 .eql 37 0] [2,4,5,10,13,14,32,33,38] (.cond (jt 38) (jr [jL 39 32 4,jL 40 12 5,jM 41 2,jM 42 14,jP 43 .quo 42 64,jV 44 .u32 43,jO 45 .add 41 44,jG 46 119 39 40 45,jS 64 13 46] [2,4,5,10,13,14,32,33]) .skip)) (jr [jM 47 10,jM 48 14,jJ 49 1 47 48,jE 50 49,jM 51 14,jP 52 .rem 51 64,jH 53 64 1 13 52,jE 54 53,jO 55 .xor 50 54,jJ 56 1 47 48,jS 1 56 55] [2,4,5,10,13,32,33])))) (jr [jP 57 .add 33 1,jM 33 57] [2,4,5,10,13,32,33]))))
def GD:ACode:=(js [jO 18 .lss 17 16] [2,4,5,10,15,16,17,18] (.seq (jx 18 0) (.seq (.block 1 (js [jJ 19 1 15 17,jE 20 19,jM 12 20] [2,4,5,10,12,15,16,17] (.seq (js [jM 21 12,jY 22 21,jM 23 10,jY 24 23,jo 25 (.bin .sub (ji 16777216) (jt 24)),jO 26 .gtr 22 25] [2,4,5,10,12,15,16,17,26] (.cond (jt 26) (ja [jn 8,jI 9 2] [8,9]) .skip)) (jr [jM 27 10,jM 28 12,jh 29 1 1 27 28,jM 10 29] [2,4,5,10,15,16,17])))) (jr [jP 30 .add 17 1,jM 17 30] [2,4,5,10,15,16,17]))))
def Mf:ACode:=(js [jP 75 .lss 74 64] [6,7,10,13,74,75] (.seq (jx 75 10) (.seq (.block 11 (js [jM 76 74,jM 14 76] [6,7,10,13,14,74] (jr [jM 77 14,jM 78 14,jP 79 .quo 78 4,jH 80 16 1 10 79,jE 81 80,jM 82 14,jP 83 .quo 82 4,jH 84 16 1 7 83,jE 85 84,jO 86 .add 81 85,jM 87 14,jP 88 .rem 87 4,jo 89 (.bin .mul (ji 8) (jt 88)),jO 90 .shr 86 89,jV 91 .u8 90,jH 92 64 1 13 77,jS 1 92 91] [6,7,10,13,74]))) (jr [jP 93 .add 74 1,jM 74 93] [6,7,10,13,74]))))
def Me:ACode:=(js [jP 56 .lss 55 4] [6,7,10,41,55,56] (.seq (jx 56 8) (.seq (.block 9 (js [jM 57 55,jM 12 57] [6,7,10,12,41,55] (jr [jM 58 12,jM 59 12,jP 60 .add 59 1,jP 61 .rem 60 4,jo 62 (.bin .add (ji 4) (jt 61)),jM 63 12,jP 64 .add 63 2,jP 65 .rem 64 4,jo 66 (.bin .add (ji 8) (jt 65)),jM 67 12,jP 68 .add 67 3,jP 69 .rem 68 4,jo 70 (.bin .add (ji 12) (jt 69)),jo 71 (.call 162 [(jt 10),(jt 58),(jt 62),(jt 66),(jt 70)] false)] [6,7,10,41,55]))) (jr [jP 72 .add 55 1,jM 55 72] [6,7,10,41,55]))))
def Md:ACode:=(js [jP 44 .lss 43 4] [6,7,10,41,43,44] (.seq (jx 44 6) (.seq (.block 7 (js [jM 45 43,jM 11 45] [6,7,10,11,41,43] (jr [jM 46 11,jM 47 11,jo 48 (.bin .add (ji 4) (jt 47)),jM 49 11,jo 50 (.bin .add (ji 8) (jt 49)),jM 51 11,jo 52 (.bin .add (ji 12) (jt 51)),jo 53 (.call 162 [(jt 10),(jt 46),(jt 48),(jt 50),(jt 52)] false)] [6,7,10,41,43]))) (jr [jP 54 .add 43 1,jM 43 54] [6,7,10,41,43]))))
def Mb:ACode:=(js [jP 42 .lss 41 10] [6,7,10,41,42] (.seq (jx 42 4) (.seq (.block 5 (.seq (js [jI 43 0] [6,7,10,41,43] (jK 6 Md)) (js [jI 55 0] [6,7,10,41,55] (jK 8 Me)))) (jr [jP 73 .add 41 1,jM 41 73] [6,7,10,41]))))
def Ma:ACode:=(js [jP 30 .lss 29 3] [4,6,7,29,30] (.seq (jx 30 2) (.seq (.block 3 (js [jM 31 29,jM 9 31] [4,6,7,9,29] (jr [jM 32 9,jo 33 (.bin .add (ji 13) (jt 32)),jM 34 9,jo 35 (.bin .mul (ji 4) (jt 34)),jo 36 (.sliceArr 12 1 (jt 4) (some (jt 35)) none none),jc 37 161 36,jH 38 16 1 7 33,jS 1 38 37] [4,6,7,29]))) (jr [jP 39 .add 29 1,jM 29 39] [4,6,7,29]))))
def DZ:ACode:=(js [jP 17 .lss 16 8] [2,3,4,6,7,16,17] (.seq (jx 17 0) (.seq (.block 1 (js [jM 18 16,jM 8 18] [2,3,4,6,7,8,16] (jr [jM 19 8,jo 20 (.bin .add (ji 4) (jt 19)),jM 21 8,jo 22 (.bin .mul (ji 4) (jt 21)),jo 23 (.sliceArr 32 1 (jt 3) (some (jt 22)) none none),jc 24 161 23,jH 25 16 1 7 20,jS 1 25 24] [2,3,4,6,7,16]))) (jr [jP 26 .add 16 1,jM 16 26] [2,3,4,6,7,16]))))
def DY:ACode:=(.seq (js [jM 47 11,jY 48 47,jP 49 .geq 48 16] [2,4,10,11,12,38,39,40,49] (jx 49 6)) (.seq (.block 7 (jr [jM 52 12,jM 53 11,jo 54 (.sliceSl 1 (jt 53) none (some (ji 16)) none),jo 55 (.callv (jt 52) [(jt 54)])] [2,4,10,11,12,38,39,40])) (jr [jM 50 11,jo 51 (.sliceSl 1 (jt 50) (some (ji 16)) none none),jM 11 51] [2,4,10,11,12,38,39,40])))
def GC:ACode:=(js [jO 41 .lss 40 39] [2,4,10,11,12,38,39,40,41] (.seq (jx 41 4) (.seq (.block 5 (js [jJ 42 1 38 40,jE 43 42,jM 14 43] [2,4,10,11,12,14,38,39,40] (js [jM 44 11,jM 45 14,jh 46 1 1 44 45,jM 11 46] [2,4,10,11,12,38,39,40] (jK 6 DY)))) (jr [jP 56 .add 40 1,jM 40 56] [2,4,10,11,12,38,39,40]))))
def GB:ACode:=(js [jP 27 .lss 26 3] [1,2,4,25,26,27] (.seq (jx 27 2) (.seq (.block 3 (js [jo 28 (.index none 3 1 (jt 25) (jt 26)),jM 8 28] [1,2,4,8,25,26] (jr [jM 29 8,jH 30 32 1 2 29,jE 31 30,jQ 32 .and 31 .u8 252,jH 33 32 1 2 29,jS 1 33 32] [1,2,4,25,26]))) (jr [jP 34 .add 26 1,jM 26 34] [1,2,4,25,26]))))
def GA:ACode:=(js [jP 17 .lss 16 4] [1,2,4,15,16,17] (.seq (jx 17 0) (.seq (.block 1 (js [jo 18 (.index none 4 1 (jt 15) (jt 16)),jM 6 18] [1,2,4,6,15,16] (jr [jM 19 6,jH 20 32 1 2 19,jE 21 20,jQ 22 .and 21 .u8 15,jH 23 32 1 2 19,jS 1 23 22] [1,2,4,15,16]))) (jr [jP 24 .add 16 1,jM 16 24] [1,2,4,15,16]))))
def DX:ACode:=(js [jP 7 .lss 6 4] [0,3,6,7] (.seq (jx 7 0) (.seq (.block 1 (js [jM 8 6,jM 4 8] [0,3,4,6] (jr [jM 9 3,jM 10 4,jM 11 0,jM 12 4,jo 13 (.bin .mul (ji 8) (jt 12)),jO 14 .shr 11 13,jV 15 .u8 14,jJ 16 1 9 10,jS 1 16 15] [0,3,6]))) (jr [jP 17 .add 6 1,jM 6 17] [0,3,6]))))
def G9:ACode:=(js [jP 16 .lss 15 2] [0,1,2,3,4,14,15,16] (.seq (jx 16 0) (.seq (.block 1 (js [jo 17 (.index (some 2) 2 2 (jt 14) (jt 15)),jo 11 (.alloc [(.int .i64 0),(.int .i64 0)]),jS 2 11 17] [0,1,2,3,4,11,14,15] (js [jM 18 0,jM 19 1,jN 20 18,jH 21 16 1 20 19,jE 22 21,jM 23 0,jM 24 2,jN 25 23,jH 26 16 1 25 24,jE 27 26,jO 28 .add 22 27,jN 29 18,jH 30 16 1 29 19,jS 1 30 28] [0,1,2,3,4,11,14,15] (js [jM 31 0,jM 32 4,jM 33 0,jM 34 4,jN 35 33,jH 36 16 1 35 34,jE 37 36,jM 38 0,jM 39 1,jN 40 38,jH 41 16 1 40 39,jE 42 41,jO 43 .xor 37 42,jA 44 2 1 11 0,jE 45 44,jD 46 182 43 45,jN 47 31,jH 48 16 1 47 32,jS 1 48 46] [0,1,2,3,4,11,14,15] (js [jM 49 0,jM 50 3,jN 51 49,jH 52 16 1 51 50,jE 53 52,jM 54 0,jM 55 4,jN 56 54,jH 57 16 1 56 55,jE 58 57,jO 59 .add 53 58,jN 60 49,jH 61 16 1 60 50,jS 1 61 59] [0,1,2,3,4,11,14,15] (jr [jM 62 0,jM 63 2,jM 64 0,jM 65 2,jN 66 64,jH 67 16 1 66 65,jE 68 67,jM 69 0,jM 70 3,jN 71 69,jH 72 16 1 71 70,jE 73 72,jO 74 .xor 68 73,jA 75 2 1 11 1,jE 76 75,jD 77 182 74 76,jN 78 62,jH 79 16 1 78 63,jS 1 79 77] [0,1,2,3,4,14,15])))))) (jr [jP 80 .add 15 1,jM 15 80] [0,1,2,3,4,14,15]))))
def UN:ACode:=(js [jO 9 .lss 8 7] [2,3,6,7,8,9] (.seq (jx 9 0) (.seq (.block 1 (js [jM 10 8,jJ 11 1 6 8,jE 12 11,jM 4 10,jM 5 12] [2,3,4,5,6,7,8] (js [jM 13 4,jo 14 (.bin .mul (ji 8) (jt 13)),jP 15 .quo 14 26,jH 16 5 1 3 15,jE 17 16,jM 18 5,jV 19 .u64 18,jM 20 4,jo 21 (.bin .mul (ji 8) (jt 20)),jP 22 .rem 21 26,jO 23 .shl 19 22,jQ 24 .and 23 .u64 67108863,jO 25 .or 17 24,jH 26 5 1 3 15,jS 1 26 25] [2,3,4,5,6,7,8] (js [jM 27 4,jo 28 (.bin .mul (ji 8) (jt 27)),jP 29 .rem 28 26,jP 30 .gtr 29 18,jM 31 30,.mk (some 32) (.move (jt 4)) (some (31,true)),.mk (some 33) (.bin .mul (ji 8) (jt 32)) (some (31,true)),.mk (some 34) (.bin .quo (jt 33) (ji 26)) (some (31,true)),.mk (some 35) (.bin .lss (jt 34) (ji 4)) (some (31,true)),jo 36 (.pick (jt 31) (jt 35) (.const (.bool false)))] [2,3,4,5,6,7,8,36] (.cond (jt 36) (jr [jM 37 4,jo 38 (.bin .mul (ji 8) (jt 37)),jP 39 .quo 38 26,jP 40 .add 39 1,jH 41 5 1 3 40,jE 42 41,jM 43 5,jV 44 .u64 43,jM 45 4,jo 46 (.bin .mul (ji 8) (jt 45)),jP 47 .rem 46 26,jo 48 (.bin .sub (ji 26) (jt 47)),jO 49 .shr 44 48,jO 50 .or 42 49,jH 51 5 1 3 40,jS 1 51 50] [2,3,6,7,8]) .skip))))) (jr [jP 52 .add 8 1,jM 8 52] [2,3,6,7,8]))))
def DW:ACode:=(js [jP 13 .lss 12 5] [1,2,4,12,13] (.seq (jx 13 0) (.seq (.block 1 (js [jM 14 12,jM 5 14] [1,2,4,5,12] (jr [jM 15 5,jH 16 5 1 1 15,jE 17 16,jM 18 5,jH 19 5 1 4 18,jE 20 19,jO 21 .add 17 20,jH 22 5 1 1 15,jS 1 22 21] [1,2,4,12]))) (jr [jP 23 .add 12 1,jM 12 23] [1,2,4,12]))))
def Gz:ACode:=(js [jP 17 .lss 16 5] [3,4,5,6,7,10,11,15,16,17] (.seq (jx 17 2) (.seq (.block 3 (js [jM 18 16,jo 19 (.index none 5 1 (jt 15) (jt 16)),jM 8 18,jM 9 19] [3,4,5,6,7,8,9,10,11,15,16] (js [jM 20 6,jM 21 8,jO 22 .add 20 21,jP 23 .gtr 22 4] [3,4,5,6,7,8,9,10,11,15,16,23] (.cond (jt 23) (jr [jM 24 6,jM 25 8,jO 26 .add 24 25,jP 27 .sub 26 5,jH 28 5 1 5 27,jE 29 28,jM 30 7,jo 31 (.bin .mul (.const (.int .u64 5)) (jt 30)),jM 32 9,jO 33 .mul 31 32,jO 34 .add 29 33,jH 35 5 1 5 27,jS 1 35 34] [3,4,5,6,7,10,11,15,16]) (jr [jM 36 6,jM 37 8,jO 38 .add 36 37,jH 39 5 1 5 38,jE 40 39,jM 41 7,jM 42 9,jO 43 .mul 41 42,jO 44 .add 40 43,jH 45 5 1 5 38,jS 1 45 44] [3,4,5,6,7,10,11,15,16]))))) (jr [jP 46 .add 16 1,jM 16 46] [3,4,5,6,7,10,11,15,16]))))
def DV:ACode:=(js [jP 12 .lss 11 5] [3,4,5,10,11,12] (.seq (jx 12 0) (.seq (.block 1 (js [jM 13 11,jo 14 (.index none 5 1 (jt 10) (jt 11)),jM 6 13,jM 7 14] [3,4,5,6,7,10,11] (js [jL 15 5 3,jI 16 0] [3,4,5,6,7,10,11,15,16] (jK 2 Gz)))) (jr [jP 47 .add 11 1,jM 11 47] [3,4,5,10,11]))))
def UM:ACode:=(js [jP 51 .lss 50 16] [2,3,4,8,9,50,51] (.seq (jx 51 4) (.seq (.block 5 (js [jM 52 50,jM 10 52] [2,3,4,8,9,10,50] (js [jM 53 10,jo 54 (.bin .mul (ji 8) (jt 53)),jP 55 .quo 54 26,jH 56 5 1 2 55,jE 57 56,jM 58 10,jo 59 (.bin .mul (ji 8) (jt 58)),jP 60 .rem 59 26,jO 61 .shr 57 60,jM 11 61] [2,3,4,8,9,10,11,50] (.seq (js [jM 62 10,jo 63 (.bin .mul (ji 8) (jt 62)),jP 64 .rem 63 26,jP 65 .gtr 64 18,jM 66 65,.mk (some 67) (.move (jt 10)) (some (66,true)),.mk (some 68) (.bin .mul (ji 8) (jt 67)) (some (66,true)),.mk (some 69) (.bin .quo (jt 68) (ji 26)) (some (66,true)),.mk (some 70) (.bin .lss (jt 69) (ji 4)) (some (66,true)),jo 71 (.pick (jt 66) (jt 70) (.const (.bool false)))] [2,3,4,8,9,10,11,50,71] (.cond (jt 71) (jr [jM 72 11,jM 73 10,jo 74 (.bin .mul (ji 8) (jt 73)),jP 75 .quo 74 26,jP 76 .add 75 1,jH 77 5 1 2 76,jE 78 77,jM 79 10,jo 80 (.bin .mul (ji 8) (jt 79)),jP 81 .rem 80 26,jo 82 (.bin .sub (ji 26) (jt 81)),jO 83 .shl 78 82,jO 84 .or 72 83,jM 11 84] [2,3,4,8,9,10,11,50]) .skip)) (js [jM 85 9,jM 86 11,jV 87 .u8 86,jV 88 .i64 87,jM 89 10,jo 90 (.bin .add (ji 16) (jt 89)),jH 91 32 1 3 90,jE 92 91,jV 93 .i64 92,jO 94 .add 88 93,jO 95 .add 85 94,jM 9 95] [2,3,4,8,9,10,50] (js [jM 96 10,jM 97 9,jV 98 .u8 97,jH 99 16 1 8 96,jS 1 99 98] [2,3,4,8,9,50] (jr [jM 100 9,jQ 101 .shr 100 .u64 8,jM 9 101] [2,3,4,8,9,50]))))))) (jr [jP 102 .add 50 1,jM 50 102] [2,3,4,8,9,50]))))
def DU:ACode:=(js [jP 32 .lss 31 5] [2,3,4,5,31,32] (.seq (jx 32 2) (.seq (.block 3 (js [jM 33 31,jM 7 33] [2,3,4,5,7,31] (js [jM 34 7,jH 35 5 1 2 34,jE 36 35,jM 37 5,jO 38 .add 36 37,jH 39 5 1 2 34,jS 1 39 38] [2,3,4,7,31] (js [jM 40 7,jH 41 5 1 2 40,jE 42 41,jQ 43 .shr 42 .u64 26,jM 5 43] [2,3,4,5,7,31] (jr [jM 44 7,jH 45 5 1 2 44,jE 46 45,jQ 47 .and 46 .u64 67108863,jH 48 5 1 2 44,jS 1 48 47] [2,3,4,5,31]))))) (jr [jP 49 .add 31 1,jM 31 49] [2,3,4,5,31]))))
def DT:ACode:=(js [jP 16 .lss 15 5] [2,3,4,5,15,16] (.seq (jx 16 0) (.seq (.block 1 (js [jM 17 15,jM 6 17] [2,3,4,5,6,15] (jr [jM 18 6,jH 19 5 1 2 18,jE 20 19,jM 21 5,jO 22 .add 20 21,jQ 23 .shr 22 .u64 26,jM 5 23] [2,3,4,5,15]))) (jr [jP 24 .add 15 1,jM 15 24] [2,3,4,5,15]))))
def DS:ACode:=(js [jP 6 .lss 5 5] [1,2,3,5,6] (.seq (jx 6 0) (.seq (.block 1 (js [jM 7 5,jM 4 7] [1,2,3,4,5] (js [jM 8 4,jH 9 5 1 1 8,jE 10 9,jM 11 3,jO 12 .add 10 11,jH 13 5 1 1 8,jS 1 13 12] [1,2,4,5] (js [jM 14 4,jH 15 5 1 1 14,jE 16 15,jQ 17 .shr 16 .u64 26,jM 3 17] [1,2,3,4,5] (jr [jM 18 4,jH 19 5 1 1 18,jE 20 19,jQ 21 .and 20 .u64 67108863,jH 22 5 1 1 18,jS 1 22 21] [1,2,3,5]))))) (jr [jP 23 .add 5 1,jM 5 23] [1,2,3,5]))))
set_option maxHeartbeats 0 in
def Sa:List AFun:=((by intros;apply Subtype.mk;cbv:∀(R:RT) (Q:QT) (l0 l1 l2 l3:ACode),{l:List AFun // l=XH R Q [] [(compFun Go.Proofs.Tryz.prog Go.Proofs.Tryz.f129,[[1,2],[1,2],[1,2],[2]],[]),(compFun Go.Proofs.Tryz.prog Go.Proofs.Tryz.f94,[[0,2],[0,2,3],[2,3,6,7,8],[2]],[l0]),(compFun Go.Proofs.Tryz.prog Go.Proofs.Tryz.f112,[[0,2],[0,2,3],[0,2,3,4],[2]],[l1]),(compFun Go.Proofs.Tryz.prog Go.Proofs.Tryz.f76,[[3,4,5,6],[6]],[]),(compFun Go.Proofs.Tryz.prog Go.Proofs.Tryz.f49,[[1],[1,3],[1,3,4],[2]],[l2]),(compFun Go.Proofs.Tryz.prog Go.Proofs.Tryz.f110,[[],[1],[0]],[l3]),(compFun Go.Proofs.Tryz.prog Go.Proofs.Tryz.f42,[[0],[0,1],[0,1,2],[0]],[])]}) Qc Qc CV CU CS L4).1
set_option maxHeartbeats 0 in
def mf:List AFun:=((by intros;apply Subtype.mk;cbv:∀(R:RT) (Q:QT) (l0 l1:ACode),{l:List AFun // l=XH R Q [] [(compFun Go.Proofs.Tryz.prog Go.Proofs.Tryz.f43,[[2,3,4],[2,3,4,5,6],[2,3,4,5,6,7],[4]],[l0]),(compFun Go.Proofs.Tryz.prog Go.Proofs.Tryz.f41,[[0,2],[0,2,3,4],[2,3,4,9,10,11],[2]],[l1]),(compFun Go.Proofs.Tryz.prog Go.Proofs.Tryz.f87,[[2,3],[4]],[]),(compFun Go.Proofs.Tryz.prog Go.Proofs.Tryz.f45,[[1,2],[1,2,3],[1,2,3,4],[2,4,17],[2,4],[2]],[]),(compFun Go.Proofs.Tryz.prog Go.Proofs.Tryz.f89,[[0],[0]],[])]}) Qc Qc R2 CR).1
set_option maxHeartbeats 0 in
def pkF2:List AFun:=((by intros;apply Subtype.mk;cbv:∀(R:RT) (Q:QT),{l:List AFun // l=XH R Q [] [(compFun Go.Proofs.Tryz.prog Go.Proofs.Tryz.f37,[[1,2],[1,2,4],[1,2,4],[1,2,4,5],[2,4,5,21],[2,3],[2,4,5,6],[2,4,5,7,8],[2,4,5,7,47],[2,3],[2,5,7,49],[2,5,7],[2,3]],[])]}) Qc Qc).1
set_option maxHeartbeats 0 in
def xH:List AFun:=((by intros;apply Subtype.mk;cbv:∀(R:RT) (Q:QT),{l:List AFun // l=XH R Q [] [(compFun Go.Proofs.Tryz.prog Go.Proofs.Tryz.f46,[[1,2],[1,2,4],[1,2,4],[1,2,4,5],[2,4,5,21],[2,3],[2,4,5,6],[2,4,5,7,8],[2,4,5,7,49],[2,3],[2,5,7,56],[2,5,7],[2,3]],[]),(compFun Go.Proofs.Tryz.prog Go.Proofs.Tryz.f47,[[1,2],[1,2,3],[1,2,3,4],[2,4,5],[2,4,22],[2,4],[2]],[]),(compFun Go.Proofs.Tryz.prog Go.Proofs.Tryz.f44,[[1,2],[2]],[])]}) Qc Qc).1
set_option maxHeartbeats 0 in
def pkF4:List AFun:=((by intros;apply Subtype.mk;cbv:∀(R:RT) (Q:QT),{l:List AFun // l=XH R Q [] [(compFun Go.Proofs.Tryz.prog Go.Proofs.Tryz.f53,[[3,4,5,6],[3,4,5,6,7],[3,4,5,6,7,8],[3,4,5,6,7,8,9,10],[3,4,6,7,8,9,10,11],[3,4,6,7,9,10,12,13],[6,7,9,10,12,13,14],[6]],[]),(compFun Go.Proofs.Tryz.prog Go.Proofs.Tryz.f52,[[0],[0,1],[0]],[])]}) Qc Qc).1
set_option maxHeartbeats 0 in
def pkF5:List AFun:=((by intros;apply Subtype.mk;cbv:∀(R:RT) (Q:QT) (l0 l1:ACode),{l:List AFun // l=XH R Q [] [(compFun Go.Proofs.Tryz.prog Go.Proofs.Tryz.f48,[[2,3,4],[2,3,4,5],[2,3,4,5,6],[2,3,4,5,6,7],[4]],[l0]),(compFun Go.Proofs.Tryz.prog Go.Proofs.Tryz.f90,[[0],[0,3],[3,11,12,13],[2]],[l1])]}) Qc Qc R0 Df).1
set_option maxHeartbeats 0 in
def pkF6:List AFun:=((by intros;apply Subtype.mk;cbv:∀(R:RT) (Q:QT) (l0:ACode),{l:List AFun // l=XH R Q [] [(compFun Go.Proofs.Tryz.prog Go.Proofs.Tryz.f133,[[0],[0,3,4,5],[0,3,4,5,6],[2]],[l0])]}) Qc Qc VQ).1
set_option maxHeartbeats 0 in
def pkF7:List AFun:=((by intros;apply Subtype.mk;cbv:∀(R:RT) (Q:QT) (l0 l1:ACode),{l:List AFun // l=XH R Q [] [(compFun Go.Proofs.Tryz.prog Go.Proofs.Tryz.f155,[[0,2],[0,2,3],[0,2,3,4],[0,2,3,4,5],[2,3,11],[2,3,11,12],[2]],[l1,l0])]}) Qc Qc CN CL).1
set_option maxHeartbeats 0 in
def lJ:List AFun:=((by intros;apply Subtype.mk;cbv:∀(R:RT) (Q:QT) (l0 l1:ACode),{l:List AFun // l=XH R Q [] [(compFun Go.Proofs.Tryz.prog Go.Proofs.Tryz.f131,[[0,1],[0,1,5],[1,5,17,18,19],[4]],[l0]),(compFun Go.Proofs.Tryz.prog Go.Proofs.Tryz.f132,[[0,1],[1,5],[1,5],[1,5,6],[1,5,6,19,20],[4]],[l1]),(compFun Go.Proofs.Tryz.prog Go.Proofs.Tryz.f92,[[],[0]],[]),(compFun Go.Proofs.Tryz.prog Go.Proofs.Tryz.f82,[[0,2],[2]],[]),(compFun Go.Proofs.Tryz.prog Go.Proofs.Tryz.f84,[[0],[0]],[])]}) Qc Qc CJ BT).1
set_option maxHeartbeats 0 in
def pkF9:List AFun:=((by intros;apply Subtype.mk;cbv:∀(R:RT) (Q:QT),{l:List AFun // l=XH R Q [] [(compFun Go.Proofs.Tryz.prog Go.Proofs.Tryz.f88,[[1,2],[1,2,3,4],[1,2,3,4,5],[1,2,3,4,5,6],[2,3,4,5,6,7],[2,3,4,5,6,8],[2,5,6,8,9],[2,6,8,9,10],[2]],[])]}) Qc Qc).1
set_option maxHeartbeats 0 in
def pkF10:List AFun:=((by intros;apply Subtype.mk;cbv:∀(R:RT) (Q:QT),{l:List AFun // l=XH R Q [] [(compFun Go.Proofs.Tryz.prog Go.Proofs.Tryz.f95,[[3,4,5,6],[3,4,5,6,7],[3,4,5,6,7,8],[3,4,6,7,8,9],[6,7,8,9,10],[6,11,12,13,14],[6]],[])]}) Qc Qc).1
set_option maxHeartbeats 0 in
def mc:List AFun:=((by intros;apply Subtype.mk;cbv:∀(R:RT) (Q:QT) (l0 l1 l2:ACode),{l:List AFun // l=XH R Q [] [(compFun Go.Proofs.Tryz.prog Go.Proofs.Tryz.f97,[[1,2],[1,2],[1,2,3],[1,2,3,13,14],[1,2],[1,2,3],[1,2,3,6],[1,2,3,6,30],[1,2,6,54],[2]],[l2,l1,l0]),(compFun Go.Proofs.Tryz.prog Go.Proofs.Tryz.f98,[[1],[2]],[]),(compFun Go.Proofs.Tryz.prog Go.Proofs.Tryz.f80,[[2,3,4],[2,3,4,6],[2,3,4,7],[2,4,7,8],[2,4,7,8,32],[4,7,36],[4,7],[4,5],[4,7,47],[4,7],[4,5]],[])]}) Qc Qc Rz CE CD).1
set_option maxHeartbeats 0 in
def bB:List AFun:=((by intros;apply Subtype.mk;cbv:∀(R:RT) (Q:QT) (l0 l1 l2 l3:ACode),{l:List AFun // l=XH R Q [] [(compFun Go.Proofs.Tryz.prog Go.Proofs.Tryz.f81,[[2,3,4],[2,3,4,6],[2,4],[4]],[l0]),(compFun Go.Proofs.Tryz.prog Go.Proofs.Tryz.f99,[[1,2],[1,2,3],[1,2,3,4],[2,3],[2]],[l1]),(compFun Go.Proofs.Tryz.prog Go.Proofs.Tryz.f100,[[1,2],[1,2],[1,2,3],[1,2,3,4],[2]],[l2]),(compFun Go.Proofs.Tryz.prog Go.Proofs.Tryz.f101,[[2,3,4],[2,3,4,5],[2,3,4,5,6],[4]],[l3])]}) Qc Qc CC C7 C6 C4).1
set_option maxHeartbeats 0 in
def Fo:List AFun:=((by intros;apply Subtype.mk;cbv:∀(R:RT) (Q:QT) (l0 l1:ACode),{l:List AFun // l=XH R Q [] [(compFun Go.Proofs.Tryz.prog Go.Proofs.Tryz.f102,[[1,2],[1,2,4],[1,2,4],[1,2,4,5],[1,2,9],[1,2,9,44],[1,2,9],[2,3]],[l0]),(compFun Go.Proofs.Tryz.prog Go.Proofs.Tryz.f104,[[0,2],[2]],[]),(compFun Go.Proofs.Tryz.prog Go.Proofs.Tryz.f106,[[2,3,4],[2,3,4,5],[2,3,4,5,6],[4]],[l1]),(compFun Go.Proofs.Tryz.prog Go.Proofs.Tryz.f107,[[1,2],[1,2],[1,2,7],[2],[2]],[]),(compFun Go.Proofs.Tryz.prog Go.Proofs.Tryz.f108,[[0],[0]],[]),(compFun Go.Proofs.Tryz.prog Go.Proofs.Tryz.f144,[[0,1,2],[0,1,6],[6,7]],[])]}) Qc Qc Cz Cy).1
set_option maxHeartbeats 0 in
def Ap:List AFun:=((by intros;apply Subtype.mk;cbv:∀(R:RT) (Q:QT) (l0 l1:ACode),{l:List AFun // l=XH R Q [] [(compFun Go.Proofs.Tryz.prog Go.Proofs.Tryz.f171,[[0,1,2],[8],[6,8],[6,7]],[]),(compFun Go.Proofs.Tryz.prog Go.Proofs.Tryz.f135,[[0,1,4],[4,5,6],[4]],[]),(compFun Go.Proofs.Tryz.prog Go.Proofs.Tryz.f136,[[1,2,3,6],[3,6,7,8],[3,6,7,8,9],[6,7,8],[6]],[]),(compFun Go.Proofs.Tryz.prog Go.Proofs.Tryz.f137,[[1],[2,3]],[]),(compFun Go.Proofs.Tryz.prog Go.Proofs.Tryz.f138,[[1,2,4],[2,4,5,6],[4]],[]),(compFun Go.Proofs.Tryz.prog Go.Proofs.Tryz.f139,[[1,2],[1,2,3],[1,2,3,5],[1,2],[2]],[l0]),(compFun Go.Proofs.Tryz.prog Go.Proofs.Tryz.f140,[[0,2],[0,2,3],[2,3,7,8,9],[2]],[l1])]}) Qc Qc qb Cx).1
set_option maxHeartbeats 0 in
def bA:List AFun:=((by intros;apply Subtype.mk;cbv:∀(R:RT) (Q:QT) (l0 l1 l2 l3:ACode),{l:List AFun // l=XH R Q [] [(compFun Go.Proofs.Tryz.prog Go.Proofs.Tryz.f141,[[2,3,4],[2,3,4,5],[2,3,4,5,6],[4]],[l0]),(compFun Go.Proofs.Tryz.prog Go.Proofs.Tryz.f142,[[0,1,4],[0,1,4,5],[1,4,5,7,8],[4,5],[4]],[l1]),(compFun Go.Proofs.Tryz.prog Go.Proofs.Tryz.f150,[[0],[0,1],[0,1,2],[0,1],[0,1],[0]],[l2]),(compFun Go.Proofs.Tryz.prog Go.Proofs.Tryz.f151,[[2,3,4],[2,3,4,5],[2,3,4,5,6],[4]],[l3])]}) Qc Qc Ry Cw Cs Rx).1
set_option maxHeartbeats 0 in
def mb:List AFun:=((by intros;apply Subtype.mk;cbv:∀(R:RT) (Q:QT) (l0 l1:ACode),{l:List AFun // l=XH R Q [] [(compFun Go.Proofs.Tryz.prog Go.Proofs.Tryz.f152,[[0],[0,1],[0,1],[0,1,2],[0]],[l0]),(compFun Go.Proofs.Tryz.prog Go.Proofs.Tryz.f153,[[2,3,4],[2,3,4,5],[2,3,4,5,6],[2,3,4,5,6,7],[4]],[l1]),(compFun Go.Proofs.Tryz.prog Go.Proofs.Tryz.f172,[[0,1],[0,1,6],[0,1,6,7],[0,1,6,7,8],[0,1,6,7,8,9],[0,1,6,7,8,9,10],[0,1,6,7,9,11],[0,1,6,7,9,11,12],[0,1,6,7,9,12,13],[0,1,7,9,12,13],[0,1,4],[4,5]],[])]}) Qc Qc Cp Co).1
set_option maxHeartbeats 0 in
def wo:List AFun:=((by intros;apply Subtype.mk;cbv:∀(R:RT) (Q:QT),{l:List AFun // l=XH R Q [] [(compFun Go.Proofs.Tryz.prog Go.Proofs.Tryz.f36,[[1,2,4],[1,4,5],[1,4,5,6],[1,4,5,6,7],[1,4,5,6,7,8],[4,5,7,8,9],[4,8,10],[4]],[]),(compFun Go.Proofs.Tryz.prog Go.Proofs.Tryz.f14,[[2,3,4],[2,3,4,7,8],[2,3,4,7,8,20],[6],[2,3,7,9,10],[2,3,7,9,10,34],[6],[2,3,7,9,10,12],[2,3,7,9,10,41],[6],[7,9,10,13],[59],[6],[6]],[])]}) Qc Qc).1
set_option maxHeartbeats 0 in
def Fm:List AFun:=((by intros;apply Subtype.mk;cbv:∀(R:RT) (Q:QT) (l0:ACode),{l:List AFun // l=XH R Q [] [(compFun Go.Proofs.Tryz.prog Go.Proofs.Tryz.f33,[[1,2],[2]],[]),(compFun Go.Proofs.Tryz.prog Go.Proofs.Tryz.f74,[[1,2],[2,3],[2]],[]),(compFun Go.Proofs.Tryz.prog Go.Proofs.Tryz.f40,[[0,2],[2,3],[2]],[]),(compFun Go.Proofs.Tryz.prog Go.Proofs.Tryz.f93,[[0,2],[0,2,3],[2,3],[2]],[]),(compFun Go.Proofs.Tryz.prog Go.Proofs.Tryz.f145,[[],[0]],[]),(compFun Go.Proofs.Tryz.prog Go.Proofs.Tryz.f147,[[0,2],[0,2,3],[2,3],[2,3,4],[2,3,4,32],[2]],[l0])]}) Qc Qc M0).1
set_option maxHeartbeats 0 in
def bw:List AFun:=((by intros;apply Subtype.mk;cbv:∀(R:RT) (Q:QT) (l0 l1 l2:ACode),{l:List AFun // l=XH R Q [] [(compFun Go.Proofs.Tryz.prog Go.Proofs.Tryz.f158,[[0,1,2,3],[0,1,3]],[l0]),(compFun Go.Proofs.Tryz.prog Go.Proofs.Tryz.f175,[[0,1,2],[0,1,2,7],[0,7,8],[6]],[l2,l1]),(compFun Go.Proofs.Tryz.prog Go.Proofs.Tryz.f186,[[0,1],[0,5],[4]],[]),(compFun Go.Proofs.Tryz.prog Go.Proofs.Tryz.f183,[[0],[0]],[])]}) Qc Qc YQ V6 YP).1
set_option maxHeartbeats 0 in
def pkF20:List AFun:=((by intros;apply Subtype.mk;cbv:∀(R:RT) (Q:QT) (l0:ACode),{l:List AFun // l=XH R Q [] [(compFun Go.Proofs.Tryz.prog Go.Proofs.Tryz.f16,[[2,3,4],[2,3,4,7,8],[2,3,4,7,8,21],[6],[2,3,4,7,9,10],[2,3,4,7,9,10,11],[2,3,7,9,10,50],[6],[2,3,7,9,10,12,13],[2,3,7,9,10,12,57],[6],[7,10,12,14],[77],[6],[6]],[l0])]}) Qc Qc Mx).1
set_option maxHeartbeats 0 in
def bu:List AFun:=((by intros;apply Subtype.mk;cbv:∀(R:RT) (Q:QT) (l0:ACode),{l:List AFun // l=XH R Q [] [(compFun Go.Proofs.Tryz.prog Go.Proofs.Tryz.f111,[[0,2],[0,2,3],[0,2,3],[0,2,3],[2,4],[2,4,5],[2,4,5,6],[2]],[l0]),(compFun Go.Proofs.Tryz.prog Go.Proofs.Tryz.f177,[[],[0]],[]),(compFun Go.Proofs.Tryz.prog Go.Proofs.Tryz.f179,[[0,1,2],[0,1,2,8],[6],[6]],[]),(compFun Go.Proofs.Tryz.prog Go.Proofs.Tryz.f181,[[0,1],[0,1,6],[4],[4]],[])]}) Qc Qc Mw).1
set_option maxHeartbeats 0 in
def pkF22:List AFun:=((by intros;apply Subtype.mk;cbv:∀(R:RT) (Q:QT) (l0 l1 l2:ACode),{l:List AFun // l=XH R Q [] [(compFun Go.Proofs.Tryz.prog Go.Proofs.Tryz.f23,[[1],[1,4,5],[1,4,5,19],[2,3],[1,4,23],[2,3],[1,4,57],[2,3],[1,4,6],[1,4,6,68,69,70],[1,4,6,81,82,83],[1,4,6,91,92,93],[1,6,104],[1,6],[6],[2,3]],[l2,l1,l0])]}) Qc Qc GJ GI GH).1
set_option maxHeartbeats 0 in
def Nz:List AFun:=((by intros;apply Subtype.mk;cbv:∀(R:RT) (Q:QT) (l0:ACode),{l:List AFun // l=XH R Q [] [(compFun Go.Proofs.Tryz.prog Go.Proofs.Tryz.f69,[[0,2],[0,2,4],[0,2,4,19],[2,3],[2,3]],[]),(compFun Go.Proofs.Tryz.prog Go.Proofs.Tryz.f75,[[0,1,2,3],[0,1,2,3,18],[8,9],[10,11],[10,11,33],[8,9],[10,12],[8,9]],[l0]),(compFun Go.Proofs.Tryz.prog Go.Proofs.Tryz.f157,[[0,2],[0,2,3],[2,3],[2]],[]),(compFun Go.Proofs.Tryz.prog Go.Proofs.Tryz.f59,[[0,2],[2,4],[2,4,5],[2,3],[2,4,8],[2,3],[2,4,11],[2,3],[2,4,14],[2,3],[2,4,17],[2,3],[2,4,20],[2,3],[2,23],[2,3],[2,3]],[]),(compFun Go.Proofs.Tryz.prog Go.Proofs.Tryz.f60,[[]],[])]}) Qc Qc Mm).1
set_option maxHeartbeats 0 in
def ma:List AFun:=((by intros;apply Subtype.mk;cbv:∀(R:RT) (Q:QT) (l0 l1:ACode),{l:List AFun // l=XH R Q [] [(compFun Go.Proofs.Tryz.prog Go.Proofs.Tryz.f64,[[1,2,3],[1,2,3,18],[6,7],[1,2,3,8,9],[1,2,3,8,9,10],[6,7]],[l0]),(compFun Go.Proofs.Tryz.prog Go.Proofs.Tryz.f156,[[],[0]],[]),(compFun Go.Proofs.Tryz.prog Go.Proofs.Tryz.f160,[[0,2],[0,2,3],[2,3],[2,3,4],[2,3,4,32],[2]],[l1])]}) Qc Qc Ml Mj).1
set_option maxHeartbeats 0 in
def bt:List AFun:=((by intros;apply Subtype.mk;cbv:∀(R:RT) (Q:QT) (z0:List Value) (l0:ACode),{l:List AFun // l=XH R Q [(65,z0)] [(compFun Go.Proofs.Tryz.prog Go.Proofs.Tryz.f116,[[0],[0,3],[0,3,4],[0,3,4,13],[3,4,5],[0,3,4],[3,4],[3,4,21,22],[4],[2]],[l0]),(compFun Go.Proofs.Tryz.prog Go.Proofs.Tryz.f118,[[0,2],[0,2,3],[2]],[]),(compFun Go.Proofs.Tryz.prog Go.Proofs.Tryz.f170,[[0,1,4],[1,4,5],[4,5],[4]],[]),(compFun Go.Proofs.Tryz.prog Go.Proofs.Tryz.f182,[[0,1],[0,5],[4]],[])]}) Qc Qc zMac Mi).1
set_option maxHeartbeats 0 in
def pkF26:List AFun:=((by intros;apply Subtype.mk;cbv:∀(R:RT) (Q:QT) (z0:List Value),{l:List AFun // l=XH R Q [(99,z0)] [(compFun Go.Proofs.Tryz.prog Go.Proofs.Tryz.f8,[[2,3,4],[2,3,4,8],[2,3,4,26],[4,5,6],[2,3,4,45],[4,5,6],[2,3,4,9],[2,3,4,9,10],[2,3,4,9,10,61],[4,5,6],[2,3,4,9,11],[2,3,4,9,11],[2,3,4,9,11,12,13],[2,3,4,9,11,12,13,78],[4,5,6],[2,4,11,13,14],[2,4,11,13,14,92],[4,5,6],[4,5,6]],[])]}) Qc Qc XG).1
set_option maxHeartbeats 0 in
def wm:List AFun:=((by intros;apply Subtype.mk;cbv:∀(R:RT) (Q:QT) (z0 z1 z2:List Value),{l:List AFun // l=XH R Q [(99,z0),(5,z1),(66,z2)] [(compFun Go.Proofs.Tryz.prog Go.Proofs.Tryz.f11,[[1,2],[1,2,5],[1,2,17],[2,3],[2,3]],[]),(compFun Go.Proofs.Tryz.prog Go.Proofs.Tryz.f12,[[1,2],[2]],[])]}) Qc Qc XG Xs T9).1
set_option maxHeartbeats 0 in
def pkF28:List AFun:=((by intros;apply Subtype.mk;cbv:∀(R:RT) (Q:QT) (z0 z1:List Value),{l:List AFun // l=XH R Q [(5,z0),(98,z1)] [(compFun Go.Proofs.Tryz.prog Go.Proofs.Tryz.f13,[[1,2,4,5],[1,2,4,5,14],[4,5,6],[1,2,4,5,7],[1,2,4,5,7,8,9],[1,2,4,5,7,8,9,24],[4,5,6],[1,2,4,5,7,8,10],[1,2,4,5,7,8,10,11],[2,4,5,7,9,10,11],[2,4,5,7,9,10,11,55],[4,5,6],[4,5,7,10],[4,5,6]],[])]}) Qc Qc Xs K0).1
set_option maxHeartbeats 0 in
def lU:List AFun:=((by intros;apply Subtype.mk;cbv:∀(R:RT) (Q:QT) (z0 z1:List Value),{l:List AFun // l=XH R Q [(66,z0),(98,z1)] [(compFun Go.Proofs.Tryz.prog Go.Proofs.Tryz.f22,[[1,4,6,7,8],[8]],[]),(compFun Go.Proofs.Tryz.prog Go.Proofs.Tryz.f24,[[1],[1],[3],[2]],[]),(compFun Go.Proofs.Tryz.prog Go.Proofs.Tryz.f25,[[0],[0,4],[2],[2]],[])]}) Qc Qc T9 K0).1
set_option maxHeartbeats 0 in
def pkF30:List AFun:=((by intros;apply Subtype.mk;cbv:∀(R:RT) (Q:QT) (l0:ACode),{l:List AFun // l=XH R Q [] [(compFun Go.Proofs.Tryz.prog Go.Proofs.Tryz.f26,[[0,3,4],[0,3,4,17],[0,4,6],[0,4,6,25],[4,5],[0,4,6,7],[4,7],[4,5],[0,3,4,54],[4,5],[0,4],[4,5]],[l0])]}) Qc Qc YO).1
set_option maxHeartbeats 0 in
def lQ:List AFun:=((by intros;apply Subtype.mk;cbv:∀(R:RT) (Q:QT),{l:List AFun // l=XH R Q [] [(compFun Go.Proofs.Tryz.prog Go.Proofs.Tryz.f27,[[1,2],[2,3],[2]],[]),(compFun Go.Proofs.Tryz.prog Go.Proofs.Tryz.f28,[[1,2,3],[1,2,3,8],[1,2,3,8,18],[6,7],[1,2,3,8,20],[6,7],[1,3,8,9],[1,3,8,32],[6,7],[6,7]],[]),(compFun Go.Proofs.Tryz.prog Go.Proofs.Tryz.f35,[[1,2,3],[1,2,3,17],[6,7],[2,3,8,9],[2,3,8,9,29],[6,7],[8,10],[6,7]],[])]}) Qc Qc).1
set_option maxHeartbeats 0 in
def lN:List AFun:=((by intros;apply Subtype.mk;cbv:∀(R:RT) (Q:QT) (l0 l1 l2 l3:ACode),{l:List AFun // l=XH R Q [] [(compFun Go.Proofs.Tryz.prog Go.Proofs.Tryz.f66,[[1,2,3,6],[1,2,6,7],[1,2,6,7,8],[1,6,7,8,17,18,19],[1,6,7,8,11],[6]],[l0]),(compFun Go.Proofs.Tryz.prog Go.Proofs.Tryz.f67,[[0,1],[0,1,11],[4],[0,1,5],[0,1,5,13,14],[4]],[l1]),(compFun Go.Proofs.Tryz.prog Go.Proofs.Tryz.f68,[[2,3,4,5],[2,3,4,5,10],[2,4,5,10,15,16,17],[2,4,5,10,13],[2,4,5,10,13,32,33],[8,9]],[l3,l2])]}) Qc Qc Mg UO WE GD).1
set_option maxHeartbeats 0 in
def pkF33:List AFun:=((by intros;apply Subtype.mk;cbv:∀(R:RT) (Q:QT) (l0 l1 l2 l3:ACode),{l:List AFun // l=XH R Q [] [(compFun Go.Proofs.Tryz.prog Go.Proofs.Tryz.f119,[[2,3,4,6],[2,3,4,6,7],[2,3,4,6,7,16],[4,6,7],[4,6,7,29],[6,7,10],[6,7,10,41],[6,7,10,13],[6,7,10,13,74],[6]],[l3,l2,l1,l0])]}) Qc Qc Mf Mb Ma DZ).1
set_option maxHeartbeats 0 in
def lM:List AFun:=((by intros;apply Subtype.mk;cbv:∀(R:RT) (Q:QT) (l0 l1 l2:ACode),{l:List AFun // l=XH R Q [] [(compFun Go.Proofs.Tryz.prog Go.Proofs.Tryz.f120,[[1,2,4],[1,2,4,15,16],[1,2,4,25,26],[1,2,4,9],[1,2,4,9,10],[1,2,4,9,10,11],[1,2,4,10,11,12],[2,4,10,11,12,38,39,40],[2,4,10,11,12,59],[2,4,10],[4]],[l2,l1,l0]),(compFun Go.Proofs.Tryz.prog Go.Proofs.Tryz.f121,[[0],[2]],[]),(compFun Go.Proofs.Tryz.prog Go.Proofs.Tryz.f161,[[0],[2]],[])]}) Qc Qc GC GB GA).1
set_option maxHeartbeats 0 in
def lL:List AFun:=((by intros;apply Subtype.mk;cbv:∀(R:RT) (Q:QT) (l0 l1 l2:ACode),{l:List AFun // l=XH R Q [] [(compFun Go.Proofs.Tryz.prog Go.Proofs.Tryz.f162,[[0,1,2,3,4,14,15]],[l0]),(compFun Go.Proofs.Tryz.prog Go.Proofs.Tryz.f164,[[1,2,4],[1,2,4,12],[]],[l1]),(compFun Go.Proofs.Tryz.prog Go.Proofs.Tryz.f165,[[2,3,4],[2,3,4,5],[3,4,5,10,11],[4]],[l2])]}) Qc Qc G9 DW DV).1
set_option maxHeartbeats 0 in
def wj:List AFun:=((by intros;apply Subtype.mk;cbv:∀(R:RT) (Q:QT) (l0 l1 l2 l3:ACode),{l:List AFun // l=XH R Q [] [(compFun Go.Proofs.Tryz.prog Go.Proofs.Tryz.f166,[[2,3,4],[2,3,4],[2,3,4,5],[2,3,4,5,15],[2,3,4],[2,3,4,5],[2,3,4,5,31],[2,3,4,8],[2,3,4,8,9],[2,3,4,8,9,50],[4]],[l2,l1,l0]),(compFun Go.Proofs.Tryz.prog Go.Proofs.Tryz.f184,[[1,2],[1,2,3],[1,2,3,5],[1,2],[2]],[l3])]}) Qc Qc UM DU DT DS).1
def a16:AFun:=(fun {b r} (_:AFun.mk b r=Jz Sa 0)=>AFun.mk b r) rfl
def a17:AFun:=(fun {b r} (_:AFun.mk b r=Jz Sa 1)=>AFun.mk b r) rfl
def a18:AFun:=(fun {b r} (_:AFun.mk b r=Jz Sa 2)=>AFun.mk b r) rfl
def a19:AFun:=(fun {b r} (_:AFun.mk b r=Jz Sa 3)=>AFun.mk b r) rfl
def a21:AFun:=⟨(js [jB 1 0,jT 2 false] [1] (ja [jW 3 32 1 1,jc 4 90 3,jo 5 (.call 92 [] false),jd 6 91 4 5,jM 2 6] [2])),[(2,none)]⟩
def a22:AFun:=(fun {b r} (_:AFun.mk b r=Jz Sa 4)=>AFun.mk b r) rfl
def a23:AFun:=(fun {b r} (_:AFun.mk b r=Jz Sa 5)=>AFun.mk b r) rfl
def a25:AFun:=(fun {b r} (_:AFun.mk b r=Jz Sa 6)=>AFun.mk b r) rfl
def a26:AFun:=(fun {b r} (_:AFun.mk b r=Jz mf 0)=>AFun.mk b r) rfl
def a27:AFun:=(fun {b r} (_:AFun.mk b r=Jz mf 1)=>AFun.mk b r) rfl
def a28:AFun:=(fun {b r} (_:AFun.mk b r=Jz mf 2)=>AFun.mk b r) rfl
def a29:AFun:=(fun {b r} (_:AFun.mk b r=Jz mf 3)=>AFun.mk b r) rfl
def a30:AFun:=(fun {b r} (_:AFun.mk b r=Jz mf 4)=>AFun.mk b r) rfl
def a31:AFun:=(fun {b r} (_:AFun.mk b r=Jz pkF2 0)=>AFun.mk b r) rfl
def a32:AFun:=(fun {b r} (_:AFun.mk b r=Jz xH 0)=>AFun.mk b r) rfl
def a33:AFun:=(fun {b r} (_:AFun.mk b r=Jz xH 1)=>AFun.mk b r) rfl
def a34:AFun:=(fun {b r} (_:AFun.mk b r=Jz xH 2)=>AFun.mk b r) rfl
def a35:AFun:=(fun {b r} (_:AFun.mk b r=Jz pkF4 0)=>AFun.mk b r) rfl
def a36:AFun:=⟨(js [jZ 0 16 .u64] [0] (ja [jv 1 104 .u64 121665,jC 2 107 1,jv 3 104 .u64 121666,jC 4 105 3,jD 5 101 2 4,jS 16 0 5] [0])),[(0,(some (some 16)))]⟩
def a37:AFun:=(fun {b r} (_:AFun.mk b r=Jz pkF4 1)=>AFun.mk b r) rfl
def a38:AFun:=(fun {b r} (_:AFun.mk b r=Jz pkF5 0)=>AFun.mk b r) rfl
def a39:AFun:=⟨(js [jB 1 0,jT 2 false] [1] (ja [jL 3 20 1,jC 4 88 3,jC 5 88 4,jC 6 88 5,jf 7 89,jD 8 87 6 7,jM 2 8] [2])),[(2,none)]⟩
def a40:AFun:=(fun {b r} (_:AFun.mk b r=Jz pkF5 1)=>AFun.mk b r) rfl
def a41:AFun:=(fun {b r} (_:AFun.mk b r=Jz pkF6 0)=>AFun.mk b r) rfl
def a42:AFun:=⟨(js [jZ 2 32 .u8] [0,2] (js [jZ 3 32 .u8] [0,2,3] (.seq (js [jI 5 0] [0,2,3,5] (jK 0 CO)) (ja [jL 21 32 3,jS 32 2 21] [2])))),[(2,(some (some 32)))]⟩
def a43:AFun:=(fun {b r} (_:AFun.mk b r=Jz pkF7 0)=>AFun.mk b r) rfl
def a44:AFun:=(fun {b r} (_:AFun.mk b r=Jz lJ 0)=>AFun.mk b r) rfl
def a45:AFun:=(fun {b r} (_:AFun.mk b r=Jz lJ 1)=>AFun.mk b r) rfl
def a46:AFun:=⟨(js [jT 4 false] [0,1] (js [jk 5 .u32 0] [0,1,5] (.seq (js [jM 7 0,jY 8 7,jI 9 0] [0,1,5,8,9] (jK 0 CI)) (ja [jM 26 5,jQ 27 .eql 26 .u32 1,jM 4 27] [4])))),[(4,none)]⟩
def a47:AFun:=(fun {b r} (_:AFun.mk b r=Jz lJ 2)=>AFun.mk b r) rfl
def a48:AFun:=⟨(js [jT 4 false] [0,1] (.seq (js [jM 6 0,jY 7 6,jP 8 .sub 7 1,jM 5 8] [0,1,5] (jK 0 CG)) (ja [jT 4 false] [4]))),[(4,none)]⟩
def a49:AFun:=⟨(js [jB 1 0,jZ 2 5 .u64] [1,2] (js [jZ 3 5 .u64] [1,2,3] (.seq (js [jI 5 0] [1,2,3,5] (jK 0 CF)) (ja [jL 29 5 3,jS 5 2 29] [2])))),[(2,(some (some 5)))]⟩
def a50:AFun:=(fun {b r} (_:AFun.mk b r=Jz lJ 3)=>AFun.mk b r) rfl
def a51:AFun:=⟨(js [jB 2 0,jB 3 1,jZ 4 5 .u64] [2,3,4] (js [jF 29 0 2,jF 30 0 3,jM 5 29,jM 6 30] [4,5,6] (js [jM 31 5,jN 32 31,jA 33 5 1 32 1,jE 34 33,jo 35 (.bin .mul (.const (.int .u64 19)) (jt 34)),jM 36 5,jN 37 36,jA 38 5 1 37 2,jE 39 38,jo 40 (.bin .mul (.const (.int .u64 19)) (jt 39)),jM 41 5,jN 42 41,jA 43 5 1 42 3,jE 44 43,jo 45 (.bin .mul (.const (.int .u64 19)) (jt 44)),jM 46 5,jN 47 46,jA 48 5 1 47 4,jE 49 48,jo 50 (.bin .mul (.const (.int .u64 19)) (jt 49)),jM 7 35,jM 8 40,jM 9 45,jM 10 50] [4,5,6,7,8,9,10] (js [jM 51 5,jN 52 51,jA 53 5 1 52 0,jE 54 53,jM 55 6,jN 56 55,jA 57 5 1 56 0,jE 58 57,jD 59 135 54 58,jM 60 7,jM 61 6,jN 62 61,jA 63 5 1 62 4,jE 64 63,jG 65 136 59 60 64,jM 66 8,jM 67 6,jN 68 67,jA 69 5 1 68 3,jE 70 69,jG 71 136 65 66 70,jM 72 9,jM 73 6,jN 74 73,jA 75 5 1 74 2,jE 76 75,jG 77 136 71 72 76,jM 78 10,jM 79 6,jN 80 79,jA 81 5 1 80 1,jE 82 81,jG 83 136 77 78 82,jo 11 (.alloc [(.int .u64 0),(.int .u64 0)]),jS 2 11 83] [4,5,6,8,9,10,11] (js [jM 84 5,jN 85 84,jA 86 5 1 85 0,jE 87 86,jM 88 6,jN 89 88,jA 90 5 1 89 1,jE 91 90,jD 92 135 87 91,jM 93 5,jN 94 93,jA 95 5 1 94 1,jE 96 95,jM 97 6,jN 98 97,jA 99 5 1 98 0,jE 100 99,jG 101 136 92 96 100,jM 102 8,jM 103 6,jN 104 103,jA 105 5 1 104 4,jE 106 105,jG 107 136 101 102 106,jM 108 9,jM 109 6,jN 110 109,jA 111 5 1 110 3,jE 112 111,jG 113 136 107 108 112,jM 114 10,jM 115 6,jN 116 115,jA 117 5 1 116 2,jE 118 117,jG 119 136 113 114 118,jo 12 (.alloc [(.int .u64 0),(.int .u64 0)]),jS 2 12 119] [4,5,6,9,10,11,12] (js [jM 120 5,jN 121 120,jA 122 5 1 121 0,jE 123 122,jM 124 6,jN 125 124,jA 126 5 1 125 2,jE 127 126,jD 128 135 123 127,jM 129 5,jN 130 129,jA 131 5 1 130 1,jE 132 131,jM 133 6,jN 134 133,jA 135 5 1 134 1,jE 136 135,jG 137 136 128 132 136,jM 138 5,jN 139 138,jA 140 5 1 139 2,jE 141 140,jM 142 6,jN 143 142,jA 144 5 1 143 0,jE 145 144,jG 146 136 137 141 145,jM 147 9,jM 148 6,jN 149 148,jA 150 5 1 149 4,jE 151 150,jG 152 136 146 147 151,jM 153 10,jM 154 6,jN 155 154,jA 156 5 1 155 3,jE 157 156,jG 158 136 152 153 157,jo 13 (.alloc [(.int .u64 0),(.int .u64 0)]),jS 2 13 158] [4,5,6,10,11,12,13] (js [jM 159 5,jN 160 159,jA 161 5 1 160 0,jE 162 161,jM 163 6,jN 164 163,jA 165 5 1 164 3,jE 166 165,jD 167 135 162 166,jM 168 5,jN 169 168,jA 170 5 1 169 1,jE 171 170,jM 172 6,jN 173 172,jA 174 5 1 173 2,jE 175 174,jG 176 136 167 171 175,jM 177 5,jN 178 177,jA 179 5 1 178 2,jE 180 179,jM 181 6,jN 182 181,jA 183 5 1 182 1,jE 184 183,jG 185 136 176 180 184,jM 186 5,jN 187 186,jA 188 5 1 187 3,jE 189 188,jM 190 6,jN 191 190,jA 192 5 1 191 0,jE 193 192,jG 194 136 185 189 193,jM 195 10,jM 196 6,jN 197 196,jA 198 5 1 197 4,jE 199 198,jG 200 136 194 195 199,jo 14 (.alloc [(.int .u64 0),(.int .u64 0)]),jS 2 14 200] [4,5,6,11,12,13,14] (js [jM 201 5,jN 202 201,jA 203 5 1 202 0,jE 204 203,jM 205 6,jN 206 205,jA 207 5 1 206 4,jE 208 207,jD 209 135 204 208,jM 210 5,jN 211 210,jA 212 5 1 211 1,jE 213 212,jM 214 6,jN 215 214,jA 216 5 1 215 3,jE 217 216,jG 218 136 209 213 217,jM 219 5,jN 220 219,jA 221 5 1 220 2,jE 222 221,jM 223 6,jN 224 223,jA 225 5 1 224 2,jE 226 225,jG 227 136 218 222 226,jM 228 5,jN 229 228,jA 230 5 1 229 3,jE 231 230,jM 232 6,jN 233 232,jA 234 5 1 233 1,jE 235 234,jG 236 136 227 231 235,jM 237 5,jN 238 237,jA 239 5 1 238 4,jE 240 239,jM 241 6,jN 242 241,jA 243 5 1 242 0,jE 244 243,jG 245 136 236 240 244,jo 15 (.alloc [(.int .u64 0),(.int .u64 0)]),jS 2 15 245] [4,11,12,13,14,15] (js [jL 247 2 11,jC 248 137 247,jM 246 248,jX 249 246 0,jX 250 246 1,jM 16 249,jM 17 250] [4,12,13,14,15,16,17] (js [jL 252 2 12,jC 253 137 252,jM 251 253,jX 254 251 0,jX 255 251 1,jM 18 254,jM 19 255] [4,13,14,15,16,17,18,19] (js [jL 257 2 13,jC 258 137 257,jM 256 258,jX 259 256 0,jX 260 256 1,jM 20 259,jM 21 260] [4,14,15,16,17,18,19,20,21] (js [jL 262 2 14,jC 263 137 262,jM 261 263,jX 264 261 0,jX 265 261 1,jM 22 264,jM 23 265] [4,15,16,17,18,19,20,21,22,23] (js [jL 267 2 15,jC 268 137 267,jM 266 268,jX 269 266 0,jX 270 266 1,jM 24 269,jM 25 270] [4,16,17,18,19,20,21,22,23,24,25] (js [jM 271 24,jo 272 (.call 135 [(.const (.int .u64 19)),(jt 271)] true),jM 273 17,jD 274 138 272 273,jo 26 (.alloc [(.int .u64 0),(.int .u64 0)]),jS 2 26 274] [4,16,18,19,20,21,22,23,25,26] (js [jL 276 2 26,jC 277 137 276,jM 275 277,jX 278 275 0,jX 279 275 1,jM 27 278,jM 28 279] [4,16,18,19,20,21,22,23,25,27,28] (ja [jM 280 28,jM 281 19,jM 282 16,jO 283 .add 281 282,jM 284 27,jO 285 .add 283 284,jM 286 21,jM 287 18,jO 288 .add 286 287,jM 289 23,jM 290 20,jO 291 .add 289 290,jM 292 25,jM 293 22,jO 294 .add 292 293,jo 295 (.build (Qc 5 (.int .u64 0)) [jp 0 1 280,jp 1 1 285,jp 2 1 288,jp 3 1 291,jp 4 1 294]),jo 296 (.build (Qc 5 (.int .u64 0)) [jp 0 5 295]),jC 297 139 296,jS 5 4 297] [4])))))))))))))))),[(4,(some (some 5)))]⟩
def a52:AFun:=(fun {b r} (_:AFun.mk b r=Jz lJ 4)=>AFun.mk b r) rfl
def a53:AFun:=(fun {b r} (_:AFun.mk b r=Jz pkF9 0)=>AFun.mk b r) rfl
def a54:AFun:=(fun {b r} (_:AFun.mk b r=Jz pkF10 0)=>AFun.mk b r) rfl
def a55:AFun:=⟨(js [jB 2 0,jB 3 1,jT 4 false] [2,3] (ja [jL 5 5 2,jC 6 97 5,jL 7 5 3,jC 8 97 7,je 9 32 false 6 8,jM 4 9] [4])),[(4,none)]⟩
def a56:AFun:=⟨(js [jB 1 0,jZ 2 5 .u64] [1,2] (ja [jL 3 5 1,jo 4 (.call 142 [(ji 255),(.const (.int .u8 20))] true),jD 5 141 3 4,jS 5 2 5] [2])),[(2,(some (some 5)))]⟩
def a57:AFun:=(fun {b r} (_:AFun.mk b r=Jz mc 0)=>AFun.mk b r) rfl
def a58:AFun:=(fun {b r} (_:AFun.mk b r=Jz mc 1)=>AFun.mk b r) rfl
def a59:AFun:=⟨(js [jB 1 0,jT 2 false] [1] (ja [jL 3 32 1,jC 4 77 3,jC 5 97 4,jL 6 32 1,je 7 32 false 5 6,jM 2 7] [2])),[(2,none)]⟩
def a60:AFun:=(fun {b r} (_:AFun.mk b r=Jz mc 2)=>AFun.mk b r) rfl
def a61:AFun:=(fun {b r} (_:AFun.mk b r=Jz bB 0)=>AFun.mk b r) rfl
def a62:AFun:=⟨(js [jZ 2 5 .u64] [0,2] (js [jZ 3 5 .u64] [0,2,3] (.seq (js [jM 7 0,jY 8 7,jI 9 0] [2,3,7,8,9] (jK 0 C8)) (ja [jL 35 5 3,jC 36 139 35,jS 5 2 36] [2])))),[(2,(some (some 5)))]⟩
def a63:AFun:=⟨(js [jB 1 0,jT 2 false] [1] (ja [jL 3 5 1,jC 4 97 3,jb 5 [] 32,je 6 32 false 4 5,jM 2 6] [2])),[(2,none)]⟩
def a64:AFun:=⟨(js [jB 1 0,jZ 2 5 .u64] [1,2] (ja [jo 3 (.build (Qc 5 (.int .u64 0)) []),jL 4 5 1,jD 5 81 3 4,jS 5 2 5] [2])),[(2,(some (some 5)))]⟩
def a65:AFun:=(fun {b r} (_:AFun.mk b r=Jz bB 1)=>AFun.mk b r) rfl
def a66:AFun:=(fun {b r} (_:AFun.mk b r=Jz bB 2)=>AFun.mk b r) rfl
def a67:AFun:=(fun {b r} (_:AFun.mk b r=Jz bB 3)=>AFun.mk b r) rfl
def a68:AFun:=(fun {b r} (_:AFun.mk b r=Jz Fo 0)=>AFun.mk b r) rfl
def a69:AFun:=⟨(js [jB 2 0,jB 3 1,jZ 4 16 .u64] [2,3,4] (ja [jL 5 16 2,jL 6 16 3,jC 7 107 6,jD 8 106 5 7,jS 16 4 8] [4])),[(4,(some (some 16)))]⟩
def a70:AFun:=(fun {b r} (_:AFun.mk b r=Jz Fo 1)=>AFun.mk b r) rfl
def a71:AFun:=⟨(js [jB 1 0,jZ 2 16 .u64] [1,2] (ja [jL 3 16 1,jf 4 150,jv 5 104 .u64 2,jD 6 153 4 5,jD 7 151 3 6,jS 16 2 7] [2])),[(2,(some (some 16)))]⟩
def a72:AFun:=(fun {b r} (_:AFun.mk b r=Jz Fo 2)=>AFun.mk b r) rfl
def a73:AFun:=(fun {b r} (_:AFun.mk b r=Jz Fo 3)=>AFun.mk b r) rfl
def a74:AFun:=(fun {b r} (_:AFun.mk b r=Jz Fo 4)=>AFun.mk b r) rfl
def a75:AFun:=(fun {b r} (_:AFun.mk b r=Jz Fo 5)=>AFun.mk b r) rfl
def a76:AFun:=(fun {b r} (_:AFun.mk b r=Jz Ap 0)=>AFun.mk b r) rfl
def a77:AFun:=(fun {b r} (_:AFun.mk b r=Jz Ap 1)=>AFun.mk b r) rfl
def a78:AFun:=(fun {b r} (_:AFun.mk b r=Jz Ap 2)=>AFun.mk b r) rfl
def a79:AFun:=(fun {b r} (_:AFun.mk b r=Jz Ap 3)=>AFun.mk b r) rfl
def a80:AFun:=(fun {b r} (_:AFun.mk b r=Jz Ap 4)=>AFun.mk b r) rfl
def a81:AFun:=(fun {b r} (_:AFun.mk b r=Jz Ap 5)=>AFun.mk b r) rfl
def a82:AFun:=(fun {b r} (_:AFun.mk b r=Jz Ap 6)=>AFun.mk b r) rfl
def a83:AFun:=(fun {b r} (_:AFun.mk b r=Jz bA 0)=>AFun.mk b r) rfl
def a84:AFun:=(fun {b r} (_:AFun.mk b r=Jz bA 1)=>AFun.mk b r) rfl
def a85:AFun:=⟨(js [jB 1 0,jZ 2 16 .u64] [1,2] (.seq (jK 0 Ly) (ja [jL 10 16 1,jS 16 2 10] [2]))),[(2,(some (some 16)))]⟩
def a86:AFun:=⟨(js [jB 1 0,jZ 2 16 .u64] [1,2] (jK 0 Lx)),[(2,(some (some 16)))]⟩
def a87:AFun:=(fun {b r} (_:AFun.mk b r=Jz bA 2)=>AFun.mk b r) rfl
def a88:AFun:=(fun {b r} (_:AFun.mk b r=Jz bA 3)=>AFun.mk b r) rfl
def a89:AFun:=(fun {b r} (_:AFun.mk b r=Jz mb 0)=>AFun.mk b r) rfl
def a90:AFun:=(fun {b r} (_:AFun.mk b r=Jz mb 1)=>AFun.mk b r) rfl
def a91:AFun:=(fun {b r} (_:AFun.mk b r=Jz mb 2)=>AFun.mk b r) rfl
def a93:AFun:=⟨(js [jB 2 0,jB 3 1,jT 4 false] [2,3] (.seq (js [jI 5 15] [2,3,5] (jK 0 Cn)) (ja [jT 4 false] [4]))),[(4,none)]⟩
def zS:AFun:=(fun {b r} (_:AFun.mk b r=Jz wo 0)=>AFun.mk b r) rfl
def R4:AFun:=(fun {b r} (_:AFun.mk b r=Jz wo 1)=>AFun.mk b r) rfl
def zR:AFun:=(fun {b r} (_:AFun.mk b r=Jz Fm 0)=>AFun.mk b r) rfl
def zQ:AFun:=(fun {b r} (_:AFun.mk b r=Jz Fm 1)=>AFun.mk b r) rfl
def zP:AFun:=(fun {b r} (_:AFun.mk b r=Jz Fm 2)=>AFun.mk b r) rfl
def zO:AFun:=(fun {b r} (_:AFun.mk b r=Jz Fm 3)=>AFun.mk b r) rfl
def zN:AFun:=(fun {b r} (_:AFun.mk b r=Jz Fm 4)=>AFun.mk b r) rfl
def zM:AFun:=⟨(js [jM 6 1,jY 7 6,jI 8 0] [0,6,7,8] (jK 0 M8)),[]⟩
def zL:AFun:=(fun {b r} (_:AFun.mk b r=Jz Fm 5)=>AFun.mk b r) rfl
def ql:AFun:=(fun {b r} (_:AFun.mk b r=Jz bw 0)=>AFun.mk b r) rfl
def zJ:AFun:=⟨(js [jZ 4 80 .u64] [0,1,4] (.seq (js [jI 17 0] [0,1,4,17] (jK 0 WJ)) (js [jM 82 0,jN 83 82,jF 84 2 83,jL 85 8 84,jZ 10 8 .u64,jS 8 10 85] [0,4,10] (.seq (js [jf 86 183,jI 87 0] [0,4,10,86,87] (jK 4 GQ)) (js [jL 174 8 10,jI 175 0] [0,174,175] (jK 6 Mz)))))),[]⟩
def qk:AFun:=(fun {b r} (_:AFun.mk b r=Jz bw 1)=>AFun.mk b r) rfl
def zI:AFun:=(fun {b r} (_:AFun.mk b r=Jz bw 2)=>AFun.mk b r) rfl
def zH:AFun:=(fun {b r} (_:AFun.mk b r=Jz bw 3)=>AFun.mk b r) rfl
def R3:AFun:=(fun {b r} (_:AFun.mk b r=Jz pkF20 0)=>AFun.mk b r) rfl
def zG:AFun:=⟨(js [jZ 2 32 .u8] [0,2] (js [jM 6 0,jC 7 111 6,jZ 3 64 .u8,jS 64 3 7] [2,3] (js [jo 4 (.move (.const (.string (ByteArray.mk #[]))))] [2,3,4] (.seq (js [jI 5 0] [2,3,4,5] (jK 0 GP)) (ja [jM 19 4,jC 20 112 19,jS 32 2 20] [2]))))),[(2,(some (some 32)))]⟩
def zF:AFun:=⟨(js [jB 1 0,jo 2 (.move (.const (.string (ByteArray.mk #[]))))] [1] (js [jo 3 (.move (.const (.string (ByteArray.mk #[]))))] [1,3] (.seq (js [jI 4 0] [1,3,4] (jK 0 GO)) (ja [jM 16 3,jM 2 16] [2])))),[(2,none)]⟩
def zE:AFun:=(fun {b r} (_:AFun.mk b r=Jz bu 0)=>AFun.mk b r) rfl
def zD:AFun:=⟨(js [jB 3 1,jn 4] [0,3] (js [jF 33 0 3,jE 34 33,jP 35 .quo 34 8,jM 5 35] [0,3,5] (js [jM 36 0,jo 37 (.s2b (jt 36)),jo 38 (.buildSlice [(.int .u8 0)] 1 [jg 0 .u8 128]),jh 39 1 1 37 38,jM 6 39] [0,3,5,6] (.seq (jK 0 Mt) (js [jM 52 5,jo 53 (.bin .mul (ji 2) (jt 52)),jo 54 (.makeSlice [(.int .u8 0)] 1 (jt 53) (jt 53)),jM 7 54] [0,3,5,6,7] (js [jM 55 0,jo 56 (.len true (jt 55)),jV 57 .u64 56,jM 8 57] [3,5,6,7,8] (.seq (js [jM 58 5,jo 59 (.bin .mul (ji 2) (jt 58)),jP 60 .sub 59 1,jM 9 60] [3,5,6,7,8,9] (jK 2 WH)) (js [jM 87 6,jM 88 7,jh 89 1 1 87 88,jM 6 89] [3,5,6] (js [jo 90 (.call 177 [] false),jM 10 90] [3,5,6,10] (js [jo 91 (.buildSlice [] 0 []),jF 92 3 3,jE 93 92,jh 94 1 8 91 93,jM 11 94] [3,5,6,10,11] (js [jF 95 0 3,jE 96 95,jF 97 4 3,jL 98 12 97,jZ 13 12 .i64,jM 12 96,jS 12 13 98] [3,5,6,10,11,12,13] (.seq (js [jI 14 0] [3,5,6,10,11,12,13,14] (jK 4 GK)) (js [jn 30] [5,11,30] (.seq (js [jI 31 0] [5,11,30,31] (jK 14 Mv)) (ja [jM 398 30,jM 4 398] [4]))))))))))))))),[(4,none)]⟩
def zC:AFun:=(fun {b r} (_:AFun.mk b r=Jz bu 1)=>AFun.mk b r) rfl
def zB:AFun:=⟨(js [jk 6 .u64 0] [0,1,2] (ja [jM 7 0,jM 8 1,jO 9 .xor 7 8,jM 10 2,jO 11 .xor 9 10,jM 6 11] [6])),[(6,none)]⟩
def zA:AFun:=(fun {b r} (_:AFun.mk b r=Jz bu 2)=>AFun.mk b r) rfl
def z9:AFun:=⟨(js [jk 2 .u64 0] [0] (js [jk 3 .u64 1] [0,3] (.seq (js [jI 4 0] [0,3,4] (jK 0 Ms)) (ja [jM 12 3,jM 2 12] [2])))),[(2,none)]⟩
def z8:AFun:=(fun {b r} (_:AFun.mk b r=Jz bu 3)=>AFun.mk b r) rfl
def BV:AFun:=⟨(js [jB 1 0,jo 2 (.move (.const (.string (ByteArray.mk #[])))),jI 3 0] [1] (js [jF 13 0 1,jE 14 13,jC 15 69 14,jM 12 15,jX 16 12 0,jX 17 12 1,jo 4 (.alloc [(.int .i64 0),(.int .i64 0),(.int .i64 0),(.int .i64 0)]),jS 4 4 16,jM 5 17] [1,4,5] (.seq (js [jM 18 5,jU 19 18,jM 20 19,.mk (some 21) (.fieldAddr 1 (jt 1)) (some (20,false)),.mk (some 22) (.load none (jt 21)) (some (20,false)),.mk (some 23) (.len false (jt 22)) (some (20,false)),.mk (some 24) (.indexAddr 4 1 (jt 4) (ji 0)) (some (20,false)),.mk (some 25) (.load none (jt 24)) (some (20,false)),.mk (some 26) (.bin .neq (jt 23) (jt 25)) (some (20,false)),jo 27 (.pick (jt 20) (.const (.bool true)) (jt 26)),jM 28 27,.mk (some 29) (.fieldAddr 2 (jt 1)) (some (28,false)),.mk (some 30) (.load none (jt 29)) (some (28,false)),.mk (some 31) (.len false (jt 30)) (some (28,false)),.mk (some 32) (.indexAddr 4 1 (jt 4) (ji 1)) (some (28,false)),.mk (some 33) (.load none (jt 32)) (some (28,false)),.mk (some 34) (.bin .neq (jt 31) (jt 33)) (some (28,false)),jo 35 (.pick (jt 28) (.const (.bool true)) (jt 34)),jM 36 35,.mk (some 37) (.fieldAddr 3 (jt 1)) (some (36,false)),.mk (some 38) (.load none (jt 37)) (some (36,false)),.mk (some 39) (.len false (jt 38)) (some (36,false)),.mk (some 40) (.indexAddr 4 1 (jt 4) (ji 2)) (some (36,false)),.mk (some 41) (.load none (jt 40)) (some (36,false)),.mk (some 42) (.bin .neq (jt 39) (jt 41)) (some (36,false)),jo 43 (.pick (jt 36) (.const (.bool true)) (jt 42)),jM 44 43,.mk (some 45) (.indexAddr 4 1 (jt 4) (ji 3)) (some (44,false)),.mk (some 46) (.load none (jt 45)) (some (44,false)),.mk (some 47) (.bin .eql (jt 46) (ji 0)) (some (44,false)),.mk (some 48) (.move (jt 47)) (some (44,false)),.mk (some 49) (.fieldAddr 4 (jt 1)) (some (48,true)),.mk (some 50) (.load none (jt 49)) (some (48,true)),.mk (some 51) (.len false (jt 50)) (some (48,true)),.mk (some 52) (.bin .gtr (jt 51) (ji 0)) (some (48,true)),.mk (some 53) (.pick (jt 48) (jt 52) (.const (.bool false))) (some (44,false)),jo 54 (.pick (jt 44) (.const (.bool true)) (jt 53))] [1,4,54] (.cond (jt 54) (ja [jo 2 (.move (.const (.string (ByteArray.mk #[])))),jI 3 110] [2,3]) .skip)) (.seq (js [jF 55 4 1,jE 56 55,jY 57 56,jP 58 .gtr 57 16384] [1,4,58] (.cond (jt 58) (ja [jo 2 (.move (.const (.string (ByteArray.mk #[])))),jI 3 2] [2,3]) .skip)) (js [jF 59 0 1,jE 60 59,jV 61 .u8 60,jo 62 (.buildSlice [(.int .u8 0)] 1 [jp 0 1 61]),jo 63 (.b2s (jt 62)),jM 6 63] [1,4,6] (.seq (js [jI 7 0] [1,4,6,7] (jK 0 Mn)) (.seq (js [jI 9 0] [1,4,6,9] (jK 4 Mp)) (.seq (js [jI 10 0] [1,4,6,10] (jK 6 Mq)) (.seq (js [jA 124 4 1 4 3,jE 125 124,jP 126 .eql 125 1] [1,6,126] (.cond (jt 126) (jr [jM 127 6,jF 128 4 1,jE 129 128,jY 130 129,jC 131 70 130,jF 132 4 1,jE 133 132,jo 134 (.b2s (jt 133)),jO 135 .add 131 134,jO 136 .add 127 135,jM 6 136] [6]) .skip)) (ja [jM 137 6,jM 2 137,jI 3 0] [2,3])))))))))),[(2,none),(3,none)]⟩
def BU:AFun:=(fun {b r} (_:AFun.mk b r=Jz pkF22 0)=>AFun.mk b r) rfl
def aM:AFun:=(fun {b r} (_:AFun.mk b r=Jz Nz 0)=>AFun.mk b r) rfl
def z7:AFun:=⟨(js [jo 2 (.move (.const (.string (ByteArray.mk #[]))))] [0] (ja [jM 3 0,jP 4 .quo 3 16777216,jP 5 .rem 4 256,jV 6 .u8 5,jM 7 0,jP 8 .quo 7 65536,jP 9 .rem 8 256,jV 10 .u8 9,jM 11 0,jP 12 .quo 11 256,jP 13 .rem 12 256,jV 14 .u8 13,jM 15 0,jP 16 .rem 15 256,jV 17 .u8 16,jo 18 (.buildSlice [(.int .u8 0),(.int .u8 0),(.int .u8 0),(.int .u8 0)] 4 [jp 0 1 6,jp 1 1 10,jp 2 1 14,jp 3 1 17]),jo 19 (.b2s (jt 18)),jM 2 19] [2])),[(2,none)]⟩
def z6:AFun:=(fun {b r} (_:AFun.mk b r=Jz Nz 1)=>AFun.mk b r) rfl
def zy:AFun:=(fun {b r} (_:AFun.mk b r=Jz Nz 2)=>AFun.mk b r) rfl
def qj:AFun:=(fun {b r} (_:AFun.mk b r=Jz Nz 3)=>AFun.mk b r) rfl
def zx:AFun:=(fun {b r} (_:AFun.mk b r=Jz Nz 4)=>AFun.mk b r) rfl
def zw:AFun:=(fun {b r} (_:AFun.mk b r=Jz ma 0)=>AFun.mk b r) rfl
def zu:AFun:=⟨(js [jZ 4 32 .u8] [0,1,4] (ja [jM 5 0,jM 6 1,jd 7 170 5 6,jS 32 4 7] [4])),[(4,(some (some 32)))]⟩
def zt:AFun:=(fun {b r} (_:AFun.mk b r=Jz ma 1)=>AFun.mk b r) rfl
def zr:AFun:=⟨(js [jM 6 1,jY 7 6,jI 8 0] [0,6,7,8] (jK 0 Mk)),[]⟩
def zp:AFun:=(fun {b r} (_:AFun.mk b r=Jz ma 2)=>AFun.mk b r) rfl
def zo:AFun:=(fun {b r} (_:AFun.mk b r=Jz bt 0)=>AFun.mk b r) rfl
def zn:AFun:=(fun {b r} (_:AFun.mk b r=Jz bt 1)=>AFun.mk b r) rfl
def zm:AFun:=(fun {b r} (_:AFun.mk b r=Jz bt 2)=>AFun.mk b r) rfl
def zl:AFun:=⟨(js [jZ 4 64 .u32] [0,1,4] (.seq (js [jI 22 0] [0,1,4,22] (jK 0 WG)) (js [jf 100 183,jZ 8 80 .u64,jS 80 8 100] [0,4,8] (js [jM 101 0,jN 102 101,jF 103 2 102,jA 104 8 1 103 0,jE 105 104,jM 106 0,jN 107 106,jF 108 2 107,jA 109 8 1 108 1,jE 110 109,jM 111 0,jN 112 111,jF 113 2 112,jA 114 8 1 113 2,jE 115 114,jM 116 0,jN 117 116,jF 118 2 117,jA 119 8 1 118 3,jE 120 119,jM 121 0,jN 122 121,jF 123 2 122,jA 124 8 1 123 4,jE 125 124,jM 126 0,jN 127 126,jF 128 2 127,jA 129 8 1 128 5,jE 130 129,jM 131 0,jN 132 131,jF 133 2 132,jA 134 8 1 133 6,jE 135 134,jM 136 0,jN 137 136,jF 138 2 137,jA 139 8 1 138 7,jE 140 139,jM 9 105,jM 10 110,jM 11 115,jM 12 120,jM 13 125,jM 14 130,jM 15 135,jM 16 140] [0,4,8,9,10,11,12,13,14,15,16] (.seq (js [jI 141 0] [0,4,8,9,10,11,12,13,14,15,16,141] (jK 2 GF)) (js [jM 206 9,jM 207 10,jM 208 11,jM 209 12,jM 210 13,jM 211 14,jM 212 15,jM 213 16,jo 214 (.build (Qc 8 (.int .u32 0)) [jp 0 1 206,jp 1 1 207,jp 2 1 208,jp 3 1 209,jp 4 1 210,jp 5 1 211,jp 6 1 212,jp 7 1 213]),jI 215 0] [0,214,215] (jK 4 Mh))))))),[]⟩
def zk:AFun:=(fun {b r} (_:AFun.mk b r=Jz bt 3)=>AFun.mk b r) rfl
def aL:AFun:=⟨(js [jB 3 0,jB 5 2,jT 6 false] [1,3,5] (.seq (js [jf 22 6,jU 23 22] [1,3,5,23] (jl 23 [jT 6 false] [6])) (.seq (js [jM 24 1,jY 25 24,jP 26 .gtr 25 200] [1,3,5,26] (jl 26 [jT 6 true] [6])) (js [jL 28 98 3,jc 29 12 28,jc 30 11 29,jM 27 30,jX 31 27 0,jX 32 27 1,jo 7 (.alloc XG),jS 99 7 31,jM 8 32] [1,3,5,7] (js [jL 34 98 3,jM 35 1,jd 36 13 34 35,jM 33 36,jX 37 33 0,jX 38 33 1,jX 39 33 2,jo 9 (.alloc K0),jo 10 (.alloc Xs),jS 98 9 37,jS 5 10 38,jM 11 39] [1,3,5,7,10,11] (.seq (js [jM 40 11,jP 41 .neq 40 0] [1,3,5,7,10,11,41] (jl 41 [jM 42 11,jP 43 .eql 42 3,jM 6 43] [6])) T5)))))),[(6,none)]⟩
def zj:AFun:=⟨(js [jT 0 false] [] (js [jb 12 [jg 0 .u8 1] 32,jb 13 [jg 0 .u8 3] 32,jb 14 [jg 0 .u8 4] 32,jo 15 (.call 22 [(jt 12),(.const (.int .u32 2)),(jt 13),(jt 14)] true),jo 1 (.alloc K0),jS 98 1 15] [1] (js [jL 17 98 1,jc 18 12 17,jc 19 11 18,jM 16 19,jX 20 16 0,jX 21 16 1,jo 2 (.alloc XG),jS 99 2 20,jM 3 21] [1,2,3] (js [jL 23 98 1,jo 24 (.buildSlice [(.int .u8 0),(.int .u8 0),(.int .u8 0),(.int .u8 0)] 4 [jg 0 .u8 116,jg 1 .u8 101,jg 2 .u8 120,jg 3 .u8 116]),jo 25 (.convSl (jt 24)),jd 26 13 23 25,jM 22 26,jX 27 22 0,jX 28 22 1,jX 29 22 2,jo 4 (.alloc Xs),jS 98 1 27,jS 5 4 28,jM 5 29] [1,2,3,4,5] (js [jL 31 99 2,jL 32 5 4,jd 33 8 31 32,jM 30 33,jX 34 30 0,jX 35 30 1,jX 36 30 2,jo 6 (.alloc XG),jS 99 6 34,jM 7 35,jM 8 36] [1,2,3,4,5,6,7,8] (js [jL 38 99 6,jL 39 5 4,jd 40 8 38 39,jM 37 40,jX 41 37 0,jX 42 37 1,jX 43 37 2,jo 9 (.alloc XG),jS 99 9 41,jM 10 42,jM 11 43] [1,2,3,5,6,7,8,11] (ja [jM 44 3,jP 45 .eql 44 0,jM 46 45,.mk (some 47) (.move (jt 5)) (some (46,true)),.mk (some 48) (.bin .eql (jt 47) (ji 0)) (some (46,true)),jo 49 (.pick (jt 46) (jt 48) (.const (.bool false))),jM 50 49,.mk (some 51) (.move (jt 8)) (some (50,true)),.mk (some 52) (.bin .eql (jt 51) (ji 0)) (some (50,true)),jo 53 (.pick (jt 50) (jt 52) (.const (.bool false))),jM 54 53,.mk (some 55) (.move (jt 11)) (some (54,true)),.mk (some 56) (.bin .eql (jt 55) (ji 151)) (some (54,true)),jo 57 (.pick (jt 54) (jt 56) (.const (.bool false))),jM 58 57,.mk (some 59) (.move (jt 7)) (some (58,true)),.mk (some 60) (.b2s (jt 59)) (some (58,true)),.mk (some 61) (.bin .eql (jt 60) (.const (.string (ByteArray.mk #[116,101,120,116])))) (some (58,true)),jo 62 (.pick (jt 58) (jt 61) (.const (.bool false))),jM 63 62,.mk (some 64) (.fieldAddr 0 (jt 1)) (some (63,true)),.mk (some 65) (.fieldAddr 33 (jt 64)) (some (63,true)),.mk (some 66) (.load none (jt 65)) (some (63,true)),.mk (some 67) (.bin .eql (jt 66) (.const (.int .u32 1))) (some (63,true)),jo 68 (.pick (jt 63) (jt 67) (.const (.bool false))),jM 69 68,.mk (some 70) (.fieldAddr 0 (jt 6)) (some (69,true)),.mk (some 71) (.fieldAddr 33 (jt 70)) (some (69,true)),.mk (some 72) (.load none (jt 71)) (some (69,true)),.mk (some 73) (.bin .eql (jt 72) (.const (.int .u32 1))) (some (69,true)),jo 74 (.pick (jt 69) (jt 73) (.const (.bool false))),jM 75 74,.mk (some 76) (.fieldAddr 0 (jt 2)) (some (75,true)),.mk (some 77) (.fieldAddr 33 (jt 76)) (some (75,true)),.mk (some 78) (.load none (jt 77)) (some (75,true)),.mk (some 79) (.bin .eql (jt 78) (.const (.int .u32 0))) (some (75,true)),jo 80 (.pick (jt 75) (jt 79) (.const (.bool false))),jM 81 80,jo 82 (.pick (jt 81) (.const (.bool true)) (.const (.bool false))),jM 83 82,jo 84 (.pick (jt 83) (.const (.bool true)) (.const (.bool false))),jM 85 84,jo 86 (.pick (jt 85) (.const (.bool true)) (.const (.bool false))),jM 0 86] [0]))))))),[(0,none)]⟩
def R1:AFun:=(fun {b r} (_:AFun.mk b r=Jz pkF26 0)=>AFun.mk b r) rfl
def zi:AFun:=(fun {b r} (_:AFun.mk b r=Jz wm 0)=>AFun.mk b r) rfl
def zh:AFun:=(fun {b r} (_:AFun.mk b r=Jz wm 1)=>AFun.mk b r) rfl
def qi:AFun:=(fun {b r} (_:AFun.mk b r=Jz pkF28 0)=>AFun.mk b r) rfl
def zg:AFun:=⟨(js [jB 1 0,jo 2 (.move (.const (.string (ByteArray.mk #[]))))] [1] (js [jF 5 4 1,jq (.store 1 (jt 5) (.const (.slice none 0 0)))] [1] (js [jb 6 [] 64,jm 7 64 1 [jp 0 64 6],jF 8 3 1,jS 1 8 7] [1] (js [jL 10 5 1,jc 11 29 10,jM 9 11,jX 12 9 0,jX 13 9 1,jM 3 12,jM 4 13] [3] (ja [jM 14 3,jM 2 14] [2]))))),[(2,none)]⟩
def zf:AFun:=(fun {b r} (_:AFun.mk b r=Jz lU 0)=>AFun.mk b r) rfl
def ze:AFun:=(fun {b r} (_:AFun.mk b r=Jz lU 1)=>AFun.mk b r) rfl
def zd:AFun:=(fun {b r} (_:AFun.mk b r=Jz lU 2)=>AFun.mk b r) rfl
def aK:AFun:=(fun {b r} (_:AFun.mk b r=Jz pkF30 0)=>AFun.mk b r) rfl
def zb:AFun:=(fun {b r} (_:AFun.mk b r=Jz lQ 0)=>AFun.mk b r) rfl
def aJ:AFun:=(fun {b r} (_:AFun.mk b r=Jz lQ 1)=>AFun.mk b r) rfl
def qh:AFun:=⟨(js [jZ 2 32 .u8,jI 3 0] [0,2] (.seq (js [jM 6 0,jN 7 6,jF 8 33 7,jE 9 8,jQ 10 .geq 9 .u32 16777216] [0,2,10] (.cond (jt 10) (ja [jb 11 [] 32,jS 32 2 11,jI 3 3] [2,3]) .skip)) (js [jM 13 0,jN 14 13,jF 15 0 14,jW 16 32 1 15,jM 17 0,jN 18 17,jF 19 34 18,jW 20 32 1 19,jo 21 (.call 75 [(jt 16),(jt 20),(.const (.string (ByteArray.mk #[115,105,103,110,101,116,32,99,104,97,105,110]))),(ji 2)] false),jM 12 21,jX 22 12 0,jX 23 12 1,jM 4 22,jM 5 23] [0,2,4,5] (.seq (js [jM 24 5,jP 25 .neq 24 0] [0,2,4,5,25] (.cond (jt 25) (ja [jb 26 [] 32,jM 27 5,jS 32 2 26,jM 3 27] [2,3]) .skip)) (js [jM 28 0,jM 29 4,jy 30 32 29 1,jL 31 32 30,jN 32 28,jF 33 34 32,jS 32 33 31] [0,2,4] (js [jM 34 0,jN 35 34,jF 36 33 35,jE 37 36,jQ 38 .add 37 .u32 1,jN 39 34,jF 40 33 39,jS 1 40 38] [2,4] (ja [jM 41 4,jy 42 32 41 0,jL 43 32 42,jS 32 2 43,jI 3 0] [2,3]))))))),[(2,(some (some 32))),(3,none)]⟩
def za:AFun:=(fun {b r} (_:AFun.mk b r=Jz lQ 2)=>AFun.mk b r) rfl
def yZ:AFun:=⟨(js [jI 4 0] [0,1] (.seq (js [jM 6 0,jY 7 6,jI 8 0] [0,1,7,8] (jK 0 L0)) (ja [jI 4 (-1)] [4]))),[(4,none)]⟩
def a360:AFun:=⟨(js [jB 2 0,jT 3 false] [1,2] (ja [jF 4 0 2,jE 5 4,jE 6 1,jO 7 .eql 5 6,jM 3 7] [3])),[(3,none)]⟩
def yY:AFun:=⟨(js [jT 2 false] [0] (js [jI 3 0] [0,3] (.seq (js [jM 6 0,jY 7 6,jI 8 0] [3,6,7,8] (jK 0 T3)) (ja [jT 2 false] [2])))),[(2,none)]⟩
def yX:AFun:=(fun {b r} (_:AFun.mk b r=Jz lN 0)=>AFun.mk b r) rfl
def qg:AFun:=(fun {b r} (_:AFun.mk b r=Jz lN 1)=>AFun.mk b r) rfl
def qe:AFun:=(fun {b r} (_:AFun.mk b r=Jz lN 2)=>AFun.mk b r) rfl
def yW:AFun:=(fun {b r} (_:AFun.mk b r=Jz pkF33 0)=>AFun.mk b r) rfl
def qd:AFun:=(fun {b r} (_:AFun.mk b r=Jz lM 0)=>AFun.mk b r) rfl
def yV:AFun:=(fun {b r} (_:AFun.mk b r=Jz lM 1)=>AFun.mk b r) rfl
def yU:AFun:=⟨(js [jn 2] [0] (js [jo 5 (.makeSlice [(.int .u8 0)] 1 (ji 8) (ji 8)),jM 3 5] [0,3] (.seq (js [jI 6 0] [0,3,6] (jK 0 DX)) (ja [jM 18 3,jM 2 18] [2])))),[(2,none)]⟩
def yT:AFun:=(fun {b r} (_:AFun.mk b r=Jz lM 2)=>AFun.mk b r) rfl
def yS:AFun:=(fun {b r} (_:AFun.mk b r=Jz lL 0)=>AFun.mk b r) rfl
def yR:AFun:=⟨(js [jZ 2 5 .u64] [0,2] (js [jZ 3 5 .u64] [0,2,3] (.seq (js [jM 6 0,jY 7 6,jI 8 0] [2,3,6,7,8] (jK 0 UN)) (ja [jL 53 5 3,jS 5 2 53] [2])))),[(2,(some (some 5)))]⟩
def yQ:AFun:=(fun {b r} (_:AFun.mk b r=Jz lL 1)=>AFun.mk b r) rfl
def yP:AFun:=(fun {b r} (_:AFun.mk b r=Jz lL 2)=>AFun.mk b r) rfl
def yO:AFun:=(fun {b r} (_:AFun.mk b r=Jz wj 0)=>AFun.mk b r) rfl
def yN:AFun:=(fun {b r} (_:AFun.mk b r=Jz wj 1)=>AFun.mk b r) rfl
def a361:AFun:=⟨(js [jn 6] [0,1,2] (js [jM 8 0,jM 9 1,jM 10 2,jM 11 0,jY 12 11,jo 13 (.sliceSl 33 (jt 8) (some (jt 9)) (some (jt 10)) (some (jt 12)))] [0,1,2] (.seq (js [jM 14 1,jM 15 2,jO 16 .eql 14 15] [0,1,2,16] (jl 16 [jM 17 0,jM 6 17] [6])) (js [jM 18 0,jY 19 18,jM 7 19] [0,1,2,7] (js [jM 20 0,jM 21 1,jo 22 (.sliceSl 33 (jt 20) none (some (jt 21)) none),jM 23 0,jM 24 2,jo 25 (.sliceSl 33 (jt 23) (some (jt 24)) none none),jh 26 33 36 22 25,jM 0 26] [0,7] (js [jM 27 0,jM 28 0,jY 29 28,jM 30 7,jo 31 (.sliceSl 33 (jt 27) (some (jt 29)) (some (jt 30)) none),jq (.clear TA (jt 31))] [0] (ja [jM 32 0,jM 6 32] [6]))))))),[(6,none)]⟩
def fnS:Nat->Option AFun
 |129=>some a16
 |94=>some a17
 |112=>some a18
 |76=>some a19
 |39=>some a21
 |49=>some a22
 |110=>some a23
 |42=>some a25
 |43=>some a26
 |41=>some a27
 |87=>some a28
 |45=>some a29
 |89=>some a30
 |37=>some a31
 |46=>some a32
 |47=>some a33
 |44=>some a34
 |53=>some a35
 |54=>some a36
 |52=>some a37
 |48=>some a38
 |38=>some a39
 |90=>some a40
 |133=>some a41
 |134=>some a42
 |155=>some a43
 |131=>some a44
 |132=>some a45
 |91=>some a46
 |92=>some a47
 |109=>some a48
 |77=>some a49
 |82=>some a50
 |79=>some a51
 |84=>some a52
 |88=>some a53
 |95=>some a54
 |143=>some a55
 |96=>some a56
 |97=>some a57
 |98=>some a58
 |78=>some a59
 |80=>some a60
 |81=>some a61
 |83=>some a62
 |85=>some a63
 |86=>some a64
 |99=>some a65
 |100=>some a66
 |101=>some a67
 |102=>some a68
 |103=>some a69
 |104=>some a70
 |105=>some a71
 |106=>some a72
 |107=>some a73
 |108=>some a74
 |144=>some a75
 |171=>some a76
 |135=>some a77
 |136=>some a78
 |137=>some a79
 |138=>some a80
 |139=>some a81
 |140=>some a82
 |141=>some a83
 |142=>some a84
 |148=>some a85
 |149=>some a86
 |150=>some a87
 |151=>some a88
 |152=>some a89
 |153=>some a90
 |172=>some a91
 |176=>some a93
 |36=>some zS
 |14=>some R4
 |33=>some zR
 |74=>some zQ
 |40=>some zP
 |93=>some zO
 |145=>some zN
 |146=>some zM
 |147=>some zL
 |158=>some ql
 |174=>some zJ
 |175=>some qk
 |186=>some zI
 |183=>some zH
 |16=>some R3
 |50=>some zG
 |51=>some zF
 |111=>some zE
 |154=>some zD
 |177=>some zC
 |178=>some zB
 |179=>some zA
 |180=>some z9
 |181=>some z8
 |29=>some BV
 |23=>some BU
 |69=>some aM
 |70=>some z7
 |75=>some z6
 |157=>some zy
 |59=>some qj
 |60=>some zx
 |64=>some zw
 |130=>some zu
 |156=>some zt
 |117=>some zr
 |160=>some zp
 |116=>some zo
 |118=>some zn
 |170=>some zm
 |159=>some zl
 |182=>some zk
 |4=>some aL
 |6=>some zj
 |8=>some R1
 |11=>some zi
 |12=>some zh
 |13=>some qi
 |15=>some zg
 |22=>some zf
 |24=>some ze
 |25=>some zd
 |26=>some aK
 |27=>some zb
 |28=>some aJ
 |34=>some qh
 |35=>some za
 |61=>some yZ
 |62=>some a360
 |65=>some yY
 |66=>some yX
 |67=>some qg
 |68=>some qe
 |119=>some yW
 |120=>some qd
 |121=>some yV
 |122=>some yU
 |161=>some yT
 |162=>some yS
 |163=>some yR
 |164=>some yQ
 |165=>some yP
 |166=>some yO
 |184=>some yN
 |63=>some a361
 |_=>none
end
section
variable{x y c:Nat}
def uO(f:Nat)(args:List Value):Option Value :=
 match f,args with
 |173,[.int .u64 x,.int .u64 y,.int .u64 c]=>if c.toNat<=1 then some (.tuple #[.int .u64 ((x.toNat+y.toNat+c.toNat)%18446744073709551616:Nat),.int .u64 ((x.toNat+y.toNat+c.toNat)/18446744073709551616:Nat)])else none
 |_,_=>none
def T:Tab:=⟨fnS,uO⟩
attribute [local congr] BR
def GV(x y c:Nat):Nat:=if x<y+c then 1 else 0
def GU(x y c:Nat):Nat:=if x<y+c then x+4294967296-(y+c)else x-(y+c)
def TN(I:x<4294967296)(E:y<4294967296)(hc:c<=1) :
  Zp T 144 [.int .u32 x,.int .u32 y,.int .u32 c] []=some (.tuple #[.int .u32 (GU x y c:Nat),.int .u32 (GV x y c:Nat)],[],[]):=by
 have e1:IntKind.u32.wrap (IntKind.u32.wrap ((x:Int)-y)-c)=((x:Int)-y-c)%4294967296:=by rw[wrap_u32,wrap_u32];omega
 have Z:=pD I E hc
 have Y:(31:Int).toNat=31:=rfl
 have U:min 31 IntKind.u32.bits=31:=rfl
 have O:((x:Int)-y-c)%4294967296=(GU x y c:Nat):=by unfold GU;split<;>omega
 have J:(if x<y+c then 1 else 0:Int)=(GV x y c:Nat):=by unfold GV;split<;>rfl
 rw[Q9 (fn:=a75) rfl]
 simp only[a75,Qv,guardOf,Q2,opd,Xf,ZR,Z5,Env.get,Env.put,Jm,Qz,ZO,St.after,Env.keep,JC,Je,unV,Jb,Z1,packed,Ob.fresh,Jq,okVar,cS,reduceCtorEq,QQ,QL,QU,Zj,QZ,Za,QK,QY,QS,show(if IntKind.u32.signed=true then(-1:Int)else IntKind.u32.max)=IntKind.u32.max from rfl,e1,Y,U,show ¬((31:Int)<0) by decide,Z9]
 rw[Z,J,O]
def Pc(x y c:Nat):Nat:=(x+y+c)/4294967296
def Pb(x y c:Nat):Nat:=(x+y+c)%4294967296
def Pd(Z:x<4294967296)(Y:y<4294967296)(hc:c<=1) :
  Zp T 171 [.int .u32 x,.int .u32 y,.int .u32 c] []=some (.tuple #[.int .u32 (Pb x y c:Nat),.int .u32 (Pc x y c:Nat)],[],[]):=by
 have U:IntKind.u64.wrap (IntKind.u64.wrap (IntKind.u64.wrap (x:Int)+IntKind.u64.wrap (y:Int))+IntKind.u64.wrap (c:Int))=((x+y+c:Nat):Int):=by simp only[Wb];omega
 have O:(32:Int).toNat=32:=rfl
 have J:min 32 IntKind.u64.bits=32:=rfl
 have I:IntKind.u32.wrap ((x+y+c:Nat):Int)=(Pb x y c:Nat):=by rw[wrap_u32];unfold Pb;omega
 have E:IntKind.u32.wrap (Bi ((x+y+c:Nat):Int) (2^32))=(Pc x y c:Nat):=by
  rw[wrap_u32,JT _ ww];unfold Pc;omega
 rw[Q9 (fn:=a76) rfl]
 simp only[a76,Qv,guardOf,Q2,opd,Xf,ZR,Z5,Env.get,Env.put,Jm,Qz,ZO,St.after,Env.keep,JC,Je,unV,Jb,Z1,packed,Ob.fresh,Jq,okVar,cS,reduceCtorEq,QQ,QL,QU,Zj,QZ,Za,QK,QY,QS,U,O,J,I,E,show ¬((32:Int)<0) by decide,Z9]
def orderW:List Nat:=[1559614445,1477600026,2734136534,350157278,0,0,0,268435456]
def Ay(H:List Ob):Zp T 92 [] H=some (.slice H.length 8 8,H++[Ob.fresh (QX orderW)],[]):=by
 rw[Q9 (fn:=a47) rfl]
 simp only[a47,Qv,guardOf,Q2,opd,Xf,ZR,Z5,Env.get,Env.put,Jm,Qz,ZO,St.after,Env.keep,JC,Je,unV,Jb,Z1,packed,Ob.fresh,Jq,okVar,cS,reduceCtorEq,QQ,QL,QU,Zj,QZ,Za,QK,QY,QS]
 rfl
end
section
attribute [local congr] BR
variable{H:List Ob}{n c m id2 off2 c2 k id1 off1 c1 x b y id off i a l:Nat}{ws r os out bs:List Nat}{s v:Value}
def Sv(ws:List Nat)(j x:Nat):List Nat:=ws.set (j/4) (ws.getD (j/4) 0|||x*2^(8*(j%4)))
def ofI(H:List Ob)(id off n c m:Nat)(log:List Nat)(W:Nat->List Nat)(j:Nat):St :=
 ⟨[(3,.slice H.length m m),(11,.slice (some ⟨id,off,none⟩) n c),(12,.int .i64 n),(13,.int .i64 j)],H++[Ob.fresh (QX (W j))],log⟩
def tj(hr:Row .u8 H id off bs)(hn:bs.length=n)(hm:m=(n+3)/4)(hN:n<2^40)(hb:∀x∈bs,x<256)
 (W:Nat->List Nat) (hW:∀j,(W j).length=m/\∀x∈W j,x<4294967296) (hstep:∀j x,bs[j]?=some x->W (j+1)=Sv (W j) j x) {j:Nat} (hj:j<n) :
    Q4 T H.length Df (ofI H id off n c m [] W j)=some (.normal,ofI H id off n c m [] W (j+1)):=by
  obtain⟨x,U⟩:∃x,bs[j]?=some x:=⟨_,Qg qr⟩
  have h1:((j:Int)<(n:Int)):=qr
  have hq:j/4<m:=qr
  obtain⟨y,J⟩:∃y,(W j)[j/4]?=some y:=⟨_,Qg (by rw[(hW j).1];exact hq)⟩
  obtain⟨o,ho,hc⟩:=hr
  have Y:=KD (l:=[{c:=QX (W j)}]) ho
  have O:=hc j x U
  have I:=Kr J
  have hx256:x<256:=hb x (Qw U)
  have e1:IntKind.i64.wrap ((j:Int).tdiv 4)=((j/4:Nat):Int):=ZC (n:=j/4) qr
  have e2:((j:Int).tmod 4)=((j%4:Nat):Int):=rfl
  have e3:IntKind.i64.wrap (8*((j%4:Nat):Int))=((8*(j%4):Nat):Int):=ZC (n:=8*(j%4)) qr
  have e4:min (8*(j%4)) IntKind.u32.bits=8*(j%4):=Zg (by show _<=32;omega)
  have e5:IntKind.u32.wrap (x:Int)=(x:Nat):=Xm rfl (by show x<2^32;omega)
  have h3:((j/4:Nat):Int)<(m:Int):=qr
  have h4:¬(((8*(j%4):Nat):Int)<0):=qr
  have hp:x*2^(8*(j%4))<4294967296:=by
    have Z:(2:Nat)^(8*(j%4))<=2^24:=Zy ww qr
    have h6:x*2^(8*(j%4))<=255*2^24:=Xc qr Z
    omega
  have E:y<4294967296:=(hW j).2 y (Qw J)
  have e6:Z3 .or .u32 (y:Nat) (IntKind.u32.wrap ((x:Int)*2^(8*(j%4))))=((y|||x*2^(8*(j%4)):Nat):Int):=by
    have:((x:Int)*2^(8*(j%4)))=((x*2^(8*(j%4)):Nat):Int):=by simp
    rw[this,Xm rfl hp,Kx rfl E hp]
  have e7:IntKind.i64.wrap ((j:Int)+1)=((j+1:Nat):Int):=ZC (n:=j+1) qr
  have Z:j/4+1<=(QX (W j)).length:=by rw[Kq,(hW j).1];omega
  have hs:W (j+1)=(W j).set (j/4) (y|||x*2^(8*(j%4))):=by rw[hstep j x U,Sv,Qy,J];rfl
  simp only[ofI,Df,Qv,guardOf,Q2,opd,Xf,ZR,Z5,Env.get,Env.put,Jm,Qz,ZO,St.after,Env.keep,JC,Je,unV,Jb,Z1,packed,Ob.fresh,Jq,okVar,cS,reduceCtorEq,QQ,QL,QU,Zj,QZ,Za,QK,QY,QS,h1,Y,O,I,e1,e2,e3,e4,e5,h3,h4,e6,e7,Z,KN,hs,Yd]
def Uq(v:Value):∀n,(Qc n [v]).flatten=Qc n v
 |0=>rfl
 |n+1=>by rw[Xr,QO,Uq v n];rfl
def OH(B n:Nat):dig B n 0=Qc n 0:=by
 symm
 exact Gu wd fun i hi=>by simp[hi]
def MR(n:Nat):Qc n (Value.int .u32 0)=QX (dig 4294967296 n 0):=by simp[OH,QX]
def Fy(Y:Row .u8 H id off bs)(hn:bs.length=n)(Z:n<2^40)(hb:∀x∈bs,x<256) :
  Zp T 90 [.slice (some ⟨id,off,none⟩) n c] H=some (.slice H.length ((n+3)/4) ((n+3)/4),H++[Ob.fresh (QX (dig 4294967296 ((n+3)/4) (num 256 bs)))],[]):=by
 have hbody:=JB (T:=T) (base:=H.length) (id:=0) (body:=Df) (ofI H id off n c ((n+3)/4) [] fun j=>dig 4294967296 ((n+3)/4) (num 256 (bs.take j))) n
  (s':=⟨[(3,.slice H.length ((n+3)/4) ((n+3)/4)),(11,.slice (some ⟨id,off,none⟩) n c),(12,.int .i64 n),(13,.int .i64 n),(14,.bool false)],H++[Ob.fresh (QX (dig 4294967296 ((n+3)/4) (num 256 bs)))],[]⟩)
  (fun j I=>tj Y hn rfl Z hb _ (fun j=>⟨Ze _ _ _,fun x E=>Vt ww E⟩) (fun j x E=>by
   have I:j<bs.length:=(Qf.1 E).1
   have hlt:num 256 (bs.take j)<256^j:=by
    have:=num_lt (B:=256) (l:=bs.take j) fun y U=>hb y (QG U)
    rwa[Q0,Zg (Nat.le_of_lt I)]at this
   rw[JY E,Sv,pq qr hlt (hb x (Qw E))]) I)
  (by
   have O:¬((n:Int)<(n:Int)):=qr
   have J:bs.take n=bs:=by rw[<-hn];exact Yn
   simp only[ofI,Df,Qv,guardOf,Q2,opd,Xf,ZR,Z5,Env.get,Env.put,Jm,Qz,ZO,St.after,Env.keep,JC,Je,unV,Jb,Z1,packed,Ob.fresh,Jq,okVar,cS,reduceCtorEq,QQ,QL,QU,Zj,QZ,Za,QK,QY,QS,O,J])
 have e1:IntKind.i64.wrap ((n:Int)+3)=((n+3:Nat):Int):=ZC (n:=n+3) qr
 have e2:IntKind.i64.wrap (((n+3:Nat):Int).tdiv 4)=(((n+3)/4:Nat):Int):=ZC (n:=(n+3)/4) qr
 have O:((((n+3)/4:Nat):Int)*((4:Nat):Int)<=2^47):=qr
 have J:(0:Nat)<4:=ww
 rw[Q9 (fn:=a40) rfl]
 have hz:ofI H id off n c ((n+3)/4) [] (fun j=>dig 4294967296 ((n+3)/4) (num 256 (bs.take j))) 0=⟨[(3,.slice H.length ((n+3)/4) ((n+3)/4)),(11,.slice (some ⟨id,off,none⟩) n c),(12,.int .i64 n),(13,.int .i64 0)],H++[Ob.fresh (QX (dig 4294967296 ((n+3)/4) 0))],[]⟩:=by simp[ofI,num]
 rw[hz]at hbody
 simp only[Ob.fresh]at hbody
 simp only[a40,Qv,guardOf,Q2,opd,Xf,ZR,Z5,Env.get,Env.put,Jm,Qz,ZO,St.after,Env.keep,JC,Je,unV,Jb,Z1,packed,Ob.fresh,Jq,okVar,cS,reduceCtorEq,QQ,QL,QU,Zj,QZ,Za,QK,QY,QS,e1,e2,O,J,WX,Uq,MR,hbody]
structure MulInv(n m i k A a:Nat)(os out:List Nat)(c:Nat):Prop where
 len:out.length=n+m
 lt:∀x∈out,x<4294967296
 clt:c<4294967296
 eq:num 4294967296 out+c*4294967296^(i+k)=A+a*4294967296^i*num 4294967296 (os.take k)
 top:∀j,i+m<=j->j<n+m->out[j]?=some 0
def MulInv.step{n m i k A a b y c:Nat}{os out:List Nat}(h:MulInv n m i k A a os out c)(ha:a<4294967296)(hb:os[k]?=some b)(U:b<4294967296)(E:out[i+k]?=some y)(hk:k<m) :
  MulInv n m i (k+1) A a os (out.set (i+k) ((c+(y+a*b))%4294967296)) ((c+(y+a*b))/4294967296):=by
 have O:y<4294967296:=h.lt y (Qw E)
 have hc:=h.clt
 refine⟨by rw[Qr];exact h.len,Yf h.lt (Q3 _ ww),?_,?_,?_⟩
 ·have:a*b<=4294967295*4294967295:=Xc qr qr
  rw[R5 ww]
  show _<4294967296*4294967296
  omega
 ·have J:=Vj (B:=4294967296) ((c+(y+a*b))%4294967296) E
  have I:=h.eq
  rw[JY hb]
  have Y:=ZK (c+(y+a*b)) 4294967296
  generalize(c+(y+a*b))/4294967296=q at *
  generalize(c+(y+a*b))%4294967296=r at *
  have e1:a*4294967296^i*(num 4294967296 (os.take k)+b*4294967296^k)=a*4294967296^i*num 4294967296 (os.take k)+a*b*4294967296^(i+k):=by
   rw[VW,JU];congr 1;simp only[ZI,Xb,Zw]
  have e2:q*4294967296^(i+(k+1))=4294967296*q*4294967296^(i+k):=by
   rw[<-QV,Zn];simp only[ZI,Xb,Zw]
  rw[e1,e2]
  have Z:(4294967296*q+r)*4294967296^(i+k)=(c+(y+a*b))*4294967296^(i+k):=by rw[Y]
  rw[Zl,Zl,Zl]at Z
  omega
 ·intro j J I
  rw[Ql qr]
  exact h.top j J I
def dW(H:List Ob)(s1 s2:Value)(n m i a k c:Nat)(out:List Nat):St :=
 ⟨[(1,s2),(5,.slice H.length (n+m) (n+m)),(6,.int .i64 i),(7,.int .u32 a),(8,.int .u64 c),(17,s1),(18,.int .i64 n),(19,.int .i64 i),(24,s2),(25,.int .i64 m),(26,.int .i64 k)],H++[Ob.fresh (QX out)],[]⟩
def dV{s1:Value}(Z:Row .u32 H id2 off2 os)(hN:n+m<2^40)(hi:i<n)(hk:k<m)(ha:a<4294967296)(hb:os[k]?=some b)(hb':b<4294967296)(hl:out.length=n+m)(Y:out[i+k]?=some y)(U:y<4294967296)(hc:c<4294967296) :
  Q4 T H.length CK (dW H s1 (.slice (some ⟨id2,off2,none⟩) m c2) n m i a k c out)=some (.normal,dW H s1 (.slice (some ⟨id2,off2,none⟩) m c2) n m i a (k+1) ((c+(y+a*b))/4294967296) (out.set (i+k) ((c+(y+a*b))%4294967296))):=by
 obtain⟨o,ho,JP⟩:=Z
 have J:=KD (l:=[{c:=QX out}]) ho
 have I:=JP k b hb
 have E:=Kr Y
 have hab:a*b<=4294967295*4294967295:=Xc qr qr
 have h1:((k:Int)<(m:Int)):=qr
 have h2:((i+k:Nat):Int)<((n+m:Nat):Int):=qr
 have e1:IntKind.i64.wrap ((i:Int)+(k:Int))=((i+k:Nat):Int):=ZC (n:=i+k) qr
 have e2:IntKind.u64.wrap (y:Int)=(y:Nat):=Xm rfl (by show y<2^64;omega)
 have e3:IntKind.u64.wrap (a:Int)=(a:Nat):=Xm rfl (by show a<2^64;omega)
 have e4:IntKind.u64.wrap (b:Int)=(b:Nat):=Xm rfl (by show b<2^64;omega)
 have e5:IntKind.u64.wrap ((a:Int)*(b:Int))=((a*b:Nat):Int):=Xm (n:=a*b) rfl (by show _<2^64;omega)
 have e6:IntKind.u64.wrap ((y:Int)+((a*b:Nat):Int))=((y+a*b:Nat):Int):=Xm (n:=y+a*b) rfl (by show _<2^64;omega)
 have e7:IntKind.u64.wrap ((c:Int)+((y+a*b:Nat):Int))=((c+(y+a*b):Nat):Int):=Xm (n:=c+(y+a*b)) rfl (by show _<2^64;omega)
 have e8:IntKind.u32.wrap ((c+(y+a*b):Nat):Int)=(((c+(y+a*b))%4294967296:Nat):Int):=by rw[wrap_u32];rfl
 have e9:Bi ((c+(y+a*b):Nat):Int) (2^min 32 IntKind.u64.bits)=(((c+(y+a*b))/4294967296:Nat):Int):=by
  rw[JT _ ww];rfl
 have O:IntKind.i64.wrap ((k:Int)+1)=((k+1:Nat):Int):=ZC (n:=k+1) qr
 have h5:i+k+1<=(QX out).length:=by rw[Kq,hl];omega
 simp only[dW,CK,Qv,guardOf,Q2,opd,Xf,ZR,Z5,Env.get,Env.put,Jm,Qz,ZO,St.after,Env.keep,JC,Je,unV,Jb,Z1,packed,Ob.fresh,Jq,okVar,cS,reduceCtorEq,QQ,QL,QU,Zj,QZ,Za,QK,QY,QS,h1,h2,J,I,E,e1,e2,e3,e4,e5,e6,e7,e8,e9,O,h5,KN,Yd]
structure TimesInv(n m i:Nat)(ws os out:List Nat):Prop where
 len:out.length=n+m
 lt:∀x∈out,x<4294967296
 eq:num 4294967296 out=num 4294967296 (ws.take i)*num 4294967296 os
 top:∀j,i+m<=j->j<n+m->out[j]?=some 0
def MS(H:List Ob)(s1 s2:Value)(n m i:Nat)(out:List Nat):St :=
 ⟨[(1,s2),(5,.slice H.length (n+m) (n+m)),(17,s1),(18,.int .i64 n),(19,.int .i64 i)],H++[Ob.fresh (QX out)],[]⟩
def LS(hr1:Row .u32 H id1 off1 ws)(hr2:Row .u32 H id2 off2 os)(hm:os.length=m)(hN:n+m<2^40)(hi:i<n)(ha:ws[i]?=some a)(Y:a<4294967296)(hos:∀x∈os,x<4294967296)(h:TimesInv n m i ws os out) :
  ∃I,Q4 T H.length CJ (MS H (.slice (some ⟨id1,off1,none⟩) n c1) (.slice (some ⟨id2,off2,none⟩) m c2) n m i out)=some (.normal,MS H (.slice (some ⟨id1,off1,none⟩) n c1) (.slice (some ⟨id2,off2,none⟩) m c2) n m (i+1) I)/\TimesInv n m (i+1) ws os I:=by
 have h0:MulInv n m i 0 (num 4294967296 out) a os out 0:=⟨h.len,h.lt,by decide,by simp[num],h.top⟩
 obtain⟨s',hb,E,c,rfl,hinv⟩:=QM (T:=T) (base:=H.length) (id:=2) (body:=CK)
  (fun k s=>∃E c,s=dW H (.slice (some ⟨id1,off1,none⟩) n c1) (.slice (some ⟨id2,off2,none⟩) m c2) n m i a k c E/\MulInv n m i k (num 4294967296 out) a os E c)
  (Q:=fun s=>∃E c,s=⟨[(1,.slice (some ⟨id2,off2,none⟩) m c2),(5,.slice H.length (n+m) (n+m)),(6,.int .i64 i),(7,.int .u32 a),(8,.int .u64 (c:Nat)),(17,.slice (some ⟨id1,off1,none⟩) n c1),(18,.int .i64 n),(19,.int .i64 i),(24,.slice (some ⟨id2,off2,none⟩) m c2),(25,.int .i64 m),(26,.int .i64 m),(27,.bool false)],H++[{c:=QX E}],[]⟩/\MulInv n m i m (num 4294967296 out) a os E c)
  m ⟨out,0,rfl,h0⟩
  (fun k s hk hs=>by
   obtain⟨E,c,rfl,O⟩:=hs
   obtain⟨b,J⟩:∃b,os[k]?=some b:=⟨_,Qg qr⟩
   obtain⟨y,Z⟩:∃y,E[i+k]?=some y:=⟨_,Qg (by rw[O.len];omega)⟩
   have U:=hos b (Qw J)
   exact⟨_,dV hr2 hN hi hk Y J U O.len Z (O.lt y (Qw Z)) O.clt,_,_,rfl,O.step Y J U Z hk⟩)
  (fun s hs=>by
   obtain⟨E,c,rfl,O⟩:=hs
   have h1:¬((m:Int)<(m:Int)):=qr
   refine⟨_,?_,E,c,rfl,O⟩
   simp only[dW,CK,Qv,guardOf,Q2,opd,Xf,ZR,Z5,Env.get,Env.put,Jm,Qz,ZO,St.after,Env.keep,JC,Je,unV,Jb,Z1,packed,Ob.fresh,Jq,okVar,cS,reduceCtorEq,QQ,QL,QU,Zj,QZ,Za,QK,QY,QS,h1])
 rw[show dW H (.slice (some ⟨id1,off1,none⟩) n c1) (.slice (some ⟨id2,off2,none⟩) m c2) n m i a 0 0 out=⟨[(1,.slice (some ⟨id2,off2,none⟩) m c2),(5,.slice H.length (n+m) (n+m)),(6,.int .i64 i),(7,.int .u32 a),(8,.int .u64 0),(17,.slice (some ⟨id1,off1,none⟩) n c1),(18,.int .i64 n),(19,.int .i64 i),(24,.slice (some ⟨id2,off2,none⟩) m c2),(25,.int .i64 m),(26,.int .i64 0)],H++[{c:=QX out}],[]⟩ from rfl]at hb
 obtain⟨o,ho,JP⟩:=hr1
 have ho':=KD (l:=[{c:=QX out}]) ho
 have hxc:=JP i a ha
 have hz:E[i+m]?=some 0:=hinv.top (i+m) (Qj _) qr
 have h1:((i:Int)<(n:Int)):=qr
 have h2:((i+m:Nat):Int)<((n+m:Nat):Int):=qr
 have e1:IntKind.i64.wrap ((i:Int)+(m:Int))=((i+m:Nat):Int):=ZC (n:=i+m) qr
 have e2:IntKind.u32.wrap (c:Int)=(c:Nat):=Xm rfl hinv.clt
 have e10:IntKind.i64.wrap ((i:Int)+1)=((i+1:Nat):Int):=ZC (n:=i+1) qr
 have h5:i+m+1<=(QX E).length:=by rw[Kq,hinv.len];omega
 refine⟨E.set (i+m) c,?_,?_⟩
 ·simp only[MS,CJ,Qv,guardOf,Q2,opd,Xf,ZR,Z5,Env.get,Env.put,Jm,Qz,ZO,St.after,Env.keep,JC,Je,unV,Jb,Z1,packed,Ob.fresh,Jq,okVar,cS,reduceCtorEq,QQ,QL,QU,Zj,QZ,Za,QK,QY,QS,h1,h2,ho',hxc,hb,e1,e2,e10,h5,KN,Yd]
 ·refine⟨by rw[Qr];exact hinv.len,Yf hinv.lt hinv.clt,?_,?_⟩
  ·have h6:=Vj (B:=4294967296) c hz
   have h7:=hinv.eq
   rw[show os.take m=os by rw[<-hm];exact Yn,h.eq]at h7
   rw[JY ha,Zl]
   omega
  ·intro j h6 h7
   rw[Ql qr]
   exact hinv.top j qr h7
def i5(U:Row .u32 H id1 off1 ws)(O:Row .u32 H id2 off2 os)(hn:ws.length=n)(hm:os.length=m)(hN:n+m<2^40)(J:∀x∈ws,x<4294967296)(Y:∀x∈os,x<4294967296) :
  Zp T 131 [.slice (some ⟨id1,off1,none⟩) n c1,.slice (some ⟨id2,off2,none⟩) m c2] H=some (.slice H.length (n+m) (n+m),H++[Ob.fresh (QX (dig 4294967296 (n+m) (num 4294967296 ws*num 4294967296 os)))],[]):=by
 have h0:TimesInv n m 0 ws os (dig 4294967296 (n+m) 0):=⟨Ze _ _ _,fun x hx=>Vt ww hx,by rw[Kf ww];simp[num],fun j _ h=>by rw[Kc h];simp⟩
 obtain⟨s',hb,out,rfl,hinv⟩:=QM (T:=T) (base:=H.length) (id:=0) (body:=CJ)
  (fun i s=>∃out,s=MS H (.slice (some ⟨id1,off1,none⟩) n c1) (.slice (some ⟨id2,off2,none⟩) m c2) n m i out/\TimesInv n m i ws os out)
  (Q:=fun s=>∃out,s=⟨[(1,.slice (some ⟨id2,off2,none⟩) m c2),(5,.slice H.length (n+m) (n+m)),(17,.slice (some ⟨id1,off1,none⟩) n c1),(18,.int .i64 n),(19,.int .i64 n),(20,.bool false)],H++[{c:=QX out}],[]⟩/\TimesInv n m n ws os out)
  n ⟨_,rfl,h0⟩
  (fun i s hi hs=>by
   obtain⟨out,rfl,Z⟩:=hs
   obtain⟨a,ha⟩:∃a,ws[i]?=some a:=⟨_,Qg qr⟩
   obtain⟨out',g1,g2⟩:=LS (c1:=c1) (c2:=c2) U O hm hN hi ha (J a (Qw ha)) Y Z
   exact⟨_,g1,_,rfl,g2⟩)
  (fun s hs=>by
   obtain⟨out,rfl,Z⟩:=hs
   have E:¬((n:Int)<(n:Int)):=qr
   refine⟨_,?_,out,rfl,Z⟩
   simp only[MS,CJ,Qv,guardOf,Q2,opd,Xf,ZR,Z5,Env.get,Env.put,Jm,Qz,ZO,St.after,Env.keep,JC,Je,unV,Jb,Z1,packed,Ob.fresh,Jq,okVar,cS,reduceCtorEq,QQ,QL,QU,Zj,QZ,Za,QK,QY,QS,E])
 rw[show MS H (.slice (some ⟨id1,off1,none⟩) n c1) (.slice (some ⟨id2,off2,none⟩) m c2) n m 0 (dig 4294967296 (n+m) 0)=⟨[(1,.slice (some ⟨id2,off2,none⟩) m c2),(5,.slice H.length (n+m) (n+m)),(17,.slice (some ⟨id1,off1,none⟩) n c1),(18,.int .i64 n),(19,.int .i64 0)],H++[{c:=QX (dig 4294967296 (n+m) 0)}],[]⟩ from rfl]at hb
 have I:dig 4294967296 (n+m) (num 4294967296 ws*num 4294967296 os)=out:=by
  have E:=hinv.eq
  rw[show ws.take n=ws by rw[<-hn];exact Yn]at E
  rw[<-E,<-hinv.len,YN ww hinv.lt]
 have e1:IntKind.i64.wrap ((n:Int)+(m:Int))=((n+m:Nat):Int):=ZC (n:=n+m) qr
 have E:(((n+m:Nat):Int)*((4:Nat):Int)<=2^47):=qr
 have h2:(0:Nat)<4:=ww
 rw[Q9 (fn:=a44) rfl,I]
 simp only[a44,Qv,guardOf,Q2,opd,Xf,ZR,Z5,Env.get,Env.put,Jm,Qz,ZO,St.after,Env.keep,JC,Je,unV,Jb,Z1,packed,Ob.fresh,Jq,okVar,cS,reduceCtorEq,QQ,QL,QU,Zj,QZ,Za,QK,QY,QS,e1,E,h2,WX,Uq,MR,hb]
structure PlusInv(n i A:Nat)(os out:List Nat)(c:Nat):Prop where
 len:out.length=n+1
 lt:∀x∈out,x<4294967296
 cle:c<=1
 eq:num 4294967296 out+c*4294967296^i=A+num 4294967296 (os.take i)
def E4{B:Nat}(l:List Nat)(i:Nat):num B (l.take (i+1))=num B (l.take i)+l.getD i 0*B^i:=by
 cases h:l[i]? with
 |some x=>rw[JY h,Qy,h];rfl
 |none =>
  have:=List.getElem?_eq_none_iff.1 h
  rw[Qy,h,Qo this,Qo qr]
  simp
def PlusInv.step{n i A c y:Nat}{os out:List Nat}(h:PlusInv n i A os out c)(E:∀x∈os,x<4294967296)(I:out[i]?=some y):PlusInv n (i+1) A os (out.set i (Pb y (os.getD i 0) c)) (Pc y (os.getD i 0) c):=by
 have J:y<4294967296:=h.lt y (Qw I)
 have hc:=h.cle
 have hx:os.getD i 0<4294967296:=by
  rw[Qy]
  cases O:os[i]? with
  |some x=>exact E x (Qw O)
  |none=>decide
 refine⟨by rw[Qr];exact h.len,Yf h.lt (Q3 _ ww),?_,?_⟩
 ·unfold Pc;omega
 ·have h1:=Vj (B:=4294967296) (Pb y (os.getD i 0) c) I
  have h2:=h.eq
  rw[E4]
  have U:4294967296*Pc y (os.getD i 0) c+Pb y (os.getD i 0) c=y+os.getD i 0+c:=ZK _ _
  generalize Pc y (os.getD i 0) c=q,Pb y (os.getD i 0) c=r at *
  have Z:q*4294967296^(i+1)=4294967296*q*4294967296^i:=by
   rw[Zn];simp only[ZI,Xb,Zw]
  have Y:(4294967296*q+r)*4294967296^i=(y+os.getD i 0+c)*4294967296^i:=by rw[U]
  rw[Zl,Zl,Zl]at Y
  rw[Z]
  omega
def An(H:List Ob)(s2:Value)(n i c:Nat)(out:List Nat):St :=
 ⟨[(1,s2),(5,.slice H.length (n+1) (n+1)),(6,.int .u32 c),(19,.int .i64 ((n+1:Nat):Int)),(20,.int .i64 i)],H++[{c:=QX out},{c:=[.int .u32 0]}],[]⟩
def dC{m i:Nat}(hr:Row .u32 H id2 off2 os)(hm:os.length=m)(hN:n<2^40)(hmn:m<2^40)(hi:i<n+1)(Y:∀x∈os,x<4294967296)(hl:out.length=n+1)(hy:out[i]?=some y)(J:y<4294967296)(hc:c<=1) :
  Q4 T H.length BT (An H (.slice (some ⟨id2,off2,none⟩) m c2) n i c out)=some (.normal,An H (.slice (some ⟨id2,off2,none⟩) m c2) n (i+1) (Pc y (os.getD i 0) c) (out.set i (Pb y (os.getD i 0) c))):=by
 obtain⟨o,ho,JP⟩:=hr
 have Z:=KD (l:=[{c:=QX out},{c:=[.int .u32 0]}]) ho
 have I:=Kr hy
 have h1:((i:Int)<((n+1:Nat):Int)):=qr
 have O:IntKind.i64.wrap ((i:Int)+1)=((i+1:Nat):Int):=ZC (n:=i+1) qr
 have h5:i+1<=(QX out).length:=by rw[Kq,hl];omega
 by_cases him:i<m
 ·obtain⟨b,hb⟩:∃b,os[i]?=some b:=⟨_,Qg qr⟩
  have hd:os.getD i 0=b:=by rw[Qy,hb];rfl
  have U:=JP i b hb
  have h2:((i:Int)<(m:Int)):=qr
  have E:=Pd J (Y b (Qw hb)) hc
  rw[hd]
  simp only[An,BT,Qv,guardOf,Q2,opd,Xf,ZR,Z5,Env.get,Env.put,Jm,Qz,ZO,St.after,Env.keep,JC,Je,unV,Jb,Z1,packed,Ob.fresh,Jq,okVar,cS,reduceCtorEq,QQ,QL,QU,Zj,QZ,Za,QK,QY,QS,h1,h2,Z,U,I,O,h5,KN,Yd,E]
 ·have hd:os.getD i 0=0:=by rw[Qy,QE qr];rfl
  have h2:¬((i:Int)<(m:Int)):=qr
  have E:Zp T 171 [.int .u32 (y:Nat),.int .u32 0,.int .u32 (c:Nat)] []=_:=Pd J (by decide:0<4294967296) hc
  rw[hd]
  simp only[An,BT,Qv,guardOf,Q2,opd,Xf,ZR,Z5,Env.get,Env.put,Jm,Qz,ZO,St.after,Env.keep,JC,Je,unV,Jb,Z1,packed,Ob.fresh,Jq,okVar,cS,reduceCtorEq,QQ,QL,QU,Zj,QZ,Za,QK,QY,QS,h1,h2,I,O,h5,KN,Yd,E]
def sC(hn:ws.length=n):splice (QX (dig 4294967296 (n+1) 0)) 0 (QX ws)=QX (ws++[0]):=by
 rw[Xv _ _ _ (by rw[Kq,Kq,Ze];omega),Kq,hn,OH]
 simp only[Js,Qn,QH,QX,List.map_append,List.map_replicate,List.drop_replicate]
 rw[show n+1-n=1 by omega];rfl
def sB{n:Nat}(hn:ws.length=n):splice (QX (ws++[0])) n [.int .u32 0]=QX (ws++[0]):=by
 rw[XP]
 apply ZE
 intro i
 by_cases hi:i=n
 ·subst hi
  rw[Qu (by rw[Kq,Qh,hn];simp),Kr (x:=0) (by rw[Qd qr,hn];simp)];rfl
 ·rw[Ql (Ne.symm hi)]
def sG(E:Row .u32 H id1 off1 ws)(hn:ws.length=n)(I:0<n)(J:n<2^40) :
  ZV 1 4 (H++[{c:=QX (dig 4294967296 (n+1) 0)}]) (.slice H.length 0 (n+1)) (.slice (some ⟨id1,off1,none⟩) n c1)=some (.slice H.length n (n+1),H++[{c:=QX (ws++[0])}],none,[H.length]):=by
 have h:=RX (H:=H) (r:=[]) (es:=1) (bytes:=4) (len:=0) (cap:=n+1) (cs:=QX (dig 4294967296 (n+1) 0)) (x := .slice (some ⟨id1,off1,none⟩) n c1) (n:=n) (new:=QX ws) rfl (by rw[<-hn];exact(E.app).elems qr) I qr qr ww ww (by rw[Kq,Kq,Ze];omega)
 rw[KA,sC hn,QH]at h
 exact h
def sE(hn:ws.length=n)(E:n<2^40) :
  ZV 1 4 (H++[{c:=QX (ws++[0])},{c:=[.int .u32 0]}]) (.slice H.length n (n+1)) (.slice (H.length+1:Nat) 1 1)=some (.slice H.length (n+1) (n+1),H++[{c:=QX (ws++[0])},{c:=[.int .u32 0]}],none,[H.length]):=by
 have h:=RX (H:=H) (r:=[{c:=[.int .u32 0]}]) (es:=1) (bytes:=4) (len:=n) (cap:=n+1) (cs:=QX (ws++[0])) (x := .slice (H.length+1:Nat) 1 1) (n:=1) (new:=[.int .u32 0]) rfl (by simp[elemsOf,Of]) ww qr qr ww ww (by rw[Kq,Qh,hn];simp)
 rw[Xy,sB hn]at h
 exact h
def kY{A:Nat}{c:Nat}(hinv:PlusInv n (n+1) A os out c)(hm:os.length=m)(J:m<=n)(Y:A<4294967296^n)(I:∀x∈os,x<4294967296):dig 4294967296 (n+1) (A+num 4294967296 os)=out:=by
  have E:=hinv.eq
  rw[show os.take (n+1)=os from Qo qr]at E
  have U:=num_lt I
  rw[hm]at U
  have Z:4294967296^m<=4294967296^n:=Zy ww J
  have O:c=0:=by
   have hc:=hinv.cle
   rcases ZA 0 c with h|h
   ·have:c=1:=qr
    subst this
    rw[Zn]at E
    omega
   ·omega
  subst O
  rw[KA,ZM]at E
  rw[<-E,<-hinv.len,YN ww hinv.lt]
def dB(Z:Row .u32 H id1 off1 ws)(U:Row .u32 H id2 off2 os)(hn:ws.length=n)(hm:os.length=m)(hn0:0<n)(hmn:m<=n)(hN:n<2^40)(O:∀x∈ws,x<4294967296)(I:∀x∈os,x<4294967296) :
  ∃out c,Q4 T H.length (.block 0 (.loop BT)) ⟨[(1,.slice (some ⟨id2,off2,none⟩) m c2),(5,.slice H.length (n+1) (n+1)),(6,.int .u32 0),(19,.int .i64 ((n+1:Nat):Int)),(20,.int .i64 0)],H++[{c:=QX (ws++[0])},{c:=[.int .u32 0]}],[]⟩=some (.normal,⟨[(1,.slice (some ⟨id2,off2,none⟩) m c2),(5,.slice H.length (n+1) (n+1)),(6,.int .u32 (c:Nat)),(19,.int .i64 ((n+1:Nat):Int)),(20,.int .i64 ((n+1:Nat):Int)),(21,.bool false)],H++[{c:=QX out},{c:=[.int .u32 0]}],[]⟩)/\PlusInv n (n+1) (num 4294967296 ws) os out c:=by
 have h0:PlusInv n 0 (num 4294967296 ws) os (ws++[0]) 0:=⟨by simp[hn],fun x Y=>by
  rcases QB.1 Y with h|h
  ·exact O x h
  ·simp at h;omega,by decide,by rw[KV];simp[num]⟩
 obtain⟨s',hb,out,c,rfl,hinv⟩:=QM (T:=T) (base:=H.length) (id:=0) (body:=BT)
  (fun i s=>∃out c,s=An H (.slice (some ⟨id2,off2,none⟩) m c2) n i c out/\PlusInv n i (num 4294967296 ws) os out c)
  (Q:=fun s=>∃out c,s=⟨[(1,.slice (some ⟨id2,off2,none⟩) m c2),(5,.slice H.length (n+1) (n+1)),(6,.int .u32 (c:Nat)),(19,.int .i64 ((n+1:Nat):Int)),(20,.int .i64 ((n+1:Nat):Int)),(21,.bool false)],H++[{c:=QX out},{c:=[.int .u32 0]}],[]⟩/\PlusInv n (n+1) (num 4294967296 ws) os out c)
  (n+1) ⟨_,_,rfl,h0⟩
  (fun i s hi hs=>by
   obtain⟨out,c,rfl,E⟩:=hs
   obtain⟨y,J⟩:∃y,out[i]?=some y:=⟨_,Qg (by rw[E.len];omega)⟩
   exact⟨_,dC U hm hN qr hi I E.len J (E.lt y (Qw J)) E.cle,_,_,rfl,E.step I J⟩)
  (fun s hs=>by
   obtain⟨out,c,rfl,E⟩:=hs
   have h1:¬(((n+1:Nat):Int)<((n+1:Nat):Int)):=qr
   refine⟨_,?_,out,c,rfl,E⟩
   simp only[An,BT,Qv,guardOf,Q2,opd,Xf,ZR,Z5,Env.get,Env.put,Jm,Qz,ZO,St.after,Env.keep,JC,Je,unV,Jb,Z1,packed,Ob.fresh,Jq,okVar,cS,reduceCtorEq,QQ,QL,QU,Zj,QZ,Za,QK,QY,QS,h1])
 rw[show An H (.slice (some ⟨id2,off2,none⟩) m c2) n 0 0 (ws++[0])=⟨[(1,.slice (some ⟨id2,off2,none⟩) m c2),(5,.slice H.length (n+1) (n+1)),(6,.int .u32 0),(19,.int .i64 ((n+1:Nat):Int)),(20,.int .i64 0)],H++[{c:=QX (ws++[0])},{c:=[.int .u32 0]}],[]⟩ from rfl]at hb
 exact⟨out,c,hb,hinv⟩
def yF(h:k<2^41):((k:Nat):Int)*((4:Nat):Int)<=2^47:=qr
def kZ(U:IntKind.i64.wrap ((n:Int)+1)=((k:Nat):Int))(O:((k:Nat):Int)*((4:Nat):Int)<=2^47)
 (I:ZV 1 4 (H++[{c:=QX (dig 4294967296 k 0)}]) (.slice H.length 0 k) (.slice (some ⟨id1,off1,none⟩) n c1)=some (.slice H.length n k,H++[{c:=QX (ws++[0])}],none,[H.length]))
 (E:ZV 1 4 (H++[{c:=QX (ws++[0])},{c:=[.int .u32 0]}]) (.slice H.length n k) (.slice (H.length+1:Nat) 1 1)=some (.slice H.length k k,H++[{c:=QX (ws++[0])},{c:=[.int .u32 0]}],none,[H.length]))
    (hb:Q4 T H.length (.block 0 (.loop BT)) ⟨[(1,.slice (some ⟨id2,off2,none⟩) m c2),(5,.slice H.length (k) (k)),(6,.int .u32 0),(19,.int .i64 ((k:Nat):Int)),(20,.int .i64 0)],H++[{c:=QX (ws++[0])},{c:=[.int .u32 0]}],[]⟩=some (.normal,⟨[(1,.slice (some ⟨id2,off2,none⟩) m c2),(5,.slice H.length (k) (k)),(6,.int .u32 (c:Nat)),(19,.int .i64 ((k:Nat):Int)),(20,.int .i64 ((k:Nat):Int)),(21,.bool false)],H++[{c:=QX out},{c:=[.int .u32 0]}],[]⟩)) :
    Zp T 132 [.slice (some ⟨id1,off1,none⟩) n c1,.slice (some ⟨id2,off2,none⟩) m c2] H=some (.slice H.length k k,H++[{c:=QX out},{c:=[.int .u32 0]}],[]):=by
  have J:(0:Nat)<4:=ww
  have hfill:fillL [Value.int .u32 0] [(0,1,.int .u32 0)]=some [.int .u32 0]:=rfl
  rw[Q9 (fn:=a45) rfl]
  simp only[a45,Qv,guardOf,Q2,opd,Xf,ZR,Z5,Env.get,Env.put,Jm,Qz,ZO,St.after,Env.keep,JC,Je,unV,Jb,Z1,packed,Ob.fresh,Jq,okVar,cS,reduceCtorEq,QQ,QL,QU,Zj,QZ,Za,QK,QY,QS,U,O,J,WX,Uq,MR,hfill,Qh,Qx,I,E,hb]
def sD(I:Row .u32 H id1 off1 ws)(Z:Row .u32 H id2 off2 os)(hn:ws.length=n)(hm:os.length=m)(U:0<n)(Y:m<=n)(hN:n<2^40)(E:∀x∈ws,x<4294967296)(O:∀x∈os,x<4294967296) :
  Zp T 132 [.slice (some ⟨id1,off1,none⟩) n c1,.slice (some ⟨id2,off2,none⟩) m c2] H=some (.slice H.length (n+1) (n+1),H++[{c:=QX (dig 4294967296 (n+1) (num 4294967296 ws+num 4294967296 os))},{c:=[.int .u32 0]}],[]):=by
 obtain⟨out,c,hb,hinv⟩:=dB (c2:=c2) I Z hn hm U Y hN E O
 have J:=kY hinv hm Y (by rw[<-hn];exact num_lt E) O
 rw[J]
 exact kZ (ZC (n:=n+1) qr) (yF qr) (sG I hn U hN) (sE hn hN) hb
def ell:Nat:=7237005577332262213973186563042994240857116359379907606001950938285454250989
def cg:num 4294967296 orderW=ell:=ww
def Dx:∀x∈orderW,x<4294967296:=ww
structure ShInv(k c0:Nat)(r0 r:List Nat)(c:Nat):Prop where
 len:r.length=8
 lt:∀x∈r,x<4294967296
 cle:c<=1
 eq:num 4294967296 r+c*4294967296^k=num 4294967296 r0+num 4294967296 (r0.take k)+c0
 rest:∀j,k<=j->r[j]?=r0[j]?
def ShInv.step{k c0 c x:Nat}{r0 r:List Nat}(h:ShInv k c0 r0 r c)(E:r[k]?=some x):ShInv (k+1) c0 r0 (r.set k ((2*x+c)%4294967296)) (x/2147483648):=by
 have I:x<4294967296:=h.lt x (Qw E)
 have hc:=h.cle
 refine⟨by rw[Qr];exact h.len,Yf h.lt (Q3 _ ww),by omega,?_,?_⟩
 ·have h1:=Vj (B:=4294967296) ((2*x+c)%4294967296) E
  have Z:=h.eq
  rw[JY (by rw[<-h.rest k (Qj _)];exact E)]
  have J:4294967296*(x/2147483648)+(2*x+c)%4294967296=2*x+c:=qr
  generalize(2*x+c)%4294967296=y at *
  generalize x/2147483648=q at *
  have U:q*4294967296^(k+1)=4294967296*q*4294967296^k:=by
   rw[Zn];simp only[ZI,Xb,Zw]
  have O:(4294967296*q+y)*4294967296^k=(2*x+c)*4294967296^k:=by rw[J]
  rw[Zl,Zl,ZI 2]at O
  rw[U]
  omega
 ·intro j Y
  rw[Ql qr]
  exact h.rest j qr
structure SbInv(k:Nat)(r nx:List Nat)(b:Nat):Prop where
 len:nx.length=8
 lt:∀x∈nx,x<4294967296
 ble:b<=1
 eq:num 4294967296 (r.take k)+b*4294967296^k=num 4294967296 (orderW.take k)+num 4294967296 (nx.take k)
def Eo{l:List Nat}{k:Nat}:(l.set k y).take k=l.take k:=by
 apply ZE
 intro i
 rw[QN,QN]
 by_cases h:i<k
 ·rw[if_pos h,if_pos h,Ql qr]
 ·rw[if_neg h,if_neg h]
def SbInv.step{k b x l:Nat}{r nx:List Nat}(h:SbInv k r nx b)(U:∀x∈r,x<4294967296)(Z:k<8)(E:r[k]?=some x)(I:orderW[k]?=some l):SbInv (k+1) r (nx.set k (GU x l b)) (GV x l b):=by
 have O:x<4294967296:=U x (Qw E)
 have Y:l<4294967296:=Dx l (Qw I)
 have hb:=h.ble
 have hd:GU x l b<4294967296/\x+4294967296*GV x l b=l+b+GU x l b/\GV x l b<=1:=by
  unfold GU GV;split<;>omega
 refine⟨by rw[Qr];exact h.len,Yf h.lt hd.1,hd.2.2,?_⟩
 have h2:=h.eq
 have J:(nx.set k (GU x l b))[k]?=some (GU x l b):=Qu (by rw[h.len];exact Z)
 rw[JY E,JY I,JY J,Eo]
 have h3:=hd.2.1
 generalize GU x l b=d,GV x l b=q at *
 have e2:q*4294967296^(k+1)=4294967296*q*4294967296^k:=by
  rw[Zn];simp only[ZI,Xb,Zw]
 have e3:(x+4294967296*q)*4294967296^k=(l+b+d)*4294967296^k:=by rw[h3]
 rw[Zl,Zl,Zl]at e3
 rw[e2]
 omega
def iM{nx:List Nat}(hk:k<8)(Y:r.length=8)(U:r[k]?=some x)(O:x<4294967296)(hc:c<=1) :
  Q4 T H.length Wq (⟨[(0,s),(3,(.slice H.length 8 8)),(4,(.slice (H.length+1:Nat) 8 8)),(5,(.slice (H.length+2:Nat) 8 8)),(6,v),(7,.int .u32 ((c:Nat))),(32,.int .i64 8),(33,.int .i64 ((k:Nat)))],H++[{c:=QX (r)},{c:=QX orderW},{c:=QX (nx)}],[]⟩:St)=some (.normal,(⟨[(0,s),(3,(.slice H.length 8 8)),(4,(.slice (H.length+1:Nat) 8 8)),(5,(.slice (H.length+2:Nat) 8 8)),(6,v),(7,.int .u32 (((x/2147483648:Nat):Int))),(32,.int .i64 8),(33,.int .i64 (((k+1:Nat):Int)))],H++[{c:=QX (r.set k ((2*x+c)%4294967296))},{c:=QX orderW},{c:=QX (nx)}],[]⟩:St)):=by
 have E:=Kr U
 have h1:((k:Int)<(8:Int)):=qr
 have I:((k:Int)<((8:Nat):Int)):=qr
 have e1:IntKind.u32.wrap ((x:Int)*2^min 1 IntKind.u32.bits)=((2*x%4294967296:Nat):Int):=by
  rw[wrap_u32,show min 1 IntKind.u32.bits=1 from rfl];omega
 have e2:Z3 .or .u32 ((2*x%4294967296:Nat):Int) (c:Int)=(((2*x+c)%4294967296:Nat):Int):=by
  rw[Kx (k := .u32) (a:=2*x%4294967296) (b:=c) rfl (Q3 _ ww) (by show c<2^32;omega)]
  congr 1
  have h2:2*x%4294967296=2^1*(x%2147483648):=qr
  rw[h2,<-VL (by omega:c<2^1)]
  omega
 have e3:Bi (x:Int) (2^min 31 IntKind.u32.bits)=((x/2147483648:Nat):Int):=by
  rw[JT _ ww];rfl
 have J:IntKind.i64.wrap ((k:Int)+1)=((k+1:Nat):Int):=ZC (n:=k+1) qr
 have Z:k+1<=(QX r).length:=by rw[Kq,Y];omega
 simp only[Wq,Qv,guardOf,Q2,opd,Xf,ZR,Z5,Env.get,Env.put,Jm,Qz,ZO,St.after,Env.keep,JC,Je,unV,Jb,Z1,packed,Ob.fresh,Jq,okVar,cS,reduceCtorEq,QQ,QL,QU,Zj,QZ,Za,QK,QY,QS,h1,I,E,e1,e2,e3,J,Z,KN,Yd]
def iT{nx:List Nat}(hk:k<8)(hl:nx.length=8)(hx:r[k]?=some x)(J:x<4294967296)(Z:orderW[k]?=some l)(hb:b<=1) :
  Q4 T H.length Ws (⟨[(0,s),(3,(.slice H.length 8 8)),(4,(.slice (H.length+1:Nat) 8 8)),(5,(.slice (H.length+2:Nat) 8 8)),(6,v),(9,.int .u32 ((b:Nat))),(53,.int .i64 8),(54,.int .i64 ((k:Nat)))],H++[{c:=QX (r)},{c:=QX orderW},{c:=QX (nx)}],[]⟩:St)=some (.normal,(⟨[(0,s),(3,(.slice H.length 8 8)),(4,(.slice (H.length+1:Nat) 8 8)),(5,(.slice (H.length+2:Nat) 8 8)),(6,v),(9,.int .u32 (((GV x l b:Nat):Int))),(53,.int .i64 8),(54,.int .i64 (((k+1:Nat):Int)))],H++[{c:=QX (r)},{c:=QX orderW},{c:=QX (nx.set k (GU x l b))}],[]⟩:St)):=by
 have I:=Kr hx
 have O:=Kr Z
 have h1:((k:Int)<(8:Int)):=qr
 have U:((k:Int)<((8:Nat):Int)):=qr
 have E:=TN J (Dx l (Qw Z)) hb
 have Y:IntKind.i64.wrap ((k:Int)+1)=((k+1:Nat):Int):=ZC (n:=k+1) qr
 have h5:k+1<=(QX nx).length:=by rw[Kq,hl];omega
 simp only[Ws,Qv,guardOf,Q2,opd,Xf,ZR,Z5,Env.get,Env.put,Jm,Qz,ZO,St.after,Env.keep,JC,Je,unV,Jb,Z1,packed,Ob.fresh,Jq,okVar,cS,reduceCtorEq,QQ,QL,QU,Zj,QZ,Za,QK,QY,QS,h1,U,I,O,E,Y,h5,LV,Yd]
def iK{nx:List Nat}(O:r.length=8)(J:∀x∈r,x<4294967296)(hc:c<=1) :
  ∃r' c',Q4 T H.length (.block 2 (.loop Wq)) (⟨[(0,s),(3,(.slice H.length 8 8)),(4,(.slice (H.length+1:Nat) 8 8)),(5,(.slice (H.length+2:Nat) 8 8)),(6,v),(7,.int .u32 ((c:Nat))),(32,.int .i64 8),(33,.int .i64 (0))],H++[{c:=QX (r)},{c:=QX orderW},{c:=QX (nx)}],[]⟩:St)=some (.normal,(⟨[(0,s),(3,(.slice H.length 8 8)),(4,(.slice (H.length+1:Nat) 8 8)),(5,(.slice (H.length+2:Nat) 8 8)),(6,v),(7,.int .u32 ((c':Nat))),(32,.int .i64 8),(33,.int .i64 (8)),(34,.bool false)],H++[{c:=QX (r')},{c:=QX orderW},{c:=QX (nx)}],[]⟩:St))/\ShInv 8 c r r' c':=by
 obtain⟨s',hb,r',c',rfl,hinv⟩:=QM (T:=T) (base:=H.length) (id:=2) (body:=Wq)
  (fun k s1=>∃r' c',s1=(⟨[(0,s),(3,(.slice H.length 8 8)),(4,(.slice (H.length+1:Nat) 8 8)),(5,(.slice (H.length+2:Nat) 8 8)),(6,v),(7,.int .u32 ((c':Nat))),(32,.int .i64 8),(33,.int .i64 ((k:Nat)))],H++[{c:=QX (r')},{c:=QX orderW},{c:=QX (nx)}],[]⟩:St)/\ShInv k c r r' c')
  (Q:=fun s1=>∃r' c',s1=(⟨[(0,s),(3,(.slice H.length 8 8)),(4,(.slice (H.length+1:Nat) 8 8)),(5,(.slice (H.length+2:Nat) 8 8)),(6,v),(7,.int .u32 ((c':Nat))),(32,.int .i64 8),(33,.int .i64 (8)),(34,.bool false)],H++[{c:=QX (r')},{c:=QX orderW},{c:=QX (nx)}],[]⟩:St)/\ShInv 8 c r r' c')
  8 (s:=(⟨[(0,s),(3,(.slice H.length 8 8)),(4,(.slice (H.length+1:Nat) 8 8)),(5,(.slice (H.length+2:Nat) 8 8)),(6,v),(7,.int .u32 ((c:Nat))),(32,.int .i64 8),(33,.int .i64 (((0:Nat):Int)))],H++[{c:=QX (r)},{c:=QX orderW},{c:=QX (nx)}],[]⟩:St)) ⟨_,_,rfl,⟨O,J,hc,by simp[num],fun _ _=>rfl⟩⟩
  (fun k s1 U hs=>by
   obtain⟨r',c',rfl,E⟩:=hs
   obtain⟨x,I⟩:∃x,r'[k]?=some x:=⟨_,Qg (by rw[E.len];omega)⟩
   exact⟨_,iM U E.len I (E.lt x (Qw I)) E.cle,_,_,rfl,E.step I⟩)
  (fun s1 hs=>by
   obtain⟨r',c',rfl,E⟩:=hs
   have Y:¬(((8:Nat):Int)<(8:Int)):=qr
   refine⟨_,?_,r',c',rfl,E⟩
   simp only[Wq,Qv,guardOf,Q2,opd,Xf,ZR,Z5,Env.get,Env.put,Jm,Qz,ZO,St.after,Env.keep,JC,Je,unV,Jb,Z1,packed,Ob.fresh,Jq,okVar,cS,reduceCtorEq,QQ,QL,QU,Zj,QZ,Za,QK,QY,QS,Y]
   rfl)
 exact⟨r',c',hb,hinv⟩
def iR{nx:List Nat}(hl:r.length=8)(hr:∀x∈r,x<4294967296)(Y:nx.length=8)(U:∀x∈nx,x<4294967296) :
  ∃E b,Q4 T H.length (.block 4 (.loop Ws)) (⟨[(0,s),(3,(.slice H.length 8 8)),(4,(.slice (H.length+1:Nat) 8 8)),(5,(.slice (H.length+2:Nat) 8 8)),(6,v),(9,.int .u32 (0)),(53,.int .i64 8),(54,.int .i64 (0))],H++[{c:=QX (r)},{c:=QX orderW},{c:=QX (nx)}],[]⟩:St)=some (.normal,(⟨[(0,s),(3,(.slice H.length 8 8)),(4,(.slice (H.length+1:Nat) 8 8)),(5,(.slice (H.length+2:Nat) 8 8)),(6,v),(9,.int .u32 ((b:Nat))),(53,.int .i64 8),(54,.int .i64 (8)),(55,.bool false)],H++[{c:=QX (r)},{c:=QX orderW},{c:=QX (E)}],[]⟩:St))/\SbInv 8 r E b:=by
 obtain⟨s',hb,E,b,rfl,hinv⟩:=QM (T:=T) (base:=H.length) (id:=4) (body:=Ws)
  (fun k s1=>∃E b,s1=(⟨[(0,s),(3,(.slice H.length 8 8)),(4,(.slice (H.length+1:Nat) 8 8)),(5,(.slice (H.length+2:Nat) 8 8)),(6,v),(9,.int .u32 ((b:Nat))),(53,.int .i64 8),(54,.int .i64 ((k:Nat)))],H++[{c:=QX (r)},{c:=QX orderW},{c:=QX (E)}],[]⟩:St)/\SbInv k r E b)
  (Q:=fun s1=>∃E b,s1=(⟨[(0,s),(3,(.slice H.length 8 8)),(4,(.slice (H.length+1:Nat) 8 8)),(5,(.slice (H.length+2:Nat) 8 8)),(6,v),(9,.int .u32 ((b:Nat))),(53,.int .i64 8),(54,.int .i64 (8)),(55,.bool false)],H++[{c:=QX (r)},{c:=QX orderW},{c:=QX (E)}],[]⟩:St)/\SbInv 8 r E b)
  8 (s:=(⟨[(0,s),(3,(.slice H.length 8 8)),(4,(.slice (H.length+1:Nat) 8 8)),(5,(.slice (H.length+2:Nat) 8 8)),(6,v),(9,.int .u32 (((0:Nat):Int))),(53,.int .i64 8),(54,.int .i64 (((0:Nat):Int)))],H++[{c:=QX (r)},{c:=QX orderW},{c:=QX (nx)}],[]⟩:St)) ⟨_,_,rfl,⟨Y,U,by decide,by simp[num]⟩⟩
  (fun k s1 Z hs=>by
   obtain⟨E,b,rfl,J⟩:=hs
   obtain⟨x,O⟩:∃x,r[k]?=some x:=⟨_,Qg qr⟩
   obtain⟨l,I⟩:∃l,orderW[k]?=some l:=⟨_,Qg (show k<orderW.length from Z)⟩
   exact⟨_,iT Z J.len O (hr x (Qw O)) I J.ble,_,_,rfl,J.step hr Z O I⟩)
  (fun s1 hs=>by
   obtain⟨E,b,rfl,J⟩:=hs
   have h1:¬(((8:Nat):Int)<(8:Int)):=qr
   refine⟨_,?_,E,b,rfl,J⟩
   simp only[Ws,Qv,guardOf,Q2,opd,Xf,ZR,Z5,Env.get,Env.put,Jm,Qz,ZO,St.after,Env.keep,JC,Je,unV,Jb,Z1,packed,Ob.fresh,Jq,okVar,cS,reduceCtorEq,QQ,QL,QU,Zj,QZ,Za,QK,QY,QS,h1]
   rfl)
 exact⟨E,b,hb,hinv⟩
def iL{nx:List Nat}(hk:k<8)(Y:r.length=8)(U:r[k]?=some x)(O:x<4294967296)(hc:c<=1) :
  Q4 T H.length Wq (⟨[(0,s),(3,(.slice (H.length+2:Nat) 8 8)),(4,(.slice (H.length+1:Nat) 8 8)),(5,(.slice H.length 8 8)),(6,v),(7,.int .u32 ((c:Nat))),(32,.int .i64 8),(33,.int .i64 ((k:Nat)))],H++[{c:=QX (nx)},{c:=QX orderW},{c:=QX (r)}],[]⟩:St)=some (.normal,(⟨[(0,s),(3,(.slice (H.length+2:Nat) 8 8)),(4,(.slice (H.length+1:Nat) 8 8)),(5,(.slice H.length 8 8)),(6,v),(7,.int .u32 (((x/2147483648:Nat):Int))),(32,.int .i64 8),(33,.int .i64 (((k+1:Nat):Int)))],H++[{c:=QX (nx)},{c:=QX orderW},{c:=QX (r.set k ((2*x+c)%4294967296))}],[]⟩:St)):=by
 have E:=Kr U
 have h1:((k:Int)<(8:Int)):=qr
 have I:((k:Int)<((8:Nat):Int)):=qr
 have e1:IntKind.u32.wrap ((x:Int)*2^min 1 IntKind.u32.bits)=((2*x%4294967296:Nat):Int):=by
  rw[wrap_u32,show min 1 IntKind.u32.bits=1 from rfl];omega
 have e2:Z3 .or .u32 ((2*x%4294967296:Nat):Int) (c:Int)=(((2*x+c)%4294967296:Nat):Int):=by
  rw[Kx (k := .u32) (a:=2*x%4294967296) (b:=c) rfl (Q3 _ ww) (by show c<2^32;omega)]
  congr 1
  have h2:2*x%4294967296=2^1*(x%2147483648):=qr
  rw[h2,<-VL (by omega:c<2^1)]
  omega
 have e3:Bi (x:Int) (2^min 31 IntKind.u32.bits)=((x/2147483648:Nat):Int):=by
  rw[JT _ ww];rfl
 have J:IntKind.i64.wrap ((k:Int)+1)=((k+1:Nat):Int):=ZC (n:=k+1) qr
 have Z:k+1<=(QX r).length:=by rw[Kq,Y];omega
 simp only[Wq,Qv,guardOf,Q2,opd,Xf,ZR,Z5,Env.get,Env.put,Jm,Qz,ZO,St.after,Env.keep,JC,Je,unV,Jb,Z1,packed,Ob.fresh,Jq,okVar,cS,reduceCtorEq,QQ,QL,QU,Zj,QZ,Za,QK,QY,QS,h1,I,E,e1,e2,e3,J,Z,LV,Yd]
def iS{nx:List Nat}(hk:k<8)(hl:nx.length=8)(hx:r[k]?=some x)(J:x<4294967296)(Z:orderW[k]?=some l)(hb:b<=1) :
  Q4 T H.length Ws (⟨[(0,s),(3,(.slice (H.length+2:Nat) 8 8)),(4,(.slice (H.length+1:Nat) 8 8)),(5,(.slice H.length 8 8)),(6,v),(9,.int .u32 ((b:Nat))),(53,.int .i64 8),(54,.int .i64 ((k:Nat)))],H++[{c:=QX (nx)},{c:=QX orderW},{c:=QX (r)}],[]⟩:St)=some (.normal,(⟨[(0,s),(3,(.slice (H.length+2:Nat) 8 8)),(4,(.slice (H.length+1:Nat) 8 8)),(5,(.slice H.length 8 8)),(6,v),(9,.int .u32 (((GV x l b:Nat):Int))),(53,.int .i64 8),(54,.int .i64 (((k+1:Nat):Int)))],H++[{c:=QX (nx.set k (GU x l b))},{c:=QX orderW},{c:=QX (r)}],[]⟩:St)):=by
 have I:=Kr hx
 have O:=Kr Z
 have h1:((k:Int)<(8:Int)):=qr
 have U:((k:Int)<((8:Nat):Int)):=qr
 have E:=TN J (Dx l (Qw Z)) hb
 have Y:IntKind.i64.wrap ((k:Int)+1)=((k+1:Nat):Int):=ZC (n:=k+1) qr
 have h5:k+1<=(QX nx).length:=by rw[Kq,hl];omega
 simp only[Ws,Qv,guardOf,Q2,opd,Xf,ZR,Z5,Env.get,Env.put,Jm,Qz,ZO,St.after,Env.keep,JC,Je,unV,Jb,Z1,packed,Ob.fresh,Jq,okVar,cS,reduceCtorEq,QQ,QL,QU,Zj,QZ,Za,QK,QY,QS,h1,U,I,O,E,Y,h5,KN,Yd]
def iJ{nx:List Nat}(O:r.length=8)(J:∀x∈r,x<4294967296)(hc:c<=1) :
  ∃r' c',Q4 T H.length (.block 2 (.loop Wq)) (⟨[(0,s),(3,(.slice (H.length+2:Nat) 8 8)),(4,(.slice (H.length+1:Nat) 8 8)),(5,(.slice H.length 8 8)),(6,v),(7,.int .u32 ((c:Nat))),(32,.int .i64 8),(33,.int .i64 (0))],H++[{c:=QX (nx)},{c:=QX orderW},{c:=QX (r)}],[]⟩:St)=some (.normal,(⟨[(0,s),(3,(.slice (H.length+2:Nat) 8 8)),(4,(.slice (H.length+1:Nat) 8 8)),(5,(.slice H.length 8 8)),(6,v),(7,.int .u32 ((c':Nat))),(32,.int .i64 8),(33,.int .i64 (8)),(34,.bool false)],H++[{c:=QX (nx)},{c:=QX orderW},{c:=QX (r')}],[]⟩:St))/\ShInv 8 c r r' c':=by
 obtain⟨s',hb,r',c',rfl,hinv⟩:=QM (T:=T) (base:=H.length) (id:=2) (body:=Wq)
  (fun k s1=>∃r' c',s1=(⟨[(0,s),(3,(.slice (H.length+2:Nat) 8 8)),(4,(.slice (H.length+1:Nat) 8 8)),(5,(.slice H.length 8 8)),(6,v),(7,.int .u32 ((c':Nat))),(32,.int .i64 8),(33,.int .i64 ((k:Nat)))],H++[{c:=QX (nx)},{c:=QX orderW},{c:=QX (r')}],[]⟩:St)/\ShInv k c r r' c')
  (Q:=fun s1=>∃r' c',s1=(⟨[(0,s),(3,(.slice (H.length+2:Nat) 8 8)),(4,(.slice (H.length+1:Nat) 8 8)),(5,(.slice H.length 8 8)),(6,v),(7,.int .u32 ((c':Nat))),(32,.int .i64 8),(33,.int .i64 (8)),(34,.bool false)],H++[{c:=QX (nx)},{c:=QX orderW},{c:=QX (r')}],[]⟩:St)/\ShInv 8 c r r' c')
  8 (s:=(⟨[(0,s),(3,(.slice (H.length+2:Nat) 8 8)),(4,(.slice (H.length+1:Nat) 8 8)),(5,(.slice H.length 8 8)),(6,v),(7,.int .u32 ((c:Nat))),(32,.int .i64 8),(33,.int .i64 (((0:Nat):Int)))],H++[{c:=QX (nx)},{c:=QX orderW},{c:=QX (r)}],[]⟩:St)) ⟨_,_,rfl,⟨O,J,hc,by simp[num],fun _ _=>rfl⟩⟩
  (fun k s1 U hs=>by
   obtain⟨r',c',rfl,E⟩:=hs
   obtain⟨x,I⟩:∃x,r'[k]?=some x:=⟨_,Qg (by rw[E.len];omega)⟩
   exact⟨_,iL U E.len I (E.lt x (Qw I)) E.cle,_,_,rfl,E.step I⟩)
  (fun s1 hs=>by
   obtain⟨r',c',rfl,E⟩:=hs
   have Y:¬(((8:Nat):Int)<(8:Int)):=qr
   refine⟨_,?_,r',c',rfl,E⟩
   simp only[Wq,Qv,guardOf,Q2,opd,Xf,ZR,Z5,Env.get,Env.put,Jm,Qz,ZO,St.after,Env.keep,JC,Je,unV,Jb,Z1,packed,Ob.fresh,Jq,okVar,cS,reduceCtorEq,QQ,QL,QU,Zj,QZ,Za,QK,QY,QS,Y]
   rfl)
 exact⟨r',c',hb,hinv⟩
def iP{nx:List Nat}(hl:r.length=8)(hr:∀x∈r,x<4294967296)(Y:nx.length=8)(U:∀x∈nx,x<4294967296) :
  ∃E b,Q4 T H.length (.block 4 (.loop Ws)) (⟨[(0,s),(3,(.slice (H.length+2:Nat) 8 8)),(4,(.slice (H.length+1:Nat) 8 8)),(5,(.slice H.length 8 8)),(6,v),(9,.int .u32 (0)),(53,.int .i64 8),(54,.int .i64 (0))],H++[{c:=QX (nx)},{c:=QX orderW},{c:=QX (r)}],[]⟩:St)=some (.normal,(⟨[(0,s),(3,(.slice (H.length+2:Nat) 8 8)),(4,(.slice (H.length+1:Nat) 8 8)),(5,(.slice H.length 8 8)),(6,v),(9,.int .u32 ((b:Nat))),(53,.int .i64 8),(54,.int .i64 (8)),(55,.bool false)],H++[{c:=QX (E)},{c:=QX orderW},{c:=QX (r)}],[]⟩:St))/\SbInv 8 r E b:=by
 obtain⟨s',hb,E,b,rfl,hinv⟩:=QM (T:=T) (base:=H.length) (id:=4) (body:=Ws)
  (fun k s1=>∃E b,s1=(⟨[(0,s),(3,(.slice (H.length+2:Nat) 8 8)),(4,(.slice (H.length+1:Nat) 8 8)),(5,(.slice H.length 8 8)),(6,v),(9,.int .u32 ((b:Nat))),(53,.int .i64 8),(54,.int .i64 ((k:Nat)))],H++[{c:=QX (E)},{c:=QX orderW},{c:=QX (r)}],[]⟩:St)/\SbInv k r E b)
  (Q:=fun s1=>∃E b,s1=(⟨[(0,s),(3,(.slice (H.length+2:Nat) 8 8)),(4,(.slice (H.length+1:Nat) 8 8)),(5,(.slice H.length 8 8)),(6,v),(9,.int .u32 ((b:Nat))),(53,.int .i64 8),(54,.int .i64 (8)),(55,.bool false)],H++[{c:=QX (E)},{c:=QX orderW},{c:=QX (r)}],[]⟩:St)/\SbInv 8 r E b)
  8 (s:=(⟨[(0,s),(3,(.slice (H.length+2:Nat) 8 8)),(4,(.slice (H.length+1:Nat) 8 8)),(5,(.slice H.length 8 8)),(6,v),(9,.int .u32 (((0:Nat):Int))),(53,.int .i64 8),(54,.int .i64 (((0:Nat):Int)))],H++[{c:=QX (nx)},{c:=QX orderW},{c:=QX (r)}],[]⟩:St)) ⟨_,_,rfl,⟨Y,U,by decide,by simp[num]⟩⟩
  (fun k s1 Z hs=>by
   obtain⟨E,b,rfl,J⟩:=hs
   obtain⟨x,O⟩:∃x,r[k]?=some x:=⟨_,Qg qr⟩
   obtain⟨l,I⟩:∃l,orderW[k]?=some l:=⟨_,Qg (show k<orderW.length from Z)⟩
   exact⟨_,iS Z J.len O (hr x (Qw O)) I J.ble,_,_,rfl,J.step hr Z O I⟩)
  (fun s1 hs=>by
   obtain⟨E,b,rfl,J⟩:=hs
   have h1:¬(((8:Nat):Int)<(8:Int)):=qr
   refine⟨_,?_,E,b,rfl,J⟩
   simp only[Ws,Qv,guardOf,Q2,opd,Xf,ZR,Z5,Env.get,Env.put,Jm,Qz,ZO,St.after,Env.keep,JC,Je,unV,Jb,Z1,packed,Ob.fresh,Jq,okVar,cS,reduceCtorEq,QQ,QL,QU,Zj,QZ,Za,QK,QY,QS,h1]
   rfl)
 exact⟨E,b,hb,hinv⟩
end
section
attribute [local congr] BR
variable{H:List Ob}{id n i off cap w V v x y id1 off1 c1 id2 off2 c2:Nat}{ws a r p bs b c os:List Nat}{ps:List (List Nat)}{s:Value}
structure RInv(V:Nat)(r nx:List Nat):Prop where
 len:r.length=8
 lt:∀x∈r,x<4294967296
 len2:nx.length=8
 lt2:∀x∈nx,x<4294967296
 eq:num 4294967296 r=V%ell
def uS:2*ell+1<4294967296^8:=ww
def DJ:0<ell:=ww
def RInv.step{V c c' b:Nat}{r nx r' E:List Nat}(h:RInv V r nx)(hc:c<=1)(J:ShInv 8 c r r' c')(I:SbInv 8 r' E b):(b=0->RInv (2*V+c) E r')/\(b≠0->RInv (2*V+c) r' E):=by
 have e1:=J.eq
 have e2:=I.eq
 have l1:=h.len
 have U:=J.len
 have O:=I.len
 rw[Qo qr]at e1
 rw[Qo qr,Qo (show orderW.length<=8 from Qj _),Qo qr,cg]at e2
 have b1:=num_lt J.lt
 have b2:=num_lt I.lt
 rw[U]at b1
 rw[O]at b2
 have hp:=uS
 have hr:num 4294967296 r<ell:=by rw[h.eq];exact Q3 _ DJ
 have hV:(2*V+c)%ell=(2*num 4294967296 r+c)%ell:=by
  rw[h.eq,Ti,VV,Ti (2*(V%ell)),VV 2 (V%ell),Vu]
 have hle:=J.cle
 have hbe:=I.ble
 generalize 4294967296^8=W at *
 have Z:c'=0:=by
  rcases ZA 0 c' with hh|hh
  ·have:c'=1:=qr
   subst this
   omega
  ·omega
 subst Z
 generalize num 4294967296 r=x at *
 generalize Y:num 4294967296 r'=y at *
 generalize hz:num 4294967296 E=z at *
 have hy:y=2*x+c:=qr
 subst hy
 refine⟨fun h0=>⟨O,I.lt,U,J.lt,?_⟩,fun h0=>⟨U,J.lt,O,I.lt,?_⟩⟩
 ·subst h0
  rw[hV,show 2*x+c=z+ell by omega,Nat.add_mod_right,Q6 qr]
  exact hz
 ·have:b=1:=qr
  subst this
  have hlt:2*x+c<ell:=qr
  rw[hV,Q6 hlt]
  exact Y
def Sz{nx:List Nat}(hr:Row .u32 H id off ws)(hn:ws.length=n)(hN:n<2^40)(hi:i<32*n)(hw:ws[i/32]?=some w)(hw':w<4294967296)(h:RInv V r nx) :
  ∃r' E,RInv (2*V+w/2^(i%32)%2) r' E/\(Q4 T H.length VQ (⟨[(0,(.slice (some ⟨id,off,none⟩) n cap)),(3,(.slice H.length 8 8)),(4,(.slice (H.length+1:Nat) 8 8)),(5,(.slice (H.length+2:Nat) 8 8)),(6,.int .i64 ((i:Nat)))],H++[{c:=QX (r)},{c:=QX orderW},{c:=QX (nx)}],[]⟩:St)=some (.normal,(⟨[(0,(.slice (some ⟨id,off,none⟩) n cap)),(3,(.slice H.length 8 8)),(4,(.slice (H.length+1:Nat) 8 8)),(5,(.slice (H.length+2:Nat) 8 8)),(6,.int .i64 ((i:Int)-1))],H++[{c:=QX (r')},{c:=QX orderW},{c:=QX (E)}],[]⟩:St))\/Q4 T H.length VQ (⟨[(0,(.slice (some ⟨id,off,none⟩) n cap)),(3,(.slice H.length 8 8)),(4,(.slice (H.length+1:Nat) 8 8)),(5,(.slice (H.length+2:Nat) 8 8)),(6,.int .i64 ((i:Nat)))],H++[{c:=QX (r)},{c:=QX orderW},{c:=QX (nx)}],[]⟩:St)=some (.normal,(⟨[(0,(.slice (some ⟨id,off,none⟩) n cap)),(3,(.slice (H.length+2:Nat) 8 8)),(4,(.slice (H.length+1:Nat) 8 8)),(5,(.slice H.length 8 8)),(6,.int .i64 ((i:Int)-1))],H++[{c:=QX (E)},{c:=QX orderW},{c:=QX (r')}],[]⟩:St))):=by
 have hc:w/2^(i%32)%2<=1:=qr
 obtain⟨r1,c1,hb1,i1⟩:=iK (H:=H) (s:=(.slice (some ⟨id,off,none⟩) n cap)) (v := .int .i64 (i:Nat)) (nx:=nx) h.len h.lt hc
 obtain⟨I,b,Y,i2⟩:=iR (H:=H) (s:=(.slice (some ⟨id,off,none⟩) n cap)) (v := .int .i64 (i:Nat)) (r:=r1) (nx:=nx) i1.len i1.lt h.len2 h.lt2
 obtain⟨o,ho,JP⟩:=hr
 have U:=KD (l:=[{c:=QX (r)},{c:=QX orderW},{c:=QX (nx)}]) ho
 have J:=JP (i/32) w hw
 have h1:((i:Int)≥0):=qr
 have h2:((i/32:Nat):Int)<(n:Int):=qr
 have h4:¬(((i%32:Nat):Int)<0):=qr
 have e1:IntKind.i64.wrap ((i:Int).tdiv 32)=((i/32:Nat):Int):=ZC (n:=i/32) qr
 have e2:((i:Int).tmod 32)=((i%32:Nat):Int):=rfl
 have e3:Bi (w:Int) (2^min (i%32) IntKind.u32.bits)=((w/2^(i%32):Nat):Int):=by
  rw[Zg (by show _<=32;omega),JT _ (vR (zW ww))];simp
 have e4:Z3 .and .u32 ((w/2^(i%32):Nat):Int) 1=((w/2^(i%32)%2:Nat):Int):=by
  rw[show(1:Int)=((1:Nat):Int) from rfl,Y7 (k := .u32) (a:=w/2^(i%32)) (b:=1) rfl (Ja (Jp _ _) hw') ww,Nat.and_one_is_mod]
 have e5:IntKind.i64.wrap ((i:Int)-1)=(i:Int)-1:=Zd qr qr
 have e8:((8:Nat):Int)=8:=rfl
 have O:=h.step hc i1 i2
 generalize w/2^(i%32)%2=c at *
 by_cases hb0:b=0
 ·subst hb0
  have e6:(((0:Nat):Int)==0)=true:=rfl
  refine⟨I,r1,O.1 rfl,.inr ?_⟩
  simp only[VQ,Qv,guardOf,Q2,opd,Xf,ZR,Z5,Env.get,Env.put,Jm,Qz,ZO,St.after,Env.keep,JC,Je,unV,Jb,Z1,packed,Ob.fresh,Jq,okVar,cS,reduceCtorEq,QQ,QL,QU,Zj,QZ,Za,QK,QY,QS,h1,h2,h4,U,J,e1,e2,e3,e4,e5,e6,e8,hb1,Y]
 ·have Z:b=1:=by have:=i2.ble;omega
  subst Z
  have e6:(((1:Nat):Int)==0)=false:=rfl
  refine⟨r1,I,O.2 ww,.inl ?_⟩
  simp only[VQ,Qv,guardOf,Q2,opd,Xf,ZR,Z5,Env.get,Env.put,Jm,Qz,ZO,St.after,Env.keep,JC,Je,unV,Jb,Z1,packed,Ob.fresh,Jq,okVar,cS,reduceCtorEq,QQ,QL,QU,Zj,QZ,Za,QK,QY,QS,h1,h2,h4,U,J,e1,e2,e3,e4,e5,e6,e8,hb1,Y]
def Sy{nx:List Nat}(hr:Row .u32 H id off ws)(hn:ws.length=n)(hN:n<2^40)(hi:i<32*n)(hw:ws[i/32]?=some w)(hw':w<4294967296)(h:RInv V r nx) :
  ∃r' E,RInv (2*V+w/2^(i%32)%2) r' E/\(Q4 T H.length VQ (⟨[(0,(.slice (some ⟨id,off,none⟩) n cap)),(3,(.slice (H.length+2:Nat) 8 8)),(4,(.slice (H.length+1:Nat) 8 8)),(5,(.slice H.length 8 8)),(6,.int .i64 ((i:Nat)))],H++[{c:=QX (nx)},{c:=QX orderW},{c:=QX (r)}],[]⟩:St)=some (.normal,(⟨[(0,(.slice (some ⟨id,off,none⟩) n cap)),(3,(.slice (H.length+2:Nat) 8 8)),(4,(.slice (H.length+1:Nat) 8 8)),(5,(.slice H.length 8 8)),(6,.int .i64 ((i:Int)-1))],H++[{c:=QX (E)},{c:=QX orderW},{c:=QX (r')}],[]⟩:St))\/Q4 T H.length VQ (⟨[(0,(.slice (some ⟨id,off,none⟩) n cap)),(3,(.slice (H.length+2:Nat) 8 8)),(4,(.slice (H.length+1:Nat) 8 8)),(5,(.slice H.length 8 8)),(6,.int .i64 ((i:Nat)))],H++[{c:=QX (nx)},{c:=QX orderW},{c:=QX (r)}],[]⟩:St)=some (.normal,(⟨[(0,(.slice (some ⟨id,off,none⟩) n cap)),(3,(.slice H.length 8 8)),(4,(.slice (H.length+1:Nat) 8 8)),(5,(.slice (H.length+2:Nat) 8 8)),(6,.int .i64 ((i:Int)-1))],H++[{c:=QX (r')},{c:=QX orderW},{c:=QX (E)}],[]⟩:St))):=by
 have hc:w/2^(i%32)%2<=1:=qr
 obtain⟨r1,c1,hb1,i1⟩:=iJ (H:=H) (s:=(.slice (some ⟨id,off,none⟩) n cap)) (v := .int .i64 (i:Nat)) (nx:=nx) h.len h.lt hc
 obtain⟨I,b,Y,i2⟩:=iP (H:=H) (s:=(.slice (some ⟨id,off,none⟩) n cap)) (v := .int .i64 (i:Nat)) (r:=r1) (nx:=nx) i1.len i1.lt h.len2 h.lt2
 obtain⟨o,ho,JP⟩:=hr
 have U:=KD (l:=[{c:=QX (nx)},{c:=QX orderW},{c:=QX (r)}]) ho
 have J:=JP (i/32) w hw
 have h1:((i:Int)≥0):=qr
 have h2:((i/32:Nat):Int)<(n:Int):=qr
 have h4:¬(((i%32:Nat):Int)<0):=qr
 have e1:IntKind.i64.wrap ((i:Int).tdiv 32)=((i/32:Nat):Int):=ZC (n:=i/32) qr
 have e2:((i:Int).tmod 32)=((i%32:Nat):Int):=rfl
 have e3:Bi (w:Int) (2^min (i%32) IntKind.u32.bits)=((w/2^(i%32):Nat):Int):=by
  rw[Zg (by show _<=32;omega),JT _ (vR (zW ww))];simp
 have e4:Z3 .and .u32 ((w/2^(i%32):Nat):Int) 1=((w/2^(i%32)%2:Nat):Int):=by
  rw[show(1:Int)=((1:Nat):Int) from rfl,Y7 (k := .u32) (a:=w/2^(i%32)) (b:=1) rfl (Ja (Jp _ _) hw') ww,Nat.and_one_is_mod]
 have e5:IntKind.i64.wrap ((i:Int)-1)=(i:Int)-1:=Zd qr qr
 have e8:((8:Nat):Int)=8:=rfl
 have O:=h.step hc i1 i2
 generalize w/2^(i%32)%2=c at *
 by_cases hb0:b=0
 ·subst hb0
  have e6:(((0:Nat):Int)==0)=true:=rfl
  refine⟨I,r1,O.1 rfl,.inr ?_⟩
  simp only[VQ,Qv,guardOf,Q2,opd,Xf,ZR,Z5,Env.get,Env.put,Jm,Qz,ZO,St.after,Env.keep,JC,Je,unV,Jb,Z1,packed,Ob.fresh,Jq,okVar,cS,reduceCtorEq,QQ,QL,QU,Zj,QZ,Za,QK,QY,QS,h1,h2,h4,U,J,e1,e2,e3,e4,e5,e6,e8,hb1,Y]
 ·have Z:b=1:=by have:=i2.ble;omega
  subst Z
  have e6:(((1:Nat):Int)==0)=false:=rfl
  refine⟨r1,I,O.2 ww,.inl ?_⟩
  simp only[VQ,Qv,guardOf,Q2,opd,Xf,ZR,Z5,Env.get,Env.put,Jm,Qz,ZO,St.after,Env.keep,JC,Je,unV,Jb,Z1,packed,Ob.fresh,Jq,okVar,cS,reduceCtorEq,QQ,QL,QU,Zj,QZ,Za,QK,QY,QS,h1,h2,h4,U,J,e1,e2,e3,e4,e5,e6,e8,hb1,Y]
def A9(H:List Ob)(s:Value)(p:Bool)(v:Int)(r nx:List Nat):St:=match p with
 |false=>(⟨[(0,s),(3,(.slice H.length 8 8)),(4,(.slice (H.length+1:Nat) 8 8)),(5,(.slice (H.length+2:Nat) 8 8)),(6,.int .i64 (v))],H++[{c:=QX (r)},{c:=QX orderW},{c:=QX (nx)}],[]⟩:St)
 |true=>(⟨[(0,s),(3,(.slice (H.length+2:Nat) 8 8)),(4,(.slice (H.length+1:Nat) 8 8)),(5,(.slice H.length 8 8)),(6,.int .i64 (v))],H++[{c:=QX (nx)},{c:=QX orderW},{c:=QX (r)}],[]⟩:St)
def AA(H:List Ob)(s:Value)(p:Bool)(r nx:List Nat):St:=match p with
 |false=>(⟨[(0,s),(3,(.slice H.length 8 8)),(4,(.slice (H.length+1:Nat) 8 8)),(5,(.slice (H.length+2:Nat) 8 8)),(6,.int .i64 (-1)),(19,.bool false)],H++[{c:=QX (r)},{c:=QX orderW},{c:=QX (nx)}],[]⟩:St)
 |true=>(⟨[(0,s),(3,(.slice (H.length+2:Nat) 8 8)),(4,(.slice (H.length+1:Nat) 8 8)),(5,(.slice H.length 8 8)),(6,.int .i64 (-1)),(19,.bool false)],H++[{c:=QX (nx)},{c:=QX orderW},{c:=QX (r)}],[]⟩:St)
def dZ{nx:List Nat}(p:Bool)(U:Row .u32 H id off ws)(hn:ws.length=n)(Y:n<2^40)(hi:i<32*n)(hw:ws[i/32]?=some w)(J:w<4294967296)(h:RInv V r nx) :
  ∃q r' E,RInv (2*V+w/2^(i%32)%2) r' E/\Q4 T H.length VQ (A9 H (.slice (some ⟨id,off,none⟩) n cap) p (i:Nat) r nx)=some (.normal,A9 H (.slice (some ⟨id,off,none⟩) n cap) q ((i:Int)-1) r' E):=by
 cases p with
 |false =>
  obtain⟨r',E,O,I⟩:=Sz (cap:=cap) U hn Y hi hw J h
  rcases I with I|I
  ·exact⟨false,r',E,O,I⟩
  ·exact⟨true,r',E,O,I⟩
 |true =>
  obtain⟨r',E,O,I⟩:=Sy (cap:=cap) U hn Y hi hw J h
  rcases I with I|I
  ·exact⟨true,r',E,O,I⟩
  ·exact⟨false,r',E,O,I⟩
def yH(E:∀x∈ws,x<4294967296)(hw:ws[i/32]?=some w):2*(num 4294967296 ws/2^(i+1))+w/2^(i%32)%2=num 4294967296 ws/2^i:=by
 have J:=KL (B:=4294967296) ww E hw
 generalize num 4294967296 ws=v at *
 have I:w/2^(i%32)%2=v/2^i%2:=by
  have Y:(4294967296:Nat)^(i/32)=2^(32*(i/32)):=by rw[show(4294967296:Nat)=2^32 from rfl,<-Jj]
  rw[<-J,Y]
  have U:(2:Nat)^i=2^(32*(i/32))*2^(i%32):=by rw[<-JU];congr 1;omega
  rw[U,<-Zc]
  generalize v/2^(32*(i/32))=u
  have O:(4294967296:Nat)=2^(i%32)*2^(32-i%32):=by rw[<-JU];rw[show i%32+(32-i%32)=32 by omega]
  rw[O,Bd,YA]
  exact⟨2^(31-i%32),by rw[<-Pg];congr 1;omega⟩
 rw[I,Zn,<-Zc]
 omega
def S0(hr:Row .u32 H id off ws)(hn:ws.length=n)(hn0:0<n)(hN:n<2^40)(O:∀x∈ws,x<4294967296) :
  ∃k l,Zp T 133 [.slice (some ⟨id,off,none⟩) n cap] H=some (.slice (k:Nat) 8 8,H++l,[])/\Row .u32 (H++l) k 0 (dig 4294967296 8 (num 4294967296 ws%ell)):=by
 have h0:RInv (num 4294967296 ws/2^(32*n)) (dig 4294967296 8 0) (dig 4294967296 8 0):=by
  refine⟨Ze _ _ _,fun x J=>Vt ww J,Ze _ _ _,fun x J=>Vt ww J,?_⟩
  have I:=num_lt O
  rw[hn,show(4294967296:Nat)=2^32 from rfl,<-Jj]at I
  rw[Kf ww,show(4294967296:Nat)=2^32 from rfl,Xk I]
  simp
 obtain⟨s',hb,q,r,nx,rfl,hinv⟩:=QM (T:=T) (base:=H.length) (id:=0) (body:=VQ)
  (fun j s=>∃p r nx,s=A9 H (.slice (some ⟨id,off,none⟩) n cap) p (((32*n-j:Nat):Int)-1) r nx/\RInv (num 4294967296 ws/2^(32*n-j)) r nx)
  (Q:=fun s=>∃p r nx,s=AA H (.slice (some ⟨id,off,none⟩) n cap) p r nx/\RInv (num 4294967296 ws) r nx)
  (32*n) (s:=A9 H (.slice (some ⟨id,off,none⟩) n cap) false (((32*n-0:Nat):Int)-1) (dig 4294967296 8 0) (dig 4294967296 8 0)) ⟨false,_,_,rfl,h0⟩
  (fun j s hj hs=>by
   obtain⟨p,r,nx,rfl,U⟩:=hs
   obtain⟨i,hi⟩:∃i,32*n-j=i+1:=⟨32*n-j-1,by omega⟩
   obtain⟨w,hw⟩:∃w,ws[i/32]?=some w:=⟨_,Qg qr⟩
   rw[hi]at U
   obtain⟨q,r',Y,g1,g2⟩:=dZ (cap:=cap) p hr hn hN qr hw (O w (Qw hw)) U
   rw[yH O hw]at g1
   refine⟨_,?_,q,r',Y,rfl,by rw[show 32*n-(j+1)=i by omega];exact g1⟩
   rw[hi,show 32*n-(j+1)=i by omega,show(((i+1:Nat):Int)-1)=(i:Nat) by omega]
   exact g2)
  (fun s hs=>by
   obtain⟨p,r,nx,rfl,U⟩:=hs
   rw[Qs,Nat.pow_zero,Nat.div_one]at U
   refine⟨_,?_,p,r,nx,rfl,U⟩
   rw[Qs]
   have I:¬((-1:Int)≥0):=ww
   cases p with
   |false =>
    rw[show A9 H (.slice (some ⟨id,off,none⟩) n cap) false (((0:Nat):Int)-1) r nx=(⟨[(0,.slice (some ⟨id,off,none⟩) n cap),(3,(.slice H.length 8 8)),(4,(.slice (H.length+1:Nat) 8 8)),(5,(.slice (H.length+2:Nat) 8 8)),(6,.int .i64 (-1))],H++[{c:=QX (r)},{c:=QX orderW},{c:=QX (nx)}],[]⟩:St) from rfl]
    simp only[VQ,Qv,guardOf,Q2,opd,Xf,ZR,Z5,Env.get,Env.put,Jm,Qz,ZO,St.after,Env.keep,JC,Je,unV,Jb,Z1,packed,Ob.fresh,Jq,okVar,cS,reduceCtorEq,QQ,QL,QU,Zj,QZ,Za,QK,QY,QS,I,AA]
   |true =>
    rw[show A9 H (.slice (some ⟨id,off,none⟩) n cap) true (((0:Nat):Int)-1) r nx=(⟨[(0,.slice (some ⟨id,off,none⟩) n cap),(3,(.slice (H.length+2:Nat) 8 8)),(4,(.slice (H.length+1:Nat) 8 8)),(5,(.slice H.length 8 8)),(6,.int .i64 (-1))],H++[{c:=QX (nx)},{c:=QX orderW},{c:=QX (r)}],[]⟩:St) from rfl]
    simp only[VQ,Qv,guardOf,Q2,opd,Xf,ZR,Z5,Env.get,Env.put,Jm,Qz,ZO,St.after,Env.keep,JC,Je,unV,Jb,Z1,packed,Ob.fresh,Jq,okVar,cS,reduceCtorEq,QQ,QL,QU,Zj,QZ,Za,QK,QY,QS,I,AA])
 obtain⟨m,hm⟩:∃m:Int,m=((32*n-0:Nat):Int)-1:=⟨_,rfl⟩
 rw[<-hm,show A9 H (.slice (some ⟨id,off,none⟩) n cap) false m (dig 4294967296 8 0) (dig 4294967296 8 0)=(⟨[(0,.slice (some ⟨id,off,none⟩) n cap),(3,(.slice H.length 8 8)),(4,(.slice (H.length+1:Nat) 8 8)),(5,(.slice (H.length+2:Nat) 8 8)),(6,.int .i64 (m))],H++[{c:=QX (dig 4294967296 8 0)},{c:=QX orderW},{c:=QX (dig 4294967296 8 0)}],[]⟩:St) from rfl]at hb
 have e1:IntKind.i64.wrap (IntKind.i64.wrap (32*(n:Int))-1)=m:=by rw[Zd (x:=32*(n:Int)) qr qr,Zd qr qr];omega
 have I:((8:Int)*((4:Nat):Int)<=2^47):=ww
 have h2:(0:Nat)<4:=ww
 have Z:((0:Int)<=8):=ww
 have hz:Qc 8 (Value.int .u32 0)=QX (dig 4294967296 8 0):=rfl
 have horder:=Ay (H++[{c:=QX (dig 4294967296 8 0)}])
 simp only[Qh,Zt,Z9,QH,Qx,Qp,Qn,Ob.fresh]at horder
 have E:r=dig 4294967296 8 (num 4294967296 ws%ell):=by rw[<-hinv.eq,<-hinv.len,YN ww hinv.lt]
 cases q with
 |false =>
  refine⟨H.length,[{c:=QX r},{c:=QX orderW},{c:=QX nx}],?_,?_⟩
  ·rw[Q9 (fn:=a41) rfl]
   simp only[a41,Qv,guardOf,Q2,opd,Xf,ZR,Z5,Env.get,Env.put,Jm,Qz,ZO,St.after,Env.keep,JC,Je,unV,Jb,Z1,packed,Ob.fresh,Jq,okVar,cS,reduceCtorEq,QQ,QL,QU,Zj,QZ,Za,QK,QY,QS,e1,I,h2,Z,WX,Uq,hz,horder,Qh,Qx,hb,AA]
  ·exact⟨_,UT,fun i x J=>by rw[QH];exact Kr (by rw[E];exact J)⟩
 |true =>
  refine⟨H.length+2,[{c:=QX nx},{c:=QX orderW},{c:=QX r}],?_,?_⟩
  ·rw[Q9 (fn:=a41) rfl]
   simp only[a41,Qv,guardOf,Q2,opd,Xf,ZR,Z5,Env.get,Env.put,Jm,Qz,ZO,St.after,Env.keep,JC,Je,unV,Jb,Z1,packed,Ob.fresh,Jq,okVar,cS,reduceCtorEq,QQ,QL,QU,Zj,QZ,Za,QK,QY,QS,e1,I,h2,Z,WX,Uq,hz,horder,Qh,Qx,hb,AA]
  ·exact⟨_,nF,fun i x J=>by rw[QH];exact Kr (by rw[E];exact J)⟩
def U5{cs v:List Value}(h:v.length=cs.length):splice cs 0 v=v:=by
 rw[Xv _ _ _ qr,Js,Qn,QH,h,List.drop_length,QF]
def uY(hw:v/4294967296^(i/4)%4294967296=w):w/2^(8*(i%4))%256=v/256^i%256:=by
 subst hw
 have J:(4294967296:Nat)^(i/4)=2^(32*(i/4)):=by rw[show(4294967296:Nat)=2^32 from rfl,<-Jj]
 have I:(256:Nat)^i=2^(32*(i/4))*2^(8*(i%4)):=by
  rw[show(256:Nat)=2^8 from rfl,<-Jj,<-JU];congr 1;omega
 rw[J,I,<-Zc]
 generalize v/2^(32*(i/4))=u
 have E:(4294967296:Nat)=2^(8*(i%4))*2^(32-8*(i%4)):=by rw[<-JU];rw[show 8*(i%4)+(32-8*(i%4))=32 by omega]
 rw[E,Bd,YA]
 exact⟨2^(24-8*(i%4)),by rw[show(256:Nat)=2^8 from rfl,<-JU];congr 1;omega⟩
def byI(H:List Ob)(s:Value)(i:Int)(k:List Nat)(ex:Env):St :=
 ⟨[(0,s),(2,.pointer H.length),(3,.pointer (H.length+1:Nat)),(5,.int .i64 i)]++ex,H++[{c:=u8s (dig 256 32 0)},{c:=u8s k}],[]⟩
def uZ{k:List Nat}(U:Row .u32 H id off ws)(hn:ws.length=8)(hi:i<32)(hw:ws[i/4]?=some w)(Z:k.length=32) :
  Q4 T H.length CO (byI H (.slice (some ⟨id,off,none⟩) 8 cap) (i:Nat) k [])=some (.normal,byI H (.slice (some ⟨id,off,none⟩) 8 cap) ((i+1:Nat):Int) (k.set i (w/2^(8*(i%4))%256)) []):=by
 obtain⟨o,Y,JP⟩:=U
 have I:=KD (l:=[{c:=u8s (dig 256 32 0)},{c:=u8s k}]) Y
 have E:=JP (i/4) w hw
 have h1:((i:Int)<32):=qr
 have O:((i:Int)<((32:Nat):Int)):=qr
 have h2:((i/4:Nat):Int)<((8:Nat):Int):=qr
 have J:((i/4:Nat):Int)<(8:Int):=qr
 have h4:¬(((8*(i%4):Nat):Int)<0):=qr
 have e1:IntKind.i64.wrap ((i:Int).tdiv 4)=((i/4:Nat):Int):=ZC (n:=i/4) qr
 have e2:((i:Int).tmod 4)=((i%4:Nat):Int):=rfl
 have e3:IntKind.i64.wrap (8*((i%4:Nat):Int))=((8*(i%4):Nat):Int):=ZC (n:=8*(i%4)) qr
 have e4:Bi (w:Int) (2^min (8*(i%4)) IntKind.u32.bits)=((w/2^(8*(i%4)):Nat):Int):=by
  rw[Zg (by show _<=32;omega),JT _ (vR (zW ww))];simp
 have e5:IntKind.u8.wrap ((w/2^(8*(i%4)):Nat):Int)=((w/2^(8*(i%4))%256:Nat):Int):=by rw[wrap_u8];rfl
 have e6:IntKind.i64.wrap ((i:Int)+1)=((i+1:Nat):Int):=ZC (n:=i+1) qr
 have h5:i+1<=(u8s k).length:=by rw[Qq,Z];omega
 simp only[byI,CO,Qv,guardOf,Q2,opd,Xf,ZR,Z5,Env.get,Env.put,Jm,Qz,ZO,St.after,Env.keep,JC,Je,unV,Jb,Z1,packed,Ob.fresh,Jq,okVar,cS,reduceCtorEq,QQ,QL,QU,Zj,QZ,Za,QK,QY,QS,h1,O,h2,J,h4,I,E,e1,e2,e3,e4,e5,e6,h5,LW,Xg]
def DO(Z:Row .u32 H id off (dig 4294967296 8 v)) :
  ∃l,Zp T 134 [.slice (some ⟨id,off,none⟩) 8 cap] H=some (.agg (u8s (dig 256 32 v)).toArray,H++l,[]):=by
 obtain⟨s',hb,k,rfl,hlen,E⟩:=QM (T:=T) (base:=H.length) (id:=0) (body:=CO)
  (fun i s=>∃k,s=byI H (.slice (some ⟨id,off,none⟩) 8 cap) (i:Nat) k []/\k.length=32/\∀t,t<i->k[t]?=some (v/256^t%256))
  (Q:=fun s=>∃k,s=byI H (.slice (some ⟨id,off,none⟩) 8 cap) 32 k [(6,.bool false)]/\k.length=32/\∀t,t<32->k[t]?=some (v/256^t%256))
  32 (s:=byI H (.slice (some ⟨id,off,none⟩) 8 cap) ((0:Nat):Int) (dig 256 32 0) []) ⟨_,rfl,Ze _ _ _,fun t ht=>by omega⟩
  (fun i s hi hs=>by
   obtain⟨k,rfl,I,E⟩:=hs
   refine⟨_,uZ Z (Ze _ _ _) hi (Kc qr) I,_,rfl,by rw[Qr];exact I,fun t ht =>?_⟩
   by_cases h:t=i
   ·subst h
    rw[Qu qr,uY rfl]
   ·rw[Ql qr]
    exact E t qr)
  (fun s hs=>by
   obtain⟨k,rfl,I,E⟩:=hs
   have U:¬(((32:Nat):Int)<(32:Int)):=qr
   refine⟨_,?_,k,rfl,I,E⟩
   simp only[byI,CO,Qv,guardOf,Q2,opd,Xf,ZR,Z5,Env.get,Env.put,Jm,Qz,ZO,St.after,Env.keep,JC,Je,unV,Jb,Z1,packed,Ob.fresh,Jq,okVar,cS,reduceCtorEq,QQ,QL,QU,Zj,QZ,Za,QK,QY,QS,U]
   rfl)
 have J:k=dig 256 32 v:=Gu hlen fun i hi=>E i hi
 subst J
 have hz:Qc 32 (Value.int .u8 0)=u8s (dig 256 32 0):=rfl
 have U:0+32<=(u8s (dig 256 32 v)).length:=by rw[Qq,Ze];omega
 have O:32<=(u8s (dig 256 32 v)).length:=by rw[Qq,Ze];omega
 have h2:((u8s (dig 256 32 v)).drop 0).take 32=u8s (dig 256 32 v):=by rw[Jt,Qo (by rw[Qq,Ze];omega)]
 have h3:(u8s (dig 256 32 v)).length=32:=by rw[Qq,Ze]
 have h4:0+(u8s (dig 256 32 v)).length<=(u8s (dig 256 32 0)).length:=by rw[Qq,Qq,Ze,Ze];omega
 have h5:splice (u8s (dig 256 32 0)) 0 (u8s (dig 256 32 v))=u8s (dig 256 32 v):=U5 (by rw[Qq,Qq,Ze,Ze])
 have Y:=KN (H:=H) (r:=[{c:=u8s (dig 256 32 v)}]) (e:=true) (s:=1) h4
 rw[h5]at Y
 refine⟨[{c:=u8s (dig 256 32 v)},{c:=u8s (dig 256 32 v)}],?_⟩
 rw[show byI H (.slice (some ⟨id,off,none⟩) 8 cap) ((0:Nat):Int) (dig 256 32 0) []=⟨[(0,.slice (some ⟨id,off,none⟩) 8 cap),(2,.pointer H.length),(3,.pointer (H.length+1:Nat)),(5,.int .i64 0)],H++[{c:=u8s (dig 256 32 0)},{c:=u8s (dig 256 32 0)}],[]⟩ from rfl]at hb
 rw[Q9 (fn:=a42) rfl]
 simp only[a42,Qv,guardOf,Q2,opd,Xf,ZR,Z5,Env.get,Env.put,Jm,Qz,ZO,St.after,Env.keep,JC,Je,unV,Jb,Z1,packed,Ob.fresh,Jq,okVar,cS,reduceCtorEq,QQ,QL,QU,Zj,QZ,Za,QK,QY,QS,hz,hb,byI,U,O,h2,Rw,Wn,h3,Y,Qh,Qx]
def W3:Row .u32 (H++[Ob.fresh (QX ws)]) H.length 0 ws:=⟨_,UT,fun i x E=>by rw[QH];exact Kr E⟩
def kh{o:Ob}:Row .u32 (H++[{c:=QX ws},o]) H.length 0 ws:=⟨_,UT,fun i x E=>by rw[QH];exact Kr E⟩
def ei(l:List Nat):Value := .agg (u8s l).toArray
def wD:Jc 32 32 none none none=some (0,32,32):=rfl
def WA:∀x∈dig 4294967296 n v,x<4294967296:=fun x E=>Vt ww E
def Tu{l:List Nat}(E:l.length=32)(h:∀x∈l,x<256):num 256 l<4294967296^8:=by
 have:=num_lt h
 rw[E]at this
 rw[show(4294967296:Nat)^8=256^32 from by decide];exact this
def Sw(ha:Row .u8 H 0 0 a)(hb:Row .u8 H 1 0 b)(hc:Row .u8 H 2 0 c)(la:a.length=32)(lb:b.length=32)(lc:c.length=32)
 (Z:∀x∈a,x<256) (Y:∀x∈b,x<256) (U:∀x∈c,x<256) :
    ∃k l O,Zp T 90 [.slice (0:Nat) 32 32] H=some (.slice H.length 8 8,H++[Ob.fresh (QX (dig 4294967296 8 (num 256 a)))],[]) /\
      (let H5:=H++[Ob.fresh (QX (dig 4294967296 8 (num 256 a)))]
       let H6:=H5++[Ob.fresh (QX (dig 4294967296 8 (num 256 b)))]
       let H7:=H6++[Ob.fresh (QX (dig 4294967296 16 (num 256 a*num 256 b)))]
       let H8:=H7++[Ob.fresh (QX (dig 4294967296 8 (num 256 c)))]
       let E:=H8++[{c:=QX (dig 4294967296 17 (num 256 a*num 256 b+num 256 c))},{c:=[.int .u32 0]}]
       Zp T 90 [.slice (1:Nat) 32 32] H5=some (.slice H5.length 8 8,H6,[]) /\
       Zp T 131 [.slice H.length 8 8,.slice H5.length 8 8] H6=some (.slice H6.length 16 16,H7,[]) /\
       Zp T 90 [.slice (2:Nat) 32 32] H7=some (.slice H7.length 8 8,H8,[]) /\
       Zp T 132 [.slice H6.length 16 16,.slice H7.length 8 8] H8=some (.slice H8.length 17 17,E,[]) /\
       Zp T 133 [.slice H8.length 17 17] E=some (.slice k 8 8,E++l,[]) /\
       Zp T 134 [.slice k 8 8] (E++l)=some (ei (dig 256 32 ((num 256 a*num 256 b+num 256 c)%ell)),E++l++O,[])):=by
  have na:=Tu la Z
  have nb:=Tu lb Y
  have nc:=Tu lc U
  have h1:=Fy (c:=32) ha la ww Z
  have h2:=Fy (c:=32) (hb.app (l:=[Ob.fresh (QX (dig 4294967296 8 (num 256 a)))])) lb ww Y
  have r1:=(W3 (H:=H) (ws:=dig 4294967296 8 (num 256 a))).app (l:=[Ob.fresh (QX (dig 4294967296 8 (num 256 b)))])
  have r2:=W3 (H:=H++[Ob.fresh (QX (dig 4294967296 8 (num 256 a)))]) (ws:=dig 4294967296 8 (num 256 b))
  have h3:=i5 (c1:=8) (c2:=8) r1 r2 (Ze _ _ _) (Ze _ _ _) ww WA WA
  rw[Kf ww,Kf ww,Q6 na,Q6 nb]at h3
  have h4:=Fy (c:=32) (((hc.app (l:=[Ob.fresh (QX (dig 4294967296 8 (num 256 a)))])).app (l:=[Ob.fresh (QX (dig 4294967296 8 (num 256 b)))])).app (l:=[Ob.fresh (QX (dig 4294967296 16 (num 256 a*num 256 b)))])) lc ww U
  have r3:=(W3 (H:=H++[Ob.fresh (QX (dig 4294967296 8 (num 256 a)))]++[Ob.fresh (QX (dig 4294967296 8 (num 256 b)))]) (ws:=dig 4294967296 16 (num 256 a*num 256 b))).app (l:=[Ob.fresh (QX (dig 4294967296 8 (num 256 c)))])
  have r4:=W3 (H:=H++[Ob.fresh (QX (dig 4294967296 8 (num 256 a)))]++[Ob.fresh (QX (dig 4294967296 8 (num 256 b)))]++[Ob.fresh (QX (dig 4294967296 16 (num 256 a*num 256 b)))]) (ws:=dig 4294967296 8 (num 256 c))
  have h5:=sD (c1:=16) (c2:=8) r3 r4 (Ze _ _ _) (Ze _ _ _) ww ww ww WA WA
  have J:num 256 a*num 256 b<4294967296^16:=by
    rw[show(4294967296:Nat)^16=4294967296^8*4294967296^8 from by decide]
    exact Nat.mul_lt_mul'' na nb
  rw[Kf ww,Kf ww,Q6 J,Q6 nc]at h5
  have r5:=kh (H:=H++[Ob.fresh (QX (dig 4294967296 8 (num 256 a)))]++[Ob.fresh (QX (dig 4294967296 8 (num 256 b)))]++[Ob.fresh (QX (dig 4294967296 16 (num 256 a*num 256 b)))]++[Ob.fresh (QX (dig 4294967296 8 (num 256 c)))]) (ws:=dig 4294967296 17 (num 256 a*num 256 b+num 256 c)) (o:={c:=[.int .u32 0]})
  obtain⟨k,l,h6,r6⟩:=S0 (cap:=17) r5 (Ze _ _ _) ww ww WA
  have I:num 256 a*num 256 b+num 256 c<4294967296^17:=by
    have:(4294967296:Nat)^16+4294967296^8<=4294967296^17:=ww
    omega
  rw[Kf ww,Q6 I]at r6
  obtain⟨O,h7⟩:=DO (cap:=8) r6
  exact⟨k,l,O,h1,h2,h3,h4,h5,h6,h7⟩
def dY(la:a.length=32)(lb:b.length=32)(lc:c.length=32)(xa:∀x∈a,x<256)(xb:∀x∈b,x<256)(xc:∀x∈c,x<256) :
  ∃l,Zp T 76 [ei a,ei b,ei c] []=some (ei (dig 256 32 ((num 256 a*num 256 b+num 256 c)%ell)),l,[]):=by
 have hz:Qc 32 (Value.int .u8 0)=u8s (dig 256 32 0):=rfl
 obtain⟨H,Z⟩:∃H:List Ob,H=[{c:=u8s a},{c:=u8s b},{c:=u8s c},{c:=u8s (dig 256 32 0)}]:=⟨_,rfl⟩
 have ra:Row .u8 H 0 0 a:=by subst Z;exact⟨_,rfl,fun i x O=>by rw[QH];exact ZN O⟩
 have rb:Row .u8 H 1 0 b:=by subst Z;exact⟨_,rfl,fun i x O=>by rw[QH];exact ZN O⟩
 have rc:Row .u8 H 2 0 c:=by subst Z;exact⟨_,rfl,fun i x O=>by rw[QH];exact ZN O⟩
 obtain⟨k,l,l2,h1,h2,h3,h4,J,I,E⟩:=Sw ra rb rc la lb lc xa xb xc
 generalize hR:dig 256 32 ((num 256 a*num 256 b+num 256 c)%ell)=R at *
 have lR:(u8s R).length=32:=by rw[Qq,<-hR,Ze]
 generalize hH5:H++[Ob.fresh (QX (dig 4294967296 8 (num 256 a)))]=H5 at h1 h2 h3 h4 J I E
 generalize hH6:H5++[Ob.fresh (QX (dig 4294967296 8 (num 256 b)))]=H6 at h2 h3 h4 J I E
 generalize hH7:H6++[Ob.fresh (QX (dig 4294967296 16 (num 256 a*num 256 b)))]=H7 at h3 h4 J I E
 generalize hH8:H7++[Ob.fresh (QX (dig 4294967296 8 (num 256 c)))]=H8 at h4 J I E
 generalize Y:H8++[{c:=QX (dig 4294967296 17 (num 256 a*num 256 b+num 256 c))},{c:=[.int .u32 0]}]=H10 at J I E
 generalize U:H10++l=H11 at I E
 generalize hG:H11++l2=G at E
 obtain⟨t,hGt⟩:∃t,G={c:=u8s a}::{c:=u8s b}::{c:=u8s c}::{c:=u8s (dig 256 32 0)}::t:=by
  rw[<-hG,<-U,<-Y,<-hH8,<-hH7,<-hH6,<-hH5,Z];exact⟨_,rfl⟩
 have hst:storeAt G ⟨3,0,none⟩ (u8s R)=some ({c:=u8s a}::{c:=u8s b}::{c:=u8s c}::{c:=u8s R}::t):=by
  rw[hGt]
  have h8:=KN (H:=[{c:=u8s a},{c:=u8s b},{c:=u8s c}]) (r:=t) (cs:=u8s (dig 256 32 0)) (e:=true) (s:=1) (off:=0) (v:=u8s R) (by rw[lR,Qq,Ze];omega)
  rw[U5 (by rw[lR,Qq,Ze])]at h8
  exact h8
 have hlv:liveAt ({c:=u8s a}::{c:=u8s b}::{c:=u8s c}::{c:=u8s R}::t) 3=some {c:=u8s R}:=rfl
 have h9:((u8s R).drop 0).take 32=u8s R:=by rw[Jt,Qo qr]
 refine⟨{c:=u8s a}::{c:=u8s b}::{c:=u8s c}::{c:=u8s R}::t,?_⟩
 rw[Q9 (fn:=a19) rfl]
 simp only[ei]at E ⊢
 simp only[a19,Qv,guardOf,Q2,opd,Xf,ZR,Z5,Env.get,Env.put,Jm,Qz,ZO,St.after,Env.keep,JC,Je,unV,Jb,Z1,packed,Ob.fresh,Jq,okVar,cS,reduceCtorEq,QQ,QL,QU,Zj,QZ,Za,QK,QY,QS,hz,<-Z,wD,h1,h2,h3,h4,J,I,E,lR,hst,hlv,h9]
def k1(n:Nat):List Nat:=n::Qc 31 0
def Vh(a:List Nat)(x y:Nat):List Nat:=(a.set 0 (x&&&248)).set 31 ((y&&&127)|||64)
def vM{a b:Nat}(h:a<256):a&&&b<256:=Ja Nat.and_le_left h
def p8(J:a.length=32)(hx:a[0]?=some x)(hy:a[31]?=some y)(hx':x<256)(E:y<256) :
  ∃l,Zp T 129 [.agg (u8s a).toArray] []=some (.agg (u8s (Vh a x y)).toArray,l,[]):=by
 have hz:Qc 32 (Value.int .u8 0)=u8s (dig 256 32 0):=rfl
 have Z:=ZN hx
 have Y:=ZN (l:=a.set 0 (x&&&248)) (i:=31) (x:=y) (by rw[Ql ww];exact hy)
 have e1:Z3 .and .u8 (x:Int) 248=((x&&&248:Nat):Int):=Y7 (k := .u8) (a:=x) (b:=248) rfl hx' ww
 have e2:Z3 .and .u8 (y:Int) 127=((y&&&127:Nat):Int):=Y7 (k := .u8) (a:=y) (b:=127) rfl E ww
 have e3:Z3 .or .u8 ((y&&&127:Nat):Int) 64=(((y&&&127)|||64:Nat):Int):=Kx (k := .u8) (a:=y&&&127) (b:=64) rfl (vM E) ww
 have l1:(u8s a).length=32:=by rw[Qq,J]
 have l2:(u8s (a.set 0 (x&&&248))).length=32:=by rw[Qq,Qr,J]
 have O:(u8s (Vh a x y)).length=32:=by rw[Qq,Vh,Qr,Qr,J]
 have s1:=KN (H:=[]) (r:=[{c:=u8s (dig 256 32 0)}]) (cs:=u8s a) (e:=true) (s:=1) (off:=0) (v:=[.int .u8 ((x&&&248:Nat):Int)]) (by rw[l1];simp)
 rw[XP,Xg]at s1
 have s2:=KN (H:=[]) (r:=[{c:=u8s (dig 256 32 0)}]) (cs:=u8s (a.set 0 (x&&&248))) (e:=true) (s:=1) (off:=31) (v:=[.int .u8 (((y&&&127)|||64:Nat):Int)]) (by rw[l2];simp)
 rw[XP,Xg]at s2
 have I:=LW (H:=[]) (a:={c:=u8s (Vh a x y)}) (r:=[]) (cs:=u8s (dig 256 32 0)) (e:=true) (s:=1) (off:=0) (v:=u8s (Vh a x y)) (by rw[O,Qq,Ze];decide)
 rw[U5 (by rw[O,Qq,Ze])]at I
 have t3:((u8s (Vh a x y)).drop 0).take 32=u8s (Vh a x y):=by rw[Jt,Qo qr]
 have v0:∀(p q:List Value),liveAt [{c:=p},{c:=q}] 0=some {c:=p}:=fun _ _=>rfl
 have v1:∀(p q:List Value),liveAt [{c:=p},{c:=q}] 1=some {c:=q}:=fun _ _=>rfl
 have i0:((0:Int)<((32:Nat):Int)):=ww
 have U:((31:Int)<((32:Nat):Int)):=ww
 simp only[Qn,Z9]at s1 s2 I
 rw[show(a.set 0 (x&&&248)).set 31 ((y&&&127)|||64)=Vh a x y from rfl]at s2
 simp only[QH]at I
 refine⟨[{c:=u8s (Vh a x y)},{c:=u8s (Vh a x y)}],?_⟩
 rw[Q9 (fn:=a16) rfl]
 simp only[a16,Qv,guardOf,Q2,opd,Xf,ZR,Z5,Env.get,Env.put,Jm,Qz,ZO,St.after,Env.keep,JC,Je,unV,Jb,Z1,packed,Ob.fresh,Jq,okVar,cS,reduceCtorEq,QQ,QL,QU,Zj,QZ,Za,QK,QY,QS,hz,Z,Y,e1,e2,e3,i0,U,v0,v1,s1,s2,O,t3,I]
def bo(b:Bool):rf (.bool b)=true:=rfl
def v0(p q:List Value):liveAt [{c:=p},{c:=q}] 0=some {c:=p}:=rfl
def v1(p q:List Value):liveAt [{c:=p},{c:=q}] 1=some {c:=q}:=rfl
structure LessInv(k:Nat)(ws os:List Nat)(b:Nat):Prop where
 ble:b<=1
 eq:∃z,z<4294967296^k/\num 4294967296 (ws.take k)+b*4294967296^k=num 4294967296 (os.take k)+z
def LessInv.step{k b x y:Nat}{ws os:List Nat}(h:LessInv k ws os b)(O:ws[k]?=some x)(I:os[k]?=some y)(J:x<4294967296)(E:y<4294967296):LessInv (k+1) ws os (GV x y b):=by
 have hb:=h.ble
 have hd:GU x y b<4294967296/\x+4294967296*GV x y b=y+b+GU x y b/\GV x y b<=1:=by
  unfold GU GV;split<;>omega
 refine⟨hd.2.2,?_⟩
 obtain⟨z,hz,h2⟩:=h.eq
 rw[JY O,JY I]
 have Y:=hd.2.1
 have U:=hd.1
 generalize GU x y b=d,GV x y b=q at *
 refine⟨z+d*4294967296^k,?_,?_⟩
 ·have:(d+1)*4294967296^k<=4294967296*4294967296^k:=ZG _ U
  rw[Zl,Xa]at this
  rw[Zn,Zw (4294967296^k)]
  omega
 ·have e2:q*4294967296^(k+1)=4294967296*q*4294967296^k:=by
   rw[Zn];simp only[ZI,Xb,Zw]
  have Z:(x+4294967296*q)*4294967296^k=(y+b+d)*4294967296^k:=by rw[Y]
  rw[Zl,Zl,Zl]at Z
  rw[e2]
  omega
def D5(H:List Ob)(s1 s2:Value)(n b k:Nat)(ex:Env):St:=⟨[(0,s1),(1,s2),(5,.int .u32 b),(8,.int .i64 n),(9,.int .i64 k)]++ex,H,[]⟩
def eg{b k:Nat}(Z:Row .u32 H id1 off1 ws)(Y:Row .u32 H id2 off2 os)(hN:n<2^40)(hk:k<n)(hx:ws[k]?=some x)(hy:os[k]?=some y)(U:x<4294967296)(J:y<4294967296)(hb:b<=1) :
  Q4 T H.length CI (D5 H (.slice (some ⟨id1,off1,none⟩) n c1) (.slice (some ⟨id2,off2,none⟩) n c2) n b k [])=some (.normal,D5 H (.slice (some ⟨id1,off1,none⟩) n c1) (.slice (some ⟨id2,off2,none⟩) n c2) n (GV x y b) (k+1) []):=by
 obtain⟨o1,ho1,hc1⟩:=Z
 obtain⟨o2,ho2,hc2⟩:=Y
 have O:=hc1 k x hx
 have I:=hc2 k y hy
 have h1:((k:Int)<(n:Int)):=qr
 have E:=TN U J hb
 have e10:IntKind.i64.wrap ((k:Int)+1)=((k+1:Nat):Int):=ZC (n:=k+1) qr
 simp only[D5,CI,Qv,guardOf,Q2,opd,Xf,ZR,Z5,Env.get,Env.put,Jm,Qz,ZO,St.after,Env.keep,JC,Je,unV,Jb,Z1,packed,Ob.fresh,Jq,okVar,cS,reduceCtorEq,QQ,QL,QU,Zj,QZ,Za,QK,QY,QS,h1,ho1,ho2,O,I,E,e10]
def tT(hr1:Row .u32 H id1 off1 ws)(Z:Row .u32 H id2 off2 os)(hn:ws.length=n)(hm:os.length=n)(hN:n<2^40)(J:∀x∈ws,x<4294967296)(hos:∀x∈os,x<4294967296) :
  Zp T 91 [.slice (some ⟨id1,off1,none⟩) n c1,.slice (some ⟨id2,off2,none⟩) n c2] H=some (.bool (decide (num 4294967296 ws<num 4294967296 os)),H,[]):=by
 obtain⟨s',hb,b,rfl,hinv⟩:=QM (T:=T) (base:=H.length) (id:=0) (body:=CI)
  (fun k s=>∃b,s=D5 H (.slice (some ⟨id1,off1,none⟩) n c1) (.slice (some ⟨id2,off2,none⟩) n c2) n b k []/\LessInv k ws os b)
  (Q:=fun s=>∃b,s=D5 H (.slice (some ⟨id1,off1,none⟩) n c1) (.slice (some ⟨id2,off2,none⟩) n c2) n b n [(10,.bool false)]/\LessInv n ws os b)
  n (s:=D5 H (.slice (some ⟨id1,off1,none⟩) n c1) (.slice (some ⟨id2,off2,none⟩) n c2) n 0 0 []) ⟨_,rfl,⟨by decide,0,by decide,by simp[num]⟩⟩
  (fun k s hk hs=>by
   obtain⟨b,rfl,O⟩:=hs
   obtain⟨x,Y⟩:∃x,ws[k]?=some x:=⟨_,Qg qr⟩
   obtain⟨y,U⟩:∃y,os[k]?=some y:=⟨_,Qg qr⟩
   have I:=J x (Qw Y)
   have E:=hos y (Qw U)
   exact⟨_,eg hr1 Z hN hk Y U I E O.ble,_,rfl,O.step Y U I E⟩)
  (fun s hs=>by
   obtain⟨b,rfl,O⟩:=hs
   have h1:¬((n:Int)<(n:Int)):=qr
   refine⟨_,?_,b,rfl,O⟩
   simp only[D5,CI,Qv,guardOf,Q2,opd,Xf,ZR,Z5,Env.get,Env.put,Jm,Qz,ZO,St.after,Env.keep,JC,Je,unV,Jb,Z1,packed,Ob.fresh,Jq,okVar,cS,reduceCtorEq,QQ,QL,QU,Zj,QZ,Za,QK,QY,QS,h1])
 rw[show D5 H (.slice (some ⟨id1,off1,none⟩) n c1) (.slice (some ⟨id2,off2,none⟩) n c2) n 0 0 []=⟨[(0,.slice (some ⟨id1,off1,none⟩) n c1),(1,.slice (some ⟨id2,off2,none⟩) n c2),(5,.int .u32 0),(8,.int .i64 n),(9,.int .i64 0)],H,[]⟩ from rfl]at hb
 obtain⟨z,hz,h2⟩:=hinv.eq
 rw[Qo qr,Qo qr]at h2
 have h3:=num_lt J
 rw[hn]at h3
 have hble:=hinv.ble
 have hres:(((b:Nat):Int)==1)=decide (num 4294967296 ws<num 4294967296 os):=by
  rcases ZA 0 b with h|h
  ·have hb1:b=1:=qr
   subst hb1
   have:num 4294967296 ws<num 4294967296 os:=qr
   simp[this]
  ·have hb0:b=0:=qr
   subst hb0
   have:¬num 4294967296 ws<num 4294967296 os:=qr
   simp[this]
 rw[Q9 (fn:=a46) rfl]
 simp only[a46,Qv,guardOf,Q2,opd,Xf,ZR,Z5,Env.get,Env.put,Jm,Qz,ZO,St.after,Env.keep,JC,Je,unV,Jb,Z1,packed,Ob.fresh,Jq,okVar,cS,reduceCtorEq,QQ,QL,QU,Zj,QZ,Za,QK,QY,QS,hb,D5,hres]
def Lq(U:a.length=32)(O:∀x∈a,x<256):∃l,Zp T 39 [.agg (u8s a).toArray] []=some (.bool (decide (num 256 a<ell)),l,[]):=by
 obtain⟨H,Y⟩:∃H:List Ob,H=[{c:=u8s a}]:=⟨_,rfl⟩
 have Z:Row .u8 H 0 0 a:=by subst Y;exact⟨_,rfl,fun i x hx=>by rw[QH];exact ZN hx⟩
 have J:=Fy (c:=32) Z U ww O
 have r1:=(W3 (H:=H) (ws:=dig 4294967296 8 (num 256 a))).app (l:=[Ob.fresh (QX orderW)])
 have I:=Ay (H++[Ob.fresh (QX (dig 4294967296 8 (num 256 a)))])
 have r2:=W3 (H:=H++[Ob.fresh (QX (dig 4294967296 8 (num 256 a)))]) (ws:=orderW)
 have E:=tT (c1:=8) (c2:=8) r1 r2 (Ze _ _ _) rfl ww WA Dx
 rw[Kf ww,Q6 (Tu U O),cg]at E
 change Zp T 90 _ H=some (.slice H.length 8 8,H++[Ob.fresh (QX (dig 4294967296 8 (num 256 a)))],[])at J
 generalize hH5:H++[Ob.fresh (QX (dig 4294967296 8 (num 256 a)))]=H5 at J I E
 generalize hH6:H5++[Ob.fresh (QX orderW)]=H6 at I E
 refine⟨H6,?_⟩
 rw[Q9 (fn:=a21) rfl]
 simp only[a21,Qv,guardOf,Q2,opd,Xf,ZR,Z5,Env.get,Env.put,Jm,Qz,ZO,St.after,Env.keep,JC,Je,unV,Jb,Z1,packed,Ob.fresh,Jq,okVar,cS,reduceCtorEq,QQ,QL,QU,Zj,QZ,Za,QK,QY,QS,<-Y,wD,J,I,E]
def qn(k:IntKind)(H:List Ob)(id off:Nat)(ps:List (List Nat)):Prop :=
 ∃o,liveAt H id=some o/\∀(i:Nat) (p:List Nat),ps[i]?=some p->∃v,o.c[off+i]?=some v/\Sl k H v p
def I9(R s pv:Value)(n i:Nat)(H:List Ob)(ex:Env):St:=⟨[(2,R),(3,s),(6,pv),(7,.int .i64 n),(8,.int .i64 i)]++ex,H,[]⟩
def FQ(h:ps[i]?=some p):(ps.take (i+1)).flatten=(ps.take i).flatten++p:=by
 rw[Zh,h];simp
def oM(h:ps[i]?=some p):(ps.take i).flatten.length+p.length<=ps.flatten.length:=by
 have E:=congrArg zV (FQ h)
 rw[Qh]at E
 rw[<-E]
 conv=>rhs;rw[<-Z7 (i+1) ps,List.flatten_append,Qh]
 omega
def kD{Hc:List Ob}{R:Value}{c:Nat}(hp:qn .u8 H id off ps)(hi:i<n)(hN:n<2^40)(I:ps[i]?=some p)(hS:ps.flatten.length<=2^40)
 (hB:H.length+1<=Hc.length) (hc:∀j,j<H.length->Hc[j]?=H[j]?) (hg:Grown .u8 (H.length+1) Hc s ((ps.take i).flatten)) :
    ∃s' H',Q4 T H.length CV (I9 R s (.slice (some ⟨id,off,none⟩) n c) n i Hc [])=some (.normal,I9 R s' (.slice (some ⟨id,off,none⟩) n c) n (i+1) H' []) /\
      H.length+1<=H'.length/\(∀j,j<H.length+1->H'[j]?=Hc[j]?)/\Grown .u8 (H.length+1) H' s' ((ps.take (i+1)).flatten):=by
  obtain⟨o,Z,hps⟩:=hp
  obtain⟨v,hv,J⟩:=hps i p I
  have O:liveAt Hc id=some o:=by rw[UB (hc _ (FG Z))];exact Z
  have E:=J.congr hc
  have hlen:=oM I
  obtain⟨s',H',M,ha,U,hM,hL,hK⟩:=hg.append (bytes:=1) hB E.lenV E.elems qr ww
  have h1:((i:Int)<(n:Int)):=qr
  have Y:IntKind.i64.wrap ((i:Int)+1)=((i+1:Nat):Int):=ZC (n:=i+1) qr
  have hm:Qz H.length [] M=[]:=QC fun j hj=>by have:=hM j hj;omega
  refine⟨s',H',?_,by omega,hK,by rw[FQ I];exact U⟩
  simp only[I9,CV,Qv,guardOf,Q2,opd,Xf,ZR,Z5,Env.get,Env.put,Jm,Qz,ZO,St.after,Env.keep,JC,Je,unV,Jb,Z1,packed,Ob.fresh,Jq,okVar,cS,reduceCtorEq,QQ,QL,QU,Zj,QZ,Za,QK,QY,QS,h1,O,hv,Y,ha,hm]
def of_nil(H:List Ob):Zp T 90 [.slice none 0 0] H=some (.slice H.length 0 0,H++[Ob.fresh []],[]):=by
 have E:Q4 T H.length (.loop Df) ⟨[(3,.slice H.length 0 0),(11,.slice none 0 0),(12,.int .i64 0),(13,.int .i64 0)],H++[{c:=[]}],[]⟩=some (.exit 0,⟨[(3,.slice H.length 0 0),(11,.slice none 0 0),(12,.int .i64 0),(13,.int .i64 0),(14,.bool false)],H++[{c:=[]}],[]⟩):=by
  rw[Jf]
  simp only[Df,Qv,guardOf,Q2,opd,Xf,ZR,Z5,Env.get,Env.put,Jm,Qz,ZO,St.after,Env.keep,JC,Je,unV,Jb,Z1,packed,Ob.fresh,Jq,okVar,cS,reduceCtorEq,QQ,QL,QU,Zj,QZ,Za,QK,QY,QS,cL,Za,QZ,Hi,Hh,Hf,Bg,Bf,Hg,QK,MD,ME,WL,QQ,QU,QS,He,Hd,WK,QY,Ww]
 rw[Q9 (fn:=a40) rfl]
 simp only[a40,Qv,guardOf,Q2,opd,Xf,ZR,Z5,Env.get,Env.put,Jm,Qz,ZO,St.after,Env.keep,JC,Je,unV,Jb,Z1,packed,Ob.fresh,Jq,okVar,cS,reduceCtorEq,QQ,QL,QU,Zj,QZ,Za,QK,QY,QS,cL,Za,QZ,Hi,Hh,Hf,Bg,Bf,Hg,QK,MD,ME,WL,QQ,QU,QS,He,Hd,WK,QY,Ww,List.replicate_zero,List.flatten_nil,E]
def tJ(H:List Ob)(id:Nat):Zp T 133 [.slice id 0 0] H=some (.slice H.length 8 8,H++[{c:=QX (dig 4294967296 8 0)},{c:=QX orderW},{c:=QX (dig 4294967296 8 0)}],[]):=by
 have hz:(Qc 8 [Value.int .u32 0]).flatten=QX (dig 4294967296 8 0):=rfl
 have E:=Ay (H++[{c:=QX (dig 4294967296 8 0)}])
 have I:Q4 T H.length (.loop VQ) ⟨[(0,.slice id 0 0),(3,.slice H.length 8 8),(4,.slice (H.length+1:Nat) 8 8),(5,.slice (H.length+2:Nat) 8 8),(6,.int .i64 (-1))],H++[{c:=QX (dig 4294967296 8 0)},{c:=QX orderW},{c:=QX (dig 4294967296 8 0)}],[]⟩=some (.exit 0,⟨[(0,.slice id 0 0),(3,.slice H.length 8 8),(4,.slice (H.length+1:Nat) 8 8),(5,.slice (H.length+2:Nat) 8 8),(6,.int .i64 (-1)),(19,.bool false)],H++[{c:=QX (dig 4294967296 8 0)},{c:=QX orderW},{c:=QX (dig 4294967296 8 0)}],[]⟩):=by
  rw[Jf]
  have e:((0:Int) <= -1)=False:=ww
  simp only[VQ,Qv,guardOf,Q2,opd,Xf,ZR,Z5,Env.get,Env.put,Jm,Qz,ZO,St.after,Env.keep,JC,Je,unV,Jb,Z1,packed,Ob.fresh,Jq,okVar,cS,reduceCtorEq,QQ,QL,QU,Zj,QZ,Za,QK,QY,QS,cL,Za,QZ,Hi,Hh,Hf,Bg,Bf,Hg,QK,MD,ME,WL,QQ,QU,QS,He,Hd,WK,QY,Ww,e]
 rw[Q9 (fn:=a41) rfl]
 simp only[a41,Qv,guardOf,Q2,opd,Xf,ZR,Z5,Env.get,Env.put,Jm,Qz,ZO,St.after,Env.keep,JC,Je,unV,Jb,Z1,packed,Ob.fresh,Jq,okVar,cS,reduceCtorEq,QQ,QL,QU,Zj,QZ,Za,QK,QY,QS,cL,Za,QZ,Hi,Hh,Hf,Bg,Bf,Hg,QK,MD,ME,WL,QQ,QU,QS,He,Hd,WK,QY,Ww,hz,E,I,Qh,Qx,QV,Ob.fresh]
def dk(h:H[id]?=some (Ob.fresh (ns .u8 bs))):Row .u8 H id 0 bs :=
 ⟨_,Zs h rfl,fun i x E=>by rw[QH];exact Z4 E⟩
def dj(h:H[id]?=some (Ob.grown 1 (ns .u8 bs))):Row .u8 H id 0 bs :=
 ⟨_,Zs h rfl,fun i x E=>by rw[QH];exact Z4 E⟩
def kC{B:Nat}(hg:Grown .u8 B H s bs)(hb:∀x∈bs,x<256)(hN:bs.length<2^40) :
  ∃v1 v2 O I E,Zp T 90 [s] H=some (v1,H++O,[])/\Zp T 133 [v1] (H++O)=some (v2,H++O++I,[])/\Zp T 134 [v2] (H++O++I)=some (.agg (u8s (dig 256 32 (num 256 bs%ell))).toArray,H++O++I++E,[]):=by
 cases hg with
 |nil =>
  have Z:=of_nil H
  have Y:=tJ (H++[Ob.fresh []]) H.length
  have r:Row .u32 (H++[Ob.fresh []]++[{c:=QX (dig 4294967296 8 0)},{c:=QX orderW},{c:=QX (dig 4294967296 8 0)}]) (H++[Ob.fresh []]).length 0 (dig 4294967296 8 0) :=
   ⟨_,UT,fun i x hx=>by rw[QH];exact Kr hx⟩
  obtain⟨E,U⟩:=DO (cap:=8) r
  exact⟨_,_,_,_,E,Z,Y,U⟩
 |@own id _ g1 g2 g3 =>
  have Z:=Fy (c:=bs.length) (dj g3) rfl hN hb
  have hlt:num 256 bs<4294967296^((bs.length+3)/4):=by
   refine QJ (num_lt hb) ?_
   rw[show(4294967296:Nat)=256^4 from by decide,<-Jj]
   exact Zy ww qr
  obtain⟨k,I,Y,J⟩:=S0 (cap:=(bs.length+3)/4) (W3 (H:=H) (ws:=dig 4294967296 ((bs.length+3)/4) (num 256 bs))) (Ze _ _ _) qr qr WA
  rw[Kf ww,Q6 hlt]at J
  obtain⟨E,U⟩:=DO (cap:=8) J
  exact⟨_,_,_,I,E,Z,Y,U⟩
 |@new id _ g1 g2 g3 =>
  have Z:=Fy (c:=bs.length) (dk g3) rfl hN hb
  have hlt:num 256 bs<4294967296^((bs.length+3)/4):=by
   refine QJ (num_lt hb) ?_
   rw[show(4294967296:Nat)=256^4 from by decide,<-Jj]
   exact Zy ww qr
  obtain⟨k,I,Y,J⟩:=S0 (cap:=(bs.length+3)/4) (W3 (H:=H) (ws:=dig 4294967296 ((bs.length+3)/4) (num 256 bs))) (Ze _ _ _) qr qr WA
  rw[Kf ww,Q6 hlt]at J
  obtain⟨E,U⟩:=DO (cap:=8) J
  exact⟨_,_,_,I,E,Z,Y,U⟩
def du{c:Nat}(hp:qn .u8 H id off ps)(hn:ps.length=n)(hN:n<2^40)(hS:ps.flatten.length<2^40)(hb:∀x∈ps.flatten,x<256) :
  ∃l,Zp T 94 [.slice (some ⟨id,off,none⟩) n c] H=some (.agg (u8s (dig 256 32 (num 256 ps.flatten%ell))).toArray,H++l,[]):=by
 have hz:Qc 32 (Value.int .u8 0)=u8s (dig 256 32 0):=rfl
 obtain⟨s',hb1,s,Hc,rfl,hL,J,I⟩:=QM (T:=T) (base:=H.length) (id:=0) (body:=CV)
  (fun i st=>∃s Hc,st=I9 (.pointer H.length) s (.slice (some ⟨id,off,none⟩) n c) n i Hc []/\H.length+1<=Hc.length/\(∀j,j<H.length+1->Hc[j]?=(H++[{c:=u8s (dig 256 32 0)}])[j]?)/\Grown .u8 (H.length+1) Hc s ((ps.take i).flatten))
  (Q:=fun st=>∃s Hc,st=I9 (.pointer H.length) s (.slice (some ⟨id,off,none⟩) n c) n n Hc [(9,.bool false)]/\H.length+1<=Hc.length/\(∀j,j<H.length+1->Hc[j]?=(H++[{c:=u8s (dig 256 32 0)}])[j]?)/\Grown .u8 (H.length+1) Hc s ps.flatten)
  n (s:=I9 (.pointer H.length) (.slice none 0 0) (.slice (some ⟨id,off,none⟩) n c) n 0 (H++[{c:=u8s (dig 256 32 0)}]) []) ⟨_,_,rfl,by simp,fun _ _=>rfl,.nil⟩
  (fun i st hi hs=>by
   obtain⟨s,Hc,rfl,hL,J,I⟩:=hs
   obtain⟨p,hpi⟩:∃p,ps[i]?=some p:=⟨_,Qg qr⟩
   obtain⟨s2,H2,U,h2,O,h4⟩:=kD (R := .pointer H.length) (c:=c) hp hi hN hpi qr hL (fun j hj=>by rw[J j qr,Qb hj]) I
   exact⟨_,U,s2,H2,rfl,h2,fun j hj=>by rw[O j hj,J j hj],h4⟩)
  (fun st hs=>by
   obtain⟨s,Hc,rfl,hL,J,I⟩:=hs
   have U:¬((n:Int)<(n:Int)):=qr
   rw[Qo qr]at I
   refine⟨_,?_,s,Hc,rfl,hL,J,I⟩
   simp only[I9,CV,Qv,guardOf,Q2,opd,Xf,ZR,Z5,Env.get,Env.put,Jm,Qz,ZO,St.after,Env.keep,JC,Je,unV,Jb,Z1,packed,Ob.fresh,Jq,okVar,cS,reduceCtorEq,QQ,QL,QU,Zj,QZ,Za,QK,QY,QS,U])
 obtain⟨l0,hl0⟩:=XI (H:=H++[{c:=u8s (dig 256 32 0)}]) (H':=Hc) (by simpa using hL) (fun i hi=>J i (by simpa using hi))
 obtain⟨v1,v2,l1,Z,Y,U,h2,O⟩:=kC I hb hS
 generalize hR:dig 256 32 (num 256 ps.flatten%ell)=R at *
 have lR:(u8s R).length=32:=by rw[Qq,<-hR,Ze]
 have E:storeAt (Hc++l1++Z++Y) ⟨H.length,0,none⟩ (u8s R)=some (H++{c:=u8s R}::(l0++l1++Z++Y)):=by
  have h8:=KN (H:=H) (r:=l0++l1++Z++Y) (cs:=u8s (dig 256 32 0)) (e:=true) (s:=1) (off:=0) (v:=u8s R) (by rw[lR,Qq,Ze];omega)
  rw[U5 (by rw[lR,Qq,Ze])]at h8
  rw[hl0]
  simpa using h8
 generalize hH1:Hc++l1=H1 at U h2 O E
 generalize hH2:H1++Z=H2 at h2 O E
 generalize hH3:H2++Y=H3 at O E
 have h9:((u8s R).drop 0).take 32=u8s R:=by rw[Jt,Qo qr]
 refine⟨{c:=u8s R}::(l0++l1++Z++Y),?_⟩
 rw[show I9 (.pointer H.length) (.slice none 0 0) (.slice (some ⟨id,off,none⟩) n c) n 0 (H++[{c:=u8s (dig 256 32 0)}]) []=⟨[(2,.pointer H.length),(3,.slice none 0 0),(6,.slice (some ⟨id,off,none⟩) n c),(7,.int .i64 n),(8,.int .i64 0)],H++[{c:=u8s (dig 256 32 0)}],[]⟩ from rfl]at hb1
 rw[Q9 (fn:=a17) rfl]
 simp only[a17,Qv,guardOf,Q2,opd,Xf,ZR,Z5,Env.get,Env.put,Jm,Qz,ZO,St.after,Env.keep,JC,Je,unV,Jb,Z1,packed,Ob.fresh,Jq,okVar,cS,reduceCtorEq,QQ,QL,QU,Zj,QZ,Za,QK,QY,QS,cL,Za,QZ,Hi,Hh,Hf,Bg,Bf,Hg,QK,MD,ME,WL,QQ,QU,QS,He,Hd,WK,QY,Ww,hz,hb1,I9,U,h2,O,lR,E,UT,h9]
end
section
attribute [local congr] Jw JD Jv JE Jk
variable{H l:List Ob}{z r a y b r' xs ds:List Nat}{x n off c il ol cl m id q:Nat}{R:Value}{i:Int}{k:IntKind}
def mA(x y z:List Nat):List Nat:=dig 256 32 ((num 256 x*num 256 y+num 256 z)%ell)
def rd(x:List Nat):List Nat:=dig 256 32 (num 256 x%ell)
def xq(x:List Nat):dig 256 32 (num 256 x%ell)=rd x:=rfl
def yl{x:List Nat}:(mA x y z).length=32:=Ze _ _ _
def PR{x:List Nat}:(rd x).length=32:=Ze _ _ _
def mA_lt{x:List Nat}:∀t∈mA x y z,t<256:=fun _ h=>Vt ww h
def rd_lt{x:List Nat}:∀t∈rd x,t<256:=fun _ h=>Vt ww h
def pc:ell<=256^32:=ww
def RF(v:Nat):num 256 (dig 256 32 (v%ell))=v%ell:=by
 rw[Kf ww,Q6 (QJ (Q3 _ DJ) pc)]
def xW(x y z:List Nat):num 256 (mA x y z)=(num 256 x*num 256 y+num 256 z)%ell:=RF _
def dX{c:List Nat}(U:a.length=32)(O:b.length=32)(lc:c.length=32)(J:∀x∈a,x<256)(I:∀x∈b,x<256)(E:∀x∈c,x<256) :
  ∃l,Zp T 76 [.agg (u8s a).toArray,.agg (u8s b).toArray,.agg (u8s c).toArray] []=some (.agg (u8s (mA a b c)).toArray,l,[]):=dY U O lc J I E
def Hr:List Nat:=[237,211,245,92,26,99,18,88,214,156,247,162,222,249,222,20]
def ordL:List Nat:=dig 256 32 ell
def sN:ordL=Hr++Qc 15 0++[16]:=by decide +kernel
def Dy:ordL.length=32:=Ze _ _ _
def bI:∀x∈ordL,x<256:=fun _ h=>Vt ww h
def N9:num 256 ordL=ell:=by decide +kernel
def Yk{B bytes:Nat}{s:Value}{bs:List Nat}(h:Grown k B H s bs)(Z:B<=H.length)(hb:(bs.length+1)*bytes<=2^47)(E:0<bytes) :
  ∃s' H' M,ZV 1 bytes (H++[{c:=[.int k (x:Nat)]}]) s (.slice H.length 1 1)=some (s',H',none,M)/\Grown k B H' s' (bs++[x])/\(∀i∈M,B<=i)/\B<=H'.length/\∀i,i<B->H'[i]?=H[i]? := by
 obtain⟨s',H',M,Y,U,O,J,I⟩:=(h.app (l':=[{c:=[.int k (x:Nat)]}])).append (bytes:=bytes) (x := .slice H.length 1 1) (new:=[x]) (by simp;omega) rfl (by simp[elemsOf,liveAt,ns]) hb E
 refine⟨s',H',M,Y,U,O,?_,fun i hi=>by rw[I i hi,Qb qr]⟩
 simp at J
 omega
def oI(s:Value)(H:List Ob)(ex:Env):St:=⟨[(1,s)]++ex,H,[]⟩
def Az(H:List Ob):∃s l,Zp T 110 [] H=some (s,H++l,[])/\Grown .i64 H.length (H++l) s ordL:=by
 have hf:fillL (Qc 16 (Value.int .i64 0)) [(0,1,.int .i64 237),(1,1,.int .i64 211),(2,1,.int .i64 245),(3,1,.int .i64 92),(4,1,.int .i64 26),(5,1,.int .i64 99),(6,1,.int .i64 18),(7,1,.int .i64 88),(8,1,.int .i64 214),(9,1,.int .i64 156),(10,1,.int .i64 247),(11,1,.int .i64 162),(12,1,.int .i64 222),(13,1,.int .i64 249),(14,1,.int .i64 222),(15,1,.int .i64 20)]=some (ns .i64 Hr):=rfl
 have f0:fillL [Value.int .i64 0] [(0,1,.int .i64 0)]=some [.int .i64 0]:=rfl
 have f16:fillL [Value.int .i64 0] [(0,1,.int .i64 16)]=some [.int .i64 16]:=rfl
 obtain⟨st,hb,s,Hc,rfl,E,O,U⟩:=QM (T:=T) (base:=H.length) (id:=0) (body:=L4)
  (fun j st=>∃s Hc,st=oI s Hc []/\Grown .i64 H.length Hc s (Hr++Qc j 0)/\H.length<=Hc.length/\∀i,i<H.length->Hc[i]?=H[i]?)
  (Q:=fun st=>∃s Hc,st=oI s Hc [(5,.bool false)]/\Grown .i64 H.length Hc s (Hr++Qc 15 0)/\H.length<=Hc.length/\∀i,i<H.length->Hc[i]?=H[i]?)
  15 (s:=oI (.slice H.length 16 16) (H++[{c:=ns .i64 Hr}]) []) ⟨_,_,rfl,Grown.new (id:=H.length) (bs:=Hr) (Qj _) ww (by simp[Ob.fresh]),by simp,fun i hi=>Qb hi⟩
  (fun j st hj hs=>by
   obtain⟨s,Hc,rfl,E,O,U⟩:=hs
   have J:=E.len
   have I:(Hr++Qc j 0).length=16+j:=by simp[Hr];omega
   rw[I]at J
   have h31:(((16+j:Nat):Int)<31):=qr
   obtain⟨s',H',M,Y,h2,h3,h4,Z⟩:=Yk (x:=0) (bytes:=8) E O (by simp[Hr];omega) ww
   have hm:Qz H.length [] M=[]:=QC h3
   refine⟨oI s' H' [],?_,s',H',rfl,by rw[List.replicate_succ',<-Qx];exact h2,h4,fun i hi=>by rw[Z i hi,U i hi]⟩
   simp only[oI,L4,Qv,quiet,cF,J0,QW,↓pQ,reduceCtorEq,seval,-Qa,cL,cJ,QV,J,h31,f0]
   simp only[Zx]at Y
   simp only[Y,hm,Qv,quiet,cF,J0,QW,↓pQ,reduceCtorEq,seval,-Qa,cL])
  (fun st hs=>by
   obtain⟨s,Hc,rfl,E,O,U⟩:=hs
   have J:=E.len
   refine⟨_,?_,s,Hc,rfl,E,O,U⟩
   have I:(Hr++Qc 15 0).length=31:=rfl
   rw[I]at J
   simp only[oI,L4,Qv,quiet,cF,J0,QW,↓pQ,reduceCtorEq,seval,-Qa,cL,cJ,QV,J])
 obtain⟨s',H',M,Y,h2,h3,h4,Z⟩:=Yk (x:=16) (bytes:=8) E O ww ww
 have hm:Qz H.length [] M=[]:=QC h3
 obtain⟨l,rfl⟩:=XI h4 (fun i hi=>by rw[Z i hi,U i hi])
 refine⟨s',l,?_,by rw[sN];exact h2⟩
 rw[Q9 (fn:=a23) rfl]
 simp only[oI,Qp,Qn]at hb
 simp only[Xo]at Y
 simp only[a23,Qv,quiet,cF,J0,QW,↓pQ,reduceCtorEq,seval,-Qa,cL,cJ,QV,hf,hb,oI,f16,Y,hm]
def LP(h:x<256):IntKind.u8.wrap (x:Int)=x:=Xm rfl h
def F8(h:a[m]?=some x):num 256 a=num 256 (a.take m)+x*256^m+256^(m+1)*num 256 (a.drop (m+1)):=by
 have hm:m<a.length:=(Qf.1 h).1
 conv=>lhs;rw[<-Z7 (m+1) a,KV,JY h]
 rw[Q0,Zg qr]
def RE(ha:∀x∈a,x<256)(hm:m<=a.length):num 256 (a.take m)<256^m:=by
 have:=num_lt (B:=256) (l:=a.take m) fun x E=>ha x (QG E)
 rwa[Q0,Zg hm]at this
def tU{x y:Nat}(O:a.length=b.length)(ha:∀x∈a,x<256)(hb:∀x∈b,x<256)(E:a[m]?=some x)(I:b[m]?=some y)(J:x≠y)(hd:a.drop (m+1)=b.drop (m+1)):(num 256 a<num 256 b)↔x<y:=by
 have hm:m<a.length:=(Qf.1 E).1
 rw[F8 E,F8 I,hd]
 have Y:=RE (m:=m) ha qr
 have U:=RE (m:=m) hb qr
 rcases ZA x y with h|h
 ·have:(x+1)*256^m<=y*256^m:=ZG _ h
  rw[Zl,Xa]at this
  constructor<;>intro<;>omega
 ·have:(y+1)*256^m<=x*256^m:=ZG _ qr
  rw[Zl,Xa]at this
  constructor<;>intro<;>omega
def rlI(sa sb:Value)(H:List Ob)(i:Int)(ex:Env):St:=⟨[(0,sa),(1,sb),(5,.int .i64 i)]++ex,H,[]⟩
def Dr{H:List Ob}{base:Nat}{ia oa ca ib ob cb n:Nat}{a b:List Nat}(hra:Row .i64 H ia oa a)(hrb:Row .i64 H ib ob b)(la:a.length=n)(lb:b.length=n)(hN:n<2^40)(ha:∀x∈a,x<256)(hb:∀x∈b,x<256) :
  ∀m,m<=n->a.drop m=b.drop m->Q4 T base (.loop CG) (rlI (.slice (some ⟨ia,oa,none⟩) n ca) (.slice (some ⟨ib,ob,none⟩) n cb) H ((m:Int)-1) []) =
   if a=b then some (.exit 0,rlI (.slice (some ⟨ia,oa,none⟩) n ca) (.slice (some ⟨ib,ob,none⟩) n cb) H (-1) [(10,.bool false)])else some (.ret,⟨[(4,.bool (decide (num 256 a<num 256 b)))],H,[]⟩)
 |0,_,hd=>by
  rw[Jt,Jt]at hd
  rw[if_pos hd,Jf]
  have e:((0:Int) <= -1)=False:=ww
  simp only[rlI,CG,Qv,quiet,cF,J0,QW,↓pQ,reduceCtorEq,seval,-Qa,cL,Int.zero_sub,e]
 |m+1,hm,hd=>by
  obtain⟨x,hx⟩:∃x,a[m]?=some x:=⟨_,Qg qr⟩
  obtain⟨y,Y⟩:∃y,b[m]?=some y:=⟨_,Qg qr⟩
  obtain⟨o1,O,hc1⟩:=hra
  obtain⟨o2,J,hc2⟩:=hrb
  have c1:=hc1 m x hx
  have c2:=hc2 m y Y
  have e0:(((m+1:Nat):Int)-1)=(m:Int):=qr
  have e1:((0:Int)<=(m:Int))=True:=wr
  have e2:((m:Int)<(n:Int))=True:=wr
  have e3:IntKind.i64.wrap ((m:Int)-1)=(m:Int)-1:=Zd qr qr
  rw[e0,Jf]
  obtain⟨U,v1⟩:(H[ia]?=some o1)/\o1.live=true:=by
   simp only[liveAt,Qe]at O
   obtain⟨o',U,E⟩:=O
   split at E
   ·cases E;exact⟨U,by assumption⟩
   ·cases E
  obtain⟨E,v2⟩:(H[ib]?=some o2)/\o2.live=true:=by
   simp only[liveAt,Qe]at J
   obtain⟨o',U,E⟩:=J
   split at E
   ·cases E;exact⟨U,by assumption⟩
   ·cases E
  by_cases I:x=y
  ·subst I
   have hd':a.drop m=b.drop m:=by
    rw[ZJ,hx,hd,<-Y,<-ZJ]
   have ih:=Dr (base:=base) (ca:=ca) (cb:=cb) ⟨o1,O,hc1⟩ ⟨o2,J,hc2⟩ la lb hN ha hb m qr hd'
   rw[<-ih]
   simp only[rlI,CG,Qv,quiet,cF,J0,QW,↓pQ,reduceCtorEq,seval,-Qa,cL,e1,e2,e3,U,E,v1,v2,c1,c2]
  ·have hab:¬a=b:=fun h=>by subst h;rw[hx]at Y;cases Y;exact I rfl
   rw[if_neg hab]
   have hne:((x:Int) != (y:Int))=true:=by simp;omega
   have hlt:=tU qr ha hb hx Y I hd
   have Z:decide ((x:Int)<(y:Int))=decide (num 256 a<num 256 b):=by
    by_cases h:x<y
    ·rw[decide_eq_true (hlt.2 h),decide_eq_true qr]
    ·rw[decide_eq_false (fun k=>h (hlt.1 k)),decide_eq_false qr]
   simp only[rlI,CG,Qv,quiet,cF,J0,QW,↓pQ,reduceCtorEq,seval,-Qa,cL,e1,e2,e3,U,E,v1,v2,c1,c2,hne,Z]
def Aa{sa sb:Value}{a b:List Nat}(O:Sl .i64 H sa a)(J:Sl .i64 H sb b)(Y:a.length=n)(U:b.length=n)(hn:0<n)(hN:n<2^40)(ha:∀x∈a,x<256)(hb:∀x∈b,x<256) :
  Zp T 109 [sa,sb] H=some (.bool (decide (num 256 a<num 256 b)),H,[]):=by
 obtain⟨ia,oa,ca,rfl,ra⟩:=O.row qr
 obtain⟨ib,ob,cb,rfl,rb⟩:=J.row qr
 rw[Y,U]
 have I:=Dr (base:=H.length) (ca:=ca) (cb:=cb) ra rb Y U hN ha hb n (Qj n) (by rw[ZH qr,ZH qr])
 have Z:IntKind.i64.wrap ((n:Int)-1)=(n:Int)-1:=Zd qr qr
 rw[Q9 (fn:=a48) rfl]
 simp only[rlI,Qp,Qn]at I
 by_cases E:a=b
 ·rw[if_pos E]at I
  subst E
  have:decide (num 256 a<num 256 a)=false:=by simp
  simp only[a48,Qv,quiet,cF,J0,QW,↓pQ,reduceCtorEq,seval,-Qa,cL,Z,Jl,I,this]
 ·rw[if_neg E]at I
  simp only[a48,Qv,quiet,cF,J0,QW,↓pQ,reduceCtorEq,seval,-Qa,cL,Z,Jl,I]
def mH(H:List Ob)(z r:List Nat)(l:List Ob):List Ob:=H++{c:=u8s z}::{c:=ns .i64 r}::l
def nB{H:List Ob}{v:Value}{k:IntKind}{id:Nat}(hv:v=.slice (some ⟨id,off,none⟩) n c)(hid:id≠H.length+1)(h:Sl k (mH H z r l) v xs):Sl k (mH H z r' l) v xs:=by
 subst hv
 cases h with
 |mk J I E =>
  refine .mk ?_ I E
  rw[<-J]
  apply UB
  unfold mH
  by_cases hlt:id<H.length
  ·rw[Qb hlt,Qb hlt]
  ·rw[Qd qr,Qd qr]
   rcases O:id-H.length with _|_|k
   ·rfl
   ·omega
   ·rfl
def mrs(H:List Ob):Value := .slice (H.length+1:Nat) 33 33
def l1I(R v0 sl:Value)(rs:Value)(i q b k x:Int)(h:List Ob)(ex:Env):St:=⟨[(0,v0),(2,R),(3,rs),(4,sl),(5,.int .i64 i),(7,.int .i64 q),(8,.int .i64 b),(9,.int .i64 k),(10,.int .i64 x)]++ex,h,[]⟩
def bR{base:Nat}{R v0 sl rs:Value}{i q k:Int}{h:List Ob}:∀(t:Nat) (b x:Int),t<2^40->0<=b->b+t<2^41->x+256*t<256->0<=x+256*t->(0<t->x<0) ->
  Q4 T base (.loop Lz) (l1I R v0 sl rs i q b k x h [])=some (.exit 8,l1I R v0 sl rs i q (b+t) k (x+256*t) h [(75,.bool false)])
 |0,b,x,_,_,_,Z,Y,_=>by
  have e:(x<0)=False:=ut
  rw[Jf]
  simp only[l1I,Lz,Qv,quiet,cF,J0,QW,↓pQ,reduceCtorEq,seval,-Qa,cL,e,Int.mul_zero,Int.add_zero]
 |t+1,b,x,ht,O,hb,Z,Y,U=>by
  have e:(x<0)=True:=eq_true (U qr)
  have J:=bR (base:=base) (R:=R) (v0:=v0) (sl:=sl) (rs:=rs) (i:=i) (q:=q) (k:=k) (h:=h) t (b+1) (x+256) qr qr qr qr qr (fun h=>by omega)
  have I:IntKind.i64.wrap (x+256)=x+256:=Zd qr qr
  have E:IntKind.i64.wrap (b+1)=b+1:=Zd qr qr
  rw[Jf]
  rw[show b+((t+1:Nat):Int)=b+1+(t:Int) by omega,show x+256*((t+1:Nat):Int)=x+256+256*(t:Int) by omega,<-J]
  simp only[l1I,Lz,Qv,quiet,cF,J0,QW,↓pQ,reduceCtorEq,seval,-Qa,cL,e,I,E]
def ord33:List Nat:=ordL++[0]
def Gm:ord33.length=33:=by simp[ord33,Dy]
def A0:∀x∈ord33,x<256:=by
 intro x E
 simp only[ord33,QB,List.mem_singleton]at E
 rcases E with h|h
 ·exact bI x h
 ·omega
def Fu:num 256 ord33=ell:=by
 simp only[ord33,KV,N9,num];omega
structure SubInv(k q:Nat)(r0 r:List Nat)(b:Nat):Prop where
 len:r.length=33
 lt:∀x∈r,x<256
 ble:b<=q+1
 eq:num 256 (r0.take k)+b*256^k=num 256 (r.take k)+q*num 256 (ord33.take k)
 rest:r.drop k=r0.drop k
def nx(y q l b:Nat):Nat:=((y:Int)-q*l-b).toNat
def nb(y q l b:Nat):Nat:=(q*l+b-y+255)/256
def SubInv.step{k q b y l:Nat}{r0 r:List Nat}(h:SubInv k q r0 r b)(hk:k<33)(Z:r[k]?=some y)(hl:ord33[k]?=some l):SubInv (k+1) q r0 (r.set k (y+256*nb y q l b-(q*l+b))) (nb y q l b)/\y+256*nb y q l b-(q*l+b)<256/\q*l+b<=y+256*nb y q l b:=by
 have hy':=h.lt y (Qw Z)
 have hl':=A0 l (Qw hl)
 have hb:=h.ble
 have hlen:=h.len
 have J:y+256*nb y q l b-(q*l+b)<256/\q*l+b<=y+256*nb y q l b:=by unfold nb;omega
 have hql:q*l<=q*255:=XU q qr
 have I:nb y q l b<=q+1:=by unfold nb;omega
 have O:r0[k]?=some y:=by
  have Y:(r.drop k)[0]?=(r0.drop k)[0]? := by rw[h.rest]
  rwa[Zf,Zf,ZM,Z,eq_comm]at Y
 refine⟨⟨by rw[Qr];exact hlen,Yf h.lt J.1,I,?_,?_⟩,J⟩
 ·generalize nb y q l b=c at *
  obtain⟨d,hd⟩:∃d,y+256*c=q*l+b+d:=⟨y+256*c-(q*l+b),by omega⟩
  have E:(r.set k d).take (k+1)=r.take k++[d]:=by
   rw[Zh,Qu qr,List.take_set_of_le (Qj k)];rfl
  rw[show y+256*c-(q*l+b)=d by omega,E,JY O,JY hl,KV]
  have U:(r.take k).length=k:=by rw[Q0];omega
  rw[U]
  have he:=h.eq
  simp only[num,Nat.mul_zero,ZM]
  have e1:c*256^(k+1)=(256*c)*256^k:=by rw[Zn];simp only[ZI,Xb,Zw]
  have e2:(y+256*c)*256^k=(q*l+b+d)*256^k:=by rw[hd]
  rw[Zl,Zl,Zl]at e2
  rw[e1,VW,<-ZI,Zw (256^k) d]
  omega
 ·rw[List.drop_set_of_lt qr]
  have Y:(r.drop k).drop 1=(r0.drop k).drop 1:=by rw[h.rest]
  rwa[Kp,Kp]at Y
def l2I(R v0 sl rs:Value)(i q b k:Int)(h:List Ob)(ex:Env):St:=⟨[(0,v0),(2,R),(3,rs),(4,sl),(5,.int .i64 i),(7,.int .i64 q),(8,.int .i64 b),(9,.int .i64 k)]++ex,h,[]⟩
def AD(h:Sl k H (.slice (some ⟨id,off,none⟩) n c) xs):∃o,H[id]?=some o/\o.live=true/\n=xs.length/\∀(i x:Nat),xs[i]?=some x->o.c[off+i]?=some (.int k (x:Nat)):=by
 cases h with
 |mk I Y J =>
  simp only[liveAt,Qe]at I
  obtain⟨U,O,E⟩:=I
  split at E
  ·cases E;exact⟨_,O,by assumption,rfl,J⟩
  ·cases E
def tY{v0:Value}{r0:List Nat}{b k y lk:Nat}(Y:∀r,Sl .i64 (mH H z r l) (.slice (some ⟨il,ol,none⟩) 33 cl) ord33)(I:SubInv k q r0 r b)(hk:k<33)(hq:q<2^20)(O:r[k]?=some y)(Z:ord33[k]?=some lk) :
  Q4 T H.length De (l2I R v0 (.slice (some ⟨il,ol,none⟩) 33 cl) (mrs H) i q b k (mH H z r l) []) =
   some (.normal,l2I R v0 (.slice (some ⟨il,ol,none⟩) 33 cl) (mrs H) i q (nb y q lk b:Nat) ((k+1:Nat):Int) (mH H z (r.set k (y+256*nb y q lk b-(q*lk+b))) l) []):=by
 obtain⟨hS,hlt,hle⟩:=I.step hk O Z
 have hy':=I.lt y (Qw O)
 have hl':=A0 lk (Qw Z)
 have hb:=I.ble
 have hlen:=I.len
 have hql:q*lk<=q*255:=XU q qr
 have hnb2:=hS.ble
 obtain⟨o,ho,hv,-,hc⟩:=AD (Y r)
 have hcl:=hc k lk Z
 have J:=Z4 (k := .i64) O
 have k1:((k:Int)<33)=True:=wr
 have k2:((k:Int)<((33:Nat):Int))=True:=wr
 have w1:IntKind.i64.wrap ((q:Int)*(lk:Int))=((q*lk:Nat):Int):=by rw[<-Jy];exact ZC qr
 have w2:IntKind.i64.wrap ((y:Int)-((q*lk:Nat):Int))=(y:Int)-((q*lk:Nat):Int):=Zd qr qr
 have w3:IntKind.i64.wrap ((y:Int)-((q*lk:Nat):Int)-(b:Int))=(y:Int)-((q*lk:Nat):Int)-(b:Int):=Zd qr qr
 have w4:IntKind.i64.wrap ((k:Int)+1)=((k+1:Nat):Int):=ZC (n:=k+1) qr
 have hloop:=bR (base:=H.length) (R:=R) (v0:=v0) (sl := .slice (some ⟨il,ol,none⟩) 33 cl) (rs:=mrs H) (i:=i) (q:=q) (k:=k) (h:=mH H z r l) (nb y q lk b) 0 ((y:Int)-((q*lk:Nat):Int)-(b:Int)) qr qr qr qr qr (fun h=>by unfold nb at h;omega)
 rw[show(0:Int)+(nb y q lk b:Nat)=(nb y q lk b:Nat) by omega,show(y:Int)-((q*lk:Nat):Int)-(b:Int)+256*(nb y q lk b:Nat)=((y+256*nb y q lk b-(q*lk+b):Nat):Int) by omega]at hloop
 have E:=JL .i64 r k (y+256*nb y q lk b-(q*lk+b))
 have U:k+1<=33:=qr
 generalize nb y q lk b=c at *
 generalize y+256*c-(q*lk+b)=d at *
 simp only[l1I,l2I,mH,mrs,Qp,Qn]at hloop ho ⊢
 simp only[De,Qv,quiet,cF,J0,QW,↓pQ,reduceCtorEq,seval,-Qa,cL,cJ,QV,k1,k2,J,ho,hv,hcl,w1,w2,w3,w4,Jl,hloop,QA,hlen,U,E]
def nJ{v0:Value}(I:∀r,Sl .i64 (mH H z r l) (.slice (some ⟨il,ol,none⟩) 33 cl) ord33)(Y:q<2^20)(hlen:r.length=33)(hlt:∀x∈r,x<256)(hle:q*ell<=num 256 r) :
  ∃b r',Q4 T H.length (.block 6 (.loop De)) (l2I R v0 (.slice (some ⟨il,ol,none⟩) 33 cl) (mrs H) i q 0 0 (mH H z r l) [])=some (.normal,l2I R v0 (.slice (some ⟨il,ol,none⟩) 33 cl) (mrs H) i q b 33 (mH H z r' l) [(58,.bool false)]) /\
   r'.length=33/\(∀x∈r',x<256)/\num 256 r'=num 256 r-q*ell:=by
 obtain⟨st,h1,b,r',rfl,E⟩:=QM (T:=T) (base:=H.length) (id:=6) (body:=De)
  (fun k st=>∃(b:Nat) (r':List Nat),st=l2I R v0 (.slice (some ⟨il,ol,none⟩) 33 cl) (mrs H) i q b k (mH H z r' l) []/\SubInv k q r r' b)
  (Q:=fun st=>∃(b:Nat) (r':List Nat),st=l2I R v0 (.slice (some ⟨il,ol,none⟩) 33 cl) (mrs H) i q b 33 (mH H z r' l) [(58,.bool false)]/\SubInv 33 q r r' b)
  33 (s:=l2I R v0 (.slice (some ⟨il,ol,none⟩) 33 cl) (mrs H) i q 0 0 (mH H z r l) []) ⟨0,r,rfl,⟨hlen,hlt,by omega,by simp[num],rfl⟩⟩
  (fun k st U hs=>by
   obtain⟨b,r',rfl,E⟩:=hs
   obtain⟨y,J⟩:∃y,r'[k]?=some y:=⟨_,Qg (by rw[E.len];omega)⟩
   obtain⟨lk,O⟩:∃y,ord33[k]?=some y:=⟨_,Qg (by rw[Gm];omega)⟩
   exact⟨_,tY I E U Y J O,_,_,rfl,(E.step U J O).1⟩)
  (fun st hs=>by
   obtain⟨b,r',rfl,E⟩:=hs
   refine⟨_,?_,b,r',rfl,E⟩
   simp only[l2I,De,Qv,quiet,cF,J0,QW,↓pQ,reduceCtorEq,seval,-Qa,cL])
 refine⟨b,r',h1,E.len,E.lt,?_⟩
 have he:=E.eq
 rw[Qo qr,Qo (by rw[E.len];omega),Qo (by rw[Gm];omega),Fu]at he
 have Z:=num_lt E.lt
 rw[E.len]at Z
 rcases ZP b with hb|hb
 ·subst hb;omega
 ·have:1*256^33<=b*256^33:=ZG _ hb
  omega
def xw{y:Nat}(hlen:r.length=33)(J:r[32]?=some x)(I:r[31]?=some y):(x*256+y)/17*ell<=num 256 r:=by
 have Y:ell<=17*256^31:=ww
 have U:(x*256+y)/17*ell<=(x*256+y)/17*(17*256^31):=XU _ Y
 rw[<-ZI]at U
 have h3:(x*256+y)/17*17*256^31<=(x*256+y)*256^31:=ZG _ (Nat.div_mul_le_self _ _)
 have O:num 256 r=num 256 (r.take 31)+y*256^31+x*256^32:=by
  have E:=JY (B:=256) J
  rw[Qo qr,JY I]at E
  exact E
 rw[O]
 have Z:(x*256+y)*256^31=x*256^32+y*256^31:=by rw[Zl,ZI,<-Nat.pow_succ']
 omega
def l3I(R v0 sl rs:Value)(i:Int)(h:List Ob)(ex:Env):St:=⟨[(0,v0),(2,R),(3,rs),(4,sl),(5,.int .i64 i)]++ex,h,[]⟩
def rs_sl(hlen:r.length=33):Sl .i64 (mH H z r l) (mrs H) r:=by
 have:=Sl.mk (k := .i64) (H:=mH H z r l) (id:=H.length+1) (off:=0) (c:=33) (o:={c:=ns .i64 r}) (l:=r) (by simp[mH,liveAt]) (by simp[QA]) (fun i x E=>by rw[QH];exact Z4 E)
 rwa[hlen]at this
def tX{v0:Value}(U:∀r,Sl .i64 (mH H z r l) (.slice (some ⟨il,ol,none⟩) 33 cl) ord33) :
  ∀(N:Nat) (r:List Nat) (ex:Env),num 256 r=N->r.length=33->(∀x∈r,x<256)->∃r' I,Q4 T H.length (.loop Dd) (l3I R v0 (.slice (some ⟨il,ol,none⟩) 33 cl) (mrs H) i (mH H z r l) ex)=some (.exit 4,l3I R v0 (.slice (some ⟨il,ol,none⟩) 33 cl) (mrs H) i (mH H z r' l) I) /\
   r'.length=33/\(∀x∈r',x<256)/\num 256 r'=num 256 r%ell:=by
 intro N
 induction N using Nat.strongRecOn with
 |_ N ih =>
  intro r ex hN hlen hlt
  have hless:=Aa (rs_sl (H:=H) (z:=z) (l:=l) hlen) (U r) hlen Gm ww ww hlt A0
  rw[Fu]at hless
  by_cases hc:num 256 r<ell
  ·rw[decide_eq_true hc]at hless
   refine⟨r,[(45,.bool false)],?_,hlen,hlt,(Q6 hc).symm⟩
   rw[Jf]
   simp only[l3I,Dd,Qv,quiet,cF,J0,QW,↓pQ,reduceCtorEq,seval,-Qa,cL,hless]
  ·rw[decide_eq_false hc]at hless
   obtain⟨x,hx⟩:∃y,r[32]?=some y:=⟨_,Qg qr⟩
   obtain⟨y,Z⟩:∃y,r[31]?=some y:=⟨_,Qg qr⟩
   have hx':=hlt x (Qw hx)
   have hy':=hlt y (Qw Z)
   have O:=Z4 (k := .i64) hx
   have J:=Z4 (k := .i64) Z
   have w1:IntKind.i64.wrap ((x:Int)*256)=((x*256:Nat):Int):=by rw[show((x:Int)*256)=((x*256:Nat):Int) by omega];exact ZC qr
   have w2:IntKind.i64.wrap (((x*256:Nat):Int)+(y:Int))=((x*256+y:Nat):Int):=by rw[<-Kz];exact ZC qr
   have w3:IntKind.i64.wrap (((x*256+y:Nat):Int).tdiv 17)=(((x*256+y)/17:Nat):Int):=by
    rw[show((x*256+y:Nat):Int).tdiv 17=(((x*256+y)/17:Nat):Int) from rfl];exact ZC qr
   have hq:=xw hlen hx Z
   have key:∀q:Nat,0<q->q<2^20->q*ell<=num 256 r ->
     (∀st,Q4 T H.length (.block 6 (.loop De)) (l2I R v0 (.slice (some ⟨il,ol,none⟩) 33 cl) (mrs H) i q 0 0 (mH H z r l) [])=some (.normal,st)->Q4 T H.length Dd (l3I R v0 (.slice (some ⟨il,ol,none⟩) 33 cl) (mrs H) i (mH H z r l) ex)=some (.normal,st)) ->
     ∃r' I,Q4 T H.length (.loop Dd) (l3I R v0 (.slice (some ⟨il,ol,none⟩) 33 cl) (mrs H) i (mH H z r l) ex)=some (.exit 4,l3I R v0 (.slice (some ⟨il,ol,none⟩) 33 cl) (mrs H) i (mH H z r' l) I)/\r'.length=33/\(∀x∈r',x<256)/\num 256 r'=num 256 r%ell:=by
    intro q Y hq1 hq2 hbody
    obtain⟨b,r1,h1,h2,h3,h4⟩:=nJ (R:=R) (v0:=v0) (i:=i) U hq1 hlen hlt hq2
    have hpos:ell<=q*ell:=Nat.le_mul_of_pos_left ell Y
    have hell:=DJ
    obtain⟨r',I,g1,g2,g3,g4⟩:=ih (num 256 r1) qr r1 [(7,.int .i64 q),(8,.int .i64 b),(9,.int .i64 33),(58,.bool false)] rfl h2 h3
    refine⟨r',I,?_,g2,g3,?_⟩
    ·rw[Jf,hbody _ h1]
     exact g1
    ·rw[g4,h4]
     conv=>rhs;rw[show num 256 r=(num 256 r-q*ell)+q*ell by omega]
     rw[KJ]
   have hl33:r.length=33:=hlen
   by_cases Y:(x*256+y)/17<1
   ·have e1:((((x*256+y)/17:Nat):Int)<1)=True:=wr
    refine key 1 ww ww qr fun st E =>?_
    simp only[l2I,mrs,mH,Qp,Qn,KR]at E
    simp only[mrs,mH]at hless
    simp only[l3I,mrs,mH,Dd,Qv,quiet,cF,J0,QW,↓pQ,reduceCtorEq,seval,-Qa,cL,cJ,QV,hless,O,J,w1,w2,w3,e1,E]
   ·have e1:((((x*256+y)/17:Nat):Int)<1)=False:=ut
    refine key ((x*256+y)/17) qr qr hq fun st E =>?_
    simp only[l2I,mrs,mH,Qp,Qn]at E
    simp only[mrs,mH]at hless
    generalize(x*256+y)/17=qq at *
    simp only[l3I,mrs,mH,Dd,Qv,quiet,cF,J0,QW,↓pQ,reduceCtorEq,seval,-Qa,cL,cJ,QV,hless,O,J,w1,w2,w3,e1,E]
def l4I(R v0 sl rs:Value)(i k:Int)(h:List Ob)(ex:Env):St:=⟨[(0,v0),(2,R),(3,rs),(4,sl),(5,.int .i64 i),(6,.int .i64 k)]++ex,h,[]⟩
def nI{v0 sl:Value}(hlen:r.length=33) :
  ∃r',Q4 T H.length (.block 2 (.loop CM)) (l4I R v0 sl (mrs H) i 32 (mH H z r l) [])=some (.normal,l4I R v0 sl (mrs H) i 0 (mH H z r' l) [(25,.bool false)])/\r'.length=33/\∀t,t<32->r'[t+1]?=r[t]? := by
 obtain⟨st,h1,r',rfl,E,I⟩:=QM (T:=T) (base:=H.length) (id:=2) (body:=CM)
  (fun j st=>∃r':List Nat,st=l4I R v0 sl (mrs H) i ((32-j:Nat):Int) (mH H z r' l) []/\r'.length=33/\(∀t,t<=32-j->r'[t]?=r[t]?)/\∀t,32-j<=t->t<32->r'[t+1]?=r[t]?)
  (Q:=fun st=>∃r':List Nat,st=l4I R v0 sl (mrs H) i 0 (mH H z r' l) [(25,.bool false)]/\r'.length=33/\∀t,t<32->r'[t+1]?=r[t]?)
  32 (s:=l4I R v0 sl (mrs H) i 32 (mH H z r l) []) ⟨r,rfl,hlen,fun _ _=>rfl,fun t h1 E=>by omega⟩
  (fun j st hj hs=>by
   obtain⟨r',rfl,E,I,O⟩:=hs
   obtain⟨m,hm⟩:∃m,32-j=m+1:=⟨31-j,by omega⟩
   have Z:32-(j+1)=m:=qr
   rw[hm]at I O
   rw[hm,Z]
   obtain⟨y,hy⟩:∃y,r[m]?=some y:=⟨_,Qg qr⟩
   have Y:r'[m]?=some y:=by rw[I m qr];exact hy
   have U:=Z4 (k := .i64) Y
   refine⟨_,?_,r'.set (m+1) y,rfl,by rw[Qr];exact E,fun t ht=>by rw[Ql qr];exact I t qr,fun t h5 h6 =>?_⟩
   ·have e1:((0:Int)<((m+1:Nat):Int))=True:=wr
    have e2:((m:Int)<(33:Int))=True:=wr
    have e3:(((m+1:Nat):Int)<(33:Int))=True:=wr
    have w1:IntKind.i64.wrap (((m+1:Nat):Int)-1)=(m:Int):=by rw[show((m+1:Nat):Int)-1=(m:Int) by omega];exact ZC qr
    have e5:m+1+1<=33:=qr
    have J:=JL .i64 r' (m+1) y
    generalize hk:((m+1:Nat):Int)=k1 at *
    have hkn:k1.toNat=m+1:=qr
    have e4:((0:Int)<=k1)=True:=wr
    simp only[l4I,mH,mrs,CM,Qv,quiet,cF,J0,QW,↓pQ,reduceCtorEq,seval,-Qa,cL,cJ,QV,e1,e2,e3,e4,w1,U,hkn,QA,E,e5,J]
   ·by_cases ht:t=m
    ·subst ht
     rw[Qu qr,hy]
    ·rw[Ql qr]
     exact O t qr h6)
  (fun st hs=>by
   obtain⟨r',rfl,E,I,O⟩:=hs
   refine⟨_,?_,r',rfl,E,fun t ht=>O t qr ht⟩
   simp only[l4I,CM,Qv,quiet,cF,J0,QW,↓pQ,reduceCtorEq,seval,-Qa,cL,Qs])
 exact⟨r',h1,E,I⟩
def rj(h:r.length=33)(I:r'.length=33)(E:∀t,t<32->r'[t+1]?=r[t]?):r'.set 0 x=x::r.take 32:=by
 apply ZE
 intro t
 rcases t with _|t
 ·rw[Qu qr];rfl
 ·rw[Ql qr,JI,QN]
  by_cases ht:t<32
  ·rw[if_pos ht,E t ht]
  ·rw[if_neg ht,QE qr]
def wz{V:Nat}(hlen:r.length=33)(hlt:∀x∈r,x<256)(hn:num 256 r=V%ell):r[32]?=some 0/\r.take 32=dig 256 32 (V%ell):=by
 have Z:V%ell<256^32:=QJ (Q3 _ DJ) pc
 obtain⟨x,J⟩:∃y,r[32]?=some y:=⟨_,Qg qr⟩
 have I:=JY (B:=256) J
 rw[Qo qr,hn]at I
 have E:x=0:=by
  rcases ZP x with h|h
  ·exact h
  ·have:1*256^32<=x*256^32:=ZG _ h
   omega
 subst E
 refine⟨J,?_⟩
 rw[KA,ZM]at I
 have Y:(r.take 32).length=32:=by rw[Q0];omega
 have O:=YN (B:=256) ww (l:=r.take 32) fun y U=>hlt y (QG U)
 rw[Y]at O
 rw[I]
 exact O.symm
def tV{i:Nat}(I:∀r,Sl .i64 (mH H z r l) (.slice (some ⟨il,ol,none⟩) 33 cl) ord33)(J:∀r,Sl .i64 (mH H z r l) (.slice (some ⟨id,off,none⟩) n c) ds)
 (hN:n<2^40) (hi:ds[i]?=some x) (hx:x<256) (hlen:r.length=33) (hlt:∀x∈r,x<256) (hn:num 256 r=num 256 (ds.drop (i+1))%ell) :
    ∃r',Q4 T H.length CL (l3I R (.slice (some ⟨id,off,none⟩) n c) (.slice (some ⟨il,ol,none⟩) 33 cl) (mrs H) i (mH H z r l) [])=some (.normal,l3I R (.slice (some ⟨id,off,none⟩) n c) (.slice (some ⟨il,ol,none⟩) 33 cl) (mrs H) ((i:Int)-1) (mH H z r' l) []) /\
      r'.length=33/\(∀x∈r',x<256)/\num 256 r'=num 256 (ds.drop i)%ell:=by
  obtain⟨Y,h1,g1,g2⟩:=nI (H:=H) (R:=R) (v0 := .slice (some ⟨id,off,none⟩) n c) (sl := .slice (some ⟨il,ol,none⟩) 33 cl) (z:=z) (l:=l) (i:=i) hlen
  have hsh:=rj (x:=x) hlen g1 g2
  have hr2len:(x::r.take 32).length=33:=by rw[Zt,Q0];omega
  have hr2lt:∀y∈x::r.take 32,y<256:=by
    intro y hy
    rcases J8.1 hy with h|h
    · omega
    · exact hlt y (QG h)
  obtain⟨r',ex',h3,k1,k2,k3⟩:=tX (H:=H) (R:=R) (v0 := .slice (some ⟨id,off,none⟩) n c) (i:=i) I _ (x::r.take 32) [] rfl hr2len hr2lt
  refine⟨r',?_,k1,k2,?_⟩
  · obtain⟨o,Z,hv,O,hc⟩:=AD (J Y)
    have hin:i<n:=by rw[O];exact(Qf.1 hi).1
    have U:=hc i x hi
    have e1:((0:Int)<=(i:Int))=True:=wr
    have e2:((i:Int)<(n:Int))=True:=wr
    have w1:IntKind.i64.wrap ((i:Int)-1)=(i:Int)-1:=Zd qr qr
    have E:=JL .i64 Y 0 x
    rw[hsh]at E
    simp only[l4I,l3I,mH,mrs,Qp,Qn]at h1 h3 Z ⊢
    simp only[CL,Qv,quiet,cF,J0,QW,↓pQ,reduceCtorEq,seval,-Qa,cL,cJ,QV,e1,e2,w1,h1,Z,hv,U,E,QA,g1,Jl,h3]
  · obtain⟨h32,ht⟩:=wz hlen hlt hn
    have hd:ds.drop i=x::ds.drop (i+1):=by
      have:=(Qf.1 hi)
      rw[J4 this.1,this.2]
    rw[k3,hd,num,num,ht,RF]
    rw[Ti,VV,Vu,<-VV,<-Ti]
def l0I(R:Value)(rs out:Value)(i:Int)(h:List Ob)(ex:Env):St:=⟨[(2,R),(3,rs),(11,out),(12,.int .i64 i)]++ex,h,[]⟩
def nK(hlen:r.length=33)(hlt:∀x∈r,x<256) :
  Q4 T H.length (.block 10 (.loop CN)) (l0I R (mrs H) (.pointer (H.length+(l.length+2):Nat)) 0 (mH H z r (l++[{c:=u8s (dig 256 32 0)}])) []) =
   some (.normal,l0I R (mrs H) (.pointer (H.length+(l.length+2):Nat)) 32 (mH H z r (l++[{c:=u8s (r.take 32)}])) [(86,.bool false)]):=by
 obtain⟨st,h1,k,rfl,J,I⟩:=QM (T:=T) (base:=H.length) (id:=10) (body:=CN)
  (fun i st=>∃k:List Nat,st=l0I R (mrs H) (.pointer (H.length+(l.length+2):Nat)) i (mH H z r (l++[{c:=u8s k}])) []/\k.length=32/\∀t,t<i->k[t]?=r[t]?)
  (Q:=fun st=>∃k:List Nat,st=l0I R (mrs H) (.pointer (H.length+(l.length+2):Nat)) 32 (mH H z r (l++[{c:=u8s k}])) [(86,.bool false)]/\k.length=32/\∀t,t<32->k[t]?=r[t]?)
  32 (s:=l0I R (mrs H) (.pointer (H.length+(l.length+2):Nat)) 0 (mH H z r (l++[{c:=u8s (dig 256 32 0)}])) []) ⟨_,rfl,Ze _ _ _,fun t ht=>by omega⟩
  (fun i st hi hs=>by
   obtain⟨k,rfl,J,I⟩:=hs
   obtain⟨x,Y⟩:∃y,r[i]?=some y:=⟨_,Qg qr⟩
   have U:=hlt x (Qw Y)
   have O:=Z4 (k := .i64) Y
   have e1:((i:Int)<32)=True:=wr
   have e2:((i:Int)<(33:Int))=True:=wr
   have e3:((i:Int)<(32:Int))=True:=wr
   have w1:IntKind.i64.wrap ((i:Int)+1)=((i+1:Nat):Int):=ZC (n:=i+1) qr
   have w2:=LP U
   have e5:i+1<=32:=qr
   have E:=Xg k i x
   refine⟨_,?_,k.set i x,rfl,by rw[Qr];exact J,fun t ht =>?_⟩
   ·simp only[l0I,mH,mrs,CN,Qv,quiet,cF,J0,QW,↓pQ,reduceCtorEq,seval,-Qa,cL,cJ,QV,e1,e2,e3,w1,w2,O,Qq,J,e5,E]
   ·by_cases Z:t=i
    ·subst Z
     rw[Qu qr,Y]
    ·rw[Ql qr]
     exact I t qr)
  (fun st hs=>by
   obtain⟨k,rfl,J,I⟩:=hs
   refine⟨_,?_,k,rfl,J,I⟩
   simp only[l0I,CN,Qv,quiet,cF,J0,QW,↓pQ,reduceCtorEq,seval,-Qa,cL])
 have hk:k=r.take 32:=by
  apply ZE
  intro t
  rw[QN]
  by_cases ht:t<32
  ·rw[if_pos ht,I t ht]
  ·rw[if_neg ht,QE qr]
 rw[<-hk]
 exact h1
def dt(hsd:Sl .i64 H (.slice (some ⟨id,off,none⟩) n c) ds)(hN:n<2^40)(hlt:∀x∈ds,x<256) :
  ∃l,Zp T 155 [.slice (some ⟨id,off,none⟩) n c] H=some (.agg (u8s (dig 256 32 (num 256 ds%ell))).toArray,H++l,[]):=by
 have hz:Qc 32 (Value.int .u8 0)=u8s (dig 256 32 0):=rfl
 have Y:(Qc 33 [Value.int .i64 0]).flatten=ns .i64 (Qc 33 0):=rfl
 have f0:fillL [Value.int .i64 0] [(0,1,.int .i64 0)]=some [.int .i64 0]:=rfl
 have f32:fillL (u8s (dig 256 32 0)) []=some (u8s (dig 256 32 0)):=rfl
 have hnl:n=ds.length:=(AD hsd).choose_spec.2.2.1
 obtain⟨s,l0,ho,hg⟩:=Az (H++[{c:=u8s (dig 256 32 0)},{c:=ns .i64 (Qc 33 0)}])
 obtain⟨s',H',M,ha,J,hM,hL,hK⟩:=Yk (x:=0) (bytes:=8) hg wd (by rw[Dy];decide) ww
 obtain⟨l,rfl⟩:=XI (H:=H++[{c:=u8s (dig 256 32 0)},{c:=ns .i64 (Qc 33 0)}]) hL (fun i hi=>by rw[hK i hi,Qb hi])
 have hm:Qz H.length [] M=[]:=QC fun i hi=>by have:=hM i hi;simp at this;omega
 obtain⟨il,ol,cl,E,hrow⟩:=J.sl.row (by simp[Dy])
 have hil:H.length+2<=il:=by
  cases J with
  |own h _ _=>cases E;simpa using h
  |new h _ _=>cases E;simpa using h
 have hs33:(ordL++[0]).length=33:=Gm
 rw[hs33]at E
 have Z:Sl .i64 (mH H (dig 256 32 0) (Qc 33 0) l) (.slice (some ⟨il,ol,none⟩) 33 cl) ord33:=by
  have:=J.sl
  rw[E]at this
  have e:H++[{c:=u8s (dig 256 32 0)},{c:=ns .i64 (Qc 33 0)}]++l=mH H (dig 256 32 0) (Qc 33 0) l:=by
   rw[Qx];rfl
  rw[e]at this
  exact this
 have hsl:∀r,Sl .i64 (mH H (dig 256 32 0) r l) (.slice (some ⟨il,ol,none⟩) 33 cl) ord33:=fun r=>nB rfl qr Z
 have hsd':∀r,Sl .i64 (mH H (dig 256 32 0) r l) (.slice (some ⟨id,off,none⟩) n c) ds:=fun r=>hsd.app
 have hslA:∀r,Sl .i64 (mH H (dig 256 32 0) r (l++[])) (.slice (some ⟨il,ol,none⟩) 33 cl) ord33:=fun r=>by rw[QF];exact hsl r
 have w0:IntKind.i64.wrap ((n:Int)-1)=(n:Int)-1:=Zd qr qr
 obtain⟨st,hb,r,rfl,k1,U,I⟩:=QM (T:=T) (base:=H.length) (id:=0) (body:=CL)
  (fun j st=>∃r:List Nat,st=l3I (.pointer H.length) (.slice (some ⟨id,off,none⟩) n c) (.slice (some ⟨il,ol,none⟩) 33 cl) (mrs H) ((n:Int)-1-j) (mH H (dig 256 32 0) r l) []/\r.length=33/\(∀x∈r,x<256)/\num 256 r=num 256 (ds.drop (n-j))%ell)
  (Q:=fun st=>∃r:List Nat,st=l3I (.pointer H.length) (.slice (some ⟨id,off,none⟩) n c) (.slice (some ⟨il,ol,none⟩) 33 cl) (mrs H) (-1) (mH H (dig 256 32 0) r l) [(21,.bool false)]/\r.length=33/\(∀x∈r,x<256)/\num 256 r=num 256 ds%ell)
  n (s:=l3I (.pointer H.length) (.slice (some ⟨id,off,none⟩) n c) (.slice (some ⟨il,ol,none⟩) 33 cl) (mrs H) ((n:Int)-1) (mH H (dig 256 32 0) (Qc 33 0) l) []) ⟨Qc 33 0,by rw[show((n:Int)-1-((0:Nat):Int))=(n:Int)-1 by omega],by simp,by decide,by rw[ZH qr];decide⟩
  (fun j st hj hs=>by
   obtain⟨r,rfl,k1,U,I⟩:=hs
   obtain⟨i,hi⟩:∃i,n-j=i+1:=⟨n-j-1,by omega⟩
   obtain⟨x,hx⟩:∃y,ds[i]?=some y:=⟨_,Qg qr⟩
   rw[hi]at I
   obtain⟨r',g1,g2,g3,g4⟩:=tV (R := .pointer H.length) hsl hsd' hN hx (hlt x (Qw hx)) k1 U I
   rw[show(n:Int)-1-j=(i:Int) by omega]
   refine⟨_,g1,r',?_,g2,g3,?_⟩
   ·rw[show(n:Int)-1-((j+1:Nat):Int)=(i:Int)-1 by omega]
   ·rw[show n-(j+1)=i by omega];exact g4)
  (fun st hs=>by
   obtain⟨r,rfl,k1,U,I⟩:=hs
   rw[Qs,Jt]at I
   refine⟨_,?_,r,rfl,k1,U,I⟩
   have e:((0:Int) <= -1)=False:=ww
   rw[show(n:Int)-1-n = -1 by omega]
   simp only[l3I,CL,Qv,quiet,cF,J0,QW,↓pQ,reduceCtorEq,seval,-Qa,cL,e])
 have O:=nK (H:=H) (R := .pointer H.length) (z:=dig 256 32 0) (l:=l) k1 U
 rw[(wz k1 U I).2]at O
 have hl32:(dig 256 32 (num 256 ds%ell)).length=32:=Ze _ _ _
 have hl0:(dig 256 32 0).length=32:=rfl
 generalize dig 256 32 (num 256 ds%ell)=K at *
 simp only[l3I,l0I,mrs,mH,Qp,Qn,Qx,E,Qh,Zt,Z9,QH,QQ,QV,Zx]at hb O ha ho
 apply Zk
 rw[Q9 (fn:=a43) rfl]
 simp only[a43,Qv,quiet,cF,J0,QW,↓pQ,reduceCtorEq,seval,-Qa,cL,cJ,QV,hz,Y,f0,f32,ho,ha,hm,w0,hb,l3I,mH,mrs,O,l0I,hl0,hl32,Qq,QA]
 rfl
def caI(a d:List Nat)(i:Int)(ex:Env):St:=⟨[(1,.pointer (0:Nat)),(3,.slice (1:Nat) 32 32),(4,.int .i64 i)]++ex,[{c:=u8s a},{c:=ns .i64 d}],[]⟩
def pB{d:List Nat}(la:a.length=32)(xa:∀x∈a,x<256)(hd:d.length=32) :
  Q4 T 0 (.block 0 (.loop CS)) (caI a d 0 [])=some (.normal,caI a a 32 [(7,.bool false)]):=by
 obtain⟨st,h1,E,rfl,O,J⟩:=QM (T:=T) (base:=0) (id:=0) (body:=CS)
  (fun i st=>∃E:List Nat,st=caI a E i []/\E.length=32/\∀t,t<i->E[t]?=a[t]?)
  (Q:=fun st=>∃E:List Nat,st=caI a E 32 [(7,.bool false)]/\E.length=32/\∀t,t<32->E[t]?=a[t]?)
  32 (s:=caI a d 0 []) ⟨d,rfl,hd,fun t ht=>by omega⟩
  (fun i st hi hs=>by
   obtain⟨E,rfl,O,J⟩:=hs
   obtain⟨x,Y⟩:∃y,a[i]?=some y:=⟨_,Qg qr⟩
   have hx':=xa x (Qw Y)
   have U:=ZN Y
   have I:=JL .i64 E i x
   have e1:((i:Int)<32)=True:=wr
   have e2:((i:Int)<(32:Int))=True:=wr
   have w1:IntKind.i64.wrap ((i:Int)+1)=((i+1:Nat):Int):=ZC (n:=i+1) qr
   have w3:IntKind.i64.wrap (x:Int)=(x:Int):=ZC qr
   have e8:i+1<=32:=qr
   refine⟨_,?_,E.set i x,rfl,by rw[Qr];exact O,fun t ht =>?_⟩
   ·simp only[caI,CS,Qv,quiet,cF,J0,QW,↓pQ,reduceCtorEq,seval,-Qa,cL,cJ,QV,e1,e2,e8,w1,w3,U,I,QA,O]
   ·by_cases Z:t=i
    ·subst Z
     rw[Qu qr,Y]
    ·rw[Ql qr]
     exact J t qr)
  (fun st hs=>by
   obtain⟨E,rfl,O,J⟩:=hs
   refine⟨_,?_,E,rfl,O,J⟩
   simp only[caI,CS,Qv,quiet,cF,J0,QW,↓pQ,reduceCtorEq,seval,-Qa,cL])
 have:E=a:=by
  apply ZE
  intro t
  by_cases ht:t<32
  ·exact J t ht
  ·rw[QE qr,QE qr]
 rw[this]at h1
 exact h1
def RZ(J:a.length=32)(O:∀x∈a,x<256):∃l,Zp T 49 [.agg (u8s a).toArray] []=some (.bool (decide (num 256 a<ell)),l,[]):=by
 have E:(Qc 32 [Value.int .i64 0]).flatten=ns .i64 (Qc 32 0):=rfl
 have Y:=pB J O (d:=Qc 32 0) wd
 obtain⟨s,l,U,hg⟩:=Az [{c:=u8s a},{c:=ns .i64 a}]
 have I:=Sl.mk (k := .i64) (H:=[{c:=u8s a},{c:=ns .i64 a}]++l) (id:=1) (off:=0) (c:=32) (o:={c:=ns .i64 a}) (l:=a) (by simp[liveAt]) (by simp[QA]) (fun i x Z=>by rw[QH];exact Z4 Z)
 rw[J]at I
 have hless:=Aa I hg.sl J Dy ww ww O bI
 rw[N9]at hless
 simp only[caI,Qp,Qn]at Y U hless
 apply Zk
 rw[Q9 (fn:=a22) rfl]
 simp only[a22,Qv,quiet,cF,J0,QW,↓pQ,reduceCtorEq,seval,-Qa,cL,cJ,QV,E,Y,U,hless]
 rfl
end
end Go.Ev.YtkbifkljlfmeiaaGreat
namespace Go.Ev
section
variable{bs:List Nat}
def Jx(bs:List Nat):Value := .string ⟨(bs.map UInt8.ofNat).toArray⟩
def Dj:vLen true (Jx bs)=some (.int .i64 bs.length):=by simp[Jx,vLen,ByteArray.size]
def PA{i x:Nat}(h:bs[i]?=some x)(O:x<256):Ge (Jx bs) (.int .i64 i)=some (.int .u8 (x:Nat)):=by
 have J:((bs.map UInt8.ofNat).toArray.toList)[i]?=some (UInt8.ofNat x):=by simp[h]
 have I:((0:Int)<=(i:Int)):=qr
 have E:(UInt8.ofNat x).toNat=x:=by rw[UInt8.toNat_ofNat'];omega
 simp only[Jx,Ge,I,if_true,Vb,J,Qk,E]
def Ym:∀(bs:List Nat),XS (u8s bs)=some (bs.map UInt8.ofNat)
 |[]=>rfl
 |x::r=>by
  have:=Ym r
  simp only[u8s,J9,XS,Vb]at this ⊢
  rw[this];rfl
def pY{H:List Ob}{v:Value}(h:Sl .u8 H v bs):LN H v=some (Jx bs):=by
 have I:=h.elems
 have E:ns .u8 bs=u8s bs:=rfl
 cases h with
 |nil=>rfl
 |mk a b c=>simp only[LN,I,E,Qk,Ym];rfl
end
end Go.Ev
namespace Go.Ev.YtkbifkljlfmeiaaGreat
open Go Go.Ev
set_option maxRecDepth 100000
section
attribute [local congr] Jw JD Jv JE Jk
section
variable{bs:List Nat}
def rrI(bs d:List Nat)(n:Nat)(i:Int)(ex:Env):St:=⟨[(0,Jx bs),(2,.pointer (0:Nat)),(3,.slice (1:Nat) n n),(4,.int .i64 i)]++ex,[{c:=u8s (dig 256 32 0)},{c:=ns .i64 d}],[]⟩
def jR{d:List Nat}{n:Nat}(hn:bs.length=n)(hN:n<2^40)(xb:∀x∈bs,x<256)(hd:d.length=n) :
  Q4 T 0 (.block 0 (.loop CU)) (rrI bs d n 0 [])=some (.normal,rrI bs bs n n [(11,.bool false)]):=by
 obtain⟨st,h1,E,rfl,U,O⟩:=QM (T:=T) (base:=0) (id:=0) (body:=CU)
  (fun i st=>∃E:List Nat,st=rrI bs E n i []/\E.length=n/\∀t,t<i->E[t]?=bs[t]?)
  (Q:=fun st=>∃E:List Nat,st=rrI bs E n n [(11,.bool false)]/\E.length=n/\∀t,t<n->E[t]?=bs[t]?)
  n (s:=rrI bs d n 0 []) ⟨d,rfl,hd,fun t ht=>by omega⟩
  (fun i st hi hs=>by
   obtain⟨E,rfl,U,O⟩:=hs
   obtain⟨x,hx⟩:∃y,bs[i]?=some y:=⟨_,Qg qr⟩
   have Z:=xb x (Qw hx)
   have Y:=PA hx Z
   have I:=JL .i64 E i x
   have J:=Dj (bs:=bs)
   rw[hn]at J
   have e1:((i:Int)<(n:Int))=True:=wr
   have w1:IntKind.i64.wrap ((i:Int)+1)=((i+1:Nat):Int):=ZC (n:=i+1) qr
   have w3:IntKind.i64.wrap (x:Int)=(x:Int):=ZC qr
   have e8:i+1<=n:=qr
   refine⟨_,?_,E.set i x,rfl,by rw[Qr];exact U,fun t ht =>?_⟩
   ·simp only[rrI,CU,Qv,quiet,cF,J0,QW,↓pQ,reduceCtorEq,seval,-Qa,cL,cJ,QV,J,Y,e1,e8,w1,w3,I,QA,U]
   ·by_cases hti:t=i
    ·subst hti
     rw[Qu qr,hx]
    ·rw[Ql qr]
     exact O t qr)
  (fun st hs=>by
   obtain⟨E,rfl,U,O⟩:=hs
   have J:=Dj (bs:=bs)
   rw[hn]at J
   refine⟨_,?_,E,rfl,U,O⟩
   simp only[rrI,CU,Qv,quiet,cF,J0,QW,↓pQ,reduceCtorEq,seval,-Qa,cL,J])
 have:E=bs:=by
  apply ZE
  intro t
  by_cases ht:t<n
  ·exact O t ht
  ·rw[QE qr,QE qr]
 rw[this]at h1
 exact h1
def Pp(n:Nat):(Qc n [Value.int .i64 0]).flatten=ns .i64 (Qc n 0):=by
 induction n with
 |zero=>rfl
 |succ n E=>rw[Xr,QO,E,Xr];rfl
def I8{n:Nat}(hn:bs.length=n)(O:n<2^40)(I:∀x∈bs,x<256):∃l,Zp T 112 [Jx bs] []=some (.agg (u8s (rd bs)).toArray,l,[]):=by
 have hz:Qc 32 (Value.int .u8 0)=u8s (dig 256 32 0):=rfl
 have J:=Dj (bs:=bs)
 rw[hn]at J
 have U:=jR hn O I (d:=Qc n 0) wd
 have E:=Sl.mk (k := .i64) (H:=[{c:=u8s (dig 256 32 0)},{c:=ns .i64 bs}]) (id:=1) (off:=0) (c:=n) (o:={c:=ns .i64 bs}) (l:=bs) (by simp[liveAt]) (by simp[QA]) (fun i x Z=>by rw[QH];exact Z4 Z)
 rw[hn]at E
 obtain⟨l,hm⟩:=dt E O I
 rw[xq]at hm
 have Y:((n:Int)*((8:Nat):Int)<=2^47)=True:=wr
 simp only[Xo,WL]at Y
 simp only[rrI,Qp,Qn,Zx]at U hm
 apply Zk
 rw[Q9 (fn:=a18) rfl]
 simp only[a18,Qv,quiet,cF,J0,QW,↓pQ,reduceCtorEq,seval,-Qa,cL,cJ,QV,hz,J,Y,Pp,U,hm,Qq,PR,Ze]
 rfl
end
end
section
open Go Go.Ev Go.Proofs
def ktab {n : Nat} {a : AFun} (e : ((Tryz.prog.funcs[n]?).map fun fn => (compFun Tryz.prog fn, fn.name == "runtime.NumGoroutine")) = some (some a.strip, false)) : ∃ fn, Tryz.prog.funcs[n]? = some fn ∧ compFun Tryz.prog fn = some a.strip ∧ (fn.name == "runtime.NumGoroutine") = false := by
 cases h:Tryz.prog.funcs[n]? with
 |none=>rw[h]at e;cases e
 |some fn =>
  rw[h]at e
  have e:=JJ e
  exact⟨fn,rfl,congrArg Prod.fst e,congrArg Prod.snd e⟩
def aB(args:Array Value)(w:World):(callFunc 173 args).run Tryz.prog w=(((do
  let (x, y, c) ← Extern.MathBitsCarry.three "Add64" args
  pure (Extern.MathBitsCarry.pair ((x+y+c)%Extern.MathBitsCarry.m64) ((x+y+c)/Extern.MathBitsCarry.m64))):Sem Value).run Tryz.prog w).andThen fun v w'=>.ok (.value v) w' :=
 run_callFunc_extern (e:=fun args=>do
  let (x, y, c) ← Extern.MathBitsCarry.three "Add64" args
  pure (Extern.MathBitsCarry.pair ((x+y+c)%Extern.MathBitsCarry.m64) ((x+y+c)/Extern.MathBitsCarry.m64))) Tryz.func173 (by kernel_rfl) (by kernel_rfl) (by kernel_rfl) (by kernel_rfl) args w
def df(P:Program)(w:World)(x y c:Int)(hc:c.toNat<=1):(((do
  let (x, y, c) ← Extern.MathBitsCarry.three "Add64" [Value.int .u64 x, .int .u64 y, .int .u64 c].toArray
  pure (Extern.MathBitsCarry.pair ((x+y+c)%Extern.MathBitsCarry.m64) ((x+y+c)/Extern.MathBitsCarry.m64))):Sem Value).run P w)=.ok (.tuple #[.int .u64 ((x.toNat+y.toNat+c.toNat)%18446744073709551616:Nat),.int .u64 ((x.toNat+y.toNat+c.toNat)/18446744073709551616:Nat)]) w:=by
 have hc':¬c.toNat>1:=qr
 have e : Extern.MathBitsCarry.three "Add64" [Value.int .u64 x, .int .u64 y, .int .u64 c].toArray = (if c.toNat > 1 then (do unsupported (.noEntry ("extern/math/bits." ++ "Add64" ++ ": a carry that is neither 0 nor 1")); pure (x.toNat, y.toNat, c.toNat)) else pure (x.toNat, y.toNat, c.toNat) : Sem (Nat × Nat × Nat)) := by
  rfl
 rw[e,if_neg hc']
 rfl
def wS(f:Nat)(args:List Value)(v:Value)(h:T.ext f args=some v):(∀ρ,VRel ρ v v)/\∀w,(callFunc f args.toArray).run Tryz.prog w=.ok (.value v) w:=by
 have E:uO f args=some v:=h
 unfold uO at E
 split at E
 ·split at E
  ·rename_i hc
   cases E
   refine⟨fun ρ=>VRel.tuple (.cons (.same rfl) (.cons (.same rfl) .nil)),fun w =>?_⟩
   rw[aB,df _ _ _ _ _ hc]
   rfl
  ·cases E
 ·cases E
def wa:TabOk Tryz.prog T:=by
 refine⟨fun f af h =>?_,fun f args v _ h _=>wS f args v h⟩
 have E:fnS f=some af:=h
 unfold fnS at E
 split at E<;>cases E<;>exact ktab (by kernel_rfl)
def mixed:Tryz.prog.follows .mixedOrders=true:=by kernel_rfl
end
end Go.Ev.YtkbifkljlfmeiaaGreat
namespace Go.Ev
open Go.RowKit Go.WideShapes Go.ChangeShapes
variable{w:World}{base:Nat}{t e:TypeId}
def open_ints{P:Program}{r:Reach}{v:Value}{n:Nat}{k:IntKind}(ht:(match P.underlying t with|some (.struct _)|some (.array _ _)=>true|_=>false)=true)(hc:P.cellsOf t=n)(I:P.cellTypes P.depth t=some (Qc n e))(he:P.underlying e=some (.int k))
 (h:Value.okWide P w r base t v):∃l:List Int,v=.agg (l.map fun x=>Value.int k x).toArray/\l.length=n/\∀x∈l,k.min<=x/\x<=k.max:=by
  have Z:∃cs,v=.agg cs/\cs.size=P.cellsOf t/\Row.okWide P w r base t cs:=by
    unfold Value.okWide at h
    split at ht
    · rename_i e;rw[e]at h;exact h
    · rename_i e;rw[e]at h;exact h
    · cases ht
  obtain⟨cs,rfl,U,ts,O,-,Y⟩:=Z
  rw[hc]at U
  rw[I]at O
  cases O
  have JP:∀(i:Nat) (v:Value),cs[i]?=some v->∃x:Int,v=Value.int k x/\k.min<=x/\x<=k.max:=by
    intro i v hv
    obtain⟨u,g1,J⟩:=Y i v hv
    have hu:u=e:=List.eq_of_mem_replicate (Qw g1)
    subst hu
    simp only[Cell.okWide,Cell.ok,he]at J
    cases v<;>try(exact J.elim)
    · rename_i k x
      obtain⟨rfl,g3,g4⟩:=J
      exact⟨x,rfl,g3,g4⟩
  refine⟨cs.toList.map fun v=>match v with | .int _ n=>n|_=>0,?_,by simp[U],?_⟩
  · congr 1
    apply Array.ext_getElem?
    intro i
    simp only[List.map_map,List.getElem?_toArray,J5,ZQ]
    cases hv:cs[i]? with
    |none=>rfl
    |some v =>
      obtain⟨x,rfl,E⟩:=JP i v hv
      simp
  · intro x E
    simp only[JN]at E
    obtain⟨v,hv,rfl⟩:=E
    obtain⟨i,hi⟩:=List.mem_iff_getElem?.1 hv
    rw[ZQ]at hi
    obtain⟨x,rfl,E⟩:=JP i v hi
    exact E
def Ru:∀(l:List Value),(∀v∈l,∃x:Nat,v=Value.int .u8 (x:Nat)/\x<256)->∃a:List Nat,l=u8s a/\∀x∈a,x<256
 |[],_=>⟨[],rfl,by simp⟩
 |v::l,h=>by
  obtain⟨x,rfl,I⟩:=h v wd
  obtain⟨a,rfl,ha⟩:=Ru l fun v hv=>h v (List.mem_cons_of_mem _ hv)
  exact⟨x::a,rfl,fun y E=>(J8.1 E).elim (fun e=>e▸I) (ha y)⟩
def mE{P:Program}{r:Reach}{d:TypeId}{v:Value}{n m:Nat}(ht:(match P.underlying t with|some (.struct _)|some (.array _ _)=>true|_=>false)=true)(hc:P.cellsOf t=n+(2+m))(hts:P.cellTypes P.depth t=some (Qc n e++(d::d::Qc m e)))(he:P.underlying e=some (.int .u8))(hd:P.underlying d=some (.int .u32))
 (h:Value.okWide P w r base t v):∃(a:List Nat) (i j:Nat) (b:List Nat),v=.agg (u8s a++(.int .u32 (i:Nat)::.int .u32 (j:Nat)::u8s b)).toArray/\a.length=n/\b.length=m/\(∀x∈a,x<256)/\(∀x∈b,x<256)/\i<2^32/\j<2^32:=by
  have h':∃cs,v=.agg cs/\cs.size=P.cellsOf t/\Row.okWide P w r base t cs:=by
    unfold Value.okWide at h
    split at ht
    · rename_i e;rw[e]at h;exact h
    · rename_i e;rw[e]at h;exact h
    · cases ht
  obtain⟨cs,rfl,h1,ts,h2,-,h3⟩:=h'
  rw[hc]at h1
  rw[hts]at h2
  cases h2
  have hb:∀(i:Nat) (v:Value),cs[i]?=some v->(Qc n e++(d::d::Qc m e))[i]?=some e->∃x:Nat,v=Value.int .u8 (x:Nat)/\x<256:=by
    intro i v hv hi
    obtain⟨u,g1,J⟩:=h3 i v hv
    rw[Q6 (by have:=(XT.1 hv).1;simp;omega)]at g1
    have hu:u=e:=JJ (g1.symm.trans hi)
    subst hu
    simp only[Cell.okWide,Cell.ok,he]at J
    cases v<;>try(exact J.elim)
    · rename_i k x
      obtain⟨rfl,g3,g4⟩:=J
      have I:(0:Int)<=x:=g3
      have g4':x<=255:=g4
      exact⟨x.toNat,by rw[Ef I],by omega⟩
  have hw:∀(i:Nat) (v:Value),cs[i]?=some v->(Qc n e++(d::d::Qc m e))[i]?=some d->∃x:Nat,v=Value.int .u32 (x:Nat)/\x<2^32:=by
    intro i v hv hi
    obtain⟨u,g1,J⟩:=h3 i v hv
    rw[Q6 (by have:=(XT.1 hv).1;simp;omega)]at g1
    have hu:u=d:=JJ (g1.symm.trans hi)
    subst hu
    simp only[Cell.okWide,Cell.ok,hd]at J
    cases v<;>try(exact J.elim)
    · rename_i k x
      obtain⟨rfl,g3,g4⟩:=J
      have I:(0:Int)<=x:=g3
      have g4':x<=4294967295:=g4
      exact⟨x.toNat,by rw[Ef I],by omega⟩
  have get:∀i,i<n+(2+m)->∃v,cs[i]?=some v:=fun i hi=>⟨cs[i]'qr,Array.getElem?_eq_getElem qr⟩
  have ll:cs.toList.length=n+(2+m):=by simpa using h1
  obtain⟨v1,U⟩:=get n qr
  obtain⟨v2,O⟩:=get (n+1) qr
  obtain⟨i,rfl,hi⟩:=hw n v1 U (by rw[Qd wd];simp)
  obtain⟨j,rfl,hj⟩:=hw (n+1) v2 O (by rw[Qd wd];simp)
  obtain⟨a,ha,xa⟩:=Ru (cs.toList.take n) fun v hv=>by
    obtain⟨k,E⟩:=Xe hv
    rw[QN]at E
    split at E
    · rename_i Y
      rw[ZQ]at E
      exact hb k v E (by rw[Qb (by simpa using Y)];simp[Y])
    · cases E
  obtain⟨b,Z,xb⟩:=Ru (cs.toList.drop (n+2)) fun v hv=>by
    obtain⟨k,E⟩:=Xe hv
    rw[Zf,ZQ]at E
    have hlt:=(XT.1 E).1
    refine hb _ v E ?_
    rw[Qd (by simp;omega),List.length_replicate,show n+2+k-n=k+2 by omega,JI,JI,List.getElem?_replicate,if_pos qr]
  refine⟨a,i,j,b,?_,?_,?_,xa,xb,hi,hj⟩
  · congr 1
    rw[<-ha,<-Z]
    apply Array.ext'
    rw[List.toList_toArray]
    conv=>lhs;rw[<-Z7 n cs.toList]
    congr 1
    have c1:cs.toList[n]?=some (.int .u32 (i:Nat)):=by rw[ZQ];exact U
    have c2:cs.toList[n+1]?=some (.int .u32 (j:Nat)):=by rw[ZQ];exact O
    obtain⟨q1,q2⟩:=Qf.1 c1
    obtain⟨q3,q4⟩:=Qf.1 c2
    rw[J4 q1,q2,J4 q3,q4]
  · have:=congrArg zV ha
    rw[Q0,ll,Qq]at this
    omega
  · have:=congrArg zV Z
    rw[List.length_drop,ll,Qq]at this
    omega
end Go.Ev
namespace Go.Ev
variable{f b:Nat}{args:List Value}{v:Value}
def n_add(a b:Nat):(a:Int)+(b:Int)=((a+b:Nat):Int):=(Kz a b).symm
def n_mul(a b:Nat):(a:Int)*(b:Int)=((a*b:Nat):Int):=(Jy a b).symm
def yh(n a:Nat):(no_index (@OfNat.ofNat Int n instOfNat))+(a:Int)=((n+a:Nat):Int):=(Kz n a).symm
def yi(n a:Nat):(a:Int)+(no_index (@OfNat.ofNat Int n instOfNat))=((a+n:Nat):Int):=(Kz a n).symm
def yg(n a:Nat):(no_index (@OfNat.ofNat Int n instOfNat))*(a:Int)=((n*a:Nat):Int):=(Jy n a).symm
def yf(n a:Nat):(a:Int)*(no_index (@OfNat.ofNat Int n instOfNat))=((a*n:Nat):Int):=(Jy a n).symm
def B1(a b:Nat):Bi (a:Int) (b:Int)=((a/b:Nat):Int):=by
 rw[JT _ (Bh _)];rfl
def tw(a n:Nat):Bi (a:Int) (no_index (@OfNat.ofNat Int n instOfNat))=((a/n:Nat):Int):=B1 a n
def ye(a n:Nat):Int.tdiv (a:Int) (no_index (@OfNat.ofNat Int n instOfNat))=((a/n:Nat):Int):=rfl
def yd(a n:Nat):Int.tmod (a:Int) (no_index (@OfNat.ofNat Int n instOfNat))=((a%n:Nat):Int):=rfl
def YJ(a:Nat):IntKind.u64.wrap (a:Int)=((a%18446744073709551616:Nat):Int):=by rw[Wb];omega
def bN(a:Nat):IntKind.u32.wrap (a:Int)=((a%4294967296:Nat):Int):=by rw[wrap_u32];omega
def n_w16(a:Nat):IntKind.u16.wrap (a:Int)=((a%65536:Nat):Int):=by rw[gK];omega
def Uk(a:Nat):IntKind.u8.wrap (a:Int)=((a%256:Nat):Int):=by rw[wrap_u8];omega
def IW(a b:Nat):IntKind.u64.wrap ((a:Int)-(b:Int))=(((a+(18446744073709551616-b%18446744073709551616))%18446744073709551616:Nat):Int):=by rw[Wb];omega
def nk(n b:Nat):IntKind.u64.wrap ((no_index (@OfNat.ofNat Int n instOfNat))-(b:Int))=(((n+(18446744073709551616-b%18446744073709551616))%18446744073709551616:Nat):Int):=IW n b
def nj(a n:Nat):IntKind.u64.wrap ((a:Int)-(no_index (@OfNat.ofNat Int n instOfNat)))=(((a+(18446744073709551616-n%18446744073709551616))%18446744073709551616:Nat):Int):=IW a n
def A5(w a:Nat):BitVec.ofInt w (a:Int)=BitVec.ofNat w a:=by simp
def n_and(k:IntKind)(E:k.signed=false)(a b:Nat):Z3 .and k (a:Int) (b:Int)=(((a%2^k.bits)&&&(b%2^k.bits):Nat):Int):=by
 simp only[Z3,A5]
 rw[BitVec.toNat_and,BitVec.toNat_ofNat,BitVec.toNat_ofNat,Xm E (Nat.and_lt_two_pow _ (Q3 _ (Xi ww)))]
def n_or(k:IntKind)(E:k.signed=false)(a b:Nat):Z3 .or k (a:Int) (b:Int)=(((a%2^k.bits)|||(b%2^k.bits):Nat):Int):=by
 simp only[Z3,A5]
 rw[BitVec.toNat_or,BitVec.toNat_ofNat,BitVec.toNat_ofNat,Xm E (Nat.or_lt_two_pow (Q3 _ (Xi ww)) (Q3 _ (Xi ww)))]
def U9(k:IntKind)(E:k.signed=false)(w a:Nat)(hw:w<=k.bits):Z3 .and k (a:Int) ((2^w-1:Nat):Int)=((a%2^w:Nat):Int):=by
 have I:(2:Nat)^w<=2^k.bits:=Zy ww hw
 have J:0<(2:Nat)^w:=Xi ww
 rw[n_and k E,Q6 (a:=2^w-1) qr,Nat.and_two_pow_sub_one_eq_mod,YA _ (Nat.pow_dvd_pow 2 hw)]
def n_m32(a:Nat):Z3 .and .u64 (a:Int) 4294967295=((a%4294967296:Nat):Int):=U9 .u64 rfl 32 a ww
def n_m51(a:Nat):Z3 .and .u64 (a:Int) 2251799813685247=((a%2251799813685248:Nat):Int):=U9 .u64 rfl 51 a ww
def n_m1(a:Nat):Z3 .and .u64 (a:Int) 1=((a%2:Nat):Int):=U9 .u64 rfl 1 a ww
def n_m1b(a:Nat):Z3 .and .u8 (a:Int) 1=((a%2:Nat):Int):=U9 .u8 rfl 1 a ww
def n_m7b(a:Nat):Z3 .and .u8 (a:Int) 127=((a%128:Nat):Int):=U9 .u8 rfl 7 a ww
def xM:(2:Int)^min 32 IntKind.u64.bits=((4294967296:Nat):Int):=rfl
def xL:(2:Int)^min 51 IntKind.u64.bits=((2251799813685248:Nat):Int):=rfl
def xN:(2:Int)^min 13 IntKind.u64.bits=((8192:Nat):Int):=rfl
def p8_7:(2:Int)^min 7 IntKind.u8.bits=((128:Nat):Int):=rfl
def Yi{a n:Nat}(h:a<2^n):(b*2^n)|||a=b*2^n+a:=by
 rw[Zw,VL h]
def Bz(k:IntKind):ns k []=[]:=rfl
def Yy(k:IntKind)(x:Nat)(r:List Nat):ns k (x::r)=.int k (x:Nat)::ns k r:=rfl
def Ty{w m q s y M:Nat}(hq:q<m)(hs:s<w)(hM:M<2^(w*q+s))(hy:y*2^s<2^w) :
  (dig (2^w) m M).set q ((dig (2^w) m M).getD q 0|||y*2^s)=dig (2^w) m (M+y*2^(w*q+s)):=by
 have hB:(2^w)^q=2^(w*q):=by rw[<-Jj]
 have I:0<(2^w:Nat)^q:=Xi (Xi ww)
 have E:(2:Nat)^(w*q+s)=2^s*(2^w)^q:=by rw[JU,hB,Zw]
 have hdiv:M/(2^w)^q<2^s:=by rw[R5 I,<-E];exact hM
 have hsw:(2:Nat)^s<=2^w:=Zy ww qr
 have J:M/(2^w)^q+y*2^s<2^w:=by
  have O:(2:Nat)^w=2^(w-s)*2^s:=by rw[<-JU];congr 1;omega
  have Z:y<2^(w-s):=by
   rw[O]at hy
   exact Nat.lt_of_mul_lt_mul_right hy
  have Y:(y+1)*2^s<=2^(w-s)*2^s:=ZG _ Z
  rw[Zl,Xa,<-O]at Y
  omega
 apply Gu (by rw[Qr,Ze])
 intro i hi
 by_cases U:i=q
 ·subst U
  rw[Qu (by rw[Ze];exact hi),Qy,Kc hi]
  rw[E,<-ZI,Wu _ _ I]
  simp only[Option.getD_some]
  rw[Q6 (a:=M/_) qr,Q6 J,Nat.or_comm,Yi hdiv,Nat.add_comm]
 ·rw[Ql (Ne.symm U),Kc hi]
  congr 1
  by_cases hlt:i<q
  ·have O:(2^w:Nat)^q=2^w*(2^w)^(q-i-1)*(2^w)^i:=by
    rw[ZI,<-JU,<-Pg];congr 1;omega
   rw[E,O]
   rw[show y*(2^s*(2^w*(2^w)^(q-i-1)*(2^w)^i))=(y*2^s*(2^w)^(q-i-1)*2^w)*(2^w)^i by simp only[ZI,Xb,Zw]]
   rw[Wu _ _ (Xi (Xi ww)),KJ]
  ·have O:M+y*2^(w*q+s)<(2^w)^i:=by
    have Z:(2^w:Nat)^(q+1)<=(2^w)^i:=Zy (Xi ww) qr
    refine QJ ?_ Z
    have Y:(M/(2^w)^q+y*2^s+1)*(2^w)^q<=2^w*(2^w)^q:=ZG _ J
    have h4:=ZK M ((2^w)^q)
    have h5:=Q3 M I
    rw[Zn,Zw ((2^w)^q)]
    refine QJ ?_ Y
    rw[E,<-ZI,Zl,Zl,Xa,Zw (M/(2^w)^q)]
    omega
   rw[Xk O,Xk qr]
def Zo(T:Tab)(f:Nat)(args:List Value):Option Value:=(Zp T f args []).map (·.1)
def Ur{T:Tab}{l:List Ob}{M:List Nat}(h:Zp T f args []=some (v,l,M)):Zo T f args=some v:=by simp[Zo,h]
def X6{T:Tab}(h:∃l,Zp T f args []=some (v,l,[])):Zo T f args=some v:=by
 obtain⟨l,h⟩:=h
 exact Ur h
def Zb {T:Tab} {fn:AFun} {v:Value} {l:List Ob} (hf:T.fn f=some fn) (h:((Q4 T ([]:List Ob).length fn.body ⟨Qv 0 args,[],[]⟩).bind fun xs=>match xs.1 with
  |.exit _=>none
  |_=>(Z1 xs.2.env xs.2.h fn.results).bind fun vs=>some (packed vs,xs.2.h,xs.2.log))=some (v,l,[])):Zo T f args=some v:=X6 ⟨l,by rw[Q9 hf];exact h⟩
def JR{T:Tab}{q:Bool}{f:Nat}{xs:List Operand}{d:Option Nat}{r:List AOper}{e:Env}{H:List Ob}{l:List Nat}:steps T b q (⟨d,.call f xs true,none⟩::r) ⟨e,H,l⟩=(Xf e xs).bind fun args=>gate (args.all rf=true) ((Zo T f args).bind fun v=>gate (rf v=true) (steps T b q r ⟨e.put d v,H,l⟩)):=by
 rw[J0]
 cases Xf e xs with
 |none=>rfl
 |some args =>
  simp only[Qk,Zo]
  cases Zp T f args []<;>rfl
def cU:=Qi (Qi (Qi (Qi (@n_add) (Qi (@n_mul) (@yh))) (Qi (@yi) (Qi (@yg) (@yf)))) (Qi (Qi (@B1) (Qi (@tw) (@ye))) (Qi (Qi (@yd) (@YJ)) (Qi (@bN) (@n_w16))))) (Qi (Qi (Qi (@Uk) (Qi (@IW) (@nk))) (Qi (@nj) (Qi (@n_m32) (@n_m51)))) (Qi (Qi (@n_m1) (Qi (@n_m1b) (@n_m7b))) (Qi (Qi (@xM) (@xL)) (Qi (@xN) (@p8_7)))))
end Go.Ev

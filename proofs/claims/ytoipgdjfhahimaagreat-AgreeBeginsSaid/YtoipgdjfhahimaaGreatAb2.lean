/- What the law leans on, part 2. -/
import Derived.Test.YtoipgdjfhahimaaGreatAb1
import Derived.SizedLaws
import Derived.ChangeArms
set_option linter.unusedSimpArgs false
set_option linter.unusedVariables false
set_option linter.defProp false
open And renaming intro -> Qi
open Array renaming getElem?_toList -> ZA
open Bool renaming and_eq_true -> ZY, and_self -> Fv, false_and -> As, false_eq_true -> ZM, not_false -> WN, not_true -> qd, true_and -> Fu
open Exists renaming intro -> Jg
open Int renaming cast_ofNat_Int -> JP, fdiv -> GA, fdiv_eq_ediv_of_nonneg -> JO, le_of_lt -> uR, le_refl -> Bj, natCast_nonneg -> G9, natCast_one -> Vd, natCast_zero -> QA, pow_pos -> zm, reduceAdd -> D0, reduceEq -> Zk, reduceGE -> R4, reduceGT -> R3, reduceLE -> Zf, reduceLT -> Ze, reduceMul -> Dz, reduceNeg -> Dy, reducePow -> UP, reduceSub -> Dx, reduceTDiv -> G8, reduceTMod -> Gz, reduceToNat -> QJ, toNat_natCast -> Vr
open List renaming all_cons -> KD, append_assoc -> Qt, append_nil -> QG, cons_append -> Qn, drop_drop -> XQ, drop_eq_getElem?_toList_append -> ZE, drop_of_length_le -> Zu, drop_zero -> ZS, ext_getElem? -> ZW, getD_eq_getElem?_getD -> QD, getElem?_append_left -> Qc, getElem?_append_right -> Qh, getElem?_cons_succ -> JU, getElem?_cons_zero -> Xx, getElem?_drop -> Zp, getElem?_eq_getElem -> Qf, getElem?_eq_none -> QI, getElem?_eq_some_iff -> Qg, getElem?_set_ne -> Qu, getElem?_set_self -> Qw, getElem?_take -> QW, getElem_mem -> U2, length_append -> Qj, length_cons -> Zv, length_nil -> ZT, length_set -> Q4, length_take -> Q3, mem_append -> QC, mem_of_getElem? -> Qo, mem_of_mem_take -> QP, nil_append -> Ql, reduceReplicate -> Qb, replicate -> Qa, replicate_succ -> XC, set_append_right -> ZV, take_add_one -> Zx, take_append_drop -> Zn, take_length -> YU, take_of_length_le -> Qm, take_zero -> Xi
open Nat renaming add_assoc -> Zb, add_mod -> Ap, add_mul -> Zl, add_zero -> Jl, div_add_mod -> Z5, div_div_eq_div_mul -> QV, div_le_self -> Jx, eq_zero_or_pos -> Jo, le_refl -> Qs, lt_irrefl -> We, lt_of_le_of_lt -> Jc, lt_of_lt_of_le -> QM, lt_or_ge -> ZL, min_eq_left -> Zw, mod_eq_of_lt -> Qv, mod_lt -> Q9, mod_mod -> Kl, mod_mod_of_dvd -> Ws, mod_mul_right_div_self -> Gx, mul_add -> YE, mul_assoc -> ZD, mul_comm -> Zm, mul_le_mul -> Xe, mul_le_mul_left -> XR, mul_le_mul_right -> Z9, mul_left_comm -> JM, mul_mod -> YD, mul_one -> Vn, not_lt_zero -> Yq, one_mul -> Xd, pow_add -> JI, pow_le_pow_right -> Zo, pow_mul -> Je, pow_succ -> Zj, reduceAdd -> QQ, reduceDiv -> Dw, reduceEqDiff -> QK, reduceLT -> Zd, reduceLeDiff -> U1, reduceMod -> Dv, reduceMul -> QT, reducePow -> Du, reduceSub -> QS, sub_self -> Q7, sub_zero -> KC, two_pow_add_eq_or_of_lt -> Y2, zero_add -> QL, zero_mul -> Vm
open Option renaming bind_eq_some_iff -> Qd, bind_some -> Qp, isNone_none -> Yg, isSome_none -> Wr
open Option.some renaming injEq -> Qk
namespace Go.Ev
section
variable{e:Env}
def gate{α:Type}(p:Prop)[Decidable p](x:Option α):Option α:=if p then x else none
theorem JX{α:Type}{p p':Prop}[Decidable p][Decidable p'](x:Option α)(h:∀_:Unit,p=p'):gate p x=gate p' x:=by
 have h:=h ();subst h;unfold gate;congr
theorem JE{α β:Type}{x y:Option α}(f:α->Option β)(h:∀_:Unit,x=y):x.bind f=y.bind f:=by rw[h ()]
theorem JW{α:Type}{c c':Prop}[Decidable c][Decidable c'](x y:α)(h:∀_:Unit,c=c'):(if c then x else y)=(if c' then x else y):=by
 have h:=h ();subst h;congr
theorem MQ{α:Type}(b:Bool)(x:Option α):(if b=true then none else x)=gate (b=false) x:=by cases b<;>rfl
theorem I8{α:Type}[Decidable True]{x:Option α}:gate True x=x:=by simp[gate]
def Hd{α:Type}(v:Value)(w:Bool)(x y:Option α):Option α:=match v with
 |.bool c=>if c=w then x else y
 |_=>none
def gd(w:Bool)(v:Value):Value:=match v with
 |.tuple _=>.bool (!w)
 |v=>v
theorem tf{w b:Bool}:gd w (.bool b)=.bool b:=Eq.trans rfl rfl
theorem gd_ut:gd true undef=.bool false:=Eq.trans rfl rfl
theorem gd_uf:gd false undef=.bool true:=Eq.trans rfl rfl
theorem Jz{α:Type}{v v':Value}(w:Bool)(x y:Option α)(h:∀_:Unit,v=v'):Hd v w x y=Hd v' w x y:=by rw[h ()]
def vq(t:Nat)(v:Option Value)(l:Env):Env:=match v with
 |some v=>(t,v)::l
 |none=>l
theorem nJ:Env.keep e []=[]:=rfl
theorem fk{t:Nat}{r:List Nat}:Env.keep e (t::r)=vq t (e.get t) (Env.keep e r):=rfl
theorem tn{T:Tab}{base:Nat}{c:Operand}{a b:ACode}{s:St}:Q0 T base (.cond c a b) s=(opd s.env c).bind fun v=>Hd v true (Q0 T base a s) (Q0 T base b s):=by
 rw[TY]
 cases opd s.env c with
 |none=>rfl
 |some v =>
  cases v<;>try rfl
  rename_i c
  cases c<;>rfl
def steps(T:Tab)(b:Nat)(q:Bool):List AOper->St->Option St
 |[],s=>some s
 |o::r,s=>match guardOf s.env o.guard with
  |some true=>(J9 T o.op s.env s.h).bind fun x=>if(q && !x.2.2.2.isEmpty)=true then none else steps T b q r ⟨s.env.put o.dst x.1,x.2.1,Q1 b s.log x.2.2.2⟩
  |some false=>steps T b q r ⟨s.env.put o.dst undef,s.h,s.log⟩
  |none=>none
end
section
variable{T:Tab}{b:Nat}{q:Bool}
section
variable{r:List AOper}{l:List Nat}{H:List Ob}{s:St}{es base id n off bytes:Nat}{e:Env}{x y:ACode}{o:AOp}
theorem He:∀(ops:List AOper) (s:St) (recs:List Rec),(evOps T b ops s recs).map (·.1)=steps T b false ops s
 |[],s,recs=>by rw[KU];rfl
 |o::r,s,recs=>by
  rw[XY]
  unfold steps
  cases hg:guardOf s.env o.guard with
  |none=>rfl
  |some g =>
   cases g with
   |false=>exact He r _ _
   |true =>
    cases hx:J9 T o.op s.env s.h with
    |none=>simp[hx]
    |some x =>
     simp only[hx,Qp,As,ZM,if_false]
     exact He r _ _
theorem UF:∀(ops:List AOper) (s:St) (recs:List Rec) (s':St),steps T b true ops s=some s'->(∀r∈recs,r.2=[])->∃recs',evOps T b ops s recs=some (s',recs')/\(∀r∈recs',r.2=[])/\recs'.length=recs.length+ops.length
 |[],s,recs,s',h,hr=>by
  simp only[steps,Qk]at h
  subst h
  exact⟨recs,KU,hr,rfl⟩
 |o::r,s,recs,s',h,hr=>by
  rw[XY]
  unfold steps at h
  cases hg:guardOf s.env o.guard with
  |none=>simp only[hg]at h;cases h
  |some g =>
   simp only[hg]at h
   cases g with
   |false =>
    obtain⟨recs',h1,h2,h3⟩:=UF r _ (recs++[(some [],[])]) s' h (fun x hx=>by
     rcases QC.1 hx with h|h
     ·exact hr x h
     ·simp at h;subst h;rfl)
    exact⟨recs',h1,h2,by rw[h3];simp;omega⟩
   |true =>
    cases hx:J9 T o.op s.env s.h with
    |none=>simp[hx]at h
    |some x =>
     simp only[hx,Qp]at h
     split at h
     ·cases h
     ·rename_i hq
      have hq':x.2.2.2=[]:=by simpa using hq
      obtain⟨recs',h1,h2,h3⟩:=UF r _ (recs++[(x.2.2.1,x.2.2.2)]) s' h (fun y hy=>by
       rcases QC.1 hy with h|h
       ·exact hr y h
       ·simp at h;subst h;exact hq')
      exact⟨recs',h1,h2,by rw[h3];simp;omega⟩
theorem fM{ops:List AOper}{keep:Option (List Nat)}{s:St}:Q0 T b (.region ops keep []) s=(steps T b false ops s).bind fun s'=>some (.normal,s'.after keep):=by
 rw[XE,<-He ops s []]
 cases evOps T b ops s []<;>rfl
def T8{α:Type}(x y:Option α):Option α:=match x with
 |some v=>some v
 |none=>y
theorem JD{α:Type}{x x':Option α}(y:Option α)(h:∀_:Unit,x=x'):T8 x y=T8 x' y:=by rw[h ()]
def quiet(T:Tab)(b:Nat)(ops:List AOper)(pairs:List (Nat×Nat))(s:St):Option St :=
 match(pairs.all fun p=>decide (p.1<ops.length)&&decide (p.2<ops.length))with
 |true=>steps T b true ops s
 |false=>none
theorem UY{recs:List Rec}(hr:∀r∈recs,r.2=[]):∀ {pairs:List (Nat×Nat)},(pairs.all fun p=>decide (p.1<recs.length)&&decide (p.2<recs.length))=true->ZC recs pairs=true
 |[],_=>rfl
 |(i,j)::ps,h=>by
  simp only[KD,ZY,decide_eq_true_eq]at h
  have ih:=UY hr (pairs:=ps) h.2
  simp only[ZC,KD,ZY]at ih ⊢
  refine⟨?_,ih⟩
  rw[Qf h.1.1,Qf h.1.2]
  simp only[Wj,hr _ (U2 h.1.1),hr _ (U2 h.1.2),List.isEmpty_nil,Bool.true_or,Fv]
def YM(T:Tab)(b:Nat)(c:ACode)(s:St):Option (AExit×St):=Q0 T b c s
theorem QZ{ops:List AOper}{keep:Option (List Nat)}{p:Nat×Nat}{ps:List (Nat×Nat)}{s:St}:Q0 T b (.region ops keep (p::ps)) s=T8 ((quiet T b ops (p::ps) s).bind fun s'=>some (.normal,s'.after keep)) (YM T b (.region ops keep (p::ps)) s):=by
 cases hq:quiet T b ops (p::ps) s with
 |none=>rfl
 |some s' =>
  simp only[Qp,T8]
  unfold quiet at hq
  split at hq
  ·rename_i hp
   obtain⟨recs,h1,h2,h3⟩:=UF ops s [] s' hq wd
   simp only[ZT,QL]at h3
   rw[XE,h1]
   simp only[Qp]
   rw[if_pos (UY h2 (by rw[h3];exact hp))]
  ·cases hq
theorem xd:steps T b q [] s=some s:=rfl
theorem od{d:Option Nat}{t:Nat}{w:Bool}{e:Env}:steps T b q (⟨d,o,some (t,w)⟩::r) ⟨e,H,l⟩=(e.get t).bind fun v=>Hd (gd w v) w (steps T b q (⟨d,o,none⟩::r) ⟨e,H,l⟩) (steps T b q r ⟨e.put d undef,H,l⟩):=by
 simp only[steps,guardOf]
 cases e.get t with
 |none=>rfl
 |some v =>
  cases v<;>try rfl
  all_goals first|(cases w<;>rfl)|(rename_i c;cases c<;>cases w<;>rfl)
theorem XW{d:Nat}{v:Option Value}(h:J9 T o e H=Jj H v):steps T b q (⟨some d,o,none⟩::r) ⟨e,H,l⟩=v.bind fun v=>steps T b q r ⟨(d,v)::e,H,l⟩:=by
 simp only[steps,guardOf,h,Jj]
 cases v<;>cases q<;>rfl
theorem fQ:Q0 T base (.block id (.seq x y)) s=(Q0 T base (.seq x y) s).bind fun r=>match r.1 with
  |.exit i=>if i=id then some (.normal,r.2)else some (.exit i,r.2)
  |z=>some (z,r.2):=Jt
theorem fS{ops:List AOper}{keep:Option (List Nat)}{pairs:List (Nat×Nat)}:Q0 T base (.block id (.region ops keep pairs)) s=(Q0 T base (.region ops keep pairs) s).bind fun r=>match r.1 with
  |.exit i=>if i=id then some (.normal,r.2)else some (.exit i,r.2)
  |z=>some (z,r.2):=Jt
theorem fV{c:Operand}:Q0 T base (.block id (.cond c x y)) s=(Q0 T base (.cond c x y) s).bind fun r=>match r.1 with
  |.exit i=>if i=id then some (.normal,r.2)else some (.exit i,r.2)
  |z=>some (z,r.2):=Jt
theorem fU:Q0 T base (.block id .skip) s=some (.normal,s):=by rw[Jt,Hi];rfl
theorem fW{id2:Nat}:Q0 T base (.block id (.block id2 x)) s=(Q0 T base (.block id2 x) s).bind fun r=>match r.1 with
  |.exit i=>if i=id then some (.normal,r.2)else some (.exit i,r.2)
  |z=>some (z,r.2):=Jt
def iC:Value->Value->Value->Option Value
 |.bool t,a,b=>some (if t then a else b)
 |_,_,_=>none
def vEq(ks:Option (List Bool))(neg:Bool)(x y:Value):Option Value :=
 (match ks,x,y with
  |some ks,.agg a,.agg b=>JA ks a.toList b.toList
  |none,.bool a,.bool b=>some (a==b)
  |_,_,_=>none).bind fun b=>some (.bool (if neg then !b else b))
def uW(k:IntKind):Value->Option Value
 |.int _ n=>some (.int k (k.wrap n))
 |_=>none
def iF(n:Option Nat)(off:Nat):Value->Option Value
 |.agg cs=>Jn n cs.toList off
 |_=>none
def Lb(n:Option Nat)(len es:Nat):Value->Value->Option Value
 |.agg cs,.int _ i=>if 0<=i/\i<len then Jn n cs.toList (i.toNat*es)else none
 |_,_=>none
def HD:Value->Value->Option Value
 |.string s,.int _ i=>if 0<=i then(s.data.toList[i.toNat]?).bind fun b=>some (.int .u8 b.toNat)else none
 |_,_=>none
def AH(off:Nat):Value->Option Value
 |.pointer (some a)=>some (.pointer (some (a.add off)))
 |_=>none
def AF(len es:Nat):Value->Value->Option Value
 |.pointer (some a),.int _ i=>if 0<=i/\i<len then some (.pointer (some (a.add (i.toNat*es))))else none
 |_,_=>none
def Nz(es:Nat):Value->Value->Option Value
 |.slice (some a) len _,.int _ i=>if 0<=i/\i<len then some (.pointer (some (a.add (i.toNat*es))))else none
 |_,_=>none
def RF(n es:Nat)(lo hi mx:Option Value):Value->Option Value
 |.pointer (some a)=>(J8 n n lo hi mx).bind fun r=>some (.slice (some (a.add (r.1*es))) (r.2.1-r.1) (r.2.2-r.1))
 |_=>none
def vSliceSl(H:List Ob)(es:Nat)(lo hi mx:Option Value):Value->Option Value
 |.slice (some a) len cap=>(J8 len cap lo hi mx).bind fun r=>(liveAt H a.block).bind fun o =>
    if o.exact\/¬o.own\/es<=o.es then some (.slice (some (a.add (r.1*es))) (r.2.1-r.1) (r.2.2-r.1))else none
 |.slice none 0 0=>(J8 0 0 lo hi mx).bind fun _=>some (.slice none 0 0)
 |_=>none
def RE(lo hi:Option Value):Value->Option Value
 |.string s=>(J8 s.size s.size lo hi none).bind fun r=>some (.string (s.extract r.1 r.2.1))
 |_=>none
def N0(i:Nat):Value->Option Value
 |.tuple vs=>vs.toList[i]?
 |_=>none
def FT:Value->Option Value
 |.pointer (some a)=>some (.pointer (some a))
 |_=>none
def uV(n:Nat):Value->Option Value
 |.slice (some a) len _=>if n<=len/\0<n then some (.pointer (some a))else none
 |_=>none
def vLen(str:Bool):Value->Option Value
 |.slice _ n _=>if str then none else some (.int .i64 n)
 |.string s=>if str then some (.int .i64 s.size)else none
 |_=>none
def Nx(H:List Ob)(n:Option Nat):Value->Option Value
 |.pointer (some a)=>(liveAt H a.block).bind fun o=>if a.spot.isNone then Jn n o.c a.off else none
 |_=>none
def vH(H:List Ob)(x:Value):Option Value:=match x with
 |.slice _ n _=>(elemsOf H 1 n x).bind fun cs=>(XO cs).bind fun l=>some (.string ⟨l.toArray⟩)
 |_=>none
theorem ti{x:Operand}{d:Nat}:steps T b q (⟨some d,.move x,none⟩::r) ⟨e,H,l⟩=(opd e x).bind fun v=>steps T b q r ⟨(d,v)::e,H,l⟩:=XW TR
theorem th{c x y:Operand}{d:Nat}{e:Env}:steps T b q (⟨some d,.pick c x y,none⟩::r) ⟨e,H,l⟩=(opd e c).bind fun c=>(opd e x).bind fun x=>(opd e y).bind fun y=>(iC c x y).bind fun v=>steps T b q r ⟨(d,v)::e,H,l⟩:=by
 rw[XW TQ]
 cases opd e c with
 |none=>rfl
 |some c =>
  cases opd e x with
  |none=>rfl
  |some x =>
   cases opd e y with
   |none=>rfl
   |some y=>cases c<;>cases q<;>rfl
theorem oq{zero:List Value}{d:Nat}:steps T b q (⟨some d,.alloc zero,none⟩::r) ⟨e,H,l⟩=steps T b q r ⟨(d,.pointer H.length)::e,H++[{c:=zero}],l⟩:=by
 simp only[steps,guardOf,WC,Qz,Qp,Env.put,Q1,Ob.fresh]
 cases q<;>rfl
theorem xu{x:Operand}{d:Nat}{e:Env}:steps T b q (⟨some d,.box x,none⟩::r) ⟨e,H,l⟩=(opd e x).bind fun v=>gate (Z7 v=true) (steps T b q r ⟨(d,.pointer H.length)::e,H++[{c:=v.cells.toList}],l⟩):=by
 simp only[steps,guardOf,CP,Qz,Env.put,Q1,Ob.fresh]
 cases opd e x with
 |none=>rfl
 |some v=>simp only[Qp,gate];split<;>cases q<;>rfl
theorem tk{n:Option Nat}{x:Operand}{d:Nat}{e:Env}{H:List Ob}:steps T b q (⟨some d,.load n x,none⟩::r) ⟨e,H,l⟩=(opd e x).bind fun a=>(Nx H n a).bind fun v=>steps T b q r ⟨(d,v)::e,H,l⟩:=by
 simp only[steps,guardOf,Vb,Qz,Env.put]
 cases opd e x with
 |none=>rfl
 |some v =>
  cases v<;>try rfl
  rename_i p
  cases p with
  |none=>rfl
  |some a =>
   simp only[Qp,Nx]
   cases liveAt H a.block with
   |none=>rfl
   |some o =>
    simp only[Qp]
    split
    ·cases Jn n o.c a.off<;>cases q<;>rfl
    ·rfl
def PW(H:List Ob)(n:Nat):Value->Value->Option (List Ob)
 |.pointer (some a),v=>if v.cells.size=n/\Z7 v=true then storeAt H a v.cells.toList else none
 |_,_=>none
def pC:Value->List Nat
 |.pointer (some a)=>[a.block]
 |_=>[]
theorem nZ{a x:Operand}{e:Env}{H:List Ob}:steps T b q (⟨none,.store n a x,none⟩::r) ⟨e,H,l⟩=(opd e a).bind fun a=>(opd e x).bind fun v=>(PW H n a v).bind fun H'=>gate (q=false) (steps T b q r ⟨e,H',Q1 b l (pC a)⟩):=by
 simp only[steps,guardOf,KB,Qz,Env.put]
 cases opd e a with
 |none=>rfl
 |some av =>
  cases opd e x with
  |none=>rfl
  |some v =>
   cases av<;>try rfl
   rename_i p
   cases p with
   |none=>rfl
   |some a =>
    simp only[Qp,PW,pC]
    split
    ·cases storeAt H a v.cells.toList<;>cases q<;>rfl
    ·rfl
theorem xz{op:BinOp}{x y:Operand}{d:Nat}{e:Env}:steps T b q (⟨some d,.bin op x y,none⟩::r) ⟨e,H,l⟩=(opd e x).bind fun x=>(opd e y).bind fun y=>(Ju op x y).bind fun v=>steps T b q r ⟨(d,v)::e,H,l⟩:=by
 rw[XW CR]
 cases opd e x<;>cases opd e y<;>cases q<;>rfl
theorem xq{ks:Option (List Bool)}{neg:Bool}{x y:Operand}{d:Nat}{e:Env}:steps T b q (⟨some d,.eqv ks neg x y,none⟩::r) ⟨e,H,l⟩=(opd e x).bind fun x=>(opd e y).bind fun y=>(vEq ks neg x y).bind fun v=>steps T b q r ⟨(d,v)::e,H,l⟩:=by
 rw[XW CO]
 cases opd e x<;>cases opd e y<;>cases q<;>rfl
theorem fs_un{op:UnOp}{x:Operand}{d:Nat}{e:Env}:steps T b q (⟨some d,.un op x,none⟩::r) ⟨e,H,l⟩=(opd e x).bind fun x=>(unV op x).bind fun v=>steps T b q r ⟨(d,v)::e,H,l⟩:=by
 rw[XW IF]
 cases opd e x<;>cases q<;>rfl
theorem tm{k:IntKind}{x:Operand}{d:Nat}{e:Env}:steps T b q (⟨some d,.conv k x,none⟩::r) ⟨e,H,l⟩=(opd e x).bind fun x=>(uW k x).bind fun v=>steps T b q r ⟨(d,v)::e,H,l⟩:=by
 rw[XW TV]
 cases opd e x<;>cases q<;>rfl
def Au(H:List Ob):Value->Option Value
 |.slice (some a) n c=>(liveAt H a.block).bind fun o=>if o.own=true/\a.spot.isNone=true then some (.slice (some a) n c)else none
 |_=>none
theorem fO{x:Operand}{d:Nat}{e:Env}{H:List Ob}:steps T b q (⟨some d,.convSl x,none⟩::r) ⟨e,H,l⟩=(opd e x).bind fun x=>(Au H x).bind fun v=>steps T b q r ⟨(d,v)::e,H,l⟩:=by
 simp only[steps,guardOf,FL,Qz,Env.put]
 cases opd e x with
 |none=>rfl
 |some v =>
  simp only[Qp]
  cases v with
  |slice a n c =>
   cases a with
   |none=>rfl
   |some a =>
    simp only[Au]
    cases liveAt H a.block with
    |none=>rfl
    |some o =>
     simp only[Qp]
     split<;>cases q<;>rfl
  |_=>rfl
theorem oe{n:Option Nat}{x:Operand}{d:Nat}{e:Env}:steps T b q (⟨some d,.field n off x,none⟩::r) ⟨e,H,l⟩=(opd e x).bind fun x=>(iF n off x).bind fun v=>steps T b q r ⟨(d,v)::e,H,l⟩:=by
 rw[XW MT]
 cases opd e x<;>cases q<;>rfl
theorem oc{n:Option Nat}{len:Nat}{x i:Operand}{d:Nat}{e:Env}:steps T b q (⟨some d,.index n len es x i,none⟩::r) ⟨e,H,l⟩=(opd e x).bind fun x=>(opd e i).bind fun i=>(Lb n len es x i).bind fun v=>steps T b q r ⟨(d,v)::e,H,l⟩:=by
 rw[XW MS]
 cases opd e x<;>cases opd e i<;>cases q<;>rfl
theorem OY{x i:Operand}{d:Nat}{e:Env}:steps T b q (⟨some d,.indexStr x i,none⟩::r) ⟨e,H,l⟩=(opd e x).bind fun x=>(opd e i).bind fun i=>(HD x i).bind fun v=>steps T b q r ⟨(d,v)::e,H,l⟩:=by
 rw[XW Gr]
 cases opd e x<;>cases opd e i<;>cases q<;>rfl
theorem om{zero:List Value}{ps:List (Nat×Nat×Operand)}{d:Nat}{e:Env}:steps T b q (⟨some d,.build zero ps,none⟩::r) ⟨e,H,l⟩=(Zq e ps).bind fun ps=>(fillL zero ps).bind fun cs=>steps T b q r ⟨(d,.agg cs.toArray)::e,H,l⟩:=by
 rw[XW WB]
 cases Zq e ps with
 |none=>rfl
 |some v=>simp only[Qp];cases fillL zero v<;>cases q<;>rfl
theorem FK{cells:List Value}{len:Nat}{ps:List (Nat×Nat×Operand)}{d:Nat}{e:Env}:steps T b q (⟨some d,.buildSlice cells len ps,none⟩::r) ⟨e,H,l⟩=(Zq e ps).bind fun ps=>(fillL cells ps).bind fun cs=>steps T b q r ⟨(d,.slice H.length len len)::e,H++[{c:=cs}],l⟩:=by
 simp only[steps,guardOf,UG,Qz,Env.put,Ob.fresh]
 cases Zq e ps with
 |none=>rfl
 |some v=>simp only[Qp];cases fillL cells v<;>cases q<;>rfl
theorem LP{x:Operand}{d:Nat}{e:Env}:steps T b q (⟨some d,.fieldAddr off x,none⟩::r) ⟨e,H,l⟩=(opd e x).bind fun x=>(AH off x).bind fun v=>steps T b q r ⟨(d,v)::e,H,l⟩:=by
 rw[XW BH]
 cases opd e x<;>cases q<;>rfl
theorem LO{len:Nat}{x i:Operand}{d:Nat}{e:Env}:steps T b q (⟨some d,.indexAddr len es x i,none⟩::r) ⟨e,H,l⟩=(opd e x).bind fun x=>(opd e i).bind fun i=>(AF len es x i).bind fun v=>steps T b q r ⟨(d,v)::e,H,l⟩:=by
 rw[XW BG]
 cases opd e x<;>cases opd e i<;>cases q<;>rfl
theorem aA{x i:Operand}{d:Nat}{e:Env}:steps T b q (⟨some d,.indexSl es x i,none⟩::r) ⟨e,H,l⟩=(opd e x).bind fun x=>(opd e i).bind fun i=>(Nz es x i).bind fun v=>steps T b q r ⟨(d,v)::e,H,l⟩:=by
 rw[XW Hg]
 cases opd e x<;>cases opd e i<;>cases q<;>rfl
theorem OW{x:Operand}{lo hi mx:Option Operand}{d:Nat}{e:Env}:steps T b q (⟨some d,.sliceArr n es x lo hi mx,none⟩::r) ⟨e,H,l⟩=(opd e x).bind fun x=>(ZI e lo).bind fun lo=>(ZI e hi).bind fun hi=>(ZI e mx).bind fun mx=>(RF n es lo hi mx x).bind fun v=>steps T b q r ⟨(d,v)::e,H,l⟩:=by
 rw[XW Gp]
 cases opd e x<;>cases ZI e lo<;>cases ZI e hi<;>cases ZI e mx<;>cases q<;>rfl
theorem aw{x:Operand}{lo hi mx:Option Operand}{d:Nat}{e:Env}{H:List Ob}:steps T b q (⟨some d,.sliceSl es x lo hi mx,none⟩::r) ⟨e,H,l⟩=(opd e x).bind fun x=>(ZI e lo).bind fun lo=>(ZI e hi).bind fun hi=>(ZI e mx).bind fun mx=>(vSliceSl H es lo hi mx x).bind fun v=>steps T b q r ⟨(d,v)::e,H,l⟩:=by
 simp only[steps,guardOf,Hf,Qz,Env.put]
 cases opd e x with
 |none=>rfl
 |some v =>
  cases ZI e lo with
  |none=>rfl
  |some lo =>
   cases ZI e hi with
   |none=>rfl
   |some hi =>
    cases ZI e mx with
    |none=>rfl
    |some mx =>
     simp only[Qp]
     cases v<;>try rfl
     rename_i base len cap
     cases base with
     |some a =>
      simp only[vSliceSl]
      cases J8 len cap lo hi mx with
      |none=>rfl
      |some r =>
       simp only[Qp]
       cases liveAt H a.block with
       |none=>rfl
       |some o=>simp only[Qp];split<;>cases q<;>rfl
     |none =>
      cases len<;>cases cap<;>try rfl
      simp only[vSliceSl]
      cases J8 0 0 lo hi mx<;>cases q<;>rfl
theorem OV{x:Operand}{lo hi:Option Operand}{d:Nat}{e:Env}:steps T b q (⟨some d,.sliceStr x lo hi,none⟩::r) ⟨e,H,l⟩=(opd e x).bind fun x=>(ZI e lo).bind fun lo=>(ZI e hi).bind fun hi=>(RE lo hi x).bind fun v=>steps T b q r ⟨(d,v)::e,H,l⟩:=by
 rw[XW Gn]
 cases opd e x<;>cases ZI e lo<;>cases ZI e hi<;>cases q<;>rfl
def iD(zero:List Value)(bytes:Nat)(id:Nat):Value->Value->Option (Value×Ob)
 |.int _ l,.int _ c=>if 0<=l/\l<=c/\c*bytes<=2^47/\0<bytes/\0<zero.length then some (.slice id l.toNat c.toNat,{c:=(Qa c.toNat zero).flatten})else none
 |_,_=>none
theorem LN{zero:List Value}{x y:Operand}{d:Nat}{e:Env}:steps T b q (⟨some d,.makeSlice zero bytes x y,none⟩::r) ⟨e,H,l⟩=(opd e x).bind fun x=>(opd e y).bind fun y=>(iD zero bytes H.length x y).bind fun v=>steps T b q r ⟨(d,v.1)::e,H++[v.2],l⟩:=by
 simp only[steps,guardOf,BF,Qz,Env.put]
 cases opd e x with
 |none=>rfl
 |some v =>
  cases opd e y with
  |none=>rfl
  |some w =>
   simp only[Qp]
   unfold iD
   cases v<;>try rfl
   cases w<;>try rfl
   dsimp only
   split<;>cases q<;>rfl
theorem aB{x:Operand}{i d:Nat}{e:Env}:steps T b q (⟨some d,.extract x i,none⟩::r) ⟨e,H,l⟩=(opd e x).bind fun x=>(N0 i x).bind fun v=>steps T b q r ⟨(d,v)::e,H,l⟩:=by
 rw[XW Hh]
 cases opd e x<;>cases q<;>rfl
theorem fN{fn:Fn}{fs cs:List Operand}{d:Nat}{e:Env}:steps T b q (⟨some d,.mkFunc fn fs cs,none⟩::r) ⟨e,H,l⟩=(Xb e fs).bind fun fs=>(Xb e cs).bind fun cs=>steps T b q r ⟨(d,.func fn fs.toArray cs.toArray)::e,H,l⟩:=by
 rw[XW D7]
 cases Xb e fs<;>cases Xb e cs<;>cases q<;>rfl
theorem OX{x:Operand}{d:Nat}{e:Env}:steps T b q (⟨some d,.nilCheck x,none⟩::r) ⟨e,H,l⟩=(opd e x).bind fun x=>(FT x).bind fun v=>steps T b q r ⟨(d,v)::e,H,l⟩:=by
 rw[XW Gq]
 cases opd e x<;>cases q<;>rfl
theorem tg{x:Operand}{d:Nat}{e:Env}:steps T b q (⟨some d,.s2ap n x,none⟩::r) ⟨e,H,l⟩=(opd e x).bind fun x=>(uV n x).bind fun v=>steps T b q r ⟨(d,v)::e,H,l⟩:=by
 rw[XW TP]
 cases opd e x<;>cases q<;>rfl
theorem xn{str:Bool}{x:Operand}{d:Nat}{e:Env}:steps T b q (⟨some d,.len str x,none⟩::r) ⟨e,H,l⟩=(opd e x).bind fun x=>(vLen str x).bind fun v=>steps T b q r ⟨(d,v)::e,H,l⟩:=by
 rw[XW CN]
 cases opd e x<;>cases q<;>rfl
def qo(id:Nat):Value->Option (Value×Ob)
 |.string s=>if s.size<=2^47 then some (.slice id s.size s.size,⟨s.data.toList.map fun b=>.int .u8 b.toNat,true,true,false,1⟩)else none
 |_=>none
theorem wZ{x:Operand}{d:Nat}{e:Env}:steps T b q (⟨some d,.s2b x,none⟩::r) ⟨e,H,l⟩=(opd e x).bind fun x=>(qo H.length x).bind fun v=>steps T b q r ⟨(d,v.1)::e,H++[v.2],l⟩:=by
 simp only[steps,guardOf,CM,Qz,Env.put,Ob.grown]
 cases opd e x with
 |none=>rfl
 |some v =>
  cases v<;>try rfl
  simp only[Qp,qo]
  split<;>cases q<;>rfl
theorem x7{x:Operand}{d:Nat}{e:Env}{H:List Ob}:steps T b q (⟨some d,.b2s x,none⟩::r) ⟨e,H,l⟩=(opd e x).bind fun x=>(vH H x).bind fun v=>steps T b q r ⟨(d,v)::e,H,l⟩:=by
 simp only[steps,guardOf,CS,Qz,Env.put]
 cases opd e x with
 |none=>rfl
 |some v =>
  cases v<;>try rfl
  rename_i base n cap
  simp only[Qp,vH]
  cases elemsOf H 1 n (.slice base n cap)with
  |none=>rfl
  |some cs =>
   simp only[Qp]
   cases XO cs<;>cases q<;>rfl
theorem gg{x y:Operand}{d:Nat}{e:Env}:steps T b q (⟨some d,.append es bytes x y,none⟩::r) ⟨e,H,l⟩=(opd e x).bind fun x=>(opd e y).bind fun y=>(Jw es bytes H x y).bind fun v=>gate ((q && !v.2.2.2.isEmpty)=false) (steps T b q r ⟨(d,v.1)::e,v.2.1,Q1 b l v.2.2.2⟩):=by
 simp only[steps,guardOf,MQ,D8,Qz,Env.put]
 cases opd e x<;>cases opd e y<;>cases q<;>rfl
def bp(H:List Ob)(es:Nat)(d s:Value):Option (Value×List Ob×List Nat):=match d with
 |.slice base dl _=>(lenV s).bind fun sl=>(elemsOf H es (min sl dl) s).bind fun cs=>match base with
   |some a=>(storeAt H a cs).bind fun H'=>some (.int .i64 (min sl dl:Nat),H',[a.block])
   |none=>if dl=0 then some (.int .i64 0,H,[])else none
 |_=>none
theorem tl{es:Nat}{x y:Operand}{d:Option Nat}{e:Env}{H:List Ob}:steps T b q (⟨d,.copy es x y,none⟩::r) ⟨e,H,l⟩=(opd e x).bind fun x=>(opd e y).bind fun y=>(bp H es x y).bind fun v=>gate ((q && !v.2.2.isEmpty)=false) (steps T b q r ⟨e.put d v.1,v.2.1,Q1 b l v.2.2⟩):=by
 simp only[steps,guardOf,MQ,TS,Qz]
 cases opd e x with
 |none=>rfl
 |some v =>
  cases opd e y with
  |none=>rfl
  |some s =>
   simp only[Qp]
   cases v<;>try rfl
   rename_i base dl cap
   unfold bp
   dsimp only
   cases lenV s with
   |none=>rfl
   |some sl =>
    simp only[Qp]
    cases elemsOf H es (min sl dl) s with
    |none=>rfl
    |some cs =>
     simp only[Qp]
     cases base with
     |none=>dsimp only;split<;>cases q<;>rfl
     |some a=>dsimp only;cases storeAt H a cs<;>cases q<;>rfl
theorem Jy{f:Nat}{xs:List Operand}{d:Option Nat}{e:Env}:steps T b q (⟨d,.call f xs true,none⟩::r) ⟨e,H,l⟩=(Xb e xs).bind fun args=>gate (args.all rf=true) ((Z6 T f args []).bind fun v=>gate (rf v.1=true) (steps T b q r ⟨e.put d v.1,H,l⟩)):=by
 simp only[steps,guardOf,VZ]
 cases Xb e xs with
 |none=>rfl
 |some args =>
  simp only[Qp]
  cases args.all rf with
  |false=>rfl
  |true =>
   simp only[if_true,I8]
   cases Z6 T f args []with
   |none=>rfl
   |some v =>
    simp only[Qp]
    cases rf v.1<;>cases q<;>rfl
theorem oh{f:Nat}{xs:List Operand}{d:Option Nat}{e:Env}{H:List Ob}:steps T b q (⟨d,.call f xs false,none⟩::r) ⟨e,H,l⟩=(Xb e xs).bind fun args=>(Z6 T f args H).bind fun v=>gate ((q && !v.2.2.isEmpty)=false) (steps T b q r ⟨e.put d v.1,v.2.1,Q1 b l v.2.2⟩):=by
 simp only[steps,guardOf,MQ,TW]
 cases Xb e xs with
 |none=>rfl
 |some args =>
  simp only[ZM,if_false,Qp]
  cases Z6 T f args H<;>cases q<;>rfl
def callee:Value->List Value->Option (Nat×List Value)
 |.func (.func f) first captured,args=>some (f,first.toList++args++captured.toList)
 |_,_=>none
theorem gr{f:Operand}{xs:List Operand}{e:Env}:J9 T (.callv f xs) e H=(opd e f).bind fun f=>(Xb e xs).bind fun args=>(callee f args).bind fun c=>(Z6 T c.1 c.2 H).bind fun r=>some (r.1,r.2.1,none,r.2.2):=by
 rw[J9.eq_def]
 dsimp only
 cases opd e f with
 |none=>rfl
 |some fv =>
  cases Xb e xs with
  |none =>
   cases fv<;>try rfl
   rename_i fn _ _
   cases fn<;>rfl
  |some args =>
   cases fv<;>try rfl
   rename_i fn _ _
   cases fn<;>rfl
theorem og{f:Operand}{xs:List Operand}{d:Option Nat}{e:Env}{H:List Ob}:steps T b q (⟨d,.callv f xs,none⟩::r) ⟨e,H,l⟩=(opd e f).bind fun f=>(Xb e xs).bind fun args=>(callee f args).bind fun c=>(Z6 T c.1 c.2 H).bind fun v=>gate ((q && !v.2.2.isEmpty)=false) (steps T b q r ⟨e.put d v.1,v.2.1,Q1 b l v.2.2⟩):=by
 simp only[steps,guardOf,MQ,gr]
 cases opd e f with
 |none=>rfl
 |some fv =>
  cases Xb e xs with
  |none=>rfl
  |some args =>
   simp only[Qp]
   cases callee fv args with
   |none=>rfl
   |some c=>simp only[Qp];cases Z6 T c.1 c.2 H<;>cases q<;>rfl
end
end
section
variable{H l:List Ob}{k:Nat}{o:Ob}{cs:List Value}
theorem hget0:(H++l)[H.length]?=l[0]? := by rw[Qh (Qs _),Q7]
theorem hgetK:(H++l)[H.length+k]?=l[k]? := by rw[Qh qr];congr 1;omega
theorem MP:(H++l).set H.length o=H++l.set 0 o:=by rw[ZV _ _ (Qs _),Q7]
theorem hsetK:(H++l).set (H.length+k) o=H++l.set k o:=by rw[ZV _ _ qr];congr 2;omega
theorem QH{v:List Value}(h:v.length=cs.length):splice cs 0 v=v:=by
 rw[Vh _ _ _ qr,Xi,Ql,QL,h,List.drop_length,QG]
theorem Sg{n:Nat}(h:cs.length=n):(cs.drop 0).take n=cs:=by rw[ZS,Qm qr]
theorem XZ:∀ {n:Nat} {p q:List Nat},p.length=n->q.length=n->JA (Qa n true) (u8s p) (u8s q)=some (p==q)
 |0,[],[],_,_=>rfl
 |n+1,x::p,y::q,hp,hq=>by
  have:=XZ (n:=n) (p:=p) (q:=q) (by simpa using hp) (by simpa using hq)
  simp only[u8s,List.map_cons,XC,JA,Hp,if_true,Qp]at this ⊢
  rw[this]
  simp only[Qp,List.cons_beq_cons]
  congr 2
  by_cases h:x=y
  ·subst h;simp
  ·have:¬((x:Int)=y):=qr
   rw[beq_eq_false_iff_ne.2 h,beq_eq_false_iff_ne.2 this]
theorem kQ(l:List Nat):rf (.agg (u8s l).toArray)=true:=by
 show(u8s l).toArray.toList.all Z4=true
 rw[show(u8s l).toArray.toList=u8s l from rfl]
 simp[u8s,Z4]
theorem bK(b:Bool):rf (.bool b)=true:=rfl
theorem pE(l:List Value):l.toArray.toList=l:=rfl
theorem Grown.len{k:IntKind}{B:Nat}{H:List Ob}{s:Value}{bs:List Nat}(h:Grown k B H s bs):vLen false s=some (.int .i64 bs.length):=by cases h<;>rfl
theorem Sl.len{k:IntKind}{H:List Ob}{s:Value}{bs:List Nat}(h:Sl k H s bs):vLen false s=some (.int .i64 bs.length):=by cases h<;>rfl
end
section
variable{e:Env}{H:List Ob}
section
variable{k j:IntKind}{a b i:Int}{o n es t off cap c id y:Nat}{v:Value}{x:Operand}{l:List Nat}{f:FuncId}{r:Env}{cs:Array Value}
theorem rV:opd e (.tmp t)=e.get t:=Eq.trans rfl rfl
theorem eD:opd e (.const v)=some v:=Eq.trans rfl rfl
theorem mB:opd e (.func f)=some (.func (.func f) #[] #[]):=Eq.trans rfl rfl
theorem mz:Xb e []=some []:=Eq.trans rfl rfl
theorem eC{r:List Operand}:Xb e (x::r)=(opd e x).bind fun v=>(Xb e r).bind fun vs=>some (v::vs):=Eq.trans rfl rfl
theorem Oq:ZI e none=some none:=Eq.trans rfl rfl
theorem Oo:ZI e (some x)=(opd e x).bind fun v=>some (some v):=Eq.trans rfl rfl
theorem L7:Zq e []=some []:=Eq.trans rfl rfl
theorem FD{r:List (Nat×Nat×Operand)}:Zq e ((o,n,x)::r)=(opd e x).bind fun v=>(Zq e r).bind fun vs=>some ((o,n,v)::vs):=Eq.trans rfl rfl
theorem te:Env.get ((t,v)::r) t=some v:=by simp[Env.get]
theorem nX{u:Nat}(h:(t=u)=False):Env.get ((u,v)::r) t=Env.get r t:=by simp[Env.get,h]
theorem qt{a b:Value}:iC (.bool true) a b=some a:=Eq.trans rfl rfl
theorem qu{a b:Value}:iC (.bool false) a b=some b:=Eq.trans rfl rfl
theorem Lf{ks:List Bool}{a b:Array Value}:vEq (some ks) false (.agg a) (.agg b)=(JA ks a.toList b.toList).bind fun c=>some (.bool c):=Eq.trans rfl rfl
theorem Mo{ks:List Bool}{a b:Array Value}:vEq (some ks) true (.agg a) (.agg b)=(JA ks a.toList b.toList).bind fun c=>some (.bool !c):=Eq.trans rfl rfl
theorem iG{a b:Bool}:vEq none false (.bool a) (.bool b)=some (.bool (a==b)):=Eq.trans rfl rfl
theorem dh{a b:Bool}:vEq none true (.bool a) (.bool b)=some (.bool !(a==b)):=Eq.trans rfl rfl
theorem dj{n:Int}:uW k (.int j n)=some (.int k (k.wrap n)):=Eq.trans rfl rfl
theorem PZ{n:Option Nat}:iF n off (.agg cs)=Jn n cs.toList off:=Eq.trans rfl rfl
theorem DF{n:Option Nat}{len:Nat}:Lb n len es (.agg cs) (.int k i)=gate (0<=i/\i<len) (Jn n cs.toList (i.toNat*es)):=Eq.trans rfl rfl
theorem Ny{s:ByteArray}:HD (.string s) (.int k i)=gate (0<=i) ((s.data.toList[i.toNat]?).bind fun b=>some (.int .u8 b.toNat)):=Eq.trans rfl rfl
theorem Lc{b:Nat}:AH off (.pointer (some ⟨b,o,none⟩))=some (.pointer (some ⟨b,o+off,none⟩)):=by rw[<-Ux];rfl
theorem La{len b:Nat}:AF len es (.pointer (some ⟨b,o,none⟩)) (.int k i)=gate (0<=i/\i<len) (some (.pointer (some ⟨b,o+i.toNat*es,none⟩))):=by rw[<-Ux];rfl
theorem PY{b len:Nat}:Nz es (.slice (some ⟨b,o,none⟩) len cap) (.int k i)=gate (0<=i/\i<len) (some (.pointer (some ⟨b,o+i.toNat*es,none⟩))):=by rw[<-Ux];rfl
theorem Nt{b:Nat}{lo hi mx:Option Value}:RF n es lo hi mx (.pointer (some ⟨b,o,none⟩))=(J8 n n lo hi mx).bind fun r=>some (.slice (some ⟨b,o+r.1*es,none⟩) (r.2.1-r.1) (r.2.2-r.1)):=by
 simp only[RF,Ux]
theorem dk{i:Nat}:Au H (.slice (some ⟨i,o,none⟩) n c)=(liveAt H i).bind fun ob=>gate (ob.own=true) (some (.slice (some ⟨i,o,none⟩) n c)):=by
 simp only[Au,gate,Yg,and_true]
theorem BW{b len:Nat}{lo hi mx:Option Value}:vSliceSl H es lo hi mx (.slice (some ⟨b,o,none⟩) len cap)=(J8 len cap lo hi mx).bind fun r=>(liveAt H b).bind fun ob=>gate (ob.exact\/¬ob.own\/es<=ob.es) (some (.slice (some ⟨b,o+r.1*es,none⟩) (r.2.1-r.1) (r.2.2-r.1))):=by
 simp only[vSliceSl,Ux,gate]
theorem PX{lo hi mx:Option Value}:vSliceSl H es lo hi mx (.slice none 0 0)=(J8 0 0 lo hi mx).bind fun _=>some (.slice none 0 0):=Eq.trans rfl rfl
theorem T5{s:ByteArray}{lo hi:Option Value}:RE lo hi (.string s)=(J8 s.size s.size lo hi none).bind fun r=>some (.string (s.extract r.1 r.2.1)):=Eq.trans rfl rfl
theorem WX{i:Nat}{vs:Array Value}:N0 i (.tuple vs)=vs.toList[i]? := Eq.trans rfl rfl
theorem Nv{a:Addr}:FT (.pointer (some a))=some (.pointer (some a)):=Eq.trans rfl rfl
theorem qp{a:Addr}{len:Nat}:uV n (.slice (some a) len cap)=gate (n<=len/\0<n) (some (.pointer (some a))):=Eq.trans rfl rfl
theorem vF{a:Option Addr}:vLen false (.slice a n c)=some (.int .i64 n):=Eq.trans rfl rfl
theorem iE{s:ByteArray}:vLen true (.string s)=some (.int .i64 s.size):=Eq.trans rfl rfl
theorem qw{n:Option Nat}{b:Nat}:Nx H n (.pointer (some ⟨b,o,none⟩))=(liveAt H b).bind fun ob=>Jn n ob.c o:=by simp[Nx]
theorem iA{b:Nat}:PW H n (.pointer (some ⟨b,o,none⟩)) v=gate (v.cells.size=n/\Z7 v=true) (storeAt H ⟨b,o,none⟩ v.cells.toList):=Eq.trans rfl rfl
theorem uE{b:Nat}:pC (.pointer (some ⟨b,o,none⟩))=[b]:=rfl
theorem vG{a:Option Addr}:vH H (.slice a n c)=(elemsOf H 1 n (.slice a n c)).bind fun cs=>(XO cs).bind fun l=>some (.string ⟨l.toArray⟩):=Eq.trans rfl rfl
theorem qv{zero:List Value}{bytes:Nat}{l c:Int}:iD zero bytes id (.int k l) (.int j c)=gate (0<=l/\l<=c/\c*bytes<=2^47/\0<bytes/\0<zero.length) (some (.slice id l.toNat c.toNat,{c:=(Qa c.toNat zero).flatten})):=Eq.trans rfl rfl
theorem iB{s:ByteArray}:qo id (.string s)=gate (s.size<=2^47) (some (.slice id s.size s.size,⟨s.data.toList.map fun b=>.int .u8 b.toNat,true,true,false,1⟩)):=Eq.trans rfl rfl
theorem ph{a b:Array Value}{args:List Value}:callee (.func (.func f) a b) args=some (f,a.toList++args++b.toList):=Eq.trans rfl rfl
theorem eU:liveAt H id=(H[id]?).bind fun o=>gate (o.live=true) (some o):=Eq.trans rfl rfl
theorem AN{b:Nat}{v:List Value}:storeAt H ⟨b,o,none⟩ v=(liveAt H b).bind fun ob=>gate (ob.own=true/\o+v.length<=ob.c.length) (some (H.set b ⟨splice ob.c o v,ob.live,ob.own,ob.exact,ob.es⟩)):=by simp[storeAt,gate]
theorem SE{cs:List Value}:Jn none cs off=cs[off]? := Eq.trans rfl rfl
theorem SD{cs:List Value}:Jn (some n) cs off=gate (off+n<=cs.length) (some (.agg ((cs.drop off).take n).toArray)):=Eq.trans rfl rfl
theorem Ui{d:Nat}:Va none y d=some d:=Eq.trans rfl rfl
theorem eK{d:Nat}:Va (some (.int k i)) y d=gate (0<=i/\i<=y) (some i.toNat):=Eq.trans rfl rfl
theorem Ki{len:Nat}{lo hi:Option Value}:J8 len cap lo hi none=(Va hi cap len).bind fun h=>(Va lo h 0).bind fun l=>some (l,h,cap):=by simp[J8,Va]
theorem uB:Ju .add (.int k a) (.int k b)=some (.int k (k.wrap (a+b))):=by simp[Ju,Jb]
theorem ud:Ju .sub (.int k a) (.int k b)=some (.int k (k.wrap (a-b))):=by simp[Ju,Jb]
theorem uq:Ju .mul (.int k a) (.int k b)=some (.int k (k.wrap (a*b))):=by simp[Ju,Jb]
theorem uk(h:(b=0)=False):Ju .quo (.int k a) (.int k b)=some (.int k (k.wrap (a.tdiv b))):=by simp[Ju,Jb,h]
theorem uj(h:(b=0)=False):Ju .rem (.int k a) (.int k b)=some (.int k (a.tmod b)):=by simp[Ju,Jb,h]
theorem uz:Ju .and (.int k a) (.int k b)=some (.int k (Zr .and k a b)):=by simp[Ju,Jb]
theorem xU:Ju .or (.int k a) (.int k b)=some (.int k (Zr .or k a b)):=by simp[Ju,Jb]
theorem tZ:Ju .xor (.int k a) (.int k b)=some (.int k (Zr .xor k a b)):=by simp[Ju,Jb]
theorem aX:Ju .andNot (.int k a) (.int k b)=some (.int k (Zr .andNot k a b)):=by simp[Ju,Jb]
theorem uy:Ju .eql (.int k a) (.int k b)=some (.bool (a==b)):=by simp[Ju,Jb]
theorem uo:Ju .neq (.int k a) (.int k b)=some (.bool (a != b)):=by simp[Ju,Jb]
theorem ur:Ju .lss (.int k a) (.int k b)=some (.bool (decide (a<b))):=by simp[Ju,Jb]
theorem uv:Ju .leq (.int k a) (.int k b)=some (.bool (decide (a<=b))):=by simp[Ju,Jb]
theorem uw:Ju .gtr (.int k a) (.int k b)=some (.bool (decide (b<a))):=by simp[Ju,Jb]
theorem ux:Ju .geq (.int k a) (.int k b)=some (.bool (decide (b<=a))):=by simp[Ju,Jb]
theorem ug(h:(b<0)=False):Ju .shl (.int k a) (.int j b)=some (.int k (k.wrap (a*2^(min b.toNat k.bits)))):=by simp[Ju,ZU,h]
theorem ue(h:(b<0)=False):Ju .shr (.int k a) (.int j b)=some (.int k (a.fdiv (2^(min b.toNat k.bits)))):=by simp[Ju,ZU,h]
theorem P9{a b:ByteArray}:Ju .add (.string a) (.string b)=gate (a.size+b.size<=2^47) (some (.string (a++b))):=Eq.trans rfl rfl
theorem pA{a b:ByteArray}:Ju .eql (.string a) (.string b)=some (.bool (a.toList==b.toList)):=Eq.trans rfl rfl
theorem p9{a b:ByteArray}:Ju .neq (.string a) (.string b)=some (.bool !(a.toList==b.toList)):=Eq.trans rfl rfl
theorem vJ{b:Bool}:unV .not (.bool b)=some (.bool !b):=Eq.trans rfl rfl
theorem vK{n:Int}:unV .neg (.int k n)=some (.int k (k.wrap (0-n))):=Eq.trans rfl rfl
theorem vI{n:Int}:unV .xor (.int k n)=some (.int k (Zr .xor k (if k.signed then -1 else k.max) n)):=Eq.trans rfl rfl
theorem bh{k:List Nat}:St.after ⟨e,H,l⟩ (some k)=⟨e.keep k,H,l⟩:=rfl
theorem md{d:Nat}:Env.put e (some d) v=(d,v)::e:=rfl
theorem mf:Env.put e none v=e:=rfl
theorem ri:Zt e H []=some []:=Eq.trans rfl rfl
theorem rh{r:List (Nat×Option (Option Nat))}:Zt e H ((t,none)::r)=(e.get t).bind fun v=>(Zt e H r).bind fun vs=>some (v::vs):=Eq.trans rfl rfl
theorem re{n:Option Nat}{r:List (Nat×Option (Option Nat))}:Zt e H ((t,some n)::r)=(e.get t).bind fun p=>(Nx H n p).bind fun v=>(Zt e H r).bind fun vs=>some (v::vs):=Eq.trans rfl rfl
theorem SM:packed [v]=v:=rfl
theorem SK{w:Value}{r:List Value}:packed (v::w::r)=.tuple (v::w::r).toArray:=rfl
theorem eS{b:Nat}:Q1 b l []=l:=rfl
theorem ng{b i:Nat}{r:List Nat}(h:b<=i):Q1 b l (i::r)=Q1 b l r:=by
 have h1:¬i<b:=qr
 simp only[Q1,h1,false_and,if_false]
theorem sr{n:Int}:Z7 (.int k n)=true:=rfl
theorem mQ{b:Bool}:Z7 (.bool b)=true:=rfl
theorem so{s:ByteArray}:Z7 (.string s)=true:=rfl
theorem su{a:Array Value}:Z7 (.agg a)=true:=rfl
theorem sq{a:Option Addr}:Z7 (.pointer a)=true:=rfl
theorem eH{a:Option Addr}:Z7 (.slice a n c)=true:=rfl
theorem mP{f:Fn}{a b:Array Value}:Z7 (.func f a b)=true:=rfl
theorem O6:Z7 .nilFunc=true:=rfl
theorem aT(b:Bool):(Value.bool b).cells.toList=[.bool b]:=rfl
theorem Ak(b:Bool):(Value.bool b).cells.size=1:=rfl
theorem gL(a:Option Addr):(Value.pointer a).cells.toList=[.pointer a]:=rfl
theorem Eh(a:Option Addr):(Value.pointer a).cells.size=1:=rfl
theorem P0(a:Option Addr)(n c:Nat):(Value.slice a n c).cells.toList=[.slice a n c]:=rfl
theorem Tr(a:Option Addr)(n c:Nat):(Value.slice a n c).cells.size=1:=rfl
theorem gK(s:ByteArray):(Value.string s).cells.toList=[.string s]:=rfl
theorem Eg(s:ByteArray):(Value.string s).cells.size=1:=rfl
theorem K9{a b:Value}(h1:Bw a=true)(h2:Bw b=true):rf (.tuple #[a,b])=true:=by simp[rf,h1,h2]
theorem AZ{n:Int}:Bw (.int k n)=true:=rfl
theorem dT{b:Bool}:Bw (.bool b)=true:=rfl
theorem VL(l:List Nat):Bw (.agg (u8s l).toArray)=true:=kQ l
theorem we{s:ByteArray}:rf (.string s)=true:=rfl
theorem kS{s:ByteArray}:Bw (.string s)=true:=rfl
end
end
def cF:=Qi (Qi (Qi (Qi (Qi (Qi (Qi (@Hi) (@TX)) (Qi (@CU) (Qi (@fQ) (@fS)))) (Qi (Qi (@fV) (Qi (@fU) (@fW))) (Qi (@CV) (Qi (@nJ) (@fk))))) (Qi (Qi (Qi (@tn) (@fM)) (Qi (@xd) (Qi (@od) (@ti)))) (Qi (Qi (@th) (Qi (@oq) (@xu))) (Qi (@tk) (Qi (@nZ) (@xz)))))) (Qi (Qi (Qi (Qi (@xq) (@fs_un)) (Qi (@tm) (Qi (@fO) (@oe)))) (Qi (Qi (@oc) (Qi (@OY) (@om))) (Qi (@FK) (Qi (@LP) (@LO))))) (Qi (Qi (Qi (@aA) (Qi (@OW) (@aw))) (Qi (@OV) (Qi (@LN) (@aB)))) (Qi (Qi (@fN) (Qi (@OX) (@tg))) (Qi (@xn) (Qi (@wZ) (@x7))))))) (Qi (Qi (Qi (Qi (Qi (@gg) (@tl)) (Qi (@oh) (Qi (@og) (@rV)))) (Qi (Qi (@eD) (Qi (@mB) (@mz))) (Qi (@eC) (Qi (@Oq) (@Oo))))) (Qi (Qi (Qi (@L7) (Qi (@FD) (@nX))) (Qi (@qt) (Qi (@qu) (@Lf)))) (Qi (Qi (@Mo) (Qi (@iG) (@dh))) (Qi (@dj) (Qi (@dk) (@PZ)))))) (Qi (Qi (Qi (Qi (@DF) (@Ny)) (Qi (@Lc) (Qi (@La) (@PY)))) (Qi (Qi (@Nt) (Qi (@BW) (@PX))) (Qi (@T5) (Qi (@WX) (@Nv))))) (Qi (Qi (Qi (@qp) (Qi (@vF) (@iE))) (Qi (@qw) (Qi (@iA) (@uE)))) (Qi (Qi (@vG) (Qi (@qv) (@iB))) (Qi (@ph) (Qi (@eU) (@AN)))))))) (Qi (Qi (Qi (Qi (Qi (Qi (@SE) (@SD)) (Qi (@Ui) (Qi (@eK) (@Ki)))) (Qi (Qi (@uB) (Qi (@ud) (@uq))) (Qi (@uk) (Qi (@uj) (@uz))))) (Qi (Qi (Qi (@xU) (Qi (@tZ) (@aX))) (Qi (@uy) (Qi (@uo) (@ur)))) (Qi (Qi (@uv) (Qi (@uw) (@ux))) (Qi (@ug) (Qi (@ue) (@P9)))))) (Qi (Qi (Qi (Qi (@pA) (@p9)) (Qi (@vJ) (Qi (@vK) (@vI)))) (Qi (Qi (@bh) (Qi (@md) (@mf))) (Qi (@ri) (Qi (@rh) (@re))))) (Qi (Qi (Qi (@SM) (Qi (@SK) (@eS))) (Qi (@ng) (Qi (@K9) (@AZ)))) (Qi (Qi (@dT) (Qi (@VL) (@we))) (Qi (@kS) (Qi (@tf) (@gd_ut))))))) (Qi (Qi (Qi (Qi (Qi (@gd_uf) (@Ql.{0})) (Qi (@Qn.{0}) (Qi (@List.all_nil.{0}) (@KD.{0})))) (Qi (Qi (@List.isEmpty_nil.{0}) (Qi (@ZM) (@beq_self_eq_true.{0}))) (Qi (@bne_self_eq_false.{0}) (Qi (@qd) (@WN))))) (Qi (Qi (Qi (@G9) (Qi (@We) (@false_and))) (Qi (@kR) (Qi (@bK) (@D4)))) (Qi (Qi (@kQ) (Qi (@pE) (@br))) (Qi (@Fv) (Qi (@Yq) (@KC)))))) (Qi (Qi (Qi (Qi (@Nat.zero_le) (@Nat.le_add_right)) (Qi (@Ts) (Qi (@Ur) (@IK)))) (Qi (Qi (@Hn) (Qi (@sr) (@mQ))) (Qi (@so) (Qi (@su) (@sq))))) (Qi (Qi (Qi (@eH) (Qi (@mP) (@O6))) (Qi (@aT) (Qi (@Ak) (@gL)))) (Qi (Qi (@Eh) (Qi (@P0) (@Tr))) (Qi (@gK) (Qi (@Eg) (@eq_self.{1}))))))))
def pF:=Qi (Qi (@I8) (@te)) (Qi (@Qp.{0,0}) (Qi (@if_true.{1}) (@if_false.{1})))
def cL:=Qi (Qi (Qi (Qi (Qi (@QU) (@QA)) (Qi (@Vd) (Qi (@JP) (@ZT.{0})))) (Qi (Qi (@Zv.{0}) (@Xx.{0})) (Qi (@JU.{0}) (Qi (@List.set_cons_zero.{0}) (@List.set_cons_succ.{0}))))) (Qi (Qi (Qi (@QL) (@Jl)) (Qi (@Vn) (Qi (@Vm) (@Vr)))) (Qi (Qi (@Int.toNat_zero) (@Int.lt_irrefl)) (Qi (@Bj) (Qi (@Qs) (@and_self)))))) (Qi (Qi (Qi (Qi (@true_and) (@and_true)) (Qi (@decide_true) (Qi (@decide_false) (@Nat.min_self)))) (Qi (Qi (@ge_iff_le.{0}) (@gt_iff_lt.{0})) (Qi (@Yg.{0}) (Qi (@Wr.{0}) (@Option.isNone_some.{0}))))) (Qi (Qi (Qi (@Option.isSome_some.{0}) (@Bool.and_true)) (Qi (@Fu) (Qi (@Bool.and_false) (@As)))) (Qi (Qi (@not_true_eq_false) (Qi (@not_false_eq_true) (@or_true))) (Qi (@true_or) (Qi (@false_or) (@or_false))))))
def cJ:=Qi (Qi (Qi (@hget0) (@hgetK)) (Qi (@MP) (Qi (@hsetK) (@Yt)))) (Qi (Qi (@QH) (@Sg)) (Qi (@List.getElem?_nil.{0}) (Qi (@Qj.{0}) (@Qt.{0}))))
def cS:=Qi (Qi (Qi (Qi (Qi (Qi (@Hi) (Qi (@TX) (@CU))) (Qi (@XE) (Qi (@TY) (@Jt)))) (Qi (Qi (@CV) (Qi (@XY) (@KU))) (Qi (@Qp.{0,0}) (Qi (@Ql.{0}) (@Qn.{0}))))) (Qi (Qi (Qi (@List.all_nil.{0}) (Qi (@KD.{0}) (@if_true.{1}))) (Qi (@if_false.{1}) (Qi (@ite_true.{0}) (@ite_false.{0})))) (Qi (Qi (@Yg.{0}) (Qi (@Wr.{0}) (@ZM))) (Qi (@QL) (Qi (@Zv.{0}) (@ZT.{0})))))) (Qi (Qi (Qi (Qi (@beq_self_eq_true.{0}) (Qi (@qd) (@WN))) (Qi (@TR) (Qi (@TQ) (@WC)))) (Qi (Qi (@CP) (Qi (@Vb) (@KB))) (Qi (@CR) (Qi (@CO) (@IF))))) (Qi (Qi (Qi (@TV) (Qi (@CM) (@CS))) (Qi (@MT) (Qi (@MS) (@Gr)))) (Qi (Qi (@WB) (Qi (@UG) (@BH))) (Qi (@BG) (Qi (@Hg) (@Gp))))))) (Qi (Qi (Qi (Qi (Qi (@Hf) (Qi (@Gn) (@BF))) (Qi (@Hh) (Qi (@D7) (@Gq)))) (Qi (Qi (@TP) (Qi (@D8) (@TS))) (Qi (@CN) (Qi (@TW) (@VZ))))) (Qi (Qi (Qi (@B9) (Qi (@OJ) (@nB))) (Qi (@G9) (Qi (@and_self) (@true_and)))) (Qi (Qi (@and_true) (Qi (@Vr) (@Vn))) (Qi (@Ux) (Qi (@IK) (@Hn)))))) (Qi (Qi (Qi (Qi (@Yt) (Qi (@We) (@false_and))) (Qi (@decide_true) (Qi (@decide_false) (@Jl)))) (Qi (Qi (@kR) (Qi (@D4) (@br))) (Qi (@Bool.and_true) (Qi (@Fu) (@Fv))))) (Qi (Qi (Qi (@Xx.{0}) (Qi (@JU.{0}) (@nlt1))) (Qi (@nlt2) (Qi (@nlt3) (@nlt4)))) (Qi (Qi (@Qs) (Qi (@Bj) (@Yq))) (Qi (Qi (@KC) (@Vm)) (Qi (@Ts) (@Ur)))))))
theorem fG{α:Type}{x y:Option α}:Hd (.bool true) true x y=x:=Eq.trans rfl rfl
theorem fL{α:Type}{x y:Option α}:Hd (.bool false) false x y=x:=Eq.trans rfl rfl
theorem fJ{α:Type}{x y:Option α}:Hd (.bool true) false x y=y:=Eq.trans rfl rfl
theorem fK{α:Type}{x y:Option α}:Hd (.bool false) true x y=y:=Eq.trans rfl rfl
theorem ah{t:Nat}{v:Value}{l:Env}:vq t (some v) l=(t,v)::l:=Eq.trans rfl rfl
theorem Oa{α:Type}{v:α}{y:Option α}:T8 (some v) y=some v:=Eq.trans rfl rfl
def pQ:=Qi pF (Qi (@ah) (Qi (@Oa) (Qi (@fG) (Qi (@fL) (Qi (@fJ) (@fK))))))
end Go.Ev
namespace Go.Ev
open Go.RowKit Go.WideShapes Go.ChangeShapes
theorem SO{P:Program}{w:World}{r:Reach}{base:Nat}{t e:TypeId}{v:Value}{n:Nat}{e':TypeId}(ht:P.underlying t=some (.array n e'))(hc:P.cellsOf t=n)(hts:P.cellTypes P.depth t=some (Qa n e))(he:P.underlying e=some (.int .u8))(hn:0<n)
  (h:Value.okWide P w r base t v):∃l:List Nat,v=.agg (u8s l).toArray/\l.length=n/\∀x∈l,x<256:=by
 simp only[Value.okWide,ht]at h
 obtain⟨cs,rfl,h1,ts,h2,-,h3⟩:=h
 rw[hc]at h1
 rw[hts]at h2
 cases h2
 have hcell:∀(i:Nat) (v:Value),cs[i]?=some v->∃x:Nat,v=Value.int .u8 (x:Nat)/\x<256:=by
  intro i v hv
  obtain⟨u,g1,g2⟩:=h3 i v hv
  have hu:u=e:=by
   have:=Qo g1
   exact List.eq_of_mem_replicate this
  subst hu
  simp only[Cell.okWide,Cell.ok,he]at g2
  cases v<;>try(exact g2.elim)
  ·rename_i k x
   obtain⟨rfl,g3,g4⟩:=g2
   have g3':(0:Int)<=x:=g3
   have g4':x<=255:=g4
   exact⟨x.toNat,by rw[Int.toNat_of_nonneg g3'],by omega⟩
 refine⟨cs.toList.map fun v=>match v with | .int _ n=>n.toNat|_=>0,?_,by simp[h1],?_⟩
 ·congr 1
  apply Array.ext_getElem?
  intro i
  simp only[u8s,List.map_map,List.getElem?_toArray,List.getElem?_map,ZA]
  cases hv:cs[i]? with
  |none=>rfl
  |some v =>
   obtain⟨x,rfl,hx⟩:=hcell i v hv
   simp
 ·intro x hx
  simp only[List.mem_map]at hx
  obtain⟨v,hv,rfl⟩:=hx
  obtain⟨i,hi⟩:=List.mem_iff_getElem?.1 hv
  rw[ZA]at hi
  obtain⟨x,rfl,hx⟩:=hcell i v hi
  simpa using hx
end Go.Ev
namespace Go.Ev
open Go.RowKit Go.WideShapes Go.ChangeShapes
section
variable{P:Program}{T:Tab}
structure Lies8(w:World)(a:Addr)(len cap:Nat)(l:List Nat):Prop where
 spot:a.spot=none
 at_:∃cs e fr,w.heap[a.block]?=some (.cells cs e fr)/\(cap=0\/a.off+cap<=cs.size)/\∀(i x:Nat),l[i]?=some x->cs[a.off+i]?=some (.int .u8 (x:Nat))
 le:len<=cap
 max:cap<=maxLen
 len:l.length=len
 lt:∀x∈l,x<256
end
end Go.Ev
set_option maxRecDepth 100000
namespace Go.Ev.YtoipgdjfhahimaaGreat
open Go Go.Ev
def Vg:List Value:=Qa 128 (.int .u8 0)++([.int .u32 0,.int .u32 0]++Qa 64 (.int .u8 0))
def zMac:List Value := .pointer none::Qa 64 (.int .u8 0)
abbrev jt(n:Nat):Operand := .tmp n
abbrev ji(n:Int):Operand := .const (.int .i64 n)
abbrev jo(n:Nat)(o:AOp):AOper:=AOper.mk (some n) o none
abbrev jq(o:AOp):AOper:=AOper.mk none o none
abbrev jr(l:List AOper)(k:List Nat):ACode := .region l (some k) []
abbrev js(l:List AOper)(k:List Nat)(c:ACode):ACode := .seq (.region l (some k) []) c
abbrev jx(n m:Nat):ACode := .cond (.tmp n) .skip (.exit m)
abbrev jM(n m:Nat):AOper:=AOper.mk (some n) (.move (.tmp m)) none
abbrev jI(n:Nat)(v:Int):AOper:=AOper.mk (some n) (.move (.const (.int .i64 v))) none
abbrev jL(n k m:Nat):AOper:=AOper.mk (some n) (.load (some k) (.tmp m)) none
abbrev jE(n m:Nat):AOper:=AOper.mk (some n) (.load none (.tmp m)) none
abbrev jS(k a b:Nat):AOper:=AOper.mk none (.store k (.tmp a) (.tmp b)) none
abbrev jF(n k m:Nat):AOper:=AOper.mk (some n) (.fieldAddr k (.tmp m)) none
abbrev jZ(n k:Nat)(i:IntKind):AOper:=AOper.mk (some n) (.alloc (Qa k (.int i 0))) none
abbrev jB(n m:Nat):AOper:=AOper.mk (some n) (.box (.tmp m)) none
abbrev jN(n m:Nat):AOper:=AOper.mk (some n) (.nilCheck (.tmp m)) none
abbrev jO(n:Nat)(o:BinOp)(a b:Nat):AOper:=AOper.mk (some n) (.bin o (.tmp a) (.tmp b)) none
abbrev jP(n:Nat)(o:BinOp)(a:Nat)(v:Int):AOper:=AOper.mk (some n) (.bin o (.tmp a) (.const (.int .i64 v))) none
abbrev jQ(n:Nat)(o:BinOp)(a:Nat)(i:IntKind)(v:Int):AOper:=AOper.mk (some n) (.bin o (.tmp a) (.const (.int i v))) none
abbrev jX(n m i:Nat):AOper:=AOper.mk (some n) (.extract (.tmp m) i) none
abbrev jC(n f a:Nat):AOper:=AOper.mk (some n) (.call f [.tmp a] true) none
abbrev jD(n f a b:Nat):AOper:=AOper.mk (some n) (.call f [.tmp a,.tmp b] true) none
abbrev jG(n f a b c:Nat):AOper:=AOper.mk (some n) (.call f [.tmp a,.tmp b,.tmp c] true) none
abbrev jc(n f a:Nat):AOper:=AOper.mk (some n) (.call f [.tmp a] false) none
abbrev jd(n f a b:Nat):AOper:=AOper.mk (some n) (.call f [.tmp a,.tmp b] false) none
abbrev jA(n l e m:Nat)(v:Int):AOper:=AOper.mk (some n) (.indexAddr l e (.tmp m) (.const (.int .i64 v))) none
abbrev jH(n l e m i:Nat):AOper:=AOper.mk (some n) (.indexAddr l e (.tmp m) (.tmp i)) none
abbrev jJ(n e m i:Nat):AOper:=AOper.mk (some n) (.indexSl e (.tmp m) (.tmp i)) none
abbrev jV(n:Nat)(k:IntKind)(m:Nat):AOper:=AOper.mk (some n) (.conv k (.tmp m)) none
abbrev jY(n m:Nat):AOper:=AOper.mk (some n) (.len false (.tmp m)) none
abbrev jp(o n t:Nat):Nat×Nat×Operand:=(o,n,.tmp t)
abbrev jg(o:Nat)(k:IntKind)(v:Int):Nat×Nat×Operand:=(o,1,.const (.int k v))
abbrev jz(n:Nat):List Value:=Qa n (.int .u8 0)
abbrev jb(n:Nat)(l:List (Nat×Nat×Operand))(m:Nat):AOper:=AOper.mk (some n) (.build (Qa m (.int .u8 0)) l) none
abbrev jh(n a e t m:Nat):AOper:=AOper.mk (some n) (.append a e (.tmp t) (.tmp m)) none
abbrev jK(n:Nat)(c:ACode):ACode := .block n (.loop c)
abbrev jT(n:Nat)(b:Bool):AOper:=AOper.mk (some n) (.move (.const (.bool b))) none
abbrev jU(n m:Nat):AOper:=AOper.mk (some n) (.un .not (.tmp m)) none
abbrev je(n m:Nat)(b:Bool)(x y:Nat):AOper:=AOper.mk (some n) (.eqv (some (Qa m true)) b (.tmp x) (.tmp y)) none
abbrev jf(n a:Nat):AOper:=AOper.mk (some n) (.call a [] true) none
abbrev ju(n f a b c d:Nat):AOper:=AOper.mk (some n) (.call f [.tmp a,.tmp b,.tmp c,.tmp d] true) none
abbrev jw(n c a b:Nat):AOper:=AOper.mk (some n) (.pick (.tmp c) (.tmp a) (.tmp b)) none
abbrev jn(n:Nat):AOper:=AOper.mk (some n) (.move (.const (.slice none 0 0))) none
abbrev jk(n:Nat)(k:IntKind)(v:Int):AOper:=AOper.mk (some n) (.move (.const (.int k v))) none
abbrev jv(n f:Nat)(k:IntKind)(v:Int):AOper:=AOper.mk (some n) (.call f [.const (.int k v)] true) none
abbrev ja(l:List AOper)(k:List Nat):ACode := .seq (.region l (some k) []) .ret
abbrev jl(n:Nat)(l:List AOper)(k:List Nat):ACode := .cond (.tmp n) (.seq (.region l (some k) []) .ret) .skip
abbrev jm(n k m:Nat)(l:List (Nat×Nat×Operand)):AOper:=AOper.mk (some n) (.buildSlice (Qa k (.int .u8 0)) m l) none
abbrev jy(n e m:Nat)(v:Int):AOper:=AOper.mk (some n) (.indexSl e (.tmp m) (.const (.int .i64 v))) none
abbrev jW(n a e m:Nat):AOper:=AOper.mk (some n) (.sliceArr a e (.tmp m) none none none) none
def a16:AFun:=⟨(js [jB 1 0,jZ 2 32 .u8] [1,2] (js [jA 3 32 1 1 0,jE 4 3,jQ 5 .and 4 .u8 248,jA 6 32 1 1 0,jS 1 6 5] [1,2] (js [jA 7 32 1 1 31,jE 8 7,jQ 9 .and 8 .u8 127,jQ 10 .or 9 .u8 64,jA 11 32 1 1 31,jS 1 11 10] [1,2] (ja [jL 12 32 1,jS 32 2 12] [2])))),[(2,(some (some 32)))]⟩
def Fm:ACode:=(js [jO 9 .lss 8 7] [2,3,6,7,8,9] (.seq (jx 9 0) (.seq (.block 1 (js [jJ 10 1 6 8,jE 11 10,jM 5 11] [2,3,5,6,7,8] (jr [jM 12 3,jM 13 5,jh 14 1 1 12 13,jM 3 14] [2,3,6,7,8]))) (jr [jP 15 .add 8 1,jM 8 15] [2,3,6,7,8]))))
def a17:AFun:=⟨(js [jZ 2 32 .u8] [0,2] (js [jn 3] [0,2,3] (.seq (js [jM 6 0,jY 7 6,jI 8 0] [2,3,6,7,8] (jK 0 Fm)) (ja [jM 16 3,jc 17 130 16,jc 18 166 17,jc 19 167 18,jS 32 2 19] [2])))),[(2,(some (some 32)))]⟩
def Fl:ACode:=(.seq (js [jM 8 4,jM 9 0,jo 10 (.len true (jt 9)),jO 11 .lss 8 10] [0,2,3,4,11] (jx 11 0)) (.seq (.block 1 (jr [jM 14 3,jM 15 4,jM 16 0,jM 17 4,jo 18 (.indexStr (jt 16) (jt 17)),jV 19 .i64 18,jJ 20 1 14 15,jS 1 20 19] [0,2,3,4])) (jr [jM 12 4,jP 13 .add 12 1,jM 4 13] [0,2,3,4])))
def a18:AFun:=⟨(js [jZ 2 32 .u8] [0,2] (js [jM 5 0,jo 6 (.len true (jt 5)),jo 7 (.makeSlice [(.int .i64 0)] 8 (jt 6) (jt 6)),jM 3 7] [0,2,3] (.seq (js [jI 4 0] [0,2,3,4] (jK 0 Fl)) (ja [jM 21 3,jc 22 196 21,jS 32 2 22] [2])))),[(2,(some (some 32)))]⟩
def a19:AFun:=⟨(js [jB 3 0,jB 4 1,jB 5 2,jZ 6 32 .u8] [3,4,5,6] (ja [jW 7 32 1 3,jc 8 130 7,jW 9 32 1 4,jc 10 130 9,jd 11 164 8 10,jW 12 32 1 5,jc 13 130 12,jd 14 165 11 13,jc 15 166 14,jc 16 167 15,jS 32 6 16] [6])),[(6,(some (some 32)))]⟩
def a21:AFun:=⟨(js [jB 1 0,jT 2 false] [1] (ja [jW 3 32 1 1,jc 4 130 3,jo 5 (.call 132 [] false),jd 6 131 4 5,jM 2 6] [2])),[(2,none)]⟩
def Fk:ACode:=(.seq (js [jM 6 4,jP 7 .lss 6 32] [1,3,4,7] (jx 7 0)) (.seq (.block 1 (jr [jM 10 3,jM 11 4,jM 12 4,jH 13 32 1 1 12,jE 14 13,jV 15 .i64 14,jJ 16 1 10 11,jS 1 16 15] [1,3,4])) (jr [jM 8 4,jP 9 .add 8 1,jM 4 9] [1,3,4])))
def a22:AFun:=⟨(js [jB 1 0,jT 2 false] [1] (js [jo 5 (.makeSlice [(.int .i64 0)] 8 (ji 32) (ji 32)),jM 3 5] [1,3] (.seq (js [jI 4 0] [1,3,4] (jK 0 Fk)) (ja [jM 17 3,jo 18 (.call 148 [] false),jd 19 147 17 18,jM 2 19] [2])))),[(2,none)]⟩
def Nn:ACode:=(.seq (js [jM 3 1,jY 4 3,jP 5 .lss 4 31] [1,5] (jx 5 0)) (.block 1 (jr [jM 6 1,jo 7 (.buildSlice [(.int .i64 0)] 1 [jg 0 .i64 0]),jh 8 1 8 6 7,jM 1 8] [1])))
def a23:AFun:=⟨(js [jn 0] [] (js [jo 2 (.buildSlice (Qa 16 (.int .i64 0)) 16 [jg 0 .i64 237,jg 1 .i64 211,jg 2 .i64 245,jg 3 .i64 92,jg 4 .i64 26,jg 5 .i64 99,jg 6 .i64 18,jg 7 .i64 88,jg 8 .i64 214,jg 9 .i64 156,jg 10 .i64 247,jg 11 .i64 162,jg 12 .i64 222,jg 13 .i64 249,jg 14 .i64 222,jg 15 .i64 20]),jM 1 2] [1] (.seq (jK 0 Nn) (ja [jM 9 1,jo 10 (.buildSlice [(.int .i64 0)] 1 [jg 0 .i64 16]),jh 11 1 8 9 10,jM 0 11] [0])))),[(0,none)]⟩
def a25:AFun:=⟨(js [jZ 0 20 .u64] [0] (js [jb 3 [jg 0 .u8 26,jg 1 .u8 213,jg 2 .u8 37,jg 3 .u8 143,jg 4 .u8 96,jg 5 .u8 45,jg 6 .u8 86,jg 7 .u8 201,jg 8 .u8 178,jg 9 .u8 167,jg 10 .u8 37,jg 11 .u8 149,jg 12 .u8 96,jg 13 .u8 199,jg 14 .u8 44,jg 15 .u8 105,jg 16 .u8 92,jg 17 .u8 220,jg 18 .u8 214,jg 19 .u8 253,jg 20 .u8 49,jg 21 .u8 226,jg 22 .u8 164,jg 23 .u8 192,jg 24 .u8 254,jg 25 .u8 83,jg 26 .u8 110,jg 27 .u8 205,jg 28 .u8 211,jg 29 .u8 54,jg 30 .u8 105,jg 31 .u8 33] 32,jC 4 105 3,jZ 1 5 .u64,jS 5 1 4] [0,1] (js [jb 5 [jg 0 .u8 88,jg 1 .u8 102,jg 2 .u8 102,jg 3 .u8 102,jg 4 .u8 102,jg 5 .u8 102,jg 6 .u8 102,jg 7 .u8 102,jg 8 .u8 102,jg 9 .u8 102,jg 10 .u8 102,jg 11 .u8 102,jg 12 .u8 102,jg 13 .u8 102,jg 14 .u8 102,jg 15 .u8 102,jg 16 .u8 102,jg 17 .u8 102,jg 18 .u8 102,jg 19 .u8 102,jg 20 .u8 102,jg 21 .u8 102,jg 22 .u8 102,jg 23 .u8 102,jg 24 .u8 102,jg 25 .u8 102,jg 26 .u8 102,jg 27 .u8 102,jg 28 .u8 102,jg 29 .u8 102,jg 30 .u8 102,jg 31 .u8 102] 32,jC 6 105 5,jZ 2 5 .u64,jS 5 2 6] [0,1,2] (ja [jL 7 5 1,jL 8 5 2,jv 9 106 .u32 1,jL 10 5 1,jL 11 5 2,jD 12 109 10 11,jo 13 (.build (Qa 20 (.int .u64 0)) [jp 0 5 7,jp 5 5 8,jp 10 5 9,jp 15 5 12]),jS 20 0 13] [0])))),[(0,(some (some 20)))]⟩
def Tx:ACode:=(.seq (js [jM 10 7,jP 11 .geq 10 0] [2,3,4,5,6,7,11] (jx 11 0)) (.seq (.block 1 (js [jL 14 20 5,jC 15 128 14,jS 20 5 15] [2,3,4,5,6,7] (js [jM 16 7,jP 17 .quo 16 8,jH 18 32 1 3 17,jE 19 18,jM 20 7,jP 21 .rem 20 8,jO 22 .shr 19 21,jQ 23 .and 22 .u8 1,jQ 24 .eql 23 .u8 1] [2,3,4,5,6,7,24] (.cond (jt 24) (jr [jL 25 20 5,jL 26 20 2,jL 27 5 6,jG 28 135 25 26 27,jS 20 5 28] [2,3,4,5,6,7]) .skip)))) (jr [jM 12 7,jP 13 .sub 12 1,jM 7 13] [2,3,4,5,6,7])))
def a26:AFun:=⟨(js [jB 2 0,jB 3 1,jZ 4 20 .u64] [2,3,4] (js [jf 8 129,jf 9 124,jZ 5 20 .u64,jZ 6 5 .u64,jS 20 5 8,jS 5 6 9] [2,3,4,5,6] (.seq (js [jI 7 255] [2,3,4,5,6,7] (jK 0 Tx)) (ja [jL 29 20 5,jS 20 4 29] [4])))),[(4,(some (some 20)))]⟩
def Fh:ACode:=(js [jO 12 .lss 11 10] [2,3,4,9,10,11,12] (.seq (jx 12 0) (.seq (.block 1 (js [jJ 13 20 9 11,jL 14 20 13,jZ 6 20 .u64,jS 20 6 14] [2,3,4,6,9,10,11] (jr [jL 15 20 3,jL 16 20 6,jL 17 5 4,jG 18 135 15 16 17,jS 20 3 18] [2,3,4,9,10,11]))) (jr [jP 19 .add 11 1,jM 11 19] [2,3,4,9,10,11]))))
def a27:AFun:=⟨(js [jZ 2 20 .u64] [0,2] (js [jf 7 129,jf 8 124,jZ 3 20 .u64,jZ 4 5 .u64,jS 20 3 7,jS 5 4 8] [0,2,3,4] (.seq (js [jM 9 0,jY 10 9,jI 11 0] [2,3,4,9,10,11] (jK 0 Fh)) (ja [jL 20 20 3,jS 20 2 20] [2])))),[(2,(some (some 20)))]⟩
def a28:AFun:=⟨(js [jB 2 0,jB 3 1,jT 4 false] [2,3] (ja [jF 5 0 2,jL 6 5 5,jF 7 10 3,jL 8 5 7,jD 9 109 6 8,jF 10 0 3,jL 11 5 10,jF 12 10 2,jL 13 5 12,jD 14 109 11 13,jD 15 185 9 14,jM 16 15,.mk (some 17) (.fieldAddr 5 (jt 2)) (some (16,true)),.mk (some 18) (.load (some 5) (jt 17)) (some (16,true)),.mk (some 19) (.fieldAddr 10 (jt 3)) (some (16,true)),.mk (some 20) (.load (some 5) (jt 19)) (some (16,true)),.mk (some 21) (.call 109 [(jt 18),(jt 20)] true) (some (16,true)),.mk (some 22) (.fieldAddr 5 (jt 3)) (some (16,true)),.mk (some 23) (.load (some 5) (jt 22)) (some (16,true)),.mk (some 24) (.fieldAddr 10 (jt 2)) (some (16,true)),.mk (some 25) (.load (some 5) (jt 24)) (some (16,true)),.mk (some 26) (.call 109 [(jt 23),(jt 25)] true) (some (16,true)),.mk (some 27) (.call 185 [(jt 21),(jt 26)] true) (some (16,true)),jo 28 (.pick (jt 16) (jt 27) (.const (.bool false))),jM 4 28] [4])),[(4,none)]⟩
def a29:AFun:=⟨(js [jB 1 0,jZ 2 32 .u8] [1,2] (js [jF 5 10 1,jL 6 5 5,jC 7 110 6,jZ 3 5 .u64,jS 5 3 7] [1,2,3] (js [jF 8 5 1,jL 9 5 8,jL 10 5 3,jD 11 109 9 10,jC 12 111 11,jZ 4 32 .u8,jS 32 4 12] [1,2,3,4] (.seq (js [jF 13 0 1,jL 14 5 13,jL 15 5 3,jD 16 109 14 15,jC 17 136 16] [2,4,17] (.cond (jt 17) (jr [jA 18 32 1 4 31,jE 19 18,jQ 20 .or 19 .u8 128,jA 21 32 1 4 31,jS 1 21 20] [2,4]) .skip)) (ja [jL 22 32 4,jS 32 2 22] [2]))))),[(2,(some (some 32)))]⟩
def a30:AFun:=⟨(js [jZ 0 20 .u64] [0] (ja [jv 1 106 .u32 1,jv 2 106 .u32 1,jo 3 (.build (Qa 20 (.int .u64 0)) [jp 5 5 1,jp 10 5 2]),jS 20 0 3] [0])),[(0,(some (some 20)))]⟩
def a31:AFun:=⟨(js [jB 1 0,jZ 2 20 .u64,jI 3 0] [1,2] (js [jA 9 32 1 1 31,jE 10 9,jQ 11 .shr 10 .u64 7,jQ 12 .eql 11 .u8 1,jM 4 12] [1,2,4] (js [jA 13 32 1 1 31,jE 14 13,jQ 15 .and 14 .u8 127,jA 16 32 1 1 31,jS 1 16 15] [1,2,4] (js [jL 17 32 1,jC 18 105 17,jZ 5 5 .u64,jS 5 5 18] [1,2,4,5] (.seq (js [jL 19 32 1,jC 20 120 19,jU 21 20] [2,4,5,21] (.cond (jt 21) (ja [jo 22 (.build (Qa 20 (.int .u64 0)) []),jS 20 2 22,jI 3 60] [2,3]) .skip)) (js [jL 23 5 5,jL 24 5 5,jD 25 109 23 24,jZ 6 5 .u64,jS 5 6 25] [2,4,5,6] (js [jL 27 5 6,jv 28 106 .u32 1,jD 29 122 27 28,jf 30 124,jL 31 5 6,jD 32 109 30 31,jv 33 106 .u32 1,jo 34 (.buildSlice (Qa 10 (.int .u64 0)) 2 [jp 0 5 32,jp 5 5 33]),jc 35 123 34,jD 36 121 29 35,jM 26 36,jX 37 26 0,jX 38 26 1,jZ 7 5 .u64,jS 5 7 37,jM 8 38] [2,4,5,7,8] (.seq (js [jM 39 8,jU 40 39,jM 41 40,.mk (some 42) (.move (jt 4)) (some (41,false)),.mk (some 43) (.move (jt 42)) (some (41,false)),.mk (some 44) (.load (some 5) (jt 7)) (some (43,true)),.mk (some 45) (.call 125 [(jt 44)] true) (some (43,true)),.mk (some 46) (.pick (jt 43) (jt 45) (.const (.bool false))) (some (41,false)),jo 47 (.pick (jt 41) (.const (.bool true)) (jt 46))] [2,4,5,7,47] (.cond (jt 47) (ja [jo 48 (.build (Qa 20 (.int .u64 0)) []),jS 20 2 48,jI 3 60] [2,3]) .skip)) (.seq (js [jM 49 4] [2,5,7,49] (.cond (jt 49) (jr [jL 50 5 7,jC 51 126 50,jS 5 7 51] [2,5,7]) .skip)) (ja [jL 52 5 7,jL 53 5 5,jv 54 106 .u32 1,jL 55 5 7,jL 56 5 5,jD 57 109 55 56,jo 58 (.build (Qa 20 (.int .u64 0)) [jp 0 5 52,jp 5 5 53,jp 10 5 54,jp 15 5 57]),jS 20 2 58,jI 3 0] [2,3])))))))))),[(2,(some (some 20))),(3,none)]⟩
def a32:AFun:=⟨(js [jB 1 0,jZ 2 48 .u64,jI 3 0] [1,2] (js [jA 9 32 1 1 31,jE 10 9,jQ 11 .geq 10 .u8 128,jM 4 11] [1,2,4] (js [jA 12 32 1 1 31,jE 13 12,jQ 14 .rem 13 .u8 128,jA 15 32 1 1 31,jS 1 15 14] [1,2,4] (js [jL 16 32 1,jC 17 137 16,jZ 5 16 .u64,jS 16 5 17] [1,2,4,5] (.seq (js [jL 18 16 5,jC 19 138 18,jL 20 32 1,je 21 32 true 19 20] [2,4,5,21] (.cond (jt 21) (ja [jo 22 (.build (Qa 48 (.int .u64 0)) []),jS 48 2 22,jI 3 60] [2,3]) .skip)) (js [jL 23 16 5,jL 24 16 5,jD 25 139 23 24,jZ 6 16 .u64,jS 16 6 25] [2,4,5,6] (js [jL 27 16 6,jv 28 142 .u64 1,jD 29 141 27 28,jf 30 80,jL 31 16 6,jD 32 139 30 31,jv 33 142 .u64 1,jD 34 144 32 33,jC 35 143 34,jD 36 139 29 35,jC 37 140 36,jM 26 37,jX 38 26 0,jX 39 26 1,jZ 7 16 .u64,jS 16 7 38,jM 8 39] [2,4,5,7,8] (.seq (js [jM 40 8,jU 41 40,jM 42 41,.mk (some 43) (.load (some 16) (jt 7)) (some (42,false)),.mk (some 44) (.build (Qa 16 (.int .u64 0)) []) (some (42,false)),.mk (some 45) (.eqv (some (Qa 16 true)) false (jt 43) (jt 44)) (some (42,false)),.mk (some 46) (.move (jt 45)) (some (42,false)),.mk (some 47) (.move (jt 4)) (some (46,true)),.mk (some 48) (.pick (jt 46) (jt 47) (.const (.bool false))) (some (42,false)),jo 49 (.pick (jt 42) (.const (.bool true)) (jt 48))] [2,4,5,7,49] (.cond (jt 49) (ja [jo 50 (.build (Qa 48 (.int .u64 0)) []),jS 48 2 50,jI 3 60] [2,3]) .skip)) (.seq (js [jA 51 16 1 7 0,jE 52 51,jQ 53 .rem 52 .u64 2,jQ 54 .eql 53 .u64 1,jM 55 4,jo 56 (.eqv none true (jt 54) (jt 55))] [2,5,7,56] (.cond (jt 56) (jr [jL 57 16 7,jC 58 145 57,jS 16 7 58] [2,5,7]) .skip)) (ja [jL 59 16 7,jL 60 16 5,jv 61 142 .u64 1,jo 62 (.build (Qa 48 (.int .u64 0)) [jp 0 16 59,jp 16 16 60,jp 32 16 61]),jS 48 2 62,jI 3 0] [2,3])))))))))),[(2,(some (some 48))),(3,none)]⟩
def a33:AFun:=⟨(js [jB 1 0,jZ 2 32 .u8] [1,2] (js [jF 6 32 1,jL 7 16 6,jC 8 143 7,jZ 3 16 .u64,jS 16 3 8] [1,2,3] (js [jF 9 16 1,jL 10 16 9,jL 11 16 3,jD 12 139 10 11,jC 13 138 12,jZ 4 32 .u8,jS 32 4 13] [1,2,3,4] (js [jF 14 0 1,jL 15 16 14,jL 16 16 3,jD 17 139 15 16,jC 18 138 17,jZ 5 32 .u8,jS 32 5 18] [2,4,5] (.seq (js [jA 19 32 1 5 0,jE 20 19,jQ 21 .rem 20 .u8 2,jQ 22 .eql 21 .u8 1] [2,4,22] (.cond (jt 22) (jr [jA 23 32 1 4 31,jE 24 23,jQ 25 .add 24 .u8 128,jA 26 32 1 4 31,jS 1 26 25] [2,4]) .skip)) (ja [jL 27 32 4,jS 32 2 27] [2])))))),[(2,(some (some 32)))]⟩
def a34:AFun:=⟨(js [jB 1 0,jZ 2 20 .u64] [1,2] (ja [jF 3 0 1,jL 4 5 3,jC 5 126 4,jF 6 5 1,jL 7 5 6,jF 8 10 1,jL 9 5 8,jF 10 15 1,jL 11 5 10,jC 12 126 11,jo 13 (.build (Qa 20 (.int .u64 0)) [jp 0 5 5,jp 5 5 7,jp 10 5 9,jp 15 5 12]),jS 20 2 13] [2])),[(2,(some (some 20)))]⟩
def a35:AFun:=⟨(js [jB 3 0,jB 4 1,jB 5 2,jZ 6 48 .u64] [3,4,5,6] (js [jF 15 32 3,jL 16 16 15,jF 17 32 4,jL 18 16 17,jD 19 139 16 18,jZ 7 16 .u64,jS 16 7 19] [3,4,5,6,7] (js [jL 20 16 7,jL 21 16 7,jD 22 139 20 21,jZ 8 16 .u64,jS 16 8 22] [3,4,5,6,7,8] (js [jF 23 0 3,jL 24 16 23,jF 25 0 4,jL 26 16 25,jD 27 139 24 26,jF 28 16 3,jL 29 16 28,jF 30 16 4,jL 31 16 30,jD 32 139 29 31,jZ 9 16 .u64,jZ 10 16 .u64,jS 16 9 27,jS 16 10 32] [3,4,5,6,7,8,9,10] (js [jL 33 16 5,jL 34 16 9,jL 35 16 10,jD 36 139 34 35,jD 37 139 33 36,jZ 11 16 .u64,jS 16 11 37] [3,4,6,7,8,9,10,11] (js [jL 38 16 8,jL 39 16 11,jD 40 141 38 39,jL 41 16 8,jL 42 16 11,jD 43 144 41 42,jZ 12 16 .u64,jZ 13 16 .u64,jS 16 12 40,jS 16 13 43] [3,4,6,7,9,10,12,13] (js [jF 44 0 3,jL 45 16 44,jF 46 16 3,jL 47 16 46,jD 48 144 45 47,jF 49 0 4,jL 50 16 49,jF 51 16 4,jL 52 16 51,jD 53 144 50 52,jD 54 139 48 53,jL 55 16 9,jD 56 141 54 55,jL 57 16 10,jD 58 141 56 57,jZ 14 16 .u64,jS 16 14 58] [6,7,9,10,12,13,14] (ja [jL 59 16 7,jL 60 16 12,jD 61 139 59 60,jL 62 16 14,jD 63 139 61 62,jL 64 16 7,jL 65 16 13,jD 66 139 64 65,jL 67 16 10,jL 68 16 9,jD 69 144 67 68,jD 70 139 66 69,jL 71 16 12,jL 72 16 13,jD 73 139 71 72,jo 74 (.build (Qa 48 (.int .u64 0)) [jp 0 16 63,jp 16 16 70,jp 32 16 73]),jS 48 6 74] [6])))))))),[(6,(some (some 48)))]⟩
def a36:AFun:=⟨(js [jZ 0 16 .u64] [0] (ja [jv 1 142 .u64 121665,jC 2 145 1,jv 3 142 .u64 121666,jC 4 143 3,jD 5 139 2 4,jS 16 0 5] [0])),[(0,(some (some 16)))]⟩
def a37:AFun:=⟨(js [jZ 0 48 .u64] [0] (js [jv 4 142 .u64 4,jv 5 142 .u64 5,jC 6 143 5,jD 7 139 4 6,jC 8 138 7,jC 9 72 8,jM 3 9,jX 10 3 0,jX 11 3 1,jZ 1 48 .u64,jS 48 1 10,jM 2 11] [0,1] (ja [jL 12 48 1,jS 48 0 12] [0]))),[(0,(some (some 48)))]⟩
def Fg:ACode:=(.seq (js [jM 21 9,jM 22 7,jP 23 .rem 22 8,jO 24 .lss 21 23] [2,3,4,5,6,7,8,9,24] (jx 24 2)) (.seq (.block 3 (jr [jM 27 8,jP 28 .quo 27 2,jM 8 28] [2,3,4,5,6,7,8,9])) (jr [jM 25 9,jP 26 .add 25 1,jM 9 26] [2,3,4,5,6,7,8,9])))
def Tw:ACode:=(.seq (js [jM 12 7,jP 13 .lss 12 256] [2,3,4,5,6,7,13] (jx 13 0)) (.seq (.block 1 (js [jM 16 7,jP 17 .quo 16 8,jH 18 32 1 2 17,jE 19 18,jV 20 .i64 19,jM 8 20] [2,3,4,5,6,7,8] (.seq (js [jI 9 0] [2,3,4,5,6,7,8,9] (jK 2 Fg)) (.seq (js [jM 29 8,jP 30 .rem 29 2,jP 31 .eql 30 1] [2,3,4,5,6,7,31] (.cond (jt 31) (jr [jL 32 48 5,jL 33 48 3,jL 34 16 6,jG 35 79 32 33 34,jS 48 5 35] [2,3,4,5,6,7]) .skip)) (jr [jL 36 48 3,jL 37 48 3,jL 38 16 6,jG 39 79 36 37 38,jS 48 3 39] [2,3,4,5,6,7]))))) (jr [jM 14 7,jP 15 .add 14 1,jM 7 15] [2,3,4,5,6,7])))
def a38:AFun:=⟨(js [jB 2 0,jB 3 1,jZ 4 48 .u64] [2,3,4] (js [jf 10 146,jZ 5 48 .u64,jS 48 5 10] [2,3,4,5] (js [jf 11 80,jZ 6 16 .u64,jS 16 6 11] [2,3,4,5,6] (.seq (js [jI 7 0] [2,3,4,5,6,7] (jK 0 Tw)) (ja [jL 40 48 5,jS 48 4 40] [4]))))),[(4,(some (some 48)))]⟩
def a39:AFun:=⟨(js [jB 1 0,jT 2 false] [1] (ja [jL 3 20 1,jC 4 128 3,jC 5 128 4,jC 6 128 5,jf 7 129,jD 8 127 6 7,jM 2 8] [2])),[(2,none)]⟩
def Mk:ACode:=(js [jO 14 .lss 13 12] [3,11,12,13,14] (.seq (jx 14 0) (.seq (.block 1 (js [jM 15 13,jJ 16 1 11 13,jE 17 16,jM 4 15,jM 5 17] [3,4,5,11,12,13] (jr [jM 18 3,jM 19 4,jP 20 .quo 19 4,jJ 21 1 18 20,jE 22 21,jM 23 5,jV 24 .u32 23,jM 25 4,jP 26 .rem 25 4,jo 27 (.bin .mul (ji 8) (jt 26)),jO 28 .shl 24 27,jO 29 .or 22 28,jJ 30 1 18 20,jS 1 30 29] [3,11,12,13]))) (jr [jP 31 .add 13 1,jM 13 31] [3,11,12,13]))))
def a40:AFun:=⟨(js [jn 2] [0] (js [jM 6 0,jY 7 6,jP 8 .add 7 3,jP 9 .quo 8 4,jo 10 (.makeSlice [(.int .u32 0)] 4 (jt 9) (jt 9)),jM 3 10] [0,3] (.seq (js [jM 11 0,jY 12 11,jI 13 0] [3,11,12,13] (jK 0 Mk)) (ja [jM 32 3,jM 2 32] [2])))),[(2,none)]⟩
def Uz:ACode:=(js [jO 55 .lss 54 53] [0,3,4,5,6,9,53,54,55] (.seq (jx 55 4) (.seq (.block 5 (js [jM 56 54,jM 10 56] [0,3,4,5,6,9,10,53,54] (jr [jM 58 5,jM 59 10,jM 60 3,jM 61 10,jJ 62 1 60 61,jE 63 62,jM 64 4,jM 65 10,jJ 66 1 64 65,jE 67 66,jM 68 9,jG 69 186 63 67 68,jM 57 69,jX 70 57 0,jX 71 57 1,jJ 72 1 58 59,jS 1 72 70,jM 9 71] [0,3,4,5,6,9,53,54]))) (jr [jP 73 .add 54 1,jM 54 73] [0,3,4,5,6,9,53,54]))))
def Uy:ACode:=(js [jO 34 .lss 33 32] [0,3,4,5,6,7,32,33,34] (.seq (jx 34 2) (.seq (.block 3 (js [jM 35 33,jM 8 35] [0,3,4,5,6,7,8,32,33] (jr [jM 36 3,jM 37 8,jM 38 3,jM 39 8,jJ 40 1 38 39,jE 41 40,jQ 42 .shl 41 .u64 1,jM 43 7,jO 44 .or 42 43,jM 45 3,jM 46 8,jJ 47 1 45 46,jE 48 47,jQ 49 .shr 48 .u64 31,jJ 50 1 36 37,jS 1 50 44,jM 7 49] [0,3,4,5,6,7,32,33]))) (jr [jP 51 .add 33 1,jM 33 51] [0,3,4,5,6,7,32,33]))))
def Y6:ACode:=(.seq (js [jM 18 6,jP 19 .geq 18 0] [0,3,4,5,6,19] (jx 19 0)) (.seq (.block 1 (js [jM 22 0,jM 23 6,jP 24 .quo 23 32,jJ 25 1 22 24,jE 26 25,jM 27 6,jP 28 .rem 27 32,jO 29 .shr 26 28,jQ 30 .and 29 .u32 1,jM 7 30] [0,3,4,5,6,7] (.seq (js [jM 31 3,jY 32 31,jI 33 0] [0,3,4,5,6,7,32,33] (jK 2 Uy)) (js [jk 9 .u32 0] [0,3,4,5,6,9] (.seq (js [jM 52 3,jY 53 52,jI 54 0] [0,3,4,5,6,9,53,54] (jK 4 Uz)) (js [jM 74 9,jQ 75 .eql 74 .u32 0] [0,3,4,5,6,75] (.cond (jt 75) (jr [jM 76 5,jM 77 3,jM 3 76,jM 5 77] [0,3,4,5,6]) .skip))))))) (jr [jM 20 6,jP 21 .sub 20 1,jM 6 21] [0,3,4,5,6])))
def a41:AFun:=⟨(js [jn 2] [0] (js [jo 11 (.makeSlice [(.int .u32 0)] 4 (ji 8) (ji 8)),jo 12 (.call 132 [] false),jo 13 (.makeSlice [(.int .u32 0)] 4 (ji 8) (ji 8)),jM 3 11,jM 4 12,jM 5 13] [0,3,4,5] (.seq (js [jM 14 0,jY 15 14,jo 16 (.bin .mul (ji 32) (jt 15)),jP 17 .sub 16 1,jM 6 17] [0,3,4,5,6] (jK 0 Y6)) (ja [jM 78 3,jM 2 78] [2])))),[(2,none)]⟩
def Ff:ACode:=(js [jP 6 .lss 5 32] [0,2,3,5,6] (.seq (jx 6 0) (.seq (.block 1 (js [jM 7 5,jM 4 7] [0,2,3,4,5] (jr [jM 8 4,jM 9 0,jM 10 4,jP 11 .quo 10 4,jJ 12 1 9 11,jE 13 12,jM 14 4,jP 15 .rem 14 4,jo 16 (.bin .mul (ji 8) (jt 15)),jO 17 .shr 13 16,jV 18 .u8 17,jH 19 32 1 3 8,jS 1 19 18] [0,2,3,5]))) (jr [jP 20 .add 5 1,jM 5 20] [0,2,3,5]))))
def a42:AFun:=⟨(js [jZ 2 32 .u8] [0,2] (js [jZ 3 32 .u8] [0,2,3] (.seq (js [jI 5 0] [0,2,3,5] (jK 0 Ff)) (ja [jL 21 32 3,jS 32 2 21] [2])))),[(2,(some (some 32)))]⟩
def Fc:ACode:=(.seq (js [jM 85 12,jP 86 .lss 85 32] [2,3,11,12,86] (jx 86 10)) (.seq (.block 11 (jr [jM 89 12,jM 90 3,jM 91 12,jJ 92 1 90 91,jE 93 92,jV 94 .u8 93,jH 95 32 1 11 89,jS 1 95 94] [2,3,11,12])) (jr [jM 87 12,jP 88 .add 87 1,jM 12 88] [2,3,11,12])))
def Nk:ACode:=(.seq (js [jM 74 10,jP 75 .lss 74 0] [0,2,3,4,5,7,8,9,10,75] (jx 75 8)) (.block 9 (js [jM 76 10,jP 77 .add 76 256,jM 10 77] [0,2,3,4,5,7,8,9,10] (jr [jM 78 8,jP 79 .add 78 1,jM 8 79] [0,2,3,4,5,7,8,9,10]))))
def Mj:ACode:=(.seq (js [jM 57 9,jP 58 .lss 57 33] [0,2,3,4,5,7,8,9,58] (jx 58 6)) (.seq (.block 7 (js [jM 61 3,jM 62 9,jJ 63 1 61 62,jE 64 63,jM 65 7,jM 66 4,jM 67 9,jJ 68 1 66 67,jE 69 68,jO 70 .mul 65 69,jO 71 .sub 64 70,jM 72 8,jO 73 .sub 71 72,jM 10 73] [0,2,3,4,5,7,9,10] (js [jI 8 0] [0,2,3,4,5,7,8,9,10] (.seq (jK 8 Nk) (jr [jM 80 3,jM 81 9,jM 82 10,jJ 83 1 80 81,jS 1 83 82] [0,2,3,4,5,7,8,9]))))) (jr [jM 59 9,jP 60 .add 59 1,jM 9 60] [0,2,3,4,5,7,8,9])))
def Mi:ACode:=(.seq (js [jM 42 3,jM 43 4,jd 44 147 42 43,jU 45 44] [0,2,3,4,5,45] (jx 45 4)) (.block 5 (js [jM 46 3,jy 47 1 46 32,jE 48 47,jP 49 .mul 48 256,jM 50 3,jy 51 1 50 31,jE 52 51,jO 53 .add 49 52,jP 54 .quo 53 17,jM 7 54] [0,2,3,4,5,7] (.seq (js [jM 55 7,jP 56 .lss 55 1] [0,2,3,4,5,7,56] (.cond (jt 56) (jr [jI 7 1] [0,2,3,4,5,7]) .skip)) (js [jI 8 0] [0,2,3,4,5,7,8] (js [jI 9 0] [0,2,3,4,5,7,8,9] (jK 6 Mj)))))))
def Fb:ACode:=(.seq (js [jM 24 6,jP 25 .gtr 24 0] [0,2,3,4,5,6,25] (jx 25 2)) (.seq (.block 3 (jr [jM 28 3,jM 29 6,jM 30 3,jM 31 6,jP 32 .sub 31 1,jJ 33 1 30 32,jE 34 33,jJ 35 1 28 29,jS 1 35 34] [0,2,3,4,5,6])) (jr [jM 26 6,jP 27 .sub 26 1,jM 6 27] [0,2,3,4,5,6])))
def Fa:ACode:=(.seq (js [jM 20 5,jP 21 .geq 20 0] [0,2,3,4,5,21] (jx 21 0)) (.seq (.block 1 (.seq (js [jI 6 32] [0,2,3,4,5,6] (jK 2 Fb)) (js [jM 36 3,jM 37 0,jM 38 5,jJ 39 1 37 38,jE 40 39,jy 41 1 36 0,jS 1 41 40] [0,2,3,4,5] (jK 4 Mi)))) (jr [jM 22 5,jP 23 .sub 22 1,jM 5 23] [0,2,3,4,5])))
def a43:AFun:=⟨(js [jZ 2 32 .u8] [0,2] (js [jo 13 (.makeSlice [(.int .i64 0)] 8 (ji 33) (ji 33)),jM 3 13] [0,2,3] (js [jo 14 (.call 148 [] false),jo 15 (.buildSlice [(.int .i64 0)] 1 [jg 0 .i64 0]),jh 16 1 8 14 15,jM 4 16] [0,2,3,4] (.seq (js [jM 17 0,jY 18 17,jP 19 .sub 18 1,jM 5 19] [0,2,3,4,5] (jK 0 Fa)) (js [jb 84 [] 32,jZ 11 32 .u8,jS 32 11 84] [2,3,11] (.seq (js [jI 12 0] [2,3,11,12] (jK 10 Fc)) (ja [jL 96 32 11,jS 32 2 96] [2]))))))),[(2,(some (some 32)))]⟩
def EZ:ACode:=(js [jO 27 .lss 26 25] [1,5,6,7,8,17,18,19,24,25,26,27] (.seq (jx 27 2) (.seq (.block 3 (js [jM 28 26,jJ 29 1 24 26,jE 30 29,jM 9 28,jM 10 30] [1,5,6,7,8,9,10,17,18,19,24,25,26] (js [jM 31 8,jM 32 5,jM 33 6,jM 34 9,jO 35 .add 33 34,jJ 36 1 32 35,jE 37 36,jV 38 .u64 37,jM 39 7,jV 40 .u64 39,jM 41 10,jV 42 .u64 41,jO 43 .mul 40 42,jO 44 .add 38 43,jO 45 .add 31 44,jM 8 45] [1,5,6,7,8,9,17,18,19,24,25,26] (js [jM 46 5,jM 47 6,jM 48 9,jO 49 .add 47 48,jM 50 8,jV 51 .u32 50,jJ 52 1 46 49,jS 1 52 51] [1,5,6,7,8,17,18,19,24,25,26] (jr [jM 53 8,jQ 54 .shr 53 .u64 32,jM 8 54] [1,5,6,7,8,17,18,19,24,25,26]))))) (jr [jP 55 .add 26 1,jM 26 55] [1,5,6,7,8,17,18,19,24,25,26]))))
def EY:ACode:=(js [jO 20 .lss 19 18] [1,5,17,18,19,20] (.seq (jx 20 0) (.seq (.block 1 (js [jM 21 19,jJ 22 1 17 19,jE 23 22,jM 6 21,jM 7 23] [1,5,6,7,17,18,19] (js [jk 8 .u64 0] [1,5,6,7,8,17,18,19] (.seq (js [jM 24 1,jY 25 24,jI 26 0] [1,5,6,7,8,17,18,19,24,25,26] (jK 2 EZ)) (jr [jM 56 5,jM 57 6,jM 58 1,jY 59 58,jO 60 .add 57 59,jM 61 8,jV 62 .u32 61,jJ 63 1 56 60,jS 1 63 62] [1,5,17,18,19]))))) (jr [jP 64 .add 19 1,jM 19 64] [1,5,17,18,19]))))
def a44:AFun:=⟨(js [jn 4] [0,1] (js [jM 11 0,jY 12 11,jM 13 1,jY 14 13,jO 15 .add 12 14,jo 16 (.makeSlice [(.int .u32 0)] 4 (jt 15) (jt 15)),jM 5 16] [0,1,5] (.seq (js [jM 17 0,jY 18 17,jI 19 0] [1,5,17,18,19] (jK 0 EY)) (ja [jM 65 5,jM 4 65] [4])))),[(4,none)]⟩
def Ht:ACode:=(js [jO 21 .lss 20 19] [1,5,6,19,20,21] (.seq (jx 21 0) (.seq (.block 1 (js [jM 22 20,jM 7 22] [1,5,6,7,19,20] (js [jk 8 .u32 0] [1,5,6,7,8,19,20] (.seq (js [jM 23 7,jM 24 1,jY 25 24,jO 26 .lss 23 25] [1,5,6,7,8,19,20,26] (.cond (jt 26) (jr [jM 27 1,jM 28 7,jJ 29 1 27 28,jE 30 29,jM 8 30] [1,5,6,7,8,19,20]) .skip)) (jr [jM 32 5,jM 33 7,jM 34 5,jM 35 7,jJ 36 1 34 35,jE 37 36,jM 38 8,jM 39 6,jG 40 205 37 38 39,jM 31 40,jX 41 31 0,jX 42 31 1,jJ 43 1 32 33,jS 1 43 41,jM 6 42] [1,5,6,19,20]))))) (jr [jP 44 .add 20 1,jM 20 44] [1,5,6,19,20]))))
def a45:AFun:=⟨(js [jn 4] [0,1] (js [jM 9 0,jY 10 9,jP 11 .add 10 1,jo 12 (.makeSlice [(.int .u32 0)] 4 (ji 0) (jt 11)),jM 13 0,jh 14 1 4 12 13,jM 5 14] [1,5] (js [jM 15 5,jo 16 (.buildSlice [(.int .u32 0)] 1 [jg 0 .u32 0]),jh 17 1 4 15 16,jM 5 17] [1,5] (js [jk 6 .u32 0] [1,5,6] (.seq (js [jM 18 5,jY 19 18,jI 20 0] [1,5,6,19,20] (jK 0 Ht)) (ja [jM 45 5,jM 4 45] [4])))))),[(4,none)]⟩
def EV:ACode:=(js [jO 10 .lss 9 8] [0,1,5,8,9,10] (.seq (jx 10 0) (.seq (.block 1 (js [jM 11 9,jM 6 11] [0,1,5,6,8,9] (jr [jM 13 0,jM 14 6,jJ 15 1 13 14,jE 16 15,jM 17 1,jM 18 6,jJ 19 1 17 18,jE 20 19,jM 21 5,jG 22 186 16 20 21,jM 12 22,jX 23 12 0,jX 24 12 1,jM 5 24] [0,1,5,8,9]))) (jr [jP 25 .add 9 1,jM 9 25] [0,1,5,8,9]))))
def a46:AFun:=⟨(js [jT 4 false] [0,1] (js [jk 5 .u32 0] [0,1,5] (.seq (js [jM 7 0,jY 8 7,jI 9 0] [0,1,5,8,9] (jK 0 EV)) (ja [jM 26 5,jQ 27 .eql 26 .u32 1,jM 4 27] [4])))),[(4,none)]⟩
def a47:AFun:=⟨(js [jn 0] [] (ja [jo 1 (.buildSlice (Qa 8 (.int .u32 0)) 8 [jg 0 .u32 1559614445,jg 1 .u32 1477600026,jg 2 .u32 2734136534,jg 3 .u32 350157278,jg 4 .u32 0,jg 5 .u32 0,jg 6 .u32 0,jg 7 .u32 268435456]),jM 0 1] [0])),[(0,none)]⟩
def EU:ACode:=(.seq (js [jM 9 5,jP 10 .geq 9 0] [0,1,5,10] (jx 10 0)) (.seq (.block 1 (js [jM 13 0,jM 14 5,jJ 15 1 13 14,jE 16 15,jM 17 1,jM 18 5,jJ 19 1 17 18,jE 20 19,jO 21 .neq 16 20] [0,1,5,21] (jl 21 [jM 22 0,jM 23 5,jJ 24 1 22 23,jE 25 24,jM 26 1,jM 27 5,jJ 28 1 26 27,jE 29 28,jO 30 .lss 25 29,jM 4 30] [4]))) (jr [jM 11 5,jP 12 .sub 11 1,jM 5 12] [0,1,5])))
def a48:AFun:=⟨(js [jT 4 false] [0,1] (.seq (js [jM 6 0,jY 7 6,jP 8 .sub 7 1,jM 5 8] [0,1,5] (jK 0 EU)) (ja [jT 4 false] [4]))),[(4,none)]⟩
def ET:ACode:=(js [jP 6 .lss 5 255] [1,2,3,5,6] (.seq (jx 6 0) (.seq (.block 1 (js [jM 7 5,jM 4 7] [1,2,3,4,5] (jr [jM 8 4,jP 9 .quo 8 51,jF 10 0 3,jH 11 5 1 10 9,jE 12 11,jM 13 4,jP 14 .quo 13 8,jH 15 32 1 1 14,jE 16 15,jM 17 4,jP 18 .rem 17 8,jO 19 .shr 16 18,jQ 20 .and 19 .u8 1,jV 21 .u64 20,jM 22 4,jP 23 .rem 22 51,jO 24 .shl 21 23,jO 25 .or 12 24,jF 26 0 3,jH 27 5 1 26 9,jS 1 27 25] [1,2,3,5]))) (jr [jP 28 .add 5 1,jM 5 28] [1,2,3,5]))))
def a49:AFun:=⟨(js [jB 1 0,jZ 2 5 .u64] [1,2] (js [jZ 3 5 .u64] [1,2,3] (.seq (js [jI 5 0] [1,2,3,5] (jK 0 ET)) (ja [jL 29 5 3,jS 5 2 29] [2])))),[(2,(some (some 5)))]⟩
def a50:AFun:=⟨(js [jZ 2 5 .u64] [0,2] (ja [jM 3 0,jV 4 .u64 3,jo 5 (.build (Qa 5 (.int .u64 0)) [jp 0 1 4]),jo 6 (.build (Qa 5 (.int .u64 0)) [jp 0 5 5]),jS 5 2 6] [2])),[(2,(some (some 5)))]⟩
def a51:AFun:=⟨(js [jB 2 0,jB 3 1,jZ 4 5 .u64] [2,3,4] (js [jF 29 0 2,jF 30 0 3,jM 5 29,jM 6 30] [4,5,6] (js [jM 31 5,jN 32 31,jA 33 5 1 32 1,jE 34 33,jo 35 (.bin .mul (.const (.int .u64 19)) (jt 34)),jM 36 5,jN 37 36,jA 38 5 1 37 2,jE 39 38,jo 40 (.bin .mul (.const (.int .u64 19)) (jt 39)),jM 41 5,jN 42 41,jA 43 5 1 42 3,jE 44 43,jo 45 (.bin .mul (.const (.int .u64 19)) (jt 44)),jM 46 5,jN 47 46,jA 48 5 1 47 4,jE 49 48,jo 50 (.bin .mul (.const (.int .u64 19)) (jt 49)),jM 7 35,jM 8 40,jM 9 45,jM 10 50] [4,5,6,7,8,9,10] (js [jM 51 5,jN 52 51,jA 53 5 1 52 0,jE 54 53,jM 55 6,jN 56 55,jA 57 5 1 56 0,jE 58 57,jD 59 170 54 58,jM 60 7,jM 61 6,jN 62 61,jA 63 5 1 62 4,jE 64 63,jG 65 171 59 60 64,jM 66 8,jM 67 6,jN 68 67,jA 69 5 1 68 3,jE 70 69,jG 71 171 65 66 70,jM 72 9,jM 73 6,jN 74 73,jA 75 5 1 74 2,jE 76 75,jG 77 171 71 72 76,jM 78 10,jM 79 6,jN 80 79,jA 81 5 1 80 1,jE 82 81,jG 83 171 77 78 82,jo 11 (.alloc [(.int .u64 0),(.int .u64 0)]),jS 2 11 83] [4,5,6,8,9,10,11] (js [jM 84 5,jN 85 84,jA 86 5 1 85 0,jE 87 86,jM 88 6,jN 89 88,jA 90 5 1 89 1,jE 91 90,jD 92 170 87 91,jM 93 5,jN 94 93,jA 95 5 1 94 1,jE 96 95,jM 97 6,jN 98 97,jA 99 5 1 98 0,jE 100 99,jG 101 171 92 96 100,jM 102 8,jM 103 6,jN 104 103,jA 105 5 1 104 4,jE 106 105,jG 107 171 101 102 106,jM 108 9,jM 109 6,jN 110 109,jA 111 5 1 110 3,jE 112 111,jG 113 171 107 108 112,jM 114 10,jM 115 6,jN 116 115,jA 117 5 1 116 2,jE 118 117,jG 119 171 113 114 118,jo 12 (.alloc [(.int .u64 0),(.int .u64 0)]),jS 2 12 119] [4,5,6,9,10,11,12] (js [jM 120 5,jN 121 120,jA 122 5 1 121 0,jE 123 122,jM 124 6,jN 125 124,jA 126 5 1 125 2,jE 127 126,jD 128 170 123 127,jM 129 5,jN 130 129,jA 131 5 1 130 1,jE 132 131,jM 133 6,jN 134 133,jA 135 5 1 134 1,jE 136 135,jG 137 171 128 132 136,jM 138 5,jN 139 138,jA 140 5 1 139 2,jE 141 140,jM 142 6,jN 143 142,jA 144 5 1 143 0,jE 145 144,jG 146 171 137 141 145,jM 147 9,jM 148 6,jN 149 148,jA 150 5 1 149 4,jE 151 150,jG 152 171 146 147 151,jM 153 10,jM 154 6,jN 155 154,jA 156 5 1 155 3,jE 157 156,jG 158 171 152 153 157,jo 13 (.alloc [(.int .u64 0),(.int .u64 0)]),jS 2 13 158] [4,5,6,10,11,12,13] (js [jM 159 5,jN 160 159,jA 161 5 1 160 0,jE 162 161,jM 163 6,jN 164 163,jA 165 5 1 164 3,jE 166 165,jD 167 170 162 166,jM 168 5,jN 169 168,jA 170 5 1 169 1,jE 171 170,jM 172 6,jN 173 172,jA 174 5 1 173 2,jE 175 174,jG 176 171 167 171 175,jM 177 5,jN 178 177,jA 179 5 1 178 2,jE 180 179,jM 181 6,jN 182 181,jA 183 5 1 182 1,jE 184 183,jG 185 171 176 180 184,jM 186 5,jN 187 186,jA 188 5 1 187 3,jE 189 188,jM 190 6,jN 191 190,jA 192 5 1 191 0,jE 193 192,jG 194 171 185 189 193,jM 195 10,jM 196 6,jN 197 196,jA 198 5 1 197 4,jE 199 198,jG 200 171 194 195 199,jo 14 (.alloc [(.int .u64 0),(.int .u64 0)]),jS 2 14 200] [4,5,6,11,12,13,14] (js [jM 201 5,jN 202 201,jA 203 5 1 202 0,jE 204 203,jM 205 6,jN 206 205,jA 207 5 1 206 4,jE 208 207,jD 209 170 204 208,jM 210 5,jN 211 210,jA 212 5 1 211 1,jE 213 212,jM 214 6,jN 215 214,jA 216 5 1 215 3,jE 217 216,jG 218 171 209 213 217,jM 219 5,jN 220 219,jA 221 5 1 220 2,jE 222 221,jM 223 6,jN 224 223,jA 225 5 1 224 2,jE 226 225,jG 227 171 218 222 226,jM 228 5,jN 229 228,jA 230 5 1 229 3,jE 231 230,jM 232 6,jN 233 232,jA 234 5 1 233 1,jE 235 234,jG 236 171 227 231 235,jM 237 5,jN 238 237,jA 239 5 1 238 4,jE 240 239,jM 241 6,jN 242 241,jA 243 5 1 242 0,jE 244 243,jG 245 171 236 240 244,jo 15 (.alloc [(.int .u64 0),(.int .u64 0)]),jS 2 15 245] [4,11,12,13,14,15] (js [jL 247 2 11,jC 248 172 247,jM 246 248,jX 249 246 0,jX 250 246 1,jM 16 249,jM 17 250] [4,12,13,14,15,16,17] (js [jL 252 2 12,jC 253 172 252,jM 251 253,jX 254 251 0,jX 255 251 1,jM 18 254,jM 19 255] [4,13,14,15,16,17,18,19] (js [jL 257 2 13,jC 258 172 257,jM 256 258,jX 259 256 0,jX 260 256 1,jM 20 259,jM 21 260] [4,14,15,16,17,18,19,20,21] (js [jL 262 2 14,jC 263 172 262,jM 261 263,jX 264 261 0,jX 265 261 1,jM 22 264,jM 23 265] [4,15,16,17,18,19,20,21,22,23] (js [jL 267 2 15,jC 268 172 267,jM 266 268,jX 269 266 0,jX 270 266 1,jM 24 269,jM 25 270] [4,16,17,18,19,20,21,22,23,24,25] (js [jM 271 24,jo 272 (.call 170 [(.const (.int .u64 19)),(jt 271)] true),jM 273 17,jD 274 173 272 273,jo 26 (.alloc [(.int .u64 0),(.int .u64 0)]),jS 2 26 274] [4,16,18,19,20,21,22,23,25,26] (js [jL 276 2 26,jC 277 172 276,jM 275 277,jX 278 275 0,jX 279 275 1,jM 27 278,jM 28 279] [4,16,18,19,20,21,22,23,25,27,28] (ja [jM 280 28,jM 281 19,jM 282 16,jO 283 .add 281 282,jM 284 27,jO 285 .add 283 284,jM 286 21,jM 287 18,jO 288 .add 286 287,jM 289 23,jM 290 20,jO 291 .add 289 290,jM 292 25,jM 293 22,jO 294 .add 292 293,jo 295 (.build (Qa 5 (.int .u64 0)) [jp 0 1 280,jp 1 1 285,jp 2 1 288,jp 3 1 291,jp 4 1 294]),jo 296 (.build (Qa 5 (.int .u64 0)) [jp 0 5 295]),jC 297 174 296,jS 5 4 297] [4])))))))))))))))),[(4,(some (some 5)))]⟩
def a52:AFun:=⟨(js [jZ 0 5 .u64] [0] (ja [jb 1 [jg 0 .u8 163,jg 1 .u8 120,jg 2 .u8 89,jg 3 .u8 19,jg 4 .u8 202,jg 5 .u8 77,jg 6 .u8 235,jg 7 .u8 117,jg 8 .u8 171,jg 9 .u8 216,jg 10 .u8 65,jg 11 .u8 65,jg 12 .u8 77,jg 13 .u8 10,jg 14 .u8 112,jg 15 .u8 0,jg 16 .u8 152,jg 17 .u8 232,jg 18 .u8 121,jg 19 .u8 119,jg 20 .u8 121,jg 21 .u8 64,jg 22 .u8 199,jg 23 .u8 140,jg 24 .u8 115,jg 25 .u8 254,jg 26 .u8 111,jg 27 .u8 43,jg 28 .u8 238,jg 29 .u8 108,jg 30 .u8 3,jg 31 .u8 82] 32,jC 2 105 1,jS 5 0 2] [0])),[(0,(some (some 5)))]⟩
def a53:AFun:=⟨(js [jB 1 0,jZ 2 20 .u64] [1,2] (js [jF 11 0 1,jL 12 5 11,jF 13 0 1,jL 14 5 13,jD 15 109 12 14,jF 16 5 1,jL 17 5 16,jF 18 5 1,jL 19 5 18,jD 20 109 17 19,jZ 3 5 .u64,jZ 4 5 .u64,jS 5 3 15,jS 5 4 20] [1,2,3,4] (js [jv 21 106 .u32 2,jF 22 10 1,jL 23 5 22,jF 24 10 1,jL 25 5 24,jo 26 (.buildSlice (Qa 15 (.int .u64 0)) 3 [jp 0 5 21,jp 5 5 23,jp 10 5 25]),jc 27 169 26,jZ 5 5 .u64,jS 5 5 27] [1,2,3,4,5] (js [jL 28 5 3,jL 29 5 4,jo 30 (.buildSlice (Qa 10 (.int .u64 0)) 2 [jp 0 5 28,jp 5 5 29]),jc 31 123 30,jZ 6 5 .u64,jS 5 6 31] [1,2,3,4,5,6] (js [jF 32 0 1,jL 33 5 32,jF 34 5 1,jL 35 5 34,jo 36 (.buildSlice (Qa 10 (.int .u64 0)) 2 [jp 0 5 33,jp 5 5 35]),jc 37 123 36,jZ 7 5 .u64,jS 5 7 37] [2,3,4,5,6,7] (js [jL 38 5 6,jL 39 5 7,jL 40 5 7,jD 41 109 39 40,jD 42 122 38 41,jZ 8 5 .u64,jS 5 8 42] [2,3,4,5,6,8] (js [jL 43 5 3,jL 44 5 4,jD 45 122 43 44,jZ 9 5 .u64,jS 5 9 45] [2,5,6,8,9] (js [jL 46 5 5,jL 47 5 9,jo 48 (.buildSlice (Qa 10 (.int .u64 0)) 2 [jp 0 5 46,jp 5 5 47]),jc 49 123 48,jZ 10 5 .u64,jS 5 10 49] [2,6,8,9,10] (ja [jL 50 5 8,jL 51 5 10,jD 52 109 50 51,jL 53 5 9,jL 54 5 6,jD 55 109 53 54,jL 56 5 10,jL 57 5 9,jD 58 109 56 57,jL 59 5 8,jL 60 5 6,jD 61 109 59 60,jo 62 (.build (Qa 20 (.int .u64 0)) [jp 0 5 52,jp 5 5 55,jp 10 5 58,jp 15 5 61]),jS 20 2 62] [2]))))))))),[(2,(some (some 20)))]⟩
def a54:AFun:=⟨(js [jB 3 0,jB 4 1,jB 5 2,jZ 6 20 .u64] [3,4,5,6] (js [jF 15 5 3,jL 16 5 15,jF 17 0 3,jL 18 5 17,jD 19 122 16 18,jF 20 5 4,jL 21 5 20,jF 22 0 4,jL 23 5 22,jD 24 122 21 23,jD 25 109 19 24,jZ 7 5 .u64,jS 5 7 25] [3,4,5,6,7] (.seq (.region [jF 26 5 3,jL 27 5 26,jF 28 0 3,jL 29 5 28,jo 30 (.buildSlice (Qa 10 (.int .u64 0)) 2 [jp 0 5 27,jp 5 5 29]),jc 31 123 30,jF 32 5 4,jL 33 5 32,jF 34 0 4,jL 35 5 34,jo 36 (.buildSlice (Qa 10 (.int .u64 0)) 2 [jp 0 5 33,jp 5 5 35]),jc 37 123 36,jD 38 109 31 37,jZ 8 5 .u64,jS 5 8 38] (some [3,4,5,6,7,8]) [(5,7),(5,9)]) (js [jv 39 106 .u32 2,jL 40 5 5,jF 41 15 3,jL 42 5 41,jF 43 15 4,jL 44 5 43,jo 45 (.buildSlice (Qa 20 (.int .u64 0)) 4 [jp 0 5 39,jp 5 5 40,jp 10 5 42,jp 15 5 44]),jc 46 169 45,jZ 9 5 .u64,jS 5 9 46] [3,4,6,7,8,9] (js [jv 47 106 .u32 2,jF 48 10 3,jL 49 5 48,jF 50 10 4,jL 51 5 50,jo 52 (.buildSlice (Qa 15 (.int .u64 0)) 3 [jp 0 5 47,jp 5 5 49,jp 10 5 51]),jc 53 169 52,jZ 10 5 .u64,jS 5 10 53] [6,7,8,9,10] (.seq (.region [jL 54 5 8,jL 55 5 7,jD 56 122 54 55,jL 57 5 10,jL 58 5 9,jD 59 122 57 58,jL 60 5 10,jL 61 5 9,jo 62 (.buildSlice (Qa 10 (.int .u64 0)) 2 [jp 0 5 60,jp 5 5 61]),jc 63 123 62,jL 64 5 8,jL 65 5 7,jo 66 (.buildSlice (Qa 10 (.int .u64 0)) 2 [jp 0 5 64,jp 5 5 65]),jc 67 123 66,jZ 11 5 .u64,jZ 12 5 .u64,jZ 13 5 .u64,jZ 14 5 .u64,jS 5 11 56,jS 5 12 59,jS 5 13 63,jS 5 14 67] (some [6,11,12,13,14]) [(9,10),(9,11)]) (ja [jL 68 5 11,jL 69 5 12,jD 70 109 68 69,jL 71 5 13,jL 72 5 14,jD 73 109 71 72,jL 74 5 12,jL 75 5 13,jD 76 109 74 75,jL 77 5 11,jL 78 5 14,jD 79 109 77 78,jo 80 (.build (Qa 20 (.int .u64 0)) [jp 0 5 70,jp 5 5 73,jp 10 5 76,jp 15 5 79]),jS 20 6 80] [6]))))))),[(6,(some (some 20)))]⟩
def a55:AFun:=⟨(js [jB 2 0,jB 3 1,jT 4 false] [2,3] (ja [jL 5 5 2,jC 6 111 5,jL 7 5 3,jC 8 111 7,je 9 32 false 6 8,jM 4 9] [4])),[(4,none)]⟩
def a56:AFun:=⟨(js [jB 1 0,jZ 2 5 .u64] [1,2] (ja [jL 3 5 1,jo 4 (.call 176 [(ji 255),(.const (.int .u8 20))] true),jD 5 175 3 4,jS 5 2 5] [2])),[(2,(some (some 5)))]⟩
def Tv:ACode:=(js [jP 55 .lss 54 255] [1,2,6,54,55] (.seq (jx 55 4) (.seq (.block 5 (js [jM 56 54,jM 8 56] [1,2,6,8,54] (jr [jM 57 8,jP 58 .quo 57 8,jH 59 32 1 6 58,jE 60 59,jM 61 8,jP 62 .quo 61 51,jF 63 0 1,jH 64 5 1 63 62,jE 65 64,jM 66 8,jP 67 .rem 66 51,jO 68 .shr 65 67,jQ 69 .and 68 .u64 1,jV 70 .u8 69,jM 71 8,jP 72 .rem 71 8,jO 73 .shl 70 72,jO 74 .or 60 73,jH 75 32 1 6 58,jS 1 75 74] [1,2,6,54]))) (jr [jP 76 .add 54 1,jM 54 76] [1,2,6,54]))))
def ER:ACode:=(js [jP 31 .lss 30 5] [1,2,3,6,30,31] (.seq (jx 31 2) (.seq (.block 3 (js [jM 32 30,jM 7 32] [1,2,3,6,7,30] (js [jM 33 7,jF 34 0 1,jH 35 5 1 34 33,jE 36 35,jM 37 3,jO 38 .add 36 37,jF 39 0 1,jH 40 5 1 39 33,jS 1 40 38] [1,2,6,7,30] (js [jM 41 7,jF 42 0 1,jH 43 5 1 42 41,jE 44 43,jQ 45 .shr 44 .u64 51,jM 3 45] [1,2,3,6,7,30] (jr [jM 46 7,jF 47 0 1,jH 48 5 1 47 46,jE 49 48,jQ 50 .and 49 .u64 2251799813685247,jF 51 0 1,jH 52 5 1 51 46,jS 1 52 50] [1,2,3,6,30]))))) (jr [jP 53 .add 30 1,jM 30 53] [1,2,3,6,30]))))
def EP:ACode:=(js [jP 15 .lss 14 5] [1,2,3,13,14,15] (.seq (jx 15 0) (.seq (.block 1 (js [jo 16 (.index none 5 1 (jt 13) (jt 14)),jM 5 16] [1,2,3,5,13,14] (jr [jM 17 5,jM 18 3,jO 19 .add 17 18,jQ 20 .shr 19 .u64 51,jM 3 20] [1,2,3,13,14]))) (jr [jP 21 .add 14 1,jM 14 21] [1,2,3,13,14]))))
def a57:AFun:=⟨(js [jB 1 0,jZ 2 32 .u8] [1,2] (js [jL 9 5 1,jC 10 174 9,jC 11 174 10,jS 5 1 11] [1,2] (js [jk 3 .u64 19] [1,2,3] (.seq (js [jF 12 0 1,jL 13 5 12,jI 14 0] [1,2,3,13,14] (jK 0 EP)) (js [jF 22 0 1,jA 23 5 1 22 0,jE 24 23,jM 25 3,jo 26 (.bin .mul (.const (.int .u64 19)) (jt 25)),jO 27 .add 24 26,jF 28 0 1,jA 29 5 1 28 0,jS 1 29 27] [1,2] (js [jk 3 .u64 0] [1,2,3] (js [jZ 6 32 .u8] [1,2,3,6] (.seq (js [jI 30 0] [1,2,3,6,30] (jK 2 ER)) (.seq (js [jI 54 0] [1,2,6,54] (jK 4 Tv)) (ja [jL 77 32 6,jS 32 2 77] [2])))))))))),[(2,(some (some 32)))]⟩
def a58:AFun:=⟨(js [jB 1 0,jT 2 false] [1] (ja [jL 3 5 1,jC 4 111 3,jo 5 (.index none 32 1 (jt 4) (ji 0)),jQ 6 .and 5 .u8 1,jQ 7 .eql 6 .u8 1,jM 2 7] [2])),[(2,none)]⟩
def a59:AFun:=⟨(js [jB 1 0,jT 2 false] [1] (ja [jL 3 32 1,jC 4 105 3,jC 5 111 4,jL 6 32 1,je 7 32 false 5 6,jM 2 7] [2])),[(2,none)]⟩
def a60:AFun:=⟨(js [jB 2 0,jB 3 1,jZ 4 5 .u64,jT 5 false] [2,3,4] (js [jL 9 5 3,jL 10 5 3,jL 11 5 3,jo 12 (.buildSlice (Qa 15 (.int .u64 0)) 3 [jp 0 5 9,jp 5 5 10,jp 10 5 11]),jc 13 169 12,jZ 6 5 .u64,jS 5 6 13] [2,3,4,6] (.seq (.region [jL 14 5 2,jL 15 5 6,jL 16 5 2,jL 17 5 6,jL 18 5 6,jL 19 5 3,jo 20 (.buildSlice (Qa 20 (.int .u64 0)) 4 [jp 0 5 16,jp 5 5 17,jp 10 5 18,jp 15 5 19]),jc 21 169 20,jo 22 (.call 176 [(ji 252),(.const (.int .u8 2))] true),jD 23 175 21 22,jo 24 (.buildSlice (Qa 15 (.int .u64 0)) 3 [jp 0 5 14,jp 5 5 15,jp 10 5 23]),jc 25 169 24,jZ 7 5 .u64,jS 5 7 25] (some [2,3,4,7]) [(0,7),(1,7)]) (.seq (js [jL 26 5 3,jL 27 5 7,jL 28 5 7,jo 29 (.buildSlice (Qa 15 (.int .u64 0)) 3 [jp 0 5 26,jp 5 5 27,jp 10 5 28]),jc 30 169 29,jZ 8 5 .u64,jS 5 8 30] [2,4,7,8] (.block 0 (js [jL 33 5 8,jL 34 5 2,jD 35 185 33 34,jM 32 35] [2,4,7,8,32] (.cond (jt 32) .skip (js [jL 37 5 8,jL 38 5 2,jC 39 126 38,jD 40 185 37 39,jM 36 40] [4,7,36] (.cond (jt 36) (jr [jL 41 5 7,jv 42 106 .u32 2,jo 43 (.call 176 [(ji 253),(.const (.int .u8 4))] true),jD 44 175 42 43,jD 45 109 41 44,jS 5 7 45] [4,7]) (ja [jo 31 (.build (Qa 5 (.int .u64 0)) []),jS 5 4 31,jT 5 false] [4,5]))))))) (.seq (js [jL 46 5 7,jC 47 136 46] [4,7,47] (.cond (jt 47) (jr [jL 48 5 7,jC 49 126 48,jS 5 7 49] [4,7]) .skip)) (ja [jL 50 5 7,jS 5 4 50,jT 5 true] [4,5])))))),[(4,(some (some 5))),(5,none)]⟩
def EO:ACode:=(js [jP 7 .lss 6 5] [2,3,4,6,7] (.seq (jx 7 0) (.seq (.block 1 (js [jM 8 6,jM 5 8] [2,3,4,5,6] (jr [jM 9 5,jF 10 0 2,jH 11 5 1 10 9,jE 12 11,jM 13 5,jF 14 0 3,jH 15 5 1 14 13,jE 16 15,jo 17 (.bin .sub (.const (.int .u64 9007199254740988)) (jt 16)),jO 18 .add 12 17,jF 19 0 2,jH 20 5 1 19 9,jS 1 20 18] [2,3,4,6]))) (jr [jP 21 .add 6 1,jM 6 21] [2,3,4,6]))))
def a61:AFun:=⟨(js [jB 2 0,jB 3 1,jZ 4 5 .u64] [2,3,4] (.seq (js [jI 6 0] [2,3,4,6] (jK 0 EO)) (js [jF 22 0 2,jA 23 5 1 22 0,jE 24 23,jQ 25 .sub 24 .u64 72,jF 26 0 2,jA 27 5 1 26 0,jS 1 27 25] [2,4] (ja [jL 28 5 2,jC 29 174 28,jS 5 4 29] [4])))),[(4,(some (some 5)))]⟩
def EN:ACode:=(js [jP 15 .lss 14 5] [2,3,4,5,7,8,9,14,15] (.seq (jx 15 2) (.seq (.block 3 (js [jM 16 14,jM 6 16] [2,3,4,5,6,7,8,9,14] (jr [jM 17 6,jF 18 0 3,jH 19 5 1 18 17,jE 20 19,jM 21 6,jF 22 0 5,jH 23 5 1 22 21,jE 24 23,jO 25 .add 20 24,jF 26 0 3,jH 27 5 1 26 17,jS 1 27 25] [2,3,4,5,7,8,9,14]))) (jr [jP 28 .add 14 1,jM 14 28] [2,3,4,5,7,8,9,14]))))
def EM:ACode:=(js [jO 10 .lss 9 8] [2,3,7,8,9,10] (.seq (jx 10 0) (.seq (.block 1 (js [jM 11 9,jJ 12 5 7 9,jL 13 5 12,jZ 5 5 .u64,jM 4 11,jS 5 5 13] [2,3,4,5,7,8,9] (.seq (js [jI 14 0] [2,3,4,5,7,8,9,14] (jK 2 EN)) (js [jM 29 4,jP 30 .rem 29 64,jP 31 .eql 30 63] [2,3,7,8,9,31] (.cond (jt 31) (jr [jL 32 5 3,jC 33 174 32,jS 5 3 33] [2,3,7,8,9]) .skip))))) (jr [jP 34 .add 9 1,jM 9 34] [2,3,7,8,9]))))
def a62:AFun:=⟨(js [jZ 2 5 .u64] [0,2] (js [jZ 3 5 .u64] [0,2,3] (.seq (js [jM 7 0,jY 8 7,jI 9 0] [2,3,7,8,9] (jK 0 EM)) (ja [jL 35 5 3,jC 36 174 35,jS 5 2 36] [2])))),[(2,(some (some 5)))]⟩
def a63:AFun:=⟨(js [jB 1 0,jT 2 false] [1] (ja [jL 3 5 1,jC 4 111 3,jb 5 [] 32,je 6 32 false 4 5,jM 2 6] [2])),[(2,none)]⟩
def a64:AFun:=⟨(js [jB 1 0,jZ 2 5 .u64] [1,2] (ja [jo 3 (.build (Qa 5 (.int .u64 0)) []),jL 4 5 1,jD 5 122 3 4,jS 5 2 5] [2])),[(2,(some (some 5)))]⟩
def EL:ACode:=(.seq (js [jM 6 4,jP 7 .lss 6 16] [1,2,3,4,7] (jx 7 0)) (.seq (.block 1 (jr [jM 10 4,jM 11 4,jo 12 (.bin .mul (ji 2) (jt 11)),jH 13 32 1 1 12,jE 14 13,jV 15 .u64 14,jM 16 4,jo 17 (.bin .mul (ji 2) (jt 16)),jP 18 .add 17 1,jH 19 32 1 1 18,jE 20 19,jV 21 .u64 20,jo 22 (.bin .mul (.const (.int .u64 256)) (jt 21)),jO 23 .add 15 22,jH 24 16 1 3 10,jS 1 24 23] [1,2,3,4])) (jr [jM 8 4,jP 9 .add 8 1,jM 4 9] [1,2,3,4])))
def a65:AFun:=⟨(js [jB 1 0,jZ 2 16 .u64] [1,2] (js [jo 5 (.build (Qa 16 (.int .u64 0)) []),jZ 3 16 .u64,jS 16 3 5] [1,2,3] (.seq (js [jI 4 0] [1,2,3,4] (jK 0 EL)) (js [jA 25 16 1 3 15,jE 26 25,jQ 27 .rem 26 .u64 32768,jA 28 16 1 3 15,jS 1 28 27] [2,3] (ja [jL 29 16 3,jS 16 2 29] [2]))))),[(2,(some (some 16)))]⟩
def EK:ACode:=(.seq (js [jM 8 4,jP 9 .lss 8 16] [1,2,3,4,9] (jx 9 0)) (.seq (.block 1 (js [jM 12 4,jo 13 (.bin .mul (ji 2) (jt 12)),jM 14 4,jH 15 16 1 1 14,jE 16 15,jQ 17 .rem 16 .u64 256,jV 18 .u8 17,jH 19 32 1 3 13,jS 1 19 18] [1,2,3,4] (jr [jM 20 4,jo 21 (.bin .mul (ji 2) (jt 20)),jP 22 .add 21 1,jM 23 4,jH 24 16 1 1 23,jE 25 24,jQ 26 .quo 25 .u64 256,jV 27 .u8 26,jH 28 32 1 3 22,jS 1 28 27] [1,2,3,4]))) (jr [jM 10 4,jP 11 .add 10 1,jM 4 11] [1,2,3,4])))
def a66:AFun:=⟨(js [jB 1 0,jZ 2 32 .u8] [1,2] (js [jL 5 16 1,jC 6 190 5,jS 16 1 6] [1,2] (js [jb 7 [] 32,jZ 3 32 .u8,jS 32 3 7] [1,2,3] (.seq (js [jI 4 0] [1,2,3,4] (jK 0 EK)) (ja [jL 29 32 3,jS 32 2 29] [2]))))),[(2,(some (some 32)))]⟩
def EJ:ACode:=(.seq (js [jM 12 7,jP 13 .lss 12 16] [2,3,4,5,6,7,13] (jx 13 2)) (.seq (.block 3 (jr [jM 16 6,jM 17 7,jO 18 .add 16 17,jH 19 32 1 5 18,jE 20 19,jM 21 6,jH 22 16 1 2 21,jE 23 22,jM 24 7,jH 25 16 1 3 24,jE 26 25,jO 27 .mul 23 26,jO 28 .add 20 27,jH 29 32 1 5 18,jS 1 29 28] [2,3,4,5,6,7])) (jr [jM 14 7,jP 15 .add 14 1,jM 7 15] [2,3,4,5,6,7])))
def EI:ACode:=(.seq (js [jM 8 6,jP 9 .lss 8 16] [2,3,4,5,6,9] (jx 9 0)) (.seq (.block 1 (js [jI 7 0] [2,3,4,5,6,7] (jK 2 EJ))) (jr [jM 10 6,jP 11 .add 10 1,jM 6 11] [2,3,4,5,6])))
def a67:AFun:=⟨(js [jB 2 0,jB 3 1,jZ 4 16 .u64] [2,3,4] (js [jZ 5 32 .u64] [2,3,4,5] (.seq (js [jI 6 0] [2,3,4,5,6] (jK 0 EI)) (ja [jL 30 32 5,jC 31 191 30,jS 16 4 31] [4])))),[(4,(some (some 16)))]⟩
def EH:ACode:=(.seq (js [jM 19 7,jP 20 .geq 19 0] [1,2,4,5,6,7,20] (jx 20 2)) (.seq (.block 3 (js [jM 23 7,jH 24 16 1 4 23,jE 25 24,jM 26 6,jQ 27 .mul 26 .u64 65536,jO 28 .add 25 27,jM 8 28] [1,2,4,5,7,8] (js [jM 29 7,jM 30 8,jQ 31 .quo 30 .u64 2,jH 32 16 1 4 29,jS 1 32 31] [1,2,4,5,7,8] (jr [jM 33 8,jQ 34 .rem 33 .u64 2,jM 6 34] [1,2,4,5,6,7])))) (jr [jM 21 7,jP 22 .sub 21 1,jM 7 22] [1,2,4,5,6,7])))
def EG:ACode:=(.seq (js [jM 15 5,jP 16 .lss 15 3] [1,2,4,5,16] (jx 16 0)) (.seq (.block 1 (js [jk 6 .u64 0] [1,2,4,5,6] (js [jI 7 15] [1,2,4,5,6,7] (jK 2 EH)))) (jr [jM 17 5,jP 18 .add 17 1,jM 5 18] [1,2,4,5])))
def a68:AFun:=⟨(js [jB 1 0,jZ 2 16 .u64,jT 3 false] [1,2] (js [jf 10 192,jZ 4 16 .u64,jS 16 4 10] [1,2,4] (js [jA 11 16 1 4 0,jE 12 11,jQ 13 .add 12 .u64 3,jA 14 16 1 4 0,jS 1 14 13] [1,2,4] (.seq (js [jI 5 0] [1,2,4,5] (jK 0 EG)) (js [jL 35 16 1,jL 36 16 4,jD 37 193 35 36,jZ 9 16 .u64,jS 16 9 37] [1,2,9] (.seq (js [jL 38 16 9,jL 39 16 9,jD 40 139 38 39,jC 41 190 40,jL 42 16 1,jC 43 190 42,je 44 16 true 41 43] [1,2,9,44] (.cond (jt 44) (jr [jL 45 16 9,jf 46 194,jD 47 139 45 46,jS 16 9 47] [1,2,9]) .skip)) (ja [jL 48 16 9,jC 49 190 48,jL 50 16 9,jL 51 16 9,jD 52 139 50 51,jC 53 190 52,jL 54 16 1,jC 55 190 54,je 56 16 false 53 55,jS 16 2 49,jM 3 56] [2,3]))))))),[(2,(some (some 16))),(3,none)]⟩
def a69:AFun:=⟨(js [jB 2 0,jB 3 1,jZ 4 16 .u64] [2,3,4] (ja [jL 5 16 2,jL 6 16 3,jC 7 145 6,jD 8 144 5 7,jS 16 4 8] [4])),[(4,(some (some 16)))]⟩
def a70:AFun:=⟨(js [jZ 2 16 .u64] [0,2] (ja [jM 3 0,jQ 4 .rem 3 .u64 65536,jM 5 0,jQ 6 .quo 5 .u64 65536,jQ 7 .rem 6 .u64 65536,jo 8 (.build (Qa 16 (.int .u64 0)) [jp 0 1 4,jp 1 1 7]),jS 16 2 8] [2])),[(2,(some (some 16)))]⟩
def a71:AFun:=⟨(js [jB 1 0,jZ 2 16 .u64] [1,2] (ja [jL 3 16 1,jf 4 192,jv 5 142 .u64 2,jD 6 195 4 5,jD 7 193 3 6,jS 16 2 7] [2])),[(2,(some (some 16)))]⟩
def EF:ACode:=(.seq (js [jM 7 6,jP 8 .lss 7 16] [2,3,4,5,6,8] (jx 8 0)) (.seq (.block 1 (jr [jM 11 6,jM 12 6,jH 13 16 1 2 12,jE 14 13,jM 15 6,jH 16 16 1 3 15,jE 17 16,jO 18 .add 14 17,jH 19 32 1 5 11,jS 1 19 18] [2,3,4,5,6])) (jr [jM 9 6,jP 10 .add 9 1,jM 6 10] [2,3,4,5,6])))
def a72:AFun:=⟨(js [jB 2 0,jB 3 1,jZ 4 16 .u64] [2,3,4] (js [jZ 5 32 .u64] [2,3,4,5] (.seq (js [jI 6 0] [2,3,4,5,6] (jK 0 EF)) (ja [jL 20 32 5,jC 21 191 20,jS 16 4 21] [4])))),[(4,(some (some 16)))]⟩
def a73:AFun:=⟨(js [jB 1 0,jZ 2 16 .u64] [1,2] (js [jL 3 16 1,jC 4 190 3,jS 16 1 4] [1,2] (.seq (js [jL 5 16 1,jo 6 (.build (Qa 16 (.int .u64 0)) []),je 7 16 false 5 6] [1,2,7] (jl 7 [jL 8 16 1,jS 16 2 8] [2])) (ja [jf 9 192,jL 10 16 1,jD 11 195 9 10,jS 16 2 11] [2])))),[(2,(some (some 16)))]⟩
def a74:AFun:=⟨(js [jZ 0 48 .u64] [0] (ja [jv 1 142 .u64 1,jv 2 142 .u64 1,jo 3 (.build (Qa 48 (.int .u64 0)) [jp 16 16 1,jp 32 16 2]),jS 48 0 3] [0])),[(0,(some (some 48)))]⟩
def a75:AFun:=⟨(js [jk 6 .u32 0,jk 7 .u32 0] [0,1,2] (js [jM 8 0,jM 9 1,jO 10 .sub 8 9,jM 11 2,jO 12 .sub 10 11,jM 6 12] [0,1,6] (ja [jM 13 0,jo 14 (.un .xor (jt 13)),jM 15 1,jO 16 .and 14 15,jM 17 0,jM 18 1,jO 19 .xor 17 18,jo 20 (.un .xor (jt 19)),jM 21 6,jO 22 .and 20 21,jO 23 .or 16 22,jQ 24 .shr 23 .u64 31,jM 7 24] [6,7]))),[(6,none),(7,none)]⟩
def a76:AFun:=⟨(js [jk 6 .u32 0,jk 7 .u32 0] [0,1,2] (js [jM 9 0,jV 10 .u64 9,jM 11 1,jV 12 .u64 11,jO 13 .add 10 12,jM 14 2,jV 15 .u64 14,jO 16 .add 13 15,jM 8 16] [8] (js [jM 17 8,jV 18 .u32 17,jM 6 18] [6,8] (ja [jM 19 8,jQ 20 .shr 19 .u64 32,jV 21 .u32 20,jM 7 21] [6,7])))),[(6,none),(7,none)]⟩
def a77:AFun:=⟨(js [jo 4 (.alloc [(.int .u64 0),(.int .u64 0)])] [0,1,4] (js [jM 8 0,jM 9 1,jD 10 206 8 9,jM 7 10,jX 11 7 0,jX 12 7 1,jM 5 11,jM 6 12] [4,5,6] (ja [jM 13 5,jM 14 6,jo 15 (.build [(.int .u64 0),(.int .u64 0)] [jp 0 1 13,jp 1 1 14]),jS 2 4 15] [4]))),[(4,(some (some 2)))]⟩
def a78:AFun:=⟨(js [jB 3 0,jo 6 (.alloc [(.int .u64 0),(.int .u64 0)])] [1,2,3,6] (js [jM 11 1,jM 12 2,jD 13 206 11 12,jM 10 13,jX 14 10 0,jX 15 10 1,jM 7 14,jM 8 15] [3,6,7,8] (js [jF 17 1 3,jE 18 17,jM 19 8,jo 20 (.call 207 [(jt 18),(jt 19),(.const (.int .u64 0))] true),jM 16 20,jX 21 16 0,jX 22 16 1,jM 8 21,jM 9 22] [3,6,7,8,9] (js [jF 24 0 3,jE 25 24,jM 26 7,jM 27 9,jG 28 207 25 26 27,jM 23 28,jX 29 23 0,jX 30 23 1,jM 7 29] [6,7,8] (ja [jM 31 7,jM 32 8,jo 33 (.build [(.int .u64 0),(.int .u64 0)] [jp 0 1 31,jp 1 1 32]),jS 2 6 33] [6]))))),[(6,(some (some 2)))]⟩
def a79:AFun:=⟨(js [jB 1 0,jk 2 .u64 0,jk 3 .u64 0] [1] (ja [jF 4 0 1,jE 5 4,jQ 6 .shl 5 .u64 13,jF 7 1 1,jE 8 7,jQ 9 .shr 8 .u64 51,jO 10 .or 6 9,jF 11 1 1,jE 12 11,jQ 13 .and 12 .u64 2251799813685247,jM 2 10,jM 3 13] [2,3])),[(2,none),(3,none)]⟩
def a80:AFun:=⟨(js [jB 2 0,jo 4 (.alloc [(.int .u64 0),(.int .u64 0)])] [1,2,4] (js [jF 8 1 2,jE 9 8,jM 10 1,jo 11 (.call 207 [(jt 9),(jt 10),(.const (.int .u64 0))] true),jM 7 11,jX 12 7 0,jX 13 7 1,jM 5 12,jM 6 13] [2,4,5,6] (ja [jF 14 0 2,jE 15 14,jM 16 6,jO 17 .add 15 16,jM 18 5,jo 19 (.build [(.int .u64 0),(.int .u64 0)] [jp 0 1 17,jp 1 1 18]),jS 2 4 19] [4]))),[(4,(some (some 2)))]⟩
def pK:ACode:=(js [jP 6 .lss 5 5] [1,2,3,5,6] (.seq (jx 6 0) (.seq (.block 1 (js [jM 7 5,jM 4 7] [1,2,3,4,5] (js [jM 8 4,jF 9 0 1,jH 10 5 1 9 8,jE 11 10,jM 12 3,jO 13 .add 11 12,jF 14 0 1,jH 15 5 1 14 8,jS 1 15 13] [1,2,4,5] (js [jM 16 4,jF 17 0 1,jH 18 5 1 17 16,jE 19 18,jQ 20 .shr 19 .u64 51,jM 3 20] [1,2,3,4,5] (jr [jM 21 4,jF 22 0 1,jH 23 5 1 22 21,jE 24 23,jQ 25 .and 24 .u64 2251799813685247,jF 26 0 1,jH 27 5 1 26 21,jS 1 27 25] [1,2,3,5]))))) (jr [jP 28 .add 5 1,jM 5 28] [1,2,3,5]))))
def a81:AFun:=⟨(js [jB 1 0,jZ 2 5 .u64] [1,2] (js [jk 3 .u64 0] [1,2,3] (.seq (js [jI 5 0] [1,2,3,5] (jK 0 pK)) (js [jF 29 0 1,jA 30 5 1 29 0,jE 31 30,jM 32 3,jo 33 (.bin .mul (.const (.int .u64 19)) (jt 32)),jO 34 .add 31 33,jF 35 0 1,jA 36 5 1 35 0,jS 1 36 34] [1,2] (ja [jL 37 5 1,jS 5 2 37] [2]))))),[(2,(some (some 5)))]⟩
def EE:ACode:=(js [jO 10 .lss 9 8] [2,3,7,8,9,10] (.seq (jx 10 0) (.seq (.block 1 (js [jJ 11 5 7 9,jL 12 5 11,jZ 5 5 .u64,jS 5 5 12] [2,3,5,7,8,9] (jr [jL 13 5 3,jL 14 5 5,jD 15 109 13 14,jS 5 3 15] [2,3,7,8,9]))) (jr [jP 16 .add 9 1,jM 9 16] [2,3,7,8,9]))))
def a82:AFun:=⟨(js [jZ 2 5 .u64] [0,2] (js [jv 6 106 .u32 1,jZ 3 5 .u64,jS 5 3 6] [0,2,3] (.seq (js [jM 7 0,jY 8 7,jI 9 0] [2,3,7,8,9] (jK 0 EE)) (ja [jL 17 5 3,jS 5 2 17] [2])))),[(2,(some (some 5)))]⟩
def Tu:ACode:=(.seq (js [jM 8 6,jP 9 .geq 8 0] [2,3,4,5,6,9] (jx 9 0)) (.seq (.block 1 (js [jL 12 5 5,jL 13 5 5,jD 14 109 12 13,jS 5 5 14] [2,3,4,5,6] (js [jM 15 6,jP 16 .quo 15 8,jH 17 32 1 3 16,jE 18 17,jM 19 6,jP 20 .rem 19 8,jO 21 .shr 18 20,jQ 22 .and 21 .u8 1,jQ 23 .eql 22 .u8 1] [2,3,4,5,6,23] (.cond (jt 23) (jr [jL 24 5 5,jL 25 5 2,jD 26 109 24 25,jS 5 5 26] [2,3,4,5,6]) .skip)))) (jr [jM 10 6,jP 11 .sub 10 1,jM 6 11] [2,3,4,5,6])))
def a83:AFun:=⟨(js [jB 2 0,jB 3 1,jZ 4 5 .u64] [2,3,4] (js [jv 7 106 .u32 1,jZ 5 5 .u64,jS 5 5 7] [2,3,4,5] (.seq (js [jI 6 255] [2,3,4,5,6] (jK 0 Tu)) (ja [jL 27 5 5,jS 5 4 27] [4])))),[(4,(some (some 5)))]⟩
def EC:ACode:=(js [jO 9 .lss 8 7] [1,4,5,7,8,9] (.seq (jx 9 0) (.seq (.block 1 (js [jM 10 8,jM 6 10] [1,4,5,6,7,8] (jr [jM 11 6,jP 12 .quo 11 8,jH 13 32 1 5 12,jE 14 13,jM 15 6,jP 16 .rem 15 8,jo 17 (.bin .shl (.const (.int .u8 1)) (jt 16)),jO 18 .or 14 17,jH 19 32 1 5 12,jS 1 19 18] [1,4,5,7,8]))) (jr [jP 20 .add 8 1,jM 8 20] [1,4,5,7,8]))))
def a84:AFun:=⟨(js [jZ 4 32 .u8] [0,1,4] (js [jZ 5 32 .u8] [0,1,4,5] (.seq (js [jM 7 0,jI 8 0] [1,4,5,7,8] (jK 0 EC)) (js [jA 21 32 1 5 0,jE 22 21,jM 23 1,jO 24 .sub 22 23,jA 25 32 1 5 0,jS 1 25 24] [4,5] (ja [jL 26 32 5,jS 32 4 26] [4]))))),[(4,(some (some 32)))]⟩
def Nj:ACode:=(.seq (js [jL 3 16 1,jf 4 192,jD 5 211 3 4,jU 6 5] [1,2,6] (jx 6 0)) (.block 1 (jr [jL 7 16 1,jf 8 192,jD 9 195 7 8,jS 16 1 9] [1,2])))
def a85:AFun:=⟨(js [jB 1 0,jZ 2 16 .u64] [1,2] (.seq (jK 0 Nj) (ja [jL 10 16 1,jS 16 2 10] [2]))),[(2,(some (some 16)))]⟩
def EB:ACode:=(.seq (js [jM 46 9,jP 47 .lss 46 16] [1,2,9,47] (jx 47 6)) (.seq (.block 7 (js [jM 50 9,jH 51 32 1 1 50,jE 52 51,jM 53 9,jP 54 .add 53 16,jH 55 32 1 1 54,jE 56 55,jo 57 (.bin .mul (.const (.int .u64 38)) (jt 56)),jO 58 .add 52 57,jH 59 32 1 1 50,jS 1 59 58] [1,2,9] (jr [jM 60 9,jP 61 .add 60 16,jH 62 32 1 1 61,jq (.store 1 (jt 62) (.const (.int .u64 0)))] [1,2,9]))) (jr [jM 48 9,jP 49 .add 48 1,jM 9 49] [1,2,9])))
def Mh:ACode:=(.seq (js [jM 26 8,jP 27 .lss 26 16] [1,2,6,7,8,27] (jx 27 4)) (.seq (.block 5 (js [jM 30 8,jM 31 8,jH 32 32 1 1 31,jE 33 32,jH 34 16 1 6 30,jS 1 34 33] [1,2,6,7,8] (jr [jM 35 7,jM 36 35,.mk (some 37) (.move (jt 8)) (some (36,false)),.mk (some 38) (.bin .add (jt 37) (ji 16)) (some (36,false)),.mk (some 39) (.indexAddr 32 1 (jt 1) (jt 38)) (some (36,false)),.mk (some 40) (.load none (jt 39)) (some (36,false)),.mk (some 41) (.bin .neq (jt 40) (.const (.int .u64 0))) (some (36,false)),jo 42 (.pick (jt 36) (.const (.bool true)) (jt 41)),jM 7 42] [1,2,6,7,8]))) (jr [jM 28 8,jP 29 .add 28 1,jM 8 29] [1,2,6,7,8])))
def EA:ACode:=(.seq (js [jM 10 4,jP 11 .lss 10 32] [1,2,3,4,11] (jx 11 2)) (.seq (.block 3 (js [jM 14 4,jH 15 32 1 1 14,jE 16 15,jM 17 3,jO 18 .add 16 17,jM 5 18] [1,2,4,5] (js [jM 19 4,jM 20 5,jQ 21 .rem 20 .u64 65536,jH 22 32 1 1 19,jS 1 22 21] [1,2,4,5] (jr [jM 23 5,jQ 24 .quo 23 .u64 65536,jM 3 24] [1,2,3,4])))) (jr [jM 12 4,jP 13 .add 12 1,jM 4 13] [1,2,3,4])))
def Nh:ACode:=(.block 1 (js [jk 3 .u64 0] [1,2,3] (.seq (js [jI 4 0] [1,2,3,4] (jK 2 EA)) (js [jo 25 (.build (Qa 16 (.int .u64 0)) []),jZ 6 16 .u64,jS 16 6 25] [1,2,6] (js [jT 7 false] [1,2,6,7] (.seq (js [jI 8 0] [1,2,6,7,8] (jK 4 Mh)) (.seq (js [jM 43 7,jU 44 43] [1,2,6,44] (jl 44 [jL 45 16 6,jS 16 2 45] [2])) (js [jI 9 0] [1,2,9] (jK 6 EB)))))))))
def a86:AFun:=⟨(js [jB 1 0,jZ 2 16 .u64] [1,2] (jK 0 Nh)),[(2,(some (some 16)))]⟩
def E9:ACode:=(.seq (js [jM 4 2,jP 5 .lss 4 16] [0,1,2,5] (jx 5 0)) (.seq (.block 1 (jr [jM 8 2,jH 9 16 1 1 8,jq (.store 1 (jt 9) (.const (.int .u64 65535)))] [0,1,2])) (jr [jM 6 2,jP 7 .add 6 1,jM 2 7] [0,1,2])))
def a87:AFun:=⟨(js [jZ 0 16 .u64] [0] (js [jo 3 (.build (Qa 16 (.int .u64 0)) []),jZ 1 16 .u64,jS 16 1 3] [0,1] (.seq (js [jI 2 0] [0,1,2] (jK 0 E9)) (js [jA 10 16 1 1 0,jq (.store 1 (jt 10) (.const (.int .u64 65517)))] [0,1] (js [jA 11 16 1 1 15,jq (.store 1 (jt 11) (.const (.int .u64 32767)))] [0,1] (ja [jL 12 16 1,jS 16 0 12] [0])))))),[(0,(some (some 16)))]⟩
def E7:ACode:=(.seq (js [jM 21 8,jM 22 6,jP 23 .rem 22 16,jO 24 .lss 21 23] [2,3,4,5,6,7,8,24] (jx 24 2)) (.seq (.block 3 (jr [jM 27 7,jQ 28 .quo 27 .u64 2,jM 7 28] [2,3,4,5,6,7,8])) (jr [jM 25 8,jP 26 .add 25 1,jM 8 26] [2,3,4,5,6,7,8])))
def Tt:ACode:=(.seq (js [jM 10 6,jP 11 .geq 10 0] [2,3,4,5,6,11] (jx 11 0)) (.seq (.block 1 (js [jL 14 16 5,jL 15 16 5,jD 16 139 14 15,jS 16 5 16] [2,3,4,5,6] (js [jM 17 6,jP 18 .quo 17 16,jH 19 16 1 3 18,jE 20 19,jM 7 20] [2,3,4,5,6,7] (.seq (js [jI 8 0] [2,3,4,5,6,7,8] (jK 2 E7)) (js [jM 29 7,jQ 30 .rem 29 .u64 2,jQ 31 .eql 30 .u64 1] [2,3,4,5,6,31] (.cond (jt 31) (jr [jL 32 16 5,jL 33 16 2,jD 34 139 32 33,jS 16 5 34] [2,3,4,5,6]) .skip)))))) (jr [jM 12 6,jP 13 .sub 12 1,jM 6 13] [2,3,4,5,6])))
def a88:AFun:=⟨(js [jB 2 0,jB 3 1,jZ 4 16 .u64] [2,3,4] (js [jv 9 142 .u64 1,jZ 5 16 .u64,jS 16 5 9] [2,3,4,5] (.seq (js [jI 6 255] [2,3,4,5,6] (jK 0 Tt)) (ja [jL 35 16 5,jS 16 4 35] [4])))),[(4,(some (some 16)))]⟩
def E6:ACode:=(.seq (js [jM 15 4,jP 16 .geq 15 0] [0,1,2,3,4,16] (jx 16 2)) (.seq (.block 3 (js [jM 19 4,jH 20 16 1 1 19,jE 21 20,jM 22 3,jQ 23 .mul 22 .u64 65536,jO 24 .add 21 23,jM 5 24] [0,1,2,4,5] (js [jM 25 4,jM 26 5,jQ 27 .quo 26 .u64 2,jH 28 16 1 1 25,jS 1 28 27] [0,1,2,4,5] (jr [jM 29 5,jQ 30 .rem 29 .u64 2,jM 3 30] [0,1,2,3,4])))) (jr [jM 17 4,jP 18 .sub 17 1,jM 4 18] [0,1,2,3,4])))
def E5:ACode:=(.seq (js [jM 11 2,jP 12 .lss 11 2] [0,1,2,12] (jx 12 0)) (.seq (.block 1 (js [jk 3 .u64 0] [0,1,2,3] (js [jI 4 15] [0,1,2,3,4] (jK 2 E6)))) (jr [jM 13 2,jP 14 .add 13 1,jM 2 14] [0,1,2])))
def a89:AFun:=⟨(js [jZ 0 16 .u64] [0] (js [jf 6 192,jZ 1 16 .u64,jS 16 1 6] [0,1] (js [jA 7 16 1 1 0,jE 8 7,jQ 9 .sub 8 .u64 1,jA 10 16 1 1 0,jS 1 10 9] [0,1] (.seq (js [jI 2 0] [0,1,2] (jK 0 E5)) (ja [jv 31 142 .u64 2,jL 32 16 1,jD 33 193 31 32,jS 16 0 33] [0]))))),[(0,(some (some 16)))]⟩
def E4:ACode:=(.seq (js [jM 10 7,jP 11 .lss 10 16] [2,3,4,5,6,7,11] (jx 11 0)) (.seq (.block 1 (js [jM 14 7,jH 15 16 1 2 14,jE 16 15,jQ 17 .add 16 .u64 65536,jM 18 7,jH 19 16 1 3 18,jE 20 19,jO 21 .sub 17 20,jM 22 6,jO 23 .sub 21 22,jM 8 23] [2,3,4,5,7,8] (js [jM 24 7,jM 25 8,jQ 26 .rem 25 .u64 65536,jH 27 16 1 5 24,jS 1 27 26] [2,3,4,5,7,8] (jr [jM 28 8,jQ 29 .quo 28 .u64 65536,jo 30 (.bin .sub (.const (.int .u64 1)) (jt 29)),jM 6 30] [2,3,4,5,6,7])))) (jr [jM 12 7,jP 13 .add 12 1,jM 7 13] [2,3,4,5,6,7])))
def a90:AFun:=⟨(js [jB 2 0,jB 3 1,jZ 4 16 .u64] [2,3,4] (js [jo 9 (.build (Qa 16 (.int .u64 0)) []),jZ 5 16 .u64,jS 16 5 9] [2,3,4,5] (js [jk 6 .u64 0] [2,3,4,5,6] (.seq (js [jI 7 0] [2,3,4,5,6,7] (jK 0 E4)) (ja [jL 31 16 5,jS 16 4 31] [4]))))),[(4,(some (some 16)))]⟩
def a91:AFun:=⟨(js [jk 4 .u64 0,jk 5 .u64 0] [0,1] (js [jM 14 0,jQ 15 .and 14 .u64 4294967295,jM 6 15] [0,1,6] (js [jM 16 0,jQ 17 .shr 16 .u64 32,jM 7 17] [0,1,6,7] (js [jM 18 1,jQ 19 .and 18 .u64 4294967295,jM 8 19] [0,1,6,7,8] (js [jM 20 1,jQ 21 .shr 20 .u64 32,jM 9 21] [0,1,6,7,8,9] (js [jM 22 6,jM 23 8,jO 24 .mul 22 23,jM 10 24] [0,1,6,7,8,9,10] (js [jM 25 7,jM 26 8,jO 27 .mul 25 26,jM 28 10,jQ 29 .shr 28 .u64 32,jO 30 .add 27 29,jM 11 30] [0,1,6,7,9,11] (js [jM 31 11,jQ 32 .and 31 .u64 4294967295,jM 12 32] [0,1,6,7,9,11,12] (js [jM 33 11,jQ 34 .shr 33 .u64 32,jM 13 34] [0,1,6,7,9,12,13] (js [jM 35 12,jM 36 6,jM 37 9,jO 38 .mul 36 37,jO 39 .add 35 38,jM 12 39] [0,1,7,9,12,13] (js [jM 40 7,jM 41 9,jO 42 .mul 40 41,jM 43 13,jO 44 .add 42 43,jM 45 12,jQ 46 .shr 45 .u64 32,jO 47 .add 44 46,jM 4 47] [0,1,4] (ja [jM 48 0,jM 49 1,jO 50 .mul 48 49,jM 5 50] [4,5])))))))))))),[(4,none),(5,none)]⟩
def Ew:ACode:=(.seq (js [jM 6 5,jP 7 .geq 6 0] [2,3,5,7] (jx 7 0)) (.seq (.block 1 (js [jM 10 5,jH 11 16 1 2 10,jE 12 11,jM 13 5,jH 14 16 1 3 13,jE 15 14,jO 16 .neq 12 15] [2,3,5,16] (jl 16 [jM 17 5,jH 18 16 1 2 17,jE 19 18,jM 20 5,jH 21 16 1 3 20,jE 22 21,jO 23 .lss 19 22,jM 4 23] [4]))) (jr [jM 8 5,jP 9 .sub 8 1,jM 5 9] [2,3,5])))
def a93:AFun:=⟨(js [jB 2 0,jB 3 1,jT 4 false] [2,3] (.seq (js [jI 5 15] [2,3,5] (jK 0 Ew)) (ja [jT 4 false] [4]))),[(4,none)]⟩
def zg:AFun:=⟨(js [jB 2 0,jZ 4 64 .u8] [1,2,4] (js [jL 11 32 2,jC 12 102 11,jZ 5 64 .u8,jS 64 5 12] [1,4,5] (js [jf 13 68,jF 14 0 5,jL 15 32 14,jD 16 69 13 15,jC 17 71 16,jZ 6 32 .u8,jS 32 6 17] [1,4,5,6] (js [jF 18 32 5,jW 19 32 1 18,jo 20 (.buildSlice [(.slice none 0 0)] 1 [jp 0 1 19]),jM 21 1,jh 22 1 24 20 21,jc 23 66 22,jZ 7 32 .u8,jS 32 7 23] [1,4,5,6,7] (js [jf 24 68,jL 25 32 7,jD 26 69 24 25,jC 27 71 26,jZ 8 32 .u8,jS 32 8 27] [1,4,5,6,7,8] (js [jW 28 32 1 8,jW 29 32 1 6,jo 30 (.buildSlice [(.slice none 0 0),(.slice none 0 0)] 2 [jp 0 1 28,jp 1 1 29]),jM 31 1,jh 32 1 24 30 31,jc 33 66 32,jZ 9 32 .u8,jS 32 9 33] [4,5,7,8,9] (js [jL 34 32 9,jF 35 0 5,jL 36 32 35,jL 37 32 7,jG 38 103 34 36 37,jZ 10 32 .u8,jS 32 10 38] [4,8,10] (ja [jW 39 32 1 8,jW 40 32 1 10,jh 41 1 1 39 40,jo 42 (.s2ap 64 (jt 41)),jL 43 64 42,jS 64 4 43] [4])))))))),[(4,(some (some 64)))]⟩
def Tz:AFun:=⟨(js [jB 3 0,jB 4 1,jI 6 0] [2,3,4] (js [jL 15 32 3,jC 16 63 15,jM 14 16,jX 17 14 0,jX 18 14 1,jZ 7 20 .u64,jS 20 7 17,jM 8 18] [2,3,4,7,8] (.seq (js [jM 19 8,jP 20 .neq 19 0] [2,3,4,7,8,20] (jl 20 [jM 21 8,jM 6 21] [6])) (js [jo 22 (.sliceArr 64 1 (jt 4) none (some (ji 32)) none),jo 23 (.s2ap 32 (jt 22)),jL 24 32 23,jo 25 (.sliceArr 64 1 (jt 4) (some (ji 32)) none none),jo 26 (.s2ap 32 (jt 25)),jL 27 32 26,jZ 9 32 .u8,jZ 10 32 .u8,jS 32 9 24,jS 32 10 27] [2,3,7,9,10] (.seq (js [jL 28 20 7,jC 29 64 28,jM 30 29,.mk (some 31) (.load (some 32) (jt 10)) (some (30,false)),.mk (some 32) (.call 65 [(jt 31)] true) (some (30,false)),.mk (some 33) (.un .not (jt 32)) (some (30,false)),jo 34 (.pick (jt 30) (.const (.bool true)) (jt 33))] [2,3,7,9,10,34] (jl 34 [jI 6 70] [6])) (.seq (js [jL 36 32 9,jC 37 63 36,jM 35 37,jX 38 35 0,jX 39 35 1,jZ 11 20 .u64,jS 20 11 38,jM 12 39] [2,3,7,9,10,12] (js [jM 40 12,jP 41 .neq 40 0] [2,3,7,9,10,41] (jl 41 [jI 6 70] [6]))) (js [jW 42 32 1 9,jW 43 32 1 3,jo 44 (.buildSlice [(.slice none 0 0),(.slice none 0 0)] 2 [jp 0 1 42,jp 1 1 43]),jM 45 2,jh 46 1 24 44 45,jc 47 66 46,jZ 13 32 .u8,jS 32 13 47] [7,9,10,13] (.seq (.seq (.region [jf 48 68,jL 49 32 10,jD 50 69 48 49,jL 51 20 7,jC 52 70 51,jL 53 32 13,jD 54 69 52 53,jo 55 (.buildSlice (Qa 40 (.int .u64 0)) 2 [jp 0 20 50,jp 20 20 54]),jc 56 67 55,jC 57 71 56,jL 58 32 9,je 59 32 true 57 58] (some [59]) [(8,10)]) (jl 59 [jI 6 70] [6])) (ja [jI 6 0] [6]))))))))),[(6,none)]⟩
def zf:AFun:=⟨(js [jB 1 0,jZ 2 32 .u8] [1,2] (ja [jf 3 68,jL 4 32 1,jC 5 102 4,jo 6 (.field (some 32) 0 (jt 5)),jD 7 69 3 6,jC 8 71 7,jS 32 2 8] [2])),[(2,(some (some 32)))]⟩
def ze:AFun:=⟨(js [jB 1 0,jZ 2 64 .u8] [1,2] (js [jW 4 32 1 1,jo 5 (.buildSlice [(.slice none 0 0)] 1 [jp 0 1 4]),jc 6 133 5,jZ 3 64 .u8,jS 64 3 6] [2,3] (ja [jo 7 (.sliceArr 64 1 (jt 3) none (some (ji 32)) none),jo 8 (.s2ap 32 (jt 7)),jL 9 32 8,jC 10 104 9,jo 11 (.sliceArr 64 1 (jt 3) (some (ji 32)) none none),jo 12 (.s2ap 32 (jt 11)),jL 13 32 12,jb 14 [jp 0 32 10,jp 32 32 13] 64,jS 64 2 14] [2]))),[(2,(some (some 64)))]⟩
def zd:AFun:=⟨(js [jZ 2 32 .u8] [0,2] (js [jM 4 0,jc 5 133 4,jZ 3 64 .u8,jS 64 3 5] [2,3] (ja [jW 6 64 1 3,jo 7 (.buildSlice [(.slice none 0 0)] 1 [jp 0 1 6]),jc 8 134 7,jS 32 2 8] [2]))),[(2,(some (some 32)))]⟩
def zb:AFun:=⟨(js [jZ 2 64 .u8] [0,2] (js [jo 4 (.call 187 [] false),jM 3 4] [0,2,3] (js [jM 5 3,jM 6 0,jd 7 188 5 6] [2,3] (ja [jM 8 3,jc 9 189 8,jS 64 2 9] [2])))),[(2,(some (some 64)))]⟩
def za:AFun:=⟨(js [jo 0 (.move (.const (.pointer none)))] [] (ja [jo 1 (.build (Qa 8 (.int .u64 0)) [jg 0 .u64 7640891576956012808,jg 1 .u64 13503953896175478587,jg 2 .u64 4354685564936845355,jg 3 .u64 11912009170470909681,jg 4 .u64 5840696475078001361,jg 5 .u64 11170449401992604703,jg 6 .u64 2270897969802886507,jg 7 .u64 6620516959819538809]),jo 2 (.build [(.slice none 0 0),(.int .u64 0),(.int .u64 0),(.int .u64 0),(.int .u64 0),(.int .u64 0),(.int .u64 0),(.int .u64 0),(.int .u64 0),(.int .u64 0)] [jp 2 8 1]),jB 3 2,jM 0 3] [0])),[(0,none)]⟩
def R0:ACode:=(js [jO 9 .lss 8 7] [0,6,7,8,9] (.seq (jx 9 0) (.seq (.block 1 (js [jJ 10 1 6 8,jE 11 10,jM 5 11] [0,5,6,7,8] (jr [jM 12 0,jN 13 12,jF 14 0 13,jM 15 5,jM 16 0,jo 17 (.mkFunc (.func 210) [(jt 16)] []),jo 18 (.call 177 [(jt 14),(ji 128),(jt 15),(jt 17)] false)] [0,6,7,8]))) (jr [jP 19 .add 8 1,jM 8 19] [0,6,7,8]))))
def yZ:AFun:=⟨(js [jM 6 1,jY 7 6,jI 8 0] [0,6,7,8] (jK 0 R0)),[]⟩
def Rz:ACode:=(js [jP 33 .lss 32 64] [2,3,4,32,33] (.seq (jx 33 0) (.seq (.block 1 (js [jM 34 32,jM 5 34] [2,3,4,5,32] (jr [jM 35 5,jM 36 3,jM 37 5,jP 38 .quo 37 8,jN 39 36,jF 40 2 39,jH 41 8 1 40 38,jE 42 41,jM 43 5,jP 44 .rem 43 8,jo 45 (.bin .mul (ji 8) (jt 44)),jo 46 (.bin .sub (ji 56) (jt 45)),jO 47 .shr 42 46,jV 48 .u8 47,jH 49 64 1 4 35,jS 1 49 48] [2,3,4,32]))) (jr [jP 50 .add 32 1,jM 32 50] [2,3,4,32]))))
def yY:AFun:=⟨(js [jZ 2 64 .u8] [0,2] (.seq (.region [jo 6 (.buildSlice [] 0 []),jM 7 0,jN 8 7,jF 9 0 8,jF 10 0 9,jE 11 10,jh 12 1 1 6 11,jM 13 0,jN 14 13,jF 15 0 14,jF 16 1 15,jE 17 16,jo 18 (.build [(.slice none 0 0),(.int .u64 0)] [jp 0 1 12,jp 1 1 17]),jM 19 0,jN 20 19,jF 21 2 20,jL 22 8 21,jo 23 (.build [(.slice none 0 0),(.int .u64 0),(.int .u64 0),(.int .u64 0),(.int .u64 0),(.int .u64 0),(.int .u64 0),(.int .u64 0),(.int .u64 0),(.int .u64 0)] [jp 0 2 18,jp 2 8 22]),jB 24 23,jM 3 24] (some [0,2,3]) [(6,11),(6,16)]) (js [jM 25 3,jM 26 0,jN 27 26,jF 28 0 27,jo 29 (.call 179 [(jt 28),(ji 128),(ji 16)] false),jo 30 (.buildSlice [(.slice none 0 0)] 1 [jp 0 1 29]),jd 31 188 25 30] [2,3] (js [jZ 4 64 .u8] [2,3,4] (.seq (js [jI 32 0] [2,3,4,32] (jK 0 Rz)) (ja [jL 51 64 4,jS 64 2 51] [2])))))),[(2,(some (some 64)))]⟩
def WJ:ACode:=(.seq (js [jM 27 0,jN 28 27,jF 29 0 28,jE 30 29,jY 31 30,jM 32 1,jO 33 .geq 31 32] [0,1,3,33] (jx 33 0)) (.block 1 (js [jM 34 3,jM 35 0,jN 36 35,jF 37 0 36,jE 38 37,jM 39 1,jo 40 (.sliceSl 1 (jt 38) none (some (jt 39)) none),jo 41 (.callv (jt 34) [(jt 40)])] [0,1,3] (jr [jM 42 0,jM 43 0,jN 44 43,jF 45 0 44,jE 46 45,jM 47 1,jo 48 (.sliceSl 1 (jt 46) (some (jt 47)) none none),jN 49 42,jF 50 0 49,jS 1 50 48] [0,1,3]))))
def pY:AFun:=⟨(js [jM 8 0,jN 9 8,jF 10 1 9,jE 11 10,jM 12 2,jY 13 12,jV 14 .u64 13,jO 15 .add 11 14,jN 16 8,jF 17 1 16,jS 1 17 15] [0,1,2,3] (js [jM 18 0,jM 19 0,jN 20 19,jF 21 0 20,jE 22 21,jM 23 2,jh 24 1 1 22 23,jN 25 18,jF 26 0 25,jS 1 26 24] [0,1,3] (jK 0 WJ))),[]⟩
def Ry:ACode:=(js [jP 176 .lss 175 8] [0,174,175,176] (.seq (jx 176 6) (.seq (.block 7 (js [jM 177 175,jo 178 (.index none 8 1 (jt 174) (jt 175)),jM 15 177,jM 16 178] [0,15,16,174,175] (jr [jM 179 0,jM 180 15,jN 181 179,jF 182 2 181,jH 183 8 1 182 180,jE 184 183,jM 185 16,jO 186 .add 184 185,jN 187 179,jF 188 2 187,jH 189 8 1 188 180,jS 1 189 186] [0,174,175]))) (jr [jP 190 .add 175 1,jM 175 190] [0,174,175]))))
def Dj:ACode:=(js [jP 88 .lss 87 80] [0,4,10,86,87,88] (.seq (jx 88 4) (.seq (.block 5 (js [jM 89 87,jo 90 (.index none 80 1 (jt 86) (jt 87)),jM 11 89,jM 12 90] [0,4,10,11,12,86,87] (js [jA 91 8 1 10 7,jE 92 91,jA 93 8 1 10 4,jE 94 93,jo 95 (.call 214 [(jt 94),(ji (-14))] true),jA 96 8 1 10 4,jE 97 96,jo 98 (.call 214 [(jt 97),(ji (-18))] true),jO 99 .xor 95 98,jA 100 8 1 10 4,jE 101 100,jo 102 (.call 214 [(jt 101),(ji (-41))] true),jO 103 .xor 99 102,jO 104 .add 92 103,jA 105 8 1 10 4,jE 106 105,jA 107 8 1 10 5,jE 108 107,jO 109 .and 106 108,jA 110 8 1 10 4,jE 111 110,jo 112 (.un .xor (jt 111)),jA 113 8 1 10 6,jE 114 113,jO 115 .and 112 114,jO 116 .xor 109 115,jO 117 .add 104 116,jM 118 12,jO 119 .add 117 118,jM 120 11,jH 121 80 1 4 120,jE 122 121,jO 123 .add 119 122,jM 13 123] [0,4,10,13,86,87] (js [jA 124 8 1 10 0,jE 125 124,jo 126 (.call 214 [(jt 125),(ji (-28))] true),jA 127 8 1 10 0,jE 128 127,jo 129 (.call 214 [(jt 128),(ji (-34))] true),jO 130 .xor 126 129,jA 131 8 1 10 0,jE 132 131,jo 133 (.call 214 [(jt 132),(ji (-39))] true),jO 134 .xor 130 133,jA 135 8 1 10 0,jE 136 135,jA 137 8 1 10 1,jE 138 137,jO 139 .and 136 138,jA 140 8 1 10 0,jE 141 140,jA 142 8 1 10 2,jE 143 142,jO 144 .and 141 143,jO 145 .xor 139 144,jA 146 8 1 10 1,jE 147 146,jA 148 8 1 10 2,jE 149 148,jO 150 .and 147 149,jO 151 .xor 145 150,jO 152 .add 134 151,jM 14 152] [0,4,10,13,14,86,87] (jr [jM 153 13,jM 154 14,jO 155 .add 153 154,jA 156 8 1 10 0,jE 157 156,jA 158 8 1 10 1,jE 159 158,jA 160 8 1 10 2,jE 161 160,jA 162 8 1 10 3,jE 163 162,jM 164 13,jO 165 .add 163 164,jA 166 8 1 10 4,jE 167 166,jA 168 8 1 10 5,jE 169 168,jA 170 8 1 10 6,jE 171 170,jo 172 (.build (Qa 8 (.int .u64 0)) [jp 0 1 155,jp 1 1 157,jp 2 1 159,jp 3 1 161,jp 4 1 165,jp 5 1 167,jp 6 1 169,jp 7 1 171]),jS 8 10 172] [0,4,10,86,87]))))) (jr [jP 173 .add 87 1,jM 87 173] [0,4,10,86,87]))))
def Rx:ACode:=(js [jO 31 .lss 30 29] [0,1,4,5,17,28,29,30,31] (.seq (jx 31 2) (.seq (.block 3 (js [jJ 32 1 28 30,jE 33 32,jM 7 33] [0,1,4,5,7,17,28,29,30] (jr [jM 34 5,jM 35 5,jH 36 80 1 4 35,jE 37 36,jQ 38 .shl 37 .u64 8,jM 39 7,jV 40 .u64 39,jO 41 .or 38 40,jH 42 80 1 4 34,jS 1 42 41] [0,1,4,5,17,28,29,30]))) (jr [jP 43 .add 30 1,jM 30 43] [0,1,4,5,17,28,29,30]))))
def UO:ACode:=(js [jP 18 .lss 17 80] [0,1,4,17,18] (.seq (jx 18 0) (.seq (.block 1 (js [jM 19 17,jM 5 19] [0,1,4,5,17] (.seq (js [jM 20 5,jP 21 .lss 20 16] [0,1,4,5,17,21] (.cond (jt 21) (.seq (js [jM 22 1,jM 23 5,jo 24 (.bin .mul (ji 8) (jt 23)),jM 25 5,jo 26 (.bin .mul (ji 8) (jt 25)),jP 27 .add 26 8,jo 28 (.sliceSl 1 (jt 22) (some (jt 24)) (some (jt 27)) none),jY 29 28,jI 30 0] [0,1,4,5,17,28,29,30] (jK 2 Rx)) (.exit 1)) .skip)) (js [jM 44 5,jP 45 .sub 44 15,jH 46 80 1 4 45,jE 47 46,jM 48 5,jP 49 .sub 48 2,jH 50 80 1 4 49,jE 51 50,jM 8 47,jM 9 51] [0,1,4,5,8,9,17] (jr [jM 52 5,jM 53 5,jP 54 .sub 53 16,jH 55 80 1 4 54,jE 56 55,jM 57 5,jP 58 .sub 57 7,jH 59 80 1 4 58,jE 60 59,jO 61 .add 56 60,jM 62 8,jo 63 (.call 214 [(jt 62),(ji (-1))] true),jM 64 8,jo 65 (.call 214 [(jt 64),(ji (-8))] true),jO 66 .xor 63 65,jM 67 8,jQ 68 .shr 67 .u64 7,jO 69 .xor 66 68,jO 70 .add 61 69,jM 71 9,jo 72 (.call 214 [(jt 71),(ji (-19))] true),jM 73 9,jo 74 (.call 214 [(jt 73),(ji (-61))] true),jO 75 .xor 72 74,jM 76 9,jQ 77 .shr 76 .u64 6,jO 78 .xor 75 77,jO 79 .add 70 78,jH 80 80 1 4 52,jS 1 80 79] [0,1,4,17]))))) (jr [jP 81 .add 17 1,jM 17 81] [0,1,4,17]))))
def yX:AFun:=⟨(js [jZ 4 80 .u64] [0,1,4] (.seq (js [jI 17 0] [0,1,4,17] (jK 0 UO)) (js [jM 82 0,jN 83 82,jF 84 2 83,jL 85 8 84,jZ 10 8 .u64,jS 8 10 85] [0,4,10] (.seq (js [jf 86 209,jI 87 0] [0,4,10,86,87] (jK 4 Dj)) (js [jL 174 8 10,jI 175 0] [0,174,175] (jK 6 Ry)))))),[]⟩
def Yf:ACode:=(.seq (js [jM 29 8,jP 30 .geq 29 0] [0,7,8,30] (jx 30 2)) (.seq (.block 3 (js [jk 9 .u8 0] [0,7,8,9] (.seq (js [jM 33 8,jP 34 .lss 33 9] [0,7,8,9,34] (.cond (jt 34) (jr [jM 35 0,jN 36 35,jF 37 1 36,jE 38 37,jM 39 8,jo 40 (.bin .mul (ji 8) (jt 39)),jO 41 .shr 38 40,jQ 42 .shl 41 .u64 3,jV 43 .u8 42,jM 9 43] [0,7,8,9]) .skip)) (.seq (js [jM 44 8,jP 45 .gtr 44 0,jM 46 45,.mk (some 47) (.move (jt 8)) (some (46,true)),.mk (some 48) (.bin .lss (jt 47) (ji 9)) (some (46,true)),jo 49 (.pick (jt 46) (jt 48) (.const (.bool false)))] [0,7,8,9,49] (.cond (jt 49) (jr [jM 50 9,jM 51 0,jN 52 51,jF 53 1 52,jE 54 53,jM 55 8,jo 56 (.bin .mul (ji 8) (jt 55)),jP 57 .sub 56 8,jO 58 .shr 54 57,jQ 59 .and 58 .u64 255,jQ 60 .shr 59 .u64 5,jV 61 .u8 60,jO 62 .or 50 61,jM 9 62] [0,7,8,9]) .skip)) (jr [jM 63 7,jM 64 9,jo 65 (.buildSlice [(.int .u8 0)] 1 [jp 0 1 64]),jh 66 1 1 63 65,jM 7 66] [0,7,8]))))) (jr [jM 31 8,jP 32 .sub 31 1,jM 8 32] [0,7,8])))
def WI:ACode:=(.seq (js [jM 11 0,jN 12 11,jF 13 1 12,jE 14 13,jV 15 .i64 14,jM 16 7,jY 17 16,jO 18 .add 15 17,jM 19 2,jO 20 .add 18 19,jM 21 1,jO 22 .rem 20 21,jP 23 .neq 22 0] [0,1,2,7,23] (jx 23 0)) (.block 1 (jr [jM 24 7,jo 25 (.buildSlice [(.int .u8 0)] 1 [jg 0 .u8 0]),jh 26 1 1 24 25,jM 7 26] [0,1,2,7])))
def pX:AFun:=⟨(js [jn 6] [0,1,2] (js [jo 10 (.buildSlice [(.int .u8 0)] 1 [jg 0 .u8 128]),jM 7 10] [0,1,2,7] (.seq (jK 0 WI) (.seq (js [jM 27 2,jP 28 .sub 27 1,jM 8 28] [0,7,8] (jK 2 Yf)) (ja [jM 67 7,jM 6 67] [6]))))),[(6,none)]⟩
def yW:AFun:=⟨(js [jk 4 .u64 0] [0,1] (js [jM 6 1,jV 7 .u64 6,jQ 8 .and 7 .u64 63,jM 5 8] [0,5] (ja [jM 9 0,jM 10 5,jO 11 .shl 9 10,jM 12 0,jM 13 5,jo 14 (.bin .sub (.const (.int .u64 64)) (jt 13)),jO 15 .shr 12 14,jO 16 .or 11 15,jM 4 16] [4]))),[(4,none)]⟩
def yV:AFun:=⟨(js [jZ 0 80 .u64] [0] (ja [jo 1 (.build (Qa 80 (.int .u64 0)) [jg 0 .u64 4794697086780616226,jg 1 .u64 8158064640168781261,jg 2 .u64 13096744586834688815,jg 3 .u64 16840607885511220156,jg 4 .u64 4131703408338449720,jg 5 .u64 6480981068601479193,jg 6 .u64 10538285296894168987,jg 7 .u64 12329834152419229976,jg 8 .u64 15566598209576043074,jg 9 .u64 1334009975649890238,jg 10 .u64 2608012711638119052,jg 11 .u64 6128411473006802146,jg 12 .u64 8268148722764581231,jg 13 .u64 9286055187155687089,jg 14 .u64 11230858885718282805,jg 15 .u64 13951009754708518548,jg 16 .u64 16472876342353939154,jg 17 .u64 17275323862435702243,jg 18 .u64 1135362057144423861,jg 19 .u64 2597628984639134821,jg 20 .u64 3308224258029322869,jg 21 .u64 5365058923640841347,jg 22 .u64 6679025012923562964,jg 23 .u64 8573033837759648693,jg 24 .u64 10970295158949994411,jg 25 .u64 12119686244451234320,jg 26 .u64 12683024718118986047,jg 27 .u64 13788192230050041572,jg 28 .u64 14330467153632333762,jg 29 .u64 15395433587784984357,jg 30 .u64 489312712824947311,jg 31 .u64 1452737877330783856,jg 32 .u64 2861767655752347644,jg 33 .u64 3322285676063803686,jg 34 .u64 5560940570517711597,jg 35 .u64 5996557281743188959,jg 36 .u64 7280758554555802590,jg 37 .u64 8532644243296465576,jg 38 .u64 9350256976987008742,jg 39 .u64 10552545826968843579,jg 40 .u64 11727347734174303076,jg 41 .u64 12113106623233404929,jg 42 .u64 14000437183269869457,jg 43 .u64 14369950271660146224,jg 44 .u64 15101387698204529176,jg 45 .u64 15463397548674623760,jg 46 .u64 17586052441742319658,jg 47 .u64 1182934255886127544,jg 48 .u64 1847814050463011016,jg 49 .u64 2177327727835720531,jg 50 .u64 2830643537854262169,jg 51 .u64 3796741975233480872,jg 52 .u64 4115178125766777443,jg 53 .u64 5681478168544905931,jg 54 .u64 6601373596472566643,jg 55 .u64 7507060721942968483,jg 56 .u64 8399075790359081724,jg 57 .u64 8693463985226723168,jg 58 .u64 9568029438360202098,jg 59 .u64 10144078919501101548,jg 60 .u64 10430055236837252648,jg 61 .u64 11840083180663258601,jg 62 .u64 13761210420658862357,jg 63 .u64 14299343276471374635,jg 64 .u64 14566680578165727644,jg 65 .u64 15097957966210449927,jg 66 .u64 16922976911328602910,jg 67 .u64 17689382322260857208,jg 68 .u64 500013540394364858,jg 69 .u64 748580250866718886,jg 70 .u64 1242879168328830382,jg 71 .u64 1977374033974150939,jg 72 .u64 2944078676154940804,jg 73 .u64 3659926193048069267,jg 74 .u64 4368137639120453308,jg 75 .u64 4836135668995329356,jg 76 .u64 5532061633213252278,jg 77 .u64 6448918945643986474,jg 78 .u64 6902733635092675308,jg 79 .u64 7801388544844847127]),jS 80 0 1] [0])),[(0,(some (some 80)))]⟩
def yU:AFun:=⟨(js [jB 1 0,jZ 2 32 .u8] [1,2] (js [jL 6 32 1,jC 7 119 6,jM 5 7,jX 8 5 0,jX 9 5 1,jZ 3 32 .u8,jZ 4 32 .u8,jS 32 3 8,jS 32 4 9] [2,3] (ja [jL 10 32 3,jf 11 78,jD 12 74 10 11,jC 13 73 12,jS 32 2 13] [2]))),[(2,(some (some 32)))]⟩
def Rw:ACode:=(.seq (js [jM 25 11,jP 26 .lss 25 32] [2,3,4,7,9,10,11,26] (jx 26 0)) (.seq (.block 1 (js [jM 29 11,jM 30 11,jH 31 64 1 4 30,jE 32 31,jH 33 32 1 9 29,jS 1 33 32] [2,3,4,7,9,10,11] (jr [jM 34 11,jM 35 11,jP 36 .add 35 32,jH 37 64 1 4 36,jE 38 37,jH 39 32 1 10 34,jS 1 39 38] [2,3,4,7,9,10,11]))) (jr [jM 27 11,jP 28 .add 27 1,jM 11 28] [2,3,4,7,9,10,11])))
def Ty:AFun:=⟨(js [jB 3 0,jB 4 1,jI 6 0] [2,3,4] (js [jL 16 32 3,jC 17 72 16,jM 15 17,jX 18 15 0,jX 19 15 1,jZ 7 48 .u64,jS 48 7 18,jM 8 19] [2,3,4,7,8] (.seq (js [jM 20 8,jP 21 .neq 20 0] [2,3,4,7,8,21] (jl 21 [jM 22 8,jM 6 22] [6])) (js [jb 23 [] 32,jb 24 [] 32,jZ 9 32 .u8,jZ 10 32 .u8,jS 32 9 23,jS 32 10 24] [2,3,4,7,9,10] (.seq (js [jI 11 0] [2,3,4,7,9,10,11] (jK 0 Rw)) (.seq (js [jb 40 [jg 0 .u8 8] 32,jL 41 48 7,jD 42 74 40 41,jC 43 73 42,jb 44 [jg 0 .u8 1] 32,je 45 32 false 43 44,jM 46 45,.mk (some 47) (.load (some 32) (jt 10)) (some (46,false)),.mk (some 48) (.call 75 [(jt 47)] true) (some (46,false)),.mk (some 49) (.un .not (jt 48)) (some (46,false)),jo 50 (.pick (jt 46) (.const (.bool true)) (jt 49))] [2,3,7,9,10,50] (jl 50 [jI 6 70] [6])) (js [jL 52 32 9,jC 53 72 52,jM 51 53,jX 54 51 0,jX 55 51 1,jZ 12 48 .u64,jS 48 12 54,jM 13 55] [2,3,7,9,10,12,13] (.seq (js [jM 56 13,jP 57 .neq 56 0] [2,3,7,9,10,12,57] (jl 57 [jI 6 70] [6])) (js [jL 58 32 9,jC 59 77 58,jL 60 32 3,jC 61 77 60,jO 62 .add 59 61,jM 63 2,jO 64 .add 62 63,jC 65 76 64,jZ 14 32 .u8,jS 32 14 65] [7,10,12,14] (.seq (js [jL 66 32 10,jf 67 78,jD 68 74 66 67,jC 69 73 68,jL 70 48 12,jL 71 32 14,jL 72 48 7,jD 73 74 71 72,jf 74 80,jG 75 79 70 73 74,jC 76 73 75,je 77 32 true 69 76] [77] (jl 77 [jI 6 70] [6])) (ja [jI 6 0] [6]))))))))))),[(6,none)]⟩
def Rv:ACode:=(.seq (js [jM 13 7,jP 14 .lss 13 32] [2,3,4,5,6,7,14] (jx 14 0)) (.seq (.block 1 (js [jM 17 7,jM 18 7,jH 19 64 1 4 18,jE 20 19,jH 21 32 1 5 17,jS 1 21 20] [2,3,4,5,6,7] (jr [jM 22 7,jM 23 7,jP 24 .add 23 32,jH 25 64 1 4 24,jE 26 25,jH 27 32 1 6 22,jS 1 27 26] [2,3,4,5,6,7]))) (jr [jM 15 7,jP 16 .add 15 1,jM 7 16] [2,3,4,5,6,7])))
def yT:AFun:=⟨(js [jB 1 0,jZ 2 32 .u8,jZ 3 32 .u8] [1,2,3] (js [jL 8 32 1,jC 9 77 8,jC 10 149 9,jZ 4 64 .u8,jS 64 4 10] [2,3,4] (js [jb 11 [] 32,jb 12 [] 32,jZ 5 32 .u8,jZ 6 32 .u8,jS 32 5 11,jS 32 6 12] [2,3,4,5,6] (.seq (js [jI 7 0] [2,3,4,5,6,7] (jK 0 Rv)) (js [jA 28 32 1 5 0,jE 29 28,jA 30 32 1 5 0,jE 31 30,jQ 32 .rem 31 .u8 8,jO 33 .sub 29 32,jA 34 32 1 5 0,jS 1 34 33] [2,3,5,6] (js [jA 35 32 1 5 31,jE 36 35,jQ 37 .rem 36 .u8 64,jQ 38 .add 37 .u8 64,jA 39 32 1 5 31,jS 1 39 38] [2,3,5,6] (.seq (.region [jL 40 32 5,jL 41 32 6,jS 32 2 40,jS 32 3 41] (some [2,3]) [(1,2)]) .ret))))))),[(2,(some (some 32))),(3,(some (some 32)))]⟩
def Di:ACode:=(.seq (js [jM 8 5,jP 9 .lss 8 64] [2,3,4,5,9] (jx 9 0)) (.seq (.block 1 (jr [jM 12 4,jM 13 5,jH 14 64 1 3 13,jE 15 14,jo 16 (.buildSlice [(.int .u8 0)] 1 [jp 0 1 15]),jo 17 (.b2s (jt 16)),jO 18 .add 12 17,jM 4 18] [2,3,4,5])) (jr [jM 10 5,jP 11 .add 10 1,jM 5 11] [2,3,4,5])))
def yS:AFun:=⟨(js [jZ 2 32 .u8] [0,2] (js [jM 6 0,jC 7 149 6,jZ 3 64 .u8,jS 64 3 7] [2,3] (js [jo 4 (.move (.const (.string (ByteArray.mk #[]))))] [2,3,4] (.seq (js [jI 5 0] [2,3,4,5] (jK 0 Di)) (ja [jM 19 4,jC 20 150 19,jS 32 2 20] [2]))))),[(2,(some (some 32)))]⟩
def Dh:ACode:=(.seq (js [jM 5 4,jP 6 .lss 5 32] [1,3,4,6] (jx 6 0)) (.seq (.block 1 (jr [jM 9 3,jM 10 4,jH 11 32 1 1 10,jE 12 11,jo 13 (.buildSlice [(.int .u8 0)] 1 [jp 0 1 12]),jo 14 (.b2s (jt 13)),jO 15 .add 9 14,jM 3 15] [1,3,4])) (jr [jM 7 4,jP 8 .add 7 1,jM 4 8] [1,3,4])))
def gX:AFun:=⟨(js [jB 1 0,jo 2 (.move (.const (.string (ByteArray.mk #[]))))] [1] (js [jo 3 (.move (.const (.string (ByteArray.mk #[]))))] [1,3] (.seq (js [jI 4 0] [1,3,4] (jK 0 Dh)) (ja [jM 16 3,jM 2 16] [2])))),[(2,none)]⟩
def Ru:ACode:=(.seq (js [jM 16 6,jP 17 .lss 16 64] [2,4,5,6,17] (jx 17 0)) (.seq (.block 1 (jr [jM 20 6,jM 21 4,jM 22 6,jJ 23 1 21 22,jE 24 23,jH 25 64 1 5 20,jS 1 25 24] [2,4,5,6])) (jr [jM 18 6,jP 19 .add 18 1,jM 6 19] [2,4,5,6])))
def yR:AFun:=⟨(js [jZ 2 64 .u8] [0,2] (js [jo 7 (.build [(.int .i64 0),(.int .i64 0),(.int .i64 0),(.slice none 0 0),(.int .i64 0),(.int .i64 0),(.int .i64 0),(.int .i64 0),(.int .i64 0),(.int .i64 0),(.int .i64 0),(.int .i64 0),(.int .i64 0),(.int .i64 0),(.int .i64 0),(.int .i64 0)] [jg 0 .i64 64,jg 1 .i64 80,jg 2 .i64 128]),jo 3 (.alloc [(.int .i64 0),(.int .i64 0),(.int .i64 0),(.slice none 0 0),(.int .i64 0),(.int .i64 0),(.int .i64 0),(.int .i64 0),(.int .i64 0),(.int .i64 0),(.int .i64 0),(.int .i64 0),(.int .i64 0),(.int .i64 0),(.int .i64 0),(.int .i64 0)]),jS 16 3 7] [0,2,3] (js [jo 8 (.buildSlice (Qa 8 (.int .u64 0)) 8 [jg 0 .u64 7640891576956012808,jg 1 .u64 13503953896175478587,jg 2 .u64 4354685564936845355,jg 3 .u64 11912009170470909681,jg 4 .u64 5840696475078001361,jg 5 .u64 11170449401992604703,jg 6 .u64 2270897969802886507,jg 7 .u64 6620516959819538809]),jF 9 3 3,jS 1 9 8] [0,2,3] (js [jo 10 (.build (Qa 12 (.int .i64 0)) [jg 0 .i64 1,jg 1 .i64 8,jg 2 .i64 7,jg 3 .i64 19,jg 4 .i64 61,jg 5 .i64 6,jg 6 .i64 28,jg 7 .i64 34,jg 8 .i64 39,jg 9 .i64 14,jg 10 .i64 18,jg 11 .i64 41]),jF 11 4 3,jS 12 11 10] [0,2,3] (js [jM 12 0,jL 13 16 3,jd 14 118 12 13,jM 4 14] [2,4] (js [jb 15 [] 64,jZ 5 64 .u8,jS 64 5 15] [2,4,5] (.seq (js [jI 6 0] [2,4,5,6] (jK 0 Ru)) (ja [jL 26 64 5,jS 64 2 26] [2])))))))),[(2,(some (some 64)))]⟩
def YT:ACode:=(.seq (js [jM 381 32,jP 382 .geq 381 0] [5,11,30,31,32,382] (jx 382 16)) (.seq (.block 17 (jr [jM 385 30,jM 386 11,jM 387 31,jJ 388 1 386 387,jE 389 388,jM 390 32,jo 391 (.bin .mul (ji 8) (jt 390)),jC 392 183 391,jO 393 .quo 389 392,jQ 394 .rem 393 .u64 256,jV 395 .u8 394,jo 396 (.buildSlice [(.int .u8 0)] 1 [jp 0 1 395]),jh 397 1 1 385 396,jM 30 397] [5,11,30,31,32])) (jr [jM 383 32,jP 384 .sub 383 1,jM 32 384] [5,11,30,31,32])))
def WH:ACode:=(.seq (js [jM 375 31,jP 376 .lss 375 8] [5,11,30,31,376] (jx 376 14)) (.seq (.block 15 (js [jM 379 5,jP 380 .sub 379 1,jM 32 380] [5,11,30,31,32] (jK 16 YT))) (jr [jM 377 31,jP 378 .add 377 1,jM 31 378] [5,11,30,31])))
def YS:ACode:=(.seq (js [jM 357 29,jP 358 .lss 357 8] [3,5,6,10,11,12,13,14,22,29,358] (jx 358 12)) (.seq (.block 13 (jr [jM 361 11,jM 362 29,jM 363 11,jM 364 29,jJ 365 1 363 364,jE 366 365,jM 367 22,jM 368 29,jJ 369 1 367 368,jE 370 369,jO 371 .add 366 370,jM 372 12,jD 373 184 371 372,jJ 374 1 361 362,jS 1 374 373] [3,5,6,10,11,12,13,14,22,29])) (jr [jM 359 29,jP 360 .add 359 1,jM 29 360] [3,5,6,10,11,12,13,14,22,29])))
def YR:ACode:=(.seq (js [jM 208 23,jF 209 1 3,jE 210 209,jO 211 .lss 208 210] [3,5,6,10,11,12,13,14,15,22,23,211] (jx 211 10)) (.seq (.block 11 (js [jM 214 10,jM 215 23,jJ 216 1 214 215,jE 217 216,jM 24 217] [3,5,6,10,11,12,13,14,15,22,23,24] (.seq (js [jM 218 12,jP 219 .eql 218 32] [3,5,6,10,11,12,13,14,15,22,23,24,219] (.cond (jt 219) (jr [jM 220 10,jM 221 23,jJ 222 1 220 221,jE 223 222,jo 224 (.call 183 [(ji 32)] true),jO 225 .quo 223 224,jM 24 225] [3,5,6,10,11,12,13,14,15,22,23,24]) .skip)) (js [jM 226 22,jy 227 1 226 4,jE 228 227,jM 229 22,jy 230 1 229 5,jE 231 230,jO 232 .and 228 231,jM 233 22,jy 234 1 233 4,jE 235 234,jo 236 (.bin .sub (.const (.int .u64 18446744073709551615)) (jt 235)),jM 237 12,jD 238 184 236 237,jM 239 22,jy 240 1 239 6,jE 241 240,jO 242 .and 238 241,jO 243 .or 232 242,jM 25 243] [3,5,6,10,11,12,13,14,15,22,23,24,25] (js [jM 244 22,jy 245 1 244 0,jE 246 245,jM 247 22,jy 248 1 247 1,jE 249 248,jO 250 .and 246 249,jM 251 22,jy 252 1 251 0,jE 253 252,jM 254 22,jy 255 1 254 2,jE 256 255,jO 257 .and 253 256,jO 258 .or 250 257,jM 259 22,jy 260 1 259 1,jE 261 260,jM 262 22,jy 263 1 262 2,jE 264 263,jO 265 .and 261 264,jO 266 .or 258 265,jM 26 266] [3,5,6,10,11,12,13,14,15,22,23,24,25,26] (js [jM 267 22,jy 268 1 267 7,jE 269 268,jM 270 22,jy 271 1 270 4,jE 272 271,jA 273 12 1 13 9,jE 274 273,jM 275 12,jG 276 182 272 274 275,jM 277 22,jy 278 1 277 4,jE 279 278,jA 280 12 1 13 10,jE 281 280,jM 282 12,jG 283 182 279 281 282,jM 284 22,jy 285 1 284 4,jE 286 285,jA 287 12 1 13 11,jE 288 287,jM 289 12,jG 290 182 286 288 289,jG 291 181 276 283 290,jO 292 .add 269 291,jM 293 25,jO 294 .add 292 293,jM 295 24,jO 296 .add 294 295,jM 297 15,jM 298 23,jJ 299 1 297 298,jE 300 299,jO 301 .add 296 300,jM 27 301] [3,5,6,10,11,12,13,14,15,22,23,26,27] (js [jM 302 22,jy 303 1 302 0,jE 304 303,jA 305 12 1 13 6,jE 306 305,jM 307 12,jG 308 182 304 306 307,jM 309 22,jy 310 1 309 0,jE 311 310,jA 312 12 1 13 7,jE 313 312,jM 314 12,jG 315 182 311 313 314,jM 316 22,jy 317 1 316 0,jE 318 317,jA 319 12 1 13 8,jE 320 319,jM 321 12,jG 322 182 318 320 321,jG 323 181 308 315 322,jM 324 26,jO 325 .add 323 324,jM 28 325] [3,5,6,10,11,12,13,14,15,22,23,27,28] (jr [jM 326 27,jM 327 28,jO 328 .add 326 327,jM 329 12,jD 330 184 328 329,jM 331 22,jy 332 1 331 0,jE 333 332,jM 334 22,jy 335 1 334 1,jE 336 335,jM 337 22,jy 338 1 337 2,jE 339 338,jM 340 22,jy 341 1 340 3,jE 342 341,jM 343 27,jO 344 .add 342 343,jM 345 12,jD 346 184 344 345,jM 347 22,jy 348 1 347 4,jE 349 348,jM 350 22,jy 351 1 350 5,jE 352 351,jM 353 22,jy 354 1 353 6,jE 355 354,jo 356 (.buildSlice (Qa 8 (.int .u64 0)) 8 [jp 0 1 330,jp 1 1 333,jp 2 1 336,jp 3 1 339,jp 4 1 346,jp 5 1 349,jp 6 1 352,jp 7 1 355]),jM 22 356] [3,5,6,10,11,12,13,14,15,22,23])))))))) (jr [jM 212 23,jP 213 .add 212 1,jM 23 213] [3,5,6,10,11,12,13,14,15,22,23])))
def WG:ACode:=(.seq (js [jM 118 17,jM 119 5,jO 120 .lss 118 119] [3,5,6,10,11,12,13,14,15,16,17,120] (jx 120 8)) (.seq (.block 9 (jr [jM 123 15,jM 124 16,jM 125 15,jM 126 16,jJ 127 1 125 126,jE 128 127,jQ 129 .mul 128 .u64 256,jM 130 6,jM 131 14,jM 132 5,jM 133 16,jO 134 .mul 132 133,jO 135 .add 131 134,jM 136 17,jO 137 .add 135 136,jJ 138 1 130 137,jE 139 138,jV 140 .u64 139,jO 141 .add 129 140,jJ 142 1 123 124,jS 1 142 141] [3,5,6,10,11,12,13,14,15,16,17])) (jr [jM 121 17,jP 122 .add 121 1,jM 17 122] [3,5,6,10,11,12,13,14,15,16,17])))
def Vl:ACode:=(.seq (js [jM 110 16,jF 111 1 3,jE 112 111,jO 113 .lss 110 112] [3,5,6,10,11,12,13,14,15,16,113] (jx 113 6)) (.seq (.block 7 (.seq (js [jM 116 16,jP 117 .lss 116 16] [3,5,6,10,11,12,13,14,15,16,117] (.cond (jt 117) (.seq (js [jI 17 0] [3,5,6,10,11,12,13,14,15,16,17] (jK 8 WG)) (.exit 7)) .skip)) (js [jM 143 15,jM 144 16,jP 145 .sub 144 15,jJ 146 1 143 145,jE 147 146,jM 148 15,jM 149 16,jP 150 .sub 149 2,jJ 151 1 148 150,jE 152 151,jM 18 147,jM 19 152] [3,5,6,10,11,12,13,14,15,16,18,19] (js [jM 153 18,jA 154 12 1 13 0,jE 155 154,jM 156 12,jG 157 182 153 155 156,jM 158 18,jA 159 12 1 13 1,jE 160 159,jM 161 12,jG 162 182 158 160 161,jM 163 18,jA 164 12 1 13 2,jE 165 164,jC 166 183 165,jO 167 .quo 163 166,jG 168 181 157 162 167,jM 20 168] [3,5,6,10,11,12,13,14,15,16,19,20] (js [jM 169 19,jA 170 12 1 13 3,jE 171 170,jM 172 12,jG 173 182 169 171 172,jM 174 19,jA 175 12 1 13 4,jE 176 175,jM 177 12,jG 178 182 174 176 177,jM 179 19,jA 180 12 1 13 5,jE 181 180,jC 182 183 181,jO 183 .quo 179 182,jG 184 181 173 178 183,jM 21 184] [3,5,6,10,11,12,13,14,15,16,20,21] (jr [jM 185 15,jM 186 16,jM 187 15,jM 188 16,jP 189 .sub 188 16,jJ 190 1 187 189,jE 191 190,jM 192 20,jO 193 .add 191 192,jM 194 15,jM 195 16,jP 196 .sub 195 7,jJ 197 1 194 196,jE 198 197,jO 199 .add 193 198,jM 200 21,jO 201 .add 199 200,jM 202 12,jD 203 184 201 202,jJ 204 1 185 186,jS 1 204 203] [3,5,6,10,11,12,13,14,15,16])))))) (jr [jM 114 16,jP 115 .add 114 1,jM 16 115] [3,5,6,10,11,12,13,14,15,16])))
def YQ:ACode:=(.seq (js [jM 99 14,jM 100 6,jY 101 100,jO 102 .lss 99 101] [3,5,6,10,11,12,13,14,102] (jx 102 4)) (.seq (.block 5 (js [jF 107 1 3,jE 108 107,jo 109 (.makeSlice [(.int .u64 0)] 8 (jt 108) (jt 108)),jM 15 109] [3,5,6,10,11,12,13,14,15] (.seq (js [jI 16 0] [3,5,6,10,11,12,13,14,15,16] (jK 6 Vl)) (js [jo 205 (.buildSlice [] 0 []),jM 206 11,jh 207 1 8 205 206,jM 22 207] [3,5,6,10,11,12,13,14,15,22] (.seq (js [jI 23 0] [3,5,6,10,11,12,13,14,15,22,23] (jK 10 YR)) (js [jI 29 0] [3,5,6,10,11,12,13,14,22,29] (jK 12 YS))))))) (jr [jM 103 14,jF 104 2 3,jE 105 104,jO 106 .add 103 105,jM 14 106] [3,5,6,10,11,12,13,14])))
def Vk:ACode:=(.seq (js [jM 61 9,jP 62 .geq 61 0] [3,5,6,7,8,9,62] (jx 62 2)) (.seq (.block 3 (js [jM 65 9,jM 66 5,jo 67 (.bin .mul (ji 2) (jt 66)),jP 68 .sub 67 1,jO 69 .eql 65 68] [3,5,6,7,8,9,69] (.cond (jt 69) (js [jM 70 7,jM 71 9,jM 72 8,jQ 73 .rem 72 .u64 32,jQ 74 .mul 73 .u64 8,jV 75 .u8 74,jJ 76 1 70 71,jS 1 76 75] [3,5,6,7,8,9] (jr [jM 77 8,jQ 78 .quo 77 .u64 32,jM 8 78] [3,5,6,7,8,9])) (js [jM 79 7,jM 80 9,jM 81 8,jQ 82 .rem 81 .u64 256,jV 83 .u8 82,jJ 84 1 79 80,jS 1 84 83] [3,5,6,7,8,9] (jr [jM 85 8,jQ 86 .quo 85 .u64 256,jM 8 86] [3,5,6,7,8,9]))))) (jr [jM 63 9,jP 64 .sub 63 1,jM 9 64] [3,5,6,7,8,9])))
def WE:ACode:=(.seq (js [jM 40 6,jY 41 40,jM 42 5,jo 43 (.bin .mul (ji 2) (jt 42)),jO 44 .add 41 43,jF 45 2 3,jE 46 45,jO 47 .rem 44 46,jP 48 .neq 47 0] [0,3,5,6,48] (jx 48 0)) (.block 1 (jr [jM 49 6,jo 50 (.buildSlice [(.int .u8 0)] 1 [jg 0 .u8 0]),jh 51 1 1 49 50,jM 6 51] [0,3,5,6])))
def pU:AFun:=⟨(js [jB 3 1,jn 4] [0,3] (js [jF 33 0 3,jE 34 33,jP 35 .quo 34 8,jM 5 35] [0,3,5] (js [jM 36 0,jo 37 (.s2b (jt 36)),jo 38 (.buildSlice [(.int .u8 0)] 1 [jg 0 .u8 128]),jh 39 1 1 37 38,jM 6 39] [0,3,5,6] (.seq (jK 0 WE) (js [jM 52 5,jo 53 (.bin .mul (ji 2) (jt 52)),jo 54 (.makeSlice [(.int .u8 0)] 1 (jt 53) (jt 53)),jM 7 54] [0,3,5,6,7] (js [jM 55 0,jo 56 (.len true (jt 55)),jV 57 .u64 56,jM 8 57] [3,5,6,7,8] (.seq (js [jM 58 5,jo 59 (.bin .mul (ji 2) (jt 58)),jP 60 .sub 59 1,jM 9 60] [3,5,6,7,8,9] (jK 2 Vk)) (js [jM 87 6,jM 88 7,jh 89 1 1 87 88,jM 6 89] [3,5,6] (js [jo 90 (.call 180 [] false),jM 10 90] [3,5,6,10] (js [jo 91 (.buildSlice [] 0 []),jF 92 3 3,jE 93 92,jh 94 1 8 91 93,jM 11 94] [3,5,6,10,11] (js [jF 95 0 3,jE 96 95,jF 97 4 3,jL 98 12 97,jZ 13 12 .i64,jM 12 96,jS 12 13 98] [3,5,6,10,11,12,13] (.seq (js [jI 14 0] [3,5,6,10,11,12,13,14] (jK 4 YQ)) (js [jn 30] [5,11,30] (.seq (js [jI 31 0] [5,11,30,31] (jK 14 WH)) (ja [jM 398 30,jM 4 398] [4]))))))))))))))),[(4,none)]⟩
def yQ:AFun:=⟨(js [jn 0] [] (ja [jo 1 (.buildSlice (Qa 80 (.int .u64 0)) 80 [jg 0 .u64 4794697086780616226,jg 1 .u64 8158064640168781261,jg 2 .u64 13096744586834688815,jg 3 .u64 16840607885511220156,jg 4 .u64 4131703408338449720,jg 5 .u64 6480981068601479193,jg 6 .u64 10538285296894168987,jg 7 .u64 12329834152419229976,jg 8 .u64 15566598209576043074,jg 9 .u64 1334009975649890238,jg 10 .u64 2608012711638119052,jg 11 .u64 6128411473006802146,jg 12 .u64 8268148722764581231,jg 13 .u64 9286055187155687089,jg 14 .u64 11230858885718282805,jg 15 .u64 13951009754708518548,jg 16 .u64 16472876342353939154,jg 17 .u64 17275323862435702243,jg 18 .u64 1135362057144423861,jg 19 .u64 2597628984639134821,jg 20 .u64 3308224258029322869,jg 21 .u64 5365058923640841347,jg 22 .u64 6679025012923562964,jg 23 .u64 8573033837759648693,jg 24 .u64 10970295158949994411,jg 25 .u64 12119686244451234320,jg 26 .u64 12683024718118986047,jg 27 .u64 13788192230050041572,jg 28 .u64 14330467153632333762,jg 29 .u64 15395433587784984357,jg 30 .u64 489312712824947311,jg 31 .u64 1452737877330783856,jg 32 .u64 2861767655752347644,jg 33 .u64 3322285676063803686,jg 34 .u64 5560940570517711597,jg 35 .u64 5996557281743188959,jg 36 .u64 7280758554555802590,jg 37 .u64 8532644243296465576,jg 38 .u64 9350256976987008742,jg 39 .u64 10552545826968843579,jg 40 .u64 11727347734174303076,jg 41 .u64 12113106623233404929,jg 42 .u64 14000437183269869457,jg 43 .u64 14369950271660146224,jg 44 .u64 15101387698204529176,jg 45 .u64 15463397548674623760,jg 46 .u64 17586052441742319658,jg 47 .u64 1182934255886127544,jg 48 .u64 1847814050463011016,jg 49 .u64 2177327727835720531,jg 50 .u64 2830643537854262169,jg 51 .u64 3796741975233480872,jg 52 .u64 4115178125766777443,jg 53 .u64 5681478168544905931,jg 54 .u64 6601373596472566643,jg 55 .u64 7507060721942968483,jg 56 .u64 8399075790359081724,jg 57 .u64 8693463985226723168,jg 58 .u64 9568029438360202098,jg 59 .u64 10144078919501101548,jg 60 .u64 10430055236837252648,jg 61 .u64 11840083180663258601,jg 62 .u64 13761210420658862357,jg 63 .u64 14299343276471374635,jg 64 .u64 14566680578165727644,jg 65 .u64 15097957966210449927,jg 66 .u64 16922976911328602910,jg 67 .u64 17689382322260857208,jg 68 .u64 500013540394364858,jg 69 .u64 748580250866718886,jg 70 .u64 1242879168328830382,jg 71 .u64 1977374033974150939,jg 72 .u64 2944078676154940804,jg 73 .u64 3659926193048069267,jg 74 .u64 4368137639120453308,jg 75 .u64 4836135668995329356,jg 76 .u64 5532061633213252278,jg 77 .u64 6448918945643986474,jg 78 .u64 6902733635092675308,jg 79 .u64 7801388544844847127]),jM 0 1] [0])),[(0,none)]⟩
def yP:AFun:=⟨(js [jk 6 .u64 0] [0,1,2] (ja [jM 7 0,jM 8 1,jO 9 .xor 7 8,jM 10 2,jO 11 .xor 9 10,jM 6 11] [6])),[(6,none)]⟩
def pT:AFun:=⟨(js [jk 6 .u64 0] [0,1,2] (.seq (js [jM 7 2,jP 8 .eql 7 64] [0,1,2,8] (jl 8 [jM 9 0,jM 10 1,jC 11 183 10,jO 12 .quo 9 11,jM 13 0,jM 14 1,jo 15 (.bin .sub (ji 64) (jt 14)),jC 16 183 15,jO 17 .mul 13 16,jO 18 .add 12 17,jM 6 18] [6])) (ja [jM 19 0,jM 20 1,jC 21 183 20,jO 22 .quo 19 21,jM 23 0,jM 24 1,jC 25 183 24,jO 26 .rem 23 25,jM 27 2,jM 28 1,jO 29 .sub 27 28,jC 30 183 29,jO 31 .mul 26 30,jO 32 .add 22 31,jM 6 32] [6]))),[(6,none)]⟩
def Rt:ACode:=(.seq (js [jM 5 4,jM 6 0,jO 7 .lss 5 6] [0,3,4,7] (jx 7 0)) (.seq (.block 1 (jr [jM 10 3,jQ 11 .mul 10 .u64 2,jM 3 11] [0,3,4])) (jr [jM 8 4,jP 9 .add 8 1,jM 4 9] [0,3,4])))
def yO:AFun:=⟨(js [jk 2 .u64 0] [0] (js [jk 3 .u64 1] [0,3] (.seq (js [jI 4 0] [0,3,4] (jK 0 Rt)) (ja [jM 12 3,jM 2 12] [2])))),[(2,none)]⟩
def pS:AFun:=⟨(js [jk 4 .u64 0] [0,1] (.seq (js [jM 5 1,jP 6 .eql 5 64] [0,1,6] (jl 6 [jM 7 0,jM 4 7] [4])) (ja [jM 8 0,jM 9 1,jC 10 183 9,jO 11 .rem 8 10,jM 4 11] [4]))),[(4,none)]⟩
def yN:AFun:=⟨(js [jT 0 false] [] (js [jb 8 [jg 0 .u8 1] 32,jb 9 [jg 0 .u8 2] 32,jb 10 [jp 0 32 8,jp 32 32 9] 64,jb 11 [jg 0 .u8 3] 32,jb 12 [jg 0 .u8 4] 32,jb 13 [jp 0 32 11,jp 32 32 12] 64,jZ 1 64 .u8,jZ 2 64 .u8,jS 64 1 10,jS 64 2 13] [1,2] (js [jL 14 64 2,jb 15 [jg 0 .u8 5] 32,jb 16 [jg 0 .u8 6] 32,jo 17 (.call 21 [(jt 14),(jt 15),(jt 16),(.const (.int .u32 7)),(.const (.int .u32 8))] true),jo 3 (.alloc Vg),jS 194 3 17] [1,2,3] (js [jL 19 64 1,jb 20 [jg 0 .u8 9] 32,jL 21 194 3,jG 22 7 19 20 21,jM 18 22,jX 23 18 0,jX 24 18 1,jZ 4 64 .u8,jS 64 4 23,jM 5 24] [1,2,3,4,5] (js [jL 26 64 2,jb 27 [jg 0 .u8 5] 32,jb 28 [jg 0 .u8 6] 32,jL 29 64 1,jC 30 23 29,jb 31 [jg 0 .u8 9] 32,jC 32 24 31,jo 33 (.call 22 [(jt 26),(jt 27),(jt 28),(jt 30),(jt 32)] true),jM 25 33,jX 34 25 0,jX 35 25 1,jZ 6 64 .u8,jS 64 6 34,jM 7 35] [3,4,5,6,7] (ja [jM 36 5,jP 37 .eql 36 0,jM 38 37,.mk (some 39) (.move (jt 7)) (some (38,true)),.mk (some 40) (.bin .eql (jt 39) (ji 0)) (some (38,true)),jo 41 (.pick (jt 38) (jt 40) (.const (.bool false))),jM 42 41,.mk (some 43) (.load (some 64) (jt 4)) (some (42,true)),.mk (some 44) (.load (some 64) (jt 6)) (some (42,true)),.mk (some 45) (.eqv (some (Qa 64 true)) false (jt 43) (jt 44)) (some (42,true)),jo 46 (.pick (jt 42) (jt 45) (.const (.bool false))),jM 47 46,.mk (some 48) (.fieldAddr 0 (jt 4)) (some (47,true)),.mk (some 49) (.load (some 32) (jt 48)) (some (47,true)),.mk (some 50) (.build (jz 32) []) (some (47,true)),.mk (some 51) (.eqv (some (Qa 32 true)) true (jt 49) (jt 50)) (some (47,true)),jo 52 (.pick (jt 47) (jt 51) (.const (.bool false))),jM 53 52,.mk (some 54) (.load (some 194) (jt 3)) (some (53,true)),.mk (some 55) (.call 10 [(jt 54)] true) (some (53,true)),.mk (some 56) (.bin .eql (jt 55) (ji 0)) (some (53,true)),jo 57 (.pick (jt 53) (jt 56) (.const (.bool false))),jM 58 57,.mk (some 59) (.fieldAddr 128 (jt 3)) (some (58,true)),.mk (some 60) (.load none (jt 59)) (some (58,true)),.mk (some 61) (.bin .eql (jt 60) (.const (.int .u32 7))) (some (58,true)),jo 62 (.pick (jt 58) (jt 61) (.const (.bool false))),jM 63 62,.mk (some 64) (.fieldAddr 129 (jt 3)) (some (63,true)),.mk (some 65) (.load none (jt 64)) (some (63,true)),.mk (some 66) (.bin .eql (jt 65) (.const (.int .u32 8))) (some (63,true)),jo 67 (.pick (jt 63) (jt 66) (.const (.bool false))),jM 0 67] [0])))))),[(0,none)]⟩
def pR:AFun:=⟨(js [jB 5 0,jB 6 1,jB 7 2,jo 10 (.alloc Vg)] [3,4,5,6,7,10] (js [jL 12 64 5,jC 13 23 12,jL 14 32 6,jC 15 24 14,jM 16 3,jo 17 (.build Vg [jp 0 64 13,jp 64 32 15,jp 128 1 16]),jo 11 (.alloc Vg),jS 194 11 17] [3,4,5,7,10,11] (.seq (js [jL 18 32 7,jb 19 [] 32,je 20 32 true 18 19] [3,4,5,7,10,11,20] (.cond (jt 20) (jr [jL 21 32 7,jC 22 24 21,jM 23 4,jF 24 96 11,jS 32 24 22,jF 25 129 11,jS 1 25 23] [3,5,10,11]) .skip)) (.seq (.region [jF 26 0 5,jL 27 32 26,jF 28 0 11,jF 29 32 28,jL 30 32 29,jF 31 64 11,jL 32 32 31,jM 33 3,jo 34 (.call 32 [(jt 30),(jt 32),(jt 33)] false),jd 35 53 27 34,jF 36 130 11,jS 64 36 35] (some [10,11]) [(1,8)]) (ja [jL 37 194 11,jS 194 10 37] [10]))))),[(10,(some (some 194)))]⟩
def Fj:AFun:=⟨(js [jB 3 0,jB 4 1,jB 5 2,jZ 6 64 .u8,jI 7 0] [3,4,5,6] (.seq (js [jL 12 194 5,jC 13 10 12,jM 8 13] [3,4,5,6,8] (js [jM 14 8,jP 15 .neq 14 0] [3,4,5,6,8,15] (.cond (jt 15) (ja [jb 16 [] 64,jM 17 8,jS 64 6 16,jM 7 17] [6,7]) .skip))) (js [jF 18 32 3,jL 19 32 18,jF 20 64 5,jL 21 32 20,jb 22 [jp 0 32 19,jp 32 32 21] 64,jL 23 32 4,jF 24 0 5,jF 25 32 24,jL 26 32 25,jb 27 [jp 0 32 23,jp 32 32 26] 64,jL 28 32 4,jF 29 64 5,jL 30 32 29,jb 31 [jp 0 32 28,jp 32 32 30] 64,jm 32 192 3 [jp 0 64 22,jp 64 64 27,jp 128 64 31],jM 9 32] [3,4,5,6,9] (.seq (js [jF 33 96 5,jL 34 32 33,jb 35 [] 32,je 36 32 true 34 35] [3,4,5,6,9,36] (.cond (jt 36) (jr [jM 37 9,jL 38 32 4,jF 39 96 5,jL 40 32 39,jb 41 [jp 0 32 38,jp 32 32 40] 64,jm 42 64 1 [jp 0 64 41],jh 43 64 64 37 42,jM 9 43] [3,5,6,9]) .skip)) (js [jM 45 9,jc 46 25 45,jM 44 46,jX 47 44 0,jX 48 44 1,jZ 10 32 .u8,jS 32 10 47,jM 11 48] [3,5,6,10,11] (.seq (js [jM 49 11,jP 50 .neq 49 0] [3,5,6,10,11,50] (.cond (jt 50) (ja [jb 51 [] 64,jM 52 11,jS 64 6 51,jM 7 52] [6,7]) .skip)) (ja [jL 53 32 10,jL 54 64 3,jC 55 23 54,jF 56 0 5,jL 57 64 56,jD 58 26 55 57,jb 59 [jp 0 32 53,jp 32 32 58] 64,jS 64 6 59,jI 7 0] [6,7]))))))),[(6,(some (some 64))),(7,none)]⟩
def Nl:AFun:=⟨(js [jB 5 0,jB 6 1,jB 7 2,jB 8 3,jB 9 4,jZ 10 64 .u8,jI 11 0] [5,6,7,8,9,10] (js [jL 15 32 6,jF 16 32 8,jL 17 32 16,jb 18 [jp 0 32 15,jp 32 32 17] 64,jF 19 32 5,jL 20 32 19,jL 21 32 9,jb 22 [jp 0 32 20,jp 32 32 21] 64,jL 23 32 6,jL 24 32 9,jb 25 [jp 0 32 23,jp 32 32 24] 64,jm 26 192 3 [jp 0 64 18,jp 64 64 22,jp 128 64 25],jM 12 26] [5,7,8,9,10,12] (.seq (js [jL 27 32 7,jb 28 [] 32,je 29 32 true 27 28] [5,7,8,9,10,12,29] (.cond (jt 29) (jr [jM 30 12,jL 31 32 7,jL 32 32 9,jb 33 [jp 0 32 31,jp 32 32 32] 64,jm 34 64 1 [jp 0 64 33],jh 35 64 64 30 34,jM 12 35] [5,8,10,12]) .skip)) (js [jM 37 12,jc 38 25 37,jM 36 38,jX 39 36 0,jX 40 36 1,jZ 13 32 .u8,jS 32 13 39,jM 14 40] [5,8,10,13,14] (.seq (js [jM 41 14,jP 42 .neq 41 0] [5,8,10,13,14,42] (.cond (jt 42) (ja [jb 43 [] 64,jM 44 14,jS 64 10 43,jM 11 44] [10,11]) .skip)) (ja [jL 45 32 13,jL 46 64 8,jL 47 64 5,jC 48 23 47,jD 49 26 46 48,jb 50 [jp 0 32 45,jp 32 32 49] 64,jS 64 10 50,jI 11 0] [10,11])))))),[(10,(some (some 64))),(11,none)]⟩
def yM:AFun:=⟨(js [jB 1 0,jZ 2 64 .u8] [1,2] (ja [jF 3 0 1,jL 4 32 3,jC 5 54 4,jF 6 32 1,jL 7 32 6,jC 8 24 7,jb 9 [jp 0 32 5,jp 32 32 8] 64,jS 64 2 9] [2])),[(2,(some (some 64)))]⟩
def yL:AFun:=⟨(js [jB 1 0,jZ 2 32 .u8] [1,2] (ja [jL 3 32 1,jb 4 [jg 0 .u8 9] 32,jD 5 55 3 4,jS 32 2 5] [2])),[(2,(some (some 32)))]⟩
def yK:AFun:=⟨(js [jB 1 0,jI 2 0] [1] (.seq (.region [jF 3 0 1,jF 4 0 3,jL 5 32 4,jF 6 130 1,jL 7 64 6,jF 8 0 1,jF 9 32 8,jL 10 32 9,jF 11 64 1,jL 12 32 11,jF 13 128 1,jE 14 13,jo 15 (.call 32 [(jt 10),(jt 12),(jt 14)] false),jo 16 (.call 31 [(jt 5),(jt 7),(jt 15)] false),jM 2 16] (some [2]) [(2,12),(4,12)]) .ret)),[(2,none)]⟩
def yJ:AFun:=⟨(js [jB 3 0,jB 4 1,jn 6] [2,3,4] (ja [jm 7 12 12 [jg 0 .u8 115,jg 1 .u8 105,jg 2 .u8 103,jg 3 .u8 110,jg 4 .u8 101,jg 5 .u8 116,jg 6 .u8 32,jg 7 .u8 111,jg 8 .u8 102,jg 9 .u8 102,jg 10 .u8 101,jg 11 .u8 114],jo 8 (.convSl (jt 7)),jW 9 32 1 3,jW 10 32 1 4,jM 11 2,jQ 12 .shr 11 .u64 24,jV 13 .u8 12,jM 14 2,jQ 15 .shr 14 .u64 16,jV 16 .u8 15,jM 17 2,jQ 18 .shr 17 .u64 8,jV 19 .u8 18,jM 20 2,jV 21 .u8 20,jo 22 (.buildSlice [(.int .u8 0),(.int .u8 0),(.int .u8 0),(.int .u8 0)] 4 [jp 0 1 13,jp 1 1 16,jp 2 1 19,jp 3 1 21]),jo 23 (.buildSlice [(.slice none 0 0),(.slice none 0 0),(.slice none 0 0),(.slice none 0 0)] 4 [jp 0 1 8,jp 1 1 9,jp 2 1 10,jp 3 1 22]),jM 6 23] [6])),[(6,none)]⟩
def UN:ACode:=(js [jO 25 .lss 24 23] [2,4,22,23,24,25] (.seq (jx 25 2) (.seq (.block 3 (js [jJ 26 64 22 24,jL 27 64 26,jZ 7 64 .u8,jS 64 7 27] [2,4,7,22,23,24] (js [jF 29 0 7,jL 30 32 29,jF 31 32 7,jL 32 32 31,jD 33 56 30 32,jM 28 33,jX 34 28 0,jX 35 28 1,jZ 8 32 .u8,jS 32 8 34,jM 9 35] [2,4,8,9,22,23,24] (.seq (js [jM 36 9,jP 37 .neq 36 0] [2,4,8,9,22,23,24,37] (.cond (jt 37) (ja [jb 38 [] 32,jM 39 9,jS 32 2 38,jM 3 39] [2,3]) .skip)) (jr [jM 40 4,jW 41 32 1 8,jh 42 1 1 40 41,jM 4 42] [2,4,22,23,24]))))) (jr [jP 43 .add 24 1,jM 24 43] [2,4,22,23,24]))))
def Rs:ACode:=(js [jO 16 .lss 15 14] [0,2,4,14,15,16] (.seq (jx 16 0) (.seq (.block 1 (js [jM 17 15,jM 5 17] [0,2,4,5,14,15] (jr [jM 18 4,jM 19 5,jJ 20 1 18 19,jq (.store 1 (jt 20) (.const (.int .u8 255)))] [0,2,4,14,15]))) (jr [jP 21 .add 15 1,jM 15 21] [0,2,4,14,15]))))
def pP:AFun:=⟨(js [jZ 2 32 .u8,jI 3 0] [0,2] (js [jo 12 (.makeSlice [(.int .u8 0)] 1 (ji 32) (ji 32)),jM 4 12] [0,2,4] (.seq (js [jM 13 4,jY 14 13,jI 15 0] [0,2,4,14,15] (jK 0 Rs)) (.seq (js [jM 22 0,jY 23 22,jI 24 0] [2,4,22,23,24] (jK 2 UN)) (js [jM 45 4,jo 46 (.call 57 [(.const (.slice none 0 0)),(jt 45),(.const (.string (ByteArray.mk #[115,105,103,110,101,116,32,97,103,114,101,101]))),(ji 1)] false),jM 44 46,jX 47 44 0,jX 48 44 1,jM 10 47,jM 11 48] [2,10,11] (.seq (js [jM 49 11,jP 50 .neq 49 0] [2,10,11,50] (.cond (jt 50) (ja [jb 51 [] 32,jM 52 11,jS 32 2 51,jM 3 52] [2,3]) .skip)) (ja [jM 53 10,jy 54 32 53 0,jL 55 32 54,jS 32 2 55,jI 3 0] [2,3]))))))),[(2,(some (some 32))),(3,none)]⟩
def yI:AFun:=⟨(js [jB 2 0,jB 3 1,jZ 4 32 .u8] [2,3,4] (ja [jm 5 12 12 [jg 0 .u8 115,jg 1 .u8 105,jg 2 .u8 103,jg 3 .u8 110,jg 4 .u8 101,jg 5 .u8 116,jg 6 .u8 32,jg 7 .u8 98,jg 8 .u8 111,jg 9 .u8 117,jg 10 .u8 110,jg 11 .u8 100],jo 6 (.convSl (jt 5)),jF 7 0 2,jW 8 32 1 7,jF 9 32 2,jW 10 32 1 9,jF 11 0 3,jW 12 32 1 11,jF 13 32 3,jW 14 32 1 13,jo 15 (.buildSlice (Qa 5 (.slice none 0 0)) 5 [jp 0 1 6,jp 1 1 8,jp 2 1 10,jp 3 1 12,jp 4 1 14]),jc 16 58 15,jS 32 4 16] [4])),[(4,(some (some 32)))]⟩
def Dg:ACode:=(.seq (js [jM 19 8,jP 20 .geq 19 0] [2,4,5,6,7,8,20] (jx 20 0)) (.seq (.block 1 (js [jM 23 8,jP 24 .quo 23 8,jH 25 32 1 2 24,jE 26 25,jM 27 8,jP 28 .rem 27 8,jO 29 .shr 26 28,jQ 30 .and 29 .u8 1,jQ 31 .eql 30 .u8 1,jM 9 31] [2,4,5,6,7,8,9] (js [jM 33 9,jL 34 10 6,jL 35 10 7,jG 36 107 33 34 35,jM 32 36,jX 37 32 0,jX 38 32 1,jS 10 6 37,jS 10 7 38] [2,4,5,6,7,8,9] (js [jL 40 10 6,jL 41 10 7,jL 42 5 5,jG 43 108 40 41 42,jM 39 43,jX 44 39 0,jX 45 39 1,jS 10 6 44,jS 10 7 45] [2,4,5,6,7,8,9] (jr [jM 47 9,jL 48 10 6,jL 49 10 7,jG 50 107 47 48 49,jM 46 50,jX 51 46 0,jX 52 46 1,jS 10 6 51,jS 10 7 52] [2,4,5,6,7,8]))))) (jr [jM 21 8,jP 22 .sub 21 1,jM 8 22] [2,4,5,6,7,8])))
def yH:AFun:=⟨(js [jB 2 0,jB 3 1,jZ 4 32 .u8] [2,3,4] (js [jL 10 32 2,jC 11 104 10,jS 32 2 11] [2,3,4] (js [jL 12 32 3,jC 13 105 12,jZ 5 5 .u64,jS 5 5 13] [2,4,5] (.seq (.region [jv 14 106 .u32 1,jo 15 (.build (Qa 10 (.int .u64 0)) [jp 0 5 14]),jL 16 5 5,jv 17 106 .u32 1,jo 18 (.build (Qa 10 (.int .u64 0)) [jp 0 5 16,jp 5 5 17]),jZ 6 10 .u64,jZ 7 10 .u64,jS 10 6 15,jS 10 7 18] (some [2,4,5,6,7]) [(2,7)]) (.seq (js [jI 8 254] [2,4,5,6,7,8] (jK 0 Dg)) (ja [jF 53 0 6,jL 54 5 53,jF 55 5 6,jL 56 5 55,jC 57 110 56,jD 58 109 54 57,jC 59 111 58,jS 32 4 59] [4])))))),[(4,(some (some 32)))]⟩
def pO:AFun:=⟨(js [jB 2 0,jB 3 1,jZ 4 32 .u8,jI 5 0] [2,3,4] (js [jL 7 32 2,jL 8 32 3,jD 9 55 7 8,jZ 6 32 .u8,jS 32 6 9] [4,6] (.seq (js [jL 10 32 6,jb 11 [] 32,je 12 32 false 10 11] [4,6,12] (.cond (jt 12) (ja [jb 13 [] 32,jS 32 4 13,jI 5 50] [4,5]) .skip)) (ja [jL 14 32 6,jS 32 4 14,jI 5 0] [4,5])))),[(4,(some (some 32))),(5,none)]⟩
def Rr:ACode:=(.seq (js [jM 35 10,jY 36 35,jP 37 .gtr 36 0] [10,12,37] (jx 37 0)) (.seq (.block 1 (jr [jM 40 12,jM 41 10,jo 42 (.sliceSl 1 (jt 41) none (some (ji 32)) none),jo 43 (.s2ap 32 (jt 42)),jL 44 32 43,jm 45 32 1 [jp 0 32 44],jh 46 32 32 40 45,jM 12 46] [10,12])) (jr [jM 38 10,jo 39 (.sliceSl 1 (jt 38) (some (ji 32)) none none),jM 10 39] [10,12])))
def yG:AFun:=⟨(js [jn 8,jI 9 0] [0,1,2,3] (.seq (js [jM 13 3,jP 14 .lss 13 0,jM 15 14,.mk (some 16) (.move (jt 3)) (some (15,false)),.mk (some 17) (.bin .gtr (jt 16) (ji 255)) (some (15,false)),jo 18 (.pick (jt 15) (.const (.bool true)) (jt 17))] [0,1,2,3,18] (.cond (jt 18) (ja [jn 8,jI 9 1] [8,9]) .skip)) (js [jM 20 0,jM 21 1,jo 22 (.buildSlice [(.slice none 0 0)] 1 [jp 0 1 21]),jd 23 113 20 22,jM 24 3,jP 25 .mul 24 32,jM 26 2,jo 27 (.s2b (jt 26)),jo 28 (.buildSlice [(.slice none 0 0)] 1 [jp 0 1 27]),jo 29 (.call 112 [(jt 23),(jt 25),(jt 28)] false),jM 19 29,jX 30 19 0,jX 31 19 1,jM 10 30,jM 11 31] [10,11] (.seq (js [jM 32 11,jP 33 .neq 32 0] [10,11,33] (.cond (jt 33) (ja [jM 34 11,jn 8,jM 9 34] [8,9]) .skip)) (js [jn 12] [10,12] (.seq (jK 0 Rr) (ja [jM 47 12,jM 8 47,jI 9 0] [8,9]))))))),[(8,none),(9,none)]⟩
def yF:AFun:=⟨(js [jZ 2 32 .u8] [0,2] (js [jo 4 (.call 114 [] false),jM 3 4] [0,2,3] (js [jM 5 3,jM 6 0,jd 7 115 5 6] [2,3] (ja [jM 8 3,jc 9 116 8,jS 32 2 9] [2])))),[(2,(some (some 32)))]⟩
def yE:AFun:=⟨(js [jB 4 1,jB 5 2,jZ 6 10 .u64,jZ 7 10 .u64] [0,4,5,6,7] (js [jM 9 0,jF 10 0 4,jL 11 5 10,jF 12 0 5,jL 13 5 12,jG 14 168 9 11 13,jM 8 14,jX 15 8 0,jX 16 8 1,jF 17 0 4,jS 5 17 15,jF 18 0 5,jS 5 18 16] [0,4,5,6,7] (js [jM 20 0,jF 21 5 4,jL 22 5 21,jF 23 5 5,jL 24 5 23,jG 25 168 20 22 24,jM 19 25,jX 26 19 0,jX 27 19 1,jF 28 5 4,jS 5 28 26,jF 29 5 5,jS 5 29 27] [4,5,6,7] (.seq (.region [jL 30 10 4,jL 31 10 5,jS 10 6 30,jS 10 7 31] (some [6,7]) [(1,2)]) .ret)))),[(6,(some (some 10))),(7,(some (some 10)))]⟩
def yD:AFun:=⟨(js [jB 3 0,jB 4 1,jB 5 2,jZ 6 10 .u64,jZ 7 10 .u64] [3,4,5,6,7] (.seq (.region [jF 17 0 3,jL 18 5 17,jF 19 5 3,jL 20 5 19,jo 21 (.buildSlice (Qa 10 (.int .u64 0)) 2 [jp 0 5 18,jp 5 5 20]),jc 22 123 21,jF 23 0 3,jL 24 5 23,jF 25 5 3,jL 26 5 25,jD 27 122 24 26,jZ 8 5 .u64,jZ 9 5 .u64,jS 5 8 22,jS 5 9 27] (some [4,5,6,7,8,9]) [(5,7),(5,9)]) (.seq (.region [jF 28 0 4,jL 29 5 28,jF 30 5 4,jL 31 5 30,jD 32 122 29 31,jL 33 5 8,jD 34 109 32 33,jF 35 0 4,jL 36 5 35,jF 37 5 4,jL 38 5 37,jo 39 (.buildSlice (Qa 10 (.int .u64 0)) 2 [jp 0 5 36,jp 5 5 38]),jc 40 123 39,jL 41 5 9,jD 42 109 40 41,jZ 10 5 .u64,jZ 11 5 .u64,jS 5 10 34,jS 5 11 42] (some [5,6,7,8,9,10,11]) [(12,13)]) (js [jL 43 5 8,jL 44 5 8,jD 45 109 43 44,jL 46 5 9,jL 47 5 9,jD 48 109 46 47,jZ 12 5 .u64,jZ 13 5 .u64,jS 5 12 45,jS 5 13 48] [5,6,7,10,11,12,13] (js [jL 49 5 12,jL 50 5 13,jD 51 122 49 50,jZ 14 5 .u64,jS 5 14 51] [5,6,7,10,11,12,13,14] (.seq (.region [jL 52 5 10,jL 53 5 11,jo 54 (.buildSlice (Qa 10 (.int .u64 0)) 2 [jp 0 5 52,jp 5 5 53]),jc 55 123 54,jL 56 5 10,jL 57 5 11,jD 58 122 56 57,jZ 15 5 .u64,jZ 16 5 .u64,jS 5 15 55,jS 5 16 58] (some [5,6,7,12,13,14,15,16]) [(3,4),(3,5)]) (.seq (.region [jL 59 5 12,jL 60 5 13,jD 61 109 59 60,jL 62 5 14,jL 63 5 12,jv 64 106 .u32 121665,jL 65 5 14,jD 66 109 64 65,jo 67 (.buildSlice (Qa 10 (.int .u64 0)) 2 [jp 0 5 63,jp 5 5 66]),jc 68 123 67,jD 69 109 62 68,jo 70 (.build (Qa 10 (.int .u64 0)) [jp 0 5 61,jp 5 5 69]),jL 71 5 15,jL 72 5 15,jD 73 109 71 72,jL 74 5 5,jL 75 5 16,jL 76 5 16,jo 77 (.buildSlice (Qa 15 (.int .u64 0)) 3 [jp 0 5 74,jp 5 5 75,jp 10 5 76]),jc 78 169 77,jo 79 (.build (Qa 10 (.int .u64 0)) [jp 0 5 73,jp 5 5 78]),jS 10 6 70,jS 10 7 79] (some [6,7]) [(3,9),(9,12),(9,13),(9,15),(9,16),(9,17)]) .ret))))))),[(6,(some (some 10))),(7,(some (some 10)))]⟩
def Rq:ACode:=(.seq (js [jM 19 8,jY 20 19,jM 21 1,jO 22 .lss 20 21] [1,2,3,8,9,10,22] (jx 22 0)) (.seq (.block 1 (js [jW 25 32 1 3,jc 26 151 25,jM 11 26] [1,2,3,8,9,10,11] (js [jM 27 11,jN 28 27,jF 29 0 28,jE 30 29,jM 31 9,jo 32 (.buildSlice [(.slice none 0 0)] 1 [jp 0 1 31]),jd 33 115 30 32] [1,2,3,8,10,11] (js [jM 34 11,jN 35 34,jF 36 0 35,jE 37 36,jM 38 2,jd 39 115 37 38] [1,2,3,8,10,11] (js [jM 40 11,jN 41 40,jF 42 0 41,jE 43 42,jM 44 10,jo 45 (.buildSlice [(.int .u8 0)] 1 [jp 0 1 44]),jo 46 (.buildSlice [(.slice none 0 0)] 1 [jp 0 1 45]),jd 47 115 43 46] [1,2,3,8,10,11] (js [jM 48 11,jc 49 152 48,jZ 12 32 .u8,jS 32 12 49] [1,2,3,8,10,12] (js [jW 50 32 1 12,jM 9 50] [1,2,3,8,9,10] (jr [jM 51 8,jM 52 9,jh 53 1 1 51 52,jM 8 53] [1,2,3,8,9,10])))))))) (jr [jM 23 10,jQ 24 .add 23 .u8 1,jM 10 24] [1,2,3,8,9,10])))
def yC:AFun:=⟨(js [jB 3 0,jn 6,jI 7 0] [1,2,3] (.seq (js [jM 13 1,jP 14 .lss 13 0,jM 15 14,.mk (some 16) (.move (jt 1)) (some (15,false)),.mk (some 17) (.bin .gtr (jt 16) (ji 8160)) (some (15,false)),jo 18 (.pick (jt 15) (.const (.bool true)) (jt 17))] [1,2,3,18] (.cond (jt 18) (ja [jn 6,jI 7 1] [6,7]) .skip)) (js [jn 8,jn 9] [1,2,3,8,9] (.seq (js [jk 10 .u8 1] [1,2,3,8,9,10] (jK 0 Rq)) (ja [jM 54 8,jM 55 1,jM 56 1,jo 57 (.sliceSl 1 (jt 54) none (some (jt 55)) (some (jt 56))),jM 6 57,jI 7 0] [6,7]))))),[(6,none),(7,none)]⟩
def y9:AFun:=⟨(js [jZ 4 32 .u8] [0,1,4] (ja [jM 5 0,jM 6 1,jd 7 82 5 6,jS 32 4 7] [4])),[(4,(some (some 32)))]⟩
def y8:AFun:=⟨(js [jo 0 (.move (.const (.pointer none)))] [] (ja [jo 1 (.build (Qa 8 (.int .u32 0)) [jg 0 .u32 1779033703,jg 1 .u32 3144134277,jg 2 .u32 1013904242,jg 3 .u32 2773480762,jg 4 .u32 1359893119,jg 5 .u32 2600822924,jg 6 .u32 528734635,jg 7 .u32 1541459225]),jo 2 (.build [(.slice none 0 0),(.int .u64 0),(.int .u32 0),(.int .u32 0),(.int .u32 0),(.int .u32 0),(.int .u32 0),(.int .u32 0),(.int .u32 0),(.int .u32 0)] [jp 2 8 1]),jB 3 2,jM 0 3] [0])),[(0,none)]⟩
def Rp:ACode:=(js [jO 9 .lss 8 7] [0,6,7,8,9] (.seq (jx 9 0) (.seq (.block 1 (js [jJ 10 1 6 8,jE 11 10,jM 5 11] [0,5,6,7,8] (jr [jM 12 0,jN 13 12,jF 14 0 13,jM 15 5,jM 16 0,jo 17 (.mkFunc (.func 178) [(jt 16)] []),jo 18 (.call 177 [(jt 14),(ji 64),(jt 15),(jt 17)] false)] [0,6,7,8]))) (jr [jP 19 .add 8 1,jM 8 19] [0,6,7,8]))))
def y7:AFun:=⟨(js [jM 6 1,jY 7 6,jI 8 0] [0,6,7,8] (jK 0 Rp)),[]⟩
def Ro:ACode:=(js [jP 33 .lss 32 32] [2,3,4,32,33] (.seq (jx 33 0) (.seq (.block 1 (js [jM 34 32,jM 5 34] [2,3,4,5,32] (jr [jM 35 5,jM 36 3,jM 37 5,jP 38 .quo 37 4,jN 39 36,jF 40 2 39,jH 41 8 1 40 38,jE 42 41,jM 43 5,jP 44 .rem 43 4,jo 45 (.bin .mul (ji 8) (jt 44)),jo 46 (.bin .sub (ji 24) (jt 45)),jO 47 .shr 42 46,jV 48 .u8 47,jH 49 32 1 4 35,jS 1 49 48] [2,3,4,32]))) (jr [jP 50 .add 32 1,jM 32 50] [2,3,4,32]))))
def y6:AFun:=⟨(js [jZ 2 32 .u8] [0,2] (.seq (.region [jo 6 (.buildSlice [] 0 []),jM 7 0,jN 8 7,jF 9 0 8,jF 10 0 9,jE 11 10,jh 12 1 1 6 11,jM 13 0,jN 14 13,jF 15 0 14,jF 16 1 15,jE 17 16,jo 18 (.build [(.slice none 0 0),(.int .u64 0)] [jp 0 1 12,jp 1 1 17]),jM 19 0,jN 20 19,jF 21 2 20,jL 22 8 21,jo 23 (.build [(.slice none 0 0),(.int .u64 0),(.int .u32 0),(.int .u32 0),(.int .u32 0),(.int .u32 0),(.int .u32 0),(.int .u32 0),(.int .u32 0),(.int .u32 0)] [jp 0 2 18,jp 2 8 22]),jB 24 23,jM 3 24] (some [0,2,3]) [(6,11),(6,16)]) (js [jM 25 3,jM 26 0,jN 27 26,jF 28 0 27,jo 29 (.call 179 [(jt 28),(ji 64),(ji 8)] false),jo 30 (.buildSlice [(.slice none 0 0)] 1 [jp 0 1 29]),jd 31 115 25 30] [2,3] (js [jZ 4 32 .u8] [2,3,4] (.seq (js [jI 32 0] [2,3,4,32] (jK 0 Ro)) (ja [jL 51 32 4,jS 32 2 51] [2])))))),[(2,(some (some 32)))]⟩
def Rn:ACode:=(js [jP 15 .lss 14 5] [4,5,6,7,8,14,15] (.seq (jx 15 0) (.seq (.block 1 (js [jM 16 14,jM 9 16] [4,5,6,7,8,9,14] (js [jM 17 8,jM 18 9,jF 19 0 4,jH 20 5 1 19 18,jE 21 20,jM 22 9,jF 23 0 5,jH 24 5 1 23 22,jE 25 24,jO 26 .xor 21 25,jO 27 .and 17 26,jM 10 27] [4,5,6,7,8,9,10,14] (js [jM 28 9,jF 29 0 4,jH 30 5 1 29 28,jE 31 30,jM 32 10,jO 33 .xor 31 32,jF 34 0 4,jH 35 5 1 34 28,jS 1 35 33] [4,5,6,7,8,9,10,14] (jr [jM 36 9,jF 37 0 5,jH 38 5 1 37 36,jE 39 38,jM 40 10,jO 41 .xor 39 40,jF 42 0 5,jH 43 5 1 42 36,jS 1 43 41] [4,5,6,7,8,14]))))) (jr [jP 44 .add 14 1,jM 14 44] [4,5,6,7,8,14]))))
def uL:AFun:=⟨(js [jB 4 1,jB 5 2,jZ 6 5 .u64,jZ 7 5 .u64] [0,4,5,6,7] (js [jk 8 .u64 0] [0,4,5,6,7,8] (.seq (js [jM 11 0] [4,5,6,7,8,11] (.cond (jt 11) (jr [jM 12 8,jQ 13 .sub 12 .u64 1,jM 8 13] [4,5,6,7,8]) .skip)) (.seq (js [jI 14 0] [4,5,6,7,8,14] (jK 0 Rn)) (.seq (.region [jL 45 5 4,jL 46 5 5,jS 5 6 45,jS 5 7 46] (some [6,7]) [(1,2)]) .ret))))),[(6,(some (some 5))),(7,(some (some 5)))]⟩
def Rm:ACode:=(js [jP 23 .lss 22 64] [3,4,21,22,23] (.seq (jx 23 0) (.seq (.block 1 (js [jM 24 22,jo 25 (.index none 64 1 (jt 21) (jt 22)),jM 6 24,jM 7 25] [3,4,6,7,21,22] (jr [jM 26 6,jM 27 4,jM 28 6,jM 29 7,jQ 30 .xor 29 .u8 54,jM 31 7,jQ 32 .xor 31 .u8 92,jH 33 64 1 3 26,jS 1 33 30,jN 34 27,jF 35 1 34,jH 36 64 1 35 28,jS 1 36 32] [3,4,21,22]))) (jr [jP 37 .add 22 1,jM 22 37] [3,4,21,22]))))
def y5:AFun:=⟨(js [jo 2 (.move (.const (.pointer none)))] [0] (js [jZ 3 64 .u8] [0,3] (js [jo 8 (.call 114 [] false),jo 9 (.build zMac [jp 0 1 8]),jB 10 9,jM 4 10] [0,3,4] (.seq (js [jM 11 0,jY 12 11,jP 13 .gtr 12 64] [0,3,4,13] (.cond (jt 13) (js [jM 14 0,jo 15 (.buildSlice [(.slice none 0 0)] 1 [jp 0 1 14]),jc 16 58 15,jZ 5 32 .u8,jS 32 5 16] [3,4,5] (jr [jW 17 32 1 5,jM 0 17] [0,3,4])) .skip)) (js [jW 18 64 1 3,jM 19 0,jo 20 (.copy 1 (jt 18) (jt 19))] [3,4] (.seq (js [jL 21 64 3,jI 22 0] [3,4,21,22] (jK 0 Rm)) (js [jM 38 4,jN 39 38,jF 40 0 39,jE 41 40,jW 42 64 1 3,jo 43 (.buildSlice [(.slice none 0 0)] 1 [jp 0 1 42]),jd 44 115 41 43] [4] (ja [jM 45 4,jM 2 45] [2])))))))),[(2,none)]⟩
def yz:AFun:=⟨(js [jZ 2 32 .u8] [0,2] (js [jM 4 0,jN 5 4,jF 6 0 5,jE 7 6,jc 8 116 7,jZ 3 32 .u8,jS 32 3 8] [0,2,3] (ja [jM 9 0,jN 10 9,jF 11 1 10,jW 12 64 1 11,jW 13 32 1 3,jo 14 (.buildSlice [(.slice none 0 0),(.slice none 0 0)] 2 [jp 0 1 12,jp 1 1 13]),jc 15 58 14,jS 32 2 15] [2]))),[(2,(some (some 32)))]⟩
def yx:AFun:=⟨(js [jZ 4 32 .u8] [0,1,4] (js [jM 6 0,jc 7 151 6,jM 5 7] [1,4,5] (js [jM 8 5,jN 9 8,jF 10 0 9,jE 11 10,jM 12 1,jd 13 115 11 12] [4,5] (ja [jM 14 5,jc 15 152 14,jS 32 4 15] [4])))),[(4,(some (some 32)))]⟩
def Rl:ACode:=(js [jP 216 .lss 215 8] [0,214,215,216] (.seq (jx 216 4) (.seq (.block 5 (js [jM 217 215,jo 218 (.index none 8 1 (jt 214) (jt 215)),jM 20 217,jM 21 218] [0,20,21,214,215] (jr [jM 219 0,jM 220 20,jN 221 219,jF 222 2 221,jH 223 8 1 222 220,jE 224 223,jM 225 21,jO 226 .add 224 225,jN 227 219,jF 228 2 227,jH 229 8 1 228 220,jS 1 229 226] [0,214,215]))) (jr [jP 230 .add 215 1,jM 215 230] [0,214,215]))))
def Df:ACode:=(js [jP 142 .lss 141 64] [0,4,8,9,10,11,12,13,14,15,16,141,142] (.seq (jx 142 2) (.seq (.block 3 (js [jM 143 141,jM 17 143] [0,4,8,9,10,11,12,13,14,15,16,17,141] (js [jM 144 16,jM 145 13,jo 146 (.call 208 [(jt 145),(ji 26)] true),jM 147 13,jo 148 (.call 208 [(jt 147),(ji 21)] true),jO 149 .xor 146 148,jM 150 13,jo 151 (.call 208 [(jt 150),(ji 7)] true),jO 152 .xor 149 151,jO 153 .add 144 152,jM 154 13,jM 155 14,jO 156 .and 154 155,jM 157 13,jo 158 (.un .xor (jt 157)),jM 159 15,jO 160 .and 158 159,jO 161 .xor 156 160,jO 162 .add 153 161,jM 163 17,jH 164 80 1 8 163,jE 165 164,jQ 166 .shr 165 .u64 32,jV 167 .u32 166,jO 168 .add 162 167,jM 169 17,jH 170 64 1 4 169,jE 171 170,jO 172 .add 168 171,jM 18 172] [0,4,8,9,10,11,12,13,14,15,18,141] (js [jM 173 9,jo 174 (.call 208 [(jt 173),(ji 30)] true),jM 175 9,jo 176 (.call 208 [(jt 175),(ji 19)] true),jO 177 .xor 174 176,jM 178 9,jo 179 (.call 208 [(jt 178),(ji 10)] true),jO 180 .xor 177 179,jM 181 9,jM 182 10,jO 183 .and 181 182,jM 184 9,jM 185 11,jO 186 .and 184 185,jO 187 .xor 183 186,jM 188 10,jM 189 11,jO 190 .and 188 189,jO 191 .xor 187 190,jO 192 .add 180 191,jM 19 192] [0,4,8,9,10,11,12,13,14,15,18,19,141] (jr [jM 193 18,jM 194 19,jO 195 .add 193 194,jM 196 9,jM 197 10,jM 198 11,jM 199 12,jM 200 18,jO 201 .add 199 200,jM 202 13,jM 203 14,jM 204 15,jM 9 195,jM 10 196,jM 11 197,jM 12 198,jM 13 201,jM 14 202,jM 15 203,jM 16 204] [0,4,8,9,10,11,12,13,14,15,16,141]))))) (jr [jP 205 .add 141 1,jM 141 205] [0,4,8,9,10,11,12,13,14,15,16,141]))))
def UM:ACode:=(js [jP 23 .lss 22 64] [0,1,4,22,23] (.seq (jx 23 0) (.seq (.block 1 (js [jM 24 22,jM 5 24] [0,1,4,5,22] (.seq (js [jM 25 5,jP 26 .lss 25 16] [0,1,4,5,22,26] (.cond (jt 26) (js [jM 27 5,jM 28 1,jM 29 5,jo 30 (.bin .mul (ji 4) (jt 29)),jJ 31 1 28 30,jE 32 31,jV 33 .u32 32,jQ 34 .shl 33 .u64 24,jM 35 1,jM 36 5,jo 37 (.bin .mul (ji 4) (jt 36)),jP 38 .add 37 1,jJ 39 1 35 38,jE 40 39,jV 41 .u32 40,jQ 42 .shl 41 .u64 16,jO 43 .or 34 42,jM 44 1,jM 45 5,jo 46 (.bin .mul (ji 4) (jt 45)),jP 47 .add 46 2,jJ 48 1 44 47,jE 49 48,jV 50 .u32 49,jQ 51 .shl 50 .u64 8,jO 52 .or 43 51,jM 53 1,jM 54 5,jo 55 (.bin .mul (ji 4) (jt 54)),jP 56 .add 55 3,jJ 57 1 53 56,jE 58 57,jV 59 .u32 58,jO 60 .or 52 59,jH 61 64 1 4 27,jS 1 61 60] [0,1,4,22] (.exit 1)) .skip)) (js [jM 62 5,jP 63 .sub 62 15,jH 64 64 1 4 63,jE 65 64,jM 66 5,jP 67 .sub 66 2,jH 68 64 1 4 67,jE 69 68,jM 6 65,jM 7 69] [0,1,4,5,6,7,22] (jr [jM 70 5,jM 71 5,jP 72 .sub 71 16,jH 73 64 1 4 72,jE 74 73,jM 75 5,jP 76 .sub 75 7,jH 77 64 1 4 76,jE 78 77,jO 79 .add 74 78,jM 80 6,jo 81 (.call 208 [(jt 80),(ji 25)] true),jM 82 6,jo 83 (.call 208 [(jt 82),(ji 14)] true),jO 84 .xor 81 83,jM 85 6,jQ 86 .shr 85 .u64 3,jO 87 .xor 84 86,jO 88 .add 79 87,jM 89 7,jo 90 (.call 208 [(jt 89),(ji 15)] true),jM 91 7,jo 92 (.call 208 [(jt 91),(ji 13)] true),jO 93 .xor 90 92,jM 94 7,jQ 95 .shr 94 .u64 10,jO 96 .xor 93 95,jO 97 .add 88 96,jH 98 64 1 4 70,jS 1 98 97] [0,1,4,22]))))) (jr [jP 99 .add 22 1,jM 22 99] [0,1,4,22]))))
def yw:AFun:=⟨(js [jZ 4 64 .u32] [0,1,4] (.seq (js [jI 22 0] [0,1,4,22] (jK 0 UM)) (js [jf 100 209,jZ 8 80 .u64,jS 80 8 100] [0,4,8] (js [jM 101 0,jN 102 101,jF 103 2 102,jA 104 8 1 103 0,jE 105 104,jM 106 0,jN 107 106,jF 108 2 107,jA 109 8 1 108 1,jE 110 109,jM 111 0,jN 112 111,jF 113 2 112,jA 114 8 1 113 2,jE 115 114,jM 116 0,jN 117 116,jF 118 2 117,jA 119 8 1 118 3,jE 120 119,jM 121 0,jN 122 121,jF 123 2 122,jA 124 8 1 123 4,jE 125 124,jM 126 0,jN 127 126,jF 128 2 127,jA 129 8 1 128 5,jE 130 129,jM 131 0,jN 132 131,jF 133 2 132,jA 134 8 1 133 6,jE 135 134,jM 136 0,jN 137 136,jF 138 2 137,jA 139 8 1 138 7,jE 140 139,jM 9 105,jM 10 110,jM 11 115,jM 12 120,jM 13 125,jM 14 130,jM 15 135,jM 16 140] [0,4,8,9,10,11,12,13,14,15,16] (.seq (js [jI 141 0] [0,4,8,9,10,11,12,13,14,15,16,141] (jK 2 Df)) (js [jM 206 9,jM 207 10,jM 208 11,jM 209 12,jM 210 13,jM 211 14,jM 212 15,jM 213 16,jo 214 (.build (Qa 8 (.int .u32 0)) [jp 0 1 206,jp 1 1 207,jp 2 1 208,jp 3 1 209,jp 4 1 210,jp 5 1 211,jp 6 1 212,jp 7 1 213]),jI 215 0] [0,214,215] (jK 4 Rl))))))),[]⟩
def yu:AFun:=⟨(js [jk 4 .u32 0] [0,1] (js [jM 6 1,jV 7 .u64 6,jQ 8 .and 7 .u64 31,jM 5 8] [0,5] (ja [jM 9 0,jM 10 5,jO 11 .shl 9 10,jM 12 0,jM 13 5,jo 14 (.bin .sub (.const (.int .u64 32)) (jt 13)),jO 15 .shr 12 14,jO 16 .or 11 15,jM 4 16] [4]))),[(4,none)]⟩
def yr:AFun:=⟨(js [jB 3 0,jB 4 1,jB 5 2,jT 6 false] [3,4,5] (.seq (js [jf 12 6,jU 13 12] [3,4,5,13] (jl 13 [jT 6 false] [6])) (js [jL 15 64 3,jL 16 32 4,jL 17 194 5,jG 18 7 15 16 17,jM 14 18,jX 19 14 0,jX 20 14 1,jZ 7 64 .u8,jS 64 7 19,jM 8 20] [3,4,5,7,8] (js [jF 22 0 3,jL 23 32 22,jF 24 32 3,jL 25 32 24,jb 26 [jp 0 32 23,jp 32 32 25] 64,jL 27 32 4,jL 28 194 5,jC 29 9 28,jG 30 8 26 27 29,jM 21 30,jX 31 21 0,jX 32 21 1,jX 33 21 2,jZ 9 32 .u8,jZ 10 32 .u8,jS 32 9 31,jS 32 10 32,jM 11 33] [5,7,8,9,10,11] (ja [jF 34 0 7,jL 35 32 34,jL 36 32 9,je 37 32 false 35 36,jM 38 37,.mk (some 39) (.fieldAddr 32 (jt 7)) (some (38,true)),.mk (some 40) (.load (some 32) (jt 39)) (some (38,true)),.mk (some 41) (.load (some 32) (jt 10)) (some (38,true)),.mk (some 42) (.eqv (some (Qa 32 true)) false (jt 40) (jt 41)) (some (38,true)),jo 43 (.pick (jt 38) (jt 42) (.const (.bool false))),jM 44 43,.mk (some 45) (.move (jt 8)) (some (44,true)),.mk (some 46) (.move (jt 11)) (some (44,true)),.mk (some 47) (.bin .eql (jt 45) (jt 46)) (some (44,true)),jo 48 (.pick (jt 44) (jt 47) (.const (.bool false))),jM 49 48,.mk (some 50) (.load (some 194) (jt 5)) (some (49,true)),.mk (some 51) (.call 10 [(jt 50)] true) (some (49,true)),.mk (some 52) (.load (some 194) (jt 5)) (some (49,true)),.mk (some 53) (.call 9 [(jt 52)] true) (some (49,true)),.mk (some 54) (.call 11 [(jt 53)] true) (some (49,true)),.mk (some 55) (.bin .eql (jt 51) (jt 54)) (some (49,true)),jo 56 (.pick (jt 49) (jt 55) (.const (.bool false))),jM 6 56] [6]))))),[(6,none)]⟩
def Fi:AFun:=⟨(js [jB 3 0,jB 4 1,jB 5 2,jZ 6 32 .u8,jZ 7 32 .u8,jI 8 0] [3,4,5,6,7] (js [jL 14 194 5,jC 15 11 14,jM 9 15] [3,4,5,6,7,9] (.seq (js [jM 16 9,jP 17 .neq 16 0] [3,4,5,6,7,9,17] (.cond (jt 17) (ja [jb 18 [] 32,jb 19 [] 32,jM 20 9,jS 32 6 18,jS 32 7 19,jM 8 20] [6,7,8]) .skip)) (js [jF 21 32 3,jL 22 32 21,jL 23 32 4,jL 24 32 4,jm 25 96 3 [jp 0 32 22,jp 32 32 23,jp 64 32 24],jF 26 64 5,jL 27 32 26,jF 28 0 5,jF 29 32 28,jL 30 32 29,jF 31 64 5,jL 32 32 31,jm 33 96 3 [jp 0 32 27,jp 32 32 30,jp 64 32 32],jM 10 25,jM 11 33] [3,4,5,6,7,10,11] (.seq (js [jF 34 96 5,jL 35 32 34,jb 36 [] 32,je 37 32 true 35 36] [3,4,5,6,7,10,11,37] (.cond (jt 37) (js [jM 38 10,jL 39 32 4,jm 40 32 1 [jp 0 32 39],jh 41 32 32 38 40,jM 10 41] [3,5,6,7,10,11] (jr [jM 42 11,jF 43 96 5,jL 44 32 43,jm 45 32 1 [jp 0 32 44],jh 46 32 32 42 45,jM 11 46] [3,5,6,7,10,11])) .skip)) (js [jM 48 10,jM 49 11,jd 50 27 48 49,jM 47 50,jX 51 47 0,jX 52 47 1,jZ 12 32 .u8,jS 32 12 51,jM 13 52] [3,5,6,7,12,13] (.seq (js [jM 53 13,jP 54 .neq 53 0] [3,5,6,7,12,13,54] (.cond (jt 54) (ja [jb 55 [] 32,jb 56 [] 32,jM 57 13,jS 32 6 55,jS 32 7 56,jM 8 57] [6,7,8]) .skip)) (ja [jL 58 32 12,jL 59 64 3,jC 60 29 59,jF 61 0 5,jL 62 64 61,jD 63 28 60 62,jS 32 6 58,jS 32 7 63,jI 8 0] [6,7,8])))))))),[(6,(some (some 32))),(7,(some (some 32))),(8,none)]⟩
def yq:AFun:=⟨(js [jB 1 0,jo 2 (.alloc Vg)] [1,2] (ja [jF 3 0 1,jL 4 64 3,jC 5 30 4,jF 6 64 1,jL 7 32 6,jF 8 96 1,jL 9 32 8,jF 10 128 1,jE 11 10,jF 12 129 1,jE 13 12,jF 14 130 1,jL 15 64 14,jo 16 (.build Vg [jp 0 64 5,jp 64 32 7,jp 96 32 9,jp 128 1 11,jp 129 1 13,jp 130 64 15]),jS 194 2 16] [2])),[(2,(some (some 194)))]⟩
def yo:AFun:=⟨(js [jB 1 0,jI 2 0] [1] (ja [jF 3 0 1,jF 4 0 3,jL 5 32 4,jF 6 130 1,jL 7 64 6,jL 8 194 1,jC 9 34 8,jG 10 33 5 7 9,jM 2 10] [2])),[(2,none)]⟩
def yn:AFun:=⟨(js [jB 1 0,jZ 2 64 .u8] [1,2] (ja [jF 3 0 1,jL 4 32 3,jF 5 32 1,jL 6 32 5,jb 7 [jp 0 32 4,jp 32 32 6] 64,jS 64 2 7] [2])),[(2,(some (some 64)))]⟩
def ym:AFun:=⟨(js [jB 1 0,jZ 2 64 .u8] [1,2] (ja [jF 3 0 1,jL 4 32 3,jC 5 62 4,jF 6 32 1,jL 7 32 6,jC 8 40 7,jb 9 [jp 0 32 5,jp 32 32 8] 64,jS 64 2 9] [2])),[(2,(some (some 64)))]⟩
def UL:ACode:=(.seq (js [jM 19 8,jM 20 0,jY 21 20,jO 22 .lss 19 21] [0,1,4,6,8,22] (jx 22 2)) (.seq (.block 3 (js [jM 26 0,jM 27 8,jJ 28 32 26 27,jL 29 32 28,jM 30 1,jM 31 8,jJ 32 32 30 31,jL 33 32 32,jD 34 59 29 33,jM 25 34,jX 35 25 0,jX 36 25 1,jZ 9 32 .u8,jS 32 9 35,jM 10 36] [0,1,4,6,8,9,10] (.seq (js [jM 37 10,jP 38 .neq 37 0] [0,1,4,6,8,9,10,38] (.cond (jt 38) (ja [jb 39 [] 32,jM 40 10,jS 32 4 39,jM 5 40] [4,5]) .skip)) (jr [jM 41 6,jL 42 32 9,jC 43 43 42,jO 44 .add 41 43,jM 6 44] [0,1,4,6,8])))) (jr [jM 23 8,jP 24 .add 23 1,jM 8 24] [0,1,4,6,8])))
def Rk:ACode:=(.seq (js [jM 13 7,jP 14 .lss 13 32] [0,1,4,6,7,14] (jx 14 0)) (.seq (.block 1 (jr [jM 17 6,jo 18 (.bin .add (jt 17) (.const (.string (ByteArray.mk #[255])))),jM 6 18] [0,1,4,6,7])) (jr [jM 15 7,jP 16 .add 15 1,jM 7 16] [0,1,4,6,7])))
def pN:AFun:=⟨(js [jZ 4 32 .u8,jI 5 0] [0,1,4] (js [jo 6 (.move (.const (.string (ByteArray.mk #[]))))] [0,1,4,6] (.seq (js [jI 7 0] [0,1,4,6,7] (jK 0 Rk)) (.seq (js [jI 8 0] [0,1,4,6,8] (jK 2 UL)) (js [jM 46 6,jo 47 (.call 60 [(.const (.string (ByteArray.mk #[]))),(jt 46),(.const (.string (ByteArray.mk #[115,105,103,110,101,116,32,97,103,114,101,101]))),(ji 1)] false),jM 45 47,jX 48 45 0,jX 49 45 1,jM 11 48,jM 12 49] [4,11] (ja [jM 50 11,jy 51 32 50 0,jL 52 32 51,jS 32 4 52,jI 5 0] [4,5])))))),[(4,(some (some 32))),(5,none)]⟩
def yl:AFun:=⟨(js [jB 2 0,jB 3 1,jZ 4 32 .u8] [2,3,4] (ja [jF 5 0 2,jL 6 32 5,jC 7 43 6,jo 8 (.bin .add (.const (.string (ByteArray.mk #[115,105,103,110,101,116,32,98,111,117,110,100]))) (jt 7)),jF 9 32 2,jL 10 32 9,jC 11 43 10,jO 12 .add 8 11,jF 13 0 3,jL 14 32 13,jC 15 43 14,jO 16 .add 12 15,jF 17 32 3,jL 18 32 17,jC 19 43 18,jO 20 .add 16 19,jC 21 61 20,jS 32 4 21] [4])),[(4,(some (some 32)))]⟩
def yk:AFun:=⟨(js [jB 1 0,jo 2 (.move (.const (.string (ByteArray.mk #[]))))] [1] (ja [jF 3 0 1,jF 4 32 3,jL 5 32 4,jC 6 43 5,jo 7 (.bin .add (.const (.string (ByteArray.mk #[115,105,103,110,101,116,32,111,102,102,101,114]))) (jt 6)),jF 8 64 1,jL 9 32 8,jC 10 43 9,jO 11 .add 7 10,jF 12 128 1,jE 13 12,jC 14 81 13,jO 15 .add 11 14,jM 2 15] [2])),[(2,none)]⟩
def yj:AFun:=⟨(js [jB 1 0,jZ 2 32 .u8] [1,2] (ja [jL 3 32 1,jb 4 [jg 0 .u8 9] 32,jD 5 87 3 4,jS 32 2 5] [2])),[(2,(some (some 32)))]⟩
def pM:AFun:=⟨(js [jB 2 0,jB 3 1,jZ 4 32 .u8,jI 5 0] [2,3,4] (js [jL 7 32 2,jL 8 32 3,jD 9 87 7 8,jZ 6 32 .u8,jS 32 6 9] [4,6] (.seq (js [jL 10 32 6,jb 11 [] 32,je 12 32 false 10 11] [4,6,12] (.cond (jt 12) (ja [jL 13 32 6,jS 32 4 13,jI 5 50] [4,5]) .skip)) (ja [jL 14 32 6,jS 32 4 14,jI 5 0] [4,5])))),[(4,(some (some 32))),(5,none)]⟩
def uK:ACode:=(.seq (js [jM 5 4,jP 6 .lss 5 32] [1,3,4,6] (jx 6 0)) (.seq (.block 1 (jr [jM 9 3,jM 10 4,jH 11 32 1 1 10,jE 12 11,jo 13 (.buildSlice [(.int .u8 0)] 1 [jp 0 1 12]),jo 14 (.b2s (jt 13)),jO 15 .add 9 14,jM 3 15] [1,3,4])) (jr [jM 7 4,jP 8 .add 7 1,jM 4 8] [1,3,4])))
def a291:AFun:=⟨(js [jB 1 0,jo 2 (.move (.const (.string (ByteArray.mk #[]))))] [1] (js [jo 3 (.move (.const (.string (ByteArray.mk #[]))))] [1,3] (.seq (js [jI 4 0] [1,3,4] (jK 0 uK)) (ja [jM 16 3,jM 2 16] [2])))),[(2,none)]⟩
def Rj:ACode:=(.seq (js [jM 41 15,jP 42 .lss 41 32] [3,10,12,13,14,15,42] (jx 42 2)) (.seq (.block 3 (jr [jM 45 15,jM 46 10,jM 47 13,jo 48 (.bin .mul (ji 32) (jt 47)),jM 49 15,jO 50 .add 48 49,jo 51 (.indexStr (jt 46) (jt 50)),jH 52 32 1 14 45,jS 1 52 51] [3,10,12,13,14,15])) (jr [jM 43 15,jP 44 .add 43 1,jM 15 44] [3,10,12,13,14,15])))
def Ri:ACode:=(.seq (js [jM 35 13,jM 36 3,jO 37 .lss 35 36] [3,10,12,13,37] (jx 37 0)) (.seq (.block 1 (js [jb 40 [] 32,jZ 14 32 .u8,jS 32 14 40] [3,10,12,13,14] (.seq (js [jI 15 0] [3,10,12,13,14,15] (jK 2 Rj)) (jr [jM 53 12,jL 54 32 14,jm 55 32 1 [jp 0 32 54],jh 56 32 32 53 55,jM 12 56] [3,10,12,13])))) (jr [jM 38 13,jP 39 .add 38 1,jM 13 39] [3,10,12,13])))
def yi:AFun:=⟨(js [jn 8,jI 9 0] [0,1,2,3] (.seq (js [jM 16 3,jP 17 .lss 16 0,jM 18 17,.mk (some 19) (.move (jt 3)) (some (18,false)),.mk (some 20) (.bin .gtr (jt 19) (ji 255)) (some (18,false)),jo 21 (.pick (jt 18) (.const (.bool true)) (jt 20))] [0,1,2,3,21] (.cond (jt 21) (ja [jn 8,jI 9 1] [8,9]) .skip)) (js [jM 23 0,jM 24 1,jD 25 86 23 24,jM 26 3,jo 27 (.bin .mul (ji 32) (jt 26)),jM 28 2,jG 29 117 25 27 28,jM 22 29,jX 30 22 0,jX 31 22 1,jM 10 30,jM 11 31] [3,10,11] (.seq (js [jM 32 11,jP 33 .neq 32 0] [3,10,11,33] (.cond (jt 33) (ja [jM 34 11,jn 8,jM 9 34] [8,9]) .skip)) (js [jn 12] [3,10,12] (.seq (js [jI 13 0] [3,10,12,13] (jK 0 Ri)) (ja [jM 57 12,jM 8 57,jI 9 0] [8,9]))))))),[(8,none),(9,none)]⟩
def Rh:ACode:=(.seq (js [jM 16 6,jP 17 .lss 16 32] [2,4,5,6,17] (jx 17 0)) (.seq (.block 1 (jr [jM 20 6,jM 21 4,jM 22 6,jJ 23 1 21 22,jE 24 23,jH 25 32 1 5 20,jS 1 25 24] [2,4,5,6])) (jr [jM 18 6,jP 19 .add 18 1,jM 6 19] [2,4,5,6])))
def yh:AFun:=⟨(js [jZ 2 32 .u8] [0,2] (js [jo 7 (.build [(.int .i64 0),(.int .i64 0),(.int .i64 0),(.slice none 0 0),(.int .i64 0),(.int .i64 0),(.int .i64 0),(.int .i64 0),(.int .i64 0),(.int .i64 0),(.int .i64 0),(.int .i64 0),(.int .i64 0),(.int .i64 0),(.int .i64 0),(.int .i64 0)] [jg 0 .i64 32,jg 1 .i64 64,jg 2 .i64 64]),jo 3 (.alloc [(.int .i64 0),(.int .i64 0),(.int .i64 0),(.slice none 0 0),(.int .i64 0),(.int .i64 0),(.int .i64 0),(.int .i64 0),(.int .i64 0),(.int .i64 0),(.int .i64 0),(.int .i64 0),(.int .i64 0),(.int .i64 0),(.int .i64 0),(.int .i64 0)]),jS 16 3 7] [0,2,3] (js [jo 8 (.buildSlice (Qa 8 (.int .u64 0)) 8 [jg 0 .u64 1779033703,jg 1 .u64 3144134277,jg 2 .u64 1013904242,jg 3 .u64 2773480762,jg 4 .u64 1359893119,jg 5 .u64 2600822924,jg 6 .u64 528734635,jg 7 .u64 1541459225]),jF 9 3 3,jS 1 9 8] [0,2,3] (js [jo 10 (.build (Qa 12 (.int .i64 0)) [jg 0 .i64 7,jg 1 .i64 18,jg 2 .i64 3,jg 3 .i64 17,jg 4 .i64 19,jg 5 .i64 10,jg 6 .i64 2,jg 7 .i64 13,jg 8 .i64 22,jg 9 .i64 6,jg 10 .i64 11,jg 11 .i64 25]),jF 11 4 3,jS 12 11 10] [0,2,3] (js [jM 12 0,jL 13 16 3,jd 14 118 12 13,jM 4 14] [2,4] (js [jb 15 [] 32,jZ 5 32 .u8,jS 32 5 15] [2,4,5] (.seq (js [jI 6 0] [2,4,5,6] (jK 0 Rh)) (ja [jL 26 32 5,jS 32 2 26] [2])))))))),[(2,(some (some 32)))]⟩
def yg:AFun:=⟨(js [jo 2 (.move (.const (.string (ByteArray.mk #[]))))] [0] (ja [jM 3 0,jQ 4 .quo 3 .u32 16777216,jV 5 .u8 4,jM 6 0,jQ 7 .quo 6 .u32 65536,jQ 8 .rem 7 .u32 256,jV 9 .u8 8,jM 10 0,jQ 11 .quo 10 .u32 256,jQ 12 .rem 11 .u32 256,jV 13 .u8 12,jM 14 0,jQ 15 .rem 14 .u32 256,jV 16 .u8 15,jo 17 (.buildSlice [(.int .u8 0),(.int .u8 0),(.int .u8 0),(.int .u8 0)] 4 [jp 0 1 5,jp 1 1 9,jp 2 1 13,jp 3 1 16]),jo 18 (.b2s (jt 17)),jM 2 18] [2])),[(2,none)]⟩
def Rg:ACode:=(.seq (js [jM 40 10,jM 41 8,jP 42 .rem 41 8,jO 43 .lss 40 42] [2,4,5,6,7,8,9,10,43] (jx 43 2)) (.seq (.block 3 (jr [jM 46 9,jP 47 .quo 46 2,jM 9 47] [2,4,5,6,7,8,9,10])) (jr [jM 44 10,jP 45 .add 44 1,jM 10 45] [2,4,5,6,7,8,9,10])))
def De:ACode:=(.seq (js [jM 31 8,jP 32 .geq 31 0] [2,4,5,6,7,8,32] (jx 32 0)) (.seq (.block 1 (js [jM 35 8,jP 36 .quo 35 8,jH 37 32 1 2 36,jE 38 37,jV 39 .i64 38,jM 9 39] [2,4,5,6,7,8,9] (.seq (js [jI 10 0] [2,4,5,6,7,8,9,10] (jK 2 Rg)) (js [jL 48 32 6,jL 49 32 7,jL 50 16 5,jG 51 158 48 49 50,jZ 11 32 .u64,jS 32 11 51] [2,4,5,6,7,8,9,11] (js [jM 52 9,jP 53 .rem 52 2,jP 54 .eql 53 1] [2,4,5,6,7,8,11,54] (.cond (jt 54) (jr [jL 55 32 11,jL 56 32 7,jC 57 159 56,jS 32 6 55,jS 32 7 57] [2,4,5,6,7,8]) (.region [jL 58 32 6,jC 59 159 58,jL 60 32 11,jS 32 6 59,jS 32 7 60] (some [2,4,5,6,7,8]) [(2,3)]))))))) (jr [jM 33 8,jP 34 .sub 33 1,jM 8 34] [2,4,5,6,7,8])))
def yf:AFun:=⟨(js [jB 2 0,jB 3 1,jZ 4 32 .u8] [2,3,4] (js [jA 12 32 1 2 0,jE 13 12,jA 14 32 1 2 0,jE 15 14,jQ 16 .rem 15 .u8 8,jO 17 .sub 13 16,jA 18 32 1 2 0,jS 1 18 17] [2,3,4] (js [jA 19 32 1 2 31,jE 20 19,jQ 21 .rem 20 .u8 64,jQ 22 .add 21 .u8 64,jA 23 32 1 2 31,jS 1 23 22] [2,3,4] (js [jL 24 32 3,jC 25 137 24,jZ 5 16 .u64,jS 16 5 25] [2,4,5] (.seq (.region [jv 26 142 .u64 1,jo 27 (.build (Qa 32 (.int .u64 0)) [jp 0 16 26]),jL 28 16 5,jv 29 142 .u64 1,jo 30 (.build (Qa 32 (.int .u64 0)) [jp 0 16 28,jp 16 16 29]),jZ 6 32 .u64,jZ 7 32 .u64,jS 32 6 27,jS 32 7 30] (some [2,4,5,6,7]) [(2,7)]) (.seq (js [jI 8 255] [2,4,5,6,7,8] (jK 0 De)) (ja [jF 61 0 6,jL 62 16 61,jF 63 16 6,jL 64 16 63,jC 65 143 64,jD 66 139 62 65,jC 67 138 66,jS 32 4 67] [4]))))))),[(4,(some (some 32)))]⟩
def Dd:ACode:=(.seq (js [jM 17 8,jo 18 (.len true (jt 17)),jM 19 1,jO 20 .lss 18 19] [1,2,3,8,9,10,20] (jx 20 0)) (.seq (.block 1 (js [jL 23 32 3,jC 24 157 23,jM 25 9,jM 26 2,jO 27 .add 25 26,jM 28 10,jV 29 .u8 28,jo 30 (.buildSlice [(.int .u8 0)] 1 [jp 0 1 29]),jo 31 (.b2s (jt 30)),jO 32 .add 27 31,jD 33 86 24 32,jC 34 157 33,jM 9 34] [1,2,3,8,9,10] (jr [jM 35 8,jM 36 9,jO 37 .add 35 36,jM 8 37] [1,2,3,8,9,10]))) (jr [jM 21 10,jP 22 .add 21 1,jM 10 22] [1,2,3,8,9,10])))
def ye:AFun:=⟨(js [jB 3 0,jo 6 (.move (.const (.string (ByteArray.mk #[])))),jI 7 0] [1,2,3] (.seq (js [jM 11 1,jP 12 .lss 11 0,jM 13 12,.mk (some 14) (.move (jt 1)) (some (13,false)),.mk (some 15) (.bin .gtr (jt 14) (ji 8160)) (some (13,false)),jo 16 (.pick (jt 13) (.const (.bool true)) (jt 15))] [1,2,3,16] (.cond (jt 16) (ja [jo 6 (.move (.const (.string (ByteArray.mk #[])))),jI 7 1] [6,7]) .skip)) (js [jo 8 (.move (.const (.string (ByteArray.mk #[])))),jo 9 (.move (.const (.string (ByteArray.mk #[]))))] [1,2,3,8,9] (.seq (js [jI 10 1] [1,2,3,8,9,10] (jK 0 Dd)) (ja [jM 38 8,jM 39 1,jo 40 (.sliceStr (jt 38) none (some (jt 39))),jM 6 40,jI 7 0] [6,7]))))),[(6,none),(7,none)]⟩
def Gk:ACode:=(.seq (js [jM 15 7,jP 16 .lss 15 64] [0,1,4,5,6,7,16] (jx 16 0)) (.seq (.block 1 (js [jk 8 .u8 0] [0,1,4,5,6,7,8] (.seq (js [jM 19 7,jM 20 0,jo 21 (.len true (jt 20)),jO 22 .lss 19 21] [0,1,4,5,6,7,8,22] (.cond (jt 22) (jr [jM 23 0,jM 24 7,jo 25 (.indexStr (jt 23) (jt 24)),jM 8 25] [0,1,4,5,6,7,8]) .skip)) (js [jM 26 5,jM 27 8,jQ 28 .xor 27 .u8 54,jo 29 (.buildSlice [(.int .u8 0)] 1 [jp 0 1 28]),jo 30 (.b2s (jt 29)),jO 31 .add 26 30,jM 5 31] [0,1,4,5,6,7,8] (jr [jM 32 6,jM 33 8,jQ 34 .xor 33 .u8 92,jo 35 (.buildSlice [(.int .u8 0)] 1 [jp 0 1 34]),jo 36 (.b2s (jt 35)),jO 37 .add 32 36,jM 6 37] [0,1,4,5,6,7]))))) (jr [jM 17 7,jP 18 .add 17 1,jM 7 18] [0,1,4,5,6,7])))
def yd:AFun:=⟨(js [jZ 4 32 .u8] [0,1,4] (.seq (js [jM 9 0,jo 10 (.len true (jt 9)),jP 11 .gtr 10 64] [0,1,4,11] (.cond (jt 11) (jr [jM 12 0,jC 13 61 12,jC 14 157 13,jM 0 14] [0,1,4]) .skip)) (js [jo 5 (.move (.const (.string (ByteArray.mk #[])))),jo 6 (.move (.const (.string (ByteArray.mk #[]))))] [0,1,4,5,6] (.seq (js [jI 7 0] [0,1,4,5,6,7] (jK 0 Gk)) (ja [jM 38 6,jM 39 5,jM 40 1,jO 41 .add 39 40,jC 42 61 41,jC 43 157 42,jO 44 .add 38 43,jC 45 61 44,jS 32 4 45] [4]))))),[(4,(some (some 32)))]⟩
def yc:AFun:=⟨(js [jB 3 0,jB 4 1,jB 5 2,jZ 6 32 .u64] [3,4,5,6] (js [jF 9 0 3,jL 10 16 9,jF 11 0 4,jL 12 16 11,jD 13 139 10 12,jF 14 16 3,jL 15 16 14,jF 16 16 4,jL 17 16 16,jD 18 139 15 17,jD 19 141 13 18,jZ 7 16 .u64,jS 16 7 19] [3,4,5,6,7] (js [jF 20 0 3,jL 21 16 20,jF 22 16 4,jL 23 16 22,jD 24 139 21 23,jF 25 16 3,jL 26 16 25,jF 27 0 4,jL 28 16 27,jD 29 139 26 28,jD 30 141 24 29,jZ 8 16 .u64,jS 16 8 30] [5,6,7,8] (ja [jL 31 16 7,jL 32 16 7,jD 33 139 31 32,jL 34 16 5,jL 35 16 8,jL 36 16 8,jD 37 139 35 36,jD 38 139 34 37,jo 39 (.build (Qa 32 (.int .u64 0)) [jp 0 16 33,jp 16 16 38]),jS 32 6 39] [6])))),[(6,(some (some 32)))]⟩
def yb:AFun:=⟨(js [jB 1 0,jZ 2 32 .u64] [1,2] (js [jF 8 0 1,jL 9 16 8,jF 10 0 1,jL 11 16 10,jD 12 139 9 11,jF 13 16 1,jL 14 16 13,jF 15 16 1,jL 16 16 15,jD 17 139 14 16,jZ 3 16 .u64,jZ 4 16 .u64,jS 16 3 12,jS 16 4 17] [1,2,3,4] (js [jF 18 0 1,jL 19 16 18,jF 20 16 1,jL 21 16 20,jD 22 139 19 21,jZ 5 16 .u64,jS 16 5 22] [2,3,4,5] (js [jL 23 16 3,jL 24 16 4,jD 25 141 23 24,jZ 6 16 .u64,jS 16 6 25] [2,3,4,5,6] (js [jL 26 16 3,jL 27 16 4,jD 28 144 26 27,jv 29 142 .u64 486662,jL 30 16 5,jD 31 139 29 30,jD 32 144 28 31,jZ 7 16 .u64,jS 16 7 32] [2,5,6,7] (ja [jL 33 16 6,jL 34 16 6,jD 35 139 33 34,jv 36 142 .u64 4,jL 37 16 5,jD 38 139 36 37,jL 39 16 7,jD 40 139 38 39,jo 41 (.build (Qa 32 (.int .u64 0)) [jp 0 16 35,jp 16 16 40]),jS 32 2 41] [2])))))),[(2,(some (some 32)))]⟩
def uJ:ACode:=(.seq (js [jM 5 4,jP 6 .lss 5 32] [1,3,4,6] (jx 6 0)) (.seq (.block 1 (jr [jM 9 3,jM 10 4,jH 11 32 1 1 10,jE 12 11,jo 13 (.buildSlice [(.int .u8 0)] 1 [jp 0 1 12]),jo 14 (.b2s (jt 13)),jO 15 .add 9 14,jM 3 15] [1,3,4])) (jr [jM 7 4,jP 8 .add 7 1,jM 4 8] [1,3,4])))
def a300:AFun:=⟨(js [jB 1 0,jo 2 (.move (.const (.string (ByteArray.mk #[]))))] [1] (js [jo 3 (.move (.const (.string (ByteArray.mk #[]))))] [1,3] (.seq (js [jI 4 0] [1,3,4] (jK 0 uJ)) (ja [jM 16 3,jM 2 16] [2])))),[(2,none)]⟩
def fnS:Nat->Option AFun
 |104=>some a16
 |134=>some a17
 |150=>some a18
 |103=>some a19
 |65=>some a21
 |75=>some a22
 |148=>some a23
 |68=>some a25
 |69=>some a26
 |67=>some a27
 |127=>some a28
 |71=>some a29
 |129=>some a30
 |63=>some a31
 |72=>some a32
 |73=>some a33
 |70=>some a34
 |79=>some a35
 |80=>some a36
 |78=>some a37
 |74=>some a38
 |64=>some a39
 |130=>some a40
 |166=>some a41
 |167=>some a42
 |196=>some a43
 |164=>some a44
 |165=>some a45
 |131=>some a46
 |132=>some a47
 |147=>some a48
 |105=>some a49
 |106=>some a50
 |109=>some a51
 |124=>some a52
 |128=>some a53
 |135=>some a54
 |185=>some a55
 |110=>some a56
 |111=>some a57
 |136=>some a58
 |120=>some a59
 |121=>some a60
 |122=>some a61
 |123=>some a62
 |125=>some a63
 |126=>some a64
 |137=>some a65
 |138=>some a66
 |139=>some a67
 |140=>some a68
 |141=>some a69
 |142=>some a70
 |143=>some a71
 |144=>some a72
 |145=>some a73
 |146=>some a74
 |186=>some a75
 |205=>some a76
 |170=>some a77
 |171=>some a78
 |172=>some a79
 |173=>some a80
 |174=>some a81
 |169=>some a82
 |175=>some a83
 |176=>some a84
 |190=>some a85
 |191=>some a86
 |192=>some a87
 |193=>some a88
 |194=>some a89
 |195=>some a90
 |206=>some a91
 |211=>some a93
 |53=>some zg
 |31=>some Tz
 |54=>some zf
 |102=>some ze
 |66=>some zd
 |133=>some zb
 |187=>some za
 |188=>some yZ
 |189=>some yY
 |177=>some pY
 |210=>some yX
 |179=>some pX
 |214=>some yW
 |209=>some yV
 |62=>some yU
 |33=>some Ty
 |119=>some yT
 |76=>some yS
 |77=>some gX
 |149=>some yR
 |118=>some pU
 |180=>some yQ
 |181=>some yP
 |182=>some pT
 |183=>some yO
 |184=>some pS
 |6=>some yN
 |21=>some pR
 |7=>some Fj
 |22=>some Nl
 |23=>some yM
 |24=>some yL
 |10=>some yK
 |32=>some yJ
 |25=>some pP
 |26=>some yI
 |55=>some yH
 |56=>some pO
 |57=>some yG
 |58=>some yF
 |107=>some yE
 |108=>some yD
 |112=>some yC
 |113=>some y9
 |114=>some y8
 |115=>some y7
 |116=>some y6
 |168=>some uL
 |151=>some y5
 |152=>some yz
 |82=>some yx
 |178=>some yw
 |208=>some yu
 |3=>some yr
 |8=>some Fi
 |9=>some yq
 |11=>some yo
 |30=>some yn
 |29=>some ym
 |27=>some pN
 |28=>some yl
 |34=>some yk
 |40=>some yj
 |59=>some pM
 |43=>some a291
 |60=>some yi
 |61=>some yh
 |81=>some yg
 |87=>some yf
 |117=>some ye
 |86=>some yd
 |158=>some yc
 |159=>some yb
 |157=>some a300
 |_=>none
end Go.Ev.YtoipgdjfhahimaaGreat
namespace Go.Ev.YtoipgdjfhahimaaGreat
open Go Go.Ev
variable{x y c:Nat}
def tE(f:Nat)(args:List Value):Option Value :=
 match f,args with
 |207,[.int .u64 x,.int .u64 y,.int .u64 c]=>if c.toNat<=1 then some (.tuple #[.int .u64 ((x.toNat+y.toNat+c.toNat)%18446744073709551616:Nat),.int .u64 ((x.toNat+y.toNat+c.toNat)/18446744073709551616:Nat)])else none
 |_,_=>none
def T:Tab:=⟨fnS,tE⟩
attribute [local congr] Hr
set_option maxRecDepth 100000
def Dn(x y c:Nat):Nat:=if x<y+c then 1 else 0
def Dm(x y c:Nat):Nat:=if x<y+c then x+4294967296-(y+c)else x-(y+c)
theorem AM(hx:x<4294967296)(hy:y<4294967296)(hc:c<=1) :
  Z6 T 186 [.int .u32 x,.int .u32 y,.int .u32 c] []=some (.tuple #[.int .u32 (Dm x y c:Nat),.int .u32 (Dn x y c:Nat)],[],[]):=by
 have e1:IntKind.u32.wrap (IntKind.u32.wrap ((x:Int)-y)-c)=((x:Int)-y-c)%4294967296:=by rw[wrap_u32,wrap_u32];omega
 have e2:=pr hx hy hc
 have e3:(31:Int).toNat=31:=rfl
 have e4:min 31 IntKind.u32.bits=31:=rfl
 have e5:((x:Int)-y-c)%4294967296=(Dm x y c:Nat):=by unfold Dm;split<;>omega
 have e6:(if x<y+c then 1 else 0:Int)=(Dn x y c:Nat):=by unfold Dn;split<;>rfl
 rw[QY (fn:=a75) rfl]
 simp only[a75,Qr,guardOf,Qz,opd,Xb,ZI,Zq,Env.get,Env.put,Jj,Q1,ZC,St.after,Env.keep,Ju,Jb,unV,ZU,Zt,packed,Ob.fresh,Jn,Z7,cS,reduceCtorEq,QQ,QK,QT,Zk,Ze,Zf,QJ,Zd,QS,show(if IntKind.u32.signed=true then(-1:Int)else IntKind.u32.max)=IntKind.u32.max from rfl,e1,e3,e4,show ¬((31:Int)<0) by decide,ZT]
 rw[e2,e6,e5]
def PF(x y c:Nat):Nat:=(x+y+c)/4294967296
def PE(x y c:Nat):Nat:=(x+y+c)%4294967296
theorem PG(hx:x<4294967296)(hy:y<4294967296)(hc:c<=1) :
  Z6 T 205 [.int .u32 x,.int .u32 y,.int .u32 c] []=some (.tuple #[.int .u32 (PE x y c:Nat),.int .u32 (PF x y c:Nat)],[],[]):=by
 have e1:IntKind.u64.wrap (IntKind.u64.wrap (IntKind.u64.wrap (x:Int)+IntKind.u64.wrap (y:Int))+IntKind.u64.wrap (c:Int))=((x+y+c:Nat):Int):=by simp only[WU];omega
 have e3:(32:Int).toNat=32:=rfl
 have e4:min 32 IntKind.u64.bits=32:=rfl
 have e5:IntKind.u32.wrap ((x+y+c:Nat):Int)=(PE x y c:Nat):=by rw[wrap_u32];unfold PE;omega
 have e6:IntKind.u32.wrap (GA ((x+y+c:Nat):Int) (2^32))=(PF x y c:Nat):=by
  rw[wrap_u32,JO _ ww];unfold PF;omega
 rw[QY (fn:=a76) rfl]
 simp only[a76,Qr,guardOf,Qz,opd,Xb,ZI,Zq,Env.get,Env.put,Jj,Q1,ZC,St.after,Env.keep,Ju,Jb,unV,ZU,Zt,packed,Ob.fresh,Jn,Z7,cS,reduceCtorEq,QQ,QK,QT,Zk,Ze,Zf,QJ,Zd,QS,e1,e3,e4,e5,e6,show ¬((32:Int)<0) by decide,ZT]
def orderW:List Nat:=[1559614445,1477600026,2734136534,350157278,0,0,0,268435456]
theorem Cn(H:List Ob):Z6 T 132 [] H=some (.slice H.length 8 8,H++[Ob.fresh (Zc orderW)],[]):=by
 rw[QY (fn:=a47) rfl]
 simp only[a47,Qr,guardOf,Qz,opd,Xb,ZI,Zq,Env.get,Env.put,Jj,Q1,ZC,St.after,Env.keep,Ju,Jb,unV,ZU,Zt,packed,Ob.fresh,Jn,Z7,cS,reduceCtorEq,QQ,QK,QT,Zk,Ze,Zf,QJ,Zd,QS]
 rfl
end Go.Ev.YtoipgdjfhahimaaGreat
namespace Go.Ev.YtoipgdjfhahimaaGreat
open Go Go.Ev
attribute [local congr] Hr
set_option maxRecDepth 100000
variable{H:List Ob}{n c m id2 off2 c2 k id1 off1 c1 x b y id off i a l:Nat}{ws r os out bs:List Nat}{s v:Value}
def SX(ws:List Nat)(j x:Nat):List Nat:=ws.set (j/4) (ws.getD (j/4) 0|||x*2^(8*(j%4)))
def ofI(H:List Ob)(id off n c m:Nat)(log:List Nat)(W:Nat->List Nat)(j:Nat):St :=
 ⟨[(3,.slice H.length m m),(11,.slice (some ⟨id,off,none⟩) n c),(12,.int .i64 n),(13,.int .i64 j)],H++[Ob.fresh (Zc (W j))],log⟩
theorem s8(hr:Row .u8 H id off bs)(hn:bs.length=n)(hm:m=(n+3)/4)(hN:n<2^40)(hb:∀x∈bs,x<256)
 (W:Nat->List Nat) (hW:∀j,(W j).length=m/\∀x∈W j,x<4294967296) (hstep:∀j x,bs[j]?=some x->W (j+1)=SX (W j) j x) {j:Nat} (hj:j<n) :
    Q0 T H.length Mk (ofI H id off n c m [] W j)=some (.normal,ofI H id off n c m [] W (j+1)):=by
  obtain⟨x,hx⟩:∃x,bs[j]?=some x:=⟨_,Qf qr⟩
  have h1:((j:Int)<(n:Int)):=qr
  have hq:j/4<m:=qr
  obtain⟨y,hy⟩:∃y,(W j)[j/4]?=some y:=⟨_,Qf (by rw[(hW j).1];exact hq)⟩
  obtain⟨o,ho,hc⟩:=hr
  have ho':=KF (l:=[{c:=Zc (W j)}]) ho
  have hxc:=hc j x hx
  have hyc:=Ko hy
  have hx256:x<256:=hb x (Qo hx)
  have e1:IntKind.i64.wrap ((j:Int).tdiv 4)=((j/4:Nat):Int):=ZB (n:=j/4) qr
  have e2:((j:Int).tmod 4)=((j%4:Nat):Int):=rfl
  have e3:IntKind.i64.wrap (8*((j%4:Nat):Int))=((8*(j%4):Nat):Int):=ZB (n:=8*(j%4)) qr
  have e4:min (8*(j%4)) IntKind.u32.bits=8*(j%4):=Zw (by show _<=32;omega)
  have e5:IntKind.u32.wrap (x:Int)=(x:Nat):=Xj rfl (by show x<2^32;omega)
  have h3:((j/4:Nat):Int)<(m:Int):=qr
  have h4:¬(((8*(j%4):Nat):Int)<0):=qr
  have hp:x*2^(8*(j%4))<4294967296:=by
    have h5:(2:Nat)^(8*(j%4))<=2^24:=Zo ww qr
    have h6:x*2^(8*(j%4))<=255*2^24:=Xe qr h5
    omega
  have hy32:y<4294967296:=(hW j).2 y (Qo hy)
  have e6:Zr .or .u32 (y:Nat) (IntKind.u32.wrap ((x:Int)*2^(8*(j%4))))=((y|||x*2^(8*(j%4)):Nat):Int):=by
    have:((x:Int)*2^(8*(j%4)))=((x*2^(8*(j%4)):Nat):Int):=by simp
    rw[this,Xj rfl hp,Kh rfl hy32 hp]
  have e7:IntKind.i64.wrap ((j:Int)+1)=((j+1:Nat):Int):=ZB (n:=j+1) qr
  have h5:j/4+1<=(Zc (W j)).length:=by rw[Kn,(hW j).1];omega
  have hs:W (j+1)=(W j).set (j/4) (y|||x*2^(8*(j%4))):=by rw[hstep j x hx,SX,QD,hy];rfl
  simp only[ofI,Mk,Qr,guardOf,Qz,opd,Xb,ZI,Zq,Env.get,Env.put,Jj,Q1,ZC,St.after,Env.keep,Ju,Jb,unV,ZU,Zt,packed,Ob.fresh,Jn,Z7,cS,reduceCtorEq,QQ,QK,QT,Zk,Ze,Zf,QJ,Zd,QS,h1,ho',hxc,hyc,e1,e2,e3,e4,e5,h3,h4,e6,e7,h5,KP,hs,YG]
theorem BE(v:Value):∀n,(Qa n [v]).flatten=Qa n v
 |0=>rfl
 |n+1=>by rw[XC,List.flatten_cons,BE v n];rfl
theorem Pq(B n:Nat):dig B n 0=Qa n 0:=by
 symm
 exact HY wd fun i hi=>by simp[hi]
theorem RG(n:Nat):Qa n (Value.int .u32 0)=Zc (dig 4294967296 n 0):=by simp[Pq,Zc]
theorem Ix(hr:Row .u8 H id off bs)(hn:bs.length=n)(hN:n<2^40)(hb:∀x∈bs,x<256) :
  Z6 T 130 [.slice (some ⟨id,off,none⟩) n c] H=some (.slice H.length ((n+3)/4) ((n+3)/4),H++[Ob.fresh (Zc (dig 4294967296 ((n+3)/4) (num 256 bs)))],[]):=by
 have hbody:=ZR (T:=T) (base:=H.length) (id:=0) (body:=Mk) (ofI H id off n c ((n+3)/4) [] fun j=>dig 4294967296 ((n+3)/4) (num 256 (bs.take j))) n
  (s':=⟨[(3,.slice H.length ((n+3)/4) ((n+3)/4)),(11,.slice (some ⟨id,off,none⟩) n c),(12,.int .i64 n),(13,.int .i64 n),(14,.bool false)],H++[Ob.fresh (Zc (dig 4294967296 ((n+3)/4) (num 256 bs)))],[]⟩)
  (fun j hj=>s8 hr hn rfl hN hb _ (fun j=>⟨Zg _ _ _,fun x hx=>Vy ww hx⟩) (fun j x hx=>by
   have hj:j<bs.length:=(Qg.1 hx).1
   have hlt:num 256 (bs.take j)<256^j:=by
    have:=num_lt (B:=256) (l:=bs.take j) fun y hy=>hb y (QP hy)
    rwa[Q3,Zw (Nat.le_of_lt hj)]at this
   rw[Xa hx,SX,oW qr hlt (hb x (Qo hx))]) hj)
  (by
   have h1:¬((n:Int)<(n:Int)):=qr
   have h2:bs.take n=bs:=by rw[<-hn];exact YU
   simp only[ofI,Mk,Qr,guardOf,Qz,opd,Xb,ZI,Zq,Env.get,Env.put,Jj,Q1,ZC,St.after,Env.keep,Ju,Jb,unV,ZU,Zt,packed,Ob.fresh,Jn,Z7,cS,reduceCtorEq,QQ,QK,QT,Zk,Ze,Zf,QJ,Zd,QS,h1,h2])
 have e1:IntKind.i64.wrap ((n:Int)+3)=((n+3:Nat):Int):=ZB (n:=n+3) qr
 have e2:IntKind.i64.wrap (((n+3:Nat):Int).tdiv 4)=(((n+3)/4:Nat):Int):=ZB (n:=(n+3)/4) qr
 have h1:((((n+3)/4:Nat):Int)*((4:Nat):Int)<=2^47):=qr
 have h2:(0:Nat)<4:=ww
 rw[QY (fn:=a40) rfl]
 have hz:ofI H id off n c ((n+3)/4) [] (fun j=>dig 4294967296 ((n+3)/4) (num 256 (bs.take j))) 0=⟨[(3,.slice H.length ((n+3)/4) ((n+3)/4)),(11,.slice (some ⟨id,off,none⟩) n c),(12,.int .i64 n),(13,.int .i64 0)],H++[Ob.fresh (Zc (dig 4294967296 ((n+3)/4) 0))],[]⟩:=by simp[ofI,num]
 rw[hz]at hbody
 simp only[Ob.fresh]at hbody
 simp only[a40,Qr,guardOf,Qz,opd,Xb,ZI,Zq,Env.get,Env.put,Jj,Q1,ZC,St.after,Env.keep,Ju,Jb,unV,ZU,Zt,packed,Ob.fresh,Jn,Z7,cS,reduceCtorEq,QQ,QK,QT,Zk,Ze,Zf,QJ,Zd,QS,e1,e2,h1,h2,Bj,BE,RG,hbody]
structure MulInv(n m i k A a:Nat)(os out:List Nat)(c:Nat):Prop where
 len:out.length=n+m
 lt:∀x∈out,x<4294967296
 clt:c<4294967296
 eq:num 4294967296 out+c*4294967296^(i+k)=A+a*4294967296^i*num 4294967296 (os.take k)
 top:∀j,i+m<=j->j<n+m->out[j]?=some 0
theorem MulInv.step{n m i k A a b y c:Nat}{os out:List Nat}(h:MulInv n m i k A a os out c)(ha:a<4294967296)(hb:os[k]?=some b)(hb':b<4294967296)(hy:out[i+k]?=some y)(hk:k<m) :
  MulInv n m i (k+1) A a os (out.set (i+k) ((c+(y+a*b))%4294967296)) ((c+(y+a*b))/4294967296):=by
 have hy':y<4294967296:=h.lt y (Qo hy)
 have hc:=h.clt
 refine⟨by rw[Q4];exact h.len,VH h.lt (Q9 _ ww),?_,?_,?_⟩
 ·have:a*b<=4294967295*4294967295:=Xe qr qr
  rw[Nat.div_lt_iff_lt_mul ww]
  show _<4294967296*4294967296
  omega
 ·have h1:=V6 (B:=4294967296) ((c+(y+a*b))%4294967296) hy
  have h2:=h.eq
  rw[Xa hb]
  have h3:=Z5 (c+(y+a*b)) 4294967296
  generalize(c+(y+a*b))/4294967296=q at *
  generalize(c+(y+a*b))%4294967296=r at *
  have e1:a*4294967296^i*(num 4294967296 (os.take k)+b*4294967296^k)=a*4294967296^i*num 4294967296 (os.take k)+a*b*4294967296^(i+k):=by
   rw[YE,JI];congr 1;simp only[ZD,JM,Zm]
  have e2:q*4294967296^(i+(k+1))=4294967296*q*4294967296^(i+k):=by
   rw[<-Zb,Zj];simp only[ZD,JM,Zm]
  rw[e1,e2]
  have e3:(4294967296*q+r)*4294967296^(i+k)=(c+(y+a*b))*4294967296^(i+k):=by rw[h3]
  rw[Zl,Zl,Zl]at e3
  omega
 ·intro j h1 h2
  rw[Qu qr]
  exact h.top j h1 h2
def eM(H:List Ob)(s1 s2:Value)(n m i a k c:Nat)(out:List Nat):St :=
 ⟨[(1,s2),(5,.slice H.length (n+m) (n+m)),(6,.int .i64 i),(7,.int .u32 a),(8,.int .u64 c),(17,s1),(18,.int .i64 n),(19,.int .i64 i),(24,s2),(25,.int .i64 m),(26,.int .i64 k)],H++[Ob.fresh (Zc out)],[]⟩
theorem eL{s1:Value}(hr:Row .u32 H id2 off2 os)(hN:n+m<2^40)(hi:i<n)(hk:k<m)(ha:a<4294967296)(hb:os[k]?=some b)(hb':b<4294967296)(hl:out.length=n+m)(hy:out[i+k]?=some y)(hy':y<4294967296)(hc:c<4294967296) :
  Q0 T H.length EZ (eM H s1 (.slice (some ⟨id2,off2,none⟩) m c2) n m i a k c out)=some (.normal,eM H s1 (.slice (some ⟨id2,off2,none⟩) m c2) n m i a (k+1) ((c+(y+a*b))/4294967296) (out.set (i+k) ((c+(y+a*b))%4294967296))):=by
 obtain⟨o,ho,hcell⟩:=hr
 have ho':=KF (l:=[{c:=Zc out}]) ho
 have hxc:=hcell k b hb
 have hyc:=Ko hy
 have hab:a*b<=4294967295*4294967295:=Xe qr qr
 have h1:((k:Int)<(m:Int)):=qr
 have h2:((i+k:Nat):Int)<((n+m:Nat):Int):=qr
 have e1:IntKind.i64.wrap ((i:Int)+(k:Int))=((i+k:Nat):Int):=ZB (n:=i+k) qr
 have e2:IntKind.u64.wrap (y:Int)=(y:Nat):=Xj rfl (by show y<2^64;omega)
 have e3:IntKind.u64.wrap (a:Int)=(a:Nat):=Xj rfl (by show a<2^64;omega)
 have e4:IntKind.u64.wrap (b:Int)=(b:Nat):=Xj rfl (by show b<2^64;omega)
 have e5:IntKind.u64.wrap ((a:Int)*(b:Int))=((a*b:Nat):Int):=Xj (n:=a*b) rfl (by show _<2^64;omega)
 have e6:IntKind.u64.wrap ((y:Int)+((a*b:Nat):Int))=((y+a*b:Nat):Int):=Xj (n:=y+a*b) rfl (by show _<2^64;omega)
 have e7:IntKind.u64.wrap ((c:Int)+((y+a*b:Nat):Int))=((c+(y+a*b):Nat):Int):=Xj (n:=c+(y+a*b)) rfl (by show _<2^64;omega)
 have e8:IntKind.u32.wrap ((c+(y+a*b):Nat):Int)=(((c+(y+a*b))%4294967296:Nat):Int):=by rw[wrap_u32];rfl
 have e9:GA ((c+(y+a*b):Nat):Int) (2^min 32 IntKind.u64.bits)=(((c+(y+a*b))/4294967296:Nat):Int):=by
  rw[JO _ ww];rfl
 have e10:IntKind.i64.wrap ((k:Int)+1)=((k+1:Nat):Int):=ZB (n:=k+1) qr
 have h5:i+k+1<=(Zc out).length:=by rw[Kn,hl];omega
 simp only[eM,EZ,Qr,guardOf,Qz,opd,Xb,ZI,Zq,Env.get,Env.put,Jj,Q1,ZC,St.after,Env.keep,Ju,Jb,unV,ZU,Zt,packed,Ob.fresh,Jn,Z7,cS,reduceCtorEq,QQ,QK,QT,Zk,Ze,Zf,QJ,Zd,QS,h1,h2,ho',hxc,hyc,e1,e2,e3,e4,e5,e6,e7,e8,e9,e10,h5,KP,YG]
structure TimesInv(n m i:Nat)(ws os out:List Nat):Prop where
 len:out.length=n+m
 lt:∀x∈out,x<4294967296
 eq:num 4294967296 out=num 4294967296 (ws.take i)*num 4294967296 os
 top:∀j,i+m<=j->j<n+m->out[j]?=some 0
def RH(H:List Ob)(s1 s2:Value)(n m i:Nat)(out:List Nat):St :=
 ⟨[(1,s2),(5,.slice H.length (n+m) (n+m)),(17,s1),(18,.int .i64 n),(19,.int .i64 i)],H++[Ob.fresh (Zc out)],[]⟩
theorem NB(hr1:Row .u32 H id1 off1 ws)(hr2:Row .u32 H id2 off2 os)(hm:os.length=m)(hN:n+m<2^40)(hi:i<n)(ha:ws[i]?=some a)(ha':a<4294967296)(hos:∀x∈os,x<4294967296)(h:TimesInv n m i ws os out) :
  ∃out',Q0 T H.length EY (RH H (.slice (some ⟨id1,off1,none⟩) n c1) (.slice (some ⟨id2,off2,none⟩) m c2) n m i out)=some (.normal,RH H (.slice (some ⟨id1,off1,none⟩) n c1) (.slice (some ⟨id2,off2,none⟩) m c2) n m (i+1) out')/\TimesInv n m (i+1) ws os out':=by
 have h0:MulInv n m i 0 (num 4294967296 out) a os out 0:=⟨h.len,h.lt,by decide,by simp[num],h.top⟩
 obtain⟨s',hb,out1,c,rfl,hinv⟩:=Zh (T:=T) (base:=H.length) (id:=2) (body:=EZ)
  (fun k s=>∃out1 c,s=eM H (.slice (some ⟨id1,off1,none⟩) n c1) (.slice (some ⟨id2,off2,none⟩) m c2) n m i a k c out1/\MulInv n m i k (num 4294967296 out) a os out1 c)
  (Q:=fun s=>∃out1 c,s=⟨[(1,.slice (some ⟨id2,off2,none⟩) m c2),(5,.slice H.length (n+m) (n+m)),(6,.int .i64 i),(7,.int .u32 a),(8,.int .u64 (c:Nat)),(17,.slice (some ⟨id1,off1,none⟩) n c1),(18,.int .i64 n),(19,.int .i64 i),(24,.slice (some ⟨id2,off2,none⟩) m c2),(25,.int .i64 m),(26,.int .i64 m),(27,.bool false)],H++[{c:=Zc out1}],[]⟩/\MulInv n m i m (num 4294967296 out) a os out1 c)
  m ⟨out,0,rfl,h0⟩
  (fun k s hk hs=>by
   obtain⟨out1,c,rfl,hI⟩:=hs
   obtain⟨b,hbk⟩:∃b,os[k]?=some b:=⟨_,Qf qr⟩
   obtain⟨y,hy⟩:∃y,out1[i+k]?=some y:=⟨_,Qf (by rw[hI.len];omega)⟩
   have hb':=hos b (Qo hbk)
   exact⟨_,eL hr2 hN hi hk ha' hbk hb' hI.len hy (hI.lt y (Qo hy)) hI.clt,_,_,rfl,hI.step ha' hbk hb' hy hk⟩)
  (fun s hs=>by
   obtain⟨out1,c,rfl,hI⟩:=hs
   have h1:¬((m:Int)<(m:Int)):=qr
   refine⟨_,?_,out1,c,rfl,hI⟩
   simp only[eM,EZ,Qr,guardOf,Qz,opd,Xb,ZI,Zq,Env.get,Env.put,Jj,Q1,ZC,St.after,Env.keep,Ju,Jb,unV,ZU,Zt,packed,Ob.fresh,Jn,Z7,cS,reduceCtorEq,QQ,QK,QT,Zk,Ze,Zf,QJ,Zd,QS,h1])
 rw[show eM H (.slice (some ⟨id1,off1,none⟩) n c1) (.slice (some ⟨id2,off2,none⟩) m c2) n m i a 0 0 out=⟨[(1,.slice (some ⟨id2,off2,none⟩) m c2),(5,.slice H.length (n+m) (n+m)),(6,.int .i64 i),(7,.int .u32 a),(8,.int .u64 0),(17,.slice (some ⟨id1,off1,none⟩) n c1),(18,.int .i64 n),(19,.int .i64 i),(24,.slice (some ⟨id2,off2,none⟩) m c2),(25,.int .i64 m),(26,.int .i64 0)],H++[{c:=Zc out}],[]⟩ from rfl]at hb
 obtain⟨o,ho,hcell⟩:=hr1
 have ho':=KF (l:=[{c:=Zc out}]) ho
 have hxc:=hcell i a ha
 have hz:out1[i+m]?=some 0:=hinv.top (i+m) (Qs _) qr
 have h1:((i:Int)<(n:Int)):=qr
 have h2:((i+m:Nat):Int)<((n+m:Nat):Int):=qr
 have e1:IntKind.i64.wrap ((i:Int)+(m:Int))=((i+m:Nat):Int):=ZB (n:=i+m) qr
 have e2:IntKind.u32.wrap (c:Int)=(c:Nat):=Xj rfl hinv.clt
 have e10:IntKind.i64.wrap ((i:Int)+1)=((i+1:Nat):Int):=ZB (n:=i+1) qr
 have h5:i+m+1<=(Zc out1).length:=by rw[Kn,hinv.len];omega
 refine⟨out1.set (i+m) c,?_,?_⟩
 ·simp only[RH,EY,Qr,guardOf,Qz,opd,Xb,ZI,Zq,Env.get,Env.put,Jj,Q1,ZC,St.after,Env.keep,Ju,Jb,unV,ZU,Zt,packed,Ob.fresh,Jn,Z7,cS,reduceCtorEq,QQ,QK,QT,Zk,Ze,Zf,QJ,Zd,QS,h1,h2,ho',hxc,hb,e1,e2,e10,h5,KP,YG]
 ·refine⟨by rw[Q4];exact hinv.len,VH hinv.lt hinv.clt,?_,?_⟩
  ·have h6:=V6 (B:=4294967296) c hz
   have h7:=hinv.eq
   rw[show os.take m=os by rw[<-hm];exact YU,h.eq]at h7
   rw[Xa ha,Zl]
   omega
  ·intro j h6 h7
   rw[Qu qr]
   exact hinv.top j qr h7
theorem iT(hr1:Row .u32 H id1 off1 ws)(hr2:Row .u32 H id2 off2 os)(hn:ws.length=n)(hm:os.length=m)(hN:n+m<2^40)(hws:∀x∈ws,x<4294967296)(hos:∀x∈os,x<4294967296) :
  Z6 T 164 [.slice (some ⟨id1,off1,none⟩) n c1,.slice (some ⟨id2,off2,none⟩) m c2] H=some (.slice H.length (n+m) (n+m),H++[Ob.fresh (Zc (dig 4294967296 (n+m) (num 4294967296 ws*num 4294967296 os)))],[]):=by
 have h0:TimesInv n m 0 ws os (dig 4294967296 (n+m) 0):=⟨Zg _ _ _,fun x hx=>Vy ww hx,by rw[XJ ww];simp[num],fun j _ h=>by rw[XX h];simp⟩
 obtain⟨s',hb,out,rfl,hinv⟩:=Zh (T:=T) (base:=H.length) (id:=0) (body:=EY)
  (fun i s=>∃out,s=RH H (.slice (some ⟨id1,off1,none⟩) n c1) (.slice (some ⟨id2,off2,none⟩) m c2) n m i out/\TimesInv n m i ws os out)
  (Q:=fun s=>∃out,s=⟨[(1,.slice (some ⟨id2,off2,none⟩) m c2),(5,.slice H.length (n+m) (n+m)),(17,.slice (some ⟨id1,off1,none⟩) n c1),(18,.int .i64 n),(19,.int .i64 n),(20,.bool false)],H++[{c:=Zc out}],[]⟩/\TimesInv n m n ws os out)
  n ⟨_,rfl,h0⟩
  (fun i s hi hs=>by
   obtain⟨out,rfl,hI⟩:=hs
   obtain⟨a,ha⟩:∃a,ws[i]?=some a:=⟨_,Qf qr⟩
   obtain⟨out',g1,g2⟩:=NB (c1:=c1) (c2:=c2) hr1 hr2 hm hN hi ha (hws a (Qo ha)) hos hI
   exact⟨_,g1,_,rfl,g2⟩)
  (fun s hs=>by
   obtain⟨out,rfl,hI⟩:=hs
   have h1:¬((n:Int)<(n:Int)):=qr
   refine⟨_,?_,out,rfl,hI⟩
   simp only[RH,EY,Qr,guardOf,Qz,opd,Xb,ZI,Zq,Env.get,Env.put,Jj,Q1,ZC,St.after,Env.keep,Ju,Jb,unV,ZU,Zt,packed,Ob.fresh,Jn,Z7,cS,reduceCtorEq,QQ,QK,QT,Zk,Ze,Zf,QJ,Zd,QS,h1])
 rw[show RH H (.slice (some ⟨id1,off1,none⟩) n c1) (.slice (some ⟨id2,off2,none⟩) m c2) n m 0 (dig 4294967296 (n+m) 0)=⟨[(1,.slice (some ⟨id2,off2,none⟩) m c2),(5,.slice H.length (n+m) (n+m)),(17,.slice (some ⟨id1,off1,none⟩) n c1),(18,.int .i64 n),(19,.int .i64 0)],H++[{c:=Zc (dig 4294967296 (n+m) 0)}],[]⟩ from rfl]at hb
 have hout:dig 4294967296 (n+m) (num 4294967296 ws*num 4294967296 os)=out:=by
  have h1:=hinv.eq
  rw[show ws.take n=ws by rw[<-hn];exact YU]at h1
  rw[<-h1,<-hinv.len,WD ww hinv.lt]
 have e1:IntKind.i64.wrap ((n:Int)+(m:Int))=((n+m:Nat):Int):=ZB (n:=n+m) qr
 have h1:(((n+m:Nat):Int)*((4:Nat):Int)<=2^47):=qr
 have h2:(0:Nat)<4:=ww
 rw[QY (fn:=a44) rfl,hout]
 simp only[a44,Qr,guardOf,Qz,opd,Xb,ZI,Zq,Env.get,Env.put,Jj,Q1,ZC,St.after,Env.keep,Ju,Jb,unV,ZU,Zt,packed,Ob.fresh,Jn,Z7,cS,reduceCtorEq,QQ,QK,QT,Zk,Ze,Zf,QJ,Zd,QS,e1,h1,h2,Bj,BE,RG,hb]
structure PlusInv(n i A:Nat)(os out:List Nat)(c:Nat):Prop where
 len:out.length=n+1
 lt:∀x∈out,x<4294967296
 cle:c<=1
 eq:num 4294967296 out+c*4294967296^i=A+num 4294967296 (os.take i)
theorem FG{B:Nat}(l:List Nat)(i:Nat):num B (l.take (i+1))=num B (l.take i)+l.getD i 0*B^i:=by
 cases h:l[i]? with
 |some x=>rw[Xa h,QD,h];rfl
 |none =>
  have:=List.getElem?_eq_none_iff.1 h
  rw[QD,h,Qm this,Qm qr]
  simp
theorem PlusInv.step{n i A c y:Nat}{os out:List Nat}(h:PlusInv n i A os out c)(hos:∀x∈os,x<4294967296)(hy:out[i]?=some y):PlusInv n (i+1) A os (out.set i (PE y (os.getD i 0) c)) (PF y (os.getD i 0) c):=by
 have hy':y<4294967296:=h.lt y (Qo hy)
 have hc:=h.cle
 have hx:os.getD i 0<4294967296:=by
  rw[QD]
  cases hh:os[i]? with
  |some x=>exact hos x (Qo hh)
  |none=>decide
 refine⟨by rw[Q4];exact h.len,VH h.lt (Q9 _ ww),?_,?_⟩
 ·unfold PF;omega
 ·have h1:=V6 (B:=4294967296) (PE y (os.getD i 0) c) hy
  have h2:=h.eq
  rw[FG]
  have h3:4294967296*PF y (os.getD i 0) c+PE y (os.getD i 0) c=y+os.getD i 0+c:=Z5 _ _
  generalize PF y (os.getD i 0) c=q,PE y (os.getD i 0) c=r at *
  have e2:q*4294967296^(i+1)=4294967296*q*4294967296^i:=by
   rw[Zj];simp only[ZD,JM,Zm]
  have e3:(4294967296*q+r)*4294967296^i=(y+os.getD i 0+c)*4294967296^i:=by rw[h3]
  rw[Zl,Zl,Zl]at e3
  rw[e2]
  omega
def Ci(H:List Ob)(s2:Value)(n i c:Nat)(out:List Nat):St :=
 ⟨[(1,s2),(5,.slice H.length (n+1) (n+1)),(6,.int .u32 c),(19,.int .i64 ((n+1:Nat):Int)),(20,.int .i64 i)],H++[{c:=Zc out},{c:=[.int .u32 0]}],[]⟩
theorem ei{m i:Nat}(hr:Row .u32 H id2 off2 os)(hm:os.length=m)(hN:n<2^40)(hmn:m<2^40)(hi:i<n+1)(hos:∀x∈os,x<4294967296)(hl:out.length=n+1)(hy:out[i]?=some y)(hy':y<4294967296)(hc:c<=1) :
  Q0 T H.length Ht (Ci H (.slice (some ⟨id2,off2,none⟩) m c2) n i c out)=some (.normal,Ci H (.slice (some ⟨id2,off2,none⟩) m c2) n (i+1) (PF y (os.getD i 0) c) (out.set i (PE y (os.getD i 0) c))):=by
 obtain⟨o,ho,hcell⟩:=hr
 have ho':=KF (l:=[{c:=Zc out},{c:=[.int .u32 0]}]) ho
 have hyc:=Ko hy
 have h1:((i:Int)<((n+1:Nat):Int)):=qr
 have e10:IntKind.i64.wrap ((i:Int)+1)=((i+1:Nat):Int):=ZB (n:=i+1) qr
 have h5:i+1<=(Zc out).length:=by rw[Kn,hl];omega
 by_cases him:i<m
 ·obtain⟨b,hb⟩:∃b,os[i]?=some b:=⟨_,Qf qr⟩
  have hd:os.getD i 0=b:=by rw[QD,hb];rfl
  have hxc:=hcell i b hb
  have h2:((i:Int)<(m:Int)):=qr
  have hadd:=PG hy' (hos b (Qo hb)) hc
  rw[hd]
  simp only[Ci,Ht,Qr,guardOf,Qz,opd,Xb,ZI,Zq,Env.get,Env.put,Jj,Q1,ZC,St.after,Env.keep,Ju,Jb,unV,ZU,Zt,packed,Ob.fresh,Jn,Z7,cS,reduceCtorEq,QQ,QK,QT,Zk,Ze,Zf,QJ,Zd,QS,h1,h2,ho',hxc,hyc,e10,h5,KP,YG,hadd]
 ·have hd:os.getD i 0=0:=by rw[QD,QI qr];rfl
  have h2:¬((i:Int)<(m:Int)):=qr
  have hadd:Z6 T 205 [.int .u32 (y:Nat),.int .u32 0,.int .u32 (c:Nat)] []=_:=PG hy' (by decide:0<4294967296) hc
  rw[hd]
  simp only[Ci,Ht,Qr,guardOf,Qz,opd,Xb,ZI,Zq,Env.get,Env.put,Jj,Q1,ZC,St.after,Env.keep,Ju,Jb,unV,ZU,Zt,packed,Ob.fresh,Jn,Z7,cS,reduceCtorEq,QQ,QK,QT,Zk,Ze,Zf,QJ,Zd,QS,h1,h2,hyc,e10,h5,KP,YG,hadd]
theorem rG(hn:ws.length=n):splice (Zc (dig 4294967296 (n+1) 0)) 0 (Zc ws)=Zc (ws++[0]):=by
 rw[Vh _ _ _ (by rw[Kn,Kn,Zg];omega),Kn,hn,Pq]
 simp only[Xi,Ql,QL,Zc,List.map_append,List.map_replicate,List.drop_replicate]
 rw[show n+1-n=1 by omega];rfl
theorem rF{n:Nat}(hn:ws.length=n):splice (Zc (ws++[0])) n [.int .u32 0]=Zc (ws++[0]):=by
 rw[Yt]
 apply ZW
 intro i
 by_cases hi:i=n
 ·subst hi
  rw[Qw (by rw[Kn,Qj,hn];simp),Ko (x:=0) (by rw[Qh qr,hn];simp)];rfl
 ·rw[Qu (Ne.symm hi)]
theorem rJ(hr1:Row .u32 H id1 off1 ws)(hn:ws.length=n)(hn0:0<n)(hN:n<2^40) :
  Jw 1 4 (H++[{c:=Zc (dig 4294967296 (n+1) 0)}]) (.slice H.length 0 (n+1)) (.slice (some ⟨id1,off1,none⟩) n c1)=some (.slice H.length n (n+1),H++[{c:=Zc (ws++[0])}],none,[H.length]):=by
 have h:=Ae (H:=H) (r:=[]) (es:=1) (bytes:=4) (len:=0) (cap:=n+1) (cs:=Zc (dig 4294967296 (n+1) 0)) (x := .slice (some ⟨id1,off1,none⟩) n c1) (n:=n) (new:=Zc ws) rfl (by rw[<-hn];exact(hr1.app).elems qr) hn0 qr qr ww ww (by rw[Kn,Kn,Zg];omega)
 rw[Vm,rG hn,QL]at h
 exact h
theorem rI(hn:ws.length=n)(hN:n<2^40) :
  Jw 1 4 (H++[{c:=Zc (ws++[0])},{c:=[.int .u32 0]}]) (.slice H.length n (n+1)) (.slice (H.length+1:Nat) 1 1)=some (.slice H.length (n+1) (n+1),H++[{c:=Zc (ws++[0])},{c:=[.int .u32 0]}],none,[H.length]):=by
 have h:=Ae (H:=H) (r:=[{c:=[.int .u32 0]}]) (es:=1) (bytes:=4) (len:=n) (cap:=n+1) (cs:=Zc (ws++[0])) (x := .slice (H.length+1:Nat) 1 1) (n:=1) (new:=[.int .u32 0]) rfl (by simp[elemsOf,OJ]) ww qr qr ww ww (by rw[Kn,Qj,hn];simp)
 rw[Vn,rF hn]at h
 exact h
theorem mj{A:Nat}{c:Nat}(hinv:PlusInv n (n+1) A os out c)(hm:os.length=m)(hmn:m<=n)(hA:A<4294967296^n)(hos:∀x∈os,x<4294967296):dig 4294967296 (n+1) (A+num 4294967296 os)=out:=by
  have h1:=hinv.eq
  rw[show os.take (n+1)=os from Qm qr]at h1
  have h3:=num_lt hos
  rw[hm]at h3
  have h4:4294967296^m<=4294967296^n:=Zo ww hmn
  have h5:c=0:=by
   have hc:=hinv.cle
   rcases ZL 0 c with h|h
   ·have:c=1:=qr
    subst this
    rw[Zj]at h1
    omega
   ·omega
  subst h5
  rw[Vm,Jl]at h1
  rw[<-h1,<-hinv.len,WD ww hinv.lt]
theorem eh(hr1:Row .u32 H id1 off1 ws)(hr2:Row .u32 H id2 off2 os)(hn:ws.length=n)(hm:os.length=m)(hn0:0<n)(hmn:m<=n)(hN:n<2^40)(hws:∀x∈ws,x<4294967296)(hos:∀x∈os,x<4294967296) :
  ∃out c,Q0 T H.length (.block 0 (.loop Ht)) ⟨[(1,.slice (some ⟨id2,off2,none⟩) m c2),(5,.slice H.length (n+1) (n+1)),(6,.int .u32 0),(19,.int .i64 ((n+1:Nat):Int)),(20,.int .i64 0)],H++[{c:=Zc (ws++[0])},{c:=[.int .u32 0]}],[]⟩=some (.normal,⟨[(1,.slice (some ⟨id2,off2,none⟩) m c2),(5,.slice H.length (n+1) (n+1)),(6,.int .u32 (c:Nat)),(19,.int .i64 ((n+1:Nat):Int)),(20,.int .i64 ((n+1:Nat):Int)),(21,.bool false)],H++[{c:=Zc out},{c:=[.int .u32 0]}],[]⟩)/\PlusInv n (n+1) (num 4294967296 ws) os out c:=by
 have h0:PlusInv n 0 (num 4294967296 ws) os (ws++[0]) 0:=⟨by simp[hn],fun x hx=>by
  rcases QC.1 hx with h|h
  ·exact hws x h
  ·simp at h;omega,by decide,by rw[Vj];simp[num]⟩
 obtain⟨s',hb,out,c,rfl,hinv⟩:=Zh (T:=T) (base:=H.length) (id:=0) (body:=Ht)
  (fun i s=>∃out c,s=Ci H (.slice (some ⟨id2,off2,none⟩) m c2) n i c out/\PlusInv n i (num 4294967296 ws) os out c)
  (Q:=fun s=>∃out c,s=⟨[(1,.slice (some ⟨id2,off2,none⟩) m c2),(5,.slice H.length (n+1) (n+1)),(6,.int .u32 (c:Nat)),(19,.int .i64 ((n+1:Nat):Int)),(20,.int .i64 ((n+1:Nat):Int)),(21,.bool false)],H++[{c:=Zc out},{c:=[.int .u32 0]}],[]⟩/\PlusInv n (n+1) (num 4294967296 ws) os out c)
  (n+1) ⟨_,_,rfl,h0⟩
  (fun i s hi hs=>by
   obtain⟨out,c,rfl,hI⟩:=hs
   obtain⟨y,hy⟩:∃y,out[i]?=some y:=⟨_,Qf (by rw[hI.len];omega)⟩
   exact⟨_,ei hr2 hm hN qr hi hos hI.len hy (hI.lt y (Qo hy)) hI.cle,_,_,rfl,hI.step hos hy⟩)
  (fun s hs=>by
   obtain⟨out,c,rfl,hI⟩:=hs
   have h1:¬(((n+1:Nat):Int)<((n+1:Nat):Int)):=qr
   refine⟨_,?_,out,c,rfl,hI⟩
   simp only[Ci,Ht,Qr,guardOf,Qz,opd,Xb,ZI,Zq,Env.get,Env.put,Jj,Q1,ZC,St.after,Env.keep,Ju,Jb,unV,ZU,Zt,packed,Ob.fresh,Jn,Z7,cS,reduceCtorEq,QQ,QK,QT,Zk,Ze,Zf,QJ,Zd,QS,h1])
 rw[show Ci H (.slice (some ⟨id2,off2,none⟩) m c2) n 0 0 (ws++[0])=⟨[(1,.slice (some ⟨id2,off2,none⟩) m c2),(5,.slice H.length (n+1) (n+1)),(6,.int .u32 0),(19,.int .i64 ((n+1:Nat):Int)),(20,.int .i64 0)],H++[{c:=Zc (ws++[0])},{c:=[.int .u32 0]}],[]⟩ from rfl]at hb
 exact⟨out,c,hb,hinv⟩
theorem xN(h:k<2^41):((k:Nat):Int)*((4:Nat):Int)<=2^47:=qr
theorem ml(e1:IntKind.i64.wrap ((n:Int)+1)=((k:Nat):Int))(h1:((k:Nat):Int)*((4:Nat):Int)<=2^47)
 (ha1:Jw 1 4 (H++[{c:=Zc (dig 4294967296 k 0)}]) (.slice H.length 0 k) (.slice (some ⟨id1,off1,none⟩) n c1)=some (.slice H.length n k,H++[{c:=Zc (ws++[0])}],none,[H.length]))
 (ha2:Jw 1 4 (H++[{c:=Zc (ws++[0])},{c:=[.int .u32 0]}]) (.slice H.length n k) (.slice (H.length+1:Nat) 1 1)=some (.slice H.length k k,H++[{c:=Zc (ws++[0])},{c:=[.int .u32 0]}],none,[H.length]))
    (hb:Q0 T H.length (.block 0 (.loop Ht)) ⟨[(1,.slice (some ⟨id2,off2,none⟩) m c2),(5,.slice H.length (k) (k)),(6,.int .u32 0),(19,.int .i64 ((k:Nat):Int)),(20,.int .i64 0)],H++[{c:=Zc (ws++[0])},{c:=[.int .u32 0]}],[]⟩=some (.normal,⟨[(1,.slice (some ⟨id2,off2,none⟩) m c2),(5,.slice H.length (k) (k)),(6,.int .u32 (c:Nat)),(19,.int .i64 ((k:Nat):Int)),(20,.int .i64 ((k:Nat):Int)),(21,.bool false)],H++[{c:=Zc out},{c:=[.int .u32 0]}],[]⟩)) :
    Z6 T 165 [.slice (some ⟨id1,off1,none⟩) n c1,.slice (some ⟨id2,off2,none⟩) m c2] H=some (.slice H.length k k,H++[{c:=Zc out},{c:=[.int .u32 0]}],[]):=by
  have h2:(0:Nat)<4:=ww
  have hfill:fillL [Value.int .u32 0] [(0,1,.int .u32 0)]=some [.int .u32 0]:=rfl
  rw[QY (fn:=a45) rfl]
  simp only[a45,Qr,guardOf,Qz,opd,Xb,ZI,Zq,Env.get,Env.put,Jj,Q1,ZC,St.after,Env.keep,Ju,Jb,unV,ZU,Zt,packed,Ob.fresh,Jn,Z7,cS,reduceCtorEq,QQ,QK,QT,Zk,Ze,Zf,QJ,Zd,QS,e1,h1,h2,Bj,BE,RG,hfill,Qj,Qt,ha1,ha2,hb]
theorem rH(hr1:Row .u32 H id1 off1 ws)(hr2:Row .u32 H id2 off2 os)(hn:ws.length=n)(hm:os.length=m)(hn0:0<n)(hmn:m<=n)(hN:n<2^40)(hws:∀x∈ws,x<4294967296)(hos:∀x∈os,x<4294967296) :
  Z6 T 165 [.slice (some ⟨id1,off1,none⟩) n c1,.slice (some ⟨id2,off2,none⟩) m c2] H=some (.slice H.length (n+1) (n+1),H++[{c:=Zc (dig 4294967296 (n+1) (num 4294967296 ws+num 4294967296 os))},{c:=[.int .u32 0]}],[]):=by
 obtain⟨out,c,hb,hinv⟩:=eh (c2:=c2) hr1 hr2 hn hm hn0 hmn hN hws hos
 have hout:=mj hinv hm hmn (by rw[<-hn];exact num_lt hws) hos
 rw[hout]
 exact ml (ZB (n:=n+1) qr) (xN qr) (rJ hr1 hn hn0 hN) (rI hn hN) hb
def ell:Nat:=7237005577332262213973186563042994240857116359379907606001950938285454250989
theorem cP:num 4294967296 orderW=ell:=ww
theorem MF:∀x∈orderW,x<4294967296:=ww
structure ShInv(k c0:Nat)(r0 r:List Nat)(c:Nat):Prop where
 len:r.length=8
 lt:∀x∈r,x<4294967296
 cle:c<=1
 eq:num 4294967296 r+c*4294967296^k=num 4294967296 r0+num 4294967296 (r0.take k)+c0
 rest:∀j,k<=j->r[j]?=r0[j]?
theorem ShInv.step{k c0 c x:Nat}{r0 r:List Nat}(h:ShInv k c0 r0 r c)(hx:r[k]?=some x):ShInv (k+1) c0 r0 (r.set k ((2*x+c)%4294967296)) (x/2147483648):=by
 have hx':x<4294967296:=h.lt x (Qo hx)
 have hc:=h.cle
 refine⟨by rw[Q4];exact h.len,VH h.lt (Q9 _ ww),by omega,?_,?_⟩
 ·have h1:=V6 (B:=4294967296) ((2*x+c)%4294967296) hx
  have h2:=h.eq
  rw[Xa (by rw[<-h.rest k (Qs _)];exact hx)]
  have h3:4294967296*(x/2147483648)+(2*x+c)%4294967296=2*x+c:=qr
  generalize(2*x+c)%4294967296=y at *
  generalize x/2147483648=q at *
  have e2:q*4294967296^(k+1)=4294967296*q*4294967296^k:=by
   rw[Zj];simp only[ZD,JM,Zm]
  have e3:(4294967296*q+y)*4294967296^k=(2*x+c)*4294967296^k:=by rw[h3]
  rw[Zl,Zl,ZD 2]at e3
  rw[e2]
  omega
 ·intro j hj
  rw[Qu qr]
  exact h.rest j qr
structure SbInv(k:Nat)(r nx:List Nat)(b:Nat):Prop where
 len:nx.length=8
 lt:∀x∈nx,x<4294967296
 ble:b<=1
 eq:num 4294967296 (r.take k)+b*4294967296^k=num 4294967296 (orderW.take k)+num 4294967296 (nx.take k)
theorem Fw{l:List Nat}{k:Nat}:(l.set k y).take k=l.take k:=by
 apply ZW
 intro i
 rw[QW,QW]
 by_cases h:i<k
 ·rw[if_pos h,if_pos h,Qu qr]
 ·rw[if_neg h,if_neg h]
theorem SbInv.step{k b x l:Nat}{r nx:List Nat}(h:SbInv k r nx b)(hr:∀x∈r,x<4294967296)(hk:k<8)(hx:r[k]?=some x)(hl:orderW[k]?=some l):SbInv (k+1) r (nx.set k (Dm x l b)) (Dn x l b):=by
 have hx':x<4294967296:=hr x (Qo hx)
 have hl':l<4294967296:=MF l (Qo hl)
 have hb:=h.ble
 have hd:Dm x l b<4294967296/\x+4294967296*Dn x l b=l+b+Dm x l b/\Dn x l b<=1:=by
  unfold Dm Dn;split<;>omega
 refine⟨by rw[Q4];exact h.len,VH h.lt hd.1,hd.2.2,?_⟩
 have h2:=h.eq
 have hy:(nx.set k (Dm x l b))[k]?=some (Dm x l b):=Qw (by rw[h.len];exact hk)
 rw[Xa hx,Xa hl,Xa hy,Fw]
 have h3:=hd.2.1
 generalize Dm x l b=d,Dn x l b=q at *
 have e2:q*4294967296^(k+1)=4294967296*q*4294967296^k:=by
  rw[Zj];simp only[ZD,JM,Zm]
 have e3:(x+4294967296*q)*4294967296^k=(l+b+d)*4294967296^k:=by rw[h3]
 rw[Zl,Zl,Zl]at e3
 rw[e2]
 omega
theorem kb{nx:List Nat}(hk:k<8)(hl:r.length=8)(hx:r[k]?=some x)(hx':x<4294967296)(hc:c<=1) :
  Q0 T H.length Uy (⟨[(0,s),(3,(.slice H.length 8 8)),(4,(.slice (H.length+1:Nat) 8 8)),(5,(.slice (H.length+2:Nat) 8 8)),(6,v),(7,.int .u32 ((c:Nat))),(32,.int .i64 8),(33,.int .i64 ((k:Nat)))],H++[{c:=Zc (r)},{c:=Zc orderW},{c:=Zc (nx)}],[]⟩:St)=some (.normal,(⟨[(0,s),(3,(.slice H.length 8 8)),(4,(.slice (H.length+1:Nat) 8 8)),(5,(.slice (H.length+2:Nat) 8 8)),(6,v),(7,.int .u32 (((x/2147483648:Nat):Int))),(32,.int .i64 8),(33,.int .i64 (((k+1:Nat):Int)))],H++[{c:=Zc (r.set k ((2*x+c)%4294967296))},{c:=Zc orderW},{c:=Zc (nx)}],[]⟩:St)):=by
 have hxc:=Ko hx
 have h1:((k:Int)<(8:Int)):=qr
 have h1':((k:Int)<((8:Nat):Int)):=qr
 have e1:IntKind.u32.wrap ((x:Int)*2^min 1 IntKind.u32.bits)=((2*x%4294967296:Nat):Int):=by
  rw[wrap_u32,show min 1 IntKind.u32.bits=1 from rfl];omega
 have e2:Zr .or .u32 ((2*x%4294967296:Nat):Int) (c:Int)=(((2*x+c)%4294967296:Nat):Int):=by
  rw[Kh (k := .u32) (a:=2*x%4294967296) (b:=c) rfl (Q9 _ ww) (by show c<2^32;omega)]
  congr 1
  have h2:2*x%4294967296=2^1*(x%2147483648):=qr
  rw[h2,<-Y2 (by omega:c<2^1)]
  omega
 have e3:GA (x:Int) (2^min 31 IntKind.u32.bits)=((x/2147483648:Nat):Int):=by
  rw[JO _ ww];rfl
 have e10:IntKind.i64.wrap ((k:Int)+1)=((k+1:Nat):Int):=ZB (n:=k+1) qr
 have h5:k+1<=(Zc r).length:=by rw[Kn,hl];omega
 simp only[Uy,Qr,guardOf,Qz,opd,Xb,ZI,Zq,Env.get,Env.put,Jj,Q1,ZC,St.after,Env.keep,Ju,Jb,unV,ZU,Zt,packed,Ob.fresh,Jn,Z7,cS,reduceCtorEq,QQ,QK,QT,Zk,Ze,Zf,QJ,Zd,QS,h1,h1',hxc,e1,e2,e3,e10,h5,KP,YG]
theorem kq{nx:List Nat}(hk:k<8)(hl:nx.length=8)(hx:r[k]?=some x)(hx':x<4294967296)(ho:orderW[k]?=some l)(hb:b<=1) :
  Q0 T H.length Uz (⟨[(0,s),(3,(.slice H.length 8 8)),(4,(.slice (H.length+1:Nat) 8 8)),(5,(.slice (H.length+2:Nat) 8 8)),(6,v),(9,.int .u32 ((b:Nat))),(53,.int .i64 8),(54,.int .i64 ((k:Nat)))],H++[{c:=Zc (r)},{c:=Zc orderW},{c:=Zc (nx)}],[]⟩:St)=some (.normal,(⟨[(0,s),(3,(.slice H.length 8 8)),(4,(.slice (H.length+1:Nat) 8 8)),(5,(.slice (H.length+2:Nat) 8 8)),(6,v),(9,.int .u32 (((Dn x l b:Nat):Int))),(53,.int .i64 8),(54,.int .i64 (((k+1:Nat):Int)))],H++[{c:=Zc (r)},{c:=Zc orderW},{c:=Zc (nx.set k (Dm x l b))}],[]⟩:St)):=by
 have hxc:=Ko hx
 have hlc:=Ko ho
 have h1:((k:Int)<(8:Int)):=qr
 have h1':((k:Int)<((8:Nat):Int)):=qr
 have hsub:=AM hx' (MF l (Qo ho)) hb
 have e10:IntKind.i64.wrap ((k:Int)+1)=((k+1:Nat):Int):=ZB (n:=k+1) qr
 have h5:k+1<=(Zc nx).length:=by rw[Kn,hl];omega
 simp only[Uz,Qr,guardOf,Qz,opd,Xb,ZI,Zq,Env.get,Env.put,Jj,Q1,ZC,St.after,Env.keep,Ju,Jb,unV,ZU,Zt,packed,Ob.fresh,Jn,Z7,cS,reduceCtorEq,QQ,QK,QT,Zk,Ze,Zf,QJ,Zd,QS,h1,h1',hxc,hlc,hsub,e10,h5,NH,YG]
theorem jR{nx:List Nat}(hl:r.length=8)(hr:∀x∈r,x<4294967296)(hc:c<=1) :
  ∃r' c',Q0 T H.length (.block 2 (.loop Uy)) (⟨[(0,s),(3,(.slice H.length 8 8)),(4,(.slice (H.length+1:Nat) 8 8)),(5,(.slice (H.length+2:Nat) 8 8)),(6,v),(7,.int .u32 ((c:Nat))),(32,.int .i64 8),(33,.int .i64 (0))],H++[{c:=Zc (r)},{c:=Zc orderW},{c:=Zc (nx)}],[]⟩:St)=some (.normal,(⟨[(0,s),(3,(.slice H.length 8 8)),(4,(.slice (H.length+1:Nat) 8 8)),(5,(.slice (H.length+2:Nat) 8 8)),(6,v),(7,.int .u32 ((c':Nat))),(32,.int .i64 8),(33,.int .i64 (8)),(34,.bool false)],H++[{c:=Zc (r')},{c:=Zc orderW},{c:=Zc (nx)}],[]⟩:St))/\ShInv 8 c r r' c':=by
 obtain⟨s',hb,r',c',rfl,hinv⟩:=Zh (T:=T) (base:=H.length) (id:=2) (body:=Uy)
  (fun k s1=>∃r' c',s1=(⟨[(0,s),(3,(.slice H.length 8 8)),(4,(.slice (H.length+1:Nat) 8 8)),(5,(.slice (H.length+2:Nat) 8 8)),(6,v),(7,.int .u32 ((c':Nat))),(32,.int .i64 8),(33,.int .i64 ((k:Nat)))],H++[{c:=Zc (r')},{c:=Zc orderW},{c:=Zc (nx)}],[]⟩:St)/\ShInv k c r r' c')
  (Q:=fun s1=>∃r' c',s1=(⟨[(0,s),(3,(.slice H.length 8 8)),(4,(.slice (H.length+1:Nat) 8 8)),(5,(.slice (H.length+2:Nat) 8 8)),(6,v),(7,.int .u32 ((c':Nat))),(32,.int .i64 8),(33,.int .i64 (8)),(34,.bool false)],H++[{c:=Zc (r')},{c:=Zc orderW},{c:=Zc (nx)}],[]⟩:St)/\ShInv 8 c r r' c')
  8 (s:=(⟨[(0,s),(3,(.slice H.length 8 8)),(4,(.slice (H.length+1:Nat) 8 8)),(5,(.slice (H.length+2:Nat) 8 8)),(6,v),(7,.int .u32 ((c:Nat))),(32,.int .i64 8),(33,.int .i64 (((0:Nat):Int)))],H++[{c:=Zc (r)},{c:=Zc orderW},{c:=Zc (nx)}],[]⟩:St)) ⟨_,_,rfl,⟨hl,hr,hc,by simp[num],fun _ _=>rfl⟩⟩
  (fun k s1 hk hs=>by
   obtain⟨r',c',rfl,hI⟩:=hs
   obtain⟨x,hx⟩:∃x,r'[k]?=some x:=⟨_,Qf (by rw[hI.len];omega)⟩
   exact⟨_,kb hk hI.len hx (hI.lt x (Qo hx)) hI.cle,_,_,rfl,hI.step hx⟩)
  (fun s1 hs=>by
   obtain⟨r',c',rfl,hI⟩:=hs
   have h1:¬(((8:Nat):Int)<(8:Int)):=qr
   refine⟨_,?_,r',c',rfl,hI⟩
   simp only[Uy,Qr,guardOf,Qz,opd,Xb,ZI,Zq,Env.get,Env.put,Jj,Q1,ZC,St.after,Env.keep,Ju,Jb,unV,ZU,Zt,packed,Ob.fresh,Jn,Z7,cS,reduceCtorEq,QQ,QK,QT,Zk,Ze,Zf,QJ,Zd,QS,h1]
   rfl)
 exact⟨r',c',hb,hinv⟩
theorem kn{nx:List Nat}(hl:r.length=8)(hr:∀x∈r,x<4294967296)(hl2:nx.length=8)(hr2:∀x∈nx,x<4294967296) :
  ∃nx' b,Q0 T H.length (.block 4 (.loop Uz)) (⟨[(0,s),(3,(.slice H.length 8 8)),(4,(.slice (H.length+1:Nat) 8 8)),(5,(.slice (H.length+2:Nat) 8 8)),(6,v),(9,.int .u32 (0)),(53,.int .i64 8),(54,.int .i64 (0))],H++[{c:=Zc (r)},{c:=Zc orderW},{c:=Zc (nx)}],[]⟩:St)=some (.normal,(⟨[(0,s),(3,(.slice H.length 8 8)),(4,(.slice (H.length+1:Nat) 8 8)),(5,(.slice (H.length+2:Nat) 8 8)),(6,v),(9,.int .u32 ((b:Nat))),(53,.int .i64 8),(54,.int .i64 (8)),(55,.bool false)],H++[{c:=Zc (r)},{c:=Zc orderW},{c:=Zc (nx')}],[]⟩:St))/\SbInv 8 r nx' b:=by
 obtain⟨s',hb,nx',b,rfl,hinv⟩:=Zh (T:=T) (base:=H.length) (id:=4) (body:=Uz)
  (fun k s1=>∃nx' b,s1=(⟨[(0,s),(3,(.slice H.length 8 8)),(4,(.slice (H.length+1:Nat) 8 8)),(5,(.slice (H.length+2:Nat) 8 8)),(6,v),(9,.int .u32 ((b:Nat))),(53,.int .i64 8),(54,.int .i64 ((k:Nat)))],H++[{c:=Zc (r)},{c:=Zc orderW},{c:=Zc (nx')}],[]⟩:St)/\SbInv k r nx' b)
  (Q:=fun s1=>∃nx' b,s1=(⟨[(0,s),(3,(.slice H.length 8 8)),(4,(.slice (H.length+1:Nat) 8 8)),(5,(.slice (H.length+2:Nat) 8 8)),(6,v),(9,.int .u32 ((b:Nat))),(53,.int .i64 8),(54,.int .i64 (8)),(55,.bool false)],H++[{c:=Zc (r)},{c:=Zc orderW},{c:=Zc (nx')}],[]⟩:St)/\SbInv 8 r nx' b)
  8 (s:=(⟨[(0,s),(3,(.slice H.length 8 8)),(4,(.slice (H.length+1:Nat) 8 8)),(5,(.slice (H.length+2:Nat) 8 8)),(6,v),(9,.int .u32 (((0:Nat):Int))),(53,.int .i64 8),(54,.int .i64 (((0:Nat):Int)))],H++[{c:=Zc (r)},{c:=Zc orderW},{c:=Zc (nx)}],[]⟩:St)) ⟨_,_,rfl,⟨hl2,hr2,by decide,by simp[num]⟩⟩
  (fun k s1 hk hs=>by
   obtain⟨nx',b,rfl,hI⟩:=hs
   obtain⟨x,hx⟩:∃x,r[k]?=some x:=⟨_,Qf qr⟩
   obtain⟨l,hlk⟩:∃l,orderW[k]?=some l:=⟨_,Qf (show k<orderW.length from hk)⟩
   exact⟨_,kq hk hI.len hx (hr x (Qo hx)) hlk hI.ble,_,_,rfl,hI.step hr hk hx hlk⟩)
  (fun s1 hs=>by
   obtain⟨nx',b,rfl,hI⟩:=hs
   have h1:¬(((8:Nat):Int)<(8:Int)):=qr
   refine⟨_,?_,nx',b,rfl,hI⟩
   simp only[Uz,Qr,guardOf,Qz,opd,Xb,ZI,Zq,Env.get,Env.put,Jj,Q1,ZC,St.after,Env.keep,Ju,Jb,unV,ZU,Zt,packed,Ob.fresh,Jn,Z7,cS,reduceCtorEq,QQ,QK,QT,Zk,Ze,Zf,QJ,Zd,QS,h1]
   rfl)
 exact⟨nx',b,hb,hinv⟩
theorem ka{nx:List Nat}(hk:k<8)(hl:r.length=8)(hx:r[k]?=some x)(hx':x<4294967296)(hc:c<=1) :
  Q0 T H.length Uy (⟨[(0,s),(3,(.slice (H.length+2:Nat) 8 8)),(4,(.slice (H.length+1:Nat) 8 8)),(5,(.slice H.length 8 8)),(6,v),(7,.int .u32 ((c:Nat))),(32,.int .i64 8),(33,.int .i64 ((k:Nat)))],H++[{c:=Zc (nx)},{c:=Zc orderW},{c:=Zc (r)}],[]⟩:St)=some (.normal,(⟨[(0,s),(3,(.slice (H.length+2:Nat) 8 8)),(4,(.slice (H.length+1:Nat) 8 8)),(5,(.slice H.length 8 8)),(6,v),(7,.int .u32 (((x/2147483648:Nat):Int))),(32,.int .i64 8),(33,.int .i64 (((k+1:Nat):Int)))],H++[{c:=Zc (nx)},{c:=Zc orderW},{c:=Zc (r.set k ((2*x+c)%4294967296))}],[]⟩:St)):=by
 have hxc:=Ko hx
 have h1:((k:Int)<(8:Int)):=qr
 have h1':((k:Int)<((8:Nat):Int)):=qr
 have e1:IntKind.u32.wrap ((x:Int)*2^min 1 IntKind.u32.bits)=((2*x%4294967296:Nat):Int):=by
  rw[wrap_u32,show min 1 IntKind.u32.bits=1 from rfl];omega
 have e2:Zr .or .u32 ((2*x%4294967296:Nat):Int) (c:Int)=(((2*x+c)%4294967296:Nat):Int):=by
  rw[Kh (k := .u32) (a:=2*x%4294967296) (b:=c) rfl (Q9 _ ww) (by show c<2^32;omega)]
  congr 1
  have h2:2*x%4294967296=2^1*(x%2147483648):=qr
  rw[h2,<-Y2 (by omega:c<2^1)]
  omega
 have e3:GA (x:Int) (2^min 31 IntKind.u32.bits)=((x/2147483648:Nat):Int):=by
  rw[JO _ ww];rfl
 have e10:IntKind.i64.wrap ((k:Int)+1)=((k+1:Nat):Int):=ZB (n:=k+1) qr
 have h5:k+1<=(Zc r).length:=by rw[Kn,hl];omega
 simp only[Uy,Qr,guardOf,Qz,opd,Xb,ZI,Zq,Env.get,Env.put,Jj,Q1,ZC,St.after,Env.keep,Ju,Jb,unV,ZU,Zt,packed,Ob.fresh,Jn,Z7,cS,reduceCtorEq,QQ,QK,QT,Zk,Ze,Zf,QJ,Zd,QS,h1,h1',hxc,e1,e2,e3,e10,h5,NH,YG]
theorem ko{nx:List Nat}(hk:k<8)(hl:nx.length=8)(hx:r[k]?=some x)(hx':x<4294967296)(ho:orderW[k]?=some l)(hb:b<=1) :
  Q0 T H.length Uz (⟨[(0,s),(3,(.slice (H.length+2:Nat) 8 8)),(4,(.slice (H.length+1:Nat) 8 8)),(5,(.slice H.length 8 8)),(6,v),(9,.int .u32 ((b:Nat))),(53,.int .i64 8),(54,.int .i64 ((k:Nat)))],H++[{c:=Zc (nx)},{c:=Zc orderW},{c:=Zc (r)}],[]⟩:St)=some (.normal,(⟨[(0,s),(3,(.slice (H.length+2:Nat) 8 8)),(4,(.slice (H.length+1:Nat) 8 8)),(5,(.slice H.length 8 8)),(6,v),(9,.int .u32 (((Dn x l b:Nat):Int))),(53,.int .i64 8),(54,.int .i64 (((k+1:Nat):Int)))],H++[{c:=Zc (nx.set k (Dm x l b))},{c:=Zc orderW},{c:=Zc (r)}],[]⟩:St)):=by
 have hxc:=Ko hx
 have hlc:=Ko ho
 have h1:((k:Int)<(8:Int)):=qr
 have h1':((k:Int)<((8:Nat):Int)):=qr
 have hsub:=AM hx' (MF l (Qo ho)) hb
 have e10:IntKind.i64.wrap ((k:Int)+1)=((k+1:Nat):Int):=ZB (n:=k+1) qr
 have h5:k+1<=(Zc nx).length:=by rw[Kn,hl];omega
 simp only[Uz,Qr,guardOf,Qz,opd,Xb,ZI,Zq,Env.get,Env.put,Jj,Q1,ZC,St.after,Env.keep,Ju,Jb,unV,ZU,Zt,packed,Ob.fresh,Jn,Z7,cS,reduceCtorEq,QQ,QK,QT,Zk,Ze,Zf,QJ,Zd,QS,h1,h1',hxc,hlc,hsub,e10,h5,KP,YG]
theorem j9{nx:List Nat}(hl:r.length=8)(hr:∀x∈r,x<4294967296)(hc:c<=1) :
  ∃r' c',Q0 T H.length (.block 2 (.loop Uy)) (⟨[(0,s),(3,(.slice (H.length+2:Nat) 8 8)),(4,(.slice (H.length+1:Nat) 8 8)),(5,(.slice H.length 8 8)),(6,v),(7,.int .u32 ((c:Nat))),(32,.int .i64 8),(33,.int .i64 (0))],H++[{c:=Zc (nx)},{c:=Zc orderW},{c:=Zc (r)}],[]⟩:St)=some (.normal,(⟨[(0,s),(3,(.slice (H.length+2:Nat) 8 8)),(4,(.slice (H.length+1:Nat) 8 8)),(5,(.slice H.length 8 8)),(6,v),(7,.int .u32 ((c':Nat))),(32,.int .i64 8),(33,.int .i64 (8)),(34,.bool false)],H++[{c:=Zc (nx)},{c:=Zc orderW},{c:=Zc (r')}],[]⟩:St))/\ShInv 8 c r r' c':=by
 obtain⟨s',hb,r',c',rfl,hinv⟩:=Zh (T:=T) (base:=H.length) (id:=2) (body:=Uy)
  (fun k s1=>∃r' c',s1=(⟨[(0,s),(3,(.slice (H.length+2:Nat) 8 8)),(4,(.slice (H.length+1:Nat) 8 8)),(5,(.slice H.length 8 8)),(6,v),(7,.int .u32 ((c':Nat))),(32,.int .i64 8),(33,.int .i64 ((k:Nat)))],H++[{c:=Zc (nx)},{c:=Zc orderW},{c:=Zc (r')}],[]⟩:St)/\ShInv k c r r' c')
  (Q:=fun s1=>∃r' c',s1=(⟨[(0,s),(3,(.slice (H.length+2:Nat) 8 8)),(4,(.slice (H.length+1:Nat) 8 8)),(5,(.slice H.length 8 8)),(6,v),(7,.int .u32 ((c':Nat))),(32,.int .i64 8),(33,.int .i64 (8)),(34,.bool false)],H++[{c:=Zc (nx)},{c:=Zc orderW},{c:=Zc (r')}],[]⟩:St)/\ShInv 8 c r r' c')
  8 (s:=(⟨[(0,s),(3,(.slice (H.length+2:Nat) 8 8)),(4,(.slice (H.length+1:Nat) 8 8)),(5,(.slice H.length 8 8)),(6,v),(7,.int .u32 ((c:Nat))),(32,.int .i64 8),(33,.int .i64 (((0:Nat):Int)))],H++[{c:=Zc (nx)},{c:=Zc orderW},{c:=Zc (r)}],[]⟩:St)) ⟨_,_,rfl,⟨hl,hr,hc,by simp[num],fun _ _=>rfl⟩⟩
  (fun k s1 hk hs=>by
   obtain⟨r',c',rfl,hI⟩:=hs
   obtain⟨x,hx⟩:∃x,r'[k]?=some x:=⟨_,Qf (by rw[hI.len];omega)⟩
   exact⟨_,ka hk hI.len hx (hI.lt x (Qo hx)) hI.cle,_,_,rfl,hI.step hx⟩)
  (fun s1 hs=>by
   obtain⟨r',c',rfl,hI⟩:=hs
   have h1:¬(((8:Nat):Int)<(8:Int)):=qr
   refine⟨_,?_,r',c',rfl,hI⟩
   simp only[Uy,Qr,guardOf,Qz,opd,Xb,ZI,Zq,Env.get,Env.put,Jj,Q1,ZC,St.after,Env.keep,Ju,Jb,unV,ZU,Zt,packed,Ob.fresh,Jn,Z7,cS,reduceCtorEq,QQ,QK,QT,Zk,Ze,Zf,QJ,Zd,QS,h1]
   rfl)
 exact⟨r',c',hb,hinv⟩
theorem kl{nx:List Nat}(hl:r.length=8)(hr:∀x∈r,x<4294967296)(hl2:nx.length=8)(hr2:∀x∈nx,x<4294967296) :
  ∃nx' b,Q0 T H.length (.block 4 (.loop Uz)) (⟨[(0,s),(3,(.slice (H.length+2:Nat) 8 8)),(4,(.slice (H.length+1:Nat) 8 8)),(5,(.slice H.length 8 8)),(6,v),(9,.int .u32 (0)),(53,.int .i64 8),(54,.int .i64 (0))],H++[{c:=Zc (nx)},{c:=Zc orderW},{c:=Zc (r)}],[]⟩:St)=some (.normal,(⟨[(0,s),(3,(.slice (H.length+2:Nat) 8 8)),(4,(.slice (H.length+1:Nat) 8 8)),(5,(.slice H.length 8 8)),(6,v),(9,.int .u32 ((b:Nat))),(53,.int .i64 8),(54,.int .i64 (8)),(55,.bool false)],H++[{c:=Zc (nx')},{c:=Zc orderW},{c:=Zc (r)}],[]⟩:St))/\SbInv 8 r nx' b:=by
 obtain⟨s',hb,nx',b,rfl,hinv⟩:=Zh (T:=T) (base:=H.length) (id:=4) (body:=Uz)
  (fun k s1=>∃nx' b,s1=(⟨[(0,s),(3,(.slice (H.length+2:Nat) 8 8)),(4,(.slice (H.length+1:Nat) 8 8)),(5,(.slice H.length 8 8)),(6,v),(9,.int .u32 ((b:Nat))),(53,.int .i64 8),(54,.int .i64 ((k:Nat)))],H++[{c:=Zc (nx')},{c:=Zc orderW},{c:=Zc (r)}],[]⟩:St)/\SbInv k r nx' b)
  (Q:=fun s1=>∃nx' b,s1=(⟨[(0,s),(3,(.slice (H.length+2:Nat) 8 8)),(4,(.slice (H.length+1:Nat) 8 8)),(5,(.slice H.length 8 8)),(6,v),(9,.int .u32 ((b:Nat))),(53,.int .i64 8),(54,.int .i64 (8)),(55,.bool false)],H++[{c:=Zc (nx')},{c:=Zc orderW},{c:=Zc (r)}],[]⟩:St)/\SbInv 8 r nx' b)
  8 (s:=(⟨[(0,s),(3,(.slice (H.length+2:Nat) 8 8)),(4,(.slice (H.length+1:Nat) 8 8)),(5,(.slice H.length 8 8)),(6,v),(9,.int .u32 (((0:Nat):Int))),(53,.int .i64 8),(54,.int .i64 (((0:Nat):Int)))],H++[{c:=Zc (nx)},{c:=Zc orderW},{c:=Zc (r)}],[]⟩:St)) ⟨_,_,rfl,⟨hl2,hr2,by decide,by simp[num]⟩⟩
  (fun k s1 hk hs=>by
   obtain⟨nx',b,rfl,hI⟩:=hs
   obtain⟨x,hx⟩:∃x,r[k]?=some x:=⟨_,Qf qr⟩
   obtain⟨l,hlk⟩:∃l,orderW[k]?=some l:=⟨_,Qf (show k<orderW.length from hk)⟩
   exact⟨_,ko hk hI.len hx (hr x (Qo hx)) hlk hI.ble,_,_,rfl,hI.step hr hk hx hlk⟩)
  (fun s1 hs=>by
   obtain⟨nx',b,rfl,hI⟩:=hs
   have h1:¬(((8:Nat):Int)<(8:Int)):=qr
   refine⟨_,?_,nx',b,rfl,hI⟩
   simp only[Uz,Qr,guardOf,Qz,opd,Xb,ZI,Zq,Env.get,Env.put,Jj,Q1,ZC,St.after,Env.keep,Ju,Jb,unV,ZU,Zt,packed,Ob.fresh,Jn,Z7,cS,reduceCtorEq,QQ,QK,QT,Zk,Ze,Zf,QJ,Zd,QS,h1]
   rfl)
 exact⟨nx',b,hb,hinv⟩
end Go.Ev.YtoipgdjfhahimaaGreat
namespace Go.Ev.YtoipgdjfhahimaaGreat
open Go Go.Ev
attribute [local congr] Hr
set_option maxRecDepth 100000
variable{H:List Ob}{id n i off cap w V v x y id1 off1 c1 id2 off2 c2:Nat}{ws a r p bs b c os:List Nat}{ps:List (List Nat)}{s:Value}
structure RInv(V:Nat)(r nx:List Nat):Prop where
 len:r.length=8
 lt:∀x∈r,x<4294967296
 len2:nx.length=8
 lt2:∀x∈nx,x<4294967296
 eq:num 4294967296 r=V%ell
theorem tI:2*ell+1<4294967296^8:=ww
theorem MX:0<ell:=ww
theorem RInv.step{V c c' b:Nat}{r nx r' nx':List Nat}(h:RInv V r nx)(hc:c<=1)(h1:ShInv 8 c r r' c')(h2:SbInv 8 r' nx' b):(b=0->RInv (2*V+c) nx' r')/\(b≠0->RInv (2*V+c) r' nx'):=by
 have e1:=h1.eq
 have e2:=h2.eq
 have l1:=h.len
 have l2:=h1.len
 have l3:=h2.len
 rw[Qm qr]at e1
 rw[Qm qr,Qm (show orderW.length<=8 from Qs _),Qm qr,cP]at e2
 have b1:=num_lt h1.lt
 have b2:=num_lt h2.lt
 rw[l2]at b1
 rw[l3]at b2
 have hp:=tI
 have hr:num 4294967296 r<ell:=by rw[h.eq];exact Q9 _ MX
 have hV:(2*V+c)%ell=(2*num 4294967296 r+c)%ell:=by
  rw[h.eq,Ap,YD,Ap (2*(V%ell)),YD 2 (V%ell),Kl]
 have hle:=h1.cle
 have hbe:=h2.ble
 generalize 4294967296^8=W at *
 have hc0:c'=0:=by
  rcases ZL 0 c' with hh|hh
  ·have:c'=1:=qr
   subst this
   omega
  ·omega
 subst hc0
 generalize num 4294967296 r=x at *
 generalize hyy:num 4294967296 r'=y at *
 generalize hz:num 4294967296 nx'=z at *
 have hy:y=2*x+c:=qr
 subst hy
 refine⟨fun h0=>⟨l3,h2.lt,l2,h1.lt,?_⟩,fun h0=>⟨l2,h1.lt,l3,h2.lt,?_⟩⟩
 ·subst h0
  rw[hV,show 2*x+c=z+ell by omega,Nat.add_mod_right,Qv qr]
  exact hz
 ·have:b=1:=qr
  subst this
  have hlt:2*x+c<ell:=qr
  rw[hV,Qv hlt]
  exact hyy
theorem ab{nx:List Nat}(hr:Row .u32 H id off ws)(hn:ws.length=n)(hN:n<2^40)(hi:i<32*n)(hw:ws[i/32]?=some w)(hw':w<4294967296)(h:RInv V r nx) :
  ∃r' nx',RInv (2*V+w/2^(i%32)%2) r' nx'/\(Q0 T H.length Y6 (⟨[(0,(.slice (some ⟨id,off,none⟩) n cap)),(3,(.slice H.length 8 8)),(4,(.slice (H.length+1:Nat) 8 8)),(5,(.slice (H.length+2:Nat) 8 8)),(6,.int .i64 ((i:Nat)))],H++[{c:=Zc (r)},{c:=Zc orderW},{c:=Zc (nx)}],[]⟩:St)=some (.normal,(⟨[(0,(.slice (some ⟨id,off,none⟩) n cap)),(3,(.slice H.length 8 8)),(4,(.slice (H.length+1:Nat) 8 8)),(5,(.slice (H.length+2:Nat) 8 8)),(6,.int .i64 ((i:Int)-1))],H++[{c:=Zc (r')},{c:=Zc orderW},{c:=Zc (nx')}],[]⟩:St))\/Q0 T H.length Y6 (⟨[(0,(.slice (some ⟨id,off,none⟩) n cap)),(3,(.slice H.length 8 8)),(4,(.slice (H.length+1:Nat) 8 8)),(5,(.slice (H.length+2:Nat) 8 8)),(6,.int .i64 ((i:Nat)))],H++[{c:=Zc (r)},{c:=Zc orderW},{c:=Zc (nx)}],[]⟩:St)=some (.normal,(⟨[(0,(.slice (some ⟨id,off,none⟩) n cap)),(3,(.slice (H.length+2:Nat) 8 8)),(4,(.slice (H.length+1:Nat) 8 8)),(5,(.slice H.length 8 8)),(6,.int .i64 ((i:Int)-1))],H++[{c:=Zc (nx')},{c:=Zc orderW},{c:=Zc (r')}],[]⟩:St))):=by
 have hc:w/2^(i%32)%2<=1:=qr
 obtain⟨r1,c1,hb1,i1⟩:=jR (H:=H) (s:=(.slice (some ⟨id,off,none⟩) n cap)) (v := .int .i64 (i:Nat)) (nx:=nx) h.len h.lt hc
 obtain⟨nx1,b,hb2,i2⟩:=kn (H:=H) (s:=(.slice (some ⟨id,off,none⟩) n cap)) (v := .int .i64 (i:Nat)) (r:=r1) (nx:=nx) i1.len i1.lt h.len2 h.lt2
 obtain⟨o,ho,hcell⟩:=hr
 have ho':=KF (l:=[{c:=Zc (r)},{c:=Zc orderW},{c:=Zc (nx)}]) ho
 have hwc:=hcell (i/32) w hw
 have h1:((i:Int)≥0):=qr
 have h2:((i/32:Nat):Int)<(n:Int):=qr
 have h4:¬(((i%32:Nat):Int)<0):=qr
 have e1:IntKind.i64.wrap ((i:Int).tdiv 32)=((i/32:Nat):Int):=ZB (n:=i/32) qr
 have e2:((i:Int).tmod 32)=((i%32:Nat):Int):=rfl
 have e3:GA (w:Int) (2^min (i%32) IntKind.u32.bits)=((w/2^(i%32):Nat):Int):=by
  rw[Zw (by show _<=32;omega),JO _ (uR (zm ww))];simp
 have e4:Zr .and .u32 ((w/2^(i%32):Nat):Int) 1=((w/2^(i%32)%2:Nat):Int):=by
  rw[show(1:Int)=((1:Nat):Int) from rfl,Uu (k := .u32) (a:=w/2^(i%32)) (b:=1) rfl (Jc (Jx _ _) hw') ww,Nat.and_one_is_mod]
 have e5:IntKind.i64.wrap ((i:Int)-1)=(i:Int)-1:=QU qr qr
 have e8:((8:Nat):Int)=8:=rfl
 have hst:=h.step hc i1 i2
 generalize w/2^(i%32)%2=c at *
 by_cases hb0:b=0
 ·subst hb0
  have e6:(((0:Nat):Int)==0)=true:=rfl
  refine⟨nx1,r1,hst.1 rfl,.inr ?_⟩
  simp only[Y6,Qr,guardOf,Qz,opd,Xb,ZI,Zq,Env.get,Env.put,Jj,Q1,ZC,St.after,Env.keep,Ju,Jb,unV,ZU,Zt,packed,Ob.fresh,Jn,Z7,cS,reduceCtorEq,QQ,QK,QT,Zk,Ze,Zf,QJ,Zd,QS,h1,h2,h4,ho',hwc,e1,e2,e3,e4,e5,e6,e8,hb1,hb2]
 ·have hb1':b=1:=by have:=i2.ble;omega
  subst hb1'
  have e6:(((1:Nat):Int)==0)=false:=rfl
  refine⟨r1,nx1,hst.2 ww,.inl ?_⟩
  simp only[Y6,Qr,guardOf,Qz,opd,Xb,ZI,Zq,Env.get,Env.put,Jj,Q1,ZC,St.after,Env.keep,Ju,Jb,unV,ZU,Zt,packed,Ob.fresh,Jn,Z7,cS,reduceCtorEq,QQ,QK,QT,Zk,Ze,Zf,QJ,Zd,QS,h1,h2,h4,ho',hwc,e1,e2,e3,e4,e5,e6,e8,hb1,hb2]
theorem SZ{nx:List Nat}(hr:Row .u32 H id off ws)(hn:ws.length=n)(hN:n<2^40)(hi:i<32*n)(hw:ws[i/32]?=some w)(hw':w<4294967296)(h:RInv V r nx) :
  ∃r' nx',RInv (2*V+w/2^(i%32)%2) r' nx'/\(Q0 T H.length Y6 (⟨[(0,(.slice (some ⟨id,off,none⟩) n cap)),(3,(.slice (H.length+2:Nat) 8 8)),(4,(.slice (H.length+1:Nat) 8 8)),(5,(.slice H.length 8 8)),(6,.int .i64 ((i:Nat)))],H++[{c:=Zc (nx)},{c:=Zc orderW},{c:=Zc (r)}],[]⟩:St)=some (.normal,(⟨[(0,(.slice (some ⟨id,off,none⟩) n cap)),(3,(.slice (H.length+2:Nat) 8 8)),(4,(.slice (H.length+1:Nat) 8 8)),(5,(.slice H.length 8 8)),(6,.int .i64 ((i:Int)-1))],H++[{c:=Zc (nx')},{c:=Zc orderW},{c:=Zc (r')}],[]⟩:St))\/Q0 T H.length Y6 (⟨[(0,(.slice (some ⟨id,off,none⟩) n cap)),(3,(.slice (H.length+2:Nat) 8 8)),(4,(.slice (H.length+1:Nat) 8 8)),(5,(.slice H.length 8 8)),(6,.int .i64 ((i:Nat)))],H++[{c:=Zc (nx)},{c:=Zc orderW},{c:=Zc (r)}],[]⟩:St)=some (.normal,(⟨[(0,(.slice (some ⟨id,off,none⟩) n cap)),(3,(.slice H.length 8 8)),(4,(.slice (H.length+1:Nat) 8 8)),(5,(.slice (H.length+2:Nat) 8 8)),(6,.int .i64 ((i:Int)-1))],H++[{c:=Zc (r')},{c:=Zc orderW},{c:=Zc (nx')}],[]⟩:St))):=by
 have hc:w/2^(i%32)%2<=1:=qr
 obtain⟨r1,c1,hb1,i1⟩:=j9 (H:=H) (s:=(.slice (some ⟨id,off,none⟩) n cap)) (v := .int .i64 (i:Nat)) (nx:=nx) h.len h.lt hc
 obtain⟨nx1,b,hb2,i2⟩:=kl (H:=H) (s:=(.slice (some ⟨id,off,none⟩) n cap)) (v := .int .i64 (i:Nat)) (r:=r1) (nx:=nx) i1.len i1.lt h.len2 h.lt2
 obtain⟨o,ho,hcell⟩:=hr
 have ho':=KF (l:=[{c:=Zc (nx)},{c:=Zc orderW},{c:=Zc (r)}]) ho
 have hwc:=hcell (i/32) w hw
 have h1:((i:Int)≥0):=qr
 have h2:((i/32:Nat):Int)<(n:Int):=qr
 have h4:¬(((i%32:Nat):Int)<0):=qr
 have e1:IntKind.i64.wrap ((i:Int).tdiv 32)=((i/32:Nat):Int):=ZB (n:=i/32) qr
 have e2:((i:Int).tmod 32)=((i%32:Nat):Int):=rfl
 have e3:GA (w:Int) (2^min (i%32) IntKind.u32.bits)=((w/2^(i%32):Nat):Int):=by
  rw[Zw (by show _<=32;omega),JO _ (uR (zm ww))];simp
 have e4:Zr .and .u32 ((w/2^(i%32):Nat):Int) 1=((w/2^(i%32)%2:Nat):Int):=by
  rw[show(1:Int)=((1:Nat):Int) from rfl,Uu (k := .u32) (a:=w/2^(i%32)) (b:=1) rfl (Jc (Jx _ _) hw') ww,Nat.and_one_is_mod]
 have e5:IntKind.i64.wrap ((i:Int)-1)=(i:Int)-1:=QU qr qr
 have e8:((8:Nat):Int)=8:=rfl
 have hst:=h.step hc i1 i2
 generalize w/2^(i%32)%2=c at *
 by_cases hb0:b=0
 ·subst hb0
  have e6:(((0:Nat):Int)==0)=true:=rfl
  refine⟨nx1,r1,hst.1 rfl,.inr ?_⟩
  simp only[Y6,Qr,guardOf,Qz,opd,Xb,ZI,Zq,Env.get,Env.put,Jj,Q1,ZC,St.after,Env.keep,Ju,Jb,unV,ZU,Zt,packed,Ob.fresh,Jn,Z7,cS,reduceCtorEq,QQ,QK,QT,Zk,Ze,Zf,QJ,Zd,QS,h1,h2,h4,ho',hwc,e1,e2,e3,e4,e5,e6,e8,hb1,hb2]
 ·have hb1':b=1:=by have:=i2.ble;omega
  subst hb1'
  have e6:(((1:Nat):Int)==0)=false:=rfl
  refine⟨r1,nx1,hst.2 ww,.inl ?_⟩
  simp only[Y6,Qr,guardOf,Qz,opd,Xb,ZI,Zq,Env.get,Env.put,Jj,Q1,ZC,St.after,Env.keep,Ju,Jb,unV,ZU,Zt,packed,Ob.fresh,Jn,Z7,cS,reduceCtorEq,QQ,QK,QT,Zk,Ze,Zf,QJ,Zd,QS,h1,h2,h4,ho',hwc,e1,e2,e3,e4,e5,e6,e8,hb1,hb2]
def Cx(H:List Ob)(s:Value)(p:Bool)(v:Int)(r nx:List Nat):St:=match p with
 |false=>(⟨[(0,s),(3,(.slice H.length 8 8)),(4,(.slice (H.length+1:Nat) 8 8)),(5,(.slice (H.length+2:Nat) 8 8)),(6,.int .i64 (v))],H++[{c:=Zc (r)},{c:=Zc orderW},{c:=Zc (nx)}],[]⟩:St)
 |true=>(⟨[(0,s),(3,(.slice (H.length+2:Nat) 8 8)),(4,(.slice (H.length+1:Nat) 8 8)),(5,(.slice H.length 8 8)),(6,.int .i64 (v))],H++[{c:=Zc (nx)},{c:=Zc orderW},{c:=Zc (r)}],[]⟩:St)
def Cy(H:List Ob)(s:Value)(p:Bool)(r nx:List Nat):St:=match p with
 |false=>(⟨[(0,s),(3,(.slice H.length 8 8)),(4,(.slice (H.length+1:Nat) 8 8)),(5,(.slice (H.length+2:Nat) 8 8)),(6,.int .i64 (-1)),(19,.bool false)],H++[{c:=Zc (r)},{c:=Zc orderW},{c:=Zc (nx)}],[]⟩:St)
 |true=>(⟨[(0,s),(3,(.slice (H.length+2:Nat) 8 8)),(4,(.slice (H.length+1:Nat) 8 8)),(5,(.slice H.length 8 8)),(6,.int .i64 (-1)),(19,.bool false)],H++[{c:=Zc (nx)},{c:=Zc orderW},{c:=Zc (r)}],[]⟩:St)
theorem eP{nx:List Nat}(p:Bool)(hr:Row .u32 H id off ws)(hn:ws.length=n)(hN:n<2^40)(hi:i<32*n)(hw:ws[i/32]?=some w)(hw':w<4294967296)(h:RInv V r nx) :
  ∃q r' nx',RInv (2*V+w/2^(i%32)%2) r' nx'/\Q0 T H.length Y6 (Cx H (.slice (some ⟨id,off,none⟩) n cap) p (i:Nat) r nx)=some (.normal,Cx H (.slice (some ⟨id,off,none⟩) n cap) q ((i:Int)-1) r' nx'):=by
 cases p with
 |false =>
  obtain⟨r',nx',h1,h2⟩:=ab (cap:=cap) hr hn hN hi hw hw' h
  rcases h2 with h2|h2
  ·exact⟨false,r',nx',h1,h2⟩
  ·exact⟨true,r',nx',h1,h2⟩
 |true =>
  obtain⟨r',nx',h1,h2⟩:=SZ (cap:=cap) hr hn hN hi hw hw' h
  rcases h2 with h2|h2
  ·exact⟨true,r',nx',h1,h2⟩
  ·exact⟨false,r',nx',h1,h2⟩
theorem xT(hws:∀x∈ws,x<4294967296)(hw:ws[i/32]?=some w):2*(num 4294967296 ws/2^(i+1))+w/2^(i%32)%2=num 4294967296 ws/2^i:=by
 have h1:=Kv (B:=4294967296) ww hws hw
 generalize num 4294967296 ws=v at *
 have h2:w/2^(i%32)%2=v/2^i%2:=by
  have e1:(4294967296:Nat)^(i/32)=2^(32*(i/32)):=by rw[show(4294967296:Nat)=2^32 from rfl,<-Je]
  rw[<-h1,e1]
  have e2:(2:Nat)^i=2^(32*(i/32))*2^(i%32):=by rw[<-JI];congr 1;omega
  rw[e2,<-QV]
  generalize v/2^(32*(i/32))=u
  have e3:(4294967296:Nat)=2^(i%32)*2^(32-i%32):=by rw[<-JI];rw[show i%32+(32-i%32)=32 by omega]
  rw[e3,Gx,Ws]
  exact⟨2^(31-i%32),by rw[<-Nat.pow_add_one'];congr 1;omega⟩
 rw[h2,Zj,<-QV]
 omega
theorem ae(hr:Row .u32 H id off ws)(hn:ws.length=n)(hn0:0<n)(hN:n<2^40)(hws:∀x∈ws,x<4294967296) :
  ∃k l,Z6 T 166 [.slice (some ⟨id,off,none⟩) n cap] H=some (.slice (k:Nat) 8 8,H++l,[])/\Row .u32 (H++l) k 0 (dig 4294967296 8 (num 4294967296 ws%ell)):=by
 have h0:RInv (num 4294967296 ws/2^(32*n)) (dig 4294967296 8 0) (dig 4294967296 8 0):=by
  refine⟨Zg _ _ _,fun x hx=>Vy ww hx,Zg _ _ _,fun x hx=>Vy ww hx,?_⟩
  have h1:=num_lt hws
  rw[hn,show(4294967296:Nat)=2^32 from rfl,<-Je]at h1
  rw[XJ ww,show(4294967296:Nat)=2^32 from rfl,Nat.div_eq_of_lt h1]
  simp
 obtain⟨s',hb,q,r,nx,rfl,hinv⟩:=Zh (T:=T) (base:=H.length) (id:=0) (body:=Y6)
  (fun j s=>∃p r nx,s=Cx H (.slice (some ⟨id,off,none⟩) n cap) p (((32*n-j:Nat):Int)-1) r nx/\RInv (num 4294967296 ws/2^(32*n-j)) r nx)
  (Q:=fun s=>∃p r nx,s=Cy H (.slice (some ⟨id,off,none⟩) n cap) p r nx/\RInv (num 4294967296 ws) r nx)
  (32*n) (s:=Cx H (.slice (some ⟨id,off,none⟩) n cap) false (((32*n-0:Nat):Int)-1) (dig 4294967296 8 0) (dig 4294967296 8 0)) ⟨false,_,_,rfl,h0⟩
  (fun j s hj hs=>by
   obtain⟨p,r,nx,rfl,hI⟩:=hs
   obtain⟨i,hi⟩:∃i,32*n-j=i+1:=⟨32*n-j-1,by omega⟩
   obtain⟨w,hw⟩:∃w,ws[i/32]?=some w:=⟨_,Qf qr⟩
   rw[hi]at hI
   obtain⟨q,r',nx',g1,g2⟩:=eP (cap:=cap) p hr hn hN qr hw (hws w (Qo hw)) hI
   rw[xT hws hw]at g1
   refine⟨_,?_,q,r',nx',rfl,by rw[show 32*n-(j+1)=i by omega];exact g1⟩
   rw[hi,show 32*n-(j+1)=i by omega,show(((i+1:Nat):Int)-1)=(i:Nat) by omega]
   exact g2)
  (fun s hs=>by
   obtain⟨p,r,nx,rfl,hI⟩:=hs
   rw[Q7,Nat.pow_zero,Nat.div_one]at hI
   refine⟨_,?_,p,r,nx,rfl,hI⟩
   rw[Q7]
   have h1:¬((-1:Int)≥0):=ww
   cases p with
   |false =>
    rw[show Cx H (.slice (some ⟨id,off,none⟩) n cap) false (((0:Nat):Int)-1) r nx=(⟨[(0,.slice (some ⟨id,off,none⟩) n cap),(3,(.slice H.length 8 8)),(4,(.slice (H.length+1:Nat) 8 8)),(5,(.slice (H.length+2:Nat) 8 8)),(6,.int .i64 (-1))],H++[{c:=Zc (r)},{c:=Zc orderW},{c:=Zc (nx)}],[]⟩:St) from rfl]
    simp only[Y6,Qr,guardOf,Qz,opd,Xb,ZI,Zq,Env.get,Env.put,Jj,Q1,ZC,St.after,Env.keep,Ju,Jb,unV,ZU,Zt,packed,Ob.fresh,Jn,Z7,cS,reduceCtorEq,QQ,QK,QT,Zk,Ze,Zf,QJ,Zd,QS,h1,Cy]
   |true =>
    rw[show Cx H (.slice (some ⟨id,off,none⟩) n cap) true (((0:Nat):Int)-1) r nx=(⟨[(0,.slice (some ⟨id,off,none⟩) n cap),(3,(.slice (H.length+2:Nat) 8 8)),(4,(.slice (H.length+1:Nat) 8 8)),(5,(.slice H.length 8 8)),(6,.int .i64 (-1))],H++[{c:=Zc (nx)},{c:=Zc orderW},{c:=Zc (r)}],[]⟩:St) from rfl]
    simp only[Y6,Qr,guardOf,Qz,opd,Xb,ZI,Zq,Env.get,Env.put,Jj,Q1,ZC,St.after,Env.keep,Ju,Jb,unV,ZU,Zt,packed,Ob.fresh,Jn,Z7,cS,reduceCtorEq,QQ,QK,QT,Zk,Ze,Zf,QJ,Zd,QS,h1,Cy])
 obtain⟨m,hm⟩:∃m:Int,m=((32*n-0:Nat):Int)-1:=⟨_,rfl⟩
 rw[<-hm,show Cx H (.slice (some ⟨id,off,none⟩) n cap) false m (dig 4294967296 8 0) (dig 4294967296 8 0)=(⟨[(0,.slice (some ⟨id,off,none⟩) n cap),(3,(.slice H.length 8 8)),(4,(.slice (H.length+1:Nat) 8 8)),(5,(.slice (H.length+2:Nat) 8 8)),(6,.int .i64 (m))],H++[{c:=Zc (dig 4294967296 8 0)},{c:=Zc orderW},{c:=Zc (dig 4294967296 8 0)}],[]⟩:St) from rfl]at hb
 have e1:IntKind.i64.wrap (IntKind.i64.wrap (32*(n:Int))-1)=m:=by rw[QU (x:=32*(n:Int)) qr qr,QU qr qr];omega
 have h1:((8:Int)*((4:Nat):Int)<=2^47):=ww
 have h2:(0:Nat)<4:=ww
 have h3:((0:Int)<=8):=ww
 have hz:Qa 8 (Value.int .u32 0)=Zc (dig 4294967296 8 0):=rfl
 have horder:=Cn (H++[{c:=Zc (dig 4294967296 8 0)}])
 simp only[Qj,Zv,ZT,QL,Qt,Qn,Ql,Ob.fresh]at horder
 have hdig:r=dig 4294967296 8 (num 4294967296 ws%ell):=by rw[<-hinv.eq,<-hinv.len,WD ww hinv.lt]
 cases q with
 |false =>
  refine⟨H.length,[{c:=Zc r},{c:=Zc orderW},{c:=Zc nx}],?_,?_⟩
  ·rw[QY (fn:=a41) rfl]
   simp only[a41,Qr,guardOf,Qz,opd,Xb,ZI,Zq,Env.get,Env.put,Jj,Q1,ZC,St.after,Env.keep,Ju,Jb,unV,ZU,Zt,packed,Ob.fresh,Jn,Z7,cS,reduceCtorEq,QQ,QK,QT,Zk,Ze,Zf,QJ,Zd,QS,e1,h1,h2,h3,Bj,BE,hz,horder,Qj,Qt,hb,Cy]
  ·exact⟨_,B9,fun i x hx=>by rw[QL];exact Ko (by rw[hdig];exact hx)⟩
 |true =>
  refine⟨H.length+2,[{c:=Zc nx},{c:=Zc orderW},{c:=Zc r}],?_,?_⟩
  ·rw[QY (fn:=a41) rfl]
   simp only[a41,Qr,guardOf,Qz,opd,Xb,ZI,Zq,Env.get,Env.put,Jj,Q1,ZC,St.after,Env.keep,Ju,Jb,unV,ZU,Zt,packed,Ob.fresh,Jn,Z7,cS,reduceCtorEq,QQ,QK,QT,Zk,Ze,Zf,QJ,Zd,QS,e1,h1,h2,h3,Bj,BE,hz,horder,Qj,Qt,hb,Cy]
  ·exact⟨_,nB,fun i x hx=>by rw[QL];exact Ko (by rw[hdig];exact hx)⟩
theorem BX{cs v:List Value}(h:v.length=cs.length):splice cs 0 v=v:=by
 rw[Vh _ _ _ qr,Xi,Ql,QL,h,List.drop_length,QG]
theorem tT(hw:v/4294967296^(i/4)%4294967296=w):w/2^(8*(i%4))%256=v/256^i%256:=by
 subst hw
 have e1:(4294967296:Nat)^(i/4)=2^(32*(i/4)):=by rw[show(4294967296:Nat)=2^32 from rfl,<-Je]
 have e2:(256:Nat)^i=2^(32*(i/4))*2^(8*(i%4)):=by
  rw[show(256:Nat)=2^8 from rfl,<-Je,<-JI];congr 1;omega
 rw[e1,e2,<-QV]
 generalize v/2^(32*(i/4))=u
 have e3:(4294967296:Nat)=2^(8*(i%4))*2^(32-8*(i%4)):=by rw[<-JI];rw[show 8*(i%4)+(32-8*(i%4))=32 by omega]
 rw[e3,Gx,Ws]
 exact⟨2^(24-8*(i%4)),by rw[show(256:Nat)=2^8 from rfl,<-JI];congr 1;omega⟩
def byI(H:List Ob)(s:Value)(i:Int)(k:List Nat)(ex:Env):St :=
 ⟨[(0,s),(2,.pointer H.length),(3,.pointer (H.length+1:Nat)),(5,.int .i64 i)]++ex,H++[{c:=u8s (dig 256 32 0)},{c:=u8s k}],[]⟩
theorem tU{k:List Nat}(hr:Row .u32 H id off ws)(hn:ws.length=8)(hi:i<32)(hw:ws[i/4]?=some w)(hl:k.length=32) :
  Q0 T H.length Ff (byI H (.slice (some ⟨id,off,none⟩) 8 cap) (i:Nat) k [])=some (.normal,byI H (.slice (some ⟨id,off,none⟩) 8 cap) ((i+1:Nat):Int) (k.set i (w/2^(8*(i%4))%256)) []):=by
 obtain⟨o,ho,hcell⟩:=hr
 have ho':=KF (l:=[{c:=u8s (dig 256 32 0)},{c:=u8s k}]) ho
 have hwc:=hcell (i/4) w hw
 have h1:((i:Int)<32):=qr
 have h1':((i:Int)<((32:Nat):Int)):=qr
 have h2:((i/4:Nat):Int)<((8:Nat):Int):=qr
 have h2':((i/4:Nat):Int)<(8:Int):=qr
 have h4:¬(((8*(i%4):Nat):Int)<0):=qr
 have e1:IntKind.i64.wrap ((i:Int).tdiv 4)=((i/4:Nat):Int):=ZB (n:=i/4) qr
 have e2:((i:Int).tmod 4)=((i%4:Nat):Int):=rfl
 have e3:IntKind.i64.wrap (8*((i%4:Nat):Int))=((8*(i%4):Nat):Int):=ZB (n:=8*(i%4)) qr
 have e4:GA (w:Int) (2^min (8*(i%4)) IntKind.u32.bits)=((w/2^(8*(i%4)):Nat):Int):=by
  rw[Zw (by show _<=32;omega),JO _ (uR (zm ww))];simp
 have e5:IntKind.u8.wrap ((w/2^(8*(i%4)):Nat):Int)=((w/2^(8*(i%4))%256:Nat):Int):=by rw[wrap_u8];rfl
 have e6:IntKind.i64.wrap ((i:Int)+1)=((i+1:Nat):Int):=ZB (n:=i+1) qr
 have h5:i+1<=(u8s k).length:=by rw[Qq,hl];omega
 simp only[byI,Ff,Qr,guardOf,Qz,opd,Xb,ZI,Zq,Env.get,Env.put,Jj,Q1,ZC,St.after,Env.keep,Ju,Jb,unV,ZU,Zt,packed,Ob.fresh,Jn,Z7,cS,reduceCtorEq,QQ,QK,QT,Zk,Ze,Zf,QJ,Zd,QS,h1,h1',h2,h2',h4,ho',hwc,e1,e2,e3,e4,e5,e6,h5,NI,Xc]
theorem Rd(hr:Row .u32 H id off (dig 4294967296 8 v)) :
  ∃l,Z6 T 167 [.slice (some ⟨id,off,none⟩) 8 cap] H=some (.agg (u8s (dig 256 32 v)).toArray,H++l,[]):=by
 obtain⟨s',hb,k,rfl,hlen,hk⟩:=Zh (T:=T) (base:=H.length) (id:=0) (body:=Ff)
  (fun i s=>∃k,s=byI H (.slice (some ⟨id,off,none⟩) 8 cap) (i:Nat) k []/\k.length=32/\∀t,t<i->k[t]?=some (v/256^t%256))
  (Q:=fun s=>∃k,s=byI H (.slice (some ⟨id,off,none⟩) 8 cap) 32 k [(6,.bool false)]/\k.length=32/\∀t,t<32->k[t]?=some (v/256^t%256))
  32 (s:=byI H (.slice (some ⟨id,off,none⟩) 8 cap) ((0:Nat):Int) (dig 256 32 0) []) ⟨_,rfl,Zg _ _ _,fun t ht=>by omega⟩
  (fun i s hi hs=>by
   obtain⟨k,rfl,hl,hk⟩:=hs
   refine⟨_,tU hr (Zg _ _ _) hi (XX qr) hl,_,rfl,by rw[Q4];exact hl,fun t ht =>?_⟩
   by_cases h:t=i
   ·subst h
    rw[Qw qr,tT rfl]
   ·rw[Qu qr]
    exact hk t qr)
  (fun s hs=>by
   obtain⟨k,rfl,hl,hk⟩:=hs
   have h1:¬(((32:Nat):Int)<(32:Int)):=qr
   refine⟨_,?_,k,rfl,hl,hk⟩
   simp only[byI,Ff,Qr,guardOf,Qz,opd,Xb,ZI,Zq,Env.get,Env.put,Jj,Q1,ZC,St.after,Env.keep,Ju,Jb,unV,ZU,Zt,packed,Ob.fresh,Jn,Z7,cS,reduceCtorEq,QQ,QK,QT,Zk,Ze,Zf,QJ,Zd,QS,h1]
   rfl)
 have hkk:k=dig 256 32 v:=HY hlen fun i hi=>hk i hi
 subst hkk
 have hz:Qa 32 (Value.int .u8 0)=u8s (dig 256 32 0):=rfl
 have h1:0+32<=(u8s (dig 256 32 v)).length:=by rw[Qq,Zg];omega
 have h1':32<=(u8s (dig 256 32 v)).length:=by rw[Qq,Zg];omega
 have h2:((u8s (dig 256 32 v)).drop 0).take 32=u8s (dig 256 32 v):=by rw[ZS,Qm (by rw[Qq,Zg];omega)]
 have h3:(u8s (dig 256 32 v)).length=32:=by rw[Qq,Zg]
 have h4:0+(u8s (dig 256 32 v)).length<=(u8s (dig 256 32 0)).length:=by rw[Qq,Qq,Zg,Zg];omega
 have h5:splice (u8s (dig 256 32 0)) 0 (u8s (dig 256 32 v))=u8s (dig 256 32 v):=BX (by rw[Qq,Qq,Zg,Zg])
 have h6:=KP (H:=H) (r:=[{c:=u8s (dig 256 32 v)}]) (e:=true) (s:=1) h4
 rw[h5]at h6
 refine⟨[{c:=u8s (dig 256 32 v)},{c:=u8s (dig 256 32 v)}],?_⟩
 rw[show byI H (.slice (some ⟨id,off,none⟩) 8 cap) ((0:Nat):Int) (dig 256 32 0) []=⟨[(0,.slice (some ⟨id,off,none⟩) 8 cap),(2,.pointer H.length),(3,.pointer (H.length+1:Nat)),(5,.int .i64 0)],H++[{c:=u8s (dig 256 32 0)},{c:=u8s (dig 256 32 0)}],[]⟩ from rfl]at hb
 rw[QY (fn:=a42) rfl]
 simp only[a42,Qr,guardOf,Qz,opd,Xb,ZI,Zq,Env.get,Env.put,Jj,Q1,ZC,St.after,Env.keep,Ju,Jb,unV,ZU,Zt,packed,Ob.fresh,Jn,Z7,cS,reduceCtorEq,QQ,QK,QT,Zk,Ze,Zf,QJ,Zd,QS,hz,hb,byI,h1,h1',h2,Ts,Ur,h3,h6,Qj,Qt]
theorem U6:Row .u32 (H++[Ob.fresh (Zc ws)]) H.length 0 ws:=⟨_,B9,fun i x hx=>by rw[QL];exact Ko hx⟩
theorem kJ{o:Ob}:Row .u32 (H++[{c:=Zc ws},o]) H.length 0 ws:=⟨_,B9,fun i x hx=>by rw[QL];exact Ko hx⟩
def fh(l:List Nat):Value := .agg (u8s l).toArray
theorem v9:J8 32 32 none none none=some (0,32,32):=rfl
theorem UH:∀x∈dig 4294967296 n v,x<4294967296:=fun x hx=>Vy ww hx
theorem Ay{l:List Nat}(hl:l.length=32)(h:∀x∈l,x<256):num 256 l<4294967296^8:=by
 have:=num_lt h
 rw[hl]at this
 rw[show(4294967296:Nat)^8=256^32 from by decide];exact this
theorem SY(ha:Row .u8 H 0 0 a)(hb:Row .u8 H 1 0 b)(hc:Row .u8 H 2 0 c)(la:a.length=32)(lb:b.length=32)(lc:c.length=32)
 (xa:∀x∈a,x<256) (xb:∀x∈b,x<256) (xc:∀x∈c,x<256) :
    ∃k l l2,Z6 T 130 [.slice (0:Nat) 32 32] H=some (.slice H.length 8 8,H++[Ob.fresh (Zc (dig 4294967296 8 (num 256 a)))],[]) /\
      (let H5:=H++[Ob.fresh (Zc (dig 4294967296 8 (num 256 a)))]
       let H6:=H5++[Ob.fresh (Zc (dig 4294967296 8 (num 256 b)))]
       let H7:=H6++[Ob.fresh (Zc (dig 4294967296 16 (num 256 a*num 256 b)))]
       let H8:=H7++[Ob.fresh (Zc (dig 4294967296 8 (num 256 c)))]
       let H10:=H8++[{c:=Zc (dig 4294967296 17 (num 256 a*num 256 b+num 256 c))},{c:=[.int .u32 0]}]
       Z6 T 130 [.slice (1:Nat) 32 32] H5=some (.slice H5.length 8 8,H6,[]) /\
       Z6 T 164 [.slice H.length 8 8,.slice H5.length 8 8] H6=some (.slice H6.length 16 16,H7,[]) /\
       Z6 T 130 [.slice (2:Nat) 32 32] H7=some (.slice H7.length 8 8,H8,[]) /\
       Z6 T 165 [.slice H6.length 16 16,.slice H7.length 8 8] H8=some (.slice H8.length 17 17,H10,[]) /\
       Z6 T 166 [.slice H8.length 17 17] H10=some (.slice k 8 8,H10++l,[]) /\
       Z6 T 167 [.slice k 8 8] (H10++l)=some (fh (dig 256 32 ((num 256 a*num 256 b+num 256 c)%ell)),H10++l++l2,[])):=by
  have na:=Ay la xa
  have nb:=Ay lb xb
  have nc:=Ay lc xc
  have h1:=Ix (c:=32) ha la ww xa
  have h2:=Ix (c:=32) (hb.app (l:=[Ob.fresh (Zc (dig 4294967296 8 (num 256 a)))])) lb ww xb
  have r1:=(U6 (H:=H) (ws:=dig 4294967296 8 (num 256 a))).app (l:=[Ob.fresh (Zc (dig 4294967296 8 (num 256 b)))])
  have r2:=U6 (H:=H++[Ob.fresh (Zc (dig 4294967296 8 (num 256 a)))]) (ws:=dig 4294967296 8 (num 256 b))
  have h3:=iT (c1:=8) (c2:=8) r1 r2 (Zg _ _ _) (Zg _ _ _) ww UH UH
  rw[XJ ww,XJ ww,Qv na,Qv nb]at h3
  have h4:=Ix (c:=32) (((hc.app (l:=[Ob.fresh (Zc (dig 4294967296 8 (num 256 a)))])).app (l:=[Ob.fresh (Zc (dig 4294967296 8 (num 256 b)))])).app (l:=[Ob.fresh (Zc (dig 4294967296 16 (num 256 a*num 256 b)))])) lc ww xc
  have r3:=(U6 (H:=H++[Ob.fresh (Zc (dig 4294967296 8 (num 256 a)))]++[Ob.fresh (Zc (dig 4294967296 8 (num 256 b)))]) (ws:=dig 4294967296 16 (num 256 a*num 256 b))).app (l:=[Ob.fresh (Zc (dig 4294967296 8 (num 256 c)))])
  have r4:=U6 (H:=H++[Ob.fresh (Zc (dig 4294967296 8 (num 256 a)))]++[Ob.fresh (Zc (dig 4294967296 8 (num 256 b)))]++[Ob.fresh (Zc (dig 4294967296 16 (num 256 a*num 256 b)))]) (ws:=dig 4294967296 8 (num 256 c))
  have h5:=rH (c1:=16) (c2:=8) r3 r4 (Zg _ _ _) (Zg _ _ _) ww ww ww UH UH
  have nab:num 256 a*num 256 b<4294967296^16:=by
    rw[show(4294967296:Nat)^16=4294967296^8*4294967296^8 from by decide]
    exact Nat.mul_lt_mul'' na nb
  rw[XJ ww,XJ ww,Qv nab,Qv nc]at h5
  have r5:=kJ (H:=H++[Ob.fresh (Zc (dig 4294967296 8 (num 256 a)))]++[Ob.fresh (Zc (dig 4294967296 8 (num 256 b)))]++[Ob.fresh (Zc (dig 4294967296 16 (num 256 a*num 256 b)))]++[Ob.fresh (Zc (dig 4294967296 8 (num 256 c)))]) (ws:=dig 4294967296 17 (num 256 a*num 256 b+num 256 c)) (o:={c:=[.int .u32 0]})
  obtain⟨k,l,h6,r6⟩:=ae (cap:=17) r5 (Zg _ _ _) ww ww UH
  have nabc:num 256 a*num 256 b+num 256 c<4294967296^17:=by
    have:(4294967296:Nat)^16+4294967296^8<=4294967296^17:=ww
    omega
  rw[XJ ww,Qv nabc]at r6
  obtain⟨l2,h7⟩:=Rd (cap:=8) r6
  exact⟨k,l,l2,h1,h2,h3,h4,h5,h6,h7⟩
theorem eO(la:a.length=32)(lb:b.length=32)(lc:c.length=32)(xa:∀x∈a,x<256)(xb:∀x∈b,x<256)(xc:∀x∈c,x<256) :
  ∃l,Z6 T 103 [fh a,fh b,fh c] []=some (fh (dig 256 32 ((num 256 a*num 256 b+num 256 c)%ell)),l,[]):=by
 have hz:Qa 32 (Value.int .u8 0)=u8s (dig 256 32 0):=rfl
 obtain⟨H,hH⟩:∃H:List Ob,H=[{c:=u8s a},{c:=u8s b},{c:=u8s c},{c:=u8s (dig 256 32 0)}]:=⟨_,rfl⟩
 have ra:Row .u8 H 0 0 a:=by subst hH;exact⟨_,rfl,fun i x hx=>by rw[QL];exact Js hx⟩
 have rb:Row .u8 H 1 0 b:=by subst hH;exact⟨_,rfl,fun i x hx=>by rw[QL];exact Js hx⟩
 have rc:Row .u8 H 2 0 c:=by subst hH;exact⟨_,rfl,fun i x hx=>by rw[QL];exact Js hx⟩
 obtain⟨k,l,l2,h1,h2,h3,h4,h5,h6,h7⟩:=SY ra rb rc la lb lc xa xb xc
 generalize hR:dig 256 32 ((num 256 a*num 256 b+num 256 c)%ell)=R at *
 have lR:(u8s R).length=32:=by rw[Qq,<-hR,Zg]
 generalize hH5:H++[Ob.fresh (Zc (dig 4294967296 8 (num 256 a)))]=H5 at h1 h2 h3 h4 h5 h6 h7
 generalize hH6:H5++[Ob.fresh (Zc (dig 4294967296 8 (num 256 b)))]=H6 at h2 h3 h4 h5 h6 h7
 generalize hH7:H6++[Ob.fresh (Zc (dig 4294967296 16 (num 256 a*num 256 b)))]=H7 at h3 h4 h5 h6 h7
 generalize hH8:H7++[Ob.fresh (Zc (dig 4294967296 8 (num 256 c)))]=H8 at h4 h5 h6 h7
 generalize hH10:H8++[{c:=Zc (dig 4294967296 17 (num 256 a*num 256 b+num 256 c))},{c:=[.int .u32 0]}]=H10 at h5 h6 h7
 generalize hH11:H10++l=H11 at h6 h7
 generalize hG:H11++l2=G at h7
 obtain⟨t,hGt⟩:∃t,G={c:=u8s a}::{c:=u8s b}::{c:=u8s c}::{c:=u8s (dig 256 32 0)}::t:=by
  rw[<-hG,<-hH11,<-hH10,<-hH8,<-hH7,<-hH6,<-hH5,hH];exact⟨_,rfl⟩
 have hst:storeAt G ⟨3,0,none⟩ (u8s R)=some ({c:=u8s a}::{c:=u8s b}::{c:=u8s c}::{c:=u8s R}::t):=by
  rw[hGt]
  have h8:=KP (H:=[{c:=u8s a},{c:=u8s b},{c:=u8s c}]) (r:=t) (cs:=u8s (dig 256 32 0)) (e:=true) (s:=1) (off:=0) (v:=u8s R) (by rw[lR,Qq,Zg];omega)
  rw[BX (by rw[lR,Qq,Zg])]at h8
  exact h8
 have hlv:liveAt ({c:=u8s a}::{c:=u8s b}::{c:=u8s c}::{c:=u8s R}::t) 3=some {c:=u8s R}:=rfl
 have h9:((u8s R).drop 0).take 32=u8s R:=by rw[ZS,Qm qr]
 refine⟨{c:=u8s a}::{c:=u8s b}::{c:=u8s c}::{c:=u8s R}::t,?_⟩
 rw[QY (fn:=a19) rfl]
 simp only[fh]at h7 ⊢
 simp only[a19,Qr,guardOf,Qz,opd,Xb,ZI,Zq,Env.get,Env.put,Jj,Q1,ZC,St.after,Env.keep,Ju,Jb,unV,ZU,Zt,packed,Ob.fresh,Jn,Z7,cS,reduceCtorEq,QQ,QK,QT,Zk,Ze,Zf,QJ,Zd,QS,hz,<-hH,v9,h1,h2,h3,h4,h5,h6,h7,lR,hst,hlv,h9]
def k1(n:Nat):List Nat:=n::Qa 31 0
def KH(a:List Nat)(x y:Nat):List Nat:=(a.set 0 (x&&&248)).set 31 ((y&&&127)|||64)
theorem uG{a b:Nat}(h:a<256):a&&&b<256:=Jc Nat.and_le_left h
theorem Px(la:a.length=32)(hx:a[0]?=some x)(hy:a[31]?=some y)(hx':x<256)(hy':y<256) :
  ∃l,Z6 T 104 [.agg (u8s a).toArray] []=some (.agg (u8s (KH a x y)).toArray,l,[]):=by
 have hz:Qa 32 (Value.int .u8 0)=u8s (dig 256 32 0):=rfl
 have hxc:=Js hx
 have hyc:=Js (l:=a.set 0 (x&&&248)) (i:=31) (x:=y) (by rw[Qu ww];exact hy)
 have e1:Zr .and .u8 (x:Int) 248=((x&&&248:Nat):Int):=Uu (k := .u8) (a:=x) (b:=248) rfl hx' ww
 have e2:Zr .and .u8 (y:Int) 127=((y&&&127:Nat):Int):=Uu (k := .u8) (a:=y) (b:=127) rfl hy' ww
 have e3:Zr .or .u8 ((y&&&127:Nat):Int) 64=(((y&&&127)|||64:Nat):Int):=Kh (k := .u8) (a:=y&&&127) (b:=64) rfl (uG hy') ww
 have l1:(u8s a).length=32:=by rw[Qq,la]
 have l2:(u8s (a.set 0 (x&&&248))).length=32:=by rw[Qq,Q4,la]
 have l3:(u8s (KH a x y)).length=32:=by rw[Qq,KH,Q4,Q4,la]
 have s1:=KP (H:=[]) (r:=[{c:=u8s (dig 256 32 0)}]) (cs:=u8s a) (e:=true) (s:=1) (off:=0) (v:=[.int .u8 ((x&&&248:Nat):Int)]) (by rw[l1];simp)
 rw[Yt,Xc]at s1
 have s2:=KP (H:=[]) (r:=[{c:=u8s (dig 256 32 0)}]) (cs:=u8s (a.set 0 (x&&&248))) (e:=true) (s:=1) (off:=31) (v:=[.int .u8 (((y&&&127)|||64:Nat):Int)]) (by rw[l2];simp)
 rw[Yt,Xc]at s2
 have s3:=NI (H:=[]) (a:={c:=u8s (KH a x y)}) (r:=[]) (cs:=u8s (dig 256 32 0)) (e:=true) (s:=1) (off:=0) (v:=u8s (KH a x y)) (by rw[l3,Qq,Zg];decide)
 rw[BX (by rw[l3,Qq,Zg])]at s3
 have t3:((u8s (KH a x y)).drop 0).take 32=u8s (KH a x y):=by rw[ZS,Qm qr]
 have v0:∀(p q:List Value),liveAt [{c:=p},{c:=q}] 0=some {c:=p}:=fun _ _=>rfl
 have v1:∀(p q:List Value),liveAt [{c:=p},{c:=q}] 1=some {c:=q}:=fun _ _=>rfl
 have i0:((0:Int)<((32:Nat):Int)):=ww
 have i31:((31:Int)<((32:Nat):Int)):=ww
 simp only[Ql,ZT]at s1 s2 s3
 rw[show(a.set 0 (x&&&248)).set 31 ((y&&&127)|||64)=KH a x y from rfl]at s2
 simp only[QL]at s3
 refine⟨[{c:=u8s (KH a x y)},{c:=u8s (KH a x y)}],?_⟩
 rw[QY (fn:=a16) rfl]
 simp only[a16,Qr,guardOf,Qz,opd,Xb,ZI,Zq,Env.get,Env.put,Jj,Q1,ZC,St.after,Env.keep,Ju,Jb,unV,ZU,Zt,packed,Ob.fresh,Jn,Z7,cS,reduceCtorEq,QQ,QK,QT,Zk,Ze,Zf,QJ,Zd,QS,hz,hxc,hyc,e1,e2,e3,i0,i31,v0,v1,s1,s2,l3,t3,s3]
theorem bK(b:Bool):rf (.bool b)=true:=rfl
theorem v0(p q:List Value):liveAt [{c:=p},{c:=q}] 0=some {c:=p}:=rfl
theorem v1(p q:List Value):liveAt [{c:=p},{c:=q}] 1=some {c:=q}:=rfl
structure LessInv(k:Nat)(ws os:List Nat)(b:Nat):Prop where
 ble:b<=1
 eq:∃z,z<4294967296^k/\num 4294967296 (ws.take k)+b*4294967296^k=num 4294967296 (os.take k)+z
theorem LessInv.step{k b x y:Nat}{ws os:List Nat}(h:LessInv k ws os b)(hx:ws[k]?=some x)(hy:os[k]?=some y)(hx':x<4294967296)(hy':y<4294967296):LessInv (k+1) ws os (Dn x y b):=by
 have hb:=h.ble
 have hd:Dm x y b<4294967296/\x+4294967296*Dn x y b=y+b+Dm x y b/\Dn x y b<=1:=by
  unfold Dm Dn;split<;>omega
 refine⟨hd.2.2,?_⟩
 obtain⟨z,hz,h2⟩:=h.eq
 rw[Xa hx,Xa hy]
 have h3:=hd.2.1
 have h4:=hd.1
 generalize Dm x y b=d,Dn x y b=q at *
 refine⟨z+d*4294967296^k,?_,?_⟩
 ·have:(d+1)*4294967296^k<=4294967296*4294967296^k:=Z9 _ h4
  rw[Zl,Xd]at this
  rw[Zj,Zm (4294967296^k)]
  omega
 ·have e2:q*4294967296^(k+1)=4294967296*q*4294967296^k:=by
   rw[Zj];simp only[ZD,JM,Zm]
  have e3:(x+4294967296*q)*4294967296^k=(y+b+d)*4294967296^k:=by rw[h3]
  rw[Zl,Zl,Zl]at e3
  rw[e2]
  omega
def MM(H:List Ob)(s1 s2:Value)(n b k:Nat)(ex:Env):St:=⟨[(0,s1),(1,s2),(5,.int .u32 b),(8,.int .i64 n),(9,.int .i64 k)]++ex,H,[]⟩
theorem eY{b k:Nat}(hr1:Row .u32 H id1 off1 ws)(hr2:Row .u32 H id2 off2 os)(hN:n<2^40)(hk:k<n)(hx:ws[k]?=some x)(hy:os[k]?=some y)(hx':x<4294967296)(hy':y<4294967296)(hb:b<=1) :
  Q0 T H.length EV (MM H (.slice (some ⟨id1,off1,none⟩) n c1) (.slice (some ⟨id2,off2,none⟩) n c2) n b k [])=some (.normal,MM H (.slice (some ⟨id1,off1,none⟩) n c1) (.slice (some ⟨id2,off2,none⟩) n c2) n (Dn x y b) (k+1) []):=by
 obtain⟨o1,ho1,hc1⟩:=hr1
 obtain⟨o2,ho2,hc2⟩:=hr2
 have hxc:=hc1 k x hx
 have hyc:=hc2 k y hy
 have h1:((k:Int)<(n:Int)):=qr
 have hsub:=AM hx' hy' hb
 have e10:IntKind.i64.wrap ((k:Int)+1)=((k+1:Nat):Int):=ZB (n:=k+1) qr
 simp only[MM,EV,Qr,guardOf,Qz,opd,Xb,ZI,Zq,Env.get,Env.put,Jj,Q1,ZC,St.after,Env.keep,Ju,Jb,unV,ZU,Zt,packed,Ob.fresh,Jn,Z7,cS,reduceCtorEq,QQ,QK,QT,Zk,Ze,Zf,QJ,Zd,QS,h1,ho1,ho2,hxc,hyc,hsub,e10]
theorem sQ(hr1:Row .u32 H id1 off1 ws)(hr2:Row .u32 H id2 off2 os)(hn:ws.length=n)(hm:os.length=n)(hN:n<2^40)(hws:∀x∈ws,x<4294967296)(hos:∀x∈os,x<4294967296) :
  Z6 T 131 [.slice (some ⟨id1,off1,none⟩) n c1,.slice (some ⟨id2,off2,none⟩) n c2] H=some (.bool (decide (num 4294967296 ws<num 4294967296 os)),H,[]):=by
 obtain⟨s',hb,b,rfl,hinv⟩:=Zh (T:=T) (base:=H.length) (id:=0) (body:=EV)
  (fun k s=>∃b,s=MM H (.slice (some ⟨id1,off1,none⟩) n c1) (.slice (some ⟨id2,off2,none⟩) n c2) n b k []/\LessInv k ws os b)
  (Q:=fun s=>∃b,s=MM H (.slice (some ⟨id1,off1,none⟩) n c1) (.slice (some ⟨id2,off2,none⟩) n c2) n b n [(10,.bool false)]/\LessInv n ws os b)
  n (s:=MM H (.slice (some ⟨id1,off1,none⟩) n c1) (.slice (some ⟨id2,off2,none⟩) n c2) n 0 0 []) ⟨_,rfl,⟨by decide,0,by decide,by simp[num]⟩⟩
  (fun k s hk hs=>by
   obtain⟨b,rfl,hI⟩:=hs
   obtain⟨x,hx⟩:∃x,ws[k]?=some x:=⟨_,Qf qr⟩
   obtain⟨y,hy⟩:∃y,os[k]?=some y:=⟨_,Qf qr⟩
   have hx':=hws x (Qo hx)
   have hy':=hos y (Qo hy)
   exact⟨_,eY hr1 hr2 hN hk hx hy hx' hy' hI.ble,_,rfl,hI.step hx hy hx' hy'⟩)
  (fun s hs=>by
   obtain⟨b,rfl,hI⟩:=hs
   have h1:¬((n:Int)<(n:Int)):=qr
   refine⟨_,?_,b,rfl,hI⟩
   simp only[MM,EV,Qr,guardOf,Qz,opd,Xb,ZI,Zq,Env.get,Env.put,Jj,Q1,ZC,St.after,Env.keep,Ju,Jb,unV,ZU,Zt,packed,Ob.fresh,Jn,Z7,cS,reduceCtorEq,QQ,QK,QT,Zk,Ze,Zf,QJ,Zd,QS,h1])
 rw[show MM H (.slice (some ⟨id1,off1,none⟩) n c1) (.slice (some ⟨id2,off2,none⟩) n c2) n 0 0 []=⟨[(0,.slice (some ⟨id1,off1,none⟩) n c1),(1,.slice (some ⟨id2,off2,none⟩) n c2),(5,.int .u32 0),(8,.int .i64 n),(9,.int .i64 0)],H,[]⟩ from rfl]at hb
 obtain⟨z,hz,h2⟩:=hinv.eq
 rw[Qm qr,Qm qr]at h2
 have h3:=num_lt hws
 rw[hn]at h3
 have hble:=hinv.ble
 have hres:(((b:Nat):Int)==1)=decide (num 4294967296 ws<num 4294967296 os):=by
  rcases ZL 0 b with h|h
  ·have hb1:b=1:=qr
   subst hb1
   have:num 4294967296 ws<num 4294967296 os:=qr
   simp[this]
  ·have hb0:b=0:=qr
   subst hb0
   have:¬num 4294967296 ws<num 4294967296 os:=qr
   simp[this]
 rw[QY (fn:=a46) rfl]
 simp only[a46,Qr,guardOf,Qz,opd,Xb,ZI,Zq,Env.get,Env.put,Jj,Q1,ZC,St.after,Env.keep,Ju,Jb,unV,ZU,Zt,packed,Ob.fresh,Jn,Z7,cS,reduceCtorEq,QQ,QK,QT,Zk,Ze,Zf,QJ,Zd,QS,hb,MM,hres]
theorem LX(la:a.length=32)(xa:∀x∈a,x<256):∃l,Z6 T 65 [.agg (u8s a).toArray] []=some (.bool (decide (num 256 a<ell)),l,[]):=by
 obtain⟨H,hH⟩:∃H:List Ob,H=[{c:=u8s a}]:=⟨_,rfl⟩
 have ra:Row .u8 H 0 0 a:=by subst hH;exact⟨_,rfl,fun i x hx=>by rw[QL];exact Js hx⟩
 have h1:=Ix (c:=32) ra la ww xa
 have r1:=(U6 (H:=H) (ws:=dig 4294967296 8 (num 256 a))).app (l:=[Ob.fresh (Zc orderW)])
 have h2:=Cn (H++[Ob.fresh (Zc (dig 4294967296 8 (num 256 a)))])
 have r2:=U6 (H:=H++[Ob.fresh (Zc (dig 4294967296 8 (num 256 a)))]) (ws:=orderW)
 have h3:=sQ (c1:=8) (c2:=8) r1 r2 (Zg _ _ _) rfl ww UH MF
 rw[XJ ww,Qv (Ay la xa),cP]at h3
 change Z6 T 130 _ H=some (.slice H.length 8 8,H++[Ob.fresh (Zc (dig 4294967296 8 (num 256 a)))],[])at h1
 generalize hH5:H++[Ob.fresh (Zc (dig 4294967296 8 (num 256 a)))]=H5 at h1 h2 h3
 generalize hH6:H5++[Ob.fresh (Zc orderW)]=H6 at h2 h3
 refine⟨H6,?_⟩
 rw[QY (fn:=a21) rfl]
 simp only[a21,Qr,guardOf,Qz,opd,Xb,ZI,Zq,Env.get,Env.put,Jj,Q1,ZC,St.after,Env.keep,Ju,Jb,unV,ZU,Zt,packed,Ob.fresh,Jn,Z7,cS,reduceCtorEq,QQ,QK,QT,Zk,Ze,Zf,QJ,Zd,QS,<-hH,v9,h1,h2,h3]
def pZ(k:IntKind)(H:List Ob)(id off:Nat)(ps:List (List Nat)):Prop :=
 ∃o,liveAt H id=some o/\∀(i:Nat) (p:List Nat),ps[i]?=some p->∃v,o.c[off+i]?=some v/\Sl k H v p
def Lv(R s pv:Value)(n i:Nat)(H:List Ob)(ex:Env):St:=⟨[(2,R),(3,s),(6,pv),(7,.int .i64 n),(8,.int .i64 i)]++ex,H,[]⟩
theorem IB(h:ps[i]?=some p):(ps.take (i+1)).flatten=(ps.take i).flatten++p:=by
 rw[Zx,h];simp
theorem o6(h:ps[i]?=some p):(ps.take i).flatten.length+p.length<=ps.flatten.length:=by
 have h1:=congrArg List.length (IB h)
 rw[Qj]at h1
 rw[<-h1]
 conv=>rhs;rw[<-Zn (i+1) ps,List.flatten_append,Qj]
 omega
theorem kV{Hc:List Ob}{R:Value}{c:Nat}(hp:pZ .u8 H id off ps)(hi:i<n)(hN:n<2^40)(hpi:ps[i]?=some p)(hS:ps.flatten.length<=2^40)
 (hB:H.length+1<=Hc.length) (hc:∀j,j<H.length->Hc[j]?=H[j]?) (hg:Grown .u8 (H.length+1) Hc s ((ps.take i).flatten)) :
    ∃s' H',Q0 T H.length Fm (Lv R s (.slice (some ⟨id,off,none⟩) n c) n i Hc [])=some (.normal,Lv R s' (.slice (some ⟨id,off,none⟩) n c) n (i+1) H' []) /\
      H.length+1<=H'.length/\(∀j,j<H.length+1->H'[j]?=Hc[j]?)/\Grown .u8 (H.length+1) H' s' ((ps.take (i+1)).flatten):=by
  obtain⟨o,ho,hps⟩:=hp
  obtain⟨v,hv,hsl⟩:=hps i p hpi
  have ho':liveAt Hc id=some o:=by rw[Gc (hc _ (I2 ho))];exact ho
  have hsl':=hsl.congr hc
  have hlen:=o6 hpi
  obtain⟨s',H',M,ha,hg',hM,hL,hK⟩:=hg.append (bytes:=1) hB hsl'.lenV hsl'.elems qr ww
  have h1:((i:Int)<(n:Int)):=qr
  have e10:IntKind.i64.wrap ((i:Int)+1)=((i+1:Nat):Int):=ZB (n:=i+1) qr
  have hm:Q1 H.length [] M=[]:=QB fun j hj=>by have:=hM j hj;omega
  refine⟨s',H',?_,by omega,hK,by rw[IB hpi];exact hg'⟩
  simp only[Lv,Fm,Qr,guardOf,Qz,opd,Xb,ZI,Zq,Env.get,Env.put,Jj,Q1,ZC,St.after,Env.keep,Ju,Jb,unV,ZU,Zt,packed,Ob.fresh,Jn,Z7,cS,reduceCtorEq,QQ,QK,QT,Zk,Ze,Zf,QJ,Zd,QS,h1,ho',hv,e10,ha,hm]
theorem of_nil(H:List Ob):Z6 T 130 [.slice none 0 0] H=some (.slice H.length 0 0,H++[Ob.fresh []],[]):=by
 have hl:Q0 T H.length (.loop Mk) ⟨[(3,.slice H.length 0 0),(11,.slice none 0 0),(12,.int .i64 0),(13,.int .i64 0)],H++[{c:=[]}],[]⟩=some (.exit 0,⟨[(3,.slice H.length 0 0),(11,.slice none 0 0),(12,.int .i64 0),(13,.int .i64 0),(14,.bool false)],H++[{c:=[]}],[]⟩):=by
  rw[J6]
  simp only[Mk,Qr,guardOf,Qz,opd,Xb,ZI,Zq,Env.get,Env.put,Jj,Q1,ZC,St.after,Env.keep,Ju,Jb,unV,ZU,Zt,packed,Ob.fresh,Jn,Z7,cS,reduceCtorEq,QQ,QK,QT,Zk,Ze,Zf,QJ,Zd,QS,cL,Zf,Ze,D0,Dz,Dx,G8,Gz,Dy,QJ,R3,R4,UP,QQ,QT,QS,Dw,Dv,Du,Zd,U1]
 rw[QY (fn:=a40) rfl]
 simp only[a40,Qr,guardOf,Qz,opd,Xb,ZI,Zq,Env.get,Env.put,Jj,Q1,ZC,St.after,Env.keep,Ju,Jb,unV,ZU,Zt,packed,Ob.fresh,Jn,Z7,cS,reduceCtorEq,QQ,QK,QT,Zk,Ze,Zf,QJ,Zd,QS,cL,Zf,Ze,D0,Dz,Dx,G8,Gz,Dy,QJ,R3,R4,UP,QQ,QT,QS,Dw,Dv,Du,Zd,U1,List.replicate_zero,List.flatten_nil,hl]
theorem sJ(H:List Ob)(id:Nat):Z6 T 166 [.slice id 0 0] H=some (.slice H.length 8 8,H++[{c:=Zc (dig 4294967296 8 0)},{c:=Zc orderW},{c:=Zc (dig 4294967296 8 0)}],[]):=by
 have hz:(Qa 8 [Value.int .u32 0]).flatten=Zc (dig 4294967296 8 0):=rfl
 have ho:=Cn (H++[{c:=Zc (dig 4294967296 8 0)}])
 have hl:Q0 T H.length (.loop Y6) ⟨[(0,.slice id 0 0),(3,.slice H.length 8 8),(4,.slice (H.length+1:Nat) 8 8),(5,.slice (H.length+2:Nat) 8 8),(6,.int .i64 (-1))],H++[{c:=Zc (dig 4294967296 8 0)},{c:=Zc orderW},{c:=Zc (dig 4294967296 8 0)}],[]⟩=some (.exit 0,⟨[(0,.slice id 0 0),(3,.slice H.length 8 8),(4,.slice (H.length+1:Nat) 8 8),(5,.slice (H.length+2:Nat) 8 8),(6,.int .i64 (-1)),(19,.bool false)],H++[{c:=Zc (dig 4294967296 8 0)},{c:=Zc orderW},{c:=Zc (dig 4294967296 8 0)}],[]⟩):=by
  rw[J6]
  have e:((0:Int) <= -1)=False:=ww
  simp only[Y6,Qr,guardOf,Qz,opd,Xb,ZI,Zq,Env.get,Env.put,Jj,Q1,ZC,St.after,Env.keep,Ju,Jb,unV,ZU,Zt,packed,Ob.fresh,Jn,Z7,cS,reduceCtorEq,QQ,QK,QT,Zk,Ze,Zf,QJ,Zd,QS,cL,Zf,Ze,D0,Dz,Dx,G8,Gz,Dy,QJ,R3,R4,UP,QQ,QT,QS,Dw,Dv,Du,Zd,U1,e]
 rw[QY (fn:=a41) rfl]
 simp only[a41,Qr,guardOf,Qz,opd,Xb,ZI,Zq,Env.get,Env.put,Jj,Q1,ZC,St.after,Env.keep,Ju,Jb,unV,ZU,Zt,packed,Ob.fresh,Jn,Z7,cS,reduceCtorEq,QQ,QK,QT,Zk,Ze,Zf,QJ,Zd,QS,cL,Zf,Ze,D0,Dz,Dx,G8,Gz,Dy,QJ,R3,R4,UP,QQ,QT,QS,Dw,Dv,Du,Zd,U1,hz,ho,hl,Qj,Qt,Zb,Ob.fresh]
theorem dL(h:H[id]?=some (Ob.fresh (ns .u8 bs))):Row .u8 H id 0 bs :=
 ⟨_,Zz h rfl,fun i x hx=>by rw[QL];exact ZJ hx⟩
theorem dJ(h:H[id]?=some (Ob.grown 1 (ns .u8 bs))):Row .u8 H id 0 bs :=
 ⟨_,Zz h rfl,fun i x hx=>by rw[QL];exact ZJ hx⟩
theorem kU{B:Nat}(hg:Grown .u8 B H s bs)(hb:∀x∈bs,x<256)(hN:bs.length<2^40) :
  ∃v1 v2 l1 l2 l3,Z6 T 130 [s] H=some (v1,H++l1,[])/\Z6 T 166 [v1] (H++l1)=some (v2,H++l1++l2,[])/\Z6 T 167 [v2] (H++l1++l2)=some (.agg (u8s (dig 256 32 (num 256 bs%ell))).toArray,H++l1++l2++l3,[]):=by
 cases hg with
 |nil =>
  have h1:=of_nil H
  have h2:=sJ (H++[Ob.fresh []]) H.length
  have r:Row .u32 (H++[Ob.fresh []]++[{c:=Zc (dig 4294967296 8 0)},{c:=Zc orderW},{c:=Zc (dig 4294967296 8 0)}]) (H++[Ob.fresh []]).length 0 (dig 4294967296 8 0) :=
   ⟨_,B9,fun i x hx=>by rw[QL];exact Ko hx⟩
  obtain⟨l3,h3⟩:=Rd (cap:=8) r
  exact⟨_,_,_,_,l3,h1,h2,h3⟩
 |@own id _ g1 g2 g3 =>
  have h1:=Ix (c:=bs.length) (dJ g3) rfl hN hb
  have hlt:num 256 bs<4294967296^((bs.length+3)/4):=by
   refine QM (num_lt hb) ?_
   rw[show(4294967296:Nat)=256^4 from by decide,<-Je]
   exact Zo ww qr
  obtain⟨k,l2,h2,r2⟩:=ae (cap:=(bs.length+3)/4) (U6 (H:=H) (ws:=dig 4294967296 ((bs.length+3)/4) (num 256 bs))) (Zg _ _ _) qr qr UH
  rw[XJ ww,Qv hlt]at r2
  obtain⟨l3,h3⟩:=Rd (cap:=8) r2
  exact⟨_,_,_,l2,l3,h1,h2,h3⟩
 |@new id _ g1 g2 g3 =>
  have h1:=Ix (c:=bs.length) (dL g3) rfl hN hb
  have hlt:num 256 bs<4294967296^((bs.length+3)/4):=by
   refine QM (num_lt hb) ?_
   rw[show(4294967296:Nat)=256^4 from by decide,<-Je]
   exact Zo ww qr
  obtain⟨k,l2,h2,r2⟩:=ae (cap:=(bs.length+3)/4) (U6 (H:=H) (ws:=dig 4294967296 ((bs.length+3)/4) (num 256 bs))) (Zg _ _ _) qr qr UH
  rw[XJ ww,Qv hlt]at r2
  obtain⟨l3,h3⟩:=Rd (cap:=8) r2
  exact⟨_,_,_,l2,l3,h1,h2,h3⟩
theorem dV{c:Nat}(hp:pZ .u8 H id off ps)(hn:ps.length=n)(hN:n<2^40)(hS:ps.flatten.length<2^40)(hb:∀x∈ps.flatten,x<256) :
  ∃l,Z6 T 134 [.slice (some ⟨id,off,none⟩) n c] H=some (.agg (u8s (dig 256 32 (num 256 ps.flatten%ell))).toArray,H++l,[]):=by
 have hz:Qa 32 (Value.int .u8 0)=u8s (dig 256 32 0):=rfl
 obtain⟨s',hb1,s,Hc,rfl,hL,hK,hg⟩:=Zh (T:=T) (base:=H.length) (id:=0) (body:=Fm)
  (fun i st=>∃s Hc,st=Lv (.pointer H.length) s (.slice (some ⟨id,off,none⟩) n c) n i Hc []/\H.length+1<=Hc.length/\(∀j,j<H.length+1->Hc[j]?=(H++[{c:=u8s (dig 256 32 0)}])[j]?)/\Grown .u8 (H.length+1) Hc s ((ps.take i).flatten))
  (Q:=fun st=>∃s Hc,st=Lv (.pointer H.length) s (.slice (some ⟨id,off,none⟩) n c) n n Hc [(9,.bool false)]/\H.length+1<=Hc.length/\(∀j,j<H.length+1->Hc[j]?=(H++[{c:=u8s (dig 256 32 0)}])[j]?)/\Grown .u8 (H.length+1) Hc s ps.flatten)
  n (s:=Lv (.pointer H.length) (.slice none 0 0) (.slice (some ⟨id,off,none⟩) n c) n 0 (H++[{c:=u8s (dig 256 32 0)}]) []) ⟨_,_,rfl,by simp,fun _ _=>rfl,.nil⟩
  (fun i st hi hs=>by
   obtain⟨s,Hc,rfl,hL,hK,hg⟩:=hs
   obtain⟨p,hpi⟩:∃p,ps[i]?=some p:=⟨_,Qf qr⟩
   obtain⟨s2,H2,h1,h2,h3,h4⟩:=kV (R := .pointer H.length) (c:=c) hp hi hN hpi qr hL (fun j hj=>by rw[hK j qr,Qc hj]) hg
   exact⟨_,h1,s2,H2,rfl,h2,fun j hj=>by rw[h3 j hj,hK j hj],h4⟩)
  (fun st hs=>by
   obtain⟨s,Hc,rfl,hL,hK,hg⟩:=hs
   have h1:¬((n:Int)<(n:Int)):=qr
   rw[Qm qr]at hg
   refine⟨_,?_,s,Hc,rfl,hL,hK,hg⟩
   simp only[Lv,Fm,Qr,guardOf,Qz,opd,Xb,ZI,Zq,Env.get,Env.put,Jj,Q1,ZC,St.after,Env.keep,Ju,Jb,unV,ZU,Zt,packed,Ob.fresh,Jn,Z7,cS,reduceCtorEq,QQ,QK,QT,Zk,Ze,Zf,QJ,Zd,QS,h1])
 obtain⟨l0,hl0⟩:=XG (H:=H++[{c:=u8s (dig 256 32 0)}]) (H':=Hc) (by simpa using hL) (fun i hi=>hK i (by simpa using hi))
 obtain⟨v1,v2,l1,l2,l3,h1,h2,h3⟩:=kU hg hb hS
 generalize hR:dig 256 32 (num 256 ps.flatten%ell)=R at *
 have lR:(u8s R).length=32:=by rw[Qq,<-hR,Zg]
 have hst:storeAt (Hc++l1++l2++l3) ⟨H.length,0,none⟩ (u8s R)=some (H++{c:=u8s R}::(l0++l1++l2++l3)):=by
  have h8:=KP (H:=H) (r:=l0++l1++l2++l3) (cs:=u8s (dig 256 32 0)) (e:=true) (s:=1) (off:=0) (v:=u8s R) (by rw[lR,Qq,Zg];omega)
  rw[BX (by rw[lR,Qq,Zg])]at h8
  rw[hl0]
  simpa using h8
 generalize hH1:Hc++l1=H1 at h1 h2 h3 hst
 generalize hH2:H1++l2=H2 at h2 h3 hst
 generalize hH3:H2++l3=H3 at h3 hst
 have h9:((u8s R).drop 0).take 32=u8s R:=by rw[ZS,Qm qr]
 refine⟨{c:=u8s R}::(l0++l1++l2++l3),?_⟩
 rw[show Lv (.pointer H.length) (.slice none 0 0) (.slice (some ⟨id,off,none⟩) n c) n 0 (H++[{c:=u8s (dig 256 32 0)}]) []=⟨[(2,.pointer H.length),(3,.slice none 0 0),(6,.slice (some ⟨id,off,none⟩) n c),(7,.int .i64 n),(8,.int .i64 0)],H++[{c:=u8s (dig 256 32 0)}],[]⟩ from rfl]at hb1
 rw[QY (fn:=a17) rfl]
 simp only[a17,Qr,guardOf,Qz,opd,Xb,ZI,Zq,Env.get,Env.put,Jj,Q1,ZC,St.after,Env.keep,Ju,Jb,unV,ZU,Zt,packed,Ob.fresh,Jn,Z7,cS,reduceCtorEq,QQ,QK,QT,Zk,Ze,Zf,QJ,Zd,QS,cL,Zf,Ze,D0,Dz,Dx,G8,Gz,Dy,QJ,R3,R4,UP,QQ,QT,QS,Dw,Dv,Du,Zd,U1,hz,hb1,Lv,h1,h2,h3,lR,hst,B9,h9]
end Go.Ev.YtoipgdjfhahimaaGreat
namespace Go.Ev.YtoipgdjfhahimaaGreat
open Go Go.Ev
attribute [local congr] JE JW JD JX Jz
set_option maxRecDepth 100000
variable{H l:List Ob}{z r a y b r' xs ds:List Nat}{x n off c il ol cl m id q:Nat}{R:Value}{i:Int}{k:IntKind}
def mA(x y z:List Nat):List Nat:=dig 256 32 ((num 256 x*num 256 y+num 256 z)%ell)
def rd(x:List Nat):List Nat:=dig 256 32 (num 256 x%ell)
theorem wh(x:List Nat):dig 256 32 (num 256 x%ell)=rd x:=rfl
theorem wW{x:List Nat}:(mA x y z).length=32:=Zg _ _ _
theorem S6{x:List Nat}:(rd x).length=32:=Zg _ _ _
theorem mA_lt{x:List Nat}:∀t∈mA x y z,t<256:=fun _ h=>Vy ww h
theorem rd_lt{x:List Nat}:∀t∈rd x,t<256:=fun _ h=>Vy ww h
theorem oN:ell<=256^32:=ww
theorem TI(v:Nat):num 256 (dig 256 32 (v%ell))=v%ell:=by
 rw[XJ ww,Qv (QM (Q9 _ MX) oN)]
theorem wJ(x y z:List Nat):num 256 (mA x y z)=(num 256 x*num 256 y+num 256 z)%ell:=TI _
theorem eN{c:List Nat}(la:a.length=32)(lb:b.length=32)(lc:c.length=32)(xa:∀x∈a,x<256)(xb:∀x∈b,x<256)(xc:∀x∈c,x<256) :
  ∃l,Z6 T 103 [.agg (u8s a).toArray,.agg (u8s b).toArray,.agg (u8s c).toArray] []=some (.agg (u8s (mA a b c)).toArray,l,[]):=eO la lb lc xa xb xc
def D5:List Nat:=[237,211,245,92,26,99,18,88,214,156,247,162,222,249,222,20]
def ordL:List Nat:=dig 256 32 ell
theorem rQ:ordL=D5++Qa 15 0++[16]:=by decide +kernel
theorem MG:ordL.length=32:=Zg _ _ _
theorem bV:∀x∈ordL,x<256:=fun _ h=>Vy ww h
theorem Ol:num 256 ordL=ell:=by decide +kernel
theorem VX{B bytes:Nat}{s:Value}{bs:List Nat}(h:Grown k B H s bs)(hB:B<=H.length)(hb:(bs.length+1)*bytes<=2^47)(hb0:0<bytes) :
  ∃s' H' M,Jw 1 bytes (H++[{c:=[.int k (x:Nat)]}]) s (.slice H.length 1 1)=some (s',H',none,M)/\Grown k B H' s' (bs++[x])/\(∀i∈M,B<=i)/\B<=H'.length/\∀i,i<B->H'[i]?=H[i]? := by
 obtain⟨s',H',M,h1,h2,h3,h4,h5⟩:=(h.app (l':=[{c:=[.int k (x:Nat)]}])).append (bytes:=bytes) (x := .slice H.length 1 1) (new:=[x]) (by simp;omega) rfl (by simp[elemsOf,liveAt,ns]) hb hb0
 refine⟨s',H',M,h1,h2,h3,?_,fun i hi=>by rw[h5 i hi,Qc qr]⟩
 simp at h4
 omega
def oI(s:Value)(H:List Ob)(ex:Env):St:=⟨[(1,s)]++ex,H,[]⟩
theorem Co(H:List Ob):∃s l,Z6 T 148 [] H=some (s,H++l,[])/\Grown .i64 H.length (H++l) s ordL:=by
 have hf:fillL (Qa 16 (Value.int .i64 0)) [(0,1,.int .i64 237),(1,1,.int .i64 211),(2,1,.int .i64 245),(3,1,.int .i64 92),(4,1,.int .i64 26),(5,1,.int .i64 99),(6,1,.int .i64 18),(7,1,.int .i64 88),(8,1,.int .i64 214),(9,1,.int .i64 156),(10,1,.int .i64 247),(11,1,.int .i64 162),(12,1,.int .i64 222),(13,1,.int .i64 249),(14,1,.int .i64 222),(15,1,.int .i64 20)]=some (ns .i64 D5):=rfl
 have f0:fillL [Value.int .i64 0] [(0,1,.int .i64 0)]=some [.int .i64 0]:=rfl
 have f16:fillL [Value.int .i64 0] [(0,1,.int .i64 16)]=some [.int .i64 16]:=rfl
 obtain⟨st,hb,s,Hc,rfl,hg,hL,hK⟩:=Zh (T:=T) (base:=H.length) (id:=0) (body:=Nn)
  (fun j st=>∃s Hc,st=oI s Hc []/\Grown .i64 H.length Hc s (D5++Qa j 0)/\H.length<=Hc.length/\∀i,i<H.length->Hc[i]?=H[i]?)
  (Q:=fun st=>∃s Hc,st=oI s Hc [(5,.bool false)]/\Grown .i64 H.length Hc s (D5++Qa 15 0)/\H.length<=Hc.length/\∀i,i<H.length->Hc[i]?=H[i]?)
  15 (s:=oI (.slice H.length 16 16) (H++[{c:=ns .i64 D5}]) []) ⟨_,_,rfl,Grown.new (id:=H.length) (bs:=D5) (Qs _) ww (by simp[Ob.fresh]),by simp,fun i hi=>Qc hi⟩
  (fun j st hj hs=>by
   obtain⟨s,Hc,rfl,hg,hL,hK⟩:=hs
   have hl:=hg.len
   have e16:(D5++Qa j 0).length=16+j:=by simp[D5];omega
   rw[e16]at hl
   have h31:(((16+j:Nat):Int)<31):=qr
   obtain⟨s',H',M,h1,h2,h3,h4,h5⟩:=VX (x:=0) (bytes:=8) hg hL (by simp[D5];omega) ww
   have hm:Q1 H.length [] M=[]:=QB h3
   refine⟨oI s' H' [],?_,s',H',rfl,by rw[List.replicate_succ',<-Qt];exact h2,h4,fun i hi=>by rw[h5 i hi,hK i hi]⟩
   simp only[oI,Nn,Qr,quiet,cF,Jy,QZ,↓pQ,reduceCtorEq,seval,-Qb,cL,cJ,Zb,hl,h31,f0]
   simp only[QA]at h1
   simp only[h1,hm,Qr,quiet,cF,Jy,QZ,↓pQ,reduceCtorEq,seval,-Qb,cL])
  (fun st hs=>by
   obtain⟨s,Hc,rfl,hg,hL,hK⟩:=hs
   have hl:=hg.len
   refine⟨_,?_,s,Hc,rfl,hg,hL,hK⟩
   have e16:(D5++Qa 15 0).length=31:=rfl
   rw[e16]at hl
   simp only[oI,Nn,Qr,quiet,cF,Jy,QZ,↓pQ,reduceCtorEq,seval,-Qb,cL,cJ,Zb,hl])
 obtain⟨s',H',M,h1,h2,h3,h4,h5⟩:=VX (x:=16) (bytes:=8) hg hL ww ww
 have hm:Q1 H.length [] M=[]:=QB h3
 obtain⟨l,rfl⟩:=XG h4 (fun i hi=>by rw[h5 i hi,hK i hi])
 refine⟨s',l,?_,by rw[rQ];exact h2⟩
 rw[QY (fn:=a23) rfl]
 simp only[oI,Qn,Ql]at hb
 simp only[JP]at h1
 simp only[a23,Qr,quiet,cF,Jy,QZ,↓pQ,reduceCtorEq,seval,-Qb,cL,cJ,Zb,hf,hb,oI,f16,h1,hm]
theorem Mp(h:x<256):IntKind.u8.wrap (x:Int)=x:=Xj rfl h
theorem Iy(h:a[m]?=some x):num 256 a=num 256 (a.take m)+x*256^m+256^(m+1)*num 256 (a.drop (m+1)):=by
 have hm:m<a.length:=(Qg.1 h).1
 conv=>lhs;rw[<-Zn (m+1) a,Vj,Xa h]
 rw[Q3,Zw qr]
theorem TH(ha:∀x∈a,x<256)(hm:m<=a.length):num 256 (a.take m)<256^m:=by
 have:=num_lt (B:=256) (l:=a.take m) fun x hx=>ha x (QP hx)
 rwa[Q3,Zw hm]at this
theorem sR{x y:Nat}(hl:a.length=b.length)(ha:∀x∈a,x<256)(hb:∀x∈b,x<256)(hx:a[m]?=some x)(hy:b[m]?=some y)(hne:x≠y)(hd:a.drop (m+1)=b.drop (m+1)):(num 256 a<num 256 b)↔x<y:=by
 have hm:m<a.length:=(Qg.1 hx).1
 rw[Iy hx,Iy hy,hd]
 have h1:=TH (m:=m) ha qr
 have h2:=TH (m:=m) hb qr
 rcases ZL x y with h|h
 ·have:(x+1)*256^m<=y*256^m:=Z9 _ h
  rw[Zl,Xd]at this
  constructor<;>intro<;>omega
 ·have:(y+1)*256^m<=x*256^m:=Z9 _ qr
  rw[Zl,Xd]at this
  constructor<;>intro<;>omega
def rlI(sa sb:Value)(H:List Ob)(i:Int)(ex:Env):St:=⟨[(0,sa),(1,sb),(5,.int .i64 i)]++ex,H,[]⟩
theorem Mz{H:List Ob}{base:Nat}{ia oa ca ib ob cb n:Nat}{a b:List Nat}(hra:Row .i64 H ia oa a)(hrb:Row .i64 H ib ob b)(la:a.length=n)(lb:b.length=n)(hN:n<2^40)(ha:∀x∈a,x<256)(hb:∀x∈b,x<256) :
  ∀m,m<=n->a.drop m=b.drop m->Q0 T base (.loop EU) (rlI (.slice (some ⟨ia,oa,none⟩) n ca) (.slice (some ⟨ib,ob,none⟩) n cb) H ((m:Int)-1) []) =
   if a=b then some (.exit 0,rlI (.slice (some ⟨ia,oa,none⟩) n ca) (.slice (some ⟨ib,ob,none⟩) n cb) H (-1) [(10,.bool false)])else some (.ret,⟨[(4,.bool (decide (num 256 a<num 256 b)))],H,[]⟩)
 |0,_,hd=>by
  rw[ZS,ZS]at hd
  rw[if_pos hd,J6]
  have e:((0:Int) <= -1)=False:=ww
  simp only[rlI,EU,Qr,quiet,cF,Jy,QZ,↓pQ,reduceCtorEq,seval,-Qb,cL,Int.zero_sub,e]
 |m+1,hm,hd=>by
  obtain⟨x,hx⟩:∃x,a[m]?=some x:=⟨_,Qf qr⟩
  obtain⟨y,hy⟩:∃y,b[m]?=some y:=⟨_,Qf qr⟩
  obtain⟨o1,ho1,hc1⟩:=hra
  obtain⟨o2,ho2,hc2⟩:=hrb
  have c1:=hc1 m x hx
  have c2:=hc2 m y hy
  have e0:(((m+1:Nat):Int)-1)=(m:Int):=qr
  have e1:((0:Int)<=(m:Int))=True:=wf
  have e2:((m:Int)<(n:Int))=True:=wf
  have e3:IntKind.i64.wrap ((m:Int)-1)=(m:Int)-1:=QU qr qr
  rw[e0,J6]
  obtain⟨g1,v1⟩:(H[ia]?=some o1)/\o1.live=true:=by
   simp only[liveAt,Qd]at ho1
   obtain⟨o',g1,g2⟩:=ho1
   split at g2
   ·cases g2;exact⟨g1,by assumption⟩
   ·cases g2
  obtain⟨g2,v2⟩:(H[ib]?=some o2)/\o2.live=true:=by
   simp only[liveAt,Qd]at ho2
   obtain⟨o',g1,g2⟩:=ho2
   split at g2
   ·cases g2;exact⟨g1,by assumption⟩
   ·cases g2
  by_cases hxy:x=y
  ·subst hxy
   have hd':a.drop m=b.drop m:=by
    rw[ZE,hx,hd,<-hy,<-ZE]
   have ih:=Mz (base:=base) (ca:=ca) (cb:=cb) ⟨o1,ho1,hc1⟩ ⟨o2,ho2,hc2⟩ la lb hN ha hb m qr hd'
   rw[<-ih]
   simp only[rlI,EU,Qr,quiet,cF,Jy,QZ,↓pQ,reduceCtorEq,seval,-Qb,cL,e1,e2,e3,g1,g2,v1,v2,c1,c2]
  ·have hab:¬a=b:=fun h=>by subst h;rw[hx]at hy;cases hy;exact hxy rfl
   rw[if_neg hab]
   have hne:((x:Int) != (y:Int))=true:=by simp;omega
   have hlt:=sR qr ha hb hx hy hxy hd
   have hdec:decide ((x:Int)<(y:Int))=decide (num 256 a<num 256 b):=by
    by_cases h:x<y
    ·rw[decide_eq_true (hlt.2 h),decide_eq_true qr]
    ·rw[decide_eq_false (fun k=>h (hlt.1 k)),decide_eq_false qr]
   simp only[rlI,EU,Qr,quiet,cF,Jy,QZ,↓pQ,reduceCtorEq,seval,-Qb,cL,e1,e2,e3,g1,g2,v1,v2,c1,c2,hne,hdec]
theorem Cb{sa sb:Value}{a b:List Nat}(hra:Sl .i64 H sa a)(hrb:Sl .i64 H sb b)(la:a.length=n)(lb:b.length=n)(hn:0<n)(hN:n<2^40)(ha:∀x∈a,x<256)(hb:∀x∈b,x<256) :
  Z6 T 147 [sa,sb] H=some (.bool (decide (num 256 a<num 256 b)),H,[]):=by
 obtain⟨ia,oa,ca,rfl,ra⟩:=hra.row qr
 obtain⟨ib,ob,cb,rfl,rb⟩:=hrb.row qr
 rw[la,lb]
 have hl:=Mz (base:=H.length) (ca:=ca) (cb:=cb) ra rb la lb hN ha hb n (Qs n) (by rw[Zu qr,Zu qr])
 have e3:IntKind.i64.wrap ((n:Int)-1)=(n:Int)-1:=QU qr qr
 rw[QY (fn:=a48) rfl]
 simp only[rlI,Qn,Ql]at hl
 by_cases hab:a=b
 ·rw[if_pos hab]at hl
  subst hab
  have:decide (num 256 a<num 256 a)=false:=by simp
  simp only[a48,Qr,quiet,cF,Jy,QZ,↓pQ,reduceCtorEq,seval,-Qb,cL,e3,Jt,hl,this]
 ·rw[if_neg hab]at hl
  simp only[a48,Qr,quiet,cF,Jy,QZ,↓pQ,reduceCtorEq,seval,-Qb,cL,e3,Jt,hl]
def mH(H:List Ob)(z r:List Nat)(l:List Ob):List Ob:=H++{c:=u8s z}::{c:=ns .i64 r}::l
theorem np{H:List Ob}{v:Value}{k:IntKind}{id:Nat}(hv:v=.slice (some ⟨id,off,none⟩) n c)(hid:id≠H.length+1)(h:Sl k (mH H z r l) v xs):Sl k (mH H z r' l) v xs:=by
 subst hv
 cases h with
 |mk h1 h2 h3 =>
  refine .mk ?_ h2 h3
  rw[<-h1]
  apply Gc
  unfold mH
  by_cases hlt:id<H.length
  ·rw[Qc hlt,Qc hlt]
  ·rw[Qh qr,Qh qr]
   rcases hk:id-H.length with _|_|k
   ·rfl
   ·omega
   ·rfl
def mrs(H:List Ob):Value := .slice (H.length+1:Nat) 33 33
def l1I(R v0 sl:Value)(rs:Value)(i q b k x:Int)(h:List Ob)(ex:Env):St:=⟨[(0,v0),(2,R),(3,rs),(4,sl),(5,.int .i64 i),(7,.int .i64 q),(8,.int .i64 b),(9,.int .i64 k),(10,.int .i64 x)]++ex,h,[]⟩
theorem cf{base:Nat}{R v0 sl rs:Value}{i q k:Int}{h:List Ob}:∀(t:Nat) (b x:Int),t<2^40->0<=b->b+t<2^41->x+256*t<256->0<=x+256*t->(0<t->x<0) ->
  Q0 T base (.loop Nk) (l1I R v0 sl rs i q b k x h [])=some (.exit 8,l1I R v0 sl rs i q (b+t) k (x+256*t) h [(75,.bool false)])
 |0,b,x,_,_,_,h1,h2,_=>by
  have e:(x<0)=False:=wr
  rw[J6]
  simp only[l1I,Nk,Qr,quiet,cF,Jy,QZ,↓pQ,reduceCtorEq,seval,-Qb,cL,e,Int.mul_zero,Int.add_zero]
 |t+1,b,x,ht,hb0,hb,h1,h2,h3=>by
  have e:(x<0)=True:=eq_true (h3 qr)
  have ih:=cf (base:=base) (R:=R) (v0:=v0) (sl:=sl) (rs:=rs) (i:=i) (q:=q) (k:=k) (h:=h) t (b+1) (x+256) qr qr qr qr qr (fun h=>by omega)
  have w1:IntKind.i64.wrap (x+256)=x+256:=QU qr qr
  have w2:IntKind.i64.wrap (b+1)=b+1:=QU qr qr
  rw[J6]
  rw[show b+((t+1:Nat):Int)=b+1+(t:Int) by omega,show x+256*((t+1:Nat):Int)=x+256+256*(t:Int) by omega,<-ih]
  simp only[l1I,Nk,Qr,quiet,cF,Jy,QZ,↓pQ,reduceCtorEq,seval,-Qb,cL,e,w1,w2]
def ord33:List Nat:=ordL++[0]
theorem HO:ord33.length=33:=by simp[ord33,MG]
theorem Cp:∀x∈ord33,x<256:=by
 intro x hx
 simp only[ord33,QC,List.mem_singleton]at hx
 rcases hx with h|h
 ·exact bV x h
 ·omega
theorem Iq:num 256 ord33=ell:=by
 simp only[ord33,Vj,Ol,num];omega
structure SubInv(k q:Nat)(r0 r:List Nat)(b:Nat):Prop where
 len:r.length=33
 lt:∀x∈r,x<256
 ble:b<=q+1
 eq:num 256 (r0.take k)+b*256^k=num 256 (r.take k)+q*num 256 (ord33.take k)
 rest:r.drop k=r0.drop k
def nx(y q l b:Nat):Nat:=((y:Int)-q*l-b).toNat
def nb(y q l b:Nat):Nat:=(q*l+b-y+255)/256
theorem SubInv.step{k q b y l:Nat}{r0 r:List Nat}(h:SubInv k q r0 r b)(hk:k<33)(hy:r[k]?=some y)(hl:ord33[k]?=some l):SubInv (k+1) q r0 (r.set k (y+256*nb y q l b-(q*l+b))) (nb y q l b)/\y+256*nb y q l b-(q*l+b)<256/\q*l+b<=y+256*nb y q l b:=by
 have hy':=h.lt y (Qo hy)
 have hl':=Cp l (Qo hl)
 have hb:=h.ble
 have hlen:=h.len
 have hnb:y+256*nb y q l b-(q*l+b)<256/\q*l+b<=y+256*nb y q l b:=by unfold nb;omega
 have hql:q*l<=q*255:=XR q qr
 have hnb2:nb y q l b<=q+1:=by unfold nb;omega
 have hy0:r0[k]?=some y:=by
  have h1:(r.drop k)[0]?=(r0.drop k)[0]? := by rw[h.rest]
  rwa[Zp,Zp,Jl,hy,eq_comm]at h1
 refine⟨⟨by rw[Q4];exact hlen,VH h.lt hnb.1,hnb2,?_,?_⟩,hnb⟩
 ·generalize nb y q l b=c at *
  obtain⟨d,hd⟩:∃d,y+256*c=q*l+b+d:=⟨y+256*c-(q*l+b),by omega⟩
  have hset:(r.set k d).take (k+1)=r.take k++[d]:=by
   rw[Zx,Qw qr,List.take_set_of_le (Qs k)];rfl
  rw[show y+256*c-(q*l+b)=d by omega,hset,Xa hy0,Xa hl,Vj]
  have hln:(r.take k).length=k:=by rw[Q3];omega
  rw[hln]
  have he:=h.eq
  simp only[num,Nat.mul_zero,Jl]
  have e1:c*256^(k+1)=(256*c)*256^k:=by rw[Zj];simp only[ZD,JM,Zm]
  have e2:(y+256*c)*256^k=(q*l+b+d)*256^k:=by rw[hd]
  rw[Zl,Zl,Zl]at e2
  rw[e1,YE,<-ZD,Zm (256^k) d]
  omega
 ·rw[List.drop_set_of_lt qr]
  have h1:(r.drop k).drop 1=(r0.drop k).drop 1:=by rw[h.rest]
  rwa[XQ,XQ]at h1
def l2I(R v0 sl rs:Value)(i q b k:Int)(h:List Ob)(ex:Env):St:=⟨[(0,v0),(2,R),(3,rs),(4,sl),(5,.int .i64 i),(7,.int .i64 q),(8,.int .i64 b),(9,.int .i64 k)]++ex,h,[]⟩
theorem C0(h:Sl k H (.slice (some ⟨id,off,none⟩) n c) xs):∃o,H[id]?=some o/\o.live=true/\n=xs.length/\∀(i x:Nat),xs[i]?=some x->o.c[off+i]?=some (.int k (x:Nat)):=by
 cases h with
 |mk h1 h2 h3 =>
  simp only[liveAt,Qd]at h1
  obtain⟨o',g1,g2⟩:=h1
  split at g2
  ·cases g2;exact⟨_,g1,by assumption,rfl,h3⟩
  ·cases g2
theorem sU{v0:Value}{r0:List Nat}{b k y lk:Nat}(hsl:∀r,Sl .i64 (mH H z r l) (.slice (some ⟨il,ol,none⟩) 33 cl) ord33)(hI:SubInv k q r0 r b)(hk:k<33)(hq:q<2^20)(hy:r[k]?=some y)(hl:ord33[k]?=some lk) :
  Q0 T H.length Mj (l2I R v0 (.slice (some ⟨il,ol,none⟩) 33 cl) (mrs H) i q b k (mH H z r l) []) =
   some (.normal,l2I R v0 (.slice (some ⟨il,ol,none⟩) 33 cl) (mrs H) i q (nb y q lk b:Nat) ((k+1:Nat):Int) (mH H z (r.set k (y+256*nb y q lk b-(q*lk+b))) l) []):=by
 obtain⟨hS,hlt,hle⟩:=hI.step hk hy hl
 have hy':=hI.lt y (Qo hy)
 have hl':=Cp lk (Qo hl)
 have hb:=hI.ble
 have hlen:=hI.len
 have hql:q*lk<=q*255:=XR q qr
 have hnb2:=hS.ble
 obtain⟨o,ho,hv,-,hc⟩:=C0 (hsl r)
 have hcl:=hc k lk hl
 have hyc:=ZJ (k := .i64) hy
 have k1:((k:Int)<33)=True:=wf
 have k2:((k:Int)<((33:Nat):Int))=True:=wf
 have w1:IntKind.i64.wrap ((q:Int)*(lk:Int))=((q*lk:Nat):Int):=by rw[<-Int.natCast_mul];exact ZB qr
 have w2:IntKind.i64.wrap ((y:Int)-((q*lk:Nat):Int))=(y:Int)-((q*lk:Nat):Int):=QU qr qr
 have w3:IntKind.i64.wrap ((y:Int)-((q*lk:Nat):Int)-(b:Int))=(y:Int)-((q*lk:Nat):Int)-(b:Int):=QU qr qr
 have w4:IntKind.i64.wrap ((k:Int)+1)=((k+1:Nat):Int):=ZB (n:=k+1) qr
 have hloop:=cf (base:=H.length) (R:=R) (v0:=v0) (sl := .slice (some ⟨il,ol,none⟩) 33 cl) (rs:=mrs H) (i:=i) (q:=q) (k:=k) (h:=mH H z r l) (nb y q lk b) 0 ((y:Int)-((q*lk:Nat):Int)-(b:Int)) qr qr qr qr qr (fun h=>by unfold nb at h;omega)
 rw[show(0:Int)+(nb y q lk b:Nat)=(nb y q lk b:Nat) by omega,show(y:Int)-((q*lk:Nat):Int)-(b:Int)+256*(nb y q lk b:Nat)=((y+256*nb y q lk b-(q*lk+b):Nat):Int) by omega]at hloop
 have hset:=Xt .i64 r k (y+256*nb y q lk b-(q*lk+b))
 have hst:k+1<=33:=qr
 generalize nb y q lk b=c at *
 generalize y+256*c-(q*lk+b)=d at *
 simp only[l1I,l2I,mH,mrs,Qn,Ql]at hloop ho ⊢
 simp only[Mj,Qr,quiet,cF,Jy,QZ,↓pQ,reduceCtorEq,seval,-Qb,cL,cJ,Zb,k1,k2,hyc,ho,hv,hcl,w1,w2,w3,w4,Jt,hloop,Q8,hlen,hst,hset]
theorem nG{v0:Value}(hsl:∀r,Sl .i64 (mH H z r l) (.slice (some ⟨il,ol,none⟩) 33 cl) ord33)(hq:q<2^20)(hlen:r.length=33)(hlt:∀x∈r,x<256)(hle:q*ell<=num 256 r) :
  ∃b r',Q0 T H.length (.block 6 (.loop Mj)) (l2I R v0 (.slice (some ⟨il,ol,none⟩) 33 cl) (mrs H) i q 0 0 (mH H z r l) [])=some (.normal,l2I R v0 (.slice (some ⟨il,ol,none⟩) 33 cl) (mrs H) i q b 33 (mH H z r' l) [(58,.bool false)]) /\
   r'.length=33/\(∀x∈r',x<256)/\num 256 r'=num 256 r-q*ell:=by
 obtain⟨st,h1,b,r',rfl,hI⟩:=Zh (T:=T) (base:=H.length) (id:=6) (body:=Mj)
  (fun k st=>∃(b:Nat) (r':List Nat),st=l2I R v0 (.slice (some ⟨il,ol,none⟩) 33 cl) (mrs H) i q b k (mH H z r' l) []/\SubInv k q r r' b)
  (Q:=fun st=>∃(b:Nat) (r':List Nat),st=l2I R v0 (.slice (some ⟨il,ol,none⟩) 33 cl) (mrs H) i q b 33 (mH H z r' l) [(58,.bool false)]/\SubInv 33 q r r' b)
  33 (s:=l2I R v0 (.slice (some ⟨il,ol,none⟩) 33 cl) (mrs H) i q 0 0 (mH H z r l) []) ⟨0,r,rfl,⟨hlen,hlt,by omega,by simp[num],rfl⟩⟩
  (fun k st hk hs=>by
   obtain⟨b,r',rfl,hI⟩:=hs
   obtain⟨y,hy⟩:∃y,r'[k]?=some y:=⟨_,Qf (by rw[hI.len];omega)⟩
   obtain⟨lk,hl⟩:∃y,ord33[k]?=some y:=⟨_,Qf (by rw[HO];omega)⟩
   exact⟨_,sU hsl hI hk hq hy hl,_,_,rfl,(hI.step hk hy hl).1⟩)
  (fun st hs=>by
   obtain⟨b,r',rfl,hI⟩:=hs
   refine⟨_,?_,b,r',rfl,hI⟩
   simp only[l2I,Mj,Qr,quiet,cF,Jy,QZ,↓pQ,reduceCtorEq,seval,-Qb,cL])
 refine⟨b,r',h1,hI.len,hI.lt,?_⟩
 have he:=hI.eq
 rw[Qm qr,Qm (by rw[hI.len];omega),Qm (by rw[HO];omega),Iq]at he
 have h2:=num_lt hI.lt
 rw[hI.len]at h2
 rcases Jo b with hb|hb
 ·subst hb;omega
 ·have:1*256^33<=b*256^33:=Z9 _ hb
  omega
theorem wk{y:Nat}(hlen:r.length=33)(hx:r[32]?=some x)(hy:r[31]?=some y):(x*256+y)/17*ell<=num 256 r:=by
 have h1:ell<=17*256^31:=ww
 have h2:(x*256+y)/17*ell<=(x*256+y)/17*(17*256^31):=XR _ h1
 rw[<-ZD]at h2
 have h3:(x*256+y)/17*17*256^31<=(x*256+y)*256^31:=Z9 _ (Nat.div_mul_le_self _ _)
 have h4:num 256 r=num 256 (r.take 31)+y*256^31+x*256^32:=by
  have h5:=Xa (B:=256) hx
  rw[Qm qr,Xa hy]at h5
  exact h5
 rw[h4]
 have h6:(x*256+y)*256^31=x*256^32+y*256^31:=by rw[Zl,ZD,<-Nat.pow_succ']
 omega
def l3I(R v0 sl rs:Value)(i:Int)(h:List Ob)(ex:Env):St:=⟨[(0,v0),(2,R),(3,rs),(4,sl),(5,.int .i64 i)]++ex,h,[]⟩
theorem rs_sl(hlen:r.length=33):Sl .i64 (mH H z r l) (mrs H) r:=by
 have:=Sl.mk (k := .i64) (H:=mH H z r l) (id:=H.length+1) (off:=0) (c:=33) (o:={c:=ns .i64 r}) (l:=r) (by simp[mH,liveAt]) (by simp[Q8]) (fun i x hx=>by rw[QL];exact ZJ hx)
 rwa[hlen]at this
theorem sT{v0:Value}(hsl:∀r,Sl .i64 (mH H z r l) (.slice (some ⟨il,ol,none⟩) 33 cl) ord33) :
  ∀(N:Nat) (r:List Nat) (ex:Env),num 256 r=N->r.length=33->(∀x∈r,x<256)->∃r' ex',Q0 T H.length (.loop Mi) (l3I R v0 (.slice (some ⟨il,ol,none⟩) 33 cl) (mrs H) i (mH H z r l) ex)=some (.exit 4,l3I R v0 (.slice (some ⟨il,ol,none⟩) 33 cl) (mrs H) i (mH H z r' l) ex') /\
   r'.length=33/\(∀x∈r',x<256)/\num 256 r'=num 256 r%ell:=by
 intro N
 induction N using Nat.strongRecOn with
 |_ N ih =>
  intro r ex hN hlen hlt
  have hless:=Cb (rs_sl (H:=H) (z:=z) (l:=l) hlen) (hsl r) hlen HO ww ww hlt Cp
  rw[Iq]at hless
  by_cases hc:num 256 r<ell
  ·rw[decide_eq_true hc]at hless
   refine⟨r,[(45,.bool false)],?_,hlen,hlt,(Qv hc).symm⟩
   rw[J6]
   simp only[l3I,Mi,Qr,quiet,cF,Jy,QZ,↓pQ,reduceCtorEq,seval,-Qb,cL,hless]
  ·rw[decide_eq_false hc]at hless
   obtain⟨x,hx⟩:∃y,r[32]?=some y:=⟨_,Qf qr⟩
   obtain⟨y,hy⟩:∃y,r[31]?=some y:=⟨_,Qf qr⟩
   have hx':=hlt x (Qo hx)
   have hy':=hlt y (Qo hy)
   have hxc:=ZJ (k := .i64) hx
   have hyc:=ZJ (k := .i64) hy
   have w1:IntKind.i64.wrap ((x:Int)*256)=((x*256:Nat):Int):=by rw[show((x:Int)*256)=((x*256:Nat):Int) by omega];exact ZB qr
   have w2:IntKind.i64.wrap (((x*256:Nat):Int)+(y:Int))=((x*256+y:Nat):Int):=by rw[<-Int.natCast_add];exact ZB qr
   have w3:IntKind.i64.wrap (((x*256+y:Nat):Int).tdiv 17)=(((x*256+y)/17:Nat):Int):=by
    rw[show((x*256+y:Nat):Int).tdiv 17=(((x*256+y)/17:Nat):Int) from rfl];exact ZB qr
   have hq:=wk hlen hx hy
   have key:∀q:Nat,0<q->q<2^20->q*ell<=num 256 r ->
     (∀st,Q0 T H.length (.block 6 (.loop Mj)) (l2I R v0 (.slice (some ⟨il,ol,none⟩) 33 cl) (mrs H) i q 0 0 (mH H z r l) [])=some (.normal,st)->Q0 T H.length Mi (l3I R v0 (.slice (some ⟨il,ol,none⟩) 33 cl) (mrs H) i (mH H z r l) ex)=some (.normal,st)) ->
     ∃r' ex',Q0 T H.length (.loop Mi) (l3I R v0 (.slice (some ⟨il,ol,none⟩) 33 cl) (mrs H) i (mH H z r l) ex)=some (.exit 4,l3I R v0 (.slice (some ⟨il,ol,none⟩) 33 cl) (mrs H) i (mH H z r' l) ex')/\r'.length=33/\(∀x∈r',x<256)/\num 256 r'=num 256 r%ell:=by
    intro q hq0 hq1 hq2 hbody
    obtain⟨b,r1,h1,h2,h3,h4⟩:=nG (R:=R) (v0:=v0) (i:=i) hsl hq1 hlen hlt hq2
    have hpos:ell<=q*ell:=Nat.le_mul_of_pos_left ell hq0
    have hell:=MX
    obtain⟨r',ex',g1,g2,g3,g4⟩:=ih (num 256 r1) qr r1 [(7,.int .i64 q),(8,.int .i64 b),(9,.int .i64 33),(58,.bool false)] rfl h2 h3
    refine⟨r',ex',?_,g2,g3,?_⟩
    ·rw[J6,hbody _ h1]
     exact g1
    ·rw[g4,h4]
     conv=>rhs;rw[show num 256 r=(num 256 r-q*ell)+q*ell by omega]
     rw[Nat.add_mul_mod_self_right]
   have hl33:r.length=33:=hlen
   by_cases hq0:(x*256+y)/17<1
   ·have e1:((((x*256+y)/17:Nat):Int)<1)=True:=wf
    refine key 1 ww ww qr fun st hst =>?_
    simp only[l2I,mrs,mH,Qn,Ql,Vd]at hst
    simp only[mrs,mH]at hless
    simp only[l3I,mrs,mH,Mi,Qr,quiet,cF,Jy,QZ,↓pQ,reduceCtorEq,seval,-Qb,cL,cJ,Zb,hless,hxc,hyc,w1,w2,w3,e1,hst]
   ·have e1:((((x*256+y)/17:Nat):Int)<1)=False:=wr
    refine key ((x*256+y)/17) qr qr hq fun st hst =>?_
    simp only[l2I,mrs,mH,Qn,Ql]at hst
    simp only[mrs,mH]at hless
    generalize(x*256+y)/17=qq at *
    simp only[l3I,mrs,mH,Mi,Qr,quiet,cF,Jy,QZ,↓pQ,reduceCtorEq,seval,-Qb,cL,cJ,Zb,hless,hxc,hyc,w1,w2,w3,e1,hst]
def l4I(R v0 sl rs:Value)(i k:Int)(h:List Ob)(ex:Env):St:=⟨[(0,v0),(2,R),(3,rs),(4,sl),(5,.int .i64 i),(6,.int .i64 k)]++ex,h,[]⟩
theorem nF{v0 sl:Value}(hlen:r.length=33) :
  ∃r',Q0 T H.length (.block 2 (.loop Fb)) (l4I R v0 sl (mrs H) i 32 (mH H z r l) [])=some (.normal,l4I R v0 sl (mrs H) i 0 (mH H z r' l) [(25,.bool false)])/\r'.length=33/\∀t,t<32->r'[t+1]?=r[t]? := by
 obtain⟨st,h1,r',rfl,h2,h3⟩:=Zh (T:=T) (base:=H.length) (id:=2) (body:=Fb)
  (fun j st=>∃r':List Nat,st=l4I R v0 sl (mrs H) i ((32-j:Nat):Int) (mH H z r' l) []/\r'.length=33/\(∀t,t<=32-j->r'[t]?=r[t]?)/\∀t,32-j<=t->t<32->r'[t+1]?=r[t]?)
  (Q:=fun st=>∃r':List Nat,st=l4I R v0 sl (mrs H) i 0 (mH H z r' l) [(25,.bool false)]/\r'.length=33/\∀t,t<32->r'[t+1]?=r[t]?)
  32 (s:=l4I R v0 sl (mrs H) i 32 (mH H z r l) []) ⟨r,rfl,hlen,fun _ _=>rfl,fun t h1 h2=>by omega⟩
  (fun j st hj hs=>by
   obtain⟨r',rfl,h2,h3,h4⟩:=hs
   obtain⟨m,hm⟩:∃m,32-j=m+1:=⟨31-j,by omega⟩
   have hm':32-(j+1)=m:=qr
   rw[hm]at h3 h4
   rw[hm,hm']
   obtain⟨y,hy⟩:∃y,r[m]?=some y:=⟨_,Qf qr⟩
   have hy':r'[m]?=some y:=by rw[h3 m qr];exact hy
   have hyc:=ZJ (k := .i64) hy'
   refine⟨_,?_,r'.set (m+1) y,rfl,by rw[Q4];exact h2,fun t ht=>by rw[Qu qr];exact h3 t qr,fun t h5 h6 =>?_⟩
   ·have e1:((0:Int)<((m+1:Nat):Int))=True:=wf
    have e2:((m:Int)<(33:Int))=True:=wf
    have e3:(((m+1:Nat):Int)<(33:Int))=True:=wf
    have w1:IntKind.i64.wrap (((m+1:Nat):Int)-1)=(m:Int):=by rw[show((m+1:Nat):Int)-1=(m:Int) by omega];exact ZB qr
    have e5:m+1+1<=33:=qr
    have hset:=Xt .i64 r' (m+1) y
    generalize hk:((m+1:Nat):Int)=k1 at *
    have hkn:k1.toNat=m+1:=qr
    have e4:((0:Int)<=k1)=True:=wf
    simp only[l4I,mH,mrs,Fb,Qr,quiet,cF,Jy,QZ,↓pQ,reduceCtorEq,seval,-Qb,cL,cJ,Zb,e1,e2,e3,e4,w1,hyc,hkn,Q8,h2,e5,hset]
   ·by_cases ht:t=m
    ·subst ht
     rw[Qw qr,hy]
    ·rw[Qu qr]
     exact h4 t qr h6)
  (fun st hs=>by
   obtain⟨r',rfl,h2,h3,h4⟩:=hs
   refine⟨_,?_,r',rfl,h2,fun t ht=>h4 t qr ht⟩
   simp only[l4I,Fb,Qr,quiet,cF,Jy,QZ,↓pQ,reduceCtorEq,seval,-Qb,cL,Q7])
 exact⟨r',h1,h2,h3⟩
theorem qH(h:r.length=33)(h2:r'.length=33)(h3:∀t,t<32->r'[t+1]?=r[t]?):r'.set 0 x=x::r.take 32:=by
 apply ZW
 intro t
 rcases t with _|t
 ·rw[Qw qr];rfl
 ·rw[Qu qr,JU,QW]
  by_cases ht:t<32
  ·rw[if_pos ht,h3 t ht]
  ·rw[if_neg ht,QI qr]
theorem vt{V:Nat}(hlen:r.length=33)(hlt:∀x∈r,x<256)(hn:num 256 r=V%ell):r[32]?=some 0/\r.take 32=dig 256 32 (V%ell):=by
 have h1:V%ell<256^32:=QM (Q9 _ MX) oN
 obtain⟨x,hx⟩:∃y,r[32]?=some y:=⟨_,Qf qr⟩
 have h5:=Xa (B:=256) hx
 rw[Qm qr,hn]at h5
 have hx0:x=0:=by
  rcases Jo x with h|h
  ·exact h
  ·have:1*256^32<=x*256^32:=Z9 _ h
   omega
 subst hx0
 refine⟨hx,?_⟩
 rw[Vm,Jl]at h5
 have h6:(r.take 32).length=32:=by rw[Q3];omega
 have h7:=WD (B:=256) ww (l:=r.take 32) fun y hy=>hlt y (QP hy)
 rw[h6]at h7
 rw[h5]
 exact h7.symm
theorem sS{i:Nat}(hsl:∀r,Sl .i64 (mH H z r l) (.slice (some ⟨il,ol,none⟩) 33 cl) ord33)(hsd:∀r,Sl .i64 (mH H z r l) (.slice (some ⟨id,off,none⟩) n c) ds)
 (hN:n<2^40) (hi:ds[i]?=some x) (hx:x<256) (hlen:r.length=33) (hlt:∀x∈r,x<256) (hn:num 256 r=num 256 (ds.drop (i+1))%ell) :
    ∃r',Q0 T H.length Fa (l3I R (.slice (some ⟨id,off,none⟩) n c) (.slice (some ⟨il,ol,none⟩) 33 cl) (mrs H) i (mH H z r l) [])=some (.normal,l3I R (.slice (some ⟨id,off,none⟩) n c) (.slice (some ⟨il,ol,none⟩) 33 cl) (mrs H) ((i:Int)-1) (mH H z r' l) []) /\
      r'.length=33/\(∀x∈r',x<256)/\num 256 r'=num 256 (ds.drop i)%ell:=by
  obtain⟨r1,h1,g1,g2⟩:=nF (H:=H) (R:=R) (v0 := .slice (some ⟨id,off,none⟩) n c) (sl := .slice (some ⟨il,ol,none⟩) 33 cl) (z:=z) (l:=l) (i:=i) hlen
  have hsh:=qH (x:=x) hlen g1 g2
  have hr2len:(x::r.take 32).length=33:=by rw[Zv,Q3];omega
  have hr2lt:∀y∈x::r.take 32,y<256:=by
    intro y hy
    rcases List.mem_cons.1 hy with h|h
    · omega
    · exact hlt y (QP h)
  obtain⟨r',ex',h3,k1,k2,k3⟩:=sT (H:=H) (R:=R) (v0 := .slice (some ⟨id,off,none⟩) n c) (i:=i) hsl _ (x::r.take 32) [] rfl hr2len hr2lt
  refine⟨r',?_,k1,k2,?_⟩
  · obtain⟨o,ho,hv,hnl,hc⟩:=C0 (hsd r1)
    have hin:i<n:=by rw[hnl];exact(Qg.1 hi).1
    have hcx:=hc i x hi
    have e1:((0:Int)<=(i:Int))=True:=wf
    have e2:((i:Int)<(n:Int))=True:=wf
    have w1:IntKind.i64.wrap ((i:Int)-1)=(i:Int)-1:=QU qr qr
    have hset:=Xt .i64 r1 0 x
    rw[hsh]at hset
    simp only[l4I,l3I,mH,mrs,Qn,Ql]at h1 h3 ho ⊢
    simp only[Fa,Qr,quiet,cF,Jy,QZ,↓pQ,reduceCtorEq,seval,-Qb,cL,cJ,Zb,e1,e2,w1,h1,ho,hv,hcx,hset,Q8,g1,Jt,h3]
  · obtain⟨h32,ht⟩:=vt hlen hlt hn
    have hd:ds.drop i=x::ds.drop (i+1):=by
      have:=(Qg.1 hi)
      rw[List.drop_eq_getElem_cons this.1,this.2]
    rw[k3,hd,num,num,ht,TI]
    rw[Ap,YD,Kl,<-YD,<-Ap]
def l0I(R:Value)(rs out:Value)(i:Int)(h:List Ob)(ex:Env):St:=⟨[(2,R),(3,rs),(11,out),(12,.int .i64 i)]++ex,h,[]⟩
theorem nH(hlen:r.length=33)(hlt:∀x∈r,x<256) :
  Q0 T H.length (.block 10 (.loop Fc)) (l0I R (mrs H) (.pointer (H.length+(l.length+2):Nat)) 0 (mH H z r (l++[{c:=u8s (dig 256 32 0)}])) []) =
   some (.normal,l0I R (mrs H) (.pointer (H.length+(l.length+2):Nat)) 32 (mH H z r (l++[{c:=u8s (r.take 32)}])) [(86,.bool false)]):=by
 obtain⟨st,h1,k,rfl,h2,h3⟩:=Zh (T:=T) (base:=H.length) (id:=10) (body:=Fc)
  (fun i st=>∃k:List Nat,st=l0I R (mrs H) (.pointer (H.length+(l.length+2):Nat)) i (mH H z r (l++[{c:=u8s k}])) []/\k.length=32/\∀t,t<i->k[t]?=r[t]?)
  (Q:=fun st=>∃k:List Nat,st=l0I R (mrs H) (.pointer (H.length+(l.length+2):Nat)) 32 (mH H z r (l++[{c:=u8s k}])) [(86,.bool false)]/\k.length=32/\∀t,t<32->k[t]?=r[t]?)
  32 (s:=l0I R (mrs H) (.pointer (H.length+(l.length+2):Nat)) 0 (mH H z r (l++[{c:=u8s (dig 256 32 0)}])) []) ⟨_,rfl,Zg _ _ _,fun t ht=>by omega⟩
  (fun i st hi hs=>by
   obtain⟨k,rfl,h2,h3⟩:=hs
   obtain⟨x,hx⟩:∃y,r[i]?=some y:=⟨_,Qf qr⟩
   have hx':=hlt x (Qo hx)
   have hxc:=ZJ (k := .i64) hx
   have e1:((i:Int)<32)=True:=wf
   have e2:((i:Int)<(33:Int))=True:=wf
   have e3:((i:Int)<(32:Int))=True:=wf
   have w1:IntKind.i64.wrap ((i:Int)+1)=((i+1:Nat):Int):=ZB (n:=i+1) qr
   have w2:=Mp hx'
   have e5:i+1<=32:=qr
   have hset:=Xc k i x
   refine⟨_,?_,k.set i x,rfl,by rw[Q4];exact h2,fun t ht =>?_⟩
   ·simp only[l0I,mH,mrs,Fc,Qr,quiet,cF,Jy,QZ,↓pQ,reduceCtorEq,seval,-Qb,cL,cJ,Zb,e1,e2,e3,w1,w2,hxc,Qq,h2,e5,hset]
   ·by_cases hti:t=i
    ·subst hti
     rw[Qw qr,hx]
    ·rw[Qu qr]
     exact h3 t qr)
  (fun st hs=>by
   obtain⟨k,rfl,h2,h3⟩:=hs
   refine⟨_,?_,k,rfl,h2,h3⟩
   simp only[l0I,Fc,Qr,quiet,cF,Jy,QZ,↓pQ,reduceCtorEq,seval,-Qb,cL])
 have hk:k=r.take 32:=by
  apply ZW
  intro t
  rw[QW]
  by_cases ht:t<32
  ·rw[if_pos ht,h3 t ht]
  ·rw[if_neg ht,QI qr]
 rw[<-hk]
 exact h1
theorem dU(hsd:Sl .i64 H (.slice (some ⟨id,off,none⟩) n c) ds)(hN:n<2^40)(hlt:∀x∈ds,x<256) :
  ∃l,Z6 T 196 [.slice (some ⟨id,off,none⟩) n c] H=some (.agg (u8s (dig 256 32 (num 256 ds%ell))).toArray,H++l,[]):=by
 have hz:Qa 32 (Value.int .u8 0)=u8s (dig 256 32 0):=rfl
 have hz33:(Qa 33 [Value.int .i64 0]).flatten=ns .i64 (Qa 33 0):=rfl
 have f0:fillL [Value.int .i64 0] [(0,1,.int .i64 0)]=some [.int .i64 0]:=rfl
 have f32:fillL (u8s (dig 256 32 0)) []=some (u8s (dig 256 32 0)):=rfl
 have hnl:n=ds.length:=(C0 hsd).choose_spec.2.2.1
 obtain⟨s,l0,ho,hg⟩:=Co (H++[{c:=u8s (dig 256 32 0)},{c:=ns .i64 (Qa 33 0)}])
 obtain⟨s',H',M,ha,hg',hM,hL,hK⟩:=VX (x:=0) (bytes:=8) hg wd (by rw[MG];decide) ww
 obtain⟨l,rfl⟩:=XG (H:=H++[{c:=u8s (dig 256 32 0)},{c:=ns .i64 (Qa 33 0)}]) hL (fun i hi=>by rw[hK i hi,Qc hi])
 have hm:Q1 H.length [] M=[]:=QB fun i hi=>by have:=hM i hi;simp at this;omega
 obtain⟨il,ol,cl,hs',hrow⟩:=hg'.sl.row (by simp[MG])
 have hil:H.length+2<=il:=by
  cases hg' with
  |own h _ _=>cases hs';simpa using h
  |new h _ _=>cases hs';simpa using h
 have hs33:(ordL++[0]).length=33:=HO
 rw[hs33]at hs'
 have hsl0:Sl .i64 (mH H (dig 256 32 0) (Qa 33 0) l) (.slice (some ⟨il,ol,none⟩) 33 cl) ord33:=by
  have:=hg'.sl
  rw[hs']at this
  have e:H++[{c:=u8s (dig 256 32 0)},{c:=ns .i64 (Qa 33 0)}]++l=mH H (dig 256 32 0) (Qa 33 0) l:=by
   rw[Qt];rfl
  rw[e]at this
  exact this
 have hsl:∀r,Sl .i64 (mH H (dig 256 32 0) r l) (.slice (some ⟨il,ol,none⟩) 33 cl) ord33:=fun r=>np rfl qr hsl0
 have hsd':∀r,Sl .i64 (mH H (dig 256 32 0) r l) (.slice (some ⟨id,off,none⟩) n c) ds:=fun r=>hsd.app
 have hslA:∀r,Sl .i64 (mH H (dig 256 32 0) r (l++[])) (.slice (some ⟨il,ol,none⟩) 33 cl) ord33:=fun r=>by rw[QG];exact hsl r
 have w0:IntKind.i64.wrap ((n:Int)-1)=(n:Int)-1:=QU qr qr
 obtain⟨st,hb,r,rfl,k1,k2,k3⟩:=Zh (T:=T) (base:=H.length) (id:=0) (body:=Fa)
  (fun j st=>∃r:List Nat,st=l3I (.pointer H.length) (.slice (some ⟨id,off,none⟩) n c) (.slice (some ⟨il,ol,none⟩) 33 cl) (mrs H) ((n:Int)-1-j) (mH H (dig 256 32 0) r l) []/\r.length=33/\(∀x∈r,x<256)/\num 256 r=num 256 (ds.drop (n-j))%ell)
  (Q:=fun st=>∃r:List Nat,st=l3I (.pointer H.length) (.slice (some ⟨id,off,none⟩) n c) (.slice (some ⟨il,ol,none⟩) 33 cl) (mrs H) (-1) (mH H (dig 256 32 0) r l) [(21,.bool false)]/\r.length=33/\(∀x∈r,x<256)/\num 256 r=num 256 ds%ell)
  n (s:=l3I (.pointer H.length) (.slice (some ⟨id,off,none⟩) n c) (.slice (some ⟨il,ol,none⟩) 33 cl) (mrs H) ((n:Int)-1) (mH H (dig 256 32 0) (Qa 33 0) l) []) ⟨Qa 33 0,by rw[show((n:Int)-1-((0:Nat):Int))=(n:Int)-1 by omega],by simp,by decide,by rw[Zu qr];decide⟩
  (fun j st hj hs=>by
   obtain⟨r,rfl,k1,k2,k3⟩:=hs
   obtain⟨i,hi⟩:∃i,n-j=i+1:=⟨n-j-1,by omega⟩
   obtain⟨x,hx⟩:∃y,ds[i]?=some y:=⟨_,Qf qr⟩
   rw[hi]at k3
   obtain⟨r',g1,g2,g3,g4⟩:=sS (R := .pointer H.length) hsl hsd' hN hx (hlt x (Qo hx)) k1 k2 k3
   rw[show(n:Int)-1-j=(i:Int) by omega]
   refine⟨_,g1,r',?_,g2,g3,?_⟩
   ·rw[show(n:Int)-1-((j+1:Nat):Int)=(i:Int)-1 by omega]
   ·rw[show n-(j+1)=i by omega];exact g4)
  (fun st hs=>by
   obtain⟨r,rfl,k1,k2,k3⟩:=hs
   rw[Q7,ZS]at k3
   refine⟨_,?_,r,rfl,k1,k2,k3⟩
   have e:((0:Int) <= -1)=False:=ww
   rw[show(n:Int)-1-n = -1 by omega]
   simp only[l3I,Fa,Qr,quiet,cF,Jy,QZ,↓pQ,reduceCtorEq,seval,-Qb,cL,e])
 have hb0:=nH (H:=H) (R := .pointer H.length) (z:=dig 256 32 0) (l:=l) k1 k2
 rw[(vt k1 k2 k3).2]at hb0
 have hl32:(dig 256 32 (num 256 ds%ell)).length=32:=Zg _ _ _
 have hl0:(dig 256 32 0).length=32:=rfl
 generalize dig 256 32 (num 256 ds%ell)=K at *
 simp only[l3I,l0I,mrs,mH,Qn,Ql,Qt,hs',Qj,Zv,ZT,QL,QQ,Zb,QA]at hb hb0 ha ho
 apply Jg
 rw[QY (fn:=a43) rfl]
 simp only[a43,Qr,quiet,cF,Jy,QZ,↓pQ,reduceCtorEq,seval,-Qb,cL,cJ,Zb,hz,hz33,f0,f32,ho,ha,hm,w0,hb,l3I,mH,mrs,hb0,l0I,hl0,hl32,Qq,Q8]
 rfl
def caI(a d:List Nat)(i:Int)(ex:Env):St:=⟨[(1,.pointer (0:Nat)),(3,.slice (1:Nat) 32 32),(4,.int .i64 i)]++ex,[{c:=u8s a},{c:=ns .i64 d}],[]⟩
theorem pn{d:List Nat}(la:a.length=32)(xa:∀x∈a,x<256)(hd:d.length=32) :
  Q0 T 0 (.block 0 (.loop Fk)) (caI a d 0 [])=some (.normal,caI a a 32 [(7,.bool false)]):=by
 obtain⟨st,h1,d',rfl,h2,h3⟩:=Zh (T:=T) (base:=0) (id:=0) (body:=Fk)
  (fun i st=>∃d':List Nat,st=caI a d' i []/\d'.length=32/\∀t,t<i->d'[t]?=a[t]?)
  (Q:=fun st=>∃d':List Nat,st=caI a d' 32 [(7,.bool false)]/\d'.length=32/\∀t,t<32->d'[t]?=a[t]?)
  32 (s:=caI a d 0 []) ⟨d,rfl,hd,fun t ht=>by omega⟩
  (fun i st hi hs=>by
   obtain⟨d',rfl,h2,h3⟩:=hs
   obtain⟨x,hx⟩:∃y,a[i]?=some y:=⟨_,Qf qr⟩
   have hx':=xa x (Qo hx)
   have hxc:=Js hx
   have hset:=Xt .i64 d' i x
   have e1:((i:Int)<32)=True:=wf
   have e2:((i:Int)<(32:Int))=True:=wf
   have w1:IntKind.i64.wrap ((i:Int)+1)=((i+1:Nat):Int):=ZB (n:=i+1) qr
   have w3:IntKind.i64.wrap (x:Int)=(x:Int):=ZB qr
   have e8:i+1<=32:=qr
   refine⟨_,?_,d'.set i x,rfl,by rw[Q4];exact h2,fun t ht =>?_⟩
   ·simp only[caI,Fk,Qr,quiet,cF,Jy,QZ,↓pQ,reduceCtorEq,seval,-Qb,cL,cJ,Zb,e1,e2,e8,w1,w3,hxc,hset,Q8,h2]
   ·by_cases hti:t=i
    ·subst hti
     rw[Qw qr,hx]
    ·rw[Qu qr]
     exact h3 t qr)
  (fun st hs=>by
   obtain⟨d',rfl,h2,h3⟩:=hs
   refine⟨_,?_,d',rfl,h2,h3⟩
   simp only[caI,Fk,Qr,quiet,cF,Jy,QZ,↓pQ,reduceCtorEq,seval,-Qb,cL])
 have:d'=a:=by
  apply ZW
  intro t
  by_cases ht:t<32
  ·exact h3 t ht
  ·rw[QI qr,QI qr]
 rw[this]at h1
 exact h1
theorem Ai(la:a.length=32)(xa:∀x∈a,x<256):∃l,Z6 T 75 [.agg (u8s a).toArray] []=some (.bool (decide (num 256 a<ell)),l,[]):=by
 have hz32:(Qa 32 [Value.int .i64 0]).flatten=ns .i64 (Qa 32 0):=rfl
 have h1:=pn la xa (d:=Qa 32 0) wd
 obtain⟨s,l,ho,hg⟩:=Co [{c:=u8s a},{c:=ns .i64 a}]
 have hsl:=Sl.mk (k := .i64) (H:=[{c:=u8s a},{c:=ns .i64 a}]++l) (id:=1) (off:=0) (c:=32) (o:={c:=ns .i64 a}) (l:=a) (by simp[liveAt]) (by simp[Q8]) (fun i x hx=>by rw[QL];exact ZJ hx)
 rw[la]at hsl
 have hless:=Cb hsl hg.sl la MG ww ww xa bV
 rw[Ol]at hless
 simp only[caI,Qn,Ql]at h1 ho hless
 apply Jg
 rw[QY (fn:=a22) rfl]
 simp only[a22,Qr,quiet,cF,Jy,QZ,↓pQ,reduceCtorEq,seval,-Qb,cL,cJ,Zb,hz32,h1,ho,hless]
 rfl
end Go.Ev.YtoipgdjfhahimaaGreat

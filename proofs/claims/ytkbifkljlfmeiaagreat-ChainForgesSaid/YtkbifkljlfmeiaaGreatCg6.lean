/- What the law leans on, part 6. -/
import Derived.Test.YtkbifkljlfmeiaaGreatCg5
set_option linter.unusedSimpArgs false
set_option linter.unusedVariables false
set_option linter.defProp false
open Exists renaming intro -> Zk
open List renaming append_assoc -> Qx, append_nil -> QF, cons_append -> Qp, drop -> ZT, getElem?_append_left -> Qb, getElem?_append_right -> Qd, getElem?_eq_getElem -> Qg, getElem?_eq_some_iff -> Qf, getElem?_set_ne -> Ql, getElem?_set_self -> Qu, length_append -> Qh, length_drop -> QD, length_set -> Qr, length_take -> Q0, mem_append -> QB, mem_map -> JN, mem_of_getElem? -> Qw, mem_of_mem_drop -> Zq, mem_of_mem_take -> QG, mem_singleton -> Zu, nil_append -> Qn, reduceReplicate -> Qa, replicate -> Qc, set_append_right -> Q1, take -> Q5, take_append_drop -> Z7, take_of_length_le -> Qo
open Nat renaming add_sub_cancel_left -> Qt, le_refl -> Qj, le_succ -> GR, le_trans -> JG, mod_lt -> Q3, sub_self -> Qs, zero_add -> QH, zero_le -> Xx
open Option renaming bind_some -> Qk
open Option.some renaming inj -> JJ
namespace Go.Ev.YtkbifkljlfmeiaaGreat
open Go Go.Ev
set_option maxRecDepth 100000
section
attribute [local congr] Jw JD Jv JE Jk
variable{nm pub key key0:List Nat}{e B m id mi:Nat}{H G:List Ob}{v hv:Value}{tl:List Value}
def mcell(x:Nat×Nat×Nat×Value):List Value:=[.int .i64 5,.slice x.1 1 1,.slice x.2.1 2 2,.slice x.2.2.1 1 1,x.2.2.2]
def Shr(nm E sg:List Nat)(b f:Nat)(G:List Ob)(sh:List Value):Prop:=∃p,sh=[.int .i64 4,.slice (p:Nat) 3 3,.slice (p+1:Nat) 2 2,.slice none 0 0,.slice none 0 0]/\b<=p/\G[p]?=some {c:=u8s [nm,E,Kj sg].flatten}/\G[p+1]?=some {c:=ns32 [1,f]}
def Shr.keep{nm E sg:List Nat}{b f:Nat}{G G':List Ob}{sh:List Value}(h:Shr nm E sg b f G sh)(I:∀i o,b<=i->G[i]?=some o->o.es=1->G'[i]?=some o):Shr nm E sg b f G' sh:=by
 obtain⟨p,Y,J,U,O⟩:=h
 exact⟨p,Y,J,I _ _ J U rfl,I _ _ qr O rfl⟩
structure JnInv(nm key sg:List Nat)(tx:Nat->List Nat)(H0:List Ob)(f:Nat)(G:List Ob)(fv:Value)(sh:List Value)(ms:List (Nat×Nat×Nat×Value))(i k:Nat):Prop where
 fr:Frs (H0.length+3) G fv i (ms.map mcell).flatten
 lm:ms.length=i
 sd:G[H0.length+1]?=some {c:=plc nm 1 i (keyN nm key i) (u8s sg)}
 so:G[H0.length+2]?=some {c:=sh}
 ls:sh.length=5
 sf:f<k->Shr nm (keyN nm key f) sg (H0.length+3) f G sh
 mg:∀j x,ms[j]?=some x->Msg (H0.length+3) G x.1 x.2.1 x.2.2.1 x.2.2.2 nm 1 j (msgS nm (keyN nm key j) sg (tx j) 1 j) (msgD nm (keyN nm key j) (tx j) 1 j)
 lo:∀j,j<H0.length->G[j]?=H0[j]?
 lg:H0.length+3<=G.length
def JP(x:Nat×List Nat):List Value := .int .u32 (x.1:Nat)::u8s x.2
def KW(hs:List (Nat×List Nat)):List Value:=(hs.map JP).flatten
def H33(hs:List (Nat×List Nat)):Prop:=∀x∈hs,x.2.length=32
def Gq{x:Nat×List Nat}(h:x.2.length=32):(JP x).length=33:=by simp[JP,Qq,h]
def Ok{hs:List (Nat×List Nat)}(h:H33 hs):∀r∈hs.map JP,r.length=33:=fun r I=>by
 obtain⟨x,E,rfl⟩:=JN.1 I
 exact Gq (h x E)
def AN{hs:List (Nat×List Nat)}(h:H33 hs):(KW hs).length=hs.length*33:=by
 induction hs with
 |nil=>rfl
 |cons x hs E =>
  have J:=E fun y I=>h y (List.mem_cons_of_mem _ I)
  simp only[KW,List.map_cons,List.flatten_cons,Qh,Gq (h x wd),List.length_cons]at J ⊢
  omega
def SJ(a b:List (Nat×List Nat)):KW (a++b)=KW a++KW b:=by simp[KW]
def HS(t:Prop)(B:Nat)(G:List Ob)(v:Value)(hs:List (Nat×List Nat)):Prop :=
 (v=.slice none 0 0/\hs=[])\/(∃id,v=.slice (id:Nat) 0 0/\hs=[]/\B<=id/\G[id]?=some {c:=[]}) \/
  ∃id c tl,v=.slice (id:Nat) hs.length c/\B<=id/\G[id]?=some ⟨KW hs++tl,true,true,false,33⟩/\tl.length+hs.length*33=c*33/\0<c/\(t->tl=[])
def HS.keep{t:Prop}{B:Nat}{G G':List Ob}{v:Value}{hs:List (Nat×List Nat)}(h:HS t B G v hs)(U:∀i o,B<=i->G[i]?=some o->(o.es=33\/o.c=[])->G'[i]?=some o):HS t B G' v hs:=by
 rcases h with h|⟨id,O,I,E,J⟩|⟨id,c,tl,O,I,E,J⟩
 ·exact .inl h
 ·exact .inr (.inl ⟨id,O,I,E,U _ _ E J (.inr rfl)⟩)
 ·exact .inr (.inr ⟨id,c,tl,O,I,U _ _ I E (.inl rfl),J⟩)
def HS.ext{t:Prop}{B:Nat}{G G':List Ob}{v:Value}{hs:List (Nat×List Nat)}(h:HS t B G v hs)(I:∀i,B<=i->i<G.length->G'[i]?=G[i]?):HS t B G' v hs :=
 h.keep fun i o hb E _=>(I i hb (Qf.1 E).1).trans E
def HS.weak{t U:Prop}{B Y:Nat}{G:List Ob}{v:Value}{hs:List (Nat×List Nat)}(h:HS t B G v hs)(hb:Y<=B)(ht:U->t):HS U Y G v hs:=by
 rcases h with h|⟨id,O,J,I,E⟩|⟨id,c,tl,O,J,I,E,h5,Z⟩
 ·exact .inl h
 ·exact .inr (.inl ⟨id,O,J,JG hb I,E⟩)
 ·exact .inr (.inr ⟨id,c,tl,O,JG hb J,I,E,h5,fun k=>Z (ht k)⟩)
def HS.shape{t:Prop}{B:Nat}{G:List Ob}{v:Value}{hs:List (Nat×List Nat)}(h:HS t B G v hs):∃a c,v=.slice a hs.length c:=by
 rcases h with⟨E,rfl⟩|⟨id,E,rfl,J,I⟩|⟨id,c,tl,E,O,J,I⟩
 ·exact⟨_,_,E⟩
 ·exact⟨_,_,E⟩
 ·exact⟨_,_,E⟩
def HS.row{t:Prop}{B:Nat}{G:List Ob}{v:Value}{hs:List (Nat×List Nat)}(h:HS t B G v hs)(E:H33 hs){i:Nat}{x:Nat×List Nat}(hi:hs[i]?=some x):∃id c cs,v=.slice (id:Nat) hs.length c/\B<=id/\G[id]?=some ⟨cs,true,true,false,33⟩/\Q5 33 (ZT (i*33) cs)=JP x/\i*33+33<=cs.length:=by
 have hlt:=(Qf.1 hi).1
 rcases h with⟨-,rfl⟩|⟨id,-,rfl,-⟩|⟨id,c,tl,O,J,I,Y,-⟩
 ·simp at hlt
 ·simp at hlt
 ·obtain⟨U,Z⟩:=Ow (n:=33) (L:=hs.map JP) (i:=i) (P:=JP x) (Ok E) (by rw[List.getElem?_map,hi];rfl)
  refine⟨id,c,_,O,J,I,?_,?_⟩
  ·rw[List.drop_append_of_le_length (by show _<=(hs.map JP).flatten.length;omega),List.take_append_of_le_length (by rw[QD];show _<=(hs.map JP).flatten.length-_;omega)]
   exact U
  ·rw[Qh];show _<=(hs.map JP).flatten.length+_;omega
def HS.elems{t:Prop}{B:Nat}{G:List Ob}{v:Value}{hs:List (Nat×List Nat)}(h:HS t B G v hs)(E:H33 hs){G':List Ob}(O:∀i,B<=i->i<G.length->G'[i]?=G[i]?):elemsOf G' 33 hs.length v=some (KW hs):=by
 rcases h.ext O with⟨rfl,rfl⟩|⟨id,rfl,rfl,J,I⟩|⟨id,c,tl,rfl,U,J,I,-⟩
 ·rfl
 ·simp[elemsOf,Zs I rfl,KW]
 ·have:=AN E
  simp[elemsOf,Zs J rfl,this]
def eu{hs:List (Nat×List Nat)}{x:Nat×List Nat}(h:HS True B G v hs)(h33:H33 hs)(hx:x.2.length=32)(hB:B<=G.length)(h1000:hs.length<=2000) :
  ∃v' G' M,ZV 33 36 (G++[{c:=JP x}]) v (.slice G.length 1 1)=some (v',G',none,M)/\HS True B G' v' (hs++[x])/\(∀i∈M,B<=i)/\G.length<=G'.length/\(∀i,i<B->G'[i]?=G[i]?)/\∀(i:Nat) (o:Ob),G[i]?=some o->o.es=1->G'[i]?=some o:=by
 have lq:=Gq hx
 have hgx:(G++[({c:=JP x}:Ob)])[G.length]?=some {c:=JP x}:=by rw[Qd (Qj _),Qs];rfl
 have he:elemsOf (G++[({c:=JP x}:Ob)]) 33 1 (.slice G.length 1 1)=some (JP x):=by
  simp[elemsOf,Zs hgx rfl,lq]
  exact Qo (by rw[lq];exact Qj _)
 have hl:Go.Ev.lenV (.slice G.length 1 1)=some 1:=rfl
 have h1:¬(1:Nat)=0:=ww
 have one:KW [x]=JP x:=by simp[KW]
 have I:(G++[({c:=JP x}:Ob)]++[Ob.grown 33 (JP x)])[(G++[({c:=JP x}:Ob)]).length]?=some ⟨KW [x]++[],true,true,false,33⟩:=by rw[Qd (Qj _),Qs,one,QF];rfl
 rcases h with⟨rfl,rfl⟩|⟨id,rfl,rfl,Y,Z⟩|⟨id,c,tl,rfl,J,Y,Z,h5,h6⟩
 ·refine⟨.slice ((G++[({c:=JP x}:Ob)]).length:Nat) 1 1,(G++[({c:=JP x}:Ob)])++[Ob.grown 33 (JP x)],[],?_,.inr (.inr ⟨_,1,[],rfl,by rw[Qh];omega,I,rfl,by decide,fun _=>rfl⟩),by simp,by simp,fun i hi =>?_,fun i o E _ =>?_⟩
  ·have J:(0+1)*36<=2^47/\0<36/\0<33:=ww
   simp only[ZV,hl,he,Qk,if_neg h1,J,and_self,not_true_eq_false,if_false,if_true]
  ·rw[Qx,Qb qr]
  ·rw[Qx,Qb (Qf.1 E).1];exact E
 ·have hid:id<G.length:=(Qf.1 Z).1
  have O:(G++[({c:=JP x}:Ob)])[id]?=some {c:=[]}:=by rw[Qb hid];exact Z
  refine⟨.slice ((G++[({c:=JP x}:Ob)]).length:Nat) 1 1,(G++[({c:=JP x}:Ob)])++[Ob.grown 33 (JP x)],[],?_,.inr (.inr ⟨_,1,[],rfl,by rw[Qh];omega,I,rfl,by decide,fun _=>rfl⟩),by simp,by simp,fun i hi =>?_,fun i o E _ =>?_⟩
  ·have J:(0+1)*36<=2^47/\0<36/\0<33:=ww
   have h8:elemsOf (G++[({c:=JP x}:Ob)]) 33 0 (.slice id 0 0)=some []:=by simp[elemsOf,Zs O rfl]
   have h9:¬(0+1<=0):=ww
   simp only[ZV,hl,he,Qk,if_neg h1,J,and_self,not_true_eq_false,if_false,if_true,Zs O rfl,h8,if_neg h9,Qn]
  ·rw[Qx,Qb qr]
  ·rw[Qx,Qb (Qf.1 E).1];exact E
 ·have htl:=h6 trivial
  subst htl
  have hc:c=hs.length:=by simp at Z;omega
  subst hc
  have hid:id<G.length:=(Qf.1 Y).1
  have hcl:=AN h33
  rw[QF]at Y
  have U:(G++[({c:=JP x}:Ob)])[id]?=some ⟨KW hs,true,true,false,33⟩:=by rw[Qb hid];exact Y
  refine⟨.slice ((G++[({c:=JP x}:Ob)]).length:Nat) (hs.length+1) (hs.length+1),((G++[({c:=JP x}:Ob)]).set id Ob.dead)++[Ob.grown 33 (KW hs++JP x)],[id],?_,  .inr (.inr ⟨_,hs.length+1,[],by rw[show(hs++[x]).length=hs.length+1 by simp],by rw[Qh];omega,?_,by simp,by omega,fun _=>rfl⟩),by simpa using J,by simp;omega,fun i hi =>?_,fun i o E hes =>?_⟩
  ·have J:(hs.length+1)*36<=2^47/\0<36/\0<33:=⟨by omega,by decide,by decide⟩
   have h7:¬(hs.length+1<=hs.length):=qr
   have h8:elemsOf (G++[({c:=JP x}:Ob)]) 33 hs.length (.slice id hs.length hs.length)=some (KW hs):=by
    simp[elemsOf,Zs U rfl,hcl]
    exact Qo (by rw[hcl];exact Qj _)
   simp only[ZV,hl,he,Qk,if_neg h1,J,and_self,not_true_eq_false,if_false,if_true,Zs U rfl,h8,if_neg h7,Bool.false_eq_true,Qj]
  ·rw[Qd (by rw[Qr];exact Qj _),Qr,Qs,SJ,one,QF];rfl
  ·rw[Qb (by rw[Qr,Qh];omega),Ql qr,Qb qr]
  ·have hio:=(Qf.1 E).1
   have hne:id≠i:=fun e=>by
    subst e
    rw[Y]at E
    cases E
    cases hes
   rw[Qb (by rw[Qr,Qh];omega),Ql hne,Qb hio];exact E
def H33.take{hs:List (Nat×List Nat)}(h:H33 hs)(p:Nat):H33 (hs.take p):=fun x E=>h x (QG E)
def H33.drop{hs:List (Nat×List Nat)}(h:H33 hs)(p:Nat):H33 (hs.drop p):=fun x E=>h x (Zq E)
def H33.app{a b:List (Nat×List Nat)}(h:H33 a)(k:H33 b):H33 (a++b):=fun x E=>(QB.1 E).elim (h x) (k x)
def nZ{t:Prop}{hs:List (Nat×List Nat)}(h:HS t B G v hs):vSliceSl G 33 (some (.int .i64 0)) none none v=some v:=by
 rcases h with⟨rfl,-⟩|⟨id,rfl,-,-,E⟩|⟨id,c,tl,rfl,-,I,E,-⟩
 ·rfl
 ·rw[Yr,show Jc 0 0 (some (.int .i64 0)) none none=some (0,0,0) from rfl,Qk,Zs E rfl,Qk]
  simp[gate]
 ·rw[Yr,Xh,Ks,Qk,show Kt (some (.int .i64 0)) hs.length 0=some 0 from XD (n:=0) (Xx _),Qk,Qk,Zs I rfl,Qk]
  simp[gate]
def eZ{i:Nat}{k:List Nat}(E:k.length=32):fillL TA [(0,1,.int .u32 (i:Nat)),(1,32,.agg (u8s k).toArray)]=some (JP (i,k)):=by
 have O:∀l:List Nat,(Value.agg (u8s l).toArray).cells.toList=u8s l:=fun _=>rfl
 have J:splice TA 0 [Value.int .u32 (i:Nat)]=Value.int .u32 (i:Nat)::Qc 32 (.int .u8 0):=rfl
 have I:splice (Value.int .u32 (i:Nat)::Qc 32 (.int .u8 0)) 1 (u8s k)=JP (i,k):=by
  rw[Xv _ _ _ (by rw[Qq,E];show 1+32<=33;decide),Qq,E]
  simp[JP]
 rw[Km (n:=1) rfl ww rfl,show(Value.int .u32 (i:Nat)).cells.toList=[.int .u32 (i:Nat)] from rfl,J,Km (Y8 E) (by show 1+32<=33;decide) rfl,O,I,fillL]
def skJ(nm key0:List Nat)(m d:Nat):List (Nat×List Nat):=(List.range d).map fun i=>(m+i,YM nm (keyN nm key0 i))
def iF(nm key0:List Nat)(m d:Nat):skJ nm key0 m (d+1)=skJ nm key0 m d++[(m+d,YM nm (keyN nm key0 d))]:=by simp[skJ,List.range_succ]
def wU(nm key0:List Nat)(m d:Nat):H33 (skJ nm key0 m d):=fun x E=>by
 obtain⟨i,-,rfl⟩:=JN.1 E
 exact(B2 _ _).len
structure SkJ(nm key0 pub z:List Nat)(B id e m mi:Nat)(H:List Ob)(hs:List (Nat×List Nat))(j:Nat)(G:List Ob)(hv:Value)(L:List Nat):Prop where
 f:G[id]?=some {c:=fol nm e (m+j) (keyN nm key0 j) pub hv}
 h:HS True B G hv (hs++skJ nm key0 m j)
 i:G[H.length]?=some {c:=[.int .u32 mi]}
 z:G[H.length+1]?=some {c:=u8s z}
 o:∀i,i<B->i≠id->G[i]?=H[i]?
 l:H.length+2<=G.length
 m:∀i∈L,i=id\/B<=i
def rh{z:List Nat}{hs:List (Nat×List Nat)}{j:Nat}{L:List Nat}{ex:Env}(hn:B32 nm)(hk:B32 key0)(hp:pub.length=32)(hz:Qc 32 (Value.int .u8 0)=u8s z)(lz:z.length=32)(h33:H33 hs)(h1000:hs.length+j<=1900)(hid:id<B)(hB:B<=H.length)(hj:m+j<mi)(hmi:mi<=16777216)(hex:ex=[]\/ex=[(54,.bool false)])(h:SkJ nm key0 pub z B id e m mi H hs j G hv L) :
  ∃G' hv' L',Q4 T H.length YO (kyS id H.length (H.length+1) G L ex)=some (.normal,kyS id H.length (H.length+1) G' L' [])/\SkJ nm key0 pub z B id e m mi H hs (j+1) G' hv' L':=by
 have hkj:=SB (nm:=nm) hk j
 have lg:=h.l
 obtain⟨-,G1,M1,hnx,q1,q2,q3,q4⟩:=Tv (e:=e) (m:=m+j) (tl:=u8s pub++[hv]) h.f hn hkj qr
 obtain⟨K,hK⟩:∃K,K=YM nm (keyN nm key0 j):=⟨_,rfl⟩
 have J:=B2 nm (keyN nm key0 j)
 rw[show(nxK nm (keyN nm key0 j)).take 32=YM nm (keyN nm key0 j) from rfl,<-hK]at hnx
 rw[<-hK]at J
 have q1':G1[id]?=some {c:=fol nm e (m+j+1) (keyN nm key0 (j+1)) pub hv}:=q1
 obtain⟨G2,Y⟩:∃X,X=G1++[({c:=u8s K}:Ob)]:=⟨_,rfl⟩
 have l2:G2.length=G1.length+1:=by rw[Y];simp
 have E:∀i,i<G1.length->G2[i]?=G1[i]? := fun i hi=>by rw[Y,Qb hi]
 have g2k:G2[G1.length]?=some {c:=u8s K}:=by rw[Y,Qd (Qj _),Qs];rfl
 have O:∀i,i<G.length->i≠id->G2[i]?=G[i]? := fun i hi U=>by rw[E i qr,q2 i hi U]
 have hS2:HS True B G2 hv (hs++skJ nm key0 m j):=h.h.ext fun i hb hi=>O i hi qr
 have lsk:(skJ nm key0 m j).length=j:=by simp[skJ]
 obtain⟨hv',G3,M3,hap,a1,a2,a3,a4,a5⟩:=eu (x:=(m+j,K)) hS2 (h33.app (wU nm key0 m j)) J.len qr (by rw[Qh,lsk];omega)
 have I:=SB (nm:=nm) hk (j+1)
 have g3:G3[id]?=some {c:=fol nm e (m+j+1) (keyN nm key0 (j+1)) pub hv}:=by rw[a4 id hid,E id qr];exact q1'
 refine⟨G3.set id {c:=fol nm e (m+j+1) (keyN nm key0 (j+1)) pub hv'},hv',Qz H.length (Qz H.length (Qz H.length L M1) M3) [id],?_,⟨Qu qr,?_,?_,?_,fun i hi U =>?_,?_,fun i hi =>?_⟩⟩
 rotate_left
 ·rw[iF,<-Qx,<-hK]
  exact a1.ext fun i hb hi=>Ql qr
 ·rw[Ql qr];exact a5 _ _ ((O _ qr qr).trans h.i) rfl
 ·rw[Ql qr];exact a5 _ _ ((O _ qr qr).trans h.z) rfl
 ·rw[Ql (Ne.symm U),a4 i hi,O i qr U];exact h.o i hi U
 ·rw[Qr];omega
 ·rcases Zv hi with Z|Z
  ·rcases Zv Z with Z|Z
   ·rcases Zv Z with Z|Z
    ·exact h.m i Z
    ·exact .inl (q4 i Z)
   ·exact .inr (a2 i Z)
  ·exact .inl (Zu.1 Z)
 have n0:(fol nm e (m+j) (keyN nm key0 j) pub hv)[33]?=some (.int .u32 (m+j:Nat)):=Vw hn.len
 have g0:=h.f
 have gi:=h.i
 have g2:=(E id qr).trans q1'
 have h98:=Up (e:=e) (m:=m+j+1) (hv:=hv) hn.len I.len hp
 have hl1:=VK (e:=e) (m:=m+j+1) (hv:=hv) hn.len I.len hp
 have hsv:=Uo (e:=e) (m:=m+j+1) (hv:=hv) (hv':=hv') hn.len I.len hp
 have e1:(((m+j:Nat):Int)<(mi:Int))=True:=wr
 have sk:=QP (cs:=u8s z) (v:=u8s K) (by rw[Qq,Qq,lz,J.len])
 have tk:Q5 32 (u8s K)=u8s K:=Q7 (by rw[Qq,J.len])
 have lK:=J.len
 have fh:=eZ (i:=m+j) lK
 have lh:(JP (m+j,K)).length=33:=Gq lK
 have fh2:fillL TA [(0,33,.agg (JP (m+j,K)).toArray)]=some (JP (m+j,K)):=by
  rw[Km (C:=TA) (o:=0) (n:=33) (v := .agg (JP (m+j,K)).toArray) (r:=[]) lh ww rfl,show(Value.agg (JP (m+j,K)).toArray).cells.toList=JP (m+j,K) from rfl,QP (by rw[lh];rfl)];rfl
 have a2':∀o o':Ob,(G1++[o]).set G1.length o'=G1++[o']:=fun _ _=>by rw[Q1 _ _ (Qj _),Qs];rfl
 have h2:=Y.symm
 have ok1:∀L:List Value,(Value.agg L.toArray).cells.toList=L:=fun _=>rfl
 have ok2:∀L:List Value,(Value.agg L.toArray).cells.size=L.length:=fun _=>rfl
 have ok3:∀L:List Value,okVar (Value.agg L.toArray)=true:=fun _=>rfl
 have im0:∀L,Qz H.length L [G1.length]=L:=fun L=>QC (by simp;omega)
 obtain⟨av,cv,hvv⟩:=a1.shape
 have c1:hv'.cells.toList=[hv']:=by rw[hvv];rfl
 have c2:hv'.cells.size=1:=by rw[hvv];rfl
 have c3:okVar hv'=true:=by rw[hvv];rfl
 clear Y hK q1 q2 q3 q4 q1' a1 a2 a3 a4 a5 hS2 O E h hkj I J hvv
 generalize JP (m+j,K)=C at *
 generalize fol nm e (m+j+1) (keyN nm key0 (j+1)) pub hv'=F2,fol nm e (m+j+1) (keyN nm key0 (j+1)) pub hv=F1,fol nm e (m+j) (keyN nm key0 j) pub hv=F0 at *
 generalize m+j=mj at *
 rcases hex with rfl|rfl
 ·simp only[kyS,YO,Qv,quiet,cW,↓pW,reduceCtorEq,seval,-Qa,hz,lz,g0,gi,n0,e1,hnx,a2',h2,g2,g2k,h98,hl1,hsv,g3,sk,tk,lK,fh,fh2,hap,im0,c1,c2,c3,ok1,ok2,ok3,Qq]
 ·simp only[kyS,YO,Qv,quiet,cW,↓pW,reduceCtorEq,seval,-Qa,hz,lz,g0,gi,n0,e1,hnx,a2',h2,g2,g2k,h98,hl1,hsv,g3,sk,tk,lK,fh,fh2,hap,im0,c1,c2,c3,ok1,ok2,ok3,Qq]
def FA(ho:H[id]?=some {c:=plc nm e m key tl})(hn:B32 nm)(hk:B32 key)(hm:16777216<=m) :
  ∃l,Zp T 34 [.pointer id] H=some (.tuple #[.agg (u8s (Qc 32 0)).toArray,.int .i64 3],H++l,[]):=by
 obtain⟨z,hz,lz,E⟩:∃z:List Nat,Qc 32 (Value.int .u8 0)=u8s z/\z.length=32/\z=Qc 32 0:=⟨Qc 32 0,rfl,rfl,rfl⟩
 rw[<-E]
 have hid:=(Qf.1 ho).1
 have Y:∀l:List Ob,(H++l)[id]?=some {c:=plc nm e m key tl}:=fun l=>by rw[Qb hid];exact ho
 have num:=Vw (e:=e) (m:=m) (key:=key) (tl:=tl) hn.len
 have hpl:=JM (e:=e) (m:=m) (tl:=tl) hn.len hk.len
 have e1:((16777216:Int)<=(m:Int))=True:=wr
 have a1:∀o Z:Ob,(H++[o]).set H.length Z=H++[Z]:=fun _ _=>by rw[Q1 _ _ (Qj _),Qs];rfl
 have g1:∀o:Ob,(H++[o])[H.length]?=some o:=fun o=>by rw[Qd (Qj _),Qs];rfl
 have fz:fillL (u8s z) []=some (u8s z):=rfl
 have sp:=QP (cs:=u8s z) (v:=u8s z) rfl
 have tz:Q5 32 (u8s z)=u8s z:=Q7 (by rw[Qq,lz])
 have U:Qz H.length [] [H.length]=[]:=QC wd
 have O:∀L:List Value,(Value.agg L.toArray).cells.toList=L:=fun _=>rfl
 have J:∀L:List Value,(Value.agg L.toArray).cells.size=L.length:=fun _=>rfl
 have I:∀L:List Value,okVar (Value.agg L.toArray)=true:=fun _=>rfl
 clear E
 generalize plc nm e m key tl=F at *
 apply Zk
 rw[Q9 (fn:=qh) rfl]
 simp only[qh,Qv,quiet,cW,↓pW,reduceCtorEq,seval,-Qa,hz,lz,Y,num,e1,a1,g1,fz,sp,tz,U,O,J,I,Qq]
 rfl
def ng{m:Nat}(E:H[id]?=some {c:=plc nm e m key tl})(hn:B32 nm)(I:B32 key) :
  ∃(K:List Nat) (c:Int) (H':List Ob) (M:List Nat),B32 K/\Zp T 34 [.pointer id] H=some (.tuple #[.agg (u8s K).toArray,.int .i64 c],H',M)/\(∀i,i<H.length->i≠id->H'[i]?=H[i]?)/\H.length<=H'.length/\(∀i∈M,i=id)/\∃F,H'[id]?=some {c:=F}/\F.length=66+tl.length:=by
 rcases Nat.lt_or_ge m 16777216 with h|h
 ·obtain⟨-,H',M,J,Z,Y,U,O⟩:=Tv E hn I h
  exact⟨_,0,H',M,B2 nm key,J,Y,U,O,_,Z,JM hn.len (A6 nm key).len⟩
 ·obtain⟨l,J⟩:=FA E hn I h
  exact⟨_,3,H++l,[],⟨rfl,by decide⟩,J,fun i hi _=>Qb hi,by rw[Qh];omega,by simp,_,(Qb (Qf.1 E).1).trans E,JM hn.len I.len⟩
def nL{hs:List (Nat×List Nat)}(ho:H[id]?=some {c:=fol nm e m key0 pub hv})(hn:B32 nm)(hk:B32 key0)(hp:pub.length=32)(hm:m<=mi)(hmi:mi<=16777216)(hd:mi-m<=500)(hS:HS True B H hv hs)(h33:H33 hs)(h500:hs.length<=500)(hid:id<B)(hB:B<=H.length) :
  ∃(K:List Nat) (c:Int) (H':List Ob) (M:List Nat),B32 K/\Zp T 26 [.pointer id,.int .u32 mi] H=some (.tuple #[.agg (u8s K).toArray,.int .i64 c],H',M)/\(∀i,i<B->i≠id->H'[i]?=H[i]?)/\H.length<=H'.length/\(∀i∈M,i=id\/B<=i)/\∃F,H'[id]?=some {c:=F}/\F.length=99:=by
 have Z:=(Qf.1 ho).1
 obtain⟨z,hz,lz⟩:∃z:List Nat,Qc 32 (Value.int .u8 0)=u8s z/\z.length=32:=⟨Qc 32 0,rfl,rfl⟩
 obtain⟨d,hdd⟩:∃d,d=mi-m:=⟨_,rfl⟩
 obtain⟨H1,J⟩:∃G,G=H++[({c:=[.int .u32 mi]}:Ob),{c:=u8s z}]:=⟨_,rfl⟩
 have l1:H1.length=H.length+2:=by rw[J];simp
 have I:∀i,i<H.length->H1[i]?=H[i]? := fun i hi=>by rw[J,Qb hi]
 have g1i:H1[H.length]?=some {c:=[.int .u32 mi]}:=by rw[J,Qd (Qj _),Qs];rfl
 have I0:SkJ nm key0 pub z B id e m mi H hs 0 H1 hv []:=⟨(I _ Z).trans ho,by rw[show skJ nm key0 m 0=[] from rfl,QF];exact hS.ext fun i _ hi=>I i hi,g1i,by rw[J,Qd qr,Qt];rfl,fun i hi _=>I i qr,by omega,by simp⟩
 obtain⟨st,hA,G,hw,L,rfl,E⟩:=QM (T:=T) (base:=H.length) (id:=0) (body:=YO)
  (fun i st=>∃G hw L ex,st=kyS id H.length (H.length+1) G L ex/\(ex=[]\/ex=[(54,.bool false)])/\SkJ nm key0 pub z B id e m mi H hs i G hw L) (Q:=fun st=>∃G hw L,st=kyS id H.length (H.length+1) G L [(62,.bool false)]/\SkJ nm key0 pub z B id e m mi H hs d G hw L)
  d (s:=kyS id H.length (H.length+1) H1 [] [(54,.bool false)]) ⟨_,_,_,_,rfl,.inr rfl,I0⟩
  (fun j st hj hs'=>by
   obtain⟨G,hw,L,ex,rfl,hex,E⟩:=hs'
   obtain⟨G',hv',L',h1,h2⟩:=rh hn hk hp hz lz h33 qr hid hB qr hmi hex E
   exact⟨_,h1,G',hv',L',[],rfl,.inl rfl,h2⟩)
  (fun st hs'=>by
   obtain⟨G,hw,L,ex,rfl,hex,E⟩:=hs'
   refine⟨_,?_,G,hw,L,rfl,E⟩
   have g0:=E.f
   have gi:=E.i
   have n0:(fol nm e (m+d) (keyN nm key0 d) pub hw)[33]?=some (.int .u32 (m+d:Nat)):=Vw hn.len
   have e1:(((m+d:Nat):Int)<(mi:Int))=False:=ut
   clear E
   generalize fol nm e (m+d) (keyN nm key0 d) pub hw=F0 at *
   generalize m+d=md at *
   rcases hex with rfl|rfl
   ·simp only[kyS,YO,Qv,quiet,cW,↓pW,reduceCtorEq,seval,-Qa,g0,gi,n0,e1]
   ·simp only[kyS,YO,Qv,quiet,cW,↓pW,reduceCtorEq,seval,-Qa,g0,gi,n0,e1])
 have hmd:m+d=mi:=qr
 have hf:=E.f
 rw[hmd]at hf
 have U:=SB (nm:=nm) hk d
 obtain⟨K,c,H2,M2,Y,hnx,q2,q3,q4,FF,q5,q6⟩:=ng (e:=e) (m:=mi) (tl:=u8s pub++[hw]) hf hn U
 have lg:=E.l
 refine⟨K,c,H2.set (H.length+1) {c:=u8s K},Qz H.length (Qz H.length L [id]) M2,Y,?_,fun i hi hne =>?_,?_,fun i hi =>?_,FF,by rw[Ql qr];exact q5,by rw[q6,Qh,Qq,hp];rfl⟩
 rotate_left
 ·rw[Ql qr,q2 i qr hne];exact E.o i hi hne
 ·rw[Qr];omega
 ·rcases Zv hi with h|h
  ·rcases Zv h with h|h
   ·exact E.m i h
   ·exact .inl (Zu.1 h)
  ·exact .inl (q4 i h)
 have num:(fol nm e m (key0) pub hv)[33]?=some (.int .u32 m):=Vw hn.len
 have g1:=(I id Z).trans ho
 have h1:=J.symm
 have e1:((mi:Int)<(m:Int))=False:=ut
 have w1:IntKind.u32.wrap ((mi:Int)-(m:Int))=((mi-m:Nat):Int):=by rw[show(mi:Int)-(m:Int)=((mi-m:Nat):Int) by omega];exact HD qr
 have e2:((1000:Int)<((mi-m:Nat):Int))=False:=ut
 have h98:=Up (e:=e) (m:=mi) (hv:=hw) hn.len U.len hp
 have hl:=VK (e:=e) (m:=mi) (hv:=hw) hn.len U.len hp
 have hsv:=Uo (e:=e) (m:=mi) (hv:=hw) (hv':=hw) hn.len U.len hp
 obtain⟨av,cv,O⟩:=E.h.shape
 have lsk:(skJ nm key0 m d).length=d:=by simp[skJ]
 obtain⟨n,hnn⟩:∃n,n=(hs++skJ nm key0 m d).length:=⟨_,rfl⟩
 have hn1000:n<=1000:=by rw[hnn,Qh,lsk];omega
 have hlen:vLen false hw=some (.int .i64 (n:Nat)):=by rw[O,hnn];rfl
 have w2:IntKind.i64.wrap ((n:Int)-1000)=(n:Int)-1000:=Zd qr qr
 have mx2:(if(n:Int)-1000>0 then(n:Int)-1000 else 0)=0:=if_neg qr
 have hcut:=nZ E.h
 have ss:=VR hf
 have c1:hw.cells.toList=[hw]:=by rw[O];rfl
 have c2:hw.cells.size=1:=by rw[O];rfl
 have c3:okVar hw=true:=by rw[O];rfl
 have g3:H2[H.length+1]?=some {c:=u8s z}:=by rw[q2 _ qr qr];exact E.z
 have g4:∀o,(H2.set (H.length+1) o)[H.length+1]?=some o:=fun o=>Qu qr
 have im:∀L,Qz H.length L [H.length+1]=L:=fun L=>QC wd
 have sp:=QP (cs:=u8s z) (v:=u8s K) (by rw[Qq,Qq,lz,Y.len])
 have tK:Q5 32 (u8s K)=u8s K:=Q7 (by rw[Qq,Y.len])
 have lK:=Y.len
 have ok1:∀L:List Value,(Value.agg L.toArray).cells.toList=L:=fun _=>rfl
 have ok2:∀L:List Value,(Value.agg L.toArray).cells.size=L.length:=fun _=>rfl
 have ok3:∀L:List Value,okVar (Value.agg L.toArray)=true:=fun _=>rfl
 simp only[kyS,Qp,Qn]at hA
 clear J q2 q3 q4 q5 q6 Y ho E I0 U O hS
 generalize fol nm e mi (keyN nm key0 d) pub hw=F2,fol nm e m (key0) pub hv=F at *
 generalize mi-m=dd at *
 rw[Q9 (fn:=aK) rfl]
 simp only[aK,Qv,quiet,cW,↓pW,reduceCtorEq,seval,-Qa,hz,lz,h1,g1,g1i,hf,g3,g4,num,h98,hl,hsv,e1,e2,w1,w2,hlen,mx2,hcut,ss,im,sp,tK,lK,c1,c2,c3,hnx,hA,ok1,ok2,ok3,Qq]
def FY{ik ina is:Nat}{sig dl ct tg:List Nat}(h:Msg B H ik ina is v nm e mi sig dl)(hk:B32 key)(lpu:pub.length=32)(xpu:∀y∈pub,y<256)(hdl:dl=ct++tg)(ltg:tg.length=16)(lct:ct.length<=16368)(hm:m<=mi)(hm2:mi<=m+1)(hmi:m<16777216) :
  ∃(H':List Ob) (r:List Value) (v':Value) (c:Int),Zp T 8 [.agg (fol nm e m key pub (.slice none 0 0)).toArray,D3 ik ina is v] H=some (.tuple #[.agg r.toArray,v',.int .i64 c],H',[])/\(∀i,i<H.length->H'[i]?=H[i]?)/\H.length<=H'.length/\r.length=99/\(∃a l cp,v'=.slice a l cp)/\(c=0->T7 pub (sig.take 32) (sig.drop 32) (JF nm e mi++dl) 0):=by
 have hn:=h.lk
 have lsg:=h.ls
 have xsg:=h.xs
 have ldl:dl.length=ct.length+16:=by rw[hdl,Qh,ltg]
 have hkm:=hk
 obtain⟨F,hF⟩:∃X,X=fol nm e m key pub (.slice none 0 0):=⟨_,rfl⟩
 have n0:=VK (e:=e) (m:=m) (hv := .slice none 0 0) hn.len hkm.len lpu
 have r1:Q5 32 F=u8s nm:=by rw[hF];exact Tr hn.len
 have r3:Q5 32 (ZT 66 F)=u8s pub:=by rw[hF];exact Tx hn.len hkm.len lpu
 have r4:F[32]?=some (.int .u32 e):=by rw[hF];exact IF hn.len
 have r6:F[98]?=some (.slice none 0 0):=by rw[hF];exact Up hn.len hkm.len lpu
 have r7:∀w,F.set 98 w=fol nm e m key pub w:=fun w=>by rw[hF];exact Uo hn.len hkm.len lpu
 rw[<-hF]at n0 ⊢
 obtain⟨fo,hfo⟩:∃o:Ob,o={c:=[.int .i64 5,.slice ik 1 1,.slice ina 2 2,.slice is 1 1,v]}:=⟨_,rfl⟩
 obtain⟨H1,hH1⟩:∃G,G=H++[({c:=F}:Ob),fo,{c:=XG}]:=⟨_,rfl⟩
 have l1:H1.length=H.length+3:=by rw[hH1];simp
 have at1:∀j o,[({c:=F}:Ob),fo,{c:=XG}][j]?=some o->H1[H.length+j]?=some o:=fun j o hj=>by rw[hH1,Qd qr,Qt];exact hj
 have U:∀i,i<H.length->H1[i]?=H[i]? := fun i hi=>by rw[hH1,Qb hi]
 have m1:=h.ext U
 obtain⟨v0,k1,hen,-⟩:=Gs (k:=5) (m1.fr qr)
 have hE:frE 5 [nm].length [e,mi].length [sig].length dl.length=0:=by
  show(if(1=1/\2=2/\1=1/\(true=true\/dl.length=0))then(if 16384<dl.length then(2:Int)else 0)else 110)=0
  rw[if_pos wd,if_neg qr]
 rw[hE]at hen
 obtain⟨H2,hH2⟩:∃G,G=H1++k1:=⟨_,rfl⟩
 rw[<-hH2]at hen
 have l2:H1.length<=H2.length:=by rw[hH2,Qh];omega
 have J:∀i,i<H1.length->H2[i]?=H1[i]? := fun i hi=>by rw[hH2,Qb hi]
 have m2:=m1.ext J
 obtain⟨v1,k2,hfr,o1⟩:=AO (H:=H2) (ka := .slice ik 1 1) (na := .slice ina 2 2) (sa := .slice is 1 1) (da:=v) (nm:=nm) (e:=e) (m:=mi) (.inr ⟨_,1,_,_,_,rfl,m2.k,by rw[Qq,hn.len]⟩) (.inr ⟨_,2,_,_,_,rfl,m2.n,rfl⟩) hn.len
 have lfr:=VO e mi hn.len
 have xfr:=YX e mi hn
 obtain⟨H3,hH3⟩:∃G,G=H2++k2:=⟨_,rfl⟩
 rw[<-hH3]at hfr o1
 have l3:H2.length<=H3.length:=by rw[hH3,Qh];omega
 have I:∀i,i<H2.length->H3[i]?=H2[i]? := fun i hi=>by rw[hH3,Qb hi]
 have m3:=m2.ext I
 have p1:=o1.part xfr (by rw[lfr];decide)
 obtain⟨H4,hH4⟩:∃G,G=H3++[({c:=[v1,v]}:Ob)]:=⟨_,rfl⟩
 have l4:H4.length=H3.length+1:=by rw[hH4];simp
 have E:∀i,i<H3.length->H4[i]?=H3[i]? := fun i hi=>by rw[hH4,Qb hi]
 have at4:H4[H3.length]?=some {c:=[v1,v]}:=by rw[hH4,Qd (Qj _),Qs];rfl
 have m4:=m3.ext E
 have p2:=m3.d.part h.ld qr
 obtain⟨k3,c,hck,hsp⟩:=Cf (H:=H4) (pub:=pub) (front:=sig.take 32) (back:=sig.drop 32) (pv := .slice H3.length 2 2) (ps:=[JF nm e mi,dl]) lpu xpu (by rw[Q0,lsg];rfl) (fun y hy=>xsg y (QG hy)) (by rw[QD,lsg]) (fun y hy=>xsg y (Zq hy)) (Args.arr at4 rfl (.cons (p1.extK (fun i hi=>by have:i<H3.length:=hi;show i<_;omega) E) (.cons (p2.extK (fun i hi=>by show i<_;omega) E) .nil)) ww) (by show 2<=1000;decide) (by simp[lfr];omega)
 rw[show[JF nm e mi,dl].flatten=JF nm e mi++dl by simp]at hsp
 rw[Z7]at hck
 obtain⟨H5,hH5⟩:∃G,G=H4++k3:=⟨_,rfl⟩
 rw[<-hH5]at hck
 have l5:H4.length<=H5.length:=by rw[hH5,Qh];omega
 have O:∀i,i<H4.length->H5[i]?=H4[i]? := fun i hi=>by rw[hH5,Qb hi]
 have hB5:H.length<=H5.length:=qr
 obtain⟨H6,hH6⟩:∃G,G=H5++[({c:=F}:Ob)]:=⟨_,rfl⟩
 have l6:H6.length=H5.length+1:=by rw[hH6];simp
 have Z:∀i,i<H5.length->H6[i]?=H5[i]? := fun i hi=>by rw[hH6,Qb hi]
 have at6:H6[H5.length]?=some {c:=F}:=by rw[hH6,Qd (Qj _),Qs];rfl
 have up6:∀i,i<H3.length->H6[i]?=H3[i]? := fun i hi=>by rw[Z i qr,O i qr,E i hi]
 have Y:∀i,i<H1.length->H6[i]?=H1[i]? := fun i hi=>by rw[up6 i qr,I i qr,J i hi]
 have m6:Msg B H6 ik ina is v nm e mi sig dl:=m3.ext up6
 obtain⟨z,hz,lz⟩:∃z:List Nat,Qc 32 (Value.int .u8 0)=u8s z/\z.length=32:=⟨Qc 32 0,rfl,rfl⟩
 have mk':=m2.k
 have mn':=m2.n
 have ms3:=m3.s
 have mn6:=m6.n
 obtain⟨av,cv,hvs⟩:=p2.shape
 obtain⟨a1,c1,hv1⟩:=o1.shape
 rw[lfr]at hv1
 have w1:fillL [Value.slice none 0 0] [(0,1,v1)]=some [v1]:=by rw[hv1];rfl
 have w2:fillL [Value.slice none 0 0,.slice none 0 0] [(0,1,v1),(1,1,v)]=some [v1,v]:=by rw[hv1,hvs];rfl
 have cl5:∀a b c d e':Value,Q5 5 [a,b,c,d,e']=[a,b,c,d,e']:=fun _ _ _ _ _=>rfl
 have tnm:Q5 32 (u8s nm)=u8s nm:=Q7 (by rw[Qq,hn.len])
 have tsg:Q5 64 (u8s sig)=u8s sig:=Q7 (by rw[Qq,lsg])
 have hq:=KG hn.len hn.len
 have q1:H1[H.length]?=some {c:=F}:=at1 0 _ rfl
 have q1f:H1[H.length+1]?=some fo:=at1 1 _ rfl
 have q2:H2[H.length]?=some {c:=F}:=(J _ qr).trans q1
 have q2f:H2[H.length+1]?=some fo:=(J _ qr).trans q1f
 have q3:H3[H.length]?=some {c:=F}:=(I _ qr).trans q2
 have q3f:H3[H.length+1]?=some fo:=(I _ qr).trans q2f
 have q5:H5[H.length]?=some {c:=F}:=by rw[O _ qr,E _ qr];exact q3
 have q6:H6[H.length]?=some {c:=F}:=(Z _ qr).trans q5
 have q6f:H6[H.length+1]?=some fo:=(Y _ qr).trans q1f
 have lzF:XG.length=99:=rfl
 have tF:Q5 99 F=F:=Q7 n0
 have spF:splice XG 0 F=F:=QP (by rw[n0,lzF])
 have a5:∀o1 o:Ob,(H5++[o1]).set H5.length o=H5++[o]:=fun _ _=>by rw[Q1 _ _ (Qj _),Qs];rfl
 have a6:=at6
 have ok1:∀L:List Value,(Value.agg L.toArray).cells.toList=L:=fun _=>rfl
 have ok2:∀L:List Value,(Value.agg L.toArray).cells.size=L.length:=fun _=>rfl
 have ok3:∀L:List Value,okVar (Value.agg L.toArray)=true:=fun _=>rfl
 have im0:Qz H.length [] [H5.length]=[]:=QC (by simp;omega)
 have im2:∀j,Qz H.length [] [H.length+j]=[]:=fun j=>QC wd
 have h1:=hH1.symm
 have h4:=hH4.symm
 have h6:=hH6.symm
 have hfoc:fo.c=[.int .i64 5,.slice ik 1 1,.slice ina 2 2,.slice is 1 1,v]:=by rw[hfo]
 have hfol:fo.live=true:=by rw[hfo]
 have hfo':=hfo.symm
 have lnm:=hn.len
 have lfs:=hfo
 have tz:Q5 32 (u8s z)=u8s z:=Q7 (by rw[Qq,lz])
 have cls:okVar v=true/\v.cells.toList=[v]/\v.cells.size=1:=by rw[hvs];exact⟨rfl,rfl,rfl⟩
 obtain⟨cv1,cv2,cv3⟩:=cls
 have hfo':=hfo.symm
 have lnm:=hn.len
 have tz:Q5 32 (u8s z)=u8s z:=Q7 (by rw[Qq,lz])
 have cls:okVar v=true/\v.cells.toList=[v]/\v.cells.size=1:=by rw[hvs];exact⟨rfl,rfl,rfl⟩
 obtain⟨cv1,cv2,cv3⟩:=cls
 by_cases hc0:c=0
 rotate_left
 ·refine⟨H5.set (H.length+2) {c:=F},F,.slice none 0 0,c,?_,fun i hi =>?_,?_,n0,⟨_,_,_,rfl⟩,fun h=>absurd h hc0⟩
  rotate_left
  ·rw[Ql qr,O i qr,E i qr,I i qr,J i qr,U i hi]
  ·rw[Qr];omega
  have e5z:H5[H.length+2]?=some {c:=XG}:=by rw[O _ qr,E _ qr,I _ qr,J _ qr];exact at1 2 _ rfl
  have e5s:∀o,(H5.set (H.length+2) o)[H.length+2]?=some o:=fun o=>Qu qr
  have ec:(c != 0)=true:=bne_iff_ne.2 hc0
  clear hH1 hH2 hH3 hH4 hH5 hH6 hE hF o1 p1 p2 m1 m2 m3 m4 m6 h hsp at1 at4 at6 U J I E O Z up6 Y hn hk xpu xfr hfo r7 hdl hkm xsg
  rw[Q9 (fn:=R1) rfl]
  simp only[R1,Qv,quiet,cW,↓pW,reduceCtorEq,seval,-Qa,ec,e5z,e5s,r1,r3,r4,hen,hfr,hck,hz,mk',mn',ms3,w2,cl5,tnm,tsg,hq,q1f,q2,q2f,q3,q3f,q5,lzF,tF,spF,ok1,ok2,ok3,im2,h1,h4,hfoc,hfol,hfo',lnm,lsg,n0,Qq,D3]
 subst hc0
 have hcl:=Ia (H:=H6)
 have hS8:HS True H6.length H6 (.slice none 0 0) [] := .inl ⟨rfl,rfl⟩
 have r7c:F.set 98 (.slice none 0 0)=F:=by rw[r7,<-hF]
 have sF:H6.set H5.length {c:=F}=H6:=VR at6
 have at6':=at6
 rw[hF]at at6'
 obtain⟨K,c2,H9,M9,hKb,hky,b2,b3,b4,F',b1,n1⟩:=nL (mi:=mi) at6' hn hk lpu hm qr qr hS8 (fun x hx=>by cases hx) ww qr (Qj _)
 have up8:∀i,i<H5.length->H9[i]?=H6[i]? := fun i hi=>b2 i qr qr
 have mn8:H6[ina]?=some {c:=[.int .u32 e,.int .u32 mi]}:=m6.n
 have q9:H9[H.length]?=some {c:=F}:=(up8 _ qr).trans q6
 have q9f:H9[H.length+1]?=some fo:=(up8 _ qr).trans q6f
 have q9z:H9[H.length+2]?=some {c:=XG}:=by rw[up8 _ qr,Y _ qr];exact at1 2 _ rfl
 have imM9:Qz H.length [] M9=[]:=QC fun i hi=>by rcases b4 i hi with h|h<;>omega
 have im9:Qz H.length [] [H9.length]=[]:=QC (by simp;omega)
 have lK:=hKb.len
 have sK:=QP (cs:=u8s z) (v:=u8s K) (by rw[Qq,Qq,lz,lK])
 have tK:Q5 32 (u8s K)=u8s K:=Q7 (by rw[Qq,lK])
 have a9:∀o1 o:Ob,(H9++[o1]).set H9.length o=H9++[o]:=fun _ _=>by rw[Q1 _ _ (Qj _),Qs];rfl
 have e9c:∀o:Ob,(H9++[o])[H9.length]?=some o:=fun o=>by rw[Qd (Qj _),Qs];rfl
 have e9b:∀L:List Ob,(H9++L)[H.length+1]?=some fo:=fun L=>by rw[Qb qr];exact q9f
 have e9a:∀L:List Ob,(H9++L)[H.length]?=some {c:=F}:=fun L=>by rw[Qb qr];exact q9
 have e9z:∀L:List Ob,(H9++L)[H.length+2]?=some {c:=XG}:=fun L=>by rw[Qb qr];exact q9z
 have tF':Q5 99 F'=F':=Q7 n1
 have spF':splice XG 0 F'=F':=QP (by rw[n1,lzF])
 by_cases hc2:c2=0
 rotate_left
 ·refine⟨(H9++[({c:=u8s K}:Ob)]).set (H.length+2) {c:=F},F,.slice none 0 0,c2,?_,fun i hi =>?_,?_,n0,⟨_,_,_,rfl⟩,fun h=>absurd h hc2⟩
  rotate_left
  ·rw[Ql qr,Qb qr,up8 i qr,Y i qr,U i hi]
  ·rw[Qr,Qh];omega
  have e5s:∀(L:List Ob) (o:Ob),((H9++L).set (H.length+2) o)[H.length+2]?=some o:=fun L o=>Qu (by rw[Qh];omega)
  have ec:(c2 != 0)=true:=bne_iff_ne.2 hc2
  clear hH1 hH2 hH3 hH4 hH5 hH6 hE hF o1 p1 p2 m1 m2 m3 m4 m6 h hsp at1 at4 at6 at6' U J I E O Z up6 Y up8 hn hk xpu xfr hfo r7 hdl hkm xsg b1 b2 b3 b4 hKb
  rw[Q9 (fn:=R1) rfl]
  simp only[R1,Qv,quiet,cW,↓pW,reduceCtorEq,seval,-Qa,ec,hky,mn8,imM9,im9,lK,sK,a9,e9a,e9c,e9z,e5s,sF,r1,r3,r4,r6,r7c,hen,hfr,hck,hcl,hz,lz,mk',mn',ms3,w2,cl5,tnm,tsg,hq,q1f,q2,q2f,q3,q3f,q5,q6,q6f,lzF,tF,spF,a5,a6,ok1,ok2,ok3,im0,im2,h1,h4,h6,hfoc,hfol,hfo',lnm,lsg,n0,Qq,D3]
 subst hc2
 have hbx:=OV hKb
 have xA:=Ls hKb
 have xB:=T2 K
 obtain⟨HA,hHA⟩:∃G,G=H9++[({c:=u8s K}:Ob),{c:=[v1]}]:=⟨_,rfl⟩
 have lA:HA.length=H9.length+2:=by rw[hHA];simp
 have upA:∀i,i<H9.length->HA[i]?=H9[i]? := fun i hi=>by rw[hHA,Qb hi]
 have upA3:∀i,i<H3.length->HA[i]?=H3[i]? := fun i hi=>by rw[upA i qr,up8 i qr,up6 i hi]
 have e9v:HA[H9.length+1]?=some {c:=[v1]}:=by rw[hHA,Qd qr,Qt];rfl
 obtain⟨di,dof,dc,dob,rfl,d1,d2,d3,d4,-⟩:=(m3.ext upA3).d
 rw[hdl]at d1 d2
 obtain⟨v2,c3,HB,MB,hop,hv2,c2',c3',c4'⟩:=mF (H:=HA) (id:=di) (off:=dof) (c:=dc) (pv := .slice (H9.length+1:Nat) 1 1) (xs:=[v1]) (ps:=[JF nm e mi]) xA hbx.2.1 xB d1 ltg qr (.inr ⟨_,0,1,_,rfl,by omega,e9v,rfl,fun i hi=>by rw[QH]⟩) (.cons (p1.extK (fun i hi=>by have:i<H3.length:=hi;omega) upA3) .nil) (by show 1<2^50;decide) (by simp[lfr]) d2 (fun o ho=>by rw[d3]at ho;cases ho;exact .inr (.inr (Nat.le_of_eq d4.symm)))
 rw[<-hdl]at hop
 have uB:∀i,i<H.length->HB[i]?=H[i]? := fun i hi=>by rw[c2' i qr,upA3 i qr,I i qr,J i qr,U i hi]
 have e10:HB[H5.length]?=some {c:=F'}:=by rw[c2' _ qr,upA _ qr];exact b1
 have e10a:HB[H.length]?=some {c:=F}:=by rw[c2' _ qr,upA _ qr];exact q9
 have e10z:HB[H.length+2]?=some {c:=XG}:=by rw[c2' _ qr,upA _ qr];exact q9z
 have e10s:∀o,(HB.set (H.length+2) o)[H.length+2]?=some o:=fun o=>Qu qr
 have imMB:Qz H.length [] MB=[]:=QC fun i hi=>by have:=c4' i hi;omega
 have hA:=hHA.symm
 have hbv:=hbx.2.2
 have lAB:(UK K++UJ K).length=44:=by rw[Qh,hbx.1,hbx.2.1]
 have lB:H.length<=(HB.set (H.length+2) {c:=F}).length:=by rw[Qr];omega
 have lB':H.length<=(HB.set (H.length+2) {c:=F'}).length:=by rw[Qr];omega
 obtain⟨va,vl,vc,hv2e⟩:=hv2
 by_cases hc3:c3=0
 rotate_left
 ·refine⟨HB.set (H.length+2) {c:=F},F,.slice none 0 0,c3,?_,fun i hi=>by rw[Ql qr,uB i hi],lB,n0,⟨_,_,_,rfl⟩,fun h=>absurd h hc3⟩
  have ec:(c3 != 0)=true:=bne_iff_ne.2 hc3
  clear hH1 hH2 hH3 hH4 hH5 hH6 hHA hE hF o1 p1 p2 m1 m2 m3 m4 m6 h hsp at1 at4 at6 at6' U J I E O Z up6 Y up8 upA upA3 hn hk xpu xfr hfo r7 hdl hkm xsg b1 b2 b3 b4 c2' c3' c4' d1 d2 d3 d4 xA xB hbx hKb uB e9v lB lB'
  generalize UK K++UJ K=AB at *
  subst hv2e
  rw[Q9 (fn:=R1) rfl]
  simp only[R1,Qv,quiet,cW,↓pW,reduceCtorEq,seval,-Qa,ec,hky,hop,hbv,hA,mn8,imM9,im9,imMB,lK,sK,tK,a9,e9b,e9c,e10a,e10z,e10s,sF,r1,r3,r4,r6,r7c,hen,hfr,hck,hcl,hz,lz,mk',mn',ms3,w1,w2,cl5,tnm,tsg,hq,q1f,q2,q2f,q3,q3f,q5,q6,q6f,lzF,tF,spF,a5,a6,ok1,ok2,ok3,im0,im2,h1,h4,h6,hfoc,hfol,hfo',lnm,lsg,n0,Qq,D3]
 subst hc3
 refine⟨HB.set (H.length+2) {c:=F'},F',v2,0,?_,fun i hi=>by rw[Ql qr,uB i hi],lB',n1,⟨_,_,_,hv2e⟩,fun _=>hsp⟩
 clear hH1 hH2 hH3 hH4 hH5 hH6 hHA hE hF o1 p1 p2 m1 m2 m3 m4 m6 h hsp at1 at4 at6 at6' U J I E O Z up6 Y up8 upA upA3 hn hk xpu xfr hfo r7 hdl hkm xsg b1 b2 b3 b4 c2' c3' c4' d1 d2 d3 d4 xA xB hbx hKb uB e9v lB lB'
 generalize UK K++UJ K=AB at *
 subst hv2e
 rw[Q9 (fn:=R1) rfl]
 simp only[R1,Qv,quiet,cW,↓pW,reduceCtorEq,seval,-Qa,hky,hop,hbv,hA,mn8,imM9,im9,imMB,lK,sK,tK,a9,e9b,e9c,e10,e10z,e10s,tF',spF',n1,sF,r1,r3,r4,r6,r7c,hen,hfr,hck,hcl,hz,lz,mk',mn',ms3,w1,w2,cl5,tnm,tsg,hq,q1f,q2,q2f,q3,q3f,q5,q6,q6f,lzF,tF,spF,a5,a6,ok1,ok2,ok3,im0,im2,h1,h4,h6,hfoc,hfol,hfo',lnm,lsg,n0,Qq,D3]
def FX{ka na sa da:Value}(hk:Sq H 32 (u8s nm) 1 ka)(hn:Sq H 1 (ns32 [e,m]) 2 na)(lk:nm.length=32)(e32:e<2^32)(m32:m<2^32)(hda:∃a l c,da=.slice a l c)(hsa:∃a l c,sa=.slice a l c) :
  ∃l,Zp T 15 [.agg #[.int .i64 5,ka,na,sa,da]] H=some (Jx (JF nm e m),H++l,[]):=by
 have I:=YE
 have lz:(Qc 64 0).length=64:=List.length_replicate
 obtain⟨Y,E⟩:∃X,X=[({c:=[.int .i64 5,ka,na,.slice (H.length+1:Nat) 1 1,.slice none 0 0]}:Ob),{c:=u8s (Qc 64 0)}]:=⟨_,rfl⟩
 have g1:(H++Y)[H.length+1]?=some {c:=u8s (Qc 64 0)}:=by rw[E,Qd qr,Qt];rfl
 have F:FrV (H++Y) ka na (.slice (H.length+1:Nat) 1 1) (.slice none 0 0) [nm] [e,m] [Qc 64 0] [] :=
  ⟨by rw[show[nm].flatten=nm by simp];exact hk.app,fun x O=>by rw[Zu.1 O];exact lk,hn.app,.inr ⟨_,1,_,_,_,rfl,by rw[show[Qc 64 0].flatten=Qc 64 0 by simp];exact g1,by rw[Qq];simp⟩,fun x O=>by rw[Zu.1 O];exact lz,⟨⟨_,_,rfl⟩,fun _ _=>rfl⟩⟩
 obtain⟨v,l,he,q1,-⟩:=SX (k:=5) F (fun x O=>(List.mem_cons.1 O).elim (fun h=>h▸e32) fun h=>Zu.1 h▸m32)
 have hE:frE 5 [nm].length [e,m].length [Qc 64 0].length ([]:List Nat).length=0:=rfl
 have q2:v=Jx (JF nm e m):=q1 1 2 1 true rfl hE
 rw[hE,Qx,q2]at he
 refine⟨Y++l,?_⟩
 have g00:Y[0]?=some {c:=[.int .i64 5,ka,na,.slice (H.length+1:Nat) 1 1,.slice none 0 0]}:=by rw[E];rfl
 have h1:=E.symm
 have f64:=D9 lz
 rw[I]at f64
 have fz:∀L:List Value,fillL L []=some L:=fun _=>rfl
 have ok1:∀L:List Value,(Value.agg L.toArray).cells.toList=L:=fun _=>rfl
 have Z:∀L:List Value,okVar (Value.agg L.toArray)=true:=fun _=>rfl
 have e2:∀J:Ob,(H++[J])[H.length]?=some J:=fun _=>by rw[Qd (Qj _),Qs];rfl
 have e3:∀J U:Ob,(H++[J,U])[H.length]?=some J:=fun _ _=>by rw[Qd (Qj _),Qs];rfl
 have t3:∀J U o:Ob,(H++[J,U]).set H.length o=H++[o,U]:=fun _ _ _=>by rw[Q1 _ _ (Qj _),Qs];rfl
 have cl5:∀a b c d e:Value,Q5 5 [a,b,c,d,e]=[a,b,c,d,e]:=fun _ _ _ _ _=>rfl
 obtain⟨x1,x2,x3,rfl⟩:=hda
 obtain⟨y1,y2,y3,rfl⟩:=hsa
 clear E F q1 q2 hE
 generalize Jx (JF nm e m)=R,Qc 64 0=Z64 at *
 rw[Q9 (fn:=zg) rfl]
 simp only[zg,Qv,quiet,cW,↓pW,reduceCtorEq,seval,-Qa,he,g00,h1,f64,fz,I,e2,e3,t3,cl5,ok1,Z]
def tcI(Hm:List Ob)(m:Value)(F B:List Nat)(i:Nat)(ex:Env):St:=⟨[(2,m),(3,.pointer (0:Nat)),(4,.pointer (1:Nat)),(7,.pointer (2:Nat)),(9,.pointer (3:Nat)),(10,.pointer (4:Nat)),(11,.int .i64 i)]++ex,Hm++[{c:=u8s F},{c:=u8s B}],[]⟩
def i9{o0 o2:Ob}{m:Value}{F B:List Nat}(lF:F.length=32)(lB:B.length=32) :
  Q4 T 0 (.block 0 (.loop Mx)) (tcI [o0,{c:=u8s (F++B)},o2] m (dig 256 32 0) (dig 256 32 0) 0 [])=some (.normal,tcI [o0,{c:=u8s (F++B)},o2] m F B 32 [(26,.bool false)]):=by
 have h:=JB (T:=T) (base:=0) (id:=0) (body:=Mx) (fun i=>tcI [o0,{c:=u8s (F++B)},o2] m (pf 32 F i) (pf 32 B i) i []) (s':=tcI [o0,{c:=u8s (F++B)},o2] m F B 32 [(26,.bool false)]) 32
  (fun i hi=>by
   have hi:i<32:=hi
   obtain⟨w,hw⟩:∃w,F[i]?=some w:=⟨_,Qg qr⟩
   obtain⟨z,hz⟩:∃z,B[i]?=some z:=⟨_,Qg qr⟩
   have s1:=K7 lF hi hw
   have s2:=K7 lB hi hz
   have E:=Xg (pf 32 F i) i w
   have hset2:=Xg (pf 32 B i) i z
   rw[s1]at E
   rw[s2]at hset2
   have Y:i+1<=(u8s (pf 32 F i)).length:=by rw[Qq,Vm lF qr];omega
   have U:i+1<=(u8s (pf 32 B i)).length:=by rw[Qq,Vm lB qr];omega
   have e1:((i:Int)<32)=True:=wr
   have e2:((i:Int)<64)=True:=wr
   have e3:(((i+32:Nat):Int)<64)=True:=wr
   have O:IntKind.i64.wrap ((i:Int)+1)=((i+1:Nat):Int):=Zm (b:=1) qr
   have J:IntKind.i64.wrap ((i:Int)+32)=((i+32:Nat):Int):=Zm (b:=32) qr
   have gw:(u8s (F++B))[i]?=some (.int .u8 (w:Nat)):=ZN (by rw[Qb qr,hw])
   have gz:(u8s (F++B))[i+32]?=some (.int .u8 (z:Nat)):=ZN (by rw[Qd qr,lF,Nat.add_sub_cancel,hz])
   generalize pf 32 F i=O1,pf 32 F (i+1)=O2,pf 32 B i=O3,pf 32 B (i+1)=O4 at *
   generalize I:i+1=i1 at *
   generalize hi2:i+32=i2 at *
   generalize F++B=SG at *
   have Z:∀k,Qz 0 [] [k]=[]:=fun k=>QC wd
   simp only[tcI,Mx,Qv,quiet,cW,↓pW,reduceCtorEq,seval,-Qa,e1,e2,e3,O,J,gw,gz,E,hset2,Y,U,I,Z])
  (by
   rw[Vy lF,Vy lB]
   simp only[tcI,Mx,Qv,quiet,cW,↓pW,reduceCtorEq,seval,-Qa])
 rw[Vx,Vx]at h
 exact h
def fJ:enc Ki=dig 256 32 1:=by decide +kernel
def pX{S K R:Go.Cv.Pt Go.Fp.P Go.Fp.d}:Xw S K.neg=R↔S=Xw R K:=by
 have hz:∀p:Go.Cv.Pt Go.Fp.P Go.Fp.d,Xw p Ki=p:=fun p=>Go.Cv.add_zero Go.Fp.fld p
 have hn:Xw K.neg K=Ki:=by rw[Fs];exact As K
 constructor
 ·intro h
  rw[<-h,HT,hn,hz]
 ·intro h
  rw[h,HT,As,hz]
def eh:fillL (u8s (dig 256 32 0)) [(0,1,.int .u8 8)]=some (u8s (dig 256 32 8)):=by rfl
def uc:fillL (u8s (dig 256 32 0)) [(0,1,.int .u8 1)]=some (u8s (dig 256 32 1)):=by rfl
def Ab{pub front back m:List Nat}{c:Int}(lp:pub.length=32)(xp:∀y∈pub,y<256)(lf:front.length=32)(xf:∀y∈front,y<256)(lb:back.length=32)(xb:∀y∈back,y<256)(xm:∀y∈m,y<256)(hm:m.length<2^45)(hc:T7 pub front back m c) :
  Zo T 16 [.agg (u8s pub).toArray,.agg (u8s (front++back)).toArray,Jx m]=some (.int .i64 c):=by
 have hz:Qc 32 (Value.int .u8 0)=u8s (dig 256 32 0):=rfl
 have lz:(dig 256 32 0).length=32:=rfl
 have fz:=L8
 have I:=MJ
 have E:=BX
 have rft:∀(r:List Nat) (c:Int),rf (Value.tuple #[eV r,.int .i64 c])=true:=fun r c=>Gl (a:=eV r) (b := .int .i64 c) (ZY r) rfl
 have lS:(front++back).length=64:=by rw[Qh,lf,lb]
 have r0:rf (Jx m)=true:=rfl
 rcases Ra lp xp with⟨A,a,hA,rA,eA⟩|⟨A,hA,lA,hno⟩
 ·unfold WU at hA
  have p1:=rA.len
  have hl:=i9 (o0:={c:=u8s pub}) (o2:={c:=ns .u64 A}) (m:=Jx m) lf lb
  simp only[tcI,Qp,Qn,Int.natCast_zero]at hl
  obtain⟨a',ea',hc⟩:∃A,enc A=pub/\(((J2 8 A=Ki\/¬num 256 back<ell)/\c=70)\/(J2 8 A≠Ki/\num 256 back<ell /\
   (((∀R,enc R≠front)/\c=70)\/∃R,enc R=front/\c=if Xw (J2 (num 256 back) X5) (J2 (num 256 (chL front pub m)) A.neg)=R then 0 else 70))):=by
   rcases hc with h|h
   ·exact absurd eA (h.1 a)
   ·exact h
  have haa:a'=a:=Lj (ea'.trans eA.symm)
  subst haa
  obtain⟨P8,h8,r8⟩:=Bs rA (k:=dig 256 32 8) (Ze _ _ _) Uw
  rw[show num 256 (dig 256 32 8)=8 by decide +kernel]at r8
  have hE8:=MY r8
  have k8:=eh
  have k1:=uc
  have l8:(dig 256 32 8).length=32:=rfl
  have l1:(dig 256 32 1).length=32:=rfl
  have lE8:=Yz (J2 8 a')
  have q8:JK (Qc 32 true) (u8s (enc (J2 8 a'))) (u8s (dig 256 32 1))=some (decide (J2 8 a'=Ki)):=by
   rw[KG lE8 l1,<-fJ,DH]
  obtain⟨qc,hcn⟩:=RZ lb xb
  have hcv:=Ur hcn
  clear hcn
  by_cases htiny:J2 8 a'=Ki
  ·have O:c=70:=by
    rcases hc with h|h
    ·exact h.2
    ·exact absurd htiny h.1
   subst O
   rw[decide_eq_true htiny]at q8
   generalize enc (J2 8 a')=E8 at *
   generalize front++back=SG at *
   generalize Jx m=M,dig 256 32 8=K8,dig 256 32 1=K1,dig 256 32 0=Z at *
   generalize KS=Z48 at *
   apply Zb (fn:=R3) rfl
   simp only[R3,Qv,quiet,cW,↓pW,reduceCtorEq,seval,-Qa,hz,fz,I,hA,hl,h8,hE8,k8,k1,q8,QR,Zr,ZZ,Zi,QA,Qq,lp,lz,E,p1,Q7,rft,ZY]
   rfl
  ·rw[decide_eq_false htiny]at q8
   by_cases U:num 256 back<ell
   ·rw[decide_eq_true U]at hcv
    have hc:(((∀R,enc R≠front)/\c=70)\/∃R,enc R=front/\c=if Xw (J2 (num 256 back) X5) (J2 (num 256 (chL front pub m)) a'.neg)=R then 0 else 70):=by
     rcases hc with h|h
     ·rcases h.1 with h|h
      ·exact absurd h htiny
      ·exact absurd U h
     ·exact h.2.2
    rcases Ra lf xf with⟨R,r,hR,rR,eR⟩|⟨R,hR,lR,hnR⟩
    ·unfold WU at hR
     have p2:=rR.len
     have hcr:c=if Xw (J2 (num 256 back) X5) (J2 (num 256 (chL front pub m)) a'.neg)=r then 0 else 70:=by
      rcases hc with h|⟨r',er',h⟩
      ·exact absurd eR (h.1 r)
      ·rw[<-Lj (er'.trans eR.symm)];exact h
     rw[Nx]at hcr
     simp only[pX]at hcr
     have t2:=bh lf xf
     have t3:=bh lp xp
     have a2:JC .add (Jx front) (Jx pub)=some (Jx (front++pub)):=VF (by rw[lf,lp];decide)
     have a3:JC .add (Jx (front++pub)) (Jx m)=some (Jx (front++pub++m)):=VF (by rw[Qh,lf,lp];omega)
     have n2:Zo T 50 [Jx (front++pub++m)]=some (.agg (u8s (chL front pub m)).toArray):=by
      rw[chL,<-Qx]
      exact dp (fun y hy=>(QB.1 hy).elim (fun h=>(QB.1 h).elim (xf y) (xp y)) (xm y)) (by rw[Qh,Qh,lf,lp];omega)
     have l4:(chL front pub m).length=32:=Bu
     obtain⟨B,hB,rB⟩:=si
     obtain⟨X,hX,rX⟩:=Bs rB lb xb
     have hEX:=MY rX
     obtain⟨Y,hY,rY⟩:=Bs rA l4 Ds
     obtain⟨D,hD,nD,fD⟩:=xj
     obtain⟨W,hW,rW⟩:=IA rR rY nD fD
     have hEW:=MY rW
     have lEX:=Yz (J2 (num 256 back) X5)
     have lEW:=Yz (Xw r (J2 (num 256 (chL front pub m)) a'))
     have qf:JK (Qc 32 true) (u8s (enc (J2 (num 256 back) X5))) (u8s (enc (Xw r (J2 (num 256 (chL front pub m)) a'))))=some (decide (J2 (num 256 back) X5=Xw r (J2 (num 256 (chL front pub m)) a'))):=by
      rw[KG lEX lEW,DH]
     have r1:rf (Jx (front++pub++m))=true:=rfl
     have r2:rf (Jx front)=true:=rfl
     have r3:rf (Jx pub)=true:=rfl
     have p3:=rX.len
     have p4:=rY.len
     have p5:=rW.len
     have p6:=rB.len
     by_cases J:J2 (num 256 back) X5=Xw r (J2 (num 256 (chL front pub m)) a')
     ·rw[if_pos J]at hcr
      subst hcr
      rw[decide_eq_true J]at qf
      clear hc J rX rY rW rB rR rA r8
      generalize enc (J2 (num 256 back) X5)=EX,enc (Xw r (J2 (num 256 (chL front pub m)) a'))=EW at *
      generalize chL front pub m=CH,enc (J2 8 a')=E8,Jx (front++pub++m)=V1,Jx (front++pub)=V2,Jx front=V3,Jx pub=V4 at *
      generalize front++back=SG at *
      generalize Jx m=M,dig 256 32 8=K8,dig 256 32 1=K1,dig 256 32 0=Z at *
      generalize KS=Z48 at *
      apply Zb (fn:=R3) rfl
      simp only[R3,Qv,quiet,cW,↓pW,reduceCtorEq,seval,-Qa,hz,fz,I,hA,hl,h8,hE8,k8,k1,q8,hcv,hR,t2,t3,a2,a3,n2,hB,hX,hEX,hY,hD,hW,hEW,qf,QR,Zr,ZZ,Zi,QA,Qq,lp,lf,lb,lz,E,l4,p1,p2,Q7,rft,ZY,r1,r2,r3]
      rfl
     ·rw[if_neg J]at hcr
      subst hcr
      rw[decide_eq_false J]at qf
      clear hc J rX rY rW rB rR rA r8
      generalize enc (J2 (num 256 back) X5)=EX,enc (Xw r (J2 (num 256 (chL front pub m)) a'))=EW at *
      generalize chL front pub m=CH,enc (J2 8 a')=E8,Jx (front++pub++m)=V1,Jx (front++pub)=V2,Jx front=V3,Jx pub=V4 at *
      generalize front++back=SG at *
      generalize Jx m=M,dig 256 32 8=K8,dig 256 32 1=K1,dig 256 32 0=Z at *
      generalize KS=Z48 at *
      apply Zb (fn:=R3) rfl
      simp only[R3,Qv,quiet,cW,↓pW,reduceCtorEq,seval,-Qa,hz,fz,I,hA,hl,h8,hE8,k8,k1,q8,hcv,hR,t2,t3,a2,a3,n2,hB,hX,hEX,hY,hD,hW,hEW,qf,QR,Zr,ZZ,Zi,QA,Qq,lp,lf,lb,lz,E,l4,p1,p2,Q7,rft,ZY,r1,r2,r3]
      rfl
    ·unfold WU at hR
     have O:c=70:=by
      rcases hc with h|⟨r',er',h⟩
      ·exact h.2
      ·exact absurd er' (hnR r')
     subst O
     clear hc
     generalize enc (J2 8 a')=E8 at *
     generalize front++back=SG at *
     generalize Jx m=M,dig 256 32 8=K8,dig 256 32 1=K1,dig 256 32 0=Z at *
     generalize KS=Z48 at *
     apply Zb (fn:=R3) rfl
     simp only[R3,Qv,quiet,cW,↓pW,reduceCtorEq,seval,-Qa,hz,fz,I,hA,hl,h8,hE8,k8,k1,q8,hcv,hR,QR,Zr,ZZ,Zi,QA,Qq,lp,lf,lb,lz,E,lR,p1,Q7,rft,ZY]
     rfl
   ·rw[decide_eq_false U]at hcv
    have O:c=70:=by
     rcases hc with h|h
     ·exact h.2
     ·exact absurd h.2.1 U
    subst O
    clear hc
    generalize enc (J2 8 a')=E8 at *
    generalize front++back=SG at *
    generalize Jx m=M,dig 256 32 8=K8,dig 256 32 1=K1,dig 256 32 0=Z at *
    generalize KS=Z48 at *
    apply Zb (fn:=R3) rfl
    simp only[R3,Qv,quiet,cW,↓pW,reduceCtorEq,seval,-Qa,hz,fz,I,hA,hl,h8,hE8,k8,k1,q8,hcv,QR,Zr,ZZ,Zi,QA,Qq,lp,lb,lz,E,p1,Q7,rft,ZY]
    rfl
 ·unfold WU at hA
  have hc60:c=60:=by
   rcases hc with h|⟨a,ea,h⟩
   ·exact h.2
   ·exact absurd ea (hno a)
  subst hc60
  clear hc
  generalize front++back=SG at *
  generalize Jx m=M at *
  generalize KS=Z48 at *
  apply Zb (fn:=R3) rfl
  simp only[R3,Qv,quiet,cW,↓pW,reduceCtorEq,seval,-Qa,hz,I,hA,QR,Zr,ZZ,QA,Qq,lp,E,lA,Q7,rft]
  rfl
end
section
attribute [local congr] Jw JD Jv JE Jk
variable{nm key sg dl pub sig:List Nat}{e m b w p ik ina is B n mi x y:Nat}{G H:List Ob}{v tv:Value}{c1 c2 c0:Int}
def f9S(w p:Nat)(G:List Ob)(L:List Nat):St:=⟨[(7,.pointer w),(10,.pointer p)],G,L⟩
def Ln(hn:B32 nm)(E:∀y∈dl,y<256):∀y∈JF nm e mi++dl,y<256:=fun y I=>(QB.1 I).elim (YX e mi hn y) (E y)
def AQ{ct tg:List Nat}{L:List Nat}(hw:G[w]?=some {c:=fol nm e m key pub (.slice none 0 0)})(hp:G[p]?=some {c:=[.int .i64 5,.slice ik 1 1,.slice ina 2 2,.slice is 1 1,v]})
 (h:Msg B G ik ina is v nm e mi sig dl) (hk:B32 key) (J:pub.length=32) (xpu:∀y∈pub,y<256) (hdl:dl=ct++tg) (ltg:tg.length=16) (lct:ct.length<=16368) (hm:m<=mi) (hm2:mi<=m+1) (hmi:m<16777216) (e32:e<2^32) (xd:∀y∈dl,y<256) (hb:b<=G.length) :
    ∃G',Q4 T b T4 (f9S w p G L)=some (.ret,⟨[(6,.bool true)],G',L⟩):=by
  have hn:=h.lk
  have I:=h.ls
  have ldl:dl.length=ct.length+16:=by rw[hdl,Qh,ltg]
  obtain⟨G1,r,v',c,O,E,l1,lr,⟨a',l',c',rfl⟩,hchk⟩:=FY h hk J xpu hdl ltg lct hm hm2 hmi
  simp only[D3]at O
  have lW:=VK (e:=e) (m:=m) (hv := .slice none 0 0) hn.len hk.len J
  have tpu:Q5 32 (ZT 66 (fol nm e m key pub (.slice none 0 0)))=u8s pub:=Tx hn.len hk.len J
  obtain⟨W,hW⟩:∃W,W=fol nm e m key pub (.slice none 0 0):=⟨_,rfl⟩
  rw[<-hW]at hw O lW tpu
  have tW:Q5 99 W=W:=Q7 lW
  obtain⟨fo,U⟩:∃o:Ob,o={c:=[.int .i64 5,.slice ik 1 1,.slice ina 2 2,.slice is 1 1,v]}:=⟨_,rfl⟩
  rw[<-U]at hp
  have hwl:=(Qf.1 hw).1
  have hpl:=(Qf.1 hp).1
  have spr:splice XG 0 r=r:=QP (by rw[lr];rfl)
  have lz:XG.length=99:=rfl
  have cl5:∀a b c d e':Value,Q5 5 [a,b,c,d,e']=[a,b,c,d,e']:=fun _ _ _ _ _=>rfl
  have Z:fo.c=[.int .i64 5,.slice ik 1 1,.slice ina 2 2,.slice is 1 1,v]:=by rw[U]
  have Y:fo.live=true:=by rw[U]
  have a1:∀o o':Ob,(G1++[o]).set G1.length o'=G1++[o']:=fun _ _=>by rw[Q1 _ _ (Qj _),Qs];rfl
  have e1:∀o:Ob,(G1++[o])[G1.length]?=some o:=fun o=>by rw[Qd (Qj _),Qs];rfl
  have im1:∀L,Qz b L [G1.length]=L:=fun L=>QC (by simp;omega)
  have ok1:∀L:List Value,(Value.agg L.toArray).cells.toList=L:=fun _=>rfl
  have ok2:∀L:List Value,(Value.agg L.toArray).cells.size=L.length:=fun _=>rfl
  have ok3:∀L:List Value,okVar (Value.agg L.toArray)=true:=fun _=>rfl
  by_cases hc:c=0
  · subst hc
    have m1:=h.ext (G:=G1++[({c:=r}:Ob)]) fun i hi=>by rw[Qb qr,E i hi]
    obtain⟨l2,hfr⟩:=FX (H:=G1++[({c:=r}:Ob)]) (ka := .slice ik 1 1) (na := .slice ina 2 2) (sa := .slice is 1 1) (da:=v) (nm:=nm) (e:=e) (m:=mi) (.inr ⟨_,1,_,_,_,rfl,m1.k,by rw[Qq,hn.len]⟩) (.inr ⟨_,2,_,_,_,rfl,m1.n,rfl⟩) hn.len e32 qr (by obtain⟨_,_,_,_,hv,-⟩:=h.d;exact⟨_,_,_,hv⟩) ⟨_,_,_,rfl⟩
    have hck:=hchk rfl
    have hrc:=Ab J xpu (by rw[Q0,I];rfl) (fun y hy=>h.xs y (QG hy)) (by rw[QD,I]) (fun y hy=>h.xs y (Zq hy)) (Ln hn xd) (by rw[Qh,VO e mi hn.len];omega) hck
    rw[Z7]at hrc
    have p2:=m1.d.part h.ld qr
    have hbs:=OZ (H:=G1++[({c:=r}:Ob)]) (X:=(G1++[({c:=r}:Ob)])++l2) ⟨p2.shape,p2.reads⟩ fun i hi=>Qb hi
    simp only[Qx,Qp,Qn]at hbs
    have hadd:=VF (a:=JF nm e mi) (b:=dl) (by rw[VO e mi hn.len];omega)
    have ms:=m1.s
    have tsg:Q5 64 (u8s sig)=u8s sig:=Q7 (by rw[Qq,I])
    have g1:∀X:List Ob,(G1++X)[w]?=some {c:=W}:=fun X=>by rw[Qb qr,E w hwl];exact hw
    have g2:∀X:List Ob,(G1++X)[p]?=some fo:=fun X=>by rw[Qb qr,E p hpl];exact hp
    have q1:=(E w hwl).trans hw
    have q2:=(E p hpl).trans hp
    have rfs:∀l,rf (Jx l)=true:=fun _=>rfl
    clear U h m1 E hchk hck hW xd xpu hk hn p2
    generalize JF nm e mi++dl=FD at *
    generalize JF nm e mi=FL at *
    apply Zk
    simp only[f9S,T4,Qv,quiet,cW,↓pW,reduceCtorEq,seval,-Qa,hw,hp,O,tW,lW,tpu,Z,Y,cl5,lr,spr,lz,a1,e1,im1,ok1,ok2,ok3,hfr,hrc,hbs,hadd,rfs,ms,tsg,I,g1,g2,Qq]
    rfl
  · have ec:(c != 0)=true:=bne_iff_ne.2 hc
    have ec2:(c==0)=false:=beq_eq_false_iff_ne.2 hc
    apply Zk
    simp only[f9S,T4,Qv,quiet,cW,↓pW,reduceCtorEq,seval,-Qa,hw,hp,O,tW,lW,Z,Y,cl5,lr,spr,lz,a1,e1,im1,ok1,ok2,ok3,ec]
    rfl
def LR(c:Int)(E:0<n)(hn:n<2^40):∃k:Nat,k<n/\(IntKind.i64.wrap (c.tmod (n:Int)+(n:Int))).tmod (n:Int)=(k:Int):=by
 have J : -(n:Int)<c.tmod n/\c.tmod n<n:=by
  cases c with
  |ofNat m =>
   have:=Q3 m E
   rw[show(Int.ofNat m).tmod n=((m%n:Nat):Int) from rfl];omega
  |negSucc m =>
   have:=Q3 (m+1) E
   rw[show(Int.negSucc m).tmod n = -(((m+1)%n:Nat):Int) from rfl];omega
 generalize c.tmod n=r at *
 have I:IntKind.i64.wrap (r+n)=r+n:=Zd qr qr
 rw[I]
 obtain⟨m,hm⟩:∃m:Nat,r+n=(m:Int):=⟨(r+n).toNat,by omega⟩
 rw[hm]
 exact⟨m%n,Q3 _ E,rfl⟩
def OutS.own{K:Nat->Prop}{G:List Ob}{v:Value}{t:List Nat}(h:OutS K G v t)(Y:0<t.length):∃id off all x,v=.slice (some ⟨id,off,none⟩) t.length t.length/\¬K id/\G[id]?=some ⟨u8s all,true,true,x,1⟩/\off+t.length<=all.length/\∀i,i<t.length->all[off+i]?=t[i]? := by
 rcases h with⟨id,I,rfl,E⟩|h
 ·exact⟨id,0,t,true,rfl,I,E,by omega,fun i _=>by rw[QH]⟩
 ·obtain⟨id,off,all,I,E,U,O,J⟩:=h.own_of Y
  exact⟨id,off,all,false,I,E,U,O,J⟩
def Ps(I:x<256)(E:y<256):x^^^y<256:=Nat.xor_lt_two_pow (n:=8) I E
def Tq{l:List Nat}(E:∀y∈l,y<256){v:Nat}(hv:v<256):∀y∈l.set n v,y<256:=fun y I=>by
 rcases List.mem_or_eq_of_mem_set I with h|h
 ·exact E y h
 ·omega
def f8S(c w p:Nat)(G:List Ob):St:=⟨[(5,.pointer c),(7,.pointer w),(10,.pointer p),(84,.bool false)],G,[]⟩
def oJ{c:Nat}{c0:Int}(hc:G[c]?=some {c:=[.int .i64 c0,.int .i64 c1,.int .i64 c2]})(hw:G[w]?=some {c:=fol nm e m key pub (.slice none 0 0)})(hp:G[p]?=some {c:=[.int .i64 5,.slice ik 1 1,.slice ina 2 2,.slice is 1 1,v]})
 (h:Msg B G ik ina is v nm e m sig dl) (hk:B32 key) (lpu:pub.length=32) (xpu:∀y∈pub,y<256) (ldl:16<=dl.length) (ldl2:dl.length<=16384) (hmi:m<16777216) (e32:e<2^32) (hb:b<=G.length) (hbp:b<=p) (hdis:p≠w/\p≠c/\p≠ik/\p≠ina/\p≠is/\w≠ik) :
    ∃G',Q4 T b UP (f8S c w p G)=some (.ret,⟨[(6,.bool true)],G',[]⟩):=by
  have hn:=h.lk
  have lsg:=h.ls
  have O:∀y∈dl,y<256:=by obtain⟨_,_,_,_,_,hr,-⟩:=h.d;exact hr.lt
  have hwl:=(Qf.1 hw).1
  have hpl:=(Qf.1 hp).1
  have hcl:=(Qf.1 hc).1
  have hikl:=(Qf.1 h.k).1
  have hinl:=(Qf.1 h.n).1
  have hisl:=(Qf.1 h.s).1
  obtain⟨d1,d2,d3,d4,d5,d6⟩:=hdis
  obtain⟨W,hW⟩:∃W,W=fol nm e m key pub (.slice none 0 0):=⟨_,rfl⟩
  obtain⟨G1,hG1⟩:∃X,X=G++[({c:=[]}:Ob)]:=⟨_,rfl⟩
  have l1:G1.length=G.length+1:=by rw[hG1];simp
  have U:∀i,i<G.length->G1[i]?=G[i]? := fun i hi=>by rw[hG1,Qb hi]
  have p1:=(h.ext U).d.part h.ld qr
  obtain⟨va,G2,M2,hap,hO,hM2,l2,old2⟩:=OutS.append (K:=fun i=>i<G.length) (G:=G1) (v := .slice G.length 0 0) (x:=v) (t:=[]) (p:=dl) (.inl ⟨G.length,by omega,rfl,by rw[hG1,Qd (Qj _),Qs];rfl⟩) (fun i hi=>by omega) (by obtain⟨a,c',hv⟩:=p1.shape;rw[hv];rfl) (p1.reads G1 fun _ _=>rfl) (by show 0+_<=_;omega)
  rw[Qn]at hO
  obtain⟨did,dof,all,dx,hva,dn,dg,dln,dat⟩:=hO.own qr
  have dn':G.length<=did:=Nat.le_of_not_lt dn
  have up2:∀i,i<G.length->G2[i]?=G[i]? := fun i hi=>by rw[old2 i hi,U i hi]
  obtain⟨av,cv,hvs⟩:=p1.shape
  have didl:=(Qf.1 dg).1
  obtain⟨G3,hG3⟩:∃X,X=G2.set p {c:=[.int .i64 5,.slice ik 1 1,.slice ina 2 2,.slice is 1 1,va]}:=⟨_,rfl⟩
  have l3:G3.length=G2.length:=by rw[hG3,Qr]
  have Y:∀i,i≠p->G3[i]?=G2[i]? := fun i hi=>by rw[hG3,Ql (Ne.symm hi)]
  have at3:G3[p]?=some {c:=[.int .i64 5,.slice ik 1 1,.slice ina 2 2,.slice is 1 1,va]}:=by rw[hG3,Qu qr]
  have Z:∀i,i<G.length->i≠p->G3[i]?=G[i]? := fun i hi hne=>by rw[Y i hne,up2 i hi]
  have g3c:=(Z c hcl (Ne.symm d2)).trans hc
  have g3w:=(Z w hwl (Ne.symm d1)).trans hw
  have g3k:=(Z ik hikl (Ne.symm d3)).trans h.k
  have g3n:=(Z ina hinl (Ne.symm d4)).trans h.n
  have g3s:=(Z is hisl (Ne.symm d5)).trans h.s
  have g3d:G3[did]?=some ⟨u8s all,true,true,dx,1⟩:=(Y did qr).trans dg
  have g2p:=(up2 p hpl).trans hp
  have g1p:=(U p hpl).trans hp
  have mkD:∀(X:List Ob) (al J:List Nat),X[did]?=some ⟨u8s al,true,true,dx,1⟩->al.length=all.length->J.length=dl.length->(∀i,i<dl.length->al[dof+i]?=J[i]?)->(∀y∈J,y<256)->Dat 0 X va J:=fun X al J hX la ld hat hx =>
    ⟨did,dof,dl.length,_,by rw[hva,ld],⟨⟨_,hX,rfl,fun i hi=>by
      have h1:al[dof+i]?=some (J.getD i 0):=by rw[hat i qr,List.getD_eq_getElem?_getD,Qg hi];rfl
      exact ZN h1⟩,hx⟩,by omega,hX,rfl,Xx _⟩
  have cut:∀J:List Nat,J.length=dl.length->J=J.take (dl.length-16)++J.drop (dl.length-16)/\(J.drop (dl.length-16)).length=16/\(J.take (dl.length-16)).length<=16368:=fun J hl=>⟨(Z7 _ _).symm,by rw[QD];omega,by rw[Q0];omega⟩
  have cl5:∀a b c d e':Value,Q5 5 [a,b,c,d,e']=[a,b,c,d,e']:=fun _ _ _ _ _=>rfl
  have va1:va.cells.toList=[va]:=by rw[hva];rfl
  have va2:va.cells.size=1:=by rw[hva];rfl
  have va3:okVar va=true:=by rw[hva];rfl
  have im2:∀L,Qz b L M2=L:=fun L=>QC fun i hi=>by have:=hM2 i hi;omega
  have imp:∀L,Qz b L [p]=L:=fun L=>QC (by simp;omega)
  have imd:∀L,Qz b L [did]=L:=fun L=>QC (by simp;omega)
  have imn:∀L,Qz b L [G3.length]=L:=fun L=>QC (by simp;omega)
  have h1:=hG1.symm
  have h3:=hG3.symm
  have ok1:∀L:List Value,(Value.agg L.toArray).cells.toList=L:=fun _=>rfl
  have ok2:∀L:List Value,(Value.agg L.toArray).cells.size=L.length:=fun _=>rfl
  have ok3:∀L:List Value,okVar (Value.agg L.toArray)=true:=fun _=>rfl
  have b0:Qc 0 (Value.int .u8 0)=[]:=rfl
  have f0:fillL [] []=some []:=rfl
  have e3c:∀X:List Ob,(G3++X)[c]?=some {c:=[.int .i64 c0,.int .i64 c1,.int .i64 c2]}:=fun X=>by rw[Qb qr];exact g3c
  have e3p:∀X:List Ob,(G3++X)[p]?=some {c:=[.int .i64 5,.slice ik 1 1,.slice ina 2 2,.slice is 1 1,va]}:=fun X=>by rw[Qb qr];exact at3
  by_cases k0:c0=0
  · subst k0
    obtain⟨G4,I⟩:∃X,X=(G3++[({c:=[.int .u32 e,.int .u32 ((m+1:Nat):Int)]}:Ob)]).set p {c:=[.int .i64 5,.slice ik 1 1,.slice G3.length 2 2,.slice is 1 1,va]}:=⟨_,rfl⟩
    have E:∀i,i<G3.length->i≠p->G4[i]?=G3[i]? := fun i hi hne=>by rw[I,Ql (Ne.symm hne),Qb hi]
    have M4:Msg 0 G4 ik G3.length is va nm e (m+1) sig dl:=⟨(E _ qr (Ne.symm d3)).trans g3k,by rw[I,Ql qr,Qd (Qj _),Qs];rfl,(E _ qr (Ne.symm d5)).trans g3s,mkD G4 all dl ((E _ qr qr).trans g3d) rfl rfl dat O,⟨Xx _,Xx _,Xx _⟩,hn,lsg,h.xs,by omega⟩
    obtain⟨cu1,cu2,cu3⟩:=cut dl rfl
    obtain⟨G5,ht⟩:=AQ (b:=b) (w:=w) (p:=p) (L:=[]) ((E _ qr (Ne.symm d1)).trans g3w) (by rw[I,Qu (by rw[Qh];omega)]) M4 hk lpu xpu cu1 cu2 cu3 (Nat.le_add_right m 1) (Qj _) hmi e32 O (by rw[I,Qr,Qh];omega)
    refine⟨G5,?_⟩
    have w1:IntKind.u32.wrap ((m:Int)+1)=((m+1:Nat):Int):=by rw[show(m:Int)+1=((m+1:Nat):Int) from rfl];exact HD qr
    have f2:fillL [Value.int .u32 0,.int .u32 0] [(0,1,.int .u32 e),(1,1,.int .u32 ((m+1:Nat):Int))]=some [.int .u32 e,.int .u32 ((m+1:Nat):Int)]:=rfl
    have h4:=I.symm
    simp only[f9S]at ht
    clear hG1 hG3 I hO hM2 U old2 Y up2 Z E M4 h hk hn mkD cut dat dg g3d O xpu cu1 cu2 cu3 hva hvs
    generalize m+1=m1 at *
    simp only[f8S,UP,Qv,quiet,cW,↓pW,reduceCtorEq,seval,-Qa,h1,hap,f0,g1p,g2p,va1,va2,va3,im2,imp,h3,at3,g3c,g3n,e3p,w1,f2,h4,ht]
  by_cases k1:c0=1
  · subst k1
    obtain⟨k,hk1,hk2⟩:=LR c1 (n:=dl.length) qr qr
    obtain⟨x,hx⟩:∃x,dl[k]?=some x:=⟨_,Qg hk1⟩
    have hax:=(dat k hk1).trans hx
    have xx:x<256:=O x (Qw hx)
    have w1:Z3 .xor .u8 (x:Int) 1=((x^^^1:Nat):Int):=L9 xx (b:=1) ww
    have ly:=Ps xx (y:=1) ww
    obtain⟨y,hy⟩:∃y,y=x^^^1:=⟨_,rfl⟩
    rw[<-hy]at w1 ly
    obtain⟨G4,I⟩:∃X,X=G3.set did ⟨u8s (all.set (dof+k) y),true,true,dx,1⟩:=⟨_,rfl⟩
    have E:∀i,i≠did->G4[i]?=G3[i]? := fun i hne=>by rw[I,Ql (Ne.symm hne)]
    have M4:Msg 0 G4 ik ina is va nm e m sig (dl.set k y):=⟨(E _ qr).trans g3k,(E _ qr).trans g3n,(E _ qr).trans g3s,mkD G4 (all.set (dof+k) y) (dl.set k y) (by rw[I,Qu qr]) (by rw[Qr]) (by rw[Qr]) (fun i hi=>by
      by_cases hik:i=k
      · rw[hik,Qu qr,Qu hk1]
      · rw[Ql qr,Ql (Ne.symm hik)];exact dat i hi) (Tq O ly),⟨Xx _,Xx _,Xx _⟩,hn,lsg,h.xs,by rw[Qr];omega⟩
    obtain⟨cu1,cu2,cu3⟩:=cut (dl.set k y) (by rw[Qr])
    obtain⟨G5,ht⟩:=AQ (b:=b) (w:=w) (p:=p) (L:=[]) ((E _ qr).trans g3w) ((E _ qr).trans at3) M4 hk lpu xpu cu1 cu2 cu3 (Qj _) (GR m) hmi e32 (Tq O ly) (by rw[I,Qr];omega)
    refine⟨G5,?_⟩
    have hgx:=ZN hax
    have hsx:=Xg all (dof+k) y
    have e0:(((dl.length:Nat):Int)=0)=False:=ut
    have e1:((k:Int)<((dl.length:Nat):Int))=True:=wr
    have e2:dof+k+1<=all.length:=qr
    have h4:=I.symm
    have hlv:Go.Ev.lenV va=some dl.length:=by rw[hva];rfl
    simp only[f9S]at ht
    subst hva
    clear hG1 hG3 I hO hM2 U old2 Y up2 Z E M4 h hk hn mkD cut dat dg O xpu cu1 cu2 cu3 hvs hy hx hax
    generalize dl.length=n at *
    simp only[f8S,UP,Qv,quiet,cW,↓pW,reduceCtorEq,seval,-Qa,h1,hap,f0,g1p,g2p,va1,va2,va3,im2,imp,imd,h3,at3,g3c,g3d,e0,e1,e2,hk2,hgx,hsx,w1,h4,ht,Qq]
  by_cases k2:c0=2
  · subst k2
    obtain⟨k,hk1,hk2⟩:=LR c1 (n:=64) ww ww
    rw[<-lsg]at hk1
    obtain⟨x,hx⟩:∃x,sig[k]?=some x:=⟨_,Qg hk1⟩
    have xx:x<256:=h.xs x (Qw hx)
    have w1:Z3 .xor .u8 (x:Int) 4=((x^^^4:Nat):Int):=L9 xx (b:=4) ww
    have ly:=Ps xx (y:=4) ww
    obtain⟨y,hy⟩:∃y,y=x^^^4:=⟨_,rfl⟩
    rw[<-hy]at w1 ly
    obtain⟨G4,I⟩:∃X,X=(G3++[({c:=u8s sig}:Ob)]).set p {c:=[.int .i64 5,.slice ik 1 1,.slice ina 2 2,.slice G3.length 1 1,va]}:=⟨_,rfl⟩
    have l4:G4.length=G3.length+1:=by rw[I,Qr,Qh];rfl
    have E:∀i,i<G3.length->i≠p->G4[i]?=G3[i]? := fun i hi hne=>by rw[I,Ql (Ne.symm hne),Qb hi]
    have g4p:G4[p]?=some {c:=[.int .i64 5,.slice ik 1 1,.slice ina 2 2,.slice G3.length 1 1,va]}:=by rw[I,Qu (by rw[Qh];omega)]
    have g4s:G4[G3.length]?=some {c:=u8s sig}:=by rw[I,Ql qr,Qd (Qj _),Qs];rfl
    have g4c:=(E c qr (Ne.symm d2)).trans g3c
    obtain⟨G5,hG5⟩:∃X,X=G4.set G3.length {c:=u8s (sig.set k y)}:=⟨_,rfl⟩
    have up5:∀i,i<G3.length->G5[i]?=G4[i]? := fun i hi=>by rw[hG5,Ql qr]
    have M5:Msg 0 G5 ik ina G3.length va nm e m (sig.set k y) dl:=⟨by rw[up5 _ qr,E _ qr (Ne.symm d3)];exact g3k,by rw[up5 _ qr,E _ qr (Ne.symm d4)];exact g3n,by rw[hG5,Qu qr],mkD G5 all dl (by rw[up5 _ qr,E _ qr qr];exact g3d) rfl rfl dat O,⟨Xx _,Xx _,Xx _⟩,hn,by rw[Qr,lsg],Tq h.xs ly,by omega⟩
    obtain⟨cu1,cu2,cu3⟩:=cut dl rfl
    obtain⟨G6,ht⟩:=AQ (b:=b) (w:=w) (p:=p) (L:=[]) (by rw[up5 _ qr,E _ qr (Ne.symm d1)];exact g3w) ((up5 _ qr).trans g4p) M5 hk lpu xpu cu1 cu2 cu3 (Qj _) (GR m) hmi e32 O (by rw[hG5,Qr];omega)
    refine⟨G6,?_⟩
    have hgx:=ZN hx
    have hsx:=Xg sig k y
    have e1:((k:Int)<64)=True:=wr
    have e2:k<=63:=qr
    have hk2':(IntKind.i64.wrap (c1.tmod 64+64)).tmod 64=(k:Int):=hk2
    have f64:=D9 (a:=sig) lsg
    have tsg:Q5 64 (u8s sig)=u8s sig:=Q7 (by rw[Qq,lsg])
    have h4:=I.symm
    have h5:=hG5.symm
    simp only[f9S]at ht
    clear hG1 hG3 I hG5 hO hM2 U old2 Y up2 Z E up5 M5 h hk hn mkD cut dat dg g3d O xpu cu1 cu2 cu3 hva hvs hy hx hk2
    simp only[f8S,UP,Qv,quiet,cW,↓pW,reduceCtorEq,seval,-Qa,h1,hap,f0,g1p,g2p,va1,va2,va3,im2,imp,imn,h3,at3,g3c,g3s,e3p,e1,e2,hk2',hgx,hsx,w1,f64,tsg,lsg,g4p,g4s,g4c,h4,h5,ht,Qq]
  have j0:(c0=0)=False:=eq_false k0
  have j1:(c0=1)=False:=eq_false k1
  have j2:(c0=2)=False:=eq_false k2
  have j0':(c0==0)=false:=beq_eq_false_iff_ne.2 k0
  have j1':(c0==1)=false:=beq_eq_false_iff_ne.2 k1
  have j2':(c0==2)=false:=beq_eq_false_iff_ne.2 k2
  refine⟨G3,?_⟩
  clear hG1 hG3 hO hM2 U old2 Y up2 Z h hk hn mkD cut dat dg g3d O xpu hva hvs
  simp only[f8S,UP,Qv,quiet,cW,↓pW,reduceCtorEq,seval,-Qa,h1,hap,f0,g1p,g2p,va1,va2,va3,im2,imp,h3,g3c,j0',j1',j2']
def f7S(tv:Value)(b w p:Nat)(G:List Ob):St:=⟨[(1,tv),(3,.pointer b),(5,.pointer (b+1:Nat)),(7,.pointer w),(10,.pointer p),(11,.int .i64 0),(41,.bool false)],G,[]⟩
def xE(J:nm.length=32)(I:key.length=32)(E:sg[0]?=some x):(plc nm e m key (u8s sg))[66]?=some (.int .u8 x):=by
 have h:(plc nm e m key (u8s sg)).drop 66=u8s sg:=Du J I
 have k:((plc nm e m key (u8s sg)).drop 66)[0]?=some (.int .u8 x):=by rw[h];exact ZN E
 rwa[List.getElem?_drop,Nat.add_zero]at k
def dD(I:nm.length=32)(E:key.length=32)(J:0<sg.length):(plc nm e m key (u8s sg)).set 66 (.int .u8 y)=plc nm e m key (u8s (sg.set 0 y)):=by
 rw[Bw nm e m key (u8s sg),Bw nm e m key (u8s (sg.set 0 y)),Q1 _ _ (by rw[JM I E];exact Qj _),JM I E,<-Xg]
 rfl
def oK{tx:List Nat}(hS:G[b]?=some {c:=plc nm e m key (u8s sg)})(hc:G[b+1]?=some {c:=[.int .i64 c0,.int .i64 c1,.int .i64 c2]})(hw:G[w]?=some {c:=fol nm e m key pub (.slice none 0 0)})(hp:G[p]?=some {c:=[.int .i64 5,.slice ik 1 1,.slice ina 2 2,.slice is 1 1,v]})
 (h:Msg B G ik ina is v nm e m sig (msgD nm key tx e m)) (hk:B32 key) (hs:B32 sg) (Z:pub.length=32) (U:∀y∈pub,y<256) (ht:HPart (fun i=>i<G.length) G tv tx) (htl:tx.length<=200) (hmi:m<16777216) (e32:e<2^32) (hbp:b<=p) (hdis:p≠w/\p≠b+1/\p≠ik/\p≠ina/\p≠is/\w≠ik) :
    ∃G',Q4 T b T5 (f7S tv b w p G)=some (.ret,⟨[(6,.bool true)],G',[]⟩):=by
  have hn:=h.lk
  have hwl:=(Qf.1 hw).1
  have hpl:=(Qf.1 hp).1
  have hcl:=(Qf.1 hc).1
  obtain⟨x,hx⟩:∃x,sg[0]?=some x:=⟨_,Qg (by rw[hs.len];decide)⟩
  have xx:x<256:=hs.lt x (Qw hx)
  have w1:Z3 .xor .u8 (x:Int) 1=((x^^^1:Nat):Int):=L9 xx (b:=1) ww
  have ly:=Ps xx (y:=1) ww
  obtain⟨y,hy⟩:∃y,y=x^^^1:=⟨_,rfl⟩
  rw[<-hy]at w1 ly
  have hs2:B32 (sg.set 0 y):=⟨by rw[Qr,hs.len],Tq hs.lt ly⟩
  have s66:=xE (e:=e) (m:=m) hn.len hk.len hx
  have sset:=dD (e:=e) (m:=m) (y:=y) hn.len hk.len (show 0<sg.length by rw[hs.len];decide)
  have n0:=JM (e:=e) (m:=m) (tl:=u8s sg) hn.len hk.len
  rw[Qq,hs.len]at n0
  obtain⟨Y,hsg2⟩:∃X,X=sg.set 0 y:=⟨_,rfl⟩
  rw[<-hsg2]at hs2 sset
  obtain⟨S,hSS⟩:∃X,X=plc nm e m key (u8s sg):=⟨_,rfl⟩
  obtain⟨S2,hS2⟩:∃X,X=plc nm e m key (u8s Y):=⟨_,rfl⟩
  rw[<-hSS]at hS s66 sset n0
  rw[<-hS2]at sset
  have tS:Q5 98 S=S:=Q7 n0
  have lzS:K0.length=98:=rfl
  have spS:splice K0 0 S=S:=QP (by rw[n0,lzS])
  have n2:S2.length=98:=by rw[<-sset,Qr,n0]
  have tS2:Q5 98 S2=S2:=Q7 n2
  obtain⟨G1,hG1⟩:∃X,X=G++[({c:=S2}:Ob)]:=⟨_,rfl⟩
  have l1:G1.length=G.length+1:=by rw[hG1];simp
  have O:∀i,i<G.length->G1[i]?=G[i]? := fun i hi=>by rw[hG1,Qb hi]
  have ht1:HPart (fun i=>i<G1.length) G1 tv tx:=ht.ext O qr
  obtain⟨ik2,in2,is2,v2,G2,hse,M2,old2,l2⟩:=Cd (e:=e) hn hk hs2 hmi ht1 qr
  rw[<-hS2]at hse
  obtain⟨S3,hS3⟩:∃X,X=plc nm e (m+1) ((nxK nm key).drop 32) (u8s Y):=⟨_,rfl⟩
  have n3:S3.length=98:=by rw[hS3,JM hn.len (A6 nm key).len,Qq,hs2.len]
  rw[<-hS3]at hse
  have spS3:splice K0 0 S3=S3:=QP (by rw[n3,lzS])
  obtain⟨f2,hf2⟩:∃o:Ob,o={c:=[.int .i64 5,.slice ik2 1 1,.slice in2 2 2,.slice is2 1 1,v2]}:=⟨_,rfl⟩
  obtain⟨G3,hG3⟩:∃X,X=G2++[({c:=S3}:Ob),f2]:=⟨_,rfl⟩
  have l3:G3.length=G2.length+2:=by rw[hG3];simp
  have J:∀i,i<G2.length->G3[i]?=G2[i]? := fun i hi=>by rw[hG3,Qb hi]
  have M3:=M2.ext J
  have lD:(msgD nm key tx e m).length=tx.length+16:=(Sx e m hn (by obtain⟨_,_,hx,_⟩:=ht;exact hx) qr).1
  obtain⟨G4,r,v3,c,hop,I,l4,lr,⟨a',l',c',rfl⟩,hchk⟩:=FY M3 hk Z U (Z7 tx.length _).symm (by rw[QD,lD];omega) (by rw[Q0];omega) (Qj m) (GR m) hmi
  have lW:=VK (e:=e) (m:=m) (hv := .slice none 0 0) hn.len hk.len Z
  have tpu:Q5 32 (ZT 66 (fol nm e m key pub (.slice none 0 0)))=u8s pub:=Tx hn.len hk.len Z
  obtain⟨W,hW⟩:∃W,W=fol nm e m key pub (.slice none 0 0):=⟨_,rfl⟩
  rw[<-hW]at hop lW tpu
  have tW:Q5 99 W=W:=Q7 lW
  simp only[D3]at hse hop
  obtain⟨G5,hG5⟩:∃X,X=G4++[({c:=r}:Ob)]:=⟨_,rfl⟩
  have l5:G5.length=G4.length+1:=by rw[hG5];simp
  have E:∀i,i<G4.length->G5[i]?=G4[i]? := fun i hi=>by rw[hG5,Qb hi]
  have up5:∀i,i<G.length->G5[i]?=G[i]? := fun i hi=>by rw[E i qr,I i qr,J i qr,old2 i qr,O i hi]
  have tail:∀X:List Ob,(∀i,i<G.length->X[i]?=G[i]?)->G.length<=X.length->∃G',Q4 T b UP (f8S (b+1) w p X)=some (.ret,⟨[(6,.bool true)],G',[]⟩):=fun X hX hl =>
    oJ (c0:=c0) (c1:=c1) (c2:=c2) ((hX _ hcl).trans hc) ((hX _ hwl).trans hw) ((hX _ hpl).trans hp) (h.ext hX) hk Z U qr qr hmi e32 qr hbp hdis
  have g2a:∀o1 o2 o:Ob,(G2++[o1,o2]).set G2.length o=G2++[o,o2]:=fun _ _ _=>by rw[Q1 _ _ (Qj _),Qs];rfl
  have g2b:∀o1 o2 o:Ob,(G2++[o1,o2]).set (G2.length+1) o=G2++[o1,o]:=fun _ _ _=>by rw[Q1 _ _ qr,Qt];rfl
  have g2c:∀o1 o2:Ob,(G2++[o1,o2])[G2.length]?=some o1:=fun _ _=>by rw[Qd (Qj _),Qs];rfl
  have g2d:∀o1 o2:Ob,(G2++[o1,o2])[G2.length+1]?=some o2:=fun _ _=>by rw[Qd qr,Qt];rfl
  have a0:∀o o':Ob,(G++[o]).set G.length o'=G++[o']:=fun _ _=>by rw[Q1 _ _ (Qj _),Qs];rfl
  have e0:∀o:Ob,(G++[o])[G.length]?=some o:=fun o=>by rw[Qd (Qj _),Qs];rfl
  have g1:G1[G.length]?=some {c:=S2}:=by rw[hG1];exact e0 _
  have a4:∀o o':Ob,(G4++[o]).set G4.length o'=G4++[o']:=fun _ _=>by rw[Q1 _ _ (Qj _),Qs];rfl
  have e4:∀o:Ob,(G4++[o])[G4.length]?=some o:=fun o=>by rw[Qd (Qj _),Qs];rfl
  have g3w:G3[w]?=some {c:=W}:=by rw[J w qr,old2 w qr,O w hwl,hW];exact hw
  have g3f:G3[G2.length+1]?=some f2:=by rw[hG3];exact g2d _ _
  have g5w:G5[w]?=some {c:=W}:=by rw[up5 w hwl,hW];exact hw
  have g5f:G5[G2.length+1]?=some f2:=by rw[E _ qr,I _ qr];exact g3f
  have M5:=M3.ext (G:=G5) fun i hi=>by rw[E i qr,I i hi]
  have spr:splice XG 0 r=r:=QP (by rw[lr];rfl)
  have lz:XG.length=99:=rfl
  have cl5:∀a b c d e':Value,Q5 5 [a,b,c,d,e']=[a,b,c,d,e']:=fun _ _ _ _ _=>rfl
  have cz5:∀a b c d e':Value,splice Xs 0 [a,b,c,d,e']=[a,b,c,d,e']:=fun _ _ _ _ _=>rfl
  have lzf:Xs.length=5:=rfl
  have hfc:f2.c=[.int .i64 5,.slice ik2 1 1,.slice in2 2 2,.slice is2 1 1,v2]:=by rw[hf2]
  have hfl:f2.live=true:=by rw[hf2]
  have hf2':=hf2.symm
  have im0:∀L j,Qz b L [G.length+j]=L:=fun L j=>QC (by simp;omega)
  have im00:∀L,Qz b L [G.length]=L:=fun L=>im0 L 0
  have im2:∀L j,Qz b L [G2.length+j]=L:=fun L j=>QC (by simp;omega)
  have im20:∀L,Qz b L [G2.length]=L:=fun L=>im2 L 0
  have im4:∀L,Qz b L [G4.length]=L:=fun L=>QC (by simp;omega)
  have ok1:∀L:List Value,(Value.agg L.toArray).cells.toList=L:=fun _=>rfl
  have ok2:∀L:List Value,(Value.agg L.toArray).cells.size=L.length:=fun _=>rfl
  have ok3:∀L:List Value,okVar (Value.agg L.toArray)=true:=fun _=>rfl
  have h1:=hG1.symm
  have h3:=hG3.symm
  have h5:=hG5.symm
  by_cases hc0:c=0
  rotate_left
  · obtain⟨G',htl⟩:=tail G5 up5 qr
    refine⟨G',?_⟩
    have ec:(c==0)=false:=beq_eq_false_iff_ne.2 hc0
    simp only[f8S]at htl
    clear tail hG1 hG3 hG5 O old2 J I E up5 M2 M3 M5 h hk hn hs hs2 ht ht1 hchk hW hw hp hf2 hSS hS2 hS3 hsg2 hy hx U
    simp only[f7S,T5,Qv,quiet,cW,↓pW,reduceCtorEq,seval,-Qa,hS,s66,sset,n0,tS,lzS,spS,n2,tS2,w1,a0,e0,g1,h1,hse,n3,spS3,g2a,g2b,g2c,g2d,cl5,cz5,lzf,hf2',h3,g3w,g3f,hfc,hfl,tW,lW,hop,lr,spr,lz,a4,e4,h5,ec,im00,im2,im20,im4,htl,ok1,ok2,ok3]
  subst hc0
  obtain⟨di,dof,dc,dob,hv2,-⟩:=M5.d
  obtain⟨lx,hfr⟩:=FX (H:=G5) (ka := .slice ik2 1 1) (na := .slice in2 2 2) (sa := .slice is2 1 1) (da:=v2) (nm:=nm) (e:=e) (m:=m) (.inr ⟨_,1,_,_,_,rfl,M5.k,by rw[Qq,hn.len]⟩) (.inr ⟨_,2,_,_,_,rfl,M5.n,rfl⟩) hn.len e32 qr ⟨_,_,_,hv2⟩ ⟨_,_,_,rfl⟩
  obtain⟨G6,hG6⟩:∃X,X=G5++lx:=⟨_,rfl⟩
  rw[<-hG6]at hfr
  have l6:G5.length<=G6.length:=by rw[hG6,Qh];omega
  have old6:∀i,i<G5.length->G6[i]?=G5[i]? := fun i hi=>by rw[hG6,Qb hi]
  have xfr:=YX e m hn
  have lfr:=VO (nm:=nm) e m hn.len
  have hsb:=Ix (id:=G6.length) xfr (by rw[lfr];decide)
  obtain⟨vf,hvf⟩:∃X:Value,X=.slice G6.length (JF nm e m).length (JF nm e m).length:=⟨_,rfl⟩
  obtain⟨G7,hG7⟩:∃X,X=G6++[(⟨u8s (JF nm e m),true,true,false,1⟩:Ob),{c:=[vf,v2]}]:=⟨_,rfl⟩
  have l7:G7.length=G6.length+2:=by rw[hG7];simp
  have old7:∀i,i<G6.length->G7[i]?=G6[i]? := fun i hi=>by rw[hG7,Qb hi]
  have g7a:G7[G6.length]?=some ⟨u8s (JF nm e m),true,true,false,1⟩:=by rw[hG7,Qd (Qj _),Qs];rfl
  have g7b:G7[G6.length+1]?=some {c:=[vf,v2]}:=by rw[hG7,Qd qr,Qt];rfl
  have M7:=M5.ext (G:=G7) fun i hi=>by rw[old7 i qr,old6 i hi]
  have pf:HPart (LtN G7.length) G7 vf (JF nm e m):=by rw[hvf];exact HPart.whole qr g7a xfr (by rw[lfr];decide)
  have pd:HPart (LtN G7.length) G7 v2 (msgD nm key tx e m):=M7.d.part M7.ld qr
  obtain⟨k8,c,hck,hsp⟩:=Cf (H:=G7) (pub:=pub) (front:=(msgS nm key Y tx e m).take 32) (back:=(msgS nm key Y tx e m).drop 32) (pv := .slice (G6.length+1:Nat) 2 2) (ps:=[JF nm e m,msgD nm key tx e m]) Z U (by rw[Q0,M7.ls];rfl) (fun y hy=>M7.xs y (QG hy)) (by rw[QD,M7.ls]) (fun y hy=>M7.xs y (Zq hy)) (Args.arr g7b rfl (.cons pf (.cons pd .nil)) ww) (by show 2<=1000;decide) (by simp[lfr];omega)
  rw[show[JF nm e m,msgD nm key tx e m].flatten=JF nm e m++msgD nm key tx e m by simp]at hsp
  have xD:∀y∈msgD nm key tx e m,y<256:=by obtain⟨_,_,_,_,_,hr,-⟩:=M7.d;exact hr.lt
  have hr1:=Ab Z U (by rw[Q0,M7.ls];rfl) (fun y hy=>M7.xs y (QG hy)) (by rw[QD,M7.ls]) (fun y hy=>M7.xs y (Zq hy)) (Ln hn xD) (by rw[Qh,lfr];omega) hsp
  have hr2:=Ab Z U (by rw[Q0,M7.ls];rfl) (fun y hy=>M7.xs y (QG hy)) (by rw[QD,M7.ls]) (fun y hy=>M7.xs y (Zq hy)) (Ln hn xD) (by rw[Qh,lfr];omega) (hchk rfl)
  have hc0:c=0:=by
    rw[hr1]at hr2
    injection hr2 with hr3
    injection hr3
  subst hc0
  rw[Z7]at hck
  obtain⟨G8,hG8⟩:∃X,X=G7++k8:=⟨_,rfl⟩
  rw[<-hG8]at hck
  obtain⟨G',htl⟩:=tail G8 (fun i hi=>by rw[hG8,Qb qr,old7 i qr,old6 i qr,up5 i hi]) (by rw[hG8,Qh];omega)
  refine⟨G',?_⟩
  have ms:=M5.s
  have lms:=M5.ls
  have tms:Q5 64 (u8s (msgS nm key Y tx e m))=u8s (msgS nm key Y tx e m):=Q7 (by rw[Qq,lms])
  have g6f:G6[G2.length+1]?=some f2:=(old6 _ qr).trans g5f
  have fl2:fillL [Value.slice none 0 0,.slice none 0 0] [(0,1,vf),(1,1,v2)]=some [vf,v2]:=by rw[hvf,hv2];rfl
  have h7:=hG7.symm
  rw[<-hvf]at hsb
  simp only[f8S]at htl
  have g6A:∀X:List Ob,(G6++X)[G2.length+1]?=some f2:=fun X=>by rw[Qb qr];exact g6f
  clear tail hG1 hG3 hG5 hG6 hG7 hG8 O old2 J I E old6 old7 up5 M2 M3 M5 M7 h hk hn hs hs2 ht ht1 hchk hW hw hp hf2 hSS hS2 hS3 hsg2 hy hx U hr1 hr2 hsp pf pd hv2 hvf xD xfr
  generalize msgS nm key Y tx e m=SG,JF nm e m=FL,msgD nm key tx e m=DD at *
  simp only[f7S,T5,Qv,quiet,cW,↓pW,reduceCtorEq,seval,-Qa,hS,s66,sset,n0,tS,lzS,spS,n2,tS2,w1,a0,e0,g1,h1,hse,n3,spS3,g2a,g2b,g2c,g2d,cl5,cz5,lzf,hf2',h3,g3w,g3f,hfc,hfl,tW,lW,tpu,hop,lr,spr,lz,a4,e4,h5,g5w,g5f,ms,lms,tms,hfr,hsb,g6A,fl2,h7,hck,im00,im2,im20,im4,htl,ok1,ok2,ok3,Qq]
def ag(hn:B32 nm)(hk:B32 key)(hs:B32 sg)(hm:16777216<=m)(hl:Go.Ev.lenV tv=some n)(hn2:n<=16368)(hsh:∃a l c,tv=.slice a l c) :
  ∃H',Zp T 13 [.agg (plc nm e m key (u8s sg)).toArray,tv] H=some (.tuple #[.agg (plc nm e m key (u8s sg)).toArray,.agg Xs.toArray,.int .i64 3],H',[])/\(∀i,i<H.length->H'[i]?=H[i]?)/\H.length<=H'.length:=by
 obtain⟨z,hz,lz,hzz⟩:∃z:List Nat,Qc 32 (Value.int .u8 0)=u8s z/\z.length=32/\z=Qc 32 0:=⟨Qc 32 0,rfl,rfl,rfl⟩
 have n0:=JM (e:=e) (m:=m) (tl:=u8s sg) hn.len hk.len
 rw[Qq,hs.len]at n0
 obtain⟨S,hS⟩:∃X,X=plc nm e m key (u8s sg):=⟨_,rfl⟩
 obtain⟨H1,O⟩:∃X,X=H++[({c:=S}:Ob),{c:=K0},{c:=Xs},{c:=S}]:=⟨_,rfl⟩
 have l1:H1.length=H.length+4:=by rw[O];simp
 have Y:∀i,i<H.length->H1[i]?=H[i]? := fun i hi=>by rw[O,Qb hi]
 have at1:∀(j:Nat) (o:Ob),[({c:=S}:Ob),{c:=K0},{c:=Xs},{c:=S}][j]?=some o->H1[H.length+j]?=some o:=fun j o hj=>by rw[O,Qd qr,Qt];exact hj
 obtain⟨l,Z⟩:=FA (H:=H1) (id:=H.length+3) (e:=e) (m:=m) (nm:=nm) (key:=key) (tl:=u8s sg) (by rw[<-hS];exact at1 3 _ rfl) hn hk hm
 rw[<-hzz]at Z
 obtain⟨H2,U⟩:∃X,X=H1++l:=⟨_,rfl⟩
 rw[<-U]at Z
 have l2:H1.length<=H2.length:=by rw[U,Qh];omega
 have I:∀i,i<H1.length->H2[i]?=H1[i]? := fun i hi=>by rw[U,Qb hi]
 obtain⟨H3,J⟩:∃X,X=H2++[({c:=u8s z}:Ob)]:=⟨_,rfl⟩
 have l3:H3.length=H2.length+1:=by rw[J];simp
 have E:∀i,i<H2.length->H3[i]?=H2[i]? := fun i hi=>by rw[J,Qb hi]
 refine⟨(H3.set (H.length+1) {c:=S}).set (H.length+2) {c:=Xs},?_,fun i hi =>?_,?_⟩
 rotate_left
 ·rw[Ql qr,Ql qr,E i qr,I i qr,Y i hi]
 ·rw[Qr,Qr];omega
 have e0:H3[H.length]?=some {c:=S}:=by rw[E _ qr,I _ qr];exact at1 0 _ rfl
 have e1:H3[H.length+1]?=some {c:=K0}:=by rw[E _ qr,I _ qr];exact at1 1 _ rfl
 have e2:∀o,(H3.set (H.length+1) o)[H.length+2]?=some {c:=Xs}:=fun o=>by rw[Ql qr,E _ qr,I _ qr];exact at1 2 _ rfl
 have e3:∀o o',((H3.set (H.length+1) o).set (H.length+2) o')[H.length+1]?=some o:=fun o o'=>by rw[Ql qr,Qu qr]
 have e4:∀o o',((H3.set (H.length+1) o).set (H.length+2) o')[H.length+2]?=some o':=fun o o'=>Qu (by rw[Qr];omega)
 have g0:∀X:List Ob,(H++({c:=S}:Ob)::X)[H.length]?=some {c:=S}:=fun X=>by rw[Qd (Qj _),Qs];rfl
 have g3:∀a b c d:Ob,(H++[a,b,c,d])[H.length+3]?=some d:=fun a b c d=>by rw[Qd qr,Qt];rfl
 have s3:∀a b c d o:Ob,(H++[a,b,c,d]).set (H.length+3) o=H++[a,b,c,o]:=fun a b c d o=>by rw[Q1 _ _ qr,Qt];rfl
 have c2:∀o:Ob,(H2++[o])[H2.length]?=some o:=fun o=>by rw[Qd (Qj _),Qs];rfl
 have c3:H3[H2.length]?=some {c:=u8s z}:=by rw[J];exact c2 _
 have s4:=VR c3
 have el:((16368:Int)<(n:Int))=False:=ut
 have tS:Q5 98 S=S:=Q7 (by rw[hS];exact n0)
 have lzS:K0.length=98:=rfl
 have lzF:Xs.length=5:=rfl
 have nS:S.length=98:=by rw[hS];exact n0
 have spS:splice K0 0 S=S:=QP (by rw[nS,lzS])
 have spF:splice Xs 0 Xs=Xs:=QP rfl
 have tF:Q5 5 Xs=Xs:=rfl
 have fF:fillL Xs []=some Xs:=rfl
 have sz:=QP (cs:=u8s z) (v:=u8s z) rfl
 have im:∀L j,Qz H.length L [H.length+j]=L:=fun L j=>QC wd
 have im2:∀L,Qz H.length L [H2.length]=L:=fun L=>QC (by simp;omega)
 have ok1:∀L:List Value,(Value.agg L.toArray).cells.toList=L:=fun _=>rfl
 have ok2:∀L:List Value,(Value.agg L.toArray).cells.size=L.length:=fun _=>rfl
 have ok3:∀L:List Value,okVar (Value.agg L.toArray)=true:=fun _=>rfl
 have h1:=O.symm
 have h3:=J.symm
 obtain⟨ta,tl,tc,rfl⟩:=hsh
 have htl:tl=n:=JJ hl
 subst htl
 rw[<-hS]
 clear O U J Y I E at1 hzz hS
 generalize hzs:K0=ZS at *
 generalize hzf:Xs=ZF at *
 rw[Q9 (fn:=qi) rfl]
 simp only[qi,hzs,hzf,Qv,quiet,cW,↓pW,reduceCtorEq,seval,-Qa,hz,lz,el,g0,g3,s3,h1,Z,c3,s4,h3,e0,e1,e2,e3,e4,tS,lzS,lzF,nS,spS,spF,tF,fF,sz,im,im2,ok1,ok2,ok3,Qq]
def eT{tx:List Nat}{m:Nat}(hn:B32 nm)(hk:B32 key)(hs:B32 sg)(e32:e<2^32)(ht:HPart (fun i=>i<H.length) H tv tx) :
  ∃H',Zp T 4 [.agg (plc nm e m key (u8s sg)).toArray,tv,.agg #[.int .i64 c0,.int .i64 c1,.int .i64 c2]] H=some (.bool true,H',[]):=by
 have hpo:=sA
 obtain⟨ta,tc,htv⟩:=ht.shape
 have n0:=JM (e:=e) (m:=m) (tl:=u8s sg) hn.len hk.len
 rw[Qq,hs.len]at n0
 obtain⟨S,hS⟩:∃X,X=plc nm e m key (u8s sg):=⟨_,rfl⟩
 rw[<-hS]at n0 ⊢
 obtain⟨H1,O⟩:∃X,X=H++[({c:=S}:Ob),{c:=[.int .i64 c0,.int .i64 c1,.int .i64 c2]}]:=⟨_,rfl⟩
 have l1:H1.length=H.length+2:=by rw[O];simp
 have old1:∀i,i<H.length->H1[i]?=H[i]? := fun i hi=>by rw[O,Qb hi]
 have q1:H1[H.length]?=some {c:=S}:=by rw[O,Qd (Qj _),Qs];rfl
 have q1c:H1[H.length+1]?=some {c:=[.int .i64 c0,.int .i64 c1,.int .i64 c2]}:=by rw[O,Qd qr,Qt];rfl
 have tS:Q5 98 S=S:=Q7 n0
 have lzS:K0.length=98:=rfl
 have lzF:Xs.length=5:=rfl
 have lz:XG.length=99:=rfl
 have spS:splice K0 0 S=S:=QP (by rw[n0,lzS])
 have h1:=O.symm
 have ok1:∀L:List Value,(Value.agg L.toArray).cells.toList=L:=fun _=>rfl
 have ok2:∀L:List Value,(Value.agg L.toArray).cells.size=L.length:=fun _=>rfl
 have ok3:∀L:List Value,okVar (Value.agg L.toArray)=true:=fun _=>rfl
 by_cases h200:200<tx.length
 ·have el:((200:Int)<((tx.length:Nat):Int))=True:=wr
  subst htv
  refine⟨H1,?_⟩
  clear ht
  rw[Q9 (fn:=aL) rfl]
  simp only[aL,Qv,quiet,cW,↓pW,reduceCtorEq,seval,-Qa,h1,hpo,el,ok1,ok3]
 have el:((200:Int)<((tx.length:Nat):Int))=False:=ut
 have lpu:=Bv sg
 have xpu:=ID sg
 have hsh:=Nf (H:=H1) (e:=e) (m:=m) hn.len hk.len hs
 rw[<-hS]at hsh
 obtain⟨H2,hH2⟩:∃X,X=H1++I1 nm key sg (Kj sg) e m H1.length:=⟨_,rfl⟩
 have l2:H2.length=H1.length+4:=by rw[hH2];simp[I1]
 have old2:∀i,i<H1.length->H2[i]?=H1[i]? := fun i hi=>by rw[hH2,Qb hi]
 obtain⟨lf,hfo⟩:=FP (iG (H:=H1) (nm:=nm) (key:=key) (sg:=sg) (pub:=Kj sg) (e:=e) (m:=m) hn.len hk.len lpu)
 rw[<-hH2]at hsh hfo
 obtain⟨W,hW⟩:∃X,X=fol nm e m key (Kj sg) (.slice none 0 0):=⟨_,rfl⟩
 rw[show plc nm e m key (u8s (Kj sg)++[.slice none 0 0])=W by rw[hW,fol]]at hfo
 have lW:W.length=99:=by rw[hW];exact VK hn.len hk.len lpu
 have tW:Q5 99 W=W:=Q7 lW
 have spW:splice XG 0 W=W:=QP (by rw[lW,lz])
 obtain⟨H3,hH3⟩:∃X,X=H2++lf:=⟨_,rfl⟩
 rw[<-hH3]at hfo
 have l3:H2.length<=H3.length:=by rw[hH3,Qh];omega
 have old3:∀i,i<H2.length->H3[i]?=H2[i]? := fun i hi=>by rw[hH3,Qb hi]
 obtain⟨H4,Y⟩:∃X,X=H3++[({c:=W}:Ob)]:=⟨_,rfl⟩
 have l4:H4.length=H3.length+1:=by rw[Y];simp
 have old4:∀i,i<H3.length->H4[i]?=H3[i]? := fun i hi=>by rw[Y,Qb hi]
 have q4w:H4[H3.length]?=some {c:=W}:=by rw[Y,Qd (Qj _),Qs];rfl
 have up4:∀i,i<H1.length->H4[i]?=H1[i]? := fun i hi=>by rw[old4 i qr,old3 i qr,old2 i hi]
 have q4:=(up4 _ qr).trans q1
 have q4c:=(up4 _ qr).trans q1c
 have a3:∀o o':Ob,(H3++[o]).set H3.length o'=H3++[o']:=fun _ _=>by rw[Q1 _ _ (Qj _),Qs];rfl
 have e3:∀o:Ob,(H3++[o])[H3.length]?=some o:=fun o=>by rw[Qd (Qj _),Qs];rfl
 have im3:∀L,Qz H.length L [H3.length]=L:=fun L=>QC (by simp;omega)
 have h4:=Y.symm
 have ht4:HPart (fun i=>i<H4.length) H4 tv tx:=ht.ext (fun i hi=>by rw[up4 i qr,old1 i hi]) qr
 by_cases hm:m<16777216
 rotate_left
 ·obtain⟨H5,J,U,l5⟩:=ag (H:=H4) (e:=e) (m:=m) (n:=tx.length) (tv:=tv) hn hk hs qr (by rw[htv];rfl) qr ⟨_,_,_,htv⟩
  rw[<-hS]at J
  obtain⟨ZF,hZF⟩:∃X,X=Xs:=⟨_,rfl⟩
  rw[<-hZF]at J
  have lZF:ZF.length=5:=by rw[hZF];rfl
  have spF:splice Xs 0 ZF=ZF:=QP (by rw[lZF];rfl)
  have g5a:∀I E o:Ob,(H5++[I,E]).set H5.length o=H5++[o,E]:=fun _ _ _=>by rw[Q1 _ _ (Qj _),Qs];rfl
  have g5b:∀I E o:Ob,(H5++[I,E]).set (H5.length+1) o=H5++[I,o]:=fun _ _ _=>by rw[Q1 _ _ qr,Qt];rfl
  have g5c:∀I E:Ob,(H5++[I,E])[H5.length]?=some I:=fun _ _=>by rw[Qd (Qj _),Qs];rfl
  have g5d:∀I E:Ob,(H5++[I,E])[H5.length+1]?=some E:=fun _ _=>by rw[Qd qr,Qt];rfl
  have im5:∀L j,Qz H.length L [H5.length+j]=L:=fun L j=>QC (by simp;omega)
  have im50:∀L,Qz H.length L [H5.length]=L:=fun L=>im5 L 0
  subst htv
  clear ht ht4 O hH2 hH3 Y old1 old2 old3 old4 up4 U hS hW hZF xpu
  apply Zk
  rw[Q9 (fn:=aL) rfl]
  simp only[aL,Qv,quiet,cW,↓pW,reduceCtorEq,seval,-Qa,h1,hpo,el,q1,tS,n0,hsh,hfo,lz,lW,spW,a3,e3,h4,im3,q4,J,lzS,lzF,lZF,spS,spF,g5a,g5b,g5c,g5d,im5,im50,ok1,ok2,ok3]
  rfl
 obtain⟨ik,ina,is,v,H5,J,M5,U,l5⟩:=Cd (H:=H4) (e:=e) hn hk hs hm ht4 qr
 rw[<-hS]at J
 simp only[D3]at J
 obtain⟨S',hS'⟩:∃X,X=plc nm e (m+1) ((nxK nm key).drop 32) (u8s sg):=⟨_,rfl⟩
 have n1:S'.length=98:=by rw[hS',JM hn.len (A6 nm key).len,Qq,hs.len]
 rw[<-hS']at J
 have spS':splice K0 0 S'=S':=QP (by rw[n1,lzS])
 obtain⟨fo,hfo2⟩:∃o:Ob,o={c:=[.int .i64 5,.slice ik 1 1,.slice ina 2 2,.slice is 1 1,v]}:=⟨_,rfl⟩
 obtain⟨H6,hH6⟩:∃X,X=H5++[({c:=S'}:Ob),fo]:=⟨_,rfl⟩
 have l6:H6.length=H5.length+2:=by rw[hH6];simp
 have old6:∀i,i<H5.length->H6[i]?=H5[i]? := fun i hi=>by rw[hH6,Qb hi]
 have q6p:H6[H5.length+1]?=some fo:=by rw[hH6,Qd qr,Qt];rfl
 have Z:∀i,i<H4.length->H6[i]?=H4[i]? := fun i hi=>by rw[old6 i qr,U i hi]
 obtain⟨b1,b2,b3⟩:=M5.bk
 have k1:=(Qf.1 M5.k).1
 have k2:=(Qf.1 M5.n).1
 have k3:=(Qf.1 M5.s).1
 obtain⟨H7,htl⟩:=oK (b:=H.length) (w:=H3.length) (p:=H5.length+1) (c0:=c0) (c1:=c1) (c2:=c2) (by rw[Z _ qr,<-hS];exact q4) ((Z _ qr).trans q4c) (by rw[Z _ qr,<-hW];exact q4w) (by rw[<-hfo2];exact q6p) (M5.ext old6) hk hs lpu xpu (ht4.ext Z qr) qr hm e32 qr ⟨by omega,by omega,by omega,by omega,by omega,by omega⟩
 have g5a:∀I E o:Ob,(H5++[I,E]).set H5.length o=H5++[o,E]:=fun _ _ _=>by rw[Q1 _ _ (Qj _),Qs];rfl
 have g5b:∀I E o:Ob,(H5++[I,E]).set (H5.length+1) o=H5++[I,o]:=fun _ _ _=>by rw[Q1 _ _ qr,Qt];rfl
 have g5c:∀I E:Ob,(H5++[I,E])[H5.length]?=some I:=fun _ _=>by rw[Qd (Qj _),Qs];rfl
 have g5d:∀I E:Ob,(H5++[I,E])[H5.length+1]?=some E:=fun _ _=>by rw[Qd qr,Qt];rfl
 have im5:∀L j,Qz H.length L [H5.length+j]=L:=fun L j=>QC (by simp;omega)
 have im50:∀L,Qz H.length L [H5.length]=L:=fun L=>im5 L 0
 have cz5:∀a b c d e':Value,splice Xs 0 [a,b,c,d,e']=[a,b,c,d,e']:=fun _ _ _ _ _=>rfl
 have hfo':=hfo2.symm
 have h6:=hH6.symm
 simp only[f7S]at htl
 subst htv
 clear ht ht4 O hH2 hH3 Y hH6 old1 old2 old3 old4 up4 Z U old6 hS hW hS' hfo2 M5 xpu
 refine⟨H7,?_⟩
 rw[Q9 (fn:=aL) rfl]
 simp only[aL,Qv,quiet,cW,↓pW,reduceCtorEq,seval,-Qa,h1,hpo,el,q1,tS,n0,hsh,hfo,lz,lW,spW,a3,e3,h4,im3,q4,J,lzS,lzF,n1,spS',cz5,g5a,g5b,g5c,g5d,im5,im50,hfo',h6,htl,ok1,ok2,ok3]
end
end Go.Ev.YtkbifkljlfmeiaaGreat
namespace Go.Ev
def SD{k:IntKind}{l:List Int}(h:l.length=3):∃a b c,l=[a,b,c]:=by
 match l,h with
 |[a,b,c],_=>exact⟨a,b,c,rfl⟩
def aT{ρ:Pl}{l:List Value}(h:Wv (.agg l.toArray)=true):VRel ρ (.agg l.toArray) (.agg l.toArray) := .agg (LRel.same h) (fun v hv=>XC (List.all_eq_true.1 h v hv))
end Go.Ev
namespace Go.Ev.YtkbifkljlfmeiaaGreat
open Go Go.Ev
def EY(a:List Nat)(i j:Int)(b:List Nat):Wv (.agg (u8s a++(.int .u32 i::.int .u32 j::u8s b)).toArray)=true:=by
 show(u8s a++(.int .u32 i::.int .u32 j::u8s b)).toArray.toList.all ZD=true
 rw[show(u8s a++(.int .u32 i::.int .u32 j::u8s b)).toArray.toList=u8s a++(.int .u32 i::.int .u32 j::u8s b) from rfl]
 simp[u8s,ZD]
def AP{H0:List Ob}{a b l:List Nat}{bv:Value}{i j:Nat}{c0 c1 c2:Int}(U:a.length=32)(J:b.length=64)(O:∀y∈a,y<256)(I:∀y∈b,y<256)(hi:i<2^32)(Y:j<2^32)(hb:BA H0 bv l) :
  ∃H',Zp T 4 [.agg (u8s a++(.int .u32 (i:Nat)::.int .u32 (j:Nat)::u8s b)).toArray,bv,.agg #[.int .i64 c0,.int .i64 c1,.int .i64 c2]] H0=some (.bool true,H',[]):=by
 have e:u8s a++(.int .u32 (i:Nat)::.int .u32 (j:Nat)::u8s b)=plc a i j (b.take 32) (u8s (b.drop 32)):=by
  rw[plc,<-JS,Z7]
 rw[e]
 exact eT ⟨U,O⟩ ⟨by rw[Q0,J];rfl,fun y E=>I y (QG E)⟩ ⟨by rw[QD,J],fun y E=>I y (Zq E)⟩ hi hb.whole
end Go.Ev.YtkbifkljlfmeiaaGreat

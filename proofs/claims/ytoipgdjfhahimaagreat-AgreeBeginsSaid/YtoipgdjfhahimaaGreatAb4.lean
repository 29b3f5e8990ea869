/- What the law leans on, part 4. -/
import Derived.Test.YtoipgdjfhahimaaGreatAb3
set_option linter.unusedSimpArgs false
set_option linter.unusedVariables false
open Exists renaming intro -> Jg
open Int renaming cast_ofNat_Int -> JP, natCast_add -> Jm, natCast_mul -> JN, natCast_one -> Vd, natCast_pow -> Yr, natCast_zero -> QA
open List renaming all_eq_true -> ZX, append_assoc -> Qt, append_nil -> QG, cons_append -> Qn, drop -> J2, drop_append_of_le_length -> Jf, drop_eq_getElem?_toList_append -> ZE, drop_of_length_le -> Zu, drop_zero -> ZS, eq_nil_of_length_eq_zero -> J7, ext_getElem? -> ZW, flatten_append -> Jd, flatten_cons -> QO, flatten_nil -> Jh, getD_eq_getElem?_getD -> QD, getElem?_append_left -> Qc, getElem?_append_right -> Qh, getElem?_cons_succ -> JU, getElem?_drop -> Zp, getElem?_eq_getElem -> Qf, getElem?_eq_none -> QI, getElem?_eq_some_iff -> Qg, getElem?_map -> JB, getElem?_of_mem -> Xf, getElem?_range -> V8, getElem?_set_ne -> Qu, getElem?_set_self -> Qw, getElem?_take -> QW, getElem?_zipWith -> KL, length_append -> Qj, length_drop -> QN, length_nil -> ZT, length_replicate -> Qe, length_set -> Q4, length_take -> Q3, length_zipWith -> V7, mem_append -> QC, mem_cons -> Jr, mem_map -> Xo, mem_of_getElem? -> Qo, mem_of_mem_drop -> ZF, mem_of_mem_take -> QP, mem_replicate -> Yj, mem_singleton -> Xn, nil_append -> Ql, range -> ZH, reduceReplicate -> Qb, replicate -> Qa, replicate_succ' -> Km, set_append_left -> Vp, set_append_right -> ZV, set_set -> Yh, take -> Zi, take_add_one -> Zx, take_append_drop -> Zn, take_append_of_le_length -> ZO, take_of_length_le -> Qm, take_take -> gZ, take_zero -> Xi, zipWith -> JS
open Nat renaming add_assoc -> Zb, add_comm -> Xu, add_mul -> Zl, add_sub_cancel_left -> Q2, add_zero -> Jl, and_lt_two_pow -> Kb, div_add_mod -> Z5, div_div_eq_div_mul -> QV, div_eq_of_lt -> JK, div_le_self -> Jx, div_lt_of_lt_mul -> Vo, div_one -> J1, eq_of_testBit_eq -> Ao, eq_zero_or_pos -> Jo, le_of_lt -> J0, le_refl -> Qs, le_trans -> Xm, lt_add_one -> gY, lt_irrefl -> We, lt_of_le_of_lt -> Jc, lt_of_lt_of_le -> QM, lt_or_ge -> ZL, lt_succ_of_lt -> Y3, lt_succ_self -> Ml, lt_trans -> JR, min_eq_left -> Zw, min_self -> uO, mod_eq_of_lt -> Qv, mod_lt -> Q9, mod_mod -> Kl, mul_add -> YE, mul_assoc -> ZD, mul_comm -> Zm, mul_le_mul_right -> Z9, mul_mod_mul_right -> Yx, mul_zero -> WK, not_lt_zero -> Yq, one_mul -> Xd, or_lt_two_pow -> XP, pow_add -> JI, pow_le_pow_right -> Zo, pow_mul -> Je, pow_one -> zh, pow_pos -> JT, pow_succ -> Zj, pow_zero -> ZN, sub_self -> Q7, sub_zero -> KC, testBit_and -> Yp, testBit_or -> Gw, testBit_xor -> BP, zero_add -> QL, zero_lt_one -> BO, zero_lt_succ -> PI, zero_mul -> Vm
open Option renaming bind_some -> Qp, map_some -> Yo
open Option.some renaming inj -> Xp
namespace Go.Ev.YtoipgdjfhahimaaGreat
open Go Go.Ev
attribute [local congr] JE JW JD JX Jz
set_option maxRecDepth 100000
variable{B n i tid u at_ e r L:Nat}{Hm G:List Ob}{sv tb sh s x:Value}{b st C:List Nat}{x4:Bool}{K:Nat->Prop}
theorem Rst.elems{K:Nat->Prop}{H:List Ob}{v:Value}{l:List Nat}(h:Rst K H v l):elemsOf H 1 l.length v=some (u8s l):=by
 cases h with
 |nil=>rfl
 |empty _ h2=>simp[elemsOf,Zz h2 rfl,u8s]
 |own h1 h2 h4 h3=>simp[elemsOf,Zz h2 rfl,Qq,h4,AJ h3]
theorem IW{p:List Nat}(he:G[e]?=some {c:=[]})(hKe:¬K e)(hKg:¬K G.length)(hl:Go.Ev.lenV x=some p.length)(hel:elemsOf G 1 p.length x=some (u8s p))(hb:p.length<=2^47) :
  ∃v' l,Jw 1 1 G (.slice e 0 0) x=some (v',G++l,none,[])/\Rst K (G++l) v' p/\Z7 v'=true/\v'.cells.toList=[v']/\v'.cells.size=1:=by
 have h4:liveAt G e=some {c:=[]}:=Zz he rfl
 rcases Jo p.length with hn|hn
 ·have:p=[]:=J7 hn
  subst this
  refine⟨.slice e 0 0,[],?_,by rw[QG];exact .empty hKe he,rfl,rfl,rfl⟩
  rw[ZT]at hl hel
  simp only[Jw,hl,hel,Qp,if_true,QG]
 ·have h1:¬p.length=0:=qr
  have h2:p.length*1<=2^47:=qr
  have h7:¬(p.length<=0):=qr
  have h8:elemsOf G 1 0 (.slice e 0 0)=some []:=by simp[elemsOf,h4]
  refine⟨.slice G.length p.length p.length,[Ob.grown 1 (u8s p)],?_,.own (all:=p) hKg (by simp[Ob.grown]) qr (fun i _=>by rw[QL]),rfl,rfl,rfl⟩
  simp only[Jw,hl,hel,Qp,if_neg h1,QL,h2,gY,BO,and_self,not_true_eq_false,if_false,if_true,h4,h8,if_neg h7,Ql]
theorem Rst.len{K:Nat->Prop}{H:List Ob}{v:Value}{l:List Nat}(h:Rst K H v l):Go.Ev.lenV v=some l.length:=by
 obtain⟨a,c,rfl⟩:=h.shape;rfl
theorem Yz(b:List Nat):(sha b).length=64:=by simp[sha]
theorem DK(b:List Nat):∀x∈sha b,x<256:=by
 intro x hx
 simp only[sha,Xo]at hx
 obtain⟨i,-,rfl⟩:=hx
 exact Q9 _ ww
def suI(r x o:Nat)(G:List Ob)(b:List Nat)(i:Int)(ex:Env):St:=⟨[(2,.pointer r),(3,.pointer x),(4,.pointer G.length),(32,.int .i64 i)]++ex,G++[{c:=u8s b}],[]⟩
theorem iW{x base:Nat}{rv:Value}{R:List Nat}(hx:G[x]?=some (hob rv n st))(hs:st.length=8)(hR:R.length=64)(hRi:∀i,i<64->R[i]?=some (st.getD (i/8) 0/256^(7-i%8)%256))(hxs:∀y∈st,y<18446744073709551616)(hb:base<=G.length) :
  Q0 T base (.block 0 (.loop Rz)) (suI r x 0 G (Qa 64 0) 0 [])=some (.normal,suI r x 0 G R 64 [(33,.bool false)]):=by
 have h:=ZR (T:=T) (base:=base) (id:=0) (body:=Rz) (fun i=>suI r x 0 G (pf 64 R i) i []) (s':=suI r x 0 G R 64 [(33,.bool false)]) 64
  (fun i hi=>by
   obtain⟨w,hw⟩:∃w,st[i/8]?=some w:=⟨_,Qf qr⟩
   have hw':=hxs w (Qo hw)
   have hv:=hRi i hi
   rw[JQ hw]at hv
   have hstep:=XD hR hi hv
   have hlen:=Kd hR (J0 hi)
   have hset:=Xc (pf 64 R i) i (w/256^(7-i%8)%256)
   rw[hstep]at hset
   have gc:=cE (rv:=rv) (n:=n) hw
   have hget:∀l:List Ob,(G++l)[x]?=some {c:=hcl rv n st}:=fun l=>by rw[Qc (Qg.1 hx).1];exact hx
   have e1:((i:Int)<64)=True:=wf
   have w3:IntKind.i64.wrap ((i:Int)+1)=((i+1:Nat):Int):=Z3 (b:=1) qr
   have w4:IntKind.i64.wrap ((i:Int).tdiv 8)=((i/8:Nat):Int):=wn (n:=i/8) qr
   have e2:(((i/8:Nat):Int)<8)=True:=wf
   have w5:(i:Int).tmod 8=((i%8:Nat):Int):=rfl
   have w6:IntKind.i64.wrap (8*((i%8:Nat):Int))=((8*(i%8):Nat):Int):=UQ (a:=8) qr
   have w7:IntKind.i64.wrap (56-((8*(i%8):Nat):Int))=((8*(7-i%8):Nat):Int):=by rw[QU qr qr];omega
   have e3:(((8*(7-i%8):Nat):Int)<0)=False:=wr
   have w8:(w:Int).fdiv (2^min (8*(7-i%8)) IntKind.u64.bits)=((w/256^(7-i%8):Nat):Int):=by
    rw[D2 qr,show(256:Nat)=2^8 from rfl,<-Je]
   have w9:IntKind.u8.wrap ((w/256^(7-i%8):Nat):Int)=((w/256^(7-i%8)%256:Nat):Int):=Bb _
   have e4:(i<=63)=True:=wf
   have m1:Q1 base [] [G.length]=[]:=QB (by simpa using hb)
   clear hstep hv hw
   generalize pf 64 R i=o1,pf 64 R (i+1)=o2 at *
   generalize w/256^(7-i%8)%256=d at *
   generalize w/256^(7-i%8)=d2 at *
   generalize 8*(7-i%8)=d3 at *
   generalize 8*(i%8)=d4 at *
   generalize i%8=d5 at *
   generalize i/8=d6 at *
   generalize i+1=i1 at *
   simp only[suI,Rz,Qr,quiet,cW,↓pW,reduceCtorEq,seval,-Qb,e1,e2,e3,e4,w3,w4,w5,w6,w7,w8,w9,hget,gc,hset,Qq,hlen,m1])
  (by
   rw[Ke hR]
   simp only[suI,Rz,Qr,quiet,cW,↓pW,reduceCtorEq,seval,-Qb])
 rw[Kc]at h
 exact h
theorem Grown.part{K:Nat->Prop}{B:Nat}{H:List Ob}{s:Value}{p:List Nat}(h:Grown .u8 B H s p)(hK:∀i,B<=i->i<H.length->K i)(xp:∀y∈p,y<256)(hl:p.length<=2^47-128)(h0:0<p.length):HPart K H s p:=by
 refine⟨?_,fun G hG =>?_,xp,hl⟩
 ·cases h with
  |nil=>exact absurd h0 ww
  |own _ _ _=>exact⟨_,_,rfl⟩
  |new _ _ _=>exact⟨_,_,rfl⟩
 ·cases h with
  |nil=>exact absurd h0 ww
  |@own id _ h1 h2 h3 =>
   have:=hG id (hK id h1 (Qg.1 h3).1)
   rw[h3]at this
   simp[elemsOf,Zz this rfl,Ob.grown,Q8]
   exact Qm (by rw[Q8];exact Qs _)
  |@new id _ h1 h2 h3 =>
   have:=hG id (hK id h1 (Qg.1 h3).1)
   rw[h3]at this
   simp[elemsOf,Zz this rfl,Ob.fresh,Q8]
   exact Qm (by rw[Q8];exact Qs _)
theorem bP(n:Nat):∀y∈UZ n,y<256:=by
 intro y hy
 simp only[UZ,Jr,QC,Yj,Xo]at hy
 rcases hy with rfl|⟨-,rfl⟩|⟨i,-,rfl⟩
 ·decide
 ·decide
 ·exact Q9 _ ww
theorem MD(n:Nat):(UZ n).length=17+Vt n:=by simp[UZ];omega
theorem Rst.toK{K K':Nat->Prop}{H:List Ob}{v:Value}{l:List Nat}(h:Rst K H v l)(hk:∀i,¬K i->¬K' i):Rst K' H v l:=by
 cases h with
 |nil=>exact .nil
 |empty h1 h2=>exact .empty (hk _ h1) h2
 |own h1 h2 h4 h3=>exact .own (hk _ h1) h2 h4 h3
theorem KO:Qa 64 (Value.int .u8 0)=u8s (Qa 64 0):=rfl
theorem gI(va:Option Addr)(rl vc m:Nat)(h:st.length=8):fillL [Value.slice none 0 0,.int .u64 0,.int .u64 0,.int .u64 0,.int .u64 0,.int .u64 0,.int .u64 0,.int .u64 0,.int .u64 0,.int .u64 0] [(0,2,.agg [.slice va rl vc,.int .u64 m].toArray),(2,8,eV st)]=some (hcl (.slice va rl vc) m st):=by
 obtain⟨a,b,c,d,e,f,g,i,rfl⟩:=eight h
 rfl
theorem vP{H:List Ob}{hid:Nat}{all:List Nat}(hh:Hsh K H hid all)(xa:∀y∈all,y<256)(hn:all.length<2^49) :
  ∃H',Z6 T 189 [.pointer hid] H=some (.agg (u8s (sha all)).toArray,H',[])/\(∀i,i<H.length->H'[i]?=H[i]?)/\H.length<=H'.length:=by
 obtain⟨rv,h1,h2⟩:=hh
 have hlt:hid<H.length:=(Qg.1 h1).1
 obtain⟨st,hst⟩:∃s,s=stK (all.length/128) all:=⟨_,rfl⟩
 have ls:st.length=8:=by rw[hst];exact HF _ _
 rw[<-hst]at h1
 obtain⟨G,hG⟩:∃G,G=H++[{c:=u8s (Qa 64 0)},{c:=[]}]:=⟨_,rfl⟩
 have hGl:G.length=H.length+2:=by rw[hG];simp
 have hrG:Rst K G rv (all.drop (128*(all.length/128))):=by rw[hG];exact h2.app
 have heG:G[H.length+1]?=some {c:=[]}:=by rw[hG,Qh qr,Q2];rfl
 have hzG:G[H.length]?=some {c:=u8s (Qa 64 0)}:=by rw[hG,Qh qr,Q7];rfl
 have hhG:G[hid]?=some (hob rv all.length st):=by rw[hG,Qc hlt];exact h1
 obtain⟨v',l,ha,hr',hok,hc1,hc2⟩:=IW (K:=fun i=>i≠H.length+1/\i≠G.length) heG wd wd hrG.len hrG.elems (by rw[QN];omega)
 obtain⟨G2,hG2⟩:∃X,X=G++l++[hob v' all.length st]:=⟨_,rfl⟩
 have hG2l:G2.length=G.length+l.length+1:=by rw[hG2];simp;omega
 obtain⟨xid,hxid⟩:∃x,x=(G++l).length:=⟨_,rfl⟩
 have hxl:xid=G.length+l.length:=by rw[hxid];simp
 have hx2:G2[xid]?=some (hob v' all.length st):=by rw[hG2,hxid,Qh (Qs _),Q7];rfl
 have hh2:G2[hid]?=some (hob rv all.length st):=by
  have:hid<G.length:=qr
  rw[hG2,Qt,Qc this];exact hhG
 obtain⟨s,l3,hp,hgr⟩:=SF hh2 qr
 obtain⟨G4,hG4⟩:∃X,X=G2++l3++[{c:=[s]}]:=⟨_,rfl⟩
 have hG4l:G4.length=G2.length+l3.length+1:=by rw[hG4];simp;omega
 have hgr4:Grown .u8 G2.length G4 s (UZ all.length):=by rw[hG4];exact hgr.app
 obtain⟨K2,hK2⟩:∃K2:Nat->Prop,K2=fun i=>i<G4.length/\i≠xid/\i≠H.length+1/\i≠G.length:=⟨_,rfl⟩
 have hx4:G4[xid]?=some (hob v' all.length st):=by rw[hG4,Qt,Qc qr];exact hx2
 have hsh4:Hsh K2 G4 xid all:=by
  refine⟨v',by rw[<-hst];exact hx4,?_⟩
  have:=(hr'.app (m:=[hob v' all.length st])).app (m:=l3++[{c:=[s]}])
  rw[<-hG2,<-Qt,<-hG4]at this
  exact this.toK fun i hi hk=>by
   rw[hK2]at hk
   exact hi ⟨hk.2.2.1,hk.2.2.2⟩
 have hpz:=MB all.length
 have hpart:HPart K2 G4 s (UZ all.length):=Grown.part hgr4 (fun i h1 h2=>by rw[hK2];exact⟨h2,by omega,by omega,by omega⟩) (bP _) (by rw[MD];omega) (by rw[MD];omega)
 have harr:(G2++l3).length<G4.length:=by rw[hG4];simp
 have hpv:PV K2 G4 (.slice ((G2++l3).length:Nat) 1 1) [s] := .inr ⟨_,0,1,_,rfl,by rw[hK2];exact⟨harr,by simp;omega,by simp;omega,by simp;omega⟩,by rw[hG4,Qh (Qs _),Q7];rfl,rfl,fun i _=>by rw[QL]⟩
 have hKx:¬K2 xid:=by rw[hK2];intro h;exact h.2.1 rfl
 obtain⟨G5,M5,hw,hsh5,hf5,hl5,hM5⟩:=Nq (fun i hi=>by rw[hK2]at hi;exact hi.1) hKx hsh4 xa hpv (.cons hpart .nil) (by show 1<2^50;decide) (by simp[MD];omega)
 rw[QO,Jh,QG]at hsh5
 obtain⟨rv5,hx5,-⟩:=hsh5
 obtain⟨st5,hst5⟩:∃s,s=stK ((all++UZ all.length).length/128) (all++UZ all.length):=⟨_,rfl⟩
 rw[<-hst5]at hx5
 have ls5:st5.length=8:=by rw[hst5];exact HF _ _
 have xs5:∀y∈st5,y<18446744073709551616:=by rw[hst5];exact Lm _ _
 have hb5:H.length<=G5.length:=qr
 have hsu:=iW (r:=H.length) (base:=H.length) hx5 ls5 (Yz all) (fun i hi=>by simp[sha,hi,hst5]) xs5 hb5
 have hz5:G5[H.length]?=some {c:=u8s (Qa 64 0)}:=by
  rw[hf5 _ (by rw[hK2];exact⟨by omega,by omega,by omega,by omega⟩),hG4,Qt,Qc qr,hG2,Qt,Qc qr]
  exact hzG
 have hfr:∀i,i<H.length->G5[i]?=H[i]? := fun i hi=>by
  rw[hf5 _ (by rw[hK2];exact⟨by omega,by omega,by omega,by omega⟩),hG4,Qt,Qc qr,hG2,Qt,Qc qr,hG,Qc hi]
 have hm5:Q1 H.length [] M5=[]:=QB fun i hi=>by
  have:=hM5 i hi
  rw[hK2]at this
  rcases ZL i H.length with h|h
  ·exact absurd (show i<G4.length/\i≠xid/\i≠H.length+1/\i≠G.length from⟨by omega,by omega,by omega,by omega⟩) this
  ·exact h
 refine⟨(G5++[({c:=u8s (sha all)}:Ob)]).set H.length ({c:=u8s (sha all)}:Ob),?_,fun i hi=>by rw[Qu qr,Qc qr];exact hfr i hi,by rw[Q4,Qj];omega⟩
 have hz:=KO
 have lz:(Qa 64 0).length=64:=Qe
 have lsh:=Yz all
 have cst:=I7 (rv:=rv) (n:=all.length) ls
 have c0:(hcl rv all.length st)[0]?=some rv:=rfl
 have c1:(hcl rv all.length st)[1]?=some (.int .u64 all.length):=rfl
 have hcl8:2+8<=(hcl rv all.length st).length:=by rw[HU];omega
 obtain⟨va,vc,rfl⟩:=hr'.shape
 generalize(all.drop (128*(all.length/128))).length=rl at *
 have fl1:fillL [Value.slice none 0 0,.int .u64 0] [(0,1,.slice va rl vc),(1,1,.int .u64 all.length)]=some [.slice va rl vc,.int .u64 all.length]:=rfl
 have fl2:=gI va rl vc all.length ls
 have fls:fillL [Value.slice none 0 0] [(0,1,s)]=some [s]:=by
  obtain⟨sa,sc,hsh⟩:=hpart.shape
  rw[hsh];rfl
 have f0:fillL [] []=some []:=rfl
 have F1:H++[{c:=u8s (Qa 64 0)},{c:=[]}]=G:=hG.symm
 have Fx:G.length+l.length=xid:=hxl.symm
 have F2:G++(l++[{c:=hcl (.slice va rl vc) all.length st}])=G2:=by rw[hG2,Qt];rfl
 have F4:G2++(l3++[{c:=[s]}])=G4:=by rw[hG4,Qt]
 have g1:G[hid]?=some {c:=hcl rv all.length st}:=hhG
 have g2:(G++l)[hid]?=some {c:=hcl rv all.length st}:=by rw[Qc qr];exact hhG
 have g5:∀o:Ob,(G5++[o])[H.length]?=some {c:=u8s (Qa 64 0)}:=fun o=>by rw[Qc qr];exact hz5
 have g6:∀o o':Ob,((G5++[o]).set H.length o')[H.length]?=some o':=fun o o'=>Qw (by rw[Qj];omega)
 have okcl:(hcl (.slice va rl vc) all.length st).all Z7=true:=by
  show(Z7 (.slice va rl vc)&&(Z7 (.int .u64 all.length)&&(ns .u64 st).all Z7))=true
  have:(ns .u64 st).all Z7=true:=by
   rw[ZX];intro y hy
   simp only[ns,Xo]at hy
   obtain⟨m,-,rfl⟩:=hy;rfl
  rw[this];rfl
 rw[Qj]at hw
 simp only[suI,Qn,Ql,QA]at hsu
 have hge:H.length<=H.length+1:=qr
 generalize hcl rv all.length st=C1,hcl (.slice va rl vc) all.length st=C2,sha all=R,Qa 64 0=Z64 at *
 rw[QY (fn:=yY) rfl]
 simp only[yY,Qr,quiet,cW,↓pW,reduceCtorEq,seval,-Qb,hz,f0,F1,g1,g2,c0,c1,ha,fl1,cst,hcl8,Qy,Q5,Za,Q6,fl2,Fx,F2,hp,fls,F4,hw,hm5,hsu,g5,g6,Qq,lz,lsh,Qx,Qe]
theorem du{H:List Ob}{pv:Value}{xs:List Value}{ps:List (List Nat)}(hp:PV (fun i=>i<H.length) H pv xs)(hP:HParts (fun i=>i<H.length) H xs ps)(hn:xs.length<2^50)(hb:ps.flatten.length<2^49) :
  ∃l,Z6 T 133 [pv] H=some (.agg (u8s (sha ps.flatten)).toArray,H++l,[]):=by
 obtain⟨H1,hH1⟩:∃X,X=H++[{c:=u8s (Qa 64 0)},hob (.slice none 0 0) 0 YX]:=⟨_,rfl⟩
 have hl1:H1.length=H.length+2:=by rw[hH1];simp
 have hg1:H1[H.length+1]?=some (hob (.slice none 0 0) 0 YX):=by rw[hH1,Qh qr,Q2];rfl
 have hz1:H1[H.length]?=some {c:=u8s (Qa 64 0)}:=by rw[hH1,Qh qr,Q7];rfl
 have hf1:∀i,i<H.length->H1[i]?=H[i]? := fun i hi=>by rw[hH1,Qc hi]
 have hp1:PV (fun i=>i<H.length+1) H1 pv xs:=by
  rcases hp with h|⟨pid,off,cap,o,h1,h2,h3,h4,h5⟩
  ·exact .inl h
  ·exact .inr ⟨pid,off,cap,o,h1,Y3 h2,(hf1 _ h2).trans h3,h4,h5⟩
 have hP1:HParts (fun i=>i<H.length+1) H1 xs ps:=by
  clear hn hb hp hp1
  induction hP with
  |nil=>exact .nil
  |cons a _ ih=>exact .cons ⟨a.shape,fun G hG=>a.reads G fun i hi=>(hG i (Y3 hi)).trans (hf1 i hi),a.lt,a.le⟩ ih
 obtain⟨H2,M2,hw,s2,f2,l2,m2⟩:=Nq (K:=fun i=>i<H.length+1) (hid:=H.length+1) (fun i hi=>by have:i<H.length+1:=hi;omega) (We _) (sC hg1) wd hp1 hP1 hn (by rw[Ql];omega)
 rw[Ql]at s2
 obtain⟨H3,hs3,f3,l3⟩:=vP s2 hP.lt hb
 have hm2:Q1 H.length [] M2=[]:=QB fun i hi=>by
  have:¬i<H.length+1:=m2 i hi
  omega
 have g3:H3[H.length]?=some {c:=u8s (Qa 64 0)}:=by
  rw[f3 _ qr,f2 _ (Ml _)];exact hz1
 have hfr:∀i,i<H.length->(H3.set H.length ({c:=u8s (sha ps.flatten)}:Ob))[i]?=H[i]? := fun i hi=>by
  rw[Qu qr,f3 _ qr,f2 _ (Y3 hi)];exact hf1 i hi
 have hle:H.length<=(H3.set H.length ({c:=u8s (sha ps.flatten)}:Ob)).length:=by rw[Q4];omega
 obtain⟨l,hl⟩:=XG hle hfr
 refine⟨l,?_⟩
 rw[<-hl]
 have hz:=KO
 have lz:(Qa 64 0).length=64:=Qe
 have lsh:=Yz ps.flatten
 have hnew:=wL (H++[{c:=u8s (Qa 64 0)}])
 have e1:(H++[({c:=u8s (Qa 64 0)}:Ob)]).length=H.length+1:=by simp
 rw[e1,Qt,Qn,Ql,<-hH1]at hnew
 have g4:∀o:Ob,(H3.set H.length o)[H.length]?=some o:=fun o=>Qw qr
 generalize sha ps.flatten=R,Qa 64 0=Z64 at *
 rw[QY (fn:=zb) rfl]
 simp only[zb,Qr,quiet,cW,↓pW,reduceCtorEq,seval,-Qb,hz,hnew,hw,hm2,hs3,g3,g4,Qy,Q5,Za,Q6,Qq,lz,lsh,Qx,Qe]
def Sq(n p i:Nat)(ex:Env):St:=⟨[(0,.int .i64 n),(3,.int .u64 p),(4,.int .i64 i)]++ex,[],[]⟩
theorem rE(h:n<64):2^n<18446744073709551616:=Nat.pow_lt_pow_right (by decide:1<2) (m:=n) (n:=64) h
theorem kH(hn:n<64)(hi:i<n):Q0 T 0 Rt (Sq n (2^i) i [])=some (.normal,Sq n (2^(i+1)) (i+1) []):=by
 have e1:((i:Int)<(n:Int))=True:=wf
 have w1:IntKind.i64.wrap ((i:Int)+1)=((i+1:Nat):Int):=ZB (n:=i+1) qr
 have hlt:2^(i+1)<18446744073709551616:=rE qr
 have w2:IntKind.u64.wrap (((2^i:Nat):Int)*2)=((2^(i+1):Nat):Int):=by
  rw[show(((2^i:Nat):Int)*2)=((2^(i+1):Nat):Int) by rw[Zj];exact(JN _ _).symm,UC,Qv hlt]
 generalize 2^(i+1)=q at *
 generalize 2^i=p at *
 generalize i+1=i1 at *
 simp only[Sq,Rt,Qr,quiet,cW,↓pW,reduceCtorEq,seval,-Qb,e1,w1,w2]
theorem Ud(hn:n<64):evVal T 183 [.int .i64 n]=some (.int .u64 ((2^n:Nat):Int)):=by
 have hb:=ZR (T:=T) (base:=0) (id:=0) (body:=Rt) (fun i=>Sq n (2^i) i []) (s':=Sq n (2^n) n [(7,.bool false)]) n
  (fun i hi=>kH hn hi) (by
   have e1:((n:Int)<(n:Int))=False:=wr
   generalize 2^n=p at *
   simp only[Sq,Rt,Qr,quiet,cW,↓pW,reduceCtorEq,seval,-Qb,e1])
 generalize 2^n=p at *
 simp only[Sq,Qn,Ql,ZN,QA,Vd]at hb
 apply QE (fn:=yO) rfl
 simp only[yO,Qr,quiet,cW,↓pW,reduceCtorEq,seval,-Qb,hb]
 rfl
theorem UR{x:Nat}(hx:x<18446744073709551616)(hr:0<r)(hr':r<=63):evVal T 182 [.int .u64 x,.int .i64 r,.int .i64 64]=some (.int .u64 (JV x r:Nat)):=by
 have h1:=Ud (n:=r) qr
 have h2:=Ud (n:=64-r) qr
 have hsub:IntKind.i64.wrap (64-(r:Int))=((64-r:Nat):Int):=by rw[show(64:Int)-(r:Int)=((64-r:Nat):Int) by omega];exact ZB qr
 have hp:0<2^r:=JT ww
 have hz:(((2^r:Nat):Int)=0)=False:=wr
 have hd:((x:Nat):Int).tdiv ((2^r:Nat):Int)=((x/2^r:Nat):Int):=rfl
 have hd':IntKind.u64.wrap ((x/2^r:Nat):Int)=((x/2^r:Nat):Int):=by rw[UC,Qv (Jc (Jx _ _) hx)]
 have hm:IntKind.u64.wrap ((x:Int)*((2^(64-r):Nat):Int))=((x*2^(64-r)%18446744073709551616:Nat):Int):=by rw[<-JN,UC]
 have hrot:x/2^r+x*2^(64-r)%18446744073709551616=JV x r:=rfl
 have ha:IntKind.u64.wrap (((x/2^r:Nat):Int)+((x*2^(64-r)%18446744073709551616:Nat):Int))=((JV x r:Nat):Int):=by
  rw[W6,hrot,Qv (XN hx hr hr')]
 generalize JV x r=R at *
 generalize x*2^(64-r)%18446744073709551616=M at *
 generalize x/2^r=D at *
 generalize 2^(64-r)=A at *
 generalize 2^r=B at *
 generalize 64-r=q at *
 apply QE (fn:=pT) rfl
 simp only[pT,Qr,quiet,cW,↓pW,reduceCtorEq,seval,-Qb,h1,h2,hsub,hz,hd,hd',hm,ha]
 rfl
theorem C7(x:Nat):evVal T 184 [.int .u64 x,.int .i64 64]=some (.int .u64 (x:Nat)):=by
 apply QE (fn:=pS) rfl
 simp only[pS,Qr,quiet,cW,↓pW,reduceCtorEq,seval,-Qb]
 rfl
theorem UD{a b c:Nat}(ha:a<18446744073709551616)(hb:b<18446744073709551616)(hc:c<18446744073709551616):evVal T 181 [.int .u64 a,.int .u64 b,.int .u64 c]=some (.int .u64 ((a^^^b^^^c:Nat):Int)):=by
 have h1:=Wm ha hb
 have h2:=Wm (Ys ha hb) hc
 generalize a^^^b^^^c=R at *
 generalize a^^^b=q at *
 apply QE (fn:=yP) rfl
 simp only[yP,Qr,quiet,cW,↓pW,reduceCtorEq,seval,-Qb,h1,h2]
 rfl
theorem gV{e f g:Nat}(he:e<2^64):(e&&&f)|||((2^64-1-e)&&&g)=(e&&&f)^^^(((2^64-1)^^^e)&&&g):=by
 apply Ao
 intro i
 have h1:(2^64-1-e).testBit i=(decide (i<64) && !e.testBit i):=by
  rw[show 2^64-1-e=2^64-(e+1) by omega,Nat.testBit_two_pow_sub_succ he]
 have h2:((2^64-1)^^^e).testBit i=(decide (i<64) ^^ e.testBit i):=by
  rw[BP,Nat.testBit_two_pow_sub_one]
 have h3:e.testBit i=true->i<64:=fun h=>by
  rcases ZL i 64 with k|k
  ·exact k
  ·rw[Nat.testBit_lt_two_pow (QM he (Zo ww k))]at h;cases h
 rw[Gw,BP,Yp,Yp,Yp,h1,h2]
 cases he':e.testBit i<;>cases f.testBit i<;>cases g.testBit i<;>simp_all
theorem nk(a b c:Nat):(a&&&b)|||(a&&&c)|||(b&&&c)=maO a b c:=by
 apply Ao
 intro i
 simp only[maO,Gw,BP,Yp]
 cases a.testBit i<;>cases b.testBit i<;>cases c.testBit i<;>rfl
theorem ch_or{f g:Nat}(he:e<18446744073709551616):(e&&&f)|||((18446744073709551615-e)&&&g)=chO e f g:=gV (e:=e) (f:=f) (g:=g) he
theorem FZ(H:List Ob):Z6 T 180 [] H=some (.slice H.length 80 80,H++[{c:=ns .u64 Ky}],[]):=by
 have hf:=I5
 have l8:(ns .u64 Ky).length=80:=rfl
 rw[QY (fn:=yQ) rfl]
 simp only[yQ,Qr,quiet,cW,↓pW,reduceCtorEq,seval,-Qb,hf,l8]
def shC(sv:Value):List Value:=[.int .i64 64,.int .i64 80,.int .i64 128,sv,.int .i64 1,.int .i64 8,.int .i64 7,.int .i64 19,.int .i64 61,.int .i64 6,.int .i64 28,.int .i64 34,.int .i64 39,.int .i64 14,.int .i64 18,.int .i64 41]
theorem shC_0(sv:Value):(shC sv)[0]?=some (.int .i64 64):=rfl
theorem FY(sv:Value):(shC sv)[1]?=some (.int .i64 80):=rfl
theorem uY(sv:Value):(shC sv)[2]?=some (.int .i64 128):=rfl
theorem shC_3(sv:Value):(shC sv)[3]?=some sv:=rfl
theorem bE(sv:Value):(shC sv).length=16:=rfl
def rzI(B:Nat)(x s:Value)(Hc:List Ob)(ex:Env):St:=⟨[(0,x),(3,.pointer B),(5,.int .i64 8),(6,s)]++ex,Hc,[]⟩
theorem kv{N:Nat}{s0:Value}{H1 Hc0:List Ob}{bs:List Nat}(hBN:B<N)(hh:H1[B]?=some {c:=shC sv})(hn:bs.length<2^46)(hg0:Grown .u8 N Hc0 s0 (bs++[128]))(hL0:N<=Hc0.length)(hF0:∀i,i<N->Hc0[i]?=H1[i]?) :
  ∃s Hc,Q0 T B (.block 0 (.loop WE)) (rzI B x s0 Hc0 [])=some (.normal,rzI B x s Hc [(48,.bool false)])/\Grown .u8 N Hc s (bs++128::Qa (Vt bs.length) 0)/\N<=Hc.length/\∀i,i<N->Hc[i]?=H1[i]? := by
 have f0:fillL [Value.int .u8 0] [(0,1,.int .u8 0)]=some [.int .u8 0]:=rfl
 have c2:=uY sv
 have hz:=MB bs.length
 obtain⟨st,hb,s,Hc,rfl,hg,hL,hF⟩:=Zh (T:=T) (base:=B) (id:=0) (body:=WE)
  (fun j st=>∃s Hc,st=rzI B x s Hc []/\Grown .u8 N Hc s (bs++128::Qa j 0)/\N<=Hc.length/\∀i,i<N->Hc[i]?=H1[i]?)
  (Q:=fun st=>∃s Hc,st=rzI B x s Hc [(48,.bool false)]/\Grown .u8 N Hc s (bs++128::Qa (Vt bs.length) 0)/\N<=Hc.length/\∀i,i<N->Hc[i]?=H1[i]?)
  (Vt bs.length) (s:=rzI B x s0 Hc0 []) ⟨_,_,rfl,hg0,hL0,hF0⟩
  (fun j st hj hs=>by
   obtain⟨s,Hc,rfl,hg,hL,hF⟩:=hs
   have hl:=hg.len
   have e1:(bs++128::Qa j 0).length=bs.length+(1+j):=by simp;omega
   rw[e1]at hl
   obtain⟨s',H',M,h1,h2,h3,h4,h5⟩:=VX (x:=0) (bytes:=1) hg hL (by rw[e1];omega) ww
   have hm:Q1 B [] M=[]:=QB fun i hi=>by have:=h3 i hi;omega
   have hget:Hc[B]?=some {c:=shC sv}:=(hF B hBN).trans hh
   have w3:IntKind.i64.wrap (((bs.length+(1+j):Nat):Int)+16)=((bs.length+(1+j)+16:Nat):Int):=Z3 (b:=16) qr
   have w4:((bs.length+(1+j)+16:Nat):Int).tmod 128=(((bs.length+(1+j)+16)%128:Nat):Int):=rfl
   have w5:((((bs.length+(1+j)+16)%128:Nat):Int) != 0)=true:=bne_iff_ne.2 (by have:=TD bs.length j hj;omega)
   refine⟨rzI B x s' H' [],?_,s',H',rfl,by rw[Km,<-Qn,<-Qt];exact h2,h4,fun i hi=>by rw[h5 i hi,hF i hi]⟩
   simp only[QA]at h1
   generalize(bs.length+(1+j)+16)%128=r at *
   generalize bs.length+(1+j)+16=r2 at *
   generalize bs.length+(1+j)=r3 at *
   generalize shC sv=sc at *
   simp only[rzI,WE,Qr,quiet,cW,↓pW,reduceCtorEq,seval,-Qb,hget,c2,hl,w3,w4,w5,f0,h1,hm])
  (fun st hs=>by
   obtain⟨s,Hc,rfl,hg,hL,hF⟩:=hs
   have hl:=hg.len
   have e1:(bs++128::Qa (Vt bs.length) 0).length=bs.length+(1+Vt bs.length):=by simp;omega
   rw[e1]at hl
   have hget:Hc[B]?=some {c:=shC sv}:=(hF B hBN).trans hh
   have w3:IntKind.i64.wrap (((bs.length+(1+Vt bs.length):Nat):Int)+16)=((bs.length+(1+Vt bs.length)+16:Nat):Int):=Z3 (b:=16) qr
   have w4:((bs.length+(1+Vt bs.length)+16:Nat):Int).tmod 128=0:=by
    have:((bs.length+(1+Vt bs.length)+16:Nat):Int).tmod 128=(((bs.length+(1+Vt bs.length)+16)%128:Nat):Int):=rfl
    rw[this,Cm];rfl
   refine⟨_,?_,s,Hc,rfl,hg,hL,hF⟩
   generalize bs.length+(1+Vt bs.length)+16=r2 at *
   generalize bs.length+(1+Vt bs.length)=r3,shC sv=sc at *
   simp only[rzI,WE,Qr,quiet,cW,↓pW,reduceCtorEq,seval,-Qb,hget,c2,hl,w3,w4])
 exact⟨s,Hc,hb,hg,hL,hF⟩
def rcI(B:Nat)(s:Value)(Hm:List Ob)(C:List Nat)(m:Nat)(iv:Int)(ex:Env):St:=⟨[(3,.pointer B),(5,.int .i64 8),(6,s),(7,.slice Hm.length 16 16),(8,.int .u64 m),(9,.int .i64 iv)]++ex,Hm++[{c:=u8s C}],[]⟩
theorem lJ(hB:B<=Hm.length)(lC:C.length=16)(hn:n<18446744073709551616) :
  Q0 T B Vk (rcI B s Hm C n 15 [])=some (.normal,rcI B s Hm (C.set 15 (Ug n 15)) (n/32) 14 []):=by
 have w1:(n:Int).tmod 32=((n%32:Nat):Int):=rfl
 have w2:IntKind.u64.wrap (((n%32:Nat):Int)*8)=((n%32*8:Nat):Int):=by
  rw[show((n%32:Nat):Int)*8=((n%32*8:Nat):Int) from(JN _ _).symm,UC,Qv qr]
 have hp:Ug n 15=n%32*8:=by
  unfold Ug
  rw[show 15-15=0 from rfl,ZN,J1]
  omega
 have w3:IntKind.u8.wrap ((n%32*8:Nat):Int)=((n%32*8:Nat):Int):=by rw[Bb,Qv qr]
 have w4:IntKind.u64.wrap ((n:Int).tdiv 32)=((n/32:Nat):Int):=by rw[show((n:Int).tdiv 32)=((n/32:Nat):Int) from rfl,UC,Qv qr]
 have hset:=Xc C 15 (n%32*8)
 have im:Q1 B [] [Hm.length]=[]:=QB (by simp;omega)
 have hl:15+1<=(u8s C).length:=by rw[Qq,lC];decide
 rw[hp]
 generalize n%32*8=d at *
 generalize n%32=r at *
 generalize n/32=m at *
 simp only[rcI,Vk,Qr,quiet,cW,↓pW,reduceCtorEq,seval,-Qb,w1,w2,w3,w4,hset,im,hl]
theorem rm{k:Nat}(hB:B<=Hm.length)(lC:C.length=16)(hk:k<15)(hn:n<18446744073709551616) :
  Q0 T B Vk (rcI B s Hm C n (k:Nat) [])=some (.normal,rcI B s Hm (C.set k (n%256)) (n/256) ((k:Int)-1) []):=by
 have w1:(n:Int).tmod 256=((n%256:Nat):Int):=rfl
 have w3:IntKind.u8.wrap ((n%256:Nat):Int)=((n%256:Nat):Int):=by rw[Bb,Kl]
 have w4:IntKind.u64.wrap ((n:Int).tdiv 256)=((n/256:Nat):Int):=by rw[show((n:Int).tdiv 256)=((n/256:Nat):Int) from rfl,UC,Qv qr]
 have w5:IntKind.i64.wrap ((k:Int)-1)=(k:Int)-1:=QU qr qr
 have e1:(0<=(k:Int))=True:=wf
 have e2:((k:Int)==15)=false:=beq_eq_false_iff_ne.2 qr
 have e3:((k:Int)<16)=True:=wf
 have hset:=Xc C k (n%256)
 have im:Q1 B [] [Hm.length]=[]:=QB (by simp;omega)
 have hl:k+1<=(u8s C).length:=by rw[Qq,lC];omega
 generalize n%256=d at *
 generalize n/256=m at *
 simp only[rcI,Vk,Qr,quiet,cW,↓pW,reduceCtorEq,seval,-Qb,w1,w3,w4,w5,e1,e2,e3,hset,im,hl]
theorem lM(hB:B<=Hm.length)(hn:n<2^46) :
  Q0 T B (.block 2 (.loop Vk)) (rcI B s Hm (Qa 16 0) n 15 [])=some (.normal,rcI B s Hm ((ZH 16).map (Ug n)) (8*n/256^16) (-1) [(62,.bool false)]):=by
 obtain⟨st,hb,C,rfl,lC,hC⟩:=Zh (T:=T) (base:=B) (id:=2) (body:=Vk)
  (fun j st=>∃C m,st=rcI B s Hm C m ((15:Int)-(j:Nat)) []/\C.length=16/\(m=if j=0 then n else 8*n/256^j)/\∀i,16<=i+j->i<16->C[i]?=some (Ug n i))
  (Q:=fun st=>∃C,st=rcI B s Hm C (8*n/256^16) (-1) [(62,.bool false)]/\C.length=16/\∀i,i<16->C[i]?=some (Ug n i))
  16 (s:=rcI B s Hm (Qa 16 0) n 15 []) ⟨_,_,rfl,rfl,rfl,fun i h1 h2=>by omega⟩
  (fun j st hj hs=>by
   obtain⟨C,m,rfl,lC,hm,hC⟩:=hs
   rcases Jo j with h0|h0
   ·subst h0
    rw[if_pos rfl]at hm
    subst hm
    refine⟨_,lJ hB lC qr,_,_,rfl,by rw[Q4];exact lC,by rw[if_neg ww,QL,zh];omega,fun i h1 h2 =>?_⟩
    have:i=15:=qr
    subst this
    rw[Qw qr]
   ·rw[if_neg qr]at hm
    subst hm
    have e:((15:Int)-(j:Nat))=((15-j:Nat):Int):=qr
    have hlt:8*n/256^j<18446744073709551616:=Jc (Jx _ _) qr
    have hp:Ug n (15-j)=8*n/256^j%256:=by unfold Ug;rw[show 15-(15-j)=j by omega]
    have hd:8*n/256^j/256=8*n/256^(j+1):=by rw[QV,Zj]
    have hbd:=rm (s:=s) hB lC (k:=15-j) qr hlt
    rw[<-e,<-hp,hd]at hbd
    refine⟨_,hbd,_,_,by rw[show(15:Int)-(j:Nat)-1=(15:Int)-((j+1:Nat):Int) by omega],by rw[Q4];exact lC,by rw[if_neg qr],fun i h1 h2 =>?_⟩
    by_cases h:i=15-j
    ·subst h;rw[Qw qr]
    ·rw[Qu qr];exact hC i qr h2)
  (fun st hs=>by
   obtain⟨C,m,rfl,lC,hm,hC⟩:=hs
   rw[if_neg ww]at hm
   refine⟨_,?_,C,rfl,lC,fun i hi=>hC i qr hi⟩
   subst hm
   generalize 8*n/256^16=m at *
   simp only[rcI,Vk,Qr,quiet,cW,↓pW,reduceCtorEq,seval,-Qb])
 have:C=(ZH 16).map (Ug n):=ZW fun i=>by
  by_cases h:i<16
  ·rw[hC i h];simp[h]
  ·rw[QI qr,QI (by simp;omega)]
 rw[<-this]
 exact hb
def tuC:List Value:=[.int .i64 1,.int .i64 8,.int .i64 7,.int .i64 19,.int .i64 61,.int .i64 6,.int .i64 28,.int .i64 34,.int .i64 39,.int .i64 14,.int .i64 18,.int .i64 41]
def rhE(B tid L:Nat)(tb sv:Value)(u at_ q:Nat)(i:Int):Env:=[(3,.pointer B),(5,.int .i64 8),(6,.slice tid L L),(10,tb),(11,sv),(12,.int .i64 64),(13,.pointer u),(14,.int .i64 at_),(15,.slice q 80 80),(16,.int .i64 i)]
def rhI(B tid L:Nat)(tb sv:Value)(u at_:Nat)(Hm:List Ob)(W:List Nat)(i:Int)(ex:Env):St:=⟨rhE B tid L tb sv u at_ Hm.length i++ex,Hm++[{c:=ns .u64 W}],[]⟩
theorem mb{all:List Nat}(hB:B<=Hm.length)(ht:Hm[tid]?=some ⟨u8s all,true,true,x4,1⟩)(hL:all.length<2^50)(hb:∀j,j<128->all[at_+j]?=b[j]?)(hbl:b.length=128)(hx:∀y∈b,y<256)(hat:at_+128<=all.length)(hi:i<16) :
  Q0 T B (.block 8 (.loop WG)) (rhI B tid all.length tb sv u at_ Hm (pf 80 (JY b) i) i [(17,.int .i64 0)])=some (.normal,rhI B tid all.length tb sv u at_ Hm (pf 80 (JY b) (i+1)) i [(17,.int .i64 8),(120,.bool false)]):=by
 have hWl:=YF b
 have h8:((b.drop (8*i)).take 8).length=8:=by rw[Q3,QN];omega
 have hz:=DQ (L:=JY b) (by omega:i<80) hWl
 have hpl:=Kd hWl (by omega:i<=80)
 have MP:(pf 80 (JY b) i).set i (be [])=pf 80 (JY b) i:=AR hz
 have hW:=RD (b:=b) hi
 have hstep:=XD hWl (by omega:i<80) hW
 have h:=ZR (T:=T) (base:=B) (id:=8) (body:=WG) (fun j=>rhI B tid all.length tb sv u at_ Hm ((pf 80 (JY b) i).set i (be (((b.drop (8*i)).take 8).take j))) i [(17,.int .i64 j)]) (s':=rhI B tid all.length tb sv u at_ Hm (pf 80 (JY b) (i+1)) i [(17,.int .i64 8),(120,.bool false)]) 8
  (fun j hj=>by
   obtain⟨x,hxj⟩:∃x,((b.drop (8*i)).take 8)[j]?=some x:=⟨_,Qf qr⟩
   have hxb:b[8*i+j]?=some x:=by
    rw[QW,if_pos hj,Zp]at hxj;exact hxj
   have hx':=hx x (Qo hxb)
   have hxa:(u8s all)[at_+8*i+j]?=some (.int .u8 (x:Nat)):=Js (by rw[show at_+8*i+j=at_+(8*i+j) by omega,hb _ qr];exact hxb)
   have hbel:=IU j (((b.drop (8*i)).take 8).take j) (by rw[Q3];omega) (fun y hy=>hx y (ZF (QP (QP hy))))
   have hbes:be (((b.drop (8*i)).take 8).take (j+1))=be (((b.drop (8*i)).take 8).take j)*256+x:=by rw[Zx,hxj];exact A9 _ _
   rw[hbes]
   have h256:(256:Nat)^j<=256^7:=Zo ww qr
   have e7:(256:Nat)^7=72057594037927936:=ww
   rw[e7]at h256
   generalize be (((b.drop (8*i)).take 8).take j)=a at *
   have hg:((pf 80 (JY b) i).set i a)[i]?=some a:=by rw[Qw (by rw[hpl];omega)]
   have hgc:=ZJ (k := .u64) hg
   have hss:=Xt .u64 ((pf 80 (JY b) i).set i a) i (a*256+x)
   rw[Yh]at hss
   have hln:((pf 80 (JY b) i).set i a).length=80:=by rw[Q4];exact hpl
   have w1:IntKind.i64.wrap ((j:Int)+1)=((j+1:Nat):Int):=Z3 (b:=1) qr
   have w2:IntKind.u64.wrap (x:Int)=(x:Int):=Kz qr
   have w3:IntKind.u64.wrap ((a:Int)*256)=((a*256:Nat):Int):=by
    rw[show(a:Int)*256=((a*256:Nat):Int) from(JN _ _).symm];exact Kz qr
   have w4:IntKind.u64.wrap (((a*256:Nat):Int)+(x:Int))=((a*256+x:Nat):Int):=by
    rw[<-Jm];exact Kz qr
   have w5:IntKind.i64.wrap (8*(i:Int))=((8*i:Nat):Int):=ZB (n:=8*i) qr
   have w6:IntKind.i64.wrap ((at_:Int)+((8*i:Nat):Int))=((at_+8*i:Nat):Int):=Z3 qr
   have w7:IntKind.i64.wrap (((at_+8*i:Nat):Int)+(j:Int))=((at_+8*i+j:Nat):Int):=Z3 qr
   have e1:((j:Int)<8)=True:=wf
   have e2:((i:Int)<80)=True:=wf
   have e3:(((at_+8*i+j:Nat):Int)<((all.length:Nat):Int))=True:=wf
   have hget:(Hm++[{c:=ns .u64 ((pf 80 (JY b) i).set i a)}])[tid]?=some ⟨u8s all,true,true,x4,1⟩:=by rw[Qc (Qg.1 ht).1];exact ht
   have hle:i+1<=(ns .u64 ((pf 80 (JY b) i).set i a)).length:=by rw[Q8,hln];omega
   have im:Q1 B [] [Hm.length]=[]:=QB (by simp;omega)
   generalize(pf 80 (JY b) i).set i a=O1,(pf 80 (JY b) i).set i (a*256+x)=O2 at *
   generalize hv:a*256+x=v at *
   generalize a*256=v2 at *
   generalize hoo:at_+8*i+j=oo at *
   generalize at_+8*i=o2 at *
   generalize 8*i=o3 at *
   generalize all.length=LL at *
   generalize j+1=j1 at *
   simp only[rhI,rhE,WG,Qr,quiet,cW,↓pW,reduceCtorEq,seval,-Qb,e1,e2,e3,w1,w2,w3,w4,w5,w6,w7,hget,hxa,hgc,hss,hle,im])
  (by
   have e8:((b.drop (8*i)).take 8).take 8=(b.drop (8*i)).take 8:=by rw[gZ,uO]
   rw[e8,hstep]
   generalize pf 80 (JY b) (i+1)=O2 at *
   simp only[rhI,rhE,WG,Qr,quiet,cW,↓pW,reduceCtorEq,seval,-Qb])
 rw[Xi,MP]at h
 exact h
theorem bq:tuC.length=12:=rfl
theorem div64(x r:Nat):(x:Int).tdiv ((r:Nat):Int)=((x/r:Nat):Int):=rfl
theorem p7_v:evVal T 183 [.int .i64 7]=some (.int .u64 128):=Ud (n:=7) ww
theorem p6_v:evVal T 183 [.int .i64 6]=some (.int .u64 64):=Ud (n:=6) ww
theorem rq(hB:B<Hm.length)(hS:Hm[B]?=some {c:=shC sh})(hU:Hm[u]?=some {c:=tuC})(hb:∀x∈b,x<256)(hi:16<=i)(hi':i<80) :
  Q0 T B Vl (rhI B tid L tb sv u at_ Hm (pf 80 (JY b) i) i [])=some (.normal,rhI B tid L tb sv u at_ Hm (pf 80 (JY b) (i+1)) ((i+1:Nat):Int) []):=by
 have hWl:=YF b
 have hW:=RC (b:=b) hi hi'
 have hstep:=XD hWl hi' hW
 have hpl:=Kd hWl (J0 hi')
 obtain⟨x,hx⟩:∃x,(JY b)[i-15]?=some x:=⟨_,Qf qr⟩
 obtain⟨y,hy⟩:∃x,(JY b)[i-2]?=some x:=⟨_,Qf qr⟩
 obtain⟨w,hu⟩:∃x,(JY b)[i-16]?=some x:=⟨_,Qf qr⟩
 obtain⟨v,hv⟩:∃x,(JY b)[i-7]?=some x:=⟨_,Qf qr⟩
 have lx:=At hb hx
 have ly:=At hb hy
 have cx:=ZJ (k := .u64) ((Ym (n:=80) (by omega:i-15<i) qr).trans hx)
 have cy:=ZJ (k := .u64) ((Ym (n:=80) (by omega:i-2<i) qr).trans hy)
 have cu:=ZJ (k := .u64) ((Ym (n:=80) (by omega:i-16<i) qr).trans hu)
 have cv:=ZJ (k := .u64) ((Ym (n:=80) (by omega:i-7<i) qr).trans hv)
 rw[JQ hx,JQ hy,JQ hu,JQ hv]at hstep
 have r1:evVal T 182 [.int .u64 x,.int .i64 1,.int .i64 64]=some (.int .u64 (JV x 1:Nat)):=UR (r:=1) lx ww ww
 have r8:evVal T 182 [.int .u64 x,.int .i64 8,.int .i64 64]=some (.int .u64 (JV x 8:Nat)):=UR (r:=8) lx ww ww
 have r19:evVal T 182 [.int .u64 y,.int .i64 19,.int .i64 64]=some (.int .u64 (JV y 19:Nat)):=UR (r:=19) ly ww ww
 have r61:evVal T 182 [.int .u64 y,.int .i64 61,.int .i64 64]=some (.int .u64 (JV y 61:Nat)):=UR (r:=61) ly ww ww
 have b1:=XN (r:=1) lx ww ww
 have b8:=XN (r:=8) lx ww ww
 have b19:=XN (r:=19) ly ww ww
 have b61:=XN (r:=61) ly ww ww
 have b7:x/2^7<18446744073709551616:=MZ lx
 have b6:y/2^6<18446744073709551616:=MZ ly
 have x2:evVal T 181 [.int .u64 (JV x 1:Nat),.int .u64 (JV x 8:Nat),.int .u64 (x/2^7:Nat)]=some (.int .u64 (sg0 x:Nat)):=UD b1 b8 b7
 have y2:evVal T 181 [.int .u64 (JV y 19:Nat),.int .u64 (JV y 61:Nat),.int .u64 (y/2^6:Nat)]=some (.int .u64 (sg1 y:Nat)):=UD b19 b61 b6
 have p7:=p7_v
 have p6:=p6_v
 have s7:IntKind.u64.wrap ((x:Int).tdiv 128)=((x/2^7:Nat):Int):=Kz b7
 have s6:IntKind.u64.wrap ((y:Int).tdiv 64)=((y/2^6:Nat):Int):=Kz b6
 have m1:=W6 w (sg0 x)
 have m2:=W6 ((w+sg0 x)%18446744073709551616) v
 have m3:=W6 (((w+sg0 x)%18446744073709551616+v)%18446744073709551616) (sg1 y)
 have hsum:(((w+sg0 x)%18446744073709551616+v)%18446744073709551616+sg1 y)%18446744073709551616=(w+v+sg0 x+sg1 y)%18446744073709551616:=qr
 rw[hsum]at m3
 have kp:=C7 ((w+v+sg0 x+sg1 y)%18446744073709551616)
 have hset:=Xt .u64 (pf 80 (JY b) i) i ((w+v+sg0 x+sg1 y)%18446744073709551616)
 rw[hstep]at hset
 have e1:((i:Int)<80)=True:=wf
 have e2:((i:Int)<16)=False:=wr
 have i15:IntKind.i64.wrap ((i:Int)-15)=((i-15:Nat):Int):=by rw[QU qr qr];omega
 have i2:IntKind.i64.wrap ((i:Int)-2)=((i-2:Nat):Int):=by rw[QU qr qr];omega
 have i16:IntKind.i64.wrap ((i:Int)-16)=((i-16:Nat):Int):=by rw[QU qr qr];omega
 have i7:IntKind.i64.wrap ((i:Int)-7)=((i-7:Nat):Int):=by rw[QU qr qr];omega
 have j15:(((i-15:Nat):Int)<80)=True:=wf
 have j2:(((i-2:Nat):Int)<80)=True:=wf
 have j16:(((i-16:Nat):Int)<80)=True:=wf
 have j7:(((i-7:Nat):Int)<80)=True:=wf
 have w3:IntKind.i64.wrap ((i:Int)+1)=((i+1:Nat):Int):=Z3 (b:=1) qr
 have hle:i+1<=(ns .u64 (pf 80 (JY b) i)).length:=by rw[Q8,hpl];omega
 have im:Q1 B [] [Hm.length]=[]:=QB (by simp;omega)
 have gS:∀m:List Ob,(Hm++m)[B]?=some {c:=shC sh}:=fun m=>by rw[Qc hB];exact hS
 have gU:∀m:List Ob,(Hm++m)[u]?=some {c:=tuC}:=fun m=>by rw[Qc (Qg.1 hU).1];exact hU
 have c1:=FY sh
 have t0:tuC[0]?=some (.int .i64 1):=rfl
 have t1:tuC[1]?=some (.int .i64 8):=rfl
 have t2:tuC[2]?=some (.int .i64 7):=rfl
 have t3:tuC[3]?=some (.int .i64 19):=rfl
 have t4:tuC[4]?=some (.int .i64 61):=rfl
 have t5:tuC[5]?=some (.int .i64 6):=rfl
 clear hsum hstep hW hx hy hu hv hWl hS hU
 generalize pf 80 (JY b) i=O1,pf 80 (JY b) (i+1)=O2,(w+v+sg0 x+sg1 y)%18446744073709551616=z,((w+sg0 x)%18446744073709551616+v)%18446744073709551616=z2 at *
 generalize(w+sg0 x)%18446744073709551616=z3 at *
 generalize sg0 x=gx,sg1 y=gy,JV x 1=x1v,JV x 8=x8v,JV y 19=y19v,JV y 61=y61v at *
 generalize x/2^7=x7v at *
 generalize y/2^6=y6v at *
 generalize i-15=k15 at *
 generalize i-2=k2 at *
 generalize i-16=k16 at *
 generalize i-7=k7 at *
 generalize hi1:i+1=i1 at *
 generalize tuC=tc at *
 generalize shC sh=sc at *
 simp only[rhI,rhE,Vl,Qr,quiet,cW,↓pW,reduceCtorEq,seval,-Qb,gS,gU,c1,t0,t1,t2,t3,t4,t5,e1,e2,i15,i2,i16,i7,j15,j2,j16,j7,cx,cy,cu,cv,r1,r8,r19,r61,p7,p6,s7,s6,x2,y2,m1,m2,m3,kp,hset,w3,hi1,hle,im]
theorem wj{all:List Nat}(hB:B<Hm.length)(hS:Hm[B]?=some {c:=shC sh})(ht:Hm[tid]?=some ⟨u8s all,true,true,x4,1⟩)(hL:all.length<2^50)(hb:∀j,j<128->all[at_+j]?=b[j]?)(hbl:b.length=128)(hx:∀y∈b,y<256)(hat:at_+128<=all.length)(hi:i<16) :
  Q0 T B Vl (rhI B tid all.length tb sv u at_ Hm (pf 80 (JY b) i) i [])=some (.normal,rhI B tid all.length tb sv u at_ Hm (pf 80 (JY b) (i+1)) ((i+1:Nat):Int) []):=by
 have h4:=mb (tb:=tb) (sv:=sv) (u:=u) (J0 hB) ht hL hb hbl hx hat hi
 have e1:((i:Int)<80)=True:=wf
 have e2:((i:Int)<16)=True:=wf
 have w3:IntKind.i64.wrap ((i:Int)+1)=((i+1:Nat):Int):=Z3 (b:=1) qr
 have gS:∀m:List Ob,(Hm++m)[B]?=some {c:=shC sh}:=fun m=>by rw[Qc hB];exact hS
 have c1:=FY sh
 simp only[rhI,rhE,Qn,Ql]at h4
 generalize pf 80 (JY b) i=O1,pf 80 (JY b) (i+1)=O2 at *
 generalize hi1:i+1=i1 at *
 generalize shC sh=sc at *
 simp only[rhI,rhE,Vl,Qr,quiet,cW,↓pW,reduceCtorEq,seval,-Qb,gS,c1,e1,e2,h4,w3,hi1]
theorem ma{all:List Nat}(hB:B<Hm.length)(hS:Hm[B]?=some {c:=shC sh})(hU:Hm[u]?=some {c:=tuC})(ht:Hm[tid]?=some ⟨u8s all,true,true,x4,1⟩)(hL:all.length<2^50)(hb:∀j,j<128->all[at_+j]?=b[j]?)(hbl:b.length=128)(hx:∀y∈b,y<256)(hat:at_+128<=all.length) :
  Q0 T B (.block 6 (.loop Vl)) (rhI B tid all.length tb sv u at_ Hm (Qa 80 0) 0 [])=some (.normal,rhI B tid all.length tb sv u at_ Hm (JY b) 80 [(113,.bool false)]):=by
 have hWl:=YF b
 have h:=ZR (T:=T) (base:=B) (id:=6) (body:=Vl) (fun i=>rhI B tid all.length tb sv u at_ Hm (pf 80 (JY b) i) i []) (s':=rhI B tid all.length tb sv u at_ Hm (JY b) 80 [(113,.bool false)]) 80
  (fun i hi=>by
   by_cases h:i<16
   ·exact wj hB hS ht hL hb hbl hx hat h
   ·exact rq hB hS hU hx qr hi)
  (by
   have gS:∀m:List Ob,(Hm++m)[B]?=some {c:=shC sh}:=fun m=>by rw[Qc hB];exact hS
   have c1:=FY sh
   rw[Ke hWl]
   generalize JY b=O2,shC sh=sc at *
   simp only[rhI,rhE,Vl,Qr,quiet,cW,↓pW,reduceCtorEq,seval,-Qb,gS,c1])
 rw[Kc]at h
 exact h
def rvE(B tid L kid:Nat)(sv:Value)(u at_ q vid:Nat)(i:Int):Env:=[(3,.pointer B),(5,.int .i64 8),(6,.slice tid L L),(10,.slice kid 80 80),(11,sv),(12,.int .i64 64),(13,.pointer u),(14,.int .i64 at_),(15,.slice q 80 80),(22,.slice vid 8 8),(23,.int .i64 i)]
def rvI(B tid L kid:Nat)(sv:Value)(u at_ q vid:Nat)(i:Int)(Hc:List Ob)(ex:Env):St:=⟨rvE B tid L kid sv u at_ q vid i++ex,Hc,[]⟩
theorem qO{kid q vid:Nat}{Hc:List Ob}{w s:List Nat}{x1 x2:Bool}(hS:Hc[B]?=some {c:=shC sh})(hU:Hc[u]?=some {c:=tuC})(hK:Hc[kid]?=some {c:=ns .u64 Ky})(hq:Hc[q]?=some {c:=ns .u64 w})(hvo:Hc[vid]?=some ⟨ns .u64 s,true,x1,x2,1⟩)(hw:w.length=80)(hs:s.length=8)(hx:∀x∈s,x<18446744073709551616)(hi:i<80) :
  Q0 T B YR (rvI B tid L kid sv u at_ q vid i Hc [])=some (.normal,rvI B tid L kid sv u at_ q Hc.length ((i+1:Nat):Int) (Hc++[{c:=ns .u64 (rnd s (Ky.getD i 0) (w.getD i 0))}]) []):=by
 obtain⟨a,b,c,d,e,f,g,h,rfl⟩:=eight hs
 obtain⟨k,hk⟩:∃k,Ky[i]?=some k:=⟨_,Qf (by rw[Ul];exact hi)⟩
 obtain⟨v,hv⟩:∃k,w[i]?=some k:=⟨_,Qf qr⟩
 rw[JQ hk,JQ hv]
 have kc:=ZJ (k := .u64) hk
 have vc:=ZJ (k := .u64) hv
 have la:=hx a wd
 have lb:=hx b wd
 have lc:=hx c wd
 have le:=hx e wd
 have lf:=hx f wd
 have lg:=hx g wd
 have r14:evVal T 182 [.int .u64 e,.int .i64 14,.int .i64 64]=some (.int .u64 (JV e 14:Nat)):=UR (r:=14) le ww ww
 have r18:evVal T 182 [.int .u64 e,.int .i64 18,.int .i64 64]=some (.int .u64 (JV e 18:Nat)):=UR (r:=18) le ww ww
 have r41:evVal T 182 [.int .u64 e,.int .i64 41,.int .i64 64]=some (.int .u64 (JV e 41:Nat)):=UR (r:=41) le ww ww
 have r28:evVal T 182 [.int .u64 a,.int .i64 28,.int .i64 64]=some (.int .u64 (JV a 28:Nat)):=UR (r:=28) la ww ww
 have r34:evVal T 182 [.int .u64 a,.int .i64 34,.int .i64 64]=some (.int .u64 (JV a 34:Nat)):=UR (r:=34) la ww ww
 have r39:evVal T 182 [.int .u64 a,.int .i64 39,.int .i64 64]=some (.int .u64 (JV a 39:Nat)):=UR (r:=39) la ww ww
 have b14:=XN (r:=14) le ww ww
 have b18:=XN (r:=18) le ww ww
 have b41:=XN (r:=41) le ww ww
 have b28:=XN (r:=28) la ww ww
 have b34:=XN (r:=34) la ww ww
 have b39:=XN (r:=39) la ww ww
 have x2:evVal T 181 [.int .u64 (JV e 14:Nat),.int .u64 (JV e 18:Nat),.int .u64 (JV e 41:Nat)]=some (.int .u64 (Sg1 e:Nat)):=UD b14 b18 b41
 have x4:evVal T 181 [.int .u64 (JV a 28:Nat),.int .u64 (JV a 34:Nat),.int .u64 (JV a 39:Nat)]=some (.int .u64 (Sg0 a:Nat)):=UD b28 b34 b39
 have a1:=W5 le lf
 have lne:18446744073709551615-e<18446744073709551616:=qr
 have a2:IntKind.u64.wrap (18446744073709551615-(e:Int))=((18446744073709551615-e:Nat):Int):=Mn (a:=18446744073709551615) qr ww
 have kp1:=C7 (18446744073709551615-e)
 have a3:=W5 lne lg
 have a4:Zr .or .u64 ((e&&&f:Nat):Int) (((18446744073709551615-e)&&&g:Nat):Int)=((chO e f g:Nat):Int):=by rw[Kh rfl (Xw lf) (Xw lg),ch_or le]
 have a5:=W5 la lb
 have a6:=W5 la lc
 have a7:=W5 lb lc
 have a8:Zr .or .u64 ((a&&&b:Nat):Int) ((a&&&c:Nat):Int)=(((a&&&b)|||(a&&&c):Nat):Int):=Kh rfl (Xw lb) (Xw lc)
 have a9:Zr .or .u64 (((a&&&b)|||(a&&&c):Nat):Int) ((b&&&c:Nat):Int)=((maO a b c:Nat):Int):=by rw[Kh rfl (XP (n:=64) (Xw lb) (Xw lc)) (Xw lc),nk]
 have m1:=W6 h (Sg1 e)
 have m2:=W6 ((h+Sg1 e)%18446744073709551616) (chO e f g)
 have m3:=W6 (((h+Sg1 e)%18446744073709551616+chO e f g)%18446744073709551616) k
 have m4:=W6 ((((h+Sg1 e)%18446744073709551616+chO e f g)%18446744073709551616+k)%18446744073709551616) v
 have hT1:((((h+Sg1 e)%18446744073709551616+chO e f g)%18446744073709551616+k)%18446744073709551616+v)%18446744073709551616=t1O [a,b,c,d,e,f,g,h] k v:=by
  show _=(h+Sg1 e+chO e f g+k+v)%18446744073709551616
  omega
 rw[hT1]at m4
 have m5:IntKind.u64.wrap ((Sg0 a:Int)+(maO a b c:Int))=((t2O [a,b,c,d,e,f,g,h]:Nat):Int):=W6 (Sg0 a) (maO a b c)
 have m6:=W6 (t1O [a,b,c,d,e,f,g,h] k v) (t2O [a,b,c,d,e,f,g,h])
 have m7:=W6 d (t1O [a,b,c,d,e,f,g,h] k v)
 have hr:rnd [a,b,c,d,e,f,g,h] k v=[(t1O [a,b,c,d,e,f,g,h] k v+t2O [a,b,c,d,e,f,g,h])%18446744073709551616,a,b,c,(d+t1O [a,b,c,d,e,f,g,h] k v)%18446744073709551616,e,f,g]:=rfl
 have hf:=oC ((t1O [a,b,c,d,e,f,g,h] k v+t2O [a,b,c,d,e,f,g,h])%18446744073709551616) a b c ((d+t1O [a,b,c,d,e,f,g,h] k v)%18446744073709551616) e f g
 rw[<-hr]at hf
 have kp2:=C7 ((t1O [a,b,c,d,e,f,g,h] k v+t2O [a,b,c,d,e,f,g,h])%18446744073709551616)
 have kp3:=C7 ((d+t1O [a,b,c,d,e,f,g,h] k v)%18446744073709551616)
 have lR:=bF [a,b,c,d,e,f,g,h] k v
 have e1:((i:Int)<80)=True:=wf
 have w3:IntKind.i64.wrap ((i:Int)+1)=((i+1:Nat):Int):=Z3 (b:=1) qr
 have g0:(ns .u64 [a,b,c,d,e,f,g,h])[0]?=some (.int .u64 (a:Nat)):=rfl
 have g1:(ns .u64 [a,b,c,d,e,f,g,h])[1]?=some (.int .u64 (b:Nat)):=rfl
 have g2:(ns .u64 [a,b,c,d,e,f,g,h])[2]?=some (.int .u64 (c:Nat)):=rfl
 have g3:(ns .u64 [a,b,c,d,e,f,g,h])[3]?=some (.int .u64 (d:Nat)):=rfl
 have g4:(ns .u64 [a,b,c,d,e,f,g,h])[4]?=some (.int .u64 (e:Nat)):=rfl
 have g5:(ns .u64 [a,b,c,d,e,f,g,h])[5]?=some (.int .u64 (f:Nat)):=rfl
 have g6:(ns .u64 [a,b,c,d,e,f,g,h])[6]?=some (.int .u64 (g:Nat)):=rfl
 have g7:(ns .u64 [a,b,c,d,e,f,g,h])[7]?=some (.int .u64 (h:Nat)):=rfl
 have lS:(ns .u64 [a,b,c,d,e,f,g,h]).length=8:=rfl
 clear hT1 hr hk hv hs hx
 generalize rnd [a,b,c,d,e,f,g,h] k v=R at *
 generalize(t1O [a,b,c,d,e,f,g,h] k v+t2O [a,b,c,d,e,f,g,h])%18446744073709551616=z1 at *
 generalize(d+t1O [a,b,c,d,e,f,g,h] k v)%18446744073709551616=z2 at *
 generalize t1O [a,b,c,d,e,f,g,h] k v=t1 at *
 generalize t2O [a,b,c,d,e,f,g,h]=t2 at *
 generalize(((h+Sg1 e)%18446744073709551616+chO e f g)%18446744073709551616+k)%18446744073709551616=z3 at *
 generalize((h+Sg1 e)%18446744073709551616+chO e f g)%18446744073709551616=z4 at *
 generalize(h+Sg1 e)%18446744073709551616=z5 at *
 generalize Sg1 e=se,Sg0 a=sa,chO e f g=cc,maO a b c=mm at *
 generalize(a&&&b)|||(a&&&c)=q1 at *
 generalize(18446744073709551615-e)&&&g=q2 at *
 generalize 18446744073709551615-e=q3 at *
 generalize e&&&f=q4 at *
 generalize a&&&b=q5 at *
 generalize a&&&c=q6 at *
 generalize b&&&c=q7 at *
 generalize JV e 14=p1,JV e 18=p2,JV e 41=p3,JV a 28=p4,JV a 34=p5,JV a 39=p6 at *
 have t6:tuC[6]?=some (.int .i64 28):=rfl
 have t7:tuC[7]?=some (.int .i64 34):=rfl
 have t8:tuC[8]?=some (.int .i64 39):=rfl
 have t9:tuC[9]?=some (.int .i64 14):=rfl
 have t10:tuC[10]?=some (.int .i64 18):=rfl
 have t11:tuC[11]?=some (.int .i64 41):=rfl
 have c1:=FY sh
 generalize hi1:i+1=i1 at *
 generalize tuC=tc at *
 generalize shC sh=sc at *
 generalize ns .u64 [a,b,c,d,e,f,g,h]=S at *
 generalize ns .u64 Ky=KT at *
 simp only[rvI,rvE,YR,Qr,quiet,cW,↓pW,reduceCtorEq,seval,-Qb,hS,hU,hK,hq,hvo,c1,t6,t7,t8,t9,t10,t11,e1,vc,kc,r14,r18,r41,r28,r34,r39,x2,x4,a1,a2,a3,a4,a5,a6,a7,a8,a9,m1,m2,m3,m4,m5,m6,m7,kp1,kp2,kp3,hf,w3,hi1,g0,g1,g2,g3,g4,g5,g6,g7]
end Go.Ev.YtoipgdjfhahimaaGreat
namespace Go.Ev.YtoipgdjfhahimaaGreat
open Go Go.Ev
attribute [local congr] JE JW JD JX Jz
set_option maxRecDepth 100000
variable{x i B sid tid a kid u w at_ id r L vid N off cap j k y z:Nat}{s b bs st v:List Nat}{x3 x1 x2 x4:Bool}{H H0 Hc:List Ob}{sh:Value}
theorem ky{q:Nat}{sv:Value}{w:List Nat}(hS:H0[B]?=some {c:=shC sh})(hU:H0[u]?=some {c:=tuC})(hK:H0[kid]?=some {c:=ns .u64 Ky})(hq:H0[q]?=some {c:=ns .u64 w})(hvo:H0[vid]?=some ⟨ns .u64 s,true,x1,x2,1⟩)(hw:w.length=80)(hs:s.length=8)(hx:∀x∈s,x<18446744073709551616) :
  ∃vid' l y1 y2,Q0 T B (.block 10 (.loop YR)) (rvI B tid L kid sv u at_ q vid 0 H0 [])=some (.normal,rvI B tid L kid sv u at_ q vid' 80 (H0++l) [(211,.bool false)])/\(H0++l)[vid']?=some ⟨ns .u64 (GN 80 w s),true,y1,y2,1⟩/\(vid'=vid\/H0.length<=vid'):=by
 obtain⟨st,hb,vid',l,y1,y2,rfl,h1,h2⟩:=Zh (T:=T) (base:=B) (id:=10) (body:=YR)
  (fun j st=>∃vid' l y1 y2,st=rvI B tid L kid sv u at_ q vid' j (H0++l) []/\(H0++l)[vid']?=some ⟨ns .u64 (GN j w s),true,y1,y2,1⟩/\(vid'=vid\/H0.length<=vid'))
  (Q:=fun st=>∃vid' l y1 y2,st=rvI B tid L kid sv u at_ q vid' 80 (H0++l) [(211,.bool false)]/\(H0++l)[vid']?=some ⟨ns .u64 (GN 80 w s),true,y1,y2,1⟩/\(vid'=vid\/H0.length<=vid'))
  80 (s:=rvI B tid L kid sv u at_ q vid 0 H0 []) ⟨vid,[],x1,x2,by rw[QG];rfl,by rw[QG];exact hvo,.inl rfl⟩
  (fun j st hj hst=>by
   obtain⟨vid',l,y1,y2,rfl,h1,h2⟩:=hst
   have up:∀ {i:Nat} {o:Ob},H0[i]?=some o->(H0++l)[i]?=some o:=fun {i o} h=>by rw[Qc (Qg.1 h).1];exact h
   refine⟨_,qO (up hS) (up hU) (up hK) (up hq) h1 hw (Bu hs w j) (Lr hs hx w j) hj,(H0++l).length,l++[{c:=ns .u64 (rnd (GN j w s) (Ky.getD j 0) (w.getD j 0))}],true,true,by rw[<-Qt],?_,.inr wd⟩
   rw[<-Qt,Qh (Qs _),Q7];rfl)
  (fun st hst=>by
   obtain⟨vid',l,y1,y2,rfl,h1,h2⟩:=hst
   refine⟨_,?_,vid',l,y1,y2,rfl,h1,h2⟩
   have gS:(H0++l)[B]?=some {c:=shC sh}:=by rw[Qc (Qg.1 hS).1];exact hS
   have c1:=FY sh
   generalize shC sh=sc at *
   generalize H0++l=Hc at *
   simp only[rvI,rvE,YR,Qr,quiet,cW,↓pW,reduceCtorEq,seval,-Qb,gS,c1])
 exact⟨vid',l,y1,y2,hb,h1,h2⟩
def rsI(B tid L kid sid u at_ vid:Nat)(i:Nat)(Hc:List Ob)(ex:Env):St:=⟨[(3,.pointer B),(5,.int .i64 8),(6,.slice tid L L),(10,.slice kid 80 80),(11,.slice sid 8 8),(12,.int .i64 64),(13,.pointer u),(14,.int .i64 at_),(22,.slice vid 8 8),(29,.int .i64 i)]++ex,Hc,[]⟩
theorem qS{b:Nat}{D:List Nat}(hB:B<=sid)(hsl:sid<Hc.length)(hne:vid≠sid)(hvo:Hc[vid]?=some ⟨ns .u64 v,true,x1,x2,1⟩)(lD:D.length=8)(hi:i<8)(ha:D[i]?=some a)(hb:v[i]?=some b) :
  Q0 T B YS (rsI B tid L kid sid u at_ vid i (Hc.set sid ⟨ns .u64 D,true,true,x3,1⟩) [])=some (.normal,rsI B tid L kid sid u at_ vid (i+1) (Hc.set sid ⟨ns .u64 (D.set i ((a+b)%18446744073709551616)),true,true,x3,1⟩) []):=by
 have e1:((i:Int)<8)=True:=wf
 have w3:IntKind.i64.wrap ((i:Int)+1)=((i+1:Nat):Int):=Z3 (b:=1) qr
 have m1:=W6 a b
 have kp:=C7 ((a+b)%18446744073709551616)
 have ga:=ZJ (k := .u64) ha
 have gb:=ZJ (k := .u64) hb
 have g1:(Hc.set sid ⟨ns .u64 D,true,true,x3,1⟩)[sid]?=some ⟨ns .u64 D,true,true,x3,1⟩:=Qw hsl
 have g2:(Hc.set sid ⟨ns .u64 D,true,true,x3,1⟩)[vid]?=some ⟨ns .u64 v,true,x1,x2,1⟩:=by rw[Qu (fun h=>hne h.symm)];exact hvo
 have hset:=Xt .u64 D i ((a+b)%18446744073709551616)
 have hss:∀o,(Hc.set sid ⟨ns .u64 D,true,true,x3,1⟩).set sid o=Hc.set sid o:=fun o=>by rw[Yh]
 have hle:i+1<=(ns .u64 D).length:=by rw[Q8,lD];omega
 have im:Q1 B [] [sid]=[]:=QB (by simp;omega)
 generalize(a+b)%18446744073709551616=z at *
 generalize Hc.set sid ⟨ns .u64 D,true,true,x3,1⟩=G at *
 generalize hi1:i+1=i1 at *
 simp only[rsI,YS,Qr,quiet,cW,↓pW,reduceCtorEq,seval,-Qb,e1,w3,m1,kp,ga,gb,g1,g2,hset,hss,hi1,hle,im]
theorem kF(hB:B<=sid)(hso:Hc[sid]?=some ⟨ns .u64 s,true,true,x3,1⟩)(hne:vid≠sid)(hvo:Hc[vid]?=some ⟨ns .u64 v,true,x1,x2,1⟩)(lS:s.length=8)(lV:v.length=8) :
  Q0 T B (.block 12 (.loop YS)) (rsI B tid L kid sid u at_ vid 0 Hc [])=some (.normal,rsI B tid L kid sid u at_ vid 8 (Hc.set sid ⟨ns .u64 (JS (fun x y=>(x+y)%18446744073709551616) s v),true,true,x3,1⟩) [(358,.bool false)]):=by
 have hsl:=(Qg.1 hso).1
 obtain⟨st,hb,D,rfl,lD,hD⟩:=Zh (T:=T) (base:=B) (id:=12) (body:=YS)
  (fun j st=>∃D,st=rsI B tid L kid sid u at_ vid j (Hc.set sid ⟨ns .u64 D,true,true,x3,1⟩) []/\D.length=8/\∀k,k<8->D[k]?=if k<j then(JS (fun x y=>(x+y)%18446744073709551616) s v)[k]? else s[k]?)
  (Q:=fun st=>∃D,st=rsI B tid L kid sid u at_ vid 8 (Hc.set sid ⟨ns .u64 D,true,true,x3,1⟩) [(358,.bool false)]/\D.length=8/\∀k,k<8->D[k]?=(JS (fun x y=>(x+y)%18446744073709551616) s v)[k]?)
  8 (s:=rsI B tid L kid sid u at_ vid 0 Hc []) ⟨s,by rw[Wb hso],lS,fun k hk=>by rw[if_neg (Yq _)]⟩
  (fun j st hj hs=>by
   obtain⟨D,rfl,lD,hD⟩:=hs
   obtain⟨a,ha⟩:∃a,s[j]?=some a:=⟨_,Qf qr⟩
   obtain⟨b,hb⟩:∃a,v[j]?=some a:=⟨_,Qf qr⟩
   have hDj:D[j]?=some a:=by rw[hD j hj,if_neg (We _)];exact ha
   refine⟨_,qS hB hsl hne hvo lD hj hDj hb,_,rfl,by rw[Q4];exact lD,fun k hk =>?_⟩
   by_cases h:j=k
   ·subst h
    rw[Qw qr,if_pos (Ml _),KL,ha,hb]
   ·rw[Qu h,hD k hk]
    by_cases h2:k<j
    ·rw[if_pos h2,if_pos qr]
    ·rw[if_neg h2,if_neg qr])
  (fun st hs=>by
   obtain⟨D,rfl,lD,hD⟩:=hs
   refine⟨_,?_,D,rfl,lD,fun k hk=>by rw[hD k hk,if_pos hk]⟩
   generalize Hc.set sid ⟨ns .u64 D,true,true,x3,1⟩=G
   simp only[rsI,YS,Qr,quiet,cW,↓pW,reduceCtorEq,seval,-Qb])
 have:D=JS (fun x y=>(x+y)%18446744073709551616) s v:=ZW fun k=>by
  by_cases h:k<8
  ·exact hD k h
  ·rw[QI qr,QI (by rw[V7];omega)]
 rw[<-this]
 exact hb
theorem uF(hso:H[sid]?=some ⟨ns .u64 s,true,true,x3,1⟩)(ls:s.length=8) :
  Jw 1 8 (H++[{c:=[]}]) (.slice H.length 0 0) (.slice sid 8 8)=some (.slice (H.length+1:Nat) 8 8,H++[{c:=[]},Ob.grown 1 (ns .u64 s)],none,[]):=by
 have h1:liveAt (H++[{c:=[]}]) sid=some ⟨ns .u64 s,true,true,x3,1⟩:=KF (Zz hso rfl)
 have h2:liveAt (H++[{c:=[]}]) H.length=some {c:=[]}:=B9
 have h3:elemsOf (H++[{c:=[]}]) 1 8 (.slice sid 8 8)=some (ns .u64 s):=by
  have:Zi 8 (ns .u64 s)=ns .u64 s:=Qm (by rw[Q8];omega)
  simp[elemsOf,h1,Q8,ls,this]
 have h4:elemsOf (H++[{c:=[]}]) 1 0 (.slice H.length 0 0)=some []:=by simp[elemsOf,h2]
 have k1:Go.Ev.lenV (.slice sid 8 8)=some 8:=rfl
 simp only[Jw,k1,h2,h3,h4,Qp]
 rw[if_neg ww,if_neg ww]
 simp
def reI(B tid L kid sid u:Nat)(at_:Nat)(Hc:List Ob)(ex:Env):St:=⟨[(3,.pointer B),(5,.int .i64 8),(6,.slice tid L L),(10,.slice kid 80 80),(11,.slice sid 8 8),(12,.int .i64 64),(13,.pointer u),(14,.int .i64 at_)]++ex,Hc,[]⟩
theorem rk{all:List Nat}(hBs:B<sid)(hS:Hc[B]?=some {c:=shC sh})(hU:Hc[u]?=some {c:=tuC})(hK:Hc[kid]?=some {c:=ns .u64 Ky})(ht:Hc[tid]?=some ⟨u8s all,true,true,x4,1⟩)(hso:Hc[sid]?=some ⟨ns .u64 s,true,true,x3,1⟩)(hs:s.length=8)(hsx:∀x∈s,x<18446744073709551616)
 (hL:all.length<2^50) (hb:∀j,j<128->all[at_+j]?=b[j]?) (hbl:b.length=128) (hx:∀y∈b,y<256) (hat:at_+128<=all.length) :
    ∃H',Q0 T B YQ (reI B tid all.length kid sid u at_ Hc [])=some (.normal,reI B tid all.length kid sid u (at_+128) H' [])/\H'[sid]?=some ⟨ns .u64 (blk s b),true,true,x3,1⟩/\Hc.length<=H'.length/\∀i,i<Hc.length->i≠sid->H'[i]?=Hc[i]? := by
  have hsl:=(Qg.1 hso).1
  have hBl:B<Hc.length:=qr
  have h5:=ma (tb := .slice kid 80 80) (sv := .slice sid 8 8) hBl hS hU ht hL hb hbl hx hat
  obtain⟨H5,hH5⟩:∃X,X=Hc++[({c:=ns .u64 (JY b)}:Ob)]:=⟨_,rfl⟩
  have l5:H5.length=Hc.length+1:=by rw[hH5];simp
  have up5:∀ {i:Nat} {o:Ob},Hc[i]?=some o->H5[i]?=some o:=fun {i o} h=>by rw[hH5,Qc (Qg.1 h).1];exact h
  have hq5:H5[Hc.length]?=some {c:=ns .u64 (JY b)}:=by rw[hH5,Qh (Qs _),Q7];rfl
  have hap:=uF (up5 hso) hs
  obtain⟨H7,hH7⟩:∃X,X=H5++[({c:=[]}:Ob),Ob.grown 1 (ns .u64 s)]:=⟨_,rfl⟩
  have l7:H7.length=H5.length+2:=by rw[hH7];simp
  have up7:∀ {i:Nat} {o:Ob},H5[i]?=some o->H7[i]?=some o:=fun {i o} h=>by rw[hH7,Qc (Qg.1 h).1];exact h
  have hv7:H7[H5.length+1]?=some ⟨ns .u64 s,true,true,false,1⟩:=by rw[hH7,Qh qr,Q2];rfl
  obtain⟨vid',l,y1,y2,h3,hvo,hvid⟩:=ky (L:=all.length) (tid:=tid) (sv := .slice sid 8 8) (at_:=at_) (up7 (up5 hS)) (up7 (up5 hU)) (up7 (up5 hK)) (up7 hq5) hv7 (YF b) hs hsx
  obtain⟨H8,hH8⟩:∃X,X=H7++l:=⟨_,rfl⟩
  have l8:H7.length<=H8.length:=by rw[hH8];simp
  have up8:∀ {i:Nat} {o:Ob},H7[i]?=some o->H8[i]?=some o:=fun {i o} h=>by rw[hH8,Qc (Qg.1 h).1];exact h
  rw[<-hH8]at h3 hvo
  have hne:vid'≠sid:=qr
  have h2:=kF (tid:=tid) (L:=all.length) (kid:=kid) (u:=u) (at_:=at_) (J0 hBs) (up8 (up7 (up5 hso))) hne hvo hs (Bu hs _ 80)
  rw[show JS (fun x y=>(x+y)%18446744073709551616) s (GN 80 (JY b) s)=blk s b from rfl]at h2
  obtain⟨H9,hH9⟩:∃X,X=H8.set sid ⟨ns .u64 (blk s b),true,true,x3,1⟩:=⟨_,rfl⟩
  rw[<-hH9]at h2
  refine⟨H9,?_,by rw[hH9,Qw qr],by rw[hH9,Q4];omega,fun i hi hne =>?_⟩
  · have gS9:H9[B]?=some {c:=shC sh}:=by rw[hH9,Qu qr];exact up8 (up7 (up5 hS))
    have e1:((at_:Int)<((all.length:Nat):Int))=True:=wf
    have w1:IntKind.i64.wrap ((at_:Int)+128)=((at_+128:Nat):Int):=Z3 (b:=128) qr
    have c1:=FY sh
    have c2:=uY sh
    have hz80:(Qa 80 [Value.int .u64 0]).flatten=ns .u64 (Qa 80 0):=rfl
    have f0:fillL ([]:List Value) []=some []:=rfl
    have im1:Q1 B [] [H5.length]=[]:=QB (by simp;omega)
    simp only[rhI,rhE,rvI,rvE,rsI,Qn,Ql,QA,<-hH5]at h5 h3 h2
    rw[<-hH7]at hap
    clear hH5 hH7 hH8 hH9 up5 up7 up8 hv7 hq5 hvo hb hx hso
    generalize shC sh=sc,ns .u64 (Qa 80 0)=Z80 at *
    generalize all.length=LL at *
    generalize hat2:at_+128=at2 at *
    simp only[reI,YQ,Qr,quiet,cW,↓pW,reduceCtorEq,seval,-Qb,hS,c1,e1,hz80,h5,f0,hap,im1,h3,h2,gS9,c2,w1]
  · rw[hH9,Qu (fun h=>hne h.symm)]
    have hi':=Qf hi
    rw[hi']
    exact up8 (up7 (up5 hi'))
theorem kX{m:Nat}{all:List Nat}(hBs:B<sid)(hus:u≠sid)(hks:kid≠sid)(hts:tid≠sid)(hS:H0[B]?=some {c:=shC sh})(hU:H0[u]?=some {c:=tuC})(hK:H0[kid]?=some {c:=ns .u64 Ky})(ht:H0[tid]?=some ⟨u8s all,true,true,x4,1⟩)(hso:H0[sid]?=some ⟨ns .u64 YX,true,true,x3,1⟩)
 (hL:all.length<2^50) (hx:∀y∈all,y<256) (hm:all.length=128*m) :
    ∃H',Q0 T B (.block 4 (.loop YQ)) (reI B tid all.length kid sid u 0 H0 [])=some (.normal,reI B tid all.length kid sid u all.length H' [(102,.bool false)])/\H'[sid]?=some ⟨ns .u64 (stK m all),true,true,x3,1⟩/\H0.length<=H'.length/\∀i,i<H0.length->i≠sid->H'[i]?=H0[i]? := by
  obtain⟨st,hb,H',rfl,h1,h2,h3⟩:=Zh (T:=T) (base:=B) (id:=4) (body:=YQ)
    (fun j st=>∃H',st=reI B tid all.length kid sid u (128*j) H' []/\H'[sid]?=some ⟨ns .u64 (stK j all),true,true,x3,1⟩/\H0.length<=H'.length/\∀i,i<H0.length->i≠sid->H'[i]?=H0[i]?)
    (Q:=fun st=>∃H',st=reI B tid all.length kid sid u all.length H' [(102,.bool false)]/\H'[sid]?=some ⟨ns .u64 (stK m all),true,true,x3,1⟩/\H0.length<=H'.length/\∀i,i<H0.length->i≠sid->H'[i]?=H0[i]?)
    m (s:=reI B tid all.length kid sid u 0 H0 []) ⟨H0,rfl,hso,Qs _,fun _ _ _=>rfl⟩
    (fun j st hj hs=>by
      obtain⟨H',rfl,h1,h2,h3⟩:=hs
      have up:∀ {i:Nat} {o:Ob},H0[i]?=some o->i≠sid->H'[i]?=some o:=fun {i o} h hne=>(h3 i (Qg.1 h).1 hne).trans h
      have hat:128*j+128<=all.length:=qr
      obtain⟨H9,k1,k2,k3,k4⟩:=rk (at_:=128*j) (b:=(all.drop (128*j)).take 128) hBs (up hS qr) (up hU hus) (up hK hks) (up ht hts) h1 (HF all j) (Lm all j) hL (fun i hi=>by rw[QW,if_pos hi,Zp]) (by rw[Q3,QN];omega) (fun y hy=>hx y (ZF (QP hy))) hat
      exact⟨_,k1,H9,rfl,k2,by omega,fun i hi hne=>(k4 i qr hne).trans (h3 i hi hne)⟩)
    (fun st hs=>by
      obtain⟨H',rfl,h1,h2,h3⟩:=hs
      rw[<-hm]
      refine⟨_,?_,H',rfl,h1,h2,h3⟩
      have e1:((all.length:Int)<((all.length:Nat):Int))=False:=wr
      generalize all.length=LL at *
      simp only[reI,YQ,Qr,quiet,cW,↓pW,reduceCtorEq,seval,-Qb,e1])
  exact⟨H',hb,h1,h2,h3⟩
def roI(sid:Nat)(s:Value)(i c:Int)(Hc:List Ob)(ex:Env):St:=⟨[(5,.int .i64 8),(11,.slice sid 8 8),(30,s),(31,.int .i64 i),(32,.int .i64 c)]++ex,Hc,[]⟩
theorem qW{c:Nat}{s:Value}(hBN:B<=N)(hsN:sid<N)(hso:Hc[sid]?=some ⟨ns .u64 st,true,true,x3,1⟩)(hg:Grown .u8 N Hc s bs)(hL:N<=Hc.length)(hbs:bs.length<100)(hi:i<8)(hc:c<8)(hw:st[i]?=some w)(hw':w<18446744073709551616) :
  ∃s' H',Q0 T B YT (roI sid s i c Hc [])=some (.normal,roI sid s' i ((c:Int)-1) H' [])/\Grown .u8 N H' s' (bs++[w/256^c%256])/\N<=H'.length/\∀k,k<N->H'[k]?=Hc[k]? := by
 obtain⟨s',H',M,h1,h2,h3,h4,h5⟩:=VX (x:=w/256^c%256) (bytes:=1) hg hL qr ww
 refine⟨s',H',?_,h2,h4,h5⟩
 have hm:Q1 B [] M=[]:=QB fun i hi=>by have:=h3 i hi;omega
 have hp:=Ud (n:=8*c) qr
 have e8:(2:Nat)^(8*c)=256^c:=by rw[Je]
 rw[e8]at hp
 have h0:0<256^c:=JT ww
 have hz:(((256^c:Nat):Int)=0)=False:=wr
 have hd:IntKind.u64.wrap ((w:Int).tdiv ((256^c:Nat):Int))=((w/256^c:Nat):Int):=Kz (Jc (Jx _ _) hw')
 have hr:((w/256^c:Nat):Int).tmod 256=((w/256^c%256:Nat):Int):=rfl
 have w1:IntKind.i64.wrap (8*(c:Int))=((8*c:Nat):Int):=ZB (n:=8*c) qr
 have w2:IntKind.u8.wrap ((w/256^c%256:Nat):Int)=((w/256^c%256:Nat):Int):=Mp (Q9 _ ww)
 have w3:IntKind.i64.wrap ((c:Int)-1)=(c:Int)-1:=QU qr qr
 have e1:(0<=(c:Int))=True:=wf
 have e2:((i:Int)<8)=True:=wf
 have gw:=ZJ (k := .u64) hw
 have f0:fillL [Value.int .u8 0] [(0,1,.int .u8 ((w/256^c%256:Nat):Int))]=some [.int .u8 ((w/256^c%256:Nat):Int)]:=rfl
 generalize w/256^c%256=r at *
 generalize w/256^c=d at *
 generalize 256^c=p at *
 generalize 8*c=c8 at *
 simp only[roI,YT,Qr,quiet,cW,↓pW,reduceCtorEq,seval,-Qb,e1,e2,w1,w2,w3,hp,hz,hd,hr,hso,gw,f0,h1,hm]
def Dq(st:List Nat):List Nat:=(ZH 64).map fun i=>st.getD (i/8) 0/256^(7-i%8)%256
theorem mv(st:List Nat):(Dq st).length=64:=by simp[Dq]
theorem mw(hi:i<8)(hj:j<8)(hw:st[i]?=some w):(Dq st)[8*i+j]?=some (w/256^(7-j)%256):=by
 have h1:(8*i+j)/8=i:=qr
 have h2:(8*i+j)%8=j:=qr
 have h3:8*i+j<64:=qr
 simp only[Dq,JB,V8 h3,Yo,h1,h2,JQ hw]
theorem kM{s0:Value}(hBN:B<=N)(hsN:sid<N)(hso:H0[sid]?=some ⟨ns .u64 st,true,true,x3,1⟩)(hg0:Grown .u8 N H0 s0 ((Dq st).take (8*i)))(hL0:N<=H0.length)(hi:i<8)(hw:st[i]?=some w)(hw':w<18446744073709551616) :
  ∃s' H',Q0 T B (.block 16 (.loop YT)) (roI sid s0 i 7 H0 [])=some (.normal,roI sid s' i (-1) H' [(382,.bool false)])/\Grown .u8 N H' s' ((Dq st).take (8*(i+1)))/\N<=H'.length/\∀k,k<N->H'[k]?=H0[k]? := by
 obtain⟨x,hb,s',H',rfl,h1,h2,h3⟩:=Zh (T:=T) (base:=B) (id:=16) (body:=YT)
  (fun j x=>∃s' H',x=roI sid s' i ((7:Int)-(j:Nat)) H' []/\Grown .u8 N H' s' ((Dq st).take (8*i+j))/\N<=H'.length/\∀k,k<N->H'[k]?=H0[k]?)
  (Q:=fun x=>∃s' H',x=roI sid s' i (-1) H' [(382,.bool false)]/\Grown .u8 N H' s' ((Dq st).take (8*i+8))/\N<=H'.length/\∀k,k<N->H'[k]?=H0[k]?)
  8 (s:=roI sid s0 i 7 H0 []) ⟨s0,H0,rfl,hg0,hL0,fun _ _=>rfl⟩
  (fun j x hj hx=>by
   obtain⟨s',H',rfl,h1,h2,h3⟩:=hx
   have e:((7:Int)-(j:Nat))=((7-j:Nat):Int):=qr
   obtain⟨s2,H2,k1,k2,k3,k4⟩:=qW (c:=7-j) hBN hsN ((h3 sid hsN).trans hso) h1 h2 (by rw[Q3];omega) hi qr hw hw'
   have hget:=mw hi hj hw
   rw[show(Dq st).take (8*i)=(Dq st).take (8*i) from rfl]at hg0
   have ht:(Dq st).take (8*i+(j+1))=(Dq st).take (8*i+j)++[w/256^(7-j)%256]:=by
    rw[<-Zb,Zx,hget];rfl
   rw[<-e]at k1
   exact⟨_,k1,s2,H2,by rw[show(7:Int)-(j:Nat)-1=(7:Int)-((j+1:Nat):Int) by omega],by rw[ht];exact k2,k3,fun k hk=>(k4 k hk).trans (h3 k hk)⟩)
  (fun x hx=>by
   obtain⟨s',H',rfl,h1,h2,h3⟩:=hx
   refine⟨_,?_,s',H',rfl,h1,h2,h3⟩
   simp only[roI,YT,Qr,quiet,cW,↓pW,reduceCtorEq,seval,-Qb])
 exact⟨s',H',hb,h1,h2,h3⟩
def Ls(sid:Nat)(s:Value)(i:Int)(Hc:List Ob)(ex:Env):St:=⟨[(5,.int .i64 8),(11,.slice sid 8 8),(30,s),(31,.int .i64 i)]++ex,Hc,[]⟩
theorem kO(hBN:B<=N)(hsN:sid<N)(hso:H0[sid]?=some ⟨ns .u64 st,true,true,x3,1⟩)(hL0:N<=H0.length)(ls:st.length=8)(xs:∀w∈st,w<18446744073709551616) :
  ∃s' H',Q0 T B (.block 14 (.loop WH)) (Ls sid (.slice none 0 0) 0 H0 [])=some (.normal,Ls sid s' 8 H' [(376,.bool false)])/\Grown .u8 N H' s' (Dq st)/\N<=H'.length/\∀k,k<N->H'[k]?=H0[k]? := by
 obtain⟨x,hb,s',H',rfl,h1,h2,h3⟩:=Zh (T:=T) (base:=B) (id:=14) (body:=WH)
  (fun j x=>∃s' H',x=Ls sid s' j H' []/\Grown .u8 N H' s' ((Dq st).take (8*j))/\N<=H'.length/\∀k,k<N->H'[k]?=H0[k]?)
  (Q:=fun x=>∃s' H',x=Ls sid s' 8 H' [(376,.bool false)]/\Grown .u8 N H' s' (Dq st)/\N<=H'.length/\∀k,k<N->H'[k]?=H0[k]?)
  8 (s:=Ls sid (.slice none 0 0) 0 H0 []) ⟨_,_,rfl,.nil,hL0,fun _ _=>rfl⟩
  (fun j x hj hx=>by
   obtain⟨s',H',rfl,h1,h2,h3⟩:=hx
   obtain⟨w,hw⟩:∃w,st[j]?=some w:=⟨_,Qf qr⟩
   obtain⟨s2,H2,k1,k2,k3,k4⟩:=kM hBN hsN ((h3 sid hsN).trans hso) h1 h2 hj hw (xs w (Qo hw))
   refine⟨Ls sid s2 ((j+1:Nat):Int) H2 [],?_,s2,H2,rfl,k2,k3,fun k hk=>(k4 k hk).trans (h3 k hk)⟩
   have e1:((j:Int)<8)=True:=wf
   have w3:IntKind.i64.wrap ((j:Int)+1)=((j+1:Nat):Int):=Z3 (b:=1) qr
   simp only[roI,Qn,Ql]at k1
   generalize hj1:j+1=j1 at *
   simp only[Ls,WH,Qr,quiet,cW,↓pW,reduceCtorEq,seval,-Qb,e1,k1,w3,hj1])
  (fun x hx=>by
   obtain⟨s',H',rfl,h1,h2,h3⟩:=hx
   rw[Qm (by rw[mv];decide)]at h1
   refine⟨_,?_,s',H',rfl,h1,h2,h3⟩
   simp only[Ls,WH,Qr,quiet,cW,↓pW,reduceCtorEq,seval,-Qb])
 exact⟨s',H',hb,h1,h2,h3⟩
theorem d7(xb:∀y∈bs,y<256):((⟨(bs.map UInt8.ofNat).toArray⟩:ByteArray).data.toList.map fun b=>Value.int .u8 b.toNat)=u8s bs:=by
 simp only[List.map_map,u8s]
 refine List.map_congr_left fun y hy =>?_
 have:=xb y hy
 simp[Function.comp,Qv this]
theorem Ll(xb:∀y∈bs,y<256)(hb:bs.length<=2^47):qo id (QX bs)=some (.slice id bs.length bs.length,⟨u8s bs,true,true,false,1⟩):=by
 unfold QX
 rw[iB,d7 xb]
 have:(⟨(bs.map UInt8.ofNat).toArray⟩:ByteArray).size=bs.length:=by simp[ByteArray.size]
 rw[this,gate,if_pos hb]
theorem pI{G:List Ob}(hb:bs.length<2^46) :
  Jw 1 1 (G++[⟨u8s bs,true,true,false,1⟩,{c:=[.int .u8 128]}]) (.slice G.length bs.length bs.length) (.slice (G.length+1:Nat) 1 1)=some (.slice (G.length+2:Nat) (bs.length+1) (bs.length+1),G++[Ob.dead,{c:=[.int .u8 128]},Ob.grown 1 (u8s (bs++[128]))],none,[G.length]):=by
 have h1:liveAt (G++[⟨u8s bs,true,true,false,1⟩,{c:=[.int .u8 128]}]) (G.length+1)=some {c:=[.int .u8 128]}:=OJ
 have h2:liveAt (G++[⟨u8s bs,true,true,false,1⟩,{c:=[.int .u8 128]}]) G.length=some ⟨u8s bs,true,true,false,1⟩:=B9
 have h3:elemsOf (G++[⟨u8s bs,true,true,false,1⟩,{c:=[.int .u8 128]}]) 1 1 (.slice (G.length+1:Nat) 1 1)=some [.int .u8 128]:=by simp[elemsOf,h1]
 have h4:elemsOf (G++[⟨u8s bs,true,true,false,1⟩,{c:=[.int .u8 128]}]) 1 bs.length (.slice G.length bs.length bs.length)=some (u8s bs):=by
  have:Zi bs.length (u8s bs)=u8s bs:=Qm (by rw[Qq];exact Qs _)
  simp[elemsOf,h2,Qq,this]
 have k1:Go.Ev.lenV (.slice (G.length+1:Nat) 1 1)=some 1:=rfl
 have e1:¬((1:Nat)=0):=ww
 have e2:(bs.length+1)*1<=2^47/\0<1/\0<1:=⟨by omega,by decide,by decide⟩
 have e3:¬(bs.length+1<=bs.length):=qr
 have hap:u8s (bs++[128])=u8s bs++[.int .u8 128]:=by simp[u8s]
 simp only[Jw,k1,h2,h3,h4,Qp,if_neg e1,e2,and_self,not_true_eq_false,if_false,if_neg e3,hap]
 simp
theorem Grown.ob{k:IntKind}{B:Nat}{H:List Ob}{s:Value}{bs:List Nat}(h:Grown k B H s bs)(h0:0<bs.length):∃id x,s=.slice (id:Nat) bs.length bs.length/\B<=id/\H[id]?=some ⟨ns k bs,true,true,x,1⟩:=by
 cases h with
 |nil=>exact absurd h0 ww
 |@own id _ h1 h2 h3=>exact⟨id,false,rfl,h1,h3⟩
 |@new id _ h1 h2 h3=>exact⟨id,true,rfl,h1,h3⟩
theorem Grown.weak{k:IntKind}{B N:Nat}{H:List Ob}{s:Value}{bs:List Nat}(h:Grown k N H s bs)(hB:B<=N):Grown k B H s bs:=by
 cases h with
 |nil=>exact .nil
 |own h1 h2 h3=>exact .own qr h2 h3
 |new h1 h2 h3=>exact .new qr h2 h3
theorem qR{hid:Nat}{xe:Bool}(xb:∀y∈bs,y<256)(hb:bs.length<2^46)(hh:H[hid]?=some ⟨ns .u64 YX,true,true,xe,1⟩) :
  ∃s l,Z6 T 118 [QX bs,.agg (shC (.slice hid 8 8)).toArray] H=some (s,H++l,[])/\Grown .u8 H.length (H++l) s (sha bs):=by
 obtain⟨sv,hsv⟩:∃v,v=Value.slice hid 8 8:=⟨_,rfl⟩
 rw[<-hsv]
 have hhl:=(Qg.1 hh).1
 have hok:Z7 (.agg (shC sv).toArray)=true:=by rw[hsv];rfl
 obtain⟨G1,hG1⟩:∃X,X=H++[({c:=shC sv}:Ob)]:=⟨_,rfl⟩
 have l1:G1.length=H.length+1:=by rw[hG1];simp
 have gB:G1[H.length]?=some {c:=shC sv}:=by rw[hG1,Qh (Qs _),Q7];rfl
 have gh:G1[hid]?=some ⟨ns .u64 YX,true,true,xe,1⟩:=by rw[hG1,Qc hhl];exact hh
 have h2b:=Ll (id:=G1.length) xb (by omega:bs.length<=2^47)
 have h80:=pI (G:=G1) hb
 obtain⟨H3,hH3⟩:∃X,X=G1++[Ob.dead,({c:=[.int .u8 128]}:Ob),Ob.grown 1 (u8s (bs++[128]))]:=⟨_,rfl⟩
 rw[<-hH3]at h80
 have hg3:Grown .u8 (H.length+1) H3 (.slice (G1.length+2:Nat) (bs.length+1) (bs.length+1)) (bs++[128]):=by
  have:=Grown.own (k := .u8) (B:=H.length+1) (H:=H3) (id:=G1.length+2) (bs:=bs++[128]) qr wd (by rw[hH3,Qh qr,Q2];rfl)
  rwa[Qj]at this
 have p3:∀i,i<H.length+1->H3[i]?=G1[i]? := fun i hi=>by rw[hH3,Qc qr]
 obtain⟨s4,H4,h4,hg4,l4,p4⟩:=kv (B:=H.length) (N:=H.length+1) (x:=QX bs) qr gB hb hg3 (by rw[hH3];simp;omega) p3
 have h7:=lM (B:=H.length) (n:=bs.length) (s:=s4) (Hm:=H4) qr hb
 obtain⟨H5,hH5⟩:∃X,X=H4++[({c:=u8s ((ZH 16).map (Ug bs.length))}:Ob)]:=⟨_,rfl⟩
 have l5:H5.length=H4.length+1:=by rw[hH5];simp
 have hg5:Grown .u8 (H.length+1) H5 s4 (bs++128::Qa (Vt bs.length) 0):=by rw[hH5];exact hg4.app
 have lc:((ZH 16).map (Ug bs.length)).length=16:=by simp
 have he5:elemsOf H5 1 ((ZH 16).map (Ug bs.length)).length (.slice H4.length 16 16)=some (ns .u8 ((ZH 16).map (Ug bs.length))):=by
  rw[lc,hH5]
  have:Zi 16 (u8s ((ZH 16).map (Ug bs.length)))=ns .u8 ((ZH 16).map (Ug bs.length)):=Qm (by rw[Qq,lc];exact Qs _)
  simp[elemsOf,B9,Qq,this]
 have hz:=MB bs.length
 obtain⟨s6,H6,M6,ha6,hg6,hM6,l6,p6⟩:=hg5.append (bytes:=1) (x := .slice H4.length 16 16) qr (by rw[lc];rfl) he5 (by rw[lc];simp;omega) ww
 have hall:bs++128::Qa (Vt bs.length) 0++(ZH 16).map (Ug bs.length)=bs++UZ bs.length:=by rw[bQ,Qt]
 rw[hall]at hg6
 have lall:(bs++UZ bs.length).length=bs.length+(17+Vt bs.length):=by rw[Qj,MD]
 obtain⟨tid,x4,rfl,htid,htx⟩:=Grown.ob hg6 qr
 have q6:∀i,i<H.length+1->H6[i]?=G1[i]? := fun i hi=>by rw[p6 i hi,hH5,Qc qr];exact p4 i hi
 have htb:=FZ H6
 obtain⟨H7,hH7⟩:∃X,X=H6++[({c:=ns .u64 Ky}:Ob)]:=⟨_,rfl⟩
 have l7:H7.length=H6.length+1:=by rw[hH7];simp
 have u7:∀ {i:Nat} {o:Ob},H6[i]?=some o->H7[i]?=some o:=fun {i o} h=>by rw[hH7,Qc (Qg.1 h).1];exact h
 have k7:H7[H6.length]?=some {c:=ns .u64 Ky}:=by rw[hH7,Qh (Qs _),Q7];rfl
 have hap:=uF (u7 ((q6 hid qr).trans gh)) dB
 obtain⟨H8,hH8⟩:∃X,X=H7++[({c:=[]}:Ob),Ob.grown 1 (ns .u64 YX)]:=⟨_,rfl⟩
 have l8:H8.length=H7.length+2:=by rw[hH8];simp
 have u8':∀ {i:Nat} {o:Ob},H7[i]?=some o->H8[i]?=some o:=fun {i o} h=>by rw[hH8,Qc (Qg.1 h).1];exact h
 have k8:H8[H7.length+1]?=some ⟨ns .u64 YX,true,true,false,1⟩:=by rw[hH8,Qh qr,Q2];rfl
 rw[<-hH8]at hap
 obtain⟨H9,hH9⟩:∃X,X=H8++[({c:=tuC}:Ob)]:=⟨_,rfl⟩
 have l9:H9.length=H8.length+1:=by rw[hH9];simp
 have u9:∀ {i:Nat} {o:Ob},H8[i]?=some o->H9[i]?=some o:=fun {i o} h=>by rw[hH9,Qc (Qg.1 h).1];exact h
 have k9:H9[H8.length]?=some {c:=tuC}:=by rw[hH9,Qh (Qs _),Q7];rfl
 have htl:=(Qg.1 htx).1
 have xall:∀y∈bs++UZ bs.length,y<256:=fun y hy=>(QC.1 hy).elim (xb y) (bP _ y)
 have hm:(bs++UZ bs.length).length=128*((bs++UZ bs.length).length/128):=by
  have:=Cm bs.length
  rw[lall];omega
 obtain⟨H10,hre,hst,l10,p10⟩:=kX (B:=H.length) (tid:=tid) (kid:=H6.length) (sid:=H7.length+1) (u:=H8.length) qr qr qr qr (u9 (u8' (u7 ((q6 _ qr).trans gB)))) k9 (u9 (u8' k7)) (u9 (u8' (u7 htx))) (u9 k8) qr xall hm
 obtain⟨s',H11,hro,hg11,l11,p11⟩:=kO (B:=H.length) (N:=H9.length) qr qr hst l10 (HF _ _) (Lm _ _)
 have hsha:Dq (stK ((bs++UZ bs.length).length/128) (bs++UZ bs.length))=sha bs:=rfl
 rw[hsha]at hg11
 have pH:∀i,i<H.length->H11[i]?=H[i]? := fun i hi=>by
  rw[p11 i qr,p10 i qr qr,hH9,Qc qr,hH8,Qc qr,hH7,Qc qr,q6 i qr,hG1,Qc hi]
 obtain⟨l,rfl⟩:=XG (H:=H) qr pH
 refine⟨s',l,?_,Grown.weak hg11 qr⟩
 have F1:H++[({c:=shC sv}:Ob)]=G1:=hG1.symm
 have F7:H6++[({c:=ns .u64 Ky}:Ob)]=H7:=hH7.symm
 have F9:H8++[({c:=tuC}:Ob)]=H9:=hH9.symm
 have B7:∀m:List Ob,(H7++m)[H.length]?=some {c:=shC sv}:=fun m=>by rw[Qc qr];exact u7 ((q6 _ qr).trans gB)
 have B8:H8[H.length]?=some {c:=shC sv}:=u8' (u7 ((q6 _ qr).trans gB))
 have c0:=shC_0 sv
 have c3:=shC_3 sv
 have lsh:=bE sv
 have htu:((shC sv).drop 4).take 12=tuC:=rfl
 have hz16:(Qa 16 [Value.int .u8 0]).flatten=u8s (Qa 16 0):=rfl
 have f128:fillL [Value.int .u8 0] [(0,1,.int .u8 128)]=some [.int .u8 128]:=rfl
 have f0:fillL ([]:List Value) []=some []:=rfl
 have hlen:=YH (bs:=bs)
 have w1:IntKind.u64.wrap (bs.length:Int)=(bs.length:Nat):=Kz qr
 have im1:Q1 H.length [] [G1.length]=[]:=QB (by simp;omega)
 have im2:Q1 H.length [] M6=[]:=QB fun i hi=>by have:=hM6 i hi;omega
 have im3:Q1 H.length [] [H8.length]=[]:=QB (by simp;omega)
 have ltu:=bq
 rw[F7]at htb
 simp only[rzI,rcI,reI,Ls,Qn,Ql,QA,<-hH5]at h4 h7 hre hro
 rw[<-hsv]at hap
 clear hG1 hH3 hH5 hH7 hH8 hH9 hg3 hg4 hg5 hg6 hg11 he5 p3 p4 p6 p10 p11 pH q6 u7 u8' u9 gh hh k7 k8 k9 htx hst hsha xall hm hall
 generalize shC sv=sc at *
 generalize tuC=tc at *
 generalize u8s (Qa 16 0)=Z16 at *
 generalize hbl:bs.length=n at *
 generalize(bs++UZ n).length=LL at *
 rw[QY (fn:=pU) rfl]
 simp only[pU,Qr,quiet,cW,↓pW,reduceCtorEq,seval,-Qb,hok,F1,gB,c0,c3,h2b,f128,h80,h4,hz16,hlen,w1,h7,ha6,htb,f0,hap,B7,B8,htu,lsh,ltu,F9,hre,hro,im1,im2,im3,Qx,Qe]
def rtI(tid:Nat)(Hm:List Ob)(X:List Nat)(i:Nat)(ex:Env):St:=⟨[(2,.pointer (0:Nat)),(4,.slice tid 64 64),(5,.pointer Hm.length),(6,.int .i64 i)]++ex,Hm++[{c:=u8s X}],[]⟩
theorem k6{Hm:List Ob}{S:List Nat}{x:Bool}(ht:Hm[tid]?=some ⟨u8s S,true,true,x,1⟩)(lS:S.length=64) :
  Q0 T 0 (.block 0 (.loop Ru)) (rtI tid Hm (Qa 64 0) 0 [])=some (.normal,rtI tid Hm S 64 [(17,.bool false)]):=by
 have h:=ZR (T:=T) (base:=0) (id:=0) (body:=Ru) (fun i=>rtI tid Hm (pf 64 S i) i []) (s':=rtI tid Hm S 64 [(17,.bool false)]) 64
  (fun i hi=>by
   obtain⟨w,hw⟩:∃w,S[i]?=some w:=⟨_,Qf qr⟩
   have hstep:=XD lS hi hw
   have hset:=Xc (pf 64 S i) i w
   rw[hstep]at hset
   have hle:i+1<=(u8s (pf 64 S i)).length:=by rw[Qq,Kd lS qr];omega
   have e1:((i:Int)<64)=True:=wf
   have w3:IntKind.i64.wrap ((i:Int)+1)=((i+1:Nat):Int):=Z3 (b:=1) qr
   have gt:∀m:List Ob,(Hm++m)[tid]?=some ⟨u8s S,true,true,x,1⟩:=fun m=>by rw[Qc (Qg.1 ht).1];exact ht
   have gw:(u8s S)[i]?=some (.int .u8 (w:Nat)):=Js hw
   have im:Q1 0 [] [Hm.length]=[]:=QB wd
   generalize pf 64 S i=O1,pf 64 S (i+1)=O2 at *
   generalize hi1:i+1=i1 at *
   simp only[rtI,Ru,Qr,quiet,cW,↓pW,reduceCtorEq,seval,-Qb,e1,w3,gt,gw,hset,hle,im,hi1])
  (by
   rw[Ke lS]
   simp only[rtI,Ru,Qr,quiet,cW,↓pW,reduceCtorEq,seval,-Qb])
 rw[Kc]at h
 exact h
theorem RM(xb:∀y∈bs,y<256)(hb:bs.length<2^46):evVal T 149 [QX bs]=some (.agg (u8s (sha bs)).toArray):=by
 have hz64:Qa 64 (Value.int .u8 0)=u8s (Qa 64 0):=rfl
 have lz64:(Qa 64 0).length=64:=Qe
 obtain⟨G,hG⟩:∃X,X=[({c:=u8s (Qa 64 0)}:Ob),{c:=shC (.slice (2:Nat) 8 8)},{c:=ns .u64 YX}]:=⟨_,rfl⟩
 obtain⟨s,l,h1,hg⟩:=qR (H:=G) (hid:=2) (xe:=true) xb hb (by rw[hG];rfl)
 have lS:=Yz bs
 obtain⟨tid,x,rfl,h2,h3⟩:=Grown.ob hg qr
 rw[lS]at h1
 have h4:=k6 (tid:=tid) h3 lS
 obtain⟨G2,hG2⟩:∃X,X=G++l:=⟨_,rfl⟩
 have g0:∀m:List Ob,(G2++m)[0]?=some {c:=u8s (Qa 64 0)}:=fun m=>by rw[hG2,hG];rfl
 have s1:∀(m:List Ob) (o:Ob),(G2.set 0 o++m)[0]?=some o:=fun m o=>by rw[hG2,hG];rfl
 have s0:∀(m:List Ob) (o:Ob),(G2++m).set 0 o=(G2.set 0 o)++m:=fun m o=>by rw[hG2,hG];rfl
 rw[<-hG2]at h1 h4
 simp only[rtI,Qn,Ql,QA]at h4
 have fI:fillL (Qa 8 (Value.int .u64 0)) [(0,1,.int .u64 7640891576956012808),(1,1,.int .u64 13503953896175478587),(2,1,.int .u64 4354685564936845355),(3,1,.int .u64 11912009170470909681),(4,1,.int .u64 5840696475078001361),(5,1,.int .u64 11170449401992604703),(6,1,.int .u64 2270897969802886507),(7,1,.int .u64 6620516959819538809)]=some (ns .u64 YX):=rfl
 rw[hG]at h1
 clear hg h3 hG hG2
 have fT:fillL [Value.int .i64 0,.int .i64 0,.int .i64 0,.slice none 0 0,.int .i64 0,.int .i64 0,.int .i64 0,.int .i64 0,.int .i64 0,.int .i64 0,.int .i64 0,.int .i64 0,.int .i64 0,.int .i64 0,.int .i64 0,.int .i64 0] [(0,1,.int .i64 64),(1,1,.int .i64 80),(2,1,.int .i64 128)]=some ([Value.int .i64 64,.int .i64 80,.int .i64 128,.slice none 0 0]++Qa 12 (.int .i64 0)):=rfl
 have f12:fillL (Qa 12 (Value.int .i64 0)) [(0,1,.int .i64 1),(1,1,.int .i64 8),(2,1,.int .i64 7),(3,1,.int .i64 19),(4,1,.int .i64 61),(5,1,.int .i64 6),(6,1,.int .i64 28),(7,1,.int .i64 34),(8,1,.int .i64 39),(9,1,.int .i64 14),(10,1,.int .i64 18),(11,1,.int .i64 41)]=some tuC:=rfl
 have hs3:([Value.int .i64 64,.int .i64 80,.int .i64 128,.slice none 0 0]++Qa 12 (Value.int .i64 0)).set 3 (Value.slice (2:Nat) 8 8)=[Value.int .i64 64,.int .i64 80,.int .i64 128,.slice (2:Nat) 8 8]++Qa 12 (Value.int .i64 0):=rfl
 have hs4:splice ([Value.int .i64 64,.int .i64 80,.int .i64 128,.slice (2:Nat) 8 8]++Qa 12 (Value.int .i64 0)) 4 tuC=shC (.slice (2:Nat) 8 8):=rfl
 have lc1:([Value.int .i64 64,.int .i64 80,.int .i64 128,.slice none 0 0]++Qa 12 (Value.int .i64 0)).length=16:=rfl
 have lc2:([Value.int .i64 64,.int .i64 80,.int .i64 128,.slice (2:Nat) 8 8]++Qa 12 (Value.int .i64 0)).length=16:=rfl
 have lsh:=bE (.slice (2:Nat) 8 8)
 have ltu:=bq
 have fz:fillL (u8s (Qa 64 0)) []=some (u8s (Qa 64 0)):=rfl
 generalize[Value.int .i64 64,.int .i64 80,.int .i64 128,.slice none 0 0]++Qa 12 (Value.int .i64 0)=C1 at *
 generalize[Value.int .i64 64,.int .i64 80,.int .i64 128,.slice (2:Nat) 8 8]++Qa 12 (Value.int .i64 0)=C2 at *
 generalize shC (.slice (2:Nat) 8 8)=C3 at *
 generalize tuC=TU at *
 generalize sha bs=S,Qa 64 0=Z64 at *
 apply QE (fn:=yR) rfl
 simp only[yR,Qr,quiet,cW,↓pW,reduceCtorEq,seval,-Qb,hz64,fz,fI,fT,f12,hs3,hs4,lc1,lc2,lsh,ltu,h1,h4,g0,s0,s1,Qy,Q5,Za,Q6,Qq,lz64,lS,Qx,Qe,QR]
 rfl
def Ja(x r:Nat):Nat:=x/2^r+x*2^(32-r)%4294967296
def YV(x:Nat):Nat:=Ja x 7^^^Ja x 18^^^(x/2^3)
def Bt(x:Nat):Nat:=Ja x 17^^^Ja x 19^^^(x/2^10)
def BN(x:Nat):Nat:=Ja x 2^^^Ja x 13^^^Ja x 22
def K7(x:Nat):Nat:=Ja x 6^^^Ja x 11^^^Ja x 25
def KV(e f g:Nat):Nat:=(e&&&f)^^^((4294967295^^^e)&&&g)
def Bd(a b c:Nat):Nat:=(a&&&b)^^^(a&&&c)^^^(b&&&c)
def iu(w:List Nat):Nat:=(w.getD (w.length-16) 0+w.getD (w.length-7) 0+YV (w.getD (w.length-15) 0)+Bt (w.getD (w.length-2) 0))%4294967296
def WV:Nat->List Nat->List Nat
 |0,l=>l
 |n+1,l=>WV n l++[iu (WV n l)]
def RB(b:List Nat):List Nat:=(ZH 16).map fun i=>be ((b.drop (4*i)).take 4)
def Jv(b:List Nat):List Nat:=WV 48 (RB b)
def Ah(s:List Nat)(k w:Nat):Nat:=(s.getD 7 0+K7 (s.getD 4 0)+KV (s.getD 4 0) (s.getD 5 0) (s.getD 6 0)+k+w)%4294967296
def Sh(s:List Nat):Nat:=(BN (s.getD 0 0)+Bd (s.getD 0 0) (s.getD 1 0) (s.getD 2 0))%4294967296
def FA(s:List Nat)(k w:Nat):List Nat:=[(Ah s k w+Sh s)%4294967296,s.getD 0 0,s.getD 1 0,s.getD 2 0,(s.getD 3 0+Ah s k w)%4294967296,s.getD 4 0,s.getD 5 0,s.getD 6 0]
def Ua:Nat->List Nat->List Nat->List Nat
 |0,_,s=>s
 |n+1,w,s=>FA (Ua n w s) (Ky.getD n 0/2^32) (w.getD n 0)
def DZ(s b:List Nat):List Nat:=JS (fun x y=>(x+y)%4294967296) s (Ua 64 (Jv b) s)
def XL:List Nat:=[1779033703,3144134277,1013904242,2773480762,1359893119,2600822924,528734635,1541459225]
def US:Nat->List Nat->List Nat
 |0,_=>XL
 |n+1,b=>DZ (US n b) ((b.drop (64*n)).take 64)
def XH(n:Nat):Nat:=(119-n%64)%64
def Yu(n:Nat):List Nat:=128::(Qa (XH n) 0++((ZH 8).map fun i=>8*n/256^(7-i)%256))
def VG(b:List Nat):List Nat:=(ZH 32).map fun i=>(US ((b++Yu b.length).length/64) (b++Yu b.length)).getD (i/4) 0/256^(3-i%4)%256
theorem So:XL.length=8:=rfl
theorem Xz(hx:x<4294967296)(hr:0<r)(hr':r<=31):Ja x r<4294967296:=by
 unfold Ja
 have e:(4294967296:Nat)=2^r*2^(32-r):=by rw[<-JI,show r+(32-r)=32 by omega]
 have h1:x/2^r<2^(32-r):=Vo (by rw[<-e];exact hx)
 have h2:x*2^(32-r)%4294967296=(x%2^r)*2^(32-r):=by rw[e,Yx]
 rw[h2]
 have h3:x%2^r+1<=2^r:=Q9 _ (JT ww)
 have h4:=Z9 (2^(32-r)) h3
 rw[<-e,Zl,Xd]at h4
 omega
theorem kK(hx:x<4294967296)(hr:0<r)(hr':r<=31):(x*2^(32-r)%4294967296)|||(x/2^r)=Ja x r:=by
 have e:(4294967296:Nat)=2^r*2^(32-r):=by rw[<-JI,show r+(32-r)=32 by omega]
 have h1:x/2^r<2^(32-r):=Vo (by rw[<-e];exact hx)
 have h2:x*2^(32-r)%4294967296=(x%2^r)*2^(32-r):=by rw[e,Yx]
 unfold Ja
 rw[h2,YK h1,Xu]
theorem AE(a b:Nat):IntKind.u32.wrap ((a:Int)+(b:Int))=(((a+b)%4294967296:Nat):Int):=by rw[<-Jm,Cw]
theorem Gl{b:Nat}(ha:a<4294967296)(hb:b<4294967296):Zr .xor .u32 (a:Int) (b:Int)=((a^^^b:Nat):Int):=En rfl ha hb
theorem PC{b:Nat}(ha:a<4294967296)(hb:b<4294967296):Zr .and .u32 (a:Int) (b:Int)=((a&&&b:Nat):Int):=Uu rfl ha hb
theorem rU{b:Nat}(ha:a<4294967296)(hb:b<4294967296):Zr .or .u32 (a:Int) (b:Int)=((a|||b:Nat):Int):=Kh rfl ha hb
theorem Ka{b:Nat}(ha:a<4294967296)(hb:b<4294967296):a^^^b<4294967296:=Nat.xor_lt_two_pow (n:=32) ha hb
theorem Vu{b:Nat}(hb:b<4294967296):a&&&b<4294967296:=Kb (n:=32) a hb
theorem AQ(hr:r<=32):(x:Int).fdiv (2^min r IntKind.u32.bits)=((x/2^r:Nat):Int):=by
 rw[show min r IntKind.u32.bits=r from Zw hr,<-Tf,Yr];rfl
theorem Ra(hx:x<4294967296):x/2^r<4294967296:=Jc (Jx _ _) hx
theorem de{n:Nat}(h:n<4294967296):IntKind.u32.wrap (n:Int)=n:=by rw[Cw,Qv h]
theorem BU(l:List Nat):∀n,(WV n l).length=l.length+n
 |0=>rfl
 |n+1=>by rw[WV,Qj,BU l n];rfl
theorem BV(l:List Nat){n j:Nat}(hj:j<l.length+n):∀m,n<=m->(WV m l)[j]?=(WV n l)[j]?
 |0,h=>by rw[show n=0 by omega]
 |m+1,h=>by
  by_cases e:n=m+1
  ·rw[e]
  ·rw[WV,Qc (by rw[BU];omega),BV l hj m qr]
theorem DC(b:List Nat):(RB b).length=16:=by simp[RB]
theorem Yb(b:List Nat):(Jv b).length=64:=by rw[Jv,BU,DC]
theorem DE(hi:i<16):(Jv b)[i]?=some (be ((b.drop (4*i)).take 4)):=by
 rw[Jv,BV _ (n:=0) (by rw[DC];omega) 48 qr]
 simp[WV,RB,hi]
theorem DD(hi:16<=i)(hi':i<64):(Jv b)[i]?=some (((Jv b).getD (i-16) 0+(Jv b).getD (i-7) 0+YV ((Jv b).getD (i-15) 0)+Bt ((Jv b).getD (i-2) 0))%4294967296):=by
 obtain⟨n,rfl⟩:∃n,i=16+n:=⟨i-16,by omega⟩
 have hl:=DC b
 have hn:=BU (RB b) n
 rw[hl]at hn
 have hg:∀j,j<16+n->(Jv b).getD j 0=(WV n (RB b)).getD j 0:=fun j hj=>by
  rw[QD,QD,Jv,BV _ (n:=n) (by rw[hl];omega) 48 qr]
 rw[hg _ qr,hg _ qr,hg _ qr,hg _ qr]
 rw[Jv,BV _ (n:=n+1) (by rw[hl];omega) 48 qr,WV,Qh qr,hn,Q7]
 simp only[iu,hn,List.getElem?_cons_zero]
theorem WW(hb:∀x∈b,x<256){i:Nat}(hx:(Jv b)[i]?=some x):x<4294967296:=by
 have hi:i<64:=by have:=(Qg.1 hx).1;rwa[Yb]at this
 by_cases h:i<16
 ·rw[DE h]at hx
  cases hx
  have hl:((b.drop (4*i)).take 4).length<=4:=by rw[Q3];omega
  have:=IU _ _ rfl (fun y hy=>hb y (ZF (QP hy)):∀y∈(b.drop (4*i)).take 4,y<256)
  exact QM this (Zo (n:=256) ww hl)
 ·rw[DD qr hi]at hx
  cases hx
  exact Q9 _ ww
theorem kP(s:List Nat)(k w:Nat):(FA s k w).length=8:=rfl
theorem WR(hs:s.length=8)(w:List Nat):∀n,(Ua n w s).length=8
 |0=>hs
 |n+1=>rfl
theorem qX(hs:s.length=8)(hx:∀x∈s,x<4294967296)(k w:Nat):∀x∈FA s k w,x<4294967296:=by
 obtain⟨a,b,c,d,e,f,g,h,rfl⟩:=eight hs
 intro x hm
 have h1:∀y z:Nat,(y+z)%4294967296<4294967296:=fun _ _=>Q9 _ ww
 simp only[FA,Jr,List.not_mem_nil,or_false]at hm
 rcases hm with rfl|rfl|rfl|rfl|rfl|rfl|rfl|rfl
 ·exact h1 _ _
 ·exact hx _ wd
 ·exact hx _ wd
 ·exact hx _ wd
 ·exact h1 _ _
 ·exact hx _ wd
 ·exact hx _ wd
 ·exact hx _ wd
theorem Mw{s:List Nat}(hs:s.length=8)(hx:∀x∈s,x<4294967296)(w:List Nat):∀n,∀x∈Ua n w s,x<4294967296
 |0=>hx
 |n+1=>qX (WR hs w n) (Mw hs hx w n) _ _
theorem UW(hx:x<4294967296)(hk:0<k)(hk':k<=31):evVal T 208 [.int .u32 x,.int .i64 (k:Nat)]=some (.int .u32 (Ja x (32-k):Nat)):=by
 have hw:IntKind.u64.wrap (k:Int)=(k:Int):=Kz qr
 have hm:Zr .and .u64 (k:Int) 31=(k:Int):=by
  have:=Bc .u64 rfl 5 k ww
  have e:((2^5-1:Nat):Int)=31:=ww
  rw[e]at this
  rw[this,Qv qr]
 have n1:((k:Int)<0)=False:=wr
 have h64:min k IntKind.u32.bits=k:=Zw (by show k<=32;omega)
 have hs1:IntKind.u32.wrap ((x:Int)*2^k)=((x*2^k%4294967296:Nat):Int):=by
  rw[<-Cw,JN,Yr];rfl
 have hsub:IntKind.u64.wrap (32-(k:Int))=((32-k:Nat):Int):=by rw[WU];omega
 have n2:(((32-k:Nat):Int)<0)=False:=wr
 have hs2:(x:Int).fdiv (2^min (32-k) IntKind.u32.bits)=((x/2^(32-k):Nat):Int):=AQ qr
 have ho:Zr .or .u32 ((x*2^k%4294967296:Nat):Int) ((x/2^(32-k):Nat):Int)=((Ja x (32-k):Nat):Int):=by
  have h2:x/2^(32-k)<4294967296:=Jc (Jx _ _) hx
  have:=kK (r:=32-k) hx qr qr
  rw[show 32-(32-k)=k by omega]at this
  rw[rU (Q9 _ ww) h2,this]
 generalize hq:32-k=q at *
 apply QE (fn:=yu) rfl
 simp only[yu,↓GJ,Qr,quiet,cW,↓pW,reduceCtorEq,seval,-Qb,hw,hm,n1,h64,hs1,hsub,n2,hs2,ho,Int.toNat_natCast]
 rfl
theorem be4(hy:y<256)(hz:z<256)(hw:w<256):(((x*16777216)|||(y*65536))|||(z*256))|||w=be [x,y,z,w]:=by
 have h1:(x*16777216)|||(y*65536)=(x*256+y)*65536:=by
  have:=YK (a:=y*65536) (b:=x) (n:=24) qr
  rw[show(2:Nat)^24=16777216 from rfl]at this
  rw[this];omega
 have h2:((x*256+y)*65536)|||(z*256)=((x*256+y)*256+z)*256:=by
  have:=YK (a:=z*256) (b:=x*256+y) (n:=16) qr
  rw[show(2:Nat)^16=65536 from rfl]at this
  rw[this];omega
 have h3:(((x*256+y)*256+z)*256)|||w=((x*256+y)*256+z)*256+w:=by
  have:=YK (a:=w) (b:=(x*256+y)*256+z) (n:=8) qr
  rw[show(2:Nat)^8=256 from rfl]at this
  exact this
 rw[h1,h2,h3]
 simp[be]
theorem j8(hk:k<=32)(h:x*2^k<4294967296):IntKind.u32.wrap ((x:Int)*2^min k IntKind.u32.bits)=((x*2^k:Nat):Int):=by
 rw[show min k IntKind.u32.bits=k from Zw hk,<-de h,JN,Yr]
 rfl
theorem lt24(h:x<256):x*16777216<4294967296:=qr
theorem lt16(h:x<256):x*65536<4294967296:=qr
theorem lt8(h:x<256):x*256<4294967296:=qr
theorem lt0(h:x<256):x<4294967296:=qr
def Ag(H:List Ob)(P:Value)(id off cap:Nat)(w:List Nat)(i:Int)(ex:Env):St:=⟨[(0,P),(1,.slice (some ⟨id,off,none⟩) 64 cap),(4,.pointer H.length),(22,.int .i64 i)]++ex,H++[{c:=ns .u32 w}],[]⟩
theorem take4(h0:b[j]?=some x)(h1:b[j+1]?=some y)(h2:b[j+2]?=some z)(h3:b[j+3]?=some w):(b.drop j).take 4=[x,y,z,w]:=by
 apply ZW
 intro k
 rw[QW]
 match k with
 |0=>simpa using h0
 |1=>simpa using h1
 |2=>simpa using h2
 |3=>simpa using h3
 |k+4=>rw[if_neg qr];simp
theorem qm{P:Value}(hb:BB H id off b)(hl:b.length=64)(hi:i<16) :
  Q0 T H.length UM (Ag H P id off cap (pf 64 (Jv b) i) i [])=some (.normal,Ag H P id off cap (pf 64 (Jv b) (i+1)) ((i+1:Nat):Int) []):=by
 obtain⟨⟨all,h1,h2⟩,h3⟩:=hb
 have hWl:=Yb b
 have hget:∀l:List Ob,(H++l)[id]?=some ⟨u8s all,true,true,false,1⟩:=fun l=>by rw[Qc (Qg.1 h1).1];exact h1
 obtain⟨x,hx⟩:∃x,b[4*i]?=some x:=⟨_,Qf qr⟩
 obtain⟨y,hy⟩:∃x,b[4*i+1]?=some x:=⟨_,Qf qr⟩
 obtain⟨z,hz⟩:∃x,b[4*i+2]?=some x:=⟨_,Qf qr⟩
 obtain⟨w,hw⟩:∃x,b[4*i+3]?=some x:=⟨_,Qf qr⟩
 have lx:=h3 x (Qo hx)
 have ly:=h3 y (Qo hy)
 have lz:=h3 z (Qo hz)
 have lw:=h3 w (Qo hw)
 have cx:(u8s all)[off+4*i]?=some (.int .u8 (x:Nat)):=Js (by rw[h2 _ qr];exact hx)
 have cy:(u8s all)[off+(4*i+1)]?=some (.int .u8 (y:Nat)):=Js (by rw[h2 _ qr];exact hy)
 have cz:(u8s all)[off+(4*i+2)]?=some (.int .u8 (z:Nat)):=Js (by rw[h2 _ qr];exact hz)
 have cw:(u8s all)[off+(4*i+3)]?=some (.int .u8 (w:Nat)):=Js (by rw[h2 _ qr];exact hw)
 have hW:=DE (b:=b) hi
 rw[take4 hx hy hz hw]at hW
 have hstep:=XD hWl (by omega:i<64) hW
 have hpl:=Kd hWl (by omega:i<=64)
 have hset:=Xt .u32 (pf 64 (Jv b) i) i (be [x,y,z,w])
 rw[hstep]at hset
 have e1:((i:Int)<64)=True:=wf
 have e2:((i:Int)<16)=True:=wf
 have e4:(i<=63)=True:=wf
 have w1:IntKind.i64.wrap (4*(i:Int))=((4*i:Nat):Int):=UQ (a:=4) qr
 have w2:IntKind.i64.wrap (((4*i:Nat):Int)+1)=((4*i+1:Nat):Int):=Z3 (b:=1) qr
 have w3:IntKind.i64.wrap (((4*i:Nat):Int)+2)=((4*i+2:Nat):Int):=Z3 (b:=2) qr
 have w4:IntKind.i64.wrap (((4*i:Nat):Int)+3)=((4*i+3:Nat):Int):=Z3 (b:=3) qr
 have w5:IntKind.i64.wrap ((i:Int)+1)=((i+1:Nat):Int):=Z3 (b:=1) qr
 have j0:(((4*i:Nat):Int)<64)=True:=wf
 have j1:(((4*i+1:Nat):Int)<64)=True:=wf
 have j2:(((4*i+2:Nat):Int)<64)=True:=wf
 have j3:(((4*i+3:Nat):Int)<64)=True:=wf
 have u1:IntKind.u32.wrap (x:Int)=(x:Int):=de qr
 have u2:IntKind.u32.wrap (y:Int)=(y:Int):=de qr
 have u3:IntKind.u32.wrap (z:Int)=(z:Int):=de qr
 have u4:IntKind.u32.wrap (w:Int)=(w:Int):=de qr
 obtain⟨x1,hx1,b1,s1⟩:∃v,v=x*16777216/\v<4294967296/\IntKind.u32.wrap ((x:Int)*2^min 24 IntKind.u32.bits)=(v:Int):=⟨_,rfl,lt24 lx,by
  have:=j8 (x:=x) (k:=24) ww (lt24 lx)
  rwa[show(2:Nat)^24=16777216 from rfl]at this⟩
 obtain⟨y1,hy1,b2,s2⟩:∃v,v=y*65536/\v<4294967296/\IntKind.u32.wrap ((y:Int)*2^min 16 IntKind.u32.bits)=(v:Int):=⟨_,rfl,lt16 ly,by
  have:=j8 (x:=y) (k:=16) ww (lt16 ly)
  rwa[show(2:Nat)^16=65536 from rfl]at this⟩
 obtain⟨z1,hz1,b3,s3⟩:∃v,v=z*256/\v<4294967296/\IntKind.u32.wrap ((z:Int)*2^min 8 IntKind.u32.bits)=(v:Int):=⟨_,rfl,lt8 lz,by
  have:=j8 (x:=z) (k:=8) ww (lt8 lz)
  rwa[show(2:Nat)^8=256 from rfl]at this⟩
 have o1:=rU b1 b2
 have c1:x1|||y1<4294967296:=XP (n:=32) b1 b2
 have o2:=rU c1 b3
 have c2:x1|||y1|||z1<4294967296:=XP (n:=32) c1 b3
 have o3:Zr .or .u32 ((x1|||y1|||z1:Nat):Int) (w:Int)=((be [x,y,z,w]:Nat):Int):=by
  rw[rU c2 (lt0 lw),hx1,hy1,hz1,be4 ly lz lw]
 clear hstep hW hx hy hz hw hWl h2 h3 hx1 hy1 hz1
 generalize be [x,y,z,w]=v at *
 generalize x1|||y1|||z1=v3 at *
 generalize x1|||y1=v2 at *
 generalize pf 64 (Jv b) i=O1,pf 64 (Jv b) (i+1)=O2 at *
 generalize hk1:4*i+1=k1 at *
 generalize hk2:4*i+2=k2 at *
 generalize hk3:4*i+3=k3 at *
 generalize 4*i=k at *
 generalize i+1=i1 at *
 simp only[Ag,UM,Qr,quiet,cW,↓pW,reduceCtorEq,seval,-Qb,e1,e2,e4,w1,w2,w3,w4,w5,j0,j1,j2,j3,hget,cx,cy,cz,cw,u1,u2,u3,u4,s1,s2,s3,o1,o2,o3,hset,Q8,hpl]
theorem iy{P:Value}(hb:∀x∈b,x<256)(hi:16<=i)(hi':i<64) :
  Q0 T H.length UM (Ag H P id off cap (pf 64 (Jv b) i) i [])=some (.normal,Ag H P id off cap (pf 64 (Jv b) (i+1)) ((i+1:Nat):Int) []):=by
 have hWl:=Yb b
 have hW:=DD (b:=b) hi hi'
 have hstep:=XD hWl hi' hW
 have hpl:=Kd hWl (J0 hi')
 obtain⟨x,hx⟩:∃x,(Jv b)[i-15]?=some x:=⟨_,Qf qr⟩
 obtain⟨y,hy⟩:∃x,(Jv b)[i-2]?=some x:=⟨_,Qf qr⟩
 obtain⟨u,hu⟩:∃x,(Jv b)[i-16]?=some x:=⟨_,Qf qr⟩
 obtain⟨v,hv⟩:∃x,(Jv b)[i-7]?=some x:=⟨_,Qf qr⟩
 have lx:=WW hb hx
 have ly:=WW hb hy
 have cx:=ZJ (k := .u32) ((Ym (n:=64) (by omega:i-15<i) qr).trans hx)
 have cy:=ZJ (k := .u32) ((Ym (n:=64) (by omega:i-2<i) qr).trans hy)
 have cu:=ZJ (k := .u32) ((Ym (n:=64) (by omega:i-16<i) qr).trans hu)
 have cv:=ZJ (k := .u32) ((Ym (n:=64) (by omega:i-7<i) qr).trans hv)
 rw[JQ hx,JQ hy,JQ hu,JQ hv]at hstep
 have r7:evVal T 208 [.int .u32 x,.int .i64 25]=some (.int .u32 (Ja x 7:Nat)):=UW (k:=25) lx ww ww
 have r18:evVal T 208 [.int .u32 x,.int .i64 14]=some (.int .u32 (Ja x 18:Nat)):=UW (k:=14) lx ww ww
 have r17:evVal T 208 [.int .u32 y,.int .i64 15]=some (.int .u32 (Ja y 17:Nat)):=UW (k:=15) ly ww ww
 have r19:evVal T 208 [.int .u32 y,.int .i64 13]=some (.int .u32 (Ja y 19:Nat)):=UW (k:=13) ly ww ww
 have b7:=Xz (r:=7) lx ww ww
 have b18:=Xz (r:=18) lx ww ww
 have b17:=Xz (r:=17) ly ww ww
 have b19:=Xz (r:=19) ly ww ww
 have x1:=Gl b7 b18
 have x2:Zr .xor .u32 ((Ja x 7^^^Ja x 18:Nat):Int) ((x/2^3:Nat):Int)=((YV x:Nat):Int):=Gl (Ka b7 b18) (Ra lx)
 have y1:=Gl b17 b19
 have y2:Zr .xor .u32 ((Ja y 17^^^Ja y 19:Nat):Int) ((y/2^10:Nat):Int)=((Bt y:Nat):Int):=Gl (Ka b17 b19) (Ra ly)
 have s3:(x:Int).fdiv (2^min 3 IntKind.u32.bits)=((x/2^3:Nat):Int):=AQ ww
 have s10:(y:Int).fdiv (2^min 10 IntKind.u32.bits)=((y/2^10:Nat):Int):=AQ ww
 have m1:=AE u v
 have m2:=AE ((u+v)%4294967296) (YV x)
 have m3:=AE (((u+v)%4294967296+YV x)%4294967296) (Bt y)
 have hsum:(((u+v)%4294967296+YV x)%4294967296+Bt y)%4294967296=(u+v+YV x+Bt y)%4294967296:=qr
 rw[hsum]at m3
 have hset:=Xt .u32 (pf 64 (Jv b) i) i ((u+v+YV x+Bt y)%4294967296)
 rw[hstep]at hset
 have e1:((i:Int)<64)=True:=wf
 have e2:((i:Int)<16)=False:=wr
 have i15:IntKind.i64.wrap ((i:Int)-15)=((i-15:Nat):Int):=by rw[QU qr qr];omega
 have i2:IntKind.i64.wrap ((i:Int)-2)=((i-2:Nat):Int):=by rw[QU qr qr];omega
 have i16:IntKind.i64.wrap ((i:Int)-16)=((i-16:Nat):Int):=by rw[QU qr qr];omega
 have i7:IntKind.i64.wrap ((i:Int)-7)=((i-7:Nat):Int):=by rw[QU qr qr];omega
 have j15:(((i-15:Nat):Int)<64)=True:=wf
 have j2:(((i-2:Nat):Int)<64)=True:=wf
 have j16:(((i-16:Nat):Int)<64)=True:=wf
 have j7:(((i-7:Nat):Int)<64)=True:=wf
 have w3:IntKind.i64.wrap ((i:Int)+1)=((i+1:Nat):Int):=Z3 (b:=1) qr
 have e4:(i<=63)=True:=wf
 clear hsum hstep hW hx hy hu hv hWl
 generalize pf 64 (Jv b) i=O1,pf 64 (Jv b) (i+1)=O2,(u+v+YV x+Bt y)%4294967296=z,((u+v)%4294967296+YV x)%4294967296=z2 at *
 generalize(u+v)%4294967296=z3 at *
 generalize YV x=gx,Bt y=gy,Ja x 7^^^Ja x 18=xx,Ja y 17^^^Ja y 19=yy at *
 generalize Ja x 7=x1v,Ja x 18=x8v,Ja y 17=y19v,Ja y 19=y61v at *
 generalize x/2^3=x7v at *
 generalize y/2^10=y6v at *
 generalize i-15=k15 at *
 generalize i-2=k2 at *
 generalize i-16=k16 at *
 generalize i-7=k7 at *
 generalize i+1=i1 at *
 simp only[Ag,UM,Qr,quiet,cW,↓pW,reduceCtorEq,seval,-Qb,e1,e2,e4,i15,i2,i16,i7,j15,j2,j16,j7,cx,cy,cu,cv,r7,r18,r17,r19,x1,x2,y1,y2,s3,s10,m1,m2,m3,hset,w3,Q8,hpl]
theorem dc{P:Value}(hb:BB H id off b)(hl:b.length=64) :
  Q0 T H.length (.block 0 (.loop UM)) (Ag H P id off cap (Qa 64 0) 0 [])=some (.normal,Ag H P id off cap (Jv b) 64 [(23,.bool false)]):=by
 have hWl:=Yb b
 have h:=ZR (T:=T) (base:=H.length) (id:=0) (body:=UM) (fun i=>Ag H P id off cap (pf 64 (Jv b) i) i []) (s':=Ag H P id off cap (Jv b) 64 [(23,.bool false)]) 64
  (fun i hi=>by
   by_cases h:i<16
   ·exact qm hb hl h
   ·exact iy hb.lt qr hi)
  (by
   rw[Ke hWl]
   simp only[Ag,UM,Qr,quiet,cW,↓pW,reduceCtorEq,seval,-Qb])
 rw[Kc]at h
 exact h
def IY(H:List Ob)(P:Value)(w s:List Nat)(i:Int)(ex:Env):St:=⟨[(0,P),(4,.pointer H.length),(8,.pointer (H.length+1:Nat)),(9,.int .u32 (s.getD 0 0:Nat)),(10,.int .u32 (s.getD 1 0:Nat)),(11,.int .u32 (s.getD 2 0:Nat)),(12,.int .u32 (s.getD 3 0:Nat)),(13,.int .u32 (s.getD 4 0:Nat)),(14,.int .u32 (s.getD 5 0:Nat)),(15,.int .u32 (s.getD 6 0:Nat)),(16,.int .u32 (s.getD 7 0:Nat)),(141,.int .i64 i)]++ex,H++[{c:=ns .u32 w},{c:=ns .u64 Ky}],[]⟩
theorem i6{P:Value}{w:List Nat}(hw:w.length=64)(hs:s.length=8)(hx:∀x∈s,x<4294967296)(hi:i<64) :
  Q0 T H.length Df (IY H P w s i [])=some (.normal,IY H P w (FA s (Ky.getD i 0/2^32) (w.getD i 0)) ((i+1:Nat):Int) []):=by
 obtain⟨a,b,c,d,e,f,g,h,rfl⟩:=eight hs
 obtain⟨k,hk⟩:∃k,Ky[i]?=some k:=⟨_,Qf (by rw[Ul];omega)⟩
 obtain⟨v,hv⟩:∃k,w[i]?=some k:=⟨_,Qf qr⟩
 have lk:=cm k (Qo hk)
 rw[JQ hk,JQ hv]
 have kc:=ZJ (k := .u64) hk
 have vc:=ZJ (k := .u32) hv
 have la:=hx a wd
 have lb:=hx b wd
 have lc:=hx c wd
 have le:=hx e wd
 have lf:=hx f wd
 have lg:=hx g wd
 have r6:evVal T 208 [.int .u32 e,.int .i64 26]=some (.int .u32 (Ja e 6:Nat)):=UW (k:=26) le ww ww
 have r11:evVal T 208 [.int .u32 e,.int .i64 21]=some (.int .u32 (Ja e 11:Nat)):=UW (k:=21) le ww ww
 have r25:evVal T 208 [.int .u32 e,.int .i64 7]=some (.int .u32 (Ja e 25:Nat)):=UW (k:=7) le ww ww
 have r2:evVal T 208 [.int .u32 a,.int .i64 30]=some (.int .u32 (Ja a 2:Nat)):=UW (k:=30) la ww ww
 have r13:evVal T 208 [.int .u32 a,.int .i64 19]=some (.int .u32 (Ja a 13:Nat)):=UW (k:=19) la ww ww
 have r22:evVal T 208 [.int .u32 a,.int .i64 10]=some (.int .u32 (Ja a 22:Nat)):=UW (k:=10) la ww ww
 have b14:=Xz (r:=6) le ww ww
 have b18:=Xz (r:=11) le ww ww
 have b41:=Xz (r:=25) le ww ww
 have b28:=Xz (r:=2) la ww ww
 have b34:=Xz (r:=13) la ww ww
 have b39:=Xz (r:=22) la ww ww
 have x1:=Gl b14 b18
 have x2:Zr .xor .u32 ((Ja e 6^^^Ja e 11:Nat):Int) ((Ja e 25:Nat):Int)=((K7 e:Nat):Int):=Gl (Ka b14 b18) b41
 have x3:=Gl b28 b34
 have x4:Zr .xor .u32 ((Ja a 2^^^Ja a 13:Nat):Int) ((Ja a 22:Nat):Int)=((BN a:Nat):Int):=Gl (Ka b28 b34) b39
 have a1:=PC le lf
 have a2:Zr .xor .u32 (if IntKind.u32.signed=true then -1 else IntKind.u32.max) (e:Int)=((4294967295^^^e:Nat):Int):=Gl (a:=4294967295) ww le
 have lne:4294967295^^^e<4294967296:=Ka ww le
 have a3:=PC lne lg
 have a4:Zr .xor .u32 ((e&&&f:Nat):Int) (((4294967295^^^e)&&&g:Nat):Int)=((KV e f g:Nat):Int):=Gl (Vu lf) (Vu lg)
 have a5:=PC la lb
 have a6:=PC la lc
 have a7:=PC lb lc
 have a8:=Gl (a:=a&&&b) (b:=a&&&c) (Vu lb) (Vu lc)
 have a9:Zr .xor .u32 (((a&&&b)^^^(a&&&c):Nat):Int) ((b&&&c:Nat):Int)=((Bd a b c:Nat):Int):=Gl (Ka (Vu lb) (Vu lc)) (Vu lc)
 have hk32:(k:Int).fdiv (2^min 32 IntKind.u64.bits)=((k/2^32:Nat):Int):=D2 (r:=32) ww
 have lk32:k/2^32<4294967296:=Vo lk
 have hk33:IntKind.u32.wrap ((k/2^32:Nat):Int)=((k/2^32:Nat):Int):=de lk32
 generalize k/2^32=kk at *
 have m1:=AE h (K7 e)
 have m2:=AE ((h+K7 e)%4294967296) (KV e f g)
 have m3:=AE (((h+K7 e)%4294967296+KV e f g)%4294967296) kk
 have m4:=AE ((((h+K7 e)%4294967296+KV e f g)%4294967296+kk)%4294967296) v
 have hT1:((((h+K7 e)%4294967296+KV e f g)%4294967296+kk)%4294967296+v)%4294967296=Ah [a,b,c,d,e,f,g,h] kk v:=by
  show _=(h+K7 e+KV e f g+kk+v)%4294967296
  omega
 rw[hT1]at m4
 have m5:IntKind.u32.wrap ((BN a:Int)+(Bd a b c:Int))=((Sh [a,b,c,d,e,f,g,h]:Nat):Int):=AE (BN a) (Bd a b c)
 have m6:=AE (Ah [a,b,c,d,e,f,g,h] kk v) (Sh [a,b,c,d,e,f,g,h])
 have m7:=AE d (Ah [a,b,c,d,e,f,g,h] kk v)
 have hr:FA [a,b,c,d,e,f,g,h] kk v=[(Ah [a,b,c,d,e,f,g,h] kk v+Sh [a,b,c,d,e,f,g,h])%4294967296,a,b,c,(d+Ah [a,b,c,d,e,f,g,h] kk v)%4294967296,e,f,g]:=rfl
 rw[hr]
 have e1:((i:Int)<64)=True:=wf
 have e2:((i:Int)<80)=True:=wf
 have w3:IntKind.i64.wrap ((i:Int)+1)=((i+1:Nat):Int):=Z3 (b:=1) qr
 have G0:∀a b c d e f g h:Nat,[a,b,c,d,e,f,g,h].getD 0 0=a:=fun _ _ _ _ _ _ _ _=>rfl
 have G1:∀a b c d e f g h:Nat,[a,b,c,d,e,f,g,h].getD 1 0=b:=fun _ _ _ _ _ _ _ _=>rfl
 have G2:∀a b c d e f g h:Nat,[a,b,c,d,e,f,g,h].getD 2 0=c:=fun _ _ _ _ _ _ _ _=>rfl
 have G3:∀a b c d e f g h:Nat,[a,b,c,d,e,f,g,h].getD 3 0=d:=fun _ _ _ _ _ _ _ _=>rfl
 have G4:∀a b c d e f g h:Nat,[a,b,c,d,e,f,g,h].getD 4 0=e:=fun _ _ _ _ _ _ _ _=>rfl
 have G5:∀a b c d e f g h:Nat,[a,b,c,d,e,f,g,h].getD 5 0=f:=fun _ _ _ _ _ _ _ _=>rfl
 have G6:∀a b c d e f g h:Nat,[a,b,c,d,e,f,g,h].getD 6 0=g:=fun _ _ _ _ _ _ _ _=>rfl
 have G7:∀a b c d e f g h:Nat,[a,b,c,d,e,f,g,h].getD 7 0=h:=fun _ _ _ _ _ _ _ _=>rfl
 clear hT1 hr hk hv hs hx
 simp only[IY,G0,G1,G2,G3,G4,G5,G6,G7]
 clear G0 G1 G2 G3 G4 G5 G6 G7
 generalize(Ah [a,b,c,d,e,f,g,h] kk v+Sh [a,b,c,d,e,f,g,h])%4294967296=z1 at *
 generalize(d+Ah [a,b,c,d,e,f,g,h] kk v)%4294967296=z2 at *
 generalize Ah [a,b,c,d,e,f,g,h] kk v=t1 at *
 generalize Sh [a,b,c,d,e,f,g,h]=t2 at *
 generalize(((h+K7 e)%4294967296+KV e f g)%4294967296+kk)%4294967296=z3 at *
 generalize((h+K7 e)%4294967296+KV e f g)%4294967296=z4 at *
 generalize(h+K7 e)%4294967296=z5 at *
 generalize K7 e=se,BN a=sa,KV e f g=cc,Bd a b c=mm at *
 generalize(a&&&b)^^^(a&&&c)=q1 at *
 generalize(4294967295^^^e)&&&g=q2 at *
 generalize 4294967295^^^e=q3 at *
 generalize e&&&f=q4 at *
 generalize a&&&b=q5 at *
 generalize a&&&c=q6 at *
 generalize b&&&c=q7 at *
 generalize Ja e 6^^^Ja e 11=q8,Ja a 2^^^Ja a 13=q9 at *
 generalize Ja e 6=p1,Ja e 11=p2,Ja e 25=p3,Ja a 2=p4,Ja a 13=p5,Ja a 22=p6 at *
 generalize i+1=i1 at *
 generalize Ky=KT at *
 simp only[Df,Qr,quiet,cW,↓pW,reduceCtorEq,seval,-Qb,e1,e2,kc,vc,r6,r11,r25,r2,r13,r22,x1,x2,x3,x4,a1,a2,a3,a4,a5,a6,a7,a8,a9,hk32,hk33,m1,m2,m3,m4,m5,m6,m7,w3]
theorem df{P:Value}{w:List Nat}(hw:w.length=64)(hs:s.length=8)(hx:∀x∈s,x<4294967296) :
  Q0 T H.length (.block 2 (.loop Df)) (IY H P w s 0 [])=some (.normal,IY H P w (Ua 64 w s) 64 [(142,.bool false)]):=by
 have h:=ZR (T:=T) (base:=H.length) (id:=2) (body:=Df) (fun i=>IY H P w (Ua i w s) i []) (s':=IY H P w (Ua 64 w s) 64 [(142,.bool false)]) 64
  (fun i hi=>i6 hw (WR hs w i) (Mw hs hx w i) hi)
  (by
   generalize Ua 64 w s=R
   simp only[IY]
   generalize Ky=kt
   simp only[Df,Qr,quiet,cW,↓pW,reduceCtorEq,seval,-Qb])
 exact h
end Go.Ev.YtoipgdjfhahimaaGreat
namespace Go.Ev.YtoipgdjfhahimaaGreat
open Go Go.Ev
attribute [local congr] JE JW JD JX Jz
set_option maxRecDepth 100000
variable{H:List Ob}{hid n x i b0 r:Nat}{st s b L:List Nat}{rv pv:Value}{K:Nat->Prop}{xs:List Value}{ps:List (List Nat)}
def XU(rv:Value)(n:Nat)(st:List Nat):List Value:=rv::.int .u64 (n:Nat)::ns .u32 st
def XT(rv:Value)(n:Nat)(st:List Nat):Ob:={c:=XU rv n st}
theorem Hb(rv:Value)(n:Nat)(st:List Nat):(XU rv n st).length=2+st.length:=by simp[XU,Q8];omega
theorem OS(h:st[i]?=some x):(XU rv n st)[2+i]?=some (.int .u32 (x:Nat)):=by
 rw[Xu];exact ZJ h
theorem nU(rv:Value)(n i x:Nat)(st:List Nat):(XU rv n st).set (2+i) (.int .u32 (x:Nat))=XU rv n (st.set i x):=by
 rw[Xu]
 show rv::.int .u64 (n:Nat)::(ns .u32 st).set i _=_
 rw[Xt];rfl
theorem al(h:st.length=8):Zi 8 (J2 2 (XU rv n st))=ns .u32 st:=by
 show Zi 8 (ns .u32 st)=_
 rw[Qm (by rw[Q8];omega)]
theorem p8(hs:s.length=8):(DZ s b).length=8:=by unfold DZ;rw[V7,WR hs,hs];rfl
theorem tY:∀x∈DZ s b,x<4294967296:=by
 intro x hx
 unfold DZ at hx
 obtain⟨i,hi⟩:=Xf hx
 rw[KL]at hi
 split at hi
 ·cases hi;exact Q9 _ ww
 ·cases hi
def IZ(H:List Ob)(hid:Nat)(rv:Value)(n:Nat)(st:List Nat)(s L:List Nat)(ob1 ob2:Ob)(i:Int)(ex:Env):St:=⟨[(0,.pointer hid),(214,.agg (ns .u32 s).toArray),(215,.int .i64 i)]++ex,H.set hid (XT rv n st)++[ob1,ob2],L⟩
theorem dg{ob1 ob2:Ob}(hh:hid<H.length)(hs:s.length=8)(hst:st.length=8) :
  ∃L,Q0 T H.length (.block 4 (.loop Rl)) (IZ H hid rv n st s [] ob1 ob2 0 [])=some (.normal,IZ H hid rv n (JS (fun x y=>(x+y)%4294967296) st s) s L ob1 ob2 8 [(216,.bool false)])/\∀i∈L,i=hid:=by
 have hZ:(JS (fun x y=>(x+y)%4294967296) st s).length=8:=by rw[V7,hs,hst];rfl
 obtain⟨Z,hZd⟩:∃Z,Z=JS (fun x y=>(x+y)%4294967296) st s:=⟨_,rfl⟩
 rw[<-hZd]at hZ ⊢
 obtain⟨st',hb,L,rfl,hL⟩:=Zh (T:=T) (base:=H.length) (id:=4) (body:=Rl)
  (fun i x=>∃L,x=IZ H hid rv n (Z.take i++st.drop i) s L ob1 ob2 i []/\∀j∈L,j=hid)
  (Q:=fun x=>∃L,x=IZ H hid rv n Z s L ob1 ob2 8 [(216,.bool false)]/\∀j∈L,j=hid)
  8 (s:=IZ H hid rv n st s [] ob1 ob2 0 []) ⟨[],rfl,by simp⟩
  (fun i x hi hx=>by
   obtain⟨L,rfl,hL⟩:=hx
   obtain⟨u,hu⟩:∃u,st[i]?=some u:=⟨_,Qf qr⟩
   obtain⟨v,hv⟩:∃u,s[i]?=some u:=⟨_,Qf qr⟩
   have hz:Z[i]?=some ((u+v)%4294967296):=by rw[hZd,KL,hu,hv]
   have hlt:(Z.take i).length=i:=by rw[Q3];omega
   have hg:(Z.take i++st.drop i)[i]?=some u:=by
    rw[Qh qr,hlt,Q7,Zp];exact hu
   have hstep:(Z.take i++st.drop i).set i ((u+v)%4294967296)=Z.take (i+1)++st.drop (i+1):=by
    rw[ZV _ _ qr,hlt,Q7,ZE (i:=i),hu,Zx,hz]
    simp
   have hlen:(Z.take i++st.drop i).length=8:=by rw[Qj,QN,hlt];omega
   have gc:=OS (rv:=rv) (n:=n) hg
   have sc:=nU rv n i ((u+v)%4294967296) (Z.take i++st.drop i)
   rw[hstep]at sc
   have cl:=Hb rv n (Z.take i++st.drop i)
   rw[hlen]at cl
   have vc:=ZJ (k := .u32) hv
   have e1:((i:Int)<8)=True:=wf
   have m1:=AE u v
   have w3:IntKind.i64.wrap ((i:Int)+1)=((i+1:Nat):Int):=Z3 (b:=1) qr
   have hget:∀o:Ob,(H.set hid o++[ob1,ob2])[hid]?=some o:=fun o=>by
    rw[Qc (by rw[Q4];exact hh),Qw hh]
   have hset:∀o o':Ob,(H.set hid o++[ob1,ob2]).set hid o'=H.set hid o'++[ob1,ob2]:=fun o o'=>by
    rw[Vp _ _ (by rw[Q4];exact hh),Yh]
   have e5:(2+i+1<=2+8)=True:=wf
   refine⟨IZ H hid rv n (Z.take (i+1)++st.drop (i+1)) s (Q1 H.length L [hid]) ob1 ob2 ((i+1:Nat):Int) [],?_,_,rfl,?_⟩
   ·generalize Z.take (i+1)++st.drop (i+1)=O2,Z.take i++st.drop i=O1 at *
    generalize(u+v)%4294967296=z at *
    simp only[IZ,XT]
    generalize XU rv n O1=C1,XU rv n O2=C2,ns .u32 s=sv at *
    generalize i+1=i1 at *
    simp only[Rl,Qr,quiet,cW,↓pW,reduceCtorEq,seval,-Qb,e1,vc,m1,w3,gc,sc,cl,e5,hget,hset]
    done
   ·intro j hj
    rcases J5 hj with h|h
    ·exact hL j h
    ·simpa using h)
  (fun x hx=>by
   obtain⟨L,rfl,hL⟩:=hx
   rw[Qm qr,Zu qr,QG]
   refine⟨_,?_,L,rfl,hL⟩
   simp only[IZ,XT]
   generalize XU rv n Z=C
   generalize ns .u32 s=sv
   simp only[Rl,Qr,quiet,cW,↓pW,reduceCtorEq,seval,-Qb])
 exact⟨L,hb,hL⟩
theorem zQ_eq:Qa 64 (Value.int .u32 0)=ns .u32 (Qa 64 0):=rfl
theorem tQ_eq:Qa 80 (Value.int .u64 0)=ns .u64 (Qa 80 0):=rfl
theorem gQ{id off cap:Nat}(hh:H[hid]?=some (XT rv n st))(hs:st.length=8)(hx:∀x∈st,x<4294967296)(hb:BB H id off b)(hl:b.length=64) :
  ∃w s M,Z6 T 178 [.pointer hid,.slice (some ⟨id,off,none⟩) 64 cap] H=some (.tuple #[],H.set hid (XT rv n (DZ st b))++[w,s],M)/\∀i∈M,i=hid:=by
 have hlt:hid<H.length:=(Qg.1 hh).1
 have h3:=dc (P := .pointer hid) (cap:=cap) hb hl
 have hWl:=Yb b
 have h1:=df (H:=H) (P := .pointer hid) hWl hs hx
 have lr:=WR hs (Jv b) 64
 obtain⟨L,h0,hL⟩:=dg (H:=H) (hid:=hid) (n:=n) (rv:=rv) (ob1:={c:=ns .u32 (Jv b)}) (ob2:={c:=ns .u64 Ky}) hlt lr hs
 rw[show JS (fun x y=>(x+y)%4294967296) st (Ua 64 (Jv b) st)=DZ st b from rfl]at h0
 have hss:H.set hid (XT rv n st)=H:=Wb hh
 refine⟨{c:=ns .u32 (Jv b)},{c:=ns .u64 Ky},L,?_,hL⟩
 simp only[IZ,hss,Qn,Ql,QA]at h0
 have hz:=zQ_eq
 have lz:(Qa 64 0).length=64:=Qe
 have hzt:=tQ_eq
 have lzt:(Qa 80 0).length=80:=Qe
 simp only[Ag,Qn,Ql,QA]at h3
 have ht:=bw
 have hget:∀l:List Ob,(H++l)[hid]?=some {c:=XU rv n st}:=fun l=>by rw[Qc hlt];exact hh
 have lk:=Ul
 obtain⟨s0,s1,s2,s3,s4,s5,s6,s7,rfl⟩:=eight hs
 obtain⟨R,hR⟩:∃R,R=Ua 64 (Jv b) [s0,s1,s2,s3,s4,s5,s6,s7]:=⟨_,rfl⟩
 rw[<-hR]at h0 h1 lr
 obtain⟨r0,r1,r2,r3,r4,r5,r6,r7,hRl⟩:=eight lr
 rw[hRl]at h0 h1
 clear hR hRl lr
 simp only[IY,Qn,Ql,QA,List.getD_cons_zero,List.getD_cons_succ]at h1
 have c0:(XU rv n [s0,s1,s2,s3,s4,s5,s6,s7])[2]?=some (.int .u32 (s0:Nat)):=rfl
 have c1:(XU rv n [s0,s1,s2,s3,s4,s5,s6,s7])[2+1]?=some (.int .u32 (s1:Nat)):=rfl
 have c2:(XU rv n [s0,s1,s2,s3,s4,s5,s6,s7])[2+2]?=some (.int .u32 (s2:Nat)):=rfl
 have c3:(XU rv n [s0,s1,s2,s3,s4,s5,s6,s7])[2+3]?=some (.int .u32 (s3:Nat)):=rfl
 have c4:(XU rv n [s0,s1,s2,s3,s4,s5,s6,s7])[2+4]?=some (.int .u32 (s4:Nat)):=rfl
 have c5:(XU rv n [s0,s1,s2,s3,s4,s5,s6,s7])[2+5]?=some (.int .u32 (s5:Nat)):=rfl
 have c6:(XU rv n [s0,s1,s2,s3,s4,s5,s6,s7])[2+6]?=some (.int .u32 (s6:Nat)):=rfl
 have c7:(XU rv n [s0,s1,s2,s3,s4,s5,s6,s7])[2+7]?=some (.int .u32 (s7:Nat)):=rfl
 have fR:fillL (Qa 8 (Value.int .u32 0)) [(0,1,.int .u32 (r0:Int)),(1,1,.int .u32 (r1:Int)),(2,1,.int .u32 (r2:Int)),(3,1,.int .u32 (r3:Int)),(4,1,.int .u32 (r4:Int)),(5,1,.int .u32 (r5:Int)),(6,1,.int .u32 (r6:Int)),(7,1,.int .u32 (r7:Int))]=some (ns .u32 [r0,r1,r2,r3,r4,r5,r6,r7]):=rfl
 generalize H.set hid (XT rv n (DZ [s0,s1,s2,s3,s4,s5,s6,s7] b))=H' at *
 generalize ns .u32 [r0,r1,r2,r3,r4,r5,r6,r7]=R at *
 generalize Jv b=W at *
 generalize XU rv n [s0,s1,s2,s3,s4,s5,s6,s7]=C at *
 generalize Qa 64 0=Z,Qa 80 0=Z8 at *
 generalize Ky=KT at *
 rw[QY (fn:=yw) rfl]
 simp only[yw,Qr,quiet,cW,↓pW,reduceCtorEq,seval,-Qb,hz,hzt,h3,h1,h0,ht,hget,c0,c1,c2,c3,c4,c5,c6,c7,fR,Qe,Qx,Qy,Q5,Za,Q6,Q8,hWl,lz,lzt,lk,QR]
 rfl
theorem Rst.setHQ{K:Nat->Prop}{H:List Ob}{v:Value}{l:List Nat}{hid n:Nat}{rv:Value}{st:List Nat}(h:Rst K H v l)(hh:H[hid]?=some (XT rv n st))(o:Ob):Rst K (H.set hid o) v l:=by
 cases h with
 |nil=>exact .nil
 |empty h1 h2=>exact .empty h1 (by
   rw[Qu]
   ·exact h2
   ·intro e;subst e
    have:=congrArg Ob.c (Xp (hh.symm.trans h2))
    simp[XT,XU]at this)
 |own h1 h2 h4 h3=>exact .own h1 (by
   rw[Qu]
   ·exact h2
   ·intro e;subst e
    have:=congrArg Ob.exact (Xp (hh.symm.trans h2))
    simp[XT]at this) h4 h3
theorem Bp(b:List Nat):∀n,(US n b).length=8
 |0=>rfl
 |n+1=>p8 (Bp b n)
theorem dC:∀x∈XL,x<4294967296:=ww
theorem Aw(b:List Nat):∀n,∀x∈US n b,x<4294967296
 |0=>dC
 |n+1=>tY
theorem NK(a b:List Nat):∀q,64*q<=a.length->US q (a++b)=US q a
 |0,_=>rfl
 |q+1,h=>by
  rw[US,US,NK a b q qr,Jf qr,ZO (by rw[QN];omega)]
def HshQ(K:Nat->Prop)(H:List Ob)(hid:Nat)(all:List Nat):Prop:=∃rv,H[hid]?=some (XT rv all.length (US (all.length/64) all))/\Rst K H rv (all.drop (64*(all.length/64)))
def aH(hid:Nat):Value := .func (.func 178) [Value.pointer hid].toArray [].toArray
def Pf(hid:Nat)(H:List Ob)(L:List Nat)(ex:Env):St:=⟨[(0,.pointer hid),(1,.int .i64 64),(3,aH hid)]++ex,H,L⟩
theorem oG{rest:List Nat}{ex:Env}(hK:∀i,K i->i<H.length)(hKh:¬K hid)(hh:H[hid]?=some (XT rv n st))(hs:st.length=8)(hx:∀x∈st,x<4294967296)(hr:Rst K H rv rest)(h128:64<=rest.length)(xr:∀x∈rest,x<256)(hL:∀i∈L,¬K i)(hmx:rest.length<2^60) :
  ∃rv' H' L' ex',Q0 T b0 WJ (Pf hid H L ex)=some (.normal,Pf hid H' L' ex')/\H'[hid]?=some (XT rv' n (DZ st (rest.take 64)))/\Rst K H' rv' (rest.drop 64)/\(∀i,K i->H'[i]?=H[i]?)/\H.length<=H'.length/\∀i∈L',¬K i:=by
 have hlt:hid<H.length:=(Qg.1 hh).1
 cases hr with
 |nil=>exact absurd h128 ww
 |empty _ _=>exact absurd h128 ww
 |@own id off all _ k1 k2 k4 k3 =>
  have hidne:id≠hid:=fun e=>by
   subst e
   have:=congrArg Ob.exact (Xp (hh.symm.trans k2))
   simp[XT]at this
  have hBB:BB H id off (rest.take 64):=⟨⟨all,k2,fun i hi=>by
   rw[Q3]at hi
   rw[k3 i qr,QW,if_pos qr]⟩,fun x hx=>xr x (QP hx)⟩
  have hl:(rest.take 64).length=64:=by rw[Q3];omega
  obtain⟨w,s,M,hb,hM⟩:=gQ (cap:=rest.length) hh hs hx hBB hl
  have c0:∀s',(XU (.slice (some ⟨id,off,none⟩) rest.length rest.length) n s')[0]?=some (.slice (some ⟨id,off,none⟩) rest.length rest.length):=fun _=>rfl
  have cs:∀s' v,(XU (.slice (some ⟨id,off,none⟩) rest.length rest.length) n s').set 0 v=XU v n s':=fun _ _=>rfl
  have cl:∀v s',(1<=(XU v n s').length)=True:=fun v s'=>eq_true (by rw[Hb];omega)
  have b1:J8 rest.length rest.length none (some (.int .i64 64)) none=some (0,64,rest.length):=by
   have n1:Va (some (.int .i64 64)) rest.length rest.length=some 64:=Kk (n:=64) h128
   rw[Ki,n1,Qp];rfl
  have b2:J8 rest.length rest.length (some (.int .i64 64)) none none=some (64,rest.length,rest.length):=by
   have n1:Va (some (.int .i64 64)) rest.length 0=some 64:=Kk (n:=64) h128
   rw[Ki,Ui,Qp,n1,Qp]
  have e1:((64:Int)<=(rest.length:Int))=True:=wf
  have g0:H[hid]?=some {c:=XU (.slice (some ⟨id,off,none⟩) rest.length rest.length) n st}:=hh
  have g1:∀o:Ob,(H.set hid o++[w,s])[hid]?=some o:=fun o=>by
   rw[Qc (by rw[Q4];exact hlt),Qw hlt]
  have g2:∀o:Ob,(H.set hid o++[w,s])[id]?=some ⟨u8s all,true,true,false,1⟩:=fun o=>by
   rw[Qc (by rw[Q4];exact(Qg.1 k2).1),Qu (Ne.symm hidne)];exact k2
  have g3:∀o o':Ob,(H.set hid o++[w,s]).set hid o'=H.set hid o'++[w,s]:=fun o o'=>by
   rw[Vp _ _ (by rw[Q4];exact hlt),Yh]
  refine⟨.slice (some ⟨id,off+64,none⟩) (rest.length-64) (rest.length-64),H.set hid (XT (.slice (some ⟨id,off+64,none⟩) (rest.length-64) (rest.length-64)) n (DZ st (rest.take 64)))++[w,s],Q1 b0 (Q1 b0 L M) [hid],[],?_,g1 _,?_,?_,?_,?_⟩
  ·simp only[XT]at hb ⊢
   generalize DZ st (rest.take 64)=st' at *
   simp only[Pf,aH,WJ,Qr,quiet,cW,↓pW,reduceCtorEq,seval,-Qb,e1,b1,b2,hb,c0,cs,cl,g0,k2,g1,g2,g3]
  ·have:=Rst.own (K:=K) (H:=H.set hid (XT (.slice (some ⟨id,off+64,none⟩) (rest.length-64) (rest.length-64)) n (DZ st (rest.take 64)))++[w,s]) (id:=id) (off:=off+64) (all:=all) (l:=rest.drop 64) k1 (g2 _) (by rw[QN];omega) (fun i hi=>by
    rw[QN]at hi
    rw[Zp,<-k3 _ qr,Zb])
   rwa[QN]at this
  ·intro i hi
   rw[Qc (by rw[Q4];exact hK i hi),Qu (fun e=>hKh (by rw[e];exact hi))]
  ·simp
  ·intro i hi
   rcases J5 hi with h|h
   ·rcases J5 h with h|h
    ·exact hL i h
    ·rw[hM i h];exact hKh
   ·rw[Xn.1 h];exact hKh
theorem oD{x:Value}{all p:List Nat}(hK:∀i,K i->i<H.length)(hKh:¬K hid)(hh:HshQ K H hid all)(xa:∀y∈all,y<256)(xp:∀y∈p,y<256)
 (hl:∃(a:Option Addr) (c:Nat),x=.slice a p.length c) (he:∀o,elemsOf (H.set hid o) 1 p.length x=some (u8s p)) (hb:all.length+p.length<2^50) (hb2:p.length<=2^47-128) :
    ∃H' M,Z6 T 177 [.pointer hid,.int .i64 64,x,aH hid] H=some (.tuple #[],H',M)/\HshQ K H' hid (all++p)/\(∀i,K i->H'[i]?=H[i]?)/\H.length<=H'.length/\∀i∈M,¬K i:=by
  obtain⟨rv,h1,h2⟩:=hh
  have hlt:hid<H.length:=(Qg.1 h1).1
  obtain⟨q0,hq0⟩:∃q,q=all.length/64:=⟨_,rfl⟩
  rw[<-hq0]at h1 h2
  have hq1:64*q0<=all.length:=by rw[hq0];omega
  have hst:US q0 all=US q0 (all++p):=(NK all p q0 hq1).symm
  have hN:(all++p).length=all.length+p.length:=Qj
  rw[hst]at h1
  obtain⟨st0,hst0⟩:∃s,s=US q0 (all++p):=⟨_,rfl⟩
  rw[<-hst0]at h1
  have hrest:all.drop (64*q0)++p=(all++p).drop (64*q0):=(Jf hq1).symm
  have hrl:(all.drop (64*q0)).length<=63:=by rw[QN,hq0];omega
  have hr1:Rst K (H.set hid (XT rv (all.length+p.length) st0)) rv (all.drop (64*q0)):=h2.setHQ h1 _
  have hK1:∀i,K i->i<(H.set hid (XT rv (all.length+p.length) st0)).length:=fun i hi=>by rw[Q4];exact hK i hi
  have hlen:Go.Ev.lenV x=some p.length:=by obtain⟨a,c,rfl⟩:=hl;rfl
  obtain⟨rv',H2,M2,ha,a1,a2,a3,a4,a5⟩:=hr1.append hK1 hlen (he _) qr
  have hg1:(H.set hid (XT rv (all.length+p.length) st0))[hid]?=some (XT rv (all.length+p.length) st0):=Qw hlt
  have hg2:=a5 hid _ hg1 rfl
  rw[Q4]at a3
  have hlt2:hid<H2.length:=qr
  have hr3:Rst K (H2.set hid (XT rv' (all.length+p.length) st0)) rv' ((all++p).drop (64*q0)):=by
    rw[hrest]at a1
    exact a1.setHQ hg2 _
  have hg3:(H2.set hid (XT rv' (all.length+p.length) st0))[hid]?=some (XT rv' (all.length+p.length) st0):=Qw hlt2
  obtain⟨H3,hH3⟩:∃X,X=H2.set hid (XT rv' (all.length+p.length) st0):=⟨_,rfl⟩
  have hf3:∀i,K i->H3[i]?=H[i]? := fun i hi=>by
    have hne:hid≠i:=fun e=>hKh (by rw[e];exact hi)
    rw[hH3,Qu hne,a4 i hi,Qu hne]
  have hl3:H.length<=H3.length:=by rw[hH3,Q4];exact a3
  obtain⟨L3,hL3⟩:∃L,L=Q1 H.length (Q1 H.length (Q1 H.length [] [hid]) M2) [hid]:=⟨_,rfl⟩
  have hL3':∀i∈L3,¬K i:=fun i hi=>by
    rw[hL3]at hi
    rcases J5 hi with h|h
    · rcases J5 h with h|h
      · rcases J5 h with h|h
        · simp at h
        · rw[Xn.1 h];exact hKh
      · exact a2 i h
    · rw[Xn.1 h];exact hKh
  rw[<-hH3]at hr3 hg3
  obtain⟨st,hloop,H',L',ex',rvf,rfl,f1,f2,f3,f4,f5⟩:=Zh (T:=T) (base:=H.length) (id:=0) (body:=WJ)
    (fun k st=>∃H' L' ex' rvk,st=Pf hid H' L' ex'/\H'[hid]?=some (XT rvk (all.length+p.length) (US (q0+k) (all++p)))/\Rst K H' rvk ((all++p).drop (64*(q0+k)))/\(∀i,K i->H'[i]?=H[i]?)/\H.length<=H'.length/\∀i∈L',¬K i)
    (Q:=fun st=>∃H' L' ex' rvk,st=Pf hid H' L' ex'/\H'[hid]?=some (XT rvk (all.length+p.length) (US ((all++p).length/64) (all++p)))/\Rst K H' rvk ((all++p).drop (64*((all++p).length/64)))/\(∀i,K i->H'[i]?=H[i]?)/\H.length<=H'.length/\∀i∈L',¬K i)
    ((all++p).length/64-q0) (s:=Pf hid H3 L3 []) ⟨H3,L3,[],rv',rfl,by rw[Jl,<-hst0];exact hg3,by rw[Jl];exact hr3,hf3,hl3,hL3'⟩
    (fun k st hk hs=>by
      obtain⟨Hk,Lk,exk,rvk,rfl,k1,k2,k3,k4,k5⟩:=hs
      obtain⟨rv2,Hk2,L2,ex2,j1,j2,j3,j4,j5,j6⟩:=oG (b0:=H.length) (ex:=exk) (fun i hi=>QM (hK i hi) k4) hKh k1 (Bp _ _) (Aw _ _) k2 (by rw[QN];omega) (fun y hy=>by
        rcases QC.1 (ZF hy)with h|h
        · exact xa y h
        · exact xp y h) k5 (by rw[QN];omega)
      refine⟨_,j1,Hk2,L2,ex2,rv2,rfl,j2,?_,fun i hi=>(j4 i hi).trans (k3 i hi),Xm k4 j5,j6⟩
      rw[List.drop_drop]at j3
      rw[show 64*(q0+(k+1))=64*(q0+k)+64 by omega]
      exact j3)
    (fun st hs=>by
      obtain⟨Hk,Lk,exk,rvk,rfl,k1,k2,k3,k4,k5⟩:=hs
      have hqq:q0+((all++p).length/64-q0)=(all++p).length/64:=by
        have:q0<=(all++p).length/64:=by rw[hq0,hN];omega
        omega
      rw[hqq]at k1 k2
      have hrl2:((all++p).drop (64*((all++p).length/64))).length<64:=by rw[QN];omega
      obtain⟨v,c,hv⟩:=k2.shape
      refine⟨_,?_,Hk,Lk,[(33,.bool false)],rvk,rfl,k1,k2,k3,k4,k5⟩
      subst hv
      have c0:∀v' s',(XU v' (all.length+p.length) s')[0]?=some v':=fun _ _=>rfl
      have e1:((64:Int)<=(((all++p).drop (64*((all++p).length/64))).length:Int))=False:=wr
      simp only[XT]at k1
      generalize((all++p).drop (64*((all++p).length/64))).length=rl,US ((all++p).length/64) (all++p)=sk at *
      simp only[Pf,aH,WJ,Qr,quiet,cW,↓pW,reduceCtorEq,seval,-Qb,e1,k1,c0])
  refine⟨H',L',?_,⟨rvf,by rw[hN]at f1 ⊢;exact f1,f2⟩,f3,f4,f5⟩
  obtain⟨c1,c2,rfl⟩:=hl
  simp only[Pf,Qn,Ql,hL3]at hloop
  simp only[XT]at h1 ha hg2 hH3
  have w1:IntKind.u64.wrap (p.length:Int)=(p.length:Int):=Kz qr
  have w2:IntKind.u64.wrap ((all.length:Int)+(p.length:Int))=((all.length+p.length:Nat):Int):=Wf qr
  have c0:∀v' n' s',(XU v' n' s')[0]?=some v':=fun _ _ _=>rfl
  have c1':∀v' (n':Nat) s',(XU v' n' s')[1]?=some (.int .u64 n'):=fun _ _ _=>rfl
  have s0:∀v' n' s' v,(XU v' n' s').set 0 v=XU v n' s':=fun _ _ _ _=>rfl
  have s1:∀v' n' s' (m:Nat),(XU v' n' s').set 1 (.int .u64 (m:Int))=XU v' m s':=fun _ _ _ _=>rfl
  have cl:∀v n' s',(1<=(XU v n' s').length)=True:=fun v n' s'=>eq_true (by rw[Hb];omega)
  have cl2:∀v n' s',(2<=(XU v n' s').length)=True:=fun v n' s'=>eq_true (by rw[Hb];omega)
  have hgs:∀o:Ob,(H.set hid o)[hid]?=some o:=fun o=>Qw hlt
  obtain⟨vr,cr,hvr⟩:=a1.shape
  have hok:Z7 rv'=true:=by rw[hvr];rfl
  have hc1:rv'.cells.toList=[rv']:=by rw[hvr];rfl
  have hc2:rv'.cells.size=1:=by rw[hvr];rfl
  clear hvr
  generalize all.length+p.length=NN at *
  rw[QY (fn:=pY) rfl]
  simp only[pY,Qr,quiet,cW,↓pW,reduceCtorEq,seval,-Qb,aH,h1,c0,c1',s0,s1,cl,cl2,w1,w2,hgs,ha,hg2,<-hH3,hok,hc1,hc2]
  simp only[aH]at hloop
  simp only[hloop,Qr,quiet,cK,↓pQ,reduceCtorEq,seval,-Qb,cL]
  rfl
def Ns(hid:Nat)(pv:Value)(n:Nat)(i:Int)(H:List Ob)(L:List Nat)(ex:Env):St:=⟨[(0,.pointer hid),(6,pv),(7,.int .i64 n),(8,.int .i64 i)]++ex,H,L⟩
theorem iq{H0:List Ob}{all:List Nat}(hK:∀i,K i->i<H.length)(hKh:¬K hid)(hh:HshQ K H hid all)(xa:∀y∈all,y<256)(hp:PV K H0 pv xs)(hP:HParts K H0 xs ps)(hF:∀i,K i->H[i]?=H0[i]?)(hL:∀i∈L,¬K i)(hi:i<xs.length)(hn:xs.length<2^50)(hb:all.length+(ps.getD i []).length<2^50) :
  ∃H' L',Q0 T b0 Rp (Ns hid pv xs.length i H L [])=some (.normal,Ns hid pv xs.length ((i+1:Nat):Int) H' L' [])/\HshQ K H' hid (all++ps.getD i [])/\(∀i,K i->H'[i]?=H[i]?)/\H.length<=H'.length/\∀i∈L',¬K i:=by
 obtain⟨x,hx⟩:∃x,xs[i]?=some x:=⟨_,Qf hi⟩
 obtain⟨p,hpi,hpp⟩:=hP.get hx
 have hgd:ps.getD i []=p:=by rw[QD,hpi];rfl
 rw[hgd]at hb ⊢
 obtain⟨H',M,hf,f1,f2,f3,f4⟩:=oD hK hKh hh xa hpp.lt hpp.shape (fun o=>hpp.reads _ (fun j hj=>by
  rw[Qu (fun e=>hKh (by rw[e];exact hj))];exact hF j hj)) hb hpp.le
 rcases hp with⟨-,h0⟩|⟨pid,off,cap,o,rfl,kp,ho,hlv,hc⟩
 ·rw[h0]at hi;exact absurd hi (Yq _)
 ·have ho':H[pid]?=some o:=(hF pid kp).trans ho
  have hcx:o.c[off+i]?=some x:=(hc i hi).trans hx
  have e1:((i:Int)<(xs.length:Int))=True:=wf
  have w3:IntKind.i64.wrap ((i:Int)+1)=((i+1:Nat):Int):=Z3 (b:=1) qr
  refine⟨H',Q1 b0 L M,?_,f1,f2,f3,fun j hj =>?_⟩
  ·simp only[aH]at hf
   generalize i+1=i1 at *
   simp only[Ns,Rp,Qr,quiet,cW,↓pW,reduceCtorEq,seval,-Qb,e1,ho',hlv,hcx,w3,hf]
  ·rcases J5 hj with h|h
   ·exact hL j h
   ·exact f4 j h
theorem Hz{all:List Nat}(hK:∀i,K i->i<H.length)(hKh:¬K hid)(hh:HshQ K H hid all)(xa:∀y∈all,y<256)(hp:PV K H pv xs)(hP:HParts K H xs ps)(hn:xs.length<2^50)(hb:(all++ps.flatten).length<2^50) :
  ∃H' M,Z6 T 115 [.pointer hid,pv] H=some (.tuple #[],H',M)/\HshQ K H' hid (all++ps.flatten)/\(∀i,K i->H'[i]?=H[i]?)/\H.length<=H'.length/\∀i∈M,¬K i:=by
 obtain⟨st,hl,H',L',rfl,f1,f2,f3,f4⟩:=Zh (T:=T) (base:=H.length) (id:=0) (body:=Rp)
  (fun i st=>∃H' L',st=Ns hid pv xs.length (i:Nat) H' L' []/\HshQ K H' hid (all++(ps.take i).flatten)/\(∀i,K i->H'[i]?=H[i]?)/\H.length<=H'.length/\∀i∈L',¬K i)
  (Q:=fun st=>∃H' L',st=Ns hid pv xs.length (xs.length:Nat) H' L' [(9,.bool false)]/\HshQ K H' hid (all++ps.flatten)/\(∀i,K i->H'[i]?=H[i]?)/\H.length<=H'.length/\∀i∈L',¬K i)
  xs.length (s:=Ns hid pv xs.length 0 H [] []) ⟨H,[],rfl,by simpa using hh,fun _ _=>rfl,Qs _,by simp⟩
  (fun i st hi hs=>by
   obtain⟨H1,L1,rfl,g1,g2,g3,g4⟩:=hs
   have hpl:=hP.len
   have hsp:ps.flatten=(ps.take i).flatten++((ps.getD i [])++(ps.drop (i+1)).flatten):=by
    obtain⟨p,hpi⟩:∃p,ps[i]?=some p:=⟨_,Qf qr⟩
    have hgd:ps.getD i []=p:=by rw[QD,hpi];rfl
    rw[hgd,<-QO,<-Jd]
    congr 1
    have h1:=Qg.1 hpi
    conv=>lhs;rw[<-Zn i ps,List.drop_eq_getElem_cons h1.1,h1.2]
   have htk:(ps.take (i+1)).flatten=(ps.take i).flatten++ps.getD i []:=by
    obtain⟨p,hpi⟩:∃p,ps[i]?=some p:=⟨_,Qf qr⟩
    have hgd:ps.getD i []=p:=by rw[QD,hpi];rfl
    rw[hgd,Zx,hpi,Jd];simp
   have hlt:=hP.lt
   obtain⟨H2,L2,j1,j2,j3,j4,j5⟩:=iq (b0:=H.length) (fun j hj=>QM (hK j hj) g3) hKh g1 (fun y hy=>by
    rcases QC.1 hy with h|h
    ·exact xa y h
    ·exact hlt y (by rw[hsp];exact List.mem_append_left _ h)) hp hP g2 g4 hi hn (by
     rw[hsp]at hb
     simp only[Qj]at hb ⊢
     omega)
   refine⟨_,j1,H2,L2,rfl,by rw[htk,<-Qt];exact j2,fun j hj=>(j3 j hj).trans (g2 j hj),Xm g3 j4,j5⟩)
  (fun st hs=>by
   obtain⟨H1,L1,rfl,g1,g2,g3,g4⟩:=hs
   rw[Qm (by rw[hP.len];exact Qs _)]at g1
   refine⟨_,?_,H1,L1,rfl,g1,g2,g3,g4⟩
   have e1:((xs.length:Int)<(xs.length:Int))=False:=wr
   simp only[Ns,Rp,Qr,quiet,cK,↓pQ,reduceCtorEq,seval,-Qb,cL,cJ,e1])
 refine⟨H',L',?_,f1,f2,f3,f4⟩
 simp only[Ns,Qn,Ql,QA]at hl
 have hlen:vLen false pv=some (.int .i64 xs.length):=by
  rcases hp with⟨rfl,h0⟩|⟨pid,off,cap,o,rfl,-⟩
  ·rw[h0];rfl
  ·rfl
 rw[QY (fn:=y7) rfl]
 simp only[y7,Qr,quiet,cW,↓pW,reduceCtorEq,seval,-Qb,hlen,hl]
 rfl
theorem eJ:fillL (Value.slice none 0 0::.int .u64 0::Qa 8 (.int .u32 0)) [(2,8,.agg (ns .u32 XL).toArray)]=some (XU (.slice none 0 0) 0 XL):=rfl
theorem bY(H:List Ob):Z6 T 114 [] H=some (.pointer H.length,H++[XT (.slice none 0 0) 0 XL],[]):=by
 have hf:fillL (Qa 8 (Value.int .u32 0)) [(0,1,.int .u32 1779033703),(1,1,.int .u32 3144134277),(2,1,.int .u32 1013904242),(3,1,.int .u32 2773480762),(4,1,.int .u32 1359893119),(5,1,.int .u32 2600822924),(6,1,.int .u32 528734635),(7,1,.int .u32 1541459225)]=some (ns .u32 XL):=rfl
 have hf2:∀a,fillL [Value.slice none 0 0,.int .u64 0,.int .u32 0,.int .u32 0,.int .u32 0,.int .u32 0,.int .u32 0,.int .u32 0,.int .u32 0,.int .u32 0] [(2,8,.agg (ns .u32 a).toArray)]=fillL (Value.slice none 0 0::.int .u64 0::Qa 8 (.int .u32 0)) [(2,8,.agg (ns .u32 a).toArray)]:=fun _=>rfl
 have hf3:=eJ
 simp only[XT]
 generalize XL=S at *
 generalize XU (.slice none 0 0) 0 S=C at *
 rw[QY (fn:=y8) rfl]
 simp only[y8,Qr,quiet,cW,↓pW,reduceCtorEq,seval,-Qb,hf,hf2,hf3]
theorem OE(h:H[hid]?=some (XT (.slice none 0 0) 0 XL)):HshQ K H hid []:=⟨_,h,.nil⟩
def L5(hid:Nat)(s:Value)(Hc:List Ob)(ex:Env):St:=⟨[(0,.pointer hid),(1,.int .i64 64),(2,.int .i64 8),(7,s)]++ex,Hc,[]⟩
def Cj(hid:Nat)(s:Value)(i:Int)(Hc:List Ob)(ex:Env):St:=⟨[(0,.pointer hid),(7,s),(8,.int .i64 i)]++ex,Hc,[]⟩
theorem RV(n:Nat):(n+(1+XH n)+8)%64=0:=by unfold XH;omega
theorem MC(n z:Nat)(h:z<XH n):(n+(1+z)+8)%64≠0:=by unfold XH at h;omega
theorem GS(n:Nat):XH n<64:=by unfold XH;omega
theorem mr(hh:H[hid]?=some (XT rv n st))(hn:n<2^50) :
  ∃s l,Q0 T H.length (.block 0 (.loop WI)) (L5 hid (.slice H.length 1 1) (H++[{c:=[.int .u8 128]}]) [])=some (.normal,L5 hid s (H++l) [(23,.bool false)])/\Grown .u8 H.length (H++l) s (128::Qa (XH n) 0):=by
 have hlt:hid<H.length:=(Qg.1 hh).1
 have f0:fillL [Value.int .u8 0] [(0,1,.int .u8 0)]=some [.int .u8 0]:=rfl
 have c1:(XU rv n st)[1]?=some (.int .u64 n):=rfl
 have hz:=GS n
 obtain⟨x,hb,s,Hc,rfl,hg,hL,hF⟩:=Zh (T:=T) (base:=H.length) (id:=0) (body:=WI)
  (fun j x=>∃s Hc,x=L5 hid s Hc []/\Grown .u8 H.length Hc s (128::Qa j 0)/\H.length<=Hc.length/\∀i,i<H.length->Hc[i]?=H[i]?)
  (Q:=fun x=>∃s Hc,x=L5 hid s Hc [(23,.bool false)]/\Grown .u8 H.length Hc s (128::Qa (XH n) 0)/\H.length<=Hc.length/\∀i,i<H.length->Hc[i]?=H[i]?)
  (XH n) (s:=L5 hid (.slice H.length 1 1) (H++[{c:=[.int .u8 128]}]) []) ⟨_,_,rfl,Grown.new (k := .u8) (id:=H.length) (bs:=[128]) (Qs _) ww (by simp[Ob.fresh,ns]),by simp,fun i hi=>Qc hi⟩
  (fun j x hj hx=>by
   obtain⟨s,Hc,rfl,hg,hL,hF⟩:=hx
   have hl:=hg.len
   have e1:(128::Qa j 0).length=1+j:=by simp;omega
   rw[e1]at hl
   obtain⟨s',H',M,h1,h2,h3,h4,h5⟩:=VX (x:=0) (bytes:=1) hg hL (by rw[e1];omega) ww
   have hm:Q1 H.length [] M=[]:=QB h3
   have hget:Hc[hid]?=some {c:=XU rv n st}:=(hF hid hlt).trans hh
   have w1:IntKind.i64.wrap (n:Int)=(n:Int):=wn qr
   have w2:IntKind.i64.wrap ((n:Int)+((1+j:Nat):Int))=((n+(1+j):Nat):Int):=Z3 qr
   have w3:IntKind.i64.wrap (((n+(1+j):Nat):Int)+8)=((n+(1+j)+8:Nat):Int):=Z3 (b:=8) qr
   have w4:((n+(1+j)+8:Nat):Int).tmod 64=(((n+(1+j)+8)%64:Nat):Int):=rfl
   have w5:((((n+(1+j)+8)%64:Nat):Int) != 0)=true:=bne_iff_ne.2 (by have:=MC n j hj;omega)
   refine⟨L5 hid s' H' [],?_,s',H',rfl,by rw[Km,<-Qn];exact h2,h4,fun i hi=>by rw[h5 i hi,hF i hi]⟩
   simp only[QA]at h1
   generalize(n+(1+j)+8)%64=r at *
   generalize n+(1+j)+8=r2 at *
   generalize n+(1+j)=r3 at *
   simp only[L5,WI,Qr,quiet,cW,↓pW,reduceCtorEq,seval,-Qb,hget,c1,hl,w1,w2,w3,w4,w5,f0,h1,hm])
  (fun x hx=>by
   obtain⟨s,Hc,rfl,hg,hL,hF⟩:=hx
   have hl:=hg.len
   have e1:(128::Qa (XH n) 0).length=1+XH n:=by simp;omega
   rw[e1]at hl
   have hget:Hc[hid]?=some {c:=XU rv n st}:=(hF hid hlt).trans hh
   have w1:IntKind.i64.wrap (n:Int)=(n:Int):=wn qr
   have w2:IntKind.i64.wrap ((n:Int)+((1+XH n:Nat):Int))=((n+(1+XH n):Nat):Int):=Z3 qr
   have w3:IntKind.i64.wrap (((n+(1+XH n):Nat):Int)+8)=((n+(1+XH n)+8:Nat):Int):=Z3 (b:=8) qr
   have w4:((n+(1+XH n)+8:Nat):Int).tmod 64=0:=by
    have:((n+(1+XH n)+8:Nat):Int).tmod 64=(((n+(1+XH n)+8)%64:Nat):Int):=rfl
    rw[this,RV];rfl
   refine⟨_,?_,s,Hc,rfl,hg,hL,hF⟩
   generalize n+(1+XH n)+8=r2 at *
   generalize n+(1+XH n)=r3 at *
   simp only[L5,WI,Qr,quiet,cW,↓pW,reduceCtorEq,seval,-Qb,hget,c1,hl,w1,w2,w3,w4])
 obtain⟨l,rfl⟩:=XG hL hF
 exact⟨s,l,hb,hg⟩
def VN(n i:Nat):Nat:=8*n/256^(7-i)%256
theorem mq{l0:List Ob}{s0:Value}{bs:List Nat}(hh:H[hid]?=some (XT rv n st))(hn:n<2^50)(hg0:Grown .u8 H.length (H++l0) s0 bs)(hbs:bs.length<=200) :
  ∃s l,Q0 T H.length (.block 2 (.loop Yf)) (Cj hid s0 7 (H++l0) [])=some (.normal,Cj hid s (-1) (H++l) [(30,.bool false)])/\Grown .u8 H.length (H++l) s (bs++(ZH 8).map (VN n)):=by
 have hlt:hid<H.length:=(Qg.1 hh).1
 have c1:(XU rv n st)[1]?=some (.int .u64 n):=rfl
 obtain⟨x,hb,s,Hc,rfl,hg,hL,hF⟩:=Zh (T:=T) (base:=H.length) (id:=2) (body:=Yf)
  (fun j x=>∃s Hc,x=Cj hid s ((7:Int)-j) Hc []/\Grown .u8 H.length Hc s (bs++(ZH j).map (VN n))/\H.length<=Hc.length/\∀i,i<H.length->Hc[i]?=H[i]?)
  (Q:=fun x=>∃s Hc,x=Cj hid s (-1) Hc [(30,.bool false)]/\Grown .u8 H.length Hc s (bs++(ZH 8).map (VN n))/\H.length<=Hc.length/\∀i,i<H.length->Hc[i]?=H[i]?)
  8 (s:=Cj hid s0 7 (H++l0) []) ⟨_,_,rfl,by simpa using hg0,by simp,fun i hi=>Qc hi⟩
  (fun j x hj hx=>by
   obtain⟨s,Hc,rfl,hg,hL,hF⟩:=hx
   obtain⟨i,hi⟩:∃i,i=7-j:=⟨_,rfl⟩
   rw[show(7:Int)-j=(i:Int) by omega,show(7:Int)-((j+1:Nat):Int)=(i:Int)-1 by omega]
   have hl:=hg.len
   have hpd:VN n j=8*n/256^i%256:=by rw[hi];rfl
   obtain⟨s',H',M,h1,h2,h3,h4,h5⟩:=VX (x:=VN n j) (bytes:=1) hg hL (by rw[Qj,List.length_map,List.length_range];omega) ww
   have hm:Q1 H.length [] M=[]:=QB h3
   have hget:Hc[hid]?=some {c:=XU rv n st}:=(hF hid hlt).trans hh
   have fx:∀a:Int,fillL [Value.int .u8 0] [(0,1,.int .u8 a)]=some [.int .u8 a]:=fun _=>rfl
   have w0:IntKind.i64.wrap ((i:Int)-1)=(i:Int)-1:=QU qr qr
   have e0:((0:Int)<=(i:Int))=True:=wf
   refine⟨Cj hid s' ((i:Int)-1) H' [],?_,s',H',rfl,by rw[List.range_succ,List.map_append,<-Qt];exact h2,h4,fun k hk=>by rw[h5 k hk,hF k hk]⟩
   rw[hpd]at h1
   by_cases h9:i<9
   ·have e9:((i:Int)<9)=True:=wf
    have w1:IntKind.i64.wrap (8*(i:Int))=((8*i:Nat):Int):=UQ (a:=8) qr
    have w2:(((8*i:Nat):Int)<0)=False:=wr
    have w3:(n:Int).fdiv (2^min (8*i) IntKind.u64.bits)=((n/256^i:Nat):Int):=by
     rw[D2 qr,show(256:Nat)=2^8 from rfl,<-Je]
    have hle:n/256^i<=n:=Jx _ _
    have w4:IntKind.u64.wrap (((n/256^i:Nat):Int)*2^min 3 IntKind.u64.bits)=((n/256^i*8:Nat):Int):=U4 (b:=8) qr
    have w5:IntKind.u8.wrap ((n/256^i*8:Nat):Int)=((n/256^i*8%256:Nat):Int):=Bb _
    by_cases hz:i=0
    ·subst hz
     have e8:n/256^0*8%256=8*n/256^0%256:=by rw[ZN,J1,J1];omega
     rw[e8]at w5
     have ew:(8*0:Nat)=0:=rfl
     simp only[ew,QA]at w1 w2 w3
     generalize 8*n/256^0%256=d at *
     generalize n/256^0*8=v1 at *
     generalize n/256^0=v2 at *
     simp only[Cj,Yf,Qr,quiet,cW,↓pW,reduceCtorEq,seval,-Qb,hget,c1,w0,e0,e9,w1,w2,w3,w4,w5,fx,h1,hm]
    ·obtain⟨k,rfl⟩:∃k,i=k+1:=⟨i-1,by omega⟩
     have hd:=Io n k
     have ep:((0:Int)<((k+1:Nat):Int))=True:=wf
     have v1:IntKind.i64.wrap (((8*(k+1):Nat):Int)-8)=((8*k:Nat):Int):=by rw[QU qr qr];omega
     have v2:(((8*k:Nat):Int)<0)=False:=wr
     have v3:(n:Int).fdiv (2^min (8*k) IntKind.u64.bits)=((n/256^k:Nat):Int):=by
      rw[D2 qr,show(256:Nat)=2^8 from rfl,<-Je]
     have v4:Zr .and .u64 ((n/256^k:Nat):Int) 255=((n/256^k%256:Nat):Int):=Bc .u64 rfl 8 _ ww
     have v5:((n/256^k%256:Nat):Int).fdiv (2^min 5 IntKind.u64.bits)=((n/256^k%256/32:Nat):Int):=D2 (r:=5) ww
     have v6:IntKind.u8.wrap ((n/256^k%256/32:Nat):Int)=((n/256^k%256/32:Nat):Int):=by rw[Bb,Qv qr]
     have v7:Zr .or .u8 ((n/256^(k+1)*8%256:Nat):Int) ((n/256^k%256/32:Nat):Int)=((8*n/256^(k+1)%256:Nat):Int):=by
      rw[Kh rfl (show _<2^8 from Q9 _ ww) (show n/256^k%256/32<2^8 by omega),hd]
     generalize 8*n/256^(k+1)%256=d at *
     generalize n/256^(k+1)*8%256=u1 at *
     generalize n/256^(k+1)*8=u2 at *
     generalize n/256^(k+1)=u3 at *
     generalize n/256^k%256/32=u4 at *
     generalize n/256^k%256=u5 at *
     generalize n/256^k=u6 at *
     generalize 8*(k+1)=u7 at *
     generalize 8*k=u8' at *
     generalize k+1=k1 at *
     simp only[Cj,Yf,Qr,quiet,cW,↓pW,reduceCtorEq,seval,-Qb,hget,c1,w0,e0,e9,ep,w1,w2,w3,w4,w5,v1,v2,v3,v4,v5,v6,v7,fx,h1,hm]
   ·have e9:((i:Int)<9)=False:=wr
    have ep:((0:Int)<(i:Int))=True:=wf
    have hz:8*n/256^i%256=0:=by
     have:(256:Nat)^9<=256^i:=Zo ww qr
     rw[JK (QM qr this)]
    rw[hz]at h1
    simp only[QA]at h1
    simp only[Cj,Yf,Qr,quiet,cW,↓pW,reduceCtorEq,seval,-Qb,hget,c1,w0,e0,e9,ep,fx,h1,hm])
  (fun x hx=>by
   obtain⟨s,Hc,rfl,hg,hL,hF⟩:=hx
   have e:((0:Int) <= -1)=False:=ww
   refine⟨_,?_,s,Hc,rfl,hg,hL,hF⟩
   rw[show(7:Int)-((8:Nat):Int) = -1 by omega]
   simp only[Cj,Yf,Qr,quiet,cK,↓pQ,reduceCtorEq,seval,-Qb,cL,e])
 obtain⟨l,rfl⟩:=XG hL hF
 exact⟨s,l,hb,hg⟩
theorem Oi(n:Nat):Yu n=(128::Qa (XH n) 0)++(ZH 8).map (VN n):=by unfold Yu VN;rw[Qn]
theorem Og(hh:H[hid]?=some (XT rv n st))(hn:n<2^50) :
  ∃s l,Z6 T 179 [.pointer hid,.int .i64 64,.int .i64 8] H=some (s,H++l,[])/\Grown .u8 H.length (H++l) s (Yu n):=by
 obtain⟨s1,l1,h1,g1⟩:=mr hh hn
 have hz:=GS n
 obtain⟨s2,l2,h2,g2⟩:=mq hh hn g1 (by simp;omega)
 rw[<-Oi]at g2
 refine⟨s2,l2,?_,g2⟩
 have f128:fillL [Value.int .u8 0] [(0,1,.int .u8 128)]=some [.int .u8 128]:=rfl
 have w1:IntKind.i64.wrap 7=7:=ww
 simp only[L5,Qn,Ql]at h1
 simp only[Cj,Qn,Ql]at h2
 rw[QY (fn:=pX) rfl]
 simp only[pX,Qr,quiet,cW,↓pW,reduceCtorEq,seval,-Qb,f128,h1,w1,h2]
theorem Wo(b:List Nat):(VG b).length=32:=by simp[VG]
theorem Lo(b:List Nat):∀x∈VG b,x<256:=by
 intro x hx
 simp only[VG,Xo]at hx
 obtain⟨i,-,rfl⟩:=hx
 exact Q9 _ ww
def Si(r x o:Nat)(G:List Ob)(b:List Nat)(i:Int)(ex:Env):St:=⟨[(2,.pointer r),(3,.pointer x),(4,.pointer G.length),(32,.int .i64 i)]++ex,G++[{c:=u8s b}],[]⟩
theorem dw{base:Nat}{G:List Ob}{R:List Nat}(hx:G[x]?=some (XT rv n st))(hs:st.length=8)(hR:R.length=32)(hRi:∀i,i<32->R[i]?=some (st.getD (i/4) 0/256^(3-i%4)%256))(hxs:∀y∈st,y<4294967296)(hb:base<=G.length) :
  Q0 T base (.block 0 (.loop Ro)) (Si r x 0 G (Qa 32 0) 0 [])=some (.normal,Si r x 0 G R 32 [(33,.bool false)]):=by
 have h:=ZR (T:=T) (base:=base) (id:=0) (body:=Ro) (fun i=>Si r x 0 G (pf 32 R i) i []) (s':=Si r x 0 G R 32 [(33,.bool false)]) 32
  (fun i hi=>by
   obtain⟨w,hw⟩:∃w,st[i/4]?=some w:=⟨_,Qf qr⟩
   have hw':=hxs w (Qo hw)
   have hv:=hRi i hi
   rw[JQ hw]at hv
   have hstep:=XD hR hi hv
   have hlen:=Kd hR (J0 hi)
   have hset:=Xc (pf 32 R i) i (w/256^(3-i%4)%256)
   rw[hstep]at hset
   have gc:=OS (rv:=rv) (n:=n) hw
   have hget:∀l:List Ob,(G++l)[x]?=some {c:=XU rv n st}:=fun l=>by rw[Qc (Qg.1 hx).1];exact hx
   have e1:((i:Int)<32)=True:=wf
   have w3:IntKind.i64.wrap ((i:Int)+1)=((i+1:Nat):Int):=Z3 (b:=1) qr
   have w4:IntKind.i64.wrap ((i:Int).tdiv 4)=((i/4:Nat):Int):=wn (n:=i/4) qr
   have e2:(((i/4:Nat):Int)<8)=True:=wf
   have w5:(i:Int).tmod 4=((i%4:Nat):Int):=rfl
   have w6:IntKind.i64.wrap (8*((i%4:Nat):Int))=((8*(i%4):Nat):Int):=UQ (a:=8) qr
   have w7:IntKind.i64.wrap (24-((8*(i%4):Nat):Int))=((8*(3-i%4):Nat):Int):=by rw[QU qr qr];omega
   have e3:(((8*(3-i%4):Nat):Int)<0)=False:=wr
   have w8:(w:Int).fdiv (2^min (8*(3-i%4)) IntKind.u32.bits)=((w/256^(3-i%4):Nat):Int):=by
    rw[AQ qr,show(256:Nat)=2^8 from rfl,<-Je]
   have w9:IntKind.u8.wrap ((w/256^(3-i%4):Nat):Int)=((w/256^(3-i%4)%256:Nat):Int):=Bb _
   have e4:(i<=31)=True:=wf
   have m1:Q1 base [] [G.length]=[]:=QB (by simpa using hb)
   clear hstep hv hw
   generalize pf 32 R i=o1,pf 32 R (i+1)=o2 at *
   generalize w/256^(3-i%4)%256=d at *
   generalize w/256^(3-i%4)=d2 at *
   generalize 8*(3-i%4)=d3 at *
   generalize 8*(i%4)=d4 at *
   generalize i%4=d5 at *
   generalize i/4=d6 at *
   generalize i+1=i1 at *
   simp only[Si,Ro,Qr,quiet,cW,↓pW,reduceCtorEq,seval,-Qb,e1,e2,e3,e4,w3,w4,w5,w6,w7,w8,w9,hget,gc,hset,Qq,hlen,m1])
  (by
   rw[Ke hR]
   simp only[Si,Ro,Qr,quiet,cW,↓pW,reduceCtorEq,seval,-Qb])
 rw[Kc]at h
 exact h
theorem Oh(n:Nat):∀y∈Yu n,y<256:=by
 intro y hy
 simp only[Yu,Jr,QC,Yj,Xo]at hy
 rcases hy with rfl|⟨-,rfl⟩|⟨i,-,rfl⟩
 ·decide
 ·decide
 ·exact Q9 _ ww
theorem HN(n:Nat):(Yu n).length=9+XH n:=by simp[Yu];omega
theorem uS:Qa 32 (Value.int .u8 0)=u8s (Qa 32 0):=rfl
theorem aQ(va:Option Addr)(rl vc m:Nat)(h:st.length=8):fillL [Value.slice none 0 0,.int .u64 0,.int .u32 0,.int .u32 0,.int .u32 0,.int .u32 0,.int .u32 0,.int .u32 0,.int .u32 0,.int .u32 0] [(0,2,.agg [.slice va rl vc,.int .u64 m].toArray),(2,8,.agg (ns .u32 st).toArray)]=some (XU (.slice va rl vc) m st):=by
 obtain⟨a,b,c,d,e,f,g,i,rfl⟩:=eight h
 rfl
theorem bB{H:List Ob}{all:List Nat}(hh:HshQ K H hid all)(xa:∀y∈all,y<256)(hn:all.length<2^49) :
  ∃H',Z6 T 116 [.pointer hid] H=some (.agg (u8s (VG all)).toArray,H',[])/\(∀i,i<H.length->H'[i]?=H[i]?)/\H.length<=H'.length:=by
 obtain⟨rv,h1,h2⟩:=hh
 have hlt:hid<H.length:=(Qg.1 h1).1
 obtain⟨st,hst⟩:∃s,s=US (all.length/64) all:=⟨_,rfl⟩
 have ls:st.length=8:=by rw[hst];exact Bp _ _
 rw[<-hst]at h1
 obtain⟨G,hG⟩:∃G,G=H++[{c:=u8s (Qa 32 0)},{c:=[]}]:=⟨_,rfl⟩
 have hGl:G.length=H.length+2:=by rw[hG];simp
 have hrG:Rst K G rv (all.drop (64*(all.length/64))):=by rw[hG];exact h2.app
 have heG:G[H.length+1]?=some {c:=[]}:=by rw[hG,Qh qr,Q2];rfl
 have hzG:G[H.length]?=some {c:=u8s (Qa 32 0)}:=by rw[hG,Qh qr,Q7];rfl
 have hhG:G[hid]?=some (XT rv all.length st):=by rw[hG,Qc hlt];exact h1
 obtain⟨v',l,ha,hr',hok,hc1,hc2⟩:=IW (K:=fun i=>i≠H.length+1/\i≠G.length) heG wd wd hrG.len hrG.elems (by rw[QN];omega)
 obtain⟨G2,hG2⟩:∃X,X=G++l++[XT v' all.length st]:=⟨_,rfl⟩
 have hG2l:G2.length=G.length+l.length+1:=by rw[hG2];simp;omega
 obtain⟨xid,hxid⟩:∃x,x=(G++l).length:=⟨_,rfl⟩
 have hxl:xid=G.length+l.length:=by rw[hxid];simp
 have hx2:G2[xid]?=some (XT v' all.length st):=by rw[hG2,hxid,Qh (Qs _),Q7];rfl
 have hh2:G2[hid]?=some (XT rv all.length st):=by
  have:hid<G.length:=qr
  rw[hG2,Qt,Qc this];exact hhG
 obtain⟨s,l3,hp,hgr⟩:=Og hh2 qr
 obtain⟨G4,hG4⟩:∃X,X=G2++l3++[{c:=[s]}]:=⟨_,rfl⟩
 have hG4l:G4.length=G2.length+l3.length+1:=by rw[hG4];simp;omega
 have hgr4:Grown .u8 G2.length G4 s (Yu all.length):=by rw[hG4];exact hgr.app
 obtain⟨K2,hK2⟩:∃K2:Nat->Prop,K2=fun i=>i<G4.length/\i≠xid/\i≠H.length+1/\i≠G.length:=⟨_,rfl⟩
 have hx4:G4[xid]?=some (XT v' all.length st):=by rw[hG4,Qt,Qc qr];exact hx2
 have hsh4:HshQ K2 G4 xid all:=by
  refine⟨v',by rw[<-hst];exact hx4,?_⟩
  have:=(hr'.app (m:=[XT v' all.length st])).app (m:=l3++[{c:=[s]}])
  rw[<-hG2,<-Qt,<-hG4]at this
  exact this.toK fun i hi hk=>by
   rw[hK2]at hk
   exact hi ⟨hk.2.2.1,hk.2.2.2⟩
 have hpz:=GS all.length
 have hpart:HPart K2 G4 s (Yu all.length):=Grown.part hgr4 (fun i h1 h2=>by rw[hK2];exact⟨h2,by omega,by omega,by omega⟩) (Oh _) (by rw[HN];omega) (by rw[HN];omega)
 have harr:(G2++l3).length<G4.length:=by rw[hG4];simp
 have hpv:PV K2 G4 (.slice ((G2++l3).length:Nat) 1 1) [s] := .inr ⟨_,0,1,_,rfl,by rw[hK2];exact⟨harr,by simp;omega,by simp;omega,by simp;omega⟩,by rw[hG4,Qh (Qs _),Q7];rfl,rfl,fun i _=>by rw[QL]⟩
 have hKx:¬K2 xid:=by rw[hK2];intro h;exact h.2.1 rfl
 obtain⟨G5,M5,hw,hsh5,hf5,hl5,hM5⟩:=Hz (fun i hi=>by rw[hK2]at hi;exact hi.1) hKx hsh4 xa hpv (.cons hpart .nil) (by show 1<2^50;decide) (by simp[HN];omega)
 rw[QO,Jh,QG]at hsh5
 obtain⟨rv5,hx5,-⟩:=hsh5
 obtain⟨st5,hst5⟩:∃s,s=US ((all++Yu all.length).length/64) (all++Yu all.length):=⟨_,rfl⟩
 rw[<-hst5]at hx5
 have ls5:st5.length=8:=by rw[hst5];exact Bp _ _
 have xs5:∀y∈st5,y<4294967296:=by rw[hst5];exact Aw _ _
 have hb5:H.length<=G5.length:=qr
 have hsu:=dw (r:=H.length) (base:=H.length) hx5 ls5 (Wo all) (fun i hi=>by simp[VG,hi,hst5]) xs5 hb5
 have hz5:G5[H.length]?=some {c:=u8s (Qa 32 0)}:=by
  rw[hf5 _ (by rw[hK2];exact⟨by omega,by omega,by omega,by omega⟩),hG4,Qt,Qc qr,hG2,Qt,Qc qr]
  exact hzG
 have hfr:∀i,i<H.length->G5[i]?=H[i]? := fun i hi=>by
  rw[hf5 _ (by rw[hK2];exact⟨by omega,by omega,by omega,by omega⟩),hG4,Qt,Qc qr,hG2,Qt,Qc qr,hG,Qc hi]
 have hm5:Q1 H.length [] M5=[]:=QB fun i hi=>by
  have:=hM5 i hi
  rw[hK2]at this
  rcases ZL i H.length with h|h
  ·exact absurd (show i<G4.length/\i≠xid/\i≠H.length+1/\i≠G.length from⟨by omega,by omega,by omega,by omega⟩) this
  ·exact h
 refine⟨(G5++[({c:=u8s (VG all)}:Ob)]).set H.length ({c:=u8s (VG all)}:Ob),?_,fun i hi=>by rw[Qu qr,Qc qr];exact hfr i hi,by rw[Q4,Qj];omega⟩
 have hz:=uS
 have lz:(Qa 32 0).length=32:=Qe
 have lsh:=Wo all
 have cst:=al (rv:=rv) (n:=all.length) ls
 have c0:(XU rv all.length st)[0]?=some rv:=rfl
 have c1:(XU rv all.length st)[1]?=some (.int .u64 all.length):=rfl
 have hcl8:2+8<=(XU rv all.length st).length:=by rw[Hb];omega
 obtain⟨va,vc,rfl⟩:=hr'.shape
 generalize(all.drop (64*(all.length/64))).length=rl at *
 have fl1:fillL [Value.slice none 0 0,.int .u64 0] [(0,1,.slice va rl vc),(1,1,.int .u64 all.length)]=some [.slice va rl vc,.int .u64 all.length]:=rfl
 have fl2:=aQ va rl vc all.length ls
 have fls:fillL [Value.slice none 0 0] [(0,1,s)]=some [s]:=by
  obtain⟨sa,sc,hsh⟩:=hpart.shape
  rw[hsh];rfl
 have f0:fillL [] []=some []:=rfl
 have F1:H++[{c:=u8s (Qa 32 0)},{c:=[]}]=G:=hG.symm
 have Fx:G.length+l.length=xid:=hxl.symm
 have F2:G++(l++[{c:=XU (.slice va rl vc) all.length st}])=G2:=by rw[hG2,Qt];rfl
 have F4:G2++(l3++[{c:=[s]}])=G4:=by rw[hG4,Qt]
 have g1:G[hid]?=some {c:=XU rv all.length st}:=hhG
 have g2:(G++l)[hid]?=some {c:=XU rv all.length st}:=by rw[Qc qr];exact hhG
 have g5:∀o:Ob,(G5++[o])[H.length]?=some {c:=u8s (Qa 32 0)}:=fun o=>by rw[Qc qr];exact hz5
 have g6:∀o o':Ob,((G5++[o]).set H.length o')[H.length]?=some o':=fun o o'=>Qw (by rw[Qj];omega)
 have okcl:(XU (.slice va rl vc) all.length st).all Z7=true:=by
  show(Z7 (.slice va rl vc)&&(Z7 (.int .u64 all.length)&&(ns .u32 st).all Z7))=true
  have:(ns .u32 st).all Z7=true:=by
   rw[ZX];intro y hy
   simp only[ns,Xo]at hy
   obtain⟨m,-,rfl⟩:=hy;rfl
  rw[this];rfl
 rw[Qj]at hw
 simp only[Si,Qn,Ql,QA]at hsu
 have hge:H.length<=H.length+1:=qr
 generalize XU rv all.length st=C1,XU (.slice va rl vc) all.length st=C2,VG all=R,Qa 32 0=Z64 at *
 rw[QY (fn:=y6) rfl]
 simp only[y6,Qr,quiet,cW,↓pW,reduceCtorEq,seval,-Qb,hz,f0,F1,g1,g2,c0,c1,ha,fl1,cst,hcl8,Qy,Q5,Za,Q6,fl2,Fx,F2,hp,fls,F4,hw,hm5,hsu,g5,g6,Qq,lz,lsh,Qx,Qe]
theorem FV(hp:PV (fun i=>i<H.length) H pv xs)(hP:HParts (fun i=>i<H.length) H xs ps)(hn:xs.length<2^50)(hb:ps.flatten.length<2^49) :
  ∃l,Z6 T 58 [pv] H=some (.agg (u8s (VG ps.flatten)).toArray,H++l,[]):=by
 obtain⟨H1,hH1⟩:∃X,X=H++[{c:=u8s (Qa 32 0)},XT (.slice none 0 0) 0 XL]:=⟨_,rfl⟩
 have hl1:H1.length=H.length+2:=by rw[hH1];simp
 have hg1:H1[H.length+1]?=some (XT (.slice none 0 0) 0 XL):=by rw[hH1,Qh qr,Q2];rfl
 have hz1:H1[H.length]?=some {c:=u8s (Qa 32 0)}:=by rw[hH1,Qh qr,Q7];rfl
 have hf1:∀i,i<H.length->H1[i]?=H[i]? := fun i hi=>by rw[hH1,Qc hi]
 have hp1:PV (fun i=>i<H.length+1) H1 pv xs:=by
  rcases hp with h|⟨pid,off,cap,o,h1,h2,h3,h4,h5⟩
  ·exact .inl h
  ·exact .inr ⟨pid,off,cap,o,h1,Y3 h2,(hf1 _ h2).trans h3,h4,h5⟩
 have hP1:HParts (fun i=>i<H.length+1) H1 xs ps:=by
  clear hn hb hp hp1
  induction hP with
  |nil=>exact .nil
  |cons a _ ih=>exact .cons ⟨a.shape,fun G hG=>a.reads G fun i hi=>(hG i (Y3 hi)).trans (hf1 i hi),a.lt,a.le⟩ ih
 obtain⟨H2,M2,hw,s2,f2,l2,m2⟩:=Hz (K:=fun i=>i<H.length+1) (hid:=H.length+1) (fun i hi=>by have:i<H.length+1:=hi;omega) (We _) (OE hg1) wd hp1 hP1 hn (by rw[Ql];omega)
 rw[Ql]at s2
 obtain⟨H3,hs3,f3,l3⟩:=bB s2 hP.lt hb
 have hm2:Q1 H.length [] M2=[]:=QB fun i hi=>by
  have:¬i<H.length+1:=m2 i hi
  omega
 have g3:H3[H.length]?=some {c:=u8s (Qa 32 0)}:=by
  rw[f3 _ qr,f2 _ (Ml _)];exact hz1
 have hfr:∀i,i<H.length->(H3.set H.length ({c:=u8s (VG ps.flatten)}:Ob))[i]?=H[i]? := fun i hi=>by
  rw[Qu qr,f3 _ qr,f2 _ (Y3 hi)];exact hf1 i hi
 have hle:H.length<=(H3.set H.length ({c:=u8s (VG ps.flatten)}:Ob)).length:=by rw[Q4];omega
 obtain⟨l,hl⟩:=XG hle hfr
 refine⟨l,?_⟩
 rw[<-hl]
 have hz:=uS
 have lz:(Qa 32 0).length=32:=Qe
 have lsh:=Wo ps.flatten
 have hnew:=bY (H++[{c:=u8s (Qa 32 0)}])
 have e1:(H++[({c:=u8s (Qa 32 0)}:Ob)]).length=H.length+1:=by simp
 rw[e1,Qt,Qn,Ql,<-hH1]at hnew
 have g4:∀o:Ob,(H3.set H.length o)[H.length]?=some o:=fun o=>Qw qr
 generalize VG ps.flatten=R,Qa 32 0=Z64 at *
 rw[QY (fn:=yF) rfl]
 simp only[yF,Qr,quiet,cW,↓pW,reduceCtorEq,seval,-Qb,hz,hnew,hw,hm2,hs3,g3,g4,Qy,Q5,Za,Q6,Qq,lz,lsh,Qx,Qe]
theorem vk:evVal T 183 [.int .i64 32]=some (.int .u64 4294967296):=Ud (n:=32) ww
theorem MN(x:Nat):evVal T 184 [.int .u64 x,.int .i64 32]=some (.int .u64 ((x%4294967296:Nat):Int)):=by
 have h1:=vk
 have w1:(x:Int).tmod 4294967296=((x%4294967296:Nat):Int):=rfl
 generalize x%4294967296=r at *
 apply QE (fn:=pS) rfl
 simp only[pS,Qr,quiet,cW,↓pW,reduceCtorEq,seval,-Qb,h1,w1]
 rfl
theorem Wg(hx:x<4294967296)(hr:0<r)(hr':r<=31):evVal T 182 [.int .u64 x,.int .i64 r,.int .i64 32]=some (.int .u64 (Ja x r:Nat)):=by
 have h1:=Ud (n:=r) qr
 have h2:=Ud (n:=32-r) qr
 have hsub:IntKind.i64.wrap (32-(r:Int))=((32-r:Nat):Int):=by rw[show(32:Int)-(r:Int)=((32-r:Nat):Int) by omega];exact ZB qr
 have hp:0<2^r:=JT ww
 have hz:(((2^r:Nat):Int)=0)=False:=wr
 have hd:IntKind.u64.wrap ((x:Int).tdiv ((2^r:Nat):Int))=((x/2^r:Nat):Int):=by rw[div64,UC,Qv (Jc (Jx _ _) qr)]
 have hr2:(x:Int).tmod ((2^r:Nat):Int)=((x%2^r:Nat):Int):=rfl
 have e:(4294967296:Nat)=2^r*2^(32-r):=by rw[<-JI,show r+(32-r)=32 by omega]
 have hmm:x*2^(32-r)%4294967296=(x%2^r)*2^(32-r):=by rw[e,Yx]
 have hml:(x%2^r)*2^(32-r)<4294967296:=by rw[<-hmm];exact Q9 _ ww
 have hm:IntKind.u64.wrap (((x%2^r:Nat):Int)*((2^(32-r):Nat):Int))=((x%2^r*2^(32-r):Nat):Int):=by rw[<-JN];exact Kz qr
 have hrot:x/2^r+x%2^r*2^(32-r)=Ja x r:=by rw[<-hmm];rfl
 have hl:=Xz hx hr hr'
 have ha:IntKind.u64.wrap (((x/2^r:Nat):Int)+((x%2^r*2^(32-r):Nat):Int))=((Ja x r:Nat):Int):=by
  rw[W6,hrot,Qv qr]
 clear e hmm hml hrot hl
 generalize Ja x r=R at *
 generalize x%2^r*2^(32-r)=M at *
 generalize x%2^r=M2 at *
 generalize x/2^r=D at *
 generalize 2^(32-r)=A at *
 generalize 2^r=B at *
 generalize 32-r=q at *
 apply QE (fn:=pT) rfl
 simp only[pT,Qr,quiet,cW,↓pW,reduceCtorEq,seval,-Qb,h1,h2,hsub,hz,hd,hr2,hm,ha]
 rfl
theorem bg{e f g:Nat}(he:e<2^32):(e&&&f)|||((2^32-1-e)&&&g)=(e&&&f)^^^(((2^32-1)^^^e)&&&g):=by
 apply Ao
 intro i
 have h1:(2^32-1-e).testBit i=(decide (i<32) && !e.testBit i):=by
  rw[show 2^32-1-e=2^32-(e+1) by omega,Nat.testBit_two_pow_sub_succ he]
 have h2:((2^32-1)^^^e).testBit i=(decide (i<32) ^^ e.testBit i):=by
  rw[BP,Nat.testBit_two_pow_sub_one]
 have h3:e.testBit i=true->i<32:=fun h=>by
  rcases ZL i 32 with k|k
  ·exact k
  ·rw[Nat.testBit_lt_two_pow (QM he (Zo ww k))]at h;cases h
 rw[Gw,BP,Yp,Yp,Yp,h1,h2]
 cases he':e.testBit i<;>cases f.testBit i<;>cases g.testBit i<;>simp_all
theorem pg{e f g:Nat}(he:e<4294967296):(e&&&f)|||((4294967295-e)&&&g)=KV e f g:=bg (e:=e) (f:=f) (g:=g) he
theorem sN(a b c:Nat):(a&&&b)|||(a&&&c)|||(b&&&c)=Bd a b c:=nk a b c
end Go.Ev.YtoipgdjfhahimaaGreat
namespace Go.Ev.YtoipgdjfhahimaaGreat
open Go Go.Ev
attribute [local congr] JE JW JD JX Jz
set_option maxRecDepth 100000
variable{B tid u at_ i sid kid L N n vid w q:Nat}{sv sh s tb s0:Value}{Hm Hc H0:List Ob}{x3 x4 x1 x2:Bool}{b st bs C v:List Nat}
def KW(sv:Value):List Value:=[.int .i64 32,.int .i64 64,.int .i64 64,sv,.int .i64 7,.int .i64 18,.int .i64 3,.int .i64 17,.int .i64 19,.int .i64 10,.int .i64 2,.int .i64 13,.int .i64 22,.int .i64 6,.int .i64 11,.int .i64 25]
theorem vR(sv:Value):(KW sv)[0]?=some (.int .i64 32):=rfl
theorem RK(sv:Value):(KW sv)[1]?=some (.int .i64 64):=rfl
theorem kd(sv:Value):(KW sv)[2]?=some (.int .i64 64):=rfl
theorem vQ(sv:Value):(KW sv)[3]?=some sv:=rfl
theorem NM(sv:Value):(KW sv).length=16:=rfl
def Lp(B:Nat)(x s:Value)(Hc:List Ob)(ex:Env):St:=⟨[(0,x),(3,.pointer B),(5,.int .i64 4),(6,s)]++ex,Hc,[]⟩
theorem dD{x:Value}{H1 Hc0:List Ob}(hBN:B<N)(hh:H1[B]?=some {c:=KW sv})(hn:bs.length<2^46)(hg0:Grown .u8 N Hc0 s0 (bs++[128]))(hL0:N<=Hc0.length)(hF0:∀i,i<N->Hc0[i]?=H1[i]?) :
  ∃s Hc,Q0 T B (.block 0 (.loop WE)) (Lp B x s0 Hc0 [])=some (.normal,Lp B x s Hc [(48,.bool false)])/\Grown .u8 N Hc s (bs++128::Qa (XH bs.length) 0)/\N<=Hc.length/\∀i,i<N->Hc[i]?=H1[i]? := by
 have f0:fillL [Value.int .u8 0] [(0,1,.int .u8 0)]=some [.int .u8 0]:=rfl
 have c2:=kd sv
 have hz:=GS bs.length
 obtain⟨st,hb,s,Hc,rfl,hg,hL,hF⟩:=Zh (T:=T) (base:=B) (id:=0) (body:=WE)
  (fun j st=>∃s Hc,st=Lp B x s Hc []/\Grown .u8 N Hc s (bs++128::Qa j 0)/\N<=Hc.length/\∀i,i<N->Hc[i]?=H1[i]?)
  (Q:=fun st=>∃s Hc,st=Lp B x s Hc [(48,.bool false)]/\Grown .u8 N Hc s (bs++128::Qa (XH bs.length) 0)/\N<=Hc.length/\∀i,i<N->Hc[i]?=H1[i]?)
  (XH bs.length) (s:=Lp B x s0 Hc0 []) ⟨_,_,rfl,hg0,hL0,hF0⟩
  (fun j st hj hs=>by
   obtain⟨s,Hc,rfl,hg,hL,hF⟩:=hs
   have hl:=hg.len
   have e1:(bs++128::Qa j 0).length=bs.length+(1+j):=by simp;omega
   rw[e1]at hl
   obtain⟨s',H',M,h1,h2,h3,h4,h5⟩:=VX (x:=0) (bytes:=1) hg hL (by rw[e1];omega) ww
   have hm:Q1 B [] M=[]:=QB fun i hi=>by have:=h3 i hi;omega
   have hget:Hc[B]?=some {c:=KW sv}:=(hF B hBN).trans hh
   have w3:IntKind.i64.wrap (((bs.length+(1+j):Nat):Int)+8)=((bs.length+(1+j)+8:Nat):Int):=Z3 (b:=8) qr
   have w4:((bs.length+(1+j)+8:Nat):Int).tmod 64=(((bs.length+(1+j)+8)%64:Nat):Int):=rfl
   have w5:((((bs.length+(1+j)+8)%64:Nat):Int) != 0)=true:=bne_iff_ne.2 (by have:=MC bs.length j hj;omega)
   refine⟨Lp B x s' H' [],?_,s',H',rfl,by rw[Km,<-Qn,<-Qt];exact h2,h4,fun i hi=>by rw[h5 i hi,hF i hi]⟩
   simp only[QA]at h1
   generalize(bs.length+(1+j)+8)%64=r at *
   generalize bs.length+(1+j)+8=r2 at *
   generalize bs.length+(1+j)=r3 at *
   generalize KW sv=sc at *
   simp only[Lp,WE,Qr,quiet,cW,↓pW,reduceCtorEq,seval,-Qb,hget,c2,hl,w3,w4,w5,f0,h1,hm])
  (fun st hs=>by
   obtain⟨s,Hc,rfl,hg,hL,hF⟩:=hs
   have hl:=hg.len
   have e1:(bs++128::Qa (XH bs.length) 0).length=bs.length+(1+XH bs.length):=by simp;omega
   rw[e1]at hl
   have hget:Hc[B]?=some {c:=KW sv}:=(hF B hBN).trans hh
   have w3:IntKind.i64.wrap (((bs.length+(1+XH bs.length):Nat):Int)+8)=((bs.length+(1+XH bs.length)+8:Nat):Int):=Z3 (b:=8) qr
   have w4:((bs.length+(1+XH bs.length)+8:Nat):Int).tmod 64=0:=by
    have:((bs.length+(1+XH bs.length)+8:Nat):Int).tmod 64=(((bs.length+(1+XH bs.length)+8)%64:Nat):Int):=rfl
    rw[this,RV];rfl
   refine⟨_,?_,s,Hc,rfl,hg,hL,hF⟩
   generalize bs.length+(1+XH bs.length)+8=r2 at *
   generalize bs.length+(1+XH bs.length)=r3,KW sv=sc at *
   simp only[Lp,WE,Qr,quiet,cW,↓pW,reduceCtorEq,seval,-Qb,hget,c2,hl,w3,w4])
 exact⟨s,Hc,hb,hg,hL,hF⟩
def RR(B:Nat)(s:Value)(Hm:List Ob)(C:List Nat)(m:Nat)(iv:Int)(ex:Env):St:=⟨[(3,.pointer B),(5,.int .i64 4),(6,s),(7,.slice Hm.length 8 8),(8,.int .u64 m),(9,.int .i64 iv)]++ex,Hm++[{c:=u8s C}],[]⟩
theorem dY(hB:B<=Hm.length)(lC:C.length=8)(hn:n<18446744073709551616) :
  Q0 T B Vk (RR B s Hm C n 7 [])=some (.normal,RR B s Hm (C.set 7 (VN n 7)) (n/32) 6 []):=by
 have w1:(n:Int).tmod 32=((n%32:Nat):Int):=rfl
 have w2:IntKind.u64.wrap (((n%32:Nat):Int)*8)=((n%32*8:Nat):Int):=by
  rw[show((n%32:Nat):Int)*8=((n%32*8:Nat):Int) from(JN _ _).symm,UC,Qv qr]
 have hp:VN n 7=n%32*8:=by
  unfold VN
  rw[show 7-7=0 from rfl,ZN,J1]
  omega
 have w3:IntKind.u8.wrap ((n%32*8:Nat):Int)=((n%32*8:Nat):Int):=by rw[Bb,Qv qr]
 have w4:IntKind.u64.wrap ((n:Int).tdiv 32)=((n/32:Nat):Int):=by rw[show((n:Int).tdiv 32)=((n/32:Nat):Int) from rfl,UC,Qv qr]
 have hset:=Xc C 7 (n%32*8)
 have im:Q1 B [] [Hm.length]=[]:=QB (by simp;omega)
 have hl:7+1<=(u8s C).length:=by rw[Qq,lC];decide
 rw[hp]
 generalize n%32*8=d at *
 generalize n%32=r at *
 generalize n/32=m at *
 simp only[RR,Vk,Qr,quiet,cW,↓pW,reduceCtorEq,seval,-Qb,w1,w2,w3,w4,hset,im,hl]
theorem kZ{k:Nat}(hB:B<=Hm.length)(lC:C.length=8)(hk:k<7)(hn:n<18446744073709551616) :
  Q0 T B Vk (RR B s Hm C n (k:Nat) [])=some (.normal,RR B s Hm (C.set k (n%256)) (n/256) ((k:Int)-1) []):=by
 have w1:(n:Int).tmod 256=((n%256:Nat):Int):=rfl
 have w3:IntKind.u8.wrap ((n%256:Nat):Int)=((n%256:Nat):Int):=by rw[Bb,Kl]
 have w4:IntKind.u64.wrap ((n:Int).tdiv 256)=((n/256:Nat):Int):=by rw[show((n:Int).tdiv 256)=((n/256:Nat):Int) from rfl,UC,Qv qr]
 have w5:IntKind.i64.wrap ((k:Int)-1)=(k:Int)-1:=QU qr qr
 have e1:(0<=(k:Int))=True:=wf
 have e2:((k:Int)==7)=false:=beq_eq_false_iff_ne.2 qr
 have e3:((k:Int)<8)=True:=wf
 have hset:=Xc C k (n%256)
 have im:Q1 B [] [Hm.length]=[]:=QB (by simp;omega)
 have hl:k+1<=(u8s C).length:=by rw[Qq,lC];omega
 generalize n%256=d at *
 generalize n/256=m at *
 simp only[RR,Vk,Qr,quiet,cW,↓pW,reduceCtorEq,seval,-Qb,w1,w3,w4,w5,e1,e2,e3,hset,im,hl]
theorem dZ(hB:B<=Hm.length)(hn:n<2^46) :
  Q0 T B (.block 2 (.loop Vk)) (RR B s Hm (Qa 8 0) n 7 [])=some (.normal,RR B s Hm ((ZH 8).map (VN n)) (8*n/256^8) (-1) [(62,.bool false)]):=by
 obtain⟨st,hb,C,rfl,lC,hC⟩:=Zh (T:=T) (base:=B) (id:=2) (body:=Vk)
  (fun j st=>∃C m,st=RR B s Hm C m ((7:Int)-(j:Nat)) []/\C.length=8/\(m=if j=0 then n else 8*n/256^j)/\∀i,8<=i+j->i<8->C[i]?=some (VN n i))
  (Q:=fun st=>∃C,st=RR B s Hm C (8*n/256^8) (-1) [(62,.bool false)]/\C.length=8/\∀i,i<8->C[i]?=some (VN n i))
  8 (s:=RR B s Hm (Qa 8 0) n 7 []) ⟨_,_,rfl,rfl,rfl,fun i h1 h2=>by omega⟩
  (fun j st hj hs=>by
   obtain⟨C,m,rfl,lC,hm,hC⟩:=hs
   rcases Jo j with h0|h0
   ·subst h0
    rw[if_pos rfl]at hm
    subst hm
    refine⟨_,dY hB lC qr,_,_,rfl,by rw[Q4];exact lC,by rw[if_neg ww,QL,zh];omega,fun i h1 h2 =>?_⟩
    have:i=7:=qr
    subst this
    rw[Qw qr]
   ·rw[if_neg qr]at hm
    subst hm
    have e:((7:Int)-(j:Nat))=((7-j:Nat):Int):=qr
    have hlt:8*n/256^j<18446744073709551616:=Jc (Jx _ _) qr
    have hp:VN n (7-j)=8*n/256^j%256:=by unfold VN;rw[show 7-(7-j)=j by omega]
    have hd:8*n/256^j/256=8*n/256^(j+1):=by rw[QV,Zj]
    have hbd:=kZ (s:=s) hB lC (k:=7-j) qr hlt
    rw[<-e,<-hp,hd]at hbd
    refine⟨_,hbd,_,_,by rw[show(7:Int)-(j:Nat)-1=(7:Int)-((j+1:Nat):Int) by omega],by rw[Q4];exact lC,by rw[if_neg qr],fun i h1 h2 =>?_⟩
    by_cases h:i=7-j
    ·subst h;rw[Qw qr]
    ·rw[Qu qr];exact hC i qr h2)
  (fun st hs=>by
   obtain⟨C,m,rfl,lC,hm,hC⟩:=hs
   rw[if_neg ww]at hm
   refine⟨_,?_,C,rfl,lC,fun i hi=>hC i qr hi⟩
   subst hm
   generalize 8*n/256^8=m at *
   simp only[RR,Vk,Qr,quiet,cW,↓pW,reduceCtorEq,seval,-Qb])
 have:C=(ZH 8).map (VN n):=ZW fun i=>by
  by_cases h:i<8
  ·rw[hC i h];simp[h]
  ·rw[QI qr,QI (by simp;omega)]
 rw[<-this]
 exact hb
def YB:List Value:=[.int .i64 7,.int .i64 18,.int .i64 3,.int .i64 17,.int .i64 19,.int .i64 10,.int .i64 2,.int .i64 13,.int .i64 22,.int .i64 6,.int .i64 11,.int .i64 25]
def NR(B tid L:Nat)(tb sv:Value)(u at_ q:Nat)(i:Int):Env:=[(3,.pointer B),(5,.int .i64 4),(6,.slice tid L L),(10,tb),(11,sv),(12,.int .i64 32),(13,.pointer u),(14,.int .i64 at_),(15,.slice q 64 64),(16,.int .i64 i)]
def BZ(B tid L:Nat)(tb sv:Value)(u at_:Nat)(Hm:List Ob)(W:List Nat)(i:Int)(ex:Env):St:=⟨NR B tid L tb sv u at_ Hm.length i++ex,Hm++[{c:=ns .u64 W}],[]⟩
theorem ed{all:List Nat}(hB:B<=Hm.length)(ht:Hm[tid]?=some ⟨u8s all,true,true,x4,1⟩)(hL:all.length<2^50)(hb:∀j,j<64->all[at_+j]?=b[j]?)(hbl:b.length=64)(hx:∀y∈b,y<256)(hat:at_+64<=all.length)(hi:i<16) :
  Q0 T B (.block 8 (.loop WG)) (BZ B tid all.length tb sv u at_ Hm (pf 64 (Jv b) i) i [(17,.int .i64 0)])=some (.normal,BZ B tid all.length tb sv u at_ Hm (pf 64 (Jv b) (i+1)) i [(17,.int .i64 4),(120,.bool false)]):=by
 have hWl:=Yb b
 have h8:((b.drop (4*i)).take 4).length=4:=by rw[Q3,QN];omega
 have hz:=DQ (L:=Jv b) (by omega:i<64) hWl
 have hpl:=Kd hWl (by omega:i<=64)
 have MP:(pf 64 (Jv b) i).set i (be [])=pf 64 (Jv b) i:=AR hz
 have hW:=DE (b:=b) hi
 have hstep:=XD hWl (by omega:i<64) hW
 have h:=ZR (T:=T) (base:=B) (id:=8) (body:=WG) (fun j=>BZ B tid all.length tb sv u at_ Hm ((pf 64 (Jv b) i).set i (be (((b.drop (4*i)).take 4).take j))) i [(17,.int .i64 j)]) (s':=BZ B tid all.length tb sv u at_ Hm (pf 64 (Jv b) (i+1)) i [(17,.int .i64 4),(120,.bool false)]) 4
  (fun j hj=>by
   obtain⟨x,hxj⟩:∃x,((b.drop (4*i)).take 4)[j]?=some x:=⟨_,Qf qr⟩
   have hxb:b[4*i+j]?=some x:=by
    rw[QW,if_pos hj,Zp]at hxj;exact hxj
   have hx':=hx x (Qo hxb)
   have hxa:(u8s all)[at_+4*i+j]?=some (.int .u8 (x:Nat)):=Js (by rw[show at_+4*i+j=at_+(4*i+j) by omega,hb _ qr];exact hxb)
   have hbel:=IU j (((b.drop (4*i)).take 4).take j) (by rw[Q3];omega) (fun y hy=>hx y (ZF (QP (QP hy))))
   have hbes:be (((b.drop (4*i)).take 4).take (j+1))=be (((b.drop (4*i)).take 4).take j)*256+x:=by rw[Zx,hxj];exact A9 _ _
   rw[hbes]
   have h256:(256:Nat)^j<=256^7:=Zo ww qr
   have e7:(256:Nat)^7=72057594037927936:=ww
   rw[e7]at h256
   generalize be (((b.drop (4*i)).take 4).take j)=a at *
   have hg:((pf 64 (Jv b) i).set i a)[i]?=some a:=by rw[Qw (by rw[hpl];omega)]
   have hgc:=ZJ (k := .u64) hg
   have hss:=Xt .u64 ((pf 64 (Jv b) i).set i a) i (a*256+x)
   rw[Yh]at hss
   have hln:((pf 64 (Jv b) i).set i a).length=64:=by rw[Q4];exact hpl
   have w1:IntKind.i64.wrap ((j:Int)+1)=((j+1:Nat):Int):=Z3 (b:=1) qr
   have w2:IntKind.u64.wrap (x:Int)=(x:Int):=Kz qr
   have w3:IntKind.u64.wrap ((a:Int)*256)=((a*256:Nat):Int):=by
    rw[show(a:Int)*256=((a*256:Nat):Int) from(JN _ _).symm];exact Kz qr
   have w4:IntKind.u64.wrap (((a*256:Nat):Int)+(x:Int))=((a*256+x:Nat):Int):=by
    rw[<-Jm];exact Kz qr
   have w5:IntKind.i64.wrap (4*(i:Int))=((4*i:Nat):Int):=ZB (n:=4*i) qr
   have w6:IntKind.i64.wrap ((at_:Int)+((4*i:Nat):Int))=((at_+4*i:Nat):Int):=Z3 qr
   have w7:IntKind.i64.wrap (((at_+4*i:Nat):Int)+(j:Int))=((at_+4*i+j:Nat):Int):=Z3 qr
   have e1:((j:Int)<4)=True:=wf
   have e2:((i:Int)<64)=True:=wf
   have e3:(((at_+4*i+j:Nat):Int)<((all.length:Nat):Int))=True:=wf
   have hget:(Hm++[{c:=ns .u64 ((pf 64 (Jv b) i).set i a)}])[tid]?=some ⟨u8s all,true,true,x4,1⟩:=by rw[Qc (Qg.1 ht).1];exact ht
   have hle:i+1<=(ns .u64 ((pf 64 (Jv b) i).set i a)).length:=by rw[Q8,hln];omega
   have im:Q1 B [] [Hm.length]=[]:=QB (by simp;omega)
   generalize(pf 64 (Jv b) i).set i a=O1,(pf 64 (Jv b) i).set i (a*256+x)=O2 at *
   generalize hv:a*256+x=v at *
   generalize a*256=v2 at *
   generalize hoo:at_+4*i+j=oo at *
   generalize at_+4*i=o2 at *
   generalize 4*i=o3 at *
   generalize all.length=LL at *
   generalize j+1=j1 at *
   simp only[BZ,NR,WG,Qr,quiet,cW,↓pW,reduceCtorEq,seval,-Qb,e1,e2,e3,w1,w2,w3,w4,w5,w6,w7,hget,hxa,hgc,hss,hle,im])
  (by
   have e8:((b.drop (4*i)).take 4).take 4=(b.drop (4*i)).take 4:=by rw[gZ,uO]
   rw[e8,hstep]
   generalize pf 64 (Jv b) (i+1)=O2 at *
   simp only[BZ,NR,WG,Qr,quiet,cW,↓pW,reduceCtorEq,seval,-Qb])
 rw[Xi,MP]at h
 exact h
theorem N6:YB.length=12:=rfl
theorem Yl(h:n<4294967296):n<18446744073709551616:=qr
theorem p3_v:evVal T 183 [.int .i64 3]=some (.int .u64 8):=Ud (n:=3) ww
theorem p10_v:evVal T 183 [.int .i64 10]=some (.int .u64 1024):=Ud (n:=10) ww
theorem lW(hB:B<Hm.length)(hS:Hm[B]?=some {c:=KW sh})(hU:Hm[u]?=some {c:=YB})(hb:∀x∈b,x<256)(hi:16<=i)(hi':i<64) :
  Q0 T B Vl (BZ B tid L tb sv u at_ Hm (pf 64 (Jv b) i) i [])=some (.normal,BZ B tid L tb sv u at_ Hm (pf 64 (Jv b) (i+1)) ((i+1:Nat):Int) []):=by
 have hWl:=Yb b
 have hW:=DD (b:=b) hi hi'
 have hstep:=XD hWl hi' hW
 have hpl:=Kd hWl (J0 hi')
 obtain⟨x,hx⟩:∃x,(Jv b)[i-15]?=some x:=⟨_,Qf qr⟩
 obtain⟨y,hy⟩:∃x,(Jv b)[i-2]?=some x:=⟨_,Qf qr⟩
 obtain⟨w,hu⟩:∃x,(Jv b)[i-16]?=some x:=⟨_,Qf qr⟩
 obtain⟨v,hv⟩:∃x,(Jv b)[i-7]?=some x:=⟨_,Qf qr⟩
 have lx:=WW hb hx
 have ly:=WW hb hy
 have cx:=ZJ (k := .u64) ((Ym (n:=64) (by omega:i-15<i) qr).trans hx)
 have cy:=ZJ (k := .u64) ((Ym (n:=64) (by omega:i-2<i) qr).trans hy)
 have cu:=ZJ (k := .u64) ((Ym (n:=64) (by omega:i-16<i) qr).trans hu)
 have cv:=ZJ (k := .u64) ((Ym (n:=64) (by omega:i-7<i) qr).trans hv)
 rw[JQ hx,JQ hy,JQ hu,JQ hv]at hstep
 have r1:evVal T 182 [.int .u64 x,.int .i64 7,.int .i64 32]=some (.int .u64 (Ja x 7:Nat)):=Wg (r:=7) lx ww ww
 have r8:evVal T 182 [.int .u64 x,.int .i64 18,.int .i64 32]=some (.int .u64 (Ja x 18:Nat)):=Wg (r:=18) lx ww ww
 have r19:evVal T 182 [.int .u64 y,.int .i64 17,.int .i64 32]=some (.int .u64 (Ja y 17:Nat)):=Wg (r:=17) ly ww ww
 have r61:evVal T 182 [.int .u64 y,.int .i64 19,.int .i64 32]=some (.int .u64 (Ja y 19:Nat)):=Wg (r:=19) ly ww ww
 have b1:=Xz (r:=7) lx ww ww
 have b8:=Xz (r:=18) lx ww ww
 have b19:=Xz (r:=17) ly ww ww
 have b61:=Xz (r:=19) ly ww ww
 have b7:x/2^3<4294967296:=Ra lx
 have b6:y/2^10<4294967296:=Ra ly
 have x2:evVal T 181 [.int .u64 (Ja x 7:Nat),.int .u64 (Ja x 18:Nat),.int .u64 (x/2^3:Nat)]=some (.int .u64 (YV x:Nat)):=UD (Yl b1) (Yl b8) (Yl b7)
 have y2:evVal T 181 [.int .u64 (Ja y 17:Nat),.int .u64 (Ja y 19:Nat),.int .u64 (y/2^10:Nat)]=some (.int .u64 (Bt y:Nat)):=UD (Yl b19) (Yl b61) (Yl b6)
 have p7:=p3_v
 have p6:=p10_v
 have s7:IntKind.u64.wrap ((x:Int).tdiv 8)=((x/2^3:Nat):Int):=Kz (Yl b7)
 have s6:IntKind.u64.wrap ((y:Int).tdiv 1024)=((y/2^10:Nat):Int):=Kz (Yl b6)
 have gx:YV x<4294967296:=Ka (Ka b1 b8) b7
 have gy:Bt y<4294967296:=Ka (Ka b19 b61) b6
 have lu:=WW hb hu
 have lv:=WW hb hv
 have m1:IntKind.u64.wrap ((w:Int)+(YV x:Int))=((w+YV x:Nat):Int):=by rw[<-Jm];exact Kz qr
 have m2:IntKind.u64.wrap (((w+YV x:Nat):Int)+(v:Int))=((w+YV x+v:Nat):Int):=by rw[<-Jm];exact Kz qr
 have m3:IntKind.u64.wrap (((w+YV x+v:Nat):Int)+(Bt y:Int))=((w+YV x+v+Bt y:Nat):Int):=by rw[<-Jm];exact Kz qr
 have hsum:(w+YV x+v+Bt y)%4294967296=(w+v+YV x+Bt y)%4294967296:=qr
 have kp:=MN (w+YV x+v+Bt y)
 rw[hsum]at kp
 have hset:=Xt .u64 (pf 64 (Jv b) i) i ((w+v+YV x+Bt y)%4294967296)
 rw[hstep]at hset
 have e1:((i:Int)<64)=True:=wf
 have e2:((i:Int)<16)=False:=wr
 have i15:IntKind.i64.wrap ((i:Int)-15)=((i-15:Nat):Int):=by rw[QU qr qr];omega
 have i2:IntKind.i64.wrap ((i:Int)-2)=((i-2:Nat):Int):=by rw[QU qr qr];omega
 have i16:IntKind.i64.wrap ((i:Int)-16)=((i-16:Nat):Int):=by rw[QU qr qr];omega
 have i7:IntKind.i64.wrap ((i:Int)-7)=((i-7:Nat):Int):=by rw[QU qr qr];omega
 have j15:(((i-15:Nat):Int)<64)=True:=wf
 have j2:(((i-2:Nat):Int)<64)=True:=wf
 have j16:(((i-16:Nat):Int)<64)=True:=wf
 have j7:(((i-7:Nat):Int)<64)=True:=wf
 have w3:IntKind.i64.wrap ((i:Int)+1)=((i+1:Nat):Int):=Z3 (b:=1) qr
 have hle:i+1<=(ns .u64 (pf 64 (Jv b) i)).length:=by rw[Q8,hpl];omega
 have im:Q1 B [] [Hm.length]=[]:=QB (by simp;omega)
 have gS:∀m:List Ob,(Hm++m)[B]?=some {c:=KW sh}:=fun m=>by rw[Qc hB];exact hS
 have gU:∀m:List Ob,(Hm++m)[u]?=some {c:=YB}:=fun m=>by rw[Qc (Qg.1 hU).1];exact hU
 have c1:=RK sh
 have t0:YB[0]?=some (.int .i64 7):=rfl
 have t1:YB[1]?=some (.int .i64 18):=rfl
 have t2:YB[2]?=some (.int .i64 3):=rfl
 have t3:YB[3]?=some (.int .i64 17):=rfl
 have t4:YB[4]?=some (.int .i64 19):=rfl
 have t5:YB[5]?=some (.int .i64 10):=rfl
 clear gx gy lu lv hsum hstep hW hx hy hu hv hWl hS hU
 generalize pf 64 (Jv b) i=O1,pf 64 (Jv b) (i+1)=O2,(w+v+YV x+Bt y)%4294967296=z,w+YV x+v+Bt y=z1 at *
 generalize w+YV x+v=z2 at *
 generalize w+YV x=z3 at *
 generalize YV x=gx,Bt y=gy,Ja x 7=x1v,Ja x 18=x8v,Ja y 17=y19v,Ja y 19=y61v at *
 generalize x/2^3=x7v at *
 generalize y/2^10=y6v at *
 generalize i-15=k15 at *
 generalize i-2=k2 at *
 generalize i-16=k16 at *
 generalize i-7=k7 at *
 generalize hi1:i+1=i1 at *
 generalize YB=tc at *
 generalize KW sh=sc at *
 simp only[BZ,NR,Vl,Qr,quiet,cW,↓pW,reduceCtorEq,seval,-Qb,gS,gU,c1,t0,t1,t2,t3,t4,t5,e1,e2,i15,i2,i16,i7,j15,j2,j16,j7,cx,cy,cu,cv,r1,r8,r19,r61,p7,p6,s7,s6,x2,y2,m1,m2,m3,kp,hset,w3,hi1,hle,im]
theorem rn{all:List Nat}(hB:B<Hm.length)(hS:Hm[B]?=some {c:=KW sh})(ht:Hm[tid]?=some ⟨u8s all,true,true,x4,1⟩)(hL:all.length<2^50)(hb:∀j,j<64->all[at_+j]?=b[j]?)(hbl:b.length=64)(hx:∀y∈b,y<256)(hat:at_+64<=all.length)(hi:i<16) :
  Q0 T B Vl (BZ B tid all.length tb sv u at_ Hm (pf 64 (Jv b) i) i [])=some (.normal,BZ B tid all.length tb sv u at_ Hm (pf 64 (Jv b) (i+1)) ((i+1:Nat):Int) []):=by
 have h4:=ed (tb:=tb) (sv:=sv) (u:=u) (J0 hB) ht hL hb hbl hx hat hi
 have e1:((i:Int)<64)=True:=wf
 have e2:((i:Int)<16)=True:=wf
 have w3:IntKind.i64.wrap ((i:Int)+1)=((i+1:Nat):Int):=Z3 (b:=1) qr
 have gS:∀m:List Ob,(Hm++m)[B]?=some {c:=KW sh}:=fun m=>by rw[Qc hB];exact hS
 have c1:=RK sh
 simp only[BZ,NR,Qn,Ql]at h4
 generalize pf 64 (Jv b) i=O1,pf 64 (Jv b) (i+1)=O2 at *
 generalize hi1:i+1=i1 at *
 generalize KW sh=sc at *
 simp only[BZ,NR,Vl,Qr,quiet,cW,↓pW,reduceCtorEq,seval,-Qb,gS,c1,e1,e2,h4,w3,hi1]
theorem eb{all:List Nat}(hB:B<Hm.length)(hS:Hm[B]?=some {c:=KW sh})(hU:Hm[u]?=some {c:=YB})(ht:Hm[tid]?=some ⟨u8s all,true,true,x4,1⟩)(hL:all.length<2^50)(hb:∀j,j<64->all[at_+j]?=b[j]?)(hbl:b.length=64)(hx:∀y∈b,y<256)(hat:at_+64<=all.length) :
  Q0 T B (.block 6 (.loop Vl)) (BZ B tid all.length tb sv u at_ Hm (Qa 64 0) 0 [])=some (.normal,BZ B tid all.length tb sv u at_ Hm (Jv b) 64 [(113,.bool false)]):=by
 have hWl:=Yb b
 have h:=ZR (T:=T) (base:=B) (id:=6) (body:=Vl) (fun i=>BZ B tid all.length tb sv u at_ Hm (pf 64 (Jv b) i) i []) (s':=BZ B tid all.length tb sv u at_ Hm (Jv b) 64 [(113,.bool false)]) 64
  (fun i hi=>by
   by_cases h:i<16
   ·exact rn hB hS ht hL hb hbl hx hat h
   ·exact lW hB hS hU hx qr hi)
  (by
   have gS:∀m:List Ob,(Hm++m)[B]?=some {c:=KW sh}:=fun m=>by rw[Qc hB];exact hS
   have c1:=RK sh
   rw[Ke hWl]
   generalize Jv b=O2,KW sh=sc at *
   simp only[BZ,NR,Vl,Qr,quiet,cW,↓pW,reduceCtorEq,seval,-Qb,gS,c1])
 rw[Kc]at h
 exact h
def qP(B tid L kid:Nat)(sv:Value)(u at_ q vid:Nat)(i:Int):Env:=[(3,.pointer B),(5,.int .i64 4),(6,.slice tid L L),(10,.slice kid 80 80),(11,sv),(12,.int .i64 32),(13,.pointer u),(14,.int .i64 at_),(15,.slice q 64 64),(22,.slice vid 8 8),(23,.int .i64 i)]
def Fy(B tid L kid:Nat)(sv:Value)(u at_ q vid:Nat)(i:Int)(Hc:List Ob)(ex:Env):St:=⟨qP B tid L kid sv u at_ q vid i++ex,Hc,[]⟩
theorem kx{w s:List Nat}(hS:Hc[B]?=some {c:=KW sh})(hU:Hc[u]?=some {c:=YB})(hK:Hc[kid]?=some {c:=ns .u64 Ky})(hq:Hc[q]?=some {c:=ns .u64 w})(hvo:Hc[vid]?=some ⟨ns .u64 s,true,x1,x2,1⟩)(hw:w.length=64)(hs:s.length=8)(hx:∀x∈s,x<4294967296)(hxw:∀x∈w,x<4294967296)(hi:i<64) :
  Q0 T B YR (Fy B tid L kid sv u at_ q vid i Hc [])=some (.normal,Fy B tid L kid sv u at_ q Hc.length ((i+1:Nat):Int) (Hc++[{c:=ns .u64 (FA s (Ky.getD i 0/2^32) (w.getD i 0))}]) []):=by
 obtain⟨a,b,c,d,e,f,g,h,rfl⟩:=eight hs
 obtain⟨k,hk⟩:∃k,Ky[i]?=some k:=⟨_,Qf (by rw[Ul];omega)⟩
 obtain⟨v,hv⟩:∃k,w[i]?=some k:=⟨_,Qf qr⟩
 rw[JQ hk,JQ hv]
 have kc:=ZJ (k := .u64) hk
 have vc:=ZJ (k := .u64) hv
 have la:=hx a wd
 have lb:=hx b wd
 have lc:=hx c wd
 have le:=hx e wd
 have lf:=hx f wd
 have lg:=hx g wd
 have lh:=hx h wd
 have ld:=hx d wd
 have r14:evVal T 182 [.int .u64 e,.int .i64 6,.int .i64 32]=some (.int .u64 (Ja e 6:Nat)):=Wg (r:=6) le ww ww
 have r18:evVal T 182 [.int .u64 e,.int .i64 11,.int .i64 32]=some (.int .u64 (Ja e 11:Nat)):=Wg (r:=11) le ww ww
 have r41:evVal T 182 [.int .u64 e,.int .i64 25,.int .i64 32]=some (.int .u64 (Ja e 25:Nat)):=Wg (r:=25) le ww ww
 have r28:evVal T 182 [.int .u64 a,.int .i64 2,.int .i64 32]=some (.int .u64 (Ja a 2:Nat)):=Wg (r:=2) la ww ww
 have r34:evVal T 182 [.int .u64 a,.int .i64 13,.int .i64 32]=some (.int .u64 (Ja a 13:Nat)):=Wg (r:=13) la ww ww
 have r39:evVal T 182 [.int .u64 a,.int .i64 22,.int .i64 32]=some (.int .u64 (Ja a 22:Nat)):=Wg (r:=22) la ww ww
 have b14:=Xz (r:=6) le ww ww
 have b18:=Xz (r:=11) le ww ww
 have b41:=Xz (r:=25) le ww ww
 have b28:=Xz (r:=2) la ww ww
 have b34:=Xz (r:=13) la ww ww
 have b39:=Xz (r:=22) la ww ww
 have x2:evVal T 181 [.int .u64 (Ja e 6:Nat),.int .u64 (Ja e 11:Nat),.int .u64 (Ja e 25:Nat)]=some (.int .u64 (K7 e:Nat)):=UD (Yl b14) (Yl b18) (Yl b41)
 have x4:evVal T 181 [.int .u64 (Ja a 2:Nat),.int .u64 (Ja a 13:Nat),.int .u64 (Ja a 22:Nat)]=some (.int .u64 (BN a:Nat)):=UD (Yl b28) (Yl b34) (Yl b39)
 have a1:=W5 (Yl le) (Yl lf)
 have lne:4294967295-e<4294967296:=qr
 have a2:IntKind.u64.wrap (18446744073709551615-(e:Int))=((18446744073709551615-e:Nat):Int):=Mn (a:=18446744073709551615) qr ww
 have kp1:=MN (18446744073709551615-e)
 rw[show(18446744073709551615-e)%4294967296=4294967295-e by omega]at kp1
 have a3:=W5 (Yl lne) (Yl lg)
 have a4:Zr .or .u64 ((e&&&f:Nat):Int) (((4294967295-e)&&&g:Nat):Int)=((KV e f g:Nat):Int):=by rw[Kh rfl (Xw (Yl lf)) (Xw (Yl lg)),pg le]
 have a5:=W5 (Yl la) (Yl lb)
 have a6:=W5 (Yl la) (Yl lc)
 have a7:=W5 (Yl lb) (Yl lc)
 have a8:Zr .or .u64 ((a&&&b:Nat):Int) ((a&&&c:Nat):Int)=(((a&&&b)|||(a&&&c):Nat):Int):=Kh rfl (Xw (Yl lb)) (Xw (Yl lc))
 have a9:Zr .or .u64 (((a&&&b)|||(a&&&c):Nat):Int) ((b&&&c:Nat):Int)=((Bd a b c:Nat):Int):=by rw[Kh rfl (XP (n:=64) (Xw (Yl lb)) (Xw (Yl lc))) (Xw (Yl lc)),sN]
 have lk:=cm k (Qo hk)
 have lv:=hxw v (Qo hv)
 have lk32:k/2^32<4294967296:=Vo lk
 have hk32:IntKind.u64.wrap ((k:Int).tdiv 4294967296)=((k/2^32:Nat):Int):=Kz (Yl lk32)
 have p32:=vk
 generalize k/2^32=kk at *
 have lSe:K7 e<4294967296:=Ka (Ka b14 b18) b41
 have lSa:BN a<4294967296:=Ka (Ka b28 b34) b39
 have lch:KV e f g<4294967296:=by rw[<-pg le];exact XP (n:=32) (Vu lf) (Vu lg)
 have lma:Bd a b c<4294967296:=Ka (Ka (Vu lb) (Vu lc)) (Vu lc)
 have m1:IntKind.u64.wrap ((h:Int)+(K7 e:Int))=((h+K7 e:Nat):Int):=by rw[<-Jm];exact Kz qr
 have m2:IntKind.u64.wrap (((h+K7 e:Nat):Int)+(KV e f g:Int))=((h+K7 e+KV e f g:Nat):Int):=by rw[<-Jm];exact Kz qr
 have m3:IntKind.u64.wrap (((h+K7 e+KV e f g:Nat):Int)+(kk:Int))=((h+K7 e+KV e f g+kk:Nat):Int):=by rw[<-Jm];exact Kz qr
 have m4:IntKind.u64.wrap (((h+K7 e+KV e f g+kk:Nat):Int)+(v:Int))=((h+K7 e+KV e f g+kk+v:Nat):Int):=by rw[<-Jm];exact Kz qr
 have m5:IntKind.u64.wrap ((BN a:Int)+(Bd a b c:Int))=((BN a+Bd a b c:Nat):Int):=by rw[<-Jm];exact Kz qr
 have m6:IntKind.u64.wrap (((h+K7 e+KV e f g+kk+v:Nat):Int)+((BN a+Bd a b c:Nat):Int))=((h+K7 e+KV e f g+kk+v+(BN a+Bd a b c):Nat):Int):=by rw[<-Jm];exact Kz qr
 have m7:IntKind.u64.wrap ((d:Int)+((h+K7 e+KV e f g+kk+v:Nat):Int))=((d+(h+K7 e+KV e f g+kk+v):Nat):Int):=by rw[<-Jm];exact Kz qr
 have kp2:=MN (h+K7 e+KV e f g+kk+v+(BN a+Bd a b c))
 have kp3:=MN (d+(h+K7 e+KV e f g+kk+v))
 have hr:FA [a,b,c,d,e,f,g,h] kk v=[(h+K7 e+KV e f g+kk+v+(BN a+Bd a b c))%4294967296,a,b,c,(d+(h+K7 e+KV e f g+kk+v))%4294967296,e,f,g]:=by
  have e1:(Ah [a,b,c,d,e,f,g,h] kk v+Sh [a,b,c,d,e,f,g,h])%4294967296=(h+K7 e+KV e f g+kk+v+(BN a+Bd a b c))%4294967296:=by
   show((h+K7 e+KV e f g+kk+v)%4294967296+(BN a+Bd a b c)%4294967296)%4294967296=_
   omega
  have e2:(d+Ah [a,b,c,d,e,f,g,h] kk v)%4294967296=(d+(h+K7 e+KV e f g+kk+v))%4294967296:=by
   show(d+(h+K7 e+KV e f g+kk+v)%4294967296)%4294967296=_
   omega
  rw[<-e1,<-e2];rfl
 have hf:=oC ((h+K7 e+KV e f g+kk+v+(BN a+Bd a b c))%4294967296) a b c ((d+(h+K7 e+KV e f g+kk+v))%4294967296) e f g
 rw[<-hr]at hf
 have lR:=kP [a,b,c,d,e,f,g,h] kk v
 have e1:((i:Int)<64)=True:=wf
 have e80:((i:Int)<80)=True:=wf
 have w3:IntKind.i64.wrap ((i:Int)+1)=((i+1:Nat):Int):=Z3 (b:=1) qr
 have g0:(ns .u64 [a,b,c,d,e,f,g,h])[0]?=some (.int .u64 (a:Nat)):=rfl
 have g1:(ns .u64 [a,b,c,d,e,f,g,h])[1]?=some (.int .u64 (b:Nat)):=rfl
 have g2:(ns .u64 [a,b,c,d,e,f,g,h])[2]?=some (.int .u64 (c:Nat)):=rfl
 have g3:(ns .u64 [a,b,c,d,e,f,g,h])[3]?=some (.int .u64 (d:Nat)):=rfl
 have g4:(ns .u64 [a,b,c,d,e,f,g,h])[4]?=some (.int .u64 (e:Nat)):=rfl
 have g5:(ns .u64 [a,b,c,d,e,f,g,h])[5]?=some (.int .u64 (f:Nat)):=rfl
 have g6:(ns .u64 [a,b,c,d,e,f,g,h])[6]?=some (.int .u64 (g:Nat)):=rfl
 have g7:(ns .u64 [a,b,c,d,e,f,g,h])[7]?=some (.int .u64 (h:Nat)):=rfl
 have lS:(ns .u64 [a,b,c,d,e,f,g,h]).length=8:=rfl
 clear hr lk lv lk32 lSe lSa lch lma lh ld hk hv hs hx hxw
 generalize FA [a,b,c,d,e,f,g,h] kk v=R at *
 generalize(h+K7 e+KV e f g+kk+v+(BN a+Bd a b c))%4294967296=z1,(d+(h+K7 e+KV e f g+kk+v))%4294967296=z2 at *
 generalize h+K7 e+KV e f g+kk+v+(BN a+Bd a b c)=z6,d+(h+K7 e+KV e f g+kk+v)=z7 at *
 generalize h+K7 e+KV e f g+kk+v=t1,BN a+Bd a b c=t2 at *
 generalize h+K7 e+KV e f g+kk=z3 at *
 generalize h+K7 e+KV e f g=z4 at *
 generalize h+K7 e=z5 at *
 generalize K7 e=se,BN a=sa,KV e f g=cc,Bd a b c=mm at *
 generalize(a&&&b)|||(a&&&c)=q1 at *
 generalize(4294967295-e)&&&g=q2 at *
 generalize 4294967295-e=q3 at *
 generalize 18446744073709551615-e=q0 at *
 generalize e&&&f=q4 at *
 generalize a&&&b=q5 at *
 generalize a&&&c=q6 at *
 generalize b&&&c=q7 at *
 generalize Ja e 6=p1,Ja e 11=p2,Ja e 25=p3,Ja a 2=p4,Ja a 13=p5,Ja a 22=p6 at *
 have t6:YB[6]?=some (.int .i64 2):=rfl
 have t7:YB[7]?=some (.int .i64 13):=rfl
 have t8:YB[8]?=some (.int .i64 22):=rfl
 have t9:YB[9]?=some (.int .i64 6):=rfl
 have t10:YB[10]?=some (.int .i64 11):=rfl
 have t11:YB[11]?=some (.int .i64 25):=rfl
 have c1:=RK sh
 generalize hi1:i+1=i1 at *
 generalize YB=tc at *
 generalize KW sh=sc at *
 generalize ns .u64 [a,b,c,d,e,f,g,h]=S at *
 generalize ns .u64 Ky=KT at *
 simp only[Fy,qP,YR,Qr,quiet,cW,↓pW,reduceCtorEq,seval,-Qb,hS,hU,hK,hq,hvo,c1,t6,t7,t8,t9,t10,t11,e1,e80,p32,hk32,vc,kc,r14,r18,r41,r28,r34,r39,x2,x4,a1,a2,a3,a4,a5,a6,a7,a8,a9,m1,m2,m3,m4,m5,m6,m7,kp1,kp2,kp3,hf,w3,hi1,g0,g1,g2,g3,g4,g5,g6,g7]
theorem dE{w s:List Nat}(hS:H0[B]?=some {c:=KW sh})(hU:H0[u]?=some {c:=YB})(hK:H0[kid]?=some {c:=ns .u64 Ky})(hq:H0[q]?=some {c:=ns .u64 w})(hvo:H0[vid]?=some ⟨ns .u64 s,true,x1,x2,1⟩)(hw:w.length=64)(hs:s.length=8)(hx:∀x∈s,x<4294967296)(hxw:∀x∈w,x<4294967296) :
  ∃vid' l y1 y2,Q0 T B (.block 10 (.loop YR)) (Fy B tid L kid sv u at_ q vid 0 H0 [])=some (.normal,Fy B tid L kid sv u at_ q vid' 64 (H0++l) [(211,.bool false)])/\(H0++l)[vid']?=some ⟨ns .u64 (Ua 64 w s),true,y1,y2,1⟩/\(vid'=vid\/H0.length<=vid'):=by
 obtain⟨st,hb,vid',l,y1,y2,rfl,h1,h2⟩:=Zh (T:=T) (base:=B) (id:=10) (body:=YR)
  (fun j st=>∃vid' l y1 y2,st=Fy B tid L kid sv u at_ q vid' j (H0++l) []/\(H0++l)[vid']?=some ⟨ns .u64 (Ua j w s),true,y1,y2,1⟩/\(vid'=vid\/H0.length<=vid'))
  (Q:=fun st=>∃vid' l y1 y2,st=Fy B tid L kid sv u at_ q vid' 64 (H0++l) [(211,.bool false)]/\(H0++l)[vid']?=some ⟨ns .u64 (Ua 64 w s),true,y1,y2,1⟩/\(vid'=vid\/H0.length<=vid'))
  64 (s:=Fy B tid L kid sv u at_ q vid 0 H0 []) ⟨vid,[],x1,x2,by rw[QG];rfl,by rw[QG];exact hvo,.inl rfl⟩
  (fun j st hj hst=>by
   obtain⟨vid',l,y1,y2,rfl,h1,h2⟩:=hst
   have up:∀ {i:Nat} {o:Ob},H0[i]?=some o->(H0++l)[i]?=some o:=fun {i o} h=>by rw[Qc (Qg.1 h).1];exact h
   refine⟨_,kx (up hS) (up hU) (up hK) (up hq) h1 hw (WR hs w j) (Mw hs hx w j) hxw hj,(H0++l).length,l++[{c:=ns .u64 (FA (Ua j w s) (Ky.getD j 0/2^32) (w.getD j 0))}],true,true,by rw[<-Qt],?_,.inr wd⟩
   rw[<-Qt,Qh (Qs _),Q7];rfl)
  (fun st hst=>by
   obtain⟨vid',l,y1,y2,rfl,h1,h2⟩:=hst
   refine⟨_,?_,vid',l,y1,y2,rfl,h1,h2⟩
   have gS:(H0++l)[B]?=some {c:=KW sh}:=by rw[Qc (Qg.1 hS).1];exact hS
   have c1:=RK sh
   generalize KW sh=sc at *
   generalize H0++l=Hc at *
   simp only[Fy,qP,YR,Qr,quiet,cW,↓pW,reduceCtorEq,seval,-Qb,gS,c1])
 exact⟨vid',l,y1,y2,hb,h1,h2⟩
def Fz(B tid L kid sid u at_ vid:Nat)(i:Nat)(Hc:List Ob)(ex:Env):St:=⟨[(3,.pointer B),(5,.int .i64 4),(6,.slice tid L L),(10,.slice kid 80 80),(11,.slice sid 8 8),(12,.int .i64 32),(13,.pointer u),(14,.int .i64 at_),(22,.slice vid 8 8),(29,.int .i64 i)]++ex,Hc,[]⟩
theorem kD{a b:Nat}{D:List Nat}(hB:B<=sid)(hsl:sid<Hc.length)(hne:vid≠sid)(hvo:Hc[vid]?=some ⟨ns .u64 v,true,x1,x2,1⟩)(lD:D.length=8)(hi:i<8)(ha:D[i]?=some a)(hb:v[i]?=some b)(la:a<4294967296)(lb:b<4294967296) :
  Q0 T B YS (Fz B tid L kid sid u at_ vid i (Hc.set sid ⟨ns .u64 D,true,true,x3,1⟩) [])=some (.normal,Fz B tid L kid sid u at_ vid (i+1) (Hc.set sid ⟨ns .u64 (D.set i ((a+b)%4294967296)),true,true,x3,1⟩) []):=by
 have e1:((i:Int)<8)=True:=wf
 have w3:IntKind.i64.wrap ((i:Int)+1)=((i+1:Nat):Int):=Z3 (b:=1) qr
 have m1:IntKind.u64.wrap ((a:Int)+(b:Int))=((a+b:Nat):Int):=by rw[<-Jm];exact Kz qr
 have kp:=MN (a+b)
 have ga:=ZJ (k := .u64) ha
 have gb:=ZJ (k := .u64) hb
 have g1:(Hc.set sid ⟨ns .u64 D,true,true,x3,1⟩)[sid]?=some ⟨ns .u64 D,true,true,x3,1⟩:=Qw hsl
 have g2:(Hc.set sid ⟨ns .u64 D,true,true,x3,1⟩)[vid]?=some ⟨ns .u64 v,true,x1,x2,1⟩:=by rw[Qu (fun h=>hne h.symm)];exact hvo
 have hset:=Xt .u64 D i ((a+b)%4294967296)
 have hss:∀o,(Hc.set sid ⟨ns .u64 D,true,true,x3,1⟩).set sid o=Hc.set sid o:=fun o=>by rw[Yh]
 have hle:i+1<=(ns .u64 D).length:=by rw[Q8,lD];omega
 have im:Q1 B [] [sid]=[]:=QB (by simp;omega)
 generalize(a+b)%4294967296=z at *
 generalize a+b=z2 at *
 generalize Hc.set sid ⟨ns .u64 D,true,true,x3,1⟩=G at *
 generalize hi1:i+1=i1 at *
 simp only[Fz,YS,Qr,quiet,cW,↓pW,reduceCtorEq,seval,-Qb,e1,w3,m1,kp,ga,gb,g1,g2,hset,hss,hi1,hle,im]
theorem dH{s:List Nat}(hB:B<=sid)(hso:Hc[sid]?=some ⟨ns .u64 s,true,true,x3,1⟩)(hne:vid≠sid)(hvo:Hc[vid]?=some ⟨ns .u64 v,true,x1,x2,1⟩)(lS:s.length=8)(lV:v.length=8)(xS:∀x∈s,x<4294967296)(xV:∀x∈v,x<4294967296) :
  Q0 T B (.block 12 (.loop YS)) (Fz B tid L kid sid u at_ vid 0 Hc [])=some (.normal,Fz B tid L kid sid u at_ vid 8 (Hc.set sid ⟨ns .u64 (JS (fun x y=>(x+y)%4294967296) s v),true,true,x3,1⟩) [(358,.bool false)]):=by
 have hsl:=(Qg.1 hso).1
 obtain⟨st,hb,D,rfl,lD,hD⟩:=Zh (T:=T) (base:=B) (id:=12) (body:=YS)
  (fun j st=>∃D,st=Fz B tid L kid sid u at_ vid j (Hc.set sid ⟨ns .u64 D,true,true,x3,1⟩) []/\D.length=8/\∀k,k<8->D[k]?=if k<j then(JS (fun x y=>(x+y)%4294967296) s v)[k]? else s[k]?)
  (Q:=fun st=>∃D,st=Fz B tid L kid sid u at_ vid 8 (Hc.set sid ⟨ns .u64 D,true,true,x3,1⟩) [(358,.bool false)]/\D.length=8/\∀k,k<8->D[k]?=(JS (fun x y=>(x+y)%4294967296) s v)[k]?)
  8 (s:=Fz B tid L kid sid u at_ vid 0 Hc []) ⟨s,by rw[Wb hso],lS,fun k hk=>by rw[if_neg (Yq _)]⟩
  (fun j st hj hs=>by
   obtain⟨D,rfl,lD,hD⟩:=hs
   obtain⟨a,ha⟩:∃a,s[j]?=some a:=⟨_,Qf qr⟩
   obtain⟨b,hb⟩:∃a,v[j]?=some a:=⟨_,Qf qr⟩
   have hDj:D[j]?=some a:=by rw[hD j hj,if_neg (We _)];exact ha
   refine⟨_,kD hB hsl hne hvo lD hj hDj hb (xS a (Qo ha)) (xV b (Qo hb)),_,rfl,by rw[Q4];exact lD,fun k hk =>?_⟩
   by_cases h:j=k
   ·subst h
    rw[Qw qr,if_pos (Ml _),KL,ha,hb]
   ·rw[Qu h,hD k hk]
    by_cases h2:k<j
    ·rw[if_pos h2,if_pos qr]
    ·rw[if_neg h2,if_neg qr])
  (fun st hs=>by
   obtain⟨D,rfl,lD,hD⟩:=hs
   refine⟨_,?_,D,rfl,lD,fun k hk=>by rw[hD k hk,if_pos hk]⟩
   generalize Hc.set sid ⟨ns .u64 D,true,true,x3,1⟩=G
   simp only[Fz,YS,Qr,quiet,cW,↓pW,reduceCtorEq,seval,-Qb])
 have:D=JS (fun x y=>(x+y)%4294967296) s v:=ZW fun k=>by
  by_cases h:k<8
  ·exact hD k h
  ·rw[QI qr,QI (by rw[V7];omega)]
 rw[<-this]
 exact hb
def FB(B tid L kid sid u:Nat)(at_:Nat)(Hc:List Ob)(ex:Env):St:=⟨[(3,.pointer B),(5,.int .i64 4),(6,.slice tid L L),(10,.slice kid 80 80),(11,.slice sid 8 8),(12,.int .i64 32),(13,.pointer u),(14,.int .i64 at_)]++ex,Hc,[]⟩
theorem kW{all s:List Nat}(hBs:B<sid)(hS:Hc[B]?=some {c:=KW sh})(hU:Hc[u]?=some {c:=YB})(hK:Hc[kid]?=some {c:=ns .u64 Ky})(ht:Hc[tid]?=some ⟨u8s all,true,true,x4,1⟩)(hso:Hc[sid]?=some ⟨ns .u64 s,true,true,x3,1⟩)(hs:s.length=8)(hsx:∀x∈s,x<4294967296)
 (hL:all.length<2^50) (hb:∀j,j<64->all[at_+j]?=b[j]?) (hbl:b.length=64) (hx:∀y∈b,y<256) (hat:at_+64<=all.length) :
    ∃H',Q0 T B YQ (FB B tid all.length kid sid u at_ Hc [])=some (.normal,FB B tid all.length kid sid u (at_+64) H' [])/\H'[sid]?=some ⟨ns .u64 (DZ s b),true,true,x3,1⟩/\Hc.length<=H'.length/\∀i,i<Hc.length->i≠sid->H'[i]?=Hc[i]? := by
  have hsl:=(Qg.1 hso).1
  have hBl:B<Hc.length:=qr
  have h5:=eb (tb := .slice kid 80 80) (sv := .slice sid 8 8) hBl hS hU ht hL hb hbl hx hat
  obtain⟨H5,hH5⟩:∃X,X=Hc++[({c:=ns .u64 (Jv b)}:Ob)]:=⟨_,rfl⟩
  have l5:H5.length=Hc.length+1:=by rw[hH5];simp
  have up5:∀ {i:Nat} {o:Ob},Hc[i]?=some o->H5[i]?=some o:=fun {i o} h=>by rw[hH5,Qc (Qg.1 h).1];exact h
  have hq5:H5[Hc.length]?=some {c:=ns .u64 (Jv b)}:=by rw[hH5,Qh (Qs _),Q7];rfl
  have hap:=uF (up5 hso) hs
  obtain⟨H7,hH7⟩:∃X,X=H5++[({c:=[]}:Ob),Ob.grown 1 (ns .u64 s)]:=⟨_,rfl⟩
  have l7:H7.length=H5.length+2:=by rw[hH7];simp
  have up7:∀ {i:Nat} {o:Ob},H5[i]?=some o->H7[i]?=some o:=fun {i o} h=>by rw[hH7,Qc (Qg.1 h).1];exact h
  have hv7:H7[H5.length+1]?=some ⟨ns .u64 s,true,true,false,1⟩:=by rw[hH7,Qh qr,Q2];rfl
  have hwx:∀x∈Jv b,x<4294967296:=fun x hm=>by
    obtain⟨i,hi⟩:=Xf hm
    exact WW hx hi
  obtain⟨vid',l,y1,y2,h3,hvo,hvid⟩:=dE (L:=all.length) (tid:=tid) (sv := .slice sid 8 8) (at_:=at_) (up7 (up5 hS)) (up7 (up5 hU)) (up7 (up5 hK)) (up7 hq5) hv7 (Yb b) hs hsx hwx
  obtain⟨H8,hH8⟩:∃X,X=H7++l:=⟨_,rfl⟩
  have l8:H7.length<=H8.length:=by rw[hH8];simp
  have up8:∀ {i:Nat} {o:Ob},H7[i]?=some o->H8[i]?=some o:=fun {i o} h=>by rw[hH8,Qc (Qg.1 h).1];exact h
  rw[<-hH8]at h3 hvo
  have hne:vid'≠sid:=qr
  have h2:=dH (tid:=tid) (L:=all.length) (kid:=kid) (u:=u) (at_:=at_) (J0 hBs) (up8 (up7 (up5 hso))) hne hvo hs (WR hs _ 64) hsx (Mw hs hsx _ 64)
  rw[show JS (fun x y=>(x+y)%4294967296) s (Ua 64 (Jv b) s)=DZ s b from rfl]at h2
  obtain⟨H9,hH9⟩:∃X,X=H8.set sid ⟨ns .u64 (DZ s b),true,true,x3,1⟩:=⟨_,rfl⟩
  rw[<-hH9]at h2
  refine⟨H9,?_,by rw[hH9,Qw qr],by rw[hH9,Q4];omega,fun i hi hne =>?_⟩
  · have gS9:H9[B]?=some {c:=KW sh}:=by rw[hH9,Qu qr];exact up8 (up7 (up5 hS))
    have e1:((at_:Int)<((all.length:Nat):Int))=True:=wf
    have w1:IntKind.i64.wrap ((at_:Int)+64)=((at_+64:Nat):Int):=Z3 (b:=64) qr
    have c1:=RK sh
    have c2:=kd sh
    have hz80:(Qa 64 [Value.int .u64 0]).flatten=ns .u64 (Qa 64 0):=rfl
    have f0:fillL ([]:List Value) []=some []:=rfl
    have im1:Q1 B [] [H5.length]=[]:=QB (by simp;omega)
    simp only[BZ,NR,Fy,qP,Fz,Qn,Ql,QA,<-hH5]at h5 h3 h2
    rw[<-hH7]at hap
    clear hH5 hH7 hH8 hH9 up5 up7 up8 hv7 hq5 hvo hb hx hso
    generalize KW sh=sc,ns .u64 (Qa 64 0)=Z80 at *
    generalize all.length=LL at *
    generalize hat2:at_+64=at2 at *
    simp only[FB,YQ,Qr,quiet,cW,↓pW,reduceCtorEq,seval,-Qb,hS,c1,e1,hz80,h5,f0,hap,im1,h3,h2,gS9,c2,w1]
  · rw[hH9,Qu (fun h=>hne h.symm)]
    have hi':=Qf hi
    rw[hi']
    exact up8 (up7 (up5 hi'))
theorem dW{m:Nat}{all:List Nat}(hBs:B<sid)(hus:u≠sid)(hks:kid≠sid)(hts:tid≠sid)(hS:H0[B]?=some {c:=KW sh})(hU:H0[u]?=some {c:=YB})(hK:H0[kid]?=some {c:=ns .u64 Ky})(ht:H0[tid]?=some ⟨u8s all,true,true,x4,1⟩)(hso:H0[sid]?=some ⟨ns .u64 XL,true,true,x3,1⟩)
 (hL:all.length<2^50) (hx:∀y∈all,y<256) (hm:all.length=64*m) :
    ∃H',Q0 T B (.block 4 (.loop YQ)) (FB B tid all.length kid sid u 0 H0 [])=some (.normal,FB B tid all.length kid sid u all.length H' [(102,.bool false)])/\H'[sid]?=some ⟨ns .u64 (US m all),true,true,x3,1⟩/\H0.length<=H'.length/\∀i,i<H0.length->i≠sid->H'[i]?=H0[i]? := by
  obtain⟨st,hb,H',rfl,h1,h2,h3⟩:=Zh (T:=T) (base:=B) (id:=4) (body:=YQ)
    (fun j st=>∃H',st=FB B tid all.length kid sid u (64*j) H' []/\H'[sid]?=some ⟨ns .u64 (US j all),true,true,x3,1⟩/\H0.length<=H'.length/\∀i,i<H0.length->i≠sid->H'[i]?=H0[i]?)
    (Q:=fun st=>∃H',st=FB B tid all.length kid sid u all.length H' [(102,.bool false)]/\H'[sid]?=some ⟨ns .u64 (US m all),true,true,x3,1⟩/\H0.length<=H'.length/\∀i,i<H0.length->i≠sid->H'[i]?=H0[i]?)
    m (s:=FB B tid all.length kid sid u 0 H0 []) ⟨H0,rfl,hso,Qs _,fun _ _ _=>rfl⟩
    (fun j st hj hs=>by
      obtain⟨H',rfl,h1,h2,h3⟩:=hs
      have up:∀ {i:Nat} {o:Ob},H0[i]?=some o->i≠sid->H'[i]?=some o:=fun {i o} h hne=>(h3 i (Qg.1 h).1 hne).trans h
      have hat:64*j+64<=all.length:=qr
      obtain⟨H9,k1,k2,k3,k4⟩:=kW (at_:=64*j) (b:=(all.drop (64*j)).take 64) hBs (up hS qr) (up hU hus) (up hK hks) (up ht hts) h1 (Bp all j) (Aw all j) hL (fun i hi=>by rw[QW,if_pos hi,Zp]) (by rw[Q3,QN];omega) (fun y hy=>hx y (ZF (QP hy))) hat
      exact⟨_,k1,H9,rfl,k2,by omega,fun i hi hne=>(k4 i qr hne).trans (h3 i hi hne)⟩)
    (fun st hs=>by
      obtain⟨H',rfl,h1,h2,h3⟩:=hs
      rw[<-hm]
      refine⟨_,?_,H',rfl,h1,h2,h3⟩
      have e1:((all.length:Int)<((all.length:Nat):Int))=False:=wr
      generalize all.length=LL at *
      simp only[FB,YQ,Qr,quiet,cW,↓pW,reduceCtorEq,seval,-Qb,e1])
  exact⟨H',hb,h1,h2,h3⟩
def F8(sid:Nat)(s:Value)(i c:Int)(Hc:List Ob)(ex:Env):St:=⟨[(5,.int .i64 4),(11,.slice sid 8 8),(30,s),(31,.int .i64 i),(32,.int .i64 c)]++ex,Hc,[]⟩
theorem kN{c:Nat}(hBN:B<=N)(hsN:sid<N)(hso:Hc[sid]?=some ⟨ns .u64 st,true,true,x3,1⟩)(hg:Grown .u8 N Hc s bs)(hL:N<=Hc.length)(hbs:bs.length<100)(hi:i<8)(hc:c<8)(hw:st[i]?=some w)(hw':w<18446744073709551616) :
  ∃s' H',Q0 T B YT (F8 sid s i c Hc [])=some (.normal,F8 sid s' i ((c:Int)-1) H' [])/\Grown .u8 N H' s' (bs++[w/256^c%256])/\N<=H'.length/\∀k,k<N->H'[k]?=Hc[k]? := by
 obtain⟨s',H',M,h1,h2,h3,h4,h5⟩:=VX (x:=w/256^c%256) (bytes:=1) hg hL qr ww
 refine⟨s',H',?_,h2,h4,h5⟩
 have hm:Q1 B [] M=[]:=QB fun i hi=>by have:=h3 i hi;omega
 have hp:=Ud (n:=8*c) qr
 have e8:(2:Nat)^(8*c)=256^c:=by rw[Je]
 rw[e8]at hp
 have h0:0<256^c:=JT ww
 have hz:(((256^c:Nat):Int)=0)=False:=wr
 have hd:IntKind.u64.wrap ((w:Int).tdiv ((256^c:Nat):Int))=((w/256^c:Nat):Int):=Kz (Jc (Jx _ _) hw')
 have hr:((w/256^c:Nat):Int).tmod 256=((w/256^c%256:Nat):Int):=rfl
 have w1:IntKind.i64.wrap (8*(c:Int))=((8*c:Nat):Int):=ZB (n:=8*c) qr
 have w2:IntKind.u8.wrap ((w/256^c%256:Nat):Int)=((w/256^c%256:Nat):Int):=Mp (Q9 _ ww)
 have w3:IntKind.i64.wrap ((c:Int)-1)=(c:Int)-1:=QU qr qr
 have e1:(0<=(c:Int))=True:=wf
 have e2:((i:Int)<8)=True:=wf
 have gw:=ZJ (k := .u64) hw
 have f0:fillL [Value.int .u8 0] [(0,1,.int .u8 ((w/256^c%256:Nat):Int))]=some [.int .u8 ((w/256^c%256:Nat):Int)]:=rfl
 generalize w/256^c%256=r at *
 generalize w/256^c=d at *
 generalize 256^c=p at *
 generalize 8*c=c8 at *
 simp only[F8,YT,Qr,quiet,cW,↓pW,reduceCtorEq,seval,-Qb,e1,e2,w1,w2,w3,hp,hz,hd,hr,hso,gw,f0,h1,hm]
def Wz(st:List Nat):List Nat:=(ZH 32).map fun i=>st.getD (i/4) 0/256^(3-i%4)%256
theorem eo(st:List Nat):(Wz st).length=32:=by simp[Wz]
theorem er{j:Nat}(hi:i<8)(hj:j<4)(hw:st[i]?=some w):(Wz st)[4*i+j]?=some (w/256^(3-j)%256):=by
 have h1:(4*i+j)/4=i:=qr
 have h2:(4*i+j)%4=j:=qr
 have h3:4*i+j<32:=qr
 simp only[Wz,JB,V8 h3,Yo,h1,h2,JQ hw]
theorem dM(hBN:B<=N)(hsN:sid<N)(hso:H0[sid]?=some ⟨ns .u64 st,true,true,x3,1⟩)(hg0:Grown .u8 N H0 s0 ((Wz st).take (4*i)))(hL0:N<=H0.length)(hi:i<8)(hw:st[i]?=some w)(hw':w<18446744073709551616) :
  ∃s' H',Q0 T B (.block 16 (.loop YT)) (F8 sid s0 i 3 H0 [])=some (.normal,F8 sid s' i (-1) H' [(382,.bool false)])/\Grown .u8 N H' s' ((Wz st).take (4*(i+1)))/\N<=H'.length/\∀k,k<N->H'[k]?=H0[k]? := by
 obtain⟨x,hb,s',H',rfl,h1,h2,h3⟩:=Zh (T:=T) (base:=B) (id:=16) (body:=YT)
  (fun j x=>∃s' H',x=F8 sid s' i ((3:Int)-(j:Nat)) H' []/\Grown .u8 N H' s' ((Wz st).take (4*i+j))/\N<=H'.length/\∀k,k<N->H'[k]?=H0[k]?)
  (Q:=fun x=>∃s' H',x=F8 sid s' i (-1) H' [(382,.bool false)]/\Grown .u8 N H' s' ((Wz st).take (4*i+4))/\N<=H'.length/\∀k,k<N->H'[k]?=H0[k]?)
  4 (s:=F8 sid s0 i 3 H0 []) ⟨s0,H0,rfl,hg0,hL0,fun _ _=>rfl⟩
  (fun j x hj hx=>by
   obtain⟨s',H',rfl,h1,h2,h3⟩:=hx
   have e:((3:Int)-(j:Nat))=((3-j:Nat):Int):=qr
   obtain⟨s2,H2,k1,k2,k3,k4⟩:=kN (c:=3-j) hBN hsN ((h3 sid hsN).trans hso) h1 h2 (by rw[Q3];omega) hi qr hw hw'
   have hget:=er hi hj hw
   rw[show(Wz st).take (4*i)=(Wz st).take (4*i) from rfl]at hg0
   have ht:(Wz st).take (4*i+(j+1))=(Wz st).take (4*i+j)++[w/256^(3-j)%256]:=by
    rw[<-Zb,Zx,hget];rfl
   rw[<-e]at k1
   exact⟨_,k1,s2,H2,by rw[show(3:Int)-(j:Nat)-1=(3:Int)-((j+1:Nat):Int) by omega],by rw[ht];exact k2,k3,fun k hk=>(k4 k hk).trans (h3 k hk)⟩)
  (fun x hx=>by
   obtain⟨s',H',rfl,h1,h2,h3⟩:=hx
   refine⟨_,?_,s',H',rfl,h1,h2,h3⟩
   simp only[F8,YT,Qr,quiet,cW,↓pW,reduceCtorEq,seval,-Qb])
 exact⟨s',H',hb,h1,h2,h3⟩
def My(sid:Nat)(s:Value)(i:Int)(Hc:List Ob)(ex:Env):St:=⟨[(5,.int .i64 4),(11,.slice sid 8 8),(30,s),(31,.int .i64 i)]++ex,Hc,[]⟩
theorem dO(hBN:B<=N)(hsN:sid<N)(hso:H0[sid]?=some ⟨ns .u64 st,true,true,x3,1⟩)(hL0:N<=H0.length)(ls:st.length=8)(xs:∀w∈st,w<18446744073709551616) :
  ∃s' H',Q0 T B (.block 14 (.loop WH)) (My sid (.slice none 0 0) 0 H0 [])=some (.normal,My sid s' 8 H' [(376,.bool false)])/\Grown .u8 N H' s' (Wz st)/\N<=H'.length/\∀k,k<N->H'[k]?=H0[k]? := by
 obtain⟨x,hb,s',H',rfl,h1,h2,h3⟩:=Zh (T:=T) (base:=B) (id:=14) (body:=WH)
  (fun j x=>∃s' H',x=My sid s' j H' []/\Grown .u8 N H' s' ((Wz st).take (4*j))/\N<=H'.length/\∀k,k<N->H'[k]?=H0[k]?)
  (Q:=fun x=>∃s' H',x=My sid s' 8 H' [(376,.bool false)]/\Grown .u8 N H' s' (Wz st)/\N<=H'.length/\∀k,k<N->H'[k]?=H0[k]?)
  8 (s:=My sid (.slice none 0 0) 0 H0 []) ⟨_,_,rfl,.nil,hL0,fun _ _=>rfl⟩
  (fun j x hj hx=>by
   obtain⟨s',H',rfl,h1,h2,h3⟩:=hx
   obtain⟨w,hw⟩:∃w,st[j]?=some w:=⟨_,Qf qr⟩
   obtain⟨s2,H2,k1,k2,k3,k4⟩:=dM hBN hsN ((h3 sid hsN).trans hso) h1 h2 hj hw (xs w (Qo hw))
   refine⟨My sid s2 ((j+1:Nat):Int) H2 [],?_,s2,H2,rfl,k2,k3,fun k hk=>(k4 k hk).trans (h3 k hk)⟩
   have e1:((j:Int)<8)=True:=wf
   have w3:IntKind.i64.wrap ((j:Int)+1)=((j+1:Nat):Int):=Z3 (b:=1) qr
   simp only[F8,Qn,Ql]at k1
   generalize hj1:j+1=j1 at *
   simp only[My,WH,Qr,quiet,cW,↓pW,reduceCtorEq,seval,-Qb,e1,k1,w3,hj1])
  (fun x hx=>by
   obtain⟨s',H',rfl,h1,h2,h3⟩:=hx
   rw[Qm (by rw[eo];decide)]at h1
   refine⟨_,?_,s',H',rfl,h1,h2,h3⟩
   simp only[My,WH,Qr,quiet,cW,↓pW,reduceCtorEq,seval,-Qb])
 exact⟨s',H',hb,h1,h2,h3⟩
theorem kC{H:List Ob}{hid:Nat}{xe:Bool}(xb:∀y∈bs,y<256)(hb:bs.length<2^46)(hh:H[hid]?=some ⟨ns .u64 XL,true,true,xe,1⟩) :
  ∃s l,Z6 T 118 [QX bs,.agg (KW (.slice hid 8 8)).toArray] H=some (s,H++l,[])/\Grown .u8 H.length (H++l) s (VG bs):=by
 obtain⟨sv,hsv⟩:∃v,v=Value.slice hid 8 8:=⟨_,rfl⟩
 rw[<-hsv]
 have hhl:=(Qg.1 hh).1
 have hok:Z7 (.agg (KW sv).toArray)=true:=by rw[hsv];rfl
 obtain⟨G1,hG1⟩:∃X,X=H++[({c:=KW sv}:Ob)]:=⟨_,rfl⟩
 have l1:G1.length=H.length+1:=by rw[hG1];simp
 have gB:G1[H.length]?=some {c:=KW sv}:=by rw[hG1,Qh (Qs _),Q7];rfl
 have gh:G1[hid]?=some ⟨ns .u64 XL,true,true,xe,1⟩:=by rw[hG1,Qc hhl];exact hh
 have h2b:=Ll (id:=G1.length) xb (by omega:bs.length<=2^47)
 have h80:=pI (G:=G1) hb
 obtain⟨H3,hH3⟩:∃X,X=G1++[Ob.dead,({c:=[.int .u8 128]}:Ob),Ob.grown 1 (u8s (bs++[128]))]:=⟨_,rfl⟩
 rw[<-hH3]at h80
 have hg3:Grown .u8 (H.length+1) H3 (.slice (G1.length+2:Nat) (bs.length+1) (bs.length+1)) (bs++[128]):=by
  have:=Grown.own (k := .u8) (B:=H.length+1) (H:=H3) (id:=G1.length+2) (bs:=bs++[128]) qr wd (by rw[hH3,Qh qr,Q2];rfl)
  rwa[Qj]at this
 have p3:∀i,i<H.length+1->H3[i]?=G1[i]? := fun i hi=>by rw[hH3,Qc qr]
 obtain⟨s4,H4,h4,hg4,l4,p4⟩:=dD (B:=H.length) (N:=H.length+1) (x:=QX bs) qr gB hb hg3 (by rw[hH3];simp;omega) p3
 have h7:=dZ (B:=H.length) (n:=bs.length) (s:=s4) (Hm:=H4) qr hb
 obtain⟨H5,hH5⟩:∃X,X=H4++[({c:=u8s ((ZH 8).map (VN bs.length))}:Ob)]:=⟨_,rfl⟩
 have l5:H5.length=H4.length+1:=by rw[hH5];simp
 have hg5:Grown .u8 (H.length+1) H5 s4 (bs++128::Qa (XH bs.length) 0):=by rw[hH5];exact hg4.app
 have lc:((ZH 8).map (VN bs.length)).length=8:=by simp
 have he5:elemsOf H5 1 ((ZH 8).map (VN bs.length)).length (.slice H4.length 8 8)=some (ns .u8 ((ZH 8).map (VN bs.length))):=by
  rw[lc,hH5]
  have:Zi 8 (u8s ((ZH 8).map (VN bs.length)))=ns .u8 ((ZH 8).map (VN bs.length)):=Qm (by rw[Qq,lc];exact Qs _)
  simp[elemsOf,B9,Qq,this]
 have hz:=GS bs.length
 obtain⟨s6,H6,M6,ha6,hg6,hM6,l6,p6⟩:=hg5.append (bytes:=1) (x := .slice H4.length 8 8) qr (by rw[lc];rfl) he5 (by rw[lc];simp;omega) ww
 have hall:bs++128::Qa (XH bs.length) 0++(ZH 8).map (VN bs.length)=bs++Yu bs.length:=by rw[Oi,Qt]
 rw[hall]at hg6
 have lall:(bs++Yu bs.length).length=bs.length+(9+XH bs.length):=by rw[Qj,HN]
 obtain⟨tid,x4,rfl,htid,htx⟩:=Grown.ob hg6 qr
 have q6:∀i,i<H.length+1->H6[i]?=G1[i]? := fun i hi=>by rw[p6 i hi,hH5,Qc qr];exact p4 i hi
 have htb:=FZ H6
 obtain⟨H7,hH7⟩:∃X,X=H6++[({c:=ns .u64 Ky}:Ob)]:=⟨_,rfl⟩
 have l7:H7.length=H6.length+1:=by rw[hH7];simp
 have u7:∀ {i:Nat} {o:Ob},H6[i]?=some o->H7[i]?=some o:=fun {i o} h=>by rw[hH7,Qc (Qg.1 h).1];exact h
 have k7:H7[H6.length]?=some {c:=ns .u64 Ky}:=by rw[hH7,Qh (Qs _),Q7];rfl
 have hap:=uF (u7 ((q6 hid qr).trans gh)) So
 obtain⟨H8,hH8⟩:∃X,X=H7++[({c:=[]}:Ob),Ob.grown 1 (ns .u64 XL)]:=⟨_,rfl⟩
 have l8:H8.length=H7.length+2:=by rw[hH8];simp
 have u8':∀ {i:Nat} {o:Ob},H7[i]?=some o->H8[i]?=some o:=fun {i o} h=>by rw[hH8,Qc (Qg.1 h).1];exact h
 have k8:H8[H7.length+1]?=some ⟨ns .u64 XL,true,true,false,1⟩:=by rw[hH8,Qh qr,Q2];rfl
 rw[<-hH8]at hap
 obtain⟨H9,hH9⟩:∃X,X=H8++[({c:=YB}:Ob)]:=⟨_,rfl⟩
 have l9:H9.length=H8.length+1:=by rw[hH9];simp
 have u9:∀ {i:Nat} {o:Ob},H8[i]?=some o->H9[i]?=some o:=fun {i o} h=>by rw[hH9,Qc (Qg.1 h).1];exact h
 have k9:H9[H8.length]?=some {c:=YB}:=by rw[hH9,Qh (Qs _),Q7];rfl
 have htl:=(Qg.1 htx).1
 have xall:∀y∈bs++Yu bs.length,y<256:=fun y hy=>(QC.1 hy).elim (xb y) (Oh _ y)
 have hm:(bs++Yu bs.length).length=64*((bs++Yu bs.length).length/64):=by
  have:=RV bs.length
  rw[lall];omega
 obtain⟨H10,hre,hst,l10,p10⟩:=dW (B:=H.length) (tid:=tid) (kid:=H6.length) (sid:=H7.length+1) (u:=H8.length) qr qr qr qr (u9 (u8' (u7 ((q6 _ qr).trans gB)))) k9 (u9 (u8' k7)) (u9 (u8' (u7 htx))) (u9 k8) qr xall hm
 obtain⟨s',H11,hro,hg11,l11,p11⟩:=dO (B:=H.length) (N:=H9.length) qr qr hst l10 (Bp _ _) (fun w hw=>Yl (Aw _ _ w hw))
 have hsha:Wz (US ((bs++Yu bs.length).length/64) (bs++Yu bs.length))=VG bs:=rfl
 rw[hsha]at hg11
 have pH:∀i,i<H.length->H11[i]?=H[i]? := fun i hi=>by
  rw[p11 i qr,p10 i qr qr,hH9,Qc qr,hH8,Qc qr,hH7,Qc qr,q6 i qr,hG1,Qc hi]
 obtain⟨l,rfl⟩:=XG (H:=H) qr pH
 refine⟨s',l,?_,Grown.weak hg11 qr⟩
 have F1:H++[({c:=KW sv}:Ob)]=G1:=hG1.symm
 have F7:H6++[({c:=ns .u64 Ky}:Ob)]=H7:=hH7.symm
 have F9:H8++[({c:=YB}:Ob)]=H9:=hH9.symm
 have B7:∀m:List Ob,(H7++m)[H.length]?=some {c:=KW sv}:=fun m=>by rw[Qc qr];exact u7 ((q6 _ qr).trans gB)
 have B8:H8[H.length]?=some {c:=KW sv}:=u8' (u7 ((q6 _ qr).trans gB))
 have c0:=vR sv
 have c3:=vQ sv
 have lsh:=NM sv
 have htu:((KW sv).drop 4).take 12=YB:=rfl
 have hz16:(Qa 8 [Value.int .u8 0]).flatten=u8s (Qa 8 0):=rfl
 have f128:fillL [Value.int .u8 0] [(0,1,.int .u8 128)]=some [.int .u8 128]:=rfl
 have f0:fillL ([]:List Value) []=some []:=rfl
 have hlen:=YH (bs:=bs)
 have w1:IntKind.u64.wrap (bs.length:Int)=(bs.length:Nat):=Kz qr
 have im1:Q1 H.length [] [G1.length]=[]:=QB (by simp;omega)
 have im2:Q1 H.length [] M6=[]:=QB fun i hi=>by have:=hM6 i hi;omega
 have im3:Q1 H.length [] [H8.length]=[]:=QB (by simp;omega)
 have ltu:=N6
 rw[F7]at htb
 simp only[Lp,RR,FB,My,Qn,Ql,QA,<-hH5]at h4 h7 hre hro
 rw[<-hsv]at hap
 clear hG1 hH3 hH5 hH7 hH8 hH9 hg3 hg4 hg5 hg6 hg11 he5 p3 p4 p6 p10 p11 pH q6 u7 u8' u9 gh hh k7 k8 k9 htx hst hsha xall hm hall
 generalize KW sv=sc at *
 generalize YB=tc at *
 generalize u8s (Qa 8 0)=Z16 at *
 generalize hbl:bs.length=n at *
 generalize(bs++Yu n).length=LL at *
 rw[QY (fn:=pU) rfl]
 simp only[pU,Qr,quiet,cW,↓pW,reduceCtorEq,seval,-Qb,hok,F1,gB,c0,c3,h2b,f128,h80,h4,hz16,hlen,w1,h7,ha6,htb,f0,hap,B7,B8,htu,lsh,ltu,F9,hre,hro,im1,im2,im3,Qx,Qe]
end Go.Ev.YtoipgdjfhahimaaGreat
namespace Go.Ev.YtoipgdjfhahimaaGreat
open Go Go.Ev
attribute [local congr] JE JW JD JX Jz
set_option maxRecDepth 100000
variable{H:List Ob}{a b s:List Nat}{pv:Value}{ps:List (List Nat)}{m n B i:Nat}
def Sp(tid:Nat)(Hm:List Ob)(X:List Nat)(i:Nat)(ex:Env):St:=⟨[(2,.pointer (0:Nat)),(4,.slice tid 32 32),(5,.pointer Hm.length),(6,.int .i64 i)]++ex,Hm++[{c:=u8s X}],[]⟩
theorem dG{tid:Nat}{Hm:List Ob}{S:List Nat}{x:Bool}(ht:Hm[tid]?=some ⟨u8s S,true,true,x,1⟩)(lS:S.length=32) :
  Q0 T 0 (.block 0 (.loop Rh)) (Sp tid Hm (Qa 32 0) 0 [])=some (.normal,Sp tid Hm S 32 [(17,.bool false)]):=by
 have h:=ZR (T:=T) (base:=0) (id:=0) (body:=Rh) (fun i=>Sp tid Hm (pf 32 S i) i []) (s':=Sp tid Hm S 32 [(17,.bool false)]) 32
  (fun i hi=>by
   obtain⟨w,hw⟩:∃w,S[i]?=some w:=⟨_,Qf qr⟩
   have hstep:=XD lS hi hw
   have hset:=Xc (pf 32 S i) i w
   rw[hstep]at hset
   have hle:i+1<=(u8s (pf 32 S i)).length:=by rw[Qq,Kd lS qr];omega
   have e1:((i:Int)<32)=True:=wf
   have w3:IntKind.i64.wrap ((i:Int)+1)=((i+1:Nat):Int):=Z3 (b:=1) qr
   have gt:∀m:List Ob,(Hm++m)[tid]?=some ⟨u8s S,true,true,x,1⟩:=fun m=>by rw[Qc (Qg.1 ht).1];exact ht
   have gw:(u8s S)[i]?=some (.int .u8 (w:Nat)):=Js hw
   have im:Q1 0 [] [Hm.length]=[]:=QB wd
   generalize pf 32 S i=O1,pf 32 S (i+1)=O2 at *
   generalize hi1:i+1=i1 at *
   simp only[Sp,Rh,Qr,quiet,cW,↓pW,reduceCtorEq,seval,-Qb,e1,w3,gt,gw,hset,hle,im,hi1])
  (by
   rw[Ke lS]
   simp only[Sp,Rh,Qr,quiet,cW,↓pW,reduceCtorEq,seval,-Qb])
 rw[Kc]at h
 exact h
theorem RN{bs:List Nat}(xb:∀y∈bs,y<256)(hb:bs.length<2^46):evVal T 61 [QX bs]=some (.agg (u8s (VG bs)).toArray):=by
 have hz64:Qa 32 (Value.int .u8 0)=u8s (Qa 32 0):=rfl
 have lz64:(Qa 32 0).length=32:=Qe
 obtain⟨G,hG⟩:∃X,X=[({c:=u8s (Qa 32 0)}:Ob),{c:=KW (.slice (2:Nat) 8 8)},{c:=ns .u64 XL}]:=⟨_,rfl⟩
 obtain⟨s,l,h1,hg⟩:=kC (H:=G) (hid:=2) (xe:=true) xb hb (by rw[hG];rfl)
 have lS:=Wo bs
 obtain⟨tid,x,rfl,h2,h3⟩:=Grown.ob hg qr
 rw[lS]at h1
 have h4:=dG (tid:=tid) h3 lS
 obtain⟨G2,hG2⟩:∃X,X=G++l:=⟨_,rfl⟩
 have g0:∀m:List Ob,(G2++m)[0]?=some {c:=u8s (Qa 32 0)}:=fun m=>by rw[hG2,hG];rfl
 have s1:∀(m:List Ob) (o:Ob),(G2.set 0 o++m)[0]?=some o:=fun m o=>by rw[hG2,hG];rfl
 have s0:∀(m:List Ob) (o:Ob),(G2++m).set 0 o=(G2.set 0 o)++m:=fun m o=>by rw[hG2,hG];rfl
 rw[<-hG2]at h1 h4
 simp only[Sp,Qn,Ql,QA]at h4
 have fI:fillL (Qa 8 (Value.int .u64 0)) [(0,1,.int .u64 1779033703),(1,1,.int .u64 3144134277),(2,1,.int .u64 1013904242),(3,1,.int .u64 2773480762),(4,1,.int .u64 1359893119),(5,1,.int .u64 2600822924),(6,1,.int .u64 528734635),(7,1,.int .u64 1541459225)]=some (ns .u64 XL):=rfl
 rw[hG]at h1
 clear hg h3 hG hG2
 have fT:fillL [Value.int .i64 0,.int .i64 0,.int .i64 0,.slice none 0 0,.int .i64 0,.int .i64 0,.int .i64 0,.int .i64 0,.int .i64 0,.int .i64 0,.int .i64 0,.int .i64 0,.int .i64 0,.int .i64 0,.int .i64 0,.int .i64 0] [(0,1,.int .i64 32),(1,1,.int .i64 64),(2,1,.int .i64 64)]=some ([Value.int .i64 32,.int .i64 64,.int .i64 64,.slice none 0 0]++Qa 12 (.int .i64 0)):=rfl
 have f12:fillL (Qa 12 (Value.int .i64 0)) [(0,1,.int .i64 7),(1,1,.int .i64 18),(2,1,.int .i64 3),(3,1,.int .i64 17),(4,1,.int .i64 19),(5,1,.int .i64 10),(6,1,.int .i64 2),(7,1,.int .i64 13),(8,1,.int .i64 22),(9,1,.int .i64 6),(10,1,.int .i64 11),(11,1,.int .i64 25)]=some YB:=rfl
 have hs3:([Value.int .i64 32,.int .i64 64,.int .i64 64,.slice none 0 0]++Qa 12 (Value.int .i64 0)).set 3 (Value.slice (2:Nat) 8 8)=[Value.int .i64 32,.int .i64 64,.int .i64 64,.slice (2:Nat) 8 8]++Qa 12 (Value.int .i64 0):=rfl
 have hs4:splice ([Value.int .i64 32,.int .i64 64,.int .i64 64,.slice (2:Nat) 8 8]++Qa 12 (Value.int .i64 0)) 4 YB=KW (.slice (2:Nat) 8 8):=rfl
 have lc1:([Value.int .i64 32,.int .i64 64,.int .i64 64,.slice none 0 0]++Qa 12 (Value.int .i64 0)).length=16:=rfl
 have lc2:([Value.int .i64 32,.int .i64 64,.int .i64 64,.slice (2:Nat) 8 8]++Qa 12 (Value.int .i64 0)).length=16:=rfl
 have lsh:=NM (.slice (2:Nat) 8 8)
 have ltu:=N6
 have fz:fillL (u8s (Qa 32 0)) []=some (u8s (Qa 32 0)):=rfl
 generalize[Value.int .i64 32,.int .i64 64,.int .i64 64,.slice none 0 0]++Qa 12 (Value.int .i64 0)=C1 at *
 generalize[Value.int .i64 32,.int .i64 64,.int .i64 64,.slice (2:Nat) 8 8]++Qa 12 (Value.int .i64 0)=C2 at *
 generalize KW (.slice (2:Nat) 8 8)=C3 at *
 generalize YB=TU at *
 generalize VG bs=S,Qa 32 0=Z64 at *
 apply QE (fn:=yh) rfl
 simp only[yh,Qr,quiet,cW,↓pW,reduceCtorEq,seval,-Qb,hz64,fz,fI,fT,f12,hs3,hs4,lc1,lc2,lsh,ltu,h1,h4,g0,s0,s1,Qy,Q5,Za,Q6,Qq,lz64,lS,Qx,Qe,QR]
 rfl
theorem SJ(p:Go.Cv.Pt Go.Fp.P Go.Fp.d):JH p XM=p:=Go.Cv.add_zero Go.Fp.fld p
theorem MA(p:Go.Cv.Pt Go.Fp.P Go.Fp.d):JH p p.neg=XM:=Go.Cv.add_neg Go.Fp.fld p
theorem Of(a b:Nat)(p:Go.Cv.Pt Go.Fp.P Go.Fp.d):ZQ (a+b) p=JH (ZQ a p) (ZQ b p):=Go.Cv.mul_add Go.Fp.fld a b p
theorem M8(a b:Nat)(p:Go.Cv.Pt Go.Fp.P Go.Fp.d):ZQ (a*b) p=ZQ a (ZQ b p):=Go.Cv.Az Go.Fp.fld a b p
theorem Oe{l:Nat}{p:Go.Cv.Pt Go.Fp.P Go.Fp.d}(hl:ZQ l p=XM)(k:Nat):ZQ (k%l) p=ZQ k p:=Go.Cv.mul_mod Go.Fp.fld hl k
theorem Ii(k:Nat):ZQ k XM=XM:=Go.Cv.mul_zero Go.Fp.fld k
abbrev LtN(n:Nat):Nat->Prop:=fun i=>i<n
theorem HPart.arr{n id off m c:Nat}{H:List Ob}{b:List Nat}{w e:Bool}{s:Nat}(hid:id<n)(h:H[id]?=some ⟨u8s b,true,w,e,s⟩)(hb:∀y∈b,y<256)(hl:off+m<=b.length)(hm:m<=2^47-4096):HPart (LtN n) H (.slice (some ⟨id,off,none⟩) m c) ((b.drop off).take m):=by
 have hlen:((b.drop off).take m).length=m:=by rw[Q3,QN];omega
 refine⟨⟨_,_,by rw[hlen]⟩,fun G hG =>?_,fun y hy=>hb y (ZF (QP hy)),by rw[hlen];omega⟩
 have hg:=(hG id hid).trans h
 rw[hlen]
 simp[elemsOf,Zz hg rfl,Qq,hl]
 simp[u8s,List.map_take,List.map_drop]
theorem HPart.whole{n id c:Nat}{H:List Ob}{b:List Nat}{w e:Bool}{s:Nat}(hid:id<n)(h:H[id]?=some ⟨u8s b,true,w,e,s⟩)(hb:∀y∈b,y<256)(hm:b.length<=2^47-4096):HPart (LtN n) H (.slice id b.length c) b:=by
 have:=HPart.arr (off:=0) (m:=b.length) (c:=c) hid h hb qr hm
 rwa[ZS,List.take_length]at this
theorem HPart.ext{n m:Nat}{H G:List Ob}{x:Value}{p:List Nat}(h:HPart (LtN n) H x p)(hg:∀i,i<n->G[i]?=H[i]?)(hnm:n<=m):HPart (LtN m) G x p :=
 ⟨h.shape,fun G' hG'=>h.reads G' fun i hi=>(hG' i (QM hi hnm)).trans (hg i hi),h.lt,h.le⟩
theorem HParts.ext{n m:Nat}{H G:List Ob}{xs:List Value}{ps:List (List Nat)}(h:HParts (LtN n) H xs ps)(hg:∀i,i<n->G[i]?=H[i]?)(hnm:n<=m):HParts (LtN m) G xs ps:=by
 induction h with
 |nil=>exact .nil
 |cons a _ ih=>exact .cons (a.ext hg hnm) ih
theorem HParts.append{K:Nat->Prop}{H:List Ob}{xs ys:List Value}{ps qs:List (List Nat)}(h:HParts K H xs ps)(k:HParts K H ys qs):HParts K H (xs++ys) (ps++qs):=by
 induction h with
 |nil=>exact k
 |cons a _ ih=>exact .cons a ih
structure Args1(H:List Ob)(pv:Value)(ps:List (List Nat))(xs:List Value):Prop where
 inPv:PV (LtN H.length) H pv xs
 parts:HParts (LtN H.length) H xs ps
 few:xs.length<2^40
 len:Go.Ev.lenV pv=some xs.length
 reads:∀G:List Ob,(∀i,i<H.length->G[i]?=H[i]?)->elemsOf G 1 xs.length pv=some xs
def Args(H:List Ob)(pv:Value)(ps:List (List Nat)):Prop:=∃xs,Args1 H pv ps xs
theorem Args.ext{H G:List Ob}{pv:Value}{ps:List (List Nat)}(h:Args H pv ps)(hg:∀i,i<H.length->G[i]?=H[i]?)(hl:H.length<=G.length):Args G pv ps:=by
 obtain⟨xs,h1,h2,h3,h4,h5⟩:=h
 refine⟨xs,?_,h2.ext hg hl,h3,h4,fun G' hG'=>h5 G' fun i hi=>(hG' i (QM hi hl)).trans (hg i hi)⟩
 rcases h1 with h|⟨pid,off,cap,o,a1,a2,a3,a4,a5⟩
 ·exact .inl h
 ·exact .inr ⟨pid,off,cap,o,a1,QM a2 hl,(hg pid a2).trans a3,a4,a5⟩
theorem Args.app{H l:List Ob}{pv:Value}{ps:List (List Nat)}(h:Args H pv ps):Args (H++l) pv ps:=h.ext (fun i hi=>Qc hi) wd
theorem Args.nothing(H:List Ob):Args H (.slice none 0 0) []:=⟨[],.inl ⟨rfl,rfl⟩,.nil,by decide,rfl,fun _ _=>rfl⟩
theorem Args.arr{H:List Ob}{a n c:Nat}{e:Bool}{s:Nat}{ys:List Value}{qs:List (List Nat)}(ha:H[a]?=some ⟨ys,true,true,e,s⟩)(hn:ys.length=n)(hys:HParts (LtN H.length) H ys qs)(hf:n<2^40):Args H (.slice a n c) qs:=by
 subst hn
 refine⟨ys,.inr ⟨a,0,c,_,rfl,(Qg.1 ha).1,ha,rfl,fun i _=>by rw[QL]⟩,hys,hf,rfl,fun G hG =>?_⟩
 have hg:=(hG a (Qg.1 ha).1).trans ha
 simp[elemsOf,Zz hg rfl]
theorem Hs{a:Nat}{ys:List Value}{qs:List (List Nat)}(ha:H[a]?=some {c:=ys})(hn:ys.length=n)(hys:HParts (LtN H.length) H ys qs)(hp:Args H pv ps)(h10:n<=10)(hps:ps.length<=1000) :
  ∃v' l,Jw 1 24 H (.slice a n n) pv=some (v',H++l,none,[])/\Args (H++l) v' (qs++ps):=by
 have hAr:Args H (.slice a n n) qs:=Args.arr ha hn hys qr
 subst hn
 obtain⟨xs,hp⟩:=hp
 have h4:liveAt H a=some {c:=ys}:=Zz ha rfl
 have h8:elemsOf H 1 ys.length (.slice a ys.length ys.length)=some ys:=by simp[elemsOf,h4]
 have k1:=hp.len
 have k2:=hp.reads H (fun _ _=>rfl)
 have k3:=hp.few
 have k4:=hp.parts.len
 rcases Jo xs.length with h0|h0
 ·have hx:xs=[]:=J7 h0
  have hps':ps=[]:=J7 (by rw[hp.parts.len,h0])
  subst hx hps'
  refine⟨.slice a ys.length ys.length,[],?_,by rw[QG,QG];exact hAr⟩
  rw[ZT]at k1 k2
  simp only[Jw,k1,k2,Qp,if_true,QG]
 ·have h1:¬xs.length=0:=qr
  have h2:(ys.length+xs.length)*24<=2^47:=qr
  have h7:¬(ys.length+xs.length<=ys.length):=qr
  refine⟨.slice H.length (ys.length+xs.length) (ys.length+xs.length),[Ob.grown 1 (ys++xs)],?_,?_⟩
  ·simp only[Jw,k1,k2,Qp,if_neg h1,h2,PI,gY,BO,and_self,not_true_eq_false,if_false,if_true,h4,h8,if_neg h7]
  ·refine Args.arr (ys:=ys++xs) (e:=false) (s:=1) (by rw[Qh (Qs _),Q7];rfl) wd ?_ qr
   exact(hys.ext (fun i hi=>Qc hi) wd).append (hp.parts.ext (fun i hi=>Qc hi) wd)
theorem NG(h:Args H pv ps)(hb:ps.flatten.length<2^49):∃l,Z6 T 133 [pv] H=some (.agg (u8s (sha ps.flatten)).toArray,H++l,[]):=by
 obtain⟨xs,h⟩:=h
 have:=h.few
 exact du h.inPv h.parts qr hb
def RO(b:List Nat):List Nat:=rd (sha b)
theorem GP:(RO b).length=32:=S6
theorem M0:∀x∈RO b,x<256:=rd_lt
theorem UT(h:Args H pv ps)(hb:ps.flatten.length<2^49) :
  ∃l,Z6 T 66 [pv] H=some (.agg (u8s (RO ps.flatten)).toArray,H++l,[]):=by
 have hz:Qa 32 (Value.int .u8 0)=u8s (dig 256 32 0):=rfl
 have lz:(dig 256 32 0).length=32:=rfl
 have hz64:=KO
 have lz64:(Qa 64 0).length=64:=Qe
 obtain⟨l1,h1⟩:=NG (h.app (l:=[{c:=u8s (dig 256 32 0)}])) hb
 have ls:=Yz ps.flatten
 have xs:=DK ps.flatten
 obtain⟨G,hG⟩:∃X,X=H++({c:=u8s (dig 256 32 0)}::(l1++[{c:=u8s (sha ps.flatten)},{c:=[.slice (H.length+(l1.length+1):Nat) 64 64]}])):=⟨_,rfl⟩
 have hGl:G.length=H.length+(l1.length+3):=by rw[hG];simp
 have hg1:G[H.length+(l1.length+1)]?=some {c:=u8s (sha ps.flatten)}:=by
  rw[hG,Qh qr,Q2,JU,Qh (Qs _),Q7];rfl
 have hg2:G[H.length+(l1.length+1+1)]?=some {c:=[.slice (H.length+(l1.length+1):Nat) 64 64]}:=by
  rw[hG,Qh qr,Q2,JU,Qh qr,Q2];rfl
 have hP:pZ .u8 G (H.length+(l1.length+1+1)) 0 [sha ps.flatten]:=by
  refine⟨_,Zz hg2 rfl,fun i p hi =>?_⟩
  cases i with
  |zero =>
   simp at hi;subst hi
   refine⟨_,rfl,?_⟩
   have:=Sl.mk (k := .u8) (c:=64) (off:=0) (l:=sha ps.flatten) (Zz hg1 rfl) (by simp[Qq]) (fun i x hx=>by rw[QL];exact Js hx)
   rwa[ls]at this
  |succ i=>simp at hi
 obtain⟨l2,h2⟩:=dV (c:=1) (n:=1) hP rfl ww (by simp[ls]) (by simpa using xs)
 rw[QO,Jh,QG]at h2
 have hfr:∀i,i<H.length->((G++l2).set H.length ({c:=u8s (RO ps.flatten)}:Ob))[i]?=H[i]? := fun i hi=>by
  rw[Qu qr,Qc qr,hG,Qc hi]
 obtain⟨l,hl⟩:=XG (H:=H) (by rw[Q4,Qj];omega) hfr
 refine⟨l,?_⟩
 rw[<-hl]
 have g4:∀o:Ob,((G++l2).set H.length o)[H.length]?=some o:=fun o=>Qw (by rw[Qj];omega)
 have f1:fillL [Value.slice none 0 0] [(0,1,.slice (H.length+(l1.length+1):Nat) 64 64)]=some [.slice (H.length+(l1.length+1):Nat) 64 64]:=rfl
 have lr:=GP (b:=ps.flatten)
 rw[show dig 256 32 (num 256 (sha ps.flatten)%ell)=RO ps.flatten from rfl]at h2
 have F1:H++({c:=u8s (dig 256 32 0)}::(l1++[{c:=u8s (sha ps.flatten)},{c:=[.slice (H.length+(l1.length+1):Nat) 64 64]}]))=G:=hG.symm
 have hg3:(G++l2)[H.length]?=some {c:=u8s (dig 256 32 0)}:=by
  rw[Qc qr,hG,Qh (Qs _),Q7];rfl
 rw[Qt,Qn,Ql]at h1
 generalize RO ps.flatten=R at *
 generalize sha ps.flatten=S at *
 generalize dig 256 32 0=Z at *
 generalize Qa 64 0=Z64 at *
 rw[QY (fn:=zd) rfl]
 simp only[zd,Qr,quiet,cW,↓pW,reduceCtorEq,seval,-Qb,hz,hz64,h1,f1,F1,h2,hg3,g4,Qy,Q5,Za,Q6,Qq,lz,lz64,ls,lr,Qx,Qe]
def scL(s:List Nat):List Nat:=KH ((sha s).take 32) ((sha s).getD 0 0) ((sha s).getD 31 0)
def pfL(s:List Nat):List Nat:=(sha s).drop 32
theorem W8(s:List Nat):(scL s).length=32:=by simp[scL,KH,Yz]
theorem HK(s:List Nat):(pfL s).length=32:=by simp[pfL,Yz]
theorem GL(s:List Nat)(h:i<64):∃x,(sha s)[i]?=some x/\(sha s).getD i 0=x/\x<256:=by
 obtain⟨x,hx⟩:∃x,(sha s)[i]?=some x:=⟨_,Qf (by rw[Yz];exact h)⟩
 exact⟨x,hx,JQ hx,DK s x (Qo hx)⟩
theorem AS(s:List Nat):∀y∈scL s,y<256:=by
 obtain⟨x,-,e1,lx⟩:=GL s (i:=0) ww
 obtain⟨z,-,e2,lz⟩:=GL s (i:=31) ww
 have h1:x&&&248<256:=Kb (n:=8) _ ww
 have h2:(z&&&127)|||64<256:=XP (n:=8) (Kb (n:=8) _ ww) ww
 rw[scL,KH,e1,e2]
 exact VH (VH (fun y hy=>DK s y (QP hy)) h1) h2
theorem wu(s:List Nat):∀y∈pfL s,y<256:=fun y hy=>DK s y (ZF hy)
theorem VF(n:Nat)(l:List Nat):Zi n (u8s l)=u8s (l.take n):=by simp[u8s,List.map_take]
theorem GG(n:Nat)(l:List Nat):J2 n (u8s l)=u8s (l.drop n):=by simp[u8s,List.map_drop]
theorem JF(a b:List Nat):u8s (a++b)=u8s a++u8s b:=by simp[u8s]
theorem XF(la:a.length=32)(lb:b.length=32):fillL (u8s (Qa 64 0)) [(0,32,.agg (u8s a).toArray),(32,32,.agg (u8s b).toArray)]=some (u8s (a++b)):=by
 have l64:(u8s (Qa 64 0)).length=64:=by rw[Qq,Qe]
 have lA:(u8s a).length=32:=by rw[Qq,la]
 have lB:(u8s b).length=32:=by rw[Qq,lb]
 have ca:∀l:List Nat,(Value.agg (u8s l).toArray).cells.toList=u8s l:=fun _=>rfl
 have cz:∀l:List Nat,(Value.agg (u8s l).toArray).cells.size=(u8s l).length:=fun _=>rfl
 have ok:∀l:List Nat,Z7 (Value.agg (u8s l).toArray)=true:=fun _=>rfl
 have s1:splice (u8s (Qa 64 0)) 0 (u8s a)=u8s a++(u8s (Qa 64 0)).drop 32:=by
  rw[Vh _ _ _ qr,Xi,Ql,QL,lA]
 have s2:splice (u8s a++(u8s (Qa 64 0)).drop 32) 32 (u8s b)=u8s (a++b):=by
  rw[Vh _ _ _ (by rw[Qj,QN];omega),ZO qr,Qm qr,Zu (by rw[Qj,QN];omega),QG,JF]
 have e1:(u8s a).length=32/\0+32<=(u8s (Qa 64 0)).length/\True:=⟨lA,by omega,trivial⟩
 have e2:(u8s b).length=32/\32+32<=(u8s a++(u8s (Qa 64 0)).drop 32).length/\True:=⟨lB,by rw[Qj,QN];omega,trivial⟩
 simp only[fillL,ca,cz,ok,s1,s2,if_pos e1,if_pos e2]
theorem OT(ls:s.length=32)(xs:∀y∈s,y<256):evVal T 102 [.agg (u8s s).toArray]=some (.agg (u8s (scL s++pfL s)).toArray):=by
 have hz64:=KO
 have lz64:(Qa 64 0).length=64:=Qe
 obtain⟨G,hG⟩:∃X,X=[({c:=u8s s}:Ob),{c:=u8s (Qa 64 0)},{c:=[.slice (0:Nat) 32 32]}]:=⟨_,rfl⟩
 have hA:Args G (.slice (2:Nat) 1 1) [s]:=by
  have hp:HPart (LtN G.length) G (.slice (0:Nat) 32 32) s:=by
   have:=HPart.whole (n:=G.length) (H:=G) (id:=0) (c:=32) (b:=s) (by rw[hG];exact PI _) (by rw[hG];rfl) xs (by rw[ls];decide)
   rwa[ls]at this
  exact Args.arr (ys:=[.slice (0:Nat) 32 32]) (e:=true) (s:=1) (by rw[hG];rfl) rfl (.cons hp .nil) ww
 obtain⟨l,h1⟩:=NG hA (by simp[ls])
 rw[QO,Jh,QG,hG]at h1
 simp only[Qn,Ql]at h1
 obtain⟨x,g0,d0,lx⟩:=GL s (i:=0) ww
 obtain⟨z,g31,d31,lz⟩:=GL s (i:=31) ww
 have lS:=Yz s
 have lt32:((sha s).take 32).length=32:=by rw[Q3,lS];rfl
 obtain⟨lc,hc⟩:=Px (a:=(sha s).take 32) (x:=x) (y:=z) lt32 (by rw[QW,if_pos ww];exact g0) (by rw[QW,if_pos ww];exact g31) lx lz
 have hcv:=Uq hc
 rw[show KH ((sha s).take 32) x z=scL s by rw[scL,d0,d31]]at hcv
 have hf:=XF (W8 s) (HK s)
 have f1:fillL [Value.slice none 0 0] [(0,1,.slice (0:Nat) 32 32)]=some [.slice (0:Nat) 32 32]:=rfl
 have t1:Zi 32 (u8s (sha s))=u8s ((sha s).take 32):=VF _ _
 have t2:Zi 32 (J2 32 (u8s (sha s)))=u8s (pfL s):=by rw[GG,VF,Qm (by rw[QN,lS];decide)];rfl
 have l1:=W8 s
 have l2:=HK s
 have l3:(scL s++pfL s).length=64:=by rw[Qj,l1,l2]
 clear hG hA
 generalize(sha s).take 32=S1,pfL s=S2,scL s=S3 at *
 generalize S3++S2=R at *
 generalize sha s=S,Qa 64 0=Z64 at *
 apply QE (fn:=ze) rfl
 simp only[ze,Qr,quiet,cW,↓pW,reduceCtorEq,seval,-Qb,hz64,h1,f1,t1,t2,hcv,hf,Qy,Q5,Za,Q6,Qq,ls,lS,lz64,l1,l2,l3,lt32,Qx,Qe]
 rfl
def YC(s:List Nat):List Nat:=enc (ZQ (num 256 (scL s)) JZ)
theorem mg(ls:s.length=32)(xs:∀y∈s,y<256):evVal T 54 [.agg (u8s s).toArray]=some (.agg (u8s (YC s)).toArray):=by
 have hz:Qa 32 (Value.int .u8 0)=u8s (dig 256 32 0):=rfl
 have lz:(dig 256 32 0).length=32:=rfl
 have hh:=OT ls xs
 obtain⟨B,hB,rB⟩:=ba
 obtain⟨P,hP,rP⟩:=Uj rB (W8 s) (AS s)
 have hE:=MU rP
 have lE:=YP (ZQ (num 256 (scL s)) JZ)
 have l1:=W8 s
 have l2:=HK s
 have t1:Zi 32 (u8s (scL s++pfL s))=u8s (scL s):=by rw[VF,ZO qr,Qm qr]
 have l3:(scL s++pfL s).length=64:=by rw[Qj,l1,l2]
 unfold YC
 generalize enc (ZQ (num 256 (scL s)) JZ)=E,scL s++pfL s=R at *
 generalize scL s=S3,dig 256 32 0=Z at *
 apply QE (fn:=zf) rfl
 simp only[zf,Qr,quiet,cW,↓pW,reduceCtorEq,seval,-Qb,hz,hh,hB,hP,hE,t1,Qy,Q5,Za,Q6,Qq,ls,lz,l1,l3,lE,Qx,Qe,QR]
 rfl
def rL(s m:List Nat):List Nat:=RO (pfL s++m)
def frL(s m:List Nat):List Nat:=enc (ZQ (num 256 (rL s m)) JZ)
def chL(front pub m:List Nat):List Nat:=RO (front++(pub++m))
def bkL(s m:List Nat):List Nat:=mA (chL (frL s m) (YC s) m) (scL s) (rL s m)
def GK(s m:List Nat):List Nat:=frL s m++bkL s m
theorem HV(s m:List Nat):(frL s m).length=32:=YP _
theorem ou(s m:List Nat):∀y∈frL s m,y<256:=aK _
theorem YI(s:List Nat):(YC s).length=32:=YP _
theorem bN(s:List Nat):∀y∈YC s,y<256:=aK _
theorem da(s m:List Nat):(bkL s m).length=32:=wW
theorem xR(s m:List Nat):∀y∈bkL s m,y<256:=mA_lt
theorem Mu(s m:List Nat):(GK s m).length=64:=by rw[GK,Qj,HV,da]
theorem qG(s m:List Nat):∀y∈GK s m,y<256:=by
 intro y hy
 rcases QC.1 hy with h|h
 ·exact ou s m y h
 ·exact xR s m y h
theorem IV{a b c:Nat}{fa fb:List Nat}{e:Bool}{s:Nat}(ha:H[a]?=some {c:=u8s fa})(hb:H[b]?=some ⟨u8s fb,true,true,e,s⟩)(hn:fa.length=n)(hm:fb.length=m)(h0:0<m)(hs:n+m<=1000) :
  Jw 1 1 H (.slice a n n) (.slice b m c)=some (.slice H.length (n+m) (n+m),H++[⟨u8s (fa++fb),true,true,false,1⟩],none,[]):=by
 have h4:liveAt H a=some {c:=u8s fa}:=Zz ha rfl
 have k2:elemsOf H 1 m (.slice b m c)=some (u8s fb):=by
  simp[elemsOf,Zz hb rfl,Qq,hm]
  exact Qm (by rw[Qq,hm];exact Qs _)
 have h8:elemsOf H 1 n (.slice a n n)=some (u8s fa):=by
  simp[elemsOf,h4,Qq,hn]
  exact Qm (by rw[Qq,hn];exact Qs _)
 have h1:¬m=0:=qr
 have h2:(n+m)*1<=2^47:=qr
 have h7:¬(n+m<=n):=qr
 have k1:Go.Ev.lenV (.slice b m c)=some m:=rfl
 simp only[Jw,k1,k2,Qp,if_neg h1,h2,PI,gY,BO,and_self,not_true_eq_false,if_false,if_true,h4,h8,if_neg h7,Ob.grown,<-JF]
theorem sM(ls:s.length=32)(xs:∀y∈s,y<256)(hp:Args H pv ps)(hn:ps.length<=1000)(hb:ps.flatten.length<2^48) :
  ∃l,Z6 T 53 [.agg (u8s s).toArray,pv] H=some (.agg (u8s (GK s ps.flatten)).toArray,H++l,[]):=by
 have hz:Qa 32 (Value.int .u8 0)=u8s (dig 256 32 0):=rfl
 have lz:(dig 256 32 0).length=32:=rfl
 have hz64:=KO
 have lz64:(Qa 64 0).length=64:=Qe
 have hh:=OT ls xs
 have l1:=W8 s
 have l2:=HK s
 have l3:(scL s++pfL s).length=64:=by rw[Qj,l1,l2]
 have x3:∀y∈scL s++pfL s,y<256:=fun y hy=>(QC.1 hy).elim (AS s y) (wu s y)
 obtain⟨B,hB,rB⟩:=ba
 obtain⟨P,hP,rP⟩:=Uj rB (W8 s) (AS s)
 have hE:=MU rP
 rw[show enc (ZQ (num 256 (scL s)) JZ)=YC s from rfl]at hE
 have lA:=YI s
 obtain⟨G1,hG1⟩:∃X,X=H++[({c:=u8s s}:Ob),{c:=u8s (Qa 64 0)},{c:=u8s (scL s++pfL s)},{c:=u8s (YC s)},{c:=[.slice (some ⟨H.length+2,32,none⟩) 32 32]}]:=⟨_,rfl⟩
 have lG1:G1.length=H.length+5:=by rw[hG1];simp
 have gz:G1[H.length+1]?=some {c:=u8s (Qa 64 0)}:=by rw[hG1,Qh qr,Q2];rfl
 have gh:G1[H.length+2]?=some {c:=u8s (scL s++pfL s)}:=by rw[hG1,Qh qr,Q2];rfl
 have gA:G1[H.length+3]?=some {c:=u8s (YC s)}:=by rw[hG1,Qh qr,Q2];rfl
 have ga:G1[H.length+4]?=some {c:=[.slice (some ⟨H.length+2,32,none⟩) 32 32]}:=by rw[hG1,Qh qr,Q2];rfl
 have hp1:Args G1 pv ps:=by rw[hG1];exact hp.app
 have part1:HPart (LtN G1.length) G1 (.slice (some ⟨H.length+2,32,none⟩) 32 32) (pfL s):=by
  have:=HPart.arr (n:=G1.length) (off:=32) (m:=32) (c:=32) qr gh x3 (by rw[l3];decide) ww
  rwa[Jf qr,Zu qr,Ql,Qm qr]at this
 obtain⟨v1,k1,ha1,hA1⟩:=Hs (n:=1) ga rfl (.cons part1 .nil) hp1 ww hn
 obtain⟨k2,hr⟩:=UT hA1 (by rw[Jd,QO,Jh,QG,Qj,l2];omega)
 rw[Jd,QO,Jh,QG,show RO (pfL s++ps.flatten)=rL s ps.flatten from rfl]at hr
 have lr:(rL s ps.flatten).length=32:=GP
 obtain⟨G2,hG2⟩:∃X,X=G1++(k1++k2):=⟨_,rfl⟩
 have lG2:G1.length<=G2.length:=by rw[hG2];simp
 obtain⟨P2,hP2,rP2⟩:=Uj rB lr M0
 have hE2:=MU rP2
 rw[show enc (ZQ (num 256 (rL s ps.flatten)) JZ)=frL s ps.flatten from rfl]at hE2
 have lF:=HV s ps.flatten
 obtain⟨G3,hG3⟩:∃X,X=G2++[({c:=u8s (rL s ps.flatten)}:Ob),{c:=u8s (frL s ps.flatten)},{c:=[.slice (G2.length+1:Nat) 32 32,.slice (H.length+3:Nat) 32 32]}]:=⟨_,rfl⟩
 have lG3:G3.length=G2.length+3:=by rw[hG3];simp
 have up13:∀i,i<G1.length->G3[i]?=G1[i]? := fun i hi=>by rw[hG3,Qc qr,hG2,Qc hi]
 have hr3:G3[G2.length]?=some {c:=u8s (rL s ps.flatten)}:=by rw[hG3,Qh (Qs _),Q7];rfl
 have hf3:G3[G2.length+1]?=some {c:=u8s (frL s ps.flatten)}:=by rw[hG3,Qh qr,Q2];rfl
 have harr3:G3[G2.length+2]?=some {c:=[.slice (G2.length+1:Nat) 32 32,.slice (H.length+3:Nat) 32 32]}:=by rw[hG3,Qh qr,Q2];rfl
 have hp3:Args G3 pv ps:=hp1.ext up13 qr
 have partF:HPart (LtN G3.length) G3 (.slice (G2.length+1:Nat) 32 32) (frL s ps.flatten):=by
  have:=HPart.whole (n:=G3.length) (c:=32) qr hf3 (ou s _) (by rw[lF];decide)
  rwa[lF]at this
 have partA:HPart (LtN G3.length) G3 (.slice (H.length+3:Nat) 32 32) (YC s):=by
  have:=HPart.whole (n:=G3.length) (c:=32) qr ((up13 _ qr).trans gA) (bN s) (by rw[lA];decide)
  rwa[lA]at this
 obtain⟨v3,k3,ha3,hA3⟩:=Hs (n:=2) harr3 rfl (.cons partF (.cons partA .nil)) hp3 ww hn
 obtain⟨k4,hk⟩:=UT hA3 (by rw[Jd,QO,QO,Jh,QG,Qj,Qj,lF,lA];omega)
 rw[Jd,QO,QO,Jh,QG,Qt,show RO (frL s ps.flatten++(YC s++ps.flatten))=chL (frL s ps.flatten) (YC s) ps.flatten from rfl]at hk
 have lk:(chL (frL s ps.flatten) (YC s) ps.flatten).length=32:=GP
 obtain⟨G4,hG4⟩:∃X,X=G3++(k3++k4):=⟨_,rfl⟩
 have lG4:G3.length<=G4.length:=by rw[hG4];simp
 have up34:∀i,i<G3.length->G4[i]?=G3[i]? := fun i hi=>by rw[hG4,Qc hi]
 obtain⟨q,hm⟩:=eN lk l1 lr M0 (AS s) M0
 have hmv:=Uq hm
 rw[show mA (chL (frL s ps.flatten) (YC s) ps.flatten) (scL s) (rL s ps.flatten)=bkL s ps.flatten from rfl]at hmv
 have lB:=da s ps.flatten
 obtain⟨G5,hG5⟩:∃X,X=G4++[({c:=u8s (chL (frL s ps.flatten) (YC s) ps.flatten)}:Ob),{c:=u8s (bkL s ps.flatten)}]:=⟨_,rfl⟩
 have lG5:G5.length=G4.length+2:=by rw[hG5];simp
 have hf5:G5[G2.length+1]?=some {c:=u8s (frL s ps.flatten)}:=by rw[hG5,Qc qr,up34 _ qr];exact hf3
 have hb5:G5[G4.length+1]?=some {c:=u8s (bkL s ps.flatten)}:=by rw[hG5,Qh qr,Q2];rfl
 have hap:=IV (c:=32) hf5 hb5 lF lB ww ww
 rw[show frL s ps.flatten++bkL s ps.flatten=GK s ps.flatten from rfl]at hap
 have lS:=Mu s ps.flatten
 have g4h:∀l:List Ob,(G4++l)[H.length+2]?=some {c:=u8s (scL s++pfL s)}:=fun l=>by rw[Qc qr,up34 _ qr,up13 _ qr];exact gh
 have g4r:∀l:List Ob,(G4++l)[G2.length]?=some {c:=u8s (rL s ps.flatten)}:=fun l=>by rw[Qc qr,up34 _ qr];exact hr3
 have g5z:∀l:List Ob,(G5++l)[H.length+1]?=some {c:=u8s (Qa 64 0)}:=fun l=>by rw[Qc qr,hG5,Qc qr,up34 _ qr,up13 _ qr];exact gz
 have hfr:∀i,i<H.length->((G5++[(⟨u8s (GK s ps.flatten),true,true,false,1⟩:Ob)]).set (H.length+1) ({c:=u8s (GK s ps.flatten)}:Ob))[i]?=H[i]? := fun i hi=>by
  rw[Qu qr,Qc qr,hG5,Qc qr,up34 _ qr,up13 _ qr,hG1,Qc hi]
 obtain⟨l,hl⟩:=XG (H:=H) (by rw[Q4,Qj];omega) hfr
 refine⟨l,?_⟩
 rw[<-hl]
 have g6:∀o:Ob,((G5++[(⟨u8s (GK s ps.flatten),true,true,false,1⟩:Ob)]).set (H.length+1) o)[H.length+1]?=some o:=fun o=>Qw (by rw[Qj];omega)
 have f1:fillL [Value.slice none 0 0] [(0,1,.slice (some ⟨H.length+2,32,none⟩) 32 32)]=some [.slice (some ⟨H.length+2,32,none⟩) 32 32]:=rfl
 have f2:fillL [Value.slice none 0 0,.slice none 0 0] [(0,1,.slice (G2.length+1:Nat) 32 32),(1,1,.slice (H.length+3:Nat) 32 32)]=some [.slice (G2.length+1:Nat) 32 32,.slice (H.length+3:Nat) 32 32]:=rfl
 have t1:Zi 32 (u8s (scL s++pfL s))=u8s (scL s):=by rw[VF,ZO qr,Qm qr]
 have F1:H++[({c:=u8s s}:Ob),{c:=u8s (Qa 64 0)},{c:=u8s (scL s++pfL s)},{c:=u8s (YC s)},{c:=[.slice (some ⟨H.length+2,32,none⟩) 32 32]}]=G1:=hG1.symm
 have F2:G1++(k1++k2)=G2:=hG2.symm
 have F3:G2++[({c:=u8s (rL s ps.flatten)}:Ob),{c:=u8s (frL s ps.flatten)},{c:=[.slice (G2.length+1:Nat) 32 32,.slice (H.length+3:Nat) 32 32]}]=G3:=hG3.symm
 have F4:G3++(k3++k4)=G4:=hG4.symm
 have F5:G4++[({c:=u8s (chL (frL s ps.flatten) (YC s) ps.flatten)}:Ob),{c:=u8s (bkL s ps.flatten)}]=G5:=hG5.symm
 have im1:Q1 H.length [] [G2.length]=[]:=QB (by simp;omega)
 have im2:Q1 H.length [] [G2.length+1]=[]:=QB (by simp;omega)
 have im3:Q1 H.length [] [G4.length]=[]:=QB (by simp;omega)
 have im4:Q1 H.length [] [G4.length+1]=[]:=QB (by simp;omega)
 have ls1:[Value.slice (some ⟨H.length+2,32,none⟩) 32 32].length=1:=rfl
 clear hG1 hG2 hG3 hG4 hG5 hl hfr hm hA1 hA3 partF partA part1
 rw[Qt]at hr hk
 generalize GK s ps.flatten=S,bkL s ps.flatten=Bk,chL (frL s ps.flatten) (YC s) ps.flatten=Ck at *
 generalize frL s ps.flatten=Fr,rL s ps.flatten=R,YC s=A,scL s++pfL s=Hv at *
 generalize scL s=Sc,dig 256 32 0=Z,Qa 64 0=Z64 at *
 rw[QY (fn:=zg) rfl]
 simp only[zg,Qr,quiet,cW,↓pW,reduceCtorEq,seval,-Qb,hz,hz64,hh,hB,hP,hE,f1,F1,ha1,hr,F2,hP2,hE2,f2,F3,ha3,hk,F4,g4h,g4r,t1,hmv,F5,hap,g5z,g6,im1,im2,im3,im4,Qy,Q5,Za,Q6,Qq,ls,lz,lz64,l1,l3,lA,lr,lF,lk,lB,lS,Qx,Qe,QR]
def R5(pub front back m:List Nat)(c:Int):Prop :=
 ((∀A,enc A≠pub)/\c=60)\/∃A,enc A=pub /\
  (((ZQ 8 A=XM\/¬num 256 back<ell)/\c=70)\/(ZQ 8 A≠XM/\num 256 back<ell /\
   (((∀R,enc R≠front)/\c=70)\/∃R,enc R=front/\c=if JH (ZQ (num 256 back) JZ) (ZQ (num 256 (chL front pub m)) A.neg)=R then 0 else 70)))
theorem Bo{k l:List Nat}(lk:k.length=32)(ll:l.length=32):vEq (some (Qa 32 true)) true (.agg (u8s k).toArray) (.agg (u8s l).toArray)=some (.bool (!(k==l))):=by
 rw[Mo,XZ lk ll]
 rfl
theorem pd{pub front back:List Nat}{ps:List (List Nat)}(lp:pub.length=32)(xp:∀y∈pub,y<256)(lf:front.length=32)(xf:∀y∈front,y<256)(lb:back.length=32)(xb:∀y∈back,y<256)(hp:Args H pv ps)(hn:ps.length<=1000)(hb:ps.flatten.length<2^48) :
  ∃l c,Z6 T 31 [.agg (u8s pub).toArray,.agg (u8s (front++back)).toArray,pv] H=some (.int .i64 c,H++l,[])/\R5 pub front back ps.flatten c:=by
 have hz:Qa 32 (Value.int .u8 0)=u8s (dig 256 32 0):=rfl
 have lz:(dig 256 32 0).length=32:=rfl
 have hz20:∃O,Qa 20 (Value.int .u64 0)=ns .u64 O/\O.length=20:=⟨Qa 20 0,rfl,rfl⟩
 obtain⟨O,hz20,lO⟩:=hz20
 have rft:∀(r:List Nat) (c:Int),rf (Value.tuple #[eV r,.int .i64 c])=true:=fun r c=>K9 (a:=eV r) (b := .int .i64 c) (QR r) rfl
 have lS:(front++back).length=64:=by rw[Qj,lf,lb]
 have t1:Zi 32 (u8s (front++back))=u8s front:=by rw[VF,ZO qr,Qm qr]
 have t2:Zi 32 (J2 32 (u8s (front++back)))=u8s back:=by rw[GG,Jf qr,Zu qr,Ql,VF,Qm qr]
 rcases Pv lp xp with⟨A,a,hA,rA,eA⟩|⟨A,hA,lA,hno⟩
 ·have p1:=rA.len
  have ht:=vM rA
  obtain⟨qc,hcn⟩:=LX lb xb
  have hcv:=Uq hcn
  unfold Bf at hA
  by_cases htiny:ZQ 8 a=XM
  ·rw[decide_eq_true htiny]at ht
   have hx:∃l,Z6 T 31 [.agg (u8s pub).toArray,.agg (u8s (front++back)).toArray,pv] H=some (.int .i64 70,H++l,[]):=by
    generalize front++back=S at *
    generalize dig 256 32 0=Z at *
    apply Jg
    rw[QY (fn:=Tz) rfl]
    simp only[Tz,Qr,quiet,cW,↓pW,reduceCtorEq,seval,-Qb,hz,hz20,hA,t1,t2,ht, Qy,Q5,Za,Q6,Q8,Qq,lp,lf,lb,lS,lz,lO,p1,Qx,Qe,rft,QR]
    rfl
   obtain⟨l,hx⟩:=hx
   exact⟨l,70,hx,.inr ⟨a,eA,.inl ⟨.inl htiny,rfl⟩⟩⟩
  ·rw[decide_eq_false htiny]at ht
   by_cases hc:num 256 back<ell
   ·rw[decide_eq_true hc]at hcv
    rcases Pv lf xf with⟨R,r,hR,rR,eR⟩|⟨R,hR,lR,hnR⟩
    ·have p2:=rR.len
     unfold Bf at hR
     obtain⟨G1,hG1⟩:∃X,X=H++[({c:=u8s pub}:Ob),{c:=u8s (front++back)},{c:=ns .u64 A},{c:=u8s front},{c:=u8s back},{c:=ns .u64 R},{c:=[.slice (H.length+3:Nat) 32 32,.slice H.length 32 32]}]:=⟨_,rfl⟩
     have lG1:G1.length=H.length+7:=by rw[hG1];simp
     have gp:G1[H.length]?=some {c:=u8s pub}:=by rw[hG1,Qh qr,Q7];rfl
     have gA:G1[H.length+2]?=some {c:=ns .u64 A}:=by rw[hG1,Qh qr,Q2];rfl
     have gf:G1[H.length+3]?=some {c:=u8s front}:=by rw[hG1,Qh qr,Q2];rfl
     have gb:G1[H.length+4]?=some {c:=u8s back}:=by rw[hG1,Qh qr,Q2];rfl
     have ga:G1[H.length+6]?=some {c:=[.slice (H.length+3:Nat) 32 32,.slice H.length 32 32]}:=by rw[hG1,Qh qr,Q2];rfl
     have hp1:Args G1 pv ps:=by rw[hG1];exact hp.app
     have partF:HPart (LtN G1.length) G1 (.slice (H.length+3:Nat) 32 32) front:=by
      have:=HPart.whole (n:=G1.length) (c:=32) qr gf xf (by rw[lf];decide)
      rwa[lf]at this
     have partP:HPart (LtN G1.length) G1 (.slice H.length 32 32) pub:=by
      have:=HPart.whole (n:=G1.length) (c:=32) qr gp xp (by rw[lp];decide)
      rwa[lp]at this
     obtain⟨v1,k1,ha1,hA1⟩:=Hs (n:=2) ga rfl (.cons partF (.cons partP .nil)) hp1 ww hn
     obtain⟨k2,hk⟩:=UT hA1 (by rw[Jd,QO,QO,Jh,QG,Qj,Qj,lf,lp];omega)
     rw[Jd,QO,QO,Jh,QG,Qt,show RO (front++(pub++ps.flatten))=chL front pub ps.flatten from rfl,Qt]at hk
     have lk:(chL front pub ps.flatten).length=32:=GP
     obtain⟨G2,hG2⟩:∃X,X=G1++(k1++k2):=⟨_,rfl⟩
     have lG2:G1.length<=G2.length:=by rw[hG2];simp
     have up:∀i,i<G1.length->∀l:List Ob,(G2++l)[i]?=G1[i]? := fun i hi l=>by rw[Qc qr,hG2,Qc hi]
     obtain⟨B,hB,rB⟩:=ba
     obtain⟨X,hX,rX⟩:=Uj rB lb xb
     obtain⟨NA,hNA,rNA⟩:=wM rA
     obtain⟨Y,hY,rY⟩:=Uj rNA lk M0
     obtain⟨S,dS,hS,ES⟩:=uI (H:=G2++[({c:=u8s (chL front pub ps.flatten)}:Ob),{c:=ns .u64 [X,Y].flatten}]) (id:=G2.length+1) (n:=2) (xs:=[X,Y]) rfl ww (.cons rX (.cons rY .nil)) (by rw[Qh qr,Q2];rfl)
     simp only[List.map_cons,List.map_nil,Qn,Qt,Ql]at hS
     rw[fold2]at ES
     have hE:=MU ES
     have lE:=YP (JH (ZQ (num 256 back) JZ) (ZQ (num 256 (chL front pub ps.flatten)) a.neg))
     have g1:=xG rX rY
     have q1:=rX.len
     have q2:=rY.len
     have q3:=ES.len
     have hq:=Bo lE lf
     have hd:(enc (JH (ZQ (num 256 back) JZ) (ZQ (num 256 (chL front pub ps.flatten)) a.neg))==front)=decide (JH (ZQ (num 256 back) JZ) (ZQ (num 256 (chL front pub ps.flatten)) a.neg)=r):=by rw[<-eR,MV]
     rw[hd]at hq
     have uA:=fun l=>(up _ qr l).trans gA
     have uf:=fun l=>(up _ qr l).trans gf
     have ub:=fun l=>(up _ qr l).trans gb
     have f2:fillL [Value.slice none 0 0,.slice none 0 0] [(0,1,.slice (H.length+3:Nat) 32 32),(1,1,.slice H.length 32 32)]=some [.slice (H.length+3:Nat) 32 32,.slice H.length 32 32]:=rfl
     have F1:H++[({c:=u8s pub}:Ob),{c:=u8s (front++back)},{c:=ns .u64 A},{c:=u8s front},{c:=u8s back},{c:=ns .u64 R},{c:=[.slice (H.length+3:Nat) 32 32,.slice H.length 32 32]}]=G1:=hG1.symm
     have F2:G1++(k1++k2)=G2:=hG2.symm
     have im1:Q1 H.length [] [G2.length]=[]:=QB (by simp;omega)
     have hfr:∀l:List Ob,∃l',G2++l=H++l':=fun l=>⟨_,by rw[hG2,hG1,Qt,Qt]⟩
     by_cases hfin:JH (ZQ (num 256 back) JZ) (ZQ (num 256 (chL front pub ps.flatten)) a.neg)=r
     ·rw[decide_eq_true hfin]at hq
      have hx:∃l,Z6 T 31 [.agg (u8s pub).toArray,.agg (u8s (front++back)).toArray,pv] H=some (.int .i64 0,G2++l,[]):=by
       clear hG1 hG2 hd up hfr
       generalize front++back=SG at *
       generalize dig 256 32 0=Z,chL front pub ps.flatten=Ck at *
       generalize enc (JH (ZQ (num 256 back) JZ) (ZQ (num 256 Ck) a.neg))=E at *
       apply Jg
       rw[QY (fn:=Tz) rfl]
       simp only[Tz,Qr,quiet,cW,↓pW,reduceCtorEq,seval,-Qb,hz,hz20,hA,t1,t2,ht,hcv,hR,f2,F1,ha1,hk,F2,im1,hB,hX,hNA,hY,g1,hS,hE,hq,uA,uf,ub,Qy,Q5,Za,Q6,Q8,Qq,lp,lf,lb,lS,lz,lO,lk,lE,p1,p2,q1,q2,q3,Qx,Qe,rft,QR]
       rfl
      obtain⟨l,hx⟩:=hx
      obtain⟨l',hl'⟩:=hfr l
      rw[hl']at hx
      exact⟨l',0,hx,.inr ⟨a,eA,.inr ⟨htiny,hc,.inr ⟨r,eR,by rw[if_pos hfin]⟩⟩⟩⟩
     ·rw[decide_eq_false hfin]at hq
      have hx:∃l,Z6 T 31 [.agg (u8s pub).toArray,.agg (u8s (front++back)).toArray,pv] H=some (.int .i64 70,G2++l,[]):=by
       clear hG1 hG2 hd up hfr
       generalize front++back=SG at *
       generalize dig 256 32 0=Z,chL front pub ps.flatten=Ck at *
       generalize enc (JH (ZQ (num 256 back) JZ) (ZQ (num 256 Ck) a.neg))=E at *
       apply Jg
       rw[QY (fn:=Tz) rfl]
       simp only[Tz,Qr,quiet,cW,↓pW,reduceCtorEq,seval,-Qb,hz,hz20,hA,t1,t2,ht,hcv,hR,f2,F1,ha1,hk,F2,im1,hB,hX,hNA,hY,g1,hS,hE,hq,uA,uf,ub,Qy,Q5,Za,Q6,Q8,Qq,lp,lf,lb,lS,lz,lO,lk,lE,p1,p2,q1,q2,q3,Qx,Qe,rft,QR]
       rfl
      obtain⟨l,hx⟩:=hx
      obtain⟨l',hl'⟩:=hfr l
      rw[hl']at hx
      exact⟨l',70,hx,.inr ⟨a,eA,.inr ⟨htiny,hc,.inr ⟨r,eR,by rw[if_neg hfin]⟩⟩⟩⟩
    ·unfold Bf at hR
     have hx:∃l,Z6 T 31 [.agg (u8s pub).toArray,.agg (u8s (front++back)).toArray,pv] H=some (.int .i64 70,H++l,[]):=by
      generalize front++back=S at *
      generalize dig 256 32 0=Z at *
      apply Jg
      rw[QY (fn:=Tz) rfl]
      simp only[Tz,Qr,quiet,cW,↓pW,reduceCtorEq,seval,-Qb,hz,hz20,hA,t1,t2,ht,hcv,hR,lR,Qy,Q5,Za,Q6,Q8,Qq,lp,lf,lb,lS,lz,lO,p1,Qx,Qe,rft,QR]
      rfl
     obtain⟨l,hx⟩:=hx
     exact⟨l,70,hx,.inr ⟨a,eA,.inr ⟨htiny,hc,.inl ⟨hnR,rfl⟩⟩⟩⟩
   ·rw[decide_eq_false hc]at hcv
    have hx:∃l,Z6 T 31 [.agg (u8s pub).toArray,.agg (u8s (front++back)).toArray,pv] H=some (.int .i64 70,H++l,[]):=by
     generalize front++back=S at *
     generalize dig 256 32 0=Z at *
     apply Jg
     rw[QY (fn:=Tz) rfl]
     simp only[Tz,Qr,quiet,cW,↓pW,reduceCtorEq,seval,-Qb,hz,hz20,hA,t1,t2,ht,hcv,Qy,Q5,Za,Q6,Q8,Qq,lp,lf,lb,lS,lz,lO,p1,Qx,Qe,rft,QR]
     rfl
    obtain⟨l,hx⟩:=hx
    exact⟨l,70,hx,.inr ⟨a,eA,.inl ⟨.inr hc,rfl⟩⟩⟩
 ·unfold Bf at hA
  have hx:Z6 T 31 [.agg (u8s pub).toArray,.agg (u8s (front++back)).toArray,pv] H=some (.int .i64 60,H++[{c:=u8s pub},{c:=u8s (front++back)},{c:=ns .u64 A}],[]):=by
   generalize front++back=S at *
   generalize dig 256 32 0=Z at *
   rw[QY (fn:=Tz) rfl]
   simp only[Tz,Qr,quiet,cW,↓pW,reduceCtorEq,seval,-Qb,hz,hz20,hA,t1,t2,Qy,Q5,Za,Q6,Q8,Qq,lp,lS,lz,lO,lA,Qx,Qe,rft,QR]
  exact⟨_,60,hx,.inl ⟨hno,rfl⟩⟩
theorem Ct{x:Nat}(h:a[m]?=some x):num B a=num B (a.take m)+x*B^m+B^(m+1)*num B (a.drop (m+1)):=by
 have hm:m<a.length:=(Qg.1 h).1
 conv=>lhs;rw[<-Zn (m+1) a,Vj,Xa h]
 rw[Q3,Zw qr]
theorem ML(ha:∀x∈a,x<B)(hm:m<=a.length):num B (a.take m)<B^m:=by
 have:=num_lt (B:=B) (l:=a.take m) fun x hx=>ha x (QP hx)
 rwa[Q3,Zw hm]at this
theorem nC{x y:Nat}(hl:a.length=b.length)(ha:∀x∈a,x<B)(hb:∀x∈b,x<B)(hx:a[m]?=some x)(hy:b[m]?=some y)(hne:x≠y)(hd:a.drop (m+1)=b.drop (m+1)):(num B a<num B b)↔x<y:=by
 have hm:m<a.length:=(Qg.1 hx).1
 rw[Ct hx,Ct hy,hd]
 have h1:=ML (m:=m) ha qr
 have h2:=ML (m:=m) hb qr
 rcases ZL x y with h|h
 ·have:(x+1)*B^m<=y*B^m:=Z9 _ h
  rw[Zl,Xd]at this
  constructor<;>intro<;>omega
 ·have:(y+1)*B^m<=x*B^m:=Z9 _ qr
  rw[Zl,Xd]at this
  constructor<;>intro<;>omega
def dQ(a b:List Nat)(i:Int)(ex:Env):St:=⟨[(2,.pointer (0:Nat)),(3,.pointer (1:Nat)),(5,.int .i64 i)]++ex,[{c:=ns .u64 a},{c:=ns .u64 b}],[]⟩
theorem AY{a b:List Nat}(ha:Nm a)(hb:Nm b) :
  ∀m,m<=16->a.drop m=b.drop m->Q0 T 0 (.loop Ew) (dQ a b ((m:Int)-1) []) =
   if a=b then some (.exit 0,dQ a b (-1) [(7,.bool false)])else some (.ret,⟨[(4,.bool (decide (num 65536 a<num 65536 b)))],[{c:=ns .u64 a},{c:=ns .u64 b}],[]⟩)
 |0,_,hd=>by
  rw[ZS,ZS]at hd
  rw[if_pos hd,J6]
  have e:((0:Int) <= -1)=False:=ww
  simp only[dQ,Ew,Qr,quiet,cK,↓pQ,reduceCtorEq,seval,-Qb,cL,Int.zero_sub,e]
 |m+1,hm,hd=>by
  obtain⟨x,hx⟩:∃x,a[m]?=some x:=⟨_,Qf (by rw[ha.len];omega)⟩
  obtain⟨y,hy⟩:∃y,b[m]?=some y:=⟨_,Qf (by rw[hb.len];omega)⟩
  have c1:=ZJ (k := .u64) hx
  have c2:=ZJ (k := .u64) hy
  have l1:=ha.len
  have l2:=hb.len
  have e0:(((m+1:Nat):Int)-1)=(m:Int):=qr
  have e1:((0:Int)<=(m:Int))=True:=wf
  have e2:((m:Int)<16)=True:=wf
  have e3:IntKind.i64.wrap ((m:Int)-1)=(m:Int)-1:=QU qr qr
  rw[e0,J6]
  by_cases hxy:x=y
  ·subst hxy
   have hd':a.drop m=b.drop m:=by
    rw[ZE,hx,hd,<-hy,<-ZE]
   have ih:=AY ha hb m qr hd'
   rw[<-ih]
   simp only[dQ,Ew,Qr,quiet,cK,↓pQ,reduceCtorEq,seval,-Qb,cL,e1,e2,e3,c1,c2,l1,l2,Q8]
  ·have hab:¬a=b:=fun h=>by subst h;rw[hx]at hy;cases hy;exact hxy rfl
   rw[if_neg hab]
   have hne:((x:Int) != (y:Int))=true:=by simp;omega
   have hlt:=nC (by rw[l1,l2]) ha.lt hb.lt hx hy hxy hd
   have hdec:decide ((x:Int)<(y:Int))=decide (num 65536 a<num 65536 b):=by
    by_cases h:x<y
    ·rw[decide_eq_true (hlt.2 h),decide_eq_true qr]
    ·rw[decide_eq_false (fun k=>h (hlt.1 k)),decide_eq_false qr]
   simp only[dQ,Ew,Qr,quiet,cK,↓pQ,reduceCtorEq,seval,-Qb,cL,e1,e2,e3,c1,c2,hne,hdec,l1,l2,Q8]
theorem bG{a b:List Nat}(ha:Nm a)(hb:Nm b):evVal T 211 [eV a,eV b]=some (.bool (decide (num 65536 a<num 65536 b))):=by
 have hl:=AY ha hb 16 (Qs _) (by rw[Zu (by rw[ha.len];omega),Zu (by rw[hb.len];omega)])
 have l1:=ha.len
 have l2:=hb.len
 have e0:(((16:Nat):Int)-1)=15:=ww
 rw[e0]at hl
 simp only[dQ,Qn,Ql]at hl
 by_cases hab:a=b
 ·rw[if_pos hab]at hl
  subst hab
  apply QE (fn:=a93) rfl
  have hd:decide (num 65536 a<num 65536 a)=false:=by simp
  simp only[a93,Qr,quiet,cW,↓pW,reduceCtorEq,seval,-Qb,Jt,hl,hd,Qe,Qx,Qy,Q5,Za,Q6,Q8,l1,l2,QR]
  rfl
 ·rw[if_neg hab]at hl
  apply QE (fn:=a93) rfl
  simp only[a93,Qr,quiet,cW,↓pW,reduceCtorEq,seval,-Qb,Jt,hl,Qe,Qx,Qy,Q5,Za,Q6,Q8,l1,l2,QR]
  rfl
def dX(a:List Nat)(ex:Env):St:=⟨[(1,.pointer (0:Nat)),(2,.pointer (1:Nat))]++ex,[{c:=ns .u64 a},{c:=ns .u64 ZP}],[]⟩
theorem Ub(ha:Nm a):evVal T 190 [eV a]=some (eV (dig 65536 16 (num 65536 a%Go.Fp.P))):=by
 have hp:=GM
 have hP:=Y8
 have hPn:=Uc
 have hlt:=ha.num_lt
 obtain⟨V,hV⟩:∃V,V=num 65536 a:=⟨_,rfl⟩
 rw[<-hV]at hlt ⊢
 have haV:a=dig 65536 16 V:=by rw[hV];exact ha.eq
 have hdm:=Z5 V Go.Fp.P
 have lP:=hP.len
 obtain⟨st,hl,rfl⟩:=Zh (T:=T) (base:=0) (id:=0) (body:=Nj)
  (fun i st=>st=dX (dig 65536 16 (V-i*Go.Fp.P)) [])
  (Q:=fun st=>st=dX (dig 65536 16 (V%Go.Fp.P)) [(6,.bool false)])
  (V/Go.Fp.P) (s:=dX a []) (by rw[Vm,KC,<-haV])
  (fun i st hi hs=>by
   subst hs
   have h1:(i+1)*Go.Fp.P<=V:=Xm (Z9 _ hi) (Nat.div_mul_le_self V Go.Fp.P)
   rw[Zl,Xd]at h1
   have hN:=Nm.dig (V-i*Go.Fp.P)
   have hn:=VS (v:=V-i*Go.Fp.P) qr
   have g1:=bG hN hP
   have g2:=AW hN hP (by rw[hn,hPn];omega)
   rw[hn,hPn,decide_eq_false qr]at g1
   rw[hn,hPn,show V-i*Go.Fp.P-Go.Fp.P=V-(i+1)*Go.Fp.P by rw[Zl,Xd];omega]at g2
   have l1:=hN.len
   have l2:=Zg 65536 16 (V-(i+1)*Go.Fp.P)
   generalize dig 65536 16 (V-i*Go.Fp.P)=A at *
   generalize dig 65536 16 (V-(i+1)*Go.Fp.P)=A' at *
   generalize KR=PL at *
   refine⟨_,?_,rfl⟩
   simp only[dX,Nj,Qr,quiet,cW,↓pW,reduceCtorEq,seval,-Qb,hp,g1,g2,Qy,Q5,Za,Q6,Q8,l1,l2,lP,Qx,QR])
  (fun st hs=>by
   subst hs
   have e:V-V/Go.Fp.P*Go.Fp.P=V%Go.Fp.P:=by rw[Zm];omega
   rw[e]
   have hm:=Q9 V (by decide:0<Go.Fp.P)
   have hN:=Nm.dig (V%Go.Fp.P)
   have hn:=VS (v:=V%Go.Fp.P) (QM hm ww)
   have g1:=bG hN hP
   rw[hn,hPn,decide_eq_true hm]at g1
   have l1:=hN.len
   generalize dig 65536 16 (V%Go.Fp.P)=A at *
   generalize KR=PL at *
   refine⟨_,?_,rfl⟩
   simp only[dX,Nj,Qr,quiet,cW,↓pW,reduceCtorEq,seval,-Qb,hp,g1,Qy,Q5,Za,Q6,Q8,l1,lP,Qx,QR])
 have hz:=KE
 have lz:=XI
 have l1:=ha.len
 have l2:=Zg 65536 16 (V%Go.Fp.P)
 simp only[dX,Qn,Ql]at hl
 generalize ZP=Z at *
 generalize dig 65536 16 (V%Go.Fp.P)=R at *
 apply QE (fn:=a85) rfl
 simp only[a85,Qr,quiet,cW,↓pW,reduceCtorEq,seval,-Qb,hz,hl,Qe,Qx,Qy,Q5,Za,Q6,Q8,l1,l2,lz,QR]
 rfl
theorem ig:Qa 32 (Value.int .u8 0)=u8s (dig 256 32 0):=rfl
theorem GC:fillL (u8s (dig 256 32 0)) []=some (u8s (dig 256 32 0)):=rfl
theorem w8n(h:n<256):IntKind.u8.wrap (n:Int)=n:=by rw[Bb,Qv h]
def S7(c o:List Nat)(i:Int)(ex:Env):St:=⟨[(1,.pointer (0:Nat)),(2,.pointer (1:Nat)),(3,.pointer (2:Nat)),(4,.int .i64 i)]++ex,[{c:=ns .u64 c},{c:=u8s (dig 256 32 0)},{c:=u8s o}],[]⟩
theorem lN{V:Nat}(hi:i<16) :
  Q0 T 0 EK (S7 (dig 65536 16 V) (pf 32 (dig 256 32 V) (2*i)) i [])=some (.normal,S7 (dig 65536 16 V) (pf 32 (dig 256 32 V) (2*(i+1))) ((i+1:Nat):Int) []):=by
 obtain⟨x,hx0⟩:∃x,x=V/65536^i%65536:=⟨_,rfl⟩
 have hx:(dig 65536 16 V)[i]?=some x:=by rw[XX hi,hx0]
 have hx':x<65536:=by rw[hx0];exact Q9 _ ww
 have e:(65536:Nat)^i=256^(2*i):=by rw[show(65536:Nat)=256^2 from rfl,<-Je]
 rw[e]at hx0
 have hd1:(dig 256 32 V)[2*i]?=some (x%256):=by rw[XX qr,hx0];congr 1;omega
 have hd2:(dig 256 32 V)[2*i+1]?=some (x/256):=by
  rw[XX qr,hx0,Zj,<-QV]
  congr 1;omega
 have hs1:=XD (Zg 256 32 V) (by omega:2*i<32) hd1
 have hs2:=XD (Zg 256 32 V) (by omega:2*i+1<32) hd2
 have hl1:=Kd (Zg 256 32 V) (by omega:2*i<=32)
 have hl2:=Kd (Zg 256 32 V) (by omega:2*i+1<=32)
 have hset1:=Xc (pf 32 (dig 256 32 V) (2*i)) (2*i) (x%256)
 have hset2:=Xc (pf 32 (dig 256 32 V) (2*i+1)) (2*i+1) (x/256)
 rw[hs1]at hset1
 rw[hs2]at hset2
 rw[show 2*(i+1)=2*i+1+1 by omega]
 have hxc:=ZJ (k := .u64) hx
 have w1:IntKind.i64.wrap ((i:Int)+1)=((i+1:Nat):Int):=Z3 (b:=1) qr
 have w2:IntKind.i64.wrap (2*(i:Int))=((2*i:Nat):Int):=UQ (a:=2) qr
 have w3:IntKind.i64.wrap (((2*i:Nat):Int)+1)=((2*i+1:Nat):Int):=Z3 (b:=1) qr
 have w4:(x:Int).tmod 256=((x%256:Nat):Int):=rfl
 have w5:IntKind.u8.wrap ((x%256:Nat):Int)=((x%256:Nat):Int):=w8n qr
 have w6:IntKind.u64.wrap ((x:Int).tdiv 256)=((x/256:Nat):Int):=Kz (n:=x/256) qr
 have w7:IntKind.u8.wrap ((x/256:Nat):Int)=((x/256:Nat):Int):=w8n qr
 have e1:((i:Int)<16)=True:=wf
 have e2:(((2*i:Nat):Int)<32)=True:=wf
 have e3:(((2*i+1:Nat):Int)<32)=True:=wf
 have e5:(2*i<=31)=True:=wf
 have e6:(2*i+1<=31)=True:=wf
 have l1:=Zg 65536 16 V
 generalize dig 65536 16 V=C,pf 32 (dig 256 32 V) (2*i)=o1,pf 32 (dig 256 32 V) (2*i+1)=o2,pf 32 (dig 256 32 V) (2*i+1+1)=o3 at *
 generalize hj1:2*i+1=j1 at *
 generalize hj:2*i=j at *
 simp only[S7,EK,Qr,quiet,cW,↓pW,reduceCtorEq,seval,-Qb,hxc,w1,w2,w3,w4,w5,w6,w7,e1,e2,e3,e5,e6,hset1,hset2,Q8,Qq,hl1,hl2,l1]
theorem GQ(ha:Nm a):evVal T 138 [eV a]=some (.agg (u8s (dig 256 32 (nf a).val)).toArray):=by
 have hc:=Ub ha
 have hv:(nf a).val=num 65536 a%Go.Fp.P:=rfl
 rw[hv]
 generalize num 65536 a%Go.Fp.P=V at *
 have hb:=ZR (T:=T) (base:=0) (id:=0) (body:=EK) (fun i=>S7 (dig 65536 16 V) (pf 32 (dig 256 32 V) (2*i)) i []) (s':=S7 (dig 65536 16 V) (dig 256 32 V) 16 [(9,.bool false)]) 16
  (fun i hi=>lN hi) (by
   rw[show 2*16=32 from rfl,Ke (Zg _ _ _)]
   simp only[S7,EK,Qr,quiet,cK,↓pQ,reduceCtorEq,seval,-Qb,cL])
 rw[WK,Kc,show Qa 32 0=dig 256 32 0 from rfl]at hb
 simp only[S7,Qn,Ql,QA]at hb
 have hz:=ig
 have hf:=GC
 have lz:=Zg 256 32 0
 have l1:=ha.len
 have l2:=Zg 65536 16 V
 have l3:=Zg 256 32 V
 generalize dig 65536 16 V=C,dig 256 32 V=R,dig 256 32 0=Z at *
 apply QE (fn:=a66) rfl
 simp only[a66,Qr,quiet,cW,↓pW,reduceCtorEq,seval,-Qb,hz,hf,hc,hb,Qe,Qx,Qy,Q5,Za,Q6,Q8,Qq,l1,l2,l3,lz,QR]
 rfl
def fH(d:List Nat)(l:List Ob):List Ob:={c:=ns .u64 d}::{c:=ns .u64 ZP}::l
def f2I(d:List Nat)(l:List Ob)(c:Nat)(i:Int)(ex:Env):St:=⟨[(1,.pointer (0:Nat)),(2,.pointer (1:Nat)),(3,.int .u64 c),(4,.int .i64 i)]++ex,fH d l,[]⟩
theorem oH{d:List Nat}{l:List Ob}(hd:d.length=32)(hM:∀x∈d,x<2^44)(hN:num 65536 d<65536^32) :
  ∃o c,Q0 T 0 (.block 2 (.loop EA)) (f2I d l 0 0 [])=some (.normal,f2I o l c 32 [(11,.bool false)])/\o.length=32/\(∀x∈o,x<65536)/\num 65536 o=num 65536 d:=by
 obtain⟨st,hl,o,c,rfl,h1,h2,h3⟩:=Zh (T:=T) (base:=0) (id:=2) (body:=EA)
  (fun i st=>∃(o:List Nat) (c:Nat),st=f2I (o++d.drop i) l c i []/\o.length=i/\(∀x∈o,x<65536)/\c<2^30/\num 65536 (d.take i)=num 65536 o+65536^i*c)
  (Q:=fun st=>∃(o:List Nat) (c:Nat),st=f2I o l c 32 [(11,.bool false)]/\o.length=32/\(∀x∈o,x<65536)/\num 65536 d=num 65536 o+65536^32*c)
  32 (s:=f2I d l 0 0 []) ⟨[],0,by rw[ZS];rfl,rfl,by simp,by omega,by simp[num]⟩
  (fun i st hi hs=>by
   obtain⟨o,c,rfl,h1,h2,h3,h4⟩:=hs
   obtain⟨x,hx⟩:∃x,d[i]?=some x:=⟨_,Qf qr⟩
   have hx':=hM x (Qo hx)
   have hxo:(o++d.drop i)[i]?=some x:=by
    rw[Qh qr,h1,Q7,Zp];exact hx
   have hstep:(o++d.drop i).set i ((x+c)%65536)=(o++[(x+c)%65536])++d.drop (i+1):=by
    rw[ZV _ _ qr,h1,Q7,ZE (i:=i),hx]
    simp
   have hset:=Xt .u64 (o++d.drop i) i ((x+c)%65536)
   rw[hstep]at hset
   have hlen:(o++d.drop i).length=32:=by simp;omega
   have hxc:=ZJ (k := .u64) hxo
   have w1:IntKind.i64.wrap ((i:Int)+1)=((i+1:Nat):Int):=Z3 (b:=1) qr
   have w2:IntKind.u64.wrap ((x:Int)+(c:Int))=((x+c:Nat):Int):=Wf qr
   have w3:((x+c:Nat):Int).tmod 65536=(((x+c)%65536:Nat):Int):=rfl
   have w4:IntKind.u64.wrap (((x+c:Nat):Int).tdiv 65536)=(((x+c)/65536:Nat):Int):=Kz (n:=(x+c)/65536) qr
   have e1:((i:Int)<32)=True:=wf
   have e4:(i<=31)=True:=wf
   refine⟨f2I ((o++[(x+c)%65536])++d.drop (i+1)) l ((x+c)/65536) ((i+1:Nat):Int) [],?_,o++[(x+c)%65536],(x+c)/65536,rfl,by simp[h1],?_,by omega,?_⟩
   ·generalize(o++[(x+c)%65536])++d.drop (i+1)=O' at *
    generalize o++d.drop i=O at *
    generalize(x+c)/65536=q at *
    generalize(x+c)%65536=m at *
    generalize x+c=v at *
    generalize i+1=i1 at *
    simp only[f2I,fH,EA,Qr,quiet,cW,↓pW,reduceCtorEq,seval,-Qb,hxc,w1,w2,w3,w4,e1,e4,hset,Q8,hlen]
   ·intro y hy
    rcases QC.1 hy with hy|hy
    ·exact h2 y hy
    ·rw[Xn.1 hy];exact Q9 _ ww
   ·rw[Xa hx,OB,h1,h4,Zj]
    have h5:x+c=65536*((x+c)/65536)+(x+c)%65536:=(Z5 _ _).symm
    generalize(x+c)/65536=q at *
    generalize(x+c)%65536=m at *
    generalize(65536:Nat)^i=p at *
    have h6:=congrArg (fun t=>t*p) h5
    simp only[Zl]at h6
    rw[ZD p,Zm p c,Zm p m,Zm p (65536*q)]
    omega)
  (fun st hs=>by
   obtain⟨o,c,rfl,h1,h2,h3,h4⟩:=hs
   rw[Qm qr]at h4
   refine⟨_,?_,o,c,rfl,h1,h2,h4⟩
   rw[Zu qr,QG]
   simp only[f2I,fH,EA,Qr,quiet,cK,↓pQ,reduceCtorEq,seval,-Qb,cL])
 refine⟨o,c,hl,h1,h2,?_⟩
 rcases Jo c with h|h
 ·rw[h3,h];omega
 ·exfalso
  have:=Nat.mul_le_mul_left (65536^32) h
  generalize(65536:Nat)^32=M at *
  omega
end Go.Ev.YtoipgdjfhahimaaGreat
namespace Go.Ev.YtoipgdjfhahimaaGreat
open Go Go.Ev
attribute [local congr] JE JW JD JX Jz
set_option maxRecDepth 100000
variable{a n b o y z x k:List Nat}{i w:Nat}{p q:Go.Cv.Pt Go.Fp.P Go.Fp.d}{l:List Ob}{m s D N:Go.Fp.Fe}{ex:Env}
def W0(l:List Nat):Bool := !(l.all (· == 0))
theorem bf(l:List Nat)(x:Nat):W0 (l++[x])=(W0 l || !(x==0)):=by simp[W0]
def f1I(d o:List Nat)(l:List Ob)(b:Bool)(i:Int)(ex:Env):St:=⟨[(1,.pointer (0:Nat)),(2,.pointer (1:Nat)),(6,.pointer (l.length+1+1:Nat)),(7,.bool b),(8,.int .i64 i)]++ex,fH d (l++[{c:=ns .u64 o}]),[]⟩
theorem tD{d:List Nat}{b:Bool}(hd:d.length=32)(hi:i<16)(hb:b=W0 ((d.drop 16).take i)) :
  Q0 T 0 Mh (f1I d (pf 16 (d.take 16) i) l b i [])=some (.normal,f1I d (pf 16 (d.take 16) (i+1)) l (W0 ((d.drop 16).take (i+1))) ((i+1:Nat):Int) []):=by
 obtain⟨x,hx⟩:∃x,d[i]?=some x:=⟨_,Qf qr⟩
 obtain⟨y,hy⟩:∃y,d[i+16]?=some y:=⟨_,Qf qr⟩
 have hx2:(d.take 16)[i]?=some x:=by rw[QW,if_pos hi];exact hx
 have hy2:(d.drop 16)[i]?=some y:=by rw[Zp,Xu];exact hy
 have hL:(d.take 16).length=16:=by simp;omega
 have hstep:=XD hL hi hx2
 have hlen:=Kd hL (J0 hi)
 have hset:=Xt .u64 (pf 16 (d.take 16) i) i x
 rw[hstep]at hset
 have hxc:=ZJ (k := .u64) hx
 have hyc:=ZJ (k := .u64) hy
 have hnz:W0 ((d.drop 16).take (i+1))=(b || !(y==0)):=by
  rw[Zx,hy2,hb];exact bf _ _
 rw[hnz]
 have w1:IntKind.i64.wrap ((i:Int)+1)=((i+1:Nat):Int):=Z3 (b:=1) qr
 have w2:IntKind.i64.wrap ((i:Int)+16)=((i+16:Nat):Int):=Z3 (b:=16) qr
 have e1:((i:Int)<16)=True:=wf
 have e2:((i:Int)<32)=True:=wf
 have e3:(((i+16:Nat):Int)<32)=True:=wf
 have e4:(i<=15)=True:=wf
 have e5:((y:Int) != 0) = !(y==0):=by
  by_cases h:y=0
  ·subst h;rfl
  ·have h':¬(y:Int)=0:=qr
   rw[beq_eq_false_iff_ne.2 h,bne_iff_ne.2 h'];rfl
 generalize pf 16 (d.take 16) i=o1 at *
 generalize pf 16 (d.take 16) (i+1)=o2 at *
 generalize i+16=j at *
 generalize(!(y==0))=nz at *
 clear hb hnz
 cases b with
 |false=>simp only[f1I,fH,Mh,Qr,quiet,cK,↓pQ,reduceCtorEq,seval,-Qb,cL,cJ,hxc,hyc,w1,w2,e1,e2,e3,e4,e5,hset,Q8,hlen,hd,Bool.false_or]
 |true=>simp only[f1I,fH,Mh,Qr,quiet,cK,↓pQ,reduceCtorEq,seval,-Qb,cL,cJ,hxc,hyc,w1,w2,e1,e2,e3,e4,e5,hset,Q8,hlen,hd,Bool.true_or]
theorem oJ{d:List Nat}(hd:d.length=32) :
  Q0 T 0 (.block 4 (.loop Mh)) (f1I d ZP l false 0 [])=some (.normal,f1I d (d.take 16) l (W0 (d.drop 16)) 16 [(27,.bool false)]):=by
 have hL:(d.take 16).length=16:=by simp;omega
 have hb:=ZR (T:=T) (base:=0) (id:=4) (body:=Mh) (fun i=>f1I d (pf 16 (d.take 16) i) l (W0 ((d.drop 16).take i)) i []) (s':=f1I d (d.take 16) l (W0 (d.drop 16)) 16 [(27,.bool false)]) 16
  (fun i hi=>tD hd hi rfl) (by
   rw[Ke hL,Qm (l:=d.drop 16) (by simp;omega)]
   simp only[f1I,Mh,Qr,quiet,cK,↓pQ,reduceCtorEq,seval,-Qb,cL])
 rw[Kc]at hb
 exact hb
def f0I(d:List Nat)(l:List Ob)(i:Int)(ex:Env):St:=⟨[(1,.pointer (0:Nat)),(2,.pointer (1:Nat)),(9,.int .i64 i)]++ex,fH d l,[]⟩
theorem oK{d:List Nat}(hd:d.length=32)(hM:∀x∈d,x<65536) :
  ∃o,Q0 T 0 (.block 6 (.loop EB)) (f0I d l 0 [])=some (.normal,f0I o l 16 [(47,.bool false)])/\o.length=32/\(∀x∈o,x<2^44)/\num 65536 o+65536^16*num 65536 (d.drop 16)=num 65536 d+38*num 65536 (d.drop 16):=by
 obtain⟨st,hl,o,rfl,h1,h2,h3⟩:=Zh (T:=T) (base:=0) (id:=6) (body:=EB)
  (fun i st=>∃o:List Nat,st=f0I o l i []/\o.length=32/\(∀x∈o,x<2^44)/\(∀j,i<=j->j<16->o[j]?=d[j]?/\o[j+16]?=d[j+16]?)/\num 65536 o+65536^16*num 65536 ((d.drop 16).take i)=num 65536 d+38*num 65536 ((d.drop 16).take i))
  (Q:=fun st=>∃o:List Nat,st=f0I o l 16 [(47,.bool false)]/\o.length=32/\(∀x∈o,x<2^44)/\num 65536 o+65536^16*num 65536 (d.drop 16)=num 65536 d+38*num 65536 (d.drop 16))
  16 (s:=f0I d l 0 []) ⟨d,rfl,hd,fun x hx=>JR (hM x hx) ww,fun _ _ _=>⟨rfl,rfl⟩,by simp[num]⟩
  (fun i st hi hs=>by
   obtain⟨o,rfl,h1,h2,h3,h4⟩:=hs
   obtain⟨x,hx⟩:∃x,d[i]?=some x:=⟨_,Qf qr⟩
   obtain⟨y,hy⟩:∃y,d[i+16]?=some y:=⟨_,Qf qr⟩
   have hx':=hM x (Qo hx)
   have hy':=hM y (Qo hy)
   obtain⟨ox,oy⟩:=h3 i (Qs _) hi
   rw[hx]at ox
   rw[hy]at oy
   have oy':(o.set i (x+38*y))[i+16]?=some y:=by rw[Qu qr];exact oy
   have n1:=V6 (B:=65536) (x+38*y) ox
   have n2:=V6 (B:=65536) 0 oy'
   have s1:=Xt .u64 o i (x+38*y)
   have s2:(ns .u64 (o.set i (x+38*y))).set (i+16) (.int .u64 0)=ns .u64 ((o.set i (x+38*y)).set (i+16) 0):=Xt .u64 (o.set i (x+38*y)) (i+16) 0
   have l2:(o.set i (x+38*y)).length=32:=by rw[Q4];exact h1
   have hxc:=ZJ (k := .u64) ox
   have hyc:=ZJ (k := .u64) oy
   have hy2:(d.drop 16)[i]?=some y:=by rw[Zp,Xu];exact hy
   have w1:IntKind.i64.wrap ((i:Int)+1)=((i+1:Nat):Int):=Z3 (b:=1) qr
   have w2:IntKind.i64.wrap ((i:Int)+16)=((i+16:Nat):Int):=Z3 (b:=16) qr
   have w3:IntKind.u64.wrap (38*(y:Int))=((38*y:Nat):Int):=U4 (a:=38) qr
   have w4:IntKind.u64.wrap ((x:Int)+((38*y:Nat):Int))=((x+38*y:Nat):Int):=Wf qr
   have e1:((i:Int)<16)=True:=wf
   have e2:((i:Int)<32)=True:=wf
   have e3:(((i+16:Nat):Int)<32)=True:=wf
   have e4:(i<=31)=True:=wf
   have e5:(i+16<=31)=True:=wf
   refine⟨f0I ((o.set i (x+38*y)).set (i+16) 0) l ((i+1:Nat):Int) [],?_,_,rfl,by rw[Q4];exact l2,?_,?_,?_⟩
   ·generalize(o.set i (x+38*y)).set (i+16) 0=O2 at *
    generalize o.set i (x+38*y)=O1 at *
    generalize hj:i+16=j at *
    generalize x+38*y=v at *
    generalize 38*y=u at *
    generalize i+1=i1 at *
    simp only[f0I,fH,EB,Qr,quiet,cW,↓pW,reduceCtorEq,seval,-Qb,hxc,hyc,w1,w2,w3,w4,e1,e2,e3,e4,e5,s1,s2,Q8,h1,l2]
   ·exact VH (VH h2 qr) ww
   ·intro j hj hj'
    obtain⟨g1,g2⟩:=h3 j qr hj'
    rw[Qu qr,Qu qr,Qu qr,Qu qr]
    exact⟨g1,g2⟩
   ·rw[Xa hy2]
    rw[JI]at n2
    generalize num 65536 ((o.set i (x+38*y)).set (i+16) 0)=N2,num 65536 (o.set i (x+38*y))=N1,num 65536 (Zi i (J2 16 d))=S at *
    generalize(65536:Nat)^i=p at *
    have e16:(65536:Nat)^16=115792089237316195423570985008687907853269984665640564039457584007913129639936:=ww
    rw[e16]at *
    rw[Zl,ZD]at n1
    rw[<-ZD]at n2
    rw[YE,YE]
    generalize y*p=yp at *
    omega)
  (fun st hs=>by
   obtain⟨o,rfl,h1,h2,h3,h4⟩:=hs
   rw[Qm (by simp;omega)]at h4
   refine⟨_,?_,o,rfl,h1,h2,h4⟩
   simp only[f0I,fH,EB,Qr,quiet,cK,↓pQ,reduceCtorEq,seval,-Qb,cL])
 exact⟨o,hl,h1,h2,h3⟩
def f3I(d:List Nat)(l:List Ob)(ex:Env):St:=⟨[(1,.pointer (0:Nat)),(2,.pointer (1:Nat))]++ex,fH d l,[]⟩
theorem Rf:∀ {l:List Nat},W0 l=false->num 65536 l=0
 |[],_=>rfl
 |x::l,h=>by
  have h':((x::l).all (· == 0))=true:=by simpa [W0]using h
  rw[List.all_cons,Bool.and_eq_true]at h'
  have hx:x=0:=by simpa using h'.1
  have ih:=Rf (l:=l) (by unfold W0;rw[h'.2];rfl)
  rw[num,ih,hx]
theorem mT:∀ {l:List Nat},W0 l=true->0<num 65536 l
 |[],h=>by cases h
 |x::l,h=>by
  rw[num]
  by_cases hx:x=0
  ·have:=mT (l:=l) (by
    subst hx
    simpa [W0]using h)
   omega
  ·omega
theorem oz{V W H:Nat}(h:W+65536^16*H=V+38*H):Go.Fp.fp W=Go.Fp.fp V:=by
 have h1:=congrArg Go.Fp.fp h
 rw[Go.Fp.Vx,Go.Fp.Vx,Go.Fp.Kg,Go.Fp.Kg]at h1
 have h2:Go.Fp.fp (65536^16)=Go.Fp.fp 38:=by decide +kernel
 rw[h2]at h1
 generalize Go.Fp.fp W=a,Go.Fp.fp V=b,Go.Fp.fp 38*Go.Fp.fp H=c at *
 clear h h2
 grobner
theorem Sz:∀(v:Nat) (d:List Nat) (l:List Ob) (ex:Env),num 65536 d=v->d.length=32->(∀x∈d,x<2^44)->v<65536^32 ->
  ∃r d' l',Q0 T 0 (.loop Nh) (f3I d l ex)=some (.ret,⟨[(2,.pointer (1:Nat))],{c:=ns .u64 d'}::{c:=ns .u64 r}::l',[]⟩)/\Nm r/\nf r=Go.Fp.fp v:=by
 intro v
 induction v using Nat.strongRecOn with
 |ind v ih =>
  intro d l ex hv hd hM hN
  obtain⟨o,c,h2,lo,xo,no⟩:=oH (l:=l) hd hM (by rw[hv];exact hN)
  have h1:=oJ (d:=o) (l:=l) lo
  simp only[f2I,f1I,fH,Qn,Ql,QA]at h2 h1
  have hz:=KE
  have lz:=XI
  have hf:=Bn
  by_cases hnz:W0 (o.drop 16)=true
  ·rw[hnz]at h1
   obtain⟨o2,h0,lo2,xo2,no2⟩:=oK (l:=l++[{c:=ns .u64 (o.take 16)}]) lo xo
   simp only[f0I,fH,Qn,Ql,QA]at h0
   have hpos:=mT hnz
   rw[no,hv]at no2
   have hlt:num 65536 o2<v:=by
    have e16:(65536:Nat)^16=115792089237316195423570985008687907853269984665640564039457584007913129639936:=ww
    rw[e16]at no2
    omega
   obtain⟨r,d',l',hr,hr1,hr2⟩   := ih _ hlt o2 (l++[{c:=ns .u64 (o.take 16)}]) [(9,.int .i64 16),(47,.bool false)] rfl lo2 xo2 (JR hlt hN)
   refine⟨r,d',l',?_,hr1,by rw[hr2];exact oz no2⟩
   rw[<-hr,J6]
   simp only[f3I,fH,Qn,Ql]
   generalize ZP=Z at *
   simp only[f3I,fH,Nh,Qr,quiet,cK,↓pQ,reduceCtorEq,seval,-Qb,cL,cJ,hz,hf,h2,h1,h0,Qe,Q8,lz,Qx,Qy,Q5,Za,Q6,QR]
  ·have hnz':W0 (o.drop 16)=false:=by simpa using hnz
   rw[hnz']at h1
   have hn0:=Rf hnz'
   have hnum:num 65536 (o.take 16)=v:=by
    have:=Vj 65536 (o.take 16) (o.drop 16)
    rw[Zn,hn0,no,hv]at this
    omega
   have lt:(o.take 16).length=16:=by simp;omega
   refine⟨o.take 16,o,l++[{c:=ns .u64 (o.take 16)}],?_,⟨lt,fun x hx=>xo x (QP hx)⟩,by unfold nf;rw[hnum]⟩
   rw[J6]
   simp only[f3I,fH,Qn,Ql]
   generalize Zi 16 o=R at *
   generalize ZP=Z at *
   simp only[f3I,fH,Nh,Qr,quiet,cK,↓pQ,reduceCtorEq,seval,-Qb,cL,cJ,hz,hf,h2,h1,Qe,Q8,lz,lt,Qx,Qy,Q5,Za,Q6,QR]
theorem bI{d:List Nat}(hd:d.length=32)(hM:∀x∈d,x<2^44)(hN:num 65536 d<65536^32):∃r,evVal T 191 [eV d]=some (eV r)/\Nm r/\nf r=Go.Fp.fp (num 65536 d):=by
 obtain⟨r,d',l',hr,h1,h2⟩:=Sz _ d [] [] rfl hd hM hN
 refine⟨r,?_,h1,h2⟩
 simp only[f3I,fH,Qn,Ql]at hr
 have hz:=KE
 have lz:=XI
 have l1:=h1.len
 generalize ZP=Z at *
 apply QE (fn:=a86) rfl
 simp only[a86,Qr,quiet,cW,↓pW,reduceCtorEq,seval,-Qb,Jt,hz,hr,Qe,Qx,Qy,Q5,Za,Q6,Q8,hd,l1,lz,QR]
 rfl
theorem Le{n:Nat}{p q:List Nat}(hp:p.length=n)(hq:q.length=n):vEq (some (Qa n true)) false (eV p) (eV q)=some (.bool (p==q)):=by
 unfold eV
 rw[Lf,Ab hp hq]
 rfl
theorem qA{n:Nat}{p q:List Nat}(hp:p.length=n)(hq:q.length=n):vEq (some (Qa n true)) true (eV p) (eV q)=some (.bool (!(p==q))):=by
 unfold eV
 rw[Mo,Ab hp hq]
 rfl
theorem aF(x y:Go.Fp.Fe):x + -y=x-y:=by grobner
theorem Pe(x:Go.Fp.Fe):0-x = -x:=by grobner
def WT:List Nat:=Qa 32 0
theorem bo:Qa 32 (Value.int .u64 0)=ns .u64 WT:=rfl
theorem Np:WT.length=32:=rfl
def abI(a b d:List Nat)(i:Int)(ex:Env):St:=⟨[(2,.pointer (0:Nat)),(3,.pointer (1:Nat)),(4,.pointer (2:Nat)),(5,.pointer (3:Nat)),(6,.int .i64 i)]++ex,[{c:=ns .u64 a},{c:=ns .u64 b},{c:=ns .u64 ZP},{c:=ns .u64 d}],[]⟩
theorem S8(ha:Nm a)(hb:Nm b) :
  ∃d,Q0 T 0 (.block 0 (.loop EF)) (abI a b WT 0 [])=some (.normal,abI a b d 16 [(8,.bool false)])/\d.length=32/\(∀x∈d,x<2^44)/\num 65536 d=num 65536 a+num 65536 b:=by
 obtain⟨st,hl,o,rfl,h1,h2,h3⟩:=Zh (T:=T) (base:=0) (id:=0) (body:=EF)
  (fun i st=>∃o:List Nat,st=abI a b o i []/\o.length=32/\(∀x∈o,x<2^44)/\(∀j,i<=j->j<16->o[j]?=some 0)/\num 65536 o=num 65536 (a.take i)+num 65536 (b.take i))
  (Q:=fun st=>∃o:List Nat,st=abI a b o 16 [(8,.bool false)]/\o.length=32/\(∀x∈o,x<2^44)/\num 65536 o=num 65536 a+num 65536 b)
  16 (s:=abI a b WT 0 []) ⟨WT,rfl,rfl,by decide,fun j _ hj=>by unfold WT;rw[List.getElem?_replicate,if_pos qr],by simp[num];decide⟩
  (fun i st hi hs=>by
   obtain⟨o,rfl,h1,h2,h3,h4⟩:=hs
   obtain⟨x,hx⟩:∃x,a[i]?=some x:=⟨_,Qf (by rw[ha.len];omega)⟩
   obtain⟨y,hy⟩:∃y,b[i]?=some y:=⟨_,Qf (by rw[hb.len];omega)⟩
   have hx':=ha.lt x (Qo hx)
   have hy':=hb.lt y (Qo hy)
   have n1:=V6 (B:=65536) (x+y) (h3 i (Qs _) hi)
   have s1:=Xt .u64 o i (x+y)
   have hxc:=ZJ (k := .u64) hx
   have hyc:=ZJ (k := .u64) hy
   have l1:=ha.len
   have l2:=hb.len
   have w1:IntKind.i64.wrap ((i:Int)+1)=((i+1:Nat):Int):=Z3 (b:=1) qr
   have w2:IntKind.u64.wrap ((x:Int)+(y:Int))=((x+y:Nat):Int):=Wf qr
   have e1:((i:Int)<16)=True:=wf
   have e2:((i:Int)<32)=True:=wf
   have e4:(i<=31)=True:=wf
   refine⟨abI a b (o.set i (x+y)) ((i+1:Nat):Int) [],?_,_,rfl,by rw[Q4];exact h1,VH h2 qr,?_,?_⟩
   ·generalize o.set i (x+y)=O1 at *
    generalize x+y=v at *
    generalize i+1=i1 at *
    simp only[abI,EF,Qr,quiet,cW,↓pW,reduceCtorEq,seval,-Qb,hxc,hyc,w1,w2,e1,e2,e4,s1,Q8,h1,l1,l2]
   ·intro j hj hj'
    rw[Qu qr]
    exact h3 j qr hj'
   ·rw[Xa hx,Xa hy]
    rw[Zl]at n1
    omega)
  (fun st hs=>by
   obtain⟨o,rfl,h1,h2,h3,h4⟩:=hs
   rw[Qm (by rw[ha.len];omega),Qm (by rw[hb.len];omega)]at h4
   refine⟨_,?_,o,rfl,h1,h2,h4⟩
   simp only[abI,EF,Qr,quiet,cK,↓pQ,reduceCtorEq,seval,-Qb,cL])
 exact⟨o,hl,h1,h2,h3⟩
theorem GR(ha:Nm a)(hb:Nm b):∃r,evVal T 144 [eV a,eV b]=some (eV r)/\Nm r/\nf r=nf a+nf b:=by
 obtain⟨d,hd,l1,h2,h3⟩:=S8 ha hb
 have hal:=ha.num_lt
 have hbl:=hb.num_lt
 obtain⟨r,hr,hN,hf⟩:=bI l1 h2 (by
  rw[h3]
  have e:(65536:Nat)^32=2^256*2^256:=ww
  rw[e]
  have:(2:Nat)<=2^256:=ww
  have:=Z9 (2^256) this
  generalize(2:Nat)^256=M at *
  omega)
 refine⟨r,?_,hN,by rw[hf,h3,Go.Fp.Vx];rfl⟩
 simp only[abI,Qn,Ql,QA]at hd
 have hz:=KE
 have lz:=XI
 have hz2:=bo
 have lz2:=Np
 have la:=ha.len
 have lb:=hb.len
 have lr:=hN.len
 generalize ZP=Z at *
 generalize WT=Z2 at *
 apply QE (fn:=a72) rfl
 simp only[a72,Qr,quiet,cW,↓pW,reduceCtorEq,seval,-Qb,hz,hz2,hd,hr,Qe,Qx,Qy,Q5,Za,Q6,Q8,la,lb,l1,lr,lz,lz2,QR]
 rfl
theorem R8:Nm ZP:=⟨rfl,by decide⟩
theorem DB:num 65536 ZP=0:=ww
theorem GX:nf a=0↔num 65536 a%Go.Fp.P=0:=by
 unfold nf
 rw[<-Go.Fp.cH,Go.Fp.TM,Nat.zero_mod]
theorem Ps{v w:Nat}(hv:v<2^256)(hw:w<2^256):(dig 65536 16 v==dig 65536 16 w)=decide (v=w):=by
 by_cases h:v=w
 ·subst h;simp
 ·rw[decide_eq_false h,beq_eq_false_iff_ne.2]
  intro e
  have:=congrArg (num 65536) e
  rw[VS hv,VS hw]at this
  exact h this
theorem PH:Go.Fp.P<2^256:=ww
theorem Fo:0<Go.Fp.P:=ww
theorem FP(a:List Nat):(dig 65536 16 (num 65536 a%Go.Fp.P)==ZP)=decide (nf a=0):=by
 have hz:ZP=dig 65536 16 0:=ww
 have h1:=Q9 (num 65536 a) Fo
 have h2:=PH
 rw[hz,Ps qr qr]
 by_cases h:nf a=0
 ·rw[decide_eq_true h,decide_eq_true (GX.1 h)]
 ·rw[decide_eq_false h,decide_eq_false (fun e=>h (GX.2 e))]
theorem Sv{a:List Nat}(ha:Nm a):∃r,evVal T 145 [eV a]=some (eV r)/\Nm r/\nf r = -nf a:=by
 have hc:=Ub ha
 have hq:=FP a
 have h1:=Q9 (num 65536 a) Fo
 have hPl:=PH
 have hC:=Nm.dig (num 65536 a%Go.Fp.P)
 have hCn:=VS (v:=num 65536 a%Go.Fp.P) qr
 have hp:=GM
 have hm:=AW Y8 hC (by rw[hCn,Uc];omega)
 have lP:=Y8.len
 have lC:=hC.len
 have la:=ha.len
 have hz:=KE
 have lz:=XI
 have hf:=Bn
 rw[hCn,Uc]at hm
 have hceq:=Le lC lz
 rw[hq]at hceq
 by_cases h:nf a=0
 ·rw[decide_eq_true h]at hceq
  refine⟨dig 65536 16 (num 65536 a%Go.Fp.P),?_,hC,?_⟩
  ·generalize dig 65536 16 (num 65536 a%Go.Fp.P)=C at *
   generalize ZP=Z at *
   apply QE (fn:=a73) rfl
   simp only[a73,Qr,quiet,cW,↓pW,reduceCtorEq,seval,-Qb,hz,hf,hc,hceq,Qe,Qx,Qy,Q5,Za,Q6,Q8,la,lC,lz,QR]
   rfl
  ·unfold nf
   rw[hCn,Go.Fp.YO]
   show nf a = - nf a
   rw[h];grobner
 ·rw[decide_eq_false h]at hceq
  have hR:=Nm.dig (Go.Fp.P-num 65536 a%Go.Fp.P)
  have hRn:=VS (v:=Go.Fp.P-num 65536 a%Go.Fp.P) qr
  refine⟨dig 65536 16 (Go.Fp.P-num 65536 a%Go.Fp.P),?_,hR,?_⟩
  ·have lR:=hR.len
   generalize dig 65536 16 (num 65536 a%Go.Fp.P)=C,dig 65536 16 (Go.Fp.P-num 65536 a%Go.Fp.P)=R at *
   generalize KR=PL at *
   generalize ZP=Z at *
   apply QE (fn:=a73) rfl
   simp only[a73,Qr,quiet,cW,↓pW,reduceCtorEq,seval,-Qb,hz,hf,hc,hceq,hp,hm,Qe,Qx,Qy,Q5,Za,Q6,Q8,la,lC,lR,lP,lz,QR]
   rfl
  ·show Go.Fp.fp (num 65536 _)=_
   rw[hRn,Go.Fp.ow qr,Go.Fp.YO,Go.Fp.xC]
   exact Pe _
theorem DM(ha:Nm a)(hb:Nm b):∃r,evVal T 141 [eV a,eV b]=some (eV r)/\Nm r/\nf r=nf a-nf b:=by
 obtain⟨n,hn,hN,hnf⟩:=Sv hb
 obtain⟨r,hr,hR,hrf⟩:=GR ha hN
 refine⟨r,?_,hR,by rw[hrf,hnf,aF]⟩
 have hz:=KE
 have lz:=XI
 have la:=ha.len
 have lb:=hb.len
 have lr:=hR.len
 generalize ZP=Z at *
 apply QE (fn:=a69) rfl
 simp only[a69,Qr,quiet,cW,↓pW,reduceCtorEq,seval,-Qb,hz,hn,hr,Qe,Qx,Qy,Q5,Za,Q6,Q8,la,lb,lr,lz,QR]
 rfl
def Nf(a b d:List Nat)(i k:Int)(ex:Env):St:=⟨[(2,.pointer (0:Nat)),(3,.pointer (1:Nat)),(4,.pointer (2:Nat)),(5,.pointer (3:Nat)),(6,.int .i64 i),(7,.int .i64 k)]++ex,[{c:=ns .u64 a},{c:=ns .u64 b},{c:=ns .u64 ZP},{c:=ns .u64 d}],[]⟩
theorem Sw{d:List Nat}{x S:Nat}(ha:Nm a)(hb:Nm b)(hi:i<16)(hx:a[i]?=some x)(hd:d.length=32)(hM:∀x∈d,x<=S*4294967296)(hS:S<=256) :
  ∃d',Q0 T 0 (.block 2 (.loop EJ)) (Nf a b d i 0 [])=some (.normal,Nf a b d' i 16 [(13,.bool false)])/\d'.length=32/\(∀x∈d',x<=(S+16)*4294967296)/\num 65536 d'=num 65536 d+x*num 65536 b*65536^i:=by
 have hx':=ha.lt x (Qo hx)
 obtain⟨st,hl,d',rfl,h2,h3,h4⟩:=Zh (T:=T) (base:=0) (id:=2) (body:=EJ)
  (fun k st=>∃d':List Nat,st=Nf a b d' i k []/\d'.length=32/\(∀x∈d',x<=(S+k)*4294967296)/\num 65536 d'=num 65536 d+x*num 65536 (b.take k)*65536^i)
  (Q:=fun st=>∃d':List Nat,st=Nf a b d' i 16 [(13,.bool false)]/\d'.length=32/\(∀x∈d',x<=(S+16)*4294967296)/\num 65536 d'=num 65536 d+x*num 65536 b*65536^i)
  16 (s:=Nf a b d i 0 []) ⟨d,rfl,hd,by simpa using hM,by simp[num]⟩
  (fun k st hk hs=>by
   obtain⟨d',rfl,h2,h3,h4⟩:=hs
   obtain⟨y,hy⟩:∃y,b[k]?=some y:=⟨_,Qf (by rw[hb.len];omega)⟩
   obtain⟨v,hv⟩:∃y,d'[i+k]?=some y:=⟨_,Qf qr⟩
   have hy':=hb.lt y (Qo hy)
   have hv':=h3 v (Qo hv)
   have hxy:x*y<=65535*65535:=Nat.mul_le_mul qr qr
   have hxc:=ZJ (k := .u64) hx
   have hyc:=ZJ (k := .u64) hy
   have hvc:=ZJ (k := .u64) hv
   have l1:=ha.len
   have l2:=hb.len
   have e1:((k:Int)<16)=True:=wf
   have e3:((i:Int)<16)=True:=wf
   have w1:IntKind.i64.wrap ((k:Int)+1)=((k+1:Nat):Int):=Z3 (b:=1) qr
   have w2:IntKind.i64.wrap ((i:Int)+(k:Int))=((i+k:Nat):Int):=Z3 qr
   have w5:IntKind.u64.wrap ((x:Int)*(y:Int))=((x*y:Nat):Int):=U4 qr
   have w6:IntKind.u64.wrap ((v:Int)+((x*y:Nat):Int))=((v+x*y:Nat):Int):=Wf qr
   have hset:=Xt .u64 d' (i+k) (v+x*y)
   have hn:=V6 (B:=65536) (v+x*y) hv
   refine⟨Nf a b (d'.set (i+k) (v+x*y)) i ((k+1:Nat):Int) [],?_,d'.set (i+k) (v+x*y),rfl,by rw[Q4];exact h2,?_,?_⟩
   ·have e5:(((i+k:Nat):Int)<32)=True:=wf
    have e7:(i+k<=31)=True:=wf
    generalize d'.set (i+k) (v+x*y)=D' at *
    generalize v+x*y=u at *
    generalize x*y=xy at *
    generalize i+k=j at *
    generalize k+1=k1 at *
    simp only[Nf,EJ,Qr,quiet,cW,↓pW,reduceCtorEq,seval,-Qb,e1,e3,e5,e7,w1,w2,w5,w6,hxc,hyc,hvc,hset,Q8,h2,l1,l2]
   ·intro z hz
    rcases List.mem_or_eq_of_mem_set hz with h|h
    ·exact Xm (h3 z h) (Z9 _ (Nat.le_succ _))
    ·omega
   ·rw[Xa hy]
    have e8:(v+x*y)*65536^(i+k)=v*65536^(i+k)+x*y*65536^k*65536^i:=by
     rw[Zl,ZD (x*y),<-JI,Xu k i]
    rw[YE,Zl,<-ZD x y]
    omega)
  (fun st hs=>by
   obtain⟨d',rfl,h2,h3,h4⟩:=hs
   rw[Qm (by rw[hb.len];omega)]at h4
   refine⟨_,?_,d',rfl,h2,h3,h4⟩
   simp only[Nf,EJ,Qr,quiet,cK,↓pQ,reduceCtorEq,seval,-Qb,cL])
 exact⟨d',hl,h2,h3,h4⟩
theorem Sx(ha:Nm a)(hb:Nm b) :
  ∃d,Q0 T 0 (.block 0 (.loop EI)) (abI a b WT 0 [])=some (.normal,abI a b d 16 [(9,.bool false)])/\d.length=32/\(∀x∈d,x<2^44)/\num 65536 d=num 65536 a*num 65536 b:=by
 obtain⟨st,hl,o,rfl,h1,h2,h3⟩:=Zh (T:=T) (base:=0) (id:=0) (body:=EI)
  (fun i st=>∃(o:List Nat) (ex:Env),st=abI a b o i ex/\o.length=32/\(∀x∈o,x<=(i*16)*4294967296)/\num 65536 o=num 65536 (a.take i)*num 65536 b)
  (Q:=fun st=>∃o:List Nat,st=abI a b o 16 [(9,.bool false)]/\o.length=32/\(∀x∈o,x<2^44)/\num 65536 o=num 65536 a*num 65536 b)
  16 (s:=abI a b WT 0 []) ⟨WT,[],rfl,rfl,by decide,by simp[num];decide⟩
  (fun i st hi hs=>by
   obtain⟨o,ex,rfl,h1,h2,h3⟩:=hs
   obtain⟨x,hx⟩:∃x,a[i]?=some x:=⟨_,Qf (by rw[ha.len];omega)⟩
   obtain⟨d',hb',g1,g2,g3⟩:=Sw ha hb hi hx h1 h2 qr
   simp only[Nf,Qn,Ql,QA]at hb'
   have w1:IntKind.i64.wrap ((i:Int)+1)=((i+1:Nat):Int):=Z3 (b:=1) qr
   have e1:((i:Int)<16)=True:=wf
   refine⟨abI a b d' ((i+1:Nat):Int) [],?_,d',[],rfl,g1,?_,?_⟩
   ·simp only[abI,EI,Qr,quiet,cW,↓pW,reduceCtorEq,seval,-Qb,e1,w1,hb']
   ·intro z hz
    exact Xm (g2 z hz) (Z9 _ qr)
   ·rw[g3,h3,Xa hx,Zl,ZD,ZD,Zm (num 65536 b) (65536^i)])
  (fun st hs=>by
   obtain⟨o,ex,rfl,h1,h2,h3⟩:=hs
   rw[Qm (by rw[ha.len];omega)]at h3
   refine⟨_,?_,o,rfl,h1,fun x hx=>Jc (h2 x hx) ww,h3⟩
   simp only[abI,EI,Qr,quiet,cK,↓pQ,reduceCtorEq,seval,-Qb,cL])
 exact⟨o,hl,h1,h2,h3⟩
theorem Xh(ha:Nm a)(hb:Nm b):∃r,evVal T 139 [eV a,eV b]=some (eV r)/\Nm r/\nf r=nf a*nf b:=by
 obtain⟨d,hd,l1,h2,h3⟩:=Sx ha hb
 have hal:=ha.num_lt
 have hbl:=hb.num_lt
 obtain⟨r,hr,hN,hf⟩:=bI l1 h2 (by
  rw[h3]
  have e:(65536:Nat)^32=2^256*2^256:=ww
  rw[e]
  exact Nat.mul_lt_mul'' hal hbl)
 refine⟨r,?_,hN,by rw[hf,h3,Go.Fp.Kg];rfl⟩
 simp only[abI,Qn,Ql,QA]at hd
 have hz:=KE
 have lz:=XI
 have hz2:=bo
 have lz2:=Np
 have la:=ha.len
 have lb:=hb.len
 have lr:=hN.len
 generalize ZP=Z at *
 generalize WT=Z2 at *
 apply QE (fn:=a67) rfl
 simp only[a67,Qr,quiet,cW,↓pW,reduceCtorEq,seval,-Qb,hz,hz2,hd,hr,Qe,Qx,Qy,Q5,Za,Q6,Q8,la,lb,l1,lr,lz,lz2,QR]
 rfl
def rpH(a n o:List Nat):List Ob:=[{c:=ns .u64 a},{c:=ns .u64 n},{c:=ns .u64 ZP},{c:=ns .u64 o}]
def rpI(a n o:List Nat)(i:Int)(ex:Env):St:=⟨[(2,.pointer (0:Nat)),(3,.pointer (1:Nat)),(4,.pointer (2:Nat)),(5,.pointer (3:Nat)),(6,.int .i64 i)]++ex,rpH a n o,[]⟩
def rbI(a n o:List Nat)(i:Int)(w k:Nat)(ex:Env):St:=⟨[(2,.pointer (0:Nat)),(3,.pointer (1:Nat)),(4,.pointer (2:Nat)),(5,.pointer (3:Nat)),(6,.int .i64 i),(7,.int .u64 w),(8,.int .i64 k)]++ex,rpH a n o,[]⟩
theorem lQ(hi:i<256)(hw:w<65536) :
  Q0 T 0 (.block 2 (.loop E7)) (rbI a n o i w 0 [])=some (.normal,rbI a n o i (w/2^(i%16)) (i%16) [(24,.bool false)]):=by
 have e3:(i:Int).tmod 16=((i%16:Nat):Int):=rfl
 have h:=ZR (T:=T) (base:=0) (id:=2) (body:=E7) (fun k=>rbI a n o i (w/2^k) k []) (s':=rbI a n o i (w/2^(i%16)) (i%16) [(24,.bool false)]) (i%16)
  (fun k hk=>by
   have h16:=Q9 i (by decide:0<16)
   have e1:((k:Int)<((i%16:Nat):Int))=True:=wf
   have w1:IntKind.i64.wrap ((k:Int)+1)=((k+1:Nat):Int):=Z3 (b:=1) qr
   have hle:w/2^k<=w:=Jx _ _
   have w2:IntKind.u64.wrap (((w/2^k:Nat):Int).tdiv 2)=((w/2^k/2:Nat):Int):=Kz (n:=w/2^k/2) qr
   rw[Zj,<-QV]
   generalize w/2^k=v at *
   generalize v/2=u at *
   generalize i%16=m at *
   simp only[rbI,rpH,E7,Qr,quiet,cW,↓pW,reduceCtorEq,seval,-Qb,e1,e3,w1,w2])
  (by
   generalize w/2^(i%16)=v at *
   generalize i%16=m at *
   simp only[rbI,rpH,E7,Qr,quiet,cW,↓pW,reduceCtorEq,seval,-Qb,e3])
 rw[ZN,J1]at h
 exact h
theorem qU(ha:Nm a)(hn:Nm n)(hi:i<256)(ho:Nm o)(hp:nf o=Go.Fp.pow (nf a) (num 65536 n/2^(i+1))) :
  ∃r ex',Q0 T 0 Tt (rpI a n o i ex)=some (.normal,rpI a n r ((i:Int)-1) ex')/\Nm r/\nf r=Go.Fp.pow (nf a) (num 65536 n/2^i):=by
 obtain⟨w,hw⟩:∃w,n[i/16]?=some w:=⟨_,Qf (by rw[hn.len];omega)⟩
 have hw':=hn.lt w (Qo hw)
 have hwv:=Kv (B:=65536) ww hn.lt hw
 have hwc:=ZJ (k := .u64) hw
 have hbit:w/2^(i%16)%2=num 65536 n/2^i%2:=by
  rw[<-hwv,show(65536:Nat)=2^16 from rfl,Ad (Q9 _ ww),Z5]
 obtain⟨r1,m1,g1,g2⟩:=Xh ho ho
 obtain⟨r2,m2,g3,g4⟩:=Xh g1 ha
 have hlt:=Bg (num 65536 n) i
 have hnum:num 65536 n/2^i=2*(num 65536 n/2^(i+1))+num 65536 n/2^i%2:=by
  rw[Zj,<-QV]
  omega
 have hstep:=Oc (nf a) (num 65536 n/2^(i+1)) (num 65536 n/2^i%2) hlt
 rw[<-hnum,<-hp]at hstep
 have hb:=lQ (a:=a) (n:=n) (o:=r1) hi hw'
 simp only[rbI,rpH,Qn,Ql,QA]at hb
 have w2:IntKind.i64.wrap ((i:Int).tdiv 16)=((i/16:Nat):Int):=wn (n:=i/16) qr
 have w3:IntKind.i64.wrap ((i:Int)-1)=(i:Int)-1:=QU qr qr
 have w4:((w/2^(i%16):Nat):Int).tmod 2=((w/2^(i%16)%2:Nat):Int):=rfl
 have e1:((0:Int)<=(i:Int))=True:=wf
 have e3:(((i/16:Nat):Int)<16)=True:=wf
 have l0:=ha.len
 have l1:=hn.len
 have l2:=ho.len
 have l3:=g1.len
 have l4:=g3.len
 rw[hbit]at w4
 generalize hB:num 65536 n/2^i%2=B at *
 generalize w/2^(i%16)=wv at *
 by_cases hB1:B=1
 ·have hbq:((B:Int)==1)=true:=by rw[hB1];rfl
  rw[if_pos hB1]at hstep
  refine⟨r2,[],?_,g3,by rw[hstep,g4,g2]⟩
  simp only[rpI,rpH,Tt,Qr,quiet,cW,↓pW,reduceCtorEq,seval,-Qb,hwc,hb,w2,w3,w4,e1,e3,m1,m2,hbq,Qy,Q5,Za,Q6,Q8,Qx,l0,l1,l2,l3,l4,QR]
 ·have hbq:((B:Int)==1)=false:=by
   have:B=0:=qr
   rw[this];rfl
  rw[if_neg hB1]at hstep
  refine⟨r1,[],?_,g1,by rw[hstep,g2]⟩
  simp only[rpI,rpH,Tt,Qr,quiet,cW,↓pW,reduceCtorEq,seval,-Qb,hwc,hb,w2,w3,w4,e1,e3,m1,m2,hbq,Qy,Q5,Za,Q6,Q8,Qx,l0,l1,l2,l3,l4,QR]
theorem Lq:nf (JG 1)=1:=by unfold nf;rw[Kp ww];rfl
theorem AV(ha:Nm a)(hn:Nm n):∃r,evVal T 193 [eV a,eV n]=some (eV r)/\Nm r/\nf r=Go.Fp.pow (nf a) (num 65536 n):=by
 have hK:=hn.num_lt
 obtain⟨st,hb,r,rfl,hr1,hr2⟩:=Zh (T:=T) (base:=0) (id:=0) (body:=Tt)
  (fun j st=>∃(r:List Nat) (ex:Env),st=rpI a n r ((255:Int)-j) ex/\Nm r/\nf r=Go.Fp.pow (nf a) (num 65536 n/2^(256-j)))
  (Q:=fun st=>∃r:List Nat,st=rpI a n r (-1) [(11,.bool false)]/\Nm r/\nf r=Go.Fp.pow (nf a) (num 65536 n))
  256 (s:=rpI a n (JG 1) 255 []) ⟨_,[],rfl,X8 1,by rw[Lq,KC,JK hK];rfl⟩
  (fun j st hj hs=>by
   obtain⟨r,ex,rfl,h1,h2⟩:=hs
   obtain⟨i,hi⟩:∃i,256-j=i+1:=⟨255-j,by omega⟩
   rw[hi]at h2
   obtain⟨r',ex',g1,g2,g3⟩:=qU (ex:=ex) ha hn (i:=i) qr h1 h2
   rw[show(255:Int)-j=(i:Int) by omega]
   refine⟨_,g1,r',ex',?_,g2,?_⟩
   ·rw[show(255:Int)-((j+1:Nat):Int)=(i:Int)-1 by omega]
   ·rw[show 256-(j+1)=i by omega];exact g3)
  (fun st hs=>by
   obtain⟨r,ex,rfl,h1,h2⟩:=hs
   rw[Q7,ZN,J1]at h2
   have e:((0:Int) <= -1)=False:=ww
   refine⟨_,?_,r,rfl,h1,h2⟩
   rw[show(255:Int)-((256:Nat):Int) = -1 by omega]
   simp only[rpI,rpH,Tt,Qr,quiet,cK,↓pQ,reduceCtorEq,seval,-Qb,cL,e])
 refine⟨r,?_,hr1,hr2⟩
 have hs:=Vs 1 ww
 have ls:=(X8 1).len
 have hz:=KE
 have lz:=XI
 have la:=ha.len
 have ln:=hn.len
 have lr:=hr1.len
 simp only[Vd]at hs
 simp only[rpI,rpH,Qn,Ql]at hb
 generalize ZP=Z at *
 generalize JG 1=S at *
 apply QE (fn:=a88) rfl
 simp only[a88,Qr,quiet,cW,↓pW,reduceCtorEq,seval,-Qb,hz,hs,hb,Qe,Qx,Qy,Q5,Za,Q6,Q8,la,ln,lr,ls,lz,QR]
 rfl
theorem Bv(ha:Nm a):∃r,evVal T 143 [eV a]=some (eV r)/\Nm r/\nf r=Go.Fp.iv (nf a):=by
 have hp:=GM
 have hs:=Vs 2 ww
 have hm:=AW Y8 (X8 2) (by rw[Uc,Kp ww];decide)
 rw[Uc,Kp ww]at hm
 have hN:=Nm.dig (Go.Fp.P-2)
 have hn:=VS (v:=Go.Fp.P-2) ww
 obtain⟨r,hr,h1,h2⟩:=AV ha hN
 rw[hn]at h2
 refine⟨r,?_,h1,h2⟩
 have hz:=KE
 have lz:=XI
 have la:=ha.len
 have lp:=Y8.len
 have ls:=(X8 2).len
 have lm:=hN.len
 have lr:=h1.len
 simp only[JP]at hs
 generalize ZP=Z at *
 generalize KR=PL at *
 generalize JG 2=S,dig 65536 16 (Go.Fp.P-2)=E at *
 apply QE (fn:=a71) rfl
 simp only[a71,Qr,quiet,cW,↓pW,reduceCtorEq,seval,-Qb,hz,hp,hs,hm,hr,Qe,Qx,Qy,Q5,Za,Q6,Q8,la,lp,ls,lm,lr,lz,QR]
 rfl
theorem d_eq : -(Go.Fp.fp 121665)*Go.Fp.iv (Go.Fp.fp 121666)=Go.Fp.d:=by
 have h0:Go.Fp.fp 121666≠0:=by decide +kernel
 have h1:=Go.Fp.KS h0
 have h2:Go.Fp.fp 121666*Go.Fp.d = - Go.Fp.fp 121665:=by decide +kernel
 refine Go.Fp.fld.cancel h0 ?_
 rw[h2]
 generalize Go.Fp.iv (Go.Fp.fp 121666)=y at *
 generalize Go.Fp.fp 121666=x,Go.Fp.fp 121665=z at *
 clear h0 h2
 grobner
theorem wg:∃r,evVal T 80 []=some (eV r)/\Nm r/\nf r=Go.Fp.d:=by
 have s1:=Vs 121665 ww
 have s2:=Vs 121666 ww
 obtain⟨n,hn,n1,n2⟩:=Sv (X8 121665)
 obtain⟨v,hv,v1,v2⟩:=Bv (X8 121666)
 obtain⟨r,hr,r1,r2⟩:=Xh n1 v1
 refine⟨r,?_,r1,?_⟩
 ·have hz:=KE
  have lz:=XI
  have lr:=r1.len
  simp only[JP]at s1 s2
  generalize ZP=Z at *
  generalize JG 121665=S1,JG 121666=S2 at *
  apply QE (fn:=a36) rfl
  simp only[a36,Qr,quiet,cW,↓pW,reduceCtorEq,seval,-Qb,hz,s1,s2,hn,hv,hr,Qe,Qx,Qy,Q5,Za,Q6,Q8,lr,lz,QR]
  rfl
 ·have e1:nf (JG 121665)=Go.Fp.fp 121665:=by unfold nf;rw[Kp ww]
  have e2:nf (JG 121666)=Go.Fp.fp 121666:=by unfold nf;rw[Kp ww]
  rw[r2,n2,v2,e1,e2,d_eq]
theorem six(l:List Nat)(h:l.length=16):∃a0 a1 a2 a3 a4 a5 a6 a7 a8 a9 a10 a11 a12 a13 a14 a15,l=[a0,a1,a2,a3,a4,a5,a6,a7,a8,a9,a10,a11,a12,a13,a14,a15]:=by
 match l,h with
 |[a0,a1,a2,a3,a4,a5,a6,a7,a8,a9,a10,a11,a12,a13,a14,a15],_=>exact⟨a0,a1,a2,a3,a4,a5,a6,a7,a8,a9,a10,a11,a12,a13,a14,a15,rfl⟩
def tL(x y z:List Nat):List Nat:=x++(y++z)
theorem GH(hx:x.length=16)(hy:y.length=16)(hz:z.length=16):(tL x y z).length=48:=by simp[tL,hx,hy,hz]
theorem tri(hx:x.length=16)(hy:y.length=16)(hz:z.length=16) :
  Zi 16 (ns .u64 (tL x y z))=ns .u64 x/\Zi 16 (J2 16 (ns .u64 (tL x y z)))=ns .u64 y/\Zi 16 (J2 32 (ns .u64 (tL x y z)))=ns .u64 z:=by
 obtain⟨a0,a1,a2,a3,a4,a5,a6,a7,a8,a9,a10,a11,a12,a13,a14,a15,rfl⟩:=six _ hx
 obtain⟨b0,b1,b2,b3,b4,b5,b6,b7,b8,b9,b10,b11,b12,b13,b14,b15,rfl⟩:=six _ hy
 obtain⟨c0,c1,c2,c3,c4,c5,c6,c7,c8,c9,c10,c11,c12,c13,c14,c15,rfl⟩:=six _ hz
 exact⟨rfl,rfl,rfl⟩
def Vf:List Nat:=Qa 48 0
theorem R9:Qa 48 (Value.int .u64 0)=ns .u64 Vf:=rfl
theorem Hx:Vf.length=48:=rfl
theorem oA(hx:x.length=16)(hy:y.length=16)(hz:z.length=16):fillL (ns .u64 Vf) [(0,16,eV x),(16,16,eV y),(32,16,eV z)]=some (ns .u64 (tL x y z)):=by
 obtain⟨a0,a1,a2,a3,a4,a5,a6,a7,a8,a9,a10,a11,a12,a13,a14,a15,rfl⟩:=six _ hx
 obtain⟨b0,b1,b2,b3,b4,b5,b6,b7,b8,b9,b10,b11,b12,b13,b14,b15,rfl⟩:=six _ hy
 obtain⟨c0,c1,c2,c3,c4,c5,c6,c7,c8,c9,c10,c11,c12,c13,c14,c15,rfl⟩:=six _ hz
 rfl
theorem xD(hy:y.length=16)(hz:z.length=16):fillL (ns .u64 Vf) [(16,16,eV y),(32,16,eV z)]=some (ns .u64 (tL ZP y z)):=by
 obtain⟨b0,b1,b2,b3,b4,b5,b6,b7,b8,b9,b10,b11,b12,b13,b14,b15,rfl⟩:=six _ hy
 obtain⟨c0,c1,c2,c3,c4,c5,c6,c7,c8,c9,c10,c11,c12,c13,c14,c15,rfl⟩:=six _ hz
 rfl
structure RRep(x y z:List Nat)(p:Go.Cv.Pt Go.Fp.P Go.Fp.d):Prop where
 nx:Nm x
 ny:Nm y
 nz:Nm z
 ne:nf z≠0
 x:nf x=p.x*nf z
 y:nf y=p.y*nf z
def RP(l:List Nat)(p:Go.Cv.Pt Go.Fp.P Go.Fp.d):Prop:=∃x y z,l=tL x y z/\RRep x y z p
theorem RP.len{l:List Nat}{p:Go.Cv.Pt Go.Fp.P Go.Fp.d}(h:RP l p):l.length=48:=by
 obtain⟨x,y,z,rfl,h⟩:=h
 exact GH h.nx.len h.ny.len h.nz.len
theorem fe_m1(b D:Go.Fp.Fe):b-D*b=b*(1-D):=by grobner
theorem fe_m2(b D:Go.Fp.Fe):b+D*b=b*(1+D):=by grobner
theorem sum_x{a b q w:Go.Fp.Fe}(hs:s*(1+D)=N)(hb:b=a*a)
 (hm:m=b-D*b) (hq:q=b+D*b) (hw:w=N*a):a*m*w=s*(m*q):=by
  subst hw hm hq hb
  rw[<-hs]
  clear hs
  grobner
theorem sum_y{a b q:Go.Fp.Fe}(hs:s*(1-D)=N)(hb:b=a*a)
 (hm:m=b-D*b) (hq:q=b+D*b):a*q*(N*a)=s*(m*q):=by
  subst hm hq hb
  rw[<-hs]
  clear hs
  grobner
theorem lU{x1 y1 z1 x2 y2 z2:Go.Fp.Fe}(n1:z1≠0)(n2:z2≠0)(hx1:x1=p.x*z1)(hy1:y1=p.y*z1)(hx2:x2=q.x*z2)(hy2:y2=q.y*z2)
 {a b c e g u w:Go.Fp.Fe} (ha:a=z1*z2) (hb:b=a*a) (hc:c=x1*x2) (he:e=y1*y2) (hg:g=Go.Fp.d*(c*e)) (hm:m=b-g) (hu:u=b+g) (hw:w=(x1+y1)*(x2+y2)-c-e) :
    m*u≠0/\a*m*w=(JH p q).x*(m*u)/\a*u*(e+c)=(JH p q).y*(m*u):=by
  have F:=Go.Fp.fld
  have hP:=F.denP p.on q.on
  have hM:=F.denM p.on q.on
  have sx:=Go.Cv.DA Go.Fp.fld p q
  have sy:=Go.Cv.BM Go.Fp.fld p q
  have hx:(JH p q).x*(1+Go.Fp.d*p.x*q.x*p.y*q.y)=p.x*q.y+q.x*p.y:=sx
  have hy:(JH p q).y*(1-Go.Fp.d*p.x*q.x*p.y*q.y)=p.y*q.y+p.x*q.x:=sy
  clear sx sy
  generalize(JH p q).x=s1,(JH p q).y=s2 at *
  generalize p.x=px at *
  generalize p.y=py at *
  generalize q.x=qx at *
  generalize q.y=qy at *
  generalize Go.Fp.d=d at *
  have an:a≠0:=by rw[ha];exact F.mul_ne n1 n2
  have bn:b≠0:=by rw[hb];exact F.mul_ne an an
  have hgb:g=d*px*qx*py*qy*b:=by
    subst hx1 hy1 hx2 hy2 hc he hb ha
    rw[hg]
    clear hg hm hu hw hP hM hx hy n1 n2 an bn F
    grobner
  have hwa:w=(px*qy+qx*py)*a:=by
    subst hx1 hy1 hx2 hy2 hc he ha
    rw[hw]
    clear hg hm hu hw hP hM hx hy n1 n2 an bn F hgb hb
    grobner
  have hec:e+c=(py*qy+px*qx)*a:=by
    subst hx1 hy1 hx2 hy2 hc he ha
    clear hg hm hu hw hP hM hx hy n1 n2 an bn F hgb hb hwa
    grobner
  have hm':m=b-d*px*qx*py*qy*b:=by rw[hm,hgb]
  have hu':u=b+d*px*qx*py*qy*b:=by rw[hu,hgb]
  generalize hD:d*px*qx*py*qy=D at *
  refine⟨?_,?_,?_⟩
  · have e1:m=b*(1-D):=by rw[hm'];exact fe_m1 _ _
    have e2:u=b*(1+D):=by rw[hu'];exact fe_m2 _ _
    rw[e1,e2]
    exact F.mul_ne (F.mul_ne bn hM) (F.mul_ne bn hP)
  · exact sum_x hx hb hm' hu' hwa
  · rw[hec]
    exact sum_y hy hb hm' hu'
theorem Lw{l1 l2 dl:List Nat}(h1:RP l1 p)(h2:RP l2 q)(Nd:Nm dl)(hd:nf dl=Go.Fp.d):∃r,evVal T 79 [eV l1,eV l2,eV dl]=some (eV r)/\RP r (JH p q):=by
 obtain⟨x1,y1,z1,rfl,h1⟩:=h1
 obtain⟨x2,y2,z2,rfl,h2⟩:=h2
 obtain⟨a,va,Na,fa⟩:=Xh h1.nz h2.nz
 obtain⟨b,vb,Nb,fb⟩:=Xh Na Na
 obtain⟨c,vc,Nc,fc⟩:=Xh h1.nx h2.nx
 obtain⟨e,ve,Ne,fe'⟩:=Xh h1.ny h2.ny
 obtain⟨ce,vce,Nce,fce⟩:=Xh Nc Ne
 obtain⟨g,vg,Ng,fg⟩:=Xh Nd Nce
 obtain⟨m,vm,Nmm,fm⟩:=DM Nb Ng
 obtain⟨u,vu,Nu,fu⟩:=GR Nb Ng
 obtain⟨s1,vs1,Ns1,fs1⟩:=GR h1.nx h1.ny
 obtain⟨s2,vs2,Ns2,fs2⟩:=GR h2.nx h2.ny
 obtain⟨s3,vs3,Ns3,fs3⟩:=Xh Ns1 Ns2
 obtain⟨s4,vs4,Ns4,fs4⟩:=DM Ns3 Nc
 obtain⟨w,vw,Nw,fw⟩:=DM Ns4 Ne
 obtain⟨am,vam,Nam,fam⟩:=Xh Na Nmm
 obtain⟨X,vX,NX,fX⟩:=Xh Nam Nw
 obtain⟨au,vau,Nau,fau⟩:=Xh Na Nu
 obtain⟨ec,vec,Nec,fec⟩:=GR Ne Nc
 obtain⟨Y,vY,NY,fY⟩:=Xh Nau Nec
 obtain⟨Z,vZ,NZ,fZ⟩:=Xh Nmm Nu
 obtain⟨g1,g2,g3⟩:=lU (w:=nf w) (g:=nf g) h1.ne h2.ne h1.x h1.y h2.x h2.y fa fb fc fe' (by rw[fg,hd,fce]) fm fu (by rw[fw,fs4,fs3,fs1,fs2])
 refine⟨tL X Y Z,?_,X,Y,Z,rfl,NX,NY,NZ,by rw[fZ];exact g1,by rw[fX,fam,fZ];exact g2,by rw[fY,fau,fec,fZ];exact g3⟩
 obtain⟨u0,u1,u2⟩:=tri h1.nx.len h1.ny.len h1.nz.len
 obtain⟨v0,v1,v2⟩:=tri h2.nx.len h2.ny.len h2.nz.len
 have L1:=GH h1.nx.len h1.ny.len h1.nz.len
 have L2:=GH h2.nx.len h2.ny.len h2.nz.len
 have L3:=GH NX.len NY.len NZ.len
 have hf:=oA NX.len NY.len NZ.len
 have hz:=KE
 have lz:=XI
 have hz2:=R9
 have lz2:=Hx
 have ld:=Nd.len
 have la:=Na.len
 have lb:=Nb.len
 have lc:=Nc.len
 have le:=Ne.len
 have lg:=Ng.len
 have lm:=Nmm.len
 have lu:=Nu.len
 have lw:=Nw.len
 generalize ZP=Z16 at *
 generalize Vf=Z48 at *
 generalize tL X Y Z=R,tL x1 y1 z1=P1,tL x2 y2 z2=P2 at *
 apply QE (fn:=a35) rfl
 simp only[a35,Qr,quiet,cW,↓pW,reduceCtorEq,seval,-Qb,hz,hz2,u0,u1,u2,v0,v1,v2,hf,va,vb,vc,ve,vce,vg,vm,vu,vs1,vs2,vs3,vs4,vw,vam,vX,vau,vec,vY,vZ,Qe,Qx,Qy,Q5,Za,Q6,Q8,L1,L2,L3,lz,lz2,ld,la,lb,lc,le,lg,lm,lu,lw,QR]
 rfl
theorem qN:∃r,evVal T 146 []=some (eV r)/\RP r XM:=by
 have hs:=Vs 1 ww
 have hN:=X8 1
 have h1:=Lq
 have h0:nf ZP=0:=by unfold nf;rw[DB];rfl
 refine⟨tL ZP (JG 1) (JG 1),?_,_,_,_,rfl,R8,hN,hN,by rw[h1];exact Go.Fp.Y4,by rw[h0,h1];show(0:Go.Fp.Fe)=0*1;grobner,by rw[h1];show(1:Go.Fp.Fe)=1*1;grobner⟩
 have hf:=xD hN.len hN.len
 have hz2:=R9
 have lz2:=Hx
 have L:=GH R8.len hN.len hN.len
 simp only[Vd]at hs
 generalize tL ZP (JG 1) (JG 1)=R at *
 generalize JG 1=S at *
 generalize Vf=Z48 at *
 apply QE (fn:=a74) rfl
 simp only[a74,Qr,quiet,cW,↓pW,reduceCtorEq,seval,-Qb,hz2,hs,hf,Qe,Qx,Qy,Q5,Za,Q6,Q8,L,lz2,QR]
 rfl
def ruH(k P o D:List Nat):List Ob:=[{c:=u8s k},{c:=ns .u64 P},{c:=ns .u64 Vf},{c:=ns .u64 o},{c:=ns .u64 D}]
def ruI(k P o D:List Nat)(i:Int)(ex:Env):St:=⟨[(2,.pointer (0:Nat)),(3,.pointer (1:Nat)),(4,.pointer (2:Nat)),(5,.pointer (3:Nat)),(6,.pointer (4:Nat)),(7,.int .i64 i)]++ex,ruH k P o D,[]⟩
def ruB(k P o D:List Nat)(i:Int)(w j:Nat)(ex:Env):St:=⟨[(2,.pointer (0:Nat)),(3,.pointer (1:Nat)),(4,.pointer (2:Nat)),(5,.pointer (3:Nat)),(6,.pointer (4:Nat)),(7,.int .i64 i),(8,.int .i64 w),(9,.int .i64 j)]++ex,ruH k P o D,[]⟩
theorem vV{P D:List Nat}(hi:i<256)(hw:w<256) :
  Q0 T 0 (.block 2 (.loop Fg)) (ruB k P o D i w 0 [])=some (.normal,ruB k P o D i (w/2^(i%8)) (i%8) [(24,.bool false)]):=by
 have e3:(i:Int).tmod 8=((i%8:Nat):Int):=rfl
 have h:=ZR (T:=T) (base:=0) (id:=2) (body:=Fg) (fun j=>ruB k P o D i (w/2^j) j []) (s':=ruB k P o D i (w/2^(i%8)) (i%8) [(24,.bool false)]) (i%8)
  (fun j hj=>by
   have h16:=Q9 i (by decide:0<8)
   have e1:((j:Int)<((i%8:Nat):Int))=True:=wf
   have w1:IntKind.i64.wrap ((j:Int)+1)=((j+1:Nat):Int):=Z3 (b:=1) qr
   have hle:w/2^j<=w:=Jx _ _
   have w2:IntKind.i64.wrap (((w/2^j:Nat):Int).tdiv 2)=((w/2^j/2:Nat):Int):=wn (n:=w/2^j/2) qr
   rw[Zj,<-QV]
   generalize w/2^j=v at *
   generalize v/2=u at *
   generalize i%8=m at *
   simp only[ruB,ruH,Fg,Qr,quiet,cW,↓pW,reduceCtorEq,seval,-Qb,e1,e3,w1,w2])
  (by
   generalize w/2^(i%8)=v at *
   generalize i%8=m at *
   simp only[ruB,ruH,Fg,Qr,quiet,cW,↓pW,reduceCtorEq,seval,-Qb,e3])
 rw[ZN,J1]at h
 exact h
theorem qQ{P D:List Nat}(lk:k.length=32)(xk:∀x∈k,x<256)(hi:i<256)(hP:RP P p)(ho:RP o q)(ND:Nm D)(hD:nf D=Go.Fp.d) :
  ∃P' o',Q0 T 0 Tw (ruI k P o D i ex)=some (.normal,ruI k P' o' D ((i+1:Nat):Int) [])/\RP P' (JH p p)/\RP o' (if num 256 k/2^i%2=1 then JH q p else q):=by
 obtain⟨w,hw⟩:∃w,k[i/8]?=some w:=⟨_,Qf qr⟩
 have hw':=xk w (Qo hw)
 have hwv:=Kv (B:=256) ww xk hw
 have hwc:=Js hw
 have hbit:w/2^(i%8)%2=num 256 k/2^i%2:=by
  rw[<-hwv,show(256:Nat)=2^8 from rfl,Ad (Q9 _ ww),Z5]
 obtain⟨r1,m1,g1⟩:=Lw ho hP ND hD
 obtain⟨r2,m2,g2⟩:=Lw hP hP ND hD
 have hb:=vV (k:=k) (P:=P) (o:=o) (D:=D) hi hw'
 simp only[ruB,ruH,Qn,Ql,QA]at hb
 have hlt:=Bg (num 256 k) i
 have w0:IntKind.i64.wrap (w:Int)=(w:Int):=wn qr
 have w2:IntKind.i64.wrap ((i:Int).tdiv 8)=((i/8:Nat):Int):=wn (n:=i/8) qr
 have w3:IntKind.i64.wrap ((i:Int)+1)=((i+1:Nat):Int):=Z3 (b:=1) qr
 have w4:((w/2^(i%8):Nat):Int).tmod 2=((w/2^(i%8)%2:Nat):Int):=rfl
 have e1:((i:Int)<256)=True:=wf
 have e3:(((i/8:Nat):Int)<32)=True:=wf
 have l1:=hP.len
 have l2:=ho.len
 have l3:=g1.len
 have l4:=g2.len
 have l5:=ND.len
 rw[hbit]at w4
 generalize hB:num 256 k/2^i%2=B at *
 generalize w/2^(i%8)=wv at *
 by_cases hB1:B=1
 ·have hbq:((B:Int)==1)=true:=by rw[hB1];rfl
  rw[if_pos hB1]
  refine⟨r2,r1,?_,g2,g1⟩
  simp only[ruI,ruH,Tw,Qr,quiet,cW,↓pW,reduceCtorEq,seval,-Qb,hwc,hb,w0,w2,w3,w4,e1,e3,m1,m2,hbq,Qy,Q5,Za,Q6,Q8,Qq,lk,Qx,l1,l2,l3,l4,l5,QR]
 ·have hbq:((B:Int)==1)=false:=by
   have:B=0:=qr
   rw[this];rfl
  rw[if_neg hB1]
  refine⟨r2,o,?_,g2,ho⟩
  simp only[ruI,ruH,Tw,Qr,quiet,cW,↓pW,reduceCtorEq,seval,-Qb,hwc,hb,w0,w2,w3,w4,e1,e3,m1,m2,hbq,Qy,Q5,Za,Q6,Q8,Qq,lk,Qx,l1,l2,l3,l4,l5,QR]
theorem eg(p:Go.Cv.Pt Go.Fp.P Go.Fp.d):ZQ 1 p=p:=Go.Cv.mul_one Go.Fp.fld p
theorem Ik(a b:Nat)(p:Go.Cv.Pt Go.Fp.P Go.Fp.d):ZQ (a+b) p=JH (ZQ a p) (ZQ b p):=Go.Cv.mul_add Go.Fp.fld a b p
theorem U8{l k:List Nat}(hl:RP l p)(lk:k.length=32)(xk:∀x∈k,x<256):∃r,evVal T 74 [.agg (u8s k).toArray,eV l]=some (eV r)/\RP r (ZQ (num 256 k) p):=by
 have hK:=num_lt xk
 rw[lk,show(256:Nat)^32=2^256 from by rw[show(256:Nat)=2^8 from rfl,<-Je]]at hK
 obtain⟨z,hz,rz⟩:=qN
 obtain⟨D,hD,ND,fD⟩:=wg
 obtain⟨st,hb,P',r,rfl,hP',hr⟩:=Zh (T:=T) (base:=0) (id:=0) (body:=Tw)
  (fun i st=>∃(P o:List Nat) (ex:Env),st=ruI k P o D i ex/\RP P (ZQ (2^i) p)/\RP o (ZQ (num 256 k%2^i) p))
  (Q:=fun st=>∃P o:List Nat,st=ruI k P o D 256 [(13,.bool false)]/\P.length=48/\RP o (ZQ (num 256 k) p))
  256 (s:=ruI k l z D 0 []) ⟨l,z,[],rfl,by rw[ZN,eg];exact hl,by rw[ZN,Nat.mod_one];exact rz⟩
  (fun i st hi hs=>by
   obtain⟨P,o,ex,rfl,h1,h2⟩:=hs
   obtain⟨P',o',g1,g2,g3⟩:=qQ (ex:=ex) lk xk hi h1 h2 ND fD
   refine⟨_,g1,P',o',[],rfl,?_,?_⟩
   ·rw[Zj,Nat.mul_two,Ik];exact g2
   ·have hm:num 256 k%2^(i+1)=num 256 k%2^i+2^i*(num 256 k/2^i%2):=Nat.mod_pow_succ
    have hlt:=Bg (num 256 k) i
    rw[hm]
    by_cases hB:num 256 k/2^i%2=1
    ·rw[if_pos hB]at g3
     rw[hB,Nat.mul_one,Ik];exact g3
    ·rw[if_neg hB]at g3
     rw[show num 256 k/2^i%2=0 by omega,WK,Jl];exact g3)
  (fun st hs=>by
   obtain⟨P,o,ex,rfl,h1,h2⟩:=hs
   rw[Qv hK]at h2
   refine⟨_,?_,P,o,rfl,h1.len,h2⟩
   simp only[ruI,ruH,Tw,Qr,quiet,cK,↓pQ,reduceCtorEq,seval,-Qb,cL])
 refine⟨r,?_,hr⟩
 have hz2:=R9
 have lz2:=Hx
 have l1:=hl.len
 have l2:=rz.len
 have l3:=ND.len
 have l4:=hr.len
 simp only[ruI,ruH,Qn,Ql]at hb
 generalize Vf=Z48 at *
 apply QE (fn:=a38) rfl
 simp only[a38,Qr,quiet,cW,↓pW,reduceCtorEq,seval,-Qb,hz2,hz,hD,hb,Qe,Qx,Qy,Q5,Za,Q6,Q8,Qq,lk,l1,l2,l3,l4,hP',lz2,QR]
 rfl
theorem nI{l:List Nat}(hl:l.length=32)(h:∀x∈l,x<256):l=dig 256 32 (num 256 l):=by
 have:=WD (B:=256) ww h
 rw[hl]at this
 exact this.symm
theorem qE{v:Nat}(hv:v<2^255):∃w,(dig 256 32 v)[31]?=some w/\w<128/\(dig 256 32 v).set 31 (w+128)=dig 256 32 (v+2^255):=by
 obtain⟨w,hw⟩:∃w,(dig 256 32 v)[31]?=some w:=⟨_,Qf (by rw[Zg];decide)⟩
 have hwv:w=v/256^31%256:=by rw[XX ww]at hw;exact(Xp hw).symm
 have e31:(256:Nat)^31=452312848583266388373324160190187140051835877600158453279131187530910662656:=ww
 have e32:(256:Nat)^32=115792089237316195423570985008687907853269984665640564039457584007913129639936:=ww
 have e255:(2:Nat)^255=57896044618658097711785492504343953926634992332820282019728792003956564819968:=ww
 have hw128:w<128:=by
  rw[e31]at hwv
  rw[e255]at hv
  omega
 refine⟨w,hw,hw128,?_⟩
 have hlt:∀x∈(dig 256 32 v).set 31 (w+128),x<256:=VH (fun x hx=>Vy ww hx) qr
 refine(nI (by rw[Q4,Zg]) hlt).trans (congrArg (dig 256 32) ?_)
 have hs:=V6 (B:=256) (w+128) hw
 have hn:num 256 (dig 256 32 v)=v:=by
  rw[XJ ww]
  refine Qv ?_
  rw[e32]
  rw[e255]at hv
  omega
 rw[hn,e31]at hs
 rw[e255]
 omega
theorem HI{l:List Nat}{p:Go.Cv.Pt Go.Fp.P Go.Fp.d}(h:RP l p):evVal T 73 [eV l]=some (.agg (u8s (enc p)).toArray):=by
 obtain⟨x,y,z,rfl,h⟩:=h
 obtain⟨i,vi,Ni,fi⟩:=Bv h.nz
 obtain⟨a,va,Na,fa⟩:=Xh h.ny Ni
 obtain⟨b,vb,Nb,fb⟩:=Xh h.nx Ni
 have hinv:=Go.Fp.KS h.ne
 have fa':nf a=p.y:=by rw[fa,fi,h.y];grobner
 have fb':nf b=p.x:=by rw[fb,fi,h.x];grobner
 have k1:=GQ Na
 have k2:=GQ Nb
 rw[fa']at k1
 rw[fb']at k2
 obtain⟨u0,u1,u2⟩:=tri h.nx.len h.ny.len h.nz.len
 have L1:=GH h.nx.len h.ny.len h.nz.len
 have li:=Ni.len
 have lk:(dig 256 32 p.y.val).length=32:=Zg _ _ _
 have lj:(dig 256 32 p.x.val).length=32:=Zg _ _ _
 have lz:=Zg 256 32 0
 have hz:=ig
 have h0:(dig 256 32 p.x.val)[0]?=some (p.x.val%256):=by rw[XX ww,ZN,J1]
 have h0c:=Js h0
 have e0:((p.x.val%256:Nat):Int).tmod 2=((p.x.val%2:Nat):Int):=by
  have:p.x.val%256%2=p.x.val%2:=qr
  rw[<-this];rfl
 obtain⟨w,hw,hw',MP⟩:=qE (GF p.y)
 have hwc:=Js hw
 have hset:=Xc (dig 256 32 p.y.val) 31 (w+128)
 rw[MP]at hset
 have wadd:IntKind.u8.wrap ((w:Int)+128)=((w+128:Nat):Int):=w8n (n:=w+128) qr
 have lE:=Zg 256 32 (p.y.val+2^255)
 generalize tL x y z=P1,dig 256 32 0=Z at *
 by_cases ho:p.x.val%2=1
 ·have hbq:((p.x.val%2:Nat):Int)==1:=by rw[ho];rfl
  have hbq':(((p.x.val%2:Nat):Int)==1)=true:=hbq
  have he:enc p=dig 256 32 (p.y.val+2^255):=by rw[enc,MW,ho,Xd]
  rw[he]
  generalize dig 256 32 (p.y.val+2^255)=E,dig 256 32 p.y.val=Y,dig 256 32 p.x.val=X at *
  generalize p.x.val%2=par at *
  generalize p.x.val%256=x0 at *
  apply QE (fn:=a33) rfl
  simp only[a33,Qr,quiet,cW,↓pW,reduceCtorEq,seval,-Qb,hz,u0,u1,u2,vi,va,vb,k1,k2,h0c,e0,hbq',hwc,wadd,hset,Qe,Qx,Qy,Q5,Za,Q6,Q8,Qq,lk,lj,li,lz,lE,L1,QR]
  rfl
 ·have hbq':(((p.x.val%2:Nat):Int)==1)=false:=by
   rw[show p.x.val%2=0 by omega];rfl
  have he:enc p=dig 256 32 p.y.val:=by rw[enc,MW,show p.x.val%2=0 by omega,Vm,Jl]
  rw[he]
  generalize dig 256 32 p.y.val=Y,dig 256 32 p.x.val=X at *
  generalize p.x.val%2=par at *
  generalize p.x.val%256=x0 at *
  apply QE (fn:=a33) rfl
  simp only[a33,Qr,quiet,cW,↓pW,reduceCtorEq,seval,-Qb,hz,u0,u1,u2,vi,va,vb,k1,k2,h0c,e0,hbq',Qe,Qx,Qy,Q5,Za,Q6,Q8,Qq,lk,lj,li,lz,L1,QR]
  rfl
def hmI(n:List Nat)(i:Int)(c:Nat)(j:Int)(ex:Env):St:=⟨[(0,.pointer (0:Nat)),(1,.pointer (1:Nat)),(2,.int .i64 i),(3,.int .u64 c),(4,.int .i64 j)]++ex,[{c:=ns .u64 ZP},{c:=ns .u64 n}],[]⟩
theorem nT{i:Int}(hn:Nm n) :
  Q0 T 0 (.block 2 (.loop E6)) (hmI n i 0 15 [])=some (.normal,hmI (dig 65536 16 (num 65536 n/2)) i (num 65536 n%2) (-1) [(16,.bool false)]):=by
 have hD:Nm (dig 65536 16 (num 65536 n/2)):=Nm.dig _
 obtain⟨D,hDd⟩:∃D,D=dig 65536 16 (num 65536 n/2):=⟨_,rfl⟩
 rw[<-hDd]at hD ⊢
 have hlt:=hn.num_lt
 obtain⟨st,hb,rfl⟩:=Zh (T:=T) (base:=0) (id:=2) (body:=E6)
  (fun j st=>st=hmI (n.take (16-j)++D.drop (16-j)) i (num 65536 n/65536^(16-j)%2) ((15:Int)-j) [])
  (Q:=fun st=>st=hmI D i (num 65536 n%2) (-1) [(16,.bool false)])
  16 (s:=hmI n i 0 15 []) (by
   rw[KC,Qm (by rw[hn.len];omega),Zu (by rw[hD.len];omega),QG,JK hlt];rfl)
  (fun j st hj hs=>by
   subst hs
   obtain⟨m,hm⟩:∃m,16-j=m+1:=⟨15-j,by omega⟩
   rw[hm,show(15:Int)-j=(m:Int) by omega,show 16-(j+1)=m by omega,show(15:Int)-((j+1:Nat):Int)=(m:Int)-1 by omega]
   refine⟨_,?_,rfl⟩
   obtain⟨x,hx⟩:∃x,n[m]?=some x:=⟨_,Qf (by rw[hn.len];omega)⟩
   have hx':=hn.lt x (Qo hx)
   have hxv:=Kv (B:=65536) ww hn.lt hx
   obtain⟨c,hc⟩:∃c,c=num 65536 n/65536^(m+1)%2:=⟨_,rfl⟩
   rw[<-hc]
   have hc2:num 65536 n/65536^m/65536%2=c:=by rw[hc,Zj,QV]
   have hxl:(n.take (m+1)++D.drop (m+1))[m]?=some x:=by
    rw[Qc (by rw[Q3,hn.len];omega),QW,if_pos qr];exact hx
   have hdg:D[m]?=some ((x+c*65536)/2):=by
    rw[hDd,XX qr]
    congr 1
    rw[QV,Zm 2,<-QV]
    generalize num 65536 n/65536^m=q at *
    omega
   have hcn:num 65536 n/65536^m%2=(x+c*65536)%2:=by
    generalize num 65536 n/65536^m=q at *
    omega
   rw[hcn]
   have hstep:(n.take (m+1)++D.drop (m+1)).set m ((x+c*65536)/2)=n.take m++D.drop m:=by
    rw[Vp _ _ (by rw[Q3,hn.len];omega),Zx,hx]
    rw[ZV _ _ (by rw[Q3];omega)]
    have e:(n.take m).length=m:=by rw[Q3,hn.len];omega
    rw[e,Q7,ZE (i:=m),hdg]
    simp
   have hset:=Xt .u64 (n.take (m+1)++D.drop (m+1)) m ((x+c*65536)/2)
   rw[hstep]at hset
   have hlen:(n.take (m+1)++D.drop (m+1)).length=16:=by rw[Qj,Q3,QN,hn.len,hD.len];omega
   have hxc:=ZJ (k := .u64) hxl
   have hcb:c<2:=by rw[hc];exact Q9 _ ww
   have w1:IntKind.i64.wrap ((m:Int)-1)=(m:Int)-1:=QU qr qr
   have w2:IntKind.u64.wrap ((c:Int)*65536)=((c*65536:Nat):Int):=U4 (b:=65536) qr
   have w3:IntKind.u64.wrap ((x:Int)+((c*65536:Nat):Int))=((x+c*65536:Nat):Int):=Wf qr
   have w4:IntKind.u64.wrap (((x+c*65536:Nat):Int).tdiv 2)=(((x+c*65536)/2:Nat):Int):=Kz (n:=(x+c*65536)/2) qr
   have w5:((x+c*65536:Nat):Int).tmod 2=(((x+c*65536)%2:Nat):Int):=rfl
   have e1:((0:Int)<=(m:Int))=True:=wf
   have e2:((m:Int)<16)=True:=wf
   have e4:(m<=15)=True:=wf
   clear hc hc2 hcn hdg hstep
   generalize n.take (m+1)++D.drop (m+1)=A1,n.take m++D.drop m=A2 at *
   generalize(x+c*65536)/2=u at *
   generalize(x+c*65536)%2=u2 at *
   generalize x+c*65536=v at *
   generalize c*65536=v2 at *
   simp only[hmI,E6,Qr,quiet,cW,↓pW,reduceCtorEq,seval,-Qb,hxc,w1,w2,w3,w4,w5,e1,e2,e4,hset,Q8,hlen])
  (fun st hs=>by
   subst hs
   have e:((0:Int) <= -1)=False:=ww
   refine⟨_,?_,rfl⟩
   rw[show(15:Int)-((16:Nat):Int) = -1 by omega,Q7,Xi,ZS,Ql,ZN,J1]
   simp only[hmI,E6,Qr,quiet,cK,↓pQ,reduceCtorEq,seval,-Qb,cL,e])
 exact hb
def hmO(n:List Nat)(i:Int)(ex:Env):St:=⟨[(0,.pointer (0:Nat)),(1,.pointer (1:Nat)),(2,.int .i64 i)]++ex,[{c:=ns .u64 ZP},{c:=ns .u64 n}],[]⟩
theorem nS(hn:Nm n) :
  Q0 T 0 (.block 0 (.loop E5)) (hmO n 0 [])=some (.normal,hmO (dig 65536 16 (num 65536 n/2^2)) 2 [(12,.bool false)]):=by
 obtain⟨st,hb,rfl⟩:=Zh (T:=T) (base:=0) (id:=0) (body:=E5)
  (fun i st=>∃ex,st=hmO (dig 65536 16 (num 65536 n/2^i)) i ex)
  (Q:=fun st=>st=hmO (dig 65536 16 (num 65536 n/2^2)) 2 [(12,.bool false)])
  2 (s:=hmO n 0 []) ⟨[],by rw[ZN,J1,<-hn.eq];rfl⟩
  (fun i st hi hs=>by
   obtain⟨ex,rfl⟩:=hs
   have hN:=Nm.dig (num 65536 n/2^i)
   have hlt:num 65536 n/2^i<2^256:=Jc (Jx _ _) hn.num_lt
   have hb:=nT (i:=(i:Int)) hN
   rw[VS hlt,QV,<-Zj]at hb
   simp only[hmI,Qn,Ql,QA]at hb
   have w1:IntKind.i64.wrap ((i:Int)+1)=((i+1:Nat):Int):=Z3 (b:=1) qr
   have e1:((i:Int)<2)=True:=wf
   refine⟨_,?_,[],rfl⟩
   generalize dig 65536 16 (num 65536 n/2^i)=A at *
   generalize dig 65536 16 (num 65536 n/2^(i+1))=A' at *
   simp only[hmO,E5,Qr,quiet,cW,↓pW,reduceCtorEq,seval,-Qb,hb,w1,e1])
  (fun st hs=>by
   obtain⟨ex,rfl⟩:=hs
   refine⟨_,?_,rfl⟩
   generalize dig 65536 16 (num 65536 n/2^2)=A at *
   simp only[hmO,E5,Qr,quiet,cW,↓pW,reduceCtorEq,seval,-Qb])
 exact hb
def hrI(a n:List Nat)(i:Int)(c:Nat)(j:Int)(ex:Env):St:=⟨[(1,.pointer (0:Nat)),(2,.pointer (1:Nat)),(4,.pointer (2:Nat)),(5,.int .i64 i),(6,.int .u64 c),(7,.int .i64 j)]++ex,[{c:=ns .u64 a},{c:=ns .u64 ZP},{c:=ns .u64 n}],[]⟩
theorem nQ{i:Int}(hn:Nm n) :
  Q0 T 0 (.block 2 (.loop EH)) (hrI a n i 0 15 [])=some (.normal,hrI a (dig 65536 16 (num 65536 n/2)) i (num 65536 n%2) (-1) [(20,.bool false)]):=by
 have hD:Nm (dig 65536 16 (num 65536 n/2)):=Nm.dig _
 obtain⟨D,hDd⟩:∃D,D=dig 65536 16 (num 65536 n/2):=⟨_,rfl⟩
 rw[<-hDd]at hD ⊢
 have hlt:=hn.num_lt
 obtain⟨st,hb,rfl⟩:=Zh (T:=T) (base:=0) (id:=2) (body:=EH)
  (fun j st=>st=hrI a (n.take (16-j)++D.drop (16-j)) i (num 65536 n/65536^(16-j)%2) ((15:Int)-j) [])
  (Q:=fun st=>st=hrI a D i (num 65536 n%2) (-1) [(20,.bool false)])
  16 (s:=hrI a n i 0 15 []) (by
   rw[KC,Qm (by rw[hn.len];omega),Zu (by rw[hD.len];omega),QG,JK hlt];rfl)
  (fun j st hj hs=>by
   subst hs
   obtain⟨m,hm⟩:∃m,16-j=m+1:=⟨15-j,by omega⟩
   rw[hm,show(15:Int)-j=(m:Int) by omega,show 16-(j+1)=m by omega,show(15:Int)-((j+1:Nat):Int)=(m:Int)-1 by omega]
   refine⟨_,?_,rfl⟩
   obtain⟨x,hx⟩:∃x,n[m]?=some x:=⟨_,Qf (by rw[hn.len];omega)⟩
   have hx':=hn.lt x (Qo hx)
   have hxv:=Kv (B:=65536) ww hn.lt hx
   obtain⟨c,hc⟩:∃c,c=num 65536 n/65536^(m+1)%2:=⟨_,rfl⟩
   rw[<-hc]
   have hc2:num 65536 n/65536^m/65536%2=c:=by rw[hc,Zj,QV]
   have hxl:(n.take (m+1)++D.drop (m+1))[m]?=some x:=by
    rw[Qc (by rw[Q3,hn.len];omega),QW,if_pos qr];exact hx
   have hdg:D[m]?=some ((x+c*65536)/2):=by
    rw[hDd,XX qr]
    congr 1
    rw[QV,Zm 2,<-QV]
    generalize num 65536 n/65536^m=q at *
    omega
   have hcn:num 65536 n/65536^m%2=(x+c*65536)%2:=by
    generalize num 65536 n/65536^m=q at *
    omega
   rw[hcn]
   have hstep:(n.take (m+1)++D.drop (m+1)).set m ((x+c*65536)/2)=n.take m++D.drop m:=by
    rw[Vp _ _ (by rw[Q3,hn.len];omega),Zx,hx]
    rw[ZV _ _ (by rw[Q3];omega)]
    have e:(n.take m).length=m:=by rw[Q3,hn.len];omega
    rw[e,Q7,ZE (i:=m),hdg]
    simp
   have hset:=Xt .u64 (n.take (m+1)++D.drop (m+1)) m ((x+c*65536)/2)
   rw[hstep]at hset
   have hlen:(n.take (m+1)++D.drop (m+1)).length=16:=by rw[Qj,Q3,QN,hn.len,hD.len];omega
   have hxc:=ZJ (k := .u64) hxl
   have hcb:c<2:=by rw[hc];exact Q9 _ ww
   have w1:IntKind.i64.wrap ((m:Int)-1)=(m:Int)-1:=QU qr qr
   have w2:IntKind.u64.wrap ((c:Int)*65536)=((c*65536:Nat):Int):=U4 (b:=65536) qr
   have w3:IntKind.u64.wrap ((x:Int)+((c*65536:Nat):Int))=((x+c*65536:Nat):Int):=Wf qr
   have w4:IntKind.u64.wrap (((x+c*65536:Nat):Int).tdiv 2)=(((x+c*65536)/2:Nat):Int):=Kz (n:=(x+c*65536)/2) qr
   have w5:((x+c*65536:Nat):Int).tmod 2=(((x+c*65536)%2:Nat):Int):=rfl
   have e1:((0:Int)<=(m:Int))=True:=wf
   have e2:((m:Int)<16)=True:=wf
   have e4:(m<=15)=True:=wf
   clear hc hc2 hcn hdg hstep
   generalize n.take (m+1)++D.drop (m+1)=A1,n.take m++D.drop m=A2 at *
   generalize(x+c*65536)/2=u at *
   generalize(x+c*65536)%2=u2 at *
   generalize x+c*65536=v at *
   generalize c*65536=v2 at *
   simp only[hrI,EH,Qr,quiet,cW,↓pW,reduceCtorEq,seval,-Qb,hxc,w1,w2,w3,w4,w5,e1,e2,e4,hset,Q8,hlen])
  (fun st hs=>by
   subst hs
   have e:((0:Int) <= -1)=False:=ww
   refine⟨_,?_,rfl⟩
   rw[show(15:Int)-((16:Nat):Int) = -1 by omega,Q7,Xi,ZS,Ql,ZN,J1]
   simp only[hrI,EH,Qr,quiet,cK,↓pQ,reduceCtorEq,seval,-Qb,cL,e])
 exact hb
def hrO(a n:List Nat)(i:Int)(ex:Env):St:=⟨[(1,.pointer (0:Nat)),(2,.pointer (1:Nat)),(4,.pointer (2:Nat)),(5,.int .i64 i)]++ex,[{c:=ns .u64 a},{c:=ns .u64 ZP},{c:=ns .u64 n}],[]⟩
theorem nP(hn:Nm n) :
  Q0 T 0 (.block 0 (.loop EG)) (hrO a n 0 [])=some (.normal,hrO a (dig 65536 16 (num 65536 n/2^3)) 3 [(16,.bool false)]):=by
 obtain⟨st,hb,rfl⟩:=Zh (T:=T) (base:=0) (id:=0) (body:=EG)
  (fun i st=>∃ex,st=hrO a (dig 65536 16 (num 65536 n/2^i)) i ex)
  (Q:=fun st=>st=hrO a (dig 65536 16 (num 65536 n/2^3)) 3 [(16,.bool false)])
  3 (s:=hrO a n 0 []) ⟨[],by rw[ZN,J1,<-hn.eq];rfl⟩
  (fun i st hi hs=>by
   obtain⟨ex,rfl⟩:=hs
   have hN:=Nm.dig (num 65536 n/2^i)
   have hlt:num 65536 n/2^i<2^256:=Jc (Jx _ _) hn.num_lt
   have hb:=nQ (a:=a) (i:=(i:Int)) hN
   rw[VS hlt,QV,<-Zj]at hb
   simp only[hrI,Qn,Ql,QA]at hb
   have w1:IntKind.i64.wrap ((i:Int)+1)=((i+1:Nat):Int):=Z3 (b:=1) qr
   have e1:((i:Int)<3)=True:=wf
   refine⟨_,?_,[],rfl⟩
   generalize dig 65536 16 (num 65536 n/2^i)=A at *
   generalize dig 65536 16 (num 65536 n/2^(i+1))=A' at *
   simp only[hrO,EG,Qr,quiet,cW,↓pW,reduceCtorEq,seval,-Qb,hb,w1,e1])
  (fun st hs=>by
   obtain⟨ex,rfl⟩:=hs
   refine⟨_,?_,rfl⟩
   generalize dig 65536 16 (num 65536 n/2^3)=A at *
   simp only[hrO,EG,Qr,quiet,cW,↓pW,reduceCtorEq,seval,-Qb])
 exact hb
end Go.Ev.YtoipgdjfhahimaaGreat

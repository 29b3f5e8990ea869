/- What the law leans on, part 5. -/
import Derived.Test.YtomfgcgnepfmjaaGreatCs4
set_option linter.unusedSimpArgs false
set_option linter.unusedVariables false
open Bool renaming false_and → XW, false_eq_true → Zo
open Exists renaming intro → Zs
open List renaming append_assoc → Qw, append_nil → QD, cons_append → Qu, drop → Z9, drop_append_of_le_length → ZR, drop_left → Pa, drop_left' → XK, drop_of_length_le → J6, eq_nil_of_length_eq_zero → Zp, flatten_append → Zd, flatten_cons → QO, flatten_nil → Zq, getD_eq_getElem?_getD → Qt, getElem?_append_left → Qa, getElem?_append_right → Qe, getElem?_cons_succ → J2, getElem?_cons_zero → ZV, getElem?_drop → Zk, getElem?_eq_getElem → Qg, getElem?_eq_none → QH, getElem?_eq_some_iff → Qf, getElem?_map → Jv, getElem?_set_ne → Qr, getElem?_set_self → Qx, getElem?_take → QQ, length_append → Qi, length_cons → Zc, length_drop → QG, length_map → Xg, length_nil → Zt, length_replicate → Qm, length_set → Qs, length_take → Q4, map_append → XJ, map_cons → Js, map_nil → JG, mem_append → QZ, mem_cons → Jk, mem_cons_of_mem → YA, mem_map → JQ, mem_of_getElem? → Qy, mem_of_mem_drop → ZF, mem_of_mem_take → QU, mem_singleton → Zz, nil_append → Qo, not_mem_nil → J4, reduceReplicate → Qb, replicate → Qc, set_append_right → Q9, take → Q2, take_add_one → Zr, take_append_drop → J1, take_append_of_le_length → Ji, take_left' → Xw, take_of_length_le → Qq, take_zero → Jh
open Nat renaming add_mul → Zw, add_sub_cancel_left → Qp, div_add_mod → ZH, eq_zero_or_pos → Jl, le_refl → Ql, lt_of_lt_of_le → QF, lt_or_ge → Z1, min_eq_left → Za, mod_lt → Q3, mul_one → Xc, not_lt_zero → Xf, pow_succ → Z0, pow_zero → JW, sub_self → Qv, succ_mul → Hp, zero_add → QA, zero_lt_one → Wc
open Option renaming bind_some → Qk, some → V4
open Option.some renaming inj → Xe
namespace Go.Ev.YtomfgcgnepfmjaaGreat
open Go Go.Ev
attribute [local congr] Jr J7 Jq J8 Jc
set_option maxRecDepth 100000
variable {nm key sg:List Nat} {e m:Nat} {H:List Ob} {tl:List Value} {pv:Value}
theorem HK {a v b:List Value} (h:v.length=a.length):splice (a++b) 0 v=v++b:=by
 rw [JY _ _ _ (by rw [Qi]; omega),QA,h,XK rfl]; rfl
theorem Ts:Vb=plc (Qc 32 0) 0 0 (Qc 32 0) []:=rfl
theorem Pe:Vu=plc (Qc 32 0) 0 0 (Qc 32 0) []++u8s (Qc 32 0):=rfl
theorem T7 {e':Nat} (h1:nm.length=32):(plc nm e m key tl).set 32 (.int .u32 e')=plc nm e' m key tl:=by
 rw [plc,Q9 _ _ (by rw [Qn,h1]; decide),Qn,h1]; rfl
theorem T6 {nm':List Nat} (h1:nm.length=32) (h2:nm'.length=32):splice (plc nm e m key tl) 0 (u8s nm')=plc nm' e m key tl:=by
 rw [plc,HK (by rw [Qn,Qn,h1,h2])]; rfl
theorem II (h1:nm.length=32) (h2:key.length=32):fillL Vb [(0,32,.agg (u8s nm).toArray),(32,1,.int .u32 (e:Nat)),(34,32,.agg (u8s key).toArray)]=some (plc nm e 0 key []):=by
 have c1:(Value.agg (u8s nm).toArray).cells.size=32:=by show (u8s nm).length=32; rw [Qn,h1]
 have c2:(Value.agg (u8s key).toArray).cells.size=32:=by show (u8s key).length=32; rw [Qn,h2]
 have lz:(Qc 32 0).length=32:=rfl
 have l0:=JK (e:=0) (m:=0) (tl:=[]) lz lz
 have l1:=JK (e:=0) (m:=0) (tl:=[]) h1 lz
 have l2:=JK (e:=e) (m:=0) (tl:=[]) h1 lz
 rw [Ts,fillL,if_pos ⟨c1,by rw [l0]; decide,rfl⟩,show (Value.agg (u8s nm).toArray).cells.toList=u8s nm from rfl,T6 lz h1,fillL,if_pos ⟨rfl,by rw [l1]; decide,rfl⟩,show (Value.int .u32 (e:Nat)).cells.toList=[.int .u32 (e:Nat)] from rfl,Xo,T7 h1,fillL,if_pos ⟨c2,by rw [l2]; decide,rfl⟩,show (Value.agg (u8s key).toArray).cells.toList=u8s key from rfl,BC h1 lz h2,fillL]
theorem HL (nm:List Nat) (e m:Nat) (key:List Nat) (tl:List Value):plc nm e m key tl=plc nm e m key []++tl:=by simp [plc]
theorem OE (h1:nm.length=32) (h2:key.length=32) (h3:sg.length=32):fillL Vu [(0,66,.agg (plc nm e 0 key []).toArray),(66,32,.agg (u8s sg).toArray)]=some (plc nm e 0 key (u8s sg)):=by
 have lz:(Qc 32 0).length=32:=rfl
 have l0:=JK (e:=0) (m:=0) (tl:=[]) lz lz
 have l1:=JK (e:=e) (m:=0) (tl:=[]) h1 h2
 have c1:(Value.agg (plc nm e 0 key []).toArray).cells.size=66:=l1
 have c2:(Value.agg (u8s sg).toArray).cells.size=32:=by show (u8s sg).length=32; rw [Qn,h3]
 rw [Pe,fillL,if_pos ⟨c1,by rw [Qi,l0]; decide,rfl⟩,show (Value.agg (plc nm e 0 key []).toArray).cells.toList=plc nm e 0 key [] from rfl,HK (by rw [l0,l1]),fillL,if_pos ⟨c2,by rw [Qi,l1]; decide,rfl⟩,show (Value.agg (u8s sg).toArray).cells.toList=u8s sg from rfl,JY _ _ _ (by rw [Qi,l1,Qn,Qn,h3]; decide),Xw (show (plc nm e 0 key []).length=66 from l1),J6 (by rw [Qi,l1,Qn,Qn,h3]; decide),QD,fillL,HL nm e 0 key (u8s sg)]
theorem d9 (h1:nm.length=32) (h2:key.length=32) (h3:sg.length=32):Z4 T 28 [.agg (u8s nm).toArray,.int .u32 (e:Nat),.agg (u8s key).toArray,.agg (u8s sg).toArray]=some (.agg (plc nm e 0 key (u8s sg)).toArray):=by
 have f1:=II (e:=e) h1 h2
 have f2:=OE (e:=e) h1 h2 h3
 have lp:=JK (e:=e) (m:=0) (tl:=u8s sg) h1 h2
 rw [Qn,h3] at lp
 have lz:Vu.length=98:=rfl
 have ok1:∀ L:List Value,(Value.agg L.toArray).cells.toList=L:=fun _=>rfl
 have ok2:∀ L:List Value,(Value.agg L.toArray).cells.size=L.length:=fun _=>rfl
 have ok3:∀ L:List Value,okVar (Value.agg L.toArray)=true:=fun _=>rfl
 have t1:Q2 32 (u8s nm)=u8s nm:=QB (by rw [Qn,h1])
 have t2:Q2 32 (u8s key)=u8s key:=QB (by rw [Qn,h2])
 have t3:Q2 32 (u8s sg)=u8s sg:=QB (by rw [Qn,h3])
 generalize plc nm e 0 key (u8s sg)=P,plc nm e 0 key []=P0 at *
 have tp:Q2 98 P=P:=QB (by omega)
 have lp':P.length=98:=by omega
 have sp:=QV (cs:=Vu) (v:=P) (by rw [lp',lz])
 apply ZB (fn:=mU) rfl
 simp only [mU,Q0,quiet,cW,↓pW,reduceCtorEq,seval,-Qb,f1,f2,lp',lz,ok1,ok2,ok3,t1,t2,t3,tp,sp,h1,h2,h3,Vm,Qn]
 rfl
def rL (s m:List Nat):List Nat:=M8 (pfL s++m)
def frL (s m:List Nat):List Nat:=enc (JH (num 256 (rL s m)) Kb)
def chL (front pub m:List Nat):List Nat:=M8 (front++(pub++m))
def bkL (s m:List Nat):List Nat:=mA (chL (frL s m) (XL s) m) (scL s) (rL s m)
def BW (s m:List Nat):List Nat:=frL s m++bkL s m
theorem AO (s m:List Nat):(frL s m).length=32:=Gy _
theorem IG (s m:List Nat):∀ y∈frL s m,y<256:=bt _
theorem BZ (s:List Nat):(XL s).length=32:=Gy _
theorem L4 (s:List Nat):∀ y∈XL s,y<256:=bt _
theorem AY (s m:List Nat):(bkL s m).length=32:=lD
theorem bS (s m:List Nat):∀ y∈bkL s m,y<256:=mA_lt
theorem C6 (s m:List Nat):(BW s m).length=64:=by rw [BW,Qi,AO,AY]
theorem dA (s m:List Nat):∀ y∈BW s m,y<256:=by
 intro y hy
 rcases QZ.1 hy with h | h
 ·exact IG s m y h
 ·exact bS s m y h
theorem OY {a b n c:Nat} {fa fb:List Nat} {e:Bool} {s:Nat} (ha:H[a]?=some ⟨u8s fa,true,true,true,1⟩) (hb:H[b]?=some ⟨u8s fb,true,true,e,s⟩) (hn:fa.length=n) (hm:fb.length=m) (h0:0<m) (hs:n+m≤1000) :
  ZL 1 1 H (.slice (some ⟨a,0,none⟩) n n) (.slice (some ⟨b,0,none⟩) m c)=some (.slice (some ⟨H.length,0,none⟩) (n+m) (n+m),H++[⟨u8s (fa++fb),true,true,false,1⟩],none,[]):=by
 have h4:liveAt H a=some ⟨u8s fa,true,true,true,1⟩:=Zv ha rfl
 have k2:elemsOf H 1 m (.slice (some ⟨b,0,none⟩) m c)=some (u8s fb):=by
  simp [elemsOf,Zv hb rfl,Qn,hm]
  exact Qq (by rw [Qn,hm]; exact Ql _)
 have h8:elemsOf H 1 n (.slice (some ⟨a,0,none⟩) n n)=some (u8s fa):=by
  simp [elemsOf,h4,Qn,hn]
  exact Qq (by rw [Qn,hn]; exact Ql _)
 have h1:¬ m=0:=by omega
 have h2:(n+m)*1≤2^47:=by omega
 have h7:¬ (n+m≤n):=by omega
 have k1:Go.Ev.lenV (.slice (some ⟨b,0,none⟩) m c)=some m:=rfl
 simp only [ZL,k1,k2,Qk,if_neg h1,h2,Nat.zero_lt_succ,Nat.lt_add_one,Wc,and_self,not_true_eq_false,if_false,if_true,h4,h8,if_neg h7,Ob.grown,←JB]
theorem eZ {s:List Nat} {ps:List (List Nat)} (ls:s.length=32) (xs:∀ y∈s,y<256) (hp:Args H pv ps) (hn:ps.length≤1000) (hb:ps.flatten.length<2^48) :
  ∃ l,Zb T 40 [.agg (u8s s).toArray,pv] H=some (.agg (u8s (BW s ps.flatten)).toArray,H++l,[]):=by
 have hz:Qc 32 (Value.int .u8 0)=u8s (dig 256 32 0):=rfl
 have lz:(dig 256 32 0).length=32:=rfl
 have hz64:=Y2
 have lz64:(Qc 64 0).length=64:=Qm
 have hh:=EE ls xs
 have l1:=U9 s
 have l2:=DU s
 have l3:(scL s++pfL s).length=64:=by rw [Qi,l1,l2]
 have x3:∀ y∈scL s++pfL s,y<256:=fun y hy=>(QZ.1 hy).elim (Aq s y) (kC s y)
 obtain ⟨B,hB,rB⟩:=IZ
 obtain ⟨P,hP,rP⟩:=VM rB (U9 s) (Aq s)
 have hE:=Gx rP
 rw [show enc (JH (num 256 (scL s)) Kb)=XL s from rfl] at hE
 have lA:=BZ s
 obtain ⟨G1,hG1⟩:∃ X,X=H++[(⟨u8s s,true,true,true,1⟩:Ob),⟨u8s (Qc 64 0),true,true,true,1⟩,⟨u8s (scL s++pfL s),true,true,true,1⟩,⟨u8s (XL s),true,true,true,1⟩,⟨[.slice (some ⟨H.length+2,32,none⟩) 32 32],true,true,true,1⟩]:=⟨_,rfl⟩
 have lG1:G1.length=H.length+5:=by rw [hG1]; simp
 have gz:G1[H.length+1]?=some ⟨u8s (Qc 64 0),true,true,true,1⟩:=by rw [hG1,Qe (by omega),Qp]; rfl
 have gh:G1[H.length+2]?=some ⟨u8s (scL s++pfL s),true,true,true,1⟩:=by rw [hG1,Qe (by omega),Qp]; rfl
 have gA:G1[H.length+3]?=some ⟨u8s (XL s),true,true,true,1⟩:=by rw [hG1,Qe (by omega),Qp]; rfl
 have ga:G1[H.length+4]?=some ⟨[.slice (some ⟨H.length+2,32,none⟩) 32 32],true,true,true,1⟩:=by rw [hG1,Qe (by omega),Qp]; rfl
 have hp1:Args G1 pv ps:=by rw [hG1]; exact hp.app
 have part1:HPart (LtN G1.length) G1 (.slice (some ⟨H.length+2,32,none⟩) 32 32) (pfL s):=by
  have:=HPart.arr (n:=G1.length) (off:=32) (m:=32) (c:=32) (by omega) gh x3 (by rw [l3]; decide) (by decide)
  rwa [ZR (by omega),J6 (by omega),Qo,Qq (by omega)] at this
 obtain ⟨v1,k1,ha1,hA1⟩:=Uy (n:=1) ga rfl (.cons part1 .nil) hp1 (by decide) hn
 obtain ⟨k2,hr⟩:=Y3 hA1 (by rw [Zd,QO,Zq,QD,Qi,l2]; omega)
 rw [Zd,QO,Zq,QD,show M8 (pfL s++ps.flatten)=rL s ps.flatten from rfl] at hr
 have lr:(rL s ps.flatten).length=32:=BY
 obtain ⟨G2,hG2⟩:∃ X,X=G1++(k1++k2):=⟨_,rfl⟩
 have lG2:G1.length≤G2.length:=by rw [hG2]; simp
 obtain ⟨P2,hP2,rP2⟩:=VM rB lr DS
 have hE2:=Gx rP2
 rw [show enc (JH (num 256 (rL s ps.flatten)) Kb)=frL s ps.flatten from rfl] at hE2
 have lF:=AO s ps.flatten
 obtain ⟨G3,hG3⟩:∃ X,X=G2++[(⟨u8s (rL s ps.flatten),true,true,true,1⟩:Ob),⟨u8s (frL s ps.flatten),true,true,true,1⟩,⟨[.slice (some ⟨G2.length+1,0,none⟩) 32 32,.slice (some ⟨H.length+3,0,none⟩) 32 32],true,true,true,1⟩]:=⟨_,rfl⟩
 have lG3:G3.length=G2.length+3:=by rw [hG3]; simp
 have up13:∀ i,i<G1.length→G3[i]?=G1[i]? := fun i hi=>by rw [hG3,Qa (by omega),hG2,Qa hi]
 have hr3:G3[G2.length]?=some ⟨u8s (rL s ps.flatten),true,true,true,1⟩:=by rw [hG3,Qe (Ql _),Qv]; rfl
 have hf3:G3[G2.length+1]?=some ⟨u8s (frL s ps.flatten),true,true,true,1⟩:=by rw [hG3,Qe (by omega),Qp]; rfl
 have harr3:G3[G2.length+2]?=some ⟨[.slice (some ⟨G2.length+1,0,none⟩) 32 32,.slice (some ⟨H.length+3,0,none⟩) 32 32],true,true,true,1⟩:=by rw [hG3,Qe (by omega),Qp]; rfl
 have hp3:Args G3 pv ps:=hp1.ext up13 (by omega)
 have partF:HPart (LtN G3.length) G3 (.slice (some ⟨G2.length+1,0,none⟩) 32 32) (frL s ps.flatten):=by
  have:=HPart.whole (n:=G3.length) (c:=32) (by omega) hf3 (IG s _) (by rw [lF]; decide)
  rwa [lF] at this
 have partA:HPart (LtN G3.length) G3 (.slice (some ⟨H.length+3,0,none⟩) 32 32) (XL s):=by
  have:=HPart.whole (n:=G3.length) (c:=32) (by omega) ((up13 _ (by omega)).trans gA) (L4 s) (by rw [lA]; decide)
  rwa [lA] at this
 obtain ⟨v3,k3,ha3,hA3⟩:=Uy (n:=2) harr3 rfl (.cons partF (.cons partA .nil)) hp3 (by decide) hn
 obtain ⟨k4,hk⟩:=Y3 hA3 (by rw [Zd,QO,QO,Zq,QD,Qi,Qi,lF,lA]; omega)
 rw [Zd,QO,QO,Zq,QD,Qw,show M8 (frL s ps.flatten++(XL s++ps.flatten))=chL (frL s ps.flatten) (XL s) ps.flatten from rfl] at hk
 have lk:(chL (frL s ps.flatten) (XL s) ps.flatten).length=32:=BY
 obtain ⟨G4,hG4⟩:∃ X,X=G3++(k3++k4):=⟨_,rfl⟩
 have lG4:G3.length≤G4.length:=by rw [hG4]; simp
 have up34:∀ i,i<G3.length→G4[i]?=G3[i]? := fun i hi=>by rw [hG4,Qa hi]
 obtain ⟨q,hm⟩:=Oc lk l1 lr DS (Aq s) DS
 have hmv:=Gr hm
 rw [show mA (chL (frL s ps.flatten) (XL s) ps.flatten) (scL s) (rL s ps.flatten)=bkL s ps.flatten from rfl] at hmv
 have lB:=AY s ps.flatten
 obtain ⟨G5,hG5⟩:∃ X,X=G4++[(⟨u8s (chL (frL s ps.flatten) (XL s) ps.flatten),true,true,true,1⟩:Ob),⟨u8s (bkL s ps.flatten),true,true,true,1⟩]:=⟨_,rfl⟩
 have lG5:G5.length=G4.length+2:=by rw [hG5]; simp
 have hf5:G5[G2.length+1]?=some ⟨u8s (frL s ps.flatten),true,true,true,1⟩:=by rw [hG5,Qa (by omega),up34 _ (by omega)]; exact hf3
 have hb5:G5[G4.length+1]?=some ⟨u8s (bkL s ps.flatten),true,true,true,1⟩:=by rw [hG5,Qe (by omega),Qp]; rfl
 have hap:=OY (c:=32) hf5 hb5 lF lB (by decide) (by decide)
 rw [show frL s ps.flatten++bkL s ps.flatten=BW s ps.flatten from rfl] at hap
 have lS:=C6 s ps.flatten
 have g4h:∀ l:List Ob,(G4++l)[H.length+2]?=some ⟨u8s (scL s++pfL s),true,true,true,1⟩:=fun l=>by rw [Qa (by omega),up34 _ (by omega),up13 _ (by omega)]; exact gh
 have g4r:∀ l:List Ob,(G4++l)[G2.length]?=some ⟨u8s (rL s ps.flatten),true,true,true,1⟩:=fun l=>by rw [Qa (by omega),up34 _ (by omega)]; exact hr3
 have g5z:∀ l:List Ob,(G5++l)[H.length+1]?=some ⟨u8s (Qc 64 0),true,true,true,1⟩:=fun l=>by rw [Qa (by omega),hG5,Qa (by omega),up34 _ (by omega),up13 _ (by omega)]; exact gz
 have hfr:∀ i,i<H.length→((G5++[(⟨u8s (BW s ps.flatten),true,true,false,1⟩:Ob)]).set (H.length+1) (⟨u8s (BW s ps.flatten),true,true,true,1⟩:Ob))[i]?=H[i]? := fun i hi=>by
  rw [Qr (by omega),Qa (by omega),hG5,Qa (by omega),up34 _ (by omega),up13 _ (by omega),hG1,Qa hi]
 obtain ⟨l,hl⟩:=Xq (H:=H) (by rw [Qs,Qi]; omega) hfr
 refine ⟨l,?_⟩
 rw [←hl]
 have g6:∀ o:Ob,((G5++[(⟨u8s (BW s ps.flatten),true,true,false,1⟩:Ob)]).set (H.length+1) o)[H.length+1]?=some o:=fun o=>Qx (by rw [Qi]; omega)
 have f1:fillL [Value.slice none 0 0] [(0,1,.slice (some ⟨H.length+2,32,none⟩) 32 32)]=some [.slice (some ⟨H.length+2,32,none⟩) 32 32]:=rfl
 have f2:fillL [Value.slice none 0 0,.slice none 0 0] [(0,1,.slice (some ⟨G2.length+1,0,none⟩) 32 32),(1,1,.slice (some ⟨H.length+3,0,none⟩) 32 32)]=some [.slice (some ⟨G2.length+1,0,none⟩) 32 32,.slice (some ⟨H.length+3,0,none⟩) 32 32]:=rfl
 have t1:Q2 32 (u8s (scL s++pfL s))=u8s (scL s):=by rw [YH,Ji (by omega),Qq (by omega)]
 have F1:H++[(⟨u8s s,true,true,true,1⟩:Ob),⟨u8s (Qc 64 0),true,true,true,1⟩,⟨u8s (scL s++pfL s),true,true,true,1⟩,⟨u8s (XL s),true,true,true,1⟩,⟨[.slice (some ⟨H.length+2,32,none⟩) 32 32],true,true,true,1⟩]=G1:=hG1.symm
 have F2:G1++(k1++k2)=G2:=hG2.symm
 have F3:G2++[(⟨u8s (rL s ps.flatten),true,true,true,1⟩:Ob),⟨u8s (frL s ps.flatten),true,true,true,1⟩,⟨[.slice (some ⟨G2.length+1,0,none⟩) 32 32,.slice (some ⟨H.length+3,0,none⟩) 32 32],true,true,true,1⟩]=G3:=hG3.symm
 have F4:G3++(k3++k4)=G4:=hG4.symm
 have F5:G4++[(⟨u8s (chL (frL s ps.flatten) (XL s) ps.flatten),true,true,true,1⟩:Ob),⟨u8s (bkL s ps.flatten),true,true,true,1⟩]=G5:=hG5.symm
 have im1:Qz H.length [] [G2.length]=[]:=QN (by simp; omega)
 have im2:Qz H.length [] [G2.length+1]=[]:=QN (by simp; omega)
 have im3:Qz H.length [] [G4.length]=[]:=QN (by simp; omega)
 have im4:Qz H.length [] [G4.length+1]=[]:=QN (by simp; omega)
 have ls1:[Value.slice (some ⟨H.length+2,32,none⟩) 32 32].length=1:=rfl
 clear hG1 hG2 hG3 hG4 hG5 hl hfr hm hA1 hA3 partF partA part1
 rw [Qw] at hr hk
 generalize BW s ps.flatten=S,bkL s ps.flatten=Bk,chL (frL s ps.flatten) (XL s) ps.flatten=Ck at *
 generalize frL s ps.flatten=Fr,rL s ps.flatten=R,XL s=A,scL s++pfL s=Hv at *
 generalize scL s=Sc,dig 256 32 0=Z,Qc 64 0=Z64 at *
 rw [Q6 (fn:=nQ) rfl]
 simp only [nQ,Q0,quiet,cW,↓pW,reduceCtorEq,seval,-Qb,hz,hz64,hh,hB,hP,hE,f1,F1,ha1,hr,F2,hP2,hE2,f2,F3,ha3,hk,F4,g4h,g4r,t1,hmv,F5,hap,g5z,g6,im1,im2,im3,im4,QX,Zg,ZU,Zh,Qn,ls,lz,lz64,l1,l3,lA,lr,lF,lk,lB,lS,QB,Qm,ZX]
def Nk (pub front back m:List Nat) (c:Int):Prop :=
 ((∀ A,enc A≠pub)∧c=60)∨∃ A,enc A=pub ∧
  (((JH 8 A=Ku∨¬ num 256 back<ell)∧c=70)∨(JH 8 A≠Ku∧num 256 back<ell ∧
   (((∀ R,enc R≠front)∧c=70)∨∃ R,enc R=front∧c=if XN (JH (num 256 back) Kb) (JH (num 256 (chL front pub m)) A.neg)=R then 0 else 70)))
theorem P7 {k l:List Nat} (lk:k.length=32) (ll:l.length=32):vEq (some (Qc 32 true)) true (.agg (u8s k).toArray) (.agg (u8s l).toArray)=some (.bool (!(k==l))):=by
 rw [Cs,XT lk ll]
 rfl
theorem bJ {pub front back:List Nat} {ps:List (List Nat)} (lp:pub.length=32) (xp:∀ y∈pub,y<256) (lf:front.length=32) (xf:∀ y∈front,y<256) (lb:back.length=32) (xb:∀ y∈back,y<256) (hp:Args H pv ps) (hn:ps.length≤1000) (hb:ps.flatten.length<2^48) :
  ∃ l c,Zb T 25 [.agg (u8s pub).toArray,.agg (u8s (front++back)).toArray,pv] H=some (.int .i64 c,H++l,[])∧Nk pub front back ps.flatten c:=by
 have hz:Qc 32 (Value.int .u8 0)=u8s (dig 256 32 0):=rfl
 have lz:(dig 256 32 0).length=32:=rfl
 have hz20:∃ O,Qc 20 (Value.int .u64 0)=ns .u64 O∧O.length=20:=⟨Qc 20 0,rfl,rfl⟩
 obtain ⟨O,hz20,lO⟩:=hz20
 have rft:∀ (r:List Nat) (c:Int),rf (Value.tuple #[eV r,.int .i64 c])=true:=fun r c=>Ar (a:=eV r) (b := .int .i64 c) (ZX r) rfl
 have lS:(front++back).length=64:=by rw [Qi,lf,lb]
 have t1:Q2 32 (u8s (front++back))=u8s front:=by rw [YH,Ji (by omega),Qq (by omega)]
 have t2:Q2 32 (Z9 32 (u8s (front++back)))=u8s back:=by rw [Mo,ZR (by omega),J6 (by omega),Qo,YH,Qq (by omega)]
 rcases Fi lp xp with ⟨A,a,hA,rA,eA⟩ | ⟨A,hA,lA,hno⟩
 ·have p1:=rA.len
  have ht:=jR rA
  obtain ⟨qc,hcn⟩:=AV lb xb
  have hcv:=Gr hcn
  unfold OL at hA
  by_cases htiny:JH 8 a=Ku
  ·rw [decide_eq_true htiny] at ht
   have hx:∃ l,Zb T 25 [.agg (u8s pub).toArray,.agg (u8s (front++back)).toArray,pv] H=some (.int .i64 70,H++l,[]):=by
    generalize front++back=S at *
    generalize dig 256 32 0=Z at *
    apply Zs
    rw [Q6 (fn:=Dk) rfl]
    simp only [Dk,Q0,quiet,cW,↓pW,reduceCtorEq,seval,-Qb,hz,hz20,hA,t1,t2,ht, QX,Zg,ZU,Zh,QM,Qn,lp,lf,lb,lS,lz,lO,p1,QB,Qm,rft,ZX]
    rfl
   obtain ⟨l,hx⟩:=hx
   exact ⟨l,70,hx,.inr ⟨a,eA,.inl ⟨.inl htiny,rfl⟩⟩⟩
  ·rw [decide_eq_false htiny] at ht
   by_cases hc:num 256 back<ell
   ·rw [decide_eq_true hc] at hcv
    rcases Fi lf xf with ⟨R,r,hR,rR,eR⟩ | ⟨R,hR,lR,hnR⟩
    ·have p2:=rR.len
     unfold OL at hR
     obtain ⟨G1,hG1⟩:∃ X,X=H++[(⟨u8s pub,true,true,true,1⟩:Ob),⟨u8s (front++back),true,true,true,1⟩,⟨ns .u64 A,true,true,true,1⟩,⟨u8s front,true,true,true,1⟩,⟨u8s back,true,true,true,1⟩,⟨ns .u64 R,true,true,true,1⟩,⟨[.slice (some ⟨H.length+3,0,none⟩) 32 32,.slice (some ⟨H.length,0,none⟩) 32 32],true,true,true,1⟩]:=⟨_,rfl⟩
     have lG1:G1.length=H.length+7:=by rw [hG1]; simp
     have gp:G1[H.length]?=some ⟨u8s pub,true,true,true,1⟩:=by rw [hG1,Qe (by omega),Qv]; rfl
     have gA:G1[H.length+2]?=some ⟨ns .u64 A,true,true,true,1⟩:=by rw [hG1,Qe (by omega),Qp]; rfl
     have gf:G1[H.length+3]?=some ⟨u8s front,true,true,true,1⟩:=by rw [hG1,Qe (by omega),Qp]; rfl
     have gb:G1[H.length+4]?=some ⟨u8s back,true,true,true,1⟩:=by rw [hG1,Qe (by omega),Qp]; rfl
     have ga:G1[H.length+6]?=some ⟨[.slice (some ⟨H.length+3,0,none⟩) 32 32,.slice (some ⟨H.length,0,none⟩) 32 32],true,true,true,1⟩:=by rw [hG1,Qe (by omega),Qp]; rfl
     have hp1:Args G1 pv ps:=by rw [hG1]; exact hp.app
     have partF:HPart (LtN G1.length) G1 (.slice (some ⟨H.length+3,0,none⟩) 32 32) front:=by
      have:=HPart.whole (n:=G1.length) (c:=32) (by omega) gf xf (by rw [lf]; decide)
      rwa [lf] at this
     have partP:HPart (LtN G1.length) G1 (.slice (some ⟨H.length,0,none⟩) 32 32) pub:=by
      have:=HPart.whole (n:=G1.length) (c:=32) (by omega) gp xp (by rw [lp]; decide)
      rwa [lp] at this
     obtain ⟨v1,k1,ha1,hA1⟩:=Uy (n:=2) ga rfl (.cons partF (.cons partP .nil)) hp1 (by decide) hn
     obtain ⟨k2,hk⟩:=Y3 hA1 (by rw [Zd,QO,QO,Zq,QD,Qi,Qi,lf,lp]; omega)
     rw [Zd,QO,QO,Zq,QD,Qw,show M8 (front++(pub++ps.flatten))=chL front pub ps.flatten from rfl,Qw] at hk
     have lk:(chL front pub ps.flatten).length=32:=BY
     obtain ⟨G2,hG2⟩:∃ X,X=G1++(k1++k2):=⟨_,rfl⟩
     have lG2:G1.length≤G2.length:=by rw [hG2]; simp
     have up:∀ i,i<G1.length→∀ l:List Ob,(G2++l)[i]?=G1[i]? := fun i hi l=>by rw [Qa (by omega),hG2,Qa hi]
     obtain ⟨B,hB,rB⟩:=IZ
     obtain ⟨X,hX,rX⟩:=VM rB lb xb
     obtain ⟨NA,hNA,rNA⟩:=kT rA
     obtain ⟨Y,hY,rY⟩:=VM rNA lk DS
     obtain ⟨S,dS,hS,ES⟩:=iq (H:=G2++[(⟨u8s (chL front pub ps.flatten),true,true,true,1⟩:Ob),⟨ns .u64 [X,Y].flatten,true,true,true,1⟩]) (id:=G2.length+1) (n:=2) (xs:=[X,Y]) rfl (by decide) (.cons rX (.cons rY .nil)) (by rw [Qe (by omega),Qp]; rfl)
     simp only [Js,JG,Qu,Qw,Qo] at hS
     rw [fold2] at ES
     have hE:=Gx ES
     have lE:=Gy (XN (JH (num 256 back) Kb) (JH (num 256 (chL front pub ps.flatten)) a.neg))
     have g1:=md rX rY
     have q1:=rX.len
     have q2:=rY.len
     have q3:=ES.len
     have hq:=P7 lE lf
     have hd:(enc (XN (JH (num 256 back) Kb) (JH (num 256 (chL front pub ps.flatten)) a.neg))==front)=decide (XN (JH (num 256 back) Kb) (JH (num 256 (chL front pub ps.flatten)) a.neg)=r):=by rw [←eR,LY]
     rw [hd] at hq
     have uA:=fun l=>(up _ (by omega) l).trans gA
     have uf:=fun l=>(up _ (by omega) l).trans gf
     have ub:=fun l=>(up _ (by omega) l).trans gb
     have f2:fillL [Value.slice none 0 0,.slice none 0 0] [(0,1,.slice (some ⟨H.length+3,0,none⟩) 32 32),(1,1,.slice (some ⟨H.length,0,none⟩) 32 32)]=some [.slice (some ⟨H.length+3,0,none⟩) 32 32,.slice (some ⟨H.length,0,none⟩) 32 32]:=rfl
     have F1:H++[(⟨u8s pub,true,true,true,1⟩:Ob),⟨u8s (front++back),true,true,true,1⟩,⟨ns .u64 A,true,true,true,1⟩,⟨u8s front,true,true,true,1⟩,⟨u8s back,true,true,true,1⟩,⟨ns .u64 R,true,true,true,1⟩,⟨[.slice (some ⟨H.length+3,0,none⟩) 32 32,.slice (some ⟨H.length,0,none⟩) 32 32],true,true,true,1⟩]=G1:=hG1.symm
     have F2:G1++(k1++k2)=G2:=hG2.symm
     have im1:Qz H.length [] [G2.length]=[]:=QN (by simp; omega)
     have hfr:∀ l:List Ob,∃ l',G2++l=H++l':=fun l=>⟨_,by rw [hG2,hG1,Qw,Qw]⟩
     by_cases hfin:XN (JH (num 256 back) Kb) (JH (num 256 (chL front pub ps.flatten)) a.neg)=r
     ·rw [decide_eq_true hfin] at hq
      have hx:∃ l,Zb T 25 [.agg (u8s pub).toArray,.agg (u8s (front++back)).toArray,pv] H=some (.int .i64 0,G2++l,[]):=by
       clear hG1 hG2 hd up hfr
       generalize front++back=SG at *
       generalize dig 256 32 0=Z,chL front pub ps.flatten=Ck at *
       generalize enc (XN (JH (num 256 back) Kb) (JH (num 256 Ck) a.neg))=E at *
       apply Zs
       rw [Q6 (fn:=Dk) rfl]
       simp only [Dk,Q0,quiet,cW,↓pW,reduceCtorEq,seval,-Qb,hz,hz20,hA,t1,t2,ht,hcv,hR,f2,F1,ha1,hk,F2,im1,hB,hX,hNA,hY,g1,hS,hE,hq,uA,uf,ub,QX,Zg,ZU,Zh,QM,Qn,lp,lf,lb,lS,lz,lO,lk,lE,p1,p2,q1,q2,q3,QB,Qm,rft,ZX]
       rfl
      obtain ⟨l,hx⟩:=hx
      obtain ⟨l',hl'⟩:=hfr l
      rw [hl'] at hx
      exact ⟨l',0,hx,.inr ⟨a,eA,.inr ⟨htiny,hc,.inr ⟨r,eR,by rw [if_pos hfin]⟩⟩⟩⟩
     ·rw [decide_eq_false hfin] at hq
      have hx:∃ l,Zb T 25 [.agg (u8s pub).toArray,.agg (u8s (front++back)).toArray,pv] H=some (.int .i64 70,G2++l,[]):=by
       clear hG1 hG2 hd up hfr
       generalize front++back=SG at *
       generalize dig 256 32 0=Z,chL front pub ps.flatten=Ck at *
       generalize enc (XN (JH (num 256 back) Kb) (JH (num 256 Ck) a.neg))=E at *
       apply Zs
       rw [Q6 (fn:=Dk) rfl]
       simp only [Dk,Q0,quiet,cW,↓pW,reduceCtorEq,seval,-Qb,hz,hz20,hA,t1,t2,ht,hcv,hR,f2,F1,ha1,hk,F2,im1,hB,hX,hNA,hY,g1,hS,hE,hq,uA,uf,ub,QX,Zg,ZU,Zh,QM,Qn,lp,lf,lb,lS,lz,lO,lk,lE,p1,p2,q1,q2,q3,QB,Qm,rft,ZX]
       rfl
      obtain ⟨l,hx⟩:=hx
      obtain ⟨l',hl'⟩:=hfr l
      rw [hl'] at hx
      exact ⟨l',70,hx,.inr ⟨a,eA,.inr ⟨htiny,hc,.inr ⟨r,eR,by rw [if_neg hfin]⟩⟩⟩⟩
    ·unfold OL at hR
     have hx:∃ l,Zb T 25 [.agg (u8s pub).toArray,.agg (u8s (front++back)).toArray,pv] H=some (.int .i64 70,H++l,[]):=by
      generalize front++back=S at *
      generalize dig 256 32 0=Z at *
      apply Zs
      rw [Q6 (fn:=Dk) rfl]
      simp only [Dk,Q0,quiet,cW,↓pW,reduceCtorEq,seval,-Qb,hz,hz20,hA,t1,t2,ht,hcv,hR,lR,QX,Zg,ZU,Zh,QM,Qn,lp,lf,lb,lS,lz,lO,p1,QB,Qm,rft,ZX]
      rfl
     obtain ⟨l,hx⟩:=hx
     exact ⟨l,70,hx,.inr ⟨a,eA,.inr ⟨htiny,hc,.inl ⟨hnR,rfl⟩⟩⟩⟩
   ·rw [decide_eq_false hc] at hcv
    have hx:∃ l,Zb T 25 [.agg (u8s pub).toArray,.agg (u8s (front++back)).toArray,pv] H=some (.int .i64 70,H++l,[]):=by
     generalize front++back=S at *
     generalize dig 256 32 0=Z at *
     apply Zs
     rw [Q6 (fn:=Dk) rfl]
     simp only [Dk,Q0,quiet,cW,↓pW,reduceCtorEq,seval,-Qb,hz,hz20,hA,t1,t2,ht,hcv,QX,Zg,ZU,Zh,QM,Qn,lp,lf,lb,lS,lz,lO,p1,QB,Qm,rft,ZX]
     rfl
    obtain ⟨l,hx⟩:=hx
    exact ⟨l,70,hx,.inr ⟨a,eA,.inl ⟨.inr hc,rfl⟩⟩⟩
 ·unfold OL at hA
  have hx:Zb T 25 [.agg (u8s pub).toArray,.agg (u8s (front++back)).toArray,pv] H=some (.int .i64 60,H++[⟨u8s pub,true,true,true,1⟩,⟨u8s (front++back),true,true,true,1⟩,⟨ns .u64 A,true,true,true,1⟩],[]):=by
   generalize front++back=S at *
   generalize dig 256 32 0=Z at *
   rw [Q6 (fn:=Dk) rfl]
   simp only [Dk,Q0,quiet,cW,↓pW,reduceCtorEq,seval,-Qb,hz,hz20,hA,t1,t2,QX,Zg,ZU,Zh,QM,Qn,lp,lS,lz,lO,lA,QB,Qm,rft,ZX]
  exact ⟨_,60,hx,.inl ⟨hno,rfl⟩⟩
end Go.Ev.YtomfgcgnepfmjaaGreat
namespace Go.Ev.YtomfgcgnepfmjaaGreat
open Go Go.Ev
open Go.NT (Pr)
set_option maxRecDepth 100000
theorem lp1:Pr 531581:=Go.NT.Ke (f:=729) (by decide) (by decide) (by decide +kernel)
theorem lp2:Pr 1224481:=Go.NT.Ke (f:=1106) (by decide) (by decide) (by decide +kernel)
theorem lp3:Pr 1257559732178653:=Go.NT.Wa (q:=531581) (k:=2365697292) (a:=2) (q2:=1224481) (k2:=1027014492) (a2:=2) (f:=51) lp1 lp2 (by decide +kernel)
theorem lp4:Pr 4434155615661930479:=Go.NT.Vx (q:=1257559732178653) (k:=3526) (a:=2) (f:=62) lp3 (by decide +kernel)
theorem lp5:Pr 172054593956031949258510691:=Go.NT.Vx (q:=4434155615661930479) (k:=38802110) (a:=2) (f:=88) lp4 (by decide +kernel)
theorem lp6:Pr 19757330305831588566944191468367130476339:=Go.NT.Vx (q:=172054593956031949258510691) (k:=114831751082918) (a:=2) (f:=134) lp5 (by decide +kernel)
theorem lp7:Pr 276602624281642239937218680557139826668747:=Go.NT.Vx (q:=19757330305831588566944191468367130476339) (k:=14) (a:=2) (f:=138) lp6 (by decide +kernel)
theorem TV:Pr ell:=Go.NT.Vx (q:=276602624281642239937218680557139826668747) (k:=26163907866482859529727157400808004) (a:=2) (f:=253) lp7 (by decide +kernel)
theorem ie:Kb≠Ku:=fun h=>IL (by rw [h,T3])
theorem NF (p:Go.Cv.Pt Go.Fp.P Go.Fp.d):JH 1 p=p:=Go.Cv.mul_one Go.Fp.fld p
theorem NO {n:Nat} (h:JH n Kb=Ku):ell∣n:=by
 refine Classical.byContradiction fun hn => ?_
 have hf:=Go.NT.Da TV hn
 apply ie
 have e1:ell-1=(ell-2)+1:=by decide +kernel
 have h2:n^(ell-1)=n^(ell-2)*n:=by rw [e1,Z0]
 have h3:JH (n^(ell-1)) Kb=Ku:=by rw [h2,MG,h,T3]
 rw [←CH Fc,hf,NF] at h3
 exact h3
theorem gC (n:Nat) (h:ell∣8*n):ell∣n:=by
 have hc:Nat.Coprime ell 8:=Go.NT.Pr.coprime TV (by decide +kernel)
 exact hc.dvd_of_dvd_mul_left h
theorem OQ {a:List Nat} {x y:Nat} (la:a.length=32) (xa:∀ z∈a,z<256) (hx:a[0]?=some x) (hy:a[31]?=some y):num 256 (Ks a x y)%8=0∧2^254≤num 256 (Ks a x y)∧num 256 (Ks a x y)<2^255:=by
 have hx':=xa x (Qy hx)
 have hy':=xa y (Qy hy)
 obtain ⟨t,ht⟩:∃ t,a=x::t:=by
  cases a with
  | nil=>simp at hx
  | cons z t=>simp at hx; subst hx; exact ⟨t,rfl⟩
 have e8:x&&&248=x/8*8:=(by decide +kernel:∀ v,v<256→v&&&248=v/8*8) x hx'
 have e64:(y&&&127)|||64=y%64+64:=(by decide +kernel:∀ v,v<256→(v&&&127)|||64=v%64+64) y hy'
 have h1:=Ym (B:=256) (x&&&248) hx
 have hy2:(a.set 0 (x&&&248))[31]?=some y:=by rw [Qr (by decide)]; exact hy
 have h2:=Ym (B:=256) ((y&&&127)|||64) hy2
 have hV:=num_lt xa
 rw [la] at hV
 have hg:=VA (by decide:0<256) xa hy
 have hm:num 256 a%256=x:=by
  have:=VA (by decide:0<256) xa hx
  rwa [JW,Nat.div_one] at this
 unfold Ks
 rw [e8] at h1 h2 ⊢
 rw [e64] at h2 ⊢
 have e31:(256:Nat)^31=452312848583266388373324160190187140051835877600158453279131187530910662656:=by decide
 have e32:(256:Nat)^32=115792089237316195423570985008687907853269984665640564039457584007913129639936:=by decide
 have e254:(2:Nat)^254=28948022309329048855892746252171976963317496166410141009864396001978282409984:=by decide
 have e255:(2:Nat)^255=57896044618658097711785492504343953926634992332820282019728792003956564819968:=by decide
 rw [JW,Xc,Xc] at h1
 rw [e31] at h2 hg
 rw [e32] at hV
 rw [e254,e255]
 generalize num 256 ((a.set 0 (x/8*8)).set 31 (y%64+64))=N2 at *
 generalize num 256 (a.set 0 (x/8*8))=N1 at *
 generalize num 256 a=N at *
 have hyq:N/452312848583266388373324160190187140051835877600158453279131187530910662656=y:=by omega
 have hdm:=ZH N 452312848583266388373324160190187140051835877600158453279131187530910662656
 rw [hyq] at hdm
 have hmlt:=Q3 N (by decide:0<452312848583266388373324160190187140051835877600158453279131187530910662656)
 have hlow:N%452312848583266388373324160190187140051835877600158453279131187530910662656%256=x:=by omega
 generalize N%452312848583266388373324160190187140051835877600158453279131187530910662656=M at *
 refine ⟨?_,?_,?_⟩<;>omega
theorem dF (s:List Nat):num 256 (scL s)%8=0∧2^254≤num 256 (scL s)∧num 256 (scL s)<2^255:=by
 obtain ⟨x,g0,d0,lx⟩:=HI s (i:=0) (by decide)
 obtain ⟨z,g31,d31,lz⟩:=HI s (i:=31) (by decide)
 unfold scL
 rw [d0,d31]
 exact OQ (by rw [Q4,V9]; rfl) (fun y hy=>Mv s y (QU hy)) (by rw [QQ,if_pos (by decide)]; exact g0) (by rw [QQ,if_pos (by decide)]; exact g31)
theorem PT (s:List Nat):¬ ell∣num 256 (scL s):=by
 obtain ⟨h1,h2,h3⟩:=dF s
 generalize num 256 (scL s)=a at *
 intro hd
 obtain ⟨k,rfl⟩:=hd
 have h7:k<8:=Nat.lt_of_mul_lt_mul_left (a:=ell) (Nat.lt_trans h3 (by decide +kernel))
 have h0:0<k:=by
  rcases Jl k with h | h
  ·rw [h,Nat.mul_zero] at h2
   exact absurd h2 (by decide)
  ·exact h
 have hm:ell*k%8=(ell%8)*k%8:=by rw [Nat.mod_mul_mod]
 have he:ell%8=5:=by decide +kernel
 rw [hm,he] at h1
 clear h2 h3 hm he
 omega
end Go.Ev.YtomfgcgnepfmjaaGreat
namespace Go.Ev.YtomfgcgnepfmjaaGreat
open Go Go.Ev
set_option maxRecDepth 100000
theorem Fb {p q:Go.Cv.Pt Go.Fp.P Go.Fp.d} (h:enc p=enc q):p=q:=by
 have:=LY p q
 rw [h] at this
 simp at this
 exact this
theorem Sz (k:Nat) (p:Go.Cv.Pt Go.Fp.P Go.Fp.d):JH k p.neg=(JH k p).neg:=Go.Cv.mul_neg Go.Fp.fld k p
theorem du {s m:List Nat} {c:Int} (h:Nk (XL s) (frL s m) (bkL s m) m c):c=0:=by
 have hA:enc (JH (num 256 (scL s)) Kb)=XL s:=rfl
 have hR:enc (JH (num 256 (rL s m)) Kb)=frL s m:=rfl
 have hb:num 256 (bkL s m)=(num 256 (chL (frL s m) (XL s) m)*num 256 (scL s)+num 256 (rL s m))%ell:=kO _ _ _
 have hnt:JH 8 (JH (num 256 (scL s)) Kb)≠Ku:=fun h=>PT s (gC _ (NO (by rw [MG]; exact h)))
 have hblt:num 256 (bkL s m)<ell:=by rw [hb]; exact Q3 _ AR
 rcases h with ⟨h,-⟩ | ⟨A,eA,h⟩
 ·exact absurd hA (h _)
 ·have e1:=Fb (eA.trans hA.symm)
  rw [e1] at h
  rcases h with h | h
  ·obtain ⟨h,-⟩:=h
   cases h with
   | inl h=>exact absurd h hnt
   | inr h=>exact absurd hblt h
  ·have h:=h.2.2
   rcases h with ⟨h,-⟩ | ⟨R,eR,h⟩
   ·exact absurd hR (h _)
   ·have e2:=Fb (eR.trans hR.symm)
    rw [e2] at h
    rw [h,if_pos]
    rw [hb,CH Fc,S0,MG,Sz]
    generalize num 256 (chL (frL s m) (XL s) m)=k
    generalize JH k (JH (num 256 (scL s)) Kb)=X
    rw [NK X,Ih,SB,Ig]
end Go.Ev.YtomfgcgnepfmjaaGreat
namespace Go.Ev.YtomfgcgnepfmjaaGreat
open Go Go.Ev Go.Fp
abbrev PtE:=Go.Cv.Pt Go.Fp.P Go.Fp.d
def Fr (X Z:Fe) (p:PtE):Prop:=∃ l:Fe,l≠0∧X=l*(1+p.y)∧Z=l*(1-p.y)
end Go.Ev.YtomfgcgnepfmjaaGreat
namespace Go.Ev.YtomfgcgnepfmjaaGreat
open Go Go.Ev
attribute [local congr] Jr J7 Jq J8 Jc
set_option maxRecDepth 100000
variable {b:List Nat} {a v:List Value}
theorem Grown.ob {k:IntKind} {B:Nat} {H:List Ob} {s:Value} {bs:List Nat} (h:Grown k B H s bs) (h0:0<bs.length):∃ id x,s=.slice (some ⟨id,0,none⟩) bs.length bs.length∧B≤id∧H[id]?=some ⟨ns k bs,true,true,x,1⟩:=by
 cases h with
 | nil=>exact absurd h0 (by decide)
 | @own id _ h1 h2 h3=>exact ⟨id,false,rfl,h1,h3⟩
 | @new id _ h1 h2 h3=>exact ⟨id,true,rfl,h1,h3⟩
def tL (x y z:List Nat):List Nat:=x++(y++z)
theorem kg {x y z:List Nat} (hx:x.length=16) (hy:y.length=16) (hz:z.length=16):(tL x y z).length=48:=by simp [tL,hx,hy,hz]
structure RRep (x y z:List Nat) (p:Go.Cv.Pt Go.Fp.P Go.Fp.d):Prop where
 nx:Nm x
 ny:Nm y
 nz:Nm z
 ne:nf z≠0
 x:nf x=p.x*nf z
 y:nf y=p.y*nf z
def RP (l:List Nat) (p:Go.Cv.Pt Go.Fp.P Go.Fp.d):Prop:=∃ x y z,l=tL x y z∧RRep x y z p
theorem RP.len {l:List Nat} {p:Go.Cv.Pt Go.Fp.P Go.Fp.d} (h:RP l p):l.length=48:=by
 obtain ⟨x,y,z,rfl,h⟩:=h
 exact kg h.nx.len h.ny.len h.nz.len
theorem WQ {a:List Nat} (h:a.length+b.length≤2^47):Jn .add (X7 a) (X7 b)=some (X7 (a++b)):=by
 unfold X7
 rw [Fv]
 have:(⟨(a.map UInt8.ofNat).toArray⟩:ByteArray).size+(⟨(b.map UInt8.ofNat).toArray⟩:ByteArray).size≤2^47:=by simpa [ByteArray.size] using h
 rw [gate,if_pos this]
 congr 2
 apply ByteArray.ext
 simp
def byO (x:Nat):Ob:=⟨[.int .u8 x],true,true,true,1⟩
theorem R7 (m:List Ob) (w:Nat):elemsOf (m++[⟨[.int .u8 (w:Int)],true,true,true,1⟩]) 1 1 (.slice (some ⟨m.length,0,none⟩) 1 1)=some (u8s [w]):=by
 have h1:liveAt (m++[⟨[.int .u8 (w:Int)],true,true,true,1⟩]) m.length=some ⟨[.int .u8 (w:Int)],true,true,true,1⟩:=Zv (by rw [Qe (Ql _),Qv]; rfl) rfl
 simp [elemsOf,h1,u8s]
theorem FY {α:Type} {y:Option α}:Dt none y=y:=rfl
theorem take_set {X Y:List Nat} {i w:Nat} (lX:X.length=5) (lY:Y.length=5) (hi:i<5) (hw:Y[i]?=some w):(Y.take i++X.drop i).set i w=Y.take (i+1)++X.drop (i+1):=by
 have lt:(Y.take i).length=i:=by rw [Q4]; omega
 obtain ⟨v,hv⟩:∃ v,X[i]?=some v:=⟨_,Qg (by omega)⟩
 rw [Q9 _ _ (by omega),lt,Qv,List.drop_eq_getElem?_toList_append (i:=i),hv,Zr,hw]
 simp
abbrev LSt:=(Go.Fp.Fe×Go.Fp.Fe)×(Go.Fp.Fe×Go.Fp.Fe)
structure LRp (s:LSt) (ax az bx bz:List Nat):Prop where
 eax:El ax (2^52)
 eaz:El az (2^52)
 ebx:El bx (2^52)
 ebz:El bz (2^52)
 fax:fe ax=s.1.1
 faz:fe az=s.1.2
 fbx:fe bx=s.2.1
 fbz:fe bz=s.2.2
theorem Args.one {H:List Ob} {a b n c:Nat} {t:List Nat} {e:Bool} {s:Nat} (ha:H[a]?=some ⟨[.slice (some ⟨b,0,none⟩) n n],true,true,e,s⟩) {e':Bool} {s':Nat} (hb:H[b]?=some ⟨u8s t,true,true,e',s'⟩) (hn:t.length=n) (xt:∀ y∈t,y<256) (h40:n≤2^47-4096):Args H (.slice (some ⟨a,0,none⟩) 1 c) [t]:=by
 have hp:HPart (LtN H.length) H (.slice (some ⟨b,0,none⟩) n n) t:=by
  have:=HPart.whole (n:=H.length) (c:=n) (Qf.1 hb).1 hb xt (by omega)
  rwa [hn] at this
 exact Args.arr ha rfl (.cons hp .nil) (by decide)
structure BA (H0:List Ob) (bv:Value) (l:List Nat):Prop where
 len:vLen false bv=some (.int .i64 l.length)
 lt:∀ y∈l,y<256
 le:l.length≤2^47-4096
 fill:fillL [Value.slice none 0 0] [(0,1,bv)]=some [bv]
 whole:HPart (LtN H0.length) H0 bv l
 cut:∀ k,k≤l.length→∃ s1 s2,(∀ G:List Ob,(∀ i,i<H0.length→G[i]?=H0[i]?)→vSliceSl G 1 none (some (.int .i64 (k:Nat))) none bv=some s1∧vSliceSl G 1 (some (.int .i64 (k:Nat))) none none bv=some s2) ∧
  HPart (LtN H0.length) H0 s1 (l.take k)∧HPart (LtN H0.length) H0 s2 (l.drop k)
theorem BA.nil:BA [] (.slice none 0 0) [] :=
 ⟨rfl,by simp,by decide,rfl,⟨⟨_,_,rfl⟩,fun _ _=>rfl,by simp,by decide⟩,fun k hk=>by
  have:k=0:=by simpa using hk
  subst this
  exact ⟨.slice none 0 0,.slice none 0 0,fun G _=>⟨rfl,rfl⟩,⟨⟨_,_,rfl⟩,fun _ _=>rfl,by simp,by decide⟩,⟨⟨_,_,rfl⟩,fun _ _=>rfl,by simp,by decide⟩⟩⟩
theorem BA.some {l:List Nat} {n:Nat} (ln:l.length=n) (xl:∀ x∈l,x<256) (hm:n≤2^47-4096):BA [⟨u8s l,true,false,false,1⟩] (.slice (some ⟨0,0,none⟩) n n) l:=by
 subst ln
 refine ⟨rfl,xl,hm,rfl,HPart.whole (w:=false) (e:=false) (s:=1) (n:=1) (Wc) rfl xl hm,fun k hk => ?_⟩
 refine ⟨.slice (V4 ⟨0,0,none⟩) k l.length,.slice (V4 ⟨0,0+k,none⟩) (l.length-k) (l.length-k),fun G hG => ?_,?_,?_⟩
 ·have hg:G[0]?=V4 ⟨u8s l,true,false,false,1⟩:=(hG 0 Wc).trans rfl
  have hlv:liveAt G 0=V4 ⟨u8s l,true,false,false,1⟩:=Zv hg rfl
  have b1:ZG l.length l.length none (V4 (.int .i64 (k:Nat))) none=V4 (0,k,l.length):=by
   rw [JR,Xa hk,Qk]; rfl
  have b2:ZG l.length l.length (V4 (.int .i64 (k:Nat))) none none=V4 (k,l.length,l.length):=by
   rw [JR,K0,Qk,Xa hk,Qk]
  rw [Wj,Wj,b1,b2,Qk,Qk,hlv,Qk,Qk]
  simp [gate]
 ·have:=HPart.arr (n:=1) (H:=[(⟨u8s l,true,false,false,1⟩:Ob)]) (id:=0) (off:=0) (m:=k) (c:=l.length) (by decide) rfl xl (by omega) (by omega)
  rwa [List.drop_zero] at this
 ·have:=HPart.arr (n:=1) (H:=[(⟨u8s l,true,false,false,1⟩:Ob)]) (id:=0) (off:=0+k) (m:=l.length-k) (c:=l.length-k) (by decide) rfl xl (by omega) (by omega)
  rw [QA,Qq (by rw [QG]; exact Ql _)] at this
  rw [QA]
  exact this
theorem Grown.set {k:IntKind} {B n:Nat} {H:List Ob} {s:Value} {xs:List Nat} {o:Ob} (h:Grown k B H s xs) (hn:n<B):Grown k B (H.set n o) s xs:=by
 cases h with
 | nil=>exact .nil
 | own h1 h2 h3=>exact .own h1 h2 (by rw [Qr (by omega)]; exact h3)
 | new h1 h2 h3=>exact .new h1 h2 (by rw [Qr (by omega)]; exact h3)
structure SoInv (bk:List Nat) (j:Nat) (b:List Nat) (c:Nat):Prop where
 len:b.length=32
 lt:∀ y∈b,y<256
 cle:c≤1
 eq:num 256 (b.take j)+c*256^j=num 256 (bk.take j)+num 256 (ordL.take j)
 rest:∀ i,j≤i→b[i]?=bk[i]?
theorem SoInv.step {bk b:List Nat} {j c x y:Nat} (h:SoInv bk j b c) (hj:j<32) (hx:b[j]?=some x) (hx':x<256) (hy:ordL[j]?=some y) (hy':y<256):SoInv bk (j+1) (b.set j ((c+(x+y))%256)) ((c+(x+y))/256):=by
 have hc:=h.cle
 have hb:=h.rest j (Ql _)
 rw [hx] at hb
 refine ⟨by rw [Qs]; exact h.len,Wl h.lt (Q3 _ (by decide)),by omega,?_,fun i hi=>by rw [Qr (by omega)]; exact h.rest i (by omega)⟩
 have e1:(b.set j ((c+(x+y))%256))[j]?=some ((c+(x+y))%256):=by rw [Qx (by rw [h.len]; exact hj)]
 have e2:(b.set j ((c+(x+y))%256)).take j=b.take j:=by
  rw [List.take_set,List.set_eq_of_length_le (by rw [Q4]; omega)]
 rw [XE e1,XE hb.symm,XE hy,e2]
 have h2:=h.eq
 have h3:=ZH (c+(x+y)) 256
 generalize (c+(x+y))/256=q at *
 generalize (c+(x+y))%256=r at *
 have e3:(256*q+r)*256^j=(c+(x+y))*256^j:=by rw [h3]
 have e4:q*256^(j+1)=256*q*256^j:=by rw [Z0]; simp only [Nat.mul_assoc,Nat.mul_left_comm,Nat.mul_comm]
 rw [e4]
 rw [Zw,Zw,Zw] at e3
 omega
structure OffL (w p o g:List Nat):Prop where
 lw:w.length=64
 lp:p.length=32
 lo:o.length=32
 lg:g.length=64
theorem Tz {b:List Value} (h:v.length=a.length):splice (a++b) 0 v=v++b:=by
 rw [JY _ _ _ (by rw [Qi]; omega),Jh,Qo,QA,h,Pa]
theorem Ty {b:List Value} {n k:Nat} (h:a.length=n) (hk:k+v.length≤b.length):splice (a++b) (n+k) v=a++splice b k v:=by
 rw [JY _ _ _ (by rw [Qi]; omega),JY _ _ _ hk,←h,List.take_append,Qq (by omega),Qp,Qw]
 congr 3
 rw [Nat.add_assoc,←List.drop_drop,Pa]
def id4 (i:Nat):List Nat:=[i/2^24%256,i/2^16%256,i/2^8%256,i%256]
theorem I8 (i:Nat):∀ y∈id4 i,y<256:=by
 intro y hy
 simp only [id4,Jk,J4,or_false] at hy
 rcases hy with rfl | rfl | rfl | rfl<;>exact Q3 _ (by decide)
def zK:List Nat:=dig 256 32 0
theorem FE:zK.length=32:=rfl
theorem Ys {G:List Ob} {id c:Nat} {w e:Bool} {s:Nat} (h:G[id]?=some ⟨u8s b,true,w,e,s⟩):elemsOf G 1 b.length (.slice (some ⟨id,0,none⟩) b.length c)=some (u8s b):=by
 simp [elemsOf,Zv h rfl,Qn]
 exact Qq (by rw [Qn]; exact Ql _)
def AllS (B:Nat) (G:List Ob) (v:Value) (t:List Nat):Prop:=(∃ id,B<id∧v=.slice (some ⟨id,0,none⟩) 32 32∧t.length=32∧G[id]?=some ⟨u8s t,true,true,true,1⟩)∨Rst (fun i=>i≤B) G v t
theorem AllS.shape {B:Nat} {G:List Ob} {v:Value} {t:List Nat} (h:AllS B G v t):∃ a c,v=.slice a t.length c:=by
 rcases h with ⟨id,h1,rfl,h2,h3⟩ | h
 ·rw [h2]; exact ⟨_,_,rfl⟩
 ·exact h.shape
theorem AllS.part {B:Nat} {G:List Ob} {v:Value} {t:List Nat} (h:AllS B G v t) (xt:∀ y∈t,y<256) (lt:t.length≤1000):HPart (LtN G.length) G v t:=by
 rcases h with ⟨id,h1,rfl,h2,h3⟩ | h
 ·have:=HPart.whole (n:=G.length) (c:=32) (Qf.1 h3).1 h3 xt (by omega)
  rwa [h2] at this
 ·refine ⟨h.shape,fun G' hG' => ?_,xt,by omega⟩
  have h':Rst (fun i=>i≤B) G' v t:=h.ext fun i hi=>hG' i hi
  exact h'.elems
theorem AllS.ext {B:Nat} {G G':List Ob} {v:Value} {t:List Nat} (h:AllS B G v t) (hg:∀ i,i<G.length→G'[i]?=G[i]?):AllS B G' v t:=by
 rcases h with ⟨id,h1,h0,h2,h3⟩ | h
 ·exact .inl ⟨id,h1,h0,h2,(hg id (Qf.1 h3).1).trans h3⟩
 ·exact .inr (h.ext hg)
end Go.Ev.YtomfgcgnepfmjaaGreat
namespace Go.Ev.YtomfgcgnepfmjaaGreat
open Go Go.Ev Go.Fp
set_option maxRecDepth 100000
def frc {α:Type} (n:Nat) (k:Nat→α):α:=match n with
 | 0=>k 0
 | m+1=>k (m+1)
def stN (u X Z X' Z':Nat) (k:Nat→Nat→Nat→Nat→Bool):Bool :=
 frc ((X+Z)%P) fun s=>frc ((P-Z+X)%P) fun m=>frc (s*s%P) fun ss=>frc (m*m%P) fun mm=>frc ((P-mm+ss)%P) fun e =>
 frc ((P-Z'+X')%P*s%P) fun l=>frc ((X'+Z')%P*m%P) fun r=>frc ((l+r)%P) fun lr=>frc ((P-r+l)%P) fun lm =>
 frc (ss*mm%P) fun dx=>frc (e*((ss+121665*e%P)%P)%P) fun dz=>frc (lr*lr%P) fun ax=>frc (u*(lm*lm%P)%P) fun az=>k dx dz ax az
def lT (K u:Nat):Nat→Nat→Nat→Nat→Nat→(Nat→Nat→Bool)→Bool
 | 0,a,b,_,_,f=>f a b
 | n+1,a,b,c,d,f=>if K/2^n%2==1 then stN u c d a b fun dx dz ax az=>lT K u n ax az dx dz f else stN u a b c d fun dx dz ax az=>lT K u n dx dz ax az f
def kE (n:Nat):List Nat:=dig 256 32 n
end Go.Ev.YtomfgcgnepfmjaaGreat
namespace Go.Ev.YtomfgcgnepfmjaaGreat
open Go Go.Ev
attribute [local congr] Jr J7 Jq J8 Jc
set_option maxRecDepth 100000
variable {n:Nat}
theorem Kp {C:List Value} {o:Nat} {v:Value} {r:List (Nat×Nat×Value)} (h1:v.cells.size=n) (h2:o+n≤C.length) (h3:okVar v=true):fillL C ((o,n,v)::r)=fillL (splice C o v.cells.toList) r:=by
 conv=>lhs; unfold fillL
 rw [if_pos ⟨h1,h2,h3⟩]
theorem VZ {l:List Nat} (h:l.length=n):(Value.agg (u8s l).toArray).cells.size=n:=by show (u8s l).length=n; rw [Qn,h]
theorem ER {a:List Nat} (la:a.length=64):fillL (Qc 64 (Value.int .u8 0)) [(0,64,.agg (u8s a).toArray)]=some (u8s a):=by
 unfold fillL
 rw [if_pos ⟨by show (u8s a).length=64; rw [Qn,la],by rw [Qm]; decide,rfl⟩,show (Value.agg (u8s a).toArray).cells.toList=u8s a from rfl,QV (by rw [Qn,la,Qm])]
 rfl
end Go.Ev.YtomfgcgnepfmjaaGreat
namespace Go.Ev.YtomfgcgnepfmjaaGreat
open Go Go.Ev
set_option maxRecDepth 100000
structure K5 (A B F pre once:List Nat):Prop where
 lA:A.length=64
 xA:∀ y∈A,y<256
 lB:B.length=64
 xB:∀ y∈B,y<256
 lF:F.length=32
 xF:∀ y∈F,y<256
 lp:pre.length=32
 xp:∀ y∈pre,y<256
 lo:once.length=32
 xo:∀ y∈once,y<256
end Go.Ev.YtomfgcgnepfmjaaGreat
namespace Go.Ev.YtomfgcgnepfmjaaGreat
open Go Go.Ev
attribute [local congr] Jr J7 Jq J8 Jc
set_option maxRecDepth 100000
variable {n e m B i x:Nat} {nm t key sg pub:List Nat} {G G0 H:List Ob} {pv ka na sa da:Value} {L:List (List Nat)} {tl:List Value}
theorem kE_lt (n:Nat):∀ y∈kE n,y<256:=Up
theorem AH (n:Nat):(kE n).length=32:=Zu _ _ _
def OutS (K:Nat→Prop) (G:List Ob) (v:Value) (t:List Nat):Prop:=(∃ id,¬ K id∧v=.slice (some ⟨id,0,none⟩) t.length t.length∧G[id]?=some ⟨u8s t,true,true,true,1⟩)∨Rst K G v t
theorem OutS.append {K:Nat→Prop} {G:List Ob} {v x:Value} {t p:List Nat} (h:OutS K G v t) (hK:∀ i,K i→i<G.length) (hl:Go.Ev.lenV x=some p.length) (he:elemsOf G 1 p.length x=some (u8s p)) (hb:t.length+p.length≤2^47) :
  ∃ v' G' M,ZL 1 1 G v x=some (v',G',none,M)∧OutS K G' v' (t++p)∧(∀ i∈M,¬ K i)∧G.length≤G'.length∧∀ i,K i→G'[i]?=G[i]? := by
 rcases h with ⟨id,h1,rfl,h2⟩ | h
 ·rcases Jl p.length with hn | hn
  ·have:p=[]:=Zp hn
   subst this
   refine ⟨_,G,[],?_,.inl ⟨id,h1,by rw [QD],by rw [QD]; exact h2⟩,by simp,Ql _,fun _ _=>rfl⟩
   have he':elemsOf G 1 0 x=some []:=he
   have hl':Go.Ev.lenV x=some 0:=hl
   simp only [ZL,hl',he',Qk,if_true]
  ·have h8:elemsOf G 1 t.length (.slice (some ⟨id,0,none⟩) t.length t.length)=some (u8s t):=by
    simp [elemsOf,Zv h2 rfl,Qn]
    exact Qq (by rw [Qn]; exact Ql _)
   have hz:¬ p.length=0:=by omega
   have h3:(t.length+p.length)*1≤2^47∧0<1∧0<1:=⟨by omega,by decide,by decide⟩
   have h4:¬ (t.length+p.length≤t.length):=by omega
   refine ⟨.slice (some ⟨G.length,0,none⟩) (t++p).length (t++p).length,G++[⟨u8s (t++p),true,true,false,1⟩],[],?_,.inr (.own (fun hk=>by have:=hK _ hk; omega) (by rw [Qe (Ql _),Qv]; rfl) (by omega) (fun i _=>by rw [QA])),by simp,by simp,fun i hi=>by rw [Qa (hK i hi)]⟩
   simp only [ZL,hl,he,h8,Zv h2 rfl,Qk,if_neg hz,h3,h4,and_self,not_true_eq_false,if_false,if_true,Ob.grown,JB,Qi]
 ·obtain ⟨v',G',M,k1,k2,k3,k4,k5,-⟩:=h.append hK hl he hb
  exact ⟨v',G',M,k1,.inr k2,k3,k4,k5⟩
theorem OutS.setK {K:Nat→Prop} {G:List Ob} {v:Value} {t:List Nat} (h:OutS K G v t) {j:Nat} (hj:K j) (o:Ob):OutS K (G.set j o) v t:=by
 have hne:∀ id,¬ K id→(G.set j o)[id]?=G[id]? := fun id hid=>Qr (by rintro rfl; exact hid hj)
 rcases h with ⟨id,h1,h0,h2⟩ | h
 ·exact .inl ⟨id,h1,h0,by rw [hne id h1]; exact h2⟩
 ·refine .inr ?_
  cases h with
  | nil=>exact .nil
  | empty h1 h2=>exact .empty h1 (by rw [hne _ h1]; exact h2)
  | own h1 h2 h4 h3=>exact .own h1 (by rw [hne _ h1]; exact h2) h4 h3
theorem OutS.app {K:Nat→Prop} {G m:List Ob} {v:Value} {t:List Nat} (h:OutS K G v t):OutS K (G++m) v t:=by
 rcases h with ⟨id,h1,h0,h2⟩ | h
 ·exact .inl ⟨id,h1,h0,by rw [Qa (Qf.1 h2).1]; exact h2⟩
 ·exact .inr h.app
theorem OutS.shape {K:Nat→Prop} {G:List Ob} {v:Value} {t:List Nat} (h:OutS K G v t):∃ a c,v=.slice a t.length c:=by
 rcases h with ⟨id,-,rfl,-⟩ | h
 ·exact ⟨_,_,rfl⟩
 ·exact h.shape
theorem OutS.okVar {K:Nat→Prop} {G:List Ob} {v:Value} {t:List Nat} (h:OutS K G v t):okVar v=true:=by
 obtain ⟨a,c,rfl⟩:=h.shape; rfl
theorem OutS.cells {K:Nat→Prop} {G:List Ob} {v:Value} {t:List Nat} (h:OutS K G v t):v.cells.toList=[v]∧v.cells.size=1:=by
 obtain ⟨a,c,rfl⟩:=h.shape; exact ⟨rfl,rfl⟩
def wob (v:Value):Ob:=⟨[v],true,true,true,1⟩
structure Wr (K:Nat→Prop) (G:List Ob) (wid:Nat) (v:Value) (t:List Nat):Prop where
 ob:G[wid]?=some (wob v)
 kw:K wid
 kl:∀ i,K i→i<G.length
 out:OutS K G v t
theorem Wr.put {K:Nat→Prop} {G:List Ob} {wid:Nat} {v x:Value} {t p:List Nat} (h:Wr K G wid v t) (hl:Go.Ev.lenV x=some p.length) (he:elemsOf G 1 p.length x=some (u8s p)) (hb:t.length+p.length≤2^47) :
  ∃ v' G' M,ZL 1 1 G v x=some (v',G',none,M)∧G'[wid]?=some (wob v)∧v'.cells.toList=[v']∧v'.cells.size=1∧okVar v'=true∧Wr K (G'.set wid (wob v')) wid v' (t++p)∧(∀ i∈M,¬ K i)∧G.length≤G'.length∧∀ i,K i→i≠wid→(G'.set wid (wob v'))[i]?=G[i]? := by
 obtain ⟨v',G',M,k1,k2,k3,k4,k5⟩:=h.out.append h.kl hl he hb
 have hw:=(k5 wid h.kw).trans h.ob
 refine ⟨v',G',M,k1,hw,k2.cells.1,k2.cells.2,k2.okVar,⟨by rw [Qx (Qf.1 hw).1],h.kw,fun i hi=>by rw [Qs]; exact QF (h.kl i hi) k4,k2.setK h.kw _⟩,k3,k4,fun i hi hne => ?_⟩
 rw [Qr (fun e=>hne e.symm)]
 exact k5 i hi
theorem Wr.app {K:Nat→Prop} {G m:List Ob} {wid:Nat} {v:Value} {t:List Nat} (h:Wr K G wid v t):Wr K (G++m) wid v t :=
 ⟨by rw [Qa (Qf.1 h.ob).1]; exact h.ob,h.kw,fun i hi=>by rw [Qi]; exact QF (h.kl i hi) (Nat.le_add_right _ _),h.out.app⟩
theorem TE {K:Nat→Prop} {wid:Nat} {v:Value} (h:Wr K G wid v t) (hb:t.length≤2^46) :
  ∃ v' G' M,Zb T 83 [.pointer (some ⟨wid,0,none⟩),.int .u32 n] G=some (.tuple #[],G',M)∧Wr K G' wid v' (t++id4 n)∧G.length≤G'.length∧(∀ i∈M,i=wid∨¬ K i)∧∀ i,K i→i≠wid→G'[i]?=G[i]? := by
 have s1:(n:Int).fdiv (2^min 24 IntKind.u32.bits)=((n/2^24:Nat):Int):=Ds (r:=24) (by decide)
 have s2:(n:Int).fdiv (2^min 16 IntKind.u32.bits)=((n/2^16:Nat):Int):=Ds (r:=16) (by decide)
 have s3:(n:Int).fdiv (2^min 8 IntKind.u32.bits)=((n/2^8:Nat):Int):=Ds (r:=8) (by decide)
 have w1:=Uc (n/2^24)
 have w2:=Uc (n/2^16)
 have w3:=Uc (n/2^8)
 have w4:=Uc n
 have f2:∀ x0 x1 x2 x3:Nat,fillL [Value.int .u8 0,.int .u8 0,.int .u8 0,.int .u8 0] [(0,1,.int .u8 (x0:Int)),(1,1,.int .u8 (x1:Int)),(2,1,.int .u8 (x2:Int)),(3,1,.int .u8 (x3:Int))]=some (u8s [x0,x1,x2,x3]):=fun _ _ _ _=>rfl
 have hx:(G++[(⟨u8s (id4 n),true,true,true,1⟩:Ob)])[G.length]?=some ⟨u8s (id4 n),true,true,true,1⟩:=by rw [Qe (Ql _),Qv]; rfl
 have he:elemsOf (G++[(⟨u8s (id4 n),true,true,true,1⟩:Ob)]) 1 (id4 n).length (.slice (some ⟨G.length,0,none⟩) 4 4)=some (u8s (id4 n)):=by
  exact Ys (c:=4) hx
 obtain ⟨v',G',M,k1,k2,k3,k4,k5,k6,k7,k8,k9⟩:=(h.app (m:=[(⟨u8s (id4 n),true,true,true,1⟩:Ob)])).put (p:=id4 n) (x := .slice (some ⟨G.length,0,none⟩) 4 4) rfl he (by show _+4≤_; omega)
 rw [Qi] at k8
 refine ⟨v',_,Qz G.length (Qz G.length [] M) [wid],?_,k6,by rw [Qs]; omega,?_,fun i hi hne => ?_⟩
 ·have o1:=h.ob
  have o2:(G++[(⟨u8s (id4 n),true,true,true,1⟩:Ob)])[wid]?=some (wob v):=h.app.ob
  unfold wob id4 at *
  generalize n/2^24%256=x0 at *
  generalize n/2^16%256=x1 at *
  generalize n/2^8%256=x2 at *
  generalize n%256=x3 at *
  generalize n/2^24=y0 at *
  generalize n/2^16=y1 at *
  generalize n/2^8=y2 at *
  have sp:∀ a b:Value,splice [a] 0 [b]=[b]:=fun _ _=>rfl
  rw [Q6 (fn:=nA) rfl]
  simp only [nA,Q0,quiet,cW,↓pW,reduceCtorEq,seval,-Qb,f2,s1,s2,s3,w1,w2,w3,w4,o1,o2,k1,k2,k3,k4,k5,sp,QB,QX,Zg,ZU,Zh,Qn,Qm,ZX]
  rfl
 ·intro i hi
  rcases Zl hi with h' | h'
  ·rcases Zl h' with h' | h'
   ·cases h'
   ·exact .inr (k7 i h')
  ·exact .inl (Zz.1 h')
 ·rw [k9 i hi hne,Qa (h.kl i hi)]
def shp (k:Int):Option (Nat×Nat×Nat×Bool) :=
 if k=1 then some (4,2,1,false) else if k=2 then some (3,2,0,true) else if k=3 then some (1,2,0,true) else if k=4 then some (3,2,0,false) else if k=5 then some (1,2,1,true) else if k=6 then some (3,3,1,true) else if k=7 then some (1,1,0,true) else none
def shV (a b c:Nat) (d:Bool):List Value:=[.int .i64 a,.int .i64 b,.int .i64 c,.bool d]
theorem dB (k:Int):Z4 T 82 [.int .i64 k]=some (match shp k with | some (a,b,c,d)=>.tuple #[.agg (shV a b c d).toArray,.int .i64 0] | none=>.tuple #[.agg (shV 0 0 0 false).toArray,.int .i64 110]):=by
 have hf:∀ (a b c:Int) (d:Bool),fillL [Value.int .i64 0,.int .i64 0,.int .i64 0,.bool false] [(0,1,.int .i64 a),(1,1,.int .i64 b),(2,1,.int .i64 c),(3,1,.bool d)]=some [Value.int .i64 a,.int .i64 b,.int .i64 c,.bool d]:=fun _ _ _ _=>rfl
 have f0:fillL [Value.int .i64 0,.int .i64 0,.int .i64 0,.bool false] []=some [Value.int .i64 0,.int .i64 0,.int .i64 0,.bool false]:=rfl
 have im:∀ k,Qz 0 [] [k]=[]:=fun k=>QN (by simp)
 have sp:∀ (a b c d e f g h:Value),splice [a,b,c,d] 0 [e,f,g,h]=[e,f,g,h]:=fun _ _ _ _ _ _ _ _=>rfl
 apply Kd
 by_cases h:k=1∨k=2∨k=3∨k=4∨k=5∨k=6∨k=7
 ·rcases h with rfl | rfl | rfl | rfl | rfl | rfl | rfl <;>
  ·apply Zs
   rw [Q6 (fn:=cC) rfl]
   simp only [cC,Q0,quiet,cW,↓pW,reduceCtorEq,seval,-Qb,hf,f0,im,sp]
   rfl
 simp only [not_or] at h
 obtain ⟨h1,h2,h3,h4,h5,h6,h7⟩:=h
 have e:shp k=none:=by unfold shp; simp only [h1,h2,h3,h4,h5,h6,h7,if_false]
 rw [e]
 apply Zs
 rw [Q6 (fn:=cC) rfl]
 simp only [cC,Q0,quiet,cW,↓pW,reduceCtorEq,seval,-Qb,hf,f0,im,sp,beq_eq_false_iff_ne.2 h1,beq_eq_false_iff_ne.2 h2,beq_eq_false_iff_ne.2 h3,beq_eq_false_iff_ne.2 h4,beq_eq_false_iff_ne.2 h5,beq_eq_false_iff_ne.2 h6,beq_eq_false_iff_ne.2 h7]
 rfl
theorem Xs {L:List (List Nat)} (hL:∀ x∈L,x.length=n):L.flatten.length=L.length*n:=by
 induction L with
 | nil=>simp
 | cons a M ih=>rw [QO,Qi,ih (fun x hx=>hL x (YA _ hx)),hL a (by simp),Zc,Hp,Nat.add_comm]
theorem KB {P:List Nat} (hL:∀ x∈L,x.length=n) (hi:L[i]?=some P):Q2 n (Z9 (i*n) (u8s L.flatten))=u8s P∧i*n+n≤(u8s L.flatten).length:=by
 have h1:=Qf.1 hi
 have lP:=hL P (Qy hi)
 have e1:L.flatten=(L.take i).flatten++(P++(L.drop (i+1)).flatten):=by
  rw [←QO,←Zd]
  congr 1
  conv=>lhs; rw [←J1 i L,List.drop_eq_getElem_cons h1.1,h1.2]
 have e2:(L.take i).flatten.length=i*n:=by
  rw [Xs (n:=n) fun x hx=>hL x (QU hx),Q4,Za (Nat.le_of_lt h1.1)]
 constructor
 ·rw [e1,JB,JB,←e2,←Qn,Pa,←lP,←Qn P,List.take_left]
 ·rw [Qn,Xs hL]
  have:=Nat.mul_le_mul_right n (Nat.succ_le_of_lt h1.1)
  rwa [Hp] at this
def Sq (G:List Ob) (es:Nat) (cs:List Value) (n:Nat) (v:Value):Prop:=(v=.slice none 0 0∧n=0∧cs=[])∨∃ id c w e s,v=.slice (some ⟨id,0,none⟩) n c∧G[id]?=some ⟨cs,true,w,e,s⟩∧cs.length=n*es
theorem Sq.app {G m:List Ob} {es:Nat} {cs:List Value} {n:Nat} {v:Value} (h:Sq G es cs n v):Sq (G++m) es cs n v:=by
 rcases h with h | ⟨id,c,w,e,s,h1,h2,h3⟩
 ·exact .inl h
 ·exact .inr ⟨id,c,w,e,s,h1,by rw [Qa (Qf.1 h2).1]; exact h2,h3⟩
theorem Sq.shape {G:List Ob} {es:Nat} {cs:List Value} {n:Nat} {v:Value} (h:Sq G es cs n v):∃ a c,v=.slice a n c:=by
 rcases h with ⟨rfl,rfl,-⟩ | ⟨id,c,w,e,s,rfl,-⟩
 ·exact ⟨_,_,rfl⟩
 ·exact ⟨_,_,rfl⟩
def KE (B i:Nat):Prop:=i<B+4∧i≠B+2
def Wd (B:Nat) (G0 G:List Ob) (t:List Nat):Prop:=∃ v,Wr (KE B) G (B+3) v t∧∀ i,KE B i→i≠B+3→G[i]?=G0[i]?
theorem YT {B:Nat} {M:List Nat} (h:∀ i∈M,i=B+3∨¬ KE B i):Qz B [] M=[]:=QN fun i hi=>by
 rcases h i hi with h | h
 ·omega
 ·rcases Z1 i B with h' | h'
  ·exact absurd ⟨by omega,by omega⟩ h
  ·exact h'
def _root_.Go.Value.slBlock (v:Value) (id:Nat):Prop:=match v with | .slice (some a) _ _=>a.block=id | _=>False
def Tl (B n:Nat) (pv:Value) (i:Nat) (G:List Ob) (ex:Env):St:=⟨[(1,.pointer (some ⟨B,0,none⟩)),(4,.pointer (some ⟨B+1,0,none⟩)),(6,.pointer (some ⟨B+3,0,none⟩)),(68,pv),(69,.int .i64 n),(70,.int .i64 i)]++ex,G,[]⟩
theorem bd {P:List Nat} (hs:Sq G0 32 (u8s L.flatten) n pv) (hB:∀ id,(∃ o,G0[id]?=some o)→pv.slBlock id→id<B) (hL:∀ x∈L,x.length=32) (hi:L[i]?=some P) (hin:i<n) (hn:n≤1000) (lt:t.length≤2^40) (h:Wd B G0 G t) :
  ∃ G',Q5 T B UW (Tl B n pv i G [])=some (.normal,Tl B n pv (i+1) G' [])∧Wd B G0 G' (t++P):=by
 rcases hs with ⟨-,rfl,-⟩ | ⟨id,c,w,e,s,rfl,h2,h3⟩
 ·omega
 obtain ⟨v,hw,hf⟩:=h
 have lP:=hL P (Qy hi)
 obtain ⟨c1,c2⟩:=KB hL hi
 have hid:id<B:=hB id ⟨_,h2⟩ rfl
 have g0:∀ m,(G++m)[id]?=some ⟨u8s L.flatten,true,w,e,s⟩:=fun m=>by
  have:=(hf id ⟨by omega,by omega⟩ (by omega)).trans h2
  rw [Qa (Qf.1 this).1]; exact this
 have g00:=g0 []
 rw [QD] at g00
 have hx:(G++[(⟨u8s P,true,true,true,1⟩:Ob)])[G.length]?=some ⟨u8s P,true,true,true,1⟩:=by rw [Qe (Ql _),Qv]; rfl
 have he:=Ys (c:=32) hx
 rw [lP] at he
 obtain ⟨v',G',M,k1,k2,k3,k4,k5,k6,k7,k8,k9⟩:=(hw.app (m:=[(⟨u8s P,true,true,true,1⟩:Ob)])).put (p:=P) (x := .slice (some ⟨G.length,0,none⟩) 32 32) (by rw [lP]; rfl) (by rw [lP]; exact he) (by rw [lP]; omega)
 refine ⟨_,?_,v',k6,fun j hj hne=>by rw [k9 j hj hne,Qa (hw.kl j hj)]; exact hf j hj hne⟩
 have o1:=hw.ob
 have o2:(G++[(⟨u8s P,true,true,true,1⟩:Ob)])[B+3]?=some (wob v):=hw.app.ob
 have hz:Qc 32 (Value.int .u8 0)=u8s (Qc 32 0):=by simp [u8s]
 have lz:(Qc 32 0).length=32:=Qm
 have sp:∀ a b:Value,splice [a] 0 [b]=[b]:=fun _ _=>rfl
 have b3:ZG 32 32 none none none=some (0,32,32):=rfl
 have e1:((i:Int)<(n:Int))=True:=eq_true (by omega)
 have w3:IntKind.i64.wrap ((i:Int)+1)=((i+1:Nat):Int):=Z2 (b:=1) (by omega)
 have im:Qz B [] M=[]:=YT fun j hj=>.inr (k7 j hj)
 have im1:Qz B [] [B+3]=[]:=QN (by simp)
 have im2:Qz B [] [G.length]=[]:=QN (by have:=hw.kl (B+3) ⟨by omega,by omega⟩; simp; omega)
 unfold wob at *
 clear h3 hf hL hB hw hi k6 k9 he hx
 generalize Qc 32 0=Z,u8s L.flatten=LF at *
 generalize hik:i*32=ik at *
 generalize hi1:i+1=i1 at *
 simp only [Tl,UW,Q0,quiet,cW,↓pW,reduceCtorEq,seval,-Qb,hz,hik,hi1,e1,w3,g0,g00,c1,c2,o1,o2,k1,k2,k3,k4,k5,sp,b3,im,im1,im2,lP,lz,QB,QX,Zg,ZU,Zh,Qn,Qm,ZX]
theorem OC (hs:Sq G0 32 (u8s L.flatten) n pv) (hB:∀ id,(∃ o,G0[id]?=some o)→pv.slBlock id→id<B) (hL:∀ x∈L,x.length=32) (hn:L.length=n) (hm:n≤1000) (lt:t.length≤2^30) (h:Wd B G0 G t) :
  ∃ G',Q5 T B (.block 1 (.loop UW)) (Tl B n pv 0 G [])=some (.normal,Tl B n pv n G' [(71,.bool false)])∧Wd B G0 G' (t++L.flatten):=by
 obtain ⟨st,hloop,G',rfl,r⟩:=QY (T:=T) (base:=B) (id:=1) (body:=UW)
  (fun k st=>∃ G,st=Tl B n pv k G []∧Wd B G0 G (t++(L.take k).flatten))
  (Q:=fun st=>∃ G,st=Tl B n pv n G [(71,.bool false)]∧Wd B G0 G (t++L.flatten))
  n (s:=Tl B n pv 0 G []) ⟨G,rfl,by rw [Jh,Zq,QD]; exact h⟩
  (fun k st hk hst=>by
   obtain ⟨G1,rfl,h1⟩:=hst
   obtain ⟨P,hP⟩:∃ P,L[k]?=some P:=⟨_,Qg (by omega)⟩
   have lk:(L.take k).flatten.length=k*32:=by rw [Xs (n:=32) fun x hx=>hL x (QU hx),Q4,Za (by omega)]
   obtain ⟨G2,b0,b1⟩:=bd hs hB hL hP hk hm (by rw [Qi,lk]; omega) h1
   refine ⟨_,b0,G2,rfl,?_⟩
   rw [Zr,hP,Zd,←Qw]
   simpa using b1)
  (fun st hst=>by
   obtain ⟨G1,rfl,h1⟩:=hst
   refine ⟨_,?_,G1,rfl,by rwa [Qq (by omega)] at h1⟩
   simp only [Tl,UW,Q0,quiet,cW,↓pW,reduceCtorEq,seval,-Qb])
 exact ⟨G',hloop,r⟩
def Tj (B n:Nat) (pv:Value) (i:Nat) (G:List Ob) (ex:Env):St:=⟨[(1,.pointer (some ⟨B,0,none⟩)),(4,.pointer (some ⟨B+1,0,none⟩)),(6,.pointer (some ⟨B+3,0,none⟩)),(91,pv),(92,.int .i64 n),(93,.int .i64 i)]++ex,G,[]⟩
theorem bb {P:List Nat} (hs:Sq G0 64 (u8s L.flatten) n pv) (hB:∀ id,(∃ o,G0[id]?=some o)→pv.slBlock id→id<B) (hL:∀ x∈L,x.length=64) (hi:L[i]?=some P) (hin:i<n) (hn:n≤1000) (lt:t.length≤2^40) (h:Wd B G0 G t) :
  ∃ G',Q5 T B UY (Tj B n pv i G [])=some (.normal,Tj B n pv (i+1) G' [])∧Wd B G0 G' (t++P):=by
 rcases hs with ⟨-,rfl,-⟩ | ⟨id,c,w,e,s,rfl,h2,h3⟩
 ·omega
 obtain ⟨v,hw,hf⟩:=h
 have lP:=hL P (Qy hi)
 obtain ⟨c1,c2⟩:=KB hL hi
 have hid:id<B:=hB id ⟨_,h2⟩ rfl
 have g0:∀ m,(G++m)[id]?=some ⟨u8s L.flatten,true,w,e,s⟩:=fun m=>by
  have:=(hf id ⟨by omega,by omega⟩ (by omega)).trans h2
  rw [Qa (Qf.1 this).1]; exact this
 have g00:=g0 []
 rw [QD] at g00
 have hx:(G++[(⟨u8s P,true,true,true,1⟩:Ob)])[G.length]?=some ⟨u8s P,true,true,true,1⟩:=by rw [Qe (Ql _),Qv]; rfl
 have he:=Ys (c:=64) hx
 rw [lP] at he
 obtain ⟨v',G',M,k1,k2,k3,k4,k5,k6,k7,k8,k9⟩:=(hw.app (m:=[(⟨u8s P,true,true,true,1⟩:Ob)])).put (p:=P) (x := .slice (some ⟨G.length,0,none⟩) 64 64) (by rw [lP]; rfl) (by rw [lP]; exact he) (by rw [lP]; omega)
 refine ⟨_,?_,v',k6,fun j hj hne=>by rw [k9 j hj hne,Qa (hw.kl j hj)]; exact hf j hj hne⟩
 have o1:=hw.ob
 have o2:(G++[(⟨u8s P,true,true,true,1⟩:Ob)])[B+3]?=some (wob v):=hw.app.ob
 have hz:Qc 64 (Value.int .u8 0)=u8s (Qc 64 0):=by simp [u8s]
 have lz:(Qc 64 0).length=64:=Qm
 have sp:∀ a b:Value,splice [a] 0 [b]=[b]:=fun _ _=>rfl
 have b3:ZG 64 64 none none none=some (0,64,64):=rfl
 have e1:((i:Int)<(n:Int))=True:=eq_true (by omega)
 have w3:IntKind.i64.wrap ((i:Int)+1)=((i+1:Nat):Int):=Z2 (b:=1) (by omega)
 have im:Qz B [] M=[]:=YT fun j hj=>.inr (k7 j hj)
 have im1:Qz B [] [B+3]=[]:=QN (by simp)
 have im2:Qz B [] [G.length]=[]:=QN (by have:=hw.kl (B+3) ⟨by omega,by omega⟩; simp; omega)
 unfold wob at *
 clear h3 hf hL hB hw hi k6 k9 he hx
 generalize Qc 64 0=Z,u8s L.flatten=LF at *
 generalize hik:i*64=ik at *
 generalize hi1:i+1=i1 at *
 simp only [Tj,UY,Q0,quiet,cW,↓pW,reduceCtorEq,seval,-Qb,hz,hik,hi1,e1,w3,g0,g00,c1,c2,o1,o2,k1,k2,k3,k4,k5,sp,b3,im,im1,im2,lP,lz,QB,QX,Zg,ZU,Zh,Qn,Qm,ZX]
theorem O9 (hs:Sq G0 64 (u8s L.flatten) n pv) (hB:∀ id,(∃ o,G0[id]?=some o)→pv.slBlock id→id<B) (hL:∀ x∈L,x.length=64) (hn:L.length=n) (hm:n≤1000) (lt:t.length≤2^30) (h:Wd B G0 G t) :
  ∃ G',Q5 T B (.block 5 (.loop UY)) (Tj B n pv 0 G [])=some (.normal,Tj B n pv n G' [(94,.bool false)])∧Wd B G0 G' (t++L.flatten):=by
 obtain ⟨st,hloop,G',rfl,r⟩:=QY (T:=T) (base:=B) (id:=5) (body:=UY)
  (fun k st=>∃ G,st=Tj B n pv k G []∧Wd B G0 G (t++(L.take k).flatten))
  (Q:=fun st=>∃ G,st=Tj B n pv n G [(94,.bool false)]∧Wd B G0 G (t++L.flatten))
  n (s:=Tj B n pv 0 G []) ⟨G,rfl,by rw [Jh,Zq,QD]; exact h⟩
  (fun k st hk hst=>by
   obtain ⟨G1,rfl,h1⟩:=hst
   obtain ⟨P,hP⟩:∃ P,L[k]?=some P:=⟨_,Qg (by omega)⟩
   have lk:(L.take k).flatten.length=k*64:=by rw [Xs (n:=64) fun x hx=>hL x (QU hx),Q4,Za (by omega)]
   obtain ⟨G2,b0,b1⟩:=bb hs hB hL hP hk hm (by rw [Qi,lk]; omega) h1
   refine ⟨_,b0,G2,rfl,?_⟩
   rw [Zr,hP,Zd,←Qw]
   simpa using b1)
  (fun st hst=>by
   obtain ⟨G1,rfl,h1⟩:=hst
   refine ⟨_,?_,G1,rfl,by rwa [Qq (by omega)] at h1⟩
   simp only [Tj,UY,Q0,quiet,cW,↓pW,reduceCtorEq,seval,-Qb])
 exact ⟨G',hloop,r⟩
def Tk (B n:Nat) (pv:Value) (i:Nat) (G:List Ob) (ex:Env):St:=⟨[(1,.pointer (some ⟨B,0,none⟩)),(4,.pointer (some ⟨B+1,0,none⟩)),(6,.pointer (some ⟨B+3,0,none⟩)),(81,pv),(82,.int .i64 n),(83,.int .i64 i)]++ex,G,[]⟩
def ns32 (L:List Nat):List Value:=L.map fun n=>.int .u32 (n:Nat)
theorem bc {L:List Nat} (hs:Sq G0 1 (ns32 L) n pv) (hB:∀ id,(∃ o,G0[id]?=some o)→pv.slBlock id→id<B) (hi:L[i]?=some x) (hin:i<n) (hn:n≤1000) (lt:t.length≤2^40) (h:Wd B G0 G t) :
  ∃ G',Q5 T B UX (Tk B n pv i G [])=some (.normal,Tk B n pv (i+1) G' [])∧Wd B G0 G' (t++id4 x):=by
 rcases hs with ⟨-,rfl,-⟩ | ⟨id,c,w,e,s,rfl,h2,h3⟩
 ·omega
 obtain ⟨v,hw,hf⟩:=h
 have hid:id<B:=hB id ⟨_,h2⟩ rfl
 have g0:G[id]?=some ⟨ns32 L,true,w,e,s⟩:=(hf id ⟨by omega,by omega⟩ (by omega)).trans h2
 have c1:(ns32 L)[i]?=some (.int .u32 (x:Nat)):=by rw [ns32,Jv,hi]; rfl
 obtain ⟨v',G',M,k1,k2,k3,k4,k5⟩:=TE (n:=x) hw (by omega)
 refine ⟨_,?_,v',k2,fun j hj hne=>by rw [k5 j hj hne]; exact hf j hj hne⟩
 have e1:((i:Int)<(n:Int))=True:=eq_true (by omega)
 have w3:IntKind.i64.wrap ((i:Int)+1)=((i+1:Nat):Int):=Z2 (b:=1) (by omega)
 have im:Qz B [] M=[]:=YT k4
 have j1:i*1=i:=Xc i
 clear h3 hf hB hw hi k2 k4 k5
 generalize ns32 L=LF at *
 generalize hi1:i+1=i1 at *
 simp only [Tk,UX,Q0,quiet,cW,↓pW,reduceCtorEq,seval,-Qb,hi1,j1,e1,w3,g0,c1,k1,im,QB,QX,Zg,ZU,Zh,Qn,Qm,ZX]
theorem OB {L:List Nat} (hs:Sq G0 1 (ns32 L) n pv) (hB:∀ id,(∃ o,G0[id]?=some o)→pv.slBlock id→id<B) (hn:L.length=n) (hm:n≤1000) (lt:t.length≤2^30) (h:Wd B G0 G t) :
  ∃ G',Q5 T B (.block 3 (.loop UX)) (Tk B n pv 0 G [])=some (.normal,Tk B n pv n G' [(84,.bool false)])∧Wd B G0 G' (t++(L.map id4).flatten):=by
 obtain ⟨st,hloop,G',rfl,r⟩:=QY (T:=T) (base:=B) (id:=3) (body:=UX)
  (fun k st=>∃ G,st=Tk B n pv k G []∧Wd B G0 G (t++((L.take k).map id4).flatten))
  (Q:=fun st=>∃ G,st=Tk B n pv n G [(84,.bool false)]∧Wd B G0 G (t++(L.map id4).flatten))
  n (s:=Tk B n pv 0 G []) ⟨G,rfl,by rw [Jh,JG,Zq,QD]; exact h⟩
  (fun k st hk hst=>by
   obtain ⟨G1,rfl,h1⟩:=hst
   obtain ⟨x,hx⟩:∃ x,L[k]?=some x:=⟨_,Qg (by omega)⟩
   have lk:((L.take k).map id4).flatten.length=k*4:=by
    rw [Xs (n:=4) fun x hx=>by obtain ⟨y,-,rfl⟩:=JQ.1 hx; rfl,Xg,Q4,Za (by omega)]
   obtain ⟨G2,b0,b1⟩:=bc hs hB hx hk hm (by rw [Qi,lk]; omega) h1
   refine ⟨_,b0,G2,rfl,?_⟩
   rw [Zr,hx,XJ,Zd,←Qw]
   simpa using b1)
  (fun st hst=>by
   obtain ⟨G1,rfl,h1⟩:=hst
   refine ⟨_,?_,G1,rfl,by rwa [Qq (by omega)] at h1⟩
   simp only [Tk,UX,Q0,quiet,cW,↓pW,reduceCtorEq,seval,-Qb])
 exact ⟨G',hloop,r⟩
theorem OutS.toK {K K':Nat→Prop} {G:List Ob} {v:Value} {t:List Nat} (h:OutS K G v t) (hk:∀ i,¬ K i→¬ K' i):OutS K' G v t:=by
 rcases h with ⟨id,h1,h0,h2⟩ | h
 ·exact .inl ⟨id,hk _ h1,h0,h2⟩
 ·exact .inr (h.toK hk)
theorem Sq.lt {G:List Ob} {es:Nat} {cs:List Value} {n:Nat} {v:Value} (h:Sq G es cs n v) (id:Nat) (hb:v.slBlock id):id<G.length:=by
 rcases h with ⟨rfl,-⟩ | ⟨j,c,w,e,s,rfl,h2,-⟩
 ·exact hb.elim
 ·have:j=id:=hb
  subst this
  exact (Qf.1 h2).1
structure DPart (H:List Ob) (v:Value) (l:List Nat):Prop where
 shape:∃ (a:Option Addr) (c:Nat),v=.slice a l.length c
 reads:∀ G:List Ob,(∀ i,i<H.length→G[i]?=H[i]?)→elemsOf G 1 l.length v=some (u8s l)
theorem DPart.app {H m:List Ob} {v:Value} {l:List Nat} (h:DPart H v l):DPart (H++m) v l :=
 ⟨h.shape,fun G hg=>h.reads G fun i hi=>(hg i (by rw [Qi]; omega)).trans (Qa hi)⟩
structure FrV (H:List Ob) (ka na sa da:Value) (kl:List (List Nat)) (nl:List Nat) (sl:List (List Nat)) (dl:List Nat):Prop where
 kz:Sq H 32 (u8s kl.flatten) kl.length ka
 kx:∀ x∈kl,x.length=32
 nz:Sq H 1 (ns32 nl) nl.length na
 sz:Sq H 64 (u8s sl.flatten) sl.length sa
 sx:∀ x∈sl,x.length=64
 dz:DPart H da dl
def frB (k:Int) (kl:List (List Nat)) (nl:List Nat) (sl:List (List Nat)) (dl:List Nat) (d:Bool):List Nat:=[k.toNat]++kl.flatten++(nl.map id4).flatten++sl.flatten++(if d then id4 dl.length++dl else [])
def frE (k:Int) (a b c n:Nat):Int:=match shp k with
 | none=>110
 | some (x,y,z,d)=>if a=x∧b=y∧c=z∧(d=true∨n=0) then (if 16384<n then 2 else 0) else 110
theorem PJ {k:Int} {y z:Nat} {d:Bool} (h:shp k=some (x,y,z,d)):IntKind.u8.wrap k=((k.toNat:Nat):Int)∧k.toNat<256∧x≤4∧y≤3∧z≤1:=by
 unfold shp at h
 repeat' split at h
 all_goals first | (cases h; subst_vars; decide) | cases h
theorem UG {k:Int} {kl:List (List Nat)} {nl:List Nat} {sl:List (List Nat)} {dl:List Nat} (h:FrV H ka na sa da kl nl sl dl) :
  ∃ v l,Zb T 38 [.agg #[.int .i64 k,ka,na,sa,da]] H=some (.tuple #[v,.int .i64 (frE k kl.length nl.length sl.length dl.length)],H++l,[]) ∧
   ((∀ x y z d,shp k=some (x,y,z,d)→frE k kl.length nl.length sl.length dl.length=0→OutS (LtN H.length) (H++l) v (frB k kl nl sl dl d))∧(frE k kl.length nl.length sl.length dl.length≠0→v=.slice none 0 0)):=by
 have hsv:=dB k
 obtain ⟨_,_,sk⟩:=h.kz.shape
 obtain ⟨_,_,sn⟩:=h.nz.shape
 obtain ⟨_,_,ss⟩:=h.sz.shape
 obtain ⟨_,_,sd⟩:=h.dz.shape
 have n1:vLen false ka=some (.int .i64 kl.length):=by rw [sk]; rfl
 have n2:vLen false na=some (.int .i64 nl.length):=by rw [sn]; rfl
 have n3:vLen false sa=some (.int .i64 sl.length):=by rw [ss]; rfl
 have n4:vLen false da=some (.int .i64 dl.length):=by rw [sd]; rfl
 have hd4:Go.Ev.lenV da=some dl.length:=by rw [sd]; rfl
 clear sk sn ss sd
 have z4:fillL [Value.int .i64 0,.int .i64 0,.int .i64 0,.bool false] []=some [Value.int .i64 0,.int .i64 0,.int .i64 0,.bool false]:=rfl
 have sp4:∀ (a b c d e f g h:Value),splice [a,b,c,d] 0 [e,f,g,h]=[e,f,g,h]:=fun _ _ _ _ _ _ _ _=>rfl
 have g0:∀ o1:Ob,(H++[o1])[H.length]?=some o1:=fun _=>by rw [Qe (Ql _),Qv]; rfl
 have g00:∀ o1 o2:Ob,(H++[o1,o2])[H.length]?=some o1:=fun _ _=>by rw [Qe (Ql _),Qv]; rfl
 have g01:∀ o1 o2:Ob,(H++[o1,o2])[H.length+1]?=some o2:=fun _ _=>by rw [Qe (by omega),Qp]; rfl
 have t01:∀ o1 o2 o:Ob,(H++[o1,o2]).set (H.length+1) o=H++[o1,o]:=fun _ _ _=>by rw [Q9 _ _ (by omega),Qp]; rfl
 have im1:∀ i,Qz H.length [] [H.length+i]=[]:=fun i=>QN (by simp)
 have ok1:∀ L:List Value,(Value.agg L.toArray).cells.toList=L:=fun _=>rfl
 have ok2:∀ L:List Value,(Value.agg L.toArray).cells.size=L.length:=fun _=>rfl
 have ok3:∀ L:List Value,okVar (Value.agg L.toArray)=true:=fun _=>rfl
 have cl0:∀ v:Value,[Value.int .i64 k,ka,na,sa,da][0]?=some (.int .i64 k):=fun _=>rfl
 have bad:∀ c:Int,c≠0→frE k kl.length nl.length sl.length dl.length=c→(∃ l,Zb T 38 [.agg #[.int .i64 k,ka,na,sa,da]] H=some (.tuple #[.slice none 0 0,.int .i64 c],H++l,[])) →
   ∃ v l,Zb T 38 [.agg #[.int .i64 k,ka,na,sa,da]] H=some (.tuple #[v,.int .i64 (frE k kl.length nl.length sl.length dl.length)],H++l,[]) ∧
    ((∀ x y z d,shp k=some (x,y,z,d)→frE k kl.length nl.length sl.length dl.length=0→OutS (LtN H.length) (H++l) v (frB k kl nl sl dl d))∧(frE k kl.length nl.length sl.length dl.length≠0→v=.slice none 0 0)):=by
  rintro c hc he ⟨l,hl⟩
  exact ⟨_,l,by rw [he]; exact hl,fun _ _ _ _ _ h0=>absurd (he.symm.trans h0) hc,fun _=>rfl⟩
 obtain hsh | ⟨x,y,z,d,hsh⟩:shp k=none∨∃ x y z d,shp k=some (x,y,z,d):=by
  rcases shp k with _ | ⟨x,y,z,d⟩
  ·exact .inl rfl
  ·exact .inr ⟨x,y,z,d,rfl⟩
 ·have rfv:rf (.tuple #[.agg #[Value.int .i64 0,.int .i64 0,.int .i64 0,.bool false],.int .i64 110])=true:=rfl
  rw [hsh] at hsv
  have hv:shV 0 0 0 false=[Value.int .i64 0,.int .i64 0,.int .i64 0,.bool false]:=rfl
  simp only [hv] at hsv
  refine bad 110 (by decide) (by unfold frE; rw [hsh]) (Zs ?_ ?_)
  rotate_left
  ·rw [Q6 (fn:=U0) rfl]
   simp only [U0,Q0,quiet,cW,↓pW,reduceCtorEq,seval,-Qb,hsv,rfv,g0,g00,g01,t01,im1,ok1,ok2,ok3,n1,n2,n3,n4,z4,sp4]
   rfl
 ·rw [hsh] at hsv
  simp only [shV] at hsv
  have rfv:rf (.tuple #[.agg #[Value.int .i64 x,.int .i64 y,.int .i64 z,.bool d],.int .i64 0])=true:=rfl
  obtain ⟨wk,kb,lx,ly,lz⟩:=PJ hsh
  by_cases q1:kl.length=x
  ·have b1:(((kl.length:Nat):Int) != (x:Int))=false:=by simp; omega
   by_cases q2:nl.length=y
   ·have b2:(((nl.length:Nat):Int) != (y:Int))=false:=by simp; omega
    by_cases q3:sl.length=z
    ·have b3:(((sl.length:Nat):Int) != (z:Int))=false:=by simp; omega
     obtain ⟨G0,hG0⟩:∃ X,X=H++[(⟨[.int .i64 k,ka,na,sa,da],true,true,true,1⟩:Ob),⟨[.int .i64 x,.int .i64 y,.int .i64 z,.bool d],true,true,true,1⟩,⟨u8s [k.toNat],true,true,true,1⟩,wob (.slice (some ⟨H.length+2,0,none⟩) 1 1)]:=⟨_,rfl⟩
     have lG0:G0.length=H.length+4:=by rw [hG0]; simp
     have gi:∀ j o,[(⟨[.int .i64 k,ka,na,sa,da],true,true,true,1⟩:Ob),⟨[.int .i64 x,.int .i64 y,.int .i64 z,.bool d],true,true,true,1⟩,⟨u8s [k.toNat],true,true,true,1⟩,wob (.slice (some ⟨H.length+2,0,none⟩) 1 1)][j]?=some o→G0[H.length+j]?=some o:=fun j o hj=>by rw [hG0,Qe (by omega),Qp]; exact hj
     have inv0:Wd H.length G0 G0 [k.toNat]:=⟨_,⟨gi 3 _ rfl,⟨by omega,by omega⟩,fun i hi=>by rw [lG0]; exact hi.1,.inl ⟨H.length+2,fun hh=>hh.2 rfl,rfl,gi 2 _ rfl⟩⟩,fun _ _ _=>rfl⟩
     have hap:∀ {es cs n v},Sq H es cs n v→Sq G0 es cs n v:=fun hh=>by rw [hG0]; exact hh.app
     have lkf:kl.flatten.length≤1000:=by rw [Xs h.kx]; omega
     have lnf:(nl.map id4).flatten.length≤1000:=by rw [Xs (n:=4) fun x hx=>by obtain ⟨y,-,rfl⟩:=JQ.1 hx; rfl,Xg]; omega
     have lsf:sl.flatten.length≤1000:=by rw [Xs h.sx]; omega
     obtain ⟨G1,m1,i1⟩:=OC (hap h.kz) (fun id _ hb=>h.kz.lt id hb) h.kx rfl (by omega) (by show 1≤_; decide) inv0
     obtain ⟨G2,m2,i2⟩:=OB (hap h.nz) (fun id _ hb=>h.nz.lt id hb) rfl (by omega) (by simp only [Qi,Zc,Zt]; omega) i1
     obtain ⟨G3,m3,i3⟩:=O9 (hap h.sz) (fun id _ hb=>h.sz.lt id hb) h.sx rfl (by omega) (by simp only [Qi,Zc,Zt]; omega) i2
     have fr:∀ {G t},Wd H.length G0 G t→G[H.length]?=some ⟨[.int .i64 k,ka,na,sa,da],true,true,true,1⟩∧G[H.length+1]?=some ⟨[.int .i64 x,.int .i64 y,.int .i64 z,.bool d],true,true,true,1⟩∧(∀ i,i<H.length→G[i]?=H[i]?):=fun ⟨_,_,hf⟩ =>
      ⟨(hf _ ⟨by omega,by omega⟩ (by omega)).trans (gi 0 _ rfl),(hf _ ⟨by omega,by omega⟩ (by omega)).trans (gi 1 _ rfl),fun i hi=>by rw [hf i ⟨by omega,by omega⟩ (by omega),hG0,Qa hi]⟩
     obtain ⟨p10,p11,-⟩:=fr i1
     obtain ⟨p20,p21,-⟩:=fr i2
     obtain ⟨p30,p31,p32⟩:=fr i3
     have F0:H++[(⟨[.int .i64 k,ka,na,sa,da],true,true,true,1⟩:Ob),⟨[.int .i64 x,.int .i64 y,.int .i64 z,.bool d],true,true,true,1⟩,⟨u8s [k.toNat],true,true,true,1⟩,⟨[.slice (some ⟨H.length+2,0,none⟩) 1 1],true,true,true,1⟩]=G0:=hG0.symm
     have p00:G0[H.length]?=_:=gi 0 _ rfl
     have p01:G0[H.length+1]?=_:=gi 1 _ rfl
     have fk1:fillL [Value.int .u8 0] [(0,1,.int .u8 (k.toNat:Nat))]=some (u8s [k.toNat]):=rfl
     have fw1:∀ a:Addr,fillL [Value.slice none 0 0] [(0,1,.slice (some a) 1 1)]=some [.slice (some a) 1 1]:=fun _=>rfl
     have s1:∀ a b:Value,splice [a] 0 [b]=[b]:=fun _ _=>rfl
     have e3:∀ o1 o2 o3:Ob,(H++[o1,o2,o3])[H.length]?=some o1:=fun _ _ _=>by rw [Qe (Ql _),Qv]; rfl
     have e4:∀ o1 o2 o3 o4:Ob,(H++[o1,o2,o3,o4])[H.length+3]?=some o4:=fun _ _ _ _=>by rw [Qe (by omega),Qp]; rfl
     have e5:∀ o1 o2 o3 o4 o:Ob,(H++[o1,o2,o3,o4]).set (H.length+3) o=H++[o1,o2,o3,o]:=fun _ _ _ _ _=>by rw [Q9 _ _ (by omega),Qp]; rfl
     simp only [Tl,Tk,Tj,Qu,Qo,show ((0:Nat):Int)=0 from rfl] at m1 m2 m3
     obtain ⟨v3,w3,f3⟩:=i3
     have lt3:([k.toNat]++kl.flatten++(nl.map id4).flatten++sl.flatten).length≤4000:=by simp only [Qi,Zc,Zt]; omega
     cases d
     ·by_cases q4:dl.length=0
      ·have c1:((0:Int)<(dl.length:Int))=False:=eq_false (by omega)
       have c2:((16384:Int)<(dl.length:Int))=False:=eq_false (by omega)
       have hE:frE k kl.length nl.length sl.length dl.length=0:=by
        unfold frE; rw [hsh]; simp only [q1,q2,q3,q4,and_self,or_true,if_true]; rfl
       obtain ⟨l,hl⟩:=Xq (by have:=w3.kl (H.length+3) ⟨by omega,by omega⟩; omega) p32
       have ow:=w3.ob
       unfold wob at ow
       refine ⟨v3,l,?_,fun _ _ _ _ e _ => ?_,fun hh=>absurd hE hh⟩
       ·rw [hE,←hl]
        clear i1 i2 inv0 gi fr hG0 hap f3 w3 p32 lt3
        rw [Q6 (fn:=U0) rfl]
        simp only [U0,Q0,quiet,cW,↓pW,reduceCtorEq,seval,-Qb,hsv,rfv,g0,g00,g01,t01,im1,ok1,ok2,ok3,n1,n2,n3,n4,z4,sp4,b1,b2,b3,c1,c2,wk,fk1,fw1,s1,e3,e4,e5,F0,p00,p01,m1,p10,p11,m2,p20,p21,m3,p30,p31,ow]
       ·rw [hsh] at e
        cases e
        rw [←hl]
        refine OutS.toK (K:=KE H.length) ?_ (fun i hi h'=>hi ⟨by have:i<H.length:=h'; omega,by have:i<H.length:=h'; omega⟩)
        have:=w3.out
        simpa [frB] using this
      ·have c1:((0:Int)<(dl.length:Int))=True:=eq_true (by omega)
       refine bad 110 (by decide) (by unfold frE; rw [hsh]; exact if_neg fun hh=>by rcases hh.2.2.2 with hh | hh; cases hh; exact q4 hh) (Zs ?_ ?_)
       rotate_left
       ·rw [Q6 (fn:=U0) rfl]
        simp only [U0,Q0,quiet,cW,↓pW,reduceCtorEq,seval,-Qb,hsv,rfv,g0,g00,g01,t01,im1,ok1,ok2,ok3,n1,n2,n3,n4,z4,sp4,b1,b2,b3,c1]
        rfl
     ·by_cases q4:16384<dl.length
      ·have c2:((16384:Int)<(dl.length:Int))=True:=eq_true (by omega)
       refine bad 2 (by decide) (by unfold frE; rw [hsh]; simp only [q1,q2,q3,q4,and_self,true_or,if_true]) (Zs ?_ ?_)
       rotate_left
       ·rw [Q6 (fn:=U0) rfl]
        simp only [U0,Q0,quiet,cW,↓pW,reduceCtorEq,seval,-Qb,hsv,rfv,g0,g00,g01,t01,im1,ok1,ok2,ok3,n1,n2,n3,n4,z4,sp4,b1,b2,b3,c2]
        rfl
      ·have c2:((16384:Int)<(dl.length:Int))=False:=eq_false (by omega)
       have hE:frE k kl.length nl.length sl.length dl.length=0:=by
        unfold frE; rw [hsh]; simp only [q1,q2,q3,q4,and_self,true_or,if_true,if_false]
       obtain ⟨v4,G4,M4,k1,k2,k3,k4,k5⟩:=TE (n:=dl.length) w3 (by omega)
       have im4:Qz H.length [] M4=[]:=YT k4
       have p42:∀ i,i<H.length→G4[i]?=H[i]? := fun i hi=>(k5 i ⟨by omega,by omega⟩ (by omega)).trans (p32 i hi)
       have p40:=(k5 H.length ⟨by omega,by omega⟩ (by omega)).trans p30
       obtain ⟨v5,G5,M5,j1,j2,j3,j4,j5,j6,j7,j8,j9⟩:=k2.put hd4 (h.dz.reads G4 p42) (by rw [Qi]; show _+4+_≤_; omega)
       have im5:Qz H.length [] M5=[]:=YT fun i hi=>.inr (j7 i hi)
       have im3:Qz H.length [] [H.length+3]=[]:=im1 3
       obtain ⟨l,hl⟩:∃ l,G5.set (H.length+3) (wob v5)=H++l:=Xq (by have:=k2.kl (H.length+3) ⟨by omega,by omega⟩; rw [Qs]; omega) fun i hi=>(j9 i ⟨by omega,by omega⟩ (by omega)).trans (p42 i hi)
       have ow4:=k2.ob
       have ow5:=j6.ob
       have wu:IntKind.u32.wrap (dl.length:Int)=(dl.length:Nat):=by
        have:=HA (n:=dl.length) (by omega)
        exact this
       refine ⟨v5,l,?_,fun _ _ _ _ e _ => ?_,fun hh=>absurd hE hh⟩
       ·rw [hE,←hl]
        unfold wob at *
        clear i1 i2 inv0 gi fr hG0 hap f3 w3 p32 lt3 k2 j6 k4 k5 j7 j9 p42
        rw [Q6 (fn:=U0) rfl]
        simp only [U0,Q0,quiet,cW,↓pW,reduceCtorEq,seval,-Qb,hsv,rfv,g0,g00,g01,t01,im1,im4,im5,im3,ok1,ok2,ok3,n1,n2,n3,n4,z4,sp4,b1,b2,b3,c2,wk,wu,fk1,fw1,s1,e3,e4,e5,F0,p00,p01,m1,p10,p11,m2,p20,p21,m3,p30,p31,k1,p40,ow4,j1,j2,j3,j4,j5,ow5]
       ·rw [hsh] at e
        cases e
        rw [←hl]
        refine OutS.toK (K:=KE H.length) ?_ (fun i hi h'=>hi ⟨by have:i<H.length:=h'; omega,by have:i<H.length:=h'; omega⟩)
        have:=j6.out
        simpa [frB] using this
    ·have b3:(((sl.length:Nat):Int) != (z:Int))=true:=by simp; omega
     refine bad 110 (by decide) (by unfold frE; rw [hsh]; exact if_neg fun hh=>q3 hh.2.2.1) (Zs ?_ ?_)
     rotate_left
     ·rw [Q6 (fn:=U0) rfl]
      simp only [U0,Q0,quiet,cW,↓pW,reduceCtorEq,seval,-Qb,hsv,rfv,g0,g00,g01,t01,im1,ok1,ok2,ok3,n1,n2,n3,n4,z4,sp4,b1,b2,b3]
      rfl
   ·have b2:(((nl.length:Nat):Int) != (y:Int))=true:=by simp; omega
    refine bad 110 (by decide) (by unfold frE; rw [hsh]; exact if_neg fun hh=>q2 hh.2.1) (Zs ?_ ?_)
    rotate_left
    ·rw [Q6 (fn:=U0) rfl]
     simp only [U0,Q0,quiet,cW,↓pW,reduceCtorEq,seval,-Qb,hsv,rfv,g0,g00,g01,t01,im1,ok1,ok2,ok3,n1,n2,n3,n4,z4,sp4,b1,b2]
     rfl
  ·have b1:(((kl.length:Nat):Int) != (x:Int))=true:=by simp; omega
   refine bad 110 (by decide) (by unfold frE; rw [hsh]; exact if_neg fun hh=>q1 hh.1) (Zs ?_ ?_)
   rotate_left
   ·rw [Q6 (fn:=U0) rfl]
    simp only [U0,Q0,quiet,cW,↓pW,reduceCtorEq,seval,-Qb,hsv,rfv,g0,g00,g01,t01,im1,ok1,ok2,ok3,n1,n2,n3,n4,z4,sp4,b1]
    rfl
theorem FrV.app {H m:List Ob} {ka na sa da:Value} {kl:List (List Nat)} {nl:List Nat} {sl:List (List Nat)} {dl:List Nat} (h:FrV H ka na sa da kl nl sl dl):FrV (H++m) ka na sa da kl nl sl dl :=
 ⟨h.kz.app,h.kx,h.nz.app,h.sz.app,h.sx,h.dz.app⟩
theorem Sq.some_of {G:List Ob} {es:Nat} {cs:List Value} {n:Nat} {v:Value} (h:Sq G es cs n v) (hn:0<n):∃ id c w e s,v=.slice (some ⟨id,0,none⟩) n c∧G[id]?=some ⟨cs,true,w,e,s⟩∧cs.length=n*es:=by
 rcases h with ⟨-,h,-⟩ | h
 ·omega
 ·exact h
theorem B4 {p q r v:List Nat} (h:v.length=q.length) (hp:p.length=n):splice (u8s (p++(q++r))) n (u8s v)=u8s (p++(v++r)):=by
 have:=Ty (a:=u8s p) (b:=u8s (q++r)) (v:=u8s v) (n:=n) (k:=0) (by rw [Qn,hp]) (by rw [Qn,Qn,Qi]; omega)
 rw [Nat.add_zero] at this
 rw [JB,this,JB q,Tz (by rw [Qn,Qn,h]),←JB,←JB]
def Xk (nm:List Nat) (e m:Nat):List Nat:=frB 5 [nm] [e,m] [Qc 64 0] [] true
theorem EI (hk:Sq H 32 (u8s nm) 1 ka) (hn:Sq H 1 (ns32 [e,m]) 2 na) (lk:nm.length=32) :
  ∃ v l,Zb T 48 [.agg #[.int .i64 5,ka,na,sa,da]] H=some (v,H++l,[])∧OutS (LtN H.length) (H++l) v (Xk nm e m):=by
 have hz64:=Y2
 have lz:(Qc 64 0).length=64:=Qm
 obtain ⟨m1,hm1⟩:∃ X,X=[(⟨[.int .i64 5,ka,na,.slice (some ⟨H.length+1,0,none⟩) 1 1,.slice none 0 0],true,true,true,1⟩:Ob),⟨u8s (Qc 64 0),true,true,true,1⟩]:=⟨_,rfl⟩
 have g1:(H++m1)[H.length+1]?=some ⟨u8s (Qc 64 0),true,true,true,1⟩:=by rw [hm1,Qe (by omega),Qp]; rfl
 have F:FrV (H++m1) ka na (.slice (some ⟨H.length+1,0,none⟩) 1 1) (.slice none 0 0) [nm] [e,m] [Qc 64 0] [] :=
  ⟨by rw [show [nm].flatten=nm by simp]; exact hk.app,fun x hx=>by rw [Zz.1 hx]; exact lk,hn.app,.inr ⟨_,1,_,_,_,rfl,by rw [show [Qc 64 0].flatten=Qc 64 0 by simp]; exact g1,by rw [Qn]; simp⟩,fun x hx=>by rw [Zz.1 hx]; exact lz,⟨⟨_,_,rfl⟩,fun _ _=>rfl⟩⟩
 obtain ⟨v,l,he,q1,-⟩:=UG (k:=5) F
 have hE:frE 5 [nm].length [e,m].length [Qc 64 0].length ([]:List Nat).length=0:=rfl
 have q2:=q1 1 2 1 true rfl hE
 rw [hE,Qw] at he
 rw [Qw] at q2
 refine ⟨v,m1++l,?_,q2.toK fun i hi h=>hi (by have:i<H.length:=h; show i<(H++m1).length; rw [Qi]; omega)⟩
 have g0:(H++(m1++l))[H.length]?=some ⟨[.int .i64 5,ka,na,.slice (some ⟨H.length+1,0,none⟩) 1 1,.slice none 0 0],true,true,true,1⟩:=by rw [hm1,Qe (by omega),Qv]; rfl
 have g00:m1[0]?=some ⟨[.int .i64 5,ka,na,.slice (some ⟨H.length+1,0,none⟩) 1 1,.slice none 0 0],true,true,true,1⟩:=by rw [hm1]; rfl
 have h1:=hm1.symm
 have f64:=ER lz
 rw [hz64] at f64
 have fz:∀ L:List Value,fillL L []=some L:=fun _=>rfl
 have ok1:∀ L:List Value,(Value.agg L.toArray).cells.toList=L:=fun _=>rfl
 have ok2:∀ L:List Value,(Value.agg L.toArray).cells.size=L.length:=fun _=>rfl
 have ok3:∀ L:List Value,okVar (Value.agg L.toArray)=true:=fun _=>rfl
 have e2:∀ o1:Ob,(H++[o1])[H.length]?=some o1:=fun _=>by rw [Qe (Ql _),Qv]; rfl
 have e3:∀ o1 o2:Ob,(H++[o1,o2])[H.length]?=some o1:=fun _ _=>by rw [Qe (Ql _),Qv]; rfl
 have t3:∀ o1 o2 o:Ob,(H++[o1,o2]).set H.length o=H++[o,o2]:=fun _ _ _=>by rw [Q9 _ _ (Ql _),Qv]; rfl
 have cl5:∀ a b c d e:Value,Q2 5 [a,b,c,d,e]=[a,b,c,d,e]:=fun _ _ _ _ _=>rfl
 clear hm1 F q1 q2 hE
 generalize Qc 64 0=Z64 at *
 rw [Q6 (fn:=mS) rfl]
 simp only [mS,Q0,quiet,cW,↓pW,reduceCtorEq,seval,-Qb,he,g0,g00,h1,f64,fz,hz64,e2,e3,t3,cl5,ok1,ok2,ok3,lz,QB,QX,Zg,ZU,Zh,Qn,Qm,ZX]
theorem Ax (h1:nm.length=32):(plc nm e m key tl)[32]?=some (.int .u32 e):=by
 rw [plc,Qe (by rw [Qn,h1]; decide),Qn,h1]; rfl
theorem DT (h1:nm.length=32):Q2 32 (plc nm e m key tl)=u8s nm:=by
 rw [plc,Xw (by rw [Qn,h1])]
theorem MJ (h1:nm.length=32) (h2:key.length=32):Z9 66 (plc nm e m key tl)=tl:=by
 rw [HL]
 exact XK (JK (tl:=[]) h1 h2)
theorem OF {a b c:List Nat} (la:a.length=32) (lb:b.length=32) (lc:c.length=32):fillL (Qc 96 (Value.int .u8 0)) [(0,32,.agg (u8s a).toArray),(32,32,.agg (u8s b).toArray),(64,32,.agg (u8s c).toArray)]=some (u8s [a,b,c].flatten):=by
 have hz:Qc 96 (Value.int .u8 0)=u8s (zK++(zK++(zK++[]))):=rfl
 have ct:∀ l:List Nat,(Value.agg (u8s l).toArray).cells.toList=u8s l:=fun _=>rfl
 have lz:=FE
 have L:∀ {w x y:List Nat},w.length=32→x.length=32→y.length=32→(u8s (w++(x++(y++[])))).length=96:=fun hw hx hy=>by simp [Qn,hw,hx,hy]
 have e1:=B4 (p:=[]) (q:=zK) (v:=a) (r:=zK++(zK++[])) (la.trans lz.symm) (n:=0) rfl
 have e2:=B4 (p:=a) (q:=zK) (v:=b) (r:=zK++[]) (lb.trans lz.symm) la
 have e3:=B4 (p:=a++b) (q:=zK) (v:=c) (r:=[]) (lc.trans lz.symm) (n:=64) (by rw [Qi,la,lb])
 simp only [Qw,Qo] at e1 e2 e3
 rw [hz,Kp (VZ la) (by rw [L lz lz lz]; decide) rfl,ct,e1,Kp (VZ lb) (by rw [L la lz lz]; decide) rfl,ct,e2,
  Kp (VZ lc) (by rw [L la lb lz]; decide) rfl,ct,e3]
 rfl
def FT (nm key sg pub:List Nat) (e m B:Nat):List Ob:=[⟨plc nm e m key (u8s sg),true,true,true,1⟩,⟨[.int .i64 4,.slice (some ⟨B+2,0,none⟩) 3 3,.slice (some ⟨B+3,0,none⟩) 2 2,.slice none 0 0,.slice none 0 0],true,true,true,1⟩,⟨u8s [nm,key,pub].flatten,true,true,true,1⟩,⟨ns32 [e,m],true,true,true,1⟩]
theorem PL (h1:nm.length=32) (h2:key.length=32) (h3:B32 sg) :
  Zb T 23 [.agg (plc nm e m key (u8s sg)).toArray] H=some (.agg #[.int .i64 4,.slice (some ⟨H.length+2,0,none⟩) 3 3,.slice (some ⟨H.length+3,0,none⟩) 2 2,.slice none 0 0,.slice none 0 0],H++FT nm key sg (XL sg) e m H.length,[]):=by
 have n0:=JK (e:=e) (m:=m) (tl:=u8s sg) h1 h2
 rw [Qn,h3.len] at n0
 have r1:=DT (e:=e) (m:=m) (key:=key) (tl:=u8s sg) h1
 have r2:=Aw (e:=e) (m:=m) (tl:=u8s sg) h1 h2
 have r3:Q2 32 (Z9 66 (plc nm e m key (u8s sg)))=u8s sg:=by rw [MJ h1 h2]; exact QB (by rw [Qn,h3.len])
 have r4:=Ax (e:=e) (m:=m) (key:=key) (tl:=u8s sg) h1
 have r5:=Vq (e:=e) (m:=m) (key:=key) (tl:=u8s sg) h1
 have hp:=Sr h3.len h3.lt
 have lp:=BZ sg
 have f3:=OF h1 h2 lp
 have f2:fillL [Value.int .u32 0,.int .u32 0] [(0,1,.int .u32 (e:Int)),(1,1,.int .u32 (m:Int))]=some [.int .u32 (e:Int),.int .u32 (m:Int)]:=rfl
 have f5:∀ a b:Addr,fillL [Value.int .i64 0,.slice none 0 0,.slice none 0 0,.slice none 0 0,.slice none 0 0] [(0,1,.int .i64 4),(1,1,.slice (some a) 3 3),(2,1,.slice (some b) 2 2)]=some [.int .i64 4,.slice (some a) 3 3,.slice (some b) 2 2,.slice none 0 0,.slice none 0 0]:=fun _ _=>rfl
 have sp5:∀ (a b c d e a' b' c' d' e':Value),splice [a,b,c,d,e] 0 [a',b',c',d',e']=[a',b',c',d',e']:=fun _ _ _ _ _ _ _ _ _ _=>rfl
 have cl5:∀ a b c d e:Value,Q2 5 [a,b,c,d,e]=[a,b,c,d,e]:=fun _ _ _ _ _=>rfl
 have e2:∀ o1 o2:Ob,(H++[o1,o2])[H.length]?=some o1:=fun _ _=>by rw [Qe (Ql _),Qv]; rfl
 have e3:∀ o1 o2 o3:Ob,(H++[o1,o2,o3])[H.length]?=some o1:=fun _ _ _=>by rw [Qe (Ql _),Qv]; rfl
 have e4:∀ o1 o2 o3 o4:Ob,(H++[o1,o2,o3,o4])[H.length+1]?=some o2:=fun _ _ _ _=>by rw [Qe (by omega),Qp]; rfl
 have t4:∀ o1 o2 o3 o4 o:Ob,(H++[o1,o2,o3,o4]).set (H.length+1) o=H++[o1,o,o3,o4]:=fun _ _ _ _ _=>by rw [Q9 _ _ (by omega),Qp]; rfl
 have im1:Qz H.length [] [H.length+1]=[]:=QN (by simp)
 have ok1:∀ L:List Value,(Value.agg L.toArray).cells.toList=L:=fun _=>rfl
 have ok2:∀ L:List Value,(Value.agg L.toArray).cells.size=L.length:=fun _=>rfl
 have ok3:∀ L:List Value,okVar (Value.agg L.toArray)=true:=fun _=>rfl
 have an:ns32 [e,m]=[.int .u32 e,.int .u32 m]:=rfl
 have hzf:Kq=[Value.int .i64 0,.slice none 0 0,.slice none 0 0,.slice none 0 0,.slice none 0 0]:=rfl
 have l3:=h3.len
 unfold FT
 rw [an]
 clear h3
 generalize u8s [nm,key,XL sg].flatten=KF at *
 generalize plc nm e m key (u8s sg)=S,XL sg=pub at *
 rw [Q6 (fn:=mW) rfl]
 simp only [mW,Q0,quiet,cW,↓pW,reduceCtorEq,seval,-Qb,r1,r2,r3,r4,r5,hp,lp,f3,f2,f5,sp5,cl5,e2,e3,e4,t4,im1,ok1,ok2,ok3,n0,h1,h2,l3,hzf,QB,QX,Zg,ZU,Zh,Qn,Qm,ZX]
theorem ki (h1:nm.length=32) (h2:key.length=32) (h3:pub.length=32):FrV (H++FT nm key sg pub e m H.length) (.slice (some ⟨H.length+2,0,none⟩) 3 3) (.slice (some ⟨H.length+3,0,none⟩) 2 2) (.slice none 0 0) (.slice none 0 0) [nm,key,pub] [e,m] [] []:=by
 have hk:∀ x∈[nm,key,pub],x.length=32:=fun x hx=>by
  simp only [Jk,J4,or_false] at hx
  rcases hx with rfl | rfl | rfl
  ·exact h1
  ·exact h2
  ·exact h3
 have gi:∀ i ob,(FT nm key sg pub e m H.length)[i]?=some ob→(H++FT nm key sg pub e m H.length)[H.length+i]?=some ob:=fun i ob hm=>by rw [Qe (by omega),Qp]; exact hm
 exact ⟨.inr ⟨_,3,_,_,_,rfl,gi 2 _ rfl,by rw [Qn,Xs hk]⟩,hk,.inr ⟨_,2,_,_,_,rfl,gi 3 _ rfl,rfl⟩,.inl ⟨rfl,rfl,rfl⟩,fun x hx=>absurd hx (by simp),⟨⟨_,_,rfl⟩,fun _ _=>rfl⟩⟩
theorem IH {k:Int} {kl:List (List Nat)} {nl:List Nat} {sl:List (List Nat)} {dl:List Nat} (h:FrV H ka na sa da kl nl sl dl) (hb:¬ (frE k kl.length nl.length sl.length dl.length=0∧k=4)) :
  ∃ l,Zb T 21 [.agg #[.int .i64 k,ka,na,sa,da]] H=some (.tuple #[.agg Jo.toArray,.int .i64 110],H++l,[]):=by
 obtain ⟨v,l,he,-⟩:=UG (k:=k) (h.app (m:=[(⟨[.int .i64 k,ka,na,sa,da],true,true,true,1⟩:Ob),⟨Jo,true,true,true,1⟩]))
 obtain ⟨G,hG⟩:∃ X,X=H++[(⟨[.int .i64 k,ka,na,sa,da],true,true,true,1⟩:Ob),⟨Jo,true,true,true,1⟩]++l:=⟨_,rfl⟩
 rw [←hG] at he
 have g0:G[H.length]?=some ⟨[.int .i64 k,ka,na,sa,da],true,true,true,1⟩:=by rw [hG,Qw,Qe (Ql _),Qv,Qu,ZV]
 have g1:G[H.length+1]?=some ⟨Jo,true,true,true,1⟩:=by rw [hG,Qw,Qe (by omega),Qp]; rfl
 have g2:(G.set (H.length+1) ⟨Jo,true,true,true,1⟩)[H.length+1]?=some ⟨Jo,true,true,true,1⟩:=by rw [Qx (Qf.1 g1).1]
 obtain ⟨l',hl'⟩:∃ l',G.set (H.length+1) ⟨Jo,true,true,true,1⟩=H++l':=Xq (by rw [Qs,hG]; simp) fun i hi=>by
  rw [Qr (by omega),hG,Qw,Qa hi]
 refine ⟨l',?_⟩
 rw [←hl']
 have fz:fillL Jo []=some Jo:=rfl
 have nz:Jo.length=99:=rfl
 have tz:Q2 99 Jo=Jo:=Qq (by rw [nz]; decide)
 have sz:splice Jo 0 Jo=Jo:=QV rfl
 have ok1:∀ L:List Value,(Value.agg L.toArray).cells.toList=L:=fun _=>rfl
 have ok2:∀ L:List Value,(Value.agg L.toArray).cells.size=L.length:=fun _=>rfl
 have ok3:∀ L:List Value,okVar (Value.agg L.toArray)=true:=fun _=>rfl
 have e0:∀ o1 o2:Ob,(H++[o1,o2])[H.length]?=some o1:=fun _ _=>by rw [Qe (Ql _),Qv]; rfl
 have im1:Qz H.length [] [H.length+1]=[]:=QN (by simp)
 have cl5:Q2 5 [Value.int .i64 k,ka,na,sa,da]=[.int .i64 k,ka,na,sa,da]:=rfl
 clear hG hl'
 by_cases h0:frE k kl.length nl.length sl.length dl.length=0
 ·have b1:(k != 4)=true:=by simpa using fun hk=>hb ⟨h0,hk⟩
  rw [h0] at he
  rw [Q6 (fn:=Le) rfl]
  simp only [Le,Q0,quiet,cW,↓pW,reduceCtorEq,seval,-Qb,he,e0,g0,g1,g2,fz,nz,tz,sz,b1,im1,cl5,ok1,ok2,ok3]
 ·have b1:(frE k kl.length nl.length sl.length dl.length != 0)=true:=by simpa using h0
  generalize frE k kl.length nl.length sl.length dl.length=E at *
  rw [Q6 (fn:=Le) rfl]
  simp only [Le,Q0,quiet,cW,↓pW,reduceCtorEq,seval,-Qb,he,e0,g0,g1,g2,fz,nz,tz,sz,b1,im1,cl5,ok1,ok2,ok3]
theorem EP (h1:nm.length=32) (h2:key.length=32):fillL Vb [(0,32,.agg (u8s nm).toArray),(32,1,.int .u32 (e:Nat)),(33,1,.int .u32 (m:Nat)),(34,32,.agg (u8s key).toArray)]=some (plc nm e m key []):=by
 have ct:∀ l:List Nat,(Value.agg (u8s l).toArray).cells.toList=u8s l:=fun _=>rfl
 have lz:(Qc 32 0).length=32:=rfl
 have l0:=JK (e:=0) (m:=0) (tl:=[]) lz lz
 have l1:=JK (e:=0) (m:=0) (tl:=[]) h1 lz
 have l2:=JK (e:=e) (m:=0) (tl:=[]) h1 lz
 have l3:=JK (e:=e) (m:=m) (tl:=[]) h1 lz
 rw [Ts,Kp (VZ h1) (by rw [l0]; decide) rfl,ct,T6 lz h1,Kp (n:=1) rfl (by rw [l1]; decide) rfl,show (Value.int .u32 (e:Nat)).cells.toList=[.int .u32 (e:Nat)] from rfl,Xo,T7 h1,
  Kp (n:=1) rfl (by rw [l2]; decide) rfl,show (Value.int .u32 (m:Nat)).cells.toList=[.int .u32 (m:Nat)] from rfl,Xo,MI h1,Kp (VZ h2) (by rw [l3]; decide) rfl,ct,BC h1 lz h2,fillL]
theorem Pg:Jo=plc (Qc 32 0) 0 0 (Qc 32 0) []++(u8s (Qc 32 0)++[.slice none 0 0]):=rfl
theorem OG (h1:nm.length=32) (h2:key.length=32) (h3:pub.length=32):fillL Jo [(0,66,.agg (plc nm e m key []).toArray),(66,32,.agg (u8s pub).toArray)]=some (plc nm e m key (u8s pub++[.slice none 0 0])):=by
 have ct:∀ l:List Value,(Value.agg l.toArray).cells.toList=l:=fun _=>rfl
 have lz:(Qc 32 0).length=32:=rfl
 have l0:=JK (e:=0) (m:=0) (tl:=[]) lz lz
 have l1:=JK (e:=e) (m:=m) (tl:=[]) h1 h2
 have c1:(Value.agg (plc nm e m key []).toArray).cells.size=66:=l1
 rw [Pg,Kp c1 (by simp only [Qi,l0]; decide) rfl,ct,HK (by rw [l0,l1]),Kp (VZ h3) (by simp only [Qi,l1,Qn]; decide) rfl,ct,
  Ty (n:=66) (k:=0) l1 (by simp only [Qi,Qn,h3]; decide),Tz (by rw [Qn,Qn,h3,lz]),fillL,←HL]
theorem TO {k0 k1 k2:List Nat} {j:Nat} (h:FrV H ka na sa da [k0,k1,k2] [i,j] [] []) :
  ∃ l,Zb T 21 [.agg #[.int .i64 4,ka,na,sa,da]] H=some (.tuple #[.agg (plc k0 i j k1 (u8s k2++[.slice none 0 0])).toArray,.int .i64 0],H++l,[]):=by
 obtain ⟨v,l,he,-⟩:=UG (k:=4) (h.app (m:=[(⟨[.int .i64 4,ka,na,sa,da],true,true,true,1⟩:Ob),⟨Jo,true,true,true,1⟩]))
 rw [show frE 4 [k0,k1,k2].length [i,j].length ([]:List (List Nat)).length ([]:List Nat).length=0 from rfl] at he
 obtain ⟨G,hG⟩:∃ X,X=H++[(⟨[.int .i64 4,ka,na,sa,da],true,true,true,1⟩:Ob),⟨Jo,true,true,true,1⟩]++l:=⟨_,rfl⟩
 rw [←hG] at he
 have l0:k0.length=32:=h.kx _ (by simp)
 have l1:k1.length=32:=h.kx _ (by simp)
 have l2:k2.length=32:=h.kx _ (by simp)
 have nO:(plc k0 i j k1 (u8s k2++[.slice none 0 0])).length=99:=by rw [JK l0 l1,Qi,Qn,l2]; rfl
 have nP:=JK (e:=i) (m:=j) (tl:=[]) l0 l1
 rw [Zt] at nP
 have nz:Jo.length=99:=rfl
 have f1:=EP (e:=i) (m:=j) l0 l1
 have f2:=OG (e:=i) (m:=j) l0 l1 l2
 obtain ⟨O,hO⟩:∃ X,X=plc k0 i j k1 (u8s k2++[.slice none 0 0]):=⟨_,rfl⟩
 rw [←hO] at nO f2 ⊢
 have sz:splice Jo 0 O=O:=QV (by rw [nO,nz])
 have tO:Q2 99 O=O:=Qq (by rw [nO]; decide)
 have g0:G[H.length]?=some ⟨[.int .i64 4,ka,na,sa,da],true,true,true,1⟩:=by rw [hG,Qw,Qe (Ql _),Qv,Qu,ZV]
 have g1:G[H.length+1]?=some ⟨Jo,true,true,true,1⟩:=by rw [hG,Qw,Qe (by omega),Qp]; rfl
 have g2:(G.set (H.length+1) ⟨O,true,true,true,1⟩)[H.length+1]?=some ⟨O,true,true,true,1⟩:=by rw [Qx (Qf.1 g1).1]
 have gH:∀ id o,H[id]?=some o→G[id]?=some o:=fun id o ho=>by rw [hG,Qw,Qa (Qf.1 ho).1]; exact ho
 obtain ⟨l',hl'⟩:∃ l',G.set (H.length+1) ⟨O,true,true,true,1⟩=H++l':=Xq (by rw [Qs,hG]; simp) fun i hi=>by
  rw [Qr (by omega),hG,Qw,Qa hi]
 refine ⟨l',?_⟩
 rw [←hl']
 obtain ⟨kid,kc,kw,ke,ks,rfl,hk,-⟩:=h.kz.some_of (by simp)
 obtain ⟨nid,nc,nw,ne,ns',rfl,hn,-⟩:=h.nz.some_of (by simp)
 have hk':=gH _ _ hk
 have hn':=gH _ _ hn
 have a0:Q2 32 (u8s [k0,k1,k2].flatten)=u8s k0:=(KB h.kx (i:=0) rfl).1
 have a1:Q2 32 (Z9 32 (u8s [k0,k1,k2].flatten))=u8s k1:=(KB h.kx (i:=1) rfl).1
 have a2:Q2 32 (Z9 64 (u8s [k0,k1,k2].flatten))=u8s k2:=(KB h.kx (i:=2) rfl).1
 have lk:(u8s [k0,k1,k2].flatten).length=96:=by rw [Qn,Xs h.kx]; rfl
 have an:ns32 [i,j]=[.int .u32 i,.int .u32 j]:=rfl
 rw [an] at hn'
 have ok1:∀ L:List Value,(Value.agg L.toArray).cells.toList=L:=fun _=>rfl
 have ok2:∀ L:List Value,(Value.agg L.toArray).cells.size=L.length:=fun _=>rfl
 have ok3:∀ L:List Value,okVar (Value.agg L.toArray)=true:=fun _=>rfl
 have e0:∀ o1 o2:Ob,(H++[o1,o2])[H.length]?=some o1:=fun _ _=>by rw [Qe (Ql _),Qv]; rfl
 have im1:Qz H.length [] [H.length+1]=[]:=QN (by simp)
 have cl5:∀ a b c d e:Value,Q2 5 [a,b,c,d,e]=[a,b,c,d,e]:=fun _ _ _ _ _=>rfl
 have hlen:([k0,k1,k2]:List (List Nat)).length=3:=rfl
 have hlen2:([i,j]:List Nat).length=2:=rfl
 rw [hlen,hlen2] at he g0
 clear hG hl' hk hn h hO gH an
 generalize u8s [k0,k1,k2].flatten=KF at *
 generalize plc k0 i j k1 []=P at *
 rw [Q6 (fn:=Le) rfl]
 simp only [Le,hlen,hlen2,Q0,quiet,cW,↓pW,reduceCtorEq,seval,-Qb,he,e0,g0,g1,g2,hk',hn',a0,a1,a2,lk,f1,f2,sz,tO,nz,nO,nP,l0,l1,l2,im1,cl5,ok1,ok2,ok3,QB,QX,Zg,ZU,Zh,Qn,Qm,ZX]
end Go.Ev.YtomfgcgnepfmjaaGreat
namespace Go.Ev.YtomfgcgnepfmjaaGreat
open Go Go.Ev
attribute [local congr] Jr J7 Jq J8 Jc
set_option maxRecDepth 100000
variable {nm k n s:List Nat}
theorem OutS.part {K:Nat→Prop} {G:List Ob} {v:Value} {t:List Nat} (h:OutS K G v t) (xt:∀ y∈t,y<256) (hl:t.length≤2^47-4096):HPart (LtN G.length) G v t:=by
 rcases h with ⟨id,-,rfl,h2⟩ | h
 ·exact HPart.whole (Qf.1 h2).1 h2 xt hl
 ·exact h.part xt (by omega)
theorem HY (e m:Nat) (hn:B32 nm):∀ y∈Xk nm e m,y<256:=fun y hy=>by
 simp only [Xk,frB,QO,Zq,Js,JG,QD,QZ,Zz,if_true] at hy
 rcases hy with (((h | h) | h | h) | h) | h
 ·subst h; decide
 ·exact hn.lt y h
 ·exact I8 e y h
 ·exact I8 m y h
 ·rw [List.eq_of_mem_replicate h]; decide
 ·exact I8 0 y h
theorem BG (e m:Nat) (hn:nm.length=32):(Xk nm e m).length=109:=by
 simp [Xk,frB,id4,hn]
theorem kd {d:List Nat} (hk:B32 k) (ln:n.length=12) (xn:∀ y∈n,y<256) (xd:∀ y∈d,y<256) (xs:∀ y∈s,y<256) (ld:d.length≤2^40) (ls:s.length≤2^40):B16 (BQ k n d s):=by
 obtain ⟨G,hG⟩:∃ G:List Ob,G=[⟨u8s d,true,true,true,1⟩,⟨u8s s,true,true,true,1⟩,⟨[.slice (some ⟨1,0,none⟩) s.length s.length],true,true,true,1⟩]:=⟨_,rfl⟩
 have lG:G.length=3:=by rw [hG]; rfl
 have h:=(Ak (H:=G) (dv := .slice (some ⟨0,0,none⟩) d.length d.length) (pv := .slice (some ⟨2,0,none⟩) 1 1) (xs:=[.slice (some ⟨1,0,none⟩) s.length s.length]) (ps:=[s]) hk ln xn (HPart.whole (by omega) (by rw [hG]; rfl) xd (by omega)) (.inr ⟨2,0,1,⟨[.slice (some ⟨1,0,none⟩) s.length s.length],true,true,true,1⟩,rfl,by rw [lG]; decide,by rw [hG]; rfl,rfl,fun i hi=>by rw [QA]⟩) (.cons (HPart.whole (by omega) (by rw [hG]; rfl) xs (by omega)) .nil) (by show 1<2^50; decide) (by simp; omega)).1
 rwa [show [s].flatten=s by simp] at h
theorem dE {d:List Nat} (hk:B32 k) (ln:n.length=12) (xn:∀ y∈n,y<256) (xd:∀ y∈d,y<256) (xs:∀ y∈s,y<256) (ld:d.length≤2^40) (ls:s.length≤2^40):(YK k n d s).length=d.length+16∧∀ y∈YK k n d s,y<256:=by
 have xm:=AG (c:=1) hk ln xn xd
 have h:=kd hk ln xn xm xs (by rw [Kc]; exact ld) ls
 refine ⟨by rw [YK,Qi,Kc,h.len],fun y hy => ?_⟩
 rcases QZ.1 hy with h' | h'
 ·exact xm y h'
 ·exact h.lt y h'
def Dat (B:Nat) (G:List Ob) (v:Value) (dl:List Nat):Prop:=∃ id off c o,v=.slice (some ⟨id,off,none⟩) dl.length c∧Rd G id off dl∧dl.length≤c∧G[id]?=some o∧o.es=1∧B≤id
theorem Dat.keep {B:Nat} {H G:List Ob} {v:Value} {dl:List Nat} (h:Dat B H v dl) (hg:∀ i o,B≤i→H[i]?=some o→o.es=1→G[i]?=some o):Dat B G v dl:=by
 obtain ⟨id,off,c,o,h1,⟨⟨o',a1,a2,a3⟩,a4⟩,h3,h4,h5,h6⟩:=h
 have e:o'=o:=by rw [a1] at h4; exact Xe h4
 subst e
 exact ⟨id,off,c,o',h1,⟨⟨o',hg id o' h6 h4 h5,a2,a3⟩,a4⟩,h3,hg id o' h6 h4 h5,h5,h6⟩
theorem Rst.rd {B:Nat} {G:List Ob} {v:Value} {l:List Nat} (h:Rst (fun i=>i<B) G v l) (h0:0<l.length) (xl:∀ y∈l,y<256):Dat B G v l:=by
 obtain ⟨id,off,all,rfl,hb,hg,hl,hi⟩:=h.own_of h0
 refine ⟨id,off,_,_,rfl,⟨⟨_,hg,rfl,fun i hlt => ?_⟩,xl⟩,Ql _,hg,rfl,Nat.le_of_not_lt hb⟩
 have h1:all[off+i]?=some (l.getD i 0):=by rw [hi i hlt,Qt,Qg hlt]; rfl
 exact Jj h1
theorem Rd.part {H:List Ob} {id off c:Nat} {a:List Nat} (h:Rd H id off a) (h0:0<a.length) (hl:a.length≤2^47-128):HPart (fun i=>i<H.length) H (.slice (some ⟨id,off,none⟩) a.length c) a:=by
 obtain ⟨⟨o,h1,h2,h3⟩,h4⟩:=h
 refine ⟨⟨_,_,rfl⟩,fun G hg => ?_,h4,hl⟩
 have hG:liveAt G id=some o:=by rw [liveAt,hg id (Qf.1 h1).1,h1]; simp [h2]
 have hlen:off+(a.length-1)<o.cells.length:=(Qf.1 (h3 (a.length-1) (by omega))).1
 have h5:Q2 a.length (Z9 off o.cells)=u8s a:=by
  apply List.ext_getElem?
  intro j
  by_cases hj:j<a.length
  ·rw [QQ,if_pos hj,Zk,h3 j hj,Qt,Qg hj]
   exact (Jj (Qg hj)).symm
  ·rw [QH (by rw [Q4]; omega),QH (by rw [Qn]; omega)]
 have h6:off+a.length≤o.cells.length:=by omega
 simp [elemsOf,hG,h5,h6]
theorem Dat.part {B:Nat} {H:List Ob} {v:Value} {dl:List Nat} (h:Dat B H v dl) (h0:0<dl.length) (hl:dl.length≤2^47-128):HPart (fun i=>i<H.length) H v dl:=by
 obtain ⟨id,off,c,o,rfl,h2,-⟩:=h
 exact h2.part h0 hl
theorem OutS.ext {K:Nat→Prop} {G G':List Ob} {v:Value} {t:List Nat} (h:OutS K G v t) (hg:∀ i,i<G.length→G'[i]?=G[i]?):OutS K G' v t:=by
 rcases h with ⟨id,h1,h0,h2⟩ | h
 ·exact .inl ⟨id,h1,h0,(hg id (Qf.1 h2).1).trans h2⟩
 ·exact .inr (h.ext hg)
theorem OutS.dat {B:Nat} {G:List Ob} {v:Value} {t:List Nat} (h:OutS (fun i=>i<B) G v t) (h0:0<t.length) (xt:∀ y∈t,y<256):Dat B G v t:=by
 rcases h with ⟨id,hb,rfl,h2⟩ | h
 ·refine ⟨id,0,_,_,rfl,⟨⟨_,h2,rfl,fun i hlt => ?_⟩,xt⟩,Ql _,h2,rfl,Nat.le_of_not_lt hb⟩
  have h1:t[i]?=some (t.getD i 0):=by rw [Qt,Qg hlt]; rfl
  rw [QA]
  exact Jj h1
 ·exact h.rd h0 xt
def Ix (ik ina is:Nat) (v:Value):Value := .agg #[.int .i64 5,.slice (some ⟨ik,0,none⟩) 1 1,.slice (some ⟨ina,0,none⟩) 2 2,.slice (some ⟨is,0,none⟩) 1 1,v]
structure Msg (B:Nat) (G:List Ob) (ik ina is:Nat) (v:Value) (nm:List Nat) (e m:Nat) (sig dl:List Nat):Prop where
 k:G[ik]?=some ⟨u8s nm,true,true,true,1⟩
 n:G[ina]?=some ⟨[.int .u32 e,.int .u32 m],true,true,true,1⟩
 s:G[is]?=some ⟨u8s sig,true,true,true,1⟩
 d:Dat B G v dl
 bk:B≤ik∧B≤ina∧B≤is
 lk:B32 nm
 ls:sig.length=64
 xs:∀ y∈sig,y<256
 ld:0<dl.length
theorem Msg.keep {B:Nat} {H G:List Ob} {ik ina is:Nat} {v:Value} {nm:List Nat} {e m:Nat} {sig dl:List Nat} (h:Msg B H ik ina is v nm e m sig dl) (hg:∀ i o,B≤i→H[i]?=some o→o.es=1→G[i]?=some o):Msg B G ik ina is v nm e m sig dl :=
 ⟨hg _ _ h.bk.1 h.k rfl,hg _ _ h.bk.2.1 h.n rfl,hg _ _ h.bk.2.2 h.s rfl,h.d.keep hg,h.bk,h.lk,h.ls,h.xs,h.ld⟩
theorem Msg.ext {B:Nat} {H G:List Ob} {ik ina is:Nat} {v:Value} {nm:List Nat} {e m:Nat} {sig dl:List Nat} (h:Msg B H ik ina is v nm e m sig dl) (hg:∀ i,i<H.length→G[i]?=H[i]?):Msg B G ik ina is v nm e m sig dl :=
 h.keep fun i o _ ho _=>(hg i (Qf.1 ho).1).trans ho
theorem Msg.fr {B:Nat} {G:List Ob} {ik ina is:Nat} {v:Value} {nm:List Nat} {e m:Nat} {sig dl:List Nat} (h:Msg B G ik ina is v nm e m sig dl) (hl:dl.length≤16384):FrV G (.slice (some ⟨ik,0,none⟩) 1 1) (.slice (some ⟨ina,0,none⟩) 2 2) (.slice (some ⟨is,0,none⟩) 1 1) v [nm] [e,m] [sig] dl:=by
 have p:=h.d.part h.ld (by omega)
 exact ⟨.inr ⟨_,1,_,_,_,rfl,by rw [show [nm].flatten=nm by simp]; exact h.k,by rw [Qn]; simp [h.lk.len]⟩,fun x hx=>by rw [Zz.1 hx]; exact h.lk.len,.inr ⟨_,2,_,_,_,rfl,h.n,rfl⟩,.inr ⟨_,1,_,_,_,rfl,by rw [show [sig].flatten=sig by simp]; exact h.s,by rw [Qn]; simp [h.ls]⟩,fun x hx=>by rw [Zz.1 hx]; exact h.ls,⟨p.shape,fun G' hG'=>p.reads G' hG'⟩⟩
end Go.Ev.YtomfgcgnepfmjaaGreat
namespace Go.Ev.YtomfgcgnepfmjaaGreat
open Go Go.Ev
variable {c:Nat}
theorem aI {T:Tab} {n:Option Nat} {e:Env} {H:List Ob} {a:Addr} {x:Value×List Ob×Option (List Nat)×List Nat} (h:ZT T (.load n (.tmp c)) e H=some x) (hc:e.get c=some (.pointer (some a))):x.2=(H,some [a.block],[]):=by
 rw [Uk] at h
 simp only [Q1,opd,hc,Qk] at h
 cases h1:liveAt H a.block with
 | none=>rw [h1] at h; cases h
 | some o =>
  rw [h1] at h
  simp only [Qk] at h
  split at h
  ·cases h2:ZQ n o.cells a.off with
   | none=>rw [h2] at h; cases h
   | some v=>rw [h2] at h; cases h; rfl
  ·cases h
theorem N3 {T:Tab} {n:Nat} {v:Operand} {e:Env} {H:List Ob} {a:Addr} {x:Value×List Ob×Option (List Nat)×List Nat} (h:ZT T (.store n (.tmp c) v) e H=some x) (hc:e.get c=some (.pointer (some a))):x.2.2=(some [a.block],[a.block]):=by
 rw [Wy] at h
 simp only [Q1,opd,hc,Qk] at h
 cases h1:opd e v with
 | none=>simp only [opd] at h1; rw [h1] at h; cases h
 | some w =>
  simp only [opd] at h1
  rw [h1] at h
  simp only [Qk] at h
  split at h
  ·cases h2:storeAt H a w.cells.toList with
   | none=>rw [h2] at h; cases h
   | some G=>rw [h2] at h; cases h; rfl
  ·cases h
theorem I7 {T:Tab} {b a c p q x y:Nat} {n k:Option Nat} {n':Nat} {r:List AOper} {keep:Option (List Nat)} {e:Env} {H:List Ob} {l:List Nat} {ac ap:Addr} (h1:Env.get e c=some (.pointer (some ac))) (h2:Env.get e p=some (.pointer (some ap))) (hne:(ac.block=ap.block)=False) (hxc:(c=x)=False) (hpx:(p=x)=False) (hpy:(p=y)=False) :
  AI T b (.region (⟨some x,.load n (.tmp a),none⟩::⟨some y,.load k (.tmp c),none⟩::⟨none,.store n' (.tmp p) (.tmp q),none⟩::r) keep [(1,2)]) ⟨e,H,l⟩ =
   (steps T b false (⟨some x,.load n (.tmp a),none⟩::⟨some y,.load k (.tmp c),none⟩::⟨none,.store n' (.tmp p) (.tmp q),none⟩::r) ⟨e,H,l⟩).bind fun s'=>some (.normal,s'.after keep):=by
 unfold AI
 rw [KQ]
 have hm:=Yp (T:=T) (b:=b) (⟨some x,.load n (.tmp a),none⟩::⟨some y,.load k (.tmp c),none⟩::⟨none,.store n' (.tmp p) (.tmp q),none⟩::r) ⟨e,H,l⟩ []
 cases hs:steps T b false (⟨some x,.load n (.tmp a),none⟩::⟨some y,.load k (.tmp c),none⟩::⟨none,.store n' (.tmp p) (.tmp q),none⟩::r) ⟨e,H,l⟩ with
 | none =>
  rw [hs] at hm
  rw [Option.map_eq_none_iff.1 hm]; rfl
 | some s' =>
  have g:∀ e:Env,guardOf e none=some true:=fun _=>rfl
  rw [Kh,g]
  unfold steps at hs
  simp only [g] at hs
  dsimp only
  cases hx1:ZT T (.load n (.tmp a)) e H with
  | none=>rw [hx1] at hs; cases hs
  | some x1 =>
   rw [hx1] at hs
   simp only [Qk,XW,Zo,if_false] at hs ⊢
   rw [Kh,g]
   unfold steps at hs
   simp only [g] at hs
   dsimp only
   cases hx2:ZT T (.load k (.tmp c)) (e.put (some x) x1.1) x1.2.1 with
   | none=>rw [hx2] at hs; cases hs
   | some x2 =>
    rw [hx2] at hs
    simp only [Qk,XW,Zo,if_false] at hs ⊢
    have r2:=aI hx2 (a:=ac) (by show Env.get ((x,x1.1)::e) c=_; rw [Gm hxc]; exact h1)
    rw [Kh,g]
    unfold steps at hs
    simp only [g] at hs
    dsimp only
    cases hx3:ZT T (.store n' (.tmp p) (.tmp q)) ((e.put (some x) x1.1).put (some y) x2.1) x2.2.1 with
    | none=>rw [hx3] at hs; cases hs
    | some x3 =>
     rw [hx3] at hs
     simp only [Qk,XW,Zo,if_false] at hs ⊢
     have r3:=N3 hx3 (a:=ap) (by show Env.get ((y,x2.1)::(x,x1.1)::e) p=_; rw [Gm hpy,Gm hpx]; exact h2)
     obtain ⟨m,hm'⟩:=Ww r _ ([]++[(x1.2.2.1,x1.2.2.2)]++[(x2.2.2.1,x2.2.2.2)]++[(x3.2.2.1,x3.2.2.2)]) s' hs
     rw [hm']
     simp only [Qk,r2,r3]
     have:ap.block≠ac.block:=fun h=>by rw [h] at hne; simp at hne
     simp [Z3,GF,this]
theorem fM {α:Type} {x:Option α}:gate False x=none:=by simp [gate]
end Go.Ev.YtomfgcgnepfmjaaGreat
namespace Go.Ev.YtomfgcgnepfmjaaGreat
open Go Go.Ev
attribute [local congr] Jr J7 Jq J8 Jc
set_option maxRecDepth 100000
variable {nm key pub t tx sg:List Nat} {e m n B i id:Nat} {H X0 X:List Ob} {L:List (List Nat)} {k:Int} {ka na sa da hv:Value}
def YR (nm key:List Nat):List Nat:=(nxK nm key).take 32
def Ew (nm key tx:List Nat) (e m:Nat):List Nat:=YK (Bg (YR nm key)) (Bf (YR nm key)) tx (Xk nm e m)
def eT (nm key sg tx:List Nat) (e m:Nat):List Nat:=BW sg (Xk nm e m++Ew nm key tx e m)
theorem al (nm key:List Nat):∀ y∈nxK nm key,y<256:=DV _ _ _
theorem LD (nm key:List Nat):(nxK nm key).length=64:=by rw [nxK,EA,Vv]
theorem MV (nm key:List Nat):B32 (YR nm key):=⟨by rw [YR,Q4,LD]; rfl,fun y hy=>al nm key y (QU hy)⟩
theorem ah (nm key:List Nat):B32 ((nxK nm key).drop 32):=⟨by rw [QG,LD],fun y hy=>al nm key y (ZF hy)⟩
theorem IW {k:List Nat} (hk:B32 k):B32 (Bg k):=⟨(Nf hk).1,fun y hy=>DV _ _ _ y (QU hy)⟩
theorem AX (k:List Nat):∀ y∈Bf k,y<256:=fun y hy=>DV _ _ _ y (ZF (QU hy))
theorem ay (e m:Nat) (hn:B32 nm) (xt:∀ y∈tx,y<256) (lt:tx.length≤2^40):(Ew nm key tx e m).length=tx.length+16∧∀ y∈Ew nm key tx e m,y<256 :=
 dE (IW (MV _ _)) (Nf (MV _ _)).2.1 (AX _) xt (HY e m hn) lt (by rw [BG e m hn.len]; decide)
theorem bE {tv:Value} (hn:B32 nm) (hk:B32 key) (hs:B32 sg) (hm:m<16777216) (ht:HPart (fun i=>i<H.length) H tv tx) (htl:tx.length≤16368) :
  ∃ ik ina is v H',Zb T 24 [.agg (plc nm e m key (u8s sg)).toArray,tv] H=some (.tuple #[.agg (plc nm e (m+1) ((nxK nm key).drop 32) (u8s sg)).toArray,Ix ik ina is v,.int .i64 0],H',[])∧Msg H.length H' ik ina is v nm e m (eT nm key sg tx e m) (Ew nm key tx e m)∧(∀ i,i<H.length→H'[i]?=H[i]?)∧H.length≤H'.length:=by
 have n0:=JK (e:=e) (m:=m) (tl:=u8s sg) hn.len hk.len
 rw [Qn,hs.len] at n0
 have hKb:=MV nm key
 have hX:=ah nm key
 have n1:=JK (e:=e) (m:=m+1) (tl:=u8s sg) hn.len hX.len
 rw [Qn,hs.len] at n1
 obtain ⟨S,hS⟩:∃ X,X=plc nm e m key (u8s sg):=⟨_,rfl⟩
 obtain ⟨S',hS'⟩:∃ X,X=plc nm e (m+1) ((nxK nm key).drop 32) (u8s sg):=⟨_,rfl⟩
 have r1:Q2 32 S=u8s nm:=by rw [hS]; exact DT hn.len
 have r3:Q2 32 (Z9 66 S)=u8s sg:=by rw [hS,MJ hn.len hk.len]; exact QB (by rw [Qn,hs.len])
 have r4:S[32]?=some (.int .u32 e):=by rw [hS]; exact Ax hn.len
 have r5:S[33]?=some (.int .u32 m):=by rw [hS]; exact Vq hn.len
 rw [←hS] at n0
 rw [←hS'] at n1
 rw [←hS,←hS']
 obtain ⟨H1,hH1⟩:∃ G,G=H++[(⟨S,true,true,true,1⟩:Ob),⟨Vu,true,true,true,1⟩,⟨Kq,true,true,true,1⟩,⟨S,true,true,true,1⟩]:=⟨_,rfl⟩
 have l1:H1.length=H.length+4:=by rw [hH1]; simp
 have old1:∀ i,i<H.length→H1[i]?=H[i]? := fun i hi=>by rw [hH1,Qa hi]
 have at1:∀ j o,[(⟨S,true,true,true,1⟩:Ob),⟨Vu,true,true,true,1⟩,⟨Kq,true,true,true,1⟩,⟨S,true,true,true,1⟩][j]?=some o→H1[H.length+j]?=some o:=fun j o hj=>by rw [hH1,Qe (by omega),Qp]; exact hj
 obtain ⟨-,H2,M2,hnx,q1,q2,q3,q4⟩:=LH (e:=e) (m:=m) (tl:=u8s sg) ((at1 3 _ rfl).trans (by rw [hS])) hn hk hm
 rw [←hS'] at q1
 rw [show (nxK nm key).take 32=YR nm key from rfl] at hnx
 obtain ⟨K,hK⟩:∃ X,X=YR nm key:=⟨_,rfl⟩
 rw [←hK] at hnx hKb
 have old2:∀ i,i<H1.length→i≠H.length+3→H2[i]?=H1[i]? := q2
 obtain ⟨H3,hH3⟩:∃ G,G=H2++[(⟨u8s K,true,true,true,1⟩:Ob),⟨u8s nm,true,true,true,1⟩,⟨[.int .u32 e,.int .u32 m],true,true,true,1⟩,⟨u8s (Qc 64 0),true,true,true,1⟩,⟨[.int .i64 5,.slice (some ⟨H2.length+1,0,none⟩) 1 1,.slice (some ⟨H2.length+2,0,none⟩) 2 2,.slice (some ⟨H2.length+3,0,none⟩) 1 1,.slice none 0 0],true,true,true,1⟩]:=⟨_,rfl⟩
 have l3:H3.length=H2.length+5:=by rw [hH3]; simp
 have old3:∀ i,i<H2.length→H3[i]?=H2[i]? := fun i hi=>by rw [hH3,Qa hi]
 have at3:∀ j o,[(⟨u8s K,true,true,true,1⟩:Ob),⟨u8s nm,true,true,true,1⟩,⟨[.int .u32 e,.int .u32 m],true,true,true,1⟩,⟨u8s (Qc 64 0),true,true,true,1⟩,⟨[.int .i64 5,.slice (some ⟨H2.length+1,0,none⟩) 1 1,.slice (some ⟨H2.length+2,0,none⟩) 2 2,.slice (some ⟨H2.length+3,0,none⟩) 1 1,.slice none 0 0],true,true,true,1⟩][j]?=some o→H3[H2.length+j]?=some o:=fun j o hj=>by rw [hH3,Qe (by omega),Qp]; exact hj
 obtain ⟨v1,k1,hfr,o1⟩:=EI (H:=H3) (ka := .slice (some ⟨H2.length+1,0,none⟩) 1 1) (na := .slice (some ⟨H2.length+2,0,none⟩) 2 2) (sa := .slice (some ⟨H2.length+3,0,none⟩) 1 1) (da := .slice none 0 0) (nm:=nm) (e:=e) (m:=m) (.inr ⟨_,1,_,_,_,rfl,at3 1 _ rfl,by rw [Qn,hn.len]⟩) (.inr ⟨_,2,_,_,_,rfl,at3 2 _ rfl,rfl⟩) hn.len
 have lfr:=BG e m hn.len
 have xfr:=HY e m hn
 obtain ⟨H4,hH4⟩:∃ G,G=H3++k1:=⟨_,rfl⟩
 rw [←hH4] at hfr o1
 have l4:H3.length≤H4.length:=by rw [hH4,Qi]; omega
 have old4:∀ i,i<H3.length→H4[i]?=H3[i]? := fun i hi=>by rw [hH4,Qa hi]
 have p1:=o1.part xfr (by rw [lfr]; decide)
 obtain ⟨H5,hH5⟩:∃ G,G=H4++[(⟨[v1],true,true,true,1⟩:Ob)]:=⟨_,rfl⟩
 have l5:H5.length=H4.length+1:=by rw [hH5]; simp
 have old5:∀ i,i<H4.length→H5[i]?=H4[i]? := fun i hi=>by rw [hH5,Qa hi]
 have at5:H5[H4.length]?=some ⟨[v1],true,true,true,1⟩:=by rw [hH5,Qe (Ql _),Qv]; rfl
 have up5:∀ i,i<H.length→H5[i]?=H[i]? := fun i hi=>by rw [old5 i (by omega),old4 i (by omega),old3 i (by omega),old2 i (by omega) (by omega),old1 i hi]
 have hb:=Nf hKb
 obtain ⟨v2,H6,M6,hse,s1,s2,s3,s4⟩:=dD (H:=H5) (d:=tx) (dv:=tv) (pv := .slice (some ⟨H4.length,0,none⟩) 1 1) (xs:=[v1]) (ps:=[Xk nm e m]) (IW hKb) hb.2.1 (AX K) (ht.extK (fun i hi=>by omega) up5) (by omega) (.inr ⟨_,0,1,_,rfl,by omega,at5,rfl,fun i hi=>by rw [QA]⟩) (.cons (p1.extK (fun i hi=>by have:i<H4.length:=hi; omega) old5) .nil) (by show 1<2^50; decide) (by simp [lfr])
 have hD:=ay (key:=key) e m hn ht.lt (by omega)
 rw [show [Xk nm e m].flatten=Xk nm e m by simp,hK,show YK (Bg (YR nm key)) (Bf (YR nm key)) tx (Xk nm e m)=Ew nm key tx e m from rfl] at s1
 obtain ⟨D,hDD⟩:∃ X,X=Ew nm key tx e m:=⟨_,rfl⟩
 rw [←hDD] at s1 hD
 have o2:OutS (fun i=>i<H5.length) H6 v2 D := .inr s1
 obtain ⟨fr2,hfr2⟩:∃ o:Ob,o=⟨[.int .i64 5,.slice (some ⟨H2.length+1,0,none⟩) 1 1,.slice (some ⟨H2.length+2,0,none⟩) 2 2,.slice (some ⟨H2.length+3,0,none⟩) 1 1,v2],true,true,true,1⟩:=⟨_,rfl⟩
 obtain ⟨H8,hH8⟩:∃ G,G=H6.set (H2.length+4) fr2++[(⟨[v1,v2],true,true,true,1⟩:Ob)]:=⟨_,rfl⟩
 have l8:H8.length=H6.length+1:=by rw [hH8]; simp
 have old8:∀ i,i<H6.length→i≠H2.length+4→H8[i]?=H6[i]? := fun i hi hne=>by rw [hH8,Qa (by rw [Qs]; exact hi),Qr (Ne.symm hne)]
 have at8:H8[H6.length]?=some ⟨[v1,v2],true,true,true,1⟩:=by rw [hH8,Qe (by rw [Qs]; exact Ql _),Qs,Qv]; rfl
 have up8:∀ i,i<H3.length→i≠H2.length+4→H8[i]?=H3[i]? := fun i hi hne=>by rw [old8 i (by omega) hne,s2 i (by omega),old5 i (by omega),old4 i hi]
 have o2':OutS (fun i=>i<H5.length) H8 v2 D:=by rw [hH8]; exact (o2.setK (by omega) fr2).app
 have o1':OutS (LtN H3.length) H8 v1 (Xk nm e m):=by
  rw [hH8]
  refine OutS.app (OutS.setK ?_ (by show _<_; omega) fr2)
  exact (o1.ext old5).ext s2
 obtain ⟨k9,hmk⟩:=eZ (H:=H8) (pv := .slice (some ⟨H6.length,0,none⟩) 2 2) (ps:=[Xk nm e m,D]) hs.len hs.lt (Args.arr at8 rfl (.cons (o1'.part xfr (by rw [lfr]; decide)) (.cons (o2'.part hD.2 (by omega)) .nil)) (by decide)) (by show 2≤1000; decide) (by simp [lfr]; omega)
 have hsg:BW sg [Xk nm e m,D].flatten=eT nm key sg tx e m:=by rw [hDD]; simp [eT]
 have ls:=C6 sg [Xk nm e m,D].flatten
 have xs:=dA sg [Xk nm e m,D].flatten
 rw [hsg] at hmk ls xs
 obtain ⟨sig,hsig⟩:∃ X,X=eT nm key sg tx e m:=⟨_,rfl⟩
 rw [←hsig] at hmk ls xs ⊢
 rw [←hDD]
 obtain ⟨H9,hH9⟩:∃ G,G=(H8++k9).set (H2.length+3) (⟨u8s sig,true,true,true,1⟩:Ob):=⟨_,rfl⟩
 have l9:H8.length≤H9.length:=by rw [hH9,Qs,Qi]; omega
 have old9:∀ i,i<H8.length→i≠H2.length+3→H9[i]?=H8[i]? := fun i hi hne=>by rw [hH9,Qr (Ne.symm hne),Qa hi]
 have at9:H9[H2.length+3]?=some ⟨u8s sig,true,true,true,1⟩:=by rw [hH9,Qx (by rw [Qi]; omega)]
 have o29:OutS (fun i=>i<H5.length) H9 v2 D:=by rw [hH9]; exact o2'.app.setK (by omega) _
 obtain ⟨H10,hH10⟩:∃ G,G=(H9.set (H.length+1) (⟨S',true,true,true,1⟩:Ob)).set (H.length+2) fr2:=⟨_,rfl⟩
 have old10:∀ i,i≠H.length+1→i≠H.length+2→H10[i]?=H9[i]? := fun i h1 h2=>by rw [hH10,Qr (Ne.symm h2),Qr (Ne.symm h1)]
 have o210:OutS (fun i=>i<H5.length) H10 v2 D:=by rw [hH10]; exact (o29.setK (by omega) _).setK (by omega) _
 have up93:∀ i,i<H3.length→i≠H2.length+4→i≠H2.length+3→H9[i]?=H3[i]? := fun i hi h1 h2=>by rw [old9 i (by omega) h2,up8 i hi h1]
 refine ⟨H2.length+1,H2.length+2,H2.length+3,v2,H10,?_,⟨?_,?_,?_,(o210.toK fun i hi h'=>hi (show i<H5.length by have:i<H.length:=h'; omega)).dat (by omega) hD.2,⟨by omega,by omega,by omega⟩,hn,ls,xs,by omega⟩,fun i hi => ?_,?_⟩
 rotate_left
 ·rw [old10 _ (by omega) (by omega),up93 _ (by omega) (by omega) (by omega)]; exact at3 1 _ rfl
 ·rw [old10 _ (by omega) (by omega),up93 _ (by omega) (by omega) (by omega)]; exact at3 2 _ rfl
 ·rw [old10 _ (by omega) (by omega)]; exact at9
 ·rw [old10 _ (by omega) (by omega),up93 _ (by omega) (by omega) (by omega),old3 i (by omega),old2 i (by omega) (by omega),old1 i hi]
 ·rw [hH10,Qs,Qs]; omega
 have g2:∀ L:List Ob,(H2++L)[H.length]?=some ⟨S,true,true,true,1⟩:=fun L=>by rw [Qa (by omega),old2 _ (by omega) (by omega)]; exact at1 0 _ rfl
 have g4:H4[H2.length]?=some ⟨u8s K,true,true,true,1⟩:=(old4 _ (by omega)).trans (at3 0 _ rfl)
 have g3:H3[H2.length+4]?=some _:=at3 4 _ rfl
 have g6:H6[H2.length+4]?=some ⟨[.int .i64 5,.slice (some ⟨H2.length+1,0,none⟩) 1 1,.slice (some ⟨H2.length+2,0,none⟩) 2 2,.slice (some ⟨H2.length+3,0,none⟩) 1 1,.slice none 0 0],true,true,true,1⟩:=by rw [s2 _ (by omega),old5 _ (by omega),old4 _ (by omega)]; exact g3
 have g6a:(H6.set (H2.length+4) fr2)[H2.length+4]?=some fr2:=Qx (by omega)
 have g6b:(H6.set (H2.length+4) fr2)[H.length]?=some ⟨S,true,true,true,1⟩:=by rw [Qr (by omega),s2 _ (by omega),old5 _ (by omega),old4 _ (by omega),old3 _ (by omega),old2 _ (by omega) (by omega)]; exact at1 0 _ rfl
 have g8:(H8++k9)[H2.length+3]?=some ⟨u8s (Qc 64 0),true,true,true,1⟩:=by rw [Qa (by omega),up8 _ (by omega) (by omega)]; exact at3 3 _ rfl
 have g9a:H9[H.length+3]?=some ⟨S',true,true,true,1⟩:=by rw [up93 _ (by omega) (by omega) (by omega),old3 _ (by omega)]; exact q1
 have g9b:H9[H2.length+4]?=some fr2:=by rw [old9 _ (by omega) (by omega),hH8,Qa (by rw [Qs]; omega)]; exact g6a
 have g9c:H9[H.length+1]?=some ⟨Vu,true,true,true,1⟩:=by rw [up93 _ (by omega) (by omega) (by omega),old3 _ (by omega),old2 _ (by omega) (by omega)]; exact at1 1 _ rfl
 have g9d:∀ o,(H9.set (H.length+1) o)[H.length+2]?=some ⟨Kq,true,true,true,1⟩:=fun o=>by rw [Qr (by omega),up93 _ (by omega) (by omega) (by omega),old3 _ (by omega),old2 _ (by omega) (by omega)]; exact at1 2 _ rfl
 have g10a:H10[H.length+1]?=some ⟨S',true,true,true,1⟩:=by rw [hH10,Qr (by omega),Qx (by omega)]
 have g10b:H10[H.length+2]?=some fr2:=by rw [hH10,Qx (by rw [Qs]; omega)]
 have nb:(H2.length+4=H.length+1)=False:=eq_false (by omega)
 have hbk:=@I7 T H.length 7 10 4 69 69 70 (some 98) (some 5) 98 [⟨none,.store 5 (.tmp 5) (.tmp 70),none⟩,⟨some 6,.move (.const (.int .i64 0)),none⟩] (some [4,5,6]) [(4,.pointer (some ⟨H.length+1,0,none⟩)),(5,.pointer (some ⟨H.length+2,0,none⟩)),(7,.pointer (some ⟨H.length+3,0,none⟩)),(10,.pointer (some ⟨H2.length+4,0,none⟩))] H9 [] ⟨H2.length+4,0,none⟩ ⟨H.length+1,0,none⟩ rfl rfl nb (eq_false (by decide)) (eq_false (by decide)) (eq_false (by decide))
 have hz64:=Y2
 have lz:(Qc 64 0).length=64:=Qm
 obtain ⟨z32,hz32,lz32⟩:∃ z:List Nat,Qc 32 (Value.int .u8 0)=u8s z∧z.length=32:=⟨Qc 32 0,rfl,rfl⟩
 have f64:=ER lz
 have fz:fillL (u8s (Qc 64 0)) []=some (u8s (Qc 64 0)):=rfl
 rw [hz64] at f64
 have f32:fillL (u8s z32) [(0,32,.agg (u8s nm).toArray)]=some (u8s nm):=by
  have ln:=hn.len
  rw [Kp (VZ ln) (by rw [Qn,lz32]; decide) rfl,show (Value.agg (u8s nm).toArray).cells.toList=u8s nm from rfl,QV (by rw [Qn,Qn,lz32,ln])]
  rfl
 have f2:fillL [Value.int .u32 0,.int .u32 0] [(0,1,.int .u32 (e:Int)),(1,1,.int .u32 (m:Int))]=some [.int .u32 (e:Int),.int .u32 (m:Int)]:=rfl
 have f5:∀ a b c:Addr,fillL Kq [(0,1,.int .i64 5),(1,1,.slice (some a) 1 1),(2,1,.slice (some b) 2 2),(3,1,.slice (some c) 1 1)]=some [.int .i64 5,.slice (some a) 1 1,.slice (some b) 2 2,.slice (some c) 1 1,.slice none 0 0]:=fun _ _ _=>rfl
 obtain ⟨a1,c1,hv1⟩:=o1.shape
 obtain ⟨a2,c2,hv2⟩:=o2.shape
 rw [lfr] at hv1
 have w1:fillL [Value.slice none 0 0] [(0,1,v1)]=some [v1]:=by rw [hv1]; rfl
 have w2:fillL [Value.slice none 0 0,.slice none 0 0] [(0,1,v1),(1,1,v2)]=some [v1,v2]:=by rw [hv1,hv2]; rfl
 have c1v:v2.cells.toList=[v2]:=by rw [hv2]; rfl
 have c2v:v2.cells.size=1:=by rw [hv2]; rfl
 have c3v:okVar v2=true:=by rw [hv2]; rfl
 have sp4:∀ (a b c d e' f':Value),splice [a,b,c,d,e'] 4 [f']=[a,b,c,d,f']:=fun _ _ _ _ _ _=>rfl
 have sp5:∀ (a b c d e':Value),splice Kq 0 [a,b,c,d,e']=[a,b,c,d,e']:=fun _ _ _ _ _=>rfl
 have cl5:∀ a b c d e':Value,Q2 5 [a,b,c,d,e']=[a,b,c,d,e']:=fun _ _ _ _ _=>rfl
 have lzs:Vu.length=98:=rfl
 have lzf:Kq.length=5:=rfl
 have spS:splice Vu 0 S=S:=QV (by rw [n0,lzs])
 have spS':splice Vu 0 S'=S':=QV (by rw [n1,lzs])
 have tS:Q2 98 S=S:=QB n0
 have tS':Q2 98 S'=S':=QB n1
 have spK:=QV (cs:=u8s z32) (v:=u8s K) (by rw [Qn,Qn,hKb.len,lz32])
 have spG:=QV (cs:=u8s (Qc 64 0)) (v:=u8s sig) (by rw [Qn,Qn,ls,lz])
 have tK:Q2 32 (u8s K)=u8s K:=QB (by rw [Qn,hKb.len])
 have e1:((16368:Int)<(tx.length:Int))=False:=eq_false (by omega)
 have hlen:vLen false tv=some (.int .i64 tx.length):=by obtain ⟨a,c,rfl⟩:=ht.shape; rfl
 have ok1:∀ L:List Value,(Value.agg L.toArray).cells.toList=L:=fun _=>rfl
 have ok2:∀ L:List Value,(Value.agg L.toArray).cells.size=L.length:=fun _=>rfl
 have ok3:∀ L:List Value,okVar (Value.agg L.toArray)=true:=fun _=>rfl
 have im1:Qz H.length [] M2=[]:=QN fun i hi=>by have:=q4 i hi; omega
 have im2:Qz H.length [] M6=[]:=QN fun i hi=>by have:=s4 i hi; omega
 have im3:∀ j,Qz H.length [] [H2.length+j]=[]:=fun j=>QN (by simp; omega)
 have im4:∀ j,Qz H.length [] [H.length+j]=[]:=fun j=>QN (by simp)
 have im5:Qz H.length [] [H2.length]=[]:=QN (by simp; omega)
 have h1:=hH1.symm
 have h3:=hH3.symm
 have h5:=hH5.symm
 have h8:=hH8.symm
 have h9:=hH9.symm
 have h10:=hH10.symm
 have hfr2':=hfr2.symm
 have fc:fr2.cells=[.int .i64 5,.slice (some ⟨H2.length+1,0,none⟩) 1 1,.slice (some ⟨H2.length+2,0,none⟩) 2 2,.slice (some ⟨H2.length+3,0,none⟩) 1 1,v2]:=by rw [hfr2]
 have fl:fr2.live=true:=by rw [hfr2]
 have hbv:=hb.2.2
 have lAB:(Bg K++Bf K).length=44:=by rw [Qi,hb.1,hb.2.1]
 have lsg:=hs.len
 have lnm:=hn.len
 have lK:=hKb.len
 clear hH1 hH3 hH4 hH5 hH8 hH9 hH10 hS hS' hK hDD hsig hsg o1 o2 o1' o2' o29 o210 p1 s1 at1 at3 at5 at8 at9 q1 q2 q3 q4 s2 s3 s4 old1 old2 old3 old4 old5 old8 old9 old10 up5 up8 up93 hb hD ht hX xs xfr hn hk hs
 generalize Qc 64 0=Z64,Bg K++Bf K=AB at *
 rw [Q6 (fn:=mV) rfl]
 simp only [mV,Q0,quiet,cW,↓pW,reduceCtorEq,seval,-Qb,r1,r3,r4,r5,hnx,hfr,hbv,hse,hmk,g2,g3,g4,g6,g6a,g6b,g8,g9a,g9b,g9c,g9d,g10a,g10b,f64,fz,f32,f2,f5,w1,w2,hz64,hz32,lz32,c1v,c2v,c3v,sp4,sp5,cl5,lzs,lzf,spS,spS',tS,tS',spK,spG,tK,e1,hlen,ok1,ok2,ok3,im1,im2,im3,im4,im5,h1,h3,h5,h8,h9,h10,hfr2',fc,fl,lz,lAB,lsg,lnm,lK,ls,n0,n1,QB,QX,Zg,ZU,Zh,Qn,Qm,Qs,ZX,Ix,fM,FY,Option.bind_none,hbk]
def fol (nm:List Nat) (e m:Nat) (key pub:List Nat) (hv:Value):List Value:=plc nm e m key (u8s pub++[hv])
theorem UF (h1:nm.length=32) (h2:key.length=32) (h3:pub.length=32):(fol nm e m key pub hv).length=99:=by
 rw [fol,JK h1 h2,Qi,Qn,h3]; rfl
theorem LV (h1:nm.length=32) (h2:key.length=32) (h3:pub.length=32):Q2 32 (Z9 66 (fol nm e m key pub hv))=u8s pub:=by
 rw [fol,MJ h1 h2]
 exact Xw (by rw [Qn,h3])
theorem Gp (h1:nm.length=32) (h2:key.length=32) (h3:pub.length=32):(fol nm e m key pub hv)[98]?=some hv:=by
 rw [fol,HL,Qe (by rw [JK h1 h2]; decide),JK h1 h2,Qe (by rw [Qn,h3]; decide),Qn,h3]; rfl
theorem TP {hv':Value} (h1:nm.length=32) (h2:key.length=32) (h3:pub.length=32):(fol nm e m key pub hv).set 98 hv'=fol nm e m key pub hv':=by
 rw [fol,HL,Q9 _ _ (by rw [JK h1 h2]; decide),JK h1 h2,Q9 _ _ (by rw [Qn,h3]; decide),Qn,h3,fol,HL nm e m key (u8s pub++[hv'])]; rfl
theorem fH {fv:Value}:Zb T 94 [.slice none 0 0,fv] H=some (.int .i64 (-1),H,[]):=by
 obtain ⟨st,hA,rfl⟩:=QY (T:=T) (base:=H.length) (id:=0) (body:=Ca)
  (fun i st=>st=⟨[(0,.slice none 0 0),(1,fv),(7,.int .i64 0),(8,.int .i64 0)],H,[]⟩) (Q:=fun st=>st=⟨[(0,.slice none 0 0),(1,fv),(7,.int .i64 0),(8,.int .i64 0),(9,.bool false)],H,[]⟩)
  0 (s:=⟨[(0,.slice none 0 0),(1,fv),(7,.int .i64 0),(8,.int .i64 0)],H,[]⟩) rfl (fun i st hi=>absurd hi (Xf _))
  (fun st hs=>by
   subst hs
   refine ⟨_,?_,rfl⟩
   have e1:((0:Int)<0)=False:=eq_false (by decide)
   simp only [Ca,Q0,quiet,cW,↓pW,reduceCtorEq,seval,-Qb,e1])
 have hlen:vLen false (.slice none 0 0)=some (.int .i64 0):=rfl
 rw [Q6 (fn:=mM) rfl]
 simp only [mM,Q0,quiet,cW,↓pW,reduceCtorEq,seval,-Qb,hlen,hA]
theorem OO:Zb T 49 [.slice none 0 0] H=some (.slice none 0 0,H,[]):=by
 have h1:Vn 1 (.slice none 0 0)=some true:=rfl
 rw [Q6 (fn:=mR) rfl]
 simp only [mR,Q0,quiet,cW,↓pW,reduceCtorEq,seval,-Qb,h1]
theorem f9 {mi:Nat} (ho:H[id]?=some ⟨fol nm e m key pub (.slice none 0 0),true,true,true,1⟩) (hn:B32 nm) (hk:B32 key) (hp:pub.length=32) (hm:mi<m) :
  ∃ l,Zb T 50 [.pointer (some ⟨id,0,none⟩),.int .u32 mi] H=some (.tuple #[.agg (u8s (Qc 32 0)).toArray,.int .i64 151],H++l,[]):=by
 have hid:=(Qf.1 ho).1
 obtain ⟨z,hz,lz⟩:∃ z:List Nat,Qc 32 (Value.int .u8 0)=u8s z∧z=Qc 32 0:=⟨Qc 32 0,rfl,rfl⟩
 have l32:z.length=32:=by rw [lz]; rfl
 have g1:∀ L:List Ob,(H++L)[id]?=some ⟨fol nm e m key pub (.slice none 0 0),true,true,true,1⟩:=fun L=>by rw [Qa hid]; exact ho
 have num:(fol nm e m key pub (.slice none 0 0))[33]?=some (.int .u32 m):=Vq hn.len
 have hv:=Gp (e:=e) (m:=m) (hv := .slice none 0 0) hn.len hk.len hp
 have hl:=UF (e:=e) (m:=m) (hv := .slice none 0 0) hn.len hk.len hp
 have e1:((mi:Int)<(m:Int))=True:=eq_true (by omega)
 have g2:∀ o1 o2:Ob,(H++[o1,o2])[H.length]?=some o1:=fun _ _=>by rw [Qe (Ql _),Qv]; rfl
 have g3:∀ o1 o2:Ob,(H++[o1,o2])[H.length+1]?=some o2:=fun _ _=>by rw [Qe (by omega),Qp]; rfl
 have t3:∀ o1 o2 o:Ob,(H++[o1,o2]).set (H.length+1) o=H++[o1,o]:=fun _ _ _=>by rw [Q9 _ _ (by omega),Qp]; rfl
 have hi:=@fH
 have im:∀ L,Qz H.length L [H.length+1]=L:=fun L=>QN (by simp)
 have fz:fillL (u8s z) []=some (u8s z):=rfl
 have sp:=QV (cs:=u8s z) (v:=u8s z) rfl
 have tz:Q2 32 (u8s z)=u8s z:=QB (by rw [Qn,l32])
 have e2:((-1:Int)<0)=True:=eq_true (by decide)
 have ok1:∀ L:List Value,(Value.agg L.toArray).cells.toList=L:=fun _=>rfl
 have ok2:∀ L:List Value,(Value.agg L.toArray).cells.size=L.length:=fun _=>rfl
 have ok3:∀ L:List Value,okVar (Value.agg L.toArray)=true:=fun _=>rfl
 rw [←lz]
 clear lz ho
 generalize fol nm e m key pub (.slice none 0 0)=F at *
 refine ⟨[⟨[.int .u32 mi],true,true,true,1⟩,⟨u8s z,true,true,true,1⟩],?_⟩
 rw [Q6 (fn:=cA) rfl]
 simp only [cA,Q0,quiet,cW,↓pW,reduceCtorEq,seval,-Qb,hz,l32,g1,g2,g3,t3,num,hv,hl,e1,e2,hi,im,fz,sp,tz,ok1,ok2,ok3,Vm,Qn]
def kyS (id a b:Nat) (H:List Ob) (L:List Nat) (ex:Env):St:=⟨[(0,.pointer (some ⟨id,0,none⟩)),(3,.pointer (some ⟨a,0,none⟩)),(4,.pointer (some ⟨b,0,none⟩))]++ex,H,L⟩
theorem fE (ho:H[id]?=some ⟨fol nm e m key pub (.slice none 0 0),true,true,true,1⟩) (hn:B32 nm) (hk:B32 key) (hp:pub.length=32) (hm:m<16777216) :
  ∃ H' M,Zb T 50 [.pointer (some ⟨id,0,none⟩),.int .u32 m] H=some (.tuple #[.agg (u8s (YR nm key)).toArray,.int .i64 0],H',M)∧H'[id]?=some ⟨fol nm e (m+1) ((nxK nm key).drop 32) pub (.slice none 0 0),true,true,true,1⟩∧(∀ i,i<H.length→i≠id→H'[i]?=H[i]?)∧H.length≤H'.length∧∀ i∈M,i=id:=by
 have hid:=(Qf.1 ho).1
 obtain ⟨z,hz,lz⟩:∃ z:List Nat,Qc 32 (Value.int .u8 0)=u8s z∧z.length=32:=⟨Qc 32 0,rfl,rfl⟩
 obtain ⟨H1,hH1⟩:∃ G,G=H++[(⟨[.int .u32 m],true,true,true,1⟩:Ob),⟨u8s z,true,true,true,1⟩]:=⟨_,rfl⟩
 have l1:H1.length=H.length+2:=by rw [hH1]; simp
 have g1:H1[id]?=some ⟨fol nm e m key pub (.slice none 0 0),true,true,true,1⟩:=by rw [hH1,Qa hid]; exact ho
 have g1i:H1[H.length]?=some ⟨[.int .u32 m],true,true,true,1⟩:=by rw [hH1,Qe (Ql _),Qv]; rfl
 obtain ⟨-,H2,M2,hnx,q1,q2,q3,q4⟩:=LH (e:=e) (m:=m) (tl:=u8s pub++[.slice none 0 0]) g1 hn hk hm
 rw [show (nxK nm key).take 32=YR nm key from rfl] at hnx
 have hKb:=MV nm key
 generalize YR nm key=K at *
 have num:(fol nm e m key pub (.slice none 0 0))[33]?=some (.int .u32 m):=Vq hn.len
 have hv:=Gp (e:=e) (m:=m) (hv := .slice none 0 0) hn.len hk.len hp
 have hl:=UF (e:=e) (m:=m) (hv := .slice none 0 0) hn.len hk.len hp
 have hsv:=TP (e:=e) (m:=m) (hv := .slice none 0 0) (hv' := .slice none 0 0) hn.len hk.len hp
 have hq:∀ k tl,plc nm e (m+1) k (u8s pub++[tl])=fol nm e (m+1) k pub tl:=fun _ _=>rfl
 rw [hq] at q1
 generalize fol nm e m key pub (.slice none 0 0)=F at *
 generalize fol nm e (m+1) ((nxK nm key).drop 32) pub (.slice none 0 0)=F' at *
 have e1:((m:Int)<(m:Int))=False:=eq_false (by omega)
 obtain ⟨st,hA,rfl⟩:=QY (T:=T) (base:=H.length) (id:=0) (body:=Cb)
  (fun i st=>st=kyS id H.length (H.length+1) H1 [] [(54,.bool false)]) (Q:=fun st=>st=kyS id H.length (H.length+1) H1 [] [(62,.bool false)])
  0 (s:=kyS id H.length (H.length+1) H1 [] [(54,.bool false)]) rfl (fun i st hi=>absurd hi (Xf _))
  (fun st hs=>by
   subst hs
   refine ⟨_,?_,rfl⟩
   simp only [kyS,Cb,Q0,quiet,cW,↓pW,reduceCtorEq,seval,-Qb,e1,g1,g1i,num])
 refine ⟨H2.set (H.length+1) ⟨u8s K,true,true,true,1⟩,Qz H.length (Qz H.length [] [id]) M2,?_,?_,fun i hi hne => ?_,?_,fun i hi => ?_⟩
 rotate_left
 ·rw [Qr (by omega)]; exact q1
 ·rw [Qr (by omega),q2 i (by omega) hne,hH1,Qa hi]
 ·rw [Qs]; omega
 ·rcases Zl hi with h | h
  ·rcases Zl h with h | h
   ·simp at h
   ·exact Zz.1 h
  ·exact q4 i h
 have h1:=hH1.symm
 have w1:IntKind.u32.wrap ((m:Int)-(m:Int))=0:=by rw [Int.sub_self]; rfl
 have e2:((1000:Int)<0)=False:=eq_false (by decide)
 have hlen:vLen false (.slice none 0 0)=some (.int .i64 0):=rfl
 have w2:IntKind.i64.wrap (0-1000) = -1000:=by decide
 have mx:U6 true (.int .i64 0) (.int .i64 (-1000))=some (.int .i64 0):=rfl
 have b1:ZG 0 0 (some (.int .i64 0)) none none=some (0,0,0):=rfl
 have ss:=YJ g1
 have g3:H2[H.length+1]?=some ⟨u8s z,true,true,true,1⟩:=by rw [q2 _ (by omega) (by omega),hH1,Qe (by omega),Qp]; rfl
 have g4:∀ o,(H2.set (H.length+1) o)[H.length+1]?=some o:=fun o=>Qx (by omega)
 have im:∀ L,Qz H.length L [H.length+1]=L:=fun L=>QN (by simp)
 have sp:=QV (cs:=u8s z) (v:=u8s K) (by rw [Qn,Qn,lz,hKb.len])
 have tK:Q2 32 (u8s K)=u8s K:=QB (by rw [Qn,hKb.len])
 have lK:=hKb.len
 have ok1:∀ L:List Value,(Value.agg L.toArray).cells.toList=L:=fun _=>rfl
 have ok2:∀ L:List Value,(Value.agg L.toArray).cells.size=L.length:=fun _=>rfl
 have ok3:∀ L:List Value,okVar (Value.agg L.toArray)=true:=fun _=>rfl
 simp only [kyS,Qu,Qo] at hA
 clear hH1 q1 q2 q3 q4 hKb ho
 rw [Q6 (fn:=cA) rfl]
 simp only [cA,Q0,quiet,cW,↓pW,reduceCtorEq,seval,-Qb,hz,lz,h1,g1,g1i,g3,g4,num,hv,hl,hsv,e1,e2,w1,w2,hlen,mx,b1,ss,im,sp,tK,lK,hnx,hA,ok1,ok2,ok3,Vm,Qn]
theorem Fk {ik ina is m mi:Nat} {v:Value} {dl:List Nat} (h:Msg B H ik ina is v nm e mi (BW sg (Xk nm e mi++dl)) dl) (hk:B32 key) (hs:B32 sg) (hdl:dl.length≤16384) (xd:∀ y∈dl,y<256) (hm:m<16777216) (hle:mi≤m) (hd:mi=m→dl=Ew nm key tx e m∧tx.length≤16368∧∀ y∈tx,y<256) :
  ∃ H' r v' c,Zb T 18 [.agg (fol nm e m key (XL sg) (.slice none 0 0)).toArray,Ix ik ina is v] H=some (.tuple #[.agg r.toArray,v',.int .i64 c],H',[])∧(∀ i,i<H.length→H'[i]?=H[i]?)∧H.length≤H'.length ∧
   ((mi<m∧r=fol nm e m key (XL sg) (.slice none 0 0)∧v'=.slice none 0 0∧c=151)∨(mi=m∧r=fol nm e (m+1) ((nxK nm key).drop 32) (XL sg) (.slice none 0 0)∧c=0∧OutS (fun i=>i<H.length) H' v' tx)):=by
 have hn:=h.lk
 have lpu:=BZ sg
 have xpu:=L4 sg
 have hX:=ah nm key
 have hKb:=MV nm key
 obtain ⟨F,hF⟩:∃ X,X=fol nm e m key (XL sg) (.slice none 0 0):=⟨_,rfl⟩
 have n0:=UF (e:=e) (m:=m) (hv := .slice none 0 0) hn.len hk.len lpu
 have r1:Q2 32 F=u8s nm:=by rw [hF]; exact DT hn.len
 have r3:Q2 32 (Z9 66 F)=u8s (XL sg):=by rw [hF]; exact LV hn.len hk.len lpu
 have r4:F[32]?=some (.int .u32 e):=by rw [hF]; exact Ax hn.len
 have r6:F[98]?=some (.slice none 0 0):=by rw [hF]; exact Gp hn.len hk.len lpu
 have r7:F.set 98 (.slice none 0 0)=F:=by rw [hF]; exact TP hn.len hk.len lpu
 rw [←hF] at n0 ⊢
 obtain ⟨sg1,hsg1⟩:∃ X,X=BW sg (Xk nm e mi++dl):=⟨_,rfl⟩
 obtain ⟨fo,hfo⟩:∃ o:Ob,o=⟨[.int .i64 5,.slice (some ⟨ik,0,none⟩) 1 1,.slice (some ⟨ina,0,none⟩) 2 2,.slice (some ⟨is,0,none⟩) 1 1,v],true,true,true,1⟩:=⟨_,rfl⟩
 obtain ⟨H1,hH1⟩:∃ G,G=H++[(⟨F,true,true,true,1⟩:Ob),fo,⟨Jo,true,true,true,1⟩]:=⟨_,rfl⟩
 have l1:H1.length=H.length+3:=by rw [hH1]; simp
 have at1:∀ j o,[(⟨F,true,true,true,1⟩:Ob),fo,⟨Jo,true,true,true,1⟩][j]?=some o→H1[H.length+j]?=some o:=fun j o hj=>by rw [hH1,Qe (by omega),Qp]; exact hj
 have old1:∀ i,i<H.length→H1[i]?=H[i]? := fun i hi=>by rw [hH1,Qa hi]
 have m1:=h.ext old1
 obtain ⟨v0,k1,hen,-⟩:=UG (k:=5) (m1.fr hdl)
 have hE:frE 5 [nm].length [e,mi].length [BW sg (Xk nm e mi++dl)].length dl.length=0:=by
  show (if (1=1∧2=2∧1=1∧(true=true∨dl.length=0)) then (if 16384<dl.length then (2:Int) else 0) else 110)=0
  rw [if_pos (by simp),if_neg (by omega)]
 rw [hE] at hen
 obtain ⟨H2,hH2⟩:∃ G,G=H1++k1:=⟨_,rfl⟩
 rw [←hH2] at hen
 have l2:H1.length≤H2.length:=by rw [hH2,Qi]; omega
 have old2:∀ i,i<H1.length→H2[i]?=H1[i]? := fun i hi=>by rw [hH2,Qa hi]
 have m2:=m1.ext old2
 obtain ⟨v1,k2,hfr,o1⟩:=EI (H:=H2) (ka := .slice (some ⟨ik,0,none⟩) 1 1) (na := .slice (some ⟨ina,0,none⟩) 2 2) (sa := .slice (some ⟨is,0,none⟩) 1 1) (da:=v) (nm:=nm) (e:=e) (m:=mi) (.inr ⟨_,1,_,_,_,rfl,m2.k,by rw [Qn,hn.len]⟩) (.inr ⟨_,2,_,_,_,rfl,m2.n,rfl⟩) hn.len
 have lfr:=BG e mi hn.len
 have xfr:=HY e mi hn
 obtain ⟨H3,hH3⟩:∃ G,G=H2++k2:=⟨_,rfl⟩
 rw [←hH3] at hfr o1
 have l3:H2.length≤H3.length:=by rw [hH3,Qi]; omega
 have old3:∀ i,i<H2.length→H3[i]?=H2[i]? := fun i hi=>by rw [hH3,Qa hi]
 have m3:=m2.ext old3
 have p1:=o1.part xfr (by rw [lfr]; decide)
 obtain ⟨H4,hH4⟩:∃ G,G=H3++[(⟨[v1,v],true,true,true,1⟩:Ob)]:=⟨_,rfl⟩
 have l4:H4.length=H3.length+1:=by rw [hH4]; simp
 have old4:∀ i,i<H3.length→H4[i]?=H3[i]? := fun i hi=>by rw [hH4,Qa hi]
 have at4:H4[H3.length]?=some ⟨[v1,v],true,true,true,1⟩:=by rw [hH4,Qe (Ql _),Qv]; rfl
 have m4:=m3.ext old4
 have p2:=m3.d.part h.ld (by omega)
 obtain ⟨k3,c,hck,hsp⟩:=bJ (H:=H4) (pub:=XL sg) (front:=frL sg (Xk nm e mi++dl)) (back:=bkL sg (Xk nm e mi++dl)) (pv := .slice (some ⟨H3.length,0,none⟩) 2 2) (ps:=[Xk nm e mi,dl]) lpu xpu (AO _ _) (IG _ _) (AY _ _) (bS _ _) (Args.arr at4 rfl (.cons (p1.extK (fun i hi=>by have:i<H3.length:=hi; show i<_; omega) old4) (.cons (p2.extK (fun i hi=>by show i<_; omega) old4) .nil)) (by decide)) (by show 2≤1000; decide) (by simp [lfr]; omega)
 rw [show [Xk nm e mi,dl].flatten=Xk nm e mi++dl by simp] at hsp
 have hc:=du hsp
 subst hc
 rw [show frL sg (Xk nm e mi++dl)++bkL sg (Xk nm e mi++dl)=sg1 by rw [hsg1]; rfl] at hck
 obtain ⟨H5,hH5⟩:∃ G,G=H4++k3:=⟨_,rfl⟩
 rw [←hH5] at hck
 have l5:H4.length≤H5.length:=by rw [hH5,Qi]; omega
 have old5:∀ i,i<H4.length→H5[i]?=H4[i]? := fun i hi=>by rw [hH5,Qa hi]
 obtain ⟨H6,hH6⟩:∃ G,G=H5++[(⟨F,true,true,true,1⟩:Ob)]:=⟨_,rfl⟩
 have l6:H6.length=H5.length+1:=by rw [hH6]; simp
 have old6:∀ i,i<H5.length→H6[i]?=H5[i]? := fun i hi=>by rw [hH6,Qa hi]
 have at6:H6[H5.length]?=some ⟨F,true,true,true,1⟩:=by rw [hH6,Qe (Ql _),Qv]; rfl
 have up6:∀ i,i<H3.length→H6[i]?=H3[i]? := fun i hi=>by rw [old6 i (by omega),old5 i (by omega),old4 i hi]
 have up61:∀ i,i<H1.length→H6[i]?=H1[i]? := fun i hi=>by rw [up6 i (by omega),old3 i (by omega),old2 i hi]
 have m6:Msg B H6 ik ina is v nm e mi _ dl:=m3.ext up6
 obtain ⟨z,hz,lz⟩:∃ z:List Nat,Qc 32 (Value.int .u8 0)=u8s z∧z.length=32:=⟨Qc 32 0,rfl,rfl⟩
 have g0:∀ L:List Ob,(H++[(⟨F,true,true,true,1⟩:Ob),fo,⟨Jo,true,true,true,1⟩]++L)[H.length+1]?=some fo:=fun L=>by rw [Qw,Qe (by omega),Qp]; rfl
 have mk':=m2.k
 have mn':=m2.n
 have ms3:=m3.s
 have mn6:=m6.n
 rw [←hsg1] at ms3
 have lsg:sg1.length=64:=by rw [hsg1]; exact h.ls
 obtain ⟨av,cv,hvs⟩:=p2.shape
 obtain ⟨a1,c1,hv1⟩:=o1.shape
 rw [lfr] at hv1
 have w1:fillL [Value.slice none 0 0] [(0,1,v1)]=some [v1]:=by rw [hv1]; rfl
 have w2:fillL [Value.slice none 0 0,.slice none 0 0] [(0,1,v1),(1,1,v)]=some [v1,v]:=by rw [hv1,hvs]; rfl
 have cl5:∀ a b c d e':Value,Q2 5 [a,b,c,d,e']=[a,b,c,d,e']:=fun _ _ _ _ _=>rfl
 have tnm:Q2 32 (u8s nm)=u8s nm:=QB (by rw [Qn,hn.len])
 have tsg:Q2 64 (u8s sg1)=u8s sg1:=QB (by rw [Qn,lsg])
 have tpu:Q2 32 (u8s (XL sg))=u8s (XL sg):=QB (by rw [Qn,lpu])
 have hq:=XT hn.len hn.len
 have q1:H1[H.length]?=some ⟨F,true,true,true,1⟩:=at1 0 _ rfl
 have q1f:H1[H.length+1]?=some fo:=at1 1 _ rfl
 have q2:H2[H.length]?=some ⟨F,true,true,true,1⟩:=(old2 _ (by omega)).trans q1
 have q2f:H2[H.length+1]?=some fo:=(old2 _ (by omega)).trans q1f
 have q3:H3[H.length]?=some ⟨F,true,true,true,1⟩:=(old3 _ (by omega)).trans q2
 have q3f:H3[H.length+1]?=some fo:=(old3 _ (by omega)).trans q2f
 have q5:H5[H.length]?=some ⟨F,true,true,true,1⟩:=by rw [old5 _ (by omega),old4 _ (by omega)]; exact q3
 have q6:H6[H.length]?=some ⟨F,true,true,true,1⟩:=(old6 _ (by omega)).trans q5
 have q6f:H6[H.length+1]?=some fo:=(up61 _ (by omega)).trans q1f
 have lzF:Jo.length=99:=rfl
 have tF:Q2 99 F=F:=QB n0
 have spF:splice Jo 0 F=F:=QV (by rw [n0,lzF])
 have a5:∀ o1 o:Ob,(H5++[o1]).set H5.length o=H5++[o]:=fun _ _=>by rw [Q9 _ _ (Ql _),Qv]; rfl
 have ss:=YJ at6
 have a6:=at6
 have hcl:=@OO
 have ok1:∀ L:List Value,(Value.agg L.toArray).cells.toList=L:=fun _=>rfl
 have ok2:∀ L:List Value,(Value.agg L.toArray).cells.size=L.length:=fun _=>rfl
 have ok3:∀ L:List Value,okVar (Value.agg L.toArray)=true:=fun _=>rfl
 have im1:∀ j,Qz H.length [] [H5.length+j]=[]:=fun j=>QN (by simp; omega)
 have im0:Qz H.length [] [H5.length]=[]:=QN (by simp; omega)
 have im2:∀ j,Qz H.length [] [H.length+j]=[]:=fun j=>QN (by simp)
 have h1:=hH1.symm
 have h4:=hH4.symm
 have h6:=hH6.symm
 have hfoc:fo.cells=[.int .i64 5,.slice (some ⟨ik,0,none⟩) 1 1,.slice (some ⟨ina,0,none⟩) 2 2,.slice (some ⟨is,0,none⟩) 1 1,v]:=by rw [hfo]
 have hfol:fo.live=true:=by rw [hfo]
 have hfo':=hfo.symm
 have lnm:=hn.len
 have lfs:=hfo
 have tz:Q2 32 (u8s z)=u8s z:=QB (by rw [Qn,lz])
 have cls:okVar v=true∧v.cells.toList=[v]∧v.cells.size=1:=by rw [hvs]; exact ⟨rfl,rfl,rfl⟩
 obtain ⟨cv1,cv2,cv3⟩:=cls
 rcases Z1 mi m with hlt | hge
 ·obtain ⟨k7,hky⟩:=f9 (H:=H6) (id:=H5.length) (e:=e) (m:=m) (mi:=mi) (nm:=nm) (key:=key) (pub:=XL sg) (at6.trans (by rw [hF])) hn hk lpu hlt
  obtain ⟨H8,hH8⟩:∃ G,G=H6++k7++[(⟨u8s (Qc 32 0),true,true,true,1⟩:Ob)]:=⟨_,rfl⟩
  have up8:∀ i,i<H6.length→H8[i]?=H6[i]? := fun i hi=>by rw [hH8,Qw,Qa hi]
  have l8:H6.length≤H8.length:=by rw [hH8,Qw,Qi]; omega
  refine ⟨H8.set (H.length+2) ⟨F,true,true,true,1⟩,F,.slice none 0 0,151,?_,fun i hi => ?_,?_,.inl ⟨hlt,rfl,rfl,rfl⟩⟩
  rotate_left
  ·rw [Qr (by omega),up8 i (by omega),up61 i (by omega),old1 i hi]
  ·rw [Qs]; omega
  have e8:H8[H.length]?=some ⟨F,true,true,true,1⟩:=(up8 _ (by omega)).trans q6
  have e8z:H8[H.length+2]?=some ⟨Jo,true,true,true,1⟩:=by rw [up8 _ (by omega),up61 _ (by omega)]; exact at1 2 _ rfl
  have e8s:∀ o,(H8.set (H.length+2) o)[H.length+2]?=some o:=fun o=>Qx (by omega)
  have a8:∀ o1 o:Ob,(H6++k7++[o1]).set (H6++k7).length o=H6++k7++[o]:=fun _ _=>by rw [Q9 _ _ (Ql _),Qv]; rfl
  have a8g:∀ o1:Ob,(H6++k7++[o1])[(H6++k7).length]?=some o1:=fun _=>by rw [Qe (Ql _),Qv]; rfl
  have h8:=hH8.symm
  obtain ⟨zz,hzz⟩:∃ x,x=Qc 32 0:=⟨_,rfl⟩
  have lzz:zz.length=32:=by rw [hzz]; rfl
  rw [←hzz] at hky h8
  have sz:=QV (cs:=u8s z) (v:=u8s zz) (by rw [Qn,Qn,lz,lzz])
  have im9:Qz H.length [] [(H6++k7).length]=[]:=QN (by simp; omega)
  generalize hG7:H6++k7=G7 at *
  clear hH1 hH2 hH3 hH4 hH5 hH6 hH8 hE hF hd hzz o1 p1 p2 m1 m2 m3 m4 m6 h hsp at1 at4 at6 old1 old2 old3 old4 old5 old6 up6 up61 up8 hsg1 hn hk hs hX hKb xpu xfr xd hfo
  generalize XL sg=pub at *
  rw [Q6 (fn:=cB) rfl]
  simp only [cB,Q0,quiet,cW,↓pW,reduceCtorEq,seval,-Qb,r1,r3,r4,r6,r7,hen,hfr,hck,hky,hcl,hz,lz,g0,mk',mn',ms3,mn6,w1,w2,cl5,tnm,tsg,tpu,hq,q1,q1f,q2,q2f,q3,q3f,q5,q6,q6f,lzF,tF,spF,a5,a6,ss,ok1,ok2,ok3,im0,im1,im2,h1,h4,h6,hfoc,hfol,hfo',lnm,lsg,lpu,tz,cv1,cv2,cv3,e8,e8z,e8s,a8,a8g,h8,lzz,sz,im9,n0,QB,QX,Zg,ZU,Zh,Qn,Qm,Qs,ZX,Ix]
 ·obtain rfl:mi=m:=by omega
  obtain ⟨hdd,htl,xt⟩:=hd rfl
  obtain ⟨H7,M7,hky,b1,b2,b3,b4⟩:=fE (H:=H6) (id:=H5.length) (e:=e) (m:=mi) (nm:=nm) (key:=key) (pub:=XL sg) (at6.trans (by rw [hF])) hn hk lpu hm
  obtain ⟨F',hF'⟩:∃ X,X=fol nm e (mi+1) ((nxK nm key).drop 32) (XL sg) (.slice none 0 0):=⟨_,rfl⟩
  have n1:=UF (e:=e) (m:=mi+1) (hv := .slice none 0 0) hn.len hX.len lpu
  rw [←hF'] at b1 n1 ⊢
  have tF':Q2 99 F'=F':=QB n1
  have spF':splice Jo 0 F'=F':=QV (by rw [n1,lzF])
  have hbx:=Nf hKb
  have xA:=IW hKb
  have xB:=AX (YR nm key)
  obtain ⟨H9,hH9⟩:∃ G,G=H7++[(⟨u8s (YR nm key),true,true,true,1⟩:Ob),⟨[v1],true,true,true,1⟩]:=⟨_,rfl⟩
  have l9:H9.length=H7.length+2:=by rw [hH9]; simp
  have up9:∀ i,i<H7.length→H9[i]?=H7[i]? := fun i hi=>by rw [hH9,Qa hi]
  have up96:∀ i,i<H5.length→H9[i]?=H6[i]? := fun i hi=>by rw [up9 i (by omega),b2 i (by omega) (by omega)]
  have up93:∀ i,i<H3.length→H9[i]?=H3[i]? := fun i hi=>by rw [up96 i (by omega),up6 i hi]
  have e9v:H9[H7.length+1]?=some ⟨[v1],true,true,true,1⟩:=by rw [hH9,Qe (by omega),Qp]; rfl
  obtain ⟨di,dof,dc,dob,rfl,d1,d2,d3,d4,-⟩:=(m3.ext up93).d
  have hdd2:dl=YK (Bg (YR nm key)) (Bf (YR nm key)) tx [Xk nm e mi].flatten:=by rw [hdd]; simp [Ew]
  obtain ⟨v2,H10,M10,hop,c1',c2',c3',c4'⟩:=ej (H:=H9) (id:=di) (off:=dof) (c:=dc) (d:=tx) (pv := .slice (some ⟨H7.length+1,0,none⟩) 1 1) (xs:=[v1]) (ps:=[Xk nm e mi]) xA hbx.2.1 xB (by rw [←hdd2]; exact d1) xt (by omega) (.inr ⟨_,0,1,_,rfl,by omega,e9v,rfl,fun i hi=>by rw [QA]⟩) (.cons (p1.extK (fun i hi=>by have:i<H3.length:=hi; omega) up93) .nil) (by show 1<2^50; decide) (by simp [lfr]) (by rw [←hdd2]; exact d2) (fun o ho=>by rw [d3] at ho; cases ho; exact .inr (.inr (Nat.le_of_eq d4.symm)))
  rw [←hdd2] at hop
  have u10:∀ i,i<H.length→H10[i]?=H[i]? := fun i hi=>by rw [c2' i (by omega),up93 i (by omega),old3 i (by omega),old2 i (by omega),old1 i hi]
  refine ⟨H10.set (H.length+2) ⟨F',true,true,true,1⟩,F',v2,0,?_,fun i hi => ?_,?_,.inr ⟨rfl,rfl,rfl,?_⟩⟩
  rotate_left
  ·rw [Qr (by omega),u10 i hi]
  ·rw [Qs]; omega
  ·have ho:OutS (fun i=>i<H9.length) (H10.set (H.length+2) ⟨F',true,true,true,1⟩) v2 tx:=OutS.setK (.inr c1') (by show _<_; omega) _
   exact ho.toK fun i hi h'=>hi (show i<H9.length by have:i<H.length:=h'; omega)
  have e9a:H7[H.length+1]?=some fo:=by rw [b2 _ (by omega) (by omega)]; exact q6f
  have e9b:∀ L:List Ob,(H7++L)[H.length+1]?=some fo:=fun L=>by rw [Qa (by omega)]; exact e9a
  have e9c:∀ o:Ob,(H7++[o])[H7.length]?=some o:=fun o=>by rw [Qe (Ql _),Qv]; rfl
  have a9:∀ o1 o:Ob,(H7++[o1]).set H7.length o=H7++[o]:=fun _ _=>by rw [Q9 _ _ (Ql _),Qv]; rfl
  have e10:H10[H5.length]?=some ⟨F',true,true,true,1⟩:=by rw [c2' _ (by omega),up9 _ (by omega)]; exact b1
  have e10z:H10[H.length+2]?=some ⟨Jo,true,true,true,1⟩:=by rw [c2' _ (by omega),up96 _ (by omega),up61 _ (by omega)]; exact at1 2 _ rfl
  have e10s:∀ o,(H10.set (H.length+2) o)[H.length+2]?=some o:=fun o=>Qx (by omega)
  have im7:Qz H.length [] M7=[]:=QN fun i hi=>by have:=b4 i hi; omega
  have im10:Qz H.length [] M10=[]:=QN fun i hi=>by have:=c4' i hi; omega
  have im9:Qz H.length [] [H7.length]=[]:=QN (by simp; omega)
  have h9:=hH9.symm
  have hbv:=hbx.2.2
  have lAB:(Bg (YR nm key)++Bf (YR nm key)).length=44:=by rw [Qi,hbx.1,hbx.2.1]
  have lK:=hKb.len
  generalize Bg (YR nm key)++Bf (YR nm key)=AB at *
  generalize YR nm key=K at *
  have sK:=QV (cs:=u8s z) (v:=u8s K) (by rw [Qn,Qn,lz,lK])
  have tK:Q2 32 (u8s K)=u8s K:=QB (by rw [Qn,lK])
  clear hH1 hH2 hH3 hH4 hH5 hH6 hH9 hE hF hF' hd hdd hdd2 o1 p1 p2 m1 m2 m3 m4 m6 h hsp at1 at4 at6 old1 old2 old3 old4 old5 old6 up6 up61 up9 up96 up93 hsg1 hn hk hs hX hKb xpu xfr xd hfo b1 b2 b3 b4 c1' c2' c3' c4' d1 d2 d3 d4 xA xB hbx xt u10 e9v e9a hle hge
  generalize XL sg=pub at *
  rw [Q6 (fn:=cB) rfl]
  simp only [cB,Q0,quiet,cW,↓pW,reduceCtorEq,seval,-Qb,r1,r3,r4,r6,r7,hen,hfr,hck,hky,hop,hbv,hcl,hz,lz,g0,mk',mn',ms3,mn6,w1,w2,cl5,tnm,tsg,tpu,hq,q1,q1f,q2,q2f,q3,q3f,q5,q6,q6f,lzF,tF,spF,tF',spF',a5,a6,ss,ok1,ok2,ok3,im0,im1,im2,im7,im9,im10,h1,h4,h6,h9,hfoc,hfol,hfo',lnm,lsg,lpu,tz,cv1,cv2,cv3,e9b,e9c,a9,e10,e10z,e10s,lAB,lK,sK,tK,n0,n1,QB,QX,Zg,ZU,Zh,Qn,Qm,Qs,ZX,Ix]
def dC (a b c:Nat) (d:Bool):List Value:=[.int .i64 a,.int .i64 b,.int .i64 c,.int .i64 (if d then 1 else 0)]
theorem PM (k:Int):Z4 T 56 [.int .i64 k]=some (match shp k with | some (a,b,c,d)=>.tuple #[.agg (dC a b c d).toArray,.bool true] | none=>.tuple #[.agg (dC 0 0 0 false).toArray,.bool false]):=by
 have hf:∀ (a b c d:Int),fillL [Value.int .i64 0,.int .i64 0,.int .i64 0,.int .i64 0] [(0,1,.int .i64 a),(1,1,.int .i64 b),(2,1,.int .i64 c),(3,1,.int .i64 d)]=some [Value.int .i64 a,.int .i64 b,.int .i64 c,.int .i64 d]:=fun _ _ _ _=>rfl
 have f0:fillL [Value.int .i64 0,.int .i64 0,.int .i64 0,.int .i64 0] []=some [Value.int .i64 0,.int .i64 0,.int .i64 0,.int .i64 0]:=rfl
 have im:∀ k,Qz 0 [] [k]=[]:=fun k=>QN (by simp)
 have sp:∀ (a b c d e f g h:Value),splice [a,b,c,d] 0 [e,f,g,h]=[e,f,g,h]:=fun _ _ _ _ _ _ _ _=>rfl
 obtain ⟨TB,hTB⟩:∃ X:List Value,X=[.int .i64 0,.int .i64 0,.int .i64 0,.int .i64 0,.int .i64 4,.int .i64 2,.int .i64 1,.int .i64 0,.int .i64 3,.int .i64 2,.int .i64 0,.int .i64 1,.int .i64 1,.int .i64 2,.int .i64 0,.int .i64 1,.int .i64 3,.int .i64 2,.int .i64 0,.int .i64 0,.int .i64 1,.int .i64 2,.int .i64 1,.int .i64 1,.int .i64 3,.int .i64 3,.int .i64 1,.int .i64 1,.int .i64 1,.int .i64 1,.int .i64 0,.int .i64 1]:=⟨_,rfl⟩
 have hft:∀ a b c d e f g h:List Value,a=[.int .i64 0,.int .i64 0,.int .i64 0,.int .i64 0]→b=[.int .i64 4,.int .i64 2,.int .i64 1,.int .i64 0]→c=[.int .i64 3,.int .i64 2,.int .i64 0,.int .i64 1]→d=[.int .i64 1,.int .i64 2,.int .i64 0,.int .i64 1]→e=[.int .i64 3,.int .i64 2,.int .i64 0,.int .i64 0]→f=[.int .i64 1,.int .i64 2,.int .i64 1,.int .i64 1]→g=[.int .i64 3,.int .i64 3,.int .i64 1,.int .i64 1]→h=[.int .i64 1,.int .i64 1,.int .i64 0,.int .i64 1] →
   fillL (Qc 32 (Value.int .i64 0)) [(0,4,.agg a.toArray),(4,4,.agg b.toArray),(8,4,.agg c.toArray),(12,4,.agg d.toArray),(16,4,.agg e.toArray),(20,4,.agg f.toArray),(24,4,.agg g.toArray),(28,4,.agg h.toArray)]=some TB:=by
  rintro _ _ _ _ _ _ _ _ rfl rfl rfl rfl rfl rfl rfl rfl
  rw [hTB]; rfl
 have hft':=hft _ _ _ _ _ _ _ _ rfl rfl rfl rfl rfl rfl rfl rfl
 have lT:TB.length=32:=by rw [hTB]; rfl
 have sT:splice (Qc 32 (Value.int .i64 0)) 0 TB=TB:=QV (by rw [lT]; rfl)
 have lZ:(Qc 32 (Value.int .i64 0)).length=32:=Qm
 have rv:∀ (a b c d:Int) (t:Bool),rf (.tuple #[.agg #[.int .i64 a,.int .i64 b,.int .i64 c,.int .i64 d],.bool t])=true:=fun _ _ _ _ _=>rfl
 have hk:∀ j:Nat,j<8→0<j→∀ v:List Value,v.length=4→Q2 4 (Z9 (j*4) TB)=v→∃ l,Zb T 56 [.int .i64 (j:Nat)] []=some (.tuple #[.agg v.toArray,.bool true],l,[]):=by
  intro j hj h0 v hv ht
  have c1:((j:Int)<1)=False:=eq_false (by omega)
  have c2:((7:Int)<(j:Int))=False:=eq_false (by omega)
  have c3:((j:Int)<8)=True:=eq_true (by omega)
  have c4:(j*4≤28)=True:=eq_true (by omega)
  have sv:splice [Value.int .i64 0,.int .i64 0,.int .i64 0,.int .i64 0] 0 v=v:=QV hv
  have tv:Q2 4 v=v:=Qq (by omega)
  generalize hj4:j*4=j4 at *
  apply Zs
  rw [Q6 (fn:=Lg) rfl]
  simp only [Lg,Q0,quiet,cW,↓pW,reduceCtorEq,seval,-Qb,hf,f0,hft',im,sp,lT,lZ,sT,c1,c2,c3,c4,hj4,ht,hv,sv,tv]
  rfl
 apply Kd
 by_cases h:k=1∨k=2∨k=3∨k=4∨k=5∨k=6∨k=7
 ·rcases h with rfl | rfl | rfl | rfl | rfl | rfl | rfl
  ·exact hk 1 (by decide) (by decide) _ rfl (by rw [hTB]; rfl)
  ·exact hk 2 (by decide) (by decide) _ rfl (by rw [hTB]; rfl)
  ·exact hk 3 (by decide) (by decide) _ rfl (by rw [hTB]; rfl)
  ·exact hk 4 (by decide) (by decide) _ rfl (by rw [hTB]; rfl)
  ·exact hk 5 (by decide) (by decide) _ rfl (by rw [hTB]; rfl)
  ·exact hk 6 (by decide) (by decide) _ rfl (by rw [hTB]; rfl)
  ·exact hk 7 (by decide) (by decide) _ rfl (by rw [hTB]; rfl)
 simp only [not_or] at h
 obtain ⟨h1,h2,h3,h4,h5,h6,h7⟩:=h
 have e:shp k=none:=by unfold shp; simp only [h1,h2,h3,h4,h5,h6,h7,if_false]
 rw [e]
 by_cases c0:k<1
 ·have c1:(k<1)=True:=eq_true c0
  apply Zs
  rw [Q6 (fn:=Lg) rfl]
  simp only [Lg,Q0,quiet,cW,↓pW,reduceCtorEq,seval,-Qb,hf,f0,hft',im,sp,lT,lZ,sT,c1]
  rfl
 ·have c1:(k<1)=False:=eq_false c0
  have c2:((7:Int)<k)=True:=eq_true (by omega)
  apply Zs
  rw [Q6 (fn:=Lg) rfl]
  simp only [Lg,Q0,quiet,cW,↓pW,reduceCtorEq,seval,-Qb,hf,f0,hft',im,sp,lT,lZ,sT,c1,c2]
  rfl
theorem Em (hn:n<2^32):Z4 T 57 [.int .i64 n]=some (X7 (id4 n)):=by
 have d1:IntKind.i64.wrap ((n:Int).tdiv 16777216)=((n/16777216:Nat):Int):=by rw [show ((n:Int).tdiv 16777216)=((n/16777216:Nat):Int) from rfl]; exact ZI (by omega)
 have d2:IntKind.i64.wrap ((n:Int).tdiv 65536)=((n/65536:Nat):Int):=by rw [show ((n:Int).tdiv 65536)=((n/65536:Nat):Int) from rfl]; exact ZI (by omega)
 have d3:IntKind.i64.wrap ((n:Int).tdiv 256)=((n/256:Nat):Int):=by rw [show ((n:Int).tdiv 256)=((n/256:Nat):Int) from rfl]; exact ZI (by omega)
 have r0:∀ m:Nat,(m:Int).tmod 256=((m%256:Nat):Int):=fun _=>rfl
 have w8:∀ m:Nat,IntKind.u8.wrap ((m%256:Nat):Int)=((m%256:Nat):Int):=fun m=>by rw [Uc,Nat.mod_mod]
 have f2:∀ x0 x1 x2 x3:Nat,fillL [Value.int .u8 0,.int .u8 0,.int .u8 0,.int .u8 0] [(0,1,.int .u8 (x0:Int)),(1,1,.int .u8 (x1:Int)),(2,1,.int .u8 (x2:Int)),(3,1,.int .u8 (x3:Int))]=some (u8s [x0,x1,x2,x3]):=fun _ _ _ _=>rfl
 have hb:=cf (H:=[(⟨u8s (id4 n),true,true,true,1⟩:Ob)]) (v := .slice (some ⟨0,0,none⟩) 4 4) (bs:=id4 n) (.mk (off:=0) (c:=4) (o:=⟨u8s (id4 n),true,true,true,1⟩) (l:=id4 n) rfl (by rw [Qn,QA]; exact Ql _) (fun i x hx=>by rw [QA]; exact Jj hx))
 have hrf:rf (X7 (id4 n))=true:=rfl
 unfold id4 at *
 simp only [Nat.reducePow] at hb hrf ⊢
 generalize X7 [n/16777216%256,n/65536%256,n/256%256,n%256]=V at *
 have q1:=r0 (n/16777216)
 have q2:=r0 (n/65536)
 have q3:=r0 (n/256)
 have q4:=r0 n
 have v1:=w8 (n/16777216)
 have v2:=w8 (n/65536)
 have v3:=w8 (n/256)
 have v4:=w8 n
 clear r0 w8
 generalize n/16777216%256=x0 at *
 generalize n/65536%256=x1 at *
 generalize n/256%256=x2 at *
 generalize n%256=x3 at *
 generalize n/16777216=y0 at *
 generalize n/65536=y1 at *
 generalize n/256=y2 at *
 rw [Ah] at hb
 apply ZB (fn:=nD) rfl
 simp only [nD,Q0,quiet,cW,↓pW,reduceCtorEq,seval,-Qb,d1,d2,d3,q1,q2,q3,q4,v1,v2,v3,v4,f2,hb,hrf]
 rfl
theorem EN {j x:Nat} {P:List Nat} (hL:∀ x∈L,x.length=n) (hi:L[i]?=some P) (hj:P[j]?=some x):(u8s L.flatten)[i*n+j]?=some (.int .u8 (x:Nat)):=by
 have h1:=(KB hL hi).1
 have lP:=hL P (Qy hi)
 have hjn:=(Qf.1 hj).1
 have h2:=Jj hj
 rw [←h1,QQ,if_pos (by omega),Zk] at h2
 exact h2
def InvD (X0 X:List Ob):Prop:=X0.length≤X.length∧∀ i,i<X0.length→X[i]?=X0[i]?
theorem InvD.refl (X:List Ob):InvD X X:=⟨Ql _,fun _ _=>rfl⟩
theorem InvD.app {X0 X m:List Ob} (h:InvD X0 X):InvD X0 (X++m):=⟨by rw [Qi]; have:=h.1; omega,fun i hi=>by rw [Qa (by have:=h.1; omega)]; exact h.2 i hi⟩
theorem InvD.get {X0 X:List Ob} (h:InvD X0 X) {i:Nat} {o:Ob} (ho:X0[i]?=some o):X[i]?=some o:=(h.2 i (Qf.1 ho).1).trans ho
structure Bx (B:Nat) (X0:List Ob) (k:Int) (ka na sa da:Value):Prop where
 ob:X0[B]?=some ⟨[.int .i64 k,ka,na,sa,da],true,true,true,1⟩
def EY (B:Nat) (t:List Nat) (i j:Nat) (X:List Ob) (ex:Env):St:=⟨[(1,.pointer (some ⟨B,0,none⟩)),(4,.pointer (some ⟨B+1,0,none⟩)),(6,X7 t),(7,.int .i64 i),(8,.int .i64 j)]++ex,X,[]⟩
theorem mh {P:List Nat} (hb:Bx B X0 k ka na sa da) (hs:Sq X0 32 (u8s L.flatten) n ka) (hL:∀ x∈L,x.length=32) (hi:L[i]?=some P) (hin:i<n) (hn:n≤1000) (lt:t.length≤2^40) (h:InvD X0 X) :
  ∃ X',Q5 T B (.block 2 (.loop Hg)) (EY B t i 0 X [])=some (.normal,EY B (t++P) i 32 X' [(72,.bool false)])∧InvD X0 X':=by
 rcases hs with ⟨-,rfl,-⟩ | ⟨id,c,w,e,s,rfl,h2,h3⟩
 ·omega
 have lP:=hL P (Qy hi)
 obtain ⟨st,hloop,X',rfl,r⟩:=QY (T:=T) (base:=B) (id:=2) (body:=Hg)
  (fun j st=>∃ X,st=EY B (t++P.take j) i j X []∧InvD X0 X)
  (Q:=fun st=>∃ X,st=EY B (t++P) i 32 X [(72,.bool false)]∧InvD X0 X)
  32 (s:=EY B t i 0 X []) ⟨X,by rw [Jh,QD],h⟩
  (fun j st hj hst=>by
   obtain ⟨X1,rfl,h1⟩:=hst
   obtain ⟨x,hx⟩:∃ x,P[j]?=some x:=⟨_,Qg (by omega)⟩
   refine ⟨_,?_,X1++[byO x],rfl,h1.app⟩
   have gx:=EN hL hi hx
   have g0:=h1.get hb.ob
   have g1:=h1.get h2
   have hsa:Jn .add (X7 (t++P.take j)) (X7 [x])=some (X7 (t++P.take (j+1))):=by
    rw [WQ (by rw [Qi,Q4]; simp; omega),Zr,hx,Qw]; rfl
   have e1:((j:Int)<32)=True:=eq_true (by omega)
   have w3:IntKind.i64.wrap ((j:Int)+1)=((j+1:Nat):Int):=Z2 (b:=1) (by omega)
   have hin':((i:Int)<(n:Int))=True:=eq_true (by omega)
   have fB:fillL [Value.int .u8 0] [(0,1,.int .u8 x)]=some [.int .u8 x]:=rfl
   have hb2:=R7 X1 x
   have hby:=VV [x]
   have j1:j*1=j:=Xc j
   unfold byO
   clear h3 h hb hL hi
   rw [show X7 [x]=.string ⟨([x].map UInt8.ofNat).toArray⟩ from rfl] at hsa
   generalize u8s [x]=C3,[x].map UInt8.ofNat=L3,u8s L.flatten=LF at *
   generalize hik:i*32=ik at *
   generalize hj1:j+1=jj at *
   simp only [EY,Hg,Q0,quiet,cW,↓pW,reduceCtorEq,seval,-Qb,e1,w3,g0,g1,gx,hin',hik,j1,hj1,fB,hb2,hby,hsa])
  (fun st hst=>by
   obtain ⟨X1,rfl,h1⟩:=hst
   refine ⟨_,?_,X1,rfl,h1⟩
   rw [Qq (by omega)]
   simp only [EY,Hg,Q0,quiet,cW,↓pW,reduceCtorEq,seval,-Qb])
 exact ⟨X',hloop,r⟩
def EX (B:Nat) (t:List Nat) (i:Nat) (X:List Ob) (ex:Env):St:=⟨[(1,.pointer (some ⟨B,0,none⟩)),(4,.pointer (some ⟨B+1,0,none⟩)),(6,X7 t),(7,.int .i64 i)]++ex,X,[]⟩
theorem gj (hb:Bx B X0 k ka na sa da) (hs:Sq X0 32 (u8s L.flatten) n ka) (hL:∀ x∈L,x.length=32) (hln:L.length=n) (hn:n≤1000) (lt:t.length≤2^30) (h:InvD X0 X) :
  ∃ X',Q5 T B (.block 0 (.loop Hf)) (EX B t 0 X [])=some (.normal,EX B (t++L.flatten) n X' [(68,.bool false)])∧InvD X0 X':=by
 have hlen:vLen false ka=some (.int .i64 n):=by obtain ⟨_,_,e⟩:=hs.shape; rw [e]; rfl
 obtain ⟨st,hloop,X',rfl,r⟩:=QY (T:=T) (base:=B) (id:=0) (body:=Hf)
  (fun i st=>∃ X,st=EX B (t++(L.take i).flatten) i X []∧InvD X0 X)
  (Q:=fun st=>∃ X,st=EX B (t++L.flatten) n X [(68,.bool false)]∧InvD X0 X)
  n (s:=EX B t 0 X []) ⟨X,by rw [Jh,Zq,QD],h⟩
  (fun i st hi hst=>by
   obtain ⟨X1,rfl,h1⟩:=hst
   obtain ⟨P,hP⟩:∃ P,L[i]?=some P:=⟨_,Qg (by omega)⟩
   have lk:(L.take i).flatten.length=i*32:=by rw [Xs (n:=32) fun x hx=>hL x (QU hx),Q4,Za (by omega)]
   obtain ⟨X2,m2,i2⟩:=mh hb hs hL hP hi hn (t:=t++(L.take i).flatten) (by rw [Qi,lk]; omega) h1
   refine ⟨_,?_,X2,rfl,i2⟩
   have g0:=h1.get hb.ob
   have e1:((i:Int)<(n:Int))=True:=eq_true (by omega)
   have w3:IntKind.i64.wrap ((i:Int)+1)=((i+1:Nat):Int):=Z2 (b:=1) (by omega)
   have ht:t++(L.take (i+1)).flatten=t++(L.take i).flatten++P:=by
    rw [Zr,hP,Zd,←Qw]; simp
   simp only [EY,Qu,Qo,show ((0:Nat):Int)=0 from rfl] at m2
   rw [ht]
   clear ht lk hs hL hb h
   generalize t++(L.take i).flatten++P=t2 at *
   generalize t++(L.take i).flatten=t1 at *
   generalize hi1:i+1=ii at *
   simp only [EX,Hf,Q0,quiet,cW,↓pW,reduceCtorEq,seval,-Qb,g0,hlen,e1,m2,w3,hi1])
  (fun st hst=>by
   obtain ⟨X1,rfl,h1⟩:=hst
   have g0:=h1.get hb.ob
   refine ⟨_,?_,X1,rfl,h1⟩
   rw [Qq (by omega)]
   simp only [EX,Hf,Q0,quiet,cW,↓pW,reduceCtorEq,seval,-Qb,g0,hlen])
 exact ⟨X',hloop,r⟩
def EV (B:Nat) (t:List Nat) (i j:Nat) (X:List Ob) (ex:Env):St:=⟨[(1,.pointer (some ⟨B,0,none⟩)),(4,.pointer (some ⟨B+1,0,none⟩)),(6,X7 t),(10,.int .i64 i),(11,.int .i64 j)]++ex,X,[]⟩
theorem mg {P:List Nat} (hb:Bx B X0 k ka na sa da) (hs:Sq X0 64 (u8s L.flatten) n sa) (hL:∀ x∈L,x.length=64) (hi:L[i]?=some P) (hin:i<n) (hn:n≤1000) (lt:t.length≤2^40) (h:InvD X0 X) :
  ∃ X',Q5 T B (.block 8 (.loop Hj)) (EV B t i 0 X [])=some (.normal,EV B (t++P) i 64 X' [(110,.bool false)])∧InvD X0 X':=by
 rcases hs with ⟨-,rfl,-⟩ | ⟨id,c,w,e,s,rfl,h2,h3⟩
 ·omega
 have lP:=hL P (Qy hi)
 obtain ⟨st,hloop,X',rfl,r⟩:=QY (T:=T) (base:=B) (id:=8) (body:=Hj)
  (fun j st=>∃ X,st=EV B (t++P.take j) i j X []∧InvD X0 X)
  (Q:=fun st=>∃ X,st=EV B (t++P) i 64 X [(110,.bool false)]∧InvD X0 X)
  64 (s:=EV B t i 0 X []) ⟨X,by rw [Jh,QD],h⟩
  (fun j st hj hst=>by
   obtain ⟨X1,rfl,h1⟩:=hst
   obtain ⟨x,hx⟩:∃ x,P[j]?=some x:=⟨_,Qg (by omega)⟩
   refine ⟨_,?_,X1++[byO x],rfl,h1.app⟩
   have gx:=EN hL hi hx
   have g0:=h1.get hb.ob
   have g1:=h1.get h2
   have hsa:Jn .add (X7 (t++P.take j)) (X7 [x])=some (X7 (t++P.take (j+1))):=by
    rw [WQ (by rw [Qi,Q4]; simp; omega),Zr,hx,Qw]; rfl
   have e1:((j:Int)<64)=True:=eq_true (by omega)
   have w3:IntKind.i64.wrap ((j:Int)+1)=((j+1:Nat):Int):=Z2 (b:=1) (by omega)
   have hin':((i:Int)<(n:Int))=True:=eq_true (by omega)
   have fB:fillL [Value.int .u8 0] [(0,1,.int .u8 x)]=some [.int .u8 x]:=rfl
   have hb2:=R7 X1 x
   have hby:=VV [x]
   have j1:j*1=j:=Xc j
   unfold byO
   clear h3 h hb hL hi
   rw [show X7 [x]=.string ⟨([x].map UInt8.ofNat).toArray⟩ from rfl] at hsa
   generalize u8s [x]=C3,[x].map UInt8.ofNat=L3,u8s L.flatten=LF at *
   generalize hik:i*64=ik at *
   generalize hj1:j+1=jj at *
   simp only [EV,Hj,Q0,quiet,cW,↓pW,reduceCtorEq,seval,-Qb,e1,w3,g0,g1,gx,hin',hik,j1,hj1,fB,hb2,hby,hsa])
  (fun st hst=>by
   obtain ⟨X1,rfl,h1⟩:=hst
   refine ⟨_,?_,X1,rfl,h1⟩
   rw [Qq (by omega)]
   simp only [EV,Hj,Q0,quiet,cW,↓pW,reduceCtorEq,seval,-Qb])
 exact ⟨X',hloop,r⟩
def EU (B:Nat) (t:List Nat) (i:Nat) (X:List Ob) (ex:Env):St:=⟨[(1,.pointer (some ⟨B,0,none⟩)),(4,.pointer (some ⟨B+1,0,none⟩)),(6,X7 t),(10,.int .i64 i)]++ex,X,[]⟩
theorem fY (hb:Bx B X0 k ka na sa da) (hs:Sq X0 64 (u8s L.flatten) n sa) (hL:∀ x∈L,x.length=64) (hln:L.length=n) (hn:n≤1000) (lt:t.length≤2^30) (h:InvD X0 X) :
  ∃ X',Q5 T B (.block 6 (.loop Hi)) (EU B t 0 X [])=some (.normal,EU B (t++L.flatten) n X' [(106,.bool false)])∧InvD X0 X':=by
 have hlen:vLen false sa=some (.int .i64 n):=by obtain ⟨_,_,e⟩:=hs.shape; rw [e]; rfl
 obtain ⟨st,hloop,X',rfl,r⟩:=QY (T:=T) (base:=B) (id:=6) (body:=Hi)
  (fun i st=>∃ X,st=EU B (t++(L.take i).flatten) i X []∧InvD X0 X)
  (Q:=fun st=>∃ X,st=EU B (t++L.flatten) n X [(106,.bool false)]∧InvD X0 X)
  n (s:=EU B t 0 X []) ⟨X,by rw [Jh,Zq,QD],h⟩
  (fun i st hi hst=>by
   obtain ⟨X1,rfl,h1⟩:=hst
   obtain ⟨P,hP⟩:∃ P,L[i]?=some P:=⟨_,Qg (by omega)⟩
   have lk:(L.take i).flatten.length=i*64:=by rw [Xs (n:=64) fun x hx=>hL x (QU hx),Q4,Za (by omega)]
   obtain ⟨X2,m2,i2⟩:=mg hb hs hL hP hi hn (t:=t++(L.take i).flatten) (by rw [Qi,lk]; omega) h1
   refine ⟨_,?_,X2,rfl,i2⟩
   have g0:=h1.get hb.ob
   have e1:((i:Int)<(n:Int))=True:=eq_true (by omega)
   have w3:IntKind.i64.wrap ((i:Int)+1)=((i+1:Nat):Int):=Z2 (b:=1) (by omega)
   have ht:t++(L.take (i+1)).flatten=t++(L.take i).flatten++P:=by
    rw [Zr,hP,Zd,←Qw]; simp
   simp only [EV,Qu,Qo,show ((0:Nat):Int)=0 from rfl] at m2
   rw [ht]
   clear ht lk hs hL hb h
   generalize t++(L.take i).flatten++P=t2 at *
   generalize t++(L.take i).flatten=t1 at *
   generalize hi1:i+1=ii at *
   simp only [EU,Hi,Q0,quiet,cW,↓pW,reduceCtorEq,seval,-Qb,g0,hlen,e1,m2,w3,hi1])
  (fun st hst=>by
   obtain ⟨X1,rfl,h1⟩:=hst
   have g0:=h1.get hb.ob
   refine ⟨_,?_,X1,rfl,h1⟩
   rw [Qq (by omega)]
   simp only [EU,Hi,Q0,quiet,cW,↓pW,reduceCtorEq,seval,-Qb,g0,hlen])
 exact ⟨X',hloop,r⟩
def EW (B:Nat) (t:List Nat) (i:Nat) (X:List Ob) (ex:Env):St:=⟨[(1,.pointer (some ⟨B,0,none⟩)),(4,.pointer (some ⟨B+1,0,none⟩)),(6,X7 t),(9,.int .i64 i)]++ex,X,[]⟩
theorem fZ {L:List Nat} (hb:Bx B X0 k ka na sa da) (hs:Sq X0 1 (ns32 L) n na) (hL:∀ x∈L,x<2^32) (hln:L.length=n) (hn:n≤1000) (lt:t.length≤2^30) (h:InvD X0 X) :
  ∃ X',Q5 T B (.block 4 (.loop Hh)) (EW B t 0 X [])=some (.normal,EW B (t++(L.map id4).flatten) n X' [(90,.bool false)])∧InvD X0 X':=by
 have hlen:vLen false na=some (.int .i64 n):=by obtain ⟨_,_,e⟩:=hs.shape; rw [e]; rfl
 obtain ⟨st,hloop,X',rfl,r⟩:=QY (T:=T) (base:=B) (id:=4) (body:=Hh)
  (fun i st=>∃ X,st=EW B (t++((L.take i).map id4).flatten) i X []∧InvD X0 X)
  (Q:=fun st=>∃ X,st=EW B (t++(L.map id4).flatten) n X [(90,.bool false)]∧InvD X0 X)
  n (s:=EW B t 0 X []) ⟨X,by rw [Jh,JG,Zq,QD],h⟩
  (fun i st hi hst=>by
   obtain ⟨X1,rfl,h1⟩:=hst
   obtain ⟨x,hx⟩:∃ x,L[i]?=some x:=⟨_,Qg (by omega)⟩
   refine ⟨_,?_,X1,rfl,h1⟩
   rcases hs with ⟨-,rfl,-⟩ | ⟨id,c,w,e,s,rfl,h2,h3⟩
   ·omega
   have lx:=hL x (Qy hx)
   have lk:((L.take i).map id4).flatten.length=i*4:=by
    rw [Xs (n:=4) fun x hx=>by obtain ⟨y,-,rfl⟩:=JQ.1 hx; rfl,Xg,Q4,Za (by omega)]
   have hm:=Em lx
   have hsa:Jn .add (X7 (t++((L.take i).map id4).flatten)) (X7 (id4 x))=some (X7 (t++((L.take (i+1)).map id4).flatten)):=by
    rw [WQ (by rw [Qi,lk]; show _+4≤_; omega),Zr,hx,XJ,Zd,Qw]; simp
   have g0:=h1.get hb.ob
   have g1:=h1.get h2
   have c1:(ns32 L)[i]?=some (.int .u32 (x:Nat)):=by rw [ns32,Jv,hx]; rfl
   have wx:IntKind.i64.wrap (x:Int)=(x:Nat):=ZI (by omega)
   have e1:((i:Int)<(n:Int))=True:=eq_true (by omega)
   have w3:IntKind.i64.wrap ((i:Int)+1)=((i+1:Nat):Int):=Z2 (b:=1) (by omega)
   have j1:i*1=i:=Xc i
   have hrf:rf (X7 (id4 x))=true:=rfl
   clear h3 hb hL lk h
   generalize X7 (id4 x)=VX,ns32 L=LF at *
   generalize hi1:i+1=ii at *
   simp only [EW,Hh,Q0,quiet,cW,↓pW,reduceCtorEq,seval,-Qb,g0,g1,c1,hlen,e1,wx,hm,hrf,hsa,w3,j1,hi1])
  (fun st hst=>by
   obtain ⟨X1,rfl,h1⟩:=hst
   have g0:=h1.get hb.ob
   refine ⟨_,?_,X1,rfl,h1⟩
   rw [Qq (by omega)]
   simp only [EW,Hh,Q0,quiet,cW,↓pW,reduceCtorEq,seval,-Qb,g0,hlen])
 exact ⟨X',hloop,r⟩
end Go.Ev.YtomfgcgnepfmjaaGreat
namespace Go.Ev.YtomfgcgnepfmjaaGreat
open Go Go.Ev
attribute [local congr] Jr J7 Jq J8 Jc
set_option maxRecDepth 100000
variable {H:List Ob} {ka na sa da:Value}
theorem Rq {k:Int} {kl:List (List Nat)} {nl:List Nat} {sl:List (List Nat)} {dl:List Nat} (h:FrV H ka na sa da kl nl sl dl) (hnl:∀ x∈nl,x<2^32) :
  ∃ v l,Zb T 22 [.agg #[.int .i64 k,ka,na,sa,da]] H=some (.tuple #[v,.int .i64 (frE k kl.length nl.length sl.length dl.length)],H++l,[]) ∧
   ((∀ x y z d,shp k=some (x,y,z,d)→frE k kl.length nl.length sl.length dl.length=0→v=X7 (frB k kl nl sl dl d))∧(frE k kl.length nl.length sl.length dl.length≠0→v=.string (ByteArray.mk #[]))):=by
 have hsv:=PM k
 obtain ⟨_,_,sk⟩:=h.kz.shape
 obtain ⟨_,_,sn⟩:=h.nz.shape
 obtain ⟨_,_,ss⟩:=h.sz.shape
 obtain ⟨_,_,sd⟩:=h.dz.shape
 have n1:vLen false ka=some (.int .i64 kl.length):=by rw [sk]; rfl
 have n2:vLen false na=some (.int .i64 nl.length):=by rw [sn]; rfl
 have n3:vLen false sa=some (.int .i64 sl.length):=by rw [ss]; rfl
 have n4:vLen false da=some (.int .i64 dl.length):=by rw [sd]; rfl
 have sp4:∀ (a b c d e f g h:Value),splice [a,b,c,d] 0 [e,f,g,h]=[e,f,g,h]:=fun _ _ _ _ _ _ _ _=>rfl
 have g0:∀ o1:Ob,(H++[o1])[H.length]?=some o1:=fun _=>by rw [Qe (Ql _),Qv]; rfl
 have g00:∀ o1 o2:Ob,(H++[o1,o2])[H.length]?=some o1:=fun _ _=>by rw [Qe (Ql _),Qv]; rfl
 have g01:∀ o1 o2:Ob,(H++[o1,o2])[H.length+1]?=some o2:=fun _ _=>by rw [Qe (by omega),Qp]; rfl
 have t01:∀ o1 o2 o:Ob,(H++[o1,o2]).set (H.length+1) o=H++[o1,o]:=fun _ _ _=>by rw [Q9 _ _ (by omega),Qp]; rfl
 have im1:∀ i,Qz H.length [] [H.length+i]=[]:=fun i=>QN (by simp)
 have ok1:∀ L:List Value,(Value.agg L.toArray).cells.toList=L:=fun _=>rfl
 have ok2:∀ L:List Value,(Value.agg L.toArray).cells.size=L.length:=fun _=>rfl
 have ok3:∀ L:List Value,okVar (Value.agg L.toArray)=true:=fun _=>rfl
 have bad:∀ c:Int,c≠0→frE k kl.length nl.length sl.length dl.length=c→(∃ l,Zb T 22 [.agg #[.int .i64 k,ka,na,sa,da]] H=some (.tuple #[.string (ByteArray.mk #[]),.int .i64 c],H++l,[])) →
   ∃ v l,Zb T 22 [.agg #[.int .i64 k,ka,na,sa,da]] H=some (.tuple #[v,.int .i64 (frE k kl.length nl.length sl.length dl.length)],H++l,[]) ∧
    ((∀ x y z d,shp k=some (x,y,z,d)→frE k kl.length nl.length sl.length dl.length=0→v=X7 (frB k kl nl sl dl d))∧(frE k kl.length nl.length sl.length dl.length≠0→v=.string (ByteArray.mk #[]))):=by
  rintro c hc he ⟨l,hl⟩
  exact ⟨_,l,by rw [he]; exact hl,fun _ _ _ _ _ h0=>absurd (he.symm.trans h0) hc,fun _=>rfl⟩
 obtain hsh | ⟨x,y,z,d,hsh⟩:shp k=none∨∃ x y z d,shp k=some (x,y,z,d):=by
  rcases shp k with _ | ⟨x,y,z,d⟩
  ·exact .inl rfl
  ·exact .inr ⟨x,y,z,d,rfl⟩
 ·have rfv:rf (.tuple #[.agg #[Value.int .i64 0,.int .i64 0,.int .i64 0,.int .i64 0],.bool false])=true:=rfl
  rw [hsh] at hsv
  have hv:dC 0 0 0 false=[Value.int .i64 0,.int .i64 0,.int .i64 0,.int .i64 0]:=rfl
  simp only [hv] at hsv
  refine bad 110 (by decide) (by unfold frE; rw [hsh]) (Zs ?_ ?_)
  rotate_left
  ·rw [Q6 (fn:=U1) rfl]
   simp only [U1,Q0,quiet,cW,↓pW,reduceCtorEq,seval,-Qb,hsv,rfv,g0,g00,g01,t01,im1,ok1,ok2,ok3,n1,n2,n3,n4,sp4]
   rfl
 ·rw [hsh] at hsv
  obtain ⟨wk,kb,lx,ly,lz⟩:=PJ hsh
  obtain ⟨dn,hdn⟩:∃ dn:Int,dn=if d then 1 else 0:=⟨_,rfl⟩
  simp only [dC,←hdn] at hsv
  have rfv:rf (.tuple #[.agg #[Value.int .i64 x,.int .i64 y,.int .i64 z,.int .i64 dn],.bool true])=true:=rfl
  by_cases q1:kl.length=x
  ·have b1:(((kl.length:Nat):Int) != (x:Int))=false:=by simp; omega
   by_cases q2:nl.length=y
   ·have b2:(((nl.length:Nat):Int) != (y:Int))=false:=by simp; omega
    by_cases q3:sl.length=z
    ·have b3:(((sl.length:Nat):Int) != (z:Int))=false:=by simp; omega
     obtain ⟨X0,hX0⟩:∃ X,X=H++[(⟨[.int .i64 k,ka,na,sa,da],true,true,true,1⟩:Ob),⟨[.int .i64 x,.int .i64 y,.int .i64 z,.int .i64 dn],true,true,true,1⟩]:=⟨_,rfl⟩
     have lX0:X0.length=H.length+2:=by rw [hX0]; simp
     have hb:Bx H.length X0 k ka na sa da:=⟨by rw [hX0]; exact g00 _ _⟩
     have hb1:X0[H.length+1]?=some ⟨[.int .i64 x,.int .i64 y,.int .i64 z,.int .i64 dn],true,true,true,1⟩:=by rw [hX0]; exact g01 _ _
     have hap:∀ {es cs n v},Sq H es cs n v→Sq X0 es cs n v:=fun hh=>by rw [hX0]; exact hh.app
     have lkf:kl.flatten.length≤1000:=by rw [Xs h.kx]; omega
     have lnf:(nl.map id4).flatten.length≤1000:=by rw [Xs (n:=4) fun x hx=>by obtain ⟨y,-,rfl⟩:=JQ.1 hx; rfl,Xg]; omega
     have lsf:sl.flatten.length≤1000:=by rw [Xs h.sx]; omega
     obtain ⟨X1,m1,i1⟩:=gj hb (hap h.kz) h.kx rfl (by omega) (t:=[k.toNat]) (by show 1≤_; decide) ((InvD.refl X0).app (m:=[byO k.toNat]))
     obtain ⟨X2,m2,i2⟩:=fZ (t:=[k.toNat]++kl.flatten) hb (hap h.nz) hnl rfl (by omega) (by simp only [Qi,Zc,Zt]; omega) i1
     obtain ⟨X3,m3,i3⟩:=fY (t:=[k.toNat]++kl.flatten++(nl.map id4).flatten) hb (hap h.sz) h.sx rfl (by omega) (by simp only [Qi,Zc,Zt]; omega) i2
     have p10:=i1.get hb.ob
     have p11:=i1.get hb1
     have p20:=i2.get hb.ob
     have p21:=i2.get hb1
     have p30:=i3.get hb.ob
     have p31:=i3.get hb1
     have p32:∀ i,i<H.length→X3[i]?=H[i]? := fun i hi=>by rw [i3.2 i (by omega),hX0,Qa hi]
     have F0:H++[(⟨[.int .i64 k,ka,na,sa,da],true,true,true,1⟩:Ob),⟨[.int .i64 x,.int .i64 y,.int .i64 z,.int .i64 dn],true,true,true,1⟩]=X0:=hX0.symm
     have F1:H++[(⟨[.int .i64 k,ka,na,sa,da],true,true,true,1⟩:Ob),⟨[.int .i64 x,.int .i64 y,.int .i64 z,.int .i64 dn],true,true,true,1⟩,⟨[.int .u8 (k.toNat:Nat)],true,true,true,1⟩]=X0++[byO k.toNat]:=by rw [hX0,Qw]; rfl
     have p00:(X0++[byO k.toNat])[H.length]?=some ⟨[.int .i64 k,ka,na,sa,da],true,true,true,1⟩:=by rw [Qa (by omega)]; exact hb.ob
     have fB:fillL [Value.int .u8 0] [(0,1,.int .u8 (k.toNat:Nat))]=some [.int .u8 (k.toNat:Nat)]:=rfl
     have hb2:=R7 X0 k.toNat
     have hby:=VV [k.toNat]
     have F1':X0++[(⟨[.int .u8 (k.toNat:Nat)],true,true,true,1⟩:Ob)]=X0++[byO k.toNat]:=rfl
     rw [F1',lX0] at hb2
     have hst:(Value.string ⟨([k.toNat].map UInt8.ofNat).toArray⟩)=X7 [k.toNat]:=rfl
     simp only [EX,EW,EU,Qu,Qo,show ((0:Nat):Int)=0 from rfl] at m1 m2 m3
     obtain ⟨l,hl⟩:=Xq (by have:=i3.1; omega) p32
     have lt3:([k.toNat]++kl.flatten++(nl.map id4).flatten++sl.flatten).length≤4000:=by simp only [Qi,Zc,Zt]; omega
     have hS:X7 [k.toNat]=X7 [k.toNat]:=rfl
     cases d
     ·obtain rfl:dn=0:=hdn
      by_cases q4:dl.length=0
      ·have c1:((0:Int)<(dl.length:Int))=False:=eq_false (by omega)
       have c2:((16384:Int)<(dl.length:Int))=False:=eq_false (by omega)
       have hE:frE k kl.length nl.length sl.length dl.length=0:=by
        unfold frE; rw [hsh]; simp only [q1,q2,q3,q4,and_self,or_true,if_true]; rfl
       refine ⟨X7 ([k.toNat]++kl.flatten++(nl.map id4).flatten++sl.flatten),l,?_,fun _ _ _ _ e _ => ?_,fun hh=>absurd hE hh⟩
       ·rw [hE,←hl]
        clear i1 i2 i3 hX0 hap p32 lt3 hl bad hb hb1
        generalize [k.toNat].map UInt8.ofNat=L3,u8s [k.toNat]=C3,X0++[byO k.toNat]=X01 at *
        rw [Q6 (fn:=U1) rfl]
        simp only [U1,Q0,quiet,cW,↓pW,reduceCtorEq,seval,-Qb,hsv,rfv,g0,g00,g01,t01,im1,ok1,ok2,ok3,n1,n2,n3,n4,sp4,b1,b2,b3,c1,c2,wk,fB,hb2,hby,hst,F1,F1',p00,m1,p10,p11,m2,p20,p21,m3,p30,p31]
       ·rw [hsh] at e
        cases e
        simp [frB]
      ·have c1:((0:Int)<(dl.length:Int))=True:=eq_true (by omega)
       refine bad 110 (by decide) (by unfold frE; rw [hsh]; exact if_neg fun hh=>by rcases hh.2.2.2 with hh | hh; cases hh; exact q4 hh) (Zs ?_ ?_)
       rotate_left
       ·rw [Q6 (fn:=U1) rfl]
        simp only [U1,Q0,quiet,cW,↓pW,reduceCtorEq,seval,-Qb,hsv,rfv,g0,g00,g01,t01,im1,ok1,ok2,ok3,n1,n2,n3,n4,sp4,b1,b2,b3,c1]
        rfl
     ·obtain rfl:dn=1:=hdn
      by_cases q4:16384<dl.length
      ·have c2:((16384:Int)<(dl.length:Int))=True:=eq_true (by omega)
       refine bad 2 (by decide) (by unfold frE; rw [hsh]; simp only [q1,q2,q3,q4,and_self,true_or,if_true]) (Zs ?_ ?_)
       rotate_left
       ·rw [Q6 (fn:=U1) rfl]
        simp only [U1,Q0,quiet,cW,↓pW,reduceCtorEq,seval,-Qb,hsv,rfv,g0,g00,g01,t01,im1,ok1,ok2,ok3,n1,n2,n3,n4,sp4,b1,b2,b3,c2]
        rfl
      ·have c2:((16384:Int)<(dl.length:Int))=False:=eq_false (by omega)
       have hE:frE k kl.length nl.length sl.length dl.length=0:=by
        unfold frE; rw [hsh]; simp only [q1,q2,q3,q4,and_self,true_or,if_true,if_false]
       have hnum:=Em (n:=dl.length) (by omega)
       have hrf:rf (X7 (id4 dl.length))=true:=rfl
       have hde:=h.dz.reads X3 p32
       have hdb:=VV dl
       have hvb:Ct X3 da=some (X7 dl):=by
        rw [sd,Ah,←sd,hde,Qk,hdb,Qk]; rfl
       have ha1:Jn .add (X7 (id4 dl.length)) (X7 dl)=some (X7 (id4 dl.length++dl)):=WQ (by show 4+_≤_; omega)
       have ha2:Jn .add (X7 ([k.toNat]++kl.flatten++(nl.map id4).flatten++sl.flatten)) (X7 (id4 dl.length++dl))=some (X7 ([k.toNat]++kl.flatten++(nl.map id4).flatten++sl.flatten++(id4 dl.length++dl))):=WQ (by rw [@Qi _ (id4 dl.length)]; show _+(4+_)≤_; omega)
       refine ⟨X7 ([k.toNat]++kl.flatten++(nl.map id4).flatten++sl.flatten++(id4 dl.length++dl)),l,?_,fun _ _ _ _ e _ => ?_,fun hh=>absurd hE hh⟩
       ·rw [hE,←hl]
        clear i1 i2 i3 hX0 hap p32 lt3 hl bad hb hb1 hde hdb
        generalize [k.toNat].map UInt8.ofNat=L3,u8s [k.toNat]=C3,X0++[byO k.toNat]=X01 at *
        simp only [Qu,Qo,Qw] at ha2
        generalize X7 (id4 dl.length++dl)=SV1,X7 (id4 dl.length)=SV2 at *
        rw [Q6 (fn:=U1) rfl]
        simp only [U1,Q0,quiet,cW,↓pW,reduceCtorEq,seval,-Qb,hsv,rfv,g0,g00,g01,t01,im1,ok1,ok2,ok3,n1,n2,n3,n4,sp4,b1,b2,b3,c2,wk,fB,hb2,hby,hst,F1,F1',p00,m1,p10,p11,m2,p20,p21,m3,p30,p31,hnum,hrf,hvb,ha1,ha2]
       ·rw [hsh] at e
        cases e
        simp [frB]
    ·have b3:(((sl.length:Nat):Int) != (z:Int))=true:=by simp; omega
     refine bad 110 (by decide) (by unfold frE; rw [hsh]; exact if_neg fun hh=>q3 hh.2.2.1) (Zs ?_ ?_)
     rotate_left
     ·rw [Q6 (fn:=U1) rfl]
      simp only [U1,Q0,quiet,cW,↓pW,reduceCtorEq,seval,-Qb,hsv,rfv,g0,g00,g01,t01,im1,ok1,ok2,ok3,n1,n2,n3,n4,sp4,b1,b2,b3]
      rfl
   ·have b2:(((nl.length:Nat):Int) != (y:Int))=true:=by simp; omega
    refine bad 110 (by decide) (by unfold frE; rw [hsh]; exact if_neg fun hh=>q2 hh.2.1) (Zs ?_ ?_)
    rotate_left
    ·rw [Q6 (fn:=U1) rfl]
     simp only [U1,Q0,quiet,cW,↓pW,reduceCtorEq,seval,-Qb,hsv,rfv,g0,g00,g01,t01,im1,ok1,ok2,ok3,n1,n2,n3,n4,sp4,b1,b2]
     rfl
  ·have b1:(((kl.length:Nat):Int) != (x:Int))=true:=by simp; omega
   refine bad 110 (by decide) (by unfold frE; rw [hsh]; exact if_neg fun hh=>q1 hh.1) (Zs ?_ ?_)
   rotate_left
   ·rw [Q6 (fn:=U1) rfl]
    simp only [U1,Q0,quiet,cW,↓pW,reduceCtorEq,seval,-Qb,hsv,rfv,g0,g00,g01,t01,im1,ok1,ok2,ok3,n1,n2,n3,n4,sp4,b1]
    rfl
structure Two (X:List Ob) (B:Nat) (k:Int) (ka na sa da kb nb sb db:Value):Prop where
 a:X[B]?=some ⟨[.int .i64 k,ka,na,sa,da],true,true,true,1⟩
 b:X[B+1]?=some ⟨[.int .i64 k,kb,nb,sb,db],true,true,true,1⟩
theorem cg {X:List Ob} {v:Value} {l:List Nat} (h:DPart H v l) (hg:∀ i,i<H.length→X[i]?=H[i]?):Ct X v=some (X7 l):=by
 have h1:=h.reads X hg
 obtain ⟨a,c,e⟩:=h.shape
 rw [e,Ah,←e,h1,Qk,VV,Qk]; rfl
def Mq:List Nat:=[116,101,120,116]
theorem lJ (n:Nat):B32 (kE n):=⟨AH n,kE_lt n⟩
theorem kr {nm:List Nat} {e m:Nat} {key tl:List Nat}:rf (.agg (plc nm e m key (u8s tl)).toArray)=true:=by
 simp [rf,WW,plc,u8s,scalarRf]
theorem dX:Z4 T 16 []=some (.bool true):=by
 have hn:=lJ 1
 have hk:=lJ 3
 have hs:=lJ 4
 have hz:Qc 32 (Value.int .u8 0)=u8s zK:=rfl
 have lz:=FE
 have f1:fillL (u8s zK) [(0,1,.int .u8 1)]=some (u8s (kE 1)):=rfl
 have f3:fillL (u8s zK) [(0,1,.int .u8 3)]=some (u8s (kE 3)):=rfl
 have f4:fillL (u8s zK) [(0,1,.int .u8 4)]=some (u8s (kE 4)):=rfl
 have ft:fillL [Value.int .u8 0,.int .u8 0,.int .u8 0,.int .u8 0] [(0,1,.int .u8 116),(1,1,.int .u8 101),(2,1,.int .u8 120),(3,1,.int .u8 116)]=some (u8s Mq):=rfl
 have hst:Z4 T 28 [.agg (u8s (kE 1)).toArray,.int .u32 2,.agg (u8s (kE 3)).toArray,.agg (u8s (kE 4)).toArray]=_:=d9 (e:=2) hn.len hk.len hs.len
 have lpu:=BZ (kE 4)
 have hX:=ah (kE 1) (kE 3)
 obtain ⟨S,hS⟩:∃ X,X=plc (kE 1) 2 0 (kE 3) (u8s (kE 4)):=⟨_,rfl⟩
 have n0:=JK (e:=2) (m:=0) (tl:=u8s (kE 4)) hn.len hk.len
 rw [Qn,hs.len,←hS] at n0
 rw [←hS] at hst
 obtain ⟨H1,hH1⟩:∃ G,G=[(⟨S,true,true,true,1⟩:Ob)]:=⟨_,rfl⟩
 have hsh:=PL (H:=H1) (e:=2) (m:=0) hn.len hk.len hs
 rw [←hS] at hsh
 have F:=ki (H:=H1) (nm:=kE 1) (key:=kE 3) (sg:=kE 4) (pub:=XL (kE 4)) (e:=2) (m:=0) hn.len hk.len lpu
 obtain ⟨P1,hP1⟩:∃ G,G=H1++FT (kE 1) (kE 3) (kE 4) (XL (kE 4)) 2 0 H1.length:=⟨_,rfl⟩
 rw [←hP1] at hsh F
 obtain ⟨k1,hfo⟩:=TO F
 obtain ⟨W,hW⟩:∃ X,X=fol (kE 1) 2 0 (kE 3) (XL (kE 4)) (.slice none 0 0):=⟨_,rfl⟩
 rw [show plc (kE 1) 2 0 (kE 3) (u8s (XL (kE 4))++[.slice none 0 0])=fol (kE 1) 2 0 (kE 3) (XL (kE 4)) (.slice none 0 0) from rfl,←hW] at hfo
 have w0:=UF (e:=2) (m:=0) (hv := .slice none 0 0) hn.len hk.len lpu
 rw [←hW] at w0
 obtain ⟨P2,hP2⟩:∃ G,G=P1++k1:=⟨_,rfl⟩
 rw [←hP2] at hfo
 have lP2:1≤P2.length:=by rw [hP2,hP1,hH1]; simp [FT]
 have p2s:P2[0]?=some ⟨S,true,true,true,1⟩:=by rw [hP2,hP1,hH1]; rfl
 obtain ⟨H3,hH3⟩:∃ G,G=P2++[(⟨W,true,true,true,1⟩:Ob),⟨u8s Mq,true,true,true,1⟩]:=⟨_,rfl⟩
 have l3:H3.length=P2.length+2:=by rw [hH3]; simp
 have h3t:H3[P2.length+1]?=some ⟨u8s Mq,true,true,true,1⟩:=by rw [hH3,Qe (by omega),Qp]; rfl
 have h3w:H3[P2.length]?=some ⟨W,true,true,true,1⟩:=by rw [hH3,Qe (Ql _),Qv]; rfl
 have h3s:H3[0]?=some ⟨S,true,true,true,1⟩:=by rw [hH3,Qa (by omega)]; exact p2s
 obtain ⟨ik,ina,is,v,H4,hse,m4,o4,l4⟩:=bE (H:=H3) (e:=2) (m:=0) (tv := .slice (some ⟨P2.length+1,0,none⟩) 4 4) hn hk hs (by decide) (HPart.whole (by omega) h3t (by decide) (by decide)) (by decide)
 obtain ⟨S',hS'⟩:∃ X,X=plc (kE 1) 2 (0+1) ((nxK (kE 1) (kE 3)).drop 32) (u8s (kE 4)):=⟨_,rfl⟩
 have n1:=JK (e:=2) (m:=0+1) (tl:=u8s (kE 4)) hn.len hX.len
 rw [Qn,hs.len,←hS'] at n1
 rw [←hS,←hS'] at hse
 have hnum1:S'[33]?=some (.int .u32 1):=by rw [hS']; exact Vq hn.len
 obtain ⟨fo,hfoo⟩:∃ o:Ob,o=⟨[.int .i64 5,.slice (some ⟨ik,0,none⟩) 1 1,.slice (some ⟨ina,0,none⟩) 2 2,.slice (some ⟨is,0,none⟩) 1 1,v],true,true,true,1⟩:=⟨_,rfl⟩
 obtain ⟨H5,hH5⟩:∃ G,G=(H4.set 0 (⟨S',true,true,true,1⟩:Ob))++[fo]:=⟨_,rfl⟩
 have l5:H5.length=H4.length+1:=by rw [hH5]; simp
 have o5:∀ i,i<H4.length→i≠0→H5[i]?=H4[i]? := fun i hi hne=>by rw [hH5,Qa (by rw [Qs]; exact hi),Qr (Ne.symm hne)]
 have m5:=m4.keep (G:=H5) fun i o hb ho _=>(o5 i (Qf.1 ho).1 (by omega)).trans ho
 have hD:=ay (nm:=kE 1) (key:=kE 3) (tx:=Mq) 2 0 hn (by decide) (by decide)
 have ltx:Mq.length=4:=rfl
 obtain ⟨H6,r6,v6,c6,hop,o6,l6,q6⟩:=Fk (H:=H5) (key:=kE 3) (m:=0) (tx:=Mq) m5 hk hs (by omega) hD.2 (by decide) (Ql _) (fun _=>⟨rfl,by decide,by decide⟩)
 rcases q6 with ⟨h,-⟩ | ⟨-,rfl,rfl,q6⟩
 ·exact absurd h (Nat.lt_irrefl _)
 rw [←hW] at hop
 obtain ⟨W',hW'⟩:∃ X,X=fol (kE 1) 2 (0+1) ((nxK (kE 1) (kE 3)).drop 32) (XL (kE 4)) (.slice none 0 0):=⟨_,rfl⟩
 have w1:=UF (e:=2) (m:=0+1) (hv := .slice none 0 0) hn.len hX.len lpu
 rw [←hW'] at w1 hop
 obtain ⟨H7,hH7⟩:∃ G,G=H6++[(⟨W',true,true,true,1⟩:Ob)]:=⟨_,rfl⟩
 have l7:H7.length=H6.length+1:=by rw [hH7]; simp
 have o7:∀ i,i<H6.length→H7[i]?=H6[i]? := fun i hi=>by rw [hH7,Qa hi]
 have m7:=(m5.ext o6).ext o7
 obtain ⟨H8,r8,v8,c8,hop2,o8,l8,q8⟩:=Fk (H:=H7) (key:=(nxK (kE 1) (kE 3)).drop 32) (m:=1) (tx:=[]) m7 hX hs (by omega) hD.2 (by decide) (by decide) (fun h=>absurd h (by decide))
 rcases q8 with ⟨-,rfl,rfl,rfl⟩ | ⟨h,-⟩
 rotate_left
 ·exact absurd h (by decide)
 rw [show fol (kE 1) 2 1 ((nxK (kE 1) (kE 3)).drop 32) (XL (kE 4)) (.slice none 0 0)=W' from hW'.symm] at hop2
 have o78:∀ i,i<H7.length→(H8++[(⟨W',true,true,true,1⟩:Ob)])[i]?=H7[i]? := fun i hi=>by rw [Qa (by omega),o8 i hi]
 have t6:=(((q6.ext o7).ext o78).part (by decide) (by decide))
 have hb2:Ct (H8++[(⟨W',true,true,true,1⟩:Ob)]) v6=some (.string (ByteArray.mk #[116,101,120,116])):=cg ⟨t6.shape,t6.reads⟩ fun i hi=>rfl
 obtain ⟨H9,hH9⟩:∃ G,G=H8++[(⟨W',true,true,true,1⟩:Ob)]:=⟨_,rfl⟩
 rw [←hH9] at hb2 o78
 have up95:∀ i,i<H5.length→H9[i]?=H5[i]? := fun i hi=>by rw [o78 i (by omega),o7 i (by omega),o6 i hi]
 have g1:H1[0]?=some ⟨S,true,true,true,1⟩:=by rw [hH1]; rfl
 have a1:∀ o o':Ob,[o].set 0 o'=[o']:=fun _ _=>rfl
 have g2:∀ L:List Ob,(P2++L)[0]?=some ⟨S,true,true,true,1⟩:=fun L=>by rw [Qa (by omega)]; exact p2s
 have a2:∀ o o':Ob,(P2++[o]).set P2.length o'=P2++[o']:=fun _ _=>by rw [Q9 _ _ (Ql _),Qv]; rfl
 have a2g:∀ o:Ob,(P2++[o])[P2.length]?=some o:=fun _=>by rw [Qe (Ql _),Qv]; rfl
 have g4:∀ o:Ob,(H4++[o])[0]?=some ⟨S,true,true,true,1⟩:=fun o=>by rw [Qa (by omega),o4 _ (by omega)]; exact h3s
 have a4:∀ o o':Ob,(H4++[o]).set 0 o'=H4.set 0 o'++[o]:=fun _ _=>List.set_append_left _ _ (by omega)
 have a4g:∀ o o':Ob,(H4.set 0 o++[o'])[H4.length]?=some o':=fun _ _=>by rw [Qe (by rw [Qs]; exact Ql _),Qs,Qv]; rfl
 have a4s:∀ o o' o2:Ob,(H4.set 0 o++[o']).set H4.length o2=H4.set 0 o++[o2]:=fun _ _ _=>by rw [Q9 _ _ (by rw [Qs]; exact Ql _),Qs,Qv]; rfl
 have g5w:H5[P2.length]?=some ⟨W,true,true,true,1⟩:=by rw [o5 _ (by omega) (by omega),o4 _ (by omega)]; exact h3w
 have g5f:H5[H4.length]?=some fo:=by rw [hH5,Qe (by rw [Qs]; exact Ql _),Qs,Qv]; rfl
 have g5s:H5[0]?=some ⟨S',true,true,true,1⟩:=by rw [hH5,Qa (by rw [Qs]; omega),Qx (by omega)]
 have a6:∀ o o':Ob,(H6++[o]).set H6.length o'=H6++[o']:=fun _ _=>by rw [Q9 _ _ (Ql _),Qv]; rfl
 have a6g:∀ o:Ob,(H6++[o])[H6.length]?=some o:=fun _=>by rw [Qe (Ql _),Qv]; rfl
 have g7w:H7[H6.length]?=some ⟨W',true,true,true,1⟩:=by rw [hH7,Qe (Ql _),Qv]; rfl
 have g7f:H7[H4.length]?=some fo:=by rw [o7 _ (by omega),o6 _ (by omega)]; exact g5f
 have a8:∀ o o':Ob,(H8++[o]).set H8.length o'=H8++[o']:=fun _ _=>by rw [Q9 _ _ (Ql _),Qv]; rfl
 have a8g:∀ o:Ob,(H8++[o])[H8.length]?=some o:=fun _=>by rw [Qe (Ql _),Qv]; rfl
 have g9s:H9[0]?=some ⟨S',true,true,true,1⟩:=(up95 0 (by omega)).trans g5s
 have g9w:H9[P2.length]?=some ⟨W,true,true,true,1⟩:=(up95 _ (by omega)).trans g5w
 have g9v:H9[H6.length]?=some ⟨W',true,true,true,1⟩:=(o78 _ (by omega)).trans g7w
 have nW:W[33]?=some (.int .u32 0):=by rw [hW]; exact Vq hn.len
 have nW':W'[33]?=some (.int .u32 1):=by rw [hW']; exact Vq hn.len
 have lzs:Vu.length=98:=rfl
 have lzf:Kq.length=5:=rfl
 have lzo:Jo.length=99:=rfl
 have s1:splice Vu 0 S=S:=QV (by rw [n0,lzs])
 have s2:splice Jo 0 W=W:=QV (by rw [w0,lzo])
 have s3:splice S 0 S'=S':=QV (by rw [n0,n1])
 have s4:splice Jo 0 W'=W':=QV (by rw [w1,lzo])
 have sp5:∀ (a b c d e':Value),splice Kq 0 [a,b,c,d,e']=[a,b,c,d,e']:=fun _ _ _ _ _=>rfl
 have cl5:∀ a b c d e':Value,Q2 5 [a,b,c,d,e']=[a,b,c,d,e']:=fun _ _ _ _ _=>rfl
 have t1:Q2 98 S=S:=QB n0
 have t2:Q2 99 W=W:=QB w0
 have t4:Q2 99 W'=W':=QB w1
 have hfc:fo.cells=[.int .i64 5,.slice (some ⟨ik,0,none⟩) 1 1,.slice (some ⟨ina,0,none⟩) 2 2,.slice (some ⟨is,0,none⟩) 1 1,v]:=by rw [hfoo]
 have hfl:fo.live=true:=by rw [hfoo]
 have hfo2:=hfoo.symm
 have ok1:∀ L:List Value,(Value.agg L.toArray).cells.toList=L:=fun _=>rfl
 have ok2:∀ L:List Value,(Value.agg L.toArray).cells.size=L.length:=fun _=>rfl
 have ok3:∀ L:List Value,okVar (Value.agg L.toArray)=true:=fun _=>rfl
 have l1:=AH 1
 have l2:=AH 3
 have l3':=AH 4
 have r1:rf (.agg S.toArray)=true:=by rw [hS]; exact kr
 have h1:=hH1.symm
 have h3:=hH3.symm
 have h5:=hH5.symm
 have h7:=hH7.symm
 have h9:=hH9.symm
 clear hH1 hP1 hP2 hH3 hH5 hH7 hH9 hS hW hS' hW' F m4 m5 m7 o4 o5 o6 o7 o8 o78 up95 q6 t6 hfoo hn hk hs hX hD h3w h3s p2s
 simp only [Ix] at hse hop hop2
 generalize kE 1=K1,kE 3=K3,kE 4=K4 at *
 generalize Mq=tx at *
 apply ZB (fn:=mZ) rfl
 simp only [mZ,Q0,quiet,cW,↓pW,reduceCtorEq,seval,-Qb,hz,lz,f1,f3,f4,ft,hst,hsh,hfo,hse,hop,hop2,hb2,h3t,g1,a1,g2,a2,a2g,g4,a4,a4g,a4s,g5w,g5f,a6,a6g,g7w,g7f,a8,a8g,g9s,g9w,g9v,nW,nW',hnum1,lzs,lzf,lzo,s1,s2,s3,s4,sp5,cl5,t1,t2,t4,hfc,hfl,hfo2,ok1,ok2,ok3,l1,l2,l3',n0,n1,w0,w1,h1,h3,h5,h7,h9,ltx,r1,QB,QX,Zg,ZU,Zh,Qn,Qm,Qs,ZX,Ix]
 rfl
theorem Pc:Z4 T 30 [.agg Vb.toArray]=some (.agg V8.toArray):=by
 have t1:Q2 32 Vb=u8s zK:=rfl
 have t2:Q2 32 (Z9 34 Vb)=u8s zK:=rfl
 have t3:Vb[32]?=some (.int .u32 0):=rfl
 have t4:Vb[33]?=some (.int .u32 0):=rfl
 have f1:fillL V8 [(0,32,.agg (u8s zK).toArray),(32,1,.int .i64 0),(33,1,.int .i64 0),(34,32,.agg (u8s zK).toArray)]=some V8:=rfl
 have w:IntKind.i64.wrap 0=0:=rfl
 have l1:Vb.length=66:=rfl
 have l2:V8.length=66:=rfl
 have s1:splice V8 0 V8=V8:=QV rfl
 have tk:Q2 66 V8=V8:=QB l2
 have ok1:∀ L:List Value,(Value.agg L.toArray).cells.toList=L:=fun _=>rfl
 have ok2:∀ L:List Value,(Value.agg L.toArray).cells.size=L.length:=fun _=>rfl
 have ok3:∀ L:List Value,okVar (Value.agg L.toArray)=true:=fun _=>rfl
 apply ZB (fn:=mT) rfl
 simp only [mT,Q0,quiet,cW,↓pW,reduceCtorEq,seval,-Qb,t1,t2,t3,t4,f1,w,l1,l2,s1,tk,ok1,ok2,ok3]
 rfl
theorem Nl (H:List Ob):∃ l,Zb T 17 [.agg Jo.toArray] H=some (.agg Kr.toArray,H++l,[]):=by
 have hp:=Pc
 have t1:Q2 66 Jo=Vb:=rfl
 have t2:Q2 32 (Z9 66 Jo)=u8s zK:=rfl
 have t3:Jo[98]?=some (.slice none 0 0):=rfl
 have f1:fillL Kr [(0,66,.agg V8.toArray),(66,32,.agg (u8s zK).toArray)]=some Kr:=rfl
 have r1:rf (.agg Vb.toArray)=true:=rfl
 have r2:rf (.agg V8.toArray)=true:=rfl
 have l1:Jo.length=99:=rfl
 have l2:Kr.length=99:=rfl
 have lp:Vb.length=66:=rfl
 have s1:splice Kr 0 Kr=Kr:=QV rfl
 have tk:Q2 99 Kr=Kr:=QB l2
 have hlen:vLen false (.slice none 0 0)=some (.int .i64 0):=rfl
 have ok1:∀ L:List Value,(Value.agg L.toArray).cells.toList=L:=fun _=>rfl
 have ok2:∀ L:List Value,(Value.agg L.toArray).cells.size=L.length:=fun _=>rfl
 have ok3:∀ L:List Value,okVar (Value.agg L.toArray)=true:=fun _=>rfl
 obtain ⟨st,hA,rfl⟩:=QY (T:=T) (base:=H.length) (id:=0) (body:=Cd)
  (fun i st=>st=⟨[(2,.pointer (some ⟨H.length+1,0,none⟩)),(3,.pointer (some ⟨H.length+2,0,none⟩)),(13,.slice none 0 0),(14,.int .i64 0),(15,.int .i64 0)],H++[⟨Jo,true,true,true,1⟩,⟨Kr,true,true,true,1⟩,⟨Kr,true,true,true,1⟩],[]⟩) (Q:=fun st=>st=⟨[(2,.pointer (some ⟨H.length+1,0,none⟩)),(3,.pointer (some ⟨H.length+2,0,none⟩)),(13,.slice none 0 0),(14,.int .i64 0),(15,.int .i64 0),(16,.bool false)],H++[⟨Jo,true,true,true,1⟩,⟨Kr,true,true,true,1⟩,⟨Kr,true,true,true,1⟩],[]⟩)
  0 (s:=⟨[(2,.pointer (some ⟨H.length+1,0,none⟩)),(3,.pointer (some ⟨H.length+2,0,none⟩)),(13,.slice none 0 0),(14,.int .i64 0),(15,.int .i64 0)],H++[⟨Jo,true,true,true,1⟩,⟨Kr,true,true,true,1⟩,⟨Kr,true,true,true,1⟩],[]⟩) rfl (fun i st hi=>absurd hi (Xf _))
  (fun st hs=>by
   subst hs
   refine ⟨_,?_,rfl⟩
   have e1:((0:Int)<0)=False:=eq_false (by decide)
   simp only [Cd,Q0,quiet,cW,↓pW,reduceCtorEq,seval,-Qb,e1])
 have e2:∀ o1 o2:Ob,(H++[o1,o2])[H.length]?=some o1:=fun _ _=>by rw [Qe (Ql _),Qv]; rfl
 have e3:∀ j (o1 o2 o3:Ob),(H++[o1,o2,o3])[H.length+j]?=[o1,o2,o3][j]? := fun _ _ _ _=>by rw [Qe (by omega),Qp]
 have e30:∀ o1 o2 o3:Ob,(H++[o1,o2,o3])[H.length]?=some o1:=fun _ _ _=>by rw [Qe (Ql _),Qv]; rfl
 have t4:∀ o1 o2 o3 o:Ob,(H++[o1,o2,o3]).set (H.length+2) o=H++[o1,o2,o]:=fun _ _ _ _=>by rw [Q9 _ _ (by omega),Qp]; rfl
 have t5:∀ o1 o2 o3 o:Ob,(H++[o1,o2,o3]).set (H.length+1) o=H++[o1,o,o3]:=fun _ _ _ _=>by rw [Q9 _ _ (by omega),Qp]; rfl
 have im:∀ j,Qz H.length [] [H.length+j]=[]:=fun j=>QN (by simp)
 refine ⟨[⟨Jo,true,true,true,1⟩,⟨Kr,true,true,true,1⟩,⟨Kr,true,true,true,1⟩],?_⟩
 rw [Q6 (fn:=mY) rfl]
 simp only [mY,Q0,quiet,cW,↓pW,reduceCtorEq,seval,-Qb,hp,r1,r2,t1,t2,t3,f1,l1,l2,lp,s1,tk,hlen,ok1,ok2,ok3,hA,e2,e3,e30,t4,t5,im,J2,ZV]
theorem Pb (H:List Ob):∃ l,Zb T 20 [.agg Kr.toArray,.agg Kr.toArray] H=some (.bool true,H++l,[]):=by
 have t1:Q2 66 Kr=V8:=rfl
 have t2:Q2 32 (Z9 66 Kr)=u8s zK:=rfl
 have t3:Kr[98]?=some (.slice none 0 0):=rfl
 have l2:Kr.length=99:=rfl
 have lz:=FE
 have q1:J0 (Qc 66 true) V8 V8=some true:=by decide +kernel
 have q2:=XT lz lz
 have hlen:vLen false (.slice none 0 0)=some (.int .i64 0):=rfl
 have ok1:∀ L:List Value,(Value.agg L.toArray).cells.toList=L:=fun _=>rfl
 have ok2:∀ L:List Value,(Value.agg L.toArray).cells.size=L.length:=fun _=>rfl
 have ok3:∀ L:List Value,okVar (Value.agg L.toArray)=true:=fun _=>rfl
 have e2:∀ j (o1 o2:Ob),(H++[o1,o2])[H.length+j]?=[o1,o2][j]? := fun _ _ _=>by rw [Qe (by omega),Qp]
 have e20:∀ o1 o2:Ob,(H++[o1,o2])[H.length]?=some o1:=fun _ _=>by rw [Qe (Ql _),Qv]; rfl
 obtain ⟨st,hA,rfl⟩:=QY (T:=T) (base:=H.length) (id:=0) (body:=Cc)
  (fun i st=>st=⟨[(2,.pointer (some ⟨H.length,0,none⟩)),(3,.pointer (some ⟨H.length+1,0,none⟩)),(5,.int .i64 0)],H++[⟨Kr,true,true,true,1⟩,⟨Kr,true,true,true,1⟩],[]⟩) (Q:=fun st=>st=⟨[(2,.pointer (some ⟨H.length,0,none⟩)),(3,.pointer (some ⟨H.length+1,0,none⟩)),(5,.int .i64 0),(31,.bool false)],H++[⟨Kr,true,true,true,1⟩,⟨Kr,true,true,true,1⟩],[]⟩)
  0 (s:=⟨[(2,.pointer (some ⟨H.length,0,none⟩)),(3,.pointer (some ⟨H.length+1,0,none⟩)),(5,.int .i64 0)],H++[⟨Kr,true,true,true,1⟩,⟨Kr,true,true,true,1⟩],[]⟩) rfl (fun i st hi=>absurd hi (Xf _))
  (fun st hs=>by
   subst hs
   refine ⟨_,?_,rfl⟩
   have e1:((0:Int)<0)=False:=eq_false (by decide)
   simp only [Cc,Q0,quiet,cW,↓pW,reduceCtorEq,seval,-Qb,e1,e20,t3,hlen,l2])
 refine ⟨[⟨Kr,true,true,true,1⟩,⟨Kr,true,true,true,1⟩],?_⟩
 rw [Q6 (fn:=mX) rfl]
 simp only [mX,Q0,quiet,cW,↓pW,reduceCtorEq,seval,-Qb,t1,t2,t3,l2,q1,q2,hlen,ok1,ok2,ok3,hA,e2,e20,J2,ZV]
theorem R0 {H0:List Ob} {k:Int} {kl:List (List Nat)} {nl:List Nat} {sl:List (List Nat)} {dl:List Nat} (h:FrV H0 ka na sa da kl nl sl dl) (hnl:∀ x∈nl,x<2^32) :
  ∃ H',Zb T 5 [.agg #[.int .i64 k,ka,na,sa,da]] H0=some (.bool true,H',[]):=by
 have hmt:=dX
 have cl5:∀ a b c d e:Value,Q2 5 [a,b,c,d,e]=[a,b,c,d,e]:=fun _ _ _ _ _=>rfl
 have ok1:∀ L:List Value,(Value.agg L.toArray).cells.toList=L:=fun _=>rfl
 have ok2:∀ L:List Value,(Value.agg L.toArray).cells.size=L.length:=fun _=>rfl
 have ok3:∀ L:List Value,okVar (Value.agg L.toArray)=true:=fun _=>rfl
 have g0:∀ o1:Ob,(H0++[o1])[H0.length]?=some o1:=fun _=>by rw [Qe (Ql _),Qv]; rfl
 obtain ⟨bx,hbx⟩:∃ X:Ob,X=⟨[.int .i64 k,ka,na,sa,da],true,true,true,1⟩:=⟨_,rfl⟩
 obtain ⟨G1,hG1⟩:∃ X,X=H0++[bx]:=⟨_,rfl⟩
 have p1:G1[H0.length]?=some bx:=by rw [hG1]; exact g0 bx
 have gg:∀ (G:List Ob),G[H0.length]?=some bx→∀ m,(G++m)[H0.length]?=some bx:=fun G hG m=>by rw [Qa (Qf.1 hG).1]; exact hG
 have hA:∀ m,FrV (G1++m) ka na sa da kl nl sl dl:=fun m=>by rw [hG1,Qw]; exact h.app
 have nz:Jo.length=99:=rfl
 have aF:∀ (G:List Ob) (o o':Ob),(G++[o]).set G.length o'=G++[o']:=fun _ _ _=>by rw [Q9 _ _ (Ql _),Qv]; rfl
 have aG:∀ (G:List Ob) (o:Ob),(G++[o])[G.length]?=some o:=fun _ _=>by rw [Qe (Ql _),Qv]; rfl
 by_cases hok:frE k kl.length nl.length sl.length dl.length=0∧k=4
 ·obtain ⟨hE,rfl⟩:=hok
  obtain ⟨⟨e1,e2,e3,e4⟩,-⟩:(kl.length=3∧nl.length=2∧sl.length=0∧dl.length=0)∧True:=by
   refine ⟨?_,trivial⟩
   unfold frE at hE
   rw [show shp 4=some (3,2,0,false) from rfl] at hE
   by_cases q:kl.length=3∧nl.length=2∧sl.length=0∧(false=true∨dl.length=0)
   ·obtain ⟨a,b,c,d⟩:=q
    exact ⟨a,b,c,d.resolve_left (by decide)⟩
   ·simp only [if_neg q] at hE
    cases hE
  match kl,nl,sl,dl,e1,e2,e3,e4 with
  | [k0,k1,k2],[i,j],[],[],_,_,_,_ =>
   have l0:k0.length=32:=h.kx _ (by simp)
   have l1:k1.length=32:=h.kx _ (by simp)
   have l2:k2.length=32:=h.kx _ (by simp)
   obtain ⟨O,hO⟩:∃ X,X=plc k0 i j k1 (u8s k2++[.slice none 0 0]):=⟨_,rfl⟩
   have nO:O.length=99:=by rw [hO,JK l0 l1,Qi,Qn,l2]; rfl
   have szO:splice Jo 0 O=O:=QV (by rw [nO,nz])
   have tO:Q2 99 O=O:=QB nO
   have r0:Q2 32 O=u8s k0:=by rw [hO]; exact DT l0
   have r1:Q2 32 (Z9 34 O)=u8s k1:=by rw [hO]; exact Aw l0 l1
   have r2:Q2 32 (Z9 66 O)=u8s k2:=by rw [hO]; exact LV l0 l1 l2
   have r3:O[32]?=some (.int .u32 i):=by rw [hO]; exact Ax l0
   have r4:O[33]?=some (.int .u32 j):=by rw [hO]; exact Vq l0
   have r5:O[98]?=some (.slice none 0 0):=by rw [hO]; exact Gp l0 l1 l2
   obtain ⟨m1,hr⟩:=TO (by simpa using hA [])
   rw [←hO] at hr
   obtain ⟨G2,hG2⟩:∃ X,X=G1++m1:=⟨_,rfl⟩
   rw [←hG2] at hr
   have p2:G2[H0.length]?=some bx:=by rw [hG2]; exact gg _ p1 _
   obtain ⟨G3,hG3⟩:∃ X,X=G2++[(⟨O,true,true,true,1⟩:Ob)]:=⟨_,rfl⟩
   have p3:G3[H0.length]?=some bx:=by rw [hG3]; exact gg _ p2 _
   have q3:G3[G2.length]?=some ⟨O,true,true,true,1⟩:=by rw [hG3]; exact aG _ _
   have hA3:FrV G3 ka na sa da [k0,k1,k2] [i,j] [] []:=by rw [hG3,hG2,Qw]; exact hA _
   obtain ⟨v,m2,he,-⟩:=Rq (k:=4) (H:=G3) hA3 hnl
   rw [hE] at he
   obtain ⟨G4,hG4⟩:∃ X,X=G3++m2:=⟨_,rfl⟩
   rw [←hG4] at he
   have p4:G4[H0.length]?=some bx:=by rw [hG4]; exact gg _ p3 _
   have q4:G4[G2.length]?=some ⟨O,true,true,true,1⟩:=by rw [hG4,Qa (Qf.1 q3).1]; exact q3
   have F3:G2++[(⟨O,true,true,true,1⟩:Ob)]=G3:=hG3.symm
   have F1:H0++[(⟨[.int .i64 4,ka,na,sa,da],true,true,true,1⟩:Ob)]=G1:=by rw [hG1,hbx]
   have im:Qz H0.length [] [G2.length]=[]:=QN (by have:=(Qf.1 p2).1; simp; omega)
   have hA4:FrV G4 ka na sa da [k0,k1,k2] [i,j] [] []:=by rw [hG4]; exact hA3.app
   obtain ⟨kid,kc,kw,ke,ks,rfl,hk,-⟩:=hA4.kz.some_of (by simp)
   obtain ⟨nid,nc,nw,ne,ns',rfl,hn,-⟩:=hA4.nz.some_of (by simp)
   have a0:Q2 32 (u8s [k0,k1,k2].flatten)=u8s k0:=(KB h.kx (i:=0) rfl).1
   have a1:Q2 32 (Z9 32 (u8s [k0,k1,k2].flatten))=u8s k1:=(KB h.kx (i:=1) rfl).1
   have a2:Q2 32 (Z9 64 (u8s [k0,k1,k2].flatten))=u8s k2:=(KB h.kx (i:=2) rfl).1
   have lk:(u8s [k0,k1,k2].flatten).length=96:=by rw [Qn,Xs h.kx]; rfl
   have an:ns32 [i,j]=[.int .u32 i,.int .u32 j]:=rfl
   rw [an] at hn
   have c0:=XT l0 l0
   have c1:=XT l1 l1
   have c2:=XT l2 l2
   have hlen:vLen false (.slice none 0 0)=some (.int .i64 0):=rfl
   have hl3:([k0,k1,k2]:List (List Nat)).length=3:=rfl
   have hl2:([i,j]:List Nat).length=2:=rfl
   clear hG2 hG3 hG4 gg hA hA3 hA4 h hO hnl an
   rw [hbx] at p1 p2 p3 p4
   rw [hl3,hl2] at p1 p2 p3 p4 hr he F1
   generalize u8s [k0,k1,k2].flatten=KF at *
   apply Zs
   rw [Q6 (fn:=Lf) rfl]
   simp only [Lf,hl3,hl2,Q0,quiet,cW,↓pW,reduceCtorEq,seval,-Qb,hmt,cl5,ok1,ok2,ok3,g0,F1,F3,p1,hr,p2,p3,q3,he,p4,q4,nO,nz,szO,tO,im,aF,aG,hk,hn,a0,a1,a2,lk,r0,r1,r2,r3,r4,r5,c0,c1,c2,hlen]
   rfl
 ·obtain ⟨m1,hr⟩:=IH (k:=k) (by simpa using hA []) hok
  obtain ⟨G2,hG2⟩:∃ X,X=G1++m1:=⟨_,rfl⟩
  rw [←hG2] at hr
  have p2:G2[H0.length]?=some bx:=by rw [hG2]; exact gg _ p1 _
  obtain ⟨G3,hG3⟩:∃ X,X=G2++[(⟨Jo,true,true,true,1⟩:Ob)]:=⟨_,rfl⟩
  have p3:G3[H0.length]?=some bx:=by rw [hG3]; exact gg _ p2 _
  have q3:G3[G2.length]?=some ⟨Jo,true,true,true,1⟩:=by rw [hG3]; exact aG _ _
  obtain ⟨v,m2,he,-⟩:=Rq (k:=k) (H:=G3) (by rw [hG3,hG2,Qw]; exact hA _) hnl
  obtain ⟨G4,hG4⟩:∃ X,X=G3++m2:=⟨_,rfl⟩
  rw [←hG4] at he
  have p4:G4[H0.length]?=some bx:=by rw [hG4]; exact gg _ p3 _
  have q4:G4[G2.length]?=some ⟨Jo,true,true,true,1⟩:=by rw [hG4,Qa (Qf.1 q3).1]; exact q3
  obtain ⟨m5,hpl⟩:=Nl G4
  obtain ⟨m6,hsa⟩:=Pb (G4++m5)
  have im:Qz H0.length [] [G2.length]=[]:=QN (by have:=(Qf.1 p2).1; simp; omega)
  have F3:G2++[(⟨Jo,true,true,true,1⟩:Ob)]=G3:=hG3.symm
  have F1:H0++[(⟨[.int .i64 k,ka,na,sa,da],true,true,true,1⟩:Ob)]=G1:=by rw [hG1,hbx]
  have tz:Q2 99 Jo=Jo:=QB nz
  have szz:splice Jo 0 Jo=Jo:=QV rfl
  have fz:fillL Kr []=some Kr:=rfl
  have s3:=YJ q3
  clear hG2 hG3 hG4 gg hA h hnl
  rw [hbx] at p1 p2 p3 p4
  by_cases h0:frE k kl.length nl.length sl.length dl.length=0
  ·have b1:(k != 4)=true:=by simpa using fun hk=>hok ⟨h0,hk⟩
   rw [h0] at he
   apply Zs
   rw [Q6 (fn:=Lf) rfl]
   simp only [Lf,Q0,quiet,cW,↓pW,reduceCtorEq,seval,-Qb,hmt,cl5,ok1,ok2,ok3,g0,F1,F3,p1,hr,p2,p3,q3,he,p4,q4,nz,szz,tz,fz,b1,im,s3,aG,hpl,hsa]
   rfl
  ·have b1:(frE k kl.length nl.length sl.length dl.length != 0)=true:=by simpa using h0
   generalize frE k kl.length nl.length sl.length dl.length=E at *
   apply Zs
   rw [Q6 (fn:=Lf) rfl]
   simp only [Lf,Q0,quiet,cW,↓pW,reduceCtorEq,seval,-Qb,hmt,cl5,ok1,ok2,ok3,g0,F1,F3,p1,hr,p2,p3,q3,he,p4,q4,nz,szz,tz,fz,b1,im,s3,aG,hpl,hsa]
   rfl
end Go.Ev.YtomfgcgnepfmjaaGreat
namespace Go.Ev.YtomfgcgnepfmjaaGreat
open Go Go.Ev
set_option maxRecDepth 100000
variable {w:World}
theorem chunk {es:Nat}:∀ (n:Nat) (q:List Nat),q.length=n*es→∃ kl:List (List Nat),kl.flatten=q∧kl.length=n∧∀ x∈kl,x.length=es
 | 0,q,h=>⟨[],by rw [Nat.zero_mul] at h; exact (Zp h).symm,rfl,by simp⟩
 | n+1,q,h=>by
  rw [Hp] at h
  obtain ⟨kl,k1,k2,k3⟩:=chunk (es:=es) n (q.drop es) (by rw [QG]; omega)
  refine ⟨q.take es::kl,by rw [QO,k1,J1],by rw [Zc,k2],fun x hx => ?_⟩
  rcases Jk.1 hx with rfl | hx
  ·rw [Q4]; omega
  ·exact k3 x hx
theorem Gk {k:IntKind}:∀ {l:List Value},(∀ v∈l,∃ x:Nat,v=.int k (x:Nat)∧x<2^k.bits)→∃ q:List Nat,l=q.map (fun n=>.int k (n:Nat))∧∀ x∈q,x<2^k.bits
 | [],_=>⟨[],rfl,by simp⟩
 | v::l,h=>by
  obtain ⟨x,rfl,hx⟩:=h v (by simp)
  obtain ⟨q,rfl,hq⟩:=Gk (l:=l) fun v hv=>h v (YA _ hv)
  exact ⟨x::q,rfl,fun y hy=>(Jk.1 hy).elim (fun e=>e▸hx) (hq y)⟩
def RR (w:World) (es:Nat) (v:Value) (Q:Value→Prop):Prop:=v=.slice none 0 0∨∃ a len cap l,v=.slice (some a) len cap∧LiesC w a len cap es l∧∀ v∈l,Q v
theorem UB {es:Nat} {v:Value} {Q:Value→Prop} (h0:0<es) (h:RR w es v Q):∃ (pl:Option Place) (n:Nat) (l:List Value),(∀ p,pl=some p→p.block<w.heap.size∧∀ ρ,ObjRel ρ w p (obC l))∧(∀ v∈l,Q v)∧l.length=n*es ∧
  ∀ id,∃ v',oneCellB v'=true∧(∀ ρ:Pl,ρ id=pl→VRel ρ v' v)∧∀ H:List Ob,H[id]?=some (obC l)→Sq H es l n v':=by
 rcases h with rfl | ⟨a,len,cap,l,rfl,h1,h2⟩
 ·exact ⟨none,0,[],fun p hp=>(by cases hp),by simp,by simp,fun id=>⟨.slice none 0 0,rfl,fun ρ _=>.same rfl,fun H _=>.inl ⟨rfl,rfl,rfl⟩⟩⟩
 ·obtain ⟨pl,p1,p2,p3⟩:=E8 h1 h0
  exact ⟨some pl,len,l,fun p hp=>(by cases hp; exact ⟨p1,p2⟩),h2,h1.len,fun id=>⟨_,rfl,fun ρ hρ=>p3 ρ id hρ,fun H hH=>.inr ⟨id,len,_,_,_,rfl,hH,h1.len⟩⟩⟩
theorem Sq.dpart {H:List Ob} {l:List Nat} {v:Value} (h:Sq H 1 (u8s l) l.length v):DPart H v l:=by
 rcases h with ⟨rfl,h1,h2⟩ | ⟨id,c,w,e,s,rfl,h1,h2⟩
 ·have:l=[]:=Zp h1
  subst this
  exact ⟨⟨_,_,rfl⟩,fun _ _=>rfl⟩
 ·exact ⟨⟨_,_,rfl⟩,fun G hG=>Ys ((hG id (Qf.1 h1).1).trans h1)⟩
def QI (k:IntKind) (v:Value):Prop:=∃ x:Nat,v=.int k (x:Nat)∧x<2^k.bits
theorem EJ {k:Int} {ka na sa da:Value} (hk:RR w 32 ka (QI .u8)) (hn:RR w 1 na (QI .u32)) (hs:RR w 64 sa (QI .u8)) (hd:RR w 1 da (QI .u8)) :
  ∃ (H0:List Ob) (ρ:Pl) (ka' na' sa' da':Value) (kl:List (List Nat)) (nl:List Nat) (sl:List (List Nat)) (dl:List Nat),FrV H0 ka' na' sa' da' kl nl sl dl∧(∀ x∈nl,x<2^32)∧RelF ρ (hp H0) w∧(∀ id,H0.length≤id→ρ id=none)∧(∀ (i:Nat) (o:Ob),H0[i]?=some o→o.own=false) ∧
   VRel ρ (.agg #[.int .i64 k,ka',na',sa',da']) (.agg #[.int .i64 k,ka,na,sa,da]):=by
 obtain ⟨p0,n0,l0,a1,a2,a3,a4⟩:=UB (by decide) hk
 obtain ⟨p1,n1,l1,b1,b2,b3,b4⟩:=UB (by decide) hn
 obtain ⟨p2,n2,l2,c1,c2,c3,c4⟩:=UB (by decide) hs
 obtain ⟨p3,n3,l3,d1,d2,d3,d4⟩:=UB (by decide) hd
 obtain ⟨v0,a5,a6,a7⟩:=a4 0
 obtain ⟨v1,b5,b6,b7⟩:=b4 1
 obtain ⟨v2,c5,c6,c7⟩:=c4 2
 obtain ⟨v3,d5,d6,d7⟩:=d4 3
 obtain ⟨q0,rfl,-⟩:=Gk a2
 obtain ⟨nl,rfl,x1⟩:=Gk b2
 obtain ⟨q2,rfl,-⟩:=Gk c2
 obtain ⟨dl,rfl,-⟩:=Gk d2
 rw [Xg] at a3 b3 c3 d3
 obtain ⟨kl,rfl,rfl,k3⟩:=chunk n0 q0 a3
 obtain ⟨sl,rfl,rfl,s3⟩:=chunk n2 q2 c3
 rw [Xc] at b3 d3
 subst b3 d3
 refine ⟨[obC (u8s kl.flatten),obC (ns32 nl),obC (u8s sl.flatten),obC (u8s dl)],fun id=>if id<4 then (match id with | 0=>p0 | 1=>p1 | 2=>p2 | 3=>p3 | _=>none) else none,v0,v1,v2,v3,kl,nl,sl,dl,
  ⟨a7 _ rfl,k3,b7 _ rfl,c7 _ rfl,s3,(d7 _ rfl).dpart⟩,x1,?_,fun id hid => ?_,fun i o ho => ?_,?_⟩
 ·refine dP (obs:=[obC (u8s kl.flatten),obC (ns32 nl),obC (u8s sl.flatten),obC (u8s dl)]) (g:=fun id=>match id with | 0=>p0 | 1=>p1 | 2=>p2 | 3=>p3 | _=>none) (fun i o ho => ?_) (fun i o p ho hp => ?_)
  ·rcases i with _ | _ | _ | _ | i<;>first | (cases ho; rfl) | cases ho
  ·rcases i with _ | _ | _ | _ | i
   ·cases ho; exact a1 p hp
   ·cases ho; exact b1 p hp
   ·cases ho; exact c1 p hp
   ·cases ho; exact d1 p hp
   ·cases ho
 ·have:¬ id<4:=by simpa using hid
  simp only [if_neg this]
 ·rcases i with _ | _ | _ | _ | i<;>first | (cases ho; rfl) | cases ho
 ·refine .agg (.cons (.same rfl) (.cons (a6 _ rfl) (.cons (b6 _ rfl) (.cons (c6 _ rfl) (.cons (d6 _ rfl) .nil))))) (fun v hv => ?_)
  simp only [Jk,J4,or_false] at hv
  rcases hv with rfl | rfl | rfl | rfl | rfl
  ·rfl
  ·exact a5
  ·exact b5
  ·exact c5
  ·exact d5
end Go.Ev.YtomfgcgnepfmjaaGreat

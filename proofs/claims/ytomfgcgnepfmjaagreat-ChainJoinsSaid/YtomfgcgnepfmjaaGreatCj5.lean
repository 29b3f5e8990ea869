/- What the law leans on, part 5. -/
import Derived.Test.YtomfgcgnepfmjaaGreatCj4
set_option linter.unusedSimpArgs false
set_option linter.unusedVariables false
open Bool renaming false_and → XU, false_eq_true → Zh
open Exists renaming intro → ZK
open List renaming append_assoc → Qy, append_nil → QJ, cons_append → Qv, drop → ZP, drop_append_of_le_length → ZS, drop_drop → XF, drop_left → OG, drop_left' → X2, drop_of_length_le → J6, drop_zero → JL, eq_nil_of_length_eq_zero → Zn, flatten_append → Zp, flatten_cons → QI, flatten_nil → Zx, getD_eq_getElem?_getD → Qt, getElem?_append_left → Qa, getElem?_append_right → Qe, getElem?_eq_getElem → Qi, getElem?_eq_none → QH, getElem?_eq_some_iff → Qf, getElem?_map → Jb, getElem?_set_ne → Qn, getElem?_set_self → Qw, getElem?_take → QR, length_append → Qh, length_cons → Zo, length_drop → QE, length_map → X1, length_nil → Z2, length_replicate → Qm, length_set → Qp, length_take → Q5, map_cons → Jk, map_nil → JI, mem_append → Q8, mem_cons → Jy, mem_cons_of_mem → YD, mem_map → Jx, mem_of_getElem? → Qz, mem_of_mem_drop → Zy, mem_of_mem_take → QP, mem_singleton → Z0, nil_append → Qq, not_mem_nil → J4, range → Jn, reduceReplicate → Qb, replicate → Qc, set_append_right → Q7, take → Q4, take_add_one → ZF, take_append_of_le_length → Ji, take_left' → Xj, take_of_length_le → Qs, take_zero → JW
open Nat renaming add_comm → Xv, add_mul → Zs, add_sub_cancel_left → Qr, div_add_mod → ZJ, eq_zero_or_pos → ZM, le_refl → Ql, le_trans → Jm, lt_add_one → WN, lt_of_lt_of_le → QF, lt_or_ge → Zw, min_eq_left → QZ, min_eq_right → Fc, mod_lt → Q2, mul_one → Kh, not_lt_zero → Xi, pow_succ → Zu, pow_zero → Xc, sub_self → Qu, succ_mul → Hr, zero_add → QC, zero_lt_one → Wg
open Option renaming bind_some → Qk, some → V8
open Option.some renaming inj → Xh
namespace Go.Ev.YtomfgcgnepfmjaaGreat
open Go Go.Ev
attribute [local congr] Jq J7 Jp J8 Jd
set_option maxRecDepth 100000
variable {nm key sg:List Nat} {e m:Nat} {H:List Ob} {tl:List Value} {pv:Value}
theorem HL {a v b:List Value} (h:v.length=a.length):splice (a++b) 0 v=v++b:=by
 rw [Xe _ _ _ (by rw [Qh]; omega),QC,h,X2 rfl]; rfl
theorem Te:Md=plc (Qc 32 0) 0 0 (Qc 32 0) []:=rfl
theorem OI:Ky=plc (Qc 32 0) 0 0 (Qc 32 0) []++u8s (Qc 32 0):=rfl
theorem Tw {e':Nat} (h1:nm.length=32):(plc nm e m key tl).set 32 (.int .u32 e')=plc nm e' m key tl:=by
 rw [plc,Q7 _ _ (by rw [Qo,h1]; decide),Qo,h1]; rfl
theorem Tv {nm':List Nat} (h1:nm.length=32) (h2:nm'.length=32):splice (plc nm e m key tl) 0 (u8s nm')=plc nm' e m key tl:=by
 rw [plc,HL (by rw [Qo,Qo,h1,h2])]; rfl
theorem I0 (h1:nm.length=32) (h2:key.length=32):fillL Md [(0,32,.agg (u8s nm).toArray),(32,1,.int .u32 (e:Nat)),(34,32,.agg (u8s key).toArray)]=some (plc nm e 0 key []):=by
 have c1:(Value.agg (u8s nm).toArray).cells.size=32:=by show (u8s nm).length=32; rw [Qo,h1]
 have c2:(Value.agg (u8s key).toArray).cells.size=32:=by show (u8s key).length=32; rw [Qo,h2]
 have lz:(Qc 32 0).length=32:=rfl
 have l0:=JD (e:=0) (m:=0) (tl:=[]) lz lz
 have l1:=JD (e:=0) (m:=0) (tl:=[]) h1 lz
 have l2:=JD (e:=e) (m:=0) (tl:=[]) h1 lz
 rw [Te,fillL,if_pos ⟨c1,by rw [l0]; decide,rfl⟩,show (Value.agg (u8s nm).toArray).cells.toList=u8s nm from rfl,Tv lz h1,fillL,if_pos ⟨rfl,by rw [l1]; decide,rfl⟩,show (Value.int .u32 (e:Nat)).cells.toList=[.int .u32 (e:Nat)] from rfl,Xs,Tw h1,fillL,if_pos ⟨c2,by rw [l2]; decide,rfl⟩,show (Value.agg (u8s key).toArray).cells.toList=u8s key from rfl,BH h1 lz h2,fillL]
theorem HN (nm:List Nat) (e m:Nat) (key:List Nat) (tl:List Value):plc nm e m key tl=plc nm e m key []++tl:=by simp [plc]
theorem Ot (h1:nm.length=32) (h2:key.length=32) (h3:sg.length=32):fillL Ky [(0,66,.agg (plc nm e 0 key []).toArray),(66,32,.agg (u8s sg).toArray)]=some (plc nm e 0 key (u8s sg)):=by
 have lz:(Qc 32 0).length=32:=rfl
 have l0:=JD (e:=0) (m:=0) (tl:=[]) lz lz
 have l1:=JD (e:=e) (m:=0) (tl:=[]) h1 h2
 have c1:(Value.agg (plc nm e 0 key []).toArray).cells.size=66:=l1
 have c2:(Value.agg (u8s sg).toArray).cells.size=32:=by show (u8s sg).length=32; rw [Qo,h3]
 rw [OI,fillL,if_pos ⟨c1,by rw [Qh,l0]; decide,rfl⟩,show (Value.agg (plc nm e 0 key []).toArray).cells.toList=plc nm e 0 key [] from rfl,HL (by rw [l0,l1]),fillL,if_pos ⟨c2,by rw [Qh,l1]; decide,rfl⟩,show (Value.agg (u8s sg).toArray).cells.toList=u8s sg from rfl,Xe _ _ _ (by rw [Qh,l1,Qo,Qo,h3]; decide),Xj (show (plc nm e 0 key []).length=66 from l1),J6 (by rw [Qh,l1,Qo,Qo,h3]; decide),QJ,fillL,HN nm e 0 key (u8s sg)]
theorem IX (h1:nm.length=32) (h2:key.length=32) (h3:sg.length=32):Z5 T 28 [.agg (u8s nm).toArray,.int .u32 (e:Nat),.agg (u8s key).toArray,.agg (u8s sg).toArray]=some (.agg (plc nm e 0 key (u8s sg)).toArray):=by
 have f1:=I0 (e:=e) h1 h2
 have f2:=Ot (e:=e) h1 h2 h3
 have lp:=JD (e:=e) (m:=0) (tl:=u8s sg) h1 h2
 rw [Qo,h3] at lp
 have lz:Ky.length=98:=rfl
 have ok1:∀ L:List Value,(Value.agg L.toArray).cells.toList=L:=fun _=>rfl
 have ok2:∀ L:List Value,(Value.agg L.toArray).cells.size=L.length:=fun _=>rfl
 have ok3:∀ L:List Value,okVar (Value.agg L.toArray)=true:=fun _=>rfl
 have t1:Q4 32 (u8s nm)=u8s nm:=QA (by rw [Qo,h1])
 have t2:Q4 32 (u8s key)=u8s key:=QA (by rw [Qo,h2])
 have t3:Q4 32 (u8s sg)=u8s sg:=QA (by rw [Qo,h3])
 generalize plc nm e 0 key (u8s sg)=P,plc nm e 0 key []=P0 at *
 have tp:Q4 98 P=P:=QA (by omega)
 have lp':P.length=98:=by omega
 have sp:=QV (cs:=Ky) (v:=P) (by rw [lp',lz])
 apply ZG (fn:=mr) rfl
 simp only [mr,Q1,quiet,cW,↓pW,reduceCtorEq,seval,-Qb,f1,f2,lp',lz,ok1,ok2,ok3,t1,t2,t3,tp,sp,h1,h2,h3,Vp,Qo]
 rfl
def rL (s m:List Nat):List Nat:=My (pfL s++m)
def frL (s m:List Nat):List Nat:=enc (JJ (num 256 (rL s m)) XY)
def chL (front pub m:List Nat):List Nat:=My (front++(pub++m))
def bkL (s m:List Nat):List Nat:=mA (chL (frL s m) (JT s) m) (scL s) (rL s m)
def Ge (s m:List Nat):List Nat:=frL s m++bkL s m
theorem AD (s m:List Nat):(frL s m).length=32:=GB _
theorem Iz (s m:List Nat):∀ y∈frL s m,y<256:=aU _
theorem YO (s:List Nat):(JT s).length=32:=GB _
theorem Lg (s:List Nat):∀ y∈JT s,y<256:=aU _
theorem AN (s m:List Nat):(bkL s m).length=32:=kC
theorem bu (s m:List Nat):∀ y∈bkL s m,y<256:=mA_lt
theorem Cn (s m:List Nat):(Ge s m).length=64:=by rw [Ge,Qh,AD,AN]
theorem cO (s m:List Nat):∀ y∈Ge s m,y<256:=by
 intro y hy
 rcases Q8.1 hy with h | h
 ·exact Iz s m y h
 ·exact bu s m y h
theorem OE {a b n c:Nat} {fa fb:List Nat} {e:Bool} {s:Nat} (ha:H[a]?=some ⟨u8s fa,true,true,true,1⟩) (hb:H[b]?=some ⟨u8s fb,true,true,e,s⟩) (hn:fa.length=n) (hm:fb.length=m) (h0:0<m) (hs:n+m≤1000) :
  ZD 1 1 H (.slice (some ⟨a,0,none⟩) n n) (.slice (some ⟨b,0,none⟩) m c)=some (.slice (some ⟨H.length,0,none⟩) (n+m) (n+m),H++[⟨u8s (fa++fb),true,true,false,1⟩],none,[]):=by
 have h4:liveAt H a=some ⟨u8s fa,true,true,true,1⟩:=Zl ha rfl
 have k2:elemsOf H 1 m (.slice (some ⟨b,0,none⟩) m c)=some (u8s fb):=by
  simp [elemsOf,Zl hb rfl,Qo,hm]
  exact Qs (by rw [Qo,hm]; exact Ql _)
 have h8:elemsOf H 1 n (.slice (some ⟨a,0,none⟩) n n)=some (u8s fa):=by
  simp [elemsOf,h4,Qo,hn]
  exact Qs (by rw [Qo,hn]; exact Ql _)
 have h1:¬ m=0:=by omega
 have h2:(n+m)*1≤2^47:=by omega
 have h7:¬ (n+m≤n):=by omega
 have k1:Go.Ev.lenV (.slice (some ⟨b,0,none⟩) m c)=some m:=rfl
 simp only [ZD,k1,k2,Qk,if_neg h1,h2,Nat.zero_lt_succ,WN,Wg,and_self,not_true_eq_false,if_false,if_true,h4,h8,if_neg h7,Ob.grown,←JC]
theorem eh {s:List Nat} {ps:List (List Nat)} (ls:s.length=32) (xs:∀ y∈s,y<256) (hp:Args H pv ps) (hn:ps.length≤1000) (hb:ps.flatten.length<2^48) :
  ∃ l,Za T 40 [.agg (u8s s).toArray,pv] H=some (.agg (u8s (Ge s ps.flatten)).toArray,H++l,[]):=by
 have hz:Qc 32 (Value.int .u8 0)=u8s (dig 256 32 0):=rfl
 have lz:(dig 256 32 0).length=32:=rfl
 have hz64:=Y5
 have lz64:(Qc 64 0).length=64:=Qm
 have hh:=Eh ls xs
 have l1:=UB s
 have l2:=DR s
 have l3:(scL s++pfL s).length=64:=by rw [Qh,l1,l2]
 have x3:∀ y∈scL s++pfL s,y<256:=fun y hy=>(Q8.1 hy).elim (Ae s y) (iR s y)
 obtain ⟨B,hB,rB⟩:=ID
 obtain ⟨P,hP,rP⟩:=VU rB (UB s) (Ae s)
 have hE:=GA rP
 rw [show enc (JJ (num 256 (scL s)) XY)=JT s from rfl] at hE
 have lA:=YO s
 obtain ⟨G1,hG1⟩:∃ X,X=H++[(⟨u8s s,true,true,true,1⟩:Ob),⟨u8s (Qc 64 0),true,true,true,1⟩,⟨u8s (scL s++pfL s),true,true,true,1⟩,⟨u8s (JT s),true,true,true,1⟩,⟨[.slice (some ⟨H.length+2,32,none⟩) 32 32],true,true,true,1⟩]:=⟨_,rfl⟩
 have lG1:G1.length=H.length+5:=by rw [hG1]; simp
 have gz:G1[H.length+1]?=some ⟨u8s (Qc 64 0),true,true,true,1⟩:=by rw [hG1,Qe (by omega),Qr]; rfl
 have gh:G1[H.length+2]?=some ⟨u8s (scL s++pfL s),true,true,true,1⟩:=by rw [hG1,Qe (by omega),Qr]; rfl
 have gA:G1[H.length+3]?=some ⟨u8s (JT s),true,true,true,1⟩:=by rw [hG1,Qe (by omega),Qr]; rfl
 have ga:G1[H.length+4]?=some ⟨[.slice (some ⟨H.length+2,32,none⟩) 32 32],true,true,true,1⟩:=by rw [hG1,Qe (by omega),Qr]; rfl
 have hp1:Args G1 pv ps:=by rw [hG1]; exact hp.app
 have part1:HPart (LtN G1.length) G1 (.slice (some ⟨H.length+2,32,none⟩) 32 32) (pfL s):=by
  have:=HPart.arr (n:=G1.length) (off:=32) (m:=32) (c:=32) (by omega) gh x3 (by rw [l3]; decide) (by decide)
  rwa [ZS (by omega),J6 (by omega),Qq,Qs (by omega)] at this
 obtain ⟨v1,k1,ha1,hA1⟩:=U1 (n:=1) ga rfl (.cons part1 .nil) hp1 (by decide) hn
 obtain ⟨k2,hr⟩:=Y6 hA1 (by rw [Zp,QI,Zx,QJ,Qh,l2]; omega)
 rw [Zp,QI,Zx,QJ,show My (pfL s++ps.flatten)=rL s ps.flatten from rfl] at hr
 have lr:(rL s ps.flatten).length=32:=Gg
 obtain ⟨G2,hG2⟩:∃ X,X=G1++(k1++k2):=⟨_,rfl⟩
 have lG2:G1.length≤G2.length:=by rw [hG2]; simp
 obtain ⟨P2,hP2,rP2⟩:=VU rB lr DQ
 have hE2:=GA rP2
 rw [show enc (JJ (num 256 (rL s ps.flatten)) XY)=frL s ps.flatten from rfl] at hE2
 have lF:=AD s ps.flatten
 obtain ⟨G3,hG3⟩:∃ X,X=G2++[(⟨u8s (rL s ps.flatten),true,true,true,1⟩:Ob),⟨u8s (frL s ps.flatten),true,true,true,1⟩,⟨[.slice (some ⟨G2.length+1,0,none⟩) 32 32,.slice (some ⟨H.length+3,0,none⟩) 32 32],true,true,true,1⟩]:=⟨_,rfl⟩
 have lG3:G3.length=G2.length+3:=by rw [hG3]; simp
 have up13:∀ i,i<G1.length→G3[i]?=G1[i]? := fun i hi=>by rw [hG3,Qa (by omega),hG2,Qa hi]
 have hr3:G3[G2.length]?=some ⟨u8s (rL s ps.flatten),true,true,true,1⟩:=by rw [hG3,Qe (Ql _),Qu]; rfl
 have hf3:G3[G2.length+1]?=some ⟨u8s (frL s ps.flatten),true,true,true,1⟩:=by rw [hG3,Qe (by omega),Qr]; rfl
 have harr3:G3[G2.length+2]?=some ⟨[.slice (some ⟨G2.length+1,0,none⟩) 32 32,.slice (some ⟨H.length+3,0,none⟩) 32 32],true,true,true,1⟩:=by rw [hG3,Qe (by omega),Qr]; rfl
 have hp3:Args G3 pv ps:=hp1.ext up13 (by omega)
 have partF:HPart (LtN G3.length) G3 (.slice (some ⟨G2.length+1,0,none⟩) 32 32) (frL s ps.flatten):=by
  have:=HPart.whole (n:=G3.length) (c:=32) (by omega) hf3 (Iz s _) (by rw [lF]; decide)
  rwa [lF] at this
 have partA:HPart (LtN G3.length) G3 (.slice (some ⟨H.length+3,0,none⟩) 32 32) (JT s):=by
  have:=HPart.whole (n:=G3.length) (c:=32) (by omega) ((up13 _ (by omega)).trans gA) (Lg s) (by rw [lA]; decide)
  rwa [lA] at this
 obtain ⟨v3,k3,ha3,hA3⟩:=U1 (n:=2) harr3 rfl (.cons partF (.cons partA .nil)) hp3 (by decide) hn
 obtain ⟨k4,hk⟩:=Y6 hA3 (by rw [Zp,QI,QI,Zx,QJ,Qh,Qh,lF,lA]; omega)
 rw [Zp,QI,QI,Zx,QJ,Qy,show My (frL s ps.flatten++(JT s++ps.flatten))=chL (frL s ps.flatten) (JT s) ps.flatten from rfl] at hk
 have lk:(chL (frL s ps.flatten) (JT s) ps.flatten).length=32:=Gg
 obtain ⟨G4,hG4⟩:∃ X,X=G3++(k3++k4):=⟨_,rfl⟩
 have lG4:G3.length≤G4.length:=by rw [hG4]; simp
 have up34:∀ i,i<G3.length→G4[i]?=G3[i]? := fun i hi=>by rw [hG4,Qa hi]
 obtain ⟨q,hm⟩:=NG lk l1 lr DQ (Ae s) DQ
 have hmv:=Gw hm
 rw [show mA (chL (frL s ps.flatten) (JT s) ps.flatten) (scL s) (rL s ps.flatten)=bkL s ps.flatten from rfl] at hmv
 have lB:=AN s ps.flatten
 obtain ⟨G5,hG5⟩:∃ X,X=G4++[(⟨u8s (chL (frL s ps.flatten) (JT s) ps.flatten),true,true,true,1⟩:Ob),⟨u8s (bkL s ps.flatten),true,true,true,1⟩]:=⟨_,rfl⟩
 have lG5:G5.length=G4.length+2:=by rw [hG5]; simp
 have hf5:G5[G2.length+1]?=some ⟨u8s (frL s ps.flatten),true,true,true,1⟩:=by rw [hG5,Qa (by omega),up34 _ (by omega)]; exact hf3
 have hb5:G5[G4.length+1]?=some ⟨u8s (bkL s ps.flatten),true,true,true,1⟩:=by rw [hG5,Qe (by omega),Qr]; rfl
 have hap:=OE (c:=32) hf5 hb5 lF lB (by decide) (by decide)
 rw [show frL s ps.flatten++bkL s ps.flatten=Ge s ps.flatten from rfl] at hap
 have lS:=Cn s ps.flatten
 have g4h:∀ l:List Ob,(G4++l)[H.length+2]?=some ⟨u8s (scL s++pfL s),true,true,true,1⟩:=fun l=>by rw [Qa (by omega),up34 _ (by omega),up13 _ (by omega)]; exact gh
 have g4r:∀ l:List Ob,(G4++l)[G2.length]?=some ⟨u8s (rL s ps.flatten),true,true,true,1⟩:=fun l=>by rw [Qa (by omega),up34 _ (by omega)]; exact hr3
 have g5z:∀ l:List Ob,(G5++l)[H.length+1]?=some ⟨u8s (Qc 64 0),true,true,true,1⟩:=fun l=>by rw [Qa (by omega),hG5,Qa (by omega),up34 _ (by omega),up13 _ (by omega)]; exact gz
 have hfr:∀ i,i<H.length→((G5++[(⟨u8s (Ge s ps.flatten),true,true,false,1⟩:Ob)]).set (H.length+1) (⟨u8s (Ge s ps.flatten),true,true,true,1⟩:Ob))[i]?=H[i]? := fun i hi=>by
  rw [Qn (by omega),Qa (by omega),hG5,Qa (by omega),up34 _ (by omega),up13 _ (by omega),hG1,Qa hi]
 obtain ⟨l,hl⟩:=XA (H:=H) (by rw [Qp,Qh]; omega) hfr
 refine ⟨l,?_⟩
 rw [←hl]
 have g6:∀ o:Ob,((G5++[(⟨u8s (Ge s ps.flatten),true,true,false,1⟩:Ob)]).set (H.length+1) o)[H.length+1]?=some o:=fun o=>Qw (by rw [Qh]; omega)
 have f1:fillL [Value.slice none 0 0] [(0,1,.slice (some ⟨H.length+2,32,none⟩) 32 32)]=some [.slice (some ⟨H.length+2,32,none⟩) 32 32]:=rfl
 have f2:fillL [Value.slice none 0 0,.slice none 0 0] [(0,1,.slice (some ⟨G2.length+1,0,none⟩) 32 32),(1,1,.slice (some ⟨H.length+3,0,none⟩) 32 32)]=some [.slice (some ⟨G2.length+1,0,none⟩) 32 32,.slice (some ⟨H.length+3,0,none⟩) 32 32]:=rfl
 have t1:Q4 32 (u8s (scL s++pfL s))=u8s (scL s):=by rw [Ve,Ji (by omega),Qs (by omega)]
 have F1:H++[(⟨u8s s,true,true,true,1⟩:Ob),⟨u8s (Qc 64 0),true,true,true,1⟩,⟨u8s (scL s++pfL s),true,true,true,1⟩,⟨u8s (JT s),true,true,true,1⟩,⟨[.slice (some ⟨H.length+2,32,none⟩) 32 32],true,true,true,1⟩]=G1:=hG1.symm
 have F2:G1++(k1++k2)=G2:=hG2.symm
 have F3:G2++[(⟨u8s (rL s ps.flatten),true,true,true,1⟩:Ob),⟨u8s (frL s ps.flatten),true,true,true,1⟩,⟨[.slice (some ⟨G2.length+1,0,none⟩) 32 32,.slice (some ⟨H.length+3,0,none⟩) 32 32],true,true,true,1⟩]=G3:=hG3.symm
 have F4:G3++(k3++k4)=G4:=hG4.symm
 have F5:G4++[(⟨u8s (chL (frL s ps.flatten) (JT s) ps.flatten),true,true,true,1⟩:Ob),⟨u8s (bkL s ps.flatten),true,true,true,1⟩]=G5:=hG5.symm
 have im1:Qx H.length [] [G2.length]=[]:=QK (by simp; omega)
 have im2:Qx H.length [] [G2.length+1]=[]:=QK (by simp; omega)
 have im3:Qx H.length [] [G4.length]=[]:=QK (by simp; omega)
 have im4:Qx H.length [] [G4.length+1]=[]:=QK (by simp; omega)
 have ls1:[Value.slice (some ⟨H.length+2,32,none⟩) 32 32].length=1:=rfl
 clear hG1 hG2 hG3 hG4 hG5 hl hfr hm hA1 hA3 partF partA part1
 rw [Qy] at hr hk
 generalize Ge s ps.flatten=S,bkL s ps.flatten=Bk,chL (frL s ps.flatten) (JT s) ps.flatten=Ck at *
 generalize frL s ps.flatten=Fr,rL s ps.flatten=R,JT s=A,scL s++pfL s=Hv at *
 generalize scL s=Sc,dig 256 32 0=Z,Qc 64 0=Z64 at *
 rw [QG (fn:=mV) rfl]
 simp only [mV,Q1,quiet,cW,↓pW,reduceCtorEq,seval,-Qb,hz,hz64,hh,hB,hP,hE,f1,F1,ha1,hr,F2,hP2,hE2,f2,F3,ha3,hk,F4,g4h,g4r,t1,hmv,F5,hap,g5z,g6,im1,im2,im3,im4,QW,Zb,ZT,Zc,Qo,ls,lz,lz64,l1,l3,lA,lr,lF,lk,lB,lS,QA,Qm,ZX]
def LQ (pub front back m:List Nat) (c:Int):Prop :=
 ((∀ A,enc A≠pub)∧c=60)∨∃ A,enc A=pub ∧
  (((JJ 8 A=Kt∨¬ num 256 back<ell)∧c=70)∨(JJ 8 A≠Kt∧num 256 back<ell ∧
   (((∀ R,enc R≠front)∧c=70)∨∃ R,enc R=front∧c=if XO (JJ (num 256 back) XY) (JJ (num 256 (chL front pub m)) A.neg)=R then 0 else 70)))
theorem Ph {k l:List Nat} (lk:k.length=32) (ll:l.length=32):vEq (some (Qc 32 true)) true (.agg (u8s k).toArray) (.agg (u8s l).toArray)=some (.bool (!(k==l))):=by
 rw [Cd,Vs lk ll]
 rfl
theorem bh {pub front back:List Nat} {ps:List (List Nat)} (lp:pub.length=32) (xp:∀ y∈pub,y<256) (lf:front.length=32) (xf:∀ y∈front,y<256) (lb:back.length=32) (xb:∀ y∈back,y<256) (hp:Args H pv ps) (hn:ps.length≤1000) (hb:ps.flatten.length<2^48) :
  ∃ l c,Za T 25 [.agg (u8s pub).toArray,.agg (u8s (front++back)).toArray,pv] H=some (.int .i64 c,H++l,[])∧LQ pub front back ps.flatten c:=by
 have hz:Qc 32 (Value.int .u8 0)=u8s (dig 256 32 0):=rfl
 have lz:(dig 256 32 0).length=32:=rfl
 have hz20:∃ O,Qc 20 (Value.int .u64 0)=ns .u64 O∧O.length=20:=⟨Qc 20 0,rfl,rfl⟩
 obtain ⟨O,hz20,lO⟩:=hz20
 have rft:∀ (r:List Nat) (c:Int),rf (Value.tuple #[eV r,.int .i64 c])=true:=fun r c=>Af (a:=eV r) (b := .int .i64 c) (ZX r) rfl
 have lS:(front++back).length=64:=by rw [Qh,lf,lb]
 have t1:Q4 32 (u8s (front++back))=u8s front:=by rw [Ve,Ji (by omega),Qs (by omega)]
 have t2:Q4 32 (ZP 32 (u8s (front++back)))=u8s back:=by rw [WX,ZS (by omega),J6 (by omega),Qq,Ve,Qs (by omega)]
 rcases EG lp xp with ⟨A,a,hA,rA,eA⟩ | ⟨A,hA,lA,hno⟩
 ·have p1:=rA.len
  have ht:=i5 rA
  obtain ⟨qc,hcn⟩:=AK lb xb
  have hcv:=Gw hcn
  unfold O0 at hA
  by_cases htiny:JJ 8 a=Kt
  ·rw [decide_eq_true htiny] at ht
   have hx:∃ l,Za T 25 [.agg (u8s pub).toArray,.agg (u8s (front++back)).toArray,pv] H=some (.int .i64 70,H++l,[]):=by
    generalize front++back=S at *
    generalize dig 256 32 0=Z at *
    apply ZK
    rw [QG (fn:=Dk) rfl]
    simp only [Dk,Q1,quiet,cW,↓pW,reduceCtorEq,seval,-Qb,hz,hz20,hA,t1,t2,ht, QW,Zb,ZT,Zc,QO,Qo,lp,lf,lb,lS,lz,lO,p1,QA,Qm,rft,ZX]
    rfl
   obtain ⟨l,hx⟩:=hx
   exact ⟨l,70,hx,.inr ⟨a,eA,.inl ⟨.inl htiny,rfl⟩⟩⟩
  ·rw [decide_eq_false htiny] at ht
   by_cases hc:num 256 back<ell
   ·rw [decide_eq_true hc] at hcv
    rcases EG lf xf with ⟨R,r,hR,rR,eR⟩ | ⟨R,hR,lR,hnR⟩
    ·have p2:=rR.len
     unfold O0 at hR
     obtain ⟨G1,hG1⟩:∃ X,X=H++[(⟨u8s pub,true,true,true,1⟩:Ob),⟨u8s (front++back),true,true,true,1⟩,⟨ns .u64 A,true,true,true,1⟩,⟨u8s front,true,true,true,1⟩,⟨u8s back,true,true,true,1⟩,⟨ns .u64 R,true,true,true,1⟩,⟨[.slice (some ⟨H.length+3,0,none⟩) 32 32,.slice (some ⟨H.length,0,none⟩) 32 32],true,true,true,1⟩]:=⟨_,rfl⟩
     have lG1:G1.length=H.length+7:=by rw [hG1]; simp
     have gp:G1[H.length]?=some ⟨u8s pub,true,true,true,1⟩:=by rw [hG1,Qe (by omega),Qu]; rfl
     have gA:G1[H.length+2]?=some ⟨ns .u64 A,true,true,true,1⟩:=by rw [hG1,Qe (by omega),Qr]; rfl
     have gf:G1[H.length+3]?=some ⟨u8s front,true,true,true,1⟩:=by rw [hG1,Qe (by omega),Qr]; rfl
     have gb:G1[H.length+4]?=some ⟨u8s back,true,true,true,1⟩:=by rw [hG1,Qe (by omega),Qr]; rfl
     have ga:G1[H.length+6]?=some ⟨[.slice (some ⟨H.length+3,0,none⟩) 32 32,.slice (some ⟨H.length,0,none⟩) 32 32],true,true,true,1⟩:=by rw [hG1,Qe (by omega),Qr]; rfl
     have hp1:Args G1 pv ps:=by rw [hG1]; exact hp.app
     have partF:HPart (LtN G1.length) G1 (.slice (some ⟨H.length+3,0,none⟩) 32 32) front:=by
      have:=HPart.whole (n:=G1.length) (c:=32) (by omega) gf xf (by rw [lf]; decide)
      rwa [lf] at this
     have partP:HPart (LtN G1.length) G1 (.slice (some ⟨H.length,0,none⟩) 32 32) pub:=by
      have:=HPart.whole (n:=G1.length) (c:=32) (by omega) gp xp (by rw [lp]; decide)
      rwa [lp] at this
     obtain ⟨v1,k1,ha1,hA1⟩:=U1 (n:=2) ga rfl (.cons partF (.cons partP .nil)) hp1 (by decide) hn
     obtain ⟨k2,hk⟩:=Y6 hA1 (by rw [Zp,QI,QI,Zx,QJ,Qh,Qh,lf,lp]; omega)
     rw [Zp,QI,QI,Zx,QJ,Qy,show My (front++(pub++ps.flatten))=chL front pub ps.flatten from rfl,Qy] at hk
     have lk:(chL front pub ps.flatten).length=32:=Gg
     obtain ⟨G2,hG2⟩:∃ X,X=G1++(k1++k2):=⟨_,rfl⟩
     have lG2:G1.length≤G2.length:=by rw [hG2]; simp
     have up:∀ i,i<G1.length→∀ l:List Ob,(G2++l)[i]?=G1[i]? := fun i hi l=>by rw [Qa (by omega),hG2,Qa hi]
     obtain ⟨B,hB,rB⟩:=ID
     obtain ⟨X,hX,rX⟩:=VU rB lb xb
     obtain ⟨NA,hNA,rNA⟩:=ko rA
     obtain ⟨Y,hY,rY⟩:=VU rNA lk DQ
     obtain ⟨S,dS,hS,ES⟩:=gG (H:=G2++[(⟨u8s (chL front pub ps.flatten),true,true,true,1⟩:Ob),⟨ns .u64 [X,Y].flatten,true,true,true,1⟩]) (id:=G2.length+1) (n:=2) (xs:=[X,Y]) rfl (by decide) (.cons rX (.cons rY .nil)) (by rw [Qe (by omega),Qr]; rfl)
     simp only [Jk,JI,Qv,Qy,Qq] at hS
     rw [fold2] at ES
     have hE:=GA ES
     have lE:=GB (XO (JJ (num 256 back) XY) (JJ (num 256 (chL front pub ps.flatten)) a.neg))
     have g1:=kO rX rY
     have q1:=rX.len
     have q2:=rY.len
     have q3:=ES.len
     have hq:=Ph lE lf
     have hd:(enc (XO (JJ (num 256 back) XY) (JJ (num 256 (chL front pub ps.flatten)) a.neg))==front)=decide (XO (JJ (num 256 back) XY) (JJ (num 256 (chL front pub ps.flatten)) a.neg)=r):=by rw [←eR,LD]
     rw [hd] at hq
     have uA:=fun l=>(up _ (by omega) l).trans gA
     have uf:=fun l=>(up _ (by omega) l).trans gf
     have ub:=fun l=>(up _ (by omega) l).trans gb
     have f2:fillL [Value.slice none 0 0,.slice none 0 0] [(0,1,.slice (some ⟨H.length+3,0,none⟩) 32 32),(1,1,.slice (some ⟨H.length,0,none⟩) 32 32)]=some [.slice (some ⟨H.length+3,0,none⟩) 32 32,.slice (some ⟨H.length,0,none⟩) 32 32]:=rfl
     have F1:H++[(⟨u8s pub,true,true,true,1⟩:Ob),⟨u8s (front++back),true,true,true,1⟩,⟨ns .u64 A,true,true,true,1⟩,⟨u8s front,true,true,true,1⟩,⟨u8s back,true,true,true,1⟩,⟨ns .u64 R,true,true,true,1⟩,⟨[.slice (some ⟨H.length+3,0,none⟩) 32 32,.slice (some ⟨H.length,0,none⟩) 32 32],true,true,true,1⟩]=G1:=hG1.symm
     have F2:G1++(k1++k2)=G2:=hG2.symm
     have im1:Qx H.length [] [G2.length]=[]:=QK (by simp; omega)
     have hfr:∀ l:List Ob,∃ l',G2++l=H++l':=fun l=>⟨_,by rw [hG2,hG1,Qy,Qy]⟩
     by_cases hfin:XO (JJ (num 256 back) XY) (JJ (num 256 (chL front pub ps.flatten)) a.neg)=r
     ·rw [decide_eq_true hfin] at hq
      have hx:∃ l,Za T 25 [.agg (u8s pub).toArray,.agg (u8s (front++back)).toArray,pv] H=some (.int .i64 0,G2++l,[]):=by
       clear hG1 hG2 hd up hfr
       generalize front++back=SG at *
       generalize dig 256 32 0=Z,chL front pub ps.flatten=Ck at *
       generalize enc (XO (JJ (num 256 back) XY) (JJ (num 256 Ck) a.neg))=E at *
       apply ZK
       rw [QG (fn:=Dk) rfl]
       simp only [Dk,Q1,quiet,cW,↓pW,reduceCtorEq,seval,-Qb,hz,hz20,hA,t1,t2,ht,hcv,hR,f2,F1,ha1,hk,F2,im1,hB,hX,hNA,hY,g1,hS,hE,hq,uA,uf,ub,QW,Zb,ZT,Zc,QO,Qo,lp,lf,lb,lS,lz,lO,lk,lE,p1,p2,q1,q2,q3,QA,Qm,rft,ZX]
       rfl
      obtain ⟨l,hx⟩:=hx
      obtain ⟨l',hl'⟩:=hfr l
      rw [hl'] at hx
      exact ⟨l',0,hx,.inr ⟨a,eA,.inr ⟨htiny,hc,.inr ⟨r,eR,by rw [if_pos hfin]⟩⟩⟩⟩
     ·rw [decide_eq_false hfin] at hq
      have hx:∃ l,Za T 25 [.agg (u8s pub).toArray,.agg (u8s (front++back)).toArray,pv] H=some (.int .i64 70,G2++l,[]):=by
       clear hG1 hG2 hd up hfr
       generalize front++back=SG at *
       generalize dig 256 32 0=Z,chL front pub ps.flatten=Ck at *
       generalize enc (XO (JJ (num 256 back) XY) (JJ (num 256 Ck) a.neg))=E at *
       apply ZK
       rw [QG (fn:=Dk) rfl]
       simp only [Dk,Q1,quiet,cW,↓pW,reduceCtorEq,seval,-Qb,hz,hz20,hA,t1,t2,ht,hcv,hR,f2,F1,ha1,hk,F2,im1,hB,hX,hNA,hY,g1,hS,hE,hq,uA,uf,ub,QW,Zb,ZT,Zc,QO,Qo,lp,lf,lb,lS,lz,lO,lk,lE,p1,p2,q1,q2,q3,QA,Qm,rft,ZX]
       rfl
      obtain ⟨l,hx⟩:=hx
      obtain ⟨l',hl'⟩:=hfr l
      rw [hl'] at hx
      exact ⟨l',70,hx,.inr ⟨a,eA,.inr ⟨htiny,hc,.inr ⟨r,eR,by rw [if_neg hfin]⟩⟩⟩⟩
    ·unfold O0 at hR
     have hx:∃ l,Za T 25 [.agg (u8s pub).toArray,.agg (u8s (front++back)).toArray,pv] H=some (.int .i64 70,H++l,[]):=by
      generalize front++back=S at *
      generalize dig 256 32 0=Z at *
      apply ZK
      rw [QG (fn:=Dk) rfl]
      simp only [Dk,Q1,quiet,cW,↓pW,reduceCtorEq,seval,-Qb,hz,hz20,hA,t1,t2,ht,hcv,hR,lR,QW,Zb,ZT,Zc,QO,Qo,lp,lf,lb,lS,lz,lO,p1,QA,Qm,rft,ZX]
      rfl
     obtain ⟨l,hx⟩:=hx
     exact ⟨l,70,hx,.inr ⟨a,eA,.inr ⟨htiny,hc,.inl ⟨hnR,rfl⟩⟩⟩⟩
   ·rw [decide_eq_false hc] at hcv
    have hx:∃ l,Za T 25 [.agg (u8s pub).toArray,.agg (u8s (front++back)).toArray,pv] H=some (.int .i64 70,H++l,[]):=by
     generalize front++back=S at *
     generalize dig 256 32 0=Z at *
     apply ZK
     rw [QG (fn:=Dk) rfl]
     simp only [Dk,Q1,quiet,cW,↓pW,reduceCtorEq,seval,-Qb,hz,hz20,hA,t1,t2,ht,hcv,QW,Zb,ZT,Zc,QO,Qo,lp,lf,lb,lS,lz,lO,p1,QA,Qm,rft,ZX]
     rfl
    obtain ⟨l,hx⟩:=hx
    exact ⟨l,70,hx,.inr ⟨a,eA,.inl ⟨.inr hc,rfl⟩⟩⟩
 ·unfold O0 at hA
  have hx:Za T 25 [.agg (u8s pub).toArray,.agg (u8s (front++back)).toArray,pv] H=some (.int .i64 60,H++[⟨u8s pub,true,true,true,1⟩,⟨u8s (front++back),true,true,true,1⟩,⟨ns .u64 A,true,true,true,1⟩],[]):=by
   generalize front++back=S at *
   generalize dig 256 32 0=Z at *
   rw [QG (fn:=Dk) rfl]
   simp only [Dk,Q1,quiet,cW,↓pW,reduceCtorEq,seval,-Qb,hz,hz20,hA,t1,t2,QW,Zb,ZT,Zc,QO,Qo,lp,lS,lz,lO,lA,QA,Qm,rft,ZX]
  exact ⟨_,60,hx,.inl ⟨hno,rfl⟩⟩
end Go.Ev.YtomfgcgnepfmjaaGreat
namespace Go.Ev.YtomfgcgnepfmjaaGreat
open Go Go.Ev
open Go.NT (Pr)
set_option maxRecDepth 100000
theorem lp1:Pr 531581:=Go.NT.Kb (f:=729) (by decide) (by decide) (by decide +kernel)
theorem lp2:Pr 1224481:=Go.NT.Kb (f:=1106) (by decide) (by decide) (by decide +kernel)
theorem lp3:Pr 1257559732178653:=Go.NT.Wd (q:=531581) (k:=2365697292) (a:=2) (q2:=1224481) (k2:=1027014492) (a2:=2) (f:=51) lp1 lp2 (by decide +kernel)
theorem lp4:Pr 4434155615661930479:=Go.NT.V2 (q:=1257559732178653) (k:=3526) (a:=2) (f:=62) lp3 (by decide +kernel)
theorem lp5:Pr 172054593956031949258510691:=Go.NT.V2 (q:=4434155615661930479) (k:=38802110) (a:=2) (f:=88) lp4 (by decide +kernel)
theorem lp6:Pr 19757330305831588566944191468367130476339:=Go.NT.V2 (q:=172054593956031949258510691) (k:=114831751082918) (a:=2) (f:=134) lp5 (by decide +kernel)
theorem lp7:Pr 276602624281642239937218680557139826668747:=Go.NT.V2 (q:=19757330305831588566944191468367130476339) (k:=14) (a:=2) (f:=138) lp6 (by decide +kernel)
theorem TI:Pr ell:=Go.NT.V2 (q:=276602624281642239937218680557139826668747) (k:=26163907866482859529727157400808004) (a:=2) (f:=253) lp7 (by decide +kernel)
theorem gB:XY≠Kt:=fun h=>I3 (by rw [h,Ts])
theorem Nr (p:Go.Cv.Pt Go.Fp.P Go.Fp.d):JJ 1 p=p:=Go.Cv.mul_one Go.Fp.fld p
theorem Nz {n:Nat} (h:JJ n XY=Kt):ell∣n:=by
 refine Classical.byContradiction fun hn => ?_
 have hf:=Go.NT.Db TI hn
 apply gB
 have e1:ell-1=(ell-2)+1:=by decide +kernel
 have h2:n^(ell-1)=n^(ell-2)*n:=by rw [e1,Zu]
 have h3:JJ (n^(ell-1)) XY=Kt:=by rw [h2,MD,h,Ts]
 rw [←C0 EB,hf,Nr] at h3
 exact h3
theorem fF (n:Nat) (h:ell∣8*n):ell∣n:=by
 have hc:Nat.Coprime ell 8:=Go.NT.Pr.coprime TI (by decide +kernel)
 exact hc.dvd_of_dvd_mul_left h
theorem O6 {a:List Nat} {x y:Nat} (la:a.length=32) (xa:∀ z∈a,z<256) (hx:a[0]?=some x) (hy:a[31]?=some y):num 256 (Kr a x y)%8=0∧2^254≤num 256 (Kr a x y)∧num 256 (Kr a x y)<2^255:=by
 have hx':=xa x (Qz hx)
 have hy':=xa y (Qz hy)
 obtain ⟨t,ht⟩:∃ t,a=x::t:=by
  cases a with
  | nil=>simp at hx
  | cons z t=>simp at hx; subst hx; exact ⟨t,rfl⟩
 have e8:x&&&248=x/8*8:=(by decide +kernel:∀ v,v<256→v&&&248=v/8*8) x hx'
 have e64:(y&&&127)|||64=y%64+64:=(by decide +kernel:∀ v,v<256→(v&&&127)|||64=v%64+64) y hy'
 have h1:=Yr (B:=256) (x&&&248) hx
 have hy2:(a.set 0 (x&&&248))[31]?=some y:=by rw [Qn (by decide)]; exact hy
 have h2:=Yr (B:=256) ((y&&&127)|||64) hy2
 have hV:=num_lt xa
 rw [la] at hV
 have hg:=VF (by decide:0<256) xa hy
 have hm:num 256 a%256=x:=by
  have:=VF (by decide:0<256) xa hx
  rwa [Xc,Nat.div_one] at this
 unfold Kr
 rw [e8] at h1 h2 ⊢
 rw [e64] at h2 ⊢
 have e31:(256:Nat)^31=452312848583266388373324160190187140051835877600158453279131187530910662656:=by decide
 have e32:(256:Nat)^32=115792089237316195423570985008687907853269984665640564039457584007913129639936:=by decide
 have e254:(2:Nat)^254=28948022309329048855892746252171976963317496166410141009864396001978282409984:=by decide
 have e255:(2:Nat)^255=57896044618658097711785492504343953926634992332820282019728792003956564819968:=by decide
 rw [Xc,Kh,Kh] at h1
 rw [e31] at h2 hg
 rw [e32] at hV
 rw [e254,e255]
 generalize num 256 ((a.set 0 (x/8*8)).set 31 (y%64+64))=N2 at *
 generalize num 256 (a.set 0 (x/8*8))=N1 at *
 generalize num 256 a=N at *
 have hyq:N/452312848583266388373324160190187140051835877600158453279131187530910662656=y:=by omega
 have hdm:=ZJ N 452312848583266388373324160190187140051835877600158453279131187530910662656
 rw [hyq] at hdm
 have hmlt:=Q2 N (by decide:0<452312848583266388373324160190187140051835877600158453279131187530910662656)
 have hlow:N%452312848583266388373324160190187140051835877600158453279131187530910662656%256=x:=by omega
 generalize N%452312848583266388373324160190187140051835877600158453279131187530910662656=M at *
 refine ⟨?_,?_,?_⟩<;>omega
theorem cT (s:List Nat):num 256 (scL s)%8=0∧2^254≤num 256 (scL s)∧num 256 (scL s)<2^255:=by
 obtain ⟨x,g0,d0,lx⟩:=HI s (i:=0) (by decide)
 obtain ⟨z,g31,d31,lz⟩:=HI s (i:=31) (by decide)
 unfold scL
 rw [d0,d31]
 exact O6 (by rw [Q5,VE]; rfl) (fun y hy=>Mt s y (QP hy)) (by rw [QR,if_pos (by decide)]; exact g0) (by rw [QR,if_pos (by decide)]; exact g31)
theorem P6 (s:List Nat):¬ ell∣num 256 (scL s):=by
 obtain ⟨h1,h2,h3⟩:=cT s
 generalize num 256 (scL s)=a at *
 intro hd
 obtain ⟨k,rfl⟩:=hd
 have h7:k<8:=Nat.lt_of_mul_lt_mul_left (a:=ell) (Nat.lt_trans h3 (by decide +kernel))
 have h0:0<k:=by
  rcases ZM k with h | h
  ·rw [h,Nat.mul_zero] at h2
   exact absurd h2 (by decide)
  ·exact h
 have hm:ell*k%8=(ell%8)*k%8:=by rw [Nat.mod_mul_mod]
 have he:ell%8=5:=by decide +kernel
 rw [hm,he] at h1
 clear h2 h3 hm he
 omega
end Go.Ev.YtomfgcgnepfmjaaGreat
namespace Go.Ev.YtomfgcgnepfmjaaGreat
open Go Go.Ev
set_option maxRecDepth 100000
theorem EA {p q:Go.Cv.Pt Go.Fp.P Go.Fp.d} (h:enc p=enc q):p=q:=by
 have:=LD p q
 rw [h] at this
 simp at this
 exact this
theorem Sa (k:Nat) (p:Go.Cv.Pt Go.Fp.P Go.Fp.d):JJ k p.neg=(JJ k p).neg:=Go.Cv.mul_neg Go.Fp.fld k p
theorem cI {s m:List Nat} {c:Int} (h:LQ (JT s) (frL s m) (bkL s m) m c):c=0:=by
 have hA:enc (JJ (num 256 (scL s)) XY)=JT s:=rfl
 have hR:enc (JJ (num 256 (rL s m)) XY)=frL s m:=rfl
 have hb:num 256 (bkL s m)=(num 256 (chL (frL s m) (JT s) m)*num 256 (scL s)+num 256 (rL s m))%ell:=kg _ _ _
 have hnt:JJ 8 (JJ (num 256 (scL s)) XY)≠Kt:=fun h=>P6 s (fF _ (Nz (by rw [MD]; exact h)))
 have hblt:num 256 (bkL s m)<ell:=by rw [hb]; exact Q2 _ AG
 rcases h with ⟨h,-⟩ | ⟨A,eA,h⟩
 ·exact absurd hA (h _)
 ·have e1:=EA (eA.trans hA.symm)
  rw [e1] at h
  rcases h with h | h
  ·obtain ⟨h,-⟩:=h
   cases h with
   | inl h=>exact absurd h hnt
   | inr h=>exact absurd hblt h
  ·have h:=h.2.2
   rcases h with ⟨h,-⟩ | ⟨R,eR,h⟩
   ·exact absurd hR (h _)
   ·have e2:=EA (eR.trans hR.symm)
    rw [e2] at h
    rw [h,if_pos]
    rw [hb,C0 EB,Sb,MD,Sa]
    generalize num 256 (chL (frL s m) (JT s) m)=k
    generalize JJ k (JJ (num 256 (scL s)) XY)=X
    rw [Nw X,FM,Sk,FK]
end Go.Ev.YtomfgcgnepfmjaaGreat
namespace Go.Ev.YtomfgcgnepfmjaaGreat
open Go Go.Ev Go.Fp
abbrev PtE:=Go.Cv.Pt Go.Fp.P Go.Fp.d
def Fr (X Z:Fe) (p:PtE):Prop:=∃ l:Fe,l≠0∧X=l*(1+p.y)∧Z=l*(1-p.y)
end Go.Ev.YtomfgcgnepfmjaaGreat
namespace Go.Ev.YtomfgcgnepfmjaaGreat
open Go Go.Ev
attribute [local congr] Jq J7 Jp J8 Jd
set_option maxRecDepth 100000
variable {a b v:List Value}
theorem Grown.ob {k:IntKind} {B:Nat} {H:List Ob} {s:Value} {bs:List Nat} (h:Grown k B H s bs) (h0:0<bs.length):∃ id x,s=.slice (some ⟨id,0,none⟩) bs.length bs.length∧B≤id∧H[id]?=some ⟨ns k bs,true,true,x,1⟩:=by
 cases h with
 | nil=>exact absurd h0 (by decide)
 | @own id _ h1 h2 h3=>exact ⟨id,false,rfl,h1,h3⟩
 | @new id _ h1 h2 h3=>exact ⟨id,true,rfl,h1,h3⟩
def tL (x y z:List Nat):List Nat:=x++(y++z)
theorem iB {x y z:List Nat} (hx:x.length=16) (hy:y.length=16) (hz:z.length=16):(tL x y z).length=48:=by simp [tL,hx,hy,hz]
structure RRep (x y z:List Nat) (p:Go.Cv.Pt Go.Fp.P Go.Fp.d):Prop where
 nx:Nm x
 ny:Nm y
 nz:Nm z
 ne:nf z≠0
 x:nf x=p.x*nf z
 y:nf y=p.y*nf z
def RP (l:List Nat) (p:Go.Cv.Pt Go.Fp.P Go.Fp.d):Prop:=∃ x y z,l=tL x y z∧RRep x y z p
theorem RP.len {l:List Nat} {p:Go.Cv.Pt Go.Fp.P Go.Fp.d} (h:RP l p):l.length=48:=by
 obtain ⟨x,y,z,rfl,h⟩:=h
 exact iB h.nx.len h.ny.len h.nz.len
theorem FD {α:Type} {y:Option α}:Ds none y=y:=rfl
theorem take_set {X Y:List Nat} {i w:Nat} (lX:X.length=5) (lY:Y.length=5) (hi:i<5) (hw:Y[i]?=some w):(Y.take i++X.drop i).set i w=Y.take (i+1)++X.drop (i+1):=by
 have lt:(Y.take i).length=i:=by rw [Q5]; omega
 obtain ⟨v,hv⟩:∃ v,X[i]?=some v:=⟨_,Qi (by omega)⟩
 rw [Q7 _ _ (by omega),lt,Qu,List.drop_eq_getElem?_toList_append (i:=i),hv,ZF,hw]
 simp
abbrev LSt:=(Go.Fp.Fe×Go.Fp.Fe)×(Go.Fp.Fe×Go.Fp.Fe)
structure LRp (s:LSt) (ax az bx bz:List Nat):Prop where
 eax:El ax (2^52)
 eaz:El az (2^52)
 ebx:El bx (2^52)
 ebz:El bz (2^52)
 fax:fe ax=s.1.1
 faz:fe az=s.1.2
 fbx:fe bx=s.2.1
 fbz:fe bz=s.2.2
theorem Args.one {H:List Ob} {a b n c:Nat} {t:List Nat} {e:Bool} {s:Nat} (ha:H[a]?=some ⟨[.slice (some ⟨b,0,none⟩) n n],true,true,e,s⟩) {e':Bool} {s':Nat} (hb:H[b]?=some ⟨u8s t,true,true,e',s'⟩) (hn:t.length=n) (xt:∀ y∈t,y<256) (h40:n≤2^47-4096):Args H (.slice (some ⟨a,0,none⟩) 1 c) [t]:=by
 have hp:HPart (LtN H.length) H (.slice (some ⟨b,0,none⟩) n n) t:=by
  have:=HPart.whole (n:=H.length) (c:=n) (Qf.1 hb).1 hb xt (by omega)
  rwa [hn] at this
 exact Args.arr ha rfl (.cons hp .nil) (by decide)
structure BA (H0:List Ob) (bv:Value) (l:List Nat):Prop where
 len:vLen false bv=some (.int .i64 l.length)
 lt:∀ y∈l,y<256
 le:l.length≤2^47-4096
 fill:fillL [Value.slice none 0 0] [(0,1,bv)]=some [bv]
 whole:HPart (LtN H0.length) H0 bv l
 cut:∀ k,k≤l.length→∃ s1 s2,(∀ G:List Ob,(∀ i,i<H0.length→G[i]?=H0[i]?)→vSliceSl G 1 none (some (.int .i64 (k:Nat))) none bv=some s1∧vSliceSl G 1 (some (.int .i64 (k:Nat))) none none bv=some s2) ∧
  HPart (LtN H0.length) H0 s1 (l.take k)∧HPart (LtN H0.length) H0 s2 (l.drop k)
theorem BA.nil:BA [] (.slice none 0 0) [] :=
 ⟨rfl,by simp,by decide,rfl,⟨⟨_,_,rfl⟩,fun _ _=>rfl,by simp,by decide⟩,fun k hk=>by
  have:k=0:=by simpa using hk
  subst this
  exact ⟨.slice none 0 0,.slice none 0 0,fun G _=>⟨rfl,rfl⟩,⟨⟨_,_,rfl⟩,fun _ _=>rfl,by simp,by decide⟩,⟨⟨_,_,rfl⟩,fun _ _=>rfl,by simp,by decide⟩⟩⟩
theorem BA.some {l:List Nat} {n:Nat} (ln:l.length=n) (xl:∀ x∈l,x<256) (hm:n≤2^47-4096):BA [⟨u8s l,true,false,false,1⟩] (.slice (some ⟨0,0,none⟩) n n) l:=by
 subst ln
 refine ⟨rfl,xl,hm,rfl,HPart.whole (w:=false) (e:=false) (s:=1) (n:=1) (Wg) rfl xl hm,fun k hk => ?_⟩
 refine ⟨.slice (V8 ⟨0,0,none⟩) k l.length,.slice (V8 ⟨0,0+k,none⟩) (l.length-k) (l.length-k),fun G hG => ?_,?_,?_⟩
 ·have hg:G[0]?=V8 ⟨u8s l,true,false,false,1⟩:=(hG 0 Wg).trans rfl
  have hlv:liveAt G 0=V8 ⟨u8s l,true,false,false,1⟩:=Zl hg rfl
  have b1:ZC l.length l.length none (V8 (.int .i64 (k:Nat))) none=V8 (0,k,l.length):=by
   rw [JO,JZ hk,Qk]; rfl
  have b2:ZC l.length l.length (V8 (.int .i64 (k:Nat))) none none=V8 (k,l.length,l.length):=by
   rw [JO,Ke,Qk,JZ hk,Qk]
  rw [VP,VP,b1,b2,Qk,Qk,hlv,Qk,Qk]
  simp [gate]
 ·have:=HPart.arr (n:=1) (H:=[(⟨u8s l,true,false,false,1⟩:Ob)]) (id:=0) (off:=0) (m:=k) (c:=l.length) (by decide) rfl xl (by omega) (by omega)
  rwa [JL] at this
 ·have:=HPart.arr (n:=1) (H:=[(⟨u8s l,true,false,false,1⟩:Ob)]) (id:=0) (off:=0+k) (m:=l.length-k) (c:=l.length-k) (by decide) rfl xl (by omega) (by omega)
  rw [QC,Qs (by rw [QE]; exact Ql _)] at this
  rw [QC]
  exact this
theorem Grown.set {k:IntKind} {B n:Nat} {H:List Ob} {s:Value} {xs:List Nat} {o:Ob} (h:Grown k B H s xs) (hn:n<B):Grown k B (H.set n o) s xs:=by
 cases h with
 | nil=>exact .nil
 | own h1 h2 h3=>exact .own h1 h2 (by rw [Qn (by omega)]; exact h3)
 | new h1 h2 h3=>exact .new h1 h2 (by rw [Qn (by omega)]; exact h3)
structure SoInv (bk:List Nat) (j:Nat) (b:List Nat) (c:Nat):Prop where
 len:b.length=32
 lt:∀ y∈b,y<256
 cle:c≤1
 eq:num 256 (b.take j)+c*256^j=num 256 (bk.take j)+num 256 (ordL.take j)
 rest:∀ i,j≤i→b[i]?=bk[i]?
theorem SoInv.step {bk b:List Nat} {j c x y:Nat} (h:SoInv bk j b c) (hj:j<32) (hx:b[j]?=some x) (hx':x<256) (hy:ordL[j]?=some y) (hy':y<256):SoInv bk (j+1) (b.set j ((c+(x+y))%256)) ((c+(x+y))/256):=by
 have hc:=h.cle
 have hb:=h.rest j (Ql _)
 rw [hx] at hb
 refine ⟨by rw [Qp]; exact h.len,Ws h.lt (Q2 _ (by decide)),by omega,?_,fun i hi=>by rw [Qn (by omega)]; exact h.rest i (by omega)⟩
 have e1:(b.set j ((c+(x+y))%256))[j]?=some ((c+(x+y))%256):=by rw [Qw (by rw [h.len]; exact hj)]
 have e2:(b.set j ((c+(x+y))%256)).take j=b.take j:=by
  rw [List.take_set,List.set_eq_of_length_le (by rw [Q5]; omega)]
 rw [XI e1,XI hb.symm,XI hy,e2]
 have h2:=h.eq
 have h3:=ZJ (c+(x+y)) 256
 generalize (c+(x+y))/256=q at *
 generalize (c+(x+y))%256=r at *
 have e3:(256*q+r)*256^j=(c+(x+y))*256^j:=by rw [h3]
 have e4:q*256^(j+1)=256*q*256^j:=by rw [Zu]; simp only [Nat.mul_assoc,Nat.mul_left_comm,Nat.mul_comm]
 rw [e4]
 rw [Zs,Zs,Zs] at e3
 omega
structure OffL (w p o g:List Nat):Prop where
 lw:w.length=64
 lp:p.length=32
 lo:o.length=32
 lg:g.length=64
theorem Tl (h:v.length=a.length):splice (a++b) 0 v=v++b:=by
 rw [Xe _ _ _ (by rw [Qh]; omega),JW,Qq,QC,h,OG]
theorem Tk {n k:Nat} (h:a.length=n) (hk:k+v.length≤b.length):splice (a++b) (n+k) v=a++splice b k v:=by
 rw [Xe _ _ _ (by rw [Qh]; omega),Xe _ _ _ hk,←h,List.take_append,Qs (by omega),Qr,Qy]
 congr 3
 rw [Nat.add_assoc,←XF,OG]
def id4 (i:Nat):List Nat:=[i/2^24%256,i/2^16%256,i/2^8%256,i%256]
theorem Iq (i:Nat):∀ y∈id4 i,y<256:=by
 intro y hy
 simp only [id4,Jy,J4,or_false] at hy
 rcases hy with rfl | rfl | rfl | rfl<;>exact Q2 _ (by decide)
def zK:List Nat:=dig 256 32 0
theorem OJ:zK.length=32:=rfl
theorem Ut {G:List Ob} {id c:Nat} {b:List Nat} {w e:Bool} {s:Nat} (h:G[id]?=some ⟨u8s b,true,w,e,s⟩):elemsOf G 1 b.length (.slice (some ⟨id,0,none⟩) b.length c)=some (u8s b):=by
 simp [elemsOf,Zl h rfl,Qo]
 exact Qs (by rw [Qo]; exact Ql _)
def AllS (B:Nat) (G:List Ob) (v:Value) (t:List Nat):Prop:=(∃ id,B<id∧v=.slice (some ⟨id,0,none⟩) 32 32∧t.length=32∧G[id]?=some ⟨u8s t,true,true,true,1⟩)∨Rst (fun i=>i≤B) G v t
theorem AllS.shape {B:Nat} {G:List Ob} {v:Value} {t:List Nat} (h:AllS B G v t):∃ a c,v=.slice a t.length c:=by
 rcases h with ⟨id,h1,rfl,h2,h3⟩ | h
 ·rw [h2]; exact ⟨_,_,rfl⟩
 ·exact h.shape
theorem AllS.part {B:Nat} {G:List Ob} {v:Value} {t:List Nat} (h:AllS B G v t) (xt:∀ y∈t,y<256) (lt:t.length≤1000):HPart (LtN G.length) G v t:=by
 rcases h with ⟨id,h1,rfl,h2,h3⟩ | h
 ·have:=HPart.whole (n:=G.length) (c:=32) (Qf.1 h3).1 h3 xt (by omega)
  rwa [h2] at this
 ·refine ⟨h.shape,fun G' hG' => ?_,xt,by omega⟩
  have h':Rst (fun i=>i≤B) G' v t:=h.ext fun i hi=>hG' i hi
  exact h'.elems
theorem AllS.ext {B:Nat} {G G':List Ob} {v:Value} {t:List Nat} (h:AllS B G v t) (hg:∀ i,i<G.length→G'[i]?=G[i]?):AllS B G' v t:=by
 rcases h with ⟨id,h1,h0,h2,h3⟩ | h
 ·exact .inl ⟨id,h1,h0,h2,(hg id (Qf.1 h3).1).trans h3⟩
 ·exact .inr (h.ext hg)
end Go.Ev.YtomfgcgnepfmjaaGreat
namespace Go.Ev.YtomfgcgnepfmjaaGreat
open Go Go.Ev Go.Fp
set_option maxRecDepth 100000
def kE (n:Nat):List Nat:=dig 256 32 n
end Go.Ev.YtomfgcgnepfmjaaGreat
namespace Go.Ev.YtomfgcgnepfmjaaGreat
open Go Go.Ev
attribute [local congr] Jq J7 Jp J8 Jd
set_option maxRecDepth 100000
variable {n:Nat}
theorem Kq {C:List Value} {o:Nat} {v:Value} {r:List (Nat×Nat×Value)} (h1:v.cells.size=n) (h2:o+n≤C.length) (h3:okVar v=true):fillL C ((o,n,v)::r)=fillL (splice C o v.cells.toList) r:=by
 conv=>lhs; unfold fillL
 rw [if_pos ⟨h1,h2,h3⟩]
theorem Ye {l:List Nat} (h:l.length=n):(Value.agg (u8s l).toArray).cells.size=n:=by show (u8s l).length=n; rw [Qo,h]
theorem E6 {a:List Nat} (la:a.length=64):fillL (Qc 64 (Value.int .u8 0)) [(0,64,.agg (u8s a).toArray)]=some (u8s a):=by
 unfold fillL
 rw [if_pos ⟨by show (u8s a).length=64; rw [Qo,la],by rw [Qm]; decide,rfl⟩,show (Value.agg (u8s a).toArray).cells.toList=u8s a from rfl,QV (by rw [Qo,la,Qm])]
 rfl
end Go.Ev.YtomfgcgnepfmjaaGreat
namespace Go.Ev.YtomfgcgnepfmjaaGreat
open Go Go.Ev
set_option maxRecDepth 100000
structure K5 (A B F pre once:List Nat):Prop where
 lA:A.length=64
 xA:∀ y∈A,y<256
 lB:B.length=64
 xB:∀ y∈B,y<256
 lF:F.length=32
 xF:∀ y∈F,y<256
 lp:pre.length=32
 xp:∀ y∈pre,y<256
 lo:once.length=32
 xo:∀ y∈once,y<256
end Go.Ev.YtomfgcgnepfmjaaGreat
namespace Go.Ev.YtomfgcgnepfmjaaGreat
open Go Go.Ev
attribute [local congr] Jq J7 Jp J8 Jd
set_option maxRecDepth 100000
variable {n e m B i x:Nat} {nm t key sg pub:List Nat} {G G0 H:List Ob} {pv ka na sa da:Value} {L:List (List Nat)} {tl:List Value}
theorem kE_lt (n:Nat):∀ y∈kE n,y<256:=Uu
theorem A4 (n:Nat):(kE n).length=32:=Zq _ _ _
def OutS (K:Nat→Prop) (G:List Ob) (v:Value) (t:List Nat):Prop:=(∃ id,¬ K id∧v=.slice (some ⟨id,0,none⟩) t.length t.length∧G[id]?=some ⟨u8s t,true,true,true,1⟩)∨Rst K G v t
theorem OutS.append {K:Nat→Prop} {G:List Ob} {v x:Value} {t p:List Nat} (h:OutS K G v t) (hK:∀ i,K i→i<G.length) (hl:Go.Ev.lenV x=some p.length) (he:elemsOf G 1 p.length x=some (u8s p)) (hb:t.length+p.length≤2^47) :
  ∃ v' G' M,ZD 1 1 G v x=some (v',G',none,M)∧OutS K G' v' (t++p)∧(∀ i∈M,¬ K i)∧G.length≤G'.length∧∀ i,K i→G'[i]?=G[i]? := by
 rcases h with ⟨id,h1,rfl,h2⟩ | h
 ·rcases ZM p.length with hn | hn
  ·have:p=[]:=Zn hn
   subst this
   refine ⟨_,G,[],?_,.inl ⟨id,h1,by rw [QJ],by rw [QJ]; exact h2⟩,by simp,Ql _,fun _ _=>rfl⟩
   have he':elemsOf G 1 0 x=some []:=he
   have hl':Go.Ev.lenV x=some 0:=hl
   simp only [ZD,hl',he',Qk,if_true]
  ·have h8:elemsOf G 1 t.length (.slice (some ⟨id,0,none⟩) t.length t.length)=some (u8s t):=by
    simp [elemsOf,Zl h2 rfl,Qo]
    exact Qs (by rw [Qo]; exact Ql _)
   have hz:¬ p.length=0:=by omega
   have h3:(t.length+p.length)*1≤2^47∧0<1∧0<1:=⟨by omega,by decide,by decide⟩
   have h4:¬ (t.length+p.length≤t.length):=by omega
   refine ⟨.slice (some ⟨G.length,0,none⟩) (t++p).length (t++p).length,G++[⟨u8s (t++p),true,true,false,1⟩],[],?_,.inr (.own (fun hk=>by have:=hK _ hk; omega) (by rw [Qe (Ql _),Qu]; rfl) (by omega) (fun i _=>by rw [QC])),by simp,by simp,fun i hi=>by rw [Qa (hK i hi)]⟩
   simp only [ZD,hl,he,h8,Zl h2 rfl,Qk,if_neg hz,h3,h4,and_self,not_true_eq_false,if_false,if_true,Ob.grown,JC,Qh]
 ·obtain ⟨v',G',M,k1,k2,k3,k4,k5,-⟩:=h.append hK hl he hb
  exact ⟨v',G',M,k1,.inr k2,k3,k4,k5⟩
theorem OutS.setK {K:Nat→Prop} {G:List Ob} {v:Value} {t:List Nat} (h:OutS K G v t) {j:Nat} (hj:K j) (o:Ob):OutS K (G.set j o) v t:=by
 have hne:∀ id,¬ K id→(G.set j o)[id]?=G[id]? := fun id hid=>Qn (by rintro rfl; exact hid hj)
 rcases h with ⟨id,h1,h0,h2⟩ | h
 ·exact .inl ⟨id,h1,h0,by rw [hne id h1]; exact h2⟩
 ·refine .inr ?_
  cases h with
  | nil=>exact .nil
  | empty h1 h2=>exact .empty h1 (by rw [hne _ h1]; exact h2)
  | own h1 h2 h4 h3=>exact .own h1 (by rw [hne _ h1]; exact h2) h4 h3
theorem OutS.app {K:Nat→Prop} {G m:List Ob} {v:Value} {t:List Nat} (h:OutS K G v t):OutS K (G++m) v t:=by
 rcases h with ⟨id,h1,h0,h2⟩ | h
 ·exact .inl ⟨id,h1,h0,by rw [Qa (Qf.1 h2).1]; exact h2⟩
 ·exact .inr h.app
theorem OutS.shape {K:Nat→Prop} {G:List Ob} {v:Value} {t:List Nat} (h:OutS K G v t):∃ a c,v=.slice a t.length c:=by
 rcases h with ⟨id,-,rfl,-⟩ | h
 ·exact ⟨_,_,rfl⟩
 ·exact h.shape
theorem OutS.okVar {K:Nat→Prop} {G:List Ob} {v:Value} {t:List Nat} (h:OutS K G v t):okVar v=true:=by
 obtain ⟨a,c,rfl⟩:=h.shape; rfl
theorem OutS.cells {K:Nat→Prop} {G:List Ob} {v:Value} {t:List Nat} (h:OutS K G v t):v.cells.toList=[v]∧v.cells.size=1:=by
 obtain ⟨a,c,rfl⟩:=h.shape; exact ⟨rfl,rfl⟩
def wob (v:Value):Ob:=⟨[v],true,true,true,1⟩
structure Wr (K:Nat→Prop) (G:List Ob) (wid:Nat) (v:Value) (t:List Nat):Prop where
 ob:G[wid]?=some (wob v)
 kw:K wid
 kl:∀ i,K i→i<G.length
 out:OutS K G v t
theorem Wr.put {K:Nat→Prop} {G:List Ob} {wid:Nat} {v x:Value} {t p:List Nat} (h:Wr K G wid v t) (hl:Go.Ev.lenV x=some p.length) (he:elemsOf G 1 p.length x=some (u8s p)) (hb:t.length+p.length≤2^47) :
  ∃ v' G' M,ZD 1 1 G v x=some (v',G',none,M)∧G'[wid]?=some (wob v)∧v'.cells.toList=[v']∧v'.cells.size=1∧okVar v'=true∧Wr K (G'.set wid (wob v')) wid v' (t++p)∧(∀ i∈M,¬ K i)∧G.length≤G'.length∧∀ i,K i→i≠wid→(G'.set wid (wob v'))[i]?=G[i]? := by
 obtain ⟨v',G',M,k1,k2,k3,k4,k5⟩:=h.out.append h.kl hl he hb
 have hw:=(k5 wid h.kw).trans h.ob
 refine ⟨v',G',M,k1,hw,k2.cells.1,k2.cells.2,k2.okVar,⟨by rw [Qw (Qf.1 hw).1],h.kw,fun i hi=>by rw [Qp]; exact QF (h.kl i hi) k4,k2.setK h.kw _⟩,k3,k4,fun i hi hne => ?_⟩
 rw [Qn (fun e=>hne e.symm)]
 exact k5 i hi
theorem Wr.app {K:Nat→Prop} {G m:List Ob} {wid:Nat} {v:Value} {t:List Nat} (h:Wr K G wid v t):Wr K (G++m) wid v t :=
 ⟨by rw [Qa (Qf.1 h.ob).1]; exact h.ob,h.kw,fun i hi=>by rw [Qh]; exact QF (h.kl i hi) (Nat.le_add_right _ _),h.out.app⟩
theorem T2 {K:Nat→Prop} {wid:Nat} {v:Value} (h:Wr K G wid v t) (hb:t.length≤2^46) :
  ∃ v' G' M,Za T 83 [.pointer (some ⟨wid,0,none⟩),.int .u32 n] G=some (.tuple #[],G',M)∧Wr K G' wid v' (t++id4 n)∧G.length≤G'.length∧(∀ i∈M,i=wid∨¬ K i)∧∀ i,K i→i≠wid→G'[i]?=G[i]? := by
 have s1:(n:Int).fdiv (2^min 24 IntKind.u32.bits)=((n/2^24:Nat):Int):=Dr (r:=24) (by decide)
 have s2:(n:Int).fdiv (2^min 16 IntKind.u32.bits)=((n/2^16:Nat):Int):=Dr (r:=16) (by decide)
 have s3:(n:Int).fdiv (2^min 8 IntKind.u32.bits)=((n/2^8:Nat):Int):=Dr (r:=8) (by decide)
 have w1:=Bf (n/2^24)
 have w2:=Bf (n/2^16)
 have w3:=Bf (n/2^8)
 have w4:=Bf n
 have f2:∀ x0 x1 x2 x3:Nat,fillL [Value.int .u8 0,.int .u8 0,.int .u8 0,.int .u8 0] [(0,1,.int .u8 (x0:Int)),(1,1,.int .u8 (x1:Int)),(2,1,.int .u8 (x2:Int)),(3,1,.int .u8 (x3:Int))]=some (u8s [x0,x1,x2,x3]):=fun _ _ _ _=>rfl
 have hx:(G++[(⟨u8s (id4 n),true,true,true,1⟩:Ob)])[G.length]?=some ⟨u8s (id4 n),true,true,true,1⟩:=by rw [Qe (Ql _),Qu]; rfl
 have he:elemsOf (G++[(⟨u8s (id4 n),true,true,true,1⟩:Ob)]) 1 (id4 n).length (.slice (some ⟨G.length,0,none⟩) 4 4)=some (u8s (id4 n)):=by
  exact Ut (c:=4) hx
 obtain ⟨v',G',M,k1,k2,k3,k4,k5,k6,k7,k8,k9⟩:=(h.app (m:=[(⟨u8s (id4 n),true,true,true,1⟩:Ob)])).put (p:=id4 n) (x := .slice (some ⟨G.length,0,none⟩) 4 4) rfl he (by show _+4≤_; omega)
 rw [Qh] at k8
 refine ⟨v',_,Qx G.length (Qx G.length [] M) [wid],?_,k6,by rw [Qp]; omega,?_,fun i hi hne => ?_⟩
 ·have o1:=h.ob
  have o2:(G++[(⟨u8s (id4 n),true,true,true,1⟩:Ob)])[wid]?=some (wob v):=h.app.ob
  unfold wob id4 at *
  generalize n/2^24%256=x0 at *
  generalize n/2^16%256=x1 at *
  generalize n/2^8%256=x2 at *
  generalize n%256=x3 at *
  generalize n/2^24=y0 at *
  generalize n/2^16=y1 at *
  generalize n/2^8=y2 at *
  have sp:∀ a b:Value,splice [a] 0 [b]=[b]:=fun _ _=>rfl
  rw [QG (fn:=mI) rfl]
  simp only [mI,Q1,quiet,cW,↓pW,reduceCtorEq,seval,-Qb,f2,s1,s2,s3,w1,w2,w3,w4,o1,o2,k1,k2,k3,k4,k5,sp,QA,QW,Zb,ZT,Zc,Qo,Qm,ZX]
  rfl
 ·intro i hi
  rcases Zi hi with h' | h'
  ·rcases Zi h' with h' | h'
   ·cases h'
   ·exact .inr (k7 i h')
  ·exact .inl (Z0.1 h')
 ·rw [k9 i hi hne,Qa (h.kl i hi)]
def shp (k:Int):Option (Nat×Nat×Nat×Bool) :=
 if k=1 then some (4,2,1,false) else if k=2 then some (3,2,0,true) else if k=3 then some (1,2,0,true) else if k=4 then some (3,2,0,false) else if k=5 then some (1,2,1,true) else if k=6 then some (3,3,1,true) else if k=7 then some (1,1,0,true) else none
def shV (a b c:Nat) (d:Bool):List Value:=[.int .i64 a,.int .i64 b,.int .i64 c,.bool d]
theorem cP (k:Int):Z5 T 82 [.int .i64 k]=some (match shp k with | some (a,b,c,d)=>.tuple #[.agg (shV a b c d).toArray,.int .i64 0] | none=>.tuple #[.agg (shV 0 0 0 false).toArray,.int .i64 110]):=by
 have hf:∀ (a b c:Int) (d:Bool),fillL [Value.int .i64 0,.int .i64 0,.int .i64 0,.bool false] [(0,1,.int .i64 a),(1,1,.int .i64 b),(2,1,.int .i64 c),(3,1,.bool d)]=some [Value.int .i64 a,.int .i64 b,.int .i64 c,.bool d]:=fun _ _ _ _=>rfl
 have f0:fillL [Value.int .i64 0,.int .i64 0,.int .i64 0,.bool false] []=some [Value.int .i64 0,.int .i64 0,.int .i64 0,.bool false]:=rfl
 have im:∀ k,Qx 0 [] [k]=[]:=fun k=>QK (by simp)
 have sp:∀ (a b c d e f g h:Value),splice [a,b,c,d] 0 [e,f,g,h]=[e,f,g,h]:=fun _ _ _ _ _ _ _ _=>rfl
 apply Km
 by_cases h:k=1∨k=2∨k=3∨k=4∨k=5∨k=6∨k=7
 ·rcases h with rfl | rfl | rfl | rfl | rfl | rfl | rfl <;>
  ·apply ZK
   rw [QG (fn:=bN) rfl]
   simp only [bN,Q1,quiet,cW,↓pW,reduceCtorEq,seval,-Qb,hf,f0,im,sp]
   rfl
 simp only [not_or] at h
 obtain ⟨h1,h2,h3,h4,h5,h6,h7⟩:=h
 have e:shp k=none:=by unfold shp; simp only [h1,h2,h3,h4,h5,h6,h7,if_false]
 rw [e]
 apply ZK
 rw [QG (fn:=bN) rfl]
 simp only [bN,Q1,quiet,cW,↓pW,reduceCtorEq,seval,-Qb,hf,f0,im,sp,beq_eq_false_iff_ne.2 h1,beq_eq_false_iff_ne.2 h2,beq_eq_false_iff_ne.2 h3,beq_eq_false_iff_ne.2 h4,beq_eq_false_iff_ne.2 h5,beq_eq_false_iff_ne.2 h6,beq_eq_false_iff_ne.2 h7]
 rfl
theorem K0 {L:List (List Nat)} (hL:∀ x∈L,x.length=n):L.flatten.length=L.length*n:=by
 induction L with
 | nil=>simp
 | cons a M ih=>rw [QI,Qh,ih (fun x hx=>hL x (YD _ hx)),hL a (by simp),Zo,Hr,Xv]
theorem YX {P:List Nat} (hL:∀ x∈L,x.length=n) (hi:L[i]?=some P):Q4 n (ZP (i*n) (u8s L.flatten))=u8s P∧i*n+n≤(u8s L.flatten).length:=by
 have h1:=Qf.1 hi
 have lP:=hL P (Qz hi)
 have e1:L.flatten=(L.take i).flatten++(P++(L.drop (i+1)).flatten):=by
  rw [←QI,←Zp]
  congr 1
  conv=>lhs; rw [←List.take_append_drop i L,List.drop_eq_getElem_cons h1.1,h1.2]
 have e2:(L.take i).flatten.length=i*n:=by
  rw [K0 (n:=n) fun x hx=>hL x (QP hx),Q5,QZ (Nat.le_of_lt h1.1)]
 constructor
 ·rw [e1,JC,JC,←e2,←Qo,OG,←lP,←Qo P,List.take_left]
 ·rw [Qo,K0 hL]
  have:=Nat.mul_le_mul_right n (Nat.succ_le_of_lt h1.1)
  rwa [Hr] at this
def Sq (G:List Ob) (es:Nat) (cs:List Value) (n:Nat) (v:Value):Prop:=(v=.slice none 0 0∧n=0∧cs=[])∨∃ id c w e s,v=.slice (some ⟨id,0,none⟩) n c∧G[id]?=some ⟨cs,true,w,e,s⟩∧cs.length=n*es
theorem Sq.app {G m:List Ob} {es:Nat} {cs:List Value} {n:Nat} {v:Value} (h:Sq G es cs n v):Sq (G++m) es cs n v:=by
 rcases h with h | ⟨id,c,w,e,s,h1,h2,h3⟩
 ·exact .inl h
 ·exact .inr ⟨id,c,w,e,s,h1,by rw [Qa (Qf.1 h2).1]; exact h2,h3⟩
theorem Sq.shape {G:List Ob} {es:Nat} {cs:List Value} {n:Nat} {v:Value} (h:Sq G es cs n v):∃ a c,v=.slice a n c:=by
 rcases h with ⟨rfl,rfl,-⟩ | ⟨id,c,w,e,s,rfl,-⟩
 ·exact ⟨_,_,rfl⟩
 ·exact ⟨_,_,rfl⟩
def KE (B i:Nat):Prop:=i<B+4∧i≠B+2
def Wh (B:Nat) (G0 G:List Ob) (t:List Nat):Prop:=∃ v,Wr (KE B) G (B+3) v t∧∀ i,KE B i→i≠B+3→G[i]?=G0[i]?
theorem YV {B:Nat} {M:List Nat} (h:∀ i∈M,i=B+3∨¬ KE B i):Qx B [] M=[]:=QK fun i hi=>by
 rcases h i hi with h | h
 ·omega
 ·rcases Zw i B with h' | h'
  ·exact absurd ⟨by omega,by omega⟩ h
  ·exact h'
def _root_.Go.Value.slBlock (v:Value) (id:Nat):Prop:=match v with | .slice (some a) _ _=>a.block=id | _=>False
def RX (B n:Nat) (pv:Value) (i:Nat) (G:List Ob) (ex:Env):St:=⟨[(1,.pointer (some ⟨B,0,none⟩)),(4,.pointer (some ⟨B+1,0,none⟩)),(6,.pointer (some ⟨B+3,0,none⟩)),(68,pv),(69,.int .i64 n),(70,.int .i64 i)]++ex,G,[]⟩
theorem aK {P:List Nat} (hs:Sq G0 32 (u8s L.flatten) n pv) (hB:∀ id,(∃ o,G0[id]?=some o)→pv.slBlock id→id<B) (hL:∀ x∈L,x.length=32) (hi:L[i]?=some P) (hin:i<n) (hn:n≤1000) (lt:t.length≤2^40) (h:Wh B G0 G t) :
  ∃ G',Q6 T B UU (RX B n pv i G [])=some (.normal,RX B n pv (i+1) G' [])∧Wh B G0 G' (t++P):=by
 rcases hs with ⟨-,rfl,-⟩ | ⟨id,c,w,e,s,rfl,h2,h3⟩
 ·omega
 obtain ⟨v,hw,hf⟩:=h
 have lP:=hL P (Qz hi)
 obtain ⟨c1,c2⟩:=YX hL hi
 have hid:id<B:=hB id ⟨_,h2⟩ rfl
 have g0:∀ m,(G++m)[id]?=some ⟨u8s L.flatten,true,w,e,s⟩:=fun m=>by
  have:=(hf id ⟨by omega,by omega⟩ (by omega)).trans h2
  rw [Qa (Qf.1 this).1]; exact this
 have g00:=g0 []
 rw [QJ] at g00
 have hx:(G++[(⟨u8s P,true,true,true,1⟩:Ob)])[G.length]?=some ⟨u8s P,true,true,true,1⟩:=by rw [Qe (Ql _),Qu]; rfl
 have he:=Ut (c:=32) hx
 rw [lP] at he
 obtain ⟨v',G',M,k1,k2,k3,k4,k5,k6,k7,k8,k9⟩:=(hw.app (m:=[(⟨u8s P,true,true,true,1⟩:Ob)])).put (p:=P) (x := .slice (some ⟨G.length,0,none⟩) 32 32) (by rw [lP]; rfl) (by rw [lP]; exact he) (by rw [lP]; omega)
 refine ⟨_,?_,v',k6,fun j hj hne=>by rw [k9 j hj hne,Qa (hw.kl j hj)]; exact hf j hj hne⟩
 have o1:=hw.ob
 have o2:(G++[(⟨u8s P,true,true,true,1⟩:Ob)])[B+3]?=some (wob v):=hw.app.ob
 have hz:Qc 32 (Value.int .u8 0)=u8s (Qc 32 0):=by simp [u8s]
 have lz:(Qc 32 0).length=32:=Qm
 have sp:∀ a b:Value,splice [a] 0 [b]=[b]:=fun _ _=>rfl
 have b3:ZC 32 32 none none none=some (0,32,32):=rfl
 have e1:((i:Int)<(n:Int))=True:=eq_true (by omega)
 have w3:IntKind.i64.wrap ((i:Int)+1)=((i+1:Nat):Int):=Z6 (b:=1) (by omega)
 have im:Qx B [] M=[]:=YV fun j hj=>.inr (k7 j hj)
 have im1:Qx B [] [B+3]=[]:=QK (by simp)
 have im2:Qx B [] [G.length]=[]:=QK (by have:=hw.kl (B+3) ⟨by omega,by omega⟩; simp; omega)
 unfold wob at *
 clear h3 hf hL hB hw hi k6 k9 he hx
 generalize Qc 32 0=Z,u8s L.flatten=LF at *
 generalize hik:i*32=ik at *
 generalize hi1:i+1=i1 at *
 simp only [RX,UU,Q1,quiet,cW,↓pW,reduceCtorEq,seval,-Qb,hz,hik,hi1,e1,w3,g0,g00,c1,c2,o1,o2,k1,k2,k3,k4,k5,sp,b3,im,im1,im2,lP,lz,QA,QW,Zb,ZT,Zc,Qo,Qm,ZX]
theorem Oo (hs:Sq G0 32 (u8s L.flatten) n pv) (hB:∀ id,(∃ o,G0[id]?=some o)→pv.slBlock id→id<B) (hL:∀ x∈L,x.length=32) (hn:L.length=n) (hm:n≤1000) (lt:t.length≤2^30) (h:Wh B G0 G t) :
  ∃ G',Q6 T B (.block 1 (.loop UU)) (RX B n pv 0 G [])=some (.normal,RX B n pv n G' [(71,.bool false)])∧Wh B G0 G' (t++L.flatten):=by
 obtain ⟨st,hloop,G',rfl,r⟩:=QY (T:=T) (base:=B) (id:=1) (body:=UU)
  (fun k st=>∃ G,st=RX B n pv k G []∧Wh B G0 G (t++(L.take k).flatten))
  (Q:=fun st=>∃ G,st=RX B n pv n G [(71,.bool false)]∧Wh B G0 G (t++L.flatten))
  n (s:=RX B n pv 0 G []) ⟨G,rfl,by rw [JW,Zx,QJ]; exact h⟩
  (fun k st hk hst=>by
   obtain ⟨G1,rfl,h1⟩:=hst
   obtain ⟨P,hP⟩:∃ P,L[k]?=some P:=⟨_,Qi (by omega)⟩
   have lk:(L.take k).flatten.length=k*32:=by rw [K0 (n:=32) fun x hx=>hL x (QP hx),Q5,QZ (by omega)]
   obtain ⟨G2,b0,b1⟩:=aK hs hB hL hP hk hm (by rw [Qh,lk]; omega) h1
   refine ⟨_,b0,G2,rfl,?_⟩
   rw [ZF,hP,Zp,←Qy]
   simpa using b1)
  (fun st hst=>by
   obtain ⟨G1,rfl,h1⟩:=hst
   refine ⟨_,?_,G1,rfl,by rwa [Qs (by omega)] at h1⟩
   simp only [RX,UU,Q1,quiet,cW,↓pW,reduceCtorEq,seval,-Qb])
 exact ⟨G',hloop,r⟩
def RV (B n:Nat) (pv:Value) (i:Nat) (G:List Ob) (ex:Env):St:=⟨[(1,.pointer (some ⟨B,0,none⟩)),(4,.pointer (some ⟨B+1,0,none⟩)),(6,.pointer (some ⟨B+3,0,none⟩)),(91,pv),(92,.int .i64 n),(93,.int .i64 i)]++ex,G,[]⟩
theorem aI {P:List Nat} (hs:Sq G0 64 (u8s L.flatten) n pv) (hB:∀ id,(∃ o,G0[id]?=some o)→pv.slBlock id→id<B) (hL:∀ x∈L,x.length=64) (hi:L[i]?=some P) (hin:i<n) (hn:n≤1000) (lt:t.length≤2^40) (h:Wh B G0 G t) :
  ∃ G',Q6 T B UX (RV B n pv i G [])=some (.normal,RV B n pv (i+1) G' [])∧Wh B G0 G' (t++P):=by
 rcases hs with ⟨-,rfl,-⟩ | ⟨id,c,w,e,s,rfl,h2,h3⟩
 ·omega
 obtain ⟨v,hw,hf⟩:=h
 have lP:=hL P (Qz hi)
 obtain ⟨c1,c2⟩:=YX hL hi
 have hid:id<B:=hB id ⟨_,h2⟩ rfl
 have g0:∀ m,(G++m)[id]?=some ⟨u8s L.flatten,true,w,e,s⟩:=fun m=>by
  have:=(hf id ⟨by omega,by omega⟩ (by omega)).trans h2
  rw [Qa (Qf.1 this).1]; exact this
 have g00:=g0 []
 rw [QJ] at g00
 have hx:(G++[(⟨u8s P,true,true,true,1⟩:Ob)])[G.length]?=some ⟨u8s P,true,true,true,1⟩:=by rw [Qe (Ql _),Qu]; rfl
 have he:=Ut (c:=64) hx
 rw [lP] at he
 obtain ⟨v',G',M,k1,k2,k3,k4,k5,k6,k7,k8,k9⟩:=(hw.app (m:=[(⟨u8s P,true,true,true,1⟩:Ob)])).put (p:=P) (x := .slice (some ⟨G.length,0,none⟩) 64 64) (by rw [lP]; rfl) (by rw [lP]; exact he) (by rw [lP]; omega)
 refine ⟨_,?_,v',k6,fun j hj hne=>by rw [k9 j hj hne,Qa (hw.kl j hj)]; exact hf j hj hne⟩
 have o1:=hw.ob
 have o2:(G++[(⟨u8s P,true,true,true,1⟩:Ob)])[B+3]?=some (wob v):=hw.app.ob
 have hz:Qc 64 (Value.int .u8 0)=u8s (Qc 64 0):=by simp [u8s]
 have lz:(Qc 64 0).length=64:=Qm
 have sp:∀ a b:Value,splice [a] 0 [b]=[b]:=fun _ _=>rfl
 have b3:ZC 64 64 none none none=some (0,64,64):=rfl
 have e1:((i:Int)<(n:Int))=True:=eq_true (by omega)
 have w3:IntKind.i64.wrap ((i:Int)+1)=((i+1:Nat):Int):=Z6 (b:=1) (by omega)
 have im:Qx B [] M=[]:=YV fun j hj=>.inr (k7 j hj)
 have im1:Qx B [] [B+3]=[]:=QK (by simp)
 have im2:Qx B [] [G.length]=[]:=QK (by have:=hw.kl (B+3) ⟨by omega,by omega⟩; simp; omega)
 unfold wob at *
 clear h3 hf hL hB hw hi k6 k9 he hx
 generalize Qc 64 0=Z,u8s L.flatten=LF at *
 generalize hik:i*64=ik at *
 generalize hi1:i+1=i1 at *
 simp only [RV,UX,Q1,quiet,cW,↓pW,reduceCtorEq,seval,-Qb,hz,hik,hi1,e1,w3,g0,g00,c1,c2,o1,o2,k1,k2,k3,k4,k5,sp,b3,im,im1,im2,lP,lz,QA,QW,Zb,ZT,Zc,Qo,Qm,ZX]
theorem Ok (hs:Sq G0 64 (u8s L.flatten) n pv) (hB:∀ id,(∃ o,G0[id]?=some o)→pv.slBlock id→id<B) (hL:∀ x∈L,x.length=64) (hn:L.length=n) (hm:n≤1000) (lt:t.length≤2^30) (h:Wh B G0 G t) :
  ∃ G',Q6 T B (.block 5 (.loop UX)) (RV B n pv 0 G [])=some (.normal,RV B n pv n G' [(94,.bool false)])∧Wh B G0 G' (t++L.flatten):=by
 obtain ⟨st,hloop,G',rfl,r⟩:=QY (T:=T) (base:=B) (id:=5) (body:=UX)
  (fun k st=>∃ G,st=RV B n pv k G []∧Wh B G0 G (t++(L.take k).flatten))
  (Q:=fun st=>∃ G,st=RV B n pv n G [(94,.bool false)]∧Wh B G0 G (t++L.flatten))
  n (s:=RV B n pv 0 G []) ⟨G,rfl,by rw [JW,Zx,QJ]; exact h⟩
  (fun k st hk hst=>by
   obtain ⟨G1,rfl,h1⟩:=hst
   obtain ⟨P,hP⟩:∃ P,L[k]?=some P:=⟨_,Qi (by omega)⟩
   have lk:(L.take k).flatten.length=k*64:=by rw [K0 (n:=64) fun x hx=>hL x (QP hx),Q5,QZ (by omega)]
   obtain ⟨G2,b0,b1⟩:=aI hs hB hL hP hk hm (by rw [Qh,lk]; omega) h1
   refine ⟨_,b0,G2,rfl,?_⟩
   rw [ZF,hP,Zp,←Qy]
   simpa using b1)
  (fun st hst=>by
   obtain ⟨G1,rfl,h1⟩:=hst
   refine ⟨_,?_,G1,rfl,by rwa [Qs (by omega)] at h1⟩
   simp only [RV,UX,Q1,quiet,cW,↓pW,reduceCtorEq,seval,-Qb])
 exact ⟨G',hloop,r⟩
def RW (B n:Nat) (pv:Value) (i:Nat) (G:List Ob) (ex:Env):St:=⟨[(1,.pointer (some ⟨B,0,none⟩)),(4,.pointer (some ⟨B+1,0,none⟩)),(6,.pointer (some ⟨B+3,0,none⟩)),(81,pv),(82,.int .i64 n),(83,.int .i64 i)]++ex,G,[]⟩
def ns32 (L:List Nat):List Value:=L.map fun n=>.int .u32 (n:Nat)
theorem aJ {L:List Nat} (hs:Sq G0 1 (ns32 L) n pv) (hB:∀ id,(∃ o,G0[id]?=some o)→pv.slBlock id→id<B) (hi:L[i]?=some x) (hin:i<n) (hn:n≤1000) (lt:t.length≤2^40) (h:Wh B G0 G t) :
  ∃ G',Q6 T B UW (RW B n pv i G [])=some (.normal,RW B n pv (i+1) G' [])∧Wh B G0 G' (t++id4 x):=by
 rcases hs with ⟨-,rfl,-⟩ | ⟨id,c,w,e,s,rfl,h2,h3⟩
 ·omega
 obtain ⟨v,hw,hf⟩:=h
 have hid:id<B:=hB id ⟨_,h2⟩ rfl
 have g0:G[id]?=some ⟨ns32 L,true,w,e,s⟩:=(hf id ⟨by omega,by omega⟩ (by omega)).trans h2
 have c1:(ns32 L)[i]?=some (.int .u32 (x:Nat)):=by rw [ns32,Jb,hi]; rfl
 obtain ⟨v',G',M,k1,k2,k3,k4,k5⟩:=T2 (n:=x) hw (by omega)
 refine ⟨_,?_,v',k2,fun j hj hne=>by rw [k5 j hj hne]; exact hf j hj hne⟩
 have e1:((i:Int)<(n:Int))=True:=eq_true (by omega)
 have w3:IntKind.i64.wrap ((i:Int)+1)=((i+1:Nat):Int):=Z6 (b:=1) (by omega)
 have im:Qx B [] M=[]:=YV k4
 have j1:i*1=i:=Kh i
 clear h3 hf hB hw hi k2 k4 k5
 generalize ns32 L=LF at *
 generalize hi1:i+1=i1 at *
 simp only [RW,UW,Q1,quiet,cW,↓pW,reduceCtorEq,seval,-Qb,hi1,j1,e1,w3,g0,c1,k1,im,QA,QW,Zb,ZT,Zc,Qo,Qm,ZX]
theorem Om {L:List Nat} (hs:Sq G0 1 (ns32 L) n pv) (hB:∀ id,(∃ o,G0[id]?=some o)→pv.slBlock id→id<B) (hn:L.length=n) (hm:n≤1000) (lt:t.length≤2^30) (h:Wh B G0 G t) :
  ∃ G',Q6 T B (.block 3 (.loop UW)) (RW B n pv 0 G [])=some (.normal,RW B n pv n G' [(84,.bool false)])∧Wh B G0 G' (t++(L.map id4).flatten):=by
 obtain ⟨st,hloop,G',rfl,r⟩:=QY (T:=T) (base:=B) (id:=3) (body:=UW)
  (fun k st=>∃ G,st=RW B n pv k G []∧Wh B G0 G (t++((L.take k).map id4).flatten))
  (Q:=fun st=>∃ G,st=RW B n pv n G [(84,.bool false)]∧Wh B G0 G (t++(L.map id4).flatten))
  n (s:=RW B n pv 0 G []) ⟨G,rfl,by rw [JW,JI,Zx,QJ]; exact h⟩
  (fun k st hk hst=>by
   obtain ⟨G1,rfl,h1⟩:=hst
   obtain ⟨x,hx⟩:∃ x,L[k]?=some x:=⟨_,Qi (by omega)⟩
   have lk:((L.take k).map id4).flatten.length=k*4:=by
    rw [K0 (n:=4) fun x hx=>by obtain ⟨y,-,rfl⟩:=Jx.1 hx; rfl,X1,Q5,QZ (by omega)]
   obtain ⟨G2,b0,b1⟩:=aJ hs hB hx hk hm (by rw [Qh,lk]; omega) h1
   refine ⟨_,b0,G2,rfl,?_⟩
   rw [ZF,hx,List.map_append,Zp,←Qy]
   simpa using b1)
  (fun st hst=>by
   obtain ⟨G1,rfl,h1⟩:=hst
   refine ⟨_,?_,G1,rfl,by rwa [Qs (by omega)] at h1⟩
   simp only [RW,UW,Q1,quiet,cW,↓pW,reduceCtorEq,seval,-Qb])
 exact ⟨G',hloop,r⟩
theorem OutS.toK {K K':Nat→Prop} {G:List Ob} {v:Value} {t:List Nat} (h:OutS K G v t) (hk:∀ i,¬ K i→¬ K' i):OutS K' G v t:=by
 rcases h with ⟨id,h1,h0,h2⟩ | h
 ·exact .inl ⟨id,hk _ h1,h0,h2⟩
 ·exact .inr (h.toK hk)
theorem Sq.lt {G:List Ob} {es:Nat} {cs:List Value} {n:Nat} {v:Value} (h:Sq G es cs n v) (id:Nat) (hb:v.slBlock id):id<G.length:=by
 rcases h with ⟨rfl,-⟩ | ⟨j,c,w,e,s,rfl,h2,-⟩
 ·exact hb.elim
 ·have:j=id:=hb
  subst this
  exact (Qf.1 h2).1
structure DPart (H:List Ob) (v:Value) (l:List Nat):Prop where
 shape:∃ (a:Option Addr) (c:Nat),v=.slice a l.length c
 reads:∀ G:List Ob,(∀ i,i<H.length→G[i]?=H[i]?)→elemsOf G 1 l.length v=some (u8s l)
theorem DPart.app {H m:List Ob} {v:Value} {l:List Nat} (h:DPart H v l):DPart (H++m) v l :=
 ⟨h.shape,fun G hg=>h.reads G fun i hi=>(hg i (by rw [Qh]; omega)).trans (Qa hi)⟩
structure FrV (H:List Ob) (ka na sa da:Value) (kl:List (List Nat)) (nl:List Nat) (sl:List (List Nat)) (dl:List Nat):Prop where
 kz:Sq H 32 (u8s kl.flatten) kl.length ka
 kx:∀ x∈kl,x.length=32
 nz:Sq H 1 (ns32 nl) nl.length na
 sz:Sq H 64 (u8s sl.flatten) sl.length sa
 sx:∀ x∈sl,x.length=64
 dz:DPart H da dl
def frB (k:Int) (kl:List (List Nat)) (nl:List Nat) (sl:List (List Nat)) (dl:List Nat) (d:Bool):List Nat:=[k.toNat]++kl.flatten++(nl.map id4).flatten++sl.flatten++(if d then id4 dl.length++dl else [])
def frE (k:Int) (a b c n:Nat):Int:=match shp k with
 | none=>110
 | some (x,y,z,d)=>if a=x∧b=y∧c=z∧(d=true∨n=0) then (if 16384<n then 2 else 0) else 110
theorem iE {k:Int} {y z:Nat} {d:Bool} (h:shp k=some (x,y,z,d)):IntKind.u8.wrap k=((k.toNat:Nat):Int)∧k.toNat<256∧x≤4∧y≤3∧z≤1:=by
 unfold shp at h
 repeat' split at h
 all_goals first | (cases h; subst_vars; decide) | cases h
theorem Dc {k:Int} {kl:List (List Nat)} {nl:List Nat} {sl:List (List Nat)} {dl:List Nat} (h:FrV H ka na sa da kl nl sl dl) :
  ∃ v l,Za T 38 [.agg #[.int .i64 k,ka,na,sa,da]] H=some (.tuple #[v,.int .i64 (frE k kl.length nl.length sl.length dl.length)],H++l,[]) ∧
   ((∀ x y z d,shp k=some (x,y,z,d)→frE k kl.length nl.length sl.length dl.length=0→OutS (LtN H.length) (H++l) v (frB k kl nl sl dl d))∧(frE k kl.length nl.length sl.length dl.length≠0→v=.slice none 0 0)):=by
 have hsv:=cP k
 obtain ⟨_,_,sk⟩:=h.kz.shape
 obtain ⟨_,_,sn⟩:=h.nz.shape
 obtain ⟨_,_,ss⟩:=h.sz.shape
 obtain ⟨_,_,sd⟩:=h.dz.shape
 have n1:vLen false ka=some (.int .i64 kl.length):=by rw [sk]; rfl
 have n2:vLen false na=some (.int .i64 nl.length):=by rw [sn]; rfl
 have n3:vLen false sa=some (.int .i64 sl.length):=by rw [ss]; rfl
 have n4:vLen false da=some (.int .i64 dl.length):=by rw [sd]; rfl
 have hd4:Go.Ev.lenV da=some dl.length:=by rw [sd]; rfl
 clear sk sn ss sd
 have z4:fillL [Value.int .i64 0,.int .i64 0,.int .i64 0,.bool false] []=some [Value.int .i64 0,.int .i64 0,.int .i64 0,.bool false]:=rfl
 have sp4:∀ (a b c d e f g h:Value),splice [a,b,c,d] 0 [e,f,g,h]=[e,f,g,h]:=fun _ _ _ _ _ _ _ _=>rfl
 have g0:∀ o1:Ob,(H++[o1])[H.length]?=some o1:=fun _=>by rw [Qe (Ql _),Qu]; rfl
 have g00:∀ o1 o2:Ob,(H++[o1,o2])[H.length]?=some o1:=fun _ _=>by rw [Qe (Ql _),Qu]; rfl
 have g01:∀ o1 o2:Ob,(H++[o1,o2])[H.length+1]?=some o2:=fun _ _=>by rw [Qe (by omega),Qr]; rfl
 have t01:∀ o1 o2 o:Ob,(H++[o1,o2]).set (H.length+1) o=H++[o1,o]:=fun _ _ _=>by rw [Q7 _ _ (by omega),Qr]; rfl
 have im1:∀ i,Qx H.length [] [H.length+i]=[]:=fun i=>QK (by simp)
 have ok1:∀ L:List Value,(Value.agg L.toArray).cells.toList=L:=fun _=>rfl
 have ok2:∀ L:List Value,(Value.agg L.toArray).cells.size=L.length:=fun _=>rfl
 have ok3:∀ L:List Value,okVar (Value.agg L.toArray)=true:=fun _=>rfl
 have cl0:∀ v:Value,[Value.int .i64 k,ka,na,sa,da][0]?=some (.int .i64 k):=fun _=>rfl
 have bad:∀ c:Int,c≠0→frE k kl.length nl.length sl.length dl.length=c→(∃ l,Za T 38 [.agg #[.int .i64 k,ka,na,sa,da]] H=some (.tuple #[.slice none 0 0,.int .i64 c],H++l,[])) →
   ∃ v l,Za T 38 [.agg #[.int .i64 k,ka,na,sa,da]] H=some (.tuple #[v,.int .i64 (frE k kl.length nl.length sl.length dl.length)],H++l,[]) ∧
    ((∀ x y z d,shp k=some (x,y,z,d)→frE k kl.length nl.length sl.length dl.length=0→OutS (LtN H.length) (H++l) v (frB k kl nl sl dl d))∧(frE k kl.length nl.length sl.length dl.length≠0→v=.slice none 0 0)):=by
  rintro c hc he ⟨l,hl⟩
  exact ⟨_,l,by rw [he]; exact hl,fun _ _ _ _ _ h0=>absurd (he.symm.trans h0) hc,fun _=>rfl⟩
 obtain hsh | ⟨x,y,z,d,hsh⟩:shp k=none∨∃ x y z d,shp k=some (x,y,z,d):=by
  rcases shp k with _ | ⟨x,y,z,d⟩
  ·exact .inl rfl
  ·exact .inr ⟨x,y,z,d,rfl⟩
 ·have rfv:rf (.tuple #[.agg #[Value.int .i64 0,.int .i64 0,.int .i64 0,.bool false],.int .i64 110])=true:=rfl
  rw [hsh] at hsv
  have hv:shV 0 0 0 false=[Value.int .i64 0,.int .i64 0,.int .i64 0,.bool false]:=rfl
  simp only [hv] at hsv
  refine bad 110 (by decide) (by unfold frE; rw [hsh]) (ZK ?_ ?_)
  rotate_left
  ·rw [QG (fn:=U3) rfl]
   simp only [U3,Q1,quiet,cW,↓pW,reduceCtorEq,seval,-Qb,hsv,rfv,g0,g00,g01,t01,im1,ok1,ok2,ok3,n1,n2,n3,n4,z4,sp4]
   rfl
 ·rw [hsh] at hsv
  simp only [shV] at hsv
  have rfv:rf (.tuple #[.agg #[Value.int .i64 x,.int .i64 y,.int .i64 z,.bool d],.int .i64 0])=true:=rfl
  obtain ⟨wk,kb,lx,ly,lz⟩:=iE hsh
  by_cases q1:kl.length=x
  ·have b1:(((kl.length:Nat):Int) != (x:Int))=false:=by simp; omega
   by_cases q2:nl.length=y
   ·have b2:(((nl.length:Nat):Int) != (y:Int))=false:=by simp; omega
    by_cases q3:sl.length=z
    ·have b3:(((sl.length:Nat):Int) != (z:Int))=false:=by simp; omega
     obtain ⟨G0,hG0⟩:∃ X,X=H++[(⟨[.int .i64 k,ka,na,sa,da],true,true,true,1⟩:Ob),⟨[.int .i64 x,.int .i64 y,.int .i64 z,.bool d],true,true,true,1⟩,⟨u8s [k.toNat],true,true,true,1⟩,wob (.slice (some ⟨H.length+2,0,none⟩) 1 1)]:=⟨_,rfl⟩
     have lG0:G0.length=H.length+4:=by rw [hG0]; simp
     have gi:∀ j o,[(⟨[.int .i64 k,ka,na,sa,da],true,true,true,1⟩:Ob),⟨[.int .i64 x,.int .i64 y,.int .i64 z,.bool d],true,true,true,1⟩,⟨u8s [k.toNat],true,true,true,1⟩,wob (.slice (some ⟨H.length+2,0,none⟩) 1 1)][j]?=some o→G0[H.length+j]?=some o:=fun j o hj=>by rw [hG0,Qe (by omega),Qr]; exact hj
     have inv0:Wh H.length G0 G0 [k.toNat]:=⟨_,⟨gi 3 _ rfl,⟨by omega,by omega⟩,fun i hi=>by rw [lG0]; exact hi.1,.inl ⟨H.length+2,fun hh=>hh.2 rfl,rfl,gi 2 _ rfl⟩⟩,fun _ _ _=>rfl⟩
     have hap:∀ {es cs n v},Sq H es cs n v→Sq G0 es cs n v:=fun hh=>by rw [hG0]; exact hh.app
     have lkf:kl.flatten.length≤1000:=by rw [K0 h.kx]; omega
     have lnf:(nl.map id4).flatten.length≤1000:=by rw [K0 (n:=4) fun x hx=>by obtain ⟨y,-,rfl⟩:=Jx.1 hx; rfl,X1]; omega
     have lsf:sl.flatten.length≤1000:=by rw [K0 h.sx]; omega
     obtain ⟨G1,m1,i1⟩:=Oo (hap h.kz) (fun id _ hb=>h.kz.lt id hb) h.kx rfl (by omega) (by show 1≤_; decide) inv0
     obtain ⟨G2,m2,i2⟩:=Om (hap h.nz) (fun id _ hb=>h.nz.lt id hb) rfl (by omega) (by simp only [Qh,Zo,Z2]; omega) i1
     obtain ⟨G3,m3,i3⟩:=Ok (hap h.sz) (fun id _ hb=>h.sz.lt id hb) h.sx rfl (by omega) (by simp only [Qh,Zo,Z2]; omega) i2
     have fr:∀ {G t},Wh H.length G0 G t→G[H.length]?=some ⟨[.int .i64 k,ka,na,sa,da],true,true,true,1⟩∧G[H.length+1]?=some ⟨[.int .i64 x,.int .i64 y,.int .i64 z,.bool d],true,true,true,1⟩∧(∀ i,i<H.length→G[i]?=H[i]?):=fun ⟨_,_,hf⟩ =>
      ⟨(hf _ ⟨by omega,by omega⟩ (by omega)).trans (gi 0 _ rfl),(hf _ ⟨by omega,by omega⟩ (by omega)).trans (gi 1 _ rfl),fun i hi=>by rw [hf i ⟨by omega,by omega⟩ (by omega),hG0,Qa hi]⟩
     obtain ⟨p10,p11,-⟩:=fr i1
     obtain ⟨p20,p21,-⟩:=fr i2
     obtain ⟨p30,p31,p32⟩:=fr i3
     have F0:H++[(⟨[.int .i64 k,ka,na,sa,da],true,true,true,1⟩:Ob),⟨[.int .i64 x,.int .i64 y,.int .i64 z,.bool d],true,true,true,1⟩,⟨u8s [k.toNat],true,true,true,1⟩,⟨[.slice (some ⟨H.length+2,0,none⟩) 1 1],true,true,true,1⟩]=G0:=hG0.symm
     have p00:G0[H.length]?=_:=gi 0 _ rfl
     have p01:G0[H.length+1]?=_:=gi 1 _ rfl
     have fk1:fillL [Value.int .u8 0] [(0,1,.int .u8 (k.toNat:Nat))]=some (u8s [k.toNat]):=rfl
     have fw1:∀ a:Addr,fillL [Value.slice none 0 0] [(0,1,.slice (some a) 1 1)]=some [.slice (some a) 1 1]:=fun _=>rfl
     have s1:∀ a b:Value,splice [a] 0 [b]=[b]:=fun _ _=>rfl
     have e3:∀ o1 o2 o3:Ob,(H++[o1,o2,o3])[H.length]?=some o1:=fun _ _ _=>by rw [Qe (Ql _),Qu]; rfl
     have e4:∀ o1 o2 o3 o4:Ob,(H++[o1,o2,o3,o4])[H.length+3]?=some o4:=fun _ _ _ _=>by rw [Qe (by omega),Qr]; rfl
     have e5:∀ o1 o2 o3 o4 o:Ob,(H++[o1,o2,o3,o4]).set (H.length+3) o=H++[o1,o2,o3,o]:=fun _ _ _ _ _=>by rw [Q7 _ _ (by omega),Qr]; rfl
     simp only [RX,RW,RV,Qv,Qq,show ((0:Nat):Int)=0 from rfl] at m1 m2 m3
     obtain ⟨v3,w3,f3⟩:=i3
     have lt3:([k.toNat]++kl.flatten++(nl.map id4).flatten++sl.flatten).length≤4000:=by simp only [Qh,Zo,Z2]; omega
     cases d
     ·by_cases q4:dl.length=0
      ·have c1:((0:Int)<(dl.length:Int))=False:=eq_false (by omega)
       have c2:((16384:Int)<(dl.length:Int))=False:=eq_false (by omega)
       have hE:frE k kl.length nl.length sl.length dl.length=0:=by
        unfold frE; rw [hsh]; simp only [q1,q2,q3,q4,and_self,or_true,if_true]; rfl
       obtain ⟨l,hl⟩:=XA (by have:=w3.kl (H.length+3) ⟨by omega,by omega⟩; omega) p32
       have ow:=w3.ob
       unfold wob at ow
       refine ⟨v3,l,?_,fun _ _ _ _ e _ => ?_,fun hh=>absurd hE hh⟩
       ·rw [hE,←hl]
        clear i1 i2 inv0 gi fr hG0 hap f3 w3 p32 lt3
        rw [QG (fn:=U3) rfl]
        simp only [U3,Q1,quiet,cW,↓pW,reduceCtorEq,seval,-Qb,hsv,rfv,g0,g00,g01,t01,im1,ok1,ok2,ok3,n1,n2,n3,n4,z4,sp4,b1,b2,b3,c1,c2,wk,fk1,fw1,s1,e3,e4,e5,F0,p00,p01,m1,p10,p11,m2,p20,p21,m3,p30,p31,ow]
       ·rw [hsh] at e
        cases e
        rw [←hl]
        refine OutS.toK (K:=KE H.length) ?_ (fun i hi h'=>hi ⟨by have:i<H.length:=h'; omega,by have:i<H.length:=h'; omega⟩)
        have:=w3.out
        simpa [frB] using this
      ·have c1:((0:Int)<(dl.length:Int))=True:=eq_true (by omega)
       refine bad 110 (by decide) (by unfold frE; rw [hsh]; exact if_neg fun hh=>by rcases hh.2.2.2 with hh | hh; cases hh; exact q4 hh) (ZK ?_ ?_)
       rotate_left
       ·rw [QG (fn:=U3) rfl]
        simp only [U3,Q1,quiet,cW,↓pW,reduceCtorEq,seval,-Qb,hsv,rfv,g0,g00,g01,t01,im1,ok1,ok2,ok3,n1,n2,n3,n4,z4,sp4,b1,b2,b3,c1]
        rfl
     ·by_cases q4:16384<dl.length
      ·have c2:((16384:Int)<(dl.length:Int))=True:=eq_true (by omega)
       refine bad 2 (by decide) (by unfold frE; rw [hsh]; simp only [q1,q2,q3,q4,and_self,true_or,if_true]) (ZK ?_ ?_)
       rotate_left
       ·rw [QG (fn:=U3) rfl]
        simp only [U3,Q1,quiet,cW,↓pW,reduceCtorEq,seval,-Qb,hsv,rfv,g0,g00,g01,t01,im1,ok1,ok2,ok3,n1,n2,n3,n4,z4,sp4,b1,b2,b3,c2]
        rfl
      ·have c2:((16384:Int)<(dl.length:Int))=False:=eq_false (by omega)
       have hE:frE k kl.length nl.length sl.length dl.length=0:=by
        unfold frE; rw [hsh]; simp only [q1,q2,q3,q4,and_self,true_or,if_true,if_false]
       obtain ⟨v4,G4,M4,k1,k2,k3,k4,k5⟩:=T2 (n:=dl.length) w3 (by omega)
       have im4:Qx H.length [] M4=[]:=YV k4
       have p42:∀ i,i<H.length→G4[i]?=H[i]? := fun i hi=>(k5 i ⟨by omega,by omega⟩ (by omega)).trans (p32 i hi)
       have p40:=(k5 H.length ⟨by omega,by omega⟩ (by omega)).trans p30
       obtain ⟨v5,G5,M5,j1,j2,j3,j4,j5,j6,j7,j8,j9⟩:=k2.put hd4 (h.dz.reads G4 p42) (by rw [Qh]; show _+4+_≤_; omega)
       have im5:Qx H.length [] M5=[]:=YV fun i hi=>.inr (j7 i hi)
       have im3:Qx H.length [] [H.length+3]=[]:=im1 3
       obtain ⟨l,hl⟩:∃ l,G5.set (H.length+3) (wob v5)=H++l:=XA (by have:=k2.kl (H.length+3) ⟨by omega,by omega⟩; rw [Qp]; omega) fun i hi=>(j9 i ⟨by omega,by omega⟩ (by omega)).trans (p42 i hi)
       have ow4:=k2.ob
       have ow5:=j6.ob
       have wu:IntKind.u32.wrap (dl.length:Int)=(dl.length:Nat):=by
        have:=HA (n:=dl.length) (by omega)
        exact this
       refine ⟨v5,l,?_,fun _ _ _ _ e _ => ?_,fun hh=>absurd hE hh⟩
       ·rw [hE,←hl]
        unfold wob at *
        clear i1 i2 inv0 gi fr hG0 hap f3 w3 p32 lt3 k2 j6 k4 k5 j7 j9 p42
        rw [QG (fn:=U3) rfl]
        simp only [U3,Q1,quiet,cW,↓pW,reduceCtorEq,seval,-Qb,hsv,rfv,g0,g00,g01,t01,im1,im4,im5,im3,ok1,ok2,ok3,n1,n2,n3,n4,z4,sp4,b1,b2,b3,c2,wk,wu,fk1,fw1,s1,e3,e4,e5,F0,p00,p01,m1,p10,p11,m2,p20,p21,m3,p30,p31,k1,p40,ow4,j1,j2,j3,j4,j5,ow5]
       ·rw [hsh] at e
        cases e
        rw [←hl]
        refine OutS.toK (K:=KE H.length) ?_ (fun i hi h'=>hi ⟨by have:i<H.length:=h'; omega,by have:i<H.length:=h'; omega⟩)
        have:=j6.out
        simpa [frB] using this
    ·have b3:(((sl.length:Nat):Int) != (z:Int))=true:=by simp; omega
     refine bad 110 (by decide) (by unfold frE; rw [hsh]; exact if_neg fun hh=>q3 hh.2.2.1) (ZK ?_ ?_)
     rotate_left
     ·rw [QG (fn:=U3) rfl]
      simp only [U3,Q1,quiet,cW,↓pW,reduceCtorEq,seval,-Qb,hsv,rfv,g0,g00,g01,t01,im1,ok1,ok2,ok3,n1,n2,n3,n4,z4,sp4,b1,b2,b3]
      rfl
   ·have b2:(((nl.length:Nat):Int) != (y:Int))=true:=by simp; omega
    refine bad 110 (by decide) (by unfold frE; rw [hsh]; exact if_neg fun hh=>q2 hh.2.1) (ZK ?_ ?_)
    rotate_left
    ·rw [QG (fn:=U3) rfl]
     simp only [U3,Q1,quiet,cW,↓pW,reduceCtorEq,seval,-Qb,hsv,rfv,g0,g00,g01,t01,im1,ok1,ok2,ok3,n1,n2,n3,n4,z4,sp4,b1,b2]
     rfl
  ·have b1:(((kl.length:Nat):Int) != (x:Int))=true:=by simp; omega
   refine bad 110 (by decide) (by unfold frE; rw [hsh]; exact if_neg fun hh=>q1 hh.1) (ZK ?_ ?_)
   rotate_left
   ·rw [QG (fn:=U3) rfl]
    simp only [U3,Q1,quiet,cW,↓pW,reduceCtorEq,seval,-Qb,hsv,rfv,g0,g00,g01,t01,im1,ok1,ok2,ok3,n1,n2,n3,n4,z4,sp4,b1]
    rfl
theorem FrV.app {H m:List Ob} {ka na sa da:Value} {kl:List (List Nat)} {nl:List Nat} {sl:List (List Nat)} {dl:List Nat} (h:FrV H ka na sa da kl nl sl dl):FrV (H++m) ka na sa da kl nl sl dl :=
 ⟨h.kz.app,h.kx,h.nz.app,h.sz.app,h.sx,h.dz.app⟩
theorem Sq.some_of {G:List Ob} {es:Nat} {cs:List Value} {n:Nat} {v:Value} (h:Sq G es cs n v) (hn:0<n):∃ id c w e s,v=.slice (some ⟨id,0,none⟩) n c∧G[id]?=some ⟨cs,true,w,e,s⟩∧cs.length=n*es:=by
 rcases h with ⟨-,h,-⟩ | h
 ·omega
 ·exact h
theorem B8 {p q r v:List Nat} (h:v.length=q.length) (hp:p.length=n):splice (u8s (p++(q++r))) n (u8s v)=u8s (p++(v++r)):=by
 have:=Tk (a:=u8s p) (b:=u8s (q++r)) (v:=u8s v) (n:=n) (k:=0) (by rw [Qo,hp]) (by rw [Qo,Qo,Qh]; omega)
 rw [Nat.add_zero] at this
 rw [JC,this,JC q,Tl (by rw [Qo,Qo,h]),←JC,←JC]
def Xn (nm:List Nat) (e m:Nat):List Nat:=frB 5 [nm] [e,m] [Qc 64 0] [] true
theorem Eo (hk:Sq H 32 (u8s nm) 1 ka) (hn:Sq H 1 (ns32 [e,m]) 2 na) (lk:nm.length=32) :
  ∃ v l,Za T 48 [.agg #[.int .i64 5,ka,na,sa,da]] H=some (v,H++l,[])∧OutS (LtN H.length) (H++l) v (Xn nm e m):=by
 have hz64:=Y5
 have lz:(Qc 64 0).length=64:=Qm
 obtain ⟨m1,hm1⟩:∃ X,X=[(⟨[.int .i64 5,ka,na,.slice (some ⟨H.length+1,0,none⟩) 1 1,.slice none 0 0],true,true,true,1⟩:Ob),⟨u8s (Qc 64 0),true,true,true,1⟩]:=⟨_,rfl⟩
 have g1:(H++m1)[H.length+1]?=some ⟨u8s (Qc 64 0),true,true,true,1⟩:=by rw [hm1,Qe (by omega),Qr]; rfl
 have F:FrV (H++m1) ka na (.slice (some ⟨H.length+1,0,none⟩) 1 1) (.slice none 0 0) [nm] [e,m] [Qc 64 0] [] :=
  ⟨by rw [show [nm].flatten=nm by simp]; exact hk.app,fun x hx=>by rw [Z0.1 hx]; exact lk,hn.app,.inr ⟨_,1,_,_,_,rfl,by rw [show [Qc 64 0].flatten=Qc 64 0 by simp]; exact g1,by rw [Qo]; simp⟩,fun x hx=>by rw [Z0.1 hx]; exact lz,⟨⟨_,_,rfl⟩,fun _ _=>rfl⟩⟩
 obtain ⟨v,l,he,q1,-⟩:=Dc (k:=5) F
 have hE:frE 5 [nm].length [e,m].length [Qc 64 0].length ([]:List Nat).length=0:=rfl
 have q2:=q1 1 2 1 true rfl hE
 rw [hE,Qy] at he
 rw [Qy] at q2
 refine ⟨v,m1++l,?_,q2.toK fun i hi h=>hi (by have:i<H.length:=h; show i<(H++m1).length; rw [Qh]; omega)⟩
 have g0:(H++(m1++l))[H.length]?=some ⟨[.int .i64 5,ka,na,.slice (some ⟨H.length+1,0,none⟩) 1 1,.slice none 0 0],true,true,true,1⟩:=by rw [hm1,Qe (by omega),Qu]; rfl
 have g00:m1[0]?=some ⟨[.int .i64 5,ka,na,.slice (some ⟨H.length+1,0,none⟩) 1 1,.slice none 0 0],true,true,true,1⟩:=by rw [hm1]; rfl
 have h1:=hm1.symm
 have f64:=E6 lz
 rw [hz64] at f64
 have fz:∀ L:List Value,fillL L []=some L:=fun _=>rfl
 have ok1:∀ L:List Value,(Value.agg L.toArray).cells.toList=L:=fun _=>rfl
 have ok2:∀ L:List Value,(Value.agg L.toArray).cells.size=L.length:=fun _=>rfl
 have ok3:∀ L:List Value,okVar (Value.agg L.toArray)=true:=fun _=>rfl
 have e2:∀ o1:Ob,(H++[o1])[H.length]?=some o1:=fun _=>by rw [Qe (Ql _),Qu]; rfl
 have e3:∀ o1 o2:Ob,(H++[o1,o2])[H.length]?=some o1:=fun _ _=>by rw [Qe (Ql _),Qu]; rfl
 have t3:∀ o1 o2 o:Ob,(H++[o1,o2]).set H.length o=H++[o,o2]:=fun _ _ _=>by rw [Q7 _ _ (Ql _),Qu]; rfl
 have cl5:∀ a b c d e:Value,Q4 5 [a,b,c,d,e]=[a,b,c,d,e]:=fun _ _ _ _ _=>rfl
 clear hm1 F q1 q2 hE
 generalize Qc 64 0=Z64 at *
 rw [QG (fn:=mq) rfl]
 simp only [mq,Q1,quiet,cW,↓pW,reduceCtorEq,seval,-Qb,he,g0,g00,h1,f64,fz,hz64,e2,e3,t3,cl5,ok1,ok2,ok3,lz,QA,QW,Zb,ZT,Zc,Qo,Qm,ZX]
theorem FF (h1:nm.length=32):(plc nm e m key tl)[32]?=some (.int .u32 e):=by
 rw [plc,Qe (by rw [Qo,h1]; decide),Qo,h1]; rfl
theorem Ak (h1:nm.length=32):Q4 32 (plc nm e m key tl)=u8s nm:=by
 rw [plc,Xj (by rw [Qo,h1])]
theorem MG (h1:nm.length=32) (h2:key.length=32):ZP 66 (plc nm e m key tl)=tl:=by
 rw [HN]
 exact X2 (JD (tl:=[]) h1 h2)
theorem Ou {a b c:List Nat} (la:a.length=32) (lb:b.length=32) (lc:c.length=32):fillL (Qc 96 (Value.int .u8 0)) [(0,32,.agg (u8s a).toArray),(32,32,.agg (u8s b).toArray),(64,32,.agg (u8s c).toArray)]=some (u8s [a,b,c].flatten):=by
 have hz:Qc 96 (Value.int .u8 0)=u8s (zK++(zK++(zK++[]))):=rfl
 have ct:∀ l:List Nat,(Value.agg (u8s l).toArray).cells.toList=u8s l:=fun _=>rfl
 have lz:=OJ
 have L:∀ {w x y:List Nat},w.length=32→x.length=32→y.length=32→(u8s (w++(x++(y++[])))).length=96:=fun hw hx hy=>by simp [Qo,hw,hx,hy]
 have e1:=B8 (p:=[]) (q:=zK) (v:=a) (r:=zK++(zK++[])) (la.trans lz.symm) (n:=0) rfl
 have e2:=B8 (p:=a) (q:=zK) (v:=b) (r:=zK++[]) (lb.trans lz.symm) la
 have e3:=B8 (p:=a++b) (q:=zK) (v:=c) (r:=[]) (lc.trans lz.symm) (n:=64) (by rw [Qh,la,lb])
 simp only [Qy,Qq] at e1 e2 e3
 rw [hz,Kq (Ye la) (by rw [L lz lz lz]; decide) rfl,ct,e1,Kq (Ye lb) (by rw [L la lz lz]; decide) rfl,ct,e2,
  Kq (Ye lc) (by rw [L la lb lz]; decide) rfl,ct,e3]
 rfl
def DB (nm key sg pub:List Nat) (e m B:Nat):List Ob:=[⟨plc nm e m key (u8s sg),true,true,true,1⟩,⟨[.int .i64 4,.slice (some ⟨B+2,0,none⟩) 3 3,.slice (some ⟨B+3,0,none⟩) 2 2,.slice none 0 0,.slice none 0 0],true,true,true,1⟩,⟨u8s [nm,key,pub].flatten,true,true,true,1⟩,⟨ns32 [e,m],true,true,true,1⟩]
theorem Ms (h1:nm.length=32) (h2:key.length=32) (h3:B32 sg) :
  Za T 23 [.agg (plc nm e m key (u8s sg)).toArray] H=some (.agg #[.int .i64 4,.slice (some ⟨H.length+2,0,none⟩) 3 3,.slice (some ⟨H.length+3,0,none⟩) 2 2,.slice none 0 0,.slice none 0 0],H++DB nm key sg (JT sg) e m H.length,[]):=by
 have n0:=JD (e:=e) (m:=m) (tl:=u8s sg) h1 h2
 rw [Qo,h3.len] at n0
 have r1:=Ak (e:=e) (m:=m) (key:=key) (tl:=u8s sg) h1
 have r2:=Lh (e:=e) (m:=m) (tl:=u8s sg) h1 h2
 have r3:Q4 32 (ZP 66 (plc nm e m key (u8s sg)))=u8s sg:=by rw [MG h1 h2]; exact QA (by rw [Qo,h3.len])
 have r4:=FF (e:=e) (m:=m) (key:=key) (tl:=u8s sg) h1
 have r5:=Vv (e:=e) (m:=m) (key:=key) (tl:=u8s sg) h1
 have hp:=PS h3.len h3.lt
 have lp:=YO sg
 have f3:=Ou h1 h2 lp
 have f2:fillL [Value.int .u32 0,.int .u32 0] [(0,1,.int .u32 (e:Int)),(1,1,.int .u32 (m:Int))]=some [.int .u32 (e:Int),.int .u32 (m:Int)]:=rfl
 have f5:∀ a b:Addr,fillL [Value.int .i64 0,.slice none 0 0,.slice none 0 0,.slice none 0 0,.slice none 0 0] [(0,1,.int .i64 4),(1,1,.slice (some a) 3 3),(2,1,.slice (some b) 2 2)]=some [.int .i64 4,.slice (some a) 3 3,.slice (some b) 2 2,.slice none 0 0,.slice none 0 0]:=fun _ _=>rfl
 have sp5:∀ (a b c d e a' b' c' d' e':Value),splice [a,b,c,d,e] 0 [a',b',c',d',e']=[a',b',c',d',e']:=fun _ _ _ _ _ _ _ _ _ _=>rfl
 have cl5:∀ a b c d e:Value,Q4 5 [a,b,c,d,e]=[a,b,c,d,e]:=fun _ _ _ _ _=>rfl
 have e2:∀ o1 o2:Ob,(H++[o1,o2])[H.length]?=some o1:=fun _ _=>by rw [Qe (Ql _),Qu]; rfl
 have e3:∀ o1 o2 o3:Ob,(H++[o1,o2,o3])[H.length]?=some o1:=fun _ _ _=>by rw [Qe (Ql _),Qu]; rfl
 have e4:∀ o1 o2 o3 o4:Ob,(H++[o1,o2,o3,o4])[H.length+1]?=some o2:=fun _ _ _ _=>by rw [Qe (by omega),Qr]; rfl
 have t4:∀ o1 o2 o3 o4 o:Ob,(H++[o1,o2,o3,o4]).set (H.length+1) o=H++[o1,o,o3,o4]:=fun _ _ _ _ _=>by rw [Q7 _ _ (by omega),Qr]; rfl
 have im1:Qx H.length [] [H.length+1]=[]:=QK (by simp)
 have ok1:∀ L:List Value,(Value.agg L.toArray).cells.toList=L:=fun _=>rfl
 have ok2:∀ L:List Value,(Value.agg L.toArray).cells.size=L.length:=fun _=>rfl
 have ok3:∀ L:List Value,okVar (Value.agg L.toArray)=true:=fun _=>rfl
 have an:ns32 [e,m]=[.int .u32 e,.int .u32 m]:=rfl
 have hzf:Xa=[Value.int .i64 0,.slice none 0 0,.slice none 0 0,.slice none 0 0,.slice none 0 0]:=rfl
 have l3:=h3.len
 unfold DB
 rw [an]
 clear h3
 generalize u8s [nm,key,JT sg].flatten=KF at *
 generalize plc nm e m key (u8s sg)=S,JT sg=pub at *
 rw [QG (fn:=mv) rfl]
 simp only [mv,Q1,quiet,cW,↓pW,reduceCtorEq,seval,-Qb,r1,r2,r3,r4,r5,hp,lp,f3,f2,f5,sp5,cl5,e2,e3,e4,t4,im1,ok1,ok2,ok3,n0,h1,h2,l3,hzf,QA,QW,Zb,ZT,Zc,Qo,Qm,ZX]
theorem iD (h1:nm.length=32) (h2:key.length=32) (h3:pub.length=32):FrV (H++DB nm key sg pub e m H.length) (.slice (some ⟨H.length+2,0,none⟩) 3 3) (.slice (some ⟨H.length+3,0,none⟩) 2 2) (.slice none 0 0) (.slice none 0 0) [nm,key,pub] [e,m] [] []:=by
 have hk:∀ x∈[nm,key,pub],x.length=32:=fun x hx=>by
  simp only [Jy,J4,or_false] at hx
  rcases hx with rfl | rfl | rfl
  ·exact h1
  ·exact h2
  ·exact h3
 have gi:∀ i ob,(DB nm key sg pub e m H.length)[i]?=some ob→(H++DB nm key sg pub e m H.length)[H.length+i]?=some ob:=fun i ob hm=>by rw [Qe (by omega),Qr]; exact hm
 exact ⟨.inr ⟨_,3,_,_,_,rfl,gi 2 _ rfl,by rw [Qo,K0 hk]⟩,hk,.inr ⟨_,2,_,_,_,rfl,gi 3 _ rfl,rfl⟩,.inl ⟨rfl,rfl,rfl⟩,fun x hx=>absurd hx (by simp),⟨⟨_,_,rfl⟩,fun _ _=>rfl⟩⟩
theorem E5 (h1:nm.length=32) (h2:key.length=32):fillL Md [(0,32,.agg (u8s nm).toArray),(32,1,.int .u32 (e:Nat)),(33,1,.int .u32 (m:Nat)),(34,32,.agg (u8s key).toArray)]=some (plc nm e m key []):=by
 have ct:∀ l:List Nat,(Value.agg (u8s l).toArray).cells.toList=u8s l:=fun _=>rfl
 have lz:(Qc 32 0).length=32:=rfl
 have l0:=JD (e:=0) (m:=0) (tl:=[]) lz lz
 have l1:=JD (e:=0) (m:=0) (tl:=[]) h1 lz
 have l2:=JD (e:=e) (m:=0) (tl:=[]) h1 lz
 have l3:=JD (e:=e) (m:=m) (tl:=[]) h1 lz
 rw [Te,Kq (Ye h1) (by rw [l0]; decide) rfl,ct,Tv lz h1,Kq (n:=1) rfl (by rw [l1]; decide) rfl,show (Value.int .u32 (e:Nat)).cells.toList=[.int .u32 (e:Nat)] from rfl,Xs,Tw h1,
  Kq (n:=1) rfl (by rw [l2]; decide) rfl,show (Value.int .u32 (m:Nat)).cells.toList=[.int .u32 (m:Nat)] from rfl,Xs,MF h1,Kq (Ye h2) (by rw [l3]; decide) rfl,ct,BH h1 lz h2,fillL]
theorem OL:XB=plc (Qc 32 0) 0 0 (Qc 32 0) []++(u8s (Qc 32 0)++[.slice none 0 0]):=rfl
theorem Ov (h1:nm.length=32) (h2:key.length=32) (h3:pub.length=32):fillL XB [(0,66,.agg (plc nm e m key []).toArray),(66,32,.agg (u8s pub).toArray)]=some (plc nm e m key (u8s pub++[.slice none 0 0])):=by
 have ct:∀ l:List Value,(Value.agg l.toArray).cells.toList=l:=fun _=>rfl
 have lz:(Qc 32 0).length=32:=rfl
 have l0:=JD (e:=0) (m:=0) (tl:=[]) lz lz
 have l1:=JD (e:=e) (m:=m) (tl:=[]) h1 h2
 have c1:(Value.agg (plc nm e m key []).toArray).cells.size=66:=l1
 rw [OL,Kq c1 (by simp only [Qh,l0]; decide) rfl,ct,HL (by rw [l0,l1]),Kq (Ye h3) (by simp only [Qh,l1,Qo]; decide) rfl,ct,
  Tk (n:=66) (k:=0) l1 (by simp only [Qh,Qo,h3]; decide),Tl (by rw [Qo,Qo,h3,lz]),fillL,←HN]
theorem TC {k0 k1 k2:List Nat} {j:Nat} (h:FrV H ka na sa da [k0,k1,k2] [i,j] [] []) :
  ∃ l,Za T 21 [.agg #[.int .i64 4,ka,na,sa,da]] H=some (.tuple #[.agg (plc k0 i j k1 (u8s k2++[.slice none 0 0])).toArray,.int .i64 0],H++l,[]):=by
 obtain ⟨v,l,he,-⟩:=Dc (k:=4) (h.app (m:=[(⟨[.int .i64 4,ka,na,sa,da],true,true,true,1⟩:Ob),⟨XB,true,true,true,1⟩]))
 rw [show frE 4 [k0,k1,k2].length [i,j].length ([]:List (List Nat)).length ([]:List Nat).length=0 from rfl] at he
 obtain ⟨G,hG⟩:∃ X,X=H++[(⟨[.int .i64 4,ka,na,sa,da],true,true,true,1⟩:Ob),⟨XB,true,true,true,1⟩]++l:=⟨_,rfl⟩
 rw [←hG] at he
 have l0:k0.length=32:=h.kx _ (by simp)
 have l1:k1.length=32:=h.kx _ (by simp)
 have l2:k2.length=32:=h.kx _ (by simp)
 have nO:(plc k0 i j k1 (u8s k2++[.slice none 0 0])).length=99:=by rw [JD l0 l1,Qh,Qo,l2]; rfl
 have nP:=JD (e:=i) (m:=j) (tl:=[]) l0 l1
 rw [Z2] at nP
 have nz:XB.length=99:=rfl
 have f1:=E5 (e:=i) (m:=j) l0 l1
 have f2:=Ov (e:=i) (m:=j) l0 l1 l2
 obtain ⟨O,hO⟩:∃ X,X=plc k0 i j k1 (u8s k2++[.slice none 0 0]):=⟨_,rfl⟩
 rw [←hO] at nO f2 ⊢
 have sz:splice XB 0 O=O:=QV (by rw [nO,nz])
 have tO:Q4 99 O=O:=Qs (by rw [nO]; decide)
 have g0:G[H.length]?=some ⟨[.int .i64 4,ka,na,sa,da],true,true,true,1⟩:=by rw [hG,Qy,Qe (Ql _),Qu,Qv,List.getElem?_cons_zero]
 have g1:G[H.length+1]?=some ⟨XB,true,true,true,1⟩:=by rw [hG,Qy,Qe (by omega),Qr]; rfl
 have g2:(G.set (H.length+1) ⟨O,true,true,true,1⟩)[H.length+1]?=some ⟨O,true,true,true,1⟩:=by rw [Qw (Qf.1 g1).1]
 have gH:∀ id o,H[id]?=some o→G[id]?=some o:=fun id o ho=>by rw [hG,Qy,Qa (Qf.1 ho).1]; exact ho
 obtain ⟨l',hl'⟩:∃ l',G.set (H.length+1) ⟨O,true,true,true,1⟩=H++l':=XA (by rw [Qp,hG]; simp) fun i hi=>by
  rw [Qn (by omega),hG,Qy,Qa hi]
 refine ⟨l',?_⟩
 rw [←hl']
 obtain ⟨kid,kc,kw,ke,ks,rfl,hk,-⟩:=h.kz.some_of (by simp)
 obtain ⟨nid,nc,nw,ne,ns',rfl,hn,-⟩:=h.nz.some_of (by simp)
 have hk':=gH _ _ hk
 have hn':=gH _ _ hn
 have a0:Q4 32 (u8s [k0,k1,k2].flatten)=u8s k0:=(YX h.kx (i:=0) rfl).1
 have a1:Q4 32 (ZP 32 (u8s [k0,k1,k2].flatten))=u8s k1:=(YX h.kx (i:=1) rfl).1
 have a2:Q4 32 (ZP 64 (u8s [k0,k1,k2].flatten))=u8s k2:=(YX h.kx (i:=2) rfl).1
 have lk:(u8s [k0,k1,k2].flatten).length=96:=by rw [Qo,K0 h.kx]; rfl
 have an:ns32 [i,j]=[.int .u32 i,.int .u32 j]:=rfl
 rw [an] at hn'
 have ok1:∀ L:List Value,(Value.agg L.toArray).cells.toList=L:=fun _=>rfl
 have ok2:∀ L:List Value,(Value.agg L.toArray).cells.size=L.length:=fun _=>rfl
 have ok3:∀ L:List Value,okVar (Value.agg L.toArray)=true:=fun _=>rfl
 have e0:∀ o1 o2:Ob,(H++[o1,o2])[H.length]?=some o1:=fun _ _=>by rw [Qe (Ql _),Qu]; rfl
 have im1:Qx H.length [] [H.length+1]=[]:=QK (by simp)
 have cl5:∀ a b c d e:Value,Q4 5 [a,b,c,d,e]=[a,b,c,d,e]:=fun _ _ _ _ _=>rfl
 have hlen:([k0,k1,k2]:List (List Nat)).length=3:=rfl
 have hlen2:([i,j]:List Nat).length=2:=rfl
 rw [hlen,hlen2] at he g0
 clear hG hl' hk hn h hO gH an
 generalize u8s [k0,k1,k2].flatten=KF at *
 generalize plc k0 i j k1 []=P at *
 rw [QG (fn:=mw) rfl]
 simp only [mw,hlen,hlen2,Q1,quiet,cW,↓pW,reduceCtorEq,seval,-Qb,he,e0,g0,g1,g2,hk',hn',a0,a1,a2,lk,f1,f2,sz,tO,nz,nO,nP,l0,l1,l2,im1,cl5,ok1,ok2,ok3,QA,QW,Zb,ZT,Zc,Qo,Qm,ZX]
end Go.Ev.YtomfgcgnepfmjaaGreat
namespace Go.Ev.YtomfgcgnepfmjaaGreat
open Go Go.Ev
attribute [local congr] Jq J7 Jp J8 Jd
set_option maxRecDepth 100000
variable {nm k n s:List Nat}
theorem OutS.part {K:Nat→Prop} {G:List Ob} {v:Value} {t:List Nat} (h:OutS K G v t) (xt:∀ y∈t,y<256) (hl:t.length≤2^47-4096):HPart (LtN G.length) G v t:=by
 rcases h with ⟨id,-,rfl,h2⟩ | h
 ·exact HPart.whole (Qf.1 h2).1 h2 xt hl
 ·exact h.part xt (by omega)
theorem HZ (e m:Nat) (hn:B32 nm):∀ y∈Xn nm e m,y<256:=fun y hy=>by
 simp only [Xn,frB,QI,Zx,Jk,JI,QJ,Q8,Z0,if_true] at hy
 rcases hy with (((h | h) | h | h) | h) | h
 ·subst h; decide
 ·exact hn.lt y h
 ·exact Iq e y h
 ·exact Iq m y h
 ·rw [List.eq_of_mem_replicate h]; decide
 ·exact Iq 0 y h
theorem BM (e m:Nat) (hn:nm.length=32):(Xn nm e m).length=109:=by
 simp [Xn,frB,id4,hn]
theorem i9 {d:List Nat} (hk:B32 k) (ln:n.length=12) (xn:∀ y∈n,y<256) (xd:∀ y∈d,y<256) (xs:∀ y∈s,y<256) (ld:d.length≤2^40) (ls:s.length≤2^40):B16 (BY k n d s):=by
 obtain ⟨G,hG⟩:∃ G:List Ob,G=[⟨u8s d,true,true,true,1⟩,⟨u8s s,true,true,true,1⟩,⟨[.slice (some ⟨1,0,none⟩) s.length s.length],true,true,true,1⟩]:=⟨_,rfl⟩
 have lG:G.length=3:=by rw [hG]; rfl
 have h:=(TY (H:=G) (dv := .slice (some ⟨0,0,none⟩) d.length d.length) (pv := .slice (some ⟨2,0,none⟩) 1 1) (xs:=[.slice (some ⟨1,0,none⟩) s.length s.length]) (ps:=[s]) hk ln xn (HPart.whole (by omega) (by rw [hG]; rfl) xd (by omega)) (.inr ⟨2,0,1,⟨[.slice (some ⟨1,0,none⟩) s.length s.length],true,true,true,1⟩,rfl,by rw [lG]; decide,by rw [hG]; rfl,rfl,fun i hi=>by rw [QC]⟩) (.cons (HPart.whole (by omega) (by rw [hG]; rfl) xs (by omega)) .nil) (by show 1<2^50; decide) (by simp; omega)).1
 rwa [show [s].flatten=s by simp] at h
theorem cR {d:List Nat} (hk:B32 k) (ln:n.length=12) (xn:∀ y∈n,y<256) (xd:∀ y∈d,y<256) (xs:∀ y∈s,y<256) (ld:d.length≤2^40) (ls:s.length≤2^40):(YL k n d s).length=d.length+16∧∀ y∈YL k n d s,y<256:=by
 have xm:=A0 (c:=1) hk ln xn xd
 have h:=i9 hk ln xn xm xs (by rw [XZ]; exact ld) ls
 refine ⟨by rw [YL,Qh,XZ,h.len],fun y hy => ?_⟩
 rcases Q8.1 hy with h' | h'
 ·exact xm y h'
 ·exact h.lt y h'
def Dat (B:Nat) (G:List Ob) (v:Value) (dl:List Nat):Prop:=∃ id off c o,v=.slice (some ⟨id,off,none⟩) dl.length c∧Rd G id off dl∧dl.length≤c∧G[id]?=some o∧o.es=1∧B≤id
theorem Dat.keep {B:Nat} {H G:List Ob} {v:Value} {dl:List Nat} (h:Dat B H v dl) (hg:∀ i o,B≤i→H[i]?=some o→o.es=1→G[i]?=some o):Dat B G v dl:=by
 obtain ⟨id,off,c,o,h1,⟨⟨o',a1,a2,a3⟩,a4⟩,h3,h4,h5,h6⟩:=h
 have e:o'=o:=by rw [a1] at h4; exact Xh h4
 subst e
 exact ⟨id,off,c,o',h1,⟨⟨o',hg id o' h6 h4 h5,a2,a3⟩,a4⟩,h3,hg id o' h6 h4 h5,h5,h6⟩
theorem Rst.rd {B:Nat} {G:List Ob} {v:Value} {l:List Nat} (h:Rst (fun i=>i<B) G v l) (h0:0<l.length) (xl:∀ y∈l,y<256):Dat B G v l:=by
 obtain ⟨id,off,all,rfl,hb,hg,hl,hi⟩:=h.own_of h0
 refine ⟨id,off,_,_,rfl,⟨⟨_,hg,rfl,fun i hlt => ?_⟩,xl⟩,Ql _,hg,rfl,Nat.le_of_not_lt hb⟩
 have h1:all[off+i]?=some (l.getD i 0):=by rw [hi i hlt,Qt,Qi hlt]; rfl
 exact Jl h1
theorem Rd.part {H:List Ob} {id off c:Nat} {a:List Nat} (h:Rd H id off a) (h0:0<a.length) (hl:a.length≤2^47-128):HPart (fun i=>i<H.length) H (.slice (some ⟨id,off,none⟩) a.length c) a:=by
 obtain ⟨⟨o,h1,h2,h3⟩,h4⟩:=h
 refine ⟨⟨_,_,rfl⟩,fun G hg => ?_,h4,hl⟩
 have hG:liveAt G id=some o:=by rw [liveAt,hg id (Qf.1 h1).1,h1]; simp [h2]
 have hlen:off+(a.length-1)<o.cells.length:=(Qf.1 (h3 (a.length-1) (by omega))).1
 have h5:Q4 a.length (ZP off o.cells)=u8s a:=by
  apply List.ext_getElem?
  intro j
  by_cases hj:j<a.length
  ·rw [QR,if_pos hj,List.getElem?_drop,h3 j hj,Qt,Qi hj]
   exact (Jl (Qi hj)).symm
  ·rw [QH (by rw [Q5]; omega),QH (by rw [Qo]; omega)]
 have h6:off+a.length≤o.cells.length:=by omega
 simp [elemsOf,hG,h5,h6]
theorem Dat.part {B:Nat} {H:List Ob} {v:Value} {dl:List Nat} (h:Dat B H v dl) (h0:0<dl.length) (hl:dl.length≤2^47-128):HPart (fun i=>i<H.length) H v dl:=by
 obtain ⟨id,off,c,o,rfl,h2,-⟩:=h
 exact h2.part h0 hl
theorem OutS.ext {K:Nat→Prop} {G G':List Ob} {v:Value} {t:List Nat} (h:OutS K G v t) (hg:∀ i,i<G.length→G'[i]?=G[i]?):OutS K G' v t:=by
 rcases h with ⟨id,h1,h0,h2⟩ | h
 ·exact .inl ⟨id,h1,h0,(hg id (Qf.1 h2).1).trans h2⟩
 ·exact .inr (h.ext hg)
theorem OutS.dat {B:Nat} {G:List Ob} {v:Value} {t:List Nat} (h:OutS (fun i=>i<B) G v t) (h0:0<t.length) (xt:∀ y∈t,y<256):Dat B G v t:=by
 rcases h with ⟨id,hb,rfl,h2⟩ | h
 ·refine ⟨id,0,_,_,rfl,⟨⟨_,h2,rfl,fun i hlt => ?_⟩,xt⟩,Ql _,h2,rfl,Nat.le_of_not_lt hb⟩
  have h1:t[i]?=some (t.getD i 0):=by rw [Qt,Qi hlt]; rfl
  rw [QC]
  exact Jl h1
 ·exact h.rd h0 xt
def Ay (ik ina is:Nat) (v:Value):Value := .agg #[.int .i64 5,.slice (some ⟨ik,0,none⟩) 1 1,.slice (some ⟨ina,0,none⟩) 2 2,.slice (some ⟨is,0,none⟩) 1 1,v]
structure Msg (B:Nat) (G:List Ob) (ik ina is:Nat) (v:Value) (nm:List Nat) (e m:Nat) (sig dl:List Nat):Prop where
 k:G[ik]?=some ⟨u8s nm,true,true,true,1⟩
 n:G[ina]?=some ⟨[.int .u32 e,.int .u32 m],true,true,true,1⟩
 s:G[is]?=some ⟨u8s sig,true,true,true,1⟩
 d:Dat B G v dl
 bk:B≤ik∧B≤ina∧B≤is
 lk:B32 nm
 ls:sig.length=64
 xs:∀ y∈sig,y<256
 ld:0<dl.length
theorem Msg.keep {B:Nat} {H G:List Ob} {ik ina is:Nat} {v:Value} {nm:List Nat} {e m:Nat} {sig dl:List Nat} (h:Msg B H ik ina is v nm e m sig dl) (hg:∀ i o,B≤i→H[i]?=some o→o.es=1→G[i]?=some o):Msg B G ik ina is v nm e m sig dl :=
 ⟨hg _ _ h.bk.1 h.k rfl,hg _ _ h.bk.2.1 h.n rfl,hg _ _ h.bk.2.2 h.s rfl,h.d.keep hg,h.bk,h.lk,h.ls,h.xs,h.ld⟩
theorem Msg.keep' {B C:Nat} {H G:List Ob} {ik ina is:Nat} {v:Value} {nm:List Nat} {e m:Nat} {sig dl:List Nat} (h:Msg B H ik ina is v nm e m sig dl) (hc:C≤B) (hg:∀ i o,B≤i→H[i]?=some o→o.es=1→G[i]?=some o):Msg C G ik ina is v nm e m sig dl :=
 have k:=h.keep hg
 ⟨k.k,k.n,k.s,by obtain ⟨id,off,c,o,h1,h2,h3,h4,h5,h6⟩:=k.d; exact ⟨id,off,c,o,h1,h2,h3,h4,h5,Jm hc h6⟩,⟨Jm hc k.bk.1,Jm hc k.bk.2.1,Jm hc k.bk.2.2⟩,k.lk,k.ls,k.xs,k.ld⟩
theorem Msg.ext {B:Nat} {H G:List Ob} {ik ina is:Nat} {v:Value} {nm:List Nat} {e m:Nat} {sig dl:List Nat} (h:Msg B H ik ina is v nm e m sig dl) (hg:∀ i,i<H.length→G[i]?=H[i]?):Msg B G ik ina is v nm e m sig dl :=
 h.keep fun i o _ ho _=>(hg i (Qf.1 ho).1).trans ho
theorem Msg.fr {B:Nat} {G:List Ob} {ik ina is:Nat} {v:Value} {nm:List Nat} {e m:Nat} {sig dl:List Nat} (h:Msg B G ik ina is v nm e m sig dl) (hl:dl.length≤16384):FrV G (.slice (some ⟨ik,0,none⟩) 1 1) (.slice (some ⟨ina,0,none⟩) 2 2) (.slice (some ⟨is,0,none⟩) 1 1) v [nm] [e,m] [sig] dl:=by
 have p:=h.d.part h.ld (by omega)
 exact ⟨.inr ⟨_,1,_,_,_,rfl,by rw [show [nm].flatten=nm by simp]; exact h.k,by rw [Qo]; simp [h.lk.len]⟩,fun x hx=>by rw [Z0.1 hx]; exact h.lk.len,.inr ⟨_,2,_,_,_,rfl,h.n,rfl⟩,.inr ⟨_,1,_,_,_,rfl,by rw [show [sig].flatten=sig by simp]; exact h.s,by rw [Qo]; simp [h.ls]⟩,fun x hx=>by rw [Z0.1 hx]; exact h.ls,⟨p.shape,fun G' hG'=>p.reads G' hG'⟩⟩
end Go.Ev.YtomfgcgnepfmjaaGreat
namespace Go.Ev.YtomfgcgnepfmjaaGreat
open Go Go.Ev
variable {c:Nat}
theorem SU {T:Tab} {n:Option Nat} {e:Env} {H:List Ob} {a:Addr} {x:Value×List Ob×Option (List Nat)×List Nat} (h:ZU T (.load n (.tmp c)) e H=some x) (hc:e.get c=some (.pointer (some a))):x.2=(H,some [a.block],[]):=by
 rw [Uo] at h
 simp only [Q0,opd,hc,Qk] at h
 cases h1:liveAt H a.block with
 | none=>rw [h1] at h; cases h
 | some o =>
  rw [h1] at h
  simp only [Qk] at h
  split at h
  ·cases h2:ZR n o.cells a.off with
   | none=>rw [h2] at h; cases h
   | some v=>rw [h2] at h; cases h; rfl
  ·cases h
theorem Nh {T:Tab} {n:Nat} {v:Operand} {e:Env} {H:List Ob} {a:Addr} {x:Value×List Ob×Option (List Nat)×List Nat} (h:ZU T (.store n (.tmp c) v) e H=some x) (hc:e.get c=some (.pointer (some a))):x.2.2=(some [a.block],[a.block]):=by
 rw [W3] at h
 simp only [Q0,opd,hc,Qk] at h
 cases h1:opd e v with
 | none=>simp only [opd] at h1; rw [h1] at h; cases h
 | some w =>
  simp only [opd] at h1
  rw [h1] at h
  simp only [Qk] at h
  split at h
  ·cases h2:storeAt H a w.cells.toList with
   | none=>rw [h2] at h; cases h
   | some G=>rw [h2] at h; cases h; rfl
  ·cases h
theorem Ip {T:Tab} {b a c p q x y:Nat} {n k:Option Nat} {n':Nat} {r:List AOper} {keep:Option (List Nat)} {e:Env} {H:List Ob} {l:List Nat} {ac ap:Addr} (h1:Env.get e c=some (.pointer (some ac))) (h2:Env.get e p=some (.pointer (some ap))) (hne:(ac.block=ap.block)=False) (hxc:(c=x)=False) (hpx:(p=x)=False) (hpy:(p=y)=False) :
  A5 T b (.region (⟨some x,.load n (.tmp a),none⟩::⟨some y,.load k (.tmp c),none⟩::⟨none,.store n' (.tmp p) (.tmp q),none⟩::r) keep [(1,2)]) ⟨e,H,l⟩ =
   (steps T b false (⟨some x,.load n (.tmp a),none⟩::⟨some y,.load k (.tmp c),none⟩::⟨none,.store n' (.tmp p) (.tmp q),none⟩::r) ⟨e,H,l⟩).bind fun s'=>some (.normal,s'.after keep):=by
 unfold A5
 rw [KQ]
 have hm:=Yu (T:=T) (b:=b) (⟨some x,.load n (.tmp a),none⟩::⟨some y,.load k (.tmp c),none⟩::⟨none,.store n' (.tmp p) (.tmp q),none⟩::r) ⟨e,H,l⟩ []
 cases hs:steps T b false (⟨some x,.load n (.tmp a),none⟩::⟨some y,.load k (.tmp c),none⟩::⟨none,.store n' (.tmp p) (.tmp q),none⟩::r) ⟨e,H,l⟩ with
 | none =>
  rw [hs] at hm
  rw [Option.map_eq_none_iff.1 hm]; rfl
 | some s' =>
  have g:∀ e:Env,guardOf e none=some true:=fun _=>rfl
  rw [Kg,g]
  unfold steps at hs
  simp only [g] at hs
  dsimp only
  cases hx1:ZU T (.load n (.tmp a)) e H with
  | none=>rw [hx1] at hs; cases hs
  | some x1 =>
   rw [hx1] at hs
   simp only [Qk,XU,Zh,if_false] at hs ⊢
   rw [Kg,g]
   unfold steps at hs
   simp only [g] at hs
   dsimp only
   cases hx2:ZU T (.load k (.tmp c)) (e.put (some x) x1.1) x1.2.1 with
   | none=>rw [hx2] at hs; cases hs
   | some x2 =>
    rw [hx2] at hs
    simp only [Qk,XU,Zh,if_false] at hs ⊢
    have r2:=SU hx2 (a:=ac) (by show Env.get ((x,x1.1)::e) c=_; rw [Gt hxc]; exact h1)
    rw [Kg,g]
    unfold steps at hs
    simp only [g] at hs
    dsimp only
    cases hx3:ZU T (.store n' (.tmp p) (.tmp q)) ((e.put (some x) x1.1).put (some y) x2.1) x2.2.1 with
    | none=>rw [hx3] at hs; cases hs
    | some x3 =>
     rw [hx3] at hs
     simp only [Qk,XU,Zh,if_false] at hs ⊢
     have r3:=Nh hx3 (a:=ap) (by show Env.get ((y,x2.1)::(x,x1.1)::e) p=_; rw [Gt hpy,Gt hpx]; exact h2)
     obtain ⟨m,hm'⟩:=W1 r _ ([]++[(x1.2.2.1,x1.2.2.2)]++[(x2.2.2.1,x2.2.2.2)]++[(x3.2.2.1,x3.2.2.2)]) s' hs
     rw [hm']
     simp only [Qk,r2,r3]
     have:ap.block≠ac.block:=fun h=>by rw [h] at hne; simp at hne
     simp [Zz,GN,this]
theorem eN {α:Type} {x:Option α}:gate False x=none:=by simp [gate]
end Go.Ev.YtomfgcgnepfmjaaGreat
namespace Go.Ev.YtomfgcgnepfmjaaGreat
open Go Go.Ev
attribute [local congr] Jq J7 Jp J8 Jd
set_option maxRecDepth 100000
variable {nm key pub tx sg:List Nat} {e m id:Nat} {H:List Ob} {hv v:Value}
def YT (nm key:List Nat):List Nat:=(nxK nm key).take 32
def msgD (nm key tx:List Nat) (e m:Nat):List Nat:=YL (Bi (YT nm key)) (Bh (YT nm key)) tx (Xn nm e m)
def msgS (nm key sg tx:List Nat) (e m:Nat):List Nat:=Ge sg (Xn nm e m++msgD nm key tx e m)
theorem SJ (nm key:List Nat):∀ y∈nxK nm key,y<256:=DS _ _ _
theorem Ls (nm key:List Nat):(nxK nm key).length=64:=by rw [nxK,CZ,V0]
theorem MS (nm key:List Nat):B32 (YT nm key):=⟨by rw [YT,Q5,Ls]; rfl,fun y hy=>SJ nm key y (QP hy)⟩
theorem Lr (nm key:List Nat):B32 ((nxK nm key).drop 32):=⟨by rw [QE,Ls],fun y hy=>SJ nm key y (Zy hy)⟩
theorem IA {k:List Nat} (hk:B32 k):B32 (Bi k):=⟨(LL hk).1,fun y hy=>DS _ _ _ y (QP hy)⟩
theorem AM (k:List Nat):∀ y∈Bh k,y<256:=fun y hy=>DS _ _ _ y (Zy (QP hy))
theorem Az (e m:Nat) (hn:B32 nm) (xt:∀ y∈tx,y<256) (lt:tx.length≤2^40):(msgD nm key tx e m).length=tx.length+16∧∀ y∈msgD nm key tx e m,y<256 :=
 cR (IA (MS _ _)) (LL (MS _ _)).2.1 (AM _) xt (HZ e m hn) lt (by rw [BM e m hn.len]; decide)
theorem EH {tv:Value} (hn:B32 nm) (hk:B32 key) (hs:B32 sg) (hm:m<16777216) (ht:HPart (fun i=>i<H.length) H tv tx) (htl:tx.length≤16368) :
  ∃ ik ina is v H',Za T 24 [.agg (plc nm e m key (u8s sg)).toArray,tv] H=some (.tuple #[.agg (plc nm e (m+1) ((nxK nm key).drop 32) (u8s sg)).toArray,Ay ik ina is v,.int .i64 0],H',[])∧Msg H.length H' ik ina is v nm e m (msgS nm key sg tx e m) (msgD nm key tx e m)∧(∀ i,i<H.length→H'[i]?=H[i]?)∧H.length≤H'.length:=by
 have n0:=JD (e:=e) (m:=m) (tl:=u8s sg) hn.len hk.len
 rw [Qo,hs.len] at n0
 have hKb:=MS nm key
 have hX:=Lr nm key
 have n1:=JD (e:=e) (m:=m+1) (tl:=u8s sg) hn.len hX.len
 rw [Qo,hs.len] at n1
 obtain ⟨S,hS⟩:∃ X,X=plc nm e m key (u8s sg):=⟨_,rfl⟩
 obtain ⟨S',hS'⟩:∃ X,X=plc nm e (m+1) ((nxK nm key).drop 32) (u8s sg):=⟨_,rfl⟩
 have r1:Q4 32 S=u8s nm:=by rw [hS]; exact Ak hn.len
 have r3:Q4 32 (ZP 66 S)=u8s sg:=by rw [hS,MG hn.len hk.len]; exact QA (by rw [Qo,hs.len])
 have r4:S[32]?=some (.int .u32 e):=by rw [hS]; exact FF hn.len
 have r5:S[33]?=some (.int .u32 m):=by rw [hS]; exact Vv hn.len
 rw [←hS] at n0
 rw [←hS'] at n1
 rw [←hS,←hS']
 obtain ⟨H1,hH1⟩:∃ G,G=H++[(⟨S,true,true,true,1⟩:Ob),⟨Ky,true,true,true,1⟩,⟨Xa,true,true,true,1⟩,⟨S,true,true,true,1⟩]:=⟨_,rfl⟩
 have l1:H1.length=H.length+4:=by rw [hH1]; simp
 have old1:∀ i,i<H.length→H1[i]?=H[i]? := fun i hi=>by rw [hH1,Qa hi]
 have at1:∀ j o,[(⟨S,true,true,true,1⟩:Ob),⟨Ky,true,true,true,1⟩,⟨Xa,true,true,true,1⟩,⟨S,true,true,true,1⟩][j]?=some o→H1[H.length+j]?=some o:=fun j o hj=>by rw [hH1,Qe (by omega),Qr]; exact hj
 obtain ⟨-,H2,M2,hnx,q1,q2,q3,q4⟩:=Lu (e:=e) (m:=m) (tl:=u8s sg) ((at1 3 _ rfl).trans (by rw [hS])) hn hk hm
 rw [←hS'] at q1
 rw [show (nxK nm key).take 32=YT nm key from rfl] at hnx
 obtain ⟨K,hK⟩:∃ X,X=YT nm key:=⟨_,rfl⟩
 rw [←hK] at hnx hKb
 have old2:∀ i,i<H1.length→i≠H.length+3→H2[i]?=H1[i]? := q2
 obtain ⟨H3,hH3⟩:∃ G,G=H2++[(⟨u8s K,true,true,true,1⟩:Ob),⟨u8s nm,true,true,true,1⟩,⟨[.int .u32 e,.int .u32 m],true,true,true,1⟩,⟨u8s (Qc 64 0),true,true,true,1⟩,⟨[.int .i64 5,.slice (some ⟨H2.length+1,0,none⟩) 1 1,.slice (some ⟨H2.length+2,0,none⟩) 2 2,.slice (some ⟨H2.length+3,0,none⟩) 1 1,.slice none 0 0],true,true,true,1⟩]:=⟨_,rfl⟩
 have l3:H3.length=H2.length+5:=by rw [hH3]; simp
 have old3:∀ i,i<H2.length→H3[i]?=H2[i]? := fun i hi=>by rw [hH3,Qa hi]
 have at3:∀ j o,[(⟨u8s K,true,true,true,1⟩:Ob),⟨u8s nm,true,true,true,1⟩,⟨[.int .u32 e,.int .u32 m],true,true,true,1⟩,⟨u8s (Qc 64 0),true,true,true,1⟩,⟨[.int .i64 5,.slice (some ⟨H2.length+1,0,none⟩) 1 1,.slice (some ⟨H2.length+2,0,none⟩) 2 2,.slice (some ⟨H2.length+3,0,none⟩) 1 1,.slice none 0 0],true,true,true,1⟩][j]?=some o→H3[H2.length+j]?=some o:=fun j o hj=>by rw [hH3,Qe (by omega),Qr]; exact hj
 obtain ⟨v1,k1,hfr,o1⟩:=Eo (H:=H3) (ka := .slice (some ⟨H2.length+1,0,none⟩) 1 1) (na := .slice (some ⟨H2.length+2,0,none⟩) 2 2) (sa := .slice (some ⟨H2.length+3,0,none⟩) 1 1) (da := .slice none 0 0) (nm:=nm) (e:=e) (m:=m) (.inr ⟨_,1,_,_,_,rfl,at3 1 _ rfl,by rw [Qo,hn.len]⟩) (.inr ⟨_,2,_,_,_,rfl,at3 2 _ rfl,rfl⟩) hn.len
 have lfr:=BM e m hn.len
 have xfr:=HZ e m hn
 obtain ⟨H4,hH4⟩:∃ G,G=H3++k1:=⟨_,rfl⟩
 rw [←hH4] at hfr o1
 have l4:H3.length≤H4.length:=by rw [hH4,Qh]; omega
 have old4:∀ i,i<H3.length→H4[i]?=H3[i]? := fun i hi=>by rw [hH4,Qa hi]
 have p1:=o1.part xfr (by rw [lfr]; decide)
 obtain ⟨H5,hH5⟩:∃ G,G=H4++[(⟨[v1],true,true,true,1⟩:Ob)]:=⟨_,rfl⟩
 have l5:H5.length=H4.length+1:=by rw [hH5]; simp
 have old5:∀ i,i<H4.length→H5[i]?=H4[i]? := fun i hi=>by rw [hH5,Qa hi]
 have at5:H5[H4.length]?=some ⟨[v1],true,true,true,1⟩:=by rw [hH5,Qe (Ql _),Qu]; rfl
 have up5:∀ i,i<H.length→H5[i]?=H[i]? := fun i hi=>by rw [old5 i (by omega),old4 i (by omega),old3 i (by omega),old2 i (by omega) (by omega),old1 i hi]
 have hb:=LL hKb
 obtain ⟨v2,H6,M6,hse,s1,s2,s3,s4⟩:=cQ (H:=H5) (d:=tx) (dv:=tv) (pv := .slice (some ⟨H4.length,0,none⟩) 1 1) (xs:=[v1]) (ps:=[Xn nm e m]) (IA hKb) hb.2.1 (AM K) (ht.extK (fun i hi=>by omega) up5) (by omega) (.inr ⟨_,0,1,_,rfl,by omega,at5,rfl,fun i hi=>by rw [QC]⟩) (.cons (p1.extK (fun i hi=>by have:i<H4.length:=hi; omega) old5) .nil) (by show 1<2^50; decide) (by simp [lfr])
 have hD:=Az (key:=key) e m hn ht.lt (by omega)
 rw [show [Xn nm e m].flatten=Xn nm e m by simp,hK,show YL (Bi (YT nm key)) (Bh (YT nm key)) tx (Xn nm e m)=msgD nm key tx e m from rfl] at s1
 obtain ⟨D,hDD⟩:∃ X,X=msgD nm key tx e m:=⟨_,rfl⟩
 rw [←hDD] at s1 hD
 have o2:OutS (fun i=>i<H5.length) H6 v2 D := .inr s1
 obtain ⟨fr2,hfr2⟩:∃ o:Ob,o=⟨[.int .i64 5,.slice (some ⟨H2.length+1,0,none⟩) 1 1,.slice (some ⟨H2.length+2,0,none⟩) 2 2,.slice (some ⟨H2.length+3,0,none⟩) 1 1,v2],true,true,true,1⟩:=⟨_,rfl⟩
 obtain ⟨H8,hH8⟩:∃ G,G=H6.set (H2.length+4) fr2++[(⟨[v1,v2],true,true,true,1⟩:Ob)]:=⟨_,rfl⟩
 have l8:H8.length=H6.length+1:=by rw [hH8]; simp
 have old8:∀ i,i<H6.length→i≠H2.length+4→H8[i]?=H6[i]? := fun i hi hne=>by rw [hH8,Qa (by rw [Qp]; exact hi),Qn (Ne.symm hne)]
 have at8:H8[H6.length]?=some ⟨[v1,v2],true,true,true,1⟩:=by rw [hH8,Qe (by rw [Qp]; exact Ql _),Qp,Qu]; rfl
 have up8:∀ i,i<H3.length→i≠H2.length+4→H8[i]?=H3[i]? := fun i hi hne=>by rw [old8 i (by omega) hne,s2 i (by omega),old5 i (by omega),old4 i hi]
 have o2':OutS (fun i=>i<H5.length) H8 v2 D:=by rw [hH8]; exact (o2.setK (by omega) fr2).app
 have o1':OutS (LtN H3.length) H8 v1 (Xn nm e m):=by
  rw [hH8]
  refine OutS.app (OutS.setK ?_ (by show _<_; omega) fr2)
  exact (o1.ext old5).ext s2
 obtain ⟨k9,hmk⟩:=eh (H:=H8) (pv := .slice (some ⟨H6.length,0,none⟩) 2 2) (ps:=[Xn nm e m,D]) hs.len hs.lt (Args.arr at8 rfl (.cons (o1'.part xfr (by rw [lfr]; decide)) (.cons (o2'.part hD.2 (by omega)) .nil)) (by decide)) (by show 2≤1000; decide) (by simp [lfr]; omega)
 have hsg:Ge sg [Xn nm e m,D].flatten=msgS nm key sg tx e m:=by rw [hDD]; simp [msgS]
 have ls:=Cn sg [Xn nm e m,D].flatten
 have xs:=cO sg [Xn nm e m,D].flatten
 rw [hsg] at hmk ls xs
 obtain ⟨sig,hsig⟩:∃ X,X=msgS nm key sg tx e m:=⟨_,rfl⟩
 rw [←hsig] at hmk ls xs ⊢
 rw [←hDD]
 obtain ⟨H9,hH9⟩:∃ G,G=(H8++k9).set (H2.length+3) (⟨u8s sig,true,true,true,1⟩:Ob):=⟨_,rfl⟩
 have l9:H8.length≤H9.length:=by rw [hH9,Qp,Qh]; omega
 have old9:∀ i,i<H8.length→i≠H2.length+3→H9[i]?=H8[i]? := fun i hi hne=>by rw [hH9,Qn (Ne.symm hne),Qa hi]
 have at9:H9[H2.length+3]?=some ⟨u8s sig,true,true,true,1⟩:=by rw [hH9,Qw (by rw [Qh]; omega)]
 have o29:OutS (fun i=>i<H5.length) H9 v2 D:=by rw [hH9]; exact o2'.app.setK (by omega) _
 obtain ⟨H10,hH10⟩:∃ G,G=(H9.set (H.length+1) (⟨S',true,true,true,1⟩:Ob)).set (H.length+2) fr2:=⟨_,rfl⟩
 have old10:∀ i,i≠H.length+1→i≠H.length+2→H10[i]?=H9[i]? := fun i h1 h2=>by rw [hH10,Qn (Ne.symm h2),Qn (Ne.symm h1)]
 have o210:OutS (fun i=>i<H5.length) H10 v2 D:=by rw [hH10]; exact (o29.setK (by omega) _).setK (by omega) _
 have up93:∀ i,i<H3.length→i≠H2.length+4→i≠H2.length+3→H9[i]?=H3[i]? := fun i hi h1 h2=>by rw [old9 i (by omega) h2,up8 i hi h1]
 refine ⟨H2.length+1,H2.length+2,H2.length+3,v2,H10,?_,⟨?_,?_,?_,(o210.toK fun i hi h'=>hi (show i<H5.length by have:i<H.length:=h'; omega)).dat (by omega) hD.2,⟨by omega,by omega,by omega⟩,hn,ls,xs,by omega⟩,fun i hi => ?_,?_⟩
 rotate_left
 ·rw [old10 _ (by omega) (by omega),up93 _ (by omega) (by omega) (by omega)]; exact at3 1 _ rfl
 ·rw [old10 _ (by omega) (by omega),up93 _ (by omega) (by omega) (by omega)]; exact at3 2 _ rfl
 ·rw [old10 _ (by omega) (by omega)]; exact at9
 ·rw [old10 _ (by omega) (by omega),up93 _ (by omega) (by omega) (by omega),old3 i (by omega),old2 i (by omega) (by omega),old1 i hi]
 ·rw [hH10,Qp,Qp]; omega
 have g2:∀ L:List Ob,(H2++L)[H.length]?=some ⟨S,true,true,true,1⟩:=fun L=>by rw [Qa (by omega),old2 _ (by omega) (by omega)]; exact at1 0 _ rfl
 have g4:H4[H2.length]?=some ⟨u8s K,true,true,true,1⟩:=(old4 _ (by omega)).trans (at3 0 _ rfl)
 have g3:H3[H2.length+4]?=some _:=at3 4 _ rfl
 have g6:H6[H2.length+4]?=some ⟨[.int .i64 5,.slice (some ⟨H2.length+1,0,none⟩) 1 1,.slice (some ⟨H2.length+2,0,none⟩) 2 2,.slice (some ⟨H2.length+3,0,none⟩) 1 1,.slice none 0 0],true,true,true,1⟩:=by rw [s2 _ (by omega),old5 _ (by omega),old4 _ (by omega)]; exact g3
 have g6a:(H6.set (H2.length+4) fr2)[H2.length+4]?=some fr2:=Qw (by omega)
 have g6b:(H6.set (H2.length+4) fr2)[H.length]?=some ⟨S,true,true,true,1⟩:=by rw [Qn (by omega),s2 _ (by omega),old5 _ (by omega),old4 _ (by omega),old3 _ (by omega),old2 _ (by omega) (by omega)]; exact at1 0 _ rfl
 have g8:(H8++k9)[H2.length+3]?=some ⟨u8s (Qc 64 0),true,true,true,1⟩:=by rw [Qa (by omega),up8 _ (by omega) (by omega)]; exact at3 3 _ rfl
 have g9a:H9[H.length+3]?=some ⟨S',true,true,true,1⟩:=by rw [up93 _ (by omega) (by omega) (by omega),old3 _ (by omega)]; exact q1
 have g9b:H9[H2.length+4]?=some fr2:=by rw [old9 _ (by omega) (by omega),hH8,Qa (by rw [Qp]; omega)]; exact g6a
 have g9c:H9[H.length+1]?=some ⟨Ky,true,true,true,1⟩:=by rw [up93 _ (by omega) (by omega) (by omega),old3 _ (by omega),old2 _ (by omega) (by omega)]; exact at1 1 _ rfl
 have g9d:∀ o,(H9.set (H.length+1) o)[H.length+2]?=some ⟨Xa,true,true,true,1⟩:=fun o=>by rw [Qn (by omega),up93 _ (by omega) (by omega) (by omega),old3 _ (by omega),old2 _ (by omega) (by omega)]; exact at1 2 _ rfl
 have g10a:H10[H.length+1]?=some ⟨S',true,true,true,1⟩:=by rw [hH10,Qn (by omega),Qw (by omega)]
 have g10b:H10[H.length+2]?=some fr2:=by rw [hH10,Qw (by rw [Qp]; omega)]
 have nb:(H2.length+4=H.length+1)=False:=eq_false (by omega)
 have hbk:=@Ip T H.length 7 10 4 69 69 70 (some 98) (some 5) 98 [⟨none,.store 5 (.tmp 5) (.tmp 70),none⟩,⟨some 6,.move (.const (.int .i64 0)),none⟩] (some [4,5,6]) [(4,.pointer (some ⟨H.length+1,0,none⟩)),(5,.pointer (some ⟨H.length+2,0,none⟩)),(7,.pointer (some ⟨H.length+3,0,none⟩)),(10,.pointer (some ⟨H2.length+4,0,none⟩))] H9 [] ⟨H2.length+4,0,none⟩ ⟨H.length+1,0,none⟩ rfl rfl nb (eq_false (by decide)) (eq_false (by decide)) (eq_false (by decide))
 have hz64:=Y5
 have lz:(Qc 64 0).length=64:=Qm
 obtain ⟨z32,hz32,lz32⟩:∃ z:List Nat,Qc 32 (Value.int .u8 0)=u8s z∧z.length=32:=⟨Qc 32 0,rfl,rfl⟩
 have f64:=E6 lz
 have fz:fillL (u8s (Qc 64 0)) []=some (u8s (Qc 64 0)):=rfl
 rw [hz64] at f64
 have f32:fillL (u8s z32) [(0,32,.agg (u8s nm).toArray)]=some (u8s nm):=by
  have ln:=hn.len
  rw [Kq (Ye ln) (by rw [Qo,lz32]; decide) rfl,show (Value.agg (u8s nm).toArray).cells.toList=u8s nm from rfl,QV (by rw [Qo,Qo,lz32,ln])]
  rfl
 have f2:fillL [Value.int .u32 0,.int .u32 0] [(0,1,.int .u32 (e:Int)),(1,1,.int .u32 (m:Int))]=some [.int .u32 (e:Int),.int .u32 (m:Int)]:=rfl
 have f5:∀ a b c:Addr,fillL Xa [(0,1,.int .i64 5),(1,1,.slice (some a) 1 1),(2,1,.slice (some b) 2 2),(3,1,.slice (some c) 1 1)]=some [.int .i64 5,.slice (some a) 1 1,.slice (some b) 2 2,.slice (some c) 1 1,.slice none 0 0]:=fun _ _ _=>rfl
 obtain ⟨a1,c1,hv1⟩:=o1.shape
 obtain ⟨a2,c2,hv2⟩:=o2.shape
 rw [lfr] at hv1
 have w1:fillL [Value.slice none 0 0] [(0,1,v1)]=some [v1]:=by rw [hv1]; rfl
 have w2:fillL [Value.slice none 0 0,.slice none 0 0] [(0,1,v1),(1,1,v2)]=some [v1,v2]:=by rw [hv1,hv2]; rfl
 have c1v:v2.cells.toList=[v2]:=by rw [hv2]; rfl
 have c2v:v2.cells.size=1:=by rw [hv2]; rfl
 have c3v:okVar v2=true:=by rw [hv2]; rfl
 have sp4:∀ (a b c d e' f':Value),splice [a,b,c,d,e'] 4 [f']=[a,b,c,d,f']:=fun _ _ _ _ _ _=>rfl
 have sp5:∀ (a b c d e':Value),splice Xa 0 [a,b,c,d,e']=[a,b,c,d,e']:=fun _ _ _ _ _=>rfl
 have cl5:∀ a b c d e':Value,Q4 5 [a,b,c,d,e']=[a,b,c,d,e']:=fun _ _ _ _ _=>rfl
 have lzs:Ky.length=98:=rfl
 have lzf:Xa.length=5:=rfl
 have spS:splice Ky 0 S=S:=QV (by rw [n0,lzs])
 have spS':splice Ky 0 S'=S':=QV (by rw [n1,lzs])
 have tS:Q4 98 S=S:=QA n0
 have tS':Q4 98 S'=S':=QA n1
 have spK:=QV (cs:=u8s z32) (v:=u8s K) (by rw [Qo,Qo,hKb.len,lz32])
 have spG:=QV (cs:=u8s (Qc 64 0)) (v:=u8s sig) (by rw [Qo,Qo,ls,lz])
 have tK:Q4 32 (u8s K)=u8s K:=QA (by rw [Qo,hKb.len])
 have e1:((16368:Int)<(tx.length:Int))=False:=eq_false (by omega)
 have hlen:vLen false tv=some (.int .i64 tx.length):=by obtain ⟨a,c,rfl⟩:=ht.shape; rfl
 have ok1:∀ L:List Value,(Value.agg L.toArray).cells.toList=L:=fun _=>rfl
 have ok2:∀ L:List Value,(Value.agg L.toArray).cells.size=L.length:=fun _=>rfl
 have ok3:∀ L:List Value,okVar (Value.agg L.toArray)=true:=fun _=>rfl
 have im1:Qx H.length [] M2=[]:=QK fun i hi=>by have:=q4 i hi; omega
 have im2:Qx H.length [] M6=[]:=QK fun i hi=>by have:=s4 i hi; omega
 have im3:∀ j,Qx H.length [] [H2.length+j]=[]:=fun j=>QK (by simp; omega)
 have im4:∀ j,Qx H.length [] [H.length+j]=[]:=fun j=>QK (by simp)
 have im5:Qx H.length [] [H2.length]=[]:=QK (by simp; omega)
 have h1:=hH1.symm
 have h3:=hH3.symm
 have h5:=hH5.symm
 have h8:=hH8.symm
 have h9:=hH9.symm
 have h10:=hH10.symm
 have hfr2':=hfr2.symm
 have fc:fr2.cells=[.int .i64 5,.slice (some ⟨H2.length+1,0,none⟩) 1 1,.slice (some ⟨H2.length+2,0,none⟩) 2 2,.slice (some ⟨H2.length+3,0,none⟩) 1 1,v2]:=by rw [hfr2]
 have fl:fr2.live=true:=by rw [hfr2]
 have hbv:=hb.2.2
 have lAB:(Bi K++Bh K).length=44:=by rw [Qh,hb.1,hb.2.1]
 have lsg:=hs.len
 have lnm:=hn.len
 have lK:=hKb.len
 clear hH1 hH3 hH4 hH5 hH8 hH9 hH10 hS hS' hK hDD hsig hsg o1 o2 o1' o2' o29 o210 p1 s1 at1 at3 at5 at8 at9 q1 q2 q3 q4 s2 s3 s4 old1 old2 old3 old4 old5 old8 old9 old10 up5 up8 up93 hb hD ht hX xs xfr hn hk hs
 generalize Qc 64 0=Z64,Bi K++Bh K=AB at *
 rw [QG (fn:=mu) rfl]
 simp only [mu,Q1,quiet,cW,↓pW,reduceCtorEq,seval,-Qb,r1,r3,r4,r5,hnx,hfr,hbv,hse,hmk,g2,g3,g4,g6,g6a,g6b,g8,g9a,g9b,g9c,g9d,g10a,g10b,f64,fz,f32,f2,f5,w1,w2,hz64,hz32,lz32,c1v,c2v,c3v,sp4,sp5,cl5,lzs,lzf,spS,spS',tS,tS',spK,spG,tK,e1,hlen,ok1,ok2,ok3,im1,im2,im3,im4,im5,h1,h3,h5,h8,h9,h10,hfr2',fc,fl,lz,lAB,lsg,lnm,lK,ls,n0,n1,QA,QW,Zb,ZT,Zc,Qo,Qm,Qp,ZX,Ay,eN,FD,Option.bind_none,hbk]
def fol (nm:List Nat) (e m:Nat) (key pub:List Nat) (hv:Value):List Value:=plc nm e m key (u8s pub++[hv])
theorem Vx (h1:nm.length=32) (h2:key.length=32) (h3:pub.length=32):(fol nm e m key pub hv).length=99:=by
 rw [fol,JD h1 h2,Qh,Qo,h3]; rfl
theorem eZ (h1:nm.length=32) (h2:key.length=32) (h3:pub.length=32):Q4 32 (ZP 66 (fol nm e m key pub hv))=u8s pub:=by
 rw [fol,MG h1 h2]
 exact Xj (by rw [Qo,h3])
theorem Rc (h1:nm.length=32) (h2:key.length=32) (h3:pub.length=32):(fol nm e m key pub hv)[98]?=some hv:=by
 rw [fol,HN,Qe (by rw [JD h1 h2]; decide),JD h1 h2,Qe (by rw [Qo,h3]; decide),Qo,h3]; rfl
theorem TD {hv':Value} (h1:nm.length=32) (h2:key.length=32) (h3:pub.length=32):(fol nm e m key pub hv).set 98 hv'=fol nm e m key pub hv':=by
 rw [fol,HN,Q7 _ _ (by rw [JD h1 h2]; decide),JD h1 h2,Q7 _ _ (by rw [Qo,h3]; decide),Qo,h3,fol,HN nm e m key (u8s pub++[hv'])]; rfl
theorem eI {fv:Value}:Za T 94 [.slice none 0 0,fv] H=some (.int .i64 (-1),H,[]):=by
 obtain ⟨st,hA,rfl⟩:=QY (T:=T) (base:=H.length) (id:=0) (body:=AP)
  (fun i st=>st=⟨[(0,.slice none 0 0),(1,fv),(7,.int .i64 0),(8,.int .i64 0)],H,[]⟩) (Q:=fun st=>st=⟨[(0,.slice none 0 0),(1,fv),(7,.int .i64 0),(8,.int .i64 0),(9,.bool false)],H,[]⟩)
  0 (s:=⟨[(0,.slice none 0 0),(1,fv),(7,.int .i64 0),(8,.int .i64 0)],H,[]⟩) rfl (fun i st hi=>absurd hi (Xi _))
  (fun st hs=>by
   subst hs
   refine ⟨_,?_,rfl⟩
   have e1:((0:Int)<0)=False:=eq_false (by decide)
   simp only [AP,Q1,quiet,cW,↓pW,reduceCtorEq,seval,-Qb,e1])
 have hlen:vLen false (.slice none 0 0)=some (.int .i64 0):=rfl
 rw [QG (fn:=mf) rfl]
 simp only [mf,Q1,quiet,cW,↓pW,reduceCtorEq,seval,-Qb,hlen,hA]
theorem O5:Za T 49 [.slice none 0 0] H=some (.slice none 0 0,H,[]):=by
 have h1:Vq 1 (.slice none 0 0)=some true:=rfl
 rw [QG (fn:=mo) rfl]
 simp only [mo,Q1,quiet,cW,↓pW,reduceCtorEq,seval,-Qb,h1]
theorem eB {mi:Nat} (ho:H[id]?=some ⟨fol nm e m key pub (.slice none 0 0),true,true,true,1⟩) (hn:B32 nm) (hk:B32 key) (hp:pub.length=32) (hm:mi<m) :
  ∃ l,Za T 50 [.pointer (some ⟨id,0,none⟩),.int .u32 mi] H=some (.tuple #[.agg (u8s (Qc 32 0)).toArray,.int .i64 151],H++l,[]):=by
 have hid:=(Qf.1 ho).1
 obtain ⟨z,hz,lz⟩:∃ z:List Nat,Qc 32 (Value.int .u8 0)=u8s z∧z=Qc 32 0:=⟨Qc 32 0,rfl,rfl⟩
 have l32:z.length=32:=by rw [lz]; rfl
 have g1:∀ L:List Ob,(H++L)[id]?=some ⟨fol nm e m key pub (.slice none 0 0),true,true,true,1⟩:=fun L=>by rw [Qa hid]; exact ho
 have num:(fol nm e m key pub (.slice none 0 0))[33]?=some (.int .u32 m):=Vv hn.len
 have hv:=Rc (e:=e) (m:=m) (hv := .slice none 0 0) hn.len hk.len hp
 have hl:=Vx (e:=e) (m:=m) (hv := .slice none 0 0) hn.len hk.len hp
 have e1:((mi:Int)<(m:Int))=True:=eq_true (by omega)
 have g2:∀ o1 o2:Ob,(H++[o1,o2])[H.length]?=some o1:=fun _ _=>by rw [Qe (Ql _),Qu]; rfl
 have g3:∀ o1 o2:Ob,(H++[o1,o2])[H.length+1]?=some o2:=fun _ _=>by rw [Qe (by omega),Qr]; rfl
 have t3:∀ o1 o2 o:Ob,(H++[o1,o2]).set (H.length+1) o=H++[o1,o]:=fun _ _ _=>by rw [Q7 _ _ (by omega),Qr]; rfl
 have hi:=@eI
 have im:∀ L,Qx H.length L [H.length+1]=L:=fun L=>QK (by simp)
 have fz:fillL (u8s z) []=some (u8s z):=rfl
 have sp:=QV (cs:=u8s z) (v:=u8s z) rfl
 have tz:Q4 32 (u8s z)=u8s z:=QA (by rw [Qo,l32])
 have e2:((-1:Int)<0)=True:=eq_true (by decide)
 have ok1:∀ L:List Value,(Value.agg L.toArray).cells.toList=L:=fun _=>rfl
 have ok2:∀ L:List Value,(Value.agg L.toArray).cells.size=L.length:=fun _=>rfl
 have ok3:∀ L:List Value,okVar (Value.agg L.toArray)=true:=fun _=>rfl
 rw [←lz]
 clear lz ho
 generalize fol nm e m key pub (.slice none 0 0)=F at *
 refine ⟨[⟨[.int .u32 mi],true,true,true,1⟩,⟨u8s z,true,true,true,1⟩],?_⟩
 rw [QG (fn:=bL) rfl]
 simp only [bL,Q1,quiet,cW,↓pW,reduceCtorEq,seval,-Qb,hz,l32,g1,g2,g3,t3,num,hv,hl,e1,e2,hi,im,fz,sp,tz,ok1,ok2,ok3,Vp,Qo]
def kyS (id a b:Nat) (H:List Ob) (L:List Nat) (ex:Env):St:=⟨[(0,.pointer (some ⟨id,0,none⟩)),(3,.pointer (some ⟨a,0,none⟩)),(4,.pointer (some ⟨b,0,none⟩))]++ex,H,L⟩
theorem eC (ho:H[id]?=some ⟨fol nm e m key pub (.slice none 0 0),true,true,true,1⟩) (hn:B32 nm) (hk:B32 key) (hp:pub.length=32) (hm:m<16777216) :
  ∃ H' M,Za T 50 [.pointer (some ⟨id,0,none⟩),.int .u32 m] H=some (.tuple #[.agg (u8s (YT nm key)).toArray,.int .i64 0],H',M)∧H'[id]?=some ⟨fol nm e (m+1) ((nxK nm key).drop 32) pub (.slice none 0 0),true,true,true,1⟩∧(∀ i,i<H.length→i≠id→H'[i]?=H[i]?)∧H.length≤H'.length∧∀ i∈M,i=id:=by
 have hid:=(Qf.1 ho).1
 obtain ⟨z,hz,lz⟩:∃ z:List Nat,Qc 32 (Value.int .u8 0)=u8s z∧z.length=32:=⟨Qc 32 0,rfl,rfl⟩
 obtain ⟨H1,hH1⟩:∃ G,G=H++[(⟨[.int .u32 m],true,true,true,1⟩:Ob),⟨u8s z,true,true,true,1⟩]:=⟨_,rfl⟩
 have l1:H1.length=H.length+2:=by rw [hH1]; simp
 have g1:H1[id]?=some ⟨fol nm e m key pub (.slice none 0 0),true,true,true,1⟩:=by rw [hH1,Qa hid]; exact ho
 have g1i:H1[H.length]?=some ⟨[.int .u32 m],true,true,true,1⟩:=by rw [hH1,Qe (Ql _),Qu]; rfl
 obtain ⟨-,H2,M2,hnx,q1,q2,q3,q4⟩:=Lu (e:=e) (m:=m) (tl:=u8s pub++[.slice none 0 0]) g1 hn hk hm
 rw [show (nxK nm key).take 32=YT nm key from rfl] at hnx
 have hKb:=MS nm key
 generalize YT nm key=K at *
 have num:(fol nm e m key pub (.slice none 0 0))[33]?=some (.int .u32 m):=Vv hn.len
 have hv:=Rc (e:=e) (m:=m) (hv := .slice none 0 0) hn.len hk.len hp
 have hl:=Vx (e:=e) (m:=m) (hv := .slice none 0 0) hn.len hk.len hp
 have hsv:=TD (e:=e) (m:=m) (hv := .slice none 0 0) (hv' := .slice none 0 0) hn.len hk.len hp
 have hq:∀ k tl,plc nm e (m+1) k (u8s pub++[tl])=fol nm e (m+1) k pub tl:=fun _ _=>rfl
 rw [hq] at q1
 generalize fol nm e m key pub (.slice none 0 0)=F at *
 generalize fol nm e (m+1) ((nxK nm key).drop 32) pub (.slice none 0 0)=F' at *
 have e1:((m:Int)<(m:Int))=False:=eq_false (by omega)
 obtain ⟨st,hA,rfl⟩:=QY (T:=T) (base:=H.length) (id:=0) (body:=AQ)
  (fun i st=>st=kyS id H.length (H.length+1) H1 [] [(54,.bool false)]) (Q:=fun st=>st=kyS id H.length (H.length+1) H1 [] [(62,.bool false)])
  0 (s:=kyS id H.length (H.length+1) H1 [] [(54,.bool false)]) rfl (fun i st hi=>absurd hi (Xi _))
  (fun st hs=>by
   subst hs
   refine ⟨_,?_,rfl⟩
   simp only [kyS,AQ,Q1,quiet,cW,↓pW,reduceCtorEq,seval,-Qb,e1,g1,g1i,num])
 refine ⟨H2.set (H.length+1) ⟨u8s K,true,true,true,1⟩,Qx H.length (Qx H.length [] [id]) M2,?_,?_,fun i hi hne => ?_,?_,fun i hi => ?_⟩
 rotate_left
 ·rw [Qn (by omega)]; exact q1
 ·rw [Qn (by omega),q2 i (by omega) hne,hH1,Qa hi]
 ·rw [Qp]; omega
 ·rcases Zi hi with h | h
  ·rcases Zi h with h | h
   ·simp at h
   ·exact Z0.1 h
  ·exact q4 i h
 have h1:=hH1.symm
 have w1:IntKind.u32.wrap ((m:Int)-(m:Int))=0:=by rw [Int.sub_self]; rfl
 have e2:((1000:Int)<0)=False:=eq_false (by decide)
 have hlen:vLen false (.slice none 0 0)=some (.int .i64 0):=rfl
 have w2:IntKind.i64.wrap (0-1000) = -1000:=by decide
 have mx:Wp true (.int .i64 0) (.int .i64 (-1000))=some (.int .i64 0):=rfl
 have b1:ZC 0 0 (some (.int .i64 0)) none none=some (0,0,0):=rfl
 have ss:=UA g1
 have g3:H2[H.length+1]?=some ⟨u8s z,true,true,true,1⟩:=by rw [q2 _ (by omega) (by omega),hH1,Qe (by omega),Qr]; rfl
 have g4:∀ o,(H2.set (H.length+1) o)[H.length+1]?=some o:=fun o=>Qw (by omega)
 have im:∀ L,Qx H.length L [H.length+1]=L:=fun L=>QK (by simp)
 have sp:=QV (cs:=u8s z) (v:=u8s K) (by rw [Qo,Qo,lz,hKb.len])
 have tK:Q4 32 (u8s K)=u8s K:=QA (by rw [Qo,hKb.len])
 have lK:=hKb.len
 have ok1:∀ L:List Value,(Value.agg L.toArray).cells.toList=L:=fun _=>rfl
 have ok2:∀ L:List Value,(Value.agg L.toArray).cells.size=L.length:=fun _=>rfl
 have ok3:∀ L:List Value,okVar (Value.agg L.toArray)=true:=fun _=>rfl
 simp only [kyS,Qv,Qq] at hA
 clear hH1 q1 q2 q3 q4 hKb ho
 rw [QG (fn:=bL) rfl]
 simp only [bL,Q1,quiet,cW,↓pW,reduceCtorEq,seval,-Qb,hz,lz,h1,g1,g1i,g3,g4,num,hv,hl,hsv,e1,e2,w1,w2,hlen,mx,b1,ss,im,sp,tK,lK,hnx,hA,ok1,ok2,ok3,Vp,Qo]
theorem Ro {ik ina is m mi:Nat} {dl:List Nat} {B:Nat} (h:Msg B H ik ina is v nm e mi (Ge sg (Xn nm e mi++dl)) dl) (hk:B32 key) (hs:B32 sg) (hdl:dl.length≤16384) (xd:∀ y∈dl,y<256) (hm:m<16777216) (hle:mi≤m) (hd:mi=m→dl=msgD nm key tx e m∧tx.length≤16368∧∀ y∈tx,y<256) :
  ∃ H' r v' c,Za T 18 [.agg (fol nm e m key (JT sg) (.slice none 0 0)).toArray,Ay ik ina is v] H=some (.tuple #[.agg r.toArray,v',.int .i64 c],H',[])∧(∀ i,i<H.length→H'[i]?=H[i]?)∧H.length≤H'.length ∧
   ((mi<m∧r=fol nm e m key (JT sg) (.slice none 0 0)∧v'=.slice none 0 0∧c=151)∨(mi=m∧r=fol nm e (m+1) ((nxK nm key).drop 32) (JT sg) (.slice none 0 0)∧c=0∧OutS (fun i=>i<H.length) H' v' tx)):=by
 have hn:=h.lk
 have lpu:=YO sg
 have xpu:=Lg sg
 have hX:=Lr nm key
 have hKb:=MS nm key
 obtain ⟨F,hF⟩:∃ X,X=fol nm e m key (JT sg) (.slice none 0 0):=⟨_,rfl⟩
 have n0:=Vx (e:=e) (m:=m) (hv := .slice none 0 0) hn.len hk.len lpu
 have r1:Q4 32 F=u8s nm:=by rw [hF]; exact Ak hn.len
 have r3:Q4 32 (ZP 66 F)=u8s (JT sg):=by rw [hF]; exact eZ hn.len hk.len lpu
 have r4:F[32]?=some (.int .u32 e):=by rw [hF]; exact FF hn.len
 have r6:F[98]?=some (.slice none 0 0):=by rw [hF]; exact Rc hn.len hk.len lpu
 have r7:F.set 98 (.slice none 0 0)=F:=by rw [hF]; exact TD hn.len hk.len lpu
 rw [←hF] at n0 ⊢
 obtain ⟨sg1,hsg1⟩:∃ X,X=Ge sg (Xn nm e mi++dl):=⟨_,rfl⟩
 obtain ⟨fo,hfo⟩:∃ o:Ob,o=⟨[.int .i64 5,.slice (some ⟨ik,0,none⟩) 1 1,.slice (some ⟨ina,0,none⟩) 2 2,.slice (some ⟨is,0,none⟩) 1 1,v],true,true,true,1⟩:=⟨_,rfl⟩
 obtain ⟨H1,hH1⟩:∃ G,G=H++[(⟨F,true,true,true,1⟩:Ob),fo,⟨XB,true,true,true,1⟩]:=⟨_,rfl⟩
 have l1:H1.length=H.length+3:=by rw [hH1]; simp
 have at1:∀ j o,[(⟨F,true,true,true,1⟩:Ob),fo,⟨XB,true,true,true,1⟩][j]?=some o→H1[H.length+j]?=some o:=fun j o hj=>by rw [hH1,Qe (by omega),Qr]; exact hj
 have old1:∀ i,i<H.length→H1[i]?=H[i]? := fun i hi=>by rw [hH1,Qa hi]
 have m1:=h.ext old1
 obtain ⟨v0,k1,hen,-⟩:=Dc (k:=5) (m1.fr hdl)
 have hE:frE 5 [nm].length [e,mi].length [Ge sg (Xn nm e mi++dl)].length dl.length=0:=by
  show (if (1=1∧2=2∧1=1∧(true=true∨dl.length=0)) then (if 16384<dl.length then (2:Int) else 0) else 110)=0
  rw [if_pos (by simp),if_neg (by omega)]
 rw [hE] at hen
 obtain ⟨H2,hH2⟩:∃ G,G=H1++k1:=⟨_,rfl⟩
 rw [←hH2] at hen
 have l2:H1.length≤H2.length:=by rw [hH2,Qh]; omega
 have old2:∀ i,i<H1.length→H2[i]?=H1[i]? := fun i hi=>by rw [hH2,Qa hi]
 have m2:=m1.ext old2
 obtain ⟨v1,k2,hfr,o1⟩:=Eo (H:=H2) (ka := .slice (some ⟨ik,0,none⟩) 1 1) (na := .slice (some ⟨ina,0,none⟩) 2 2) (sa := .slice (some ⟨is,0,none⟩) 1 1) (da:=v) (nm:=nm) (e:=e) (m:=mi) (.inr ⟨_,1,_,_,_,rfl,m2.k,by rw [Qo,hn.len]⟩) (.inr ⟨_,2,_,_,_,rfl,m2.n,rfl⟩) hn.len
 have lfr:=BM e mi hn.len
 have xfr:=HZ e mi hn
 obtain ⟨H3,hH3⟩:∃ G,G=H2++k2:=⟨_,rfl⟩
 rw [←hH3] at hfr o1
 have l3:H2.length≤H3.length:=by rw [hH3,Qh]; omega
 have old3:∀ i,i<H2.length→H3[i]?=H2[i]? := fun i hi=>by rw [hH3,Qa hi]
 have m3:=m2.ext old3
 have p1:=o1.part xfr (by rw [lfr]; decide)
 obtain ⟨H4,hH4⟩:∃ G,G=H3++[(⟨[v1,v],true,true,true,1⟩:Ob)]:=⟨_,rfl⟩
 have l4:H4.length=H3.length+1:=by rw [hH4]; simp
 have old4:∀ i,i<H3.length→H4[i]?=H3[i]? := fun i hi=>by rw [hH4,Qa hi]
 have at4:H4[H3.length]?=some ⟨[v1,v],true,true,true,1⟩:=by rw [hH4,Qe (Ql _),Qu]; rfl
 have m4:=m3.ext old4
 have p2:=m3.d.part h.ld (by omega)
 obtain ⟨k3,c,hck,hsp⟩:=bh (H:=H4) (pub:=JT sg) (front:=frL sg (Xn nm e mi++dl)) (back:=bkL sg (Xn nm e mi++dl)) (pv := .slice (some ⟨H3.length,0,none⟩) 2 2) (ps:=[Xn nm e mi,dl]) lpu xpu (AD _ _) (Iz _ _) (AN _ _) (bu _ _) (Args.arr at4 rfl (.cons (p1.extK (fun i hi=>by have:i<H3.length:=hi; show i<_; omega) old4) (.cons (p2.extK (fun i hi=>by show i<_; omega) old4) .nil)) (by decide)) (by show 2≤1000; decide) (by simp [lfr]; omega)
 rw [show [Xn nm e mi,dl].flatten=Xn nm e mi++dl by simp] at hsp
 have hc:=cI hsp
 subst hc
 rw [show frL sg (Xn nm e mi++dl)++bkL sg (Xn nm e mi++dl)=sg1 by rw [hsg1]; rfl] at hck
 obtain ⟨H5,hH5⟩:∃ G,G=H4++k3:=⟨_,rfl⟩
 rw [←hH5] at hck
 have l5:H4.length≤H5.length:=by rw [hH5,Qh]; omega
 have old5:∀ i,i<H4.length→H5[i]?=H4[i]? := fun i hi=>by rw [hH5,Qa hi]
 obtain ⟨H6,hH6⟩:∃ G,G=H5++[(⟨F,true,true,true,1⟩:Ob)]:=⟨_,rfl⟩
 have l6:H6.length=H5.length+1:=by rw [hH6]; simp
 have old6:∀ i,i<H5.length→H6[i]?=H5[i]? := fun i hi=>by rw [hH6,Qa hi]
 have at6:H6[H5.length]?=some ⟨F,true,true,true,1⟩:=by rw [hH6,Qe (Ql _),Qu]; rfl
 have up6:∀ i,i<H3.length→H6[i]?=H3[i]? := fun i hi=>by rw [old6 i (by omega),old5 i (by omega),old4 i hi]
 have up61:∀ i,i<H1.length→H6[i]?=H1[i]? := fun i hi=>by rw [up6 i (by omega),old3 i (by omega),old2 i hi]
 have m6:Msg B H6 ik ina is v nm e mi _ dl:=m3.ext up6
 obtain ⟨z,hz,lz⟩:∃ z:List Nat,Qc 32 (Value.int .u8 0)=u8s z∧z.length=32:=⟨Qc 32 0,rfl,rfl⟩
 have g0:∀ L:List Ob,(H++[(⟨F,true,true,true,1⟩:Ob),fo,⟨XB,true,true,true,1⟩]++L)[H.length+1]?=some fo:=fun L=>by rw [Qy,Qe (by omega),Qr]; rfl
 have mk':=m2.k
 have mn':=m2.n
 have ms3:=m3.s
 have mn6:=m6.n
 rw [←hsg1] at ms3
 have lsg:sg1.length=64:=by rw [hsg1]; exact h.ls
 obtain ⟨av,cv,hvs⟩:=p2.shape
 obtain ⟨a1,c1,hv1⟩:=o1.shape
 rw [lfr] at hv1
 have w1:fillL [Value.slice none 0 0] [(0,1,v1)]=some [v1]:=by rw [hv1]; rfl
 have w2:fillL [Value.slice none 0 0,.slice none 0 0] [(0,1,v1),(1,1,v)]=some [v1,v]:=by rw [hv1,hvs]; rfl
 have cl5:∀ a b c d e':Value,Q4 5 [a,b,c,d,e']=[a,b,c,d,e']:=fun _ _ _ _ _=>rfl
 have tnm:Q4 32 (u8s nm)=u8s nm:=QA (by rw [Qo,hn.len])
 have tsg:Q4 64 (u8s sg1)=u8s sg1:=QA (by rw [Qo,lsg])
 have tpu:Q4 32 (u8s (JT sg))=u8s (JT sg):=QA (by rw [Qo,lpu])
 have hq:=Vs hn.len hn.len
 have q1:H1[H.length]?=some ⟨F,true,true,true,1⟩:=at1 0 _ rfl
 have q1f:H1[H.length+1]?=some fo:=at1 1 _ rfl
 have q2:H2[H.length]?=some ⟨F,true,true,true,1⟩:=(old2 _ (by omega)).trans q1
 have q2f:H2[H.length+1]?=some fo:=(old2 _ (by omega)).trans q1f
 have q3:H3[H.length]?=some ⟨F,true,true,true,1⟩:=(old3 _ (by omega)).trans q2
 have q3f:H3[H.length+1]?=some fo:=(old3 _ (by omega)).trans q2f
 have q5:H5[H.length]?=some ⟨F,true,true,true,1⟩:=by rw [old5 _ (by omega),old4 _ (by omega)]; exact q3
 have q6:H6[H.length]?=some ⟨F,true,true,true,1⟩:=(old6 _ (by omega)).trans q5
 have q6f:H6[H.length+1]?=some fo:=(up61 _ (by omega)).trans q1f
 have lzF:XB.length=99:=rfl
 have tF:Q4 99 F=F:=QA n0
 have spF:splice XB 0 F=F:=QV (by rw [n0,lzF])
 have a5:∀ o1 o:Ob,(H5++[o1]).set H5.length o=H5++[o]:=fun _ _=>by rw [Q7 _ _ (Ql _),Qu]; rfl
 have ss:=UA at6
 have a6:=at6
 have hcl:=@O5
 have ok1:∀ L:List Value,(Value.agg L.toArray).cells.toList=L:=fun _=>rfl
 have ok2:∀ L:List Value,(Value.agg L.toArray).cells.size=L.length:=fun _=>rfl
 have ok3:∀ L:List Value,okVar (Value.agg L.toArray)=true:=fun _=>rfl
 have im1:∀ j,Qx H.length [] [H5.length+j]=[]:=fun j=>QK (by simp; omega)
 have im0:Qx H.length [] [H5.length]=[]:=QK (by simp; omega)
 have im2:∀ j,Qx H.length [] [H.length+j]=[]:=fun j=>QK (by simp)
 have h1:=hH1.symm
 have h4:=hH4.symm
 have h6:=hH6.symm
 have hfoc:fo.cells=[.int .i64 5,.slice (some ⟨ik,0,none⟩) 1 1,.slice (some ⟨ina,0,none⟩) 2 2,.slice (some ⟨is,0,none⟩) 1 1,v]:=by rw [hfo]
 have hfol:fo.live=true:=by rw [hfo]
 have hfo':=hfo.symm
 have lnm:=hn.len
 have lfs:=hfo
 have tz:Q4 32 (u8s z)=u8s z:=QA (by rw [Qo,lz])
 have cls:okVar v=true∧v.cells.toList=[v]∧v.cells.size=1:=by rw [hvs]; exact ⟨rfl,rfl,rfl⟩
 obtain ⟨cv1,cv2,cv3⟩:=cls
 rcases Zw mi m with hlt | hge
 ·obtain ⟨k7,hky⟩:=eB (H:=H6) (id:=H5.length) (e:=e) (m:=m) (mi:=mi) (nm:=nm) (key:=key) (pub:=JT sg) (at6.trans (by rw [hF])) hn hk lpu hlt
  obtain ⟨H8,hH8⟩:∃ G,G=H6++k7++[(⟨u8s (Qc 32 0),true,true,true,1⟩:Ob)]:=⟨_,rfl⟩
  have up8:∀ i,i<H6.length→H8[i]?=H6[i]? := fun i hi=>by rw [hH8,Qy,Qa hi]
  have l8:H6.length≤H8.length:=by rw [hH8,Qy,Qh]; omega
  refine ⟨H8.set (H.length+2) ⟨F,true,true,true,1⟩,F,.slice none 0 0,151,?_,fun i hi => ?_,?_,.inl ⟨hlt,rfl,rfl,rfl⟩⟩
  rotate_left
  ·rw [Qn (by omega),up8 i (by omega),up61 i (by omega),old1 i hi]
  ·rw [Qp]; omega
  have e8:H8[H.length]?=some ⟨F,true,true,true,1⟩:=(up8 _ (by omega)).trans q6
  have e8z:H8[H.length+2]?=some ⟨XB,true,true,true,1⟩:=by rw [up8 _ (by omega),up61 _ (by omega)]; exact at1 2 _ rfl
  have e8s:∀ o,(H8.set (H.length+2) o)[H.length+2]?=some o:=fun o=>Qw (by omega)
  have a8:∀ o1 o:Ob,(H6++k7++[o1]).set (H6++k7).length o=H6++k7++[o]:=fun _ _=>by rw [Q7 _ _ (Ql _),Qu]; rfl
  have a8g:∀ o1:Ob,(H6++k7++[o1])[(H6++k7).length]?=some o1:=fun _=>by rw [Qe (Ql _),Qu]; rfl
  have h8:=hH8.symm
  obtain ⟨zz,hzz⟩:∃ x,x=Qc 32 0:=⟨_,rfl⟩
  have lzz:zz.length=32:=by rw [hzz]; rfl
  rw [←hzz] at hky h8
  have sz:=QV (cs:=u8s z) (v:=u8s zz) (by rw [Qo,Qo,lz,lzz])
  have im9:Qx H.length [] [(H6++k7).length]=[]:=QK (by simp; omega)
  generalize hG7:H6++k7=G7 at *
  clear hH1 hH2 hH3 hH4 hH5 hH6 hH8 hE hF hd hzz o1 p1 p2 m1 m2 m3 m4 m6 h hsp at1 at4 at6 old1 old2 old3 old4 old5 old6 up6 up61 up8 hsg1 hn hk hs hX hKb xpu xfr xd hfo
  generalize JT sg=pub at *
  rw [QG (fn:=bM) rfl]
  simp only [bM,Q1,quiet,cW,↓pW,reduceCtorEq,seval,-Qb,r1,r3,r4,r6,r7,hen,hfr,hck,hky,hcl,hz,lz,g0,mk',mn',ms3,mn6,w1,w2,cl5,tnm,tsg,tpu,hq,q1,q1f,q2,q2f,q3,q3f,q5,q6,q6f,lzF,tF,spF,a5,a6,ss,ok1,ok2,ok3,im0,im1,im2,h1,h4,h6,hfoc,hfol,hfo',lnm,lsg,lpu,tz,cv1,cv2,cv3,e8,e8z,e8s,a8,a8g,h8,lzz,sz,im9,n0,QA,QW,Zb,ZT,Zc,Qo,Qm,Qp,ZX,Ay]
 ·obtain rfl:mi=m:=by omega
  obtain ⟨hdd,htl,xt⟩:=hd rfl
  obtain ⟨H7,M7,hky,b1,b2,b3,b4⟩:=eC (H:=H6) (id:=H5.length) (e:=e) (m:=mi) (nm:=nm) (key:=key) (pub:=JT sg) (at6.trans (by rw [hF])) hn hk lpu hm
  obtain ⟨F',hF'⟩:∃ X,X=fol nm e (mi+1) ((nxK nm key).drop 32) (JT sg) (.slice none 0 0):=⟨_,rfl⟩
  have n1:=Vx (e:=e) (m:=mi+1) (hv := .slice none 0 0) hn.len hX.len lpu
  rw [←hF'] at b1 n1 ⊢
  have tF':Q4 99 F'=F':=QA n1
  have spF':splice XB 0 F'=F':=QV (by rw [n1,lzF])
  have hbx:=LL hKb
  have xA:=IA hKb
  have xB:=AM (YT nm key)
  obtain ⟨H9,hH9⟩:∃ G,G=H7++[(⟨u8s (YT nm key),true,true,true,1⟩:Ob),⟨[v1],true,true,true,1⟩]:=⟨_,rfl⟩
  have l9:H9.length=H7.length+2:=by rw [hH9]; simp
  have up9:∀ i,i<H7.length→H9[i]?=H7[i]? := fun i hi=>by rw [hH9,Qa hi]
  have up96:∀ i,i<H5.length→H9[i]?=H6[i]? := fun i hi=>by rw [up9 i (by omega),b2 i (by omega) (by omega)]
  have up93:∀ i,i<H3.length→H9[i]?=H3[i]? := fun i hi=>by rw [up96 i (by omega),up6 i hi]
  have e9v:H9[H7.length+1]?=some ⟨[v1],true,true,true,1⟩:=by rw [hH9,Qe (by omega),Qr]; rfl
  obtain ⟨di,dof,dc,dob,rfl,d1,d2,d3,d4,-⟩:=(m3.ext up93).d
  have hdd2:dl=YL (Bi (YT nm key)) (Bh (YT nm key)) tx [Xn nm e mi].flatten:=by rw [hdd]; simp [msgD]
  obtain ⟨v2,H10,M10,hop,c1',c2',c3',c4'⟩:=dE (H:=H9) (id:=di) (off:=dof) (c:=dc) (d:=tx) (pv := .slice (some ⟨H7.length+1,0,none⟩) 1 1) (xs:=[v1]) (ps:=[Xn nm e mi]) xA hbx.2.1 xB (by rw [←hdd2]; exact d1) xt (by omega) (.inr ⟨_,0,1,_,rfl,by omega,e9v,rfl,fun i hi=>by rw [QC]⟩) (.cons (p1.extK (fun i hi=>by have:i<H3.length:=hi; omega) up93) .nil) (by show 1<2^50; decide) (by simp [lfr]) (by rw [←hdd2]; exact d2) (fun o ho=>by rw [d3] at ho; cases ho; exact .inr (.inr (Nat.le_of_eq d4.symm)))
  rw [←hdd2] at hop
  have u10:∀ i,i<H.length→H10[i]?=H[i]? := fun i hi=>by rw [c2' i (by omega),up93 i (by omega),old3 i (by omega),old2 i (by omega),old1 i hi]
  refine ⟨H10.set (H.length+2) ⟨F',true,true,true,1⟩,F',v2,0,?_,fun i hi => ?_,?_,.inr ⟨rfl,rfl,rfl,?_⟩⟩
  rotate_left
  ·rw [Qn (by omega),u10 i hi]
  ·rw [Qp]; omega
  ·have ho:OutS (fun i=>i<H9.length) (H10.set (H.length+2) ⟨F',true,true,true,1⟩) v2 tx:=OutS.setK (.inr c1') (by show _<_; omega) _
   exact ho.toK fun i hi h'=>hi (show i<H9.length by have:i<H.length:=h'; omega)
  have e9a:H7[H.length+1]?=some fo:=by rw [b2 _ (by omega) (by omega)]; exact q6f
  have e9b:∀ L:List Ob,(H7++L)[H.length+1]?=some fo:=fun L=>by rw [Qa (by omega)]; exact e9a
  have e9c:∀ o:Ob,(H7++[o])[H7.length]?=some o:=fun o=>by rw [Qe (Ql _),Qu]; rfl
  have a9:∀ o1 o:Ob,(H7++[o1]).set H7.length o=H7++[o]:=fun _ _=>by rw [Q7 _ _ (Ql _),Qu]; rfl
  have e10:H10[H5.length]?=some ⟨F',true,true,true,1⟩:=by rw [c2' _ (by omega),up9 _ (by omega)]; exact b1
  have e10z:H10[H.length+2]?=some ⟨XB,true,true,true,1⟩:=by rw [c2' _ (by omega),up96 _ (by omega),up61 _ (by omega)]; exact at1 2 _ rfl
  have e10s:∀ o,(H10.set (H.length+2) o)[H.length+2]?=some o:=fun o=>Qw (by omega)
  have im7:Qx H.length [] M7=[]:=QK fun i hi=>by have:=b4 i hi; omega
  have im10:Qx H.length [] M10=[]:=QK fun i hi=>by have:=c4' i hi; omega
  have im9:Qx H.length [] [H7.length]=[]:=QK (by simp; omega)
  have h9:=hH9.symm
  have hbv:=hbx.2.2
  have lAB:(Bi (YT nm key)++Bh (YT nm key)).length=44:=by rw [Qh,hbx.1,hbx.2.1]
  have lK:=hKb.len
  generalize Bi (YT nm key)++Bh (YT nm key)=AB at *
  generalize YT nm key=K at *
  have sK:=QV (cs:=u8s z) (v:=u8s K) (by rw [Qo,Qo,lz,lK])
  have tK:Q4 32 (u8s K)=u8s K:=QA (by rw [Qo,lK])
  clear hH1 hH2 hH3 hH4 hH5 hH6 hH9 hE hF hF' hd hdd hdd2 o1 p1 p2 m1 m2 m3 m4 m6 h hsp at1 at4 at6 old1 old2 old3 old4 old5 old6 up6 up61 up9 up96 up93 hsg1 hn hk hs hX hKb xpu xfr xd hfo b1 b2 b3 b4 c1' c2' c3' c4' d1 d2 d3 d4 xA xB hbx xt u10 e9v e9a hle hge
  generalize JT sg=pub at *
  rw [QG (fn:=bM) rfl]
  simp only [bM,Q1,quiet,cW,↓pW,reduceCtorEq,seval,-Qb,r1,r3,r4,r6,r7,hen,hfr,hck,hky,hop,hbv,hcl,hz,lz,g0,mk',mn',ms3,mn6,w1,w2,cl5,tnm,tsg,tpu,hq,q1,q1f,q2,q2f,q3,q3f,q5,q6,q6f,lzF,tF,spF,tF',spF',a5,a6,ss,ok1,ok2,ok3,im0,im1,im2,im7,im9,im10,h1,h4,h6,h9,hfoc,hfol,hfo',lnm,lsg,lpu,tz,cv1,cv2,cv3,e9b,e9c,a9,e10,e10z,e10s,lAB,lK,sK,tK,n0,n1,QA,QW,Zb,ZT,Zc,Qo,Qm,Qp,ZX,Ay]
def InvD (X0 X:List Ob):Prop:=X0.length≤X.length∧∀ i,i<X0.length→X[i]?=X0[i]?
theorem InvD.refl (X:List Ob):InvD X X:=⟨Ql _,fun _ _=>rfl⟩
theorem InvD.app {X0 X m:List Ob} (h:InvD X0 X):InvD X0 (X++m):=⟨by rw [Qh]; have:=h.1; omega,fun i hi=>by rw [Qa (by have:=h.1; omega)]; exact h.2 i hi⟩
theorem InvD.get {X0 X:List Ob} (h:InvD X0 X) {i:Nat} {o:Ob} (ho:X0[i]?=some o):X[i]?=some o:=(h.2 i (Qf.1 ho).1).trans ho
structure Bx (B:Nat) (X0:List Ob) (k:Int) (ka na sa da:Value):Prop where
 ob:X0[B]?=some ⟨[.int .i64 k,ka,na,sa,da],true,true,true,1⟩
structure Two (X:List Ob) (B:Nat) (k:Int) (ka na sa da kb nb sb db:Value):Prop where
 a:X[B]?=some ⟨[.int .i64 k,ka,na,sa,da],true,true,true,1⟩
 b:X[B+1]?=some ⟨[.int .i64 k,kb,nb,sb,db],true,true,true,1⟩
theorem Rx {X:List Ob} {l:List Nat} (h:DPart H v l) (hg:∀ i,i<H.length→X[i]?=H[i]?):Ft X v=some (DA l):=by
 have h1:=h.reads X hg
 obtain ⟨a,c,e⟩:=h.shape
 rw [e,Pk,←e,h1,Qk,ER,Qk]; rfl
def Mn:List Nat:=[116,101,120,116]
theorem kD (n:Nat):B32 (kE n):=⟨A4 n,kE_lt n⟩
theorem PH {tl:List Nat}:rf (.agg (plc nm e m key (u8s tl)).toArray)=true:=by
 simp [rf,YM,plc,u8s,Zr]
theorem dr:Z5 T 16 []=some (.bool true):=by
 have hn:=kD 1
 have hk:=kD 3
 have hs:=kD 4
 have hz:Qc 32 (Value.int .u8 0)=u8s zK:=rfl
 have lz:=OJ
 have f1:fillL (u8s zK) [(0,1,.int .u8 1)]=some (u8s (kE 1)):=rfl
 have f3:fillL (u8s zK) [(0,1,.int .u8 3)]=some (u8s (kE 3)):=rfl
 have f4:fillL (u8s zK) [(0,1,.int .u8 4)]=some (u8s (kE 4)):=rfl
 have ft:fillL [Value.int .u8 0,.int .u8 0,.int .u8 0,.int .u8 0] [(0,1,.int .u8 116),(1,1,.int .u8 101),(2,1,.int .u8 120),(3,1,.int .u8 116)]=some (u8s Mn):=rfl
 have hst:Z5 T 28 [.agg (u8s (kE 1)).toArray,.int .u32 2,.agg (u8s (kE 3)).toArray,.agg (u8s (kE 4)).toArray]=_:=IX (e:=2) hn.len hk.len hs.len
 have lpu:=YO (kE 4)
 have hX:=Lr (kE 1) (kE 3)
 obtain ⟨S,hS⟩:∃ X,X=plc (kE 1) 2 0 (kE 3) (u8s (kE 4)):=⟨_,rfl⟩
 have n0:=JD (e:=2) (m:=0) (tl:=u8s (kE 4)) hn.len hk.len
 rw [Qo,hs.len,←hS] at n0
 rw [←hS] at hst
 obtain ⟨H1,hH1⟩:∃ G,G=[(⟨S,true,true,true,1⟩:Ob)]:=⟨_,rfl⟩
 have hsh:=Ms (H:=H1) (e:=2) (m:=0) hn.len hk.len hs
 rw [←hS] at hsh
 have F:=iD (H:=H1) (nm:=kE 1) (key:=kE 3) (sg:=kE 4) (pub:=JT (kE 4)) (e:=2) (m:=0) hn.len hk.len lpu
 obtain ⟨P1,hP1⟩:∃ G,G=H1++DB (kE 1) (kE 3) (kE 4) (JT (kE 4)) 2 0 H1.length:=⟨_,rfl⟩
 rw [←hP1] at hsh F
 obtain ⟨k1,hfo⟩:=TC F
 obtain ⟨W,hW⟩:∃ X,X=fol (kE 1) 2 0 (kE 3) (JT (kE 4)) (.slice none 0 0):=⟨_,rfl⟩
 rw [show plc (kE 1) 2 0 (kE 3) (u8s (JT (kE 4))++[.slice none 0 0])=fol (kE 1) 2 0 (kE 3) (JT (kE 4)) (.slice none 0 0) from rfl,←hW] at hfo
 have w0:=Vx (e:=2) (m:=0) (hv := .slice none 0 0) hn.len hk.len lpu
 rw [←hW] at w0
 obtain ⟨P2,hP2⟩:∃ G,G=P1++k1:=⟨_,rfl⟩
 rw [←hP2] at hfo
 have lP2:1≤P2.length:=by rw [hP2,hP1,hH1]; simp [DB]
 have p2s:P2[0]?=some ⟨S,true,true,true,1⟩:=by rw [hP2,hP1,hH1]; rfl
 obtain ⟨H3,hH3⟩:∃ G,G=P2++[(⟨W,true,true,true,1⟩:Ob),⟨u8s Mn,true,true,true,1⟩]:=⟨_,rfl⟩
 have l3:H3.length=P2.length+2:=by rw [hH3]; simp
 have h3t:H3[P2.length+1]?=some ⟨u8s Mn,true,true,true,1⟩:=by rw [hH3,Qe (by omega),Qr]; rfl
 have h3w:H3[P2.length]?=some ⟨W,true,true,true,1⟩:=by rw [hH3,Qe (Ql _),Qu]; rfl
 have h3s:H3[0]?=some ⟨S,true,true,true,1⟩:=by rw [hH3,Qa (by omega)]; exact p2s
 obtain ⟨ik,ina,is,v,H4,hse,m4,o4,l4⟩:=EH (H:=H3) (e:=2) (m:=0) (tv := .slice (some ⟨P2.length+1,0,none⟩) 4 4) hn hk hs (by decide) (HPart.whole (by omega) h3t (by decide) (by decide)) (by decide)
 obtain ⟨S',hS'⟩:∃ X,X=plc (kE 1) 2 (0+1) ((nxK (kE 1) (kE 3)).drop 32) (u8s (kE 4)):=⟨_,rfl⟩
 have n1:=JD (e:=2) (m:=0+1) (tl:=u8s (kE 4)) hn.len hX.len
 rw [Qo,hs.len,←hS'] at n1
 rw [←hS,←hS'] at hse
 have hnum1:S'[33]?=some (.int .u32 1):=by rw [hS']; exact Vv hn.len
 obtain ⟨fo,hfoo⟩:∃ o:Ob,o=⟨[.int .i64 5,.slice (some ⟨ik,0,none⟩) 1 1,.slice (some ⟨ina,0,none⟩) 2 2,.slice (some ⟨is,0,none⟩) 1 1,v],true,true,true,1⟩:=⟨_,rfl⟩
 obtain ⟨H5,hH5⟩:∃ G,G=(H4.set 0 (⟨S',true,true,true,1⟩:Ob))++[fo]:=⟨_,rfl⟩
 have l5:H5.length=H4.length+1:=by rw [hH5]; simp
 have o5:∀ i,i<H4.length→i≠0→H5[i]?=H4[i]? := fun i hi hne=>by rw [hH5,Qa (by rw [Qp]; exact hi),Qn (Ne.symm hne)]
 have m5:=m4.keep (G:=H5) fun i o hb ho _=>(o5 i (Qf.1 ho).1 (by omega)).trans ho
 have hD:=Az (nm:=kE 1) (key:=kE 3) (tx:=Mn) 2 0 hn (by decide) (by decide)
 have ltx:Mn.length=4:=rfl
 obtain ⟨H6,r6,v6,c6,hop,o6,l6,q6⟩:=Ro (H:=H5) (key:=kE 3) (m:=0) (tx:=Mn) m5 hk hs (by omega) hD.2 (by decide) (Ql _) (fun _=>⟨rfl,by decide,by decide⟩)
 rcases q6 with ⟨h,-⟩ | ⟨-,rfl,rfl,q6⟩
 ·exact absurd h (Nat.lt_irrefl _)
 rw [←hW] at hop
 obtain ⟨W',hW'⟩:∃ X,X=fol (kE 1) 2 (0+1) ((nxK (kE 1) (kE 3)).drop 32) (JT (kE 4)) (.slice none 0 0):=⟨_,rfl⟩
 have w1:=Vx (e:=2) (m:=0+1) (hv := .slice none 0 0) hn.len hX.len lpu
 rw [←hW'] at w1 hop
 obtain ⟨H7,hH7⟩:∃ G,G=H6++[(⟨W',true,true,true,1⟩:Ob)]:=⟨_,rfl⟩
 have l7:H7.length=H6.length+1:=by rw [hH7]; simp
 have o7:∀ i,i<H6.length→H7[i]?=H6[i]? := fun i hi=>by rw [hH7,Qa hi]
 have m7:=(m5.ext o6).ext o7
 obtain ⟨H8,r8,v8,c8,hop2,o8,l8,q8⟩:=Ro (H:=H7) (key:=(nxK (kE 1) (kE 3)).drop 32) (m:=1) (tx:=[]) m7 hX hs (by omega) hD.2 (by decide) (by decide) (fun h=>absurd h (by decide))
 rcases q8 with ⟨-,rfl,rfl,rfl⟩ | ⟨h,-⟩
 rotate_left
 ·exact absurd h (by decide)
 rw [show fol (kE 1) 2 1 ((nxK (kE 1) (kE 3)).drop 32) (JT (kE 4)) (.slice none 0 0)=W' from hW'.symm] at hop2
 have o78:∀ i,i<H7.length→(H8++[(⟨W',true,true,true,1⟩:Ob)])[i]?=H7[i]? := fun i hi=>by rw [Qa (by omega),o8 i hi]
 have t6:=(((q6.ext o7).ext o78).part (by decide) (by decide))
 have hb2:Ft (H8++[(⟨W',true,true,true,1⟩:Ob)]) v6=some (.string (ByteArray.mk #[116,101,120,116])):=Rx ⟨t6.shape,t6.reads⟩ fun i hi=>rfl
 obtain ⟨H9,hH9⟩:∃ G,G=H8++[(⟨W',true,true,true,1⟩:Ob)]:=⟨_,rfl⟩
 rw [←hH9] at hb2 o78
 have up95:∀ i,i<H5.length→H9[i]?=H5[i]? := fun i hi=>by rw [o78 i (by omega),o7 i (by omega),o6 i hi]
 have g1:H1[0]?=some ⟨S,true,true,true,1⟩:=by rw [hH1]; rfl
 have a1:∀ o o':Ob,[o].set 0 o'=[o']:=fun _ _=>rfl
 have g2:∀ L:List Ob,(P2++L)[0]?=some ⟨S,true,true,true,1⟩:=fun L=>by rw [Qa (by omega)]; exact p2s
 have a2:∀ o o':Ob,(P2++[o]).set P2.length o'=P2++[o']:=fun _ _=>by rw [Q7 _ _ (Ql _),Qu]; rfl
 have a2g:∀ o:Ob,(P2++[o])[P2.length]?=some o:=fun _=>by rw [Qe (Ql _),Qu]; rfl
 have g4:∀ o:Ob,(H4++[o])[0]?=some ⟨S,true,true,true,1⟩:=fun o=>by rw [Qa (by omega),o4 _ (by omega)]; exact h3s
 have a4:∀ o o':Ob,(H4++[o]).set 0 o'=H4.set 0 o'++[o]:=fun _ _=>List.set_append_left _ _ (by omega)
 have a4g:∀ o o':Ob,(H4.set 0 o++[o'])[H4.length]?=some o':=fun _ _=>by rw [Qe (by rw [Qp]; exact Ql _),Qp,Qu]; rfl
 have a4s:∀ o o' o2:Ob,(H4.set 0 o++[o']).set H4.length o2=H4.set 0 o++[o2]:=fun _ _ _=>by rw [Q7 _ _ (by rw [Qp]; exact Ql _),Qp,Qu]; rfl
 have g5w:H5[P2.length]?=some ⟨W,true,true,true,1⟩:=by rw [o5 _ (by omega) (by omega),o4 _ (by omega)]; exact h3w
 have g5f:H5[H4.length]?=some fo:=by rw [hH5,Qe (by rw [Qp]; exact Ql _),Qp,Qu]; rfl
 have g5s:H5[0]?=some ⟨S',true,true,true,1⟩:=by rw [hH5,Qa (by rw [Qp]; omega),Qw (by omega)]
 have a6:∀ o o':Ob,(H6++[o]).set H6.length o'=H6++[o']:=fun _ _=>by rw [Q7 _ _ (Ql _),Qu]; rfl
 have a6g:∀ o:Ob,(H6++[o])[H6.length]?=some o:=fun _=>by rw [Qe (Ql _),Qu]; rfl
 have g7w:H7[H6.length]?=some ⟨W',true,true,true,1⟩:=by rw [hH7,Qe (Ql _),Qu]; rfl
 have g7f:H7[H4.length]?=some fo:=by rw [o7 _ (by omega),o6 _ (by omega)]; exact g5f
 have a8:∀ o o':Ob,(H8++[o]).set H8.length o'=H8++[o']:=fun _ _=>by rw [Q7 _ _ (Ql _),Qu]; rfl
 have a8g:∀ o:Ob,(H8++[o])[H8.length]?=some o:=fun _=>by rw [Qe (Ql _),Qu]; rfl
 have g9s:H9[0]?=some ⟨S',true,true,true,1⟩:=(up95 0 (by omega)).trans g5s
 have g9w:H9[P2.length]?=some ⟨W,true,true,true,1⟩:=(up95 _ (by omega)).trans g5w
 have g9v:H9[H6.length]?=some ⟨W',true,true,true,1⟩:=(o78 _ (by omega)).trans g7w
 have nW:W[33]?=some (.int .u32 0):=by rw [hW]; exact Vv hn.len
 have nW':W'[33]?=some (.int .u32 1):=by rw [hW']; exact Vv hn.len
 have lzs:Ky.length=98:=rfl
 have lzf:Xa.length=5:=rfl
 have lzo:XB.length=99:=rfl
 have s1:splice Ky 0 S=S:=QV (by rw [n0,lzs])
 have s2:splice XB 0 W=W:=QV (by rw [w0,lzo])
 have s3:splice S 0 S'=S':=QV (by rw [n0,n1])
 have s4:splice XB 0 W'=W':=QV (by rw [w1,lzo])
 have sp5:∀ (a b c d e':Value),splice Xa 0 [a,b,c,d,e']=[a,b,c,d,e']:=fun _ _ _ _ _=>rfl
 have cl5:∀ a b c d e':Value,Q4 5 [a,b,c,d,e']=[a,b,c,d,e']:=fun _ _ _ _ _=>rfl
 have t1:Q4 98 S=S:=QA n0
 have t2:Q4 99 W=W:=QA w0
 have t4:Q4 99 W'=W':=QA w1
 have hfc:fo.cells=[.int .i64 5,.slice (some ⟨ik,0,none⟩) 1 1,.slice (some ⟨ina,0,none⟩) 2 2,.slice (some ⟨is,0,none⟩) 1 1,v]:=by rw [hfoo]
 have hfl:fo.live=true:=by rw [hfoo]
 have hfo2:=hfoo.symm
 have ok1:∀ L:List Value,(Value.agg L.toArray).cells.toList=L:=fun _=>rfl
 have ok2:∀ L:List Value,(Value.agg L.toArray).cells.size=L.length:=fun _=>rfl
 have ok3:∀ L:List Value,okVar (Value.agg L.toArray)=true:=fun _=>rfl
 have l1:=A4 1
 have l2:=A4 3
 have l3':=A4 4
 have r1:rf (.agg S.toArray)=true:=by rw [hS]; exact PH
 have h1:=hH1.symm
 have h3:=hH3.symm
 have h5:=hH5.symm
 have h7:=hH7.symm
 have h9:=hH9.symm
 clear hH1 hP1 hP2 hH3 hH5 hH7 hH9 hS hW hS' hW' F m4 m5 m7 o4 o5 o6 o7 o8 o78 up95 q6 t6 hfoo hn hk hs hX hD h3w h3s p2s
 simp only [Ay] at hse hop hop2
 generalize kE 1=K1,kE 3=K3,kE 4=K4 at *
 generalize Mn=tx at *
 apply ZG (fn:=my) rfl
 simp only [my,Q1,quiet,cW,↓pW,reduceCtorEq,seval,-Qb,hz,lz,f1,f3,f4,ft,hst,hsh,hfo,hse,hop,hop2,hb2,h3t,g1,a1,g2,a2,a2g,g4,a4,a4g,a4s,g5w,g5f,a6,a6g,g7w,g7f,a8,a8g,g9s,g9w,g9v,nW,nW',hnum1,lzs,lzf,lzo,s1,s2,s3,s4,sp5,cl5,t1,t2,t4,hfc,hfl,hfo2,ok1,ok2,ok3,l1,l2,l3',n0,n1,w0,w1,h1,h3,h5,h7,h9,ltx,r1,QA,QW,Zb,ZT,Zc,Qo,Qm,Qp,ZX,Ay]
 rfl
end Go.Ev.YtomfgcgnepfmjaaGreat
namespace Go.Ev.YtomfgcgnepfmjaaGreat
open Go Go.Ev
set_option maxRecDepth 100000
def keyN (nm key:List Nat):Nat→List Nat
 | 0=>key
 | i+1=>(nxK nm (keyN nm key i)).drop 32
theorem BL {nm key:List Nat} (hk:B32 key):∀ i,B32 (keyN nm key i)
 | 0=>hk
 | i+1=>Lr _ _
def Frs (B:Nat) (G:List Ob) (v:Value) (k:Nat) (t:List Value):Prop:=(k=0∧v=.slice none 0 0∧t=[])∨∃ id,v=.slice (some ⟨id,0,none⟩) k k∧B≤id∧G[id]?=some ⟨t,true,true,false,5⟩∧t.length=5*k∧0<k
theorem Frs.keep {B k:Nat} {G G':List Ob} {v:Value} {t:List Value} (h:Frs B G v k t) (hg:∀ i o,B≤i→G[i]?=some o→o.es=5→G'[i]?=some o):Frs B G' v k t:=by
 rcases h with h | ⟨id,h1,h2,h3,h4⟩
 ·exact .inl h
 ·exact .inr ⟨id,h1,h2,hg id _ h2 h3 rfl,h4⟩
theorem Ix {B k:Nat} {G:List Ob} {v:Value} {t q:List Value} (h:Frs B G v k t) (hB:B≤G.length) (lq:q.length=5) (hk:k≤300) :
  ∃ v' G' M,ZD 5 104 (G++[⟨q,true,true,true,1⟩]) v (.slice (some ⟨G.length,0,none⟩) 1 1)=some (v',G',none,M)∧Frs B G' v' (k+1) (t++q)∧(∀ i∈M,B≤i)∧G.length≤G'.length∧(∀ i,i<B→G'[i]?=G[i]?)∧∀ (i:Nat) (o:Ob),G[i]?=some o→o.es=1→G'[i]?=some o:=by
 have hx:(G++[(⟨q,true,true,true,1⟩:Ob)])[G.length]?=some ⟨q,true,true,true,1⟩:=by rw [Qe (Ql _),Qu]; rfl
 have he:elemsOf (G++[(⟨q,true,true,true,1⟩:Ob)]) 5 1 (.slice (some ⟨G.length,0,none⟩) 1 1)=some q:=by
  simp [elemsOf,Zl hx rfl,lq]
  exact Qs (by rw [lq]; exact Ql _)
 have hl:Go.Ev.lenV (.slice (some ⟨G.length,0,none⟩) 1 1)=some 1:=rfl
 have h1:¬ (1:Nat)=0:=by decide
 rcases h with ⟨rfl,rfl,rfl⟩ | ⟨id,rfl,h2,h3,h4,h5⟩
 ·refine ⟨.slice (some ⟨(G++[(⟨q,true,true,true,1⟩:Ob)]).length,0,none⟩) 1 1,(G++[(⟨q,true,true,true,1⟩:Ob)])++[Ob.grown 5 q],[],?_,.inr ⟨_,rfl,by simp; omega,by rw [Qe (Ql _),Qu]; rfl,by simpa using lq,by decide⟩,by simp,by simp,fun i hi => ?_,fun i o ho _ => ?_⟩
  ·have h2:(0+1)*104≤2^47∧0<104∧0<5:=by decide
   simp only [ZD,hl,he,Qk,if_neg h1,h2,and_self,not_true_eq_false,if_false,if_true]
  ·rw [Qy,Qa (by omega)]
  ·rw [Qy,Qa (Qf.1 ho).1]; exact ho
 ·have hid:id<G.length:=(Qf.1 h3).1
  have h3':(G++[(⟨q,true,true,true,1⟩:Ob)])[id]?=some ⟨t,true,true,false,5⟩:=by rw [Qa hid]; exact h3
  refine ⟨.slice (some ⟨(G++[(⟨q,true,true,true,1⟩:Ob)]).length,0,none⟩) (k+1) (k+1),((G++[(⟨q,true,true,true,1⟩:Ob)]).set id Ob.dead)++[Ob.grown 5 (t++q)],[id],?_,.inr ⟨_,rfl,by simp; omega,by rw [Qe (by rw [Qp]; exact Ql _),Qp,Qu]; simp [Ob.grown],by rw [Qh,h4,lq]; omega,by omega⟩,by simpa using h2,by simp; omega,fun i hi => ?_,fun i o ho hes => ?_⟩
  ·have h2:(k+1)*104≤2^47∧0<104∧0<5:=⟨by omega,by decide,by decide⟩
   have h7:¬ (k+1≤k):=by omega
   have h8:elemsOf (G++[(⟨q,true,true,true,1⟩:Ob)]) 5 k (.slice (some ⟨id,0,none⟩) k k)=some t:=by
    simp [elemsOf,Zl h3' rfl,h4]
    refine ⟨by omega,Qs (by rw [h4]; omega)⟩
   simp only [ZD,hl,he,Qk,if_neg h1,h2,and_self,not_true_eq_false,if_false,if_true,Zl h3' rfl,h8,if_neg h7,Zh,Ql]
  ·rw [Qa (by rw [Qp,Qh]; omega),Qn (by omega),Qa (by omega)]
  ·have hio:=(Qf.1 ho).1
   have hne:id≠i:=fun e=>by
    subst e
    rw [h3] at ho
    cases ho
    cases hes
   rw [Qa (by rw [Qp,Qh]; omega),Qn hne,Qa hio]; exact ho
theorem E0 {α:Type} {n:Nat}:∀ {L:List (List α)} {i:Nat} {P:List α},(∀ x∈L,x.length=n)→L[i]?=some P→Q4 n (ZP (i*n) L.flatten)=P∧i*n+n≤L.flatten.length
 | [],i,P,_,h=>by simp at h
 | x::L,0,P,hL,h=>by
  simp at h
  subst h
  have:=hL x (by simp)
  exact ⟨by rw [Nat.zero_mul,JL,QI,Xj this],by rw [QI,Qh]; omega⟩
 | x::L,i+1,P,hL,h=>by
  have lx:=hL x (by simp)
  obtain ⟨h1,h2⟩:=E0 (fun y hy=>hL y (YD _ hy)) (L:=L) (i:=i) (P:=P) (by simpa using h)
  refine ⟨?_,by rw [QI,Qh,Hr]; omega⟩
  rw [QI,Hr,Xv,←XF,X2 lx,h1]
def TN (H0:List Ob) (n:Nat) (pv:Value) (i:Nat) (tx:List Nat):Prop:=∃ o rv tv L,pv=.slice (some ⟨0,0,none⟩) n n∧H0[0]?=some o∧o.live=true∧o.cells[i]?=some rv∧vLen false rv=some (.int .i64 (L:Nat))∧(∀ G:List Ob,(∀ j,j<H0.length→G[j]?=H0[j]?)→vSliceSl G 1 none (some (.int .i64 (tx.length:Nat))) none rv=some tv)∧HPart (LtN H0.length) H0 tv tx∧tx.length=min L 100
theorem iG {len:Nat} {A:Nat→Option Addr} {L:Nat→Nat} {B:Nat→List Nat} (h0:∀ r,r<len→A r=none→L r=0) (hl:∀ r,r<len→(B r).length=L r) (hx:∀ r,r<len→∀ x∈B r,x<256) {i:Nat} (hi:i<len) :
  TN (VD len A L B) len (.slice (some ⟨0,0,none⟩) len len) i ((B i).take 100):=by
 have hlen:(VD len A L B).length=len+1:=by simp [VD]
 have lt:((B i).take 100).length=min (L i) 100:=by rw [Q5,hl i hi,Nat.min_comm]
 have hc:∀ rv,DC A L i=rv→((Jn len).map (DC A L))[i]?=some rv:=fun rv h=>by simp [hi,h]
 have hH:(VD len A L B)[0]?=some ⟨(Jn len).map (DC A L),true,false,false,1⟩:=rfl
 cases hA:A i with
 | none =>
  have hL:=h0 i hi hA
  have hB:B i=[]:=Zn (by rw [hl i hi,hL])
  refine ⟨_,.slice none 0 0,.slice none 0 0,0,rfl,hH,rfl,hc _ (by unfold DC; rw [hA]),rfl,fun G hG => ?_,?_,by rw [lt,hL]⟩
  ·rw [lt,hL]; rfl
  ·rw [hB]
   exact ⟨⟨_,_,rfl⟩,fun _ _=>rfl,by simp,by decide⟩
 | some a =>
  refine ⟨_,.slice (some ⟨i+1,0,none⟩) (L i) (L i),.slice (some ⟨i+1,0,none⟩) (min (L i) 100) (L i),L i,rfl,hH,rfl,hc _ (by unfold DC; rw [hA]),rfl,fun G hG => ?_,?_,lt⟩
  ·have hg:liveAt G (i+1)=some (ob8 (B i)):=by rw [liveAt,hG (i+1) (by omega),HK hi]; rfl
   have hb:ZC (L i) (L i) none (some (.int .i64 (min (L i) 100:Nat))) none=some (0,min (L i) 100,L i):=by
    rw [JO,show XC (some (.int .i64 (min (L i) 100:Nat))) (L i) (L i)=some (min (L i) 100) from JZ (by omega),Qk,Ke]; rfl
   rw [lt,VP,hb,Qk,hg,Qk]
   simp [gate,ob8]
  ·have hp:=HPart.arr (n:=(VD len A L B).length) (id:=i+1) (off:=0) (m:=min (L i) 100) (c:=L i) (b:=B i) (H:=VD len A L B) (by omega) (HK hi) (hx i hi) (by rw [hl i hi]; omega) (by omega)
   rw [JL] at hp
   have e:(B i).take (min (L i) 100)=(B i).take 100:=by
    rcases Nat.le_total (L i) 100 with h | h
    ·rw [QZ h,Qs (by rw [hl i hi]; exact Ql _),Qs (by rw [hl i hi]; exact h)]
    ·rw [Fc h]
   rwa [e] at hp
end Go.Ev.YtomfgcgnepfmjaaGreat
namespace Go.Ev.YtomfgcgnepfmjaaGreat
open Go Go.Ev
attribute [local congr] Jq J7 Jp J8 Jd
set_option maxRecDepth 100000
variable {H0 G G2:List Ob} {nm key sg:List Nat} {pv fv:Value} {sh:List Value} {f n i k:Nat}
def mcell (x:Nat×Nat×Nat×Value):List Value:=[.int .i64 5,.slice (some ⟨x.1,0,none⟩) 1 1,.slice (some ⟨x.2.1,0,none⟩) 2 2,.slice (some ⟨x.2.2.1,0,none⟩) 1 1,x.2.2.2]
def Shr (nm kf sg:List Nat) (b f:Nat) (G:List Ob) (sh:List Value):Prop:=∃ p,sh=[.int .i64 4,.slice (some ⟨p,0,none⟩) 3 3,.slice (some ⟨p+1,0,none⟩) 2 2,.slice none 0 0,.slice none 0 0]∧b≤p∧G[p]?=some ⟨u8s [nm,kf,JT sg].flatten,true,true,true,1⟩∧G[p+1]?=some ⟨ns32 [1,f],true,true,true,1⟩
theorem Shr.keep {nm kf sg:List Nat} {b f:Nat} {G G':List Ob} {sh:List Value} (h:Shr nm kf sg b f G sh) (hg:∀ i o,b≤i→G[i]?=some o→o.es=1→G'[i]?=some o):Shr nm kf sg b f G' sh:=by
 obtain ⟨p,h1,h2,h3,h4⟩:=h
 exact ⟨p,h1,h2,hg _ _ h2 h3 rfl,hg _ _ (by omega) h4 rfl⟩
structure JnInv (nm key sg:List Nat) (tx:Nat→List Nat) (H0:List Ob) (f:Nat) (G:List Ob) (fv:Value) (sh:List Value) (ms:List (Nat×Nat×Nat×Value)) (i k:Nat):Prop where
 fr:Frs (H0.length+3) G fv i (ms.map mcell).flatten
 lm:ms.length=i
 sd:G[H0.length+1]?=some ⟨plc nm 1 i (keyN nm key i) (u8s sg),true,true,true,1⟩
 so:G[H0.length+2]?=some ⟨sh,true,true,true,1⟩
 ls:sh.length=5
 sf:f<k→Shr nm (keyN nm key f) sg (H0.length+3) f G sh
 mg:∀ j x,ms[j]?=some x→Msg (H0.length+3) G x.1 x.2.1 x.2.2.1 x.2.2.2 nm 1 j (msgS nm (keyN nm key j) sg (tx j) 1 j) (msgD nm (keyN nm key j) (tx j) 1 j)
 lo:∀ j,j<H0.length→G[j]?=H0[j]?
 lg:H0.length+3≤G.length
theorem gZ {α:Type} {l:List α} (h:l.length=5):∃ a b c d e,l=[a,b,c,d,e]:=by
 match l,h with
 | [a,b,c,d,e],_=>exact ⟨a,b,c,d,e,rfl⟩
def Ku (pv fv:Value) (f:Nat) (b:Nat) (i:Int) (G:List Ob) (ex:Env):St:=⟨[(1,pv),(2,.int .i64 (f:Nat)),(7,.pointer (some ⟨b+1,0,none⟩)),(8,.pointer (some ⟨b+2,0,none⟩)),(9,fv),(10,.int .i64 i)]++ex,G,[]⟩
theorem L6 {tx:Nat→List Nat} {ms:List (Nat×Nat×Nat×Value)} (hn:B32 nm) (hk:B32 key) (h:JnInv nm key sg tx H0 f G fv sh ms i i) (hif:i=f) :
  JnInv nm key sg tx H0 f ((G++DB nm (keyN nm key i) sg (JT sg) 1 i G.length).set (H0.length+2) ⟨[.int .i64 4,.slice (some ⟨G.length+2,0,none⟩) 3 3,.slice (some ⟨G.length+3,0,none⟩) 2 2,.slice none 0 0,.slice none 0 0],true,true,true,1⟩) fv [.int .i64 4,.slice (some ⟨G.length+2,0,none⟩) 3 3,.slice (some ⟨G.length+3,0,none⟩) 2 2,.slice none 0 0,.slice none 0 0] ms i (i+1):=by
 have hg:=h.lg
 obtain ⟨m,hm⟩:∃ m,m=DB nm (keyN nm key i) sg (JT sg) 1 i G.length:=⟨_,rfl⟩
 have lm:m.length=4:=by rw [hm]; rfl
 have hat:∀ j o,m[j]?=some o→(G++m)[G.length+j]?=some o:=fun j o ho=>by rw [Qe (by omega),Qr]; exact ho
 rw [←hm]
 have old:∀ o,∀ j,j<G.length→j≠H0.length+2→((G++m).set (H0.length+2) o)[j]?=G[j]? := fun o j hj hne=>by rw [Qn (Ne.symm hne),Qa hj]
 have kp:∀ o,∀ j o',H0.length+3≤j→G[j]?=some o'→((G++m).set (H0.length+2) o)[j]?=some o':=fun o j o' hj ho=>(old o j (Qf.1 ho).1 (by omega)).trans ho
 refine ⟨h.fr.keep fun j o hj ho _=>kp _ j o hj ho,h.lm,(old _ _ (by omega) (by omega)).trans h.sd,Qw (by rw [Qh]; omega),rfl,fun _=>⟨G.length+2,rfl,by omega,?_,?_⟩,fun j x hx=>(h.mg j x hx).keep fun j o hj ho _=>kp _ j o hj ho,fun j hj=>(old _ j (by omega) (by omega)).trans (h.lo j hj),by rw [Qp,Qh]; omega⟩
 ·rw [Qn (by omega)]
  exact hat 2 _ (by rw [hm,hif]; rfl)
 ·rw [Qn (by omega)]
  exact hat 3 _ (by rw [hm,hif]; rfl)
theorem eG {tx:Nat→List Nat} {f:Nat} {ms:List (Nat×Nat×Nat×Value)} {i:Nat} (hn:B32 nm) (hk:B32 key) (hs:B32 sg) (hl:vLen false pv=some (.int .i64 (n:Nat))) (hr:TN H0 n pv i (tx i)) (hi:i<n) (n8:n≤8) (h:JnInv nm key sg tx H0 f G fv sh ms i i) :
  ∃ fv' G' sh' ms',Q6 T H0.length VG (Ku pv fv f H0.length i G [])=some (.normal,Ku pv fv' f H0.length ((i+1:Nat):Int) G' [])∧JnInv nm key sg tx H0 f G' fv' sh' ms' (i+1) (i+1):=by
 have hki:=BL (nm:=nm) hk i
 obtain ⟨G1,sh1,hpre,j1⟩:∃ G1 sh1,((i=f∧G1=(G++DB nm (keyN nm key i) sg (JT sg) 1 i G.length).set (H0.length+2) ⟨[.int .i64 4,.slice (some ⟨G.length+2,0,none⟩) 3 3,.slice (some ⟨G.length+3,0,none⟩) 2 2,.slice none 0 0,.slice none 0 0],true,true,true,1⟩)∨(i≠f∧G1=G))∧JnInv nm key sg tx H0 f G1 fv sh1 ms i (i+1):=by
  by_cases hif:i=f
  ·exact ⟨_,_,.inl ⟨hif,rfl⟩,L6 hn hk h hif⟩
  ·exact ⟨G,sh,.inr ⟨hif,rfl⟩,⟨h.fr,h.lm,h.sd,h.so,h.ls,fun hh=>h.sf (by omega),h.mg,h.lo,h.lg⟩⟩
 obtain ⟨o0,rv,tv,L,hpv,o1,o2,o3,o4,o5,o6,o7⟩:=hr
 have b0:=(Qf.1 o1).1
 have lg1:=j1.lg
 obtain ⟨ik,ina,is,v,H4,hse,m4,q4,l4⟩:=EH (H:=G1) (e:=1) (m:=i) (tv:=tv) hn hki hs (by omega) (o6.extK (fun j hj=>by have:j<H0.length:=hj; omega) fun j hj=>j1.lo j hj) (by omega)
 have hX:=BL (nm:=nm) hk (i+1)
 rw [show (nxK nm (keyN nm key i)).drop 32=keyN nm key (i+1) from rfl] at hse
 obtain ⟨S,hS⟩:∃ X,X=plc nm 1 i (keyN nm key i) (u8s sg):=⟨_,rfl⟩
 obtain ⟨S',hS'⟩:∃ X,X=plc nm 1 (i+1) (keyN nm key (i+1)) (u8s sg):=⟨_,rfl⟩
 have n0:=JD (e:=1) (m:=i) (tl:=u8s sg) hn.len hki.len
 have n1:=JD (e:=1) (m:=i+1) (tl:=u8s sg) hn.len hX.len
 rw [Qo,hs.len,←hS] at n0
 rw [Qo,hs.len,←hS'] at n1
 rw [←hS,←hS'] at hse
 obtain ⟨H6,hH6⟩:∃ X,X=(H4++[(⟨S',true,true,true,1⟩:Ob),⟨mcell (ik,ina,is,v),true,true,true,1⟩]).set (H0.length+1) ⟨S',true,true,true,1⟩:=⟨_,rfl⟩
 have l6:H6.length=H4.length+2:=by rw [hH6]; simp
 have old6:∀ j,j<H4.length→j≠H0.length+1→H6[j]?=H4[j]? := fun j hj hne=>by rw [hH6,Qn (Ne.symm hne),Qa hj]
 have up6:∀ j,j<G1.length→j≠H0.length+1→H6[j]?=G1[j]? := fun j hj hne=>by rw [old6 j (by omega) hne,q4 j hj]
 have kp6:∀ j o,H0.length+3≤j→G1[j]?=some o→H6[j]?=some o:=fun j o hj ho=>(up6 j (Qf.1 ho).1 (by omega)).trans ho
 have fr6:Frs (H0.length+3) H6 fv i (ms.map mcell).flatten:=j1.fr.keep fun j o hj ho _=>kp6 j o hj ho
 obtain ⟨fv',G',M,hap,a1,a2,a3,a4,a5⟩:=Ix (q:=mcell (ik,ina,is,v)) fr6 (by omega) rfl (by omega)
 have kp:∀ j o,H0.length+3≤j→G1[j]?=some o→o.es=1→G'[j]?=some o:=fun j o hj ho he=>a5 j o (kp6 j o hj ho) he
 have e6:H6[H0.length+1]?=some ⟨S',true,true,true,1⟩:=by rw [hH6,Qw (by rw [Qh]; omega)]
 refine ⟨fv',G',sh1,ms++[(ik,ina,is,v)],?_,⟨by simpa using a1,by rw [Qh,j1.lm]; rfl,by rw [a4 _ (by omega),e6,hS'],by rw [a4 _ (by omega),up6 _ (by omega) (by omega)]; exact j1.so,j1.ls,fun hh=>(j1.sf hh).keep kp,fun j x hx => ?_,fun j hj=>by rw [a4 j (by omega),up6 j (by omega) (by omega),j1.lo j hj],by omega⟩⟩
 rotate_left
 ·rcases Zw j ms.length with hj | hj
  ·rw [Qa hj] at hx
   exact (j1.mg j x hx).keep kp
  ·have hj2:j<ms.length+1:=by have:=(Qf.1 hx).1; rwa [Qh] at this
   have hj3:j=i:=by have:=j1.lm; omega
   subst hj3
   rw [Qe hj,show j-ms.length=0 by omega] at hx
   cases hx
   exact m4.keep' (by omega) fun j o hj ho he=>a5 j o ((old6 j (Qf.1 ho).1 (by omega)).trans ho) he
 have g1:G1[H0.length+1]?=some ⟨S,true,true,true,1⟩:=by rw [hS]; exact j1.sd
 have g1o:G1[0]?=some o0:=(j1.lo 0 b0).trans o1
 have hsl:=o5 G1 j1.lo
 have g4a:∀ o o':Ob,(H4++[o,o'])[H4.length]?=some o:=fun _ _=>by rw [Qe (Ql _),Qu]; rfl
 have g4b:∀ o o':Ob,(H4++[o,o'])[H0.length+1]?=some ⟨S,true,true,true,1⟩:=fun _ _=>by rw [Qa (by omega),q4 _ (by omega)]; exact g1
 have a4a:∀ o o' p:Ob,(H4++[o,o']).set H4.length p=H4++[p,o']:=fun _ _ _=>by rw [Q7 _ _ (Ql _),Qu]; rfl
 have a4b:∀ o o' p:Ob,(H4++[o,o']).set (H4.length+1) p=H4++[o,p]:=fun _ _ _=>by rw [Q7 _ _ (by omega),Qr]; rfl
 have g4c:∀ o o':Ob,(H4++[o,o'])[H4.length+1]?=some o':=fun _ _=>by rw [Qe (by omega),Qr]; rfl
 have g6:H6[H4.length+1]?=some ⟨mcell (ik,ina,is,v),true,true,true,1⟩:=by rw [hH6,Qn (by omega)]; exact g4c _ _
 have hmc:mcell (ik,ina,is,v)=[.int .i64 5,.slice (some ⟨ik,0,none⟩) 1 1,.slice (some ⟨ina,0,none⟩) 2 2,.slice (some ⟨is,0,none⟩) 1 1,v]:=rfl
 obtain ⟨a6,c6,hvs⟩:=(m4.d.part m4.ld (by have:=(Az (key:=keyN nm key i) 1 i hn o6.lt (by omega)).1; omega)).shape
 have fz:fillL Xa [(0,5,.agg #[.int .i64 5,.slice (some ⟨ik,0,none⟩) 1 1,.slice (some ⟨ina,0,none⟩) 2 2,.slice (some ⟨is,0,none⟩) 1 1,v])]=some [.int .i64 5,.slice (some ⟨ik,0,none⟩) 1 1,.slice (some ⟨ina,0,none⟩) 2 2,.slice (some ⟨is,0,none⟩) 1 1,v]:=rfl
 have sp5:∀ (a b c d e':Value),splice Xa 0 [a,b,c,d,e']=[a,b,c,d,e']:=fun _ _ _ _ _=>rfl
 have cl5:∀ a b c d e':Value,Q4 5 [a,b,c,d,e']=[a,b,c,d,e']:=fun _ _ _ _ _=>rfl
 have lzs:Ky.length=98:=rfl
 have lzf:Xa.length=5:=rfl
 have s1:splice Ky 0 S'=S':=QV (by rw [n1,lzs])
 have s2:splice S 0 S'=S':=QV (by rw [n0,n1])
 have t1:Q4 98 S=S:=QA n0
 have t2:Q4 98 S'=S':=QA n1
 have e1:((i:Int)≤(n:Int))=True:=eq_true (by omega)
 have e2:((i:Int)==(n:Int))=false:=by simp; omega
 have e3:((i:Int)<(n:Int))=True:=eq_true (by omega)
 have hmn:Wp false (.int .i64 (L:Nat)) (.int .i64 100)=some (.int .i64 ((tx i).length:Nat)):=by
  rw [Fo,o7]
  by_cases h:(100:Int)<(L:Int)
  ·rw [if_pos h,Fc (by omega)]; rfl
  ·rw [if_neg h,QZ (by omega)]
 have hmi:(if (100:Int)<(L:Int) then (100:Int) else (L:Int))=(((tx i).length:Nat):Int):=by
  have:=hmn
  rw [Fo] at this
  simpa using this
 have w3:IntKind.i64.wrap ((i:Int)+1)=((i+1:Nat):Int):=Z6 (b:=1) (by omega)
 have ok1:∀ L:List Value,(Value.agg L.toArray).cells.toList=L:=fun _=>rfl
 have ok2:∀ L:List Value,(Value.agg L.toArray).cells.size=L.length:=fun _=>rfl
 have ok3:∀ L:List Value,okVar (Value.agg L.toArray)=true:=fun _=>rfl
 have im1:∀ j,Qx H0.length [] [H0.length+j]=[]:=fun j=>QK (by simp)
 have im2:∀ j,Qx H0.length [] [H4.length+j]=[]:=fun j=>QK (by simp; omega)
 have im3:Qx H0.length [] [H4.length]=[]:=QK (by simp; omega)
 have imM:Qx H0.length [] M=[]:=QK fun j hj=>by have:=a2 j hj; omega
 have h6:=hH6.symm
 simp only [Ay] at hse
 rw [hmc] at hap h6 g6
 have hsh:=Ms (H:=G) (e:=1) (m:=i) hn.len hki.len hs
 rw [←hS] at hsh
 have gS:G[H0.length+1]?=some ⟨S,true,true,true,1⟩:=by rw [hS]; exact h.sd
 have gF:∀ L:List Ob,(G++L)[H0.length+2]?=some ⟨sh,true,true,true,1⟩:=fun L=>by rw [Qa (by have:=h.lg; omega)]; exact h.so
 have ls:=h.ls
 obtain ⟨y1,y2,y3,y4,y5,hy⟩:=gZ h.ls
 have sp6:∀ (a b c d e':Value),splice sh 0 [a,b,c,d,e']=[a,b,c,d,e']:=fun _ _ _ _ _=>by rw [hy]; rfl
 clear hy y1 y2 y3 y4 y5 hH6 j1 m4 q4 a1 a2 a4 a5 kp kp6 up6 old6 fr6 hn hk hs hki hX h o5 o6 o1 hS hS' hvs
 subst hpv
 generalize tx i=txi at *
 generalize i+1=i1 at *
 rcases hpre with ⟨hif,hG⟩ | ⟨hif,rfl⟩
 ·subst hif
  have hG':=hG.symm
  clear hG
  generalize DB nm (keyN nm key i) sg (JT sg) 1 i G.length=SH at *
  simp only [Ku,VG,Q1,quiet,cW,↓pW,reduceCtorEq,seval,-Qb,hl,e1,e2,e3,gS,gF,ls,sp6,hG',hsh,g1,g1o,o2,o3,o4,hsl,hse,g4a,g4b,a4a,a4b,g4c,g6,fz,sp5,cl5,lzs,lzf,s1,s2,t1,t2,hmi,w3,ok1,ok2,ok3,im1,im2,im3,imM,h6,hap,n0,n1]
 ·have e4:((i:Int)==(f:Int))=false:=by simp; omega
  simp only [Ku,VG,Q1,quiet,cW,↓pW,reduceCtorEq,seval,-Qb,hl,e1,e2,e3,e4,g1,g1o,o2,o3,o4,hsl,hse,g4a,g4b,a4a,a4b,g4c,g6,fz,sp5,cl5,lzs,lzf,s1,s2,t1,t2,hmi,w3,ok1,ok2,ok3,im1,im2,im3,imM,h6,hap,n0,n1]
theorem eF {tx:Nat→List Nat} {f n:Nat} {ms:List (Nat×Nat×Nat×Value)} (hn:B32 nm) (hk:B32 key) (hs:B32 sg) (hl:vLen false pv=some (.int .i64 (n:Nat))) (hf:f≤n) (h:JnInv nm key sg tx H0 f G fv sh ms n n) :
  ∃ G' sh',Q6 T H0.length VG (Ku pv fv f H0.length n G [])=some (.exit 0,Ku pv fv f H0.length n G' [(57,.bool true)])∧JnInv nm key sg tx H0 f G' fv sh' ms n (n+1):=by
 have hki:=BL (nm:=nm) hk n
 have e1:((n:Int)≤(n:Int))=True:=eq_true (by omega)
 by_cases hif:n=f
 ·refine ⟨_,_,?_,L6 hn hk h hif⟩
  have hsh:=Ms (H:=G) (e:=1) (m:=n) hn.len hki.len hs
  have n0:=JD (e:=1) (m:=n) (tl:=u8s sg) hn.len hki.len
  rw [Qo,hs.len] at n0
  have gS:=h.sd
  have gF:∀ L:List Ob,(G++L)[H0.length+2]?=some ⟨sh,true,true,true,1⟩:=fun L=>by rw [Qa (by have:=h.lg; omega)]; exact h.so
  have ls:=h.ls
  obtain ⟨y1,y2,y3,y4,y5,hy⟩:=gZ h.ls
  have sp6:∀ (a b c d e':Value),splice sh 0 [a,b,c,d,e']=[a,b,c,d,e']:=fun _ _ _ _ _=>by rw [hy]; rfl
  have im1:∀ j,Qx H0.length [] [H0.length+j]=[]:=fun j=>QK (by simp)
  have ok1:∀ L:List Value,(Value.agg L.toArray).cells.toList=L:=fun _=>rfl
  have ok2:∀ L:List Value,(Value.agg L.toArray).cells.size=L.length:=fun _=>rfl
  have ok3:∀ L:List Value,okVar (Value.agg L.toArray)=true:=fun _=>rfl
  clear hy y1 y2 y3 y4 y5 h hf
  subst hif
  generalize DB nm (keyN nm key n) sg (JT sg) 1 n G.length=SH,plc nm 1 n (keyN nm key n) (u8s sg)=S at *
  have t1:Q4 98 S=S:=QA n0
  simp only [Ku,VG,Q1,quiet,cW,↓pW,reduceCtorEq,seval,-Qb,hl,e1,gS,gF,ls,sp6,hsh,t1,n0,im1,ok1,ok2,ok3]
 ·refine ⟨G,sh,?_,⟨h.fr,h.lm,h.sd,h.so,h.ls,fun hh=>h.sf (by omega),h.mg,h.lo,h.lg⟩⟩
  have e4:((n:Int)==(f:Int))=false:=by simp; omega
  simp only [Ku,VG,Q1,quiet,cW,↓pW,reduceCtorEq,seval,-Qb,hl,e1,e4]
theorem ae {tx:Nat→List Nat} (hn:B32 nm) (hk:B32 key) (hs:B32 sg) (hl:vLen false pv=some (.int .i64 (n:Nat))) (hr:∀ i,i<n→TN H0 n pv i (tx i)) (hf:f≤n) (n8:n≤8) (h:JnInv nm key sg tx H0 f G (.slice none 0 0) Xa [] 0 0) :
  ∃ fv G' sh ms,Q6 T H0.length (.block 0 (.loop VG)) (Ku pv (.slice none 0 0) f H0.length 0 G [])=some (.normal,Ku pv fv f H0.length n G' [(57,.bool true)])∧JnInv nm key sg tx H0 f G' fv sh ms n (n+1):=by
 obtain ⟨st,hA,fv,G',sh,ms,rfl,hJ⟩:=QY (T:=T) (base:=H0.length) (id:=0) (body:=VG)
  (fun i st=>∃ fv G' sh ms,st=Ku pv fv f H0.length i G' []∧JnInv nm key sg tx H0 f G' fv sh ms i i) (Q:=fun st=>∃ fv G' sh ms,st=Ku pv fv f H0.length n G' [(57,.bool true)]∧JnInv nm key sg tx H0 f G' fv sh ms n (n+1))
  n (s:=Ku pv (.slice none 0 0) f H0.length ((0:Nat):Int) G []) ⟨_,_,_,_,rfl,h⟩
  (fun i st hi hs'=>by
   obtain ⟨fv,G',sh,ms,rfl,hJ⟩:=hs'
   obtain ⟨fv2,G2,sh2,ms2,h1,h2⟩:=eG hn hk hs hl (hr i hi) hi n8 hJ
   exact ⟨_,h1,fv2,G2,sh2,ms2,rfl,h2⟩)
  (fun st hs'=>by
   obtain ⟨fv,G',sh,ms,rfl,hJ⟩:=hs'
   obtain ⟨G2,sh2,h1,h2⟩:=eF hn hk hs hl hf hJ
   exact ⟨_,h1,fv,G2,sh2,ms,rfl,h2⟩)
 exact ⟨fv,G',sh,ms,hA,hJ⟩
def Vj (pv fv:Value) (f p n:Nat) (i:Int) (G:List Ob) (ex:Env):St:=⟨[(1,pv),(2,.int .i64 (f:Nat)),(14,.pointer (some ⟨p,0,none⟩)),(89,fv),(90,.int .i64 (n:Nat)),(91,.int .i64 i)]++ex,G,[]⟩
theorem eE {tx:Nat→List Nat} {ms:List (Nat×Nat×Nat×Value)} (hn:B32 nm) (hk:B32 key) (hs:B32 sg) (hr:TN H0 n pv i (tx i)) (hi:i<n) (n8:n≤8) (hf:f≤n) (h:JnInv nm key sg tx H0 f G2 fv sh ms n k)
 (hG:∀ j,j<G2.length→G[j]?=G2[j]?) (hp:G2.length<G.length) (hw:G[G2.length]?=some ⟨fol nm 1 (max f i) (keyN nm key (max f i)) (JT sg) (.slice none 0 0),true,true,true,1⟩) :
    ∃ G',Q6 T H0.length WA (Vj pv fv f G2.length n i G [])=some (.normal,Vj pv fv f G2.length n ((i+1:Nat):Int) G' [])∧(∀ j,j<G2.length→G'[j]?=G2[j]?)∧G2.length<G'.length∧G'[G2.length]?=some ⟨fol nm 1 (max f (i+1)) (keyN nm key (max f (i+1))) (JT sg) (.slice none 0 0),true,true,true,1⟩:=by
  obtain ⟨o0,rv,tv,L,hpv,o1,o2,o3,o4,o5,o6,o7⟩:=hr
  have b0:=(Qf.1 o1).1
  have lg:=h.lg
  have lpu:=YO sg
  obtain ⟨x,hx⟩:∃ x,ms[i]?=some x:=⟨_,Qi (by rw [h.lm]; exact hi)⟩
  have hmsg:=h.mg i x hx
  obtain ⟨ik,ina,is,v⟩:=x
  dsimp only at hmsg
  obtain ⟨fid,rfl,f2,f3,f4,f5⟩:∃ fid,fv=.slice (some ⟨fid,0,none⟩) n n∧H0.length+3≤fid∧G2[fid]?=some ⟨(ms.map mcell).flatten,true,true,false,5⟩∧(ms.map mcell).flatten.length=5*n∧0<n:=by
    rcases h.fr with ⟨h0,-⟩ | hh
    · omega
    · exact hh
  obtain ⟨hrow,hrl⟩:=E0 (n:=5) (L:=ms.map mcell) (i:=i) (P:=mcell (ik,ina,is,v)) (fun y hy=>by obtain ⟨z,-,rfl⟩:=Jx.1 hy; rfl) (by rw [Jb,hx]; rfl)
  have g0:=(hG _ (Qf.1 f3).1).trans f3
  obtain ⟨H3,hH3⟩:∃ X,X=G++[(⟨mcell (ik,ina,is,v),true,true,true,1⟩:Ob)]:=⟨_,rfl⟩
  have l3:H3.length=G.length+1:=by rw [hH3]; simp
  have old3:∀ j,j<G.length→H3[j]?=G[j]? := fun j hj=>by rw [hH3,Qa hj]
  have up3:∀ j,j<G2.length→H3[j]?=G2[j]? := fun j hj=>by rw [old3 j (by omega),hG j hj]
  have m3:=hmsg.ext up3
  have hD:=Az (key:=keyN nm key i) 1 i hn o6.lt (by omega)
  have hkm:=BL (nm:=nm) hk (max f i)
  obtain ⟨H5,r,v',c,hop,q1,q2,q3⟩:=Ro (H:=H3) (key:=keyN nm key (max f i)) (m:=max f i) (tx:=tx i) m3 hkm hs (by omega) hD.2 (by omega) (Nat.le_max_right _ _) (fun e=>by rw [←e]; exact ⟨rfl,by omega,o6.lt⟩)
  have n0:=Vx (e:=1) (m:=max f i) (hv := .slice none 0 0) hn.len hkm.len lpu
  obtain ⟨W,hW⟩:∃ X,X=fol nm 1 (max f i) (keyN nm key (max f i)) (JT sg) (.slice none 0 0):=⟨_,rfl⟩
  rw [←hW] at hw hop n0 q3
  have hr2:r=fol nm 1 (max f (i+1)) (keyN nm key (max f (i+1))) (JT sg) (.slice none 0 0):=by
    rcases q3 with ⟨e,rfl,-⟩ | ⟨e,rfl,-⟩
    · rw [hW,show max f (i+1)=max f i by omega]
    · rw [show max f (i+1)=i+1 by omega,←e]; rfl
  have n1:r.length=99:=by rw [hr2]; exact Vx hn.len (BL hk _).len lpu
  rw [←hr2]
  obtain ⟨H6,hH6⟩:∃ X,X=H5++[(⟨r,true,true,true,1⟩:Ob)]:=⟨_,rfl⟩
  have l6:H6.length=H5.length+1:=by rw [hH6]; simp
  have up6:∀ j,j<G.length→H6[j]?=G[j]? := fun j hj=>by rw [hH6,Qa (by omega),q1 j (by omega),old3 j hj]
  refine ⟨H6.set G2.length ⟨r,true,true,true,1⟩,?_,fun j hj=>by rw [Qn (by omega),up6 j (by omega),hG j hj],by rw [Qp]; omega,Qw (by omega)⟩
  have hmc:mcell (ik,ina,is,v)=[.int .i64 5,.slice (some ⟨ik,0,none⟩) 1 1,.slice (some ⟨ina,0,none⟩) 2 2,.slice (some ⟨is,0,none⟩) 1 1,v]:=rfl
  have a3g:∀ o p:Ob,(G++[o]).set G.length p=G++[p]:=fun _ _=>by rw [Q7 _ _ (Ql _),Qu]; rfl
  have g3:H3[G.length]?=some ⟨mcell (ik,ina,is,v),true,true,true,1⟩:=by rw [hH3,Qe (Ql _),Qu]; rfl
  have g3w:H3[G2.length]?=some ⟨W,true,true,true,1⟩:=(old3 _ hp).trans hw
  have a5g:∀ o p:Ob,(H5++[o]).set H5.length p=H5++[p]:=fun _ _=>by rw [Q7 _ _ (Ql _),Qu]; rfl
  have g5:∀ o:Ob,(H5++[o])[H5.length]?=some o:=fun _=>by rw [Qe (Ql _),Qu]; rfl
  have g6:H6[H5.length]?=some ⟨r,true,true,true,1⟩:=by rw [hH6]; exact g5 _
  have g6w:H6[G2.length]?=some ⟨W,true,true,true,1⟩:=(up6 _ hp).trans hw
  have lo6:∀ j,j<H0.length→H6[j]?=H0[j]? := fun j hj=>by rw [up6 j (by omega),hG j (by omega),h.lo j hj]
  have g6o:H6[0]?=some o0:=(lo6 0 b0).trans o1
  have hsl:=o5 H6 lo6
  have sp5:∀ (a b c d e':Value),splice Xa 0 [a,b,c,d,e']=[a,b,c,d,e']:=fun _ _ _ _ _=>rfl
  have cl5:∀ a b c d e':Value,Q4 5 [a,b,c,d,e']=[a,b,c,d,e']:=fun _ _ _ _ _=>rfl
  have lzf:Xa.length=5:=rfl
  have lzo:XB.length=99:=rfl
  have s1:splice XB 0 r=r:=QV (by rw [n1,lzo])
  have s2:splice W 0 r=r:=QV (by rw [n0,n1])
  have t1:Q4 99 W=W:=QA n0
  have t2:Q4 99 r=r:=QA n1
  have e3:((i:Int)<(n:Int))=True:=eq_true (by omega)
  have hb1:Ft H6 tv=some (DA (tx i)):=Rx ⟨o6.shape,o6.reads⟩ lo6
  have hmi:(if (100:Int)<(L:Int) then (100:Int) else (L:Int))=(((tx i).length:Nat):Int):=by
    rw [o7]
    by_cases h:(100:Int)<(L:Int)
    · rw [if_pos h,Fc (by omega)]; rfl
    · rw [if_neg h,QZ (by omega)]
  have w3:IntKind.i64.wrap ((i:Int)+1)=((i+1:Nat):Int):=Z6 (b:=1) (by omega)
  have ok1:∀ L:List Value,(Value.agg L.toArray).cells.toList=L:=fun _=>rfl
  have ok2:∀ L:List Value,(Value.agg L.toArray).cells.size=L.length:=fun _=>rfl
  have ok3:∀ L:List Value,okVar (Value.agg L.toArray)=true:=fun _=>rfl
  have im1:Qx H0.length [] [G.length]=[]:=QK (by simp; omega)
  have im2:Qx H0.length [] [H5.length]=[]:=QK (by simp; omega)
  have im3:Qx H0.length [] [G2.length]=[]:=QK (by simp; omega)
  have h6:=hH6.symm
  have h3:=hH3.symm
  simp only [Ay] at hop
  rw [hmc] at h3 g3 hrow
  have hne:Js .neq (DA (tx i)) (DA (tx i))=some (.bool false):=by unfold DA; rw [EU,beq_self_eq_true]; rfl
  have hlt:=Qf.1 f3
  generalize (ms.map mcell).flatten=FL at *
  rcases q3 with ⟨hif,-,rfl,rfl⟩ | ⟨hif,-,rfl,q3⟩
  · have e4:((i:Int)<(f:Int))=True:=eq_true (by omega)
    have e5:((f:Int)≤(i:Int))=False:=eq_false (by omega)
    clear hmsg m3 hD hkm hn hk hs h hG old3 up3 up6 lo6 hH3 hH6 hW hr2 q1 o5 o6 hlt
    subst hpv
    generalize tx i=txi at *
    generalize i+1=i1 at *
    simp only [Vj,WA,Q1,quiet,cW,↓pW,reduceCtorEq,seval,-Qb,e3,e4,e5,g0,hrow,hrl,a3g,g3,g3w,h3,hop,a5g,g5,g6,g6w,g6o,h6,o2,o3,o4,hsl,sp5,cl5,lzf,lzo,s1,s2,t1,t2,hb1,hmi,w3,ok1,ok2,ok3,im1,im2,im3,n0,n1]
  · have e4:((i:Int)<(f:Int))=False:=eq_false (by omega)
    have e5:((f:Int)≤(i:Int))=True:=eq_true (by omega)
    have t6:=(((q3.app (m:=[(⟨r,true,true,true,1⟩:Ob)]))).part o6.lt (by omega))
    rw [h6] at t6
    have hb2:Ft H6 v'=some (DA (tx i)):=Rx ⟨t6.shape,t6.reads⟩ fun _ _=>rfl
    clear hmsg m3 hD hkm hn hk hs h hG old3 up3 up6 lo6 hH3 hH6 hW hr2 q1 q3 o5 o6 hlt t6
    subst hpv
    generalize DA (tx i)=SV at *
    generalize tx i=txi at *
    generalize i+1=i1 at *
    simp only [Vj,WA,Q1,quiet,cW,↓pW,reduceCtorEq,seval,-Qb,e3,e4,e5,g0,hrow,hrl,a3g,g3,g3w,h3,hop,a5g,g5,g6,g6w,g6o,h6,o2,o3,o4,hsl,sp5,cl5,lzf,lzo,s1,s2,t1,t2,hb1,hb2,hne,hmi,w3,ok1,ok2,ok3,im1,im2,im3,n0,n1]
theorem JnInv.app {nm key sg:List Nat} {tx:Nat→List Nat} {H0:List Ob} {f:Nat} {G m:List Ob} {fv:Value} {sh:List Value} {ms:List (Nat×Nat×Nat×Value)} {i k:Nat} (h:JnInv nm key sg tx H0 f G fv sh ms i k):JnInv nm key sg tx H0 f (G++m) fv sh ms i k:=by
 have hg:∀ (i:Nat) (o:Ob),G[i]?=some o→(G++m)[i]?=some o:=fun i o ho=>by rw [Qa (Qf.1 ho).1]; exact ho
 exact ⟨h.fr.keep fun i o _ ho _=>hg i o ho,h.lm,hg _ _ h.sd,hg _ _ h.so,h.ls,fun hh=>(h.sf hh).keep fun i o _ ho _=>hg i o ho,fun j x hx=>(h.mg j x hx).keep fun i o _ ho _=>hg i o ho,fun j hj=>by rw [Qa (by have:=h.lg; omega)]; exact h.lo j hj,by rw [Qh]; have:=h.lg; omega⟩
theorem aa {tx:Nat→List Nat} {ms:List (Nat×Nat×Nat×Value)} (hn:B32 nm) (hk:B32 key) (hs:B32 sg) (hr:∀ i,i<n→TN H0 n pv i (tx i)) (n8:n≤8) (hf:f≤n) (h:JnInv nm key sg tx H0 f G2 fv sh ms n k) :
  ∃ G',Q6 T H0.length (.block 2 (.loop WA)) (Vj pv fv f G2.length n 0 (G2++[⟨fol nm 1 f (keyN nm key f) (JT sg) (.slice none 0 0),true,true,true,1⟩]) [])=some (.normal,Vj pv fv f G2.length n n G' [(92,.bool false)])∧G'[G2.length]?=some ⟨fol nm 1 n (keyN nm key n) (JT sg) (.slice none 0 0),true,true,true,1⟩:=by
 obtain ⟨st,hA,G',rfl,hG⟩:=QY (T:=T) (base:=H0.length) (id:=2) (body:=WA)
  (fun i st=>∃ G',st=Vj pv fv f G2.length n i G' []∧(∀ j,j<G2.length→G'[j]?=G2[j]?)∧G2.length<G'.length∧G'[G2.length]?=some ⟨fol nm 1 (max f i) (keyN nm key (max f i)) (JT sg) (.slice none 0 0),true,true,true,1⟩) (Q:=fun st=>∃ G',st=Vj pv fv f G2.length n n G' [(92,.bool false)]∧G'[G2.length]?=some ⟨fol nm 1 n (keyN nm key n) (JT sg) (.slice none 0 0),true,true,true,1⟩)
  n (s:=Vj pv fv f G2.length n ((0:Nat):Int) (G2++[⟨fol nm 1 f (keyN nm key f) (JT sg) (.slice none 0 0),true,true,true,1⟩]) [])
  ⟨_,rfl,fun j hj=>Qa hj,by rw [Qh]; exact WN _,by rw [Qe (Ql _),Qu,Nat.max_eq_left (Nat.zero_le _)]; rfl⟩
  (fun i st hi hs'=>by
   obtain ⟨G',rfl,h1,h2,h3⟩:=hs'
   obtain ⟨G3,q1,q2,q3,q4⟩:=eE hn hk hs (hr i hi) hi n8 hf h h1 h2 h3
   exact ⟨_,q1,G3,rfl,q2,q3,q4⟩)
  (fun st hs'=>by
   obtain ⟨G',rfl,h1,h2,h3⟩:=hs'
   have e1:((n:Int)<(n:Int))=False:=eq_false (by omega)
   rw [Nat.max_eq_right hf] at h3
   refine ⟨_,?_,G',rfl,h3⟩
   simp only [Vj,WA,Q1,quiet,cW,↓pW,reduceCtorEq,seval,-Qb,e1])
 exact ⟨G',hA,hG⟩
theorem B4 {l:List Nat} {n:Nat} {fi:Int} {tx:Nat→List Nat} (ll:l.length=96) (xl:∀ y∈l,y<256) (hl:vLen false pv=some (.int .i64 (n:Nat))) (hr:∀ i,i<n→TN H0 n pv i (tx i)) :
  ∃ H',Za T 7 [.agg (u8s l).toArray,pv,.int .i64 fi] H0=some (.bool true,H',[]):=by
 have hmt:=dr
 have ok1:∀ L:List Value,(Value.agg L.toArray).cells.toList=L:=fun _=>rfl
 have ok2:∀ L:List Value,(Value.agg L.toArray).cells.size=L.length:=fun _=>rfl
 have ok3:∀ L:List Value,okVar (Value.agg L.toArray)=true:=fun _=>rfl
 by_cases h8:8<n
 ·have e1:((8:Int)<(n:Int))=True:=eq_true (by omega)
  apply ZK
  rw [QG (fn:=AR) rfl]
  simp only [AR,Q1,quiet,cW,↓pW,reduceCtorEq,seval,-Qb,hmt,hl,e1,ok1,ok2,ok3]
  rfl
 have e1:((8:Int)<(n:Int))=False:=eq_false (by omega)
 by_cases hneg:fi<0
 ·have e2:=eq_true hneg
  apply ZK
  rw [QG (fn:=AR) rfl]
  simp only [AR,Q1,quiet,cW,↓pW,reduceCtorEq,seval,-Qb,hmt,hl,e1,e2,ok1,ok2,ok3]
  rfl
 have e2:=eq_false hneg
 by_cases hbig:(n:Int)<fi
 ·have e3:=eq_true hbig
  apply ZK
  rw [QG (fn:=AR) rfl]
  simp only [AR,Q1,quiet,cW,↓pW,reduceCtorEq,seval,-Qb,hmt,hl,e1,e2,e3,ok1,ok2,ok3]
  rfl
 have e3:=eq_false hbig
 obtain ⟨f,rfl⟩:∃ f:Nat,fi=(f:Int):=⟨fi.toNat,by omega⟩
 have hf:f≤n:=by omega
 obtain ⟨nm,hnm⟩:∃ x,x=l.take 32:=⟨_,rfl⟩
 obtain ⟨key,hkey⟩:∃ x,x=(l.drop 32).take 32:=⟨_,rfl⟩
 obtain ⟨sg,hsg⟩:∃ x,x=(l.drop 64).take 32:=⟨_,rfl⟩
 have hn:B32 nm:=⟨by rw [hnm,Q5,ll]; rfl,fun y hy=>xl y (by rw [hnm] at hy; exact QP hy)⟩
 have hk:B32 key:=⟨by rw [hkey,Q5,QE,ll]; rfl,fun y hy=>xl y (by rw [hkey] at hy; exact Zy (QP hy))⟩
 have hs:B32 sg:=⟨by rw [hsg,Q5,QE,ll]; rfl,fun y hy=>xl y (by rw [hsg] at hy; exact Zy (QP hy))⟩
 have t0:Q4 32 (u8s l)=u8s nm:=by rw [hnm,Ve]
 have t1:Q4 32 (ZP 32 (u8s l))=u8s key:=by rw [hkey,WX,Ve]
 have t2:Q4 32 (ZP 64 (u8s l))=u8s sg:=by rw [hsg,WX,Ve]
 have hst:Z5 T 28 [.agg (u8s nm).toArray,.int .u32 1,.agg (u8s key).toArray,.agg (u8s sg).toArray]=_:=IX (e:=1) hn.len hk.len hs.len
 have n0:=JD (e:=1) (m:=0) (tl:=u8s sg) hn.len hk.len
 rw [Qo,hs.len] at n0
 obtain ⟨S,hS⟩:∃ X,X=plc nm 1 0 key (u8s sg):=⟨_,rfl⟩
 rw [←hS] at n0 hst
 obtain ⟨G0,hG0⟩:∃ X,X=H0++[(⟨u8s l,true,true,true,1⟩:Ob),⟨S,true,true,true,1⟩,⟨Xa,true,true,true,1⟩]:=⟨_,rfl⟩
 have at0':∀ j o,[(⟨u8s l,true,true,true,1⟩:Ob),⟨S,true,true,true,1⟩,⟨Xa,true,true,true,1⟩][j]?=some o→G0[H0.length+j]?=some o:=fun j o hj=>by rw [hG0,Qe (by omega),Qr]; exact hj
 have J0:JnInv nm key sg tx H0 f G0 (.slice none 0 0) Xa [] 0 0:=⟨.inl ⟨rfl,rfl,rfl⟩,rfl,(at0' 1 _ rfl).trans (by rw [hS]; rfl),at0' 2 _ rfl,rfl,fun h=>absurd h (Xi _),fun j x hx=>by simp at hx,fun j hj=>by rw [hG0,Qa hj],by rw [hG0]; simp⟩
 obtain ⟨fv,G1,sh,ms,hA,J1⟩:=ae hn hk hs hl hr hf (by omega) J0
 obtain ⟨p,hsh,p1,p2,p3⟩:=J1.sf (by omega)
 have hkf:=BL (nm:=nm) hk f
 have lpu:=YO sg
 have kx:∀ x∈[nm,keyN nm key f,JT sg],x.length=32:=fun x hx=>by
  simp only [Jy,J4,or_false] at hx
  rcases hx with rfl | rfl | rfl
  ·exact hn.len
  ·exact hkf.len
  ·exact lpu
 have F:FrV G1 (.slice (some ⟨p,0,none⟩) 3 3) (.slice (some ⟨p+1,0,none⟩) 2 2) (.slice none 0 0) (.slice none 0 0) [nm,keyN nm key f,JT sg] [1,f] [] [] :=
  ⟨.inr ⟨_,3,_,_,_,rfl,p2,by rw [Qo,K0 kx]⟩,kx,.inr ⟨_,2,_,_,_,rfl,p3,rfl⟩,.inl ⟨rfl,rfl,rfl⟩,fun x hx=>absurd hx (by simp),⟨⟨_,_,rfl⟩,fun _ _=>rfl⟩⟩
 obtain ⟨m1,hfo⟩:=TC F
 rw [show plc nm 1 f (keyN nm key f) (u8s (JT sg)++[.slice none 0 0])=fol nm 1 f (keyN nm key f) (JT sg) (.slice none 0 0) from rfl] at hfo
 have J2:=J1.app (m:=m1)
 obtain ⟨G2,hG2⟩:∃ X,X=G1++m1:=⟨_,rfl⟩
 rw [←hG2] at J2 hfo
 obtain ⟨G3,hB,g3⟩:=aa hn hk hs hr (by omega) hf J2
 have w0:=Vx (e:=1) (m:=f) (hv := .slice none 0 0) hn.len hkf.len lpu
 have lfv:vLen false fv=some (.int .i64 (n:Nat)):=by
  rcases J1.fr with ⟨h0,rfl,-⟩ | ⟨_,rfl,-⟩
  ·rw [h0]; rfl
  ·rfl
 have nW:(fol nm 1 n (keyN nm key n) (JT sg) (.slice none 0 0))[33]?=some (.int .u32 n):=Vv hn.len
 have lW:=Vx (e:=1) (m:=n) (hv := .slice none 0 0) hn.len (BL (nm:=nm) hk n).len lpu
 have gs:G1[H0.length+2]?=some ⟨[.int .i64 4,.slice (some ⟨p,0,none⟩) 3 3,.slice (some ⟨p+1,0,none⟩) 2 2,.slice none 0 0,.slice none 0 0],true,true,true,1⟩:=by rw [←hsh]; exact J1.so
 have w1:IntKind.i64.wrap (n:Int)=(n:Nat):=wn (by omega)
 have cl5:∀ a b c d e':Value,Q4 5 [a,b,c,d,e']=[a,b,c,d,e']:=fun _ _ _ _ _=>rfl
 have lzs:Ky.length=98:=rfl
 have lzf:Xa.length=5:=rfl
 have lzo:XB.length=99:=rfl
 have s1:splice Ky 0 S=S:=QV (by rw [n0,lzs])
 have lg2:=J2.lg
 have im1:∀ j,Qx H0.length [] [H0.length+j]=[]:=fun j=>QK (by simp)
 have im2:Qx H0.length [] [G2.length]=[]:=QK (by simp; omega)
 have q1:(H0++[(⟨u8s l,true,true,true,1⟩:Ob)])[H0.length]?=some ⟨u8s l,true,true,true,1⟩:=by rw [Qe (Ql _),Qu]; rfl
 have a2:∀ o1 o2 o:Ob,(H0++[o1,o2]).set (H0.length+1) o=H0++[o1,o]:=fun _ _ _=>by rw [Q7 _ _ (by omega),Qr]; rfl
 have a3:∀ o o':Ob,(G2++[o]).set G2.length o'=G2++[o']:=fun _ _=>by rw [Q7 _ _ (Ql _),Qu]; rfl
 have sF:∀ L:List Value,L.length=99→splice XB 0 L=L:=fun L hL=>QV (by rw [hL,lzo])
 have h0:=hG0.symm
 simp only [Ku,Qv,Qq] at hA
 simp only [Vj,Qv,Qq] at hB
 have rS:rf (.agg S.toArray)=true:=by rw [hS]; exact PH
 have lnm:=hn.len
 have lke:=hk.len
 have lsg:=hs.len
 clear J0 J1 J2 F kx at0' hG0 hG2 hr hn hk hs hkf p1 p2 p3 hsh hS xl hnm hkey hsg
 generalize fol nm 1 f (keyN nm key f) (JT sg) (.slice none 0 0)=W,fol nm 1 n (keyN nm key n) (JT sg) (.slice none 0 0)=Wn at *
 have sW:=sF W w0
 have tW:Q4 99 W=W:=QA w0
 clear sF
 apply ZK
 rw [QG (fn:=AR) rfl]
 simp only [AR,Q1,quiet,cW,↓pW,reduceCtorEq,seval,-Qb,hmt,hl,e1,e2,e3,t0,t1,t2,hst,n0,s1,lzs,lzf,lzo,q1,a2,h0,hA,gs,cl5,hfo,a3,sW,tW,w0,lfv,hB,g3,nW,lW,w1,im1,im2,ll,lnm,lke,lsg,rS,Qo,ok1,ok2,ok3,QA,QW,Zb,ZT,Zc,ZX]
 rfl
end Go.Ev.YtomfgcgnepfmjaaGreat

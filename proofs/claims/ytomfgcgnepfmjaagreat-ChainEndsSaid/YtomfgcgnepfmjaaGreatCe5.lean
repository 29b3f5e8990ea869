/- What the law leans on, part 5. -/
import Derived.Test.YtomfgcgnepfmjaaGreatCe4
import Derived.Deep.Matrix
set_option linter.unusedSimpArgs false
set_option linter.unusedVariables false
open Bool renaming false_and → Ke, false_eq_true → Zj
open Exists renaming intro → ZL
open List renaming append_assoc → Qv, append_nil → Q6, cons_append → Qw, drop → Zr, drop_append_of_le_length → ZH, drop_drop → Xz, drop_left → Px, drop_left' → Xn, drop_of_length_le → Ju, drop_zero → JQ, eq_nil_of_length_eq_zero → Zd, filter_append → Ua, filter_congr → Cl, flatten_append → Zs, flatten_cons → QI, flatten_nil → Z1, getD_eq_getElem?_getD → Qx, getElem?_append_left → Qa, getElem?_append_right → Qe, getElem?_eq_getElem → Qh, getElem?_eq_none → QK, getElem?_eq_some_iff → Qf, getElem?_map → Jo, getElem?_set_ne → Qm, getElem?_set_self → Qt, getElem?_take → QV, length → oL, length_append → Qg, length_cons → Zm, length_drop → QC, length_map → X6, length_nil → Zz, length_replicate → Qn, length_set → Qo, length_take → Q7, map_append → Xl, map_cons → Jc, map_nil → JN, mem_append → QJ, mem_cons → Jw, mem_cons_of_mem → XJ, mem_filter → V3, mem_map → ZV, mem_of_getElem? → Qz, mem_of_mem_drop → Zw, mem_of_mem_take → QQ, mem_range → Kd, mem_range'_1 → VT, mem_singleton → Zc, nil_append → Qr, not_mem_nil → JA, range → ZQ, range' → Xs, range_eq_range' → Kt, range_succ → HF, reduceReplicate → Qb, replicate → Qc, set_append_right → Q4, take → Q2, take_add_one → ZG, take_append_drop → ZR, take_append_of_le_length → ZT, take_left' → Jz, take_of_length_le → Qu, take_zero → JZ
open Nat renaming add_comm → Xy, add_mul → Zu, add_sub_cancel_left → Qq, div_add_mod → ZK, eq_zero_or_pos → ZB, le_refl → Qk, le_trans → Jf, lt_irrefl → Vy, lt_of_lt_of_le → QH, lt_or_ge → Zq, max_eq_left → Lp, min_eq_left → Ze, mod_lt → Q3, mul_one → XX, not_lt_zero → X5, pow_succ → Z0, pow_zero → Xe, sub_self → Qs, succ_mul → VR, zero_add → QA, zero_le → VG, zero_lt_one → Wp, zero_mul → Kp
open Option renaming bind_some → Qj, isNone_none → JX, some → VF
open Option.some renaming inj → Xk
namespace Go.Ev.YtomfgcgnepfmjaaGreat
open Go Go.Ev
attribute [local congr] Jq J7 Jp J8 Je
set_option maxRecDepth 100000
variable {nm key sg:List Nat} {e m:Nat} {H:List Ob} {tl:List Value} {pv:Value}
theorem HR {a v b:List Value} (h:v.length=a.length):splice (a++b) 0 v=v++b:=by
 rw [JK _ _ _ (by rw [Qg]; omega),QA,h,Xn rfl]; rfl
theorem Tt:Mn=plc (Qc 32 0) 0 0 (Qc 32 0) []:=rfl
theorem Pz:K8=plc (Qc 32 0) 0 0 (Qc 32 0) []++u8s (Qc 32 0):=rfl
theorem TA {e':Nat} (h1:nm.length=32):(plc nm e m key tl).set 32 (.int .u32 e')=plc nm e' m key tl:=by
 rw [plc,Q4 _ _ (by rw [Qp,h1]; decide),Qp,h1]; rfl
theorem T9 {nm':List Nat} (h1:nm.length=32) (h2:nm'.length=32):splice (plc nm e m key tl) 0 (u8s nm')=plc nm' e m key tl:=by
 rw [plc,HR (by rw [Qp,Qp,h1,h2])]; rfl
theorem IS (h1:nm.length=32) (h2:key.length=32):fillL Mn [(0,32,.agg (u8s nm).toArray),(32,1,.int .u32 (e:Nat)),(34,32,.agg (u8s key).toArray)]=some (plc nm e 0 key []):=by
 have c1:(Value.agg (u8s nm).toArray).cells.size=32:=by show (u8s nm).length=32; rw [Qp,h1]
 have c2:(Value.agg (u8s key).toArray).cells.size=32:=by show (u8s key).length=32; rw [Qp,h2]
 have lz:(Qc 32 0).length=32:=rfl
 have l0:=JD (e:=0) (m:=0) (tl:=[]) lz lz
 have l1:=JD (e:=0) (m:=0) (tl:=[]) h1 lz
 have l2:=JD (e:=e) (m:=0) (tl:=[]) h1 lz
 rw [Tt,fillL,if_pos ⟨c1,by rw [l0]; decide,rfl⟩,show (Value.agg (u8s nm).toArray).cells.toList=u8s nm from rfl,T9 lz h1,fillL,if_pos ⟨rfl,by rw [l1]; decide,rfl⟩,show (Value.int .u32 (e:Nat)).cells.toList=[.int .u32 (e:Nat)] from rfl,Xu,TA h1,fillL,if_pos ⟨c2,by rw [l2]; decide,rfl⟩,show (Value.agg (u8s key).toArray).cells.toList=u8s key from rfl,BV h1 lz h2,fillL]
theorem W3 (nm:List Nat) (e m:Nat) (key:List Nat) (tl:List Value):plc nm e m key tl=plc nm e m key []++tl:=by simp [plc]
theorem OW (h1:nm.length=32) (h2:key.length=32) (h3:sg.length=32):fillL K8 [(0,66,.agg (plc nm e 0 key []).toArray),(66,32,.agg (u8s sg).toArray)]=some (plc nm e 0 key (u8s sg)):=by
 have lz:(Qc 32 0).length=32:=rfl
 have l0:=JD (e:=0) (m:=0) (tl:=[]) lz lz
 have l1:=JD (e:=e) (m:=0) (tl:=[]) h1 h2
 have c1:(Value.agg (plc nm e 0 key []).toArray).cells.size=66:=l1
 have c2:(Value.agg (u8s sg).toArray).cells.size=32:=by show (u8s sg).length=32; rw [Qp,h3]
 rw [Pz,fillL,if_pos ⟨c1,by rw [Qg,l0]; decide,rfl⟩,show (Value.agg (plc nm e 0 key []).toArray).cells.toList=plc nm e 0 key [] from rfl,HR (by rw [l0,l1]),fillL,if_pos ⟨c2,by rw [Qg,l1]; decide,rfl⟩,show (Value.agg (u8s sg).toArray).cells.toList=u8s sg from rfl,JK _ _ _ (by rw [Qg,l1,Qp,Qp,h3]; decide),Jz (show (plc nm e 0 key []).length=66 from l1),Ju (by rw [Qg,l1,Qp,Qp,h3]; decide),Q6,fillL,W3 nm e 0 key (u8s sg)]
theorem L5 (h1:nm.length=32) (h2:key.length=32) (h3:sg.length=32):Z9 T 28 [.agg (u8s nm).toArray,.int .u32 (e:Nat),.agg (u8s key).toArray,.agg (u8s sg).toArray]=some (.agg (plc nm e 0 key (u8s sg)).toArray):=by
 have f1:=IS (e:=e) h1 h2
 have f2:=OW (e:=e) h1 h2 h3
 have lp:=JD (e:=e) (m:=0) (tl:=u8s sg) h1 h2
 rw [Qp,h3] at lp
 have lz:K8.length=98:=rfl
 have ok1:∀ L:List Value,(Value.agg L.toArray).cells.toList=L:=fun _=>rfl
 have ok2:∀ L:List Value,(Value.agg L.toArray).cells.size=L.length:=fun _=>rfl
 have ok3:∀ L:List Value,okVar (Value.agg L.toArray)=true:=fun _=>rfl
 have t1:Q2 32 (u8s nm)=u8s nm:=Q5 (by rw [Qp,h1])
 have t2:Q2 32 (u8s key)=u8s key:=Q5 (by rw [Qp,h2])
 have t3:Q2 32 (u8s sg)=u8s sg:=Q5 (by rw [Qp,h3])
 generalize plc nm e 0 key (u8s sg)=P,plc nm e 0 key []=P0 at *
 have tp:Q2 98 P=P:=Q5 (by omega)
 have lp':P.length=98:=by omega
 have sp:=QO (cs:=K8) (v:=P) (by rw [lp',lz])
 apply ZI (fn:=nK) rfl
 simp only [nK,Q1,quiet,cW,↓pW,reduceCtorEq,seval,-Qb,f1,f2,lp',lz,ok1,ok2,ok3,t1,t2,t3,tp,sp,h1,h2,h3,Kx,Qp]
 rfl
def rL (s m:List Nat):List Nat:=MI (pfL s++m)
def frL (s m:List Nat):List Nat:=enc (JO (num 256 (rL s m)) Kh)
def chL (front pub m:List Nat):List Nat:=MI (front++(pub++m))
def bkL (s m:List Nat):List Nat:=mA (chL (frL s m) (pubL s) m) (scL s) (rL s m)
def Un (s m:List Nat):List Nat:=frL s m++bkL s m
theorem Mb (s m:List Nat):(frL s m).length=32:=GJ _
theorem AT (s m:List Nat):∀ y∈frL s m,y<256:=bY _
theorem KV (s:List Nat):(pubL s).length=32:=GJ _
theorem Ay (s:List Nat):∀ y∈pubL s,y<256:=bY _
theorem Mi (s m:List Nat):(bkL s m).length=32:=mB
theorem Lc (s m:List Nat):∀ y∈bkL s m,y<256:=mA_lt
theorem C8 (s m:List Nat):(Un s m).length=64:=by rw [Un,Qg,Mb,Mi]
theorem ec (s m:List Nat):∀ y∈Un s m,y<256:=by
 intro y hy
 rcases QJ.1 hy with h | h
 ·exact AT s m y h
 ·exact Lc s m y h
theorem Pv {a b n c:Nat} {fa fb:List Nat} {e:Bool} {s:Nat} (ha:H[a]?=some ⟨u8s fa,true,true,true,1⟩) (hb:H[b]?=some ⟨u8s fb,true,true,e,s⟩) (hn:fa.length=n) (hm:fb.length=m) (h0:0<m) (hs:n+m≤1000) :
  Zv 1 1 H (.slice (some ⟨a,0,none⟩) n n) (.slice (some ⟨b,0,none⟩) m c)=some (.slice (some ⟨H.length,0,none⟩) (n+m) (n+m),H++[⟨u8s (fa++fb),true,true,false,1⟩],none,[]):=by
 have h4:liveAt H a=some ⟨u8s fa,true,true,true,1⟩:=QX ha rfl
 have k2:elemsOf H 1 m (.slice (some ⟨b,0,none⟩) m c)=some (u8s fb):=by
  simp [elemsOf,QX hb rfl,Qp,hm]
  exact Qu (by rw [Qp,hm]; exact Qk _)
 have h8:elemsOf H 1 n (.slice (some ⟨a,0,none⟩) n n)=some (u8s fa):=by
  simp [elemsOf,h4,Qp,hn]
  exact Qu (by rw [Qp,hn]; exact Qk _)
 have h1:¬ m=0:=by omega
 have h2:(n+m)*1≤2^47:=by omega
 have h7:¬ (n+m≤n):=by omega
 have k1:Go.Ev.lenV (.slice (some ⟨b,0,none⟩) m c)=some m:=rfl
 simp only [Zv,k1,k2,Qj,if_neg h1,h2,Nat.zero_lt_succ,Nat.lt_add_one,Wp,and_self,not_true_eq_false,if_false,if_true,h4,h8,if_neg h7,Ob.grown,←JH]
theorem fU {s:List Nat} {ps:List (List Nat)} (ls:s.length=32) (xs:∀ y∈s,y<256) (hp:Args H pv ps) (hn:ps.length≤1000) (hb:ps.flatten.length<2^48) :
  ∃ l,Zb T 40 [.agg (u8s s).toArray,pv] H=some (.agg (u8s (Un s ps.flatten)).toArray,H++l,[]):=by
 have hz:Qc 32 (Value.int .u8 0)=u8s (dig 256 32 0):=rfl
 have lz:(dig 256 32 0).length=32:=rfl
 have hz64:=YH
 have lz64:(Qc 64 0).length=64:=Qn
 have hh:=EJ ls xs
 have l1:=UR s
 have l2:=DX s
 have l3:(scL s++pfL s).length=64:=by rw [Qg,l1,l2]
 have x3:∀ y∈scL s++pfL s,y<256:=fun y hy=>(QJ.1 hy).elim (At s y) (lJ s y)
 obtain ⟨B,hB,rB⟩:=Lg
 obtain ⟨P,hP,rP⟩:=Yg rB (UR s) (At s)
 have hE:=GI rP
 rw [show enc (JO (num 256 (scL s)) Kh)=pubL s from rfl] at hE
 have lA:=KV s
 obtain ⟨G1,hG1⟩:∃ X,X=H++[(⟨u8s s,true,true,true,1⟩:Ob),⟨u8s (Qc 64 0),true,true,true,1⟩,⟨u8s (scL s++pfL s),true,true,true,1⟩,⟨u8s (pubL s),true,true,true,1⟩,⟨[.slice (some ⟨H.length+2,32,none⟩) 32 32],true,true,true,1⟩]:=⟨_,rfl⟩
 have lG1:G1.length=H.length+5:=by rw [hG1]; simp
 have gz:G1[H.length+1]?=some ⟨u8s (Qc 64 0),true,true,true,1⟩:=by rw [hG1,Qe (by omega),Qq]; rfl
 have gh:G1[H.length+2]?=some ⟨u8s (scL s++pfL s),true,true,true,1⟩:=by rw [hG1,Qe (by omega),Qq]; rfl
 have gA:G1[H.length+3]?=some ⟨u8s (pubL s),true,true,true,1⟩:=by rw [hG1,Qe (by omega),Qq]; rfl
 have ga:G1[H.length+4]?=some ⟨[.slice (some ⟨H.length+2,32,none⟩) 32 32],true,true,true,1⟩:=by rw [hG1,Qe (by omega),Qq]; rfl
 have hp1:Args G1 pv ps:=by rw [hG1]; exact hp.app
 have part1:HPart (LtN G1.length) G1 (.slice (some ⟨H.length+2,32,none⟩) 32 32) (pfL s):=by
  have:=HPart.arr (n:=G1.length) (off:=32) (m:=32) (c:=32) (by omega) gh x3 (by rw [l3]; decide) (by decide)
  rwa [ZH (by omega),Ju (by omega),Qr,Qu (by omega)] at this
 obtain ⟨v1,k1,ha1,hA1⟩:=UH (n:=1) ga rfl (.cons part1 .nil) hp1 (by decide) hn
 obtain ⟨k2,hr⟩:=YI hA1 (by rw [Zs,QI,Z1,Q6,Qg,l2]; omega)
 rw [Zs,QI,Z1,Q6,show MI (pfL s++ps.flatten)=rL s ps.flatten from rfl] at hr
 have lr:(rL s ps.flatten).length=32:=Gn
 obtain ⟨G2,hG2⟩:∃ X,X=G1++(k1++k2):=⟨_,rfl⟩
 have lG2:G1.length≤G2.length:=by rw [hG2]; simp
 obtain ⟨P2,hP2,rP2⟩:=Yg rB lr DV
 have hE2:=GI rP2
 rw [show enc (JO (num 256 (rL s ps.flatten)) Kh)=frL s ps.flatten from rfl] at hE2
 have lF:=Mb s ps.flatten
 obtain ⟨G3,hG3⟩:∃ X,X=G2++[(⟨u8s (rL s ps.flatten),true,true,true,1⟩:Ob),⟨u8s (frL s ps.flatten),true,true,true,1⟩,⟨[.slice (some ⟨G2.length+1,0,none⟩) 32 32,.slice (some ⟨H.length+3,0,none⟩) 32 32],true,true,true,1⟩]:=⟨_,rfl⟩
 have lG3:G3.length=G2.length+3:=by rw [hG3]; simp
 have up13:∀ i,i<G1.length→G3[i]?=G1[i]? := fun i hi=>by rw [hG3,Qa (by omega),hG2,Qa hi]
 have hr3:G3[G2.length]?=some ⟨u8s (rL s ps.flatten),true,true,true,1⟩:=by rw [hG3,Qe (Qk _),Qs]; rfl
 have hf3:G3[G2.length+1]?=some ⟨u8s (frL s ps.flatten),true,true,true,1⟩:=by rw [hG3,Qe (by omega),Qq]; rfl
 have harr3:G3[G2.length+2]?=some ⟨[.slice (some ⟨G2.length+1,0,none⟩) 32 32,.slice (some ⟨H.length+3,0,none⟩) 32 32],true,true,true,1⟩:=by rw [hG3,Qe (by omega),Qq]; rfl
 have hp3:Args G3 pv ps:=hp1.ext up13 (by omega)
 have partF:HPart (LtN G3.length) G3 (.slice (some ⟨G2.length+1,0,none⟩) 32 32) (frL s ps.flatten):=by
  have:=HPart.whole (n:=G3.length) (c:=32) (by omega) hf3 (AT s _) (by rw [lF]; decide)
  rwa [lF] at this
 have partA:HPart (LtN G3.length) G3 (.slice (some ⟨H.length+3,0,none⟩) 32 32) (pubL s):=by
  have:=HPart.whole (n:=G3.length) (c:=32) (by omega) ((up13 _ (by omega)).trans gA) (Ay s) (by rw [lA]; decide)
  rwa [lA] at this
 obtain ⟨v3,k3,ha3,hA3⟩:=UH (n:=2) harr3 rfl (.cons partF (.cons partA .nil)) hp3 (by decide) hn
 obtain ⟨k4,hk⟩:=YI hA3 (by rw [Zs,QI,QI,Z1,Q6,Qg,Qg,lF,lA]; omega)
 rw [Zs,QI,QI,Z1,Q6,Qv,show MI (frL s ps.flatten++(pubL s++ps.flatten))=chL (frL s ps.flatten) (pubL s) ps.flatten from rfl] at hk
 have lk:(chL (frL s ps.flatten) (pubL s) ps.flatten).length=32:=Gn
 obtain ⟨G4,hG4⟩:∃ X,X=G3++(k3++k4):=⟨_,rfl⟩
 have lG4:G3.length≤G4.length:=by rw [hG4]; simp
 have up34:∀ i,i<G3.length→G4[i]?=G3[i]? := fun i hi=>by rw [hG4,Qa hi]
 obtain ⟨q,hm⟩:=Oo lk l1 lr DV (At s) DV
 have hmv:=GA hm
 rw [show mA (chL (frL s ps.flatten) (pubL s) ps.flatten) (scL s) (rL s ps.flatten)=bkL s ps.flatten from rfl] at hmv
 have lB:=Mi s ps.flatten
 obtain ⟨G5,hG5⟩:∃ X,X=G4++[(⟨u8s (chL (frL s ps.flatten) (pubL s) ps.flatten),true,true,true,1⟩:Ob),⟨u8s (bkL s ps.flatten),true,true,true,1⟩]:=⟨_,rfl⟩
 have lG5:G5.length=G4.length+2:=by rw [hG5]; simp
 have hf5:G5[G2.length+1]?=some ⟨u8s (frL s ps.flatten),true,true,true,1⟩:=by rw [hG5,Qa (by omega),up34 _ (by omega)]; exact hf3
 have hb5:G5[G4.length+1]?=some ⟨u8s (bkL s ps.flatten),true,true,true,1⟩:=by rw [hG5,Qe (by omega),Qq]; rfl
 have hap:=Pv (c:=32) hf5 hb5 lF lB (by decide) (by decide)
 rw [show frL s ps.flatten++bkL s ps.flatten=Un s ps.flatten from rfl] at hap
 have lS:=C8 s ps.flatten
 have g4h:∀ l:List Ob,(G4++l)[H.length+2]?=some ⟨u8s (scL s++pfL s),true,true,true,1⟩:=fun l=>by rw [Qa (by omega),up34 _ (by omega),up13 _ (by omega)]; exact gh
 have g4r:∀ l:List Ob,(G4++l)[G2.length]?=some ⟨u8s (rL s ps.flatten),true,true,true,1⟩:=fun l=>by rw [Qa (by omega),up34 _ (by omega)]; exact hr3
 have g5z:∀ l:List Ob,(G5++l)[H.length+1]?=some ⟨u8s (Qc 64 0),true,true,true,1⟩:=fun l=>by rw [Qa (by omega),hG5,Qa (by omega),up34 _ (by omega),up13 _ (by omega)]; exact gz
 have hfr:∀ i,i<H.length→((G5++[(⟨u8s (Un s ps.flatten),true,true,false,1⟩:Ob)]).set (H.length+1) (⟨u8s (Un s ps.flatten),true,true,true,1⟩:Ob))[i]?=H[i]? := fun i hi=>by
  rw [Qm (by omega),Qa (by omega),hG5,Qa (by omega),up34 _ (by omega),up13 _ (by omega),hG1,Qa hi]
 obtain ⟨l,hl⟩:=XE (H:=H) (by rw [Qo,Qg]; omega) hfr
 refine ⟨l,?_⟩
 rw [←hl]
 have g6:∀ o:Ob,((G5++[(⟨u8s (Un s ps.flatten),true,true,false,1⟩:Ob)]).set (H.length+1) o)[H.length+1]?=some o:=fun o=>Qt (by rw [Qg]; omega)
 have f1:fillL [Value.slice none 0 0] [(0,1,.slice (some ⟨H.length+2,32,none⟩) 32 32)]=some [.slice (some ⟨H.length+2,32,none⟩) 32 32]:=rfl
 have f2:fillL [Value.slice none 0 0,.slice none 0 0] [(0,1,.slice (some ⟨G2.length+1,0,none⟩) 32 32),(1,1,.slice (some ⟨H.length+3,0,none⟩) 32 32)]=some [.slice (some ⟨G2.length+1,0,none⟩) 32 32,.slice (some ⟨H.length+3,0,none⟩) 32 32]:=rfl
 have t1:Q2 32 (u8s (scL s++pfL s))=u8s (scL s):=by rw [Vl,ZT (by omega),Qu (by omega)]
 have F1:H++[(⟨u8s s,true,true,true,1⟩:Ob),⟨u8s (Qc 64 0),true,true,true,1⟩,⟨u8s (scL s++pfL s),true,true,true,1⟩,⟨u8s (pubL s),true,true,true,1⟩,⟨[.slice (some ⟨H.length+2,32,none⟩) 32 32],true,true,true,1⟩]=G1:=hG1.symm
 have F2:G1++(k1++k2)=G2:=hG2.symm
 have F3:G2++[(⟨u8s (rL s ps.flatten),true,true,true,1⟩:Ob),⟨u8s (frL s ps.flatten),true,true,true,1⟩,⟨[.slice (some ⟨G2.length+1,0,none⟩) 32 32,.slice (some ⟨H.length+3,0,none⟩) 32 32],true,true,true,1⟩]=G3:=hG3.symm
 have F4:G3++(k3++k4)=G4:=hG4.symm
 have F5:G4++[(⟨u8s (chL (frL s ps.flatten) (pubL s) ps.flatten),true,true,true,1⟩:Ob),⟨u8s (bkL s ps.flatten),true,true,true,1⟩]=G5:=hG5.symm
 have im1:Qy H.length [] [G2.length]=[]:=QE (by simp; omega)
 have im2:Qy H.length [] [G2.length+1]=[]:=QE (by simp; omega)
 have im3:Qy H.length [] [G4.length]=[]:=QE (by simp; omega)
 have im4:Qy H.length [] [G4.length+1]=[]:=QE (by simp; omega)
 have ls1:[Value.slice (some ⟨H.length+2,32,none⟩) 32 32].length=1:=rfl
 clear hG1 hG2 hG3 hG4 hG5 hl hfr hm hA1 hA3 partF partA part1
 rw [Qv] at hr hk
 generalize Un s ps.flatten=S,bkL s ps.flatten=Bk,chL (frL s ps.flatten) (pubL s) ps.flatten=Ck at *
 generalize frL s ps.flatten=Fr,rL s ps.flatten=R,pubL s=A,scL s++pfL s=Hv at *
 generalize scL s=Sc,dig 256 32 0=Z,Qc 64 0=Z64 at *
 rw [QD (fn:=oF) rfl]
 simp only [oF,Q1,quiet,cW,↓pW,reduceCtorEq,seval,-Qb,hz,hz64,hh,hB,hP,hE,f1,F1,ha1,hr,F2,hP2,hE2,f2,F3,ha3,hk,F4,g4h,g4r,t1,hmv,F5,hap,g5z,g6,im1,im2,im3,im4,QW,Zf,ZU,Zg,Qp,ls,lz,lz64,l1,l3,lA,lr,lF,lk,lB,lS,Q5,Qn,ZX]
def Nu (pub front back m:List Nat) (c:Int):Prop :=
 ((∀ A,enc A≠pub)∧c=60)∨∃ A,enc A=pub ∧
  (((JO 8 A=K0∨¬ num 256 back<ell)∧c=70)∨(JO 8 A≠K0∧num 256 back<ell ∧
   (((∀ R,enc R≠front)∧c=70)∨∃ R,enc R=front∧c=if XU (JO (num 256 back) Kh) (JO (num 256 (chL front pub m)) A.neg)=R then 0 else 70)))
theorem PT {k l:List Nat} (lk:k.length=32) (ll:l.length=32):vEq (some (Qc 32 true)) true (.agg (u8s k).toArray) (.agg (u8s l).toArray)=some (.bool (!(k==l))):=by
 rw [Cw,Ve lk ll]
 rfl
theorem Fm {pub front back:List Nat} {ps:List (List Nat)} (lp:pub.length=32) (xp:∀ y∈pub,y<256) (lf:front.length=32) (xf:∀ y∈front,y<256) (lb:back.length=32) (xb:∀ y∈back,y<256) (hp:Args H pv ps) (hn:ps.length≤1000) (hb:ps.flatten.length<2^48) :
  ∃ l c,Zb T 25 [.agg (u8s pub).toArray,.agg (u8s (front++back)).toArray,pv] H=some (.int .i64 c,H++l,[])∧Nu pub front back ps.flatten c:=by
 have hz:Qc 32 (Value.int .u8 0)=u8s (dig 256 32 0):=rfl
 have lz:(dig 256 32 0).length=32:=rfl
 have hz20:∃ O,Qc 20 (Value.int .u64 0)=ns .u64 O∧O.length=20:=⟨Qc 20 0,rfl,rfl⟩
 obtain ⟨O,hz20,lO⟩:=hz20
 have rft:∀ (r:List Nat) (c:Int),rf (Value.tuple #[eV r,.int .i64 c])=true:=fun r c=>Au (a:=eV r) (b := .int .i64 c) (ZX r) rfl
 have lS:(front++back).length=64:=by rw [Qg,lf,lb]
 have t1:Q2 32 (u8s (front++back))=u8s front:=by rw [Vl,ZT (by omega),Qu (by omega)]
 have t2:Q2 32 (Zr 32 (u8s (front++back)))=u8s back:=by rw [Uj,ZH (by omega),Ju (by omega),Qr,Vl,Qu (by omega)]
 rcases Fh lp xp with ⟨A,a,hA,rA,eA⟩ | ⟨A,hA,lA,hno⟩
 ·have p1:=rA.len
  have ht:=kM rA
  obtain ⟨qc,hcn⟩:=Cc lb xb
  have hcv:=GA hcn
  unfold Pf at hA
  by_cases htiny:JO 8 a=K0
  ·rw [decide_eq_true htiny] at ht
   have hx:∃ l,Zb T 25 [.agg (u8s pub).toArray,.agg (u8s (front++back)).toArray,pv] H=some (.int .i64 70,H++l,[]):=by
    generalize front++back=S at *
    generalize dig 256 32 0=Z at *
    apply ZL
    rw [QD (fn:=Dp) rfl]
    simp only [Dp,Q1,quiet,cW,↓pW,reduceCtorEq,seval,-Qb,hz,hz20,hA,t1,t2,ht, QW,Zf,ZU,Zg,QP,Qp,lp,lf,lb,lS,lz,lO,p1,Q5,Qn,rft,ZX]
    rfl
   obtain ⟨l,hx⟩:=hx
   exact ⟨l,70,hx,.inr ⟨a,eA,.inl ⟨.inl htiny,rfl⟩⟩⟩
  ·rw [decide_eq_false htiny] at ht
   by_cases hc:num 256 back<ell
   ·rw [decide_eq_true hc] at hcv
    rcases Fh lf xf with ⟨R,r,hR,rR,eR⟩ | ⟨R,hR,lR,hnR⟩
    ·have p2:=rR.len
     unfold Pf at hR
     obtain ⟨G1,hG1⟩:∃ X,X=H++[(⟨u8s pub,true,true,true,1⟩:Ob),⟨u8s (front++back),true,true,true,1⟩,⟨ns .u64 A,true,true,true,1⟩,⟨u8s front,true,true,true,1⟩,⟨u8s back,true,true,true,1⟩,⟨ns .u64 R,true,true,true,1⟩,⟨[.slice (some ⟨H.length+3,0,none⟩) 32 32,.slice (some ⟨H.length,0,none⟩) 32 32],true,true,true,1⟩]:=⟨_,rfl⟩
     have lG1:G1.length=H.length+7:=by rw [hG1]; simp
     have gp:G1[H.length]?=some ⟨u8s pub,true,true,true,1⟩:=by rw [hG1,Qe (by omega),Qs]; rfl
     have gA:G1[H.length+2]?=some ⟨ns .u64 A,true,true,true,1⟩:=by rw [hG1,Qe (by omega),Qq]; rfl
     have gf:G1[H.length+3]?=some ⟨u8s front,true,true,true,1⟩:=by rw [hG1,Qe (by omega),Qq]; rfl
     have gb:G1[H.length+4]?=some ⟨u8s back,true,true,true,1⟩:=by rw [hG1,Qe (by omega),Qq]; rfl
     have ga:G1[H.length+6]?=some ⟨[.slice (some ⟨H.length+3,0,none⟩) 32 32,.slice (some ⟨H.length,0,none⟩) 32 32],true,true,true,1⟩:=by rw [hG1,Qe (by omega),Qq]; rfl
     have hp1:Args G1 pv ps:=by rw [hG1]; exact hp.app
     have partF:HPart (LtN G1.length) G1 (.slice (some ⟨H.length+3,0,none⟩) 32 32) front:=by
      have:=HPart.whole (n:=G1.length) (c:=32) (by omega) gf xf (by rw [lf]; decide)
      rwa [lf] at this
     have partP:HPart (LtN G1.length) G1 (.slice (some ⟨H.length,0,none⟩) 32 32) pub:=by
      have:=HPart.whole (n:=G1.length) (c:=32) (by omega) gp xp (by rw [lp]; decide)
      rwa [lp] at this
     obtain ⟨v1,k1,ha1,hA1⟩:=UH (n:=2) ga rfl (.cons partF (.cons partP .nil)) hp1 (by decide) hn
     obtain ⟨k2,hk⟩:=YI hA1 (by rw [Zs,QI,QI,Z1,Q6,Qg,Qg,lf,lp]; omega)
     rw [Zs,QI,QI,Z1,Q6,Qv,show MI (front++(pub++ps.flatten))=chL front pub ps.flatten from rfl,Qv] at hk
     have lk:(chL front pub ps.flatten).length=32:=Gn
     obtain ⟨G2,hG2⟩:∃ X,X=G1++(k1++k2):=⟨_,rfl⟩
     have lG2:G1.length≤G2.length:=by rw [hG2]; simp
     have up:∀ i,i<G1.length→∀ l:List Ob,(G2++l)[i]?=G1[i]? := fun i hi l=>by rw [Qa (by omega),hG2,Qa hi]
     obtain ⟨B,hB,rB⟩:=Lg
     obtain ⟨X,hX,rX⟩:=Yg rB lb xb
     obtain ⟨NA,hNA,rNA⟩:=mr rA
     obtain ⟨Y,hY,rY⟩:=Yg rNA lk DV
     obtain ⟨S,dS,hS,ES⟩:=iT (H:=G2++[(⟨u8s (chL front pub ps.flatten),true,true,true,1⟩:Ob),⟨ns .u64 [X,Y].flatten,true,true,true,1⟩]) (id:=G2.length+1) (n:=2) (xs:=[X,Y]) rfl (by decide) (.cons rX (.cons rY .nil)) (by rw [Qe (by omega),Qq]; rfl)
     simp only [Jc,JN,Qw,Qv,Qr] at hS
     rw [fold2] at ES
     have hE:=GI ES
     have lE:=GJ (XU (JO (num 256 back) Kh) (JO (num 256 (chL front pub ps.flatten)) a.neg))
     have g1:=mM rX rY
     have q1:=rX.len
     have q2:=rY.len
     have q3:=ES.len
     have hq:=PT lE lf
     have hd:(enc (XU (JO (num 256 back) Kh) (JO (num 256 (chL front pub ps.flatten)) a.neg))==front)=decide (XU (JO (num 256 back) Kh) (JO (num 256 (chL front pub ps.flatten)) a.neg)=r):=by rw [←eR,Nj]
     rw [hd] at hq
     have uA:=fun l=>(up _ (by omega) l).trans gA
     have uf:=fun l=>(up _ (by omega) l).trans gf
     have ub:=fun l=>(up _ (by omega) l).trans gb
     have f2:fillL [Value.slice none 0 0,.slice none 0 0] [(0,1,.slice (some ⟨H.length+3,0,none⟩) 32 32),(1,1,.slice (some ⟨H.length,0,none⟩) 32 32)]=some [.slice (some ⟨H.length+3,0,none⟩) 32 32,.slice (some ⟨H.length,0,none⟩) 32 32]:=rfl
     have F1:H++[(⟨u8s pub,true,true,true,1⟩:Ob),⟨u8s (front++back),true,true,true,1⟩,⟨ns .u64 A,true,true,true,1⟩,⟨u8s front,true,true,true,1⟩,⟨u8s back,true,true,true,1⟩,⟨ns .u64 R,true,true,true,1⟩,⟨[.slice (some ⟨H.length+3,0,none⟩) 32 32,.slice (some ⟨H.length,0,none⟩) 32 32],true,true,true,1⟩]=G1:=hG1.symm
     have F2:G1++(k1++k2)=G2:=hG2.symm
     have im1:Qy H.length [] [G2.length]=[]:=QE (by simp; omega)
     have hfr:∀ l:List Ob,∃ l',G2++l=H++l':=fun l=>⟨_,by rw [hG2,hG1,Qv,Qv]⟩
     by_cases hfin:XU (JO (num 256 back) Kh) (JO (num 256 (chL front pub ps.flatten)) a.neg)=r
     ·rw [decide_eq_true hfin] at hq
      have hx:∃ l,Zb T 25 [.agg (u8s pub).toArray,.agg (u8s (front++back)).toArray,pv] H=some (.int .i64 0,G2++l,[]):=by
       clear hG1 hG2 hd up hfr
       generalize front++back=SG at *
       generalize dig 256 32 0=Z,chL front pub ps.flatten=Ck at *
       generalize enc (XU (JO (num 256 back) Kh) (JO (num 256 Ck) a.neg))=E at *
       apply ZL
       rw [QD (fn:=Dp) rfl]
       simp only [Dp,Q1,quiet,cW,↓pW,reduceCtorEq,seval,-Qb,hz,hz20,hA,t1,t2,ht,hcv,hR,f2,F1,ha1,hk,F2,im1,hB,hX,hNA,hY,g1,hS,hE,hq,uA,uf,ub,QW,Zf,ZU,Zg,QP,Qp,lp,lf,lb,lS,lz,lO,lk,lE,p1,p2,q1,q2,q3,Q5,Qn,rft,ZX]
       rfl
      obtain ⟨l,hx⟩:=hx
      obtain ⟨l',hl'⟩:=hfr l
      rw [hl'] at hx
      exact ⟨l',0,hx,.inr ⟨a,eA,.inr ⟨htiny,hc,.inr ⟨r,eR,by rw [if_pos hfin]⟩⟩⟩⟩
     ·rw [decide_eq_false hfin] at hq
      have hx:∃ l,Zb T 25 [.agg (u8s pub).toArray,.agg (u8s (front++back)).toArray,pv] H=some (.int .i64 70,G2++l,[]):=by
       clear hG1 hG2 hd up hfr
       generalize front++back=SG at *
       generalize dig 256 32 0=Z,chL front pub ps.flatten=Ck at *
       generalize enc (XU (JO (num 256 back) Kh) (JO (num 256 Ck) a.neg))=E at *
       apply ZL
       rw [QD (fn:=Dp) rfl]
       simp only [Dp,Q1,quiet,cW,↓pW,reduceCtorEq,seval,-Qb,hz,hz20,hA,t1,t2,ht,hcv,hR,f2,F1,ha1,hk,F2,im1,hB,hX,hNA,hY,g1,hS,hE,hq,uA,uf,ub,QW,Zf,ZU,Zg,QP,Qp,lp,lf,lb,lS,lz,lO,lk,lE,p1,p2,q1,q2,q3,Q5,Qn,rft,ZX]
       rfl
      obtain ⟨l,hx⟩:=hx
      obtain ⟨l',hl'⟩:=hfr l
      rw [hl'] at hx
      exact ⟨l',70,hx,.inr ⟨a,eA,.inr ⟨htiny,hc,.inr ⟨r,eR,by rw [if_neg hfin]⟩⟩⟩⟩
    ·unfold Pf at hR
     have hx:∃ l,Zb T 25 [.agg (u8s pub).toArray,.agg (u8s (front++back)).toArray,pv] H=some (.int .i64 70,H++l,[]):=by
      generalize front++back=S at *
      generalize dig 256 32 0=Z at *
      apply ZL
      rw [QD (fn:=Dp) rfl]
      simp only [Dp,Q1,quiet,cW,↓pW,reduceCtorEq,seval,-Qb,hz,hz20,hA,t1,t2,ht,hcv,hR,lR,QW,Zf,ZU,Zg,QP,Qp,lp,lf,lb,lS,lz,lO,p1,Q5,Qn,rft,ZX]
      rfl
     obtain ⟨l,hx⟩:=hx
     exact ⟨l,70,hx,.inr ⟨a,eA,.inr ⟨htiny,hc,.inl ⟨hnR,rfl⟩⟩⟩⟩
   ·rw [decide_eq_false hc] at hcv
    have hx:∃ l,Zb T 25 [.agg (u8s pub).toArray,.agg (u8s (front++back)).toArray,pv] H=some (.int .i64 70,H++l,[]):=by
     generalize front++back=S at *
     generalize dig 256 32 0=Z at *
     apply ZL
     rw [QD (fn:=Dp) rfl]
     simp only [Dp,Q1,quiet,cW,↓pW,reduceCtorEq,seval,-Qb,hz,hz20,hA,t1,t2,ht,hcv,QW,Zf,ZU,Zg,QP,Qp,lp,lf,lb,lS,lz,lO,p1,Q5,Qn,rft,ZX]
     rfl
    obtain ⟨l,hx⟩:=hx
    exact ⟨l,70,hx,.inr ⟨a,eA,.inl ⟨.inr hc,rfl⟩⟩⟩
 ·unfold Pf at hA
  have hx:Zb T 25 [.agg (u8s pub).toArray,.agg (u8s (front++back)).toArray,pv] H=some (.int .i64 60,H++[⟨u8s pub,true,true,true,1⟩,⟨u8s (front++back),true,true,true,1⟩,⟨ns .u64 A,true,true,true,1⟩],[]):=by
   generalize front++back=S at *
   generalize dig 256 32 0=Z at *
   rw [QD (fn:=Dp) rfl]
   simp only [Dp,Q1,quiet,cW,↓pW,reduceCtorEq,seval,-Qb,hz,hz20,hA,t1,t2,QW,Zf,ZU,Zg,QP,Qp,lp,lS,lz,lO,lA,Q5,Qn,rft,ZX]
  exact ⟨_,60,hx,.inl ⟨hno,rfl⟩⟩
end Go.Ev.YtomfgcgnepfmjaaGreat
namespace Go.Ev.YtomfgcgnepfmjaaGreat
open Go Go.Ev
open Go.NT (Pr)
set_option maxRecDepth 100000
theorem lp1:Pr 531581:=Go.NT.Kj (f:=729) (by decide) (by decide) (by decide +kernel)
theorem lp2:Pr 1224481:=Go.NT.Kj (f:=1106) (by decide) (by decide) (by decide +kernel)
theorem lp3:Pr 1257559732178653:=Go.NT.Wm (q:=531581) (k:=2365697292) (a:=2) (q2:=1224481) (k2:=1027014492) (a2:=2) (f:=51) lp1 lp2 (by decide +kernel)
theorem lp4:Pr 4434155615661930479:=Go.NT.V8 (q:=1257559732178653) (k:=3526) (a:=2) (f:=62) lp3 (by decide +kernel)
theorem lp5:Pr 172054593956031949258510691:=Go.NT.V8 (q:=4434155615661930479) (k:=38802110) (a:=2) (f:=88) lp4 (by decide +kernel)
theorem lp6:Pr 19757330305831588566944191468367130476339:=Go.NT.V8 (q:=172054593956031949258510691) (k:=114831751082918) (a:=2) (f:=134) lp5 (by decide +kernel)
theorem lp7:Pr 276602624281642239937218680557139826668747:=Go.NT.V8 (q:=19757330305831588566944191468367130476339) (k:=14) (a:=2) (f:=138) lp6 (by decide +kernel)
theorem TW:Pr ell:=Go.NT.V8 (q:=276602624281642239937218680557139826668747) (k:=26163907866482859529727157400808004) (a:=2) (f:=253) lp7 (by decide +kernel)
theorem iO:Kh≠K0:=fun h=>IV (by rw [h,T6])
theorem NP (p:Go.Cv.Pt Go.Fp.P Go.Fp.d):JO 1 p=p:=Go.Cv.mul_one Go.Fp.fld p
theorem NY {n:Nat} (h:JO n Kh=K0):ell∣n:=by
 refine Classical.byContradiction fun hn => ?_
 have hf:=Go.NT.Df TW hn
 apply iO
 have e1:ell-1=(ell-2)+1:=by decide +kernel
 have h2:n^(ell-1)=n^(ell-2)*n:=by rw [e1,Z0]
 have h3:JO (n^(ell-1)) Kh=K0:=by rw [h2,MQ,h,T6]
 rw [←CL Fa,hf,NP] at h3
 exact h3
theorem gY (n:Nat) (h:ell∣8*n):ell∣n:=by
 have hc:Nat.Coprime ell 8:=Go.NT.Pr.coprime TW (by decide +kernel)
 exact hc.dvd_of_dvd_mul_left h
theorem Pk {a:List Nat} {x y:Nat} (la:a.length=32) (xa:∀ z∈a,z<256) (hx:a[0]?=some x) (hy:a[31]?=some y):num 256 (Ky a x y)%8=0∧2^254≤num 256 (Ky a x y)∧num 256 (Ky a x y)<2^255:=by
 have hx':=xa x (Qz hx)
 have hy':=xa y (Qz hy)
 obtain ⟨t,ht⟩:∃ t,a=x::t:=by
  cases a with
  | nil=>simp at hx
  | cons z t=>simp at hx; subst hx; exact ⟨t,rfl⟩
 have e8:x&&&248=x/8*8:=(by decide +kernel:∀ v,v<256→v&&&248=v/8*8) x hx'
 have e64:(y&&&127)|||64=y%64+64:=(by decide +kernel:∀ v,v<256→(v&&&127)|||64=v%64+64) y hy'
 have h1:=Y4 (B:=256) (x&&&248) hx
 have hy2:(a.set 0 (x&&&248))[31]?=some y:=by rw [Qm (by decide)]; exact hy
 have h2:=Y4 (B:=256) ((y&&&127)|||64) hy2
 have hV:=num_lt xa
 rw [la] at hV
 have hg:=VN (by decide:0<256) xa hy
 have hm:num 256 a%256=x:=by
  have:=VN (by decide:0<256) xa hx
  rwa [Xe,Nat.div_one] at this
 unfold Ky
 rw [e8] at h1 h2 ⊢
 rw [e64] at h2 ⊢
 have e31:(256:Nat)^31=452312848583266388373324160190187140051835877600158453279131187530910662656:=by decide
 have e32:(256:Nat)^32=115792089237316195423570985008687907853269984665640564039457584007913129639936:=by decide
 have e254:(2:Nat)^254=28948022309329048855892746252171976963317496166410141009864396001978282409984:=by decide
 have e255:(2:Nat)^255=57896044618658097711785492504343953926634992332820282019728792003956564819968:=by decide
 rw [Xe,XX,XX] at h1
 rw [e31] at h2 hg
 rw [e32] at hV
 rw [e254,e255]
 generalize num 256 ((a.set 0 (x/8*8)).set 31 (y%64+64))=N2 at *
 generalize num 256 (a.set 0 (x/8*8))=N1 at *
 generalize num 256 a=N at *
 have hyq:N/452312848583266388373324160190187140051835877600158453279131187530910662656=y:=by omega
 have hdm:=ZK N 452312848583266388373324160190187140051835877600158453279131187530910662656
 rw [hyq] at hdm
 have hmlt:=Q3 N (by decide:0<452312848583266388373324160190187140051835877600158453279131187530910662656)
 have hlow:N%452312848583266388373324160190187140051835877600158453279131187530910662656%256=x:=by omega
 generalize N%452312848583266388373324160190187140051835877600158453279131187530910662656=M at *
 refine ⟨?_,?_,?_⟩<;>omega
theorem eg (s:List Nat):num 256 (scL s)%8=0∧2^254≤num 256 (scL s)∧num 256 (scL s)<2^255:=by
 obtain ⟨x,g0,d0,lx⟩:=HP s (i:=0) (by decide)
 obtain ⟨z,g31,d31,lz⟩:=HP s (i:=31) (by decide)
 unfold scL
 rw [d0,d31]
 exact Pk (by rw [Q7,VM]; rfl) (fun y hy=>MA s y (QQ hy)) (by rw [QV,if_pos (by decide)]; exact g0) (by rw [QV,if_pos (by decide)]; exact g31)
theorem Ss (s:List Nat):¬ ell∣num 256 (scL s):=by
 obtain ⟨h1,h2,h3⟩:=eg s
 generalize num 256 (scL s)=a at *
 intro hd
 obtain ⟨k,rfl⟩:=hd
 have h7:k<8:=Nat.lt_of_mul_lt_mul_left (a:=ell) (Nat.lt_trans h3 (by decide +kernel))
 have h0:0<k:=by
  rcases ZB k with h | h
  ·rw [h,Nat.mul_zero] at h2
   exact absurd h2 (by decide)
  ·exact h
 have hm:ell*k%8=(ell%8)*k%8:=by rw [Nat.mod_mul_mod]
 have he:ell%8=5:=by decide +kernel
 rw [hm,he] at h1
 clear h2 h3 hm he
 omega
end Go.Ev.YtomfgcgnepfmjaaGreat
namespace Go.Ev.YtomfgcgnepfmjaaGreat
open Go Go.Ev
set_option maxRecDepth 100000
theorem EZ {p q:Go.Cv.Pt Go.Fp.P Go.Fp.d} (h:enc p=enc q):p=q:=by
 have:=Nj p q
 rw [h] at this
 simp at this
 exact this
theorem SR (k:Nat) (p:Go.Cv.Pt Go.Fp.P Go.Fp.d):JO k p.neg=(JO k p).neg:=Go.Cv.mul_neg Go.Fp.fld k p
theorem Ly {s m:List Nat} {c:Int} (h:Nu (pubL s) (frL s m) (bkL s m) m c):c=0:=by
 have hA:enc (JO (num 256 (scL s)) Kh)=pubL s:=rfl
 have hR:enc (JO (num 256 (rL s m)) Kh)=frL s m:=rfl
 have hb:num 256 (bkL s m)=(num 256 (chL (frL s m) (pubL s) m)*num 256 (scL s)+num 256 (rL s m))%ell:=mh _ _ _
 have hnt:JO 8 (JO (num 256 (scL s)) Kh)≠K0:=fun h=>Ss s (gY _ (NY (by rw [MQ]; exact h)))
 have hblt:num 256 (bkL s m)<ell:=by rw [hb]; exact Q3 _ AX
 rcases h with ⟨h,-⟩ | ⟨A,eA,h⟩
 ·exact absurd hA (h _)
 ·have e1:=EZ (eA.trans hA.symm)
  rw [e1] at h
  rcases h with h | h
  ·obtain ⟨h,-⟩:=h
   cases h with
   | inl h=>exact absurd h hnt
   | inr h=>exact absurd hblt h
  ·have h:=h.2.2
   rcases h with ⟨h,-⟩ | ⟨R,eR,h⟩
   ·exact absurd hR (h _)
   ·have e2:=EZ (eR.trans hR.symm)
    rw [e2] at h
    rw [h,if_pos]
    rw [hb,CL Fa,SS,MQ,SR]
    generalize num 256 (chL (frL s m) (pubL s) m)=k
    generalize JO k (JO (num 256 (scL s)) Kh)=X
    rw [NV X,Im,ae,Il]
end Go.Ev.YtomfgcgnepfmjaaGreat
namespace Go.Ev.YtomfgcgnepfmjaaGreat
open Go Go.Ev Go.Fp
abbrev PtE:=Go.Cv.Pt Go.Fp.P Go.Fp.d
def Fr (X Z:Fe) (p:PtE):Prop:=∃ l:Fe,l≠0∧X=l*(1+p.y)∧Z=l*(1-p.y)
end Go.Ev.YtomfgcgnepfmjaaGreat
namespace Go.Ev.YtomfgcgnepfmjaaGreat
open Go Go.Ev
attribute [local congr] Jq J7 Jp J8 Je
set_option maxRecDepth 100000
variable {n:Nat} {a b v:List Value}
theorem Grown.ob {k:IntKind} {B:Nat} {H:List Ob} {s:Value} {bs:List Nat} (h:Grown k B H s bs) (h0:0<bs.length):∃ id x,s=.slice (some ⟨id,0,none⟩) bs.length bs.length∧B≤id∧H[id]?=some ⟨ns k bs,true,true,x,1⟩:=by
 cases h with
 | nil=>exact absurd h0 (by decide)
 | @own id _ h1 h2 h3=>exact ⟨id,false,rfl,h1,h3⟩
 | @new id _ h1 h2 h3=>exact ⟨id,true,rfl,h1,h3⟩
theorem Grown.weak {k:IntKind} {B N:Nat} {H:List Ob} {s:Value} {bs:List Nat} (h:Grown k N H s bs) (hB:B≤N):Grown k B H s bs:=by
 cases h with
 | nil=>exact .nil
 | own h1 h2 h3=>exact .own (by omega) h2 h3
 | new h1 h2 h3=>exact .new (by omega) h2 h3
theorem w8n (h:n<256):IntKind.u8.wrap (n:Int)=n:=by rw [Uv,Nat.mod_eq_of_lt h]
def tL (x y z:List Nat):List Nat:=x++(y++z)
theorem kP {x y z:List Nat} (hx:x.length=16) (hy:y.length=16) (hz:z.length=16):(tL x y z).length=48:=by simp [tL,hx,hy,hz]
structure RRep (x y z:List Nat) (p:Go.Cv.Pt Go.Fp.P Go.Fp.d):Prop where
 nx:Nm x
 ny:Nm y
 nz:Nm z
 ne:nf z≠0
 x:nf x=p.x*nf z
 y:nf y=p.y*nf z
def RP (l:List Nat) (p:Go.Cv.Pt Go.Fp.P Go.Fp.d):Prop:=∃ x y z,l=tL x y z∧RRep x y z p
theorem RP.len {l:List Nat} {p:Go.Cv.Pt Go.Fp.P Go.Fp.d} (h:RP l p):l.length=48:=by
 obtain ⟨x,y,z,rfl,h⟩:=h
 exact kP h.nx.len h.ny.len h.nz.len
theorem Ie {α:Type} {y:Option α}:Dx none y=y:=rfl
theorem take_set {X Y:List Nat} {i w:Nat} (lX:X.length=5) (lY:Y.length=5) (hi:i<5) (hw:Y[i]?=some w):(Y.take i++X.drop i).set i w=Y.take (i+1)++X.drop (i+1):=by
 have lt:(Y.take i).length=i:=by rw [Q7]; omega
 obtain ⟨v,hv⟩:∃ v,X[i]?=some v:=⟨_,Qh (by omega)⟩
 rw [Q4 _ _ (by omega),lt,Qs,List.drop_eq_getElem?_toList_append (i:=i),hv,ZG,hw]
 simp
abbrev LSt:=(Go.Fp.Fe×Go.Fp.Fe)×(Go.Fp.Fe×Go.Fp.Fe)
structure LRp (s:LSt) (ax az bx bz:List Nat):Prop where
 eax:El ax (2^52)
 eaz:El az (2^52)
 ebx:El bx (2^52)
 ebz:El bz (2^52)
 fax:fe ax=s.1.1
 faz:fe az=s.1.2
 fbx:fe bx=s.2.1
 fbz:fe bz=s.2.2
theorem Args.one {H:List Ob} {a b n c:Nat} {t:List Nat} {e:Bool} {s:Nat} (ha:H[a]?=some ⟨[.slice (some ⟨b,0,none⟩) n n],true,true,e,s⟩) {e':Bool} {s':Nat} (hb:H[b]?=some ⟨u8s t,true,true,e',s'⟩) (hn:t.length=n) (xt:∀ y∈t,y<256) (h40:n≤2^47-4096):Args H (.slice (some ⟨a,0,none⟩) 1 c) [t]:=by
 have hp:HPart (LtN H.length) H (.slice (some ⟨b,0,none⟩) n n) t:=by
  have:=HPart.whole (n:=H.length) (c:=n) (Qf.1 hb).1 hb xt (by omega)
  rwa [hn] at this
 exact Args.arr ha rfl (.cons hp .nil) (by decide)
structure BA (H0:List Ob) (bv:Value) (l:List Nat):Prop where
 len:vLen false bv=some (.int .i64 l.length)
 lt:∀ y∈l,y<256
 le:l.length≤2^47-4096
 fill:fillL [Value.slice none 0 0] [(0,1,bv)]=some [bv]
 whole:HPart (LtN H0.length) H0 bv l
 cut:∀ k,k≤l.length→∃ s1 s2,(∀ G:List Ob,(∀ i,i<H0.length→G[i]?=H0[i]?)→vSliceSl G 1 none (some (.int .i64 (k:Nat))) none bv=some s1∧vSliceSl G 1 (some (.int .i64 (k:Nat))) none none bv=some s2) ∧
  HPart (LtN H0.length) H0 s1 (l.take k)∧HPart (LtN H0.length) H0 s2 (l.drop k)
theorem BA.nil:BA [] (.slice none 0 0) [] :=
 ⟨rfl,by simp,by decide,rfl,⟨⟨_,_,rfl⟩,fun _ _=>rfl,by simp,by decide⟩,fun k hk=>by
  have:k=0:=by simpa using hk
  subst this
  exact ⟨.slice none 0 0,.slice none 0 0,fun G _=>⟨rfl,rfl⟩,⟨⟨_,_,rfl⟩,fun _ _=>rfl,by simp,by decide⟩,⟨⟨_,_,rfl⟩,fun _ _=>rfl,by simp,by decide⟩⟩⟩
theorem BA.some {l:List Nat} {n:Nat} (ln:l.length=n) (xl:∀ x∈l,x<256) (hm:n≤2^47-4096):BA [⟨u8s l,true,false,false,1⟩] (.slice (some ⟨0,0,none⟩) n n) l:=by
 subst ln
 refine ⟨rfl,xl,hm,rfl,HPart.whole (w:=false) (e:=false) (s:=1) (n:=1) (Wp) rfl xl hm,fun k hk => ?_⟩
 refine ⟨.slice (VF ⟨0,0,none⟩) k l.length,.slice (VF ⟨0,0+k,none⟩) (l.length-k) (l.length-k),fun G hG => ?_,?_,?_⟩
 ·have hg:G[0]?=VF ⟨u8s l,true,false,false,1⟩:=(hG 0 Wp).trans rfl
  have hlv:liveAt G 0=VF ⟨u8s l,true,false,false,1⟩:=QX hg rfl
  have b1:ZA l.length l.length none (VF (.int .i64 (k:Nat))) none=VF (0,k,l.length):=by
   rw [JC,J3 hk,Qj]; rfl
  have b2:ZA l.length l.length (VF (.int .i64 (k:Nat))) none none=VF (k,l.length,l.length):=by
   rw [JC,XO,Qj,J3 hk,Qj]
  rw [Vv,Vv,b1,b2,Qj,Qj,hlv,Qj,Qj]
  simp [gate]
 ·have:=HPart.arr (n:=1) (H:=[(⟨u8s l,true,false,false,1⟩:Ob)]) (id:=0) (off:=0) (m:=k) (c:=l.length) (by decide) rfl xl (by omega) (by omega)
  rwa [JQ] at this
 ·have:=HPart.arr (n:=1) (H:=[(⟨u8s l,true,false,false,1⟩:Ob)]) (id:=0) (off:=0+k) (m:=l.length-k) (c:=l.length-k) (by decide) rfl xl (by omega) (by omega)
  rw [QA,Qu (by rw [QC]; exact Qk _)] at this
  rw [QA]
  exact this
theorem Grown.set {k:IntKind} {B n:Nat} {H:List Ob} {s:Value} {xs:List Nat} {o:Ob} (h:Grown k B H s xs) (hn:n<B):Grown k B (H.set n o) s xs:=by
 cases h with
 | nil=>exact .nil
 | own h1 h2 h3=>exact .own h1 h2 (by rw [Qm (by omega)]; exact h3)
 | new h1 h2 h3=>exact .new h1 h2 (by rw [Qm (by omega)]; exact h3)
structure SoInv (bk:List Nat) (j:Nat) (b:List Nat) (c:Nat):Prop where
 len:b.length=32
 lt:∀ y∈b,y<256
 cle:c≤1
 eq:num 256 (b.take j)+c*256^j=num 256 (bk.take j)+num 256 (ordL.take j)
 rest:∀ i,j≤i→b[i]?=bk[i]?
theorem SoInv.step {bk b:List Nat} {j c x y:Nat} (h:SoInv bk j b c) (hj:j<32) (hx:b[j]?=some x) (hx':x<256) (hy:ordL[j]?=some y) (hy':y<256):SoInv bk (j+1) (b.set j ((c+(x+y))%256)) ((c+(x+y))/256):=by
 have hc:=h.cle
 have hb:=h.rest j (Qk _)
 rw [hx] at hb
 refine ⟨by rw [Qo]; exact h.len,W0 h.lt (Q3 _ (by decide)),by omega,?_,fun i hi=>by rw [Qm (by omega)]; exact h.rest i (by omega)⟩
 have e1:(b.set j ((c+(x+y))%256))[j]?=some ((c+(x+y))%256):=by rw [Qt (by rw [h.len]; exact hj)]
 have e2:(b.set j ((c+(x+y))%256)).take j=b.take j:=by
  rw [List.take_set,List.set_eq_of_length_le (by rw [Q7]; omega)]
 rw [XN e1,XN hb.symm,XN hy,e2]
 have h2:=h.eq
 have h3:=ZK (c+(x+y)) 256
 generalize (c+(x+y))/256=q at *
 generalize (c+(x+y))%256=r at *
 have e3:(256*q+r)*256^j=(c+(x+y))*256^j:=by rw [h3]
 have e4:q*256^(j+1)=256*q*256^j:=by rw [Z0]; simp only [Nat.mul_assoc,Nat.mul_left_comm,Nat.mul_comm]
 rw [e4]
 rw [Zu,Zu,Zu] at e3
 omega
structure OffL (w p o g:List Nat):Prop where
 lw:w.length=64
 lp:p.length=32
 lo:o.length=32
 lg:g.length=64
theorem T1 (h:v.length=a.length):splice (a++b) 0 v=v++b:=by
 rw [JK _ _ _ (by rw [Qg]; omega),JZ,Qr,QA,h,Px]
theorem T0 {k:Nat} (h:a.length=n) (hk:k+v.length≤b.length):splice (a++b) (n+k) v=a++splice b k v:=by
 rw [JK _ _ _ (by rw [Qg]; omega),JK _ _ _ hk,←h,List.take_append,Qu (by omega),Qq,Qv]
 congr 3
 rw [Nat.add_assoc,←Xz,Px]
def id4 (i:Nat):List Nat:=[i/2^24%256,i/2^16%256,i/2^8%256,i%256]
theorem IF (i:Nat):∀ y∈id4 i,y<256:=by
 intro y hy
 simp only [id4,Jw,JA,or_false] at hy
 rcases hy with rfl | rfl | rfl | rfl<;>exact Q3 _ (by decide)
def zK:List Nat:=dig 256 32 0
theorem P3:zK.length=32:=rfl
theorem U9 {G:List Ob} {id c:Nat} {b:List Nat} {w e:Bool} {s:Nat} (h:G[id]?=some ⟨u8s b,true,w,e,s⟩):elemsOf G 1 b.length (.slice (some ⟨id,0,none⟩) b.length c)=some (u8s b):=by
 simp [elemsOf,QX h rfl,Qp]
 exact Qu (by rw [Qp]; exact Qk _)
def AllS (B:Nat) (G:List Ob) (v:Value) (t:List Nat):Prop:=(∃ id,B<id∧v=.slice (some ⟨id,0,none⟩) 32 32∧t.length=32∧G[id]?=some ⟨u8s t,true,true,true,1⟩)∨Rst (fun i=>i≤B) G v t
theorem AllS.shape {B:Nat} {G:List Ob} {v:Value} {t:List Nat} (h:AllS B G v t):∃ a c,v=.slice a t.length c:=by
 rcases h with ⟨id,h1,rfl,h2,h3⟩ | h
 ·rw [h2]; exact ⟨_,_,rfl⟩
 ·exact h.shape
theorem AllS.part {B:Nat} {G:List Ob} {v:Value} {t:List Nat} (h:AllS B G v t) (xt:∀ y∈t,y<256) (lt:t.length≤1000):HPart (LtN G.length) G v t:=by
 rcases h with ⟨id,h1,rfl,h2,h3⟩ | h
 ·have:=HPart.whole (n:=G.length) (c:=32) (Qf.1 h3).1 h3 xt (by omega)
  rwa [h2] at this
 ·refine ⟨h.shape,fun G' hG' => ?_,xt,by omega⟩
  have h':Rst (fun i=>i≤B) G' v t:=h.ext fun i hi=>hG' i hi
  exact h'.elems
theorem AllS.ext {B:Nat} {G G':List Ob} {v:Value} {t:List Nat} (h:AllS B G v t) (hg:∀ i,i<G.length→G'[i]?=G[i]?):AllS B G' v t:=by
 rcases h with ⟨id,h1,h0,h2,h3⟩ | h
 ·exact .inl ⟨id,h1,h0,h2,(hg id (Qf.1 h3).1).trans h3⟩
 ·exact .inr (h.ext hg)
end Go.Ev.YtomfgcgnepfmjaaGreat
namespace Go.Ev.YtomfgcgnepfmjaaGreat
open Go Go.Ev Go.Fp
set_option maxRecDepth 100000
def kE (n:Nat):List Nat:=dig 256 32 n
end Go.Ev.YtomfgcgnepfmjaaGreat
namespace Go.Ev.YtomfgcgnepfmjaaGreat
open Go Go.Ev
attribute [local congr] Jq J7 Jp J8 Je
set_option maxRecDepth 100000
variable {n:Nat}
theorem XH {C:List Value} {o:Nat} {v:Value} {r:List (Nat×Nat×Value)} (h1:v.cells.size=n) (h2:o+n≤C.length) (h3:okVar v=true):fillL C ((o,n,v)::r)=fillL (splice C o v.cells.toList) r:=by
 conv=>lhs; unfold fillL
 rw [if_pos ⟨h1,h2,h3⟩]
theorem VA {l:List Nat} (h:l.length=n):(Value.agg (u8s l).toArray).cells.size=n:=by show (u8s l).length=n; rw [Qp,h]
theorem EV {a:List Nat} (la:a.length=64):fillL (Qc 64 (Value.int .u8 0)) [(0,64,.agg (u8s a).toArray)]=some (u8s a):=by
 unfold fillL
 rw [if_pos ⟨by show (u8s a).length=64; rw [Qp,la],by rw [Qn]; decide,rfl⟩,show (Value.agg (u8s a).toArray).cells.toList=u8s a from rfl,QO (by rw [Qp,la,Qn])]
 rfl
end Go.Ev.YtomfgcgnepfmjaaGreat
namespace Go.Ev.YtomfgcgnepfmjaaGreat
open Go Go.Ev
set_option maxRecDepth 100000
structure K5 (A B F pre once:List Nat):Prop where
 lA:A.length=64
 xA:∀ y∈A,y<256
 lB:B.length=64
 xB:∀ y∈B,y<256
 lF:F.length=32
 xF:∀ y∈F,y<256
 lp:pre.length=32
 xp:∀ y∈pre,y<256
 lo:once.length=32
 xo:∀ y∈once,y<256
end Go.Ev.YtomfgcgnepfmjaaGreat
namespace Go.Ev.YtomfgcgnepfmjaaGreat
open Go Go.Ev
attribute [local congr] Jq J7 Jp J8 Je
set_option maxRecDepth 100000
variable {n e m B i x:Nat} {nm t key sg pub:List Nat} {G G0 H:List Ob} {pv ka na sa da:Value} {L:List (List Nat)} {tl:List Value}
theorem kE_lt (n:Nat):∀ y∈kE n,y<256:=UA
theorem AL (n:Nat):(kE n).length=32:=Zt _ _ _
def OutS (K:Nat→Prop) (G:List Ob) (v:Value) (t:List Nat):Prop:=(∃ id,¬ K id∧v=.slice (some ⟨id,0,none⟩) t.length t.length∧G[id]?=some ⟨u8s t,true,true,true,1⟩)∨Rst K G v t
theorem OutS.append {K:Nat→Prop} {G:List Ob} {v x:Value} {t p:List Nat} (h:OutS K G v t) (hK:∀ i,K i→i<G.length) (hl:Go.Ev.lenV x=some p.length) (he:elemsOf G 1 p.length x=some (u8s p)) (hb:t.length+p.length≤2^47) :
  ∃ v' G' M,Zv 1 1 G v x=some (v',G',none,M)∧OutS K G' v' (t++p)∧(∀ i∈M,¬ K i)∧G.length≤G'.length∧∀ i,K i→G'[i]?=G[i]? := by
 rcases h with ⟨id,h1,rfl,h2⟩ | h
 ·rcases ZB p.length with hn | hn
  ·have:p=[]:=Zd hn
   subst this
   refine ⟨_,G,[],?_,.inl ⟨id,h1,by rw [Q6],by rw [Q6]; exact h2⟩,by simp,Qk _,fun _ _=>rfl⟩
   have he':elemsOf G 1 0 x=some []:=he
   have hl':Go.Ev.lenV x=some 0:=hl
   simp only [Zv,hl',he',Qj,if_true]
  ·have h8:elemsOf G 1 t.length (.slice (some ⟨id,0,none⟩) t.length t.length)=some (u8s t):=by
    simp [elemsOf,QX h2 rfl,Qp]
    exact Qu (by rw [Qp]; exact Qk _)
   have hz:¬ p.length=0:=by omega
   have h3:(t.length+p.length)*1≤2^47∧0<1∧0<1:=⟨by omega,by decide,by decide⟩
   have h4:¬ (t.length+p.length≤t.length):=by omega
   refine ⟨.slice (some ⟨G.length,0,none⟩) (t++p).length (t++p).length,G++[⟨u8s (t++p),true,true,false,1⟩],[],?_,.inr (.own (fun hk=>by have:=hK _ hk; omega) (by rw [Qe (Qk _),Qs]; rfl) (by omega) (fun i _=>by rw [QA])),by simp,by simp,fun i hi=>by rw [Qa (hK i hi)]⟩
   simp only [Zv,hl,he,h8,QX h2 rfl,Qj,if_neg hz,h3,h4,and_self,not_true_eq_false,if_false,if_true,Ob.grown,JH,Qg]
 ·obtain ⟨v',G',M,k1,k2,k3,k4,k5,-⟩:=h.append hK hl he hb
  exact ⟨v',G',M,k1,.inr k2,k3,k4,k5⟩
theorem OutS.setK {K:Nat→Prop} {G:List Ob} {v:Value} {t:List Nat} (h:OutS K G v t) {j:Nat} (hj:K j) (o:Ob):OutS K (G.set j o) v t:=by
 have hne:∀ id,¬ K id→(G.set j o)[id]?=G[id]? := fun id hid=>Qm (by rintro rfl; exact hid hj)
 rcases h with ⟨id,h1,h0,h2⟩ | h
 ·exact .inl ⟨id,h1,h0,by rw [hne id h1]; exact h2⟩
 ·refine .inr ?_
  cases h with
  | nil=>exact .nil
  | empty h1 h2=>exact .empty h1 (by rw [hne _ h1]; exact h2)
  | own h1 h2 h4 h3=>exact .own h1 (by rw [hne _ h1]; exact h2) h4 h3
theorem OutS.app {K:Nat→Prop} {G m:List Ob} {v:Value} {t:List Nat} (h:OutS K G v t):OutS K (G++m) v t:=by
 rcases h with ⟨id,h1,h0,h2⟩ | h
 ·exact .inl ⟨id,h1,h0,by rw [Qa (Qf.1 h2).1]; exact h2⟩
 ·exact .inr h.app
theorem OutS.shape {K:Nat→Prop} {G:List Ob} {v:Value} {t:List Nat} (h:OutS K G v t):∃ a c,v=.slice a t.length c:=by
 rcases h with ⟨id,-,rfl,-⟩ | h
 ·exact ⟨_,_,rfl⟩
 ·exact h.shape
theorem OutS.okVar {K:Nat→Prop} {G:List Ob} {v:Value} {t:List Nat} (h:OutS K G v t):okVar v=true:=by
 obtain ⟨a,c,rfl⟩:=h.shape; rfl
theorem OutS.cells {K:Nat→Prop} {G:List Ob} {v:Value} {t:List Nat} (h:OutS K G v t):v.cells.toList=[v]∧v.cells.size=1:=by
 obtain ⟨a,c,rfl⟩:=h.shape; exact ⟨rfl,rfl⟩
def wob (v:Value):Ob:=⟨[v],true,true,true,1⟩
structure Wr (K:Nat→Prop) (G:List Ob) (wid:Nat) (v:Value) (t:List Nat):Prop where
 ob:G[wid]?=some (wob v)
 kw:K wid
 kl:∀ i,K i→i<G.length
 out:OutS K G v t
theorem Wr.put {K:Nat→Prop} {G:List Ob} {wid:Nat} {v x:Value} {t p:List Nat} (h:Wr K G wid v t) (hl:Go.Ev.lenV x=some p.length) (he:elemsOf G 1 p.length x=some (u8s p)) (hb:t.length+p.length≤2^47) :
  ∃ v' G' M,Zv 1 1 G v x=some (v',G',none,M)∧G'[wid]?=some (wob v)∧v'.cells.toList=[v']∧v'.cells.size=1∧okVar v'=true∧Wr K (G'.set wid (wob v')) wid v' (t++p)∧(∀ i∈M,¬ K i)∧G.length≤G'.length∧∀ i,K i→i≠wid→(G'.set wid (wob v'))[i]?=G[i]? := by
 obtain ⟨v',G',M,k1,k2,k3,k4,k5⟩:=h.out.append h.kl hl he hb
 have hw:=(k5 wid h.kw).trans h.ob
 refine ⟨v',G',M,k1,hw,k2.cells.1,k2.cells.2,k2.okVar,⟨by rw [Qt (Qf.1 hw).1],h.kw,fun i hi=>by rw [Qo]; exact QH (h.kl i hi) k4,k2.setK h.kw _⟩,k3,k4,fun i hi hne => ?_⟩
 rw [Qm (fun e=>hne e.symm)]
 exact k5 i hi
theorem Wr.app {K:Nat→Prop} {G m:List Ob} {wid:Nat} {v:Value} {t:List Nat} (h:Wr K G wid v t):Wr K (G++m) wid v t :=
 ⟨by rw [Qa (Qf.1 h.ob).1]; exact h.ob,h.kw,fun i hi=>by rw [Qg]; exact QH (h.kl i hi) (Nat.le_add_right _ _),h.out.app⟩
theorem TG {K:Nat→Prop} {wid:Nat} {v:Value} (h:Wr K G wid v t) (hb:t.length≤2^46) :
  ∃ v' G' M,Zb T 83 [.pointer (some ⟨wid,0,none⟩),.int .u32 n] G=some (.tuple #[],G',M)∧Wr K G' wid v' (t++id4 n)∧G.length≤G'.length∧(∀ i∈M,i=wid∨¬ K i)∧∀ i,K i→i≠wid→G'[i]?=G[i]? := by
 have s1:(n:Int).fdiv (2^min 24 IntKind.u32.bits)=((n/2^24:Nat):Int):=Dw (r:=24) (by decide)
 have s2:(n:Int).fdiv (2^min 16 IntKind.u32.bits)=((n/2^16:Nat):Int):=Dw (r:=16) (by decide)
 have s3:(n:Int).fdiv (2^min 8 IntKind.u32.bits)=((n/2^8:Nat):Int):=Dw (r:=8) (by decide)
 have w1:=Uv (n/2^24)
 have w2:=Uv (n/2^16)
 have w3:=Uv (n/2^8)
 have w4:=Uv n
 have f2:∀ x0 x1 x2 x3:Nat,fillL [Value.int .u8 0,.int .u8 0,.int .u8 0,.int .u8 0] [(0,1,.int .u8 (x0:Int)),(1,1,.int .u8 (x1:Int)),(2,1,.int .u8 (x2:Int)),(3,1,.int .u8 (x3:Int))]=some (u8s [x0,x1,x2,x3]):=fun _ _ _ _=>rfl
 have hx:(G++[(⟨u8s (id4 n),true,true,true,1⟩:Ob)])[G.length]?=some ⟨u8s (id4 n),true,true,true,1⟩:=by rw [Qe (Qk _),Qs]; rfl
 have he:elemsOf (G++[(⟨u8s (id4 n),true,true,true,1⟩:Ob)]) 1 (id4 n).length (.slice (some ⟨G.length,0,none⟩) 4 4)=some (u8s (id4 n)):=by
  exact U9 (c:=4) hx
 obtain ⟨v',G',M,k1,k2,k3,k4,k5,k6,k7,k8,k9⟩:=(h.app (m:=[(⟨u8s (id4 n),true,true,true,1⟩:Ob)])).put (p:=id4 n) (x := .slice (some ⟨G.length,0,none⟩) 4 4) rfl he (by show _+4≤_; omega)
 rw [Qg] at k8
 refine ⟨v',_,Qy G.length (Qy G.length [] M) [wid],?_,k6,by rw [Qo]; omega,?_,fun i hi hne => ?_⟩
 ·have o1:=h.ob
  have o2:(G++[(⟨u8s (id4 n),true,true,true,1⟩:Ob)])[wid]?=some (wob v):=h.app.ob
  unfold wob id4 at *
  generalize n/2^24%256=x0 at *
  generalize n/2^16%256=x1 at *
  generalize n/2^8%256=x2 at *
  generalize n%256=x3 at *
  generalize n/2^24=y0 at *
  generalize n/2^16=y1 at *
  generalize n/2^8=y2 at *
  have sp:∀ a b:Value,splice [a] 0 [b]=[b]:=fun _ _=>rfl
  rw [QD (fn:=oh) rfl]
  simp only [oh,Q1,quiet,cW,↓pW,reduceCtorEq,seval,-Qb,f2,s1,s2,s3,w1,w2,w3,w4,o1,o2,k1,k2,k3,k4,k5,sp,Q5,QW,Zf,ZU,Zg,Qp,Qn,ZX]
  rfl
 ·intro i hi
  rcases Za hi with h' | h'
  ·rcases Za h' with h' | h'
   ·cases h'
   ·exact .inr (k7 i h')
  ·exact .inl (Zc.1 h')
 ·rw [k9 i hi hne,Qa (h.kl i hi)]
def shp (k:Int):Option (Nat×Nat×Nat×Bool) :=
 if k=1 then some (4,2,1,false) else if k=2 then some (3,2,0,true) else if k=3 then some (1,2,0,true) else if k=4 then some (3,2,0,false) else if k=5 then some (1,2,1,true) else if k=6 then some (3,3,1,true) else if k=7 then some (1,1,0,true) else none
def shV (a b c:Nat) (d:Bool):List Value:=[.int .i64 a,.int .i64 b,.int .i64 c,.bool d]
theorem ed (k:Int):Z9 T 82 [.int .i64 k]=some (match shp k with | some (a,b,c,d)=>.tuple #[.agg (shV a b c d).toArray,.int .i64 0] | none=>.tuple #[.agg (shV 0 0 0 false).toArray,.int .i64 110]):=by
 have hf:∀ (a b c:Int) (d:Bool),fillL [Value.int .i64 0,.int .i64 0,.int .i64 0,.bool false] [(0,1,.int .i64 a),(1,1,.int .i64 b),(2,1,.int .i64 c),(3,1,.bool d)]=some [Value.int .i64 a,.int .i64 b,.int .i64 c,.bool d]:=fun _ _ _ _=>rfl
 have f0:fillL [Value.int .i64 0,.int .i64 0,.int .i64 0,.bool false] []=some [Value.int .i64 0,.int .i64 0,.int .i64 0,.bool false]:=rfl
 have im:∀ k,Qy 0 [] [k]=[]:=fun k=>QE (by simp)
 have sp:∀ (a b c d e f g h:Value),splice [a,b,c,d] 0 [e,f,g,h]=[e,f,g,h]:=fun _ _ _ _ _ _ _ _=>rfl
 apply Kv
 by_cases h:k=1∨k=2∨k=3∨k=4∨k=5∨k=6∨k=7
 ·rcases h with rfl | rfl | rfl | rfl | rfl | rfl | rfl <;>
  ·apply ZL
   rw [QD (fn:=du) rfl]
   simp only [du,Q1,quiet,cW,↓pW,reduceCtorEq,seval,-Qb,hf,f0,im,sp]
   rfl
 simp only [not_or] at h
 obtain ⟨h1,h2,h3,h4,h5,h6,h7⟩:=h
 have e:shp k=none:=by unfold shp; simp only [h1,h2,h3,h4,h5,h6,h7,if_false]
 rw [e]
 apply ZL
 rw [QD (fn:=du) rfl]
 simp only [du,Q1,quiet,cW,↓pW,reduceCtorEq,seval,-Qb,hf,f0,im,sp,beq_eq_false_iff_ne.2 h1,beq_eq_false_iff_ne.2 h2,beq_eq_false_iff_ne.2 h3,beq_eq_false_iff_ne.2 h4,beq_eq_false_iff_ne.2 h5,beq_eq_false_iff_ne.2 h6,beq_eq_false_iff_ne.2 h7]
 rfl
theorem KU {L:List (List Nat)} (hL:∀ x∈L,x.length=n):L.flatten.length=L.length*n:=by
 induction L with
 | nil=>simp
 | cons a M ih=>rw [QI,Qg,ih (fun x hx=>hL x (XJ _ hx)),hL a (by simp),Zm,VR,Xy]
theorem Wf {P:List Nat} (hL:∀ x∈L,x.length=n) (hi:L[i]?=some P):Q2 n (Zr (i*n) (u8s L.flatten))=u8s P∧i*n+n≤(u8s L.flatten).length:=by
 have h1:=Qf.1 hi
 have lP:=hL P (Qz hi)
 have e1:L.flatten=(L.take i).flatten++(P++(L.drop (i+1)).flatten):=by
  rw [←QI,←Zs]
  congr 1
  conv=>lhs; rw [←ZR i L,List.drop_eq_getElem_cons h1.1,h1.2]
 have e2:(L.take i).flatten.length=i*n:=by
  rw [KU (n:=n) fun x hx=>hL x (QQ hx),Q7,Ze (Nat.le_of_lt h1.1)]
 constructor
 ·rw [e1,JH,JH,←e2,←Qp,Px,←lP,←Qp P,List.take_left]
 ·rw [Qp,KU hL]
  have:=Nat.mul_le_mul_right n (Nat.succ_le_of_lt h1.1)
  rwa [VR] at this
def Sq (G:List Ob) (es:Nat) (cs:List Value) (n:Nat) (v:Value):Prop:=(v=.slice none 0 0∧n=0∧cs=[])∨∃ id c w e s,v=.slice (some ⟨id,0,none⟩) n c∧G[id]?=some ⟨cs,true,w,e,s⟩∧cs.length=n*es
theorem Sq.app {G m:List Ob} {es:Nat} {cs:List Value} {n:Nat} {v:Value} (h:Sq G es cs n v):Sq (G++m) es cs n v:=by
 rcases h with h | ⟨id,c,w,e,s,h1,h2,h3⟩
 ·exact .inl h
 ·exact .inr ⟨id,c,w,e,s,h1,by rw [Qa (Qf.1 h2).1]; exact h2,h3⟩
theorem Sq.shape {G:List Ob} {es:Nat} {cs:List Value} {n:Nat} {v:Value} (h:Sq G es cs n v):∃ a c,v=.slice a n c:=by
 rcases h with ⟨rfl,rfl,-⟩ | ⟨id,c,w,e,s,rfl,-⟩
 ·exact ⟨_,_,rfl⟩
 ·exact ⟨_,_,rfl⟩
def KE (B i:Nat):Prop:=i<B+4∧i≠B+2
def Wq (B:Nat) (G0 G:List Ob) (t:List Nat):Prop:=∃ v,Wr (KE B) G (B+3) v t∧∀ i,KE B i→i≠B+3→G[i]?=G0[i]?
theorem Wc {B:Nat} {M:List Nat} (h:∀ i∈M,i=B+3∨¬ KE B i):Qy B [] M=[]:=QE fun i hi=>by
 rcases h i hi with h | h
 ·omega
 ·rcases Zq i B with h' | h'
  ·exact absurd ⟨by omega,by omega⟩ h
  ·exact h'
def _root_.Go.Value.slBlock (v:Value) (id:Nat):Prop:=match v with | .slice (some a) _ _=>a.block=id | _=>False
def Tk (B n:Nat) (pv:Value) (i:Nat) (G:List Ob) (ex:Env):St:=⟨[(1,.pointer (some ⟨B,0,none⟩)),(4,.pointer (some ⟨B+1,0,none⟩)),(6,.pointer (some ⟨B+3,0,none⟩)),(68,pv),(69,.int .i64 n),(70,.int .i64 i)]++ex,G,[]⟩
theorem bN {P:List Nat} (hs:Sq G0 32 (u8s L.flatten) n pv) (hB:∀ id,(∃ o,G0[id]?=some o)→pv.slBlock id→id<B) (hL:∀ x∈L,x.length=32) (hi:L[i]?=some P) (hin:i<n) (hn:n≤1000) (lt:t.length≤2^40) (h:Wq B G0 G t) :
  ∃ G',Q8 T B Bo (Tk B n pv i G [])=some (.normal,Tk B n pv (i+1) G' [])∧Wq B G0 G' (t++P):=by
 rcases hs with ⟨-,rfl,-⟩ | ⟨id,c,w,e,s,rfl,h2,h3⟩
 ·omega
 obtain ⟨v,hw,hf⟩:=h
 have lP:=hL P (Qz hi)
 obtain ⟨c1,c2⟩:=Wf hL hi
 have hid:id<B:=hB id ⟨_,h2⟩ rfl
 have g0:∀ m,(G++m)[id]?=some ⟨u8s L.flatten,true,w,e,s⟩:=fun m=>by
  have:=(hf id ⟨by omega,by omega⟩ (by omega)).trans h2
  rw [Qa (Qf.1 this).1]; exact this
 have g00:=g0 []
 rw [Q6] at g00
 have hx:(G++[(⟨u8s P,true,true,true,1⟩:Ob)])[G.length]?=some ⟨u8s P,true,true,true,1⟩:=by rw [Qe (Qk _),Qs]; rfl
 have he:=U9 (c:=32) hx
 rw [lP] at he
 obtain ⟨v',G',M,k1,k2,k3,k4,k5,k6,k7,k8,k9⟩:=(hw.app (m:=[(⟨u8s P,true,true,true,1⟩:Ob)])).put (p:=P) (x := .slice (some ⟨G.length,0,none⟩) 32 32) (by rw [lP]; rfl) (by rw [lP]; exact he) (by rw [lP]; omega)
 refine ⟨_,?_,v',k6,fun j hj hne=>by rw [k9 j hj hne,Qa (hw.kl j hj)]; exact hf j hj hne⟩
 have o1:=hw.ob
 have o2:(G++[(⟨u8s P,true,true,true,1⟩:Ob)])[B+3]?=some (wob v):=hw.app.ob
 have hz:Qc 32 (Value.int .u8 0)=u8s (Qc 32 0):=by simp [u8s]
 have lz:(Qc 32 0).length=32:=Qn
 have sp:∀ a b:Value,splice [a] 0 [b]=[b]:=fun _ _=>rfl
 have b3:ZA 32 32 none none none=some (0,32,32):=rfl
 have e1:((i:Int)<(n:Int))=True:=eq_true (by omega)
 have w3:IntKind.i64.wrap ((i:Int)+1)=((i+1:Nat):Int):=Z4 (b:=1) (by omega)
 have im:Qy B [] M=[]:=Wc fun j hj=>.inr (k7 j hj)
 have im1:Qy B [] [B+3]=[]:=QE (by simp)
 have im2:Qy B [] [G.length]=[]:=QE (by have:=hw.kl (B+3) ⟨by omega,by omega⟩; simp; omega)
 unfold wob at *
 clear h3 hf hL hB hw hi k6 k9 he hx
 generalize Qc 32 0=Z,u8s L.flatten=LF at *
 generalize hik:i*32=ik at *
 generalize hi1:i+1=i1 at *
 simp only [Tk,Bo,Q1,quiet,cW,↓pW,reduceCtorEq,seval,-Qb,hz,hik,hi1,e1,w3,g0,g00,c1,c2,o1,o2,k1,k2,k3,k4,k5,sp,b3,im,im1,im2,lP,lz,Q5,QW,Zf,ZU,Zg,Qp,Qn,ZX]
theorem OU (hs:Sq G0 32 (u8s L.flatten) n pv) (hB:∀ id,(∃ o,G0[id]?=some o)→pv.slBlock id→id<B) (hL:∀ x∈L,x.length=32) (hn:L.length=n) (hm:n≤1000) (lt:t.length≤2^30) (h:Wq B G0 G t) :
  ∃ G',Q8 T B (.block 1 (.loop Bo)) (Tk B n pv 0 G [])=some (.normal,Tk B n pv n G' [(71,.bool false)])∧Wq B G0 G' (t++L.flatten):=by
 obtain ⟨st,hloop,G',rfl,r⟩:=QZ (T:=T) (base:=B) (id:=1) (body:=Bo)
  (fun k st=>∃ G,st=Tk B n pv k G []∧Wq B G0 G (t++(L.take k).flatten))
  (Q:=fun st=>∃ G,st=Tk B n pv n G [(71,.bool false)]∧Wq B G0 G (t++L.flatten))
  n (s:=Tk B n pv 0 G []) ⟨G,rfl,by rw [JZ,Z1,Q6]; exact h⟩
  (fun k st hk hst=>by
   obtain ⟨G1,rfl,h1⟩:=hst
   obtain ⟨P,hP⟩:∃ P,L[k]?=some P:=⟨_,Qh (by omega)⟩
   have lk:(L.take k).flatten.length=k*32:=by rw [KU (n:=32) fun x hx=>hL x (QQ hx),Q7,Ze (by omega)]
   obtain ⟨G2,b0,b1⟩:=bN hs hB hL hP hk hm (by rw [Qg,lk]; omega) h1
   refine ⟨_,b0,G2,rfl,?_⟩
   rw [ZG,hP,Zs,←Qv]
   simpa using b1)
  (fun st hst=>by
   obtain ⟨G1,rfl,h1⟩:=hst
   refine ⟨_,?_,G1,rfl,by rwa [Qu (by omega)] at h1⟩
   simp only [Tk,Bo,Q1,quiet,cW,↓pW,reduceCtorEq,seval,-Qb])
 exact ⟨G',hloop,r⟩
def Ti (B n:Nat) (pv:Value) (i:Nat) (G:List Ob) (ex:Env):St:=⟨[(1,.pointer (some ⟨B,0,none⟩)),(4,.pointer (some ⟨B+1,0,none⟩)),(6,.pointer (some ⟨B+3,0,none⟩)),(91,pv),(92,.int .i64 n),(93,.int .i64 i)]++ex,G,[]⟩
theorem bL {P:List Nat} (hs:Sq G0 64 (u8s L.flatten) n pv) (hB:∀ id,(∃ o,G0[id]?=some o)→pv.slBlock id→id<B) (hL:∀ x∈L,x.length=64) (hi:L[i]?=some P) (hin:i<n) (hn:n≤1000) (lt:t.length≤2^40) (h:Wq B G0 G t) :
  ∃ G',Q8 T B Bq (Ti B n pv i G [])=some (.normal,Ti B n pv (i+1) G' [])∧Wq B G0 G' (t++P):=by
 rcases hs with ⟨-,rfl,-⟩ | ⟨id,c,w,e,s,rfl,h2,h3⟩
 ·omega
 obtain ⟨v,hw,hf⟩:=h
 have lP:=hL P (Qz hi)
 obtain ⟨c1,c2⟩:=Wf hL hi
 have hid:id<B:=hB id ⟨_,h2⟩ rfl
 have g0:∀ m,(G++m)[id]?=some ⟨u8s L.flatten,true,w,e,s⟩:=fun m=>by
  have:=(hf id ⟨by omega,by omega⟩ (by omega)).trans h2
  rw [Qa (Qf.1 this).1]; exact this
 have g00:=g0 []
 rw [Q6] at g00
 have hx:(G++[(⟨u8s P,true,true,true,1⟩:Ob)])[G.length]?=some ⟨u8s P,true,true,true,1⟩:=by rw [Qe (Qk _),Qs]; rfl
 have he:=U9 (c:=64) hx
 rw [lP] at he
 obtain ⟨v',G',M,k1,k2,k3,k4,k5,k6,k7,k8,k9⟩:=(hw.app (m:=[(⟨u8s P,true,true,true,1⟩:Ob)])).put (p:=P) (x := .slice (some ⟨G.length,0,none⟩) 64 64) (by rw [lP]; rfl) (by rw [lP]; exact he) (by rw [lP]; omega)
 refine ⟨_,?_,v',k6,fun j hj hne=>by rw [k9 j hj hne,Qa (hw.kl j hj)]; exact hf j hj hne⟩
 have o1:=hw.ob
 have o2:(G++[(⟨u8s P,true,true,true,1⟩:Ob)])[B+3]?=some (wob v):=hw.app.ob
 have hz:Qc 64 (Value.int .u8 0)=u8s (Qc 64 0):=by simp [u8s]
 have lz:(Qc 64 0).length=64:=Qn
 have sp:∀ a b:Value,splice [a] 0 [b]=[b]:=fun _ _=>rfl
 have b3:ZA 64 64 none none none=some (0,64,64):=rfl
 have e1:((i:Int)<(n:Int))=True:=eq_true (by omega)
 have w3:IntKind.i64.wrap ((i:Int)+1)=((i+1:Nat):Int):=Z4 (b:=1) (by omega)
 have im:Qy B [] M=[]:=Wc fun j hj=>.inr (k7 j hj)
 have im1:Qy B [] [B+3]=[]:=QE (by simp)
 have im2:Qy B [] [G.length]=[]:=QE (by have:=hw.kl (B+3) ⟨by omega,by omega⟩; simp; omega)
 unfold wob at *
 clear h3 hf hL hB hw hi k6 k9 he hx
 generalize Qc 64 0=Z,u8s L.flatten=LF at *
 generalize hik:i*64=ik at *
 generalize hi1:i+1=i1 at *
 simp only [Ti,Bq,Q1,quiet,cW,↓pW,reduceCtorEq,seval,-Qb,hz,hik,hi1,e1,w3,g0,g00,c1,c2,o1,o2,k1,k2,k3,k4,k5,sp,b3,im,im1,im2,lP,lz,Q5,QW,Zf,ZU,Zg,Qp,Qn,ZX]
theorem OR (hs:Sq G0 64 (u8s L.flatten) n pv) (hB:∀ id,(∃ o,G0[id]?=some o)→pv.slBlock id→id<B) (hL:∀ x∈L,x.length=64) (hn:L.length=n) (hm:n≤1000) (lt:t.length≤2^30) (h:Wq B G0 G t) :
  ∃ G',Q8 T B (.block 5 (.loop Bq)) (Ti B n pv 0 G [])=some (.normal,Ti B n pv n G' [(94,.bool false)])∧Wq B G0 G' (t++L.flatten):=by
 obtain ⟨st,hloop,G',rfl,r⟩:=QZ (T:=T) (base:=B) (id:=5) (body:=Bq)
  (fun k st=>∃ G,st=Ti B n pv k G []∧Wq B G0 G (t++(L.take k).flatten))
  (Q:=fun st=>∃ G,st=Ti B n pv n G [(94,.bool false)]∧Wq B G0 G (t++L.flatten))
  n (s:=Ti B n pv 0 G []) ⟨G,rfl,by rw [JZ,Z1,Q6]; exact h⟩
  (fun k st hk hst=>by
   obtain ⟨G1,rfl,h1⟩:=hst
   obtain ⟨P,hP⟩:∃ P,L[k]?=some P:=⟨_,Qh (by omega)⟩
   have lk:(L.take k).flatten.length=k*64:=by rw [KU (n:=64) fun x hx=>hL x (QQ hx),Q7,Ze (by omega)]
   obtain ⟨G2,b0,b1⟩:=bL hs hB hL hP hk hm (by rw [Qg,lk]; omega) h1
   refine ⟨_,b0,G2,rfl,?_⟩
   rw [ZG,hP,Zs,←Qv]
   simpa using b1)
  (fun st hst=>by
   obtain ⟨G1,rfl,h1⟩:=hst
   refine ⟨_,?_,G1,rfl,by rwa [Qu (by omega)] at h1⟩
   simp only [Ti,Bq,Q1,quiet,cW,↓pW,reduceCtorEq,seval,-Qb])
 exact ⟨G',hloop,r⟩
def Tj (B n:Nat) (pv:Value) (i:Nat) (G:List Ob) (ex:Env):St:=⟨[(1,.pointer (some ⟨B,0,none⟩)),(4,.pointer (some ⟨B+1,0,none⟩)),(6,.pointer (some ⟨B+3,0,none⟩)),(81,pv),(82,.int .i64 n),(83,.int .i64 i)]++ex,G,[]⟩
def ns32 (L:List Nat):List Value:=L.map fun n=>.int .u32 (n:Nat)
theorem bM {L:List Nat} (hs:Sq G0 1 (ns32 L) n pv) (hB:∀ id,(∃ o,G0[id]?=some o)→pv.slBlock id→id<B) (hi:L[i]?=some x) (hin:i<n) (hn:n≤1000) (lt:t.length≤2^40) (h:Wq B G0 G t) :
  ∃ G',Q8 T B Bp (Tj B n pv i G [])=some (.normal,Tj B n pv (i+1) G' [])∧Wq B G0 G' (t++id4 x):=by
 rcases hs with ⟨-,rfl,-⟩ | ⟨id,c,w,e,s,rfl,h2,h3⟩
 ·omega
 obtain ⟨v,hw,hf⟩:=h
 have hid:id<B:=hB id ⟨_,h2⟩ rfl
 have g0:G[id]?=some ⟨ns32 L,true,w,e,s⟩:=(hf id ⟨by omega,by omega⟩ (by omega)).trans h2
 have c1:(ns32 L)[i]?=some (.int .u32 (x:Nat)):=by rw [ns32,Jo,hi]; rfl
 obtain ⟨v',G',M,k1,k2,k3,k4,k5⟩:=TG (n:=x) hw (by omega)
 refine ⟨_,?_,v',k2,fun j hj hne=>by rw [k5 j hj hne]; exact hf j hj hne⟩
 have e1:((i:Int)<(n:Int))=True:=eq_true (by omega)
 have w3:IntKind.i64.wrap ((i:Int)+1)=((i+1:Nat):Int):=Z4 (b:=1) (by omega)
 have im:Qy B [] M=[]:=Wc k4
 have j1:i*1=i:=XX i
 clear h3 hf hB hw hi k2 k4 k5
 generalize ns32 L=LF at *
 generalize hi1:i+1=i1 at *
 simp only [Tj,Bp,Q1,quiet,cW,↓pW,reduceCtorEq,seval,-Qb,hi1,j1,e1,w3,g0,c1,k1,im,Q5,QW,Zf,ZU,Zg,Qp,Qn,ZX]
theorem OT {L:List Nat} (hs:Sq G0 1 (ns32 L) n pv) (hB:∀ id,(∃ o,G0[id]?=some o)→pv.slBlock id→id<B) (hn:L.length=n) (hm:n≤1000) (lt:t.length≤2^30) (h:Wq B G0 G t) :
  ∃ G',Q8 T B (.block 3 (.loop Bp)) (Tj B n pv 0 G [])=some (.normal,Tj B n pv n G' [(84,.bool false)])∧Wq B G0 G' (t++(L.map id4).flatten):=by
 obtain ⟨st,hloop,G',rfl,r⟩:=QZ (T:=T) (base:=B) (id:=3) (body:=Bp)
  (fun k st=>∃ G,st=Tj B n pv k G []∧Wq B G0 G (t++((L.take k).map id4).flatten))
  (Q:=fun st=>∃ G,st=Tj B n pv n G [(84,.bool false)]∧Wq B G0 G (t++(L.map id4).flatten))
  n (s:=Tj B n pv 0 G []) ⟨G,rfl,by rw [JZ,JN,Z1,Q6]; exact h⟩
  (fun k st hk hst=>by
   obtain ⟨G1,rfl,h1⟩:=hst
   obtain ⟨x,hx⟩:∃ x,L[k]?=some x:=⟨_,Qh (by omega)⟩
   have lk:((L.take k).map id4).flatten.length=k*4:=by
    rw [KU (n:=4) fun x hx=>by obtain ⟨y,-,rfl⟩:=ZV.1 hx; rfl,X6,Q7,Ze (by omega)]
   obtain ⟨G2,b0,b1⟩:=bM hs hB hx hk hm (by rw [Qg,lk]; omega) h1
   refine ⟨_,b0,G2,rfl,?_⟩
   rw [ZG,hx,Xl,Zs,←Qv]
   simpa using b1)
  (fun st hst=>by
   obtain ⟨G1,rfl,h1⟩:=hst
   refine ⟨_,?_,G1,rfl,by rwa [Qu (by omega)] at h1⟩
   simp only [Tj,Bp,Q1,quiet,cW,↓pW,reduceCtorEq,seval,-Qb])
 exact ⟨G',hloop,r⟩
theorem OutS.toK {K K':Nat→Prop} {G:List Ob} {v:Value} {t:List Nat} (h:OutS K G v t) (hk:∀ i,¬ K i→¬ K' i):OutS K' G v t:=by
 rcases h with ⟨id,h1,h0,h2⟩ | h
 ·exact .inl ⟨id,hk _ h1,h0,h2⟩
 ·exact .inr (h.toK hk)
theorem Sq.lt {G:List Ob} {es:Nat} {cs:List Value} {n:Nat} {v:Value} (h:Sq G es cs n v) (id:Nat) (hb:v.slBlock id):id<G.length:=by
 rcases h with ⟨rfl,-⟩ | ⟨j,c,w,e,s,rfl,h2,-⟩
 ·exact hb.elim
 ·have:j=id:=hb
  subst this
  exact (Qf.1 h2).1
structure DPart (H:List Ob) (v:Value) (l:List Nat):Prop where
 shape:∃ (a:Option Addr) (c:Nat),v=.slice a l.length c
 reads:∀ G:List Ob,(∀ i,i<H.length→G[i]?=H[i]?)→elemsOf G 1 l.length v=some (u8s l)
theorem DPart.app {H m:List Ob} {v:Value} {l:List Nat} (h:DPart H v l):DPart (H++m) v l :=
 ⟨h.shape,fun G hg=>h.reads G fun i hi=>(hg i (by rw [Qg]; omega)).trans (Qa hi)⟩
structure FrV (H:List Ob) (ka na sa da:Value) (kl:List (List Nat)) (nl:List Nat) (sl:List (List Nat)) (dl:List Nat):Prop where
 kz:Sq H 32 (u8s kl.flatten) kl.length ka
 kx:∀ x∈kl,x.length=32
 nz:Sq H 1 (ns32 nl) nl.length na
 sz:Sq H 64 (u8s sl.flatten) sl.length sa
 sx:∀ x∈sl,x.length=64
 dz:DPart H da dl
def frB (k:Int) (kl:List (List Nat)) (nl:List Nat) (sl:List (List Nat)) (dl:List Nat) (d:Bool):List Nat:=[k.toNat]++kl.flatten++(nl.map id4).flatten++sl.flatten++(if d then id4 dl.length++dl else [])
def frE (k:Int) (a b c n:Nat):Int:=match shp k with
 | none=>110
 | some (x,y,z,d)=>if a=x∧b=y∧c=z∧(d=true∨n=0) then (if 16384<n then 2 else 0) else 110
theorem kS {k:Int} {y z:Nat} {d:Bool} (h:shp k=some (x,y,z,d)):IntKind.u8.wrap k=((k.toNat:Nat):Int)∧k.toNat<256∧x≤4∧y≤3∧z≤1:=by
 unfold shp at h
 repeat' split at h
 all_goals first | (cases h; subst_vars; decide) | cases h
theorem UY {k:Int} {kl:List (List Nat)} {nl:List Nat} {sl:List (List Nat)} {dl:List Nat} (h:FrV H ka na sa da kl nl sl dl) :
  ∃ v l,Zb T 38 [.agg #[.int .i64 k,ka,na,sa,da]] H=some (.tuple #[v,.int .i64 (frE k kl.length nl.length sl.length dl.length)],H++l,[]) ∧
   ((∀ x y z d,shp k=some (x,y,z,d)→frE k kl.length nl.length sl.length dl.length=0→OutS (LtN H.length) (H++l) v (frB k kl nl sl dl d))∧(frE k kl.length nl.length sl.length dl.length≠0→v=.slice none 0 0)):=by
 have hsv:=ed k
 obtain ⟨_,_,sk⟩:=h.kz.shape
 obtain ⟨_,_,sn⟩:=h.nz.shape
 obtain ⟨_,_,ss⟩:=h.sz.shape
 obtain ⟨_,_,sd⟩:=h.dz.shape
 have n1:vLen false ka=some (.int .i64 kl.length):=by rw [sk]; rfl
 have n2:vLen false na=some (.int .i64 nl.length):=by rw [sn]; rfl
 have n3:vLen false sa=some (.int .i64 sl.length):=by rw [ss]; rfl
 have n4:vLen false da=some (.int .i64 dl.length):=by rw [sd]; rfl
 have hd4:Go.Ev.lenV da=some dl.length:=by rw [sd]; rfl
 clear sk sn ss sd
 have z4:fillL [Value.int .i64 0,.int .i64 0,.int .i64 0,.bool false] []=some [Value.int .i64 0,.int .i64 0,.int .i64 0,.bool false]:=rfl
 have sp4:∀ (a b c d e f g h:Value),splice [a,b,c,d] 0 [e,f,g,h]=[e,f,g,h]:=fun _ _ _ _ _ _ _ _=>rfl
 have g0:∀ o1:Ob,(H++[o1])[H.length]?=some o1:=fun _=>by rw [Qe (Qk _),Qs]; rfl
 have g00:∀ o1 o2:Ob,(H++[o1,o2])[H.length]?=some o1:=fun _ _=>by rw [Qe (Qk _),Qs]; rfl
 have g01:∀ o1 o2:Ob,(H++[o1,o2])[H.length+1]?=some o2:=fun _ _=>by rw [Qe (by omega),Qq]; rfl
 have t01:∀ o1 o2 o:Ob,(H++[o1,o2]).set (H.length+1) o=H++[o1,o]:=fun _ _ _=>by rw [Q4 _ _ (by omega),Qq]; rfl
 have im1:∀ i,Qy H.length [] [H.length+i]=[]:=fun i=>QE (by simp)
 have ok1:∀ L:List Value,(Value.agg L.toArray).cells.toList=L:=fun _=>rfl
 have ok2:∀ L:List Value,(Value.agg L.toArray).cells.size=L.length:=fun _=>rfl
 have ok3:∀ L:List Value,okVar (Value.agg L.toArray)=true:=fun _=>rfl
 have cl0:∀ v:Value,[Value.int .i64 k,ka,na,sa,da][0]?=some (.int .i64 k):=fun _=>rfl
 have bad:∀ c:Int,c≠0→frE k kl.length nl.length sl.length dl.length=c→(∃ l,Zb T 38 [.agg #[.int .i64 k,ka,na,sa,da]] H=some (.tuple #[.slice none 0 0,.int .i64 c],H++l,[])) →
   ∃ v l,Zb T 38 [.agg #[.int .i64 k,ka,na,sa,da]] H=some (.tuple #[v,.int .i64 (frE k kl.length nl.length sl.length dl.length)],H++l,[]) ∧
    ((∀ x y z d,shp k=some (x,y,z,d)→frE k kl.length nl.length sl.length dl.length=0→OutS (LtN H.length) (H++l) v (frB k kl nl sl dl d))∧(frE k kl.length nl.length sl.length dl.length≠0→v=.slice none 0 0)):=by
  rintro c hc he ⟨l,hl⟩
  exact ⟨_,l,by rw [he]; exact hl,fun _ _ _ _ _ h0=>absurd (he.symm.trans h0) hc,fun _=>rfl⟩
 obtain hsh | ⟨x,y,z,d,hsh⟩:shp k=none∨∃ x y z d,shp k=some (x,y,z,d):=by
  rcases shp k with _ | ⟨x,y,z,d⟩
  ·exact .inl rfl
  ·exact .inr ⟨x,y,z,d,rfl⟩
 ·have rfv:rf (.tuple #[.agg #[Value.int .i64 0,.int .i64 0,.int .i64 0,.bool false],.int .i64 110])=true:=rfl
  rw [hsh] at hsv
  have hv:shV 0 0 0 false=[Value.int .i64 0,.int .i64 0,.int .i64 0,.bool false]:=rfl
  simp only [hv] at hsv
  refine bad 110 (by decide) (by unfold frE; rw [hsh]) (ZL ?_ ?_)
  rotate_left
  ·rw [QD (fn:=UK) rfl]
   simp only [UK,Q1,quiet,cW,↓pW,reduceCtorEq,seval,-Qb,hsv,rfv,g0,g00,g01,t01,im1,ok1,ok2,ok3,n1,n2,n3,n4,z4,sp4]
   rfl
 ·rw [hsh] at hsv
  simp only [shV] at hsv
  have rfv:rf (.tuple #[.agg #[Value.int .i64 x,.int .i64 y,.int .i64 z,.bool d],.int .i64 0])=true:=rfl
  obtain ⟨wk,kb,lx,ly,lz⟩:=kS hsh
  by_cases q1:kl.length=x
  ·have b1:(((kl.length:Nat):Int) != (x:Int))=false:=by simp; omega
   by_cases q2:nl.length=y
   ·have b2:(((nl.length:Nat):Int) != (y:Int))=false:=by simp; omega
    by_cases q3:sl.length=z
    ·have b3:(((sl.length:Nat):Int) != (z:Int))=false:=by simp; omega
     obtain ⟨G0,hG0⟩:∃ X,X=H++[(⟨[.int .i64 k,ka,na,sa,da],true,true,true,1⟩:Ob),⟨[.int .i64 x,.int .i64 y,.int .i64 z,.bool d],true,true,true,1⟩,⟨u8s [k.toNat],true,true,true,1⟩,wob (.slice (some ⟨H.length+2,0,none⟩) 1 1)]:=⟨_,rfl⟩
     have lG0:G0.length=H.length+4:=by rw [hG0]; simp
     have gi:∀ j o,[(⟨[.int .i64 k,ka,na,sa,da],true,true,true,1⟩:Ob),⟨[.int .i64 x,.int .i64 y,.int .i64 z,.bool d],true,true,true,1⟩,⟨u8s [k.toNat],true,true,true,1⟩,wob (.slice (some ⟨H.length+2,0,none⟩) 1 1)][j]?=some o→G0[H.length+j]?=some o:=fun j o hj=>by rw [hG0,Qe (by omega),Qq]; exact hj
     have inv0:Wq H.length G0 G0 [k.toNat]:=⟨_,⟨gi 3 _ rfl,⟨by omega,by omega⟩,fun i hi=>by rw [lG0]; exact hi.1,.inl ⟨H.length+2,fun hh=>hh.2 rfl,rfl,gi 2 _ rfl⟩⟩,fun _ _ _=>rfl⟩
     have hap:∀ {es cs n v},Sq H es cs n v→Sq G0 es cs n v:=fun hh=>by rw [hG0]; exact hh.app
     have lkf:kl.flatten.length≤1000:=by rw [KU h.kx]; omega
     have lnf:(nl.map id4).flatten.length≤1000:=by rw [KU (n:=4) fun x hx=>by obtain ⟨y,-,rfl⟩:=ZV.1 hx; rfl,X6]; omega
     have lsf:sl.flatten.length≤1000:=by rw [KU h.sx]; omega
     obtain ⟨G1,m1,i1⟩:=OU (hap h.kz) (fun id _ hb=>h.kz.lt id hb) h.kx rfl (by omega) (by show 1≤_; decide) inv0
     obtain ⟨G2,m2,i2⟩:=OT (hap h.nz) (fun id _ hb=>h.nz.lt id hb) rfl (by omega) (by simp only [Qg,Zm,Zz]; omega) i1
     obtain ⟨G3,m3,i3⟩:=OR (hap h.sz) (fun id _ hb=>h.sz.lt id hb) h.sx rfl (by omega) (by simp only [Qg,Zm,Zz]; omega) i2
     have fr:∀ {G t},Wq H.length G0 G t→G[H.length]?=some ⟨[.int .i64 k,ka,na,sa,da],true,true,true,1⟩∧G[H.length+1]?=some ⟨[.int .i64 x,.int .i64 y,.int .i64 z,.bool d],true,true,true,1⟩∧(∀ i,i<H.length→G[i]?=H[i]?):=fun ⟨_,_,hf⟩ =>
      ⟨(hf _ ⟨by omega,by omega⟩ (by omega)).trans (gi 0 _ rfl),(hf _ ⟨by omega,by omega⟩ (by omega)).trans (gi 1 _ rfl),fun i hi=>by rw [hf i ⟨by omega,by omega⟩ (by omega),hG0,Qa hi]⟩
     obtain ⟨p10,p11,-⟩:=fr i1
     obtain ⟨p20,p21,-⟩:=fr i2
     obtain ⟨p30,p31,p32⟩:=fr i3
     have F0:H++[(⟨[.int .i64 k,ka,na,sa,da],true,true,true,1⟩:Ob),⟨[.int .i64 x,.int .i64 y,.int .i64 z,.bool d],true,true,true,1⟩,⟨u8s [k.toNat],true,true,true,1⟩,⟨[.slice (some ⟨H.length+2,0,none⟩) 1 1],true,true,true,1⟩]=G0:=hG0.symm
     have p00:G0[H.length]?=_:=gi 0 _ rfl
     have p01:G0[H.length+1]?=_:=gi 1 _ rfl
     have fk1:fillL [Value.int .u8 0] [(0,1,.int .u8 (k.toNat:Nat))]=some (u8s [k.toNat]):=rfl
     have fw1:∀ a:Addr,fillL [Value.slice none 0 0] [(0,1,.slice (some a) 1 1)]=some [.slice (some a) 1 1]:=fun _=>rfl
     have s1:∀ a b:Value,splice [a] 0 [b]=[b]:=fun _ _=>rfl
     have e3:∀ o1 o2 o3:Ob,(H++[o1,o2,o3])[H.length]?=some o1:=fun _ _ _=>by rw [Qe (Qk _),Qs]; rfl
     have e4:∀ o1 o2 o3 o4:Ob,(H++[o1,o2,o3,o4])[H.length+3]?=some o4:=fun _ _ _ _=>by rw [Qe (by omega),Qq]; rfl
     have e5:∀ o1 o2 o3 o4 o:Ob,(H++[o1,o2,o3,o4]).set (H.length+3) o=H++[o1,o2,o3,o]:=fun _ _ _ _ _=>by rw [Q4 _ _ (by omega),Qq]; rfl
     simp only [Tk,Tj,Ti,Qw,Qr,show ((0:Nat):Int)=0 from rfl] at m1 m2 m3
     obtain ⟨v3,w3,f3⟩:=i3
     have lt3:([k.toNat]++kl.flatten++(nl.map id4).flatten++sl.flatten).length≤4000:=by simp only [Qg,Zm,Zz]; omega
     cases d
     ·by_cases q4:dl.length=0
      ·have c1:((0:Int)<(dl.length:Int))=False:=eq_false (by omega)
       have c2:((16384:Int)<(dl.length:Int))=False:=eq_false (by omega)
       have hE:frE k kl.length nl.length sl.length dl.length=0:=by
        unfold frE; rw [hsh]; simp only [q1,q2,q3,q4,and_self,or_true,if_true]; rfl
       obtain ⟨l,hl⟩:=XE (by have:=w3.kl (H.length+3) ⟨by omega,by omega⟩; omega) p32
       have ow:=w3.ob
       unfold wob at ow
       refine ⟨v3,l,?_,fun _ _ _ _ e _ => ?_,fun hh=>absurd hE hh⟩
       ·rw [hE,←hl]
        clear i1 i2 inv0 gi fr hG0 hap f3 w3 p32 lt3
        rw [QD (fn:=UK) rfl]
        simp only [UK,Q1,quiet,cW,↓pW,reduceCtorEq,seval,-Qb,hsv,rfv,g0,g00,g01,t01,im1,ok1,ok2,ok3,n1,n2,n3,n4,z4,sp4,b1,b2,b3,c1,c2,wk,fk1,fw1,s1,e3,e4,e5,F0,p00,p01,m1,p10,p11,m2,p20,p21,m3,p30,p31,ow]
       ·rw [hsh] at e
        cases e
        rw [←hl]
        refine OutS.toK (K:=KE H.length) ?_ (fun i hi h'=>hi ⟨by have:i<H.length:=h'; omega,by have:i<H.length:=h'; omega⟩)
        have:=w3.out
        simpa [frB] using this
      ·have c1:((0:Int)<(dl.length:Int))=True:=eq_true (by omega)
       refine bad 110 (by decide) (by unfold frE; rw [hsh]; exact if_neg fun hh=>by rcases hh.2.2.2 with hh | hh; cases hh; exact q4 hh) (ZL ?_ ?_)
       rotate_left
       ·rw [QD (fn:=UK) rfl]
        simp only [UK,Q1,quiet,cW,↓pW,reduceCtorEq,seval,-Qb,hsv,rfv,g0,g00,g01,t01,im1,ok1,ok2,ok3,n1,n2,n3,n4,z4,sp4,b1,b2,b3,c1]
        rfl
     ·by_cases q4:16384<dl.length
      ·have c2:((16384:Int)<(dl.length:Int))=True:=eq_true (by omega)
       refine bad 2 (by decide) (by unfold frE; rw [hsh]; simp only [q1,q2,q3,q4,and_self,true_or,if_true]) (ZL ?_ ?_)
       rotate_left
       ·rw [QD (fn:=UK) rfl]
        simp only [UK,Q1,quiet,cW,↓pW,reduceCtorEq,seval,-Qb,hsv,rfv,g0,g00,g01,t01,im1,ok1,ok2,ok3,n1,n2,n3,n4,z4,sp4,b1,b2,b3,c2]
        rfl
      ·have c2:((16384:Int)<(dl.length:Int))=False:=eq_false (by omega)
       have hE:frE k kl.length nl.length sl.length dl.length=0:=by
        unfold frE; rw [hsh]; simp only [q1,q2,q3,q4,and_self,true_or,if_true,if_false]
       obtain ⟨v4,G4,M4,k1,k2,k3,k4,k5⟩:=TG (n:=dl.length) w3 (by omega)
       have im4:Qy H.length [] M4=[]:=Wc k4
       have p42:∀ i,i<H.length→G4[i]?=H[i]? := fun i hi=>(k5 i ⟨by omega,by omega⟩ (by omega)).trans (p32 i hi)
       have p40:=(k5 H.length ⟨by omega,by omega⟩ (by omega)).trans p30
       obtain ⟨v5,G5,M5,j1,j2,j3,j4,j5,j6,j7,j8,j9⟩:=k2.put hd4 (h.dz.reads G4 p42) (by rw [Qg]; show _+4+_≤_; omega)
       have im5:Qy H.length [] M5=[]:=Wc fun i hi=>.inr (j7 i hi)
       have im3:Qy H.length [] [H.length+3]=[]:=im1 3
       obtain ⟨l,hl⟩:∃ l,G5.set (H.length+3) (wob v5)=H++l:=XE (by have:=k2.kl (H.length+3) ⟨by omega,by omega⟩; rw [Qo]; omega) fun i hi=>(j9 i ⟨by omega,by omega⟩ (by omega)).trans (p42 i hi)
       have ow4:=k2.ob
       have ow5:=j6.ob
       have wu:IntKind.u32.wrap (dl.length:Int)=(dl.length:Nat):=by
        have:=Ge (n:=dl.length) (by omega)
        exact this
       refine ⟨v5,l,?_,fun _ _ _ _ e _ => ?_,fun hh=>absurd hE hh⟩
       ·rw [hE,←hl]
        unfold wob at *
        clear i1 i2 inv0 gi fr hG0 hap f3 w3 p32 lt3 k2 j6 k4 k5 j7 j9 p42
        rw [QD (fn:=UK) rfl]
        simp only [UK,Q1,quiet,cW,↓pW,reduceCtorEq,seval,-Qb,hsv,rfv,g0,g00,g01,t01,im1,im4,im5,im3,ok1,ok2,ok3,n1,n2,n3,n4,z4,sp4,b1,b2,b3,c2,wk,wu,fk1,fw1,s1,e3,e4,e5,F0,p00,p01,m1,p10,p11,m2,p20,p21,m3,p30,p31,k1,p40,ow4,j1,j2,j3,j4,j5,ow5]
       ·rw [hsh] at e
        cases e
        rw [←hl]
        refine OutS.toK (K:=KE H.length) ?_ (fun i hi h'=>hi ⟨by have:i<H.length:=h'; omega,by have:i<H.length:=h'; omega⟩)
        have:=j6.out
        simpa [frB] using this
    ·have b3:(((sl.length:Nat):Int) != (z:Int))=true:=by simp; omega
     refine bad 110 (by decide) (by unfold frE; rw [hsh]; exact if_neg fun hh=>q3 hh.2.2.1) (ZL ?_ ?_)
     rotate_left
     ·rw [QD (fn:=UK) rfl]
      simp only [UK,Q1,quiet,cW,↓pW,reduceCtorEq,seval,-Qb,hsv,rfv,g0,g00,g01,t01,im1,ok1,ok2,ok3,n1,n2,n3,n4,z4,sp4,b1,b2,b3]
      rfl
   ·have b2:(((nl.length:Nat):Int) != (y:Int))=true:=by simp; omega
    refine bad 110 (by decide) (by unfold frE; rw [hsh]; exact if_neg fun hh=>q2 hh.2.1) (ZL ?_ ?_)
    rotate_left
    ·rw [QD (fn:=UK) rfl]
     simp only [UK,Q1,quiet,cW,↓pW,reduceCtorEq,seval,-Qb,hsv,rfv,g0,g00,g01,t01,im1,ok1,ok2,ok3,n1,n2,n3,n4,z4,sp4,b1,b2]
     rfl
  ·have b1:(((kl.length:Nat):Int) != (x:Int))=true:=by simp; omega
   refine bad 110 (by decide) (by unfold frE; rw [hsh]; exact if_neg fun hh=>q1 hh.1) (ZL ?_ ?_)
   rotate_left
   ·rw [QD (fn:=UK) rfl]
    simp only [UK,Q1,quiet,cW,↓pW,reduceCtorEq,seval,-Qb,hsv,rfv,g0,g00,g01,t01,im1,ok1,ok2,ok3,n1,n2,n3,n4,z4,sp4,b1]
    rfl
theorem FrV.app {H m:List Ob} {ka na sa da:Value} {kl:List (List Nat)} {nl:List Nat} {sl:List (List Nat)} {dl:List Nat} (h:FrV H ka na sa da kl nl sl dl):FrV (H++m) ka na sa da kl nl sl dl :=
 ⟨h.kz.app,h.kx,h.nz.app,h.sz.app,h.sx,h.dz.app⟩
theorem Sq.some_of {G:List Ob} {es:Nat} {cs:List Value} {n:Nat} {v:Value} (h:Sq G es cs n v) (hn:0<n):∃ id c w e s,v=.slice (some ⟨id,0,none⟩) n c∧G[id]?=some ⟨cs,true,w,e,s⟩∧cs.length=n*es:=by
 rcases h with ⟨-,h,-⟩ | h
 ·omega
 ·exact h
theorem BP {p q r v:List Nat} (h:v.length=q.length) (hp:p.length=n):splice (u8s (p++(q++r))) n (u8s v)=u8s (p++(v++r)):=by
 have:=T0 (a:=u8s p) (b:=u8s (q++r)) (v:=u8s v) (n:=n) (k:=0) (by rw [Qp,hp]) (by rw [Qp,Qp,Qg]; omega)
 rw [Nat.add_zero] at this
 rw [JH,this,JH q,T1 (by rw [Qp,Qp,h]),←JH,←JH]
def JF (nm:List Nat) (e m:Nat):List Nat:=frB 5 [nm] [e,m] [Qc 64 0] [] true
theorem Rq (hk:Sq H 32 (u8s nm) 1 ka) (hn:Sq H 1 (ns32 [e,m]) 2 na) (lk:nm.length=32) :
  ∃ v l,Zb T 48 [.agg #[.int .i64 5,ka,na,sa,da]] H=some (v,H++l,[])∧OutS (LtN H.length) (H++l) v (JF nm e m):=by
 have hz64:=YH
 have lz:(Qc 64 0).length=64:=Qn
 obtain ⟨m1,hm1⟩:∃ X,X=[(⟨[.int .i64 5,ka,na,.slice (some ⟨H.length+1,0,none⟩) 1 1,.slice none 0 0],true,true,true,1⟩:Ob),⟨u8s (Qc 64 0),true,true,true,1⟩]:=⟨_,rfl⟩
 have g1:(H++m1)[H.length+1]?=some ⟨u8s (Qc 64 0),true,true,true,1⟩:=by rw [hm1,Qe (by omega),Qq]; rfl
 have F:FrV (H++m1) ka na (.slice (some ⟨H.length+1,0,none⟩) 1 1) (.slice none 0 0) [nm] [e,m] [Qc 64 0] [] :=
  ⟨by rw [show [nm].flatten=nm by simp]; exact hk.app,fun x hx=>by rw [Zc.1 hx]; exact lk,hn.app,.inr ⟨_,1,_,_,_,rfl,by rw [show [Qc 64 0].flatten=Qc 64 0 by simp]; exact g1,by rw [Qp]; simp⟩,fun x hx=>by rw [Zc.1 hx]; exact lz,⟨⟨_,_,rfl⟩,fun _ _=>rfl⟩⟩
 obtain ⟨v,l,he,q1,-⟩:=UY (k:=5) F
 have hE:frE 5 [nm].length [e,m].length [Qc 64 0].length ([]:List Nat).length=0:=rfl
 have q2:=q1 1 2 1 true rfl hE
 rw [hE,Qv] at he
 rw [Qv] at q2
 refine ⟨v,m1++l,?_,q2.toK fun i hi h=>hi (by have:i<H.length:=h; show i<(H++m1).length; rw [Qg]; omega)⟩
 have g0:(H++(m1++l))[H.length]?=some ⟨[.int .i64 5,ka,na,.slice (some ⟨H.length+1,0,none⟩) 1 1,.slice none 0 0],true,true,true,1⟩:=by rw [hm1,Qe (by omega),Qs]; rfl
 have g00:m1[0]?=some ⟨[.int .i64 5,ka,na,.slice (some ⟨H.length+1,0,none⟩) 1 1,.slice none 0 0],true,true,true,1⟩:=by rw [hm1]; rfl
 have h1:=hm1.symm
 have f64:=EV lz
 rw [hz64] at f64
 have fz:∀ L:List Value,fillL L []=some L:=fun _=>rfl
 have ok1:∀ L:List Value,(Value.agg L.toArray).cells.toList=L:=fun _=>rfl
 have ok2:∀ L:List Value,(Value.agg L.toArray).cells.size=L.length:=fun _=>rfl
 have ok3:∀ L:List Value,okVar (Value.agg L.toArray)=true:=fun _=>rfl
 have e2:∀ o1:Ob,(H++[o1])[H.length]?=some o1:=fun _=>by rw [Qe (Qk _),Qs]; rfl
 have e3:∀ o1 o2:Ob,(H++[o1,o2])[H.length]?=some o1:=fun _ _=>by rw [Qe (Qk _),Qs]; rfl
 have t3:∀ o1 o2 o:Ob,(H++[o1,o2]).set H.length o=H++[o,o2]:=fun _ _ _=>by rw [Q4 _ _ (Qk _),Qs]; rfl
 have cl5:∀ a b c d e:Value,Q2 5 [a,b,c,d,e]=[a,b,c,d,e]:=fun _ _ _ _ _=>rfl
 clear hm1 F q1 q2 hE
 generalize Qc 64 0=Z64 at *
 rw [QD (fn:=nI) rfl]
 simp only [nI,Q1,quiet,cW,↓pW,reduceCtorEq,seval,-Qb,he,g0,g00,h1,f64,fz,hz64,e2,e3,t3,cl5,ok1,ok2,ok3,lz,Q5,QW,Zf,ZU,Zg,Qp,Qn,ZX]
theorem A0 (h1:nm.length=32):(plc nm e m key tl)[32]?=some (.int .u32 e):=by
 rw [plc,Qe (by rw [Qp,h1]; decide),Qp,h1]; rfl
theorem DW (h1:nm.length=32):Q2 32 (plc nm e m key tl)=u8s nm:=by
 rw [plc,Jz (by rw [Qp,h1])]
theorem MT (h1:nm.length=32) (h2:key.length=32):Zr 66 (plc nm e m key tl)=tl:=by
 rw [W3]
 exact Xn (JD (tl:=[]) h1 h2)
theorem OX {a b c:List Nat} (la:a.length=32) (lb:b.length=32) (lc:c.length=32):fillL (Qc 96 (Value.int .u8 0)) [(0,32,.agg (u8s a).toArray),(32,32,.agg (u8s b).toArray),(64,32,.agg (u8s c).toArray)]=some (u8s [a,b,c].flatten):=by
 have hz:Qc 96 (Value.int .u8 0)=u8s (zK++(zK++(zK++[]))):=rfl
 have ct:∀ l:List Nat,(Value.agg (u8s l).toArray).cells.toList=u8s l:=fun _=>rfl
 have lz:=P3
 have L:∀ {w x y:List Nat},w.length=32→x.length=32→y.length=32→(u8s (w++(x++(y++[])))).length=96:=fun hw hx hy=>by simp [Qp,hw,hx,hy]
 have e1:=BP (p:=[]) (q:=zK) (v:=a) (r:=zK++(zK++[])) (la.trans lz.symm) (n:=0) rfl
 have e2:=BP (p:=a) (q:=zK) (v:=b) (r:=zK++[]) (lb.trans lz.symm) la
 have e3:=BP (p:=a++b) (q:=zK) (v:=c) (r:=[]) (lc.trans lz.symm) (n:=64) (by rw [Qg,la,lb])
 simp only [Qv,Qr] at e1 e2 e3
 rw [hz,XH (VA la) (by rw [L lz lz lz]; decide) rfl,ct,e1,XH (VA lb) (by rw [L la lz lz]; decide) rfl,ct,e2,
  XH (VA lc) (by rw [L la lb lz]; decide) rfl,ct,e3]
 rfl
def C9 (nm key sg pub:List Nat) (e m B:Nat):List Ob:=[⟨plc nm e m key (u8s sg),true,true,true,1⟩,⟨[.int .i64 4,.slice (some ⟨B+2,0,none⟩) 3 3,.slice (some ⟨B+3,0,none⟩) 2 2,.slice none 0 0,.slice none 0 0],true,true,true,1⟩,⟨u8s [nm,key,pub].flatten,true,true,true,1⟩,⟨ns32 [e,m],true,true,true,1⟩]
theorem CA (h1:nm.length=32) (h2:key.length=32) (h3:B32 sg) :
  Zb T 23 [.agg (plc nm e m key (u8s sg)).toArray] H=some (.agg #[.int .i64 4,.slice (some ⟨H.length+2,0,none⟩) 3 3,.slice (some ⟨H.length+3,0,none⟩) 2 2,.slice none 0 0,.slice none 0 0],H++C9 nm key sg (pubL sg) e m H.length,[]):=by
 have n0:=JD (e:=e) (m:=m) (tl:=u8s sg) h1 h2
 rw [Qp,h3.len] at n0
 have r1:=DW (e:=e) (m:=m) (key:=key) (tl:=u8s sg) h1
 have r2:=LD (e:=e) (m:=m) (tl:=u8s sg) h1 h2
 have r3:Q2 32 (Zr 66 (plc nm e m key (u8s sg)))=u8s sg:=by rw [MT h1 h2]; exact Q5 (by rw [Qp,h3.len])
 have r4:=A0 (e:=e) (m:=m) (key:=key) (tl:=u8s sg) h1
 have r5:=K6 (e:=e) (m:=m) (key:=key) (tl:=u8s sg) h1
 have hp:=SK h3.len h3.lt
 have lp:=KV sg
 have f3:=OX h1 h2 lp
 have f2:fillL [Value.int .u32 0,.int .u32 0] [(0,1,.int .u32 (e:Int)),(1,1,.int .u32 (m:Int))]=some [.int .u32 (e:Int),.int .u32 (m:Int)]:=rfl
 have f5:∀ a b:Addr,fillL [Value.int .i64 0,.slice none 0 0,.slice none 0 0,.slice none 0 0,.slice none 0 0] [(0,1,.int .i64 4),(1,1,.slice (some a) 3 3),(2,1,.slice (some b) 2 2)]=some [.int .i64 4,.slice (some a) 3 3,.slice (some b) 2 2,.slice none 0 0,.slice none 0 0]:=fun _ _=>rfl
 have sp5:∀ (a b c d e a' b' c' d' e':Value),splice [a,b,c,d,e] 0 [a',b',c',d',e']=[a',b',c',d',e']:=fun _ _ _ _ _ _ _ _ _ _=>rfl
 have cl5:∀ a b c d e:Value,Q2 5 [a,b,c,d,e]=[a,b,c,d,e]:=fun _ _ _ _ _=>rfl
 have e2:∀ o1 o2:Ob,(H++[o1,o2])[H.length]?=some o1:=fun _ _=>by rw [Qe (Qk _),Qs]; rfl
 have e3:∀ o1 o2 o3:Ob,(H++[o1,o2,o3])[H.length]?=some o1:=fun _ _ _=>by rw [Qe (Qk _),Qs]; rfl
 have e4:∀ o1 o2 o3 o4:Ob,(H++[o1,o2,o3,o4])[H.length+1]?=some o2:=fun _ _ _ _=>by rw [Qe (by omega),Qq]; rfl
 have t4:∀ o1 o2 o3 o4 o:Ob,(H++[o1,o2,o3,o4]).set (H.length+1) o=H++[o1,o,o3,o4]:=fun _ _ _ _ _=>by rw [Q4 _ _ (by omega),Qq]; rfl
 have im1:Qy H.length [] [H.length+1]=[]:=QE (by simp)
 have ok1:∀ L:List Value,(Value.agg L.toArray).cells.toList=L:=fun _=>rfl
 have ok2:∀ L:List Value,(Value.agg L.toArray).cells.size=L.length:=fun _=>rfl
 have ok3:∀ L:List Value,okVar (Value.agg L.toArray)=true:=fun _=>rfl
 have an:ns32 [e,m]=[.int .u32 e,.int .u32 m]:=rfl
 have hzf:XK=[Value.int .i64 0,.slice none 0 0,.slice none 0 0,.slice none 0 0,.slice none 0 0]:=rfl
 have l3:=h3.len
 unfold C9
 rw [an]
 clear h3
 generalize u8s [nm,key,pubL sg].flatten=KF at *
 generalize plc nm e m key (u8s sg)=S,pubL sg=pub at *
 rw [QD (fn:=nM) rfl]
 simp only [nM,Q1,quiet,cW,↓pW,reduceCtorEq,seval,-Qb,r1,r2,r3,r4,r5,hp,lp,f3,f2,f5,sp5,cl5,e2,e3,e4,t4,im1,ok1,ok2,ok3,n0,h1,h2,l3,hzf,Q5,QW,Zf,ZU,Zg,Qp,Qn,ZX]
theorem Sk (h1:nm.length=32) (h2:key.length=32) (h3:pub.length=32):FrV (H++C9 nm key sg pub e m H.length) (.slice (some ⟨H.length+2,0,none⟩) 3 3) (.slice (some ⟨H.length+3,0,none⟩) 2 2) (.slice none 0 0) (.slice none 0 0) [nm,key,pub] [e,m] [] []:=by
 have hk:∀ x∈[nm,key,pub],x.length=32:=fun x hx=>by
  simp only [Jw,JA,or_false] at hx
  rcases hx with rfl | rfl | rfl
  ·exact h1
  ·exact h2
  ·exact h3
 have gi:∀ i ob,(C9 nm key sg pub e m H.length)[i]?=some ob→(H++C9 nm key sg pub e m H.length)[H.length+i]?=some ob:=fun i ob hm=>by rw [Qe (by omega),Qq]; exact hm
 exact ⟨.inr ⟨_,3,_,_,_,rfl,gi 2 _ rfl,by rw [Qp,KU hk]⟩,hk,.inr ⟨_,2,_,_,_,rfl,gi 3 _ rfl,rfl⟩,.inl ⟨rfl,rfl,rfl⟩,fun x hx=>absurd hx (by simp),⟨⟨_,_,rfl⟩,fun _ _=>rfl⟩⟩
theorem EU (h1:nm.length=32) (h2:key.length=32):fillL Mn [(0,32,.agg (u8s nm).toArray),(32,1,.int .u32 (e:Nat)),(33,1,.int .u32 (m:Nat)),(34,32,.agg (u8s key).toArray)]=some (plc nm e m key []):=by
 have ct:∀ l:List Nat,(Value.agg (u8s l).toArray).cells.toList=u8s l:=fun _=>rfl
 have lz:(Qc 32 0).length=32:=rfl
 have l0:=JD (e:=0) (m:=0) (tl:=[]) lz lz
 have l1:=JD (e:=0) (m:=0) (tl:=[]) h1 lz
 have l2:=JD (e:=e) (m:=0) (tl:=[]) h1 lz
 have l3:=JD (e:=e) (m:=m) (tl:=[]) h1 lz
 rw [Tt,XH (VA h1) (by rw [l0]; decide) rfl,ct,T9 lz h1,XH (n:=1) rfl (by rw [l1]; decide) rfl,show (Value.int .u32 (e:Nat)).cells.toList=[.int .u32 (e:Nat)] from rfl,Xu,TA h1,
  XH (n:=1) rfl (by rw [l2]; decide) rfl,show (Value.int .u32 (m:Nat)).cells.toList=[.int .u32 (m:Nat)] from rfl,Xu,MS h1,XH (VA h2) (by rw [l3]; decide) rfl,ct,BV h1 lz h2,fillL]
theorem P4:Xp=plc (Qc 32 0) 0 0 (Qc 32 0) []++(u8s (Qc 32 0)++[.slice none 0 0]):=rfl
theorem OZ (h1:nm.length=32) (h2:key.length=32) (h3:pub.length=32):fillL Xp [(0,66,.agg (plc nm e m key []).toArray),(66,32,.agg (u8s pub).toArray)]=some (plc nm e m key (u8s pub++[.slice none 0 0])):=by
 have ct:∀ l:List Value,(Value.agg l.toArray).cells.toList=l:=fun _=>rfl
 have lz:(Qc 32 0).length=32:=rfl
 have l0:=JD (e:=0) (m:=0) (tl:=[]) lz lz
 have l1:=JD (e:=e) (m:=m) (tl:=[]) h1 h2
 have c1:(Value.agg (plc nm e m key []).toArray).cells.size=66:=l1
 rw [P4,XH c1 (by simp only [Qg,l0]; decide) rfl,ct,HR (by rw [l0,l1]),XH (VA h3) (by simp only [Qg,l1,Qp]; decide) rfl,ct,
  T0 (n:=66) (k:=0) l1 (by simp only [Qg,Qp,h3]; decide),T1 (by rw [Qp,Qp,h3,lz]),fillL,←W3]
theorem TQ {k0 k1 k2:List Nat} {j:Nat} (h:FrV H ka na sa da [k0,k1,k2] [i,j] [] []) :
  ∃ l,Zb T 21 [.agg #[.int .i64 4,ka,na,sa,da]] H=some (.tuple #[.agg (plc k0 i j k1 (u8s k2++[.slice none 0 0])).toArray,.int .i64 0],H++l,[]):=by
 obtain ⟨v,l,he,-⟩:=UY (k:=4) (h.app (m:=[(⟨[.int .i64 4,ka,na,sa,da],true,true,true,1⟩:Ob),⟨Xp,true,true,true,1⟩]))
 rw [show frE 4 [k0,k1,k2].length [i,j].length ([]:List (List Nat)).length ([]:List Nat).length=0 from rfl] at he
 obtain ⟨G,hG⟩:∃ X,X=H++[(⟨[.int .i64 4,ka,na,sa,da],true,true,true,1⟩:Ob),⟨Xp,true,true,true,1⟩]++l:=⟨_,rfl⟩
 rw [←hG] at he
 have l0:k0.length=32:=h.kx _ (by simp)
 have l1:k1.length=32:=h.kx _ (by simp)
 have l2:k2.length=32:=h.kx _ (by simp)
 have nO:(plc k0 i j k1 (u8s k2++[.slice none 0 0])).length=99:=by rw [JD l0 l1,Qg,Qp,l2]; rfl
 have nP:=JD (e:=i) (m:=j) (tl:=[]) l0 l1
 rw [Zz] at nP
 have nz:Xp.length=99:=rfl
 have f1:=EU (e:=i) (m:=j) l0 l1
 have f2:=OZ (e:=i) (m:=j) l0 l1 l2
 obtain ⟨O,hO⟩:∃ X,X=plc k0 i j k1 (u8s k2++[.slice none 0 0]):=⟨_,rfl⟩
 rw [←hO] at nO f2 ⊢
 have sz:splice Xp 0 O=O:=QO (by rw [nO,nz])
 have tO:Q2 99 O=O:=Qu (by rw [nO]; decide)
 have g0:G[H.length]?=some ⟨[.int .i64 4,ka,na,sa,da],true,true,true,1⟩:=by rw [hG,Qv,Qe (Qk _),Qs,Qw,List.getElem?_cons_zero]
 have g1:G[H.length+1]?=some ⟨Xp,true,true,true,1⟩:=by rw [hG,Qv,Qe (by omega),Qq]; rfl
 have g2:(G.set (H.length+1) ⟨O,true,true,true,1⟩)[H.length+1]?=some ⟨O,true,true,true,1⟩:=by rw [Qt (Qf.1 g1).1]
 have gH:∀ id o,H[id]?=some o→G[id]?=some o:=fun id o ho=>by rw [hG,Qv,Qa (Qf.1 ho).1]; exact ho
 obtain ⟨l',hl'⟩:∃ l',G.set (H.length+1) ⟨O,true,true,true,1⟩=H++l':=XE (by rw [Qo,hG]; simp) fun i hi=>by
  rw [Qm (by omega),hG,Qv,Qa hi]
 refine ⟨l',?_⟩
 rw [←hl']
 obtain ⟨kid,kc,kw,ke,ks,rfl,hk,-⟩:=h.kz.some_of (by simp)
 obtain ⟨nid,nc,nw,ne,ns',rfl,hn,-⟩:=h.nz.some_of (by simp)
 have hk':=gH _ _ hk
 have hn':=gH _ _ hn
 have a0:Q2 32 (u8s [k0,k1,k2].flatten)=u8s k0:=(Wf h.kx (i:=0) rfl).1
 have a1:Q2 32 (Zr 32 (u8s [k0,k1,k2].flatten))=u8s k1:=(Wf h.kx (i:=1) rfl).1
 have a2:Q2 32 (Zr 64 (u8s [k0,k1,k2].flatten))=u8s k2:=(Wf h.kx (i:=2) rfl).1
 have lk:(u8s [k0,k1,k2].flatten).length=96:=by rw [Qp,KU h.kx]; rfl
 have an:ns32 [i,j]=[.int .u32 i,.int .u32 j]:=rfl
 rw [an] at hn'
 have ok1:∀ L:List Value,(Value.agg L.toArray).cells.toList=L:=fun _=>rfl
 have ok2:∀ L:List Value,(Value.agg L.toArray).cells.size=L.length:=fun _=>rfl
 have ok3:∀ L:List Value,okVar (Value.agg L.toArray)=true:=fun _=>rfl
 have e0:∀ o1 o2:Ob,(H++[o1,o2])[H.length]?=some o1:=fun _ _=>by rw [Qe (Qk _),Qs]; rfl
 have im1:Qy H.length [] [H.length+1]=[]:=QE (by simp)
 have cl5:∀ a b c d e:Value,Q2 5 [a,b,c,d,e]=[a,b,c,d,e]:=fun _ _ _ _ _=>rfl
 have hlen:([k0,k1,k2]:List (List Nat)).length=3:=rfl
 have hlen2:([i,j]:List Nat).length=2:=rfl
 rw [hlen,hlen2] at he g0
 clear hG hl' hk hn h hO gH an
 generalize u8s [k0,k1,k2].flatten=KF at *
 generalize plc k0 i j k1 []=P at *
 rw [QD (fn:=nN) rfl]
 simp only [nN,hlen,hlen2,Q1,quiet,cW,↓pW,reduceCtorEq,seval,-Qb,he,e0,g0,g1,g2,hk',hn',a0,a1,a2,lk,f1,f2,sz,tO,nz,nO,nP,l0,l1,l2,im1,cl5,ok1,ok2,ok3,Q5,QW,Zf,ZU,Zg,Qp,Qn,ZX]
end Go.Ev.YtomfgcgnepfmjaaGreat
namespace Go.Ev.YtomfgcgnepfmjaaGreat
open Go Go.Ev
attribute [local congr] Jq J7 Jp J8 Je
set_option maxRecDepth 100000
variable {nm k n s:List Nat}
theorem OutS.part {K:Nat→Prop} {G:List Ob} {v:Value} {t:List Nat} (h:OutS K G v t) (xt:∀ y∈t,y<256) (hl:t.length≤2^47-4096):HPart (LtN G.length) G v t:=by
 rcases h with ⟨id,-,rfl,h2⟩ | h
 ·exact HPart.whole (Qf.1 h2).1 h2 xt hl
 ·exact h.part xt (by omega)
theorem UW (e m:Nat) (hn:B32 nm):∀ y∈JF nm e m,y<256:=fun y hy=>by
 simp only [JF,frB,QI,Z1,Jc,JN,Q6,QJ,Zc,if_true] at hy
 rcases hy with (((h | h) | h | h) | h) | h
 ·subst h; decide
 ·exact hn.lt y h
 ·exact IF e y h
 ·exact IF m y h
 ·rw [List.eq_of_mem_replicate h]; decide
 ·exact IF 0 y h
theorem WC (e m:Nat) (hn:nm.length=32):(JF nm e m).length=109:=by
 simp [JF,frB,id4,hn]
theorem kN {d:List Nat} (hk:B32 k) (ln:n.length=12) (xn:∀ y∈n,y<256) (xd:∀ y∈d,y<256) (xs:∀ y∈s,y<256) (ld:d.length≤2^40) (ls:s.length≤2^40):B16 (Gg k n d s):=by
 obtain ⟨G,hG⟩:∃ G:List Ob,G=[⟨u8s d,true,true,true,1⟩,⟨u8s s,true,true,true,1⟩,⟨[.slice (some ⟨1,0,none⟩) s.length s.length],true,true,true,1⟩]:=⟨_,rfl⟩
 have lG:G.length=3:=by rw [hG]; rfl
 have h:=(An (H:=G) (dv := .slice (some ⟨0,0,none⟩) d.length d.length) (pv := .slice (some ⟨2,0,none⟩) 1 1) (xs:=[.slice (some ⟨1,0,none⟩) s.length s.length]) (ps:=[s]) hk ln xn (HPart.whole (by omega) (by rw [hG]; rfl) xd (by omega)) (.inr ⟨2,0,1,⟨[.slice (some ⟨1,0,none⟩) s.length s.length],true,true,true,1⟩,rfl,by rw [lG]; decide,by rw [hG]; rfl,rfl,fun i hi=>by rw [QA]⟩) (.cons (HPart.whole (by omega) (by rw [hG]; rfl) xs (by omega)) .nil) (by show 1<2^50; decide) (by simp; omega)).1
 rwa [show [s].flatten=s by simp] at h
theorem ef {d:List Nat} (hk:B32 k) (ln:n.length=12) (xn:∀ y∈n,y<256) (xd:∀ y∈d,y<256) (xs:∀ y∈s,y<256) (ld:d.length≤2^40) (ls:s.length≤2^40):(Y1 k n d s).length=d.length+16∧∀ y∈Y1 k n d s,y<256:=by
 have xm:=AK (c:=1) hk ln xn xd
 have h:=kN hk ln xn xm xs (by rw [Ki]; exact ld) ls
 refine ⟨by rw [Y1,Qg,Ki,h.len],fun y hy => ?_⟩
 rcases QJ.1 hy with h' | h'
 ·exact xm y h'
 ·exact h.lt y h'
def Dat (B:Nat) (G:List Ob) (v:Value) (dl:List Nat):Prop:=∃ id off c o,v=.slice (some ⟨id,off,none⟩) dl.length c∧Rd G id off dl∧dl.length≤c∧G[id]?=some o∧o.es=1∧B≤id
theorem Dat.keep {B:Nat} {H G:List Ob} {v:Value} {dl:List Nat} (h:Dat B H v dl) (hg:∀ i o,B≤i→H[i]?=some o→o.es=1→G[i]?=some o):Dat B G v dl:=by
 obtain ⟨id,off,c,o,h1,⟨⟨o',a1,a2,a3⟩,a4⟩,h3,h4,h5,h6⟩:=h
 have e:o'=o:=by rw [a1] at h4; exact Xk h4
 subst e
 exact ⟨id,off,c,o',h1,⟨⟨o',hg id o' h6 h4 h5,a2,a3⟩,a4⟩,h3,hg id o' h6 h4 h5,h5,h6⟩
theorem Rst.rd {B:Nat} {G:List Ob} {v:Value} {l:List Nat} (h:Rst (fun i=>i<B) G v l) (h0:0<l.length) (xl:∀ y∈l,y<256):Dat B G v l:=by
 obtain ⟨id,off,all,rfl,hb,hg,hl,hi⟩:=h.own_of h0
 refine ⟨id,off,_,_,rfl,⟨⟨_,hg,rfl,fun i hlt => ?_⟩,xl⟩,Qk _,hg,rfl,Nat.le_of_not_lt hb⟩
 have h1:all[off+i]?=some (l.getD i 0):=by rw [hi i hlt,Qx,Qh hlt]; rfl
 exact Jr h1
theorem Rd.part {H:List Ob} {id off c:Nat} {a:List Nat} (h:Rd H id off a) (h0:0<a.length) (hl:a.length≤2^47-128):HPart (fun i=>i<H.length) H (.slice (some ⟨id,off,none⟩) a.length c) a:=by
 obtain ⟨⟨o,h1,h2,h3⟩,h4⟩:=h
 refine ⟨⟨_,_,rfl⟩,fun G hg => ?_,h4,hl⟩
 have hG:liveAt G id=some o:=by rw [liveAt,hg id (Qf.1 h1).1,h1]; simp [h2]
 have hlen:off+(a.length-1)<o.cells.length:=(Qf.1 (h3 (a.length-1) (by omega))).1
 have h5:Q2 a.length (Zr off o.cells)=u8s a:=by
  apply List.ext_getElem?
  intro j
  by_cases hj:j<a.length
  ·rw [QV,if_pos hj,List.getElem?_drop,h3 j hj,Qx,Qh hj]
   exact (Jr (Qh hj)).symm
  ·rw [QK (by rw [Q7]; omega),QK (by rw [Qp]; omega)]
 have h6:off+a.length≤o.cells.length:=by omega
 simp [elemsOf,hG,h5,h6]
theorem Dat.part {B:Nat} {H:List Ob} {v:Value} {dl:List Nat} (h:Dat B H v dl) (h0:0<dl.length) (hl:dl.length≤2^47-128):HPart (fun i=>i<H.length) H v dl:=by
 obtain ⟨id,off,c,o,rfl,h2,-⟩:=h
 exact h2.part h0 hl
theorem OutS.ext {K:Nat→Prop} {G G':List Ob} {v:Value} {t:List Nat} (h:OutS K G v t) (hg:∀ i,i<G.length→G'[i]?=G[i]?):OutS K G' v t:=by
 rcases h with ⟨id,h1,h0,h2⟩ | h
 ·exact .inl ⟨id,h1,h0,(hg id (Qf.1 h2).1).trans h2⟩
 ·exact .inr (h.ext hg)
theorem OutS.dat {B:Nat} {G:List Ob} {v:Value} {t:List Nat} (h:OutS (fun i=>i<B) G v t) (h0:0<t.length) (xt:∀ y∈t,y<256):Dat B G v t:=by
 rcases h with ⟨id,hb,rfl,h2⟩ | h
 ·refine ⟨id,0,_,_,rfl,⟨⟨_,h2,rfl,fun i hlt => ?_⟩,xt⟩,Qk _,h2,rfl,Nat.le_of_not_lt hb⟩
  have h1:t[i]?=some (t.getD i 0):=by rw [Qx,Qh hlt]; rfl
  rw [QA]
  exact Jr h1
 ·exact h.rd h0 xt
def Rf (ik ina is:Nat) (v:Value):Value := .agg #[.int .i64 5,.slice (some ⟨ik,0,none⟩) 1 1,.slice (some ⟨ina,0,none⟩) 2 2,.slice (some ⟨is,0,none⟩) 1 1,v]
structure Msg (B:Nat) (G:List Ob) (ik ina is:Nat) (v:Value) (nm:List Nat) (e m:Nat) (sig dl:List Nat):Prop where
 k:G[ik]?=some ⟨u8s nm,true,true,true,1⟩
 n:G[ina]?=some ⟨[.int .u32 e,.int .u32 m],true,true,true,1⟩
 s:G[is]?=some ⟨u8s sig,true,true,true,1⟩
 d:Dat B G v dl
 bk:B≤ik∧B≤ina∧B≤is
 lk:B32 nm
 ls:sig.length=64
 xs:∀ y∈sig,y<256
 ld:0<dl.length
theorem Msg.keep {B:Nat} {H G:List Ob} {ik ina is:Nat} {v:Value} {nm:List Nat} {e m:Nat} {sig dl:List Nat} (h:Msg B H ik ina is v nm e m sig dl) (hg:∀ i o,B≤i→H[i]?=some o→o.es=1→G[i]?=some o):Msg B G ik ina is v nm e m sig dl :=
 ⟨hg _ _ h.bk.1 h.k rfl,hg _ _ h.bk.2.1 h.n rfl,hg _ _ h.bk.2.2 h.s rfl,h.d.keep hg,h.bk,h.lk,h.ls,h.xs,h.ld⟩
theorem Msg.keep' {B C:Nat} {H G:List Ob} {ik ina is:Nat} {v:Value} {nm:List Nat} {e m:Nat} {sig dl:List Nat} (h:Msg B H ik ina is v nm e m sig dl) (hc:C≤B) (hg:∀ i o,B≤i→H[i]?=some o→o.es=1→G[i]?=some o):Msg C G ik ina is v nm e m sig dl :=
 have k:=h.keep hg
 ⟨k.k,k.n,k.s,by obtain ⟨id,off,c,o,h1,h2,h3,h4,h5,h6⟩:=k.d; exact ⟨id,off,c,o,h1,h2,h3,h4,h5,Jf hc h6⟩,⟨Jf hc k.bk.1,Jf hc k.bk.2.1,Jf hc k.bk.2.2⟩,k.lk,k.ls,k.xs,k.ld⟩
theorem Msg.ext {B:Nat} {H G:List Ob} {ik ina is:Nat} {v:Value} {nm:List Nat} {e m:Nat} {sig dl:List Nat} (h:Msg B H ik ina is v nm e m sig dl) (hg:∀ i,i<H.length→G[i]?=H[i]?):Msg B G ik ina is v nm e m sig dl :=
 h.keep fun i o _ ho _=>(hg i (Qf.1 ho).1).trans ho
theorem Msg.fr {B:Nat} {G:List Ob} {ik ina is:Nat} {v:Value} {nm:List Nat} {e m:Nat} {sig dl:List Nat} (h:Msg B G ik ina is v nm e m sig dl) (hl:dl.length≤16384):FrV G (.slice (some ⟨ik,0,none⟩) 1 1) (.slice (some ⟨ina,0,none⟩) 2 2) (.slice (some ⟨is,0,none⟩) 1 1) v [nm] [e,m] [sig] dl:=by
 have p:=h.d.part h.ld (by omega)
 exact ⟨.inr ⟨_,1,_,_,_,rfl,by rw [show [nm].flatten=nm by simp]; exact h.k,by rw [Qp]; simp [h.lk.len]⟩,fun x hx=>by rw [Zc.1 hx]; exact h.lk.len,.inr ⟨_,2,_,_,_,rfl,h.n,rfl⟩,.inr ⟨_,1,_,_,_,rfl,by rw [show [sig].flatten=sig by simp]; exact h.s,by rw [Qp]; simp [h.ls]⟩,fun x hx=>by rw [Zc.1 hx]; exact h.ls,⟨p.shape,fun G' hG'=>p.reads G' hG'⟩⟩
end Go.Ev.YtomfgcgnepfmjaaGreat
namespace Go.Ev.YtomfgcgnepfmjaaGreat
open Go Go.Ev
variable {c:Nat}
theorem bf {T:Tab} {n:Option Nat} {e:Env} {H:List Ob} {a:Addr} {x:Value×List Ob×Option (List Nat)×List Nat} (h:ZY T (.load n (.tmp c)) e H=some x) (hc:e.get c=some (.pointer (some a))):x.2=(H,some [a.block],[]):=by
 rw [U4] at h
 simp only [Q0,opd,hc,Qj] at h
 cases h1:liveAt H a.block with
 | none=>rw [h1] at h; cases h
 | some o =>
  rw [h1] at h
  simp only [Qj] at h
  split at h
  ·cases h2:ZS n o.cells a.off with
   | none=>rw [h2] at h; cases h
   | some v=>rw [h2] at h; cases h; rfl
  ·cases h
theorem ND {T:Tab} {n:Nat} {v:Operand} {e:Env} {H:List Ob} {a:Addr} {x:Value×List Ob×Option (List Nat)×List Nat} (h:ZY T (.store n (.tmp c) v) e H=some x) (hc:e.get c=some (.pointer (some a))):x.2.2=(some [a.block],[a.block]):=by
 rw [WG] at h
 simp only [Q0,opd,hc,Qj] at h
 cases h1:opd e v with
 | none=>simp only [opd] at h1; rw [h1] at h; cases h
 | some w =>
  simp only [opd] at h1
  rw [h1] at h
  simp only [Qj] at h
  split at h
  ·cases h2:storeAt H a w.cells.toList with
   | none=>rw [h2] at h; cases h
   | some G=>rw [h2] at h; cases h; rfl
  ·cases h
theorem IE {T:Tab} {b a c p q x y:Nat} {n k:Option Nat} {n':Nat} {r:List AOper} {keep:Option (List Nat)} {e:Env} {H:List Ob} {l:List Nat} {ac ap:Addr} (h1:Env.get e c=some (.pointer (some ac))) (h2:Env.get e p=some (.pointer (some ap))) (hne:(ac.block=ap.block)=False) (hxc:(c=x)=False) (hpx:(p=x)=False) (hpy:(p=y)=False) :
  AN T b (.region (⟨some x,.load n (.tmp a),none⟩::⟨some y,.load k (.tmp c),none⟩::⟨none,.store n' (.tmp p) (.tmp q),none⟩::r) keep [(1,2)]) ⟨e,H,l⟩ =
   (steps T b false (⟨some x,.load n (.tmp a),none⟩::⟨some y,.load k (.tmp c),none⟩::⟨none,.store n' (.tmp p) (.tmp q),none⟩::r) ⟨e,H,l⟩).bind fun s'=>some (.normal,s'.after keep):=by
 unfold AN
 rw [KY]
 have hm:=Y7 (T:=T) (b:=b) (⟨some x,.load n (.tmp a),none⟩::⟨some y,.load k (.tmp c),none⟩::⟨none,.store n' (.tmp p) (.tmp q),none⟩::r) ⟨e,H,l⟩ []
 cases hs:steps T b false (⟨some x,.load n (.tmp a),none⟩::⟨some y,.load k (.tmp c),none⟩::⟨none,.store n' (.tmp p) (.tmp q),none⟩::r) ⟨e,H,l⟩ with
 | none =>
  rw [hs] at hm
  rw [Option.map_eq_none_iff.1 hm]; rfl
 | some s' =>
  have g:∀ e:Env,guardOf e none=some true:=fun _=>rfl
  rw [Ko,g]
  unfold steps at hs
  simp only [g] at hs
  dsimp only
  cases hx1:ZY T (.load n (.tmp a)) e H with
  | none=>rw [hx1] at hs; cases hs
  | some x1 =>
   rw [hx1] at hs
   simp only [Qj,Ke,Zj,if_false] at hs ⊢
   rw [Ko,g]
   unfold steps at hs
   simp only [g] at hs
   dsimp only
   cases hx2:ZY T (.load k (.tmp c)) (e.put (some x) x1.1) x1.2.1 with
   | none=>rw [hx2] at hs; cases hs
   | some x2 =>
    rw [hx2] at hs
    simp only [Qj,Ke,Zj,if_false] at hs ⊢
    have r2:=bf hx2 (a:=ac) (by show Env.get ((x,x1.1)::e) c=_; rw [G8 hxc]; exact h1)
    rw [Ko,g]
    unfold steps at hs
    simp only [g] at hs
    dsimp only
    cases hx3:ZY T (.store n' (.tmp p) (.tmp q)) ((e.put (some x) x1.1).put (some y) x2.1) x2.2.1 with
    | none=>rw [hx3] at hs; cases hs
    | some x3 =>
     rw [hx3] at hs
     simp only [Qj,Ke,Zj,if_false] at hs ⊢
     have r3:=ND hx3 (a:=ap) (by show Env.get ((y,x2.1)::(x,x1.1)::e) p=_; rw [G8 hpy,G8 hpx]; exact h2)
     obtain ⟨m,hm'⟩:=WD r _ ([]++[(x1.2.2.1,x1.2.2.2)]++[(x2.2.2.1,x2.2.2.2)]++[(x3.2.2.1,x3.2.2.2)]) s' hs
     rw [hm']
     simp only [Qj,r2,r3]
     have:ap.block≠ac.block:=fun h=>by rw [h] at hne; simp at hne
     simp [Z3,GU,this]
theorem gE {α:Type} {x:Option α}:gate False x=none:=by simp [gate]
end Go.Ev.YtomfgcgnepfmjaaGreat
namespace Go.Ev.YtomfgcgnepfmjaaGreat
open Go Go.Ev
attribute [local congr] Jq J7 Jp J8 Je
set_option maxRecDepth 100000
variable {nm key pub tx sg:List Nat} {e m id:Nat} {H:List Ob} {hv v:Value}
def Kb (nm key:List Nat):List Nat:=(nxK nm key).take 32
def msgD (nm key tx:List Nat) (e m:Nat):List Nat:=Y1 (WK (Kb nm key)) (WJ (Kb nm key)) tx (JF nm e m)
def msgS (nm key sg tx:List Nat) (e m:Nat):List Nat:=Un sg (JF nm e m++msgD nm key tx e m)
theorem aU (nm key:List Nat):∀ y∈nxK nm key,y<256:=DY _ _ _
theorem LQ (nm key:List Nat):(nxK nm key).length=64:=by rw [nxK,EB,V6]
theorem YL (nm key:List Nat):B32 (Kb nm key):=⟨by rw [Kb,Q7,LQ]; rfl,fun y hy=>aU nm key y (QQ hy)⟩
theorem LP (nm key:List Nat):B32 ((nxK nm key).drop 32):=⟨by rw [QC,LQ],fun y hy=>aU nm key y (Zw hy)⟩
theorem Ce {k:List Nat} (hk:B32 k):B32 (WK k):=⟨(Fw hk).1,fun y hy=>DY _ _ _ y (QQ hy)⟩
theorem Mh (k:List Nat):∀ y∈WJ k,y<256:=fun y hy=>DY _ _ _ y (Zw (QQ hy))
theorem AJ (e m:Nat) (hn:B32 nm) (xt:∀ y∈tx,y<256) (lt:tx.length≤2^40):(msgD nm key tx e m).length=tx.length+16∧∀ y∈msgD nm key tx e m,y<256 :=
 ef (Ce (YL _ _)) (Fw (YL _ _)).2.1 (Mh _) xt (UW e m hn) lt (by rw [WC e m hn.len]; decide)
theorem Fi {tv:Value} (hn:B32 nm) (hk:B32 key) (hs:B32 sg) (hm:m<16777216) (ht:HPart (fun i=>i<H.length) H tv tx) (htl:tx.length≤16368) :
  ∃ ik ina is v H',Zb T 24 [.agg (plc nm e m key (u8s sg)).toArray,tv] H=some (.tuple #[.agg (plc nm e (m+1) ((nxK nm key).drop 32) (u8s sg)).toArray,Rf ik ina is v,.int .i64 0],H',[])∧Msg H.length H' ik ina is v nm e m (msgS nm key sg tx e m) (msgD nm key tx e m)∧(∀ i,i<H.length→H'[i]?=H[i]?)∧H.length≤H'.length:=by
 have n0:=JD (e:=e) (m:=m) (tl:=u8s sg) hn.len hk.len
 rw [Qp,hs.len] at n0
 have hKb:=YL nm key
 have hX:=LP nm key
 have n1:=JD (e:=e) (m:=m+1) (tl:=u8s sg) hn.len hX.len
 rw [Qp,hs.len] at n1
 obtain ⟨S,hS⟩:∃ X,X=plc nm e m key (u8s sg):=⟨_,rfl⟩
 obtain ⟨S',hS'⟩:∃ X,X=plc nm e (m+1) ((nxK nm key).drop 32) (u8s sg):=⟨_,rfl⟩
 have r1:Q2 32 S=u8s nm:=by rw [hS]; exact DW hn.len
 have r3:Q2 32 (Zr 66 S)=u8s sg:=by rw [hS,MT hn.len hk.len]; exact Q5 (by rw [Qp,hs.len])
 have r4:S[32]?=some (.int .u32 e):=by rw [hS]; exact A0 hn.len
 have r5:S[33]?=some (.int .u32 m):=by rw [hS]; exact K6 hn.len
 rw [←hS] at n0
 rw [←hS'] at n1
 rw [←hS,←hS']
 obtain ⟨H1,hH1⟩:∃ G,G=H++[(⟨S,true,true,true,1⟩:Ob),⟨K8,true,true,true,1⟩,⟨XK,true,true,true,1⟩,⟨S,true,true,true,1⟩]:=⟨_,rfl⟩
 have l1:H1.length=H.length+4:=by rw [hH1]; simp
 have old1:∀ i,i<H.length→H1[i]?=H[i]? := fun i hi=>by rw [hH1,Qa hi]
 have at1:∀ j o,[(⟨S,true,true,true,1⟩:Ob),⟨K8,true,true,true,1⟩,⟨XK,true,true,true,1⟩,⟨S,true,true,true,1⟩][j]?=some o→H1[H.length+j]?=some o:=fun j o hj=>by rw [hH1,Qe (by omega),Qq]; exact hj
 obtain ⟨-,H2,M2,hnx,q1,q2,q3,q4⟩:=Ma (e:=e) (m:=m) (tl:=u8s sg) ((at1 3 _ rfl).trans (by rw [hS])) hn hk hm
 rw [←hS'] at q1
 rw [show (nxK nm key).take 32=Kb nm key from rfl] at hnx
 obtain ⟨K,hK⟩:∃ X,X=Kb nm key:=⟨_,rfl⟩
 rw [←hK] at hnx hKb
 have old2:∀ i,i<H1.length→i≠H.length+3→H2[i]?=H1[i]? := q2
 obtain ⟨H3,hH3⟩:∃ G,G=H2++[(⟨u8s K,true,true,true,1⟩:Ob),⟨u8s nm,true,true,true,1⟩,⟨[.int .u32 e,.int .u32 m],true,true,true,1⟩,⟨u8s (Qc 64 0),true,true,true,1⟩,⟨[.int .i64 5,.slice (some ⟨H2.length+1,0,none⟩) 1 1,.slice (some ⟨H2.length+2,0,none⟩) 2 2,.slice (some ⟨H2.length+3,0,none⟩) 1 1,.slice none 0 0],true,true,true,1⟩]:=⟨_,rfl⟩
 have l3:H3.length=H2.length+5:=by rw [hH3]; simp
 have old3:∀ i,i<H2.length→H3[i]?=H2[i]? := fun i hi=>by rw [hH3,Qa hi]
 have at3:∀ j o,[(⟨u8s K,true,true,true,1⟩:Ob),⟨u8s nm,true,true,true,1⟩,⟨[.int .u32 e,.int .u32 m],true,true,true,1⟩,⟨u8s (Qc 64 0),true,true,true,1⟩,⟨[.int .i64 5,.slice (some ⟨H2.length+1,0,none⟩) 1 1,.slice (some ⟨H2.length+2,0,none⟩) 2 2,.slice (some ⟨H2.length+3,0,none⟩) 1 1,.slice none 0 0],true,true,true,1⟩][j]?=some o→H3[H2.length+j]?=some o:=fun j o hj=>by rw [hH3,Qe (by omega),Qq]; exact hj
 obtain ⟨v1,k1,hfr,o1⟩:=Rq (H:=H3) (ka := .slice (some ⟨H2.length+1,0,none⟩) 1 1) (na := .slice (some ⟨H2.length+2,0,none⟩) 2 2) (sa := .slice (some ⟨H2.length+3,0,none⟩) 1 1) (da := .slice none 0 0) (nm:=nm) (e:=e) (m:=m) (.inr ⟨_,1,_,_,_,rfl,at3 1 _ rfl,by rw [Qp,hn.len]⟩) (.inr ⟨_,2,_,_,_,rfl,at3 2 _ rfl,rfl⟩) hn.len
 have lfr:=WC e m hn.len
 have xfr:=UW e m hn
 obtain ⟨H4,hH4⟩:∃ G,G=H3++k1:=⟨_,rfl⟩
 rw [←hH4] at hfr o1
 have l4:H3.length≤H4.length:=by rw [hH4,Qg]; omega
 have old4:∀ i,i<H3.length→H4[i]?=H3[i]? := fun i hi=>by rw [hH4,Qa hi]
 have p1:=o1.part xfr (by rw [lfr]; decide)
 obtain ⟨H5,hH5⟩:∃ G,G=H4++[(⟨[v1],true,true,true,1⟩:Ob)]:=⟨_,rfl⟩
 have l5:H5.length=H4.length+1:=by rw [hH5]; simp
 have old5:∀ i,i<H4.length→H5[i]?=H4[i]? := fun i hi=>by rw [hH5,Qa hi]
 have at5:H5[H4.length]?=some ⟨[v1],true,true,true,1⟩:=by rw [hH5,Qe (Qk _),Qs]; rfl
 have up5:∀ i,i<H.length→H5[i]?=H[i]? := fun i hi=>by rw [old5 i (by omega),old4 i (by omega),old3 i (by omega),old2 i (by omega) (by omega),old1 i hi]
 have hb:=Fw hKb
 obtain ⟨v2,H6,M6,hse,s1,s2,s3,s4⟩:=ee (H:=H5) (d:=tx) (dv:=tv) (pv := .slice (some ⟨H4.length,0,none⟩) 1 1) (xs:=[v1]) (ps:=[JF nm e m]) (Ce hKb) hb.2.1 (Mh K) (ht.extK (fun i hi=>by omega) up5) (by omega) (.inr ⟨_,0,1,_,rfl,by omega,at5,rfl,fun i hi=>by rw [QA]⟩) (.cons (p1.extK (fun i hi=>by have:i<H4.length:=hi; omega) old5) .nil) (by show 1<2^50; decide) (by simp [lfr])
 have hD:=AJ (key:=key) e m hn ht.lt (by omega)
 rw [show [JF nm e m].flatten=JF nm e m by simp,hK,show Y1 (WK (Kb nm key)) (WJ (Kb nm key)) tx (JF nm e m)=msgD nm key tx e m from rfl] at s1
 obtain ⟨D,hDD⟩:∃ X,X=msgD nm key tx e m:=⟨_,rfl⟩
 rw [←hDD] at s1 hD
 have o2:OutS (fun i=>i<H5.length) H6 v2 D := .inr s1
 obtain ⟨fr2,hfr2⟩:∃ o:Ob,o=⟨[.int .i64 5,.slice (some ⟨H2.length+1,0,none⟩) 1 1,.slice (some ⟨H2.length+2,0,none⟩) 2 2,.slice (some ⟨H2.length+3,0,none⟩) 1 1,v2],true,true,true,1⟩:=⟨_,rfl⟩
 obtain ⟨H8,hH8⟩:∃ G,G=H6.set (H2.length+4) fr2++[(⟨[v1,v2],true,true,true,1⟩:Ob)]:=⟨_,rfl⟩
 have l8:H8.length=H6.length+1:=by rw [hH8]; simp
 have old8:∀ i,i<H6.length→i≠H2.length+4→H8[i]?=H6[i]? := fun i hi hne=>by rw [hH8,Qa (by rw [Qo]; exact hi),Qm (Ne.symm hne)]
 have at8:H8[H6.length]?=some ⟨[v1,v2],true,true,true,1⟩:=by rw [hH8,Qe (by rw [Qo]; exact Qk _),Qo,Qs]; rfl
 have up8:∀ i,i<H3.length→i≠H2.length+4→H8[i]?=H3[i]? := fun i hi hne=>by rw [old8 i (by omega) hne,s2 i (by omega),old5 i (by omega),old4 i hi]
 have o2':OutS (fun i=>i<H5.length) H8 v2 D:=by rw [hH8]; exact (o2.setK (by omega) fr2).app
 have o1':OutS (LtN H3.length) H8 v1 (JF nm e m):=by
  rw [hH8]
  refine OutS.app (OutS.setK ?_ (by show _<_; omega) fr2)
  exact (o1.ext old5).ext s2
 obtain ⟨k9,hmk⟩:=fU (H:=H8) (pv := .slice (some ⟨H6.length,0,none⟩) 2 2) (ps:=[JF nm e m,D]) hs.len hs.lt (Args.arr at8 rfl (.cons (o1'.part xfr (by rw [lfr]; decide)) (.cons (o2'.part hD.2 (by omega)) .nil)) (by decide)) (by show 2≤1000; decide) (by simp [lfr]; omega)
 have hsg:Un sg [JF nm e m,D].flatten=msgS nm key sg tx e m:=by rw [hDD]; simp [msgS]
 have ls:=C8 sg [JF nm e m,D].flatten
 have xs:=ec sg [JF nm e m,D].flatten
 rw [hsg] at hmk ls xs
 obtain ⟨sig,hsig⟩:∃ X,X=msgS nm key sg tx e m:=⟨_,rfl⟩
 rw [←hsig] at hmk ls xs ⊢
 rw [←hDD]
 obtain ⟨H9,hH9⟩:∃ G,G=(H8++k9).set (H2.length+3) (⟨u8s sig,true,true,true,1⟩:Ob):=⟨_,rfl⟩
 have l9:H8.length≤H9.length:=by rw [hH9,Qo,Qg]; omega
 have old9:∀ i,i<H8.length→i≠H2.length+3→H9[i]?=H8[i]? := fun i hi hne=>by rw [hH9,Qm (Ne.symm hne),Qa hi]
 have at9:H9[H2.length+3]?=some ⟨u8s sig,true,true,true,1⟩:=by rw [hH9,Qt (by rw [Qg]; omega)]
 have o29:OutS (fun i=>i<H5.length) H9 v2 D:=by rw [hH9]; exact o2'.app.setK (by omega) _
 obtain ⟨H10,hH10⟩:∃ G,G=(H9.set (H.length+1) (⟨S',true,true,true,1⟩:Ob)).set (H.length+2) fr2:=⟨_,rfl⟩
 have old10:∀ i,i≠H.length+1→i≠H.length+2→H10[i]?=H9[i]? := fun i h1 h2=>by rw [hH10,Qm (Ne.symm h2),Qm (Ne.symm h1)]
 have o210:OutS (fun i=>i<H5.length) H10 v2 D:=by rw [hH10]; exact (o29.setK (by omega) _).setK (by omega) _
 have up93:∀ i,i<H3.length→i≠H2.length+4→i≠H2.length+3→H9[i]?=H3[i]? := fun i hi h1 h2=>by rw [old9 i (by omega) h2,up8 i hi h1]
 refine ⟨H2.length+1,H2.length+2,H2.length+3,v2,H10,?_,⟨?_,?_,?_,(o210.toK fun i hi h'=>hi (show i<H5.length by have:i<H.length:=h'; omega)).dat (by omega) hD.2,⟨by omega,by omega,by omega⟩,hn,ls,xs,by omega⟩,fun i hi => ?_,?_⟩
 rotate_left
 ·rw [old10 _ (by omega) (by omega),up93 _ (by omega) (by omega) (by omega)]; exact at3 1 _ rfl
 ·rw [old10 _ (by omega) (by omega),up93 _ (by omega) (by omega) (by omega)]; exact at3 2 _ rfl
 ·rw [old10 _ (by omega) (by omega)]; exact at9
 ·rw [old10 _ (by omega) (by omega),up93 _ (by omega) (by omega) (by omega),old3 i (by omega),old2 i (by omega) (by omega),old1 i hi]
 ·rw [hH10,Qo,Qo]; omega
 have g2:∀ L:List Ob,(H2++L)[H.length]?=some ⟨S,true,true,true,1⟩:=fun L=>by rw [Qa (by omega),old2 _ (by omega) (by omega)]; exact at1 0 _ rfl
 have g4:H4[H2.length]?=some ⟨u8s K,true,true,true,1⟩:=(old4 _ (by omega)).trans (at3 0 _ rfl)
 have g3:H3[H2.length+4]?=some _:=at3 4 _ rfl
 have g6:H6[H2.length+4]?=some ⟨[.int .i64 5,.slice (some ⟨H2.length+1,0,none⟩) 1 1,.slice (some ⟨H2.length+2,0,none⟩) 2 2,.slice (some ⟨H2.length+3,0,none⟩) 1 1,.slice none 0 0],true,true,true,1⟩:=by rw [s2 _ (by omega),old5 _ (by omega),old4 _ (by omega)]; exact g3
 have g6a:(H6.set (H2.length+4) fr2)[H2.length+4]?=some fr2:=Qt (by omega)
 have g6b:(H6.set (H2.length+4) fr2)[H.length]?=some ⟨S,true,true,true,1⟩:=by rw [Qm (by omega),s2 _ (by omega),old5 _ (by omega),old4 _ (by omega),old3 _ (by omega),old2 _ (by omega) (by omega)]; exact at1 0 _ rfl
 have g8:(H8++k9)[H2.length+3]?=some ⟨u8s (Qc 64 0),true,true,true,1⟩:=by rw [Qa (by omega),up8 _ (by omega) (by omega)]; exact at3 3 _ rfl
 have g9a:H9[H.length+3]?=some ⟨S',true,true,true,1⟩:=by rw [up93 _ (by omega) (by omega) (by omega),old3 _ (by omega)]; exact q1
 have g9b:H9[H2.length+4]?=some fr2:=by rw [old9 _ (by omega) (by omega),hH8,Qa (by rw [Qo]; omega)]; exact g6a
 have g9c:H9[H.length+1]?=some ⟨K8,true,true,true,1⟩:=by rw [up93 _ (by omega) (by omega) (by omega),old3 _ (by omega),old2 _ (by omega) (by omega)]; exact at1 1 _ rfl
 have g9d:∀ o,(H9.set (H.length+1) o)[H.length+2]?=some ⟨XK,true,true,true,1⟩:=fun o=>by rw [Qm (by omega),up93 _ (by omega) (by omega) (by omega),old3 _ (by omega),old2 _ (by omega) (by omega)]; exact at1 2 _ rfl
 have g10a:H10[H.length+1]?=some ⟨S',true,true,true,1⟩:=by rw [hH10,Qm (by omega),Qt (by omega)]
 have g10b:H10[H.length+2]?=some fr2:=by rw [hH10,Qt (by rw [Qo]; omega)]
 have nb:(H2.length+4=H.length+1)=False:=eq_false (by omega)
 have hbk:=@IE T H.length 7 10 4 69 69 70 (some 98) (some 5) 98 [⟨none,.store 5 (.tmp 5) (.tmp 70),none⟩,⟨some 6,.move (.const (.int .i64 0)),none⟩] (some [4,5,6]) [(4,.pointer (some ⟨H.length+1,0,none⟩)),(5,.pointer (some ⟨H.length+2,0,none⟩)),(7,.pointer (some ⟨H.length+3,0,none⟩)),(10,.pointer (some ⟨H2.length+4,0,none⟩))] H9 [] ⟨H2.length+4,0,none⟩ ⟨H.length+1,0,none⟩ rfl rfl nb (eq_false (by decide)) (eq_false (by decide)) (eq_false (by decide))
 have hz64:=YH
 have lz:(Qc 64 0).length=64:=Qn
 obtain ⟨z32,hz32,lz32⟩:∃ z:List Nat,Qc 32 (Value.int .u8 0)=u8s z∧z.length=32:=⟨Qc 32 0,rfl,rfl⟩
 have f64:=EV lz
 have fz:fillL (u8s (Qc 64 0)) []=some (u8s (Qc 64 0)):=rfl
 rw [hz64] at f64
 have f32:fillL (u8s z32) [(0,32,.agg (u8s nm).toArray)]=some (u8s nm):=by
  have ln:=hn.len
  rw [XH (VA ln) (by rw [Qp,lz32]; decide) rfl,show (Value.agg (u8s nm).toArray).cells.toList=u8s nm from rfl,QO (by rw [Qp,Qp,lz32,ln])]
  rfl
 have f2:fillL [Value.int .u32 0,.int .u32 0] [(0,1,.int .u32 (e:Int)),(1,1,.int .u32 (m:Int))]=some [.int .u32 (e:Int),.int .u32 (m:Int)]:=rfl
 have f5:∀ a b c:Addr,fillL XK [(0,1,.int .i64 5),(1,1,.slice (some a) 1 1),(2,1,.slice (some b) 2 2),(3,1,.slice (some c) 1 1)]=some [.int .i64 5,.slice (some a) 1 1,.slice (some b) 2 2,.slice (some c) 1 1,.slice none 0 0]:=fun _ _ _=>rfl
 obtain ⟨a1,c1,hv1⟩:=o1.shape
 obtain ⟨a2,c2,hv2⟩:=o2.shape
 rw [lfr] at hv1
 have w1:fillL [Value.slice none 0 0] [(0,1,v1)]=some [v1]:=by rw [hv1]; rfl
 have w2:fillL [Value.slice none 0 0,.slice none 0 0] [(0,1,v1),(1,1,v2)]=some [v1,v2]:=by rw [hv1,hv2]; rfl
 have c1v:v2.cells.toList=[v2]:=by rw [hv2]; rfl
 have c2v:v2.cells.size=1:=by rw [hv2]; rfl
 have c3v:okVar v2=true:=by rw [hv2]; rfl
 have sp4:∀ (a b c d e' f':Value),splice [a,b,c,d,e'] 4 [f']=[a,b,c,d,f']:=fun _ _ _ _ _ _=>rfl
 have sp5:∀ (a b c d e':Value),splice XK 0 [a,b,c,d,e']=[a,b,c,d,e']:=fun _ _ _ _ _=>rfl
 have cl5:∀ a b c d e':Value,Q2 5 [a,b,c,d,e']=[a,b,c,d,e']:=fun _ _ _ _ _=>rfl
 have lzs:K8.length=98:=rfl
 have lzf:XK.length=5:=rfl
 have spS:splice K8 0 S=S:=QO (by rw [n0,lzs])
 have spS':splice K8 0 S'=S':=QO (by rw [n1,lzs])
 have tS:Q2 98 S=S:=Q5 n0
 have tS':Q2 98 S'=S':=Q5 n1
 have spK:=QO (cs:=u8s z32) (v:=u8s K) (by rw [Qp,Qp,hKb.len,lz32])
 have spG:=QO (cs:=u8s (Qc 64 0)) (v:=u8s sig) (by rw [Qp,Qp,ls,lz])
 have tK:Q2 32 (u8s K)=u8s K:=Q5 (by rw [Qp,hKb.len])
 have e1:((16368:Int)<(tx.length:Int))=False:=eq_false (by omega)
 have hlen:vLen false tv=some (.int .i64 tx.length):=by obtain ⟨a,c,rfl⟩:=ht.shape; rfl
 have ok1:∀ L:List Value,(Value.agg L.toArray).cells.toList=L:=fun _=>rfl
 have ok2:∀ L:List Value,(Value.agg L.toArray).cells.size=L.length:=fun _=>rfl
 have ok3:∀ L:List Value,okVar (Value.agg L.toArray)=true:=fun _=>rfl
 have im1:Qy H.length [] M2=[]:=QE fun i hi=>by have:=q4 i hi; omega
 have im2:Qy H.length [] M6=[]:=QE fun i hi=>by have:=s4 i hi; omega
 have im3:∀ j,Qy H.length [] [H2.length+j]=[]:=fun j=>QE (by simp; omega)
 have im4:∀ j,Qy H.length [] [H.length+j]=[]:=fun j=>QE (by simp)
 have im5:Qy H.length [] [H2.length]=[]:=QE (by simp; omega)
 have h1:=hH1.symm
 have h3:=hH3.symm
 have h5:=hH5.symm
 have h8:=hH8.symm
 have h9:=hH9.symm
 have h10:=hH10.symm
 have hfr2':=hfr2.symm
 have fc:fr2.cells=[.int .i64 5,.slice (some ⟨H2.length+1,0,none⟩) 1 1,.slice (some ⟨H2.length+2,0,none⟩) 2 2,.slice (some ⟨H2.length+3,0,none⟩) 1 1,v2]:=by rw [hfr2]
 have fl:fr2.live=true:=by rw [hfr2]
 have hbv:=hb.2.2
 have lAB:(WK K++WJ K).length=44:=by rw [Qg,hb.1,hb.2.1]
 have lsg:=hs.len
 have lnm:=hn.len
 have lK:=hKb.len
 clear hH1 hH3 hH4 hH5 hH8 hH9 hH10 hS hS' hK hDD hsig hsg o1 o2 o1' o2' o29 o210 p1 s1 at1 at3 at5 at8 at9 q1 q2 q3 q4 s2 s3 s4 old1 old2 old3 old4 old5 old8 old9 old10 up5 up8 up93 hb hD ht hX xs xfr hn hk hs
 generalize Qc 64 0=Z64,WK K++WJ K=AB at *
 rw [QD (fn:=nL) rfl]
 simp only [nL,Q1,quiet,cW,↓pW,reduceCtorEq,seval,-Qb,r1,r3,r4,r5,hnx,hfr,hbv,hse,hmk,g2,g3,g4,g6,g6a,g6b,g8,g9a,g9b,g9c,g9d,g10a,g10b,f64,fz,f32,f2,f5,w1,w2,hz64,hz32,lz32,c1v,c2v,c3v,sp4,sp5,cl5,lzs,lzf,spS,spS',tS,tS',spK,spG,tK,e1,hlen,ok1,ok2,ok3,im1,im2,im3,im4,im5,h1,h3,h5,h8,h9,h10,hfr2',fc,fl,lz,lAB,lsg,lnm,lK,ls,n0,n1,Q5,QW,Zf,ZU,Zg,Qp,Qn,Qo,ZX,Rf,gE,Ie,Option.bind_none,hbk]
def fol (nm:List Nat) (e m:Nat) (key pub:List Nat) (hv:Value):List Value:=plc nm e m key (u8s pub++[hv])
theorem Xw (h1:nm.length=32) (h2:key.length=32) (h3:pub.length=32):(fol nm e m key pub hv).length=99:=by
 rw [fol,JD h1 h2,Qg,Qp,h3]; rfl
theorem Ng (h1:nm.length=32) (h2:key.length=32) (h3:pub.length=32):Q2 32 (Zr 66 (fol nm e m key pub hv))=u8s pub:=by
 rw [fol,MT h1 h2]
 exact Jz (by rw [Qp,h3])
theorem KX (h1:nm.length=32) (h2:key.length=32) (h3:pub.length=32):(fol nm e m key pub hv)[98]?=some hv:=by
 rw [fol,W3,Qe (by rw [JD h1 h2]; decide),JD h1 h2,Qe (by rw [Qp,h3]; decide),Qp,h3]; rfl
theorem Ya {hv':Value} (h1:nm.length=32) (h2:key.length=32) (h3:pub.length=32):(fol nm e m key pub hv).set 98 hv'=fol nm e m key pub hv':=by
 rw [fol,W3,Q4 _ _ (by rw [JD h1 h2]; decide),JD h1 h2,Q4 _ _ (by rw [Qp,h3]; decide),Qp,h3,fol,W3 nm e m key (u8s pub++[hv'])]; rfl
theorem gu {fv:Value}:Zb T 94 [.slice none 0 0,fv] H=some (.int .i64 (-1),H,[]):=by
 obtain ⟨st,hA,rfl⟩:=QZ (T:=T) (base:=H.length) (id:=0) (body:=V2)
  (fun i st=>st=⟨[(0,.slice none 0 0),(1,fv),(7,.int .i64 0),(8,.int .i64 0)],H,[]⟩) (Q:=fun st=>st=⟨[(0,.slice none 0 0),(1,fv),(7,.int .i64 0),(8,.int .i64 0),(9,.bool false)],H,[]⟩)
  0 (s:=⟨[(0,.slice none 0 0),(1,fv),(7,.int .i64 0),(8,.int .i64 0)],H,[]⟩) rfl (fun i st hi=>absurd hi (X5 _))
  (fun st hs=>by
   subst hs
   refine ⟨_,?_,rfl⟩
   have e1:((0:Int)<0)=False:=eq_false (by decide)
   simp only [V2,Q1,quiet,cW,↓pW,reduceCtorEq,seval,-Qb,e1])
 have hlen:vLen false (.slice none 0 0)=some (.int .i64 0):=rfl
 rw [QD (fn:=Ll) rfl]
 simp only [Ll,Q1,quiet,cW,↓pW,reduceCtorEq,seval,-Qb,hlen,hA]
theorem TY:Zb T 49 [.slice none 0 0] H=some (.slice none 0 0,H,[]):=by
 have h1:Vq 1 (.slice none 0 0)=some true:=rfl
 rw [QD (fn:=Lm) rfl]
 simp only [Lm,Q1,quiet,cW,↓pW,reduceCtorEq,seval,-Qb,h1]
theorem gk {mi:Nat} (ho:H[id]?=some ⟨fol nm e m key pub (.slice none 0 0),true,true,true,1⟩) (hn:B32 nm) (hk:B32 key) (hp:pub.length=32) (hm:mi<m) :
  ∃ l,Zb T 50 [.pointer (some ⟨id,0,none⟩),.int .u32 mi] H=some (.tuple #[.agg (u8s (Qc 32 0)).toArray,.int .i64 151],H++l,[]):=by
 have hid:=(Qf.1 ho).1
 obtain ⟨z,hz,lz⟩:∃ z:List Nat,Qc 32 (Value.int .u8 0)=u8s z∧z=Qc 32 0:=⟨Qc 32 0,rfl,rfl⟩
 have l32:z.length=32:=by rw [lz]; rfl
 have g1:∀ L:List Ob,(H++L)[id]?=some ⟨fol nm e m key pub (.slice none 0 0),true,true,true,1⟩:=fun L=>by rw [Qa hid]; exact ho
 have num:(fol nm e m key pub (.slice none 0 0))[33]?=some (.int .u32 m):=K6 hn.len
 have hv:=KX (e:=e) (m:=m) (hv := .slice none 0 0) hn.len hk.len hp
 have hl:=Xw (e:=e) (m:=m) (hv := .slice none 0 0) hn.len hk.len hp
 have e1:((mi:Int)<(m:Int))=True:=eq_true (by omega)
 have g2:∀ o1 o2:Ob,(H++[o1,o2])[H.length]?=some o1:=fun _ _=>by rw [Qe (Qk _),Qs]; rfl
 have g3:∀ o1 o2:Ob,(H++[o1,o2])[H.length+1]?=some o2:=fun _ _=>by rw [Qe (by omega),Qq]; rfl
 have t3:∀ o1 o2 o:Ob,(H++[o1,o2]).set (H.length+1) o=H++[o1,o]:=fun _ _ _=>by rw [Q4 _ _ (by omega),Qq]; rfl
 have hi:=@gu
 have im:∀ L,Qy H.length L [H.length+1]=L:=fun L=>QE (by simp)
 have fz:fillL (u8s z) []=some (u8s z):=rfl
 have sp:=QO (cs:=u8s z) (v:=u8s z) rfl
 have tz:Q2 32 (u8s z)=u8s z:=Q5 (by rw [Qp,l32])
 have e2:((-1:Int)<0)=True:=eq_true (by decide)
 have ok1:∀ L:List Value,(Value.agg L.toArray).cells.toList=L:=fun _=>rfl
 have ok2:∀ L:List Value,(Value.agg L.toArray).cells.size=L.length:=fun _=>rfl
 have ok3:∀ L:List Value,okVar (Value.agg L.toArray)=true:=fun _=>rfl
 rw [←lz]
 clear lz ho
 generalize fol nm e m key pub (.slice none 0 0)=F at *
 refine ⟨[⟨[.int .u32 mi],true,true,true,1⟩,⟨u8s z,true,true,true,1⟩],?_⟩
 rw [QD (fn:=RN) rfl]
 simp only [RN,Q1,quiet,cW,↓pW,reduceCtorEq,seval,-Qb,hz,l32,g1,g2,g3,t3,num,hv,hl,e1,e2,hi,im,fz,sp,tz,ok1,ok2,ok3,Kx,Qp]
def kyS (id a b:Nat) (H:List Ob) (L:List Nat) (ex:Env):St:=⟨[(0,.pointer (some ⟨id,0,none⟩)),(3,.pointer (some ⟨a,0,none⟩)),(4,.pointer (some ⟨b,0,none⟩))]++ex,H,L⟩
theorem gn (ho:H[id]?=some ⟨fol nm e m key pub (.slice none 0 0),true,true,true,1⟩) (hn:B32 nm) (hk:B32 key) (hp:pub.length=32) (hm:m<16777216) :
  ∃ H' M,Zb T 50 [.pointer (some ⟨id,0,none⟩),.int .u32 m] H=some (.tuple #[.agg (u8s (Kb nm key)).toArray,.int .i64 0],H',M)∧H'[id]?=some ⟨fol nm e (m+1) ((nxK nm key).drop 32) pub (.slice none 0 0),true,true,true,1⟩∧(∀ i,i<H.length→i≠id→H'[i]?=H[i]?)∧H.length≤H'.length∧∀ i∈M,i=id:=by
 have hid:=(Qf.1 ho).1
 obtain ⟨z,hz,lz⟩:∃ z:List Nat,Qc 32 (Value.int .u8 0)=u8s z∧z.length=32:=⟨Qc 32 0,rfl,rfl⟩
 obtain ⟨H1,hH1⟩:∃ G,G=H++[(⟨[.int .u32 m],true,true,true,1⟩:Ob),⟨u8s z,true,true,true,1⟩]:=⟨_,rfl⟩
 have l1:H1.length=H.length+2:=by rw [hH1]; simp
 have g1:H1[id]?=some ⟨fol nm e m key pub (.slice none 0 0),true,true,true,1⟩:=by rw [hH1,Qa hid]; exact ho
 have g1i:H1[H.length]?=some ⟨[.int .u32 m],true,true,true,1⟩:=by rw [hH1,Qe (Qk _),Qs]; rfl
 obtain ⟨-,H2,M2,hnx,q1,q2,q3,q4⟩:=Ma (e:=e) (m:=m) (tl:=u8s pub++[.slice none 0 0]) g1 hn hk hm
 rw [show (nxK nm key).take 32=Kb nm key from rfl] at hnx
 have hKb:=YL nm key
 generalize Kb nm key=K at *
 have num:(fol nm e m key pub (.slice none 0 0))[33]?=some (.int .u32 m):=K6 hn.len
 have hv:=KX (e:=e) (m:=m) (hv := .slice none 0 0) hn.len hk.len hp
 have hl:=Xw (e:=e) (m:=m) (hv := .slice none 0 0) hn.len hk.len hp
 have hsv:=Ya (e:=e) (m:=m) (hv := .slice none 0 0) (hv' := .slice none 0 0) hn.len hk.len hp
 have hq:∀ k tl,plc nm e (m+1) k (u8s pub++[tl])=fol nm e (m+1) k pub tl:=fun _ _=>rfl
 rw [hq] at q1
 generalize fol nm e m key pub (.slice none 0 0)=F at *
 generalize fol nm e (m+1) ((nxK nm key).drop 32) pub (.slice none 0 0)=F' at *
 have e1:((m:Int)<(m:Int))=False:=eq_false (by omega)
 obtain ⟨st,hA,rfl⟩:=QZ (T:=T) (base:=H.length) (id:=0) (body:=VO)
  (fun i st=>st=kyS id H.length (H.length+1) H1 [] [(54,.bool false)]) (Q:=fun st=>st=kyS id H.length (H.length+1) H1 [] [(62,.bool false)])
  0 (s:=kyS id H.length (H.length+1) H1 [] [(54,.bool false)]) rfl (fun i st hi=>absurd hi (X5 _))
  (fun st hs=>by
   subst hs
   refine ⟨_,?_,rfl⟩
   simp only [kyS,VO,Q1,quiet,cW,↓pW,reduceCtorEq,seval,-Qb,e1,g1,g1i,num])
 refine ⟨H2.set (H.length+1) ⟨u8s K,true,true,true,1⟩,Qy H.length (Qy H.length [] [id]) M2,?_,?_,fun i hi hne => ?_,?_,fun i hi => ?_⟩
 rotate_left
 ·rw [Qm (by omega)]; exact q1
 ·rw [Qm (by omega),q2 i (by omega) hne,hH1,Qa hi]
 ·rw [Qo]; omega
 ·rcases Za hi with h | h
  ·rcases Za h with h | h
   ·simp at h
   ·exact Zc.1 h
  ·exact q4 i h
 have h1:=hH1.symm
 have w1:IntKind.u32.wrap ((m:Int)-(m:Int))=0:=by rw [Int.sub_self]; rfl
 have e2:((1000:Int)<0)=False:=eq_false (by decide)
 have hlen:vLen false (.slice none 0 0)=some (.int .i64 0):=rfl
 have w2:IntKind.i64.wrap (0-1000) = -1000:=by decide
 have mx:Wy true (.int .i64 0) (.int .i64 (-1000))=some (.int .i64 0):=rfl
 have b1:ZA 0 0 (some (.int .i64 0)) none none=some (0,0,0):=rfl
 have ss:=VX g1
 have g3:H2[H.length+1]?=some ⟨u8s z,true,true,true,1⟩:=by rw [q2 _ (by omega) (by omega),hH1,Qe (by omega),Qq]; rfl
 have g4:∀ o,(H2.set (H.length+1) o)[H.length+1]?=some o:=fun o=>Qt (by omega)
 have im:∀ L,Qy H.length L [H.length+1]=L:=fun L=>QE (by simp)
 have sp:=QO (cs:=u8s z) (v:=u8s K) (by rw [Qp,Qp,lz,hKb.len])
 have tK:Q2 32 (u8s K)=u8s K:=Q5 (by rw [Qp,hKb.len])
 have lK:=hKb.len
 have ok1:∀ L:List Value,(Value.agg L.toArray).cells.toList=L:=fun _=>rfl
 have ok2:∀ L:List Value,(Value.agg L.toArray).cells.size=L.length:=fun _=>rfl
 have ok3:∀ L:List Value,okVar (Value.agg L.toArray)=true:=fun _=>rfl
 simp only [kyS,Qw,Qr] at hA
 clear hH1 q1 q2 q3 q4 hKb ho
 rw [QD (fn:=RN) rfl]
 simp only [RN,Q1,quiet,cW,↓pW,reduceCtorEq,seval,-Qb,hz,lz,h1,g1,g1i,g3,g4,num,hv,hl,hsv,e1,e2,w1,w2,hlen,mx,b1,ss,im,sp,tK,lK,hnx,hA,ok1,ok2,ok3,Kx,Qp]
theorem R2 {ik ina is m mi:Nat} {dl:List Nat} {B:Nat} (h:Msg B H ik ina is v nm e mi (Un sg (JF nm e mi++dl)) dl) (hk:B32 key) (hs:B32 sg) (hdl:dl.length≤16384) (xd:∀ y∈dl,y<256) (hm:m<16777216) (hle:mi≤m) (hd:mi=m→dl=msgD nm key tx e m∧tx.length≤16368∧∀ y∈tx,y<256) :
  ∃ H' r v' c,Zb T 18 [.agg (fol nm e m key (pubL sg) (.slice none 0 0)).toArray,Rf ik ina is v] H=some (.tuple #[.agg r.toArray,v',.int .i64 c],H',[])∧(∀ i,i<H.length→H'[i]?=H[i]?)∧H.length≤H'.length ∧
   ((mi<m∧r=fol nm e m key (pubL sg) (.slice none 0 0)∧v'=.slice none 0 0∧c=151)∨(mi=m∧r=fol nm e (m+1) ((nxK nm key).drop 32) (pubL sg) (.slice none 0 0)∧c=0∧OutS (fun i=>i<H.length) H' v' tx)):=by
 have hn:=h.lk
 have lpu:=KV sg
 have xpu:=Ay sg
 have hX:=LP nm key
 have hKb:=YL nm key
 obtain ⟨F,hF⟩:∃ X,X=fol nm e m key (pubL sg) (.slice none 0 0):=⟨_,rfl⟩
 have n0:=Xw (e:=e) (m:=m) (hv := .slice none 0 0) hn.len hk.len lpu
 have r1:Q2 32 F=u8s nm:=by rw [hF]; exact DW hn.len
 have r3:Q2 32 (Zr 66 F)=u8s (pubL sg):=by rw [hF]; exact Ng hn.len hk.len lpu
 have r4:F[32]?=some (.int .u32 e):=by rw [hF]; exact A0 hn.len
 have r6:F[98]?=some (.slice none 0 0):=by rw [hF]; exact KX hn.len hk.len lpu
 have r7:F.set 98 (.slice none 0 0)=F:=by rw [hF]; exact Ya hn.len hk.len lpu
 rw [←hF] at n0 ⊢
 obtain ⟨sg1,hsg1⟩:∃ X,X=Un sg (JF nm e mi++dl):=⟨_,rfl⟩
 obtain ⟨fo,hfo⟩:∃ o:Ob,o=⟨[.int .i64 5,.slice (some ⟨ik,0,none⟩) 1 1,.slice (some ⟨ina,0,none⟩) 2 2,.slice (some ⟨is,0,none⟩) 1 1,v],true,true,true,1⟩:=⟨_,rfl⟩
 obtain ⟨H1,hH1⟩:∃ G,G=H++[(⟨F,true,true,true,1⟩:Ob),fo,⟨Xp,true,true,true,1⟩]:=⟨_,rfl⟩
 have l1:H1.length=H.length+3:=by rw [hH1]; simp
 have at1:∀ j o,[(⟨F,true,true,true,1⟩:Ob),fo,⟨Xp,true,true,true,1⟩][j]?=some o→H1[H.length+j]?=some o:=fun j o hj=>by rw [hH1,Qe (by omega),Qq]; exact hj
 have old1:∀ i,i<H.length→H1[i]?=H[i]? := fun i hi=>by rw [hH1,Qa hi]
 have m1:=h.ext old1
 obtain ⟨v0,k1,hen,-⟩:=UY (k:=5) (m1.fr hdl)
 have hE:frE 5 [nm].length [e,mi].length [Un sg (JF nm e mi++dl)].length dl.length=0:=by
  show (if (1=1∧2=2∧1=1∧(true=true∨dl.length=0)) then (if 16384<dl.length then (2:Int) else 0) else 110)=0
  rw [if_pos (by simp),if_neg (by omega)]
 rw [hE] at hen
 obtain ⟨H2,hH2⟩:∃ G,G=H1++k1:=⟨_,rfl⟩
 rw [←hH2] at hen
 have l2:H1.length≤H2.length:=by rw [hH2,Qg]; omega
 have old2:∀ i,i<H1.length→H2[i]?=H1[i]? := fun i hi=>by rw [hH2,Qa hi]
 have m2:=m1.ext old2
 obtain ⟨v1,k2,hfr,o1⟩:=Rq (H:=H2) (ka := .slice (some ⟨ik,0,none⟩) 1 1) (na := .slice (some ⟨ina,0,none⟩) 2 2) (sa := .slice (some ⟨is,0,none⟩) 1 1) (da:=v) (nm:=nm) (e:=e) (m:=mi) (.inr ⟨_,1,_,_,_,rfl,m2.k,by rw [Qp,hn.len]⟩) (.inr ⟨_,2,_,_,_,rfl,m2.n,rfl⟩) hn.len
 have lfr:=WC e mi hn.len
 have xfr:=UW e mi hn
 obtain ⟨H3,hH3⟩:∃ G,G=H2++k2:=⟨_,rfl⟩
 rw [←hH3] at hfr o1
 have l3:H2.length≤H3.length:=by rw [hH3,Qg]; omega
 have old3:∀ i,i<H2.length→H3[i]?=H2[i]? := fun i hi=>by rw [hH3,Qa hi]
 have m3:=m2.ext old3
 have p1:=o1.part xfr (by rw [lfr]; decide)
 obtain ⟨H4,hH4⟩:∃ G,G=H3++[(⟨[v1,v],true,true,true,1⟩:Ob)]:=⟨_,rfl⟩
 have l4:H4.length=H3.length+1:=by rw [hH4]; simp
 have old4:∀ i,i<H3.length→H4[i]?=H3[i]? := fun i hi=>by rw [hH4,Qa hi]
 have at4:H4[H3.length]?=some ⟨[v1,v],true,true,true,1⟩:=by rw [hH4,Qe (Qk _),Qs]; rfl
 have m4:=m3.ext old4
 have p2:=m3.d.part h.ld (by omega)
 obtain ⟨k3,c,hck,hsp⟩:=Fm (H:=H4) (pub:=pubL sg) (front:=frL sg (JF nm e mi++dl)) (back:=bkL sg (JF nm e mi++dl)) (pv := .slice (some ⟨H3.length,0,none⟩) 2 2) (ps:=[JF nm e mi,dl]) lpu xpu (Mb _ _) (AT _ _) (Mi _ _) (Lc _ _) (Args.arr at4 rfl (.cons (p1.extK (fun i hi=>by have:i<H3.length:=hi; show i<_; omega) old4) (.cons (p2.extK (fun i hi=>by show i<_; omega) old4) .nil)) (by decide)) (by show 2≤1000; decide) (by simp [lfr]; omega)
 rw [show [JF nm e mi,dl].flatten=JF nm e mi++dl by simp] at hsp
 have hc:=Ly hsp
 subst hc
 rw [show frL sg (JF nm e mi++dl)++bkL sg (JF nm e mi++dl)=sg1 by rw [hsg1]; rfl] at hck
 obtain ⟨H5,hH5⟩:∃ G,G=H4++k3:=⟨_,rfl⟩
 rw [←hH5] at hck
 have l5:H4.length≤H5.length:=by rw [hH5,Qg]; omega
 have old5:∀ i,i<H4.length→H5[i]?=H4[i]? := fun i hi=>by rw [hH5,Qa hi]
 obtain ⟨H6,hH6⟩:∃ G,G=H5++[(⟨F,true,true,true,1⟩:Ob)]:=⟨_,rfl⟩
 have l6:H6.length=H5.length+1:=by rw [hH6]; simp
 have old6:∀ i,i<H5.length→H6[i]?=H5[i]? := fun i hi=>by rw [hH6,Qa hi]
 have at6:H6[H5.length]?=some ⟨F,true,true,true,1⟩:=by rw [hH6,Qe (Qk _),Qs]; rfl
 have up6:∀ i,i<H3.length→H6[i]?=H3[i]? := fun i hi=>by rw [old6 i (by omega),old5 i (by omega),old4 i hi]
 have up61:∀ i,i<H1.length→H6[i]?=H1[i]? := fun i hi=>by rw [up6 i (by omega),old3 i (by omega),old2 i hi]
 have m6:Msg B H6 ik ina is v nm e mi _ dl:=m3.ext up6
 obtain ⟨z,hz,lz⟩:∃ z:List Nat,Qc 32 (Value.int .u8 0)=u8s z∧z.length=32:=⟨Qc 32 0,rfl,rfl⟩
 have g0:∀ L:List Ob,(H++[(⟨F,true,true,true,1⟩:Ob),fo,⟨Xp,true,true,true,1⟩]++L)[H.length+1]?=some fo:=fun L=>by rw [Qv,Qe (by omega),Qq]; rfl
 have mk':=m2.k
 have mn':=m2.n
 have ms3:=m3.s
 have mn6:=m6.n
 rw [←hsg1] at ms3
 have lsg:sg1.length=64:=by rw [hsg1]; exact h.ls
 obtain ⟨av,cv,hvs⟩:=p2.shape
 obtain ⟨a1,c1,hv1⟩:=o1.shape
 rw [lfr] at hv1
 have w1:fillL [Value.slice none 0 0] [(0,1,v1)]=some [v1]:=by rw [hv1]; rfl
 have w2:fillL [Value.slice none 0 0,.slice none 0 0] [(0,1,v1),(1,1,v)]=some [v1,v]:=by rw [hv1,hvs]; rfl
 have cl5:∀ a b c d e':Value,Q2 5 [a,b,c,d,e']=[a,b,c,d,e']:=fun _ _ _ _ _=>rfl
 have tnm:Q2 32 (u8s nm)=u8s nm:=Q5 (by rw [Qp,hn.len])
 have tsg:Q2 64 (u8s sg1)=u8s sg1:=Q5 (by rw [Qp,lsg])
 have tpu:Q2 32 (u8s (pubL sg))=u8s (pubL sg):=Q5 (by rw [Qp,lpu])
 have hq:=Ve hn.len hn.len
 have q1:H1[H.length]?=some ⟨F,true,true,true,1⟩:=at1 0 _ rfl
 have q1f:H1[H.length+1]?=some fo:=at1 1 _ rfl
 have q2:H2[H.length]?=some ⟨F,true,true,true,1⟩:=(old2 _ (by omega)).trans q1
 have q2f:H2[H.length+1]?=some fo:=(old2 _ (by omega)).trans q1f
 have q3:H3[H.length]?=some ⟨F,true,true,true,1⟩:=(old3 _ (by omega)).trans q2
 have q3f:H3[H.length+1]?=some fo:=(old3 _ (by omega)).trans q2f
 have q5:H5[H.length]?=some ⟨F,true,true,true,1⟩:=by rw [old5 _ (by omega),old4 _ (by omega)]; exact q3
 have q6:H6[H.length]?=some ⟨F,true,true,true,1⟩:=(old6 _ (by omega)).trans q5
 have q6f:H6[H.length+1]?=some fo:=(up61 _ (by omega)).trans q1f
 have lzF:Xp.length=99:=rfl
 have tF:Q2 99 F=F:=Q5 n0
 have spF:splice Xp 0 F=F:=QO (by rw [n0,lzF])
 have a5:∀ o1 o:Ob,(H5++[o1]).set H5.length o=H5++[o]:=fun _ _=>by rw [Q4 _ _ (Qk _),Qs]; rfl
 have ss:=VX at6
 have a6:=at6
 have hcl:=@TY
 have ok1:∀ L:List Value,(Value.agg L.toArray).cells.toList=L:=fun _=>rfl
 have ok2:∀ L:List Value,(Value.agg L.toArray).cells.size=L.length:=fun _=>rfl
 have ok3:∀ L:List Value,okVar (Value.agg L.toArray)=true:=fun _=>rfl
 have im1:∀ j,Qy H.length [] [H5.length+j]=[]:=fun j=>QE (by simp; omega)
 have im0:Qy H.length [] [H5.length]=[]:=QE (by simp; omega)
 have im2:∀ j,Qy H.length [] [H.length+j]=[]:=fun j=>QE (by simp)
 have h1:=hH1.symm
 have h4:=hH4.symm
 have h6:=hH6.symm
 have hfoc:fo.cells=[.int .i64 5,.slice (some ⟨ik,0,none⟩) 1 1,.slice (some ⟨ina,0,none⟩) 2 2,.slice (some ⟨is,0,none⟩) 1 1,v]:=by rw [hfo]
 have hfol:fo.live=true:=by rw [hfo]
 have hfo':=hfo.symm
 have lnm:=hn.len
 have lfs:=hfo
 have tz:Q2 32 (u8s z)=u8s z:=Q5 (by rw [Qp,lz])
 have cls:okVar v=true∧v.cells.toList=[v]∧v.cells.size=1:=by rw [hvs]; exact ⟨rfl,rfl,rfl⟩
 obtain ⟨cv1,cv2,cv3⟩:=cls
 rcases Zq mi m with hlt | hge
 ·obtain ⟨k7,hky⟩:=gk (H:=H6) (id:=H5.length) (e:=e) (m:=m) (mi:=mi) (nm:=nm) (key:=key) (pub:=pubL sg) (at6.trans (by rw [hF])) hn hk lpu hlt
  obtain ⟨H8,hH8⟩:∃ G,G=H6++k7++[(⟨u8s (Qc 32 0),true,true,true,1⟩:Ob)]:=⟨_,rfl⟩
  have up8:∀ i,i<H6.length→H8[i]?=H6[i]? := fun i hi=>by rw [hH8,Qv,Qa hi]
  have l8:H6.length≤H8.length:=by rw [hH8,Qv,Qg]; omega
  refine ⟨H8.set (H.length+2) ⟨F,true,true,true,1⟩,F,.slice none 0 0,151,?_,fun i hi => ?_,?_,.inl ⟨hlt,rfl,rfl,rfl⟩⟩
  rotate_left
  ·rw [Qm (by omega),up8 i (by omega),up61 i (by omega),old1 i hi]
  ·rw [Qo]; omega
  have e8:H8[H.length]?=some ⟨F,true,true,true,1⟩:=(up8 _ (by omega)).trans q6
  have e8z:H8[H.length+2]?=some ⟨Xp,true,true,true,1⟩:=by rw [up8 _ (by omega),up61 _ (by omega)]; exact at1 2 _ rfl
  have e8s:∀ o,(H8.set (H.length+2) o)[H.length+2]?=some o:=fun o=>Qt (by omega)
  have a8:∀ o1 o:Ob,(H6++k7++[o1]).set (H6++k7).length o=H6++k7++[o]:=fun _ _=>by rw [Q4 _ _ (Qk _),Qs]; rfl
  have a8g:∀ o1:Ob,(H6++k7++[o1])[(H6++k7).length]?=some o1:=fun _=>by rw [Qe (Qk _),Qs]; rfl
  have h8:=hH8.symm
  obtain ⟨zz,hzz⟩:∃ x,x=Qc 32 0:=⟨_,rfl⟩
  have lzz:zz.length=32:=by rw [hzz]; rfl
  rw [←hzz] at hky h8
  have sz:=QO (cs:=u8s z) (v:=u8s zz) (by rw [Qp,Qp,lz,lzz])
  have im9:Qy H.length [] [(H6++k7).length]=[]:=QE (by simp; omega)
  generalize hG7:H6++k7=G7 at *
  clear hH1 hH2 hH3 hH4 hH5 hH6 hH8 hE hF hd hzz o1 p1 p2 m1 m2 m3 m4 m6 h hsp at1 at4 at6 old1 old2 old3 old4 old5 old6 up6 up61 up8 hsg1 hn hk hs hX hKb xpu xfr xd hfo
  generalize pubL sg=pub at *
  rw [QD (fn:=Ch) rfl]
  simp only [Ch,Q1,quiet,cW,↓pW,reduceCtorEq,seval,-Qb,r1,r3,r4,r6,r7,hen,hfr,hck,hky,hcl,hz,lz,g0,mk',mn',ms3,mn6,w1,w2,cl5,tnm,tsg,tpu,hq,q1,q1f,q2,q2f,q3,q3f,q5,q6,q6f,lzF,tF,spF,a5,a6,ss,ok1,ok2,ok3,im0,im1,im2,h1,h4,h6,hfoc,hfol,hfo',lnm,lsg,lpu,tz,cv1,cv2,cv3,e8,e8z,e8s,a8,a8g,h8,lzz,sz,im9,n0,Q5,QW,Zf,ZU,Zg,Qp,Qn,Qo,ZX,Rf]
 ·obtain rfl:mi=m:=by omega
  obtain ⟨hdd,htl,xt⟩:=hd rfl
  obtain ⟨H7,M7,hky,b1,b2,b3,b4⟩:=gn (H:=H6) (id:=H5.length) (e:=e) (m:=mi) (nm:=nm) (key:=key) (pub:=pubL sg) (at6.trans (by rw [hF])) hn hk lpu hm
  obtain ⟨F',hF'⟩:∃ X,X=fol nm e (mi+1) ((nxK nm key).drop 32) (pubL sg) (.slice none 0 0):=⟨_,rfl⟩
  have n1:=Xw (e:=e) (m:=mi+1) (hv := .slice none 0 0) hn.len hX.len lpu
  rw [←hF'] at b1 n1 ⊢
  have tF':Q2 99 F'=F':=Q5 n1
  have spF':splice Xp 0 F'=F':=QO (by rw [n1,lzF])
  have hbx:=Fw hKb
  have xA:=Ce hKb
  have xB:=Mh (Kb nm key)
  obtain ⟨H9,hH9⟩:∃ G,G=H7++[(⟨u8s (Kb nm key),true,true,true,1⟩:Ob),⟨[v1],true,true,true,1⟩]:=⟨_,rfl⟩
  have l9:H9.length=H7.length+2:=by rw [hH9]; simp
  have up9:∀ i,i<H7.length→H9[i]?=H7[i]? := fun i hi=>by rw [hH9,Qa hi]
  have up96:∀ i,i<H5.length→H9[i]?=H6[i]? := fun i hi=>by rw [up9 i (by omega),b2 i (by omega) (by omega)]
  have up93:∀ i,i<H3.length→H9[i]?=H3[i]? := fun i hi=>by rw [up96 i (by omega),up6 i hi]
  have e9v:H9[H7.length+1]?=some ⟨[v1],true,true,true,1⟩:=by rw [hH9,Qe (by omega),Qq]; rfl
  obtain ⟨di,dof,dc,dob,rfl,d1,d2,d3,d4,-⟩:=(m3.ext up93).d
  have hdd2:dl=Y1 (WK (Kb nm key)) (WJ (Kb nm key)) tx [JF nm e mi].flatten:=by rw [hdd]; simp [msgD]
  obtain ⟨v2,H10,M10,hop,c1',c2',c3',c4'⟩:=LN (H:=H9) (id:=di) (off:=dof) (c:=dc) (d:=tx) (pv := .slice (some ⟨H7.length+1,0,none⟩) 1 1) (xs:=[v1]) (ps:=[JF nm e mi]) xA hbx.2.1 xB (by rw [←hdd2]; exact d1) xt (by omega) (.inr ⟨_,0,1,_,rfl,by omega,e9v,rfl,fun i hi=>by rw [QA]⟩) (.cons (p1.extK (fun i hi=>by have:i<H3.length:=hi; omega) up93) .nil) (by show 1<2^50; decide) (by simp [lfr]) (by rw [←hdd2]; exact d2) (fun o ho=>by rw [d3] at ho; cases ho; exact .inr (.inr (Nat.le_of_eq d4.symm)))
  rw [←hdd2] at hop
  have u10:∀ i,i<H.length→H10[i]?=H[i]? := fun i hi=>by rw [c2' i (by omega),up93 i (by omega),old3 i (by omega),old2 i (by omega),old1 i hi]
  refine ⟨H10.set (H.length+2) ⟨F',true,true,true,1⟩,F',v2,0,?_,fun i hi => ?_,?_,.inr ⟨rfl,rfl,rfl,?_⟩⟩
  rotate_left
  ·rw [Qm (by omega),u10 i hi]
  ·rw [Qo]; omega
  ·have ho:OutS (fun i=>i<H9.length) (H10.set (H.length+2) ⟨F',true,true,true,1⟩) v2 tx:=OutS.setK (.inr c1') (by show _<_; omega) _
   exact ho.toK fun i hi h'=>hi (show i<H9.length by have:i<H.length:=h'; omega)
  have e9a:H7[H.length+1]?=some fo:=by rw [b2 _ (by omega) (by omega)]; exact q6f
  have e9b:∀ L:List Ob,(H7++L)[H.length+1]?=some fo:=fun L=>by rw [Qa (by omega)]; exact e9a
  have e9c:∀ o:Ob,(H7++[o])[H7.length]?=some o:=fun o=>by rw [Qe (Qk _),Qs]; rfl
  have a9:∀ o1 o:Ob,(H7++[o1]).set H7.length o=H7++[o]:=fun _ _=>by rw [Q4 _ _ (Qk _),Qs]; rfl
  have e10:H10[H5.length]?=some ⟨F',true,true,true,1⟩:=by rw [c2' _ (by omega),up9 _ (by omega)]; exact b1
  have e10z:H10[H.length+2]?=some ⟨Xp,true,true,true,1⟩:=by rw [c2' _ (by omega),up96 _ (by omega),up61 _ (by omega)]; exact at1 2 _ rfl
  have e10s:∀ o,(H10.set (H.length+2) o)[H.length+2]?=some o:=fun o=>Qt (by omega)
  have im7:Qy H.length [] M7=[]:=QE fun i hi=>by have:=b4 i hi; omega
  have im10:Qy H.length [] M10=[]:=QE fun i hi=>by have:=c4' i hi; omega
  have im9:Qy H.length [] [H7.length]=[]:=QE (by simp; omega)
  have h9:=hH9.symm
  have hbv:=hbx.2.2
  have lAB:(WK (Kb nm key)++WJ (Kb nm key)).length=44:=by rw [Qg,hbx.1,hbx.2.1]
  have lK:=hKb.len
  generalize WK (Kb nm key)++WJ (Kb nm key)=AB at *
  generalize Kb nm key=K at *
  have sK:=QO (cs:=u8s z) (v:=u8s K) (by rw [Qp,Qp,lz,lK])
  have tK:Q2 32 (u8s K)=u8s K:=Q5 (by rw [Qp,lK])
  clear hH1 hH2 hH3 hH4 hH5 hH6 hH9 hE hF hF' hd hdd hdd2 o1 p1 p2 m1 m2 m3 m4 m6 h hsp at1 at4 at6 old1 old2 old3 old4 old5 old6 up6 up61 up9 up96 up93 hsg1 hn hk hs hX hKb xpu xfr xd hfo b1 b2 b3 b4 c1' c2' c3' c4' d1 d2 d3 d4 xA xB hbx xt u10 e9v e9a hle hge
  generalize pubL sg=pub at *
  rw [QD (fn:=Ch) rfl]
  simp only [Ch,Q1,quiet,cW,↓pW,reduceCtorEq,seval,-Qb,r1,r3,r4,r6,r7,hen,hfr,hck,hky,hop,hbv,hcl,hz,lz,g0,mk',mn',ms3,mn6,w1,w2,cl5,tnm,tsg,tpu,hq,q1,q1f,q2,q2f,q3,q3f,q5,q6,q6f,lzF,tF,spF,tF',spF',a5,a6,ss,ok1,ok2,ok3,im0,im1,im2,im7,im9,im10,h1,h4,h6,h9,hfoc,hfol,hfo',lnm,lsg,lpu,tz,cv1,cv2,cv3,e9b,e9c,a9,e10,e10z,e10s,lAB,lK,sK,tK,n0,n1,Q5,QW,Zf,ZU,Zg,Qp,Qn,Qo,ZX,Rf]
def InvD (X0 X:List Ob):Prop:=X0.length≤X.length∧∀ i,i<X0.length→X[i]?=X0[i]?
theorem InvD.refl (X:List Ob):InvD X X:=⟨Qk _,fun _ _=>rfl⟩
theorem InvD.app {X0 X m:List Ob} (h:InvD X0 X):InvD X0 (X++m):=⟨by rw [Qg]; have:=h.1; omega,fun i hi=>by rw [Qa (by have:=h.1; omega)]; exact h.2 i hi⟩
theorem InvD.get {X0 X:List Ob} (h:InvD X0 X) {i:Nat} {o:Ob} (ho:X0[i]?=some o):X[i]?=some o:=(h.2 i (Qf.1 ho).1).trans ho
structure Bx (B:Nat) (X0:List Ob) (k:Int) (ka na sa da:Value):Prop where
 ob:X0[B]?=some ⟨[.int .i64 k,ka,na,sa,da],true,true,true,1⟩
structure Two (X:List Ob) (B:Nat) (k:Int) (ka na sa da kb nb sb db:Value):Prop where
 a:X[B]?=some ⟨[.int .i64 k,ka,na,sa,da],true,true,true,1⟩
 b:X[B+1]?=some ⟨[.int .i64 k,kb,nb,sb,db],true,true,true,1⟩
theorem dk {X:List Ob} {l:List Nat} (h:DPart H v l) (hg:∀ i,i<H.length→X[i]?=H[i]?):PX X v=some (NC l):=by
 have h1:=h.reads X hg
 obtain ⟨a,c,e⟩:=h.shape
 rw [e,PW,←e,h1,Qj,Fv,Qj]; rfl
def Mx:List Nat:=[116,101,120,116]
theorem mC (n:Nat):B32 (kE n):=⟨AL n,kE_lt n⟩
theorem S6 {tl:List Nat}:rf (.agg (plc nm e m key (u8s tl)).toArray)=true:=by
 simp [rf,Up,plc,u8s,scalarRf]
theorem eI:Z9 T 16 []=some (.bool true):=by
 have hn:=mC 1
 have hk:=mC 3
 have hs:=mC 4
 have hz:Qc 32 (Value.int .u8 0)=u8s zK:=rfl
 have lz:=P3
 have f1:fillL (u8s zK) [(0,1,.int .u8 1)]=some (u8s (kE 1)):=rfl
 have f3:fillL (u8s zK) [(0,1,.int .u8 3)]=some (u8s (kE 3)):=rfl
 have f4:fillL (u8s zK) [(0,1,.int .u8 4)]=some (u8s (kE 4)):=rfl
 have ft:fillL [Value.int .u8 0,.int .u8 0,.int .u8 0,.int .u8 0] [(0,1,.int .u8 116),(1,1,.int .u8 101),(2,1,.int .u8 120),(3,1,.int .u8 116)]=some (u8s Mx):=rfl
 have hst:Z9 T 28 [.agg (u8s (kE 1)).toArray,.int .u32 2,.agg (u8s (kE 3)).toArray,.agg (u8s (kE 4)).toArray]=_:=L5 (e:=2) hn.len hk.len hs.len
 have lpu:=KV (kE 4)
 have hX:=LP (kE 1) (kE 3)
 obtain ⟨S,hS⟩:∃ X,X=plc (kE 1) 2 0 (kE 3) (u8s (kE 4)):=⟨_,rfl⟩
 have n0:=JD (e:=2) (m:=0) (tl:=u8s (kE 4)) hn.len hk.len
 rw [Qp,hs.len,←hS] at n0
 rw [←hS] at hst
 obtain ⟨H1,hH1⟩:∃ G,G=[(⟨S,true,true,true,1⟩:Ob)]:=⟨_,rfl⟩
 have hsh:=CA (H:=H1) (e:=2) (m:=0) hn.len hk.len hs
 rw [←hS] at hsh
 have F:=Sk (H:=H1) (nm:=kE 1) (key:=kE 3) (sg:=kE 4) (pub:=pubL (kE 4)) (e:=2) (m:=0) hn.len hk.len lpu
 obtain ⟨P1,hP1⟩:∃ G,G=H1++C9 (kE 1) (kE 3) (kE 4) (pubL (kE 4)) 2 0 H1.length:=⟨_,rfl⟩
 rw [←hP1] at hsh F
 obtain ⟨k1,hfo⟩:=TQ F
 obtain ⟨W,hW⟩:∃ X,X=fol (kE 1) 2 0 (kE 3) (pubL (kE 4)) (.slice none 0 0):=⟨_,rfl⟩
 rw [show plc (kE 1) 2 0 (kE 3) (u8s (pubL (kE 4))++[.slice none 0 0])=fol (kE 1) 2 0 (kE 3) (pubL (kE 4)) (.slice none 0 0) from rfl,←hW] at hfo
 have w0:=Xw (e:=2) (m:=0) (hv := .slice none 0 0) hn.len hk.len lpu
 rw [←hW] at w0
 obtain ⟨P2,hP2⟩:∃ G,G=P1++k1:=⟨_,rfl⟩
 rw [←hP2] at hfo
 have lP2:1≤P2.length:=by rw [hP2,hP1,hH1]; simp [C9]
 have p2s:P2[0]?=some ⟨S,true,true,true,1⟩:=by rw [hP2,hP1,hH1]; rfl
 obtain ⟨H3,hH3⟩:∃ G,G=P2++[(⟨W,true,true,true,1⟩:Ob),⟨u8s Mx,true,true,true,1⟩]:=⟨_,rfl⟩
 have l3:H3.length=P2.length+2:=by rw [hH3]; simp
 have h3t:H3[P2.length+1]?=some ⟨u8s Mx,true,true,true,1⟩:=by rw [hH3,Qe (by omega),Qq]; rfl
 have h3w:H3[P2.length]?=some ⟨W,true,true,true,1⟩:=by rw [hH3,Qe (Qk _),Qs]; rfl
 have h3s:H3[0]?=some ⟨S,true,true,true,1⟩:=by rw [hH3,Qa (by omega)]; exact p2s
 obtain ⟨ik,ina,is,v,H4,hse,m4,o4,l4⟩:=Fi (H:=H3) (e:=2) (m:=0) (tv := .slice (some ⟨P2.length+1,0,none⟩) 4 4) hn hk hs (by decide) (HPart.whole (by omega) h3t (by decide) (by decide)) (by decide)
 obtain ⟨S',hS'⟩:∃ X,X=plc (kE 1) 2 (0+1) ((nxK (kE 1) (kE 3)).drop 32) (u8s (kE 4)):=⟨_,rfl⟩
 have n1:=JD (e:=2) (m:=0+1) (tl:=u8s (kE 4)) hn.len hX.len
 rw [Qp,hs.len,←hS'] at n1
 rw [←hS,←hS'] at hse
 have hnum1:S'[33]?=some (.int .u32 1):=by rw [hS']; exact K6 hn.len
 obtain ⟨fo,hfoo⟩:∃ o:Ob,o=⟨[.int .i64 5,.slice (some ⟨ik,0,none⟩) 1 1,.slice (some ⟨ina,0,none⟩) 2 2,.slice (some ⟨is,0,none⟩) 1 1,v],true,true,true,1⟩:=⟨_,rfl⟩
 obtain ⟨H5,hH5⟩:∃ G,G=(H4.set 0 (⟨S',true,true,true,1⟩:Ob))++[fo]:=⟨_,rfl⟩
 have l5:H5.length=H4.length+1:=by rw [hH5]; simp
 have o5:∀ i,i<H4.length→i≠0→H5[i]?=H4[i]? := fun i hi hne=>by rw [hH5,Qa (by rw [Qo]; exact hi),Qm (Ne.symm hne)]
 have m5:=m4.keep (G:=H5) fun i o hb ho _=>(o5 i (Qf.1 ho).1 (by omega)).trans ho
 have hD:=AJ (nm:=kE 1) (key:=kE 3) (tx:=Mx) 2 0 hn (by decide) (by decide)
 have ltx:Mx.length=4:=rfl
 obtain ⟨H6,r6,v6,c6,hop,o6,l6,q6⟩:=R2 (H:=H5) (key:=kE 3) (m:=0) (tx:=Mx) m5 hk hs (by omega) hD.2 (by decide) (Qk _) (fun _=>⟨rfl,by decide,by decide⟩)
 rcases q6 with ⟨h,-⟩ | ⟨-,rfl,rfl,q6⟩
 ·exact absurd h (Vy _)
 rw [←hW] at hop
 obtain ⟨W',hW'⟩:∃ X,X=fol (kE 1) 2 (0+1) ((nxK (kE 1) (kE 3)).drop 32) (pubL (kE 4)) (.slice none 0 0):=⟨_,rfl⟩
 have w1:=Xw (e:=2) (m:=0+1) (hv := .slice none 0 0) hn.len hX.len lpu
 rw [←hW'] at w1 hop
 obtain ⟨H7,hH7⟩:∃ G,G=H6++[(⟨W',true,true,true,1⟩:Ob)]:=⟨_,rfl⟩
 have l7:H7.length=H6.length+1:=by rw [hH7]; simp
 have o7:∀ i,i<H6.length→H7[i]?=H6[i]? := fun i hi=>by rw [hH7,Qa hi]
 have m7:=(m5.ext o6).ext o7
 obtain ⟨H8,r8,v8,c8,hop2,o8,l8,q8⟩:=R2 (H:=H7) (key:=(nxK (kE 1) (kE 3)).drop 32) (m:=1) (tx:=[]) m7 hX hs (by omega) hD.2 (by decide) (by decide) (fun h=>absurd h (by decide))
 rcases q8 with ⟨-,rfl,rfl,rfl⟩ | ⟨h,-⟩
 rotate_left
 ·exact absurd h (by decide)
 rw [show fol (kE 1) 2 1 ((nxK (kE 1) (kE 3)).drop 32) (pubL (kE 4)) (.slice none 0 0)=W' from hW'.symm] at hop2
 have o78:∀ i,i<H7.length→(H8++[(⟨W',true,true,true,1⟩:Ob)])[i]?=H7[i]? := fun i hi=>by rw [Qa (by omega),o8 i hi]
 have t6:=(((q6.ext o7).ext o78).part (by decide) (by decide))
 have hb2:PX (H8++[(⟨W',true,true,true,1⟩:Ob)]) v6=some (.string (ByteArray.mk #[116,101,120,116])):=dk ⟨t6.shape,t6.reads⟩ fun i hi=>rfl
 obtain ⟨H9,hH9⟩:∃ G,G=H8++[(⟨W',true,true,true,1⟩:Ob)]:=⟨_,rfl⟩
 rw [←hH9] at hb2 o78
 have up95:∀ i,i<H5.length→H9[i]?=H5[i]? := fun i hi=>by rw [o78 i (by omega),o7 i (by omega),o6 i hi]
 have g1:H1[0]?=some ⟨S,true,true,true,1⟩:=by rw [hH1]; rfl
 have a1:∀ o o':Ob,[o].set 0 o'=[o']:=fun _ _=>rfl
 have g2:∀ L:List Ob,(P2++L)[0]?=some ⟨S,true,true,true,1⟩:=fun L=>by rw [Qa (by omega)]; exact p2s
 have a2:∀ o o':Ob,(P2++[o]).set P2.length o'=P2++[o']:=fun _ _=>by rw [Q4 _ _ (Qk _),Qs]; rfl
 have a2g:∀ o:Ob,(P2++[o])[P2.length]?=some o:=fun _=>by rw [Qe (Qk _),Qs]; rfl
 have g4:∀ o:Ob,(H4++[o])[0]?=some ⟨S,true,true,true,1⟩:=fun o=>by rw [Qa (by omega),o4 _ (by omega)]; exact h3s
 have a4:∀ o o':Ob,(H4++[o]).set 0 o'=H4.set 0 o'++[o]:=fun _ _=>List.set_append_left _ _ (by omega)
 have a4g:∀ o o':Ob,(H4.set 0 o++[o'])[H4.length]?=some o':=fun _ _=>by rw [Qe (by rw [Qo]; exact Qk _),Qo,Qs]; rfl
 have a4s:∀ o o' o2:Ob,(H4.set 0 o++[o']).set H4.length o2=H4.set 0 o++[o2]:=fun _ _ _=>by rw [Q4 _ _ (by rw [Qo]; exact Qk _),Qo,Qs]; rfl
 have g5w:H5[P2.length]?=some ⟨W,true,true,true,1⟩:=by rw [o5 _ (by omega) (by omega),o4 _ (by omega)]; exact h3w
 have g5f:H5[H4.length]?=some fo:=by rw [hH5,Qe (by rw [Qo]; exact Qk _),Qo,Qs]; rfl
 have g5s:H5[0]?=some ⟨S',true,true,true,1⟩:=by rw [hH5,Qa (by rw [Qo]; omega),Qt (by omega)]
 have a6:∀ o o':Ob,(H6++[o]).set H6.length o'=H6++[o']:=fun _ _=>by rw [Q4 _ _ (Qk _),Qs]; rfl
 have a6g:∀ o:Ob,(H6++[o])[H6.length]?=some o:=fun _=>by rw [Qe (Qk _),Qs]; rfl
 have g7w:H7[H6.length]?=some ⟨W',true,true,true,1⟩:=by rw [hH7,Qe (Qk _),Qs]; rfl
 have g7f:H7[H4.length]?=some fo:=by rw [o7 _ (by omega),o6 _ (by omega)]; exact g5f
 have a8:∀ o o':Ob,(H8++[o]).set H8.length o'=H8++[o']:=fun _ _=>by rw [Q4 _ _ (Qk _),Qs]; rfl
 have a8g:∀ o:Ob,(H8++[o])[H8.length]?=some o:=fun _=>by rw [Qe (Qk _),Qs]; rfl
 have g9s:H9[0]?=some ⟨S',true,true,true,1⟩:=(up95 0 (by omega)).trans g5s
 have g9w:H9[P2.length]?=some ⟨W,true,true,true,1⟩:=(up95 _ (by omega)).trans g5w
 have g9v:H9[H6.length]?=some ⟨W',true,true,true,1⟩:=(o78 _ (by omega)).trans g7w
 have nW:W[33]?=some (.int .u32 0):=by rw [hW]; exact K6 hn.len
 have nW':W'[33]?=some (.int .u32 1):=by rw [hW']; exact K6 hn.len
 have lzs:K8.length=98:=rfl
 have lzf:XK.length=5:=rfl
 have lzo:Xp.length=99:=rfl
 have s1:splice K8 0 S=S:=QO (by rw [n0,lzs])
 have s2:splice Xp 0 W=W:=QO (by rw [w0,lzo])
 have s3:splice S 0 S'=S':=QO (by rw [n0,n1])
 have s4:splice Xp 0 W'=W':=QO (by rw [w1,lzo])
 have sp5:∀ (a b c d e':Value),splice XK 0 [a,b,c,d,e']=[a,b,c,d,e']:=fun _ _ _ _ _=>rfl
 have cl5:∀ a b c d e':Value,Q2 5 [a,b,c,d,e']=[a,b,c,d,e']:=fun _ _ _ _ _=>rfl
 have t1:Q2 98 S=S:=Q5 n0
 have t2:Q2 99 W=W:=Q5 w0
 have t4:Q2 99 W'=W':=Q5 w1
 have hfc:fo.cells=[.int .i64 5,.slice (some ⟨ik,0,none⟩) 1 1,.slice (some ⟨ina,0,none⟩) 2 2,.slice (some ⟨is,0,none⟩) 1 1,v]:=by rw [hfoo]
 have hfl:fo.live=true:=by rw [hfoo]
 have hfo2:=hfoo.symm
 have ok1:∀ L:List Value,(Value.agg L.toArray).cells.toList=L:=fun _=>rfl
 have ok2:∀ L:List Value,(Value.agg L.toArray).cells.size=L.length:=fun _=>rfl
 have ok3:∀ L:List Value,okVar (Value.agg L.toArray)=true:=fun _=>rfl
 have l1:=AL 1
 have l2:=AL 3
 have l3':=AL 4
 have r1:rf (.agg S.toArray)=true:=by rw [hS]; exact S6
 have h1:=hH1.symm
 have h3:=hH3.symm
 have h5:=hH5.symm
 have h7:=hH7.symm
 have h9:=hH9.symm
 clear hH1 hP1 hP2 hH3 hH5 hH7 hH9 hS hW hS' hW' F m4 m5 m7 o4 o5 o6 o7 o8 o78 up95 q6 t6 hfoo hn hk hs hX hD h3w h3s p2s
 simp only [Rf] at hse hop hop2
 generalize kE 1=K1,kE 3=K3,kE 4=K4 at *
 generalize Mx=tx at *
 apply ZI (fn:=nQ) rfl
 simp only [nQ,Q1,quiet,cW,↓pW,reduceCtorEq,seval,-Qb,hz,lz,f1,f3,f4,ft,hst,hsh,hfo,hse,hop,hop2,hb2,h3t,g1,a1,g2,a2,a2g,g4,a4,a4g,a4s,g5w,g5f,a6,a6g,g7w,g7f,a8,a8g,g9s,g9w,g9v,nW,nW',hnum1,lzs,lzf,lzo,s1,s2,s3,s4,sp5,cl5,t1,t2,t4,hfc,hfl,hfo2,ok1,ok2,ok3,l1,l2,l3',n0,n1,w0,w1,h1,h3,h5,h7,h9,ltx,r1,Q5,QW,Zf,ZU,Zg,Qp,Qn,Qo,ZX,Rf]
 rfl
end Go.Ev.YtomfgcgnepfmjaaGreat
namespace Go.Ev
open Go.RowKit Go.WideShapes Go.ChangeShapes
structure Rows8 (w:World) (a:Addr) (len cap:Nat) (A:Nat→Option Addr) (L C:Nat→Nat) (B:Nat→List Nat):Prop where
 spot:a.spot=none
 at_:∃ cs e fr,w.heap[a.block]?=some (.cells cs e fr)∧(cap=0∨a.off+cap≤cs.size)
 le:len≤cap
 max:cap≤maxLen
 cell:∀ r,r<len→w.cell? (a.add r)=some (.slice (A r) (L r) (C r))
 row:∀ r,r<len→L r≤C r∧C r≤maxLen∧(B r).length=L r∧(∀ x∈B r,x<256)∧(A r=none→C r=0) ∧
  ∀ a',A r=some a'→(∀ c,c<C r→∃ v,w.cell? (a'.add c)=some v)∧∀ (c x:Nat),(B r)[c]?=some x→w.cell? (a'.add c)=some (.int .u8 (x:Nat))
section
variable {P:Program}
end
end Go.Ev
namespace Go.Ev.YtomfgcgnepfmjaaGreat
open Go Go.Ev
set_option maxRecDepth 100000
def keyN (nm key:List Nat):Nat→List Nat
 | 0=>key
 | i+1=>(nxK nm (keyN nm key i)).drop 32
theorem VK {nm key:List Nat} (hk:B32 key):∀ i,B32 (keyN nm key i)
 | 0=>hk
 | i+1=>LP _ _
def Frs (B:Nat) (G:List Ob) (v:Value) (k:Nat) (t:List Value):Prop:=(k=0∧v=.slice none 0 0∧t=[])∨∃ id,v=.slice (some ⟨id,0,none⟩) k k∧B≤id∧G[id]?=some ⟨t,true,true,false,5⟩∧t.length=5*k∧0<k
theorem Frs.keep {B k:Nat} {G G':List Ob} {v:Value} {t:List Value} (h:Frs B G v k t) (hg:∀ i o,B≤i→G[i]?=some o→o.es=5→G'[i]?=some o):Frs B G' v k t:=by
 rcases h with h | ⟨id,h1,h2,h3,h4⟩
 ·exact .inl h
 ·exact .inr ⟨id,h1,h2,hg id _ h2 h3 rfl,h4⟩
theorem IM {B k:Nat} {G:List Ob} {v:Value} {t q:List Value} (h:Frs B G v k t) (hB:B≤G.length) (lq:q.length=5) (hk:k≤300) :
  ∃ v' G' M,Zv 5 104 (G++[⟨q,true,true,true,1⟩]) v (.slice (some ⟨G.length,0,none⟩) 1 1)=some (v',G',none,M)∧Frs B G' v' (k+1) (t++q)∧(∀ i∈M,B≤i)∧G.length≤G'.length∧(∀ i,i<B→G'[i]?=G[i]?)∧∀ (i:Nat) (o:Ob),G[i]?=some o→o.es=1→G'[i]?=some o:=by
 have hx:(G++[(⟨q,true,true,true,1⟩:Ob)])[G.length]?=some ⟨q,true,true,true,1⟩:=by rw [Qe (Qk _),Qs]; rfl
 have he:elemsOf (G++[(⟨q,true,true,true,1⟩:Ob)]) 5 1 (.slice (some ⟨G.length,0,none⟩) 1 1)=some q:=by
  simp [elemsOf,QX hx rfl,lq]
  exact Qu (by rw [lq]; exact Qk _)
 have hl:Go.Ev.lenV (.slice (some ⟨G.length,0,none⟩) 1 1)=some 1:=rfl
 have h1:¬ (1:Nat)=0:=by decide
 rcases h with ⟨rfl,rfl,rfl⟩ | ⟨id,rfl,h2,h3,h4,h5⟩
 ·refine ⟨.slice (some ⟨(G++[(⟨q,true,true,true,1⟩:Ob)]).length,0,none⟩) 1 1,(G++[(⟨q,true,true,true,1⟩:Ob)])++[Ob.grown 5 q],[],?_,.inr ⟨_,rfl,by simp; omega,by rw [Qe (Qk _),Qs]; rfl,by simpa using lq,by decide⟩,by simp,by simp,fun i hi => ?_,fun i o ho _ => ?_⟩
  ·have h2:(0+1)*104≤2^47∧0<104∧0<5:=by decide
   simp only [Zv,hl,he,Qj,if_neg h1,h2,and_self,not_true_eq_false,if_false,if_true]
  ·rw [Qv,Qa (by omega)]
  ·rw [Qv,Qa (Qf.1 ho).1]; exact ho
 ·have hid:id<G.length:=(Qf.1 h3).1
  have h3':(G++[(⟨q,true,true,true,1⟩:Ob)])[id]?=some ⟨t,true,true,false,5⟩:=by rw [Qa hid]; exact h3
  refine ⟨.slice (some ⟨(G++[(⟨q,true,true,true,1⟩:Ob)]).length,0,none⟩) (k+1) (k+1),((G++[(⟨q,true,true,true,1⟩:Ob)]).set id Ob.dead)++[Ob.grown 5 (t++q)],[id],?_,.inr ⟨_,rfl,by simp; omega,by rw [Qe (by rw [Qo]; exact Qk _),Qo,Qs]; simp [Ob.grown],by rw [Qg,h4,lq]; omega,by omega⟩,by simpa using h2,by simp; omega,fun i hi => ?_,fun i o ho hes => ?_⟩
  ·have h2:(k+1)*104≤2^47∧0<104∧0<5:=⟨by omega,by decide,by decide⟩
   have h7:¬ (k+1≤k):=by omega
   have h8:elemsOf (G++[(⟨q,true,true,true,1⟩:Ob)]) 5 k (.slice (some ⟨id,0,none⟩) k k)=some t:=by
    simp [elemsOf,QX h3' rfl,h4]
    refine ⟨by omega,Qu (by rw [h4]; omega)⟩
   simp only [Zv,hl,he,Qj,if_neg h1,h2,and_self,not_true_eq_false,if_false,if_true,QX h3' rfl,h8,if_neg h7,Zj,Qk]
  ·rw [Qa (by rw [Qo,Qg]; omega),Qm (by omega),Qa (by omega)]
  ·have hio:=(Qf.1 ho).1
   have hne:id≠i:=fun e=>by
    subst e
    rw [h3] at ho
    cases ho
    cases hes
   rw [Qa (by rw [Qo,Qg]; omega),Qm hne,Qa hio]; exact ho
theorem Rr {α:Type} {n:Nat}:∀ {L:List (List α)} {i:Nat} {P:List α},(∀ x∈L,x.length=n)→L[i]?=some P→Q2 n (Zr (i*n) L.flatten)=P∧i*n+n≤L.flatten.length
 | [],i,P,_,h=>by simp at h
 | x::L,0,P,hL,h=>by
  simp at h
  subst h
  have:=hL x (by simp)
  exact ⟨by rw [Kp,JQ,QI,Jz this],by rw [QI,Qg]; omega⟩
 | x::L,i+1,P,hL,h=>by
  have lx:=hL x (by simp)
  obtain ⟨h1,h2⟩:=Rr (fun y hy=>hL y (XJ _ hy)) (L:=L) (i:=i) (P:=P) (by simpa using h)
  refine ⟨?_,by rw [QI,Qg,VR]; omega⟩
  rw [QI,VR,Xy,←Xz,Xn lx,h1]
end Go.Ev.YtomfgcgnepfmjaaGreat
namespace Go.Ev.YtomfgcgnepfmjaaGreat
open Go Go.Ev
attribute [local congr] Jq J7 Jp J8 Je
set_option maxRecDepth 100000
variable {B q id e m mi p i:Nat} {H G:List Ob} {v hv:Value} {nm pub key k key0:List Nat}
def mcell (x:Nat×Nat×Nat×Value):List Value:=[.int .i64 5,.slice (some ⟨x.1,0,none⟩) 1 1,.slice (some ⟨x.2.1,0,none⟩) 2 2,.slice (some ⟨x.2.2.1,0,none⟩) 1 1,x.2.2.2]
def Shr (nm kf sg:List Nat) (b f:Nat) (G:List Ob) (sh:List Value):Prop:=∃ p,sh=[.int .i64 4,.slice (some ⟨p,0,none⟩) 3 3,.slice (some ⟨p+1,0,none⟩) 2 2,.slice none 0 0,.slice none 0 0]∧b≤p∧G[p]?=some ⟨u8s [nm,kf,pubL sg].flatten,true,true,true,1⟩∧G[p+1]?=some ⟨ns32 [1,f],true,true,true,1⟩
theorem Shr.keep {nm kf sg:List Nat} {b f:Nat} {G G':List Ob} {sh:List Value} (h:Shr nm kf sg b f G sh) (hg:∀ i o,b≤i→G[i]?=some o→o.es=1→G'[i]?=some o):Shr nm kf sg b f G' sh:=by
 obtain ⟨p,h1,h2,h3,h4⟩:=h
 exact ⟨p,h1,h2,hg _ _ h2 h3 rfl,hg _ _ (by omega) h4 rfl⟩
structure JnInv (nm key sg:List Nat) (tx:Nat→List Nat) (H0:List Ob) (f:Nat) (G:List Ob) (fv:Value) (sh:List Value) (ms:List (Nat×Nat×Nat×Value)) (i k:Nat):Prop where
 fr:Frs (H0.length+3) G fv i (ms.map mcell).flatten
 lm:ms.length=i
 sd:G[H0.length+1]?=some ⟨plc nm 1 i (keyN nm key i) (u8s sg),true,true,true,1⟩
 so:G[H0.length+2]?=some ⟨sh,true,true,true,1⟩
 ls:sh.length=5
 sf:f<k→Shr nm (keyN nm key f) sg (H0.length+3) f G sh
 mg:∀ j x,ms[j]?=some x→Msg (H0.length+3) G x.1 x.2.1 x.2.2.1 x.2.2.2 nm 1 j (msgS nm (keyN nm key j) sg (tx j) 1 j) (msgD nm (keyN nm key j) (tx j) 1 j)
 lo:∀ j,j<H0.length→G[j]?=H0[j]?
 lg:H0.length+3≤G.length
def Ji (x:Nat×List Nat):List Value := .int .u32 (x.1:Nat)::u8s x.2
def Ja (hs:List (Nat×List Nat)):List Value:=(hs.map Ji).flatten
def H33 (hs:List (Nat×List Nat)):Prop:=∀ x∈hs,x.2.length=32
theorem Wd {x:Nat×List Nat} (h:x.2.length=32):(Ji x).length=33:=by simp [Ji,Qp,h]
theorem EH {hs:List (Nat×List Nat)} (h:H33 hs):∀ r∈hs.map Ji,r.length=33:=fun r hr=>by
 obtain ⟨x,hx,rfl⟩:=ZV.1 hr
 exact Wd (h x hx)
theorem Vc {hs:List (Nat×List Nat)} (h:H33 hs):(Ja hs).length=hs.length*33:=by
 induction hs with
 | nil=>rfl
 | cons x hs ih =>
  have h1:=ih fun y hy=>h y (XJ _ hy)
  simp only [Ja,Jc,QI,Qg,Wd (h x (by simp)),Zm] at h1 ⊢
  omega
theorem WB (a b:List (Nat×List Nat)):Ja (a++b)=Ja a++Ja b:=by simp [Ja]
def HS (t:Prop) (B:Nat) (G:List Ob) (v:Value) (hs:List (Nat×List Nat)):Prop :=
 (v=.slice none 0 0∧hs=[])∨(∃ id,v=.slice (some ⟨id,0,none⟩) 0 0∧hs=[]∧B≤id∧G[id]?=some ⟨[],true,true,true,1⟩) ∨
  ∃ id c tl,v=.slice (some ⟨id,0,none⟩) hs.length c∧B≤id∧G[id]?=some ⟨Ja hs++tl,true,true,false,33⟩∧tl.length+hs.length*33=c*33∧0<c∧(t→tl=[])
theorem HS.keep {t:Prop} {B:Nat} {G G':List Ob} {v:Value} {hs:List (Nat×List Nat)} (h:HS t B G v hs) (hg:∀ i o,B≤i→G[i]?=some o→(o.es=33∨o.cells=[])→G'[i]?=some o):HS t B G' v hs:=by
 rcases h with h | ⟨id,h1,h2,h3,h4⟩ | ⟨id,c,tl,h1,h2,h3,h4⟩
 ·exact .inl h
 ·exact .inr (.inl ⟨id,h1,h2,h3,hg _ _ h3 h4 (.inr rfl)⟩)
 ·exact .inr (.inr ⟨id,c,tl,h1,h2,hg _ _ h2 h3 (.inl rfl),h4⟩)
theorem HS.ext {t:Prop} {B:Nat} {G G':List Ob} {v:Value} {hs:List (Nat×List Nat)} (h:HS t B G v hs) (hg:∀ i,B≤i→i<G.length→G'[i]?=G[i]?):HS t B G' v hs :=
 h.keep fun i o hb ho _=>(hg i hb (Qf.1 ho).1).trans ho
theorem HS.weak {t t':Prop} {B B':Nat} {G:List Ob} {v:Value} {hs:List (Nat×List Nat)} (h:HS t B G v hs) (hb:B'≤B) (ht:t'→t):HS t' B' G v hs:=by
 rcases h with h | ⟨id,h1,h2,h3,h4⟩ | ⟨id,c,tl,h1,h2,h3,h4,h5,h6⟩
 ·exact .inl h
 ·exact .inr (.inl ⟨id,h1,h2,Jf hb h3,h4⟩)
 ·exact .inr (.inr ⟨id,c,tl,h1,Jf hb h2,h3,h4,h5,fun k=>h6 (ht k)⟩)
theorem HS.shape {t:Prop} {B:Nat} {G:List Ob} {v:Value} {hs:List (Nat×List Nat)} (h:HS t B G v hs):∃ a c,v=.slice a hs.length c:=by
 rcases h with ⟨h1,rfl⟩ | ⟨id,h1,rfl,h3,h4⟩ | ⟨id,c,tl,h1,h2,h3,h4⟩
 ·exact ⟨_,_,h1⟩
 ·exact ⟨_,_,h1⟩
 ·exact ⟨_,_,h1⟩
theorem HS.row {t:Prop} {B:Nat} {G:List Ob} {v:Value} {hs:List (Nat×List Nat)} (h:HS t B G v hs) (h33:H33 hs) {i:Nat} {x:Nat×List Nat} (hi:hs[i]?=some x):∃ id c cs,v=.slice (some ⟨id,0,none⟩) hs.length c∧B≤id∧G[id]?=some ⟨cs,true,true,false,33⟩∧Q2 33 (Zr (i*33) cs)=Ji x∧i*33+33≤cs.length:=by
 have hlt:=(Qf.1 hi).1
 rcases h with ⟨-,rfl⟩ | ⟨id,-,rfl,-⟩ | ⟨id,c,tl,h1,h2,h3,h4,-⟩
 ·simp at hlt
 ·simp at hlt
 ·obtain ⟨e1,e2⟩:=Rr (n:=33) (L:=hs.map Ji) (i:=i) (P:=Ji x) (EH h33) (by rw [Jo,hi]; rfl)
  refine ⟨id,c,_,h1,h2,h3,?_,?_⟩
  ·rw [ZH (by show _≤(hs.map Ji).flatten.length; omega),ZT (by rw [QC]; show _≤(hs.map Ji).flatten.length-_; omega)]
   exact e1
  ·rw [Qg]; show _≤(hs.map Ji).flatten.length+_; omega
theorem HS.elems {t:Prop} {B:Nat} {G:List Ob} {v:Value} {hs:List (Nat×List Nat)} (h:HS t B G v hs) (h33:H33 hs) {G':List Ob} (hg:∀ i,B≤i→i<G.length→G'[i]?=G[i]?):elemsOf G' 33 hs.length v=some (Ja hs):=by
 rcases h.ext hg with ⟨rfl,rfl⟩ | ⟨id,rfl,rfl,h3,h4⟩ | ⟨id,c,tl,rfl,h2,h3,h4,-⟩
 ·rfl
 ·simp [elemsOf,QX h4 rfl,Ja]
 ·have:=Vc h33
  simp [elemsOf,QX h3 rfl,this]
theorem cE {t:Prop} {hs:List (Nat×List Nat)} (h:HS t B G v hs) (h33:H33 hs) (h1000:hs.length≤1000):∃ v' l,Zb T 49 [v] G=some (v',G++l,[])∧HS True G.length (G++l) v' hs:=by
 have h0:=h
 rcases h with ⟨rfl,rfl⟩ | hh
 ·exact ⟨_,[],by rw [Q6]; exact TY,.inl ⟨rfl,rfl⟩⟩
 ·have hnil:Vq 1 v=some false:=by
   rcases hh with ⟨id,rfl,-⟩ | ⟨id,c,tl,rfl,-⟩<;>rfl
  obtain ⟨a,c,hv⟩:=h0.shape
  have hl:Go.Ev.lenV v=some hs.length:=by rw [hv]; rfl
  have he:=h0.elems h33 (G':=G++[(⟨[],true,true,true,1⟩:Ob)]) fun i _ hi=>Qa hi
  have gl:(G++[(⟨[],true,true,true,1⟩:Ob)])[G.length]?=some ⟨[],true,true,true,1⟩:=by rw [Qe (Qk _),Qs]; rfl
  have fl:fillL [] []=some []:=rfl
  rcases ZB hs.length with h0' | h0'
  ·have hs0:=Zd h0'
   subst hs0
   simp only [Zz] at he hl
   have hap:Zv 33 36 (G++[(⟨[],true,true,true,1⟩:Ob)]) (.slice (some ⟨G.length,0,none⟩) 0 0) v=some (.slice (some ⟨G.length,0,none⟩) 0 0,G++[(⟨[],true,true,true,1⟩:Ob)],none,[]):=by
    simp only [Zv,hl,he,Qj,if_true]
   refine ⟨_,[⟨[],true,true,true,1⟩],?_,.inr (.inl ⟨G.length,rfl,rfl,Qk _,gl⟩)⟩
   rw [QD (fn:=Lm) rfl]
   simp only [Lm,Q1,quiet,cW,↓pW,reduceCtorEq,seval,-Qb,hnil,fl,hap]
  ·have hap:Zv 33 36 (G++[(⟨[],true,true,true,1⟩:Ob)]) (.slice (some ⟨G.length,0,none⟩) 0 0) v=some (.slice (some ⟨(G++[(⟨[],true,true,true,1⟩:Ob)]).length,0,none⟩) hs.length hs.length,(G++[(⟨[],true,true,true,1⟩:Ob)])++[Ob.grown 33 (Ja hs)],none,[]):=by
    have e1:¬ hs.length=0:=by omega
    have e2:(hs.length*36≤2^47∧0<36∧0<33)=True:=eq_true ⟨by omega,by decide,by decide⟩
    have e3:¬ (hs.length≤0):=by omega
    have e4:elemsOf (G++[(⟨[],true,true,true,1⟩:Ob)]) 33 0 (.slice (some ⟨G.length,0,none⟩) 0 0)=some []:=by simp [elemsOf,QX gl rfl]
    simp only [Zv,hl,he,Qj,if_neg e1,QA,e2,not_true_eq_false,if_false,if_true,QX gl rfl,e4,if_neg e3,Qr]
   refine ⟨.slice (some ⟨(G++[(⟨[],true,true,true,1⟩:Ob)]).length,0,none⟩) hs.length hs.length,[⟨[],true,true,true,1⟩,Ob.grown 33 (Ja hs)],?_,.inr (.inr ⟨(G++[(⟨[],true,true,true,1⟩:Ob)]).length,hs.length,[],rfl,by rw [Qg]; omega,?_,by simp,h0',fun _=>rfl⟩)⟩
   ·rw [Qv] at hap
    simp only [Qw,Qr] at hap
    rw [QD (fn:=Lm) rfl]
    simp only [Lm,Q1,quiet,cW,↓pW,reduceCtorEq,seval,-Qb,hnil,fl,hap]
   ·rw [show G++[(⟨[],true,true,true,1⟩:Ob),Ob.grown 33 (Ja hs)]=(G++[(⟨[],true,true,true,1⟩:Ob)])++[Ob.grown 33 (Ja hs)] by simp,Qe (Qk _),Qs,Q6]; rfl
theorem O9 {hs:List (Nat×List Nat)} {x:Nat×List Nat} (h:HS True B G v hs) (h33:H33 hs) (hx:x.2.length=32) (hB:B≤G.length) (h1000:hs.length≤2000) :
  ∃ v' G' M,Zv 33 36 (G++[⟨Ji x,true,true,true,1⟩]) v (.slice (some ⟨G.length,0,none⟩) 1 1)=some (v',G',none,M)∧HS True B G' v' (hs++[x])∧(∀ i∈M,B≤i)∧G.length≤G'.length∧(∀ i,i<B→G'[i]?=G[i]?)∧∀ (i:Nat) (o:Ob),G[i]?=some o→o.es=1→G'[i]?=some o:=by
 have lq:=Wd hx
 have hgx:(G++[(⟨Ji x,true,true,true,1⟩:Ob)])[G.length]?=some ⟨Ji x,true,true,true,1⟩:=by rw [Qe (Qk _),Qs]; rfl
 have he:elemsOf (G++[(⟨Ji x,true,true,true,1⟩:Ob)]) 33 1 (.slice (some ⟨G.length,0,none⟩) 1 1)=some (Ji x):=by
  simp [elemsOf,QX hgx rfl,lq]
  exact Qu (by rw [lq]; exact Qk _)
 have hl:Go.Ev.lenV (.slice (some ⟨G.length,0,none⟩) 1 1)=some 1:=rfl
 have h1:¬ (1:Nat)=0:=by decide
 have one:Ja [x]=Ji x:=by simp [Ja]
 have hnew:(G++[(⟨Ji x,true,true,true,1⟩:Ob)]++[Ob.grown 33 (Ji x)])[(G++[(⟨Ji x,true,true,true,1⟩:Ob)]).length]?=some ⟨Ja [x]++[],true,true,false,33⟩:=by rw [Qe (Qk _),Qs,one,Q6]; rfl
 rcases h with ⟨rfl,rfl⟩ | ⟨id,rfl,rfl,h3,h4⟩ | ⟨id,c,tl,rfl,h2,h3,h4,h5,h6⟩
 ·refine ⟨.slice (some ⟨(G++[(⟨Ji x,true,true,true,1⟩:Ob)]).length,0,none⟩) 1 1,(G++[(⟨Ji x,true,true,true,1⟩:Ob)])++[Ob.grown 33 (Ji x)],[],?_,.inr (.inr ⟨_,1,[],rfl,by rw [Qg]; omega,hnew,rfl,by decide,fun _=>rfl⟩),by simp,by simp,fun i hi => ?_,fun i o ho _ => ?_⟩
  ·have h2:(0+1)*36≤2^47∧0<36∧0<33:=by decide
   simp only [Zv,hl,he,Qj,if_neg h1,h2,and_self,not_true_eq_false,if_false,if_true]
  ·rw [Qv,Qa (by omega)]
  ·rw [Qv,Qa (Qf.1 ho).1]; exact ho
 ·have hid:id<G.length:=(Qf.1 h4).1
  have h4':(G++[(⟨Ji x,true,true,true,1⟩:Ob)])[id]?=some ⟨[],true,true,true,1⟩:=by rw [Qa hid]; exact h4
  refine ⟨.slice (some ⟨(G++[(⟨Ji x,true,true,true,1⟩:Ob)]).length,0,none⟩) 1 1,(G++[(⟨Ji x,true,true,true,1⟩:Ob)])++[Ob.grown 33 (Ji x)],[],?_,.inr (.inr ⟨_,1,[],rfl,by rw [Qg]; omega,hnew,rfl,by decide,fun _=>rfl⟩),by simp,by simp,fun i hi => ?_,fun i o ho _ => ?_⟩
  ·have h2:(0+1)*36≤2^47∧0<36∧0<33:=by decide
   have h8:elemsOf (G++[(⟨Ji x,true,true,true,1⟩:Ob)]) 33 0 (.slice (some ⟨id,0,none⟩) 0 0)=some []:=by simp [elemsOf,QX h4' rfl]
   have h9:¬ (0+1≤0):=by decide
   simp only [Zv,hl,he,Qj,if_neg h1,h2,and_self,not_true_eq_false,if_false,if_true,QX h4' rfl,h8,if_neg h9,Qr]
  ·rw [Qv,Qa (by omega)]
  ·rw [Qv,Qa (Qf.1 ho).1]; exact ho
 ·have htl:=h6 trivial
  subst htl
  have hc:c=hs.length:=by simp at h4; omega
  subst hc
  have hid:id<G.length:=(Qf.1 h3).1
  have hcl:=Vc h33
  rw [Q6] at h3
  have h3':(G++[(⟨Ji x,true,true,true,1⟩:Ob)])[id]?=some ⟨Ja hs,true,true,false,33⟩:=by rw [Qa hid]; exact h3
  refine ⟨.slice (some ⟨(G++[(⟨Ji x,true,true,true,1⟩:Ob)]).length,0,none⟩) (hs.length+1) (hs.length+1),((G++[(⟨Ji x,true,true,true,1⟩:Ob)]).set id Ob.dead)++[Ob.grown 33 (Ja hs++Ji x)],[id],?_,  .inr (.inr ⟨_,hs.length+1,[],by rw [show (hs++[x]).length=hs.length+1 by simp],by rw [Qg]; omega,?_,by simp,by omega,fun _=>rfl⟩),by simpa using h2,by simp; omega,fun i hi => ?_,fun i o ho hes => ?_⟩
  ·have h2:(hs.length+1)*36≤2^47∧0<36∧0<33:=⟨by omega,by decide,by decide⟩
   have h7:¬ (hs.length+1≤hs.length):=by omega
   have h8:elemsOf (G++[(⟨Ji x,true,true,true,1⟩:Ob)]) 33 hs.length (.slice (some ⟨id,0,none⟩) hs.length hs.length)=some (Ja hs):=by
    simp [elemsOf,QX h3' rfl,hcl]
    exact Qu (by rw [hcl]; exact Qk _)
   simp only [Zv,hl,he,Qj,if_neg h1,h2,and_self,not_true_eq_false,if_false,if_true,QX h3' rfl,h8,if_neg h7,Zj,Qk]
  ·rw [Qe (by rw [Qo]; exact Qk _),Qo,Qs,WB,one,Q6]; rfl
  ·rw [Qa (by rw [Qo,Qg]; omega),Qm (by omega),Qa (by omega)]
  ·have hio:=(Qf.1 ho).1
   have hne:id≠i:=fun e=>by
    subst e
    rw [h3] at ho
    cases ho
    cases hes
   rw [Qa (by rw [Qo,Qg]; omega),Qm hne,Qa hio]; exact ho
theorem EG {hs:List (Nat×List Nat)} (h:H33 hs) (p:Nat) (hp:p≤hs.length):Q2 (p*33) (Ja hs)=Ja (hs.take p):=by
 have hl:(Ja (hs.take p)).length=p*33:=by rw [Vc fun x hx=>h x (QQ hx),Q7,Ze hp]
 conv=>lhs; rw [←ZR p hs,WB]
 exact Jz hl
theorem H33.take {hs:List (Nat×List Nat)} (h:H33 hs) (p:Nat):H33 (hs.take p):=fun x hx=>h x (QQ hx)
theorem H33.drop {hs:List (Nat×List Nat)} (h:H33 hs) (p:Nat):H33 (hs.drop p):=fun x hx=>h x (Zw hx)
theorem EI {hs:List (Nat×List Nat)} (h:H33 hs) (p:Nat) (hp:p≤hs.length):Zr (p*33) (Ja hs)=Ja (hs.drop p):=by
 have hl:(Ja (hs.take p)).length=p*33:=by rw [Vc (h.take p),Q7,Ze hp]
 conv=>lhs; rw [←ZR p hs,WB]
 exact Xn hl
theorem Ac:(Builtin.zeroCells Ug.toArray 1).toList.length=33:=by decide +kernel
theorem Pe {hs:List (Nat×List Nat)} {p:Nat} (h:HS True B H v hs) (h33:H33 hs) (hp:p<hs.length) (h1000:hs.length≤2000) :
  ∃ v' H' M,Zb T 96 [v,.int .i64 (p:Nat),.int .i64 ((p+1:Nat):Int)] H=some (v',H',M)∧HS False B H' v' (hs.eraseIdx p)∧(∀ i,i<B→H'[i]?=H[i]?)∧H.length≤H'.length∧(∀ i∈M,B≤i)∧∀ (i:Nat) (o:Ob),H[i]?=some o→o.es=1→H'[i]?=some o:=by
 rcases h with ⟨-,rfl⟩ | ⟨id,-,rfl,-⟩ | ⟨id,c,tl,rfl,h2,h3,h4,h5,h6⟩
 ·simp at hp
 ·simp at hp
 have htl:=h6 trivial
 subst htl
 have hc:c=hs.length:=by simp at h4; omega
 subst hc
 rw [Q6] at h3
 obtain ⟨n,hn⟩:∃ n,n=hs.length:=⟨_,rfl⟩
 have hcl:=Vc h33
 rw [←hn] at hcl hp h1000 ⊢
 have hid:=(Qf.1 h3).1
 have hlv:liveAt H id=some ⟨Ja hs,true,true,false,33⟩:=QX h3 rfl
 have hD:(Ja (hs.drop (p+1))).length=(n-(p+1))*33:=by rw [Vc (h33.drop _),QC,hn]
 have hdd:=EI h33 (p+1) (by omega)
 obtain ⟨H1,M1,hap,k1,k2,k3,k4⟩:∃ H1 M1,Zv 33 36 H (.slice (some ⟨id,0,none⟩) p n) (.slice (some ⟨id,(p+1)*33,none⟩) (n-(p+1)) (n-(p+1)))=some (.slice (some ⟨id,0,none⟩) (n-1) n,H1,none,M1)∧H1[id]?=some ⟨Ja (hs.eraseIdx p)++Zr ((n-1)*33) (Ja hs),true,true,false,33⟩∧(∀ i,i≠id→H1[i]?=H[i]?)∧H1.length=H.length∧∀ i∈M1,B≤i:=by
  have hl:Go.Ev.lenV (.slice (some ⟨id,(p+1)*33,none⟩) (n-(p+1)) (n-(p+1)))=some (n-(p+1)):=rfl
  have he:elemsOf H 33 (n-(p+1)) (.slice (some ⟨id,(p+1)*33,none⟩) (n-(p+1)) (n-(p+1)))=some (Ja (hs.drop (p+1))):=by
   have e1:(p+1)*33+(n-(p+1))*33≤(Ja hs).length:=by omega
   simp only [elemsOf,hlv,Qj,JX,e1,and_self,if_true,hdd]
   rw [Qu (by rw [hD]; exact Qk _)]
  have her:Ja (hs.eraseIdx p)=Q2 (p*33) (Ja hs)++Ja (hs.drop (p+1)):=by
   rw [List.eraseIdx_eq_take_drop_succ,WB,EG h33 p (by omega)]
  rcases ZB (n-(p+1)) with h0 | h0
  ·refine ⟨H,[],?_,?_,fun _ _=>rfl,rfl,by simp⟩
   ·simp only [Zv,hl,he,Qj,if_pos h0]
    rw [show n-1=p by omega]
   ·have hnil:Ja (hs.drop (p+1))=[]:=Zd (by rw [hD,h0])
    rw [h3,her,show n-1=p by omega,hnil,Q6,ZR]
  ·refine ⟨H.set id ⟨Ja (hs.eraseIdx p)++Zr ((n-1)*33) (Ja hs),true,true,false,33⟩,[id],?_,Qt hid,fun i hi=>Qm (Ne.symm hi),Qo,by simpa using h2⟩
   have e0:¬ n-(p+1)=0:=by omega
   have e2:(p+(n-(p+1)))*36≤2^47∧0<36∧0<33:=⟨by omega,by decide,by decide⟩
   have e3:p+(n-(p+1))≤n:=by omega
   have e4:elemsOf H 33 p (.slice (some ⟨id,0,none⟩) p n)=some (Q2 (p*33) (Ja hs)):=by
    have e1:0+p*33≤(Ja hs).length:=by omega
    simp only [elemsOf,hlv,Qj,JX,e1,and_self,if_true,JQ]
   have e5:Addr.add ⟨id,0,none⟩ (p*33)=⟨id,p*33,none⟩:=by
    rcases ZB p with h | h
    ·subst h; rfl
    ·simp [Addr.add,show ¬ p*33=0 by omega]
   have e6:storeAt H ⟨id,p*33,none⟩ (Ja (hs.drop (p+1)))=some (H.set id ⟨Ja (hs.eraseIdx p)++Zr ((n-1)*33) (Ja hs),true,true,false,33⟩):=by
    have e7:p*33+(Ja (hs.drop (p+1))).length≤(Ja hs).length:=by omega
    simp only [storeAt,hlv,Qj,JX,e7,and_self,if_true]
    rw [JK _ _ _ e7,her,hD,←Qv,show p*33+(n-(p+1))*33=(n-1)*33 by omega]
   simp only [Zv,hl,he,Qj,if_neg e0,e2,and_self,not_true_eq_false,if_false,hlv,e4,if_pos e3,e5,e6]
   rw [show p+(n-(p+1))=n-1 by omega]
 have hlv1:liveAt H1 id=some ⟨Ja (hs.eraseIdx p)++Zr ((n-1)*33) (Ja hs),true,true,false,33⟩:=QX k1 rfl
 have hel:(hs.eraseIdx p).length=n-1:=by rw [List.length_eraseIdx_of_lt (by omega),hn]
 have h33e:H33 (hs.eraseIdx p):=fun x hx=>h33 x (List.mem_of_mem_eraseIdx hx)
 have hce:(Ja (hs.eraseIdx p)).length=(n-1)*33:=by rw [Vc h33e,hel]
 obtain ⟨Z,hZ⟩:∃ Z,Z=(Builtin.zeroCells Ug.toArray 1).toList:=⟨_,rfl⟩
 have lZ:Z.length=33:=by rw [hZ]; exact Ac
 have hcr:Ak H1 Ug (.slice (some ⟨id,(n-1)*33,none⟩) 1 1)=some (H1.set id ⟨Ja (hs.eraseIdx p)++Z,true,true,false,33⟩,[id]):=by
  have e7:(n-1)*33+Z.length≤(Ja (hs.eraseIdx p)++Zr ((n-1)*33) (Ja hs)).length:=by rw [Qg,QC,hce,hcl,lZ]; omega
  simp only [Ak,←hZ,storeAt,hlv1,Qj,JX,e7,and_self,if_true]
  rw [JK _ _ _ e7,Jz hce,Ju (by rw [Qg,QC,hce,hcl,lZ]; omega),Q6]
 refine ⟨.slice (some ⟨id,0,none⟩) (n-1) n,H1.set id ⟨Ja (hs.eraseIdx p)++Z,true,true,false,33⟩,Qy H.length (Qy H.length [] M1) [id],?_,.inr (.inr ⟨id,n,Z,by rw [hel],h2,Qt (by omega),by rw [lZ,hel]; omega,by omega,fun h=>h.elim⟩),fun i hi=>by rw [Qm (by omega),k2 i (by omega)],by rw [Qo]; omega,fun i hi => ?_,fun i o ho hes => ?_⟩
 rotate_left
 ·rcases Za hi with h | h
  ·rcases Za h with h | h
   ·simp at h
   ·exact k4 i h
  ·rw [Zc.1 h]; exact h2
 ·have hne:i≠id:=fun e=>by
   rw [e,h3] at ho
   cases ho
   cases hes
  rw [Qm (Ne.symm hne),k2 i hne]; exact ho
 have b0:ZA n n (some (.int .i64 (p:Nat))) (some (.int .i64 ((p+1:Nat):Int))) (some (.int .i64 (n:Nat)))=some (p,p+1,n):=by
  simp only [ZA,show Xj (some (.int .i64 (n:Nat))) n n=some n from J3 (Qk _),Qj,show Xj (some (.int .i64 ((p+1:Nat):Int))) n n=some (p+1) from J3 (by omega),show Xj (some (.int .i64 (p:Nat))) (p+1) 0=some p from J3 (by omega)]
  rfl
 have b1:ZA n n none (some (.int .i64 (p:Nat))) none=some (0,p,n):=by
  rw [JC,show Xj (some (.int .i64 (p:Nat))) n n=some p from J3 (by omega),Qj,XO]; rfl
 have b2:ZA n n (some (.int .i64 ((p+1:Nat):Int))) none none=some (p+1,n,n):=by
  rw [JC,XO,Qj,show Xj (some (.int .i64 ((p+1:Nat):Int))) n 0=some (p+1) from J3 (by omega)]; rfl
 have b3:ZA (n-1) n (some (.int .i64 ((n-1:Nat):Int))) (some (.int .i64 (n:Nat))) none=some (n-1,n,n):=by
  rw [JC,show Xj (some (.int .i64 (n:Nat))) n (n-1)=some n from J3 (Qk _),Qj,show Xj (some (.int .i64 ((n-1:Nat):Int))) n 0=some (n-1) from J3 (by omega)]; rfl
 have e1:(((p:Nat):Int)==((p+1:Nat):Int))=false:=by simp; omega
 have e2:n-(n-1)=1:=by omega
 have hc:=@bG T
 clear hZ lZ hce hel h33e hlv hlv1 hD hdd hcl k2 k3 k4 h4 h5 h6
 generalize p+1=p1 at *
 generalize hn1:n-1=n1 at *
 rw [QD (fn:=nC) rfl]
 simp only [nC,Q1,quiet,cW,↓pW,reduceCtorEq,seval,-Qb,b0,b1,b2,b3,e1,e2,h3,k1,hap,hcr,hc,QA,Kp,Qk]
theorem ie {idx:Nat} {x:Nat×List Nat} (hq:G[q]?=some ⟨[.int .u32 idx],true,true,true,1⟩) (hx:x.2.length=32) :
  Zb T 95 [.agg (Ji x).toArray,.pointer (some ⟨q,0,none⟩)] G=some (.bool ((x.1:Int)==(idx:Int)),G++[⟨Ji x,true,true,true,1⟩],[]):=by
 have hql:=(Qf.1 hq).1
 have g1:(G++[(⟨Ji x,true,true,true,1⟩:Ob)])[q]?=some ⟨[.int .u32 idx],true,true,true,1⟩:=by rw [Qa hql]; exact hq
 have g2:(G++[(⟨Ji x,true,true,true,1⟩:Ob)])[G.length]?=some ⟨Ji x,true,true,true,1⟩:=by rw [Qe (Qk _),Qs]; rfl
 have h0:(Ji x)[0]?=some (.int .u32 (x.1:Nat)):=rfl
 have ok1:∀ L:List Value,(Value.agg L.toArray).cells.toList=L:=fun _=>rfl
 have ok3:∀ L:List Value,okVar (Value.agg L.toArray)=true:=fun _=>rfl
 generalize Ji x=C at *
 rw [QD (fn:=nD) rfl]
 simp only [nD,Q1,quiet,cW,↓pW,reduceCtorEq,seval,-Qb,g1,g2,h0,ok1,ok3]
def ixI (v fv:Value) (n:Nat) (i:Int) (G:List Ob) (ex:Env):St:=⟨[(0,v),(1,fv),(7,.int .i64 (n:Nat)),(8,.int .i64 i)]++ex,G,[]⟩
theorem AM {t:Prop} {l:List Ob} {hs:List (Nat×List Nat)} {idx:Nat} {x:Nat×List Nat} (h:HS t B H v hs) (h33:H33 hs) (hi:hs[i]?=some x) (hn:hs.length≤2000) (hq:H[q]?=some ⟨[.int .u32 idx],true,true,true,1⟩) :
  Q8 T H.length V2 (ixI v (.func (.func 95) #[] #[.pointer (some ⟨q,0,none⟩)]) hs.length i (H++l) [])=if x.1=idx then some (.ret,⟨[(4,.int .i64 i)],H++(l++[⟨Ji x,true,true,true,1⟩]),[]⟩) else some (.normal,ixI v (.func (.func 95) #[] #[.pointer (some ⟨q,0,none⟩)]) hs.length ((i+1:Nat):Int) (H++(l++[⟨Ji x,true,true,true,1⟩])) []):=by
 have hlt:=(Qf.1 hi).1
 obtain ⟨id,c,cs,rfl,-,h3,h4,h5⟩:=h.row h33 hi
 have hx:=h33 x (Qz hi)
 have g0:(H++l)[id]?=some ⟨cs,true,true,false,33⟩:=by rw [Qa (Qf.1 h3).1]; exact h3
 have hc:=ie (G:=H++l) (by rw [Qa (Qf.1 hq).1]; exact hq) hx
 rw [Qv] at hc
 have e1:((i:Int)<(hs.length:Int))=True:=eq_true (by omega)
 have w3:IntKind.i64.wrap ((i:Int)+1)=((i+1:Nat):Int):=Z4 (b:=1) (by omega)
 have hne:=Wd hx
 generalize Ji x=C at *
 generalize i+1=i1 at *
 generalize hs.length=n at *
 by_cases he:x.1=idx
 ·rw [if_pos he]
  rw [he,beq_self_eq_true] at hc
  simp only [ixI,V2,Q1,quiet,cW,↓pW,reduceCtorEq,seval,-Qb,e1,g0,h4,h5,hc]
 ·rw [if_neg he]
  rw [show ((x.1:Int)==(idx:Int))=false by simp; omega] at hc
  simp only [ixI,V2,Q1,quiet,cW,↓pW,reduceCtorEq,seval,-Qb,e1,g0,h4,h5,hc,w3]
theorem O8 {t:Prop} {hs:List (Nat×List Nat)} {idx:Nat} {x:Nat×List Nat} (h:HS t B H v hs) (h33:H33 hs) (hp:hs[p]?=some x) (hx:x.1=idx) (hbef:∀ (j:Nat) (y:Nat×List Nat),j<p→hs[j]?=some y→y.1≠idx) (hn:hs.length≤2000) (hq:H[q]?=some ⟨[.int .u32 idx],true,true,true,1⟩) :
  ∃ l,Zb T 94 [v,.func (.func 95) #[] #[.pointer (some ⟨q,0,none⟩)]] H=some (.int .i64 p,H++l,[]):=by
 have hlp:=(Qf.1 hp).1
 obtain ⟨st,hA,l,rfl⟩:=Ri (T:=T) (base:=H.length) (body:=V2) (x := .ret) (by simp)
  (I:=fun i st=>∃ l,st=ixI v (.func (.func 95) #[] #[.pointer (some ⟨q,0,none⟩)]) hs.length i (H++l) []) (Q:=fun st=>∃ l,st=⟨[(4,.int .i64 p)],H++l,[]⟩) p
  (fun j st hj hs'=>by
   obtain ⟨l,rfl⟩:=hs'
   obtain ⟨y,hy⟩:∃ y,hs[j]?=some y:=⟨_,Qh (by omega)⟩
   have hb:=AM (l:=l) h h33 hy hn hq
   rw [if_neg (hbef j y hj hy)] at hb
   exact ⟨_,hb,_,rfl⟩)
  (fun st hs'=>by
   obtain ⟨l,rfl⟩:=hs'
   have hb:=AM (l:=l) h h33 hp hn hq
   rw [if_pos hx] at hb
   exact ⟨_,hb,_,rfl⟩) p 0 (by omega) (ixI v (.func (.func 95) #[] #[.pointer (some ⟨q,0,none⟩)]) hs.length ((0:Nat):Int) H []) ⟨[],by rw [Q6]⟩
 have hB:Q8 T H.length (.block 0 (.loop V2)) (ixI v (.func (.func 95) #[] #[.pointer (some ⟨q,0,none⟩)]) hs.length ((0:Nat):Int) H [])=some (.ret,⟨[(4,.int .i64 p)],H++l,[]⟩):=by rw [Js,hA]; rfl
 obtain ⟨a,c,hv⟩:=h.shape
 have hlen:vLen false v=some (.int .i64 (hs.length:Nat)):=by rw [hv]; rfl
 simp only [ixI,Qw,Qr,show ((0:Nat):Int)=0 from rfl] at hB
 refine ⟨l,?_⟩
 rw [QD (fn:=Ll) rfl]
 simp only [Ll,Q1,quiet,cW,↓pW,reduceCtorEq,seval,-Qb,hlen,hB]
theorem bo {t:Prop} {hs:List (Nat×List Nat)} {idx:Nat} (h:HS t B H v hs) (h33:H33 hs) (hbef:∀ (j:Nat) (y:Nat×List Nat),hs[j]?=some y→y.1≠idx) (hn:hs.length≤2000) (hq:H[q]?=some ⟨[.int .u32 idx],true,true,true,1⟩) :
  ∃ l,Zb T 94 [v,.func (.func 95) #[] #[.pointer (some ⟨q,0,none⟩)]] H=some (.int .i64 (-1),H++l,[]):=by
 obtain ⟨st,hA,l,rfl⟩:=QZ (T:=T) (base:=H.length) (id:=0) (body:=V2)
  (fun i st=>∃ l,st=ixI v (.func (.func 95) #[] #[.pointer (some ⟨q,0,none⟩)]) hs.length i (H++l) []) (Q:=fun st=>∃ l,st=ixI v (.func (.func 95) #[] #[.pointer (some ⟨q,0,none⟩)]) hs.length hs.length (H++l) [(9,.bool false)]) hs.length
  (s:=ixI v (.func (.func 95) #[] #[.pointer (some ⟨q,0,none⟩)]) hs.length ((0:Nat):Int) H []) ⟨[],by rw [Q6]⟩
  (fun j st hj hs'=>by
   obtain ⟨l,rfl⟩:=hs'
   obtain ⟨y,hy⟩:∃ y,hs[j]?=some y:=⟨_,Qh (by omega)⟩
   have hb:=AM (l:=l) h h33 hy hn hq
   rw [if_neg (hbef j y hy)] at hb
   exact ⟨_,hb,_,rfl⟩)
  (fun st hs'=>by
   obtain ⟨l,rfl⟩:=hs'
   refine ⟨_,?_,l,rfl⟩
   have e1:((hs.length:Int)<(hs.length:Int))=False:=eq_false (by omega)
   generalize hs.length=n at *
   simp only [ixI,V2,Q1,quiet,cW,↓pW,reduceCtorEq,seval,-Qb,e1])
 obtain ⟨a,c,hv⟩:=h.shape
 have hlen:vLen false v=some (.int .i64 (hs.length:Nat)):=by rw [hv]; rfl
 simp only [ixI,Qw,Qr,show ((0:Nat):Int)=0 from rfl] at hA
 refine ⟨l,?_⟩
 rw [QD (fn:=Ll) rfl]
 simp only [Ll,Q1,quiet,cW,↓pW,reduceCtorEq,seval,-Qb,hlen,hA]
theorem eh {cs:List Value} {x:Nat×List Nat} (h1:Q2 33 (Zr (p*33) cs)=Ji x) (h2:p*33+33≤cs.length) (hx:x.2.length=32):Q2 32 (Zr (p*33+1) cs)=u8s x.2:=by
 have:Zr 1 (Q2 33 (Zr (p*33) cs))=u8s x.2:=by rw [h1]; rfl
 rw [←this,List.drop_take,Xz]
theorem Oz {hs:List (Nat×List Nat)} (ho:H[id]?=some ⟨fol nm e m key pub hv,true,true,true,1⟩) (hn:B32 nm) (hk:B32 key) (hp:pub.length=32) (hm:mi<m) (hS:HS True B H hv hs) (h33:H33 hs) (h1000:hs.length≤1000) (hid:id<B) (hx:hs[p]?=some (mi,k)) (hbef:∀ (j:Nat) (y:Nat×List Nat),j<p→hs[j]?=some y→y.1≠mi) :
  ∃ H' M hv',Zb T 50 [.pointer (some ⟨id,0,none⟩),.int .u32 mi] H=some (.tuple #[.agg (u8s k).toArray,.int .i64 0],H',M)∧H'[id]?=some ⟨fol nm e m key pub hv',true,true,true,1⟩∧HS False B H' hv' (hs.eraseIdx p)∧(∀ i,i<B→i≠id→H'[i]?=H[i]?)∧H.length≤H'.length∧∀ i∈M,i=id∨B≤i:=by
 have hidl:=(Qf.1 ho).1
 have hpl:=(Qf.1 hx).1
 have lk:k.length=32:=h33 _ (Qz hx)
 obtain ⟨z,hz,lz⟩:∃ z:List Nat,Qc 32 (Value.int .u8 0)=u8s z∧z.length=32:=⟨Qc 32 0,rfl,rfl⟩
 obtain ⟨H1,hH1⟩:∃ G,G=H++[(⟨[.int .u32 mi],true,true,true,1⟩:Ob),⟨u8s z,true,true,true,1⟩]:=⟨_,rfl⟩
 have l1:H1.length=H.length+2:=by rw [hH1]; simp
 have old1:∀ i,i<H.length→H1[i]?=H[i]? := fun i hi=>by rw [hH1,Qa hi]
 have g1i:H1[H.length]?=some ⟨[.int .u32 mi],true,true,true,1⟩:=by rw [hH1,Qe (Qk _),Qs]; rfl
 have g1z:H1[H.length+1]?=some ⟨u8s z,true,true,true,1⟩:=by rw [hH1,Qe (by omega),Qq]; rfl
 have S1:=hS.ext (G':=H1) fun i _ hi=>old1 i hi
 obtain ⟨l,hix⟩:=O8 S1 h33 hx rfl hbef (by omega) g1i
 obtain ⟨G2,hG2⟩:∃ G,G=H1++l:=⟨_,rfl⟩
 rw [←hG2] at hix
 have l2:H1.length≤G2.length:=by rw [hG2,Qg]; omega
 have old2:∀ i,i<H1.length→G2[i]?=H1[i]? := fun i hi=>by rw [hG2,Qa hi]
 obtain ⟨H3,hH3⟩:∃ G,G=G2++[(⟨u8s k,true,true,true,1⟩:Ob)]:=⟨_,rfl⟩
 have old3:∀ i,i<H1.length→H3[i]?=H1[i]? := fun i hi=>by rw [hH3,Qa (by omega),old2 i hi]
 have g3k:H3[G2.length]?=some ⟨u8s k,true,true,true,1⟩:=by rw [hH3,Qe (Qk _),Qs]; rfl
 have l3:H3.length=G2.length+1:=by rw [hH3]; simp
 obtain ⟨hv',H4,M4,hde,d1,d2,d3,d4,d5⟩:=Pe (S1.ext (G':=H3) fun i _ hi=>old3 i hi) h33 hpl (by omega)
 have g1:=(old1 id hidl).trans ho
 have g3:=(old3 id (by omega)).trans g1
 have g4:H4[id]?=some ⟨fol nm e m key pub hv,true,true,true,1⟩:=d5 _ _ g3 rfl
 have g4z:=d5 _ _ ((old3 _ (by omega)).trans g1z) rfl
 have g4k:=d5 _ _ g3k rfl
 obtain ⟨hid2,c,cs,hvv,hb2,r1,r2,r3⟩:=S1.row h33 hx
 have r4:=eh r2 r3 lk
 have num:(fol nm e m key pub hv)[33]?=some (.int .u32 m):=K6 hn.len
 have h98:=KX (e:=e) (m:=m) (hv:=hv) hn.len hk.len hp
 have hl:=Xw (e:=e) (m:=m) (hv:=hv) hn.len hk.len hp
 have hsv:=Ya (e:=e) (m:=m) (hv:=hv) (hv':=hv') hn.len hk.len hp
 have hBl:B≤H.length:=by
  obtain ⟨_,_,_,_,hbb,rr,-⟩:=hS.row h33 hx
  have:=(Qf.1 rr).1
  omega
 obtain ⟨a',c',hv2⟩:=d1.shape
 have c1:hv'.cells.toList=[hv']:=by rw [hv2]; rfl
 have c2:hv'.cells.size=1:=by rw [hv2]; rfl
 have c3:okVar hv'=true:=by rw [hv2]; rfl
 refine ⟨(H4.set id ⟨fol nm e m key pub hv',true,true,true,1⟩).set (H.length+1) ⟨u8s k,true,true,true,1⟩,Qy H.length (Qy H.length [] M4) [id],hv',?_,?_,d1.keep fun i o hb ho' hes => ?_,fun i hi hne => ?_,?_,fun i hi => ?_⟩
 rotate_left
 ·rw [Qm (by omega),Qt (by omega)]
 ·have n1:i≠H.length+1:=fun e=>by
   rw [e,g4z] at ho'
   cases ho'
   rcases hes with h | h
   ·cases h
   ·have:=congrArg oL h
    rw [Qp,lz] at this
    cases this
  rw [Qm (Ne.symm n1),Qm (by omega)]; exact ho'
 ·rw [Qm (by omega),Qm (Ne.symm hne),d2 i hi,old3 i (by omega),old1 i (by omega)]
 ·rw [Qo,Qo]; omega
 ·rcases Za hi with h | h
  ·rcases Za h with h | h
   ·simp at h
   ·exact .inr (d4 i h)
  ·exact .inl (Zc.1 h)
 have g2:G2[id]?=some ⟨fol nm e m key pub hv,true,true,true,1⟩:=(old2 _ (by omega)).trans g1
 have g2c:G2[hid2]?=some ⟨cs,true,true,false,33⟩:=(old2 _ (Qf.1 r1).1).trans r1
 have a2:∀ o o':Ob,(G2++[o]).set G2.length o'=G2++[o']:=fun _ _=>by rw [Q4 _ _ (Qk _),Qs]; rfl
 have g5k:∀ o,(H4.set id o)[G2.length]?=some ⟨u8s k,true,true,true,1⟩:=fun o=>by rw [Qm (by omega)]; exact g4k
 have g5z:∀ o,(H4.set id o)[H.length+1]?=some ⟨u8s z,true,true,true,1⟩:=fun o=>by rw [Qm (by omega)]; exact g4z
 have g6:∀ o o',((H4.set id o).set (H.length+1) o')[H.length+1]?=some o':=fun o o'=>Qt (by rw [Qo]; omega)
 have e1:((mi:Int)<(m:Int))=True:=eq_true (by omega)
 have e2:((p:Int)<0)=False:=eq_false (by omega)
 have e3:((p:Int)<(hs.length:Int))=True:=eq_true (by omega)
 have r3':p*33+1+32≤cs.length:=by omega
 have w1:IntKind.i64.wrap ((p:Int)+1)=((p+1:Nat):Int):=Z4 (b:=1) (by omega)
 have sk:=QO (cs:=u8s z) (v:=u8s k) (by rw [Qp,Qp,lz,lk])
 have tk:Q2 32 (u8s k)=u8s k:=Q5 (by rw [Qp,lk])
 have h1:=hH1.symm
 have h3:=hH3.symm
 have ok1:∀ L:List Value,(Value.agg L.toArray).cells.toList=L:=fun _=>rfl
 have ok2:∀ L:List Value,(Value.agg L.toArray).cells.size=L.length:=fun _=>rfl
 have ok3:∀ L:List Value,okVar (Value.agg L.toArray)=true:=fun _=>rfl
 have im0:∀ L,Qy H.length L [G2.length]=L:=fun L=>QE (by simp; omega)
 have im1:∀ L,Qy H.length L [H.length+1]=L:=fun L=>QE (by simp)
 clear hH1 hH3 hG2 hx hbef S1 hS h33 d1 d2 d3 d4 d5 r1 r2 r3 hv2 old1 old2 old3 ho g4k g4z hn hk
 subst hvv
 generalize fol nm e m key pub (.slice (some ⟨hid2,0,none⟩) hs.length c)=F at *
 generalize fol nm e m key pub hv'=F' at *
 generalize p+1=p1 at *
 generalize hs.length=n at *
 rw [QD (fn:=RN) rfl]
 simp only [RN,Q1,quiet,cW,↓pW,reduceCtorEq,seval,-Qb,hz,lz,h1,g1,g1i,hix,g2,g2c,a2,h3,g3,hde,g4,g5k,g5z,g6,num,h98,hl,hsv,e1,e2,e3,r3',r4,w1,sk,tk,lk,c1,c2,c3,im0,im1,ok1,ok2,ok3,Kx,Qp]
theorem bh {hs:List (Nat×List Nat)} (ho:H[id]?=some ⟨fol nm e m key pub hv,true,true,true,1⟩) (hn:B32 nm) (hk:B32 key) (hp:pub.length=32) (hm:mi<m) (hS:HS True B H hv hs) (h33:H33 hs) (h1000:hs.length≤1000) (hbef:∀ (j:Nat) (y:Nat×List Nat),hs[j]?=some y→y.1≠mi) :
  ∃ l,Zb T 50 [.pointer (some ⟨id,0,none⟩),.int .u32 mi] H=some (.tuple #[.agg (u8s (Qc 32 0)).toArray,.int .i64 151],H++l,[]):=by
 have hidl:=(Qf.1 ho).1
 obtain ⟨z,hz,lz⟩:∃ z:List Nat,Qc 32 (Value.int .u8 0)=u8s z∧z=Qc 32 0:=⟨Qc 32 0,rfl,rfl⟩
 have l32:z.length=32:=by rw [lz]; rfl
 obtain ⟨H1,hH1⟩:∃ G,G=H++[(⟨[.int .u32 mi],true,true,true,1⟩:Ob),⟨u8s z,true,true,true,1⟩]:=⟨_,rfl⟩
 have old1:∀ i,i<H.length→H1[i]?=H[i]? := fun i hi=>by rw [hH1,Qa hi]
 have g1i:H1[H.length]?=some ⟨[.int .u32 mi],true,true,true,1⟩:=by rw [hH1,Qe (Qk _),Qs]; rfl
 obtain ⟨l,hix⟩:=bo (hS.ext (G':=H1) fun i _ hi=>old1 i hi) h33 hbef (by omega) g1i
 have g1:=(old1 id hidl).trans ho
 have g2z:∀ L:List Ob,(H++([(⟨[.int .u32 mi],true,true,true,1⟩:Ob),⟨u8s z,true,true,true,1⟩]++L))[H.length+1]?=some ⟨u8s z,true,true,true,1⟩:=fun L=>by rw [Qe (by omega),Qq]; rfl
 have s2:(H1++l).set (H.length+1) ⟨u8s z,true,true,true,1⟩=H1++l:=by
  refine VX ?_
  rw [hH1,Qv]; exact g2z l
 have g3:(H1++l)[H.length+1]?=some ⟨u8s z,true,true,true,1⟩:=by rw [hH1,Qv]; exact g2z l
 have num:(fol nm e m key pub hv)[33]?=some (.int .u32 m):=K6 hn.len
 have h98:=KX (e:=e) (m:=m) (hv:=hv) hn.len hk.len hp
 have hl:=Xw (e:=e) (m:=m) (hv:=hv) hn.len hk.len hp
 have e1:((mi:Int)<(m:Int))=True:=eq_true (by omega)
 have e2:((-1:Int)<0)=True:=eq_true (by decide)
 have fz:fillL (u8s z) []=some (u8s z):=rfl
 have sp:=QO (cs:=u8s z) (v:=u8s z) rfl
 have tz:Q2 32 (u8s z)=u8s z:=Q5 (by rw [Qp,l32])
 have h1:=hH1.symm
 have im1:∀ L,Qy H.length L [H.length+1]=L:=fun L=>QE (by simp)
 have ok1:∀ L:List Value,(Value.agg L.toArray).cells.toList=L:=fun _=>rfl
 have ok2:∀ L:List Value,(Value.agg L.toArray).cells.size=L.length:=fun _=>rfl
 have ok3:∀ L:List Value,okVar (Value.agg L.toArray)=true:=fun _=>rfl
 refine ⟨[⟨[.int .u32 mi],true,true,true,1⟩,⟨u8s z,true,true,true,1⟩]++l,?_⟩
 rw [←Qv,←hH1,←lz]
 clear lz ho hS hH1 g2z old1
 generalize fol nm e m key pub hv=F at *
 generalize hG2:H1++l=G2 at *
 rw [QD (fn:=RN) rfl]
 simp only [RN,Q1,quiet,cW,↓pW,reduceCtorEq,seval,-Qb,hz,l32,h1,g1,g1i,hix,g3,s2,num,h98,hl,e1,e2,fz,sp,tz,im1,ok1,ok2,ok3,Kx,Qp]
def skL (nm key0:List Nat) (m d:Nat):List (Nat×List Nat):=(ZQ d).map fun i=>(m+i,Kb nm (keyN nm key0 (m+i)))
theorem Sj (nm key0:List Nat) (m d:Nat):skL nm key0 m (d+1)=skL nm key0 m d++[(m+d,Kb nm (keyN nm key0 (m+d)))]:=by simp [skL,HF]
theorem kR (nm key0:List Nat) (m d:Nat):H33 (skL nm key0 m d):=fun x hx=>by
 obtain ⟨i,-,rfl⟩:=ZV.1 hx
 exact (YL _ _).len
theorem H33.app {a b:List (Nat×List Nat)} (h:H33 a) (k:H33 b):H33 (a++b):=fun x hx=>(QJ.1 hx).elim (h x) (k x)
theorem br {t:Prop} {hs:List (Nat×List Nat)} (h:HS t B G v hs):vSliceSl G 33 (some (.int .i64 0)) none none v=some v:=by
 rcases h with ⟨rfl,-⟩ | ⟨id,rfl,-,-,h4⟩ | ⟨id,c,tl,rfl,-,h3,h4,-⟩
 ·rfl
 ·rw [Vv,show ZA 0 0 (some (.int .i64 0)) none none=some (0,0,0) from rfl,Qj,QX h4 rfl,Qj]
  simp [gate]
 ·rw [Vv,JC,XO,Qj,show Xj (some (.int .i64 0)) hs.length 0=some 0 from J3 (n:=0) (VG _),Qj,Qj,QX h3 rfl,Qj]
  simp [gate]
theorem OY (hk:k.length=32):fillL Ug [(0,1,.int .u32 (i:Nat)),(1,32,.agg (u8s k).toArray)]=some (Ji (i,k)):=by
 have ct:∀ l:List Nat,(Value.agg (u8s l).toArray).cells.toList=u8s l:=fun _=>rfl
 have e1:splice Ug 0 [Value.int .u32 (i:Nat)]=Value.int .u32 (i:Nat)::Qc 32 (.int .u8 0):=rfl
 have e2:splice (Value.int .u32 (i:Nat)::Qc 32 (.int .u8 0)) 1 (u8s k)=Ji (i,k):=by
  rw [JK _ _ _ (by rw [Qp,hk]; show 1+32≤33; decide),Qp,hk]
  simp [Ji]
 rw [XH (n:=1) rfl (by decide) rfl,show (Value.int .u32 (i:Nat)).cells.toList=[.int .u32 (i:Nat)] from rfl,e1,XH (VA hk) (by show 1+32≤33; decide) rfl,ct,e2,fillL]
structure SkInv (nm key0 pub z:List Nat) (B id e m mi:Nat) (H:List Ob) (hs:List (Nat×List Nat)) (j:Nat) (G:List Ob) (hv:Value) (L:List Nat):Prop where
 f:G[id]?=some ⟨fol nm e (m+j) (keyN nm key0 (m+j)) pub hv,true,true,true,1⟩
 h:HS True B G hv (hs++skL nm key0 m j)
 i:G[H.length]?=some ⟨[.int .u32 mi],true,true,true,1⟩
 z:G[H.length+1]?=some ⟨u8s z,true,true,true,1⟩
 o:∀ i,i<B→i≠id→G[i]?=H[i]?
 l:H.length+2≤G.length
 m:∀ i∈L,i=id∨B≤i
theorem eb {z:List Nat} {hs:List (Nat×List Nat)} {j:Nat} {L:List Nat} {ex:Env} (hn:B32 nm) (hk:B32 key0) (hp:pub.length=32) (hz:Qc 32 (Value.int .u8 0)=u8s z) (lz:z.length=32) (h33:H33 hs) (h1000:hs.length+j≤1900) (hid:id<B) (hB:B≤H.length) (hj:m+j<mi) (hmi:mi<16777216) (hex:ex=[]∨ex=[(54,.bool false)]) (h:SkInv nm key0 pub z B id e m mi H hs j G hv L) :
  ∃ G' hv' L',Q8 T H.length VO (kyS id H.length (H.length+1) G L ex)=some (.normal,kyS id H.length (H.length+1) G' L' [])∧SkInv nm key0 pub z B id e m mi H hs (j+1) G' hv' L':=by
 have hkj:=VK (nm:=nm) hk (m+j)
 have lg:=h.l
 obtain ⟨-,G1,M1,hnx,q1,q2,q3,q4⟩:=Ma (e:=e) (m:=m+j) (tl:=u8s pub++[hv]) h.f hn hkj (by omega)
 obtain ⟨K,hK⟩:∃ K,K=Kb nm (keyN nm key0 (m+j)):=⟨_,rfl⟩
 have hKb:=YL nm (keyN nm key0 (m+j))
 rw [show (nxK nm (keyN nm key0 (m+j))).take 32=Kb nm (keyN nm key0 (m+j)) from rfl,←hK] at hnx
 rw [←hK] at hKb
 have q1':G1[id]?=some ⟨fol nm e (m+j+1) (keyN nm key0 (m+j+1)) pub hv,true,true,true,1⟩:=q1
 obtain ⟨G2,hG2⟩:∃ X,X=G1++[(⟨u8s K,true,true,true,1⟩:Ob)]:=⟨_,rfl⟩
 have l2:G2.length=G1.length+1:=by rw [hG2]; simp
 have old2:∀ i,i<G1.length→G2[i]?=G1[i]? := fun i hi=>by rw [hG2,Qa hi]
 have g2k:G2[G1.length]?=some ⟨u8s K,true,true,true,1⟩:=by rw [hG2,Qe (Qk _),Qs]; rfl
 have up2:∀ i,i<G.length→i≠id→G2[i]?=G[i]? := fun i hi hne=>by rw [old2 i (by omega),q2 i hi hne]
 have hS2:HS True B G2 hv (hs++skL nm key0 m j):=h.h.ext fun i hb hi=>up2 i hi (by omega)
 have lsk:(skL nm key0 m j).length=j:=by simp [skL]
 obtain ⟨hv',G3,M3,hap,a1,a2,a3,a4,a5⟩:=O9 (x:=(m+j,K)) hS2 (h33.app (kR nm key0 m j)) hKb.len (by omega) (by rw [Qg,lsk]; omega)
 have hkj1:=VK (nm:=nm) hk (m+j+1)
 have hidl:=(Qf.1 h.f).1
 have g3:G3[id]?=some ⟨fol nm e (m+j+1) (keyN nm key0 (m+j+1)) pub hv,true,true,true,1⟩:=by rw [a4 id hid,old2 id (by omega)]; exact q1'
 refine ⟨G3.set id ⟨fol nm e (m+j+1) (keyN nm key0 (m+j+1)) pub hv',true,true,true,1⟩,hv',Qy H.length (Qy H.length (Qy H.length L M1) M3) [id],?_,⟨Qt (by omega),?_,?_,?_,fun i hi hne => ?_,?_,fun i hi => ?_⟩⟩
 rotate_left
 ·rw [Sj,←Qv,←hK]
  exact a1.ext fun i hb hi=>Qm (by omega)
 ·rw [Qm (by omega)]; exact a5 _ _ ((up2 _ (by omega) (by omega)).trans h.i) rfl
 ·rw [Qm (by omega)]; exact a5 _ _ ((up2 _ (by omega) (by omega)).trans h.z) rfl
 ·rw [Qm (Ne.symm hne),a4 i hi,up2 i (by omega) hne]; exact h.o i hi hne
 ·rw [Qo]; omega
 ·rcases Za hi with h' | h'
  ·rcases Za h' with h' | h'
   ·rcases Za h' with h' | h'
    ·exact h.m i h'
    ·exact .inl (q4 i h')
   ·exact .inr (a2 i h')
  ·exact .inl (Zc.1 h')
 have n0:(fol nm e (m+j) (keyN nm key0 (m+j)) pub hv)[33]?=some (.int .u32 (m+j:Nat)):=K6 hn.len
 have g0:=h.f
 have gi:=h.i
 have g2:=(old2 id (by omega)).trans q1'
 have h98:=KX (e:=e) (m:=m+j+1) (hv:=hv) hn.len hkj1.len hp
 have hl1:=Xw (e:=e) (m:=m+j+1) (hv:=hv) hn.len hkj1.len hp
 have hsv:=Ya (e:=e) (m:=m+j+1) (hv:=hv) (hv':=hv') hn.len hkj1.len hp
 have e1:(((m+j:Nat):Int)<(mi:Int))=True:=eq_true (by omega)
 have sk:=QO (cs:=u8s z) (v:=u8s K) (by rw [Qp,Qp,lz,hKb.len])
 have tk:Q2 32 (u8s K)=u8s K:=Q5 (by rw [Qp,hKb.len])
 have lK:=hKb.len
 have fh:=OY (i:=m+j) lK
 have lh:(Ji (m+j,K)).length=33:=Wd lK
 have fh2:fillL Ug [(0,33,.agg (Ji (m+j,K)).toArray)]=some (Ji (m+j,K)):=by
  rw [XH (C:=Ug) (o:=0) (n:=33) (v := .agg (Ji (m+j,K)).toArray) (r:=[]) lh (by decide) rfl,show (Value.agg (Ji (m+j,K)).toArray).cells.toList=Ji (m+j,K) from rfl,QO (by rw [lh]; rfl)]; rfl
 have a2':∀ o o':Ob,(G1++[o]).set G1.length o'=G1++[o']:=fun _ _=>by rw [Q4 _ _ (Qk _),Qs]; rfl
 have h2:=hG2.symm
 have ok1:∀ L:List Value,(Value.agg L.toArray).cells.toList=L:=fun _=>rfl
 have ok2:∀ L:List Value,(Value.agg L.toArray).cells.size=L.length:=fun _=>rfl
 have ok3:∀ L:List Value,okVar (Value.agg L.toArray)=true:=fun _=>rfl
 have im0:∀ L,Qy H.length L [G1.length]=L:=fun L=>QE (by simp; omega)
 obtain ⟨av,cv,hvv⟩:=a1.shape
 have c1:hv'.cells.toList=[hv']:=by rw [hvv]; rfl
 have c2:hv'.cells.size=1:=by rw [hvv]; rfl
 have c3:okVar hv'=true:=by rw [hvv]; rfl
 clear hG2 hK q1 q2 q3 q4 q1' a1 a2 a3 a4 a5 hS2 up2 old2 h hkj hkj1 hKb hvv
 generalize Ji (m+j,K)=C at *
 generalize fol nm e (m+j+1) (keyN nm key0 (m+j+1)) pub hv'=F2,fol nm e (m+j+1) (keyN nm key0 (m+j+1)) pub hv=F1,fol nm e (m+j) (keyN nm key0 (m+j)) pub hv=F0 at *
 generalize m+j=mj at *
 rcases hex with rfl | rfl
 ·simp only [kyS,VO,Q1,quiet,cW,↓pW,reduceCtorEq,seval,-Qb,hz,lz,g0,gi,n0,e1,hnx,a2',h2,g2,g2k,h98,hl1,hsv,g3,sk,tk,lK,fh,fh2,lh,hap,im0,c1,c2,c3,ok1,ok2,ok3,Kx,Qp]
 ·simp only [kyS,VO,Q1,quiet,cW,↓pW,reduceCtorEq,seval,-Qb,hz,lz,g0,gi,n0,e1,hnx,a2',h2,g2,g2k,h98,hl1,hsv,g3,sk,tk,lK,fh,fh2,lh,hap,im0,c1,c2,c3,ok1,ok2,ok3,Kx,Qp]
theorem O0 {hs:List (Nat×List Nat)} (ho:H[id]?=some ⟨fol nm e m (keyN nm key0 m) pub hv,true,true,true,1⟩) (hn:B32 nm) (hk:B32 key0) (hp:pub.length=32) (hm:m≤mi) (hmi:mi<16777216) (hd:mi-m≤500) (hS:HS True B H hv hs) (h33:H33 hs) (h500:hs.length≤500) (hid:id<B) (hB:B≤H.length) :
  ∃ H' M hv',Zb T 50 [.pointer (some ⟨id,0,none⟩),.int .u32 mi] H=some (.tuple #[.agg (u8s (Kb nm (keyN nm key0 mi))).toArray,.int .i64 0],H',M)∧H'[id]?=some ⟨fol nm e (mi+1) (keyN nm key0 (mi+1)) pub hv',true,true,true,1⟩∧HS True B H' hv' (hs++skL nm key0 m (mi-m))∧(∀ i,i<B→i≠id→H'[i]?=H[i]?)∧H.length≤H'.length∧∀ i∈M,i=id∨B≤i:=by
 have hidl:=(Qf.1 ho).1
 obtain ⟨z,hz,lz⟩:∃ z:List Nat,Qc 32 (Value.int .u8 0)=u8s z∧z.length=32:=⟨Qc 32 0,rfl,rfl⟩
 obtain ⟨d,hdd⟩:∃ d,d=mi-m:=⟨_,rfl⟩
 obtain ⟨H1,hH1⟩:∃ G,G=H++[(⟨[.int .u32 mi],true,true,true,1⟩:Ob),⟨u8s z,true,true,true,1⟩]:=⟨_,rfl⟩
 have l1:H1.length=H.length+2:=by rw [hH1]; simp
 have old1:∀ i,i<H.length→H1[i]?=H[i]? := fun i hi=>by rw [hH1,Qa hi]
 have g1i:H1[H.length]?=some ⟨[.int .u32 mi],true,true,true,1⟩:=by rw [hH1,Qe (Qk _),Qs]; rfl
 have I0:SkInv nm key0 pub z B id e m mi H hs 0 H1 hv []:=⟨(old1 _ hidl).trans ho,by rw [show skL nm key0 m 0=[] from rfl,Q6]; exact hS.ext fun i _ hi=>old1 i hi,g1i,by rw [hH1,Qe (by omega),Qq]; rfl,fun i hi _=>old1 i (by omega),by omega,by simp⟩
 obtain ⟨st,hA,G,hw,L,rfl,hI⟩:=QZ (T:=T) (base:=H.length) (id:=0) (body:=VO)
  (fun i st=>∃ G hw L ex,st=kyS id H.length (H.length+1) G L ex∧(ex=[]∨ex=[(54,.bool false)])∧SkInv nm key0 pub z B id e m mi H hs i G hw L) (Q:=fun st=>∃ G hw L,st=kyS id H.length (H.length+1) G L [(62,.bool false)]∧SkInv nm key0 pub z B id e m mi H hs d G hw L)
  d (s:=kyS id H.length (H.length+1) H1 [] [(54,.bool false)]) ⟨_,_,_,_,rfl,.inr rfl,I0⟩
  (fun j st hj hs'=>by
   obtain ⟨G,hw,L,ex,rfl,hex,hI⟩:=hs'
   obtain ⟨G',hv',L',h1,h2⟩:=eb hn hk hp hz lz h33 (by omega) hid hB (by omega) hmi hex hI
   exact ⟨_,h1,G',hv',L',[],rfl,.inl rfl,h2⟩)
  (fun st hs'=>by
   obtain ⟨G,hw,L,ex,rfl,hex,hI⟩:=hs'
   refine ⟨_,?_,G,hw,L,rfl,hI⟩
   have g0:=hI.f
   have gi:=hI.i
   have n0:(fol nm e (m+d) (keyN nm key0 (m+d)) pub hw)[33]?=some (.int .u32 (m+d:Nat)):=K6 hn.len
   have e1:(((m+d:Nat):Int)<(mi:Int))=False:=eq_false (by omega)
   clear hI
   generalize fol nm e (m+d) (keyN nm key0 (m+d)) pub hw=F0 at *
   generalize m+d=md at *
   rcases hex with rfl | rfl
   ·simp only [kyS,VO,Q1,quiet,cW,↓pW,reduceCtorEq,seval,-Qb,g0,gi,n0,e1]
   ·simp only [kyS,VO,Q1,quiet,cW,↓pW,reduceCtorEq,seval,-Qb,g0,gi,n0,e1])
 have hmd:m+d=mi:=by omega
 have hf:=hI.f
 rw [hmd] at hf
 have hkm:=VK (nm:=nm) hk mi
 obtain ⟨-,H2,M2,hnx,q1,q2,q3,q4⟩:=Ma (e:=e) (m:=mi) (tl:=u8s pub++[hw]) hf hn hkm hmi
 rw [show (nxK nm (keyN nm key0 mi)).take 32=Kb nm (keyN nm key0 mi) from rfl] at hnx
 have hKb:=YL nm (keyN nm key0 mi)
 have q1':H2[id]?=some ⟨fol nm e (mi+1) (keyN nm key0 (mi+1)) pub hw,true,true,true,1⟩:=q1
 have lg:=hI.l
 generalize Kb nm (keyN nm key0 mi)=K at *
 rw [←hdd]
 refine ⟨H2.set (H.length+1) ⟨u8s K,true,true,true,1⟩,Qy H.length (Qy H.length L [id]) M2,hw,?_,?_,?_,fun i hi hne => ?_,?_,fun i hi => ?_⟩
 rotate_left
 ·rw [Qm (by omega)]; exact q1'
 ·have h2:HS True B H2 hw (hs++skL nm key0 m d):=hI.h.ext fun i hb hi=>q2 i hi (by omega)
  refine h2.keep fun i o hb ho' hes => ?_
  have n1:i≠H.length+1:=fun e=>by
   rw [e,q2 _ (by omega) (by omega),hI.z] at ho'
   cases ho'
   rcases hes with h | h
   ·cases h
   ·have:=congrArg oL h
    rw [Qp,lz] at this
    cases this
  rw [Qm (Ne.symm n1)]; exact ho'
 ·rw [Qm (by omega),q2 i (by omega) hne]; exact hI.o i hi hne
 ·rw [Qo]; omega
 ·rcases Za hi with h | h
  ·rcases Za h with h | h
   ·exact hI.m i h
   ·exact .inl (Zc.1 h)
  ·exact .inl (q4 i h)
 have num:(fol nm e m (keyN nm key0 m) pub hv)[33]?=some (.int .u32 m):=K6 hn.len
 have g1:=(old1 id hidl).trans ho
 have h1:=hH1.symm
 have e1:((mi:Int)<(m:Int))=False:=eq_false (by omega)
 have w1:IntKind.u32.wrap ((mi:Int)-(m:Int))=((mi-m:Nat):Int):=by rw [show (mi:Int)-(m:Int)=((mi-m:Nat):Int) by omega]; exact Ge (by omega)
 have e2:((1000:Int)<((mi-m:Nat):Int))=False:=eq_false (by omega)
 have h98:=KX (e:=e) (m:=mi) (hv:=hw) hn.len hkm.len hp
 have hl:=Xw (e:=e) (m:=mi) (hv:=hw) hn.len hkm.len hp
 have hsv:=Ya (e:=e) (m:=mi) (hv:=hw) (hv':=hw) hn.len hkm.len hp
 obtain ⟨av,cv,hvv⟩:=hI.h.shape
 have lsk:(skL nm key0 m d).length=d:=by simp [skL]
 obtain ⟨n,hnn⟩:∃ n,n=(hs++skL nm key0 m d).length:=⟨_,rfl⟩
 have hn1000:n≤1000:=by rw [hnn,Qg,lsk]; omega
 have hlen:vLen false hw=some (.int .i64 (n:Nat)):=by rw [hvv,hnn]; rfl
 have w2:IntKind.i64.wrap ((n:Int)-1000)=(n:Int)-1000:=Z2 (by omega) (by omega)
 have mx:Wy true (.int .i64 0) (.int .i64 ((n:Int)-1000))=some (.int .i64 0):=by rw [PO,if_neg (by omega)]
 have mx2:(if (n:Int)-1000>0 then (n:Int)-1000 else 0)=0:=if_neg (by omega)
 have hcut:=br hI.h
 have ss:=VX hf
 have c1:hw.cells.toList=[hw]:=by rw [hvv]; rfl
 have c2:hw.cells.size=1:=by rw [hvv]; rfl
 have c3:okVar hw=true:=by rw [hvv]; rfl
 have g3:H2[H.length+1]?=some ⟨u8s z,true,true,true,1⟩:=by rw [q2 _ (by omega) (by omega)]; exact hI.z
 have g4:∀ o,(H2.set (H.length+1) o)[H.length+1]?=some o:=fun o=>Qt (by omega)
 have im:∀ L,Qy H.length L [H.length+1]=L:=fun L=>QE (by simp)
 have sp:=QO (cs:=u8s z) (v:=u8s K) (by rw [Qp,Qp,lz,hKb.len])
 have tK:Q2 32 (u8s K)=u8s K:=Q5 (by rw [Qp,hKb.len])
 have lK:=hKb.len
 have ok1:∀ L:List Value,(Value.agg L.toArray).cells.toList=L:=fun _=>rfl
 have ok2:∀ L:List Value,(Value.agg L.toArray).cells.size=L.length:=fun _=>rfl
 have ok3:∀ L:List Value,okVar (Value.agg L.toArray)=true:=fun _=>rfl
 simp only [kyS,Qw,Qr] at hA
 clear hH1 q1 q1' q2 q3 q4 hKb ho hI I0 hkm hvv hS
 generalize fol nm e mi (keyN nm key0 mi) pub hw=F2,fol nm e m (keyN nm key0 m) pub hv=F at *
 generalize mi-m=dd at *
 rw [QD (fn:=RN) rfl]
 simp only [RN,Q1,quiet,cW,↓pW,reduceCtorEq,seval,-Qb,hz,lz,h1,g1,g1i,hf,g3,g4,num,h98,hl,hsv,e1,e2,w1,w2,hlen,mx2,hcut,ss,im,sp,tK,lK,c1,c2,c3,hnx,hA,ok1,ok2,ok3,Kx,Qp]
end Go.Ev.YtomfgcgnepfmjaaGreat
namespace Go.Ev.YtomfgcgnepfmjaaGreat
open Go Go.Ev
set_option maxRecDepth 100000
variable {m mi:Nat} {nm key0:List Nat}
def heldL (nm key0:List Nat) (rd:Nat→Bool) (m:Nat):List (Nat×List Nat):=((ZQ m).filter fun j => !rd j).map fun j=>(j,Kb nm (keyN nm key0 j))
def rdN (rd:Nat→Bool) (mi:Nat):Nat→Bool:=fun j=>rd j || j==mi
theorem bu (nm key0:List Nat) (rd:Nat→Bool) (m:Nat):H33 (heldL nm key0 rd m):=fun x hx=>by
 obtain ⟨i,-,rfl⟩:=ZV.1 hx
 exact (YL _ _).len
theorem OB (nm key0:List Nat) (rd:Nat→Bool) (m:Nat):(heldL nm key0 rd m).length≤m:=by
 rw [heldL,X6]
 exact Jf (List.length_filter_le _ _) (by rw [List.length_range]; exact Qk _)
theorem bt {rd:Nat→Bool} (h:rd mi=true):∀ (j:Nat) (y:Nat×List Nat),(heldL nm key0 rd m)[j]?=some y→y.1≠mi:=fun j y hj=>by
 obtain ⟨i,hi,rfl⟩:=ZV.1 (Qz hj)
 have:=(V3.1 hi).2
 intro e
 dsimp only at e
 rw [e,h] at this
 cases this
theorem T4 (h:mi<m):ZQ m=ZQ mi++mi::Xs (mi+1) (m-(mi+1)):=by
 rw [Kt,Kt,←List.range'_succ,show m-(mi+1)+1=m-mi by omega]
 have:=List.range'_append_1 (s:=0) (m:=mi) (n:=m-mi)
 rw [QA,show mi+(m-mi)=m by omega] at this
 exact this.symm
theorem OA {rd:Nat→Bool} (h:rd mi=false) (hm:mi<m):∃ p,(heldL nm key0 rd m)[p]?=some (mi,Kb nm (keyN nm key0 mi))∧(∀ (j:Nat) (y:Nat×List Nat),j<p→(heldL nm key0 rd m)[j]?=some y→y.1≠mi)∧(heldL nm key0 rd m).eraseIdx p=heldL nm key0 (rdN rd mi) m:=by
 obtain ⟨A,hA⟩:∃ A,A=((ZQ mi).filter fun j => !rd j).map fun j=>(j,Kb nm (keyN nm key0 j)):=⟨_,rfl⟩
 obtain ⟨C,hC⟩:∃ C,C=((Xs (mi+1) (m-(mi+1))).filter fun j => !rd j).map fun j=>(j,Kb nm (keyN nm key0 j)):=⟨_,rfl⟩
 have e1:heldL nm key0 rd m=A++(mi,Kb nm (keyN nm key0 mi))::C:=by
  rw [heldL,T4 hm,Ua,List.filter_cons,if_pos (by rw [h]; rfl),Xl,Jc,hA,hC]
 have e2:heldL nm key0 (rdN rd mi) m=A++C:=by
  rw [heldL,T4 hm,Ua,List.filter_cons,if_neg (by simp [rdN]),Xl,hA,hC]
  congr 2
  ·exact Cl fun j hj=>by
    have:j<mi:=Kd.1 hj
    simp [rdN,show ¬ j=mi by omega]
  ·exact Cl fun j hj=>by
    have:mi+1≤j:=(VT.1 hj).1
    simp [rdN,show ¬ j=mi by omega]
 refine ⟨A.length,by rw [e1,Qe (Qk _),Qs]; rfl,fun j y hj hy => ?_,by rw [e1,e2,List.eraseIdx_append_of_length_le (Qk _),Qs]; rfl⟩
 rw [e1,Qa hj] at hy
 have hmem:=Qz hy
 rw [hA] at hmem
 obtain ⟨i,hi,rfl⟩:=ZV.1 hmem
 have:=Kd.1 (V3.1 hi).1
 dsimp only
 omega
theorem EE {rd:Nat→Bool} (h:∀ j,m≤j→rd j=false) (hm:m≤mi):heldL nm key0 rd m++skL nm key0 m (mi-m)=heldL nm key0 (rdN rd mi) (mi+1):=by
 have e0:ZQ (mi+1)=ZQ m++(Xs m (mi-m)++[mi]):=by
  rw [HF,←Qv,Kt,Kt]
  have:=List.range'_append_1 (s:=0) (m:=m) (n:=mi-m)
  rw [QA,show m+(mi-m)=mi by omega] at this
  rw [this]
 have e1:(ZQ m).filter (fun j => !rdN rd mi j)=(ZQ m).filter fun j => !rd j:=Cl fun j hj=>by
  have:j<m:=Kd.1 hj
  simp [rdN,show ¬ j=mi by omega]
 have e2:(Xs m (mi-m)).filter (fun j => !rdN rd mi j)=Xs m (mi-m):=List.filter_eq_self.2 fun j hj=>by
  obtain ⟨h1,h2⟩:=VT.1 hj
  simp [rdN,h j h1,show ¬ j=mi by omega]
 have e3:[mi].filter (fun j => !rdN rd mi j)=[]:=by simp [rdN]
 rw [heldL,heldL,e0,Ua,Ua,e1,e2,e3,Q6,Xl,skL,List.range'_eq_map_range,List.map_map]
 rfl
end Go.Ev.YtomfgcgnepfmjaaGreat
namespace Go.Ev.YtomfgcgnepfmjaaGreat
open Go Go.Ev
attribute [local congr] Jq J7 Jp J8 Je
set_option maxRecDepth 100000
variable {nm key0 sg:List Nat} {H0 G G2 H:List Ob} {hv fv ov:Value} {p c m e i mi:Nat} {W:List Value}
theorem Ph {ik ina is m mi B B':Nat} {v:Value} {dl tx:List Nat} {rd:Nat→Bool} (h:Msg B H ik ina is v nm e mi (Un sg (JF nm e mi++dl)) dl) (hk:B32 key0) (hs:B32 sg) (hdl:dl=msgD nm (keyN nm key0 mi) tx e mi) (htl:tx.length≤16368) (xt:∀ y∈tx,y<256) (hm:m≤400) (hmi:mi≤400) (hh:HS False B' H hv (heldL nm key0 rd m)) (hrd:∀ j,m≤j→rd j=false) :
  ∃ H' r v' c,Zb T 18 [.agg (fol nm e m (keyN nm key0 m) (pubL sg) hv).toArray,Rf ik ina is v] H=some (.tuple #[.agg r.toArray,v',.int .i64 c],H',[])∧(∀ i,i<H.length→H'[i]?=H[i]?)∧H.length≤H'.length ∧
   ((rd mi=true∧r=fol nm e m (keyN nm key0 m) (pubL sg) hv∧v'=.slice none 0 0∧c=151)∨(rd mi=false∧c=0∧OutS (fun i=>i<H.length) H' v' tx∧∃ hv',r=fol nm e (max m (mi+1)) (keyN nm key0 (max m (mi+1))) (pubL sg) hv'∧HS False H.length H' hv' (heldL nm key0 (rdN rd mi) (max m (mi+1))))):=by
 have hn:=h.lk
 have lpu:=KV sg
 have xpu:=Ay sg
 have hX:=VK (nm:=nm) hk (max m (mi+1))
 have hKb:=YL nm (keyN nm key0 mi)
 have hkm:=VK (nm:=nm) hk m
 have hdb:=AJ (key:=keyN nm key0 mi) e mi hn xt (by omega)
 rw [←hdl] at hdb
 obtain ⟨F,hF⟩:∃ X,X=fol nm e m (keyN nm key0 m) (pubL sg) hv:=⟨_,rfl⟩
 have n0:=Xw (e:=e) (m:=m) (hv:=hv) hn.len hkm.len lpu
 have r1:Q2 32 F=u8s nm:=by rw [hF]; exact DW hn.len
 have r3:Q2 32 (Zr 66 F)=u8s (pubL sg):=by rw [hF]; exact Ng hn.len hkm.len lpu
 have r4:F[32]?=some (.int .u32 e):=by rw [hF]; exact A0 hn.len
 have r6:F[98]?=some hv:=by rw [hF]; exact KX hn.len hkm.len lpu
 have r7:∀ w,F.set 98 w=fol nm e m (keyN nm key0 m) (pubL sg) w:=fun w=>by rw [hF]; exact Ya hn.len hkm.len lpu
 rw [←hF] at n0 ⊢
 obtain ⟨sg1,hsg1⟩:∃ X,X=Un sg (JF nm e mi++dl):=⟨_,rfl⟩
 obtain ⟨fo,hfo⟩:∃ o:Ob,o=⟨[.int .i64 5,.slice (some ⟨ik,0,none⟩) 1 1,.slice (some ⟨ina,0,none⟩) 2 2,.slice (some ⟨is,0,none⟩) 1 1,v],true,true,true,1⟩:=⟨_,rfl⟩
 obtain ⟨H1,hH1⟩:∃ G,G=H++[(⟨F,true,true,true,1⟩:Ob),fo,⟨Xp,true,true,true,1⟩]:=⟨_,rfl⟩
 have l1:H1.length=H.length+3:=by rw [hH1]; simp
 have at1:∀ j o,[(⟨F,true,true,true,1⟩:Ob),fo,⟨Xp,true,true,true,1⟩][j]?=some o→H1[H.length+j]?=some o:=fun j o hj=>by rw [hH1,Qe (by omega),Qq]; exact hj
 have old1:∀ i,i<H.length→H1[i]?=H[i]? := fun i hi=>by rw [hH1,Qa hi]
 have m1:=h.ext old1
 obtain ⟨v0,k1,hen,-⟩:=UY (k:=5) (m1.fr (by omega))
 have hE:frE 5 [nm].length [e,mi].length [Un sg (JF nm e mi++dl)].length dl.length=0:=by
  show (if (1=1∧2=2∧1=1∧(true=true∨dl.length=0)) then (if 16384<dl.length then (2:Int) else 0) else 110)=0
  rw [if_pos (by simp),if_neg (by omega)]
 rw [hE] at hen
 obtain ⟨H2,hH2⟩:∃ G,G=H1++k1:=⟨_,rfl⟩
 rw [←hH2] at hen
 have l2:H1.length≤H2.length:=by rw [hH2,Qg]; omega
 have old2:∀ i,i<H1.length→H2[i]?=H1[i]? := fun i hi=>by rw [hH2,Qa hi]
 have m2:=m1.ext old2
 obtain ⟨v1,k2,hfr,o1⟩:=Rq (H:=H2) (ka := .slice (some ⟨ik,0,none⟩) 1 1) (na := .slice (some ⟨ina,0,none⟩) 2 2) (sa := .slice (some ⟨is,0,none⟩) 1 1) (da:=v) (nm:=nm) (e:=e) (m:=mi) (.inr ⟨_,1,_,_,_,rfl,m2.k,by rw [Qp,hn.len]⟩) (.inr ⟨_,2,_,_,_,rfl,m2.n,rfl⟩) hn.len
 have lfr:=WC e mi hn.len
 have xfr:=UW e mi hn
 obtain ⟨H3,hH3⟩:∃ G,G=H2++k2:=⟨_,rfl⟩
 rw [←hH3] at hfr o1
 have l3:H2.length≤H3.length:=by rw [hH3,Qg]; omega
 have old3:∀ i,i<H2.length→H3[i]?=H2[i]? := fun i hi=>by rw [hH3,Qa hi]
 have m3:=m2.ext old3
 have p1:=o1.part xfr (by rw [lfr]; decide)
 obtain ⟨H4,hH4⟩:∃ G,G=H3++[(⟨[v1,v],true,true,true,1⟩:Ob)]:=⟨_,rfl⟩
 have l4:H4.length=H3.length+1:=by rw [hH4]; simp
 have old4:∀ i,i<H3.length→H4[i]?=H3[i]? := fun i hi=>by rw [hH4,Qa hi]
 have at4:H4[H3.length]?=some ⟨[v1,v],true,true,true,1⟩:=by rw [hH4,Qe (Qk _),Qs]; rfl
 have m4:=m3.ext old4
 have p2:=m3.d.part h.ld (by omega)
 obtain ⟨k3,c,hck,hsp⟩:=Fm (H:=H4) (pub:=pubL sg) (front:=frL sg (JF nm e mi++dl)) (back:=bkL sg (JF nm e mi++dl)) (pv := .slice (some ⟨H3.length,0,none⟩) 2 2) (ps:=[JF nm e mi,dl]) lpu xpu (Mb _ _) (AT _ _) (Mi _ _) (Lc _ _) (Args.arr at4 rfl (.cons (p1.extK (fun i hi=>by have:i<H3.length:=hi; show i<_; omega) old4) (.cons (p2.extK (fun i hi=>by show i<_; omega) old4) .nil)) (by decide)) (by show 2≤1000; decide) (by simp [lfr]; omega)
 rw [show [JF nm e mi,dl].flatten=JF nm e mi++dl by simp] at hsp
 have hc:=Ly hsp
 subst hc
 rw [show frL sg (JF nm e mi++dl)++bkL sg (JF nm e mi++dl)=sg1 by rw [hsg1]; rfl] at hck
 obtain ⟨H5,hH5⟩:∃ G,G=H4++k3:=⟨_,rfl⟩
 rw [←hH5] at hck
 have l5:H4.length≤H5.length:=by rw [hH5,Qg]; omega
 have old5:∀ i,i<H4.length→H5[i]?=H4[i]? := fun i hi=>by rw [hH5,Qa hi]
 have hB5:H.length≤H5.length:=by omega
 obtain ⟨H6,hH6⟩:∃ G,G=H5++[(⟨F,true,true,true,1⟩:Ob)]:=⟨_,rfl⟩
 have l6:H6.length=H5.length+1:=by rw [hH6]; simp
 have old6:∀ i,i<H5.length→H6[i]?=H5[i]? := fun i hi=>by rw [hH6,Qa hi]
 have at6:H6[H5.length]?=some ⟨F,true,true,true,1⟩:=by rw [hH6,Qe (Qk _),Qs]; rfl
 have up6:∀ i,i<H3.length→H6[i]?=H3[i]? := fun i hi=>by rw [old6 i (by omega),old5 i (by omega),old4 i hi]
 have up61:∀ i,i<H1.length→H6[i]?=H1[i]? := fun i hi=>by rw [up6 i (by omega),old3 i (by omega),old2 i hi]
 have m6:Msg B H6 ik ina is v nm e mi _ dl:=m3.ext up6
 obtain ⟨z,hz,lz⟩:∃ z:List Nat,Qc 32 (Value.int .u8 0)=u8s z∧z.length=32:=⟨Qc 32 0,rfl,rfl⟩
 have g0:∀ L:List Ob,(H++[(⟨F,true,true,true,1⟩:Ob),fo,⟨Xp,true,true,true,1⟩]++L)[H.length+1]?=some fo:=fun L=>by rw [Qv,Qe (by omega),Qq]; rfl
 have mk':=m2.k
 have mn':=m2.n
 have ms3:=m3.s
 have mn6:=m6.n
 rw [←hsg1] at ms3
 have lsg:sg1.length=64:=by rw [hsg1]; exact h.ls
 obtain ⟨av,cv,hvs⟩:=p2.shape
 obtain ⟨a1,c1,hv1⟩:=o1.shape
 rw [lfr] at hv1
 have w1:fillL [Value.slice none 0 0] [(0,1,v1)]=some [v1]:=by rw [hv1]; rfl
 have w2:fillL [Value.slice none 0 0,.slice none 0 0] [(0,1,v1),(1,1,v)]=some [v1,v]:=by rw [hv1,hvs]; rfl
 have cl5:∀ a b c d e':Value,Q2 5 [a,b,c,d,e']=[a,b,c,d,e']:=fun _ _ _ _ _=>rfl
 have tnm:Q2 32 (u8s nm)=u8s nm:=Q5 (by rw [Qp,hn.len])
 have tsg:Q2 64 (u8s sg1)=u8s sg1:=Q5 (by rw [Qp,lsg])
 have tpu:Q2 32 (u8s (pubL sg))=u8s (pubL sg):=Q5 (by rw [Qp,lpu])
 have hq:=Ve hn.len hn.len
 have q1:H1[H.length]?=some ⟨F,true,true,true,1⟩:=at1 0 _ rfl
 have q1f:H1[H.length+1]?=some fo:=at1 1 _ rfl
 have q2:H2[H.length]?=some ⟨F,true,true,true,1⟩:=(old2 _ (by omega)).trans q1
 have q2f:H2[H.length+1]?=some fo:=(old2 _ (by omega)).trans q1f
 have q3:H3[H.length]?=some ⟨F,true,true,true,1⟩:=(old3 _ (by omega)).trans q2
 have q3f:H3[H.length+1]?=some fo:=(old3 _ (by omega)).trans q2f
 have q5:H5[H.length]?=some ⟨F,true,true,true,1⟩:=by rw [old5 _ (by omega),old4 _ (by omega)]; exact q3
 have q6:H6[H.length]?=some ⟨F,true,true,true,1⟩:=(old6 _ (by omega)).trans q5
 have q6f:H6[H.length+1]?=some fo:=(up61 _ (by omega)).trans q1f
 have lzF:Xp.length=99:=rfl
 have tF:Q2 99 F=F:=Q5 n0
 have spF:splice Xp 0 F=F:=QO (by rw [n0,lzF])
 have a5:∀ o1 o:Ob,(H5++[o1]).set H5.length o=H5++[o]:=fun _ _=>by rw [Q4 _ _ (Qk _),Qs]; rfl
 have a6:=at6
 have ok1:∀ L:List Value,(Value.agg L.toArray).cells.toList=L:=fun _=>rfl
 have ok2:∀ L:List Value,(Value.agg L.toArray).cells.size=L.length:=fun _=>rfl
 have ok3:∀ L:List Value,okVar (Value.agg L.toArray)=true:=fun _=>rfl
 have im1:∀ j,Qy H.length [] [H5.length+j]=[]:=fun j=>QE (by simp; omega)
 have im0:Qy H.length [] [H5.length]=[]:=QE (by simp; omega)
 have im2:∀ j,Qy H.length [] [H.length+j]=[]:=fun j=>QE (by simp)
 have h1:=hH1.symm
 have h4:=hH4.symm
 have h6:=hH6.symm
 have hfoc:fo.cells=[.int .i64 5,.slice (some ⟨ik,0,none⟩) 1 1,.slice (some ⟨ina,0,none⟩) 2 2,.slice (some ⟨is,0,none⟩) 1 1,v]:=by rw [hfo]
 have hfol:fo.live=true:=by rw [hfo]
 have hfo':=hfo.symm
 have lnm:=hn.len
 have lfs:=hfo
 have tz:Q2 32 (u8s z)=u8s z:=Q5 (by rw [Qp,lz])
 have cls:okVar v=true∧v.cells.toList=[v]∧v.cells.size=1:=by rw [hvs]; exact ⟨rfl,rfl,rfl⟩
 obtain ⟨cv1,cv2,cv3⟩:=cls
 have hfo':=hfo.symm
 have lnm:=hn.len
 have tz:Q2 32 (u8s z)=u8s z:=Q5 (by rw [Qp,lz])
 have cls:okVar v=true∧v.cells.toList=[v]∧v.cells.size=1:=by rw [hvs]; exact ⟨rfl,rfl,rfl⟩
 obtain ⟨cv1,cv2,cv3⟩:=cls
 have h33:=bu nm key0 rd m
 have hlm:=OB nm key0 rd m
 obtain ⟨hc,lc,hcl,hS7⟩:=cE (hh.ext (G':=H6) fun i _ hi=>by rw [up61 i (by omega),old1 i hi]) h33 (by omega)
 obtain ⟨H7,hH7⟩:∃ G,G=H6++lc:=⟨_,rfl⟩
 rw [←hH7] at hcl hS7
 have l7:H6.length≤H7.length:=by rw [hH7,Qg]; omega
 have old7:∀ i,i<H6.length→H7[i]?=H6[i]? := fun i hi=>by rw [hH7,Qa hi]
 obtain ⟨ac,cc,hcv⟩:=hS7.shape
 have cc1:hc.cells.toList=[hc]:=by rw [hcv]; rfl
 have cc2:hc.cells.size=1:=by rw [hcv]; rfl
 have cc3:okVar hc=true:=by rw [hcv]; rfl
 obtain ⟨H8,hH8⟩:∃ G,G=H7.set H5.length (⟨fol nm e m (keyN nm key0 m) (pubL sg) hc,true,true,true,1⟩:Ob):=⟨_,rfl⟩
 have l8:H8.length=H7.length:=by rw [hH8,Qo]
 have old8:∀ i,i<H6.length→i≠H5.length→H8[i]?=H6[i]? := fun i hi hne=>by rw [hH8,Qm (Ne.symm hne),old7 i hi]
 have at8:H8[H5.length]?=some ⟨fol nm e m (keyN nm key0 m) (pubL sg) hc,true,true,true,1⟩:=by rw [hH8,Qt (by omega)]
 have hS8:HS True H6.length H8 hc (heldL nm key0 rd m):=hS7.ext fun i hb hi=>by rw [hH8,Qm (by omega)]
 have g7:H7[H5.length]?=some ⟨F,true,true,true,1⟩:=(old7 _ (by omega)).trans at6
 have up8:∀ i,i<H5.length→H8[i]?=H6[i]? := fun i hi=>old8 i (by omega) (by omega)
 have q8f:H8[H.length+1]?=some fo:=(up8 _ (by omega)).trans q6f
 have mn8:H8[ina]?=some ⟨[.int .u32 e,.int .u32 mi],true,true,true,1⟩:=(up8 _ (by have:=(Qf.1 m3.n).1; omega)).trans mn6
 have r7c:=r7 hc
 have h8:=hH8.symm
 have im7:∀ L,Qy H.length L [H5.length]=L:=fun L=>QE (by simp; omega)
 have keyR:(rd mi=true∧∃ l,Zb T 50 [.pointer (some ⟨H5.length,0,none⟩),.int .u32 mi] H8=some (.tuple #[.agg (u8s (Qc 32 0)).toArray,.int .i64 151],H8++l,[])) ∨
   (rd mi=false∧∃ H9 M9 hv',Zb T 50 [.pointer (some ⟨H5.length,0,none⟩),.int .u32 mi] H8=some (.tuple #[.agg (u8s (Kb nm (keyN nm key0 mi))).toArray,.int .i64 0],H9,M9)∧H9[H5.length]?=some ⟨fol nm e (max m (mi+1)) (keyN nm key0 (max m (mi+1))) (pubL sg) hv',true,true,true,1⟩∧HS False H6.length H9 hv' (heldL nm key0 (rdN rd mi) (max m (mi+1)))∧(∀ i,i<H6.length→i≠H5.length→H9[i]?=H8[i]?)∧H8.length≤H9.length∧∀ i∈M9,H5.length≤i):=by
  rcases Zq mi m with hlt | hge
  ·cases hr:rd mi with
   | true=>exact .inl ⟨rfl,bh at8 hn hkm lpu hlt hS8 h33 (by omega) (bt hr)⟩
   | false =>
    obtain ⟨p,p1',p2',p3'⟩:=OA (nm:=nm) (key0:=key0) hr hlt
    obtain ⟨H9,M9,hv',k1,k2,k3,k4,k5,k6⟩:=Oz (mi:=mi) at8 hn hkm lpu hlt hS8 h33 (by omega) (by omega) p1' p2'
    rw [p3'] at k3
    refine .inr ⟨rfl,H9,M9,hv',k1,?_,?_,k4,k5,fun i hi=>by rcases k6 i hi with h | h<;>omega⟩
    ·rw [Lp hlt]; exact k2
    ·rw [Lp hlt]; exact k3
  ·obtain ⟨H9,M9,hv',k1,k2,k3,k4,k5,k6⟩:=O0 (mi:=mi) at8 hn hk lpu hge (by omega) (by omega) hS8 h33 (by omega) (by omega) (by omega)
   rw [EE hrd hge] at k3
   refine .inr ⟨hrd mi hge,H9,M9,hv',k1,?_,?_,k4,k5,fun i hi=>by rcases k6 i hi with h | h<;>omega⟩
   ·rw [Nat.max_eq_right (by omega)]; exact k2
   ·rw [Nat.max_eq_right (by omega)]; exact k3.weak (Qk _) (fun h=>h.elim)
 rcases keyR with ⟨hr,k9,hky⟩ | ⟨hr,H9,M9,hv',hky,b1,bS,b2,b3,b4⟩
 ·obtain ⟨H10,hH10⟩:∃ G,G=H8++k9++[(⟨u8s (Qc 32 0),true,true,true,1⟩:Ob)]:=⟨_,rfl⟩
  have up10:∀ i,i<H8.length→H10[i]?=H8[i]? := fun i hi=>by rw [hH10,Qv,Qa hi]
  have l10:H8.length≤H10.length:=by rw [hH10,Qv,Qg]; omega
  refine ⟨H10.set (H.length+2) ⟨F,true,true,true,1⟩,F,.slice none 0 0,151,?_,fun i hi => ?_,?_,.inl ⟨hr,rfl,rfl,rfl⟩⟩
  rotate_left
  ·rw [Qm (by omega),up10 i (by omega),up8 i (by omega),up61 i (by omega),old1 i hi]
  ·rw [Qo]; omega
  have e8:H10[H.length]?=some ⟨F,true,true,true,1⟩:=by rw [up10 _ (by omega),up8 _ (by omega)]; exact q6
  have e8z:H10[H.length+2]?=some ⟨Xp,true,true,true,1⟩:=by rw [up10 _ (by omega),up8 _ (by omega),up61 _ (by omega)]; exact at1 2 _ rfl
  have e8s:∀ o,(H10.set (H.length+2) o)[H.length+2]?=some o:=fun o=>Qt (by omega)
  have a8:∀ o1 o:Ob,(H8++k9++[o1]).set (H8++k9).length o=H8++k9++[o]:=fun _ _=>by rw [Q4 _ _ (Qk _),Qs]; rfl
  have a8g:∀ o1:Ob,(H8++k9++[o1])[(H8++k9).length]?=some o1:=fun _=>by rw [Qe (Qk _),Qs]; rfl
  have h10:=hH10.symm
  obtain ⟨zz,hzz⟩:∃ x,x=Qc 32 0:=⟨_,rfl⟩
  have lzz:zz.length=32:=by rw [hzz]; rfl
  rw [←hzz] at hky h10
  have sz:=QO (cs:=u8s z) (v:=u8s zz) (by rw [Qp,Qp,lz,lzz])
  have im9:Qy H.length [] [(H8++k9).length]=[]:=QE (by simp; omega)
  generalize hG7:H8++k9=G7 at *
  clear hH1 hH2 hH3 hH4 hH5 hH6 hH7 hH8 hH10 hE hF hzz o1 p1 p2 m1 m2 m3 m4 m6 h hsp at1 at4 at6 at8 old1 old2 old3 old4 old5 old6 old7 old8 up6 up61 up8 up10 hsg1 hn hk hs hX hKb xpu xfr hfo hh hrd hS7 hS8 h33 hcv r7 hdl hdb hkm xt
  generalize fol nm e m (keyN nm key0 m) (pubL sg) hc=Fc at *
  generalize pubL sg=pub at *
  rw [QD (fn:=Ch) rfl]
  simp only [Ch,Q1,quiet,cW,↓pW,reduceCtorEq,seval,-Qb,r1,r3,r4,r6,r7c,hen,hfr,hck,hky,hcl,hz,lz,g0,mk',mn',ms3,mn8,w1,w2,cl5,tnm,tsg,tpu,hq,q1,q1f,q2,q2f,q3,q3f,q5,q6,q6f,q8f,lzF,tF,spF,a5,a6,g7,ok1,ok2,ok3,cc1,cc2,cc3,im0,im1,im2,im7,h1,h4,h6,h8,hfoc,hfol,hfo',lnm,lsg,lpu,tz,cv1,cv2,cv3,e8,e8z,e8s,a8,a8g,h10,lzz,sz,im9,n0,Q5,QW,Zf,ZU,Zg,Qp,Qn,Qo,ZX,Rf]
 ·obtain ⟨F',hF'⟩:∃ X,X=fol nm e (max m (mi+1)) (keyN nm key0 (max m (mi+1))) (pubL sg) hv':=⟨_,rfl⟩
  have n1:=Xw (e:=e) (m:=max m (mi+1)) (hv:=hv') hn.len hX.len lpu
  rw [←hF'] at b1 n1
  have tF':Q2 99 F'=F':=Q5 n1
  have spF':splice Xp 0 F'=F':=QO (by rw [n1,lzF])
  have hbx:=Fw hKb
  have xA:=Ce hKb
  have xB:=Mh (Kb nm (keyN nm key0 mi))
  obtain ⟨HA,hHA⟩:∃ G,G=H9++[(⟨u8s (Kb nm (keyN nm key0 mi)),true,true,true,1⟩:Ob),⟨[v1],true,true,true,1⟩]:=⟨_,rfl⟩
  have lA:HA.length=H9.length+2:=by rw [hHA]; simp
  have upA:∀ i,i<H9.length→HA[i]?=H9[i]? := fun i hi=>by rw [hHA,Qa hi]
  have upA6:∀ i,i<H5.length→HA[i]?=H6[i]? := fun i hi=>by rw [upA i (by omega),b2 i (by omega) (by omega),up8 i hi]
  have upA3:∀ i,i<H3.length→HA[i]?=H3[i]? := fun i hi=>by rw [upA6 i (by omega),up6 i hi]
  have e9v:HA[H9.length+1]?=some ⟨[v1],true,true,true,1⟩:=by rw [hHA,Qe (by omega),Qq]; rfl
  obtain ⟨di,dof,dc,dob,rfl,d1,d2,d3,d4,-⟩:=(m3.ext upA3).d
  have hdd2:dl=Y1 (WK (Kb nm (keyN nm key0 mi))) (WJ (Kb nm (keyN nm key0 mi))) tx [JF nm e mi].flatten:=by rw [hdl]; simp [msgD]
  obtain ⟨v2,HB,MB,hop,c1',c2',c3',c4'⟩:=LN (H:=HA) (id:=di) (off:=dof) (c:=dc) (d:=tx) (pv := .slice (some ⟨H9.length+1,0,none⟩) 1 1) (xs:=[v1]) (ps:=[JF nm e mi]) xA hbx.2.1 xB (by rw [←hdd2]; exact d1) xt (by omega) (.inr ⟨_,0,1,_,rfl,by omega,e9v,rfl,fun i hi=>by rw [QA]⟩) (.cons (p1.extK (fun i hi=>by have:i<H3.length:=hi; omega) upA3) .nil) (by show 1<2^50; decide) (by simp [lfr]) (by rw [←hdd2]; exact d2) (fun o ho=>by rw [d3] at ho; cases ho; exact .inr (.inr (Nat.le_of_eq d4.symm)))
  rw [←hdd2] at hop
  have uB:∀ i,i<H.length→HB[i]?=H[i]? := fun i hi=>by rw [c2' i (by omega),upA3 i (by omega),old3 i (by omega),old2 i (by omega),old1 i hi]
  refine ⟨HB.set (H.length+2) ⟨F',true,true,true,1⟩,F',v2,0,?_,fun i hi => ?_,?_,.inr ⟨hr,rfl,?_,hv',hF',?_⟩⟩
  rotate_left
  ·rw [Qm (by omega),uB i hi]
  ·rw [Qo]; omega
  ·have ho:OutS (fun i=>i<HA.length) (HB.set (H.length+2) ⟨F',true,true,true,1⟩) v2 tx:=OutS.setK (.inr c1') (by show _<_; omega) _
   exact ho.toK fun i hi h'=>hi (show i<HA.length by have:i<H.length:=h'; omega)
  ·exact (bS.ext (G':=HB.set (H.length+2) ⟨F',true,true,true,1⟩) fun i hb hi=>by rw [Qm (by omega),c2' i (by omega),upA i hi]).weak (by omega) (fun h=>h)
  have e9a:H9[H.length+1]?=some fo:=by rw [b2 _ (by omega) (by omega)]; exact q8f
  have e9b:∀ L:List Ob,(H9++L)[H.length+1]?=some fo:=fun L=>by rw [Qa (by omega)]; exact e9a
  have e9c:∀ o:Ob,(H9++[o])[H9.length]?=some o:=fun o=>by rw [Qe (Qk _),Qs]; rfl
  have a9:∀ o1 o:Ob,(H9++[o1]).set H9.length o=H9++[o]:=fun _ _=>by rw [Q4 _ _ (Qk _),Qs]; rfl
  have e10:HB[H5.length]?=some ⟨F',true,true,true,1⟩:=by rw [c2' _ (by omega),upA _ (by omega)]; exact b1
  have e10z:HB[H.length+2]?=some ⟨Xp,true,true,true,1⟩:=by rw [c2' _ (by omega),upA6 _ (by omega),up61 _ (by omega)]; exact at1 2 _ rfl
  have e10s:∀ o,(HB.set (H.length+2) o)[H.length+2]?=some o:=fun o=>Qt (by omega)
  have imM9:Qy H.length [] M9=[]:=QE fun i hi=>by have:=b4 i hi; omega
  have imMB:Qy H.length [] MB=[]:=QE fun i hi=>by have:=c4' i hi; omega
  have im9:Qy H.length [] [H9.length]=[]:=QE (by simp; omega)
  have hA:=hHA.symm
  have hbv:=hbx.2.2
  have lAB:(WK (Kb nm (keyN nm key0 mi))++WJ (Kb nm (keyN nm key0 mi))).length=44:=by rw [Qg,hbx.1,hbx.2.1]
  have lK:=hKb.len
  generalize WK (Kb nm (keyN nm key0 mi))++WJ (Kb nm (keyN nm key0 mi))=AB at *
  generalize Kb nm (keyN nm key0 mi)=K at *
  have sK:=QO (cs:=u8s z) (v:=u8s K) (by rw [Qp,Qp,lz,lK])
  have tK:Q2 32 (u8s K)=u8s K:=Q5 (by rw [Qp,lK])
  clear hH1 hH2 hH3 hH4 hH5 hH6 hH7 hH8 hHA hE hF hF' hdd2 o1 p1 p2 m1 m2 m3 m4 m6 h hsp at1 at4 at6 at8 old1 old2 old3 old4 old5 old6 old7 old8 up6 up61 up8 upA upA6 upA3 hsg1 hn hk hs hX hKb xpu xfr hfo hh hrd hS7 hS8 h33 hcv r7 hdl hdb hkm b1 b2 b3 b4 bS c1' c2' c3' c4' d1 d2 d3 d4 xA xB hbx xt uB e9v e9a
  generalize fol nm e m (keyN nm key0 m) (pubL sg) hc=Fc at *
  generalize pubL sg=pub at *
  rw [QD (fn:=Ch) rfl]
  simp only [Ch,Q1,quiet,cW,↓pW,reduceCtorEq,seval,-Qb,r1,r3,r4,r6,r7c,hen,hfr,hck,hky,hop,hbv,hcl,hz,lz,g0,mk',mn',ms3,mn8,w1,w2,cl5,tnm,tsg,tpu,hq,q1,q1f,q2,q2f,q3,q3f,q5,q6,q6f,q8f,lzF,tF,spF,tF',spF',a5,a6,g7,ok1,ok2,ok3,cc1,cc2,cc3,im0,im1,im2,im7,imM9,imMB,im9,h1,h4,h6,h8,hA,hfoc,hfol,hfo',lnm,lsg,lpu,tz,cv1,cv2,cv3,e9b,e9c,a9,e10,e10z,e10s,lAB,lK,sK,tK,n0,n1,Q5,QW,Zf,ZU,Zg,Qp,Qn,Qo,ZX,Rf]
theorem JnInv.app {nm key sg:List Nat} {tx:Nat→List Nat} {H0:List Ob} {f:Nat} {G m:List Ob} {fv:Value} {sh:List Value} {ms:List (Nat×Nat×Nat×Value)} {i k:Nat} (h:JnInv nm key sg tx H0 f G fv sh ms i k):JnInv nm key sg tx H0 f (G++m) fv sh ms i k:=by
 have hg:∀ (i:Nat) (o:Ob),G[i]?=some o→(G++m)[i]?=some o:=fun i o ho=>by rw [Qa (Qf.1 ho).1]; exact ho
 exact ⟨h.fr.keep fun i o _ ho _=>hg i o ho,h.lm,hg _ _ h.sd,hg _ _ h.so,h.ls,fun hh=>(h.sf hh).keep fun i o _ ho _=>hg i o ho,fun j x hx=>(h.mg j x hx).keep fun i o _ ho _=>hg i o ho,fun j hj=>by rw [Qa (by have:=h.lg; omega)]; exact h.lo j hj,by rw [Qg]; have:=h.lg; omega⟩
structure EnInv (nm key0 sg:List Nat) (H0:List Ob) (p:Nat) (W:List Value) (G:List Ob) (fv:Value) (ms:List (Nat×Nat×Nat×Value)) (i:Nat):Prop where
 fr:Frs (p+2) G fv i (ms.map mcell).flatten
 lm:ms.length=i
 sd:G[H0.length+1]?=some ⟨plc nm 1 i (keyN nm key0 i) (u8s sg),true,true,true,1⟩
 fa:G[p]?=some ⟨fol nm 1 i (keyN nm key0 i) (pubL sg) (.slice none 0 0),true,true,true,1⟩
 fb:G[p+1]?=some ⟨W,true,true,true,1⟩
 mg:∀ j x,ms[j]?=some x→Msg (p+2) G x.1 x.2.1 x.2.2.1 x.2.2.2 nm 1 j (msgS nm (keyN nm key0 j) sg [j] 1 j) (msgD nm (keyN nm key0 j) [j] 1 j)
 lo:∀ j,j<H0.length→G[j]?=H0[j]?
 lg:p+2≤G.length
def enS (cv ov fv:Value) (b p:Nat) (i:Int) (G:List Ob) (ex:Env):St:=⟨[(1,cv),(2,ov),(7,.pointer (some ⟨b+1,0,none⟩)),(8,.pointer (some ⟨p,0,none⟩)),(10,.pointer (some ⟨p+1,0,none⟩)),(11,fv),(12,.int .i64 i)]++ex,G,[]⟩
theorem ia {ms:List (Nat×Nat×Nat×Value)} (hn:B32 nm) (hk:B32 key0) (hs:B32 sg) (hbp:H0.length+2≤p) (hi:i<c) (c8:c≤8) (h:EnInv nm key0 sg H0 p W G fv ms i) :
  ∃ fv' G' ms',Q8 T H0.length Bm (enS (.int .i64 (c:Nat)) ov fv H0.length p i G [])=some (.normal,enS (.int .i64 (c:Nat)) ov fv' H0.length p ((i+1:Nat):Int) G' [])∧EnInv nm key0 sg H0 p W G' fv' ms' (i+1):=by
 have hki:=VK (nm:=nm) hk i
 have hX:=VK (nm:=nm) hk (i+1)
 have lpu:=KV sg
 have lg:=h.lg
 obtain ⟨G1,hG1⟩:∃ X,X=G++[(⟨u8s [i],true,true,true,1⟩:Ob)]:=⟨_,rfl⟩
 have l1:G1.length=G.length+1:=by rw [hG1]; simp
 have old1:∀ j,j<G.length→G1[j]?=G[j]? := fun j hj=>by rw [hG1,Qa hj]
 have g1t:G1[G.length]?=some ⟨u8s [i],true,true,true,1⟩:=by rw [hG1,Qe (Qk _),Qs]; rfl
 have xi:∀ y∈[i],y<256:=fun y hy=>by rw [Zc.1 hy]; omega
 obtain ⟨ik,ina,is,v,H4,hse,m4,q4,l4⟩:=Fi (H:=G1) (e:=1) (m:=i) (tv := .slice (some ⟨G.length,0,none⟩) 1 1) hn hki hs (by omega) (HPart.whole (n:=G1.length) (c:=1) (by omega) g1t xi (by show 1≤2^47-4096; decide)) (by show 1≤16368; decide)
 rw [show (nxK nm (keyN nm key0 i)).drop 32=keyN nm key0 (i+1) from rfl] at hse
 obtain ⟨S,hS⟩:∃ X,X=plc nm 1 i (keyN nm key0 i) (u8s sg):=⟨_,rfl⟩
 obtain ⟨S',hS'⟩:∃ X,X=plc nm 1 (i+1) (keyN nm key0 (i+1)) (u8s sg):=⟨_,rfl⟩
 have n0:=JD (e:=1) (m:=i) (tl:=u8s sg) hn.len hki.len
 have n1:=JD (e:=1) (m:=i+1) (tl:=u8s sg) hn.len hX.len
 rw [Qp,hs.len,←hS] at n0
 rw [Qp,hs.len,←hS'] at n1
 rw [←hS,←hS'] at hse
 obtain ⟨H6,hH6⟩:∃ X,X=(H4++[(⟨S',true,true,true,1⟩:Ob),⟨mcell (ik,ina,is,v),true,true,true,1⟩]).set (H0.length+1) ⟨S',true,true,true,1⟩:=⟨_,rfl⟩
 have l6:H6.length=H4.length+2:=by rw [hH6]; simp
 have old6:∀ j,j<H4.length→j≠H0.length+1→H6[j]?=H4[j]? := fun j hj hne=>by rw [hH6,Qm (Ne.symm hne),Qa hj]
 have up6:∀ j,j<G.length→j≠H0.length+1→H6[j]?=G[j]? := fun j hj hne=>by rw [old6 j (by omega) hne,q4 j (by omega),old1 j hj]
 have kp6:∀ j o,p+2≤j→G[j]?=some o→H6[j]?=some o:=fun j o hj ho=>(up6 j (Qf.1 ho).1 (by omega)).trans ho
 have fr6:Frs (p+2) H6 fv i (ms.map mcell).flatten:=h.fr.keep fun j o hj ho _=>kp6 j o hj ho
 obtain ⟨fv',G7,M,hap,a1,a2,a3,a4,a5⟩:=IM (q:=mcell (ik,ina,is,v)) fr6 (by omega) rfl (by omega)
 have e6:H6[H0.length+1]?=some ⟨S',true,true,true,1⟩:=by rw [hH6,Qt (by rw [Qg]; omega)]
 have g6f:H6[H4.length+1]?=some ⟨mcell (ik,ina,is,v),true,true,true,1⟩:=by rw [hH6,Qm (by omega),Qe (by omega),Qq]; rfl
 have m7:=m4.keep' (C:=p+2) (G:=G7) (by omega) fun j o hj ho he=>a5 j o ((old6 j (Qf.1 ho).1 (by omega)).trans ho) he
 have hD:=AJ (key:=keyN nm key0 i) 1 i hn xi (by show 1≤_; decide)
 obtain ⟨H8,r,v',cd,hop,q8,l8,q9⟩:=R2 (H:=G7) (key:=keyN nm key0 i) (m:=i) (tx:=[i]) m7 hki hs (by rw [hD.1]; show 1+16≤16384; decide) hD.2 (by omega) (Qk _) (fun _=>⟨rfl,by show 1≤_; decide,xi⟩)
 rcases q9 with ⟨hh,-⟩ | ⟨-,rfl,rfl,-⟩
 ·exact absurd hh (Vy _)
 rw [show (nxK nm (keyN nm key0 i)).drop 32=keyN nm key0 (i+1) from rfl] at hop
 obtain ⟨F,hF⟩:∃ X,X=fol nm 1 i (keyN nm key0 i) (pubL sg) (.slice none 0 0):=⟨_,rfl⟩
 obtain ⟨F',hF'⟩:∃ X,X=fol nm 1 (i+1) (keyN nm key0 (i+1)) (pubL sg) (.slice none 0 0):=⟨_,rfl⟩
 have w0:=Xw (e:=1) (m:=i) (hv := .slice none 0 0) hn.len hki.len lpu
 have w1:=Xw (e:=1) (m:=i+1) (hv := .slice none 0 0) hn.len hX.len lpu
 rw [←hF] at w0 hop
 rw [←hF'] at w1 hop
 have up7:∀ j,j<p+2→G7[j]?=H6[j]? := a4
 have kp:∀ j o,p+2≤j→G[j]?=some o→o.es=1→(H8.set p (⟨F',true,true,true,1⟩:Ob))[j]?=some o:=fun j o hj ho he=>by
  have h7:=a5 j o (kp6 j o hj ho) he
  rw [Qm (by omega),q8 j (Qf.1 h7).1]; exact h7
 have kpm:∀ j o,G7[j]?=some o→j≠p→(H8.set p (⟨F',true,true,true,1⟩:Ob))[j]?=some o:=fun j o ho hne=>by
  rw [Qm (Ne.symm hne),q8 j (Qf.1 ho).1]; exact ho
 refine ⟨fv',H8.set p ⟨F',true,true,true,1⟩,ms++[(ik,ina,is,v)],?_,⟨?_,by rw [Qg,h.lm]; rfl,?_,?_,?_,fun j x hx => ?_,fun j hj => ?_,by rw [Qo]; omega⟩⟩
 rotate_left
 ·have:=Frs.keep (G':=H8.set p ⟨F',true,true,true,1⟩) a1 fun j o hj ho _=>kpm j o ho (by omega)
  simpa using this
 ·rw [←hS']; exact kpm _ _ ((up7 _ (by omega)).trans e6) (by omega)
 ·rw [←hF']; exact Qt (by omega)
 ·exact kpm _ _ ((up7 _ (by omega)).trans ((up6 _ (by omega) (by omega)).trans h.fb)) (by omega)
 ·rcases Zq j ms.length with hj | hj
  ·rw [Qa hj] at hx
   exact (h.mg j x hx).keep kp
  ·have hj2:j<ms.length+1:=by have:=(Qf.1 hx).1; rwa [Qg] at this
   have hj3:j=i:=by have:=h.lm; omega
   subst hj3
   rw [Qe hj,show j-ms.length=0 by omega] at hx
   cases hx
   exact m7.keep fun j o hj ho he=>kpm j o ho (by omega)
 ·rw [Qm (by omega),q8 j (by omega),up7 j (by omega),up6 j (by omega) (by omega),h.lo j hj]
 have gS:∀ L:List Ob,(G++L)[H0.length+1]?=some ⟨S,true,true,true,1⟩:=fun L=>by rw [Qa (by omega),hS]; exact h.sd
 have g0S:G[H0.length+1]?=some ⟨S,true,true,true,1⟩:=by rw [hS]; exact h.sd
 have g4a:∀ o o':Ob,(H4++[o,o'])[H4.length]?=some o:=fun _ _=>by rw [Qe (Qk _),Qs]; rfl
 have g4b:∀ o o':Ob,(H4++[o,o'])[H0.length+1]?=some ⟨S,true,true,true,1⟩:=fun _ _=>by rw [Qa (by omega),q4 _ (by omega),old1 _ (by omega)]; exact g0S
 have a4a:∀ o o' p:Ob,(H4++[o,o']).set H4.length p=H4++[p,o']:=fun _ _ _=>by rw [Q4 _ _ (Qk _),Qs]; rfl
 have a4b:∀ o o' p:Ob,(H4++[o,o']).set (H4.length+1) p=H4++[o,p]:=fun _ _ _=>by rw [Q4 _ _ (by omega),Qq]; rfl
 have g7f:G7[H4.length+1]?=some ⟨mcell (ik,ina,is,v),true,true,true,1⟩:=a5 _ _ g6f rfl
 have g7a:G7[p]?=some ⟨F,true,true,true,1⟩:=by rw [up7 _ (by omega),up6 _ (by omega) (by omega),hF]; exact h.fa
 have g8a:H8[p]?=some ⟨F,true,true,true,1⟩:=(q8 _ (by omega)).trans g7a
 have hmc:mcell (ik,ina,is,v)=[.int .i64 5,.slice (some ⟨ik,0,none⟩) 1 1,.slice (some ⟨ina,0,none⟩) 2 2,.slice (some ⟨is,0,none⟩) 1 1,v]:=rfl
 obtain ⟨a6,c6,hvs⟩:=(m4.d.part m4.ld (by rw [hD.1]; show 1+16≤2^47-128; decide)).shape
 have fz:fillL XK [(0,5,.agg #[.int .i64 5,.slice (some ⟨ik,0,none⟩) 1 1,.slice (some ⟨ina,0,none⟩) 2 2,.slice (some ⟨is,0,none⟩) 1 1,v])]=some [.int .i64 5,.slice (some ⟨ik,0,none⟩) 1 1,.slice (some ⟨ina,0,none⟩) 2 2,.slice (some ⟨is,0,none⟩) 1 1,v]:=rfl
 have sp5:∀ (a b c d e':Value),splice XK 0 [a,b,c,d,e']=[a,b,c,d,e']:=fun _ _ _ _ _=>rfl
 have cl5:∀ a b c d e':Value,Q2 5 [a,b,c,d,e']=[a,b,c,d,e']:=fun _ _ _ _ _=>rfl
 have lzs:K8.length=98:=rfl
 have lzf:XK.length=5:=rfl
 have s1:splice K8 0 S'=S':=QO (by rw [n1,lzs])
 have s2:splice S 0 S'=S':=QO (by rw [n0,n1])
 have s3:splice F 0 F'=F':=QO (by rw [w0,w1])
 have t1:Q2 98 S=S:=Q5 n0
 have t2:Q2 98 S'=S':=Q5 n1
 have t3:Q2 99 F=F:=Q5 w0
 have e3:((i:Int)<(c:Int))=True:=eq_true (by omega)
 have wu:IntKind.u8.wrap (i:Int)=(i:Nat):=w8n (by omega)
 have fb:fillL [Value.int .u8 0] [(0,1,.int .u8 (i:Nat))]=some (u8s [i]):=rfl
 have w3:IntKind.i64.wrap ((i:Int)+1)=((i+1:Nat):Int):=Z4 (b:=1) (by omega)
 have ok1:∀ L:List Value,(Value.agg L.toArray).cells.toList=L:=fun _=>rfl
 have ok2:∀ L:List Value,(Value.agg L.toArray).cells.size=L.length:=fun _=>rfl
 have ok3:∀ L:List Value,okVar (Value.agg L.toArray)=true:=fun _=>rfl
 have im1:∀ j,Qy H0.length [] [H0.length+j]=[]:=fun j=>QE (by simp)
 have im2:∀ j,Qy H0.length [] [H4.length+j]=[]:=fun j=>QE (by simp; omega)
 have im3:Qy H0.length [] [H4.length]=[]:=QE (by simp; omega)
 have im4:Qy H0.length [] [p]=[]:=QE (by simp; omega)
 have imM:Qy H0.length [] M=[]:=QE fun j hj=>by have:=a2 j hj; omega
 have h1:=hG1.symm
 have h6:=hH6.symm
 simp only [Rf] at hse hop
 rw [hmc] at hap h6 g6f g7f
 clear hG1 hH6 m4 m7 q4 q8 a1 a2 a3 a4 a5 kp kpm kp6 up6 up7 old6 old1 fr6 hn hk hs hki hX h hS hS' hF hF' hvs hD xi g1t
 generalize i+1=i1 at *
 simp only [enS,Bm,Q1,quiet,cW,↓pW,reduceCtorEq,seval,-Qb,e3,gS,g0S,wu,fb,h1,hse,g4a,g4b,a4a,a4b,g6f,fz,sp5,cl5,lzs,lzf,s1,s2,s3,t1,t2,t3,w3,h6,hap,g7f,g7a,g8a,hop,ok1,ok2,ok3,im1,im2,im3,im4,imM,n0,n1,w0,w1]
theorem cm (hn:B32 nm) (hk:B32 key0) (hs:B32 sg) (hbp:H0.length+2≤p) (c8:c≤8) (h:EnInv nm key0 sg H0 p W G (.slice none 0 0) [] 0) :
  ∃ fv G' ms,Q8 T H0.length (.block 0 (.loop Bm)) (enS (.int .i64 (c:Nat)) ov (.slice none 0 0) H0.length p 0 G [])=some (.normal,enS (.int .i64 (c:Nat)) ov fv H0.length p c G' [(50,.bool false)])∧EnInv nm key0 sg H0 p W G' fv ms c:=by
 obtain ⟨st,hA,fv,G',ms,rfl,hJ⟩:=QZ (T:=T) (base:=H0.length) (id:=0) (body:=Bm)
  (fun i st=>∃ fv G' ms,st=enS (.int .i64 (c:Nat)) ov fv H0.length p i G' []∧EnInv nm key0 sg H0 p W G' fv ms i) (Q:=fun st=>∃ fv G' ms,st=enS (.int .i64 (c:Nat)) ov fv H0.length p c G' [(50,.bool false)]∧EnInv nm key0 sg H0 p W G' fv ms c)
  c (s:=enS (.int .i64 (c:Nat)) ov (.slice none 0 0) H0.length p ((0:Nat):Int) G []) ⟨_,_,_,rfl,h⟩
  (fun i st hi hs'=>by
   obtain ⟨fv,G',ms,rfl,hJ⟩:=hs'
   obtain ⟨fv2,G2,ms2,h1,h2⟩:=ia hn hk hs hbp hi c8 hJ
   exact ⟨_,h1,fv2,G2,ms2,rfl,h2⟩)
  (fun st hs'=>by
   obtain ⟨fv,G',ms,rfl,hJ⟩:=hs'
   have e1:((c:Int)<(c:Int))=False:=eq_false (by omega)
   refine ⟨_,?_,fv,G',ms,rfl,hJ⟩
   simp only [enS,Bm,Q1,quiet,cW,↓pW,reduceCtorEq,seval,-Qb,e1])
 exact ⟨fv,G',ms,hA,hJ⟩
structure BInv (nm key0 sg:List Nat) (p c:Nat) (G2 G:List Ob) (rd:Nat→Bool) (m:Nat) (hv:Value):Prop where
 ag:∀ j,j<G2.length→j≠p+1→G[j]?=G2[j]?
 le:G2.length≤G.length
 fb:G[p+1]?=some ⟨fol nm 1 m (keyN nm key0 m) (pubL sg) hv,true,true,true,1⟩
 hh:HS False (p+2) G hv (heldL nm key0 rd m)
 rz:∀ j,m≤j→rd j=false
 mc:m≤c
theorem dj {k:Nat} {rd:Nat→Bool} {m mi:Nat} {ms:List (Nat×Nat×Nat×Value)} {x:Nat×Nat×Nat×Value} (hn:B32 nm) (hk:B32 key0) (hs:B32 sg) (c8:c≤8) (h:EnInv nm key0 sg H0 p W G2 fv ms k) (hx:ms[mi]?=some x) (hmi:mi<c) (hb:BInv nm key0 sg p c G2 G rd m hv) :
  ∃ H5 r v' cd hv',Zb T 18 [.agg (fol nm 1 m (keyN nm key0 m) (pubL sg) hv).toArray,.agg (mcell x).toArray] G=some (.tuple #[.agg r.toArray,v',.int .i64 cd],H5,[])∧r.length=99∧H5[p+1]?=some ⟨fol nm 1 m (keyN nm key0 m) (pubL sg) hv,true,true,true,1⟩∧BInv nm key0 sg p c G2 (H5.set (p+1) ⟨r,true,true,true,1⟩) (rdN rd mi) (max m (mi+1)) hv':=by
 have lg:=h.lg
 have lpu:=KV sg
 have hm:=(h.mg mi x hx).keep (G:=G) fun j o hj ho _=>(hb.ag j (Qf.1 ho).1 (by omega)).trans ho
 have hmc:=hb.mc
 have xi:∀ y∈[mi],y<256:=fun y hy=>by rw [Zc.1 hy]; omega
 obtain ⟨H5,r,v',cd,hop,q1,q2,q3⟩:=Ph (tx:=[mi]) hm hk hs rfl (by show 1≤_; decide) xi (by omega) (by omega) hb.hh hb.rz
 have hle:=hb.le
 have hfb:=(q1 _ (by have:=(Qf.1 hb.fb).1; exact this)).trans hb.fb
 have hag:∀ o,∀ j,j<G2.length→j≠p+1→(H5.set (p+1) o)[j]?=G2[j]? := fun o j hj hne=>by rw [Qm (Ne.symm hne),q1 j (by omega),hb.ag j hj hne]
 have hlp:p+1<H5.length:=by omega
 rcases q3 with ⟨e1,rfl,-,-⟩ | ⟨e1,-,-,hv',rfl,e2⟩
 ·have hlt:mi<m:=by
   rcases Zq mi m with h' | h'
   ·exact h'
   ·rw [hb.rz mi h'] at e1; cases e1
  have hrd:rdN rd mi=rd:=by
   funext j
   unfold rdN
   by_cases hj:j=mi
   ·rw [hj,e1]; rfl
   ·simp [hj]
  refine ⟨H5,_,v',cd,hv,hop,Xw hn.len (VK hk m).len lpu,hfb,?_⟩
  rw [hrd,Lp (by omega)]
  exact ⟨hag _,by rw [Qo]; omega,Qt hlp,(hb.hh.ext (G':=H5) fun j _ hj=>q1 j hj).ext fun j hj _=>Qm (by omega),hb.rz,hb.mc⟩
 ·refine ⟨H5,_,v',cd,hv',hop,Xw hn.len (VK hk _).len lpu,hfb,⟨hag _,by rw [Qo]; omega,Qt hlp,(e2.weak (B':=p+2) (by omega) fun h=>h).ext fun j hj _=>Qm (by omega),fun j hj => ?_,by omega⟩⟩
  have:¬ j=mi:=by omega
  simp [rdN,hb.rz j (by omega),this]
def eoS (cv ov fv:Value) (b p n:Nat) (i:Int) (G:List Ob) (ex:Env):St:=⟨[(1,cv),(7,.pointer (some ⟨b+1,0,none⟩)),(8,.pointer (some ⟨p,0,none⟩)),(10,.pointer (some ⟨p+1,0,none⟩)),(11,fv),(78,ov),(79,.int .i64 (n:Nat)),(80,.int .i64 i)]++ex,G,[]⟩
theorem EN {rd:Nat→Bool} {ms:List (Nat×Nat×Nat×Value)} (h:EnInv nm key0 sg H0 p W G2 fv ms c) (hmi:mi<c) (hb:BInv nm key0 sg p c G2 G rd m hv) :
  ∃ x fid FL,ms[mi]?=some x∧fv=.slice (some ⟨fid,0,none⟩) c c∧G[fid]?=some ⟨FL,true,true,false,5⟩∧Q2 5 (Zr (mi*5) FL)=mcell x∧mi*5+5≤FL.length:=by
 obtain ⟨x,hx⟩:∃ x,ms[mi]?=some x:=⟨_,Qh (by rw [h.lm]; exact hmi)⟩
 obtain ⟨h1,h2⟩:=Rr (n:=5) (L:=ms.map mcell) (i:=mi) (P:=mcell x) (fun y hy=>by obtain ⟨z,-,rfl⟩:=ZV.1 hy; rfl) (by rw [Jo,hx]; rfl)
 rcases h.fr with ⟨h0,-⟩ | ⟨fid,rfl,f2,f3,f4,f5⟩
 ·omega
 ·exact ⟨x,fid,_,hx,rfl,(hb.ag _ (Qf.1 f3).1 (by omega)).trans f3,h1,h2⟩
theorem hU {c:Nat} {rd:Nat→Bool} {ms:List (Nat×Nat×Nat×Value)} {xs:List Int} (hn:B32 nm) (hk:B32 key0) (hs:B32 sg) (hbp:H0.length+2≤p) (c8:c≤8) (h:EnInv nm key0 sg H0 p W G2 fv ms c) (hO:Sq H0 1 (xs.map (Value.int .i64)) xs.length ov) (hi:i<xs.length) (h30:xs.length≤30) (hb:BInv nm key0 sg p c G2 G rd m hv) :
  ∃ G' rd' m' hv',Q8 T H0.length WO (eoS (.int .i64 (c:Nat)) ov fv H0.length p xs.length i G [])=some (.normal,eoS (.int .i64 (c:Nat)) ov fv H0.length p xs.length ((i+1:Nat):Int) G' [])∧BInv nm key0 sg p c G2 G' rd' m' hv':=by
 have lg:=h.lg
 obtain ⟨x,hx⟩:∃ x,xs[i]?=some x:=⟨_,Qh hi⟩
 obtain ⟨oid,oc,ow,oe,os,rfl,ho,-⟩:=hO.some_of (by omega)
 have hol:=(Qf.1 ho).1
 have g0:G[oid]?=some ⟨xs.map (Value.int .i64),true,ow,oe,os⟩:=by rw [hb.ag oid (by omega) (by omega),h.lo oid hol]; exact ho
 have hxi:(xs.map (Value.int .i64))[i]?=some (.int .i64 x):=by rw [Jo,hx]; rfl
 have e3:((i:Int)<(xs.length:Int))=True:=eq_true (by omega)
 have w3:IntKind.i64.wrap ((i:Int)+1)=((i+1:Nat):Int):=Z4 (b:=1) (by omega)
 by_cases hx0:x<0
 ·refine ⟨G,rd,m,hv,?_,hb⟩
  have e1:(0≤x)=False:=eq_false (by omega)
  generalize xs.map (Value.int .i64)=C at *
  generalize xs.length=n at *
  generalize i+1=i1 at *
  simp only [eoS,WO,Q1,quiet,cW,↓pW,reduceCtorEq,seval,-Qb,e3,g0,hxi,e1,w3]
 by_cases hxc:(c:Int)≤x
 ·refine ⟨G,rd,m,hv,?_,hb⟩
  have e1:(0≤x)=True:=eq_true (by omega)
  have e2:(x<(c:Int))=False:=eq_false (by omega)
  generalize xs.map (Value.int .i64)=C at *
  generalize xs.length=n at *
  generalize i+1=i1 at *
  simp only [eoS,WO,Q1,quiet,cW,↓pW,reduceCtorEq,seval,-Qb,e3,g0,hxi,e1,e2,w3]
 obtain ⟨mi,rfl⟩:∃ mi:Nat,x=(mi:Int):=⟨x.toNat,by omega⟩
 have hmi:mi<c:=by omega
 obtain ⟨fx,fid,FL,hfx,rfl,f1,f2,f3⟩:=EN h hmi hb
 obtain ⟨H5,r,v',cd,hv',hop,lr,hfb,hb'⟩:=dj hn hk hs c8 h hfx hmi hb
 refine ⟨_,_,_,hv',?_,hb'⟩
 have hw:=hb.fb
 have w0:=Xw (e:=1) (m:=m) (hv:=hv) hn.len (VK (nm:=nm) hk m).len (KV sg)
 have t3:=Q5 w0
 have s3:splice (fol nm 1 m (keyN nm key0 m) (pubL sg) hv) 0 r=r:=QO (by rw [lr,w0])
 have e1:((mi:Int)<(c:Int))=True:=eq_true (by omega)
 have lm5:(mcell fx).length=5:=rfl
 have ok1:∀ L:List Value,(Value.agg L.toArray).cells.toList=L:=fun _=>rfl
 have ok2:∀ L:List Value,(Value.agg L.toArray).cells.size=L.length:=fun _=>rfl
 have ok3:∀ L:List Value,okVar (Value.agg L.toArray)=true:=fun _=>rfl
 have im4:Qy H0.length [] [p+1]=[]:=QE (by simp; omega)
 clear hb hb' h hn hk hs ho
 generalize mcell fx=MC,fol nm 1 m (keyN nm key0 m) (pubL sg) hv=F,xs.map (Value.int .i64)=C at *
 generalize xs.length=n at *
 generalize i+1=i1 at *
 simp only [eoS,WO,Q1,quiet,cW,↓pW,reduceCtorEq,seval,-Qb,e3,g0,hxi,e1,w3,hw,f1,f2,f3,hop,hfb,w0,t3,s3,lr,ok1,ok2,ok3,im4]
def ecS (fv:Value) (b p:Nat) (i:Int) (G:List Ob) (ex:Env):St:=⟨[(7,.pointer (some ⟨b+1,0,none⟩)),(8,.pointer (some ⟨p,0,none⟩)),(10,.pointer (some ⟨p+1,0,none⟩)),(11,fv),(18,.int .i64 i)]++ex,G,[]⟩
theorem gZ {rd:Nat→Bool} {ms:List (Nat×Nat×Nat×Value)} (hn:B32 nm) (hk:B32 key0) (hs:B32 sg) (hbp:H0.length+2≤p) (c8:c≤8) (h:EnInv nm key0 sg H0 p W G2 fv ms c) (hmi:mi<c) (hb:BInv nm key0 sg p c G2 G rd m hv) :
  ∃ G' m' hv',Q8 T H0.length Hn (ecS fv H0.length p mi G [])=some (.normal,ecS fv H0.length p ((mi:Int)-1) G' [])∧BInv nm key0 sg p c G2 G' (rdN rd mi) m' hv':=by
 have lg:=h.lg
 obtain ⟨fx,fid,FL,hfx,rfl,f1,f2,f3⟩:=EN h hmi hb
 obtain ⟨H5,r,v',cd,hv',hop,lr,hfb,hb'⟩:=dj hn hk hs c8 h hfx hmi hb
 refine ⟨_,_,hv',?_,hb'⟩
 have hw:=hb.fb
 have w0:=Xw (e:=1) (m:=m) (hv:=hv) hn.len (VK (nm:=nm) hk m).len (KV sg)
 have t3:=Q5 w0
 have s3:splice (fol nm 1 m (keyN nm key0 m) (pubL sg) hv) 0 r=r:=QO (by rw [lr,w0])
 have e1:((mi:Int)<(c:Int))=True:=eq_true (by omega)
 have e2:((0:Int)≤(mi:Int))=True:=eq_true (by omega)
 have w3:IntKind.i64.wrap ((mi:Int)-1)=(mi:Int)-1:=Z2 (by omega) (by omega)
 have ok1:∀ L:List Value,(Value.agg L.toArray).cells.toList=L:=fun _=>rfl
 have ok2:∀ L:List Value,(Value.agg L.toArray).cells.size=L.length:=fun _=>rfl
 have ok3:∀ L:List Value,okVar (Value.agg L.toArray)=true:=fun _=>rfl
 have im4:Qy H0.length [] [p+1]=[]:=QE (by simp; omega)
 clear hb hb' h hn hk hs
 generalize mcell fx=MC,fol nm 1 m (keyN nm key0 m) (pubL sg) hv=F at *
 simp only [ecS,Hn,Q1,quiet,cW,↓pW,reduceCtorEq,seval,-Qb,e1,e2,w3,hw,f1,f2,f3,hop,hfb,w0,t3,s3,lr,ok1,ok2,ok3,im4]
theorem Tv {F:List Value} (lF:F.length=99) (h98:F[98]?=some hv) (hl:vLen false hv=some (.int .i64 0)):∃ l,Zb T 32 [.agg F.toArray] H=some (.slice none 0 0,H++l,[]):=by
 have g0:(H++[(⟨F,true,true,true,1⟩:Ob)])[H.length]?=some ⟨F,true,true,true,1⟩:=by rw [Qe (Qk _),Qs]; rfl
 obtain ⟨st,hA,rfl⟩:=QZ (T:=T) (base:=H.length) (id:=0) (body:=Cg)
  (fun i st=>st=⟨[(3,.slice none 0 0),(7,hv),(8,.int .i64 0),(9,.int .i64 0)],H++[⟨F,true,true,true,1⟩],[]⟩) (Q:=fun st=>st=⟨[(3,.slice none 0 0),(7,hv),(8,.int .i64 0),(9,.int .i64 0),(10,.bool false)],H++[⟨F,true,true,true,1⟩],[]⟩)
  0 (s:=⟨[(3,.slice none 0 0),(7,hv),(8,.int .i64 0),(9,.int .i64 0)],H++[⟨F,true,true,true,1⟩],[]⟩) rfl (fun i st hi=>absurd hi (X5 _))
  (fun st hs=>by
   subst hs
   refine ⟨_,?_,rfl⟩
   have e1:((0:Int)<0)=False:=eq_false (by decide)
   simp only [Cg,Q1,quiet,cW,↓pW,reduceCtorEq,seval,-Qb,e1])
 have ok1:∀ L:List Value,(Value.agg L.toArray).cells.toList=L:=fun _=>rfl
 have ok3:∀ L:List Value,okVar (Value.agg L.toArray)=true:=fun _=>rfl
 refine ⟨[⟨F,true,true,true,1⟩],?_⟩
 rw [QD (fn:=nJ) rfl]
 simp only [nJ,Q1,quiet,cW,↓pW,reduceCtorEq,seval,-Qb,g0,h98,hl,hA,lF,ok1,ok3]
theorem CM {key:List Nat} (h1:nm.length=32) (h2:key.length=32):Jt (Qc 66 true) (plc nm e m key []) (plc nm e m key [])=some true:=by
 have gen:∀ (n:Nat) (l:List Value),l.length=n→(∀ v∈l,∃ k x,v=.int k x)→Jt (Qc n true) l l=some true:=by
  intro n
  induction n with
  | zero=>intro l hl _; rw [Zd hl]; rfl
  | succ n ih =>
   intro l hl hx
   cases l with
   | nil=>cases hl
   | cons v l =>
    obtain ⟨k,x,rfl⟩:=hx v (by simp)
    have:=ih l (by simpa using hl) fun w hw=>hx w (XJ _ hw)
    rw [List.replicate_succ,Jt,this]
    simp [UE]
 refine gen 66 _ (JD h1 h2) fun v hv => ?_
 simp only [plc,u8s,QJ,Jw,ZV,Q6,JA,or_false] at hv
 rcases hv with ⟨x,-,rfl⟩ | rfl | rfl | ⟨x,-,rfl⟩<;>exact ⟨_,_,rfl⟩
theorem Ca {l:List Nat} {ci:Int} {xs:List Int} (ll:l.length=96) (xl:∀ y∈l,y<256) (hO:Sq H0 1 (xs.map (Value.int .i64)) xs.length ov) :
  ∃ H',Zb T 10 [.agg (u8s l).toArray,.int .i64 ci,ov] H0=some (.bool true,H',[]):=by
 have hmt:=eI
 have ok1:∀ L:List Value,(Value.agg L.toArray).cells.toList=L:=fun _=>rfl
 have ok2:∀ L:List Value,(Value.agg L.toArray).cells.size=L.length:=fun _=>rfl
 have ok3:∀ L:List Value,okVar (Value.agg L.toArray)=true:=fun _=>rfl
 have hol:vLen false ov=some (.int .i64 (xs.length:Nat)):=by obtain ⟨a,c,h⟩:=hO.shape; rw [h]; rfl
 by_cases hneg:ci<0
 ·have e2:=eq_true hneg
  apply ZL
  rw [QD (fn:=Ci) rfl]
  simp only [Ci,Q1,quiet,cW,↓pW,reduceCtorEq,seval,-Qb,hmt,e2,ok1,ok2,ok3]
  rfl
 have e2:=eq_false hneg
 by_cases hbig:(8:Int)<ci
 ·have e3:=eq_true hbig
  apply ZL
  rw [QD (fn:=Ci) rfl]
  simp only [Ci,Q1,quiet,cW,↓pW,reduceCtorEq,seval,-Qb,hmt,e2,e3,ok1,ok2,ok3]
  rfl
 have e3:=eq_false hbig
 by_cases h30:30<xs.length
 ·have e1:((30:Int)<(xs.length:Int))=True:=eq_true (by omega)
  apply ZL
  rw [QD (fn:=Ci) rfl]
  simp only [Ci,Q1,quiet,cW,↓pW,reduceCtorEq,seval,-Qb,hmt,e2,e3,hol,e1,ok1,ok2,ok3]
  rfl
 have e1:((30:Int)<(xs.length:Int))=False:=eq_false (by omega)
 obtain ⟨c,rfl⟩:∃ c:Nat,ci=(c:Int):=⟨ci.toNat,by omega⟩
 have c8:c≤8:=by omega
 obtain ⟨nm,hnm⟩:∃ x,x=l.take 32:=⟨_,rfl⟩
 obtain ⟨key,hkey⟩:∃ x,x=(l.drop 32).take 32:=⟨_,rfl⟩
 obtain ⟨sg,hsg⟩:∃ x,x=(l.drop 64).take 32:=⟨_,rfl⟩
 have hn:B32 nm:=⟨by rw [hnm,Q7,ll]; rfl,fun y hy=>xl y (by rw [hnm] at hy; exact QQ hy)⟩
 have hk:B32 key:=⟨by rw [hkey,Q7,QC,ll]; rfl,fun y hy=>xl y (by rw [hkey] at hy; exact Zw (QQ hy))⟩
 have hs:B32 sg:=⟨by rw [hsg,Q7,QC,ll]; rfl,fun y hy=>xl y (by rw [hsg] at hy; exact Zw (QQ hy))⟩
 have t0:Q2 32 (u8s l)=u8s nm:=by rw [hnm,Vl]
 have t1:Q2 32 (Zr 32 (u8s l))=u8s key:=by rw [hkey,Uj,Vl]
 have t2:Q2 32 (Zr 64 (u8s l))=u8s sg:=by rw [hsg,Uj,Vl]
 have hst:Z9 T 28 [.agg (u8s nm).toArray,.int .u32 1,.agg (u8s key).toArray,.agg (u8s sg).toArray]=_:=L5 (e:=1) hn.len hk.len hs.len
 have n0:=JD (e:=1) (m:=0) (tl:=u8s sg) hn.len hk.len
 rw [Qp,hs.len] at n0
 have lpu:=KV sg
 obtain ⟨S,hS⟩:∃ X,X=plc nm 1 0 key (u8s sg):=⟨_,rfl⟩
 rw [←hS] at n0 hst
 obtain ⟨G0,hG0⟩:∃ X,X=H0++[(⟨u8s l,true,true,true,1⟩:Ob),⟨S,true,true,true,1⟩]:=⟨_,rfl⟩
 have lG0:G0.length=H0.length+2:=by rw [hG0]; simp
 have gS0:G0[H0.length+1]?=some ⟨S,true,true,true,1⟩:=by rw [hG0,Qe (by omega),Qq]; rfl
 have hsh:=CA (H:=G0) (e:=1) (m:=0) hn.len hk.len hs
 rw [←hS] at hsh
 have F:=Sk (H:=G0) (nm:=nm) (key:=key) (sg:=sg) (pub:=pubL sg) (e:=1) (m:=0) hn.len hk.len lpu
 obtain ⟨P1,hP1⟩:∃ G,G=G0++C9 nm key sg (pubL sg) 1 0 G0.length:=⟨_,rfl⟩
 rw [←hP1] at hsh F
 obtain ⟨k1,hfo⟩:=TQ F
 obtain ⟨W,hW⟩:∃ X,X=fol nm 1 0 key (pubL sg) (.slice none 0 0):=⟨_,rfl⟩
 rw [show plc nm 1 0 key (u8s (pubL sg)++[.slice none 0 0])=fol nm 1 0 key (pubL sg) (.slice none 0 0) from rfl,←hW] at hfo
 have w0:=Xw (e:=1) (m:=0) (hv := .slice none 0 0) hn.len hk.len lpu
 rw [←hW] at w0
 obtain ⟨P2,hP2⟩:∃ G,G=P1++k1:=⟨_,rfl⟩
 rw [←hP2] at hfo
 have lP2:G0.length≤P2.length:=by rw [hP2,hP1,Qv,Qg]; omega
 have oP2:∀ j,j<G0.length→P2[j]?=G0[j]? := fun j hj=>by rw [hP2,hP1,Qv,Qa hj]
 obtain ⟨Q,hQ⟩:∃ G,G=P2++[(⟨W,true,true,true,1⟩:Ob),⟨W,true,true,true,1⟩]:=⟨_,rfl⟩
 have J0:EnInv nm key sg H0 P2.length W Q (.slice none 0 0) [] 0:=⟨.inl ⟨rfl,rfl,rfl⟩,rfl,by rw [hQ,Qa (by omega),oP2 _ (by omega),gS0,hS]; rfl,by rw [hQ,Qe (Qk _),Qs,hW]; rfl,by rw [hQ,Qe (by omega),Qq]; rfl,fun j x hx=>by simp at hx,fun j hj=>by rw [hQ,Qa (by omega),oP2 _ (by omega),hG0,Qa hj],by rw [hQ]; simp⟩
 obtain ⟨fv,G2,ms,hA,J1⟩:=cm (ov:=ov) hn hk hs (by omega) c8 J0
 have B0:BInv nm key sg P2.length c G2 G2 (fun _=>false) 0 (.slice none 0 0):=⟨fun _ _ _=>rfl,Qk _,by rw [J1.fb,hW]; rfl,.inl ⟨rfl,rfl⟩,fun _ _=>rfl,VG _⟩
 obtain ⟨st,hB,G3,rd3,m3,hv3,rfl,B3⟩:=QZ (T:=T) (base:=H0.length) (id:=2) (body:=WO)
  (fun i st=>∃ G rd m hv,st=eoS (.int .i64 (c:Nat)) ov fv H0.length P2.length xs.length i G []∧BInv nm key sg P2.length c G2 G rd m hv) (Q:=fun st=>∃ G rd m hv,st=eoS (.int .i64 (c:Nat)) ov fv H0.length P2.length xs.length xs.length G [(81,.bool false)]∧BInv nm key sg P2.length c G2 G rd m hv)
  xs.length (s:=eoS (.int .i64 (c:Nat)) ov fv H0.length P2.length xs.length ((0:Nat):Int) G2 []) ⟨_,_,_,_,rfl,B0⟩
  (fun i st hi hs'=>by
   obtain ⟨G,rd,m,hv,rfl,hb⟩:=hs'
   obtain ⟨G',rd',m',hv',h1,h2⟩:=hU hn hk hs (by omega) c8 J1 hO hi (by omega) hb
   exact ⟨_,h1,G',rd',m',hv',rfl,h2⟩)
  (fun st hs'=>by
   obtain ⟨G,rd,m,hv,rfl,hb⟩:=hs'
   have e1:((xs.length:Int)<(xs.length:Int))=False:=eq_false (by omega)
   refine ⟨_,?_,G,rd,m,hv,rfl,hb⟩
   generalize xs.length=n at *
   simp only [eoS,WO,Q1,quiet,cW,↓pW,reduceCtorEq,seval,-Qb,e1])
 obtain ⟨st,hC,G4,rd4,m4,hv4,rfl,B4,hall⟩:=QZ (T:=T) (base:=H0.length) (id:=4) (body:=Hn)
  (fun k st=>∃ G rd m hv,st=ecS fv H0.length P2.length ((c:Int)-1-(k:Nat)) G []∧BInv nm key sg P2.length c G2 G rd m hv∧∀ j,c-k≤j→j<c→rd j=true) (Q:=fun st=>∃ G rd m hv,st=ecS fv H0.length P2.length (-1) G [(105,.bool false)]∧BInv nm key sg P2.length c G2 G rd m hv∧∀ j,j<c→rd j=true)
  c (s:=ecS fv H0.length P2.length ((c:Int)-1-((0:Nat):Int)) G3 []) ⟨_,_,_,_,rfl,B3,fun j h1 h2=>by omega⟩
  (fun k st hk' hs'=>by
   obtain ⟨G,rd,m,hv,rfl,hb,hr⟩:=hs'
   obtain ⟨G',m',hv',h1,h2⟩:=gZ (mi:=c-1-k) hn hk hs (by omega) c8 J1 (by omega) hb
   rw [show (((c-1-k:Nat):Int))=(c:Int)-1-(k:Nat) by omega] at h1
   refine ⟨_,h1,G',_,m',hv',by rw [show (c:Int)-1-(k:Nat)-1=(c:Int)-1-((k+1:Nat):Int) by omega],h2,fun j h3 h4 => ?_⟩
   by_cases hj:j=c-1-k
   ·rw [rdN,hj]; simp
   ·rw [rdN,hr j (by omega) h4]; rfl)
  (fun st hs'=>by
   obtain ⟨G,rd,m,hv,rfl,hb,hr⟩:=hs'
   have e1:((0:Int) ≤ -1)=False:=eq_false (by decide)
   rw [show (c:Int)-1-(c:Nat) = -1 by omega]
   refine ⟨_,?_,G,rd,m,hv,rfl,hb,fun j hj=>hr j (by omega) hj⟩
   simp only [ecS,Hn,Q1,quiet,cW,↓pW,reduceCtorEq,seval,-Qb,e1])
 have hm4:m4=c:=by
  have h1:=B4.mc
  rcases ZB c with h0 | h0
  ·omega
  ·rcases Zq (c-1) m4 with h2 | h2
   ·omega
   ·have:=B4.rz (c-1) h2
    rw [hall (c-1) (by omega)] at this
    cases this
 subst hm4
 have hhd:heldL nm key rd4 m4=[]:=by
  rw [heldL,List.filter_eq_nil_iff.2 fun j hj=>by simp [hall j (Kd.1 hj)]]; rfl
 have hh4:=B4.hh
 rw [hhd] at hh4
 obtain ⟨ah,ch,hvh⟩:=hh4.shape
 have hl4:vLen false hv4=some (.int .i64 0):=by rw [hvh]; rfl
 have hkc:=VK (nm:=nm) hk m4
 have lg:=J1.lg
 obtain ⟨FA,hFA⟩:∃ X,X=fol nm 1 m4 (keyN nm key m4) (pubL sg) (.slice none 0 0):=⟨_,rfl⟩
 obtain ⟨FB,hFB⟩:∃ X,X=fol nm 1 m4 (keyN nm key m4) (pubL sg) hv4:=⟨_,rfl⟩
 obtain ⟨SC,hSC⟩:∃ X,X=plc nm 1 m4 (keyN nm key m4) (u8s sg):=⟨_,rfl⟩
 have ga:G4[P2.length]?=some ⟨FA,true,true,true,1⟩:=by rw [B4.ag _ (by omega) (by omega),hFA]; exact J1.fa
 have gb:G4[P2.length+1]?=some ⟨FB,true,true,true,1⟩:=by rw [hFB]; exact B4.fb
 have gs:G4[H0.length+1]?=some ⟨SC,true,true,true,1⟩:=by rw [B4.ag _ (by omega) (by omega),hSC]; exact J1.sd
 have lFA:FA.length=99:=by rw [hFA]; exact Xw hn.len hkc.len lpu
 have lFB:FB.length=99:=by rw [hFB]; exact Xw hn.len hkc.len lpu
 have lSC:SC.length=98:=by rw [hSC,JD hn.len hkc.len,Qp,hs.len]
 have l66:=JD (e:=1) (m:=m4) (tl:=[]) hn.len hkc.len
 have tA:Q2 66 FA=plc nm 1 m4 (keyN nm key m4) []:=by rw [hFA,fol,W3]; exact Jz l66
 have tB:Q2 66 FB=plc nm 1 m4 (keyN nm key m4) []:=by rw [hFB,fol,W3]; exact Jz l66
 have tC:Q2 66 SC=plc nm 1 m4 (keyN nm key m4) []:=by rw [hSC,W3]; exact Jz l66
 have hce:=CM (e:=1) (m:=m4) hn.len hkc.len
 obtain ⟨k5,hwa⟩:=Tv (H:=G4) lFA (by rw [hFA]; exact KX hn.len hkc.len lpu) (hv := .slice none 0 0) rfl
 obtain ⟨k6,hwb⟩:=Tv (H:=G4++k5) lFB (by rw [hFB]; exact KX hn.len hkc.len lpu) hl4
 have gb5:(G4++k5)[P2.length+1]?=some ⟨FB,true,true,true,1⟩:=by rw [Qa (Qf.1 gb).1]; exact gb
 have tFA:Q2 99 FA=FA:=Q5 lFA
 have tFB:Q2 99 FB=FB:=Q5 lFB
 have wc:IntKind.i64.wrap ((m4:Int)-1)=(m4:Int)-1:=Z2 (by omega) (by omega)
 have hnil:vLen false (.slice none 0 0)=some (.int .i64 0):=rfl
 have lzs:K8.length=98:=rfl
 have lzo:Xp.length=99:=rfl
 have s1:splice K8 0 S=S:=QO (by rw [n0,lzs])
 have s2:splice Xp 0 W=W:=QO (by rw [w0,lzo])
 have tS:Q2 98 S=S:=Q5 n0
 have tW:Q2 99 W=W:=Q5 w0
 have im1:∀ j,Qy H0.length [] [H0.length+j]=[]:=fun j=>QE (by simp)
 have im2:∀ j,Qy H0.length [] [P2.length+j]=[]:=fun j=>QE (by simp; omega)
 have im3:Qy H0.length [] [P2.length]=[]:=QE (by simp; omega)
 have q1:(H0++[(⟨u8s l,true,true,true,1⟩:Ob)])[H0.length]?=some ⟨u8s l,true,true,true,1⟩:=by rw [Qe (Qk _),Qs]; rfl
 have a2:∀ o1 o2 o:Ob,(H0++[o1,o2]).set (H0.length+1) o=H0++[o1,o]:=fun _ _ _=>by rw [Q4 _ _ (by omega),Qq]; rfl
 have a3:∀ o o':Ob,(P2++[o]).set P2.length o'=P2++[o']:=fun _ _=>by rw [Q4 _ _ (Qk _),Qs]; rfl
 have a3g:∀ o:Ob,(P2++[o])[P2.length]?=some o:=fun _=>by rw [Qe (Qk _),Qs]; rfl
 have a4:∀ o1 o2 o:Ob,(P2++[o1,o2]).set (P2.length+1) o=P2++[o1,o]:=fun _ _ _=>by rw [Q4 _ _ (by omega),Qq]; rfl
 have h0:=hG0.symm
 have h1:=hQ.symm
 simp only [enS,Qw,Qr] at hA
 simp only [eoS,Qw,Qr,show ((0:Nat):Int)=0 from rfl] at hB
 simp only [ecS,Qw,Qr,show ((0:Nat):Int)=0 from rfl,Int.sub_zero] at hC
 have rS:rf (.agg S.toArray)=true:=by rw [hS]; exact S6
 have lnm:=hn.len
 have lke:=hk.len
 have lsg:=hs.len
 clear J0 J1 B0 B3 B4 hall hhd hh4 F hG0 hQ hP1 hP2 hO hn hk hs hkc hS hW hFA hFB hSC xl hnm hkey hsg hvh
 generalize plc nm 1 m4 (keyN nm key m4) []=PL at *
 apply ZL
 rw [QD (fn:=Ci) rfl]
 simp only [Ci,Q1,quiet,cW,↓pW,reduceCtorEq,seval,-Qb,hmt,hol,e1,e2,e3,t0,t1,t2,hst,n0,s1,s2,lzs,lzo,q1,a2,h0,gS0,tS,hsh,hfo,a3,a3g,a4,tW,w0,h1,hA,hB,wc,hC,ga,gb,gs,gb5,tA,tB,tC,tFA,tFB,hce,hwa,hwb,hnil,lFA,lFB,lSC,im1,im2,im3,ll,lnm,lke,lsg,rS,Qp,ok1,ok2,ok3,Q5,QW,Zf,ZU,Zg,ZX]
 rfl
end Go.Ev.YtomfgcgnepfmjaaGreat
namespace Go.Ev.YtomfgcgnepfmjaaGreat
open Go Go.Ev
set_option maxRecDepth 100000
theorem chunk {es:Nat}:∀ (n:Nat) (q:List Nat),q.length=n*es→∃ kl:List (List Nat),kl.flatten=q∧kl.length=n∧∀ x∈kl,x.length=es
 | 0,q,h=>⟨[],by rw [Kp] at h; exact (Zd h).symm,rfl,by simp⟩
 | n+1,q,h=>by
  rw [VR] at h
  obtain ⟨kl,k1,k2,k3⟩:=chunk (es:=es) n (q.drop es) (by rw [QC]; omega)
  refine ⟨q.take es::kl,by rw [QI,k1,ZR],by rw [Zm,k2],fun x hx => ?_⟩
  rcases Jw.1 hx with rfl | hx
  ·rw [Q7]; omega
  ·exact k3 x hx
def Ln (w:World) (es:Nat) (v:Value) (Q:Value→Prop):Prop:=v=.slice none 0 0∨∃ a len cap l,v=.slice (some a) len cap∧LiesC w a len cap es l∧∀ v∈l,Q v
theorem Oe {w:World} {es:Nat} {v:Value} {Q:Value→Prop} (h0:0<es) (h:Ln w es v Q):∃ (pl:Option Place) (n:Nat) (l:List Value),(∀ p,pl=some p→p.block<w.heap.size∧∀ ρ,ObjRel ρ w p (obC l))∧(∀ v∈l,Q v)∧l.length=n*es ∧
  ∀ id,∃ v',oneCellB v'=true∧(∀ ρ:Pl,ρ id=pl→VRel ρ v' v)∧∀ H:List Ob,H[id]?=some (obC l)→Sq H es l n v':=by
 rcases h with rfl | ⟨a,len,cap,l,rfl,h1,h2⟩
 ·exact ⟨none,0,[],fun p hp=>(by cases hp),by simp,by simp,fun id=>⟨.slice none 0 0,rfl,fun ρ _=>.same rfl,fun H _=>.inl ⟨rfl,rfl,rfl⟩⟩⟩
 ·obtain ⟨pl,p1,p2,p3⟩:=E9 h1 h0
  exact ⟨some pl,len,l,fun p hp=>(by cases hp; exact ⟨p1,p2⟩),h2,h1.len,fun id=>⟨_,rfl,fun ρ hρ=>p3 ρ id hρ,fun H hH=>.inr ⟨id,len,_,_,_,rfl,hH,h1.len⟩⟩⟩
end Go.Ev.YtomfgcgnepfmjaaGreat
namespace Go.Ev
open Go
theorem Fs {P:Program} {H:Type} {enc:TypeId×Value→H} {w:World} {e:TypeId} {k:IntKind} (he:P.underlying e=some (.int k)):dB enc P w e 1 (fun v=>∃ x:Int,v=.int k x):=by
 intro fuel cs x h
 obtain ⟨m,rfl,_,hw⟩:=DataW.trod_int he h
 exact ⟨rfl,fun v hv=>⟨m,Zc.1 hv⟩⟩
end Go.Ev
namespace Go.Ev.YtomfgcgnepfmjaaGreat
open Go Go.Ev
theorem C6 {k:IntKind}:∀ {l:List Value},(∀ v∈l,∃ x:Int,v=.int k x)→∃ q:List Int,l=q.map (Value.int k)
 | [],_=>⟨[],rfl⟩
 | v::l,h=>by
  obtain ⟨x,rfl⟩:=h v (by simp)
  obtain ⟨q,rfl⟩:=C6 (l:=l) fun v hv=>h v (XJ _ hv)
  exact ⟨x::q,rfl⟩
theorem ID {w:World} {v:Value} (h:Ln w 1 v fun v=>∃ x:Int,v=.int .i64 x):∃ (H0:List Ob) (ρ:Pl) (v':Value) (xs:List Int),Sq H0 1 (xs.map (Value.int .i64)) xs.length v'∧RelF ρ (hp H0) w∧(∀ id,H0.length≤id→ρ id=none)∧(∀ (i:Nat) (o:Ob),H0[i]?=some o→o.own=false)∧VRel ρ v' v:=by
 obtain ⟨p0,n0,l0,a1,a2,a3,a4⟩:=Oe (by decide) h
 obtain ⟨v0,a5,a6,a7⟩:=a4 0
 obtain ⟨q0,rfl⟩:=C6 a2
 rw [X6,XX] at a3
 subst a3
 refine ⟨[obC (q0.map (Value.int .i64))],fun id=>if id<1 then (match id with | 0=>p0 | _=>none) else none,v0,q0,a7 _ rfl,?_,fun id hid => ?_,fun i o ho => ?_,a6 _ rfl⟩
 ·refine eB (obs:=[obC (q0.map (Value.int .i64))]) (g:=fun id=>match id with | 0=>p0 | _=>none) (fun i o ho => ?_) (fun i o p ho hp => ?_)
  ·rcases i with _ | i<;>first | (cases ho; rfl) | cases ho
  ·rcases i with _ | i
   ·cases ho; exact a1 p hp
   ·cases ho
 ·have:¬ id<1:=by have h':1≤id:=hid; omega
  simp only [if_neg this]
 ·rcases i with _ | i<;>first | (cases ho; rfl) | cases ho
end Go.Ev.YtomfgcgnepfmjaaGreat

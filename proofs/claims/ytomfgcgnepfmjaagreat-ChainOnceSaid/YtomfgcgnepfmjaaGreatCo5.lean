/- What the law leans on, part 5. -/
import Derived.Test.YtomfgcgnepfmjaaGreatCo4
set_option linter.unusedSimpArgs false
set_option linter.unusedVariables false
open Bool renaming false_and → Ke, false_eq_true → Zh
open Exists renaming intro → ZQ
open List renaming append_assoc → Qv, append_nil → Q9, cons_append → Qw, drop → Zw, drop_append_of_le_length → ZL, drop_drop → X4, drop_left → PU, drop_left' → Xt, drop_of_length_le → Ju, drop_zero → JT, eq_nil_of_length_eq_zero → Za, ext_getElem? → ZK, filter_append → VK, filter_congr → C7, flatten_append → Zr, flatten_cons → QK, flatten_nil → Z5, getD_eq_getElem?_getD → Qx, getElem?_append_left → Qa, getElem?_append_right → Qd, getElem?_eq_getElem → Qh, getElem?_eq_none → QI, getElem?_eq_some_iff → Qf, getElem?_map → Zq, getElem?_range → Xm, getElem?_set_ne → Qm, getElem?_set_self → Qt, getElem?_take → QS, length → Il, length_append → Qg, length_cons → Zn, length_drop → QC, length_filter_le → D7, length_map → JF, length_nil → Z3, length_replicate → Qn, length_set → Qo, length_take → Q7, map_append → JS, map_cons → Jg, map_map → Vy, map_nil → JO, mem_append → QA, mem_cons → J6, mem_cons_of_mem → Kx, mem_filter → KW, mem_map → Jc, mem_of_getElem? → Qz, mem_of_mem_drop → Zz, mem_of_mem_take → QP, mem_range → Kd, mem_range'_1 → VZ, mem_singleton → Zk, nil_append → Qr, not_mem_nil → JI, range → QX, range' → Xx, range_eq_range' → Kw, range_succ → V8, reduceReplicate → Qb, replicate → Qc, set_append_right → Q3, take → Q2, take_add_one → ZG, take_append_drop → ZV, take_append_of_le_length → ZZ, take_left' → JR, take_of_length_le → Qu, take_zero → Xc
open Nat renaming add_comm → X3, add_mul → Zy, add_one_le_iff → ZD, add_sub_cancel_left → Qs, add_zero → ZH, div_add_mod → ZP, eq_zero_or_pos → Zv, le_refl → Qk, le_trans → ZT, lt_add_one → Ui, lt_of_lt_of_le → QJ, lt_or_ge → Zm, max_eq_left → HP, max_eq_right → Ig, min_eq_left → Ze, mod_lt → Q4, mul_one → XK, not_lt_zero → Xr, pow_succ → Z4, pow_zero → Xh, sub_self → Qq, succ_mul → VX, zero_add → QB, zero_le → VM, zero_lt_one → W0, zero_mul → Ks
open Option renaming bind_some → Qj, isNone_none → Xa, some → VL
open Option.some renaming inj → Xq
namespace Go.Ev.YtomfgcgnepfmjaaGreat
open Go Go.Ev
attribute [local congr] Jq Jz Jp J2 Jb
set_option maxRecDepth 100000
variable {nm key sg:List Nat} {e m:Nat} {H:List Ob} {tl:List Value} {pv:Value}
theorem Dc {a v b:List Value} (h:v.length=a.length):splice (a++b) 0 v=v++b:=by
 rw [JL _ _ _ (by rw [Qg]; omega),QB,h,Xt rfl]; rfl
theorem T8:MD=plc (Qc 32 0) 0 0 (Qc 32 0) []:=rfl
theorem PX:KD=plc (Qc 32 0) 0 0 (Qc 32 0) []++u8s (Qc 32 0):=rfl
theorem TR {e':Nat} (h1:nm.length=32):(plc nm e m key tl).set 32 (.int .u32 e')=plc nm e' m key tl:=by
 rw [plc,Q3 _ _ (by rw [Qp,h1]; decide),Qp,h1]; rfl
theorem TQ {nm':List Nat} (h1:nm.length=32) (h2:nm'.length=32):splice (plc nm e m key tl) 0 (u8s nm')=plc nm' e m key tl:=by
 rw [plc,Dc (by rw [Qp,Qp,h1,h2])]; rfl
theorem Ly (h1:nm.length=32) (h2:key.length=32):fillL MD [(0,32,.agg (u8s nm).toArray),(32,1,.int .u32 (e:Nat)),(34,32,.agg (u8s key).toArray)]=some (plc nm e 0 key []):=by
 have c1:(Value.agg (u8s nm).toArray).cells.size=32:=by show (u8s nm).length=32; rw [Qp,h1]
 have c2:(Value.agg (u8s key).toArray).cells.size=32:=by show (u8s key).length=32; rw [Qp,h2]
 have lz:(Qc 32 0).length=32:=rfl
 have l0:=JK (e:=0) (m:=0) (tl:=[]) lz lz
 have l1:=JK (e:=0) (m:=0) (tl:=[]) h1 lz
 have l2:=JK (e:=e) (m:=0) (tl:=[]) h1 lz
 rw [T8,fillL,if_pos ⟨c1,by rw [l0]; decide,rfl⟩,show (Value.agg (u8s nm).toArray).cells.toList=u8s nm from rfl,TQ lz h1,fillL,if_pos ⟨rfl,by rw [l1]; decide,rfl⟩,show (Value.int .u32 (e:Nat)).cells.toList=[.int .u32 (e:Nat)] from rfl,Xz,TR h1,fillL,if_pos ⟨c2,by rw [l2]; decide,rfl⟩,show (Value.agg (u8s key).toArray).cells.toList=u8s key from rfl,Gb h1 lz h2,fillL]
theorem Dd (nm:List Nat) (e m:Nat) (key:List Nat) (tl:List Value):plc nm e m key tl=plc nm e m key []++tl:=by simp [plc]
theorem P6 (h1:nm.length=32) (h2:key.length=32) (h3:sg.length=32):fillL KD [(0,66,.agg (plc nm e 0 key []).toArray),(66,32,.agg (u8s sg).toArray)]=some (plc nm e 0 key (u8s sg)):=by
 have lz:(Qc 32 0).length=32:=rfl
 have l0:=JK (e:=0) (m:=0) (tl:=[]) lz lz
 have l1:=JK (e:=e) (m:=0) (tl:=[]) h1 h2
 have c1:(Value.agg (plc nm e 0 key []).toArray).cells.size=66:=l1
 have c2:(Value.agg (u8s sg).toArray).cells.size=32:=by show (u8s sg).length=32; rw [Qp,h3]
 rw [PX,fillL,if_pos ⟨c1,by rw [Qg,l0]; decide,rfl⟩,show (Value.agg (plc nm e 0 key []).toArray).cells.toList=plc nm e 0 key [] from rfl,Dc (by rw [l0,l1]),fillL,if_pos ⟨c2,by rw [Qg,l1]; decide,rfl⟩,show (Value.agg (u8s sg).toArray).cells.toList=u8s sg from rfl,JL _ _ _ (by rw [Qg,l1,Qp,Qp,h3]; decide),JR (show (plc nm e 0 key []).length=66 from l1),Ju (by rw [Qg,l1,Qp,Qp,h3]; decide),Q9,fillL,Dd nm e 0 key (u8s sg)]
theorem LZ (h1:nm.length=32) (h2:key.length=32) (h3:sg.length=32):ZB T 28 [.agg (u8s nm).toArray,.int .u32 (e:Nat),.agg (u8s key).toArray,.agg (u8s sg).toArray]=some (.agg (plc nm e 0 key (u8s sg)).toArray):=by
 have f1:=Ly (e:=e) h1 h2
 have f2:=P6 (e:=e) h1 h2 h3
 have lp:=JK (e:=e) (m:=0) (tl:=u8s sg) h1 h2
 rw [Qp,h3] at lp
 have lz:KD.length=98:=rfl
 have ok1:∀ L:List Value,(Value.agg L.toArray).cells.toList=L:=fun _=>rfl
 have ok2:∀ L:List Value,(Value.agg L.toArray).cells.size=L.length:=fun _=>rfl
 have ok3:∀ L:List Value,okVar (Value.agg L.toArray)=true:=fun _=>rfl
 have t1:Q2 32 (u8s nm)=u8s nm:=Q6 (by rw [Qp,h1])
 have t2:Q2 32 (u8s key)=u8s key:=Q6 (by rw [Qp,h2])
 have t3:Q2 32 (u8s sg)=u8s sg:=Q6 (by rw [Qp,h3])
 generalize plc nm e 0 key (u8s sg)=P,plc nm e 0 key []=P0 at *
 have tp:Q2 98 P=P:=Q6 (by omega)
 have lp':P.length=98:=by omega
 have sp:=QO (cs:=KD) (v:=P) (by rw [lp',lz])
 apply ZM (fn:=oH) rfl
 simp only [oH,Q0,quiet,cW,↓pW,reduceCtorEq,seval,-Qb,f1,f2,lp',lz,ok1,ok2,ok3,t1,t2,t3,tp,sp,h1,h2,h3,K6,Qp]
 rfl
def rL (s m:List Nat):List Nat:=Rb (pfL s++m)
def frL (s m:List Nat):List Nat:=enc (JP (num 256 (rL s m)) Ki)
def chL (front pub m:List Nat):List Nat:=Rb (front++(pub++m))
def bkL (s m:List Nat):List Nat:=mA (chL (frL s m) (pubL s) m) (scL s) (rL s m)
def Uu (s m:List Nat):List Nat:=frL s m++bkL s m
theorem Mr (s m:List Nat):(frL s m).length=32:=GR _
theorem Co (s m:List Nat):∀ y∈frL s m,y<256:=dg _
theorem Ym (s:List Nat):(pubL s).length=32:=GR _
theorem AO (s:List Nat):∀ y∈pubL s,y<256:=dg _
theorem Mx (s m:List Nat):(bkL s m).length=32:=nk
theorem LB (s m:List Nat):∀ y∈bkL s m,y<256:=mA_lt
theorem CS (s m:List Nat):(Uu s m).length=64:=by rw [Uu,Qg,Mr,Mx]
theorem eP (s m:List Nat):∀ y∈Uu s m,y<256:=by
 intro y hy
 rcases QA.1 hy with h | h
 ·exact Co s m y h
 ·exact LB s m y h
theorem PS {a b n c:Nat} {fa fb:List Nat} {e:Bool} {s:Nat} (ha:H[a]?=some ⟨u8s fa,true,true,true,1⟩) (hb:H[b]?=some ⟨u8s fb,true,true,e,s⟩) (hn:fa.length=n) (hm:fb.length=m) (h0:0<m) (hs:n+m≤1000) :
  Zu 1 1 H (.slice (some ⟨a,0,none⟩) n n) (.slice (some ⟨b,0,none⟩) m c)=some (.slice (some ⟨H.length,0,none⟩) (n+m) (n+m),H++[⟨u8s (fa++fb),true,true,false,1⟩],none,[]):=by
 have h4:liveAt H a=some ⟨u8s fa,true,true,true,1⟩:=QW ha rfl
 have k2:elemsOf H 1 m (.slice (some ⟨b,0,none⟩) m c)=some (u8s fb):=by
  simp [elemsOf,QW hb rfl,Qp,hm]
  exact Qu (by rw [Qp,hm]; exact Qk _)
 have h8:elemsOf H 1 n (.slice (some ⟨a,0,none⟩) n n)=some (u8s fa):=by
  simp [elemsOf,h4,Qp,hn]
  exact Qu (by rw [Qp,hn]; exact Qk _)
 have h1:¬ m=0:=by omega
 have h2:(n+m)*1≤2^47:=by omega
 have h7:¬ (n+m≤n):=by omega
 have k1:Go.Ev.lenV (.slice (some ⟨b,0,none⟩) m c)=some m:=rfl
 simp only [Zu,k1,k2,Qj,if_neg h1,h2,Nat.zero_lt_succ,Ui,W0,and_self,not_true_eq_false,if_false,if_true,h4,h8,if_neg h7,Ob.grown,←JE]
theorem gV {s:List Nat} {ps:List (List Nat)} (ls:s.length=32) (xs:∀ y∈s,y<256) (hp:Args H pv ps) (hn:ps.length≤1000) (hb:ps.flatten.length<2^48) :
  ∃ l,Zd T 40 [.agg (u8s s).toArray,pv] H=some (.agg (u8s (Uu s ps.flatten)).toArray,H++l,[]):=by
 have hz:Qc 32 (Value.int .u8 0)=u8s (dig 256 32 0):=rfl
 have lz:(dig 256 32 0).length=32:=rfl
 have hz64:=YQ
 have lz64:(Qc 64 0).length=64:=Qn
 have hh:=Fi ls xs
 have l1:=UX s
 have l2:=Mn s
 have l3:(scL s++pfL s).length=64:=by rw [Qg,l1,l2]
 have x3:∀ y∈scL s++pfL s,y<256:=fun y hy=>(QA.1 hy).elim (AJ s y) (mG s y)
 obtain ⟨B,hB,rB⟩:=LG
 obtain ⟨P,hP,rP⟩:=Yo rB (UX s) (AJ s)
 have hE:=GQ rP
 rw [show enc (JP (num 256 (scL s)) Ki)=pubL s from rfl] at hE
 have lA:=Ym s
 obtain ⟨G1,hG1⟩:∃ X,X=H++[(⟨u8s s,true,true,true,1⟩:Ob),⟨u8s (Qc 64 0),true,true,true,1⟩,⟨u8s (scL s++pfL s),true,true,true,1⟩,⟨u8s (pubL s),true,true,true,1⟩,⟨[.slice (some ⟨H.length+2,32,none⟩) 32 32],true,true,true,1⟩]:=⟨_,rfl⟩
 have lG1:G1.length=H.length+5:=by rw [hG1]; simp
 have gz:G1[H.length+1]?=some ⟨u8s (Qc 64 0),true,true,true,1⟩:=by rw [hG1,Qd (by omega),Qs]; rfl
 have gh:G1[H.length+2]?=some ⟨u8s (scL s++pfL s),true,true,true,1⟩:=by rw [hG1,Qd (by omega),Qs]; rfl
 have gA:G1[H.length+3]?=some ⟨u8s (pubL s),true,true,true,1⟩:=by rw [hG1,Qd (by omega),Qs]; rfl
 have ga:G1[H.length+4]?=some ⟨[.slice (some ⟨H.length+2,32,none⟩) 32 32],true,true,true,1⟩:=by rw [hG1,Qd (by omega),Qs]; rfl
 have hp1:Args G1 pv ps:=by rw [hG1]; exact hp.app
 have part1:HPart (LtN G1.length) G1 (.slice (some ⟨H.length+2,32,none⟩) 32 32) (pfL s):=by
  have:=HPart.arr (n:=G1.length) (off:=32) (m:=32) (c:=32) (by omega) gh x3 (by rw [l3]; decide) (by decide)
  rwa [ZL (by omega),Ju (by omega),Qr,Qu (by omega)] at this
 obtain ⟨v1,k1,ha1,hA1⟩:=UN (n:=1) ga rfl (.cons part1 .nil) hp1 (by decide) hn
 obtain ⟨k2,hr⟩:=YR hA1 (by rw [Zr,QK,Z5,Q9,Qg,l2]; omega)
 rw [Zr,QK,Z5,Q9,show Rb (pfL s++ps.flatten)=rL s ps.flatten from rfl] at hr
 have lr:(rL s ps.flatten).length=32:=Gv
 obtain ⟨G2,hG2⟩:∃ X,X=G1++(k1++k2):=⟨_,rfl⟩
 have lG2:G1.length≤G2.length:=by rw [hG2]; simp
 obtain ⟨P2,hP2,rP2⟩:=Yo rB lr Ml
 have hE2:=GQ rP2
 rw [show enc (JP (num 256 (rL s ps.flatten)) Ki)=frL s ps.flatten from rfl] at hE2
 have lF:=Mr s ps.flatten
 obtain ⟨G3,hG3⟩:∃ X,X=G2++[(⟨u8s (rL s ps.flatten),true,true,true,1⟩:Ob),⟨u8s (frL s ps.flatten),true,true,true,1⟩,⟨[.slice (some ⟨G2.length+1,0,none⟩) 32 32,.slice (some ⟨H.length+3,0,none⟩) 32 32],true,true,true,1⟩]:=⟨_,rfl⟩
 have lG3:G3.length=G2.length+3:=by rw [hG3]; simp
 have up13:∀ i,i<G1.length→G3[i]?=G1[i]? := fun i hi=>by rw [hG3,Qa (by omega),hG2,Qa hi]
 have hr3:G3[G2.length]?=some ⟨u8s (rL s ps.flatten),true,true,true,1⟩:=by rw [hG3,Qd (Qk _),Qq]; rfl
 have hf3:G3[G2.length+1]?=some ⟨u8s (frL s ps.flatten),true,true,true,1⟩:=by rw [hG3,Qd (by omega),Qs]; rfl
 have harr3:G3[G2.length+2]?=some ⟨[.slice (some ⟨G2.length+1,0,none⟩) 32 32,.slice (some ⟨H.length+3,0,none⟩) 32 32],true,true,true,1⟩:=by rw [hG3,Qd (by omega),Qs]; rfl
 have hp3:Args G3 pv ps:=hp1.ext up13 (by omega)
 have partF:HPart (LtN G3.length) G3 (.slice (some ⟨G2.length+1,0,none⟩) 32 32) (frL s ps.flatten):=by
  have:=HPart.whole (n:=G3.length) (c:=32) (by omega) hf3 (Co s _) (by rw [lF]; decide)
  rwa [lF] at this
 have partA:HPart (LtN G3.length) G3 (.slice (some ⟨H.length+3,0,none⟩) 32 32) (pubL s):=by
  have:=HPart.whole (n:=G3.length) (c:=32) (by omega) ((up13 _ (by omega)).trans gA) (AO s) (by rw [lA]; decide)
  rwa [lA] at this
 obtain ⟨v3,k3,ha3,hA3⟩:=UN (n:=2) harr3 rfl (.cons partF (.cons partA .nil)) hp3 (by decide) hn
 obtain ⟨k4,hk⟩:=YR hA3 (by rw [Zr,QK,QK,Z5,Q9,Qg,Qg,lF,lA]; omega)
 rw [Zr,QK,QK,Z5,Q9,Qv,show Rb (frL s ps.flatten++(pubL s++ps.flatten))=chL (frL s ps.flatten) (pubL s) ps.flatten from rfl] at hk
 have lk:(chL (frL s ps.flatten) (pubL s) ps.flatten).length=32:=Gv
 obtain ⟨G4,hG4⟩:∃ X,X=G3++(k3++k4):=⟨_,rfl⟩
 have lG4:G3.length≤G4.length:=by rw [hG4]; simp
 have up34:∀ i,i<G3.length→G4[i]?=G3[i]? := fun i hi=>by rw [hG4,Qa hi]
 obtain ⟨q,hm⟩:=OL lk l1 lr Ml (AJ s) Ml
 have hmv:=GK hm
 rw [show mA (chL (frL s ps.flatten) (pubL s) ps.flatten) (scL s) (rL s ps.flatten)=bkL s ps.flatten from rfl] at hmv
 have lB:=Mx s ps.flatten
 obtain ⟨G5,hG5⟩:∃ X,X=G4++[(⟨u8s (chL (frL s ps.flatten) (pubL s) ps.flatten),true,true,true,1⟩:Ob),⟨u8s (bkL s ps.flatten),true,true,true,1⟩]:=⟨_,rfl⟩
 have lG5:G5.length=G4.length+2:=by rw [hG5]; simp
 have hf5:G5[G2.length+1]?=some ⟨u8s (frL s ps.flatten),true,true,true,1⟩:=by rw [hG5,Qa (by omega),up34 _ (by omega)]; exact hf3
 have hb5:G5[G4.length+1]?=some ⟨u8s (bkL s ps.flatten),true,true,true,1⟩:=by rw [hG5,Qd (by omega),Qs]; rfl
 have hap:=PS (c:=32) hf5 hb5 lF lB (by decide) (by decide)
 rw [show frL s ps.flatten++bkL s ps.flatten=Uu s ps.flatten from rfl] at hap
 have lS:=CS s ps.flatten
 have g4h:∀ l:List Ob,(G4++l)[H.length+2]?=some ⟨u8s (scL s++pfL s),true,true,true,1⟩:=fun l=>by rw [Qa (by omega),up34 _ (by omega),up13 _ (by omega)]; exact gh
 have g4r:∀ l:List Ob,(G4++l)[G2.length]?=some ⟨u8s (rL s ps.flatten),true,true,true,1⟩:=fun l=>by rw [Qa (by omega),up34 _ (by omega)]; exact hr3
 have g5z:∀ l:List Ob,(G5++l)[H.length+1]?=some ⟨u8s (Qc 64 0),true,true,true,1⟩:=fun l=>by rw [Qa (by omega),hG5,Qa (by omega),up34 _ (by omega),up13 _ (by omega)]; exact gz
 have hfr:∀ i,i<H.length→((G5++[(⟨u8s (Uu s ps.flatten),true,true,false,1⟩:Ob)]).set (H.length+1) (⟨u8s (Uu s ps.flatten),true,true,true,1⟩:Ob))[i]?=H[i]? := fun i hi=>by
  rw [Qm (by omega),Qa (by omega),hG5,Qa (by omega),up34 _ (by omega),up13 _ (by omega),hG1,Qa hi]
 obtain ⟨l,hl⟩:=XG (H:=H) (by rw [Qo,Qg]; omega) hfr
 refine ⟨l,?_⟩
 rw [←hl]
 have g6:∀ o:Ob,((G5++[(⟨u8s (Uu s ps.flatten),true,true,false,1⟩:Ob)]).set (H.length+1) o)[H.length+1]?=some o:=fun o=>Qt (by rw [Qg]; omega)
 have f1:fillL [Value.slice none 0 0] [(0,1,.slice (some ⟨H.length+2,32,none⟩) 32 32)]=some [.slice (some ⟨H.length+2,32,none⟩) 32 32]:=rfl
 have f2:fillL [Value.slice none 0 0,.slice none 0 0] [(0,1,.slice (some ⟨G2.length+1,0,none⟩) 32 32),(1,1,.slice (some ⟨H.length+3,0,none⟩) 32 32)]=some [.slice (some ⟨G2.length+1,0,none⟩) 32 32,.slice (some ⟨H.length+3,0,none⟩) 32 32]:=rfl
 have t1:Q2 32 (u8s (scL s++pfL s))=u8s (scL s):=by rw [Vq,ZZ (by omega),Qu (by omega)]
 have F1:H++[(⟨u8s s,true,true,true,1⟩:Ob),⟨u8s (Qc 64 0),true,true,true,1⟩,⟨u8s (scL s++pfL s),true,true,true,1⟩,⟨u8s (pubL s),true,true,true,1⟩,⟨[.slice (some ⟨H.length+2,32,none⟩) 32 32],true,true,true,1⟩]=G1:=hG1.symm
 have F2:G1++(k1++k2)=G2:=hG2.symm
 have F3:G2++[(⟨u8s (rL s ps.flatten),true,true,true,1⟩:Ob),⟨u8s (frL s ps.flatten),true,true,true,1⟩,⟨[.slice (some ⟨G2.length+1,0,none⟩) 32 32,.slice (some ⟨H.length+3,0,none⟩) 32 32],true,true,true,1⟩]=G3:=hG3.symm
 have F4:G3++(k3++k4)=G4:=hG4.symm
 have F5:G4++[(⟨u8s (chL (frL s ps.flatten) (pubL s) ps.flatten),true,true,true,1⟩:Ob),⟨u8s (bkL s ps.flatten),true,true,true,1⟩]=G5:=hG5.symm
 have im1:Qy H.length [] [G2.length]=[]:=QD (by simp; omega)
 have im2:Qy H.length [] [G2.length+1]=[]:=QD (by simp; omega)
 have im3:Qy H.length [] [G4.length]=[]:=QD (by simp; omega)
 have im4:Qy H.length [] [G4.length+1]=[]:=QD (by simp; omega)
 have ls1:[Value.slice (some ⟨H.length+2,32,none⟩) 32 32].length=1:=rfl
 clear hG1 hG2 hG3 hG4 hG5 hl hfr hm hA1 hA3 partF partA part1
 rw [Qv] at hr hk
 generalize Uu s ps.flatten=S,bkL s ps.flatten=Bk,chL (frL s ps.flatten) (pubL s) ps.flatten=Ck at *
 generalize frL s ps.flatten=Fr,rL s ps.flatten=R,pubL s=A,scL s++pfL s=Hv at *
 generalize scL s=Sc,dig 256 32 0=Z,Qc 64 0=Z64 at *
 rw [QE (fn:=pz) rfl]
 simp only [pz,Q0,quiet,cW,↓pW,reduceCtorEq,seval,-Qb,hz,hz64,hh,hB,hP,hE,f1,F1,ha1,hr,F2,hP2,hE2,f2,F3,ha3,hk,F4,g4h,g4r,t1,hmv,F5,hap,g5z,g6,im1,im2,im3,im4,QY,Zf,ZY,Zg,Qp,ls,lz,lz64,l1,l3,lA,lr,lF,lk,lB,lS,Q6,Qn,Ja]
def NS (pub front back m:List Nat) (c:Int):Prop :=
 ((∀ A,enc A≠pub)∧c=60)∨∃ A,enc A=pub ∧
  (((JP 8 A=K9∨¬ num 256 back<ell)∧c=70)∨(JP 8 A≠K9∧num 256 back<ell ∧
   (((∀ R,enc R≠front)∧c=70)∨∃ R,enc R=front∧c=if XU (JP (num 256 back) Ki) (JP (num 256 (chL front pub m)) A.neg)=R then 0 else 70)))
theorem Sy {k l:List Nat} (lk:k.length=32) (ll:l.length=32):vEq (some (Qc 32 true)) true (.agg (u8s k).toArray) (.agg (u8s l).toArray)=some (.bool (!(k==l))):=by
 rw [CJ,Vj lk ll]
 rfl
theorem FJ {pub front back:List Nat} {ps:List (List Nat)} (lp:pub.length=32) (xp:∀ y∈pub,y<256) (lf:front.length=32) (xf:∀ y∈front,y<256) (lb:back.length=32) (xb:∀ y∈back,y<256) (hp:Args H pv ps) (hn:ps.length≤1000) (hb:ps.flatten.length<2^48) :
  ∃ l c,Zd T 25 [.agg (u8s pub).toArray,.agg (u8s (front++back)).toArray,pv] H=some (.int .i64 c,H++l,[])∧NS pub front back ps.flatten c:=by
 have hz:Qc 32 (Value.int .u8 0)=u8s (dig 256 32 0):=rfl
 have lz:(dig 256 32 0).length=32:=rfl
 have hz20:∃ O,Qc 20 (Value.int .u64 0)=ns .u64 O∧O.length=20:=⟨Qc 20 0,rfl,rfl⟩
 obtain ⟨O,hz20,lO⟩:=hz20
 have rft:∀ (r:List Nat) (c:Int),rf (Value.tuple #[eV r,.int .i64 c])=true:=fun r c=>AK (a:=eV r) (b := .int .i64 c) (Ja r) rfl
 have lS:(front++back).length=64:=by rw [Qg,lf,lb]
 have t1:Q2 32 (u8s (front++back))=u8s front:=by rw [Vq,ZZ (by omega),Qu (by omega)]
 have t2:Q2 32 (Zw 32 (u8s (front++back)))=u8s back:=by rw [Uq,ZL (by omega),Ju (by omega),Qr,Vq,Qu (by omega)]
 rcases FC lp xp with ⟨A,a,hA,rA,eA⟩ | ⟨A,hA,lA,hno⟩
 ·have p1:=rA.len
  have ht:=mn rA
  obtain ⟨qc,hcn⟩:=Cx lb xb
  have hcv:=GK hcn
  unfold PF at hA
  by_cases htiny:JP 8 a=K9
  ·rw [decide_eq_true htiny] at ht
   have hx:∃ l,Zd T 25 [.agg (u8s pub).toArray,.agg (u8s (front++back)).toArray,pv] H=some (.int .i64 70,H++l,[]):=by
    generalize front++back=S at *
    generalize dig 256 32 0=Z at *
    apply ZQ
    rw [QE (fn:=D3) rfl]
    simp only [D3,Q0,quiet,cW,↓pW,reduceCtorEq,seval,-Qb,hz,hz20,hA,t1,t2,ht, QY,Zf,ZY,Zg,QQ,Qp,lp,lf,lb,lS,lz,lO,p1,Q6,Qn,rft,Ja]
    rfl
   obtain ⟨l,hx⟩:=hx
   exact ⟨l,70,hx,.inr ⟨a,eA,.inl ⟨.inl htiny,rfl⟩⟩⟩
  ·rw [decide_eq_false htiny] at ht
   by_cases hc:num 256 back<ell
   ·rw [decide_eq_true hc] at hcv
    rcases FC lf xf with ⟨R,r,hR,rR,eR⟩ | ⟨R,hR,lR,hnR⟩
    ·have p2:=rR.len
     unfold PF at hR
     obtain ⟨G1,hG1⟩:∃ X,X=H++[(⟨u8s pub,true,true,true,1⟩:Ob),⟨u8s (front++back),true,true,true,1⟩,⟨ns .u64 A,true,true,true,1⟩,⟨u8s front,true,true,true,1⟩,⟨u8s back,true,true,true,1⟩,⟨ns .u64 R,true,true,true,1⟩,⟨[.slice (some ⟨H.length+3,0,none⟩) 32 32,.slice (some ⟨H.length,0,none⟩) 32 32],true,true,true,1⟩]:=⟨_,rfl⟩
     have lG1:G1.length=H.length+7:=by rw [hG1]; simp
     have gp:G1[H.length]?=some ⟨u8s pub,true,true,true,1⟩:=by rw [hG1,Qd (by omega),Qq]; rfl
     have gA:G1[H.length+2]?=some ⟨ns .u64 A,true,true,true,1⟩:=by rw [hG1,Qd (by omega),Qs]; rfl
     have gf:G1[H.length+3]?=some ⟨u8s front,true,true,true,1⟩:=by rw [hG1,Qd (by omega),Qs]; rfl
     have gb:G1[H.length+4]?=some ⟨u8s back,true,true,true,1⟩:=by rw [hG1,Qd (by omega),Qs]; rfl
     have ga:G1[H.length+6]?=some ⟨[.slice (some ⟨H.length+3,0,none⟩) 32 32,.slice (some ⟨H.length,0,none⟩) 32 32],true,true,true,1⟩:=by rw [hG1,Qd (by omega),Qs]; rfl
     have hp1:Args G1 pv ps:=by rw [hG1]; exact hp.app
     have partF:HPart (LtN G1.length) G1 (.slice (some ⟨H.length+3,0,none⟩) 32 32) front:=by
      have:=HPart.whole (n:=G1.length) (c:=32) (by omega) gf xf (by rw [lf]; decide)
      rwa [lf] at this
     have partP:HPart (LtN G1.length) G1 (.slice (some ⟨H.length,0,none⟩) 32 32) pub:=by
      have:=HPart.whole (n:=G1.length) (c:=32) (by omega) gp xp (by rw [lp]; decide)
      rwa [lp] at this
     obtain ⟨v1,k1,ha1,hA1⟩:=UN (n:=2) ga rfl (.cons partF (.cons partP .nil)) hp1 (by decide) hn
     obtain ⟨k2,hk⟩:=YR hA1 (by rw [Zr,QK,QK,Z5,Q9,Qg,Qg,lf,lp]; omega)
     rw [Zr,QK,QK,Z5,Q9,Qv,show Rb (front++(pub++ps.flatten))=chL front pub ps.flatten from rfl,Qv] at hk
     have lk:(chL front pub ps.flatten).length=32:=Gv
     obtain ⟨G2,hG2⟩:∃ X,X=G1++(k1++k2):=⟨_,rfl⟩
     have lG2:G1.length≤G2.length:=by rw [hG2]; simp
     have up:∀ i,i<G1.length→∀ l:List Ob,(G2++l)[i]?=G1[i]? := fun i hi l=>by rw [Qa (by omega),hG2,Qa hi]
     obtain ⟨B,hB,rB⟩:=LG
     obtain ⟨X,hX,rX⟩:=Yo rB lb xb
     obtain ⟨NA,hNA,rNA⟩:=mW rA
     obtain ⟨Y,hY,rY⟩:=Yo rNA lk Ml
     obtain ⟨S,dS,hS,ES⟩:=kJ (H:=G2++[(⟨u8s (chL front pub ps.flatten),true,true,true,1⟩:Ob),⟨ns .u64 [X,Y].flatten,true,true,true,1⟩]) (id:=G2.length+1) (n:=2) (xs:=[X,Y]) rfl (by decide) (.cons rX (.cons rY .nil)) (by rw [Qd (by omega),Qs]; rfl)
     simp only [Jg,JO,Qw,Qv,Qr] at hS
     rw [fold2] at ES
     have hE:=GQ ES
     have lE:=GR (XU (JP (num 256 back) Ki) (JP (num 256 (chL front pub ps.flatten)) a.neg))
     have g1:=nG rX rY
     have q1:=rX.len
     have q2:=rY.len
     have q3:=ES.len
     have hq:=Sy lE lf
     have hd:(enc (XU (JP (num 256 back) Ki) (JP (num 256 (chL front pub ps.flatten)) a.neg))==front)=decide (XU (JP (num 256 back) Ki) (JP (num 256 (chL front pub ps.flatten)) a.neg)=r):=by rw [←eR,NG]
     rw [hd] at hq
     have uA:=fun l=>(up _ (by omega) l).trans gA
     have uf:=fun l=>(up _ (by omega) l).trans gf
     have ub:=fun l=>(up _ (by omega) l).trans gb
     have f2:fillL [Value.slice none 0 0,.slice none 0 0] [(0,1,.slice (some ⟨H.length+3,0,none⟩) 32 32),(1,1,.slice (some ⟨H.length,0,none⟩) 32 32)]=some [.slice (some ⟨H.length+3,0,none⟩) 32 32,.slice (some ⟨H.length,0,none⟩) 32 32]:=rfl
     have F1:H++[(⟨u8s pub,true,true,true,1⟩:Ob),⟨u8s (front++back),true,true,true,1⟩,⟨ns .u64 A,true,true,true,1⟩,⟨u8s front,true,true,true,1⟩,⟨u8s back,true,true,true,1⟩,⟨ns .u64 R,true,true,true,1⟩,⟨[.slice (some ⟨H.length+3,0,none⟩) 32 32,.slice (some ⟨H.length,0,none⟩) 32 32],true,true,true,1⟩]=G1:=hG1.symm
     have F2:G1++(k1++k2)=G2:=hG2.symm
     have im1:Qy H.length [] [G2.length]=[]:=QD (by simp; omega)
     have hfr:∀ l:List Ob,∃ l',G2++l=H++l':=fun l=>⟨_,by rw [hG2,hG1,Qv,Qv]⟩
     by_cases hfin:XU (JP (num 256 back) Ki) (JP (num 256 (chL front pub ps.flatten)) a.neg)=r
     ·rw [decide_eq_true hfin] at hq
      have hx:∃ l,Zd T 25 [.agg (u8s pub).toArray,.agg (u8s (front++back)).toArray,pv] H=some (.int .i64 0,G2++l,[]):=by
       clear hG1 hG2 hd up hfr
       generalize front++back=SG at *
       generalize dig 256 32 0=Z,chL front pub ps.flatten=Ck at *
       generalize enc (XU (JP (num 256 back) Ki) (JP (num 256 Ck) a.neg))=E at *
       apply ZQ
       rw [QE (fn:=D3) rfl]
       simp only [D3,Q0,quiet,cW,↓pW,reduceCtorEq,seval,-Qb,hz,hz20,hA,t1,t2,ht,hcv,hR,f2,F1,ha1,hk,F2,im1,hB,hX,hNA,hY,g1,hS,hE,hq,uA,uf,ub,QY,Zf,ZY,Zg,QQ,Qp,lp,lf,lb,lS,lz,lO,lk,lE,p1,p2,q1,q2,q3,Q6,Qn,rft,Ja]
       rfl
      obtain ⟨l,hx⟩:=hx
      obtain ⟨l',hl'⟩:=hfr l
      rw [hl'] at hx
      exact ⟨l',0,hx,.inr ⟨a,eA,.inr ⟨htiny,hc,.inr ⟨r,eR,by rw [if_pos hfin]⟩⟩⟩⟩
     ·rw [decide_eq_false hfin] at hq
      have hx:∃ l,Zd T 25 [.agg (u8s pub).toArray,.agg (u8s (front++back)).toArray,pv] H=some (.int .i64 70,G2++l,[]):=by
       clear hG1 hG2 hd up hfr
       generalize front++back=SG at *
       generalize dig 256 32 0=Z,chL front pub ps.flatten=Ck at *
       generalize enc (XU (JP (num 256 back) Ki) (JP (num 256 Ck) a.neg))=E at *
       apply ZQ
       rw [QE (fn:=D3) rfl]
       simp only [D3,Q0,quiet,cW,↓pW,reduceCtorEq,seval,-Qb,hz,hz20,hA,t1,t2,ht,hcv,hR,f2,F1,ha1,hk,F2,im1,hB,hX,hNA,hY,g1,hS,hE,hq,uA,uf,ub,QY,Zf,ZY,Zg,QQ,Qp,lp,lf,lb,lS,lz,lO,lk,lE,p1,p2,q1,q2,q3,Q6,Qn,rft,Ja]
       rfl
      obtain ⟨l,hx⟩:=hx
      obtain ⟨l',hl'⟩:=hfr l
      rw [hl'] at hx
      exact ⟨l',70,hx,.inr ⟨a,eA,.inr ⟨htiny,hc,.inr ⟨r,eR,by rw [if_neg hfin]⟩⟩⟩⟩
    ·unfold PF at hR
     have hx:∃ l,Zd T 25 [.agg (u8s pub).toArray,.agg (u8s (front++back)).toArray,pv] H=some (.int .i64 70,H++l,[]):=by
      generalize front++back=S at *
      generalize dig 256 32 0=Z at *
      apply ZQ
      rw [QE (fn:=D3) rfl]
      simp only [D3,Q0,quiet,cW,↓pW,reduceCtorEq,seval,-Qb,hz,hz20,hA,t1,t2,ht,hcv,hR,lR,QY,Zf,ZY,Zg,QQ,Qp,lp,lf,lb,lS,lz,lO,p1,Q6,Qn,rft,Ja]
      rfl
     obtain ⟨l,hx⟩:=hx
     exact ⟨l,70,hx,.inr ⟨a,eA,.inr ⟨htiny,hc,.inl ⟨hnR,rfl⟩⟩⟩⟩
   ·rw [decide_eq_false hc] at hcv
    have hx:∃ l,Zd T 25 [.agg (u8s pub).toArray,.agg (u8s (front++back)).toArray,pv] H=some (.int .i64 70,H++l,[]):=by
     generalize front++back=S at *
     generalize dig 256 32 0=Z at *
     apply ZQ
     rw [QE (fn:=D3) rfl]
     simp only [D3,Q0,quiet,cW,↓pW,reduceCtorEq,seval,-Qb,hz,hz20,hA,t1,t2,ht,hcv,QY,Zf,ZY,Zg,QQ,Qp,lp,lf,lb,lS,lz,lO,p1,Q6,Qn,rft,Ja]
     rfl
    obtain ⟨l,hx⟩:=hx
    exact ⟨l,70,hx,.inr ⟨a,eA,.inl ⟨.inr hc,rfl⟩⟩⟩
 ·unfold PF at hA
  have hx:Zd T 25 [.agg (u8s pub).toArray,.agg (u8s (front++back)).toArray,pv] H=some (.int .i64 60,H++[⟨u8s pub,true,true,true,1⟩,⟨u8s (front++back),true,true,true,1⟩,⟨ns .u64 A,true,true,true,1⟩],[]):=by
   generalize front++back=S at *
   generalize dig 256 32 0=Z at *
   rw [QE (fn:=D3) rfl]
   simp only [D3,Q0,quiet,cW,↓pW,reduceCtorEq,seval,-Qb,hz,hz20,hA,t1,t2,QY,Zf,ZY,Zg,QQ,Qp,lp,lS,lz,lO,lA,Q6,Qn,rft,Ja]
  exact ⟨_,60,hx,.inl ⟨hno,rfl⟩⟩
end Go.Ev.YtomfgcgnepfmjaaGreat
namespace Go.Ev.YtomfgcgnepfmjaaGreat
open Go Go.Ev
open Go.NT (Pr)
set_option maxRecDepth 100000
theorem lp1:Pr 531581:=Go.NT.Km (f:=729) (by decide) (by decide) (by decide +kernel)
theorem lp2:Pr 1224481:=Go.NT.Km (f:=1106) (by decide) (by decide) (by decide +kernel)
theorem lp3:Pr 1257559732178653:=Go.NT.Wx (q:=531581) (k:=2365697292) (a:=2) (q2:=1224481) (k2:=1027014492) (a2:=2) (f:=51) lp1 lp2 (by decide +kernel)
theorem lp4:Pr 4434155615661930479:=Go.NT.VD (q:=1257559732178653) (k:=3526) (a:=2) (f:=62) lp3 (by decide +kernel)
theorem lp5:Pr 172054593956031949258510691:=Go.NT.VD (q:=4434155615661930479) (k:=38802110) (a:=2) (f:=88) lp4 (by decide +kernel)
theorem lp6:Pr 19757330305831588566944191468367130476339:=Go.NT.VD (q:=172054593956031949258510691) (k:=114831751082918) (a:=2) (f:=134) lp5 (by decide +kernel)
theorem lp7:Pr 276602624281642239937218680557139826668747:=Go.NT.VD (q:=19757330305831588566944191468367130476339) (k:=14) (a:=2) (f:=138) lp6 (by decide +kernel)
theorem Aq:Pr ell:=Go.NT.VD (q:=276602624281642239937218680557139826668747) (k:=26163907866482859529727157400808004) (a:=2) (f:=253) lp7 (by decide +kernel)
theorem kF:Ki≠K9:=fun h=>L4 (by rw [h,TN])
theorem Oy (p:Go.Cv.Pt Go.Fp.P Go.Fp.d):JP 1 p=p:=Go.Cv.mul_one Go.Fp.fld p
theorem O8 {n:Nat} (h:JP n Ki=K9):ell∣n:=by
 refine Classical.byContradiction fun hn => ?_
 have hf:=Go.NT.Dr Aq hn
 apply kF
 have e1:ell-1=(ell-2)+1:=by decide +kernel
 have h2:n^(ell-1)=n^(ell-2)*n:=by rw [e1,Z4]
 have h3:JP (n^(ell-1)) Ki=K9:=by rw [h2,Rj,h,TN]
 rw [←Em F7,hf,Oy] at h3
 exact h3
theorem iM (n:Nat) (h:ell∣8*n):ell∣n:=by
 have hc:Nat.Coprime ell 8:=Go.NT.Pr.coprime Aq (by decide +kernel)
 exact hc.dvd_of_dvd_mul_left h
theorem PJ {a:List Nat} {x y:Nat} (la:a.length=32) (xa:∀ z∈a,z<256) (hx:a[0]?=some x) (hy:a[31]?=some y):num 256 (K7 a x y)%8=0∧2^254≤num 256 (K7 a x y)∧num 256 (K7 a x y)<2^255:=by
 have hx':=xa x (Qz hx)
 have hy':=xa y (Qz hy)
 obtain ⟨t,ht⟩:∃ t,a=x::t:=by
  cases a with
  | nil=>simp at hx
  | cons z t=>simp at hx; subst hx; exact ⟨t,rfl⟩
 have e8:x&&&248=x/8*8:=(by decide +kernel:∀ v,v<256→v&&&248=v/8*8) x hx'
 have e64:(y&&&127)|||64=y%64+64:=(by decide +kernel:∀ v,v<256→(v&&&127)|||64=v%64+64) y hy'
 have h1:=YA (B:=256) (x&&&248) hx
 have hy2:(a.set 0 (x&&&248))[31]?=some y:=by rw [Qm (by decide)]; exact hy
 have h2:=YA (B:=256) ((y&&&127)|||64) hy2
 have hV:=num_lt xa
 rw [la] at hV
 have hg:=VS (by decide:0<256) xa hy
 have hm:num 256 a%256=x:=by
  have:=VS (by decide:0<256) xa hx
  rwa [Xh,Nat.div_one] at this
 unfold K7
 rw [e8] at h1 h2 ⊢
 rw [e64] at h2 ⊢
 have e31:(256:Nat)^31=452312848583266388373324160190187140051835877600158453279131187530910662656:=by decide
 have e32:(256:Nat)^32=115792089237316195423570985008687907853269984665640564039457584007913129639936:=by decide
 have e254:(2:Nat)^254=28948022309329048855892746252171976963317496166410141009864396001978282409984:=by decide
 have e255:(2:Nat)^255=57896044618658097711785492504343953926634992332820282019728792003956564819968:=by decide
 rw [Xh,XK,XK] at h1
 rw [e31] at h2 hg
 rw [e32] at hV
 rw [e254,e255]
 generalize num 256 ((a.set 0 (x/8*8)).set 31 (y%64+64))=N2 at *
 generalize num 256 (a.set 0 (x/8*8))=N1 at *
 generalize num 256 a=N at *
 have hyq:N/452312848583266388373324160190187140051835877600158453279131187530910662656=y:=by omega
 have hdm:=ZP N 452312848583266388373324160190187140051835877600158453279131187530910662656
 rw [hyq] at hdm
 have hmlt:=Q4 N (by decide:0<452312848583266388373324160190187140051835877600158453279131187530910662656)
 have hlow:N%452312848583266388373324160190187140051835877600158453279131187530910662656%256=x:=by omega
 generalize N%452312848583266388373324160190187140051835877600158453279131187530910662656=M at *
 refine ⟨?_,?_,?_⟩<;>omega
theorem eU (s:List Nat):num 256 (scL s)%8=0∧2^254≤num 256 (scL s)∧num 256 (scL s)<2^255:=by
 obtain ⟨x,g0,d0,lx⟩:=Da s (i:=0) (by decide)
 obtain ⟨z,g31,d31,lz⟩:=Da s (i:=31) (by decide)
 unfold scL
 rw [d0,d31]
 exact PJ (by rw [Q7,VR]; rfl) (fun y hy=>MU s y (QP hy)) (by rw [QS,if_pos (by decide)]; exact g0) (by rw [QS,if_pos (by decide)]; exact g31)
theorem SN (s:List Nat):¬ ell∣num 256 (scL s):=by
 obtain ⟨h1,h2,h3⟩:=eU s
 generalize num 256 (scL s)=a at *
 intro hd
 obtain ⟨k,rfl⟩:=hd
 have h7:k<8:=Nat.lt_of_mul_lt_mul_left (a:=ell) (Nat.lt_trans h3 (by decide +kernel))
 have h0:0<k:=by
  rcases Zv k with h | h
  ·rw [h,Nat.mul_zero] at h2
   exact absurd h2 (by decide)
  ·exact h
 have hm:ell*k%8=(ell%8)*k%8:=by rw [Nat.mod_mul_mod]
 have he:ell%8=5:=by decide +kernel
 rw [hm,he] at h1
 clear h2 h3 hm he
 omega
end Go.Ev.YtomfgcgnepfmjaaGreat
namespace Go.Ev.YtomfgcgnepfmjaaGreat
open Go Go.Ev
set_option maxRecDepth 100000
theorem Fz {p q:Go.Cv.Pt Go.Fp.P Go.Fp.d} (h:enc p=enc q):p=q:=by
 have:=NG p q
 rw [h] at this
 simp at this
 exact this
theorem aN (k:Nat) (p:Go.Cv.Pt Go.Fp.P Go.Fp.d):JP k p.neg=(JP k p).neg:=Go.Cv.mul_neg Go.Fp.fld k p
theorem LV {s m:List Nat} {c:Int} (h:NS (pubL s) (frL s m) (bkL s m) m c):c=0:=by
 have hA:enc (JP (num 256 (scL s)) Ki)=pubL s:=rfl
 have hR:enc (JP (num 256 (rL s m)) Ki)=frL s m:=rfl
 have hb:num 256 (bkL s m)=(num 256 (chL (frL s m) (pubL s) m)*num 256 (scL s)+num 256 (rL s m))%ell:=mR _ _ _
 have hnt:JP 8 (JP (num 256 (scL s)) Ki)≠K9:=fun h=>SN s (iM _ (O8 (by rw [Rj]; exact h)))
 have hblt:num 256 (bkL s m)<ell:=by rw [hb]; exact Q4 _ Cs
 rcases h with ⟨h,-⟩ | ⟨A,eA,h⟩
 ·exact absurd hA (h _)
 ·have e1:=Fz (eA.trans hA.symm)
  rw [e1] at h
  rcases h with h | h
  ·obtain ⟨h,-⟩:=h
   cases h with
   | inl h=>exact absurd h hnt
   | inr h=>exact absurd hblt h
  ·have h:=h.2.2
   rcases h with ⟨h,-⟩ | ⟨R,eR,h⟩
   ·exact absurd hR (h _)
   ·have e2:=Fz (eR.trans hR.symm)
    rw [e2] at h
    rw [h,if_pos]
    rw [hb,Em F7,aO,Rj,aN]
    generalize num 256 (chL (frL s m) (pubL s) m)=k
    generalize JP k (JP (num 256 (scL s)) Ki)=X
    rw [O5 X,IE,aW,ID]
end Go.Ev.YtomfgcgnepfmjaaGreat
namespace Go.Ev.YtomfgcgnepfmjaaGreat
open Go Go.Ev Go.Fp
abbrev PtE:=Go.Cv.Pt Go.Fp.P Go.Fp.d
def Fr (X Z:Fe) (p:PtE):Prop:=∃ l:Fe,l≠0∧X=l*(1+p.y)∧Z=l*(1-p.y)
end Go.Ev.YtomfgcgnepfmjaaGreat
namespace Go.Ev.YtomfgcgnepfmjaaGreat
open Go Go.Ev
attribute [local congr] Jq Jz Jp J2 Jb
set_option maxRecDepth 100000
variable {a b v:List Value}
theorem Grown.ob {k:IntKind} {B:Nat} {H:List Ob} {s:Value} {bs:List Nat} (h:Grown k B H s bs) (h0:0<bs.length):∃ id x,s=.slice (some ⟨id,0,none⟩) bs.length bs.length∧B≤id∧H[id]?=some ⟨ns k bs,true,true,x,1⟩:=by
 cases h with
 | nil=>exact absurd h0 (by decide)
 | @own id _ h1 h2 h3=>exact ⟨id,false,rfl,h1,h3⟩
 | @new id _ h1 h2 h3=>exact ⟨id,true,rfl,h1,h3⟩
theorem Grown.weak {k:IntKind} {B N:Nat} {H:List Ob} {s:Value} {bs:List Nat} (h:Grown k N H s bs) (hB:B≤N):Grown k B H s bs:=by
 cases h with
 | nil=>exact .nil
 | own h1 h2 h3=>exact .own (by omega) h2 h3
 | new h1 h2 h3=>exact .new (by omega) h2 h3
def tL (x y z:List Nat):List Nat:=x++(y++z)
theorem mr {x y z:List Nat} (hx:x.length=16) (hy:y.length=16) (hz:z.length=16):(tL x y z).length=48:=by simp [tL,hx,hy,hz]
structure RRep (x y z:List Nat) (p:Go.Cv.Pt Go.Fp.P Go.Fp.d):Prop where
 nx:Nm x
 ny:Nm y
 nz:Nm z
 ne:nf z≠0
 x:nf x=p.x*nf z
 y:nf y=p.y*nf z
def RP (l:List Nat) (p:Go.Cv.Pt Go.Fp.P Go.Fp.d):Prop:=∃ x y z,l=tL x y z∧RRep x y z p
theorem RP.len {l:List Nat} {p:Go.Cv.Pt Go.Fp.P Go.Fp.d} (h:RP l p):l.length=48:=by
 obtain ⟨x,y,z,rfl,h⟩:=h
 exact mr h.nx.len h.ny.len h.nz.len
theorem I7 {α:Type} {y:Option α}:DC none y=y:=rfl
theorem take_set {X Y:List Nat} {i w:Nat} (lX:X.length=5) (lY:Y.length=5) (hi:i<5) (hw:Y[i]?=some w):(Y.take i++X.drop i).set i w=Y.take (i+1)++X.drop (i+1):=by
 have lt:(Y.take i).length=i:=by rw [Q7]; omega
 obtain ⟨v,hv⟩:∃ v,X[i]?=some v:=⟨_,Qh (by omega)⟩
 rw [Q3 _ _ (by omega),lt,Qq,List.drop_eq_getElem?_toList_append (i:=i),hv,ZG,hw]
 simp
abbrev LSt:=(Go.Fp.Fe×Go.Fp.Fe)×(Go.Fp.Fe×Go.Fp.Fe)
structure LRp (s:LSt) (ax az bx bz:List Nat):Prop where
 eax:El ax (2^52)
 eaz:El az (2^52)
 ebx:El bx (2^52)
 ebz:El bz (2^52)
 fax:fe ax=s.1.1
 faz:fe az=s.1.2
 fbx:fe bx=s.2.1
 fbz:fe bz=s.2.2
theorem Args.one {H:List Ob} {a b n c:Nat} {t:List Nat} {e:Bool} {s:Nat} (ha:H[a]?=some ⟨[.slice (some ⟨b,0,none⟩) n n],true,true,e,s⟩) {e':Bool} {s':Nat} (hb:H[b]?=some ⟨u8s t,true,true,e',s'⟩) (hn:t.length=n) (xt:∀ y∈t,y<256) (h40:n≤2^47-4096):Args H (.slice (some ⟨a,0,none⟩) 1 c) [t]:=by
 have hp:HPart (LtN H.length) H (.slice (some ⟨b,0,none⟩) n n) t:=by
  have:=HPart.whole (n:=H.length) (c:=n) (Qf.1 hb).1 hb xt (by omega)
  rwa [hn] at this
 exact Args.arr ha rfl (.cons hp .nil) (by decide)
structure BA (H0:List Ob) (bv:Value) (l:List Nat):Prop where
 len:vLen false bv=some (.int .i64 l.length)
 lt:∀ y∈l,y<256
 le:l.length≤2^47-4096
 fill:fillL [Value.slice none 0 0] [(0,1,bv)]=some [bv]
 whole:HPart (LtN H0.length) H0 bv l
 cut:∀ k,k≤l.length→∃ s1 s2,(∀ G:List Ob,(∀ i,i<H0.length→G[i]?=H0[i]?)→vSliceSl G 1 none (some (.int .i64 (k:Nat))) none bv=some s1∧vSliceSl G 1 (some (.int .i64 (k:Nat))) none none bv=some s2) ∧
  HPart (LtN H0.length) H0 s1 (l.take k)∧HPart (LtN H0.length) H0 s2 (l.drop k)
theorem BA.nil:BA [] (.slice none 0 0) [] :=
 ⟨rfl,by simp,by decide,rfl,⟨⟨_,_,rfl⟩,fun _ _=>rfl,by simp,by decide⟩,fun k hk=>by
  have:k=0:=by simpa using hk
  subst this
  exact ⟨.slice none 0 0,.slice none 0 0,fun G _=>⟨rfl,rfl⟩,⟨⟨_,_,rfl⟩,fun _ _=>rfl,by simp,by decide⟩,⟨⟨_,_,rfl⟩,fun _ _=>rfl,by simp,by decide⟩⟩⟩
theorem BA.some {l:List Nat} {n:Nat} (ln:l.length=n) (xl:∀ x∈l,x<256) (hm:n≤2^47-4096):BA [⟨u8s l,true,false,false,1⟩] (.slice (some ⟨0,0,none⟩) n n) l:=by
 subst ln
 refine ⟨rfl,xl,hm,rfl,HPart.whole (w:=false) (e:=false) (s:=1) (n:=1) (W0) rfl xl hm,fun k hk => ?_⟩
 refine ⟨.slice (VL ⟨0,0,none⟩) k l.length,.slice (VL ⟨0,0+k,none⟩) (l.length-k) (l.length-k),fun G hG => ?_,?_,?_⟩
 ·have hg:G[0]?=VL ⟨u8s l,true,false,false,1⟩:=(hG 0 W0).trans rfl
  have hlv:liveAt G 0=VL ⟨u8s l,true,false,false,1⟩:=QW hg rfl
  have b1:ZC l.length l.length none (VL (.int .i64 (k:Nat))) none=VL (0,k,l.length):=by
   rw [JA,J3 hk,Qj]; rfl
  have b2:ZC l.length l.length (VL (.int .i64 (k:Nat))) none none=VL (k,l.length,l.length):=by
   rw [JA,XQ,Qj,J3 hk,Qj]
  rw [V1,V1,b1,b2,Qj,Qj,hlv,Qj,Qj]
  simp [gate]
 ·have:=HPart.arr (n:=1) (H:=[(⟨u8s l,true,false,false,1⟩:Ob)]) (id:=0) (off:=0) (m:=k) (c:=l.length) (by decide) rfl xl (by omega) (by omega)
  rwa [JT] at this
 ·have:=HPart.arr (n:=1) (H:=[(⟨u8s l,true,false,false,1⟩:Ob)]) (id:=0) (off:=0+k) (m:=l.length-k) (c:=l.length-k) (by decide) rfl xl (by omega) (by omega)
  rw [QB,Qu (by rw [QC]; exact Qk _)] at this
  rw [QB]
  exact this
theorem Grown.set {k:IntKind} {B n:Nat} {H:List Ob} {s:Value} {xs:List Nat} {o:Ob} (h:Grown k B H s xs) (hn:n<B):Grown k B (H.set n o) s xs:=by
 cases h with
 | nil=>exact .nil
 | own h1 h2 h3=>exact .own h1 h2 (by rw [Qm (by omega)]; exact h3)
 | new h1 h2 h3=>exact .new h1 h2 (by rw [Qm (by omega)]; exact h3)
structure SoInv (bk:List Nat) (j:Nat) (b:List Nat) (c:Nat):Prop where
 len:b.length=32
 lt:∀ y∈b,y<256
 cle:c≤1
 eq:num 256 (b.take j)+c*256^j=num 256 (bk.take j)+num 256 (ordL.take j)
 rest:∀ i,j≤i→b[i]?=bk[i]?
theorem SoInv.step {bk b:List Nat} {j c x y:Nat} (h:SoInv bk j b c) (hj:j<32) (hx:b[j]?=some x) (hx':x<256) (hy:ordL[j]?=some y) (hy':y<256):SoInv bk (j+1) (b.set j ((c+(x+y))%256)) ((c+(x+y))/256):=by
 have hc:=h.cle
 have hb:=h.rest j (Qk _)
 rw [hx] at hb
 refine ⟨by rw [Qo]; exact h.len,WA h.lt (Q4 _ (by decide)),by omega,?_,fun i hi=>by rw [Qm (by omega)]; exact h.rest i (by omega)⟩
 have e1:(b.set j ((c+(x+y))%256))[j]?=some ((c+(x+y))%256):=by rw [Qt (by rw [h.len]; exact hj)]
 have e2:(b.set j ((c+(x+y))%256)).take j=b.take j:=by
  rw [List.take_set,List.set_eq_of_length_le (by rw [Q7]; omega)]
 rw [XP e1,XP hb.symm,XP hy,e2]
 have h2:=h.eq
 have h3:=ZP (c+(x+y)) 256
 generalize (c+(x+y))/256=q at *
 generalize (c+(x+y))%256=r at *
 have e3:(256*q+r)*256^j=(c+(x+y))*256^j:=by rw [h3]
 have e4:q*256^(j+1)=256*q*256^j:=by rw [Z4]; simp only [Nat.mul_assoc,Nat.mul_left_comm,Nat.mul_comm]
 rw [e4]
 rw [Zy,Zy,Zy] at e3
 omega
structure OffL (w p o g:List Nat):Prop where
 lw:w.length=64
 lp:p.length=32
 lo:o.length=32
 lg:g.length=64
theorem TF (h:v.length=a.length):splice (a++b) 0 v=v++b:=by
 rw [JL _ _ _ (by rw [Qg]; omega),Xc,Qr,QB,h,PU]
theorem TE {n k:Nat} (h:a.length=n) (hk:k+v.length≤b.length):splice (a++b) (n+k) v=a++splice b k v:=by
 rw [JL _ _ _ (by rw [Qg]; omega),JL _ _ _ hk,←h,List.take_append,Qu (by omega),Qs,Qv]
 congr 3
 rw [Nat.add_assoc,←X4,PU]
def id4 (i:Nat):List Nat:=[i/2^24%256,i/2^16%256,i/2^8%256,i%256]
theorem Lo (i:Nat):∀ y∈id4 i,y<256:=by
 intro y hy
 simp only [id4,J6,JI,or_false] at hy
 rcases hy with rfl | rfl | rfl | rfl<;>exact Q4 _ (by decide)
def zK:List Nat:=dig 256 32 0
theorem PY:zK.length=32:=rfl
theorem UF {G:List Ob} {id c:Nat} {b:List Nat} {w e:Bool} {s:Nat} (h:G[id]?=some ⟨u8s b,true,w,e,s⟩):elemsOf G 1 b.length (.slice (some ⟨id,0,none⟩) b.length c)=some (u8s b):=by
 simp [elemsOf,QW h rfl,Qp]
 exact Qu (by rw [Qp]; exact Qk _)
def AllS (B:Nat) (G:List Ob) (v:Value) (t:List Nat):Prop:=(∃ id,B<id∧v=.slice (some ⟨id,0,none⟩) 32 32∧t.length=32∧G[id]?=some ⟨u8s t,true,true,true,1⟩)∨Rst (fun i=>i≤B) G v t
theorem AllS.shape {B:Nat} {G:List Ob} {v:Value} {t:List Nat} (h:AllS B G v t):∃ a c,v=.slice a t.length c:=by
 rcases h with ⟨id,h1,rfl,h2,h3⟩ | h
 ·rw [h2]; exact ⟨_,_,rfl⟩
 ·exact h.shape
theorem AllS.part {B:Nat} {G:List Ob} {v:Value} {t:List Nat} (h:AllS B G v t) (xt:∀ y∈t,y<256) (lt:t.length≤1000):HPart (LtN G.length) G v t:=by
 rcases h with ⟨id,h1,rfl,h2,h3⟩ | h
 ·have:=HPart.whole (n:=G.length) (c:=32) (Qf.1 h3).1 h3 xt (by omega)
  rwa [h2] at this
 ·refine ⟨h.shape,fun G' hG' => ?_,xt,by omega⟩
  have h':Rst (fun i=>i≤B) G' v t:=h.ext fun i hi=>hG' i hi
  exact h'.elems
theorem AllS.ext {B:Nat} {G G':List Ob} {v:Value} {t:List Nat} (h:AllS B G v t) (hg:∀ i,i<G.length→G'[i]?=G[i]?):AllS B G' v t:=by
 rcases h with ⟨id,h1,h0,h2,h3⟩ | h
 ·exact .inl ⟨id,h1,h0,h2,(hg id (Qf.1 h3).1).trans h3⟩
 ·exact .inr (h.ext hg)
end Go.Ev.YtomfgcgnepfmjaaGreat
namespace Go.Ev.YtomfgcgnepfmjaaGreat
open Go Go.Ev Go.Fp
set_option maxRecDepth 100000
def kE (n:Nat):List Nat:=dig 256 32 n
end Go.Ev.YtomfgcgnepfmjaaGreat
namespace Go.Ev.YtomfgcgnepfmjaaGreat
open Go Go.Ev
attribute [local congr] Jq Jz Jp J2 Jb
set_option maxRecDepth 100000
variable {n:Nat}
theorem XJ {C:List Value} {o:Nat} {v:Value} {r:List (Nat×Nat×Value)} (h1:v.cells.size=n) (h2:o+n≤C.length) (h3:okVar v=true):fillL C ((o,n,v)::r)=fillL (splice C o v.cells.toList) r:=by
 conv=>lhs; unfold fillL
 rw [if_pos ⟨h1,h2,h3⟩]
theorem VF {l:List Nat} (h:l.length=n):(Value.agg (u8s l).toArray).cells.size=n:=by show (u8s l).length=n; rw [Qp,h]
theorem Fu {a:List Nat} (la:a.length=64):fillL (Qc 64 (Value.int .u8 0)) [(0,64,.agg (u8s a).toArray)]=some (u8s a):=by
 unfold fillL
 rw [if_pos ⟨by show (u8s a).length=64; rw [Qp,la],by rw [Qn]; decide,rfl⟩,show (Value.agg (u8s a).toArray).cells.toList=u8s a from rfl,QO (by rw [Qp,la,Qn])]
 rfl
end Go.Ev.YtomfgcgnepfmjaaGreat
namespace Go.Ev.YtomfgcgnepfmjaaGreat
open Go Go.Ev
set_option maxRecDepth 100000
structure K5 (A B F pre once:List Nat):Prop where
 lA:A.length=64
 xA:∀ y∈A,y<256
 lB:B.length=64
 xB:∀ y∈B,y<256
 lF:F.length=32
 xF:∀ y∈F,y<256
 lp:pre.length=32
 xp:∀ y∈pre,y<256
 lo:once.length=32
 xo:∀ y∈once,y<256
end Go.Ev.YtomfgcgnepfmjaaGreat
namespace Go.Ev.YtomfgcgnepfmjaaGreat
open Go Go.Ev
attribute [local congr] Jq Jz Jp J2 Jb
set_option maxRecDepth 100000
variable {n e m B i x:Nat} {nm t key sg pub:List Nat} {G G0 H:List Ob} {pv ka na sa da:Value} {L:List (List Nat)} {tl:List Value}
theorem kE_lt (n:Nat):∀ y∈kE n,y<256:=UG
theorem Cf (n:Nat):(kE n).length=32:=Zx _ _ _
def OutS (K:Nat→Prop) (G:List Ob) (v:Value) (t:List Nat):Prop:=(∃ id,¬ K id∧v=.slice (some ⟨id,0,none⟩) t.length t.length∧G[id]?=some ⟨u8s t,true,true,true,1⟩)∨Rst K G v t
theorem OutS.append {K:Nat→Prop} {G:List Ob} {v x:Value} {t p:List Nat} (h:OutS K G v t) (hK:∀ i,K i→i<G.length) (hl:Go.Ev.lenV x=some p.length) (he:elemsOf G 1 p.length x=some (u8s p)) (hb:t.length+p.length≤2^47) :
  ∃ v' G' M,Zu 1 1 G v x=some (v',G',none,M)∧OutS K G' v' (t++p)∧(∀ i∈M,¬ K i)∧G.length≤G'.length∧∀ i,K i→G'[i]?=G[i]? := by
 rcases h with ⟨id,h1,rfl,h2⟩ | h
 ·rcases Zv p.length with hn | hn
  ·have:p=[]:=Za hn
   subst this
   refine ⟨_,G,[],?_,.inl ⟨id,h1,by rw [Q9],by rw [Q9]; exact h2⟩,by simp,Qk _,fun _ _=>rfl⟩
   have he':elemsOf G 1 0 x=some []:=he
   have hl':Go.Ev.lenV x=some 0:=hl
   simp only [Zu,hl',he',Qj,if_true]
  ·have h8:elemsOf G 1 t.length (.slice (some ⟨id,0,none⟩) t.length t.length)=some (u8s t):=by
    simp [elemsOf,QW h2 rfl,Qp]
    exact Qu (by rw [Qp]; exact Qk _)
   have hz:¬ p.length=0:=by omega
   have h3:(t.length+p.length)*1≤2^47∧0<1∧0<1:=⟨by omega,by decide,by decide⟩
   have h4:¬ (t.length+p.length≤t.length):=by omega
   refine ⟨.slice (some ⟨G.length,0,none⟩) (t++p).length (t++p).length,G++[⟨u8s (t++p),true,true,false,1⟩],[],?_,.inr (.own (fun hk=>by have:=hK _ hk; omega) (by rw [Qd (Qk _),Qq]; rfl) (by omega) (fun i _=>by rw [QB])),by simp,by simp,fun i hi=>by rw [Qa (hK i hi)]⟩
   simp only [Zu,hl,he,h8,QW h2 rfl,Qj,if_neg hz,h3,h4,and_self,not_true_eq_false,if_false,if_true,Ob.grown,JE,Qg]
 ·obtain ⟨v',G',M,k1,k2,k3,k4,k5,-⟩:=h.append hK hl he hb
  exact ⟨v',G',M,k1,.inr k2,k3,k4,k5⟩
theorem OutS.setK {K:Nat→Prop} {G:List Ob} {v:Value} {t:List Nat} (h:OutS K G v t) {j:Nat} (hj:K j) (o:Ob):OutS K (G.set j o) v t:=by
 have hne:∀ id,¬ K id→(G.set j o)[id]?=G[id]? := fun id hid=>Qm (by rintro rfl; exact hid hj)
 rcases h with ⟨id,h1,h0,h2⟩ | h
 ·exact .inl ⟨id,h1,h0,by rw [hne id h1]; exact h2⟩
 ·refine .inr ?_
  cases h with
  | nil=>exact .nil
  | empty h1 h2=>exact .empty h1 (by rw [hne _ h1]; exact h2)
  | own h1 h2 h4 h3=>exact .own h1 (by rw [hne _ h1]; exact h2) h4 h3
theorem OutS.app {K:Nat→Prop} {G m:List Ob} {v:Value} {t:List Nat} (h:OutS K G v t):OutS K (G++m) v t:=by
 rcases h with ⟨id,h1,h0,h2⟩ | h
 ·exact .inl ⟨id,h1,h0,by rw [Qa (Qf.1 h2).1]; exact h2⟩
 ·exact .inr h.app
theorem OutS.shape {K:Nat→Prop} {G:List Ob} {v:Value} {t:List Nat} (h:OutS K G v t):∃ a c,v=.slice a t.length c:=by
 rcases h with ⟨id,-,rfl,-⟩ | h
 ·exact ⟨_,_,rfl⟩
 ·exact h.shape
theorem OutS.okVar {K:Nat→Prop} {G:List Ob} {v:Value} {t:List Nat} (h:OutS K G v t):okVar v=true:=by
 obtain ⟨a,c,rfl⟩:=h.shape; rfl
theorem OutS.cells {K:Nat→Prop} {G:List Ob} {v:Value} {t:List Nat} (h:OutS K G v t):v.cells.toList=[v]∧v.cells.size=1:=by
 obtain ⟨a,c,rfl⟩:=h.shape; exact ⟨rfl,rfl⟩
def wob (v:Value):Ob:=⟨[v],true,true,true,1⟩
structure Wr (K:Nat→Prop) (G:List Ob) (wid:Nat) (v:Value) (t:List Nat):Prop where
 ob:G[wid]?=some (wob v)
 kw:K wid
 kl:∀ i,K i→i<G.length
 out:OutS K G v t
theorem Wr.put {K:Nat→Prop} {G:List Ob} {wid:Nat} {v x:Value} {t p:List Nat} (h:Wr K G wid v t) (hl:Go.Ev.lenV x=some p.length) (he:elemsOf G 1 p.length x=some (u8s p)) (hb:t.length+p.length≤2^47) :
  ∃ v' G' M,Zu 1 1 G v x=some (v',G',none,M)∧G'[wid]?=some (wob v)∧v'.cells.toList=[v']∧v'.cells.size=1∧okVar v'=true∧Wr K (G'.set wid (wob v')) wid v' (t++p)∧(∀ i∈M,¬ K i)∧G.length≤G'.length∧∀ i,K i→i≠wid→(G'.set wid (wob v'))[i]?=G[i]? := by
 obtain ⟨v',G',M,k1,k2,k3,k4,k5⟩:=h.out.append h.kl hl he hb
 have hw:=(k5 wid h.kw).trans h.ob
 refine ⟨v',G',M,k1,hw,k2.cells.1,k2.cells.2,k2.okVar,⟨by rw [Qt (Qf.1 hw).1],h.kw,fun i hi=>by rw [Qo]; exact QJ (h.kl i hi) k4,k2.setK h.kw _⟩,k3,k4,fun i hi hne => ?_⟩
 rw [Qm (fun e=>hne e.symm)]
 exact k5 i hi
theorem Wr.app {K:Nat→Prop} {G m:List Ob} {wid:Nat} {v:Value} {t:List Nat} (h:Wr K G wid v t):Wr K (G++m) wid v t :=
 ⟨by rw [Qa (Qf.1 h.ob).1]; exact h.ob,h.kw,fun i hi=>by rw [Qg]; exact QJ (h.kl i hi) (Nat.le_add_right _ _),h.out.app⟩
theorem TZ {K:Nat→Prop} {wid:Nat} {v:Value} (h:Wr K G wid v t) (hb:t.length≤2^46) :
  ∃ v' G' M,Zd T 83 [.pointer (some ⟨wid,0,none⟩),.int .u32 n] G=some (.tuple #[],G',M)∧Wr K G' wid v' (t++id4 n)∧G.length≤G'.length∧(∀ i∈M,i=wid∨¬ K i)∧∀ i,K i→i≠wid→G'[i]?=G[i]? := by
 have s1:(n:Int).fdiv (2^min 24 IntKind.u32.bits)=((n/2^24:Nat):Int):=DB (r:=24) (by decide)
 have s2:(n:Int).fdiv (2^min 16 IntKind.u32.bits)=((n/2^16:Nat):Int):=DB (r:=16) (by decide)
 have s3:(n:Int).fdiv (2^min 8 IntKind.u32.bits)=((n/2^8:Nat):Int):=DB (r:=8) (by decide)
 have w1:=B5 (n/2^24)
 have w2:=B5 (n/2^16)
 have w3:=B5 (n/2^8)
 have w4:=B5 n
 have f2:∀ x0 x1 x2 x3:Nat,fillL [Value.int .u8 0,.int .u8 0,.int .u8 0,.int .u8 0] [(0,1,.int .u8 (x0:Int)),(1,1,.int .u8 (x1:Int)),(2,1,.int .u8 (x2:Int)),(3,1,.int .u8 (x3:Int))]=some (u8s [x0,x1,x2,x3]):=fun _ _ _ _=>rfl
 have hx:(G++[(⟨u8s (id4 n),true,true,true,1⟩:Ob)])[G.length]?=some ⟨u8s (id4 n),true,true,true,1⟩:=by rw [Qd (Qk _),Qq]; rfl
 have he:elemsOf (G++[(⟨u8s (id4 n),true,true,true,1⟩:Ob)]) 1 (id4 n).length (.slice (some ⟨G.length,0,none⟩) 4 4)=some (u8s (id4 n)):=by
  exact UF (c:=4) hx
 obtain ⟨v',G',M,k1,k2,k3,k4,k5,k6,k7,k8,k9⟩:=(h.app (m:=[(⟨u8s (id4 n),true,true,true,1⟩:Ob)])).put (p:=id4 n) (x := .slice (some ⟨G.length,0,none⟩) 4 4) rfl he (by show _+4≤_; omega)
 rw [Qg] at k8
 refine ⟨v',_,Qy G.length (Qy G.length [] M) [wid],?_,k6,by rw [Qo]; omega,?_,fun i hi hne => ?_⟩
 ·have o1:=h.ob
  have o2:(G++[(⟨u8s (id4 n),true,true,true,1⟩:Ob)])[wid]?=some (wob v):=h.app.ob
  unfold wob id4 at *
  generalize n/2^24%256=x0 at *
  generalize n/2^16%256=x1 at *
  generalize n/2^8%256=x2 at *
  generalize n%256=x3 at *
  generalize n/2^24=y0 at *
  generalize n/2^16=y1 at *
  generalize n/2^8=y2 at *
  have sp:∀ a b:Value,splice [a] 0 [b]=[b]:=fun _ _=>rfl
  rw [QE (fn:=oW) rfl]
  simp only [oW,Q0,quiet,cW,↓pW,reduceCtorEq,seval,-Qb,f2,s1,s2,s3,w1,w2,w3,w4,o1,o2,k1,k2,k3,k4,k5,sp,Q6,QY,Zf,ZY,Zg,Qp,Qn,Ja]
  rfl
 ·intro i hi
  rcases Zb hi with h' | h'
  ·rcases Zb h' with h' | h'
   ·cases h'
   ·exact .inr (k7 i h')
  ·exact .inl (Zk.1 h')
 ·rw [k9 i hi hne,Qa (h.kl i hi)]
def shp (k:Int):Option (Nat×Nat×Nat×Bool) :=
 if k=1 then some (4,2,1,false) else if k=2 then some (3,2,0,true) else if k=3 then some (1,2,0,true) else if k=4 then some (3,2,0,false) else if k=5 then some (1,2,1,true) else if k=6 then some (3,3,1,true) else if k=7 then some (1,1,0,true) else none
def shV (a b c:Nat) (d:Bool):List Value:=[.int .i64 a,.int .i64 b,.int .i64 c,.bool d]
theorem eQ (k:Int):ZB T 82 [.int .i64 k]=some (match shp k with | some (a,b,c,d)=>.tuple #[.agg (shV a b c d).toArray,.int .i64 0] | none=>.tuple #[.agg (shV 0 0 0 false).toArray,.int .i64 110]):=by
 have hf:∀ (a b c:Int) (d:Bool),fillL [Value.int .i64 0,.int .i64 0,.int .i64 0,.bool false] [(0,1,.int .i64 a),(1,1,.int .i64 b),(2,1,.int .i64 c),(3,1,.bool d)]=some [Value.int .i64 a,.int .i64 b,.int .i64 c,.bool d]:=fun _ _ _ _=>rfl
 have f0:fillL [Value.int .i64 0,.int .i64 0,.int .i64 0,.bool false] []=some [Value.int .i64 0,.int .i64 0,.int .i64 0,.bool false]:=rfl
 have im:∀ k,Qy 0 [] [k]=[]:=fun k=>QD (by simp)
 have sp:∀ (a b c d e f g h:Value),splice [a,b,c,d] 0 [e,f,g,h]=[e,f,g,h]:=fun _ _ _ _ _ _ _ _=>rfl
 apply Kz
 by_cases h:k=1∨k=2∨k=3∨k=4∨k=5∨k=6∨k=7
 ·rcases h with rfl | rfl | rfl | rfl | rfl | rfl | rfl <;>
  ·apply ZQ
   rw [QE (fn:=dW) rfl]
   simp only [dW,Q0,quiet,cW,↓pW,reduceCtorEq,seval,-Qb,hf,f0,im,sp]
   rfl
 simp only [not_or] at h
 obtain ⟨h1,h2,h3,h4,h5,h6,h7⟩:=h
 have e:shp k=none:=by unfold shp; simp only [h1,h2,h3,h4,h5,h6,h7,if_false]
 rw [e]
 apply ZQ
 rw [QE (fn:=dW) rfl]
 simp only [dW,Q0,quiet,cW,↓pW,reduceCtorEq,seval,-Qb,hf,f0,im,sp,beq_eq_false_iff_ne.2 h1,beq_eq_false_iff_ne.2 h2,beq_eq_false_iff_ne.2 h3,beq_eq_false_iff_ne.2 h4,beq_eq_false_iff_ne.2 h5,beq_eq_false_iff_ne.2 h6,beq_eq_false_iff_ne.2 h7]
 rfl
theorem Va {L:List (List Nat)} (hL:∀ x∈L,x.length=n):L.flatten.length=L.length*n:=by
 induction L with
 | nil=>simp
 | cons a M ih=>rw [QK,Qg,ih (fun x hx=>hL x (Kx _ hx)),hL a (by simp),Zn,VX,X3]
theorem Wq {P:List Nat} (hL:∀ x∈L,x.length=n) (hi:L[i]?=some P):Q2 n (Zw (i*n) (u8s L.flatten))=u8s P∧i*n+n≤(u8s L.flatten).length:=by
 have h1:=Qf.1 hi
 have lP:=hL P (Qz hi)
 have e1:L.flatten=(L.take i).flatten++(P++(L.drop (i+1)).flatten):=by
  rw [←QK,←Zr]
  congr 1
  conv=>lhs; rw [←ZV i L,List.drop_eq_getElem_cons h1.1,h1.2]
 have e2:(L.take i).flatten.length=i*n:=by
  rw [Va (n:=n) fun x hx=>hL x (QP hx),Q7,Ze (Nat.le_of_lt h1.1)]
 constructor
 ·rw [e1,JE,JE,←e2,←Qp,PU,←lP,←Qp P,List.take_left]
 ·rw [Qp,Va hL]
  have:=Nat.mul_le_mul_right n (Nat.succ_le_of_lt h1.1)
  rwa [VX] at this
def Sq (G:List Ob) (es:Nat) (cs:List Value) (n:Nat) (v:Value):Prop:=(v=.slice none 0 0∧n=0∧cs=[])∨∃ id c w e s,v=.slice (some ⟨id,0,none⟩) n c∧G[id]?=some ⟨cs,true,w,e,s⟩∧cs.length=n*es
theorem Sq.app {G m:List Ob} {es:Nat} {cs:List Value} {n:Nat} {v:Value} (h:Sq G es cs n v):Sq (G++m) es cs n v:=by
 rcases h with h | ⟨id,c,w,e,s,h1,h2,h3⟩
 ·exact .inl h
 ·exact .inr ⟨id,c,w,e,s,h1,by rw [Qa (Qf.1 h2).1]; exact h2,h3⟩
theorem Sq.shape {G:List Ob} {es:Nat} {cs:List Value} {n:Nat} {v:Value} (h:Sq G es cs n v):∃ a c,v=.slice a n c:=by
 rcases h with ⟨rfl,rfl,-⟩ | ⟨id,c,w,e,s,rfl,-⟩
 ·exact ⟨_,_,rfl⟩
 ·exact ⟨_,_,rfl⟩
def KE (B i:Nat):Prop:=i<B+4∧i≠B+2
def W1 (B:Nat) (G0 G:List Ob) (t:List Nat):Prop:=∃ v,Wr (KE B) G (B+3) v t∧∀ i,KE B i→i≠B+3→G[i]?=G0[i]?
theorem Wo {B:Nat} {M:List Nat} (h:∀ i∈M,i=B+3∨¬ KE B i):Qy B [] M=[]:=QD fun i hi=>by
 rcases h i hi with h | h
 ·omega
 ·rcases Zm i B with h' | h'
  ·exact absurd ⟨by omega,by omega⟩ h
  ·exact h'
def _root_.Go.Value.slBlock (v:Value) (id:Nat):Prop:=match v with | .slice (some a) _ _=>a.block=id | _=>False
def Tz (B n:Nat) (pv:Value) (i:Nat) (G:List Ob) (ex:Env):St:=⟨[(1,.pointer (some ⟨B,0,none⟩)),(4,.pointer (some ⟨B+1,0,none⟩)),(6,.pointer (some ⟨B+3,0,none⟩)),(68,pv),(69,.int .i64 n),(70,.int .i64 i)]++ex,G,[]⟩
theorem cP {P:List Nat} (hs:Sq G0 32 (u8s L.flatten) n pv) (hB:∀ id,(∃ o,G0[id]?=some o)→pv.slBlock id→id<B) (hL:∀ x∈L,x.length=32) (hi:L[i]?=some P) (hin:i<n) (hn:n≤1000) (lt:t.length≤2^40) (h:W1 B G0 G t) :
  ∃ G',Q8 T B Bt (Tz B n pv i G [])=some (.normal,Tz B n pv (i+1) G' [])∧W1 B G0 G' (t++P):=by
 rcases hs with ⟨-,rfl,-⟩ | ⟨id,c,w,e,s,rfl,h2,h3⟩
 ·omega
 obtain ⟨v,hw,hf⟩:=h
 have lP:=hL P (Qz hi)
 obtain ⟨c1,c2⟩:=Wq hL hi
 have hid:id<B:=hB id ⟨_,h2⟩ rfl
 have g0:∀ m,(G++m)[id]?=some ⟨u8s L.flatten,true,w,e,s⟩:=fun m=>by
  have:=(hf id ⟨by omega,by omega⟩ (by omega)).trans h2
  rw [Qa (Qf.1 this).1]; exact this
 have g00:=g0 []
 rw [Q9] at g00
 have hx:(G++[(⟨u8s P,true,true,true,1⟩:Ob)])[G.length]?=some ⟨u8s P,true,true,true,1⟩:=by rw [Qd (Qk _),Qq]; rfl
 have he:=UF (c:=32) hx
 rw [lP] at he
 obtain ⟨v',G',M,k1,k2,k3,k4,k5,k6,k7,k8,k9⟩:=(hw.app (m:=[(⟨u8s P,true,true,true,1⟩:Ob)])).put (p:=P) (x := .slice (some ⟨G.length,0,none⟩) 32 32) (by rw [lP]; rfl) (by rw [lP]; exact he) (by rw [lP]; omega)
 refine ⟨_,?_,v',k6,fun j hj hne=>by rw [k9 j hj hne,Qa (hw.kl j hj)]; exact hf j hj hne⟩
 have o1:=hw.ob
 have o2:(G++[(⟨u8s P,true,true,true,1⟩:Ob)])[B+3]?=some (wob v):=hw.app.ob
 have hz:Qc 32 (Value.int .u8 0)=u8s (Qc 32 0):=by simp [u8s]
 have lz:(Qc 32 0).length=32:=Qn
 have sp:∀ a b:Value,splice [a] 0 [b]=[b]:=fun _ _=>rfl
 have b3:ZC 32 32 none none none=some (0,32,32):=rfl
 have e1:((i:Int)<(n:Int))=True:=eq_true (by omega)
 have w3:IntKind.i64.wrap ((i:Int)+1)=((i+1:Nat):Int):=Z0 (b:=1) (by omega)
 have im:Qy B [] M=[]:=Wo fun j hj=>.inr (k7 j hj)
 have im1:Qy B [] [B+3]=[]:=QD (by simp)
 have im2:Qy B [] [G.length]=[]:=QD (by have:=hw.kl (B+3) ⟨by omega,by omega⟩; simp; omega)
 unfold wob at *
 clear h3 hf hL hB hw hi k6 k9 he hx
 generalize Qc 32 0=Z,u8s L.flatten=LF at *
 generalize hik:i*32=ik at *
 generalize hi1:i+1=i1 at *
 simp only [Tz,Bt,Q0,quiet,cW,↓pW,reduceCtorEq,seval,-Qb,hz,hik,hi1,e1,w3,g0,g00,c1,c2,o1,o2,k1,k2,k3,k4,k5,sp,b3,im,im1,im2,lP,lz,Q6,QY,Zf,ZY,Zg,Qp,Qn,Ja]
theorem P3 (hs:Sq G0 32 (u8s L.flatten) n pv) (hB:∀ id,(∃ o,G0[id]?=some o)→pv.slBlock id→id<B) (hL:∀ x∈L,x.length=32) (hn:L.length=n) (hm:n≤1000) (lt:t.length≤2^30) (h:W1 B G0 G t) :
  ∃ G',Q8 T B (.block 1 (.loop Bt)) (Tz B n pv 0 G [])=some (.normal,Tz B n pv n G' [(71,.bool false)])∧W1 B G0 G' (t++L.flatten):=by
 obtain ⟨st,hloop,G',rfl,r⟩:=Zc (T:=T) (base:=B) (id:=1) (body:=Bt)
  (fun k st=>∃ G,st=Tz B n pv k G []∧W1 B G0 G (t++(L.take k).flatten))
  (Q:=fun st=>∃ G,st=Tz B n pv n G [(71,.bool false)]∧W1 B G0 G (t++L.flatten))
  n (s:=Tz B n pv 0 G []) ⟨G,rfl,by rw [Xc,Z5,Q9]; exact h⟩
  (fun k st hk hst=>by
   obtain ⟨G1,rfl,h1⟩:=hst
   obtain ⟨P,hP⟩:∃ P,L[k]?=some P:=⟨_,Qh (by omega)⟩
   have lk:(L.take k).flatten.length=k*32:=by rw [Va (n:=32) fun x hx=>hL x (QP hx),Q7,Ze (by omega)]
   obtain ⟨G2,b0,b1⟩:=cP hs hB hL hP hk hm (by rw [Qg,lk]; omega) h1
   refine ⟨_,b0,G2,rfl,?_⟩
   rw [ZG,hP,Zr,←Qv]
   simpa using b1)
  (fun st hst=>by
   obtain ⟨G1,rfl,h1⟩:=hst
   refine ⟨_,?_,G1,rfl,by rwa [Qu (by omega)] at h1⟩
   simp only [Tz,Bt,Q0,quiet,cW,↓pW,reduceCtorEq,seval,-Qb])
 exact ⟨G',hloop,r⟩
def Tx (B n:Nat) (pv:Value) (i:Nat) (G:List Ob) (ex:Env):St:=⟨[(1,.pointer (some ⟨B,0,none⟩)),(4,.pointer (some ⟨B+1,0,none⟩)),(6,.pointer (some ⟨B+3,0,none⟩)),(91,pv),(92,.int .i64 n),(93,.int .i64 i)]++ex,G,[]⟩
theorem cN {P:List Nat} (hs:Sq G0 64 (u8s L.flatten) n pv) (hB:∀ id,(∃ o,G0[id]?=some o)→pv.slBlock id→id<B) (hL:∀ x∈L,x.length=64) (hi:L[i]?=some P) (hin:i<n) (hn:n≤1000) (lt:t.length≤2^40) (h:W1 B G0 G t) :
  ∃ G',Q8 T B Bv (Tx B n pv i G [])=some (.normal,Tx B n pv (i+1) G' [])∧W1 B G0 G' (t++P):=by
 rcases hs with ⟨-,rfl,-⟩ | ⟨id,c,w,e,s,rfl,h2,h3⟩
 ·omega
 obtain ⟨v,hw,hf⟩:=h
 have lP:=hL P (Qz hi)
 obtain ⟨c1,c2⟩:=Wq hL hi
 have hid:id<B:=hB id ⟨_,h2⟩ rfl
 have g0:∀ m,(G++m)[id]?=some ⟨u8s L.flatten,true,w,e,s⟩:=fun m=>by
  have:=(hf id ⟨by omega,by omega⟩ (by omega)).trans h2
  rw [Qa (Qf.1 this).1]; exact this
 have g00:=g0 []
 rw [Q9] at g00
 have hx:(G++[(⟨u8s P,true,true,true,1⟩:Ob)])[G.length]?=some ⟨u8s P,true,true,true,1⟩:=by rw [Qd (Qk _),Qq]; rfl
 have he:=UF (c:=64) hx
 rw [lP] at he
 obtain ⟨v',G',M,k1,k2,k3,k4,k5,k6,k7,k8,k9⟩:=(hw.app (m:=[(⟨u8s P,true,true,true,1⟩:Ob)])).put (p:=P) (x := .slice (some ⟨G.length,0,none⟩) 64 64) (by rw [lP]; rfl) (by rw [lP]; exact he) (by rw [lP]; omega)
 refine ⟨_,?_,v',k6,fun j hj hne=>by rw [k9 j hj hne,Qa (hw.kl j hj)]; exact hf j hj hne⟩
 have o1:=hw.ob
 have o2:(G++[(⟨u8s P,true,true,true,1⟩:Ob)])[B+3]?=some (wob v):=hw.app.ob
 have hz:Qc 64 (Value.int .u8 0)=u8s (Qc 64 0):=by simp [u8s]
 have lz:(Qc 64 0).length=64:=Qn
 have sp:∀ a b:Value,splice [a] 0 [b]=[b]:=fun _ _=>rfl
 have b3:ZC 64 64 none none none=some (0,64,64):=rfl
 have e1:((i:Int)<(n:Int))=True:=eq_true (by omega)
 have w3:IntKind.i64.wrap ((i:Int)+1)=((i+1:Nat):Int):=Z0 (b:=1) (by omega)
 have im:Qy B [] M=[]:=Wo fun j hj=>.inr (k7 j hj)
 have im1:Qy B [] [B+3]=[]:=QD (by simp)
 have im2:Qy B [] [G.length]=[]:=QD (by have:=hw.kl (B+3) ⟨by omega,by omega⟩; simp; omega)
 unfold wob at *
 clear h3 hf hL hB hw hi k6 k9 he hx
 generalize Qc 64 0=Z,u8s L.flatten=LF at *
 generalize hik:i*64=ik at *
 generalize hi1:i+1=i1 at *
 simp only [Tx,Bv,Q0,quiet,cW,↓pW,reduceCtorEq,seval,-Qb,hz,hik,hi1,e1,w3,g0,g00,c1,c2,o1,o2,k1,k2,k3,k4,k5,sp,b3,im,im1,im2,lP,lz,Q6,QY,Zf,ZY,Zg,Qp,Qn,Ja]
theorem Px (hs:Sq G0 64 (u8s L.flatten) n pv) (hB:∀ id,(∃ o,G0[id]?=some o)→pv.slBlock id→id<B) (hL:∀ x∈L,x.length=64) (hn:L.length=n) (hm:n≤1000) (lt:t.length≤2^30) (h:W1 B G0 G t) :
  ∃ G',Q8 T B (.block 5 (.loop Bv)) (Tx B n pv 0 G [])=some (.normal,Tx B n pv n G' [(94,.bool false)])∧W1 B G0 G' (t++L.flatten):=by
 obtain ⟨st,hloop,G',rfl,r⟩:=Zc (T:=T) (base:=B) (id:=5) (body:=Bv)
  (fun k st=>∃ G,st=Tx B n pv k G []∧W1 B G0 G (t++(L.take k).flatten))
  (Q:=fun st=>∃ G,st=Tx B n pv n G [(94,.bool false)]∧W1 B G0 G (t++L.flatten))
  n (s:=Tx B n pv 0 G []) ⟨G,rfl,by rw [Xc,Z5,Q9]; exact h⟩
  (fun k st hk hst=>by
   obtain ⟨G1,rfl,h1⟩:=hst
   obtain ⟨P,hP⟩:∃ P,L[k]?=some P:=⟨_,Qh (by omega)⟩
   have lk:(L.take k).flatten.length=k*64:=by rw [Va (n:=64) fun x hx=>hL x (QP hx),Q7,Ze (by omega)]
   obtain ⟨G2,b0,b1⟩:=cN hs hB hL hP hk hm (by rw [Qg,lk]; omega) h1
   refine ⟨_,b0,G2,rfl,?_⟩
   rw [ZG,hP,Zr,←Qv]
   simpa using b1)
  (fun st hst=>by
   obtain ⟨G1,rfl,h1⟩:=hst
   refine ⟨_,?_,G1,rfl,by rwa [Qu (by omega)] at h1⟩
   simp only [Tx,Bv,Q0,quiet,cW,↓pW,reduceCtorEq,seval,-Qb])
 exact ⟨G',hloop,r⟩
def Ty (B n:Nat) (pv:Value) (i:Nat) (G:List Ob) (ex:Env):St:=⟨[(1,.pointer (some ⟨B,0,none⟩)),(4,.pointer (some ⟨B+1,0,none⟩)),(6,.pointer (some ⟨B+3,0,none⟩)),(81,pv),(82,.int .i64 n),(83,.int .i64 i)]++ex,G,[]⟩
def ns32 (L:List Nat):List Value:=L.map fun n=>.int .u32 (n:Nat)
theorem cO {L:List Nat} (hs:Sq G0 1 (ns32 L) n pv) (hB:∀ id,(∃ o,G0[id]?=some o)→pv.slBlock id→id<B) (hi:L[i]?=some x) (hin:i<n) (hn:n≤1000) (lt:t.length≤2^40) (h:W1 B G0 G t) :
  ∃ G',Q8 T B Bu (Ty B n pv i G [])=some (.normal,Ty B n pv (i+1) G' [])∧W1 B G0 G' (t++id4 x):=by
 rcases hs with ⟨-,rfl,-⟩ | ⟨id,c,w,e,s,rfl,h2,h3⟩
 ·omega
 obtain ⟨v,hw,hf⟩:=h
 have hid:id<B:=hB id ⟨_,h2⟩ rfl
 have g0:G[id]?=some ⟨ns32 L,true,w,e,s⟩:=(hf id ⟨by omega,by omega⟩ (by omega)).trans h2
 have c1:(ns32 L)[i]?=some (.int .u32 (x:Nat)):=by rw [ns32,Zq,hi]; rfl
 obtain ⟨v',G',M,k1,k2,k3,k4,k5⟩:=TZ (n:=x) hw (by omega)
 refine ⟨_,?_,v',k2,fun j hj hne=>by rw [k5 j hj hne]; exact hf j hj hne⟩
 have e1:((i:Int)<(n:Int))=True:=eq_true (by omega)
 have w3:IntKind.i64.wrap ((i:Int)+1)=((i+1:Nat):Int):=Z0 (b:=1) (by omega)
 have im:Qy B [] M=[]:=Wo k4
 have j1:i*1=i:=XK i
 clear h3 hf hB hw hi k2 k4 k5
 generalize ns32 L=LF at *
 generalize hi1:i+1=i1 at *
 simp only [Ty,Bu,Q0,quiet,cW,↓pW,reduceCtorEq,seval,-Qb,hi1,j1,e1,w3,g0,c1,k1,im,Q6,QY,Zf,ZY,Zg,Qp,Qn,Ja]
theorem Pz {L:List Nat} (hs:Sq G0 1 (ns32 L) n pv) (hB:∀ id,(∃ o,G0[id]?=some o)→pv.slBlock id→id<B) (hn:L.length=n) (hm:n≤1000) (lt:t.length≤2^30) (h:W1 B G0 G t) :
  ∃ G',Q8 T B (.block 3 (.loop Bu)) (Ty B n pv 0 G [])=some (.normal,Ty B n pv n G' [(84,.bool false)])∧W1 B G0 G' (t++(L.map id4).flatten):=by
 obtain ⟨st,hloop,G',rfl,r⟩:=Zc (T:=T) (base:=B) (id:=3) (body:=Bu)
  (fun k st=>∃ G,st=Ty B n pv k G []∧W1 B G0 G (t++((L.take k).map id4).flatten))
  (Q:=fun st=>∃ G,st=Ty B n pv n G [(84,.bool false)]∧W1 B G0 G (t++(L.map id4).flatten))
  n (s:=Ty B n pv 0 G []) ⟨G,rfl,by rw [Xc,JO,Z5,Q9]; exact h⟩
  (fun k st hk hst=>by
   obtain ⟨G1,rfl,h1⟩:=hst
   obtain ⟨x,hx⟩:∃ x,L[k]?=some x:=⟨_,Qh (by omega)⟩
   have lk:((L.take k).map id4).flatten.length=k*4:=by
    rw [Va (n:=4) fun x hx=>by obtain ⟨y,-,rfl⟩:=Jc.1 hx; rfl,JF,Q7,Ze (by omega)]
   obtain ⟨G2,b0,b1⟩:=cO hs hB hx hk hm (by rw [Qg,lk]; omega) h1
   refine ⟨_,b0,G2,rfl,?_⟩
   rw [ZG,hx,JS,Zr,←Qv]
   simpa using b1)
  (fun st hst=>by
   obtain ⟨G1,rfl,h1⟩:=hst
   refine ⟨_,?_,G1,rfl,by rwa [Qu (by omega)] at h1⟩
   simp only [Ty,Bu,Q0,quiet,cW,↓pW,reduceCtorEq,seval,-Qb])
 exact ⟨G',hloop,r⟩
theorem OutS.toK {K K':Nat→Prop} {G:List Ob} {v:Value} {t:List Nat} (h:OutS K G v t) (hk:∀ i,¬ K i→¬ K' i):OutS K' G v t:=by
 rcases h with ⟨id,h1,h0,h2⟩ | h
 ·exact .inl ⟨id,hk _ h1,h0,h2⟩
 ·exact .inr (h.toK hk)
theorem Sq.lt {G:List Ob} {es:Nat} {cs:List Value} {n:Nat} {v:Value} (h:Sq G es cs n v) (id:Nat) (hb:v.slBlock id):id<G.length:=by
 rcases h with ⟨rfl,-⟩ | ⟨j,c,w,e,s,rfl,h2,-⟩
 ·exact hb.elim
 ·have:j=id:=hb
  subst this
  exact (Qf.1 h2).1
structure DPart (H:List Ob) (v:Value) (l:List Nat):Prop where
 shape:∃ (a:Option Addr) (c:Nat),v=.slice a l.length c
 reads:∀ G:List Ob,(∀ i,i<H.length→G[i]?=H[i]?)→elemsOf G 1 l.length v=some (u8s l)
theorem DPart.app {H m:List Ob} {v:Value} {l:List Nat} (h:DPart H v l):DPart (H++m) v l :=
 ⟨h.shape,fun G hg=>h.reads G fun i hi=>(hg i (by rw [Qg]; omega)).trans (Qa hi)⟩
structure FrV (H:List Ob) (ka na sa da:Value) (kl:List (List Nat)) (nl:List Nat) (sl:List (List Nat)) (dl:List Nat):Prop where
 kz:Sq H 32 (u8s kl.flatten) kl.length ka
 kx:∀ x∈kl,x.length=32
 nz:Sq H 1 (ns32 nl) nl.length na
 sz:Sq H 64 (u8s sl.flatten) sl.length sa
 sx:∀ x∈sl,x.length=64
 dz:DPart H da dl
def frB (k:Int) (kl:List (List Nat)) (nl:List Nat) (sl:List (List Nat)) (dl:List Nat) (d:Bool):List Nat:=[k.toNat]++kl.flatten++(nl.map id4).flatten++sl.flatten++(if d then id4 dl.length++dl else [])
def frE (k:Int) (a b c n:Nat):Int:=match shp k with
 | none=>110
 | some (x,y,z,d)=>if a=x∧b=y∧c=z∧(d=true∨n=0) then (if 16384<n then 2 else 0) else 110
theorem mw {k:Int} {y z:Nat} {d:Bool} (h:shp k=some (x,y,z,d)):IntKind.u8.wrap k=((k.toNat:Nat):Int)∧k.toNat<256∧x≤4∧y≤3∧z≤1:=by
 unfold shp at h
 repeat' split at h
 all_goals first | (cases h; subst_vars; decide) | cases h
theorem Bd {k:Int} {kl:List (List Nat)} {nl:List Nat} {sl:List (List Nat)} {dl:List Nat} (h:FrV H ka na sa da kl nl sl dl) :
  ∃ v l,Zd T 38 [.agg #[.int .i64 k,ka,na,sa,da]] H=some (.tuple #[v,.int .i64 (frE k kl.length nl.length sl.length dl.length)],H++l,[]) ∧
   ((∀ x y z d,shp k=some (x,y,z,d)→frE k kl.length nl.length sl.length dl.length=0→OutS (LtN H.length) (H++l) v (frB k kl nl sl dl d))∧(frE k kl.length nl.length sl.length dl.length≠0→v=.slice none 0 0)):=by
 have hsv:=eQ k
 obtain ⟨_,_,sk⟩:=h.kz.shape
 obtain ⟨_,_,sn⟩:=h.nz.shape
 obtain ⟨_,_,ss⟩:=h.sz.shape
 obtain ⟨_,_,sd⟩:=h.dz.shape
 have n1:vLen false ka=some (.int .i64 kl.length):=by rw [sk]; rfl
 have n2:vLen false na=some (.int .i64 nl.length):=by rw [sn]; rfl
 have n3:vLen false sa=some (.int .i64 sl.length):=by rw [ss]; rfl
 have n4:vLen false da=some (.int .i64 dl.length):=by rw [sd]; rfl
 have hd4:Go.Ev.lenV da=some dl.length:=by rw [sd]; rfl
 clear sk sn ss sd
 have z4:fillL [Value.int .i64 0,.int .i64 0,.int .i64 0,.bool false] []=some [Value.int .i64 0,.int .i64 0,.int .i64 0,.bool false]:=rfl
 have sp4:∀ (a b c d e f g h:Value),splice [a,b,c,d] 0 [e,f,g,h]=[e,f,g,h]:=fun _ _ _ _ _ _ _ _=>rfl
 have g0:∀ o1:Ob,(H++[o1])[H.length]?=some o1:=fun _=>by rw [Qd (Qk _),Qq]; rfl
 have g00:∀ o1 o2:Ob,(H++[o1,o2])[H.length]?=some o1:=fun _ _=>by rw [Qd (Qk _),Qq]; rfl
 have g01:∀ o1 o2:Ob,(H++[o1,o2])[H.length+1]?=some o2:=fun _ _=>by rw [Qd (by omega),Qs]; rfl
 have t01:∀ o1 o2 o:Ob,(H++[o1,o2]).set (H.length+1) o=H++[o1,o]:=fun _ _ _=>by rw [Q3 _ _ (by omega),Qs]; rfl
 have im1:∀ i,Qy H.length [] [H.length+i]=[]:=fun i=>QD (by simp)
 have ok1:∀ L:List Value,(Value.agg L.toArray).cells.toList=L:=fun _=>rfl
 have ok2:∀ L:List Value,(Value.agg L.toArray).cells.size=L.length:=fun _=>rfl
 have ok3:∀ L:List Value,okVar (Value.agg L.toArray)=true:=fun _=>rfl
 have cl0:∀ v:Value,[Value.int .i64 k,ka,na,sa,da][0]?=some (.int .i64 k):=fun _=>rfl
 have bad:∀ c:Int,c≠0→frE k kl.length nl.length sl.length dl.length=c→(∃ l,Zd T 38 [.agg #[.int .i64 k,ka,na,sa,da]] H=some (.tuple #[.slice none 0 0,.int .i64 c],H++l,[])) →
   ∃ v l,Zd T 38 [.agg #[.int .i64 k,ka,na,sa,da]] H=some (.tuple #[v,.int .i64 (frE k kl.length nl.length sl.length dl.length)],H++l,[]) ∧
    ((∀ x y z d,shp k=some (x,y,z,d)→frE k kl.length nl.length sl.length dl.length=0→OutS (LtN H.length) (H++l) v (frB k kl nl sl dl d))∧(frE k kl.length nl.length sl.length dl.length≠0→v=.slice none 0 0)):=by
  rintro c hc he ⟨l,hl⟩
  exact ⟨_,l,by rw [he]; exact hl,fun _ _ _ _ _ h0=>absurd (he.symm.trans h0) hc,fun _=>rfl⟩
 obtain hsh | ⟨x,y,z,d,hsh⟩:shp k=none∨∃ x y z d,shp k=some (x,y,z,d):=by
  rcases shp k with _ | ⟨x,y,z,d⟩
  ·exact .inl rfl
  ·exact .inr ⟨x,y,z,d,rfl⟩
 ·have rfv:rf (.tuple #[.agg #[Value.int .i64 0,.int .i64 0,.int .i64 0,.bool false],.int .i64 110])=true:=rfl
  rw [hsh] at hsv
  have hv:shV 0 0 0 false=[Value.int .i64 0,.int .i64 0,.int .i64 0,.bool false]:=rfl
  simp only [hv] at hsv
  refine bad 110 (by decide) (by unfold frE; rw [hsh]) (ZQ ?_ ?_)
  rotate_left
  ·rw [QE (fn:=UP) rfl]
   simp only [UP,Q0,quiet,cW,↓pW,reduceCtorEq,seval,-Qb,hsv,rfv,g0,g00,g01,t01,im1,ok1,ok2,ok3,n1,n2,n3,n4,z4,sp4]
   rfl
 ·rw [hsh] at hsv
  simp only [shV] at hsv
  have rfv:rf (.tuple #[.agg #[Value.int .i64 x,.int .i64 y,.int .i64 z,.bool d],.int .i64 0])=true:=rfl
  obtain ⟨wk,kb,lx,ly,lz⟩:=mw hsh
  by_cases q1:kl.length=x
  ·have b1:(((kl.length:Nat):Int) != (x:Int))=false:=by simp; omega
   by_cases q2:nl.length=y
   ·have b2:(((nl.length:Nat):Int) != (y:Int))=false:=by simp; omega
    by_cases q3:sl.length=z
    ·have b3:(((sl.length:Nat):Int) != (z:Int))=false:=by simp; omega
     obtain ⟨G0,hG0⟩:∃ X,X=H++[(⟨[.int .i64 k,ka,na,sa,da],true,true,true,1⟩:Ob),⟨[.int .i64 x,.int .i64 y,.int .i64 z,.bool d],true,true,true,1⟩,⟨u8s [k.toNat],true,true,true,1⟩,wob (.slice (some ⟨H.length+2,0,none⟩) 1 1)]:=⟨_,rfl⟩
     have lG0:G0.length=H.length+4:=by rw [hG0]; simp
     have gi:∀ j o,[(⟨[.int .i64 k,ka,na,sa,da],true,true,true,1⟩:Ob),⟨[.int .i64 x,.int .i64 y,.int .i64 z,.bool d],true,true,true,1⟩,⟨u8s [k.toNat],true,true,true,1⟩,wob (.slice (some ⟨H.length+2,0,none⟩) 1 1)][j]?=some o→G0[H.length+j]?=some o:=fun j o hj=>by rw [hG0,Qd (by omega),Qs]; exact hj
     have inv0:W1 H.length G0 G0 [k.toNat]:=⟨_,⟨gi 3 _ rfl,⟨by omega,by omega⟩,fun i hi=>by rw [lG0]; exact hi.1,.inl ⟨H.length+2,fun hh=>hh.2 rfl,rfl,gi 2 _ rfl⟩⟩,fun _ _ _=>rfl⟩
     have hap:∀ {es cs n v},Sq H es cs n v→Sq G0 es cs n v:=fun hh=>by rw [hG0]; exact hh.app
     have lkf:kl.flatten.length≤1000:=by rw [Va h.kx]; omega
     have lnf:(nl.map id4).flatten.length≤1000:=by rw [Va (n:=4) fun x hx=>by obtain ⟨y,-,rfl⟩:=Jc.1 hx; rfl,JF]; omega
     have lsf:sl.flatten.length≤1000:=by rw [Va h.sx]; omega
     obtain ⟨G1,m1,i1⟩:=P3 (hap h.kz) (fun id _ hb=>h.kz.lt id hb) h.kx rfl (by omega) (by show 1≤_; decide) inv0
     obtain ⟨G2,m2,i2⟩:=Pz (hap h.nz) (fun id _ hb=>h.nz.lt id hb) rfl (by omega) (by simp only [Qg,Zn,Z3]; omega) i1
     obtain ⟨G3,m3,i3⟩:=Px (hap h.sz) (fun id _ hb=>h.sz.lt id hb) h.sx rfl (by omega) (by simp only [Qg,Zn,Z3]; omega) i2
     have fr:∀ {G t},W1 H.length G0 G t→G[H.length]?=some ⟨[.int .i64 k,ka,na,sa,da],true,true,true,1⟩∧G[H.length+1]?=some ⟨[.int .i64 x,.int .i64 y,.int .i64 z,.bool d],true,true,true,1⟩∧(∀ i,i<H.length→G[i]?=H[i]?):=fun ⟨_,_,hf⟩ =>
      ⟨(hf _ ⟨by omega,by omega⟩ (by omega)).trans (gi 0 _ rfl),(hf _ ⟨by omega,by omega⟩ (by omega)).trans (gi 1 _ rfl),fun i hi=>by rw [hf i ⟨by omega,by omega⟩ (by omega),hG0,Qa hi]⟩
     obtain ⟨p10,p11,-⟩:=fr i1
     obtain ⟨p20,p21,-⟩:=fr i2
     obtain ⟨p30,p31,p32⟩:=fr i3
     have F0:H++[(⟨[.int .i64 k,ka,na,sa,da],true,true,true,1⟩:Ob),⟨[.int .i64 x,.int .i64 y,.int .i64 z,.bool d],true,true,true,1⟩,⟨u8s [k.toNat],true,true,true,1⟩,⟨[.slice (some ⟨H.length+2,0,none⟩) 1 1],true,true,true,1⟩]=G0:=hG0.symm
     have p00:G0[H.length]?=_:=gi 0 _ rfl
     have p01:G0[H.length+1]?=_:=gi 1 _ rfl
     have fk1:fillL [Value.int .u8 0] [(0,1,.int .u8 (k.toNat:Nat))]=some (u8s [k.toNat]):=rfl
     have fw1:∀ a:Addr,fillL [Value.slice none 0 0] [(0,1,.slice (some a) 1 1)]=some [.slice (some a) 1 1]:=fun _=>rfl
     have s1:∀ a b:Value,splice [a] 0 [b]=[b]:=fun _ _=>rfl
     have e3:∀ o1 o2 o3:Ob,(H++[o1,o2,o3])[H.length]?=some o1:=fun _ _ _=>by rw [Qd (Qk _),Qq]; rfl
     have e4:∀ o1 o2 o3 o4:Ob,(H++[o1,o2,o3,o4])[H.length+3]?=some o4:=fun _ _ _ _=>by rw [Qd (by omega),Qs]; rfl
     have e5:∀ o1 o2 o3 o4 o:Ob,(H++[o1,o2,o3,o4]).set (H.length+3) o=H++[o1,o2,o3,o]:=fun _ _ _ _ _=>by rw [Q3 _ _ (by omega),Qs]; rfl
     simp only [Tz,Ty,Tx,Qw,Qr,show ((0:Nat):Int)=0 from rfl] at m1 m2 m3
     obtain ⟨v3,w3,f3⟩:=i3
     have lt3:([k.toNat]++kl.flatten++(nl.map id4).flatten++sl.flatten).length≤4000:=by simp only [Qg,Zn,Z3]; omega
     cases d
     ·by_cases q4:dl.length=0
      ·have c1:((0:Int)<(dl.length:Int))=False:=eq_false (by omega)
       have c2:((16384:Int)<(dl.length:Int))=False:=eq_false (by omega)
       have hE:frE k kl.length nl.length sl.length dl.length=0:=by
        unfold frE; rw [hsh]; simp only [q1,q2,q3,q4,and_self,or_true,if_true]; rfl
       obtain ⟨l,hl⟩:=XG (by have:=w3.kl (H.length+3) ⟨by omega,by omega⟩; omega) p32
       have ow:=w3.ob
       unfold wob at ow
       refine ⟨v3,l,?_,fun _ _ _ _ e _ => ?_,fun hh=>absurd hE hh⟩
       ·rw [hE,←hl]
        clear i1 i2 inv0 gi fr hG0 hap f3 w3 p32 lt3
        rw [QE (fn:=UP) rfl]
        simp only [UP,Q0,quiet,cW,↓pW,reduceCtorEq,seval,-Qb,hsv,rfv,g0,g00,g01,t01,im1,ok1,ok2,ok3,n1,n2,n3,n4,z4,sp4,b1,b2,b3,c1,c2,wk,fk1,fw1,s1,e3,e4,e5,F0,p00,p01,m1,p10,p11,m2,p20,p21,m3,p30,p31,ow]
       ·rw [hsh] at e
        cases e
        rw [←hl]
        refine OutS.toK (K:=KE H.length) ?_ (fun i hi h'=>hi ⟨by have:i<H.length:=h'; omega,by have:i<H.length:=h'; omega⟩)
        have:=w3.out
        simpa [frB] using this
      ·have c1:((0:Int)<(dl.length:Int))=True:=eq_true (by omega)
       refine bad 110 (by decide) (by unfold frE; rw [hsh]; exact if_neg fun hh=>by rcases hh.2.2.2 with hh | hh; cases hh; exact q4 hh) (ZQ ?_ ?_)
       rotate_left
       ·rw [QE (fn:=UP) rfl]
        simp only [UP,Q0,quiet,cW,↓pW,reduceCtorEq,seval,-Qb,hsv,rfv,g0,g00,g01,t01,im1,ok1,ok2,ok3,n1,n2,n3,n4,z4,sp4,b1,b2,b3,c1]
        rfl
     ·by_cases q4:16384<dl.length
      ·have c2:((16384:Int)<(dl.length:Int))=True:=eq_true (by omega)
       refine bad 2 (by decide) (by unfold frE; rw [hsh]; simp only [q1,q2,q3,q4,and_self,true_or,if_true]) (ZQ ?_ ?_)
       rotate_left
       ·rw [QE (fn:=UP) rfl]
        simp only [UP,Q0,quiet,cW,↓pW,reduceCtorEq,seval,-Qb,hsv,rfv,g0,g00,g01,t01,im1,ok1,ok2,ok3,n1,n2,n3,n4,z4,sp4,b1,b2,b3,c2]
        rfl
      ·have c2:((16384:Int)<(dl.length:Int))=False:=eq_false (by omega)
       have hE:frE k kl.length nl.length sl.length dl.length=0:=by
        unfold frE; rw [hsh]; simp only [q1,q2,q3,q4,and_self,true_or,if_true,if_false]
       obtain ⟨v4,G4,M4,k1,k2,k3,k4,k5⟩:=TZ (n:=dl.length) w3 (by omega)
       have im4:Qy H.length [] M4=[]:=Wo k4
       have p42:∀ i,i<H.length→G4[i]?=H[i]? := fun i hi=>(k5 i ⟨by omega,by omega⟩ (by omega)).trans (p32 i hi)
       have p40:=(k5 H.length ⟨by omega,by omega⟩ (by omega)).trans p30
       obtain ⟨v5,G5,M5,j1,j2,j3,j4,j5,j6,j7,j8,j9⟩:=k2.put hd4 (h.dz.reads G4 p42) (by rw [Qg]; show _+4+_≤_; omega)
       have im5:Qy H.length [] M5=[]:=Wo fun i hi=>.inr (j7 i hi)
       have im3:Qy H.length [] [H.length+3]=[]:=im1 3
       obtain ⟨l,hl⟩:∃ l,G5.set (H.length+3) (wob v5)=H++l:=XG (by have:=k2.kl (H.length+3) ⟨by omega,by omega⟩; rw [Qo]; omega) fun i hi=>(j9 i ⟨by omega,by omega⟩ (by omega)).trans (p42 i hi)
       have ow4:=k2.ob
       have ow5:=j6.ob
       have wu:IntKind.u32.wrap (dl.length:Int)=(dl.length:Nat):=by
        have:=BS (n:=dl.length) (by omega)
        exact this
       refine ⟨v5,l,?_,fun _ _ _ _ e _ => ?_,fun hh=>absurd hE hh⟩
       ·rw [hE,←hl]
        unfold wob at *
        clear i1 i2 inv0 gi fr hG0 hap f3 w3 p32 lt3 k2 j6 k4 k5 j7 j9 p42
        rw [QE (fn:=UP) rfl]
        simp only [UP,Q0,quiet,cW,↓pW,reduceCtorEq,seval,-Qb,hsv,rfv,g0,g00,g01,t01,im1,im4,im5,im3,ok1,ok2,ok3,n1,n2,n3,n4,z4,sp4,b1,b2,b3,c2,wk,wu,fk1,fw1,s1,e3,e4,e5,F0,p00,p01,m1,p10,p11,m2,p20,p21,m3,p30,p31,k1,p40,ow4,j1,j2,j3,j4,j5,ow5]
       ·rw [hsh] at e
        cases e
        rw [←hl]
        refine OutS.toK (K:=KE H.length) ?_ (fun i hi h'=>hi ⟨by have:i<H.length:=h'; omega,by have:i<H.length:=h'; omega⟩)
        have:=j6.out
        simpa [frB] using this
    ·have b3:(((sl.length:Nat):Int) != (z:Int))=true:=by simp; omega
     refine bad 110 (by decide) (by unfold frE; rw [hsh]; exact if_neg fun hh=>q3 hh.2.2.1) (ZQ ?_ ?_)
     rotate_left
     ·rw [QE (fn:=UP) rfl]
      simp only [UP,Q0,quiet,cW,↓pW,reduceCtorEq,seval,-Qb,hsv,rfv,g0,g00,g01,t01,im1,ok1,ok2,ok3,n1,n2,n3,n4,z4,sp4,b1,b2,b3]
      rfl
   ·have b2:(((nl.length:Nat):Int) != (y:Int))=true:=by simp; omega
    refine bad 110 (by decide) (by unfold frE; rw [hsh]; exact if_neg fun hh=>q2 hh.2.1) (ZQ ?_ ?_)
    rotate_left
    ·rw [QE (fn:=UP) rfl]
     simp only [UP,Q0,quiet,cW,↓pW,reduceCtorEq,seval,-Qb,hsv,rfv,g0,g00,g01,t01,im1,ok1,ok2,ok3,n1,n2,n3,n4,z4,sp4,b1,b2]
     rfl
  ·have b1:(((kl.length:Nat):Int) != (x:Int))=true:=by simp; omega
   refine bad 110 (by decide) (by unfold frE; rw [hsh]; exact if_neg fun hh=>q1 hh.1) (ZQ ?_ ?_)
   rotate_left
   ·rw [QE (fn:=UP) rfl]
    simp only [UP,Q0,quiet,cW,↓pW,reduceCtorEq,seval,-Qb,hsv,rfv,g0,g00,g01,t01,im1,ok1,ok2,ok3,n1,n2,n3,n4,z4,sp4,b1]
    rfl
theorem FrV.app {H m:List Ob} {ka na sa da:Value} {kl:List (List Nat)} {nl:List Nat} {sl:List (List Nat)} {dl:List Nat} (h:FrV H ka na sa da kl nl sl dl):FrV (H++m) ka na sa da kl nl sl dl :=
 ⟨h.kz.app,h.kx,h.nz.app,h.sz.app,h.sx,h.dz.app⟩
theorem Sq.some_of {G:List Ob} {es:Nat} {cs:List Value} {n:Nat} {v:Value} (h:Sq G es cs n v) (hn:0<n):∃ id c w e s,v=.slice (some ⟨id,0,none⟩) n c∧G[id]?=some ⟨cs,true,w,e,s⟩∧cs.length=n*es:=by
 rcases h with ⟨-,h,-⟩ | h
 ·omega
 ·exact h
theorem BV {p q r v:List Nat} (h:v.length=q.length) (hp:p.length=n):splice (u8s (p++(q++r))) n (u8s v)=u8s (p++(v++r)):=by
 have:=TE (a:=u8s p) (b:=u8s (q++r)) (v:=u8s v) (n:=n) (k:=0) (by rw [Qp,hp]) (by rw [Qp,Qp,Qg]; omega)
 rw [ZH] at this
 rw [JE,this,JE q,TF (by rw [Qp,Qp,h]),←JE,←JE]
def JC (nm:List Nat) (e m:Nat):List Nat:=frB 5 [nm] [e,m] [Qc 64 0] [] true
theorem R6 (hk:Sq H 32 (u8s nm) 1 ka) (hn:Sq H 1 (ns32 [e,m]) 2 na) (lk:nm.length=32) :
  ∃ v l,Zd T 48 [.agg #[.int .i64 5,ka,na,sa,da]] H=some (v,H++l,[])∧OutS (LtN H.length) (H++l) v (JC nm e m):=by
 have hz64:=YQ
 have lz:(Qc 64 0).length=64:=Qn
 obtain ⟨m1,hm1⟩:∃ X,X=[(⟨[.int .i64 5,ka,na,.slice (some ⟨H.length+1,0,none⟩) 1 1,.slice none 0 0],true,true,true,1⟩:Ob),⟨u8s (Qc 64 0),true,true,true,1⟩]:=⟨_,rfl⟩
 have g1:(H++m1)[H.length+1]?=some ⟨u8s (Qc 64 0),true,true,true,1⟩:=by rw [hm1,Qd (by omega),Qs]; rfl
 have F:FrV (H++m1) ka na (.slice (some ⟨H.length+1,0,none⟩) 1 1) (.slice none 0 0) [nm] [e,m] [Qc 64 0] [] :=
  ⟨by rw [show [nm].flatten=nm by simp]; exact hk.app,fun x hx=>by rw [Zk.1 hx]; exact lk,hn.app,.inr ⟨_,1,_,_,_,rfl,by rw [show [Qc 64 0].flatten=Qc 64 0 by simp]; exact g1,by rw [Qp]; simp⟩,fun x hx=>by rw [Zk.1 hx]; exact lz,⟨⟨_,_,rfl⟩,fun _ _=>rfl⟩⟩
 obtain ⟨v,l,he,q1,-⟩:=Bd (k:=5) F
 have hE:frE 5 [nm].length [e,m].length [Qc 64 0].length ([]:List Nat).length=0:=rfl
 have q2:=q1 1 2 1 true rfl hE
 rw [hE,Qv] at he
 rw [Qv] at q2
 refine ⟨v,m1++l,?_,q2.toK fun i hi h=>hi (by have:i<H.length:=h; show i<(H++m1).length; rw [Qg]; omega)⟩
 have g0:(H++(m1++l))[H.length]?=some ⟨[.int .i64 5,ka,na,.slice (some ⟨H.length+1,0,none⟩) 1 1,.slice none 0 0],true,true,true,1⟩:=by rw [hm1,Qd (by omega),Qq]; rfl
 have g00:m1[0]?=some ⟨[.int .i64 5,ka,na,.slice (some ⟨H.length+1,0,none⟩) 1 1,.slice none 0 0],true,true,true,1⟩:=by rw [hm1]; rfl
 have h1:=hm1.symm
 have f64:=Fu lz
 rw [hz64] at f64
 have fz:∀ L:List Value,fillL L []=some L:=fun _=>rfl
 have ok1:∀ L:List Value,(Value.agg L.toArray).cells.toList=L:=fun _=>rfl
 have ok2:∀ L:List Value,(Value.agg L.toArray).cells.size=L.length:=fun _=>rfl
 have ok3:∀ L:List Value,okVar (Value.agg L.toArray)=true:=fun _=>rfl
 have e2:∀ o1:Ob,(H++[o1])[H.length]?=some o1:=fun _=>by rw [Qd (Qk _),Qq]; rfl
 have e3:∀ o1 o2:Ob,(H++[o1,o2])[H.length]?=some o1:=fun _ _=>by rw [Qd (Qk _),Qq]; rfl
 have t3:∀ o1 o2 o:Ob,(H++[o1,o2]).set H.length o=H++[o,o2]:=fun _ _ _=>by rw [Q3 _ _ (Qk _),Qq]; rfl
 have cl5:∀ a b c d e:Value,Q2 5 [a,b,c,d,e]=[a,b,c,d,e]:=fun _ _ _ _ _=>rfl
 clear hm1 F q1 q2 hE
 generalize Qc 64 0=Z64 at *
 rw [QE (fn:=oF) rfl]
 simp only [oF,Q0,quiet,cW,↓pW,reduceCtorEq,seval,-Qb,he,g0,g00,h1,f64,fz,hz64,e2,e3,t3,cl5,ok1,ok2,ok3,lz,Q6,QY,Zf,ZY,Zg,Qp,Qn,Ja]
theorem AQ (h1:nm.length=32):(plc nm e m key tl)[32]?=some (.int .u32 e):=by
 rw [plc,Qd (by rw [Qp,h1]; decide),Qp,h1]; rfl
theorem Mm (h1:nm.length=32):Q2 32 (plc nm e m key tl)=u8s nm:=by
 rw [plc,JR (by rw [Qp,h1])]
theorem Rm (h1:nm.length=32) (h2:key.length=32):Zw 66 (plc nm e m key tl)=tl:=by
 rw [Dd]
 exact Xt (JK (tl:=[]) h1 h2)
theorem P7 {a b c:List Nat} (la:a.length=32) (lb:b.length=32) (lc:c.length=32):fillL (Qc 96 (Value.int .u8 0)) [(0,32,.agg (u8s a).toArray),(32,32,.agg (u8s b).toArray),(64,32,.agg (u8s c).toArray)]=some (u8s [a,b,c].flatten):=by
 have hz:Qc 96 (Value.int .u8 0)=u8s (zK++(zK++(zK++[]))):=rfl
 have ct:∀ l:List Nat,(Value.agg (u8s l).toArray).cells.toList=u8s l:=fun _=>rfl
 have lz:=PY
 have L:∀ {w x y:List Nat},w.length=32→x.length=32→y.length=32→(u8s (w++(x++(y++[])))).length=96:=fun hw hx hy=>by simp [Qp,hw,hx,hy]
 have e1:=BV (p:=[]) (q:=zK) (v:=a) (r:=zK++(zK++[])) (la.trans lz.symm) (n:=0) rfl
 have e2:=BV (p:=a) (q:=zK) (v:=b) (r:=zK++[]) (lb.trans lz.symm) la
 have e3:=BV (p:=a++b) (q:=zK) (v:=c) (r:=[]) (lc.trans lz.symm) (n:=64) (by rw [Qg,la,lb])
 simp only [Qv,Qr] at e1 e2 e3
 rw [hz,XJ (VF la) (by rw [L lz lz lz]; decide) rfl,ct,e1,XJ (VF lb) (by rw [L la lz lz]; decide) rfl,ct,e2,
  XJ (VF lc) (by rw [L la lb lz]; decide) rfl,ct,e3]
 rfl
def CT (nm key sg pub:List Nat) (e m B:Nat):List Ob:=[⟨plc nm e m key (u8s sg),true,true,true,1⟩,⟨[.int .i64 4,.slice (some ⟨B+2,0,none⟩) 3 3,.slice (some ⟨B+3,0,none⟩) 2 2,.slice none 0 0,.slice none 0 0],true,true,true,1⟩,⟨u8s [nm,key,pub].flatten,true,true,true,1⟩,⟨ns32 [e,m],true,true,true,1⟩]
theorem CU (h1:nm.length=32) (h2:key.length=32) (h3:B32 sg) :
  Zd T 23 [.agg (plc nm e m key (u8s sg)).toArray] H=some (.agg #[.int .i64 4,.slice (some ⟨H.length+2,0,none⟩) 3 3,.slice (some ⟨H.length+3,0,none⟩) 2 2,.slice none 0 0,.slice none 0 0],H++CT nm key sg (pubL sg) e m H.length,[]):=by
 have n0:=JK (e:=e) (m:=m) (tl:=u8s sg) h1 h2
 rw [Qp,h3.len] at n0
 have r1:=Mm (e:=e) (m:=m) (key:=key) (tl:=u8s sg) h1
 have r2:=Ni (e:=e) (m:=m) (tl:=u8s sg) h1 h2
 have r3:Q2 32 (Zw 66 (plc nm e m key (u8s sg)))=u8s sg:=by rw [Rm h1 h2]; exact Q6 (by rw [Qp,h3.len])
 have r4:=AQ (e:=e) (m:=m) (key:=key) (tl:=u8s sg) h1
 have r5:=Kp (e:=e) (m:=m) (key:=key) (tl:=u8s sg) h1
 have hp:=aG h3.len h3.lt
 have lp:=Ym sg
 have f3:=P7 h1 h2 lp
 have f2:fillL [Value.int .u32 0,.int .u32 0] [(0,1,.int .u32 (e:Int)),(1,1,.int .u32 (m:Int))]=some [.int .u32 (e:Int),.int .u32 (m:Int)]:=rfl
 have f5:∀ a b:Addr,fillL [Value.int .i64 0,.slice none 0 0,.slice none 0 0,.slice none 0 0,.slice none 0 0] [(0,1,.int .i64 4),(1,1,.slice (some a) 3 3),(2,1,.slice (some b) 2 2)]=some [.int .i64 4,.slice (some a) 3 3,.slice (some b) 2 2,.slice none 0 0,.slice none 0 0]:=fun _ _=>rfl
 have sp5:∀ (a b c d e a' b' c' d' e':Value),splice [a,b,c,d,e] 0 [a',b',c',d',e']=[a',b',c',d',e']:=fun _ _ _ _ _ _ _ _ _ _=>rfl
 have cl5:∀ a b c d e:Value,Q2 5 [a,b,c,d,e]=[a,b,c,d,e]:=fun _ _ _ _ _=>rfl
 have e2:∀ o1 o2:Ob,(H++[o1,o2])[H.length]?=some o1:=fun _ _=>by rw [Qd (Qk _),Qq]; rfl
 have e3:∀ o1 o2 o3:Ob,(H++[o1,o2,o3])[H.length]?=some o1:=fun _ _ _=>by rw [Qd (Qk _),Qq]; rfl
 have e4:∀ o1 o2 o3 o4:Ob,(H++[o1,o2,o3,o4])[H.length+1]?=some o2:=fun _ _ _ _=>by rw [Qd (by omega),Qs]; rfl
 have t4:∀ o1 o2 o3 o4 o:Ob,(H++[o1,o2,o3,o4]).set (H.length+1) o=H++[o1,o,o3,o4]:=fun _ _ _ _ _=>by rw [Q3 _ _ (by omega),Qs]; rfl
 have im1:Qy H.length [] [H.length+1]=[]:=QD (by simp)
 have ok1:∀ L:List Value,(Value.agg L.toArray).cells.toList=L:=fun _=>rfl
 have ok2:∀ L:List Value,(Value.agg L.toArray).cells.size=L.length:=fun _=>rfl
 have ok3:∀ L:List Value,okVar (Value.agg L.toArray)=true:=fun _=>rfl
 have an:ns32 [e,m]=[.int .u32 e,.int .u32 m]:=rfl
 have hzf:XM=[Value.int .i64 0,.slice none 0 0,.slice none 0 0,.slice none 0 0,.slice none 0 0]:=rfl
 have l3:=h3.len
 unfold CT
 rw [an]
 clear h3
 generalize u8s [nm,key,pubL sg].flatten=KF at *
 generalize plc nm e m key (u8s sg)=S,pubL sg=pub at *
 rw [QE (fn:=oJ) rfl]
 simp only [oJ,Q0,quiet,cW,↓pW,reduceCtorEq,seval,-Qb,r1,r2,r3,r4,r5,hp,lp,f3,f2,f5,sp5,cl5,e2,e3,e4,t4,im1,ok1,ok2,ok3,n0,h1,h2,l3,hzf,Q6,QY,Zf,ZY,Zg,Qp,Qn,Ja]
theorem SF (h1:nm.length=32) (h2:key.length=32) (h3:pub.length=32):FrV (H++CT nm key sg pub e m H.length) (.slice (some ⟨H.length+2,0,none⟩) 3 3) (.slice (some ⟨H.length+3,0,none⟩) 2 2) (.slice none 0 0) (.slice none 0 0) [nm,key,pub] [e,m] [] []:=by
 have hk:∀ x∈[nm,key,pub],x.length=32:=fun x hx=>by
  simp only [J6,JI,or_false] at hx
  rcases hx with rfl | rfl | rfl
  ·exact h1
  ·exact h2
  ·exact h3
 have gi:∀ i ob,(CT nm key sg pub e m H.length)[i]?=some ob→(H++CT nm key sg pub e m H.length)[H.length+i]?=some ob:=fun i ob hm=>by rw [Qd (by omega),Qs]; exact hm
 exact ⟨.inr ⟨_,3,_,_,_,rfl,gi 2 _ rfl,by rw [Qp,Va hk]⟩,hk,.inr ⟨_,2,_,_,_,rfl,gi 3 _ rfl,rfl⟩,.inl ⟨rfl,rfl,rfl⟩,fun x hx=>absurd hx (by simp),⟨⟨_,_,rfl⟩,fun _ _=>rfl⟩⟩
theorem Ft (h1:nm.length=32) (h2:key.length=32):fillL MD [(0,32,.agg (u8s nm).toArray),(32,1,.int .u32 (e:Nat)),(33,1,.int .u32 (m:Nat)),(34,32,.agg (u8s key).toArray)]=some (plc nm e m key []):=by
 have ct:∀ l:List Nat,(Value.agg (u8s l).toArray).cells.toList=u8s l:=fun _=>rfl
 have lz:(Qc 32 0).length=32:=rfl
 have l0:=JK (e:=0) (m:=0) (tl:=[]) lz lz
 have l1:=JK (e:=0) (m:=0) (tl:=[]) h1 lz
 have l2:=JK (e:=e) (m:=0) (tl:=[]) h1 lz
 have l3:=JK (e:=e) (m:=m) (tl:=[]) h1 lz
 rw [T8,XJ (VF h1) (by rw [l0]; decide) rfl,ct,TQ lz h1,XJ (n:=1) rfl (by rw [l1]; decide) rfl,show (Value.int .u32 (e:Nat)).cells.toList=[.int .u32 (e:Nat)] from rfl,Xz,TR h1,
  XJ (n:=1) rfl (by rw [l2]; decide) rfl,show (Value.int .u32 (m:Nat)).cells.toList=[.int .u32 (m:Nat)] from rfl,Xz,Rl h1,XJ (VF h2) (by rw [l3]; decide) rfl,ct,Gb h1 lz h2,fillL]
theorem PZ:Xn=plc (Qc 32 0) 0 0 (Qc 32 0) []++(u8s (Qc 32 0)++[.slice none 0 0]):=rfl
theorem P9 (h1:nm.length=32) (h2:key.length=32) (h3:pub.length=32):fillL Xn [(0,66,.agg (plc nm e m key []).toArray),(66,32,.agg (u8s pub).toArray)]=some (plc nm e m key (u8s pub++[.slice none 0 0])):=by
 have ct:∀ l:List Value,(Value.agg l.toArray).cells.toList=l:=fun _=>rfl
 have lz:(Qc 32 0).length=32:=rfl
 have l0:=JK (e:=0) (m:=0) (tl:=[]) lz lz
 have l1:=JK (e:=e) (m:=m) (tl:=[]) h1 h2
 have c1:(Value.agg (plc nm e m key []).toArray).cells.size=66:=l1
 rw [PZ,XJ c1 (by simp only [Qg,l0]; decide) rfl,ct,Dc (by rw [l0,l1]),XJ (VF h3) (by simp only [Qg,l1,Qp]; decide) rfl,ct,
  TE (n:=66) (k:=0) l1 (by simp only [Qg,Qp,h3]; decide),TF (by rw [Qp,Qp,h3,lz]),fillL,←Dd]
theorem Ak {k0 k1 k2:List Nat} {j:Nat} (h:FrV H ka na sa da [k0,k1,k2] [i,j] [] []) :
  ∃ l,Zd T 21 [.agg #[.int .i64 4,ka,na,sa,da]] H=some (.tuple #[.agg (plc k0 i j k1 (u8s k2++[.slice none 0 0])).toArray,.int .i64 0],H++l,[]):=by
 obtain ⟨v,l,he,-⟩:=Bd (k:=4) (h.app (m:=[(⟨[.int .i64 4,ka,na,sa,da],true,true,true,1⟩:Ob),⟨Xn,true,true,true,1⟩]))
 rw [show frE 4 [k0,k1,k2].length [i,j].length ([]:List (List Nat)).length ([]:List Nat).length=0 from rfl] at he
 obtain ⟨G,hG⟩:∃ X,X=H++[(⟨[.int .i64 4,ka,na,sa,da],true,true,true,1⟩:Ob),⟨Xn,true,true,true,1⟩]++l:=⟨_,rfl⟩
 rw [←hG] at he
 have l0:k0.length=32:=h.kx _ (by simp)
 have l1:k1.length=32:=h.kx _ (by simp)
 have l2:k2.length=32:=h.kx _ (by simp)
 have nO:(plc k0 i j k1 (u8s k2++[.slice none 0 0])).length=99:=by rw [JK l0 l1,Qg,Qp,l2]; rfl
 have nP:=JK (e:=i) (m:=j) (tl:=[]) l0 l1
 rw [Z3] at nP
 have nz:Xn.length=99:=rfl
 have f1:=Ft (e:=i) (m:=j) l0 l1
 have f2:=P9 (e:=i) (m:=j) l0 l1 l2
 obtain ⟨O,hO⟩:∃ X,X=plc k0 i j k1 (u8s k2++[.slice none 0 0]):=⟨_,rfl⟩
 rw [←hO] at nO f2 ⊢
 have sz:splice Xn 0 O=O:=QO (by rw [nO,nz])
 have tO:Q2 99 O=O:=Qu (by rw [nO]; decide)
 have g0:G[H.length]?=some ⟨[.int .i64 4,ka,na,sa,da],true,true,true,1⟩:=by rw [hG,Qv,Qd (Qk _),Qq,Qw,List.getElem?_cons_zero]
 have g1:G[H.length+1]?=some ⟨Xn,true,true,true,1⟩:=by rw [hG,Qv,Qd (by omega),Qs]; rfl
 have g2:(G.set (H.length+1) ⟨O,true,true,true,1⟩)[H.length+1]?=some ⟨O,true,true,true,1⟩:=by rw [Qt (Qf.1 g1).1]
 have gH:∀ id o,H[id]?=some o→G[id]?=some o:=fun id o ho=>by rw [hG,Qv,Qa (Qf.1 ho).1]; exact ho
 obtain ⟨l',hl'⟩:∃ l',G.set (H.length+1) ⟨O,true,true,true,1⟩=H++l':=XG (by rw [Qo,hG]; simp) fun i hi=>by
  rw [Qm (by omega),hG,Qv,Qa hi]
 refine ⟨l',?_⟩
 rw [←hl']
 obtain ⟨kid,kc,kw,ke,ks,rfl,hk,-⟩:=h.kz.some_of (by simp)
 obtain ⟨nid,nc,nw,ne,ns',rfl,hn,-⟩:=h.nz.some_of (by simp)
 have hk':=gH _ _ hk
 have hn':=gH _ _ hn
 have a0:Q2 32 (u8s [k0,k1,k2].flatten)=u8s k0:=(Wq h.kx (i:=0) rfl).1
 have a1:Q2 32 (Zw 32 (u8s [k0,k1,k2].flatten))=u8s k1:=(Wq h.kx (i:=1) rfl).1
 have a2:Q2 32 (Zw 64 (u8s [k0,k1,k2].flatten))=u8s k2:=(Wq h.kx (i:=2) rfl).1
 have lk:(u8s [k0,k1,k2].flatten).length=96:=by rw [Qp,Va h.kx]; rfl
 have an:ns32 [i,j]=[.int .u32 i,.int .u32 j]:=rfl
 rw [an] at hn'
 have ok1:∀ L:List Value,(Value.agg L.toArray).cells.toList=L:=fun _=>rfl
 have ok2:∀ L:List Value,(Value.agg L.toArray).cells.size=L.length:=fun _=>rfl
 have ok3:∀ L:List Value,okVar (Value.agg L.toArray)=true:=fun _=>rfl
 have e0:∀ o1 o2:Ob,(H++[o1,o2])[H.length]?=some o1:=fun _ _=>by rw [Qd (Qk _),Qq]; rfl
 have im1:Qy H.length [] [H.length+1]=[]:=QD (by simp)
 have cl5:∀ a b c d e:Value,Q2 5 [a,b,c,d,e]=[a,b,c,d,e]:=fun _ _ _ _ _=>rfl
 have hlen:([k0,k1,k2]:List (List Nat)).length=3:=rfl
 have hlen2:([i,j]:List Nat).length=2:=rfl
 rw [hlen,hlen2] at he g0
 clear hG hl' hk hn h hO gH an
 generalize u8s [k0,k1,k2].flatten=KF at *
 generalize plc k0 i j k1 []=P at *
 rw [QE (fn:=oK) rfl]
 simp only [oK,hlen,hlen2,Q0,quiet,cW,↓pW,reduceCtorEq,seval,-Qb,he,e0,g0,g1,g2,hk',hn',a0,a1,a2,lk,f1,f2,sz,tO,nz,nO,nP,l0,l1,l2,im1,cl5,ok1,ok2,ok3,Q6,QY,Zf,ZY,Zg,Qp,Qn,Ja]
end Go.Ev.YtomfgcgnepfmjaaGreat
namespace Go.Ev.YtomfgcgnepfmjaaGreat
open Go Go.Ev
attribute [local congr] Jq Jz Jp J2 Jb
set_option maxRecDepth 100000
variable {nm k n s:List Nat}
theorem OutS.part {K:Nat→Prop} {G:List Ob} {v:Value} {t:List Nat} (h:OutS K G v t) (xt:∀ y∈t,y<256) (hl:t.length≤2^47-4096):HPart (LtN G.length) G v t:=by
 rcases h with ⟨id,-,rfl,h2⟩ | h
 ·exact HPart.whole (Qf.1 h2).1 h2 xt hl
 ·exact h.part xt (by omega)
theorem Bb (e m:Nat) (hn:B32 nm):∀ y∈JC nm e m,y<256:=fun y hy=>by
 simp only [JC,frB,QK,Z5,Jg,JO,Q9,QA,Zk,if_true] at hy
 rcases hy with (((h | h) | h | h) | h) | h
 ·subst h; decide
 ·exact hn.lt y h
 ·exact Lo e y h
 ·exact Lo m y h
 ·rw [List.eq_of_mem_replicate h]; decide
 ·exact Lo 0 y h
theorem WL (e m:Nat) (hn:nm.length=32):(JC nm e m).length=109:=by
 simp [JC,frB,id4,hn]
theorem mo {d:List Nat} (hk:B32 k) (ln:n.length=12) (xn:∀ y∈n,y<256) (xd:∀ y∈d,y<256) (xs:∀ y∈s,y<256) (ld:d.length≤2^40) (ls:s.length≤2^40):B16 (Gn k n d s):=by
 obtain ⟨G,hG⟩:∃ G:List Ob,G=[⟨u8s d,true,true,true,1⟩,⟨u8s s,true,true,true,1⟩,⟨[.slice (some ⟨1,0,none⟩) s.length s.length],true,true,true,1⟩]:=⟨_,rfl⟩
 have lG:G.length=3:=by rw [hG]; rfl
 have h:=(AD (H:=G) (dv := .slice (some ⟨0,0,none⟩) d.length d.length) (pv := .slice (some ⟨2,0,none⟩) 1 1) (xs:=[.slice (some ⟨1,0,none⟩) s.length s.length]) (ps:=[s]) hk ln xn (HPart.whole (by omega) (by rw [hG]; rfl) xd (by omega)) (.inr ⟨2,0,1,⟨[.slice (some ⟨1,0,none⟩) s.length s.length],true,true,true,1⟩,rfl,by rw [lG]; decide,by rw [hG]; rfl,rfl,fun i hi=>by rw [QB]⟩) (.cons (HPart.whole (by omega) (by rw [hG]; rfl) xs (by omega)) .nil) (by show 1<2^50; decide) (by simp; omega)).1
 rwa [show [s].flatten=s by simp] at h
theorem eT {d:List Nat} (hk:B32 k) (ln:n.length=12) (xn:∀ y∈n,y<256) (xd:∀ y∈d,y<256) (xs:∀ y∈s,y<256) (ld:d.length≤2^40) (ls:s.length≤2^40):(Y7 k n d s).length=d.length+16∧∀ y∈Y7 k n d s,y<256:=by
 have xm:=Ce (c:=1) hk ln xn xd
 have h:=mo hk ln xn xm xs (by rw [Kj]; exact ld) ls
 refine ⟨by rw [Y7,Qg,Kj,h.len],fun y hy => ?_⟩
 rcases QA.1 hy with h' | h'
 ·exact xm y h'
 ·exact h.lt y h'
def Dat (B:Nat) (G:List Ob) (v:Value) (dl:List Nat):Prop:=∃ id off c o,v=.slice (some ⟨id,off,none⟩) dl.length c∧Rd G id off dl∧dl.length≤c∧G[id]?=some o∧o.es=1∧B≤id
theorem Dat.keep {B:Nat} {H G:List Ob} {v:Value} {dl:List Nat} (h:Dat B H v dl) (hg:∀ i o,B≤i→H[i]?=some o→o.es=1→G[i]?=some o):Dat B G v dl:=by
 obtain ⟨id,off,c,o,h1,⟨⟨o',a1,a2,a3⟩,a4⟩,h3,h4,h5,h6⟩:=h
 have e:o'=o:=by rw [a1] at h4; exact Xq h4
 subst e
 exact ⟨id,off,c,o',h1,⟨⟨o',hg id o' h6 h4 h5,a2,a3⟩,a4⟩,h3,hg id o' h6 h4 h5,h5,h6⟩
theorem Rst.rd {B:Nat} {G:List Ob} {v:Value} {l:List Nat} (h:Rst (fun i=>i<B) G v l) (h0:0<l.length) (xl:∀ y∈l,y<256):Dat B G v l:=by
 obtain ⟨id,off,all,rfl,hb,hg,hl,hi⟩:=h.own_of h0
 refine ⟨id,off,_,_,rfl,⟨⟨_,hg,rfl,fun i hlt => ?_⟩,xl⟩,Qk _,hg,rfl,Nat.le_of_not_lt hb⟩
 have h1:all[off+i]?=some (l.getD i 0):=by rw [hi i hlt,Qx,Qh hlt]; rfl
 exact Jt h1
theorem Rd.part {H:List Ob} {id off c:Nat} {a:List Nat} (h:Rd H id off a) (h0:0<a.length) (hl:a.length≤2^47-128):HPart (fun i=>i<H.length) H (.slice (some ⟨id,off,none⟩) a.length c) a:=by
 obtain ⟨⟨o,h1,h2,h3⟩,h4⟩:=h
 refine ⟨⟨_,_,rfl⟩,fun G hg => ?_,h4,hl⟩
 have hG:liveAt G id=some o:=by rw [liveAt,hg id (Qf.1 h1).1,h1]; simp [h2]
 have hlen:off+(a.length-1)<o.cells.length:=(Qf.1 (h3 (a.length-1) (by omega))).1
 have h5:Q2 a.length (Zw off o.cells)=u8s a:=by
  apply ZK
  intro j
  by_cases hj:j<a.length
  ·rw [QS,if_pos hj,List.getElem?_drop,h3 j hj,Qx,Qh hj]
   exact (Jt (Qh hj)).symm
  ·rw [QI (by rw [Q7]; omega),QI (by rw [Qp]; omega)]
 have h6:off+a.length≤o.cells.length:=by omega
 simp [elemsOf,hG,h5,h6]
theorem Dat.part {B:Nat} {H:List Ob} {v:Value} {dl:List Nat} (h:Dat B H v dl) (h0:0<dl.length) (hl:dl.length≤2^47-128):HPart (fun i=>i<H.length) H v dl:=by
 obtain ⟨id,off,c,o,rfl,h2,-⟩:=h
 exact h2.part h0 hl
theorem OutS.ext {K:Nat→Prop} {G G':List Ob} {v:Value} {t:List Nat} (h:OutS K G v t) (hg:∀ i,i<G.length→G'[i]?=G[i]?):OutS K G' v t:=by
 rcases h with ⟨id,h1,h0,h2⟩ | h
 ·exact .inl ⟨id,h1,h0,(hg id (Qf.1 h2).1).trans h2⟩
 ·exact .inr (h.ext hg)
theorem OutS.dat {B:Nat} {G:List Ob} {v:Value} {t:List Nat} (h:OutS (fun i=>i<B) G v t) (h0:0<t.length) (xt:∀ y∈t,y<256):Dat B G v t:=by
 rcases h with ⟨id,hb,rfl,h2⟩ | h
 ·refine ⟨id,0,_,_,rfl,⟨⟨_,h2,rfl,fun i hlt => ?_⟩,xt⟩,Qk _,h2,rfl,Nat.le_of_not_lt hb⟩
  have h1:t[i]?=some (t.getD i 0):=by rw [Qx,Qh hlt]; rfl
  rw [QB]
  exact Jt h1
 ·exact h.rd h0 xt
def DX (ik ina is:Nat) (v:Value):Value := .agg #[.int .i64 5,.slice (some ⟨ik,0,none⟩) 1 1,.slice (some ⟨ina,0,none⟩) 2 2,.slice (some ⟨is,0,none⟩) 1 1,v]
structure Msg (B:Nat) (G:List Ob) (ik ina is:Nat) (v:Value) (nm:List Nat) (e m:Nat) (sig dl:List Nat):Prop where
 k:G[ik]?=some ⟨u8s nm,true,true,true,1⟩
 n:G[ina]?=some ⟨[.int .u32 e,.int .u32 m],true,true,true,1⟩
 s:G[is]?=some ⟨u8s sig,true,true,true,1⟩
 d:Dat B G v dl
 bk:B≤ik∧B≤ina∧B≤is
 lk:B32 nm
 ls:sig.length=64
 xs:∀ y∈sig,y<256
 ld:0<dl.length
theorem Msg.keep {B:Nat} {H G:List Ob} {ik ina is:Nat} {v:Value} {nm:List Nat} {e m:Nat} {sig dl:List Nat} (h:Msg B H ik ina is v nm e m sig dl) (hg:∀ i o,B≤i→H[i]?=some o→o.es=1→G[i]?=some o):Msg B G ik ina is v nm e m sig dl :=
 ⟨hg _ _ h.bk.1 h.k rfl,hg _ _ h.bk.2.1 h.n rfl,hg _ _ h.bk.2.2 h.s rfl,h.d.keep hg,h.bk,h.lk,h.ls,h.xs,h.ld⟩
theorem Msg.keep' {B C:Nat} {H G:List Ob} {ik ina is:Nat} {v:Value} {nm:List Nat} {e m:Nat} {sig dl:List Nat} (h:Msg B H ik ina is v nm e m sig dl) (hc:C≤B) (hg:∀ i o,B≤i→H[i]?=some o→o.es=1→G[i]?=some o):Msg C G ik ina is v nm e m sig dl :=
 have k:=h.keep hg
 ⟨k.k,k.n,k.s,by obtain ⟨id,off,c,o,h1,h2,h3,h4,h5,h6⟩:=k.d; exact ⟨id,off,c,o,h1,h2,h3,h4,h5,ZT hc h6⟩,⟨ZT hc k.bk.1,ZT hc k.bk.2.1,ZT hc k.bk.2.2⟩,k.lk,k.ls,k.xs,k.ld⟩
theorem Msg.ext {B:Nat} {H G:List Ob} {ik ina is:Nat} {v:Value} {nm:List Nat} {e m:Nat} {sig dl:List Nat} (h:Msg B H ik ina is v nm e m sig dl) (hg:∀ i,i<H.length→G[i]?=H[i]?):Msg B G ik ina is v nm e m sig dl :=
 h.keep fun i o _ ho _=>(hg i (Qf.1 ho).1).trans ho
theorem Msg.fr {B:Nat} {G:List Ob} {ik ina is:Nat} {v:Value} {nm:List Nat} {e m:Nat} {sig dl:List Nat} (h:Msg B G ik ina is v nm e m sig dl) (hl:dl.length≤16384):FrV G (.slice (some ⟨ik,0,none⟩) 1 1) (.slice (some ⟨ina,0,none⟩) 2 2) (.slice (some ⟨is,0,none⟩) 1 1) v [nm] [e,m] [sig] dl:=by
 have p:=h.d.part h.ld (by omega)
 exact ⟨.inr ⟨_,1,_,_,_,rfl,by rw [show [nm].flatten=nm by simp]; exact h.k,by rw [Qp]; simp [h.lk.len]⟩,fun x hx=>by rw [Zk.1 hx]; exact h.lk.len,.inr ⟨_,2,_,_,_,rfl,h.n,rfl⟩,.inr ⟨_,1,_,_,_,rfl,by rw [show [sig].flatten=sig by simp]; exact h.s,by rw [Qp]; simp [h.ls]⟩,fun x hx=>by rw [Zk.1 hx]; exact h.ls,⟨p.shape,fun G' hG'=>p.reads G' hG'⟩⟩
end Go.Ev.YtomfgcgnepfmjaaGreat
namespace Go.Ev.YtomfgcgnepfmjaaGreat
open Go Go.Ev
variable {c:Nat}
theorem bO {T:Tab} {n:Option Nat} {e:Env} {H:List Ob} {a:Addr} {x:Value×List Ob×Option (List Nat)×List Nat} (h:Jd T (.load n (.tmp c)) e H=some x) (hc:e.get c=some (.pointer (some a))):x.2=(H,some [a.block],[]):=by
 rw [UA] at h
 simp only [Q1,opd,hc,Qj] at h
 cases h1:liveAt H a.block with
 | none=>rw [h1] at h; cases h
 | some o =>
  rw [h1] at h
  simp only [Qj] at h
  split at h
  ·cases h2:ZX n o.cells a.off with
   | none=>rw [h2] at h; cases h
   | some v=>rw [h2] at h; cases h; rfl
  ·cases h
theorem Ok {T:Tab} {n:Nat} {v:Operand} {e:Env} {H:List Ob} {a:Addr} {x:Value×List Ob×Option (List Nat)×List Nat} (h:Jd T (.store n (.tmp c) v) e H=some x) (hc:e.get c=some (.pointer (some a))):x.2.2=(some [a.block],[a.block]):=by
 rw [WO] at h
 simp only [Q1,opd,hc,Qj] at h
 cases h1:opd e v with
 | none=>simp only [opd] at h1; rw [h1] at h; cases h
 | some w =>
  simp only [opd] at h1
  rw [h1] at h
  simp only [Qj] at h
  split at h
  ·cases h2:storeAt H a w.cells.toList with
   | none=>rw [h2] at h; cases h
   | some G=>rw [h2] at h; cases h; rfl
  ·cases h
theorem Ln {T:Tab} {b a c p q x y:Nat} {n k:Option Nat} {n':Nat} {r:List AOper} {keep:Option (List Nat)} {e:Env} {H:List Ob} {l:List Nat} {ac ap:Addr} (h1:Env.get e c=some (.pointer (some ac))) (h2:Env.get e p=some (.pointer (some ap))) (hne:(ac.block=ap.block)=False) (hxc:(c=x)=False) (hpx:(p=x)=False) (hpy:(p=y)=False) :
  Ch T b (.region (⟨some x,.load n (.tmp a),none⟩::⟨some y,.load k (.tmp c),none⟩::⟨none,.store n' (.tmp p) (.tmp q),none⟩::r) keep [(1,2)]) ⟨e,H,l⟩ =
   (steps T b false (⟨some x,.load n (.tmp a),none⟩::⟨some y,.load k (.tmp c),none⟩::⟨none,.store n' (.tmp p) (.tmp q),none⟩::r) ⟨e,H,l⟩).bind fun s'=>some (.normal,s'.after keep):=by
 unfold Ch
 rw [Vc]
 have hm:=YD (T:=T) (b:=b) (⟨some x,.load n (.tmp a),none⟩::⟨some y,.load k (.tmp c),none⟩::⟨none,.store n' (.tmp p) (.tmp q),none⟩::r) ⟨e,H,l⟩ []
 cases hs:steps T b false (⟨some x,.load n (.tmp a),none⟩::⟨some y,.load k (.tmp c),none⟩::⟨none,.store n' (.tmp p) (.tmp q),none⟩::r) ⟨e,H,l⟩ with
 | none =>
  rw [hs] at hm
  rw [Option.map_eq_none_iff.1 hm]; rfl
 | some s' =>
  have g:∀ e:Env,guardOf e none=some true:=fun _=>rfl
  rw [Kr,g]
  unfold steps at hs
  simp only [g] at hs
  dsimp only
  cases hx1:Jd T (.load n (.tmp a)) e H with
  | none=>rw [hx1] at hs; cases hs
  | some x1 =>
   rw [hx1] at hs
   simp only [Qj,Ke,Zh,if_false] at hs ⊢
   rw [Kr,g]
   unfold steps at hs
   simp only [g] at hs
   dsimp only
   cases hx2:Jd T (.load k (.tmp c)) (e.put (some x) x1.1) x1.2.1 with
   | none=>rw [hx2] at hs; cases hs
   | some x2 =>
    rw [hx2] at hs
    simp only [Qj,Ke,Zh,if_false] at hs ⊢
    have r2:=bO hx2 (a:=ac) (by show Env.get ((x,x1.1)::e) c=_; rw [GI hxc]; exact h1)
    rw [Kr,g]
    unfold steps at hs
    simp only [g] at hs
    dsimp only
    cases hx3:Jd T (.store n' (.tmp p) (.tmp q)) ((e.put (some x) x1.1).put (some y) x2.1) x2.2.1 with
    | none=>rw [hx3] at hs; cases hs
    | some x3 =>
     rw [hx3] at hs
     simp only [Qj,Ke,Zh,if_false] at hs ⊢
     have r3:=Ok hx3 (a:=ap) (by show Env.get ((y,x2.1)::(x,x1.1)::e) p=_; rw [GI hpy,GI hpx]; exact h2)
     obtain ⟨m,hm'⟩:=WM r _ ([]++[(x1.2.2.1,x1.2.2.2)]++[(x2.2.2.1,x2.2.2.2)]++[(x3.2.2.1,x3.2.2.2)]) s' hs
     rw [hm']
     simp only [Qj,r2,r3]
     have:ap.block≠ac.block:=fun h=>by rw [h] at hne; simp at hne
     simp [Z6,He,this]
theorem iw {α:Type} {x:Option α}:gate False x=none:=by simp [gate]
end Go.Ev.YtomfgcgnepfmjaaGreat
namespace Go.Ev.YtomfgcgnepfmjaaGreat
open Go Go.Ev
attribute [local congr] Jq Jz Jp J2 Jb
set_option maxRecDepth 100000
variable {nm key pub tx sg:List Nat} {e m id:Nat} {H:List Ob} {hv v:Value}
def Kb (nm key:List Nat):List Nat:=(nxK nm key).take 32
def msgD (nm key tx:List Nat) (e m:Nat):List Nat:=Y7 (WU (Kb nm key)) (WT (Kb nm key)) tx (JC nm e m)
def msgS (nm key sg tx:List Nat) (e m:Nat):List Nat:=Uu sg (JC nm e m++msgD nm key tx e m)
theorem bE (nm key:List Nat):∀ y∈nxK nm key,y<256:=Mo _ _ _
theorem Nv (nm key:List Nat):(nxK nm key).length=64:=by rw [nxK,EX,VB]
theorem YU (nm key:List Nat):B32 (Kb nm key):=⟨by rw [Kb,Q7,Nv]; rfl,fun y hy=>bE nm key y (QP hy)⟩
theorem Nu (nm key:List Nat):B32 ((nxK nm key).drop 32):=⟨by rw [QC,Nv],fun y hy=>bE nm key y (Zz hy)⟩
theorem Cz {k:List Nat} (hk:B32 k):B32 (WU k):=⟨(FT hk).1,fun y hy=>Mo _ _ _ y (QP hy)⟩
theorem Mw (k:List Nat):∀ y∈WT k,y<256:=fun y hy=>Mo _ _ _ y (Zz (QP hy))
theorem IZ (e m:Nat) (hn:B32 nm) (xt:∀ y∈tx,y<256) (lt:tx.length≤2^40):(msgD nm key tx e m).length=tx.length+16∧∀ y∈msgD nm key tx e m,y<256 :=
 eT (Cz (YU _ _)) (FT (YU _ _)).2.1 (Mw _) xt (Bb e m hn) lt (by rw [WL e m hn.len]; decide)
theorem FD {tv:Value} (hn:B32 nm) (hk:B32 key) (hs:B32 sg) (hm:m<16777216) (ht:HPart (fun i=>i<H.length) H tv tx) (htl:tx.length≤16368) :
  ∃ ik ina is v H',Zd T 24 [.agg (plc nm e m key (u8s sg)).toArray,tv] H=some (.tuple #[.agg (plc nm e (m+1) ((nxK nm key).drop 32) (u8s sg)).toArray,DX ik ina is v,.int .i64 0],H',[])∧Msg H.length H' ik ina is v nm e m (msgS nm key sg tx e m) (msgD nm key tx e m)∧(∀ i,i<H.length→H'[i]?=H[i]?)∧H.length≤H'.length:=by
 have n0:=JK (e:=e) (m:=m) (tl:=u8s sg) hn.len hk.len
 rw [Qp,hs.len] at n0
 have hKb:=YU nm key
 have hX:=Nu nm key
 have n1:=JK (e:=e) (m:=m+1) (tl:=u8s sg) hn.len hX.len
 rw [Qp,hs.len] at n1
 obtain ⟨S,hS⟩:∃ X,X=plc nm e m key (u8s sg):=⟨_,rfl⟩
 obtain ⟨S',hS'⟩:∃ X,X=plc nm e (m+1) ((nxK nm key).drop 32) (u8s sg):=⟨_,rfl⟩
 have r1:Q2 32 S=u8s nm:=by rw [hS]; exact Mm hn.len
 have r3:Q2 32 (Zw 66 S)=u8s sg:=by rw [hS,Rm hn.len hk.len]; exact Q6 (by rw [Qp,hs.len])
 have r4:S[32]?=some (.int .u32 e):=by rw [hS]; exact AQ hn.len
 have r5:S[33]?=some (.int .u32 m):=by rw [hS]; exact Kp hn.len
 rw [←hS] at n0
 rw [←hS'] at n1
 rw [←hS,←hS']
 obtain ⟨H1,hH1⟩:∃ G,G=H++[(⟨S,true,true,true,1⟩:Ob),⟨KD,true,true,true,1⟩,⟨XM,true,true,true,1⟩,⟨S,true,true,true,1⟩]:=⟨_,rfl⟩
 have l1:H1.length=H.length+4:=by rw [hH1]; simp
 have old1:∀ i,i<H.length→H1[i]?=H[i]? := fun i hi=>by rw [hH1,Qa hi]
 have at1:∀ j o,[(⟨S,true,true,true,1⟩:Ob),⟨KD,true,true,true,1⟩,⟨XM,true,true,true,1⟩,⟨S,true,true,true,1⟩][j]?=some o→H1[H.length+j]?=some o:=fun j o hj=>by rw [hH1,Qd (by omega),Qs]; exact hj
 obtain ⟨-,H2,M2,hnx,q1,q2,q3,q4⟩:=Mq (e:=e) (m:=m) (tl:=u8s sg) ((at1 3 _ rfl).trans (by rw [hS])) hn hk hm
 rw [←hS'] at q1
 rw [show (nxK nm key).take 32=Kb nm key from rfl] at hnx
 obtain ⟨K,hK⟩:∃ X,X=Kb nm key:=⟨_,rfl⟩
 rw [←hK] at hnx hKb
 have old2:∀ i,i<H1.length→i≠H.length+3→H2[i]?=H1[i]? := q2
 obtain ⟨H3,hH3⟩:∃ G,G=H2++[(⟨u8s K,true,true,true,1⟩:Ob),⟨u8s nm,true,true,true,1⟩,⟨[.int .u32 e,.int .u32 m],true,true,true,1⟩,⟨u8s (Qc 64 0),true,true,true,1⟩,⟨[.int .i64 5,.slice (some ⟨H2.length+1,0,none⟩) 1 1,.slice (some ⟨H2.length+2,0,none⟩) 2 2,.slice (some ⟨H2.length+3,0,none⟩) 1 1,.slice none 0 0],true,true,true,1⟩]:=⟨_,rfl⟩
 have l3:H3.length=H2.length+5:=by rw [hH3]; simp
 have old3:∀ i,i<H2.length→H3[i]?=H2[i]? := fun i hi=>by rw [hH3,Qa hi]
 have at3:∀ j o,[(⟨u8s K,true,true,true,1⟩:Ob),⟨u8s nm,true,true,true,1⟩,⟨[.int .u32 e,.int .u32 m],true,true,true,1⟩,⟨u8s (Qc 64 0),true,true,true,1⟩,⟨[.int .i64 5,.slice (some ⟨H2.length+1,0,none⟩) 1 1,.slice (some ⟨H2.length+2,0,none⟩) 2 2,.slice (some ⟨H2.length+3,0,none⟩) 1 1,.slice none 0 0],true,true,true,1⟩][j]?=some o→H3[H2.length+j]?=some o:=fun j o hj=>by rw [hH3,Qd (by omega),Qs]; exact hj
 obtain ⟨v1,k1,hfr,o1⟩:=R6 (H:=H3) (ka := .slice (some ⟨H2.length+1,0,none⟩) 1 1) (na := .slice (some ⟨H2.length+2,0,none⟩) 2 2) (sa := .slice (some ⟨H2.length+3,0,none⟩) 1 1) (da := .slice none 0 0) (nm:=nm) (e:=e) (m:=m) (.inr ⟨_,1,_,_,_,rfl,at3 1 _ rfl,by rw [Qp,hn.len]⟩) (.inr ⟨_,2,_,_,_,rfl,at3 2 _ rfl,rfl⟩) hn.len
 have lfr:=WL e m hn.len
 have xfr:=Bb e m hn
 obtain ⟨H4,hH4⟩:∃ G,G=H3++k1:=⟨_,rfl⟩
 rw [←hH4] at hfr o1
 have l4:H3.length≤H4.length:=by rw [hH4,Qg]; omega
 have old4:∀ i,i<H3.length→H4[i]?=H3[i]? := fun i hi=>by rw [hH4,Qa hi]
 have p1:=o1.part xfr (by rw [lfr]; decide)
 obtain ⟨H5,hH5⟩:∃ G,G=H4++[(⟨[v1],true,true,true,1⟩:Ob)]:=⟨_,rfl⟩
 have l5:H5.length=H4.length+1:=by rw [hH5]; simp
 have old5:∀ i,i<H4.length→H5[i]?=H4[i]? := fun i hi=>by rw [hH5,Qa hi]
 have at5:H5[H4.length]?=some ⟨[v1],true,true,true,1⟩:=by rw [hH5,Qd (Qk _),Qq]; rfl
 have up5:∀ i,i<H.length→H5[i]?=H[i]? := fun i hi=>by rw [old5 i (by omega),old4 i (by omega),old3 i (by omega),old2 i (by omega) (by omega),old1 i hi]
 have hb:=FT hKb
 obtain ⟨v2,H6,M6,hse,s1,s2,s3,s4⟩:=eS (H:=H5) (d:=tx) (dv:=tv) (pv := .slice (some ⟨H4.length,0,none⟩) 1 1) (xs:=[v1]) (ps:=[JC nm e m]) (Cz hKb) hb.2.1 (Mw K) (ht.extK (fun i hi=>by omega) up5) (by omega) (.inr ⟨_,0,1,_,rfl,by omega,at5,rfl,fun i hi=>by rw [QB]⟩) (.cons (p1.extK (fun i hi=>by have:i<H4.length:=hi; omega) old5) .nil) (by show 1<2^50; decide) (by simp [lfr])
 have hD:=IZ (key:=key) e m hn ht.lt (by omega)
 rw [show [JC nm e m].flatten=JC nm e m by simp,hK,show Y7 (WU (Kb nm key)) (WT (Kb nm key)) tx (JC nm e m)=msgD nm key tx e m from rfl] at s1
 obtain ⟨D,hDD⟩:∃ X,X=msgD nm key tx e m:=⟨_,rfl⟩
 rw [←hDD] at s1 hD
 have o2:OutS (fun i=>i<H5.length) H6 v2 D := .inr s1
 obtain ⟨fr2,hfr2⟩:∃ o:Ob,o=⟨[.int .i64 5,.slice (some ⟨H2.length+1,0,none⟩) 1 1,.slice (some ⟨H2.length+2,0,none⟩) 2 2,.slice (some ⟨H2.length+3,0,none⟩) 1 1,v2],true,true,true,1⟩:=⟨_,rfl⟩
 obtain ⟨H8,hH8⟩:∃ G,G=H6.set (H2.length+4) fr2++[(⟨[v1,v2],true,true,true,1⟩:Ob)]:=⟨_,rfl⟩
 have l8:H8.length=H6.length+1:=by rw [hH8]; simp
 have old8:∀ i,i<H6.length→i≠H2.length+4→H8[i]?=H6[i]? := fun i hi hne=>by rw [hH8,Qa (by rw [Qo]; exact hi),Qm (Ne.symm hne)]
 have at8:H8[H6.length]?=some ⟨[v1,v2],true,true,true,1⟩:=by rw [hH8,Qd (by rw [Qo]; exact Qk _),Qo,Qq]; rfl
 have up8:∀ i,i<H3.length→i≠H2.length+4→H8[i]?=H3[i]? := fun i hi hne=>by rw [old8 i (by omega) hne,s2 i (by omega),old5 i (by omega),old4 i hi]
 have o2':OutS (fun i=>i<H5.length) H8 v2 D:=by rw [hH8]; exact (o2.setK (by omega) fr2).app
 have o1':OutS (LtN H3.length) H8 v1 (JC nm e m):=by
  rw [hH8]
  refine OutS.app (OutS.setK ?_ (by show _<_; omega) fr2)
  exact (o1.ext old5).ext s2
 obtain ⟨k9,hmk⟩:=gV (H:=H8) (pv := .slice (some ⟨H6.length,0,none⟩) 2 2) (ps:=[JC nm e m,D]) hs.len hs.lt (Args.arr at8 rfl (.cons (o1'.part xfr (by rw [lfr]; decide)) (.cons (o2'.part hD.2 (by omega)) .nil)) (by decide)) (by show 2≤1000; decide) (by simp [lfr]; omega)
 have hsg:Uu sg [JC nm e m,D].flatten=msgS nm key sg tx e m:=by rw [hDD]; simp [msgS]
 have ls:=CS sg [JC nm e m,D].flatten
 have xs:=eP sg [JC nm e m,D].flatten
 rw [hsg] at hmk ls xs
 obtain ⟨sig,hsig⟩:∃ X,X=msgS nm key sg tx e m:=⟨_,rfl⟩
 rw [←hsig] at hmk ls xs ⊢
 rw [←hDD]
 obtain ⟨H9,hH9⟩:∃ G,G=(H8++k9).set (H2.length+3) (⟨u8s sig,true,true,true,1⟩:Ob):=⟨_,rfl⟩
 have l9:H8.length≤H9.length:=by rw [hH9,Qo,Qg]; omega
 have old9:∀ i,i<H8.length→i≠H2.length+3→H9[i]?=H8[i]? := fun i hi hne=>by rw [hH9,Qm (Ne.symm hne),Qa hi]
 have at9:H9[H2.length+3]?=some ⟨u8s sig,true,true,true,1⟩:=by rw [hH9,Qt (by rw [Qg]; omega)]
 have o29:OutS (fun i=>i<H5.length) H9 v2 D:=by rw [hH9]; exact o2'.app.setK (by omega) _
 obtain ⟨H10,hH10⟩:∃ G,G=(H9.set (H.length+1) (⟨S',true,true,true,1⟩:Ob)).set (H.length+2) fr2:=⟨_,rfl⟩
 have old10:∀ i,i≠H.length+1→i≠H.length+2→H10[i]?=H9[i]? := fun i h1 h2=>by rw [hH10,Qm (Ne.symm h2),Qm (Ne.symm h1)]
 have o210:OutS (fun i=>i<H5.length) H10 v2 D:=by rw [hH10]; exact (o29.setK (by omega) _).setK (by omega) _
 have up93:∀ i,i<H3.length→i≠H2.length+4→i≠H2.length+3→H9[i]?=H3[i]? := fun i hi h1 h2=>by rw [old9 i (by omega) h2,up8 i hi h1]
 refine ⟨H2.length+1,H2.length+2,H2.length+3,v2,H10,?_,⟨?_,?_,?_,(o210.toK fun i hi h'=>hi (show i<H5.length by have:i<H.length:=h'; omega)).dat (by omega) hD.2,⟨by omega,by omega,by omega⟩,hn,ls,xs,by omega⟩,fun i hi => ?_,?_⟩
 rotate_left
 ·rw [old10 _ (by omega) (by omega),up93 _ (by omega) (by omega) (by omega)]; exact at3 1 _ rfl
 ·rw [old10 _ (by omega) (by omega),up93 _ (by omega) (by omega) (by omega)]; exact at3 2 _ rfl
 ·rw [old10 _ (by omega) (by omega)]; exact at9
 ·rw [old10 _ (by omega) (by omega),up93 _ (by omega) (by omega) (by omega),old3 i (by omega),old2 i (by omega) (by omega),old1 i hi]
 ·rw [hH10,Qo,Qo]; omega
 have g2:∀ L:List Ob,(H2++L)[H.length]?=some ⟨S,true,true,true,1⟩:=fun L=>by rw [Qa (by omega),old2 _ (by omega) (by omega)]; exact at1 0 _ rfl
 have g4:H4[H2.length]?=some ⟨u8s K,true,true,true,1⟩:=(old4 _ (by omega)).trans (at3 0 _ rfl)
 have g3:H3[H2.length+4]?=some _:=at3 4 _ rfl
 have g6:H6[H2.length+4]?=some ⟨[.int .i64 5,.slice (some ⟨H2.length+1,0,none⟩) 1 1,.slice (some ⟨H2.length+2,0,none⟩) 2 2,.slice (some ⟨H2.length+3,0,none⟩) 1 1,.slice none 0 0],true,true,true,1⟩:=by rw [s2 _ (by omega),old5 _ (by omega),old4 _ (by omega)]; exact g3
 have g6a:(H6.set (H2.length+4) fr2)[H2.length+4]?=some fr2:=Qt (by omega)
 have g6b:(H6.set (H2.length+4) fr2)[H.length]?=some ⟨S,true,true,true,1⟩:=by rw [Qm (by omega),s2 _ (by omega),old5 _ (by omega),old4 _ (by omega),old3 _ (by omega),old2 _ (by omega) (by omega)]; exact at1 0 _ rfl
 have g8:(H8++k9)[H2.length+3]?=some ⟨u8s (Qc 64 0),true,true,true,1⟩:=by rw [Qa (by omega),up8 _ (by omega) (by omega)]; exact at3 3 _ rfl
 have g9a:H9[H.length+3]?=some ⟨S',true,true,true,1⟩:=by rw [up93 _ (by omega) (by omega) (by omega),old3 _ (by omega)]; exact q1
 have g9b:H9[H2.length+4]?=some fr2:=by rw [old9 _ (by omega) (by omega),hH8,Qa (by rw [Qo]; omega)]; exact g6a
 have g9c:H9[H.length+1]?=some ⟨KD,true,true,true,1⟩:=by rw [up93 _ (by omega) (by omega) (by omega),old3 _ (by omega),old2 _ (by omega) (by omega)]; exact at1 1 _ rfl
 have g9d:∀ o,(H9.set (H.length+1) o)[H.length+2]?=some ⟨XM,true,true,true,1⟩:=fun o=>by rw [Qm (by omega),up93 _ (by omega) (by omega) (by omega),old3 _ (by omega),old2 _ (by omega) (by omega)]; exact at1 2 _ rfl
 have g10a:H10[H.length+1]?=some ⟨S',true,true,true,1⟩:=by rw [hH10,Qm (by omega),Qt (by omega)]
 have g10b:H10[H.length+2]?=some fr2:=by rw [hH10,Qt (by rw [Qo]; omega)]
 have nb:(H2.length+4=H.length+1)=False:=eq_false (by omega)
 have hbk:=@Ln T H.length 7 10 4 69 69 70 (some 98) (some 5) 98 [⟨none,.store 5 (.tmp 5) (.tmp 70),none⟩,⟨some 6,.move (.const (.int .i64 0)),none⟩] (some [4,5,6]) [(4,.pointer (some ⟨H.length+1,0,none⟩)),(5,.pointer (some ⟨H.length+2,0,none⟩)),(7,.pointer (some ⟨H.length+3,0,none⟩)),(10,.pointer (some ⟨H2.length+4,0,none⟩))] H9 [] ⟨H2.length+4,0,none⟩ ⟨H.length+1,0,none⟩ rfl rfl nb (eq_false (by decide)) (eq_false (by decide)) (eq_false (by decide))
 have hz64:=YQ
 have lz:(Qc 64 0).length=64:=Qn
 obtain ⟨z32,hz32,lz32⟩:∃ z:List Nat,Qc 32 (Value.int .u8 0)=u8s z∧z.length=32:=⟨Qc 32 0,rfl,rfl⟩
 have f64:=Fu lz
 have fz:fillL (u8s (Qc 64 0)) []=some (u8s (Qc 64 0)):=rfl
 rw [hz64] at f64
 have f32:fillL (u8s z32) [(0,32,.agg (u8s nm).toArray)]=some (u8s nm):=by
  have ln:=hn.len
  rw [XJ (VF ln) (by rw [Qp,lz32]; decide) rfl,show (Value.agg (u8s nm).toArray).cells.toList=u8s nm from rfl,QO (by rw [Qp,Qp,lz32,ln])]
  rfl
 have f2:fillL [Value.int .u32 0,.int .u32 0] [(0,1,.int .u32 (e:Int)),(1,1,.int .u32 (m:Int))]=some [.int .u32 (e:Int),.int .u32 (m:Int)]:=rfl
 have f5:∀ a b c:Addr,fillL XM [(0,1,.int .i64 5),(1,1,.slice (some a) 1 1),(2,1,.slice (some b) 2 2),(3,1,.slice (some c) 1 1)]=some [.int .i64 5,.slice (some a) 1 1,.slice (some b) 2 2,.slice (some c) 1 1,.slice none 0 0]:=fun _ _ _=>rfl
 obtain ⟨a1,c1,hv1⟩:=o1.shape
 obtain ⟨a2,c2,hv2⟩:=o2.shape
 rw [lfr] at hv1
 have w1:fillL [Value.slice none 0 0] [(0,1,v1)]=some [v1]:=by rw [hv1]; rfl
 have w2:fillL [Value.slice none 0 0,.slice none 0 0] [(0,1,v1),(1,1,v2)]=some [v1,v2]:=by rw [hv1,hv2]; rfl
 have c1v:v2.cells.toList=[v2]:=by rw [hv2]; rfl
 have c2v:v2.cells.size=1:=by rw [hv2]; rfl
 have c3v:okVar v2=true:=by rw [hv2]; rfl
 have sp4:∀ (a b c d e' f':Value),splice [a,b,c,d,e'] 4 [f']=[a,b,c,d,f']:=fun _ _ _ _ _ _=>rfl
 have sp5:∀ (a b c d e':Value),splice XM 0 [a,b,c,d,e']=[a,b,c,d,e']:=fun _ _ _ _ _=>rfl
 have cl5:∀ a b c d e':Value,Q2 5 [a,b,c,d,e']=[a,b,c,d,e']:=fun _ _ _ _ _=>rfl
 have lzs:KD.length=98:=rfl
 have lzf:XM.length=5:=rfl
 have spS:splice KD 0 S=S:=QO (by rw [n0,lzs])
 have spS':splice KD 0 S'=S':=QO (by rw [n1,lzs])
 have tS:Q2 98 S=S:=Q6 n0
 have tS':Q2 98 S'=S':=Q6 n1
 have spK:=QO (cs:=u8s z32) (v:=u8s K) (by rw [Qp,Qp,hKb.len,lz32])
 have spG:=QO (cs:=u8s (Qc 64 0)) (v:=u8s sig) (by rw [Qp,Qp,ls,lz])
 have tK:Q2 32 (u8s K)=u8s K:=Q6 (by rw [Qp,hKb.len])
 have e1:((16368:Int)<(tx.length:Int))=False:=eq_false (by omega)
 have hlen:vLen false tv=some (.int .i64 tx.length):=by obtain ⟨a,c,rfl⟩:=ht.shape; rfl
 have ok1:∀ L:List Value,(Value.agg L.toArray).cells.toList=L:=fun _=>rfl
 have ok2:∀ L:List Value,(Value.agg L.toArray).cells.size=L.length:=fun _=>rfl
 have ok3:∀ L:List Value,okVar (Value.agg L.toArray)=true:=fun _=>rfl
 have im1:Qy H.length [] M2=[]:=QD fun i hi=>by have:=q4 i hi; omega
 have im2:Qy H.length [] M6=[]:=QD fun i hi=>by have:=s4 i hi; omega
 have im3:∀ j,Qy H.length [] [H2.length+j]=[]:=fun j=>QD (by simp; omega)
 have im4:∀ j,Qy H.length [] [H.length+j]=[]:=fun j=>QD (by simp)
 have im5:Qy H.length [] [H2.length]=[]:=QD (by simp; omega)
 have h1:=hH1.symm
 have h3:=hH3.symm
 have h5:=hH5.symm
 have h8:=hH8.symm
 have h9:=hH9.symm
 have h10:=hH10.symm
 have hfr2':=hfr2.symm
 have fc:fr2.cells=[.int .i64 5,.slice (some ⟨H2.length+1,0,none⟩) 1 1,.slice (some ⟨H2.length+2,0,none⟩) 2 2,.slice (some ⟨H2.length+3,0,none⟩) 1 1,v2]:=by rw [hfr2]
 have fl:fr2.live=true:=by rw [hfr2]
 have hbv:=hb.2.2
 have lAB:(WU K++WT K).length=44:=by rw [Qg,hb.1,hb.2.1]
 have lsg:=hs.len
 have lnm:=hn.len
 have lK:=hKb.len
 clear hH1 hH3 hH4 hH5 hH8 hH9 hH10 hS hS' hK hDD hsig hsg o1 o2 o1' o2' o29 o210 p1 s1 at1 at3 at5 at8 at9 q1 q2 q3 q4 s2 s3 s4 old1 old2 old3 old4 old5 old8 old9 old10 up5 up8 up93 hb hD ht hX xs xfr hn hk hs
 generalize Qc 64 0=Z64,WU K++WT K=AB at *
 rw [QE (fn:=oI) rfl]
 simp only [oI,Q0,quiet,cW,↓pW,reduceCtorEq,seval,-Qb,r1,r3,r4,r5,hnx,hfr,hbv,hse,hmk,g2,g3,g4,g6,g6a,g6b,g8,g9a,g9b,g9c,g9d,g10a,g10b,f64,fz,f32,f2,f5,w1,w2,hz64,hz32,lz32,c1v,c2v,c3v,sp4,sp5,cl5,lzs,lzf,spS,spS',tS,tS',spK,spG,tK,e1,hlen,ok1,ok2,ok3,im1,im2,im3,im4,im5,h1,h3,h5,h8,h9,h10,hfr2',fc,fl,lz,lAB,lsg,lnm,lK,ls,n0,n1,Q6,QY,Zf,ZY,Zg,Qp,Qn,Qo,Ja,DX,iw,I7,Option.bind_none,hbk]
def fol (nm:List Nat) (e m:Nat) (key pub:List Nat) (hv:Value):List Value:=plc nm e m key (u8s pub++[hv])
theorem Kf (h1:nm.length=32) (h2:key.length=32) (h3:pub.length=32):(fol nm e m key pub hv).length=99:=by
 rw [fol,JK h1 h2,Qg,Qp,h3]; rfl
theorem NC (h1:nm.length=32) (h2:key.length=32) (h3:pub.length=32):Q2 32 (Zw 66 (fol nm e m key pub hv))=u8s pub:=by
 rw [fol,Rm h1 h2]
 exact JR (by rw [Qp,h3])
theorem Vw (h1:nm.length=32) (h2:key.length=32) (h3:pub.length=32):(fol nm e m key pub hv)[98]?=some hv:=by
 rw [fol,Dd,Qd (by rw [JK h1 h2]; decide),JK h1 h2,Qd (by rw [Qp,h3]; decide),Qp,h3]; rfl
theorem Yg {hv':Value} (h1:nm.length=32) (h2:key.length=32) (h3:pub.length=32):(fol nm e m key pub hv).set 98 hv'=fol nm e m key pub hv':=by
 rw [fol,Dd,Q3 _ _ (by rw [JK h1 h2]; decide),JK h1 h2,Q3 _ _ (by rw [Qp,h3]; decide),Qp,h3,fol,Dd nm e m key (u8s pub++[hv'])]; rfl
theorem ij {fv:Value}:Zd T 94 [.slice none 0 0,fv] H=some (.int .i64 (-1),H,[]):=by
 obtain ⟨st,hA,rfl⟩:=Zc (T:=T) (base:=H.length) (id:=0) (body:=V7)
  (fun i st=>st=⟨[(0,.slice none 0 0),(1,fv),(7,.int .i64 0),(8,.int .i64 0)],H,[]⟩) (Q:=fun st=>st=⟨[(0,.slice none 0 0),(1,fv),(7,.int .i64 0),(8,.int .i64 0),(9,.bool false)],H,[]⟩)
  0 (s:=⟨[(0,.slice none 0 0),(1,fv),(7,.int .i64 0),(8,.int .i64 0)],H,[]⟩) rfl (fun i st hi=>absurd hi (Xr _))
  (fun st hs=>by
   subst hs
   refine ⟨_,?_,rfl⟩
   have e1:((0:Int)<0)=False:=eq_false (by decide)
   simp only [V7,Q0,quiet,cW,↓pW,reduceCtorEq,seval,-Qb,e1])
 have hlen:vLen false (.slice none 0 0)=some (.int .i64 0):=rfl
 rw [QE (fn:=LK) rfl]
 simp only [LK,Q0,quiet,cW,↓pW,reduceCtorEq,seval,-Qb,hlen,hA]
theorem As:Zd T 49 [.slice none 0 0] H=some (.slice none 0 0,H,[]):=by
 have h1:Vv 1 (.slice none 0 0)=some true:=rfl
 rw [QE (fn:=LL) rfl]
 simp only [LL,Q0,quiet,cW,↓pW,reduceCtorEq,seval,-Qb,h1]
theorem ib {mi:Nat} (ho:H[id]?=some ⟨fol nm e m key pub (.slice none 0 0),true,true,true,1⟩) (hn:B32 nm) (hk:B32 key) (hp:pub.length=32) (hm:mi<m) :
  ∃ l,Zd T 50 [.pointer (some ⟨id,0,none⟩),.int .u32 mi] H=some (.tuple #[.agg (u8s (Qc 32 0)).toArray,.int .i64 151],H++l,[]):=by
 have hid:=(Qf.1 ho).1
 obtain ⟨z,hz,lz⟩:∃ z:List Nat,Qc 32 (Value.int .u8 0)=u8s z∧z=Qc 32 0:=⟨Qc 32 0,rfl,rfl⟩
 have l32:z.length=32:=by rw [lz]; rfl
 have g1:∀ L:List Ob,(H++L)[id]?=some ⟨fol nm e m key pub (.slice none 0 0),true,true,true,1⟩:=fun L=>by rw [Qa hid]; exact ho
 have num:(fol nm e m key pub (.slice none 0 0))[33]?=some (.int .u32 m):=Kp hn.len
 have hv:=Vw (e:=e) (m:=m) (hv := .slice none 0 0) hn.len hk.len hp
 have hl:=Kf (e:=e) (m:=m) (hv := .slice none 0 0) hn.len hk.len hp
 have e1:((mi:Int)<(m:Int))=True:=eq_true (by omega)
 have g2:∀ o1 o2:Ob,(H++[o1,o2])[H.length]?=some o1:=fun _ _=>by rw [Qd (Qk _),Qq]; rfl
 have g3:∀ o1 o2:Ob,(H++[o1,o2])[H.length+1]?=some o2:=fun _ _=>by rw [Qd (by omega),Qs]; rfl
 have t3:∀ o1 o2 o:Ob,(H++[o1,o2]).set (H.length+1) o=H++[o1,o]:=fun _ _ _=>by rw [Q3 _ _ (by omega),Qs]; rfl
 have hi:=@ij
 have im:∀ L,Qy H.length L [H.length+1]=L:=fun L=>QD (by simp)
 have fz:fillL (u8s z) []=some (u8s z):=rfl
 have sp:=QO (cs:=u8s z) (v:=u8s z) rfl
 have tz:Q2 32 (u8s z)=u8s z:=Q6 (by rw [Qp,l32])
 have e2:((-1:Int)<0)=True:=eq_true (by decide)
 have ok1:∀ L:List Value,(Value.agg L.toArray).cells.toList=L:=fun _=>rfl
 have ok2:∀ L:List Value,(Value.agg L.toArray).cells.size=L.length:=fun _=>rfl
 have ok3:∀ L:List Value,okVar (Value.agg L.toArray)=true:=fun _=>rfl
 rw [←lz]
 clear lz ho
 generalize fol nm e m key pub (.slice none 0 0)=F at *
 refine ⟨[⟨[.int .u32 mi],true,true,true,1⟩,⟨u8s z,true,true,true,1⟩],?_⟩
 rw [QE (fn:=Te) rfl]
 simp only [Te,Q0,quiet,cW,↓pW,reduceCtorEq,seval,-Qb,hz,l32,g1,g2,g3,t3,num,hv,hl,e1,e2,hi,im,fz,sp,tz,ok1,ok2,ok3,K6,Qp]
def kyS (id a b:Nat) (H:List Ob) (L:List Nat) (ex:Env):St:=⟨[(0,.pointer (some ⟨id,0,none⟩)),(3,.pointer (some ⟨a,0,none⟩)),(4,.pointer (some ⟨b,0,none⟩))]++ex,H,L⟩
theorem ic (ho:H[id]?=some ⟨fol nm e m key pub (.slice none 0 0),true,true,true,1⟩) (hn:B32 nm) (hk:B32 key) (hp:pub.length=32) (hm:m<16777216) :
  ∃ H' M,Zd T 50 [.pointer (some ⟨id,0,none⟩),.int .u32 m] H=some (.tuple #[.agg (u8s (Kb nm key)).toArray,.int .i64 0],H',M)∧H'[id]?=some ⟨fol nm e (m+1) ((nxK nm key).drop 32) pub (.slice none 0 0),true,true,true,1⟩∧(∀ i,i<H.length→i≠id→H'[i]?=H[i]?)∧H.length≤H'.length∧∀ i∈M,i=id:=by
 have hid:=(Qf.1 ho).1
 obtain ⟨z,hz,lz⟩:∃ z:List Nat,Qc 32 (Value.int .u8 0)=u8s z∧z.length=32:=⟨Qc 32 0,rfl,rfl⟩
 obtain ⟨H1,hH1⟩:∃ G,G=H++[(⟨[.int .u32 m],true,true,true,1⟩:Ob),⟨u8s z,true,true,true,1⟩]:=⟨_,rfl⟩
 have l1:H1.length=H.length+2:=by rw [hH1]; simp
 have g1:H1[id]?=some ⟨fol nm e m key pub (.slice none 0 0),true,true,true,1⟩:=by rw [hH1,Qa hid]; exact ho
 have g1i:H1[H.length]?=some ⟨[.int .u32 m],true,true,true,1⟩:=by rw [hH1,Qd (Qk _),Qq]; rfl
 obtain ⟨-,H2,M2,hnx,q1,q2,q3,q4⟩:=Mq (e:=e) (m:=m) (tl:=u8s pub++[.slice none 0 0]) g1 hn hk hm
 rw [show (nxK nm key).take 32=Kb nm key from rfl] at hnx
 have hKb:=YU nm key
 generalize Kb nm key=K at *
 have num:(fol nm e m key pub (.slice none 0 0))[33]?=some (.int .u32 m):=Kp hn.len
 have hv:=Vw (e:=e) (m:=m) (hv := .slice none 0 0) hn.len hk.len hp
 have hl:=Kf (e:=e) (m:=m) (hv := .slice none 0 0) hn.len hk.len hp
 have hsv:=Yg (e:=e) (m:=m) (hv := .slice none 0 0) (hv' := .slice none 0 0) hn.len hk.len hp
 have hq:∀ k tl,plc nm e (m+1) k (u8s pub++[tl])=fol nm e (m+1) k pub tl:=fun _ _=>rfl
 rw [hq] at q1
 generalize fol nm e m key pub (.slice none 0 0)=F at *
 generalize fol nm e (m+1) ((nxK nm key).drop 32) pub (.slice none 0 0)=F' at *
 have e1:((m:Int)<(m:Int))=False:=eq_false (by omega)
 obtain ⟨st,hA,rfl⟩:=Zc (T:=T) (base:=H.length) (id:=0) (body:=VT)
  (fun i st=>st=kyS id H.length (H.length+1) H1 [] [(54,.bool false)]) (Q:=fun st=>st=kyS id H.length (H.length+1) H1 [] [(62,.bool false)])
  0 (s:=kyS id H.length (H.length+1) H1 [] [(54,.bool false)]) rfl (fun i st hi=>absurd hi (Xr _))
  (fun st hs=>by
   subst hs
   refine ⟨_,?_,rfl⟩
   simp only [kyS,VT,Q0,quiet,cW,↓pW,reduceCtorEq,seval,-Qb,e1,g1,g1i,num])
 refine ⟨H2.set (H.length+1) ⟨u8s K,true,true,true,1⟩,Qy H.length (Qy H.length [] [id]) M2,?_,?_,fun i hi hne => ?_,?_,fun i hi => ?_⟩
 rotate_left
 ·rw [Qm (by omega)]; exact q1
 ·rw [Qm (by omega),q2 i (by omega) hne,hH1,Qa hi]
 ·rw [Qo]; omega
 ·rcases Zb hi with h | h
  ·rcases Zb h with h | h
   ·simp at h
   ·exact Zk.1 h
  ·exact q4 i h
 have h1:=hH1.symm
 have w1:IntKind.u32.wrap ((m:Int)-(m:Int))=0:=by rw [Int.sub_self]; rfl
 have e2:((1000:Int)<0)=False:=eq_false (by decide)
 have hlen:vLen false (.slice none 0 0)=some (.int .i64 0):=rfl
 have w2:IntKind.i64.wrap (0-1000) = -1000:=by decide
 have mx:W8 true (.int .i64 0) (.int .i64 (-1000))=some (.int .i64 0):=rfl
 have b1:ZC 0 0 (some (.int .i64 0)) none none=some (0,0,0):=rfl
 have ss:=Yc g1
 have g3:H2[H.length+1]?=some ⟨u8s z,true,true,true,1⟩:=by rw [q2 _ (by omega) (by omega),hH1,Qd (by omega),Qs]; rfl
 have g4:∀ o,(H2.set (H.length+1) o)[H.length+1]?=some o:=fun o=>Qt (by omega)
 have im:∀ L,Qy H.length L [H.length+1]=L:=fun L=>QD (by simp)
 have sp:=QO (cs:=u8s z) (v:=u8s K) (by rw [Qp,Qp,lz,hKb.len])
 have tK:Q2 32 (u8s K)=u8s K:=Q6 (by rw [Qp,hKb.len])
 have lK:=hKb.len
 have ok1:∀ L:List Value,(Value.agg L.toArray).cells.toList=L:=fun _=>rfl
 have ok2:∀ L:List Value,(Value.agg L.toArray).cells.size=L.length:=fun _=>rfl
 have ok3:∀ L:List Value,okVar (Value.agg L.toArray)=true:=fun _=>rfl
 simp only [kyS,Qw,Qr] at hA
 clear hH1 q1 q2 q3 q4 hKb ho
 rw [QE (fn:=Te) rfl]
 simp only [Te,Q0,quiet,cW,↓pW,reduceCtorEq,seval,-Qb,hz,lz,h1,g1,g1i,g3,g4,num,hv,hl,hsv,e1,e2,w1,w2,hlen,mx,b1,ss,im,sp,tK,lK,hnx,hA,ok1,ok2,ok3,K6,Qp]
theorem FG {ik ina is m mi:Nat} {dl:List Nat} {B:Nat} (h:Msg B H ik ina is v nm e mi (Uu sg (JC nm e mi++dl)) dl) (hk:B32 key) (hs:B32 sg) (hdl:dl.length≤16384) (xd:∀ y∈dl,y<256) (hm:m<16777216) (hle:mi≤m) (hd:mi=m→dl=msgD nm key tx e m∧tx.length≤16368∧∀ y∈tx,y<256) :
  ∃ H' r v' c,Zd T 18 [.agg (fol nm e m key (pubL sg) (.slice none 0 0)).toArray,DX ik ina is v] H=some (.tuple #[.agg r.toArray,v',.int .i64 c],H',[])∧(∀ i,i<H.length→H'[i]?=H[i]?)∧H.length≤H'.length ∧
   ((mi<m∧r=fol nm e m key (pubL sg) (.slice none 0 0)∧v'=.slice none 0 0∧c=151)∨(mi=m∧r=fol nm e (m+1) ((nxK nm key).drop 32) (pubL sg) (.slice none 0 0)∧c=0∧OutS (fun i=>i<H.length) H' v' tx)):=by
 have hn:=h.lk
 have lpu:=Ym sg
 have xpu:=AO sg
 have hX:=Nu nm key
 have hKb:=YU nm key
 obtain ⟨F,hF⟩:∃ X,X=fol nm e m key (pubL sg) (.slice none 0 0):=⟨_,rfl⟩
 have n0:=Kf (e:=e) (m:=m) (hv := .slice none 0 0) hn.len hk.len lpu
 have r1:Q2 32 F=u8s nm:=by rw [hF]; exact Mm hn.len
 have r3:Q2 32 (Zw 66 F)=u8s (pubL sg):=by rw [hF]; exact NC hn.len hk.len lpu
 have r4:F[32]?=some (.int .u32 e):=by rw [hF]; exact AQ hn.len
 have r6:F[98]?=some (.slice none 0 0):=by rw [hF]; exact Vw hn.len hk.len lpu
 have r7:F.set 98 (.slice none 0 0)=F:=by rw [hF]; exact Yg hn.len hk.len lpu
 rw [←hF] at n0 ⊢
 obtain ⟨sg1,hsg1⟩:∃ X,X=Uu sg (JC nm e mi++dl):=⟨_,rfl⟩
 obtain ⟨fo,hfo⟩:∃ o:Ob,o=⟨[.int .i64 5,.slice (some ⟨ik,0,none⟩) 1 1,.slice (some ⟨ina,0,none⟩) 2 2,.slice (some ⟨is,0,none⟩) 1 1,v],true,true,true,1⟩:=⟨_,rfl⟩
 obtain ⟨H1,hH1⟩:∃ G,G=H++[(⟨F,true,true,true,1⟩:Ob),fo,⟨Xn,true,true,true,1⟩]:=⟨_,rfl⟩
 have l1:H1.length=H.length+3:=by rw [hH1]; simp
 have at1:∀ j o,[(⟨F,true,true,true,1⟩:Ob),fo,⟨Xn,true,true,true,1⟩][j]?=some o→H1[H.length+j]?=some o:=fun j o hj=>by rw [hH1,Qd (by omega),Qs]; exact hj
 have old1:∀ i,i<H.length→H1[i]?=H[i]? := fun i hi=>by rw [hH1,Qa hi]
 have m1:=h.ext old1
 obtain ⟨v0,k1,hen,-⟩:=Bd (k:=5) (m1.fr hdl)
 have hE:frE 5 [nm].length [e,mi].length [Uu sg (JC nm e mi++dl)].length dl.length=0:=by
  show (if (1=1∧2=2∧1=1∧(true=true∨dl.length=0)) then (if 16384<dl.length then (2:Int) else 0) else 110)=0
  rw [if_pos (by simp),if_neg (by omega)]
 rw [hE] at hen
 obtain ⟨H2,hH2⟩:∃ G,G=H1++k1:=⟨_,rfl⟩
 rw [←hH2] at hen
 have l2:H1.length≤H2.length:=by rw [hH2,Qg]; omega
 have old2:∀ i,i<H1.length→H2[i]?=H1[i]? := fun i hi=>by rw [hH2,Qa hi]
 have m2:=m1.ext old2
 obtain ⟨v1,k2,hfr,o1⟩:=R6 (H:=H2) (ka := .slice (some ⟨ik,0,none⟩) 1 1) (na := .slice (some ⟨ina,0,none⟩) 2 2) (sa := .slice (some ⟨is,0,none⟩) 1 1) (da:=v) (nm:=nm) (e:=e) (m:=mi) (.inr ⟨_,1,_,_,_,rfl,m2.k,by rw [Qp,hn.len]⟩) (.inr ⟨_,2,_,_,_,rfl,m2.n,rfl⟩) hn.len
 have lfr:=WL e mi hn.len
 have xfr:=Bb e mi hn
 obtain ⟨H3,hH3⟩:∃ G,G=H2++k2:=⟨_,rfl⟩
 rw [←hH3] at hfr o1
 have l3:H2.length≤H3.length:=by rw [hH3,Qg]; omega
 have old3:∀ i,i<H2.length→H3[i]?=H2[i]? := fun i hi=>by rw [hH3,Qa hi]
 have m3:=m2.ext old3
 have p1:=o1.part xfr (by rw [lfr]; decide)
 obtain ⟨H4,hH4⟩:∃ G,G=H3++[(⟨[v1,v],true,true,true,1⟩:Ob)]:=⟨_,rfl⟩
 have l4:H4.length=H3.length+1:=by rw [hH4]; simp
 have old4:∀ i,i<H3.length→H4[i]?=H3[i]? := fun i hi=>by rw [hH4,Qa hi]
 have at4:H4[H3.length]?=some ⟨[v1,v],true,true,true,1⟩:=by rw [hH4,Qd (Qk _),Qq]; rfl
 have m4:=m3.ext old4
 have p2:=m3.d.part h.ld (by omega)
 obtain ⟨k3,c,hck,hsp⟩:=FJ (H:=H4) (pub:=pubL sg) (front:=frL sg (JC nm e mi++dl)) (back:=bkL sg (JC nm e mi++dl)) (pv := .slice (some ⟨H3.length,0,none⟩) 2 2) (ps:=[JC nm e mi,dl]) lpu xpu (Mr _ _) (Co _ _) (Mx _ _) (LB _ _) (Args.arr at4 rfl (.cons (p1.extK (fun i hi=>by have:i<H3.length:=hi; show i<_; omega) old4) (.cons (p2.extK (fun i hi=>by show i<_; omega) old4) .nil)) (by decide)) (by show 2≤1000; decide) (by simp [lfr]; omega)
 rw [show [JC nm e mi,dl].flatten=JC nm e mi++dl by simp] at hsp
 have hc:=LV hsp
 subst hc
 rw [show frL sg (JC nm e mi++dl)++bkL sg (JC nm e mi++dl)=sg1 by rw [hsg1]; rfl] at hck
 obtain ⟨H5,hH5⟩:∃ G,G=H4++k3:=⟨_,rfl⟩
 rw [←hH5] at hck
 have l5:H4.length≤H5.length:=by rw [hH5,Qg]; omega
 have old5:∀ i,i<H4.length→H5[i]?=H4[i]? := fun i hi=>by rw [hH5,Qa hi]
 obtain ⟨H6,hH6⟩:∃ G,G=H5++[(⟨F,true,true,true,1⟩:Ob)]:=⟨_,rfl⟩
 have l6:H6.length=H5.length+1:=by rw [hH6]; simp
 have old6:∀ i,i<H5.length→H6[i]?=H5[i]? := fun i hi=>by rw [hH6,Qa hi]
 have at6:H6[H5.length]?=some ⟨F,true,true,true,1⟩:=by rw [hH6,Qd (Qk _),Qq]; rfl
 have up6:∀ i,i<H3.length→H6[i]?=H3[i]? := fun i hi=>by rw [old6 i (by omega),old5 i (by omega),old4 i hi]
 have up61:∀ i,i<H1.length→H6[i]?=H1[i]? := fun i hi=>by rw [up6 i (by omega),old3 i (by omega),old2 i hi]
 have m6:Msg B H6 ik ina is v nm e mi _ dl:=m3.ext up6
 obtain ⟨z,hz,lz⟩:∃ z:List Nat,Qc 32 (Value.int .u8 0)=u8s z∧z.length=32:=⟨Qc 32 0,rfl,rfl⟩
 have g0:∀ L:List Ob,(H++[(⟨F,true,true,true,1⟩:Ob),fo,⟨Xn,true,true,true,1⟩]++L)[H.length+1]?=some fo:=fun L=>by rw [Qv,Qd (by omega),Qs]; rfl
 have mk':=m2.k
 have mn':=m2.n
 have ms3:=m3.s
 have mn6:=m6.n
 rw [←hsg1] at ms3
 have lsg:sg1.length=64:=by rw [hsg1]; exact h.ls
 obtain ⟨av,cv,hvs⟩:=p2.shape
 obtain ⟨a1,c1,hv1⟩:=o1.shape
 rw [lfr] at hv1
 have w1:fillL [Value.slice none 0 0] [(0,1,v1)]=some [v1]:=by rw [hv1]; rfl
 have w2:fillL [Value.slice none 0 0,.slice none 0 0] [(0,1,v1),(1,1,v)]=some [v1,v]:=by rw [hv1,hvs]; rfl
 have cl5:∀ a b c d e':Value,Q2 5 [a,b,c,d,e']=[a,b,c,d,e']:=fun _ _ _ _ _=>rfl
 have tnm:Q2 32 (u8s nm)=u8s nm:=Q6 (by rw [Qp,hn.len])
 have tsg:Q2 64 (u8s sg1)=u8s sg1:=Q6 (by rw [Qp,lsg])
 have tpu:Q2 32 (u8s (pubL sg))=u8s (pubL sg):=Q6 (by rw [Qp,lpu])
 have hq:=Vj hn.len hn.len
 have q1:H1[H.length]?=some ⟨F,true,true,true,1⟩:=at1 0 _ rfl
 have q1f:H1[H.length+1]?=some fo:=at1 1 _ rfl
 have q2:H2[H.length]?=some ⟨F,true,true,true,1⟩:=(old2 _ (by omega)).trans q1
 have q2f:H2[H.length+1]?=some fo:=(old2 _ (by omega)).trans q1f
 have q3:H3[H.length]?=some ⟨F,true,true,true,1⟩:=(old3 _ (by omega)).trans q2
 have q3f:H3[H.length+1]?=some fo:=(old3 _ (by omega)).trans q2f
 have q5:H5[H.length]?=some ⟨F,true,true,true,1⟩:=by rw [old5 _ (by omega),old4 _ (by omega)]; exact q3
 have q6:H6[H.length]?=some ⟨F,true,true,true,1⟩:=(old6 _ (by omega)).trans q5
 have q6f:H6[H.length+1]?=some fo:=(up61 _ (by omega)).trans q1f
 have lzF:Xn.length=99:=rfl
 have tF:Q2 99 F=F:=Q6 n0
 have spF:splice Xn 0 F=F:=QO (by rw [n0,lzF])
 have a5:∀ o1 o:Ob,(H5++[o1]).set H5.length o=H5++[o]:=fun _ _=>by rw [Q3 _ _ (Qk _),Qq]; rfl
 have ss:=Yc at6
 have a6:=at6
 have hcl:=@As
 have ok1:∀ L:List Value,(Value.agg L.toArray).cells.toList=L:=fun _=>rfl
 have ok2:∀ L:List Value,(Value.agg L.toArray).cells.size=L.length:=fun _=>rfl
 have ok3:∀ L:List Value,okVar (Value.agg L.toArray)=true:=fun _=>rfl
 have im1:∀ j,Qy H.length [] [H5.length+j]=[]:=fun j=>QD (by simp; omega)
 have im0:Qy H.length [] [H5.length]=[]:=QD (by simp; omega)
 have im2:∀ j,Qy H.length [] [H.length+j]=[]:=fun j=>QD (by simp)
 have h1:=hH1.symm
 have h4:=hH4.symm
 have h6:=hH6.symm
 have hfoc:fo.cells=[.int .i64 5,.slice (some ⟨ik,0,none⟩) 1 1,.slice (some ⟨ina,0,none⟩) 2 2,.slice (some ⟨is,0,none⟩) 1 1,v]:=by rw [hfo]
 have hfol:fo.live=true:=by rw [hfo]
 have hfo':=hfo.symm
 have lnm:=hn.len
 have lfs:=hfo
 have tz:Q2 32 (u8s z)=u8s z:=Q6 (by rw [Qp,lz])
 have cls:okVar v=true∧v.cells.toList=[v]∧v.cells.size=1:=by rw [hvs]; exact ⟨rfl,rfl,rfl⟩
 obtain ⟨cv1,cv2,cv3⟩:=cls
 rcases Zm mi m with hlt | hge
 ·obtain ⟨k7,hky⟩:=ib (H:=H6) (id:=H5.length) (e:=e) (m:=m) (mi:=mi) (nm:=nm) (key:=key) (pub:=pubL sg) (at6.trans (by rw [hF])) hn hk lpu hlt
  obtain ⟨H8,hH8⟩:∃ G,G=H6++k7++[(⟨u8s (Qc 32 0),true,true,true,1⟩:Ob)]:=⟨_,rfl⟩
  have up8:∀ i,i<H6.length→H8[i]?=H6[i]? := fun i hi=>by rw [hH8,Qv,Qa hi]
  have l8:H6.length≤H8.length:=by rw [hH8,Qv,Qg]; omega
  refine ⟨H8.set (H.length+2) ⟨F,true,true,true,1⟩,F,.slice none 0 0,151,?_,fun i hi => ?_,?_,.inl ⟨hlt,rfl,rfl,rfl⟩⟩
  rotate_left
  ·rw [Qm (by omega),up8 i (by omega),up61 i (by omega),old1 i hi]
  ·rw [Qo]; omega
  have e8:H8[H.length]?=some ⟨F,true,true,true,1⟩:=(up8 _ (by omega)).trans q6
  have e8z:H8[H.length+2]?=some ⟨Xn,true,true,true,1⟩:=by rw [up8 _ (by omega),up61 _ (by omega)]; exact at1 2 _ rfl
  have e8s:∀ o,(H8.set (H.length+2) o)[H.length+2]?=some o:=fun o=>Qt (by omega)
  have a8:∀ o1 o:Ob,(H6++k7++[o1]).set (H6++k7).length o=H6++k7++[o]:=fun _ _=>by rw [Q3 _ _ (Qk _),Qq]; rfl
  have a8g:∀ o1:Ob,(H6++k7++[o1])[(H6++k7).length]?=some o1:=fun _=>by rw [Qd (Qk _),Qq]; rfl
  have h8:=hH8.symm
  obtain ⟨zz,hzz⟩:∃ x,x=Qc 32 0:=⟨_,rfl⟩
  have lzz:zz.length=32:=by rw [hzz]; rfl
  rw [←hzz] at hky h8
  have sz:=QO (cs:=u8s z) (v:=u8s zz) (by rw [Qp,Qp,lz,lzz])
  have im9:Qy H.length [] [(H6++k7).length]=[]:=QD (by simp; omega)
  generalize hG7:H6++k7=G7 at *
  clear hH1 hH2 hH3 hH4 hH5 hH6 hH8 hE hF hd hzz o1 p1 p2 m1 m2 m3 m4 m6 h hsp at1 at4 at6 old1 old2 old3 old4 old5 old6 up6 up61 up8 hsg1 hn hk hs hX hKb xpu xfr xd hfo
  generalize pubL sg=pub at *
  rw [QE (fn:=C3) rfl]
  simp only [C3,Q0,quiet,cW,↓pW,reduceCtorEq,seval,-Qb,r1,r3,r4,r6,r7,hen,hfr,hck,hky,hcl,hz,lz,g0,mk',mn',ms3,mn6,w1,w2,cl5,tnm,tsg,tpu,hq,q1,q1f,q2,q2f,q3,q3f,q5,q6,q6f,lzF,tF,spF,a5,a6,ss,ok1,ok2,ok3,im0,im1,im2,h1,h4,h6,hfoc,hfol,hfo',lnm,lsg,lpu,tz,cv1,cv2,cv3,e8,e8z,e8s,a8,a8g,h8,lzz,sz,im9,n0,Q6,QY,Zf,ZY,Zg,Qp,Qn,Qo,Ja,DX]
 ·obtain rfl:mi=m:=by omega
  obtain ⟨hdd,htl,xt⟩:=hd rfl
  obtain ⟨H7,M7,hky,b1,b2,b3,b4⟩:=ic (H:=H6) (id:=H5.length) (e:=e) (m:=mi) (nm:=nm) (key:=key) (pub:=pubL sg) (at6.trans (by rw [hF])) hn hk lpu hm
  obtain ⟨F',hF'⟩:∃ X,X=fol nm e (mi+1) ((nxK nm key).drop 32) (pubL sg) (.slice none 0 0):=⟨_,rfl⟩
  have n1:=Kf (e:=e) (m:=mi+1) (hv := .slice none 0 0) hn.len hX.len lpu
  rw [←hF'] at b1 n1 ⊢
  have tF':Q2 99 F'=F':=Q6 n1
  have spF':splice Xn 0 F'=F':=QO (by rw [n1,lzF])
  have hbx:=FT hKb
  have xA:=Cz hKb
  have xB:=Mw (Kb nm key)
  obtain ⟨H9,hH9⟩:∃ G,G=H7++[(⟨u8s (Kb nm key),true,true,true,1⟩:Ob),⟨[v1],true,true,true,1⟩]:=⟨_,rfl⟩
  have l9:H9.length=H7.length+2:=by rw [hH9]; simp
  have up9:∀ i,i<H7.length→H9[i]?=H7[i]? := fun i hi=>by rw [hH9,Qa hi]
  have up96:∀ i,i<H5.length→H9[i]?=H6[i]? := fun i hi=>by rw [up9 i (by omega),b2 i (by omega) (by omega)]
  have up93:∀ i,i<H3.length→H9[i]?=H3[i]? := fun i hi=>by rw [up96 i (by omega),up6 i hi]
  have e9v:H9[H7.length+1]?=some ⟨[v1],true,true,true,1⟩:=by rw [hH9,Qd (by omega),Qs]; rfl
  obtain ⟨di,dof,dc,dob,rfl,d1,d2,d3,d4,-⟩:=(m3.ext up93).d
  have hdd2:dl=Y7 (WU (Kb nm key)) (WT (Kb nm key)) tx [JC nm e mi].flatten:=by rw [hdd]; simp [msgD]
  obtain ⟨v2,H10,M10,hop,c1',c2',c3',c4'⟩:=Nr (H:=H9) (id:=di) (off:=dof) (c:=dc) (d:=tx) (pv := .slice (some ⟨H7.length+1,0,none⟩) 1 1) (xs:=[v1]) (ps:=[JC nm e mi]) xA hbx.2.1 xB (by rw [←hdd2]; exact d1) xt (by omega) (.inr ⟨_,0,1,_,rfl,by omega,e9v,rfl,fun i hi=>by rw [QB]⟩) (.cons (p1.extK (fun i hi=>by have:i<H3.length:=hi; omega) up93) .nil) (by show 1<2^50; decide) (by simp [lfr]) (by rw [←hdd2]; exact d2) (fun o ho=>by rw [d3] at ho; cases ho; exact .inr (.inr (Nat.le_of_eq d4.symm)))
  rw [←hdd2] at hop
  have u10:∀ i,i<H.length→H10[i]?=H[i]? := fun i hi=>by rw [c2' i (by omega),up93 i (by omega),old3 i (by omega),old2 i (by omega),old1 i hi]
  refine ⟨H10.set (H.length+2) ⟨F',true,true,true,1⟩,F',v2,0,?_,fun i hi => ?_,?_,.inr ⟨rfl,rfl,rfl,?_⟩⟩
  rotate_left
  ·rw [Qm (by omega),u10 i hi]
  ·rw [Qo]; omega
  ·have ho:OutS (fun i=>i<H9.length) (H10.set (H.length+2) ⟨F',true,true,true,1⟩) v2 tx:=OutS.setK (.inr c1') (by show _<_; omega) _
   exact ho.toK fun i hi h'=>hi (show i<H9.length by have:i<H.length:=h'; omega)
  have e9a:H7[H.length+1]?=some fo:=by rw [b2 _ (by omega) (by omega)]; exact q6f
  have e9b:∀ L:List Ob,(H7++L)[H.length+1]?=some fo:=fun L=>by rw [Qa (by omega)]; exact e9a
  have e9c:∀ o:Ob,(H7++[o])[H7.length]?=some o:=fun o=>by rw [Qd (Qk _),Qq]; rfl
  have a9:∀ o1 o:Ob,(H7++[o1]).set H7.length o=H7++[o]:=fun _ _=>by rw [Q3 _ _ (Qk _),Qq]; rfl
  have e10:H10[H5.length]?=some ⟨F',true,true,true,1⟩:=by rw [c2' _ (by omega),up9 _ (by omega)]; exact b1
  have e10z:H10[H.length+2]?=some ⟨Xn,true,true,true,1⟩:=by rw [c2' _ (by omega),up96 _ (by omega),up61 _ (by omega)]; exact at1 2 _ rfl
  have e10s:∀ o,(H10.set (H.length+2) o)[H.length+2]?=some o:=fun o=>Qt (by omega)
  have im7:Qy H.length [] M7=[]:=QD fun i hi=>by have:=b4 i hi; omega
  have im10:Qy H.length [] M10=[]:=QD fun i hi=>by have:=c4' i hi; omega
  have im9:Qy H.length [] [H7.length]=[]:=QD (by simp; omega)
  have h9:=hH9.symm
  have hbv:=hbx.2.2
  have lAB:(WU (Kb nm key)++WT (Kb nm key)).length=44:=by rw [Qg,hbx.1,hbx.2.1]
  have lK:=hKb.len
  generalize WU (Kb nm key)++WT (Kb nm key)=AB at *
  generalize Kb nm key=K at *
  have sK:=QO (cs:=u8s z) (v:=u8s K) (by rw [Qp,Qp,lz,lK])
  have tK:Q2 32 (u8s K)=u8s K:=Q6 (by rw [Qp,lK])
  clear hH1 hH2 hH3 hH4 hH5 hH6 hH9 hE hF hF' hd hdd hdd2 o1 p1 p2 m1 m2 m3 m4 m6 h hsp at1 at4 at6 old1 old2 old3 old4 old5 old6 up6 up61 up9 up96 up93 hsg1 hn hk hs hX hKb xpu xfr xd hfo b1 b2 b3 b4 c1' c2' c3' c4' d1 d2 d3 d4 xA xB hbx xt u10 e9v e9a hle hge
  generalize pubL sg=pub at *
  rw [QE (fn:=C3) rfl]
  simp only [C3,Q0,quiet,cW,↓pW,reduceCtorEq,seval,-Qb,r1,r3,r4,r6,r7,hen,hfr,hck,hky,hop,hbv,hcl,hz,lz,g0,mk',mn',ms3,mn6,w1,w2,cl5,tnm,tsg,tpu,hq,q1,q1f,q2,q2f,q3,q3f,q5,q6,q6f,lzF,tF,spF,tF',spF',a5,a6,ss,ok1,ok2,ok3,im0,im1,im2,im7,im9,im10,h1,h4,h6,h9,hfoc,hfol,hfo',lnm,lsg,lpu,tz,cv1,cv2,cv3,e9b,e9c,a9,e10,e10z,e10s,lAB,lK,sK,tK,n0,n1,Q6,QY,Zf,ZY,Zg,Qp,Qn,Qo,Ja,DX]
def InvD (X0 X:List Ob):Prop:=X0.length≤X.length∧∀ i,i<X0.length→X[i]?=X0[i]?
theorem InvD.refl (X:List Ob):InvD X X:=⟨Qk _,fun _ _=>rfl⟩
theorem InvD.app {X0 X m:List Ob} (h:InvD X0 X):InvD X0 (X++m):=⟨by rw [Qg]; have:=h.1; omega,fun i hi=>by rw [Qa (by have:=h.1; omega)]; exact h.2 i hi⟩
theorem InvD.get {X0 X:List Ob} (h:InvD X0 X) {i:Nat} {o:Ob} (ho:X0[i]?=some o):X[i]?=some o:=(h.2 i (Qf.1 ho).1).trans ho
structure Bx (B:Nat) (X0:List Ob) (k:Int) (ka na sa da:Value):Prop where
 ob:X0[B]?=some ⟨[.int .i64 k,ka,na,sa,da],true,true,true,1⟩
structure Two (X:List Ob) (B:Nat) (k:Int) (ka na sa da kb nb sb db:Value):Prop where
 a:X[B]?=some ⟨[.int .i64 k,ka,na,sa,da],true,true,true,1⟩
 b:X[B+1]?=some ⟨[.int .i64 k,kb,nb,sb,db],true,true,true,1⟩
theorem RO {X:List Ob} {l:List Nat} (h:DPart H v l) (hg:∀ i,i<H.length→X[i]?=H[i]?):Iu X v=some (DV l):=by
 have h1:=h.reads X hg
 obtain ⟨a,c,e⟩:=h.shape
 rw [e,S0,←e,h1,Qj,FR,Qj]; rfl
def MO:List Nat:=[116,101,120,116]
theorem np (n:Nat):B32 (kE n):=⟨Cf n,kE_lt n⟩
theorem ae {tl:List Nat}:rf (.agg (plc nm e m key (u8s tl)).toArray)=true:=by
 simp [rf,Uw,plc,u8s,scalarRf]
theorem fL:ZB T 16 []=some (.bool true):=by
 have hn:=np 1
 have hk:=np 3
 have hs:=np 4
 have hz:Qc 32 (Value.int .u8 0)=u8s zK:=rfl
 have lz:=PY
 have f1:fillL (u8s zK) [(0,1,.int .u8 1)]=some (u8s (kE 1)):=rfl
 have f3:fillL (u8s zK) [(0,1,.int .u8 3)]=some (u8s (kE 3)):=rfl
 have f4:fillL (u8s zK) [(0,1,.int .u8 4)]=some (u8s (kE 4)):=rfl
 have ft:fillL [Value.int .u8 0,.int .u8 0,.int .u8 0,.int .u8 0] [(0,1,.int .u8 116),(1,1,.int .u8 101),(2,1,.int .u8 120),(3,1,.int .u8 116)]=some (u8s MO):=rfl
 have hst:ZB T 28 [.agg (u8s (kE 1)).toArray,.int .u32 2,.agg (u8s (kE 3)).toArray,.agg (u8s (kE 4)).toArray]=_:=LZ (e:=2) hn.len hk.len hs.len
 have lpu:=Ym (kE 4)
 have hX:=Nu (kE 1) (kE 3)
 obtain ⟨S,hS⟩:∃ X,X=plc (kE 1) 2 0 (kE 3) (u8s (kE 4)):=⟨_,rfl⟩
 have n0:=JK (e:=2) (m:=0) (tl:=u8s (kE 4)) hn.len hk.len
 rw [Qp,hs.len,←hS] at n0
 rw [←hS] at hst
 obtain ⟨H1,hH1⟩:∃ G,G=[(⟨S,true,true,true,1⟩:Ob)]:=⟨_,rfl⟩
 have hsh:=CU (H:=H1) (e:=2) (m:=0) hn.len hk.len hs
 rw [←hS] at hsh
 have F:=SF (H:=H1) (nm:=kE 1) (key:=kE 3) (sg:=kE 4) (pub:=pubL (kE 4)) (e:=2) (m:=0) hn.len hk.len lpu
 obtain ⟨P1,hP1⟩:∃ G,G=H1++CT (kE 1) (kE 3) (kE 4) (pubL (kE 4)) 2 0 H1.length:=⟨_,rfl⟩
 rw [←hP1] at hsh F
 obtain ⟨k1,hfo⟩:=Ak F
 obtain ⟨W,hW⟩:∃ X,X=fol (kE 1) 2 0 (kE 3) (pubL (kE 4)) (.slice none 0 0):=⟨_,rfl⟩
 rw [show plc (kE 1) 2 0 (kE 3) (u8s (pubL (kE 4))++[.slice none 0 0])=fol (kE 1) 2 0 (kE 3) (pubL (kE 4)) (.slice none 0 0) from rfl,←hW] at hfo
 have w0:=Kf (e:=2) (m:=0) (hv := .slice none 0 0) hn.len hk.len lpu
 rw [←hW] at w0
 obtain ⟨P2,hP2⟩:∃ G,G=P1++k1:=⟨_,rfl⟩
 rw [←hP2] at hfo
 have lP2:1≤P2.length:=by rw [hP2,hP1,hH1]; simp [CT]
 have p2s:P2[0]?=some ⟨S,true,true,true,1⟩:=by rw [hP2,hP1,hH1]; rfl
 obtain ⟨H3,hH3⟩:∃ G,G=P2++[(⟨W,true,true,true,1⟩:Ob),⟨u8s MO,true,true,true,1⟩]:=⟨_,rfl⟩
 have l3:H3.length=P2.length+2:=by rw [hH3]; simp
 have h3t:H3[P2.length+1]?=some ⟨u8s MO,true,true,true,1⟩:=by rw [hH3,Qd (by omega),Qs]; rfl
 have h3w:H3[P2.length]?=some ⟨W,true,true,true,1⟩:=by rw [hH3,Qd (Qk _),Qq]; rfl
 have h3s:H3[0]?=some ⟨S,true,true,true,1⟩:=by rw [hH3,Qa (by omega)]; exact p2s
 obtain ⟨ik,ina,is,v,H4,hse,m4,o4,l4⟩:=FD (H:=H3) (e:=2) (m:=0) (tv := .slice (some ⟨P2.length+1,0,none⟩) 4 4) hn hk hs (by decide) (HPart.whole (by omega) h3t (by decide) (by decide)) (by decide)
 obtain ⟨S',hS'⟩:∃ X,X=plc (kE 1) 2 (0+1) ((nxK (kE 1) (kE 3)).drop 32) (u8s (kE 4)):=⟨_,rfl⟩
 have n1:=JK (e:=2) (m:=0+1) (tl:=u8s (kE 4)) hn.len hX.len
 rw [Qp,hs.len,←hS'] at n1
 rw [←hS,←hS'] at hse
 have hnum1:S'[33]?=some (.int .u32 1):=by rw [hS']; exact Kp hn.len
 obtain ⟨fo,hfoo⟩:∃ o:Ob,o=⟨[.int .i64 5,.slice (some ⟨ik,0,none⟩) 1 1,.slice (some ⟨ina,0,none⟩) 2 2,.slice (some ⟨is,0,none⟩) 1 1,v],true,true,true,1⟩:=⟨_,rfl⟩
 obtain ⟨H5,hH5⟩:∃ G,G=(H4.set 0 (⟨S',true,true,true,1⟩:Ob))++[fo]:=⟨_,rfl⟩
 have l5:H5.length=H4.length+1:=by rw [hH5]; simp
 have o5:∀ i,i<H4.length→i≠0→H5[i]?=H4[i]? := fun i hi hne=>by rw [hH5,Qa (by rw [Qo]; exact hi),Qm (Ne.symm hne)]
 have m5:=m4.keep (G:=H5) fun i o hb ho _=>(o5 i (Qf.1 ho).1 (by omega)).trans ho
 have hD:=IZ (nm:=kE 1) (key:=kE 3) (tx:=MO) 2 0 hn (by decide) (by decide)
 have ltx:MO.length=4:=rfl
 obtain ⟨H6,r6,v6,c6,hop,o6,l6,q6⟩:=FG (H:=H5) (key:=kE 3) (m:=0) (tx:=MO) m5 hk hs (by omega) hD.2 (by decide) (Qk _) (fun _=>⟨rfl,by decide,by decide⟩)
 rcases q6 with ⟨h,-⟩ | ⟨-,rfl,rfl,q6⟩
 ·exact absurd h (Nat.lt_irrefl _)
 rw [←hW] at hop
 obtain ⟨W',hW'⟩:∃ X,X=fol (kE 1) 2 (0+1) ((nxK (kE 1) (kE 3)).drop 32) (pubL (kE 4)) (.slice none 0 0):=⟨_,rfl⟩
 have w1:=Kf (e:=2) (m:=0+1) (hv := .slice none 0 0) hn.len hX.len lpu
 rw [←hW'] at w1 hop
 obtain ⟨H7,hH7⟩:∃ G,G=H6++[(⟨W',true,true,true,1⟩:Ob)]:=⟨_,rfl⟩
 have l7:H7.length=H6.length+1:=by rw [hH7]; simp
 have o7:∀ i,i<H6.length→H7[i]?=H6[i]? := fun i hi=>by rw [hH7,Qa hi]
 have m7:=(m5.ext o6).ext o7
 obtain ⟨H8,r8,v8,c8,hop2,o8,l8,q8⟩:=FG (H:=H7) (key:=(nxK (kE 1) (kE 3)).drop 32) (m:=1) (tx:=[]) m7 hX hs (by omega) hD.2 (by decide) (by decide) (fun h=>absurd h (by decide))
 rcases q8 with ⟨-,rfl,rfl,rfl⟩ | ⟨h,-⟩
 rotate_left
 ·exact absurd h (by decide)
 rw [show fol (kE 1) 2 1 ((nxK (kE 1) (kE 3)).drop 32) (pubL (kE 4)) (.slice none 0 0)=W' from hW'.symm] at hop2
 have o78:∀ i,i<H7.length→(H8++[(⟨W',true,true,true,1⟩:Ob)])[i]?=H7[i]? := fun i hi=>by rw [Qa (by omega),o8 i hi]
 have t6:=(((q6.ext o7).ext o78).part (by decide) (by decide))
 have hb2:Iu (H8++[(⟨W',true,true,true,1⟩:Ob)]) v6=some (.string (ByteArray.mk #[116,101,120,116])):=RO ⟨t6.shape,t6.reads⟩ fun i hi=>rfl
 obtain ⟨H9,hH9⟩:∃ G,G=H8++[(⟨W',true,true,true,1⟩:Ob)]:=⟨_,rfl⟩
 rw [←hH9] at hb2 o78
 have up95:∀ i,i<H5.length→H9[i]?=H5[i]? := fun i hi=>by rw [o78 i (by omega),o7 i (by omega),o6 i hi]
 have g1:H1[0]?=some ⟨S,true,true,true,1⟩:=by rw [hH1]; rfl
 have a1:∀ o o':Ob,[o].set 0 o'=[o']:=fun _ _=>rfl
 have g2:∀ L:List Ob,(P2++L)[0]?=some ⟨S,true,true,true,1⟩:=fun L=>by rw [Qa (by omega)]; exact p2s
 have a2:∀ o o':Ob,(P2++[o]).set P2.length o'=P2++[o']:=fun _ _=>by rw [Q3 _ _ (Qk _),Qq]; rfl
 have a2g:∀ o:Ob,(P2++[o])[P2.length]?=some o:=fun _=>by rw [Qd (Qk _),Qq]; rfl
 have g4:∀ o:Ob,(H4++[o])[0]?=some ⟨S,true,true,true,1⟩:=fun o=>by rw [Qa (by omega),o4 _ (by omega)]; exact h3s
 have a4:∀ o o':Ob,(H4++[o]).set 0 o'=H4.set 0 o'++[o]:=fun _ _=>List.set_append_left _ _ (by omega)
 have a4g:∀ o o':Ob,(H4.set 0 o++[o'])[H4.length]?=some o':=fun _ _=>by rw [Qd (by rw [Qo]; exact Qk _),Qo,Qq]; rfl
 have a4s:∀ o o' o2:Ob,(H4.set 0 o++[o']).set H4.length o2=H4.set 0 o++[o2]:=fun _ _ _=>by rw [Q3 _ _ (by rw [Qo]; exact Qk _),Qo,Qq]; rfl
 have g5w:H5[P2.length]?=some ⟨W,true,true,true,1⟩:=by rw [o5 _ (by omega) (by omega),o4 _ (by omega)]; exact h3w
 have g5f:H5[H4.length]?=some fo:=by rw [hH5,Qd (by rw [Qo]; exact Qk _),Qo,Qq]; rfl
 have g5s:H5[0]?=some ⟨S',true,true,true,1⟩:=by rw [hH5,Qa (by rw [Qo]; omega),Qt (by omega)]
 have a6:∀ o o':Ob,(H6++[o]).set H6.length o'=H6++[o']:=fun _ _=>by rw [Q3 _ _ (Qk _),Qq]; rfl
 have a6g:∀ o:Ob,(H6++[o])[H6.length]?=some o:=fun _=>by rw [Qd (Qk _),Qq]; rfl
 have g7w:H7[H6.length]?=some ⟨W',true,true,true,1⟩:=by rw [hH7,Qd (Qk _),Qq]; rfl
 have g7f:H7[H4.length]?=some fo:=by rw [o7 _ (by omega),o6 _ (by omega)]; exact g5f
 have a8:∀ o o':Ob,(H8++[o]).set H8.length o'=H8++[o']:=fun _ _=>by rw [Q3 _ _ (Qk _),Qq]; rfl
 have a8g:∀ o:Ob,(H8++[o])[H8.length]?=some o:=fun _=>by rw [Qd (Qk _),Qq]; rfl
 have g9s:H9[0]?=some ⟨S',true,true,true,1⟩:=(up95 0 (by omega)).trans g5s
 have g9w:H9[P2.length]?=some ⟨W,true,true,true,1⟩:=(up95 _ (by omega)).trans g5w
 have g9v:H9[H6.length]?=some ⟨W',true,true,true,1⟩:=(o78 _ (by omega)).trans g7w
 have nW:W[33]?=some (.int .u32 0):=by rw [hW]; exact Kp hn.len
 have nW':W'[33]?=some (.int .u32 1):=by rw [hW']; exact Kp hn.len
 have lzs:KD.length=98:=rfl
 have lzf:XM.length=5:=rfl
 have lzo:Xn.length=99:=rfl
 have s1:splice KD 0 S=S:=QO (by rw [n0,lzs])
 have s2:splice Xn 0 W=W:=QO (by rw [w0,lzo])
 have s3:splice S 0 S'=S':=QO (by rw [n0,n1])
 have s4:splice Xn 0 W'=W':=QO (by rw [w1,lzo])
 have sp5:∀ (a b c d e':Value),splice XM 0 [a,b,c,d,e']=[a,b,c,d,e']:=fun _ _ _ _ _=>rfl
 have cl5:∀ a b c d e':Value,Q2 5 [a,b,c,d,e']=[a,b,c,d,e']:=fun _ _ _ _ _=>rfl
 have t1:Q2 98 S=S:=Q6 n0
 have t2:Q2 99 W=W:=Q6 w0
 have t4:Q2 99 W'=W':=Q6 w1
 have hfc:fo.cells=[.int .i64 5,.slice (some ⟨ik,0,none⟩) 1 1,.slice (some ⟨ina,0,none⟩) 2 2,.slice (some ⟨is,0,none⟩) 1 1,v]:=by rw [hfoo]
 have hfl:fo.live=true:=by rw [hfoo]
 have hfo2:=hfoo.symm
 have ok1:∀ L:List Value,(Value.agg L.toArray).cells.toList=L:=fun _=>rfl
 have ok2:∀ L:List Value,(Value.agg L.toArray).cells.size=L.length:=fun _=>rfl
 have ok3:∀ L:List Value,okVar (Value.agg L.toArray)=true:=fun _=>rfl
 have l1:=Cf 1
 have l2:=Cf 3
 have l3':=Cf 4
 have r1:rf (.agg S.toArray)=true:=by rw [hS]; exact ae
 have h1:=hH1.symm
 have h3:=hH3.symm
 have h5:=hH5.symm
 have h7:=hH7.symm
 have h9:=hH9.symm
 clear hH1 hP1 hP2 hH3 hH5 hH7 hH9 hS hW hS' hW' F m4 m5 m7 o4 o5 o6 o7 o8 o78 up95 q6 t6 hfoo hn hk hs hX hD h3w h3s p2s
 simp only [DX] at hse hop hop2
 generalize kE 1=K1,kE 3=K3,kE 4=K4 at *
 generalize MO=tx at *
 apply ZM (fn:=oL) rfl
 simp only [oL,Q0,quiet,cW,↓pW,reduceCtorEq,seval,-Qb,hz,lz,f1,f3,f4,ft,hst,hsh,hfo,hse,hop,hop2,hb2,h3t,g1,a1,g2,a2,a2g,g4,a4,a4g,a4s,g5w,g5f,a6,a6g,g7w,g7f,a8,a8g,g9s,g9w,g9v,nW,nW',hnum1,lzs,lzf,lzo,s1,s2,s3,s4,sp5,cl5,t1,t2,t4,hfc,hfl,hfo2,ok1,ok2,ok3,l1,l2,l3',n0,n1,w0,w1,h1,h3,h5,h7,h9,ltx,r1,Q6,QY,Zf,ZY,Zg,Qp,Qn,Qo,Ja,DX]
 rfl
end Go.Ev.YtomfgcgnepfmjaaGreat
namespace Go.Ev.YtomfgcgnepfmjaaGreat
open Go Go.Ev
set_option maxRecDepth 100000
def keyN (nm key:List Nat):Nat→List Nat
 | 0=>key
 | i+1=>(nxK nm (keyN nm key i)).drop 32
theorem YV {nm key:List Nat} (hk:B32 key):∀ i,B32 (keyN nm key i)
 | 0=>hk
 | i+1=>Nu _ _
def Frs (B:Nat) (G:List Ob) (v:Value) (k:Nat) (t:List Value):Prop:=(k=0∧v=.slice none 0 0∧t=[])∨∃ id,v=.slice (some ⟨id,0,none⟩) k k∧B≤id∧G[id]?=some ⟨t,true,true,false,5⟩∧t.length=5*k∧0<k
theorem Frs.keep {B k:Nat} {G G':List Ob} {v:Value} {t:List Value} (h:Frs B G v k t) (hg:∀ i o,B≤i→G[i]?=some o→o.es=5→G'[i]?=some o):Frs B G' v k t:=by
 rcases h with h | ⟨id,h1,h2,h3,h4⟩
 ·exact .inl h
 ·exact .inr ⟨id,h1,h2,hg id _ h2 h3 rfl,h4⟩
theorem Lw {B k:Nat} {G:List Ob} {v:Value} {t q:List Value} (h:Frs B G v k t) (hB:B≤G.length) (lq:q.length=5) (hk:k≤300) :
  ∃ v' G' M,Zu 5 104 (G++[⟨q,true,true,true,1⟩]) v (.slice (some ⟨G.length,0,none⟩) 1 1)=some (v',G',none,M)∧Frs B G' v' (k+1) (t++q)∧(∀ i∈M,B≤i)∧G.length≤G'.length∧(∀ i,i<B→G'[i]?=G[i]?)∧∀ (i:Nat) (o:Ob),G[i]?=some o→o.es=1→G'[i]?=some o:=by
 have hx:(G++[(⟨q,true,true,true,1⟩:Ob)])[G.length]?=some ⟨q,true,true,true,1⟩:=by rw [Qd (Qk _),Qq]; rfl
 have he:elemsOf (G++[(⟨q,true,true,true,1⟩:Ob)]) 5 1 (.slice (some ⟨G.length,0,none⟩) 1 1)=some q:=by
  simp [elemsOf,QW hx rfl,lq]
  exact Qu (by rw [lq]; exact Qk _)
 have hl:Go.Ev.lenV (.slice (some ⟨G.length,0,none⟩) 1 1)=some 1:=rfl
 have h1:¬ (1:Nat)=0:=by decide
 rcases h with ⟨rfl,rfl,rfl⟩ | ⟨id,rfl,h2,h3,h4,h5⟩
 ·refine ⟨.slice (some ⟨(G++[(⟨q,true,true,true,1⟩:Ob)]).length,0,none⟩) 1 1,(G++[(⟨q,true,true,true,1⟩:Ob)])++[Ob.grown 5 q],[],?_,.inr ⟨_,rfl,by simp; omega,by rw [Qd (Qk _),Qq]; rfl,by simpa using lq,by decide⟩,by simp,by simp,fun i hi => ?_,fun i o ho _ => ?_⟩
  ·have h2:(0+1)*104≤2^47∧0<104∧0<5:=by decide
   simp only [Zu,hl,he,Qj,if_neg h1,h2,and_self,not_true_eq_false,if_false,if_true]
  ·rw [Qv,Qa (by omega)]
  ·rw [Qv,Qa (Qf.1 ho).1]; exact ho
 ·have hid:id<G.length:=(Qf.1 h3).1
  have h3':(G++[(⟨q,true,true,true,1⟩:Ob)])[id]?=some ⟨t,true,true,false,5⟩:=by rw [Qa hid]; exact h3
  refine ⟨.slice (some ⟨(G++[(⟨q,true,true,true,1⟩:Ob)]).length,0,none⟩) (k+1) (k+1),((G++[(⟨q,true,true,true,1⟩:Ob)]).set id Ob.dead)++[Ob.grown 5 (t++q)],[id],?_,.inr ⟨_,rfl,by simp; omega,by rw [Qd (by rw [Qo]; exact Qk _),Qo,Qq]; simp [Ob.grown],by rw [Qg,h4,lq]; omega,by omega⟩,by simpa using h2,by simp; omega,fun i hi => ?_,fun i o ho hes => ?_⟩
  ·have h2:(k+1)*104≤2^47∧0<104∧0<5:=⟨by omega,by decide,by decide⟩
   have h7:¬ (k+1≤k):=by omega
   have h8:elemsOf (G++[(⟨q,true,true,true,1⟩:Ob)]) 5 k (.slice (some ⟨id,0,none⟩) k k)=some t:=by
    simp [elemsOf,QW h3' rfl,h4]
    refine ⟨by omega,Qu (by rw [h4]; omega)⟩
   simp only [Zu,hl,he,Qj,if_neg h1,h2,and_self,not_true_eq_false,if_false,if_true,QW h3' rfl,h8,if_neg h7,Zh,Qk]
  ·rw [Qa (by rw [Qo,Qg]; omega),Qm (by omega),Qa (by omega)]
  ·have hio:=(Qf.1 ho).1
   have hne:id≠i:=fun e=>by
    subst e
    rw [h3] at ho
    cases ho
    cases hes
   rw [Qa (by rw [Qo,Qg]; omega),Qm hne,Qa hio]; exact ho
theorem R7 {α:Type} {n:Nat}:∀ {L:List (List α)} {i:Nat} {P:List α},(∀ x∈L,x.length=n)→L[i]?=some P→Q2 n (Zw (i*n) L.flatten)=P∧i*n+n≤L.flatten.length
 | [],i,P,_,h=>by simp at h
 | x::L,0,P,hL,h=>by
  simp at h
  subst h
  have:=hL x (by simp)
  exact ⟨by rw [Ks,JT,QK,JR this],by rw [QK,Qg]; omega⟩
 | x::L,i+1,P,hL,h=>by
  have lx:=hL x (by simp)
  obtain ⟨h1,h2⟩:=R7 (fun y hy=>hL y (Kx _ hy)) (L:=L) (i:=i) (P:=P) (by simpa using h)
  refine ⟨?_,by rw [QK,Qg,VX]; omega⟩
  rw [QK,VX,X3,←X4,Xt lx,h1]
end Go.Ev.YtomfgcgnepfmjaaGreat
namespace Go.Ev.YtomfgcgnepfmjaaGreat
open Go Go.Ev
attribute [local congr] Jq Jz Jp J2 Jb
set_option maxRecDepth 100000
variable {B q id e m mi p i:Nat} {H G:List Ob} {v hv:Value} {nm pub key k key0:List Nat}
def mcell (x:Nat×Nat×Nat×Value):List Value:=[.int .i64 5,.slice (some ⟨x.1,0,none⟩) 1 1,.slice (some ⟨x.2.1,0,none⟩) 2 2,.slice (some ⟨x.2.2.1,0,none⟩) 1 1,x.2.2.2]
def Shr (nm kf sg:List Nat) (b f:Nat) (G:List Ob) (sh:List Value):Prop:=∃ p,sh=[.int .i64 4,.slice (some ⟨p,0,none⟩) 3 3,.slice (some ⟨p+1,0,none⟩) 2 2,.slice none 0 0,.slice none 0 0]∧b≤p∧G[p]?=some ⟨u8s [nm,kf,pubL sg].flatten,true,true,true,1⟩∧G[p+1]?=some ⟨ns32 [1,f],true,true,true,1⟩
theorem Shr.keep {nm kf sg:List Nat} {b f:Nat} {G G':List Ob} {sh:List Value} (h:Shr nm kf sg b f G sh) (hg:∀ i o,b≤i→G[i]?=some o→o.es=1→G'[i]?=some o):Shr nm kf sg b f G' sh:=by
 obtain ⟨p,h1,h2,h3,h4⟩:=h
 exact ⟨p,h1,h2,hg _ _ h2 h3 rfl,hg _ _ (by omega) h4 rfl⟩
structure JnInv (nm key sg:List Nat) (tx:Nat→List Nat) (H0:List Ob) (f:Nat) (G:List Ob) (fv:Value) (sh:List Value) (ms:List (Nat×Nat×Nat×Value)) (i k:Nat):Prop where
 fr:Frs (H0.length+3) G fv i (ms.map mcell).flatten
 lm:ms.length=i
 sd:G[H0.length+1]?=some ⟨plc nm 1 i (keyN nm key i) (u8s sg),true,true,true,1⟩
 so:G[H0.length+2]?=some ⟨sh,true,true,true,1⟩
 ls:sh.length=5
 sf:f<k→Shr nm (keyN nm key f) sg (H0.length+3) f G sh
 mg:∀ j x,ms[j]?=some x→Msg (H0.length+3) G x.1 x.2.1 x.2.2.1 x.2.2.2 nm 1 j (msgS nm (keyN nm key j) sg (tx j) 1 j) (msgD nm (keyN nm key j) (tx j) 1 j)
 lo:∀ j,j<H0.length→G[j]?=H0[j]?
 lg:H0.length+3≤G.length
def ZO (x:Nat×List Nat):List Value := .int .u32 (x.1:Nat)::u8s x.2
def Je (hs:List (Nat×List Nat)):List Value:=(hs.map ZO).flatten
def H33 (hs:List (Nat×List Nat)):Prop:=∀ x∈hs,x.2.length=32
theorem Yf {x:Nat×List Nat} (h:x.2.length=32):(ZO x).length=33:=by simp [ZO,Qp,h]
theorem Fg {hs:List (Nat×List Nat)} (h:H33 hs):∀ r∈hs.map ZO,r.length=33:=fun r hr=>by
 obtain ⟨x,hx,rfl⟩:=Jc.1 hr
 exact Yf (h x hx)
theorem Vh {hs:List (Nat×List Nat)} (h:H33 hs):(Je hs).length=hs.length*33:=by
 induction hs with
 | nil=>rfl
 | cons x hs ih =>
  have h1:=ih fun y hy=>h y (Kx _ hy)
  simp only [Je,Jg,QK,Qg,Yf (h x (by simp)),Zn] at h1 ⊢
  omega
theorem WK (a b:List (Nat×List Nat)):Je (a++b)=Je a++Je b:=by simp [Je]
def HS (t:Prop) (B:Nat) (G:List Ob) (v:Value) (hs:List (Nat×List Nat)):Prop :=
 (v=.slice none 0 0∧hs=[])∨(∃ id,v=.slice (some ⟨id,0,none⟩) 0 0∧hs=[]∧B≤id∧G[id]?=some ⟨[],true,true,true,1⟩) ∨
  ∃ id c tl,v=.slice (some ⟨id,0,none⟩) hs.length c∧B≤id∧G[id]?=some ⟨Je hs++tl,true,true,false,33⟩∧tl.length+hs.length*33=c*33∧0<c∧(t→tl=[])
theorem HS.keep {t:Prop} {B:Nat} {G G':List Ob} {v:Value} {hs:List (Nat×List Nat)} (h:HS t B G v hs) (hg:∀ i o,B≤i→G[i]?=some o→(o.es=33∨o.cells=[])→G'[i]?=some o):HS t B G' v hs:=by
 rcases h with h | ⟨id,h1,h2,h3,h4⟩ | ⟨id,c,tl,h1,h2,h3,h4⟩
 ·exact .inl h
 ·exact .inr (.inl ⟨id,h1,h2,h3,hg _ _ h3 h4 (.inr rfl)⟩)
 ·exact .inr (.inr ⟨id,c,tl,h1,h2,hg _ _ h2 h3 (.inl rfl),h4⟩)
theorem HS.ext {t:Prop} {B:Nat} {G G':List Ob} {v:Value} {hs:List (Nat×List Nat)} (h:HS t B G v hs) (hg:∀ i,B≤i→i<G.length→G'[i]?=G[i]?):HS t B G' v hs :=
 h.keep fun i o hb ho _=>(hg i hb (Qf.1 ho).1).trans ho
theorem HS.weak {t t':Prop} {B B':Nat} {G:List Ob} {v:Value} {hs:List (Nat×List Nat)} (h:HS t B G v hs) (hb:B'≤B) (ht:t'→t):HS t' B' G v hs:=by
 rcases h with h | ⟨id,h1,h2,h3,h4⟩ | ⟨id,c,tl,h1,h2,h3,h4,h5,h6⟩
 ·exact .inl h
 ·exact .inr (.inl ⟨id,h1,h2,ZT hb h3,h4⟩)
 ·exact .inr (.inr ⟨id,c,tl,h1,ZT hb h2,h3,h4,h5,fun k=>h6 (ht k)⟩)
theorem HS.shape {t:Prop} {B:Nat} {G:List Ob} {v:Value} {hs:List (Nat×List Nat)} (h:HS t B G v hs):∃ a c,v=.slice a hs.length c:=by
 rcases h with ⟨h1,rfl⟩ | ⟨id,h1,rfl,h3,h4⟩ | ⟨id,c,tl,h1,h2,h3,h4⟩
 ·exact ⟨_,_,h1⟩
 ·exact ⟨_,_,h1⟩
 ·exact ⟨_,_,h1⟩
theorem HS.row {t:Prop} {B:Nat} {G:List Ob} {v:Value} {hs:List (Nat×List Nat)} (h:HS t B G v hs) (h33:H33 hs) {i:Nat} {x:Nat×List Nat} (hi:hs[i]?=some x):∃ id c cs,v=.slice (some ⟨id,0,none⟩) hs.length c∧B≤id∧G[id]?=some ⟨cs,true,true,false,33⟩∧Q2 33 (Zw (i*33) cs)=ZO x∧i*33+33≤cs.length:=by
 have hlt:=(Qf.1 hi).1
 rcases h with ⟨-,rfl⟩ | ⟨id,-,rfl,-⟩ | ⟨id,c,tl,h1,h2,h3,h4,-⟩
 ·simp at hlt
 ·simp at hlt
 ·obtain ⟨e1,e2⟩:=R7 (n:=33) (L:=hs.map ZO) (i:=i) (P:=ZO x) (Fg h33) (by rw [Zq,hi]; rfl)
  refine ⟨id,c,_,h1,h2,h3,?_,?_⟩
  ·rw [ZL (by show _≤(hs.map ZO).flatten.length; omega),ZZ (by rw [QC]; show _≤(hs.map ZO).flatten.length-_; omega)]
   exact e1
  ·rw [Qg]; show _≤(hs.map ZO).flatten.length+_; omega
theorem HS.elems {t:Prop} {B:Nat} {G:List Ob} {v:Value} {hs:List (Nat×List Nat)} (h:HS t B G v hs) (h33:H33 hs) {G':List Ob} (hg:∀ i,B≤i→i<G.length→G'[i]?=G[i]?):elemsOf G' 33 hs.length v=some (Je hs):=by
 rcases h.ext hg with ⟨rfl,rfl⟩ | ⟨id,rfl,rfl,h3,h4⟩ | ⟨id,c,tl,rfl,h2,h3,h4,-⟩
 ·rfl
 ·simp [elemsOf,QW h4 rfl,Je]
 ·have:=Vh h33
  simp [elemsOf,QW h3 rfl,this]
theorem dx {t:Prop} {hs:List (Nat×List Nat)} (h:HS t B G v hs) (h33:H33 hs) (h1000:hs.length≤1000):∃ v' l,Zd T 49 [v] G=some (v',G++l,[])∧HS True G.length (G++l) v' hs:=by
 have h0:=h
 rcases h with ⟨rfl,rfl⟩ | hh
 ·exact ⟨_,[],by rw [Q9]; exact As,.inl ⟨rfl,rfl⟩⟩
 ·have hnil:Vv 1 v=some false:=by
   rcases hh with ⟨id,rfl,-⟩ | ⟨id,c,tl,rfl,-⟩<;>rfl
  obtain ⟨a,c,hv⟩:=h0.shape
  have hl:Go.Ev.lenV v=some hs.length:=by rw [hv]; rfl
  have he:=h0.elems h33 (G':=G++[(⟨[],true,true,true,1⟩:Ob)]) fun i _ hi=>Qa hi
  have gl:(G++[(⟨[],true,true,true,1⟩:Ob)])[G.length]?=some ⟨[],true,true,true,1⟩:=by rw [Qd (Qk _),Qq]; rfl
  have fl:fillL [] []=some []:=rfl
  rcases Zv hs.length with h0' | h0'
  ·have hs0:=Za h0'
   subst hs0
   simp only [Z3] at he hl
   have hap:Zu 33 36 (G++[(⟨[],true,true,true,1⟩:Ob)]) (.slice (some ⟨G.length,0,none⟩) 0 0) v=some (.slice (some ⟨G.length,0,none⟩) 0 0,G++[(⟨[],true,true,true,1⟩:Ob)],none,[]):=by
    simp only [Zu,hl,he,Qj,if_true]
   refine ⟨_,[⟨[],true,true,true,1⟩],?_,.inr (.inl ⟨G.length,rfl,rfl,Qk _,gl⟩)⟩
   rw [QE (fn:=LL) rfl]
   simp only [LL,Q0,quiet,cW,↓pW,reduceCtorEq,seval,-Qb,hnil,fl,hap]
  ·have hap:Zu 33 36 (G++[(⟨[],true,true,true,1⟩:Ob)]) (.slice (some ⟨G.length,0,none⟩) 0 0) v=some (.slice (some ⟨(G++[(⟨[],true,true,true,1⟩:Ob)]).length,0,none⟩) hs.length hs.length,(G++[(⟨[],true,true,true,1⟩:Ob)])++[Ob.grown 33 (Je hs)],none,[]):=by
    have e1:¬ hs.length=0:=by omega
    have e2:(hs.length*36≤2^47∧0<36∧0<33)=True:=eq_true ⟨by omega,by decide,by decide⟩
    have e3:¬ (hs.length≤0):=by omega
    have e4:elemsOf (G++[(⟨[],true,true,true,1⟩:Ob)]) 33 0 (.slice (some ⟨G.length,0,none⟩) 0 0)=some []:=by simp [elemsOf,QW gl rfl]
    simp only [Zu,hl,he,Qj,if_neg e1,QB,e2,not_true_eq_false,if_false,if_true,QW gl rfl,e4,if_neg e3,Qr]
   refine ⟨.slice (some ⟨(G++[(⟨[],true,true,true,1⟩:Ob)]).length,0,none⟩) hs.length hs.length,[⟨[],true,true,true,1⟩,Ob.grown 33 (Je hs)],?_,.inr (.inr ⟨(G++[(⟨[],true,true,true,1⟩:Ob)]).length,hs.length,[],rfl,by rw [Qg]; omega,?_,by simp,h0',fun _=>rfl⟩)⟩
   ·rw [Qv] at hap
    simp only [Qw,Qr] at hap
    rw [QE (fn:=LL) rfl]
    simp only [LL,Q0,quiet,cW,↓pW,reduceCtorEq,seval,-Qb,hnil,fl,hap]
   ·rw [show G++[(⟨[],true,true,true,1⟩:Ob),Ob.grown 33 (Je hs)]=(G++[(⟨[],true,true,true,1⟩:Ob)])++[Ob.grown 33 (Je hs)] by simp,Qd (Qk _),Qq,Q9]; rfl
theorem Pd {hs:List (Nat×List Nat)} {x:Nat×List Nat} (h:HS True B G v hs) (h33:H33 hs) (hx:x.2.length=32) (hB:B≤G.length) (h1000:hs.length≤2000) :
  ∃ v' G' M,Zu 33 36 (G++[⟨ZO x,true,true,true,1⟩]) v (.slice (some ⟨G.length,0,none⟩) 1 1)=some (v',G',none,M)∧HS True B G' v' (hs++[x])∧(∀ i∈M,B≤i)∧G.length≤G'.length∧(∀ i,i<B→G'[i]?=G[i]?)∧∀ (i:Nat) (o:Ob),G[i]?=some o→o.es=1→G'[i]?=some o:=by
 have lq:=Yf hx
 have hgx:(G++[(⟨ZO x,true,true,true,1⟩:Ob)])[G.length]?=some ⟨ZO x,true,true,true,1⟩:=by rw [Qd (Qk _),Qq]; rfl
 have he:elemsOf (G++[(⟨ZO x,true,true,true,1⟩:Ob)]) 33 1 (.slice (some ⟨G.length,0,none⟩) 1 1)=some (ZO x):=by
  simp [elemsOf,QW hgx rfl,lq]
  exact Qu (by rw [lq]; exact Qk _)
 have hl:Go.Ev.lenV (.slice (some ⟨G.length,0,none⟩) 1 1)=some 1:=rfl
 have h1:¬ (1:Nat)=0:=by decide
 have one:Je [x]=ZO x:=by simp [Je]
 have hnew:(G++[(⟨ZO x,true,true,true,1⟩:Ob)]++[Ob.grown 33 (ZO x)])[(G++[(⟨ZO x,true,true,true,1⟩:Ob)]).length]?=some ⟨Je [x]++[],true,true,false,33⟩:=by rw [Qd (Qk _),Qq,one,Q9]; rfl
 rcases h with ⟨rfl,rfl⟩ | ⟨id,rfl,rfl,h3,h4⟩ | ⟨id,c,tl,rfl,h2,h3,h4,h5,h6⟩
 ·refine ⟨.slice (some ⟨(G++[(⟨ZO x,true,true,true,1⟩:Ob)]).length,0,none⟩) 1 1,(G++[(⟨ZO x,true,true,true,1⟩:Ob)])++[Ob.grown 33 (ZO x)],[],?_,.inr (.inr ⟨_,1,[],rfl,by rw [Qg]; omega,hnew,rfl,by decide,fun _=>rfl⟩),by simp,by simp,fun i hi => ?_,fun i o ho _ => ?_⟩
  ·have h2:(0+1)*36≤2^47∧0<36∧0<33:=by decide
   simp only [Zu,hl,he,Qj,if_neg h1,h2,and_self,not_true_eq_false,if_false,if_true]
  ·rw [Qv,Qa (by omega)]
  ·rw [Qv,Qa (Qf.1 ho).1]; exact ho
 ·have hid:id<G.length:=(Qf.1 h4).1
  have h4':(G++[(⟨ZO x,true,true,true,1⟩:Ob)])[id]?=some ⟨[],true,true,true,1⟩:=by rw [Qa hid]; exact h4
  refine ⟨.slice (some ⟨(G++[(⟨ZO x,true,true,true,1⟩:Ob)]).length,0,none⟩) 1 1,(G++[(⟨ZO x,true,true,true,1⟩:Ob)])++[Ob.grown 33 (ZO x)],[],?_,.inr (.inr ⟨_,1,[],rfl,by rw [Qg]; omega,hnew,rfl,by decide,fun _=>rfl⟩),by simp,by simp,fun i hi => ?_,fun i o ho _ => ?_⟩
  ·have h2:(0+1)*36≤2^47∧0<36∧0<33:=by decide
   have h8:elemsOf (G++[(⟨ZO x,true,true,true,1⟩:Ob)]) 33 0 (.slice (some ⟨id,0,none⟩) 0 0)=some []:=by simp [elemsOf,QW h4' rfl]
   have h9:¬ (0+1≤0):=by decide
   simp only [Zu,hl,he,Qj,if_neg h1,h2,and_self,not_true_eq_false,if_false,if_true,QW h4' rfl,h8,if_neg h9,Qr]
  ·rw [Qv,Qa (by omega)]
  ·rw [Qv,Qa (Qf.1 ho).1]; exact ho
 ·have htl:=h6 trivial
  subst htl
  have hc:c=hs.length:=by simp at h4; omega
  subst hc
  have hid:id<G.length:=(Qf.1 h3).1
  have hcl:=Vh h33
  rw [Q9] at h3
  have h3':(G++[(⟨ZO x,true,true,true,1⟩:Ob)])[id]?=some ⟨Je hs,true,true,false,33⟩:=by rw [Qa hid]; exact h3
  refine ⟨.slice (some ⟨(G++[(⟨ZO x,true,true,true,1⟩:Ob)]).length,0,none⟩) (hs.length+1) (hs.length+1),((G++[(⟨ZO x,true,true,true,1⟩:Ob)]).set id Ob.dead)++[Ob.grown 33 (Je hs++ZO x)],[id],?_,  .inr (.inr ⟨_,hs.length+1,[],by rw [show (hs++[x]).length=hs.length+1 by simp],by rw [Qg]; omega,?_,by simp,by omega,fun _=>rfl⟩),by simpa using h2,by simp; omega,fun i hi => ?_,fun i o ho hes => ?_⟩
  ·have h2:(hs.length+1)*36≤2^47∧0<36∧0<33:=⟨by omega,by decide,by decide⟩
   have h7:¬ (hs.length+1≤hs.length):=by omega
   have h8:elemsOf (G++[(⟨ZO x,true,true,true,1⟩:Ob)]) 33 hs.length (.slice (some ⟨id,0,none⟩) hs.length hs.length)=some (Je hs):=by
    simp [elemsOf,QW h3' rfl,hcl]
    exact Qu (by rw [hcl]; exact Qk _)
   simp only [Zu,hl,he,Qj,if_neg h1,h2,and_self,not_true_eq_false,if_false,if_true,QW h3' rfl,h8,if_neg h7,Zh,Qk]
  ·rw [Qd (by rw [Qo]; exact Qk _),Qo,Qq,WK,one,Q9]; rfl
  ·rw [Qa (by rw [Qo,Qg]; omega),Qm (by omega),Qa (by omega)]
  ·have hio:=(Qf.1 ho).1
   have hne:id≠i:=fun e=>by
    subst e
    rw [h3] at ho
    cases ho
    cases hes
   rw [Qa (by rw [Qo,Qg]; omega),Qm hne,Qa hio]; exact ho
theorem Ff {hs:List (Nat×List Nat)} (h:H33 hs) (p:Nat) (hp:p≤hs.length):Q2 (p*33) (Je hs)=Je (hs.take p):=by
 have hl:(Je (hs.take p)).length=p*33:=by rw [Vh fun x hx=>h x (QP hx),Q7,Ze hp]
 conv=>lhs; rw [←ZV p hs,WK]
 exact JR hl
theorem H33.take {hs:List (Nat×List Nat)} (h:H33 hs) (p:Nat):H33 (hs.take p):=fun x hx=>h x (QP hx)
theorem H33.drop {hs:List (Nat×List Nat)} (h:H33 hs) (p:Nat):H33 (hs.drop p):=fun x hx=>h x (Zz hx)
theorem Fh {hs:List (Nat×List Nat)} (h:H33 hs) (p:Nat) (hp:p≤hs.length):Zw (p*33) (Je hs)=Je (hs.drop p):=by
 have hl:(Je (hs.take p)).length=p*33:=by rw [Vh (h.take p),Q7,Ze hp]
 conv=>lhs; rw [←ZV p hs,WK]
 exact Xt hl
theorem Ax:(Builtin.zeroCells Wd.toArray 1).toList.length=33:=by decide +kernel
theorem PE {hs:List (Nat×List Nat)} {p:Nat} (h:HS True B H v hs) (h33:H33 hs) (hp:p<hs.length) (h1000:hs.length≤2000) :
  ∃ v' H' M,Zd T 96 [v,.int .i64 (p:Nat),.int .i64 ((p+1:Nat):Int)] H=some (v',H',M)∧HS False B H' v' (hs.eraseIdx p)∧(∀ i,i<B→H'[i]?=H[i]?)∧H.length≤H'.length∧(∀ i∈M,B≤i)∧∀ (i:Nat) (o:Ob),H[i]?=some o→o.es=1→H'[i]?=some o:=by
 rcases h with ⟨-,rfl⟩ | ⟨id,-,rfl,-⟩ | ⟨id,c,tl,rfl,h2,h3,h4,h5,h6⟩
 ·simp at hp
 ·simp at hp
 have htl:=h6 trivial
 subst htl
 have hc:c=hs.length:=by simp at h4; omega
 subst hc
 rw [Q9] at h3
 obtain ⟨n,hn⟩:∃ n,n=hs.length:=⟨_,rfl⟩
 have hcl:=Vh h33
 rw [←hn] at hcl hp h1000 ⊢
 have hid:=(Qf.1 h3).1
 have hlv:liveAt H id=some ⟨Je hs,true,true,false,33⟩:=QW h3 rfl
 have hD:(Je (hs.drop (p+1))).length=(n-(p+1))*33:=by rw [Vh (h33.drop _),QC,hn]
 have hdd:=Fh h33 (p+1) (by omega)
 obtain ⟨H1,M1,hap,k1,k2,k3,k4⟩:∃ H1 M1,Zu 33 36 H (.slice (some ⟨id,0,none⟩) p n) (.slice (some ⟨id,(p+1)*33,none⟩) (n-(p+1)) (n-(p+1)))=some (.slice (some ⟨id,0,none⟩) (n-1) n,H1,none,M1)∧H1[id]?=some ⟨Je (hs.eraseIdx p)++Zw ((n-1)*33) (Je hs),true,true,false,33⟩∧(∀ i,i≠id→H1[i]?=H[i]?)∧H1.length=H.length∧∀ i∈M1,B≤i:=by
  have hl:Go.Ev.lenV (.slice (some ⟨id,(p+1)*33,none⟩) (n-(p+1)) (n-(p+1)))=some (n-(p+1)):=rfl
  have he:elemsOf H 33 (n-(p+1)) (.slice (some ⟨id,(p+1)*33,none⟩) (n-(p+1)) (n-(p+1)))=some (Je (hs.drop (p+1))):=by
   have e1:(p+1)*33+(n-(p+1))*33≤(Je hs).length:=by omega
   simp only [elemsOf,hlv,Qj,Xa,e1,and_self,if_true,hdd]
   rw [Qu (by rw [hD]; exact Qk _)]
  have her:Je (hs.eraseIdx p)=Q2 (p*33) (Je hs)++Je (hs.drop (p+1)):=by
   rw [List.eraseIdx_eq_take_drop_succ,WK,Ff h33 p (by omega)]
  rcases Zv (n-(p+1)) with h0 | h0
  ·refine ⟨H,[],?_,?_,fun _ _=>rfl,rfl,by simp⟩
   ·simp only [Zu,hl,he,Qj,if_pos h0]
    rw [show n-1=p by omega]
   ·have hnil:Je (hs.drop (p+1))=[]:=Za (by rw [hD,h0])
    rw [h3,her,show n-1=p by omega,hnil,Q9,ZV]
  ·refine ⟨H.set id ⟨Je (hs.eraseIdx p)++Zw ((n-1)*33) (Je hs),true,true,false,33⟩,[id],?_,Qt hid,fun i hi=>Qm (Ne.symm hi),Qo,by simpa using h2⟩
   have e0:¬ n-(p+1)=0:=by omega
   have e2:(p+(n-(p+1)))*36≤2^47∧0<36∧0<33:=⟨by omega,by decide,by decide⟩
   have e3:p+(n-(p+1))≤n:=by omega
   have e4:elemsOf H 33 p (.slice (some ⟨id,0,none⟩) p n)=some (Q2 (p*33) (Je hs)):=by
    have e1:0+p*33≤(Je hs).length:=by omega
    simp only [elemsOf,hlv,Qj,Xa,e1,and_self,if_true,JT]
   have e5:Addr.add ⟨id,0,none⟩ (p*33)=⟨id,p*33,none⟩:=by
    rcases Zv p with h | h
    ·subst h; rfl
    ·simp [Addr.add,show ¬ p*33=0 by omega]
   have e6:storeAt H ⟨id,p*33,none⟩ (Je (hs.drop (p+1)))=some (H.set id ⟨Je (hs.eraseIdx p)++Zw ((n-1)*33) (Je hs),true,true,false,33⟩):=by
    have e7:p*33+(Je (hs.drop (p+1))).length≤(Je hs).length:=by omega
    simp only [storeAt,hlv,Qj,Xa,e7,and_self,if_true]
    rw [JL _ _ _ e7,her,hD,←Qv,show p*33+(n-(p+1))*33=(n-1)*33 by omega]
   simp only [Zu,hl,he,Qj,if_neg e0,e2,and_self,not_true_eq_false,if_false,hlv,e4,if_pos e3,e5,e6]
   rw [show p+(n-(p+1))=n-1 by omega]
 have hlv1:liveAt H1 id=some ⟨Je (hs.eraseIdx p)++Zw ((n-1)*33) (Je hs),true,true,false,33⟩:=QW k1 rfl
 have hel:(hs.eraseIdx p).length=n-1:=by rw [List.length_eraseIdx_of_lt (by omega),hn]
 have h33e:H33 (hs.eraseIdx p):=fun x hx=>h33 x (List.mem_of_mem_eraseIdx hx)
 have hce:(Je (hs.eraseIdx p)).length=(n-1)*33:=by rw [Vh h33e,hel]
 obtain ⟨Z,hZ⟩:∃ Z,Z=(Builtin.zeroCells Wd.toArray 1).toList:=⟨_,rfl⟩
 have lZ:Z.length=33:=by rw [hZ]; exact Ax
 have hcr:A8 H1 Wd (.slice (some ⟨id,(n-1)*33,none⟩) 1 1)=some (H1.set id ⟨Je (hs.eraseIdx p)++Z,true,true,false,33⟩,[id]):=by
  have e7:(n-1)*33+Z.length≤(Je (hs.eraseIdx p)++Zw ((n-1)*33) (Je hs)).length:=by rw [Qg,QC,hce,hcl,lZ]; omega
  simp only [A8,←hZ,storeAt,hlv1,Qj,Xa,e7,and_self,if_true]
  rw [JL _ _ _ e7,JR hce,Ju (by rw [Qg,QC,hce,hcl,lZ]; omega),Q9]
 refine ⟨.slice (some ⟨id,0,none⟩) (n-1) n,H1.set id ⟨Je (hs.eraseIdx p)++Z,true,true,false,33⟩,Qy H.length (Qy H.length [] M1) [id],?_,.inr (.inr ⟨id,n,Z,by rw [hel],h2,Qt (by omega),by rw [lZ,hel]; omega,by omega,fun h=>h.elim⟩),fun i hi=>by rw [Qm (by omega),k2 i (by omega)],by rw [Qo]; omega,fun i hi => ?_,fun i o ho hes => ?_⟩
 rotate_left
 ·rcases Zb hi with h | h
  ·rcases Zb h with h | h
   ·simp at h
   ·exact k4 i h
  ·rw [Zk.1 h]; exact h2
 ·have hne:i≠id:=fun e=>by
   rw [e,h3] at ho
   cases ho
   cases hes
  rw [Qm (Ne.symm hne),k2 i hne]; exact ho
 have b0:ZC n n (some (.int .i64 (p:Nat))) (some (.int .i64 ((p+1:Nat):Int))) (some (.int .i64 (n:Nat)))=some (p,p+1,n):=by
  simp only [ZC,show Xo (some (.int .i64 (n:Nat))) n n=some n from J3 (Qk _),Qj,show Xo (some (.int .i64 ((p+1:Nat):Int))) n n=some (p+1) from J3 (by omega),show Xo (some (.int .i64 (p:Nat))) (p+1) 0=some p from J3 (by omega)]
  rfl
 have b1:ZC n n none (some (.int .i64 (p:Nat))) none=some (0,p,n):=by
  rw [JA,show Xo (some (.int .i64 (p:Nat))) n n=some p from J3 (by omega),Qj,XQ]; rfl
 have b2:ZC n n (some (.int .i64 ((p+1:Nat):Int))) none none=some (p+1,n,n):=by
  rw [JA,XQ,Qj,show Xo (some (.int .i64 ((p+1:Nat):Int))) n 0=some (p+1) from J3 (by omega)]; rfl
 have b3:ZC (n-1) n (some (.int .i64 ((n-1:Nat):Int))) (some (.int .i64 (n:Nat))) none=some (n-1,n,n):=by
  rw [JA,show Xo (some (.int .i64 (n:Nat))) n (n-1)=some n from J3 (Qk _),Qj,show Xo (some (.int .i64 ((n-1:Nat):Int))) n 0=some (n-1) from J3 (by omega)]; rfl
 have e1:(((p:Nat):Int)==((p+1:Nat):Int))=false:=by simp; omega
 have e2:n-(n-1)=1:=by omega
 have hc:=@cE T
 clear hZ lZ hce hel h33e hlv hlv1 hD hdd hcl k2 k3 k4 h4 h5 h6
 generalize p+1=p1 at *
 generalize hn1:n-1=n1 at *
 rw [QE (fn:=oz) rfl]
 simp only [oz,Q0,quiet,cW,↓pW,reduceCtorEq,seval,-Qb,b0,b1,b2,b3,e1,e2,h3,k1,hap,hcr,hc,QB,Ks,Qk]
theorem iR {idx:Nat} {x:Nat×List Nat} (hq:G[q]?=some ⟨[.int .u32 idx],true,true,true,1⟩) (hx:x.2.length=32) :
  Zd T 95 [.agg (ZO x).toArray,.pointer (some ⟨q,0,none⟩)] G=some (.bool ((x.1:Int)==(idx:Int)),G++[⟨ZO x,true,true,true,1⟩],[]):=by
 have hql:=(Qf.1 hq).1
 have g1:(G++[(⟨ZO x,true,true,true,1⟩:Ob)])[q]?=some ⟨[.int .u32 idx],true,true,true,1⟩:=by rw [Qa hql]; exact hq
 have g2:(G++[(⟨ZO x,true,true,true,1⟩:Ob)])[G.length]?=some ⟨ZO x,true,true,true,1⟩:=by rw [Qd (Qk _),Qq]; rfl
 have h0:(ZO x)[0]?=some (.int .u32 (x.1:Nat)):=rfl
 have ok1:∀ L:List Value,(Value.agg L.toArray).cells.toList=L:=fun _=>rfl
 have ok3:∀ L:List Value,okVar (Value.agg L.toArray)=true:=fun _=>rfl
 generalize ZO x=C at *
 rw [QE (fn:=o9) rfl]
 simp only [o9,Q0,quiet,cW,↓pW,reduceCtorEq,seval,-Qb,g1,g2,h0,ok1,ok3]
def ixI (v fv:Value) (n:Nat) (i:Int) (G:List Ob) (ex:Env):St:=⟨[(0,v),(1,fv),(7,.int .i64 (n:Nat)),(8,.int .i64 i)]++ex,G,[]⟩
theorem Cg {t:Prop} {l:List Ob} {hs:List (Nat×List Nat)} {idx:Nat} {x:Nat×List Nat} (h:HS t B H v hs) (h33:H33 hs) (hi:hs[i]?=some x) (hn:hs.length≤2000) (hq:H[q]?=some ⟨[.int .u32 idx],true,true,true,1⟩) :
  Q8 T H.length V7 (ixI v (.func (.func 95) #[] #[.pointer (some ⟨q,0,none⟩)]) hs.length i (H++l) [])=if x.1=idx then some (.ret,⟨[(4,.int .i64 i)],H++(l++[⟨ZO x,true,true,true,1⟩]),[]⟩) else some (.normal,ixI v (.func (.func 95) #[] #[.pointer (some ⟨q,0,none⟩)]) hs.length ((i+1:Nat):Int) (H++(l++[⟨ZO x,true,true,true,1⟩])) []):=by
 have hlt:=(Qf.1 hi).1
 obtain ⟨id,c,cs,rfl,-,h3,h4,h5⟩:=h.row h33 hi
 have hx:=h33 x (Qz hi)
 have g0:(H++l)[id]?=some ⟨cs,true,true,false,33⟩:=by rw [Qa (Qf.1 h3).1]; exact h3
 have hc:=iR (G:=H++l) (by rw [Qa (Qf.1 hq).1]; exact hq) hx
 rw [Qv] at hc
 have e1:((i:Int)<(hs.length:Int))=True:=eq_true (by omega)
 have w3:IntKind.i64.wrap ((i:Int)+1)=((i+1:Nat):Int):=Z0 (b:=1) (by omega)
 have hne:=Yf hx
 generalize ZO x=C at *
 generalize i+1=i1 at *
 generalize hs.length=n at *
 by_cases he:x.1=idx
 ·rw [if_pos he]
  rw [he,beq_self_eq_true] at hc
  simp only [ixI,V7,Q0,quiet,cW,↓pW,reduceCtorEq,seval,-Qb,e1,g0,h4,h5,hc]
 ·rw [if_neg he]
  rw [show ((x.1:Int)==(idx:Int))=false by simp; omega] at hc
  simp only [ixI,V7,Q0,quiet,cW,↓pW,reduceCtorEq,seval,-Qb,e1,g0,h4,h5,hc,w3]
theorem Pc {t:Prop} {hs:List (Nat×List Nat)} {idx:Nat} {x:Nat×List Nat} (h:HS t B H v hs) (h33:H33 hs) (hp:hs[p]?=some x) (hx:x.1=idx) (hbef:∀ (j:Nat) (y:Nat×List Nat),j<p→hs[j]?=some y→y.1≠idx) (hn:hs.length≤2000) (hq:H[q]?=some ⟨[.int .u32 idx],true,true,true,1⟩) :
  ∃ l,Zd T 94 [v,.func (.func 95) #[] #[.pointer (some ⟨q,0,none⟩)]] H=some (.int .i64 p,H++l,[]):=by
 have hlp:=(Qf.1 hp).1
 obtain ⟨st,hA,l,rfl⟩:=GB (T:=T) (base:=H.length) (body:=V7) (x := .ret) (by simp)
  (I:=fun i st=>∃ l,st=ixI v (.func (.func 95) #[] #[.pointer (some ⟨q,0,none⟩)]) hs.length i (H++l) []) (Q:=fun st=>∃ l,st=⟨[(4,.int .i64 p)],H++l,[]⟩) p
  (fun j st hj hs'=>by
   obtain ⟨l,rfl⟩:=hs'
   obtain ⟨y,hy⟩:∃ y,hs[j]?=some y:=⟨_,Qh (by omega)⟩
   have hb:=Cg (l:=l) h h33 hy hn hq
   rw [if_neg (hbef j y hj hy)] at hb
   exact ⟨_,hb,_,rfl⟩)
  (fun st hs'=>by
   obtain ⟨l,rfl⟩:=hs'
   have hb:=Cg (l:=l) h h33 hp hn hq
   rw [if_pos hx] at hb
   exact ⟨_,hb,_,rfl⟩) p 0 (by omega) (ixI v (.func (.func 95) #[] #[.pointer (some ⟨q,0,none⟩)]) hs.length ((0:Nat):Int) H []) ⟨[],by rw [Q9]⟩
 have hB:Q8 T H.length (.block 0 (.loop V7)) (ixI v (.func (.func 95) #[] #[.pointer (some ⟨q,0,none⟩)]) hs.length ((0:Nat):Int) H [])=some (.ret,⟨[(4,.int .i64 p)],H++l,[]⟩):=by rw [Jr,hA]; rfl
 obtain ⟨a,c,hv⟩:=h.shape
 have hlen:vLen false v=some (.int .i64 (hs.length:Nat)):=by rw [hv]; rfl
 simp only [ixI,Qw,Qr,show ((0:Nat):Int)=0 from rfl] at hB
 refine ⟨l,?_⟩
 rw [QE (fn:=LK) rfl]
 simp only [LK,Q0,quiet,cW,↓pW,reduceCtorEq,seval,-Qb,hlen,hB]
theorem bX {t:Prop} {hs:List (Nat×List Nat)} {idx:Nat} (h:HS t B H v hs) (h33:H33 hs) (hbef:∀ (j:Nat) (y:Nat×List Nat),hs[j]?=some y→y.1≠idx) (hn:hs.length≤2000) (hq:H[q]?=some ⟨[.int .u32 idx],true,true,true,1⟩) :
  ∃ l,Zd T 94 [v,.func (.func 95) #[] #[.pointer (some ⟨q,0,none⟩)]] H=some (.int .i64 (-1),H++l,[]):=by
 obtain ⟨st,hA,l,rfl⟩:=Zc (T:=T) (base:=H.length) (id:=0) (body:=V7)
  (fun i st=>∃ l,st=ixI v (.func (.func 95) #[] #[.pointer (some ⟨q,0,none⟩)]) hs.length i (H++l) []) (Q:=fun st=>∃ l,st=ixI v (.func (.func 95) #[] #[.pointer (some ⟨q,0,none⟩)]) hs.length hs.length (H++l) [(9,.bool false)]) hs.length
  (s:=ixI v (.func (.func 95) #[] #[.pointer (some ⟨q,0,none⟩)]) hs.length ((0:Nat):Int) H []) ⟨[],by rw [Q9]⟩
  (fun j st hj hs'=>by
   obtain ⟨l,rfl⟩:=hs'
   obtain ⟨y,hy⟩:∃ y,hs[j]?=some y:=⟨_,Qh (by omega)⟩
   have hb:=Cg (l:=l) h h33 hy hn hq
   rw [if_neg (hbef j y hy)] at hb
   exact ⟨_,hb,_,rfl⟩)
  (fun st hs'=>by
   obtain ⟨l,rfl⟩:=hs'
   refine ⟨_,?_,l,rfl⟩
   have e1:((hs.length:Int)<(hs.length:Int))=False:=eq_false (by omega)
   generalize hs.length=n at *
   simp only [ixI,V7,Q0,quiet,cW,↓pW,reduceCtorEq,seval,-Qb,e1])
 obtain ⟨a,c,hv⟩:=h.shape
 have hlen:vLen false v=some (.int .i64 (hs.length:Nat)):=by rw [hv]; rfl
 simp only [ixI,Qw,Qr,show ((0:Nat):Int)=0 from rfl] at hA
 refine ⟨l,?_⟩
 rw [QE (fn:=LK) rfl]
 simp only [LK,Q0,quiet,cW,↓pW,reduceCtorEq,seval,-Qb,hlen,hA]
theorem eX {cs:List Value} {x:Nat×List Nat} (h1:Q2 33 (Zw (p*33) cs)=ZO x) (h2:p*33+33≤cs.length) (hx:x.2.length=32):Q2 32 (Zw (p*33+1) cs)=u8s x.2:=by
 have:Zw 1 (Q2 33 (Zw (p*33) cs))=u8s x.2:=by rw [h1]; rfl
 rw [←this,List.drop_take,X4]
theorem OU {hs:List (Nat×List Nat)} (ho:H[id]?=some ⟨fol nm e m key pub hv,true,true,true,1⟩) (hn:B32 nm) (hk:B32 key) (hp:pub.length=32) (hm:mi<m) (hS:HS True B H hv hs) (h33:H33 hs) (h1000:hs.length≤1000) (hid:id<B) (hx:hs[p]?=some (mi,k)) (hbef:∀ (j:Nat) (y:Nat×List Nat),j<p→hs[j]?=some y→y.1≠mi) :
  ∃ H' M hv',Zd T 50 [.pointer (some ⟨id,0,none⟩),.int .u32 mi] H=some (.tuple #[.agg (u8s k).toArray,.int .i64 0],H',M)∧H'[id]?=some ⟨fol nm e m key pub hv',true,true,true,1⟩∧HS False B H' hv' (hs.eraseIdx p)∧(∀ i,i<B→i≠id→H'[i]?=H[i]?)∧H.length≤H'.length∧∀ i∈M,i=id∨B≤i:=by
 have hidl:=(Qf.1 ho).1
 have hpl:=(Qf.1 hx).1
 have lk:k.length=32:=h33 _ (Qz hx)
 obtain ⟨z,hz,lz⟩:∃ z:List Nat,Qc 32 (Value.int .u8 0)=u8s z∧z.length=32:=⟨Qc 32 0,rfl,rfl⟩
 obtain ⟨H1,hH1⟩:∃ G,G=H++[(⟨[.int .u32 mi],true,true,true,1⟩:Ob),⟨u8s z,true,true,true,1⟩]:=⟨_,rfl⟩
 have l1:H1.length=H.length+2:=by rw [hH1]; simp
 have old1:∀ i,i<H.length→H1[i]?=H[i]? := fun i hi=>by rw [hH1,Qa hi]
 have g1i:H1[H.length]?=some ⟨[.int .u32 mi],true,true,true,1⟩:=by rw [hH1,Qd (Qk _),Qq]; rfl
 have g1z:H1[H.length+1]?=some ⟨u8s z,true,true,true,1⟩:=by rw [hH1,Qd (by omega),Qs]; rfl
 have S1:=hS.ext (G':=H1) fun i _ hi=>old1 i hi
 obtain ⟨l,hix⟩:=Pc S1 h33 hx rfl hbef (by omega) g1i
 obtain ⟨G2,hG2⟩:∃ G,G=H1++l:=⟨_,rfl⟩
 rw [←hG2] at hix
 have l2:H1.length≤G2.length:=by rw [hG2,Qg]; omega
 have old2:∀ i,i<H1.length→G2[i]?=H1[i]? := fun i hi=>by rw [hG2,Qa hi]
 obtain ⟨H3,hH3⟩:∃ G,G=G2++[(⟨u8s k,true,true,true,1⟩:Ob)]:=⟨_,rfl⟩
 have old3:∀ i,i<H1.length→H3[i]?=H1[i]? := fun i hi=>by rw [hH3,Qa (by omega),old2 i hi]
 have g3k:H3[G2.length]?=some ⟨u8s k,true,true,true,1⟩:=by rw [hH3,Qd (Qk _),Qq]; rfl
 have l3:H3.length=G2.length+1:=by rw [hH3]; simp
 obtain ⟨hv',H4,M4,hde,d1,d2,d3,d4,d5⟩:=PE (S1.ext (G':=H3) fun i _ hi=>old3 i hi) h33 hpl (by omega)
 have g1:=(old1 id hidl).trans ho
 have g3:=(old3 id (by omega)).trans g1
 have g4:H4[id]?=some ⟨fol nm e m key pub hv,true,true,true,1⟩:=d5 _ _ g3 rfl
 have g4z:=d5 _ _ ((old3 _ (by omega)).trans g1z) rfl
 have g4k:=d5 _ _ g3k rfl
 obtain ⟨hid2,c,cs,hvv,hb2,r1,r2,r3⟩:=S1.row h33 hx
 have r4:=eX r2 r3 lk
 have num:(fol nm e m key pub hv)[33]?=some (.int .u32 m):=Kp hn.len
 have h98:=Vw (e:=e) (m:=m) (hv:=hv) hn.len hk.len hp
 have hl:=Kf (e:=e) (m:=m) (hv:=hv) hn.len hk.len hp
 have hsv:=Yg (e:=e) (m:=m) (hv:=hv) (hv':=hv') hn.len hk.len hp
 have hBl:B≤H.length:=by
  obtain ⟨_,_,_,_,hbb,rr,-⟩:=hS.row h33 hx
  have:=(Qf.1 rr).1
  omega
 obtain ⟨a',c',hv2⟩:=d1.shape
 have c1:hv'.cells.toList=[hv']:=by rw [hv2]; rfl
 have c2:hv'.cells.size=1:=by rw [hv2]; rfl
 have c3:okVar hv'=true:=by rw [hv2]; rfl
 refine ⟨(H4.set id ⟨fol nm e m key pub hv',true,true,true,1⟩).set (H.length+1) ⟨u8s k,true,true,true,1⟩,Qy H.length (Qy H.length [] M4) [id],hv',?_,?_,d1.keep fun i o hb ho' hes => ?_,fun i hi hne => ?_,?_,fun i hi => ?_⟩
 rotate_left
 ·rw [Qm (by omega),Qt (by omega)]
 ·have n1:i≠H.length+1:=fun e=>by
   rw [e,g4z] at ho'
   cases ho'
   rcases hes with h | h
   ·cases h
   ·have:=congrArg Il h
    rw [Qp,lz] at this
    cases this
  rw [Qm (Ne.symm n1),Qm (by omega)]; exact ho'
 ·rw [Qm (by omega),Qm (Ne.symm hne),d2 i hi,old3 i (by omega),old1 i (by omega)]
 ·rw [Qo,Qo]; omega
 ·rcases Zb hi with h | h
  ·rcases Zb h with h | h
   ·simp at h
   ·exact .inr (d4 i h)
  ·exact .inl (Zk.1 h)
 have g2:G2[id]?=some ⟨fol nm e m key pub hv,true,true,true,1⟩:=(old2 _ (by omega)).trans g1
 have g2c:G2[hid2]?=some ⟨cs,true,true,false,33⟩:=(old2 _ (Qf.1 r1).1).trans r1
 have a2:∀ o o':Ob,(G2++[o]).set G2.length o'=G2++[o']:=fun _ _=>by rw [Q3 _ _ (Qk _),Qq]; rfl
 have g5k:∀ o,(H4.set id o)[G2.length]?=some ⟨u8s k,true,true,true,1⟩:=fun o=>by rw [Qm (by omega)]; exact g4k
 have g5z:∀ o,(H4.set id o)[H.length+1]?=some ⟨u8s z,true,true,true,1⟩:=fun o=>by rw [Qm (by omega)]; exact g4z
 have g6:∀ o o',((H4.set id o).set (H.length+1) o')[H.length+1]?=some o':=fun o o'=>Qt (by rw [Qo]; omega)
 have e1:((mi:Int)<(m:Int))=True:=eq_true (by omega)
 have e2:((p:Int)<0)=False:=eq_false (by omega)
 have e3:((p:Int)<(hs.length:Int))=True:=eq_true (by omega)
 have r3':p*33+1+32≤cs.length:=by omega
 have w1:IntKind.i64.wrap ((p:Int)+1)=((p+1:Nat):Int):=Z0 (b:=1) (by omega)
 have sk:=QO (cs:=u8s z) (v:=u8s k) (by rw [Qp,Qp,lz,lk])
 have tk:Q2 32 (u8s k)=u8s k:=Q6 (by rw [Qp,lk])
 have h1:=hH1.symm
 have h3:=hH3.symm
 have ok1:∀ L:List Value,(Value.agg L.toArray).cells.toList=L:=fun _=>rfl
 have ok2:∀ L:List Value,(Value.agg L.toArray).cells.size=L.length:=fun _=>rfl
 have ok3:∀ L:List Value,okVar (Value.agg L.toArray)=true:=fun _=>rfl
 have im0:∀ L,Qy H.length L [G2.length]=L:=fun L=>QD (by simp; omega)
 have im1:∀ L,Qy H.length L [H.length+1]=L:=fun L=>QD (by simp)
 clear hH1 hH3 hG2 hx hbef S1 hS h33 d1 d2 d3 d4 d5 r1 r2 r3 hv2 old1 old2 old3 ho g4k g4z hn hk
 subst hvv
 generalize fol nm e m key pub (.slice (some ⟨hid2,0,none⟩) hs.length c)=F at *
 generalize fol nm e m key pub hv'=F' at *
 generalize p+1=p1 at *
 generalize hs.length=n at *
 rw [QE (fn:=Te) rfl]
 simp only [Te,Q0,quiet,cW,↓pW,reduceCtorEq,seval,-Qb,hz,lz,h1,g1,g1i,hix,g2,g2c,a2,h3,g3,hde,g4,g5k,g5z,g6,num,h98,hl,hsv,e1,e2,e3,r3',r4,w1,sk,tk,lk,c1,c2,c3,im0,im1,ok1,ok2,ok3,K6,Qp]
theorem bR {hs:List (Nat×List Nat)} (ho:H[id]?=some ⟨fol nm e m key pub hv,true,true,true,1⟩) (hn:B32 nm) (hk:B32 key) (hp:pub.length=32) (hm:mi<m) (hS:HS True B H hv hs) (h33:H33 hs) (h1000:hs.length≤1000) (hbef:∀ (j:Nat) (y:Nat×List Nat),hs[j]?=some y→y.1≠mi) :
  ∃ l,Zd T 50 [.pointer (some ⟨id,0,none⟩),.int .u32 mi] H=some (.tuple #[.agg (u8s (Qc 32 0)).toArray,.int .i64 151],H++l,[]):=by
 have hidl:=(Qf.1 ho).1
 obtain ⟨z,hz,lz⟩:∃ z:List Nat,Qc 32 (Value.int .u8 0)=u8s z∧z=Qc 32 0:=⟨Qc 32 0,rfl,rfl⟩
 have l32:z.length=32:=by rw [lz]; rfl
 obtain ⟨H1,hH1⟩:∃ G,G=H++[(⟨[.int .u32 mi],true,true,true,1⟩:Ob),⟨u8s z,true,true,true,1⟩]:=⟨_,rfl⟩
 have old1:∀ i,i<H.length→H1[i]?=H[i]? := fun i hi=>by rw [hH1,Qa hi]
 have g1i:H1[H.length]?=some ⟨[.int .u32 mi],true,true,true,1⟩:=by rw [hH1,Qd (Qk _),Qq]; rfl
 obtain ⟨l,hix⟩:=bX (hS.ext (G':=H1) fun i _ hi=>old1 i hi) h33 hbef (by omega) g1i
 have g1:=(old1 id hidl).trans ho
 have g2z:∀ L:List Ob,(H++([(⟨[.int .u32 mi],true,true,true,1⟩:Ob),⟨u8s z,true,true,true,1⟩]++L))[H.length+1]?=some ⟨u8s z,true,true,true,1⟩:=fun L=>by rw [Qd (by omega),Qs]; rfl
 have s2:(H1++l).set (H.length+1) ⟨u8s z,true,true,true,1⟩=H1++l:=by
  refine Yc ?_
  rw [hH1,Qv]; exact g2z l
 have g3:(H1++l)[H.length+1]?=some ⟨u8s z,true,true,true,1⟩:=by rw [hH1,Qv]; exact g2z l
 have num:(fol nm e m key pub hv)[33]?=some (.int .u32 m):=Kp hn.len
 have h98:=Vw (e:=e) (m:=m) (hv:=hv) hn.len hk.len hp
 have hl:=Kf (e:=e) (m:=m) (hv:=hv) hn.len hk.len hp
 have e1:((mi:Int)<(m:Int))=True:=eq_true (by omega)
 have e2:((-1:Int)<0)=True:=eq_true (by decide)
 have fz:fillL (u8s z) []=some (u8s z):=rfl
 have sp:=QO (cs:=u8s z) (v:=u8s z) rfl
 have tz:Q2 32 (u8s z)=u8s z:=Q6 (by rw [Qp,l32])
 have h1:=hH1.symm
 have im1:∀ L,Qy H.length L [H.length+1]=L:=fun L=>QD (by simp)
 have ok1:∀ L:List Value,(Value.agg L.toArray).cells.toList=L:=fun _=>rfl
 have ok2:∀ L:List Value,(Value.agg L.toArray).cells.size=L.length:=fun _=>rfl
 have ok3:∀ L:List Value,okVar (Value.agg L.toArray)=true:=fun _=>rfl
 refine ⟨[⟨[.int .u32 mi],true,true,true,1⟩,⟨u8s z,true,true,true,1⟩]++l,?_⟩
 rw [←Qv,←hH1,←lz]
 clear lz ho hS hH1 g2z old1
 generalize fol nm e m key pub hv=F at *
 generalize hG2:H1++l=G2 at *
 rw [QE (fn:=Te) rfl]
 simp only [Te,Q0,quiet,cW,↓pW,reduceCtorEq,seval,-Qb,hz,l32,h1,g1,g1i,hix,g3,s2,num,h98,hl,e1,e2,fz,sp,tz,im1,ok1,ok2,ok3,K6,Qp]
def skL (nm key0:List Nat) (m d:Nat):List (Nat×List Nat):=(QX d).map fun i=>(m+i,Kb nm (keyN nm key0 (m+i)))
theorem SE (nm key0:List Nat) (m d:Nat):skL nm key0 m (d+1)=skL nm key0 m d++[(m+d,Kb nm (keyN nm key0 (m+d)))]:=by simp [skL,V8]
theorem mv (nm key0:List Nat) (m d:Nat):H33 (skL nm key0 m d):=fun x hx=>by
 obtain ⟨i,-,rfl⟩:=Jc.1 hx
 exact (YU _ _).len
theorem H33.app {a b:List (Nat×List Nat)} (h:H33 a) (k:H33 b):H33 (a++b):=fun x hx=>(QA.1 hx).elim (h x) (k x)
theorem bZ {t:Prop} {hs:List (Nat×List Nat)} (h:HS t B G v hs):vSliceSl G 33 (some (.int .i64 0)) none none v=some v:=by
 rcases h with ⟨rfl,-⟩ | ⟨id,rfl,-,-,h4⟩ | ⟨id,c,tl,rfl,-,h3,h4,-⟩
 ·rfl
 ·rw [V1,show ZC 0 0 (some (.int .i64 0)) none none=some (0,0,0) from rfl,Qj,QW h4 rfl,Qj]
  simp [gate]
 ·rw [V1,JA,XQ,Qj,show Xo (some (.int .i64 0)) hs.length 0=some 0 from J3 (n:=0) (VM _),Qj,Qj,QW h3 rfl,Qj]
  simp [gate]
theorem P8 (hk:k.length=32):fillL Wd [(0,1,.int .u32 (i:Nat)),(1,32,.agg (u8s k).toArray)]=some (ZO (i,k)):=by
 have ct:∀ l:List Nat,(Value.agg (u8s l).toArray).cells.toList=u8s l:=fun _=>rfl
 have e1:splice Wd 0 [Value.int .u32 (i:Nat)]=Value.int .u32 (i:Nat)::Qc 32 (.int .u8 0):=rfl
 have e2:splice (Value.int .u32 (i:Nat)::Qc 32 (.int .u8 0)) 1 (u8s k)=ZO (i,k):=by
  rw [JL _ _ _ (by rw [Qp,hk]; show 1+32≤33; decide),Qp,hk]
  simp [ZO]
 rw [XJ (n:=1) rfl (by decide) rfl,show (Value.int .u32 (i:Nat)).cells.toList=[.int .u32 (i:Nat)] from rfl,e1,XJ (VF hk) (by show 1+32≤33; decide) rfl,ct,e2,fillL]
structure SkInv (nm key0 pub z:List Nat) (B id e m mi:Nat) (H:List Ob) (hs:List (Nat×List Nat)) (j:Nat) (G:List Ob) (hv:Value) (L:List Nat):Prop where
 f:G[id]?=some ⟨fol nm e (m+j) (keyN nm key0 (m+j)) pub hv,true,true,true,1⟩
 h:HS True B G hv (hs++skL nm key0 m j)
 i:G[H.length]?=some ⟨[.int .u32 mi],true,true,true,1⟩
 z:G[H.length+1]?=some ⟨u8s z,true,true,true,1⟩
 o:∀ i,i<B→i≠id→G[i]?=H[i]?
 l:H.length+2≤G.length
 m:∀ i∈L,i=id∨B≤i
theorem eO {z:List Nat} {hs:List (Nat×List Nat)} {j:Nat} {L:List Nat} {ex:Env} (hn:B32 nm) (hk:B32 key0) (hp:pub.length=32) (hz:Qc 32 (Value.int .u8 0)=u8s z) (lz:z.length=32) (h33:H33 hs) (h1000:hs.length+j≤1900) (hid:id<B) (hB:B≤H.length) (hj:m+j<mi) (hmi:mi<16777216) (hex:ex=[]∨ex=[(54,.bool false)]) (h:SkInv nm key0 pub z B id e m mi H hs j G hv L) :
  ∃ G' hv' L',Q8 T H.length VT (kyS id H.length (H.length+1) G L ex)=some (.normal,kyS id H.length (H.length+1) G' L' [])∧SkInv nm key0 pub z B id e m mi H hs (j+1) G' hv' L':=by
 have hkj:=YV (nm:=nm) hk (m+j)
 have lg:=h.l
 obtain ⟨-,G1,M1,hnx,q1,q2,q3,q4⟩:=Mq (e:=e) (m:=m+j) (tl:=u8s pub++[hv]) h.f hn hkj (by omega)
 obtain ⟨K,hK⟩:∃ K,K=Kb nm (keyN nm key0 (m+j)):=⟨_,rfl⟩
 have hKb:=YU nm (keyN nm key0 (m+j))
 rw [show (nxK nm (keyN nm key0 (m+j))).take 32=Kb nm (keyN nm key0 (m+j)) from rfl,←hK] at hnx
 rw [←hK] at hKb
 have q1':G1[id]?=some ⟨fol nm e (m+j+1) (keyN nm key0 (m+j+1)) pub hv,true,true,true,1⟩:=q1
 obtain ⟨G2,hG2⟩:∃ X,X=G1++[(⟨u8s K,true,true,true,1⟩:Ob)]:=⟨_,rfl⟩
 have l2:G2.length=G1.length+1:=by rw [hG2]; simp
 have old2:∀ i,i<G1.length→G2[i]?=G1[i]? := fun i hi=>by rw [hG2,Qa hi]
 have g2k:G2[G1.length]?=some ⟨u8s K,true,true,true,1⟩:=by rw [hG2,Qd (Qk _),Qq]; rfl
 have up2:∀ i,i<G.length→i≠id→G2[i]?=G[i]? := fun i hi hne=>by rw [old2 i (by omega),q2 i hi hne]
 have hS2:HS True B G2 hv (hs++skL nm key0 m j):=h.h.ext fun i hb hi=>up2 i hi (by omega)
 have lsk:(skL nm key0 m j).length=j:=by simp [skL]
 obtain ⟨hv',G3,M3,hap,a1,a2,a3,a4,a5⟩:=Pd (x:=(m+j,K)) hS2 (h33.app (mv nm key0 m j)) hKb.len (by omega) (by rw [Qg,lsk]; omega)
 have hkj1:=YV (nm:=nm) hk (m+j+1)
 have hidl:=(Qf.1 h.f).1
 have g3:G3[id]?=some ⟨fol nm e (m+j+1) (keyN nm key0 (m+j+1)) pub hv,true,true,true,1⟩:=by rw [a4 id hid,old2 id (by omega)]; exact q1'
 refine ⟨G3.set id ⟨fol nm e (m+j+1) (keyN nm key0 (m+j+1)) pub hv',true,true,true,1⟩,hv',Qy H.length (Qy H.length (Qy H.length L M1) M3) [id],?_,⟨Qt (by omega),?_,?_,?_,fun i hi hne => ?_,?_,fun i hi => ?_⟩⟩
 rotate_left
 ·rw [SE,←Qv,←hK]
  exact a1.ext fun i hb hi=>Qm (by omega)
 ·rw [Qm (by omega)]; exact a5 _ _ ((up2 _ (by omega) (by omega)).trans h.i) rfl
 ·rw [Qm (by omega)]; exact a5 _ _ ((up2 _ (by omega) (by omega)).trans h.z) rfl
 ·rw [Qm (Ne.symm hne),a4 i hi,up2 i (by omega) hne]; exact h.o i hi hne
 ·rw [Qo]; omega
 ·rcases Zb hi with h' | h'
  ·rcases Zb h' with h' | h'
   ·rcases Zb h' with h' | h'
    ·exact h.m i h'
    ·exact .inl (q4 i h')
   ·exact .inr (a2 i h')
  ·exact .inl (Zk.1 h')
 have n0:(fol nm e (m+j) (keyN nm key0 (m+j)) pub hv)[33]?=some (.int .u32 (m+j:Nat)):=Kp hn.len
 have g0:=h.f
 have gi:=h.i
 have g2:=(old2 id (by omega)).trans q1'
 have h98:=Vw (e:=e) (m:=m+j+1) (hv:=hv) hn.len hkj1.len hp
 have hl1:=Kf (e:=e) (m:=m+j+1) (hv:=hv) hn.len hkj1.len hp
 have hsv:=Yg (e:=e) (m:=m+j+1) (hv:=hv) (hv':=hv') hn.len hkj1.len hp
 have e1:(((m+j:Nat):Int)<(mi:Int))=True:=eq_true (by omega)
 have sk:=QO (cs:=u8s z) (v:=u8s K) (by rw [Qp,Qp,lz,hKb.len])
 have tk:Q2 32 (u8s K)=u8s K:=Q6 (by rw [Qp,hKb.len])
 have lK:=hKb.len
 have fh:=P8 (i:=m+j) lK
 have lh:(ZO (m+j,K)).length=33:=Yf lK
 have fh2:fillL Wd [(0,33,.agg (ZO (m+j,K)).toArray)]=some (ZO (m+j,K)):=by
  rw [XJ (C:=Wd) (o:=0) (n:=33) (v := .agg (ZO (m+j,K)).toArray) (r:=[]) lh (by decide) rfl,show (Value.agg (ZO (m+j,K)).toArray).cells.toList=ZO (m+j,K) from rfl,QO (by rw [lh]; rfl)]; rfl
 have a2':∀ o o':Ob,(G1++[o]).set G1.length o'=G1++[o']:=fun _ _=>by rw [Q3 _ _ (Qk _),Qq]; rfl
 have h2:=hG2.symm
 have ok1:∀ L:List Value,(Value.agg L.toArray).cells.toList=L:=fun _=>rfl
 have ok2:∀ L:List Value,(Value.agg L.toArray).cells.size=L.length:=fun _=>rfl
 have ok3:∀ L:List Value,okVar (Value.agg L.toArray)=true:=fun _=>rfl
 have im0:∀ L,Qy H.length L [G1.length]=L:=fun L=>QD (by simp; omega)
 obtain ⟨av,cv,hvv⟩:=a1.shape
 have c1:hv'.cells.toList=[hv']:=by rw [hvv]; rfl
 have c2:hv'.cells.size=1:=by rw [hvv]; rfl
 have c3:okVar hv'=true:=by rw [hvv]; rfl
 clear hG2 hK q1 q2 q3 q4 q1' a1 a2 a3 a4 a5 hS2 up2 old2 h hkj hkj1 hKb hvv
 generalize ZO (m+j,K)=C at *
 generalize fol nm e (m+j+1) (keyN nm key0 (m+j+1)) pub hv'=F2,fol nm e (m+j+1) (keyN nm key0 (m+j+1)) pub hv=F1,fol nm e (m+j) (keyN nm key0 (m+j)) pub hv=F0 at *
 generalize m+j=mj at *
 rcases hex with rfl | rfl
 ·simp only [kyS,VT,Q0,quiet,cW,↓pW,reduceCtorEq,seval,-Qb,hz,lz,g0,gi,n0,e1,hnx,a2',h2,g2,g2k,h98,hl1,hsv,g3,sk,tk,lK,fh,fh2,lh,hap,im0,c1,c2,c3,ok1,ok2,ok3,K6,Qp]
 ·simp only [kyS,VT,Q0,quiet,cW,↓pW,reduceCtorEq,seval,-Qb,hz,lz,g0,gi,n0,e1,hnx,a2',h2,g2,g2k,h98,hl1,hsv,g3,sk,tk,lK,fh,fh2,lh,hap,im0,c1,c2,c3,ok1,ok2,ok3,K6,Qp]
theorem OV {hs:List (Nat×List Nat)} (ho:H[id]?=some ⟨fol nm e m (keyN nm key0 m) pub hv,true,true,true,1⟩) (hn:B32 nm) (hk:B32 key0) (hp:pub.length=32) (hm:m≤mi) (hmi:mi<16777216) (hd:mi-m≤500) (hS:HS True B H hv hs) (h33:H33 hs) (h500:hs.length≤500) (hid:id<B) (hB:B≤H.length) :
  ∃ H' M hv',Zd T 50 [.pointer (some ⟨id,0,none⟩),.int .u32 mi] H=some (.tuple #[.agg (u8s (Kb nm (keyN nm key0 mi))).toArray,.int .i64 0],H',M)∧H'[id]?=some ⟨fol nm e (mi+1) (keyN nm key0 (mi+1)) pub hv',true,true,true,1⟩∧HS True B H' hv' (hs++skL nm key0 m (mi-m))∧(∀ i,i<B→i≠id→H'[i]?=H[i]?)∧H.length≤H'.length∧∀ i∈M,i=id∨B≤i:=by
 have hidl:=(Qf.1 ho).1
 obtain ⟨z,hz,lz⟩:∃ z:List Nat,Qc 32 (Value.int .u8 0)=u8s z∧z.length=32:=⟨Qc 32 0,rfl,rfl⟩
 obtain ⟨d,hdd⟩:∃ d,d=mi-m:=⟨_,rfl⟩
 obtain ⟨H1,hH1⟩:∃ G,G=H++[(⟨[.int .u32 mi],true,true,true,1⟩:Ob),⟨u8s z,true,true,true,1⟩]:=⟨_,rfl⟩
 have l1:H1.length=H.length+2:=by rw [hH1]; simp
 have old1:∀ i,i<H.length→H1[i]?=H[i]? := fun i hi=>by rw [hH1,Qa hi]
 have g1i:H1[H.length]?=some ⟨[.int .u32 mi],true,true,true,1⟩:=by rw [hH1,Qd (Qk _),Qq]; rfl
 have I0:SkInv nm key0 pub z B id e m mi H hs 0 H1 hv []:=⟨(old1 _ hidl).trans ho,by rw [show skL nm key0 m 0=[] from rfl,Q9]; exact hS.ext fun i _ hi=>old1 i hi,g1i,by rw [hH1,Qd (by omega),Qs]; rfl,fun i hi _=>old1 i (by omega),by omega,by simp⟩
 obtain ⟨st,hA,G,hw,L,rfl,hI⟩:=Zc (T:=T) (base:=H.length) (id:=0) (body:=VT)
  (fun i st=>∃ G hw L ex,st=kyS id H.length (H.length+1) G L ex∧(ex=[]∨ex=[(54,.bool false)])∧SkInv nm key0 pub z B id e m mi H hs i G hw L) (Q:=fun st=>∃ G hw L,st=kyS id H.length (H.length+1) G L [(62,.bool false)]∧SkInv nm key0 pub z B id e m mi H hs d G hw L)
  d (s:=kyS id H.length (H.length+1) H1 [] [(54,.bool false)]) ⟨_,_,_,_,rfl,.inr rfl,I0⟩
  (fun j st hj hs'=>by
   obtain ⟨G,hw,L,ex,rfl,hex,hI⟩:=hs'
   obtain ⟨G',hv',L',h1,h2⟩:=eO hn hk hp hz lz h33 (by omega) hid hB (by omega) hmi hex hI
   exact ⟨_,h1,G',hv',L',[],rfl,.inl rfl,h2⟩)
  (fun st hs'=>by
   obtain ⟨G,hw,L,ex,rfl,hex,hI⟩:=hs'
   refine ⟨_,?_,G,hw,L,rfl,hI⟩
   have g0:=hI.f
   have gi:=hI.i
   have n0:(fol nm e (m+d) (keyN nm key0 (m+d)) pub hw)[33]?=some (.int .u32 (m+d:Nat)):=Kp hn.len
   have e1:(((m+d:Nat):Int)<(mi:Int))=False:=eq_false (by omega)
   clear hI
   generalize fol nm e (m+d) (keyN nm key0 (m+d)) pub hw=F0 at *
   generalize m+d=md at *
   rcases hex with rfl | rfl
   ·simp only [kyS,VT,Q0,quiet,cW,↓pW,reduceCtorEq,seval,-Qb,g0,gi,n0,e1]
   ·simp only [kyS,VT,Q0,quiet,cW,↓pW,reduceCtorEq,seval,-Qb,g0,gi,n0,e1])
 have hmd:m+d=mi:=by omega
 have hf:=hI.f
 rw [hmd] at hf
 have hkm:=YV (nm:=nm) hk mi
 obtain ⟨-,H2,M2,hnx,q1,q2,q3,q4⟩:=Mq (e:=e) (m:=mi) (tl:=u8s pub++[hw]) hf hn hkm hmi
 rw [show (nxK nm (keyN nm key0 mi)).take 32=Kb nm (keyN nm key0 mi) from rfl] at hnx
 have hKb:=YU nm (keyN nm key0 mi)
 have q1':H2[id]?=some ⟨fol nm e (mi+1) (keyN nm key0 (mi+1)) pub hw,true,true,true,1⟩:=q1
 have lg:=hI.l
 generalize Kb nm (keyN nm key0 mi)=K at *
 rw [←hdd]
 refine ⟨H2.set (H.length+1) ⟨u8s K,true,true,true,1⟩,Qy H.length (Qy H.length L [id]) M2,hw,?_,?_,?_,fun i hi hne => ?_,?_,fun i hi => ?_⟩
 rotate_left
 ·rw [Qm (by omega)]; exact q1'
 ·have h2:HS True B H2 hw (hs++skL nm key0 m d):=hI.h.ext fun i hb hi=>q2 i hi (by omega)
  refine h2.keep fun i o hb ho' hes => ?_
  have n1:i≠H.length+1:=fun e=>by
   rw [e,q2 _ (by omega) (by omega),hI.z] at ho'
   cases ho'
   rcases hes with h | h
   ·cases h
   ·have:=congrArg Il h
    rw [Qp,lz] at this
    cases this
  rw [Qm (Ne.symm n1)]; exact ho'
 ·rw [Qm (by omega),q2 i (by omega) hne]; exact hI.o i hi hne
 ·rw [Qo]; omega
 ·rcases Zb hi with h | h
  ·rcases Zb h with h | h
   ·exact hI.m i h
   ·exact .inl (Zk.1 h)
  ·exact .inl (q4 i h)
 have num:(fol nm e m (keyN nm key0 m) pub hv)[33]?=some (.int .u32 m):=Kp hn.len
 have g1:=(old1 id hidl).trans ho
 have h1:=hH1.symm
 have e1:((mi:Int)<(m:Int))=False:=eq_false (by omega)
 have w1:IntKind.u32.wrap ((mi:Int)-(m:Int))=((mi-m:Nat):Int):=by rw [show (mi:Int)-(m:Int)=((mi-m:Nat):Int) by omega]; exact BS (by omega)
 have e2:((1000:Int)<((mi-m:Nat):Int))=False:=eq_false (by omega)
 have h98:=Vw (e:=e) (m:=mi) (hv:=hw) hn.len hkm.len hp
 have hl:=Kf (e:=e) (m:=mi) (hv:=hw) hn.len hkm.len hp
 have hsv:=Yg (e:=e) (m:=mi) (hv:=hw) (hv':=hw) hn.len hkm.len hp
 obtain ⟨av,cv,hvv⟩:=hI.h.shape
 have lsk:(skL nm key0 m d).length=d:=by simp [skL]
 obtain ⟨n,hnn⟩:∃ n,n=(hs++skL nm key0 m d).length:=⟨_,rfl⟩
 have hn1000:n≤1000:=by rw [hnn,Qg,lsk]; omega
 have hlen:vLen false hw=some (.int .i64 (n:Nat)):=by rw [hvv,hnn]; rfl
 have w2:IntKind.i64.wrap ((n:Int)-1000)=(n:Int)-1000:=ZE (by omega) (by omega)
 have mx:W8 true (.int .i64 0) (.int .i64 ((n:Int)-1000))=some (.int .i64 0):=by rw [Su,if_neg (by omega)]
 have mx2:(if (n:Int)-1000>0 then (n:Int)-1000 else 0)=0:=if_neg (by omega)
 have hcut:=bZ hI.h
 have ss:=Yc hf
 have c1:hw.cells.toList=[hw]:=by rw [hvv]; rfl
 have c2:hw.cells.size=1:=by rw [hvv]; rfl
 have c3:okVar hw=true:=by rw [hvv]; rfl
 have g3:H2[H.length+1]?=some ⟨u8s z,true,true,true,1⟩:=by rw [q2 _ (by omega) (by omega)]; exact hI.z
 have g4:∀ o,(H2.set (H.length+1) o)[H.length+1]?=some o:=fun o=>Qt (by omega)
 have im:∀ L,Qy H.length L [H.length+1]=L:=fun L=>QD (by simp)
 have sp:=QO (cs:=u8s z) (v:=u8s K) (by rw [Qp,Qp,lz,hKb.len])
 have tK:Q2 32 (u8s K)=u8s K:=Q6 (by rw [Qp,hKb.len])
 have lK:=hKb.len
 have ok1:∀ L:List Value,(Value.agg L.toArray).cells.toList=L:=fun _=>rfl
 have ok2:∀ L:List Value,(Value.agg L.toArray).cells.size=L.length:=fun _=>rfl
 have ok3:∀ L:List Value,okVar (Value.agg L.toArray)=true:=fun _=>rfl
 simp only [kyS,Qw,Qr] at hA
 clear hH1 q1 q1' q2 q3 q4 hKb ho hI I0 hkm hvv hS
 generalize fol nm e mi (keyN nm key0 mi) pub hw=F2,fol nm e m (keyN nm key0 m) pub hv=F at *
 generalize mi-m=dd at *
 rw [QE (fn:=Te) rfl]
 simp only [Te,Q0,quiet,cW,↓pW,reduceCtorEq,seval,-Qb,hz,lz,h1,g1,g1i,hf,g3,g4,num,h98,hl,hsv,e1,e2,w1,w2,hlen,mx2,hcut,ss,im,sp,tK,lK,c1,c2,c3,hnx,hA,ok1,ok2,ok3,K6,Qp]
end Go.Ev.YtomfgcgnepfmjaaGreat
namespace Go.Ev.YtomfgcgnepfmjaaGreat
open Go Go.Ev
set_option maxRecDepth 100000
variable {m mi:Nat} {nm key0:List Nat}
def heldL (nm key0:List Nat) (rd:Nat→Bool) (m:Nat):List (Nat×List Nat):=((QX m).filter fun j => !rd j).map fun j=>(j,Kb nm (keyN nm key0 j))
def rdN (rd:Nat→Bool) (mi:Nat):Nat→Bool:=fun j=>rd j || j==mi
theorem Fa (nm key0:List Nat) (rd:Nat→Bool) (m:Nat):H33 (heldL nm key0 rd m):=fun x hx=>by
 obtain ⟨i,-,rfl⟩:=Jc.1 hx
 exact (YU _ _).len
theorem Ag (nm key0:List Nat) (rd:Nat→Bool) (m:Nat):(heldL nm key0 rd m).length≤m:=by
 rw [heldL,JF]
 exact ZT (D7 _ _) (by rw [List.length_range]; exact Qk _)
theorem cf {rd:Nat→Bool} (h:rd mi=true):∀ (j:Nat) (y:Nat×List Nat),(heldL nm key0 rd m)[j]?=some y→y.1≠mi:=fun j y hj=>by
 obtain ⟨i,hi,rfl⟩:=Jc.1 (Qz hj)
 have:=(KW.1 hi).2
 intro e
 dsimp only at e
 rw [e,h] at this
 cases this
theorem TL (h:mi<m):QX m=QX mi++mi::Xx (mi+1) (m-(mi+1)):=by
 rw [Kw,Kw,←List.range'_succ,show m-(mi+1)+1=m-mi by omega]
 have:=List.range'_append_1 (s:=0) (m:=mi) (n:=m-mi)
 rw [QB,show mi+(m-mi)=m by omega] at this
 exact this.symm
theorem Pe {rd:Nat→Bool} (h:rd mi=false) (hm:mi<m):∃ p,(heldL nm key0 rd m)[p]?=some (mi,Kb nm (keyN nm key0 mi))∧(∀ (j:Nat) (y:Nat×List Nat),j<p→(heldL nm key0 rd m)[j]?=some y→y.1≠mi)∧(heldL nm key0 rd m).eraseIdx p=heldL nm key0 (rdN rd mi) m:=by
 obtain ⟨A,hA⟩:∃ A,A=((QX mi).filter fun j => !rd j).map fun j=>(j,Kb nm (keyN nm key0 j)):=⟨_,rfl⟩
 obtain ⟨C,hC⟩:∃ C,C=((Xx (mi+1) (m-(mi+1))).filter fun j => !rd j).map fun j=>(j,Kb nm (keyN nm key0 j)):=⟨_,rfl⟩
 have e1:heldL nm key0 rd m=A++(mi,Kb nm (keyN nm key0 mi))::C:=by
  rw [heldL,TL hm,VK,List.filter_cons,if_pos (by rw [h]; rfl),JS,Jg,hA,hC]
 have e2:heldL nm key0 (rdN rd mi) m=A++C:=by
  rw [heldL,TL hm,VK,List.filter_cons,if_neg (by simp [rdN]),JS,hA,hC]
  congr 2
  ·exact C7 fun j hj=>by
    have:j<mi:=Kd.1 hj
    simp [rdN,show ¬ j=mi by omega]
  ·exact C7 fun j hj=>by
    have:mi+1≤j:=(VZ.1 hj).1
    simp [rdN,show ¬ j=mi by omega]
 refine ⟨A.length,by rw [e1,Qd (Qk _),Qq]; rfl,fun j y hj hy => ?_,by rw [e1,e2,List.eraseIdx_append_of_length_le (Qk _),Qq]; rfl⟩
 rw [e1,Qa hj] at hy
 have hmem:=Qz hy
 rw [hA] at hmem
 obtain ⟨i,hi,rfl⟩:=Jc.1 hmem
 have:=Kd.1 (KW.1 hi).1
 dsimp only
 omega
theorem EZ {rd:Nat→Bool} (h:∀ j,m≤j→rd j=false) (hm:m≤mi):heldL nm key0 rd m++skL nm key0 m (mi-m)=heldL nm key0 (rdN rd mi) (mi+1):=by
 have e0:QX (mi+1)=QX m++(Xx m (mi-m)++[mi]):=by
  rw [V8,←Qv,Kw,Kw]
  have:=List.range'_append_1 (s:=0) (m:=m) (n:=mi-m)
  rw [QB,show m+(mi-m)=mi by omega] at this
  rw [this]
 have e1:(QX m).filter (fun j => !rdN rd mi j)=(QX m).filter fun j => !rd j:=C7 fun j hj=>by
  have:j<m:=Kd.1 hj
  simp [rdN,show ¬ j=mi by omega]
 have e2:(Xx m (mi-m)).filter (fun j => !rdN rd mi j)=Xx m (mi-m):=List.filter_eq_self.2 fun j hj=>by
  obtain ⟨h1,h2⟩:=VZ.1 hj
  simp [rdN,h j h1,show ¬ j=mi by omega]
 have e3:[mi].filter (fun j => !rdN rd mi j)=[]:=by simp [rdN]
 rw [heldL,heldL,e0,VK,VK,e1,e2,e3,Q9,JS,skL,List.range'_eq_map_range,Vy]
 rfl
end Go.Ev.YtomfgcgnepfmjaaGreat
namespace Go.Ev.YtomfgcgnepfmjaaGreat
open Go Go.Ev
attribute [local congr] Jq Jz Jp J2 Jb
set_option maxRecDepth 100000
variable {G H0 H:List Ob} {B p i n L b R c m:Nat} {nm key0 sg:List Nat} {pv ov v hv fv:Value} {W:List Value}
theorem PH {ik ina is e m mi B':Nat} {dl tx:List Nat} {rd:Nat→Bool} (h:Msg B H ik ina is v nm e mi (Uu sg (JC nm e mi++dl)) dl) (hk:B32 key0) (hs:B32 sg) (hdl:dl=msgD nm (keyN nm key0 mi) tx e mi) (htl:tx.length≤16368) (xt:∀ y∈tx,y<256) (hm:m≤400) (hmi:mi≤400) (hh:HS False B' H hv (heldL nm key0 rd m)) (hrd:∀ j,m≤j→rd j=false) :
  ∃ H' r v' c,Zd T 18 [.agg (fol nm e m (keyN nm key0 m) (pubL sg) hv).toArray,DX ik ina is v] H=some (.tuple #[.agg r.toArray,v',.int .i64 c],H',[])∧(∀ i,i<H.length→H'[i]?=H[i]?)∧H.length≤H'.length ∧
   ((rd mi=true∧r=fol nm e m (keyN nm key0 m) (pubL sg) hv∧v'=.slice none 0 0∧c=151)∨(rd mi=false∧c=0∧OutS (fun i=>i<H.length) H' v' tx∧∃ hv',r=fol nm e (max m (mi+1)) (keyN nm key0 (max m (mi+1))) (pubL sg) hv'∧HS False H.length H' hv' (heldL nm key0 (rdN rd mi) (max m (mi+1))))):=by
 have hn:=h.lk
 have lpu:=Ym sg
 have xpu:=AO sg
 have hX:=YV (nm:=nm) hk (max m (mi+1))
 have hKb:=YU nm (keyN nm key0 mi)
 have hkm:=YV (nm:=nm) hk m
 have hdb:=IZ (key:=keyN nm key0 mi) e mi hn xt (by omega)
 rw [←hdl] at hdb
 obtain ⟨F,hF⟩:∃ X,X=fol nm e m (keyN nm key0 m) (pubL sg) hv:=⟨_,rfl⟩
 have n0:=Kf (e:=e) (m:=m) (hv:=hv) hn.len hkm.len lpu
 have r1:Q2 32 F=u8s nm:=by rw [hF]; exact Mm hn.len
 have r3:Q2 32 (Zw 66 F)=u8s (pubL sg):=by rw [hF]; exact NC hn.len hkm.len lpu
 have r4:F[32]?=some (.int .u32 e):=by rw [hF]; exact AQ hn.len
 have r6:F[98]?=some hv:=by rw [hF]; exact Vw hn.len hkm.len lpu
 have r7:∀ w,F.set 98 w=fol nm e m (keyN nm key0 m) (pubL sg) w:=fun w=>by rw [hF]; exact Yg hn.len hkm.len lpu
 rw [←hF] at n0 ⊢
 obtain ⟨sg1,hsg1⟩:∃ X,X=Uu sg (JC nm e mi++dl):=⟨_,rfl⟩
 obtain ⟨fo,hfo⟩:∃ o:Ob,o=⟨[.int .i64 5,.slice (some ⟨ik,0,none⟩) 1 1,.slice (some ⟨ina,0,none⟩) 2 2,.slice (some ⟨is,0,none⟩) 1 1,v],true,true,true,1⟩:=⟨_,rfl⟩
 obtain ⟨H1,hH1⟩:∃ G,G=H++[(⟨F,true,true,true,1⟩:Ob),fo,⟨Xn,true,true,true,1⟩]:=⟨_,rfl⟩
 have l1:H1.length=H.length+3:=by rw [hH1]; simp
 have at1:∀ j o,[(⟨F,true,true,true,1⟩:Ob),fo,⟨Xn,true,true,true,1⟩][j]?=some o→H1[H.length+j]?=some o:=fun j o hj=>by rw [hH1,Qd (by omega),Qs]; exact hj
 have old1:∀ i,i<H.length→H1[i]?=H[i]? := fun i hi=>by rw [hH1,Qa hi]
 have m1:=h.ext old1
 obtain ⟨v0,k1,hen,-⟩:=Bd (k:=5) (m1.fr (by omega))
 have hE:frE 5 [nm].length [e,mi].length [Uu sg (JC nm e mi++dl)].length dl.length=0:=by
  show (if (1=1∧2=2∧1=1∧(true=true∨dl.length=0)) then (if 16384<dl.length then (2:Int) else 0) else 110)=0
  rw [if_pos (by simp),if_neg (by omega)]
 rw [hE] at hen
 obtain ⟨H2,hH2⟩:∃ G,G=H1++k1:=⟨_,rfl⟩
 rw [←hH2] at hen
 have l2:H1.length≤H2.length:=by rw [hH2,Qg]; omega
 have old2:∀ i,i<H1.length→H2[i]?=H1[i]? := fun i hi=>by rw [hH2,Qa hi]
 have m2:=m1.ext old2
 obtain ⟨v1,k2,hfr,o1⟩:=R6 (H:=H2) (ka := .slice (some ⟨ik,0,none⟩) 1 1) (na := .slice (some ⟨ina,0,none⟩) 2 2) (sa := .slice (some ⟨is,0,none⟩) 1 1) (da:=v) (nm:=nm) (e:=e) (m:=mi) (.inr ⟨_,1,_,_,_,rfl,m2.k,by rw [Qp,hn.len]⟩) (.inr ⟨_,2,_,_,_,rfl,m2.n,rfl⟩) hn.len
 have lfr:=WL e mi hn.len
 have xfr:=Bb e mi hn
 obtain ⟨H3,hH3⟩:∃ G,G=H2++k2:=⟨_,rfl⟩
 rw [←hH3] at hfr o1
 have l3:H2.length≤H3.length:=by rw [hH3,Qg]; omega
 have old3:∀ i,i<H2.length→H3[i]?=H2[i]? := fun i hi=>by rw [hH3,Qa hi]
 have m3:=m2.ext old3
 have p1:=o1.part xfr (by rw [lfr]; decide)
 obtain ⟨H4,hH4⟩:∃ G,G=H3++[(⟨[v1,v],true,true,true,1⟩:Ob)]:=⟨_,rfl⟩
 have l4:H4.length=H3.length+1:=by rw [hH4]; simp
 have old4:∀ i,i<H3.length→H4[i]?=H3[i]? := fun i hi=>by rw [hH4,Qa hi]
 have at4:H4[H3.length]?=some ⟨[v1,v],true,true,true,1⟩:=by rw [hH4,Qd (Qk _),Qq]; rfl
 have m4:=m3.ext old4
 have p2:=m3.d.part h.ld (by omega)
 obtain ⟨k3,c,hck,hsp⟩:=FJ (H:=H4) (pub:=pubL sg) (front:=frL sg (JC nm e mi++dl)) (back:=bkL sg (JC nm e mi++dl)) (pv := .slice (some ⟨H3.length,0,none⟩) 2 2) (ps:=[JC nm e mi,dl]) lpu xpu (Mr _ _) (Co _ _) (Mx _ _) (LB _ _) (Args.arr at4 rfl (.cons (p1.extK (fun i hi=>by have:i<H3.length:=hi; show i<_; omega) old4) (.cons (p2.extK (fun i hi=>by show i<_; omega) old4) .nil)) (by decide)) (by show 2≤1000; decide) (by simp [lfr]; omega)
 rw [show [JC nm e mi,dl].flatten=JC nm e mi++dl by simp] at hsp
 have hc:=LV hsp
 subst hc
 rw [show frL sg (JC nm e mi++dl)++bkL sg (JC nm e mi++dl)=sg1 by rw [hsg1]; rfl] at hck
 obtain ⟨H5,hH5⟩:∃ G,G=H4++k3:=⟨_,rfl⟩
 rw [←hH5] at hck
 have l5:H4.length≤H5.length:=by rw [hH5,Qg]; omega
 have old5:∀ i,i<H4.length→H5[i]?=H4[i]? := fun i hi=>by rw [hH5,Qa hi]
 have hB5:H.length≤H5.length:=by omega
 obtain ⟨H6,hH6⟩:∃ G,G=H5++[(⟨F,true,true,true,1⟩:Ob)]:=⟨_,rfl⟩
 have l6:H6.length=H5.length+1:=by rw [hH6]; simp
 have old6:∀ i,i<H5.length→H6[i]?=H5[i]? := fun i hi=>by rw [hH6,Qa hi]
 have at6:H6[H5.length]?=some ⟨F,true,true,true,1⟩:=by rw [hH6,Qd (Qk _),Qq]; rfl
 have up6:∀ i,i<H3.length→H6[i]?=H3[i]? := fun i hi=>by rw [old6 i (by omega),old5 i (by omega),old4 i hi]
 have up61:∀ i,i<H1.length→H6[i]?=H1[i]? := fun i hi=>by rw [up6 i (by omega),old3 i (by omega),old2 i hi]
 have m6:Msg B H6 ik ina is v nm e mi _ dl:=m3.ext up6
 obtain ⟨z,hz,lz⟩:∃ z:List Nat,Qc 32 (Value.int .u8 0)=u8s z∧z.length=32:=⟨Qc 32 0,rfl,rfl⟩
 have g0:∀ L:List Ob,(H++[(⟨F,true,true,true,1⟩:Ob),fo,⟨Xn,true,true,true,1⟩]++L)[H.length+1]?=some fo:=fun L=>by rw [Qv,Qd (by omega),Qs]; rfl
 have mk':=m2.k
 have mn':=m2.n
 have ms3:=m3.s
 have mn6:=m6.n
 rw [←hsg1] at ms3
 have lsg:sg1.length=64:=by rw [hsg1]; exact h.ls
 obtain ⟨av,cv,hvs⟩:=p2.shape
 obtain ⟨a1,c1,hv1⟩:=o1.shape
 rw [lfr] at hv1
 have w1:fillL [Value.slice none 0 0] [(0,1,v1)]=some [v1]:=by rw [hv1]; rfl
 have w2:fillL [Value.slice none 0 0,.slice none 0 0] [(0,1,v1),(1,1,v)]=some [v1,v]:=by rw [hv1,hvs]; rfl
 have cl5:∀ a b c d e':Value,Q2 5 [a,b,c,d,e']=[a,b,c,d,e']:=fun _ _ _ _ _=>rfl
 have tnm:Q2 32 (u8s nm)=u8s nm:=Q6 (by rw [Qp,hn.len])
 have tsg:Q2 64 (u8s sg1)=u8s sg1:=Q6 (by rw [Qp,lsg])
 have tpu:Q2 32 (u8s (pubL sg))=u8s (pubL sg):=Q6 (by rw [Qp,lpu])
 have hq:=Vj hn.len hn.len
 have q1:H1[H.length]?=some ⟨F,true,true,true,1⟩:=at1 0 _ rfl
 have q1f:H1[H.length+1]?=some fo:=at1 1 _ rfl
 have q2:H2[H.length]?=some ⟨F,true,true,true,1⟩:=(old2 _ (by omega)).trans q1
 have q2f:H2[H.length+1]?=some fo:=(old2 _ (by omega)).trans q1f
 have q3:H3[H.length]?=some ⟨F,true,true,true,1⟩:=(old3 _ (by omega)).trans q2
 have q3f:H3[H.length+1]?=some fo:=(old3 _ (by omega)).trans q2f
 have q5:H5[H.length]?=some ⟨F,true,true,true,1⟩:=by rw [old5 _ (by omega),old4 _ (by omega)]; exact q3
 have q6:H6[H.length]?=some ⟨F,true,true,true,1⟩:=(old6 _ (by omega)).trans q5
 have q6f:H6[H.length+1]?=some fo:=(up61 _ (by omega)).trans q1f
 have lzF:Xn.length=99:=rfl
 have tF:Q2 99 F=F:=Q6 n0
 have spF:splice Xn 0 F=F:=QO (by rw [n0,lzF])
 have a5:∀ o1 o:Ob,(H5++[o1]).set H5.length o=H5++[o]:=fun _ _=>by rw [Q3 _ _ (Qk _),Qq]; rfl
 have a6:=at6
 have ok1:∀ L:List Value,(Value.agg L.toArray).cells.toList=L:=fun _=>rfl
 have ok2:∀ L:List Value,(Value.agg L.toArray).cells.size=L.length:=fun _=>rfl
 have ok3:∀ L:List Value,okVar (Value.agg L.toArray)=true:=fun _=>rfl
 have im1:∀ j,Qy H.length [] [H5.length+j]=[]:=fun j=>QD (by simp; omega)
 have im0:Qy H.length [] [H5.length]=[]:=QD (by simp; omega)
 have im2:∀ j,Qy H.length [] [H.length+j]=[]:=fun j=>QD (by simp)
 have h1:=hH1.symm
 have h4:=hH4.symm
 have h6:=hH6.symm
 have hfoc:fo.cells=[.int .i64 5,.slice (some ⟨ik,0,none⟩) 1 1,.slice (some ⟨ina,0,none⟩) 2 2,.slice (some ⟨is,0,none⟩) 1 1,v]:=by rw [hfo]
 have hfol:fo.live=true:=by rw [hfo]
 have hfo':=hfo.symm
 have lnm:=hn.len
 have lfs:=hfo
 have tz:Q2 32 (u8s z)=u8s z:=Q6 (by rw [Qp,lz])
 have cls:okVar v=true∧v.cells.toList=[v]∧v.cells.size=1:=by rw [hvs]; exact ⟨rfl,rfl,rfl⟩
 obtain ⟨cv1,cv2,cv3⟩:=cls
 have hfo':=hfo.symm
 have lnm:=hn.len
 have tz:Q2 32 (u8s z)=u8s z:=Q6 (by rw [Qp,lz])
 have cls:okVar v=true∧v.cells.toList=[v]∧v.cells.size=1:=by rw [hvs]; exact ⟨rfl,rfl,rfl⟩
 obtain ⟨cv1,cv2,cv3⟩:=cls
 have h33:=Fa nm key0 rd m
 have hlm:=Ag nm key0 rd m
 obtain ⟨hc,lc,hcl,hS7⟩:=dx (hh.ext (G':=H6) fun i _ hi=>by rw [up61 i (by omega),old1 i hi]) h33 (by omega)
 obtain ⟨H7,hH7⟩:∃ G,G=H6++lc:=⟨_,rfl⟩
 rw [←hH7] at hcl hS7
 have l7:H6.length≤H7.length:=by rw [hH7,Qg]; omega
 have old7:∀ i,i<H6.length→H7[i]?=H6[i]? := fun i hi=>by rw [hH7,Qa hi]
 obtain ⟨ac,cc,hcv⟩:=hS7.shape
 have cc1:hc.cells.toList=[hc]:=by rw [hcv]; rfl
 have cc2:hc.cells.size=1:=by rw [hcv]; rfl
 have cc3:okVar hc=true:=by rw [hcv]; rfl
 obtain ⟨H8,hH8⟩:∃ G,G=H7.set H5.length (⟨fol nm e m (keyN nm key0 m) (pubL sg) hc,true,true,true,1⟩:Ob):=⟨_,rfl⟩
 have l8:H8.length=H7.length:=by rw [hH8,Qo]
 have old8:∀ i,i<H6.length→i≠H5.length→H8[i]?=H6[i]? := fun i hi hne=>by rw [hH8,Qm (Ne.symm hne),old7 i hi]
 have at8:H8[H5.length]?=some ⟨fol nm e m (keyN nm key0 m) (pubL sg) hc,true,true,true,1⟩:=by rw [hH8,Qt (by omega)]
 have hS8:HS True H6.length H8 hc (heldL nm key0 rd m):=hS7.ext fun i hb hi=>by rw [hH8,Qm (by omega)]
 have g7:H7[H5.length]?=some ⟨F,true,true,true,1⟩:=(old7 _ (by omega)).trans at6
 have up8:∀ i,i<H5.length→H8[i]?=H6[i]? := fun i hi=>old8 i (by omega) (by omega)
 have q8f:H8[H.length+1]?=some fo:=(up8 _ (by omega)).trans q6f
 have mn8:H8[ina]?=some ⟨[.int .u32 e,.int .u32 mi],true,true,true,1⟩:=(up8 _ (by have:=(Qf.1 m3.n).1; omega)).trans mn6
 have r7c:=r7 hc
 have h8:=hH8.symm
 have im7:∀ L,Qy H.length L [H5.length]=L:=fun L=>QD (by simp; omega)
 have keyR:(rd mi=true∧∃ l,Zd T 50 [.pointer (some ⟨H5.length,0,none⟩),.int .u32 mi] H8=some (.tuple #[.agg (u8s (Qc 32 0)).toArray,.int .i64 151],H8++l,[])) ∨
   (rd mi=false∧∃ H9 M9 hv',Zd T 50 [.pointer (some ⟨H5.length,0,none⟩),.int .u32 mi] H8=some (.tuple #[.agg (u8s (Kb nm (keyN nm key0 mi))).toArray,.int .i64 0],H9,M9)∧H9[H5.length]?=some ⟨fol nm e (max m (mi+1)) (keyN nm key0 (max m (mi+1))) (pubL sg) hv',true,true,true,1⟩∧HS False H6.length H9 hv' (heldL nm key0 (rdN rd mi) (max m (mi+1)))∧(∀ i,i<H6.length→i≠H5.length→H9[i]?=H8[i]?)∧H8.length≤H9.length∧∀ i∈M9,H5.length≤i):=by
  rcases Zm mi m with hlt | hge
  ·cases hr:rd mi with
   | true=>exact .inl ⟨rfl,bR at8 hn hkm lpu hlt hS8 h33 (by omega) (cf hr)⟩
   | false =>
    obtain ⟨p,p1',p2',p3'⟩:=Pe (nm:=nm) (key0:=key0) hr hlt
    obtain ⟨H9,M9,hv',k1,k2,k3,k4,k5,k6⟩:=OU (mi:=mi) at8 hn hkm lpu hlt hS8 h33 (by omega) (by omega) p1' p2'
    rw [p3'] at k3
    refine .inr ⟨rfl,H9,M9,hv',k1,?_,?_,k4,k5,fun i hi=>by rcases k6 i hi with h | h<;>omega⟩
    ·rw [HP hlt]; exact k2
    ·rw [HP hlt]; exact k3
  ·obtain ⟨H9,M9,hv',k1,k2,k3,k4,k5,k6⟩:=OV (mi:=mi) at8 hn hk lpu hge (by omega) (by omega) hS8 h33 (by omega) (by omega) (by omega)
   rw [EZ hrd hge] at k3
   refine .inr ⟨hrd mi hge,H9,M9,hv',k1,?_,?_,k4,k5,fun i hi=>by rcases k6 i hi with h | h<;>omega⟩
   ·rw [Ig (by omega)]; exact k2
   ·rw [Ig (by omega)]; exact k3.weak (Qk _) (fun h=>h.elim)
 rcases keyR with ⟨hr,k9,hky⟩ | ⟨hr,H9,M9,hv',hky,b1,bS,b2,b3,b4⟩
 ·obtain ⟨H10,hH10⟩:∃ G,G=H8++k9++[(⟨u8s (Qc 32 0),true,true,true,1⟩:Ob)]:=⟨_,rfl⟩
  have up10:∀ i,i<H8.length→H10[i]?=H8[i]? := fun i hi=>by rw [hH10,Qv,Qa hi]
  have l10:H8.length≤H10.length:=by rw [hH10,Qv,Qg]; omega
  refine ⟨H10.set (H.length+2) ⟨F,true,true,true,1⟩,F,.slice none 0 0,151,?_,fun i hi => ?_,?_,.inl ⟨hr,rfl,rfl,rfl⟩⟩
  rotate_left
  ·rw [Qm (by omega),up10 i (by omega),up8 i (by omega),up61 i (by omega),old1 i hi]
  ·rw [Qo]; omega
  have e8:H10[H.length]?=some ⟨F,true,true,true,1⟩:=by rw [up10 _ (by omega),up8 _ (by omega)]; exact q6
  have e8z:H10[H.length+2]?=some ⟨Xn,true,true,true,1⟩:=by rw [up10 _ (by omega),up8 _ (by omega),up61 _ (by omega)]; exact at1 2 _ rfl
  have e8s:∀ o,(H10.set (H.length+2) o)[H.length+2]?=some o:=fun o=>Qt (by omega)
  have a8:∀ o1 o:Ob,(H8++k9++[o1]).set (H8++k9).length o=H8++k9++[o]:=fun _ _=>by rw [Q3 _ _ (Qk _),Qq]; rfl
  have a8g:∀ o1:Ob,(H8++k9++[o1])[(H8++k9).length]?=some o1:=fun _=>by rw [Qd (Qk _),Qq]; rfl
  have h10:=hH10.symm
  obtain ⟨zz,hzz⟩:∃ x,x=Qc 32 0:=⟨_,rfl⟩
  have lzz:zz.length=32:=by rw [hzz]; rfl
  rw [←hzz] at hky h10
  have sz:=QO (cs:=u8s z) (v:=u8s zz) (by rw [Qp,Qp,lz,lzz])
  have im9:Qy H.length [] [(H8++k9).length]=[]:=QD (by simp; omega)
  generalize hG7:H8++k9=G7 at *
  clear hH1 hH2 hH3 hH4 hH5 hH6 hH7 hH8 hH10 hE hF hzz o1 p1 p2 m1 m2 m3 m4 m6 h hsp at1 at4 at6 at8 old1 old2 old3 old4 old5 old6 old7 old8 up6 up61 up8 up10 hsg1 hn hk hs hX hKb xpu xfr hfo hh hrd hS7 hS8 h33 hcv r7 hdl hdb hkm xt
  generalize fol nm e m (keyN nm key0 m) (pubL sg) hc=Fc at *
  generalize pubL sg=pub at *
  rw [QE (fn:=C3) rfl]
  simp only [C3,Q0,quiet,cW,↓pW,reduceCtorEq,seval,-Qb,r1,r3,r4,r6,r7c,hen,hfr,hck,hky,hcl,hz,lz,g0,mk',mn',ms3,mn8,w1,w2,cl5,tnm,tsg,tpu,hq,q1,q1f,q2,q2f,q3,q3f,q5,q6,q6f,q8f,lzF,tF,spF,a5,a6,g7,ok1,ok2,ok3,cc1,cc2,cc3,im0,im1,im2,im7,h1,h4,h6,h8,hfoc,hfol,hfo',lnm,lsg,lpu,tz,cv1,cv2,cv3,e8,e8z,e8s,a8,a8g,h10,lzz,sz,im9,n0,Q6,QY,Zf,ZY,Zg,Qp,Qn,Qo,Ja,DX]
 ·obtain ⟨F',hF'⟩:∃ X,X=fol nm e (max m (mi+1)) (keyN nm key0 (max m (mi+1))) (pubL sg) hv':=⟨_,rfl⟩
  have n1:=Kf (e:=e) (m:=max m (mi+1)) (hv:=hv') hn.len hX.len lpu
  rw [←hF'] at b1 n1
  have tF':Q2 99 F'=F':=Q6 n1
  have spF':splice Xn 0 F'=F':=QO (by rw [n1,lzF])
  have hbx:=FT hKb
  have xA:=Cz hKb
  have xB:=Mw (Kb nm (keyN nm key0 mi))
  obtain ⟨HA,hHA⟩:∃ G,G=H9++[(⟨u8s (Kb nm (keyN nm key0 mi)),true,true,true,1⟩:Ob),⟨[v1],true,true,true,1⟩]:=⟨_,rfl⟩
  have lA:HA.length=H9.length+2:=by rw [hHA]; simp
  have upA:∀ i,i<H9.length→HA[i]?=H9[i]? := fun i hi=>by rw [hHA,Qa hi]
  have upA6:∀ i,i<H5.length→HA[i]?=H6[i]? := fun i hi=>by rw [upA i (by omega),b2 i (by omega) (by omega),up8 i hi]
  have upA3:∀ i,i<H3.length→HA[i]?=H3[i]? := fun i hi=>by rw [upA6 i (by omega),up6 i hi]
  have e9v:HA[H9.length+1]?=some ⟨[v1],true,true,true,1⟩:=by rw [hHA,Qd (by omega),Qs]; rfl
  obtain ⟨di,dof,dc,dob,rfl,d1,d2,d3,d4,-⟩:=(m3.ext upA3).d
  have hdd2:dl=Y7 (WU (Kb nm (keyN nm key0 mi))) (WT (Kb nm (keyN nm key0 mi))) tx [JC nm e mi].flatten:=by rw [hdl]; simp [msgD]
  obtain ⟨v2,HB,MB,hop,c1',c2',c3',c4'⟩:=Nr (H:=HA) (id:=di) (off:=dof) (c:=dc) (d:=tx) (pv := .slice (some ⟨H9.length+1,0,none⟩) 1 1) (xs:=[v1]) (ps:=[JC nm e mi]) xA hbx.2.1 xB (by rw [←hdd2]; exact d1) xt (by omega) (.inr ⟨_,0,1,_,rfl,by omega,e9v,rfl,fun i hi=>by rw [QB]⟩) (.cons (p1.extK (fun i hi=>by have:i<H3.length:=hi; omega) upA3) .nil) (by show 1<2^50; decide) (by simp [lfr]) (by rw [←hdd2]; exact d2) (fun o ho=>by rw [d3] at ho; cases ho; exact .inr (.inr (Nat.le_of_eq d4.symm)))
  rw [←hdd2] at hop
  have uB:∀ i,i<H.length→HB[i]?=H[i]? := fun i hi=>by rw [c2' i (by omega),upA3 i (by omega),old3 i (by omega),old2 i (by omega),old1 i hi]
  refine ⟨HB.set (H.length+2) ⟨F',true,true,true,1⟩,F',v2,0,?_,fun i hi => ?_,?_,.inr ⟨hr,rfl,?_,hv',hF',?_⟩⟩
  rotate_left
  ·rw [Qm (by omega),uB i hi]
  ·rw [Qo]; omega
  ·have ho:OutS (fun i=>i<HA.length) (HB.set (H.length+2) ⟨F',true,true,true,1⟩) v2 tx:=OutS.setK (.inr c1') (by show _<_; omega) _
   exact ho.toK fun i hi h'=>hi (show i<HA.length by have:i<H.length:=h'; omega)
  ·exact (bS.ext (G':=HB.set (H.length+2) ⟨F',true,true,true,1⟩) fun i hb hi=>by rw [Qm (by omega),c2' i (by omega),upA i hi]).weak (by omega) (fun h=>h)
  have e9a:H9[H.length+1]?=some fo:=by rw [b2 _ (by omega) (by omega)]; exact q8f
  have e9b:∀ L:List Ob,(H9++L)[H.length+1]?=some fo:=fun L=>by rw [Qa (by omega)]; exact e9a
  have e9c:∀ o:Ob,(H9++[o])[H9.length]?=some o:=fun o=>by rw [Qd (Qk _),Qq]; rfl
  have a9:∀ o1 o:Ob,(H9++[o1]).set H9.length o=H9++[o]:=fun _ _=>by rw [Q3 _ _ (Qk _),Qq]; rfl
  have e10:HB[H5.length]?=some ⟨F',true,true,true,1⟩:=by rw [c2' _ (by omega),upA _ (by omega)]; exact b1
  have e10z:HB[H.length+2]?=some ⟨Xn,true,true,true,1⟩:=by rw [c2' _ (by omega),upA6 _ (by omega),up61 _ (by omega)]; exact at1 2 _ rfl
  have e10s:∀ o,(HB.set (H.length+2) o)[H.length+2]?=some o:=fun o=>Qt (by omega)
  have imM9:Qy H.length [] M9=[]:=QD fun i hi=>by have:=b4 i hi; omega
  have imMB:Qy H.length [] MB=[]:=QD fun i hi=>by have:=c4' i hi; omega
  have im9:Qy H.length [] [H9.length]=[]:=QD (by simp; omega)
  have hA:=hHA.symm
  have hbv:=hbx.2.2
  have lAB:(WU (Kb nm (keyN nm key0 mi))++WT (Kb nm (keyN nm key0 mi))).length=44:=by rw [Qg,hbx.1,hbx.2.1]
  have lK:=hKb.len
  generalize WU (Kb nm (keyN nm key0 mi))++WT (Kb nm (keyN nm key0 mi))=AB at *
  generalize Kb nm (keyN nm key0 mi)=K at *
  have sK:=QO (cs:=u8s z) (v:=u8s K) (by rw [Qp,Qp,lz,lK])
  have tK:Q2 32 (u8s K)=u8s K:=Q6 (by rw [Qp,lK])
  clear hH1 hH2 hH3 hH4 hH5 hH6 hH7 hH8 hHA hE hF hF' hdd2 o1 p1 p2 m1 m2 m3 m4 m6 h hsp at1 at4 at6 at8 old1 old2 old3 old4 old5 old6 old7 old8 up6 up61 up8 upA upA6 upA3 hsg1 hn hk hs hX hKb xpu xfr hfo hh hrd hS7 hS8 h33 hcv r7 hdl hdb hkm b1 b2 b3 b4 bS c1' c2' c3' c4' d1 d2 d3 d4 xA xB hbx xt uB e9v e9a
  generalize fol nm e m (keyN nm key0 m) (pubL sg) hc=Fc at *
  generalize pubL sg=pub at *
  rw [QE (fn:=C3) rfl]
  simp only [C3,Q0,quiet,cW,↓pW,reduceCtorEq,seval,-Qb,r1,r3,r4,r6,r7c,hen,hfr,hck,hky,hop,hbv,hcl,hz,lz,g0,mk',mn',ms3,mn8,w1,w2,cl5,tnm,tsg,tpu,hq,q1,q1f,q2,q2f,q3,q3f,q5,q6,q6f,q8f,lzF,tF,spF,tF',spF',a5,a6,g7,ok1,ok2,ok3,cc1,cc2,cc3,im0,im1,im2,im7,imM9,imMB,im9,h1,h4,h6,h8,hA,hfoc,hfol,hfo',lnm,lsg,lpu,tz,cv1,cv2,cv3,e9b,e9c,a9,e10,e10z,e10s,lAB,lK,sK,tK,n0,n1,Q6,QY,Zf,ZY,Zg,Qp,Qn,Qo,Ja,DX]
theorem JnInv.app {nm key sg:List Nat} {tx:Nat→List Nat} {H0:List Ob} {f:Nat} {G m:List Ob} {fv:Value} {sh:List Value} {ms:List (Nat×Nat×Nat×Value)} {i k:Nat} (h:JnInv nm key sg tx H0 f G fv sh ms i k):JnInv nm key sg tx H0 f (G++m) fv sh ms i k:=by
 have hg:∀ (i:Nat) (o:Ob),G[i]?=some o→(G++m)[i]?=some o:=fun i o ho=>by rw [Qa (Qf.1 ho).1]; exact ho
 exact ⟨h.fr.keep fun i o _ ho _=>hg i o ho,h.lm,hg _ _ h.sd,hg _ _ h.so,h.ls,fun hh=>(h.sf hh).keep fun i o _ ho _=>hg i o ho,fun j x hx=>(h.mg j x hx).keep fun i o _ ho _=>hg i o ho,fun j hj=>by rw [Qa (by have:=h.lg; omega)]; exact h.lo j hj,by rw [Qg]; have:=h.lg; omega⟩
def ea (H0:List Ob) (n:Nat) (pv:Value) (i L:Nat) (t:List Nat):Prop:=∃ o rv,pv=.slice (some ⟨0,0,none⟩) n n∧H0[0]?=some o∧o.live=true∧o.cells[i]?=some rv∧vLen false rv=some (.int .i64 (L:Nat))∧(L≤100→HPart (LtN H0.length) H0 rv t∧t.length=L)
structure OnInv (nm key0 sg:List Nat) (tx:Nat→List Nat) (H0:List Ob) (p:Nat) (W:List Value) (G:List Ob) (fv:Value) (ms:List (Nat×Nat×Nat×Value)) (i:Nat):Prop where
 fr:Frs (p+1) G fv i (ms.map mcell).flatten
 lm:ms.length=i
 sd:G[H0.length+1]?=some ⟨plc nm 7 i (keyN nm key0 i) (u8s sg),true,true,true,1⟩
 fw:G[p]?=some ⟨W,true,true,true,1⟩
 mg:∀ j x,ms[j]?=some x→Msg (p+1) G x.1 x.2.1 x.2.2.1 x.2.2.2 nm 7 j (msgS nm (keyN nm key0 j) sg (tx j) 7 j) (msgD nm (keyN nm key0 j) (tx j) 7 j)
 lo:∀ j,j<H0.length→G[j]?=H0[j]?
 lg:p+1≤G.length
def onS (pv ov fv:Value) (b p n:Nat) (i:Int) (G:List Ob) (ex:Env):St:=⟨[(1,pv),(2,ov),(7,.pointer (some ⟨b+1,0,none⟩)),(8,.pointer (some ⟨p,0,none⟩)),(10,fv),(53,pv),(54,.int .i64 (n:Nat)),(55,.int .i64 i)]++ex,G,[]⟩
theorem gJ {tx:Nat→List Nat} {ms:List (Nat×Nat×Nat×Value)} (hr:ea H0 n pv i L (tx i)) (hi:i<n) (n12:n≤12) (hL:100<L) (h:OnInv nm key0 sg tx H0 p W G fv ms i) :
  Q8 T H0.length VU (onS pv ov fv H0.length p n i G [])=some (.ret,⟨[(6,.bool true)],G,[]⟩):=by
 obtain ⟨o0,rv,rfl,o1,o2,o3,o4,-⟩:=hr
 have b0:=(Qf.1 o1).1
 have g1o:G[0]?=some o0:=(h.lo 0 b0).trans o1
 have e1:((i:Int)<(n:Int))=True:=eq_true (by omega)
 have e2:((100:Int)<(L:Int))=True:=eq_true (by omega)
 simp only [onS,VU,Q0,quiet,cW,↓pW,reduceCtorEq,seval,-Qb,e1,e2,g1o,o2,o3,o4]
theorem Nt {tx:Nat→List Nat} {ms:List (Nat×Nat×Nat×Value)} (hn:B32 nm) (hk:B32 key0) (hs:B32 sg) (hbp:H0.length+2≤p) (hr:ea H0 n pv i L (tx i)) (hi:i<n) (n12:n≤12) (hL:L≤100) (h:OnInv nm key0 sg tx H0 p W G fv ms i) :
  ∃ fv' G' ms',Q8 T H0.length VU (onS pv ov fv H0.length p n i G [])=some (.normal,onS pv ov fv' H0.length p n ((i+1:Nat):Int) G' [])∧OnInv nm key0 sg tx H0 p W G' fv' ms' (i+1):=by
 have hki:=YV (nm:=nm) hk i
 have hX:=YV (nm:=nm) hk (i+1)
 have lg:=h.lg
 obtain ⟨o0,rv,hpv,o1,o2,o3,o4,o5⟩:=hr
 obtain ⟨o6,o7⟩:=o5 hL
 have b0:=(Qf.1 o1).1
 obtain ⟨ik,ina,is,v,H4,hse,m4,q4,l4⟩:=FD (H:=G) (e:=7) (m:=i) (tv:=rv) hn hki hs (by omega) (o6.extK (fun j hj=>by have:j<H0.length:=hj; omega) fun j hj=>h.lo j hj) (by omega)
 rw [show (nxK nm (keyN nm key0 i)).drop 32=keyN nm key0 (i+1) from rfl] at hse
 obtain ⟨S,hS⟩:∃ X,X=plc nm 7 i (keyN nm key0 i) (u8s sg):=⟨_,rfl⟩
 obtain ⟨S',hS'⟩:∃ X,X=plc nm 7 (i+1) (keyN nm key0 (i+1)) (u8s sg):=⟨_,rfl⟩
 have n0:=JK (e:=7) (m:=i) (tl:=u8s sg) hn.len hki.len
 have n1:=JK (e:=7) (m:=i+1) (tl:=u8s sg) hn.len hX.len
 rw [Qp,hs.len,←hS] at n0
 rw [Qp,hs.len,←hS'] at n1
 rw [←hS,←hS'] at hse
 obtain ⟨H6,hH6⟩:∃ X,X=(H4++[(⟨S',true,true,true,1⟩:Ob),⟨mcell (ik,ina,is,v),true,true,true,1⟩]).set (H0.length+1) ⟨S',true,true,true,1⟩:=⟨_,rfl⟩
 have l6:H6.length=H4.length+2:=by rw [hH6]; simp
 have old6:∀ j,j<H4.length→j≠H0.length+1→H6[j]?=H4[j]? := fun j hj hne=>by rw [hH6,Qm (Ne.symm hne),Qa hj]
 have up6:∀ j,j<G.length→j≠H0.length+1→H6[j]?=G[j]? := fun j hj hne=>by rw [old6 j (by omega) hne,q4 j hj]
 have kp6:∀ j o,p+1≤j→G[j]?=some o→H6[j]?=some o:=fun j o hj ho=>(up6 j (Qf.1 ho).1 (by omega)).trans ho
 have fr6:Frs (p+1) H6 fv i (ms.map mcell).flatten:=h.fr.keep fun j o hj ho _=>kp6 j o hj ho
 obtain ⟨fv',G',M,hap,a1,a2,a3,a4,a5⟩:=Lw (q:=mcell (ik,ina,is,v)) fr6 (by omega) rfl (by omega)
 have kp:∀ j o,p+1≤j→G[j]?=some o→o.es=1→G'[j]?=some o:=fun j o hj ho he=>a5 j o (kp6 j o hj ho) he
 have e6:H6[H0.length+1]?=some ⟨S',true,true,true,1⟩:=by rw [hH6,Qt (by rw [Qg]; omega)]
 refine ⟨fv',G',ms++[(ik,ina,is,v)],?_,⟨by simpa using a1,by rw [Qg,h.lm]; rfl,by rw [a4 _ (by omega),e6,hS'],by rw [a4 _ (by omega),up6 _ (by omega) (by omega)]; exact h.fw,fun j x hx => ?_,fun j hj=>by rw [a4 j (by omega),up6 j (by omega) (by omega),h.lo j hj],by omega⟩⟩
 rotate_left
 ·rcases Zm j ms.length with hj | hj
  ·rw [Qa hj] at hx
   exact (h.mg j x hx).keep kp
  ·have hj2:j<ms.length+1:=by have:=(Qf.1 hx).1; rwa [Qg] at this
   have hj3:j=i:=by have:=h.lm; omega
   subst hj3
   rw [Qd hj,show j-ms.length=0 by omega] at hx
   cases hx
   exact m4.keep' (by omega) fun j o hj ho he=>a5 j o ((old6 j (Qf.1 ho).1 (by omega)).trans ho) he
 have g1:G[H0.length+1]?=some ⟨S,true,true,true,1⟩:=by rw [hS]; exact h.sd
 have g1o:G[0]?=some o0:=(h.lo 0 b0).trans o1
 have g4a:∀ o o':Ob,(H4++[o,o'])[H4.length]?=some o:=fun _ _=>by rw [Qd (Qk _),Qq]; rfl
 have g4b:∀ o o':Ob,(H4++[o,o'])[H0.length+1]?=some ⟨S,true,true,true,1⟩:=fun _ _=>by rw [Qa (by omega),q4 _ (by omega)]; exact g1
 have a4a:∀ o o' p:Ob,(H4++[o,o']).set H4.length p=H4++[p,o']:=fun _ _ _=>by rw [Q3 _ _ (Qk _),Qq]; rfl
 have a4b:∀ o o' p:Ob,(H4++[o,o']).set (H4.length+1) p=H4++[o,p]:=fun _ _ _=>by rw [Q3 _ _ (by omega),Qs]; rfl
 have g6:H6[H4.length+1]?=some ⟨mcell (ik,ina,is,v),true,true,true,1⟩:=by rw [hH6,Qm (by omega),Qd (by omega),Qs]; rfl
 have hmc:mcell (ik,ina,is,v)=[.int .i64 5,.slice (some ⟨ik,0,none⟩) 1 1,.slice (some ⟨ina,0,none⟩) 2 2,.slice (some ⟨is,0,none⟩) 1 1,v]:=rfl
 have fz:fillL XM [(0,5,.agg #[.int .i64 5,.slice (some ⟨ik,0,none⟩) 1 1,.slice (some ⟨ina,0,none⟩) 2 2,.slice (some ⟨is,0,none⟩) 1 1,v])]=some [.int .i64 5,.slice (some ⟨ik,0,none⟩) 1 1,.slice (some ⟨ina,0,none⟩) 2 2,.slice (some ⟨is,0,none⟩) 1 1,v]:=rfl
 have sp5:∀ (a b c d e':Value),splice XM 0 [a,b,c,d,e']=[a,b,c,d,e']:=fun _ _ _ _ _=>rfl
 have cl5:∀ a b c d e':Value,Q2 5 [a,b,c,d,e']=[a,b,c,d,e']:=fun _ _ _ _ _=>rfl
 have lzs:KD.length=98:=rfl
 have lzf:XM.length=5:=rfl
 have s1:splice KD 0 S'=S':=QO (by rw [n1,lzs])
 have s2:splice S 0 S'=S':=QO (by rw [n0,n1])
 have t1:Q2 98 S=S:=Q6 n0
 have t2:Q2 98 S'=S':=Q6 n1
 have e2:((100:Int)<(L:Int))=False:=eq_false (by omega)
 have e3:((i:Int)<(n:Int))=True:=eq_true (by omega)
 have w3:IntKind.i64.wrap ((i:Int)+1)=((i+1:Nat):Int):=Z0 (b:=1) (by omega)
 have ok1:∀ L:List Value,(Value.agg L.toArray).cells.toList=L:=fun _=>rfl
 have ok2:∀ L:List Value,(Value.agg L.toArray).cells.size=L.length:=fun _=>rfl
 have ok3:∀ L:List Value,okVar (Value.agg L.toArray)=true:=fun _=>rfl
 have im1:∀ j,Qy H0.length [] [H0.length+j]=[]:=fun j=>QD (by simp)
 have im2:∀ j,Qy H0.length [] [H4.length+j]=[]:=fun j=>QD (by simp; omega)
 have im3:Qy H0.length [] [H4.length]=[]:=QD (by simp; omega)
 have imM:Qy H0.length [] M=[]:=QD fun j hj=>by have:=a2 j hj; omega
 have h6:=hH6.symm
 simp only [DX] at hse
 rw [hmc] at hap h6 g6
 clear hH6 m4 q4 a1 a2 a4 a5 kp kp6 up6 old6 fr6 hn hk hs hki hX h o5 o6 o1 hS hS'
 subst hpv
 generalize tx i=txi at *
 generalize i+1=i1 at *
 simp only [onS,VU,Q0,quiet,cW,↓pW,reduceCtorEq,seval,-Qb,e2,e3,g1,g1o,o2,o3,o4,hse,g4a,g4b,a4a,a4b,g6,fz,sp5,cl5,lzs,lzf,s1,s2,t1,t2,w3,ok1,ok2,ok3,im1,im2,im3,imM,h6,hap,n0,n1]
structure B2Inv (nm key0 sg:List Nat) (p c:Nat) (G2 G:List Ob) (rd:Nat→Bool) (m:Nat) (hv:Value):Prop where
 ag:∀ j,j<G2.length→j≠p→G[j]?=G2[j]?
 le:G2.length<G.length
 fb:G[p]?=some ⟨fol nm 7 m (keyN nm key0 m) (pubL sg) hv,true,true,true,1⟩
 fl:G[G2.length]?=some ⟨(QX c).map fun j=>Value.bool (rd j),true,true,true,1⟩
 hh:HS False (p+1) G hv (heldL nm key0 rd m)
 rz:∀ j,m≤j→rd j=false
 mc:m≤c
theorem P4 {c x:Nat} (rd:Nat→Bool) (hx:x<c):((QX c).map fun j=>Value.bool (rd j)).set x (.bool true)=(QX c).map fun j=>Value.bool (rdN rd x j):=by
 apply ZK
 intro j
 rw [Zq]
 by_cases hj:x=j
 ·subst hj
  rw [Qt (by simpa using hx),Xm hx]
  simp [rdN]
 ·rw [Qm hj,Zq]
  rcases Zm j c with h | h
  ·rw [Xm h]
   simp [rdN,show ¬ j=x from fun e=>hj e.symm]
  ·rw [QI (by simpa using h)]; rfl
def ooS (pv ov fv:Value) (p R c n:Nat) (far i:Int) (G:List Ob) (ex:Env):St:=⟨[(1,pv),(8,.pointer (some ⟨p,0,none⟩)),(10,fv),(16,.slice (some ⟨R,0,none⟩) c c),(17,.int .i64 far),(80,ov),(81,.int .i64 (n:Nat)),(82,.int .i64 i)]++ex,G,[]⟩
theorem gI {tx:Nat→List Nat} {Ls:Nat→Nat} {c:Nat} {G2:List Ob} {rd:Nat→Bool} {m:Nat} {ms:List (Nat×Nat×Nat×Value)} {xs:List Int} (hn:B32 nm) (hk:B32 key0) (hs:B32 sg) (hbp:H0.length+2≤p) (c12:c≤12) (hr:∀ j,j<c→ea H0 c pv j (Ls j) (tx j)) (hL:∀ j,j<c→Ls j≤100) (h:OnInv nm key0 sg tx H0 p W G2 fv ms c) (hO:Sq H0 1 (xs.map (Value.int .i64)) xs.length ov) (hi:i<xs.length) (h30:xs.length≤30) (hb:B2Inv nm key0 sg p c G2 G rd m hv) :
  ∃ G' rd' m' hv',Q8 T H0.length YM (ooS pv ov fv p G2.length c xs.length m i G [])=some (.normal,ooS pv ov fv p G2.length c xs.length (m':Nat) ((i+1:Nat):Int) G' [])∧B2Inv nm key0 sg p c G2 G' rd' m' hv':=by
 have lg:=h.lg
 have hle:=hb.le
 have hmc:=hb.mc
 obtain ⟨x,hx⟩:∃ x,xs[i]?=some x:=⟨_,Qh hi⟩
 obtain ⟨oid,oc,ow,oe,os,rfl,ho,-⟩:=hO.some_of (by omega)
 have hol:=(Qf.1 ho).1
 have g0:G[oid]?=some ⟨xs.map (Value.int .i64),true,ow,oe,os⟩:=by rw [hb.ag oid (by omega) (by omega),h.lo oid hol]; exact ho
 have hxi:(xs.map (Value.int .i64))[i]?=some (.int .i64 x):=by rw [Zq,hx]; rfl
 have e3:((i:Int)<(xs.length:Int))=True:=eq_true (by omega)
 have w3:IntKind.i64.wrap ((i:Int)+1)=((i+1:Nat):Int):=Z0 (b:=1) (by omega)
 have lfv:vLen false fv=some (.int .i64 (c:Nat)):=by
  rcases h.fr with ⟨h0,rfl,-⟩ | ⟨_,rfl,-⟩
  ·rw [h0]; rfl
  ·rfl
 by_cases hx0:x<0
 ·refine ⟨G,rd,m,hv,?_,hb⟩
  have e1:=eq_true hx0
  generalize xs.map (Value.int .i64)=C at *
  generalize xs.length=n at *
  generalize i+1=i1 at *
  simp only [ooS,YM,Q0,quiet,cW,↓pW,reduceCtorEq,seval,-Qb,e3,g0,hxi,e1,w3]
 by_cases hxc:(c:Int)≤x
 ·refine ⟨G,rd,m,hv,?_,hb⟩
  have e1:=eq_false hx0
  have e2:=eq_true hxc
  generalize xs.map (Value.int .i64)=C at *
  generalize xs.length=n at *
  generalize i+1=i1 at *
  simp only [ooS,YM,Q0,quiet,cW,↓pW,reduceCtorEq,seval,-Qb,e3,g0,hxi,e1,e2,lfv,w3]
 obtain ⟨mi,rfl⟩:∃ mi:Nat,x=(mi:Int):=⟨x.toNat,by omega⟩
 have hmi:mi<c:=by omega
 obtain ⟨fx,hfx⟩:∃ fx,ms[mi]?=some fx:=⟨_,Qh (by rw [h.lm]; exact hmi)⟩
 obtain ⟨f2',f3'⟩:=R7 (n:=5) (L:=ms.map mcell) (i:=mi) (P:=mcell fx) (fun y hy=>by obtain ⟨z,-,rfl⟩:=Jc.1 hy; rfl) (by rw [Zq,hfx]; rfl)
 obtain ⟨fid,rfl,k2,k3,k4,k5⟩:∃ fid,fv=.slice (some ⟨fid,0,none⟩) c c∧p+1≤fid∧G2[fid]?=some ⟨(ms.map mcell).flatten,true,true,false,5⟩∧(ms.map mcell).flatten.length=5*c∧0<c:=by
  rcases h.fr with ⟨h0,-⟩ | hh
  ·omega
  ·exact hh
 have f1:G[fid]?=some ⟨(ms.map mcell).flatten,true,true,false,5⟩:=(hb.ag _ (Qf.1 k3).1 (by omega)).trans k3
 have hm:=(h.mg mi fx hfx).keep (G:=G) fun j o hj ho _=>(hb.ag j (Qf.1 ho).1 (by omega)).trans ho
 obtain ⟨o0,rv,hpv,r1,r2,r3,r4,r5⟩:=hr mi hmi
 obtain ⟨r6,r7⟩:=r5 (hL mi hmi)
 have hL':=hL mi hmi
 obtain ⟨H5,r,v',cd,hop,q1,q2,q3⟩:=PH (tx:=tx mi) hm hk hs rfl (by omega) r6.lt (by omega) (by omega) hb.hh hb.rz
 rw [show DX fx.1 fx.2.1 fx.2.2.1 fx.2.2.2=.agg (mcell fx).toArray from rfl] at hop
 have lpu:=Ym sg
 obtain ⟨hv',hre,hS5⟩:∃ hv',r=fol nm 7 (max m (mi+1)) (keyN nm key0 (max m (mi+1))) (pubL sg) hv'∧HS False (p+1) H5 hv' (heldL nm key0 (rdN rd mi) (max m (mi+1))):=by
  rcases q3 with ⟨e1,e2,-,-⟩ | ⟨e1,-,-,hv',e2,e3⟩
  ·have hlt:mi<m:=by
    rcases Zm mi m with h' | h'
    ·exact h'
    ·rw [hb.rz mi h'] at e1; cases e1
   have hrd:rdN rd mi=rd:=by
    funext j
    unfold rdN
    by_cases hj:j=mi
    ·rw [hj,e1]; rfl
    ·simp [hj]
   rw [hrd,HP (by omega)]
   exact ⟨hv,e2,hb.hh.ext fun j _ hj=>q1 j hj⟩
  ·exact ⟨hv',e2,e3.weak (by omega) fun h=>h⟩
 have lr:r.length=99:=by rw [hre]; exact Kf hn.len (YV hk _).len lpu
 have hpl:=(Qf.1 hb.fb).1
 obtain ⟨H6,hH6⟩:∃ X,X=H5++[(⟨r,true,true,true,1⟩:Ob)]:=⟨_,rfl⟩
 have l6:H6.length=H5.length+1:=by rw [hH6]; simp
 have up6:∀ j,j<G.length→H6[j]?=G[j]? := fun j hj=>by rw [hH6,Qa (by omega),q1 j hj]
 have g6f:H6[G2.length]?=some ⟨(QX c).map fun j=>Value.bool (rd j),true,true,true,1⟩:=(up6 _ hle).trans hb.fl
 obtain ⟨FN,hFN⟩:∃ X,X=(QX c).map fun j=>Value.bool (rdN rd mi j):=⟨_,rfl⟩
 have hfs:=P4 rd hmi
 rw [←hFN] at hfs
 refine ⟨(H6.set G2.length ⟨FN,true,true,true,1⟩).set p ⟨r,true,true,true,1⟩,rdN rd mi,max m (mi+1),hv',?_,⟨fun j hj hne => ?_,by rw [Qo,Qo]; omega,?_,?_,?_,fun j hj => ?_,by omega⟩⟩
 rotate_left
 ·rw [Qm (Ne.symm hne),Qm (by omega),up6 j (by omega),hb.ag j hj hne]
 ·rw [←hre]; exact Qt (by rw [Qo]; omega)
 ·rw [←hFN,Qm (by omega),Qt (by omega)]
 ·have h6:HS False (p+1) H6 hv' (heldL nm key0 (rdN rd mi) (max m (mi+1))):=hS5.ext fun j _ hj=>by rw [hH6,Qa hj]
  refine h6.keep fun j o hj ho hes => ?_
  have hne:j≠G2.length:=fun e=>by
   rw [e,g6f] at ho
   cases ho
   rcases hes with h' | h'
   ·cases h'
   ·have:=congrArg Il h'
    simp at this
    omega
  rw [Qm (by omega),Qm (Ne.symm hne)]; exact ho
 ·have:¬ j=mi:=by omega
  simp [rdN,hb.rz j (by omega),this]
 have hw:=hb.fb
 have w0:=Kf (e:=7) (m:=m) (hv:=hv) hn.len (YV (nm:=nm) hk m).len lpu
 have t3:=Q6 w0
 have s3:splice (fol nm 7 m (keyN nm key0 m) (pubL sg) hv) 0 r=r:=QO (by rw [lr,w0])
 have lzo:Xn.length=99:=rfl
 have s4:splice Xn 0 r=r:=QO (by rw [lr,lzo])
 have t4:=Q6 lr
 have e1:=eq_false hx0
 have e2:=eq_false hxc
 have e4:((mi:Int)<(c:Int))=True:=eq_true (by omega)
 have a5:∀ o p:Ob,(H5++[o]).set H5.length p=H5++[p]:=fun _ _=>by rw [Q3 _ _ (Qk _),Qq]; rfl
 have b0:=(Qf.1 r1).1
 have lo6:∀ j,j<H0.length→H6[j]?=H0[j]? := fun j hj=>by rw [up6 j (by omega),hb.ag j (by omega) (by omega),h.lo j hj]
 have g6o:H6[0]?=some o0:=(lo6 0 b0).trans r1
 have g6x:((QX c).map fun j=>Value.bool (rd j))[mi]?=some (.bool (rd mi)):=by rw [Zq,Xm hmi]; rfl
 have g7r:∀ o,(H6.set G2.length o)[H5.length]?=some ⟨r,true,true,true,1⟩:=fun o=>by rw [Qm (by omega),hH6,Qd (Qk _),Qq]; rfl
 have g7w:∀ o,(H6.set G2.length o)[p]?=some ⟨fol nm 7 m (keyN nm key0 m) (pubL sg) hv,true,true,true,1⟩:=fun o=>by rw [Qm (by omega),up6 _ hpl]; exact hw
 have lfl:((QX c).map fun j=>Value.bool (rd j)).length=c:=by simp
 have e5:(mi<c)=True:=eq_true hmi
 have lm5:(mcell fx).length=5:=rfl
 have ok1:∀ L:List Value,(Value.agg L.toArray).cells.toList=L:=fun _=>rfl
 have ok2:∀ L:List Value,(Value.agg L.toArray).cells.size=L.length:=fun _=>rfl
 have ok3:∀ L:List Value,okVar (Value.agg L.toArray)=true:=fun _=>rfl
 have im4:Qy H0.length [] [p]=[]:=QD (by simp; omega)
 have im5:Qy H0.length [] [H5.length]=[]:=QD (by simp; omega)
 have im6:Qy H0.length [] [G2.length]=[]:=QD (by simp; omega)
 have hb1:Iu H6 rv=some (DV (tx mi)):=RO ⟨r6.shape,r6.reads⟩ lo6
 have w4:IntKind.i64.wrap ((mi:Int)+1)=((mi+1:Nat):Int):=Z0 (b:=1) (by omega)
 have hmx:(if ((mi+1:Nat):Int)>(m:Int) then ((mi+1:Nat):Int) else (m:Int))=((max m (mi+1):Nat):Int):=by
  by_cases h':((mi+1:Nat):Int)>(m:Int)
  ·rw [if_pos h',Ig (by omega)]
  ·rw [if_neg h',HP (by omega)]
 have hne:Jx .neq (DV (tx mi)) (DV (tx mi))=some (.bool false):=by unfold DV; rw [FV,beq_self_eq_true]; rfl
 have h6:=hH6.symm
 rcases q3 with ⟨hrd,-,rfl,rfl⟩ | ⟨hrd,rfl,q3,-⟩
 ·clear hb h hn hk hs ho hr hL hS5 up6 lo6 hH6 hFN hre q1 q2 r5 r6 r1 hm hx0 hxc
  subst hpv
  rw [hrd] at g6x
  generalize ((QX c).map fun j=>Value.bool (rd j))=FB,mcell fx=MC,(ms.map mcell).flatten=FL,fol nm 7 m (keyN nm key0 m) (pubL sg) hv=F,xs.map (Value.int .i64)=C at *
  generalize xs.length=n at *
  generalize i+1=i1 at *
  generalize max m (mi+1)=mx at *
  generalize mi+1=mi1 at *
  generalize tx mi=txi at *
  simp only [ooS,YM,Q0,quiet,cW,↓pW,reduceCtorEq,seval,-Qb,e1,e2,e3,e4,e5,ZD,g0,hxi,w3,hw,f1,f2',f3',hop,a5,h6,g6f,g6x,g6o,r2,r3,r4,hb1,hfs,g7r,g7w,w0,t3,t4,s3,s4,lr,lzo,lfl,w4,hmx,ok1,ok2,ok3,im4,im5,im6]
 ·have t6:=(((q3.app (m:=[(⟨r,true,true,true,1⟩:Ob)]))).part r6.lt (by omega))
  rw [h6] at t6
  have hb2:Iu H6 v'=some (DV (tx mi)):=RO ⟨t6.shape,t6.reads⟩ fun _ _=>rfl
  clear hb h hn hk hs ho hr hL hS5 up6 lo6 hH6 hFN hre q1 q2 q3 r5 r6 r1 hm hx0 hxc t6
  subst hpv
  rw [hrd] at g6x
  generalize ((QX c).map fun j=>Value.bool (rd j))=FB,mcell fx=MC,(ms.map mcell).flatten=FL,fol nm 7 m (keyN nm key0 m) (pubL sg) hv=F,xs.map (Value.int .i64)=C at *
  generalize xs.length=n at *
  generalize i+1=i1 at *
  generalize max m (mi+1)=mx at *
  generalize mi+1=mi1 at *
  generalize DV (tx mi)=SV at *
  generalize tx mi=txi at *
  simp only [ooS,YM,Q0,quiet,cW,↓pW,reduceCtorEq,seval,-Qb,e1,e2,e3,e4,e5,ZD,g0,hxi,w3,hw,f1,f2',f3',hop,a5,h6,g6f,g6x,g6o,r2,r3,r4,hb1,hb2,hne,hfs,g7r,g7w,w0,t3,t4,s3,s4,lr,lzo,lfl,w4,hmx,ok1,ok2,ok3,im4,im5,im6]
def WS (B:Nat) (G:List Ob) (v:Value) (ns:List Nat):Prop:=(v=.slice none 0 0∧ns=[])∨∃ id,v=.slice (some ⟨id,0,none⟩) ns.length ns.length∧B≤id∧G[id]?=some ⟨ns32 ns,true,true,false,1⟩∧0<ns.length
theorem EL (ns:List Nat):(ns32 ns).length=ns.length:=by simp [ns32]
theorem NU {ns:List Nat} {x:Nat} (h:WS B G v ns) (hB:B≤G.length) (h1000:ns.length≤1000) :
  ∃ v' G' M,Zu 1 4 (G++[⟨[.int .u32 x],true,true,true,1⟩]) v (.slice (some ⟨G.length,0,none⟩) 1 1)=some (v',G',none,M)∧WS B G' v' (ns++[x])∧(∀ i∈M,B≤i)∧G.length≤G'.length∧∀ i,i<B→G'[i]?=G[i]? := by
 have hgx:(G++[(⟨[.int .u32 x],true,true,true,1⟩:Ob)])[G.length]?=some ⟨[.int .u32 x],true,true,true,1⟩:=by rw [Qd (Qk _),Qq]; rfl
 have he:elemsOf (G++[(⟨[.int .u32 x],true,true,true,1⟩:Ob)]) 1 1 (.slice (some ⟨G.length,0,none⟩) 1 1)=some [.int .u32 x]:=by
  simp [elemsOf,QW hgx rfl]
 have hl:Go.Ev.lenV (.slice (some ⟨G.length,0,none⟩) 1 1)=some 1:=rfl
 have h1:¬ (1:Nat)=0:=by decide
 rcases h with ⟨rfl,rfl⟩ | ⟨id,rfl,h2,h3,h4⟩
 ·refine ⟨.slice (some ⟨(G++[(⟨[.int .u32 x],true,true,true,1⟩:Ob)]).length,0,none⟩) 1 1,(G++[(⟨[.int .u32 x],true,true,true,1⟩:Ob)])++[Ob.grown 1 [.int .u32 x]],[],?_,.inr ⟨_,rfl,by rw [Qg]; omega,by rw [Qd (Qk _),Qq]; rfl,by simp⟩,by simp,by simp,fun i hi => ?_⟩
  ·have h2:(0+1)*4≤2^47∧0<4∧0<1:=by decide
   simp only [Zu,hl,he,Qj,if_neg h1,h2,and_self,not_true_eq_false,if_false,if_true]
  ·rw [Qv,Qa (by omega)]
 ·have hid:id<G.length:=(Qf.1 h3).1
  have h3':(G++[(⟨[.int .u32 x],true,true,true,1⟩:Ob)])[id]?=some ⟨ns32 ns,true,true,false,1⟩:=by rw [Qa hid]; exact h3
  refine ⟨.slice (some ⟨(G++[(⟨[.int .u32 x],true,true,true,1⟩:Ob)]).length,0,none⟩) (ns.length+1) (ns.length+1),((G++[(⟨[.int .u32 x],true,true,true,1⟩:Ob)]).set id Ob.dead)++[Ob.grown 1 (ns32 ns++[.int .u32 x])],[id],?_,.inr ⟨_,by rw [show (ns++[x]).length=ns.length+1 by simp],by rw [Qg]; omega,?_,by simp⟩,by simpa using h2,by simp; omega,fun i hi => ?_⟩
  ·have h2:(ns.length+1)*4≤2^47∧0<4∧0<1:=⟨by omega,by decide,by decide⟩
   have h7:¬ (ns.length+1≤ns.length):=by omega
   have h8:elemsOf (G++[(⟨[.int .u32 x],true,true,true,1⟩:Ob)]) 1 ns.length (.slice (some ⟨id,0,none⟩) ns.length ns.length)=some (ns32 ns):=by
    simp [elemsOf,QW h3' rfl,EL]
    exact Qu (by rw [EL]; exact Qk _)
   simp only [Zu,hl,he,Qj,if_neg h1,h2,and_self,not_true_eq_false,if_false,if_true,QW h3' rfl,h8,if_neg h7,Zh,Qk]
  ·rw [Qd (by rw [Qo]; exact Qk _),Qo,Qq]; simp [Ob.grown,ns32]
  ·rw [Qa (by rw [Qo,Qg]; omega),Qm (by omega),Qa (by omega)]
def wtS (vo hv:Value) (n:Nat) (i:Int) (G:List Ob) (ex:Env):St:=⟨[(3,vo),(7,hv),(8,.int .i64 (n:Nat)),(9,.int .i64 i)]++ex,G,[]⟩
theorem er {t:Prop} {F:List Value} {hs:List (Nat×List Nat)} (lF:F.length=99) (h98:F[98]?=some hv) (h:HS t B H hv hs) (h33:H33 hs) (h500:hs.length≤500) :
  ∃ v H',Zd T 32 [.agg F.toArray] H=some (v,H',[])∧WS H.length H' v (hs.map (·.1))∧∀ i,i<H.length→H'[i]?=H[i]? := by
 have g0:(H++[(⟨F,true,true,true,1⟩:Ob)])[H.length]?=some ⟨F,true,true,true,1⟩:=by rw [Qd (Qk _),Qq]; rfl
 obtain ⟨ah,ch,hvh⟩:=h.shape
 have hl:vLen false hv=some (.int .i64 (hs.length:Nat)):=by rw [hvh]; rfl
 obtain ⟨st,hA,v,G,rfl,hw,hold,-⟩:=Zc (T:=T) (base:=H.length) (id:=0) (body:=M0)
  (fun i st=>∃ v G,st=wtS v hv hs.length i G []∧WS (H.length+1) G v ((hs.take i).map (·.1))∧(∀ i,i<H.length→G[i]?=H[i]?)∧H.length+1≤G.length) (Q:=fun st=>∃ v G,st=wtS v hv hs.length hs.length G [(10,.bool false)]∧WS (H.length+1) G v (hs.map (·.1))∧(∀ i,i<H.length→G[i]?=H[i]?)∧H.length+1≤G.length)
  hs.length (s:=wtS (.slice none 0 0) hv hs.length ((0:Nat):Int) (H++[⟨F,true,true,true,1⟩]) []) ⟨_,_,rfl,.inl ⟨rfl,rfl⟩,fun i hi=>Qa hi,by simp⟩
  (fun i st hi hs'=>by
   obtain ⟨v,G,rfl,hw,hold,hlen⟩:=hs'
   obtain ⟨x,hx⟩:∃ x,hs[i]?=some x:=⟨_,Qh hi⟩
   obtain ⟨id,c,cs,hvv,hb,r1,r2,r3⟩:=(h.ext (G':=G) fun j _ hj=>hold j hj).row h33 hx
   have lx:=Yf (h33 x (Qz hx))
   obtain ⟨G1,hG1⟩:∃ X,X=G++[(⟨ZO x,true,true,true,1⟩:Ob)]:=⟨_,rfl⟩
   have l1:G1.length=G.length+1:=by rw [hG1]; simp
   have hw1:WS (H.length+1) G1 v ((hs.take i).map (·.1)):=by
    rcases hw with h' | ⟨id,h1,h2,h3,h4⟩
    ·exact .inl h'
    ·exact .inr ⟨id,h1,h2,by rw [hG1,Qa (Qf.1 h3).1]; exact h3,h4⟩
   obtain ⟨v',G',M,hap,a1,a2,a3,a4⟩:=NU (x:=x.1) hw1 (by omega) (by rw [JF,Q7]; omega)
   have htk:hs.take (i+1)=hs.take i++[x]:=by rw [ZG,hx]; rfl
   refine ⟨wtS v' hv hs.length ((i+1:Nat):Int) G' [],?_,v',G',rfl,by rw [htk,JS]; exact a1,fun j hj=>by rw [a4 j (by omega),hG1,Qa (by omega),hold j hj],by omega⟩
   have e1:((i:Int)<(hs.length:Int))=True:=eq_true (by omega)
   have w3:IntKind.i64.wrap ((i:Int)+1)=((i+1:Nat):Int):=Z0 (b:=1) (by omega)
   have ga:∀ o p:Ob,(G++[o]).set G.length p=G++[p]:=fun _ _=>by rw [Q3 _ _ (Qk _),Qq]; rfl
   have g1:G1[G.length]?=some ⟨ZO x,true,true,true,1⟩:=by rw [hG1,Qd (Qk _),Qq]; rfl
   have h0:(ZO x)[0]?=some (.int .u32 (x.1:Nat)):=rfl
   have lzh:Wd.length=33:=rfl
   have sh:=QO (cs:=Wd) (v:=ZO x) (by rw [lx,lzh])
   have th:=Q6 lx
   have f1:fillL [Value.int .u32 0] [(0,1,.int .u32 (x.1:Nat))]=some [.int .u32 (x.1:Nat)]:=rfl
   have h1:=hG1.symm
   have ok1:∀ L:List Value,(Value.agg L.toArray).cells.toList=L:=fun _=>rfl
   have ok2:∀ L:List Value,(Value.agg L.toArray).cells.size=L.length:=fun _=>rfl
   have ok3:∀ L:List Value,okVar (Value.agg L.toArray)=true:=fun _=>rfl
   have im1:Qy H.length [] [G.length]=[]:=QD (by simp; omega)
   have imM:Qy H.length [] M=[]:=QD fun j hj=>by have:=a2 j hj; omega
   clear hw hw1 a1 a2 a3 a4 hold hG1 h33 h hvh hl hx htk hb
   subst hvv
   generalize ZO x=C at *
   generalize hs.length=n at *
   generalize i+1=i1 at *
   simp only [wtS,M0,Q0,quiet,cW,↓pW,reduceCtorEq,seval,-Qb,e1,w3,r1,r2,r3,ga,h1,g1,h0,lzh,lx,sh,th,f1,hap,ok1,ok2,ok3,im1,imM])
  (fun st hs'=>by
   obtain ⟨v,G,rfl,hw,hold,hlen⟩:=hs'
   rw [List.take_length] at hw
   refine ⟨_,?_,v,G,rfl,hw,hold,hlen⟩
   have e1:((hs.length:Int)<(hs.length:Int))=False:=eq_false (by omega)
   generalize hs.length=n at *
   simp only [wtS,M0,Q0,quiet,cW,↓pW,reduceCtorEq,seval,-Qb,e1])
 have ok1:∀ L:List Value,(Value.agg L.toArray).cells.toList=L:=fun _=>rfl
 have ok3:∀ L:List Value,okVar (Value.agg L.toArray)=true:=fun _=>rfl
 refine ⟨v,G,?_,?_,hold⟩
 rotate_left
 ·rcases hw with h' | ⟨id,h1,h2,h3,h4⟩
  ·exact .inl h'
  ·exact .inr ⟨id,h1,by omega,h3,h4⟩
 simp only [wtS,Qw,Qr,show ((0:Nat):Int)=0 from rfl] at hA
 clear h h33 hvh hw hold
 generalize hs.length=n at *
 rw [QE (fn:=oG) rfl]
 simp only [oG,Q0,quiet,cW,↓pW,reduceCtorEq,seval,-Qb,g0,h98,hl,hA,lF,ok1,ok3]
def ctS (p R c:Nat) (far wt i:Int) (G:List Ob) (ex:Env):St:=⟨[(8,.pointer (some ⟨p,0,none⟩)),(16,.slice (some ⟨R,0,none⟩) c c),(17,.int .i64 far),(23,.int .i64 wt),(24,.int .i64 i)]++ex,G,[]⟩
theorem FF {rd:Nat→Bool} (hf:G[R]?=some ⟨(QX c).map fun j=>Value.bool (rd j),true,true,true,1⟩) (hm:m≤c) (c12:c≤12) :
  Q8 T b (.block 4 (.loop Br)) (ctS p R c (m:Nat) 0 0 G [])=some (.normal,ctS p R c (m:Nat) ((((QX m).filter fun j => !rd j).length:Nat):Int) (m:Nat) G [(143,.bool false)]):=by
 have hb:=Xp (T:=T) (base:=b) (id:=4) (body:=Br) (fun k=>ctS p R c (m:Nat) ((((QX k).filter fun j => !rd j).length:Nat):Int) (k:Nat) G []) (s':=ctS p R c (m:Nat) ((((QX m).filter fun j => !rd j).length:Nat):Int) (m:Nat) G [(143,.bool false)]) m
  (fun k hk=>by
   have e1:((k:Int)<(m:Int))=True:=eq_true (by omega)
   have e2:((k:Int)<(c:Int))=True:=eq_true (by omega)
   have gx:((QX c).map fun j=>Value.bool (rd j))[k]?=some (.bool (rd k)):=by rw [Zq,Xm (by omega)]; rfl
   have w3:IntKind.i64.wrap ((k:Int)+1)=((k+1:Nat):Int):=Z0 (b:=1) (by omega)
   obtain ⟨q,hq⟩:∃ q,q=((QX k).filter fun j => !rd j).length:=⟨_,rfl⟩
   have hqk:q≤k:=by rw [hq]; exact ZT (D7 _ _) (by simp)
   have w4:IntKind.i64.wrap ((q:Int)+1)=((q+1:Nat):Int):=Z0 (b:=1) (by omega)
   rw [V8,VK,Qg,←hq]
   clear hq
   cases hr:rd k with
   | true =>
    rw [hr] at gx
    rw [show ([k].filter fun j => !rd j).length=0 by simp [hr],ZH]
    generalize ((QX c).map fun j=>Value.bool (rd j))=FB at *
    generalize k+1=k1 at *
    simp only [ctS,Br,Q0,quiet,cW,↓pW,reduceCtorEq,seval,-Qb,e1,e2,hf,gx,w3]
   | false =>
    rw [hr] at gx
    rw [show ([k].filter fun j => !rd j).length=1 by simp [hr]]
    generalize ((QX c).map fun j=>Value.bool (rd j))=FB at *
    generalize k+1=k1 at *
    generalize q+1=q1 at *
    simp only [ctS,Br,Q0,quiet,cW,↓pW,reduceCtorEq,seval,-Qb,e1,e2,hf,gx,w3,w4])
  (by
   have e1:((m:Int)<(m:Int))=False:=eq_false (by omega)
   generalize ((QX m).filter fun j => !rd j).length=q at *
   simp only [ctS,Br,Q0,quiet,cW,↓pW,reduceCtorEq,seval,-Qb,e1])
 exact hb
def lkS (R c:Nat) (far:Int) (v:Value) (n:Nat) (i:Int) (G:List Ob) (ex:Env):St:=⟨[(16,.slice (some ⟨R,0,none⟩) c c),(17,.int .i64 far),(167,v),(168,.int .i64 (n:Nat)),(169,.int .i64 i)]++ex,G,[]⟩
theorem Lf {rd:Nat→Bool} {ns:List Nat} (hf:G[R]?=some ⟨(QX c).map fun j=>Value.bool (rd j),true,true,true,1⟩) (hm:m≤c) (c12:c≤12) (hw:WS B G v ns) (hns:∀ x∈ns,x<m∧rd x=false) (ln:ns.length≤500) :
  Q8 T b (.block 6 (.loop Hx)) (lkS R c (m:Nat) v ns.length 0 G [])=some (.normal,lkS R c (m:Nat) v ns.length ns.length G [(170,.bool false)]):=by
 have hb:=Xp (T:=T) (base:=b) (id:=6) (body:=Hx) (fun k=>lkS R c (m:Nat) v ns.length (k:Nat) G []) (s':=lkS R c (m:Nat) v ns.length ns.length G [(170,.bool false)]) ns.length
  (fun k hk=>by
   obtain ⟨x,hx⟩:∃ x,ns[k]?=some x:=⟨_,Qh hk⟩
   obtain ⟨x1,x2⟩:=hns x (Qz hx)
   rcases hw with ⟨-,rfl⟩ | ⟨id,rfl,-,h3,-⟩
   ·simp at hk
   have e1:((k:Int)<(ns.length:Int))=True:=eq_true (by omega)
   have e2:((x:Int)<(c:Int))=True:=eq_true (by omega)
   have e3:((m:Int)≤(x:Int))=False:=eq_false (by omega)
   have gx:((QX c).map fun j=>Value.bool (rd j))[x]?=some (.bool false):=by rw [Zq,Xm (by omega),←x2]; rfl
   have gn:(ns32 ns)[k]?=some (.int .u32 (x:Nat)):=by rw [ns32,Zq,hx]; rfl
   have w3:IntKind.i64.wrap ((k:Int)+1)=((k+1:Nat):Int):=Z0 (b:=1) (by omega)
   have w4:IntKind.i64.wrap (x:Int)=(x:Nat):=wn (by omega)
   clear hns hx x2
   generalize ((QX c).map fun j=>Value.bool (rd j))=FB,ns32 ns=NL at *
   generalize ns.length=n at *
   generalize k+1=k1 at *
   simp only [lkS,Hx,Q0,quiet,cW,↓pW,reduceCtorEq,seval,-Qb,e1,e2,e3,hf,h3,gx,gn,w3,w4])
  (by
   have e1:((ns.length:Int)<(ns.length:Int))=False:=eq_false (by omega)
   generalize ns.length=n at *
   simp only [lkS,Hx,Q0,quiet,cW,↓pW,reduceCtorEq,seval,-Qb,e1])
 exact hb
theorem Am {P:Nat→Prop}:∀ n:Nat,(∀ j,j<n→P j)∨∃ r,r<n∧¬ P r∧∀ j,j<r→P j
 | 0=>.inl fun j hj=>absurd hj (Xr _)
 | n+1=>by
  rcases Am (P:=P) n with h | ⟨r,h1,h2,h3⟩
  ·by_cases hp:P n
   ·exact .inl fun j hj=>by
     rcases Zm j n with h' | h'
     ·exact h j h'
     ·rw [show j=n by omega]; exact hp
   ·exact .inr ⟨n,Ui n,hp,h⟩
  ·exact .inr ⟨r,by omega,h2,h3⟩
theorem nF (c:Nat):(Qc c [Value.bool false]).flatten=(QX c).map fun j=>Value.bool ((fun _=>false) j):=by
 induction c with
 | zero=>rfl
 | succ c ih=>rw [List.replicate_succ',Zr,ih,V8,JS]; rfl
theorem GW {l:List Nat} {n:Nat} {tx:Nat→List Nat} {Ls:Nat→Nat} {xs:List Int} (ll:l.length=96) (xl:∀ y∈l,y<256) (hl:vLen false pv=some (.int .i64 (n:Nat))) (hr:∀ j,j<n→ea H0 n pv j (Ls j) (tx j)) (hO:Sq H0 1 (xs.map (Value.int .i64)) xs.length ov) :
  ∃ H',Zd T 9 [.agg (u8s l).toArray,pv,ov] H0=some (.bool true,H',[]):=by
 have hmt:=fL
 have ok1:∀ L:List Value,(Value.agg L.toArray).cells.toList=L:=fun _=>rfl
 have ok2:∀ L:List Value,(Value.agg L.toArray).cells.size=L.length:=fun _=>rfl
 have ok3:∀ L:List Value,okVar (Value.agg L.toArray)=true:=fun _=>rfl
 have hol:vLen false ov=some (.int .i64 (xs.length:Nat)):=by obtain ⟨a,c,h⟩:=hO.shape; rw [h]; rfl
 by_cases h12:12<n
 ·have e1:((12:Int)<(n:Int))=True:=eq_true (by omega)
  apply ZQ
  rw [QE (fn:=C4) rfl]
  simp only [C4,Q0,quiet,cW,↓pW,reduceCtorEq,seval,-Qb,hmt,hl,e1,ok1,ok2,ok3]
  rfl
 have e1:((12:Int)<(n:Int))=False:=eq_false (by omega)
 by_cases h30:30<xs.length
 ·have e2:((30:Int)<(xs.length:Int))=True:=eq_true (by omega)
  apply ZQ
  rw [QE (fn:=C4) rfl]
  simp only [C4,Q0,quiet,cW,↓pW,reduceCtorEq,seval,-Qb,hmt,hl,e1,hol,e2,ok1,ok2,ok3]
  rfl
 have e2:((30:Int)<(xs.length:Int))=False:=eq_false (by omega)
 obtain ⟨nm,hnm⟩:∃ x,x=l.take 32:=⟨_,rfl⟩
 obtain ⟨key,hkey⟩:∃ x,x=(l.drop 32).take 32:=⟨_,rfl⟩
 obtain ⟨sg,hsg⟩:∃ x,x=(l.drop 64).take 32:=⟨_,rfl⟩
 have hn:B32 nm:=⟨by rw [hnm,Q7,ll]; rfl,fun y hy=>xl y (by rw [hnm] at hy; exact QP hy)⟩
 have hk:B32 key:=⟨by rw [hkey,Q7,QC,ll]; rfl,fun y hy=>xl y (by rw [hkey] at hy; exact Zz (QP hy))⟩
 have hs:B32 sg:=⟨by rw [hsg,Q7,QC,ll]; rfl,fun y hy=>xl y (by rw [hsg] at hy; exact Zz (QP hy))⟩
 have t0:Q2 32 (u8s l)=u8s nm:=by rw [hnm,Vq]
 have t1:Q2 32 (Zw 32 (u8s l))=u8s key:=by rw [hkey,Uq,Vq]
 have t2:Q2 32 (Zw 64 (u8s l))=u8s sg:=by rw [hsg,Uq,Vq]
 have hst:ZB T 28 [.agg (u8s nm).toArray,.int .u32 7,.agg (u8s key).toArray,.agg (u8s sg).toArray]=_:=LZ (e:=7) hn.len hk.len hs.len
 have n0:=JK (e:=7) (m:=0) (tl:=u8s sg) hn.len hk.len
 rw [Qp,hs.len] at n0
 have lpu:=Ym sg
 obtain ⟨S,hS⟩:∃ X,X=plc nm 7 0 key (u8s sg):=⟨_,rfl⟩
 rw [←hS] at n0 hst
 obtain ⟨G0,hG0⟩:∃ X,X=H0++[(⟨u8s l,true,true,true,1⟩:Ob),⟨S,true,true,true,1⟩]:=⟨_,rfl⟩
 have lG0:G0.length=H0.length+2:=by rw [hG0]; simp
 have gS0:G0[H0.length+1]?=some ⟨S,true,true,true,1⟩:=by rw [hG0,Qd (by omega),Qs]; rfl
 have hsh:=CU (H:=G0) (e:=7) (m:=0) hn.len hk.len hs
 rw [←hS] at hsh
 have F:=SF (H:=G0) (nm:=nm) (key:=key) (sg:=sg) (pub:=pubL sg) (e:=7) (m:=0) hn.len hk.len lpu
 obtain ⟨P1,hP1⟩:∃ G,G=G0++CT nm key sg (pubL sg) 7 0 G0.length:=⟨_,rfl⟩
 rw [←hP1] at hsh F
 obtain ⟨k1,hfo⟩:=Ak F
 obtain ⟨W,hW⟩:∃ X,X=fol nm 7 0 key (pubL sg) (.slice none 0 0):=⟨_,rfl⟩
 rw [show plc nm 7 0 key (u8s (pubL sg)++[.slice none 0 0])=fol nm 7 0 key (pubL sg) (.slice none 0 0) from rfl,←hW] at hfo
 have w0:=Kf (e:=7) (m:=0) (hv := .slice none 0 0) hn.len hk.len lpu
 rw [←hW] at w0
 obtain ⟨P2,hP2⟩:∃ G,G=P1++k1:=⟨_,rfl⟩
 rw [←hP2] at hfo
 have lP2:G0.length≤P2.length:=by rw [hP2,hP1,Qv,Qg]; omega
 have oP2:∀ j,j<G0.length→P2[j]?=G0[j]? := fun j hj=>by rw [hP2,hP1,Qv,Qa hj]
 obtain ⟨Q,hQ⟩:∃ G,G=P2++[(⟨W,true,true,true,1⟩:Ob)]:=⟨_,rfl⟩
 have J0:OnInv nm key sg tx H0 P2.length W Q (.slice none 0 0) [] 0:=⟨.inl ⟨rfl,rfl,rfl⟩,rfl,by rw [hQ,Qa (by omega),oP2 _ (by omega),gS0,hS]; rfl,by rw [hQ,Qd (Qk _),Qq]; rfl,fun j x hx=>by simp at hx,fun j hj=>by rw [hQ,Qa (by omega),oP2 _ (by omega),hG0,Qa hj],by rw [hQ]; simp⟩
 have lzs:KD.length=98:=rfl
 have lzo:Xn.length=99:=rfl
 have s1:splice KD 0 S=S:=QO (by rw [n0,lzs])
 have s2:splice Xn 0 W=W:=QO (by rw [w0,lzo])
 have tS:Q2 98 S=S:=Q6 n0
 have tW:Q2 99 W=W:=Q6 w0
 have im1:∀ j,Qy H0.length [] [H0.length+j]=[]:=fun j=>QD (by simp)
 have im3:Qy H0.length [] [P2.length]=[]:=QD (by simp; omega)
 have q1:(H0++[(⟨u8s l,true,true,true,1⟩:Ob)])[H0.length]?=some ⟨u8s l,true,true,true,1⟩:=by rw [Qd (Qk _),Qq]; rfl
 have a2:∀ o1 o2 o:Ob,(H0++[o1,o2]).set (H0.length+1) o=H0++[o1,o]:=fun _ _ _=>by rw [Q3 _ _ (by omega),Qs]; rfl
 have a3:∀ o o':Ob,(P2++[o]).set P2.length o'=P2++[o']:=fun _ _=>by rw [Q3 _ _ (Qk _),Qq]; rfl
 have h0:=hG0.symm
 have h1:=hQ.symm
 have rS:rf (.agg S.toArray)=true:=by rw [hS]; exact ae
 have lnm:=hn.len
 have lke:=hk.len
 have lsg:=hs.len
 rcases Am (P:=fun j=>Ls j≤100) n with hall | ⟨r,hrn,hbad,hbef⟩
 rotate_left
 ·
  obtain ⟨st,hA,G,rfl⟩:=GB (T:=T) (base:=H0.length) (body:=VU) (x := .ret) (by simp)
   (I:=fun i st=>∃ fv G ms,st=onS pv ov fv H0.length P2.length n i G []∧OnInv nm key sg tx H0 P2.length W G fv ms i) (Q:=fun st=>∃ G,st=⟨[(6,.bool true)],G,[]⟩) r
   (fun j st hj hs'=>by
    obtain ⟨fv,G,ms,rfl,hI⟩:=hs'
    obtain ⟨fv',G',ms',h1,h2⟩:=Nt hn hk hs (by omega) (hr j (by omega)) (by omega) (by omega) (hbef j hj) hI
    exact ⟨_,h1,fv',G',ms',rfl,h2⟩)
   (fun st hs'=>by
    obtain ⟨fv,G,ms,rfl,hI⟩:=hs'
    exact ⟨_,gJ (hr r hrn) hrn (by omega) (by omega) hI,G,rfl⟩) r 0 (by omega) (onS pv ov (.slice none 0 0) H0.length P2.length n ((0:Nat):Int) Q []) ⟨_,_,_,rfl,J0⟩
  have hB:Q8 T H0.length (.block 0 (.loop VU)) (onS pv ov (.slice none 0 0) H0.length P2.length n ((0:Nat):Int) Q [])=some (.ret,⟨[(6,.bool true)],G,[]⟩):=by rw [Jr,hA]; rfl
  simp only [onS,Qw,Qr,show ((0:Nat):Int)=0 from rfl] at hB
  clear J0 F hG0 hQ hP1 hP2 hO hn hk hs hS hW xl hnm hkey hsg hr hA hbad hbef
  apply ZQ
  rw [QE (fn:=C4) rfl]
  simp only [C4,Q0,quiet,cW,↓pW,reduceCtorEq,seval,-Qb,hmt,hl,hol,e1,e2,t0,t1,t2,hst,n0,s1,s2,lzs,lzo,q1,a2,h0,gS0,tS,hsh,hfo,a3,tW,w0,h1,hB,im1,im3,ll,lnm,lke,lsg,rS,Qp,ok1,ok2,ok3,Q6,QY,Zf,ZY,Zg,Ja]
  rfl
 obtain ⟨st,hA,fv,G2,ms,rfl,J1⟩:=Zc (T:=T) (base:=H0.length) (id:=0) (body:=VU)
  (fun i st=>∃ fv G ms,st=onS pv ov fv H0.length P2.length n i G []∧OnInv nm key sg tx H0 P2.length W G fv ms i) (Q:=fun st=>∃ fv G ms,st=onS pv ov fv H0.length P2.length n n G [(56,.bool false)]∧OnInv nm key sg tx H0 P2.length W G fv ms n)
  n (s:=onS pv ov (.slice none 0 0) H0.length P2.length n ((0:Nat):Int) Q []) ⟨_,_,_,rfl,J0⟩
  (fun j st hj hs'=>by
   obtain ⟨fv,G,ms,rfl,hI⟩:=hs'
   obtain ⟨fv',G',ms',h1,h2⟩:=Nt hn hk hs (by omega) (hr j hj) hj (by omega) (hall j hj) hI
   exact ⟨_,h1,fv',G',ms',rfl,h2⟩)
  (fun st hs'=>by
   obtain ⟨fv,G,ms,rfl,hI⟩:=hs'
   have e1:((n:Int)<(n:Int))=False:=eq_false (by omega)
   refine ⟨_,?_,fv,G,ms,rfl,hI⟩
   simp only [onS,VU,Q0,quiet,cW,↓pW,reduceCtorEq,seval,-Qb,e1])
 have lg:=J1.lg
 obtain ⟨FB,hFB⟩:∃ X,X=(QX n).map fun j=>Value.bool ((fun _=>false) j):=⟨_,rfl⟩
 have B0:B2Inv nm key sg P2.length n G2 (G2++[⟨FB,true,true,true,1⟩]) (fun _=>false) 0 (.slice none 0 0):=⟨fun j hj _=>Qa hj,by simp,by rw [Qa (by omega),J1.fw,hW]; rfl,by rw [Qd (Qk _),Qq,hFB]; rfl,.inl ⟨rfl,rfl⟩,fun _ _=>rfl,VM _⟩
 obtain ⟨st,hB,G3,rd,m,hv,rfl,B3⟩:=Zc (T:=T) (base:=H0.length) (id:=2) (body:=YM)
  (fun i st=>∃ G rd m hv,st=ooS pv ov fv P2.length G2.length n xs.length (m:Nat) i G []∧B2Inv nm key sg P2.length n G2 G rd m hv) (Q:=fun st=>∃ G rd m hv,st=ooS pv ov fv P2.length G2.length n xs.length (m:Nat) xs.length G [(83,.bool false)]∧B2Inv nm key sg P2.length n G2 G rd m hv)
  xs.length (s:=ooS pv ov fv P2.length G2.length n xs.length ((0:Nat):Int) ((0:Nat):Int) (G2++[⟨FB,true,true,true,1⟩]) []) ⟨_,_,0,_,rfl,B0⟩
  (fun i st hi hs'=>by
   obtain ⟨G,rd,m,hv,rfl,hb⟩:=hs'
   obtain ⟨G',rd',m',hv',h1,h2⟩:=gI hn hk hs (by omega) (by omega) hr hall J1 hO hi (by omega) hb
   exact ⟨_,h1,G',rd',m',hv',rfl,h2⟩)
  (fun st hs'=>by
   obtain ⟨G,rd,m,hv,rfl,hb⟩:=hs'
   have e1:((xs.length:Int)<(xs.length:Int))=False:=eq_false (by omega)
   refine ⟨_,?_,G,rd,m,hv,rfl,hb⟩
   generalize xs.length=k at *
   simp only [ooS,YM,Q0,quiet,cW,↓pW,reduceCtorEq,seval,-Qb,e1])
 have hmc:=B3.mc
 have hC:=FF (b:=H0.length) (p:=P2.length) B3.fl hmc (by omega)
 have hkm:=YV (nm:=nm) hk m
 have w3:=Kf (e:=7) (m:=m) (hv:=hv) hn.len hkm.len lpu
 have h98:=Vw (e:=7) (m:=m) (hv:=hv) hn.len hkm.len lpu
 have n33:(fol nm 7 m (keyN nm key m) (pubL sg) hv)[33]?=some (.int .u32 m):=Kp hn.len
 obtain ⟨vw,H4,hwt,hws,ho4⟩:=er (H:=G3) w3 h98 B3.hh (Fa nm key rd m) (by have:=Ag nm key rd m; omega)
 have hns:(heldL nm key rd m).map (·.1)=(QX m).filter fun j => !rd j:=by rw [heldL,Vy]; exact List.map_id _
 rw [hns] at hws
 obtain ⟨ns,hnn⟩:∃ x,x=(QX m).filter fun j => !rd j:=⟨_,rfl⟩
 rw [←hnn] at hws hC
 have hnl:ns.length≤m:=by rw [hnn]; exact ZT (D7 _ _) (by simp)
 have hD:=Lf (b:=H0.length) (v:=vw) (ns:=ns) (m:=m) (by rw [ho4 _ (Qf.1 B3.fl).1]; exact B3.fl) hmc (by omega) hws (fun x hx=>by
  rw [hnn] at hx
  obtain ⟨h1,h2⟩:=KW.1 hx
  exact ⟨Kd.1 h1,by simpa using h2⟩) (by omega)
 have lvw:vLen false vw=some (.int .i64 (ns.length:Nat)):=by
  rcases hws with ⟨h1,h2⟩ | ⟨_,h1,-⟩
  ·rw [h1,h2]; rfl
  ·rw [h1]; rfl
 have gw:=B3.fb
 have gw4:=(ho4 _ (Qf.1 B3.fb).1).trans gw
 have lfv:vLen false fv=some (.int .i64 (n:Nat)):=by
  rcases J1.fr with ⟨h0,rfl,-⟩ | ⟨_,rfl,-⟩
  ·rw [h0]; rfl
  ·rfl
 have t3:=Q6 w3
 have wm:IntKind.u32.wrap (m:Int)=(m:Nat):=BS (by omega)
 have hfl:=nF n
 rw [←hFB] at hfl
 have e3:((n:Int)*1≤140737488355328)=True:=eq_true (by omega)
 simp only [onS,Qw,Qr,show ((0:Nat):Int)=0 from rfl] at hA
 simp only [ooS,Qw,Qr,show ((0:Nat):Int)=0 from rfl] at hB
 simp only [ctS,Qw,Qr] at hC
 simp only [lkS,Qw,Qr] at hD
 clear J0 J1 B0 B3 F hG0 hQ hP1 hP2 hO hn hk hs hkm hS hW xl hnm hkey hsg hr hall hws hns hnn hFB ho4
 generalize fol nm 7 m (keyN nm key m) (pubL sg) hv=FW at *
 apply ZQ
 rw [QE (fn:=C4) rfl]
 simp only [C4,Q0,quiet,cW,↓pW,reduceCtorEq,seval,-Qb,hmt,hl,hol,e1,e2,e3,t0,t1,t2,hst,n0,s1,s2,lzs,lzo,q1,a2,h0,gS0,tS,hsh,hfo,a3,tW,w0,h1,hA,lfv,hfl,Int.toNat_natCast,hB,hC,gw,t3,w3,hwt,lvw,gw4,n33,wm,hD,im1,im3,ll,lnm,lke,lsg,rS,Qp,ok1,ok2,ok3,Q6,QY,Zf,ZY,Zg,Ja]
 rfl
end Go.Ev.YtomfgcgnepfmjaaGreat
namespace Go.Ev.YtomfgcgnepfmjaaGreat
open Go Go.Ev
attribute [local congr] Jq Jz Jp J2 Jb
set_option maxRecDepth 100000
structure EnInv (nm key0 sg:List Nat) (H0:List Ob) (p:Nat) (W:List Value) (G:List Ob) (fv:Value) (ms:List (Nat×Nat×Nat×Value)) (i:Nat):Prop where
 fr:Frs (p+2) G fv i (ms.map mcell).flatten
 lm:ms.length=i
 sd:G[H0.length+1]?=some ⟨plc nm 1 i (keyN nm key0 i) (u8s sg),true,true,true,1⟩
 fa:G[p]?=some ⟨fol nm 1 i (keyN nm key0 i) (pubL sg) (.slice none 0 0),true,true,true,1⟩
 fb:G[p+1]?=some ⟨W,true,true,true,1⟩
 mg:∀ j x,ms[j]?=some x→Msg (p+2) G x.1 x.2.1 x.2.2.1 x.2.2.2 nm 1 j (msgS nm (keyN nm key0 j) sg [j] 1 j) (msgD nm (keyN nm key0 j) [j] 1 j)
 lo:∀ j,j<H0.length→G[j]?=H0[j]?
 lg:p+2≤G.length
structure BInv (nm key0 sg:List Nat) (p c:Nat) (G2 G:List Ob) (rd:Nat→Bool) (m:Nat) (hv:Value):Prop where
 ag:∀ j,j<G2.length→j≠p+1→G[j]?=G2[j]?
 le:G2.length≤G.length
 fb:G[p+1]?=some ⟨fol nm 1 m (keyN nm key0 m) (pubL sg) hv,true,true,true,1⟩
 hh:HS False (p+2) G hv (heldL nm key0 rd m)
 rz:∀ j,m≤j→rd j=false
 mc:m≤c
end Go.Ev.YtomfgcgnepfmjaaGreat
namespace Go.Ev.YtomfgcgnepfmjaaGreat
open Go Go.Ev
set_option maxRecDepth 100000
theorem chunk {es:Nat}:∀ (n:Nat) (q:List Nat),q.length=n*es→∃ kl:List (List Nat),kl.flatten=q∧kl.length=n∧∀ x∈kl,x.length=es
 | 0,q,h=>⟨[],by rw [Ks] at h; exact (Za h).symm,rfl,by simp⟩
 | n+1,q,h=>by
  rw [VX] at h
  obtain ⟨kl,k1,k2,k3⟩:=chunk (es:=es) n (q.drop es) (by rw [QC]; omega)
  refine ⟨q.take es::kl,by rw [QK,k1,ZV],by rw [Zn,k2],fun x hx => ?_⟩
  rcases J6.1 hx with rfl | hx
  ·rw [Q7]; omega
  ·exact k3 x hx
def C5 (w:World) (es:Nat) (v:Value) (Q:Value→Prop):Prop:=v=.slice none 0 0∨∃ a len cap l,v=.slice (some a) len cap∧LiesC w a len cap es l∧∀ v∈l,Q v
theorem TV {w:World} {es:Nat} {v:Value} {Q:Value→Prop} (h0:0<es) (h:C5 w es v Q):∃ (pl:Option Place) (n:Nat) (l:List Value),(∀ p,pl=some p→p.block<w.heap.size∧∀ ρ,ObjRel ρ w p (obC l))∧(∀ v∈l,Q v)∧l.length=n*es ∧
  ∀ id,∃ v',oneCellB v'=true∧(∀ ρ:Pl,ρ id=pl→VRel ρ v' v)∧∀ H:List Ob,H[id]?=some (obC l)→Sq H es l n v':=by
 rcases h with rfl | ⟨a,len,cap,l,rfl,h1,h2⟩
 ·exact ⟨none,0,[],fun p hp=>(by cases hp),by simp,by simp,fun id=>⟨.slice none 0 0,rfl,fun ρ _=>.same rfl,fun H _=>.inl ⟨rfl,rfl,rfl⟩⟩⟩
 ·obtain ⟨pl,p1,p2,p3⟩:=EV h1 h0
  exact ⟨some pl,len,l,fun p hp=>(by cases hp; exact ⟨p1,p2⟩),h2,h1.len,fun id=>⟨_,rfl,fun ρ hρ=>p3 ρ id hρ,fun H hH=>.inr ⟨id,len,_,_,_,rfl,hH,h1.len⟩⟩⟩
end Go.Ev.YtomfgcgnepfmjaaGreat
namespace Go.Ev
open Go
theorem FO {P:Program} {H:Type} {enc:TypeId×Value→H} {w:World} {e:TypeId} {k:IntKind} (he:P.underlying e=some (.int k)):ee enc P w e 1 (fun v=>∃ x:Int,v=.int k x):=by
 intro fuel cs x h
 obtain ⟨m,rfl,_,hw⟩:=DataW.trod_int he h
 exact ⟨rfl,fun v hv=>⟨m,Zk.1 hv⟩⟩
end Go.Ev
namespace Go.Ev.YtomfgcgnepfmjaaGreat
open Go Go.Ev
theorem MT {k:IntKind}:∀ {l:List Value},(∀ v∈l,∃ x:Int,v=.int k x)→∃ q:List Int,l=q.map (Value.int k)
 | [],_=>⟨[],rfl⟩
 | v::l,h=>by
  obtain ⟨x,rfl⟩:=h v (by simp)
  obtain ⟨q,rfl⟩:=MT (l:=l) fun v hv=>h v (Kx _ hv)
  exact ⟨x::q,rfl⟩
theorem Lm {w:World} {v:Value} (h:C5 w 1 v fun v=>∃ x:Int,v=.int .i64 x):∃ (H0:List Ob) (ρ:Pl) (v':Value) (xs:List Int),Sq H0 1 (xs.map (Value.int .i64)) xs.length v'∧RelF ρ (hp H0) w∧(∀ id,H0.length≤id→ρ id=none)∧(∀ (i:Nat) (o:Ob),H0[i]?=some o→o.own=false)∧VRel ρ v' v:=by
 obtain ⟨p0,n0,l0,a1,a2,a3,a4⟩:=TV (by decide) h
 obtain ⟨v0,a5,a6,a7⟩:=a4 0
 obtain ⟨q0,rfl⟩:=MT a2
 rw [JF,XK] at a3
 subst a3
 refine ⟨[obC (q0.map (Value.int .i64))],fun id=>if id<1 then (match id with | 0=>p0 | _=>none) else none,v0,q0,a7 _ rfl,?_,fun id hid => ?_,fun i o ho => ?_,a6 _ rfl⟩
 ·refine fE (obs:=[obC (q0.map (Value.int .i64))]) (g:=fun id=>match id with | 0=>p0 | _=>none) (fun i o ho => ?_) (fun i o p ho hp => ?_)
  ·rcases i with _ | i<;>first | (cases ho; rfl) | cases ho
  ·rcases i with _ | i
   ·cases ho; exact a1 p hp
   ·cases ho
 ·have:¬ id<1:=by have h':1≤id:=hid; omega
  simp only [if_neg this]
 ·rcases i with _ | i<;>first | (cases ho; rfl) | cases ho
end Go.Ev.YtomfgcgnepfmjaaGreat
namespace Go.Ev.YtomfgcgnepfmjaaGreat
open Go Go.Ev
set_option maxRecDepth 100000
variable {ρ:Pl} {w:World}
theorem SY {len:Nat} {A:Nat→Option Addr} {L:Nat→Nat} {B:Nat→List Nat} {X:List Ob} (h0:∀ r,r<len→A r=none→L r=0) (hl:∀ r,r<len→(B r).length=L r) (hx:∀ r,r<len→∀ x∈B r,x<256) {i:Nat} (hi:i<len) :
  ea (Yl len A L B++X) len (.slice (some ⟨0,0,none⟩) len len) i (L i) (B i):=by
 have hlen:(Yl len A L B).length=len+1:=by simp [Yl]
 have hH:(Yl len A L B++X)[0]?=some ⟨(QX len).map (MY A L),true,false,false,1⟩:=rfl
 refine ⟨_,MY A L i,rfl,hH,rfl,by simp [hi],?_,fun hL=>⟨?_,hl i hi⟩⟩
 ·unfold MY
  cases hA:A i with
  | none=>rw [h0 i hi hA]; rfl
  | some a=>rfl
 ·unfold MY
  cases hA:A i with
  | none =>
   have:B i=[]:=Za (by rw [hl i hi,h0 i hi hA])
   rw [this]
   exact ⟨⟨_,_,rfl⟩,fun _ _=>rfl,by simp,by decide⟩
  | some a =>
   have hg:(Yl len A L B++X)[i+1]?=some (ob8 (B i)):=by rw [Qa (by omega)]; exact TJ hi
   have hp:=HPart.whole (n:=(Yl len A L B++X).length) (c:=L i) (by rw [Qg]; omega) hg (hx i hi) (by rw [hl i hi]; omega)
   rwa [hl i hi] at hp
theorem ay {H:List Ob} {o:Ob} {p0:Option Place} (h:RelF ρ (hp H) w) (hf:∀ id,H.length≤id→ρ id=none) (hH:∀ (i:Nat) (o:Ob),H[i]?=some o→o.own=false) (ho:o.own=false) (h0:∀ p,p0=some p→p.block<w.heap.size∧∀ ρ,ObjRel ρ w p o) :
  ∃ ρ':Pl,PlLe ρ ρ'∧ρ' H.length=p0∧RelF ρ' (hp (H++[o])) w∧(∀ id,(H++[o]).length≤id→ρ' id=none)∧∀ (i:Nat) (o':Ob),(H++[o])[i]?=some o'→o'.own=false:=by
 have hle:PlLe ρ fun id=>if id=H.length then p0 else ρ id:=fun id pl hpl=>by
  have:id≠H.length:=fun e=>by rw [e,hf _ (Qk _)] at hpl; cases hpl
  simp only [if_neg this]; exact hpl
 have hown:∀ (i:Nat) (o':Ob),(H++[o])[i]?=some o'→o'.own=false:=fun i o' hi=>by
  rcases Zm i H.length with h' | h'
  ·rw [Qa h'] at hi; exact hH i o' hi
  ·have h2:=(Qf.1 hi).1
   rw [Qg] at h2
   rw [Qd h',show i-H.length=0 by have:[o].length=1:=rfl; omega] at hi
   cases hi
   exact ho
 refine ⟨_,hle,if_pos rfl,⟨fun id p hpl => ?_,fun id ob p hc hpl hl => ?_,fun i j oi oj pi pj hi hj hpi hpj hl ho' hlj hne => ?_⟩,fun id hid => ?_,hown⟩
 ·by_cases he:id=H.length
  ·simp only [if_pos he] at hpl; exact (h0 p hpl).1
  ·simp only [if_neg he] at hpl; exact h.bound id p hpl
 ·by_cases he:id=H.length
  ·simp only [if_pos he] at hpl
   have hc':(H++[o])[id]?=some ob:=hc
   rw [he,Qd (Qk _),Qq] at hc'
   cases hc'
   exact (h0 p hpl).2 _
  ·simp only [if_neg he] at hpl
   have hlt:id<H.length:=by
    rcases Zm id H.length with h' | h'
    ·exact h'
    ·rw [hf id h'] at hpl; cases hpl
   have hc':(H++[o])[id]?=some ob:=hc
   rw [Qa hlt] at hc'
   exact (h.obj id ob p hc' hpl hl).same_block hle rfl
 ·have:=hown i oi hi
  rw [ho'] at this
  cases this
 ·rw [Qg] at hid
  have h2:[o].length=1:=rfl
  simp only [if_neg (show ¬ id=H.length by omega)]
  exact hf id (by omega)
theorem Pb {H:List Ob} {v:Value} (h:RelF ρ (hp H) w) (hf:∀ id,H.length≤id→ρ id=none) (hH:∀ (i:Nat) (o:Ob),H[i]?=some o→o.own=false) (hv:C5 w 1 v fun v=>∃ x:Int,v=.int .i64 x) :
  ∃ (ρ':Pl) (X:List Ob) (v':Value) (xs:List Int),PlLe ρ ρ'∧Sq (H++X) 1 (xs.map (Value.int .i64)) xs.length v'∧RelF ρ' (hp (H++X)) w∧(∀ id,(H++X).length≤id→ρ' id=none)∧(∀ (i:Nat) (o:Ob),(H++X)[i]?=some o→o.own=false)∧VRel ρ' v' v:=by
 obtain ⟨p0,n0,l0,a1,a2,a3,a4⟩:=TV (by decide) hv
 obtain ⟨v0,a5,a6,a7⟩:=a4 H.length
 obtain ⟨q0,rfl⟩:=MT a2
 rw [JF,XK] at a3
 subst a3
 obtain ⟨ρ',k1,k2,k3,k4,k5⟩:=ay (o:=obC (q0.map (Value.int .i64))) h hf hH rfl a1
 exact ⟨ρ',_,v0,q0,k1,a7 _ (by rw [Qd (Qk _),Qq]; rfl),k3,k4,k5,a6 ρ' k2⟩
end Go.Ev.YtomfgcgnepfmjaaGreat

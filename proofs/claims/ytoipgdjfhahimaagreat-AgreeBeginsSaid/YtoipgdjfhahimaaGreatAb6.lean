/- What the law leans on, part 6. -/
import Derived.Test.YtoipgdjfhahimaaGreatAb5
set_option linter.unusedSimpArgs false
set_option linter.unusedVariables false
open List renaming append_assoc -> Qt, append_nil -> QG, cons_append -> Qn, drop -> J2, flatten_cons -> QO, getElem?_append_left -> Qc, getElem?_append_right -> Qh, getElem?_eq_getElem -> Qf, getElem?_eq_some_iff -> Qg, getElem?_map -> JB, getElem?_set_ne -> Qu, getElem?_set_self -> Qw, length_append -> Qj, length_drop -> QN, length_replicate -> Qe, length_take -> Q3, mem_append -> QC, mem_map -> Xo, mem_of_getElem? -> Qo, mem_of_mem_drop -> ZF, mem_of_mem_take -> QP, nil_append -> Ql, reduceReplicate -> Qb, replicate -> Qa, take -> Zi, take_append_drop -> Zn, take_of_length_le -> Qm
open Nat renaming le_refl -> Qs, mod_eq_of_lt -> Qv, mod_mod -> Kl, sub_self -> Q7, succ_mul -> uN
namespace Go.Ev.YtoipgdjfhahimaaGreat
open Go Go.Ev
attribute [local congr] JE JW JD JX Jz
set_option maxRecDepth 100000
variable{oid tid s s2 i c1 c2 j k B n:Nat}{w e w2 e2:Bool}{L:List (List Nat)}{p g F o a b:List Nat}{G H:List Ob}{c:Int}
theorem TK(n:Nat):∀y∈kE n,y<256:=Yw
theorem KG(n:Nat):(kE n).length=32:=Zg _ _ _
theorem kE5:K5 (kE 1++kE 2) (kE 3++kE 4) (kE 9) (kE 5) (kE 6) :=
 have h1:=KA (KG 1) (TK 1) (KG 2) (TK 2)
 have h2:=KA (KG 3) (TK 3) (KG 4) (TK 4)
 ⟨h1.1,h1.2,h2.1,h2.2,KG 9,TK 9,KG 5,TK 5,KG 6,TK 6⟩
theorem nK:¬kE 6=zK:=ww
theorem seE:Xr (prB (kE 1++kE 2) (kE 9) (pbL (kE 3++kE 4)) (Z0 (kE 5) Zs) (KZ (kE 6)))≠zK:=by
 have e:=GV (KG 6) (TK 6)
 have s1:=(Xg (KG 1) (kE 2)).2
 have s2:=(Xg (KG 3) (kE 4)).2
 rw[prB,Ue,s1,s2,if_neg (fun h=>nK (e.1 h)),show KZ (kE 6)=Z0 (kE 6) Zs from if_neg nK]
 exact togE
theorem sL:evVal T 6 []=some (.bool true):=by
 have K:=kE5
 have hz:Qa 32 (Value.int .u8 0)=u8s zK:=rfl
 have hz64:=KO
 have lz64:(Qa 64 0).length=64:=Qe
 have fz:fillL (u8s zK) []=some (u8s zK):=rfl
 have lz:=Yk
 have f1:fillL (u8s zK) [(0,1,.int .u8 1)]=some (u8s (kE 1)):=rfl
 have f2:fillL (u8s zK) [(0,1,.int .u8 2)]=some (u8s (kE 2)):=rfl
 have f3:fillL (u8s zK) [(0,1,.int .u8 3)]=some (u8s (kE 3)):=rfl
 have f4:fillL (u8s zK) [(0,1,.int .u8 4)]=some (u8s (kE 4)):=rfl
 have f5:fillL (u8s zK) [(0,1,.int .u8 5)]=some (u8s (kE 5)):=rfl
 have f6:fillL (u8s zK) [(0,1,.int .u8 6)]=some (u8s (kE 6)):=rfl
 have f9:fillL (u8s zK) [(0,1,.int .u8 9)]=some (u8s (kE 9)):=rfl
 have q1:=XF (KG 1) (KG 2)
 have q2:=XF (KG 3) (KG 4)
 have l1:=KG 1
 have l2:=KG 2
 have l3:=KG 3
 have l4:=KG 4
 have l5:=KG 5
 have l6:=KG 6
 have l9:=KG 9
 have lA:=K.lA
 have lB:=K.lB
 have hoff:evVal T 21 [.agg (u8s (kE 3++kE 4)).toArray,.agg (u8s (kE 5)).toArray,.agg (u8s (kE 6)).toArray,.int .u32 7,.int .u32 8]=_:=sw (pid:=7) (oid:=8) K.lB K.xB K.lp K.xp K.lo K.xo
 have hbeg:=en K 7 8
 have hacc:=SN K
 have hper:=M9 K.lA K.xA
 have hpub:=HS K.lF K.xF
 have hchk:=Ip (kE 3++kE 4) (kE 5) (kE 6) 7 8
 have lO:(Ba (kE 3++kE 4) (kE 5) (kE 6) 7 8).length=194:=Xl (HP _ _ _ _)
 have nz:Vg.length=194:=rfl
 have tw:Zi 194 (Ba (kE 3++kE 4) (kE 5) (kE 6) 7 8)=Ba (kE 3++kE 4) (kE 5) (kE 6) 7 8:=Qm (by rw[lO];decide)
 have sO:splice Vg 0 (Ba (kE 3++kE 4) (kE 5) (kE 6) 7 8)=Ba (kE 3++kE 4) (kE 5) (kE 6) 7 8:=QH (by rw[lO,nz])
 have rfo:rf (.agg (Ba (kE 3++kE 4) (kE 5) (kE 6) 7 8).toArray)=true:=U9 _ _ _ _ _ _
 have o7:(Ba (kE 3++kE 4) (kE 5) (kE 6) 7 8)[128]?=some (.int .u32 7):=(B4 (HP _ _ _ _)).1
 have o8:(Ba (kE 3++kE 4) (kE 5) (kE 6) 7 8)[129]?=some (.int .u32 8):=by
  have:=(B4 (i:=7) (j:=UB (kE 6) 8) (HP (kE 3++kE 4) (kE 5) (kE 6) 7)).2
  rwa[show UB (kE 6) 8=8 from if_neg nK]at this
 have lS:=qI (kE 1++kE 2) (kE 3++kE 4) (kE 9) (kE 5) (kE 6)
 have tS:Zi 32 (u8s (seL (kE 1++kE 2) (kE 3++kE 4) (kE 9) (kE 5) (kE 6)))=u8s (Xr (prB (kE 1++kE 2) (kE 9) (pbL (kE 3++kE 4)) (Z0 (kE 5) Zs) (KZ (kE 6)))):=by
  rw[VF,seL,(Xg (Mq _) _).1]
 have hq:=Bo (k:=Xr (prB (kE 1++kE 2) (kE 9) (pbL (kE 3++kE 4)) (Z0 (kE 5) Zs) (KZ (kE 6)))) (l:=zK) (Mq _) rfl
 rw[show(!(Xr (prB (kE 1++kE 2) (kE 9) (pbL (kE 3++kE 4)) (Z0 (kE 5) Zs) (KZ (kE 6)))==zK))=true by simpa using seE]at hq
 have hS:=di lS lS
 rw[beq_self_eq_true]at hS
 have lT:=Mq (prB (kE 1++kE 2) (kE 9) (pbL (kE 3++kE 4)) (Z0 (kE 5) Zs) (KZ (kE 6)))
 have spS:=QH (cs:=u8s (Qa 64 0)) (v:=u8s (seL (kE 1++kE 2) (kE 3++kE 4) (kE 9) (kE 5) (kE 6))) (by rw[Qq,Qq,lz64,lS])
 have spA:=QH (cs:=u8s (Qa 64 0)) (v:=u8s (kE 1++kE 2)) (by rw[Qq,Qq,lz64,lA])
 have spB:=QH (cs:=u8s (Qa 64 0)) (v:=u8s (kE 3++kE 4)) (by rw[Qq,Qq,lz64,lB])
 have ok1:∀L:List Value,(Value.agg L.toArray).cells.toList=L:=fun _=>rfl
 have ok2:∀L:List Value,(Value.agg L.toArray).cells.size=L.length:=fun _=>rfl
 have ok3:∀L:List Value,Z7 (Value.agg L.toArray)=true:=fun _=>rfl
 have rt:∀r:List Nat,rf (Value.tuple #[.agg (u8s r).toArray,.int .i64 0])=true:=fun r=>K9 (VL r) rfl
 have im:∀k,Q1 0 [] [k]=[]:=fun k=>QB wd
 have lPb:=W9 (kE 1++kE 2)
 have lLb:=X0 (kE 9) Zs
 clear K
 generalize seL (kE 1++kE 2) (kE 3++kE 4) (kE 9) (kE 5) (kE 6)=S,Xr (prB (kE 1++kE 2) (kE 9) (pbL (kE 3++kE 4)) (Z0 (kE 5) Zs) (KZ (kE 6)))=TL,Ba (kE 3++kE 4) (kE 5) (kE 6) 7 8=O,pbL (kE 1++kE 2)=PB,Z0 (kE 9) Zs=L9 at *
 generalize kE 1++kE 2=A,kE 3++kE 4=B at *
 generalize kE 1=x1,kE 2=x2,kE 3=x3,kE 4=x4,kE 5=x5,kE 6=x6,kE 9=x9 at *
 generalize zK=Z at *
 generalize Qa 64 0=Z64 at *
 apply QE (fn:=yN) rfl
 simp only[yN,Qr,quiet,cW,↓pW,reduceCtorEq,seval,-Qb,hz,hz64,fz,f1,f2,f3,f4,f5,f6,f9,q1,q2,hoff,hbeg,hacc,hper,hpub,hchk,lO,nz,tw,sO,rfo,o7,o8,tS,hq,hS,spS,spA,spB,ok1,ok2,ok3,rt,im,l1,l2,l3,l4,l5,l6,l9,lA,lB,lz,lz64,lS,lT,lPb,lLb,Qx,Qy,Q5,Za,Q6,Qq,Qe,QR]
 rfl
theorem dI{s:List Nat}(ls:s.length=32)(xs:∀y∈s,y<256):evVal T 62 [.agg (u8s s).toArray]=some (.agg (u8s (YC s)).toArray):=by
 have hz:Qa 32 (Value.int .u8 0)=u8s (dig 256 32 0):=rfl
 have lz:(dig 256 32 0).length=32:=rfl
 have hh:=dR ls xs
 obtain⟨B,hB,rB⟩:=bL
 obtain⟨P,hP,rP⟩:=U8 rB (W8 s) (AS s)
 have hE:=HI rP
 have lE:=YP (ZQ (num 256 (scL s)) JZ)
 have l1:=W8 s
 have l2:=HK s
 unfold YC
 generalize enc (ZQ (num 256 (scL s)) JZ)=E at *
 generalize scL s=S3,pfL s=S4,dig 256 32 0=Z at *
 apply QE (fn:=yU) rfl
 simp only[yU,Qr,quiet,cW,↓pW,reduceCtorEq,seval,-Qb,hz,hh,hB,hP,hE,Qy,Q5,Za,Q6,Qq,ls,lz,l1,l2,lE,Qx,Qe,QR]
 rfl
def tcI(Hm:List Ob)(m:Value)(F B:List Nat)(i:Nat)(ex:Env):St:=⟨[(2,m),(3,.pointer (0:Nat)),(4,.pointer (1:Nat)),(7,.pointer (2:Nat)),(9,.pointer (3:Nat)),(10,.pointer (4:Nat)),(11,.int .i64 i)]++ex,Hm++[{c:=u8s F},{c:=u8s B}],[]⟩
theorem iV{o0 o2:Ob}{m:Value}{B:List Nat}(lF:F.length=32)(lB:B.length=32) :
  Q0 T 0 (.block 0 (.loop Rw)) (tcI [o0,{c:=u8s (F++B)},o2] m (dig 256 32 0) (dig 256 32 0) 0 [])=some (.normal,tcI [o0,{c:=u8s (F++B)},o2] m F B 32 [(26,.bool false)]):=by
 have h:=ZR (T:=T) (base:=0) (id:=0) (body:=Rw) (fun i=>tcI [o0,{c:=u8s (F++B)},o2] m (pf 32 F i) (pf 32 B i) i []) (s':=tcI [o0,{c:=u8s (F++B)},o2] m F B 32 [(26,.bool false)]) 32
  (fun i hi=>by
   have hi:i<32:=hi
   obtain⟨w,hw⟩:∃w,F[i]?=some w:=⟨_,Qf qr⟩
   obtain⟨z,hz⟩:∃z,B[i]?=some z:=⟨_,Qf qr⟩
   have s1:=XD lF hi hw
   have s2:=XD lB hi hz
   have hset:=Xc (pf 32 F i) i w
   have hset2:=Xc (pf 32 B i) i z
   rw[s1]at hset
   rw[s2]at hset2
   have l1:i+1<=(u8s (pf 32 F i)).length:=by rw[Qq,Kd lF qr];omega
   have l2:i+1<=(u8s (pf 32 B i)).length:=by rw[Qq,Kd lB qr];omega
   have e1:((i:Int)<32)=True:=wf
   have e2:((i:Int)<64)=True:=wf
   have e3:(((i+32:Nat):Int)<64)=True:=wf
   have w3:IntKind.i64.wrap ((i:Int)+1)=((i+1:Nat):Int):=Z3 (b:=1) qr
   have w4:IntKind.i64.wrap ((i:Int)+32)=((i+32:Nat):Int):=Z3 (b:=32) qr
   have gw:(u8s (F++B))[i]?=some (.int .u8 (w:Nat)):=Js (by rw[Qc qr,hw])
   have gz:(u8s (F++B))[i+32]?=some (.int .u8 (z:Nat)):=Js (by rw[Qh qr,lF,Nat.add_sub_cancel,hz])
   generalize pf 32 F i=O1,pf 32 F (i+1)=O2,pf 32 B i=O3,pf 32 B (i+1)=O4 at *
   generalize hi1:i+1=i1 at *
   generalize hi2:i+32=i2 at *
   generalize F++B=SG at *
   have im:∀k,Q1 0 [] [k]=[]:=fun k=>QB wd
   simp only[tcI,Rw,Qr,quiet,cW,↓pW,reduceCtorEq,seval,-Qb,e1,e2,e3,w3,w4,gw,gz,hset,hset2,l1,l2,hi1,hi2,im])
  (by
   rw[Ke lF,Ke lB]
   simp only[tcI,Rw,Qr,quiet,cW,↓pW,reduceCtorEq,seval,-Qb])
 rw[Kc,Kc]at h
 exact h
theorem gC:enc XM=dig 256 32 1:=by decide +kernel
theorem pD{S K R:Go.Cv.Pt Go.Fp.P Go.Fp.d}:JH S K.neg=R↔S=JH R K:=by
 have hz:∀p:Go.Cv.Pt Go.Fp.P Go.Fp.d,JH p XM=p:=fun p=>Go.Cv.add_zero Go.Fp.fld p
 have hn:JH K.neg K=XM:=by rw[Bz];exact MA K
 constructor
 ·intro h
  rw[<-h,Uf,hn,hz]
 ·intro h
  rw[h,Uf,MA,hz]
theorem ff:fillL (u8s (dig 256 32 0)) [(0,1,.int .u8 8)]=some (u8s (dig 256 32 8)):=by rfl
theorem sX:fillL (u8s (dig 256 32 0)) [(0,1,.int .u8 1)]=some (u8s (dig 256 32 1)):=by rfl
theorem kY{pub front back m:List Nat}(lp:pub.length=32)(xp:∀y∈pub,y<256)(lf:front.length=32)(xf:∀y∈front,y<256)(lb:back.length=32)(xb:∀y∈back,y<256)(xm:∀y∈m,y<256)(hm:m.length<2^45)(hc:R5 pub front back m c) :
  evVal T 33 [.agg (u8s pub).toArray,.agg (u8s (front++back)).toArray,QX m]=some (.int .i64 c):=by
 have hz:Qa 32 (Value.int .u8 0)=u8s (dig 256 32 0):=rfl
 have lz:(dig 256 32 0).length=32:=rfl
 have fz:=GC
 have hz48:=R9
 have lz48:=Hx
 have rft:∀(r:List Nat) (c:Int),rf (Value.tuple #[eV r,.int .i64 c])=true:=fun r c=>K9 (a:=eV r) (b := .int .i64 c) (QR r) rfl
 have lS:(front++back).length=64:=by rw[Qj,lf,lb]
 have r0:rf (QX m)=true:=rfl
 rcases RQ lp xp with⟨A,a,hA,rA,eA⟩|⟨A,hA,lA,hno⟩
 ·unfold Bf at hA
  have p1:=rA.len
  have hl:=iV (o0:={c:=u8s pub}) (o2:={c:=ns .u64 A}) (m:=QX m) lf lb
  simp only[tcI,Qn,Ql,Int.natCast_zero]at hl
  obtain⟨a',ea',hc⟩:∃A,enc A=pub/\(((ZQ 8 A=XM\/¬num 256 back<ell)/\c=70)\/(ZQ 8 A≠XM/\num 256 back<ell /\
   (((∀R,enc R≠front)/\c=70)\/∃R,enc R=front/\c=if JH (ZQ (num 256 back) JZ) (ZQ (num 256 (chL front pub m)) A.neg)=R then 0 else 70))):=by
   rcases hc with h|h
   ·exact absurd eA (h.1 a)
   ·exact h
  have haa:a'=a:=LR (ea'.trans eA.symm)
  subst haa
  obtain⟨P8,h8,r8⟩:=U8 rA (k:=dig 256 32 8) (Zg _ _ _) Yw
  rw[show num 256 (dig 256 32 8)=8 by decide +kernel]at r8
  have hE8:=HI r8
  have k8:=ff
  have k1:=sX
  have l8:(dig 256 32 8).length=32:=rfl
  have l1:(dig 256 32 1).length=32:=rfl
  have lE8:=YP (ZQ 8 a')
  have q8:JA (Qa 32 true) (u8s (enc (ZQ 8 a'))) (u8s (dig 256 32 1))=some (decide (ZQ 8 a'=XM)):=by
   rw[XZ lE8 l1,<-gC,MV]
  obtain⟨qc,hcn⟩:=Ai lb xb
  have hcv:=Uq hcn
  clear hcn
  by_cases htiny:ZQ 8 a'=XM
  ·have hc70:c=70:=by
    rcases hc with h|h
    ·exact h.2
    ·exact absurd htiny h.1
   subst hc70
   rw[decide_eq_true htiny]at q8
   generalize enc (ZQ 8 a')=E8 at *
   generalize front++back=SG at *
   generalize QX m=M,dig 256 32 8=K8,dig 256 32 1=K1,dig 256 32 0=Z at *
   generalize Vf=Z48 at *
   apply QE (fn:=Ty) rfl
   simp only[Ty,Qr,quiet,cW,↓pW,reduceCtorEq,seval,-Qb,hz,fz,hz48,hA,hl,h8,hE8,k8,k1,q8,hcv,Qy,Q5,Za,Q6,Q8,Qq,lp,lf,lb,lS,lz,lz48,l8,l1,lE8,p1,Qx,Qe,rft,QR,r0]
   rfl
  ·rw[decide_eq_false htiny]at q8
   by_cases hcan:num 256 back<ell
   ·rw[decide_eq_true hcan]at hcv
    have hc:(((∀R,enc R≠front)/\c=70)\/∃R,enc R=front/\c=if JH (ZQ (num 256 back) JZ) (ZQ (num 256 (chL front pub m)) a'.neg)=R then 0 else 70):=by
     rcases hc with h|h
     ·rcases h.1 with h|h
      ·exact absurd h htiny
      ·exact absurd hcan h
     ·exact h.2.2
    rcases RQ lf xf with⟨R,r,hR,rR,eR⟩|⟨R,hR,lR,hnR⟩
    ·unfold Bf at hR
     have p2:=rR.len
     have hcr:c=if JH (ZQ (num 256 back) JZ) (ZQ (num 256 (chL front pub m)) a'.neg)=r then 0 else 70:=by
      rcases hc with h|⟨r',er',h⟩
      ·exact absurd eR (h.1 r)
      ·rw[<-LR (er'.trans eR.symm)];exact h
     rw[Od]at hcr
     simp only[pD]at hcr
     have t2:=Mv lf xf
     have t3:=Mv lp xp
     have a2:Ju .add (QX front) (QX pub)=some (QX (front++pub)):=X7 (by rw[lf,lp];decide)
     have a3:Ju .add (QX (front++pub)) (QX m)=some (QX (front++pub++m)):=X7 (by rw[Qj,lf,lp];omega)
     have n2:evVal T 76 [QX (front++pub++m)]=some (.agg (u8s (chL front pub m)).toArray):=by
      rw[chL,<-Qt]
      exact dP (fun y hy=>(QC.1 hy).elim (fun h=>(QC.1 h).elim (xf y) (xp y)) (xm y)) (by rw[Qj,Qj,lf,lp];omega)
     have l4:(chL front pub m).length=32:=GP
     obtain⟨B,hB,rB⟩:=bL
     obtain⟨X,hX,rX⟩:=U8 rB lb xb
     have hEX:=HI rX
     obtain⟨Y,hY,rY⟩:=U8 rA l4 M0
     obtain⟨D,hD,nD,fD⟩:=wg
     obtain⟨W,hW,rW⟩:=Lw rR rY nD fD
     have hEW:=HI rW
     have lEX:=YP (ZQ (num 256 back) JZ)
     have lEW:=YP (JH r (ZQ (num 256 (chL front pub m)) a'))
     have qf:JA (Qa 32 true) (u8s (enc (ZQ (num 256 back) JZ))) (u8s (enc (JH r (ZQ (num 256 (chL front pub m)) a'))))=some (decide (ZQ (num 256 back) JZ=JH r (ZQ (num 256 (chL front pub m)) a'))):=by
      rw[XZ lEX lEW,MV]
     have r1:rf (QX (front++pub++m))=true:=rfl
     have r2:rf (QX front)=true:=rfl
     have r3:rf (QX pub)=true:=rfl
     have p3:=rX.len
     have p4:=rY.len
     have p5:=rW.len
     have p6:=rB.len
     by_cases hfin:ZQ (num 256 back) JZ=JH r (ZQ (num 256 (chL front pub m)) a')
     ·rw[if_pos hfin]at hcr
      subst hcr
      rw[decide_eq_true hfin]at qf
      clear hc hfin rX rY rW rB rR rA r8
      generalize enc (ZQ (num 256 back) JZ)=EX,enc (JH r (ZQ (num 256 (chL front pub m)) a'))=EW at *
      generalize chL front pub m=CH,enc (ZQ 8 a')=E8,QX (front++pub++m)=V1,QX (front++pub)=V2,QX front=V3,QX pub=V4 at *
      generalize front++back=SG at *
      generalize QX m=M,dig 256 32 8=K8,dig 256 32 1=K1,dig 256 32 0=Z at *
      generalize Vf=Z48 at *
      apply QE (fn:=Ty) rfl
      simp only[Ty,Qr,quiet,cW,↓pW,reduceCtorEq,seval,-Qb,hz,fz,hz48,hA,hl,h8,hE8,k8,k1,q8,hcv,hR,t2,t3,a2,a3,n2,hB,hX,hEX,hY,hD,hW,hEW,qf,Qy,Q5,Za,Q6,Q8,Qq,lp,lf,lb,lS,lz,lz48,l8,l1,l4,lEX,lEW,lE8,p1,p2,p3,p4,p5,p6,Qx,Qe,rft,QR,r0,r1,r2,r3]
      rfl
     ·rw[if_neg hfin]at hcr
      subst hcr
      rw[decide_eq_false hfin]at qf
      clear hc hfin rX rY rW rB rR rA r8
      generalize enc (ZQ (num 256 back) JZ)=EX,enc (JH r (ZQ (num 256 (chL front pub m)) a'))=EW at *
      generalize chL front pub m=CH,enc (ZQ 8 a')=E8,QX (front++pub++m)=V1,QX (front++pub)=V2,QX front=V3,QX pub=V4 at *
      generalize front++back=SG at *
      generalize QX m=M,dig 256 32 8=K8,dig 256 32 1=K1,dig 256 32 0=Z at *
      generalize Vf=Z48 at *
      apply QE (fn:=Ty) rfl
      simp only[Ty,Qr,quiet,cW,↓pW,reduceCtorEq,seval,-Qb,hz,fz,hz48,hA,hl,h8,hE8,k8,k1,q8,hcv,hR,t2,t3,a2,a3,n2,hB,hX,hEX,hY,hD,hW,hEW,qf,Qy,Q5,Za,Q6,Q8,Qq,lp,lf,lb,lS,lz,lz48,l8,l1,l4,lEX,lEW,lE8,p1,p2,p3,p4,p5,p6,Qx,Qe,rft,QR,r0,r1,r2,r3]
      rfl
    ·unfold Bf at hR
     have hc70:c=70:=by
      rcases hc with h|⟨r',er',h⟩
      ·exact h.2
      ·exact absurd er' (hnR r')
     subst hc70
     clear hc
     generalize enc (ZQ 8 a')=E8 at *
     generalize front++back=SG at *
     generalize QX m=M,dig 256 32 8=K8,dig 256 32 1=K1,dig 256 32 0=Z at *
     generalize Vf=Z48 at *
     apply QE (fn:=Ty) rfl
     simp only[Ty,Qr,quiet,cW,↓pW,reduceCtorEq,seval,-Qb,hz,fz,hz48,hA,hl,h8,hE8,k8,k1,q8,hcv,hR,Qy,Q5,Za,Q6,Q8,Qq,lp,lf,lb,lS,lz,lz48,l8,l1,lE8,lR,p1,Qx,Qe,rft,QR,r0]
     rfl
   ·rw[decide_eq_false hcan]at hcv
    have hc70:c=70:=by
     rcases hc with h|h
     ·exact h.2
     ·exact absurd h.2.1 hcan
    subst hc70
    clear hc
    generalize enc (ZQ 8 a')=E8 at *
    generalize front++back=SG at *
    generalize QX m=M,dig 256 32 8=K8,dig 256 32 1=K1,dig 256 32 0=Z at *
    generalize Vf=Z48 at *
    apply QE (fn:=Ty) rfl
    simp only[Ty,Qr,quiet,cW,↓pW,reduceCtorEq,seval,-Qb,hz,fz,hz48,hA,hl,h8,hE8,k8,k1,q8,hcv,Qy,Q5,Za,Q6,Q8,Qq,lp,lf,lb,lS,lz,lz48,l8,l1,lE8,p1,Qx,Qe,rft,QR,r0]
    rfl
 ·unfold Bf at hA
  have hc60:c=60:=by
   rcases hc with h|⟨a,ea,h⟩
   ·exact h.2
   ·exact absurd ea (hno a)
  subst hc60
  clear hc
  generalize front++back=SG at *
  generalize QX m=M at *
  generalize Vf=Z48 at *
  apply QE (fn:=Ty) rfl
  simp only[Ty,Qr,quiet,cW,↓pW,reduceCtorEq,seval,-Qb,hz,fz,hz48,hA,Qy,Q5,Za,Q6,Q8,Qq,lp,lf,lb,lS,lz,lz48,lA,Qx,Qe,rft,QR,r0]
  rfl
theorem aJ{f g:Nat}{fn:AFun}{a:List Value}{r:Option Value}(h:evVal T g a=r)(hf:T.fn f=some fn)(hg:T.fn g=some fn):evVal T f a=r:=by
 rw[<-h,evVal,evVal,QY hf,QY hg]
theorem Gf{S:List Nat}(lS:S.length=32)(xS:∀y∈S,y<256):evVal T 43 [.agg (u8s S).toArray]=some (QX S) :=
 aJ (Mv lS xS) (fn:=gX) rfl rfl
theorem gG(hi:i<2^32):evVal T 81 [.int .u32 i]=some (QX (id4 i)):=by
 have q1:(i:Int).tdiv 16777216=((i/2^24:Nat):Int):=rfl
 have q2:(i:Int).tdiv 65536=((i/2^16:Nat):Int):=rfl
 have q3:(i:Int).tdiv 256=((i/2^8:Nat):Int):=rfl
 have k1:IntKind.u32.wrap ((i/2^24:Nat):Int)=((i/2^24:Nat):Int):=by rw[Cw,Qv qr]
 have k2:IntKind.u32.wrap ((i/2^16:Nat):Int)=((i/2^16:Nat):Int):=by rw[Cw,Qv qr]
 have k3:IntKind.u32.wrap ((i/2^8:Nat):Int)=((i/2^8:Nat):Int):=by rw[Cw,Qv qr]
 have r2:((i/2^16:Nat):Int).tmod 256=((i/2^16%256:Nat):Int):=rfl
 have r3:((i/2^8:Nat):Int).tmod 256=((i/2^8%256:Nat):Int):=rfl
 have r4:(i:Int).tmod 256=((i%256:Nat):Int):=rfl
 have w1:=Bb (i/2^24)
 have w2:IntKind.u8.wrap ((i/2^16%256:Nat):Int)=((i/2^16%256:Nat):Int):=by rw[Bb,Kl]
 have w3:IntKind.u8.wrap ((i/2^8%256:Nat):Int)=((i/2^8%256:Nat):Int):=by rw[Bb,Kl]
 have w4:IntKind.u8.wrap ((i%256:Nat):Int)=((i%256:Nat):Int):=by rw[Bb,Kl]
 have f2:∀x0 x1 x2 x3:Nat,fillL [Value.int .u8 0,.int .u8 0,.int .u8 0,.int .u8 0] [(0,1,.int .u8 (x0:Int)),(1,1,.int .u8 (x1:Int)),(2,1,.int .u8 (x2:Int)),(3,1,.int .u8 (x3:Int))]=some (u8s [x0,x1,x2,x3]):=fun _ _ _ _=>rfl
 have he:elemsOf [({c:=u8s (id4 i)}:Ob)] 1 4 (.slice (0:Nat) 4 4)=some (u8s (id4 i)):=Pk (b:=id4 i) rfl
 have hby:=Ut (id4 i)
 have hst:QX (id4 i)=.string ⟨((id4 i).map UInt8.ofNat).toArray⟩:=rfl
 have hrf:rf (QX (id4 i))=true:=rfl
 rw[<-hst]at *
 rw[hst]at *
 unfold id4 at *
 generalize i/2^24%256=x0 at *
 generalize i/2^16%256=x1 at *
 generalize i/2^8%256=x2 at *
 generalize i%256=x3 at *
 generalize i/2^24=y0 at *
 generalize i/2^16=y1 at *
 generalize i/2^8=y2 at *
 apply QE (fn:=yg) rfl
 simp only[yg,Qr,quiet,cW,↓pW,reduceCtorEq,seval,-Qb,q1,q2,q3,k1,k2,k3,r2,r3,r4,w1,w2,w3,w4,f2,he,hby,hrf]
 rfl
theorem gE{w:List Nat}(h:OffL w p o g)(xw:∀y∈w,y<256)(xp:∀y∈p,y<256)(hi:i<2^32):evVal T 34 [.agg (Jk w p o i j g).toArray]=some (QX (B5 (w.drop 32) p i)):=by
 obtain⟨l2,x2⟩:=Kq h.lw xw
 have lp:=h.lp
 have n0:=Xl (i:=i) (j:=j) h
 have r2:=Uh (i:=i) (j:=j) h
 have r3:=B3 (i:=i) (j:=j) h
 have r4:=(B4 (i:=i) (j:=j) h).1
 have t1:=Gf l2 x2
 have t2:=Gf lp xp
 have t3:=gG hi
 have st:Value.string (ByteArray.mk #[115,105,103,110,101,116,32,111,102,102,101,114])=QX Wv:=rfl
 have lt:Wv.length=12:=rfl
 have l4:(id4 i).length=4:=rfl
 have a1:Ju .add (QX Wv) (QX (w.drop 32))=some (QX (Wv++w.drop 32)):=X7 (by rw[lt,l2];decide)
 have a2:Ju .add (QX (Wv++w.drop 32)) (QX p)=some (QX (Wv++w.drop 32++p)):=X7 (by rw[Qj,lt,l2,lp];decide)
 have a3:Ju .add (QX (Wv++w.drop 32++p)) (QX (id4 i))=some (QX (Wv++w.drop 32++p++id4 i)):=X7 (by rw[Qj,Qj,lt,l2,lp,l4];decide)
 have e:B5 (w.drop 32) p i=Wv++w.drop 32++p++id4 i:=by simp[B5]
 rw[e]
 have ok1:∀L:List Value,(Value.agg L.toArray).cells.toList=L:=fun _=>rfl
 have ok3:∀L:List Value,Z7 (Value.agg L.toArray)=true:=fun _=>rfl
 have q0:rf (QX (Wv++w.drop 32++p++id4 i))=true:=rfl
 have q1:∀S,rf (QX S)=true:=fun _=>rfl
 have f0:∀S,rf (.agg (u8s S).toArray)=true:=fun S=>VL S
 generalize QX (Wv++w.drop 32++p++id4 i)=V4,QX (Wv++w.drop 32++p)=V3,QX (Wv++w.drop 32)=V2,QX Wv=V1,Jk w p o i j g=O at *
 generalize w.drop 32=W2 at *
 apply QE (fn:=yk) rfl
 simp only[yk,Qr,quiet,cW,↓pW,reduceCtorEq,seval,-Qb,n0,r2,r3,r4,t1,t2,t3,st,a1,a2,a3,ok1,ok3,l2,lp,f0,q0,q1,Qx,Qy,Q5,Za,Q6,Qq,Qe,QR]
 rfl
theorem oX{w:List Nat}(h:OffL w p o g)(xw:∀y∈w,y<256)(xp:∀y∈p,y<256)(xg:∀y∈g,y<256)(hi:i<2^32)(hc:R5 (w.take 32) (g.take 32) (g.drop 32) (B5 (w.drop 32) p i) c) :
  evVal T 11 [.agg (Jk w p o i j g).toArray]=some (.int .i64 c):=by
 obtain⟨l1,x1⟩:=YY h.lw xw
 obtain⟨l2,x2⟩:=Kq h.lw xw
 obtain⟨l3,x3⟩:=YY h.lg xg
 obtain⟨l4,x4⟩:=Kq h.lg xg
 have lp:=h.lp
 have lg:=h.lg
 have n0:=Xl (i:=i) (j:=j) h
 have r1:=Iu (i:=i) (j:=j) h
 have r4:=Cr (i:=i) (j:=j) h
 have tw:Zi 194 (Jk w p o i j g)=Jk w p o i j g:=Qm (by rw[n0];decide)
 have hs:=gE (j:=j) h xw xp hi
 have hm:=kY l1 x1 l3 x3 l4 x4 (m:=B5 (w.drop 32) p i) (fun y hy=>by
   rw[B5]at hy
   rcases QC.1 hy with hy|hy
   ·exact(by decide:∀y∈Wv,y<256) y hy
   rcases QC.1 hy with hy|hy
   ·exact x2 y hy
   rcases QC.1 hy with hy|hy
   ·exact xp y hy
   ·exact nO i y hy) (by
   rw[B5,Qj,Qj,Qj,l2,lp]
   show 12+(32+(32+4))<_
   decide) hc
 rw[Zn]at hm
 have rfo:rf (.agg (Jk w p o i j g).toArray)=true:=U9 _ _ _ _ _ _
 have q1:rf (QX (B5 (w.drop 32) p i))=true:=rfl
 have ok1:∀L:List Value,(Value.agg L.toArray).cells.toList=L:=fun _=>rfl
 have ok3:∀L:List Value,Z7 (Value.agg L.toArray)=true:=fun _=>rfl
 have f0:∀S,rf (.agg (u8s S).toArray)=true:=fun S=>VL S
 generalize QX (B5 (w.drop 32) p i)=V1,Jk w p o i j g=O,w.take 32=W1 at *
 apply QE (fn:=yo) rfl
 simp only[yo,Qr,quiet,cW,↓pW,reduceCtorEq,seval,-Qb,n0,r1,r4,tw,hs,hm,rfo,q1,ok1,ok3,l1,lg,f0,Qx,Qy,Q5,Za,Q6,Qq,Qe,QR]
 rfl
theorem oQ{P:List Nat}(lP:P.length=64)(xP:∀y∈P,y<256):evVal T 30 [.agg (u8s P).toArray]=some (.agg (u8s P).toArray):=by
 obtain⟨l1,x1⟩:=YY lP xP
 obtain⟨l2,x2⟩:=Kq lP xP
 obtain⟨t1,t2⟩:=YN lP
 have hz64:=KO
 have lz64:(Qa 64 0).length=64:=Qe
 have q1:=XF l1 l2
 rw[Zn]at q1
 have sp:=QH (cs:=u8s (Qa 64 0)) (v:=u8s P) (by rw[Qq,Qq,lz64,lP])
 have ok1:∀L:List Value,(Value.agg L.toArray).cells.toList=L:=fun _=>rfl
 have ok2:∀L:List Value,(Value.agg L.toArray).cells.size=L.length:=fun _=>rfl
 have ok3:∀L:List Value,Z7 (Value.agg L.toArray)=true:=fun _=>rfl
 generalize Qa 64 0=Z64,P.take 32=P1,P.drop 32=P2 at *
 apply QE (fn:=yn) rfl
 simp only[yn,Qr,quiet,cW,↓pW,reduceCtorEq,seval,-Qb,hz64,t1,t2,q1,sp,ok1,ok2,ok3,l1,l2,lP,lz64,Qx,Qy,Q5,Za,Q6,Qq,Qe,QR]
 rfl
theorem Pp{P:List Nat}(lP:P.length=64)(xP:∀y∈P,y<256):evVal T 29 [.agg (u8s P).toArray]=some (.agg (u8s (pbL P)).toArray):=by
 obtain⟨l1,x1⟩:=YY lP xP
 obtain⟨l2,x2⟩:=Kq lP xP
 obtain⟨t1,t2⟩:=YN lP
 have hz64:=KO
 have lz64:(Qa 64 0).length=64:=Qe
 have h1:=dI l1 x1
 have h2:=Sy l2 x2
 have m1:=YI (P.take 32)
 have m2:=X0 (P.drop 32) Zs
 have q1:=XF m1 m2
 have lpb:=W9 P
 rw[show YC (P.take 32)++Z0 (P.drop 32) Zs=pbL P from rfl]at q1
 have sp:=QH (cs:=u8s (Qa 64 0)) (v:=u8s (pbL P)) (by rw[Qq,Qq,lz64,lpb])
 have ok1:∀L:List Value,(Value.agg L.toArray).cells.toList=L:=fun _=>rfl
 have ok2:∀L:List Value,(Value.agg L.toArray).cells.size=L.length:=fun _=>rfl
 have ok3:∀L:List Value,Z7 (Value.agg L.toArray)=true:=fun _=>rfl
 generalize Qa 64 0=Z64,pbL P=PB,YC (P.take 32)=A1,Z0 (P.drop 32) Zs=A2 at *
 generalize P.take 32=P1,P.drop 32=P2 at *
 apply QE (fn:=ym) rfl
 simp only[ym,Qr,quiet,cW,↓pW,reduceCtorEq,seval,-Qb,hz64,t1,t2,h1,h2,q1,sp,ok1,ok2,ok3,l1,l2,lP,lz64,m1,m2,lpb,Qx,Qy,Q5,Za,Q6,Qq,Qe,QR]
 rfl
theorem oY{A B:List Nat}(lA:A.length=64)(xA:∀y∈A,y<256)(lB:B.length=64)(xB:∀y∈B,y<256):evVal T 28 [.agg (u8s A).toArray,.agg (u8s B).toArray]=some (.agg (u8s (bdL A B)).toArray):=by
 obtain⟨l1,x1⟩:=YY lA xA
 obtain⟨l2,x2⟩:=Kq lA xA
 obtain⟨l3,x3⟩:=YY lB xB
 obtain⟨l4,x4⟩:=Kq lB xB
 obtain⟨c1,c2⟩:=YN lA
 obtain⟨c3,c4⟩:=YN lB
 have t1:=Gf l1 x1
 have t2:=Gf l2 x2
 have t3:=Gf l3 x3
 have t4:=Gf l4 x4
 have lt:YA.length=12:=rfl
 have a1:Ju .add (QX YA) (QX (A.take 32))=some (QX (YA++A.take 32)):=X7 qr
 have a2:Ju .add (QX (YA++A.take 32)) (QX (A.drop 32))=some (QX (YA++A.take 32++A.drop 32)):=X7 (by simp only[Qj];omega)
 have a3:Ju .add (QX (YA++A.take 32++A.drop 32)) (QX (B.take 32))=some (QX (YA++A.take 32++A.drop 32++B.take 32)):=X7 (by simp only[Qj];omega)
 have a4:Ju .add (QX (YA++A.take 32++A.drop 32++B.take 32)) (QX (B.drop 32))=some (QX (YA++(A++B))):=by
  rw[X7 (by simp only[Qj];omega)]
  congr 2
  rw[Qt,Zn,Qt YA,Zn,Qt]
 have xt:∀y∈YA,y<256:=ww
 have hs:=RN (bs:=YA++(A++B)) (fun y hy=>by
  rcases QC.1 hy with h|h
  ·exact xt y h
  ·exact(QC.1 h).elim (xA y) (xB y)) (by simp only[Qj];omega)
 rw[show VG (YA++(A++B))=bdL A B from rfl]at hs
 have hl:=Db A B
 have hz:Qa 32 (Value.int .u8 0)=u8s zK:=rfl
 have lz:=Yk
 have sp:=QH (cs:=u8s zK) (v:=u8s (bdL A B)) (by rw[Qq,Qq,hl,lz])
 have rS:∀b,rf (QX b)=true:=fun _=>rfl
 have r1:=rS (YA++(A++B))
 have r2:=rS (A.take 32)
 have r3:=rS (A.drop 32)
 have r4:=rS (B.take 32)
 have r5:=rS (B.drop 32)
 rw[show QX YA=.string (ByteArray.mk #[115,105,103,110,101,116,32,98,111,117,110,100]) from rfl]at a1
 clear rS xt x1 x2 x3 x4 xA xB
 generalize bdL A B=R at *
 generalize zK=Z at *
 generalize QX (YA++(A++B))=V5,QX (YA++A.take 32++A.drop 32++B.take 32)=V4,QX (YA++A.take 32++A.drop 32)=V3,QX (YA++A.take 32)=V2,QX (A.take 32)=W1,QX (A.drop 32)=W2,QX (B.take 32)=W3,QX (B.drop 32)=W4 at *
 generalize A.take 32=A1,A.drop 32=A2,B.take 32=B1,B.drop 32=B2 at *
 apply QE (fn:=yl) rfl
 simp only[yl,Qr,quiet,cW,↓pW,reduceCtorEq,seval,-Qb,c1,c2,c3,c4,t1,t2,t3,t4,a1,a2,a3,a4,hs,hz,lz,hl,sp,r1,r2,r3,r4,r5,lA,lB,l1,l2,l3,l4,Qx,Qy,Q5,Za,Q6,Qq,Qe,QR]
 rfl
theorem Pn{a b p:Value} :
  Q0 T B (.block 0 (.loop Rk)) ⟨[(0,a),(1,b),(4,p),(6,QX []),(7,.int .i64 0)],G,[]⟩=some (.normal,⟨[(0,a),(1,b),(4,p),(6,QX YZ),(7,.int .i64 32),(14,.bool false)],G,[]⟩):=by
 have h:=ZR (T:=T) (base:=B) (id:=0) (body:=Rk) (fun i=>⟨[(0,a),(1,b),(4,p),(6,QX (Qa i 255)),(7,.int .i64 i)],G,[]⟩) (s':=⟨[(0,a),(1,b),(4,p),(6,QX YZ),(7,.int .i64 32),(14,.bool false)],G,[]⟩) 32
  (fun i hi=>by
   have e1:((i:Int)<32)=True:=wf
   have w3:IntKind.i64.wrap ((i:Int)+1)=((i+1:Nat):Int):=Z3 (b:=1) qr
   have a1:Ju .add (QX (Qa i 255)) (QX [255])=some (QX (Qa (i+1) 255)):=by
    rw[X7 (by simp;omega),List.replicate_succ']
   rw[show QX [255]=.string (ByteArray.mk #[255]) from rfl]at a1
   generalize QX (Qa (i+1) 255)=V2,QX (Qa i 255)=V1 at *
   generalize hi1:i+1=i1 at *
   simp only[Rk,Qr,quiet,cW,↓pW,reduceCtorEq,seval,-Qb,e1,w3,a1,hi1])
  (by
   rw[show Qa 32 255=YZ from rfl]
   generalize QX YZ=V1 at *
   simp only[Rk,Qr,quiet,cW,↓pW,reduceCtorEq,seval,-Qb])
 exact h
theorem Tn{m:Nat}:∀ {M:List (List Nat)},(∀x∈M,x.length=m)->M.flatten.length=M.length*m
 |[],_=>by simp
 |a::M,h=>by rw[QO,Qj,Tn fun x hx=>h x (List.mem_cons_of_mem _ hx),h a wd,List.length_cons,uN,Nat.add_comm]
theorem Pu{M:List (List Nat)}{m:Nat}{P:List Nat}(hM:∀x∈M,x.length=m)(hk:M[k]?=some P):Zi m (J2 (k*m) (u8s M.flatten))=u8s P/\k*m+m<=(u8s M.flatten).length:=by
 have hkn:=(Qg.1 hk).1
 have e1:M.flatten=(M.take k).flatten++(P++(M.drop (k+1)).flatten):=by
  rw[<-QO,<-List.flatten_append]
  congr 1
  have h1:=Qg.1 hk
  conv=>lhs;rw[<-Zn k M,List.drop_eq_getElem_cons h1.1,h1.2]
 have e2:(M.take k).flatten.length=k*m:=by
  rw[Tn fun x hx=>hM x (QP hx),Q3,Nat.min_eq_left qr]
 have lP:=hM P (Qo hk)
 constructor
 ·rw[e1,JF,JF,<-e2,<-Qq,List.drop_left,<-lP,<-Qq P,List.take_left]
 ·rw[Qq,Tn hM,<-uN]
  exact Nat.mul_le_mul_right _ hkn
def dtE(B oid tid n c1 c2 k:Nat)(all:List Nat):Env:=[(0,.slice oid n c1),(1,.slice tid n c2),(4,.pointer B),(6,QX all),(8,.int .i64 k)]
def hdL(L:List (List Nat)):List Nat:=(L.map fun x=>x.take 32).flatten
def tlL(L:List (List Nat)):List Nat:=(L.map fun x=>x.drop 32).flatten
theorem cR{P:List Nat}(ho:G[oid]?=some ⟨u8s (hdL L),true,w,e,s⟩)(ht:G[tid]?=some ⟨u8s (tlL L),true,w2,e2,s2⟩)(hL:∀x∈L,x.length=64/\∀y∈x,y<256)(hk:L[k]?=some P) :
    (Zi 32 (J2 (k*32) (u8s (hdL L)))=u8s (P.take 32)/\k*32+32<=(u8s (hdL L)).length)/\(Zi 32 (J2 (k*32) (u8s (tlL L)))=u8s (P.drop 32)/\k*32+32<=(u8s (tlL L)).length) :=
  ⟨Pu (m:=32) (fun x hx=>by obtain⟨y,hy,rfl⟩:=Xo.1 hx;exact(YY (hL y hy).1 (hL y hy).2).1) (by rw[JB,hk];rfl),
   Pu (m:=32) (fun x hx=>by obtain⟨y,hy,rfl⟩:=Xo.1 hx;exact(Kq (hL y hy).1 (hL y hy).2).1) (by rw[JB,hk];rfl)⟩
theorem cT{P:List Nat}(ho:G[oid]?=some ⟨u8s (hdL L),true,w,e,s⟩)(ht:G[tid]?=some ⟨u8s (tlL L),true,w2,e2,s2⟩)(hL:∀x∈L,x.length=64/\∀y∈x,y<256)(hn:L.length=n)(hn9:n<=20)(hk:L[k]?=some P)(hB:B<=G.length)
 (hne:Z0 (P.take 32) (P.drop 32)≠zK) :
    Q0 T B UL ⟨dtE B oid tid n c1 c2 k (tgA L k),G,[]⟩=some (.normal,⟨dtE B oid tid n c1 c2 (k+1) (tgA L (k+1)),G++[{c:=u8s (Z0 (P.take 32) (P.drop 32))}],[]⟩):=by
  have hkn:k<n:=by rw[<-hn];exact(Qg.1 hk).1
  obtain⟨lP,xP⟩:=hL P (Qo hk)
  obtain⟨l1,x1⟩:=YY lP xP
  obtain⟨l2,x2⟩:=Kq lP xP
  obtain⟨⟨p1,q1⟩,p2,q2⟩:=cR ho ht hL hk
  have hag:=Ia l1 x1 l2 x2
  rw[if_neg (show Z0 (P.take 32) (P.drop 32)≠dig 256 32 0 from hne)]at hag
  have lR:=X0 (P.take 32) (P.drop 32)
  have tx:=Gf lR (WA _ _)
  have hgd:L.getD k []=P:=by rw[List.getD_eq_getElem?_getD,hk];rfl
  have hla:=Mr L k
  have a1:Ju .add (QX (tgA L k)) (QX (Z0 (P.take 32) (P.drop 32)))=some (QX (tgA L (k+1))):=by
    rw[X7 qr,tgA,hgd]
  have rt:∀r:List Nat,rf (Value.tuple #[.agg (u8s r).toArray,.int .i64 0])=true:=fun r=>K9 (VL r) rfl
  have r1:rf (QX (Z0 (P.take 32) (P.drop 32)))=true:=rfl
  have hz:Qa 32 (Value.int .u8 0)=u8s zK:=rfl
  have lz:=Yk
  have sp:=QH (cs:=u8s zK) (v:=u8s (Z0 (P.take 32) (P.drop 32))) (by rw[Qq,Qq,lR,lz])
  have e1:((k:Int)<(n:Int))=True:=wf
  have w3:IntKind.i64.wrap ((k:Int)+1)=((k+1:Nat):Int):=Z3 (b:=1) qr
  have im:Q1 B [] [G.length]=[]:=QB (by simp;omega)
  simp only[dtE]
  clear hla hgd hL hne x1 x2 xP
  generalize tgA L (k+1)=A2,tgA L k=A1 at *
  generalize QX A2=V2,QX A1=V1,Z0 (P.take 32) (P.drop 32)=R at *
  generalize QX R=VR,P.take 32=P1,P.drop 32=P2,u8s (hdL L)=HL,u8s (tlL L)=TL at *
  generalize hk32:k*32=k32 at *
  generalize hk1:k+1=k1 at *
  generalize zK=Z at *
  simp only[UL,hk32,Qr,quiet,cW,↓pW,reduceCtorEq,seval,-Qb,e1,ho,ht,p1,p2,q1,q2,hag,tx,a1,rt,r1,hz,lz,sp,im,w3,hk1,lR,l1,l2,Qx,Qy,Q5,Za,Q6,Qq,Qe,QR]
theorem xK{P:List Nat}(ho:G[oid]?=some ⟨u8s (hdL L),true,w,e,s⟩)(ht:G[tid]?=some ⟨u8s (tlL L),true,w2,e2,s2⟩)(hz0:G[B]?=some {c:=u8s zK})(hL:∀x∈L,x.length=64/\∀y∈x,y<256)(hn:L.length=n)(hn9:n<=20)(hk:L[k]?=some P)
 (hne:Z0 (P.take 32) (P.drop 32)=zK) :
    Q0 T B UL ⟨dtE B oid tid n c1 c2 k (tgA L k),G,[]⟩=some (.ret,⟨[(4,.pointer B),(5,.int .i64 50)],G++[{c:=u8s zK}],[]⟩):=by
  have hkn:k<n:=by rw[<-hn];exact(Qg.1 hk).1
  obtain⟨lP,xP⟩:=hL P (Qo hk)
  obtain⟨l1,x1⟩:=YY lP xP
  obtain⟨l2,x2⟩:=Kq lP xP
  obtain⟨⟨p1,q1⟩,p2,q2⟩:=cR ho ht hL hk
  have hag:=Ia l1 x1 l2 x2
  rw[if_pos (show Z0 (P.take 32) (P.drop 32)=dig 256 32 0 from hne),show dig 256 32 0=zK from rfl]at hag
  have rt:rf (Value.tuple #[.agg (u8s zK).toArray,.int .i64 50])=true:=K9 (VL zK) rfl
  have hz:Qa 32 (Value.int .u8 0)=u8s zK:=rfl
  have lz:=Yk
  have fz:fillL (u8s zK) []=some (u8s zK):=rfl
  have sp:=QH (cs:=u8s zK) (v:=u8s zK) rfl
  have e1:((k:Int)<(n:Int))=True:=wf
  have hB:=(Qg.1 hz0).1
  have im:Q1 B [] [G.length]=[]:=QB (by simp;omega)
  have im2:Q1 B [] [B]=[]:=QB wd
  have g0:(G++[({c:=u8s zK}:Ob)])[B]?=some {c:=u8s zK}:=by rw[Qc hB];exact hz0
  have s0:=Wb g0
  simp only[dtE]
  clear hL hne x1 x2 xP
  generalize QX (tgA L k)=V1,P.take 32=P1,P.drop 32=P2,u8s (hdL L)=HL,u8s (tlL L)=TL at *
  generalize hk32:k*32=k32 at *
  generalize zK=Z at *
  simp only[UL,hk32,Qr,quiet,cW,↓pW,reduceCtorEq,seval,-Qb,e1,ho,ht,p1,p2,q1,q2,hag,rt,hz,lz,fz,sp,im,im2,g0,s0,l1,l2,Qx,Qy,Q5,Za,Q6,Qq,Qe,QR]
theorem LU(ho:H[oid]?=some ⟨u8s (hdL L),true,w,e,s⟩)(ht:H[tid]?=some ⟨u8s (tlL L),true,w2,e2,s2⟩)(hL:∀x∈L,x.length=64/\∀y∈x,y<256)(hn9:L.length<=20)
 (hne:∀x∈L,Z0 (x.take 32) (x.drop 32)≠zK) :
    (Xr L).length=32/\∃l,Z6 T 27 [.slice oid L.length c1,.slice tid L.length c2] H=some (.tuple #[.agg (u8s (Xr L)).toArray,.int .i64 0],H++l,[]):=by
  obtain⟨n,hn⟩:∃n,L.length=n:=⟨_,rfl⟩
  obtain⟨G0,hG0⟩:∃X,X=H++[({c:=u8s zK}:Ob)]:=⟨_,rfl⟩
  have hf:=Pn (B:=H.length) (a := .slice oid n c1) (b := .slice tid n c2) (p := .pointer H.length) (G:=G0)
  have up:∀(m:List Ob) {i:Nat} {o:Ob},H[i]?=some o->(G0++m)[i]?=some o:=fun m {i o} h=>by rw[hG0,Qt,Qc (Qg.1 h).1];exact h
  have z0:∀m:List Ob,(G0++m)[H.length]?=some {c:=u8s zK}:=fun m=>by rw[hG0,Qt,Qh (Qs _),Q7];rfl
  have lG0:G0.length=H.length+1:=by rw[hG0];simp
  obtain⟨st,hloop,l,rfl⟩:=Zh (T:=T) (base:=H.length) (id:=2) (body:=UL)
    (fun k st=>∃l,st=⟨dtE H.length oid tid n c1 c2 k (tgA L k),G0++l,[]⟩)
    (Q:=fun st=>∃l,st=⟨dtE H.length oid tid n c1 c2 n (tgA L n)++[(22,.bool false)],G0++l,[]⟩)
    n (s:=⟨dtE H.length oid tid n c1 c2 0 (tgA L 0),G0,[]⟩) ⟨[],by rw[QG]⟩
    (fun k st hk hst=>by
      obtain⟨l,rfl⟩:=hst
      obtain⟨P,hP⟩:∃P,L[k]?=some P:=⟨_,Qf qr⟩
      exact⟨_,cT (up l ho) (up l ht) hL hn qr hP (by simp;omega) (hne P (Qo hP)),_,by rw[Qt]⟩)
    (fun st hst=>by
      obtain⟨l,rfl⟩:=hst
      refine⟨_,?_,l,rfl⟩
      have e1:((n:Int)<(n:Int))=False:=wr
      simp only[dtE,Qn,Ql]
      generalize QX (tgA L n)=VA at *
      simp only[UL,Qr,quiet,cW,↓pW,reduceCtorEq,seval,-Qb,e1])
  have lA:=Mr L n
  obtain⟨l2,kid,hk,k1,k2,k3⟩:=oT (H:=G0++l) (salt:=[]) (secret:=tgA L n) (info:=N5) (c:=1) ww ww (Sf L n) qr ww ww ww ww
  have hkl:D6 [] (tgA L n) N5 1=Xr L:=by rw[Xr,hn]
  rw[hkl]at k2 k3
  have lT:(Xr L).length=32:=k3
  refine⟨lT,?_⟩
  obtain⟨l',hl'⟩:∃l',(G0++l++l2).set H.length {c:=u8s (Xr L)}=H++l':=XG (by simp;omega) fun i hi=>by
    rw[Qu qr,Qt,Qc qr,hG0,Qc hi]
  refine⟨l',?_⟩
  rw[hn]
  have hz:(G0++l++l2)[H.length]?=some {c:=u8s zK}:=by rw[Qt];exact z0 _
  have hz2:((G0++l++l2).set H.length {c:=u8s (Xr L)})[H.length]?=some {c:=u8s (Xr L)}:=by rw[Qw (by simp;omega)]
  rw[hl',Qh (Qs _),Q7]at hz2
  have lz:=Yk
  have sp:=QH (cs:=u8s zK) (v:=u8s (Xr L)) (by rw[Qq,Qq,lT,lz])
  have hz32:Qa 32 (Value.int .u8 0)=u8s zK:=rfl
  have im1:Q1 H.length [] [H.length]=[]:=QB wd
  have hs:QX N5=.string (ByteArray.mk #[115,105,103,110,101,116,32,97,103,114,101,101]):=rfl
  have hs0:QX []=.string (ByteArray.mk #[]):=rfl
  rw[hs,hs0]at hk
  rw[hs0]at hf
  rw[show((1:Nat):Int)=1 from rfl]at hk
  have F0:H++[({c:=u8s zK}:Ob)]=G0:=hG0.symm
  simp only[dtE,Qn,Ql,show((0:Nat):Int)=0 from rfl,show tgA L 0=YZ from rfl]at hloop
  have rS:rf (QX (tgA L n))=true:=rfl
  clear hG0 up z0 ho ht hL hne k1 hkl lA
  generalize Xr L=TL at *
  generalize zK=Z at *
  generalize QX YZ=X255,QX (tgA L n)=TA at *
  generalize G0++l=G1 at *
  generalize G1++l2=G2 at *
  rw[QY (fn:=pN) rfl]
  simp only[pN,Qr,quiet,cW,↓pW,reduceCtorEq,seval,-Qb,hz32,F0,hf,hloop,hk,hz,hz2,k2,sp,im1,hl',rS,lT,lz,Qx,Qy,Q5,Za,Q6,Qq,Qe,QR]
theorem FN(ho:H[oid]?=some ⟨u8s (hdL L),true,w,e,s⟩)(ht:H[tid]?=some ⟨u8s (tlL L),true,w2,e2,s2⟩)(hL:∀x∈L,x.length=64/\∀y∈x,y<256)(hn9:L.length<=20)
 (hne:¬ ∀x∈L,Z0 (x.take 32) (x.drop 32)≠zK) :
    ∃l,Z6 T 27 [.slice oid L.length c1,.slice tid L.length c2] H=some (.tuple #[.agg (u8s zK).toArray,.int .i64 50],H++l,[]):=by
  obtain⟨k,P,hk,hP0,hbef⟩:=Ti L hne
  have hP0:Z0 (P.take 32) (P.drop 32)=zK:=Classical.not_not.1 hP0
  have hkL:=(Qg.1 hk).1
  obtain⟨n,hn⟩:∃n,L.length=n:=⟨_,rfl⟩
  obtain⟨G0,hG0⟩:∃X,X=H++[({c:=u8s zK}:Ob)]:=⟨_,rfl⟩
  have hf:=Pn (B:=H.length) (a := .slice oid n c1) (b := .slice tid n c2) (p := .pointer H.length) (G:=G0)
  have up:∀(m:List Ob) {i:Nat} {o:Ob},H[i]?=some o->(G0++m)[i]?=some o:=fun m {i o} h=>by rw[hG0,Qt,Qc (Qg.1 h).1];exact h
  have z0:∀m:List Ob,(G0++m)[H.length]?=some {c:=u8s zK}:=fun m=>by rw[hG0,Qt,Qh (Qs _),Q7];rfl
  have lG0:G0.length=H.length+1:=by rw[hG0];simp
  obtain⟨st,hloop,l,rfl⟩:=IS (base:=H.length) (id:=2) (body:=UL)
    (fun k st=>∃l,st=⟨dtE H.length oid tid n c1 c2 k (tgA L k),G0++l,[]⟩)
    (Q:=fun st=>∃l,st=⟨[(4,.pointer H.length),(5,.int .i64 50)],G0++l,[]⟩)
    k (s:=⟨dtE H.length oid tid n c1 c2 0 (tgA L 0),G0,[]⟩) ⟨[],by rw[QG]⟩
    (fun j st hj hst=>by
      obtain⟨l,rfl⟩:=hst
      obtain⟨R,hR⟩:∃P,L[j]?=some P:=⟨_,Qf qr⟩
      exact⟨_,cT (up l ho) (up l ht) hL hn qr hR (by simp;omega) (hbef j hj R hR),_,by rw[Qt]⟩)
    (fun st hst=>by
      obtain⟨l,rfl⟩:=hst
      exact⟨_,xK (up l ho) (up l ht) (z0 l) hL hn qr hk hP0,_,by rw[Qt]⟩)
  obtain⟨l',hl'⟩:∃l',G0++l=H++l':=⟨_,by rw[hG0,Qt]⟩
  refine⟨l',?_⟩
  rw[hn]
  have hz2:=z0 l
  rw[hl',Qh (Qs _),Q7]at hz2
  have lz:=Yk
  have hz32:Qa 32 (Value.int .u8 0)=u8s zK:=rfl
  have hs0:QX []=.string (ByteArray.mk #[]):=rfl
  rw[hs0]at hf
  have F0:H++[({c:=u8s zK}:Ob)]=G0:=hG0.symm
  simp only[dtE,Qn,Ql,show((0:Nat):Int)=0 from rfl,show tgA L 0=YZ from rfl]at hloop
  rw[hl']at hloop
  clear hG0 up z0 ho ht hL hne hbef hP0 hk hl'
  generalize zK=Z at *
  generalize QX YZ=X255 at *
  rw[QY (fn:=pN) rfl]
  simp only[pN,Qr,quiet,cW,↓pW,reduceCtorEq,seval,-Qb,hz32,F0,hf,hloop,hz2,lz,Qx,Qy,Q5,Za,Q6,Qq,Qe,QR]
theorem D9{L:List (List Nat)}(ho:H[oid]?=some ⟨u8s (hdL L),true,w,e,s⟩)(ht:H[tid]?=some ⟨u8s (tlL L),true,w2,e2,s2⟩)(hL:∀x∈L,x.length=64/\∀y∈x,y<256)(hn9:L.length<=20) :
  ∃TL E l,TL.length=32/\Z6 T 27 [.slice oid L.length c1,.slice tid L.length c2] H=some (.tuple #[.agg (u8s TL).toArray,.int .i64 E],H++l,[])/\(((∀x∈L,Z0 (x.take 32) (x.drop 32)≠zK)/\TL=Xr L/\E=0)\/((¬ ∀x∈L,Z0 (x.take 32) (x.drop 32)≠zK)/\TL=zK/\E=50)):=by
 by_cases h:∀x∈L,Z0 (x.take 32) (x.drop 32)≠zK
 ·obtain⟨lT,l,h1⟩:=LU (c1:=c1) (c2:=c2) ho ht hL hn9 h
  exact⟨_,_,l,lT,h1,.inl ⟨h,rfl,rfl⟩⟩
 ·obtain⟨l,h1⟩:=FN (c1:=c1) (c2:=c2) ho ht hL hn9 h
  exact⟨_,_,l,rfl,h1,.inr ⟨h,rfl,rfl⟩⟩
theorem db{a b:Nat}{fa fb:List Nat}(ha:H[a]?=some {c:=u8s fa})(hb:H[b]?=some {c:=u8s fb})(la:fa.length=96)(lb:fb.length=32) :
  Jw 32 32 H (.slice a 3 3) (.slice b 1 1)=some (.slice H.length 4 4,H++[⟨u8s (fa++fb),true,true,false,32⟩],none,[]):=by
 have h4:liveAt H a=some {c:=u8s fa}:=Zz ha rfl
 have k2:elemsOf H 32 1 (.slice b 1 1)=some (u8s fb):=by
  simp[elemsOf,Zz hb rfl,Qq,lb]
  exact Qm (by rw[Qq,lb];exact Qs _)
 have h8:elemsOf H 32 3 (.slice a 3 3)=some (u8s fa):=by
  simp[elemsOf,h4,Qq,la]
  exact Qm (by rw[Qq,la];exact Qs _)
 have h0:Go.Ev.lenV (.slice b 1 1)=some 1:=rfl
 have h1:¬(1:Nat)=0:=ww
 have h2:(3+1)*32<=2^47/\0<32/\0<32:=ww
 have h3:¬(3+1<=3):=ww
 simp only[Jw,h0,k2,h8,h4,Option.bind_some,if_neg h1,h2,h3,and_self,not_true_eq_false,if_false,if_true,Ob.grown,JF]
theorem IC{c:List Nat}(la:a.length=32)(lb:b.length=32)(lc:c.length=32):fillL (Qa 96 (Value.int .u8 0)) [(0,32,.agg (u8s a).toArray),(32,32,.agg (u8s b).toArray),(64,32,.agg (u8s c).toArray)]=some (u8s (a++(b++c))):=by
 have hz:Qa 96 (Value.int .u8 0)=u8s zK++(u8s zK++u8s zK):=rfl
 have lz:(u8s zK).length=32:=rfl
 have sz:∀ {x y z:List Value},x.length=32->y.length=32->z.length=32->(x++(y++z)).length=96:=fun hx hy hz=>by rw[Qj,Qj,hx,hy,hz]
 have ua:(u8s a).length=32:=by rw[Qq,la]
 have ub:(u8s b).length=32:=by rw[Qq,lb]
 have uc:(u8s c).length=32:=by rw[Qq,lc]
 have s1:splice (u8s zK++(u8s zK++u8s zK)) 0 (u8s a)=u8s a++(u8s zK++u8s zK):=Wa (by rw[ua,lz])
 have s2:splice (u8s a++(u8s zK++u8s zK)) 32 (u8s b)=u8s a++(u8s b++u8s zK):=by
  have:=KQ (a:=u8s a) (b:=u8s zK++u8s zK) (v:=u8s b) (n:=32) (k:=0) ua (by rw[Qj,ub,lz];decide)
  rw[this,Wa (by rw[ub,lz])]
 have s3:splice (u8s a++(u8s b++u8s zK)) 64 (u8s c)=u8s a++(u8s b++u8s c):=by
  have:=KQ (a:=u8s a++u8s b) (b:=u8s zK) (v:=u8s c) (n:=64) (k:=0) (by rw[Qj,ua,ub]) (by rw[uc,lz];decide)
  rw[<-Qt,this,QH (by rw[uc,lz]),Qt]
 have cl:∀x:List Nat,(Value.agg (u8s x).toArray).cells.toList=u8s x:=fun _=>rfl
 rw[hz,Yc (Uw la) (by rw[sz lz lz lz];decide) rfl,cl,s1,Yc (Uw lb) (by rw[sz ua lz lz];decide) rfl,cl,s2,Yc (Uw lc) (by rw[sz ua ub lz];decide) rfl,cl,s3,<-JF,<-JF]
 rfl
theorem vp{c:List Nat}(la:a.length=32)(lb:b.length=32)(lc:c.length=32):(a++(b++c)).length=96:=by rw[Qj,Qj,la,lb,lc]
theorem aP{P w o:List Nat}(lP:P.length=64)(xP:∀y∈P,y<256)(lF:F.length=32)(xF:∀y∈F,y<256)(h:OffL w p o g)(xw:∀y∈w,y<256)(xp:∀y∈p,y<256)(xo:∀y∈o,y<256)
 (hc:evVal T 11 [.agg (Jk w p o i j g).toArray]=some (.int .i64 0)) :
    ∃S1 S2 E,evVal T 8 [.agg (u8s P).toArray,.agg (u8s F).toArray,.agg (Jk w p o i j g).toArray]=some (.tuple #[.agg (u8s S1).toArray,.agg (u8s S2).toArray,.int .i64 E])/\S1.length=32/\S2.length=32/\(((∀x∈prB P F w p o,Z0 (x.take 32) (x.drop 32)≠zK)/\S1=Xr (prB P F w p o)/\S2=bdL (pbL P) w/\E=0)\/((¬ ∀x∈prB P F w p o,Z0 (x.take 32) (x.drop 32)≠zK)/\S1=zK/\S2=zK/\E=50)):=by
  obtain⟨la,xa⟩:=Kq lP xP
  obtain⟨t1,t2⟩:=YN lP
  obtain⟨lw2,xw2⟩:=Kq h.lw xw
  have lp:=h.lp
  have lo:=h.lo
  have lw:=h.lw
  have n0:=Xl (i:=i) (j:=j) h
  have r1:=Cq (i:=i) (j:=j) h
  have r2:=Uh (i:=i) (j:=j) h
  have r3:=B3 (i:=i) (j:=j) h
  have r4:=Tb (i:=i) (j:=j) h
  have tw:Zi 194 (Jk w p o i j g)=Jk w p o i j g:=Qm (by rw[n0];decide)
  have hz:Qa 32 (Value.int .u8 0)=u8s zK:=rfl
  have fz:fillL (u8s zK) []=some (u8s zK):=rfl
  have lz:=Yk
  have hq:=Bo (k:=o) (l:=zK) lo rfl
  have q1:=IC la lF lF
  have q2:=IC lp lw2 lp
  have q3:=C6 lo
  have q4:=C6 lF
  rw[hz]at q3 q4
  obtain⟨m1,y1⟩:=KA la xa lp xp
  obtain⟨m2,y2⟩:=KA lF xF lw2 xw2
  obtain⟨m3,y3⟩:=KA lF xF lp xp
  obtain⟨m4,y4⟩:=KA lF xF lo xo
  have n1:=vp la lF lF
  have n2:=vp lp lw2 lp
  have hper:=Pp lP xP
  have lpb:=W9 P
  have hbd:=oY lpb (RT P) lw xw
  have lbd:=Db (pbL P) w
  have im:∀k,Q1 0 [] [k]=[]:=fun k=>QB wd
  have spz:=QH (cs:=u8s zK) (v:=u8s zK) rfl
  have ok1:∀L:List Value,(Value.agg L.toArray).cells.toList=L:=fun _=>rfl
  have ok2:∀L:List Value,(Value.agg L.toArray).cells.size=L.length:=fun _=>rfl
  have ok3:∀L:List Value,Z7 (Value.agg L.toArray)=true:=fun _=>rfl
  have rfo:rf (.agg (Jk w p o i j g).toArray)=true:=U9 _ _ _ _ _ _
  generalize Jk w p o i j g=O at *
  by_cases ho:o=zK
  · have hb:(!(o==zK))=false:=by rw[ho];simp
    rw[hb]at hq
    have hL:prB P F w p o=[P.drop 32++p,F++w.drop 32,F++p]:=by rw[prB,if_pos ho];rfl
    rw[hL]
    obtain⟨G,hG⟩:∃X,X=[({c:=u8s P}:Ob),{c:=u8s F},{c:=O},{c:=u8s zK},{c:=u8s zK},{c:=u8s (P.drop 32++(F++F))},{c:=u8s (p++(w.drop 32++p))}]:=⟨_,rfl⟩
    have hh:hdL [P.drop 32++p,F++w.drop 32,F++p]=P.drop 32++(F++F):=by simp[hdL,(Xg la p).1,(Xg lF (w.drop 32)).1,(Xg lF p).1]
    have ht':tlL [P.drop 32++p,F++w.drop 32,F++p]=p++(w.drop 32++p):=by simp[tlL,(Xg la p).2,(Xg lF (w.drop 32)).2,(Xg lF p).2]
    have o1:G[5]?=some {c:=u8s (hdL [P.drop 32++p,F++w.drop 32,F++p])}:=by rw[hh,hG];rfl
    have o2:G[6]?=some {c:=u8s (tlL [P.drop 32++p,F++w.drop 32,F++p])}:=by rw[ht',hG];rfl
    obtain⟨TT,E,l,lT,ht,hd⟩:=D9 (c1:=3) (c2:=3) o1 o2 (nj ⟨m1,y1⟩ ⟨m2,y2⟩ ⟨m3,y3⟩) (by show 3<=20;decide)
    have lG:G.length=7:=by rw[hG];rfl
    have pG:∀i,i<7->(G++l)[i]?=[({c:=u8s P}:Ob),{c:=u8s F},{c:=O},{c:=u8s zK},{c:=u8s zK},{c:=u8s (P.drop 32++(F++F))},{c:=u8s (p++(w.drop 32++p))}][i]? := fun i hi=>by rw[Qc qr,hG]
    obtain⟨G5,hG5⟩:∃X,X=G++l:=⟨_,rfl⟩
    rw[<-hG5]at pG
    have lG5:7<=G5.length:=by rw[hG5,Qj];omega
    rw[<-hG5,hG,show[P.drop 32++p,F++w.drop 32,F++p].length=3 from rfl]at ht
    have g0:∀m:List Ob,(G5++m)[0]?=some {c:=u8s P}:=fun m=>by rw[Qc qr,pG 0 ww];rfl
    have g2:∀m:List Ob,(G5++m)[2]?=some {c:=O}:=fun m=>by rw[Qc qr,pG 2 ww];rfl
    have g4:∀m:List Ob,(G5++m)[3]?=some {c:=u8s zK}:=fun m=>by rw[Qc qr,pG 3 ww];rfl
    have g5:∀(m:List Ob) x,((G5++m).set 3 x)[4]?=some {c:=u8s zK}:=fun m x=>by rw[Qu ww,Qc qr,pG 4 ww];rfl
    have s4:∀(m:List Ob) x y,(((G5++m).set 3 x).set 4 y)[3]?=some x:=fun m x y=>by rw[Qu ww];exact Qw (by simp;omega)
    have s5:∀(m:List Ob) x y,(((G5++m).set 3 x).set 4 y)[4]?=some y:=fun m x y=>Qw (by simp;omega)
    rcases hd with⟨hg,rfl,rfl⟩|⟨hg,rfl,rfl⟩
    · refine⟨Xr [P.drop 32++p,F++w.drop 32,F++p],bdL (pbL P) w,0,?_,lT,lbd,.inl ⟨hg,rfl,rfl,rfl⟩⟩
      have sp:=QH (cs:=u8s zK) (v:=u8s (Xr [P.drop 32++p,F++w.drop 32,F++p])) (by rw[Qq,Qq,lT,lz])
      have sp2:=QH (cs:=u8s zK) (v:=u8s (bdL (pbL P) w)) (by rw[Qq,Qq,lbd,lz])
      clear hg hG hG5 o1 o2 hh ht' hL ho hb pG xP xw xF xo xp y1 y2 y3 y4 xa xw2 h
      generalize Xr [P.drop 32++p,F++w.drop 32,F++p]=TL at *
      generalize P.drop 32++(F++F)=A1,p++(w.drop 32++p)=A2,bdL (pbL P) w=BD at *
      generalize pbL P=PB,P.drop 32=Pa,w.drop 32=wa at *
      generalize zK=Z at *
      apply QE (fn:=Fi) rfl
      simp only[Fi,Qr,quiet,cW,↓pW,reduceCtorEq,seval,-Qb,hz,fz,t2,hc,tw,n0,r1,r2,r3,r4,ok1,ok2,ok3,rfo,q1,q2,q3,q4,hq,ht,g0,g2,g4,g5,s4,s5,hper,hbd,sp,sp2,spz,im,lP,lF,la,lp,lw,lw2,lo,lz,lT,lpb,lbd,Qx,Qy,Q5,Za,Q6,Qq,Qe,QR]
      rfl
    · refine⟨zK,zK,50,?_,rfl,rfl,.inr ⟨hg,rfl,rfl,rfl⟩⟩
      have sp:=spz
      have sp2:=spz
      clear hg hG hG5 o1 o2 hh ht' hL ho hb pG xP xw xF xo xp y1 y2 y3 y4 xa xw2 h
      generalize P.drop 32++(F++F)=A1,p++(w.drop 32++p)=A2,bdL (pbL P) w=BD at *
      generalize pbL P=PB,P.drop 32=Pa,w.drop 32=wa at *
      generalize zK=Z at *
      apply QE (fn:=Fi) rfl
      simp only[Fi,Qr,quiet,cW,↓pW,reduceCtorEq,seval,-Qb,hz,fz,t2,hc,tw,n0,r1,r2,r3,r4,ok1,ok2,ok3,rfo,q1,q2,q3,q4,hq,ht,g0,g2,g4,g5,s4,s5,hper,hbd,sp,sp2,spz,im,lP,lF,la,lp,lw,lw2,lo,lz,lT,lpb,lbd,Qx,Qy,Q5,Za,Q6,Qq,Qe,QR]
      rfl
  · have hb:(!(o==zK))=true:=by simpa using ho
    rw[hb]at hq
    have hL:prB P F w p o=[P.drop 32++p,F++w.drop 32,F++p,F++o]:=by rw[prB,if_neg ho];rfl
    rw[hL]
    obtain⟨G0,hG0⟩:∃X,X=[({c:=u8s P}:Ob),{c:=u8s F},{c:=O},{c:=u8s zK},{c:=u8s zK},{c:=u8s (P.drop 32++(F++F))},{c:=u8s (p++(w.drop 32++p))},{c:=u8s F}]:=⟨_,rfl⟩
    have hap1:=db (H:=G0) (a:=5) (b:=7) (by rw[hG0];rfl) (by rw[hG0];rfl) n1 lF
    obtain⟨G1,hG1⟩:∃X,X=G0++[(⟨u8s (P.drop 32++(F++F)++F),true,true,false,32⟩:Ob)]:=⟨_,rfl⟩
    rw[<-hG1,show G0.length=8 by rw[hG0];rfl]at hap1
    have lG1:G1.length=9:=by rw[hG1,hG0];rfl
    have hap2:=db (H:=G1++[({c:=u8s o}:Ob)]) (a:=6) (b:=G1.length) (fa:=p++(w.drop 32++p)) (fb:=o) (by rw[hG1,hG0];rfl) (by rw[Qh (Qs _),Q7];rfl) n2 lo
    obtain⟨G,hG⟩:∃X,X=G1++[({c:=u8s o}:Ob)]++[(⟨u8s (p++(w.drop 32++p)++o),true,true,false,32⟩:Ob)]:=⟨_,rfl⟩
    rw[<-hG,show(G1++[({c:=u8s o}:Ob)]).length=10 by rw[Qj,lG1];rfl,lG1]at hap2
    rw[hG0]at hap1
    have g13:G1[2]?=some {c:=O}:=by rw[hG1,hG0];rfl
    have hh:hdL [P.drop 32++p,F++w.drop 32,F++p,F++o]=P.drop 32++(F++F)++F:=by simp[hdL,(Xg la p).1,(Xg lF (w.drop 32)).1,(Xg lF p).1,(Xg lF o).1]
    have ht':tlL [P.drop 32++p,F++w.drop 32,F++p,F++o]=p++(w.drop 32++p)++o:=by simp[tlL,(Xg la p).2,(Xg lF (w.drop 32)).2,(Xg lF p).2,(Xg lF o).2]
    have o1:G[8]?=some ⟨u8s (hdL [P.drop 32++p,F++w.drop 32,F++p,F++o]),true,true,false,32⟩:=by rw[hh,hG,hG1,hG0];rfl
    have o2:G[10]?=some ⟨u8s (tlL [P.drop 32++p,F++w.drop 32,F++p,F++o]),true,true,false,32⟩:=by rw[ht',hG,hG1,hG0];rfl
    obtain⟨TT,E,l,lT,ht,hd⟩:=D9 (c1:=4) (c2:=4) o1 o2 (ni ⟨m1,y1⟩ ⟨m2,y2⟩ ⟨m3,y3⟩ ⟨m4,y4⟩) (by show 4<=20;decide)
    have lG:G.length=11:=by rw[hG,hG1,hG0];rfl
    have pG:∀i,i<7->(G++l)[i]?=[({c:=u8s P}:Ob),{c:=u8s F},{c:=O},{c:=u8s zK},{c:=u8s zK},{c:=u8s (P.drop 32++(F++F))},{c:=u8s (p++(w.drop 32++p))},{c:=u8s F}][i]? := fun i hi=>by rw[Qc qr,hG,Qt,Qc qr,hG1,Qc (by rw[hG0];show i<8;omega),hG0]
    obtain⟨G5,hG5⟩:∃X,X=G++l:=⟨_,rfl⟩
    rw[<-hG5]at pG
    have lG5:7<=G5.length:=by rw[hG5,Qj];omega
    rw[<-hG5,show[P.drop 32++p,F++w.drop 32,F++p,F++o].length=4 from rfl]at ht
    have g0:∀m:List Ob,(G5++m)[0]?=some {c:=u8s P}:=fun m=>by rw[Qc qr,pG 0 ww];rfl
    have g2:∀m:List Ob,(G5++m)[2]?=some {c:=O}:=fun m=>by rw[Qc qr,pG 2 ww];rfl
    have g4:∀m:List Ob,(G5++m)[3]?=some {c:=u8s zK}:=fun m=>by rw[Qc qr,pG 3 ww];rfl
    have g5:∀(m:List Ob) x,((G5++m).set 3 x)[4]?=some {c:=u8s zK}:=fun m x=>by rw[Qu ww,Qc qr,pG 4 ww];rfl
    have s4:∀(m:List Ob) x y,(((G5++m).set 3 x).set 4 y)[3]?=some x:=fun m x y=>by rw[Qu ww];exact Qw (by simp;omega)
    have s5:∀(m:List Ob) x y,(((G5++m).set 3 x).set 4 y)[4]?=some y:=fun m x y=>Qw (by simp;omega)
    rcases hd with⟨hg,rfl,rfl⟩|⟨hg,rfl,rfl⟩
    · refine⟨Xr [P.drop 32++p,F++w.drop 32,F++p,F++o],bdL (pbL P) w,0,?_,lT,lbd,.inl ⟨hg,rfl,rfl,rfl⟩⟩
      have sp:=QH (cs:=u8s zK) (v:=u8s (Xr [P.drop 32++p,F++w.drop 32,F++p,F++o])) (by rw[Qq,Qq,lT,lz])
      have sp2:=QH (cs:=u8s zK) (v:=u8s (bdL (pbL P) w)) (by rw[Qq,Qq,lbd,lz])
      clear hg hG hG5 hG0 hG1 o1 o2 hh ht' hL ho hb pG xP xw xF xo xp y1 y2 y3 y4 xa xw2 h
      generalize Xr [P.drop 32++p,F++w.drop 32,F++p,F++o]=TL at *
      generalize P.drop 32++(F++F)=A1,p++(w.drop 32++p)=A2,bdL (pbL P) w=BD at *
      generalize pbL P=PB,P.drop 32=Pa,w.drop 32=wa at *
      generalize zK=Z at *
      apply QE (fn:=Fi) rfl
      simp only[Fi,Qr,quiet,cW,↓pW,reduceCtorEq,seval,-Qb,hz,fz,t2,hc,tw,n0,r1,r2,r3,r4,ok1,ok2,ok3,rfo,q1,q2,q3,q4,hq,hap1,hap2,g13,lG1,ht,g0,g2,g4,g5,s4,s5,hper,hbd,sp,sp2,spz,im,lP,lF,la,lp,lw,lw2,lo,lz,lT,lpb,lbd,Qx,Qy,Q5,Za,Q6,Qq,Qe,QR]
      rfl
    · refine⟨zK,zK,50,?_,rfl,rfl,.inr ⟨hg,rfl,rfl,rfl⟩⟩
      have sp:=spz
      have sp2:=spz
      clear hg hG hG5 hG0 hG1 o1 o2 hh ht' hL ho hb pG xP xw xF xo xp y1 y2 y3 y4 xa xw2 h
      generalize P.drop 32++(F++F)=A1,p++(w.drop 32++p)=A2,bdL (pbL P) w=BD at *
      generalize pbL P=PB,P.drop 32=Pa,w.drop 32=wa at *
      generalize zK=Z at *
      apply QE (fn:=Fi) rfl
      simp only[Fi,Qr,quiet,cW,↓pW,reduceCtorEq,seval,-Qb,hz,fz,t2,hc,tw,n0,r1,r2,r3,r4,ok1,ok2,ok3,rfo,q1,q2,q3,q4,hq,hap1,hap2,g13,lG1,ht,g0,g2,g4,g5,s4,s5,hper,hbd,sp,sp2,spz,im,lP,lF,la,lp,lw,lw2,lo,lz,lT,lpb,lbd,Qx,Qy,Q5,Za,Q6,Qq,Qe,QR]
      rfl
theorem aO{P w:List Nat}(lP:P.length=64)(lF:F.length=32)(h:OffL w p o g)(hc:evVal T 11 [.agg (Jk w p o i j g).toArray]=some (.int .i64 c))(h0:c≠0) :
  evVal T 8 [.agg (u8s P).toArray,.agg (u8s F).toArray,.agg (Jk w p o i j g).toArray]=some (.tuple #[.agg (u8s zK).toArray,.agg (u8s zK).toArray,.int .i64 c]):=by
 have n0:=Xl (i:=i) (j:=j) h
 have tw:Zi 194 (Jk w p o i j g)=Jk w p o i j g:=Qm (by rw[n0];decide)
 have hz:Qa 32 (Value.int .u8 0)=u8s zK:=rfl
 have fz:fillL (u8s zK) []=some (u8s zK):=rfl
 have lz:=Yk
 have spz:=QH (cs:=u8s zK) (v:=u8s zK) rfl
 have im:∀k,Q1 0 [] [k]=[]:=fun k=>QB wd
 have ok1:∀L:List Value,(Value.agg L.toArray).cells.toList=L:=fun _=>rfl
 have ok2:∀L:List Value,(Value.agg L.toArray).cells.size=L.length:=fun _=>rfl
 have ok3:∀L:List Value,Z7 (Value.agg L.toArray)=true:=fun _=>rfl
 have rfo:rf (.agg (Jk w p o i j g).toArray)=true:=U9 _ _ _ _ _ _
 have hne:(c != 0)=true:=bne_iff_ne.2 h0
 generalize Jk w p o i j g=O at *
 generalize zK=Z at *
 apply QE (fn:=Fi) rfl
 simp only[Fi,Qr,quiet,cW,↓pW,reduceCtorEq,seval,-Qb,hz,fz,hc,hne,tw,n0,ok1,ok2,ok3,rfo,spz,im,lP,lF,lz,Qx,Qy,Q5,Za,Q6,Qq,Qe,QR]
 rfl
end Go.Ev.YtoipgdjfhahimaaGreat
namespace Go.Ev.YtoipgdjfhahimaaGreat
open Go Go.Ev
attribute [local congr] JE JW JD JX Jz
set_option maxRecDepth 100000
variable{i j:Nat}{w p o g F l:List Nat}
theorem oR(h:OffL w p o g)(xw:∀y∈w,y<256):evVal T 9 [.agg (Jk w p o i j g).toArray]=some (.agg (Jk w p o i j g).toArray):=by
 have lw:=h.lw
 have lp:=h.lp
 have lo:=h.lo
 have lg:=h.lg
 have n0:=Xl (i:=i) (j:=j) h
 have r1:=Cq (i:=i) (j:=j) h
 have r2:=B3 (i:=i) (j:=j) h
 have r3:=Tb (i:=i) (j:=j) h
 have r4:=(B4 (i:=i) (j:=j) h).1
 have r5:=(B4 (i:=i) (j:=j) h).2
 have r6:=Cr (i:=i) (j:=j) h
 have tw:Zi 194 (Jk w p o i j g)=Jk w p o i j g:=Qm (by rw[n0];decide)
 have hf:=aE (i:=i) (j:=j) h
 have hp:=oQ lw xw
 have nz:Vg.length=194:=rfl
 have sO:splice Vg 0 (Jk w p o i j g)=Jk w p o i j g:=QH (by rw[n0,nz])
 have ok1:∀L:List Value,(Value.agg L.toArray).cells.toList=L:=fun _=>rfl
 have ok2:∀L:List Value,(Value.agg L.toArray).cells.size=L.length:=fun _=>rfl
 have ok3:∀L:List Value,Z7 (Value.agg L.toArray)=true:=fun _=>rfl
 have im:∀k,Q1 0 [] [k]=[]:=fun k=>QB wd
 generalize Jk w p o i j g=O at *
 apply QE (fn:=yq) rfl
 simp only[yq,Qr,quiet,cW,↓pW,reduceCtorEq,seval,-Qb,n0,nz,r1,r2,r3,r4,r5,r6,tw,hf,hp,sO,im,ok1,ok2,ok3,lw,lp,lo,lg,Qx,Qy,Q5,Za,Q6,Qq,Qe,QR]
 rfl
def pTam:List Nat:=kE 1++kE 2
structure Tam(O:List Value)(c:Int)(S:List Nat)(E:Int):Prop where
 n0:O.length=194
 rfo:rf (.agg O.toArray)=true
 dof:evVal T 9 [.agg O.toArray]=some (.agg O.toArray)
 dch:evVal T 11 [.agg O.toArray]=some (.int .i64 c)
 ch:evVal T 10 [.agg O.toArray]=some (.int .i64 c)
 be:evVal T 7 [.agg (u8s pTam).toArray,.agg (u8s (kE 3)).toArray,.agg O.toArray]=some (.tuple #[.agg (u8s S).toArray,.int .i64 E])
 lS:S.length=64
 hE:c=0/\True\/(c==0)=false/\E=c
theorem VH{a:Nat}(h:∀y∈l,y<256)(ha:a<256):∀y∈l.set i a,y<256:=fun y hy=>(List.mem_or_eq_of_mem_set hy).elim (h y) (fun e=>e▸ha)
theorem N3{k:List Nat}(lk:k.length=32)(ll:l.length=32):vEq (some (Qa 32 true)) false (.agg (u8s k).toArray) (.agg (u8s l).toArray)=some (.bool (k==l)):=by
 rw[Lf,XZ lk ll]
 rfl
theorem aZ{P:List Nat}(lP:P.length=64)(xP:∀y∈P,y<256)(lF:F.length=32)(xF:∀y∈F,y<256)(h:OffL w p o g)(xw:∀y∈w,y<256)(xp:∀y∈p,y<256)(xo:∀y∈o,y<256)(xg:∀y∈g,y<256)(hi:i<2^32) :
  ∃S1 S2 E c,S1.length=32/\S2.length=32/\evVal T 7 [.agg (u8s P).toArray,.agg (u8s F).toArray,.agg (Jk w p o i j g).toArray]=some (.tuple #[.agg (u8s (S1++S2)).toArray,.int .i64 E])/\evVal T 8 [.agg (u8s P).toArray,.agg (u8s F).toArray,.agg (Jk w p o i j g).toArray]=some (.tuple #[.agg (u8s S1).toArray,.agg (u8s S2).toArray,.int .i64 E])/\evVal T 10 [.agg (Jk w p o i j g).toArray]=some (.int .i64 c)/\evVal T 11 [.agg (Jk w p o i j g).toArray]=some (.int .i64 c):=by
 obtain⟨c,h1,h2⟩:=OA (j:=j) h xw xp xg
 have h3:=oX (j:=j) h xw xp xg hi h2
 by_cases hc:c=0
 ·subst hc
  obtain⟨S,E,a1,a2,a3⟩:=IT lP xP lF xF h xw xp xo h1
  obtain⟨S1,S2,E',k1,k2,k3,k4⟩:=aP lP xP lF xF h xw xp xo h3
  refine⟨S1,S2,E',0,k2,k3,?_,k1,h1,h3⟩
  rcases a3 with⟨b1,rfl,rfl⟩|⟨b1,rfl,rfl⟩<;>rcases k4 with⟨c1,rfl,rfl,rfl⟩|⟨c1,rfl,rfl,rfl⟩
  ·exact a1
  ·exact absurd b1 c1
  ·exact absurd c1 b1
  ·exact a1
 ·exact⟨zK,zK,c,c,rfl,rfl,gT lP lF h h1 hc,aO lP lF h h3 hc,h1,h3⟩
theorem gR{P:List Nat}(lP:P.length=64)(xP:∀y∈P,y<256)(lF:F.length=32)(xF:∀y∈F,y<256)(h:OffL w p o g)(xw:∀y∈w,y<256)(xp:∀y∈p,y<256)(xo:∀y∈o,y<256)(xg:∀y∈g,y<256)(hi:i<2^32) :
  ∃l,Z6 T 3 [.agg (u8s P).toArray,.agg (u8s F).toArray,.agg (Jk w p o i j g).toArray] []=some (.bool true,l,[]):=by
 have hmt:=sL
 obtain⟨p1,x1⟩:=YY lP xP
 obtain⟨p2,x2⟩:=Kq lP xP
 obtain⟨e1,e2⟩:=YN lP
 have fP:=XF p1 p2
 rw[Zn]at fP
 obtain⟨S1,S2,E,c,l1,l2,h1,h2,h3,h4⟩:=aZ (j:=j) lP xP lF xF h xw xp xo xg hi
 have h5:=oR (i:=i) (j:=j) h xw
 have n0:=Xl (i:=i) (j:=j) h
 have tw:Zi 194 (Jk w p o i j g)=Jk w p o i j g:=Qm (by rw[n0];decide)
 have hz:Qa 32 (Value.int .u8 0)=u8s zK:=rfl
 have hz64:=KO
 have lz:=Yk
 have lz64:(Qa 64 0).length=64:=Qe
 have lS:(S1++S2).length=64:=by rw[Qj,l1,l2]
 obtain⟨g1,g2⟩:=YN lS
 rw[(Xg l1 S2).1]at g1
 rw[(Xg l1 S2).2]at g2
 have sp:=QH (cs:=u8s (Qa 64 0)) (v:=u8s (S1++S2)) (by rw[Qq,Qq,lz64,lS])
 have sp1:=QH (cs:=u8s zK) (v:=u8s S1) (by rw[Qq,Qq,l1,lz])
 have sp2:=QH (cs:=u8s zK) (v:=u8s S2) (by rw[Qq,Qq,l2,lz])
 have q1:=N3 l1 l1
 have q2:=N3 l2 l2
 rw[beq_self_eq_true]at q1 q2
 have im:∀k,Q1 0 [] [k]=[]:=fun k=>QB wd
 have r2:rf (Value.tuple #[.agg (u8s (S1++S2)).toArray,.int .i64 E])=true:=K9 (VL _) rfl
 have r3:rf (Value.tuple #[.agg (u8s S1).toArray,.agg (u8s S2).toArray,.int .i64 E])=true:=by
  simp[rf,VL,AZ]
 have ok1:∀L:List Value,(Value.agg L.toArray).cells.toList=L:=fun _=>rfl
 have ok2:∀L:List Value,(Value.agg L.toArray).cells.size=L.length:=fun _=>rfl
 have ok3:∀L:List Value,Z7 (Value.agg L.toArray)=true:=fun _=>rfl
 have rfo:rf (.agg (Jk w p o i j g).toArray)=true:=U9 _ _ _ _ _ _
 clear x1 x2 xP xF xw xp xo xg h
 generalize Jk w p o i j g=O at *
 generalize S1++S2=S at *
 generalize P.take 32=P1,P.drop 32=P2 at *
 generalize zK=Z at *
 generalize Qa 64 0=Z64 at *
 apply Exists.intro
 rw[QY (fn:=yr) rfl]
 simp only[yr,Qr,quiet,cW,↓pW,reduceCtorEq,seval,-Qb,hmt,hz,hz64,e1,e2,fP,tw,n0,h1,h2,h3,h4,h5,g1,g2,sp,sp1,sp2,q1,q2,im,r2,r3,ok1,ok2,ok3,rfo,lP,lF,p1,p2,l1,l2,lz,lz64,lS,Qx,Qy,Q5,Za,Q6,Qq,Qe,QR]
 rfl
theorem kT(a:List Nat)(i j:Int)(b:List Nat):Bw (.agg (u8s a++(.int .u32 i::.int .u32 j::u8s b)).toArray)=true:=by
 show(u8s a++(.int .u32 i::.int .u32 j::u8s b)).toArray.toList.all Z4=true
 rw[show(u8s a++(.int .u32 i::.int .u32 j::u8s b)).toArray.toList=u8s a++(.int .u32 i::.int .u32 j::u8s b) from rfl]
 simp[u8s,Z4]
theorem aY{P a b:List Nat}(lP:P.length=64)(xP:∀y∈P,y<256)(lF:F.length=32)(xF:∀y∈F,y<256)(la:a.length=128)(lb:b.length=64)(xa:∀y∈a,y<256)(xb:∀y∈b,y<256)(hi:i<2^32)(hj:j<2^32) :
  ∃l,Z6 T 3 [.agg (u8s P).toArray,.agg (u8s F).toArray,.agg (u8s a++(.int .u32 (i:Nat)::.int .u32 (j:Nat)::u8s b)).toArray] []=some (.bool true,l,[]):=by
 have e:u8s a++(.int .u32 (i:Nat)::.int .u32 (j:Nat)::u8s b)=Jk (a.take 64) ((a.drop 64).take 32) (a.drop 96) i j b:=by
  rw[Jk,<-Qt,<-Qt,<-JF,<-JF]
  congr 2
  rw[Qt,show a.drop 96=(a.drop 64).drop 32 by rw[List.drop_drop],Zn,Zn]
 rw[e]
 exact gR lP xP lF xF ⟨by rw[Q3,la];rfl,by rw[Q3,QN,la];rfl,by rw[QN,la],lb⟩ (fun y hy=>xa y (QP hy)) (fun y hy=>xa y (ZF (QP hy))) (fun y hy=>xa y (ZF hy)) xb hi
end Go.Ev.YtoipgdjfhahimaaGreat

/- What the law leans on, part 6. -/
import Derived.Test.YtpgphpkjlpkcbaaGreatAo5
set_option linter.unusedSimpArgs false
set_option linter.unusedVariables false
open Exists renaming intro → J4
open List renaming append_assoc → Qu, append_nil → QA, cons_append → Qo, drop → Jo, drop_zero → ZD, flatten_append → ZE, flatten_cons → QL, flatten_nil → ZG, getElem?_append_left → Qc, getElem?_append_right → Qh, getElem?_eq_getElem → Qe, getElem?_eq_some_iff → Qg, getElem?_set_ne → Qt, getElem?_set_self → Q1, length_append → Qj, length_cons → Zo, length_drop → QP, length_map → KO, length_nil → ZC, length_replicate → Qf, length_set → Q0, length_take → Q4, mem_append → QF, mem_cons_of_mem → KV, mem_map → JB, mem_of_getElem? → Qn, mem_of_mem_take → QU, mem_singleton → JW, nil_append → Qm, reduceReplicate → Qb, replicate → Qa, set_append_right → Z4, take → Zf, take_add_one → Z5, take_append_drop → Z7, take_of_length_le → Ql, take_zero → Jz
open Nat renaming add_sub_cancel_left → Qw, le_refl → Qr, lt_of_lt_of_le → QK, min_eq_left → Zp, mod_lt → Q6, sub_self → Q3, succ_mul → sV
open Option renaming bind_none → K9, bind_some → Qp
namespace Go.Ev.YtpgphpkjlpkcbaaGreat
open Go Go.Ev
set_option maxRecDepth 100000
section
attribute [local congr] JD JU JC JV Jv
variable {n B i x:Nat} {G G0 H:List Ob} {t w k:List Nat} {L:List (List Nat)} {pv pk pz px:Value}
def dmH (kc Z w x P Q:List Nat):List Ob:=[⟨u8s kc,true,true,true,1⟩,⟨u8s w,true,true,true,1⟩,⟨u8s Z,true,true,true,1⟩,⟨ns .u64 x,true,true,true,1⟩,⟨ns .u64 P,true,true,true,1⟩,⟨ns .u64 Q,true,true,true,1⟩]
def dmI (kc Z w x P Q:List Nat) (l:List Ob) (i:Int) (ex:Env):St:=⟨[(2,.pointer (some ⟨0,0,none⟩)),(4,.pointer (some ⟨2,0,none⟩)),(5,.pointer (some ⟨3,0,none⟩)),(6,.pointer (some ⟨4,0,none⟩)),(7,.pointer (some ⟨5,0,none⟩)),(8,.int .i64 i)]++ex,dmH kc Z w x P Q++l,[]⟩
theorem nE {pp pq:Value} {b:Nat} (hi:i<256) (hb:b<256) :
  Q5 T 0 (.block 2 (.loop Mn)) ⟨[(2,pk),(4,pz),(5,px),(6,pp),(7,pq),(8,.int .i64 i),(9,.int .i64 b),(10,.int .i64 0)],H,[]⟩=some (.normal,⟨[(2,pk),(4,pz),(5,px),(6,pp),(7,pq),(8,.int .i64 i),(9,.int .i64 (b/2^(i%8):Nat)),(10,.int .i64 (i%8:Nat)),(43,.bool false)],H,[]⟩):=by
 have e3:(i:Int).tmod 8=((i%8:Nat):Int):=rfl
 have h:=Jf (T:=T) (base:=0) (id:=2) (body:=Mn) (fun k=>⟨[(2,pk),(4,pz),(5,px),(6,pp),(7,pq),(8,.int .i64 i),(9,.int .i64 (b/2^k:Nat)),(10,.int .i64 k)],H,[]⟩) (s':=⟨[(2,pk),(4,pz),(5,px),(6,pp),(7,pq),(8,.int .i64 i),(9,.int .i64 (b/2^(i%8):Nat)),(10,.int .i64 (i%8:Nat)),(43,.bool false)],H,[]⟩) (i%8)
  (fun k hk=>by
   have h16:=Q6 i (by decide:0<8)
   have e1:((k:Int)<((i%8:Nat):Int))=True:=eq_true (by omega)
   have w1:IntKind.i64.wrap ((k:Int)+1)=((k+1:Nat):Int):=ZJ (b:=1) (by omega)
   have hle:b/2^k≤b:=Nat.div_le_self _ _
   have w2:IntKind.i64.wrap (((b/2^k:Nat):Int).tdiv 2)=((b/2^k/2:Nat):Int):=wn (n:=b/2^k/2) (by omega)
   rw [Nat.pow_succ,←Nat.div_div_eq_div_mul]
   generalize b/2^k=v at *
   generalize v/2=u at *
   generalize i%8=m at *
   simp only [Mn,Qs,quiet,cW,↓pW,reduceCtorEq,seval,-Qb,e1,e3,w1,w2])
  (by
   generalize b/2^(i%8)=v at *
   generalize i%8=m at *
   simp only [Mn,Qs,quiet,cW,↓pW,reduceCtorEq,seval,-Qb,e3])
 rw [Nat.pow_zero,Nat.div_one] at h
 exact h
theorem rQ {A B A1 A2:List Nat} {L:Nat} {i:Int} (h4:H[4]?=some ⟨ns .u64 A,true,true,true,1⟩) (h5:H[5]?=some ⟨ns .u64 B,true,true,true,1⟩) (hL:H[L]?=some ⟨ns .u64 A1,true,true,true,1⟩) (h6:6≤L)
 (lA:A.length=32) (lB:B.length=32) (l1:A1.length=32) (l2:A2.length=32) (hc:evVal T 123 [eV A]=some (eV A2)) :
    Yk T 0 (.region [AOper.mk (some 58) (.load (some 32) (.tmp 6)) none,AOper.mk (some 59) (.call 123 [.tmp 58] true) none,AOper.mk (some 60) (.load (some 32) (.tmp 11)) none,AOper.mk none (.store 32 (.tmp 6) (.tmp 59)) none,AOper.mk none (.store 32 (.tmp 7) (.tmp 60)) none] (some [2,4,5,6,7,8]) [(2,3)])
      ⟨[(2,pk),(4,pz),(5,px),(6,.pointer (some ⟨4,0,none⟩)),(7,.pointer (some ⟨5,0,none⟩)),(8,.int .i64 i),(11,.pointer (some ⟨L,0,none⟩)),(54,.bool false)],H,[]⟩
    = some (.normal,⟨[(2,pk),(4,pz),(5,px),(6,.pointer (some ⟨4,0,none⟩)),(7,.pointer (some ⟨5,0,none⟩)),(8,.int .i64 i)],(H.set 4 ⟨ns .u64 A2,true,true,true,1⟩).set 5 ⟨ns .u64 A1,true,true,true,1⟩,[]⟩):=by
  obtain ⟨l,M,hcf⟩:=Ru hc
  have tA:Zf 32 (ns .u64 A)=ns .u64 A:=Qz (by rw [Q7,lA])
  have t1:Zf 32 (ns .u64 A1)=ns .u64 A1:=Qz (by rw [Q7,l1])
  have cA:(ns .u64 A).length=32:=by rw [Q7,lA]
  have cB:(ns .u64 B).length=32:=by rw [Q7,lB]
  have c1:(ns .u64 A1).length=32:=by rw [Q7,l1]
  have c2:(ns .u64 A2).length=32:=by rw [Q7,l2]
  have s1:splice (ns .u64 A) 0 (ns .u64 A2)=ns .u64 A2:=QM (by rw [c2,cA])
  have s2:splice (ns .u64 B) 0 (ns .u64 A1)=ns .u64 A1:=QM (by rw [c1,cB])
  have k1:(Value.agg (ns .u64 A1).toArray).cells.toList=ns .u64 A1:=rfl
  have k2:(eV A2).cells.toList=ns .u64 A2:=rfl
  have z1:(Value.agg (ns .u64 A1).toArray).cells.size=32:=c1
  have z2:(eV A2).cells.size=32:=c2
  have y1:okVar (Value.agg (ns .u64 A1).toArray)=true:=rfl
  have y2:okVar (eV A2)=true:=rfl
  have r1:rf (eV A)=true:=Za _
  have r2:rf (eV A2)=true:=Za _
  have eA:Value.agg (ns .u64 A).toArray=eV A:=rfl
  have h54:∀ o,(H.set 4 o)[5]?=some ⟨ns .u64 B,true,true,true,1⟩:=fun o=>by rw [Qt (by decide)]; exact h5
  have na:(L==4)=false:=by simp; omega
  have nb:(4==L)=false:=by simp; omega
  have nc:¬ L=4:=by omega
  have nd:¬ 4=L:=by omega
  unfold Yk
  rw [X5]
  generalize ns .u64 A=CA,ns .u64 A1=C1,ns .u64 A2=C2,ns .u64 B=CB,eV A2=V2,eV A=V1 at *
  simp only [XN,KL,guardOf,KN,Kr,Vy]
  simp [Qx,opd,JS,Zs,ZY,Env.get,Env.put,liveAt,Jb,storeAt,Q2,hcf,h4,hL,h54,r1,r2,cA,cB,c1,c2,tA,t1,eA,s1,s2,k1,k2,z1,z2,y1,y2,Z9,Y5,St.after,Env.keep,na,nb,nc,nd]
structure DRp (s:LSt) (ax az bx bz:List Nat):Prop where
 nax:Nm ax
 naz:Nm az
 nbx:Nm bx
 nbz:Nm bz
 fax:nf ax=s.1.1
 faz:nf az=s.1.2
 fbx:nf bx=s.2.1
 fbz:nf bz=s.2.2
theorem rO {kc Z x ax az bx bz:List Nat} {l:List Ob} {s:LSt} (lk:kc.length=32) (xk:∀ x∈kc,x<256) (hi:i<256) (hx:Nm x) (h:DRp s ax az bx bz) :
  ∃ ax' az' bx' bz' l',Q5 T 0 Hn (dmI kc Z w x (ax++az) (bx++bz) l i [])=some (.normal,dmI kc Z w x (ax'++az') (bx'++bz') l' ((i:Int)-1) [])∧DRp (Oa (nf x) (num 256 kc/2^i%2==1) s) ax' az' bx' bz':=by
 obtain ⟨b,hb⟩:∃ b,kc[i/8]?=some b:=⟨_,Qe (by omega)⟩
 have hbv:=Kk (B:=256) (by decide) xk hb
 have hbc:=Jk hb
 have lb:=xk b (Qn hb)
 have hbit:b/2^(i%8)%2=num 256 kc/2^i%2:=by
  rw [←hbv,show (256:Nat)=2^8 from rfl,Tb (Q6 _ (by decide)),Nat.div_add_mod]
 have w1:IntKind.i64.wrap ((i:Int).tdiv 8)=((i/8:Nat):Int):=wn (n:=i/8) (by omega)
 have w3:IntKind.i64.wrap ((i:Int)-1)=(i:Int)-1:=Zh (by omega) (by omega)
 have w4:IntKind.i64.wrap (b:Int)=(b:Int):=wn (by omega)
 have e1:((0:Int)≤(i:Int))=True:=eq_true (by omega)
 have e3:(((i/8:Nat):Int)<32)=True:=eq_true (by omega)
 have e5:i/8+1≤32:=by omega
 have t2:((b/2^(i%8):Nat):Int).tmod 2=((num 256 kc/2^i%2:Nat):Int):=by rw [←hbit]; rfl
 obtain ⟨x1,z1,g1,n1,n2,f1,f2⟩:=p9 h.nax h.naz h.nbx h.nbz hx
 obtain ⟨x2,z2,g2,n3,n4,f3,f4⟩:=ae h.nax h.naz
 obtain ⟨x3,z3,g3,n5,n6,f5,f6⟩:=ae h.nbx h.nbz
 rw [h.fax,h.faz,h.fbx,h.fbz] at f1 f2
 rw [h.fax,h.faz] at f3 f4
 rw [h.fbx,h.fbz] at f5 f6
 obtain ⟨-,-,p3⟩:=duo h.nax.len h.naz.len
 obtain ⟨-,-,q3⟩:=duo h.nbx.len h.nbz.len
 obtain ⟨-,-,r3⟩:=duo n1.len n2.len
 obtain ⟨-,-,s3⟩:=duo n3.len n4.len
 obtain ⟨-,-,u3⟩:=duo n5.len n6.len
 have lx:=hx.len
 have hz:=DF
 have lz:=Uy
 have sp0:=OX (z:=[]) Uy r3
 have sp1:=OX (z:=[]) p3 r3
 have sp2:=OX (z:=[]) q3 u3
 have sp3:=OX (z:=[]) p3 s3
 have sp4:=OX (z:=[]) q3 r3
 have hblk:=fun H=>nE (H:=H) (pk := .pointer (some ⟨0,0,none⟩)) (pz := .pointer (some ⟨2,0,none⟩)) (px := .pointer (some ⟨3,0,none⟩)) (pp := .pointer (some ⟨4,0,none⟩)) (pq := .pointer (some ⟨5,0,none⟩)) hi lb
 have im:∀ k,Q2 0 [] [k]=[]:=fun k=>QG (by simp)
 have gl:∀ (o0 o1 o2 o3 o4 o5:Ob) (o:Ob),(o0::o1::o2::o3::o4::o5::(l++[o]))[l.length+1+1+1+1+1+1]?=some o:=fun o0 o1 o2 o3 o4 o5 o=>by
  show (l++[o])[l.length]?=some o
  simp
 have sl:∀ (o0 o1 o2 o3 o4 o5:Ob) (o p:Ob),(o0::o1::o2::o3::o4::o5::(l++[o])).set (l.length+1+1+1+1+1+1) p=o0::o1::o2::o3::o4::o5::(l++[p]):=fun o0 o1 o2 o3 o4 o5 o p=>by
  show o0::o1::o2::o3::o4::o5::(l++[o]).set l.length p=_
  rw [Z4 _ _ (Qr _),Q3]; rfl
 have hbk:=fun H h4 h5 hL=>rQ (H:=H) (A:=ax++az) (B:=bx++bz) (A1:=x1++z1) (A2:=x2++z2) (L:=l.length+1+1+1+1+1+1) (pk := .pointer (some ⟨0,0,none⟩)) (pz := .pointer (some ⟨2,0,none⟩)) (px := .pointer (some ⟨3,0,none⟩)) (i:=i) h4 h5 hL (by omega) p3 q3 r3 s3 g2
 have hbk2:=hbk (dmH kc Z w x (ax++az) (bx++bz)++(l++[⟨ns .u64 (x1++z1),true,true,true,1⟩])) rfl rfl (gl _ _ _ _ _ _ _)
 clear hbk
 simp only [dmH,Qo,Qm,List.set_cons_succ,List.set_cons_zero] at hbk2
 have hlt:=Ut (num 256 kc) i
 obtain ⟨t,ht⟩:∃ t,num 256 kc/2^i%2=t:=⟨_,rfl⟩
 rw [ht] at t2 hlt ⊢
 rcases (show t=0∨t=1 by omega) with rfl | rfl
 ·refine ⟨x2,z2,x1,z1,l++[⟨ns .u64 (x1++z1),true,true,true,1⟩],?_,⟨n3,n4,n1,n2,f3,f4,f1,f2⟩⟩
  clear f1 f2 f3 f4 f5 f6 n1 n2 n3 n4 n5 n6 h hx hbit ht hbv
  generalize ax++az=A at *
  generalize bx++bz=B at *
  generalize x1++z1=A1 at *
  generalize x2++z2=A2 at *
  generalize x3++z3=A3 at *
  generalize Td=Z32 at *
  generalize b/2^(i%8)=bb at *
  generalize i/8=i8 at *
  simp only [dmI,dmH,Qo,Qm,Hn,Qs,quiet,cW,↓pW,reduceCtorEq,seval,-Qb,hz,hbc,w1,w3,w4,e1,e3,e5,t2,hblk,hbk2,Vx,Vo,K9,g1,g2,g3,gl,sl,sp0,sp1,sp2,sp3,sp4,im,p3,q3,r3,s3,u3,lx,lk,lz,Qz,Qy,Q8,Zj,Q9,Q7,Qq,Qf,Za]
 ·refine ⟨x1,z1,x3,z3,l++[⟨ns .u64 (x1++z1),true,true,true,1⟩],?_,⟨n1,n2,n5,n6,f1,f2,f5,f6⟩⟩
  clear f1 f2 f3 f4 f5 f6 n1 n2 n3 n4 n5 n6 h hx hbit ht hbv
  generalize ax++az=A at *
  generalize bx++bz=B at *
  generalize x1++z1=A1 at *
  generalize x2++z2=A2 at *
  generalize x3++z3=A3 at *
  generalize Td=Z32 at *
  generalize b/2^(i%8)=bb at *
  generalize i/8=i8 at *
  simp only [dmI,dmH,Qo,Qm,Hn,Qs,quiet,cW,↓pW,reduceCtorEq,seval,-Qb,hz,hbc,w1,w3,w4,e1,e3,e5,t2,hblk,hbk2,Vx,Vo,K9,g1,g2,g3,gl,sl,sp0,sp1,sp2,sp3,sp4,im,p3,q3,r3,s3,u3,lx,lk,lz,Qz,Qy,Q8,Zj,Q9,Q7,Qq,Qf,Za]
theorem v8 {o0 o1 o2:Ob} {u O1 P Q:List Nat} (lu:u.length=16) (l1:P.length=32) (l2:Q.length=32) (hone:evVal T 109 [.int .u64 1]=some (eV O1)) (f1:fillL (Qa 32 (Value.int .u64 0)) [(0,16,eV O1)]=some (ns .u64 P)) (f2:fillL (Qa 32 (Value.int .u64 0)) [(0,16,eV u),(16,16,eV O1)]=some (ns .u64 Q)) :
  Yk T 0 (.region [AOper.mk (some 26) (.call 109 [.const (.int .u64 1)] true) none,AOper.mk (some 27) (.build (Qa 32 (.int .u64 0)) [(0,16,.tmp 26)]) none,AOper.mk (some 28) (.load (some 16) (.tmp 5)) none,AOper.mk (some 29) (.call 109 [.const (.int .u64 1)] true) none,AOper.mk (some 30) (.build (Qa 32 (.int .u64 0)) [(0,16,.tmp 28),(16,16,.tmp 29)]) none,AOper.mk (some 6) (.alloc (Qa 32 (.int .u64 0))) none,AOper.mk (some 7) (.alloc (Qa 32 (.int .u64 0))) none,AOper.mk none (.store 32 (.tmp 6) (.tmp 27)) none,AOper.mk none (.store 32 (.tmp 7) (.tmp 30)) none] (some [2,4,5,6,7]) [(2,7)])
   ⟨[(2,.pointer (some ⟨0,0,none⟩)),(4,.pointer (some ⟨2,0,none⟩)),(5,.pointer (some ⟨3,0,none⟩))],[o0,o1,o2,⟨ns .u64 u,true,true,true,1⟩],[]⟩
  = some (.normal,⟨[(2,.pointer (some ⟨0,0,none⟩)),(4,.pointer (some ⟨2,0,none⟩)),(5,.pointer (some ⟨3,0,none⟩)),(6,.pointer (some ⟨4,0,none⟩)),(7,.pointer (some ⟨5,0,none⟩))],[o0,o1,o2,⟨ns .u64 u,true,true,true,1⟩,⟨ns .u64 P,true,true,true,1⟩,⟨ns .u64 Q,true,true,true,1⟩],[]⟩):=by
 obtain ⟨l,M,h⟩:=Ru hone
 have cu:(ns .u64 u).length=16:=by rw [Q7,lu]
 have c1:(ns .u64 P).length=32:=by rw [Q7,l1]
 have c2:(ns .u64 Q).length=32:=by rw [Q7,l2]
 have tu:Zf 16 (ns .u64 u)=ns .u64 u:=Qz cu
 have hz:=DF
 have cz:(ns .u64 Td).length=32:=by rw [Q7]; rfl
 have s1:splice (ns .u64 Td) 0 (ns .u64 P)=ns .u64 P:=QM (by rw [c1,cz])
 have s2:splice (ns .u64 Td) 0 (ns .u64 Q)=ns .u64 Q:=QM (by rw [c2,cz])
 have k1:(Value.agg (ns .u64 P).toArray).cells.toList=ns .u64 P:=rfl
 have k2:(Value.agg (ns .u64 Q).toArray).cells.toList=ns .u64 Q:=rfl
 have z1:(Value.agg (ns .u64 P).toArray).cells.size=32:=c1
 have z2:(Value.agg (ns .u64 Q).toArray).cells.size=32:=c2
 have y1:okVar (Value.agg (ns .u64 P).toArray)=true:=rfl
 have y2:okVar (Value.agg (ns .u64 Q).toArray)=true:=rfl
 have r1:rf (eV O1)=true:=Za _
 have r2:rf (.int .u64 1)=true:=rfl
 have eu:Value.agg (ns .u64 u).toArray=eV u:=rfl
 unfold Yk
 rw [X5]
 rw [hz] at f1 f2 ⊢
 generalize ns .u64 Td=ZZ,ns .u64 P=C1,ns .u64 Q=C2,eV O1=V5 at *
 simp only [XN,KL,guardOf,KN,Kr,YU,YV,Vy]
 simp [Qx,opd,JS,Zs,ZY,Env.get,Env.put,liveAt,Jb,storeAt,Q2,Ob.fresh,h,r1,r2,f1,f2,cu,c1,c2,cz,tu,eu,s1,s2,k1,k2,z1,z2,y1,y2,Z9,Y5,St.after,Env.keep]
theorem n1_f:nf (J9 1)=1:=by
 rw [nf,Kd (by decide)]; rfl
theorem n0_f:nf ZP=0:=by decide +kernel
theorem n0_nm:Nm ZP:=⟨rfl,fun x hx=>by have:=(List.mem_replicate.1 hx).2; omega⟩
theorem Iu (lk:k.length=32) (xk:∀ x∈k,x<256) (lw:w.length=32) (xw:∀ x∈w,x<256):evVal T 68 [.agg (u8s k).toArray,.agg (u8s w).toArray]=some (.agg (u8s (Zn k w)).toArray):=by
 obtain ⟨a,ha⟩:∃ x,k[0]?=some x:=⟨_,Qe (by omega)⟩
 obtain ⟨b,hb⟩:∃ x,k[31]?=some x:=⟨_,Qe (by omega)⟩
 have la:=xk a (Qn ha)
 have lb:=xk b (Qn hb)
 obtain ⟨xc,-,-,hK,-⟩:=US lk xk
 have lc:=Oj lk
 have e:Kg k=(k.set 0 (a&&&248)).set 31 ((b&&&127)|||64):=by rw [Kg,Xl ha,Xl hb]; rfl
 have c1:=Jk ha
 have c2:(u8s (k.set 0 (a&&&248)))[31]?=some (.int .u8 (b:Nat)):=Jk (by rw [Qt (by decide)]; exact hb)
 have g1:=Xg k 0 (a&&&248)
 have g2:=Xg (k.set 0 (a&&&248)) 31 ((b&&&127)|||64)
 rw [←e] at g2
 have m1:(a:Int).tmod 8=((a%8:Nat):Int):=rfl
 have m2:(b:Int).tmod 64=((b%64:Nat):Int):=rfl
 have w1:IntKind.u8.wrap ((a:Int)-((a%8:Nat):Int))=((a&&&248:Nat):Int):=by
  rw [←kW la,wrap_u8]; omega
 have w2:IntKind.u8.wrap (((b%64:Nat):Int)+64)=(((b&&&127)|||64:Nat):Int):=by
  rw [←aU lb,wrap_u8]; omega
 have lk0:(k.set 0 (a&&&248)).length=32:=by rw [Q0,lk]
 obtain ⟨x,hx⟩:∃ x,x=dig 65536 16 (num 256 w%2^255):=⟨_,rfl⟩
 have hof:=ti lw xw
 rw [←hx] at hof
 have nx:Nm x:=by rw [hx]; exact Nm.dig _
 have fx:nf x=uOf w:=by rw [hx,nf,Vr (QK (Q6 _ (by decide)) (by decide))]; rfl
 have hone:=KY 1 (by decide)
 have N1:=Xx 1
 have Z1:=n0_nm
 obtain ⟨st,hloop,ax,az,bx,bz,l,rfl,hrp⟩:=Zm (T:=T) (base:=0) (id:=0) (body:=Hn)
  (fun j st=>∃ ax az bx bz l,st=dmI (Kg k) (dig 256 32 0) w x (ax++az) (bx++bz) l ((255:Int)-j) []∧DRp (Gz (num 256 (Kg k)) (uOf w) j) ax az bx bz)
  (Q:=fun st=>∃ ax az bx bz l,st=dmI (Kg k) (dig 256 32 0) w x (ax++az) (bx++bz) l (-1) [(32,.bool false)]∧DRp (Gz (num 256 (Kg k)) (uOf w) 256) ax az bx bz)
  256 (s:=dmI (Kg k) (dig 256 32 0) w x (J9 1++ZP) (x++J9 1) [] 255 []) ⟨_,_,_,_,_,rfl,⟨N1,Z1,nx,N1,n1_f,n0_f,fx,n1_f⟩⟩
  (fun j st hj hs=>by
   obtain ⟨ax,az,bx,bz,l,rfl,h⟩:=hs
   obtain ⟨i,hi⟩:∃ i,i=255-j:=⟨_,rfl⟩
   rw [show (255:Int)-j=(i:Int) by omega]
   obtain ⟨ax',az',bx',bz',l',g1,g2⟩:=rO (w:=w) (Z:=dig 256 32 0) (l:=l) (i:=i) lc xc (by omega) nx h
   rw [fx] at g2
   refine ⟨_,g1,ax',az',bx',bz',l',?_,?_⟩
   ·rw [show (255:Int)-((j+1:Nat):Int)=(i:Int)-1 by omega]
   ·rw [Gz,←hi]; exact g2)
  (fun st hs=>by
   obtain ⟨ax,az,bx,bz,l,rfl,h⟩:=hs
   have e:((0:Int) ≤ -1)=False:=by decide
   refine ⟨_,?_,ax,az,bx,bz,l,rfl,h⟩
   rw [show (255:Int)-((256:Nat):Int) = -1 by omega]
   simp only [dmI,Hn,Qs,quiet,cW,↓pW,reduceCtorEq,seval,-Qb,e])
 obtain ⟨zi,hinv,nzi,fzi⟩:=UB hrp.naz
 obtain ⟨r,hmul,nr,fr⟩:=Xb hrp.nax nzi
 have hby:=Gc nr
 have hfe:nf r=lad (num 256 (Kg k)) (uOf w):=by rw [fr,fzi,hrp.fax,hrp.faz]; exact rS hK
 rw [hfe,show dig 256 32 (lad (num 256 (Kg k)) (uOf w)).val=Zn k w from rfl] at hby
 have lL:=Xq k w
 obtain ⟨q1,q2,q3⟩:=duo hrp.nax.len hrp.naz.len
 have lx:=nx.len
 have hz:Qa 32 (Value.int .u8 0)=u8s (dig 256 32 0):=rfl
 have lz:(dig 256 32 0).length=32:=rfl
 have hz16:=Ky
 have lz16:=X9
 have sp16:splice (ns .u64 ZP) 0 (ns .u64 x)=ns .u64 x:=QM (by rw [Q7,Q7,lx]; rfl)
 have f1:=vq N1.len
 have f2:=mT lx N1.len
 rw [←DF] at f1 f2
 obtain ⟨-,-,L1⟩:=duo N1.len X9
 obtain ⟨-,-,L2⟩:=duo lx N1.len
 have lax:=hrp.nax.len
 have laz:=hrp.naz.len
 have lzi:=nzi.len
 have lr:=nr.len
 have ls1:=N1.len
 have im:∀ k,Q2 0 [] [k]=[]:=fun k=>QG (by simp)
 have hst:=v8 (o0:=⟨u8s (Kg k),true,true,true,1⟩) (o1:=⟨u8s w,true,true,true,1⟩) (o2:=⟨u8s (dig 256 32 0),true,true,true,1⟩) lx L1 L2 hone f1 f2
 simp only [dmI,dmH,QA] at hloop
 simp only [Int.cast_ofNat_Int] at hone
 clear hrp fx fr hfe fzi nr nzi nx N1 Z1 xc xk xw hK e
 generalize J9 1++ZP=O10,x++J9 1=U10 at *
 generalize J9 1=O5,Zn k w=R,Kg k=C,dig 256 32 0=Z,k.set 0 (a&&&248)=K0 at *
 generalize a&&&248=a' at *
 generalize (b&&&127)|||64=b' at *
 generalize ax++az=AX at *
 generalize ZP=Z16 at *
 simp only [Qo,Qm] at hloop
 apply QC (fn:=vO) rfl
 simp only [vO,Qs,quiet,cW,↓pW,reduceCtorEq,seval,-Qb,hz,hz16,c1,c2,g1,g2,m1,m2,w1,w2,hof,hone,f1,f2,hst,Vx,Vo,K9,hloop,hinv,hmul,hby,im,sp16,q1,q2,q3,L1,L2,lk,lk0,lw,lc,lz,lz16,lx,lax,laz,lzi,lr,lL,ls1,Qz,Qy,Q8,Zj,Q9,Q7,Qq,Qf,Za]
 rfl
theorem Du (lk:k.length=32) (xk:∀ x∈k,x<256):evVal T 33 [.agg (u8s k).toArray]=some (.agg (u8s (Zn k QO)).toArray):=by
 have hz:Qa 32 (Value.int .u8 0)=u8s (dig 256 32 0):=rfl
 have lz:(dig 256 32 0).length=32:=rfl
 have h9:=NB
 have hm:=Iu (w:=QO) lk xk (Ze _ _ _) Yn
 have lL:=Xq k QO
 rw [show dig 256 32 9=QO from rfl] at h9
 generalize Zn k QO=R at *
 generalize QO=N9 at *
 generalize dig 256 32 0=Z at *
 apply QC (fn:=vQ) rfl
 simp only [vQ,Qs,quiet,cW,↓pW,reduceCtorEq,seval,-Qb,hz,h9,hm,lk,lz,lL,Qz,Qy,Q8,Zj,Q9,Qq,Qf,Za]
 rfl
theorem RX {P:List Nat} (lP:P.length=64) (xP:∀ y∈P,y<256):evVal T 21 [.agg (u8s P).toArray]=some (.agg (u8s (pbL P)).toArray):=by
 obtain ⟨l1,x1⟩:=B4 lP xP
 obtain ⟨l2,x2⟩:=Vw lP xP
 obtain ⟨t1,t2⟩:=W3 lP
 have hz64:=Ka
 have lz64:(Qa 64 0).length=64:=Qf
 have h1:=ET l1 x1
 have h2:=Du l2 x2
 have m1:=VK (P.take 32)
 have m2:=Xq (P.drop 32) QO
 have q1:=Xz m1 m2
 have lpb:=Y0 P
 rw [show Kp (P.take 32)++Zn (P.drop 32) QO=pbL P from rfl] at q1
 have sp:=QM (cs:=u8s (Qa 64 0)) (v:=u8s (pbL P)) (by rw [Qq,Qq,lz64,lpb])
 have ok1:∀ L:List Value,(Value.agg L.toArray).cells.toList=L:=fun _=>rfl
 have ok2:∀ L:List Value,(Value.agg L.toArray).cells.size=L.length:=fun _=>rfl
 have ok3:∀ L:List Value,okVar (Value.agg L.toArray)=true:=fun _=>rfl
 generalize Qa 64 0=Z64,pbL P=PB,Kp (P.take 32)=A1,Zn (P.drop 32) QO=A2 at *
 generalize P.take 32=P1,P.drop 32=P2 at *
 apply QC (fn:=vS) rfl
 simp only [vS,Qs,quiet,cW,↓pW,reduceCtorEq,seval,-Qb,hz64,t1,t2,h1,h2,q1,sp,ok1,ok2,ok3,l1,l2,lP,lz64,m1,m2,lpb,Qz,Qy,Q8,Zj,Q9,Qq,Qf,Za]
 rfl
theorem Sp {P pre once:List Nat} {pid oid:Nat} (hpid:pid<2^32) (lP:P.length=64) (xP:∀ y∈P,y<256) (l1:pre.length=32) (x1:∀ y∈pre,y<256) (l2:once.length=32) (x2:∀ y∈once,y<256) :
  evVal T 18 [.agg (u8s P).toArray,.agg (u8s pre).toArray,.agg (u8s once).toArray,.int .u32 pid,.int .u32 oid]=some (.agg (Kq P pre once pid oid).toArray):=by
 have hz:Qa 32 (Value.int .u8 0)=u8s zK:=rfl
 have fz:fillL (u8s zK) []=some (u8s zK):=rfl
 have lz:=Uj
 have hp:=RX lP xP
 have hpre:=Du l1 x1
 have honce:=Du l2 x2
 obtain ⟨ls,xs⟩:=B4 lP xP
 obtain ⟨la,xa⟩:=Vw lP xP
 obtain ⟨t1,t2⟩:=W3 lP
 have lb:=Y0 P
 have lpr:=Xq pre QO
 have xpr:=Y4 pre QO
 have lon:=Xq once QO
 have lag:=Xq (P.drop 32) QO
 have xag:=Y4 (P.drop 32) QO
 have hdp:(pbL P).drop 32=Zn (P.drop 32) QO:=YC P
 have K0:OffL (Qa 64 0) (Qa 32 0) (Qa 32 0) (Qa 64 0):=⟨by simp,by simp,by simp,by simp⟩
 have K1:OffL (pbL P) (Qa 32 0) (Qa 32 0) (Qa 64 0):=⟨lb,by simp,by simp,by simp⟩
 have K2:OffL (pbL P) (Zn pre QO) (Qa 32 0) (Qa 64 0):=⟨lb,lpr,by simp,by simp⟩
 have hfill:fillL JY [(0,64,.agg (u8s (pbL P)).toArray),(64,32,.agg (u8s (Zn pre QO)).toArray),(128,1,.int .u32 (pid:Int))]=some (ZT (pbL P) (Zn pre QO) zK pid 0 (Qa 64 0)):=by
  have c1:(Value.agg (u8s (pbL P)).toArray).cells.size=64∧0+64≤JY.length∧okVar (Value.agg (u8s (pbL P)).toArray)=true:=⟨by show (u8s _).length=64; rw [Qq,lb],by rw [VY,JA K0]; decide,rfl⟩
  have c2:(Value.agg (u8s (Zn pre QO)).toArray).cells.size=32∧64+32≤(ZT (pbL P) (Qa 32 0) (Qa 32 0) 0 0 (Qa 64 0)).length∧okVar (Value.agg (u8s (Zn pre QO)).toArray)=true:=⟨by show (u8s _).length=32; rw [Qq,lpr],by rw [JA K1]; decide,rfl⟩
  have c3:(Value.int .u32 (pid:Int)).cells.size=1∧128+1≤(ZT (pbL P) (Zn pre QO) (Qa 32 0) 0 0 (Qa 64 0)).length∧okVar (Value.int .u32 (pid:Int))=true:=⟨rfl,by rw [JA K2]; decide,rfl⟩
  have e1:splice JY 0 (Value.agg (u8s (pbL P)).toArray).cells.toList=ZT (pbL P) (Qa 32 0) (Qa 32 0) 0 0 (Qa 64 0):=by rw [VY]; exact Gi K0 lb
  have e2:splice (ZT (pbL P) (Qa 32 0) (Qa 32 0) 0 0 (Qa 64 0)) 64 (Value.agg (u8s (Zn pre QO)).toArray).cells.toList=ZT (pbL P) (Zn pre QO) (Qa 32 0) 0 0 (Qa 64 0):=Gk K1 lpr
  have e3:splice (ZT (pbL P) (Zn pre QO) (Qa 32 0) 0 0 (Qa 64 0)) 128 (Value.int .u32 (pid:Int)).cells.toList=ZT (pbL P) (Zn pre QO) (Qa 32 0) pid 0 (Qa 64 0):=Ri K2
  unfold fillL
  rw [if_pos c1,e1]
  unfold fillL
  rw [if_pos c2,e2]
  unfold fillL
  rw [if_pos c3,e3]
  rfl
 have K3:OffL (pbL P) (Zn pre QO) zK (Qa 64 0):=⟨lb,lpr,rfl,by simp⟩
 have K4:OffL (pbL P) (Zn pre QO) (Zn once QO) (Qa 64 0):=⟨lb,lpr,lon,by simp⟩
 have K5:OffL (pbL P) (Zn pre QO) (X6 once) (Qa 64 0):=⟨lb,lpr,Rf _,by simp⟩
 have K6:=WT P pre once pid
 have s1:=Bm (i:=pid) (j:=0) K3 lon
 have s2:=Rh (i:=pid) (j:=0) (j':=oid) K4
 have s3:=Gj (i:=pid) (j:=XT once oid) K5 (Wm (P.take 32) (YO (Zn (P.drop 32) QO) (Zn pre QO) pid))
 have n3:=JA (i:=pid) (j:=0) K3
 have n4:=JA (i:=pid) (j:=0) K4
 have n5:=JA (i:=pid) (j:=XT once oid) K5
 have n6:(Kq P pre once pid oid).length=194:=JA K6
 have nz:JY.length=194:=by rw [VY]; exact JA K0
 have hsgd:=dX (i:=pid) (j:=XT once oid) K5 (Gf P) xpr hpid
 rw [hdp] at hsgd
 have hmk:=pt ls xs (m:=YO (Zn (P.drop 32) QO) (Zn pre QO) pid) (fun y hy=>by
   rw [YO] at hy
   rcases QF.1 hy with hy | hy
   ·exact (by decide:∀ y∈YM,y<256) y hy
   rcases QF.1 hy with hy | hy
   ·exact xag y hy
   rcases QF.1 hy with hy | hy
   ·exact xpr y hy
   ·exact mh pid y hy) (by
   rw [YO,Qj,Qj,Qj,lag,lpr]
   show 12+(32+(32+4))<_
   decide)
 have lsg:=Wm (P.take 32) (YO (Zn (P.drop 32) QO) (Zn pre QO) pid)
 have rfm:rf (JK (YO (Zn (P.drop 32) QO) (Zn pre QO) pid))=true:=rfl
 have rfo5:rf (.agg (ZT (pbL P) (Zn pre QO) (X6 once) pid (XT once oid) (Qa 64 0)).toArray)=true:=GV _ _ _ _ _ _
 have tw5:Zf 194 (ZT (pbL P) (Zn pre QO) (X6 once) pid (XT once oid) (Qa 64 0))=ZT (pbL P) (Zn pre QO) (X6 once) pid (XT once oid) (Qa 64 0):=Ql (by rw [n5]; decide)
 have rfo:rf (.agg (Kq P pre once pid oid).toArray)=true:=GV _ _ _ _ _ _
 have ok1:∀ L:List Value,(Value.agg L.toArray).cells.toList=L:=fun _=>rfl
 have ok2:∀ L:List Value,(Value.agg L.toArray).cells.size=L.length:=fun _=>rfl
 have ok3:∀ L:List Value,okVar (Value.agg L.toArray)=true:=fun _=>rfl
 have hq:=U2 (k:=once) (l:=zK) l2 rfl
 have tw:Zf 194 (Kq P pre once pid oid)=Kq P pre once pid oid:=Ql (by rw [n6]; decide)
 have sz:splice JY 0 (Kq P pre once pid oid)=Kq P pre once pid oid:=QM (by rw [n6,nz])
 have szo:splice JY 0 (ZT (pbL P) (Zn pre QO) zK pid 0 (Qa 64 0))=ZT (pbL P) (Zn pre QO) zK pid 0 (Qa 64 0):=QM (by rw [n3,nz])
 have s1':∀ L:List Nat,(Value.agg (u8s L).toArray).cells.toList=u8s L:=fun _=>rfl
 rw [show ZT (pbL P) (Zn pre QO) (X6 once) pid (XT once oid) (Wn (P.take 32) (YO (Zn (P.drop 32) QO) (Zn pre QO) pid))=Kq P pre once pid oid from rfl] at s3
 have bL:∀ (L:List Value) (v:Value),splice L 129 [v]=L.set 129 v:=fun _ _=>rfl
 rw [bL] at s2
 have im:∀ k,Q2 0 [] [k]=[]:=fun k=>QG (by simp)
 clear K0 K1 K2 K3 K4 K5 K6 xs xa xag xpr hdp bL xP x1 x2
 by_cases h:once=zK
 ·have hb:(!(once==zK))=false:=by rw [h]; simp
  rw [hb] at hq
  have ho:ZT (pbL P) (Zn pre QO) (X6 once) pid (XT once oid) (Qa 64 0)=ZT (pbL P) (Zn pre QO) zK pid 0 (Qa 64 0):=by rw [X6,XT,if_pos h,if_pos h]
  rw [ho] at hsgd s3 n5 rfo5 tw5
  clear h hb ho s1 s2
  generalize ZT (pbL P) (Zn pre QO) zK pid 0 (Qa 64 0)=O1,Kq P pre once pid oid=O2,Wn (P.take 32) (YO (Zn (P.drop 32) QO) (Zn pre QO) pid)=SG,JK (YO (Zn (P.drop 32) QO) (Zn pre QO) pid)=SV at *
  generalize pbL P=PB,Zn pre QO=PR,Zn (P.drop 32) QO=AG,Zn once QO=ON at *
  generalize zK=Z at *
  apply QC (fn:=nV) rfl
  simp only [nV,Qs,quiet,cW,↓pW,reduceCtorEq,seval,-Qb,hz,fz,hp,hpre,hfill,szo,hq,t1,hsgd,hmk,rfm,rfo5,tw5,s3,sz,tw,im,nz,n3,n5,n6,ok1,ok2,ok3,lP,l1,l2,lz,ls,lb,lpr,lag,lsg,Qz,Qy,Q8,Zj,Q9,Qq,Qf,Za,rfo]
  rfl
 ·have hb:(!(once==zK))=true:=by simpa using h
  rw [hb] at hq
  have ho:ZT (pbL P) (Zn pre QO) (X6 once) pid (XT once oid) (Qa 64 0)=ZT (pbL P) (Zn pre QO) (Zn once QO) pid oid (Qa 64 0):=by rw [X6,XT,if_neg h,if_neg h]
  rw [ho] at hsgd s3 n5 rfo5 tw5
  clear h hb ho
  generalize ZT (pbL P) (Zn pre QO) (Zn once QO) pid oid (Qa 64 0)=O4,ZT (pbL P) (Zn pre QO) (Zn once QO) pid 0 (Qa 64 0)=O3,ZT (pbL P) (Zn pre QO) zK pid 0 (Qa 64 0)=O1,Kq P pre once pid oid=O2,Wn (P.take 32) (YO (Zn (P.drop 32) QO) (Zn pre QO) pid)=SG,JK (YO (Zn (P.drop 32) QO) (Zn pre QO) pid)=SV at *
  generalize pbL P=PB,Zn pre QO=PR,Zn (P.drop 32) QO=AG,Zn once QO=ON at *
  generalize zK=Z at *
  apply QC (fn:=nV) rfl
  simp only [nV,Qs,quiet,cW,↓pW,reduceCtorEq,seval,-Qb,hz,fz,hp,hpre,honce,hfill,szo,hq,s1,s2,t1,hsgd,hmk,rfm,rfo5,tw5,s3,sz,tw,im,nz,n3,n4,n5,n6,ok1,ok2,ok3,lP,l1,l2,lz,ls,lb,lpr,lon,lag,lsg,Qz,Qy,Q8,Zj,Q9,Qq,Qf,Za,rfo]
  rfl
def OutS (K:Nat→Prop) (G:List Ob) (v:Value) (t:List Nat):Prop:=(∃ id,¬ K id∧v=.slice (some ⟨id,0,none⟩) t.length t.length∧G[id]?=some ⟨u8s t,true,true,true,1⟩)∨Rst K G v t
theorem OutS.append {K:Nat→Prop} {G:List Ob} {v x:Value} {t p:List Nat} (h:OutS K G v t) (hK:∀ i,K i→i<G.length) (hl:Go.Ev.lenV x=some p.length) (he:elemsOf G 1 p.length x=some (u8s p)) (hb:t.length+p.length≤2^47) :
  ∃ v' G' M,Jh 1 1 G v x=some (v',G',none,M)∧OutS K G' v' (t++p)∧(∀ i∈M,¬ K i)∧G.length≤G'.length∧∀ i,K i→G'[i]?=G[i]? := by
 rcases h with ⟨id,h1,rfl,h2⟩ | h
 ·rcases Nat.eq_zero_or_pos p.length with hn | hn
  ·have:p=[]:=List.eq_nil_of_length_eq_zero hn
   subst this
   refine ⟨_,G,[],?_,.inl ⟨id,h1,by rw [QA],by rw [QA]; exact h2⟩,by simp,Qr _,fun _ _=>rfl⟩
   have he':elemsOf G 1 0 x=some []:=he
   have hl':Go.Ev.lenV x=some 0:=hl
   simp only [Jh,hl',he',Qp,if_true]
  ·have h8:elemsOf G 1 t.length (.slice (some ⟨id,0,none⟩) t.length t.length)=some (u8s t):=by
    simp [elemsOf,Zy h2 rfl,Qq]
    exact Ql (by rw [Qq]; exact Qr _)
   have hz:¬ p.length=0:=by omega
   have h3:(t.length+p.length)*1≤2^47∧0<1∧0<1:=⟨by omega,by decide,by decide⟩
   have h4:¬ (t.length+p.length≤t.length):=by omega
   refine ⟨.slice (some ⟨G.length,0,none⟩) (t++p).length (t++p).length,G++[⟨u8s (t++p),true,true,false,1⟩],[],?_,.inr (.own (fun hk=>by have:=hK _ hk; omega) (by rw [Qh (Qr _),Q3]; rfl) (by omega) (fun i _=>by rw [Nat.zero_add])),by simp,by simp,fun i hi=>by rw [Qc (hK i hi)]⟩
   simp only [Jh,hl,he,h8,Zy h2 rfl,Qp,if_neg hz,h3,h4,and_self,not_true_eq_false,if_false,if_true,Ob.grown,J8,Qj]
 ·obtain ⟨v',G',M,k1,k2,k3,k4,k5,-⟩:=h.append hK hl he hb
  exact ⟨v',G',M,k1,.inr k2,k3,k4,k5⟩
theorem OutS.setK {K:Nat→Prop} {G:List Ob} {v:Value} {t:List Nat} (h:OutS K G v t) {j:Nat} (hj:K j) (o:Ob):OutS K (G.set j o) v t:=by
 have hne:∀ id,¬ K id→(G.set j o)[id]?=G[id]? := fun id hid=>Qt (by rintro rfl; exact hid hj)
 rcases h with ⟨id,h1,h0,h2⟩ | h
 ·exact .inl ⟨id,h1,h0,by rw [hne id h1]; exact h2⟩
 ·refine .inr ?_
  cases h with
  | nil=>exact .nil
  | empty h1 h2=>exact .empty h1 (by rw [hne _ h1]; exact h2)
  | own h1 h2 h4 h3=>exact .own h1 (by rw [hne _ h1]; exact h2) h4 h3
theorem OutS.app {K:Nat→Prop} {G m:List Ob} {v:Value} {t:List Nat} (h:OutS K G v t):OutS K (G++m) v t:=by
 rcases h with ⟨id,h1,h0,h2⟩ | h
 ·exact .inl ⟨id,h1,h0,by rw [Qc (Qg.1 h2).1]; exact h2⟩
 ·exact .inr h.app
theorem OutS.shape {K:Nat→Prop} {G:List Ob} {v:Value} {t:List Nat} (h:OutS K G v t):∃ a c,v=.slice a t.length c:=by
 rcases h with ⟨id,-,rfl,-⟩ | h
 ·exact ⟨_,_,rfl⟩
 ·exact h.shape
theorem OutS.okVar {K:Nat→Prop} {G:List Ob} {v:Value} {t:List Nat} (h:OutS K G v t):okVar v=true:=by
 obtain ⟨a,c,rfl⟩:=h.shape; rfl
theorem OutS.cells {K:Nat→Prop} {G:List Ob} {v:Value} {t:List Nat} (h:OutS K G v t):v.cells.toList=[v]∧v.cells.size=1:=by
 obtain ⟨a,c,rfl⟩:=h.shape; exact ⟨rfl,rfl⟩
def wob (v:Value):Ob:=⟨[v],true,true,true,1⟩
structure Wr (K:Nat→Prop) (G:List Ob) (wid:Nat) (v:Value) (t:List Nat):Prop where
 ob:G[wid]?=some (wob v)
 kw:K wid
 kl:∀ i,K i→i<G.length
 out:OutS K G v t
theorem Wr.put {K:Nat→Prop} {G:List Ob} {wid:Nat} {v x:Value} {t p:List Nat} (h:Wr K G wid v t) (hl:Go.Ev.lenV x=some p.length) (he:elemsOf G 1 p.length x=some (u8s p)) (hb:t.length+p.length≤2^47) :
  ∃ v' G' M,Jh 1 1 G v x=some (v',G',none,M)∧G'[wid]?=some (wob v)∧v'.cells.toList=[v']∧v'.cells.size=1∧okVar v'=true∧Wr K (G'.set wid (wob v')) wid v' (t++p)∧(∀ i∈M,¬ K i)∧G.length≤G'.length∧∀ i,K i→i≠wid→(G'.set wid (wob v'))[i]?=G[i]? := by
 obtain ⟨v',G',M,k1,k2,k3,k4,k5⟩:=h.out.append h.kl hl he hb
 have hw:=(k5 wid h.kw).trans h.ob
 refine ⟨v',G',M,k1,hw,k2.cells.1,k2.cells.2,k2.okVar,⟨by rw [Q1 (Qg.1 hw).1],h.kw,fun i hi=>by rw [Q0]; exact QK (h.kl i hi) k4,k2.setK h.kw _⟩,k3,k4,fun i hi hne => ?_⟩
 rw [Qt (fun e=>hne e.symm)]
 exact k5 i hi
theorem Wr.app {K:Nat→Prop} {G m:List Ob} {wid:Nat} {v:Value} {t:List Nat} (h:Wr K G wid v t):Wr K (G++m) wid v t :=
 ⟨by rw [Qc (Qg.1 h.ob).1]; exact h.ob,h.kw,fun i hi=>by rw [Qj]; exact QK (h.kl i hi) (Nat.le_add_right _ _),h.out.app⟩
theorem Fu {K:Nat→Prop} {wid:Nat} {v:Value} (h:Wr K G wid v t) (hb:t.length≤2^46) :
  ∃ v' G' M,Z6 T 67 [.pointer (some ⟨wid,0,none⟩),.int .u32 n] G=some (.tuple #[],G',M)∧Wr K G' wid v' (t++id4 n)∧G.length≤G'.length∧(∀ i∈M,i=wid∨¬ K i)∧∀ i,K i→i≠wid→G'[i]?=G[i]? := by
 have s1:(n:Int).fdiv (2^min 24 IntKind.u32.bits)=((n/2^24:Nat):Int):=Db (r:=24) (by decide)
 have s2:(n:Int).fdiv (2^min 16 IntKind.u32.bits)=((n/2^16:Nat):Int):=Db (r:=16) (by decide)
 have s3:(n:Int).fdiv (2^min 8 IntKind.u32.bits)=((n/2^8:Nat):Int):=Db (r:=8) (by decide)
 have w1:=Wy (n/2^24)
 have w2:=Wy (n/2^16)
 have w3:=Wy (n/2^8)
 have w4:=Wy n
 have f2:∀ x0 x1 x2 x3:Nat,fillL [Value.int .u8 0,.int .u8 0,.int .u8 0,.int .u8 0] [(0,1,.int .u8 (x0:Int)),(1,1,.int .u8 (x1:Int)),(2,1,.int .u8 (x2:Int)),(3,1,.int .u8 (x3:Int))]=some (u8s [x0,x1,x2,x3]):=fun _ _ _ _=>rfl
 have hx:(G++[(⟨u8s (id4 n),true,true,true,1⟩:Ob)])[G.length]?=some ⟨u8s (id4 n),true,true,true,1⟩:=by rw [Qh (Qr _),Q3]; rfl
 have he:elemsOf (G++[(⟨u8s (id4 n),true,true,true,1⟩:Ob)]) 1 (id4 n).length (.slice (some ⟨G.length,0,none⟩) 4 4)=some (u8s (id4 n)):=by
  exact WY (c:=4) hx
 obtain ⟨v',G',M,k1,k2,k3,k4,k5,k6,k7,k8,k9⟩:=(h.app (m:=[(⟨u8s (id4 n),true,true,true,1⟩:Ob)])).put (p:=id4 n) (x := .slice (some ⟨G.length,0,none⟩) 4 4) rfl he (by show _+4≤_; omega)
 rw [Qj] at k8
 refine ⟨v',_,Q2 G.length (Q2 G.length [] M) [wid],?_,k6,by rw [Q0]; omega,?_,fun i hi hne => ?_⟩
 ·have o1:=h.ob
  have o2:(G++[(⟨u8s (id4 n),true,true,true,1⟩:Ob)])[wid]?=some (wob v):=h.app.ob
  unfold wob id4 at *
  generalize n/2^24%256=x0 at *
  generalize n/2^16%256=x1 at *
  generalize n/2^8%256=x2 at *
  generalize n%256=x3 at *
  generalize n/2^24=y0 at *
  generalize n/2^16=y1 at *
  generalize n/2^8=y2 at *
  have sp:∀ a b:Value,splice [a] 0 [b]=[b]:=fun _ _=>rfl
  rw [Zg (fn:=wy) rfl]
  simp only [wy,Qs,quiet,cW,↓pW,reduceCtorEq,seval,-Qb,f2,s1,s2,s3,w1,w2,w3,w4,o1,o2,k1,k2,k3,k4,k5,sp,Qz,Qy,Q8,Zj,Q9,Qq,Qf,Za]
  rfl
 ·intro i hi
  rcases Jp hi with h' | h'
  ·rcases Jp h' with h' | h'
   ·cases h'
   ·exact .inr (k7 i h')
  ·exact .inl (JW.1 h')
 ·rw [k9 i hi hne,Qc (h.kl i hi)]
def shp (k:Int):Option (Nat×Nat×Nat×Bool) :=
 if k=1 then some (4,2,1,false) else if k=2 then some (3,2,0,true) else if k=3 then some (1,2,0,true) else if k=4 then some (3,2,0,false) else if k=5 then some (1,2,1,true) else if k=6 then some (3,3,1,true) else if k=7 then some (1,1,0,true) else none
def shV (a b c:Nat) (d:Bool):List Value:=[.int .i64 a,.int .i64 b,.int .i64 c,.bool d]
theorem oS (k:Int):evVal T 66 [.int .i64 k]=some (match shp k with | some (a,b,c,d)=>.tuple #[.agg (shV a b c d).toArray,.int .i64 0] | none=>.tuple #[.agg (shV 0 0 0 false).toArray,.int .i64 110]):=by
 have hf:∀ (a b c:Int) (d:Bool),fillL [Value.int .i64 0,.int .i64 0,.int .i64 0,.bool false] [(0,1,.int .i64 a),(1,1,.int .i64 b),(2,1,.int .i64 c),(3,1,.bool d)]=some [Value.int .i64 a,.int .i64 b,.int .i64 c,.bool d]:=fun _ _ _ _=>rfl
 have f0:fillL [Value.int .i64 0,.int .i64 0,.int .i64 0,.bool false] []=some [Value.int .i64 0,.int .i64 0,.int .i64 0,.bool false]:=rfl
 have im:∀ k,Q2 0 [] [k]=[]:=fun k=>QG (by simp)
 have sp:∀ (a b c d e f g h:Value),splice [a,b,c,d] 0 [e,f,g,h]=[e,f,g,h]:=fun _ _ _ _ _ _ _ _=>rfl
 apply W8
 by_cases h:k=1∨k=2∨k=3∨k=4∨k=5∨k=6∨k=7
 ·rcases h with rfl | rfl | rfl | rfl | rfl | rfl | rfl <;>
  ·apply J4
   rw [Zg (fn:=nW) rfl]
   simp only [nW,Qs,quiet,cW,↓pW,reduceCtorEq,seval,-Qb,hf,f0,im,sp]
   rfl
 simp only [not_or] at h
 obtain ⟨h1,h2,h3,h4,h5,h6,h7⟩:=h
 have e:shp k=none:=by unfold shp; simp only [h1,h2,h3,h4,h5,h6,h7,if_false]
 rw [e]
 apply J4
 rw [Zg (fn:=nW) rfl]
 simp only [nW,Qs,quiet,cW,↓pW,reduceCtorEq,seval,-Qb,hf,f0,im,sp,beq_eq_false_iff_ne.2 h1,beq_eq_false_iff_ne.2 h2,beq_eq_false_iff_ne.2 h3,beq_eq_false_iff_ne.2 h4,beq_eq_false_iff_ne.2 h5,beq_eq_false_iff_ne.2 h6,beq_eq_false_iff_ne.2 h7]
 rfl
theorem KZ (hL:∀ x∈L,x.length=n):L.flatten.length=L.length*n:=by
 induction L with
 | nil=>simp
 | cons a M ih=>rw [QL,Qj,ih (fun x hx=>hL x (KV _ hx)),hL a (by simp),Zo,sV,Nat.add_comm]
theorem Yw {P:List Nat} (hL:∀ x∈L,x.length=n) (hi:L[i]?=some P):Zf n (Jo (i*n) (u8s L.flatten))=u8s P∧i*n+n≤(u8s L.flatten).length:=by
 have h1:=Qg.1 hi
 have lP:=hL P (Qn hi)
 have e1:L.flatten=(L.take i).flatten++(P++(L.drop (i+1)).flatten):=by
  rw [←QL,←ZE]
  congr 1
  conv=>lhs; rw [←Z7 i L,List.drop_eq_getElem_cons h1.1,h1.2]
 have e2:(L.take i).flatten.length=i*n:=by
  rw [KZ (n:=n) fun x hx=>hL x (QU hx),Q4,Zp (Nat.le_of_lt h1.1)]
 constructor
 ·rw [e1,J8,J8,←e2,←Qq,List.drop_left,←lP,←Qq P,List.take_left]
 ·rw [Qq,KZ hL]
  have:=Nat.mul_le_mul_right n (Nat.succ_le_of_lt h1.1)
  rwa [sV] at this
def Sq (G:List Ob) (es:Nat) (cs:List Value) (n:Nat) (v:Value):Prop:=(v=.slice none 0 0∧n=0∧cs=[])∨∃ id c w e s,v=.slice (some ⟨id,0,none⟩) n c∧G[id]?=some ⟨cs,true,w,e,s⟩∧cs.length=n*es
theorem Sq.app {G m:List Ob} {es:Nat} {cs:List Value} {n:Nat} {v:Value} (h:Sq G es cs n v):Sq (G++m) es cs n v:=by
 rcases h with h | ⟨id,c,w,e,s,h1,h2,h3⟩
 ·exact .inl h
 ·exact .inr ⟨id,c,w,e,s,h1,by rw [Qc (Qg.1 h2).1]; exact h2,h3⟩
theorem Sq.shape {G:List Ob} {es:Nat} {cs:List Value} {n:Nat} {v:Value} (h:Sq G es cs n v):∃ a c,v=.slice a n c:=by
 rcases h with ⟨rfl,rfl,-⟩ | ⟨id,c,w,e,s,rfl,-⟩
 ·exact ⟨_,_,rfl⟩
 ·exact ⟨_,_,rfl⟩
def KE (B i:Nat):Prop:=i<B+4∧i≠B+2
def UZ (B:Nat) (G0 G:List Ob) (t:List Nat):Prop:=∃ v,Wr (KE B) G (B+3) v t∧∀ i,KE B i→i≠B+3→G[i]?=G0[i]?
theorem UM {M:List Nat} (h:∀ i∈M,i=B+3∨¬ KE B i):Q2 B [] M=[]:=QG fun i hi=>by
 rcases h i hi with h | h
 ·omega
 ·rcases Nat.lt_or_ge i B with h' | h'
  ·exact absurd ⟨by omega,by omega⟩ h
  ·exact h'
def _root_.Go.Value.slBlock (v:Value) (id:Nat):Prop:=match v with | .slice (some a) _ _=>a.block=id | _=>False
def EB (B n:Nat) (pv:Value) (i:Nat) (G:List Ob) (ex:Env):St:=⟨[(1,.pointer (some ⟨B,0,none⟩)),(4,.pointer (some ⟨B+1,0,none⟩)),(6,.pointer (some ⟨B+3,0,none⟩)),(68,pv),(69,.int .i64 n),(70,.int .i64 i)]++ex,G,[]⟩
theorem mK {P:List Nat} (hs:Sq G0 32 (u8s L.flatten) n pv) (hB:∀ id,(∃ o,G0[id]?=some o)→pv.slBlock id→id<B) (hL:∀ x∈L,x.length=32) (hi:L[i]?=some P) (hin:i<n) (hn:n≤1000) (lt:t.length≤2^40) (h:UZ B G0 G t) :
  ∃ G',Q5 T B Hp (EB B n pv i G [])=some (.normal,EB B n pv (i+1) G' [])∧UZ B G0 G' (t++P):=by
 rcases hs with ⟨-,rfl,-⟩ | ⟨id,c,w,e,s,rfl,h2,h3⟩
 ·omega
 obtain ⟨v,hw,hf⟩:=h
 have lP:=hL P (Qn hi)
 obtain ⟨c1,c2⟩:=Yw hL hi
 have hid:id<B:=hB id ⟨_,h2⟩ rfl
 have g0:∀ m,(G++m)[id]?=some ⟨u8s L.flatten,true,w,e,s⟩:=fun m=>by
  have:=(hf id ⟨by omega,by omega⟩ (by omega)).trans h2
  rw [Qc (Qg.1 this).1]; exact this
 have g00:=g0 []
 rw [QA] at g00
 have hx:(G++[(⟨u8s P,true,true,true,1⟩:Ob)])[G.length]?=some ⟨u8s P,true,true,true,1⟩:=by rw [Qh (Qr _),Q3]; rfl
 have he:=WY (c:=32) hx
 rw [lP] at he
 obtain ⟨v',G',M,k1,k2,k3,k4,k5,k6,k7,k8,k9⟩:=(hw.app (m:=[(⟨u8s P,true,true,true,1⟩:Ob)])).put (p:=P) (x := .slice (some ⟨G.length,0,none⟩) 32 32) (by rw [lP]; rfl) (by rw [lP]; exact he) (by rw [lP]; omega)
 refine ⟨_,?_,v',k6,fun j hj hne=>by rw [k9 j hj hne,Qc (hw.kl j hj)]; exact hf j hj hne⟩
 have o1:=hw.ob
 have o2:(G++[(⟨u8s P,true,true,true,1⟩:Ob)])[B+3]?=some (wob v):=hw.app.ob
 have hz:Qa 32 (Value.int .u8 0)=u8s (Qa 32 0):=by simp [u8s]
 have lz:(Qa 32 0).length=32:=Qf
 have sp:∀ a b:Value,splice [a] 0 [b]=[b]:=fun _ _=>rfl
 have b3:J7 32 32 none none none=some (0,32,32):=rfl
 have e1:((i:Int)<(n:Int))=True:=eq_true (by omega)
 have w3:IntKind.i64.wrap ((i:Int)+1)=((i+1:Nat):Int):=ZJ (b:=1) (by omega)
 have im:Q2 B [] M=[]:=UM fun j hj=>.inr (k7 j hj)
 have im1:Q2 B [] [B+3]=[]:=QG (by simp)
 have im2:Q2 B [] [G.length]=[]:=QG (by have:=hw.kl (B+3) ⟨by omega,by omega⟩; simp; omega)
 unfold wob at *
 clear h3 hf hL hB hw hi k6 k9 he hx
 generalize Qa 32 0=Z,u8s L.flatten=LF at *
 generalize hik:i*32=ik at *
 generalize hi1:i+1=i1 at *
 simp only [EB,Hp,Qs,quiet,cW,↓pW,reduceCtorEq,seval,-Qb,hz,hik,hi1,e1,w3,g0,g00,c1,c2,o1,o2,k1,k2,k3,k4,k5,sp,b3,im,im1,im2,lP,lz,Qz,Qy,Q8,Zj,Q9,Qq,Qf,Za]
theorem dJ (hs:Sq G0 32 (u8s L.flatten) n pv) (hB:∀ id,(∃ o,G0[id]?=some o)→pv.slBlock id→id<B) (hL:∀ x∈L,x.length=32) (hn:L.length=n) (hm:n≤1000) (lt:t.length≤2^30) (h:UZ B G0 G t) :
  ∃ G',Q5 T B (.block 1 (.loop Hp)) (EB B n pv 0 G [])=some (.normal,EB B n pv n G' [(71,.bool false)])∧UZ B G0 G' (t++L.flatten):=by
 obtain ⟨st,hloop,G',rfl,r⟩:=Zm (T:=T) (base:=B) (id:=1) (body:=Hp)
  (fun k st=>∃ G,st=EB B n pv k G []∧UZ B G0 G (t++(L.take k).flatten))
  (Q:=fun st=>∃ G,st=EB B n pv n G [(71,.bool false)]∧UZ B G0 G (t++L.flatten))
  n (s:=EB B n pv 0 G []) ⟨G,rfl,by rw [Jz,ZG,QA]; exact h⟩
  (fun k st hk hst=>by
   obtain ⟨G1,rfl,h1⟩:=hst
   obtain ⟨P,hP⟩:∃ P,L[k]?=some P:=⟨_,Qe (by omega)⟩
   have lk:(L.take k).flatten.length=k*32:=by rw [KZ (n:=32) fun x hx=>hL x (QU hx),Q4,Zp (by omega)]
   obtain ⟨G2,b0,b1⟩:=mK hs hB hL hP hk hm (by rw [Qj,lk]; omega) h1
   refine ⟨_,b0,G2,rfl,?_⟩
   rw [Z5,hP,ZE,←Qu]
   simpa using b1)
  (fun st hst=>by
   obtain ⟨G1,rfl,h1⟩:=hst
   refine ⟨_,?_,G1,rfl,by rwa [Ql (by omega)] at h1⟩
   simp only [EB,Hp,Qs,quiet,cW,↓pW,reduceCtorEq,seval,-Qb])
 exact ⟨G',hloop,r⟩
def E9 (B n:Nat) (pv:Value) (i:Nat) (G:List Ob) (ex:Env):St:=⟨[(1,.pointer (some ⟨B,0,none⟩)),(4,.pointer (some ⟨B+1,0,none⟩)),(6,.pointer (some ⟨B+3,0,none⟩)),(91,pv),(92,.int .i64 n),(93,.int .i64 i)]++ex,G,[]⟩
theorem mG {P:List Nat} (hs:Sq G0 64 (u8s L.flatten) n pv) (hB:∀ id,(∃ o,G0[id]?=some o)→pv.slBlock id→id<B) (hL:∀ x∈L,x.length=64) (hi:L[i]?=some P) (hin:i<n) (hn:n≤1000) (lt:t.length≤2^40) (h:UZ B G0 G t) :
  ∃ G',Q5 T B Hr (E9 B n pv i G [])=some (.normal,E9 B n pv (i+1) G' [])∧UZ B G0 G' (t++P):=by
 rcases hs with ⟨-,rfl,-⟩ | ⟨id,c,w,e,s,rfl,h2,h3⟩
 ·omega
 obtain ⟨v,hw,hf⟩:=h
 have lP:=hL P (Qn hi)
 obtain ⟨c1,c2⟩:=Yw hL hi
 have hid:id<B:=hB id ⟨_,h2⟩ rfl
 have g0:∀ m,(G++m)[id]?=some ⟨u8s L.flatten,true,w,e,s⟩:=fun m=>by
  have:=(hf id ⟨by omega,by omega⟩ (by omega)).trans h2
  rw [Qc (Qg.1 this).1]; exact this
 have g00:=g0 []
 rw [QA] at g00
 have hx:(G++[(⟨u8s P,true,true,true,1⟩:Ob)])[G.length]?=some ⟨u8s P,true,true,true,1⟩:=by rw [Qh (Qr _),Q3]; rfl
 have he:=WY (c:=64) hx
 rw [lP] at he
 obtain ⟨v',G',M,k1,k2,k3,k4,k5,k6,k7,k8,k9⟩:=(hw.app (m:=[(⟨u8s P,true,true,true,1⟩:Ob)])).put (p:=P) (x := .slice (some ⟨G.length,0,none⟩) 64 64) (by rw [lP]; rfl) (by rw [lP]; exact he) (by rw [lP]; omega)
 refine ⟨_,?_,v',k6,fun j hj hne=>by rw [k9 j hj hne,Qc (hw.kl j hj)]; exact hf j hj hne⟩
 have o1:=hw.ob
 have o2:(G++[(⟨u8s P,true,true,true,1⟩:Ob)])[B+3]?=some (wob v):=hw.app.ob
 have hz:Qa 64 (Value.int .u8 0)=u8s (Qa 64 0):=by simp [u8s]
 have lz:(Qa 64 0).length=64:=Qf
 have sp:∀ a b:Value,splice [a] 0 [b]=[b]:=fun _ _=>rfl
 have b3:J7 64 64 none none none=some (0,64,64):=rfl
 have e1:((i:Int)<(n:Int))=True:=eq_true (by omega)
 have w3:IntKind.i64.wrap ((i:Int)+1)=((i+1:Nat):Int):=ZJ (b:=1) (by omega)
 have im:Q2 B [] M=[]:=UM fun j hj=>.inr (k7 j hj)
 have im1:Q2 B [] [B+3]=[]:=QG (by simp)
 have im2:Q2 B [] [G.length]=[]:=QG (by have:=hw.kl (B+3) ⟨by omega,by omega⟩; simp; omega)
 unfold wob at *
 clear h3 hf hL hB hw hi k6 k9 he hx
 generalize Qa 64 0=Z,u8s L.flatten=LF at *
 generalize hik:i*64=ik at *
 generalize hi1:i+1=i1 at *
 simp only [E9,Hr,Qs,quiet,cW,↓pW,reduceCtorEq,seval,-Qb,hz,hik,hi1,e1,w3,g0,g00,c1,c2,o1,o2,k1,k2,k3,k4,k5,sp,b3,im,im1,im2,lP,lz,Qz,Qy,Q8,Zj,Q9,Qq,Qf,Za]
theorem dG (hs:Sq G0 64 (u8s L.flatten) n pv) (hB:∀ id,(∃ o,G0[id]?=some o)→pv.slBlock id→id<B) (hL:∀ x∈L,x.length=64) (hn:L.length=n) (hm:n≤1000) (lt:t.length≤2^30) (h:UZ B G0 G t) :
  ∃ G',Q5 T B (.block 5 (.loop Hr)) (E9 B n pv 0 G [])=some (.normal,E9 B n pv n G' [(94,.bool false)])∧UZ B G0 G' (t++L.flatten):=by
 obtain ⟨st,hloop,G',rfl,r⟩:=Zm (T:=T) (base:=B) (id:=5) (body:=Hr)
  (fun k st=>∃ G,st=E9 B n pv k G []∧UZ B G0 G (t++(L.take k).flatten))
  (Q:=fun st=>∃ G,st=E9 B n pv n G [(94,.bool false)]∧UZ B G0 G (t++L.flatten))
  n (s:=E9 B n pv 0 G []) ⟨G,rfl,by rw [Jz,ZG,QA]; exact h⟩
  (fun k st hk hst=>by
   obtain ⟨G1,rfl,h1⟩:=hst
   obtain ⟨P,hP⟩:∃ P,L[k]?=some P:=⟨_,Qe (by omega)⟩
   have lk:(L.take k).flatten.length=k*64:=by rw [KZ (n:=64) fun x hx=>hL x (QU hx),Q4,Zp (by omega)]
   obtain ⟨G2,b0,b1⟩:=mG hs hB hL hP hk hm (by rw [Qj,lk]; omega) h1
   refine ⟨_,b0,G2,rfl,?_⟩
   rw [Z5,hP,ZE,←Qu]
   simpa using b1)
  (fun st hst=>by
   obtain ⟨G1,rfl,h1⟩:=hst
   refine ⟨_,?_,G1,rfl,by rwa [Ql (by omega)] at h1⟩
   simp only [E9,Hr,Qs,quiet,cW,↓pW,reduceCtorEq,seval,-Qb])
 exact ⟨G',hloop,r⟩
def EA (B n:Nat) (pv:Value) (i:Nat) (G:List Ob) (ex:Env):St:=⟨[(1,.pointer (some ⟨B,0,none⟩)),(4,.pointer (some ⟨B+1,0,none⟩)),(6,.pointer (some ⟨B+3,0,none⟩)),(81,pv),(82,.int .i64 n),(83,.int .i64 i)]++ex,G,[]⟩
def ns32 (L:List Nat):List Value:=L.map fun n=>.int .u32 (n:Nat)
theorem mJ {L:List Nat} (hs:Sq G0 1 (ns32 L) n pv) (hB:∀ id,(∃ o,G0[id]?=some o)→pv.slBlock id→id<B) (hi:L[i]?=some x) (hin:i<n) (hn:n≤1000) (lt:t.length≤2^40) (h:UZ B G0 G t) :
  ∃ G',Q5 T B Hq (EA B n pv i G [])=some (.normal,EA B n pv (i+1) G' [])∧UZ B G0 G' (t++id4 x):=by
 rcases hs with ⟨-,rfl,-⟩ | ⟨id,c,w,e,s,rfl,h2,h3⟩
 ·omega
 obtain ⟨v,hw,hf⟩:=h
 have hid:id<B:=hB id ⟨_,h2⟩ rfl
 have g0:G[id]?=some ⟨ns32 L,true,w,e,s⟩:=(hf id ⟨by omega,by omega⟩ (by omega)).trans h2
 have c1:(ns32 L)[i]?=some (.int .u32 (x:Nat)):=by rw [ns32,List.getElem?_map,hi]; rfl
 obtain ⟨v',G',M,k1,k2,k3,k4,k5⟩:=Fu (n:=x) hw (by omega)
 refine ⟨_,?_,v',k2,fun j hj hne=>by rw [k5 j hj hne]; exact hf j hj hne⟩
 have e1:((i:Int)<(n:Int))=True:=eq_true (by omega)
 have w3:IntKind.i64.wrap ((i:Int)+1)=((i+1:Nat):Int):=ZJ (b:=1) (by omega)
 have im:Q2 B [] M=[]:=UM k4
 have j1:i*1=i:=Nat.mul_one i
 clear h3 hf hB hw hi k2 k4 k5
 generalize ns32 L=LF at *
 generalize hi1:i+1=i1 at *
 simp only [EA,Hq,Qs,quiet,cW,↓pW,reduceCtorEq,seval,-Qb,hi1,j1,e1,w3,g0,c1,k1,im,Qz,Qy,Q8,Zj,Q9,Qq,Qf,Za]
theorem dI {L:List Nat} (hs:Sq G0 1 (ns32 L) n pv) (hB:∀ id,(∃ o,G0[id]?=some o)→pv.slBlock id→id<B) (hn:L.length=n) (hm:n≤1000) (lt:t.length≤2^30) (h:UZ B G0 G t) :
  ∃ G',Q5 T B (.block 3 (.loop Hq)) (EA B n pv 0 G [])=some (.normal,EA B n pv n G' [(84,.bool false)])∧UZ B G0 G' (t++(L.map id4).flatten):=by
 obtain ⟨st,hloop,G',rfl,r⟩:=Zm (T:=T) (base:=B) (id:=3) (body:=Hq)
  (fun k st=>∃ G,st=EA B n pv k G []∧UZ B G0 G (t++((L.take k).map id4).flatten))
  (Q:=fun st=>∃ G,st=EA B n pv n G [(84,.bool false)]∧UZ B G0 G (t++(L.map id4).flatten))
  n (s:=EA B n pv 0 G []) ⟨G,rfl,by rw [Jz,List.map_nil,ZG,QA]; exact h⟩
  (fun k st hk hst=>by
   obtain ⟨G1,rfl,h1⟩:=hst
   obtain ⟨x,hx⟩:∃ x,L[k]?=some x:=⟨_,Qe (by omega)⟩
   have lk:((L.take k).map id4).flatten.length=k*4:=by
    rw [KZ (n:=4) fun x hx=>by obtain ⟨y,-,rfl⟩:=JB.1 hx; rfl,KO,Q4,Zp (by omega)]
   obtain ⟨G2,b0,b1⟩:=mJ hs hB hx hk hm (by rw [Qj,lk]; omega) h1
   refine ⟨_,b0,G2,rfl,?_⟩
   rw [Z5,hx,List.map_append,ZE,←Qu]
   simpa using b1)
  (fun st hst=>by
   obtain ⟨G1,rfl,h1⟩:=hst
   refine ⟨_,?_,G1,rfl,by rwa [Ql (by omega)] at h1⟩
   simp only [EA,Hq,Qs,quiet,cW,↓pW,reduceCtorEq,seval,-Qb])
 exact ⟨G',hloop,r⟩
theorem OutS.toK {K K':Nat→Prop} {G:List Ob} {v:Value} {t:List Nat} (h:OutS K G v t) (hk:∀ i,¬ K i→¬ K' i):OutS K' G v t:=by
 rcases h with ⟨id,h1,h0,h2⟩ | h
 ·exact .inl ⟨id,hk _ h1,h0,h2⟩
 ·exact .inr (h.toK hk)
theorem Sq.lt {G:List Ob} {es:Nat} {cs:List Value} {n:Nat} {v:Value} (h:Sq G es cs n v) (id:Nat) (hb:v.slBlock id):id<G.length:=by
 rcases h with ⟨rfl,-⟩ | ⟨j,c,w,e,s,rfl,h2,-⟩
 ·exact hb.elim
 ·have:j=id:=hb
  subst this
  exact (Qg.1 h2).1
structure DPart (H:List Ob) (v:Value) (l:List Nat):Prop where
 shape:∃ (a:Option Addr) (c:Nat),v=.slice a l.length c
 reads:∀ G:List Ob,(∀ i,i<H.length→G[i]?=H[i]?)→elemsOf G 1 l.length v=some (u8s l)
theorem DPart.app {H m:List Ob} {v:Value} {l:List Nat} (h:DPart H v l):DPart (H++m) v l :=
 ⟨h.shape,fun G hg=>h.reads G fun i hi=>(hg i (by rw [Qj]; omega)).trans (Qc hi)⟩
structure FrV (H:List Ob) (ka na sa da:Value) (kl:List (List Nat)) (nl:List Nat) (sl:List (List Nat)) (dl:List Nat):Prop where
 kz:Sq H 32 (u8s kl.flatten) kl.length ka
 kx:∀ x∈kl,x.length=32
 nz:Sq H 1 (ns32 nl) nl.length na
 sz:Sq H 64 (u8s sl.flatten) sl.length sa
 sx:∀ x∈sl,x.length=64
 dz:DPart H da dl
def frB (k:Int) (kl:List (List Nat)) (nl:List Nat) (sl:List (List Nat)) (dl:List Nat) (d:Bool):List Nat:=[k.toNat]++kl.flatten++(nl.map id4).flatten++sl.flatten++(if d then id4 dl.length++dl else [])
def frE (k:Int) (a b c n:Nat):Int:=match shp k with
 | none=>110
 | some (x,y,z,d)=>if a=x∧b=y∧c=z∧(d=true∨n=0) then (if 16384<n then 2 else 0) else 110
theorem tY {k:Int} {y z:Nat} {d:Bool} (h:shp k=some (x,y,z,d)):IntKind.u8.wrap k=((k.toNat:Nat):Int)∧k.toNat<256∧x≤4∧y≤3∧z≤1:=by
 unfold shp at h
 repeat' split at h
 all_goals first | (cases h; subst_vars; decide) | cases h
theorem dU {k:Int} {ka na sa da:Value} {kl:List (List Nat)} {nl:List Nat} {sl:List (List Nat)} {dl:List Nat} (h:FrV H ka na sa da kl nl sl dl) :
  ∃ v l,Z6 T 32 [.agg #[.int .i64 k,ka,na,sa,da]] H=some (.tuple #[v,.int .i64 (frE k kl.length nl.length sl.length dl.length)],H++l,[]) ∧
   ((∀ x y z d,shp k=some (x,y,z,d)→frE k kl.length nl.length sl.length dl.length=0→OutS (LtN H.length) (H++l) v (frB k kl nl sl dl d))∧(frE k kl.length nl.length sl.length dl.length≠0→v=.slice none 0 0)):=by
 have hsv:=oS k
 obtain ⟨_,_,sk⟩:=h.kz.shape
 obtain ⟨_,_,sn⟩:=h.nz.shape
 obtain ⟨_,_,ss⟩:=h.sz.shape
 obtain ⟨_,_,sd⟩:=h.dz.shape
 have n1:vLen false ka=some (.int .i64 kl.length):=by rw [sk]; rfl
 have n2:vLen false na=some (.int .i64 nl.length):=by rw [sn]; rfl
 have n3:vLen false sa=some (.int .i64 sl.length):=by rw [ss]; rfl
 have n4:vLen false da=some (.int .i64 dl.length):=by rw [sd]; rfl
 have hd4:Go.Ev.lenV da=some dl.length:=by rw [sd]; rfl
 clear sk sn ss sd
 have z4:fillL [Value.int .i64 0,.int .i64 0,.int .i64 0,.bool false] []=some [Value.int .i64 0,.int .i64 0,.int .i64 0,.bool false]:=rfl
 have sp4:∀ (a b c d e f g h:Value),splice [a,b,c,d] 0 [e,f,g,h]=[e,f,g,h]:=fun _ _ _ _ _ _ _ _=>rfl
 have g0:∀ o1:Ob,(H++[o1])[H.length]?=some o1:=fun _=>by rw [Qh (Qr _),Q3]; rfl
 have g00:∀ o1 o2:Ob,(H++[o1,o2])[H.length]?=some o1:=fun _ _=>by rw [Qh (Qr _),Q3]; rfl
 have g01:∀ o1 o2:Ob,(H++[o1,o2])[H.length+1]?=some o2:=fun _ _=>by rw [Qh (by omega),Qw]; rfl
 have t01:∀ o1 o2 o:Ob,(H++[o1,o2]).set (H.length+1) o=H++[o1,o]:=fun _ _ _=>by rw [Z4 _ _ (by omega),Qw]; rfl
 have im1:∀ i,Q2 H.length [] [H.length+i]=[]:=fun i=>QG (by simp)
 have ok1:∀ L:List Value,(Value.agg L.toArray).cells.toList=L:=fun _=>rfl
 have ok2:∀ L:List Value,(Value.agg L.toArray).cells.size=L.length:=fun _=>rfl
 have ok3:∀ L:List Value,okVar (Value.agg L.toArray)=true:=fun _=>rfl
 have cl0:∀ v:Value,[Value.int .i64 k,ka,na,sa,da][0]?=some (.int .i64 k):=fun _=>rfl
 have bad:∀ c:Int,c≠0→frE k kl.length nl.length sl.length dl.length=c→(∃ l,Z6 T 32 [.agg #[.int .i64 k,ka,na,sa,da]] H=some (.tuple #[.slice none 0 0,.int .i64 c],H++l,[])) →
   ∃ v l,Z6 T 32 [.agg #[.int .i64 k,ka,na,sa,da]] H=some (.tuple #[v,.int .i64 (frE k kl.length nl.length sl.length dl.length)],H++l,[]) ∧
    ((∀ x y z d,shp k=some (x,y,z,d)→frE k kl.length nl.length sl.length dl.length=0→OutS (LtN H.length) (H++l) v (frB k kl nl sl dl d))∧(frE k kl.length nl.length sl.length dl.length≠0→v=.slice none 0 0)):=by
  rintro c hc he ⟨l,hl⟩
  exact ⟨_,l,by rw [he]; exact hl,fun _ _ _ _ _ h0=>absurd (he.symm.trans h0) hc,fun _=>rfl⟩
 obtain hsh | ⟨x,y,z,d,hsh⟩:shp k=none∨∃ x y z d,shp k=some (x,y,z,d):=by
  rcases shp k with _ | ⟨x,y,z,d⟩
  ·exact .inl rfl
  ·exact .inr ⟨x,y,z,d,rfl⟩
 ·have rfv:rf (.tuple #[.agg #[Value.int .i64 0,.int .i64 0,.int .i64 0,.bool false],.int .i64 110])=true:=rfl
  rw [hsh] at hsv
  have hv:shV 0 0 0 false=[Value.int .i64 0,.int .i64 0,.int .i64 0,.bool false]:=rfl
  simp only [hv] at hsv
  refine bad 110 (by decide) (by unfold frE; rw [hsh]) (J4 ?_ ?_)
  rotate_left
  ·rw [Zg (fn:=GI) rfl]
   simp only [GI,Qs,quiet,cW,↓pW,reduceCtorEq,seval,-Qb,hsv,rfv,g0,g00,g01,t01,im1,ok1,ok2,ok3,n1,n2,n3,n4,z4,sp4]
   rfl
 ·rw [hsh] at hsv
  simp only [shV] at hsv
  have rfv:rf (.tuple #[.agg #[Value.int .i64 x,.int .i64 y,.int .i64 z,.bool d],.int .i64 0])=true:=rfl
  obtain ⟨wk,kb,lx,ly,lz⟩:=tY hsh
  by_cases q1:kl.length=x
  ·have b1:(((kl.length:Nat):Int) != (x:Int))=false:=by simp; omega
   by_cases q2:nl.length=y
   ·have b2:(((nl.length:Nat):Int) != (y:Int))=false:=by simp; omega
    by_cases q3:sl.length=z
    ·have b3:(((sl.length:Nat):Int) != (z:Int))=false:=by simp; omega
     obtain ⟨G0,hG0⟩:∃ X,X=H++[(⟨[.int .i64 k,ka,na,sa,da],true,true,true,1⟩:Ob),⟨[.int .i64 x,.int .i64 y,.int .i64 z,.bool d],true,true,true,1⟩,⟨u8s [k.toNat],true,true,true,1⟩,wob (.slice (some ⟨H.length+2,0,none⟩) 1 1)]:=⟨_,rfl⟩
     have lG0:G0.length=H.length+4:=by rw [hG0]; simp
     have gi:∀ j o,[(⟨[.int .i64 k,ka,na,sa,da],true,true,true,1⟩:Ob),⟨[.int .i64 x,.int .i64 y,.int .i64 z,.bool d],true,true,true,1⟩,⟨u8s [k.toNat],true,true,true,1⟩,wob (.slice (some ⟨H.length+2,0,none⟩) 1 1)][j]?=some o→G0[H.length+j]?=some o:=fun j o hj=>by rw [hG0,Qh (by omega),Qw]; exact hj
     have inv0:UZ H.length G0 G0 [k.toNat]:=⟨_,⟨gi 3 _ rfl,⟨by omega,by omega⟩,fun i hi=>by rw [lG0]; exact hi.1,.inl ⟨H.length+2,fun hh=>hh.2 rfl,rfl,gi 2 _ rfl⟩⟩,fun _ _ _=>rfl⟩
     have hap:∀ {es cs n v},Sq H es cs n v→Sq G0 es cs n v:=fun hh=>by rw [hG0]; exact hh.app
     have lkf:kl.flatten.length≤1000:=by rw [KZ h.kx]; omega
     have lnf:(nl.map id4).flatten.length≤1000:=by rw [KZ (n:=4) fun x hx=>by obtain ⟨y,-,rfl⟩:=JB.1 hx; rfl,KO]; omega
     have lsf:sl.flatten.length≤1000:=by rw [KZ h.sx]; omega
     obtain ⟨G1,m1,i1⟩:=dJ (hap h.kz) (fun id _ hb=>h.kz.lt id hb) h.kx rfl (by omega) (by show 1≤_; decide) inv0
     obtain ⟨G2,m2,i2⟩:=dI (hap h.nz) (fun id _ hb=>h.nz.lt id hb) rfl (by omega) (by simp only [Qj,Zo,ZC]; omega) i1
     obtain ⟨G3,m3,i3⟩:=dG (hap h.sz) (fun id _ hb=>h.sz.lt id hb) h.sx rfl (by omega) (by simp only [Qj,Zo,ZC]; omega) i2
     have fr:∀ {G t},UZ H.length G0 G t→G[H.length]?=some ⟨[.int .i64 k,ka,na,sa,da],true,true,true,1⟩∧G[H.length+1]?=some ⟨[.int .i64 x,.int .i64 y,.int .i64 z,.bool d],true,true,true,1⟩∧(∀ i,i<H.length→G[i]?=H[i]?):=fun ⟨_,_,hf⟩ =>
      ⟨(hf _ ⟨by omega,by omega⟩ (by omega)).trans (gi 0 _ rfl),(hf _ ⟨by omega,by omega⟩ (by omega)).trans (gi 1 _ rfl),fun i hi=>by rw [hf i ⟨by omega,by omega⟩ (by omega),hG0,Qc hi]⟩
     obtain ⟨p10,p11,-⟩:=fr i1
     obtain ⟨p20,p21,-⟩:=fr i2
     obtain ⟨p30,p31,p32⟩:=fr i3
     have F0:H++[(⟨[.int .i64 k,ka,na,sa,da],true,true,true,1⟩:Ob),⟨[.int .i64 x,.int .i64 y,.int .i64 z,.bool d],true,true,true,1⟩,⟨u8s [k.toNat],true,true,true,1⟩,⟨[.slice (some ⟨H.length+2,0,none⟩) 1 1],true,true,true,1⟩]=G0:=hG0.symm
     have p00:G0[H.length]?=_:=gi 0 _ rfl
     have p01:G0[H.length+1]?=_:=gi 1 _ rfl
     have fk1:fillL [Value.int .u8 0] [(0,1,.int .u8 (k.toNat:Nat))]=some (u8s [k.toNat]):=rfl
     have fw1:∀ a:Addr,fillL [Value.slice none 0 0] [(0,1,.slice (some a) 1 1)]=some [.slice (some a) 1 1]:=fun _=>rfl
     have s1:∀ a b:Value,splice [a] 0 [b]=[b]:=fun _ _=>rfl
     have e3:∀ o1 o2 o3:Ob,(H++[o1,o2,o3])[H.length]?=some o1:=fun _ _ _=>by rw [Qh (Qr _),Q3]; rfl
     have e4:∀ o1 o2 o3 o4:Ob,(H++[o1,o2,o3,o4])[H.length+3]?=some o4:=fun _ _ _ _=>by rw [Qh (by omega),Qw]; rfl
     have e5:∀ o1 o2 o3 o4 o:Ob,(H++[o1,o2,o3,o4]).set (H.length+3) o=H++[o1,o2,o3,o]:=fun _ _ _ _ _=>by rw [Z4 _ _ (by omega),Qw]; rfl
     simp only [EB,EA,E9,Qo,Qm,show ((0:Nat):Int)=0 from rfl] at m1 m2 m3
     obtain ⟨v3,w3,f3⟩:=i3
     have lt3:([k.toNat]++kl.flatten++(nl.map id4).flatten++sl.flatten).length≤4000:=by simp only [Qj,Zo,ZC]; omega
     cases d
     ·by_cases q4:dl.length=0
      ·have c1:((0:Int)<(dl.length:Int))=False:=eq_false (by omega)
       have c2:((16384:Int)<(dl.length:Int))=False:=eq_false (by omega)
       have hE:frE k kl.length nl.length sl.length dl.length=0:=by
        unfold frE; rw [hsh]; simp only [q1,q2,q3,q4,and_self,or_true,if_true]; rfl
       obtain ⟨l,hl⟩:=X7 (by have:=w3.kl (H.length+3) ⟨by omega,by omega⟩; omega) p32
       have ow:=w3.ob
       unfold wob at ow
       refine ⟨v3,l,?_,fun _ _ _ _ e _ => ?_,fun hh=>absurd hE hh⟩
       ·rw [hE,←hl]
        clear i1 i2 inv0 gi fr hG0 hap f3 w3 p32 lt3
        rw [Zg (fn:=GI) rfl]
        simp only [GI,Qs,quiet,cW,↓pW,reduceCtorEq,seval,-Qb,hsv,rfv,g0,g00,g01,t01,im1,ok1,ok2,ok3,n1,n2,n3,n4,z4,sp4,b1,b2,b3,c1,c2,wk,fk1,fw1,s1,e3,e4,e5,F0,p00,p01,m1,p10,p11,m2,p20,p21,m3,p30,p31,ow]
       ·rw [hsh] at e
        cases e
        rw [←hl]
        refine OutS.toK (K:=KE H.length) ?_ (fun i hi h'=>hi ⟨by have:i<H.length:=h'; omega,by have:i<H.length:=h'; omega⟩)
        have:=w3.out
        simpa [frB] using this
      ·have c1:((0:Int)<(dl.length:Int))=True:=eq_true (by omega)
       refine bad 110 (by decide) (by unfold frE; rw [hsh]; exact if_neg fun hh=>by rcases hh.2.2.2 with hh | hh; cases hh; exact q4 hh) (J4 ?_ ?_)
       rotate_left
       ·rw [Zg (fn:=GI) rfl]
        simp only [GI,Qs,quiet,cW,↓pW,reduceCtorEq,seval,-Qb,hsv,rfv,g0,g00,g01,t01,im1,ok1,ok2,ok3,n1,n2,n3,n4,z4,sp4,b1,b2,b3,c1]
        rfl
     ·by_cases q4:16384<dl.length
      ·have c2:((16384:Int)<(dl.length:Int))=True:=eq_true (by omega)
       refine bad 2 (by decide) (by unfold frE; rw [hsh]; simp only [q1,q2,q3,q4,and_self,true_or,if_true]) (J4 ?_ ?_)
       rotate_left
       ·rw [Zg (fn:=GI) rfl]
        simp only [GI,Qs,quiet,cW,↓pW,reduceCtorEq,seval,-Qb,hsv,rfv,g0,g00,g01,t01,im1,ok1,ok2,ok3,n1,n2,n3,n4,z4,sp4,b1,b2,b3,c2]
        rfl
      ·have c2:((16384:Int)<(dl.length:Int))=False:=eq_false (by omega)
       have hE:frE k kl.length nl.length sl.length dl.length=0:=by
        unfold frE; rw [hsh]; simp only [q1,q2,q3,q4,and_self,true_or,if_true,if_false]
       obtain ⟨v4,G4,M4,k1,k2,k3,k4,k5⟩:=Fu (n:=dl.length) w3 (by omega)
       have im4:Q2 H.length [] M4=[]:=UM k4
       have p42:∀ i,i<H.length→G4[i]?=H[i]? := fun i hi=>(k5 i ⟨by omega,by omega⟩ (by omega)).trans (p32 i hi)
       have p40:=(k5 H.length ⟨by omega,by omega⟩ (by omega)).trans p30
       obtain ⟨v5,G5,M5,j1,j2,j3,j4,j5,j6,j7,j8,j9⟩:=k2.put hd4 (h.dz.reads G4 p42) (by rw [Qj]; show _+4+_≤_; omega)
       have im5:Q2 H.length [] M5=[]:=UM fun i hi=>.inr (j7 i hi)
       have im3:Q2 H.length [] [H.length+3]=[]:=im1 3
       obtain ⟨l,hl⟩:∃ l,G5.set (H.length+3) (wob v5)=H++l:=X7 (by have:=k2.kl (H.length+3) ⟨by omega,by omega⟩; rw [Q0]; omega) fun i hi=>(j9 i ⟨by omega,by omega⟩ (by omega)).trans (p42 i hi)
       have ow4:=k2.ob
       have ow5:=j6.ob
       have wu:IntKind.u32.wrap (dl.length:Int)=(dl.length:Nat):=by
        have:=OI (n:=dl.length) (by omega)
        exact this
       refine ⟨v5,l,?_,fun _ _ _ _ e _ => ?_,fun hh=>absurd hE hh⟩
       ·rw [hE,←hl]
        unfold wob at *
        clear i1 i2 inv0 gi fr hG0 hap f3 w3 p32 lt3 k2 j6 k4 k5 j7 j9 p42
        rw [Zg (fn:=GI) rfl]
        simp only [GI,Qs,quiet,cW,↓pW,reduceCtorEq,seval,-Qb,hsv,rfv,g0,g00,g01,t01,im1,im4,im5,im3,ok1,ok2,ok3,n1,n2,n3,n4,z4,sp4,b1,b2,b3,c2,wk,wu,fk1,fw1,s1,e3,e4,e5,F0,p00,p01,m1,p10,p11,m2,p20,p21,m3,p30,p31,k1,p40,ow4,j1,j2,j3,j4,j5,ow5]
       ·rw [hsh] at e
        cases e
        rw [←hl]
        refine OutS.toK (K:=KE H.length) ?_ (fun i hi h'=>hi ⟨by have:i<H.length:=h'; omega,by have:i<H.length:=h'; omega⟩)
        have:=j6.out
        simpa [frB] using this
    ·have b3:(((sl.length:Nat):Int) != (z:Int))=true:=by simp; omega
     refine bad 110 (by decide) (by unfold frE; rw [hsh]; exact if_neg fun hh=>q3 hh.2.2.1) (J4 ?_ ?_)
     rotate_left
     ·rw [Zg (fn:=GI) rfl]
      simp only [GI,Qs,quiet,cW,↓pW,reduceCtorEq,seval,-Qb,hsv,rfv,g0,g00,g01,t01,im1,ok1,ok2,ok3,n1,n2,n3,n4,z4,sp4,b1,b2,b3]
      rfl
   ·have b2:(((nl.length:Nat):Int) != (y:Int))=true:=by simp; omega
    refine bad 110 (by decide) (by unfold frE; rw [hsh]; exact if_neg fun hh=>q2 hh.2.1) (J4 ?_ ?_)
    rotate_left
    ·rw [Zg (fn:=GI) rfl]
     simp only [GI,Qs,quiet,cW,↓pW,reduceCtorEq,seval,-Qb,hsv,rfv,g0,g00,g01,t01,im1,ok1,ok2,ok3,n1,n2,n3,n4,z4,sp4,b1,b2]
     rfl
  ·have b1:(((kl.length:Nat):Int) != (x:Int))=true:=by simp; omega
   refine bad 110 (by decide) (by unfold frE; rw [hsh]; exact if_neg fun hh=>q1 hh.1) (J4 ?_ ?_)
   rotate_left
   ·rw [Zg (fn:=GI) rfl]
    simp only [GI,Qs,quiet,cW,↓pW,reduceCtorEq,seval,-Qb,hsv,rfv,g0,g00,g01,t01,im1,ok1,ok2,ok3,n1,n2,n3,n4,z4,sp4,b1]
    rfl
end
section
attribute [local congr] JD JU JC JV Jv
variable {g p w o:List Nat} {i j:Nat} {H:List Ob}
theorem FrV.app {H m:List Ob} {ka na sa da:Value} {kl:List (List Nat)} {nl:List Nat} {sl:List (List Nat)} {dl:List Nat} (h:FrV H ka na sa da kl nl sl dl):FrV (H++m) ka na sa da kl nl sl dl :=
 ⟨h.kz.app,h.kx,h.nz.app,h.sz.app,h.sx,h.dz.app⟩
theorem Sq.some_of {G:List Ob} {es:Nat} {cs:List Value} {n:Nat} {v:Value} (h:Sq G es cs n v) (hn:0<n):∃ id c w e s,v=.slice (some ⟨id,0,none⟩) n c∧G[id]?=some ⟨cs,true,w,e,s⟩∧cs.length=n*es:=by
 rcases h with ⟨-,h,-⟩ | h
 ·omega
 ·exact h
theorem pE {ka na sa da:Value} {k0 k1 k2 k3:List Nat} (h:FrV H ka na sa da [k0,k1,k2,k3] [i,j] [g] []) :
  ∃ l,Z6 T 16 [.agg #[.int .i64 1,ka,na,sa,da]] H=some (.tuple #[.agg (ZT (k0++k1) k2 k3 i j g).toArray,.int .i64 0],H++l,[]):=by
 obtain ⟨v,l,he,-⟩:=dU (k:=1) (h.app (m:=[(⟨[.int .i64 1,ka,na,sa,da],true,true,true,1⟩:Ob),⟨JY,true,true,true,1⟩]))
 rw [show frE 1 [k0,k1,k2,k3].length [i,j].length [g].length ([]:List Nat).length=0 from rfl] at he
 obtain ⟨G,hG⟩:∃ X,X=H++[(⟨[.int .i64 1,ka,na,sa,da],true,true,true,1⟩:Ob),⟨JY,true,true,true,1⟩]++l:=⟨_,rfl⟩
 rw [←hG] at he
 have l0:k0.length=32:=h.kx _ (by simp)
 have l1:k1.length=32:=h.kx _ (by simp)
 have l2:k2.length=32:=h.kx _ (by simp)
 have l3:k3.length=32:=h.kx _ (by simp)
 have lg:g.length=64:=h.sx _ (by simp)
 have hO:OffL (k0++k1) k2 k3 g:=⟨by rw [Qj,l0,l1],l2,l3,lg⟩
 have nO:=JA (i:=i) (j:=j) hO
 have nz:JY.length=194:=by rw [VY]; simp [ZT,Qq]
 have sz:splice JY 0 (ZT (k0++k1) k2 k3 i j g)=ZT (k0++k1) k2 k3 i j g:=QM (by rw [nO,nz])
 have tO:Zf 194 (ZT (k0++k1) k2 k3 i j g)=ZT (k0++k1) k2 k3 i j g:=Ql (by rw [nO]; decide)
 have g0:G[H.length]?=some ⟨[.int .i64 1,ka,na,sa,da],true,true,true,1⟩:=by rw [hG,Qu,Qh (Qr _),Q3,Qo,List.getElem?_cons_zero]
 have g1:G[H.length+1]?=some ⟨JY,true,true,true,1⟩:=by rw [hG,Qu,Qh (by omega),Qw]; rfl
 have g2:(G.set (H.length+1) ⟨ZT (k0++k1) k2 k3 i j g,true,true,true,1⟩)[H.length+1]?=some ⟨ZT (k0++k1) k2 k3 i j g,true,true,true,1⟩:=by rw [Q1 (Qg.1 g1).1]
 have gH:∀ id o,H[id]?=some o→G[id]?=some o:=fun id o ho=>by rw [hG,Qu,Qc (Qg.1 ho).1]; exact ho
 obtain ⟨l',hl'⟩:∃ l',G.set (H.length+1) ⟨ZT (k0++k1) k2 k3 i j g,true,true,true,1⟩=H++l':=X7 (by rw [Q0,hG]; simp) fun i hi=>by
  rw [Qt (by omega),hG,Qu,Qc hi]
 refine ⟨l',?_⟩
 rw [←hl']
 obtain ⟨kid,kc,kw,ke,ks,rfl,hk,-⟩:=h.kz.some_of (by simp)
 obtain ⟨nid,nc,nw,ne,ns',rfl,hn,-⟩:=h.nz.some_of (by simp)
 obtain ⟨sid,sc,sw,se,ss,rfl,hs,-⟩:=h.sz.some_of (by simp)
 have hk':=gH _ _ hk
 have hn':=gH _ _ hn
 have hs':=gH _ _ hs
 have a0:Zf 32 (u8s [k0,k1,k2,k3].flatten)=u8s k0:=(Yw h.kx (i:=0) rfl).1
 have a1:Zf 32 (Jo 32 (u8s [k0,k1,k2,k3].flatten))=u8s k1:=(Yw h.kx (i:=1) rfl).1
 have a2:Zf 32 (Jo 64 (u8s [k0,k1,k2,k3].flatten))=u8s k2:=(Yw h.kx (i:=2) rfl).1
 have a3:Zf 32 (Jo 96 (u8s [k0,k1,k2,k3].flatten))=u8s k3:=(Yw h.kx (i:=3) rfl).1
 have ag:Zf 64 (u8s [g].flatten)=u8s g:=(Yw h.sx (i:=0) rfl).1
 have lk:(u8s [k0,k1,k2,k3].flatten).length=128:=by rw [Qq,KZ h.kx]; rfl
 have ls:(u8s [g].flatten).length=64:=by rw [Qq,KZ h.sx]; rfl
 have an:ns32 [i,j]=[.int .u32 i,.int .u32 j]:=rfl
 rw [an] at hn'
 have q:=Xz l0 l1
 have fo:=AM (i:=i) (j:=j) hO
 have hz64:=Ka
 have lkk:(k0++k1).length=64:=hO.lw
 have ok1:∀ L:List Value,(Value.agg L.toArray).cells.toList=L:=fun _=>rfl
 have ok2:∀ L:List Value,(Value.agg L.toArray).cells.size=L.length:=fun _=>rfl
 have ok3:∀ L:List Value,okVar (Value.agg L.toArray)=true:=fun _=>rfl
 have e0:∀ o1 o2:Ob,(H++[o1,o2])[H.length]?=some o1:=fun _ _=>by rw [Qh (Qr _),Q3]; rfl
 have im1:Q2 H.length [] [H.length+1]=[]:=QG (by simp)
 have cl5:∀ a b c d e:Value,Zf 5 [a,b,c,d,e]=[a,b,c,d,e]:=fun _ _ _ _ _=>rfl
 have hlen:([k0,k1,k2,k3]:List (List Nat)).length=4:=rfl
 have hlen2:([i,j]:List Nat).length=2:=rfl
 have hlen3:([g]:List (List Nat)).length=1:=rfl
 rw [hlen,hlen2,hlen3] at he g0
 clear hG hl' hk hn hs h hO gH an
 generalize u8s [k0,k1,k2,k3].flatten=KF at *
 generalize u8s [g].flatten=SF,ZT (k0++k1) k2 k3 i j g=O at *
 generalize k0++k1=kk at *
 generalize Qa 64 0=Z64 at *
 rw [Zg (fn:=wH) rfl]
 simp only [wH,hlen,hlen2,hlen3,Qs,quiet,cW,↓pW,reduceCtorEq,seval,-Qb,he,e0,g0,g1,g2,hk',hn',hs',a0,a1,a2,a3,ag,lk,ls,q,fo,hz64,sz,tO,nz,nO,l0,l1,l2,l3,lg,lkk,im1,cl5,ok1,ok2,ok3,Qz,Qy,Q8,Zj,Q9,Qq,Qf,Za]
theorem Bg {q r v:List Nat} (h:v.length=q.length) {n:Nat} (hp:p.length=n):splice (u8s (p++(q++r))) n (u8s v)=u8s (p++(v++r)):=by
 have:=Vd (a:=u8s p) (b:=u8s (q++r)) (v:=u8s v) (n:=n) (k:=0) (by rw [Qq,hp]) (by rw [Qq,Qq,Qj]; omega)
 rw [Nat.add_zero] at this
 rw [J8,this,J8 q,Wf (by rw [Qq,Qq,h]),←J8,←J8]
theorem dO {a b c d:List Nat} (la:a.length=32) (lb:b.length=32) (lc:c.length=32) (ld:d.length=32):fillL (Qa 128 (Value.int .u8 0)) [(0,32,.agg (u8s a).toArray),(32,32,.agg (u8s b).toArray),(64,32,.agg (u8s c).toArray),(96,32,.agg (u8s d).toArray)]=some (u8s [a,b,c,d].flatten):=by
 have hz:Qa 128 (Value.int .u8 0)=u8s (zK++(zK++(zK++(zK++[])))):=rfl
 have ct:∀ l:List Nat,(Value.agg (u8s l).toArray).cells.toList=u8s l:=fun _=>rfl
 have lz:=Uj
 have L:∀ {w x y z:List Nat},w.length=32→x.length=32→y.length=32→z.length=32→(u8s (w++(x++(y++(z++[]))))).length=128:=fun hw hx hy hz=>by simp [Qq,hw,hx,hy,hz]
 have e1:=Bg (p:=[]) (q:=zK) (v:=a) (r:=zK++(zK++(zK++[]))) (la.trans lz.symm) (n:=0) rfl
 have e2:=Bg (p:=a) (q:=zK) (v:=b) (r:=zK++(zK++[])) (lb.trans lz.symm) la
 have e3:=Bg (p:=a++b) (q:=zK) (v:=c) (r:=zK++[]) (lc.trans lz.symm) (n:=64) (by rw [Qj,la,lb])
 have e4:=Bg (p:=a++(b++c)) (q:=zK) (v:=d) (r:=[]) (ld.trans lz.symm) (n:=96) (by rw [Qj,Qj,la,lb,lc])
 simp only [Qu,Qm] at e1 e2 e3 e4
 rw [hz,Ve (YF la) (by rw [L lz lz lz lz]; decide) rfl,ct,e1,Ve (YF lb) (by rw [L la lz lz lz]; decide) rfl,ct,e2,
  Ve (YF lc) (by rw [L la lb lz lz]; decide) rfl,ct,e3,Ve (YF ld) (by rw [L la lb lc lz]; decide) rfl,ct,e4]
 rfl
def Se (w p o g:List Nat) (i j:Nat) (B:Nat):List Ob:=[⟨ZT w p o i j g,true,true,true,1⟩,⟨[.int .i64 1,.slice (some ⟨B+2,0,none⟩) 4 4,.slice (some ⟨B+3,0,none⟩) 2 2,.slice (some ⟨B+4,0,none⟩) 1 1,.slice none 0 0],true,true,true,1⟩,⟨u8s [w.take 32,w.drop 32,p,o].flatten,true,true,true,1⟩,⟨ns32 [i,j],true,true,true,1⟩,⟨u8s [g].flatten,true,true,true,1⟩]
theorem mL (h:OffL w p o g) :
  Z6 T 17 [.agg (ZT w p o i j g).toArray] H=some (.agg #[.int .i64 1,.slice (some ⟨H.length+2,0,none⟩) 4 4,.slice (some ⟨H.length+3,0,none⟩) 2 2,.slice (some ⟨H.length+4,0,none⟩) 1 1,.slice none 0 0],H++Se w p o g i j H.length,[]):=by
 have l1:(w.take 32).length=32:=by rw [Q4,h.lw]; rfl
 have l2:(w.drop 32).length=32:=by rw [QP,h.lw]
 have lp:=h.lp
 have lo:=h.lo
 have lg:=h.lg
 have n0:=JA (i:=i) (j:=j) h
 have r1:=Fs (i:=i) (j:=j) h
 have r2:=Ww (i:=i) (j:=j) h
 have r3:=UJ (i:=i) (j:=j) h
 have r4:=Rk (i:=i) (j:=j) h
 have r5:=Au (i:=i) (j:=j) h
 obtain ⟨r6,r7⟩:=Wv (i:=i) (j:=j) h
 have f4:=dO l1 l2 lp lo
 have f1:=AL lg
 rw [Ka] at f1
 have hz64:=Ka
 have fg:[g].flatten=g:=by simp
 have f2:fillL [Value.int .u32 0,.int .u32 0] [(0,1,.int .u32 (i:Int)),(1,1,.int .u32 (j:Int))]=some [.int .u32 (i:Int),.int .u32 (j:Int)]:=rfl
 have f5:∀ a b c:Addr,fillL [Value.int .i64 0,.slice none 0 0,.slice none 0 0,.slice none 0 0,.slice none 0 0] [(0,1,.int .i64 1),(1,1,.slice (some a) 4 4),(2,1,.slice (some b) 2 2),(3,1,.slice (some c) 1 1)]=some [.int .i64 1,.slice (some a) 4 4,.slice (some b) 2 2,.slice (some c) 1 1,.slice none 0 0]:=fun _ _ _=>rfl
 have sp5:∀ (a b c d e a' b' c' d' e':Value),splice [a,b,c,d,e] 0 [a',b',c',d',e']=[a',b',c',d',e']:=fun _ _ _ _ _ _ _ _ _ _=>rfl
 have cl5:∀ a b c d e:Value,Zf 5 [a,b,c,d,e]=[a,b,c,d,e]:=fun _ _ _ _ _=>rfl
 have e2:∀ o1 o2:Ob,(H++[o1,o2])[H.length]?=some o1:=fun _ _=>by rw [Qh (Qr _),Q3]; rfl
 have e3:∀ o1 o2 o3:Ob,(H++[o1,o2,o3])[H.length]?=some o1:=fun _ _ _=>by rw [Qh (Qr _),Q3]; rfl
 have e4:∀ o1 o2 o3 o4:Ob,(H++[o1,o2,o3,o4])[H.length]?=some o1:=fun _ _ _ _=>by rw [Qh (Qr _),Q3]; rfl
 have e5:∀ o1 o2 o3 o4 o5:Ob,(H++[o1,o2,o3,o4,o5])[H.length+1]?=some o2:=fun _ _ _ _ _=>by rw [Qh (by omega),Qw]; rfl
 have t5:∀ o1 o2 o3 o4 o5 o:Ob,(H++[o1,o2,o3,o4,o5]).set (H.length+1) o=H++[o1,o,o3,o4,o5]:=fun _ _ _ _ _ _=>by rw [Z4 _ _ (by omega),Qw]; rfl
 have im1:Q2 H.length [] [H.length+1]=[]:=QG (by simp)
 have ok1:∀ L:List Value,(Value.agg L.toArray).cells.toList=L:=fun _=>rfl
 have ok2:∀ L:List Value,(Value.agg L.toArray).cells.size=L.length:=fun _=>rfl
 have ok3:∀ L:List Value,okVar (Value.agg L.toArray)=true:=fun _=>rfl
 have an:ns32 [i,j]=[.int .u32 i,.int .u32 j]:=rfl
 unfold Se
 rw [fg,an]
 clear h
 generalize u8s [w.take 32,w.drop 32,p,o].flatten=KF at *
 generalize ZT w p o i j g=O,w.take 32=w1,w.drop 32=w2,Qa 64 0=Z64 at *
 rw [Zg (fn:=wG) rfl]
 simp only [wG,Qs,quiet,cW,↓pW,reduceCtorEq,seval,-Qb,r1,r2,r3,r4,r5,r6,r7,f4,f1,f2,f5,hz64,sp5,cl5,e2,e3,e4,e5,t5,n0,l1,l2,lp,lo,lg,im1,ok1,ok2,ok3,Qz,Qy,Q8,Zj,Q9,Qq,Qf,Za]
theorem vk (h:OffL w p o g):FrV (H++Se w p o g i j H.length) (.slice (some ⟨H.length+2,0,none⟩) 4 4) (.slice (some ⟨H.length+3,0,none⟩) 2 2) (.slice (some ⟨H.length+4,0,none⟩) 1 1) (.slice none 0 0) [w.take 32,w.drop 32,p,o] [i,j] [g] []:=by
 have l1:(w.take 32).length=32:=by rw [Q4,h.lw]; rfl
 have l2:(w.drop 32).length=32:=by rw [QP,h.lw]
 have hk:∀ x∈[w.take 32,w.drop 32,p,o],x.length=32:=kP l1 l2 h.lp h.lo
 have hg:∀ x∈[g],x.length=64:=fun x hx=>by rw [JW.1 hx]; exact h.lg
 have gi:∀ m ob,(Se w p o g i j H.length)[m]?=some ob→(H++Se w p o g i j H.length)[H.length+m]?=some ob:=fun m ob hm=>by rw [Qh (by omega),Qw]; exact hm
 exact ⟨.inr ⟨_,4,_,_,_,rfl,gi 2 _ rfl,by rw [Qq,KZ hk]⟩,hk,.inr ⟨_,2,_,_,_,rfl,gi 3 _ rfl,rfl⟩,.inr ⟨_,1,_,_,_,rfl,gi 4 _ rfl,by rw [Qq,KZ hg]⟩,hg,⟨⟨_,_,rfl⟩,fun _ _=>rfl⟩⟩
theorem Mg:∀ {cs:List Value} {n:Nat},(∀ c∈cs,∃ k x,c=Value.int k x)→cs.length=n→J2 (Qa n true) cs cs=some true
 | [],_,_,h=>by cases h; rfl
 | c::cs,_,hc,h=>by
  cases h
  obtain ⟨k,x,rfl⟩:=hc c (by simp)
  rw [Zo,List.replicate_succ,J2,Mg (fun y hy=>hc y (KV _ hy)) rfl]
  simp [Bt]
theorem oH (h:OffL w p o g):vEq (some (Qa 194 true)) false (.agg (ZT w p o i j g).toArray) (.agg (ZT w p o i j g).toArray)=some (.bool true):=by
 rw [Ii,show (ZT w p o i j g).toArray.toList=ZT w p o i j g from rfl,Mg (fun c hc => ?_) (JA h)]
 ·rfl
 ·simp only [ZT,QF,List.mem_cons] at hc
  rcases hc with hc | hc | hc | rfl | rfl | hc
  ·obtain ⟨x,-,rfl⟩:=JB.1 hc; exact ⟨_,_,rfl⟩
  ·obtain ⟨x,-,rfl⟩:=JB.1 hc; exact ⟨_,_,rfl⟩
  ·obtain ⟨x,-,rfl⟩:=JB.1 hc; exact ⟨_,_,rfl⟩
  ·exact ⟨_,_,rfl⟩
  ·exact ⟨_,_,rfl⟩
  ·obtain ⟨x,-,rfl⟩:=JB.1 hc; exact ⟨_,_,rfl⟩
theorem Cg {P K:List Nat} {i0 i1:Int} (lP:P.length=64) (xP:∀ y∈P,y<256) (lK:K.length=64) (xK:∀ y∈K,y<256) (h0:IntKind.u32.min≤i0∧i0≤IntKind.u32.max) (h1:IntKind.u32.min≤i1∧i1≤IntKind.u32.max) :
  ∃ l,Z6 T 6 [.agg (u8s P).toArray,.agg (u8s K).toArray,.agg #[.int .u32 i0,.int .u32 i1]] []=some (.bool true,l,[]):=by
 obtain ⟨i,rfl,hi⟩:∃ n:Nat,i0=n∧n<2^32:=by
  have a:(0:Int)≤i0:=h0.1
  have b:i0≤4294967295:=h0.2
  exact ⟨i0.toNat,by omega,by omega⟩
 obtain ⟨j,rfl⟩:∃ n:Nat,i1=n:=by
  have a:(0:Int)≤i1:=h1.1
  exact ⟨i1.toNat,by omega⟩
 have hmt:=qK
 have hz64:=Ka
 have lz64:(Qa 64 0).length=64:=Qf
 obtain ⟨l0,y0,k0⟩:=lW 0 lK xK (by decide)
 obtain ⟨l1,y1,k1⟩:=lW 32 lK xK (by decide)
 rw [ZD,ZD] at k0
 rw [ZD] at l0 y0
 generalize K.take 32=K0,(K.drop 32).take 32=K1 at *
 have hoff:=aJ (pid:=i) (oid:=j) lP xP l0 y0 l1 y1
 have hdof:=Sp (oid:=j) hi lP xP l0 y0 l1 y1
 have hO:=WT P K0 K1 i
 have hdo:=nB (i:=i) (j:=XT K1 j) hO (Gf P)
 rw [show ZT (pbL P) (Zn K0 QO) (X6 K1) i (XT K1 j) (P8 P K0 i)=Kq P K0 K1 i j from rfl] at hdo
 have hper:=Ge lP xP
 have lpb:=Y0 P
 have hpl:=Oc lpb (Gf P)
 have hpo:=RX lP xP
 have nO:(Kq P K0 K1 i j).length=194:=JA hO
 have nz:JY.length=194:=rfl
 have tw:Zf 194 (Kq P K0 K1 i j)=Kq P K0 K1 i j:=Ql (by rw [nO]; decide)
 have sO:splice JY 0 (Kq P K0 K1 i j)=Kq P K0 K1 i j:=QM (by rw [nO,nz])
 have rfo:rf (.agg (Kq P K0 K1 i j).toArray)=true:=GV _ _ _ _ _ _
 have eqo:vEq (some (Qa 194 true)) false (.agg (Kq P K0 K1 i j).toArray) (.agg (Kq P K0 K1 i j).toArray)=some (.bool true):=oH hO
 have eqp:vEq (some (Qa 64 true)) false (.agg (u8s (pbL P)).toArray) (.agg (u8s (pbL P)).toArray)=some (.bool true):=by
  have:=EL lpb lpb
  rwa [beq_self_eq_true] at this
 obtain ⟨h2,h3⟩:=W3 lP
 obtain ⟨l3,x3⟩:=B4 lP xP
 obtain ⟨l4,x4⟩:=Vw lP xP
 have q1:=Xz l3 l4
 rw [Z7] at q1
 have sp:=QM (cs:=u8s (Qa 64 0)) (v:=u8s P) (by rw [Qq,Qq,lz64,lP])
 have ok1:∀ L:List Value,(Value.agg L.toArray).cells.toList=L:=fun _=>rfl
 have ok2:∀ L:List Value,(Value.agg L.toArray).cells.size=L.length:=fun _=>rfl
 have ok3:∀ L:List Value,okVar (Value.agg L.toArray)=true:=fun _=>rfl
 have ga:∀ a b:Value,(Value.agg #[a,b]).cells.toList=[a,b]:=fun _ _=>rfl
 have im:∀ k,Q2 0 [] [k]=[]:=fun k=>QG (by simp)
 obtain ⟨H0,hH0⟩:∃ X,X=[(⟨u8s P,true,true,true,1⟩:Ob),⟨u8s K,true,true,true,1⟩,⟨[.int .u32 i,.int .u32 j],true,true,true,1⟩,⟨Kq P K0 K1 i j,true,true,true,1⟩]:=⟨_,rfl⟩
 have hf:=mL (H:=H0) (i:=i) (j:=XT K1 j) hO
 obtain ⟨m,hr⟩:=pE (vk (H:=H0) (i:=i) (j:=XT K1 j) hO)
 rw [Z7] at hr
 rw [show ZT (pbL P) (Zn K0 QO) (X6 K1) i (XT K1 j) (P8 P K0 i)=Kq P K0 K1 i j from rfl] at hf hr
 have lH:H0.length=4:=by rw [hH0]; rfl
 rw [lH] at hf hr
 obtain ⟨G,hG⟩:∃ X,X=H0++Se (pbL P) (Zn K0 QO) (X6 K1) (P8 P K0 i) i (XT K1 j) 4++m:=⟨_,rfl⟩
 have g0:∀ x:List Ob,(G++x)[0]?=some ⟨u8s P,true,true,true,1⟩:=fun x=>by rw [hG,hH0]; rfl
 have g1:∀ x:List Ob,(G++x)[1]?=some ⟨u8s K,true,true,true,1⟩:=fun x=>by rw [hG,hH0]; rfl
 have g2:∀ x:List Ob,(G++x)[2]?=some ⟨[.int .u32 i,.int .u32 j],true,true,true,1⟩:=fun x=>by rw [hG,hH0]; rfl
 have g3:∀ x:List Ob,(G++x)[3]?=some ⟨Kq P K0 K1 i j,true,true,true,1⟩:=fun x=>by rw [hG,hH0]; rfl
 obtain ⟨H1,hH1⟩:∃ X,X=H0++Se (pbL P) (Zn K0 QO) (X6 K1) (P8 P K0 i) i (XT K1 j) 4:=⟨_,rfl⟩
 rw [←hG,←hH1] at hr
 rw [←hH1,hH0] at hf
 clear hG hH0 hH1 lH hO xP xK y0 y1 x3 x4
 generalize Kq P K0 K1 i j=O,pbL P=PB,Qa 64 0=Z64 at *
 apply J4
 rw [Zg (fn:=vV) rfl]
 simp only [vV,Qs,quiet,cW,↓pW,reduceCtorEq,seval,-Qb,hmt,hz64,k0,k1,hoff,hdof,hdo,hper,hpl,hpo,nO,nz,tw,sO,rfo,eqo,eqp,h2,h3,q1,sp,ok1,ok2,ok3,ga,im,hf,hr,g0,g1,g2,g3,l0,l1,l3,l4,lP,lK,lpb,lz64,Qz,Qy,Q8,Zj,Q9,Qq,Qf,Za]
 rfl
end
end Go.Ev.YtpgphpkjlpkcbaaGreat

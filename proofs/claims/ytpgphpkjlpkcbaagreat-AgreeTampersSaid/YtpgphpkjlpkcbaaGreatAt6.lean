/- What the law leans on, part 6. -/
import Derived.Test.YtpgphpkjlpkcbaaGreatAt5
set_option linter.unusedSimpArgs false
set_option linter.unusedVariables false
set_option linter.defProp false
open Bool renaming and_eq_true → Yw
open Exists renaming intro → Zu
open Int renaming natCast_zero → J6, reduceAdd → Qy, reduceBEq → Q6, reduceBNe → Q5, reduceEq → Qq, reduceGE → Q2, reduceGT → Q1, reduceLE → Qp, reduceLT → Qo, reduceMul → Qx, reduceNeg → Qw, reducePow → Qr, reduceSub → Qv, reduceTDiv → Ql, reduceTMod → Qk, reduceToNat → Qc
open List renaming append_assoc → Je, append_nil → Xd, cons_append → Ze, drop → W0, drop_append_of_le_length → Y3, drop_eq_getElem_cons → Ui, drop_left → Mu, drop_of_length_le → Vv, drop_succ_cons → Qe, drop_zero → Qz, flatten_append → Y9, flatten_cons → Xs, getD_cons_succ → Qb5, getD_cons_zero → Qb4, getD_eq_getElem?_getD → Jz, getElem?_append_left → Qm, getElem?_append_right → Za, getElem?_eq_getElem → Q3, getElem?_eq_some_iff → Q7, getElem?_replicate → R1, getElem?_set_ne → Z4, getElem?_set_self → Jj, length_append → Zh, length_cons → Jc, length_drop → X5, length_nil → Jg, length_replicate → Q4, length_set → Jk, length_take → Js, mem_append → J8, mem_cons → Wh, mem_cons_of_mem → Qba, mem_of_getElem? → Zp, mem_of_mem_drop → Y2, mem_of_mem_take → Ki, mem_or_eq_of_mem_set → Ho, mem_replicate → Rz, nil_append → Q9, not_mem_nil → W8, replicate → Qa, set_append_left → Bo, set_append_right → Yu, take → Vt, take_append_drop → Yn, take_append_of_le_length → Yr, take_left → Qc0, take_of_length_le → Zk, take_succ_cons → Qf, take_zero → Q0
open Nat renaming add_sub_cancel_left → Jh, le_add_right → Qf7, le_of_eq → Qrk, le_refl → Zn, min_eq_left → Vz, mod_eq_of_lt → Z5, mod_mod → Ha, mod_mul_mod → Qb3, mul_comm → Ve, not_lt_zero → J7, reduceAdd → Qg, reduceDiv → Qu, reduceEqDiff → Qb, reduceLT → Qn, reduceLeDiff → Qd, reduceMod → Qt, reduceMul → Qi, reducePow → Qs, reduceSub → Qh, sub_self → Jw, xor_lt_two_pow → Rw, zero_add → Z3
open Option renaming bind_some → Zb
namespace Go.Ev.YtpgphpkjlpkcbaaGreat
open Go Go.Ev
attribute [local congr] W5 Up W4 Uq Wo
set_option maxRecDepth 100000
theorem Qam (w p o:List Nat) (i j:Nat) (g:List Nat):rf (.agg (Y7 w p o i j g).toArray)=true:=by
 show (Y7 w p o i j g).toArray.toList.all Yg=true
 rw [show (Y7 w p o i j g).toArray.toList=Y7 w p o i j g from rfl]
 simp [Y7,u8s,Yg]
def zK:List Nat:=dig 256 32 0
theorem Qc4:zK.length=32:=rfl
def Bm (k:List Nat):List Nat:=if k=zK then zK else Yb k Vh
def B9 (k:List Nat) (i:Nat):Nat:=if k=zK then 0 else i
theorem Qoy (k:List Nat):(Bm k).length=32:=by unfold Bm; split; rfl; exact Bx _ _
theorem Qsw (k:List Nat):∀ y∈Bm k,y<256:=by unfold Bm; split; exact Rb; exact Tb _ _
def Qcw (P pre:List Nat) (pid:Nat):List Nat:=Qdd (P.take 32) (Qbu (Yb (P.drop 32) Vh) (Yb pre Vh) pid)
def Dm (P pre once:List Nat) (pid oid:Nat):List Value:=Y7 (pbL P) (Yb pre Vh) (Bm once) pid (B9 once oid) (Qcw P pre pid)
theorem Qcd (P pre once:List Nat) (pid:Nat):OffL (pbL P) (Yb pre Vh) (Bm once) (Qcw P pre pid):=⟨Qao P,Bx _ _,Qoy _,Qgh _ _⟩
theorem Qya {P pre once:List Nat} {pid oid:Nat} (lP:P.length=64) (xP:∀ y∈P,y<256) (l1:pre.length=32) (x1:∀ y∈pre,y<256) (l2:once.length=32) (x2:∀ y∈once,y<256) :
  evVal T 15 [.agg (u8s P).toArray,.agg (u8s pre).toArray,.agg (u8s once).toArray,.int .u32 pid,.int .u32 oid]=some (.agg (Dm P pre once pid oid).toArray):=by
 have hz:Qa 32 (Value.int .u8 0)=u8s zK:=rfl
 have fz:fillL (u8s zK) []=some (u8s zK):=rfl
 have lz:=Qc4
 have hp:=Qgn lP xP
 have hpre:=Qen l1 x1
 have honce:=Qen l2 x2
 obtain ⟨ls,xs⟩:=Qdv lP xP
 obtain ⟨la,xa⟩:=D7 lP xP
 obtain ⟨t1,t2⟩:=Qdu lP
 have lb:=Qao P
 have lpr:=Bx pre Vh
 have xpr:=Tb pre Vh
 have lon:=Bx once Vh
 have lag:=Bx (P.drop 32) Vh
 have xag:=Tb (P.drop 32) Vh
 have hdp:(pbL P).drop 32=Yb (P.drop 32) Vh:=Tv P
 have K0:OffL (Qa 64 0) (Qa 32 0) (Qa 32 0) (Qa 64 0):=⟨by simp,by simp,by simp,by simp⟩
 have K1:OffL (pbL P) (Qa 32 0) (Qa 32 0) (Qa 64 0):=⟨lb,by simp,by simp,by simp⟩
 have K2:OffL (pbL P) (Yb pre Vh) (Qa 32 0) (Qa 64 0):=⟨lb,lpr,by simp,by simp⟩
 have hfill:fillL Gx [(0,64,.agg (u8s (pbL P)).toArray),(64,32,.agg (u8s (Yb pre Vh)).toArray),(128,1,.int .u32 (pid:Int))]=some (Y7 (pbL P) (Yb pre Vh) zK pid 0 (Qa 64 0)):=by
  have c1:(Value.agg (u8s (pbL P)).toArray).cells.size=64∧0+64≤Gx.length∧Yj (Value.agg (u8s (pbL P)).toArray)=true:=⟨by show (u8s _).length=64; rw [Zv,lb],by rw [Qd5,Ux K0]; decide,rfl⟩
  have c2:(Value.agg (u8s (Yb pre Vh)).toArray).cells.size=32∧64+32≤(Y7 (pbL P) (Qa 32 0) (Qa 32 0) 0 0 (Qa 64 0)).length∧Yj (Value.agg (u8s (Yb pre Vh)).toArray)=true:=⟨by show (u8s _).length=32; rw [Zv,lpr],by rw [Ux K1]; decide,rfl⟩
  have c3:(Value.int .u32 (pid:Int)).cells.size=1∧128+1≤(Y7 (pbL P) (Yb pre Vh) (Qa 32 0) 0 0 (Qa 64 0)).length∧Yj (Value.int .u32 (pid:Int))=true:=⟨rfl,by rw [Ux K2]; decide,rfl⟩
  have e1:splice Gx 0 (Value.agg (u8s (pbL P)).toArray).cells.toList=Y7 (pbL P) (Qa 32 0) (Qa 32 0) 0 0 (Qa 64 0):=by rw [Qd5]; exact Qji K0 lb
  have e2:splice (Y7 (pbL P) (Qa 32 0) (Qa 32 0) 0 0 (Qa 64 0)) 64 (Value.agg (u8s (Yb pre Vh)).toArray).cells.toList=Y7 (pbL P) (Yb pre Vh) (Qa 32 0) 0 0 (Qa 64 0):=Qjk K1 lpr
  have e3:splice (Y7 (pbL P) (Yb pre Vh) (Qa 32 0) 0 0 (Qa 64 0)) 128 (Value.int .u32 (pid:Int)).cells.toList=Y7 (pbL P) (Yb pre Vh) (Qa 32 0) pid 0 (Qa 64 0):=Qio K2
  unfold fillL
  rw [if_pos c1,e1]
  unfold fillL
  rw [if_pos c2,e2]
  unfold fillL
  rw [if_pos c3,e3]
  rfl
 have K3:OffL (pbL P) (Yb pre Vh) zK (Qa 64 0):=⟨lb,lpr,rfl,by simp⟩
 have K4:OffL (pbL P) (Yb pre Vh) (Yb once Vh) (Qa 64 0):=⟨lb,lpr,lon,by simp⟩
 have K5:OffL (pbL P) (Yb pre Vh) (Bm once) (Qa 64 0):=⟨lb,lpr,Qoy _,by simp⟩
 have K6:=Qcd P pre once pid
 have s1:=Qgv (i:=pid) (j:=0) K3 lon
 have s2:=Qo2 (i:=pid) (j:=0) (j':=oid) K4
 have s3:=Qjj (i:=pid) (j:=B9 once oid) K5 (Qgh (P.take 32) (Qbu (Yb (P.drop 32) Vh) (Yb pre Vh) pid))
 have n3:=Ux (i:=pid) (j:=0) K3
 have n4:=Ux (i:=pid) (j:=0) K4
 have n5:=Ux (i:=pid) (j:=B9 once oid) K5
 have n6:(Dm P pre once pid oid).length=194:=Ux K6
 have r5:=Qce (i:=pid) (j:=B9 once oid) K5
 rw [hdp] at r5
 have r6:=Qdl (i:=pid) (j:=B9 once oid) K5
 have nz:Gx.length=194:=by rw [Qd5]; exact Ux K0
 obtain ⟨G,hG⟩:∃ X,X=[(⟨u8s P,true,true,true,1⟩:Ob),⟨u8s pre,true,true,true,1⟩,⟨u8s once,true,true,true,1⟩,⟨Gx,true,true,true,1⟩,⟨Y7 (pbL P) (Yb pre Vh) (Bm once) pid (B9 once oid) (Qa 64 0),true,true,true,1⟩]:=⟨_,rfl⟩
 have lG:G.length=5:=by rw [hG]; rfl
 have hsgd:=Qoi (H:=G) (i:=pid) lag lpr
 have hargs:=Qr9 (H:=G) (i:=pid) lag xag lpr xpr
 obtain ⟨l,hmk⟩:=Q90 ls xs hargs (by show 4≤1000; decide) (by rw [Qem]; simp [Qbu,R3,id4,lag,lpr])
 rw [Qem] at hmk
 rw [lG,Je] at hmk
 rw [lG] at hsgd
 have lsg:=Qgh (P.take 32) (Qbu (Yb (P.drop 32) Vh) (Yb pre Vh) pid)
 obtain ⟨X,hX⟩:∃ X,X=Qa2 5 (Yb (P.drop 32) Vh) (Yb pre Vh) pid++l:=⟨_,rfl⟩
 rw [←hX] at hmk
 rw [hG] at hmk hsgd
 have rfo:rf (.agg (Dm P pre once pid oid).toArray)=true:=Qam _ _ _ _ _ _
 have ok1:∀ L:List Value,(Value.agg L.toArray).cells.toList=L:=fun _=>rfl
 have ok2:∀ L:List Value,(Value.agg L.toArray).cells.size=L.length:=fun _=>rfl
 have ok3:∀ L:List Value,Yj (Value.agg L.toArray)=true:=fun _=>rfl
 have hq:=Qc8 (k:=once) (l:=zK) l2 rfl
 have tw:Vt 194 (Dm P pre once pid oid)=Dm P pre once pid oid:=Zk (by rw [n6]; decide)
 have sz:splice Gx 0 (Dm P pre once pid oid)=Dm P pre once pid oid:=Vg (by rw [n6,nz])
 have szo:splice Gx 0 (Y7 (pbL P) (Yb pre Vh) zK pid 0 (Qa 64 0))=Y7 (pbL P) (Yb pre Vh) zK pid 0 (Qa 64 0):=Vg (by rw [n3,nz])
 have s1':∀ L:List Nat,(Value.agg (u8s L).toArray).cells.toList=u8s L:=fun _=>rfl
 rw [show Y7 (pbL P) (Yb pre Vh) (Bm once) pid (B9 once oid) (Qdd (P.take 32) (Qbu (Yb (P.drop 32) Vh) (Yb pre Vh) pid))=Dm P pre once pid oid from rfl] at s3
 have Zcz:∀ (L:List Value) (v:Value),splice L 129 [v]=L.set 129 v:=fun _ _=>rfl
 rw [Zcz] at s2
 simp only [Ze,Q9] at hmk hsgd
 have im:∀ k,Jp 0 [] [k]=[]:=fun k=>Xu (by simp)
 clear K0 K1 K2 K3 K4 K5 K6 hG hX hargs xs xa xag xpr hdp Zcz xP x1 x2
 by_cases h:once=zK
 ·have hb:(!(once==zK))=false:=by rw [h]; simp
  rw [hb] at hq
  have ho:Y7 (pbL P) (Yb pre Vh) (Bm once) pid (B9 once oid) (Qa 64 0)=Y7 (pbL P) (Yb pre Vh) zK pid 0 (Qa 64 0):=by rw [Bm,B9,if_pos h,if_pos h]
  rw [ho] at hmk hsgd s3 n5 r5 r6
  clear h hb ho s1 s2
  generalize Y7 (pbL P) (Yb pre Vh) zK pid 0 (Qa 64 0)=O1,Dm P pre once pid oid=O2,Qdd (P.take 32) (Qbu (Yb (P.drop 32) Vh) (Yb pre Vh) pid)=SG,Qa2 5 (Yb (P.drop 32) Vh) (Yb pre Vh) pid=SH at *
  generalize pbL P=PB,Yb pre Vh=PR,Yb (P.drop 32) Vh=AG,Yb once Vh=ON,zK=Z at *
  apply Jx
  apply Zu
  rw [Zz (fn:=Q7e) rfl]
  simp only [Q7e,↓Zm,Zw,quiet,cF,↓pF,reduceCtorEq,Qb,Qq,Zj,Zd,Zg,Zc,Q8,Qf,Q0,Qe,Qz,Q6,Q5,↓Zo,↓Zl,↓Zq,↓Zt,↓Zr,↓Zs,cL,Qp,Qo,Qy,Qx,Qv,Ql,Qk,Qw,Qc,Q1,Q2,Qr,Qg,Qi,Qh,Qu,Qt,Qs,Qn,Qd,cJ,hz,fz,hp,hpre,hfill,szo,hq,t1,r5,r6,hsgd,hmk,s3,sz,tw,im,nz,n3,n5,n6,ok1,ok2,ok3,lP,l1,l2,lz,ls,lb,lpr,lag,lsg,Ji,Jf,Jt,Ku,Ju,Zv,Q4,Ko,rfo]
  rfl
 ·have hb:(!(once==zK))=true:=by simpa using h
  rw [hb] at hq
  have ho:Y7 (pbL P) (Yb pre Vh) (Bm once) pid (B9 once oid) (Qa 64 0)=Y7 (pbL P) (Yb pre Vh) (Yb once Vh) pid oid (Qa 64 0):=by rw [Bm,B9,if_neg h,if_neg h]
  rw [ho] at hmk hsgd s3 n5 r5 r6
  clear h hb ho
  generalize Y7 (pbL P) (Yb pre Vh) (Yb once Vh) pid oid (Qa 64 0)=O4,Y7 (pbL P) (Yb pre Vh) (Yb once Vh) pid 0 (Qa 64 0)=O3,Y7 (pbL P) (Yb pre Vh) zK pid 0 (Qa 64 0)=O1,Dm P pre once pid oid=O2,Qdd (P.take 32) (Qbu (Yb (P.drop 32) Vh) (Yb pre Vh) pid)=SG,Qa2 5 (Yb (P.drop 32) Vh) (Yb pre Vh) pid=SH at *
  generalize pbL P=PB,Yb pre Vh=PR,Yb (P.drop 32) Vh=AG,Yb once Vh=ON,zK=Z at *
  apply Jx
  apply Zu
  rw [Zz (fn:=Q7e) rfl]
  simp only [Q7e,↓Zm,Zw,quiet,cF,↓pF,reduceCtorEq,Qb,Qq,Zj,Zd,Zg,Zc,Q8,Qf,Q0,Qe,Qz,Q6,Q5,↓Zo,↓Zl,↓Zq,↓Zt,↓Zr,↓Zs,cL,Qp,Qo,Qy,Qx,Qv,Ql,Qk,Qw,Qc,Q1,Q2,Qr,Qg,Qi,Qh,Qu,Qt,Qs,Qn,Qd,cJ,hz,fz,hp,hpre,honce,hfill,szo,hq,s1,s2,t1,r5,r6,hsgd,hmk,s3,sz,tw,im,nz,n3,n4,n5,n6,ok1,ok2,ok3,lP,l1,l2,lz,ls,lb,lpr,lon,lag,lsg,Ji,Jf,Jt,Ku,Ju,Zv,Q4,Ko,rfo]
  rfl
theorem Qs7 {w p o g:List Nat} {i j:Nat} (h:OffL w p o g) (xw:∀ y∈w,y<256) (xp:∀ y∈p,y<256) (xg:∀ y∈g,y<256) :
  ∃ c,evVal T 11 [.agg (Y7 w p o i j g).toArray]=some (.int .i64 c)∧Qhv (w.take 32) (g.take 32) (g.drop 32) (Qbu (w.drop 32) p i) c:=by
 obtain ⟨l1,x1⟩:=Qdv h.lw xw
 obtain ⟨l2,x2⟩:=D7 h.lw xw
 obtain ⟨l3,x3⟩:=Qdv h.lg xg
 obtain ⟨l4,x4⟩:=D7 h.lg xg
 have lp:=h.lp
 have lg:=h.lg
 have n0:=Ux (i:=i) (j:=j) h
 have r1:=Qo1 (i:=i) (j:=j) h
 have r2:=Qce (i:=i) (j:=j) h
 have r3:=Qdl (i:=i) (j:=j) h
 have r4:=Qlu (i:=i) (j:=j) h
 obtain ⟨r5,-⟩:=Tz (i:=i) (j:=j) h
 have hsgd:=Qoi (H:=[(⟨Y7 w p o i j g,true,true,true,1⟩:Ob)]) (i:=i) l2 lp
 have hargs:=Qr9 (H:=[(⟨Y7 w p o i j g,true,true,true,1⟩:Ob)]) (i:=i) l2 x2 lp xp
 obtain ⟨l,c,hc,hs⟩:=Q6x l1 x1 l3 x3 l4 x4 hargs (by show 4≤1000; decide) (by rw [Qem]; simp [Qbu,R3,id4,l2,lp])
 rw [Qem] at hs
 rw [Yn] at hc
 refine ⟨c,?_,hs⟩
 simp only [Jc,Jg,Z3] at hsgd hc
 have ok1:∀ L:List Value,(Value.agg L.toArray).cells.toList=L:=fun _=>rfl
 have ok2:∀ L:List Value,(Value.agg L.toArray).cells.size=L.length:=fun _=>rfl
 have ok3:∀ L:List Value,Yj (Value.agg L.toArray)=true:=fun _=>rfl
 clear hs hargs h x1 x2 x3 x4
 generalize Y7 w p o i j g=O,Qa2 1 (w.drop 32) p i=SH,w.take 32=W1 at *
 generalize w.drop 32=W2 at *
 simp only [Ze,Q9,Je] at hc hsgd
 apply Jx
 apply Zu
 rw [Zz (fn:=Zfd) rfl]
 simp only [Zfd,↓Zm,Zw,quiet,cF,↓pF,reduceCtorEq,Qb,Qq,Zj,Zd,Zg,Zc,Q8,Qf,Q0,Qe,Qz,Q6,Q5,↓Zo,↓Zl,↓Zq,↓Zt,↓Zr,↓Zs,cL,Qp,Qo,Qy,Qx,Qv,Ql,Qk,Qw,Qc,Q1,Q2,Qr,Qg,Qi,Qh,Qu,Qt,Qs,Qn,Qd,cJ,n0,r1,r2,r3,r4,r5,hsgd,hc,ok1,ok2,ok3,l1,l2,lp,lg,Ji,Jf,Jt,Ku,Ju,Zv,Q4,Ko]
 rfl
theorem Qt0 {G:List Ob} {id c:Nat} {b:List Nat} {w e:Bool} {s:Nat} (h:G[id]?=some ⟨u8s b,true,w,e,s⟩):elemsOf G 1 b.length (.slice (some ⟨id,0,none⟩) b.length c)=some (u8s b):=by
 simp [elemsOf,V9 h rfl,Zv]
 exact Zk (by rw [Zv]; exact Zn _)
def Qb9:List Nat:=Qa 32 255
def tgA (L:List (List Nat)):Nat→List Nat
 | 0=>Qb9
 | k+1=>tgA L k++Yb ((L.getD k []).take 32) ((L.getD k []).drop 32)
theorem Qp6 (L:List (List Nat)):∀ k,(tgA L k).length=32+32*k
 | 0=>rfl
 | k+1=>by rw [tgA,Zh,Qp6 L k,Bx]; omega
theorem Q2r (L:List (List Nat)):∀ k,∀ y∈tgA L k,y<256
 | 0=>fun y hy=>by have:=(Rz.1 hy).2; omega
 | k+1=>fun y hy=>(J8.1 hy).elim (Q2r L k y) (Tb _ _ y)
def AllS (B:Nat) (G:List Ob) (v:Value) (t:List Nat):Prop:=(∃ id,B<id∧v=.slice (some ⟨id,0,none⟩) 32 32∧t.length=32∧G[id]?=some ⟨u8s t,true,true,true,1⟩)∨Rst (fun i=>i≤B) G v t
theorem Qul {B:Nat} {G:List Ob} {v:Value} {t q:List Nat} {b:Nat} (h:AllS B G v t) (hB:B<G.length) (hb:G[b]?=some ⟨u8s q,true,true,true,1⟩) (lq:q.length=32) (lt:t.length≤900) :
  ∃ v' G' M,Wk 1 1 G v (.slice (some ⟨b,0,none⟩) 32 32)=some (v',G',none,M)∧AllS B G' v' (t++q)∧(∀ i∈M,B<i)∧G.length≤G'.length∧∀ i,i≤B→G'[i]?=G[i]? := by
 rcases h with ⟨id,h1,rfl,h2,h3⟩ | h
 ·have:=Qpu h3 hb h2 lq (by decide) (c:=32) (by decide)
  refine ⟨_,_,[],this,.inr ?_,by simp,by simp,fun i hi=>by rw [Qm (by omega)]⟩
  have hl:(t++q).length=32+32:=by rw [Zh,h2,lq]
  rw [←hl]
  exact .own (all:=t++q) (by omega) (by rw [Za (Zn _),Jw]; rfl) (by omega) (fun i _=>by rw [Z3])
 ·have he:elemsOf G 1 q.length (.slice (some ⟨b,0,none⟩) 32 32)=some (u8s q):=by
   rw [lq]
   simp [elemsOf,V9 hb rfl,Zv,lq]
   exact Zk (by rw [Zv,lq]; exact Zn _)
  obtain ⟨v',G',M,k1,k2,k3,k4,k5,-⟩:=h.append (fun i hi=>by omega) (by rw [lq]; rfl:Go.Ev.lenV (.slice (some ⟨b,0,none⟩) 32 32)=some q.length) he (by omega)
  exact ⟨v',G',M,k1,.inr k2,fun i hi=>by have:=k3 i hi; omega,k4,fun i hi=>k5 i hi⟩
theorem AllS.shape {B:Nat} {G:List Ob} {v:Value} {t:List Nat} (h:AllS B G v t):∃ a c,v=.slice a t.length c:=by
 rcases h with ⟨id,h1,rfl,h2,h3⟩ | h
 ·rw [h2]; exact ⟨_,_,rfl⟩
 ·exact h.shape
theorem AllS.part {B:Nat} {G:List Ob} {v:Value} {t:List Nat} (h:AllS B G v t) (xt:∀ y∈t,y<256) (lt:t.length≤1000):HPart (LtN G.length) G v t:=by
 rcases h with ⟨id,h1,rfl,h2,h3⟩ | h
 ·have:=HPart.whole (n:=G.length) (c:=32) (Q7.1 h3).1 h3 xt (by omega)
  rwa [h2] at this
 ·refine ⟨h.shape,fun G' hG' => ?_,xt,by omega⟩
  have h':Rst (fun i=>i≤B) G' v t:=h.ext fun i hi=>hG' i hi
  exact h'.elems
theorem AllS.ext {B:Nat} {G G':List Ob} {v:Value} {t:List Nat} (h:AllS B G v t) (hg:∀ i,i<G.length→G'[i]?=G[i]?):AllS B G' v t:=by
 rcases h with ⟨id,h1,h0,h2,h3⟩ | h
 ·exact .inl ⟨id,h1,h0,h2,(hg id (Q7.1 h3).1).trans h3⟩
 ·exact .inr (h.ext hg)
def tgI (B:Nat) (pv vo:Value) (n k:Nat) (G:List Ob) (ex:Env):St:=⟨[(2,.pointer (some ⟨B,0,none⟩)),(4,vo),(22,pv),(23,.int .i64 n),(24,.int .i64 k)]++ex,G,[]⟩
theorem Qxj {H G:List Ob} {pid n k c:Nat} {vo:Value} {L:List (List Nat)} {w e:Bool} {s:Nat} {P:List Nat} (hP:H[pid]?=some ⟨u8s L.flatten,true,w,e,s⟩) (hL:∀ x∈L,x.length=64∧∀ y∈x,y<256) (hn:L.length=n) (hk:L[k]?=some P) (hn9:n≤20)
  (hne:Yb (P.take 32) (P.drop 32)≠zK) (hG:H.length<G.length) (hf:∀ i,i≤H.length→i<H.length→G[i]?=H[i]?) (hz:G[H.length]?=some ⟨u8s zK,true,true,true,1⟩) (ha:AllS H.length G vo (tgA L k)) :
  ∃ G' vo',Jl T H.length Qaw (tgI H.length (.slice (some ⟨pid,0,none⟩) n c) vo n k G [])=some (.normal,tgI H.length (.slice (some ⟨pid,0,none⟩) n c) vo' n (k+1) G' [])∧H.length<G'.length∧(∀ i,i≤H.length→i<H.length→G'[i]?=H[i]?)∧G'[H.length]?=some ⟨u8s zK,true,true,true,1⟩∧AllS H.length G' vo' (tgA L (k+1)):=by
 have hkn:k<n:=by rw [←hn]; exact (Q7.1 hk).1
 have hpid:=(Q7.1 hP).1
 obtain ⟨lP,xP⟩:=hL P (Zp hk)
 obtain ⟨l1,x1⟩:=Qdv lP xP
 obtain ⟨l2,x2⟩:=D7 lP xP
 obtain ⟨t1,t2⟩:=Qdu lP
 have hag:=Qtg l1 x1 l2 x2
 rw [if_neg (show Yb (P.take 32) (P.drop 32)≠dig 256 32 0 from hne)] at hag
 have lR:=Bx (P.take 32) (P.drop 32)
 have hgd:L.getD k []=P:=by rw [Jz,hk]; rfl
 have hpg:∀ m:List Ob,(G++m)[pid]?=some ⟨u8s L.flatten,true,w,e,s⟩:=fun m=>by rw [Qm (by omega),hf pid (by omega) hpid]; exact hP
 have hpg0:=hpg []
 rw [Xd] at hpg0
 have hall:∀ (M:List (List Nat)),(∀ x∈M,x.length=64)→M.flatten.length=64*M.length:=by
  intro M hM
  induction M with
  | nil=>rfl
  | cons a M ih=>rw [Xs,Zh,ih (fun x hx=>hM x (Qba _ hx)),hM a (by simp),Jc]; omega
 have hfl:=hall L fun x hx=>(hL x hx).1
 have hpair:Vt 64 (W0 (k*64) (u8s L.flatten))=u8s P:=by
  have e1:L.flatten=(L.take k).flatten++(P++(L.drop (k+1)).flatten):=by
   rw [←Xs,←Y9]
   congr 1
   have h1:=Q7.1 hk
   conv=>lhs; rw [←Yn k L,Ui h1.1,h1.2]
  have e2:(L.take k).flatten.length=k*64:=by
   rw [hall (L.take k) fun x hx=>(hL x (Ki hx)).1,Js,Vz (by omega),Ve]
  rw [e1,U5,U5,←e2,←Zv,Mu,←lP,←Zv P,Qc0]
 have hle:k*64+64≤(u8s L.flatten).length:=by rw [Zv,hfl,hn]; omega
 obtain ⟨G1,hG1⟩:∃ X,X=G++[(⟨u8s P,true,true,true,1⟩:Ob),⟨u8s (Yb (P.take 32) (P.drop 32)),true,true,true,1⟩]:=⟨_,rfl⟩
 have lG1:G1.length=G.length+2:=by rw [hG1]; simp
 have u1:∀ i,i<G.length→G1[i]?=G[i]? := fun i hi=>by rw [hG1,Qm hi]
 have hR:G1[G.length+1]?=some ⟨u8s (Yb (P.take 32) (P.drop 32)),true,true,true,1⟩:=by rw [hG1,Za (by omega),Jh]; rfl
 have hla:=Qp6 L k
 obtain ⟨vo',G',M,q1,q2,q3,q4,q5⟩:=Qul (ha.ext u1) (by omega) hR lR (by rw [hla]; omega)
 refine ⟨G',vo',?_,by omega,fun i _ hi=>by rw [q5 i (by omega),u1 i (by omega),hf i (by omega) hi],by rw [q5 _ (Zn _),u1 _ hG]; exact hz,by rw [tgA,hgd]; exact q2⟩
 have hz64:=Dd
 have hz32:Qa 32 (Value.int .u8 0)=u8s zK:=rfl
 have lz64:(Qa 64 0).length=64:=Q4
 have lzk:=Qc4
 have e1:((k:Int)<(n:Int))=True:=eq_true (by omega)
 have w3:IntKind.i64.wrap ((k:Int)+1)=((k+1:Nat):Int):=Yx (b:=1) (by omega)
 have b32:Wz 32 32 none none none=some (0,32,32):=rfl
 have im:Jp H.length [] M=[]:=Xu fun i hi=>by have:=q3 i hi; omega
 have im1:Jp H.length [] [G.length]=[]:=Xu (by simp; omega)
 have im2:Jp H.length [] [G.length+1]=[]:=Xu (by simp; omega)
 have F1:G++[(⟨u8s P,true,true,true,1⟩:Ob),⟨u8s (Yb (P.take 32) (P.drop 32)),true,true,true,1⟩]=G1:=hG1.symm
 have rt:∀ r:List Nat,rf (Value.tuple #[.agg (u8s r).toArray,.int .i64 0])=true:=fun r=>Hw (Rr r) rfl
 clear hG1 hP hf u1 hR q2 q3 q5 ha hall hgd hL hne x1 x2
 generalize Yb (P.take 32) (P.drop 32)=R at *
 generalize P.take 32=P1,P.drop 32=P2,u8s L.flatten=LF,Qa 64 0=Z64,zK=Z at *
 generalize hk64:k*64=k64 at *
 generalize hk1:k+1=k1 at *
 simp only [tgI,Qaw,hk64,hk1,↓Zm,Zw,quiet,cF,↓pF,reduceCtorEq,Qb,Qq,Zj,Zd,Zg,Zc,Q8,Qf,Q0,Qe,Qz,Q6,Q5,↓Zo,↓Zl,↓Zq,↓Zt,↓Zr,↓Zs,cL,Qp,Qo,Qy,Qx,Qv,Ql,Qk,Qw,Qc,Q1,Q2,Qr,Qg,Qi,Qh,Qu,Qt,Qs,Qn,Qd,cJ,hz64,hz32,e1,w3,b32,hpg,hpg0,hpair,hle,t1,t2,hag,F1,q1,im,im1,im2,rt,lP,l1,l2,lR,lz64,lzk,Ji,Jf,Jt,Ku,Ju,Zv,Q4,Ko]
def tfI (H:List Ob) (pv:Value) (A:List Nat) (k:Int) (ex:Env):St:=⟨[(0,pv),(2,.pointer (some ⟨H.length,0,none⟩)),(4,.slice (some ⟨H.length+1,0,none⟩) 32 32),(14,.int .i64 32),(15,.int .i64 k)]++ex,H++[⟨u8s zK,true,true,true,1⟩,⟨u8s A,true,true,true,1⟩],[]⟩
theorem Qr2 {H:List Ob} {pv:Value}:Jl T H.length (.block 0 (.loop Qhj)) (tfI H pv (Qa 32 0) 0 [])=some (.normal,tfI H pv Qb9 32 [(16,.bool false)]):=by
 have lt:Qb9.length=32:=Q4
 have h:=Wf (T:=T) (base:=H.length) (id:=0) (body:=Qhj) (fun i=>tfI H pv (pf 32 Qb9 i) i []) (s':=tfI H pv Qb9 32 [(16,.bool false)]) 32
  (fun i hi=>by
   have hi:i<32:=hi
   have hv:Qb9[i]?=some 255:=by rw [Qb9,R1,if_pos hi]
   have s1:=Gu lt hi hv
   have c1:(u8s (pf 32 Qb9 i)).set i (.int .u8 255)=_:=Ba (pf 32 Qb9 i) i 255
   rw [s1] at c1
   have l1:i+1≤(u8s (pf 32 Qb9 i)).length:=by rw [Zv,Df lt (by omega)]; omega
   have e1:((i:Int)<32)=True:=eq_true (by omega)
   have w3:IntKind.i64.wrap ((i:Int)+1)=((i+1:Nat):Int):=Yx (b:=1) (by omega)
   have im1:Jp H.length [] [H.length+1]=[]:=Xu (by simp)
   have g0:∀ o1 o2:Ob,(H++[o1,o2])[H.length+1]?=some o2:=fun _ _=>by rw [Za (by omega),Jh]; rfl
   have t0:∀ o1 o2 o:Ob,(H++[o1,o2]).set (H.length+1) o=H++[o1,o]:=fun _ _ _=>by rw [Yu _ _ (by omega),Jh]; rfl
   simp only [tfI]
   generalize pf 32 Qb9 i=A1,pf 32 Qb9 (i+1)=A2 at *
   generalize hi1:i+1=i1 at *
   generalize zK=Z at *
   simp only [Qhj,↓Zm,Zw,quiet,cF,↓pF,reduceCtorEq,Qb,Qq,Zj,Zd,Zg,Zc,Q8,Qf,Q0,Qe,Qz,Q6,Q5,↓Zo,↓Zl,↓Zq,↓Zt,↓Zr,↓Zs,cL,Qp,Qo,Qy,Qx,Qv,Ql,Qk,Qw,Qc,Q1,Q2,Qr,Qg,Qi,Qh,Qu,Qt,Qs,Qn,Qd,cJ,e1,w3,c1,l1,g0,t0,im1,hi1])
  (by
   rw [Dk lt]
   simp only [tfI,Qhj,↓Zm,Zw,quiet,cF,↓pF,reduceCtorEq,Qb,Qq,Zj,Zd,Zg,Zc,Q8,Qf,Q0,Qe,Qz,Q6,Q5,↓Zo,↓Zl,↓Zq,↓Zt,↓Zr,↓Zs,cL,Qp,Qo,Qy,Qx,Qv,Ql,Qk,Qw,Qc,Q1,Q2,Qr,Qg,Qi,Qh,Qu,Qt,Qs,Qn,Qd,cJ])
 rw [Dj] at h
 exact h
def Q2h:List Nat:=[115,105,103,110,101,116,32,97,103,114,101,101]
def B3 (L:List (List Nat)):List Nat:=Qpc [] (tgA L L.length) Q2h 1
theorem Qrz {H:List Ob} {pid c:Nat} {L:List (List Nat)} {w e:Bool} {s:Nat} (hP:H[pid]?=some ⟨u8s L.flatten,true,w,e,s⟩) (hL:∀ x∈L,x.length=64∧∀ y∈x,y<256) (hn9:L.length≤20)
  (hne:∀ x∈L,Yb (x.take 32) (x.drop 32)≠zK) :
  (B3 L).length=32∧∃ l,Yd T 23 [.slice (some ⟨pid,0,none⟩) L.length c] H=some (.tuple #[.agg (u8s (B3 L)).toArray,.int .i64 0],H++l,[]):=by
 obtain ⟨n,hn⟩:∃ n,L.length=n:=⟨_,rfl⟩
 have hf:=Qr2 (H:=H) (pv := .slice (some ⟨pid,0,none⟩) n c)
 obtain ⟨G0,hG0⟩:∃ X,X=H++[(⟨u8s zK,true,true,true,1⟩:Ob),⟨u8s Qb9,true,true,true,1⟩]:=⟨_,rfl⟩
 have lG0:G0.length=H.length+2:=by rw [hG0]; simp
 obtain ⟨st,hloop,G5,vo,rfl,r1,r2,r3,r4⟩:=Vi (T:=T) (base:=H.length) (id:=2) (body:=Qaw)
  (fun k st=>∃ G vo,st=tgI H.length (.slice (some ⟨pid,0,none⟩) n c) vo n k G []∧H.length<G.length∧(∀ i,i≤H.length→i<H.length→G[i]?=H[i]?)∧G[H.length]?=some ⟨u8s zK,true,true,true,1⟩∧AllS H.length G vo (tgA L k))
  (Q:=fun st=>∃ G vo,st=tgI H.length (.slice (some ⟨pid,0,none⟩) n c) vo n n G [(25,.bool false)]∧H.length<G.length∧(∀ i,i≤H.length→i<H.length→G[i]?=H[i]?)∧G[H.length]?=some ⟨u8s zK,true,true,true,1⟩∧AllS H.length G vo (tgA L n))
  n (s:=tgI H.length (.slice (some ⟨pid,0,none⟩) n c) (.slice (some ⟨H.length+1,0,none⟩) 32 32) n 0 G0 [])
  ⟨G0,_,rfl,by omega,fun i _ hi=>by rw [hG0,Qm hi],by rw [hG0,Za (Zn _),Jw]; rfl,
   .inl ⟨_,by omega,rfl,Q4,by rw [hG0,Za (by omega),Jh]; rfl⟩⟩
  (fun k st hk hst=>by
   obtain ⟨G,v,rfl,a1,a2,a3,a4⟩:=hst
   obtain ⟨P,hP'⟩:∃ P,L[k]?=some P:=⟨_,Q3 (by omega)⟩
   obtain ⟨G',v',b0,b1,b2,b3,b4⟩:=Qxj (c:=c) hP hL hn hP' (by omega) (hne P (Zp hP')) a1 a2 a3 a4
   exact ⟨_,b0,G',v',rfl,b1,b2,b3,b4⟩)
  (fun st hst=>by
   obtain ⟨G,v,rfl,a1,a2,a3,a4⟩:=hst
   refine ⟨_,?_,G,v,rfl,a1,a2,a3,a4⟩
   simp only [tgI,Qaw,↓Zm,Zw,quiet,cF,↓pF,reduceCtorEq,Qb,Qq,Zj,Zd,Zg,Zc,Q8,Qf,Q0,Qe,Qz,Q6,Q5,↓Zo,↓Zl,↓Zq,↓Zt,↓Zr,↓Zs,cL,Qp,Qo,Qy,Qx,Qv,Ql,Qk,Qw,Qc,Q1,Q2,Qr,Qg,Qi,Qh,Qu,Qt,Qs,Qn,Qd,cJ])
 have lA:=Qp6 L n
 obtain ⟨l,kid,hk,k1,k2,k3⟩:=Q98 (vs := .slice none 0 0) (salt:=[]) (info:=Q2h) (c:=1) (H:=G5) ⟨⟨_,_,rfl⟩,fun _ _=>rfl,by simp,by decide⟩ (by decide) (r4.part (Q2r L n) (by omega)) (by omega) (by decide) (by decide) (by decide) (by decide)
 have hkl:Qpc [] (tgA L n) Q2h 1=B3 L:=by rw [B3,hn]
 rw [hkl] at k2 k3
 have lT:(B3 L).length=32:=k3
 refine ⟨lT,?_⟩
 obtain ⟨l',hl'⟩:∃ l',(G5++l).set H.length ⟨u8s (B3 L),true,true,true,1⟩=H++l':=B5 (by simp; omega) fun i hi=>by
  rw [Z4 (by omega),Qm (by omega),r2 i (by omega) hi]
 refine ⟨l',?_⟩
 rw [hn]
 have hz:(G5++l)[H.length]?=some ⟨u8s zK,true,true,true,1⟩:=by rw [Qm r1]; exact r3
 have hz2:((G5++l).set H.length ⟨u8s (B3 L),true,true,true,1⟩)[H.length]?=some ⟨u8s (B3 L),true,true,true,1⟩:=by rw [Jj (by rw [Zh]; omega)]
 rw [hl',Za (Zn _),Jw] at hz2
 have lz:=Qc4
 have sp:=Vg (cs:=u8s zK) (v:=u8s (B3 L)) (by rw [Zv,Zv,lT,lz])
 have hz32:Qa 32 (Value.int .u8 0)=u8s zK:=rfl
 have im1:Jp H.length [] [H.length]=[]:=Xu (by simp)
 have hs:Ua Q2h=.string (ByteArray.mk #[115,105,103,110,101,116,32,97,103,114,101,101]):=rfl
 rw [hs] at hk
 rw [show ((1:Nat):Int)=1 from rfl] at hk
 have F0:H++[(⟨u8s zK,true,true,true,1⟩:Ob),⟨u8s Qb9,true,true,true,1⟩]=G0:=hG0.symm
 simp only [tfI,tgI,Ze,Q9,F0,show ((0:Nat):Int)=0 from rfl] at hloop hf
 have hmk:(Qa 32 [Value.int .u8 0]).flatten=u8s (Qa 32 0):=rfl
 clear hG0 r1 r2 r3 r4 hP hL hne
 generalize B3 L=TL,zK=Z,Qb9=X255,tgA L n=TA at *
 rw [Zz (fn:=Q7d) rfl]
 simp only [Q7d,↓Zm,Zw,quiet,cF,↓pF,reduceCtorEq,Qb,Qq,Zj,Zd,Zg,Zc,Q8,Qf,Q0,Qe,Qz,Q6,Q5,↓Zo,↓Zl,↓Zq,↓Zt,↓Zr,↓Zs,cL,Qp,Qo,Qy,Qx,Qv,Ql,Qk,Qw,Qc,Q1,Q2,Qr,Qg,Qi,Qh,Qu,Qt,Qs,Qn,Qd,cJ,hz32,hmk,hf,hloop,hk,hz,hz2,k2,sp,im1,hl',lT,lz,Ji,Jf,Jt,Ku,Ju,Zv,Q4,Ko]
end Go.Ev.YtpgphpkjlpkcbaaGreat
namespace Go.Ev.YtpgphpkjlpkcbaaGreat
open Go Go.Ev Go.Fp
set_option maxRecDepth 100000
def frc {α:Type} (n:Nat) (k:Nat→α):α:=match n with
 | 0=>k 0
 | m+1=>k (m+1)
theorem Qwo {α:Type} (n:Nat) (k:Nat→α):frc n k=k n:=by cases n<;>rfl
def stN (u X Z X' Z':Nat) (k:Nat→Nat→Nat→Nat→Bool):Bool :=
 frc ((X+Z)%P) fun s=>frc ((P-Z+X)%P) fun m=>frc (s*s%P) fun ss=>frc (m*m%P) fun mm=>frc ((P-mm+ss)%P) fun e =>
 frc ((P-Z'+X')%P*s%P) fun l=>frc ((X'+Z')%P*m%P) fun r=>frc ((l+r)%P) fun lr=>frc ((P-r+l)%P) fun lm =>
 frc (ss*mm%P) fun dx=>frc (e*((ss+121665*e%P)%P)%P) fun dz=>frc (lr*lr%P) fun ax=>frc (u*(lm*lm%P)%P) fun az=>k dx dz ax az
def lT (K u:Nat):Nat→Nat→Nat→Nat→Nat→(Nat→Nat→Bool)→Bool
 | 0,a,b,_,_,f=>f a b
 | n+1,a,b,c,d,f=>if K/2^n%2==1 then stN u c d a b fun dx dz ax az=>lT K u n ax az dx dz f else stN u a b c d fun dx dz ax az=>lT K u n dx dz ax az f
theorem Q2v (u X Z X' Z':Fe) (k:Nat→Nat→Nat→Nat→Bool):stN u.val X.val Z.val X'.val Z'.val k=k (dbX X Z).val (dbZ X Z).val (adX X Z X' Z').val (adZ u X Z X' Z').val:=by
 have hc:(121665:Fe).val=121665:=rfl
 simp only [stN,Qwo,dbX,dbZ,adX,adZ,adL,adR,Fin.val_mul,Fin.val_add,Fin.val_sub,hc]
theorem Zb8 (K:Nat) (u:Fe) (f:Nat→Nat→Bool):∀ n m,m+n=255→lT K u.val n (Qag K u m).1.1.val (Qag K u m).1.2.val (Qag K u m).2.1.val (Qag K u m).2.2.val f=f (Qag K u 255).1.1.val (Qag K u 255).1.2.val
 | 0,m,h=>by obtain rfl:m=255:=h; rfl
 | n+1,m,h=>by
  have ih:=Zb8 K u f n (m+1) (by omega)
  rw [←ih,lT,Q2v,Q2v,Qag,Qiu,show 254-m=n by omega]
  split<;>rfl
theorem T2 {k w:List Nat} {r:Nat} (h:(frc (num 256 (Dn k)) fun K=>frc (num 256 w%2^255%P) fun u=>lT K u 255 1 0 u 1 fun a b=>a==r*b%P&&b != 0)=true) (hr:r<P):Yb k w=dig 256 32 r:=by
 rw [Qwo,Qwo,show num 256 w%2^255%P=(uOf w).val from rfl] at h
 have h2:=Zb8 (num 256 (Dn k)) (uOf w) (fun a b=>a==r*b%P&&b != 0) 255 0 rfl
 have h3:=h2.symm.trans h
 rw [Yw,beq_iff_eq,bne_iff_ne] at h3
 have e1:(Qag (num 256 (Dn k)) (uOf w) 255).1.1=fp r*(Qag (num 256 (Dn k)) (uOf w) 255).1.2:=Fin.ext (by rw [h3.1,Fin.val_mul,R8,Qb3])
 have e2:(Qag (num 256 (Dn k)) (uOf w) 255).1.2≠0:=fun e=>h3.2 (by rw [e]; rfl)
 have e3:=Dz e2
 have e4:lad (num 256 (Dn k)) (uOf w)=fp r:=by
  unfold lad
  rw [e1]
  generalize (Qag (num 256 (Dn k)) (uOf w) 255).1.2=Z at *
  generalize iv Z=I at *
  clear h h2 h3 e1 e2
  grobner
 rw [Yb,e4,R8,Z5 hr]
def kE (n:Nat):List Nat:=dig 256 32 n
theorem pE_4:Yb (kE 4) Vh=kE 52573937849532372069814888178136277301931757964231753054399601207743438775599:=T2 (by decide +kernel) (by decide +kernel)
theorem pE_5:Yb (kE 5) Vh=kE 52573937849532372069814888178136277301931757964231753054399601207743438775599:=T2 (by decide +kernel) (by decide +kernel)
theorem pE_6:Yb (kE 6) Vh=kE 52573937849532372069814888178136277301931757964231753054399601207743438775599:=T2 (by decide +kernel) (by decide +kernel)
theorem aE_0:Yb (kE 2) (Yb (kE 5) Vh)=kE 47371584340190434397458396784519032097355506450803964851670834165077996928659:=by rw [pE_5]; exact T2 (by decide +kernel) (by decide +kernel)
theorem aE_1:Yb (kE 9) (Yb (kE 4) Vh)=kE 42370478205758932640776152869436718240747418584481667750212255313236040334817:=by rw [pE_4]; exact T2 (by decide +kernel) (by decide +kernel)
theorem aE_2:Yb (kE 9) (Yb (kE 5) Vh)=kE 42370478205758932640776152869436718240747418584481667750212255313236040334817:=by rw [pE_5]; exact T2 (by decide +kernel) (by decide +kernel)
theorem aE_3:Yb (kE 9) (Yb (kE 6) Vh)=kE 42370478205758932640776152869436718240747418584481667750212255313236040334817:=by rw [pE_6]; exact T2 (by decide +kernel) (by decide +kernel)
theorem togE:B3 [kE 2++Yb (kE 5) Vh,kE 9++Yb (kE 4) Vh,kE 9++Yb (kE 5) Vh,kE 9++Yb (kE 6) Vh]≠zK:=by
 have h1:∀ k w:List Nat,k.length=32→(k++w).take 32=k∧(k++w).drop 32=w:=fun k w h=>by rw [←h,Qc0,Mu]; exact ⟨rfl,rfl⟩
 have l2:(kE 2).length=32:=rfl
 have l9:(kE 9).length=32:=rfl
 have e:tgA [kE 2++Yb (kE 5) Vh,kE 9++Yb (kE 4) Vh,kE 9++Yb (kE 5) Vh,kE 9++Yb (kE 6) Vh] 4=Qb9++kE 47371584340190434397458396784519032097355506450803964851670834165077996928659++kE 42370478205758932640776152869436718240747418584481667750212255313236040334817++kE 42370478205758932640776152869436718240747418584481667750212255313236040334817++kE 42370478205758932640776152869436718240747418584481667750212255313236040334817:=by
  simp only [tgA,Qb4,Qb5,h1 _ _ l2,h1 _ _ l9,aE_0,aE_1,aE_2,aE_3]
 show Qpc [] (tgA _ 4) Q2h 1≠zK
 rw [e]
 decide +kernel
end Go.Ev.YtpgphpkjlpkcbaaGreat
namespace Go.Ev.YtpgphpkjlpkcbaaGreat
open Go Go.Ev
attribute [local congr] W5 Up W4 Uq Wo
set_option maxRecDepth 100000
theorem Q1p {base id:Nat} {body:ACode} (I:Nat→St→Prop) {Q:St→Prop} (n:Nat) {s:St} (h0:I 0 s) (hs:∀ j s,j<n→I j s→∃ s',Jl T base body s=some (.normal,s')∧I (j+1) s') (hl:∀ s,I n s→∃ s',Jl T base body s=some (.ret,s')∧Q s') :
  ∃ s',Jl T base (.block id (.loop body)) s=some (.ret,s')∧Q s':=by
 obtain ⟨s',h1,h2⟩:=Ql1 (T:=T) (x := .ret) (by simp) n hs hl n 0 (by omega) s h0
 exact ⟨s',by rw [J1,h1]; rfl,h2⟩
theorem Zcw {H G:List Ob} {pid n k c:Nat} {vo:Value} {L:List (List Nat)} {w e:Bool} {s:Nat} {P:List Nat} (hP:H[pid]?=some ⟨u8s L.flatten,true,w,e,s⟩) (hL:∀ x∈L,x.length=64∧∀ y∈x,y<256) (hn:L.length=n) (hk:L[k]?=some P) (hn9:n≤20)
  (hne:Yb (P.take 32) (P.drop 32)=zK) (hG:H.length<G.length) (hf:∀ i,i≤H.length→i<H.length→G[i]?=H[i]?) (hz:G[H.length]?=some ⟨u8s zK,true,true,true,1⟩) :
  ∃ G',Jl T H.length Qaw (tgI H.length (.slice (some ⟨pid,0,none⟩) n c) vo n k G [])=some (.ret,⟨[(2,.pointer (some ⟨H.length,0,none⟩)),(3,.int .i64 50)],G',[]⟩)∧H.length<G'.length∧(∀ i,i≤H.length→i<H.length→G'[i]?=H[i]?)∧G'[H.length]?=some ⟨u8s zK,true,true,true,1⟩:=by
 have hkn:k<n:=by rw [←hn]; exact (Q7.1 hk).1
 have hpid:=(Q7.1 hP).1
 obtain ⟨lP,xP⟩:=hL P (Zp hk)
 obtain ⟨l1,x1⟩:=Qdv lP xP
 obtain ⟨l2,x2⟩:=D7 lP xP
 obtain ⟨t1,t2⟩:=Qdu lP
 have hag:=Qtg l1 x1 l2 x2
 rw [if_pos (show Yb (P.take 32) (P.drop 32)=dig 256 32 0 from hne),show dig 256 32 0=zK from rfl] at hag
 have lR:=Bx (P.take 32) (P.drop 32)
 have hgd:L.getD k []=P:=by rw [Jz,hk]; rfl
 have hpg:∀ m:List Ob,(G++m)[pid]?=some ⟨u8s L.flatten,true,w,e,s⟩:=fun m=>by rw [Qm (by omega),hf pid (by omega) hpid]; exact hP
 have hpg0:=hpg []
 rw [Xd] at hpg0
 have hall:∀ (M:List (List Nat)),(∀ x∈M,x.length=64)→M.flatten.length=64*M.length:=by
  intro M hM
  induction M with
  | nil=>rfl
  | cons a M ih=>rw [Xs,Zh,ih (fun x hx=>hM x (Qba _ hx)),hM a (by simp),Jc]; omega
 have hfl:=hall L fun x hx=>(hL x hx).1
 have hpair:Vt 64 (W0 (k*64) (u8s L.flatten))=u8s P:=by
  have e1:L.flatten=(L.take k).flatten++(P++(L.drop (k+1)).flatten):=by
   rw [←Xs,←Y9]
   congr 1
   have h1:=Q7.1 hk
   conv=>lhs; rw [←Yn k L,Ui h1.1,h1.2]
  have e2:(L.take k).flatten.length=k*64:=by
   rw [hall (L.take k) fun x hx=>(hL x (Ki hx)).1,Js,Vz (by omega),Ve]
  rw [e1,U5,U5,←e2,←Zv,Mu,←lP,←Zv P,Qc0]
 have hle:k*64+64≤(u8s L.flatten).length:=by rw [Zv,hfl,hn]; omega
 obtain ⟨G1,hG1⟩:∃ X,X=G++[(⟨u8s P,true,true,true,1⟩:Ob),⟨u8s zK,true,true,true,1⟩]:=⟨_,rfl⟩
 have lG1:G1.length=G.length+2:=by rw [hG1]; simp
 have u1:∀ i,i<G.length→G1[i]?=G[i]? := fun i hi=>by rw [hG1,Qm hi]
 have z1:G1[H.length]?=some ⟨u8s zK,true,true,true,1⟩:=by rw [u1 _ hG]; exact hz
 have s1:=Qbm z1
 have z2:G1[G.length+1]?=some ⟨u8s zK,true,true,true,1⟩:=by rw [hG1,Za (by omega),Jh]; rfl
 have s2:=Qbm z2
 refine ⟨G1,?_,by omega,fun i _ hi=>by rw [u1 i (by omega),hf i (by omega) hi],z1⟩
 have hz64:=Dd
 have hz32:Qa 32 (Value.int .u8 0)=u8s zK:=rfl
 have lz64:(Qa 64 0).length=64:=Q4
 have lzk:=Qc4
 have e1:((k:Int)<(n:Int))=True:=eq_true (by omega)
 have w3:IntKind.i64.wrap ((k:Int)+1)=((k+1:Nat):Int):=Yx (b:=1) (by omega)
 have b32:Wz 32 32 none none none=some (0,32,32):=rfl
 have im:Jp H.length [] [H.length]=[]:=Xu (by simp)
 have sp:=Vg (cs:=u8s zK) (v:=u8s zK) rfl
 have fz:fillL (u8s zK) []=some (u8s zK):=rfl
 have im1:Jp H.length [] [G.length]=[]:=Xu (by simp; omega)
 have im2:Jp H.length [] [G.length+1]=[]:=Xu (by simp; omega)
 have F1:G++[(⟨u8s P,true,true,true,1⟩:Ob),⟨u8s zK,true,true,true,1⟩]=G1:=hG1.symm
 have rt:∀ r:List Nat,rf (Value.tuple #[.agg (u8s r).toArray,.int .i64 50])=true:=fun r=>Hw (Rr r) rfl
 clear hG1 hP hf u1 hall hgd hL hne x1 x2
 generalize P.take 32=P1,P.drop 32=P2,u8s L.flatten=LF,Qa 64 0=Z64,zK=Z at *
 generalize hk64:k*64=k64 at *
 generalize hk1:k+1=k1 at *
 simp only [tgI,Qaw,hk64,hk1,↓Zm,Zw,quiet,cF,↓pF,reduceCtorEq,Qb,Qq,Zj,Zd,Zg,Zc,Q8,Qf,Q0,Qe,Qz,Q6,Q5,↓Zo,↓Zl,↓Zq,↓Zt,↓Zr,↓Zs,cL,Qp,Qo,Qy,Qx,Qv,Ql,Qk,Qw,Qc,Q1,Q2,Qr,Qg,Qi,Qh,Qu,Qt,Qs,Qn,Qd,cJ,hz64,hz32,e1,w3,b32,hpg,hpg0,hpair,hle,t1,t2,hag,F1,z1,s1,z2,s2,sp,fz,im,im1,im2,rt,lP,l1,l2,lz64,lzk,Ji,Jf,Jt,Ku,Ju,Zv,Q4,Ko]
theorem Qpk {Q:List Nat→Prop}:∀ (L:List (List Nat)),(¬ ∀ x∈L,Q x)→∃ (k:Nat) (P:List Nat),L[k]?=some P∧¬ Q P∧∀ (j:Nat),j<k→∀ (R:List Nat),L[j]?=some R→Q R
 | [],h=>absurd (by simp) h
 | a::L,h=>by
  by_cases ha:Q a
  ·obtain ⟨k,P,h1,h2,h3⟩:=Qpk L (fun hL=>h fun x hx=>(Wh.1 hx).elim (fun e=>e▸ha) (hL x))
   refine ⟨k+1,P,h1,h2,fun j hj R hR => ?_⟩
   cases j with
   | zero=>cases hR; exact ha
   | succ j=>exact h3 j (by omega) R hR
  ·exact ⟨0,a,rfl,ha,fun j hj=>absurd hj (J7 _)⟩
theorem Qp5 {H:List Ob} {pid c:Nat} {L:List (List Nat)} {w e:Bool} {s:Nat} (hP:H[pid]?=some ⟨u8s L.flatten,true,w,e,s⟩) (hL:∀ x∈L,x.length=64∧∀ y∈x,y<256) (hn9:L.length≤20)
  (hne:¬ ∀ x∈L,Yb (x.take 32) (x.drop 32)≠zK) :
  ∃ l,Yd T 23 [.slice (some ⟨pid,0,none⟩) L.length c] H=some (.tuple #[.agg (u8s zK).toArray,.int .i64 50],H++l,[]):=by
 obtain ⟨k,P,hk,hP0,hbef⟩:=Qpk L hne
 have hP0:Yb (P.take 32) (P.drop 32)=zK:=Classical.not_not.1 hP0
 have hkL:=(Q7.1 hk).1
 obtain ⟨n,hn⟩:∃ n,L.length=n:=⟨_,rfl⟩
 have hf:=Qr2 (H:=H) (pv := .slice (some ⟨pid,0,none⟩) n c)
 obtain ⟨G0,hG0⟩:∃ X,X=H++[(⟨u8s zK,true,true,true,1⟩:Ob),⟨u8s Qb9,true,true,true,1⟩]:=⟨_,rfl⟩
 have lG0:G0.length=H.length+2:=by rw [hG0]; simp
 obtain ⟨st,hloop,G5,rfl,r1,r2,r3⟩:=Q1p (base:=H.length) (id:=2) (body:=Qaw)
  (fun k st=>∃ G vo,st=tgI H.length (.slice (some ⟨pid,0,none⟩) n c) vo n k G []∧H.length<G.length∧(∀ i,i≤H.length→i<H.length→G[i]?=H[i]?)∧G[H.length]?=some ⟨u8s zK,true,true,true,1⟩∧AllS H.length G vo (tgA L k))
  (Q:=fun st=>∃ G,st=⟨[(2,.pointer (some ⟨H.length,0,none⟩)),(3,.int .i64 50)],G,[]⟩∧H.length<G.length∧(∀ i,i≤H.length→i<H.length→G[i]?=H[i]?)∧G[H.length]?=some ⟨u8s zK,true,true,true,1⟩)
  k (s:=tgI H.length (.slice (some ⟨pid,0,none⟩) n c) (.slice (some ⟨H.length+1,0,none⟩) 32 32) n 0 G0 [])
  ⟨G0,_,rfl,by omega,fun i _ hi=>by rw [hG0,Qm hi],by rw [hG0,Za (Zn _),Jw]; rfl,
   .inl ⟨_,by omega,rfl,Q4,by rw [hG0,Za (by omega),Jh]; rfl⟩⟩
  (fun j st hj hst=>by
   obtain ⟨G,v,rfl,a1,a2,a3,a4⟩:=hst
   obtain ⟨R,hR⟩:∃ P,L[j]?=some P:=⟨_,Q3 (by omega)⟩
   obtain ⟨G',v',b0,b1,b2,b3,b4⟩:=Qxj (c:=c) hP hL hn hR (by omega) (hbef j hj R hR) a1 a2 a3 a4
   exact ⟨_,b0,G',v',rfl,b1,b2,b3,b4⟩)
  (fun st hst=>by
   obtain ⟨G,v,rfl,a1,a2,a3,a4⟩:=hst
   obtain ⟨G',b0,b1,b2,b3⟩:=Zcw (c:=c) (vo:=v) hP hL hn hk (by omega) hP0 a1 a2 a3
   exact ⟨_,b0,G',rfl,b1,b2,b3⟩)
 obtain ⟨l',hl'⟩:∃ l',G5=H++l':=B5 (by omega) fun i hi=>r2 i (by omega) hi
 refine ⟨l',?_⟩
 rw [hn]
 have hz2:=r3
 rw [hl',Za (Zn _),Jw] at hz2
 have lz:=Qc4
 have hz32:Qa 32 (Value.int .u8 0)=u8s zK:=rfl
 have F0:H++[(⟨u8s zK,true,true,true,1⟩:Ob),⟨u8s Qb9,true,true,true,1⟩]=G0:=hG0.symm
 simp only [tfI,tgI,Ze,Q9,F0,show ((0:Nat):Int)=0 from rfl] at hloop hf
 have hmk:(Qa 32 [Value.int .u8 0]).flatten=u8s (Qa 32 0):=rfl
 rw [hl'] at hloop
 clear hG0 r1 r2 r3 hP hL hne hbef hP0 hk hl'
 generalize zK=Z,Qb9=X255 at *
 rw [Zz (fn:=Q7d) rfl]
 simp only [Q7d,↓Zm,Zw,quiet,cF,↓pF,reduceCtorEq,Qb,Qq,Zj,Zd,Zg,Zc,Q8,Qf,Q0,Qe,Qz,Q6,Q5,↓Zo,↓Zl,↓Zq,↓Zt,↓Zr,↓Zs,cL,Qp,Qo,Qy,Qx,Qv,Ql,Qk,Qw,Qc,Q1,Q2,Qr,Qg,Qi,Qh,Qu,Qt,Qs,Qn,Qd,cJ,hz32,hmk,hf,hloop,hz2,lz,Ji,Jf,Jt,Ku,Ju,Zv,Q4,Ko]
theorem Ta {H:List Ob} {pid c:Nat} {L:List (List Nat)} {w e:Bool} {s:Nat} (hP:H[pid]?=some ⟨u8s L.flatten,true,w,e,s⟩) (hL:∀ x∈L,x.length=64∧∀ y∈x,y<256) (hn9:L.length≤20) :
  ∃ TL E l,TL.length=32∧Yd T 23 [.slice (some ⟨pid,0,none⟩) L.length c] H=some (.tuple #[.agg (u8s TL).toArray,.int .i64 E],H++l,[])∧(((∀ x∈L,Yb (x.take 32) (x.drop 32)≠zK)∧TL=B3 L∧E=0)∨((¬ ∀ x∈L,Yb (x.take 32) (x.drop 32)≠zK)∧TL=zK∧E=50)):=by
 by_cases h:∀ x∈L,Yb (x.take 32) (x.drop 32)≠zK
 ·obtain ⟨lT,l,ht⟩:=Qrz (c:=c) hP hL hn9 h
  exact ⟨_,_,l,lT,ht,.inl ⟨h,rfl,rfl⟩⟩
 ·obtain ⟨l,ht⟩:=Qp5 (c:=c) hP hL hn9 h
  exact ⟨_,_,l,rfl,ht,.inr ⟨h,rfl,rfl⟩⟩
theorem Tk {C:List Value} {o n:Nat} {v:Value} {r:List (Nat×Nat×Value)} (h1:v.cells.size=n) (h2:o+n≤C.length) (h3:Yj v=true):fillL C ((o,n,v)::r)=fillL (splice C o v.cells.toList) r:=by
 conv=>lhs; unfold fillL
 rw [if_pos ⟨h1,h2,h3⟩]
theorem Qhb {l:List Nat} {n:Nat} (h:l.length=n):(Value.agg (u8s l).toArray).cells.size=n:=by show (u8s l).length=n; rw [Zv,h]
theorem Qwp {w p o g:List Nat} {i j:Nat} (h:OffL w p o g):fillL Gx [(0,64,.agg (u8s w).toArray),(64,32,.agg (u8s p).toArray),(96,32,.agg (u8s o).toArray),(128,1,.int .u32 (i:Nat)),(129,1,.int .u32 (j:Nat)),(130,64,.agg (u8s g).toArray)]=some (Y7 w p o i j g):=by
 have K0:OffL (Qa 64 0) (Qa 32 0) (Qa 32 0) (Qa 64 0):=⟨by simp,by simp,by simp,by simp⟩
 have K1:OffL w (Qa 32 0) (Qa 32 0) (Qa 64 0):=⟨h.lw,K0.lp,K0.lo,K0.lg⟩
 have K2:OffL w p (Qa 32 0) (Qa 64 0):=⟨h.lw,h.lp,K0.lo,K0.lg⟩
 have K3:OffL w p o (Qa 64 0):=⟨h.lw,h.lp,h.lo,K0.lg⟩
 have ct:∀ l:List Nat,(Value.agg (u8s l).toArray).cells.toList=u8s l:=fun _=>rfl
 have ci:∀ n:Int,(Value.int .u32 n).cells.toList=[.int .u32 n]:=fun _=>rfl
 rw [Qd5,Tk (Qhb h.lw) (by rw [Ux K0]; decide) rfl,ct,Qji K0 h.lw,
  Tk (Qhb h.lp) (by rw [Ux K1]; decide) rfl,ct,Qjk K1 h.lp,
  Tk (Qhb h.lo) (by rw [Ux K2]; decide) rfl,ct,Qgv K2 h.lo,
  Tk (n:=1) rfl (by rw [Ux K3]; decide) rfl,ci,Qio K3,
  Tk (n:=1) rfl (by rw [Ux K3]; decide) rfl,ci,Qo2 K3,
  Tk (Qhb h.lg) (by rw [Ux K3]; decide) rfl,ct,Qjj K3 h.lg]
 rfl
theorem Quj {H:List Ob} {a b:Nat} {fa fb:List Nat} (ha:H[a]?=some ⟨u8s fa,true,true,true,1⟩) (hb:H[b]?=some ⟨u8s fb,true,true,true,1⟩) (la:fa.length=192) (lb:fb.length=64) :
  Wk 64 64 H (.slice (some ⟨a,0,none⟩) 3 3) (.slice (some ⟨b,0,none⟩) 1 1)=some (.slice (some ⟨H.length,0,none⟩) 4 4,H++[⟨u8s (fa++fb),true,true,false,64⟩],none,[]):=by
 have h4:liveAt H a=some ⟨u8s fa,true,true,true,1⟩:=V9 ha rfl
 have k2:elemsOf H 64 1 (.slice (some ⟨b,0,none⟩) 1 1)=some (u8s fb):=by
  simp [elemsOf,V9 hb rfl,Zv,lb]
  exact Zk (by rw [Zv,lb]; exact Zn _)
 have h8:elemsOf H 64 3 (.slice (some ⟨a,0,none⟩) 3 3)=some (u8s fa):=by
  simp [elemsOf,h4,Zv,la]
  exact Zk (by rw [Zv,la]; exact Zn _)
 have h0:Go.Ev.lenV (.slice (some ⟨b,0,none⟩) 1 1)=some 1:=rfl
 have h1:¬ (1:Nat)=0:=by decide
 have h2:(3+1)*64≤2^47∧0<64∧0<64:=by decide
 have h3:¬ (3+1≤3):=by decide
 simp only [Wk,h0,k2,h8,h4,Zb,if_neg h1,h2,h3,and_self,not_true_eq_false,if_false,if_true,Ob.grown,U5]
theorem Qmd {a b c:List Nat} (la:a.length=64) (lb:b.length=64) (lc:c.length=64):fillL (Qa 192 (Value.int .u8 0)) [(0,64,.agg (u8s a).toArray),(64,64,.agg (u8s b).toArray),(128,64,.agg (u8s c).toArray)]=some (u8s (a++(b++c))):=by
 have hz:Qa 192 (Value.int .u8 0)=u8s (Qa 64 0++(Qa 64 0++Qa 64 0)):=rfl
 have l64:(Qa 64 0).length=64:=Q4
 have sz:∀ {x y z:List Nat},x.length=64→y.length=64→z.length=64→(u8s (x++(y++z))).length=192:=fun hx hy hz=>by rw [Zv,Zh,Zh,hx,hy,hz]
 have s1:splice (u8s (Qa 64 0++(Qa 64 0++Qa 64 0))) 0 (u8s a)=u8s (a++(Qa 64 0++Qa 64 0)):=by
  rw [U5 (Qa 64 0),Qbi (by rw [Zv,Zv,la,l64]),←U5]
 have s2:splice (u8s (a++(Qa 64 0++Qa 64 0))) 64 (u8s b)=u8s (a++(b++Qa 64 0)):=by
  have:=D2 (a:=u8s a) (b:=u8s (Qa 64 0++Qa 64 0)) (v:=u8s b) (n:=64) (k:=0) (by rw [Zv,la]) (by simp [Zv,lb])
  rw [U5,this,U5,Qbi (by rw [Zv,Zv,lb,l64]),U5,U5]
 have s3:splice (u8s (a++(b++Qa 64 0))) 128 (u8s c)=u8s (a++(b++c)):=by
  have:=D2 (a:=u8s (a++b)) (b:=u8s (Qa 64 0)) (v:=u8s c) (n:=128) (k:=0) (by rw [Zv,Zh,la,lb]) (by simp [Zv,lc])
  rw [←Je,U5,this,Vg (by rw [Zv,Zv,lc,l64]),←U5,Je]
 rw [hz]
 unfold fillL
 rw [if_pos ⟨by show (u8s a).length=64; rw [Zv,la],by rw [sz l64 l64 l64]; decide,rfl⟩,show (Value.agg (u8s a).toArray).cells.toList=u8s a from rfl,s1]
 unfold fillL
 rw [if_pos ⟨by show (u8s b).length=64; rw [Zv,lb],by rw [sz la l64 l64]; decide,rfl⟩,show (Value.agg (u8s b).toArray).cells.toList=u8s b from rfl,s2]
 unfold fillL
 rw [if_pos ⟨by show (u8s c).length=64; rw [Zv,lc],by rw [sz la lb l64]; decide,rfl⟩,show (Value.agg (u8s c).toArray).cells.toList=u8s c from rfl,s3]
 rfl
theorem len3 {a b c:List Nat} (la:a.length=64) (lb:b.length=64) (lc:c.length=64):(a++(b++c)).length=192:=by rw [Zh,Zh,la,lb,lc]
theorem Qtu {a:List Nat} (la:a.length=64):fillL (Qa 64 (Value.int .u8 0)) [(0,64,.agg (u8s a).toArray)]=some (u8s a):=by
 unfold fillL
 rw [if_pos ⟨by show (u8s a).length=64; rw [Zv,la],by rw [Q4]; decide,rfl⟩,show (Value.agg (u8s a).toArray).cells.toList=u8s a from rfl,Vg (by rw [Zv,la,Q4])]
 rfl
theorem Q9y {α:Type} {Q:α→Prop} {a b c:α} (ha:Q a) (hb:Q b) (hc:Q c):∀ x∈[a,b,c],Q x:=by
 intro x hx; simp only [Wh,W8,or_false] at hx
 rcases hx with rfl | rfl | rfl<;>assumption
theorem Q9x {α:Type} {Q:α→Prop} {a b c d:α} (ha:Q a) (hb:Q b) (hc:Q c) (hd:Q d):∀ x∈[a,b,c,d],Q x:=by
 intro x hx; simp only [Wh,W8,or_false] at hx
 rcases hx with rfl | rfl | rfl | rfl<;>assumption
def prB (P F w p o:List Nat):List (List Nat):=[P.drop 32++p,F++w.drop 32,F++p]++if o=zK then [] else [F++o]
theorem Dt {a b:List Nat} (la:a.length=32) (xa:∀ y∈a,y<256) (lb:b.length=32) (xb:∀ y∈b,y<256):(a++b).length=64∧∀ y∈a++b,y<256 :=
 ⟨by rw [Zh,la,lb],fun y hy=>(J8.1 hy).elim (xa y) (xb y)⟩
theorem Qpt {P F w p o g:List Nat} {i j:Nat} (lP:P.length=64) (xP:∀ y∈P,y<256) (lF:F.length=32) (xF:∀ y∈F,y<256) (h:OffL w p o g) (xw:∀ y∈w,y<256) (xp:∀ y∈p,y<256) (xo:∀ y∈o,y<256)
  (hc:evVal T 11 [.agg (Y7 w p o i j g).toArray]=some (.int .i64 0)) :
  ∃ S E,evVal T 8 [.agg (u8s P).toArray,.agg (u8s F).toArray,.agg (Y7 w p o i j g).toArray]=some (.tuple #[.agg (u8s S).toArray,.int .i64 E])∧S.length=64∧(((∀ x∈prB P F w p o,Yb (x.take 32) (x.drop 32)≠zK)∧S=B3 (prB P F w p o)++bdL (pbL P) w∧E=0)∨((¬ ∀ x∈prB P F w p o,Yb (x.take 32) (x.drop 32)≠zK)∧S=Qa 64 0∧E=50)):=by
 obtain ⟨la,xa⟩:=D7 lP xP
 obtain ⟨t1,t2⟩:=Qdu lP
 obtain ⟨lw2,xw2⟩:=D7 h.lw xw
 have lp:=h.lp
 have lo:=h.lo
 have lw:=h.lw
 have n0:=Ux (i:=i) (j:=j) h
 have r1:=Qs3 (i:=i) (j:=j) h
 have r2:=Qce (i:=i) (j:=j) h
 have r3:=Qdl (i:=i) (j:=j) h
 have r4:=Qo3 (i:=i) (j:=j) h
 have tw:Vt 194 (Y7 w p o i j g)=Y7 w p o i j g:=Zk (by rw [n0]; decide)
 have hz:Qa 32 (Value.int .u8 0)=u8s zK:=rfl
 have hz64:=Dd
 have lz64:(Qa 64 0).length=64:=Q4
 have fz:fillL (u8s zK) []=some (u8s zK):=rfl
 have lz:=Qc4
 have hq:=Qc8 (k:=o) (l:=zK) lo rfl
 have q1:=Bs la lp
 have q2:=Bs lF lw2
 have q3:=Bs lF lp
 have q4:=Bs lF lo
 obtain ⟨m1,y1⟩:=Dt la xa lp xp
 obtain ⟨m2,y2⟩:=Dt lF xF lw2 xw2
 obtain ⟨m3,y3⟩:=Dt lF xF lp xp
 obtain ⟨m4,y4⟩:=Dt lF xF lo xo
 have q5:=Qmd m1 m2 m3
 have q6:=Qtu m4
 have hper:=Qgn lP xP
 have lpb:=Qao P
 have hbd:=Qyy lpb (Qih P) lw xw
 have lbd:=Qkk (pbL P) w
 have ok1:∀ L:List Value,(Value.agg L.toArray).cells.toList=L:=fun _=>rfl
 have ok2:∀ L:List Value,(Value.agg L.toArray).cells.size=L.length:=fun _=>rfl
 have ok3:∀ L:List Value,Yj (Value.agg L.toArray)=true:=fun _=>rfl
 have rfo:rf (.agg (Y7 w p o i j g).toArray)=true:=Qam _ _ _ _ _ _
 have im:∀ k,Jp 0 [] [k]=[]:=fun k=>Xu (by simp)
 rw [Dd] at q6
 by_cases ho:o=zK
 ·have hb:(!(o==zK))=false:=by rw [ho]; simp
  rw [hb] at hq
  have hL:prB P F w p o=[P.drop 32++p,F++w.drop 32,F++p]:=by rw [prB,if_pos ho]; rfl
  rw [hL]
  obtain ⟨G,hG⟩:∃ X,X=[(⟨u8s P,true,true,true,1⟩:Ob),⟨u8s F,true,true,true,1⟩,⟨Y7 w p o i j g,true,true,true,1⟩,⟨u8s (Qa 64 0),true,true,true,1⟩,⟨u8s (P.drop 32++p++(F++w.drop 32++(F++p))),true,true,true,1⟩]:=⟨_,rfl⟩
  have hpl:G[4]?=some ⟨u8s [P.drop 32++p,F++w.drop 32,F++p].flatten,true,true,true,1⟩:=by rw [hG]; simp
  obtain ⟨TT,E,l,lT,ht,hd⟩:=Ta (c:=3) hpl (Q9y ⟨m1,y1⟩ ⟨m2,y2⟩ ⟨m3,y3⟩) (by show 3≤20; decide)
  obtain ⟨G5,hG5⟩:∃ X,X=G++l:=⟨_,rfl⟩
  rw [←hG5,hG,show [P.drop 32++p,F++w.drop 32,F++p].length=3 from rfl] at ht
  have lG5:5≤G5.length:=by rw [hG5,hG,Zh]; simp
  have g0:∀ m,(G5++m)[0]?=some ⟨u8s P,true,true,true,1⟩:=fun m=>by rw [hG5,hG]; rfl
  have g2:∀ m,(G5++m)[2]?=some ⟨Y7 w p o i j g,true,true,true,1⟩:=fun m=>by rw [hG5,hG]; rfl
  have g3:∀ m,(G5++m)[3]?=some ⟨u8s (Qa 64 0),true,true,true,1⟩:=fun m=>by rw [hG5,hG]; rfl
  have g5:∀ m x,((G5++m).set 3 x)[3]?=some x:=fun m x=>Jj (by rw [Zh]; omega)
  rcases hd with ⟨hg,rfl,rfl⟩ | ⟨hg,rfl,rfl⟩
  ·have hfin:=Bs lT lbd
   have lfin:(B3 [P.drop 32++p,F++w.drop 32,F++p]++bdL (pbL P) w).length=64:=by rw [Zh,lT,lbd]
   have sp:=Vg (cs:=u8s (Qa 64 0)) (v:=u8s (B3 [P.drop 32++p,F++w.drop 32,F++p]++bdL (pbL P) w)) (by rw [Zv,Zv,lz64,lfin])
   have spT:=Vg (cs:=u8s zK) (v:=u8s (B3 [P.drop 32++p,F++w.drop 32,F++p])) (by rw [Zv,Zv,lz,lT])
   refine ⟨B3 [P.drop 32++p,F++w.drop 32,F++p]++bdL (pbL P) w,0,?_,lfin,.inl ⟨hg,rfl,rfl⟩⟩
   clear hg
   clear hG hG5 hpl hL ho hb h xP xF xw xp xo y1 y2 y3 y4 xa xw2
   generalize B3 [P.drop 32++p,F++w.drop 32,F++p]++bdL (pbL P) w=FIN at *
   generalize B3 [P.drop 32++p,F++w.drop 32,F++p]=TL at *
   generalize P.drop 32++p++(F++w.drop 32++(F++p))=L3,bdL (pbL P) w=BD at *
   generalize pbL P=PB,Y7 w p o i j g=O,P.drop 32++p=a1,F++w.drop 32=a2,F++p=a3 at *
   generalize P.drop 32=Pa,w.drop 32=wa,zK=Z,Qa 64 0=Z64 at *
   apply Jx
   apply Zu
   rw [Zz (fn:=Qno) rfl]
   simp only [Qno,↓Zm,Zw,quiet,cF,↓pF,reduceCtorEq,Qb,Qq,Zj,Zd,Zg,Zc,Q8,Qf,Q0,Qe,Qz,Q6,Q5,↓Zo,↓Zl,↓Zq,↓Zt,↓Zr,↓Zs,cL,Qp,Qo,Qy,Qx,Qv,Ql,Qk,Qw,Qc,Q1,Q2,Qr,Qg,Qi,Qh,Qu,Qt,Qs,Qn,Qd,cJ,hz,hz64,fz,hc,n0,r1,r2,r3,r4,tw,t1,t2,q1,q2,q3,q5,hq,ht,g0,g2,g3,g5,hper,hbd,hfin,sp,spT,im,lP,la,lF,lw,lw2,lp,lo,lz,lz64,lT,lfin,lpb,lbd,m1,m2,m3,ok1,ok2,ok3,rfo,Ji,Jf,Jt,Ku,Ju,Zv,Q4,Ko]
   rfl
  ·have lfin:(Qa 64 0).length=64:=lz64
   have sp:=Vg (cs:=u8s (Qa 64 0)) (v:=u8s (Qa 64 0)) rfl
   have spT:=Vg (cs:=u8s zK) (v:=u8s zK) rfl
   have fz64:fillL (u8s (Qa 64 0)) []=some (u8s (Qa 64 0)):=rfl
   refine ⟨Qa 64 0,50,?_,lz64,.inr ⟨hg,rfl,rfl⟩⟩
   clear hg
   clear hG hG5 hpl hL ho hb h xP xF xw xp xo y1 y2 y3 y4 xa xw2
   generalize P.drop 32++p++(F++w.drop 32++(F++p))=L3,bdL (pbL P) w=BD at *
   generalize pbL P=PB,Y7 w p o i j g=O,P.drop 32++p=a1,F++w.drop 32=a2,F++p=a3 at *
   generalize P.drop 32=Pa,w.drop 32=wa,zK=Z,Qa 64 0=Z64 at *
   apply Jx
   apply Zu
   rw [Zz (fn:=Qno) rfl]
   simp only [Qno,↓Zm,Zw,quiet,cF,↓pF,reduceCtorEq,Qb,Qq,Zj,Zd,Zg,Zc,Q8,Qf,Q0,Qe,Qz,Q6,Q5,↓Zo,↓Zl,↓Zq,↓Zt,↓Zr,↓Zs,cL,Qp,Qo,Qy,Qx,Qv,Ql,Qk,Qw,Qc,Q1,Q2,Qr,Qg,Qi,Qh,Qu,Qt,Qs,Qn,Qd,cJ,hz,hz64,fz,hc,n0,r1,r2,r3,r4,tw,t1,t2,q1,q2,q3,q5,hq,ht,g0,g2,g3,g5,fz64,sp,spT,im,lP,la,lF,lw,lw2,lp,lo,lz,lz64,lfin,lpb,lbd,m1,m2,m3,ok1,ok2,ok3,rfo,Ji,Jf,Jt,Ku,Ju,Zv,Q4,Ko]
   rfl
 ·have hb:(!(o==zK))=true:=by simpa using ho
  rw [hb] at hq
  have hL:prB P F w p o=[P.drop 32++p,F++w.drop 32,F++p,F++o]:=by rw [prB,if_neg ho]; rfl
  rw [hL]
  obtain ⟨G0,hG0⟩:∃ X,X=[(⟨u8s P,true,true,true,1⟩:Ob),⟨u8s F,true,true,true,1⟩,⟨Y7 w p o i j g,true,true,true,1⟩,⟨u8s (Qa 64 0),true,true,true,1⟩,⟨u8s (P.drop 32++p++(F++w.drop 32++(F++p))),true,true,true,1⟩,⟨u8s (F++o),true,true,true,1⟩]:=⟨_,rfl⟩
  have hap:=Quj (H:=G0) (a:=4) (b:=5) (by rw [hG0]; rfl) (by rw [hG0]; rfl) (len3 m1 m2 m3) m4
  obtain ⟨G,hG⟩:∃ X,X=G0++[(⟨u8s (P.drop 32++p++(F++w.drop 32++(F++p))++(F++o)),true,true,false,64⟩:Ob)]:=⟨_,rfl⟩
  rw [←hG,hG0] at hap
  simp only [Jc,Jg,Z3] at hap
  have hpl:G[6]?=some ⟨u8s [P.drop 32++p,F++w.drop 32,F++p,F++o].flatten,true,true,false,64⟩:=by rw [hG,hG0]; simp
  obtain ⟨TT,E,l,lT,ht,hd⟩:=Ta (c:=4) hpl (Q9x ⟨m1,y1⟩ ⟨m2,y2⟩ ⟨m3,y3⟩ ⟨m4,y4⟩) (by show 4≤20; decide)
  obtain ⟨G5,hG5⟩:∃ X,X=G++l:=⟨_,rfl⟩
  rw [←hG5,show [P.drop 32++p,F++w.drop 32,F++p,F++o].length=4 from rfl] at ht
  have lG5:5≤G5.length:=by rw [hG5,hG,hG0,Zh]; simp; omega
  have g0:∀ m,(G5++m)[0]?=some ⟨u8s P,true,true,true,1⟩:=fun m=>by rw [hG5,hG,hG0]; rfl
  have g2:∀ m,(G5++m)[2]?=some ⟨Y7 w p o i j g,true,true,true,1⟩:=fun m=>by rw [hG5,hG,hG0]; rfl
  have g3:∀ m,(G5++m)[3]?=some ⟨u8s (Qa 64 0),true,true,true,1⟩:=fun m=>by rw [hG5,hG,hG0]; rfl
  have g5:∀ m x,((G5++m).set 3 x)[3]?=some x:=fun m x=>Jj (by rw [Zh]; omega)
  rcases hd with ⟨hg,rfl,rfl⟩ | ⟨hg,rfl,rfl⟩
  ·have hfin:=Bs lT lbd
   have lfin:(B3 [P.drop 32++p,F++w.drop 32,F++p,F++o]++bdL (pbL P) w).length=64:=by rw [Zh,lT,lbd]
   have sp:=Vg (cs:=u8s (Qa 64 0)) (v:=u8s (B3 [P.drop 32++p,F++w.drop 32,F++p,F++o]++bdL (pbL P) w)) (by rw [Zv,Zv,lz64,lfin])
   have spT:=Vg (cs:=u8s zK) (v:=u8s (B3 [P.drop 32++p,F++w.drop 32,F++p,F++o])) (by rw [Zv,Zv,lz,lT])
   refine ⟨B3 [P.drop 32++p,F++w.drop 32,F++p,F++o]++bdL (pbL P) w,0,?_,lfin,.inl ⟨hg,rfl,rfl⟩⟩
   clear hg
   clear hG hG0 hG5 hpl hL ho hb h xP xF xw xp xo y1 y2 y3 y4 xa xw2
   generalize B3 [P.drop 32++p,F++w.drop 32,F++p,F++o]++bdL (pbL P) w=FIN at *
   generalize B3 [P.drop 32++p,F++w.drop 32,F++p,F++o]=TL at *
   generalize P.drop 32++p++(F++w.drop 32++(F++p))=L3,bdL (pbL P) w=BD at *
   generalize pbL P=PB,Y7 w p o i j g=O,P.drop 32++p=a1,F++w.drop 32=a2,F++p=a3,F++o=a4 at *
   generalize P.drop 32=Pa,w.drop 32=wa,zK=Z,Qa 64 0=Z64 at *
   apply Jx
   apply Zu
   rw [Zz (fn:=Qno) rfl]
   simp only [Qno,↓Zm,Zw,quiet,cF,↓pF,reduceCtorEq,Qb,Qq,Zj,Zd,Zg,Zc,Q8,Qf,Q0,Qe,Qz,Q6,Q5,↓Zo,↓Zl,↓Zq,↓Zt,↓Zr,↓Zs,cL,Qp,Qo,Qy,Qx,Qv,Ql,Qk,Qw,Qc,Q1,Q2,Qr,Qg,Qi,Qh,Qu,Qt,Qs,Qn,Qd,cJ,hz,hz64,fz,hc,n0,r1,r2,r3,r4,tw,t1,t2,q1,q2,q3,q4,q5,q6,hq,hap,ht,g0,g2,g3,g5,hper,hbd,hfin,sp,spT,im,lP,la,lF,lw,lw2,lp,lo,lz,lz64,lT,lfin,lpb,lbd,m1,m2,m3,m4,ok1,ok2,ok3,rfo,Ji,Jf,Jt,Ku,Ju,Zv,Q4,Ko]
   rfl
  ·have lfin:(Qa 64 0).length=64:=lz64
   have sp:=Vg (cs:=u8s (Qa 64 0)) (v:=u8s (Qa 64 0)) rfl
   have spT:=Vg (cs:=u8s zK) (v:=u8s zK) rfl
   have fz64:fillL (u8s (Qa 64 0)) []=some (u8s (Qa 64 0)):=rfl
   refine ⟨Qa 64 0,50,?_,lz64,.inr ⟨hg,rfl,rfl⟩⟩
   clear hg
   clear hG hG0 hG5 hpl hL ho hb h xP xF xw xp xo y1 y2 y3 y4 xa xw2
   generalize P.drop 32++p++(F++w.drop 32++(F++p))=L3,bdL (pbL P) w=BD at *
   generalize pbL P=PB,Y7 w p o i j g=O,P.drop 32++p=a1,F++w.drop 32=a2,F++p=a3,F++o=a4 at *
   generalize P.drop 32=Pa,w.drop 32=wa,zK=Z,Qa 64 0=Z64 at *
   apply Jx
   apply Zu
   rw [Zz (fn:=Qno) rfl]
   simp only [Qno,↓Zm,Zw,quiet,cF,↓pF,reduceCtorEq,Qb,Qq,Zj,Zd,Zg,Zc,Q8,Qf,Q0,Qe,Qz,Q6,Q5,↓Zo,↓Zl,↓Zq,↓Zt,↓Zr,↓Zs,cL,Qp,Qo,Qy,Qx,Qv,Ql,Qk,Qw,Qc,Q1,Q2,Qr,Qg,Qi,Qh,Qu,Qt,Qs,Qn,Qd,cJ,hz,hz64,fz,hc,n0,r1,r2,r3,r4,tw,t1,t2,q1,q2,q3,q4,q5,q6,hq,hap,ht,g0,g2,g3,g5,fz64,sp,spT,im,lP,la,lF,lw,lw2,lp,lo,lz,lz64,lfin,lpb,lbd,m1,m2,m3,m4,ok1,ok2,ok3,rfo,Ji,Jf,Jt,Ku,Ju,Zv,Q4,Ko]
   rfl
theorem Zbn {P F w p o g:List Nat} {i j:Nat} (lP:P.length=64) (xP:∀ y∈P,y<256) (lF:F.length=32) (xF:∀ y∈F,y<256) (h:OffL w p o g) (xw:∀ y∈w,y<256) (xp:∀ y∈p,y<256) (xo:∀ y∈o,y<256)
  (hc:evVal T 11 [.agg (Y7 w p o i j g).toArray]=some (.int .i64 0)) (hne:∀ x∈prB P F w p o,Yb (x.take 32) (x.drop 32)≠zK) :
  evVal T 8 [.agg (u8s P).toArray,.agg (u8s F).toArray,.agg (Y7 w p o i j g).toArray]=some (.tuple #[.agg (u8s (B3 (prB P F w p o)++bdL (pbL P) w)).toArray,.int .i64 0]):=by
 obtain ⟨S,E,h1,-,⟨-,rfl,rfl⟩ | ⟨h2,-⟩⟩:=Qpt lP xP lF xF h xw xp xo hc
 ·exact h1
 ·exact absurd hne h2
theorem Q1r {P F w p o g:List Nat} {i j:Nat} {c:Int} (lP:P.length=64) (lF:F.length=32) (h:OffL w p o g) (hc:evVal T 11 [.agg (Y7 w p o i j g).toArray]=some (.int .i64 c)) (h0:c≠0) :
  evVal T 8 [.agg (u8s P).toArray,.agg (u8s F).toArray,.agg (Y7 w p o i j g).toArray]=some (.tuple #[.agg (u8s (Qa 64 0)).toArray,.int .i64 c]):=by
 have n0:=Ux (i:=i) (j:=j) h
 have tw:Vt 194 (Y7 w p o i j g)=Y7 w p o i j g:=Zk (by rw [n0]; decide)
 have hz64:=Dd
 have lz64:(Qa 64 0).length=64:=Q4
 have fz64:fillL (u8s (Qa 64 0)) []=some (u8s (Qa 64 0)):=rfl
 have sp:=Vg (cs:=u8s (Qa 64 0)) (v:=u8s (Qa 64 0)) rfl
 have ok1:∀ L:List Value,(Value.agg L.toArray).cells.toList=L:=fun _=>rfl
 have ok2:∀ L:List Value,(Value.agg L.toArray).cells.size=L.length:=fun _=>rfl
 have ok3:∀ L:List Value,Yj (Value.agg L.toArray)=true:=fun _=>rfl
 have rfo:rf (.agg (Y7 w p o i j g).toArray)=true:=Qam _ _ _ _ _ _
 have im:∀ k,Jp 0 [] [k]=[]:=fun k=>Xu (by simp)
 have hb:(c != 0)=true:=by simpa using h0
 generalize Y7 w p o i j g=O,Qa 64 0=Z64 at *
 apply Jx
 apply Zu
 rw [Zz (fn:=Qno) rfl]
 simp only [Qno,↓Zm,Zw,quiet,cF,↓pF,reduceCtorEq,Qb,Qq,Zj,Zd,Zg,Zc,Q8,Qf,Q0,Qe,Qz,Q6,Q5,↓Zo,↓Zl,↓Zq,↓Zt,↓Zr,↓Zs,cL,Qp,Qo,Qy,Qx,Qv,Ql,Qk,Qw,Qc,Q1,Q2,Qr,Qg,Qi,Qh,Qu,Qt,Qs,Qn,Qd,cJ,hz64,fz64,sp,hc,hb,n0,tw,im,lP,lF,lz64,ok1,ok2,ok3,rfo,Ji,Jf,Jt,Ku,Ju,Zv,Q4,Ko]
 rfl
def prA (P pre o W f:List Nat):List (List Nat):=[pre++W.drop 32,P.drop 32++f,pre++f]++if o=zK then [] else [o++f]
theorem Qxc {P pre o W f:List Nat} (lP:P.length=64) (xP:∀ y∈P,y<256) (lr:pre.length=32) (xr:∀ y∈pre,y<256) (lo:o.length=32) (xo:∀ y∈o,y<256) (lw:W.length=64) (xw:∀ y∈W,y<256) (lf:f.length=32) (xf:∀ y∈f,y<256) :
  ∃ S E,evVal T 13 [.agg (u8s P).toArray,.agg (u8s pre).toArray,.agg (u8s o).toArray,.agg (u8s W).toArray,.agg (u8s f).toArray]=some (.tuple #[.agg (u8s S).toArray,.int .i64 E])∧S.length=64∧(((∀ x∈prA P pre o W f,Yb (x.take 32) (x.drop 32)≠zK)∧S=B3 (prA P pre o W f)++bdL W (pbL P)∧E=0)∨((¬ ∀ x∈prA P pre o W f,Yb (x.take 32) (x.drop 32)≠zK)∧S=Qa 64 0∧E=50)):=by
 obtain ⟨la,xa⟩:=D7 lP xP
 obtain ⟨t1,t2⟩:=Qdu lP
 obtain ⟨t3,t4⟩:=Qdu lw
 obtain ⟨lw2,xw2⟩:=D7 lw xw
 have hz:Qa 32 (Value.int .u8 0)=u8s zK:=rfl
 have hz64:=Dd
 have lz64:(Qa 64 0).length=64:=Q4
 have fz:fillL (u8s zK) []=some (u8s zK):=rfl
 have lz:=Qc4
 have hq:=Qc8 (k:=o) (l:=zK) lo rfl
 have q1:=Bs lr lw2
 have q2:=Bs la lf
 have q3:=Bs lr lf
 have q4:=Bs lo lf
 obtain ⟨m1,y1⟩:=Dt lr xr lw2 xw2
 obtain ⟨m2,y2⟩:=Dt la xa lf xf
 obtain ⟨m3,y3⟩:=Dt lr xr lf xf
 obtain ⟨m4,y4⟩:=Dt lo xo lf xf
 have q5:=Qmd m1 m2 m3
 have q6:=Qtu m4
 have hper:=Qgn lP xP
 have lpb:=Qao P
 have hbd:=Qyy lw xw lpb (Qih P)
 have lbd:=Qkk W (pbL P)
 have im:∀ k,Jp 0 [] [k]=[]:=fun k=>Xu (by simp)
 rw [Dd] at q6
 by_cases ho:o=zK
 ·have hb:(!(o==zK))=false:=by rw [ho]; simp
  rw [hb] at hq
  have hL:prA P pre o W f=[pre++W.drop 32,P.drop 32++f,pre++f]:=by rw [prA,if_pos ho]; rfl
  rw [hL]
  obtain ⟨G,hG⟩:∃ X,X=[(⟨u8s P,true,true,true,1⟩:Ob),⟨u8s pre,true,true,true,1⟩,⟨u8s o,true,true,true,1⟩,⟨u8s W,true,true,true,1⟩,⟨u8s f,true,true,true,1⟩,⟨u8s (Qa 64 0),true,true,true,1⟩,⟨u8s (pre++W.drop 32++(P.drop 32++f++(pre++f))),true,true,true,1⟩]:=⟨_,rfl⟩
  have hpl:G[6]?=some ⟨u8s [pre++W.drop 32,P.drop 32++f,pre++f].flatten,true,true,true,1⟩:=by rw [hG]; simp
  obtain ⟨TT,E,l,lT,ht,hd⟩:=Ta (c:=3) hpl (Q9y ⟨m1,y1⟩ ⟨m2,y2⟩ ⟨m3,y3⟩) (by show 3≤20; decide)
  obtain ⟨G5,hG5⟩:∃ X,X=G++l:=⟨_,rfl⟩
  rw [←hG5,hG,show [pre++W.drop 32,P.drop 32++f,pre++f].length=3 from rfl] at ht
  have lG5:6≤G5.length:=by rw [hG5,hG,Zh]; simp; omega
  have g0:∀ m,(G5++m)[0]?=some ⟨u8s P,true,true,true,1⟩:=fun m=>by rw [hG5,hG]; rfl
  have g2:∀ m,(G5++m)[3]?=some ⟨u8s W,true,true,true,1⟩:=fun m=>by rw [hG5,hG]; rfl
  have g3:∀ m,(G5++m)[5]?=some ⟨u8s (Qa 64 0),true,true,true,1⟩:=fun m=>by rw [hG5,hG]; rfl
  have g5:∀ m x,((G5++m).set 5 x)[5]?=some x:=fun m x=>Jj (by rw [Zh]; omega)
  rcases hd with ⟨hg,rfl,rfl⟩ | ⟨hg,rfl,rfl⟩
  ·have hfin:=Bs lT lbd
   have lfin:(B3 [pre++W.drop 32,P.drop 32++f,pre++f]++bdL W (pbL P)).length=64:=by rw [Zh,lT,lbd]
   have sp:=Vg (cs:=u8s (Qa 64 0)) (v:=u8s (B3 [pre++W.drop 32,P.drop 32++f,pre++f]++bdL W (pbL P))) (by rw [Zv,Zv,lz64,lfin])
   have spT:=Vg (cs:=u8s zK) (v:=u8s (B3 [pre++W.drop 32,P.drop 32++f,pre++f])) (by rw [Zv,Zv,lz,lT])
   refine ⟨B3 [pre++W.drop 32,P.drop 32++f,pre++f]++bdL W (pbL P),0,?_,lfin,.inl ⟨hg,rfl,rfl⟩⟩
   clear hg
   clear hG hG5 hpl hL ho hb xP xw xr xo xf y1 y2 y3 y4 xa xw2
   generalize B3 [pre++W.drop 32,P.drop 32++f,pre++f]++bdL W (pbL P)=FIN at *
   generalize B3 [pre++W.drop 32,P.drop 32++f,pre++f]=TL at *
   generalize pre++W.drop 32++(P.drop 32++f++(pre++f))=L3,bdL W (pbL P)=BD at *
   generalize pbL P=PB,pre++W.drop 32=a1,P.drop 32++f=a2,pre++f=a3 at *
   generalize P.drop 32=Pa,W.drop 32=wa,zK=Z,Qa 64 0=Z64 at *
   apply Jx
   apply Zu
   rw [Zz (fn:=Qri) rfl]
   simp only [Qri,↓Zm,Zw,quiet,cF,↓pF,reduceCtorEq,Qb,Qq,Zj,Zd,Zg,Zc,Q8,Qf,Q0,Qe,Qz,Q6,Q5,↓Zo,↓Zl,↓Zq,↓Zt,↓Zr,↓Zs,cL,Qp,Qo,Qy,Qx,Qv,Ql,Qk,Qw,Qc,Q1,Q2,Qr,Qg,Qi,Qh,Qu,Qt,Qs,Qn,Qd,cJ,hz,hz64,fz,t2,t4,q1,q2,q3,q4,q5,q6,hq,ht,g0,g2,g3,g5,hper,hbd,hfin,sp,spT,im,lP,la,lr,lw,lw2,lf,lo,lz,lz64,lT,lfin,lpb,lbd,m1,m2,m3,m4,Ji,Jf,Jt,Ku,Ju,Zv,Q4,Ko]
   rfl
  ·have lfin:(Qa 64 0).length=64:=lz64
   have sp:=Vg (cs:=u8s (Qa 64 0)) (v:=u8s (Qa 64 0)) rfl
   have spT:=Vg (cs:=u8s zK) (v:=u8s zK) rfl
   have fz64:fillL (u8s (Qa 64 0)) []=some (u8s (Qa 64 0)):=rfl
   refine ⟨Qa 64 0,50,?_,lz64,.inr ⟨hg,rfl,rfl⟩⟩
   clear hg
   clear hG hG5 hpl hL ho hb xP xw xr xo xf y1 y2 y3 y4 xa xw2
   generalize pre++W.drop 32++(P.drop 32++f++(pre++f))=L3,bdL W (pbL P)=BD at *
   generalize pbL P=PB,pre++W.drop 32=a1,P.drop 32++f=a2,pre++f=a3 at *
   generalize P.drop 32=Pa,W.drop 32=wa,zK=Z,Qa 64 0=Z64 at *
   apply Jx
   apply Zu
   rw [Zz (fn:=Qri) rfl]
   simp only [Qri,↓Zm,Zw,quiet,cF,↓pF,reduceCtorEq,Qb,Qq,Zj,Zd,Zg,Zc,Q8,Qf,Q0,Qe,Qz,Q6,Q5,↓Zo,↓Zl,↓Zq,↓Zt,↓Zr,↓Zs,cL,Qp,Qo,Qy,Qx,Qv,Ql,Qk,Qw,Qc,Q1,Q2,Qr,Qg,Qi,Qh,Qu,Qt,Qs,Qn,Qd,cJ,hz,hz64,fz,t2,t4,q1,q2,q3,q4,q5,q6,hq,ht,g0,g2,g3,g5,fz64,sp,spT,im,lP,la,lr,lw,lw2,lf,lo,lz,lz64,lfin,lpb,lbd,m1,m2,m3,m4,Ji,Jf,Jt,Ku,Ju,Zv,Q4,Ko]
   rfl
 ·have hb:(!(o==zK))=true:=by simpa using ho
  rw [hb] at hq
  have hL:prA P pre o W f=[pre++W.drop 32,P.drop 32++f,pre++f,o++f]:=by rw [prA,if_neg ho]; rfl
  rw [hL]
  obtain ⟨G0,hG0⟩:∃ X,X=[(⟨u8s P,true,true,true,1⟩:Ob),⟨u8s pre,true,true,true,1⟩,⟨u8s o,true,true,true,1⟩,⟨u8s W,true,true,true,1⟩,⟨u8s f,true,true,true,1⟩,⟨u8s (Qa 64 0),true,true,true,1⟩,⟨u8s (pre++W.drop 32++(P.drop 32++f++(pre++f))),true,true,true,1⟩,⟨u8s (o++f),true,true,true,1⟩]:=⟨_,rfl⟩
  have hap:=Quj (H:=G0) (a:=6) (b:=7) (by rw [hG0]; rfl) (by rw [hG0]; rfl) (len3 m1 m2 m3) m4
  obtain ⟨G,hG⟩:∃ X,X=G0++[(⟨u8s (pre++W.drop 32++(P.drop 32++f++(pre++f))++(o++f)),true,true,false,64⟩:Ob)]:=⟨_,rfl⟩
  rw [←hG,hG0] at hap
  simp only [Jc,Jg,Z3] at hap
  have hpl:G[8]?=some ⟨u8s [pre++W.drop 32,P.drop 32++f,pre++f,o++f].flatten,true,true,false,64⟩:=by rw [hG,hG0]; simp
  obtain ⟨TT,E,l,lT,ht,hd⟩:=Ta (c:=4) hpl (Q9x ⟨m1,y1⟩ ⟨m2,y2⟩ ⟨m3,y3⟩ ⟨m4,y4⟩) (by show 4≤20; decide)
  obtain ⟨G5,hG5⟩:∃ X,X=G++l:=⟨_,rfl⟩
  rw [←hG5,show [pre++W.drop 32,P.drop 32++f,pre++f,o++f].length=4 from rfl] at ht
  have lG5:6≤G5.length:=by rw [hG5,hG,hG0,Zh]; simp; omega
  have g0:∀ m,(G5++m)[0]?=some ⟨u8s P,true,true,true,1⟩:=fun m=>by rw [hG5,hG,hG0]; rfl
  have g2:∀ m,(G5++m)[3]?=some ⟨u8s W,true,true,true,1⟩:=fun m=>by rw [hG5,hG,hG0]; rfl
  have g3:∀ m,(G5++m)[5]?=some ⟨u8s (Qa 64 0),true,true,true,1⟩:=fun m=>by rw [hG5,hG,hG0]; rfl
  have g5:∀ m x,((G5++m).set 5 x)[5]?=some x:=fun m x=>Jj (by rw [Zh]; omega)
  rcases hd with ⟨hg,rfl,rfl⟩ | ⟨hg,rfl,rfl⟩
  ·have hfin:=Bs lT lbd
   have lfin:(B3 [pre++W.drop 32,P.drop 32++f,pre++f,o++f]++bdL W (pbL P)).length=64:=by rw [Zh,lT,lbd]
   have sp:=Vg (cs:=u8s (Qa 64 0)) (v:=u8s (B3 [pre++W.drop 32,P.drop 32++f,pre++f,o++f]++bdL W (pbL P))) (by rw [Zv,Zv,lz64,lfin])
   have spT:=Vg (cs:=u8s zK) (v:=u8s (B3 [pre++W.drop 32,P.drop 32++f,pre++f,o++f])) (by rw [Zv,Zv,lz,lT])
   refine ⟨B3 [pre++W.drop 32,P.drop 32++f,pre++f,o++f]++bdL W (pbL P),0,?_,lfin,.inl ⟨hg,rfl,rfl⟩⟩
   clear hg
   clear hG hG0 hG5 hpl hL ho hb xP xw xr xo xf y1 y2 y3 y4 xa xw2
   generalize B3 [pre++W.drop 32,P.drop 32++f,pre++f,o++f]++bdL W (pbL P)=FIN at *
   generalize B3 [pre++W.drop 32,P.drop 32++f,pre++f,o++f]=TL at *
   generalize pre++W.drop 32++(P.drop 32++f++(pre++f))=L3,bdL W (pbL P)=BD at *
   generalize pbL P=PB,pre++W.drop 32=a1,P.drop 32++f=a2,pre++f=a3,o++f=a4 at *
   generalize P.drop 32=Pa,W.drop 32=wa,zK=Z,Qa 64 0=Z64 at *
   apply Jx
   apply Zu
   rw [Zz (fn:=Qri) rfl]
   simp only [Qri,↓Zm,Zw,quiet,cF,↓pF,reduceCtorEq,Qb,Qq,Zj,Zd,Zg,Zc,Q8,Qf,Q0,Qe,Qz,Q6,Q5,↓Zo,↓Zl,↓Zq,↓Zt,↓Zr,↓Zs,cL,Qp,Qo,Qy,Qx,Qv,Ql,Qk,Qw,Qc,Q1,Q2,Qr,Qg,Qi,Qh,Qu,Qt,Qs,Qn,Qd,cJ,hz,hz64,fz,t2,t4,q1,q2,q3,q4,q5,q6,hq,hap,ht,g0,g2,g3,g5,hper,hbd,hfin,sp,spT,im,lP,la,lr,lw,lw2,lf,lo,lz,lz64,lT,lfin,lpb,lbd,m1,m2,m3,m4,Ji,Jf,Jt,Ku,Ju,Zv,Q4,Ko]
   rfl
  ·have lfin:(Qa 64 0).length=64:=lz64
   have sp:=Vg (cs:=u8s (Qa 64 0)) (v:=u8s (Qa 64 0)) rfl
   have spT:=Vg (cs:=u8s zK) (v:=u8s zK) rfl
   have fz64:fillL (u8s (Qa 64 0)) []=some (u8s (Qa 64 0)):=rfl
   refine ⟨Qa 64 0,50,?_,lz64,.inr ⟨hg,rfl,rfl⟩⟩
   clear hg
   clear hG hG0 hG5 hpl hL ho hb xP xw xr xo xf y1 y2 y3 y4 xa xw2
   generalize pre++W.drop 32++(P.drop 32++f++(pre++f))=L3,bdL W (pbL P)=BD at *
   generalize pbL P=PB,pre++W.drop 32=a1,P.drop 32++f=a2,pre++f=a3,o++f=a4 at *
   generalize P.drop 32=Pa,W.drop 32=wa,zK=Z,Qa 64 0=Z64 at *
   apply Jx
   apply Zu
   rw [Zz (fn:=Qri) rfl]
   simp only [Qri,↓Zm,Zw,quiet,cF,↓pF,reduceCtorEq,Qb,Qq,Zj,Zd,Zg,Zc,Q8,Qf,Q0,Qe,Qz,Q6,Q5,↓Zo,↓Zl,↓Zq,↓Zt,↓Zr,↓Zs,cL,Qp,Qo,Qy,Qx,Qv,Ql,Qk,Qw,Qc,Q1,Q2,Qr,Qg,Qi,Qh,Qu,Qt,Qs,Qn,Qd,cJ,hz,hz64,fz,t2,t4,q1,q2,q3,q4,q5,q6,hq,hap,ht,g0,g2,g3,g5,fz64,sp,spT,im,lP,la,lr,lw,lw2,lf,lo,lz,lz64,lfin,lpb,lbd,m1,m2,m3,m4,Ji,Jf,Jt,Ku,Ju,Zv,Q4,Ko]
   rfl
theorem Q7a {P pre o W f:List Nat} (lP:P.length=64) (xP:∀ y∈P,y<256) (lr:pre.length=32) (xr:∀ y∈pre,y<256) (lo:o.length=32) (xo:∀ y∈o,y<256) (lw:W.length=64) (xw:∀ y∈W,y<256) (lf:f.length=32) (xf:∀ y∈f,y<256)
  (hne:∀ x∈prA P pre o W f,Yb (x.take 32) (x.drop 32)≠zK) :
  evVal T 13 [.agg (u8s P).toArray,.agg (u8s pre).toArray,.agg (u8s o).toArray,.agg (u8s W).toArray,.agg (u8s f).toArray]=some (.tuple #[.agg (u8s (B3 (prA P pre o W f)++bdL W (pbL P))).toArray,.int .i64 0]):=by
 obtain ⟨S,E,h1,-,⟨-,rfl,rfl⟩ | ⟨h2,-⟩⟩:=Qxc lP xP lr xr lo xo lw xw lf xf
 ·exact h1
 ·exact absurd hne h2
end Go.Ev.YtpgphpkjlpkcbaaGreat
namespace Go.Ev.YtpgphpkjlpkcbaaGreat
open Go Go.Ev
set_option maxRecDepth 100000
theorem Qzh (s m:List Nat):(Qdd s m).take 32=frL s m:=by rw [Qdd,Yr (by rw [Qeq]; decide),Zk (by rw [Qeq]; decide)]
theorem Qzi (s m:List Nat):(Qdd s m).drop 32=bkL s m:=by rw [Qdd,Y3 (by rw [Qeq]; decide),Vv (by rw [Qeq]; decide),Q9]
theorem Qow (B pre once:List Nat) (pid oid:Nat):evVal T 11 [.agg (Dm B pre once pid oid).toArray]=some (.int .i64 0):=by
 obtain ⟨c,hc,hs⟩:=Qs7 (j:=B9 once oid) (i:=pid) (Qcd B pre once pid) (Qih B) (Tb _ _) (Qxr _ _)
 rw [Q39,Tv,Qcw,Qzh,Qzi] at hs
 have e:=Q75 hs
 subst e
 exact hc
theorem Qdk {k:List Nat} (lk:k.length=32) (xk:∀ y∈k,y<256):Bm k=zK↔k=zK:=by
 unfold Bm
 by_cases h:k=zK
 ·rw [if_pos h]; exact ⟨fun _=>h,fun _=>rfl⟩
 ·rw [if_neg h]; exact ⟨fun e=>absurd e (Qqz lk xk),fun e=>absurd e h⟩
theorem Md {a:List Nat} (la:a.length=32) (b:List Nat):(a++b).take 32=a∧(a++b).drop 32=b:=by rw [←la,Qc0,Mu]; exact ⟨rfl,rfl⟩
def seL (A B F pre once:List Nat):List Nat:=B3 (prB A F (pbL B) (Yb pre Vh) (Bm once))++bdL (pbL A) (pbL B)
theorem Qgc (L:List (List Nat)):(B3 L).length=32:=by rw [B3,Qpc,Qcv,Qcv,Q9,Qky (by decide)]
theorem Q77 (A B F pre once:List Nat):(seL A B F pre once).length=64:=by rw [seL,Zh,Qkk,Qgc]
structure K5 (A B F pre once:List Nat):Prop where
 lA:A.length=64
 xA:∀ y∈A,y<256
 lB:B.length=64
 xB:∀ y∈B,y<256
 lF:F.length=32
 xF:∀ y∈F,y<256
 lp:pre.length=32
 xp:∀ y∈pre,y<256
 lo:once.length=32
 xo:∀ y∈once,y<256
theorem Qjf {a k:List Nat} (la:a.length=32) (xa:∀ y∈a,y<256) (lk:k.length=32) (xk:∀ y∈k,y<256):Yb ((a++Yb k Vh).take 32) ((a++Yb k Vh).drop 32)≠zK:=by
 rw [(Md la _).1,(Md la _).2]; exact Qth la xa lk xk
theorem Qz1 {A B F pre once:List Nat} (h:K5 A B F pre once) (pid oid:Nat):evVal T 8 [.agg (u8s A).toArray,.agg (u8s F).toArray,.agg (Dm B pre once pid oid).toArray]=some (.tuple #[.agg (u8s (seL A B F pre once)).toArray,.int .i64 0]):=by
 obtain ⟨la,xa⟩:=D7 h.lA h.xA
 obtain ⟨lb,xb⟩:=D7 h.lB h.xB
 refine Zbn h.lA h.xA h.lF h.xF (Qcd B pre once pid) (Qih B) (Tb _ _) (Qsw _) (Qow B pre once pid oid) ?_
 rw [prB,Tv]
 have n1:=Qjf la xa h.lp h.xp
 have n2:=Qjf h.lF h.xF lb xb
 have n3:=Qjf h.lF h.xF h.lp h.xp
 by_cases e:once=zK
 ·rw [if_pos ((Qdk h.lo h.xo).2 e)]
  exact Q9y n1 n2 n3
 ·rw [if_neg (fun e'=>e ((Qdk h.lo h.xo).1 e'))]
  have n4:=Qjf h.lF h.xF h.lo h.xo
  rw [show Bm once=Yb once Vh from if_neg e]
  exact Q9x n1 n2 n3 n4
theorem Q85 {A B F pre once:List Nat} (h:K5 A B F pre once):B3 (prA B pre once (pbL A) (Yb F Vh))=B3 (prB A F (pbL B) (Yb pre Vh) (Bm once)):=by
 obtain ⟨la,xa⟩:=D7 h.lA h.xA
 obtain ⟨lb,xb⟩:=D7 h.lB h.xB
 have s1:=fun w=>Md la w
 have s2:=fun w=>Md lb w
 have s3:=fun w=>Md h.lF w
 have s4:=fun w=>Md h.lp w
 have s5:=fun w=>Md h.lo w
 have e1:=Qeo la xa h.lp h.xp
 have e2:=Qeo h.lF h.xF lb xb
 have e3:=Qeo h.lF h.xF h.lp h.xp
 have e4:=Qeo h.lF h.xF h.lo h.xo
 rw [prA,prB,Tv,Tv]
 by_cases e:once=zK
 ·rw [if_pos ((Qdk h.lo h.xo).2 e),if_pos e]
  simp only [Xd,B3,Jc,Jg,Z3,tgA,Qb4,Qb5,s1,s2,s3,s4,e1,e2,e3]
 ·rw [if_neg (fun e'=>e ((Qdk h.lo h.xo).1 e')),if_neg e,show Bm once=Yb once Vh from if_neg e]
  simp only [Ze,Q9,B3,Jc,Jg,Z3,tgA,Qb4,Qb5,s1,s2,s3,s4,s5,e1,e2,e3,e4]
theorem Qv2 {A B F pre once:List Nat} (h:K5 A B F pre once):evVal T 13 [.agg (u8s B).toArray,.agg (u8s pre).toArray,.agg (u8s once).toArray,.agg (u8s (pbL A)).toArray,.agg (u8s (Yb F Vh)).toArray]=some (.tuple #[.agg (u8s (seL A B F pre once)).toArray,.int .i64 0]):=by
 obtain ⟨la,xa⟩:=D7 h.lA h.xA
 obtain ⟨lb,xb⟩:=D7 h.lB h.xB
 have:=Q7a h.lB h.xB h.lp h.xp h.lo h.xo (Qao A) (Qih A) (Bx F Vh) (Tb F Vh) ?_
 ·rwa [Q85 h] at this
 rw [prA,Tv]
 have n1:=Qjf h.lp h.xp la xa
 have n2:=Qjf lb xb h.lF h.xF
 have n3:=Qjf h.lp h.xp h.lF h.xF
 by_cases e:once=zK
 ·rw [if_pos e]
  exact Q9y n1 n2 n3
 ·rw [if_neg e]
  exact Q9x n1 n2 n3 (Qjf h.lo h.xo h.lF h.xF)
end Go.Ev.YtpgphpkjlpkcbaaGreat
namespace Go.Ev.YtpgphpkjlpkcbaaGreat
open Go Go.Ev
attribute [local congr] W5 Up W4 Uq Wo
set_option maxRecDepth 100000
theorem Qdq (n:Nat):∀ y∈kE n,y<256:=Rb
theorem Bl (n:Nat):(kE n).length=32:=Km _ _ _
theorem kE5:K5 (kE 1++kE 2) (kE 3++kE 4) (kE 9) (kE 5) (kE 6) :=
 have h1:=Dt (Bl 1) (Qdq 1) (Bl 2) (Qdq 2)
 have h2:=Dt (Bl 3) (Qdq 3) (Bl 4) (Qdq 4)
 ⟨h1.1,h1.2,h2.1,h2.2,Bl 9,Qdq 9,Bl 5,Qdq 5,Bl 6,Qdq 6⟩
theorem Q5j:¬ kE 6=zK:=by decide
theorem seE:B3 (prB (kE 1++kE 2) (kE 9) (pbL (kE 3++kE 4)) (Yb (kE 5) Vh) (Bm (kE 6)))≠zK:=by
 have e:=Qdk (Bl 6) (Qdq 6)
 have s1:=(Md (Bl 1) (kE 2)).2
 have s2:=(Md (Bl 3) (kE 4)).2
 rw [prB,Tv,s1,s2,if_neg (fun h=>Q5j (e.1 h)),show Bm (kE 6)=Yb (kE 6) Vh from if_neg Q5j]
 exact togE
theorem Q9z:evVal T 7 []=some (.bool true):=by
 have K:=kE5
 have hz:Qa 32 (Value.int .u8 0)=u8s zK:=rfl
 have hz64:=Dd
 have lz64:(Qa 64 0).length=64:=Q4
 have fz:fillL (u8s zK) []=some (u8s zK):=rfl
 have lz:=Qc4
 have f1:fillL (u8s zK) [(0,1,.int .u8 1)]=some (u8s (kE 1)):=rfl
 have f2:fillL (u8s zK) [(0,1,.int .u8 2)]=some (u8s (kE 2)):=rfl
 have f3:fillL (u8s zK) [(0,1,.int .u8 3)]=some (u8s (kE 3)):=rfl
 have f4:fillL (u8s zK) [(0,1,.int .u8 4)]=some (u8s (kE 4)):=rfl
 have f5:fillL (u8s zK) [(0,1,.int .u8 5)]=some (u8s (kE 5)):=rfl
 have f6:fillL (u8s zK) [(0,1,.int .u8 6)]=some (u8s (kE 6)):=rfl
 have f9:fillL (u8s zK) [(0,1,.int .u8 9)]=some (u8s (kE 9)):=rfl
 have q1:=Bs (Bl 1) (Bl 2)
 have q2:=Bs (Bl 3) (Bl 4)
 have l1:=Bl 1
 have l2:=Bl 2
 have l3:=Bl 3
 have l4:=Bl 4
 have l5:=Bl 5
 have l6:=Bl 6
 have l9:=Bl 9
 have lA:=K.lA
 have lB:=K.lB
 have hoff:evVal T 15 [.agg (u8s (kE 3++kE 4)).toArray,.agg (u8s (kE 5)).toArray,.agg (u8s (kE 6)).toArray,.int .u32 7,.int .u32 8]=_:=Qya (pid:=7) (oid:=8) K.lB K.xB K.lp K.xp K.lo K.xo
 have hbeg:=Qz1 K 7 8
 have hacc:=Qv2 K
 have hper:=Qgn K.lA K.xA
 have hpub:=Qen K.lF K.xF
 have hchk:=Qow (kE 3++kE 4) (kE 5) (kE 6) 7 8
 have lO:(Dm (kE 3++kE 4) (kE 5) (kE 6) 7 8).length=194:=Ux (Qcd _ _ _ _)
 have nz:Gx.length=194:=rfl
 have tw:Vt 194 (Dm (kE 3++kE 4) (kE 5) (kE 6) 7 8)=Dm (kE 3++kE 4) (kE 5) (kE 6) 7 8:=Zk (by rw [lO]; decide)
 have sO:splice Gx 0 (Dm (kE 3++kE 4) (kE 5) (kE 6) 7 8)=Dm (kE 3++kE 4) (kE 5) (kE 6) 7 8:=Vg (by rw [lO,nz])
 have rfo:rf (.agg (Dm (kE 3++kE 4) (kE 5) (kE 6) 7 8).toArray)=true:=Qam _ _ _ _ _ _
 have o7:(Dm (kE 3++kE 4) (kE 5) (kE 6) 7 8)[128]?=some (.int .u32 7):=(Tz (Qcd _ _ _ _)).1
 have o8:(Dm (kE 3++kE 4) (kE 5) (kE 6) 7 8)[129]?=some (.int .u32 8):=by
  have:=(Tz (i:=7) (j:=B9 (kE 6) 8) (Qcd (kE 3++kE 4) (kE 5) (kE 6) 7)).2
  rwa [show B9 (kE 6) 8=8 from if_neg Q5j] at this
 have lS:=Q77 (kE 1++kE 2) (kE 3++kE 4) (kE 9) (kE 5) (kE 6)
 have tS:Vt 32 (u8s (seL (kE 1++kE 2) (kE 3++kE 4) (kE 9) (kE 5) (kE 6)))=u8s (B3 (prB (kE 1++kE 2) (kE 9) (pbL (kE 3++kE 4)) (Yb (kE 5) Vh) (Bm (kE 6)))):=by
  rw [Hz,seL,(Md (Qgc _) _).1]
 have hq:=Qc8 (k:=B3 (prB (kE 1++kE 2) (kE 9) (pbL (kE 3++kE 4)) (Yb (kE 5) Vh) (Bm (kE 6)))) (l:=zK) (Qgc _) rfl
 rw [show (!(B3 (prB (kE 1++kE 2) (kE 9) (pbL (kE 3++kE 4)) (Yb (kE 5) Vh) (Bm (kE 6)))==zK))=true by simpa using seE] at hq
 have hS:=Qy5 lS lS
 rw [beq_self_eq_true] at hS
 have lT:=Qgc (prB (kE 1++kE 2) (kE 9) (pbL (kE 3++kE 4)) (Yb (kE 5) Vh) (Bm (kE 6)))
 have spS:=Vg (cs:=u8s (Qa 64 0)) (v:=u8s (seL (kE 1++kE 2) (kE 3++kE 4) (kE 9) (kE 5) (kE 6))) (by rw [Zv,Zv,lz64,lS])
 have spA:=Vg (cs:=u8s (Qa 64 0)) (v:=u8s (kE 1++kE 2)) (by rw [Zv,Zv,lz64,lA])
 have spB:=Vg (cs:=u8s (Qa 64 0)) (v:=u8s (kE 3++kE 4)) (by rw [Zv,Zv,lz64,lB])
 have ok1:∀ L:List Value,(Value.agg L.toArray).cells.toList=L:=fun _=>rfl
 have ok2:∀ L:List Value,(Value.agg L.toArray).cells.size=L.length:=fun _=>rfl
 have ok3:∀ L:List Value,Yj (Value.agg L.toArray)=true:=fun _=>rfl
 have rt:∀ r:List Nat,rf (Value.tuple #[.agg (u8s r).toArray,.int .i64 0])=true:=fun r=>Hw (Rr r) rfl
 have im:∀ k,Jp 0 [] [k]=[]:=fun k=>Xu (by simp)
 have lPb:=Qao (kE 1++kE 2)
 have lLb:=Bx (kE 9) Vh
 clear K
 generalize seL (kE 1++kE 2) (kE 3++kE 4) (kE 9) (kE 5) (kE 6)=S,B3 (prB (kE 1++kE 2) (kE 9) (pbL (kE 3++kE 4)) (Yb (kE 5) Vh) (Bm (kE 6)))=TL,Dm (kE 3++kE 4) (kE 5) (kE 6) 7 8=O,pbL (kE 1++kE 2)=PB,Yb (kE 9) Vh=L9 at *
 generalize kE 1++kE 2=A,kE 3++kE 4=B at *
 generalize kE 1=x1,kE 2=x2,kE 3=x3,kE 4=x4,kE 5=x5,kE 6=x6,kE 9=x9,zK=Z at *
 generalize Qa 64 0=Z64 at *
 apply Jx
 apply Zu
 rw [Zz (fn:=Zfg) rfl]
 simp only [Zfg,↓Zm,Zw,quiet,cF,↓pF,reduceCtorEq,Qb,Qq,Zj,Zd,Zg,Zc,Q8,Qf,Q0,Qe,Qz,Q6,Q5,↓Zo,↓Zl,↓Zq,↓Zt,↓Zr,↓Zs,cL,Qp,Qo,Qy,Qx,Qv,Ql,Qk,Qw,Qc,Q1,Q2,Qr,Qg,Qi,Qh,Qu,Qt,Qs,Qn,Qd,cJ,hz,hz64,fz,f1,f2,f3,f4,f5,f6,f9,q1,q2,hoff,hbeg,hacc,hper,hpub,hchk,lO,nz,tw,sO,rfo,o7,o8,tS,hq,hS,spS,spA,spB,ok1,ok2,ok3,rt,im,l1,l2,l3,l4,l5,l6,l9,lA,lB,lz,lz64,lS,lT,lPb,lLb,Ji,Jf,Jt,Ku,Ju,Zv,Q4,Ko]
 rfl
theorem Q5g {K:List Nat} {n:Nat} (off:Nat) (lK:K.length=n) (xK:∀ y∈K,y<256) (h:off+32≤n):((K.drop off).take 32).length=32∧(∀ y∈(K.drop off).take 32,y<256)∧Vt 32 (W0 off (u8s K))=u8s ((K.drop off).take 32) :=
 ⟨by rw [Js,X5,lK]; omega,fun y hy=>xK y (Y2 (Ki hy)),by rw [Qbg,Hz]⟩
def tcI (Hm:List Ob) (m:Value) (F B:List Nat) (i:Nat) (ex:Env):St:=⟨[(2,m),(3,.pointer (some ⟨0,0,none⟩)),(4,.pointer (some ⟨1,0,none⟩)),(7,.pointer (some ⟨2,0,none⟩)),(9,.pointer (some ⟨3,0,none⟩)),(10,.pointer (some ⟨4,0,none⟩)),(11,.int .i64 i)]++ex,Hm++[⟨u8s F,true,true,true,1⟩,⟨u8s B,true,true,true,1⟩],[]⟩
theorem Q2s {o0 o2:Ob} {m:Value} {F B:List Nat} (lF:F.length=32) (lB:B.length=32) :
  Jl T 0 (.block 0 (.loop Qhp)) (tcI [o0,⟨u8s (F++B),true,true,true,1⟩,o2] m (dig 256 32 0) (dig 256 32 0) 0 [])=some (.normal,tcI [o0,⟨u8s (F++B),true,true,true,1⟩,o2] m F B 32 [(26,.bool false)]):=by
 have h:=Wf (T:=T) (base:=0) (id:=0) (body:=Qhp) (fun i=>tcI [o0,⟨u8s (F++B),true,true,true,1⟩,o2] m (pf 32 F i) (pf 32 B i) i []) (s':=tcI [o0,⟨u8s (F++B),true,true,true,1⟩,o2] m F B 32 [(26,.bool false)]) 32
  (fun i hi=>by
   have hi:i<32:=hi
   obtain ⟨w,hw⟩:∃ w,F[i]?=some w:=⟨_,Q3 (by omega)⟩
   obtain ⟨z,hz⟩:∃ z,B[i]?=some z:=⟨_,Q3 (by omega)⟩
   have s1:=Gu lF hi hw
   have s2:=Gu lB hi hz
   have hset:=Ba (pf 32 F i) i w
   have hset2:=Ba (pf 32 B i) i z
   rw [s1] at hset
   rw [s2] at hset2
   have l1:i+1≤(u8s (pf 32 F i)).length:=by rw [Zv,Df lF (by omega)]; omega
   have l2:i+1≤(u8s (pf 32 B i)).length:=by rw [Zv,Df lB (by omega)]; omega
   have e1:((i:Int)<32)=True:=eq_true (by omega)
   have e2:((i:Int)<64)=True:=eq_true (by omega)
   have e3:(((i+32:Nat):Int)<64)=True:=eq_true (by omega)
   have w3:IntKind.i64.wrap ((i:Int)+1)=((i+1:Nat):Int):=Yx (b:=1) (by omega)
   have w4:IntKind.i64.wrap ((i:Int)+32)=((i+32:Nat):Int):=Yx (b:=32) (by omega)
   have gw:(u8s (F++B))[i]?=some (.int .u8 (w:Nat)):=Wy (by rw [Qm (by omega),hw])
   have gz:(u8s (F++B))[i+32]?=some (.int .u8 (z:Nat)):=Wy (by rw [Za (by omega),lF,Nat.add_sub_cancel,hz])
   generalize pf 32 F i=O1,pf 32 F (i+1)=O2,pf 32 B i=O3,pf 32 B (i+1)=O4 at *
   generalize hi1:i+1=i1 at *
   generalize hi2:i+32=i2 at *
   generalize F++B=SG at *
   have im:∀ k,Jp 0 [] [k]=[]:=fun k=>Xu (by simp)
   simp only [tcI,Qhp,↓Zm,Zw,quiet,cF,↓pF,reduceCtorEq,Qb,Qq,Zj,Zd,Zg,Zc,Q8,Qf,Q0,Qe,Qz,Q6,Q5,↓Zo,↓Zl,↓Zq,↓Zt,↓Zr,↓Zs,cL,Qp,Qo,Qy,Qx,Qv,Ql,Qk,Qw,Qc,Q1,Q2,Qr,Qg,Qi,Qh,Qu,Qt,Qs,Qn,Qd,cJ,e1,e2,e3,w3,w4,gw,gz,hset,hset2,l1,l2,hi1,hi2,im])
  (by
   rw [Dk lF,Dk lB]
   simp only [tcI,Qhp,↓Zm,Zw,quiet,cF,↓pF,reduceCtorEq,Qb,Qq,Zj,Zd,Zg,Zc,Q8,Qf,Q0,Qe,Qz,Q6,Q5,↓Zo,↓Zl,↓Zq,↓Zt,↓Zr,↓Zs,cL,Qp,Qo,Qy,Qx,Qv,Ql,Qk,Qw,Qc,Q1,Q2,Qr,Qg,Qi,Qh,Qu,Qt,Qs,Qn,Qd,cJ])
 rw [Dj,Dj] at h
 exact h
theorem Q1d:enc Bt=dig 256 32 1:=by decide +kernel
theorem Q68 {S K R:Go.Cv.Pt Go.Fp.P Go.Fp.d}:W6 S K.neg=R↔S=W6 R K:=by
 have hz:∀ p:Go.Cv.Pt Go.Fp.P Go.Fp.d,W6 p Bt=p:=fun p=>Go.Cv.add_zero Go.Fp.fld p
 have hn:W6 K.neg K=Bt:=by rw [Qbs]; exact Qgo K
 constructor
 ·intro h
  rw [←h,Tw,hn,hz]
 ·intro h
  rw [h,Tw,Qgo,hz]
theorem Q0p:fillL (u8s (dig 256 32 0)) [(0,1,.int .u8 8)]=some (u8s (dig 256 32 8)):=by rfl
theorem Q99:fillL (u8s (dig 256 32 0)) [(0,1,.int .u8 1)]=some (u8s (dig 256 32 1)):=by rfl
theorem Q3s {pub front back m:List Nat} {c:Int} (lp:pub.length=32) (xp:∀ y∈pub,y<256) (lf:front.length=32) (xf:∀ y∈front,y<256) (lb:back.length=32) (xb:∀ y∈back,y<256) (xm:∀ y∈m,y<256) (hm:m.length<2^45) (hc:Qhv pub front back m c) :
  evVal T 29 [.agg (u8s pub).toArray,.agg (u8s (front++back)).toArray,Ua m]=some (.int .i64 c):=by
 have hz:Qa 32 (Value.int .u8 0)=u8s (dig 256 32 0):=rfl
 have lz:(dig 256 32 0).length=32:=rfl
 have fz:=Qkn
 have hz48:=Qh0
 have lz48:=Qd6
 have rft:∀ (r:List Nat) (c:Int),rf (Value.tuple #[eV r,.int .i64 c])=true:=fun r c=>Hw (a:=eV r) (b := .int .i64 c) (Ko r) rfl
 have lS:(front++back).length=64:=by rw [Zh,lf,lb]
 have r0:rf (Ua m)=true:=rfl
 rcases Qie lp xp with ⟨A,a,hA,rA,eA⟩ | ⟨A,hA,lA,hno⟩
 ·unfold Qa8 at hA
  have p1:=rA.len
  have hl:=Q2s (o0:=⟨u8s pub,true,true,true,1⟩) (o2:=⟨ns .u64 A,true,true,true,1⟩) (m:=Ua m) lf lb
  simp only [tcI,Ze,Q9,J6] at hl
  obtain ⟨a',ea',hc⟩:∃ A,enc A=pub∧(((Ys 8 A=Bt∨¬ num 256 back<ell)∧c=70)∨(Ys 8 A≠Bt∧num 256 back<ell ∧
   (((∀ R,enc R≠front)∧c=70)∨∃ R,enc R=front∧c=if W6 (Ys (num 256 back) Un) (Ys (num 256 (chL front pub m)) A.neg)=R then 0 else 70))):=by
   rcases hc with h | h
   ·exact absurd eA (h.1 a)
   ·exact h
  have haa:a'=a:=Qq6 (ea'.trans eA.symm)
  subst haa
  obtain ⟨P8,h8,r8⟩:=Qdg rA (k:=dig 256 32 8) (Km _ _ _) Rb
  rw [show num 256 (dig 256 32 8)=8 by decide +kernel] at r8
  have hE8:=Qic r8
  have k8:=Q0p
  have k1:=Q99
  have l8:(dig 256 32 8).length=32:=rfl
  have l1:(dig 256 32 1).length=32:=rfl
  have lE8:=Rl (Ys 8 a')
  have q8:Wt (Qa 32 true) (u8s (enc (Ys 8 a'))) (u8s (dig 256 32 1))=some (decide (Ys 8 a'=Bt)):=by
   rw [He lE8 l1,←Q1d,Qg0]
  obtain ⟨qc,hcn⟩:=Qjw lb xb
  have hcv:=T6 hcn
  clear hcn
  by_cases htiny:Ys 8 a'=Bt
  ·have hc70:c=70:=by
    rcases hc with h | h
    ·exact h.2
    ·exact absurd htiny h.1
   subst hc70
   rw [decide_eq_true htiny] at q8
   generalize enc (Ys 8 a')=E8,front++back=SG,Ua m=M,dig 256 32 8=K8,dig 256 32 1=K1,dig 256 32 0=Z,Hs=Z48 at *
   apply Jx
   apply Zu
   rw [Zz (fn:=Qi9) rfl]
   simp only [Qi9,↓Zm,Zw,quiet,cF,↓pF,reduceCtorEq,Qb,Qq,Zj,Zd,Zg,Zc,Q8,Qf,Q0,Qe,Qz,Q6,Q5,↓Zo,↓Zl,↓Zq,↓Zt,↓Zr,↓Zs,cL,Qp,Qo,Qy,Qx,Qv,Ql,Qk,Qw,Qc,Q1,Q2,Qr,Qg,Qi,Qh,Qu,Qt,Qs,Qn,Qd,cJ,hz,fz,hz48,hA,hl,h8,hE8,k8,k1,q8,hcv,Jf,Jt,Ku,Ju,J0,Zv,lp,lf,lb,lS,lz,lz48,l8,l1,lE8,p1,Ji,Q4,rft,Ko,r0]
   rfl
  ·rw [decide_eq_false htiny] at q8
   by_cases hcan:num 256 back<ell
   ·rw [decide_eq_true hcan] at hcv
    have hc:(((∀ R,enc R≠front)∧c=70)∨∃ R,enc R=front∧c=if W6 (Ys (num 256 back) Un) (Ys (num 256 (chL front pub m)) a'.neg)=R then 0 else 70):=by
     rcases hc with h | h
     ·rcases h.1 with h | h
      ·exact absurd h htiny
      ·exact absurd hcan h
     ·exact h.2.2
    rcases Qie lf xf with ⟨R,r,hR,rR,eR⟩ | ⟨R,hR,lR,hnR⟩
    ·unfold Qa8 at hR
     have p2:=rR.len
     have hcr:c=if W6 (Ys (num 256 back) Un) (Ys (num 256 (chL front pub m)) a'.neg)=r then 0 else 70:=by
      rcases hc with h | ⟨r',er',h⟩
      ·exact absurd eR (h.1 r)
      ·rw [←Qq6 (er'.trans eR.symm)]; exact h
     rw [Qsk] at hcr
     simp only [Q68] at hcr
     have t2:=Qqc lf xf
     have t3:=Qqc lp xp
     have a2:Wu .add (Ua front) (Ua pub)=some (Ua (front++pub)):=Tq (by rw [lf,lp]; decide)
     have a3:Wu .add (Ua (front++pub)) (Ua m)=some (Ua (front++pub++m)):=Tq (by rw [Zh,lf,lp]; omega)
     have n2:evVal T 58 [Ua (front++pub++m)]=some (.agg (u8s (chL front pub m)).toArray):=by
      rw [chL,←Je]
      exact Qzp (fun y hy=>(J8.1 hy).elim (fun h=>(J8.1 h).elim (xf y) (xp y)) (xm y)) (by rw [Zh,Zh,lf,lp]; omega)
     have l4:(chL front pub m).length=32:=Qdi
     obtain ⟨B,hB,rB⟩:=Q8q
     obtain ⟨X,hX,rX⟩:=Qdg rB lb xb
     have hEX:=Qic rX
     obtain ⟨Y,hY,rY⟩:=Qdg rA l4 Qgj
     obtain ⟨D,hD,nD,fD⟩:=Zc4
     obtain ⟨W,hW,rW⟩:=Qqj rR rY nD fD
     have hEW:=Qic rW
     have lEX:=Rl (Ys (num 256 back) Un)
     have lEW:=Rl (W6 r (Ys (num 256 (chL front pub m)) a'))
     have qf:Wt (Qa 32 true) (u8s (enc (Ys (num 256 back) Un))) (u8s (enc (W6 r (Ys (num 256 (chL front pub m)) a'))))=some (decide (Ys (num 256 back) Un=W6 r (Ys (num 256 (chL front pub m)) a'))):=by
      rw [He lEX lEW,Qg0]
     have r1:rf (Ua (front++pub++m))=true:=rfl
     have r2:rf (Ua front)=true:=rfl
     have r3:rf (Ua pub)=true:=rfl
     have p3:=rX.len
     have p4:=rY.len
     have p5:=rW.len
     have p6:=rB.len
     by_cases hfin:Ys (num 256 back) Un=W6 r (Ys (num 256 (chL front pub m)) a')
     ·rw [if_pos hfin] at hcr
      subst hcr
      rw [decide_eq_true hfin] at qf
      clear hc hfin rX rY rW rB rR rA r8
      generalize enc (Ys (num 256 back) Un)=EX,enc (W6 r (Ys (num 256 (chL front pub m)) a'))=EW at *
      generalize chL front pub m=CH,enc (Ys 8 a')=E8,Ua (front++pub++m)=V1,Ua (front++pub)=V2,Ua front=V3,Ua pub=V4,front++back=SG,Ua m=M at *
      generalize dig 256 32 8=K8,dig 256 32 1=K1,dig 256 32 0=Z,Hs=Z48 at *
      apply Jx
      apply Zu
      rw [Zz (fn:=Qi9) rfl]
      simp only [Qi9,↓Zm,Zw,quiet,cF,↓pF,reduceCtorEq,Qb,Qq,Zj,Zd,Zg,Zc,Q8,Qf,Q0,Qe,Qz,Q6,Q5,↓Zo,↓Zl,↓Zq,↓Zt,↓Zr,↓Zs,cL,Qp,Qo,Qy,Qx,Qv,Ql,Qk,Qw,Qc,Q1,Q2,Qr,Qg,Qi,Qh,Qu,Qt,Qs,Qn,Qd,cJ,hz,fz,hz48,hA,hl,h8,hE8,k8,k1,q8,hcv,hR,t2,t3,a2,a3,n2,hB,hX,hEX,hY,hD,hW,hEW,qf,Jf,Jt,Ku,Ju,J0,Zv,lp,lf,lb,lS,lz,lz48,l8,l1,l4,lEX,lEW,lE8,p1,p2,p3,p4,p5,p6,Ji,Q4,rft,Ko,r0,r1,r2,r3]
      rfl
     ·rw [if_neg hfin] at hcr
      subst hcr
      rw [decide_eq_false hfin] at qf
      clear hc hfin rX rY rW rB rR rA r8
      generalize enc (Ys (num 256 back) Un)=EX,enc (W6 r (Ys (num 256 (chL front pub m)) a'))=EW at *
      generalize chL front pub m=CH,enc (Ys 8 a')=E8,Ua (front++pub++m)=V1,Ua (front++pub)=V2,Ua front=V3,Ua pub=V4,front++back=SG,Ua m=M at *
      generalize dig 256 32 8=K8,dig 256 32 1=K1,dig 256 32 0=Z,Hs=Z48 at *
      apply Jx
      apply Zu
      rw [Zz (fn:=Qi9) rfl]
      simp only [Qi9,↓Zm,Zw,quiet,cF,↓pF,reduceCtorEq,Qb,Qq,Zj,Zd,Zg,Zc,Q8,Qf,Q0,Qe,Qz,Q6,Q5,↓Zo,↓Zl,↓Zq,↓Zt,↓Zr,↓Zs,cL,Qp,Qo,Qy,Qx,Qv,Ql,Qk,Qw,Qc,Q1,Q2,Qr,Qg,Qi,Qh,Qu,Qt,Qs,Qn,Qd,cJ,hz,fz,hz48,hA,hl,h8,hE8,k8,k1,q8,hcv,hR,t2,t3,a2,a3,n2,hB,hX,hEX,hY,hD,hW,hEW,qf,Jf,Jt,Ku,Ju,J0,Zv,lp,lf,lb,lS,lz,lz48,l8,l1,l4,lEX,lEW,lE8,p1,p2,p3,p4,p5,p6,Ji,Q4,rft,Ko,r0,r1,r2,r3]
      rfl
    ·unfold Qa8 at hR
     have hc70:c=70:=by
      rcases hc with h | ⟨r',er',h⟩
      ·exact h.2
      ·exact absurd er' (hnR r')
     subst hc70
     clear hc
     generalize enc (Ys 8 a')=E8,front++back=SG,Ua m=M,dig 256 32 8=K8,dig 256 32 1=K1,dig 256 32 0=Z,Hs=Z48 at *
     apply Jx
     apply Zu
     rw [Zz (fn:=Qi9) rfl]
     simp only [Qi9,↓Zm,Zw,quiet,cF,↓pF,reduceCtorEq,Qb,Qq,Zj,Zd,Zg,Zc,Q8,Qf,Q0,Qe,Qz,Q6,Q5,↓Zo,↓Zl,↓Zq,↓Zt,↓Zr,↓Zs,cL,Qp,Qo,Qy,Qx,Qv,Ql,Qk,Qw,Qc,Q1,Q2,Qr,Qg,Qi,Qh,Qu,Qt,Qs,Qn,Qd,cJ,hz,fz,hz48,hA,hl,h8,hE8,k8,k1,q8,hcv,hR,Jf,Jt,Ku,Ju,J0,Zv,lp,lf,lb,lS,lz,lz48,l8,l1,lE8,lR,p1,Ji,Q4,rft,Ko,r0]
     rfl
   ·rw [decide_eq_false hcan] at hcv
    have hc70:c=70:=by
     rcases hc with h | h
     ·exact h.2
     ·exact absurd h.2.1 hcan
    subst hc70
    clear hc
    generalize enc (Ys 8 a')=E8,front++back=SG,Ua m=M,dig 256 32 8=K8,dig 256 32 1=K1,dig 256 32 0=Z,Hs=Z48 at *
    apply Jx
    apply Zu
    rw [Zz (fn:=Qi9) rfl]
    simp only [Qi9,↓Zm,Zw,quiet,cF,↓pF,reduceCtorEq,Qb,Qq,Zj,Zd,Zg,Zc,Q8,Qf,Q0,Qe,Qz,Q6,Q5,↓Zo,↓Zl,↓Zq,↓Zt,↓Zr,↓Zs,cL,Qp,Qo,Qy,Qx,Qv,Ql,Qk,Qw,Qc,Q1,Q2,Qr,Qg,Qi,Qh,Qu,Qt,Qs,Qn,Qd,cJ,hz,fz,hz48,hA,hl,h8,hE8,k8,k1,q8,hcv,Jf,Jt,Ku,Ju,J0,Zv,lp,lf,lb,lS,lz,lz48,l8,l1,lE8,p1,Ji,Q4,rft,Ko,r0]
    rfl
 ·unfold Qa8 at hA
  have hc60:c=60:=by
   rcases hc with h | ⟨a,ea,h⟩
   ·exact h.2
   ·exact absurd ea (hno a)
  subst hc60
  clear hc
  generalize front++back=SG,Ua m=M,Hs=Z48 at *
  apply Jx
  apply Zu
  rw [Zz (fn:=Qi9) rfl]
  simp only [Qi9,↓Zm,Zw,quiet,cF,↓pF,reduceCtorEq,Qb,Qq,Zj,Zd,Zg,Zc,Q8,Qf,Q0,Qe,Qz,Q6,Q5,↓Zo,↓Zl,↓Zq,↓Zt,↓Zr,↓Zs,cL,Qp,Qo,Qy,Qx,Qv,Ql,Qk,Qw,Qc,Q1,Q2,Qr,Qg,Qi,Qh,Qu,Qt,Qs,Qn,Qd,cJ,hz,fz,hz48,hA,Jf,Jt,Ku,Ju,J0,Zv,lp,lf,lb,lS,lz,lz48,lA,Ji,Q4,rft,Ko,r0]
  rfl
theorem Qwu {f g:Nat} {fn:AFun} {a:List Value} {r:Option Value} (hf:T.fn f=some fn) (hg:T.fn g=some fn) (h:evVal T g a=r):evVal T f a=r:=by
 rw [←h,evVal,evVal,Zz hf,Zz hg]
theorem Qyv {S:List Nat} (lS:S.length=32) (xS:∀ y∈S,y<256):evVal T 42 [.agg (u8s S).toArray]=some (Ua S) :=
 Qwu (g:=59) (fn:=Zbv) rfl rfl (Qqc lS xS)
theorem Q1h {i:Nat} (hi:i<2^32):evVal T 63 [.int .u32 i]=some (Ua (id4 i)):=by
 have q1:(i:Int).tdiv 16777216=((i/2^24:Nat):Int):=rfl
 have q2:(i:Int).tdiv 65536=((i/2^16:Nat):Int):=rfl
 have q3:(i:Int).tdiv 256=((i/2^8:Nat):Int):=rfl
 have k1:IntKind.u32.wrap ((i/2^24:Nat):Int)=((i/2^24:Nat):Int):=by rw [Qly,Z5 (by omega)]
 have k2:IntKind.u32.wrap ((i/2^16:Nat):Int)=((i/2^16:Nat):Int):=by rw [Qly,Z5 (by omega)]
 have k3:IntKind.u32.wrap ((i/2^8:Nat):Int)=((i/2^8:Nat):Int):=by rw [Qly,Z5 (by omega)]
 have r2:((i/2^16:Nat):Int).tmod 256=((i/2^16%256:Nat):Int):=rfl
 have r3:((i/2^8:Nat):Int).tmod 256=((i/2^8%256:Nat):Int):=rfl
 have r4:(i:Int).tmod 256=((i%256:Nat):Int):=rfl
 have w1:=Qcf (i/2^24)
 have w2:IntKind.u8.wrap ((i/2^16%256:Nat):Int)=((i/2^16%256:Nat):Int):=by rw [Qcf,Ha]
 have w3:IntKind.u8.wrap ((i/2^8%256:Nat):Int)=((i/2^8%256:Nat):Int):=by rw [Qcf,Ha]
 have w4:IntKind.u8.wrap ((i%256:Nat):Int)=((i%256:Nat):Int):=by rw [Qcf,Ha]
 have f2:∀ x0 x1 x2 x3:Nat,fillL [Value.int .u8 0,.int .u8 0,.int .u8 0,.int .u8 0] [(0,1,.int .u8 (x0:Int)),(1,1,.int .u8 (x1:Int)),(2,1,.int .u8 (x2:Int)),(3,1,.int .u8 (x3:Int))]=some (u8s [x0,x1,x2,x3]):=fun _ _ _ _=>rfl
 have he:elemsOf [(⟨u8s (id4 i),true,true,true,1⟩:Ob)] 1 4 (.slice (some ⟨0,0,none⟩) 4 4)=some (u8s (id4 i)):=Qt0 (b:=id4 i) rfl
 have hby:=Qg7 (id4 i)
 have hst:Ua (id4 i)=.string ⟨((id4 i).map UInt8.ofNat).toArray⟩:=rfl
 have hrf:rf (Ua (id4 i))=true:=rfl
 rw [←hst] at *
 rw [hst] at *
 unfold id4 at *
 generalize i/2^24%256=x0,i/2^16%256=x1,i/2^8%256=x2,i%256=x3 at *
 generalize i/2^24=y0,i/2^16=y1,i/2^8=y2 at *
 apply Jx
 apply Zu
 rw [Zz (fn:=Zer) rfl]
 simp only [Zer,↓Zm,Zw,quiet,cF,↓pF,reduceCtorEq,Qb,Qq,Zj,Zd,Zg,Zc,Q8,Qf,Q0,Qe,Qz,Q6,Q5,↓Zo,↓Zl,↓Zq,↓Zt,↓Zr,↓Zs,cL,Qp,Qo,Qy,Qx,Qv,Ql,Qk,Qw,Qc,Q1,Q2,Qr,Qg,Qi,Qh,Qu,Qt,Qs,Qn,Qd,cJ,q1,q2,q3,k1,k2,k3,r2,r3,r4,w1,w2,w3,w4,f2,he,hby,hrf]
 rfl
theorem Q1f {w p o g:List Nat} {i j:Nat} (h:OffL w p o g) (xw:∀ y∈w,y<256) (xp:∀ y∈p,y<256) (hi:i<2^32):evVal T 30 [.agg (Y7 w p o i j g).toArray]=some (Ua (Qbu (w.drop 32) p i)):=by
 obtain ⟨l2,x2⟩:=D7 h.lw xw
 have lp:=h.lp
 have n0:=Ux (i:=i) (j:=j) h
 have r2:=Qce (i:=i) (j:=j) h
 have r3:=Qdl (i:=i) (j:=j) h
 have r4:=(Tz (i:=i) (j:=j) h).1
 have t1:=Qyv l2 x2
 have t2:=Qyv lp xp
 have t3:=Q1h hi
 have st:Value.string (ByteArray.mk #[115,105,103,110,101,116,32,111,102,102,101,114])=Ua R3:=rfl
 have lt:R3.length=12:=rfl
 have l4:(id4 i).length=4:=rfl
 have a1:Wu .add (Ua R3) (Ua (w.drop 32))=some (Ua (R3++w.drop 32)):=Tq (by rw [lt,l2]; decide)
 have a2:Wu .add (Ua (R3++w.drop 32)) (Ua p)=some (Ua (R3++w.drop 32++p)):=Tq (by rw [Zh,lt,l2,lp]; decide)
 have a3:Wu .add (Ua (R3++w.drop 32++p)) (Ua (id4 i))=some (Ua (R3++w.drop 32++p++id4 i)):=Tq (by rw [Zh,Zh,lt,l2,lp,l4]; decide)
 have e:Qbu (w.drop 32) p i=R3++w.drop 32++p++id4 i:=by simp [Qbu]
 rw [e]
 have ok1:∀ L:List Value,(Value.agg L.toArray).cells.toList=L:=fun _=>rfl
 have ok3:∀ L:List Value,Yj (Value.agg L.toArray)=true:=fun _=>rfl
 have q0:rf (Ua (R3++w.drop 32++p++id4 i))=true:=rfl
 have q1:∀ S,rf (Ua S)=true:=fun _=>rfl
 have f0:∀ S,rf (.agg (u8s S).toArray)=true:=fun S=>Rr S
 generalize Ua (R3++w.drop 32++p++id4 i)=V4,Ua (R3++w.drop 32++p)=V3,Ua (R3++w.drop 32)=V2,Ua R3=V1,Y7 w p o i j g=O at *
 generalize w.drop 32=W2 at *
 apply Jx
 apply Zu
 rw [Zz (fn:=Zes) rfl]
 simp only [Zes,↓Zm,Zw,quiet,cF,↓pF,reduceCtorEq,Qb,Qq,Zj,Zd,Zg,Zc,Q8,Qf,Q0,Qe,Qz,Q6,Q5,↓Zo,↓Zl,↓Zq,↓Zt,↓Zr,↓Zs,cL,Qp,Qo,Qy,Qx,Qv,Ql,Qk,Qw,Qc,Q1,Q2,Qr,Qg,Qi,Qh,Qu,Qt,Qs,Qn,Qd,cJ,n0,r2,r3,r4,t1,t2,t3,st,a1,a2,a3,ok1,ok3,l2,lp,f0,q0,q1,Ji,Jf,Jt,Ku,Ju,Zv,Q4,Ko]
 rfl
theorem Q6t {w p o g:List Nat} {i j:Nat} {c:Int} (h:OffL w p o g) (xw:∀ y∈w,y<256) (xp:∀ y∈p,y<256) (xg:∀ y∈g,y<256) (hi:i<2^32) (hc:Qhv (w.take 32) (g.take 32) (g.drop 32) (Qbu (w.drop 32) p i) c) :
  evVal T 12 [.agg (Y7 w p o i j g).toArray]=some (.int .i64 c):=by
 obtain ⟨l1,x1⟩:=Qdv h.lw xw
 obtain ⟨l2,x2⟩:=D7 h.lw xw
 obtain ⟨l3,x3⟩:=Qdv h.lg xg
 obtain ⟨l4,x4⟩:=D7 h.lg xg
 have lp:=h.lp
 have lg:=h.lg
 have n0:=Ux (i:=i) (j:=j) h
 have r1:=Qo1 (i:=i) (j:=j) h
 have r4:=Qlu (i:=i) (j:=j) h
 have tw:Vt 194 (Y7 w p o i j g)=Y7 w p o i j g:=Zk (by rw [n0]; decide)
 have hs:=Q1f (j:=j) h xw xp hi
 have hm:=Q3s l1 x1 l3 x3 l4 x4 (m:=Qbu (w.drop 32) p i) (fun y hy=>by
   rw [Qbu] at hy
   rcases J8.1 hy with hy | hy
   ·exact (by decide:∀ y∈R3,y<256) y hy
   rcases J8.1 hy with hy | hy
   ·exact x2 y hy
   rcases J8.1 hy with hy | hy
   ·exact xp y hy
   ·exact Q5n i y hy) (by
   rw [Qbu,Zh,Zh,Zh,l2,lp]
   show 12+(32+(32+4))<_
   decide) hc
 rw [Yn] at hm
 have rfo:rf (.agg (Y7 w p o i j g).toArray)=true:=Qam _ _ _ _ _ _
 have q1:rf (Ua (Qbu (w.drop 32) p i))=true:=rfl
 have ok1:∀ L:List Value,(Value.agg L.toArray).cells.toList=L:=fun _=>rfl
 have ok3:∀ L:List Value,Yj (Value.agg L.toArray)=true:=fun _=>rfl
 have f0:∀ S,rf (.agg (u8s S).toArray)=true:=fun S=>Rr S
 generalize Ua (Qbu (w.drop 32) p i)=V1,Y7 w p o i j g=O,w.take 32=W1 at *
 apply Jx
 apply Zu
 rw [Zz (fn:=Zeu) rfl]
 simp only [Zeu,↓Zm,Zw,quiet,cF,↓pF,reduceCtorEq,Qb,Qq,Zj,Zd,Zg,Zc,Q8,Qf,Q0,Qe,Qz,Q6,Q5,↓Zo,↓Zl,↓Zq,↓Zt,↓Zr,↓Zs,cL,Qp,Qo,Qy,Qx,Qv,Ql,Qk,Qw,Qc,Q1,Q2,Qr,Qg,Qi,Qh,Qu,Qt,Qs,Qn,Qd,cJ,n0,r1,r4,tw,hs,hm,rfo,q1,ok1,ok3,l1,lg,f0,Ji,Jf,Jt,Ku,Ju,Zv,Q4,Ko]
 rfl
theorem Q6q {P:List Nat} (lP:P.length=64) (xP:∀ y∈P,y<256):evVal T 19 [.agg (u8s P).toArray]=some (.agg (u8s P).toArray):=by
 obtain ⟨l1,x1⟩:=Qdv lP xP
 obtain ⟨l2,x2⟩:=D7 lP xP
 obtain ⟨t1,t2⟩:=Qdu lP
 have hz64:=Dd
 have lz64:(Qa 64 0).length=64:=Q4
 have q1:=Bs l1 l2
 rw [Yn] at q1
 have sp:=Vg (cs:=u8s (Qa 64 0)) (v:=u8s P) (by rw [Zv,Zv,lz64,lP])
 have ok1:∀ L:List Value,(Value.agg L.toArray).cells.toList=L:=fun _=>rfl
 have ok2:∀ L:List Value,(Value.agg L.toArray).cells.size=L.length:=fun _=>rfl
 have ok3:∀ L:List Value,Yj (Value.agg L.toArray)=true:=fun _=>rfl
 generalize Qa 64 0=Z64,P.take 32=P1,P.drop 32=P2 at *
 apply Jx
 apply Zu
 rw [Zz (fn:=Zet) rfl]
 simp only [Zet,↓Zm,Zw,quiet,cF,↓pF,reduceCtorEq,Qb,Qq,Zj,Zd,Zg,Zc,Q8,Qf,Q0,Qe,Qz,Q6,Q5,↓Zo,↓Zl,↓Zq,↓Zt,↓Zr,↓Zs,cL,Qp,Qo,Qy,Qx,Qv,Ql,Qk,Qw,Qc,Q1,Q2,Qr,Qg,Qi,Qh,Qu,Qt,Qs,Qn,Qd,cJ,hz64,t1,t2,q1,sp,ok1,ok2,ok3,l1,l2,lP,lz64,Ji,Jf,Jt,Ku,Ju,Zv,Q4,Ko]
 rfl
theorem Qt2 {w p o g:List Nat} {i j:Nat} (h:OffL w p o g) (xw:∀ y∈w,y<256):evVal T 10 [.agg (Y7 w p o i j g).toArray]=some (.agg (Y7 w p o i j g).toArray):=by
 have lw:=h.lw
 have lp:=h.lp
 have lo:=h.lo
 have lg:=h.lg
 have n0:=Ux (i:=i) (j:=j) h
 have r1:=Qs3 (i:=i) (j:=j) h
 have r2:=Qdl (i:=i) (j:=j) h
 have r3:=Qo3 (i:=i) (j:=j) h
 have r4:=(Tz (i:=i) (j:=j) h).1
 have r5:=(Tz (i:=i) (j:=j) h).2
 have r6:=Qlu (i:=i) (j:=j) h
 have tw:Vt 194 (Y7 w p o i j g)=Y7 w p o i j g:=Zk (by rw [n0]; decide)
 have hf:=Qwp (i:=i) (j:=j) h
 have hp:=Q6q lw xw
 have nz:Gx.length=194:=rfl
 have sO:splice Gx 0 (Y7 w p o i j g)=Y7 w p o i j g:=Vg (by rw [n0,nz])
 have ok1:∀ L:List Value,(Value.agg L.toArray).cells.toList=L:=fun _=>rfl
 have ok2:∀ L:List Value,(Value.agg L.toArray).cells.size=L.length:=fun _=>rfl
 have ok3:∀ L:List Value,Yj (Value.agg L.toArray)=true:=fun _=>rfl
 have im:∀ k,Jp 0 [] [k]=[]:=fun k=>Xu (by simp)
 generalize Y7 w p o i j g=O at *
 apply Jx
 apply Zu
 rw [Zz (fn:=Zev) rfl]
 simp only [Zev,↓Zm,Zw,quiet,cF,↓pF,reduceCtorEq,Qb,Qq,Zj,Zd,Zg,Zc,Q8,Qf,Q0,Qe,Qz,Q6,Q5,↓Zo,↓Zl,↓Zq,↓Zt,↓Zr,↓Zs,cL,Qp,Qo,Qy,Qx,Qv,Ql,Qk,Qw,Qc,Q1,Q2,Qr,Qg,Qi,Qh,Qu,Qt,Qs,Qn,Qd,cJ,n0,nz,r1,r2,r3,r4,r5,r6,tw,hf,hp,sO,im,ok1,ok2,ok3,lw,lp,lo,lg,Ji,Jf,Jt,Ku,Ju,Zv,Q4,Ko]
 rfl
def pTam:List Nat:=kE 1++kE 2
structure Tam (O:List Value) (c:Int) (S:List Nat) (E:Int):Prop where
 n0:O.length=194
 rfo:rf (.agg O.toArray)=true
 dof:evVal T 10 [.agg O.toArray]=some (.agg O.toArray)
 dch:evVal T 12 [.agg O.toArray]=some (.int .i64 c)
 ch:evVal T 11 [.agg O.toArray]=some (.int .i64 c)
 be:evVal T 8 [.agg (u8s pTam).toArray,.agg (u8s (kE 3)).toArray,.agg O.toArray]=some (.tuple #[.agg (u8s S).toArray,.int .i64 E])
 lS:S.length=64
 hE:c=0∧True∨(c==0)=false∧E=c
theorem Qka {w p o g:List Nat} {i j:Nat} (h:OffL w p o g) (xw:∀ y∈w,y<256) (xp:∀ y∈p,y<256) (xo:∀ y∈o,y<256) (xg:∀ y∈g,y<256) (hi:i<2^32):∃ c S E,Tam (Y7 w p o i j g) c S E:=by
 obtain ⟨c,h1,h2⟩:=Qs7 (j:=j) h xw xp xg
 have h3:=Q6t (j:=j) h xw xp xg hi h2
 have hP:pTam.length=64∧∀ y∈pTam,y<256:=Dt (Bl 1) (Qdq 1) (Bl 2) (Qdq 2)
 by_cases hc:c=0
 ·subst hc
  obtain ⟨S,E,h4,h5,-⟩:=Qpt hP.1 hP.2 (Bl 3) (Qdq 3) h xw xp xo h1
  exact ⟨0,S,E,Ux h,Qam _ _ _ _ _ _,Qt2 h xw,h3,h1,h4,h5,.inl ⟨rfl,trivial⟩⟩
 ·exact ⟨c,_,c,Ux h,Qam _ _ _ _ _ _,Qt2 h xw,h3,h1,Q1r hP.1 (Bl 3) h h1 hc,Q4,.inr ⟨by simpa using hc,rfl⟩⟩
theorem Q1y {a:Nat} (h:a<256):a^^^1<256:=Rw (n:=8) h (by decide)
theorem Hl {l:List Nat} {i a:Nat} (h:∀ y∈l,y<256) (ha:a<256):∀ y∈l.set i a,y<256:=fun y hy=>(Ho hy).elim (h y) (fun e=>e▸ha)
theorem Q9l {w p o g:List Nat} {i j n x y:Nat} (h:OffL w p o g) (hn:n<32) (hx:p[n]?=some x) :
  (Y7 w p o i j g)[64+n]?=some (.int .u8 (x:Nat))∧(Y7 w p o i j g).set (64+n) (.int .u8 (y:Nat))=Y7 w (p.set n y) o i j g:=by
 have lw:=h.lw
 have lp:=h.lp
 have e:64+n=(u8s w).length+n:=by rw [Zv,lw]
 unfold Y7
 constructor
 ·rw [e,Za (Qf7 _ _),Jh,Qm (by rw [Zv]; omega)]
  exact Wy hx
 ·rw [e,Yu _ _ (Qf7 _ _),Jh,Bo _ _ (by rw [Zv]; omega),Ba]
theorem Qyb {w p o g:List Nat} {i j n x y:Nat} (h:OffL w p o g) (hn:n<64) (hx:w[n]?=some x) :
  (Y7 w p o i j g)[n]?=some (.int .u8 (x:Nat))∧(Y7 w p o i j g).set n (.int .u8 (y:Nat))=Y7 (w.set n y) p o i j g:=by
 have lw:=h.lw
 unfold Y7
 constructor
 ·rw [Qm (by rw [Zv]; omega)]
  exact Wy hx
 ·rw [Bo _ _ (by rw [Zv]; omega),Ba]
theorem Zdm {w p o g:List Nat} {i j i':Nat} (h:OffL w p o g):(Y7 w p o i j g).set 128 (.int .u32 (i':Nat))=Y7 w p o i' j g:=Qio (i':=i') h
theorem Q74 (c:Int):∃ n:Nat,n<32∧(IntKind.i64.wrap (c.tmod 32+32)).tmod 32=(n:Int):=by
 have h1 : -32<c.tmod 32∧c.tmod 32<32:=by
  cases c with
  | ofNat m=>rw [show (Int.ofNat m).tmod 32=((m%32:Nat):Int) from rfl]; omega
  | negSucc m=>rw [show (Int.negSucc m).tmod 32 = -(((m+1)%32:Nat):Int) from rfl]; omega
 generalize c.tmod 32=r at *
 have h2:IntKind.i64.wrap (r+32)=r+32:=Kn (by omega) (by omega)
 rw [h2]
 obtain ⟨m,hm⟩:∃ m:Nat,r+32=(m:Int):=⟨(r+32).toNat,by omega⟩
 rw [hm]
 exact ⟨m%32,by omega,rfl⟩
theorem Quy {x:Nat} (h:x<256):Vx .xor .u8 (x:Int) 1=((x^^^1:Nat):Int):=Zcj h (b:=1) (by decide)
theorem Qu7 {P K:List Nat} {c0 c1:Int} (lP:P.length=64) (xP:∀ y∈P,y<256) (lK:K.length=64) (xK:∀ y∈K,y<256) :
  ∃ l,Yd T 5 [.agg (u8s P).toArray,.agg (u8s K).toArray,.agg #[.int .i64 c0,.int .i64 c1]] []=some (.bool true,l,[]):=by
 have hmt:=Q9z
 have hz64:=Dd
 have hz32:Qa 32 (Value.int .u8 0)=u8s zK:=rfl
 have lz64:(Qa 64 0).length=64:=Q4
 obtain ⟨l0,y0,k0⟩:=Q5g 0 lK xK (by decide)
 obtain ⟨l1,y1,k1⟩:=Q5g 32 lK xK (by decide)
 rw [Qz,Qz] at k0
 rw [Qz] at l0 y0
 generalize K.take 32=K0,(K.drop 32).take 32=K1 at *
 have hoff:evVal T 15 [.agg (u8s P).toArray,.agg (u8s K0).toArray,.agg (u8s K1).toArray,.int .u32 7,.int .u32 8]=_:=Qya (pid:=7) (oid:=8) lP xP l0 y0 l1 y1
 obtain ⟨n,hn,hat⟩:=Q74 c1
 have e1:((n:Int)<32)=True:=eq_true (by omega)
 have hO:=Qcd P K0 K1 7
 have nO:(Dm P K0 K1 7 8).length=194:=Ux hO
 have nz:Gx.length=194:=rfl
 have tw:Vt 194 (Dm P K0 K1 7 8)=Dm P K0 K1 7 8:=Zk (by rw [nO]; decide)
 have sO:splice Gx 0 (Dm P K0 K1 7 8)=Dm P K0 K1 7 8:=Vg (by rw [nO,nz])
 have rfo:rf (.agg (Dm P K0 K1 7 8).toArray)=true:=Qam _ _ _ _ _ _
 have ok1:∀ L:List Value,(Value.agg L.toArray).cells.toList=L:=fun _=>rfl
 have ok2:∀ L:List Value,(Value.agg L.toArray).cells.size=L.length:=fun _=>rfl
 have ok3:∀ L:List Value,Yj (Value.agg L.toArray)=true:=fun _=>rfl
 have ga:∀ a b:Value,(Value.agg #[a,b]).cells.toList=[a,b]:=fun _ _=>rfl
 have rt:∀ (r:List Nat) (c:Int),rf (Value.tuple #[.agg (u8s r).toArray,.int .i64 c])=true:=fun r c=>Hw (Rr r) rfl
 have im:∀ k,Jp 0 [] [k]=[]:=fun k=>Xu (by simp)
 have f1:fillL (u8s zK) [(0,1,.int .u8 1)]=some (u8s (kE 1)):=by rfl
 have f2:fillL (u8s zK) [(0,1,.int .u8 2)]=some (u8s (kE 2)):=by rfl
 have f3:fillL (u8s zK) [(0,1,.int .u8 3)]=some (u8s (kE 3)):=by rfl
 have f4:=Bs (Bl 1) (Bl 2)
 rw [show kE 1++kE 2=pTam from rfl] at f4
 have m1:=Bl 1
 have m2:=Bl 2
 have m3:=Bl 3
 have m4:pTam.length=64:=rfl
 have hsp:∀ {S:List Nat},S.length=64→splice (u8s (Qa 64 0)) 0 (u8s S)=u8s S:=fun h=>Vg (by rw [Zv,Zv,lz64,h])
 have hw:=Bx K0 Vh
 have xpb:=Qih P
 have lpb:=Qao P
 have xl0:=Tb K0 Vh
 have xon:=Qsw K1
 have xsg:∀ y∈Qcw P K0 7,y<256:=Qxr _ _
 by_cases h0:c0=0
 ·subst h0
  obtain ⟨x,hx⟩:∃ x,(Yb K0 Vh)[n]?=some x:=⟨_,Q3 (by omega)⟩
  have x9:=xl0 x (Zp hx)
  obtain ⟨gl,gs⟩:=Q9l (i:=7) (j:=B9 K1 8) (y:=x^^^1) hO hn hx
  have wx:=Quy x9
  have gn:64+n+1≤194:=by omega
  have b0:=trivial
  have b1:=trivial
  have b2:=trivial
  have b3:=trivial
  obtain ⟨c,S,E,hT⟩:=Qka (w:=pbL P) (p:=(Yb K0 Vh).set n (x^^^1)) (o:=Bm K1) (g:=Qcw P K0 7) (i:=7) (j:=B9 K1 8) ⟨hO.lw,by rw [Jk]; exact hO.lp,hO.lo,hO.lg⟩ xpb (Hl xl0 (Q1y x9)) xon xsg (by decide)
  obtain ⟨n1,r1,d1,d2,d3,d4,s1,hE⟩:=hT
  have hS:=hsp s1
  have tw9:=Zk (Qrk n1)
  rw [show Y7 (pbL P) (Yb K0 Vh) (Bm K1) 7 (B9 K1 8) (Qcw P K0 7)=Dm P K0 K1 7 8 from rfl] at gl gs
  clear hO xP y0 y1 hsp xpb xl0 xon xsg
  generalize Y7 (pbL P) ((Yb K0 Vh).set n (x^^^1)) (Bm K1) 7 (B9 K1 8) (Qcw P K0 7)=O9,Dm P K0 K1 7 8=O,pTam=PT,Qa 64 0=Z64,zK=Z at *
  rcases hE with ⟨rfl,E1⟩ | ⟨E1,rfl⟩<;>(apply Zu; rw [Zz (fn:=Qnn) rfl]; simp only [Qnn,↓Zm,Zw,quiet,cF,↓pF,reduceCtorEq,Qb,Qq,Zj,Zd,Zg,Zc,Q8,Qf,Q0,Qe,Qz,Q6,Q5,↓Zo,↓Zl,↓Zq,↓Zt,↓Zr,↓Zs,cL,Qp,Qo,Qy,Qx,Qv,Ql,Qk,Qw,Qc,Q1,Q2,Qr,Qg,Qi,Qh,Qu,Qt,Qs,Qn,Qd,cJ,hmt,hz64,hz32,k0,k1,hoff,hat,e1,nO,nz,tw,tw9,sO,rfo,ok1,ok2,ok3,ga,rt,im,f1,f2,f3,f4,gl,gs,gn,n1,r1,d1,d2,d3,d4,hS,E1,m1,m2,m3,m4,s1,l0,l1,lP,lK,lz64,b0,b1,b2,b3,wx,Ji,Jf,Jt,Ku,Ju,Zv,Q4,Ko]; rfl)
 by_cases h1:c0=1
 ·subst h1
  obtain ⟨x,hx⟩:∃ x,(pbL P)[32+n]?=some x:=⟨_,Q3 (by omega)⟩
  have x9:=xpb x (Zp hx)
  obtain ⟨gl,gs⟩:=Qyb (i:=7) (j:=B9 K1 8) (y:=x^^^1) hO (by omega) hx
  have wx:=Quy x9
  have gn:32+n+1≤194:=by omega
  have b0:=trivial
  have b1:=trivial
  have b2:=trivial
  have b3:=trivial
  obtain ⟨c,S,E,hT⟩:=Qka (w:=(pbL P).set (32+n) (x^^^1)) (p:=Yb K0 Vh) (o:=Bm K1) (g:=Qcw P K0 7) (i:=7) (j:=B9 K1 8) ⟨by rw [Jk]; exact hO.lw,hO.lp,hO.lo,hO.lg⟩ (Hl xpb (Q1y x9)) xl0 xon xsg (by decide)
  obtain ⟨n1,r1,d1,d2,d3,d4,s1,hE⟩:=hT
  have hS:=hsp s1
  have tw9:=Zk (Qrk n1)
  rw [show Y7 (pbL P) (Yb K0 Vh) (Bm K1) 7 (B9 K1 8) (Qcw P K0 7)=Dm P K0 K1 7 8 from rfl] at gl gs
  clear hO xP y0 y1 hsp xpb xl0 xon xsg
  generalize Y7 ((pbL P).set (32+n) (x^^^1)) (Yb K0 Vh) (Bm K1) 7 (B9 K1 8) (Qcw P K0 7)=O9,Dm P K0 K1 7 8=O,pTam=PT,Qa 64 0=Z64,zK=Z at *
  rcases hE with ⟨rfl,E1⟩ | ⟨E1,rfl⟩<;>(apply Zu; rw [Zz (fn:=Qnn) rfl]; simp only [Qnn,↓Zm,Zw,quiet,cF,↓pF,reduceCtorEq,Qb,Qq,Zj,Zd,Zg,Zc,Q8,Qf,Q0,Qe,Qz,Q6,Q5,↓Zo,↓Zl,↓Zq,↓Zt,↓Zr,↓Zs,cL,Qp,Qo,Qy,Qx,Qv,Ql,Qk,Qw,Qc,Q1,Q2,Qr,Qg,Qi,Qh,Qu,Qt,Qs,Qn,Qd,cJ,hmt,hz64,hz32,k0,k1,hoff,hat,e1,nO,nz,tw,tw9,sO,rfo,ok1,ok2,ok3,ga,rt,im,f1,f2,f3,f4,gl,gs,gn,n1,r1,d1,d2,d3,d4,hS,E1,m1,m2,m3,m4,s1,l0,l1,lP,lK,lz64,b0,b1,b2,b3,wx,Ji,Jf,Jt,Ku,Ju,Zv,Q4,Ko]; rfl)
 by_cases h2:c0=2
 ·subst h2
  have gl:(Y7 (pbL P) (Yb K0 Vh) (Bm K1) 7 (B9 K1 8) (Qcw P K0 7))[128]?=some (.int .u32 7):=(Tz (i:=7) (j:=B9 K1 8) hO).1
  have gs:(Y7 (pbL P) (Yb K0 Vh) (Bm K1) 7 (B9 K1 8) (Qcw P K0 7)).set 128 (.int .u32 8)=_:=Zdm (i:=7) (i':=8) (j:=B9 K1 8) hO
  have wx:IntKind.u32.wrap 8=8:=rfl
  have gn:=trivial
  have b0:=trivial
  have b1:=trivial
  have b2:=trivial
  have b3:=trivial
  obtain ⟨c,S,E,hT⟩:=Qka (w:=pbL P) (p:=Yb K0 Vh) (o:=Bm K1) (g:=Qcw P K0 7) (i:=8) (j:=B9 K1 8) ⟨hO.lw,hO.lp,hO.lo,hO.lg⟩ xpb xl0 xon xsg (by decide)
  obtain ⟨n1,r1,d1,d2,d3,d4,s1,hE⟩:=hT
  have hS:=hsp s1
  have tw9:=Zk (Qrk n1)
  rw [show Y7 (pbL P) (Yb K0 Vh) (Bm K1) 7 (B9 K1 8) (Qcw P K0 7)=Dm P K0 K1 7 8 from rfl] at gl gs
  clear hO xP y0 y1 hsp xpb xl0 xon xsg
  generalize Y7 (pbL P) (Yb K0 Vh) (Bm K1) 8 (B9 K1 8) (Qcw P K0 7)=O9,Dm P K0 K1 7 8=O,pTam=PT,Qa 64 0=Z64,zK=Z at *
  rcases hE with ⟨rfl,E1⟩ | ⟨E1,rfl⟩<;>(apply Zu; rw [Zz (fn:=Qnn) rfl]; simp only [Qnn,↓Zm,Zw,quiet,cF,↓pF,reduceCtorEq,Qb,Qq,Zj,Zd,Zg,Zc,Q8,Qf,Q0,Qe,Qz,Q6,Q5,↓Zo,↓Zl,↓Zq,↓Zt,↓Zr,↓Zs,cL,Qp,Qo,Qy,Qx,Qv,Ql,Qk,Qw,Qc,Q1,Q2,Qr,Qg,Qi,Qh,Qu,Qt,Qs,Qn,Qd,cJ,hmt,hz64,hz32,k0,k1,hoff,hat,e1,nO,nz,tw,tw9,sO,rfo,ok1,ok2,ok3,ga,rt,im,f1,f2,f3,f4,gl,gs,gn,n1,r1,d1,d2,d3,d4,hS,E1,m1,m2,m3,m4,s1,l0,l1,lP,lK,lz64,b0,b1,b2,b3,wx,Ji,Jf,Jt,Ku,Ju,Zv,Q4,Ko]; rfl)
 by_cases h3:c0=3
 ·subst h3
  obtain ⟨x,hx⟩:∃ x,(pbL P)[n]?=some x:=⟨_,Q3 (by omega)⟩
  have x9:=xpb x (Zp hx)
  obtain ⟨gl,gs⟩:=Qyb (i:=7) (j:=B9 K1 8) (y:=x^^^1) hO (by omega) hx
  have wx:=Quy x9
  have gn:n+1≤194:=by omega
  have b0:=trivial
  have b1:=trivial
  have b2:=trivial
  have b3:=trivial
  obtain ⟨c,S,E,hT⟩:=Qka (w:=(pbL P).set n (x^^^1)) (p:=Yb K0 Vh) (o:=Bm K1) (g:=Qcw P K0 7) (i:=7) (j:=B9 K1 8) ⟨by rw [Jk]; exact hO.lw,hO.lp,hO.lo,hO.lg⟩ (Hl xpb (Q1y x9)) xl0 xon xsg (by decide)
  obtain ⟨n1,r1,d1,d2,d3,d4,s1,hE⟩:=hT
  have hS:=hsp s1
  have tw9:=Zk (Qrk n1)
  rw [show Y7 (pbL P) (Yb K0 Vh) (Bm K1) 7 (B9 K1 8) (Qcw P K0 7)=Dm P K0 K1 7 8 from rfl] at gl gs
  clear hO xP y0 y1 hsp xpb xl0 xon xsg
  generalize Y7 ((pbL P).set n (x^^^1)) (Yb K0 Vh) (Bm K1) 7 (B9 K1 8) (Qcw P K0 7)=O9,Dm P K0 K1 7 8=O,pTam=PT,Qa 64 0=Z64,zK=Z at *
  rcases hE with ⟨rfl,E1⟩ | ⟨E1,rfl⟩<;>(apply Zu; rw [Zz (fn:=Qnn) rfl]; simp only [Qnn,↓Zm,Zw,quiet,cF,↓pF,reduceCtorEq,Qb,Qq,Zj,Zd,Zg,Zc,Q8,Qf,Q0,Qe,Qz,Q6,Q5,↓Zo,↓Zl,↓Zq,↓Zt,↓Zr,↓Zs,cL,Qp,Qo,Qy,Qx,Qv,Ql,Qk,Qw,Qc,Q1,Q2,Qr,Qg,Qi,Qh,Qu,Qt,Qs,Qn,Qd,cJ,hmt,hz64,hz32,k0,k1,hoff,hat,e1,nO,nz,tw,tw9,sO,rfo,ok1,ok2,ok3,ga,rt,im,f1,f2,f3,f4,gl,gs,gn,n1,r1,d1,d2,d3,d4,hS,E1,m1,m2,m3,m4,s1,l0,l1,lP,lK,lz64,b0,b1,b2,b3,wx,Ji,Jf,Jt,Ku,Ju,Zv,Q4,Ko]; rfl)
 ·have b0:(c0==0)=false:=by simpa using h0
  have b1:(c0==1)=false:=by simpa using h1
  have b2:(c0==2)=false:=by simpa using h2
  have b3:(c0==3)=false:=by simpa using h3
  generalize Dm P K0 K1 7 8=O,pTam=PT,Qa 64 0=Z64,zK=Z at *
  apply Zu
  rw [Zz (fn:=Qnn) rfl]
  simp only [Qnn,↓Zm,Zw,quiet,cF,↓pF,reduceCtorEq,Qb,Qq,Zj,Zd,Zg,Zc,Q8,Qf,Q0,Qe,Qz,Q6,Q5,↓Zo,↓Zl,↓Zq,↓Zt,↓Zr,↓Zs,cL,Qp,Qo,Qy,Qx,Qv,Ql,Qk,Qw,Qc,Q1,Q2,Qr,Qg,Qi,Qh,Qu,Qt,Qs,Qn,Qd,cJ,hmt,hz64,hz32,k0,k1,hoff,hat,e1,nO,nz,tw,sO,rfo,ok1,ok2,ok3,ga,rt,im,f1,f2,f3,f4,m1,m2,m3,m4,l0,l1,lP,lK,lz64,b0,b1,b2,b3,Ji,Jf,Jt,Ku,Ju,Zv,Q4,Ko]
  rfl
end Go.Ev.YtpgphpkjlpkcbaaGreat

/- What the law leans on, part 5. -/
import Derived.Test.YtpgphpkjlpkcbaaFs4
set_option linter.unusedSimpArgs false
set_option linter.unusedVariables false
set_option linter.defProp false
open Bool renaming and_eq_true → Yk
open Exists renaming intro → Z4
open Int renaming reduceAdd → Qz, reduceBEq → Q8, reduceBNe → Q7, reduceEq → Qq, reduceGE → Q6, reduceGT → Q5, reduceLE → Qp, reduceLT → Qo, reduceMul → Qy, reduceNeg → Qx, reducePow → Qw, reduceSub → Qv, reduceTDiv → Qn, reduceTMod → Qm, reduceToNat → Qe
open List renaming append_assoc → Zw, append_nil → Jj, cons_append → Zg, drop → Wc, drop_append_of_le_length → Yj, drop_eq_getElem_cons → Yx, drop_left → B8, drop_of_length_le → Y6, drop_succ_cons → Qg, drop_zero → Q2, eq_nil_of_length_eq_zero → Vz, flatten_append → Vh, flatten_cons → J3, flatten_nil → Vu, getD_cons_succ → Qaa, getD_cons_zero → T9, getD_eq_getElem?_getD → Jh, getElem?_append_left → Qc, getElem?_append_right → Qr, getElem?_cons_zero → Zu, getElem?_drop → V7, getElem?_eq_getElem → Q3, getElem?_eq_some_iff → Q1, getElem?_map → Wq, getElem?_set_ne → Z7, getElem?_set_self → Jl, getElem?_take → Vi, length_append → Za, length_cons → Zx, length_drop → Xs, length_map → Uu, length_nil → Z3, length_replicate → Q9, length_set → Jp, length_take → Jy, map_append → By, map_nil → W8, mem_append → Kv, mem_cons → Yt, mem_cons_of_mem → Gm, mem_map → Uh, mem_of_getElem? → Zp, mem_of_mem_take → Kr, mem_replicate → Qa7, mem_singleton → W7, nil_append → Zc, not_mem_nil → Wb, replicate → Qa, set_append_right → Yf, take → Kw, take_add_one → V3, take_append_drop → Yr, take_append_of_le_length → Ya, take_left → Df, take_of_length_le → Zj, take_succ_cons → Qf, take_zero → Q0
open Nat renaming add_comm → Bi, add_sub_cancel_left → Z0, add_zero → Jk, eq_zero_or_pos → Wl, le_add_right → Qqv, le_of_lt → Um, le_refl → Zf, lt_of_lt_of_le → Xf, lt_or_ge → Yc, min_eq_left → Kx, mod_eq_of_lt → Jd, mod_mod → Tk, mod_mul_mod → T6, mul_comm → Vt, mul_le_mul_right → W4, mul_one → Xg, not_lt_zero → Jq, reduceAdd → Qk, reduceDiv → Qu, reduceEqDiff → Qd, reduceLT → Ql, reduceLeDiff → Qh, reduceMod → Qt, reduceMul → Qj, reducePow → Qs, reduceSub → Qi, sub_self → Jc, succ_mul → Qfl, zero_add → Zz, zero_mul → Xq
open Option renaming bind_some → Q4
namespace Go.Ev.Ytpgphpkjlpkcbaa
open Go Go.Ev
attribute [local congr] Wp W0 Wo W3 Wh
set_option maxRecDepth 100000
theorem Qmq (w p o:List Nat) (i j:Nat) (g:List Nat):rf (.agg (Y3 w p o i j g).toArray)=true:=by
 show (Y3 w p o i j g).toArray.toList.all scalarRf=true
 rw [show (Y3 w p o i j g).toArray.toList=Y3 w p o i j g from rfl]
 simp [Y3,u8s,scalarRf]
def zK:List Nat:=dig 256 32 0
theorem Qab:zK.length=32:=rfl
def Gd (k:List Nat):List Nat:=if k=zK then zK else V6 k Vm
def Rx (k:List Nat) (i:Nat):Nat:=if k=zK then 0 else i
theorem Qld (k:List Nat):(Gd k).length=32:=by unfold Gd; split; rfl; exact Bd _ _
theorem Qy7 (k:List Nat):∀ y∈Gd k,y<256:=by unfold Gd; split; exact D5; exact R1 _ _
def Q62 (P pre:List Nat) (pid:Nat):List Nat:=Qbk (P.take 32) (Qi2 (V6 (P.drop 32) Vm) (V6 pre Vm) pid)
def Tg (P pre once:List Nat) (pid oid:Nat):List Value:=Y3 (pbL P) (V6 pre Vm) (Gd once) pid (Rx once oid) (Q62 P pre pid)
theorem Qco (P pre once:List Nat) (pid:Nat):OffL (pbL P) (V6 pre Vm) (Gd once) (Q62 P pre pid):=⟨Qak P,Bd _ _,Qld _,Qeb _ _⟩
theorem Q3h {P pre once:List Nat} {pid oid:Nat} (lP:P.length=64) (xP:∀ y∈P,y<256) (l1:pre.length=32) (x1:∀ y∈pre,y<256) (l2:once.length=32) (x2:∀ y∈once,y<256) :
  Vw T 6 [.agg (u8s P).toArray,.agg (u8s pre).toArray,.agg (u8s once).toArray,.int .u32 pid,.int .u32 oid]=some (.agg (Tg P pre once pid oid).toArray):=by
 have hz:Qa 32 (Value.int .u8 0)=u8s zK:=rfl
 have fz:fillL (u8s zK) []=some (u8s zK):=rfl
 have lz:=Qab
 have hp:=Qeh lP xP
 have hpre:=Qcr l1 x1
 have honce:=Qcr l2 x2
 obtain ⟨ls,xs⟩:=Qg4 lP xP
 obtain ⟨la,xa⟩:=Dr lP xP
 obtain ⟨t1,t2⟩:=Qdw lP
 have lb:=Qak P
 have lpr:=Bd pre Vm
 have xpr:=R1 pre Vm
 have lon:=Bd once Vm
 have lag:=Bd (P.drop 32) Vm
 have xag:=R1 (P.drop 32) Vm
 have hdp:(pbL P).drop 32=V6 (P.drop 32) Vm:=Mw P
 have K0:OffL (Qa 64 0) (Qa 32 0) (Qa 32 0) (Qa 64 0):=⟨by simp,by simp,by simp,by simp⟩
 have K1:OffL (pbL P) (Qa 32 0) (Qa 32 0) (Qa 64 0):=⟨lb,by simp,by simp,by simp⟩
 have K2:OffL (pbL P) (V6 pre Vm) (Qa 32 0) (Qa 64 0):=⟨lb,lpr,by simp,by simp⟩
 have hfill:fillL Ys [(0,64,.agg (u8s (pbL P)).toArray),(64,32,.agg (u8s (V6 pre Vm)).toArray),(128,1,.int .u32 (pid:Int))]=some (Y3 (pbL P) (V6 pre Vm) zK pid 0 (Qa 64 0)):=by
  have c1:(Value.agg (u8s (pbL P)).toArray).cells.size=64∧0+64≤Ys.length∧okVar (Value.agg (u8s (pbL P)).toArray)=true:=⟨by show (u8s _).length=64; rw [Zv,lb],by rw [Ds,Up K0]; decide,rfl⟩
  have c2:(Value.agg (u8s (V6 pre Vm)).toArray).cells.size=32∧64+32≤(Y3 (pbL P) (Qa 32 0) (Qa 32 0) 0 0 (Qa 64 0)).length∧okVar (Value.agg (u8s (V6 pre Vm)).toArray)=true:=⟨by show (u8s _).length=32; rw [Zv,lpr],by rw [Up K1]; decide,rfl⟩
  have c3:(Value.int .u32 (pid:Int)).cells.size=1∧128+1≤(Y3 (pbL P) (V6 pre Vm) (Qa 32 0) 0 0 (Qa 64 0)).length∧okVar (Value.int .u32 (pid:Int))=true:=⟨rfl,by rw [Up K2]; decide,rfl⟩
  have e1:splice Ys 0 (Value.agg (u8s (pbL P)).toArray).cells.toList=Y3 (pbL P) (Qa 32 0) (Qa 32 0) 0 0 (Qa 64 0):=by rw [Ds]; exact Qgz K0 lb
  have e2:splice (Y3 (pbL P) (Qa 32 0) (Qa 32 0) 0 0 (Qa 64 0)) 64 (Value.agg (u8s (V6 pre Vm)).toArray).cells.toList=Y3 (pbL P) (V6 pre Vm) (Qa 32 0) 0 0 (Qa 64 0):=Qg1 K1 lpr
  have e3:splice (Y3 (pbL P) (V6 pre Vm) (Qa 32 0) 0 0 (Qa 64 0)) 128 (Value.int .u32 (pid:Int)).cells.toList=Y3 (pbL P) (V6 pre Vm) (Qa 32 0) pid 0 (Qa 64 0):=Qli K2
  unfold fillL
  rw [if_pos c1,e1]
  unfold fillL
  rw [if_pos c2,e2]
  unfold fillL
  rw [if_pos c3,e3]
  rfl
 have K3:OffL (pbL P) (V6 pre Vm) zK (Qa 64 0):=⟨lb,lpr,rfl,by simp⟩
 have K4:OffL (pbL P) (V6 pre Vm) (V6 once Vm) (Qa 64 0):=⟨lb,lpr,lon,by simp⟩
 have K5:OffL (pbL P) (V6 pre Vm) (Gd once) (Qa 64 0):=⟨lb,lpr,Qld _,by simp⟩
 have K6:=Qco P pre once pid
 have s1:=Qel (i:=pid) (j:=0) K3 lon
 have s2:=Qlh (i:=pid) (j:=0) (j':=oid) K4
 have s3:=Qg0 (i:=pid) (j:=Rx once oid) K5 (Qeb (P.take 32) (Qi2 (V6 (P.drop 32) Vm) (V6 pre Vm) pid))
 have n3:=Up (i:=pid) (j:=0) K3
 have n4:=Up (i:=pid) (j:=0) K4
 have n5:=Up (i:=pid) (j:=Rx once oid) K5
 have n6:(Tg P pre once pid oid).length=194:=Up K6
 have r5:=Qam (i:=pid) (j:=Rx once oid) K5
 rw [hdp] at r5
 have r6:=Qem (i:=pid) (j:=Rx once oid) K5
 have nz:Ys.length=194:=by rw [Ds]; exact Up K0
 obtain ⟨G,hG⟩:∃ X,X=[(⟨u8s P,true,true,true,1⟩:Ob),⟨u8s pre,true,true,true,1⟩,⟨u8s once,true,true,true,1⟩,⟨Ys,true,true,true,1⟩,⟨Y3 (pbL P) (V6 pre Vm) (Gd once) pid (Rx once oid) (Qa 64 0),true,true,true,1⟩]:=⟨_,rfl⟩
 have lG:G.length=5:=by rw [hG]; rfl
 have hsgd:=Qk5 (H:=G) (i:=pid) lag lpr
 have hargs:=Qod (H:=G) (i:=pid) lag xag lpr xpr
 obtain ⟨l,hmk⟩:=Q3v ls xs hargs (by show 4≤1000; decide) (by rw [Qcq]; simp [Qi2,Qkb,id4,lag,lpr])
 rw [Qcq] at hmk
 rw [lG,Zw] at hmk
 rw [lG] at hsgd
 have lsg:=Qeb (P.take 32) (Qi2 (V6 (P.drop 32) Vm) (V6 pre Vm) pid)
 obtain ⟨X,hX⟩:∃ X,X=Tc 5 (V6 (P.drop 32) Vm) (V6 pre Vm) pid++l:=⟨_,rfl⟩
 rw [←hX] at hmk
 rw [hG] at hmk hsgd
 have rfo:rf (.agg (Tg P pre once pid oid).toArray)=true:=Qmq _ _ _ _ _ _
 have ok1:∀ L:List Value,(Value.agg L.toArray).cells.toList=L:=fun _=>rfl
 have ok2:∀ L:List Value,(Value.agg L.toArray).cells.size=L.length:=fun _=>rfl
 have ok3:∀ L:List Value,okVar (Value.agg L.toArray)=true:=fun _=>rfl
 have hq:=Qbe (k:=once) (l:=zK) l2 rfl
 have tw:Kw 194 (Tg P pre once pid oid)=Tg P pre once pid oid:=Zj (by rw [n6]; decide)
 have sz:splice Ys 0 (Tg P pre once pid oid)=Tg P pre once pid oid:=Kt (by rw [n6,nz])
 have szo:splice Ys 0 (Y3 (pbL P) (V6 pre Vm) zK pid 0 (Qa 64 0))=Y3 (pbL P) (V6 pre Vm) zK pid 0 (Qa 64 0):=Kt (by rw [n3,nz])
 have s1':∀ L:List Nat,(Value.agg (u8s L).toArray).cells.toList=u8s L:=fun _=>rfl
 rw [show Y3 (pbL P) (V6 pre Vm) (Gd once) pid (Rx once oid) (Qbk (P.take 32) (Qi2 (V6 (P.drop 32) Vm) (V6 pre Vm) pid))=Tg P pre once pid oid from rfl] at s3
 have Q6o:∀ (L:List Value) (v:Value),splice L 129 [v]=L.set 129 v:=fun _ _=>rfl
 rw [Q6o] at s2
 simp only [Zg,Zc] at hmk hsgd
 have im:∀ k,Ja 0 [] [k]=[]:=fun k=>Xv (by simp)
 clear K0 K1 K2 K3 K4 K5 K6 hG hX hargs xs xa xag xpr hdp Q6o xP x1 x2
 by_cases h:once=zK
 ·have hb:(!(once==zK))=false:=by rw [h]; simp
  rw [hb] at hq
  have ho:Y3 (pbL P) (V6 pre Vm) (Gd once) pid (Rx once oid) (Qa 64 0)=Y3 (pbL P) (V6 pre Vm) zK pid 0 (Qa 64 0):=by rw [Gd,Rx,if_pos h,if_pos h]
  rw [ho] at hmk hsgd s3 n5 r5 r6
  clear h hb ho s1 s2
  generalize Y3 (pbL P) (V6 pre Vm) zK pid 0 (Qa 64 0)=O1 at *
  generalize Tg P pre once pid oid=O2 at *
  generalize Qbk (P.take 32) (Qi2 (V6 (P.drop 32) Vm) (V6 pre Vm) pid)=SG at *
  generalize Tc 5 (V6 (P.drop 32) Vm) (V6 pre Vm) pid=SH at *
  generalize pbL P=PB at *
  generalize V6 pre Vm=PR at *
  generalize V6 (P.drop 32) Vm=AG at *
  generalize V6 once Vm=ON at *
  generalize zK=Z at *
  apply Ks
  apply Z4
  rw [Z5 (fn:=Q1l) rfl]
  simp only [Q1l,↓Zl,Z6,quiet,cF,↓pF,reduceCtorEq,Qd,Qq,Zn,Zi,Zm,Zh,Ze,Qf,Q0,Qg,Q2,Q8,Q7,↓Zo,↓Zk,↓Zq,↓Zt,↓Zr,↓Zs,cL,Qp,Qo,Qz,Qy,Qv,Qn,Qm,Qx,Qe,Q5,Q6,Qw,Qk,Qj,Qi,Qu,Qt,Qs,Ql,Qh,cJ,hz,fz,hp,hpre,hfill,szo,hq,t1,r5,r6,hsgd,hmk,s3,sz,tw,im,nz,n3,n5,n6,ok1,ok2,ok3,lP,l1,l2,lz,ls,lb,lpr,lag,lsg,Xo,Xe,Kb,Yb,Kc,Zv,Q9,V4,rfo]
  rfl
 ·have hb:(!(once==zK))=true:=by simpa using h
  rw [hb] at hq
  have ho:Y3 (pbL P) (V6 pre Vm) (Gd once) pid (Rx once oid) (Qa 64 0)=Y3 (pbL P) (V6 pre Vm) (V6 once Vm) pid oid (Qa 64 0):=by rw [Gd,Rx,if_neg h,if_neg h]
  rw [ho] at hmk hsgd s3 n5 r5 r6
  clear h hb ho
  generalize Y3 (pbL P) (V6 pre Vm) (V6 once Vm) pid oid (Qa 64 0)=O4 at *
  generalize Y3 (pbL P) (V6 pre Vm) (V6 once Vm) pid 0 (Qa 64 0)=O3 at *
  generalize Y3 (pbL P) (V6 pre Vm) zK pid 0 (Qa 64 0)=O1 at *
  generalize Tg P pre once pid oid=O2 at *
  generalize Qbk (P.take 32) (Qi2 (V6 (P.drop 32) Vm) (V6 pre Vm) pid)=SG at *
  generalize Tc 5 (V6 (P.drop 32) Vm) (V6 pre Vm) pid=SH at *
  generalize pbL P=PB at *
  generalize V6 pre Vm=PR at *
  generalize V6 (P.drop 32) Vm=AG at *
  generalize V6 once Vm=ON at *
  generalize zK=Z at *
  apply Ks
  apply Z4
  rw [Z5 (fn:=Q1l) rfl]
  simp only [Q1l,↓Zl,Z6,quiet,cF,↓pF,reduceCtorEq,Qd,Qq,Zn,Zi,Zm,Zh,Ze,Qf,Q0,Qg,Q2,Q8,Q7,↓Zo,↓Zk,↓Zq,↓Zt,↓Zr,↓Zs,cL,Qp,Qo,Qz,Qy,Qv,Qn,Qm,Qx,Qe,Q5,Q6,Qw,Qk,Qj,Qi,Qu,Qt,Qs,Ql,Qh,cJ,hz,fz,hp,hpre,honce,hfill,szo,hq,s1,s2,t1,r5,r6,hsgd,hmk,s3,sz,tw,im,nz,n3,n4,n5,n6,ok1,ok2,ok3,lP,l1,l2,lz,ls,lb,lpr,lon,lag,lsg,Xo,Xe,Kb,Yb,Kc,Zv,Q9,V4,rfo]
  rfl
theorem Qzl {w p o g:List Nat} {i j:Nat} (h:OffL w p o g) (xw:∀ y∈w,y<256) (xp:∀ y∈p,y<256) (xg:∀ y∈g,y<256) :
  ∃ c,Vw T 11 [.agg (Y3 w p o i j g).toArray]=some (.int .i64 c)∧Qnp (w.take 32) (g.take 32) (g.drop 32) (Qi2 (w.drop 32) p i) c:=by
 obtain ⟨l1,x1⟩:=Qg4 h.lw xw
 obtain ⟨l2,x2⟩:=Dr h.lw xw
 obtain ⟨l3,x3⟩:=Qg4 h.lg xg
 obtain ⟨l4,x4⟩:=Dr h.lg xg
 have lp:=h.lp
 have lg:=h.lg
 have n0:=Up (i:=i) (j:=j) h
 have r1:=Qlg (i:=i) (j:=j) h
 have r2:=Qam (i:=i) (j:=j) h
 have r3:=Qem (i:=i) (j:=j) h
 have r4:=Qo4 (i:=i) (j:=j) h
 obtain ⟨r5,-⟩:=Qen (i:=i) (j:=j) h
 have hsgd:=Qk5 (H:=[(⟨Y3 w p o i j g,true,true,true,1⟩:Ob)]) (i:=i) l2 lp
 have hargs:=Qod (H:=[(⟨Y3 w p o i j g,true,true,true,1⟩:Ob)]) (i:=i) l2 x2 lp xp
 obtain ⟨l,c,hc,hs⟩:=Q05 l1 x1 l3 x3 l4 x4 hargs (by show 4≤1000; decide) (by rw [Qcq]; simp [Qi2,Qkb,id4,l2,lp])
 rw [Qcq] at hs
 rw [Yr] at hc
 refine ⟨c,?_,hs⟩
 simp only [Zx,Z3,Zz] at hsgd hc
 have ok1:∀ L:List Value,(Value.agg L.toArray).cells.toList=L:=fun _=>rfl
 have ok2:∀ L:List Value,(Value.agg L.toArray).cells.size=L.length:=fun _=>rfl
 have ok3:∀ L:List Value,okVar (Value.agg L.toArray)=true:=fun _=>rfl
 clear hs hargs h x1 x2 x3 x4
 generalize Y3 w p o i j g=O at *
 generalize Tc 1 (w.drop 32) p i=SH at *
 generalize w.take 32=W1 at *
 generalize w.drop 32=W2 at *
 simp only [Zg,Zc,Zw] at hc hsgd
 apply Ks
 apply Z4
 rw [Z5 (fn:=Q8x) rfl]
 simp only [Q8x,↓Zl,Z6,quiet,cF,↓pF,reduceCtorEq,Qd,Qq,Zn,Zi,Zm,Zh,Ze,Qf,Q0,Qg,Q2,Q8,Q7,↓Zo,↓Zk,↓Zq,↓Zt,↓Zr,↓Zs,cL,Qp,Qo,Qz,Qy,Qv,Qn,Qm,Qx,Qe,Q5,Q6,Qw,Qk,Qj,Qi,Qu,Qt,Qs,Ql,Qh,cJ,n0,r1,r2,r3,r4,r5,hsgd,hc,ok1,ok2,ok3,l1,l2,lp,lg,Xo,Xe,Kb,Yb,Kc,Zv,Q9,V4]
 rfl
theorem R3 {G:List Ob} {id c:Nat} {b:List Nat} {w e:Bool} {s:Nat} (h:G[id]?=some ⟨u8s b,true,w,e,s⟩):elemsOf G 1 b.length (.slice (some ⟨id,0,none⟩) b.length c)=some (u8s b):=by
 simp [elemsOf,Vj h rfl,Zv]
 exact Zj (by rw [Zv]; exact Zf _)
def Qaf:List Nat:=Qa 32 255
def tgA (L:List (List Nat)):Nat→List Nat
 | 0=>Qaf
 | k+1=>tgA L k++V6 ((L.getD k []).take 32) ((L.getD k []).drop 32)
theorem Qml (L:List (List Nat)):∀ k,(tgA L k).length=32+32*k
 | 0=>rfl
 | k+1=>by rw [tgA,Za,Qml L k,Bd]; omega
theorem Qxs (L:List (List Nat)):∀ k,∀ y∈tgA L k,y<256
 | 0=>fun y hy=>by have:=(Qa7.1 hy).2; omega
 | k+1=>fun y hy=>(Kv.1 hy).elim (Qxs L k y) (R1 _ _ y)
def AllS (B:Nat) (G:List Ob) (v:Value) (t:List Nat):Prop:=(∃ id,B<id∧v=.slice (some ⟨id,0,none⟩) 32 32∧t.length=32∧G[id]?=some ⟨u8s t,true,true,true,1⟩)∨Rst (fun i=>i≤B) G v t
theorem Qqp {B:Nat} {G:List Ob} {v:Value} {t q:List Nat} {b:Nat} (h:AllS B G v t) (hB:B<G.length) (hb:G[b]?=some ⟨u8s q,true,true,true,1⟩) (lq:q.length=32) (lt:t.length≤900) :
  ∃ v' G' M,Yz 1 1 G v (.slice (some ⟨b,0,none⟩) 32 32)=some (v',G',none,M)∧AllS B G' v' (t++q)∧(∀ i∈M,B<i)∧G.length≤G'.length∧∀ i,i≤B→G'[i]?=G[i]? := by
 rcases h with ⟨id,h1,rfl,h2,h3⟩ | h
 ·have:=Ql6 h3 hb h2 lq (by decide) (c:=32) (by decide)
  refine ⟨_,_,[],this,.inr ?_,by simp,by simp,fun i hi=>by rw [Qc (by omega)]⟩
  have hl:(t++q).length=32+32:=by rw [Za,h2,lq]
  rw [←hl]
  exact .own (all:=t++q) (by omega) (by rw [Qr (Zf _),Jc]; rfl) (by omega) (fun i _=>by rw [Zz])
 ·have he:elemsOf G 1 q.length (.slice (some ⟨b,0,none⟩) 32 32)=some (u8s q):=by
   rw [lq]
   simp [elemsOf,Vj hb rfl,Zv,lq]
   exact Zj (by rw [Zv,lq]; exact Zf _)
  obtain ⟨v',G',M,k1,k2,k3,k4,k5,-⟩:=h.append (fun i hi=>by omega) (by rw [lq]; rfl:Go.Ev.lenV (.slice (some ⟨b,0,none⟩) 32 32)=some q.length) he (by omega)
  exact ⟨v',G',M,k1,.inr k2,fun i hi=>by have:=k3 i hi; omega,k4,fun i hi=>k5 i hi⟩
theorem AllS.shape {B:Nat} {G:List Ob} {v:Value} {t:List Nat} (h:AllS B G v t):∃ a c,v=.slice a t.length c:=by
 rcases h with ⟨id,h1,rfl,h2,h3⟩ | h
 ·rw [h2]; exact ⟨_,_,rfl⟩
 ·exact h.shape
theorem AllS.part {B:Nat} {G:List Ob} {v:Value} {t:List Nat} (h:AllS B G v t) (xt:∀ y∈t,y<256) (lt:t.length≤1000):HPart (LtN G.length) G v t:=by
 rcases h with ⟨id,h1,rfl,h2,h3⟩ | h
 ·have:=HPart.whole (n:=G.length) (c:=32) (Q1.1 h3).1 h3 xt (by omega)
  rwa [h2] at this
 ·refine ⟨h.shape,fun G' hG' => ?_,xt,by omega⟩
  have h':Rst (fun i=>i≤B) G' v t:=h.ext fun i hi=>hG' i hi
  exact h'.elems
theorem AllS.ext {B:Nat} {G G':List Ob} {v:Value} {t:List Nat} (h:AllS B G v t) (hg:∀ i,i<G.length→G'[i]?=G[i]?):AllS B G' v t:=by
 rcases h with ⟨id,h1,h0,h2,h3⟩ | h
 ·exact .inl ⟨id,h1,h0,h2,(hg id (Q1.1 h3).1).trans h3⟩
 ·exact .inr (h.ext hg)
def tgI (B:Nat) (pv vo:Value) (n k:Nat) (G:List Ob) (ex:Env):St:=⟨[(2,.pointer (some ⟨B,0,none⟩)),(4,vo),(22,pv),(23,.int .i64 n),(24,.int .i64 k)]++ex,G,[]⟩
theorem Qs4 {H G:List Ob} {pid n k c:Nat} {vo:Value} {L:List (List Nat)} {w e:Bool} {s:Nat} {P:List Nat} (hP:H[pid]?=some ⟨u8s L.flatten,true,w,e,s⟩) (hL:∀ x∈L,x.length=64∧∀ y∈x,y<256) (hn:L.length=n) (hk:L[k]?=some P) (hn9:n≤20)
  (hne:V6 (P.take 32) (P.drop 32)≠zK) (hG:H.length<G.length) (hf:∀ i,i≤H.length→i<H.length→G[i]?=H[i]?) (hz:G[H.length]?=some ⟨u8s zK,true,true,true,1⟩) (ha:AllS H.length G vo (tgA L k)) :
  ∃ G' vo',Jv T H.length R9 (tgI H.length (.slice (some ⟨pid,0,none⟩) n c) vo n k G [])=some (.normal,tgI H.length (.slice (some ⟨pid,0,none⟩) n c) vo' n (k+1) G' [])∧H.length<G'.length∧(∀ i,i≤H.length→i<H.length→G'[i]?=H[i]?)∧G'[H.length]?=some ⟨u8s zK,true,true,true,1⟩∧AllS H.length G' vo' (tgA L (k+1)):=by
 have hkn:k<n:=by rw [←hn]; exact (Q1.1 hk).1
 have hpid:=(Q1.1 hP).1
 obtain ⟨lP,xP⟩:=hL P (Zp hk)
 obtain ⟨l1,x1⟩:=Qg4 lP xP
 obtain ⟨l2,x2⟩:=Dr lP xP
 obtain ⟨t1,t2⟩:=Qdw lP
 have hag:=Qpi l1 x1 l2 x2
 rw [if_neg (show V6 (P.take 32) (P.drop 32)≠dig 256 32 0 from hne)] at hag
 have lR:=Bd (P.take 32) (P.drop 32)
 have hgd:L.getD k []=P:=by rw [Jh,hk]; rfl
 have hpg:∀ m:List Ob,(G++m)[pid]?=some ⟨u8s L.flatten,true,w,e,s⟩:=fun m=>by rw [Qc (by omega),hf pid (by omega) hpid]; exact hP
 have hpg0:=hpg []
 rw [Jj] at hpg0
 have hall:∀ (M:List (List Nat)),(∀ x∈M,x.length=64)→M.flatten.length=64*M.length:=by
  intro M hM
  induction M with
  | nil=>rfl
  | cons a M ih=>rw [J3,Za,ih (fun x hx=>hM x (Gm _ hx)),hM a (by simp),Zx]; omega
 have hfl:=hall L fun x hx=>(hL x hx).1
 have hpair:Kw 64 (Wc (k*64) (u8s L.flatten))=u8s P:=by
  have e1:L.flatten=(L.take k).flatten++(P++(L.drop (k+1)).flatten):=by
   rw [←J3,←Vh]
   congr 1
   have h1:=Q1.1 hk
   conv=>lhs; rw [←Yr k L,Yx h1.1,h1.2]
  have e2:(L.take k).flatten.length=k*64:=by
   rw [hall (L.take k) fun x hx=>(hL x (Kr hx)).1,Jy,Kx (by omega),Vt]
  rw [e1,Wg,Wg,←e2,←Zv,B8,←lP,←Zv P,Df]
 have hle:k*64+64≤(u8s L.flatten).length:=by rw [Zv,hfl,hn]; omega
 obtain ⟨G1,hG1⟩:∃ X,X=G++[(⟨u8s P,true,true,true,1⟩:Ob),⟨u8s (V6 (P.take 32) (P.drop 32)),true,true,true,1⟩]:=⟨_,rfl⟩
 have lG1:G1.length=G.length+2:=by rw [hG1]; simp
 have u1:∀ i,i<G.length→G1[i]?=G[i]? := fun i hi=>by rw [hG1,Qc hi]
 have hR:G1[G.length+1]?=some ⟨u8s (V6 (P.take 32) (P.drop 32)),true,true,true,1⟩:=by rw [hG1,Qr (by omega),Z0]; rfl
 have hla:=Qml L k
 obtain ⟨vo',G',M,q1,q2,q3,q4,q5⟩:=Qqp (ha.ext u1) (by omega) hR lR (by rw [hla]; omega)
 refine ⟨G',vo',?_,by omega,fun i _ hi=>by rw [q5 i (by omega),u1 i (by omega),hf i (by omega) hi],by rw [q5 _ (Zf _),u1 _ hG]; exact hz,by rw [tgA,hgd]; exact q2⟩
 have hz64:=Gw
 have hz32:Qa 32 (Value.int .u8 0)=u8s zK:=rfl
 have lz64:(Qa 64 0).length=64:=Q9
 have lzk:=Qab
 have e1:((k:Int)<(n:Int))=True:=eq_true (by omega)
 have w3:IntKind.i64.wrap ((k:Int)+1)=((k+1:Nat):Int):=Ws (b:=1) (by omega)
 have b32:Y9 32 32 none none none=some (0,32,32):=rfl
 have im:Ja H.length [] M=[]:=Xv fun i hi=>by have:=q3 i hi; omega
 have im1:Ja H.length [] [G.length]=[]:=Xv (by simp; omega)
 have im2:Ja H.length [] [G.length+1]=[]:=Xv (by simp; omega)
 have F1:G++[(⟨u8s P,true,true,true,1⟩:Ob),⟨u8s (V6 (P.take 32) (P.drop 32)),true,true,true,1⟩]=G1:=hG1.symm
 have rt:∀ r:List Nat,rf (Value.tuple #[.agg (u8s r).toArray,.int .i64 0])=true:=fun r=>Dx (Qed r) rfl
 clear hG1 hP hf u1 hR q2 q3 q5 ha hall hgd hL hne x1 x2
 generalize V6 (P.take 32) (P.drop 32)=R at *
 generalize P.take 32=P1 at *
 generalize P.drop 32=P2 at *
 generalize u8s L.flatten=LF at *
 generalize Qa 64 0=Z64 at *
 generalize zK=Z at *
 generalize hk64:k*64=k64 at *
 generalize hk1:k+1=k1 at *
 simp only [tgI,R9,hk64,hk1,↓Zl,Z6,quiet,cF,↓pF,reduceCtorEq,Qd,Qq,Zn,Zi,Zm,Zh,Ze,Qf,Q0,Qg,Q2,Q8,Q7,↓Zo,↓Zk,↓Zq,↓Zt,↓Zr,↓Zs,cL,Qp,Qo,Qz,Qy,Qv,Qn,Qm,Qx,Qe,Q5,Q6,Qw,Qk,Qj,Qi,Qu,Qt,Qs,Ql,Qh,cJ,hz64,hz32,e1,w3,b32,hpg,hpg0,hpair,hle,t1,t2,hag,F1,q1,im,im1,im2,rt,lP,l1,l2,lR,lz64,lzk,Xo,Xe,Kb,Yb,Kc,Zv,Q9,V4]
def tfI (H:List Ob) (pv:Value) (A:List Nat) (k:Int) (ex:Env):St:=⟨[(0,pv),(2,.pointer (some ⟨H.length,0,none⟩)),(4,.slice (some ⟨H.length+1,0,none⟩) 32 32),(14,.int .i64 32),(15,.int .i64 k)]++ex,H++[⟨u8s zK,true,true,true,1⟩,⟨u8s A,true,true,true,1⟩],[]⟩
theorem Qn6 {H:List Ob} {pv:Value}:Jv T H.length (.block 0 (.loop Qe8)) (tfI H pv (Qa 32 0) 0 [])=some (.normal,tfI H pv Qaf 32 [(16,.bool false)]):=by
 have lt:Qaf.length=32:=Q9
 have h:=Ub (T:=T) (base:=H.length) (id:=0) (body:=Qe8) (fun i=>tfI H pv (pf 32 Qaf i) i []) (s':=tfI H pv Qaf 32 [(16,.bool false)]) 32
  (fun i hi=>by
   have hi:i<32:=hi
   have hv:Qaf[i]?=some 255:=by rw [Qaf,List.getElem?_replicate,if_pos hi]
   have s1:=Rw lt hi hv
   have c1:(u8s (pf 32 Qaf i)).set i (.int .u8 255)=_:=Hg (pf 32 Qaf i) i 255
   rw [s1] at c1
   have l1:i+1≤(u8s (pf 32 Qaf i)).length:=by rw [Zv,Qbm lt (by omega)]; omega
   have e1:((i:Int)<32)=True:=eq_true (by omega)
   have w3:IntKind.i64.wrap ((i:Int)+1)=((i+1:Nat):Int):=Ws (b:=1) (by omega)
   have im1:Ja H.length [] [H.length+1]=[]:=Xv (by simp)
   have g0:∀ o1 o2:Ob,(H++[o1,o2])[H.length+1]?=some o2:=fun _ _=>by rw [Qr (by omega),Z0]; rfl
   have t0:∀ o1 o2 o:Ob,(H++[o1,o2]).set (H.length+1) o=H++[o1,o]:=fun _ _ _=>by rw [Yf _ _ (by omega),Z0]; rfl
   simp only [tfI]
   generalize pf 32 Qaf i=A1 at *
   generalize pf 32 Qaf (i+1)=A2 at *
   generalize hi1:i+1=i1 at *
   generalize zK=Z at *
   simp only [Qe8,↓Zl,Z6,quiet,cF,↓pF,reduceCtorEq,Qd,Qq,Zn,Zi,Zm,Zh,Ze,Qf,Q0,Qg,Q2,Q8,Q7,↓Zo,↓Zk,↓Zq,↓Zt,↓Zr,↓Zs,cL,Qp,Qo,Qz,Qy,Qv,Qn,Qm,Qx,Qe,Q5,Q6,Qw,Qk,Qj,Qi,Qu,Qt,Qs,Ql,Qh,cJ,e1,w3,c1,l1,g0,t0,im1,hi1])
  (by
   rw [Qcl lt]
   simp only [tfI,Qe8,↓Zl,Z6,quiet,cF,↓pF,reduceCtorEq,Qd,Qq,Zn,Zi,Zm,Zh,Ze,Qf,Q0,Qg,Q2,Q8,Q7,↓Zo,↓Zk,↓Zq,↓Zt,↓Zr,↓Zs,cL,Qp,Qo,Qz,Qy,Qv,Qn,Qm,Qx,Qe,Q5,Q6,Qw,Qk,Qj,Qi,Qu,Qt,Qs,Ql,Qh,cJ])
 rw [Qck] at h
 exact h
def Qxk:List Nat:=[115,105,103,110,101,116,32,97,103,114,101,101]
def U9 (L:List (List Nat)):List Nat:=Qls [] (tgA L L.length) Qxk 1
theorem Qn3 {H:List Ob} {pid c:Nat} {L:List (List Nat)} {w e:Bool} {s:Nat} (hP:H[pid]?=some ⟨u8s L.flatten,true,w,e,s⟩) (hL:∀ x∈L,x.length=64∧∀ y∈x,y<256) (hn9:L.length≤20)
  (hne:∀ x∈L,V6 (x.take 32) (x.drop 32)≠zK) :
  (U9 L).length=32∧∃ l,Vv T 18 [.slice (some ⟨pid,0,none⟩) L.length c] H=some (.tuple #[.agg (u8s (U9 L)).toArray,.int .i64 0],H++l,[]):=by
 obtain ⟨n,hn⟩:∃ n,L.length=n:=⟨_,rfl⟩
 have hf:=Qn6 (H:=H) (pv := .slice (some ⟨pid,0,none⟩) n c)
 obtain ⟨G0,hG0⟩:∃ X,X=H++[(⟨u8s zK,true,true,true,1⟩:Ob),⟨u8s Qaf,true,true,true,1⟩]:=⟨_,rfl⟩
 have lG0:G0.length=H.length+2:=by rw [hG0]; simp
 obtain ⟨st,hloop,G5,vo,rfl,r1,r2,r3,r4⟩:=Yg (T:=T) (base:=H.length) (id:=2) (body:=R9)
  (fun k st=>∃ G vo,st=tgI H.length (.slice (some ⟨pid,0,none⟩) n c) vo n k G []∧H.length<G.length∧(∀ i,i≤H.length→i<H.length→G[i]?=H[i]?)∧G[H.length]?=some ⟨u8s zK,true,true,true,1⟩∧AllS H.length G vo (tgA L k))
  (Q:=fun st=>∃ G vo,st=tgI H.length (.slice (some ⟨pid,0,none⟩) n c) vo n n G [(25,.bool false)]∧H.length<G.length∧(∀ i,i≤H.length→i<H.length→G[i]?=H[i]?)∧G[H.length]?=some ⟨u8s zK,true,true,true,1⟩∧AllS H.length G vo (tgA L n))
  n (s:=tgI H.length (.slice (some ⟨pid,0,none⟩) n c) (.slice (some ⟨H.length+1,0,none⟩) 32 32) n 0 G0 [])
  ⟨G0,_,rfl,by omega,fun i _ hi=>by rw [hG0,Qc hi],by rw [hG0,Qr (Zf _),Jc]; rfl,
   .inl ⟨_,by omega,rfl,Q9,by rw [hG0,Qr (by omega),Z0]; rfl⟩⟩
  (fun k st hk hst=>by
   obtain ⟨G,v,rfl,a1,a2,a3,a4⟩:=hst
   obtain ⟨P,hP'⟩:∃ P,L[k]?=some P:=⟨_,Q3 (by omega)⟩
   obtain ⟨G',v',b0,b1,b2,b3,b4⟩:=Qs4 (c:=c) hP hL hn hP' (by omega) (hne P (Zp hP')) a1 a2 a3 a4
   exact ⟨_,b0,G',v',rfl,b1,b2,b3,b4⟩)
  (fun st hst=>by
   obtain ⟨G,v,rfl,a1,a2,a3,a4⟩:=hst
   refine ⟨_,?_,G,v,rfl,a1,a2,a3,a4⟩
   simp only [tgI,R9,↓Zl,Z6,quiet,cF,↓pF,reduceCtorEq,Qd,Qq,Zn,Zi,Zm,Zh,Ze,Qf,Q0,Qg,Q2,Q8,Q7,↓Zo,↓Zk,↓Zq,↓Zt,↓Zr,↓Zs,cL,Qp,Qo,Qz,Qy,Qv,Qn,Qm,Qx,Qe,Q5,Q6,Qw,Qk,Qj,Qi,Qu,Qt,Qs,Ql,Qh,cJ])
 have lA:=Qml L n
 obtain ⟨l,kid,hk,k1,k2,k3⟩:=Q3z (vs := .slice none 0 0) (salt:=[]) (info:=Qxk) (c:=1) (H:=G5) ⟨⟨_,_,rfl⟩,fun _ _=>rfl,by simp,by decide⟩ (by decide) (r4.part (Qxs L n) (by omega)) (by omega) (by decide) (by decide) (by decide) (by decide)
 have hkl:Qls [] (tgA L n) Qxk 1=U9 L:=by rw [U9,hn]
 rw [hkl] at k2 k3
 have lT:(U9 L).length=32:=k3
 refine ⟨lT,?_⟩
 obtain ⟨l',hl'⟩:∃ l',(G5++l).set H.length ⟨u8s (U9 L),true,true,true,1⟩=H++l':=Ux (by simp; omega) fun i hi=>by
  rw [Z7 (by omega),Qc (by omega),r2 i (by omega) hi]
 refine ⟨l',?_⟩
 rw [hn]
 have hz:(G5++l)[H.length]?=some ⟨u8s zK,true,true,true,1⟩:=by rw [Qc r1]; exact r3
 have hz2:((G5++l).set H.length ⟨u8s (U9 L),true,true,true,1⟩)[H.length]?=some ⟨u8s (U9 L),true,true,true,1⟩:=by rw [Jl (by rw [Za]; omega)]
 rw [hl',Qr (Zf _),Jc] at hz2
 have lz:=Qab
 have sp:=Kt (cs:=u8s zK) (v:=u8s (U9 L)) (by rw [Zv,Zv,lT,lz])
 have hz32:Qa 32 (Value.int .u8 0)=u8s zK:=rfl
 have im1:Ja H.length [] [H.length]=[]:=Xv (by simp)
 have hs:U0 Qxk=.string (ByteArray.mk #[115,105,103,110,101,116,32,97,103,114,101,101]):=rfl
 rw [hs] at hk
 rw [show ((1:Nat):Int)=1 from rfl] at hk
 have F0:H++[(⟨u8s zK,true,true,true,1⟩:Ob),⟨u8s Qaf,true,true,true,1⟩]=G0:=hG0.symm
 simp only [tfI,tgI,Zg,Zc,F0,show ((0:Nat):Int)=0 from rfl] at hloop hf
 have hmk:(Qa 32 [Value.int .u8 0]).flatten=u8s (Qa 32 0):=rfl
 clear hG0 r1 r2 r3 r4 hP hL hne
 generalize U9 L=TL at *
 generalize zK=Z at *
 generalize Qaf=X255 at *
 generalize tgA L n=TA at *
 rw [Z5 (fn:=Q1k) rfl]
 simp only [Q1k,↓Zl,Z6,quiet,cF,↓pF,reduceCtorEq,Qd,Qq,Zn,Zi,Zm,Zh,Ze,Qf,Q0,Qg,Q2,Q8,Q7,↓Zo,↓Zk,↓Zq,↓Zt,↓Zr,↓Zs,cL,Qp,Qo,Qz,Qy,Qv,Qn,Qm,Qx,Qe,Q5,Q6,Qw,Qk,Qj,Qi,Qu,Qt,Qs,Ql,Qh,cJ,hz32,hmk,hf,hloop,hk,hz,hz2,k2,sp,im1,hl',lT,lz,Xo,Xe,Kb,Yb,Kc,Zv,Q9,V4]
end Go.Ev.Ytpgphpkjlpkcbaa
namespace Go.Ev.Ytpgphpkjlpkcbaa
open Go Go.Ev Go.Fp
set_option maxRecDepth 100000
def frc {α:Type} (n:Nat) (k:Nat→α):α:=match n with
 | 0=>k 0
 | m+1=>k (m+1)
theorem Qsb {α:Type} (n:Nat) (k:Nat→α):frc n k=k n:=by cases n<;>rfl
def stN (u X Z X' Z':Nat) (k:Nat→Nat→Nat→Nat→Bool):Bool :=
 frc ((X+Z)%P) fun s=>frc ((P-Z+X)%P) fun m=>frc (s*s%P) fun ss=>frc (m*m%P) fun mm=>frc ((P-mm+ss)%P) fun e =>
 frc ((P-Z'+X')%P*s%P) fun l=>frc ((X'+Z')%P*m%P) fun r=>frc ((l+r)%P) fun lr=>frc ((P-r+l)%P) fun lm =>
 frc (ss*mm%P) fun dx=>frc (e*((ss+121665*e%P)%P)%P) fun dz=>frc (lr*lr%P) fun ax=>frc (u*(lm*lm%P)%P) fun az=>k dx dz ax az
def lT (K u:Nat):Nat→Nat→Nat→Nat→Nat→(Nat→Nat→Bool)→Bool
 | 0,a,b,_,_,f=>f a b
 | n+1,a,b,c,d,f=>if K/2^n%2==1 then stN u c d a b fun dx dz ax az=>lT K u n ax az dx dz f else stN u a b c d fun dx dz ax az=>lT K u n dx dz ax az f
theorem Qxv (u X Z X' Z':Fe) (k:Nat→Nat→Nat→Nat→Bool):stN u.val X.val Z.val X'.val Z'.val k=k (dbX X Z).val (dbZ X Z).val (adX X Z X' Z').val (adZ u X Z X' Z').val:=by
 have hc:(121665:Fe).val=121665:=rfl
 simp only [stN,Qsb,dbX,dbZ,adX,adZ,adL,adR,Fin.val_mul,Fin.val_add,Fin.val_sub,hc]
theorem Q51 (K:Nat) (u:Fe) (f:Nat→Nat→Bool):∀ n m,m+n=255→lT K u.val n (Rn K u m).1.1.val (Rn K u m).1.2.val (Rn K u m).2.1.val (Rn K u m).2.2.val f=f (Rn K u 255).1.1.val (Rn K u 255).1.2.val
 | 0,m,h=>by obtain rfl:m=255:=h; rfl
 | n+1,m,h=>by
  have ih:=Q51 K u f n (m+1) (by omega)
  rw [←ih,lT,Qxv,Qxv,Rn,Qgd,show 254-m=n by omega]
  split<;>rfl
theorem M6 {k w:List Nat} {r:Nat} (h:(frc (num 256 (Gu k)) fun K=>frc (num 256 w%2^255%P) fun u=>lT K u 255 1 0 u 1 fun a b=>a==r*b%P&&b != 0)=true) (hr:r<P):V6 k w=dig 256 32 r:=by
 rw [Qsb,Qsb,show num 256 w%2^255%P=(uOf w).val from rfl] at h
 have h2:=Q51 (num 256 (Gu k)) (uOf w) (fun a b=>a==r*b%P&&b != 0) 255 0 rfl
 have h3:=h2.symm.trans h
 rw [Yk,beq_iff_eq,bne_iff_ne] at h3
 have e1:(Rn (num 256 (Gu k)) (uOf w) 255).1.1=fp r*(Rn (num 256 (Gu k)) (uOf w) 255).1.2:=Fin.ext (by rw [h3.1,Fin.val_mul,Mh,T6])
 have e2:(Rn (num 256 (Gu k)) (uOf w) 255).1.2≠0:=fun e=>h3.2 (by rw [e]; rfl)
 have e3:=Me e2
 have e4:lad (num 256 (Gu k)) (uOf w)=fp r:=by
  unfold lad
  rw [e1]
  generalize (Rn (num 256 (Gu k)) (uOf w) 255).1.2=Z at *
  generalize iv Z=I at *
  clear h h2 h3 e1 e2
  grobner
 rw [V6,e4,Mh,Jd hr]
def kE (n:Nat):List Nat:=dig 256 32 n
theorem pE_4:V6 (kE 4) Vm=kE 52573937849532372069814888178136277301931757964231753054399601207743438775599:=M6 (by decide +kernel) (by decide +kernel)
theorem pE_5:V6 (kE 5) Vm=kE 52573937849532372069814888178136277301931757964231753054399601207743438775599:=M6 (by decide +kernel) (by decide +kernel)
theorem pE_6:V6 (kE 6) Vm=kE 52573937849532372069814888178136277301931757964231753054399601207743438775599:=M6 (by decide +kernel) (by decide +kernel)
theorem aE_0:V6 (kE 2) (V6 (kE 5) Vm)=kE 47371584340190434397458396784519032097355506450803964851670834165077996928659:=by rw [pE_5]; exact M6 (by decide +kernel) (by decide +kernel)
theorem aE_1:V6 (kE 9) (V6 (kE 4) Vm)=kE 42370478205758932640776152869436718240747418584481667750212255313236040334817:=by rw [pE_4]; exact M6 (by decide +kernel) (by decide +kernel)
theorem aE_2:V6 (kE 9) (V6 (kE 5) Vm)=kE 42370478205758932640776152869436718240747418584481667750212255313236040334817:=by rw [pE_5]; exact M6 (by decide +kernel) (by decide +kernel)
theorem aE_3:V6 (kE 9) (V6 (kE 6) Vm)=kE 42370478205758932640776152869436718240747418584481667750212255313236040334817:=by rw [pE_6]; exact M6 (by decide +kernel) (by decide +kernel)
theorem togE:U9 [kE 2++V6 (kE 5) Vm,kE 9++V6 (kE 4) Vm,kE 9++V6 (kE 5) Vm,kE 9++V6 (kE 6) Vm]≠zK:=by
 have h1:∀ k w:List Nat,k.length=32→(k++w).take 32=k∧(k++w).drop 32=w:=fun k w h=>by rw [←h,Df,B8]; exact ⟨rfl,rfl⟩
 have l2:(kE 2).length=32:=rfl
 have l9:(kE 9).length=32:=rfl
 have e:tgA [kE 2++V6 (kE 5) Vm,kE 9++V6 (kE 4) Vm,kE 9++V6 (kE 5) Vm,kE 9++V6 (kE 6) Vm] 4=Qaf++kE 47371584340190434397458396784519032097355506450803964851670834165077996928659++kE 42370478205758932640776152869436718240747418584481667750212255313236040334817++kE 42370478205758932640776152869436718240747418584481667750212255313236040334817++kE 42370478205758932640776152869436718240747418584481667750212255313236040334817:=by
  simp only [tgA,T9,Qaa,h1 _ _ l2,h1 _ _ l9,aE_0,aE_1,aE_2,aE_3]
 show Qls [] (tgA _ 4) Qxk 1≠zK
 rw [e]
 decide +kernel
end Go.Ev.Ytpgphpkjlpkcbaa
namespace Go.Ev.Ytpgphpkjlpkcbaa
open Go Go.Ev
attribute [local congr] Wp W0 Wo W3 Wh
set_option maxRecDepth 100000
theorem Qwv {base id:Nat} {body:ACode} (I:Nat→St→Prop) {Q:St→Prop} (n:Nat) {s:St} (h0:I 0 s) (hs:∀ j s,j<n→I j s→∃ s',Jv T base body s=some (.normal,s')∧I (j+1) s') (hl:∀ s,I n s→∃ s',Jv T base body s=some (.ret,s')∧Q s') :
  ∃ s',Jv T base (.block id (.loop body)) s=some (.ret,s')∧Q s':=by
 obtain ⟨s',h1,h2⟩:=Qi5 (T:=T) (x := .ret) (by simp) n hs hl n 0 (by omega) s h0
 exact ⟨s',by rw [Jx,h1]; rfl,h2⟩
theorem Q6k {H G:List Ob} {pid n k c:Nat} {vo:Value} {L:List (List Nat)} {w e:Bool} {s:Nat} {P:List Nat} (hP:H[pid]?=some ⟨u8s L.flatten,true,w,e,s⟩) (hL:∀ x∈L,x.length=64∧∀ y∈x,y<256) (hn:L.length=n) (hk:L[k]?=some P) (hn9:n≤20)
  (hne:V6 (P.take 32) (P.drop 32)=zK) (hG:H.length<G.length) (hf:∀ i,i≤H.length→i<H.length→G[i]?=H[i]?) (hz:G[H.length]?=some ⟨u8s zK,true,true,true,1⟩) :
  ∃ G',Jv T H.length R9 (tgI H.length (.slice (some ⟨pid,0,none⟩) n c) vo n k G [])=some (.ret,⟨[(2,.pointer (some ⟨H.length,0,none⟩)),(3,.int .i64 50)],G',[]⟩)∧H.length<G'.length∧(∀ i,i≤H.length→i<H.length→G'[i]?=H[i]?)∧G'[H.length]?=some ⟨u8s zK,true,true,true,1⟩:=by
 have hkn:k<n:=by rw [←hn]; exact (Q1.1 hk).1
 have hpid:=(Q1.1 hP).1
 obtain ⟨lP,xP⟩:=hL P (Zp hk)
 obtain ⟨l1,x1⟩:=Qg4 lP xP
 obtain ⟨l2,x2⟩:=Dr lP xP
 obtain ⟨t1,t2⟩:=Qdw lP
 have hag:=Qpi l1 x1 l2 x2
 rw [if_pos (show V6 (P.take 32) (P.drop 32)=dig 256 32 0 from hne),show dig 256 32 0=zK from rfl] at hag
 have lR:=Bd (P.take 32) (P.drop 32)
 have hgd:L.getD k []=P:=by rw [Jh,hk]; rfl
 have hpg:∀ m:List Ob,(G++m)[pid]?=some ⟨u8s L.flatten,true,w,e,s⟩:=fun m=>by rw [Qc (by omega),hf pid (by omega) hpid]; exact hP
 have hpg0:=hpg []
 rw [Jj] at hpg0
 have hall:∀ (M:List (List Nat)),(∀ x∈M,x.length=64)→M.flatten.length=64*M.length:=by
  intro M hM
  induction M with
  | nil=>rfl
  | cons a M ih=>rw [J3,Za,ih (fun x hx=>hM x (Gm _ hx)),hM a (by simp),Zx]; omega
 have hfl:=hall L fun x hx=>(hL x hx).1
 have hpair:Kw 64 (Wc (k*64) (u8s L.flatten))=u8s P:=by
  have e1:L.flatten=(L.take k).flatten++(P++(L.drop (k+1)).flatten):=by
   rw [←J3,←Vh]
   congr 1
   have h1:=Q1.1 hk
   conv=>lhs; rw [←Yr k L,Yx h1.1,h1.2]
  have e2:(L.take k).flatten.length=k*64:=by
   rw [hall (L.take k) fun x hx=>(hL x (Kr hx)).1,Jy,Kx (by omega),Vt]
  rw [e1,Wg,Wg,←e2,←Zv,B8,←lP,←Zv P,Df]
 have hle:k*64+64≤(u8s L.flatten).length:=by rw [Zv,hfl,hn]; omega
 obtain ⟨G1,hG1⟩:∃ X,X=G++[(⟨u8s P,true,true,true,1⟩:Ob),⟨u8s zK,true,true,true,1⟩]:=⟨_,rfl⟩
 have lG1:G1.length=G.length+2:=by rw [hG1]; simp
 have u1:∀ i,i<G.length→G1[i]?=G[i]? := fun i hi=>by rw [hG1,Qc hi]
 have z1:G1[H.length]?=some ⟨u8s zK,true,true,true,1⟩:=by rw [u1 _ hG]; exact hz
 have s1:=Qcg z1
 have z2:G1[G.length+1]?=some ⟨u8s zK,true,true,true,1⟩:=by rw [hG1,Qr (by omega),Z0]; rfl
 have s2:=Qcg z2
 refine ⟨G1,?_,by omega,fun i _ hi=>by rw [u1 i (by omega),hf i (by omega) hi],z1⟩
 have hz64:=Gw
 have hz32:Qa 32 (Value.int .u8 0)=u8s zK:=rfl
 have lz64:(Qa 64 0).length=64:=Q9
 have lzk:=Qab
 have e1:((k:Int)<(n:Int))=True:=eq_true (by omega)
 have w3:IntKind.i64.wrap ((k:Int)+1)=((k+1:Nat):Int):=Ws (b:=1) (by omega)
 have b32:Y9 32 32 none none none=some (0,32,32):=rfl
 have im:Ja H.length [] [H.length]=[]:=Xv (by simp)
 have sp:=Kt (cs:=u8s zK) (v:=u8s zK) rfl
 have fz:fillL (u8s zK) []=some (u8s zK):=rfl
 have im1:Ja H.length [] [G.length]=[]:=Xv (by simp; omega)
 have im2:Ja H.length [] [G.length+1]=[]:=Xv (by simp; omega)
 have F1:G++[(⟨u8s P,true,true,true,1⟩:Ob),⟨u8s zK,true,true,true,1⟩]=G1:=hG1.symm
 have rt:∀ r:List Nat,rf (Value.tuple #[.agg (u8s r).toArray,.int .i64 50])=true:=fun r=>Dx (Qed r) rfl
 clear hG1 hP hf u1 hall hgd hL hne x1 x2
 generalize P.take 32=P1 at *
 generalize P.drop 32=P2 at *
 generalize u8s L.flatten=LF at *
 generalize Qa 64 0=Z64 at *
 generalize zK=Z at *
 generalize hk64:k*64=k64 at *
 generalize hk1:k+1=k1 at *
 simp only [tgI,R9,hk64,hk1,↓Zl,Z6,quiet,cF,↓pF,reduceCtorEq,Qd,Qq,Zn,Zi,Zm,Zh,Ze,Qf,Q0,Qg,Q2,Q8,Q7,↓Zo,↓Zk,↓Zq,↓Zt,↓Zr,↓Zs,cL,Qp,Qo,Qz,Qy,Qv,Qn,Qm,Qx,Qe,Q5,Q6,Qw,Qk,Qj,Qi,Qu,Qt,Qs,Ql,Qh,cJ,hz64,hz32,e1,w3,b32,hpg,hpg0,hpair,hle,t1,t2,hag,F1,z1,s1,z2,s2,sp,fz,im,im1,im2,rt,lP,l1,l2,lz64,lzk,Xo,Xe,Kb,Yb,Kc,Zv,Q9,V4]
theorem Qlz {Q:List Nat→Prop}:∀ (L:List (List Nat)),(¬ ∀ x∈L,Q x)→∃ (k:Nat) (P:List Nat),L[k]?=some P∧¬ Q P∧∀ (j:Nat),j<k→∀ (R:List Nat),L[j]?=some R→Q R
 | [],h=>absurd (by simp) h
 | a::L,h=>by
  by_cases ha:Q a
  ·obtain ⟨k,P,h1,h2,h3⟩:=Qlz L (fun hL=>h fun x hx=>(Yt.1 hx).elim (fun e=>e▸ha) (hL x))
   refine ⟨k+1,P,h1,h2,fun j hj R hR => ?_⟩
   cases j with
   | zero=>cases hR; exact ha
   | succ j=>exact h3 j (by omega) R hR
  ·exact ⟨0,a,rfl,ha,fun j hj=>absurd hj (Jq _)⟩
theorem Qmk {H:List Ob} {pid c:Nat} {L:List (List Nat)} {w e:Bool} {s:Nat} (hP:H[pid]?=some ⟨u8s L.flatten,true,w,e,s⟩) (hL:∀ x∈L,x.length=64∧∀ y∈x,y<256) (hn9:L.length≤20)
  (hne:¬ ∀ x∈L,V6 (x.take 32) (x.drop 32)≠zK) :
  ∃ l,Vv T 18 [.slice (some ⟨pid,0,none⟩) L.length c] H=some (.tuple #[.agg (u8s zK).toArray,.int .i64 50],H++l,[]):=by
 obtain ⟨k,P,hk,hP0,hbef⟩:=Qlz L hne
 have hP0:V6 (P.take 32) (P.drop 32)=zK:=Classical.not_not.1 hP0
 have hkL:=(Q1.1 hk).1
 obtain ⟨n,hn⟩:∃ n,L.length=n:=⟨_,rfl⟩
 have hf:=Qn6 (H:=H) (pv := .slice (some ⟨pid,0,none⟩) n c)
 obtain ⟨G0,hG0⟩:∃ X,X=H++[(⟨u8s zK,true,true,true,1⟩:Ob),⟨u8s Qaf,true,true,true,1⟩]:=⟨_,rfl⟩
 have lG0:G0.length=H.length+2:=by rw [hG0]; simp
 obtain ⟨st,hloop,G5,rfl,r1,r2,r3⟩:=Qwv (base:=H.length) (id:=2) (body:=R9)
  (fun k st=>∃ G vo,st=tgI H.length (.slice (some ⟨pid,0,none⟩) n c) vo n k G []∧H.length<G.length∧(∀ i,i≤H.length→i<H.length→G[i]?=H[i]?)∧G[H.length]?=some ⟨u8s zK,true,true,true,1⟩∧AllS H.length G vo (tgA L k))
  (Q:=fun st=>∃ G,st=⟨[(2,.pointer (some ⟨H.length,0,none⟩)),(3,.int .i64 50)],G,[]⟩∧H.length<G.length∧(∀ i,i≤H.length→i<H.length→G[i]?=H[i]?)∧G[H.length]?=some ⟨u8s zK,true,true,true,1⟩)
  k (s:=tgI H.length (.slice (some ⟨pid,0,none⟩) n c) (.slice (some ⟨H.length+1,0,none⟩) 32 32) n 0 G0 [])
  ⟨G0,_,rfl,by omega,fun i _ hi=>by rw [hG0,Qc hi],by rw [hG0,Qr (Zf _),Jc]; rfl,
   .inl ⟨_,by omega,rfl,Q9,by rw [hG0,Qr (by omega),Z0]; rfl⟩⟩
  (fun j st hj hst=>by
   obtain ⟨G,v,rfl,a1,a2,a3,a4⟩:=hst
   obtain ⟨R,hR⟩:∃ P,L[j]?=some P:=⟨_,Q3 (by omega)⟩
   obtain ⟨G',v',b0,b1,b2,b3,b4⟩:=Qs4 (c:=c) hP hL hn hR (by omega) (hbef j hj R hR) a1 a2 a3 a4
   exact ⟨_,b0,G',v',rfl,b1,b2,b3,b4⟩)
  (fun st hst=>by
   obtain ⟨G,v,rfl,a1,a2,a3,a4⟩:=hst
   obtain ⟨G',b0,b1,b2,b3⟩:=Q6k (c:=c) (vo:=v) hP hL hn hk (by omega) hP0 a1 a2 a3
   exact ⟨_,b0,G',rfl,b1,b2,b3⟩)
 obtain ⟨l',hl'⟩:∃ l',G5=H++l':=Ux (by omega) fun i hi=>r2 i (by omega) hi
 refine ⟨l',?_⟩
 rw [hn]
 have hz2:=r3
 rw [hl',Qr (Zf _),Jc] at hz2
 have lz:=Qab
 have hz32:Qa 32 (Value.int .u8 0)=u8s zK:=rfl
 have F0:H++[(⟨u8s zK,true,true,true,1⟩:Ob),⟨u8s Qaf,true,true,true,1⟩]=G0:=hG0.symm
 simp only [tfI,tgI,Zg,Zc,F0,show ((0:Nat):Int)=0 from rfl] at hloop hf
 have hmk:(Qa 32 [Value.int .u8 0]).flatten=u8s (Qa 32 0):=rfl
 rw [hl'] at hloop
 clear hG0 r1 r2 r3 hP hL hne hbef hP0 hk hl'
 generalize zK=Z at *
 generalize Qaf=X255 at *
 rw [Z5 (fn:=Q1k) rfl]
 simp only [Q1k,↓Zl,Z6,quiet,cF,↓pF,reduceCtorEq,Qd,Qq,Zn,Zi,Zm,Zh,Ze,Qf,Q0,Qg,Q2,Q8,Q7,↓Zo,↓Zk,↓Zq,↓Zt,↓Zr,↓Zs,cL,Qp,Qo,Qz,Qy,Qv,Qn,Qm,Qx,Qe,Q5,Q6,Qw,Qk,Qj,Qi,Qu,Qt,Qs,Ql,Qh,cJ,hz32,hmk,hf,hloop,hz2,lz,Xo,Xe,Kb,Yb,Kc,Zv,Q9,V4]
theorem Mi {H:List Ob} {pid c:Nat} {L:List (List Nat)} {w e:Bool} {s:Nat} (hP:H[pid]?=some ⟨u8s L.flatten,true,w,e,s⟩) (hL:∀ x∈L,x.length=64∧∀ y∈x,y<256) (hn9:L.length≤20) :
  ∃ TL E l,TL.length=32∧Vv T 18 [.slice (some ⟨pid,0,none⟩) L.length c] H=some (.tuple #[.agg (u8s TL).toArray,.int .i64 E],H++l,[])∧(((∀ x∈L,V6 (x.take 32) (x.drop 32)≠zK)∧TL=U9 L∧E=0)∨((¬ ∀ x∈L,V6 (x.take 32) (x.drop 32)≠zK)∧TL=zK∧E=50)):=by
 by_cases h:∀ x∈L,V6 (x.take 32) (x.drop 32)≠zK
 ·obtain ⟨lT,l,ht⟩:=Qn3 (c:=c) hP hL hn9 h
  exact ⟨_,_,l,lT,ht,.inl ⟨h,rfl,rfl⟩⟩
 ·obtain ⟨l,ht⟩:=Qmk (c:=c) hP hL hn9 h
  exact ⟨_,_,l,rfl,ht,.inr ⟨h,rfl,rfl⟩⟩
theorem Gs {C:List Value} {o n:Nat} {v:Value} {r:List (Nat×Nat×Value)} (h1:v.cells.size=n) (h2:o+n≤C.length) (h3:okVar v=true):fillL C ((o,n,v)::r)=fillL (splice C o v.cells.toList) r:=by
 conv=>lhs; unfold fillL
 rw [if_pos ⟨h1,h2,h3⟩]
theorem D8 {l:List Nat} {n:Nat} (h:l.length=n):(Value.agg (u8s l).toArray).cells.size=n:=by show (u8s l).length=n; rw [Zv,h]
theorem Qsc {w p o g:List Nat} {i j:Nat} (h:OffL w p o g):fillL Ys [(0,64,.agg (u8s w).toArray),(64,32,.agg (u8s p).toArray),(96,32,.agg (u8s o).toArray),(128,1,.int .u32 (i:Nat)),(129,1,.int .u32 (j:Nat)),(130,64,.agg (u8s g).toArray)]=some (Y3 w p o i j g):=by
 have K0:OffL (Qa 64 0) (Qa 32 0) (Qa 32 0) (Qa 64 0):=⟨by simp,by simp,by simp,by simp⟩
 have K1:OffL w (Qa 32 0) (Qa 32 0) (Qa 64 0):=⟨h.lw,K0.lp,K0.lo,K0.lg⟩
 have K2:OffL w p (Qa 32 0) (Qa 64 0):=⟨h.lw,h.lp,K0.lo,K0.lg⟩
 have K3:OffL w p o (Qa 64 0):=⟨h.lw,h.lp,h.lo,K0.lg⟩
 have ct:∀ l:List Nat,(Value.agg (u8s l).toArray).cells.toList=u8s l:=fun _=>rfl
 have ci:∀ n:Int,(Value.int .u32 n).cells.toList=[.int .u32 n]:=fun _=>rfl
 rw [Ds,Gs (D8 h.lw) (by rw [Up K0]; decide) rfl,ct,Qgz K0 h.lw,
  Gs (D8 h.lp) (by rw [Up K1]; decide) rfl,ct,Qg1 K1 h.lp,
  Gs (D8 h.lo) (by rw [Up K2]; decide) rfl,ct,Qel K2 h.lo,
  Gs (n:=1) rfl (by rw [Up K3]; decide) rfl,ci,Qli K3,
  Gs (n:=1) rfl (by rw [Up K3]; decide) rfl,ci,Qlh K3,
  Gs (D8 h.lg) (by rw [Up K3]; decide) rfl,ct,Qg0 K3 h.lg]
 rfl
theorem Qqn {H:List Ob} {a b:Nat} {fa fb:List Nat} (ha:H[a]?=some ⟨u8s fa,true,true,true,1⟩) (hb:H[b]?=some ⟨u8s fb,true,true,true,1⟩) (la:fa.length=192) (lb:fb.length=64) :
  Yz 64 64 H (.slice (some ⟨a,0,none⟩) 3 3) (.slice (some ⟨b,0,none⟩) 1 1)=some (.slice (some ⟨H.length,0,none⟩) 4 4,H++[⟨u8s (fa++fb),true,true,false,64⟩],none,[]):=by
 have h4:liveAt H a=some ⟨u8s fa,true,true,true,1⟩:=Vj ha rfl
 have k2:elemsOf H 64 1 (.slice (some ⟨b,0,none⟩) 1 1)=some (u8s fb):=by
  simp [elemsOf,Vj hb rfl,Zv,lb]
  exact Zj (by rw [Zv,lb]; exact Zf _)
 have h8:elemsOf H 64 3 (.slice (some ⟨a,0,none⟩) 3 3)=some (u8s fa):=by
  simp [elemsOf,h4,Zv,la]
  exact Zj (by rw [Zv,la]; exact Zf _)
 have h0:Go.Ev.lenV (.slice (some ⟨b,0,none⟩) 1 1)=some 1:=rfl
 have h1:¬ (1:Nat)=0:=by decide
 have h2:(3+1)*64≤2^47∧0<64∧0<64:=by decide
 have h3:¬ (3+1≤3):=by decide
 simp only [Yz,h0,k2,h8,h4,Q4,if_neg h1,h2,h3,and_self,not_true_eq_false,if_false,if_true,Ob.grown,Wg]
theorem Qje {a b c:List Nat} (la:a.length=64) (lb:b.length=64) (lc:c.length=64):fillL (Qa 192 (Value.int .u8 0)) [(0,64,.agg (u8s a).toArray),(64,64,.agg (u8s b).toArray),(128,64,.agg (u8s c).toArray)]=some (u8s (a++(b++c))):=by
 have hz:Qa 192 (Value.int .u8 0)=u8s (Qa 64 0++(Qa 64 0++Qa 64 0)):=rfl
 have l64:(Qa 64 0).length=64:=Q9
 have sz:∀ {x y z:List Nat},x.length=64→y.length=64→z.length=64→(u8s (x++(y++z))).length=192:=fun hx hy hz=>by rw [Zv,Za,Za,hx,hy,hz]
 have s1:splice (u8s (Qa 64 0++(Qa 64 0++Qa 64 0))) 0 (u8s a)=u8s (a++(Qa 64 0++Qa 64 0)):=by
  rw [Wg (Qa 64 0),Mo (by rw [Zv,Zv,la,l64]),←Wg]
 have s2:splice (u8s (a++(Qa 64 0++Qa 64 0))) 64 (u8s b)=u8s (a++(b++Qa 64 0)):=by
  have:=Gq (a:=u8s a) (b:=u8s (Qa 64 0++Qa 64 0)) (v:=u8s b) (n:=64) (k:=0) (by rw [Zv,la]) (by simp [Zv,lb])
  rw [Wg,this,Wg,Mo (by rw [Zv,Zv,lb,l64]),Wg,Wg]
 have s3:splice (u8s (a++(b++Qa 64 0))) 128 (u8s c)=u8s (a++(b++c)):=by
  have:=Gq (a:=u8s (a++b)) (b:=u8s (Qa 64 0)) (v:=u8s c) (n:=128) (k:=0) (by rw [Zv,Za,la,lb]) (by simp [Zv,lc])
  rw [←Zw,Wg,this,Kt (by rw [Zv,Zv,lc,l64]),←Wg,Zw]
 rw [hz]
 unfold fillL
 rw [if_pos ⟨by show (u8s a).length=64; rw [Zv,la],by rw [sz l64 l64 l64]; decide,rfl⟩,show (Value.agg (u8s a).toArray).cells.toList=u8s a from rfl,s1]
 unfold fillL
 rw [if_pos ⟨by show (u8s b).length=64; rw [Zv,lb],by rw [sz la l64 l64]; decide,rfl⟩,show (Value.agg (u8s b).toArray).cells.toList=u8s b from rfl,s2]
 unfold fillL
 rw [if_pos ⟨by show (u8s c).length=64; rw [Zv,lc],by rw [sz la lb l64]; decide,rfl⟩,show (Value.agg (u8s c).toArray).cells.toList=u8s c from rfl,s3]
 rfl
theorem len3 {a b c:List Nat} (la:a.length=64) (lb:b.length=64) (lc:c.length=64):(a++(b++c)).length=192:=by rw [Za,Za,la,lb,lc]
theorem Qjf {a:List Nat} (la:a.length=64):fillL (Qa 64 (Value.int .u8 0)) [(0,64,.agg (u8s a).toArray)]=some (u8s a):=by
 unfold fillL
 rw [if_pos ⟨by show (u8s a).length=64; rw [Zv,la],by rw [Q9]; decide,rfl⟩,show (Value.agg (u8s a).toArray).cells.toList=u8s a from rfl,Kt (by rw [Zv,la,Q9])]
 rfl
theorem Q3t {α:Type} {Q:α→Prop} {a b c:α} (ha:Q a) (hb:Q b) (hc:Q c):∀ x∈[a,b,c],Q x:=by
 intro x hx; simp only [Yt,Wb,or_false] at hx
 rcases hx with rfl | rfl | rfl<;>assumption
theorem Qzt {α:Type} {Q:α→Prop} {a b c d:α} (ha:Q a) (hb:Q b) (hc:Q c) (hd:Q d):∀ x∈[a,b,c,d],Q x:=by
 intro x hx; simp only [Yt,Wb,or_false] at hx
 rcases hx with rfl | rfl | rfl | rfl<;>assumption
def prB (P F w p o:List Nat):List (List Nat):=[P.drop 32++p,F++w.drop 32,F++p]++if o=zK then [] else [F++o]
theorem Hs {a b:List Nat} (la:a.length=32) (xa:∀ y∈a,y<256) (lb:b.length=32) (xb:∀ y∈b,y<256):(a++b).length=64∧∀ y∈a++b,y<256 :=
 ⟨by rw [Za,la,lb],fun y hy=>(Kv.1 hy).elim (xa y) (xb y)⟩
theorem Qwx {P F w p o g:List Nat} {i j:Nat} (lP:P.length=64) (xP:∀ y∈P,y<256) (lF:F.length=32) (xF:∀ y∈F,y<256) (h:OffL w p o g) (xw:∀ y∈w,y<256) (xp:∀ y∈p,y<256) (xo:∀ y∈o,y<256)
  (hc:Vw T 11 [.agg (Y3 w p o i j g).toArray]=some (.int .i64 0)) :
  ∃ S E,Vw T 7 [.agg (u8s P).toArray,.agg (u8s F).toArray,.agg (Y3 w p o i j g).toArray]=some (.tuple #[.agg (u8s S).toArray,.int .i64 E])∧S.length=64∧(((∀ x∈prB P F w p o,V6 (x.take 32) (x.drop 32)≠zK)∧S=U9 (prB P F w p o)++bdL (pbL P) w∧E=0)∨((¬ ∀ x∈prB P F w p o,V6 (x.take 32) (x.drop 32)≠zK)∧S=Qa 64 0∧E=50)):=by
 obtain ⟨la,xa⟩:=Dr lP xP
 obtain ⟨t1,t2⟩:=Qdw lP
 obtain ⟨lw2,xw2⟩:=Dr h.lw xw
 have lp:=h.lp
 have lo:=h.lo
 have lw:=h.lw
 have n0:=Up (i:=i) (j:=j) h
 have r1:=Qzi (i:=i) (j:=j) h
 have r2:=Qam (i:=i) (j:=j) h
 have r3:=Qem (i:=i) (j:=j) h
 have r4:=Qlj (i:=i) (j:=j) h
 have tw:Kw 194 (Y3 w p o i j g)=Y3 w p o i j g:=Zj (by rw [n0]; decide)
 have hz:Qa 32 (Value.int .u8 0)=u8s zK:=rfl
 have hz64:=Gw
 have lz64:(Qa 64 0).length=64:=Q9
 have fz:fillL (u8s zK) []=some (u8s zK):=rfl
 have lz:=Qab
 have hq:=Qbe (k:=o) (l:=zK) lo rfl
 have q1:=U6 la lp
 have q2:=U6 lF lw2
 have q3:=U6 lF lp
 have q4:=U6 lF lo
 obtain ⟨m1,y1⟩:=Hs la xa lp xp
 obtain ⟨m2,y2⟩:=Hs lF xF lw2 xw2
 obtain ⟨m3,y3⟩:=Hs lF xF lp xp
 obtain ⟨m4,y4⟩:=Hs lF xF lo xo
 have q5:=Qje m1 m2 m3
 have q6:=Qjf m4
 have hper:=Qeh lP xP
 have lpb:=Qak P
 have hbd:=Qt7 lpb (Qis P) lw xw
 have lbd:=Qhx (pbL P) w
 have ok1:∀ L:List Value,(Value.agg L.toArray).cells.toList=L:=fun _=>rfl
 have ok2:∀ L:List Value,(Value.agg L.toArray).cells.size=L.length:=fun _=>rfl
 have ok3:∀ L:List Value,okVar (Value.agg L.toArray)=true:=fun _=>rfl
 have rfo:rf (.agg (Y3 w p o i j g).toArray)=true:=Qmq _ _ _ _ _ _
 have im:∀ k,Ja 0 [] [k]=[]:=fun k=>Xv (by simp)
 rw [Gw] at q6
 by_cases ho:o=zK
 ·have hb:(!(o==zK))=false:=by rw [ho]; simp
  rw [hb] at hq
  have hL:prB P F w p o=[P.drop 32++p,F++w.drop 32,F++p]:=by rw [prB,if_pos ho]; rfl
  rw [hL]
  obtain ⟨G,hG⟩:∃ X,X=[(⟨u8s P,true,true,true,1⟩:Ob),⟨u8s F,true,true,true,1⟩,⟨Y3 w p o i j g,true,true,true,1⟩,⟨u8s (Qa 64 0),true,true,true,1⟩,⟨u8s (P.drop 32++p++(F++w.drop 32++(F++p))),true,true,true,1⟩]:=⟨_,rfl⟩
  have hpl:G[4]?=some ⟨u8s [P.drop 32++p,F++w.drop 32,F++p].flatten,true,true,true,1⟩:=by rw [hG]; simp
  obtain ⟨TT,E,l,lT,ht,hd⟩:=Mi (c:=3) hpl (Q3t ⟨m1,y1⟩ ⟨m2,y2⟩ ⟨m3,y3⟩) (by show 3≤20; decide)
  obtain ⟨G5,hG5⟩:∃ X,X=G++l:=⟨_,rfl⟩
  rw [←hG5,hG,show [P.drop 32++p,F++w.drop 32,F++p].length=3 from rfl] at ht
  have lG5:5≤G5.length:=by rw [hG5,hG,Za]; simp
  have g0:∀ m,(G5++m)[0]?=some ⟨u8s P,true,true,true,1⟩:=fun m=>by rw [hG5,hG]; rfl
  have g2:∀ m,(G5++m)[2]?=some ⟨Y3 w p o i j g,true,true,true,1⟩:=fun m=>by rw [hG5,hG]; rfl
  have g3:∀ m,(G5++m)[3]?=some ⟨u8s (Qa 64 0),true,true,true,1⟩:=fun m=>by rw [hG5,hG]; rfl
  have g5:∀ m x,((G5++m).set 3 x)[3]?=some x:=fun m x=>Jl (by rw [Za]; omega)
  rcases hd with ⟨hg,rfl,rfl⟩ | ⟨hg,rfl,rfl⟩
  ·have hfin:=U6 lT lbd
   have lfin:(U9 [P.drop 32++p,F++w.drop 32,F++p]++bdL (pbL P) w).length=64:=by rw [Za,lT,lbd]
   have sp:=Kt (cs:=u8s (Qa 64 0)) (v:=u8s (U9 [P.drop 32++p,F++w.drop 32,F++p]++bdL (pbL P) w)) (by rw [Zv,Zv,lz64,lfin])
   have spT:=Kt (cs:=u8s zK) (v:=u8s (U9 [P.drop 32++p,F++w.drop 32,F++p])) (by rw [Zv,Zv,lz,lT])
   refine ⟨U9 [P.drop 32++p,F++w.drop 32,F++p]++bdL (pbL P) w,0,?_,lfin,.inl ⟨hg,rfl,rfl⟩⟩
   clear hg
   clear hG hG5 hpl hL ho hb h xP xF xw xp xo y1 y2 y3 y4 xa xw2
   generalize U9 [P.drop 32++p,F++w.drop 32,F++p]++bdL (pbL P) w=FIN at *
   generalize U9 [P.drop 32++p,F++w.drop 32,F++p]=TL at *
   generalize P.drop 32++p++(F++w.drop 32++(F++p))=L3 at *
   generalize bdL (pbL P) w=BD at *
   generalize pbL P=PB at *
   generalize Y3 w p o i j g=O at *
   generalize P.drop 32++p=a1 at *
   generalize F++w.drop 32=a2 at *
   generalize F++p=a3 at *
   generalize P.drop 32=Pa at *
   generalize w.drop 32=wa at *
   generalize zK=Z at *
   generalize Qa 64 0=Z64 at *
   apply Ks
   apply Z4
   rw [Z5 (fn:=Qnm) rfl]
   simp only [Qnm,↓Zl,Z6,quiet,cF,↓pF,reduceCtorEq,Qd,Qq,Zn,Zi,Zm,Zh,Ze,Qf,Q0,Qg,Q2,Q8,Q7,↓Zo,↓Zk,↓Zq,↓Zt,↓Zr,↓Zs,cL,Qp,Qo,Qz,Qy,Qv,Qn,Qm,Qx,Qe,Q5,Q6,Qw,Qk,Qj,Qi,Qu,Qt,Qs,Ql,Qh,cJ,hz,hz64,fz,hc,n0,r1,r2,r3,r4,tw,t1,t2,q1,q2,q3,q5,hq,ht,g0,g2,g3,g5,hper,hbd,hfin,sp,spT,im,lP,la,lF,lw,lw2,lp,lo,lz,lz64,lT,lfin,lpb,lbd,m1,m2,m3,ok1,ok2,ok3,rfo,Xo,Xe,Kb,Yb,Kc,Zv,Q9,V4]
   rfl
  ·have lfin:(Qa 64 0).length=64:=lz64
   have sp:=Kt (cs:=u8s (Qa 64 0)) (v:=u8s (Qa 64 0)) rfl
   have spT:=Kt (cs:=u8s zK) (v:=u8s zK) rfl
   have fz64:fillL (u8s (Qa 64 0)) []=some (u8s (Qa 64 0)):=rfl
   refine ⟨Qa 64 0,50,?_,lz64,.inr ⟨hg,rfl,rfl⟩⟩
   clear hg
   clear hG hG5 hpl hL ho hb h xP xF xw xp xo y1 y2 y3 y4 xa xw2
   generalize P.drop 32++p++(F++w.drop 32++(F++p))=L3 at *
   generalize bdL (pbL P) w=BD at *
   generalize pbL P=PB at *
   generalize Y3 w p o i j g=O at *
   generalize P.drop 32++p=a1 at *
   generalize F++w.drop 32=a2 at *
   generalize F++p=a3 at *
   generalize P.drop 32=Pa at *
   generalize w.drop 32=wa at *
   generalize zK=Z at *
   generalize Qa 64 0=Z64 at *
   apply Ks
   apply Z4
   rw [Z5 (fn:=Qnm) rfl]
   simp only [Qnm,↓Zl,Z6,quiet,cF,↓pF,reduceCtorEq,Qd,Qq,Zn,Zi,Zm,Zh,Ze,Qf,Q0,Qg,Q2,Q8,Q7,↓Zo,↓Zk,↓Zq,↓Zt,↓Zr,↓Zs,cL,Qp,Qo,Qz,Qy,Qv,Qn,Qm,Qx,Qe,Q5,Q6,Qw,Qk,Qj,Qi,Qu,Qt,Qs,Ql,Qh,cJ,hz,hz64,fz,hc,n0,r1,r2,r3,r4,tw,t1,t2,q1,q2,q3,q5,hq,ht,g0,g2,g3,g5,fz64,sp,spT,im,lP,la,lF,lw,lw2,lp,lo,lz,lz64,lfin,lpb,lbd,m1,m2,m3,ok1,ok2,ok3,rfo,Xo,Xe,Kb,Yb,Kc,Zv,Q9,V4]
   rfl
 ·have hb:(!(o==zK))=true:=by simpa using ho
  rw [hb] at hq
  have hL:prB P F w p o=[P.drop 32++p,F++w.drop 32,F++p,F++o]:=by rw [prB,if_neg ho]; rfl
  rw [hL]
  obtain ⟨G0,hG0⟩:∃ X,X=[(⟨u8s P,true,true,true,1⟩:Ob),⟨u8s F,true,true,true,1⟩,⟨Y3 w p o i j g,true,true,true,1⟩,⟨u8s (Qa 64 0),true,true,true,1⟩,⟨u8s (P.drop 32++p++(F++w.drop 32++(F++p))),true,true,true,1⟩,⟨u8s (F++o),true,true,true,1⟩]:=⟨_,rfl⟩
  have hap:=Qqn (H:=G0) (a:=4) (b:=5) (by rw [hG0]; rfl) (by rw [hG0]; rfl) (len3 m1 m2 m3) m4
  obtain ⟨G,hG⟩:∃ X,X=G0++[(⟨u8s (P.drop 32++p++(F++w.drop 32++(F++p))++(F++o)),true,true,false,64⟩:Ob)]:=⟨_,rfl⟩
  rw [←hG,hG0] at hap
  simp only [Zx,Z3,Zz] at hap
  have hpl:G[6]?=some ⟨u8s [P.drop 32++p,F++w.drop 32,F++p,F++o].flatten,true,true,false,64⟩:=by rw [hG,hG0]; simp
  obtain ⟨TT,E,l,lT,ht,hd⟩:=Mi (c:=4) hpl (Qzt ⟨m1,y1⟩ ⟨m2,y2⟩ ⟨m3,y3⟩ ⟨m4,y4⟩) (by show 4≤20; decide)
  obtain ⟨G5,hG5⟩:∃ X,X=G++l:=⟨_,rfl⟩
  rw [←hG5,show [P.drop 32++p,F++w.drop 32,F++p,F++o].length=4 from rfl] at ht
  have lG5:5≤G5.length:=by rw [hG5,hG,hG0,Za]; simp; omega
  have g0:∀ m,(G5++m)[0]?=some ⟨u8s P,true,true,true,1⟩:=fun m=>by rw [hG5,hG,hG0]; rfl
  have g2:∀ m,(G5++m)[2]?=some ⟨Y3 w p o i j g,true,true,true,1⟩:=fun m=>by rw [hG5,hG,hG0]; rfl
  have g3:∀ m,(G5++m)[3]?=some ⟨u8s (Qa 64 0),true,true,true,1⟩:=fun m=>by rw [hG5,hG,hG0]; rfl
  have g5:∀ m x,((G5++m).set 3 x)[3]?=some x:=fun m x=>Jl (by rw [Za]; omega)
  rcases hd with ⟨hg,rfl,rfl⟩ | ⟨hg,rfl,rfl⟩
  ·have hfin:=U6 lT lbd
   have lfin:(U9 [P.drop 32++p,F++w.drop 32,F++p,F++o]++bdL (pbL P) w).length=64:=by rw [Za,lT,lbd]
   have sp:=Kt (cs:=u8s (Qa 64 0)) (v:=u8s (U9 [P.drop 32++p,F++w.drop 32,F++p,F++o]++bdL (pbL P) w)) (by rw [Zv,Zv,lz64,lfin])
   have spT:=Kt (cs:=u8s zK) (v:=u8s (U9 [P.drop 32++p,F++w.drop 32,F++p,F++o])) (by rw [Zv,Zv,lz,lT])
   refine ⟨U9 [P.drop 32++p,F++w.drop 32,F++p,F++o]++bdL (pbL P) w,0,?_,lfin,.inl ⟨hg,rfl,rfl⟩⟩
   clear hg
   clear hG hG0 hG5 hpl hL ho hb h xP xF xw xp xo y1 y2 y3 y4 xa xw2
   generalize U9 [P.drop 32++p,F++w.drop 32,F++p,F++o]++bdL (pbL P) w=FIN at *
   generalize U9 [P.drop 32++p,F++w.drop 32,F++p,F++o]=TL at *
   generalize P.drop 32++p++(F++w.drop 32++(F++p))=L3 at *
   generalize bdL (pbL P) w=BD at *
   generalize pbL P=PB at *
   generalize Y3 w p o i j g=O at *
   generalize P.drop 32++p=a1 at *
   generalize F++w.drop 32=a2 at *
   generalize F++p=a3 at *
   generalize F++o=a4 at *
   generalize P.drop 32=Pa at *
   generalize w.drop 32=wa at *
   generalize zK=Z at *
   generalize Qa 64 0=Z64 at *
   apply Ks
   apply Z4
   rw [Z5 (fn:=Qnm) rfl]
   simp only [Qnm,↓Zl,Z6,quiet,cF,↓pF,reduceCtorEq,Qd,Qq,Zn,Zi,Zm,Zh,Ze,Qf,Q0,Qg,Q2,Q8,Q7,↓Zo,↓Zk,↓Zq,↓Zt,↓Zr,↓Zs,cL,Qp,Qo,Qz,Qy,Qv,Qn,Qm,Qx,Qe,Q5,Q6,Qw,Qk,Qj,Qi,Qu,Qt,Qs,Ql,Qh,cJ,hz,hz64,fz,hc,n0,r1,r2,r3,r4,tw,t1,t2,q1,q2,q3,q4,q5,q6,hq,hap,ht,g0,g2,g3,g5,hper,hbd,hfin,sp,spT,im,lP,la,lF,lw,lw2,lp,lo,lz,lz64,lT,lfin,lpb,lbd,m1,m2,m3,m4,ok1,ok2,ok3,rfo,Xo,Xe,Kb,Yb,Kc,Zv,Q9,V4]
   rfl
  ·have lfin:(Qa 64 0).length=64:=lz64
   have sp:=Kt (cs:=u8s (Qa 64 0)) (v:=u8s (Qa 64 0)) rfl
   have spT:=Kt (cs:=u8s zK) (v:=u8s zK) rfl
   have fz64:fillL (u8s (Qa 64 0)) []=some (u8s (Qa 64 0)):=rfl
   refine ⟨Qa 64 0,50,?_,lz64,.inr ⟨hg,rfl,rfl⟩⟩
   clear hg
   clear hG hG0 hG5 hpl hL ho hb h xP xF xw xp xo y1 y2 y3 y4 xa xw2
   generalize P.drop 32++p++(F++w.drop 32++(F++p))=L3 at *
   generalize bdL (pbL P) w=BD at *
   generalize pbL P=PB at *
   generalize Y3 w p o i j g=O at *
   generalize P.drop 32++p=a1 at *
   generalize F++w.drop 32=a2 at *
   generalize F++p=a3 at *
   generalize F++o=a4 at *
   generalize P.drop 32=Pa at *
   generalize w.drop 32=wa at *
   generalize zK=Z at *
   generalize Qa 64 0=Z64 at *
   apply Ks
   apply Z4
   rw [Z5 (fn:=Qnm) rfl]
   simp only [Qnm,↓Zl,Z6,quiet,cF,↓pF,reduceCtorEq,Qd,Qq,Zn,Zi,Zm,Zh,Ze,Qf,Q0,Qg,Q2,Q8,Q7,↓Zo,↓Zk,↓Zq,↓Zt,↓Zr,↓Zs,cL,Qp,Qo,Qz,Qy,Qv,Qn,Qm,Qx,Qe,Q5,Q6,Qw,Qk,Qj,Qi,Qu,Qt,Qs,Ql,Qh,cJ,hz,hz64,fz,hc,n0,r1,r2,r3,r4,tw,t1,t2,q1,q2,q3,q4,q5,q6,hq,hap,ht,g0,g2,g3,g5,fz64,sp,spT,im,lP,la,lF,lw,lw2,lp,lo,lz,lz64,lfin,lpb,lbd,m1,m2,m3,m4,ok1,ok2,ok3,rfo,Xo,Xe,Kb,Yb,Kc,Zv,Q9,V4]
   rfl
theorem Q5g {P F w p o g:List Nat} {i j:Nat} (lP:P.length=64) (xP:∀ y∈P,y<256) (lF:F.length=32) (xF:∀ y∈F,y<256) (h:OffL w p o g) (xw:∀ y∈w,y<256) (xp:∀ y∈p,y<256) (xo:∀ y∈o,y<256)
  (hc:Vw T 11 [.agg (Y3 w p o i j g).toArray]=some (.int .i64 0)) (hne:∀ x∈prB P F w p o,V6 (x.take 32) (x.drop 32)≠zK) :
  Vw T 7 [.agg (u8s P).toArray,.agg (u8s F).toArray,.agg (Y3 w p o i j g).toArray]=some (.tuple #[.agg (u8s (U9 (prB P F w p o)++bdL (pbL P) w)).toArray,.int .i64 0]):=by
 obtain ⟨S,E,h1,-,⟨-,rfl,rfl⟩ | ⟨h2,-⟩⟩:=Qwx lP xP lF xF h xw xp xo hc
 ·exact h1
 ·exact absurd hne h2
def prA (P pre o W f:List Nat):List (List Nat):=[pre++W.drop 32,P.drop 32++f,pre++f]++if o=zK then [] else [o++f]
theorem Qst {P pre o W f:List Nat} (lP:P.length=64) (xP:∀ y∈P,y<256) (lr:pre.length=32) (xr:∀ y∈pre,y<256) (lo:o.length=32) (xo:∀ y∈o,y<256) (lw:W.length=64) (xw:∀ y∈W,y<256) (lf:f.length=32) (xf:∀ y∈f,y<256) :
  ∃ S E,Vw T 8 [.agg (u8s P).toArray,.agg (u8s pre).toArray,.agg (u8s o).toArray,.agg (u8s W).toArray,.agg (u8s f).toArray]=some (.tuple #[.agg (u8s S).toArray,.int .i64 E])∧S.length=64∧(((∀ x∈prA P pre o W f,V6 (x.take 32) (x.drop 32)≠zK)∧S=U9 (prA P pre o W f)++bdL W (pbL P)∧E=0)∨((¬ ∀ x∈prA P pre o W f,V6 (x.take 32) (x.drop 32)≠zK)∧S=Qa 64 0∧E=50)):=by
 obtain ⟨la,xa⟩:=Dr lP xP
 obtain ⟨t1,t2⟩:=Qdw lP
 obtain ⟨t3,t4⟩:=Qdw lw
 obtain ⟨lw2,xw2⟩:=Dr lw xw
 have hz:Qa 32 (Value.int .u8 0)=u8s zK:=rfl
 have hz64:=Gw
 have lz64:(Qa 64 0).length=64:=Q9
 have fz:fillL (u8s zK) []=some (u8s zK):=rfl
 have lz:=Qab
 have hq:=Qbe (k:=o) (l:=zK) lo rfl
 have q1:=U6 lr lw2
 have q2:=U6 la lf
 have q3:=U6 lr lf
 have q4:=U6 lo lf
 obtain ⟨m1,y1⟩:=Hs lr xr lw2 xw2
 obtain ⟨m2,y2⟩:=Hs la xa lf xf
 obtain ⟨m3,y3⟩:=Hs lr xr lf xf
 obtain ⟨m4,y4⟩:=Hs lo xo lf xf
 have q5:=Qje m1 m2 m3
 have q6:=Qjf m4
 have hper:=Qeh lP xP
 have lpb:=Qak P
 have hbd:=Qt7 lw xw lpb (Qis P)
 have lbd:=Qhx W (pbL P)
 have im:∀ k,Ja 0 [] [k]=[]:=fun k=>Xv (by simp)
 rw [Gw] at q6
 by_cases ho:o=zK
 ·have hb:(!(o==zK))=false:=by rw [ho]; simp
  rw [hb] at hq
  have hL:prA P pre o W f=[pre++W.drop 32,P.drop 32++f,pre++f]:=by rw [prA,if_pos ho]; rfl
  rw [hL]
  obtain ⟨G,hG⟩:∃ X,X=[(⟨u8s P,true,true,true,1⟩:Ob),⟨u8s pre,true,true,true,1⟩,⟨u8s o,true,true,true,1⟩,⟨u8s W,true,true,true,1⟩,⟨u8s f,true,true,true,1⟩,⟨u8s (Qa 64 0),true,true,true,1⟩,⟨u8s (pre++W.drop 32++(P.drop 32++f++(pre++f))),true,true,true,1⟩]:=⟨_,rfl⟩
  have hpl:G[6]?=some ⟨u8s [pre++W.drop 32,P.drop 32++f,pre++f].flatten,true,true,true,1⟩:=by rw [hG]; simp
  obtain ⟨TT,E,l,lT,ht,hd⟩:=Mi (c:=3) hpl (Q3t ⟨m1,y1⟩ ⟨m2,y2⟩ ⟨m3,y3⟩) (by show 3≤20; decide)
  obtain ⟨G5,hG5⟩:∃ X,X=G++l:=⟨_,rfl⟩
  rw [←hG5,hG,show [pre++W.drop 32,P.drop 32++f,pre++f].length=3 from rfl] at ht
  have lG5:6≤G5.length:=by rw [hG5,hG,Za]; simp; omega
  have g0:∀ m,(G5++m)[0]?=some ⟨u8s P,true,true,true,1⟩:=fun m=>by rw [hG5,hG]; rfl
  have g2:∀ m,(G5++m)[3]?=some ⟨u8s W,true,true,true,1⟩:=fun m=>by rw [hG5,hG]; rfl
  have g3:∀ m,(G5++m)[5]?=some ⟨u8s (Qa 64 0),true,true,true,1⟩:=fun m=>by rw [hG5,hG]; rfl
  have g5:∀ m x,((G5++m).set 5 x)[5]?=some x:=fun m x=>Jl (by rw [Za]; omega)
  rcases hd with ⟨hg,rfl,rfl⟩ | ⟨hg,rfl,rfl⟩
  ·have hfin:=U6 lT lbd
   have lfin:(U9 [pre++W.drop 32,P.drop 32++f,pre++f]++bdL W (pbL P)).length=64:=by rw [Za,lT,lbd]
   have sp:=Kt (cs:=u8s (Qa 64 0)) (v:=u8s (U9 [pre++W.drop 32,P.drop 32++f,pre++f]++bdL W (pbL P))) (by rw [Zv,Zv,lz64,lfin])
   have spT:=Kt (cs:=u8s zK) (v:=u8s (U9 [pre++W.drop 32,P.drop 32++f,pre++f])) (by rw [Zv,Zv,lz,lT])
   refine ⟨U9 [pre++W.drop 32,P.drop 32++f,pre++f]++bdL W (pbL P),0,?_,lfin,.inl ⟨hg,rfl,rfl⟩⟩
   clear hg
   clear hG hG5 hpl hL ho hb xP xw xr xo xf y1 y2 y3 y4 xa xw2
   generalize U9 [pre++W.drop 32,P.drop 32++f,pre++f]++bdL W (pbL P)=FIN at *
   generalize U9 [pre++W.drop 32,P.drop 32++f,pre++f]=TL at *
   generalize pre++W.drop 32++(P.drop 32++f++(pre++f))=L3 at *
   generalize bdL W (pbL P)=BD at *
   generalize pbL P=PB at *
   generalize pre++W.drop 32=a1 at *
   generalize P.drop 32++f=a2 at *
   generalize pre++f=a3 at *
   generalize P.drop 32=Pa at *
   generalize W.drop 32=wa at *
   generalize zK=Z at *
   generalize Qa 64 0=Z64 at *
   apply Ks
   apply Z4
   rw [Z5 (fn:=Qnl) rfl]
   simp only [Qnl,↓Zl,Z6,quiet,cF,↓pF,reduceCtorEq,Qd,Qq,Zn,Zi,Zm,Zh,Ze,Qf,Q0,Qg,Q2,Q8,Q7,↓Zo,↓Zk,↓Zq,↓Zt,↓Zr,↓Zs,cL,Qp,Qo,Qz,Qy,Qv,Qn,Qm,Qx,Qe,Q5,Q6,Qw,Qk,Qj,Qi,Qu,Qt,Qs,Ql,Qh,cJ,hz,hz64,fz,t2,t4,q1,q2,q3,q4,q5,q6,hq,ht,g0,g2,g3,g5,hper,hbd,hfin,sp,spT,im,lP,la,lr,lw,lw2,lf,lo,lz,lz64,lT,lfin,lpb,lbd,m1,m2,m3,m4,Xo,Xe,Kb,Yb,Kc,Zv,Q9,V4]
   rfl
  ·have lfin:(Qa 64 0).length=64:=lz64
   have sp:=Kt (cs:=u8s (Qa 64 0)) (v:=u8s (Qa 64 0)) rfl
   have spT:=Kt (cs:=u8s zK) (v:=u8s zK) rfl
   have fz64:fillL (u8s (Qa 64 0)) []=some (u8s (Qa 64 0)):=rfl
   refine ⟨Qa 64 0,50,?_,lz64,.inr ⟨hg,rfl,rfl⟩⟩
   clear hg
   clear hG hG5 hpl hL ho hb xP xw xr xo xf y1 y2 y3 y4 xa xw2
   generalize pre++W.drop 32++(P.drop 32++f++(pre++f))=L3 at *
   generalize bdL W (pbL P)=BD at *
   generalize pbL P=PB at *
   generalize pre++W.drop 32=a1 at *
   generalize P.drop 32++f=a2 at *
   generalize pre++f=a3 at *
   generalize P.drop 32=Pa at *
   generalize W.drop 32=wa at *
   generalize zK=Z at *
   generalize Qa 64 0=Z64 at *
   apply Ks
   apply Z4
   rw [Z5 (fn:=Qnl) rfl]
   simp only [Qnl,↓Zl,Z6,quiet,cF,↓pF,reduceCtorEq,Qd,Qq,Zn,Zi,Zm,Zh,Ze,Qf,Q0,Qg,Q2,Q8,Q7,↓Zo,↓Zk,↓Zq,↓Zt,↓Zr,↓Zs,cL,Qp,Qo,Qz,Qy,Qv,Qn,Qm,Qx,Qe,Q5,Q6,Qw,Qk,Qj,Qi,Qu,Qt,Qs,Ql,Qh,cJ,hz,hz64,fz,t2,t4,q1,q2,q3,q4,q5,q6,hq,ht,g0,g2,g3,g5,fz64,sp,spT,im,lP,la,lr,lw,lw2,lf,lo,lz,lz64,lfin,lpb,lbd,m1,m2,m3,m4,Xo,Xe,Kb,Yb,Kc,Zv,Q9,V4]
   rfl
 ·have hb:(!(o==zK))=true:=by simpa using ho
  rw [hb] at hq
  have hL:prA P pre o W f=[pre++W.drop 32,P.drop 32++f,pre++f,o++f]:=by rw [prA,if_neg ho]; rfl
  rw [hL]
  obtain ⟨G0,hG0⟩:∃ X,X=[(⟨u8s P,true,true,true,1⟩:Ob),⟨u8s pre,true,true,true,1⟩,⟨u8s o,true,true,true,1⟩,⟨u8s W,true,true,true,1⟩,⟨u8s f,true,true,true,1⟩,⟨u8s (Qa 64 0),true,true,true,1⟩,⟨u8s (pre++W.drop 32++(P.drop 32++f++(pre++f))),true,true,true,1⟩,⟨u8s (o++f),true,true,true,1⟩]:=⟨_,rfl⟩
  have hap:=Qqn (H:=G0) (a:=6) (b:=7) (by rw [hG0]; rfl) (by rw [hG0]; rfl) (len3 m1 m2 m3) m4
  obtain ⟨G,hG⟩:∃ X,X=G0++[(⟨u8s (pre++W.drop 32++(P.drop 32++f++(pre++f))++(o++f)),true,true,false,64⟩:Ob)]:=⟨_,rfl⟩
  rw [←hG,hG0] at hap
  simp only [Zx,Z3,Zz] at hap
  have hpl:G[8]?=some ⟨u8s [pre++W.drop 32,P.drop 32++f,pre++f,o++f].flatten,true,true,false,64⟩:=by rw [hG,hG0]; simp
  obtain ⟨TT,E,l,lT,ht,hd⟩:=Mi (c:=4) hpl (Qzt ⟨m1,y1⟩ ⟨m2,y2⟩ ⟨m3,y3⟩ ⟨m4,y4⟩) (by show 4≤20; decide)
  obtain ⟨G5,hG5⟩:∃ X,X=G++l:=⟨_,rfl⟩
  rw [←hG5,show [pre++W.drop 32,P.drop 32++f,pre++f,o++f].length=4 from rfl] at ht
  have lG5:6≤G5.length:=by rw [hG5,hG,hG0,Za]; simp; omega
  have g0:∀ m,(G5++m)[0]?=some ⟨u8s P,true,true,true,1⟩:=fun m=>by rw [hG5,hG,hG0]; rfl
  have g2:∀ m,(G5++m)[3]?=some ⟨u8s W,true,true,true,1⟩:=fun m=>by rw [hG5,hG,hG0]; rfl
  have g3:∀ m,(G5++m)[5]?=some ⟨u8s (Qa 64 0),true,true,true,1⟩:=fun m=>by rw [hG5,hG,hG0]; rfl
  have g5:∀ m x,((G5++m).set 5 x)[5]?=some x:=fun m x=>Jl (by rw [Za]; omega)
  rcases hd with ⟨hg,rfl,rfl⟩ | ⟨hg,rfl,rfl⟩
  ·have hfin:=U6 lT lbd
   have lfin:(U9 [pre++W.drop 32,P.drop 32++f,pre++f,o++f]++bdL W (pbL P)).length=64:=by rw [Za,lT,lbd]
   have sp:=Kt (cs:=u8s (Qa 64 0)) (v:=u8s (U9 [pre++W.drop 32,P.drop 32++f,pre++f,o++f]++bdL W (pbL P))) (by rw [Zv,Zv,lz64,lfin])
   have spT:=Kt (cs:=u8s zK) (v:=u8s (U9 [pre++W.drop 32,P.drop 32++f,pre++f,o++f])) (by rw [Zv,Zv,lz,lT])
   refine ⟨U9 [pre++W.drop 32,P.drop 32++f,pre++f,o++f]++bdL W (pbL P),0,?_,lfin,.inl ⟨hg,rfl,rfl⟩⟩
   clear hg
   clear hG hG0 hG5 hpl hL ho hb xP xw xr xo xf y1 y2 y3 y4 xa xw2
   generalize U9 [pre++W.drop 32,P.drop 32++f,pre++f,o++f]++bdL W (pbL P)=FIN at *
   generalize U9 [pre++W.drop 32,P.drop 32++f,pre++f,o++f]=TL at *
   generalize pre++W.drop 32++(P.drop 32++f++(pre++f))=L3 at *
   generalize bdL W (pbL P)=BD at *
   generalize pbL P=PB at *
   generalize pre++W.drop 32=a1 at *
   generalize P.drop 32++f=a2 at *
   generalize pre++f=a3 at *
   generalize o++f=a4 at *
   generalize P.drop 32=Pa at *
   generalize W.drop 32=wa at *
   generalize zK=Z at *
   generalize Qa 64 0=Z64 at *
   apply Ks
   apply Z4
   rw [Z5 (fn:=Qnl) rfl]
   simp only [Qnl,↓Zl,Z6,quiet,cF,↓pF,reduceCtorEq,Qd,Qq,Zn,Zi,Zm,Zh,Ze,Qf,Q0,Qg,Q2,Q8,Q7,↓Zo,↓Zk,↓Zq,↓Zt,↓Zr,↓Zs,cL,Qp,Qo,Qz,Qy,Qv,Qn,Qm,Qx,Qe,Q5,Q6,Qw,Qk,Qj,Qi,Qu,Qt,Qs,Ql,Qh,cJ,hz,hz64,fz,t2,t4,q1,q2,q3,q4,q5,q6,hq,hap,ht,g0,g2,g3,g5,hper,hbd,hfin,sp,spT,im,lP,la,lr,lw,lw2,lf,lo,lz,lz64,lT,lfin,lpb,lbd,m1,m2,m3,m4,Xo,Xe,Kb,Yb,Kc,Zv,Q9,V4]
   rfl
  ·have lfin:(Qa 64 0).length=64:=lz64
   have sp:=Kt (cs:=u8s (Qa 64 0)) (v:=u8s (Qa 64 0)) rfl
   have spT:=Kt (cs:=u8s zK) (v:=u8s zK) rfl
   have fz64:fillL (u8s (Qa 64 0)) []=some (u8s (Qa 64 0)):=rfl
   refine ⟨Qa 64 0,50,?_,lz64,.inr ⟨hg,rfl,rfl⟩⟩
   clear hg
   clear hG hG0 hG5 hpl hL ho hb xP xw xr xo xf y1 y2 y3 y4 xa xw2
   generalize pre++W.drop 32++(P.drop 32++f++(pre++f))=L3 at *
   generalize bdL W (pbL P)=BD at *
   generalize pbL P=PB at *
   generalize pre++W.drop 32=a1 at *
   generalize P.drop 32++f=a2 at *
   generalize pre++f=a3 at *
   generalize o++f=a4 at *
   generalize P.drop 32=Pa at *
   generalize W.drop 32=wa at *
   generalize zK=Z at *
   generalize Qa 64 0=Z64 at *
   apply Ks
   apply Z4
   rw [Z5 (fn:=Qnl) rfl]
   simp only [Qnl,↓Zl,Z6,quiet,cF,↓pF,reduceCtorEq,Qd,Qq,Zn,Zi,Zm,Zh,Ze,Qf,Q0,Qg,Q2,Q8,Q7,↓Zo,↓Zk,↓Zq,↓Zt,↓Zr,↓Zs,cL,Qp,Qo,Qz,Qy,Qv,Qn,Qm,Qx,Qe,Q5,Q6,Qw,Qk,Qj,Qi,Qu,Qt,Qs,Ql,Qh,cJ,hz,hz64,fz,t2,t4,q1,q2,q3,q4,q5,q6,hq,hap,ht,g0,g2,g3,g5,fz64,sp,spT,im,lP,la,lr,lw,lw2,lf,lo,lz,lz64,lfin,lpb,lbd,m1,m2,m3,m4,Xo,Xe,Kb,Yb,Kc,Zv,Q9,V4]
   rfl
theorem Q1g {P pre o W f:List Nat} (lP:P.length=64) (xP:∀ y∈P,y<256) (lr:pre.length=32) (xr:∀ y∈pre,y<256) (lo:o.length=32) (xo:∀ y∈o,y<256) (lw:W.length=64) (xw:∀ y∈W,y<256) (lf:f.length=32) (xf:∀ y∈f,y<256)
  (hne:∀ x∈prA P pre o W f,V6 (x.take 32) (x.drop 32)≠zK) :
  Vw T 8 [.agg (u8s P).toArray,.agg (u8s pre).toArray,.agg (u8s o).toArray,.agg (u8s W).toArray,.agg (u8s f).toArray]=some (.tuple #[.agg (u8s (U9 (prA P pre o W f)++bdL W (pbL P))).toArray,.int .i64 0]):=by
 obtain ⟨S,E,h1,-,⟨-,rfl,rfl⟩ | ⟨h2,-⟩⟩:=Qst lP xP lr xr lo xo lw xw lf xf
 ·exact h1
 ·exact absurd hne h2
end Go.Ev.Ytpgphpkjlpkcbaa
namespace Go.Ev.Ytpgphpkjlpkcbaa
open Go Go.Ev
set_option maxRecDepth 100000
theorem Qur (s m:List Nat):(Qbk s m).take 32=frL s m:=by rw [Qbk,Ya (by rw [Qcu]; decide),Zj (by rw [Qcu]; decide)]
theorem Qus (s m:List Nat):(Qbk s m).drop 32=bkL s m:=by rw [Qbk,Yj (by rw [Qcu]; decide),Y6 (by rw [Qcu]; decide),Zc]
theorem Qlc (B pre once:List Nat) (pid oid:Nat):Vw T 11 [.agg (Tg B pre once pid oid).toArray]=some (.int .i64 0):=by
 obtain ⟨c,hc,hs⟩:=Qzl (j:=Rx once oid) (i:=pid) (Qco B pre once pid) (Qis B) (R1 _ _) (Q19 _ _)
 rw [Qyw,Mw,Q62,Qur,Qus] at hs
 have e:=Q17 hs
 subst e
 exact hc
theorem Qbp {k:List Nat} (lk:k.length=32) (xk:∀ y∈k,y<256):Gd k=zK↔k=zK:=by
 unfold Gd
 by_cases h:k=zK
 ·rw [if_pos h]; exact ⟨fun _=>h,fun _=>rfl⟩
 ·rw [if_neg h]; exact ⟨fun e=>absurd e (Qm7 lk xk),fun e=>absurd e h⟩
theorem Hr {a:List Nat} (la:a.length=32) (b:List Nat):(a++b).take 32=a∧(a++b).drop 32=b:=by rw [←la,Df,B8]; exact ⟨rfl,rfl⟩
def seL (A B F pre once:List Nat):List Nat:=U9 (prB A F (pbL B) (V6 pre Vm) (Gd once))++bdL (pbL A) (pbL B)
theorem Qd7 (L:List (List Nat)):(U9 L).length=32:=by rw [U9,Qls,Qa2,Qa2,Zc,Qic (by decide)]
theorem Q2c (A B F pre once:List Nat):(seL A B F pre once).length=64:=by rw [seL,Za,Qhx,Qd7]
structure K5 (A B F pre once:List Nat):Prop where
 lA:A.length=64
 xA:∀ y∈A,y<256
 lB:B.length=64
 xB:∀ y∈B,y<256
 lF:F.length=32
 xF:∀ y∈F,y<256
 lp:pre.length=32
 xp:∀ y∈pre,y<256
 lo:once.length=32
 xo:∀ y∈once,y<256
theorem Qgx {a k:List Nat} (la:a.length=32) (xa:∀ y∈a,y<256) (lk:k.length=32) (xk:∀ y∈k,y<256):V6 ((a++V6 k Vm).take 32) ((a++V6 k Vm).drop 32)≠zK:=by
 rw [(Hr la _).1,(Hr la _).2]; exact Qpj la xa lk xk
theorem Qu5 {A B F pre once:List Nat} (h:K5 A B F pre once) (pid oid:Nat):Vw T 7 [.agg (u8s A).toArray,.agg (u8s F).toArray,.agg (Tg B pre once pid oid).toArray]=some (.tuple #[.agg (u8s (seL A B F pre once)).toArray,.int .i64 0]):=by
 obtain ⟨la,xa⟩:=Dr h.lA h.xA
 obtain ⟨lb,xb⟩:=Dr h.lB h.xB
 refine Q5g h.lA h.xA h.lF h.xF (Qco B pre once pid) (Qis B) (R1 _ _) (Qy7 _) (Qlc B pre once pid oid) ?_
 rw [prB,Mw]
 have n1:=Qgx la xa h.lp h.xp
 have n2:=Qgx h.lF h.xF lb xb
 have n3:=Qgx h.lF h.xF h.lp h.xp
 by_cases e:once=zK
 ·rw [if_pos ((Qbp h.lo h.xo).2 e)]
  exact Q3t n1 n2 n3
 ·rw [if_neg (fun e'=>e ((Qbp h.lo h.xo).1 e'))]
  have n4:=Qgx h.lF h.xF h.lo h.xo
  rw [show Gd once=V6 once Vm from if_neg e]
  exact Qzt n1 n2 n3 n4
theorem Q21 {A B F pre once:List Nat} (h:K5 A B F pre once):U9 (prA B pre once (pbL A) (V6 F Vm))=U9 (prB A F (pbL B) (V6 pre Vm) (Gd once)):=by
 obtain ⟨la,xa⟩:=Dr h.lA h.xA
 obtain ⟨lb,xb⟩:=Dr h.lB h.xB
 have s1:=fun w=>Hr la w
 have s2:=fun w=>Hr lb w
 have s3:=fun w=>Hr h.lF w
 have s4:=fun w=>Hr h.lp w
 have s5:=fun w=>Hr h.lo w
 have e1:=Qcs la xa h.lp h.xp
 have e2:=Qcs h.lF h.xF lb xb
 have e3:=Qcs h.lF h.xF h.lp h.xp
 have e4:=Qcs h.lF h.xF h.lo h.xo
 rw [prA,prB,Mw,Mw]
 by_cases e:once=zK
 ·rw [if_pos ((Qbp h.lo h.xo).2 e),if_pos e]
  simp only [Jj,U9,Zx,Z3,Zz,tgA,T9,Qaa,s1,s2,s3,s4,e1,e2,e3]
 ·rw [if_neg (fun e'=>e ((Qbp h.lo h.xo).1 e')),if_neg e,show Gd once=V6 once Vm from if_neg e]
  simp only [Zg,Zc,U9,Zx,Z3,Zz,tgA,T9,Qaa,s1,s2,s3,s4,s5,e1,e2,e3,e4]
theorem Qro {A B F pre once:List Nat} (h:K5 A B F pre once):Vw T 8 [.agg (u8s B).toArray,.agg (u8s pre).toArray,.agg (u8s once).toArray,.agg (u8s (pbL A)).toArray,.agg (u8s (V6 F Vm)).toArray]=some (.tuple #[.agg (u8s (seL A B F pre once)).toArray,.int .i64 0]):=by
 obtain ⟨la,xa⟩:=Dr h.lA h.xA
 obtain ⟨lb,xb⟩:=Dr h.lB h.xB
 have:=Q1g h.lB h.xB h.lp h.xp h.lo h.xo (Qak A) (Qis A) (Bd F Vm) (R1 F Vm) ?_
 ·rwa [Q21 h] at this
 rw [prA,Mw]
 have n1:=Qgx h.lp h.xp la xa
 have n2:=Qgx lb xb h.lF h.xF
 have n3:=Qgx h.lp h.xp h.lF h.xF
 by_cases e:once=zK
 ·rw [if_pos e]
  exact Q3t n1 n2 n3
 ·rw [if_neg e]
  exact Qzt n1 n2 n3 (Qgx h.lo h.xo h.lF h.xF)
end Go.Ev.Ytpgphpkjlpkcbaa
namespace Go.Ev.Ytpgphpkjlpkcbaa
open Go Go.Ev
attribute [local congr] Wp W0 Wo W3 Wh
set_option maxRecDepth 100000
theorem Qg3 (n:Nat):∀ y∈kE n,y<256:=D5
theorem B4 (n:Nat):(kE n).length=32:=Vs _ _ _
theorem kE5:K5 (kE 1++kE 2) (kE 3++kE 4) (kE 9) (kE 5) (kE 6) :=
 have h1:=Hs (B4 1) (Qg3 1) (B4 2) (Qg3 2)
 have h2:=Hs (B4 3) (Qg3 3) (B4 4) (Qg3 4)
 ⟨h1.1,h1.2,h2.1,h2.2,B4 9,Qg3 9,B4 5,Qg3 5,B4 6,Qg3 6⟩
theorem Qz0:¬ kE 6=zK:=by decide
theorem seE:U9 (prB (kE 1++kE 2) (kE 9) (pbL (kE 3++kE 4)) (V6 (kE 5) Vm) (Gd (kE 6)))≠zK:=by
 have e:=Qbp (B4 6) (Qg3 6)
 have s1:=(Hr (B4 1) (kE 2)).2
 have s2:=(Hr (B4 3) (kE 4)).2
 rw [prB,Mw,s1,s2,if_neg (fun h=>Qz0 (e.1 h)),show Gd (kE 6)=V6 (kE 6) Vm from if_neg Qz0]
 exact togE
theorem Q3u:Vw T 5 []=some (.bool true):=by
 have K:=kE5
 have hz:Qa 32 (Value.int .u8 0)=u8s zK:=rfl
 have hz64:=Gw
 have lz64:(Qa 64 0).length=64:=Q9
 have fz:fillL (u8s zK) []=some (u8s zK):=rfl
 have lz:=Qab
 have f1:fillL (u8s zK) [(0,1,.int .u8 1)]=some (u8s (kE 1)):=rfl
 have f2:fillL (u8s zK) [(0,1,.int .u8 2)]=some (u8s (kE 2)):=rfl
 have f3:fillL (u8s zK) [(0,1,.int .u8 3)]=some (u8s (kE 3)):=rfl
 have f4:fillL (u8s zK) [(0,1,.int .u8 4)]=some (u8s (kE 4)):=rfl
 have f5:fillL (u8s zK) [(0,1,.int .u8 5)]=some (u8s (kE 5)):=rfl
 have f6:fillL (u8s zK) [(0,1,.int .u8 6)]=some (u8s (kE 6)):=rfl
 have f9:fillL (u8s zK) [(0,1,.int .u8 9)]=some (u8s (kE 9)):=rfl
 have q1:=U6 (B4 1) (B4 2)
 have q2:=U6 (B4 3) (B4 4)
 have l1:=B4 1
 have l2:=B4 2
 have l3:=B4 3
 have l4:=B4 4
 have l5:=B4 5
 have l6:=B4 6
 have l9:=B4 9
 have lA:=K.lA
 have lB:=K.lB
 have hoff:Vw T 6 [.agg (u8s (kE 3++kE 4)).toArray,.agg (u8s (kE 5)).toArray,.agg (u8s (kE 6)).toArray,.int .u32 7,.int .u32 8]=_:=Q3h (pid:=7) (oid:=8) K.lB K.xB K.lp K.xp K.lo K.xo
 have hbeg:=Qu5 K 7 8
 have hacc:=Qro K
 have hper:=Qeh K.lA K.xA
 have hpub:=Qcr K.lF K.xF
 have hchk:=Qlc (kE 3++kE 4) (kE 5) (kE 6) 7 8
 have lO:(Tg (kE 3++kE 4) (kE 5) (kE 6) 7 8).length=194:=Up (Qco _ _ _ _)
 have nz:Ys.length=194:=rfl
 have tw:Kw 194 (Tg (kE 3++kE 4) (kE 5) (kE 6) 7 8)=Tg (kE 3++kE 4) (kE 5) (kE 6) 7 8:=Zj (by rw [lO]; decide)
 have sO:splice Ys 0 (Tg (kE 3++kE 4) (kE 5) (kE 6) 7 8)=Tg (kE 3++kE 4) (kE 5) (kE 6) 7 8:=Kt (by rw [lO,nz])
 have rfo:rf (.agg (Tg (kE 3++kE 4) (kE 5) (kE 6) 7 8).toArray)=true:=Qmq _ _ _ _ _ _
 have o7:(Tg (kE 3++kE 4) (kE 5) (kE 6) 7 8)[128]?=some (.int .u32 7):=(Qen (Qco _ _ _ _)).1
 have o8:(Tg (kE 3++kE 4) (kE 5) (kE 6) 7 8)[129]?=some (.int .u32 8):=by
  have:=(Qen (i:=7) (j:=Rx (kE 6) 8) (Qco (kE 3++kE 4) (kE 5) (kE 6) 7)).2
  rwa [show Rx (kE 6) 8=8 from if_neg Qz0] at this
 have lS:=Q2c (kE 1++kE 2) (kE 3++kE 4) (kE 9) (kE 5) (kE 6)
 have tS:Kw 32 (u8s (seL (kE 1++kE 2) (kE 3++kE 4) (kE 9) (kE 5) (kE 6)))=u8s (U9 (prB (kE 1++kE 2) (kE 9) (pbL (kE 3++kE 4)) (V6 (kE 5) Vm) (Gd (kE 6)))):=by
  rw [Gx,seL,(Hr (Qd7 _) _).1]
 have hq:=Qbe (k:=U9 (prB (kE 1++kE 2) (kE 9) (pbL (kE 3++kE 4)) (V6 (kE 5) Vm) (Gd (kE 6)))) (l:=zK) (Qd7 _) rfl
 rw [show (!(U9 (prB (kE 1++kE 2) (kE 9) (pbL (kE 3++kE 4)) (V6 (kE 5) Vm) (Gd (kE 6)))==zK))=true by simpa using seE] at hq
 have hS:=Qug lS lS
 rw [beq_self_eq_true] at hS
 have lT:=Qd7 (prB (kE 1++kE 2) (kE 9) (pbL (kE 3++kE 4)) (V6 (kE 5) Vm) (Gd (kE 6)))
 have spS:=Kt (cs:=u8s (Qa 64 0)) (v:=u8s (seL (kE 1++kE 2) (kE 3++kE 4) (kE 9) (kE 5) (kE 6))) (by rw [Zv,Zv,lz64,lS])
 have spA:=Kt (cs:=u8s (Qa 64 0)) (v:=u8s (kE 1++kE 2)) (by rw [Zv,Zv,lz64,lA])
 have spB:=Kt (cs:=u8s (Qa 64 0)) (v:=u8s (kE 3++kE 4)) (by rw [Zv,Zv,lz64,lB])
 have ok1:∀ L:List Value,(Value.agg L.toArray).cells.toList=L:=fun _=>rfl
 have ok2:∀ L:List Value,(Value.agg L.toArray).cells.size=L.length:=fun _=>rfl
 have ok3:∀ L:List Value,okVar (Value.agg L.toArray)=true:=fun _=>rfl
 have rt:∀ r:List Nat,rf (Value.tuple #[.agg (u8s r).toArray,.int .i64 0])=true:=fun r=>Dx (Qed r) rfl
 have im:∀ k,Ja 0 [] [k]=[]:=fun k=>Xv (by simp)
 have lPb:=Qak (kE 1++kE 2)
 have lLb:=Bd (kE 9) Vm
 clear K
 generalize seL (kE 1++kE 2) (kE 3++kE 4) (kE 9) (kE 5) (kE 6)=S at *
 generalize U9 (prB (kE 1++kE 2) (kE 9) (pbL (kE 3++kE 4)) (V6 (kE 5) Vm) (Gd (kE 6)))=TL at *
 generalize Tg (kE 3++kE 4) (kE 5) (kE 6) 7 8=O at *
 generalize pbL (kE 1++kE 2)=PB at *
 generalize V6 (kE 9) Vm=L9 at *
 generalize kE 1++kE 2=A at *
 generalize kE 3++kE 4=B at *
 generalize kE 1=x1 at *
 generalize kE 2=x2 at *
 generalize kE 3=x3 at *
 generalize kE 4=x4 at *
 generalize kE 5=x5 at *
 generalize kE 6=x6 at *
 generalize kE 9=x9 at *
 generalize zK=Z at *
 generalize Qa 64 0=Z64 at *
 apply Ks
 apply Z4
 rw [Z5 (fn:=Q80) rfl]
 simp only [Q80,↓Zl,Z6,quiet,cF,↓pF,reduceCtorEq,Qd,Qq,Zn,Zi,Zm,Zh,Ze,Qf,Q0,Qg,Q2,Q8,Q7,↓Zo,↓Zk,↓Zq,↓Zt,↓Zr,↓Zs,cL,Qp,Qo,Qz,Qy,Qv,Qn,Qm,Qx,Qe,Q5,Q6,Qw,Qk,Qj,Qi,Qu,Qt,Qs,Ql,Qh,cJ,hz,hz64,fz,f1,f2,f3,f4,f5,f6,f9,q1,q2,hoff,hbeg,hacc,hper,hpub,hchk,lO,nz,tw,sO,rfo,o7,o8,tS,hq,hS,spS,spA,spB,ok1,ok2,ok3,rt,im,l1,l2,l3,l4,l5,l6,l9,lA,lB,lz,lz64,lS,lT,lPb,lLb,Xo,Xe,Kb,Yb,Kc,Zv,Q9,V4]
 rfl
def OutS (K:Nat→Prop) (G:List Ob) (v:Value) (t:List Nat):Prop:=(∃ id,¬ K id∧v=.slice (some ⟨id,0,none⟩) t.length t.length∧G[id]?=some ⟨u8s t,true,true,true,1⟩)∨Rst K G v t
theorem OutS.append {K:Nat→Prop} {G:List Ob} {v x:Value} {t p:List Nat} (h:OutS K G v t) (hK:∀ i,K i→i<G.length) (hl:Go.Ev.lenV x=some p.length) (he:elemsOf G 1 p.length x=some (u8s p)) (hb:t.length+p.length≤2^47) :
  ∃ v' G' M,Yz 1 1 G v x=some (v',G',none,M)∧OutS K G' v' (t++p)∧(∀ i∈M,¬ K i)∧G.length≤G'.length∧∀ i,K i→G'[i]?=G[i]? := by
 rcases h with ⟨id,h1,rfl,h2⟩ | h
 ·rcases Wl p.length with hn | hn
  ·have:p=[]:=Vz hn
   subst this
   refine ⟨_,G,[],?_,.inl ⟨id,h1,by rw [Jj],by rw [Jj]; exact h2⟩,by simp,Zf _,fun _ _=>rfl⟩
   have he':elemsOf G 1 0 x=some []:=he
   have hl':Go.Ev.lenV x=some 0:=hl
   simp only [Yz,hl',he',Q4,if_true]
  ·have h8:elemsOf G 1 t.length (.slice (some ⟨id,0,none⟩) t.length t.length)=some (u8s t):=by
    simp [elemsOf,Vj h2 rfl,Zv]
    exact Zj (by rw [Zv]; exact Zf _)
   have hz:¬ p.length=0:=by omega
   have h3:(t.length+p.length)*1≤2^47∧0<1∧0<1:=⟨by omega,by decide,by decide⟩
   have h4:¬ (t.length+p.length≤t.length):=by omega
   refine ⟨.slice (some ⟨G.length,0,none⟩) (t++p).length (t++p).length,G++[⟨u8s (t++p),true,true,false,1⟩],[],?_,.inr (.own (fun hk=>by have:=hK _ hk; omega) (by rw [Qr (Zf _),Jc]; rfl) (by omega) (fun i _=>by rw [Zz])),by simp,by simp,fun i hi=>by rw [Qc (hK i hi)]⟩
   simp only [Yz,hl,he,h8,Vj h2 rfl,Q4,if_neg hz,h3,h4,and_self,not_true_eq_false,if_false,if_true,Ob.grown,Wg,Za]
 ·obtain ⟨v',G',M,k1,k2,k3,k4,k5,-⟩:=h.append hK hl he hb
  exact ⟨v',G',M,k1,.inr k2,k3,k4,k5⟩
theorem OutS.setK {K:Nat→Prop} {G:List Ob} {v:Value} {t:List Nat} (h:OutS K G v t) {j:Nat} (hj:K j) (o:Ob):OutS K (G.set j o) v t:=by
 have hne:∀ id,¬ K id→(G.set j o)[id]?=G[id]? := fun id hid=>Z7 (by rintro rfl; exact hid hj)
 rcases h with ⟨id,h1,h0,h2⟩ | h
 ·exact .inl ⟨id,h1,h0,by rw [hne id h1]; exact h2⟩
 ·refine .inr ?_
  cases h with
  | nil=>exact .nil
  | empty h1 h2=>exact .empty h1 (by rw [hne _ h1]; exact h2)
  | own h1 h2 h4 h3=>exact .own h1 (by rw [hne _ h1]; exact h2) h4 h3
theorem OutS.app {K:Nat→Prop} {G m:List Ob} {v:Value} {t:List Nat} (h:OutS K G v t):OutS K (G++m) v t:=by
 rcases h with ⟨id,h1,h0,h2⟩ | h
 ·exact .inl ⟨id,h1,h0,by rw [Qc (Q1.1 h2).1]; exact h2⟩
 ·exact .inr h.app
theorem OutS.shape {K:Nat→Prop} {G:List Ob} {v:Value} {t:List Nat} (h:OutS K G v t):∃ a c,v=.slice a t.length c:=by
 rcases h with ⟨id,-,rfl,-⟩ | h
 ·exact ⟨_,_,rfl⟩
 ·exact h.shape
theorem OutS.okVar {K:Nat→Prop} {G:List Ob} {v:Value} {t:List Nat} (h:OutS K G v t):okVar v=true:=by
 obtain ⟨a,c,rfl⟩:=h.shape; rfl
theorem OutS.cells {K:Nat→Prop} {G:List Ob} {v:Value} {t:List Nat} (h:OutS K G v t):v.cells.toList=[v]∧v.cells.size=1:=by
 obtain ⟨a,c,rfl⟩:=h.shape; exact ⟨rfl,rfl⟩
def wob (v:Value):Ob:=⟨[v],true,true,true,1⟩
structure Wr (K:Nat→Prop) (G:List Ob) (wid:Nat) (v:Value) (t:List Nat):Prop where
 ob:G[wid]?=some (wob v)
 kw:K wid
 kl:∀ i,K i→i<G.length
 out:OutS K G v t
theorem Wr.put {K:Nat→Prop} {G:List Ob} {wid:Nat} {v x:Value} {t p:List Nat} (h:Wr K G wid v t) (hl:Go.Ev.lenV x=some p.length) (he:elemsOf G 1 p.length x=some (u8s p)) (hb:t.length+p.length≤2^47) :
  ∃ v' G' M,Yz 1 1 G v x=some (v',G',none,M)∧G'[wid]?=some (wob v)∧v'.cells.toList=[v']∧v'.cells.size=1∧okVar v'=true∧Wr K (G'.set wid (wob v')) wid v' (t++p)∧(∀ i∈M,¬ K i)∧G.length≤G'.length∧∀ i,K i→i≠wid→(G'.set wid (wob v'))[i]?=G[i]? := by
 obtain ⟨v',G',M,k1,k2,k3,k4,k5⟩:=h.out.append h.kl hl he hb
 have hw:=(k5 wid h.kw).trans h.ob
 refine ⟨v',G',M,k1,hw,k2.cells.1,k2.cells.2,k2.okVar,⟨by rw [Jl (Q1.1 hw).1],h.kw,fun i hi=>by rw [Jp]; exact Xf (h.kl i hi) k4,k2.setK h.kw _⟩,k3,k4,fun i hi hne => ?_⟩
 rw [Z7 (fun e=>hne e.symm)]
 exact k5 i hi
theorem Wr.app {K:Nat→Prop} {G m:List Ob} {wid:Nat} {v:Value} {t:List Nat} (h:Wr K G wid v t):Wr K (G++m) wid v t :=
 ⟨by rw [Qc (Q1.1 h.ob).1]; exact h.ob,h.kw,fun i hi=>by rw [Za]; exact Xf (h.kl i hi) (Qqv _ _),h.out.app⟩
theorem Qll {K:Nat→Prop} {G:List Ob} {wid n:Nat} {v:Value} {t:List Nat} (h:Wr K G wid v t) (hb:t.length≤2^46) :
  ∃ v' G' M,Vv T 49 [.pointer (some ⟨wid,0,none⟩),.int .u32 n] G=some (.tuple #[],G',M)∧Wr K G' wid v' (t++id4 n)∧G.length≤G'.length∧(∀ i∈M,i=wid∨¬ K i)∧∀ i,K i→i≠wid→G'[i]?=G[i]? := by
 have s1:(n:Int).fdiv (2^min 24 IntKind.u32.bits)=((n/2^24:Nat):Int):=Qdg (r:=24) (by decide)
 have s2:(n:Int).fdiv (2^min 16 IntKind.u32.bits)=((n/2^16:Nat):Int):=Qdg (r:=16) (by decide)
 have s3:(n:Int).fdiv (2^min 8 IntKind.u32.bits)=((n/2^8:Nat):Int):=Qdg (r:=8) (by decide)
 have w1:=Qbr (n/2^24)
 have w2:=Qbr (n/2^16)
 have w3:=Qbr (n/2^8)
 have w4:=Qbr n
 have f2:∀ x0 x1 x2 x3:Nat,fillL [Value.int .u8 0,.int .u8 0,.int .u8 0,.int .u8 0] [(0,1,.int .u8 (x0:Int)),(1,1,.int .u8 (x1:Int)),(2,1,.int .u8 (x2:Int)),(3,1,.int .u8 (x3:Int))]=some (u8s [x0,x1,x2,x3]):=fun _ _ _ _=>rfl
 have hx:(G++[(⟨u8s (id4 n),true,true,true,1⟩:Ob)])[G.length]?=some ⟨u8s (id4 n),true,true,true,1⟩:=by rw [Qr (Zf _),Jc]; rfl
 have he:elemsOf (G++[(⟨u8s (id4 n),true,true,true,1⟩:Ob)]) 1 (id4 n).length (.slice (some ⟨G.length,0,none⟩) 4 4)=some (u8s (id4 n)):=by
  exact R3 (c:=4) hx
 obtain ⟨v',G',M,k1,k2,k3,k4,k5,k6,k7,k8,k9⟩:=(h.app (m:=[(⟨u8s (id4 n),true,true,true,1⟩:Ob)])).put (p:=id4 n) (x := .slice (some ⟨G.length,0,none⟩) 4 4) rfl he (by show _+4≤_; omega)
 rw [Za] at k8
 refine ⟨v',_,Ja G.length (Ja G.length [] M) [wid],?_,k6,by rw [Jp]; omega,?_,fun i hi hne => ?_⟩
 ·have o1:=h.ob
  have o2:(G++[(⟨u8s (id4 n),true,true,true,1⟩:Ob)])[wid]?=some (wob v):=h.app.ob
  unfold wob id4 at *
  generalize n/2^24%256=x0 at *
  generalize n/2^16%256=x1 at *
  generalize n/2^8%256=x2 at *
  generalize n%256=x3 at *
  generalize n/2^24=y0 at *
  generalize n/2^16=y1 at *
  generalize n/2^8=y2 at *
  have sp:∀ a b:Value,splice [a] 0 [b]=[b]:=fun _ _=>rfl
  rw [Z5 (fn:=Q8m) rfl]
  simp only [Q8m,↓Zl,Z6,quiet,cF,↓pF,reduceCtorEq,Qd,Qq,Zn,Zi,Zm,Zh,Ze,Qf,Q0,Qg,Q2,Q8,Q7,↓Zo,↓Zk,↓Zq,↓Zt,↓Zr,↓Zs,cL,Qp,Qo,Qz,Qy,Qv,Qn,Qm,Qx,Qe,Q5,Q6,Qw,Qk,Qj,Qi,Qu,Qt,Qs,Ql,Qh,cJ,f2,s1,s2,s3,w1,w2,w3,w4,o1,o2,k1,k2,k3,k4,k5,sp,Xo,Xe,Kb,Yb,Kc,Zv,Q9,V4]
  rfl
 ·intro i hi
  rcases Yv hi with h' | h'
  ·rcases Yv h' with h' | h'
   ·cases h'
   ·exact .inr (k7 i h')
  ·exact .inl (W7.1 h')
 ·rw [k9 i hi hne,Qc (h.kl i hi)]
def shp (k:Int):Option (Nat×Nat×Nat×Bool) :=
 if k=1 then some (4,2,1,false) else if k=2 then some (3,2,0,true) else if k=3 then some (1,2,0,true) else if k=4 then some (3,2,0,false) else if k=5 then some (1,2,1,true) else if k=6 then some (3,3,1,true) else if k=7 then some (1,1,0,true) else none
def shV (a b c:Nat) (d:Bool):List Value:=[.int .i64 a,.int .i64 b,.int .i64 c,.bool d]
theorem Q2a (k:Int):Vw T 48 [.int .i64 k]=some (match shp k with | some (a,b,c,d)=>.tuple #[.agg (shV a b c d).toArray,.int .i64 0] | none=>.tuple #[.agg (shV 0 0 0 false).toArray,.int .i64 110]):=by
 have hf:∀ (a b c:Int) (d:Bool),fillL [Value.int .i64 0,.int .i64 0,.int .i64 0,.bool false] [(0,1,.int .i64 a),(1,1,.int .i64 b),(2,1,.int .i64 c),(3,1,.bool d)]=some [Value.int .i64 a,.int .i64 b,.int .i64 c,.bool d]:=fun _ _ _ _=>rfl
 have f0:fillL [Value.int .i64 0,.int .i64 0,.int .i64 0,.bool false] []=some [Value.int .i64 0,.int .i64 0,.int .i64 0,.bool false]:=rfl
 have im:∀ k,Ja 0 [] [k]=[]:=fun k=>Xv (by simp)
 have sp:∀ (a b c d e f g h:Value),splice [a,b,c,d] 0 [e,f,g,h]=[e,f,g,h]:=fun _ _ _ _ _ _ _ _=>rfl
 apply Ks
 by_cases h:k=1∨k=2∨k=3∨k=4∨k=5∨k=6∨k=7
 ·rcases h with rfl | rfl | rfl | rfl | rfl | rfl | rfl <;>
  ·apply Z4
   rw [Z5 (fn:=Q1i) rfl]
   simp only [Q1i,↓Zl,Z6,quiet,cF,↓pF,reduceCtorEq,Qd,Qq,Zn,Zi,Zm,Zh,Ze,Qf,Q0,Qg,Q2,Q8,Q7,↓Zo,↓Zk,↓Zq,↓Zt,↓Zr,↓Zs,cL,Qp,Qo,Qz,Qy,Qv,Qn,Qm,Qx,Qe,Q5,Q6,Qw,Qk,Qj,Qi,Qu,Qt,Qs,Ql,Qh,cJ,hf,f0,im,sp]
   rfl
 simp only [not_or] at h
 obtain ⟨h1,h2,h3,h4,h5,h6,h7⟩:=h
 have e:shp k=none:=by unfold shp; simp only [h1,h2,h3,h4,h5,h6,h7,if_false]
 rw [e]
 apply Z4
 rw [Z5 (fn:=Q1i) rfl]
 simp only [Q1i,↓Zl,Z6,quiet,cF,↓pF,reduceCtorEq,Qd,Qq,Zn,Zi,Zm,Zh,Ze,Qf,Q0,Qg,Q2,Q8,Q7,↓Zo,↓Zk,↓Zq,↓Zt,↓Zr,↓Zs,cL,Qp,Qo,Qz,Qy,Qv,Qn,Qm,Qx,Qe,Q5,Q6,Qw,Qk,Qj,Qi,Qu,Qt,Qs,Ql,Qh,cJ,hf,f0,im,sp,beq_eq_false_iff_ne.2 h1,beq_eq_false_iff_ne.2 h2,beq_eq_false_iff_ne.2 h3,beq_eq_false_iff_ne.2 h4,beq_eq_false_iff_ne.2 h5,beq_eq_false_iff_ne.2 h6,beq_eq_false_iff_ne.2 h7]
 rfl
theorem Uz {L:List (List Nat)} {n:Nat} (hL:∀ x∈L,x.length=n):L.flatten.length=L.length*n:=by
 induction L with
 | nil=>simp
 | cons a M ih=>rw [J3,Za,ih (fun x hx=>hL x (Gm _ hx)),hL a (by simp),Zx,Qfl,Bi]
theorem Gr {L:List (List Nat)} {n i:Nat} {P:List Nat} (hL:∀ x∈L,x.length=n) (hi:L[i]?=some P):Kw n (Wc (i*n) (u8s L.flatten))=u8s P∧i*n+n≤(u8s L.flatten).length:=by
 have h1:=Q1.1 hi
 have lP:=hL P (Zp hi)
 have e1:L.flatten=(L.take i).flatten++(P++(L.drop (i+1)).flatten):=by
  rw [←J3,←Vh]
  congr 1
  conv=>lhs; rw [←Yr i L,Yx h1.1,h1.2]
 have e2:(L.take i).flatten.length=i*n:=by
  rw [Uz (n:=n) fun x hx=>hL x (Kr hx),Jy,Kx (Um h1.1)]
 constructor
 ·rw [e1,Wg,Wg,←e2,←Zv,B8,←lP,←Zv P,Df]
 ·rw [Zv,Uz hL]
  have:=W4 n (Nat.succ_le_of_lt h1.1)
  rwa [Qfl] at this
def Sq (G:List Ob) (es:Nat) (cs:List Value) (n:Nat) (v:Value):Prop:=(v=.slice none 0 0∧n=0∧cs=[])∨∃ id c w e s,v=.slice (some ⟨id,0,none⟩) n c∧G[id]?=some ⟨cs,true,w,e,s⟩∧cs.length=n*es
theorem Sq.app {G m:List Ob} {es:Nat} {cs:List Value} {n:Nat} {v:Value} (h:Sq G es cs n v):Sq (G++m) es cs n v:=by
 rcases h with h | ⟨id,c,w,e,s,h1,h2,h3⟩
 ·exact .inl h
 ·exact .inr ⟨id,c,w,e,s,h1,by rw [Qc (Q1.1 h2).1]; exact h2,h3⟩
theorem Sq.shape {G:List Ob} {es:Nat} {cs:List Value} {n:Nat} {v:Value} (h:Sq G es cs n v):∃ a c,v=.slice a n c:=by
 rcases h with ⟨rfl,rfl,-⟩ | ⟨id,c,w,e,s,rfl,-⟩
 ·exact ⟨_,_,rfl⟩
 ·exact ⟨_,_,rfl⟩
def KE (B i:Nat):Prop:=i<B+4∧i≠B+2
def T7 (B:Nat) (G0 G:List Ob) (t:List Nat):Prop:=∃ v,Wr (KE B) G (B+3) v t∧∀ i,KE B i→i≠B+3→G[i]?=G0[i]?
theorem T0 {B:Nat} {M:List Nat} (h:∀ i∈M,i=B+3∨¬ KE B i):Ja B [] M=[]:=Xv fun i hi=>by
 rcases h i hi with h | h
 ·omega
 ·rcases Yc i B with h' | h'
  ·exact absurd ⟨by omega,by omega⟩ h
  ·exact h'
def _root_.Go.Value.slBlock (v:Value) (id:Nat):Prop:=match v with | .slice (some a) _ _=>a.block=id | _=>False
def Qkp (B n:Nat) (pv:Value) (i:Nat) (G:List Ob) (ex:Env):St:=⟨[(1,.pointer (some ⟨B,0,none⟩)),(4,.pointer (some ⟨B+1,0,none⟩)),(6,.pointer (some ⟨B+3,0,none⟩)),(68,pv),(69,.int .i64 n),(70,.int .i64 i)]++ex,G,[]⟩
theorem Q0j {B n i:Nat} {pv:Value} {G0 G:List Ob} {L:List (List Nat)} {P t:List Nat} (hs:Sq G0 32 (u8s L.flatten) n pv) (hB:∀ id,(∃ o,G0[id]?=some o)→pv.slBlock id→id<B) (hL:∀ x∈L,x.length=32) (hi:L[i]?=some P) (hin:i<n) (hn:n≤1000) (lt:t.length≤2^40) (h:T7 B G0 G t) :
  ∃ G',Jv T B Qc3 (Qkp B n pv i G [])=some (.normal,Qkp B n pv (i+1) G' [])∧T7 B G0 G' (t++P):=by
 rcases hs with ⟨-,rfl,-⟩ | ⟨id,c,w,e,s,rfl,h2,h3⟩
 ·omega
 obtain ⟨v,hw,hf⟩:=h
 have lP:=hL P (Zp hi)
 obtain ⟨c1,c2⟩:=Gr hL hi
 have hid:id<B:=hB id ⟨_,h2⟩ rfl
 have g0:∀ m,(G++m)[id]?=some ⟨u8s L.flatten,true,w,e,s⟩:=fun m=>by
  have:=(hf id ⟨by omega,by omega⟩ (by omega)).trans h2
  rw [Qc (Q1.1 this).1]; exact this
 have g00:=g0 []
 rw [Jj] at g00
 have hx:(G++[(⟨u8s P,true,true,true,1⟩:Ob)])[G.length]?=some ⟨u8s P,true,true,true,1⟩:=by rw [Qr (Zf _),Jc]; rfl
 have he:=R3 (c:=32) hx
 rw [lP] at he
 obtain ⟨v',G',M,k1,k2,k3,k4,k5,k6,k7,k8,k9⟩:=(hw.app (m:=[(⟨u8s P,true,true,true,1⟩:Ob)])).put (p:=P) (x := .slice (some ⟨G.length,0,none⟩) 32 32) (by rw [lP]; rfl) (by rw [lP]; exact he) (by rw [lP]; omega)
 refine ⟨_,?_,v',k6,fun j hj hne=>by rw [k9 j hj hne,Qc (hw.kl j hj)]; exact hf j hj hne⟩
 have o1:=hw.ob
 have o2:(G++[(⟨u8s P,true,true,true,1⟩:Ob)])[B+3]?=some (wob v):=hw.app.ob
 have hz:Qa 32 (Value.int .u8 0)=u8s (Qa 32 0):=by simp [u8s]
 have lz:(Qa 32 0).length=32:=Q9
 have sp:∀ a b:Value,splice [a] 0 [b]=[b]:=fun _ _=>rfl
 have b3:Y9 32 32 none none none=some (0,32,32):=rfl
 have e1:((i:Int)<(n:Int))=True:=eq_true (by omega)
 have w3:IntKind.i64.wrap ((i:Int)+1)=((i+1:Nat):Int):=Ws (b:=1) (by omega)
 have im:Ja B [] M=[]:=T0 fun j hj=>.inr (k7 j hj)
 have im1:Ja B [] [B+3]=[]:=Xv (by simp)
 have im2:Ja B [] [G.length]=[]:=Xv (by have:=hw.kl (B+3) ⟨by omega,by omega⟩; simp; omega)
 unfold wob at *
 clear h3 hf hL hB hw hi k6 k9 he hx
 generalize Qa 32 0=Z at *
 generalize u8s L.flatten=LF at *
 generalize hik:i*32=ik at *
 generalize hi1:i+1=i1 at *
 simp only [Qkp,Qc3,↓Zl,Z6,quiet,cF,↓pF,reduceCtorEq,Qd,Qq,Zn,Zi,Zm,Zh,Ze,Qf,Q0,Qg,Q2,Q8,Q7,↓Zo,↓Zk,↓Zq,↓Zt,↓Zr,↓Zs,cL,Qp,Qo,Qz,Qy,Qv,Qn,Qm,Qx,Qe,Q5,Q6,Qw,Qk,Qj,Qi,Qu,Qt,Qs,Ql,Qh,cJ,hz,hik,hi1,e1,w3,g0,g00,c1,c2,o1,o2,k1,k2,k3,k4,k5,sp,b3,im,im1,im2,lP,lz,Xo,Xe,Kb,Yb,Kc,Zv,Q9,V4]
theorem Qv9 {B n:Nat} {pv:Value} {G0 G:List Ob} {L:List (List Nat)} {t:List Nat} (hs:Sq G0 32 (u8s L.flatten) n pv) (hB:∀ id,(∃ o,G0[id]?=some o)→pv.slBlock id→id<B) (hL:∀ x∈L,x.length=32) (hn:L.length=n) (hm:n≤1000) (lt:t.length≤2^30) (h:T7 B G0 G t) :
  ∃ G',Jv T B (.block 1 (.loop Qc3)) (Qkp B n pv 0 G [])=some (.normal,Qkp B n pv n G' [(71,.bool false)])∧T7 B G0 G' (t++L.flatten):=by
 obtain ⟨st,hloop,G',rfl,r⟩:=Yg (T:=T) (base:=B) (id:=1) (body:=Qc3)
  (fun k st=>∃ G,st=Qkp B n pv k G []∧T7 B G0 G (t++(L.take k).flatten))
  (Q:=fun st=>∃ G,st=Qkp B n pv n G [(71,.bool false)]∧T7 B G0 G (t++L.flatten))
  n (s:=Qkp B n pv 0 G []) ⟨G,rfl,by rw [Q0,Vu,Jj]; exact h⟩
  (fun k st hk hst=>by
   obtain ⟨G1,rfl,h1⟩:=hst
   obtain ⟨P,hP⟩:∃ P,L[k]?=some P:=⟨_,Q3 (by omega)⟩
   have lk:(L.take k).flatten.length=k*32:=by rw [Uz (n:=32) fun x hx=>hL x (Kr hx),Jy,Kx (by omega)]
   obtain ⟨G2,b0,b1⟩:=Q0j hs hB hL hP hk hm (by rw [Za,lk]; omega) h1
   refine ⟨_,b0,G2,rfl,?_⟩
   rw [V3,hP,Vh,←Zw]
   simpa using b1)
  (fun st hst=>by
   obtain ⟨G1,rfl,h1⟩:=hst
   refine ⟨_,?_,G1,rfl,by rwa [Zj (by omega)] at h1⟩
   simp only [Qkp,Qc3,↓Zl,Z6,quiet,cF,↓pF,reduceCtorEq,Qd,Qq,Zn,Zi,Zm,Zh,Ze,Qf,Q0,Qg,Q2,Q8,Q7,↓Zo,↓Zk,↓Zq,↓Zt,↓Zr,↓Zs,cL,Qp,Qo,Qz,Qy,Qv,Qn,Qm,Qx,Qe,Q5,Q6,Qw,Qk,Qj,Qi,Qu,Qt,Qs,Ql,Qh,cJ])
 exact ⟨G',hloop,r⟩
def Qkn (B n:Nat) (pv:Value) (i:Nat) (G:List Ob) (ex:Env):St:=⟨[(1,.pointer (some ⟨B,0,none⟩)),(4,.pointer (some ⟨B+1,0,none⟩)),(6,.pointer (some ⟨B+3,0,none⟩)),(91,pv),(92,.int .i64 n),(93,.int .i64 i)]++ex,G,[]⟩
theorem Q0h {B n i:Nat} {pv:Value} {G0 G:List Ob} {L:List (List Nat)} {P t:List Nat} (hs:Sq G0 64 (u8s L.flatten) n pv) (hB:∀ id,(∃ o,G0[id]?=some o)→pv.slBlock id→id<B) (hL:∀ x∈L,x.length=64) (hi:L[i]?=some P) (hin:i<n) (hn:n≤1000) (lt:t.length≤2^40) (h:T7 B G0 G t) :
  ∃ G',Jv T B Qc5 (Qkn B n pv i G [])=some (.normal,Qkn B n pv (i+1) G' [])∧T7 B G0 G' (t++P):=by
 rcases hs with ⟨-,rfl,-⟩ | ⟨id,c,w,e,s,rfl,h2,h3⟩
 ·omega
 obtain ⟨v,hw,hf⟩:=h
 have lP:=hL P (Zp hi)
 obtain ⟨c1,c2⟩:=Gr hL hi
 have hid:id<B:=hB id ⟨_,h2⟩ rfl
 have g0:∀ m,(G++m)[id]?=some ⟨u8s L.flatten,true,w,e,s⟩:=fun m=>by
  have:=(hf id ⟨by omega,by omega⟩ (by omega)).trans h2
  rw [Qc (Q1.1 this).1]; exact this
 have g00:=g0 []
 rw [Jj] at g00
 have hx:(G++[(⟨u8s P,true,true,true,1⟩:Ob)])[G.length]?=some ⟨u8s P,true,true,true,1⟩:=by rw [Qr (Zf _),Jc]; rfl
 have he:=R3 (c:=64) hx
 rw [lP] at he
 obtain ⟨v',G',M,k1,k2,k3,k4,k5,k6,k7,k8,k9⟩:=(hw.app (m:=[(⟨u8s P,true,true,true,1⟩:Ob)])).put (p:=P) (x := .slice (some ⟨G.length,0,none⟩) 64 64) (by rw [lP]; rfl) (by rw [lP]; exact he) (by rw [lP]; omega)
 refine ⟨_,?_,v',k6,fun j hj hne=>by rw [k9 j hj hne,Qc (hw.kl j hj)]; exact hf j hj hne⟩
 have o1:=hw.ob
 have o2:(G++[(⟨u8s P,true,true,true,1⟩:Ob)])[B+3]?=some (wob v):=hw.app.ob
 have hz:Qa 64 (Value.int .u8 0)=u8s (Qa 64 0):=by simp [u8s]
 have lz:(Qa 64 0).length=64:=Q9
 have sp:∀ a b:Value,splice [a] 0 [b]=[b]:=fun _ _=>rfl
 have b3:Y9 64 64 none none none=some (0,64,64):=rfl
 have e1:((i:Int)<(n:Int))=True:=eq_true (by omega)
 have w3:IntKind.i64.wrap ((i:Int)+1)=((i+1:Nat):Int):=Ws (b:=1) (by omega)
 have im:Ja B [] M=[]:=T0 fun j hj=>.inr (k7 j hj)
 have im1:Ja B [] [B+3]=[]:=Xv (by simp)
 have im2:Ja B [] [G.length]=[]:=Xv (by have:=hw.kl (B+3) ⟨by omega,by omega⟩; simp; omega)
 unfold wob at *
 clear h3 hf hL hB hw hi k6 k9 he hx
 generalize Qa 64 0=Z at *
 generalize u8s L.flatten=LF at *
 generalize hik:i*64=ik at *
 generalize hi1:i+1=i1 at *
 simp only [Qkn,Qc5,↓Zl,Z6,quiet,cF,↓pF,reduceCtorEq,Qd,Qq,Zn,Zi,Zm,Zh,Ze,Qf,Q0,Qg,Q2,Q8,Q7,↓Zo,↓Zk,↓Zq,↓Zt,↓Zr,↓Zs,cL,Qp,Qo,Qz,Qy,Qv,Qn,Qm,Qx,Qe,Q5,Q6,Qw,Qk,Qj,Qi,Qu,Qt,Qs,Ql,Qh,cJ,hz,hik,hi1,e1,w3,g0,g00,c1,c2,o1,o2,k1,k2,k3,k4,k5,sp,b3,im,im1,im2,lP,lz,Xo,Xe,Kb,Yb,Kc,Zv,Q9,V4]
theorem Qv6 {B n:Nat} {pv:Value} {G0 G:List Ob} {L:List (List Nat)} {t:List Nat} (hs:Sq G0 64 (u8s L.flatten) n pv) (hB:∀ id,(∃ o,G0[id]?=some o)→pv.slBlock id→id<B) (hL:∀ x∈L,x.length=64) (hn:L.length=n) (hm:n≤1000) (lt:t.length≤2^30) (h:T7 B G0 G t) :
  ∃ G',Jv T B (.block 5 (.loop Qc5)) (Qkn B n pv 0 G [])=some (.normal,Qkn B n pv n G' [(94,.bool false)])∧T7 B G0 G' (t++L.flatten):=by
 obtain ⟨st,hloop,G',rfl,r⟩:=Yg (T:=T) (base:=B) (id:=5) (body:=Qc5)
  (fun k st=>∃ G,st=Qkn B n pv k G []∧T7 B G0 G (t++(L.take k).flatten))
  (Q:=fun st=>∃ G,st=Qkn B n pv n G [(94,.bool false)]∧T7 B G0 G (t++L.flatten))
  n (s:=Qkn B n pv 0 G []) ⟨G,rfl,by rw [Q0,Vu,Jj]; exact h⟩
  (fun k st hk hst=>by
   obtain ⟨G1,rfl,h1⟩:=hst
   obtain ⟨P,hP⟩:∃ P,L[k]?=some P:=⟨_,Q3 (by omega)⟩
   have lk:(L.take k).flatten.length=k*64:=by rw [Uz (n:=64) fun x hx=>hL x (Kr hx),Jy,Kx (by omega)]
   obtain ⟨G2,b0,b1⟩:=Q0h hs hB hL hP hk hm (by rw [Za,lk]; omega) h1
   refine ⟨_,b0,G2,rfl,?_⟩
   rw [V3,hP,Vh,←Zw]
   simpa using b1)
  (fun st hst=>by
   obtain ⟨G1,rfl,h1⟩:=hst
   refine ⟨_,?_,G1,rfl,by rwa [Zj (by omega)] at h1⟩
   simp only [Qkn,Qc5,↓Zl,Z6,quiet,cF,↓pF,reduceCtorEq,Qd,Qq,Zn,Zi,Zm,Zh,Ze,Qf,Q0,Qg,Q2,Q8,Q7,↓Zo,↓Zk,↓Zq,↓Zt,↓Zr,↓Zs,cL,Qp,Qo,Qz,Qy,Qv,Qn,Qm,Qx,Qe,Q5,Q6,Qw,Qk,Qj,Qi,Qu,Qt,Qs,Ql,Qh,cJ])
 exact ⟨G',hloop,r⟩
def Qko (B n:Nat) (pv:Value) (i:Nat) (G:List Ob) (ex:Env):St:=⟨[(1,.pointer (some ⟨B,0,none⟩)),(4,.pointer (some ⟨B+1,0,none⟩)),(6,.pointer (some ⟨B+3,0,none⟩)),(81,pv),(82,.int .i64 n),(83,.int .i64 i)]++ex,G,[]⟩
def ns32 (L:List Nat):List Value:=L.map fun n=>.int .u32 (n:Nat)
theorem Q0i {B n i x:Nat} {pv:Value} {G0 G:List Ob} {L:List Nat} {t:List Nat} (hs:Sq G0 1 (ns32 L) n pv) (hB:∀ id,(∃ o,G0[id]?=some o)→pv.slBlock id→id<B) (hi:L[i]?=some x) (hin:i<n) (hn:n≤1000) (lt:t.length≤2^40) (h:T7 B G0 G t) :
  ∃ G',Jv T B Qc4 (Qko B n pv i G [])=some (.normal,Qko B n pv (i+1) G' [])∧T7 B G0 G' (t++id4 x):=by
 rcases hs with ⟨-,rfl,-⟩ | ⟨id,c,w,e,s,rfl,h2,h3⟩
 ·omega
 obtain ⟨v,hw,hf⟩:=h
 have hid:id<B:=hB id ⟨_,h2⟩ rfl
 have g0:G[id]?=some ⟨ns32 L,true,w,e,s⟩:=(hf id ⟨by omega,by omega⟩ (by omega)).trans h2
 have c1:(ns32 L)[i]?=some (.int .u32 (x:Nat)):=by rw [ns32,Wq,hi]; rfl
 obtain ⟨v',G',M,k1,k2,k3,k4,k5⟩:=Qll (n:=x) hw (by omega)
 refine ⟨_,?_,v',k2,fun j hj hne=>by rw [k5 j hj hne]; exact hf j hj hne⟩
 have e1:((i:Int)<(n:Int))=True:=eq_true (by omega)
 have w3:IntKind.i64.wrap ((i:Int)+1)=((i+1:Nat):Int):=Ws (b:=1) (by omega)
 have im:Ja B [] M=[]:=T0 k4
 have j1:i*1=i:=Xg i
 clear h3 hf hB hw hi k2 k4 k5
 generalize ns32 L=LF at *
 generalize hi1:i+1=i1 at *
 simp only [Qko,Qc4,↓Zl,Z6,quiet,cF,↓pF,reduceCtorEq,Qd,Qq,Zn,Zi,Zm,Zh,Ze,Qf,Q0,Qg,Q2,Q8,Q7,↓Zo,↓Zk,↓Zq,↓Zt,↓Zr,↓Zs,cL,Qp,Qo,Qz,Qy,Qv,Qn,Qm,Qx,Qe,Q5,Q6,Qw,Qk,Qj,Qi,Qu,Qt,Qs,Ql,Qh,cJ,hi1,j1,e1,w3,g0,c1,k1,im,Xo,Xe,Kb,Yb,Kc,Zv,Q9,V4]
theorem Qv8 {B n:Nat} {pv:Value} {G0 G:List Ob} {L t:List Nat} (hs:Sq G0 1 (ns32 L) n pv) (hB:∀ id,(∃ o,G0[id]?=some o)→pv.slBlock id→id<B) (hn:L.length=n) (hm:n≤1000) (lt:t.length≤2^30) (h:T7 B G0 G t) :
  ∃ G',Jv T B (.block 3 (.loop Qc4)) (Qko B n pv 0 G [])=some (.normal,Qko B n pv n G' [(84,.bool false)])∧T7 B G0 G' (t++(L.map id4).flatten):=by
 obtain ⟨st,hloop,G',rfl,r⟩:=Yg (T:=T) (base:=B) (id:=3) (body:=Qc4)
  (fun k st=>∃ G,st=Qko B n pv k G []∧T7 B G0 G (t++((L.take k).map id4).flatten))
  (Q:=fun st=>∃ G,st=Qko B n pv n G [(84,.bool false)]∧T7 B G0 G (t++(L.map id4).flatten))
  n (s:=Qko B n pv 0 G []) ⟨G,rfl,by rw [Q0,W8,Vu,Jj]; exact h⟩
  (fun k st hk hst=>by
   obtain ⟨G1,rfl,h1⟩:=hst
   obtain ⟨x,hx⟩:∃ x,L[k]?=some x:=⟨_,Q3 (by omega)⟩
   have lk:((L.take k).map id4).flatten.length=k*4:=by
    rw [Uz (n:=4) fun x hx=>by obtain ⟨y,-,rfl⟩:=Uh.1 hx; rfl,Uu,Jy,Kx (by omega)]
   obtain ⟨G2,b0,b1⟩:=Q0i hs hB hx hk hm (by rw [Za,lk]; omega) h1
   refine ⟨_,b0,G2,rfl,?_⟩
   rw [V3,hx,By,Vh,←Zw]
   simpa using b1)
  (fun st hst=>by
   obtain ⟨G1,rfl,h1⟩:=hst
   refine ⟨_,?_,G1,rfl,by rwa [Zj (by omega)] at h1⟩
   simp only [Qko,Qc4,↓Zl,Z6,quiet,cF,↓pF,reduceCtorEq,Qd,Qq,Zn,Zi,Zm,Zh,Ze,Qf,Q0,Qg,Q2,Q8,Q7,↓Zo,↓Zk,↓Zq,↓Zt,↓Zr,↓Zs,cL,Qp,Qo,Qz,Qy,Qv,Qn,Qm,Qx,Qe,Q5,Q6,Qw,Qk,Qj,Qi,Qu,Qt,Qs,Ql,Qh,cJ])
 exact ⟨G',hloop,r⟩
theorem OutS.toK {K K':Nat→Prop} {G:List Ob} {v:Value} {t:List Nat} (h:OutS K G v t) (hk:∀ i,¬ K i→¬ K' i):OutS K' G v t:=by
 rcases h with ⟨id,h1,h0,h2⟩ | h
 ·exact .inl ⟨id,hk _ h1,h0,h2⟩
 ·exact .inr (h.toK hk)
theorem Sq.lt {G:List Ob} {es:Nat} {cs:List Value} {n:Nat} {v:Value} (h:Sq G es cs n v) (id:Nat) (hb:v.slBlock id):id<G.length:=by
 rcases h with ⟨rfl,-⟩ | ⟨j,c,w,e,s,rfl,h2,-⟩
 ·exact hb.elim
 ·have:j=id:=hb
  subst this
  exact (Q1.1 h2).1
structure DPart (H:List Ob) (v:Value) (l:List Nat):Prop where
 shape:∃ (a:Option Addr) (c:Nat),v=.slice a l.length c
 reads:∀ G:List Ob,(∀ i,i<H.length→G[i]?=H[i]?)→elemsOf G 1 l.length v=some (u8s l)
theorem DPart.app {H m:List Ob} {v:Value} {l:List Nat} (h:DPart H v l):DPart (H++m) v l :=
 ⟨h.shape,fun G hg=>h.reads G fun i hi=>(hg i (by rw [Za]; omega)).trans (Qc hi)⟩
structure FrV (H:List Ob) (ka na sa da:Value) (kl:List (List Nat)) (nl:List Nat) (sl:List (List Nat)) (dl:List Nat):Prop where
 kz:Sq H 32 (u8s kl.flatten) kl.length ka
 kx:∀ x∈kl,x.length=32
 nz:Sq H 1 (ns32 nl) nl.length na
 sz:Sq H 64 (u8s sl.flatten) sl.length sa
 sx:∀ x∈sl,x.length=64
 dz:DPart H da dl
def frB (k:Int) (kl:List (List Nat)) (nl:List Nat) (sl:List (List Nat)) (dl:List Nat) (d:Bool):List Nat:=[k.toNat]++kl.flatten++(nl.map id4).flatten++sl.flatten++(if d then id4 dl.length++dl else [])
def frE (k:Int) (a b c n:Nat):Int:=match shp k with
 | none=>110
 | some (x,y,z,d)=>if a=x∧b=y∧c=z∧(d=true∨n=0) then (if 16384<n then 2 else 0) else 110
theorem Qxy {k:Int} {x y z:Nat} {d:Bool} (h:shp k=some (x,y,z,d)):IntKind.u8.wrap k=((k.toNat:Nat):Int)∧k.toNat<256∧x≤4∧y≤3∧z≤1:=by
 unfold shp at h
 repeat' split at h
 all_goals first | (cases h; subst_vars; decide) | cases h
theorem Ql2 {H:List Ob} {k:Int} {ka na sa da:Value} {kl:List (List Nat)} {nl:List Nat} {sl:List (List Nat)} {dl:List Nat} (h:FrV H ka na sa da kl nl sl dl) :
  ∃ v l,Vv T 23 [.agg #[.int .i64 k,ka,na,sa,da]] H=some (.tuple #[v,.int .i64 (frE k kl.length nl.length sl.length dl.length)],H++l,[]) ∧
   ((∀ x y z d,shp k=some (x,y,z,d)→frE k kl.length nl.length sl.length dl.length=0→OutS (LtN H.length) (H++l) v (frB k kl nl sl dl d))∧(frE k kl.length nl.length sl.length dl.length≠0→v=.slice none 0 0)):=by
 have hsv:=Q2a k
 obtain ⟨_,_,sk⟩:=h.kz.shape
 obtain ⟨_,_,sn⟩:=h.nz.shape
 obtain ⟨_,_,ss⟩:=h.sz.shape
 obtain ⟨_,_,sd⟩:=h.dz.shape
 have n1:vLen false ka=some (.int .i64 kl.length):=by rw [sk]; rfl
 have n2:vLen false na=some (.int .i64 nl.length):=by rw [sn]; rfl
 have n3:vLen false sa=some (.int .i64 sl.length):=by rw [ss]; rfl
 have n4:vLen false da=some (.int .i64 dl.length):=by rw [sd]; rfl
 have hd4:Go.Ev.lenV da=some dl.length:=by rw [sd]; rfl
 clear sk sn ss sd
 have z4:fillL [Value.int .i64 0,.int .i64 0,.int .i64 0,.bool false] []=some [Value.int .i64 0,.int .i64 0,.int .i64 0,.bool false]:=rfl
 have sp4:∀ (a b c d e f g h:Value),splice [a,b,c,d] 0 [e,f,g,h]=[e,f,g,h]:=fun _ _ _ _ _ _ _ _=>rfl
 have g0:∀ o1:Ob,(H++[o1])[H.length]?=some o1:=fun _=>by rw [Qr (Zf _),Jc]; rfl
 have g00:∀ o1 o2:Ob,(H++[o1,o2])[H.length]?=some o1:=fun _ _=>by rw [Qr (Zf _),Jc]; rfl
 have g01:∀ o1 o2:Ob,(H++[o1,o2])[H.length+1]?=some o2:=fun _ _=>by rw [Qr (by omega),Z0]; rfl
 have t01:∀ o1 o2 o:Ob,(H++[o1,o2]).set (H.length+1) o=H++[o1,o]:=fun _ _ _=>by rw [Yf _ _ (by omega),Z0]; rfl
 have im1:∀ i,Ja H.length [] [H.length+i]=[]:=fun i=>Xv (by simp)
 have ok1:∀ L:List Value,(Value.agg L.toArray).cells.toList=L:=fun _=>rfl
 have ok2:∀ L:List Value,(Value.agg L.toArray).cells.size=L.length:=fun _=>rfl
 have ok3:∀ L:List Value,okVar (Value.agg L.toArray)=true:=fun _=>rfl
 have cl0:∀ v:Value,[Value.int .i64 k,ka,na,sa,da][0]?=some (.int .i64 k):=fun _=>rfl
 have bad:∀ c:Int,c≠0→frE k kl.length nl.length sl.length dl.length=c→(∃ l,Vv T 23 [.agg #[.int .i64 k,ka,na,sa,da]] H=some (.tuple #[.slice none 0 0,.int .i64 c],H++l,[])) →
   ∃ v l,Vv T 23 [.agg #[.int .i64 k,ka,na,sa,da]] H=some (.tuple #[v,.int .i64 (frE k kl.length nl.length sl.length dl.length)],H++l,[]) ∧
    ((∀ x y z d,shp k=some (x,y,z,d)→frE k kl.length nl.length sl.length dl.length=0→OutS (LtN H.length) (H++l) v (frB k kl nl sl dl d))∧(frE k kl.length nl.length sl.length dl.length≠0→v=.slice none 0 0)):=by
  rintro c hc he ⟨l,hl⟩
  exact ⟨_,l,by rw [he]; exact hl,fun _ _ _ _ _ h0=>absurd (he.symm.trans h0) hc,fun _=>rfl⟩
 obtain hsh | ⟨x,y,z,d,hsh⟩:shp k=none∨∃ x y z d,shp k=some (x,y,z,d):=by
  rcases shp k with _ | ⟨x,y,z,d⟩
  ·exact .inl rfl
  ·exact .inr ⟨x,y,z,d,rfl⟩
 ·have rfv:rf (.tuple #[.agg #[Value.int .i64 0,.int .i64 0,.int .i64 0,.bool false],.int .i64 110])=true:=rfl
  rw [hsh] at hsv
  have hv:shV 0 0 0 false=[Value.int .i64 0,.int .i64 0,.int .i64 0,.bool false]:=rfl
  simp only [hv] at hsv
  refine bad 110 (by decide) (by unfold frE; rw [hsh]) (Z4 ?_ ?_)
  rotate_left
  ·rw [Z5 (fn:=Qb5) rfl]
   simp only [Qb5,↓Zl,Z6,quiet,cF,↓pF,reduceCtorEq,Qd,Qq,Zn,Zi,Zm,Zh,Ze,Qf,Q0,Qg,Q2,Q8,Q7,↓Zo,↓Zk,↓Zq,↓Zt,↓Zr,↓Zs,cL,Qp,Qo,Qz,Qy,Qv,Qn,Qm,Qx,Qe,Q5,Q6,Qw,Qk,Qj,Qi,Qu,Qt,Qs,Ql,Qh,cJ,hsv,rfv,g0,g00,g01,t01,im1,ok1,ok2,ok3,n1,n2,n3,n4,z4,sp4]
   rfl
 ·rw [hsh] at hsv
  simp only [shV] at hsv
  have rfv:rf (.tuple #[.agg #[Value.int .i64 x,.int .i64 y,.int .i64 z,.bool d],.int .i64 0])=true:=rfl
  obtain ⟨wk,kb,lx,ly,lz⟩:=Qxy hsh
  by_cases q1:kl.length=x
  ·have b1:(((kl.length:Nat):Int) != (x:Int))=false:=by simp; omega
   by_cases q2:nl.length=y
   ·have b2:(((nl.length:Nat):Int) != (y:Int))=false:=by simp; omega
    by_cases q3:sl.length=z
    ·have b3:(((sl.length:Nat):Int) != (z:Int))=false:=by simp; omega
     obtain ⟨G0,hG0⟩:∃ X,X=H++[(⟨[.int .i64 k,ka,na,sa,da],true,true,true,1⟩:Ob),⟨[.int .i64 x,.int .i64 y,.int .i64 z,.bool d],true,true,true,1⟩,⟨u8s [k.toNat],true,true,true,1⟩,wob (.slice (some ⟨H.length+2,0,none⟩) 1 1)]:=⟨_,rfl⟩
     have lG0:G0.length=H.length+4:=by rw [hG0]; simp
     have gi:∀ j o,[(⟨[.int .i64 k,ka,na,sa,da],true,true,true,1⟩:Ob),⟨[.int .i64 x,.int .i64 y,.int .i64 z,.bool d],true,true,true,1⟩,⟨u8s [k.toNat],true,true,true,1⟩,wob (.slice (some ⟨H.length+2,0,none⟩) 1 1)][j]?=some o→G0[H.length+j]?=some o:=fun j o hj=>by rw [hG0,Qr (by omega),Z0]; exact hj
     have inv0:T7 H.length G0 G0 [k.toNat]:=⟨_,⟨gi 3 _ rfl,⟨by omega,by omega⟩,fun i hi=>by rw [lG0]; exact hi.1,.inl ⟨H.length+2,fun hh=>hh.2 rfl,rfl,gi 2 _ rfl⟩⟩,fun _ _ _=>rfl⟩
     have hap:∀ {es cs n v},Sq H es cs n v→Sq G0 es cs n v:=fun hh=>by rw [hG0]; exact hh.app
     have lkf:kl.flatten.length≤1000:=by rw [Uz h.kx]; omega
     have lnf:(nl.map id4).flatten.length≤1000:=by rw [Uz (n:=4) fun x hx=>by obtain ⟨y,-,rfl⟩:=Uh.1 hx; rfl,Uu]; omega
     have lsf:sl.flatten.length≤1000:=by rw [Uz h.sx]; omega
     obtain ⟨G1,m1,i1⟩:=Qv9 (hap h.kz) (fun id _ hb=>h.kz.lt id hb) h.kx rfl (by omega) (by show 1≤_; decide) inv0
     obtain ⟨G2,m2,i2⟩:=Qv8 (hap h.nz) (fun id _ hb=>h.nz.lt id hb) rfl (by omega) (by simp only [Za,Zx,Z3]; omega) i1
     obtain ⟨G3,m3,i3⟩:=Qv6 (hap h.sz) (fun id _ hb=>h.sz.lt id hb) h.sx rfl (by omega) (by simp only [Za,Zx,Z3]; omega) i2
     have fr:∀ {G t},T7 H.length G0 G t→G[H.length]?=some ⟨[.int .i64 k,ka,na,sa,da],true,true,true,1⟩∧G[H.length+1]?=some ⟨[.int .i64 x,.int .i64 y,.int .i64 z,.bool d],true,true,true,1⟩∧(∀ i,i<H.length→G[i]?=H[i]?):=fun ⟨_,_,hf⟩ =>
      ⟨(hf _ ⟨by omega,by omega⟩ (by omega)).trans (gi 0 _ rfl),(hf _ ⟨by omega,by omega⟩ (by omega)).trans (gi 1 _ rfl),fun i hi=>by rw [hf i ⟨by omega,by omega⟩ (by omega),hG0,Qc hi]⟩
     obtain ⟨p10,p11,-⟩:=fr i1
     obtain ⟨p20,p21,-⟩:=fr i2
     obtain ⟨p30,p31,p32⟩:=fr i3
     have F0:H++[(⟨[.int .i64 k,ka,na,sa,da],true,true,true,1⟩:Ob),⟨[.int .i64 x,.int .i64 y,.int .i64 z,.bool d],true,true,true,1⟩,⟨u8s [k.toNat],true,true,true,1⟩,⟨[.slice (some ⟨H.length+2,0,none⟩) 1 1],true,true,true,1⟩]=G0:=hG0.symm
     have p00:G0[H.length]?=_:=gi 0 _ rfl
     have p01:G0[H.length+1]?=_:=gi 1 _ rfl
     have fk1:fillL [Value.int .u8 0] [(0,1,.int .u8 (k.toNat:Nat))]=some (u8s [k.toNat]):=rfl
     have fw1:∀ a:Addr,fillL [Value.slice none 0 0] [(0,1,.slice (some a) 1 1)]=some [.slice (some a) 1 1]:=fun _=>rfl
     have s1:∀ a b:Value,splice [a] 0 [b]=[b]:=fun _ _=>rfl
     have e3:∀ o1 o2 o3:Ob,(H++[o1,o2,o3])[H.length]?=some o1:=fun _ _ _=>by rw [Qr (Zf _),Jc]; rfl
     have e4:∀ o1 o2 o3 o4:Ob,(H++[o1,o2,o3,o4])[H.length+3]?=some o4:=fun _ _ _ _=>by rw [Qr (by omega),Z0]; rfl
     have e5:∀ o1 o2 o3 o4 o:Ob,(H++[o1,o2,o3,o4]).set (H.length+3) o=H++[o1,o2,o3,o]:=fun _ _ _ _ _=>by rw [Yf _ _ (by omega),Z0]; rfl
     simp only [Qkp,Qko,Qkn,Zg,Zc,show ((0:Nat):Int)=0 from rfl] at m1 m2 m3
     obtain ⟨v3,w3,f3⟩:=i3
     have lt3:([k.toNat]++kl.flatten++(nl.map id4).flatten++sl.flatten).length≤4000:=by simp only [Za,Zx,Z3]; omega
     cases d
     ·by_cases q4:dl.length=0
      ·have c1:((0:Int)<(dl.length:Int))=False:=eq_false (by omega)
       have c2:((16384:Int)<(dl.length:Int))=False:=eq_false (by omega)
       have hE:frE k kl.length nl.length sl.length dl.length=0:=by
        unfold frE; rw [hsh]; simp only [q1,q2,q3,q4,and_self,or_true,if_true]; rfl
       obtain ⟨l,hl⟩:=Ux (by have:=w3.kl (H.length+3) ⟨by omega,by omega⟩; omega) p32
       have ow:=w3.ob
       unfold wob at ow
       refine ⟨v3,l,?_,fun _ _ _ _ e _ => ?_,fun hh=>absurd hE hh⟩
       ·rw [hE,←hl]
        clear i1 i2 inv0 gi fr hG0 hap f3 w3 p32 lt3
        rw [Z5 (fn:=Qb5) rfl]
        simp only [Qb5,↓Zl,Z6,quiet,cF,↓pF,reduceCtorEq,Qd,Qq,Zn,Zi,Zm,Zh,Ze,Qf,Q0,Qg,Q2,Q8,Q7,↓Zo,↓Zk,↓Zq,↓Zt,↓Zr,↓Zs,cL,Qp,Qo,Qz,Qy,Qv,Qn,Qm,Qx,Qe,Q5,Q6,Qw,Qk,Qj,Qi,Qu,Qt,Qs,Ql,Qh,cJ,hsv,rfv,g0,g00,g01,t01,im1,ok1,ok2,ok3,n1,n2,n3,n4,z4,sp4,b1,b2,b3,c1,c2,wk,fk1,fw1,s1,e3,e4,e5,F0,p00,p01,m1,p10,p11,m2,p20,p21,m3,p30,p31,ow]
       ·rw [hsh] at e
        cases e
        rw [←hl]
        refine OutS.toK (K:=KE H.length) ?_ (fun i hi h'=>hi ⟨by have:i<H.length:=h'; omega,by have:i<H.length:=h'; omega⟩)
        have:=w3.out
        simpa [frB] using this
      ·have c1:((0:Int)<(dl.length:Int))=True:=eq_true (by omega)
       refine bad 110 (by decide) (by unfold frE; rw [hsh]; exact if_neg fun hh=>by rcases hh.2.2.2 with hh | hh; cases hh; exact q4 hh) (Z4 ?_ ?_)
       rotate_left
       ·rw [Z5 (fn:=Qb5) rfl]
        simp only [Qb5,↓Zl,Z6,quiet,cF,↓pF,reduceCtorEq,Qd,Qq,Zn,Zi,Zm,Zh,Ze,Qf,Q0,Qg,Q2,Q8,Q7,↓Zo,↓Zk,↓Zq,↓Zt,↓Zr,↓Zs,cL,Qp,Qo,Qz,Qy,Qv,Qn,Qm,Qx,Qe,Q5,Q6,Qw,Qk,Qj,Qi,Qu,Qt,Qs,Ql,Qh,cJ,hsv,rfv,g0,g00,g01,t01,im1,ok1,ok2,ok3,n1,n2,n3,n4,z4,sp4,b1,b2,b3,c1]
        rfl
     ·by_cases q4:16384<dl.length
      ·have c2:((16384:Int)<(dl.length:Int))=True:=eq_true (by omega)
       refine bad 2 (by decide) (by unfold frE; rw [hsh]; simp only [q1,q2,q3,q4,and_self,true_or,if_true]) (Z4 ?_ ?_)
       rotate_left
       ·rw [Z5 (fn:=Qb5) rfl]
        simp only [Qb5,↓Zl,Z6,quiet,cF,↓pF,reduceCtorEq,Qd,Qq,Zn,Zi,Zm,Zh,Ze,Qf,Q0,Qg,Q2,Q8,Q7,↓Zo,↓Zk,↓Zq,↓Zt,↓Zr,↓Zs,cL,Qp,Qo,Qz,Qy,Qv,Qn,Qm,Qx,Qe,Q5,Q6,Qw,Qk,Qj,Qi,Qu,Qt,Qs,Ql,Qh,cJ,hsv,rfv,g0,g00,g01,t01,im1,ok1,ok2,ok3,n1,n2,n3,n4,z4,sp4,b1,b2,b3,c2]
        rfl
      ·have c2:((16384:Int)<(dl.length:Int))=False:=eq_false (by omega)
       have hE:frE k kl.length nl.length sl.length dl.length=0:=by
        unfold frE; rw [hsh]; simp only [q1,q2,q3,q4,and_self,true_or,if_true,if_false]
       obtain ⟨v4,G4,M4,k1,k2,k3,k4,k5⟩:=Qll (n:=dl.length) w3 (by omega)
       have im4:Ja H.length [] M4=[]:=T0 k4
       have p42:∀ i,i<H.length→G4[i]?=H[i]? := fun i hi=>(k5 i ⟨by omega,by omega⟩ (by omega)).trans (p32 i hi)
       have p40:=(k5 H.length ⟨by omega,by omega⟩ (by omega)).trans p30
       obtain ⟨v5,G5,M5,j1,j2,j3,j4,j5,j6,j7,j8,j9⟩:=k2.put hd4 (h.dz.reads G4 p42) (by rw [Za]; show _+4+_≤_; omega)
       have im5:Ja H.length [] M5=[]:=T0 fun i hi=>.inr (j7 i hi)
       have im3:Ja H.length [] [H.length+3]=[]:=im1 3
       obtain ⟨l,hl⟩:∃ l,G5.set (H.length+3) (wob v5)=H++l:=Ux (by have:=k2.kl (H.length+3) ⟨by omega,by omega⟩; rw [Jp]; omega) fun i hi=>(j9 i ⟨by omega,by omega⟩ (by omega)).trans (p42 i hi)
       have ow4:=k2.ob
       have ow5:=j6.ob
       have wu:IntKind.u32.wrap (dl.length:Int)=(dl.length:Nat):=by
        have:=Qqy (n:=dl.length) (by omega)
        exact this
       refine ⟨v5,l,?_,fun _ _ _ _ e _ => ?_,fun hh=>absurd hE hh⟩
       ·rw [hE,←hl]
        unfold wob at *
        clear i1 i2 inv0 gi fr hG0 hap f3 w3 p32 lt3 k2 j6 k4 k5 j7 j9 p42
        rw [Z5 (fn:=Qb5) rfl]
        simp only [Qb5,↓Zl,Z6,quiet,cF,↓pF,reduceCtorEq,Qd,Qq,Zn,Zi,Zm,Zh,Ze,Qf,Q0,Qg,Q2,Q8,Q7,↓Zo,↓Zk,↓Zq,↓Zt,↓Zr,↓Zs,cL,Qp,Qo,Qz,Qy,Qv,Qn,Qm,Qx,Qe,Q5,Q6,Qw,Qk,Qj,Qi,Qu,Qt,Qs,Ql,Qh,cJ,hsv,rfv,g0,g00,g01,t01,im1,im4,im5,im3,ok1,ok2,ok3,n1,n2,n3,n4,z4,sp4,b1,b2,b3,c2,wk,wu,fk1,fw1,s1,e3,e4,e5,F0,p00,p01,m1,p10,p11,m2,p20,p21,m3,p30,p31,k1,p40,ow4,j1,j2,j3,j4,j5,ow5]
       ·rw [hsh] at e
        cases e
        rw [←hl]
        refine OutS.toK (K:=KE H.length) ?_ (fun i hi h'=>hi ⟨by have:i<H.length:=h'; omega,by have:i<H.length:=h'; omega⟩)
        have:=j6.out
        simpa [frB] using this
    ·have b3:(((sl.length:Nat):Int) != (z:Int))=true:=by simp; omega
     refine bad 110 (by decide) (by unfold frE; rw [hsh]; exact if_neg fun hh=>q3 hh.2.2.1) (Z4 ?_ ?_)
     rotate_left
     ·rw [Z5 (fn:=Qb5) rfl]
      simp only [Qb5,↓Zl,Z6,quiet,cF,↓pF,reduceCtorEq,Qd,Qq,Zn,Zi,Zm,Zh,Ze,Qf,Q0,Qg,Q2,Q8,Q7,↓Zo,↓Zk,↓Zq,↓Zt,↓Zr,↓Zs,cL,Qp,Qo,Qz,Qy,Qv,Qn,Qm,Qx,Qe,Q5,Q6,Qw,Qk,Qj,Qi,Qu,Qt,Qs,Ql,Qh,cJ,hsv,rfv,g0,g00,g01,t01,im1,ok1,ok2,ok3,n1,n2,n3,n4,z4,sp4,b1,b2,b3]
      rfl
   ·have b2:(((nl.length:Nat):Int) != (y:Int))=true:=by simp; omega
    refine bad 110 (by decide) (by unfold frE; rw [hsh]; exact if_neg fun hh=>q2 hh.2.1) (Z4 ?_ ?_)
    rotate_left
    ·rw [Z5 (fn:=Qb5) rfl]
     simp only [Qb5,↓Zl,Z6,quiet,cF,↓pF,reduceCtorEq,Qd,Qq,Zn,Zi,Zm,Zh,Ze,Qf,Q0,Qg,Q2,Q8,Q7,↓Zo,↓Zk,↓Zq,↓Zt,↓Zr,↓Zs,cL,Qp,Qo,Qz,Qy,Qv,Qn,Qm,Qx,Qe,Q5,Q6,Qw,Qk,Qj,Qi,Qu,Qt,Qs,Ql,Qh,cJ,hsv,rfv,g0,g00,g01,t01,im1,ok1,ok2,ok3,n1,n2,n3,n4,z4,sp4,b1,b2]
     rfl
  ·have b1:(((kl.length:Nat):Int) != (x:Int))=true:=by simp; omega
   refine bad 110 (by decide) (by unfold frE; rw [hsh]; exact if_neg fun hh=>q1 hh.1) (Z4 ?_ ?_)
   rotate_left
   ·rw [Z5 (fn:=Qb5) rfl]
    simp only [Qb5,↓Zl,Z6,quiet,cF,↓pF,reduceCtorEq,Qd,Qq,Zn,Zi,Zm,Zh,Ze,Qf,Q0,Qg,Q2,Q8,Q7,↓Zo,↓Zk,↓Zq,↓Zt,↓Zr,↓Zs,cL,Qp,Qo,Qz,Qy,Qv,Qn,Qm,Qx,Qe,Q5,Q6,Qw,Qk,Qj,Qi,Qu,Qt,Qs,Ql,Qh,cJ,hsv,rfv,g0,g00,g01,t01,im1,ok1,ok2,ok3,n1,n2,n3,n4,z4,sp4,b1]
    rfl
theorem FrV.app {H m:List Ob} {ka na sa da:Value} {kl:List (List Nat)} {nl:List Nat} {sl:List (List Nat)} {dl:List Nat} (h:FrV H ka na sa da kl nl sl dl):FrV (H++m) ka na sa da kl nl sl dl :=
 ⟨h.kz.app,h.kx,h.nz.app,h.sz.app,h.sx,h.dz.app⟩
theorem Qyl {H:List Ob} {k:Int} {ka na sa da:Value} {kl:List (List Nat)} {nl:List Nat} {sl:List (List Nat)} {dl:List Nat} (h:FrV H ka na sa da kl nl sl dl) (hb:¬ (frE k kl.length nl.length sl.length dl.length=0∧k=1)) :
  ∃ l,Vv T 12 [.agg #[.int .i64 k,ka,na,sa,da]] H=some (.tuple #[.agg Ys.toArray,.int .i64 110],H++l,[]):=by
 obtain ⟨v,l,he,-⟩:=Ql2 (k:=k) (h.app (m:=[(⟨[.int .i64 k,ka,na,sa,da],true,true,true,1⟩:Ob),⟨Ys,true,true,true,1⟩]))
 obtain ⟨G,hG⟩:∃ X,X=H++[(⟨[.int .i64 k,ka,na,sa,da],true,true,true,1⟩:Ob),⟨Ys,true,true,true,1⟩]++l:=⟨_,rfl⟩
 rw [←hG] at he
 have g0:G[H.length]?=some ⟨[.int .i64 k,ka,na,sa,da],true,true,true,1⟩:=by rw [hG,Zw,Qr (Zf _),Jc,Zg,Zu]
 have g1:G[H.length+1]?=some ⟨Ys,true,true,true,1⟩:=by rw [hG,Zw,Qr (by omega),Z0]; rfl
 have g2:(G.set (H.length+1) ⟨Ys,true,true,true,1⟩)[H.length+1]?=some ⟨Ys,true,true,true,1⟩:=by rw [Jl (Q1.1 g1).1]
 obtain ⟨l',hl'⟩:∃ l',G.set (H.length+1) ⟨Ys,true,true,true,1⟩=H++l':=Ux (by rw [Jp,hG]; simp) fun i hi=>by
  rw [Z7 (by omega),hG,Zw,Qc hi]
 refine ⟨l',?_⟩
 rw [←hl']
 have fz:fillL Ys []=some Ys:=rfl
 have nz:Ys.length=194:=by rw [Ds]; simp [Y3,Zv]
 have tz:Kw 194 Ys=Ys:=Zj (by rw [nz]; decide)
 have sz:splice Ys 0 Ys=Ys:=Kt rfl
 have ok1:∀ L:List Value,(Value.agg L.toArray).cells.toList=L:=fun _=>rfl
 have ok2:∀ L:List Value,(Value.agg L.toArray).cells.size=L.length:=fun _=>rfl
 have ok3:∀ L:List Value,okVar (Value.agg L.toArray)=true:=fun _=>rfl
 have e0:∀ o1 o2:Ob,(H++[o1,o2])[H.length]?=some o1:=fun _ _=>by rw [Qr (Zf _),Jc]; rfl
 have im1:Ja H.length [] [H.length+1]=[]:=Xv (by simp)
 have cl5:Kw 5 [Value.int .i64 k,ka,na,sa,da]=[.int .i64 k,ka,na,sa,da]:=rfl
 clear hG hl'
 by_cases h0:frE k kl.length nl.length sl.length dl.length=0
 ·have b1:(k != 1)=true:=by simpa using fun hk=>hb ⟨h0,hk⟩
  rw [h0] at he
  rw [Z5 (fn:=Qsv) rfl]
  simp only [Qsv,↓Zl,Z6,quiet,cF,↓pF,reduceCtorEq,Qd,Qq,Zn,Zi,Zm,Zh,Ze,Qf,Q0,Qg,Q2,Q8,Q7,↓Zo,↓Zk,↓Zq,↓Zt,↓Zr,↓Zs,cL,Qp,Qo,Qz,Qy,Qv,Qn,Qm,Qx,Qe,Q5,Q6,Qw,Qk,Qj,Qi,Qu,Qt,Qs,Ql,Qh,cJ,he,e0,g0,g1,g2,fz,nz,tz,sz,b1,im1,cl5,ok1,ok2,ok3]
 ·have b1:(frE k kl.length nl.length sl.length dl.length != 0)=true:=by simpa using h0
  generalize frE k kl.length nl.length sl.length dl.length=E at *
  rw [Z5 (fn:=Qsv) rfl]
  simp only [Qsv,↓Zl,Z6,quiet,cF,↓pF,reduceCtorEq,Qd,Qq,Zn,Zi,Zm,Zh,Ze,Qf,Q0,Qg,Q2,Q8,Q7,↓Zo,↓Zk,↓Zq,↓Zt,↓Zr,↓Zs,cL,Qp,Qo,Qz,Qy,Qv,Qn,Qm,Qx,Qe,Q5,Q6,Qw,Qk,Qj,Qi,Qu,Qt,Qs,Ql,Qh,cJ,he,e0,g0,g1,g2,fz,nz,tz,sz,b1,im1,cl5,ok1,ok2,ok3]
end Go.Ev.Ytpgphpkjlpkcbaa
namespace Go.Ev.Ytpgphpkjlpkcbaa
open Go Go.Ev
attribute [local congr] Wp W0 Wo W3 Wh
set_option maxRecDepth 100000
theorem Sq.some_of {G:List Ob} {es:Nat} {cs:List Value} {n:Nat} {v:Value} (h:Sq G es cs n v) (hn:0<n):∃ id c w e s,v=.slice (some ⟨id,0,none⟩) n c∧G[id]?=some ⟨cs,true,w,e,s⟩∧cs.length=n*es:=by
 rcases h with ⟨-,h,-⟩ | h
 ·omega
 ·exact h
theorem Q2n {H:List Ob} {ka na sa da:Value} {k0 k1 k2 k3 g:List Nat} {i j:Nat} (h:FrV H ka na sa da [k0,k1,k2,k3] [i,j] [g] []) :
  ∃ l,Vv T 12 [.agg #[.int .i64 1,ka,na,sa,da]] H=some (.tuple #[.agg (Y3 (k0++k1) k2 k3 i j g).toArray,.int .i64 0],H++l,[]):=by
 obtain ⟨v,l,he,-⟩:=Ql2 (k:=1) (h.app (m:=[(⟨[.int .i64 1,ka,na,sa,da],true,true,true,1⟩:Ob),⟨Ys,true,true,true,1⟩]))
 rw [show frE 1 [k0,k1,k2,k3].length [i,j].length [g].length ([]:List Nat).length=0 from rfl] at he
 obtain ⟨G,hG⟩:∃ X,X=H++[(⟨[.int .i64 1,ka,na,sa,da],true,true,true,1⟩:Ob),⟨Ys,true,true,true,1⟩]++l:=⟨_,rfl⟩
 rw [←hG] at he
 have l0:k0.length=32:=h.kx _ (by simp)
 have l1:k1.length=32:=h.kx _ (by simp)
 have l2:k2.length=32:=h.kx _ (by simp)
 have l3:k3.length=32:=h.kx _ (by simp)
 have lg:g.length=64:=h.sx _ (by simp)
 have hO:OffL (k0++k1) k2 k3 g:=⟨by rw [Za,l0,l1],l2,l3,lg⟩
 have nO:=Up (i:=i) (j:=j) hO
 have nz:Ys.length=194:=by rw [Ds]; simp [Y3,Zv]
 have sz:splice Ys 0 (Y3 (k0++k1) k2 k3 i j g)=Y3 (k0++k1) k2 k3 i j g:=Kt (by rw [nO,nz])
 have tO:Kw 194 (Y3 (k0++k1) k2 k3 i j g)=Y3 (k0++k1) k2 k3 i j g:=Zj (by rw [nO]; decide)
 have g0:G[H.length]?=some ⟨[.int .i64 1,ka,na,sa,da],true,true,true,1⟩:=by rw [hG,Zw,Qr (Zf _),Jc,Zg,Zu]
 have g1:G[H.length+1]?=some ⟨Ys,true,true,true,1⟩:=by rw [hG,Zw,Qr (by omega),Z0]; rfl
 have g2:(G.set (H.length+1) ⟨Y3 (k0++k1) k2 k3 i j g,true,true,true,1⟩)[H.length+1]?=some ⟨Y3 (k0++k1) k2 k3 i j g,true,true,true,1⟩:=by rw [Jl (Q1.1 g1).1]
 have gH:∀ id o,H[id]?=some o→G[id]?=some o:=fun id o ho=>by rw [hG,Zw,Qc (Q1.1 ho).1]; exact ho
 obtain ⟨l',hl'⟩:∃ l',G.set (H.length+1) ⟨Y3 (k0++k1) k2 k3 i j g,true,true,true,1⟩=H++l':=Ux (by rw [Jp,hG]; simp) fun i hi=>by
  rw [Z7 (by omega),hG,Zw,Qc hi]
 refine ⟨l',?_⟩
 rw [←hl']
 obtain ⟨kid,kc,kw,ke,ks,rfl,hk,-⟩:=h.kz.some_of (by simp)
 obtain ⟨nid,nc,nw,ne,ns',rfl,hn,-⟩:=h.nz.some_of (by simp)
 obtain ⟨sid,sc,sw,se,ss,rfl,hs,-⟩:=h.sz.some_of (by simp)
 have hk':=gH _ _ hk
 have hn':=gH _ _ hn
 have hs':=gH _ _ hs
 have a0:Kw 32 (u8s [k0,k1,k2,k3].flatten)=u8s k0:=(Gr h.kx (i:=0) rfl).1
 have a1:Kw 32 (Wc 32 (u8s [k0,k1,k2,k3].flatten))=u8s k1:=(Gr h.kx (i:=1) rfl).1
 have a2:Kw 32 (Wc 64 (u8s [k0,k1,k2,k3].flatten))=u8s k2:=(Gr h.kx (i:=2) rfl).1
 have a3:Kw 32 (Wc 96 (u8s [k0,k1,k2,k3].flatten))=u8s k3:=(Gr h.kx (i:=3) rfl).1
 have ag:Kw 64 (u8s [g].flatten)=u8s g:=(Gr h.sx (i:=0) rfl).1
 have lk:(u8s [k0,k1,k2,k3].flatten).length=128:=by rw [Zv,Uz h.kx]; rfl
 have ls:(u8s [g].flatten).length=64:=by rw [Zv,Uz h.sx]; rfl
 have an:ns32 [i,j]=[.int .u32 i,.int .u32 j]:=rfl
 rw [an] at hn'
 have q:=U6 l0 l1
 have fo:=Qsc (i:=i) (j:=j) hO
 have hz64:=Gw
 have lkk:(k0++k1).length=64:=hO.lw
 have ok1:∀ L:List Value,(Value.agg L.toArray).cells.toList=L:=fun _=>rfl
 have ok2:∀ L:List Value,(Value.agg L.toArray).cells.size=L.length:=fun _=>rfl
 have ok3:∀ L:List Value,okVar (Value.agg L.toArray)=true:=fun _=>rfl
 have e0:∀ o1 o2:Ob,(H++[o1,o2])[H.length]?=some o1:=fun _ _=>by rw [Qr (Zf _),Jc]; rfl
 have im1:Ja H.length [] [H.length+1]=[]:=Xv (by simp)
 have cl5:∀ a b c d e:Value,Kw 5 [a,b,c,d,e]=[a,b,c,d,e]:=fun _ _ _ _ _=>rfl
 have hlen:([k0,k1,k2,k3]:List (List Nat)).length=4:=rfl
 have hlen2:([i,j]:List Nat).length=2:=rfl
 have hlen3:([g]:List (List Nat)).length=1:=rfl
 rw [hlen,hlen2,hlen3] at he g0
 clear hG hl' hk hn hs h hO gH an
 generalize u8s [k0,k1,k2,k3].flatten=KF at *
 generalize u8s [g].flatten=SF at *
 generalize Y3 (k0++k1) k2 k3 i j g=O at *
 generalize k0++k1=kk at *
 generalize Qa 64 0=Z64 at *
 rw [Z5 (fn:=Qsv) rfl]
 simp only [Qsv,hlen,hlen2,hlen3,↓Zl,Z6,quiet,cF,↓pF,reduceCtorEq,Qd,Qq,Zn,Zi,Zm,Zh,Ze,Qf,Q0,Qg,Q2,Q8,Q7,↓Zo,↓Zk,↓Zq,↓Zt,↓Zr,↓Zs,cL,Qp,Qo,Qz,Qy,Qv,Qn,Qm,Qx,Qe,Q5,Q6,Qw,Qk,Qj,Qi,Qu,Qt,Qs,Ql,Qh,cJ,he,e0,g0,g1,g2,hk',hn',hs',a0,a1,a2,a3,ag,lk,ls,q,fo,hz64,sz,tO,nz,nO,l0,l1,l2,l3,lg,lkk,im1,cl5,ok1,ok2,ok3,Xo,Xe,Kb,Yb,Kc,Zv,Q9,V4]
theorem Qag {p q r v:List Nat} (h:v.length=q.length) {n:Nat} (hp:p.length=n):splice (u8s (p++(q++r))) n (u8s v)=u8s (p++(v++r)):=by
 have:=Gq (a:=u8s p) (b:=u8s (q++r)) (v:=u8s v) (n:=n) (k:=0) (by rw [Zv,hp]) (by rw [Zv,Zv,Za]; omega)
 rw [Jk] at this
 rw [Wg,this,Wg q,Mo (by rw [Zv,Zv,h]),←Wg,←Wg]
theorem Qwf {a b c d:List Nat} (la:a.length=32) (lb:b.length=32) (lc:c.length=32) (ld:d.length=32):fillL (Qa 128 (Value.int .u8 0)) [(0,32,.agg (u8s a).toArray),(32,32,.agg (u8s b).toArray),(64,32,.agg (u8s c).toArray),(96,32,.agg (u8s d).toArray)]=some (u8s [a,b,c,d].flatten):=by
 have hz:Qa 128 (Value.int .u8 0)=u8s (zK++(zK++(zK++(zK++[])))):=rfl
 have ct:∀ l:List Nat,(Value.agg (u8s l).toArray).cells.toList=u8s l:=fun _=>rfl
 have lz:=Qab
 have L:∀ {w x y z:List Nat},w.length=32→x.length=32→y.length=32→z.length=32→(u8s (w++(x++(y++(z++[]))))).length=128:=fun hw hx hy hz=>by simp [Zv,hw,hx,hy,hz]
 have e1:=Qag (p:=[]) (q:=zK) (v:=a) (r:=zK++(zK++(zK++[]))) (la.trans lz.symm) (n:=0) rfl
 have e2:=Qag (p:=a) (q:=zK) (v:=b) (r:=zK++(zK++[])) (lb.trans lz.symm) la
 have e3:=Qag (p:=a++b) (q:=zK) (v:=c) (r:=zK++[]) (lc.trans lz.symm) (n:=64) (by rw [Za,la,lb])
 have e4:=Qag (p:=a++(b++c)) (q:=zK) (v:=d) (r:=[]) (ld.trans lz.symm) (n:=96) (by rw [Za,Za,la,lb,lc])
 simp only [Zw,Zc] at e1 e2 e3 e4
 rw [hz,Gs (D8 la) (by rw [L lz lz lz lz]; decide) rfl,ct,e1,Gs (D8 lb) (by rw [L la lz lz lz]; decide) rfl,ct,e2,
  Gs (D8 lc) (by rw [L la lb lz lz]; decide) rfl,ct,e3,Gs (D8 ld) (by rw [L la lb lc lz]; decide) rfl,ct,e4]
 rfl
def Qr9 (w p o g:List Nat) (i j:Nat) (B:Nat):List Ob:=[⟨Y3 w p o i j g,true,true,true,1⟩,⟨[.int .i64 1,.slice (some ⟨B+2,0,none⟩) 4 4,.slice (some ⟨B+3,0,none⟩) 2 2,.slice (some ⟨B+4,0,none⟩) 1 1,.slice none 0 0],true,true,true,1⟩,⟨u8s [w.take 32,w.drop 32,p,o].flatten,true,true,true,1⟩,⟨ns32 [i,j],true,true,true,1⟩,⟨u8s [g].flatten,true,true,true,1⟩]
theorem Q0k {H:List Ob} {w p o g:List Nat} {i j:Nat} (h:OffL w p o g) :
  Vv T 15 [.agg (Y3 w p o i j g).toArray] H=some (.agg #[.int .i64 1,.slice (some ⟨H.length+2,0,none⟩) 4 4,.slice (some ⟨H.length+3,0,none⟩) 2 2,.slice (some ⟨H.length+4,0,none⟩) 1 1,.slice none 0 0],H++Qr9 w p o g i j H.length,[]):=by
 have l1:(w.take 32).length=32:=by rw [Jy,h.lw]; rfl
 have l2:(w.drop 32).length=32:=by rw [Xs,h.lw]
 have lp:=h.lp
 have lo:=h.lo
 have lg:=h.lg
 have n0:=Up (i:=i) (j:=j) h
 have r1:=Qlg (i:=i) (j:=j) h
 have r2:=Qam (i:=i) (j:=j) h
 have r3:=Qem (i:=i) (j:=j) h
 have r4:=Qlj (i:=i) (j:=j) h
 have r5:=Qo4 (i:=i) (j:=j) h
 obtain ⟨r6,r7⟩:=Qen (i:=i) (j:=j) h
 have f4:=Qwf l1 l2 lp lo
 have f1:=Qjf lg
 rw [Gw] at f1
 have hz64:=Gw
 have fg:[g].flatten=g:=by simp
 have f2:fillL [Value.int .u32 0,.int .u32 0] [(0,1,.int .u32 (i:Int)),(1,1,.int .u32 (j:Int))]=some [.int .u32 (i:Int),.int .u32 (j:Int)]:=rfl
 have f5:∀ a b c:Addr,fillL [Value.int .i64 0,.slice none 0 0,.slice none 0 0,.slice none 0 0,.slice none 0 0] [(0,1,.int .i64 1),(1,1,.slice (some a) 4 4),(2,1,.slice (some b) 2 2),(3,1,.slice (some c) 1 1)]=some [.int .i64 1,.slice (some a) 4 4,.slice (some b) 2 2,.slice (some c) 1 1,.slice none 0 0]:=fun _ _ _=>rfl
 have sp5:∀ (a b c d e a' b' c' d' e':Value),splice [a,b,c,d,e] 0 [a',b',c',d',e']=[a',b',c',d',e']:=fun _ _ _ _ _ _ _ _ _ _=>rfl
 have cl5:∀ a b c d e:Value,Kw 5 [a,b,c,d,e]=[a,b,c,d,e]:=fun _ _ _ _ _=>rfl
 have e2:∀ o1 o2:Ob,(H++[o1,o2])[H.length]?=some o1:=fun _ _=>by rw [Qr (Zf _),Jc]; rfl
 have e3:∀ o1 o2 o3:Ob,(H++[o1,o2,o3])[H.length]?=some o1:=fun _ _ _=>by rw [Qr (Zf _),Jc]; rfl
 have e4:∀ o1 o2 o3 o4:Ob,(H++[o1,o2,o3,o4])[H.length]?=some o1:=fun _ _ _ _=>by rw [Qr (Zf _),Jc]; rfl
 have e5:∀ o1 o2 o3 o4 o5:Ob,(H++[o1,o2,o3,o4,o5])[H.length+1]?=some o2:=fun _ _ _ _ _=>by rw [Qr (by omega),Z0]; rfl
 have t5:∀ o1 o2 o3 o4 o5 o:Ob,(H++[o1,o2,o3,o4,o5]).set (H.length+1) o=H++[o1,o,o3,o4,o5]:=fun _ _ _ _ _ _=>by rw [Yf _ _ (by omega),Z0]; rfl
 have im1:Ja H.length [] [H.length+1]=[]:=Xv (by simp)
 have ok1:∀ L:List Value,(Value.agg L.toArray).cells.toList=L:=fun _=>rfl
 have ok2:∀ L:List Value,(Value.agg L.toArray).cells.size=L.length:=fun _=>rfl
 have ok3:∀ L:List Value,okVar (Value.agg L.toArray)=true:=fun _=>rfl
 have an:ns32 [i,j]=[.int .u32 i,.int .u32 j]:=rfl
 unfold Qr9
 rw [fg,an]
 clear h
 generalize u8s [w.take 32,w.drop 32,p,o].flatten=KF at *
 generalize Y3 w p o i j g=O at *
 generalize w.take 32=w1 at *
 generalize w.drop 32=w2 at *
 generalize Qa 64 0=Z64 at *
 rw [Z5 (fn:=Q8v) rfl]
 simp only [Q8v,↓Zl,Z6,quiet,cF,↓pF,reduceCtorEq,Qd,Qq,Zn,Zi,Zm,Zh,Ze,Qf,Q0,Qg,Q2,Q8,Q7,↓Zo,↓Zk,↓Zq,↓Zt,↓Zr,↓Zs,cL,Qp,Qo,Qz,Qy,Qv,Qn,Qm,Qx,Qe,Q5,Q6,Qw,Qk,Qj,Qi,Qu,Qt,Qs,Ql,Qh,cJ,r1,r2,r3,r4,r5,r6,r7,f4,f1,f2,f5,hz64,sp5,cl5,e2,e3,e4,e5,t5,n0,l1,l2,lp,lo,lg,im1,ok1,ok2,ok3,Xo,Xe,Kb,Yb,Kc,Zv,Q9,V4]
theorem Q7t {H:List Ob} {w p o g:List Nat} {i j:Nat} (h:OffL w p o g):FrV (H++Qr9 w p o g i j H.length) (.slice (some ⟨H.length+2,0,none⟩) 4 4) (.slice (some ⟨H.length+3,0,none⟩) 2 2) (.slice (some ⟨H.length+4,0,none⟩) 1 1) (.slice none 0 0) [w.take 32,w.drop 32,p,o] [i,j] [g] []:=by
 have l1:(w.take 32).length=32:=by rw [Jy,h.lw]; rfl
 have l2:(w.drop 32).length=32:=by rw [Xs,h.lw]
 have hk:∀ x∈[w.take 32,w.drop 32,p,o],x.length=32:=Qzt l1 l2 h.lp h.lo
 have hg:∀ x∈[g],x.length=64:=fun x hx=>by rw [W7.1 hx]; exact h.lg
 have gi:∀ m ob,(Qr9 w p o g i j H.length)[m]?=some ob→(H++Qr9 w p o g i j H.length)[H.length+m]?=some ob:=fun m ob hm=>by rw [Qr (by omega),Z0]; exact hm
 exact ⟨.inr ⟨_,4,_,_,_,rfl,gi 2 _ rfl,by rw [Zv,Uz hk]⟩,hk,.inr ⟨_,2,_,_,_,rfl,gi 3 _ rfl,rfl⟩,.inr ⟨_,1,_,_,_,rfl,gi 4 _ rfl,by rw [Zv,Uz hg]⟩,hg,⟨⟨_,_,rfl⟩,fun _ _=>rfl⟩⟩
def Q2b (a b c:Nat) (d:Bool):List Value:=[.int .i64 a,.int .i64 b,.int .i64 c,.int .i64 (if d then 1 else 0)]
theorem Qx0 (k:Int):Vw T 24 [.int .i64 k]=some (match shp k with | some (a,b,c,d)=>.tuple #[.agg (Q2b a b c d).toArray,.bool true] | none=>.tuple #[.agg (Q2b 0 0 0 false).toArray,.bool false]):=by
 have hf:∀ (a b c d:Int),fillL [Value.int .i64 0,.int .i64 0,.int .i64 0,.int .i64 0] [(0,1,.int .i64 a),(1,1,.int .i64 b),(2,1,.int .i64 c),(3,1,.int .i64 d)]=some [Value.int .i64 a,.int .i64 b,.int .i64 c,.int .i64 d]:=fun _ _ _ _=>rfl
 have f0:fillL [Value.int .i64 0,.int .i64 0,.int .i64 0,.int .i64 0] []=some [Value.int .i64 0,.int .i64 0,.int .i64 0,.int .i64 0]:=rfl
 have im:∀ k,Ja 0 [] [k]=[]:=fun k=>Xv (by simp)
 have sp:∀ (a b c d e f g h:Value),splice [a,b,c,d] 0 [e,f,g,h]=[e,f,g,h]:=fun _ _ _ _ _ _ _ _=>rfl
 obtain ⟨TB,hTB⟩:∃ X:List Value,X=[.int .i64 0,.int .i64 0,.int .i64 0,.int .i64 0,.int .i64 4,.int .i64 2,.int .i64 1,.int .i64 0,.int .i64 3,.int .i64 2,.int .i64 0,.int .i64 1,.int .i64 1,.int .i64 2,.int .i64 0,.int .i64 1,.int .i64 3,.int .i64 2,.int .i64 0,.int .i64 0,.int .i64 1,.int .i64 2,.int .i64 1,.int .i64 1,.int .i64 3,.int .i64 3,.int .i64 1,.int .i64 1,.int .i64 1,.int .i64 1,.int .i64 0,.int .i64 1]:=⟨_,rfl⟩
 have hft:∀ a b c d e f g h:List Value,a=[.int .i64 0,.int .i64 0,.int .i64 0,.int .i64 0]→b=[.int .i64 4,.int .i64 2,.int .i64 1,.int .i64 0]→c=[.int .i64 3,.int .i64 2,.int .i64 0,.int .i64 1]→d=[.int .i64 1,.int .i64 2,.int .i64 0,.int .i64 1]→e=[.int .i64 3,.int .i64 2,.int .i64 0,.int .i64 0]→f=[.int .i64 1,.int .i64 2,.int .i64 1,.int .i64 1]→g=[.int .i64 3,.int .i64 3,.int .i64 1,.int .i64 1]→h=[.int .i64 1,.int .i64 1,.int .i64 0,.int .i64 1] →
   fillL (Qa 32 (Value.int .i64 0)) [(0,4,.agg a.toArray),(4,4,.agg b.toArray),(8,4,.agg c.toArray),(12,4,.agg d.toArray),(16,4,.agg e.toArray),(20,4,.agg f.toArray),(24,4,.agg g.toArray),(28,4,.agg h.toArray)]=some TB:=by
  rintro _ _ _ _ _ _ _ _ rfl rfl rfl rfl rfl rfl rfl rfl
  rw [hTB]; rfl
 have hft':=hft _ _ _ _ _ _ _ _ rfl rfl rfl rfl rfl rfl rfl rfl
 have lT:TB.length=32:=by rw [hTB]; rfl
 have sT:splice (Qa 32 (Value.int .i64 0)) 0 TB=TB:=Kt (by rw [lT]; rfl)
 have lZ:(Qa 32 (Value.int .i64 0)).length=32:=Q9
 have rv:∀ (a b c d:Int) (t:Bool),rf (.tuple #[.agg #[.int .i64 a,.int .i64 b,.int .i64 c,.int .i64 d],.bool t])=true:=fun _ _ _ _ _=>rfl
 have hk:∀ j:Nat,j<8→0<j→∀ v:List Value,v.length=4→Kw 4 (Wc (j*4) TB)=v→∃ l,Vv T 24 [.int .i64 (j:Nat)] []=some (.tuple #[.agg v.toArray,.bool true],l,[]):=by
  intro j hj h0 v hv ht
  have c1:((j:Int)<1)=False:=eq_false (by omega)
  have c2:((7:Int)<(j:Int))=False:=eq_false (by omega)
  have c3:((j:Int)<8)=True:=eq_true (by omega)
  have c4:(j*4≤28)=True:=eq_true (by omega)
  have sv:splice [Value.int .i64 0,.int .i64 0,.int .i64 0,.int .i64 0] 0 v=v:=Kt hv
  have tv:Kw 4 v=v:=Zj (by omega)
  generalize hj4:j*4=j4 at *
  apply Z4
  rw [Z5 (fn:=Qsu) rfl]
  simp only [Qsu,↓Zl,Z6,quiet,cF,↓pF,reduceCtorEq,Qd,Qq,Zn,Zi,Zm,Zh,Ze,Qf,Q0,Qg,Q2,Q8,Q7,↓Zo,↓Zk,↓Zq,↓Zt,↓Zr,↓Zs,cL,Qp,Qo,Qz,Qy,Qv,Qn,Qm,Qx,Qe,Q5,Q6,Qw,Qk,Qj,Qi,Qu,Qt,Qs,Ql,Qh,cJ,hf,f0,hft',im,sp,lT,lZ,sT,c1,c2,c3,c4,hj4,ht,hv,sv,tv]
  rfl
 apply Ks
 by_cases h:k=1∨k=2∨k=3∨k=4∨k=5∨k=6∨k=7
 ·rcases h with rfl | rfl | rfl | rfl | rfl | rfl | rfl
  ·exact hk 1 (by decide) (by decide) _ rfl (by rw [hTB]; rfl)
  ·exact hk 2 (by decide) (by decide) _ rfl (by rw [hTB]; rfl)
  ·exact hk 3 (by decide) (by decide) _ rfl (by rw [hTB]; rfl)
  ·exact hk 4 (by decide) (by decide) _ rfl (by rw [hTB]; rfl)
  ·exact hk 5 (by decide) (by decide) _ rfl (by rw [hTB]; rfl)
  ·exact hk 6 (by decide) (by decide) _ rfl (by rw [hTB]; rfl)
  ·exact hk 7 (by decide) (by decide) _ rfl (by rw [hTB]; rfl)
 simp only [not_or] at h
 obtain ⟨h1,h2,h3,h4,h5,h6,h7⟩:=h
 have e:shp k=none:=by unfold shp; simp only [h1,h2,h3,h4,h5,h6,h7,if_false]
 rw [e]
 by_cases c0:k<1
 ·have c1:(k<1)=True:=eq_true c0
  apply Z4
  rw [Z5 (fn:=Qsu) rfl]
  simp only [Qsu,↓Zl,Z6,quiet,cF,↓pF,reduceCtorEq,Qd,Qq,Zn,Zi,Zm,Zh,Ze,Qf,Q0,Qg,Q2,Q8,Q7,↓Zo,↓Zk,↓Zq,↓Zt,↓Zr,↓Zs,cL,Qp,Qo,Qz,Qy,Qv,Qn,Qm,Qx,Qe,Q5,Q6,Qw,Qk,Qj,Qi,Qu,Qt,Qs,Ql,Qh,cJ,hf,f0,hft',im,sp,lT,lZ,sT,c1]
  rfl
 ·have c1:(k<1)=False:=eq_false c0
  have c2:((7:Int)<k)=True:=eq_true (by omega)
  apply Z4
  rw [Z5 (fn:=Qsu) rfl]
  simp only [Qsu,↓Zl,Z6,quiet,cF,↓pF,reduceCtorEq,Qd,Qq,Zn,Zi,Zm,Zh,Ze,Qf,Q0,Qg,Q2,Q8,Q7,↓Zo,↓Zk,↓Zq,↓Zt,↓Zr,↓Zs,cL,Qp,Qo,Qz,Qy,Qv,Qn,Qm,Qx,Qe,Q5,Q6,Qw,Qk,Qj,Qi,Qu,Qt,Qs,Ql,Qh,cJ,hf,f0,hft',im,sp,lT,lZ,sT,c1,c2]
  rfl
theorem Qo9 {n:Nat} (hn:n<2^32):Vw T 25 [.int .i64 n]=some (U0 (id4 n)):=by
 have d1:IntKind.i64.wrap ((n:Int).tdiv 16777216)=((n/16777216:Nat):Int):=by rw [show ((n:Int).tdiv 16777216)=((n/16777216:Nat):Int) from rfl]; exact Ym (by omega)
 have d2:IntKind.i64.wrap ((n:Int).tdiv 65536)=((n/65536:Nat):Int):=by rw [show ((n:Int).tdiv 65536)=((n/65536:Nat):Int) from rfl]; exact Ym (by omega)
 have d3:IntKind.i64.wrap ((n:Int).tdiv 256)=((n/256:Nat):Int):=by rw [show ((n:Int).tdiv 256)=((n/256:Nat):Int) from rfl]; exact Ym (by omega)
 have r0:∀ m:Nat,(m:Int).tmod 256=((m%256:Nat):Int):=fun _=>rfl
 have w8:∀ m:Nat,IntKind.u8.wrap ((m%256:Nat):Int)=((m%256:Nat):Int):=fun m=>by rw [Qbr,Tk]
 have f2:∀ x0 x1 x2 x3:Nat,fillL [Value.int .u8 0,.int .u8 0,.int .u8 0,.int .u8 0] [(0,1,.int .u8 (x0:Int)),(1,1,.int .u8 (x1:Int)),(2,1,.int .u8 (x2:Int)),(3,1,.int .u8 (x3:Int))]=some (u8s [x0,x1,x2,x3]):=fun _ _ _ _=>rfl
 have hb:=Q1e (H:=[(⟨u8s (id4 n),true,true,true,1⟩:Ob)]) (v := .slice (some ⟨0,0,none⟩) 4 4) (bs:=id4 n) (.mk (off:=0) (c:=4) (o:=⟨u8s (id4 n),true,true,true,1⟩) (l:=id4 n) rfl (by rw [Zv,Zz]; exact Zf _) (fun i x hx=>by rw [Zz]; exact Uk hx))
 have hrf:rf (U0 (id4 n))=true:=rfl
 unfold id4 at *
 simp only [Qs] at hb hrf ⊢
 generalize U0 [n/16777216%256,n/65536%256,n/256%256,n%256]=V at *
 have q1:=r0 (n/16777216)
 have q2:=r0 (n/65536)
 have q3:=r0 (n/256)
 have q4:=r0 n
 have v1:=w8 (n/16777216)
 have v2:=w8 (n/65536)
 have v3:=w8 (n/256)
 have v4:=w8 n
 clear r0 w8
 generalize n/16777216%256=x0 at *
 generalize n/65536%256=x1 at *
 generalize n/256%256=x2 at *
 generalize n%256=x3 at *
 generalize n/16777216=y0 at *
 generalize n/65536=y1 at *
 generalize n/256=y2 at *
 rw [Qmg] at hb
 apply Ks
 apply Z4
 rw [Z5 (fn:=Q8r) rfl]
 simp only [Q8r,↓Zl,Z6,quiet,cF,↓pF,reduceCtorEq,Qd,Qq,Zn,Zi,Zm,Zh,Ze,Qf,Q0,Qg,Q2,Q8,Q7,↓Zo,↓Zk,↓Zq,↓Zt,↓Zr,↓Zs,cL,Qp,Qo,Qz,Qy,Qv,Qn,Qm,Qx,Qe,Q5,Q6,Qw,Qk,Qj,Qi,Qu,Qt,Qs,Ql,Qh,cJ,d1,d2,d3,q1,q2,q3,q4,v1,v2,v3,v4,f2,hb,hrf]
 rfl
theorem Qpx {L:List (List Nat)} {n i j x:Nat} {P:List Nat} (hL:∀ x∈L,x.length=n) (hi:L[i]?=some P) (hj:P[j]?=some x):(u8s L.flatten)[i*n+j]?=some (.int .u8 (x:Nat)):=by
 have h1:=(Gr hL hi).1
 have lP:=hL P (Zp hi)
 have hjn:=(Q1.1 hj).1
 have h2:=Uk hj
 rw [←h1,Vi,if_pos (by omega),V7] at h2
 exact h2
def InvD (X0 X:List Ob):Prop:=X0.length≤X.length∧∀ i,i<X0.length→X[i]?=X0[i]?
theorem InvD.refl (X:List Ob):InvD X X:=⟨Zf _,fun _ _=>rfl⟩
theorem InvD.app {X0 X m:List Ob} (h:InvD X0 X):InvD X0 (X++m):=⟨by rw [Za]; have:=h.1; omega,fun i hi=>by rw [Qc (by have:=h.1; omega)]; exact h.2 i hi⟩
theorem InvD.get {X0 X:List Ob} (h:InvD X0 X) {i:Nat} {o:Ob} (ho:X0[i]?=some o):X[i]?=some o:=(h.2 i (Q1.1 ho).1).trans ho
structure Bx (B:Nat) (X0:List Ob) (k:Int) (ka na sa da:Value):Prop where
 ob:X0[B]?=some ⟨[.int .i64 k,ka,na,sa,da],true,true,true,1⟩
def Qp3 (B:Nat) (t:List Nat) (i j:Nat) (X:List Ob) (ex:Env):St:=⟨[(1,.pointer (some ⟨B,0,none⟩)),(4,.pointer (some ⟨B+1,0,none⟩)),(6,U0 t),(7,.int .i64 i),(8,.int .i64 j)]++ex,X,[]⟩
theorem Q7y {B n i:Nat} {k:Int} {ka na sa da:Value} {X0 X:List Ob} {L:List (List Nat)} {P t:List Nat} (hb:Bx B X0 k ka na sa da) (hs:Sq X0 32 (u8s L.flatten) n ka) (hL:∀ x∈L,x.length=32) (hi:L[i]?=some P) (hin:i<n) (hn:n≤1000) (lt:t.length≤2^40) (h:InvD X0 X) :
  ∃ X',Jv T B (.block 2 (.loop Qfd)) (Qp3 B t i 0 X [])=some (.normal,Qp3 B (t++P) i 32 X' [(72,.bool false)])∧InvD X0 X':=by
 rcases hs with ⟨-,rfl,-⟩ | ⟨id,c,w,e,s,rfl,h2,h3⟩
 ·omega
 have lP:=hL P (Zp hi)
 obtain ⟨st,hloop,X',rfl,r⟩:=Yg (T:=T) (base:=B) (id:=2) (body:=Qfd)
  (fun j st=>∃ X,st=Qp3 B (t++P.take j) i j X []∧InvD X0 X)
  (Q:=fun st=>∃ X,st=Qp3 B (t++P) i 32 X [(72,.bool false)]∧InvD X0 X)
  32 (s:=Qp3 B t i 0 X []) ⟨X,by rw [Q0,Jj],h⟩
  (fun j st hj hst=>by
   obtain ⟨X1,rfl,h1⟩:=hst
   obtain ⟨x,hx⟩:∃ x,P[j]?=some x:=⟨_,Q3 (by omega)⟩
   refine ⟨_,?_,X1++[byO x],rfl,h1.app⟩
   have gx:=Qpx hL hi hx
   have g0:=h1.get hb.ob
   have g1:=h1.get h2
   have hsa:We .add (U0 (t++P.take j)) (U0 [x])=some (U0 (t++P.take (j+1))):=by
    rw [Qbg (by rw [Za,Jy]; simp; omega),V3,hx,Zw]; rfl
   have e1:((j:Int)<32)=True:=eq_true (by omega)
   have w3:IntKind.i64.wrap ((j:Int)+1)=((j+1:Nat):Int):=Ws (b:=1) (by omega)
   have hin':((i:Int)<(n:Int))=True:=eq_true (by omega)
   have fB:fillL [Value.int .u8 0] [(0,1,.int .u8 x)]=some [.int .u8 x]:=rfl
   have hb2:=Qjp X1 x
   have hby:=Re [x]
   have j1:j*1=j:=Xg j
   unfold byO
   clear h3 h hb hL hi
   rw [show U0 [x]=.string ⟨([x].map UInt8.ofNat).toArray⟩ from rfl] at hsa
   generalize u8s [x]=C3 at *
   generalize [x].map UInt8.ofNat=L3 at *
   generalize u8s L.flatten=LF at *
   generalize hik:i*32=ik at *
   generalize hj1:j+1=jj at *
   simp only [Qp3,Qfd,↓Zl,Z6,quiet,cF,↓pF,reduceCtorEq,Qd,Qq,Zn,Zi,Zm,Zh,Ze,Qf,Q0,Qg,Q2,Q8,Q7,↓Zo,↓Zk,↓Zq,↓Zt,↓Zr,↓Zs,cL,Qp,Qo,Qz,Qy,Qv,Qn,Qm,Qx,Qe,Q5,Q6,Qw,Qk,Qj,Qi,Qu,Qt,Qs,Ql,Qh,cJ,e1,w3,g0,g1,gx,hin',hik,j1,hj1,fB,hb2,hby,hsa])
  (fun st hst=>by
   obtain ⟨X1,rfl,h1⟩:=hst
   refine ⟨_,?_,X1,rfl,h1⟩
   rw [Zj (by omega)]
   simp only [Qp3,Qfd,↓Zl,Z6,quiet,cF,↓pF,reduceCtorEq,Qd,Qq,Zn,Zi,Zm,Zh,Ze,Qf,Q0,Qg,Q2,Q8,Q7,↓Zo,↓Zk,↓Zq,↓Zt,↓Zr,↓Zs,cL,Qp,Qo,Qz,Qy,Qv,Qn,Qm,Qx,Qe,Q5,Q6,Qw,Qk,Qj,Qi,Qu,Qt,Qs,Ql,Qh,cJ])
 exact ⟨X',hloop,r⟩
def Qp2 (B:Nat) (t:List Nat) (i:Nat) (X:List Ob) (ex:Env):St:=⟨[(1,.pointer (some ⟨B,0,none⟩)),(4,.pointer (some ⟨B+1,0,none⟩)),(6,U0 t),(7,.int .i64 i)]++ex,X,[]⟩
theorem Q4j {B n:Nat} {k:Int} {ka na sa da:Value} {X0 X:List Ob} {L:List (List Nat)} {t:List Nat} (hb:Bx B X0 k ka na sa da) (hs:Sq X0 32 (u8s L.flatten) n ka) (hL:∀ x∈L,x.length=32) (hln:L.length=n) (hn:n≤1000) (lt:t.length≤2^30) (h:InvD X0 X) :
  ∃ X',Jv T B (.block 0 (.loop Qfc)) (Qp2 B t 0 X [])=some (.normal,Qp2 B (t++L.flatten) n X' [(68,.bool false)])∧InvD X0 X':=by
 have hlen:vLen false ka=some (.int .i64 n):=by obtain ⟨_,_,e⟩:=hs.shape; rw [e]; rfl
 obtain ⟨st,hloop,X',rfl,r⟩:=Yg (T:=T) (base:=B) (id:=0) (body:=Qfc)
  (fun i st=>∃ X,st=Qp2 B (t++(L.take i).flatten) i X []∧InvD X0 X)
  (Q:=fun st=>∃ X,st=Qp2 B (t++L.flatten) n X [(68,.bool false)]∧InvD X0 X)
  n (s:=Qp2 B t 0 X []) ⟨X,by rw [Q0,Vu,Jj],h⟩
  (fun i st hi hst=>by
   obtain ⟨X1,rfl,h1⟩:=hst
   obtain ⟨P,hP⟩:∃ P,L[i]?=some P:=⟨_,Q3 (by omega)⟩
   have lk:(L.take i).flatten.length=i*32:=by rw [Uz (n:=32) fun x hx=>hL x (Kr hx),Jy,Kx (by omega)]
   obtain ⟨X2,m2,i2⟩:=Q7y hb hs hL hP hi hn (t:=t++(L.take i).flatten) (by rw [Za,lk]; omega) h1
   refine ⟨_,?_,X2,rfl,i2⟩
   have g0:=h1.get hb.ob
   have e1:((i:Int)<(n:Int))=True:=eq_true (by omega)
   have w3:IntKind.i64.wrap ((i:Int)+1)=((i+1:Nat):Int):=Ws (b:=1) (by omega)
   have ht:t++(L.take (i+1)).flatten=t++(L.take i).flatten++P:=by
    rw [V3,hP,Vh,←Zw]; simp
   simp only [Qp3,Zg,Zc,show ((0:Nat):Int)=0 from rfl] at m2
   rw [ht]
   clear ht lk hs hL hb h
   generalize t++(L.take i).flatten++P=t2 at *
   generalize t++(L.take i).flatten=t1 at *
   generalize hi1:i+1=ii at *
   simp only [Qp2,Qfc,↓Zl,Z6,quiet,cF,↓pF,reduceCtorEq,Qd,Qq,Zn,Zi,Zm,Zh,Ze,Qf,Q0,Qg,Q2,Q8,Q7,↓Zo,↓Zk,↓Zq,↓Zt,↓Zr,↓Zs,cL,Qp,Qo,Qz,Qy,Qv,Qn,Qm,Qx,Qe,Q5,Q6,Qw,Qk,Qj,Qi,Qu,Qt,Qs,Ql,Qh,cJ,g0,hlen,e1,m2,w3,hi1])
  (fun st hst=>by
   obtain ⟨X1,rfl,h1⟩:=hst
   have g0:=h1.get hb.ob
   refine ⟨_,?_,X1,rfl,h1⟩
   rw [Zj (by omega)]
   simp only [Qp2,Qfc,↓Zl,Z6,quiet,cF,↓pF,reduceCtorEq,Qd,Qq,Zn,Zi,Zm,Zh,Ze,Qf,Q0,Qg,Q2,Q8,Q7,↓Zo,↓Zk,↓Zq,↓Zt,↓Zr,↓Zs,cL,Qp,Qo,Qz,Qy,Qv,Qn,Qm,Qx,Qe,Q5,Q6,Qw,Qk,Qj,Qi,Qu,Qt,Qs,Ql,Qh,cJ,g0,hlen])
 exact ⟨X',hloop,r⟩
def Qp0 (B:Nat) (t:List Nat) (i j:Nat) (X:List Ob) (ex:Env):St:=⟨[(1,.pointer (some ⟨B,0,none⟩)),(4,.pointer (some ⟨B+1,0,none⟩)),(6,U0 t),(10,.int .i64 i),(11,.int .i64 j)]++ex,X,[]⟩
theorem Q7x {B n i:Nat} {k:Int} {ka na sa da:Value} {X0 X:List Ob} {L:List (List Nat)} {P t:List Nat} (hb:Bx B X0 k ka na sa da) (hs:Sq X0 64 (u8s L.flatten) n sa) (hL:∀ x∈L,x.length=64) (hi:L[i]?=some P) (hin:i<n) (hn:n≤1000) (lt:t.length≤2^40) (h:InvD X0 X) :
  ∃ X',Jv T B (.block 8 (.loop Qfg)) (Qp0 B t i 0 X [])=some (.normal,Qp0 B (t++P) i 64 X' [(110,.bool false)])∧InvD X0 X':=by
 rcases hs with ⟨-,rfl,-⟩ | ⟨id,c,w,e,s,rfl,h2,h3⟩
 ·omega
 have lP:=hL P (Zp hi)
 obtain ⟨st,hloop,X',rfl,r⟩:=Yg (T:=T) (base:=B) (id:=8) (body:=Qfg)
  (fun j st=>∃ X,st=Qp0 B (t++P.take j) i j X []∧InvD X0 X)
  (Q:=fun st=>∃ X,st=Qp0 B (t++P) i 64 X [(110,.bool false)]∧InvD X0 X)
  64 (s:=Qp0 B t i 0 X []) ⟨X,by rw [Q0,Jj],h⟩
  (fun j st hj hst=>by
   obtain ⟨X1,rfl,h1⟩:=hst
   obtain ⟨x,hx⟩:∃ x,P[j]?=some x:=⟨_,Q3 (by omega)⟩
   refine ⟨_,?_,X1++[byO x],rfl,h1.app⟩
   have gx:=Qpx hL hi hx
   have g0:=h1.get hb.ob
   have g1:=h1.get h2
   have hsa:We .add (U0 (t++P.take j)) (U0 [x])=some (U0 (t++P.take (j+1))):=by
    rw [Qbg (by rw [Za,Jy]; simp; omega),V3,hx,Zw]; rfl
   have e1:((j:Int)<64)=True:=eq_true (by omega)
   have w3:IntKind.i64.wrap ((j:Int)+1)=((j+1:Nat):Int):=Ws (b:=1) (by omega)
   have hin':((i:Int)<(n:Int))=True:=eq_true (by omega)
   have fB:fillL [Value.int .u8 0] [(0,1,.int .u8 x)]=some [.int .u8 x]:=rfl
   have hb2:=Qjp X1 x
   have hby:=Re [x]
   have j1:j*1=j:=Xg j
   unfold byO
   clear h3 h hb hL hi
   rw [show U0 [x]=.string ⟨([x].map UInt8.ofNat).toArray⟩ from rfl] at hsa
   generalize u8s [x]=C3 at *
   generalize [x].map UInt8.ofNat=L3 at *
   generalize u8s L.flatten=LF at *
   generalize hik:i*64=ik at *
   generalize hj1:j+1=jj at *
   simp only [Qp0,Qfg,↓Zl,Z6,quiet,cF,↓pF,reduceCtorEq,Qd,Qq,Zn,Zi,Zm,Zh,Ze,Qf,Q0,Qg,Q2,Q8,Q7,↓Zo,↓Zk,↓Zq,↓Zt,↓Zr,↓Zs,cL,Qp,Qo,Qz,Qy,Qv,Qn,Qm,Qx,Qe,Q5,Q6,Qw,Qk,Qj,Qi,Qu,Qt,Qs,Ql,Qh,cJ,e1,w3,g0,g1,gx,hin',hik,j1,hj1,fB,hb2,hby,hsa])
  (fun st hst=>by
   obtain ⟨X1,rfl,h1⟩:=hst
   refine ⟨_,?_,X1,rfl,h1⟩
   rw [Zj (by omega)]
   simp only [Qp0,Qfg,↓Zl,Z6,quiet,cF,↓pF,reduceCtorEq,Qd,Qq,Zn,Zi,Zm,Zh,Ze,Qf,Q0,Qg,Q2,Q8,Q7,↓Zo,↓Zk,↓Zq,↓Zt,↓Zr,↓Zs,cL,Qp,Qo,Qz,Qy,Qv,Qn,Qm,Qx,Qe,Q5,Q6,Qw,Qk,Qj,Qi,Qu,Qt,Qs,Ql,Qh,cJ])
 exact ⟨X',hloop,r⟩
def Qpz (B:Nat) (t:List Nat) (i:Nat) (X:List Ob) (ex:Env):St:=⟨[(1,.pointer (some ⟨B,0,none⟩)),(4,.pointer (some ⟨B+1,0,none⟩)),(6,U0 t),(10,.int .i64 i)]++ex,X,[]⟩
theorem Q4h {B n:Nat} {k:Int} {ka na sa da:Value} {X0 X:List Ob} {L:List (List Nat)} {t:List Nat} (hb:Bx B X0 k ka na sa da) (hs:Sq X0 64 (u8s L.flatten) n sa) (hL:∀ x∈L,x.length=64) (hln:L.length=n) (hn:n≤1000) (lt:t.length≤2^30) (h:InvD X0 X) :
  ∃ X',Jv T B (.block 6 (.loop Qff)) (Qpz B t 0 X [])=some (.normal,Qpz B (t++L.flatten) n X' [(106,.bool false)])∧InvD X0 X':=by
 have hlen:vLen false sa=some (.int .i64 n):=by obtain ⟨_,_,e⟩:=hs.shape; rw [e]; rfl
 obtain ⟨st,hloop,X',rfl,r⟩:=Yg (T:=T) (base:=B) (id:=6) (body:=Qff)
  (fun i st=>∃ X,st=Qpz B (t++(L.take i).flatten) i X []∧InvD X0 X)
  (Q:=fun st=>∃ X,st=Qpz B (t++L.flatten) n X [(106,.bool false)]∧InvD X0 X)
  n (s:=Qpz B t 0 X []) ⟨X,by rw [Q0,Vu,Jj],h⟩
  (fun i st hi hst=>by
   obtain ⟨X1,rfl,h1⟩:=hst
   obtain ⟨P,hP⟩:∃ P,L[i]?=some P:=⟨_,Q3 (by omega)⟩
   have lk:(L.take i).flatten.length=i*64:=by rw [Uz (n:=64) fun x hx=>hL x (Kr hx),Jy,Kx (by omega)]
   obtain ⟨X2,m2,i2⟩:=Q7x hb hs hL hP hi hn (t:=t++(L.take i).flatten) (by rw [Za,lk]; omega) h1
   refine ⟨_,?_,X2,rfl,i2⟩
   have g0:=h1.get hb.ob
   have e1:((i:Int)<(n:Int))=True:=eq_true (by omega)
   have w3:IntKind.i64.wrap ((i:Int)+1)=((i+1:Nat):Int):=Ws (b:=1) (by omega)
   have ht:t++(L.take (i+1)).flatten=t++(L.take i).flatten++P:=by
    rw [V3,hP,Vh,←Zw]; simp
   simp only [Qp0,Zg,Zc,show ((0:Nat):Int)=0 from rfl] at m2
   rw [ht]
   clear ht lk hs hL hb h
   generalize t++(L.take i).flatten++P=t2 at *
   generalize t++(L.take i).flatten=t1 at *
   generalize hi1:i+1=ii at *
   simp only [Qpz,Qff,↓Zl,Z6,quiet,cF,↓pF,reduceCtorEq,Qd,Qq,Zn,Zi,Zm,Zh,Ze,Qf,Q0,Qg,Q2,Q8,Q7,↓Zo,↓Zk,↓Zq,↓Zt,↓Zr,↓Zs,cL,Qp,Qo,Qz,Qy,Qv,Qn,Qm,Qx,Qe,Q5,Q6,Qw,Qk,Qj,Qi,Qu,Qt,Qs,Ql,Qh,cJ,g0,hlen,e1,m2,w3,hi1])
  (fun st hst=>by
   obtain ⟨X1,rfl,h1⟩:=hst
   have g0:=h1.get hb.ob
   refine ⟨_,?_,X1,rfl,h1⟩
   rw [Zj (by omega)]
   simp only [Qpz,Qff,↓Zl,Z6,quiet,cF,↓pF,reduceCtorEq,Qd,Qq,Zn,Zi,Zm,Zh,Ze,Qf,Q0,Qg,Q2,Q8,Q7,↓Zo,↓Zk,↓Zq,↓Zt,↓Zr,↓Zs,cL,Qp,Qo,Qz,Qy,Qv,Qn,Qm,Qx,Qe,Q5,Q6,Qw,Qk,Qj,Qi,Qu,Qt,Qs,Ql,Qh,cJ,g0,hlen])
 exact ⟨X',hloop,r⟩
def Qp1 (B:Nat) (t:List Nat) (i:Nat) (X:List Ob) (ex:Env):St:=⟨[(1,.pointer (some ⟨B,0,none⟩)),(4,.pointer (some ⟨B+1,0,none⟩)),(6,U0 t),(9,.int .i64 i)]++ex,X,[]⟩
theorem Q4i {B n:Nat} {k:Int} {ka na sa da:Value} {X0 X:List Ob} {L t:List Nat} (hb:Bx B X0 k ka na sa da) (hs:Sq X0 1 (ns32 L) n na) (hL:∀ x∈L,x<2^32) (hln:L.length=n) (hn:n≤1000) (lt:t.length≤2^30) (h:InvD X0 X) :
  ∃ X',Jv T B (.block 4 (.loop Qfe)) (Qp1 B t 0 X [])=some (.normal,Qp1 B (t++(L.map id4).flatten) n X' [(90,.bool false)])∧InvD X0 X':=by
 have hlen:vLen false na=some (.int .i64 n):=by obtain ⟨_,_,e⟩:=hs.shape; rw [e]; rfl
 obtain ⟨st,hloop,X',rfl,r⟩:=Yg (T:=T) (base:=B) (id:=4) (body:=Qfe)
  (fun i st=>∃ X,st=Qp1 B (t++((L.take i).map id4).flatten) i X []∧InvD X0 X)
  (Q:=fun st=>∃ X,st=Qp1 B (t++(L.map id4).flatten) n X [(90,.bool false)]∧InvD X0 X)
  n (s:=Qp1 B t 0 X []) ⟨X,by rw [Q0,W8,Vu,Jj],h⟩
  (fun i st hi hst=>by
   obtain ⟨X1,rfl,h1⟩:=hst
   obtain ⟨x,hx⟩:∃ x,L[i]?=some x:=⟨_,Q3 (by omega)⟩
   refine ⟨_,?_,X1,rfl,h1⟩
   rcases hs with ⟨-,rfl,-⟩ | ⟨id,c,w,e,s,rfl,h2,h3⟩
   ·omega
   have lx:=hL x (Zp hx)
   have lk:((L.take i).map id4).flatten.length=i*4:=by
    rw [Uz (n:=4) fun x hx=>by obtain ⟨y,-,rfl⟩:=Uh.1 hx; rfl,Uu,Jy,Kx (by omega)]
   have hm:=Qo9 lx
   have hsa:We .add (U0 (t++((L.take i).map id4).flatten)) (U0 (id4 x))=some (U0 (t++((L.take (i+1)).map id4).flatten)):=by
    rw [Qbg (by rw [Za,lk]; show _+4≤_; omega),V3,hx,By,Vh,Zw]; simp
   have g0:=h1.get hb.ob
   have g1:=h1.get h2
   have c1:(ns32 L)[i]?=some (.int .u32 (x:Nat)):=by rw [ns32,Wq,hx]; rfl
   have wx:IntKind.i64.wrap (x:Int)=(x:Nat):=Ym (by omega)
   have e1:((i:Int)<(n:Int))=True:=eq_true (by omega)
   have w3:IntKind.i64.wrap ((i:Int)+1)=((i+1:Nat):Int):=Ws (b:=1) (by omega)
   have j1:i*1=i:=Xg i
   have hrf:rf (U0 (id4 x))=true:=rfl
   clear h3 hb hL lk h
   generalize U0 (id4 x)=VX at *
   generalize ns32 L=LF at *
   generalize hi1:i+1=ii at *
   simp only [Qp1,Qfe,↓Zl,Z6,quiet,cF,↓pF,reduceCtorEq,Qd,Qq,Zn,Zi,Zm,Zh,Ze,Qf,Q0,Qg,Q2,Q8,Q7,↓Zo,↓Zk,↓Zq,↓Zt,↓Zr,↓Zs,cL,Qp,Qo,Qz,Qy,Qv,Qn,Qm,Qx,Qe,Q5,Q6,Qw,Qk,Qj,Qi,Qu,Qt,Qs,Ql,Qh,cJ,g0,g1,c1,hlen,e1,wx,hm,hrf,hsa,w3,j1,hi1])
  (fun st hst=>by
   obtain ⟨X1,rfl,h1⟩:=hst
   have g0:=h1.get hb.ob
   refine ⟨_,?_,X1,rfl,h1⟩
   rw [Zj (by omega)]
   simp only [Qp1,Qfe,↓Zl,Z6,quiet,cF,↓pF,reduceCtorEq,Qd,Qq,Zn,Zi,Zm,Zh,Ze,Qf,Q0,Qg,Q2,Q8,Q7,↓Zo,↓Zk,↓Zq,↓Zt,↓Zr,↓Zs,cL,Qp,Qo,Qz,Qy,Qv,Qn,Qm,Qx,Qe,Q5,Q6,Qw,Qk,Qj,Qi,Qu,Qt,Qs,Ql,Qh,cJ,g0,hlen])
 exact ⟨X',hloop,r⟩
theorem Qji {H:List Ob} {k:Int} {ka na sa da:Value} {kl:List (List Nat)} {nl:List Nat} {sl:List (List Nat)} {dl:List Nat} (h:FrV H ka na sa da kl nl sl dl) (hnl:∀ x∈nl,x<2^32) :
  ∃ v l,Vv T 13 [.agg #[.int .i64 k,ka,na,sa,da]] H=some (.tuple #[v,.int .i64 (frE k kl.length nl.length sl.length dl.length)],H++l,[]) ∧
   ((∀ x y z d,shp k=some (x,y,z,d)→frE k kl.length nl.length sl.length dl.length=0→v=U0 (frB k kl nl sl dl d))∧(frE k kl.length nl.length sl.length dl.length≠0→v=.string (ByteArray.mk #[]))):=by
 have hsv:=Qx0 k
 obtain ⟨_,_,sk⟩:=h.kz.shape
 obtain ⟨_,_,sn⟩:=h.nz.shape
 obtain ⟨_,_,ss⟩:=h.sz.shape
 obtain ⟨_,_,sd⟩:=h.dz.shape
 have n1:vLen false ka=some (.int .i64 kl.length):=by rw [sk]; rfl
 have n2:vLen false na=some (.int .i64 nl.length):=by rw [sn]; rfl
 have n3:vLen false sa=some (.int .i64 sl.length):=by rw [ss]; rfl
 have n4:vLen false da=some (.int .i64 dl.length):=by rw [sd]; rfl
 have sp4:∀ (a b c d e f g h:Value),splice [a,b,c,d] 0 [e,f,g,h]=[e,f,g,h]:=fun _ _ _ _ _ _ _ _=>rfl
 have g0:∀ o1:Ob,(H++[o1])[H.length]?=some o1:=fun _=>by rw [Qr (Zf _),Jc]; rfl
 have g00:∀ o1 o2:Ob,(H++[o1,o2])[H.length]?=some o1:=fun _ _=>by rw [Qr (Zf _),Jc]; rfl
 have g01:∀ o1 o2:Ob,(H++[o1,o2])[H.length+1]?=some o2:=fun _ _=>by rw [Qr (by omega),Z0]; rfl
 have t01:∀ o1 o2 o:Ob,(H++[o1,o2]).set (H.length+1) o=H++[o1,o]:=fun _ _ _=>by rw [Yf _ _ (by omega),Z0]; rfl
 have im1:∀ i,Ja H.length [] [H.length+i]=[]:=fun i=>Xv (by simp)
 have ok1:∀ L:List Value,(Value.agg L.toArray).cells.toList=L:=fun _=>rfl
 have ok2:∀ L:List Value,(Value.agg L.toArray).cells.size=L.length:=fun _=>rfl
 have ok3:∀ L:List Value,okVar (Value.agg L.toArray)=true:=fun _=>rfl
 have bad:∀ c:Int,c≠0→frE k kl.length nl.length sl.length dl.length=c→(∃ l,Vv T 13 [.agg #[.int .i64 k,ka,na,sa,da]] H=some (.tuple #[.string (ByteArray.mk #[]),.int .i64 c],H++l,[])) →
   ∃ v l,Vv T 13 [.agg #[.int .i64 k,ka,na,sa,da]] H=some (.tuple #[v,.int .i64 (frE k kl.length nl.length sl.length dl.length)],H++l,[]) ∧
    ((∀ x y z d,shp k=some (x,y,z,d)→frE k kl.length nl.length sl.length dl.length=0→v=U0 (frB k kl nl sl dl d))∧(frE k kl.length nl.length sl.length dl.length≠0→v=.string (ByteArray.mk #[]))):=by
  rintro c hc he ⟨l,hl⟩
  exact ⟨_,l,by rw [he]; exact hl,fun _ _ _ _ _ h0=>absurd (he.symm.trans h0) hc,fun _=>rfl⟩
 obtain hsh | ⟨x,y,z,d,hsh⟩:shp k=none∨∃ x y z d,shp k=some (x,y,z,d):=by
  rcases shp k with _ | ⟨x,y,z,d⟩
  ·exact .inl rfl
  ·exact .inr ⟨x,y,z,d,rfl⟩
 ·have rfv:rf (.tuple #[.agg #[Value.int .i64 0,.int .i64 0,.int .i64 0,.int .i64 0],.bool false])=true:=rfl
  rw [hsh] at hsv
  have hv:Q2b 0 0 0 false=[Value.int .i64 0,.int .i64 0,.int .i64 0,.int .i64 0]:=rfl
  simp only [hv] at hsv
  refine bad 110 (by decide) (by unfold frE; rw [hsh]) (Z4 ?_ ?_)
  rotate_left
  ·rw [Z5 (fn:=Qb6) rfl]
   simp only [Qb6,↓Zl,Z6,quiet,cF,↓pF,reduceCtorEq,Qd,Qq,Zn,Zi,Zm,Zh,Ze,Qf,Q0,Qg,Q2,Q8,Q7,↓Zo,↓Zk,↓Zq,↓Zt,↓Zr,↓Zs,cL,Qp,Qo,Qz,Qy,Qv,Qn,Qm,Qx,Qe,Q5,Q6,Qw,Qk,Qj,Qi,Qu,Qt,Qs,Ql,Qh,cJ,hsv,rfv,g0,g00,g01,t01,im1,ok1,ok2,ok3,n1,n2,n3,n4,sp4]
   rfl
 ·rw [hsh] at hsv
  obtain ⟨wk,kb,lx,ly,lz⟩:=Qxy hsh
  obtain ⟨dn,hdn⟩:∃ dn:Int,dn=if d then 1 else 0:=⟨_,rfl⟩
  simp only [Q2b,←hdn] at hsv
  have rfv:rf (.tuple #[.agg #[Value.int .i64 x,.int .i64 y,.int .i64 z,.int .i64 dn],.bool true])=true:=rfl
  by_cases q1:kl.length=x
  ·have b1:(((kl.length:Nat):Int) != (x:Int))=false:=by simp; omega
   by_cases q2:nl.length=y
   ·have b2:(((nl.length:Nat):Int) != (y:Int))=false:=by simp; omega
    by_cases q3:sl.length=z
    ·have b3:(((sl.length:Nat):Int) != (z:Int))=false:=by simp; omega
     obtain ⟨X0,hX0⟩:∃ X,X=H++[(⟨[.int .i64 k,ka,na,sa,da],true,true,true,1⟩:Ob),⟨[.int .i64 x,.int .i64 y,.int .i64 z,.int .i64 dn],true,true,true,1⟩]:=⟨_,rfl⟩
     have lX0:X0.length=H.length+2:=by rw [hX0]; simp
     have hb:Bx H.length X0 k ka na sa da:=⟨by rw [hX0]; exact g00 _ _⟩
     have hb1:X0[H.length+1]?=some ⟨[.int .i64 x,.int .i64 y,.int .i64 z,.int .i64 dn],true,true,true,1⟩:=by rw [hX0]; exact g01 _ _
     have hap:∀ {es cs n v},Sq H es cs n v→Sq X0 es cs n v:=fun hh=>by rw [hX0]; exact hh.app
     have lkf:kl.flatten.length≤1000:=by rw [Uz h.kx]; omega
     have lnf:(nl.map id4).flatten.length≤1000:=by rw [Uz (n:=4) fun x hx=>by obtain ⟨y,-,rfl⟩:=Uh.1 hx; rfl,Uu]; omega
     have lsf:sl.flatten.length≤1000:=by rw [Uz h.sx]; omega
     obtain ⟨X1,m1,i1⟩:=Q4j hb (hap h.kz) h.kx rfl (by omega) (t:=[k.toNat]) (by show 1≤_; decide) ((InvD.refl X0).app (m:=[byO k.toNat]))
     obtain ⟨X2,m2,i2⟩:=Q4i (t:=[k.toNat]++kl.flatten) hb (hap h.nz) hnl rfl (by omega) (by simp only [Za,Zx,Z3]; omega) i1
     obtain ⟨X3,m3,i3⟩:=Q4h (t:=[k.toNat]++kl.flatten++(nl.map id4).flatten) hb (hap h.sz) h.sx rfl (by omega) (by simp only [Za,Zx,Z3]; omega) i2
     have p10:=i1.get hb.ob
     have p11:=i1.get hb1
     have p20:=i2.get hb.ob
     have p21:=i2.get hb1
     have p30:=i3.get hb.ob
     have p31:=i3.get hb1
     have p32:∀ i,i<H.length→X3[i]?=H[i]? := fun i hi=>by rw [i3.2 i (by omega),hX0,Qc hi]
     have F0:H++[(⟨[.int .i64 k,ka,na,sa,da],true,true,true,1⟩:Ob),⟨[.int .i64 x,.int .i64 y,.int .i64 z,.int .i64 dn],true,true,true,1⟩]=X0:=hX0.symm
     have F1:H++[(⟨[.int .i64 k,ka,na,sa,da],true,true,true,1⟩:Ob),⟨[.int .i64 x,.int .i64 y,.int .i64 z,.int .i64 dn],true,true,true,1⟩,⟨[.int .u8 (k.toNat:Nat)],true,true,true,1⟩]=X0++[byO k.toNat]:=by rw [hX0,Zw]; rfl
     have p00:(X0++[byO k.toNat])[H.length]?=some ⟨[.int .i64 k,ka,na,sa,da],true,true,true,1⟩:=by rw [Qc (by omega)]; exact hb.ob
     have fB:fillL [Value.int .u8 0] [(0,1,.int .u8 (k.toNat:Nat))]=some [.int .u8 (k.toNat:Nat)]:=rfl
     have hb2:=Qjp X0 k.toNat
     have hby:=Re [k.toNat]
     have F1':X0++[(⟨[.int .u8 (k.toNat:Nat)],true,true,true,1⟩:Ob)]=X0++[byO k.toNat]:=rfl
     rw [F1',lX0] at hb2
     have hst:(Value.string ⟨([k.toNat].map UInt8.ofNat).toArray⟩)=U0 [k.toNat]:=rfl
     simp only [Qp2,Qp1,Qpz,Zg,Zc,show ((0:Nat):Int)=0 from rfl] at m1 m2 m3
     obtain ⟨l,hl⟩:=Ux (by have:=i3.1; omega) p32
     have lt3:([k.toNat]++kl.flatten++(nl.map id4).flatten++sl.flatten).length≤4000:=by simp only [Za,Zx,Z3]; omega
     have hS:U0 [k.toNat]=U0 [k.toNat]:=rfl
     cases d
     ·obtain rfl:dn=0:=hdn
      by_cases q4:dl.length=0
      ·have c1:((0:Int)<(dl.length:Int))=False:=eq_false (by omega)
       have c2:((16384:Int)<(dl.length:Int))=False:=eq_false (by omega)
       have hE:frE k kl.length nl.length sl.length dl.length=0:=by
        unfold frE; rw [hsh]; simp only [q1,q2,q3,q4,and_self,or_true,if_true]; rfl
       refine ⟨U0 ([k.toNat]++kl.flatten++(nl.map id4).flatten++sl.flatten),l,?_,fun _ _ _ _ e _ => ?_,fun hh=>absurd hE hh⟩
       ·rw [hE,←hl]
        clear i1 i2 i3 hX0 hap p32 lt3 hl bad hb hb1
        generalize [k.toNat].map UInt8.ofNat=L3 at *
        generalize u8s [k.toNat]=C3 at *
        generalize X0++[byO k.toNat]=X01 at *
        rw [Z5 (fn:=Qb6) rfl]
        simp only [Qb6,↓Zl,Z6,quiet,cF,↓pF,reduceCtorEq,Qd,Qq,Zn,Zi,Zm,Zh,Ze,Qf,Q0,Qg,Q2,Q8,Q7,↓Zo,↓Zk,↓Zq,↓Zt,↓Zr,↓Zs,cL,Qp,Qo,Qz,Qy,Qv,Qn,Qm,Qx,Qe,Q5,Q6,Qw,Qk,Qj,Qi,Qu,Qt,Qs,Ql,Qh,cJ,hsv,rfv,g0,g00,g01,t01,im1,ok1,ok2,ok3,n1,n2,n3,n4,sp4,b1,b2,b3,c1,c2,wk,fB,hb2,hby,hst,F1,F1',p00,m1,p10,p11,m2,p20,p21,m3,p30,p31]
       ·rw [hsh] at e
        cases e
        simp [frB]
      ·have c1:((0:Int)<(dl.length:Int))=True:=eq_true (by omega)
       refine bad 110 (by decide) (by unfold frE; rw [hsh]; exact if_neg fun hh=>by rcases hh.2.2.2 with hh | hh; cases hh; exact q4 hh) (Z4 ?_ ?_)
       rotate_left
       ·rw [Z5 (fn:=Qb6) rfl]
        simp only [Qb6,↓Zl,Z6,quiet,cF,↓pF,reduceCtorEq,Qd,Qq,Zn,Zi,Zm,Zh,Ze,Qf,Q0,Qg,Q2,Q8,Q7,↓Zo,↓Zk,↓Zq,↓Zt,↓Zr,↓Zs,cL,Qp,Qo,Qz,Qy,Qv,Qn,Qm,Qx,Qe,Q5,Q6,Qw,Qk,Qj,Qi,Qu,Qt,Qs,Ql,Qh,cJ,hsv,rfv,g0,g00,g01,t01,im1,ok1,ok2,ok3,n1,n2,n3,n4,sp4,b1,b2,b3,c1]
        rfl
     ·obtain rfl:dn=1:=hdn
      by_cases q4:16384<dl.length
      ·have c2:((16384:Int)<(dl.length:Int))=True:=eq_true (by omega)
       refine bad 2 (by decide) (by unfold frE; rw [hsh]; simp only [q1,q2,q3,q4,and_self,true_or,if_true]) (Z4 ?_ ?_)
       rotate_left
       ·rw [Z5 (fn:=Qb6) rfl]
        simp only [Qb6,↓Zl,Z6,quiet,cF,↓pF,reduceCtorEq,Qd,Qq,Zn,Zi,Zm,Zh,Ze,Qf,Q0,Qg,Q2,Q8,Q7,↓Zo,↓Zk,↓Zq,↓Zt,↓Zr,↓Zs,cL,Qp,Qo,Qz,Qy,Qv,Qn,Qm,Qx,Qe,Q5,Q6,Qw,Qk,Qj,Qi,Qu,Qt,Qs,Ql,Qh,cJ,hsv,rfv,g0,g00,g01,t01,im1,ok1,ok2,ok3,n1,n2,n3,n4,sp4,b1,b2,b3,c2]
        rfl
      ·have c2:((16384:Int)<(dl.length:Int))=False:=eq_false (by omega)
       have hE:frE k kl.length nl.length sl.length dl.length=0:=by
        unfold frE; rw [hsh]; simp only [q1,q2,q3,q4,and_self,true_or,if_true,if_false]
       have hnum:=Qo9 (n:=dl.length) (by omega)
       have hrf:rf (U0 (id4 dl.length))=true:=rfl
       have hde:=h.dz.reads X3 p32
       have hdb:=Re dl
       have hvb:Qmh X3 da=some (U0 dl):=by
        rw [sd,Qmg,←sd,hde,Q4,hdb,Q4]; rfl
       have ha1:We .add (U0 (id4 dl.length)) (U0 dl)=some (U0 (id4 dl.length++dl)):=Qbg (by show 4+_≤_; omega)
       have ha2:We .add (U0 ([k.toNat]++kl.flatten++(nl.map id4).flatten++sl.flatten)) (U0 (id4 dl.length++dl))=some (U0 ([k.toNat]++kl.flatten++(nl.map id4).flatten++sl.flatten++(id4 dl.length++dl))):=Qbg (by rw [@Za _ (id4 dl.length)]; show _+(4+_)≤_; omega)
       refine ⟨U0 ([k.toNat]++kl.flatten++(nl.map id4).flatten++sl.flatten++(id4 dl.length++dl)),l,?_,fun _ _ _ _ e _ => ?_,fun hh=>absurd hE hh⟩
       ·rw [hE,←hl]
        clear i1 i2 i3 hX0 hap p32 lt3 hl bad hb hb1 hde hdb
        generalize [k.toNat].map UInt8.ofNat=L3 at *
        generalize u8s [k.toNat]=C3 at *
        generalize X0++[byO k.toNat]=X01 at *
        simp only [Zg,Zc,Zw] at ha2
        generalize U0 (id4 dl.length++dl)=SV1 at *
        generalize U0 (id4 dl.length)=SV2 at *
        rw [Z5 (fn:=Qb6) rfl]
        simp only [Qb6,↓Zl,Z6,quiet,cF,↓pF,reduceCtorEq,Qd,Qq,Zn,Zi,Zm,Zh,Ze,Qf,Q0,Qg,Q2,Q8,Q7,↓Zo,↓Zk,↓Zq,↓Zt,↓Zr,↓Zs,cL,Qp,Qo,Qz,Qy,Qv,Qn,Qm,Qx,Qe,Q5,Q6,Qw,Qk,Qj,Qi,Qu,Qt,Qs,Ql,Qh,cJ,hsv,rfv,g0,g00,g01,t01,im1,ok1,ok2,ok3,n1,n2,n3,n4,sp4,b1,b2,b3,c2,wk,fB,hb2,hby,hst,F1,F1',p00,m1,p10,p11,m2,p20,p21,m3,p30,p31,hnum,hrf,hvb,ha1,ha2]
       ·rw [hsh] at e
        cases e
        simp [frB]
    ·have b3:(((sl.length:Nat):Int) != (z:Int))=true:=by simp; omega
     refine bad 110 (by decide) (by unfold frE; rw [hsh]; exact if_neg fun hh=>q3 hh.2.2.1) (Z4 ?_ ?_)
     rotate_left
     ·rw [Z5 (fn:=Qb6) rfl]
      simp only [Qb6,↓Zl,Z6,quiet,cF,↓pF,reduceCtorEq,Qd,Qq,Zn,Zi,Zm,Zh,Ze,Qf,Q0,Qg,Q2,Q8,Q7,↓Zo,↓Zk,↓Zq,↓Zt,↓Zr,↓Zs,cL,Qp,Qo,Qz,Qy,Qv,Qn,Qm,Qx,Qe,Q5,Q6,Qw,Qk,Qj,Qi,Qu,Qt,Qs,Ql,Qh,cJ,hsv,rfv,g0,g00,g01,t01,im1,ok1,ok2,ok3,n1,n2,n3,n4,sp4,b1,b2,b3]
      rfl
   ·have b2:(((nl.length:Nat):Int) != (y:Int))=true:=by simp; omega
    refine bad 110 (by decide) (by unfold frE; rw [hsh]; exact if_neg fun hh=>q2 hh.2.1) (Z4 ?_ ?_)
    rotate_left
    ·rw [Z5 (fn:=Qb6) rfl]
     simp only [Qb6,↓Zl,Z6,quiet,cF,↓pF,reduceCtorEq,Qd,Qq,Zn,Zi,Zm,Zh,Ze,Qf,Q0,Qg,Q2,Q8,Q7,↓Zo,↓Zk,↓Zq,↓Zt,↓Zr,↓Zs,cL,Qp,Qo,Qz,Qy,Qv,Qn,Qm,Qx,Qe,Q5,Q6,Qw,Qk,Qj,Qi,Qu,Qt,Qs,Ql,Qh,cJ,hsv,rfv,g0,g00,g01,t01,im1,ok1,ok2,ok3,n1,n2,n3,n4,sp4,b1,b2]
     rfl
  ·have b1:(((kl.length:Nat):Int) != (x:Int))=true:=by simp; omega
   refine bad 110 (by decide) (by unfold frE; rw [hsh]; exact if_neg fun hh=>q1 hh.1) (Z4 ?_ ?_)
   rotate_left
   ·rw [Z5 (fn:=Qb6) rfl]
    simp only [Qb6,↓Zl,Z6,quiet,cF,↓pF,reduceCtorEq,Qd,Qq,Zn,Zi,Zm,Zh,Ze,Qf,Q0,Qg,Q2,Q8,Q7,↓Zo,↓Zk,↓Zq,↓Zt,↓Zr,↓Zs,cL,Qp,Qo,Qz,Qy,Qv,Qn,Qm,Qx,Qe,Q5,Q6,Qw,Qk,Qj,Qi,Qu,Qt,Qs,Ql,Qh,cJ,hsv,rfv,g0,g00,g01,t01,im1,ok1,ok2,ok3,n1,n2,n3,n4,sp4,b1]
    rfl
end Go.Ev.Ytpgphpkjlpkcbaa
namespace Go.Ev.Ytpgphpkjlpkcbaa
open Go Go.Ev
attribute [local congr] Wp W0 Wo W3 Wh
set_option maxRecDepth 100000
theorem Qn1 {n:Nat} {l:List Nat} (h:l.length=n):vEq (some (Qa n true)) true (.agg (u8s l).toArray) (.agg (u8s l).toArray)=some (.bool false):=by
 rw [Qh6,He h h,beq_self_eq_true]; rfl
structure Two (X:List Ob) (B:Nat) (k:Int) (ka na sa da kb nb sb db:Value):Prop where
 a:X[B]?=some ⟨[.int .i64 k,ka,na,sa,da],true,true,true,1⟩
 b:X[B+1]?=some ⟨[.int .i64 k,kb,nb,sb,db],true,true,true,1⟩
theorem Qwc {B n:Nat} {k:Int} {ka na sa da kb nb sb db:Value} {X:List Ob} {L:List (List Nat)} (ht:Two X B k ka na sa da kb nb sb db) (ha:Sq X 32 (u8s L.flatten) n ka) (hb:Sq X 32 (u8s L.flatten) n kb) (hL:∀ x∈L,x.length=32) (hln:L.length=n) (hn:n≤1000) :
  Jv T B (.block 0 (.loop Qe9)) ⟨[(2,.pointer (some ⟨B,0,none⟩)),(3,.pointer (some ⟨B+1,0,none⟩)),(5,.int .i64 0)],X,[]⟩=some (.normal,⟨[(2,.pointer (some ⟨B,0,none⟩)),(3,.pointer (some ⟨B+1,0,none⟩)),(5,.int .i64 n),(53,.bool false)],X,[]⟩):=by
 have g0:=ht.a
 have g1:=ht.b
 have hlen:vLen false ka=some (.int .i64 n):=by obtain ⟨_,_,e⟩:=ha.shape; rw [e]; rfl
 refine Ub (T:=T) (base:=B) (id:=0) (body:=Qe9) (fun i=>⟨[(2,.pointer (some ⟨B,0,none⟩)),(3,.pointer (some ⟨B+1,0,none⟩)),(5,.int .i64 i)],X,[]⟩) (s':=⟨[(2,.pointer (some ⟨B,0,none⟩)),(3,.pointer (some ⟨B+1,0,none⟩)),(5,.int .i64 n),(53,.bool false)],X,[]⟩) n (fun i hi => ?_) ?_
 ·obtain ⟨P,hP⟩:∃ P,L[i]?=some P:=⟨_,Q3 (by omega)⟩
  obtain ⟨ida,ca,wa,ea,sa',ra,h2,h3⟩:=ha.some_of (by omega)
  obtain ⟨idb,cb,wb,eb,sb',rb,k2,k3⟩:=hb.some_of (by omega)
  subst ra rb
  have lP:=hL P (Zp hP)
  obtain ⟨c1,c2⟩:=Gr hL hP
  have hq:=Qn1 lP
  have e1:((i:Int)<(n:Int))=True:=eq_true (by omega)
  have w3:IntKind.i64.wrap ((i:Int)+1)=((i+1:Nat):Int):=Ws (b:=1) (by omega)
  clear h3 k3 ha hb hL ht
  generalize u8s L.flatten=LF at *
  generalize hik:i*32=ik at *
  generalize hi1:i+1=i1 at *
  simp only [Qe9,↓Zl,Z6,quiet,cF,↓pF,reduceCtorEq,Qd,Qq,Zn,Zi,Zm,Zh,Ze,Qf,Q0,Qg,Q2,Q8,Q7,↓Zo,↓Zk,↓Zq,↓Zt,↓Zr,↓Zs,cL,Qp,Qo,Qz,Qy,Qv,Qn,Qm,Qx,Qe,Q5,Q6,Qw,Qk,Qj,Qi,Qu,Qt,Qs,Ql,Qh,cJ,e1,w3,g0,g1,h2,k2,hlen,hik,hi1,c1,c2,hq]
 ·simp only [Qe9,↓Zl,Z6,quiet,cF,↓pF,reduceCtorEq,Qd,Qq,Zn,Zi,Zm,Zh,Ze,Qf,Q0,Qg,Q2,Q8,Q7,↓Zo,↓Zk,↓Zq,↓Zt,↓Zr,↓Zs,cL,Qp,Qo,Qz,Qy,Qv,Qn,Qm,Qx,Qe,Q5,Q6,Qw,Qk,Qj,Qi,Qu,Qt,Qs,Ql,Qh,cJ,g0,g1,hlen]
theorem Qwa {B n:Nat} {k:Int} {ka na sa da kb nb sb db:Value} {X:List Ob} {L:List (List Nat)} (ht:Two X B k ka na sa da kb nb sb db) (ha:Sq X 64 (u8s L.flatten) n sa) (hb:Sq X 64 (u8s L.flatten) n sb) (hL:∀ x∈L,x.length=64) (hln:L.length=n) (hn:n≤1000) :
  Jv T B (.block 4 (.loop Qfb)) ⟨[(2,.pointer (some ⟨B,0,none⟩)),(3,.pointer (some ⟨B+1,0,none⟩)),(7,.int .i64 0)],X,[]⟩=some (.normal,⟨[(2,.pointer (some ⟨B,0,none⟩)),(3,.pointer (some ⟨B+1,0,none⟩)),(7,.int .i64 n),(89,.bool false)],X,[]⟩):=by
 have g0:=ht.a
 have g1:=ht.b
 have hlen:vLen false sa=some (.int .i64 n):=by obtain ⟨_,_,e⟩:=ha.shape; rw [e]; rfl
 refine Ub (T:=T) (base:=B) (id:=4) (body:=Qfb) (fun i=>⟨[(2,.pointer (some ⟨B,0,none⟩)),(3,.pointer (some ⟨B+1,0,none⟩)),(7,.int .i64 i)],X,[]⟩) (s':=⟨[(2,.pointer (some ⟨B,0,none⟩)),(3,.pointer (some ⟨B+1,0,none⟩)),(7,.int .i64 n),(89,.bool false)],X,[]⟩) n (fun i hi => ?_) ?_
 ·obtain ⟨P,hP⟩:∃ P,L[i]?=some P:=⟨_,Q3 (by omega)⟩
  obtain ⟨ida,ca,wa,ea,sa',ra,h2,h3⟩:=ha.some_of (by omega)
  obtain ⟨idb,cb,wb,eb,sb',rb,k2,k3⟩:=hb.some_of (by omega)
  subst ra rb
  have lP:=hL P (Zp hP)
  obtain ⟨c1,c2⟩:=Gr hL hP
  have hq:=Qn1 lP
  have e1:((i:Int)<(n:Int))=True:=eq_true (by omega)
  have w3:IntKind.i64.wrap ((i:Int)+1)=((i+1:Nat):Int):=Ws (b:=1) (by omega)
  clear h3 k3 ha hb hL ht
  generalize u8s L.flatten=LF at *
  generalize hik:i*64=ik at *
  generalize hi1:i+1=i1 at *
  simp only [Qfb,↓Zl,Z6,quiet,cF,↓pF,reduceCtorEq,Qd,Qq,Zn,Zi,Zm,Zh,Ze,Qf,Q0,Qg,Q2,Q8,Q7,↓Zo,↓Zk,↓Zq,↓Zt,↓Zr,↓Zs,cL,Qp,Qo,Qz,Qy,Qv,Qn,Qm,Qx,Qe,Q5,Q6,Qw,Qk,Qj,Qi,Qu,Qt,Qs,Ql,Qh,cJ,e1,w3,g0,g1,h2,k2,hlen,hik,hi1,c1,c2,hq]
 ·simp only [Qfb,↓Zl,Z6,quiet,cF,↓pF,reduceCtorEq,Qd,Qq,Zn,Zi,Zm,Zh,Ze,Qf,Q0,Qg,Q2,Q8,Q7,↓Zo,↓Zk,↓Zq,↓Zt,↓Zr,↓Zs,cL,Qp,Qo,Qz,Qy,Qv,Qn,Qm,Qx,Qe,Q5,Q6,Qw,Qk,Qj,Qi,Qu,Qt,Qs,Ql,Qh,cJ,g0,g1,hlen]
theorem Qwb {B n:Nat} {k:Int} {ka na sa da kb nb sb db:Value} {X:List Ob} {L:List Nat} (ht:Two X B k ka na sa da kb nb sb db) (ha:Sq X 1 (ns32 L) n na) (hb:Sq X 1 (ns32 L) n nb) (hln:L.length=n) (hn:n≤1000) :
  Jv T B (.block 2 (.loop Qfa)) ⟨[(2,.pointer (some ⟨B,0,none⟩)),(3,.pointer (some ⟨B+1,0,none⟩)),(6,.int .i64 0)],X,[]⟩=some (.normal,⟨[(2,.pointer (some ⟨B,0,none⟩)),(3,.pointer (some ⟨B+1,0,none⟩)),(6,.int .i64 n),(71,.bool false)],X,[]⟩):=by
 have g0:=ht.a
 have g1:=ht.b
 have hlen:vLen false na=some (.int .i64 n):=by obtain ⟨_,_,e⟩:=ha.shape; rw [e]; rfl
 refine Ub (T:=T) (base:=B) (id:=2) (body:=Qfa) (fun i=>⟨[(2,.pointer (some ⟨B,0,none⟩)),(3,.pointer (some ⟨B+1,0,none⟩)),(6,.int .i64 i)],X,[]⟩) (s':=⟨[(2,.pointer (some ⟨B,0,none⟩)),(3,.pointer (some ⟨B+1,0,none⟩)),(6,.int .i64 n),(71,.bool false)],X,[]⟩) n (fun i hi => ?_) ?_
 ·obtain ⟨x,hx⟩:∃ x,L[i]?=some x:=⟨_,Q3 (by omega)⟩
  obtain ⟨ida,ca,wa,ea,sa',ra,h2,h3⟩:=ha.some_of (by omega)
  obtain ⟨idb,cb,wb,eb,sb',rb,k2,k3⟩:=hb.some_of (by omega)
  subst ra rb
  have c1:(ns32 L)[i]?=some (.int .u32 (x:Nat)):=by rw [ns32,Wq,hx]; rfl
  have e1:((i:Int)<(n:Int))=True:=eq_true (by omega)
  have w3:IntKind.i64.wrap ((i:Int)+1)=((i+1:Nat):Int):=Ws (b:=1) (by omega)
  have j1:i*1=i:=Xg i
  clear h3 k3 ha hb ht
  generalize ns32 L=LF at *
  generalize hi1:i+1=i1 at *
  simp only [Qfa,↓Zl,Z6,quiet,cF,↓pF,reduceCtorEq,Qd,Qq,Zn,Zi,Zm,Zh,Ze,Qf,Q0,Qg,Q2,Q8,Q7,↓Zo,↓Zk,↓Zq,↓Zt,↓Zr,↓Zs,cL,Qp,Qo,Qz,Qy,Qv,Qn,Qm,Qx,Qe,Q5,Q6,Qw,Qk,Qj,Qi,Qu,Qt,Qs,Ql,Qh,cJ,e1,w3,g0,g1,h2,k2,hlen,j1,hi1,c1]
 ·simp only [Qfa,↓Zl,Z6,quiet,cF,↓pF,reduceCtorEq,Qd,Qq,Zn,Zi,Zm,Zh,Ze,Qf,Q0,Qg,Q2,Q8,Q7,↓Zo,↓Zk,↓Zq,↓Zt,↓Zr,↓Zs,cL,Qp,Qo,Qz,Qy,Qv,Qn,Qm,Qx,Qe,Q5,Q6,Qw,Qk,Qj,Qi,Qu,Qt,Qs,Ql,Qh,cJ,g0,g1,hlen]
theorem Qqm {H X:List Ob} {v:Value} {l:List Nat} (h:DPart H v l) (hg:∀ i,i<H.length→X[i]?=H[i]?):Qmh X v=some (U0 l):=by
 have h1:=h.reads X hg
 obtain ⟨a,c,e⟩:=h.shape
 rw [e,Qmg,←e,h1,Q4,Re,Q4]; rfl
theorem Q2e {H:List Ob} {k:Int} {ka na sa da kb nb sb db:Value} {kl:List (List Nat)} {nl:List Nat} {sl:List (List Nat)} {dl:List Nat} (h:FrV H ka na sa da kl nl sl dl) (h':FrV H kb nb sb db kl nl sl dl) (h1:kl.length≤1000) (h2:nl.length≤1000) (h3:sl.length≤1000) :
  ∃ l,Vv T 14 [.agg #[.int .i64 k,ka,na,sa,da],.agg #[.int .i64 k,kb,nb,sb,db]] H=some (.bool true,H++l,[]):=by
 obtain ⟨X,hX⟩:∃ X,X=H++[(⟨[.int .i64 k,ka,na,sa,da],true,true,true,1⟩:Ob),⟨[.int .i64 k,kb,nb,sb,db],true,true,true,1⟩]:=⟨_,rfl⟩
 have ht:Two X H.length k ka na sa da kb nb sb db:=⟨by rw [hX,Qr (Zf _),Jc]; rfl,by rw [hX,Qr (by omega),Z0]; rfl⟩
 have m1:=Qwc ht (by rw [hX]; exact h.kz.app) (by rw [hX]; exact h'.kz.app) h.kx rfl h1
 have m2:=Qwb ht (by rw [hX]; exact h.nz.app) (by rw [hX]; exact h'.nz.app) rfl h2
 have m3:=Qwa ht (by rw [hX]; exact h.sz.app) (by rw [hX]; exact h'.sz.app) h.sx rfl h3
 have vl:∀ {G es cs n v},Sq G es cs n v→vLen false v=some (.int .i64 n):=fun hs=>by obtain ⟨_,_,e⟩:=hs.shape; rw [e]; rfl
 have n1:=vl h.kz
 have n2:=vl h.nz
 have n3:=vl h.sz
 have n1':=vl h'.kz
 have n2':=vl h'.nz
 have n3':=vl h'.sz
 have hs1:Qmh X da=some (U0 dl):=Qqm h.dz fun i hi=>by rw [hX,Qc hi]
 have hs2:Qmh X db=some (U0 dl):=Qqm h'.dz fun i hi=>by rw [hX,Qc hi]
 have g0:=ht.a
 have g1:=ht.b
 have hne:We .neq (U0 dl) (U0 dl)=some (.bool false):=by unfold U0; rw [Qqk,beq_self_eq_true]; rfl
 have ok1:∀ L:List Value,(Value.agg L.toArray).cells.toList=L:=fun _=>rfl
 have ok2:∀ L:List Value,(Value.agg L.toArray).cells.size=L.length:=fun _=>rfl
 have ok3:∀ L:List Value,okVar (Value.agg L.toArray)=true:=fun _=>rfl
 have F:H++[(⟨[.int .i64 k,ka,na,sa,da],true,true,true,1⟩:Ob),⟨[.int .i64 k,kb,nb,sb,db],true,true,true,1⟩]=X:=hX.symm
 refine ⟨[(⟨[.int .i64 k,ka,na,sa,da],true,true,true,1⟩:Ob),⟨[.int .i64 k,kb,nb,sb,db],true,true,true,1⟩],?_⟩
 rw [F]
 clear hX ht h h' vl
 generalize U0 dl=SV at *
 rw [Z5 (fn:=Q8w) rfl]
 simp only [Q8w,↓Zl,Z6,quiet,cF,↓pF,reduceCtorEq,Qd,Qq,Zn,Zi,Zm,Zh,Ze,Qf,Q0,Qg,Q2,Q8,Q7,↓Zo,↓Zk,↓Zq,↓Zt,↓Zr,↓Zs,cL,Qp,Qo,Qz,Qy,Qv,Qn,Qm,Qx,Qe,Q5,Q6,Qw,Qk,Qj,Qi,Qu,Qt,Qs,Ql,Qh,cJ,F,g0,g1,n1,n2,n3,n1',n2',n3',hs1,hs2,hne,m1,m2,m3,ok1,ok2,ok3]
theorem Qjs {H0:List Ob} {k:Int} {ka na sa da:Value} {kl:List (List Nat)} {nl:List Nat} {sl:List (List Nat)} {dl:List Nat} (h:FrV H0 ka na sa da kl nl sl dl) (hnl:∀ x∈nl,x<2^32) :
  ∃ H',Vv T 4 [.agg #[.int .i64 k,ka,na,sa,da]] H0=some (.bool true,H',[]):=by
 have hmt:=Q3u
 have cl5:∀ a b c d e:Value,Kw 5 [a,b,c,d,e]=[a,b,c,d,e]:=fun _ _ _ _ _=>rfl
 have ok1:∀ L:List Value,(Value.agg L.toArray).cells.toList=L:=fun _=>rfl
 have ok2:∀ L:List Value,(Value.agg L.toArray).cells.size=L.length:=fun _=>rfl
 have ok3:∀ L:List Value,okVar (Value.agg L.toArray)=true:=fun _=>rfl
 have g0:∀ o1:Ob,(H0++[o1])[H0.length]?=some o1:=fun _=>by rw [Qr (Zf _),Jc]; rfl
 obtain ⟨bx,hbx⟩:∃ X:Ob,X=⟨[.int .i64 k,ka,na,sa,da],true,true,true,1⟩:=⟨_,rfl⟩
 obtain ⟨G1,hG1⟩:∃ X,X=H0++[bx]:=⟨_,rfl⟩
 have lG1:G1.length=H0.length+1:=by rw [hG1]; simp
 have p1:G1[H0.length]?=some bx:=by rw [hG1]; exact g0 bx
 have gg:∀ (G:List Ob),G[H0.length]?=some bx→∀ m,(G++m)[H0.length]?=some bx:=fun G hG m=>by rw [Qc (Q1.1 hG).1]; exact hG
 have hA:∀ m,FrV (G1++m) ka na sa da kl nl sl dl:=fun m=>by rw [hG1,Zw]; exact h.app
 have nz:Ys.length=194:=by rw [Ds]; simp [Y3,Zv]
 have tz:Kw 194 Ys=Ys:=Zj (by rw [nz]; decide)
 have fz:fillL Ys []=some Ys:=rfl
 have szz:splice Ys 0 Ys=Ys:=Kt rfl
 have hzz:vEq (some (Qa 194 true)) false (.agg Ys.toArray) (.agg Ys.toArray)=some (.bool true):=by
  rw [Qs2,show Wj (Qa 194 true) Ys.toArray.toList Ys.toArray.toList=some true by decide +kernel]; rfl
 by_cases hok:frE k kl.length nl.length sl.length dl.length=0∧k=1
 ·obtain ⟨hE,rfl⟩:=hok
  obtain ⟨⟨e1,e2,e3,e4⟩,-⟩:(kl.length=4∧nl.length=2∧sl.length=1∧dl.length=0)∧True:=by
   refine ⟨?_,trivial⟩
   unfold frE at hE
   rw [show shp 1=some (4,2,1,false) from rfl] at hE
   by_cases q:kl.length=4∧nl.length=2∧sl.length=1∧(false=true∨dl.length=0)
   ·obtain ⟨a,b,c,d⟩:=q
    exact ⟨a,b,c,d.resolve_left (by decide)⟩
   ·simp only [if_neg q] at hE
    cases hE
  match kl,nl,sl,dl,e1,e2,e3,e4 with
  | [k0,k1,k2,k3],[i,j],[g],[],_,_,_,_ =>
   have l0:k0.length=32:=h.kx _ (by simp)
   have l1:k1.length=32:=h.kx _ (by simp)
   have hO:OffL (k0++k1) k2 k3 g:=⟨by rw [Za,l0,l1],h.kx _ (by simp),h.kx _ (by simp),h.sx _ (by simp)⟩
   have nO:=Up (i:=i) (j:=j) hO
   have szO:splice Ys 0 (Y3 (k0++k1) k2 k3 i j g)=Y3 (k0++k1) k2 k3 i j g:=Kt (by rw [nO,nz])
   have tO:Kw 194 (Y3 (k0++k1) k2 k3 i j g)=Y3 (k0++k1) k2 k3 i j g:=Zj (by rw [nO]; decide)
   obtain ⟨m1,hr⟩:=Q2n (by simpa using hA [])
   obtain ⟨G2,hG2⟩:∃ X,X=G1++m1:=⟨_,rfl⟩
   rw [←hG2] at hr
   have p2:G2[H0.length]?=some bx:=by rw [hG2]; exact gg _ p1 _
   obtain ⟨G3,hG3⟩:∃ X,X=G2++[(⟨Y3 (k0++k1) k2 k3 i j g,true,true,true,1⟩:Ob)]:=⟨_,rfl⟩
   have p3:G3[H0.length]?=some bx:=by rw [hG3]; exact gg _ p2 _
   have q3:G3[G2.length]?=some ⟨Y3 (k0++k1) k2 k3 i j g,true,true,true,1⟩:=by rw [hG3,Qr (Zf _),Jc]; rfl
   obtain ⟨v,m2,he,-⟩:=Qji (k:=1) (H:=G3) (by rw [hG3,hG2,Zw]; exact hA _) hnl
   rw [hE] at he
   obtain ⟨G4,hG4⟩:∃ X,X=G3++m2:=⟨_,rfl⟩
   rw [←hG4] at he
   have p4:G4[H0.length]?=some bx:=by rw [hG4]; exact gg _ p3 _
   have q4:G4[G2.length]?=some ⟨Y3 (k0++k1) k2 k3 i j g,true,true,true,1⟩:=by rw [hG4,Qc (Q1.1 q3).1]; exact q3
   have hf:=Q0k (H:=G4) (i:=i) (j:=j) hO
   have hF:=Q7t (H:=G4) (i:=i) (j:=j) hO
   rw [←l0,Df,B8] at hF
   obtain ⟨m3,hs⟩:=Q2e (k:=1) hF (by rw [hG4,hG3,hG2]; simp only [Zw]; exact hA _) (by show 4≤_; decide) (by show 2≤_; decide) (by show 1≤_; decide)
   have p5:(G4++Qr9 (k0++k1) k2 k3 g i j G4.length)[H0.length]?=some bx:=gg _ p4 _
   have im:Ja H0.length [] [G2.length]=[]:=Xv (by have:=(Q1.1 p2).1; simp; omega)
   have F3:G2++[(⟨Y3 (k0++k1) k2 k3 i j g,true,true,true,1⟩:Ob)]=G3:=hG3.symm
   clear hG2 hG3 hG4 gg hA hF h hO hnl
   generalize Qr9 (k0++k1) k2 k3 g i j G4.length=FH at *
   generalize Y3 (k0++k1) k2 k3 i j g=O at *
   have F1:H0++[(⟨[.int .i64 1,ka,na,sa,da],true,true,true,1⟩:Ob)]=G1:=by rw [hG1,hbx]
   rw [hbx] at p1 p2 p3 p4 p5
   apply Z4
   rw [Z5 (fn:=Qsw) rfl]
   simp only [Qsw,↓Zl,Z6,quiet,cF,↓pF,reduceCtorEq,Qd,Qq,Zn,Zi,Zm,Zh,Ze,Qf,Q0,Qg,Q2,Q8,Q7,↓Zo,↓Zk,↓Zq,↓Zt,↓Zr,↓Zs,cL,Qp,Qo,Qz,Qy,Qv,Qn,Qm,Qx,Qe,Q5,Q6,Qw,Qk,Qj,Qi,Qu,Qt,Qs,Ql,Qh,cJ,hmt,cl5,ok1,ok2,ok3,g0,F1,F3,p1,hr,p2,p3,q3,he,p4,q4,hf,p5,hs,nO,nz,szO,tO,im]
   rfl
 ·obtain ⟨m1,hr⟩:=Qyl (k:=k) (by simpa using hA []) hok
  obtain ⟨G2,hG2⟩:∃ X,X=G1++m1:=⟨_,rfl⟩
  rw [←hG2] at hr
  have p2:G2[H0.length]?=some bx:=by rw [hG2]; exact gg _ p1 _
  obtain ⟨G3,hG3⟩:∃ X,X=G2++[(⟨Ys,true,true,true,1⟩:Ob)]:=⟨_,rfl⟩
  have p3:G3[H0.length]?=some bx:=by rw [hG3]; exact gg _ p2 _
  have q3:G3[G2.length]?=some ⟨Ys,true,true,true,1⟩:=by rw [hG3,Qr (Zf _),Jc]; rfl
  obtain ⟨v,m2,he,-⟩:=Qji (k:=k) (H:=G3) (by rw [hG3,hG2,Zw]; exact hA _) hnl
  obtain ⟨G4,hG4⟩:∃ X,X=G3++m2:=⟨_,rfl⟩
  rw [←hG4] at he
  have p4:G4[H0.length]?=some bx:=by rw [hG4]; exact gg _ p3 _
  have q4:G4[G2.length]?=some ⟨Ys,true,true,true,1⟩:=by rw [hG4,Qc (Q1.1 q3).1]; exact q3
  have im:Ja H0.length [] [G2.length]=[]:=Xv (by have:=(Q1.1 p2).1; simp; omega)
  have F3:G2++[(⟨Ys,true,true,true,1⟩:Ob)]=G3:=hG3.symm
  have F1:H0++[(⟨[.int .i64 k,ka,na,sa,da],true,true,true,1⟩:Ob)]=G1:=by rw [hG1,hbx]
  have s3:G3.set G2.length ⟨Ys,true,true,true,1⟩=G3:=by rw [hG3,Yf _ _ (Zf _),Jc]; rfl
  clear hG2 hG3 hG4 gg hA h hnl
  rw [hbx] at p1 p2 p3 p4
  by_cases h0:frE k kl.length nl.length sl.length dl.length=0
  ·have b1:(k != 1)=true:=by simpa using fun hk=>hok ⟨h0,hk⟩
   rw [h0] at he
   apply Z4
   rw [Z5 (fn:=Qsw) rfl]
   simp only [Qsw,↓Zl,Z6,quiet,cF,↓pF,reduceCtorEq,Qd,Qq,Zn,Zi,Zm,Zh,Ze,Qf,Q0,Qg,Q2,Q8,Q7,↓Zo,↓Zk,↓Zq,↓Zt,↓Zr,↓Zs,cL,Qp,Qo,Qz,Qy,Qv,Qn,Qm,Qx,Qe,Q5,Q6,Qw,Qk,Qj,Qi,Qu,Qt,Qs,Ql,Qh,cJ,hmt,cl5,ok1,ok2,ok3,g0,F1,F3,p1,hr,p2,p3,q3,s3,he,p4,q4,nz,szz,tz,fz,hzz,b1,im]
   rfl
  ·have b1:(frE k kl.length nl.length sl.length dl.length != 0)=true:=by simpa using h0
   generalize frE k kl.length nl.length sl.length dl.length=E at *
   apply Z4
   rw [Z5 (fn:=Qsw) rfl]
   simp only [Qsw,↓Zl,Z6,quiet,cF,↓pF,reduceCtorEq,Qd,Qq,Zn,Zi,Zm,Zh,Ze,Qf,Q0,Qg,Q2,Q8,Q7,↓Zo,↓Zk,↓Zq,↓Zt,↓Zr,↓Zs,cL,Qp,Qo,Qz,Qy,Qv,Qn,Qm,Qx,Qe,Q5,Q6,Qw,Qk,Qj,Qi,Qu,Qt,Qs,Ql,Qh,cJ,hmt,cl5,ok1,ok2,ok3,g0,F1,F3,p1,hr,p2,p3,q3,s3,he,p4,q4,nz,szz,tz,fz,hzz,b1,im]
   rfl
end Go.Ev.Ytpgphpkjlpkcbaa
namespace Go.Ev.Ytpgphpkjlpkcbaa
open Go Go.Ev
set_option maxRecDepth 100000
theorem chunk {es:Nat}:∀ (n:Nat) (q:List Nat),q.length=n*es→∃ kl:List (List Nat),kl.flatten=q∧kl.length=n∧∀ x∈kl,x.length=es
 | 0,q,h=>⟨[],by rw [Xq] at h; exact (Vz h).symm,rfl,by simp⟩
 | n+1,q,h=>by
  rw [Qfl] at h
  obtain ⟨kl,k1,k2,k3⟩:=chunk (es:=es) n (q.drop es) (by rw [Xs]; omega)
  refine ⟨q.take es::kl,by rw [J3,k1,Yr],by rw [Zx,k2],fun x hx => ?_⟩
  rcases Yt.1 hx with rfl | hx
  ·rw [Jy]; omega
  ·exact k3 x hx
theorem Qeq {k:IntKind}:∀ {l:List Value},(∀ v∈l,∃ x:Nat,v=.int k (x:Nat)∧x<2^k.bits)→∃ q:List Nat,l=q.map (fun n=>.int k (n:Nat))∧∀ x∈q,x<2^k.bits
 | [],_=>⟨[],rfl,by simp⟩
 | v::l,h=>by
  obtain ⟨x,rfl,hx⟩:=h v (by simp)
  obtain ⟨q,rfl,hq⟩:=Qeq (l:=l) fun v hv=>h v (Gm _ hv)
  exact ⟨x::q,rfl,fun y hy=>(Yt.1 hy).elim (fun e=>e▸hx) (hq y)⟩
def Qj8 (w:World) (es:Nat) (v:Value) (Q:Value→Prop):Prop:=v=.slice none 0 0∨∃ a len cap l,v=.slice (some a) len cap∧LiesC w a len cap es l∧∀ v∈l,Q v
theorem Qcn {w:World} {es:Nat} {v:Value} {Q:Value→Prop} (h0:0<es) (h:Qj8 w es v Q):∃ (pl:Option Place) (n:Nat) (l:List Value),(∀ p,pl=some p→p.block<w.heap.size∧∀ ρ,ObjRel ρ w p (obC l))∧(∀ v∈l,Q v)∧l.length=n*es ∧
  ∀ id,∃ v',oneCellB v'=true∧(∀ ρ:Pl,ρ id=pl→VRel ρ v' v)∧∀ H:List Ob,H[id]?=some (obC l)→Sq H es l n v':=by
 rcases h with rfl | ⟨a,len,cap,l,rfl,h1,h2⟩
 ·exact ⟨none,0,[],fun p hp=>(by cases hp),by simp,by simp,fun id=>⟨.slice none 0 0,rfl,fun ρ _=>.same rfl,fun H _=>.inl ⟨rfl,rfl,rfl⟩⟩⟩
 ·obtain ⟨pl,p1,p2,p3⟩:=Qph h1 h0
  exact ⟨some pl,len,l,fun p hp=>(by cases hp; exact ⟨p1,p2⟩),h2,h1.len,fun id=>⟨_,rfl,fun ρ hρ=>p3 ρ id hρ,fun H hH=>.inr ⟨id,len,_,_,_,rfl,hH,h1.len⟩⟩⟩
theorem Sq.dpart {H:List Ob} {l:List Nat} {v:Value} (h:Sq H 1 (u8s l) l.length v):DPart H v l:=by
 rcases h with ⟨rfl,h1,h2⟩ | ⟨id,c,w,e,s,rfl,h1,h2⟩
 ·have:l=[]:=Vz h1
  subst this
  exact ⟨⟨_,_,rfl⟩,fun _ _=>rfl⟩
 ·exact ⟨⟨_,_,rfl⟩,fun G hG=>R3 ((hG id (Q1.1 h1).1).trans h1)⟩
def QI (k:IntKind) (v:Value):Prop:=∃ x:Nat,v=.int k (x:Nat)∧x<2^k.bits
theorem Qpt {w:World} {k:Int} {ka na sa da:Value} (hk:Qj8 w 32 ka (QI .u8)) (hn:Qj8 w 1 na (QI .u32)) (hs:Qj8 w 64 sa (QI .u8)) (hd:Qj8 w 1 da (QI .u8)) :
  ∃ (H0:List Ob) (ρ:Pl) (ka' na' sa' da':Value) (kl:List (List Nat)) (nl:List Nat) (sl:List (List Nat)) (dl:List Nat),FrV H0 ka' na' sa' da' kl nl sl dl∧(∀ x∈nl,x<2^32)∧RelF ρ (hp H0) w∧(∀ id,H0.length≤id→ρ id=none)∧(∀ (i:Nat) (o:Ob),H0[i]?=some o→o.own=false) ∧
   VRel ρ (.agg #[.int .i64 k,ka',na',sa',da']) (.agg #[.int .i64 k,ka,na,sa,da]):=by
 obtain ⟨p0,n0,l0,a1,a2,a3,a4⟩:=Qcn (by decide) hk
 obtain ⟨p1,n1,l1,b1,b2,b3,b4⟩:=Qcn (by decide) hn
 obtain ⟨p2,n2,l2,c1,c2,c3,c4⟩:=Qcn (by decide) hs
 obtain ⟨p3,n3,l3,d1,d2,d3,d4⟩:=Qcn (by decide) hd
 obtain ⟨v0,a5,a6,a7⟩:=a4 0
 obtain ⟨v1,b5,b6,b7⟩:=b4 1
 obtain ⟨v2,c5,c6,c7⟩:=c4 2
 obtain ⟨v3,d5,d6,d7⟩:=d4 3
 obtain ⟨q0,rfl,-⟩:=Qeq a2
 obtain ⟨nl,rfl,x1⟩:=Qeq b2
 obtain ⟨q2,rfl,-⟩:=Qeq c2
 obtain ⟨dl,rfl,-⟩:=Qeq d2
 rw [Uu] at a3 b3 c3 d3
 obtain ⟨kl,rfl,rfl,k3⟩:=chunk n0 q0 a3
 obtain ⟨sl,rfl,rfl,s3⟩:=chunk n2 q2 c3
 rw [Xg] at b3 d3
 subst b3 d3
 refine ⟨[obC (u8s kl.flatten),obC (ns32 nl),obC (u8s sl.flatten),obC (u8s dl)],fun id=>if id<4 then (match id with | 0=>p0 | 1=>p1 | 2=>p2 | 3=>p3 | _=>none) else none,v0,v1,v2,v3,kl,nl,sl,dl,
  ⟨a7 _ rfl,k3,b7 _ rfl,c7 _ rfl,s3,(d7 _ rfl).dpart⟩,x1,?_,fun id hid => ?_,fun i o ho => ?_,?_⟩
 ·refine Q2m (obs:=[obC (u8s kl.flatten),obC (ns32 nl),obC (u8s sl.flatten),obC (u8s dl)]) (g:=fun id=>match id with | 0=>p0 | 1=>p1 | 2=>p2 | 3=>p3 | _=>none) (fun i o ho => ?_) (fun i o p ho hp => ?_)
  ·rcases i with _ | _ | _ | _ | i<;>first | (cases ho; rfl) | cases ho
  ·rcases i with _ | _ | _ | _ | i
   ·cases ho; exact a1 p hp
   ·cases ho; exact b1 p hp
   ·cases ho; exact c1 p hp
   ·cases ho; exact d1 p hp
   ·cases ho
 ·have:¬ id<4:=by simpa using hid
  simp only [if_neg this]
 ·rcases i with _ | _ | _ | _ | i<;>first | (cases ho; rfl) | cases ho
 ·refine .agg (.cons (.same rfl) (.cons (a6 _ rfl) (.cons (b6 _ rfl) (.cons (c6 _ rfl) (.cons (d6 _ rfl) .nil))))) (fun v hv => ?_)
  simp only [Yt,Wb,or_false] at hv
  rcases hv with rfl | rfl | rfl | rfl | rfl
  ·rfl
  ·exact a5
  ·exact b5
  ·exact c5
  ·exact d5
end Go.Ev.Ytpgphpkjlpkcbaa

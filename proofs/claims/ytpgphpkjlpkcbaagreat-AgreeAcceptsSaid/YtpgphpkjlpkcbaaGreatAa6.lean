/- What the law leans on, part 6. -/
import Derived.Test.YtpgphpkjlpkcbaaGreatAa5
set_option linter.unusedSimpArgs false
set_option linter.unusedVariables false
open List renaming append_assoc → Qt, append_nil → QF, cons_append → Qn, drop → Jr, drop_eq_getElem_cons → JR, drop_left → Vv, drop_zero → ZL, flatten_append → ZY, flatten_cons → QO, getD_cons_succ → BC, getD_cons_zero → B9, getD_eq_getElem?_getD → QA, getElem?_append_left → Qc, getElem?_append_right → Qh, getElem?_eq_getElem → Qf, getElem?_eq_some_iff → Qg, getElem?_map → J6, getElem?_set_ne → Qu, getElem?_set_self → Qx, length_append → Qk, length_cons → Z0, length_nil → ZW, length_replicate → Qe, length_take → Q6, mem_append → QE, mem_cons → J0, mem_cons_of_mem → Y5, mem_map → Xj, mem_of_getElem? → Qp, mem_of_mem_take → QU, nil_append → Ql, not_mem_nil → JG, reduceReplicate → Qb, replicate → Qa, take → Zh, take_append_drop → Z3, take_left → WG, take_of_length_le → Qm
open Nat renaming add_sub_cancel_left → Q0, le_refl → Qr, min_eq_left → Zy, sub_self → Q4, succ_mul → sF, zero_add → QL
open Option renaming bind_some → Qo
namespace Go.Ev.YtpgphpkjlpkcbaaGreat
open Go Go.Ev
attribute [local congr] JC JV JB JW Jz
set_option maxRecDepth 100000
variable {H:List Ob} {a b F p g o pre W f:List Nat} {pid n c s i j:Nat} {w e:Bool} {L:List (List Nat)}
theorem FR {base id:Nat} {body:ACode} (I:Nat→St→Prop) {Q:St→Prop} (n:Nat) {s:St} (h0:I 0 s) (hs:∀ j s,j<n→I j s→∃ s',Q2 T base body s=some (.normal,s')∧I (j+1) s') (hl:∀ s,I n s→∃ s',Q2 T base body s=some (.ret,s')∧Q s') :
  ∃ s',Q2 T base (.block id (.loop body)) s=some (.ret,s')∧Q s':=by
 obtain ⟨s',h1,h2⟩:=AJ (T:=T) (x := .ret) (by simp) n hs hl n 0 (by omega) s h0
 exact ⟨s',by rw [J9,h1]; rfl,h2⟩
theorem tE {G:List Ob} {k:Nat} {vo:Value} {P:List Nat} (hP:H[pid]?=some ⟨u8s L.flatten,true,w,e,s⟩) (hL:∀ x∈L,x.length=64∧∀ y∈x,y<256) (hn:L.length=n) (hk:L[k]?=some P) (hn9:n≤20)
 (hne:Zt (P.take 32) (P.drop 32)=zK) (hG:H.length<G.length) (hf:∀ i,i≤H.length→i<H.length→G[i]?=H[i]?) (hz:G[H.length]?=some ⟨u8s zK,true,true,true,1⟩) :
    ∃ G',Q2 T H.length UC (tgI H.length (.slice (some ⟨pid,0,none⟩) n c) vo n k G [])=some (.ret,⟨[(2,.pointer (some ⟨H.length,0,none⟩)),(3,.int .i64 50)],G',[]⟩)∧H.length<G'.length∧(∀ i,i≤H.length→i<H.length→G'[i]?=H[i]?)∧G'[H.length]?=some ⟨u8s zK,true,true,true,1⟩:=by
  have hkn:k<n:=by rw [←hn]; exact (Qg.1 hk).1
  have hpid:=(Qg.1 hP).1
  obtain ⟨lP,xP⟩:=hL P (Qp hk)
  obtain ⟨l1,x1⟩:=Wt lP xP
  obtain ⟨l2,x2⟩:=KB lP xP
  obtain ⟨t1,t2⟩:=Ya lP
  have hag:=NI l1 x1 l2 x2
  rw [if_pos (show Zt (P.take 32) (P.drop 32)=dig 256 32 0 from hne),show dig 256 32 0=zK from rfl] at hag
  have lR:=Xw (P.take 32) (P.drop 32)
  have hgd:L.getD k []=P:=by rw [QA,hk]; rfl
  have hpg:∀ m:List Ob,(G++m)[pid]?=some ⟨u8s L.flatten,true,w,e,s⟩:=fun m=>by rw [Qc (by omega),hf pid (by omega) hpid]; exact hP
  have hpg0:=hpg []
  rw [QF] at hpg0
  have hall:∀ (M:List (List Nat)),(∀ x∈M,x.length=64)→M.flatten.length=64*M.length:=by
    intro M hM
    induction M with
    | nil=>rfl
    | cons a M ih=>rw [QO,Qk,ih (fun x hx=>hM x (Y5 _ hx)),hM a (by simp),Z0]; omega
  have hfl:=hall L fun x hx=>(hL x hx).1
  have hpair:Zh 64 (Jr (k*64) (u8s L.flatten))=u8s P:=by
    have e1:L.flatten=(L.take k).flatten++(P++(L.drop (k+1)).flatten):=by
      rw [←QO,←ZY]
      congr 1
      have h1:=Qg.1 hk
      conv=>lhs; rw [←Z3 k L,JR h1.1,h1.2]
    have e2:(L.take k).flatten.length=k*64:=by
      rw [hall (L.take k) fun x hx=>(hL x (QU hx)).1,Q6,Zy (by omega),Nat.mul_comm]
    rw [e1,JO,JO,←e2,←Qq,Vv,←lP,←Qq P,WG]
  have hle:k*64+64≤(u8s L.flatten).length:=by rw [Qq,hfl,hn]; omega
  obtain ⟨G1,hG1⟩:∃ X,X=G++[(⟨u8s P,true,true,true,1⟩:Ob),⟨u8s zK,true,true,true,1⟩]:=⟨_,rfl⟩
  have lG1:G1.length=G.length+2:=by rw [hG1]; simp
  have u1:∀ i,i<G.length→G1[i]?=G[i]? := fun i hi=>by rw [hG1,Qc hi]
  have z1:G1[H.length]?=some ⟨u8s zK,true,true,true,1⟩:=by rw [u1 _ hG]; exact hz
  have s1:=YV z1
  have z2:G1[G.length+1]?=some ⟨u8s zK,true,true,true,1⟩:=by rw [hG1,Qh (by omega),Q0]; rfl
  have s2:=YV z2
  refine ⟨G1,?_,by omega,fun i _ hi=>by rw [u1 i (by omega),hf i (by omega) hi],z1⟩
  have hz64:=Vw
  have hz32:Qa 32 (Value.int .u8 0)=u8s zK:=rfl
  have lz64:(Qa 64 0).length=64:=Qe
  have lzk:=Yq
  have e1:((k:Int)<(n:Int))=True:=eq_true (by omega)
  have w3:IntKind.i64.wrap ((k:Int)+1)=((k+1:Nat):Int):=Zx (b:=1) (by omega)
  have b32:J4 32 32 none none none=some (0,32,32):=rfl
  have im:Q1 H.length [] [H.length]=[]:=QD (by simp)
  have sp:=QG (cs:=u8s zK) (v:=u8s zK) rfl
  have fz:fillL (u8s zK) []=some (u8s zK):=rfl
  have im1:Q1 H.length [] [G.length]=[]:=QD (by simp; omega)
  have im2:Q1 H.length [] [G.length+1]=[]:=QD (by simp; omega)
  have F1:G++[(⟨u8s P,true,true,true,1⟩:Ob),⟨u8s zK,true,true,true,1⟩]=G1:=hG1.symm
  have rt:∀ r:List Nat,rf (Value.tuple #[.agg (u8s r).toArray,.int .i64 50])=true:=fun r=>KD (YA r) rfl
  clear hG1 hP hf u1 hall hgd hL hne x1 x2
  generalize P.take 32=P1,P.drop 32=P2,u8s L.flatten=LF,Qa 64 0=Z64 at *
  generalize zK=Z at *
  generalize hk64:k*64=k64 at *
  generalize hk1:k+1=k1 at *
  simp only [tgI,UC,hk64,hk1,Qs,quiet,cW,↓pW,reduceCtorEq,seval,-Qb,hz64,hz32,e1,w3,b32,hpg,hpg0,hpair,hle,t1,t2,hag,F1,z1,s1,z2,s2,sp,fz,im,im1,im2,rt,lP,l1,l2,lz64,lzk,Qy,Qz,Q7,Zc,Q8,Qq,Qe,QV]
theorem R8 {Q:List Nat→Prop}:∀ (L:List (List Nat)),(¬ ∀ x∈L,Q x)→∃ (k:Nat) (P:List Nat),L[k]?=some P∧¬ Q P∧∀ (j:Nat),j<k→∀ (R:List Nat),L[j]?=some R→Q R
 | [],h=>absurd (by simp) h
 | a::L,h=>by
  by_cases ha:Q a
  ·obtain ⟨k,P,h1,h2,h3⟩:=R8 L (fun hL=>h fun x hx=>(J0.1 hx).elim (fun e=>e▸ha) (hL x))
   refine ⟨k+1,P,h1,h2,fun j hj R hR => ?_⟩
   cases j with
   | zero=>cases hR; exact ha
   | succ j=>exact h3 j (by omega) R hR
  ·exact ⟨0,a,rfl,ha,fun j hj=>absurd hj (Nat.not_lt_zero _)⟩
theorem Ii (hP:H[pid]?=some ⟨u8s L.flatten,true,w,e,s⟩) (hL:∀ x∈L,x.length=64∧∀ y∈x,y<256) (hn9:L.length≤20)
 (hne:¬ ∀ x∈L,Zt (x.take 32) (x.drop 32)≠zK) :
    ∃ l,Z5 T 23 [.slice (some ⟨pid,0,none⟩) L.length c] H=some (.tuple #[.agg (u8s zK).toArray,.int .i64 50],H++l,[]):=by
  obtain ⟨k,P,hk,hP0,hbef⟩:=R8 L hne
  have hP0:Zt (P.take 32) (P.drop 32)=zK:=Classical.not_not.1 hP0
  have hkL:=(Qg.1 hk).1
  obtain ⟨n,hn⟩:∃ n,L.length=n:=⟨_,rfl⟩
  have hf:=Ly (H:=H) (pv := .slice (some ⟨pid,0,none⟩) n c)
  obtain ⟨G0,hG0⟩:∃ X,X=H++[(⟨u8s zK,true,true,true,1⟩:Ob),⟨u8s YT,true,true,true,1⟩]:=⟨_,rfl⟩
  have lG0:G0.length=H.length+2:=by rw [hG0]; simp
  obtain ⟨st,hloop,G5,rfl,r1,r2,r3⟩:=FR (base:=H.length) (id:=2) (body:=UC)
    (fun k st=>∃ G vo,st=tgI H.length (.slice (some ⟨pid,0,none⟩) n c) vo n k G []∧H.length<G.length∧(∀ i,i≤H.length→i<H.length→G[i]?=H[i]?)∧G[H.length]?=some ⟨u8s zK,true,true,true,1⟩∧AllS H.length G vo (tgA L k))
    (Q:=fun st=>∃ G,st=⟨[(2,.pointer (some ⟨H.length,0,none⟩)),(3,.int .i64 50)],G,[]⟩∧H.length<G.length∧(∀ i,i≤H.length→i<H.length→G[i]?=H[i]?)∧G[H.length]?=some ⟨u8s zK,true,true,true,1⟩)
    k (s:=tgI H.length (.slice (some ⟨pid,0,none⟩) n c) (.slice (some ⟨H.length+1,0,none⟩) 32 32) n 0 G0 [])
    ⟨G0,_,rfl,by omega,fun i _ hi=>by rw [hG0,Qc hi],by rw [hG0,Qh (Qr _),Q4]; rfl,
      .inl ⟨_,by omega,rfl,Qe,by rw [hG0,Qh (by omega),Q0]; rfl⟩⟩
    (fun j st hj hst=>by
      obtain ⟨G,v,rfl,a1,a2,a3,a4⟩:=hst
      obtain ⟨R,hR⟩:∃ P,L[j]?=some P:=⟨_,Qf (by omega)⟩
      obtain ⟨G',v',b0,b1,b2,b3,b4⟩:=SQ (c:=c) hP hL hn hR (by omega) (hbef j hj R hR) a1 a2 a3 a4
      exact ⟨_,b0,G',v',rfl,b1,b2,b3,b4⟩)
    (fun st hst=>by
      obtain ⟨G,v,rfl,a1,a2,a3,a4⟩:=hst
      obtain ⟨G',b0,b1,b2,b3⟩:=tE (c:=c) (vo:=v) hP hL hn hk (by omega) hP0 a1 a2 a3
      exact ⟨_,b0,G',rfl,b1,b2,b3⟩)
  obtain ⟨l',hl'⟩:∃ l',G5=H++l':=XJ (by omega) fun i hi=>r2 i (by omega) hi
  refine ⟨l',?_⟩
  rw [hn]
  have hz2:=r3
  rw [hl',Qh (Qr _),Q4] at hz2
  have lz:=Yq
  have hz32:Qa 32 (Value.int .u8 0)=u8s zK:=rfl
  have F0:H++[(⟨u8s zK,true,true,true,1⟩:Ob),⟨u8s YT,true,true,true,1⟩]=G0:=hG0.symm
  simp only [tfI,tgI,Qn,Ql,F0,show ((0:Nat):Int)=0 from rfl] at hloop hf
  have hmk:(Qa 32 [Value.int .u8 0]).flatten=u8s (Qa 32 0):=rfl
  rw [hl'] at hloop
  clear hG0 r1 r2 r3 hP hL hne hbef hP0 hk hl'
  generalize zK=Z at *
  generalize YT=X255 at *
  rw [Zb (fn:=nP) rfl]
  simp only [nP,Qs,quiet,cW,↓pW,reduceCtorEq,seval,-Qb,hz32,hmk,hf,hloop,hz2,lz,Qy,Qz,Q7,Zc,Q8,Qq,Qe,QV]
theorem Wy {L:List (List Nat)} (hP:H[pid]?=some ⟨u8s L.flatten,true,w,e,s⟩) (hL:∀ x∈L,x.length=64∧∀ y∈x,y<256) (hn9:L.length≤20) :
  ∃ TL E l,TL.length=32∧Z5 T 23 [.slice (some ⟨pid,0,none⟩) L.length c] H=some (.tuple #[.agg (u8s TL).toArray,.int .i64 E],H++l,[])∧(((∀ x∈L,Zt (x.take 32) (x.drop 32)≠zK)∧TL=Xn L∧E=0)∨((¬ ∀ x∈L,Zt (x.take 32) (x.drop 32)≠zK)∧TL=zK∧E=50)):=by
 by_cases h:∀ x∈L,Zt (x.take 32) (x.drop 32)≠zK
 ·obtain ⟨lT,l,ht⟩:=Lv (c:=c) hP hL hn9 h
  exact ⟨_,_,l,lT,ht,.inl ⟨h,rfl,rfl⟩⟩
 ·obtain ⟨l,ht⟩:=Ii (c:=c) hP hL hn9 h
  exact ⟨_,_,l,rfl,ht,.inr ⟨h,rfl,rfl⟩⟩
theorem R9 {C:List Value} {o:Nat} {v:Value} {r:List (Nat×Nat×Value)} (h1:v.cells.size=n) (h2:o+n≤C.length) (h3:Z7 v=true):fillL C ((o,n,v)::r)=fillL (splice C o v.cells.toList) r:=by
 conv=>lhs; unfold fillL
 rw [if_pos ⟨h1,h2,h3⟩]
theorem Cq {l:List Nat} (h:l.length=n):(Value.agg (u8s l).toArray).cells.size=n:=by show (u8s l).length=n; rw [Qq,h]
theorem OD {a b:Nat} {fa fb:List Nat} (ha:H[a]?=some ⟨u8s fa,true,true,true,1⟩) (hb:H[b]?=some ⟨u8s fb,true,true,true,1⟩) (la:fa.length=192) (lb:fb.length=64) :
  Jo 64 64 H (.slice (some ⟨a,0,none⟩) 3 3) (.slice (some ⟨b,0,none⟩) 1 1)=some (.slice (some ⟨H.length,0,none⟩) 4 4,H++[⟨u8s (fa++fb),true,true,false,64⟩],none,[]):=by
 have h4:liveAt H a=some ⟨u8s fa,true,true,true,1⟩:=Zv ha rfl
 have k2:elemsOf H 64 1 (.slice (some ⟨b,0,none⟩) 1 1)=some (u8s fb):=by
  simp [elemsOf,Zv hb rfl,Qq,lb]
  exact Qm (by rw [Qq,lb]; exact Qr _)
 have h8:elemsOf H 64 3 (.slice (some ⟨a,0,none⟩) 3 3)=some (u8s fa):=by
  simp [elemsOf,h4,Qq,la]
  exact Qm (by rw [Qq,la]; exact Qr _)
 have h0:Go.Ev.lenV (.slice (some ⟨b,0,none⟩) 1 1)=some 1:=rfl
 have h1:¬ (1:Nat)=0:=by decide
 have h2:(3+1)*64≤2^47∧0<64∧0<64:=by decide
 have h3:¬ (3+1≤3):=by decide
 simp only [Jo,h0,k2,h8,h4,Qo,if_neg h1,h2,h3,and_self,not_true_eq_false,if_false,if_true,Ob.grown,JO]
theorem AU {c:List Nat} (la:a.length=64) (lb:b.length=64) (lc:c.length=64):fillL (Qa 192 (Value.int .u8 0)) [(0,64,.agg (u8s a).toArray),(64,64,.agg (u8s b).toArray),(128,64,.agg (u8s c).toArray)]=some (u8s (a++(b++c))):=by
 have hz:Qa 192 (Value.int .u8 0)=u8s (Qa 64 0++(Qa 64 0++Qa 64 0)):=rfl
 have l64:(Qa 64 0).length=64:=Qe
 have sz:∀ {x y z:List Nat},x.length=64→y.length=64→z.length=64→(u8s (x++(y++z))).length=192:=fun hx hy hz=>by rw [Qq,Qk,Qk,hx,hy,hz]
 have s1:splice (u8s (Qa 64 0++(Qa 64 0++Qa 64 0))) 0 (u8s a)=u8s (a++(Qa 64 0++Qa 64 0)):=by
  rw [JO (Qa 64 0),YU (by rw [Qq,Qq,la,l64]),←JO]
 have s2:splice (u8s (a++(Qa 64 0++Qa 64 0))) 64 (u8s b)=u8s (a++(b++Qa 64 0)):=by
  have:=KI (a:=u8s a) (b:=u8s (Qa 64 0++Qa 64 0)) (v:=u8s b) (n:=64) (k:=0) (by rw [Qq,la]) (by simp [Qq,lb])
  rw [JO,this,JO,YU (by rw [Qq,Qq,lb,l64]),JO,JO]
 have s3:splice (u8s (a++(b++Qa 64 0))) 128 (u8s c)=u8s (a++(b++c)):=by
  have:=KI (a:=u8s (a++b)) (b:=u8s (Qa 64 0)) (v:=u8s c) (n:=128) (k:=0) (by rw [Qq,Qk,la,lb]) (by simp [Qq,lc])
  rw [←Qt,JO,this,QG (by rw [Qq,Qq,lc,l64]),←JO,Qt]
 rw [hz]
 unfold fillL
 rw [if_pos ⟨by show (u8s a).length=64; rw [Qq,la],by rw [sz l64 l64 l64]; decide,rfl⟩,show (Value.agg (u8s a).toArray).cells.toList=u8s a from rfl,s1]
 unfold fillL
 rw [if_pos ⟨by show (u8s b).length=64; rw [Qq,lb],by rw [sz la l64 l64]; decide,rfl⟩,show (Value.agg (u8s b).toArray).cells.toList=u8s b from rfl,s2]
 unfold fillL
 rw [if_pos ⟨by show (u8s c).length=64; rw [Qq,lc],by rw [sz la lb l64]; decide,rfl⟩,show (Value.agg (u8s c).toArray).cells.toList=u8s c from rfl,s3]
 rfl
theorem len3 {c:List Nat} (la:a.length=64) (lb:b.length=64) (lc:c.length=64):(a++(b++c)).length=192:=by rw [Qk,Qk,la,lb,lc]
theorem Od (la:a.length=64):fillL (Qa 64 (Value.int .u8 0)) [(0,64,.agg (u8s a).toArray)]=some (u8s a):=by
 unfold fillL
 rw [if_pos ⟨by show (u8s a).length=64; rw [Qq,la],by rw [Qe]; decide,rfl⟩,show (Value.agg (u8s a).toArray).cells.toList=u8s a from rfl,QG (by rw [Qq,la,Qe])]
 rfl
theorem kR {α:Type} {Q:α→Prop} {a b c:α} (ha:Q a) (hb:Q b) (hc:Q c):∀ x∈[a,b,c],Q x:=by
 intro x hx; simp only [J0,JG,or_false] at hx
 rcases hx with rfl | rfl | rfl<;>assumption
theorem kQ {α:Type} {Q:α→Prop} {a b c d:α} (ha:Q a) (hb:Q b) (hc:Q c) (hd:Q d):∀ x∈[a,b,c,d],Q x:=by
 intro x hx; simp only [J0,JG,or_false] at hx
 rcases hx with rfl | rfl | rfl | rfl<;>assumption
def prB (P F w p o:List Nat):List (List Nat):=[P.drop 32++p,F++w.drop 32,F++p]++if o=zK then [] else [F++o]
theorem XU (la:a.length=32) (xa:∀ y∈a,y<256) (lb:b.length=32) (xb:∀ y∈b,y<256):(a++b).length=64∧∀ y∈a++b,y<256 :=
 ⟨by rw [Qk,la,lb],fun y hy=>(QE.1 hy).elim (xa y) (xb y)⟩
theorem eH {P w o:List Nat} (lP:P.length=64) (xP:∀ y∈P,y<256) (lF:F.length=32) (xF:∀ y∈F,y<256) (h:OffL w p o g) (xw:∀ y∈w,y<256) (xp:∀ y∈p,y<256) (xo:∀ y∈o,y<256)
 (hc:QK T 11 [.agg (JY w p o i j g).toArray]=some (.int .i64 0)) :
    ∃ S E,QK T 8 [.agg (u8s P).toArray,.agg (u8s F).toArray,.agg (JY w p o i j g).toArray]=some (.tuple #[.agg (u8s S).toArray,.int .i64 E])∧S.length=64∧(((∀ x∈prB P F w p o,Zt (x.take 32) (x.drop 32)≠zK)∧S=Xn (prB P F w p o)++bdL (pbL P) w∧E=0)∨((¬ ∀ x∈prB P F w p o,Zt (x.take 32) (x.drop 32)≠zK)∧S=Qa 64 0∧E=50)):=by
  obtain ⟨la,xa⟩:=KB lP xP
  obtain ⟨t1,t2⟩:=Ya lP
  obtain ⟨lw2,xw2⟩:=KB h.lw xw
  have lp:=h.lp
  have lo:=h.lo
  have lw:=h.lw
  have n0:=V8 (i:=i) (j:=j) h
  have r1:=kC (i:=i) (j:=j) h
  have r2:=DE (i:=i) (j:=j) h
  have r3:=A8 (i:=i) (j:=j) h
  have r4:=dk (i:=i) (j:=j) h
  have tw:Zh 194 (JY w p o i j g)=JY w p o i j g:=Qm (by rw [n0]; decide)
  have hz:Qa 32 (Value.int .u8 0)=u8s zK:=rfl
  have hz64:=Vw
  have lz64:(Qa 64 0).length=64:=Qe
  have fz:fillL (u8s zK) []=some (u8s zK):=rfl
  have lz:=Yq
  have hq:=Bb (k:=o) (l:=zK) lo rfl
  have q1:=X9 la lp
  have q2:=X9 lF lw2
  have q3:=X9 lF lp
  have q4:=X9 lF lo
  obtain ⟨m1,y1⟩:=XU la xa lp xp
  obtain ⟨m2,y2⟩:=XU lF xF lw2 xw2
  obtain ⟨m3,y3⟩:=XU lF xF lp xp
  obtain ⟨m4,y4⟩:=XU lF xF lo xo
  have q5:=AU m1 m2 m3
  have q6:=Od m4
  have hper:=Md lP xP
  have lpb:=W0 P
  have hbd:=bg lpb (Ru P) lw xw
  have lbd:=HP (pbL P) w
  have ok1:∀ L:List Value,(Value.agg L.toArray).cells.toList=L:=fun _=>rfl
  have ok2:∀ L:List Value,(Value.agg L.toArray).cells.size=L.length:=fun _=>rfl
  have ok3:∀ L:List Value,Z7 (Value.agg L.toArray)=true:=fun _=>rfl
  have rfo:rf (.agg (JY w p o i j g).toArray)=true:=Iu _ _ _ _ _ _
  have im:∀ k,Q1 0 [] [k]=[]:=fun k=>QD (by simp)
  rw [Vw] at q6
  by_cases ho:o=zK
  · have hb:(!(o==zK))=false:=by rw [ho]; simp
    rw [hb] at hq
    have hL:prB P F w p o=[P.drop 32++p,F++w.drop 32,F++p]:=by rw [prB,if_pos ho]; rfl
    rw [hL]
    obtain ⟨G,hG⟩:∃ X,X=[(⟨u8s P,true,true,true,1⟩:Ob),⟨u8s F,true,true,true,1⟩,⟨JY w p o i j g,true,true,true,1⟩,⟨u8s (Qa 64 0),true,true,true,1⟩,⟨u8s (P.drop 32++p++(F++w.drop 32++(F++p))),true,true,true,1⟩]:=⟨_,rfl⟩
    have hpl:G[4]?=some ⟨u8s [P.drop 32++p,F++w.drop 32,F++p].flatten,true,true,true,1⟩:=by rw [hG]; simp
    obtain ⟨TT,E,l,lT,ht,hd⟩:=Wy (c:=3) hpl (kR ⟨m1,y1⟩ ⟨m2,y2⟩ ⟨m3,y3⟩) (by show 3≤20; decide)
    obtain ⟨G5,hG5⟩:∃ X,X=G++l:=⟨_,rfl⟩
    rw [←hG5,hG,show [P.drop 32++p,F++w.drop 32,F++p].length=3 from rfl] at ht
    have lG5:5≤G5.length:=by rw [hG5,hG,Qk]; simp
    have g0:∀ m,(G5++m)[0]?=some ⟨u8s P,true,true,true,1⟩:=fun m=>by rw [hG5,hG]; rfl
    have g2:∀ m,(G5++m)[2]?=some ⟨JY w p o i j g,true,true,true,1⟩:=fun m=>by rw [hG5,hG]; rfl
    have g3:∀ m,(G5++m)[3]?=some ⟨u8s (Qa 64 0),true,true,true,1⟩:=fun m=>by rw [hG5,hG]; rfl
    have g5:∀ m x,((G5++m).set 3 x)[3]?=some x:=fun m x=>Qx (by rw [Qk]; omega)
    rcases hd with ⟨hg,rfl,rfl⟩ | ⟨hg,rfl,rfl⟩
    · have hfin:=X9 lT lbd
      have lfin:(Xn [P.drop 32++p,F++w.drop 32,F++p]++bdL (pbL P) w).length=64:=by rw [Qk,lT,lbd]
      have sp:=QG (cs:=u8s (Qa 64 0)) (v:=u8s (Xn [P.drop 32++p,F++w.drop 32,F++p]++bdL (pbL P) w)) (by rw [Qq,Qq,lz64,lfin])
      have spT:=QG (cs:=u8s zK) (v:=u8s (Xn [P.drop 32++p,F++w.drop 32,F++p])) (by rw [Qq,Qq,lz,lT])
      refine ⟨Xn [P.drop 32++p,F++w.drop 32,F++p]++bdL (pbL P) w,0,?_,lfin,.inl ⟨hg,rfl,rfl⟩⟩
      clear hg
      clear hG hG5 hpl hL ho hb h xP xF xw xp xo y1 y2 y3 y4 xa xw2
      generalize Xn [P.drop 32++p,F++w.drop 32,F++p]++bdL (pbL P) w=FIN at *
      generalize Xn [P.drop 32++p,F++w.drop 32,F++p]=TL at *
      generalize P.drop 32++p++(F++w.drop 32++(F++p))=L3,bdL (pbL P) w=BD at *
      generalize pbL P=PB,JY w p o i j g=O,P.drop 32++p=a1,F++w.drop 32=a2 at *
      generalize F++p=a3 at *
      generalize P.drop 32=Pa,w.drop 32=wa at *
      generalize zK=Z at *
      generalize Qa 64 0=Z64 at *
      apply QI (fn:=Lc) rfl
      simp only [Lc,Qs,quiet,cW,↓pW,reduceCtorEq,seval,-Qb,hz,hz64,fz,hc,n0,r1,r2,r3,r4,tw,t1,t2,q1,q2,q3,q5,hq,ht,g0,g2,g3,g5,hper,hbd,hfin,sp,spT,im,lP,la,lF,lw,lw2,lp,lo,lz,lz64,lT,lfin,lpb,lbd,m1,m2,m3,ok1,ok2,ok3,rfo,Qy,Qz,Q7,Zc,Q8,Qq,Qe,QV]
      rfl
    · have lfin:(Qa 64 0).length=64:=lz64
      have sp:=QG (cs:=u8s (Qa 64 0)) (v:=u8s (Qa 64 0)) rfl
      have spT:=QG (cs:=u8s zK) (v:=u8s zK) rfl
      have fz64:fillL (u8s (Qa 64 0)) []=some (u8s (Qa 64 0)):=rfl
      refine ⟨Qa 64 0,50,?_,lz64,.inr ⟨hg,rfl,rfl⟩⟩
      clear hg
      clear hG hG5 hpl hL ho hb h xP xF xw xp xo y1 y2 y3 y4 xa xw2
      generalize P.drop 32++p++(F++w.drop 32++(F++p))=L3,bdL (pbL P) w=BD at *
      generalize pbL P=PB,JY w p o i j g=O,P.drop 32++p=a1,F++w.drop 32=a2 at *
      generalize F++p=a3 at *
      generalize P.drop 32=Pa,w.drop 32=wa at *
      generalize zK=Z at *
      generalize Qa 64 0=Z64 at *
      apply QI (fn:=Lc) rfl
      simp only [Lc,Qs,quiet,cW,↓pW,reduceCtorEq,seval,-Qb,hz,hz64,fz,hc,n0,r1,r2,r3,r4,tw,t1,t2,q1,q2,q3,q5,hq,ht,g0,g2,g3,g5,fz64,sp,spT,im,lP,la,lF,lw,lw2,lp,lo,lz,lz64,lfin,lpb,lbd,m1,m2,m3,ok1,ok2,ok3,rfo,Qy,Qz,Q7,Zc,Q8,Qq,Qe,QV]
      rfl
  · have hb:(!(o==zK))=true:=by simpa using ho
    rw [hb] at hq
    have hL:prB P F w p o=[P.drop 32++p,F++w.drop 32,F++p,F++o]:=by rw [prB,if_neg ho]; rfl
    rw [hL]
    obtain ⟨G0,hG0⟩:∃ X,X=[(⟨u8s P,true,true,true,1⟩:Ob),⟨u8s F,true,true,true,1⟩,⟨JY w p o i j g,true,true,true,1⟩,⟨u8s (Qa 64 0),true,true,true,1⟩,⟨u8s (P.drop 32++p++(F++w.drop 32++(F++p))),true,true,true,1⟩,⟨u8s (F++o),true,true,true,1⟩]:=⟨_,rfl⟩
    have hap:=OD (H:=G0) (a:=4) (b:=5) (by rw [hG0]; rfl) (by rw [hG0]; rfl) (len3 m1 m2 m3) m4
    obtain ⟨G,hG⟩:∃ X,X=G0++[(⟨u8s (P.drop 32++p++(F++w.drop 32++(F++p))++(F++o)),true,true,false,64⟩:Ob)]:=⟨_,rfl⟩
    rw [←hG,hG0] at hap
    simp only [Z0,ZW,QL] at hap
    have hpl:G[6]?=some ⟨u8s [P.drop 32++p,F++w.drop 32,F++p,F++o].flatten,true,true,false,64⟩:=by rw [hG,hG0]; simp
    obtain ⟨TT,E,l,lT,ht,hd⟩:=Wy (c:=4) hpl (kQ ⟨m1,y1⟩ ⟨m2,y2⟩ ⟨m3,y3⟩ ⟨m4,y4⟩) (by show 4≤20; decide)
    obtain ⟨G5,hG5⟩:∃ X,X=G++l:=⟨_,rfl⟩
    rw [←hG5,show [P.drop 32++p,F++w.drop 32,F++p,F++o].length=4 from rfl] at ht
    have lG5:5≤G5.length:=by rw [hG5,hG,hG0,Qk]; simp; omega
    have g0:∀ m,(G5++m)[0]?=some ⟨u8s P,true,true,true,1⟩:=fun m=>by rw [hG5,hG,hG0]; rfl
    have g2:∀ m,(G5++m)[2]?=some ⟨JY w p o i j g,true,true,true,1⟩:=fun m=>by rw [hG5,hG,hG0]; rfl
    have g3:∀ m,(G5++m)[3]?=some ⟨u8s (Qa 64 0),true,true,true,1⟩:=fun m=>by rw [hG5,hG,hG0]; rfl
    have g5:∀ m x,((G5++m).set 3 x)[3]?=some x:=fun m x=>Qx (by rw [Qk]; omega)
    rcases hd with ⟨hg,rfl,rfl⟩ | ⟨hg,rfl,rfl⟩
    · have hfin:=X9 lT lbd
      have lfin:(Xn [P.drop 32++p,F++w.drop 32,F++p,F++o]++bdL (pbL P) w).length=64:=by rw [Qk,lT,lbd]
      have sp:=QG (cs:=u8s (Qa 64 0)) (v:=u8s (Xn [P.drop 32++p,F++w.drop 32,F++p,F++o]++bdL (pbL P) w)) (by rw [Qq,Qq,lz64,lfin])
      have spT:=QG (cs:=u8s zK) (v:=u8s (Xn [P.drop 32++p,F++w.drop 32,F++p,F++o])) (by rw [Qq,Qq,lz,lT])
      refine ⟨Xn [P.drop 32++p,F++w.drop 32,F++p,F++o]++bdL (pbL P) w,0,?_,lfin,.inl ⟨hg,rfl,rfl⟩⟩
      clear hg
      clear hG hG0 hG5 hpl hL ho hb h xP xF xw xp xo y1 y2 y3 y4 xa xw2
      generalize Xn [P.drop 32++p,F++w.drop 32,F++p,F++o]++bdL (pbL P) w=FIN at *
      generalize Xn [P.drop 32++p,F++w.drop 32,F++p,F++o]=TL at *
      generalize P.drop 32++p++(F++w.drop 32++(F++p))=L3,bdL (pbL P) w=BD at *
      generalize pbL P=PB,JY w p o i j g=O,P.drop 32++p=a1,F++w.drop 32=a2 at *
      generalize F++p=a3 at *
      generalize F++o=a4 at *
      generalize P.drop 32=Pa,w.drop 32=wa at *
      generalize zK=Z at *
      generalize Qa 64 0=Z64 at *
      apply QI (fn:=Lc) rfl
      simp only [Lc,Qs,quiet,cW,↓pW,reduceCtorEq,seval,-Qb,hz,hz64,fz,hc,n0,r1,r2,r3,r4,tw,t1,t2,q1,q2,q3,q4,q5,q6,hq,hap,ht,g0,g2,g3,g5,hper,hbd,hfin,sp,spT,im,lP,la,lF,lw,lw2,lp,lo,lz,lz64,lT,lfin,lpb,lbd,m1,m2,m3,m4,ok1,ok2,ok3,rfo,Qy,Qz,Q7,Zc,Q8,Qq,Qe,QV]
      rfl
    · have lfin:(Qa 64 0).length=64:=lz64
      have sp:=QG (cs:=u8s (Qa 64 0)) (v:=u8s (Qa 64 0)) rfl
      have spT:=QG (cs:=u8s zK) (v:=u8s zK) rfl
      have fz64:fillL (u8s (Qa 64 0)) []=some (u8s (Qa 64 0)):=rfl
      refine ⟨Qa 64 0,50,?_,lz64,.inr ⟨hg,rfl,rfl⟩⟩
      clear hg
      clear hG hG0 hG5 hpl hL ho hb h xP xF xw xp xo y1 y2 y3 y4 xa xw2
      generalize P.drop 32++p++(F++w.drop 32++(F++p))=L3,bdL (pbL P) w=BD at *
      generalize pbL P=PB,JY w p o i j g=O,P.drop 32++p=a1,F++w.drop 32=a2 at *
      generalize F++p=a3 at *
      generalize F++o=a4 at *
      generalize P.drop 32=Pa,w.drop 32=wa at *
      generalize zK=Z at *
      generalize Qa 64 0=Z64 at *
      apply QI (fn:=Lc) rfl
      simp only [Lc,Qs,quiet,cW,↓pW,reduceCtorEq,seval,-Qb,hz,hz64,fz,hc,n0,r1,r2,r3,r4,tw,t1,t2,q1,q2,q3,q4,q5,q6,hq,hap,ht,g0,g2,g3,g5,fz64,sp,spT,im,lP,la,lF,lw,lw2,lp,lo,lz,lz64,lfin,lpb,lbd,m1,m2,m3,m4,ok1,ok2,ok3,rfo,Qy,Qz,Q7,Zc,Q8,Qq,Qe,QV]
      rfl
theorem sn {P w:List Nat} (lP:P.length=64) (xP:∀ y∈P,y<256) (lF:F.length=32) (xF:∀ y∈F,y<256) (h:OffL w p o g) (xw:∀ y∈w,y<256) (xp:∀ y∈p,y<256) (xo:∀ y∈o,y<256)
 (hc:QK T 11 [.agg (JY w p o i j g).toArray]=some (.int .i64 0)) (hne:∀ x∈prB P F w p o,Zt (x.take 32) (x.drop 32)≠zK) :
    QK T 8 [.agg (u8s P).toArray,.agg (u8s F).toArray,.agg (JY w p o i j g).toArray]=some (.tuple #[.agg (u8s (Xn (prB P F w p o)++bdL (pbL P) w)).toArray,.int .i64 0]):=by
  obtain ⟨S,E,h1,-,⟨-,rfl,rfl⟩ | ⟨h2,-⟩⟩:=eH lP xP lF xF h xw xp xo hc
  · exact h1
  · exact absurd hne h2
def prA (P pre o W f:List Nat):List (List Nat):=[pre++W.drop 32,P.drop 32++f,pre++f]++if o=zK then [] else [o++f]
theorem Cs {P o:List Nat} (lP:P.length=64) (xP:∀ y∈P,y<256) (lr:pre.length=32) (xr:∀ y∈pre,y<256) (lo:o.length=32) (xo:∀ y∈o,y<256) (lw:W.length=64) (xw:∀ y∈W,y<256) (lf:f.length=32) (xf:∀ y∈f,y<256) :
  ∃ S E,QK T 13 [.agg (u8s P).toArray,.agg (u8s pre).toArray,.agg (u8s o).toArray,.agg (u8s W).toArray,.agg (u8s f).toArray]=some (.tuple #[.agg (u8s S).toArray,.int .i64 E])∧S.length=64∧(((∀ x∈prA P pre o W f,Zt (x.take 32) (x.drop 32)≠zK)∧S=Xn (prA P pre o W f)++bdL W (pbL P)∧E=0)∨((¬ ∀ x∈prA P pre o W f,Zt (x.take 32) (x.drop 32)≠zK)∧S=Qa 64 0∧E=50)):=by
 obtain ⟨la,xa⟩:=KB lP xP
 obtain ⟨t1,t2⟩:=Ya lP
 obtain ⟨t3,t4⟩:=Ya lw
 obtain ⟨lw2,xw2⟩:=KB lw xw
 have hz:Qa 32 (Value.int .u8 0)=u8s zK:=rfl
 have hz64:=Vw
 have lz64:(Qa 64 0).length=64:=Qe
 have fz:fillL (u8s zK) []=some (u8s zK):=rfl
 have lz:=Yq
 have hq:=Bb (k:=o) (l:=zK) lo rfl
 have q1:=X9 lr lw2
 have q2:=X9 la lf
 have q3:=X9 lr lf
 have q4:=X9 lo lf
 obtain ⟨m1,y1⟩:=XU lr xr lw2 xw2
 obtain ⟨m2,y2⟩:=XU la xa lf xf
 obtain ⟨m3,y3⟩:=XU lr xr lf xf
 obtain ⟨m4,y4⟩:=XU lo xo lf xf
 have q5:=AU m1 m2 m3
 have q6:=Od m4
 have hper:=Md lP xP
 have lpb:=W0 P
 have hbd:=bg lw xw lpb (Ru P)
 have lbd:=HP W (pbL P)
 have im:∀ k,Q1 0 [] [k]=[]:=fun k=>QD (by simp)
 rw [Vw] at q6
 by_cases ho:o=zK
 ·have hb:(!(o==zK))=false:=by rw [ho]; simp
  rw [hb] at hq
  have hL:prA P pre o W f=[pre++W.drop 32,P.drop 32++f,pre++f]:=by rw [prA,if_pos ho]; rfl
  rw [hL]
  obtain ⟨G,hG⟩:∃ X,X=[(⟨u8s P,true,true,true,1⟩:Ob),⟨u8s pre,true,true,true,1⟩,⟨u8s o,true,true,true,1⟩,⟨u8s W,true,true,true,1⟩,⟨u8s f,true,true,true,1⟩,⟨u8s (Qa 64 0),true,true,true,1⟩,⟨u8s (pre++W.drop 32++(P.drop 32++f++(pre++f))),true,true,true,1⟩]:=⟨_,rfl⟩
  have hpl:G[6]?=some ⟨u8s [pre++W.drop 32,P.drop 32++f,pre++f].flatten,true,true,true,1⟩:=by rw [hG]; simp
  obtain ⟨TT,E,l,lT,ht,hd⟩:=Wy (c:=3) hpl (kR ⟨m1,y1⟩ ⟨m2,y2⟩ ⟨m3,y3⟩) (by show 3≤20; decide)
  obtain ⟨G5,hG5⟩:∃ X,X=G++l:=⟨_,rfl⟩
  rw [←hG5,hG,show [pre++W.drop 32,P.drop 32++f,pre++f].length=3 from rfl] at ht
  have lG5:6≤G5.length:=by rw [hG5,hG,Qk]; simp; omega
  have g0:∀ m,(G5++m)[0]?=some ⟨u8s P,true,true,true,1⟩:=fun m=>by rw [hG5,hG]; rfl
  have g2:∀ m,(G5++m)[3]?=some ⟨u8s W,true,true,true,1⟩:=fun m=>by rw [hG5,hG]; rfl
  have g3:∀ m,(G5++m)[5]?=some ⟨u8s (Qa 64 0),true,true,true,1⟩:=fun m=>by rw [hG5,hG]; rfl
  have g5:∀ m x,((G5++m).set 5 x)[5]?=some x:=fun m x=>Qx (by rw [Qk]; omega)
  rcases hd with ⟨hg,rfl,rfl⟩ | ⟨hg,rfl,rfl⟩
  ·have hfin:=X9 lT lbd
   have lfin:(Xn [pre++W.drop 32,P.drop 32++f,pre++f]++bdL W (pbL P)).length=64:=by rw [Qk,lT,lbd]
   have sp:=QG (cs:=u8s (Qa 64 0)) (v:=u8s (Xn [pre++W.drop 32,P.drop 32++f,pre++f]++bdL W (pbL P))) (by rw [Qq,Qq,lz64,lfin])
   have spT:=QG (cs:=u8s zK) (v:=u8s (Xn [pre++W.drop 32,P.drop 32++f,pre++f])) (by rw [Qq,Qq,lz,lT])
   refine ⟨Xn [pre++W.drop 32,P.drop 32++f,pre++f]++bdL W (pbL P),0,?_,lfin,.inl ⟨hg,rfl,rfl⟩⟩
   clear hg
   clear hG hG5 hpl hL ho hb xP xw xr xo xf y1 y2 y3 y4 xa xw2
   generalize Xn [pre++W.drop 32,P.drop 32++f,pre++f]++bdL W (pbL P)=FIN at *
   generalize Xn [pre++W.drop 32,P.drop 32++f,pre++f]=TL at *
   generalize pre++W.drop 32++(P.drop 32++f++(pre++f))=L3,bdL W (pbL P)=BD at *
   generalize pbL P=PB,pre++W.drop 32=a1,P.drop 32++f=a2 at *
   generalize pre++f=a3 at *
   generalize P.drop 32=Pa,W.drop 32=wa at *
   generalize zK=Z at *
   generalize Qa 64 0=Z64 at *
   apply QI (fn:=Lb) rfl
   simp only [Lb,Qs,quiet,cW,↓pW,reduceCtorEq,seval,-Qb,hz,hz64,fz,t2,t4,q1,q2,q3,q4,q5,q6,hq,ht,g0,g2,g3,g5,hper,hbd,hfin,sp,spT,im,lP,la,lr,lw,lw2,lf,lo,lz,lz64,lT,lfin,lpb,lbd,m1,m2,m3,m4,Qy,Qz,Q7,Zc,Q8,Qq,Qe,QV]
   rfl
  ·have lfin:(Qa 64 0).length=64:=lz64
   have sp:=QG (cs:=u8s (Qa 64 0)) (v:=u8s (Qa 64 0)) rfl
   have spT:=QG (cs:=u8s zK) (v:=u8s zK) rfl
   have fz64:fillL (u8s (Qa 64 0)) []=some (u8s (Qa 64 0)):=rfl
   refine ⟨Qa 64 0,50,?_,lz64,.inr ⟨hg,rfl,rfl⟩⟩
   clear hg
   clear hG hG5 hpl hL ho hb xP xw xr xo xf y1 y2 y3 y4 xa xw2
   generalize pre++W.drop 32++(P.drop 32++f++(pre++f))=L3,bdL W (pbL P)=BD at *
   generalize pbL P=PB,pre++W.drop 32=a1,P.drop 32++f=a2 at *
   generalize pre++f=a3 at *
   generalize P.drop 32=Pa,W.drop 32=wa at *
   generalize zK=Z at *
   generalize Qa 64 0=Z64 at *
   apply QI (fn:=Lb) rfl
   simp only [Lb,Qs,quiet,cW,↓pW,reduceCtorEq,seval,-Qb,hz,hz64,fz,t2,t4,q1,q2,q3,q4,q5,q6,hq,ht,g0,g2,g3,g5,fz64,sp,spT,im,lP,la,lr,lw,lw2,lf,lo,lz,lz64,lfin,lpb,lbd,m1,m2,m3,m4,Qy,Qz,Q7,Zc,Q8,Qq,Qe,QV]
   rfl
 ·have hb:(!(o==zK))=true:=by simpa using ho
  rw [hb] at hq
  have hL:prA P pre o W f=[pre++W.drop 32,P.drop 32++f,pre++f,o++f]:=by rw [prA,if_neg ho]; rfl
  rw [hL]
  obtain ⟨G0,hG0⟩:∃ X,X=[(⟨u8s P,true,true,true,1⟩:Ob),⟨u8s pre,true,true,true,1⟩,⟨u8s o,true,true,true,1⟩,⟨u8s W,true,true,true,1⟩,⟨u8s f,true,true,true,1⟩,⟨u8s (Qa 64 0),true,true,true,1⟩,⟨u8s (pre++W.drop 32++(P.drop 32++f++(pre++f))),true,true,true,1⟩,⟨u8s (o++f),true,true,true,1⟩]:=⟨_,rfl⟩
  have hap:=OD (H:=G0) (a:=6) (b:=7) (by rw [hG0]; rfl) (by rw [hG0]; rfl) (len3 m1 m2 m3) m4
  obtain ⟨G,hG⟩:∃ X,X=G0++[(⟨u8s (pre++W.drop 32++(P.drop 32++f++(pre++f))++(o++f)),true,true,false,64⟩:Ob)]:=⟨_,rfl⟩
  rw [←hG,hG0] at hap
  simp only [Z0,ZW,QL] at hap
  have hpl:G[8]?=some ⟨u8s [pre++W.drop 32,P.drop 32++f,pre++f,o++f].flatten,true,true,false,64⟩:=by rw [hG,hG0]; simp
  obtain ⟨TT,E,l,lT,ht,hd⟩:=Wy (c:=4) hpl (kQ ⟨m1,y1⟩ ⟨m2,y2⟩ ⟨m3,y3⟩ ⟨m4,y4⟩) (by show 4≤20; decide)
  obtain ⟨G5,hG5⟩:∃ X,X=G++l:=⟨_,rfl⟩
  rw [←hG5,show [pre++W.drop 32,P.drop 32++f,pre++f,o++f].length=4 from rfl] at ht
  have lG5:6≤G5.length:=by rw [hG5,hG,hG0,Qk]; simp; omega
  have g0:∀ m,(G5++m)[0]?=some ⟨u8s P,true,true,true,1⟩:=fun m=>by rw [hG5,hG,hG0]; rfl
  have g2:∀ m,(G5++m)[3]?=some ⟨u8s W,true,true,true,1⟩:=fun m=>by rw [hG5,hG,hG0]; rfl
  have g3:∀ m,(G5++m)[5]?=some ⟨u8s (Qa 64 0),true,true,true,1⟩:=fun m=>by rw [hG5,hG,hG0]; rfl
  have g5:∀ m x,((G5++m).set 5 x)[5]?=some x:=fun m x=>Qx (by rw [Qk]; omega)
  rcases hd with ⟨hg,rfl,rfl⟩ | ⟨hg,rfl,rfl⟩
  ·have hfin:=X9 lT lbd
   have lfin:(Xn [pre++W.drop 32,P.drop 32++f,pre++f,o++f]++bdL W (pbL P)).length=64:=by rw [Qk,lT,lbd]
   have sp:=QG (cs:=u8s (Qa 64 0)) (v:=u8s (Xn [pre++W.drop 32,P.drop 32++f,pre++f,o++f]++bdL W (pbL P))) (by rw [Qq,Qq,lz64,lfin])
   have spT:=QG (cs:=u8s zK) (v:=u8s (Xn [pre++W.drop 32,P.drop 32++f,pre++f,o++f])) (by rw [Qq,Qq,lz,lT])
   refine ⟨Xn [pre++W.drop 32,P.drop 32++f,pre++f,o++f]++bdL W (pbL P),0,?_,lfin,.inl ⟨hg,rfl,rfl⟩⟩
   clear hg
   clear hG hG0 hG5 hpl hL ho hb xP xw xr xo xf y1 y2 y3 y4 xa xw2
   generalize Xn [pre++W.drop 32,P.drop 32++f,pre++f,o++f]++bdL W (pbL P)=FIN at *
   generalize Xn [pre++W.drop 32,P.drop 32++f,pre++f,o++f]=TL at *
   generalize pre++W.drop 32++(P.drop 32++f++(pre++f))=L3,bdL W (pbL P)=BD at *
   generalize pbL P=PB,pre++W.drop 32=a1,P.drop 32++f=a2 at *
   generalize pre++f=a3 at *
   generalize o++f=a4 at *
   generalize P.drop 32=Pa,W.drop 32=wa at *
   generalize zK=Z at *
   generalize Qa 64 0=Z64 at *
   apply QI (fn:=Lb) rfl
   simp only [Lb,Qs,quiet,cW,↓pW,reduceCtorEq,seval,-Qb,hz,hz64,fz,t2,t4,q1,q2,q3,q4,q5,q6,hq,hap,ht,g0,g2,g3,g5,hper,hbd,hfin,sp,spT,im,lP,la,lr,lw,lw2,lf,lo,lz,lz64,lT,lfin,lpb,lbd,m1,m2,m3,m4,Qy,Qz,Q7,Zc,Q8,Qq,Qe,QV]
   rfl
  ·have lfin:(Qa 64 0).length=64:=lz64
   have sp:=QG (cs:=u8s (Qa 64 0)) (v:=u8s (Qa 64 0)) rfl
   have spT:=QG (cs:=u8s zK) (v:=u8s zK) rfl
   have fz64:fillL (u8s (Qa 64 0)) []=some (u8s (Qa 64 0)):=rfl
   refine ⟨Qa 64 0,50,?_,lz64,.inr ⟨hg,rfl,rfl⟩⟩
   clear hg
   clear hG hG0 hG5 hpl hL ho hb xP xw xr xo xf y1 y2 y3 y4 xa xw2
   generalize pre++W.drop 32++(P.drop 32++f++(pre++f))=L3,bdL W (pbL P)=BD at *
   generalize pbL P=PB,pre++W.drop 32=a1,P.drop 32++f=a2 at *
   generalize pre++f=a3 at *
   generalize o++f=a4 at *
   generalize P.drop 32=Pa,W.drop 32=wa at *
   generalize zK=Z at *
   generalize Qa 64 0=Z64 at *
   apply QI (fn:=Lb) rfl
   simp only [Lb,Qs,quiet,cW,↓pW,reduceCtorEq,seval,-Qb,hz,hz64,fz,t2,t4,q1,q2,q3,q4,q5,q6,hq,hap,ht,g0,g2,g3,g5,fz64,sp,spT,im,lP,la,lr,lw,lw2,lf,lo,lz,lz64,lfin,lpb,lbd,m1,m2,m3,m4,Qy,Qz,Q7,Zc,Q8,Qq,Qe,QV]
   rfl
theorem nK {P:List Nat} (lP:P.length=64) (xP:∀ y∈P,y<256) (lr:pre.length=32) (xr:∀ y∈pre,y<256) (lo:o.length=32) (xo:∀ y∈o,y<256) (lw:W.length=64) (xw:∀ y∈W,y<256) (lf:f.length=32) (xf:∀ y∈f,y<256)
 (hne:∀ x∈prA P pre o W f,Zt (x.take 32) (x.drop 32)≠zK) :
    QK T 13 [.agg (u8s P).toArray,.agg (u8s pre).toArray,.agg (u8s o).toArray,.agg (u8s W).toArray,.agg (u8s f).toArray]=some (.tuple #[.agg (u8s (Xn (prA P pre o W f)++bdL W (pbL P))).toArray,.int .i64 0]):=by
  obtain ⟨S,E,h1,-,⟨-,rfl,rfl⟩ | ⟨h2,-⟩⟩:=Cs lP xP lr xr lo xo lw xw lf xf
  · exact h1
  · exact absurd hne h2
end Go.Ev.YtpgphpkjlpkcbaaGreat
namespace Go.Ev.YtpgphpkjlpkcbaaGreat
open Go Go.Ev
set_option maxRecDepth 100000
variable {A B F pre a:List Nat}
theorem bK (s m:List Nat):(Gq s m).take 32=frL s m:=by rw [Gq,List.take_append_of_le_length (by rw [HH]; decide),Qm (by rw [HH]; decide)]
theorem bL (s m:List Nat):(Gq s m).drop 32=bkL s m:=by rw [Gq,List.drop_append_of_le_length (by rw [HH]; decide),List.drop_of_length_le (by rw [HH]; decide),Ql]
theorem Fk (B pre once:List Nat) (pid oid:Nat):QK T 11 [.agg (UO B pre once pid oid).toArray]=some (.int .i64 0):=by
 obtain ⟨c,hc,hs⟩:=kH (j:=Uz once oid) (i:=pid) (HA B pre once pid) (Ru B) (W5 _ _) (oH _ _)
 rw [iY,WZ,uj,bK,bL] at hs
 have e:=oG hs
 subst e
 exact hc
theorem Gz {k:List Nat} (lk:k.length=32) (xk:∀ y∈k,y<256):KQ k=zK↔k=zK:=by
 unfold KQ
 by_cases h:k=zK
 ·rw [if_pos h]; exact ⟨fun _=>h,fun _=>rfl⟩
 ·rw [if_neg h]; exact ⟨fun e=>absurd e (IC lk xk),fun e=>absurd e h⟩
theorem JQ (la:a.length=32) (b:List Nat):(a++b).take 32=a∧(a++b).drop 32=b:=by rw [←la,WG,Vv]; exact ⟨rfl,rfl⟩
def seL (A B F pre once:List Nat):List Nat:=Xn (prB A F (pbL B) (Zt pre Zq) (KQ once))++bdL (pbL A) (pbL B)
theorem DT (L:List (List Nat)):(Xn L).length=32:=by rw [Xn,Dr,KW,KW,Ql,D1 (by decide)]
theorem oI (A B F pre once:List Nat):(seL A B F pre once).length=64:=by rw [seL,Qk,HP,DT]
structure K5 (A B F pre once:List Nat):Prop where
 lA:A.length=64
 xA:∀ y∈A,y<256
 lB:B.length=64
 xB:∀ y∈B,y<256
 lF:F.length=32
 xF:∀ y∈F,y<256
 lp:pre.length=32
 xp:∀ y∈pre,y<256
 lo:once.length=32
 xo:∀ y∈once,y<256
theorem Tb {k:List Nat} (la:a.length=32) (xa:∀ y∈a,y<256) (lk:k.length=32) (xk:∀ y∈k,y<256):Zt ((a++Zt k Zq).take 32) ((a++Zt k Zq).drop 32)≠zK:=by
 rw [(JQ la _).1,(JQ la _).2]; exact NJ la xa lk xk
theorem cR {once:List Nat} (h:K5 A B F pre once) (pid oid:Nat):QK T 8 [.agg (u8s A).toArray,.agg (u8s F).toArray,.agg (UO B pre once pid oid).toArray]=some (.tuple #[.agg (u8s (seL A B F pre once)).toArray,.int .i64 0]):=by
 obtain ⟨la,xa⟩:=KB h.lA h.xA
 obtain ⟨lb,xb⟩:=KB h.lB h.xB
 refine sn h.lA h.xA h.lF h.xF (HA B pre once pid) (Ru B) (W5 _ _) (kg _) (Fk B pre once pid oid) ?_
 rw [prB,WZ]
 have n1:=Tb la xa h.lp h.xp
 have n2:=Tb h.lF h.xF lb xb
 have n3:=Tb h.lF h.xF h.lp h.xp
 by_cases e:once=zK
 ·rw [if_pos ((Gz h.lo h.xo).2 e)]
  exact kR n1 n2 n3
 ·rw [if_neg (fun e'=>e ((Gz h.lo h.xo).1 e'))]
  have n4:=Tb h.lF h.xF h.lo h.xo
  rw [show KQ once=Zt once Zq from if_neg e]
  exact kQ n1 n2 n3 n4
theorem pP {once:List Nat} (h:K5 A B F pre once):Xn (prA B pre once (pbL A) (Zt F Zq))=Xn (prB A F (pbL B) (Zt pre Zq) (KQ once)):=by
 obtain ⟨la,xa⟩:=KB h.lA h.xA
 obtain ⟨lb,xb⟩:=KB h.lB h.xB
 have s1:=fun w=>JQ la w
 have s2:=fun w=>JQ lb w
 have s3:=fun w=>JQ h.lF w
 have s4:=fun w=>JQ h.lp w
 have s5:=fun w=>JQ h.lo w
 have e1:=HF la xa h.lp h.xp
 have e2:=HF h.lF h.xF lb xb
 have e3:=HF h.lF h.xF h.lp h.xp
 have e4:=HF h.lF h.xF h.lo h.xo
 rw [prA,prB,WZ,WZ]
 by_cases e:once=zK
 ·rw [if_pos ((Gz h.lo h.xo).2 e),if_pos e]
  simp only [QF,Xn,Z0,ZW,QL,tgA,B9,BC,s1,s2,s3,s4,e1,e2,e3]
 ·rw [if_neg (fun e'=>e ((Gz h.lo h.xo).1 e')),if_neg e,show KQ once=Zt once Zq from if_neg e]
  simp only [Qn,Ql,Xn,Z0,ZW,QL,tgA,B9,BC,s1,s2,s3,s4,s5,e1,e2,e3,e4]
theorem PH {once:List Nat} (h:K5 A B F pre once):QK T 13 [.agg (u8s B).toArray,.agg (u8s pre).toArray,.agg (u8s once).toArray,.agg (u8s (pbL A)).toArray,.agg (u8s (Zt F Zq)).toArray]=some (.tuple #[.agg (u8s (seL A B F pre once)).toArray,.int .i64 0]):=by
 obtain ⟨la,xa⟩:=KB h.lA h.xA
 obtain ⟨lb,xb⟩:=KB h.lB h.xB
 have:=nK h.lB h.xB h.lp h.xp h.lo h.xo (W0 A) (Ru A) (Xw F Zq) (W5 F Zq) ?_
 ·rwa [pP h] at this
 rw [prA,WZ]
 have n1:=Tb h.lp h.xp la xa
 have n2:=Tb lb xb h.lF h.xF
 have n3:=Tb h.lp h.xp h.lF h.xF
 by_cases e:once=zK
 ·rw [if_pos e]
  exact kR n1 n2 n3
 ·rw [if_neg e]
  exact kQ n1 n2 n3 (Tb h.lo h.xo h.lF h.xF)
end Go.Ev.YtpgphpkjlpkcbaaGreat
namespace Go.Ev.YtpgphpkjlpkcbaaGreat
open Go Go.Ev
attribute [local congr] JC JV JB JW Jz
set_option maxRecDepth 100000
variable {oid tid s s2 c1 c2 k n B:Nat} {w e w2 e2:Bool} {L:List (List Nat)} {G H:List Ob} {W K a b c pre f:List Nat}
theorem Tf (n:Nat):∀ y∈kE n,y<256:=YH
theorem K7 (n:Nat):(kE n).length=32:=Zd _ _ _
theorem kE5:K5 (kE 1++kE 2) (kE 3++kE 4) (kE 9) (kE 5) (kE 6) :=
 have h1:=XU (K7 1) (Tf 1) (K7 2) (Tf 2)
 have h2:=XU (K7 3) (Tf 3) (K7 4) (Tf 4)
 ⟨h1.1,h1.2,h2.1,h2.2,K7 9,Tf 9,K7 5,Tf 5,K7 6,Tf 6⟩
theorem lJ:¬ kE 6=zK:=by decide
theorem seE:Xn (prB (kE 1++kE 2) (kE 9) (pbL (kE 3++kE 4)) (Zt (kE 5) Zq) (KQ (kE 6)))≠zK:=by
 have e:=Gz (K7 6) (Tf 6)
 have s1:=(JQ (K7 1) (kE 2)).2
 have s2:=(JQ (K7 3) (kE 4)).2
 rw [prB,WZ,s1,s2,if_neg (fun h=>lJ (e.1 h)),show KQ (kE 6)=Zt (kE 6) Zq from if_neg lJ]
 exact togE
theorem qz:QK T 7 []=some (.bool true):=by
 have K:=kE5
 have hz:Qa 32 (Value.int .u8 0)=u8s zK:=rfl
 have hz64:=Vw
 have lz64:(Qa 64 0).length=64:=Qe
 have fz:fillL (u8s zK) []=some (u8s zK):=rfl
 have lz:=Yq
 have f1:fillL (u8s zK) [(0,1,.int .u8 1)]=some (u8s (kE 1)):=rfl
 have f2:fillL (u8s zK) [(0,1,.int .u8 2)]=some (u8s (kE 2)):=rfl
 have f3:fillL (u8s zK) [(0,1,.int .u8 3)]=some (u8s (kE 3)):=rfl
 have f4:fillL (u8s zK) [(0,1,.int .u8 4)]=some (u8s (kE 4)):=rfl
 have f5:fillL (u8s zK) [(0,1,.int .u8 5)]=some (u8s (kE 5)):=rfl
 have f6:fillL (u8s zK) [(0,1,.int .u8 6)]=some (u8s (kE 6)):=rfl
 have f9:fillL (u8s zK) [(0,1,.int .u8 9)]=some (u8s (kE 9)):=rfl
 have q1:=X9 (K7 1) (K7 2)
 have q2:=X9 (K7 3) (K7 4)
 have l1:=K7 1
 have l2:=K7 2
 have l3:=K7 3
 have l4:=K7 4
 have l5:=K7 5
 have l6:=K7 6
 have l9:=K7 9
 have lA:=K.lA
 have lB:=K.lB
 have hoff:QK T 15 [.agg (u8s (kE 3++kE 4)).toArray,.agg (u8s (kE 5)).toArray,.agg (u8s (kE 6)).toArray,.int .u32 7,.int .u32 8]=_:=qj (pid:=7) (oid:=8) K.lB K.xB K.lp K.xp K.lo K.xo
 have hbeg:=cR K 7 8
 have hacc:=PH K
 have hper:=Md K.lA K.xA
 have hpub:=HE K.lF K.xF
 have hchk:=Fk (kE 3++kE 4) (kE 5) (kE 6) 7 8
 have lO:(UO (kE 3++kE 4) (kE 5) (kE 6) 7 8).length=194:=V8 (HA _ _ _ _)
 have nz:Y6.length=194:=rfl
 have tw:Zh 194 (UO (kE 3++kE 4) (kE 5) (kE 6) 7 8)=UO (kE 3++kE 4) (kE 5) (kE 6) 7 8:=Qm (by rw [lO]; decide)
 have sO:splice Y6 0 (UO (kE 3++kE 4) (kE 5) (kE 6) 7 8)=UO (kE 3++kE 4) (kE 5) (kE 6) 7 8:=QG (by rw [lO,nz])
 have rfo:rf (.agg (UO (kE 3++kE 4) (kE 5) (kE 6) 7 8).toArray)=true:=Iu _ _ _ _ _ _
 have o7:(UO (kE 3++kE 4) (kE 5) (kE 6) 7 8)[128]?=some (.int .u32 7):=(A9 (HA _ _ _ _)).1
 have o8:(UO (kE 3++kE 4) (kE 5) (kE 6) 7 8)[129]?=some (.int .u32 8):=by
  have:=(A9 (i:=7) (j:=Uz (kE 6) 8) (HA (kE 3++kE 4) (kE 5) (kE 6) 7)).2
  rwa [show Uz (kE 6) 8=8 from if_neg lJ] at this
 have lS:=oI (kE 1++kE 2) (kE 3++kE 4) (kE 9) (kE 5) (kE 6)
 have tS:Zh 32 (u8s (seL (kE 1++kE 2) (kE 3++kE 4) (kE 9) (kE 5) (kE 6)))=u8s (Xn (prB (kE 1++kE 2) (kE 9) (pbL (kE 3++kE 4)) (Zt (kE 5) Zq) (KQ (kE 6)))):=by
  rw [Ve,seL,(JQ (DT _) _).1]
 have hq:=Bb (k:=Xn (prB (kE 1++kE 2) (kE 9) (pbL (kE 3++kE 4)) (Zt (kE 5) Zq) (KQ (kE 6)))) (l:=zK) (DT _) rfl
 rw [show (!(Xn (prB (kE 1++kE 2) (kE 9) (pbL (kE 3++kE 4)) (Zt (kE 5) Zq) (KQ (kE 6)))==zK))=true by simpa using seE] at hq
 have hS:=bu lS lS
 rw [beq_self_eq_true] at hS
 have lT:=DT (prB (kE 1++kE 2) (kE 9) (pbL (kE 3++kE 4)) (Zt (kE 5) Zq) (KQ (kE 6)))
 have spS:=QG (cs:=u8s (Qa 64 0)) (v:=u8s (seL (kE 1++kE 2) (kE 3++kE 4) (kE 9) (kE 5) (kE 6))) (by rw [Qq,Qq,lz64,lS])
 have spA:=QG (cs:=u8s (Qa 64 0)) (v:=u8s (kE 1++kE 2)) (by rw [Qq,Qq,lz64,lA])
 have spB:=QG (cs:=u8s (Qa 64 0)) (v:=u8s (kE 3++kE 4)) (by rw [Qq,Qq,lz64,lB])
 have ok1:∀ L:List Value,(Value.agg L.toArray).cells.toList=L:=fun _=>rfl
 have ok2:∀ L:List Value,(Value.agg L.toArray).cells.size=L.length:=fun _=>rfl
 have ok3:∀ L:List Value,Z7 (Value.agg L.toArray)=true:=fun _=>rfl
 have rt:∀ r:List Nat,rf (Value.tuple #[.agg (u8s r).toArray,.int .i64 0])=true:=fun r=>KD (YA r) rfl
 have im:∀ k,Q1 0 [] [k]=[]:=fun k=>QD (by simp)
 have lPb:=W0 (kE 1++kE 2)
 have lLb:=Xw (kE 9) Zq
 clear K
 generalize seL (kE 1++kE 2) (kE 3++kE 4) (kE 9) (kE 5) (kE 6)=S,Xn (prB (kE 1++kE 2) (kE 9) (pbL (kE 3++kE 4)) (Zt (kE 5) Zq) (KQ (kE 6)))=TL,UO (kE 3++kE 4) (kE 5) (kE 6) 7 8=O,pbL (kE 1++kE 2)=PB,Zt (kE 9) Zq=L9 at *
 generalize kE 1++kE 2=A,kE 3++kE 4=B at *
 generalize kE 1=x1,kE 2=x2,kE 3=x3,kE 4=x4,kE 5=x5,kE 6=x6,kE 9=x9 at *
 generalize zK=Z at *
 generalize Qa 64 0=Z64 at *
 apply QI (fn:=wz) rfl
 simp only [wz,Qs,quiet,cW,↓pW,reduceCtorEq,seval,-Qb,hz,hz64,fz,f1,f2,f3,f4,f5,f6,f9,q1,q2,hoff,hbeg,hacc,hper,hpub,hchk,lO,nz,tw,sO,rfo,o7,o8,tS,hq,hS,spS,spA,spB,ok1,ok2,ok3,rt,im,l1,l2,l3,l4,l5,l6,l9,lA,lB,lz,lz64,lS,lT,lPb,lLb,Qy,Qz,Q7,Zc,Q8,Qq,Qe,QV]
 rfl
theorem Sb (off:Nat) (lK:K.length=n) (xK:∀ y∈K,y<256) (h:off+32≤n):((K.drop off).take 32).length=32∧(∀ y∈(K.drop off).take 32,y<256)∧Zh 32 (Jr off (u8s K))=u8s ((K.drop off).take 32) :=
 ⟨by rw [Q6,List.length_drop,lK]; omega,fun y hy=>xK y (List.mem_of_mem_drop (QU hy)),by rw [Bc,Ve]⟩
theorem bU {s:List Nat} (ls:s.length=32) (xs:∀ y∈s,y<256):QK T 36 [.agg (u8s s).toArray]=some (.agg (u8s (Y0 s)).toArray):=by
 have hz:Qa 32 (Value.int .u8 0)=u8s (dig 256 32 0):=rfl
 have lz:(dig 256 32 0).length=32:=rfl
 have hh:=cd ls xs
 obtain ⟨B,hB,rB⟩:=po
 obtain ⟨P,hP,rP⟩:=LD rB (Wz s) (Ak s)
 have hE:=cg rP
 have lE:=U5 (Jp (num 256 (scL s)) Xl)
 have l1:=Wz s
 have l2:=Hx s
 unfold Y0
 generalize enc (Jp (num 256 (scL s)) Xl)=E at *
 generalize scL s=S3,pfL s=S4,dig 256 32 0=Z at *
 apply QI (fn:=wF) rfl
 simp only [wF,Qs,quiet,cW,↓pW,reduceCtorEq,seval,-Qb,hz,hh,hB,hP,hE,Qz,Q7,Zc,Q8,Qq,ls,lz,l1,l2,lE,Qy,Qe,QV]
 rfl
theorem Sr {f g:Nat} {fn:AFun} {a:List Value} {r:Option Value} (h:QK T g a=r) (hf:T.fn f=some fn) (hg:T.fn g=some fn):QK T f a=r:=by
 rw [←h,QK,QK,Zb hf,Zb hg]
theorem Mx {S:List Nat} (lS:S.length=32) (xS:∀ y∈S,y<256):QK T 42 [.agg (u8s S).toArray]=some (Zn S) :=
 Sr (Iq lS xS) (fn:=eK) rfl rfl
theorem Om {P:List Nat} (lP:P.length=64) (xP:∀ y∈P,y<256):QK T 21 [.agg (u8s P).toArray]=some (.agg (u8s (pbL P)).toArray):=by
 obtain ⟨l1,x1⟩:=Wt lP xP
 obtain ⟨l2,x2⟩:=KB lP xP
 obtain ⟨t1,t2⟩:=Ya lP
 have hz64:=Vw
 have lz64:(Qa 64 0).length=64:=Qe
 have h1:=bU l1 x1
 have h2:=Py l2 x2
 have m1:=YB (P.take 32)
 have m2:=Xw (P.drop 32) Zq
 have q1:=X9 m1 m2
 have lpb:=W0 P
 rw [show Y0 (P.take 32)++Zt (P.drop 32) Zq=pbL P from rfl] at q1
 have sp:=QG (cs:=u8s (Qa 64 0)) (v:=u8s (pbL P)) (by rw [Qq,Qq,lz64,lpb])
 have ok1:∀ L:List Value,(Value.agg L.toArray).cells.toList=L:=fun _=>rfl
 have ok2:∀ L:List Value,(Value.agg L.toArray).cells.size=L.length:=fun _=>rfl
 have ok3:∀ L:List Value,Z7 (Value.agg L.toArray)=true:=fun _=>rfl
 generalize Qa 64 0=Z64,pbL P=PB,Y0 (P.take 32)=A1,Zt (P.drop 32) Zq=A2 at *
 generalize P.take 32=P1,P.drop 32=P2 at *
 apply QI (fn:=vN) rfl
 simp only [vN,Qs,quiet,cW,↓pW,reduceCtorEq,seval,-Qb,hz64,t1,t2,h1,h2,q1,sp,ok1,ok2,ok3,l1,l2,lP,lz64,m1,m2,lpb,Qy,Qz,Q7,Zc,Q8,Qq,Qe,QV]
 rfl
theorem mZ {A B:List Nat} (lA:A.length=64) (xA:∀ y∈A,y<256) (lB:B.length=64) (xB:∀ y∈B,y<256):QK T 26 [.agg (u8s A).toArray,.agg (u8s B).toArray]=some (.agg (u8s (bdL A B)).toArray):=by
 obtain ⟨l1,x1⟩:=Wt lA xA
 obtain ⟨l2,x2⟩:=KB lA xA
 obtain ⟨l3,x3⟩:=Wt lB xB
 obtain ⟨l4,x4⟩:=KB lB xB
 obtain ⟨c1,c2⟩:=Ya lA
 obtain ⟨c3,c4⟩:=Ya lB
 have t1:=Mx l1 x1
 have t2:=Mx l2 x2
 have t3:=Mx l3 x3
 have t4:=Mx l4 x4
 have lt:Yy.length=12:=rfl
 have a1:Jv .add (Zn Yy) (Zn (A.take 32))=some (Zn (Yy++A.take 32)):=Kr (by omega)
 have a2:Jv .add (Zn (Yy++A.take 32)) (Zn (A.drop 32))=some (Zn (Yy++A.take 32++A.drop 32)):=Kr (by simp only [Qk]; omega)
 have a3:Jv .add (Zn (Yy++A.take 32++A.drop 32)) (Zn (B.take 32))=some (Zn (Yy++A.take 32++A.drop 32++B.take 32)):=Kr (by simp only [Qk]; omega)
 have a4:Jv .add (Zn (Yy++A.take 32++A.drop 32++B.take 32)) (Zn (B.drop 32))=some (Zn (Yy++(A++B))):=by
  rw [Kr (by simp only [Qk]; omega)]
  congr 2
  rw [Qt,Z3,Qt Yy,Z3,Qt]
 have xt:∀ y∈Yy,y<256:=by decide
 have hs:=Rr (bs:=Yy++(A++B)) (fun y hy=>by
  rcases QE.1 hy with h | h
  ·exact xt y h
  ·exact (QE.1 h).elim (xA y) (xB y)) (by simp only [Qk]; omega)
 rw [show Vx (Yy++(A++B))=bdL A B from rfl] at hs
 have hl:=HP A B
 have hz:Qa 32 (Value.int .u8 0)=u8s zK:=rfl
 have lz:=Yq
 have sp:=QG (cs:=u8s zK) (v:=u8s (bdL A B)) (by rw [Qq,Qq,hl,lz])
 have rS:∀ b,rf (Zn b)=true:=fun _=>rfl
 have r1:=rS (Yy++(A++B))
 have r2:=rS (A.take 32)
 have r3:=rS (A.drop 32)
 have r4:=rS (B.take 32)
 have r5:=rS (B.drop 32)
 rw [show Zn Yy=.string (ByteArray.mk #[115,105,103,110,101,116,32,98,111,117,110,100]) from rfl] at a1
 clear rS xt x1 x2 x3 x4 xA xB
 generalize bdL A B=R at *
 generalize zK=Z at *
 generalize Zn (Yy++(A++B))=V5,Zn (Yy++A.take 32++A.drop 32++B.take 32)=V4,Zn (Yy++A.take 32++A.drop 32)=V3,Zn (Yy++A.take 32)=V2,Zn (A.take 32)=W1,Zn (A.drop 32)=W2,Zn (B.take 32)=W3,Zn (B.drop 32)=W4 at *
 generalize A.take 32=A1,A.drop 32=A2,B.take 32=B1,B.drop 32=B2 at *
 apply QI (fn:=vM) rfl
 simp only [vM,Qs,quiet,cW,↓pW,reduceCtorEq,seval,-Qb,c1,c2,c3,c4,t1,t2,t3,t4,a1,a2,a3,a4,hs,hz,lz,hl,sp,r1,r2,r3,r4,r5,lA,lB,l1,l2,l3,l4,Qy,Qz,Q7,Zc,Q8,Qq,Qe,QV]
 rfl
theorem Ok {a b p:Value} :
  Q2 T B (.block 0 (.loop MH)) ⟨[(0,a),(1,b),(4,p),(6,Zn []),(7,.int .i64 0)],G,[]⟩=some (.normal,⟨[(0,a),(1,b),(4,p),(6,Zn YT),(7,.int .i64 32),(14,.bool false)],G,[]⟩):=by
 have h:=ZV (T:=T) (base:=B) (id:=0) (body:=MH) (fun i=>⟨[(0,a),(1,b),(4,p),(6,Zn (Qa i 255)),(7,.int .i64 i)],G,[]⟩) (s':=⟨[(0,a),(1,b),(4,p),(6,Zn YT),(7,.int .i64 32),(14,.bool false)],G,[]⟩) 32
  (fun i hi=>by
   have e1:((i:Int)<32)=True:=eq_true (by omega)
   have w3:IntKind.i64.wrap ((i:Int)+1)=((i+1:Nat):Int):=Zx (b:=1) (by omega)
   have a1:Jv .add (Zn (Qa i 255)) (Zn [255])=some (Zn (Qa (i+1) 255)):=by
    rw [Kr (by simp; omega),List.replicate_succ']
   rw [show Zn [255]=.string (ByteArray.mk #[255]) from rfl] at a1
   generalize Zn (Qa (i+1) 255)=V2,Zn (Qa i 255)=V1 at *
   generalize hi1:i+1=i1 at *
   simp only [MH,Qs,quiet,cW,↓pW,reduceCtorEq,seval,-Qb,e1,w3,a1,hi1])
  (by
   rw [show Qa 32 255=YT from rfl]
   generalize Zn YT=V1 at *
   simp only [MH,Qs,quiet,cW,↓pW,reduceCtorEq,seval,-Qb])
 exact h
theorem RE {m:Nat}:∀ {M:List (List Nat)},(∀ x∈M,x.length=m)→M.flatten.length=M.length*m
 | [],_=>by simp
 | a::M,h=>by rw [QO,Qk,RE fun x hx=>h x (Y5 _ hx),h a (by simp),Z0,sF,Nat.add_comm]
theorem Ot {M:List (List Nat)} {m:Nat} {P:List Nat} (hM:∀ x∈M,x.length=m) (hk:M[k]?=some P):Zh m (Jr (k*m) (u8s M.flatten))=u8s P∧k*m+m≤(u8s M.flatten).length:=by
 have hkn:=(Qg.1 hk).1
 have e1:M.flatten=(M.take k).flatten++(P++(M.drop (k+1)).flatten):=by
  rw [←QO,←ZY]
  congr 1
  have h1:=Qg.1 hk
  conv=>lhs; rw [←Z3 k M,JR h1.1,h1.2]
 have e2:(M.take k).flatten.length=k*m:=by
  rw [RE fun x hx=>hM x (QU hx),Q6,Zy (by omega)]
 have lP:=hM P (Qp hk)
 constructor
 ·rw [e1,JO,JO,←e2,←Qq,Vv,←lP,←Qq P,WG]
 ·rw [Qq,RE hM,←sF]
  exact Nat.mul_le_mul_right _ hkn
def dtE (B oid tid n c1 c2 k:Nat) (all:List Nat):Env:=[(0,.slice (some ⟨oid,0,none⟩) n c1),(1,.slice (some ⟨tid,0,none⟩) n c2),(4,.pointer (some ⟨B,0,none⟩)),(6,Zn all),(8,.int .i64 k)]
def hdL (L:List (List Nat)):List Nat:=(L.map fun x=>x.take 32).flatten
def tlL (L:List (List Nat)):List Nat:=(L.map fun x=>x.drop 32).flatten
theorem ba {P:List Nat} (ho:G[oid]?=some ⟨u8s (hdL L),true,w,e,s⟩) (ht:G[tid]?=some ⟨u8s (tlL L),true,w2,e2,s2⟩) (hL:∀ x∈L,x.length=64∧∀ y∈x,y<256) (hk:L[k]?=some P) :
    (Zh 32 (Jr (k*32) (u8s (hdL L)))=u8s (P.take 32)∧k*32+32≤(u8s (hdL L)).length)∧(Zh 32 (Jr (k*32) (u8s (tlL L)))=u8s (P.drop 32)∧k*32+32≤(u8s (tlL L)).length) :=
  ⟨Ot (m:=32) (fun x hx=>by obtain ⟨y,hy,rfl⟩:=Xj.1 hx; exact (Wt (hL y hy).1 (hL y hy).2).1) (by rw [J6,hk]; rfl),
   Ot (m:=32) (fun x hx=>by obtain ⟨y,hy,rfl⟩:=Xj.1 hx; exact (KB (hL y hy).1 (hL y hy).2).1) (by rw [J6,hk]; rfl)⟩
theorem bc {P:List Nat} (ho:G[oid]?=some ⟨u8s (hdL L),true,w,e,s⟩) (ht:G[tid]?=some ⟨u8s (tlL L),true,w2,e2,s2⟩) (hL:∀ x∈L,x.length=64∧∀ y∈x,y<256) (hn:L.length=n) (hn9:n≤20) (hk:L[k]?=some P) (hB:B≤G.length)
 (hne:Zt (P.take 32) (P.drop 32)≠zK) :
    Q2 T B UA ⟨dtE B oid tid n c1 c2 k (tgA L k),G,[]⟩=some (.normal,⟨dtE B oid tid n c1 c2 (k+1) (tgA L (k+1)),G++[⟨u8s (Zt (P.take 32) (P.drop 32)),true,true,true,1⟩],[]⟩):=by
  have hkn:k<n:=by rw [←hn]; exact (Qg.1 hk).1
  obtain ⟨lP,xP⟩:=hL P (Qp hk)
  obtain ⟨l1,x1⟩:=Wt lP xP
  obtain ⟨l2,x2⟩:=KB lP xP
  obtain ⟨⟨p1,q1⟩,p2,q2⟩:=ba ho ht hL hk
  have hag:=EW l1 x1 l2 x2
  rw [if_neg (show Zt (P.take 32) (P.drop 32)≠dig 256 32 0 from hne)] at hag
  have lR:=Xw (P.take 32) (P.drop 32)
  have tx:=Mx lR (W5 _ _)
  have hgd:L.getD k []=P:=by rw [QA,hk]; rfl
  have hla:=DU L k
  have a1:Jv .add (Zn (tgA L k)) (Zn (Zt (P.take 32) (P.drop 32)))=some (Zn (tgA L (k+1))):=by
    rw [Kr (by omega),tgA,hgd]
  have rt:∀ r:List Nat,rf (Value.tuple #[.agg (u8s r).toArray,.int .i64 0])=true:=fun r=>KD (YA r) rfl
  have r1:rf (Zn (Zt (P.take 32) (P.drop 32)))=true:=rfl
  have hz:Qa 32 (Value.int .u8 0)=u8s zK:=rfl
  have lz:=Yq
  have sp:=QG (cs:=u8s zK) (v:=u8s (Zt (P.take 32) (P.drop 32))) (by rw [Qq,Qq,lR,lz])
  have e1:((k:Int)<(n:Int))=True:=eq_true (by omega)
  have w3:IntKind.i64.wrap ((k:Int)+1)=((k+1:Nat):Int):=Zx (b:=1) (by omega)
  have im:Q1 B [] [G.length]=[]:=QD (by simp; omega)
  simp only [dtE]
  clear hla hgd hL hne x1 x2 xP
  generalize tgA L (k+1)=A2,tgA L k=A1 at *
  generalize Zn A2=V2,Zn A1=V1,Zt (P.take 32) (P.drop 32)=R at *
  generalize Zn R=VR,P.take 32=P1,P.drop 32=P2,u8s (hdL L)=HL,u8s (tlL L)=TL at *
  generalize hk32:k*32=k32 at *
  generalize hk1:k+1=k1 at *
  generalize zK=Z at *
  simp only [UA,hk32,Qs,quiet,cW,↓pW,reduceCtorEq,seval,-Qb,e1,ho,ht,p1,p2,q1,q2,hag,tx,a1,rt,r1,hz,lz,sp,im,w3,hk1,lR,l1,l2,Qy,Qz,Q7,Zc,Q8,Qq,Qe,QV]
theorem vj {P:List Nat} (ho:G[oid]?=some ⟨u8s (hdL L),true,w,e,s⟩) (ht:G[tid]?=some ⟨u8s (tlL L),true,w2,e2,s2⟩) (hz0:G[B]?=some ⟨u8s zK,true,true,true,1⟩) (hL:∀ x∈L,x.length=64∧∀ y∈x,y<256) (hn:L.length=n) (hn9:n≤20) (hk:L[k]?=some P)
 (hne:Zt (P.take 32) (P.drop 32)=zK) :
    Q2 T B UA ⟨dtE B oid tid n c1 c2 k (tgA L k),G,[]⟩=some (.ret,⟨[(4,.pointer (some ⟨B,0,none⟩)),(5,.int .i64 50)],G++[⟨u8s zK,true,true,true,1⟩],[]⟩):=by
  have hkn:k<n:=by rw [←hn]; exact (Qg.1 hk).1
  obtain ⟨lP,xP⟩:=hL P (Qp hk)
  obtain ⟨l1,x1⟩:=Wt lP xP
  obtain ⟨l2,x2⟩:=KB lP xP
  obtain ⟨⟨p1,q1⟩,p2,q2⟩:=ba ho ht hL hk
  have hag:=EW l1 x1 l2 x2
  rw [if_pos (show Zt (P.take 32) (P.drop 32)=dig 256 32 0 from hne),show dig 256 32 0=zK from rfl] at hag
  have rt:rf (Value.tuple #[.agg (u8s zK).toArray,.int .i64 50])=true:=KD (YA zK) rfl
  have hz:Qa 32 (Value.int .u8 0)=u8s zK:=rfl
  have lz:=Yq
  have fz:fillL (u8s zK) []=some (u8s zK):=rfl
  have sp:=QG (cs:=u8s zK) (v:=u8s zK) rfl
  have e1:((k:Int)<(n:Int))=True:=eq_true (by omega)
  have hB:=(Qg.1 hz0).1
  have im:Q1 B [] [G.length]=[]:=QD (by simp; omega)
  have im2:Q1 B [] [B]=[]:=QD (by simp)
  have g0:(G++[(⟨u8s zK,true,true,true,1⟩:Ob)])[B]?=some ⟨u8s zK,true,true,true,1⟩:=by rw [Qc hB]; exact hz0
  have s0:=YV g0
  simp only [dtE]
  clear hL hne x1 x2 xP
  generalize Zn (tgA L k)=V1,P.take 32=P1,P.drop 32=P2,u8s (hdL L)=HL,u8s (tlL L)=TL at *
  generalize hk32:k*32=k32 at *
  generalize zK=Z at *
  simp only [UA,hk32,Qs,quiet,cW,↓pW,reduceCtorEq,seval,-Qb,e1,ho,ht,p1,p2,q1,q2,hag,rt,hz,lz,fz,sp,im,im2,g0,s0,l1,l2,Qy,Qz,Q7,Zc,Q8,Qq,Qe,QV]
theorem IQ (ho:H[oid]?=some ⟨u8s (hdL L),true,w,e,s⟩) (ht:H[tid]?=some ⟨u8s (tlL L),true,w2,e2,s2⟩) (hL:∀ x∈L,x.length=64∧∀ y∈x,y<256) (hn9:L.length≤20)
 (hne:∀ x∈L,Zt (x.take 32) (x.drop 32)≠zK) :
    (Xn L).length=32∧∃ l,Z5 T 25 [.slice (some ⟨oid,0,none⟩) L.length c1,.slice (some ⟨tid,0,none⟩) L.length c2] H=some (.tuple #[.agg (u8s (Xn L)).toArray,.int .i64 0],H++l,[]):=by
  obtain ⟨n,hn⟩:∃ n,L.length=n:=⟨_,rfl⟩
  obtain ⟨G0,hG0⟩:∃ X,X=H++[(⟨u8s zK,true,true,true,1⟩:Ob)]:=⟨_,rfl⟩
  have hf:=Ok (B:=H.length) (a := .slice (some ⟨oid,0,none⟩) n c1) (b := .slice (some ⟨tid,0,none⟩) n c2) (p := .pointer (some ⟨H.length,0,none⟩)) (G:=G0)
  have up:∀ (m:List Ob) {i:Nat} {o:Ob},H[i]?=some o→(G0++m)[i]?=some o:=fun m {i o} h=>by rw [hG0,Qt,Qc (Qg.1 h).1]; exact h
  have z0:∀ m:List Ob,(G0++m)[H.length]?=some ⟨u8s zK,true,true,true,1⟩:=fun m=>by rw [hG0,Qt,Qh (Qr _),Q4]; rfl
  have lG0:G0.length=H.length+1:=by rw [hG0]; simp
  obtain ⟨st,hloop,l,rfl⟩:=Zi (T:=T) (base:=H.length) (id:=2) (body:=UA)
    (fun k st=>∃ l,st=⟨dtE H.length oid tid n c1 c2 k (tgA L k),G0++l,[]⟩)
    (Q:=fun st=>∃ l,st=⟨dtE H.length oid tid n c1 c2 n (tgA L n)++[(22,.bool false)],G0++l,[]⟩)
    n (s:=⟨dtE H.length oid tid n c1 c2 0 (tgA L 0),G0,[]⟩) ⟨[],by rw [QF]⟩
    (fun k st hk hst=>by
      obtain ⟨l,rfl⟩:=hst
      obtain ⟨P,hP⟩:∃ P,L[k]?=some P:=⟨_,Qf (by omega)⟩
      exact ⟨_,bc (up l ho) (up l ht) hL hn (by omega) hP (by simp; omega) (hne P (Qp hP)),_,by rw [Qt]⟩)
    (fun st hst=>by
      obtain ⟨l,rfl⟩:=hst
      refine ⟨_,?_,l,rfl⟩
      have e1:((n:Int)<(n:Int))=False:=eq_false (by omega)
      simp only [dtE,Qn,Ql]
      generalize Zn (tgA L n)=VA at *
      simp only [UA,Qs,quiet,cW,↓pW,reduceCtorEq,seval,-Qb,e1])
  have lA:=DU L n
  obtain ⟨l2,kid,hk,k1,k2,k3⟩:=mV (H:=G0++l) (salt:=[]) (secret:=tgA L n) (info:=Ls) (c:=1) (by decide) (by decide) (Pd L n) (by omega) (by decide) (by decide) (by decide) (by decide)
  have hkl:Dr [] (tgA L n) Ls 1=Xn L:=by rw [Xn,hn]
  rw [hkl] at k2 k3
  have lT:(Xn L).length=32:=k3
  refine ⟨lT,?_⟩
  obtain ⟨l',hl'⟩:∃ l',(G0++l++l2).set H.length ⟨u8s (Xn L),true,true,true,1⟩=H++l':=XJ (by simp; omega) fun i hi=>by
    rw [Qu (by omega),Qt,Qc (by omega),hG0,Qc hi]
  refine ⟨l',?_⟩
  rw [hn]
  have hz:(G0++l++l2)[H.length]?=some ⟨u8s zK,true,true,true,1⟩:=by rw [Qt]; exact z0 _
  have hz2:((G0++l++l2).set H.length ⟨u8s (Xn L),true,true,true,1⟩)[H.length]?=some ⟨u8s (Xn L),true,true,true,1⟩:=by rw [Qx (by simp; omega)]
  rw [hl',Qh (Qr _),Q4] at hz2
  have lz:=Yq
  have sp:=QG (cs:=u8s zK) (v:=u8s (Xn L)) (by rw [Qq,Qq,lT,lz])
  have hz32:Qa 32 (Value.int .u8 0)=u8s zK:=rfl
  have im1:Q1 H.length [] [H.length]=[]:=QD (by simp)
  have hs:Zn Ls=.string (ByteArray.mk #[115,105,103,110,101,116,32,97,103,114,101,101]):=rfl
  have hs0:Zn []=.string (ByteArray.mk #[]):=rfl
  rw [hs,hs0] at hk
  rw [hs0] at hf
  rw [show ((1:Nat):Int)=1 from rfl] at hk
  have F0:H++[(⟨u8s zK,true,true,true,1⟩:Ob)]=G0:=hG0.symm
  simp only [dtE,Qn,Ql,show ((0:Nat):Int)=0 from rfl,show tgA L 0=YT from rfl] at hloop
  have rS:rf (Zn (tgA L n))=true:=rfl
  clear hG0 up z0 ho ht hL hne k1 hkl lA
  generalize Xn L=TL at *
  generalize zK=Z at *
  generalize Zn YT=X255,Zn (tgA L n)=TA at *
  generalize G0++l=G1 at *
  generalize G1++l2=G2 at *
  rw [Zb (fn:=nN) rfl]
  simp only [nN,Qs,quiet,cW,↓pW,reduceCtorEq,seval,-Qb,hz32,F0,hf,hloop,hk,hz,hz2,k2,sp,im1,hl',rS,lT,lz,Qy,Qz,Q7,Zc,Q8,Qq,Qe,QV]
theorem EI (ho:H[oid]?=some ⟨u8s (hdL L),true,w,e,s⟩) (ht:H[tid]?=some ⟨u8s (tlL L),true,w2,e2,s2⟩) (hL:∀ x∈L,x.length=64∧∀ y∈x,y<256) (hn9:L.length≤20)
 (hne:¬ ∀ x∈L,Zt (x.take 32) (x.drop 32)≠zK) :
    ∃ l,Z5 T 25 [.slice (some ⟨oid,0,none⟩) L.length c1,.slice (some ⟨tid,0,none⟩) L.length c2] H=some (.tuple #[.agg (u8s zK).toArray,.int .i64 50],H++l,[]):=by
  obtain ⟨k,P,hk,hP0,hbef⟩:=R8 L hne
  have hP0:Zt (P.take 32) (P.drop 32)=zK:=Classical.not_not.1 hP0
  have hkL:=(Qg.1 hk).1
  obtain ⟨n,hn⟩:∃ n,L.length=n:=⟨_,rfl⟩
  obtain ⟨G0,hG0⟩:∃ X,X=H++[(⟨u8s zK,true,true,true,1⟩:Ob)]:=⟨_,rfl⟩
  have hf:=Ok (B:=H.length) (a := .slice (some ⟨oid,0,none⟩) n c1) (b := .slice (some ⟨tid,0,none⟩) n c2) (p := .pointer (some ⟨H.length,0,none⟩)) (G:=G0)
  have up:∀ (m:List Ob) {i:Nat} {o:Ob},H[i]?=some o→(G0++m)[i]?=some o:=fun m {i o} h=>by rw [hG0,Qt,Qc (Qg.1 h).1]; exact h
  have z0:∀ m:List Ob,(G0++m)[H.length]?=some ⟨u8s zK,true,true,true,1⟩:=fun m=>by rw [hG0,Qt,Qh (Qr _),Q4]; rfl
  have lG0:G0.length=H.length+1:=by rw [hG0]; simp
  obtain ⟨st,hloop,l,rfl⟩:=FR (base:=H.length) (id:=2) (body:=UA)
    (fun k st=>∃ l,st=⟨dtE H.length oid tid n c1 c2 k (tgA L k),G0++l,[]⟩)
    (Q:=fun st=>∃ l,st=⟨[(4,.pointer (some ⟨H.length,0,none⟩)),(5,.int .i64 50)],G0++l,[]⟩)
    k (s:=⟨dtE H.length oid tid n c1 c2 0 (tgA L 0),G0,[]⟩) ⟨[],by rw [QF]⟩
    (fun j st hj hst=>by
      obtain ⟨l,rfl⟩:=hst
      obtain ⟨R,hR⟩:∃ P,L[j]?=some P:=⟨_,Qf (by omega)⟩
      exact ⟨_,bc (up l ho) (up l ht) hL hn (by omega) hR (by simp; omega) (hbef j hj R hR),_,by rw [Qt]⟩)
    (fun st hst=>by
      obtain ⟨l,rfl⟩:=hst
      exact ⟨_,vj (up l ho) (up l ht) (z0 l) hL hn (by omega) hk hP0,_,by rw [Qt]⟩)
  obtain ⟨l',hl'⟩:∃ l',G0++l=H++l':=⟨_,by rw [hG0,Qt]⟩
  refine ⟨l',?_⟩
  rw [hn]
  have hz2:=z0 l
  rw [hl',Qh (Qr _),Q4] at hz2
  have lz:=Yq
  have hz32:Qa 32 (Value.int .u8 0)=u8s zK:=rfl
  have hs0:Zn []=.string (ByteArray.mk #[]):=rfl
  rw [hs0] at hf
  have F0:H++[(⟨u8s zK,true,true,true,1⟩:Ob)]=G0:=hG0.symm
  simp only [dtE,Qn,Ql,show ((0:Nat):Int)=0 from rfl,show tgA L 0=YT from rfl] at hloop
  rw [hl'] at hloop
  clear hG0 up z0 ho ht hL hne hbef hP0 hk hl'
  generalize zK=Z at *
  generalize Zn YT=X255 at *
  rw [Zb (fn:=nN) rfl]
  simp only [nN,Qs,quiet,cW,↓pW,reduceCtorEq,seval,-Qb,hz32,F0,hf,hloop,hz2,lz,Qy,Qz,Q7,Zc,Q8,Qq,Qe,QV]
theorem Du {L:List (List Nat)} (ho:H[oid]?=some ⟨u8s (hdL L),true,w,e,s⟩) (ht:H[tid]?=some ⟨u8s (tlL L),true,w2,e2,s2⟩) (hL:∀ x∈L,x.length=64∧∀ y∈x,y<256) (hn9:L.length≤20) :
  ∃ TL E l,TL.length=32∧Z5 T 25 [.slice (some ⟨oid,0,none⟩) L.length c1,.slice (some ⟨tid,0,none⟩) L.length c2] H=some (.tuple #[.agg (u8s TL).toArray,.int .i64 E],H++l,[])∧(((∀ x∈L,Zt (x.take 32) (x.drop 32)≠zK)∧TL=Xn L∧E=0)∨((¬ ∀ x∈L,Zt (x.take 32) (x.drop 32)≠zK)∧TL=zK∧E=50)):=by
 by_cases h:∀ x∈L,Zt (x.take 32) (x.drop 32)≠zK
 ·obtain ⟨lT,l,h1⟩:=IQ (c1:=c1) (c2:=c2) ho ht hL hn9 h
  exact ⟨_,_,l,lT,h1,.inl ⟨h,rfl,rfl⟩⟩
 ·obtain ⟨l,h1⟩:=EI (c1:=c1) (c2:=c2) ho ht hL hn9 h
  exact ⟨_,_,l,rfl,h1,.inr ⟨h,rfl,rfl⟩⟩
theorem bj {a b:Nat} {fa fb:List Nat} (ha:H[a]?=some ⟨u8s fa,true,true,true,1⟩) (hb:H[b]?=some ⟨u8s fb,true,true,true,1⟩) (la:fa.length=96) (lb:fb.length=32) :
  Jo 32 32 H (.slice (some ⟨a,0,none⟩) 3 3) (.slice (some ⟨b,0,none⟩) 1 1)=some (.slice (some ⟨H.length,0,none⟩) 4 4,H++[⟨u8s (fa++fb),true,true,false,32⟩],none,[]):=by
 have h4:liveAt H a=some ⟨u8s fa,true,true,true,1⟩:=Zv ha rfl
 have k2:elemsOf H 32 1 (.slice (some ⟨b,0,none⟩) 1 1)=some (u8s fb):=by
  simp [elemsOf,Zv hb rfl,Qq,lb]
  exact Qm (by rw [Qq,lb]; exact Qr _)
 have h8:elemsOf H 32 3 (.slice (some ⟨a,0,none⟩) 3 3)=some (u8s fa):=by
  simp [elemsOf,h4,Qq,la]
  exact Qm (by rw [Qq,la]; exact Qr _)
 have h0:Go.Ev.lenV (.slice (some ⟨b,0,none⟩) 1 1)=some 1:=rfl
 have h1:¬ (1:Nat)=0:=by decide
 have h2:(3+1)*32≤2^47∧0<32∧0<32:=by decide
 have h3:¬ (3+1≤3):=by decide
 simp only [Jo,h0,k2,h8,h4,Qo,if_neg h1,h2,h3,and_self,not_true_eq_false,if_false,if_true,Ob.grown,JO]
theorem FG (la:a.length=32) (lb:b.length=32) (lc:c.length=32):fillL (Qa 96 (Value.int .u8 0)) [(0,32,.agg (u8s a).toArray),(32,32,.agg (u8s b).toArray),(64,32,.agg (u8s c).toArray)]=some (u8s (a++(b++c))):=by
 have hz:Qa 96 (Value.int .u8 0)=u8s zK++(u8s zK++u8s zK):=rfl
 have lz:(u8s zK).length=32:=rfl
 have sz:∀ {x y z:List Value},x.length=32→y.length=32→z.length=32→(x++(y++z)).length=96:=fun hx hy hz=>by rw [Qk,Qk,hx,hy,hz]
 have ua:(u8s a).length=32:=by rw [Qq,la]
 have ub:(u8s b).length=32:=by rw [Qq,lb]
 have uc:(u8s c).length=32:=by rw [Qq,lc]
 have s1:splice (u8s zK++(u8s zK++u8s zK)) 0 (u8s a)=u8s a++(u8s zK++u8s zK):=YU (by rw [ua,lz])
 have s2:splice (u8s a++(u8s zK++u8s zK)) 32 (u8s b)=u8s a++(u8s b++u8s zK):=by
  have:=KI (a:=u8s a) (b:=u8s zK++u8s zK) (v:=u8s b) (n:=32) (k:=0) ua (by rw [Qk,ub,lz]; decide)
  rw [this,YU (by rw [ub,lz])]
 have s3:splice (u8s a++(u8s b++u8s zK)) 64 (u8s c)=u8s a++(u8s b++u8s c):=by
  have:=KI (a:=u8s a++u8s b) (b:=u8s zK) (v:=u8s c) (n:=64) (k:=0) (by rw [Qk,ua,ub]) (by rw [uc,lz]; decide)
  rw [←Qt,this,QG (by rw [uc,lz]),Qt]
 have cl:∀ x:List Nat,(Value.agg (u8s x).toArray).cells.toList=u8s x:=fun _=>rfl
 rw [hz,R9 (Cq la) (by rw [sz lz lz lz]; decide) rfl,cl,s1,R9 (Cq lb) (by rw [sz ua lz lz]; decide) rfl,cl,s2,R9 (Cq lc) (by rw [sz ua ub lz]; decide) rfl,cl,s3,←JO,←JO]
 rfl
theorem sY (la:a.length=32) (lb:b.length=32) (lc:c.length=32):(a++(b++c)).length=96:=by rw [Qk,Qk,la,lb,lc]
theorem Ov {P o:List Nat} (lP:P.length=64) (xP:∀ y∈P,y<256) (lr:pre.length=32) (xr:∀ y∈pre,y<256) (lo:o.length=32) (xo:∀ y∈o,y<256) (lw:W.length=64) (xw:∀ y∈W,y<256) (lf:f.length=32) (xf:∀ y∈f,y<256) :
  ∃ S1 S2 E,QK T 14 [.agg (u8s P).toArray,.agg (u8s (pre++o)).toArray,.agg (u8s W).toArray,.agg (u8s f).toArray]=some (.tuple #[.agg (u8s S1).toArray,.agg (u8s S2).toArray,.int .i64 E])∧S1.length=32∧S2.length=32∧(((∀ x∈prA P pre o W f,Zt (x.take 32) (x.drop 32)≠zK)∧S1=Xn (prA P pre o W f)∧S2=bdL W (pbL P)∧E=0)∨((¬ ∀ x∈prA P pre o W f,Zt (x.take 32) (x.drop 32)≠zK)∧S1=zK∧S2=zK∧E=50)):=by
 obtain ⟨la,xa⟩:=KB lP xP
 obtain ⟨t1,t2⟩:=Ya lP
 obtain ⟨t3,t4⟩:=Ya lw
 obtain ⟨lw2,xw2⟩:=KB lw xw
 obtain ⟨lK,xK⟩:=XU lr xr lo xo
 obtain ⟨k1,k2⟩:=Ya lK
 rw [(JQ lr o).1] at k1
 rw [(JQ lr o).2] at k2
 have hz:Qa 32 (Value.int .u8 0)=u8s zK:=rfl
 have fz:fillL (u8s zK) []=some (u8s zK):=rfl
 have lz:=Yq
 have hq:=Bb (k:=o) (l:=zK) lo rfl
 have q1:=FG lr la lr
 have q2:=FG lw2 lf lf
 have q3:=AM lo
 have q4:=AM lf
 rw [hz] at q3 q4
 obtain ⟨m1,y1⟩:=XU lr xr lw2 xw2
 obtain ⟨m2,y2⟩:=XU la xa lf xf
 obtain ⟨m3,y3⟩:=XU lr xr lf xf
 obtain ⟨m4,y4⟩:=XU lo xo lf xf
 have n1:=sY lr la lr
 have n2:=sY lw2 lf lf
 have hper:=Om lP xP
 have lpb:=W0 P
 have hbd:=mZ lw xw lpb (Ru P)
 have lbd:=HP W (pbL P)
 have im:∀ k,Q1 0 [] [k]=[]:=fun k=>QD (by simp)
 have spz:=QG (cs:=u8s zK) (v:=u8s zK) rfl
 by_cases ho:o=zK
 ·have hb:(!(o==zK))=false:=by rw [ho]; simp
  rw [hb] at hq
  have hL:prA P pre o W f=[pre++W.drop 32,P.drop 32++f,pre++f]:=by rw [prA,if_pos ho]; rfl
  rw [hL]
  obtain ⟨G,hG⟩:∃ X,X=[(⟨u8s P,true,true,true,1⟩:Ob),⟨u8s (pre++o),true,true,true,1⟩,⟨u8s W,true,true,true,1⟩,⟨u8s f,true,true,true,1⟩,⟨u8s zK,true,true,true,1⟩,⟨u8s zK,true,true,true,1⟩,⟨u8s (pre++(P.drop 32++pre)),true,true,true,1⟩,⟨u8s (W.drop 32++(f++f)),true,true,true,1⟩]:=⟨_,rfl⟩
  have hh:hdL [pre++W.drop 32,P.drop 32++f,pre++f]=pre++(P.drop 32++pre):=by simp [hdL,(JQ lr (W.drop 32)).1,(JQ la f).1,(JQ lr f).1]
  have ht':tlL [pre++W.drop 32,P.drop 32++f,pre++f]=W.drop 32++(f++f):=by simp [tlL,(JQ lr (W.drop 32)).2,(JQ la f).2,(JQ lr f).2]
  have o1:G[6]?=some ⟨u8s (hdL [pre++W.drop 32,P.drop 32++f,pre++f]),true,true,true,1⟩:=by rw [hh,hG]; rfl
  have o2:G[7]?=some ⟨u8s (tlL [pre++W.drop 32,P.drop 32++f,pre++f]),true,true,true,1⟩:=by rw [ht',hG]; rfl
  obtain ⟨TT,E,l,lT,ht,hd⟩:=Du (c1:=3) (c2:=3) o1 o2 (kR ⟨m1,y1⟩ ⟨m2,y2⟩ ⟨m3,y3⟩) (by show 3≤20; decide)
  have lG:G.length=8:=by rw [hG]; rfl
  have pG:∀ i,i<8→(G++l)[i]?=[(⟨u8s P,true,true,true,1⟩:Ob),⟨u8s (pre++o),true,true,true,1⟩,⟨u8s W,true,true,true,1⟩,⟨u8s f,true,true,true,1⟩,⟨u8s zK,true,true,true,1⟩,⟨u8s zK,true,true,true,1⟩,⟨u8s (pre++(P.drop 32++pre)),true,true,true,1⟩,⟨u8s (W.drop 32++(f++f)),true,true,true,1⟩][i]? := fun i hi=>by rw [Qc (by omega),hG]
  obtain ⟨G5,hG5⟩:∃ X,X=G++l:=⟨_,rfl⟩
  rw [←hG5] at pG
  have lG5:8≤G5.length:=by rw [hG5,Qk]; omega
  rw [←hG5,hG,show [pre++W.drop 32,P.drop 32++f,pre++f].length=3 from rfl] at ht
  have g0:∀ m:List Ob,(G5++m)[0]?=some ⟨u8s P,true,true,true,1⟩:=fun m=>by rw [Qc (by omega),pG 0 (by decide)]; rfl
  have g2:∀ m:List Ob,(G5++m)[2]?=some ⟨u8s W,true,true,true,1⟩:=fun m=>by rw [Qc (by omega),pG 2 (by decide)]; rfl
  have g4:∀ m:List Ob,(G5++m)[4]?=some ⟨u8s zK,true,true,true,1⟩:=fun m=>by rw [Qc (by omega),pG 4 (by decide)]; rfl
  have g5:∀ (m:List Ob) x,((G5++m).set 4 x)[5]?=some ⟨u8s zK,true,true,true,1⟩:=fun m x=>by rw [Qu (by decide),Qc (by omega),pG 5 (by decide)]; rfl
  have s4:∀ (m:List Ob) x y,(((G5++m).set 4 x).set 5 y)[4]?=some x:=fun m x y=>by rw [Qu (by decide)]; exact Qx (by simp; omega)
  have s5:∀ (m:List Ob) x y,(((G5++m).set 4 x).set 5 y)[5]?=some y:=fun m x y=>Qx (by simp; omega)
  rcases hd with ⟨hg,rfl,rfl⟩ | ⟨hg,rfl,rfl⟩
  ·refine ⟨Xn [pre++W.drop 32,P.drop 32++f,pre++f],bdL W (pbL P),0,?_,lT,lbd,.inl ⟨hg,rfl,rfl,rfl⟩⟩
   have sp:=QG (cs:=u8s zK) (v:=u8s (Xn [pre++W.drop 32,P.drop 32++f,pre++f])) (by rw [Qq,Qq,lT,lz])
   have sp2:=QG (cs:=u8s zK) (v:=u8s (bdL W (pbL P))) (by rw [Qq,Qq,lbd,lz])
   clear hg hG hG5 o1 o2 hh ht' hL ho hb pG xP xw xr xo xf y1 y2 y3 y4 xa xw2 xK
   generalize Xn [pre++W.drop 32,P.drop 32++f,pre++f]=TL at *
   generalize pre++(P.drop 32++pre)=A1,W.drop 32++(f++f)=A2,bdL W (pbL P)=BD at *
   generalize pbL P=PB at *
   generalize pre++o=KK at *
   generalize P.drop 32=Pa,W.drop 32=wa at *
   generalize zK=Z at *
   apply QI (fn:=La) rfl
   simp only [La,Qs,quiet,cW,↓pW,reduceCtorEq,seval,-Qb,hz,fz,k1,k2,t2,t4,q1,q2,q3,q4,hq,ht,g0,g2,g4,g5,s4,s5,hper,hbd,sp,sp2,spz,im,lP,lK,la,lr,lw,lw2,lf,lo,lz,lT,lpb,lbd,Qy,Qz,Q7,Zc,Q8,Qq,Qe,QV]
   rfl
  ·refine ⟨zK,zK,50,?_,rfl,rfl,.inr ⟨hg,rfl,rfl,rfl⟩⟩
   have sp:=spz
   have sp2:=spz
   clear hg hG hG5 o1 o2 hh ht' hL ho hb pG xP xw xr xo xf y1 y2 y3 y4 xa xw2 xK
   generalize pre++(P.drop 32++pre)=A1,W.drop 32++(f++f)=A2,bdL W (pbL P)=BD at *
   generalize pbL P=PB at *
   generalize pre++o=KK at *
   generalize P.drop 32=Pa,W.drop 32=wa at *
   generalize zK=Z at *
   apply QI (fn:=La) rfl
   simp only [La,Qs,quiet,cW,↓pW,reduceCtorEq,seval,-Qb,hz,fz,k1,k2,t2,t4,q1,q2,q3,q4,hq,ht,g0,g2,g4,g5,s4,s5,hper,hbd,sp,sp2,spz,im,lP,lK,la,lr,lw,lw2,lf,lo,lz,lT,lpb,lbd,Qy,Qz,Q7,Zc,Q8,Qq,Qe,QV]
   rfl
 ·have hb:(!(o==zK))=true:=by simpa using ho
  rw [hb] at hq
  have hL:prA P pre o W f=[pre++W.drop 32,P.drop 32++f,pre++f,o++f]:=by rw [prA,if_neg ho]; rfl
  rw [hL]
  obtain ⟨G0,hG0⟩:∃ X,X=[(⟨u8s P,true,true,true,1⟩:Ob),⟨u8s (pre++o),true,true,true,1⟩,⟨u8s W,true,true,true,1⟩,⟨u8s f,true,true,true,1⟩,⟨u8s zK,true,true,true,1⟩,⟨u8s zK,true,true,true,1⟩,⟨u8s (pre++(P.drop 32++pre)),true,true,true,1⟩,⟨u8s (W.drop 32++(f++f)),true,true,true,1⟩,⟨u8s o,true,true,true,1⟩]:=⟨_,rfl⟩
  have hap1:=bj (H:=G0) (a:=6) (b:=8) (by rw [hG0]; rfl) (by rw [hG0]; rfl) n1 lo
  obtain ⟨G1,hG1⟩:∃ X,X=G0++[(⟨u8s (pre++(P.drop 32++pre)++o),true,true,false,32⟩:Ob)]:=⟨_,rfl⟩
  rw [←hG1,show G0.length=9 by rw [hG0]; rfl] at hap1
  have lG1:G1.length=10:=by rw [hG1,hG0]; rfl
  have hap2:=bj (H:=G1++[(⟨u8s f,true,true,true,1⟩:Ob)]) (a:=7) (b:=G1.length) (fa:=W.drop 32++(f++f)) (fb:=f) (by rw [hG1,hG0]; rfl) (by rw [Qh (Qr _),Q4]; rfl) n2 lf
  obtain ⟨G,hG⟩:∃ X,X=G1++[(⟨u8s f,true,true,true,1⟩:Ob)]++[(⟨u8s (W.drop 32++(f++f)++f),true,true,false,32⟩:Ob)]:=⟨_,rfl⟩
  rw [←hG,show (G1++[(⟨u8s f,true,true,true,1⟩:Ob)]).length=11 by rw [Qk,lG1]; rfl,lG1] at hap2
  rw [hG0] at hap1
  have g13:G1[3]?=some ⟨u8s f,true,true,true,1⟩:=by rw [hG1,hG0]; rfl
  have hh:hdL [pre++W.drop 32,P.drop 32++f,pre++f,o++f]=pre++(P.drop 32++pre)++o:=by simp [hdL,(JQ lr (W.drop 32)).1,(JQ la f).1,(JQ lr f).1,(JQ lo f).1]
  have ht':tlL [pre++W.drop 32,P.drop 32++f,pre++f,o++f]=W.drop 32++(f++f)++f:=by simp [tlL,(JQ lr (W.drop 32)).2,(JQ la f).2,(JQ lr f).2,(JQ lo f).2]
  have o1:G[9]?=some ⟨u8s (hdL [pre++W.drop 32,P.drop 32++f,pre++f,o++f]),true,true,false,32⟩:=by rw [hh,hG,hG1,hG0]; rfl
  have o2:G[11]?=some ⟨u8s (tlL [pre++W.drop 32,P.drop 32++f,pre++f,o++f]),true,true,false,32⟩:=by rw [ht',hG,hG1,hG0]; rfl
  obtain ⟨TT,E,l,lT,ht,hd⟩:=Du (c1:=4) (c2:=4) o1 o2 (kQ ⟨m1,y1⟩ ⟨m2,y2⟩ ⟨m3,y3⟩ ⟨m4,y4⟩) (by show 4≤20; decide)
  have lG:G.length=12:=by rw [hG,hG1,hG0]; rfl
  have pG:∀ i,i<8→(G++l)[i]?=[(⟨u8s P,true,true,true,1⟩:Ob),⟨u8s (pre++o),true,true,true,1⟩,⟨u8s W,true,true,true,1⟩,⟨u8s f,true,true,true,1⟩,⟨u8s zK,true,true,true,1⟩,⟨u8s zK,true,true,true,1⟩,⟨u8s (pre++(P.drop 32++pre)),true,true,true,1⟩,⟨u8s (W.drop 32++(f++f)),true,true,true,1⟩,⟨u8s o,true,true,true,1⟩][i]? := fun i hi=>by rw [Qc (by omega),hG,Qt,Qc (by omega),hG1,Qc (by rw [hG0]; show i<9; omega),hG0]
  obtain ⟨G5,hG5⟩:∃ X,X=G++l:=⟨_,rfl⟩
  rw [←hG5] at pG
  have lG5:8≤G5.length:=by rw [hG5,Qk]; omega
  rw [←hG5,show [pre++W.drop 32,P.drop 32++f,pre++f,o++f].length=4 from rfl] at ht
  have g0:∀ m:List Ob,(G5++m)[0]?=some ⟨u8s P,true,true,true,1⟩:=fun m=>by rw [Qc (by omega),pG 0 (by decide)]; rfl
  have g2:∀ m:List Ob,(G5++m)[2]?=some ⟨u8s W,true,true,true,1⟩:=fun m=>by rw [Qc (by omega),pG 2 (by decide)]; rfl
  have g4:∀ m:List Ob,(G5++m)[4]?=some ⟨u8s zK,true,true,true,1⟩:=fun m=>by rw [Qc (by omega),pG 4 (by decide)]; rfl
  have g5:∀ (m:List Ob) x,((G5++m).set 4 x)[5]?=some ⟨u8s zK,true,true,true,1⟩:=fun m x=>by rw [Qu (by decide),Qc (by omega),pG 5 (by decide)]; rfl
  have s4:∀ (m:List Ob) x y,(((G5++m).set 4 x).set 5 y)[4]?=some x:=fun m x y=>by rw [Qu (by decide)]; exact Qx (by simp; omega)
  have s5:∀ (m:List Ob) x y,(((G5++m).set 4 x).set 5 y)[5]?=some y:=fun m x y=>Qx (by simp; omega)
  rcases hd with ⟨hg,rfl,rfl⟩ | ⟨hg,rfl,rfl⟩
  ·refine ⟨Xn [pre++W.drop 32,P.drop 32++f,pre++f,o++f],bdL W (pbL P),0,?_,lT,lbd,.inl ⟨hg,rfl,rfl,rfl⟩⟩
   have sp:=QG (cs:=u8s zK) (v:=u8s (Xn [pre++W.drop 32,P.drop 32++f,pre++f,o++f])) (by rw [Qq,Qq,lT,lz])
   have sp2:=QG (cs:=u8s zK) (v:=u8s (bdL W (pbL P))) (by rw [Qq,Qq,lbd,lz])
   clear hg hG hG5 hG0 hG1 o1 o2 hh ht' hL ho hb pG xP xw xr xo xf y1 y2 y3 y4 xa xw2 xK
   generalize Xn [pre++W.drop 32,P.drop 32++f,pre++f,o++f]=TL at *
   generalize pre++(P.drop 32++pre)=A1,W.drop 32++(f++f)=A2,bdL W (pbL P)=BD at *
   generalize pbL P=PB at *
   generalize pre++o=KK at *
   generalize P.drop 32=Pa,W.drop 32=wa at *
   generalize zK=Z at *
   apply QI (fn:=La) rfl
   simp only [La,Qs,quiet,cW,↓pW,reduceCtorEq,seval,-Qb,hz,fz,k1,k2,t2,t4,q1,q2,q3,q4,hq,hap1,hap2,g13,lG1,ht,g0,g2,g4,g5,s4,s5,hper,hbd,sp,sp2,spz,im,lP,lK,la,lr,lw,lw2,lf,lo,lz,lT,lpb,lbd,Qy,Qz,Q7,Zc,Q8,Qq,Qe,QV]
   rfl
  ·refine ⟨zK,zK,50,?_,rfl,rfl,.inr ⟨hg,rfl,rfl,rfl⟩⟩
   have sp:=spz
   have sp2:=spz
   clear hg hG hG5 hG0 hG1 o1 o2 hh ht' hL ho hb pG xP xw xr xo xf y1 y2 y3 y4 xa xw2 xK
   generalize pre++(P.drop 32++pre)=A1,W.drop 32++(f++f)=A2,bdL W (pbL P)=BD at *
   generalize pbL P=PB at *
   generalize pre++o=KK at *
   generalize P.drop 32=Pa,W.drop 32=wa at *
   generalize zK=Z at *
   apply QI (fn:=La) rfl
   simp only [La,Qs,quiet,cW,↓pW,reduceCtorEq,seval,-Qb,hz,fz,k1,k2,t2,t4,q1,q2,q3,q4,hq,hap1,hap2,g13,lG1,ht,g0,g2,g4,g5,s4,s5,hper,hbd,sp,sp2,spz,im,lP,lK,la,lr,lw,lw2,lf,lo,lz,lT,lpb,lbd,Qy,Qz,Q7,Zc,Q8,Qq,Qe,QV]
   rfl
theorem Lq {k l:List Nat} (lk:k.length=32) (ll:l.length=32):vEq (some (Qa 32 true)) false (.agg (u8s k).toArray) (.agg (u8s l).toArray)=some (.bool (k==l)):=by
 rw [Ie,K9 lk ll]
 rfl
theorem OJ {P o:List Nat} (lP:P.length=64) (xP:∀ y∈P,y<256) (lr:pre.length=32) (xr:∀ y∈pre,y<256) (lo:o.length=32) (xo:∀ y∈o,y<256) (lw:W.length=64) (xw:∀ y∈W,y<256) (lf:f.length=32) (xf:∀ y∈f,y<256) :
  ∃ S1 S2 E,S1.length=32∧S2.length=32∧QK T 13 [.agg (u8s P).toArray,.agg (u8s pre).toArray,.agg (u8s o).toArray,.agg (u8s W).toArray,.agg (u8s f).toArray]=some (.tuple #[.agg (u8s (S1++S2)).toArray,.int .i64 E])∧QK T 14 [.agg (u8s P).toArray,.agg (u8s (pre++o)).toArray,.agg (u8s W).toArray,.agg (u8s f).toArray]=some (.tuple #[.agg (u8s S1).toArray,.agg (u8s S2).toArray,.int .i64 E]):=by
 obtain ⟨S,E,h1,h2,h3⟩:=Cs lP xP lr xr lo xo lw xw lf xf
 obtain ⟨S1,S2,E',k1,k2,k3,k4⟩:=Ov lP xP lr xr lo xo lw xw lf xf
 refine ⟨S1,S2,E',k2,k3,?_,k1⟩
 rcases h3 with ⟨a1,rfl,rfl⟩ | ⟨a1,rfl,rfl⟩<;>rcases k4 with ⟨b1,rfl,rfl,rfl⟩ | ⟨b1,rfl,rfl,rfl⟩
 ·exact h1
 ·exact absurd a1 b1
 ·exact absurd b1 a1
 ·exact h1
theorem SJ {P:List Nat} (lP:P.length=64) (xP:∀ y∈P,y<256) (lK:K.length=64) (xK:∀ y∈K,y<256) (lW:W.length=96) (xW:∀ y∈W,y<256) :
  ∃ l,Z5 T 4 [.agg (u8s P).toArray,.agg (u8s K).toArray,.agg (u8s W).toArray] []=some (.bool true,l,[]):=by
 have hmt:=qz
 obtain ⟨a1,y1⟩:=Wt lK xK
 obtain ⟨a2,y2⟩:=KB lK xK
 obtain ⟨c1,c2⟩:=Ya lK
 have hK:=Z3 32 K
 obtain ⟨b0,z0,d0⟩:=Sb 0 lW xW (by decide)
 obtain ⟨b1,z1,d1⟩:=Sb 32 lW xW (by decide)
 obtain ⟨b2,z2,d2⟩:=Sb 64 lW xW (by decide)
 rw [ZL,ZL] at d0
 rw [ZL] at b0 z0
 obtain ⟨p1,x1⟩:=Wt lP xP
 obtain ⟨p2,x2⟩:=KB lP xP
 obtain ⟨e1,e2⟩:=Ya lP
 have fP:=X9 p1 p2
 rw [Z3] at fP
 have fW:=X9 b0 b1
 obtain ⟨bW,zW⟩:=XU b0 z0 b1 z1
 obtain ⟨S1,S2,E,l1,l2,h1,h2⟩:=OJ lP xP a1 y1 a2 y2 bW zW b2 z2
 rw [hK] at h2
 have hz:Qa 32 (Value.int .u8 0)=u8s zK:=rfl
 have hz64:=Vw
 have lz:=Yq
 have lz64:(Qa 64 0).length=64:=Qe
 have lS:(S1++S2).length=64:=by rw [Qk,l1,l2]
 obtain ⟨g1,g2⟩:=Ya lS
 rw [(JQ l1 S2).1] at g1
 rw [(JQ l1 S2).2] at g2
 have sp:=QG (cs:=u8s (Qa 64 0)) (v:=u8s (S1++S2)) (by rw [Qq,Qq,lz64,lS])
 have sp1:=QG (cs:=u8s zK) (v:=u8s S1) (by rw [Qq,Qq,l1,lz])
 have sp2:=QG (cs:=u8s zK) (v:=u8s S2) (by rw [Qq,Qq,l2,lz])
 have q1:=Lq l1 l1
 have q2:=Lq l2 l2
 rw [beq_self_eq_true] at q1 q2
 have im:∀ k,Q1 0 [] [k]=[]:=fun k=>QD (by simp)
 have r2:rf (Value.tuple #[.agg (u8s (S1++S2)).toArray,.int .i64 E])=true:=KD (YA _) rfl
 have r3:rf (Value.tuple #[.agg (u8s S1).toArray,.agg (u8s S2).toArray,.int .i64 E])=true:=by
  simp [rf,YA,Aq]
 clear y1 y2 z0 z1 z2 x1 x2 zW xP xK xW hK
 generalize S1++S2=S at *
 generalize W.take 32++(W.drop 32).take 32=WW at *
 generalize W.take 32=w0,(W.drop 32).take 32=w1,(W.drop 64).take 32=w2,K.take 32=k0,K.drop 32=k1,P.take 32=P1,P.drop 32=P2 at *
 generalize zK=Z at *
 generalize Qa 64 0=Z64 at *
 apply Exists.intro
 rw [Zb (fn:=vO) rfl]
 simp only [vO,Qs,quiet,cW,↓pW,reduceCtorEq,seval,-Qb,hmt,hz,hz64,c1,c2,d0,d1,d2,e1,e2,fP,fW,h1,h2,g1,g2,sp,sp1,sp2,q1,q2,im,r2,r3,lP,lK,lW,a1,a2,b0,b1,b2,bW,p1,p2,l1,l2,lz,lz64,lS,Qy,Qz,Q7,Zc,Q8,Qq,Qe,QV]
 rfl
end Go.Ev.YtpgphpkjlpkcbaaGreat

/- What the law leans on, part 4. -/
import Derived.Test.YtpgphpkjlpkcbaaGreatAa3
set_option linter.unusedSimpArgs false
set_option linter.unusedVariables false
open Exists renaming intro → Jm
open Int renaming natCast_add → Jl, natCast_mul → JT, natCast_pow → Ye, natCast_zero → QB
open List renaming all_eq_true → ZQ, append_assoc → Qt, append_nil → QF, cons_append → Qn, drop → Jr, drop_append_of_le_length → Jb, drop_eq_getElem?_toList_append → Jg, drop_of_length_le → ZA, drop_zero → ZL, eq_nil_of_length_eq_zero → J3, ext_getElem? → Ju, flatten_append → ZY, flatten_cons → QO, flatten_nil → Jc, getD_eq_getElem?_getD → QA, getElem?_append_left → Qc, getElem?_append_right → Qh, getElem?_cons_succ → XC, getElem?_drop → Zm, getElem?_eq_getElem → Qf, getElem?_eq_none → QN, getElem?_eq_some_iff → Qg, getElem?_map → J6, getElem?_of_mem → Xt, getElem?_range → Vq, getElem?_set_ne → Qu, getElem?_set_self → Qx, getElem?_take → QX, getElem?_zipWith → KE, length_append → Qk, length_drop → QP, length_nil → ZW, length_replicate → Qe, length_set → Q3, length_take → Q6, length_zipWith → Vp, mem_append → QE, mem_cons → J0, mem_map → Xj, mem_of_getElem? → Qp, mem_of_mem_drop → ZD, mem_of_mem_take → QU, mem_replicate → VW, mem_singleton → Xi, nil_append → Ql, range → Z9, reduceReplicate → Qb, replicate → Qa, replicate_succ' → Vc, set_append_left → Vb, set_append_right → ZP, set_set → VU, take → Zh, take_add_one → Zw, take_append_drop → Z3, take_append_of_le_length → ZJ, take_of_length_le → Qm, take_take → eM, take_zero → Xa, zipWith → JL
open Nat renaming add_assoc → Zu, add_comm → Xp, add_mul → Zl, add_sub_cancel_left → Q0, add_zero → Jj, and_lt_two_pow → XV, div_add_mod → Zz, div_div_eq_div_mul → QT, div_le_self → Jq, div_lt_of_lt_mul → Va, div_one → Jt, eq_of_testBit_eq → T3, eq_zero_or_pos → Jw, le_of_lt → Js, le_refl → Qr, le_trans → Xh, lt_add_one → eL, lt_irrefl → YX, lt_of_le_of_lt → ZX, lt_of_lt_of_le → QM, lt_or_ge → ZG, lt_succ_of_lt → Yp, lt_succ_self → DN, min_eq_left → Zy, min_self → sG, mod_eq_of_lt → Qv, mod_lt → Q5, mod_mod → Y3, mul_comm → Zj, mul_le_mul_right → Ji, mul_mod_mul_right → Yl, not_lt_zero → Yd, one_mul → Xf, or_lt_two_pow → XL, pow_add → JD, pow_le_pow_right → Zk, pow_mul → Ja, pow_one → wR, pow_pos → JM, pow_succ → Ze, pow_zero → ZF, sub_self → Q4, testBit_and → Yc, testBit_or → Gd, testBit_xor → B5, zero_add → QL, zero_lt_one → B4, zero_lt_succ → OL
open Option renaming bind_some → Qo, map_some → Yb
open Option.some renaming inj → XA
namespace Go.Ev.YtpgphpkjlpkcbaaGreat
open Go Go.Ev
attribute [local congr] JC JV JB JW Jz
set_option maxRecDepth 100000
variable {B n i tid u at_ e r L:Nat} {Hm G:List Ob} {sv tb sh s x:Value} {b st C:List Nat} {x4:Bool} {K:Nat→Prop}
theorem Rst.elems {K:Nat→Prop} {H:List Ob} {v:Value} {l:List Nat} (h:Rst K H v l):elemsOf H 1 l.length v=some (u8s l):=by
 cases h with
 | nil=>rfl
 | empty _ h2=>simp [elemsOf,Zv h2 rfl,u8s]
 | own h1 h2 h4 h3=>simp [elemsOf,Zv h2 rfl,Qq,h4,TY h3]
theorem FV {p:List Nat} (he:G[e]?=some ⟨[],true,true,true,1⟩) (hKe:¬ K e) (hKg:¬ K G.length) (hl:Go.Ev.lenV x=some p.length) (hel:elemsOf G 1 p.length x=some (u8s p)) (hb:p.length≤2^47) :
  ∃ v' l,Jo 1 1 G (.slice (some ⟨e,0,none⟩) 0 0) x=some (v',G++l,none,[])∧Rst K (G++l) v' p∧Z7 v'=true∧v'.cells.toList=[v']∧v'.cells.size=1:=by
 have h4:liveAt G e=some ⟨[],true,true,true,1⟩:=Zv he rfl
 rcases Jw p.length with hn | hn
 ·have:p=[]:=J3 hn
  subst this
  refine ⟨.slice (some ⟨e,0,none⟩) 0 0,[],?_,by rw [QF]; exact .empty hKe he,rfl,rfl,rfl⟩
  rw [ZW] at hl hel
  simp only [Jo,hl,hel,Qo,if_true,QF]
 ·have h1:¬ p.length=0:=by omega
  have h2:p.length*1≤2^47:=by omega
  have h7:¬ (p.length≤0):=by omega
  have h8:elemsOf G 1 0 (.slice (some ⟨e,0,none⟩) 0 0)=some []:=by simp [elemsOf,h4]
  refine ⟨.slice (some ⟨G.length,0,none⟩) p.length p.length,[Ob.grown 1 (u8s p)],?_,.own (all:=p) hKg (by simp [Ob.grown]) (by omega) (fun i _=>by rw [QL]),rfl,rfl,rfl⟩
  simp only [Jo,hl,hel,Qo,if_neg h1,QL,h2,eL,B4,and_self,not_true_eq_false,if_false,if_true,h4,h8,if_neg h7,Ql]
theorem Rst.len {K:Nat→Prop} {H:List Ob} {v:Value} {l:List Nat} (h:Rst K H v l):Go.Ev.lenV v=some l.length:=by
 obtain ⟨a,c,rfl⟩:=h.shape; rfl
theorem Y9 (b:List Nat):(sha b).length=64:=by simp [sha]
theorem Ai (b:List Nat):∀ x∈sha b,x<256:=by
 intro x hx
 simp only [sha,Xj] at hx
 obtain ⟨i,-,rfl⟩:=hx
 exact Q5 _ (by decide)
def suI (r x o:Nat) (G:List Ob) (b:List Nat) (i:Int) (ex:Env):St:=⟨[(2,.pointer (some ⟨r,0,none⟩)),(3,.pointer (some ⟨x,0,none⟩)),(4,.pointer (some ⟨G.length,0,none⟩)),(32,.int .i64 i)]++ex,G++[⟨u8s b,true,true,true,1⟩],[]⟩
theorem gu {x base:Nat} {rv:Value} {R:List Nat} (hx:G[x]?=some (hob rv n st)) (hs:st.length=8) (hR:R.length=64) (hRi:∀ i,i<64→R[i]?=some (st.getD (i/8) 0/256^(7-i%8)%256)) (hxs:∀ y∈st,y<18446744073709551616) (hb:base≤G.length) :
  Q2 T base (.block 0 (.loop MW)) (suI r x 0 G (Qa 64 0) 0 [])=some (.normal,suI r x 0 G R 64 [(33,.bool false)]):=by
 have h:=ZV (T:=T) (base:=base) (id:=0) (body:=MW) (fun i=>suI r x 0 G (pf 64 R i) i []) (s':=suI r x 0 G R 64 [(33,.bool false)]) 64
  (fun i hi=>by
   obtain ⟨w,hw⟩:∃ w,st[i/8]?=some w:=⟨_,Qf (by omega)⟩
   have hw':=hxs w (Qp hw)
   have hv:=hRi i hi
   rw [JJ hw] at hv
   have hstep:=XE hR hi hv
   have hlen:=Ko hR (Js hi)
   have hset:=Xb (pf 64 R i) i (w/256^(7-i%8)%256)
   rw [hstep] at hset
   have gc:=aR (rv:=rv) (n:=n) hw
   have hget:∀ l:List Ob,(G++l)[x]?=some ⟨hcl rv n st,true,true,true,1⟩:=fun l=>by rw [Qc (Qg.1 hx).1]; exact hx
   have e1:((i:Int)<64)=True:=eq_true (by omega)
   have w3:IntKind.i64.wrap ((i:Int)+1)=((i+1:Nat):Int):=Zx (b:=1) (by omega)
   have w4:IntKind.i64.wrap ((i:Int).tdiv 8)=((i/8:Nat):Int):=wn (n:=i/8) (by omega)
   have e2:(((i/8:Nat):Int)<8)=True:=eq_true (by omega)
   have w5:(i:Int).tmod 8=((i%8:Nat):Int):=rfl
   have w6:IntKind.i64.wrap (8*((i%8:Nat):Int))=((8*(i%8):Nat):Int):=UE (a:=8) (by omega)
   have w7:IntKind.i64.wrap (56-((8*(i%8):Nat):Int))=((8*(7-i%8):Nat):Int):=by rw [Zf (by omega) (by omega)]; omega
   have e3:(((8*(7-i%8):Nat):Int)<0)=False:=eq_false (by omega)
   have w8:(w:Int).fdiv (2^min (8*(7-i%8)) IntKind.u64.bits)=((w/256^(7-i%8):Nat):Int):=by
    rw [Dn (by omega),show (256:Nat)=2^8 from rfl,←Ja]
   have w9:IntKind.u8.wrap ((w/256^(7-i%8):Nat):Int)=((w/256^(7-i%8)%256:Nat):Int):=GA _
   have e4:(i≤63)=True:=eq_true (by omega)
   have m1:Q1 base [] [G.length]=[]:=QD (by simpa using hb)
   clear hstep hv hw
   generalize pf 64 R i=o1,pf 64 R (i+1)=o2 at *
   generalize w/256^(7-i%8)%256=d at *
   generalize w/256^(7-i%8)=d2 at *
   generalize 8*(7-i%8)=d3 at *
   generalize 8*(i%8)=d4 at *
   generalize i%8=d5 at *
   generalize i/8=d6 at *
   generalize i+1=i1 at *
   simp only [suI,MW,Qs,quiet,cW,↓pW,reduceCtorEq,seval,-Qb,e1,e2,e3,e4,w3,w4,w5,w6,w7,w8,w9,hget,gc,hset,Qq,hlen,m1])
  (by
   rw [Ku hR]
   simp only [suI,MW,Qs,quiet,cW,↓pW,reduceCtorEq,seval,-Qb])
 rw [Kt] at h
 exact h
theorem Grown.part {K:Nat→Prop} {B:Nat} {H:List Ob} {s:Value} {p:List Nat} (h:Grown .u8 B H s p) (hK:∀ i,B≤i→i<H.length→K i) (xp:∀ y∈p,y<256) (hl:p.length≤2^47-128) (h0:0<p.length):HPart K H s p:=by
 refine ⟨?_,fun G hG => ?_,xp,hl⟩
 ·cases h with
  | nil=>exact absurd h0 (by decide)
  | own _ _ _=>exact ⟨_,_,rfl⟩
  | new _ _ _=>exact ⟨_,_,rfl⟩
 ·cases h with
  | nil=>exact absurd h0 (by decide)
  | @own id _ h1 h2 h3 =>
   have:=hG id (hK id h1 (Qg.1 h3).1)
   rw [h3] at this
   simp [elemsOf,Zv this rfl,Ob.grown,Q9]
   exact Qm (by rw [Q9]; exact Qr _)
  | @new id _ h1 h2 h3 =>
   have:=hG id (hK id h1 (Qg.1 h3).1)
   rw [h3] at this
   simp [elemsOf,Zv this rfl,Ob.fresh,Q9]
   exact Qm (by rw [Q9]; exact Qr _)
theorem aA (n:Nat):∀ y∈UN n,y<256:=by
 intro y hy
 simp only [UN,J0,QE,VW,Xj] at hy
 rcases hy with rfl | ⟨-,rfl⟩ | ⟨i,-,rfl⟩
 ·decide
 ·decide
 ·exact Q5 _ (by decide)
theorem Mg (n:Nat):(UN n).length=17+Vg n:=by simp [UN]; omega
theorem Rst.toK {K K':Nat→Prop} {H:List Ob} {v:Value} {l:List Nat} (h:Rst K H v l) (hk:∀ i,¬ K i→¬ K' i):Rst K' H v l:=by
 cases h with
 | nil=>exact .nil
 | empty h1 h2=>exact .empty (hk _ h1) h2
 | own h1 h2 h4 h3=>exact .own (hk _ h1) h2 h4 h3
theorem Vw:Qa 64 (Value.int .u8 0)=u8s (Qa 64 0):=rfl
theorem en (va:Option Addr) (rl vc m:Nat) (h:st.length=8):fillL [Value.slice none 0 0,.int .u64 0,.int .u64 0,.int .u64 0,.int .u64 0,.int .u64 0,.int .u64 0,.int .u64 0,.int .u64 0,.int .u64 0] [(0,2,.agg [.slice va rl vc,.int .u64 m].toArray),(2,8,eV st)]=some (hcl (.slice va rl vc) m st):=by
 obtain ⟨a,b,c,d,e,f,g,i,rfl⟩:=eight h
 rfl
theorem tG {H:List Ob} {hid:Nat} {all:List Nat} (hh:Hsh K H hid all) (xa:∀ y∈all,y<256) (hn:all.length<2^49) :
  ∃ H',Z5 T 150 [.pointer (some ⟨hid,0,none⟩)] H=some (.agg (u8s (sha all)).toArray,H',[])∧(∀ i,i<H.length→H'[i]?=H[i]?)∧H.length≤H'.length:=by
 obtain ⟨rv,h1,h2⟩:=hh
 have hlt:hid<H.length:=(Qg.1 h1).1
 obtain ⟨st,hst⟩:∃ s,s=stK (all.length/128) all:=⟨_,rfl⟩
 have ls:st.length=8:=by rw [hst]; exact Hs _ _
 rw [←hst] at h1
 obtain ⟨G,hG⟩:∃ G,G=H++[⟨u8s (Qa 64 0),true,true,true,1⟩,⟨[],true,true,true,1⟩]:=⟨_,rfl⟩
 have hGl:G.length=H.length+2:=by rw [hG]; simp
 have hrG:Rst K G rv (all.drop (128*(all.length/128))):=by rw [hG]; exact h2.app
 have heG:G[H.length+1]?=some ⟨[],true,true,true,1⟩:=by rw [hG,Qh (by omega),Q0]; rfl
 have hzG:G[H.length]?=some ⟨u8s (Qa 64 0),true,true,true,1⟩:=by rw [hG,Qh (by omega),Q4]; rfl
 have hhG:G[hid]?=some (hob rv all.length st):=by rw [hG,Qc hlt]; exact h1
 obtain ⟨v',l,ha,hr',hok,hc1,hc2⟩:=FV (K:=fun i=>i≠H.length+1∧i≠G.length) heG (by simp) (by simp) hrG.len hrG.elems (by rw [QP]; omega)
 obtain ⟨G2,hG2⟩:∃ X,X=G++l++[hob v' all.length st]:=⟨_,rfl⟩
 have hG2l:G2.length=G.length+l.length+1:=by rw [hG2]; simp; omega
 obtain ⟨xid,hxid⟩:∃ x,x=(G++l).length:=⟨_,rfl⟩
 have hxl:xid=G.length+l.length:=by rw [hxid]; simp
 have hx2:G2[xid]?=some (hob v' all.length st):=by rw [hG2,hxid,Qh (Qr _),Q4]; rfl
 have hh2:G2[hid]?=some (hob rv all.length st):=by
  have:hid<G.length:=by omega
  rw [hG2,Qt,Qc this]; exact hhG
 obtain ⟨s,l3,hp,hgr⟩:=PC hh2 (by omega)
 obtain ⟨G4,hG4⟩:∃ X,X=G2++l3++[⟨[s],true,true,true,1⟩]:=⟨_,rfl⟩
 have hG4l:G4.length=G2.length+l3.length+1:=by rw [hG4]; simp; omega
 have hgr4:Grown .u8 G2.length G4 s (UN all.length):=by rw [hG4]; exact hgr.app
 obtain ⟨K2,hK2⟩:∃ K2:Nat→Prop,K2=fun i=>i<G4.length∧i≠xid∧i≠H.length+1∧i≠G.length:=⟨_,rfl⟩
 have hx4:G4[xid]?=some (hob v' all.length st):=by rw [hG4,Qt,Qc (by omega)]; exact hx2
 have hsh4:Hsh K2 G4 xid all:=by
  refine ⟨v',by rw [←hst]; exact hx4,?_⟩
  have:=(hr'.app (m:=[hob v' all.length st])).app (m:=l3++[⟨[s],true,true,true,1⟩])
  rw [←hG2,←Qt,←hG4] at this
  exact this.toK fun i hi hk=>by
   rw [hK2] at hk
   exact hi ⟨hk.2.2.1,hk.2.2.2⟩
 have hpz:=Me all.length
 have hpart:HPart K2 G4 s (UN all.length):=Grown.part hgr4 (fun i h1 h2=>by rw [hK2]; exact ⟨h2,by omega,by omega,by omega⟩) (aA _) (by rw [Mg]; omega) (by rw [Mg]; omega)
 have harr:(G2++l3).length<G4.length:=by rw [hG4]; simp
 have hpv:PV K2 G4 (.slice (some ⟨(G2++l3).length,0,none⟩) 1 1) [s] := .inr ⟨_,0,1,_,rfl,by rw [hK2]; exact ⟨harr,by simp; omega,by simp; omega,by simp; omega⟩,by rw [hG4,Qh (Qr _),Q4]; rfl,rfl,fun i _=>by rw [QL]⟩
 have hKx:¬ K2 xid:=by rw [hK2]; intro h; exact h.2.1 rfl
 obtain ⟨G5,M5,hw,hsh5,hf5,hl5,hM5⟩:=Lh (fun i hi=>by rw [hK2] at hi; exact hi.1) hKx hsh4 xa hpv (.cons hpart .nil) (by show 1<2^50; decide) (by simp [Mg]; omega)
 rw [QO,Jc,QF] at hsh5
 obtain ⟨rv5,hx5,-⟩:=hsh5
 obtain ⟨st5,hst5⟩:∃ s,s=stK ((all++UN all.length).length/128) (all++UN all.length):=⟨_,rfl⟩
 rw [←hst5] at hx5
 have ls5:st5.length=8:=by rw [hst5]; exact Hs _ _
 have xs5:∀ y∈st5,y<18446744073709551616:=by rw [hst5]; exact Il _ _
 have hb5:H.length≤G5.length:=by omega
 have hsu:=gu (r:=H.length) (base:=H.length) hx5 ls5 (Y9 all) (fun i hi=>by simp [sha,hi,hst5]) xs5 hb5
 have hz5:G5[H.length]?=some ⟨u8s (Qa 64 0),true,true,true,1⟩:=by
  rw [hf5 _ (by rw [hK2]; exact ⟨by omega,by omega,by omega,by omega⟩),hG4,Qt,Qc (by omega),hG2,Qt,Qc (by omega)]
  exact hzG
 have hfr:∀ i,i<H.length→G5[i]?=H[i]? := fun i hi=>by
  rw [hf5 _ (by rw [hK2]; exact ⟨by omega,by omega,by omega,by omega⟩),hG4,Qt,Qc (by omega),hG2,Qt,Qc (by omega),hG,Qc hi]
 have hm5:Q1 H.length [] M5=[]:=QD fun i hi=>by
  have:=hM5 i hi
  rw [hK2] at this
  rcases ZG i H.length with h | h
  ·exact absurd (show i<G4.length∧i≠xid∧i≠H.length+1∧i≠G.length from ⟨by omega,by omega,by omega,by omega⟩) this
  ·exact h
 refine ⟨(G5++[(⟨u8s (sha all),true,true,true,1⟩:Ob)]).set H.length (⟨u8s (sha all),true,true,true,1⟩:Ob),?_,fun i hi=>by rw [Qu (by omega),Qc (by omega)]; exact hfr i hi,by rw [Q3,Qk]; omega⟩
 have hz:=Vw
 have lz:(Qa 64 0).length=64:=Qe
 have lsh:=Y9 all
 have cst:=FB (rv:=rv) (n:=all.length) ls
 have c0:(hcl rv all.length st)[0]?=some rv:=rfl
 have c1:(hcl rv all.length st)[1]?=some (.int .u64 all.length):=rfl
 have hcl8:2+8≤(hcl rv all.length st).length:=by rw [HG]; omega
 obtain ⟨va,vc,rfl⟩:=hr'.shape
 generalize (all.drop (128*(all.length/128))).length=rl at *
 have fl1:fillL [Value.slice none 0 0,.int .u64 0] [(0,1,.slice va rl vc),(1,1,.int .u64 all.length)]=some [.slice va rl vc,.int .u64 all.length]:=rfl
 have fl2:=en va rl vc all.length ls
 have fls:fillL [Value.slice none 0 0] [(0,1,s)]=some [s]:=by
  obtain ⟨sa,sc,hsh⟩:=hpart.shape
  rw [hsh]; rfl
 have f0:fillL [] []=some []:=rfl
 have F1:H++[⟨u8s (Qa 64 0),true,true,true,1⟩,⟨[],true,true,true,1⟩]=G:=hG.symm
 have Fx:G.length+l.length=xid:=hxl.symm
 have F2:G++(l++[⟨hcl (.slice va rl vc) all.length st,true,true,true,1⟩])=G2:=by rw [hG2,Qt]; rfl
 have F4:G2++(l3++[⟨[s],true,true,true,1⟩])=G4:=by rw [hG4,Qt]
 have g1:G[hid]?=some ⟨hcl rv all.length st,true,true,true,1⟩:=hhG
 have g2:(G++l)[hid]?=some ⟨hcl rv all.length st,true,true,true,1⟩:=by rw [Qc (by omega)]; exact hhG
 have g5:∀ o:Ob,(G5++[o])[H.length]?=some ⟨u8s (Qa 64 0),true,true,true,1⟩:=fun o=>by rw [Qc (by omega)]; exact hz5
 have g6:∀ o o':Ob,((G5++[o]).set H.length o')[H.length]?=some o':=fun o o'=>Qx (by rw [Qk]; omega)
 have okcl:(hcl (.slice va rl vc) all.length st).all Z7=true:=by
  show (Z7 (.slice va rl vc)&&(Z7 (.int .u64 all.length)&&(ns .u64 st).all Z7))=true
  have:(ns .u64 st).all Z7=true:=by
   rw [ZQ]; intro y hy
   simp only [ns,Xj] at hy
   obtain ⟨m,-,rfl⟩:=hy; rfl
  rw [this]; rfl
 rw [Qk] at hw
 simp only [suI,Qn,Ql,QB] at hsu
 have hge:H.length≤H.length+1:=by omega
 generalize hcl rv all.length st=C1,hcl (.slice va rl vc) all.length st=C2,sha all=R,Qa 64 0=Z64 at *
 rw [Zb (fn:=wJ) rfl]
 simp only [wJ,Qs,quiet,cW,↓pW,reduceCtorEq,seval,-Qb,hz,f0,F1,g1,g2,c0,c1,ha,fl1,cst,hcl8,Qz,Q7,Zc,Q8,fl2,Fx,F2,hp,fls,F4,hw,hm5,hsu,g5,g6,Qq,lz,lsh,Qy,Qe]
theorem bG {H:List Ob} {pv:Value} {xs:List Value} {ps:List (List Nat)} (hp:PV (fun i=>i<H.length) H pv xs) (hP:HParts (fun i=>i<H.length) H xs ps) (hn:xs.length<2^50) (hb:ps.flatten.length<2^49) :
  ∃ l,Z5 T 100 [pv] H=some (.agg (u8s (sha ps.flatten)).toArray,H++l,[]):=by
 obtain ⟨H1,hH1⟩:∃ X,X=H++[⟨u8s (Qa 64 0),true,true,true,1⟩,hob (.slice none 0 0) 0 YR]:=⟨_,rfl⟩
 have hl1:H1.length=H.length+2:=by rw [hH1]; simp
 have hg1:H1[H.length+1]?=some (hob (.slice none 0 0) 0 YR):=by rw [hH1,Qh (by omega),Q0]; rfl
 have hz1:H1[H.length]?=some ⟨u8s (Qa 64 0),true,true,true,1⟩:=by rw [hH1,Qh (by omega),Q4]; rfl
 have hf1:∀ i,i<H.length→H1[i]?=H[i]? := fun i hi=>by rw [hH1,Qc hi]
 have hp1:PV (fun i=>i<H.length+1) H1 pv xs:=by
  rcases hp with h | ⟨pid,off,cap,o,h1,h2,h3,h4,h5⟩
  ·exact .inl h
  ·exact .inr ⟨pid,off,cap,o,h1,Yp h2,(hf1 _ h2).trans h3,h4,h5⟩
 have hP1:HParts (fun i=>i<H.length+1) H1 xs ps:=by
  clear hn hb hp hp1
  induction hP with
  | nil=>exact .nil
  | cons a _ ih=>exact .cons ⟨a.shape,fun G hG=>a.reads G fun i hi=>(hG i (Yp hi)).trans (hf1 i hi),a.lt,a.le⟩ ih
 obtain ⟨H2,M2,hw,s2,f2,l2,m2⟩:=Lh (K:=fun i=>i<H.length+1) (hid:=H.length+1) (fun i hi=>by have:i<H.length+1:=hi; omega) (YX _) (qm hg1) (by simp) hp1 hP1 hn (by rw [Ql]; omega)
 rw [Ql] at s2
 obtain ⟨H3,hs3,f3,l3⟩:=tG s2 hP.lt hb
 have hm2:Q1 H.length [] M2=[]:=QD fun i hi=>by
  have:¬ i<H.length+1:=m2 i hi
  omega
 have g3:H3[H.length]?=some ⟨u8s (Qa 64 0),true,true,true,1⟩:=by
  rw [f3 _ (by omega),f2 _ (DN _)]; exact hz1
 have hfr:∀ i,i<H.length→(H3.set H.length (⟨u8s (sha ps.flatten),true,true,true,1⟩:Ob))[i]?=H[i]? := fun i hi=>by
  rw [Qu (by omega),f3 _ (by omega),f2 _ (Yp hi)]; exact hf1 i hi
 have hle:H.length≤(H3.set H.length (⟨u8s (sha ps.flatten),true,true,true,1⟩:Ob)).length:=by rw [Q3]; omega
 obtain ⟨l,hl⟩:=XJ hle hfr
 refine ⟨l,?_⟩
 rw [←hl]
 have hz:=Vw
 have lz:(Qa 64 0).length=64:=Qe
 have lsh:=Y9 ps.flatten
 have hnew:=uz (H++[⟨u8s (Qa 64 0),true,true,true,1⟩])
 have e1:(H++[(⟨u8s (Qa 64 0),true,true,true,1⟩:Ob)]).length=H.length+1:=by simp
 rw [e1,Qt,Qn,Ql,←hH1] at hnew
 have g4:∀ o:Ob,(H3.set H.length o)[H.length]?=some o:=fun o=>Qx (by omega)
 generalize sha ps.flatten=R,Qa 64 0=Z64 at *
 rw [Zb (fn:=wM) rfl]
 simp only [wM,Qs,quiet,cW,↓pW,reduceCtorEq,seval,-Qb,hz,hnew,hw,hm2,hs3,g3,g4,Qz,Q7,Zc,Q8,Qq,lz,lsh,Qy,Qe]
def Pp (n p i:Nat) (ex:Env):St:=⟨[(0,.int .i64 n),(3,.int .u64 p),(4,.int .i64 i)]++ex,[],[]⟩
theorem pC (h:n<64):2^n<18446744073709551616:=Nat.pow_lt_pow_right (by decide:1<2) (m:=n) (n:=64) h
theorem ig (hn:n<64) (hi:i<n):Q2 T 0 MR (Pp n (2^i) i [])=some (.normal,Pp n (2^(i+1)) (i+1) []):=by
 have e1:((i:Int)<(n:Int))=True:=eq_true (by omega)
 have w1:IntKind.i64.wrap ((i:Int)+1)=((i+1:Nat):Int):=ZT (n:=i+1) (by omega)
 have hlt:2^(i+1)<18446744073709551616:=pC (by omega)
 have w2:IntKind.u64.wrap (((2^i:Nat):Int)*2)=((2^(i+1):Nat):Int):=by
  rw [show (((2^i:Nat):Int)*2)=((2^(i+1):Nat):Int) by rw [Ze]; exact (JT _ _).symm,U0,Qv hlt]
 generalize 2^(i+1)=q at *
 generalize 2^i=p at *
 generalize i+1=i1 at *
 simp only [Pp,MR,Qs,quiet,cW,↓pW,reduceCtorEq,seval,-Qb,e1,w1,w2]
theorem WY (hn:n<64):QK T 144 [.int .i64 n]=some (.int .u64 ((2^n:Nat):Int)):=by
 have hb:=ZV (T:=T) (base:=0) (id:=0) (body:=MR) (fun i=>Pp n (2^i) i []) (s':=Pp n (2^n) n [(7,.bool false)]) n
  (fun i hi=>ig hn hi) (by
   have e1:((n:Int)<(n:Int))=False:=eq_false (by omega)
   generalize 2^n=p at *
   simp only [Pp,MR,Qs,quiet,cW,↓pW,reduceCtorEq,seval,-Qb,e1])
 generalize 2^n=p at *
 simp only [Pp,Qn,Ql,ZF,QB,Int.natCast_one] at hb
 apply QI (fn:=wA) rfl
 simp only [wA,Qs,quiet,cW,↓pW,reduceCtorEq,seval,-Qb,hb]
 rfl
theorem UF {x:Nat} (hx:x<18446744073709551616) (hr:0<r) (hr':r≤63):QK T 143 [.int .u64 x,.int .i64 r,.int .i64 64]=some (.int .u64 (JN x r:Nat)):=by
 have h1:=WY (n:=r) (by omega)
 have h2:=WY (n:=64-r) (by omega)
 have hsub:IntKind.i64.wrap (64-(r:Int))=((64-r:Nat):Int):=by rw [show (64:Int)-(r:Int)=((64-r:Nat):Int) by omega]; exact ZT (by omega)
 have hp:0<2^r:=JM (by decide)
 have hz:(((2^r:Nat):Int)=0)=False:=eq_false (by omega)
 have hd:((x:Nat):Int).tdiv ((2^r:Nat):Int)=((x/2^r:Nat):Int):=rfl
 have hd':IntKind.u64.wrap ((x/2^r:Nat):Int)=((x/2^r:Nat):Int):=by rw [U0,Qv (ZX (Jq _ _) hx)]
 have hm:IntKind.u64.wrap ((x:Int)*((2^(64-r):Nat):Int))=((x*2^(64-r)%18446744073709551616:Nat):Int):=by rw [←JT,U0]
 have hrot:x/2^r+x*2^(64-r)%18446744073709551616=JN x r:=rfl
 have ha:IntKind.u64.wrap (((x/2^r:Nat):Int)+((x*2^(64-r)%18446744073709551616:Nat):Int))=((JN x r:Nat):Int):=by
  rw [Wx,hrot,Qv (XI hx hr hr')]
 generalize JN x r=R at *
 generalize x*2^(64-r)%18446744073709551616=M at *
 generalize x/2^r=D at *
 generalize 2^(64-r)=A at *
 generalize 2^r=B at *
 generalize 64-r=q at *
 apply QI (fn:=nS) rfl
 simp only [nS,Qs,quiet,cW,↓pW,reduceCtorEq,seval,-Qb,h1,h2,hsub,hz,hd,hd',hm,ha]
 rfl
theorem AN (x:Nat):QK T 145 [.int .u64 x,.int .i64 64]=some (.int .u64 (x:Nat)):=by
 apply QI (fn:=nR) rfl
 simp only [nR,Qs,quiet,cW,↓pW,reduceCtorEq,seval,-Qb]
 rfl
theorem U1 {a b c:Nat} (ha:a<18446744073709551616) (hb:b<18446744073709551616) (hc:c<18446744073709551616):QK T 142 [.int .u64 a,.int .u64 b,.int .u64 c]=some (.int .u64 ((a^^^b^^^c:Nat):Int)):=by
 have h1:=Wf ha hb
 have h2:=Wf (Yh ha hb) hc
 generalize a^^^b^^^c=R at *
 generalize a^^^b=q at *
 apply QI (fn:=wB) rfl
 simp only [wB,Qs,quiet,cW,↓pW,reduceCtorEq,seval,-Qb,h1,h2]
 rfl
theorem eI {e f g:Nat} (he:e<2^64):(e&&&f)|||((2^64-1-e)&&&g)=(e&&&f)^^^(((2^64-1)^^^e)&&&g):=by
 apply T3
 intro i
 have h1:(2^64-1-e).testBit i=(decide (i<64) && !e.testBit i):=by
  rw [show 2^64-1-e=2^64-(e+1) by omega,Nat.testBit_two_pow_sub_succ he]
 have h2:((2^64-1)^^^e).testBit i=(decide (i<64) ^^ e.testBit i):=by
  rw [B5,Nat.testBit_two_pow_sub_one]
 have h3:e.testBit i=true→i<64:=fun h=>by
  rcases ZG i 64 with k | k
  ·exact k
  ·rw [Nat.testBit_lt_two_pow (QM he (Zk (by decide) k))] at h; cases h
 rw [Gd,B5,Yc,Yc,Yc,h1,h2]
 cases he':e.testBit i<;>cases f.testBit i<;>cases g.testBit i<;>simp_all
theorem kS (a b c:Nat):(a&&&b)|||(a&&&c)|||(b&&&c)=maO a b c:=by
 apply T3
 intro i
 simp only [maO,Gd,B5,Yc]
 cases a.testBit i<;>cases b.testBit i<;>cases c.testBit i<;>rfl
theorem ch_or {f g:Nat} (he:e<18446744073709551616):(e&&&f)|||((18446744073709551615-e)&&&g)=chO e f g:=eI (e:=e) (f:=f) (g:=g) he
theorem EV (H:List Ob):Z5 T 141 [] H=some (.slice (some ⟨H.length,0,none⟩) 80 80,H++[⟨ns .u64 Km,true,true,true,1⟩],[]):=by
 have hf:=F8
 have l8:(ns .u64 Km).length=80:=rfl
 rw [Zb (fn:=wC) rfl]
 simp only [wC,Qs,quiet,cW,↓pW,reduceCtorEq,seval,-Qb,hf,l8]
def shC (sv:Value):List Value:=[.int .i64 64,.int .i64 80,.int .i64 128,sv,.int .i64 1,.int .i64 8,.int .i64 7,.int .i64 19,.int .i64 61,.int .i64 6,.int .i64 28,.int .i64 34,.int .i64 39,.int .i64 14,.int .i64 18,.int .i64 41]
theorem shC_0 (sv:Value):(shC sv)[0]?=some (.int .i64 64):=rfl
theorem EU (sv:Value):(shC sv)[1]?=some (.int .i64 80):=rfl
theorem sQ (sv:Value):(shC sv)[2]?=some (.int .i64 128):=rfl
theorem shC_3 (sv:Value):(shC sv)[3]?=some sv:=rfl
theorem SX (sv:Value):(shC sv).length=16:=rfl
def rzI (B:Nat) (x s:Value) (Hc:List Ob) (ex:Env):St:=⟨[(0,x),(3,.pointer (some ⟨B,0,none⟩)),(5,.int .i64 8),(6,s)]++ex,Hc,[]⟩
theorem gY {N:Nat} {s0:Value} {H1 Hc0:List Ob} {bs:List Nat} (hBN:B<N) (hh:H1[B]?=some ⟨shC sv,true,true,true,1⟩) (hn:bs.length<2^46) (hg0:Grown .u8 N Hc0 s0 (bs++[128])) (hL0:N≤Hc0.length) (hF0:∀ i,i<N→Hc0[i]?=H1[i]?) :
  ∃ s Hc,Q2 T B (.block 0 (.loop W8)) (rzI B x s0 Hc0 [])=some (.normal,rzI B x s Hc [(48,.bool false)])∧Grown .u8 N Hc s (bs++128::Qa (Vg bs.length) 0)∧N≤Hc.length∧∀ i,i<N→Hc[i]?=H1[i]? := by
 have f0:fillL [Value.int .u8 0] [(0,1,.int .u8 0)]=some [.int .u8 0]:=rfl
 have c2:=sQ sv
 have hz:=Me bs.length
 obtain ⟨st,hb,s,Hc,rfl,hg,hL,hF⟩:=Zi (T:=T) (base:=B) (id:=0) (body:=W8)
  (fun j st=>∃ s Hc,st=rzI B x s Hc []∧Grown .u8 N Hc s (bs++128::Qa j 0)∧N≤Hc.length∧∀ i,i<N→Hc[i]?=H1[i]?)
  (Q:=fun st=>∃ s Hc,st=rzI B x s Hc [(48,.bool false)]∧Grown .u8 N Hc s (bs++128::Qa (Vg bs.length) 0)∧N≤Hc.length∧∀ i,i<N→Hc[i]?=H1[i]?)
  (Vg bs.length) (s:=rzI B x s0 Hc0 []) ⟨_,_,rfl,hg0,hL0,hF0⟩
  (fun j st hj hs=>by
   obtain ⟨s,Hc,rfl,hg,hL,hF⟩:=hs
   have hl:=hg.len
   have e1:(bs++128::Qa j 0).length=bs.length+(1+j):=by simp; omega
   rw [e1] at hl
   obtain ⟨s',H',M,h1,h2,h3,h4,h5⟩:=Wi (x:=0) (bytes:=1) hg hL (by rw [e1]; omega) (by decide)
   have hm:Q1 B [] M=[]:=QD fun i hi=>by have:=h3 i hi; omega
   have hget:Hc[B]?=some ⟨shC sv,true,true,true,1⟩:=(hF B hBN).trans hh
   have w3:IntKind.i64.wrap (((bs.length+(1+j):Nat):Int)+16)=((bs.length+(1+j)+16:Nat):Int):=Zx (b:=16) (by omega)
   have w4:((bs.length+(1+j)+16:Nat):Int).tmod 128=(((bs.length+(1+j)+16)%128:Nat):Int):=rfl
   have w5:((((bs.length+(1+j)+16)%128:Nat):Int) != 0)=true:=bne_iff_ne.2 (by have:=Td bs.length j hj; omega)
   refine ⟨rzI B x s' H' [],?_,s',H',rfl,by rw [Vc,←Qn,←Qt]; exact h2,h4,fun i hi=>by rw [h5 i hi,hF i hi]⟩
   simp only [QB] at h1
   generalize (bs.length+(1+j)+16)%128=r at *
   generalize bs.length+(1+j)+16=r2 at *
   generalize bs.length+(1+j)=r3 at *
   generalize shC sv=sc at *
   simp only [rzI,W8,Qs,quiet,cW,↓pW,reduceCtorEq,seval,-Qb,hget,c2,hl,w3,w4,w5,f0,h1,hm])
  (fun st hs=>by
   obtain ⟨s,Hc,rfl,hg,hL,hF⟩:=hs
   have hl:=hg.len
   have e1:(bs++128::Qa (Vg bs.length) 0).length=bs.length+(1+Vg bs.length):=by simp; omega
   rw [e1] at hl
   have hget:Hc[B]?=some ⟨shC sv,true,true,true,1⟩:=(hF B hBN).trans hh
   have w3:IntKind.i64.wrap (((bs.length+(1+Vg bs.length):Nat):Int)+16)=((bs.length+(1+Vg bs.length)+16:Nat):Int):=Zx (b:=16) (by omega)
   have w4:((bs.length+(1+Vg bs.length)+16:Nat):Int).tmod 128=0:=by
    have:((bs.length+(1+Vg bs.length)+16:Nat):Int).tmod 128=(((bs.length+(1+Vg bs.length)+16)%128:Nat):Int):=rfl
    rw [this,A6]; rfl
   refine ⟨_,?_,s,Hc,rfl,hg,hL,hF⟩
   generalize bs.length+(1+Vg bs.length)+16=r2 at *
   generalize bs.length+(1+Vg bs.length)=r3,shC sv=sc at *
   simp only [rzI,W8,Qs,quiet,cW,↓pW,reduceCtorEq,seval,-Qb,hget,c2,hl,w3,w4])
 exact ⟨s,Hc,hb,hg,hL,hF⟩
def rcI (B:Nat) (s:Value) (Hm:List Ob) (C:List Nat) (m:Nat) (iv:Int) (ex:Env):St:=⟨[(3,.pointer (some ⟨B,0,none⟩)),(5,.int .i64 8),(6,s),(7,.slice (some ⟨Hm.length,0,none⟩) 16 16),(8,.int .u64 m),(9,.int .i64 iv)]++ex,Hm++[⟨u8s C,true,true,true,1⟩],[]⟩
theorem iE (hB:B≤Hm.length) (lC:C.length=16) (hn:n<18446744073709551616) :
  Q2 T B KX (rcI B s Hm C n 15 [])=some (.normal,rcI B s Hm (C.set 15 (Ua n 15)) (n/32) 14 []):=by
 have w1:(n:Int).tmod 32=((n%32:Nat):Int):=rfl
 have w2:IntKind.u64.wrap (((n%32:Nat):Int)*8)=((n%32*8:Nat):Int):=by
  rw [show ((n%32:Nat):Int)*8=((n%32*8:Nat):Int) from (JT _ _).symm,U0,Qv (by omega)]
 have hp:Ua n 15=n%32*8:=by
  unfold Ua
  rw [show 15-15=0 from rfl,ZF,Jt]
  omega
 have w3:IntKind.u8.wrap ((n%32*8:Nat):Int)=((n%32*8:Nat):Int):=by rw [GA,Qv (by omega)]
 have w4:IntKind.u64.wrap ((n:Int).tdiv 32)=((n/32:Nat):Int):=by rw [show ((n:Int).tdiv 32)=((n/32:Nat):Int) from rfl,U0,Qv (by omega)]
 have hset:=Xb C 15 (n%32*8)
 have im:Q1 B [] [Hm.length]=[]:=QD (by simp; omega)
 have hl:15+1≤(u8s C).length:=by rw [Qq,lC]; decide
 rw [hp]
 generalize n%32*8=d at *
 generalize n%32=r at *
 generalize n/32=m at *
 simp only [rcI,KX,Qs,quiet,cW,↓pW,reduceCtorEq,seval,-Qb,w1,w2,w3,w4,hset,im,hl]
theorem pn {k:Nat} (hB:B≤Hm.length) (lC:C.length=16) (hk:k<15) (hn:n<18446744073709551616) :
  Q2 T B KX (rcI B s Hm C n (k:Nat) [])=some (.normal,rcI B s Hm (C.set k (n%256)) (n/256) ((k:Int)-1) []):=by
 have w1:(n:Int).tmod 256=((n%256:Nat):Int):=rfl
 have w3:IntKind.u8.wrap ((n%256:Nat):Int)=((n%256:Nat):Int):=by rw [GA,Y3]
 have w4:IntKind.u64.wrap ((n:Int).tdiv 256)=((n/256:Nat):Int):=by rw [show ((n:Int).tdiv 256)=((n/256:Nat):Int) from rfl,U0,Qv (by omega)]
 have w5:IntKind.i64.wrap ((k:Int)-1)=(k:Int)-1:=Zf (by omega) (by omega)
 have e1:(0≤(k:Int))=True:=eq_true (by omega)
 have e2:((k:Int)==15)=false:=beq_eq_false_iff_ne.2 (by omega)
 have e3:((k:Int)<16)=True:=eq_true (by omega)
 have hset:=Xb C k (n%256)
 have im:Q1 B [] [Hm.length]=[]:=QD (by simp; omega)
 have hl:k+1≤(u8s C).length:=by rw [Qq,lC]; omega
 generalize n%256=d at *
 generalize n/256=m at *
 simp only [rcI,KX,Qs,quiet,cW,↓pW,reduceCtorEq,seval,-Qb,w1,w3,w4,w5,e1,e2,e3,hset,im,hl]
theorem iF (hB:B≤Hm.length) (hn:n<2^46) :
  Q2 T B (.block 2 (.loop KX)) (rcI B s Hm (Qa 16 0) n 15 [])=some (.normal,rcI B s Hm ((Z9 16).map (Ua n)) (8*n/256^16) (-1) [(62,.bool false)]):=by
 obtain ⟨st,hb,C,rfl,lC,hC⟩:=Zi (T:=T) (base:=B) (id:=2) (body:=KX)
  (fun j st=>∃ C m,st=rcI B s Hm C m ((15:Int)-(j:Nat)) []∧C.length=16∧(m=if j=0 then n else 8*n/256^j)∧∀ i,16≤i+j→i<16→C[i]?=some (Ua n i))
  (Q:=fun st=>∃ C,st=rcI B s Hm C (8*n/256^16) (-1) [(62,.bool false)]∧C.length=16∧∀ i,i<16→C[i]?=some (Ua n i))
  16 (s:=rcI B s Hm (Qa 16 0) n 15 []) ⟨_,_,rfl,rfl,rfl,fun i h1 h2=>by omega⟩
  (fun j st hj hs=>by
   obtain ⟨C,m,rfl,lC,hm,hC⟩:=hs
   rcases Jw j with h0 | h0
   ·subst h0
    rw [if_pos rfl] at hm
    subst hm
    refine ⟨_,iE hB lC (by omega),_,_,rfl,by rw [Q3]; exact lC,by rw [if_neg (by decide),QL,wR]; omega,fun i h1 h2 => ?_⟩
    have:i=15:=by omega
    subst this
    rw [Qx (by omega)]
   ·rw [if_neg (by omega)] at hm
    subst hm
    have e:((15:Int)-(j:Nat))=((15-j:Nat):Int):=by omega
    have hlt:8*n/256^j<18446744073709551616:=ZX (Jq _ _) (by omega)
    have hp:Ua n (15-j)=8*n/256^j%256:=by unfold Ua; rw [show 15-(15-j)=j by omega]
    have hd:8*n/256^j/256=8*n/256^(j+1):=by rw [QT,Ze]
    have hbd:=pn (s:=s) hB lC (k:=15-j) (by omega) hlt
    rw [←e,←hp,hd] at hbd
    refine ⟨_,hbd,_,_,by rw [show (15:Int)-(j:Nat)-1=(15:Int)-((j+1:Nat):Int) by omega],by rw [Q3]; exact lC,by rw [if_neg (by omega)],fun i h1 h2 => ?_⟩
    by_cases h:i=15-j
    ·subst h; rw [Qx (by omega)]
    ·rw [Qu (by omega)]; exact hC i (by omega) h2)
  (fun st hs=>by
   obtain ⟨C,m,rfl,lC,hm,hC⟩:=hs
   rw [if_neg (by decide)] at hm
   refine ⟨_,?_,C,rfl,lC,fun i hi=>hC i (by omega) hi⟩
   subst hm
   generalize 8*n/256^16=m at *
   simp only [rcI,KX,Qs,quiet,cW,↓pW,reduceCtorEq,seval,-Qb])
 have:C=(Z9 16).map (Ua n):=Ju fun i=>by
  by_cases h:i<16
  ·rw [hC i h]; simp [h]
  ·rw [QN (by omega),QN (by simp; omega)]
 rw [←this]
 exact hb
def tuC:List Value:=[.int .i64 1,.int .i64 8,.int .i64 7,.int .i64 19,.int .i64 61,.int .i64 6,.int .i64 28,.int .i64 34,.int .i64 39,.int .i64 14,.int .i64 18,.int .i64 41]
def rhE (B tid L:Nat) (tb sv:Value) (u at_ q:Nat) (i:Int):Env:=[(3,.pointer (some ⟨B,0,none⟩)),(5,.int .i64 8),(6,.slice (some ⟨tid,0,none⟩) L L),(10,tb),(11,sv),(12,.int .i64 64),(13,.pointer (some ⟨u,0,none⟩)),(14,.int .i64 at_),(15,.slice (some ⟨q,0,none⟩) 80 80),(16,.int .i64 i)]
def rhI (B tid L:Nat) (tb sv:Value) (u at_:Nat) (Hm:List Ob) (W:List Nat) (i:Int) (ex:Env):St:=⟨rhE B tid L tb sv u at_ Hm.length i++ex,Hm++[⟨ns .u64 W,true,true,true,1⟩],[]⟩
theorem iL {all:List Nat} (hB:B≤Hm.length) (ht:Hm[tid]?=some ⟨u8s all,true,true,x4,1⟩) (hL:all.length<2^50) (hb:∀ j,j<128→all[at_+j]?=b[j]?) (hbl:b.length=128) (hx:∀ y∈b,y<256) (hat:at_+128≤all.length) (hi:i<16) :
  Q2 T B (.block 8 (.loop W9)) (rhI B tid all.length tb sv u at_ Hm (pf 80 (JP b) i) i [(17,.int .i64 0)])=some (.normal,rhI B tid all.length tb sv u at_ Hm (pf 80 (JP b) (i+1)) i [(17,.int .i64 8),(120,.bool false)]):=by
 have hWl:=Y7 b
 have h8:((b.drop (8*i)).take 8).length=8:=by rw [Q6,QP]; omega
 have hz:=D9 (L:=JP b) (by omega:i<80) hWl
 have hpl:=Ko hWl (by omega:i≤80)
 have Mq:(pf 80 (JP b) i).set i (be [])=pf 80 (JP b) i:=Aj hz
 have hW:=Ri (b:=b) hi
 have hstep:=XE hWl (by omega:i<80) hW
 have h:=ZV (T:=T) (base:=B) (id:=8) (body:=W9) (fun j=>rhI B tid all.length tb sv u at_ Hm ((pf 80 (JP b) i).set i (be (((b.drop (8*i)).take 8).take j))) i [(17,.int .i64 j)]) (s':=rhI B tid all.length tb sv u at_ Hm (pf 80 (JP b) (i+1)) i [(17,.int .i64 8),(120,.bool false)]) 8
  (fun j hj=>by
   obtain ⟨x,hxj⟩:∃ x,((b.drop (8*i)).take 8)[j]?=some x:=⟨_,Qf (by omega)⟩
   have hxb:b[8*i+j]?=some x:=by
    rw [QX,if_pos hj,Zm] at hxj; exact hxj
   have hx':=hx x (Qp hxb)
   have hxa:(u8s all)[at_+8*i+j]?=some (.int .u8 (x:Nat)):=Jx (by rw [show at_+8*i+j=at_+(8*i+j) by omega,hb _ (by omega)]; exact hxb)
   have hbel:=FT j (((b.drop (8*i)).take 8).take j) (by rw [Q6]; omega) (fun y hy=>hx y (ZD (QU (QU hy))))
   have hbes:be (((b.drop (8*i)).take 8).take (j+1))=be (((b.drop (8*i)).take 8).take j)*256+x:=by rw [Zw,hxj]; exact TN _ _
   rw [hbes]
   have h256:(256:Nat)^j≤256^7:=Zk (by decide) (by omega)
   have e7:(256:Nat)^7=72057594037927936:=by decide
   rw [e7] at h256
   generalize be (((b.drop (8*i)).take 8).take j)=a at *
   have hg:((pf 80 (JP b) i).set i a)[i]?=some a:=by rw [Qx (by rw [hpl]; omega)]
   have hgc:=ZM (k := .u64) hg
   have hss:=X8 .u64 ((pf 80 (JP b) i).set i a) i (a*256+x)
   rw [VU] at hss
   have hln:((pf 80 (JP b) i).set i a).length=80:=by rw [Q3]; exact hpl
   have w1:IntKind.i64.wrap ((j:Int)+1)=((j+1:Nat):Int):=Zx (b:=1) (by omega)
   have w2:IntKind.u64.wrap (x:Int)=(x:Int):=Kn (by omega)
   have w3:IntKind.u64.wrap ((a:Int)*256)=((a*256:Nat):Int):=by
    rw [show (a:Int)*256=((a*256:Nat):Int) from (JT _ _).symm]; exact Kn (by omega)
   have w4:IntKind.u64.wrap (((a*256:Nat):Int)+(x:Int))=((a*256+x:Nat):Int):=by
    rw [←Jl]; exact Kn (by omega)
   have w5:IntKind.i64.wrap (8*(i:Int))=((8*i:Nat):Int):=ZT (n:=8*i) (by omega)
   have w6:IntKind.i64.wrap ((at_:Int)+((8*i:Nat):Int))=((at_+8*i:Nat):Int):=Zx (by omega)
   have w7:IntKind.i64.wrap (((at_+8*i:Nat):Int)+(j:Int))=((at_+8*i+j:Nat):Int):=Zx (by omega)
   have e1:((j:Int)<8)=True:=eq_true (by omega)
   have e2:((i:Int)<80)=True:=eq_true (by omega)
   have e3:(((at_+8*i+j:Nat):Int)<((all.length:Nat):Int))=True:=eq_true (by omega)
   have hget:(Hm++[⟨ns .u64 ((pf 80 (JP b) i).set i a),true,true,true,1⟩])[tid]?=some ⟨u8s all,true,true,x4,1⟩:=by rw [Qc (Qg.1 ht).1]; exact ht
   have hle:i+1≤(ns .u64 ((pf 80 (JP b) i).set i a)).length:=by rw [Q9,hln]; omega
   have im:Q1 B [] [Hm.length]=[]:=QD (by simp; omega)
   generalize (pf 80 (JP b) i).set i a=O1,(pf 80 (JP b) i).set i (a*256+x)=O2 at *
   generalize hv:a*256+x=v at *
   generalize a*256=v2 at *
   generalize hoo:at_+8*i+j=oo at *
   generalize at_+8*i=o2 at *
   generalize 8*i=o3 at *
   generalize all.length=LL at *
   generalize j+1=j1 at *
   simp only [rhI,rhE,W9,Qs,quiet,cW,↓pW,reduceCtorEq,seval,-Qb,e1,e2,e3,w1,w2,w3,w4,w5,w6,w7,hget,hxa,hgc,hss,hle,im])
  (by
   have e8:((b.drop (8*i)).take 8).take 8=(b.drop (8*i)).take 8:=by rw [eM,sG]
   rw [e8,hstep]
   generalize pf 80 (JP b) (i+1)=O2 at *
   simp only [rhI,rhE,W9,Qs,quiet,cW,↓pW,reduceCtorEq,seval,-Qb])
 rw [Xa,Mq] at h
 exact h
theorem SO:tuC.length=12:=rfl
theorem div64 (x r:Nat):(x:Int).tdiv ((r:Nat):Int)=((x/r:Nat):Int):=rfl
theorem p7_v:QK T 144 [.int .i64 7]=some (.int .u64 128):=WY (n:=7) (by decide)
theorem p6_v:QK T 144 [.int .i64 6]=some (.int .u64 64):=WY (n:=6) (by decide)
theorem pt (hB:B<Hm.length) (hS:Hm[B]?=some ⟨shC sh,true,true,true,1⟩) (hU:Hm[u]?=some ⟨tuC,true,true,true,1⟩) (hb:∀ x∈b,x<256) (hi:16≤i) (hi':i<80) :
  Q2 T B KY (rhI B tid L tb sv u at_ Hm (pf 80 (JP b) i) i [])=some (.normal,rhI B tid L tb sv u at_ Hm (pf 80 (JP b) (i+1)) ((i+1:Nat):Int) []):=by
 have hWl:=Y7 b
 have hW:=Rh (b:=b) hi hi'
 have hstep:=XE hWl hi' hW
 have hpl:=Ko hWl (Js hi')
 obtain ⟨x,hx⟩:∃ x,(JP b)[i-15]?=some x:=⟨_,Qf (by omega)⟩
 obtain ⟨y,hy⟩:∃ x,(JP b)[i-2]?=some x:=⟨_,Qf (by omega)⟩
 obtain ⟨w,hu⟩:∃ x,(JP b)[i-16]?=some x:=⟨_,Qf (by omega)⟩
 obtain ⟨v,hv⟩:∃ x,(JP b)[i-7]?=some x:=⟨_,Qf (by omega)⟩
 have lx:=T7 hb hx
 have ly:=T7 hb hy
 have cx:=ZM (k := .u64) ((VZ (n:=80) (by omega:i-15<i) (by omega)).trans hx)
 have cy:=ZM (k := .u64) ((VZ (n:=80) (by omega:i-2<i) (by omega)).trans hy)
 have cu:=ZM (k := .u64) ((VZ (n:=80) (by omega:i-16<i) (by omega)).trans hu)
 have cv:=ZM (k := .u64) ((VZ (n:=80) (by omega:i-7<i) (by omega)).trans hv)
 rw [JJ hx,JJ hy,JJ hu,JJ hv] at hstep
 have r1:QK T 143 [.int .u64 x,.int .i64 1,.int .i64 64]=some (.int .u64 (JN x 1:Nat)):=UF (r:=1) lx (by decide) (by decide)
 have r8:QK T 143 [.int .u64 x,.int .i64 8,.int .i64 64]=some (.int .u64 (JN x 8:Nat)):=UF (r:=8) lx (by decide) (by decide)
 have r19:QK T 143 [.int .u64 y,.int .i64 19,.int .i64 64]=some (.int .u64 (JN y 19:Nat)):=UF (r:=19) ly (by decide) (by decide)
 have r61:QK T 143 [.int .u64 y,.int .i64 61,.int .i64 64]=some (.int .u64 (JN y 61:Nat)):=UF (r:=61) ly (by decide) (by decide)
 have b1:=XI (r:=1) lx (by decide) (by decide)
 have b8:=XI (r:=8) lx (by decide) (by decide)
 have b19:=XI (r:=19) ly (by decide) (by decide)
 have b61:=XI (r:=61) ly (by decide) (by decide)
 have b7:x/2^7<18446744073709551616:=Mz lx
 have b6:y/2^6<18446744073709551616:=Mz ly
 have x2:QK T 142 [.int .u64 (JN x 1:Nat),.int .u64 (JN x 8:Nat),.int .u64 (x/2^7:Nat)]=some (.int .u64 (sg0 x:Nat)):=U1 b1 b8 b7
 have y2:QK T 142 [.int .u64 (JN y 19:Nat),.int .u64 (JN y 61:Nat),.int .u64 (y/2^6:Nat)]=some (.int .u64 (sg1 y:Nat)):=U1 b19 b61 b6
 have p7:=p7_v
 have p6:=p6_v
 have s7:IntKind.u64.wrap ((x:Int).tdiv 128)=((x/2^7:Nat):Int):=Kn b7
 have s6:IntKind.u64.wrap ((y:Int).tdiv 64)=((y/2^6:Nat):Int):=Kn b6
 have m1:=Wx w (sg0 x)
 have m2:=Wx ((w+sg0 x)%18446744073709551616) v
 have m3:=Wx (((w+sg0 x)%18446744073709551616+v)%18446744073709551616) (sg1 y)
 have hsum:(((w+sg0 x)%18446744073709551616+v)%18446744073709551616+sg1 y)%18446744073709551616=(w+v+sg0 x+sg1 y)%18446744073709551616:=by omega
 rw [hsum] at m3
 have kp:=AN ((w+v+sg0 x+sg1 y)%18446744073709551616)
 have hset:=X8 .u64 (pf 80 (JP b) i) i ((w+v+sg0 x+sg1 y)%18446744073709551616)
 rw [hstep] at hset
 have e1:((i:Int)<80)=True:=eq_true (by omega)
 have e2:((i:Int)<16)=False:=eq_false (by omega)
 have i15:IntKind.i64.wrap ((i:Int)-15)=((i-15:Nat):Int):=by rw [Zf (by omega) (by omega)]; omega
 have i2:IntKind.i64.wrap ((i:Int)-2)=((i-2:Nat):Int):=by rw [Zf (by omega) (by omega)]; omega
 have i16:IntKind.i64.wrap ((i:Int)-16)=((i-16:Nat):Int):=by rw [Zf (by omega) (by omega)]; omega
 have i7:IntKind.i64.wrap ((i:Int)-7)=((i-7:Nat):Int):=by rw [Zf (by omega) (by omega)]; omega
 have j15:(((i-15:Nat):Int)<80)=True:=eq_true (by omega)
 have j2:(((i-2:Nat):Int)<80)=True:=eq_true (by omega)
 have j16:(((i-16:Nat):Int)<80)=True:=eq_true (by omega)
 have j7:(((i-7:Nat):Int)<80)=True:=eq_true (by omega)
 have w3:IntKind.i64.wrap ((i:Int)+1)=((i+1:Nat):Int):=Zx (b:=1) (by omega)
 have hle:i+1≤(ns .u64 (pf 80 (JP b) i)).length:=by rw [Q9,hpl]; omega
 have im:Q1 B [] [Hm.length]=[]:=QD (by simp; omega)
 have gS:∀ m:List Ob,(Hm++m)[B]?=some ⟨shC sh,true,true,true,1⟩:=fun m=>by rw [Qc hB]; exact hS
 have gU:∀ m:List Ob,(Hm++m)[u]?=some ⟨tuC,true,true,true,1⟩:=fun m=>by rw [Qc (Qg.1 hU).1]; exact hU
 have c1:=EU sh
 have t0:tuC[0]?=some (.int .i64 1):=rfl
 have t1:tuC[1]?=some (.int .i64 8):=rfl
 have t2:tuC[2]?=some (.int .i64 7):=rfl
 have t3:tuC[3]?=some (.int .i64 19):=rfl
 have t4:tuC[4]?=some (.int .i64 61):=rfl
 have t5:tuC[5]?=some (.int .i64 6):=rfl
 clear hsum hstep hW hx hy hu hv hWl hS hU
 generalize pf 80 (JP b) i=O1,pf 80 (JP b) (i+1)=O2,(w+v+sg0 x+sg1 y)%18446744073709551616=z,((w+sg0 x)%18446744073709551616+v)%18446744073709551616=z2 at *
 generalize (w+sg0 x)%18446744073709551616=z3 at *
 generalize sg0 x=gx,sg1 y=gy,JN x 1=x1v,JN x 8=x8v,JN y 19=y19v,JN y 61=y61v at *
 generalize x/2^7=x7v at *
 generalize y/2^6=y6v at *
 generalize i-15=k15 at *
 generalize i-2=k2 at *
 generalize i-16=k16 at *
 generalize i-7=k7 at *
 generalize hi1:i+1=i1 at *
 generalize tuC=tc at *
 generalize shC sh=sc at *
 simp only [rhI,rhE,KY,Qs,quiet,cW,↓pW,reduceCtorEq,seval,-Qb,gS,gU,c1,t0,t1,t2,t3,t4,t5,e1,e2,i15,i2,i16,i7,j15,j2,j16,j7,cx,cy,cu,cv,r1,r8,r19,r61,p7,p6,s7,s6,x2,y2,m1,m2,m3,kp,hset,w3,hi1,hle,im]
theorem tU {all:List Nat} (hB:B<Hm.length) (hS:Hm[B]?=some ⟨shC sh,true,true,true,1⟩) (ht:Hm[tid]?=some ⟨u8s all,true,true,x4,1⟩) (hL:all.length<2^50) (hb:∀ j,j<128→all[at_+j]?=b[j]?) (hbl:b.length=128) (hx:∀ y∈b,y<256) (hat:at_+128≤all.length) (hi:i<16) :
  Q2 T B KY (rhI B tid all.length tb sv u at_ Hm (pf 80 (JP b) i) i [])=some (.normal,rhI B tid all.length tb sv u at_ Hm (pf 80 (JP b) (i+1)) ((i+1:Nat):Int) []):=by
 have h4:=iL (tb:=tb) (sv:=sv) (u:=u) (Js hB) ht hL hb hbl hx hat hi
 have e1:((i:Int)<80)=True:=eq_true (by omega)
 have e2:((i:Int)<16)=True:=eq_true (by omega)
 have w3:IntKind.i64.wrap ((i:Int)+1)=((i+1:Nat):Int):=Zx (b:=1) (by omega)
 have gS:∀ m:List Ob,(Hm++m)[B]?=some ⟨shC sh,true,true,true,1⟩:=fun m=>by rw [Qc hB]; exact hS
 have c1:=EU sh
 simp only [rhI,rhE,Qn,Ql] at h4
 generalize pf 80 (JP b) i=O1,pf 80 (JP b) (i+1)=O2 at *
 generalize hi1:i+1=i1 at *
 generalize shC sh=sc at *
 simp only [rhI,rhE,KY,Qs,quiet,cW,↓pW,reduceCtorEq,seval,-Qb,gS,c1,e1,e2,h4,w3,hi1]
theorem iK {all:List Nat} (hB:B<Hm.length) (hS:Hm[B]?=some ⟨shC sh,true,true,true,1⟩) (hU:Hm[u]?=some ⟨tuC,true,true,true,1⟩) (ht:Hm[tid]?=some ⟨u8s all,true,true,x4,1⟩) (hL:all.length<2^50) (hb:∀ j,j<128→all[at_+j]?=b[j]?) (hbl:b.length=128) (hx:∀ y∈b,y<256) (hat:at_+128≤all.length) :
  Q2 T B (.block 6 (.loop KY)) (rhI B tid all.length tb sv u at_ Hm (Qa 80 0) 0 [])=some (.normal,rhI B tid all.length tb sv u at_ Hm (JP b) 80 [(113,.bool false)]):=by
 have hWl:=Y7 b
 have h:=ZV (T:=T) (base:=B) (id:=6) (body:=KY) (fun i=>rhI B tid all.length tb sv u at_ Hm (pf 80 (JP b) i) i []) (s':=rhI B tid all.length tb sv u at_ Hm (JP b) 80 [(113,.bool false)]) 80
  (fun i hi=>by
   by_cases h:i<16
   ·exact tU hB hS ht hL hb hbl hx hat h
   ·exact pt hB hS hU hx (by omega) hi)
  (by
   have gS:∀ m:List Ob,(Hm++m)[B]?=some ⟨shC sh,true,true,true,1⟩:=fun m=>by rw [Qc hB]; exact hS
   have c1:=EU sh
   rw [Ku hWl]
   generalize JP b=O2,shC sh=sc at *
   simp only [rhI,rhE,KY,Qs,quiet,cW,↓pW,reduceCtorEq,seval,-Qb,gS,c1])
 rw [Kt] at h
 exact h
def rvE (B tid L kid:Nat) (sv:Value) (u at_ q vid:Nat) (i:Int):Env:=[(3,.pointer (some ⟨B,0,none⟩)),(5,.int .i64 8),(6,.slice (some ⟨tid,0,none⟩) L L),(10,.slice (some ⟨kid,0,none⟩) 80 80),(11,sv),(12,.int .i64 64),(13,.pointer (some ⟨u,0,none⟩)),(14,.int .i64 at_),(15,.slice (some ⟨q,0,none⟩) 80 80),(22,.slice (some ⟨vid,0,none⟩) 8 8),(23,.int .i64 i)]
def rvI (B tid L kid:Nat) (sv:Value) (u at_ q vid:Nat) (i:Int) (Hc:List Ob) (ex:Env):St:=⟨rvE B tid L kid sv u at_ q vid i++ex,Hc,[]⟩
theorem oO {kid q vid:Nat} {Hc:List Ob} {w s:List Nat} {x1 x2:Bool} (hS:Hc[B]?=some ⟨shC sh,true,true,true,1⟩) (hU:Hc[u]?=some ⟨tuC,true,true,true,1⟩) (hK:Hc[kid]?=some ⟨ns .u64 Km,true,true,true,1⟩) (hq:Hc[q]?=some ⟨ns .u64 w,true,true,true,1⟩) (hvo:Hc[vid]?=some ⟨ns .u64 s,true,x1,x2,1⟩) (hw:w.length=80) (hs:s.length=8) (hx:∀ x∈s,x<18446744073709551616) (hi:i<80) :
  Q2 T B YK (rvI B tid L kid sv u at_ q vid i Hc [])=some (.normal,rvI B tid L kid sv u at_ q Hc.length ((i+1:Nat):Int) (Hc++[⟨ns .u64 (rnd s (Km.getD i 0) (w.getD i 0)),true,true,true,1⟩]) []):=by
 obtain ⟨a,b,c,d,e,f,g,h,rfl⟩:=eight hs
 obtain ⟨k,hk⟩:∃ k,Km[i]?=some k:=⟨_,Qf (by rw [Ue]; exact hi)⟩
 obtain ⟨v,hv⟩:∃ k,w[i]?=some k:=⟨_,Qf (by omega)⟩
 rw [JJ hk,JJ hv]
 have kc:=ZM (k := .u64) hk
 have vc:=ZM (k := .u64) hv
 have la:=hx a (by simp)
 have lb:=hx b (by simp)
 have lc:=hx c (by simp)
 have le:=hx e (by simp)
 have lf:=hx f (by simp)
 have lg:=hx g (by simp)
 have r14:QK T 143 [.int .u64 e,.int .i64 14,.int .i64 64]=some (.int .u64 (JN e 14:Nat)):=UF (r:=14) le (by decide) (by decide)
 have r18:QK T 143 [.int .u64 e,.int .i64 18,.int .i64 64]=some (.int .u64 (JN e 18:Nat)):=UF (r:=18) le (by decide) (by decide)
 have r41:QK T 143 [.int .u64 e,.int .i64 41,.int .i64 64]=some (.int .u64 (JN e 41:Nat)):=UF (r:=41) le (by decide) (by decide)
 have r28:QK T 143 [.int .u64 a,.int .i64 28,.int .i64 64]=some (.int .u64 (JN a 28:Nat)):=UF (r:=28) la (by decide) (by decide)
 have r34:QK T 143 [.int .u64 a,.int .i64 34,.int .i64 64]=some (.int .u64 (JN a 34:Nat)):=UF (r:=34) la (by decide) (by decide)
 have r39:QK T 143 [.int .u64 a,.int .i64 39,.int .i64 64]=some (.int .u64 (JN a 39:Nat)):=UF (r:=39) la (by decide) (by decide)
 have b14:=XI (r:=14) le (by decide) (by decide)
 have b18:=XI (r:=18) le (by decide) (by decide)
 have b41:=XI (r:=41) le (by decide) (by decide)
 have b28:=XI (r:=28) la (by decide) (by decide)
 have b34:=XI (r:=34) la (by decide) (by decide)
 have b39:=XI (r:=39) la (by decide) (by decide)
 have x2:QK T 142 [.int .u64 (JN e 14:Nat),.int .u64 (JN e 18:Nat),.int .u64 (JN e 41:Nat)]=some (.int .u64 (Sg1 e:Nat)):=U1 b14 b18 b41
 have x4:QK T 142 [.int .u64 (JN a 28:Nat),.int .u64 (JN a 34:Nat),.int .u64 (JN a 39:Nat)]=some (.int .u64 (Sg0 a:Nat)):=U1 b28 b34 b39
 have a1:=Wv le lf
 have lne:18446744073709551615-e<18446744073709551616:=by omega
 have a2:IntKind.u64.wrap (18446744073709551615-(e:Int))=((18446744073709551615-e:Nat):Int):=DR (a:=18446744073709551615) (by omega) (by decide)
 have kp1:=AN (18446744073709551615-e)
 have a3:=Wv lne lg
 have a4:Zp .or .u64 ((e&&&f:Nat):Int) (((18446744073709551615-e)&&&g:Nat):Int)=((chO e f g:Nat):Int):=by rw [XY rfl (Xr lf) (Xr lg),ch_or le]
 have a5:=Wv la lb
 have a6:=Wv la lc
 have a7:=Wv lb lc
 have a8:Zp .or .u64 ((a&&&b:Nat):Int) ((a&&&c:Nat):Int)=(((a&&&b)|||(a&&&c):Nat):Int):=XY rfl (Xr lb) (Xr lc)
 have a9:Zp .or .u64 (((a&&&b)|||(a&&&c):Nat):Int) ((b&&&c:Nat):Int)=((maO a b c:Nat):Int):=by rw [XY rfl (XL (n:=64) (Xr lb) (Xr lc)) (Xr lc),kS]
 have m1:=Wx h (Sg1 e)
 have m2:=Wx ((h+Sg1 e)%18446744073709551616) (chO e f g)
 have m3:=Wx (((h+Sg1 e)%18446744073709551616+chO e f g)%18446744073709551616) k
 have m4:=Wx ((((h+Sg1 e)%18446744073709551616+chO e f g)%18446744073709551616+k)%18446744073709551616) v
 have hT1:((((h+Sg1 e)%18446744073709551616+chO e f g)%18446744073709551616+k)%18446744073709551616+v)%18446744073709551616=t1O [a,b,c,d,e,f,g,h] k v:=by
  show _=(h+Sg1 e+chO e f g+k+v)%18446744073709551616
  omega
 rw [hT1] at m4
 have m5:IntKind.u64.wrap ((Sg0 a:Int)+(maO a b c:Int))=((t2O [a,b,c,d,e,f,g,h]:Nat):Int):=Wx (Sg0 a) (maO a b c)
 have m6:=Wx (t1O [a,b,c,d,e,f,g,h] k v) (t2O [a,b,c,d,e,f,g,h])
 have m7:=Wx d (t1O [a,b,c,d,e,f,g,h] k v)
 have hr:rnd [a,b,c,d,e,f,g,h] k v=[(t1O [a,b,c,d,e,f,g,h] k v+t2O [a,b,c,d,e,f,g,h])%18446744073709551616,a,b,c,(d+t1O [a,b,c,d,e,f,g,h] k v)%18446744073709551616,e,f,g]:=rfl
 have hf:=mI ((t1O [a,b,c,d,e,f,g,h] k v+t2O [a,b,c,d,e,f,g,h])%18446744073709551616) a b c ((d+t1O [a,b,c,d,e,f,g,h] k v)%18446744073709551616) e f g
 rw [←hr] at hf
 have kp2:=AN ((t1O [a,b,c,d,e,f,g,h] k v+t2O [a,b,c,d,e,f,g,h])%18446744073709551616)
 have kp3:=AN ((d+t1O [a,b,c,d,e,f,g,h] k v)%18446744073709551616)
 have lR:=SY [a,b,c,d,e,f,g,h] k v
 have e1:((i:Int)<80)=True:=eq_true (by omega)
 have w3:IntKind.i64.wrap ((i:Int)+1)=((i+1:Nat):Int):=Zx (b:=1) (by omega)
 have g0:(ns .u64 [a,b,c,d,e,f,g,h])[0]?=some (.int .u64 (a:Nat)):=rfl
 have g1:(ns .u64 [a,b,c,d,e,f,g,h])[1]?=some (.int .u64 (b:Nat)):=rfl
 have g2:(ns .u64 [a,b,c,d,e,f,g,h])[2]?=some (.int .u64 (c:Nat)):=rfl
 have g3:(ns .u64 [a,b,c,d,e,f,g,h])[3]?=some (.int .u64 (d:Nat)):=rfl
 have g4:(ns .u64 [a,b,c,d,e,f,g,h])[4]?=some (.int .u64 (e:Nat)):=rfl
 have g5:(ns .u64 [a,b,c,d,e,f,g,h])[5]?=some (.int .u64 (f:Nat)):=rfl
 have g6:(ns .u64 [a,b,c,d,e,f,g,h])[6]?=some (.int .u64 (g:Nat)):=rfl
 have g7:(ns .u64 [a,b,c,d,e,f,g,h])[7]?=some (.int .u64 (h:Nat)):=rfl
 have lS:(ns .u64 [a,b,c,d,e,f,g,h]).length=8:=rfl
 clear hT1 hr hk hv hs hx
 generalize rnd [a,b,c,d,e,f,g,h] k v=R at *
 generalize (t1O [a,b,c,d,e,f,g,h] k v+t2O [a,b,c,d,e,f,g,h])%18446744073709551616=z1 at *
 generalize (d+t1O [a,b,c,d,e,f,g,h] k v)%18446744073709551616=z2 at *
 generalize t1O [a,b,c,d,e,f,g,h] k v=t1 at *
 generalize t2O [a,b,c,d,e,f,g,h]=t2 at *
 generalize (((h+Sg1 e)%18446744073709551616+chO e f g)%18446744073709551616+k)%18446744073709551616=z3 at *
 generalize ((h+Sg1 e)%18446744073709551616+chO e f g)%18446744073709551616=z4 at *
 generalize (h+Sg1 e)%18446744073709551616=z5 at *
 generalize Sg1 e=se,Sg0 a=sa,chO e f g=cc,maO a b c=mm at *
 generalize (a&&&b)|||(a&&&c)=q1 at *
 generalize (18446744073709551615-e)&&&g=q2 at *
 generalize 18446744073709551615-e=q3 at *
 generalize e&&&f=q4 at *
 generalize a&&&b=q5 at *
 generalize a&&&c=q6 at *
 generalize b&&&c=q7 at *
 generalize JN e 14=p1,JN e 18=p2,JN e 41=p3,JN a 28=p4,JN a 34=p5,JN a 39=p6 at *
 have t6:tuC[6]?=some (.int .i64 28):=rfl
 have t7:tuC[7]?=some (.int .i64 34):=rfl
 have t8:tuC[8]?=some (.int .i64 39):=rfl
 have t9:tuC[9]?=some (.int .i64 14):=rfl
 have t10:tuC[10]?=some (.int .i64 18):=rfl
 have t11:tuC[11]?=some (.int .i64 41):=rfl
 have c1:=EU sh
 generalize hi1:i+1=i1 at *
 generalize tuC=tc at *
 generalize shC sh=sc at *
 generalize ns .u64 [a,b,c,d,e,f,g,h]=S at *
 generalize ns .u64 Km=KT at *
 simp only [rvI,rvE,YK,Qs,quiet,cW,↓pW,reduceCtorEq,seval,-Qb,hS,hU,hK,hq,hvo,c1,t6,t7,t8,t9,t10,t11,e1,vc,kc,r14,r18,r41,r28,r34,r39,x2,x4,a1,a2,a3,a4,a5,a6,a7,a8,a9,m1,m2,m3,m4,m5,m6,m7,kp1,kp2,kp3,hf,w3,hi1,g0,g1,g2,g3,g4,g5,g6,g7]
end Go.Ev.YtpgphpkjlpkcbaaGreat
namespace Go.Ev.YtpgphpkjlpkcbaaGreat
open Go Go.Ev
attribute [local congr] JC JV JB JW Jz
set_option maxRecDepth 100000
variable {x i B sid tid a kid u w at_ id r L vid N off cap j k y z:Nat} {s b bs st v:List Nat} {x3 x1 x2 x4:Bool} {H H0 Hc:List Ob} {sh:Value}
theorem hJ {q:Nat} {sv:Value} {w:List Nat} (hS:H0[B]?=some ⟨shC sh,true,true,true,1⟩) (hU:H0[u]?=some ⟨tuC,true,true,true,1⟩) (hK:H0[kid]?=some ⟨ns .u64 Km,true,true,true,1⟩) (hq:H0[q]?=some ⟨ns .u64 w,true,true,true,1⟩) (hvo:H0[vid]?=some ⟨ns .u64 s,true,x1,x2,1⟩) (hw:w.length=80) (hs:s.length=8) (hx:∀ x∈s,x<18446744073709551616) :
  ∃ vid' l y1 y2,Q2 T B (.block 10 (.loop YK)) (rvI B tid L kid sv u at_ q vid 0 H0 [])=some (.normal,rvI B tid L kid sv u at_ q vid' 80 (H0++l) [(211,.bool false)])∧(H0++l)[vid']?=some ⟨ns .u64 (Gt 80 w s),true,y1,y2,1⟩∧(vid'=vid∨H0.length≤vid'):=by
 obtain ⟨st,hb,vid',l,y1,y2,rfl,h1,h2⟩:=Zi (T:=T) (base:=B) (id:=10) (body:=YK)
  (fun j st=>∃ vid' l y1 y2,st=rvI B tid L kid sv u at_ q vid' j (H0++l) []∧(H0++l)[vid']?=some ⟨ns .u64 (Gt j w s),true,y1,y2,1⟩∧(vid'=vid∨H0.length≤vid'))
  (Q:=fun st=>∃ vid' l y1 y2,st=rvI B tid L kid sv u at_ q vid' 80 (H0++l) [(211,.bool false)]∧(H0++l)[vid']?=some ⟨ns .u64 (Gt 80 w s),true,y1,y2,1⟩∧(vid'=vid∨H0.length≤vid'))
  80 (s:=rvI B tid L kid sv u at_ q vid 0 H0 []) ⟨vid,[],x1,x2,by rw [QF]; rfl,by rw [QF]; exact hvo,.inl rfl⟩
  (fun j st hj hst=>by
   obtain ⟨vid',l,y1,y2,rfl,h1,h2⟩:=hst
   have up:∀ {i:Nat} {o:Ob},H0[i]?=some o→(H0++l)[i]?=some o:=fun {i o} h=>by rw [Qc (Qg.1 h).1]; exact h
   refine ⟨_,oO (up hS) (up hU) (up hK) (up hq) h1 hw (Bj hs w j) (Is hs hx w j) hj,(H0++l).length,l++[⟨ns .u64 (rnd (Gt j w s) (Km.getD j 0) (w.getD j 0)),true,true,true,1⟩],true,true,by rw [←Qt],?_,.inr (by simp)⟩
   rw [←Qt,Qh (Qr _),Q4]; rfl)
  (fun st hst=>by
   obtain ⟨vid',l,y1,y2,rfl,h1,h2⟩:=hst
   refine ⟨_,?_,vid',l,y1,y2,rfl,h1,h2⟩
   have gS:(H0++l)[B]?=some ⟨shC sh,true,true,true,1⟩:=by rw [Qc (Qg.1 hS).1]; exact hS
   have c1:=EU sh
   generalize shC sh=sc at *
   generalize H0++l=Hc at *
   simp only [rvI,rvE,YK,Qs,quiet,cW,↓pW,reduceCtorEq,seval,-Qb,gS,c1])
 exact ⟨vid',l,y1,y2,hb,h1,h2⟩
def rsI (B tid L kid sid u at_ vid:Nat) (i:Nat) (Hc:List Ob) (ex:Env):St:=⟨[(3,.pointer (some ⟨B,0,none⟩)),(5,.int .i64 8),(6,.slice (some ⟨tid,0,none⟩) L L),(10,.slice (some ⟨kid,0,none⟩) 80 80),(11,.slice (some ⟨sid,0,none⟩) 8 8),(12,.int .i64 64),(13,.pointer (some ⟨u,0,none⟩)),(14,.int .i64 at_),(22,.slice (some ⟨vid,0,none⟩) 8 8),(29,.int .i64 i)]++ex,Hc,[]⟩
theorem oS {b:Nat} {D:List Nat} (hB:B≤sid) (hsl:sid<Hc.length) (hne:vid≠sid) (hvo:Hc[vid]?=some ⟨ns .u64 v,true,x1,x2,1⟩) (lD:D.length=8) (hi:i<8) (ha:D[i]?=some a) (hb:v[i]?=some b) :
  Q2 T B YL (rsI B tid L kid sid u at_ vid i (Hc.set sid ⟨ns .u64 D,true,true,x3,1⟩) [])=some (.normal,rsI B tid L kid sid u at_ vid (i+1) (Hc.set sid ⟨ns .u64 (D.set i ((a+b)%18446744073709551616)),true,true,x3,1⟩) []):=by
 have e1:((i:Int)<8)=True:=eq_true (by omega)
 have w3:IntKind.i64.wrap ((i:Int)+1)=((i+1:Nat):Int):=Zx (b:=1) (by omega)
 have m1:=Wx a b
 have kp:=AN ((a+b)%18446744073709551616)
 have ga:=ZM (k := .u64) ha
 have gb:=ZM (k := .u64) hb
 have g1:(Hc.set sid ⟨ns .u64 D,true,true,x3,1⟩)[sid]?=some ⟨ns .u64 D,true,true,x3,1⟩:=Qx hsl
 have g2:(Hc.set sid ⟨ns .u64 D,true,true,x3,1⟩)[vid]?=some ⟨ns .u64 v,true,x1,x2,1⟩:=by rw [Qu (fun h=>hne h.symm)]; exact hvo
 have hset:=X8 .u64 D i ((a+b)%18446744073709551616)
 have hss:∀ o,(Hc.set sid ⟨ns .u64 D,true,true,x3,1⟩).set sid o=Hc.set sid o:=fun o=>by rw [VU]
 have hle:i+1≤(ns .u64 D).length:=by rw [Q9,lD]; omega
 have im:Q1 B [] [sid]=[]:=QD (by simp; omega)
 generalize (a+b)%18446744073709551616=z at *
 generalize Hc.set sid ⟨ns .u64 D,true,true,x3,1⟩=G at *
 generalize hi1:i+1=i1 at *
 simp only [rsI,YL,Qs,quiet,cW,↓pW,reduceCtorEq,seval,-Qb,e1,w3,m1,kp,ga,gb,g1,g2,hset,hss,hi1,hle,im]
theorem ie (hB:B≤sid) (hso:Hc[sid]?=some ⟨ns .u64 s,true,true,x3,1⟩) (hne:vid≠sid) (hvo:Hc[vid]?=some ⟨ns .u64 v,true,x1,x2,1⟩) (lS:s.length=8) (lV:v.length=8) :
  Q2 T B (.block 12 (.loop YL)) (rsI B tid L kid sid u at_ vid 0 Hc [])=some (.normal,rsI B tid L kid sid u at_ vid 8 (Hc.set sid ⟨ns .u64 (JL (fun x y=>(x+y)%18446744073709551616) s v),true,true,x3,1⟩) [(358,.bool false)]):=by
 have hsl:=(Qg.1 hso).1
 obtain ⟨st,hb,D,rfl,lD,hD⟩:=Zi (T:=T) (base:=B) (id:=12) (body:=YL)
  (fun j st=>∃ D,st=rsI B tid L kid sid u at_ vid j (Hc.set sid ⟨ns .u64 D,true,true,x3,1⟩) []∧D.length=8∧∀ k,k<8→D[k]?=if k<j then (JL (fun x y=>(x+y)%18446744073709551616) s v)[k]? else s[k]?)
  (Q:=fun st=>∃ D,st=rsI B tid L kid sid u at_ vid 8 (Hc.set sid ⟨ns .u64 D,true,true,x3,1⟩) [(358,.bool false)]∧D.length=8∧∀ k,k<8→D[k]?=(JL (fun x y=>(x+y)%18446744073709551616) s v)[k]?)
  8 (s:=rsI B tid L kid sid u at_ vid 0 Hc []) ⟨s,by rw [YV hso],lS,fun k hk=>by rw [if_neg (Yd _)]⟩
  (fun j st hj hs=>by
   obtain ⟨D,rfl,lD,hD⟩:=hs
   obtain ⟨a,ha⟩:∃ a,s[j]?=some a:=⟨_,Qf (by omega)⟩
   obtain ⟨b,hb⟩:∃ a,v[j]?=some a:=⟨_,Qf (by omega)⟩
   have hDj:D[j]?=some a:=by rw [hD j hj,if_neg (YX _)]; exact ha
   refine ⟨_,oS hB hsl hne hvo lD hj hDj hb,_,rfl,by rw [Q3]; exact lD,fun k hk => ?_⟩
   by_cases h:j=k
   ·subst h
    rw [Qx (by omega),if_pos (DN _),KE,ha,hb]
   ·rw [Qu h,hD k hk]
    by_cases h2:k<j
    ·rw [if_pos h2,if_pos (by omega)]
    ·rw [if_neg h2,if_neg (by omega)])
  (fun st hs=>by
   obtain ⟨D,rfl,lD,hD⟩:=hs
   refine ⟨_,?_,D,rfl,lD,fun k hk=>by rw [hD k hk,if_pos hk]⟩
   generalize Hc.set sid ⟨ns .u64 D,true,true,x3,1⟩=G
   simp only [rsI,YL,Qs,quiet,cW,↓pW,reduceCtorEq,seval,-Qb])
 have:D=JL (fun x y=>(x+y)%18446744073709551616) s v:=Ju fun k=>by
  by_cases h:k<8
  ·exact hD k h
  ·rw [QN (by omega),QN (by rw [Vp]; omega)]
 rw [←this]
 exact hb
theorem sr (hso:H[sid]?=some ⟨ns .u64 s,true,true,x3,1⟩) (ls:s.length=8) :
  Jo 1 8 (H++[⟨[],true,true,true,1⟩]) (.slice (some ⟨H.length,0,none⟩) 0 0) (.slice (some ⟨sid,0,none⟩) 8 8)=some (.slice (some ⟨H.length+1,0,none⟩) 8 8,H++[⟨[],true,true,true,1⟩,Ob.grown 1 (ns .u64 s)],none,[]):=by
 have h1:liveAt (H++[⟨[],true,true,true,1⟩]) sid=some ⟨ns .u64 s,true,true,x3,1⟩:=Kz (Zv hso rfl)
 have h2:liveAt (H++[⟨[],true,true,true,1⟩]) H.length=some ⟨[],true,true,true,1⟩:=Bp
 have h3:elemsOf (H++[⟨[],true,true,true,1⟩]) 1 8 (.slice (some ⟨sid,0,none⟩) 8 8)=some (ns .u64 s):=by
  have:Zh 8 (ns .u64 s)=ns .u64 s:=Qm (by rw [Q9]; omega)
  simp [elemsOf,h1,Q9,ls,this]
 have h4:elemsOf (H++[⟨[],true,true,true,1⟩]) 1 0 (.slice (some ⟨H.length,0,none⟩) 0 0)=some []:=by simp [elemsOf,h2]
 have k1:Go.Ev.lenV (.slice (some ⟨sid,0,none⟩) 8 8)=some 8:=rfl
 simp only [Jo,k1,h2,h3,h4,Qo]
 rw [if_neg (by decide),if_neg (by decide)]
 simp
def reI (B tid L kid sid u:Nat) (at_:Nat) (Hc:List Ob) (ex:Env):St:=⟨[(3,.pointer (some ⟨B,0,none⟩)),(5,.int .i64 8),(6,.slice (some ⟨tid,0,none⟩) L L),(10,.slice (some ⟨kid,0,none⟩) 80 80),(11,.slice (some ⟨sid,0,none⟩) 8 8),(12,.int .i64 64),(13,.pointer (some ⟨u,0,none⟩)),(14,.int .i64 at_)]++ex,Hc,[]⟩
theorem ph {all:List Nat} (hBs:B<sid) (hS:Hc[B]?=some ⟨shC sh,true,true,true,1⟩) (hU:Hc[u]?=some ⟨tuC,true,true,true,1⟩) (hK:Hc[kid]?=some ⟨ns .u64 Km,true,true,true,1⟩) (ht:Hc[tid]?=some ⟨u8s all,true,true,x4,1⟩) (hso:Hc[sid]?=some ⟨ns .u64 s,true,true,x3,1⟩) (hs:s.length=8) (hsx:∀ x∈s,x<18446744073709551616)
 (hL:all.length<2^50) (hb:∀ j,j<128→all[at_+j]?=b[j]?) (hbl:b.length=128) (hx:∀ y∈b,y<256) (hat:at_+128≤all.length) :
    ∃ H',Q2 T B YJ (reI B tid all.length kid sid u at_ Hc [])=some (.normal,reI B tid all.length kid sid u (at_+128) H' [])∧H'[sid]?=some ⟨ns .u64 (blk s b),true,true,x3,1⟩∧Hc.length≤H'.length∧∀ i,i<Hc.length→i≠sid→H'[i]?=Hc[i]? := by
  have hsl:=(Qg.1 hso).1
  have hBl:B<Hc.length:=by omega
  have h5:=iK (tb := .slice (some ⟨kid,0,none⟩) 80 80) (sv := .slice (some ⟨sid,0,none⟩) 8 8) hBl hS hU ht hL hb hbl hx hat
  obtain ⟨H5,hH5⟩:∃ X,X=Hc++[(⟨ns .u64 (JP b),true,true,true,1⟩:Ob)]:=⟨_,rfl⟩
  have l5:H5.length=Hc.length+1:=by rw [hH5]; simp
  have up5:∀ {i:Nat} {o:Ob},Hc[i]?=some o→H5[i]?=some o:=fun {i o} h=>by rw [hH5,Qc (Qg.1 h).1]; exact h
  have hq5:H5[Hc.length]?=some ⟨ns .u64 (JP b),true,true,true,1⟩:=by rw [hH5,Qh (Qr _),Q4]; rfl
  have hap:=sr (up5 hso) hs
  obtain ⟨H7,hH7⟩:∃ X,X=H5++[(⟨[],true,true,true,1⟩:Ob),Ob.grown 1 (ns .u64 s)]:=⟨_,rfl⟩
  have l7:H7.length=H5.length+2:=by rw [hH7]; simp
  have up7:∀ {i:Nat} {o:Ob},H5[i]?=some o→H7[i]?=some o:=fun {i o} h=>by rw [hH7,Qc (Qg.1 h).1]; exact h
  have hv7:H7[H5.length+1]?=some ⟨ns .u64 s,true,true,false,1⟩:=by rw [hH7,Qh (by omega),Q0]; rfl
  obtain ⟨vid',l,y1,y2,h3,hvo,hvid⟩:=hJ (L:=all.length) (tid:=tid) (sv := .slice (some ⟨sid,0,none⟩) 8 8) (at_:=at_) (up7 (up5 hS)) (up7 (up5 hU)) (up7 (up5 hK)) (up7 hq5) hv7 (Y7 b) hs hsx
  obtain ⟨H8,hH8⟩:∃ X,X=H7++l:=⟨_,rfl⟩
  have l8:H7.length≤H8.length:=by rw [hH8]; simp
  have up8:∀ {i:Nat} {o:Ob},H7[i]?=some o→H8[i]?=some o:=fun {i o} h=>by rw [hH8,Qc (Qg.1 h).1]; exact h
  rw [←hH8] at h3 hvo
  have hne:vid'≠sid:=by omega
  have h2:=ie (tid:=tid) (L:=all.length) (kid:=kid) (u:=u) (at_:=at_) (Js hBs) (up8 (up7 (up5 hso))) hne hvo hs (Bj hs _ 80)
  rw [show JL (fun x y=>(x+y)%18446744073709551616) s (Gt 80 (JP b) s)=blk s b from rfl] at h2
  obtain ⟨H9,hH9⟩:∃ X,X=H8.set sid ⟨ns .u64 (blk s b),true,true,x3,1⟩:=⟨_,rfl⟩
  rw [←hH9] at h2
  refine ⟨H9,?_,by rw [hH9,Qx (by omega)],by rw [hH9,Q3]; omega,fun i hi hne => ?_⟩
  · have gS9:H9[B]?=some ⟨shC sh,true,true,true,1⟩:=by rw [hH9,Qu (by omega)]; exact up8 (up7 (up5 hS))
    have e1:((at_:Int)<((all.length:Nat):Int))=True:=eq_true (by omega)
    have w1:IntKind.i64.wrap ((at_:Int)+128)=((at_+128:Nat):Int):=Zx (b:=128) (by omega)
    have c1:=EU sh
    have c2:=sQ sh
    have hz80:(Qa 80 [Value.int .u64 0]).flatten=ns .u64 (Qa 80 0):=rfl
    have f0:fillL ([]:List Value) []=some []:=rfl
    have im1:Q1 B [] [H5.length]=[]:=QD (by simp; omega)
    simp only [rhI,rhE,rvI,rvE,rsI,Qn,Ql,QB,←hH5] at h5 h3 h2
    rw [←hH7] at hap
    clear hH5 hH7 hH8 hH9 up5 up7 up8 hv7 hq5 hvo hb hx hso
    generalize shC sh=sc,ns .u64 (Qa 80 0)=Z80 at *
    generalize all.length=LL at *
    generalize hat2:at_+128=at2 at *
    simp only [reI,YJ,Qs,quiet,cW,↓pW,reduceCtorEq,seval,-Qb,hS,c1,e1,hz80,h5,f0,hap,im1,h3,h2,gS9,c2,w1]
  · rw [hH9,Qu (fun h=>hne h.symm)]
    have hi':=Qf hi
    rw [hi']
    exact up8 (up7 (up5 hi'))
theorem iC {m:Nat} {all:List Nat} (hBs:B<sid) (hus:u≠sid) (hks:kid≠sid) (hts:tid≠sid) (hS:H0[B]?=some ⟨shC sh,true,true,true,1⟩) (hU:H0[u]?=some ⟨tuC,true,true,true,1⟩) (hK:H0[kid]?=some ⟨ns .u64 Km,true,true,true,1⟩) (ht:H0[tid]?=some ⟨u8s all,true,true,x4,1⟩) (hso:H0[sid]?=some ⟨ns .u64 YR,true,true,x3,1⟩)
 (hL:all.length<2^50) (hx:∀ y∈all,y<256) (hm:all.length=128*m) :
    ∃ H',Q2 T B (.block 4 (.loop YJ)) (reI B tid all.length kid sid u 0 H0 [])=some (.normal,reI B tid all.length kid sid u all.length H' [(102,.bool false)])∧H'[sid]?=some ⟨ns .u64 (stK m all),true,true,x3,1⟩∧H0.length≤H'.length∧∀ i,i<H0.length→i≠sid→H'[i]?=H0[i]? := by
  obtain ⟨st,hb,H',rfl,h1,h2,h3⟩:=Zi (T:=T) (base:=B) (id:=4) (body:=YJ)
    (fun j st=>∃ H',st=reI B tid all.length kid sid u (128*j) H' []∧H'[sid]?=some ⟨ns .u64 (stK j all),true,true,x3,1⟩∧H0.length≤H'.length∧∀ i,i<H0.length→i≠sid→H'[i]?=H0[i]?)
    (Q:=fun st=>∃ H',st=reI B tid all.length kid sid u all.length H' [(102,.bool false)]∧H'[sid]?=some ⟨ns .u64 (stK m all),true,true,x3,1⟩∧H0.length≤H'.length∧∀ i,i<H0.length→i≠sid→H'[i]?=H0[i]?)
    m (s:=reI B tid all.length kid sid u 0 H0 []) ⟨H0,rfl,hso,Qr _,fun _ _ _=>rfl⟩
    (fun j st hj hs=>by
      obtain ⟨H',rfl,h1,h2,h3⟩:=hs
      have up:∀ {i:Nat} {o:Ob},H0[i]?=some o→i≠sid→H'[i]?=some o:=fun {i o} h hne=>(h3 i (Qg.1 h).1 hne).trans h
      have hat:128*j+128≤all.length:=by omega
      obtain ⟨H9,k1,k2,k3,k4⟩:=ph (at_:=128*j) (b:=(all.drop (128*j)).take 128) hBs (up hS (by omega)) (up hU hus) (up hK hks) (up ht hts) h1 (Hs all j) (Il all j) hL (fun i hi=>by rw [QX,if_pos hi,Zm]) (by rw [Q6,QP]; omega) (fun y hy=>hx y (ZD (QU hy))) hat
      exact ⟨_,k1,H9,rfl,k2,by omega,fun i hi hne=>(k4 i (by omega) hne).trans (h3 i hi hne)⟩)
    (fun st hs=>by
      obtain ⟨H',rfl,h1,h2,h3⟩:=hs
      rw [←hm]
      refine ⟨_,?_,H',rfl,h1,h2,h3⟩
      have e1:((all.length:Int)<((all.length:Nat):Int))=False:=eq_false (by omega)
      generalize all.length=LL at *
      simp only [reI,YJ,Qs,quiet,cW,↓pW,reduceCtorEq,seval,-Qb,e1])
  exact ⟨H',hb,h1,h2,h3⟩
def roI (sid:Nat) (s:Value) (i c:Int) (Hc:List Ob) (ex:Env):St:=⟨[(5,.int .i64 8),(11,.slice (some ⟨sid,0,none⟩) 8 8),(30,s),(31,.int .i64 i),(32,.int .i64 c)]++ex,Hc,[]⟩
theorem oW {c:Nat} {s:Value} (hBN:B≤N) (hsN:sid<N) (hso:Hc[sid]?=some ⟨ns .u64 st,true,true,x3,1⟩) (hg:Grown .u8 N Hc s bs) (hL:N≤Hc.length) (hbs:bs.length<100) (hi:i<8) (hc:c<8) (hw:st[i]?=some w) (hw':w<18446744073709551616) :
  ∃ s' H',Q2 T B YM (roI sid s i c Hc [])=some (.normal,roI sid s' i ((c:Int)-1) H' [])∧Grown .u8 N H' s' (bs++[w/256^c%256])∧N≤H'.length∧∀ k,k<N→H'[k]?=Hc[k]? := by
 obtain ⟨s',H',M,h1,h2,h3,h4,h5⟩:=Wi (x:=w/256^c%256) (bytes:=1) hg hL (by omega) (by decide)
 refine ⟨s',H',?_,h2,h4,h5⟩
 have hm:Q1 B [] M=[]:=QD fun i hi=>by have:=h3 i hi; omega
 have hp:=WY (n:=8*c) (by omega)
 have e8:(2:Nat)^(8*c)=256^c:=by rw [Ja]
 rw [e8] at hp
 have h0:0<256^c:=JM (by decide)
 have hz:(((256^c:Nat):Int)=0)=False:=eq_false (by omega)
 have hd:IntKind.u64.wrap ((w:Int).tdiv ((256^c:Nat):Int))=((w/256^c:Nat):Int):=Kn (ZX (Jq _ _) hw')
 have hr:((w/256^c:Nat):Int).tmod 256=((w/256^c%256:Nat):Int):=rfl
 have w1:IntKind.i64.wrap (8*(c:Int))=((8*c:Nat):Int):=ZT (n:=8*c) (by omega)
 have w2:IntKind.u8.wrap ((w/256^c%256:Nat):Int)=((w/256^c%256:Nat):Int):=TZ (Q5 _ (by decide))
 have w3:IntKind.i64.wrap ((c:Int)-1)=(c:Int)-1:=Zf (by omega) (by omega)
 have e1:(0≤(c:Int))=True:=eq_true (by omega)
 have e2:((i:Int)<8)=True:=eq_true (by omega)
 have gw:=ZM (k := .u64) hw
 have f0:fillL [Value.int .u8 0] [(0,1,.int .u8 ((w/256^c%256:Nat):Int))]=some [.int .u8 ((w/256^c%256:Nat):Int)]:=rfl
 generalize w/256^c%256=r at *
 generalize w/256^c=d at *
 generalize 256^c=p at *
 generalize 8*c=c8 at *
 simp only [roI,YM,Qs,quiet,cW,↓pW,reduceCtorEq,seval,-Qb,e1,e2,w1,w2,w3,hp,hz,hd,hr,hso,gw,f0,h1,hm]
def Dc (st:List Nat):List Nat:=(Z9 64).map fun i=>st.getD (i/8) 0/256^(7-i%8)%256
theorem jR (st:List Nat):(Dc st).length=64:=by simp [Dc]
theorem ka (hi:i<8) (hj:j<8) (hw:st[i]?=some w):(Dc st)[8*i+j]?=some (w/256^(7-j)%256):=by
 have h1:(8*i+j)/8=i:=by omega
 have h2:(8*i+j)%8=j:=by omega
 have h3:8*i+j<64:=by omega
 simp only [Dc,J6,Vq h3,Yb,h1,h2,JJ hw]
theorem ir {s0:Value} (hBN:B≤N) (hsN:sid<N) (hso:H0[sid]?=some ⟨ns .u64 st,true,true,x3,1⟩) (hg0:Grown .u8 N H0 s0 ((Dc st).take (8*i))) (hL0:N≤H0.length) (hi:i<8) (hw:st[i]?=some w) (hw':w<18446744073709551616) :
  ∃ s' H',Q2 T B (.block 16 (.loop YM)) (roI sid s0 i 7 H0 [])=some (.normal,roI sid s' i (-1) H' [(382,.bool false)])∧Grown .u8 N H' s' ((Dc st).take (8*(i+1)))∧N≤H'.length∧∀ k,k<N→H'[k]?=H0[k]? := by
 obtain ⟨x,hb,s',H',rfl,h1,h2,h3⟩:=Zi (T:=T) (base:=B) (id:=16) (body:=YM)
  (fun j x=>∃ s' H',x=roI sid s' i ((7:Int)-(j:Nat)) H' []∧Grown .u8 N H' s' ((Dc st).take (8*i+j))∧N≤H'.length∧∀ k,k<N→H'[k]?=H0[k]?)
  (Q:=fun x=>∃ s' H',x=roI sid s' i (-1) H' [(382,.bool false)]∧Grown .u8 N H' s' ((Dc st).take (8*i+8))∧N≤H'.length∧∀ k,k<N→H'[k]?=H0[k]?)
  8 (s:=roI sid s0 i 7 H0 []) ⟨s0,H0,rfl,hg0,hL0,fun _ _=>rfl⟩
  (fun j x hj hx=>by
   obtain ⟨s',H',rfl,h1,h2,h3⟩:=hx
   have e:((7:Int)-(j:Nat))=((7-j:Nat):Int):=by omega
   obtain ⟨s2,H2,k1,k2,k3,k4⟩:=oW (c:=7-j) hBN hsN ((h3 sid hsN).trans hso) h1 h2 (by rw [Q6]; omega) hi (by omega) hw hw'
   have hget:=ka hi hj hw
   rw [show (Dc st).take (8*i)=(Dc st).take (8*i) from rfl] at hg0
   have ht:(Dc st).take (8*i+(j+1))=(Dc st).take (8*i+j)++[w/256^(7-j)%256]:=by
    rw [←Zu,Zw,hget]; rfl
   rw [←e] at k1
   exact ⟨_,k1,s2,H2,by rw [show (7:Int)-(j:Nat)-1=(7:Int)-((j+1:Nat):Int) by omega],by rw [ht]; exact k2,k3,fun k hk=>(k4 k hk).trans (h3 k hk)⟩)
  (fun x hx=>by
   obtain ⟨s',H',rfl,h1,h2,h3⟩:=hx
   refine ⟨_,?_,s',H',rfl,h1,h2,h3⟩
   simp only [roI,YM,Qs,quiet,cW,↓pW,reduceCtorEq,seval,-Qb])
 exact ⟨s',H',hb,h1,h2,h3⟩
def It (sid:Nat) (s:Value) (i:Int) (Hc:List Ob) (ex:Env):St:=⟨[(5,.int .i64 8),(11,.slice (some ⟨sid,0,none⟩) 8 8),(30,s),(31,.int .i64 i)]++ex,Hc,[]⟩
theorem ix (hBN:B≤N) (hsN:sid<N) (hso:H0[sid]?=some ⟨ns .u64 st,true,true,x3,1⟩) (hL0:N≤H0.length) (ls:st.length=8) (xs:∀ w∈st,w<18446744073709551616) :
  ∃ s' H',Q2 T B (.block 14 (.loop WA)) (It sid (.slice none 0 0) 0 H0 [])=some (.normal,It sid s' 8 H' [(376,.bool false)])∧Grown .u8 N H' s' (Dc st)∧N≤H'.length∧∀ k,k<N→H'[k]?=H0[k]? := by
 obtain ⟨x,hb,s',H',rfl,h1,h2,h3⟩:=Zi (T:=T) (base:=B) (id:=14) (body:=WA)
  (fun j x=>∃ s' H',x=It sid s' j H' []∧Grown .u8 N H' s' ((Dc st).take (8*j))∧N≤H'.length∧∀ k,k<N→H'[k]?=H0[k]?)
  (Q:=fun x=>∃ s' H',x=It sid s' 8 H' [(376,.bool false)]∧Grown .u8 N H' s' (Dc st)∧N≤H'.length∧∀ k,k<N→H'[k]?=H0[k]?)
  8 (s:=It sid (.slice none 0 0) 0 H0 []) ⟨_,_,rfl,.nil,hL0,fun _ _=>rfl⟩
  (fun j x hj hx=>by
   obtain ⟨s',H',rfl,h1,h2,h3⟩:=hx
   obtain ⟨w,hw⟩:∃ w,st[j]?=some w:=⟨_,Qf (by omega)⟩
   obtain ⟨s2,H2,k1,k2,k3,k4⟩:=ir hBN hsN ((h3 sid hsN).trans hso) h1 h2 hj hw (xs w (Qp hw))
   refine ⟨It sid s2 ((j+1:Nat):Int) H2 [],?_,s2,H2,rfl,k2,k3,fun k hk=>(k4 k hk).trans (h3 k hk)⟩
   have e1:((j:Int)<8)=True:=eq_true (by omega)
   have w3:IntKind.i64.wrap ((j:Int)+1)=((j+1:Nat):Int):=Zx (b:=1) (by omega)
   simp only [roI,Qn,Ql] at k1
   generalize hj1:j+1=j1 at *
   simp only [It,WA,Qs,quiet,cW,↓pW,reduceCtorEq,seval,-Qb,e1,k1,w3,hj1])
  (fun x hx=>by
   obtain ⟨s',H',rfl,h1,h2,h3⟩:=hx
   rw [Qm (by rw [jR]; decide)] at h1
   refine ⟨_,?_,s',H',rfl,h1,h2,h3⟩
   simp only [It,WA,Qs,quiet,cW,↓pW,reduceCtorEq,seval,-Qb])
 exact ⟨s',H',hb,h1,h2,h3⟩
theorem bI (xb:∀ y∈bs,y<256):((⟨(bs.map UInt8.ofNat).toArray⟩:ByteArray).data.toList.map fun b=>Value.int .u8 b.toNat)=u8s bs:=by
 simp only [List.map_map,u8s]
 refine List.map_congr_left fun y hy => ?_
 have:=xb y hy
 simp [Function.comp,Qv this]
theorem Ik (xb:∀ y∈bs,y<256) (hb:bs.length≤2^47):ou id (Zn bs)=some (.slice (some ⟨id,0,none⟩) bs.length bs.length,⟨u8s bs,true,true,false,1⟩):=by
 unfold Zn
 rw [fJ,bI xb]
 have:(⟨(bs.map UInt8.ofNat).toArray⟩:ByteArray).size=bs.length:=by simp [ByteArray.size]
 rw [this,gate,if_pos hb]
theorem nJ {G:List Ob} (hb:bs.length<2^46) :
  Jo 1 1 (G++[⟨u8s bs,true,true,false,1⟩,⟨[.int .u8 128],true,true,true,1⟩]) (.slice (some ⟨G.length,0,none⟩) bs.length bs.length) (.slice (some ⟨G.length+1,0,none⟩) 1 1)=some (.slice (some ⟨G.length+2,0,none⟩) (bs.length+1) (bs.length+1),G++[Ob.dead,⟨[.int .u8 128],true,true,true,1⟩,Ob.grown 1 (u8s (bs++[128]))],none,[G.length]):=by
 have h1:liveAt (G++[⟨u8s bs,true,true,false,1⟩,⟨[.int .u8 128],true,true,true,1⟩]) (G.length+1)=some ⟨[.int .u8 128],true,true,true,1⟩:=NG
 have h2:liveAt (G++[⟨u8s bs,true,true,false,1⟩,⟨[.int .u8 128],true,true,true,1⟩]) G.length=some ⟨u8s bs,true,true,false,1⟩:=Bp
 have h3:elemsOf (G++[⟨u8s bs,true,true,false,1⟩,⟨[.int .u8 128],true,true,true,1⟩]) 1 1 (.slice (some ⟨G.length+1,0,none⟩) 1 1)=some [.int .u8 128]:=by simp [elemsOf,h1]
 have h4:elemsOf (G++[⟨u8s bs,true,true,false,1⟩,⟨[.int .u8 128],true,true,true,1⟩]) 1 bs.length (.slice (some ⟨G.length,0,none⟩) bs.length bs.length)=some (u8s bs):=by
  have:Zh bs.length (u8s bs)=u8s bs:=Qm (by rw [Qq]; exact Qr _)
  simp [elemsOf,h2,Qq,this]
 have k1:Go.Ev.lenV (.slice (some ⟨G.length+1,0,none⟩) 1 1)=some 1:=rfl
 have e1:¬ ((1:Nat)=0):=by decide
 have e2:(bs.length+1)*1≤2^47∧0<1∧0<1:=⟨by omega,by decide,by decide⟩
 have e3:¬ (bs.length+1≤bs.length):=by omega
 have hap:u8s (bs++[128])=u8s bs++[.int .u8 128]:=by simp [u8s]
 simp only [Jo,k1,h2,h3,h4,Qo,if_neg e1,e2,and_self,not_true_eq_false,if_false,if_neg e3,hap]
 simp
theorem Grown.ob {k:IntKind} {B:Nat} {H:List Ob} {s:Value} {bs:List Nat} (h:Grown k B H s bs) (h0:0<bs.length):∃ id x,s=.slice (some ⟨id,0,none⟩) bs.length bs.length∧B≤id∧H[id]?=some ⟨ns k bs,true,true,x,1⟩:=by
 cases h with
 | nil=>exact absurd h0 (by decide)
 | @own id _ h1 h2 h3=>exact ⟨id,false,rfl,h1,h3⟩
 | @new id _ h1 h2 h3=>exact ⟨id,true,rfl,h1,h3⟩
theorem Grown.weak {k:IntKind} {B N:Nat} {H:List Ob} {s:Value} {bs:List Nat} (h:Grown k N H s bs) (hB:B≤N):Grown k B H s bs:=by
 cases h with
 | nil=>exact .nil
 | own h1 h2 h3=>exact .own (by omega) h2 h3
 | new h1 h2 h3=>exact .new (by omega) h2 h3
theorem oR {hid:Nat} {xe:Bool} (xb:∀ y∈bs,y<256) (hb:bs.length<2^46) (hh:H[hid]?=some ⟨ns .u64 YR,true,true,xe,1⟩) :
  ∃ s l,Z5 T 86 [Zn bs,.agg (shC (.slice (some ⟨hid,0,none⟩) 8 8)).toArray] H=some (s,H++l,[])∧Grown .u8 H.length (H++l) s (sha bs):=by
 obtain ⟨sv,hsv⟩:∃ v,v=Value.slice (some ⟨hid,0,none⟩) 8 8:=⟨_,rfl⟩
 rw [←hsv]
 have hhl:=(Qg.1 hh).1
 have hok:Z7 (.agg (shC sv).toArray)=true:=by rw [hsv]; rfl
 obtain ⟨G1,hG1⟩:∃ X,X=H++[(⟨shC sv,true,true,true,1⟩:Ob)]:=⟨_,rfl⟩
 have l1:G1.length=H.length+1:=by rw [hG1]; simp
 have gB:G1[H.length]?=some ⟨shC sv,true,true,true,1⟩:=by rw [hG1,Qh (Qr _),Q4]; rfl
 have gh:G1[hid]?=some ⟨ns .u64 YR,true,true,xe,1⟩:=by rw [hG1,Qc hhl]; exact hh
 have h2b:=Ik (id:=G1.length) xb (by omega:bs.length≤2^47)
 have h80:=nJ (G:=G1) hb
 obtain ⟨H3,hH3⟩:∃ X,X=G1++[Ob.dead,(⟨[.int .u8 128],true,true,true,1⟩:Ob),Ob.grown 1 (u8s (bs++[128]))]:=⟨_,rfl⟩
 rw [←hH3] at h80
 have hg3:Grown .u8 (H.length+1) H3 (.slice (some ⟨G1.length+2,0,none⟩) (bs.length+1) (bs.length+1)) (bs++[128]):=by
  have:=Grown.own (k := .u8) (B:=H.length+1) (H:=H3) (id:=G1.length+2) (bs:=bs++[128]) (by omega) (by simp) (by rw [hH3,Qh (by omega),Q0]; rfl)
  rwa [Qk] at this
 have p3:∀ i,i<H.length+1→H3[i]?=G1[i]? := fun i hi=>by rw [hH3,Qc (by omega)]
 obtain ⟨s4,H4,h4,hg4,l4,p4⟩:=gY (B:=H.length) (N:=H.length+1) (x:=Zn bs) (by omega) gB hb hg3 (by rw [hH3]; simp; omega) p3
 have h7:=iF (B:=H.length) (n:=bs.length) (s:=s4) (Hm:=H4) (by omega) hb
 obtain ⟨H5,hH5⟩:∃ X,X=H4++[(⟨u8s ((Z9 16).map (Ua bs.length)),true,true,true,1⟩:Ob)]:=⟨_,rfl⟩
 have l5:H5.length=H4.length+1:=by rw [hH5]; simp
 have hg5:Grown .u8 (H.length+1) H5 s4 (bs++128::Qa (Vg bs.length) 0):=by rw [hH5]; exact hg4.app
 have lc:((Z9 16).map (Ua bs.length)).length=16:=by simp
 have he5:elemsOf H5 1 ((Z9 16).map (Ua bs.length)).length (.slice (some ⟨H4.length,0,none⟩) 16 16)=some (ns .u8 ((Z9 16).map (Ua bs.length))):=by
  rw [lc,hH5]
  have:Zh 16 (u8s ((Z9 16).map (Ua bs.length)))=ns .u8 ((Z9 16).map (Ua bs.length)):=Qm (by rw [Qq,lc]; exact Qr _)
  simp [elemsOf,Bp,Qq,this]
 have hz:=Me bs.length
 obtain ⟨s6,H6,M6,ha6,hg6,hM6,l6,p6⟩:=hg5.append (bytes:=1) (x := .slice (some ⟨H4.length,0,none⟩) 16 16) (by omega) (by rw [lc]; rfl) he5 (by rw [lc]; simp; omega) (by decide)
 have hall:bs++128::Qa (Vg bs.length) 0++(Z9 16).map (Ua bs.length)=bs++UN bs.length:=by rw [aB,Qt]
 rw [hall] at hg6
 have lall:(bs++UN bs.length).length=bs.length+(17+Vg bs.length):=by rw [Qk,Mg]
 obtain ⟨tid,x4,rfl,htid,htx⟩:=Grown.ob hg6 (by omega)
 have q6:∀ i,i<H.length+1→H6[i]?=G1[i]? := fun i hi=>by rw [p6 i hi,hH5,Qc (by omega)]; exact p4 i hi
 have htb:=EV H6
 obtain ⟨H7,hH7⟩:∃ X,X=H6++[(⟨ns .u64 Km,true,true,true,1⟩:Ob)]:=⟨_,rfl⟩
 have l7:H7.length=H6.length+1:=by rw [hH7]; simp
 have u7:∀ {i:Nat} {o:Ob},H6[i]?=some o→H7[i]?=some o:=fun {i o} h=>by rw [hH7,Qc (Qg.1 h).1]; exact h
 have k7:H7[H6.length]?=some ⟨ns .u64 Km,true,true,true,1⟩:=by rw [hH7,Qh (Qr _),Q4]; rfl
 have hap:=sr (u7 ((q6 hid (by omega)).trans gh)) bM
 obtain ⟨H8,hH8⟩:∃ X,X=H7++[(⟨[],true,true,true,1⟩:Ob),Ob.grown 1 (ns .u64 YR)]:=⟨_,rfl⟩
 have l8:H8.length=H7.length+2:=by rw [hH8]; simp
 have u8':∀ {i:Nat} {o:Ob},H7[i]?=some o→H8[i]?=some o:=fun {i o} h=>by rw [hH8,Qc (Qg.1 h).1]; exact h
 have k8:H8[H7.length+1]?=some ⟨ns .u64 YR,true,true,false,1⟩:=by rw [hH8,Qh (by omega),Q0]; rfl
 rw [←hH8] at hap
 obtain ⟨H9,hH9⟩:∃ X,X=H8++[(⟨tuC,true,true,true,1⟩:Ob)]:=⟨_,rfl⟩
 have l9:H9.length=H8.length+1:=by rw [hH9]; simp
 have u9:∀ {i:Nat} {o:Ob},H8[i]?=some o→H9[i]?=some o:=fun {i o} h=>by rw [hH9,Qc (Qg.1 h).1]; exact h
 have k9:H9[H8.length]?=some ⟨tuC,true,true,true,1⟩:=by rw [hH9,Qh (Qr _),Q4]; rfl
 have htl:=(Qg.1 htx).1
 have xall:∀ y∈bs++UN bs.length,y<256:=fun y hy=>(QE.1 hy).elim (xb y) (aA _ y)
 have hm:(bs++UN bs.length).length=128*((bs++UN bs.length).length/128):=by
  have:=A6 bs.length
  rw [lall]; omega
 obtain ⟨H10,hre,hst,l10,p10⟩:=iC (B:=H.length) (tid:=tid) (kid:=H6.length) (sid:=H7.length+1) (u:=H8.length) (by omega) (by omega) (by omega) (by omega) (u9 (u8' (u7 ((q6 _ (by omega)).trans gB)))) k9 (u9 (u8' k7)) (u9 (u8' (u7 htx))) (u9 k8) (by omega) xall hm
 obtain ⟨s',H11,hro,hg11,l11,p11⟩:=ix (B:=H.length) (N:=H9.length) (by omega) (by omega) hst l10 (Hs _ _) (Il _ _)
 have hsha:Dc (stK ((bs++UN bs.length).length/128) (bs++UN bs.length))=sha bs:=rfl
 rw [hsha] at hg11
 have pH:∀ i,i<H.length→H11[i]?=H[i]? := fun i hi=>by
  rw [p11 i (by omega),p10 i (by omega) (by omega),hH9,Qc (by omega),hH8,Qc (by omega),hH7,Qc (by omega),q6 i (by omega),hG1,Qc hi]
 obtain ⟨l,rfl⟩:=XJ (H:=H) (by omega) pH
 refine ⟨s',l,?_,Grown.weak hg11 (by omega)⟩
 have F1:H++[(⟨shC sv,true,true,true,1⟩:Ob)]=G1:=hG1.symm
 have F7:H6++[(⟨ns .u64 Km,true,true,true,1⟩:Ob)]=H7:=hH7.symm
 have F9:H8++[(⟨tuC,true,true,true,1⟩:Ob)]=H9:=hH9.symm
 have B7:∀ m:List Ob,(H7++m)[H.length]?=some ⟨shC sv,true,true,true,1⟩:=fun m=>by rw [Qc (by omega)]; exact u7 ((q6 _ (by omega)).trans gB)
 have B8:H8[H.length]?=some ⟨shC sv,true,true,true,1⟩:=u8' (u7 ((q6 _ (by omega)).trans gB))
 have c0:=shC_0 sv
 have c3:=shC_3 sv
 have lsh:=SX sv
 have htu:((shC sv).drop 4).take 12=tuC:=rfl
 have hz16:(Qa 16 [Value.int .u8 0]).flatten=u8s (Qa 16 0):=rfl
 have f128:fillL [Value.int .u8 0] [(0,1,.int .u8 128)]=some [.int .u8 128]:=rfl
 have f0:fillL ([]:List Value) []=some []:=rfl
 have hlen:=Bd (bs:=bs)
 have w1:IntKind.u64.wrap (bs.length:Int)=(bs.length:Nat):=Kn (by omega)
 have im1:Q1 H.length [] [G1.length]=[]:=QD (by simp; omega)
 have im2:Q1 H.length [] M6=[]:=QD fun i hi=>by have:=hM6 i hi; omega
 have im3:Q1 H.length [] [H8.length]=[]:=QD (by simp; omega)
 have ltu:=SO
 rw [F7] at htb
 simp only [rzI,rcI,reI,It,Qn,Ql,QB,←hH5] at h4 h7 hre hro
 rw [←hsv] at hap
 clear hG1 hH3 hH5 hH7 hH8 hH9 hg3 hg4 hg5 hg6 hg11 he5 p3 p4 p6 p10 p11 pH q6 u7 u8' u9 gh hh k7 k8 k9 htx hst hsha xall hm hall
 generalize shC sv=sc at *
 generalize tuC=tc at *
 generalize u8s (Qa 16 0)=Z16 at *
 generalize hbl:bs.length=n at *
 generalize (bs++UN n).length=LL at *
 rw [Zb (fn:=nT) rfl]
 simp only [nT,Qs,quiet,cW,↓pW,reduceCtorEq,seval,-Qb,hok,F1,gB,c0,c3,h2b,f128,h80,h4,hz16,hlen,w1,h7,ha6,htb,f0,hap,B7,B8,htu,lsh,ltu,F9,hre,hro,im1,im2,im3,Qy,Qe]
def rtI (tid:Nat) (Hm:List Ob) (X:List Nat) (i:Nat) (ex:Env):St:=⟨[(2,.pointer (some ⟨0,0,none⟩)),(4,.slice (some ⟨tid,0,none⟩) 64 64),(5,.pointer (some ⟨Hm.length,0,none⟩)),(6,.int .i64 i)]++ex,Hm++[⟨u8s X,true,true,true,1⟩],[]⟩
theorem ia {Hm:List Ob} {S:List Nat} {x:Bool} (ht:Hm[tid]?=some ⟨u8s S,true,true,x,1⟩) (lS:S.length=64) :
  Q2 T 0 (.block 0 (.loop MS)) (rtI tid Hm (Qa 64 0) 0 [])=some (.normal,rtI tid Hm S 64 [(17,.bool false)]):=by
 have h:=ZV (T:=T) (base:=0) (id:=0) (body:=MS) (fun i=>rtI tid Hm (pf 64 S i) i []) (s':=rtI tid Hm S 64 [(17,.bool false)]) 64
  (fun i hi=>by
   obtain ⟨w,hw⟩:∃ w,S[i]?=some w:=⟨_,Qf (by omega)⟩
   have hstep:=XE lS hi hw
   have hset:=Xb (pf 64 S i) i w
   rw [hstep] at hset
   have hle:i+1≤(u8s (pf 64 S i)).length:=by rw [Qq,Ko lS (by omega)]; omega
   have e1:((i:Int)<64)=True:=eq_true (by omega)
   have w3:IntKind.i64.wrap ((i:Int)+1)=((i+1:Nat):Int):=Zx (b:=1) (by omega)
   have gt:∀ m:List Ob,(Hm++m)[tid]?=some ⟨u8s S,true,true,x,1⟩:=fun m=>by rw [Qc (Qg.1 ht).1]; exact ht
   have gw:(u8s S)[i]?=some (.int .u8 (w:Nat)):=Jx hw
   have im:Q1 0 [] [Hm.length]=[]:=QD (by simp)
   generalize pf 64 S i=O1,pf 64 S (i+1)=O2 at *
   generalize hi1:i+1=i1 at *
   simp only [rtI,MS,Qs,quiet,cW,↓pW,reduceCtorEq,seval,-Qb,e1,w3,gt,gw,hset,hle,im,hi1])
  (by
   rw [Ku lS]
   simp only [rtI,MS,Qs,quiet,cW,↓pW,reduceCtorEq,seval,-Qb])
 rw [Kt] at h
 exact h
theorem bS (xb:∀ y∈bs,y<256) (hb:bs.length<2^46):QK T 116 [Zn bs]=some (.agg (u8s (sha bs)).toArray):=by
 have hz64:Qa 64 (Value.int .u8 0)=u8s (Qa 64 0):=rfl
 have lz64:(Qa 64 0).length=64:=Qe
 obtain ⟨G,hG⟩:∃ X,X=[(⟨u8s (Qa 64 0),true,true,true,1⟩:Ob),⟨shC (.slice (some ⟨2,0,none⟩) 8 8),true,true,true,1⟩,⟨ns .u64 YR,true,true,true,1⟩]:=⟨_,rfl⟩
 obtain ⟨s,l,h1,hg⟩:=oR (H:=G) (hid:=2) (xe:=true) xb hb (by rw [hG]; rfl)
 have lS:=Y9 bs
 obtain ⟨tid,x,rfl,h2,h3⟩:=Grown.ob hg (by omega)
 rw [lS] at h1
 have h4:=ia (tid:=tid) h3 lS
 obtain ⟨G2,hG2⟩:∃ X,X=G++l:=⟨_,rfl⟩
 have g0:∀ m:List Ob,(G2++m)[0]?=some ⟨u8s (Qa 64 0),true,true,true,1⟩:=fun m=>by rw [hG2,hG]; rfl
 have s1:∀ (m:List Ob) (o:Ob),(G2.set 0 o++m)[0]?=some o:=fun m o=>by rw [hG2,hG]; rfl
 have s0:∀ (m:List Ob) (o:Ob),(G2++m).set 0 o=(G2.set 0 o)++m:=fun m o=>by rw [hG2,hG]; rfl
 rw [←hG2] at h1 h4
 simp only [rtI,Qn,Ql,QB] at h4
 have fI:fillL (Qa 8 (Value.int .u64 0)) [(0,1,.int .u64 7640891576956012808),(1,1,.int .u64 13503953896175478587),(2,1,.int .u64 4354685564936845355),(3,1,.int .u64 11912009170470909681),(4,1,.int .u64 5840696475078001361),(5,1,.int .u64 11170449401992604703),(6,1,.int .u64 2270897969802886507),(7,1,.int .u64 6620516959819538809)]=some (ns .u64 YR):=rfl
 rw [hG] at h1
 clear hg h3 hG hG2
 have fT:fillL [Value.int .i64 0,.int .i64 0,.int .i64 0,.slice none 0 0,.int .i64 0,.int .i64 0,.int .i64 0,.int .i64 0,.int .i64 0,.int .i64 0,.int .i64 0,.int .i64 0,.int .i64 0,.int .i64 0,.int .i64 0,.int .i64 0] [(0,1,.int .i64 64),(1,1,.int .i64 80),(2,1,.int .i64 128)]=some ([Value.int .i64 64,.int .i64 80,.int .i64 128,.slice none 0 0]++Qa 12 (.int .i64 0)):=rfl
 have f12:fillL (Qa 12 (Value.int .i64 0)) [(0,1,.int .i64 1),(1,1,.int .i64 8),(2,1,.int .i64 7),(3,1,.int .i64 19),(4,1,.int .i64 61),(5,1,.int .i64 6),(6,1,.int .i64 28),(7,1,.int .i64 34),(8,1,.int .i64 39),(9,1,.int .i64 14),(10,1,.int .i64 18),(11,1,.int .i64 41)]=some tuC:=rfl
 have hs3:([Value.int .i64 64,.int .i64 80,.int .i64 128,.slice none 0 0]++Qa 12 (Value.int .i64 0)).set 3 (Value.slice (some ⟨2,0,none⟩) 8 8)=[Value.int .i64 64,.int .i64 80,.int .i64 128,.slice (some ⟨2,0,none⟩) 8 8]++Qa 12 (Value.int .i64 0):=rfl
 have hs4:splice ([Value.int .i64 64,.int .i64 80,.int .i64 128,.slice (some ⟨2,0,none⟩) 8 8]++Qa 12 (Value.int .i64 0)) 4 tuC=shC (.slice (some ⟨2,0,none⟩) 8 8):=rfl
 have lc1:([Value.int .i64 64,.int .i64 80,.int .i64 128,.slice none 0 0]++Qa 12 (Value.int .i64 0)).length=16:=rfl
 have lc2:([Value.int .i64 64,.int .i64 80,.int .i64 128,.slice (some ⟨2,0,none⟩) 8 8]++Qa 12 (Value.int .i64 0)).length=16:=rfl
 have lsh:=SX (.slice (some ⟨2,0,none⟩) 8 8)
 have ltu:=SO
 have fz:fillL (u8s (Qa 64 0)) []=some (u8s (Qa 64 0)):=rfl
 generalize [Value.int .i64 64,.int .i64 80,.int .i64 128,.slice none 0 0]++Qa 12 (Value.int .i64 0)=C1 at *
 generalize [Value.int .i64 64,.int .i64 80,.int .i64 128,.slice (some ⟨2,0,none⟩) 8 8]++Qa 12 (Value.int .i64 0)=C2 at *
 generalize shC (.slice (some ⟨2,0,none⟩) 8 8)=C3 at *
 generalize tuC=TU at *
 generalize sha bs=S,Qa 64 0=Z64 at *
 apply QI (fn:=wD) rfl
 simp only [wD,Qs,quiet,cW,↓pW,reduceCtorEq,seval,-Qb,hz64,fz,fI,fT,f12,hs3,hs4,lc1,lc2,lsh,ltu,h1,h4,g0,s0,s1,Qz,Q7,Zc,Q8,Qq,lz64,lS,Qy,Qe,QV]
 rfl
def ZS (x r:Nat):Nat:=x/2^r+x*2^(32-r)%4294967296
def YP (x:Nat):Nat:=ZS x 7^^^ZS x 18^^^(x/2^3)
def Bi (x:Nat):Nat:=ZS x 17^^^ZS x 19^^^(x/2^10)
def B3 (x:Nat):Nat:=ZS x 2^^^ZS x 13^^^ZS x 22
def Kp (x:Nat):Nat:=ZS x 6^^^ZS x 11^^^ZS x 25
def KN (e f g:Nat):Nat:=(e&&&f)^^^((4294967295^^^e)&&&g)
def UQ (a b c:Nat):Nat:=(a&&&b)^^^(a&&&c)^^^(b&&&c)
def ff (w:List Nat):Nat:=(w.getD (w.length-16) 0+w.getD (w.length-7) 0+YP (w.getD (w.length-15) 0)+Bi (w.getD (w.length-2) 0))%4294967296
def WO:Nat→List Nat→List Nat
 | 0,l=>l
 | n+1,l=>WO n l++[ff (WO n l)]
def Rg (b:List Nat):List Nat:=(Z9 16).map fun i=>be ((b.drop (4*i)).take 4)
def Jn (b:List Nat):List Nat:=WO 48 (Rg b)
def Ty (s:List Nat) (k w:Nat):Nat:=(s.getD 7 0+Kp (s.getD 4 0)+KN (s.getD 4 0) (s.getD 5 0) (s.getD 6 0)+k+w)%4294967296
def Pf (s:List Nat):Nat:=(B3 (s.getD 0 0)+UQ (s.getD 0 0) (s.getD 1 0) (s.getD 2 0))%4294967296
def E4 (s:List Nat) (k w:Nat):List Nat:=[(Ty s k w+Pf s)%4294967296,s.getD 0 0,s.getD 1 0,s.getD 2 0,(s.getD 3 0+Ty s k w)%4294967296,s.getD 4 0,s.getD 5 0,s.getD 6 0]
def WU:Nat→List Nat→List Nat→List Nat
 | 0,_,s=>s
 | n+1,w,s=>E4 (WU n w s) (Km.getD n 0/2^32) (w.getD n 0)
def DK (s b:List Nat):List Nat:=JL (fun x y=>(x+y)%4294967296) s (WU 64 (Jn b) s)
def XH:List Nat:=[1779033703,3144134277,1013904242,2773480762,1359893119,2600822924,528734635,1541459225]
def UG:Nat→List Nat→List Nat
 | 0,_=>XH
 | n+1,b=>DK (UG n b) ((b.drop (64*n)).take 64)
def XB (n:Nat):Nat:=(119-n%64)%64
def Yj (n:Nat):List Nat:=128::(Qa (XB n) 0++((Z9 8).map fun i=>8*n/256^(7-i)%256))
def Vx (b:List Nat):List Nat:=(Z9 32).map fun i=>(UG ((b++Yj b.length).length/64) (b++Yj b.length)).getD (i/4) 0/256^(3-i%4)%256
theorem Pn:XH.length=8:=rfl
theorem Xv (hx:x<4294967296) (hr:0<r) (hr':r≤31):ZS x r<4294967296:=by
 unfold ZS
 have e:(4294967296:Nat)=2^r*2^(32-r):=by rw [←JD,show r+(32-r)=32 by omega]
 have h1:x/2^r<2^(32-r):=Va (by rw [←e]; exact hx)
 have h2:x*2^(32-r)%4294967296=(x%2^r)*2^(32-r):=by rw [e,Yl]
 rw [h2]
 have h3:x%2^r+1≤2^r:=Q5 _ (JM (by decide))
 have h4:=Ji (2^(32-r)) h3
 rw [←e,Zl,Xf] at h4
 omega
theorem il (hx:x<4294967296) (hr:0<r) (hr':r≤31):(x*2^(32-r)%4294967296)|||(x/2^r)=ZS x r:=by
 have e:(4294967296:Nat)=2^r*2^(32-r):=by rw [←JD,show r+(32-r)=32 by omega]
 have h1:x/2^r<2^(32-r):=Va (by rw [←e]; exact hx)
 have h2:x*2^(32-r)%4294967296=(x%2^r)*2^(32-r):=by rw [e,Yl]
 unfold ZS
 rw [h2,YD h1,Xp]
theorem TS (a b:Nat):IntKind.u32.wrap ((a:Int)+(b:Int))=(((a+b)%4294967296:Nat):Int):=by rw [←Jl,aJ]
theorem BS {b:Nat} (ha:a<4294967296) (hb:b<4294967296):Zp .xor .u32 (a:Int) (b:Int)=((a^^^b:Nat):Int):=Co rfl ha hb
theorem OE {b:Nat} (ha:a<4294967296) (hb:b<4294967296):Zp .and .u32 (a:Int) (b:Int)=((a&&&b:Nat):Int):=Um rfl ha hb
theorem pS {b:Nat} (ha:a<4294967296) (hb:b<4294967296):Zp .or .u32 (a:Int) (b:Int)=((a|||b:Nat):Int):=XY rfl ha hb
theorem XT {b:Nat} (ha:a<4294967296) (hb:b<4294967296):a^^^b<4294967296:=Nat.xor_lt_two_pow (n:=32) ha hb
theorem Vh {b:Nat} (hb:b<4294967296):a&&&b<4294967296:=XV (n:=32) a hb
theorem Ah (hr:r≤32):(x:Int).fdiv (2^min r IntKind.u32.bits)=((x/2^r:Nat):Int):=by
 rw [show min r IntKind.u32.bits=r from Zy hr,←R5,Ye]; rfl
theorem M0 (hx:x<4294967296):x/2^r<4294967296:=ZX (Jq _ _) hx
theorem bo {n:Nat} (h:n<4294967296):IntKind.u32.wrap (n:Int)=n:=by rw [aJ,Qv h]
theorem BE (l:List Nat):∀ n,(WO n l).length=l.length+n
 | 0=>rfl
 | n+1=>by rw [WO,Qk,BE l n]; rfl
theorem BF (l:List Nat) {n j:Nat} (hj:j<l.length+n):∀ m,n≤m→(WO m l)[j]?=(WO n l)[j]?
 | 0,h=>by rw [show n=0 by omega]
 | m+1,h=>by
  by_cases e:n=m+1
  ·rw [e]
  ·rw [WO,Qc (by rw [BE]; omega),BF l hj m (by omega)]
theorem Dx (b:List Nat):(Rg b).length=16:=by simp [Rg]
theorem VL (b:List Nat):(Jn b).length=64:=by rw [Jn,BE,Dx]
theorem Dz (hi:i<16):(Jn b)[i]?=some (be ((b.drop (4*i)).take 4)):=by
 rw [Jn,BF _ (n:=0) (by rw [Dx]; omega) 48 (by omega)]
 simp [WO,Rg,hi]
theorem Dy (hi:16≤i) (hi':i<64):(Jn b)[i]?=some (((Jn b).getD (i-16) 0+(Jn b).getD (i-7) 0+YP ((Jn b).getD (i-15) 0)+Bi ((Jn b).getD (i-2) 0))%4294967296):=by
 obtain ⟨n,rfl⟩:∃ n,i=16+n:=⟨i-16,by omega⟩
 have hl:=Dx b
 have hn:=BE (Rg b) n
 rw [hl] at hn
 have hg:∀ j,j<16+n→(Jn b).getD j 0=(WO n (Rg b)).getD j 0:=fun j hj=>by
  rw [QA,QA,Jn,BF _ (n:=n) (by rw [hl]; omega) 48 (by omega)]
 rw [hg _ (by omega),hg _ (by omega),hg _ (by omega),hg _ (by omega)]
 rw [Jn,BF _ (n:=n+1) (by rw [hl]; omega) 48 (by omega),WO,Qh (by omega),hn,Q4]
 simp only [ff,hn,List.getElem?_cons_zero]
theorem WQ (hb:∀ x∈b,x<256) {i:Nat} (hx:(Jn b)[i]?=some x):x<4294967296:=by
 have hi:i<64:=by have:=(Qg.1 hx).1; rwa [VL] at this
 by_cases h:i<16
 ·rw [Dz h] at hx
  cases hx
  have hl:((b.drop (4*i)).take 4).length≤4:=by rw [Q6]; omega
  have:=FT _ _ rfl (fun y hy=>hb y (ZD (QU hy)):∀ y∈(b.drop (4*i)).take 4,y<256)
  exact QM this (Zk (n:=256) (by decide) hl)
 ·rw [Dy (by omega) hi] at hx
  cases hx
  exact Q5 _ (by decide)
theorem iy (s:List Nat) (k w:Nat):(E4 s k w).length=8:=rfl
theorem WK (hs:s.length=8) (w:List Nat):∀ n,(WU n w s).length=8
 | 0=>hs
 | n+1=>rfl
theorem oX (hs:s.length=8) (hx:∀ x∈s,x<4294967296) (k w:Nat):∀ x∈E4 s k w,x<4294967296:=by
 obtain ⟨a,b,c,d,e,f,g,h,rfl⟩:=eight hs
 intro x hm
 have h1:∀ y z:Nat,(y+z)%4294967296<4294967296:=fun _ _=>Q5 _ (by decide)
 simp only [E4,J0,List.not_mem_nil,or_false] at hm
 rcases hm with rfl | rfl | rfl | rfl | rfl | rfl | rfl | rfl
 ·exact h1 _ _
 ·exact hx _ (by simp)
 ·exact hx _ (by simp)
 ·exact hx _ (by simp)
 ·exact h1 _ _
 ·exact hx _ (by simp)
 ·exact hx _ (by simp)
 ·exact hx _ (by simp)
theorem DY {s:List Nat} (hs:s.length=8) (hx:∀ x∈s,x<4294967296) (w:List Nat):∀ n,∀ x∈WU n w s,x<4294967296
 | 0=>hx
 | n+1=>oX (WK hs w n) (DY hs hx w n) _ _
theorem UK (hx:x<4294967296) (hk:0<k) (hk':k≤31):QK T 160 [.int .u32 x,.int .i64 (k:Nat)]=some (.int .u32 (ZS x (32-k):Nat)):=by
 have hw:IntKind.u64.wrap (k:Int)=(k:Int):=Kn (by omega)
 have hm:Zp .and .u64 (k:Int) 31=(k:Int):=by
  have:=UP .u64 rfl 5 k (by decide)
  have e:((2^5-1:Nat):Int)=31:=by decide
  rw [e] at this
  rw [this,Qv (by omega)]
 have n1:((k:Int)<0)=False:=eq_false (by omega)
 have h64:min k IntKind.u32.bits=k:=Zy (by show k≤32; omega)
 have hs1:IntKind.u32.wrap ((x:Int)*2^k)=((x*2^k%4294967296:Nat):Int):=by
  rw [←aJ,JT,Ye]; rfl
 have hsub:IntKind.u64.wrap (32-(k:Int))=((32-k:Nat):Int):=by rw [WN]; omega
 have n2:(((32-k:Nat):Int)<0)=False:=eq_false (by omega)
 have hs2:(x:Int).fdiv (2^min (32-k) IntKind.u32.bits)=((x/2^(32-k):Nat):Int):=Ah (by omega)
 have ho:Zp .or .u32 ((x*2^k%4294967296:Nat):Int) ((x/2^(32-k):Nat):Int)=((ZS x (32-k):Nat):Int):=by
  have h2:x/2^(32-k)<4294967296:=ZX (Jq _ _) hx
  have:=il (r:=32-k) hx (by omega) (by omega)
  rw [show 32-(32-k)=k by omega] at this
  rw [pS (Q5 _ (by decide)) h2,this]
 generalize hq:32-k=q at *
 apply QI (fn:=vP) rfl
 simp only [vP,↓Gp,Qs,quiet,cW,↓pW,reduceCtorEq,seval,-Qb,hw,hm,n1,h64,hs1,hsub,n2,hs2,ho,Int.toNat_natCast]
 rfl
theorem be4 (hy:y<256) (hz:z<256) (hw:w<256):(((x*16777216)|||(y*65536))|||(z*256))|||w=be [x,y,z,w]:=by
 have h1:(x*16777216)|||(y*65536)=(x*256+y)*65536:=by
  have:=YD (a:=y*65536) (b:=x) (n:=24) (by omega)
  rw [show (2:Nat)^24=16777216 from rfl] at this
  rw [this]; omega
 have h2:((x*256+y)*65536)|||(z*256)=((x*256+y)*256+z)*256:=by
  have:=YD (a:=z*256) (b:=x*256+y) (n:=16) (by omega)
  rw [show (2:Nat)^16=65536 from rfl] at this
  rw [this]; omega
 have h3:(((x*256+y)*256+z)*256)|||w=((x*256+y)*256+z)*256+w:=by
  have:=YD (a:=w) (b:=(x*256+y)*256+z) (n:=8) (by omega)
  rw [show (2:Nat)^8=256 from rfl] at this
  exact this
 rw [h1,h2,h3]
 simp [be]
theorem gF (hk:k≤32) (h:x*2^k<4294967296):IntKind.u32.wrap ((x:Int)*2^min k IntKind.u32.bits)=((x*2^k:Nat):Int):=by
 rw [show min k IntKind.u32.bits=k from Zy hk,←bo h,JT,Ye]
 rfl
theorem lt24 (h:x<256):x*16777216<4294967296:=by omega
theorem lt16 (h:x<256):x*65536<4294967296:=by omega
theorem lt8 (h:x<256):x*256<4294967296:=by omega
theorem lt0 (h:x<256):x<4294967296:=by omega
def Tx (H:List Ob) (P:Value) (id off cap:Nat) (w:List Nat) (i:Int) (ex:Env):St:=⟨[(0,P),(1,.slice (some ⟨id,off,none⟩) 64 cap),(4,.pointer (some ⟨H.length,0,none⟩)),(22,.int .i64 i)]++ex,H++[⟨ns .u32 w,true,true,true,1⟩],[]⟩
theorem take4 (h0:b[j]?=some x) (h1:b[j+1]?=some y) (h2:b[j+2]?=some z) (h3:b[j+3]?=some w):(b.drop j).take 4=[x,y,z,w]:=by
 apply Ju
 intro k
 rw [QX]
 match k with
 | 0=>simpa using h0
 | 1=>simpa using h1
 | 2=>simpa using h2
 | 3=>simpa using h3
 | k+4=>rw [if_neg (by omega)]; simp
theorem oq {P:Value} (hb:BB H id off b) (hl:b.length=64) (hi:i<16) :
  Q2 T H.length UB (Tx H P id off cap (pf 64 (Jn b) i) i [])=some (.normal,Tx H P id off cap (pf 64 (Jn b) (i+1)) ((i+1:Nat):Int) []):=by
 obtain ⟨⟨all,h1,h2⟩,h3⟩:=hb
 have hWl:=VL b
 have hget:∀ l:List Ob,(H++l)[id]?=some ⟨u8s all,true,true,false,1⟩:=fun l=>by rw [Qc (Qg.1 h1).1]; exact h1
 obtain ⟨x,hx⟩:∃ x,b[4*i]?=some x:=⟨_,Qf (by omega)⟩
 obtain ⟨y,hy⟩:∃ x,b[4*i+1]?=some x:=⟨_,Qf (by omega)⟩
 obtain ⟨z,hz⟩:∃ x,b[4*i+2]?=some x:=⟨_,Qf (by omega)⟩
 obtain ⟨w,hw⟩:∃ x,b[4*i+3]?=some x:=⟨_,Qf (by omega)⟩
 have lx:=h3 x (Qp hx)
 have ly:=h3 y (Qp hy)
 have lz:=h3 z (Qp hz)
 have lw:=h3 w (Qp hw)
 have cx:(u8s all)[off+4*i]?=some (.int .u8 (x:Nat)):=Jx (by rw [h2 _ (by omega)]; exact hx)
 have cy:(u8s all)[off+(4*i+1)]?=some (.int .u8 (y:Nat)):=Jx (by rw [h2 _ (by omega)]; exact hy)
 have cz:(u8s all)[off+(4*i+2)]?=some (.int .u8 (z:Nat)):=Jx (by rw [h2 _ (by omega)]; exact hz)
 have cw:(u8s all)[off+(4*i+3)]?=some (.int .u8 (w:Nat)):=Jx (by rw [h2 _ (by omega)]; exact hw)
 have hW:=Dz (b:=b) hi
 rw [take4 hx hy hz hw] at hW
 have hstep:=XE hWl (by omega:i<64) hW
 have hpl:=Ko hWl (by omega:i≤64)
 have hset:=X8 .u32 (pf 64 (Jn b) i) i (be [x,y,z,w])
 rw [hstep] at hset
 have e1:((i:Int)<64)=True:=eq_true (by omega)
 have e2:((i:Int)<16)=True:=eq_true (by omega)
 have e4:(i≤63)=True:=eq_true (by omega)
 have w1:IntKind.i64.wrap (4*(i:Int))=((4*i:Nat):Int):=UE (a:=4) (by omega)
 have w2:IntKind.i64.wrap (((4*i:Nat):Int)+1)=((4*i+1:Nat):Int):=Zx (b:=1) (by omega)
 have w3:IntKind.i64.wrap (((4*i:Nat):Int)+2)=((4*i+2:Nat):Int):=Zx (b:=2) (by omega)
 have w4:IntKind.i64.wrap (((4*i:Nat):Int)+3)=((4*i+3:Nat):Int):=Zx (b:=3) (by omega)
 have w5:IntKind.i64.wrap ((i:Int)+1)=((i+1:Nat):Int):=Zx (b:=1) (by omega)
 have j0:(((4*i:Nat):Int)<64)=True:=eq_true (by omega)
 have j1:(((4*i+1:Nat):Int)<64)=True:=eq_true (by omega)
 have j2:(((4*i+2:Nat):Int)<64)=True:=eq_true (by omega)
 have j3:(((4*i+3:Nat):Int)<64)=True:=eq_true (by omega)
 have u1:IntKind.u32.wrap (x:Int)=(x:Int):=bo (by omega)
 have u2:IntKind.u32.wrap (y:Int)=(y:Int):=bo (by omega)
 have u3:IntKind.u32.wrap (z:Int)=(z:Int):=bo (by omega)
 have u4:IntKind.u32.wrap (w:Int)=(w:Int):=bo (by omega)
 obtain ⟨x1,hx1,b1,s1⟩:∃ v,v=x*16777216∧v<4294967296∧IntKind.u32.wrap ((x:Int)*2^min 24 IntKind.u32.bits)=(v:Int):=⟨_,rfl,lt24 lx,by
  have:=gF (x:=x) (k:=24) (by decide) (lt24 lx)
  rwa [show (2:Nat)^24=16777216 from rfl] at this⟩
 obtain ⟨y1,hy1,b2,s2⟩:∃ v,v=y*65536∧v<4294967296∧IntKind.u32.wrap ((y:Int)*2^min 16 IntKind.u32.bits)=(v:Int):=⟨_,rfl,lt16 ly,by
  have:=gF (x:=y) (k:=16) (by decide) (lt16 ly)
  rwa [show (2:Nat)^16=65536 from rfl] at this⟩
 obtain ⟨z1,hz1,b3,s3⟩:∃ v,v=z*256∧v<4294967296∧IntKind.u32.wrap ((z:Int)*2^min 8 IntKind.u32.bits)=(v:Int):=⟨_,rfl,lt8 lz,by
  have:=gF (x:=z) (k:=8) (by decide) (lt8 lz)
  rwa [show (2:Nat)^8=256 from rfl] at this⟩
 have o1:=pS b1 b2
 have c1:x1|||y1<4294967296:=XL (n:=32) b1 b2
 have o2:=pS c1 b3
 have c2:x1|||y1|||z1<4294967296:=XL (n:=32) c1 b3
 have o3:Zp .or .u32 ((x1|||y1|||z1:Nat):Int) (w:Int)=((be [x,y,z,w]:Nat):Int):=by
  rw [pS c2 (lt0 lw),hx1,hy1,hz1,be4 ly lz lw]
 clear hstep hW hx hy hz hw hWl h2 h3 hx1 hy1 hz1
 generalize be [x,y,z,w]=v at *
 generalize x1|||y1|||z1=v3 at *
 generalize x1|||y1=v2 at *
 generalize pf 64 (Jn b) i=O1,pf 64 (Jn b) (i+1)=O2 at *
 generalize hk1:4*i+1=k1 at *
 generalize hk2:4*i+2=k2 at *
 generalize hk3:4*i+3=k3 at *
 generalize 4*i=k at *
 generalize i+1=i1 at *
 simp only [Tx,UB,Qs,quiet,cW,↓pW,reduceCtorEq,seval,-Qb,e1,e2,e4,w1,w2,w3,w4,w5,j0,j1,j2,j3,hget,cx,cy,cz,cw,u1,u2,u3,u4,s1,s2,s3,o1,o2,o3,hset,Q9,hpl]
theorem fk {P:Value} (hb:∀ x∈b,x<256) (hi:16≤i) (hi':i<64) :
  Q2 T H.length UB (Tx H P id off cap (pf 64 (Jn b) i) i [])=some (.normal,Tx H P id off cap (pf 64 (Jn b) (i+1)) ((i+1:Nat):Int) []):=by
 have hWl:=VL b
 have hW:=Dy (b:=b) hi hi'
 have hstep:=XE hWl hi' hW
 have hpl:=Ko hWl (Js hi')
 obtain ⟨x,hx⟩:∃ x,(Jn b)[i-15]?=some x:=⟨_,Qf (by omega)⟩
 obtain ⟨y,hy⟩:∃ x,(Jn b)[i-2]?=some x:=⟨_,Qf (by omega)⟩
 obtain ⟨u,hu⟩:∃ x,(Jn b)[i-16]?=some x:=⟨_,Qf (by omega)⟩
 obtain ⟨v,hv⟩:∃ x,(Jn b)[i-7]?=some x:=⟨_,Qf (by omega)⟩
 have lx:=WQ hb hx
 have ly:=WQ hb hy
 have cx:=ZM (k := .u32) ((VZ (n:=64) (by omega:i-15<i) (by omega)).trans hx)
 have cy:=ZM (k := .u32) ((VZ (n:=64) (by omega:i-2<i) (by omega)).trans hy)
 have cu:=ZM (k := .u32) ((VZ (n:=64) (by omega:i-16<i) (by omega)).trans hu)
 have cv:=ZM (k := .u32) ((VZ (n:=64) (by omega:i-7<i) (by omega)).trans hv)
 rw [JJ hx,JJ hy,JJ hu,JJ hv] at hstep
 have r7:QK T 160 [.int .u32 x,.int .i64 25]=some (.int .u32 (ZS x 7:Nat)):=UK (k:=25) lx (by decide) (by decide)
 have r18:QK T 160 [.int .u32 x,.int .i64 14]=some (.int .u32 (ZS x 18:Nat)):=UK (k:=14) lx (by decide) (by decide)
 have r17:QK T 160 [.int .u32 y,.int .i64 15]=some (.int .u32 (ZS y 17:Nat)):=UK (k:=15) ly (by decide) (by decide)
 have r19:QK T 160 [.int .u32 y,.int .i64 13]=some (.int .u32 (ZS y 19:Nat)):=UK (k:=13) ly (by decide) (by decide)
 have b7:=Xv (r:=7) lx (by decide) (by decide)
 have b18:=Xv (r:=18) lx (by decide) (by decide)
 have b17:=Xv (r:=17) ly (by decide) (by decide)
 have b19:=Xv (r:=19) ly (by decide) (by decide)
 have x1:=BS b7 b18
 have x2:Zp .xor .u32 ((ZS x 7^^^ZS x 18:Nat):Int) ((x/2^3:Nat):Int)=((YP x:Nat):Int):=BS (XT b7 b18) (M0 lx)
 have y1:=BS b17 b19
 have y2:Zp .xor .u32 ((ZS y 17^^^ZS y 19:Nat):Int) ((y/2^10:Nat):Int)=((Bi y:Nat):Int):=BS (XT b17 b19) (M0 ly)
 have s3:(x:Int).fdiv (2^min 3 IntKind.u32.bits)=((x/2^3:Nat):Int):=Ah (by decide)
 have s10:(y:Int).fdiv (2^min 10 IntKind.u32.bits)=((y/2^10:Nat):Int):=Ah (by decide)
 have m1:=TS u v
 have m2:=TS ((u+v)%4294967296) (YP x)
 have m3:=TS (((u+v)%4294967296+YP x)%4294967296) (Bi y)
 have hsum:(((u+v)%4294967296+YP x)%4294967296+Bi y)%4294967296=(u+v+YP x+Bi y)%4294967296:=by omega
 rw [hsum] at m3
 have hset:=X8 .u32 (pf 64 (Jn b) i) i ((u+v+YP x+Bi y)%4294967296)
 rw [hstep] at hset
 have e1:((i:Int)<64)=True:=eq_true (by omega)
 have e2:((i:Int)<16)=False:=eq_false (by omega)
 have i15:IntKind.i64.wrap ((i:Int)-15)=((i-15:Nat):Int):=by rw [Zf (by omega) (by omega)]; omega
 have i2:IntKind.i64.wrap ((i:Int)-2)=((i-2:Nat):Int):=by rw [Zf (by omega) (by omega)]; omega
 have i16:IntKind.i64.wrap ((i:Int)-16)=((i-16:Nat):Int):=by rw [Zf (by omega) (by omega)]; omega
 have i7:IntKind.i64.wrap ((i:Int)-7)=((i-7:Nat):Int):=by rw [Zf (by omega) (by omega)]; omega
 have j15:(((i-15:Nat):Int)<64)=True:=eq_true (by omega)
 have j2:(((i-2:Nat):Int)<64)=True:=eq_true (by omega)
 have j16:(((i-16:Nat):Int)<64)=True:=eq_true (by omega)
 have j7:(((i-7:Nat):Int)<64)=True:=eq_true (by omega)
 have w3:IntKind.i64.wrap ((i:Int)+1)=((i+1:Nat):Int):=Zx (b:=1) (by omega)
 have e4:(i≤63)=True:=eq_true (by omega)
 clear hsum hstep hW hx hy hu hv hWl
 generalize pf 64 (Jn b) i=O1,pf 64 (Jn b) (i+1)=O2,(u+v+YP x+Bi y)%4294967296=z,((u+v)%4294967296+YP x)%4294967296=z2 at *
 generalize (u+v)%4294967296=z3 at *
 generalize YP x=gx,Bi y=gy,ZS x 7^^^ZS x 18=xx,ZS y 17^^^ZS y 19=yy at *
 generalize ZS x 7=x1v,ZS x 18=x8v,ZS y 17=y19v,ZS y 19=y61v at *
 generalize x/2^3=x7v at *
 generalize y/2^10=y6v at *
 generalize i-15=k15 at *
 generalize i-2=k2 at *
 generalize i-16=k16 at *
 generalize i-7=k7 at *
 generalize i+1=i1 at *
 simp only [Tx,UB,Qs,quiet,cW,↓pW,reduceCtorEq,seval,-Qb,e1,e2,e4,i15,i2,i16,i7,j15,j2,j16,j7,cx,cy,cu,cv,r7,r18,r17,r19,x1,x2,y1,y2,s3,s10,m1,m2,m3,hset,w3,Q9,hpl]
theorem bl {P:Value} (hb:BB H id off b) (hl:b.length=64) :
  Q2 T H.length (.block 0 (.loop UB)) (Tx H P id off cap (Qa 64 0) 0 [])=some (.normal,Tx H P id off cap (Jn b) 64 [(23,.bool false)]):=by
 have hWl:=VL b
 have h:=ZV (T:=T) (base:=H.length) (id:=0) (body:=UB) (fun i=>Tx H P id off cap (pf 64 (Jn b) i) i []) (s':=Tx H P id off cap (Jn b) 64 [(23,.bool false)]) 64
  (fun i hi=>by
   by_cases h:i<16
   ·exact oq hb hl h
   ·exact fk hb.lt (by omega) hi)
  (by
   rw [Ku hWl]
   simp only [Tx,UB,Qs,quiet,cW,↓pW,reduceCtorEq,seval,-Qb])
 rw [Kt] at h
 exact h
def FX (H:List Ob) (P:Value) (w s:List Nat) (i:Int) (ex:Env):St:=⟨[(0,P),(4,.pointer (some ⟨H.length,0,none⟩)),(8,.pointer (some ⟨H.length+1,0,none⟩)),(9,.int .u32 (s.getD 0 0:Nat)),(10,.int .u32 (s.getD 1 0:Nat)),(11,.int .u32 (s.getD 2 0:Nat)),(12,.int .u32 (s.getD 3 0:Nat)),(13,.int .u32 (s.getD 4 0:Nat)),(14,.int .u32 (s.getD 5 0:Nat)),(15,.int .u32 (s.getD 6 0:Nat)),(16,.int .u32 (s.getD 7 0:Nat)),(141,.int .i64 i)]++ex,H++[⟨ns .u32 w,true,true,true,1⟩,⟨ns .u64 Km,true,true,true,1⟩],[]⟩
theorem fE {P:Value} {w:List Nat} (hw:w.length=64) (hs:s.length=8) (hx:∀ x∈s,x<4294967296) (hi:i<64) :
  Q2 T H.length HT (FX H P w s i [])=some (.normal,FX H P w (E4 s (Km.getD i 0/2^32) (w.getD i 0)) ((i+1:Nat):Int) []):=by
 obtain ⟨a,b,c,d,e,f,g,h,rfl⟩:=eight hs
 obtain ⟨k,hk⟩:∃ k,Km[i]?=some k:=⟨_,Qf (by rw [Ue]; omega)⟩
 obtain ⟨v,hv⟩:∃ k,w[i]?=some k:=⟨_,Qf (by omega)⟩
 have lk:=aN k (Qp hk)
 rw [JJ hk,JJ hv]
 have kc:=ZM (k := .u64) hk
 have vc:=ZM (k := .u32) hv
 have la:=hx a (by simp)
 have lb:=hx b (by simp)
 have lc:=hx c (by simp)
 have le:=hx e (by simp)
 have lf:=hx f (by simp)
 have lg:=hx g (by simp)
 have r6:QK T 160 [.int .u32 e,.int .i64 26]=some (.int .u32 (ZS e 6:Nat)):=UK (k:=26) le (by decide) (by decide)
 have r11:QK T 160 [.int .u32 e,.int .i64 21]=some (.int .u32 (ZS e 11:Nat)):=UK (k:=21) le (by decide) (by decide)
 have r25:QK T 160 [.int .u32 e,.int .i64 7]=some (.int .u32 (ZS e 25:Nat)):=UK (k:=7) le (by decide) (by decide)
 have r2:QK T 160 [.int .u32 a,.int .i64 30]=some (.int .u32 (ZS a 2:Nat)):=UK (k:=30) la (by decide) (by decide)
 have r13:QK T 160 [.int .u32 a,.int .i64 19]=some (.int .u32 (ZS a 13:Nat)):=UK (k:=19) la (by decide) (by decide)
 have r22:QK T 160 [.int .u32 a,.int .i64 10]=some (.int .u32 (ZS a 22:Nat)):=UK (k:=10) la (by decide) (by decide)
 have b14:=Xv (r:=6) le (by decide) (by decide)
 have b18:=Xv (r:=11) le (by decide) (by decide)
 have b41:=Xv (r:=25) le (by decide) (by decide)
 have b28:=Xv (r:=2) la (by decide) (by decide)
 have b34:=Xv (r:=13) la (by decide) (by decide)
 have b39:=Xv (r:=22) la (by decide) (by decide)
 have x1:=BS b14 b18
 have x2:Zp .xor .u32 ((ZS e 6^^^ZS e 11:Nat):Int) ((ZS e 25:Nat):Int)=((Kp e:Nat):Int):=BS (XT b14 b18) b41
 have x3:=BS b28 b34
 have x4:Zp .xor .u32 ((ZS a 2^^^ZS a 13:Nat):Int) ((ZS a 22:Nat):Int)=((B3 a:Nat):Int):=BS (XT b28 b34) b39
 have a1:=OE le lf
 have a2:Zp .xor .u32 (if IntKind.u32.signed=true then -1 else IntKind.u32.max) (e:Int)=((4294967295^^^e:Nat):Int):=BS (a:=4294967295) (by decide) le
 have lne:4294967295^^^e<4294967296:=XT (by decide) le
 have a3:=OE lne lg
 have a4:Zp .xor .u32 ((e&&&f:Nat):Int) (((4294967295^^^e)&&&g:Nat):Int)=((KN e f g:Nat):Int):=BS (Vh lf) (Vh lg)
 have a5:=OE la lb
 have a6:=OE la lc
 have a7:=OE lb lc
 have a8:=BS (a:=a&&&b) (b:=a&&&c) (Vh lb) (Vh lc)
 have a9:Zp .xor .u32 (((a&&&b)^^^(a&&&c):Nat):Int) ((b&&&c:Nat):Int)=((UQ a b c:Nat):Int):=BS (XT (Vh lb) (Vh lc)) (Vh lc)
 have hk32:(k:Int).fdiv (2^min 32 IntKind.u64.bits)=((k/2^32:Nat):Int):=Dn (r:=32) (by decide)
 have lk32:k/2^32<4294967296:=Va lk
 have hk33:IntKind.u32.wrap ((k/2^32:Nat):Int)=((k/2^32:Nat):Int):=bo lk32
 generalize k/2^32=kk at *
 have m1:=TS h (Kp e)
 have m2:=TS ((h+Kp e)%4294967296) (KN e f g)
 have m3:=TS (((h+Kp e)%4294967296+KN e f g)%4294967296) kk
 have m4:=TS ((((h+Kp e)%4294967296+KN e f g)%4294967296+kk)%4294967296) v
 have hT1:((((h+Kp e)%4294967296+KN e f g)%4294967296+kk)%4294967296+v)%4294967296=Ty [a,b,c,d,e,f,g,h] kk v:=by
  show _=(h+Kp e+KN e f g+kk+v)%4294967296
  omega
 rw [hT1] at m4
 have m5:IntKind.u32.wrap ((B3 a:Int)+(UQ a b c:Int))=((Pf [a,b,c,d,e,f,g,h]:Nat):Int):=TS (B3 a) (UQ a b c)
 have m6:=TS (Ty [a,b,c,d,e,f,g,h] kk v) (Pf [a,b,c,d,e,f,g,h])
 have m7:=TS d (Ty [a,b,c,d,e,f,g,h] kk v)
 have hr:E4 [a,b,c,d,e,f,g,h] kk v=[(Ty [a,b,c,d,e,f,g,h] kk v+Pf [a,b,c,d,e,f,g,h])%4294967296,a,b,c,(d+Ty [a,b,c,d,e,f,g,h] kk v)%4294967296,e,f,g]:=rfl
 rw [hr]
 have e1:((i:Int)<64)=True:=eq_true (by omega)
 have e2:((i:Int)<80)=True:=eq_true (by omega)
 have w3:IntKind.i64.wrap ((i:Int)+1)=((i+1:Nat):Int):=Zx (b:=1) (by omega)
 have G0:∀ a b c d e f g h:Nat,[a,b,c,d,e,f,g,h].getD 0 0=a:=fun _ _ _ _ _ _ _ _=>rfl
 have G1:∀ a b c d e f g h:Nat,[a,b,c,d,e,f,g,h].getD 1 0=b:=fun _ _ _ _ _ _ _ _=>rfl
 have G2:∀ a b c d e f g h:Nat,[a,b,c,d,e,f,g,h].getD 2 0=c:=fun _ _ _ _ _ _ _ _=>rfl
 have G3:∀ a b c d e f g h:Nat,[a,b,c,d,e,f,g,h].getD 3 0=d:=fun _ _ _ _ _ _ _ _=>rfl
 have G4:∀ a b c d e f g h:Nat,[a,b,c,d,e,f,g,h].getD 4 0=e:=fun _ _ _ _ _ _ _ _=>rfl
 have G5:∀ a b c d e f g h:Nat,[a,b,c,d,e,f,g,h].getD 5 0=f:=fun _ _ _ _ _ _ _ _=>rfl
 have G6:∀ a b c d e f g h:Nat,[a,b,c,d,e,f,g,h].getD 6 0=g:=fun _ _ _ _ _ _ _ _=>rfl
 have G7:∀ a b c d e f g h:Nat,[a,b,c,d,e,f,g,h].getD 7 0=h:=fun _ _ _ _ _ _ _ _=>rfl
 clear hT1 hr hk hv hs hx
 simp only [FX,G0,G1,G2,G3,G4,G5,G6,G7]
 clear G0 G1 G2 G3 G4 G5 G6 G7
 generalize (Ty [a,b,c,d,e,f,g,h] kk v+Pf [a,b,c,d,e,f,g,h])%4294967296=z1 at *
 generalize (d+Ty [a,b,c,d,e,f,g,h] kk v)%4294967296=z2 at *
 generalize Ty [a,b,c,d,e,f,g,h] kk v=t1 at *
 generalize Pf [a,b,c,d,e,f,g,h]=t2 at *
 generalize (((h+Kp e)%4294967296+KN e f g)%4294967296+kk)%4294967296=z3 at *
 generalize ((h+Kp e)%4294967296+KN e f g)%4294967296=z4 at *
 generalize (h+Kp e)%4294967296=z5 at *
 generalize Kp e=se,B3 a=sa,KN e f g=cc,UQ a b c=mm at *
 generalize (a&&&b)^^^(a&&&c)=q1 at *
 generalize (4294967295^^^e)&&&g=q2 at *
 generalize 4294967295^^^e=q3 at *
 generalize e&&&f=q4 at *
 generalize a&&&b=q5 at *
 generalize a&&&c=q6 at *
 generalize b&&&c=q7 at *
 generalize ZS e 6^^^ZS e 11=q8,ZS a 2^^^ZS a 13=q9 at *
 generalize ZS e 6=p1,ZS e 11=p2,ZS e 25=p3,ZS a 2=p4,ZS a 13=p5,ZS a 22=p6 at *
 generalize i+1=i1 at *
 generalize Km=KT at *
 simp only [HT,Qs,quiet,cW,↓pW,reduceCtorEq,seval,-Qb,e1,e2,kc,vc,r6,r11,r25,r2,r13,r22,x1,x2,x3,x4,a1,a2,a3,a4,a5,a6,a7,a8,a9,hk32,hk33,m1,m2,m3,m4,m5,m6,m7,w3]
theorem bp {P:Value} {w:List Nat} (hw:w.length=64) (hs:s.length=8) (hx:∀ x∈s,x<4294967296) :
  Q2 T H.length (.block 2 (.loop HT)) (FX H P w s 0 [])=some (.normal,FX H P w (WU 64 w s) 64 [(142,.bool false)]):=by
 have h:=ZV (T:=T) (base:=H.length) (id:=2) (body:=HT) (fun i=>FX H P w (WU i w s) i []) (s':=FX H P w (WU 64 w s) 64 [(142,.bool false)]) 64
  (fun i hi=>fE hw (WK hs w i) (DY hs hx w i) hi)
  (by
   generalize WU 64 w s=R
   simp only [FX]
   generalize Km=kt
   simp only [HT,Qs,quiet,cW,↓pW,reduceCtorEq,seval,-Qb])
 exact h
end Go.Ev.YtpgphpkjlpkcbaaGreat
namespace Go.Ev.YtpgphpkjlpkcbaaGreat
open Go Go.Ev
attribute [local congr] JC JV JB JW Jz
set_option maxRecDepth 100000
variable {H:List Ob} {hid n x i b0 r:Nat} {st s b L:List Nat} {rv pv:Value} {K:Nat→Prop} {xs:List Value} {ps:List (List Nat)}
def XO (rv:Value) (n:Nat) (st:List Nat):List Value:=rv::.int .u64 (n:Nat)::ns .u32 st
def XN (rv:Value) (n:Nat) (st:List Nat):Ob:=⟨XO rv n st,true,true,true,1⟩
theorem GF (rv:Value) (n:Nat) (st:List Nat):(XO rv n st).length=2+st.length:=by simp [XO,Q9]; omega
theorem NO (h:st[i]?=some x):(XO rv n st)[2+i]?=some (.int .u32 (x:Nat)):=by
 rw [Xp]; exact ZM h
theorem mf (rv:Value) (n i x:Nat) (st:List Nat):(XO rv n st).set (2+i) (.int .u32 (x:Nat))=XO rv n (st.set i x):=by
 rw [Xp]
 show rv::.int .u64 (n:Nat)::(ns .u32 st).set i _=_
 rw [X8]; rfl
theorem Se (h:st.length=8):Zh 8 (Jr 2 (XO rv n st))=ns .u32 st:=by
 show Zh 8 (ns .u32 st)=_
 rw [Qm (by rw [Q9]; omega)]
theorem nD (hs:s.length=8):(DK s b).length=8:=by unfold DK; rw [Vp,WK hs,hs]; rfl
theorem rJ:∀ x∈DK s b,x<4294967296:=by
 intro x hx
 unfold DK at hx
 obtain ⟨i,hi⟩:=Xt hx
 rw [KE] at hi
 split at hi
 ·cases hi; exact Q5 _ (by decide)
 ·cases hi
def FY (H:List Ob) (hid:Nat) (rv:Value) (n:Nat) (st:List Nat) (s L:List Nat) (ob1 ob2:Ob) (i:Int) (ex:Env):St:=⟨[(0,.pointer (some ⟨hid,0,none⟩)),(214,.agg (ns .u32 s).toArray),(215,.int .i64 i)]++ex,H.set hid (XN rv n st)++[ob1,ob2],L⟩
theorem bq {ob1 ob2:Ob} (hh:hid<H.length) (hs:s.length=8) (hst:st.length=8) :
  ∃ L,Q2 T H.length (.block 4 (.loop MI)) (FY H hid rv n st s [] ob1 ob2 0 [])=some (.normal,FY H hid rv n (JL (fun x y=>(x+y)%4294967296) st s) s L ob1 ob2 8 [(216,.bool false)])∧∀ i∈L,i=hid:=by
 have hZ:(JL (fun x y=>(x+y)%4294967296) st s).length=8:=by rw [Vp,hs,hst]; rfl
 obtain ⟨Z,hZd⟩:∃ Z,Z=JL (fun x y=>(x+y)%4294967296) st s:=⟨_,rfl⟩
 rw [←hZd] at hZ ⊢
 obtain ⟨st',hb,L,rfl,hL⟩:=Zi (T:=T) (base:=H.length) (id:=4) (body:=MI)
  (fun i x=>∃ L,x=FY H hid rv n (Z.take i++st.drop i) s L ob1 ob2 i []∧∀ j∈L,j=hid)
  (Q:=fun x=>∃ L,x=FY H hid rv n Z s L ob1 ob2 8 [(216,.bool false)]∧∀ j∈L,j=hid)
  8 (s:=FY H hid rv n st s [] ob1 ob2 0 []) ⟨[],rfl,by simp⟩
  (fun i x hi hx=>by
   obtain ⟨L,rfl,hL⟩:=hx
   obtain ⟨u,hu⟩:∃ u,st[i]?=some u:=⟨_,Qf (by omega)⟩
   obtain ⟨v,hv⟩:∃ u,s[i]?=some u:=⟨_,Qf (by omega)⟩
   have hz:Z[i]?=some ((u+v)%4294967296):=by rw [hZd,KE,hu,hv]
   have hlt:(Z.take i).length=i:=by rw [Q6]; omega
   have hg:(Z.take i++st.drop i)[i]?=some u:=by
    rw [Qh (by omega),hlt,Q4,Zm]; exact hu
   have hstep:(Z.take i++st.drop i).set i ((u+v)%4294967296)=Z.take (i+1)++st.drop (i+1):=by
    rw [ZP _ _ (by omega),hlt,Q4,Jg (i:=i),hu,Zw,hz]
    simp
   have hlen:(Z.take i++st.drop i).length=8:=by rw [Qk,QP,hlt]; omega
   have gc:=NO (rv:=rv) (n:=n) hg
   have sc:=mf rv n i ((u+v)%4294967296) (Z.take i++st.drop i)
   rw [hstep] at sc
   have cl:=GF rv n (Z.take i++st.drop i)
   rw [hlen] at cl
   have vc:=ZM (k := .u32) hv
   have e1:((i:Int)<8)=True:=eq_true (by omega)
   have m1:=TS u v
   have w3:IntKind.i64.wrap ((i:Int)+1)=((i+1:Nat):Int):=Zx (b:=1) (by omega)
   have hget:∀ o:Ob,(H.set hid o++[ob1,ob2])[hid]?=some o:=fun o=>by
    rw [Qc (by rw [Q3]; exact hh),Qx hh]
   have hset:∀ o o':Ob,(H.set hid o++[ob1,ob2]).set hid o'=H.set hid o'++[ob1,ob2]:=fun o o'=>by
    rw [Vb _ _ (by rw [Q3]; exact hh),VU]
   have e5:(2+i+1≤2+8)=True:=eq_true (by omega)
   refine ⟨FY H hid rv n (Z.take (i+1)++st.drop (i+1)) s (Q1 H.length L [hid]) ob1 ob2 ((i+1:Nat):Int) [],?_,_,rfl,?_⟩
   ·generalize Z.take (i+1)++st.drop (i+1)=O2,Z.take i++st.drop i=O1 at *
    generalize (u+v)%4294967296=z at *
    simp only [FY,XN]
    generalize XO rv n O1=C1,XO rv n O2=C2,ns .u32 s=sv at *
    generalize i+1=i1 at *
    simp only [MI,Qs,quiet,cW,↓pW,reduceCtorEq,seval,-Qb,e1,vc,m1,w3,gc,sc,cl,e5,hget,hset]
    done
   ·intro j hj
    rcases J2 hj with h | h
    ·exact hL j h
    ·simpa using h)
  (fun x hx=>by
   obtain ⟨L,rfl,hL⟩:=hx
   rw [Qm (by omega),ZA (by omega),QF]
   refine ⟨_,?_,L,rfl,hL⟩
   simp only [FY,XN]
   generalize XO rv n Z=C
   generalize ns .u32 s=sv
   simp only [MI,Qs,quiet,cW,↓pW,reduceCtorEq,seval,-Qb])
 exact ⟨L,hb,hL⟩
theorem zQ_eq:Qa 64 (Value.int .u32 0)=ns .u32 (Qa 64 0):=rfl
theorem tQ_eq:Qa 80 (Value.int .u64 0)=ns .u64 (Qa 80 0):=rfl
theorem eG {id off cap:Nat} (hh:H[hid]?=some (XN rv n st)) (hs:st.length=8) (hx:∀ x∈st,x<4294967296) (hb:BB H id off b) (hl:b.length=64) :
  ∃ w s M,Z5 T 138 [.pointer (some ⟨hid,0,none⟩),.slice (some ⟨id,off,none⟩) 64 cap] H=some (.tuple #[],H.set hid (XN rv n (DK st b))++[w,s],M)∧∀ i∈M,i=hid:=by
 have hlt:hid<H.length:=(Qg.1 hh).1
 have h3:=bl (P := .pointer (some ⟨hid,0,none⟩)) (cap:=cap) hb hl
 have hWl:=VL b
 have h1:=bp (H:=H) (P := .pointer (some ⟨hid,0,none⟩)) hWl hs hx
 have lr:=WK hs (Jn b) 64
 obtain ⟨L,h0,hL⟩:=bq (H:=H) (hid:=hid) (n:=n) (rv:=rv) (ob1:=⟨ns .u32 (Jn b),true,true,true,1⟩) (ob2:=⟨ns .u64 Km,true,true,true,1⟩) hlt lr hs
 rw [show JL (fun x y=>(x+y)%4294967296) st (WU 64 (Jn b) st)=DK st b from rfl] at h0
 have hss:H.set hid (XN rv n st)=H:=YV hh
 refine ⟨⟨ns .u32 (Jn b),true,true,true,1⟩,⟨ns .u64 Km,true,true,true,1⟩,L,?_,hL⟩
 simp only [FY,hss,Qn,Ql,QB] at h0
 have hz:=zQ_eq
 have lz:(Qa 64 0).length=64:=Qe
 have hzt:=tQ_eq
 have lzt:(Qa 80 0).length=80:=Qe
 simp only [Tx,Qn,Ql,QB] at h3
 have ht:=SR
 have hget:∀ l:List Ob,(H++l)[hid]?=some ⟨XO rv n st,true,true,true,1⟩:=fun l=>by rw [Qc hlt]; exact hh
 have lk:=Ue
 obtain ⟨s0,s1,s2,s3,s4,s5,s6,s7,rfl⟩:=eight hs
 obtain ⟨R,hR⟩:∃ R,R=WU 64 (Jn b) [s0,s1,s2,s3,s4,s5,s6,s7]:=⟨_,rfl⟩
 rw [←hR] at h0 h1 lr
 obtain ⟨r0,r1,r2,r3,r4,r5,r6,r7,hRl⟩:=eight lr
 rw [hRl] at h0 h1
 clear hR hRl lr
 simp only [FX,Qn,Ql,QB,List.getD_cons_zero,List.getD_cons_succ] at h1
 have c0:(XO rv n [s0,s1,s2,s3,s4,s5,s6,s7])[2]?=some (.int .u32 (s0:Nat)):=rfl
 have c1:(XO rv n [s0,s1,s2,s3,s4,s5,s6,s7])[2+1]?=some (.int .u32 (s1:Nat)):=rfl
 have c2:(XO rv n [s0,s1,s2,s3,s4,s5,s6,s7])[2+2]?=some (.int .u32 (s2:Nat)):=rfl
 have c3:(XO rv n [s0,s1,s2,s3,s4,s5,s6,s7])[2+3]?=some (.int .u32 (s3:Nat)):=rfl
 have c4:(XO rv n [s0,s1,s2,s3,s4,s5,s6,s7])[2+4]?=some (.int .u32 (s4:Nat)):=rfl
 have c5:(XO rv n [s0,s1,s2,s3,s4,s5,s6,s7])[2+5]?=some (.int .u32 (s5:Nat)):=rfl
 have c6:(XO rv n [s0,s1,s2,s3,s4,s5,s6,s7])[2+6]?=some (.int .u32 (s6:Nat)):=rfl
 have c7:(XO rv n [s0,s1,s2,s3,s4,s5,s6,s7])[2+7]?=some (.int .u32 (s7:Nat)):=rfl
 have fR:fillL (Qa 8 (Value.int .u32 0)) [(0,1,.int .u32 (r0:Int)),(1,1,.int .u32 (r1:Int)),(2,1,.int .u32 (r2:Int)),(3,1,.int .u32 (r3:Int)),(4,1,.int .u32 (r4:Int)),(5,1,.int .u32 (r5:Int)),(6,1,.int .u32 (r6:Int)),(7,1,.int .u32 (r7:Int))]=some (ns .u32 [r0,r1,r2,r3,r4,r5,r6,r7]):=rfl
 generalize H.set hid (XN rv n (DK [s0,s1,s2,s3,s4,s5,s6,s7] b))=H' at *
 generalize ns .u32 [r0,r1,r2,r3,r4,r5,r6,r7]=R at *
 generalize Jn b=W at *
 generalize XO rv n [s0,s1,s2,s3,s4,s5,s6,s7]=C at *
 generalize Qa 64 0=Z,Qa 80 0=Z8 at *
 generalize Km=KT at *
 rw [Zb (fn:=vQ) rfl]
 simp only [vQ,Qs,quiet,cW,↓pW,reduceCtorEq,seval,-Qb,hz,hzt,h3,h1,h0,ht,hget,c0,c1,c2,c3,c4,c5,c6,c7,fR,Qe,Qy,Qz,Q7,Zc,Q8,Q9,hWl,lz,lzt,lk,QV]
 rfl
theorem Rst.setHQ {K:Nat→Prop} {H:List Ob} {v:Value} {l:List Nat} {hid n:Nat} {rv:Value} {st:List Nat} (h:Rst K H v l) (hh:H[hid]?=some (XN rv n st)) (o:Ob):Rst K (H.set hid o) v l:=by
 cases h with
 | nil=>exact .nil
 | empty h1 h2=>exact .empty h1 (by
   rw [Qu]
   ·exact h2
   ·intro e; subst e
    have:=congrArg Ob.cells (XA (hh.symm.trans h2))
    simp [XN,XO] at this)
 | own h1 h2 h4 h3=>exact .own h1 (by
   rw [Qu]
   ·exact h2
   ·intro e; subst e
    have:=congrArg Ob.exact (XA (hh.symm.trans h2))
    simp [XN] at this) h4 h3
theorem Be (b:List Nat):∀ n,(UG n b).length=8
 | 0=>rfl
 | n+1=>nD (Be b n)
theorem bN:∀ x∈XH,x<4294967296:=by decide
theorem TC (b:List Nat):∀ n,∀ x∈UG n b,x<4294967296
 | 0=>bN
 | n+1=>rJ
theorem L7 (a b:List Nat):∀ q,64*q≤a.length→UG q (a++b)=UG q a
 | 0,_=>rfl
 | q+1,h=>by
  rw [UG,UG,L7 a b q (by omega),Jb (by omega),ZJ (by rw [QP]; omega)]
def HshQ (K:Nat→Prop) (H:List Ob) (hid:Nat) (all:List Nat):Prop:=∃ rv,H[hid]?=some (XN rv all.length (UG (all.length/64) all))∧Rst K H rv (all.drop (64*(all.length/64)))
def Sp (hid:Nat):Value := .func (.func 138) [Value.pointer (some ⟨hid,0,none⟩)].toArray [].toArray
def Of (hid:Nat) (H:List Ob) (L:List Nat) (ex:Env):St:=⟨[(0,.pointer (some ⟨hid,0,none⟩)),(1,.int .i64 64),(3,Sp hid)]++ex,H,L⟩
theorem mM {rest:List Nat} {ex:Env} (hK:∀ i,K i→i<H.length) (hKh:¬ K hid) (hh:H[hid]?=some (XN rv n st)) (hs:st.length=8) (hx:∀ x∈st,x<4294967296) (hr:Rst K H rv rest) (h128:64≤rest.length) (xr:∀ x∈rest,x<256) (hL:∀ i∈L,¬ K i) (hmx:rest.length<2^60) :
  ∃ rv' H' L' ex',Q2 T b0 WC (Of hid H L ex)=some (.normal,Of hid H' L' ex')∧H'[hid]?=some (XN rv' n (DK st (rest.take 64)))∧Rst K H' rv' (rest.drop 64)∧(∀ i,K i→H'[i]?=H[i]?)∧H.length≤H'.length∧∀ i∈L',¬ K i:=by
 have hlt:hid<H.length:=(Qg.1 hh).1
 cases hr with
 | nil=>exact absurd h128 (by decide)
 | empty _ _=>exact absurd h128 (by decide)
 | @own id off all _ k1 k2 k4 k3 =>
  have hidne:id≠hid:=fun e=>by
   subst e
   have:=congrArg Ob.exact (XA (hh.symm.trans k2))
   simp [XN] at this
  have hBB:BB H id off (rest.take 64):=⟨⟨all,k2,fun i hi=>by
   rw [Q6] at hi
   rw [k3 i (by omega),QX,if_pos (by omega)]⟩,fun x hx=>xr x (QU hx)⟩
  have hl:(rest.take 64).length=64:=by rw [Q6]; omega
  obtain ⟨w,s,M,hb,hM⟩:=eG (cap:=rest.length) hh hs hx hBB hl
  have c0:∀ s',(XO (.slice (some ⟨id,off,none⟩) rest.length rest.length) n s')[0]?=some (.slice (some ⟨id,off,none⟩) rest.length rest.length):=fun _=>rfl
  have cs:∀ s' v,(XO (.slice (some ⟨id,off,none⟩) rest.length rest.length) n s').set 0 v=XO v n s':=fun _ _=>rfl
  have cl:∀ v s',(1≤(XO v n s').length)=True:=fun v s'=>eq_true (by rw [GF]; omega)
  have b1:J4 rest.length rest.length none (some (.int .i64 64)) none=some (0,64,rest.length):=by
   have n1:KR (some (.int .i64 64)) rest.length rest.length=some 64:=Kb (n:=64) h128
   rw [XZ,n1,Qo]; rfl
  have b2:J4 rest.length rest.length (some (.int .i64 64)) none none=some (64,rest.length,rest.length):=by
   have n1:KR (some (.int .i64 64)) rest.length 0=some 64:=Kb (n:=64) h128
   rw [XZ,Ub,Qo,n1,Qo]
  have e1:((64:Int)≤(rest.length:Int))=True:=eq_true (by omega)
  have g0:H[hid]?=some ⟨XO (.slice (some ⟨id,off,none⟩) rest.length rest.length) n st,true,true,true,1⟩:=hh
  have g1:∀ o:Ob,(H.set hid o++[w,s])[hid]?=some o:=fun o=>by
   rw [Qc (by rw [Q3]; exact hlt),Qx hlt]
  have g2:∀ o:Ob,(H.set hid o++[w,s])[id]?=some ⟨u8s all,true,true,false,1⟩:=fun o=>by
   rw [Qc (by rw [Q3]; exact (Qg.1 k2).1),Qu (Ne.symm hidne)]; exact k2
  have g3:∀ o o':Ob,(H.set hid o++[w,s]).set hid o'=H.set hid o'++[w,s]:=fun o o'=>by
   rw [Vb _ _ (by rw [Q3]; exact hlt),VU]
  refine ⟨.slice (some ⟨id,off+64,none⟩) (rest.length-64) (rest.length-64),H.set hid (XN (.slice (some ⟨id,off+64,none⟩) (rest.length-64) (rest.length-64)) n (DK st (rest.take 64)))++[w,s],Q1 b0 (Q1 b0 L M) [hid],[],?_,g1 _,?_,?_,?_,?_⟩
  ·simp only [XN] at hb ⊢
   generalize DK st (rest.take 64)=st' at *
   simp only [Of,Sp,WC,Qs,quiet,cW,↓pW,reduceCtorEq,seval,-Qb,e1,b1,b2,hb,c0,cs,cl,g0,k2,g1,g2,g3]
  ·have:=Rst.own (K:=K) (H:=H.set hid (XN (.slice (some ⟨id,off+64,none⟩) (rest.length-64) (rest.length-64)) n (DK st (rest.take 64)))++[w,s]) (id:=id) (off:=off+64) (all:=all) (l:=rest.drop 64) k1 (g2 _) (by rw [QP]; omega) (fun i hi=>by
    rw [QP] at hi
    rw [Zm,←k3 _ (by omega),Zu])
   rwa [QP] at this
  ·intro i hi
   rw [Qc (by rw [Q3]; exact hK i hi),Qu (fun e=>hKh (by rw [e]; exact hi))]
  ·simp
  ·intro i hi
   rcases J2 hi with h | h
   ·rcases J2 h with h | h
    ·exact hL i h
    ·rw [hM i h]; exact hKh
   ·rw [Xi.1 h]; exact hKh
theorem mJ {x:Value} {all p:List Nat} (hK:∀ i,K i→i<H.length) (hKh:¬ K hid) (hh:HshQ K H hid all) (xa:∀ y∈all,y<256) (xp:∀ y∈p,y<256)
 (hl:∃ (a:Option Addr) (c:Nat),x=.slice a p.length c) (he:∀ o,elemsOf (H.set hid o) 1 p.length x=some (u8s p)) (hb:all.length+p.length<2^50) (hb2:p.length≤2^47-128) :
    ∃ H' M,Z5 T 137 [.pointer (some ⟨hid,0,none⟩),.int .i64 64,x,Sp hid] H=some (.tuple #[],H',M)∧HshQ K H' hid (all++p)∧(∀ i,K i→H'[i]?=H[i]?)∧H.length≤H'.length∧∀ i∈M,¬ K i:=by
  obtain ⟨rv,h1,h2⟩:=hh
  have hlt:hid<H.length:=(Qg.1 h1).1
  obtain ⟨q0,hq0⟩:∃ q,q=all.length/64:=⟨_,rfl⟩
  rw [←hq0] at h1 h2
  have hq1:64*q0≤all.length:=by rw [hq0]; omega
  have hst:UG q0 all=UG q0 (all++p):=(L7 all p q0 hq1).symm
  have hN:(all++p).length=all.length+p.length:=Qk
  rw [hst] at h1
  obtain ⟨st0,hst0⟩:∃ s,s=UG q0 (all++p):=⟨_,rfl⟩
  rw [←hst0] at h1
  have hrest:all.drop (64*q0)++p=(all++p).drop (64*q0):=(Jb hq1).symm
  have hrl:(all.drop (64*q0)).length≤63:=by rw [QP,hq0]; omega
  have hr1:Rst K (H.set hid (XN rv (all.length+p.length) st0)) rv (all.drop (64*q0)):=h2.setHQ h1 _
  have hK1:∀ i,K i→i<(H.set hid (XN rv (all.length+p.length) st0)).length:=fun i hi=>by rw [Q3]; exact hK i hi
  have hlen:Go.Ev.lenV x=some p.length:=by obtain ⟨a,c,rfl⟩:=hl; rfl
  obtain ⟨rv',H2,M2,ha,a1,a2,a3,a4,a5⟩:=hr1.append hK1 hlen (he _) (by omega)
  have hg1:(H.set hid (XN rv (all.length+p.length) st0))[hid]?=some (XN rv (all.length+p.length) st0):=Qx hlt
  have hg2:=a5 hid _ hg1 rfl
  rw [Q3] at a3
  have hlt2:hid<H2.length:=by omega
  have hr3:Rst K (H2.set hid (XN rv' (all.length+p.length) st0)) rv' ((all++p).drop (64*q0)):=by
    rw [hrest] at a1
    exact a1.setHQ hg2 _
  have hg3:(H2.set hid (XN rv' (all.length+p.length) st0))[hid]?=some (XN rv' (all.length+p.length) st0):=Qx hlt2
  obtain ⟨H3,hH3⟩:∃ X,X=H2.set hid (XN rv' (all.length+p.length) st0):=⟨_,rfl⟩
  have hf3:∀ i,K i→H3[i]?=H[i]? := fun i hi=>by
    have hne:hid≠i:=fun e=>hKh (by rw [e]; exact hi)
    rw [hH3,Qu hne,a4 i hi,Qu hne]
  have hl3:H.length≤H3.length:=by rw [hH3,Q3]; exact a3
  obtain ⟨L3,hL3⟩:∃ L,L=Q1 H.length (Q1 H.length (Q1 H.length [] [hid]) M2) [hid]:=⟨_,rfl⟩
  have hL3':∀ i∈L3,¬ K i:=fun i hi=>by
    rw [hL3] at hi
    rcases J2 hi with h | h
    · rcases J2 h with h | h
      · rcases J2 h with h | h
        · simp at h
        · rw [Xi.1 h]; exact hKh
      · exact a2 i h
    · rw [Xi.1 h]; exact hKh
  rw [←hH3] at hr3 hg3
  obtain ⟨st,hloop,H',L',ex',rvf,rfl,f1,f2,f3,f4,f5⟩:=Zi (T:=T) (base:=H.length) (id:=0) (body:=WC)
    (fun k st=>∃ H' L' ex' rvk,st=Of hid H' L' ex'∧H'[hid]?=some (XN rvk (all.length+p.length) (UG (q0+k) (all++p)))∧Rst K H' rvk ((all++p).drop (64*(q0+k)))∧(∀ i,K i→H'[i]?=H[i]?)∧H.length≤H'.length∧∀ i∈L',¬ K i)
    (Q:=fun st=>∃ H' L' ex' rvk,st=Of hid H' L' ex'∧H'[hid]?=some (XN rvk (all.length+p.length) (UG ((all++p).length/64) (all++p)))∧Rst K H' rvk ((all++p).drop (64*((all++p).length/64)))∧(∀ i,K i→H'[i]?=H[i]?)∧H.length≤H'.length∧∀ i∈L',¬ K i)
    ((all++p).length/64-q0) (s:=Of hid H3 L3 []) ⟨H3,L3,[],rv',rfl,by rw [Jj,←hst0]; exact hg3,by rw [Jj]; exact hr3,hf3,hl3,hL3'⟩
    (fun k st hk hs=>by
      obtain ⟨Hk,Lk,exk,rvk,rfl,k1,k2,k3,k4,k5⟩:=hs
      obtain ⟨rv2,Hk2,L2,ex2,j1,j2,j3,j4,j5,j6⟩:=mM (b0:=H.length) (ex:=exk) (fun i hi=>QM (hK i hi) k4) hKh k1 (Be _ _) (TC _ _) k2 (by rw [QP]; omega) (fun y hy=>by
        rcases QE.1 (ZD hy) with h | h
        · exact xa y h
        · exact xp y h) k5 (by rw [QP]; omega)
      refine ⟨_,j1,Hk2,L2,ex2,rv2,rfl,j2,?_,fun i hi=>(j4 i hi).trans (k3 i hi),Xh k4 j5,j6⟩
      rw [List.drop_drop] at j3
      rw [show 64*(q0+(k+1))=64*(q0+k)+64 by omega]
      exact j3)
    (fun st hs=>by
      obtain ⟨Hk,Lk,exk,rvk,rfl,k1,k2,k3,k4,k5⟩:=hs
      have hqq:q0+((all++p).length/64-q0)=(all++p).length/64:=by
        have:q0≤(all++p).length/64:=by rw [hq0,hN]; omega
        omega
      rw [hqq] at k1 k2
      have hrl2:((all++p).drop (64*((all++p).length/64))).length<64:=by rw [QP]; omega
      obtain ⟨v,c,hv⟩:=k2.shape
      refine ⟨_,?_,Hk,Lk,[(33,.bool false)],rvk,rfl,k1,k2,k3,k4,k5⟩
      subst hv
      have c0:∀ v' s',(XO v' (all.length+p.length) s')[0]?=some v':=fun _ _=>rfl
      have e1:((64:Int)≤(((all++p).drop (64*((all++p).length/64))).length:Int))=False:=eq_false (by omega)
      simp only [XN] at k1
      generalize ((all++p).drop (64*((all++p).length/64))).length=rl,UG ((all++p).length/64) (all++p)=sk at *
      simp only [Of,Sp,WC,Qs,quiet,cW,↓pW,reduceCtorEq,seval,-Qb,e1,k1,c0])
  refine ⟨H',L',?_,⟨rvf,by rw [hN] at f1 ⊢; exact f1,f2⟩,f3,f4,f5⟩
  obtain ⟨c1,c2,rfl⟩:=hl
  simp only [Of,Qn,Ql,hL3] at hloop
  simp only [XN] at h1 ha hg2 hH3
  have w1:IntKind.u64.wrap (p.length:Int)=(p.length:Int):=Kn (by omega)
  have w2:IntKind.u64.wrap ((all.length:Int)+(p.length:Int))=((all.length+p.length:Nat):Int):=YY (by omega)
  have c0:∀ v' n' s',(XO v' n' s')[0]?=some v':=fun _ _ _=>rfl
  have c1':∀ v' (n':Nat) s',(XO v' n' s')[1]?=some (.int .u64 n'):=fun _ _ _=>rfl
  have s0:∀ v' n' s' v,(XO v' n' s').set 0 v=XO v n' s':=fun _ _ _ _=>rfl
  have s1:∀ v' n' s' (m:Nat),(XO v' n' s').set 1 (.int .u64 (m:Int))=XO v' m s':=fun _ _ _ _=>rfl
  have cl:∀ v n' s',(1≤(XO v n' s').length)=True:=fun v n' s'=>eq_true (by rw [GF]; omega)
  have cl2:∀ v n' s',(2≤(XO v n' s').length)=True:=fun v n' s'=>eq_true (by rw [GF]; omega)
  have hgs:∀ o:Ob,(H.set hid o)[hid]?=some o:=fun o=>Qx hlt
  obtain ⟨vr,cr,hvr⟩:=a1.shape
  have hok:Z7 rv'=true:=by rw [hvr]; rfl
  have hc1:rv'.cells.toList=[rv']:=by rw [hvr]; rfl
  have hc2:rv'.cells.size=1:=by rw [hvr]; rfl
  clear hvr
  generalize all.length+p.length=NN at *
  rw [Zb (fn:=nV) rfl]
  simp only [nV,Qs,quiet,cW,↓pW,reduceCtorEq,seval,-Qb,Sp,h1,c0,c1',s0,s1,cl,cl2,w1,w2,hgs,ha,hg2,←hH3,hok,hc1,hc2]
  simp only [Sp] at hloop
  simp only [hloop,Qs,quiet,cK,↓pQ,reduceCtorEq,seval,-Qb,cL]
  rfl
def Li (hid:Nat) (pv:Value) (n:Nat) (i:Int) (H:List Ob) (L:List Nat) (ex:Env):St:=⟨[(0,.pointer (some ⟨hid,0,none⟩)),(6,pv),(7,.int .i64 n),(8,.int .i64 i)]++ex,H,L⟩
theorem eU {H0:List Ob} {all:List Nat} (hK:∀ i,K i→i<H.length) (hKh:¬ K hid) (hh:HshQ K H hid all) (xa:∀ y∈all,y<256) (hp:PV K H0 pv xs) (hP:HParts K H0 xs ps) (hF:∀ i,K i→H[i]?=H0[i]?) (hL:∀ i∈L,¬ K i) (hi:i<xs.length) (hn:xs.length<2^50) (hb:all.length+(ps.getD i []).length<2^50) :
  ∃ H' L',Q2 T b0 MN (Li hid pv xs.length i H L [])=some (.normal,Li hid pv xs.length ((i+1:Nat):Int) H' L' [])∧HshQ K H' hid (all++ps.getD i [])∧(∀ i,K i→H'[i]?=H[i]?)∧H.length≤H'.length∧∀ i∈L',¬ K i:=by
 obtain ⟨x,hx⟩:∃ x,xs[i]?=some x:=⟨_,Qf hi⟩
 obtain ⟨p,hpi,hpp⟩:=hP.get hx
 have hgd:ps.getD i []=p:=by rw [QA,hpi]; rfl
 rw [hgd] at hb ⊢
 obtain ⟨H',M,hf,f1,f2,f3,f4⟩:=mJ hK hKh hh xa hpp.lt hpp.shape (fun o=>hpp.reads _ (fun j hj=>by
  rw [Qu (fun e=>hKh (by rw [e]; exact hj))]; exact hF j hj)) hb hpp.le
 rcases hp with ⟨-,h0⟩ | ⟨pid,off,cap,o,rfl,kp,ho,hlv,hc⟩
 ·rw [h0] at hi; exact absurd hi (Yd _)
 ·have ho':H[pid]?=some o:=(hF pid kp).trans ho
  have hcx:o.cells[off+i]?=some x:=(hc i hi).trans hx
  have e1:((i:Int)<(xs.length:Int))=True:=eq_true (by omega)
  have w3:IntKind.i64.wrap ((i:Int)+1)=((i+1:Nat):Int):=Zx (b:=1) (by omega)
  refine ⟨H',Q1 b0 L M,?_,f1,f2,f3,fun j hj => ?_⟩
  ·simp only [Sp] at hf
   generalize i+1=i1 at *
   simp only [Li,MN,Qs,quiet,cW,↓pW,reduceCtorEq,seval,-Qb,e1,ho',hlv,hcx,w3,hf]
  ·rcases J2 hj with h | h
   ·exact hL j h
   ·exact f4 j h
theorem Hn {all:List Nat} (hK:∀ i,K i→i<H.length) (hKh:¬ K hid) (hh:HshQ K H hid all) (xa:∀ y∈all,y<256) (hp:PV K H pv xs) (hP:HParts K H xs ps) (hn:xs.length<2^50) (hb:(all++ps.flatten).length<2^50) :
  ∃ H' M,Z5 T 82 [.pointer (some ⟨hid,0,none⟩),pv] H=some (.tuple #[],H',M)∧HshQ K H' hid (all++ps.flatten)∧(∀ i,K i→H'[i]?=H[i]?)∧H.length≤H'.length∧∀ i∈M,¬ K i:=by
 obtain ⟨st,hl,H',L',rfl,f1,f2,f3,f4⟩:=Zi (T:=T) (base:=H.length) (id:=0) (body:=MN)
  (fun i st=>∃ H' L',st=Li hid pv xs.length (i:Nat) H' L' []∧HshQ K H' hid (all++(ps.take i).flatten)∧(∀ i,K i→H'[i]?=H[i]?)∧H.length≤H'.length∧∀ i∈L',¬ K i)
  (Q:=fun st=>∃ H' L',st=Li hid pv xs.length (xs.length:Nat) H' L' [(9,.bool false)]∧HshQ K H' hid (all++ps.flatten)∧(∀ i,K i→H'[i]?=H[i]?)∧H.length≤H'.length∧∀ i∈L',¬ K i)
  xs.length (s:=Li hid pv xs.length 0 H [] []) ⟨H,[],rfl,by simpa using hh,fun _ _=>rfl,Qr _,by simp⟩
  (fun i st hi hs=>by
   obtain ⟨H1,L1,rfl,g1,g2,g3,g4⟩:=hs
   have hpl:=hP.len
   have hsp:ps.flatten=(ps.take i).flatten++((ps.getD i [])++(ps.drop (i+1)).flatten):=by
    obtain ⟨p,hpi⟩:∃ p,ps[i]?=some p:=⟨_,Qf (by omega)⟩
    have hgd:ps.getD i []=p:=by rw [QA,hpi]; rfl
    rw [hgd,←QO,←ZY]
    congr 1
    have h1:=Qg.1 hpi
    conv=>lhs; rw [←Z3 i ps,List.drop_eq_getElem_cons h1.1,h1.2]
   have htk:(ps.take (i+1)).flatten=(ps.take i).flatten++ps.getD i []:=by
    obtain ⟨p,hpi⟩:∃ p,ps[i]?=some p:=⟨_,Qf (by omega)⟩
    have hgd:ps.getD i []=p:=by rw [QA,hpi]; rfl
    rw [hgd,Zw,hpi,ZY]; simp
   have hlt:=hP.lt
   obtain ⟨H2,L2,j1,j2,j3,j4,j5⟩:=eU (b0:=H.length) (fun j hj=>QM (hK j hj) g3) hKh g1 (fun y hy=>by
    rcases QE.1 hy with h | h
    ·exact xa y h
    ·exact hlt y (by rw [hsp]; exact List.mem_append_left _ h)) hp hP g2 g4 hi hn (by
     rw [hsp] at hb
     simp only [Qk] at hb ⊢
     omega)
   refine ⟨_,j1,H2,L2,rfl,by rw [htk,←Qt]; exact j2,fun j hj=>(j3 j hj).trans (g2 j hj),Xh g3 j4,j5⟩)
  (fun st hs=>by
   obtain ⟨H1,L1,rfl,g1,g2,g3,g4⟩:=hs
   rw [Qm (by rw [hP.len]; exact Qr _)] at g1
   refine ⟨_,?_,H1,L1,rfl,g1,g2,g3,g4⟩
   have e1:((xs.length:Int)<(xs.length:Int))=False:=eq_false (by omega)
   simp only [Li,MN,Qs,quiet,cK,↓pQ,reduceCtorEq,seval,-Qb,cL,cJ,e1])
 refine ⟨H',L',?_,f1,f2,f3,f4⟩
 simp only [Li,Qn,Ql,QB] at hl
 have hlen:vLen false pv=some (.int .i64 xs.length):=by
  rcases hp with ⟨rfl,h0⟩ | ⟨pid,off,cap,o,rfl,-⟩
  ·rw [h0]; rfl
  ·rfl
 rw [Zb (fn:=vV) rfl]
 simp only [vV,Qs,quiet,cW,↓pW,reduceCtorEq,seval,-Qb,hlen,hl]
 rfl
theorem dp:fillL (Value.slice none 0 0::.int .u64 0::Qa 8 (.int .u32 0)) [(2,8,.agg (ns .u32 XH).toArray)]=some (XO (.slice none 0 0) 0 XH):=rfl
theorem aI (H:List Ob):Z5 T 81 [] H=some (.pointer (some ⟨H.length,0,none⟩),H++[XN (.slice none 0 0) 0 XH],[]):=by
 have hf:fillL (Qa 8 (Value.int .u32 0)) [(0,1,.int .u32 1779033703),(1,1,.int .u32 3144134277),(2,1,.int .u32 1013904242),(3,1,.int .u32 2773480762),(4,1,.int .u32 1359893119),(5,1,.int .u32 2600822924),(6,1,.int .u32 528734635),(7,1,.int .u32 1541459225)]=some (ns .u32 XH):=rfl
 have hf2:∀ a,fillL [Value.slice none 0 0,.int .u64 0,.int .u32 0,.int .u32 0,.int .u32 0,.int .u32 0,.int .u32 0,.int .u32 0,.int .u32 0,.int .u32 0] [(2,8,.agg (ns .u32 a).toArray)]=fillL (Value.slice none 0 0::.int .u64 0::Qa 8 (.int .u32 0)) [(2,8,.agg (ns .u32 a).toArray)]:=fun _=>rfl
 have hf3:=dp
 simp only [XN]
 generalize XH=S at *
 generalize XO (.slice none 0 0) 0 S=C at *
 rw [Zb (fn:=vW) rfl]
 simp only [vW,Qs,quiet,cW,↓pW,reduceCtorEq,seval,-Qb,hf,hf2,hf3]
theorem N7 (h:H[hid]?=some (XN (.slice none 0 0) 0 XH)):HshQ K H hid []:=⟨_,h,.nil⟩
def I1 (hid:Nat) (s:Value) (Hc:List Ob) (ex:Env):St:=⟨[(0,.pointer (some ⟨hid,0,none⟩)),(1,.int .i64 64),(2,.int .i64 8),(7,s)]++ex,Hc,[]⟩
def A4 (hid:Nat) (s:Value) (i:Int) (Hc:List Ob) (ex:Env):St:=⟨[(0,.pointer (some ⟨hid,0,none⟩)),(7,s),(8,.int .i64 i)]++ex,Hc,[]⟩
theorem Rw (n:Nat):(n+(1+XB n)+8)%64=0:=by unfold XB; omega
theorem Mf (n z:Nat) (h:z<XB n):(n+(1+z)+8)%64≠0:=by unfold XB at h; omega
theorem Gx (n:Nat):XB n<64:=by unfold XB; omega
theorem j8 (hh:H[hid]?=some (XN rv n st)) (hn:n<2^50) :
  ∃ s l,Q2 T H.length (.block 0 (.loop WB)) (I1 hid (.slice (some ⟨H.length,0,none⟩) 1 1) (H++[⟨[.int .u8 128],true,true,true,1⟩]) [])=some (.normal,I1 hid s (H++l) [(23,.bool false)])∧Grown .u8 H.length (H++l) s (128::Qa (XB n) 0):=by
 have hlt:hid<H.length:=(Qg.1 hh).1
 have f0:fillL [Value.int .u8 0] [(0,1,.int .u8 0)]=some [.int .u8 0]:=rfl
 have c1:(XO rv n st)[1]?=some (.int .u64 n):=rfl
 have hz:=Gx n
 obtain ⟨x,hb,s,Hc,rfl,hg,hL,hF⟩:=Zi (T:=T) (base:=H.length) (id:=0) (body:=WB)
  (fun j x=>∃ s Hc,x=I1 hid s Hc []∧Grown .u8 H.length Hc s (128::Qa j 0)∧H.length≤Hc.length∧∀ i,i<H.length→Hc[i]?=H[i]?)
  (Q:=fun x=>∃ s Hc,x=I1 hid s Hc [(23,.bool false)]∧Grown .u8 H.length Hc s (128::Qa (XB n) 0)∧H.length≤Hc.length∧∀ i,i<H.length→Hc[i]?=H[i]?)
  (XB n) (s:=I1 hid (.slice (some ⟨H.length,0,none⟩) 1 1) (H++[⟨[.int .u8 128],true,true,true,1⟩]) []) ⟨_,_,rfl,Grown.new (k := .u8) (id:=H.length) (bs:=[128]) (Qr _) (by decide) (by simp [Ob.fresh,ns]),by simp,fun i hi=>Qc hi⟩
  (fun j x hj hx=>by
   obtain ⟨s,Hc,rfl,hg,hL,hF⟩:=hx
   have hl:=hg.len
   have e1:(128::Qa j 0).length=1+j:=by simp; omega
   rw [e1] at hl
   obtain ⟨s',H',M,h1,h2,h3,h4,h5⟩:=Wi (x:=0) (bytes:=1) hg hL (by rw [e1]; omega) (by decide)
   have hm:Q1 H.length [] M=[]:=QD h3
   have hget:Hc[hid]?=some ⟨XO rv n st,true,true,true,1⟩:=(hF hid hlt).trans hh
   have w1:IntKind.i64.wrap (n:Int)=(n:Int):=wn (by omega)
   have w2:IntKind.i64.wrap ((n:Int)+((1+j:Nat):Int))=((n+(1+j):Nat):Int):=Zx (by omega)
   have w3:IntKind.i64.wrap (((n+(1+j):Nat):Int)+8)=((n+(1+j)+8:Nat):Int):=Zx (b:=8) (by omega)
   have w4:((n+(1+j)+8:Nat):Int).tmod 64=(((n+(1+j)+8)%64:Nat):Int):=rfl
   have w5:((((n+(1+j)+8)%64:Nat):Int) != 0)=true:=bne_iff_ne.2 (by have:=Mf n j hj; omega)
   refine ⟨I1 hid s' H' [],?_,s',H',rfl,by rw [Vc,←Qn]; exact h2,h4,fun i hi=>by rw [h5 i hi,hF i hi]⟩
   simp only [QB] at h1
   generalize (n+(1+j)+8)%64=r at *
   generalize n+(1+j)+8=r2 at *
   generalize n+(1+j)=r3 at *
   simp only [I1,WB,Qs,quiet,cW,↓pW,reduceCtorEq,seval,-Qb,hget,c1,hl,w1,w2,w3,w4,w5,f0,h1,hm])
  (fun x hx=>by
   obtain ⟨s,Hc,rfl,hg,hL,hF⟩:=hx
   have hl:=hg.len
   have e1:(128::Qa (XB n) 0).length=1+XB n:=by simp; omega
   rw [e1] at hl
   have hget:Hc[hid]?=some ⟨XO rv n st,true,true,true,1⟩:=(hF hid hlt).trans hh
   have w1:IntKind.i64.wrap (n:Int)=(n:Int):=wn (by omega)
   have w2:IntKind.i64.wrap ((n:Int)+((1+XB n:Nat):Int))=((n+(1+XB n):Nat):Int):=Zx (by omega)
   have w3:IntKind.i64.wrap (((n+(1+XB n):Nat):Int)+8)=((n+(1+XB n)+8:Nat):Int):=Zx (b:=8) (by omega)
   have w4:((n+(1+XB n)+8:Nat):Int).tmod 64=0:=by
    have:((n+(1+XB n)+8:Nat):Int).tmod 64=(((n+(1+XB n)+8)%64:Nat):Int):=rfl
    rw [this,Rw]; rfl
   refine ⟨_,?_,s,Hc,rfl,hg,hL,hF⟩
   generalize n+(1+XB n)+8=r2 at *
   generalize n+(1+XB n)=r3 at *
   simp only [I1,WB,Qs,quiet,cW,↓pW,reduceCtorEq,seval,-Qb,hget,c1,hl,w1,w2,w3,w4])
 obtain ⟨l,rfl⟩:=XJ hL hF
 exact ⟨s,l,hb,hg⟩
def V0 (n i:Nat):Nat:=8*n/256^(7-i)%256
theorem iZ {l0:List Ob} {s0:Value} {bs:List Nat} (hh:H[hid]?=some (XN rv n st)) (hn:n<2^50) (hg0:Grown .u8 H.length (H++l0) s0 bs) (hbs:bs.length≤200) :
  ∃ s l,Q2 T H.length (.block 2 (.loop VP)) (A4 hid s0 7 (H++l0) [])=some (.normal,A4 hid s (-1) (H++l) [(30,.bool false)])∧Grown .u8 H.length (H++l) s (bs++(Z9 8).map (V0 n)):=by
 have hlt:hid<H.length:=(Qg.1 hh).1
 have c1:(XO rv n st)[1]?=some (.int .u64 n):=rfl
 obtain ⟨x,hb,s,Hc,rfl,hg,hL,hF⟩:=Zi (T:=T) (base:=H.length) (id:=2) (body:=VP)
  (fun j x=>∃ s Hc,x=A4 hid s ((7:Int)-j) Hc []∧Grown .u8 H.length Hc s (bs++(Z9 j).map (V0 n))∧H.length≤Hc.length∧∀ i,i<H.length→Hc[i]?=H[i]?)
  (Q:=fun x=>∃ s Hc,x=A4 hid s (-1) Hc [(30,.bool false)]∧Grown .u8 H.length Hc s (bs++(Z9 8).map (V0 n))∧H.length≤Hc.length∧∀ i,i<H.length→Hc[i]?=H[i]?)
  8 (s:=A4 hid s0 7 (H++l0) []) ⟨_,_,rfl,by simpa using hg0,by simp,fun i hi=>Qc hi⟩
  (fun j x hj hx=>by
   obtain ⟨s,Hc,rfl,hg,hL,hF⟩:=hx
   obtain ⟨i,hi⟩:∃ i,i=7-j:=⟨_,rfl⟩
   rw [show (7:Int)-j=(i:Int) by omega,show (7:Int)-((j+1:Nat):Int)=(i:Int)-1 by omega]
   have hl:=hg.len
   have hpd:V0 n j=8*n/256^i%256:=by rw [hi]; rfl
   obtain ⟨s',H',M,h1,h2,h3,h4,h5⟩:=Wi (x:=V0 n j) (bytes:=1) hg hL (by rw [Qk,List.length_map,List.length_range]; omega) (by decide)
   have hm:Q1 H.length [] M=[]:=QD h3
   have hget:Hc[hid]?=some ⟨XO rv n st,true,true,true,1⟩:=(hF hid hlt).trans hh
   have fx:∀ a:Int,fillL [Value.int .u8 0] [(0,1,.int .u8 a)]=some [.int .u8 a]:=fun _=>rfl
   have w0:IntKind.i64.wrap ((i:Int)-1)=(i:Int)-1:=Zf (by omega) (by omega)
   have e0:((0:Int)≤(i:Int))=True:=eq_true (by omega)
   refine ⟨A4 hid s' ((i:Int)-1) H' [],?_,s',H',rfl,by rw [List.range_succ,List.map_append,←Qt]; exact h2,h4,fun k hk=>by rw [h5 k hk,hF k hk]⟩
   rw [hpd] at h1
   by_cases h9:i<9
   ·have e9:((i:Int)<9)=True:=eq_true (by omega)
    have w1:IntKind.i64.wrap (8*(i:Int))=((8*i:Nat):Int):=UE (a:=8) (by omega)
    have w2:(((8*i:Nat):Int)<0)=False:=eq_false (by omega)
    have w3:(n:Int).fdiv (2^min (8*i) IntKind.u64.bits)=((n/256^i:Nat):Int):=by
     rw [Dn (by omega),show (256:Nat)=2^8 from rfl,←Ja]
    have hle:n/256^i≤n:=Jq _ _
    have w4:IntKind.u64.wrap (((n/256^i:Nat):Int)*2^min 3 IntKind.u64.bits)=((n/256^i*8:Nat):Int):=Uu (b:=8) (by omega)
    have w5:IntKind.u8.wrap ((n/256^i*8:Nat):Int)=((n/256^i*8%256:Nat):Int):=GA _
    by_cases hz:i=0
    ·subst hz
     have e8:n/256^0*8%256=8*n/256^0%256:=by rw [ZF,Jt,Jt]; omega
     rw [e8] at w5
     have ew:(8*0:Nat)=0:=rfl
     simp only [ew,QB] at w1 w2 w3
     generalize 8*n/256^0%256=d at *
     generalize n/256^0*8=v1 at *
     generalize n/256^0=v2 at *
     simp only [A4,VP,Qs,quiet,cW,↓pW,reduceCtorEq,seval,-Qb,hget,c1,w0,e0,e9,w1,w2,w3,w4,w5,fx,h1,hm]
    ·obtain ⟨k,rfl⟩:∃ k,i=k+1:=⟨i-1,by omega⟩
     have hd:=Fj n k
     have ep:((0:Int)<((k+1:Nat):Int))=True:=eq_true (by omega)
     have v1:IntKind.i64.wrap (((8*(k+1):Nat):Int)-8)=((8*k:Nat):Int):=by rw [Zf (by omega) (by omega)]; omega
     have v2:(((8*k:Nat):Int)<0)=False:=eq_false (by omega)
     have v3:(n:Int).fdiv (2^min (8*k) IntKind.u64.bits)=((n/256^k:Nat):Int):=by
      rw [Dn (by omega),show (256:Nat)=2^8 from rfl,←Ja]
     have v4:Zp .and .u64 ((n/256^k:Nat):Int) 255=((n/256^k%256:Nat):Int):=UP .u64 rfl 8 _ (by decide)
     have v5:((n/256^k%256:Nat):Int).fdiv (2^min 5 IntKind.u64.bits)=((n/256^k%256/32:Nat):Int):=Dn (r:=5) (by decide)
     have v6:IntKind.u8.wrap ((n/256^k%256/32:Nat):Int)=((n/256^k%256/32:Nat):Int):=by rw [GA,Qv (by omega)]
     have v7:Zp .or .u8 ((n/256^(k+1)*8%256:Nat):Int) ((n/256^k%256/32:Nat):Int)=((8*n/256^(k+1)%256:Nat):Int):=by
      rw [XY rfl (show _<2^8 from Q5 _ (by decide)) (show n/256^k%256/32<2^8 by omega),hd]
     generalize 8*n/256^(k+1)%256=d at *
     generalize n/256^(k+1)*8%256=u1 at *
     generalize n/256^(k+1)*8=u2 at *
     generalize n/256^(k+1)=u3 at *
     generalize n/256^k%256/32=u4 at *
     generalize n/256^k%256=u5 at *
     generalize n/256^k=u6 at *
     generalize 8*(k+1)=u7 at *
     generalize 8*k=u8' at *
     generalize k+1=k1 at *
     simp only [A4,VP,Qs,quiet,cW,↓pW,reduceCtorEq,seval,-Qb,hget,c1,w0,e0,e9,ep,w1,w2,w3,w4,w5,v1,v2,v3,v4,v5,v6,v7,fx,h1,hm]
   ·have e9:((i:Int)<9)=False:=eq_false (by omega)
    have ep:((0:Int)<(i:Int))=True:=eq_true (by omega)
    have hz:8*n/256^i%256=0:=by
     have:(256:Nat)^9≤256^i:=Zk (by decide) (by omega)
     rw [Nat.div_eq_of_lt (QM (by omega) this)]
    rw [hz] at h1
    simp only [QB] at h1
    simp only [A4,VP,Qs,quiet,cW,↓pW,reduceCtorEq,seval,-Qb,hget,c1,w0,e0,e9,ep,fx,h1,hm])
  (fun x hx=>by
   obtain ⟨s,Hc,rfl,hg,hL,hF⟩:=hx
   have e:((0:Int) ≤ -1)=False:=by decide
   refine ⟨_,?_,s,Hc,rfl,hg,hL,hF⟩
   rw [show (7:Int)-((8:Nat):Int) = -1 by omega]
   simp only [A4,VP,Qs,quiet,cK,↓pQ,reduceCtorEq,seval,-Qb,cL,e])
 obtain ⟨l,rfl⟩:=XJ hL hF
 exact ⟨s,l,hb,hg⟩
theorem LV (n:Nat):Yj n=(128::Qa (XB n) 0)++(Z9 8).map (V0 n):=by unfold Yj V0; rw [Qn]
theorem LR (hh:H[hid]?=some (XN rv n st)) (hn:n<2^50) :
  ∃ s l,Z5 T 139 [.pointer (some ⟨hid,0,none⟩),.int .i64 64,.int .i64 8] H=some (s,H++l,[])∧Grown .u8 H.length (H++l) s (Yj n):=by
 obtain ⟨s1,l1,h1,g1⟩:=j8 hh hn
 have hz:=Gx n
 obtain ⟨s2,l2,h2,g2⟩:=iZ hh hn g1 (by simp; omega)
 rw [←LV] at g2
 refine ⟨s2,l2,?_,g2⟩
 have f128:fillL [Value.int .u8 0] [(0,1,.int .u8 128)]=some [.int .u8 128]:=rfl
 have w1:IntKind.i64.wrap 7=7:=by decide
 simp only [I1,Qn,Ql] at h1
 simp only [A4,Qn,Ql] at h2
 rw [Zb (fn:=nU) rfl]
 simp only [nU,Qs,quiet,cW,↓pW,reduceCtorEq,seval,-Qb,f128,h1,w1,h2]
theorem Wh (b:List Nat):(Vx b).length=32:=by simp [Vx]
theorem Io (b:List Nat):∀ x∈Vx b,x<256:=by
 intro x hx
 simp only [Vx,Xj] at hx
 obtain ⟨i,-,rfl⟩:=hx
 exact Q5 _ (by decide)
def Pg (r x o:Nat) (G:List Ob) (b:List Nat) (i:Int) (ex:Env):St:=⟨[(2,.pointer (some ⟨r,0,none⟩)),(3,.pointer (some ⟨x,0,none⟩)),(4,.pointer (some ⟨G.length,0,none⟩)),(32,.int .i64 i)]++ex,G++[⟨u8s b,true,true,true,1⟩],[]⟩
theorem bH {base:Nat} {G:List Ob} {R:List Nat} (hx:G[x]?=some (XN rv n st)) (hs:st.length=8) (hR:R.length=32) (hRi:∀ i,i<32→R[i]?=some (st.getD (i/4) 0/256^(3-i%4)%256)) (hxs:∀ y∈st,y<4294967296) (hb:base≤G.length) :
  Q2 T base (.block 0 (.loop MM)) (Pg r x 0 G (Qa 32 0) 0 [])=some (.normal,Pg r x 0 G R 32 [(33,.bool false)]):=by
 have h:=ZV (T:=T) (base:=base) (id:=0) (body:=MM) (fun i=>Pg r x 0 G (pf 32 R i) i []) (s':=Pg r x 0 G R 32 [(33,.bool false)]) 32
  (fun i hi=>by
   obtain ⟨w,hw⟩:∃ w,st[i/4]?=some w:=⟨_,Qf (by omega)⟩
   have hw':=hxs w (Qp hw)
   have hv:=hRi i hi
   rw [JJ hw] at hv
   have hstep:=XE hR hi hv
   have hlen:=Ko hR (Js hi)
   have hset:=Xb (pf 32 R i) i (w/256^(3-i%4)%256)
   rw [hstep] at hset
   have gc:=NO (rv:=rv) (n:=n) hw
   have hget:∀ l:List Ob,(G++l)[x]?=some ⟨XO rv n st,true,true,true,1⟩:=fun l=>by rw [Qc (Qg.1 hx).1]; exact hx
   have e1:((i:Int)<32)=True:=eq_true (by omega)
   have w3:IntKind.i64.wrap ((i:Int)+1)=((i+1:Nat):Int):=Zx (b:=1) (by omega)
   have w4:IntKind.i64.wrap ((i:Int).tdiv 4)=((i/4:Nat):Int):=wn (n:=i/4) (by omega)
   have e2:(((i/4:Nat):Int)<8)=True:=eq_true (by omega)
   have w5:(i:Int).tmod 4=((i%4:Nat):Int):=rfl
   have w6:IntKind.i64.wrap (8*((i%4:Nat):Int))=((8*(i%4):Nat):Int):=UE (a:=8) (by omega)
   have w7:IntKind.i64.wrap (24-((8*(i%4):Nat):Int))=((8*(3-i%4):Nat):Int):=by rw [Zf (by omega) (by omega)]; omega
   have e3:(((8*(3-i%4):Nat):Int)<0)=False:=eq_false (by omega)
   have w8:(w:Int).fdiv (2^min (8*(3-i%4)) IntKind.u32.bits)=((w/256^(3-i%4):Nat):Int):=by
    rw [Ah (by omega),show (256:Nat)=2^8 from rfl,←Ja]
   have w9:IntKind.u8.wrap ((w/256^(3-i%4):Nat):Int)=((w/256^(3-i%4)%256:Nat):Int):=GA _
   have e4:(i≤31)=True:=eq_true (by omega)
   have m1:Q1 base [] [G.length]=[]:=QD (by simpa using hb)
   clear hstep hv hw
   generalize pf 32 R i=o1,pf 32 R (i+1)=o2 at *
   generalize w/256^(3-i%4)%256=d at *
   generalize w/256^(3-i%4)=d2 at *
   generalize 8*(3-i%4)=d3 at *
   generalize 8*(i%4)=d4 at *
   generalize i%4=d5 at *
   generalize i/4=d6 at *
   generalize i+1=i1 at *
   simp only [Pg,MM,Qs,quiet,cW,↓pW,reduceCtorEq,seval,-Qb,e1,e2,e3,e4,w3,w4,w5,w6,w7,w8,w9,hget,gc,hset,Qq,hlen,m1])
  (by
   rw [Ku hR]
   simp only [Pg,MM,Qs,quiet,cW,↓pW,reduceCtorEq,seval,-Qb])
 rw [Kt] at h
 exact h
theorem LU (n:Nat):∀ y∈Yj n,y<256:=by
 intro y hy
 simp only [Yj,J0,QE,VW,Xj] at hy
 rcases hy with rfl | ⟨-,rfl⟩ | ⟨i,-,rfl⟩
 ·decide
 ·decide
 ·exact Q5 _ (by decide)
theorem Hz (n:Nat):(Yj n).length=9+XB n:=by simp [Yj]; omega
theorem sJ:Qa 32 (Value.int .u8 0)=u8s (Qa 32 0):=rfl
theorem Sx (va:Option Addr) (rl vc m:Nat) (h:st.length=8):fillL [Value.slice none 0 0,.int .u64 0,.int .u32 0,.int .u32 0,.int .u32 0,.int .u32 0,.int .u32 0,.int .u32 0,.int .u32 0,.int .u32 0] [(0,2,.agg [.slice va rl vc,.int .u64 m].toArray),(2,8,.agg (ns .u32 st).toArray)]=some (XO (.slice va rl vc) m st):=by
 obtain ⟨a,b,c,d,e,f,g,i,rfl⟩:=eight h
 rfl
theorem SU {H:List Ob} {all:List Nat} (hh:HshQ K H hid all) (xa:∀ y∈all,y<256) (hn:all.length<2^49) :
  ∃ H',Z5 T 83 [.pointer (some ⟨hid,0,none⟩)] H=some (.agg (u8s (Vx all)).toArray,H',[])∧(∀ i,i<H.length→H'[i]?=H[i]?)∧H.length≤H'.length:=by
 obtain ⟨rv,h1,h2⟩:=hh
 have hlt:hid<H.length:=(Qg.1 h1).1
 obtain ⟨st,hst⟩:∃ s,s=UG (all.length/64) all:=⟨_,rfl⟩
 have ls:st.length=8:=by rw [hst]; exact Be _ _
 rw [←hst] at h1
 obtain ⟨G,hG⟩:∃ G,G=H++[⟨u8s (Qa 32 0),true,true,true,1⟩,⟨[],true,true,true,1⟩]:=⟨_,rfl⟩
 have hGl:G.length=H.length+2:=by rw [hG]; simp
 have hrG:Rst K G rv (all.drop (64*(all.length/64))):=by rw [hG]; exact h2.app
 have heG:G[H.length+1]?=some ⟨[],true,true,true,1⟩:=by rw [hG,Qh (by omega),Q0]; rfl
 have hzG:G[H.length]?=some ⟨u8s (Qa 32 0),true,true,true,1⟩:=by rw [hG,Qh (by omega),Q4]; rfl
 have hhG:G[hid]?=some (XN rv all.length st):=by rw [hG,Qc hlt]; exact h1
 obtain ⟨v',l,ha,hr',hok,hc1,hc2⟩:=FV (K:=fun i=>i≠H.length+1∧i≠G.length) heG (by simp) (by simp) hrG.len hrG.elems (by rw [QP]; omega)
 obtain ⟨G2,hG2⟩:∃ X,X=G++l++[XN v' all.length st]:=⟨_,rfl⟩
 have hG2l:G2.length=G.length+l.length+1:=by rw [hG2]; simp; omega
 obtain ⟨xid,hxid⟩:∃ x,x=(G++l).length:=⟨_,rfl⟩
 have hxl:xid=G.length+l.length:=by rw [hxid]; simp
 have hx2:G2[xid]?=some (XN v' all.length st):=by rw [hG2,hxid,Qh (Qr _),Q4]; rfl
 have hh2:G2[hid]?=some (XN rv all.length st):=by
  have:hid<G.length:=by omega
  rw [hG2,Qt,Qc this]; exact hhG
 obtain ⟨s,l3,hp,hgr⟩:=LR hh2 (by omega)
 obtain ⟨G4,hG4⟩:∃ X,X=G2++l3++[⟨[s],true,true,true,1⟩]:=⟨_,rfl⟩
 have hG4l:G4.length=G2.length+l3.length+1:=by rw [hG4]; simp; omega
 have hgr4:Grown .u8 G2.length G4 s (Yj all.length):=by rw [hG4]; exact hgr.app
 obtain ⟨K2,hK2⟩:∃ K2:Nat→Prop,K2=fun i=>i<G4.length∧i≠xid∧i≠H.length+1∧i≠G.length:=⟨_,rfl⟩
 have hx4:G4[xid]?=some (XN v' all.length st):=by rw [hG4,Qt,Qc (by omega)]; exact hx2
 have hsh4:HshQ K2 G4 xid all:=by
  refine ⟨v',by rw [←hst]; exact hx4,?_⟩
  have:=(hr'.app (m:=[XN v' all.length st])).app (m:=l3++[⟨[s],true,true,true,1⟩])
  rw [←hG2,←Qt,←hG4] at this
  exact this.toK fun i hi hk=>by
   rw [hK2] at hk
   exact hi ⟨hk.2.2.1,hk.2.2.2⟩
 have hpz:=Gx all.length
 have hpart:HPart K2 G4 s (Yj all.length):=Grown.part hgr4 (fun i h1 h2=>by rw [hK2]; exact ⟨h2,by omega,by omega,by omega⟩) (LU _) (by rw [Hz]; omega) (by rw [Hz]; omega)
 have harr:(G2++l3).length<G4.length:=by rw [hG4]; simp
 have hpv:PV K2 G4 (.slice (some ⟨(G2++l3).length,0,none⟩) 1 1) [s] := .inr ⟨_,0,1,_,rfl,by rw [hK2]; exact ⟨harr,by simp; omega,by simp; omega,by simp; omega⟩,by rw [hG4,Qh (Qr _),Q4]; rfl,rfl,fun i _=>by rw [QL]⟩
 have hKx:¬ K2 xid:=by rw [hK2]; intro h; exact h.2.1 rfl
 obtain ⟨G5,M5,hw,hsh5,hf5,hl5,hM5⟩:=Hn (fun i hi=>by rw [hK2] at hi; exact hi.1) hKx hsh4 xa hpv (.cons hpart .nil) (by show 1<2^50; decide) (by simp [Hz]; omega)
 rw [QO,Jc,QF] at hsh5
 obtain ⟨rv5,hx5,-⟩:=hsh5
 obtain ⟨st5,hst5⟩:∃ s,s=UG ((all++Yj all.length).length/64) (all++Yj all.length):=⟨_,rfl⟩
 rw [←hst5] at hx5
 have ls5:st5.length=8:=by rw [hst5]; exact Be _ _
 have xs5:∀ y∈st5,y<4294967296:=by rw [hst5]; exact TC _ _
 have hb5:H.length≤G5.length:=by omega
 have hsu:=bH (r:=H.length) (base:=H.length) hx5 ls5 (Wh all) (fun i hi=>by simp [Vx,hi,hst5]) xs5 hb5
 have hz5:G5[H.length]?=some ⟨u8s (Qa 32 0),true,true,true,1⟩:=by
  rw [hf5 _ (by rw [hK2]; exact ⟨by omega,by omega,by omega,by omega⟩),hG4,Qt,Qc (by omega),hG2,Qt,Qc (by omega)]
  exact hzG
 have hfr:∀ i,i<H.length→G5[i]?=H[i]? := fun i hi=>by
  rw [hf5 _ (by rw [hK2]; exact ⟨by omega,by omega,by omega,by omega⟩),hG4,Qt,Qc (by omega),hG2,Qt,Qc (by omega),hG,Qc hi]
 have hm5:Q1 H.length [] M5=[]:=QD fun i hi=>by
  have:=hM5 i hi
  rw [hK2] at this
  rcases ZG i H.length with h | h
  ·exact absurd (show i<G4.length∧i≠xid∧i≠H.length+1∧i≠G.length from ⟨by omega,by omega,by omega,by omega⟩) this
  ·exact h
 refine ⟨(G5++[(⟨u8s (Vx all),true,true,true,1⟩:Ob)]).set H.length (⟨u8s (Vx all),true,true,true,1⟩:Ob),?_,fun i hi=>by rw [Qu (by omega),Qc (by omega)]; exact hfr i hi,by rw [Q3,Qk]; omega⟩
 have hz:=sJ
 have lz:(Qa 32 0).length=32:=Qe
 have lsh:=Wh all
 have cst:=Se (rv:=rv) (n:=all.length) ls
 have c0:(XO rv all.length st)[0]?=some rv:=rfl
 have c1:(XO rv all.length st)[1]?=some (.int .u64 all.length):=rfl
 have hcl8:2+8≤(XO rv all.length st).length:=by rw [GF]; omega
 obtain ⟨va,vc,rfl⟩:=hr'.shape
 generalize (all.drop (64*(all.length/64))).length=rl at *
 have fl1:fillL [Value.slice none 0 0,.int .u64 0] [(0,1,.slice va rl vc),(1,1,.int .u64 all.length)]=some [.slice va rl vc,.int .u64 all.length]:=rfl
 have fl2:=Sx va rl vc all.length ls
 have fls:fillL [Value.slice none 0 0] [(0,1,s)]=some [s]:=by
  obtain ⟨sa,sc,hsh⟩:=hpart.shape
  rw [hsh]; rfl
 have f0:fillL [] []=some []:=rfl
 have F1:H++[⟨u8s (Qa 32 0),true,true,true,1⟩,⟨[],true,true,true,1⟩]=G:=hG.symm
 have Fx:G.length+l.length=xid:=hxl.symm
 have F2:G++(l++[⟨XO (.slice va rl vc) all.length st,true,true,true,1⟩])=G2:=by rw [hG2,Qt]; rfl
 have F4:G2++(l3++[⟨[s],true,true,true,1⟩])=G4:=by rw [hG4,Qt]
 have g1:G[hid]?=some ⟨XO rv all.length st,true,true,true,1⟩:=hhG
 have g2:(G++l)[hid]?=some ⟨XO rv all.length st,true,true,true,1⟩:=by rw [Qc (by omega)]; exact hhG
 have g5:∀ o:Ob,(G5++[o])[H.length]?=some ⟨u8s (Qa 32 0),true,true,true,1⟩:=fun o=>by rw [Qc (by omega)]; exact hz5
 have g6:∀ o o':Ob,((G5++[o]).set H.length o')[H.length]?=some o':=fun o o'=>Qx (by rw [Qk]; omega)
 have okcl:(XO (.slice va rl vc) all.length st).all Z7=true:=by
  show (Z7 (.slice va rl vc)&&(Z7 (.int .u64 all.length)&&(ns .u32 st).all Z7))=true
  have:(ns .u32 st).all Z7=true:=by
   rw [ZQ]; intro y hy
   simp only [ns,Xj] at hy
   obtain ⟨m,-,rfl⟩:=hy; rfl
  rw [this]; rfl
 rw [Qk] at hw
 simp only [Pg,Qn,Ql,QB] at hsu
 have hge:H.length≤H.length+1:=by omega
 generalize XO rv all.length st=C1,XO (.slice va rl vc) all.length st=C2,Vx all=R,Qa 32 0=Z64 at *
 rw [Zb (fn:=vU) rfl]
 simp only [vU,Qs,quiet,cW,↓pW,reduceCtorEq,seval,-Qb,hz,f0,F1,g1,g2,c0,c1,ha,fl1,cst,hcl8,Qz,Q7,Zc,Q8,fl2,Fx,F2,hp,fls,F4,hw,hm5,hsu,g5,g6,Qq,lz,lsh,Qy,Qe]
theorem EP (hp:PV (fun i=>i<H.length) H pv xs) (hP:HParts (fun i=>i<H.length) H xs ps) (hn:xs.length<2^50) (hb:ps.flatten.length<2^49) :
  ∃ l,Z5 T 40 [pv] H=some (.agg (u8s (Vx ps.flatten)).toArray,H++l,[]):=by
 obtain ⟨H1,hH1⟩:∃ X,X=H++[⟨u8s (Qa 32 0),true,true,true,1⟩,XN (.slice none 0 0) 0 XH]:=⟨_,rfl⟩
 have hl1:H1.length=H.length+2:=by rw [hH1]; simp
 have hg1:H1[H.length+1]?=some (XN (.slice none 0 0) 0 XH):=by rw [hH1,Qh (by omega),Q0]; rfl
 have hz1:H1[H.length]?=some ⟨u8s (Qa 32 0),true,true,true,1⟩:=by rw [hH1,Qh (by omega),Q4]; rfl
 have hf1:∀ i,i<H.length→H1[i]?=H[i]? := fun i hi=>by rw [hH1,Qc hi]
 have hp1:PV (fun i=>i<H.length+1) H1 pv xs:=by
  rcases hp with h | ⟨pid,off,cap,o,h1,h2,h3,h4,h5⟩
  ·exact .inl h
  ·exact .inr ⟨pid,off,cap,o,h1,Yp h2,(hf1 _ h2).trans h3,h4,h5⟩
 have hP1:HParts (fun i=>i<H.length+1) H1 xs ps:=by
  clear hn hb hp hp1
  induction hP with
  | nil=>exact .nil
  | cons a _ ih=>exact .cons ⟨a.shape,fun G hG=>a.reads G fun i hi=>(hG i (Yp hi)).trans (hf1 i hi),a.lt,a.le⟩ ih
 obtain ⟨H2,M2,hw,s2,f2,l2,m2⟩:=Hn (K:=fun i=>i<H.length+1) (hid:=H.length+1) (fun i hi=>by have:i<H.length+1:=hi; omega) (YX _) (N7 hg1) (by simp) hp1 hP1 hn (by rw [Ql]; omega)
 rw [Ql] at s2
 obtain ⟨H3,hs3,f3,l3⟩:=SU s2 hP.lt hb
 have hm2:Q1 H.length [] M2=[]:=QD fun i hi=>by
  have:¬ i<H.length+1:=m2 i hi
  omega
 have g3:H3[H.length]?=some ⟨u8s (Qa 32 0),true,true,true,1⟩:=by
  rw [f3 _ (by omega),f2 _ (DN _)]; exact hz1
 have hfr:∀ i,i<H.length→(H3.set H.length (⟨u8s (Vx ps.flatten),true,true,true,1⟩:Ob))[i]?=H[i]? := fun i hi=>by
  rw [Qu (by omega),f3 _ (by omega),f2 _ (Yp hi)]; exact hf1 i hi
 have hle:H.length≤(H3.set H.length (⟨u8s (Vx ps.flatten),true,true,true,1⟩:Ob)).length:=by rw [Q3]; omega
 obtain ⟨l,hl⟩:=XJ hle hfr
 refine ⟨l,?_⟩
 rw [←hl]
 have hz:=sJ
 have lz:(Qa 32 0).length=32:=Qe
 have lsh:=Wh ps.flatten
 have hnew:=aI (H++[⟨u8s (Qa 32 0),true,true,true,1⟩])
 have e1:(H++[(⟨u8s (Qa 32 0),true,true,true,1⟩:Ob)]).length=H.length+1:=by simp
 rw [e1,Qt,Qn,Ql,←hH1] at hnew
 have g4:∀ o:Ob,(H3.set H.length o)[H.length]?=some o:=fun o=>Qx (by omega)
 generalize Vx ps.flatten=R,Qa 32 0=Z64 at *
 rw [Zb (fn:=wj) rfl]
 simp only [wj,Qs,quiet,cW,↓pW,reduceCtorEq,seval,-Qb,hz,hnew,hw,hm2,hs3,g3,g4,Qz,Q7,Zc,Q8,Qq,lz,lsh,Qy,Qe]
theorem sW:QK T 144 [.int .i64 32]=some (.int .u64 4294967296):=WY (n:=32) (by decide)
theorem Mo (x:Nat):QK T 145 [.int .u64 x,.int .i64 32]=some (.int .u64 ((x%4294967296:Nat):Int)):=by
 have h1:=sW
 have w1:(x:Int).tmod 4294967296=((x%4294967296:Nat):Int):=rfl
 generalize x%4294967296=r at *
 apply QI (fn:=nR) rfl
 simp only [nR,Qs,quiet,cW,↓pW,reduceCtorEq,seval,-Qb,h1,w1]
 rfl
theorem YZ (hx:x<4294967296) (hr:0<r) (hr':r≤31):QK T 143 [.int .u64 x,.int .i64 r,.int .i64 32]=some (.int .u64 (ZS x r:Nat)):=by
 have h1:=WY (n:=r) (by omega)
 have h2:=WY (n:=32-r) (by omega)
 have hsub:IntKind.i64.wrap (32-(r:Int))=((32-r:Nat):Int):=by rw [show (32:Int)-(r:Int)=((32-r:Nat):Int) by omega]; exact ZT (by omega)
 have hp:0<2^r:=JM (by decide)
 have hz:(((2^r:Nat):Int)=0)=False:=eq_false (by omega)
 have hd:IntKind.u64.wrap ((x:Int).tdiv ((2^r:Nat):Int))=((x/2^r:Nat):Int):=by rw [div64,U0,Qv (ZX (Jq _ _) (by omega))]
 have hr2:(x:Int).tmod ((2^r:Nat):Int)=((x%2^r:Nat):Int):=rfl
 have e:(4294967296:Nat)=2^r*2^(32-r):=by rw [←JD,show r+(32-r)=32 by omega]
 have hmm:x*2^(32-r)%4294967296=(x%2^r)*2^(32-r):=by rw [e,Yl]
 have hml:(x%2^r)*2^(32-r)<4294967296:=by rw [←hmm]; exact Q5 _ (by decide)
 have hm:IntKind.u64.wrap (((x%2^r:Nat):Int)*((2^(32-r):Nat):Int))=((x%2^r*2^(32-r):Nat):Int):=by rw [←JT]; exact Kn (by omega)
 have hrot:x/2^r+x%2^r*2^(32-r)=ZS x r:=by rw [←hmm]; rfl
 have hl:=Xv hx hr hr'
 have ha:IntKind.u64.wrap (((x/2^r:Nat):Int)+((x%2^r*2^(32-r):Nat):Int))=((ZS x r:Nat):Int):=by
  rw [Wx,hrot,Qv (by omega)]
 clear e hmm hml hrot hl
 generalize ZS x r=R at *
 generalize x%2^r*2^(32-r)=M at *
 generalize x%2^r=M2 at *
 generalize x/2^r=D at *
 generalize 2^(32-r)=A at *
 generalize 2^r=B at *
 generalize 32-r=q at *
 apply QI (fn:=nS) rfl
 simp only [nS,Qs,quiet,cW,↓pW,reduceCtorEq,seval,-Qb,h1,h2,hsub,hz,hd,hr2,hm,ha]
 rfl
theorem SE {e f g:Nat} (he:e<2^32):(e&&&f)|||((2^32-1-e)&&&g)=(e&&&f)^^^(((2^32-1)^^^e)&&&g):=by
 apply T3
 intro i
 have h1:(2^32-1-e).testBit i=(decide (i<32) && !e.testBit i):=by
  rw [show 2^32-1-e=2^32-(e+1) by omega,Nat.testBit_two_pow_sub_succ he]
 have h2:((2^32-1)^^^e).testBit i=(decide (i<32) ^^ e.testBit i):=by
  rw [B5,Nat.testBit_two_pow_sub_one]
 have h3:e.testBit i=true→i<32:=fun h=>by
  rcases ZG i 32 with k | k
  ·exact k
  ·rw [Nat.testBit_lt_two_pow (QM he (Zk (by decide) k))] at h; cases h
 rw [Gd,B5,Yc,Yc,Yc,h1,h2]
 cases he':e.testBit i<;>cases f.testBit i<;>cases g.testBit i<;>simp_all
theorem np {e f g:Nat} (he:e<4294967296):(e&&&f)|||((4294967295-e)&&&g)=KN e f g:=SE (e:=e) (f:=f) (g:=g) he
theorem qB (a b c:Nat):(a&&&b)|||(a&&&c)|||(b&&&c)=UQ a b c:=kS a b c
end Go.Ev.YtpgphpkjlpkcbaaGreat
namespace Go.Ev.YtpgphpkjlpkcbaaGreat
open Go Go.Ev
attribute [local congr] JC JV JB JW Jz
set_option maxRecDepth 100000
variable {B tid u at_ i sid kid L N n vid w q:Nat} {sv sh s tb s0:Value} {Hm Hc H0:List Ob} {x3 x4 x1 x2:Bool} {b st bs C v:List Nat}
def KO (sv:Value):List Value:=[.int .i64 32,.int .i64 64,.int .i64 64,sv,.int .i64 7,.int .i64 18,.int .i64 3,.int .i64 17,.int .i64 19,.int .i64 10,.int .i64 2,.int .i64 13,.int .i64 22,.int .i64 6,.int .i64 11,.int .i64 25]
theorem tI (sv:Value):(KO sv)[0]?=some (.int .i64 32):=rfl
theorem Rp (sv:Value):(KO sv)[1]?=some (.int .i64 64):=rfl
theorem gK (sv:Value):(KO sv)[2]?=some (.int .i64 64):=rfl
theorem tH (sv:Value):(KO sv)[3]?=some sv:=rfl
theorem LA (sv:Value):(KO sv).length=16:=rfl
def Ip (B:Nat) (x s:Value) (Hc:List Ob) (ex:Env):St:=⟨[(0,x),(3,.pointer (some ⟨B,0,none⟩)),(5,.int .i64 4),(6,s)]++ex,Hc,[]⟩
theorem bO {x:Value} {H1 Hc0:List Ob} (hBN:B<N) (hh:H1[B]?=some ⟨KO sv,true,true,true,1⟩) (hn:bs.length<2^46) (hg0:Grown .u8 N Hc0 s0 (bs++[128])) (hL0:N≤Hc0.length) (hF0:∀ i,i<N→Hc0[i]?=H1[i]?) :
  ∃ s Hc,Q2 T B (.block 0 (.loop W8)) (Ip B x s0 Hc0 [])=some (.normal,Ip B x s Hc [(48,.bool false)])∧Grown .u8 N Hc s (bs++128::Qa (XB bs.length) 0)∧N≤Hc.length∧∀ i,i<N→Hc[i]?=H1[i]? := by
 have f0:fillL [Value.int .u8 0] [(0,1,.int .u8 0)]=some [.int .u8 0]:=rfl
 have c2:=gK sv
 have hz:=Gx bs.length
 obtain ⟨st,hb,s,Hc,rfl,hg,hL,hF⟩:=Zi (T:=T) (base:=B) (id:=0) (body:=W8)
  (fun j st=>∃ s Hc,st=Ip B x s Hc []∧Grown .u8 N Hc s (bs++128::Qa j 0)∧N≤Hc.length∧∀ i,i<N→Hc[i]?=H1[i]?)
  (Q:=fun st=>∃ s Hc,st=Ip B x s Hc [(48,.bool false)]∧Grown .u8 N Hc s (bs++128::Qa (XB bs.length) 0)∧N≤Hc.length∧∀ i,i<N→Hc[i]?=H1[i]?)
  (XB bs.length) (s:=Ip B x s0 Hc0 []) ⟨_,_,rfl,hg0,hL0,hF0⟩
  (fun j st hj hs=>by
   obtain ⟨s,Hc,rfl,hg,hL,hF⟩:=hs
   have hl:=hg.len
   have e1:(bs++128::Qa j 0).length=bs.length+(1+j):=by simp; omega
   rw [e1] at hl
   obtain ⟨s',H',M,h1,h2,h3,h4,h5⟩:=Wi (x:=0) (bytes:=1) hg hL (by rw [e1]; omega) (by decide)
   have hm:Q1 B [] M=[]:=QD fun i hi=>by have:=h3 i hi; omega
   have hget:Hc[B]?=some ⟨KO sv,true,true,true,1⟩:=(hF B hBN).trans hh
   have w3:IntKind.i64.wrap (((bs.length+(1+j):Nat):Int)+8)=((bs.length+(1+j)+8:Nat):Int):=Zx (b:=8) (by omega)
   have w4:((bs.length+(1+j)+8:Nat):Int).tmod 64=(((bs.length+(1+j)+8)%64:Nat):Int):=rfl
   have w5:((((bs.length+(1+j)+8)%64:Nat):Int) != 0)=true:=bne_iff_ne.2 (by have:=Mf bs.length j hj; omega)
   refine ⟨Ip B x s' H' [],?_,s',H',rfl,by rw [Vc,←Qn,←Qt]; exact h2,h4,fun i hi=>by rw [h5 i hi,hF i hi]⟩
   simp only [QB] at h1
   generalize (bs.length+(1+j)+8)%64=r at *
   generalize bs.length+(1+j)+8=r2 at *
   generalize bs.length+(1+j)=r3 at *
   generalize KO sv=sc at *
   simp only [Ip,W8,Qs,quiet,cW,↓pW,reduceCtorEq,seval,-Qb,hget,c2,hl,w3,w4,w5,f0,h1,hm])
  (fun st hs=>by
   obtain ⟨s,Hc,rfl,hg,hL,hF⟩:=hs
   have hl:=hg.len
   have e1:(bs++128::Qa (XB bs.length) 0).length=bs.length+(1+XB bs.length):=by simp; omega
   rw [e1] at hl
   have hget:Hc[B]?=some ⟨KO sv,true,true,true,1⟩:=(hF B hBN).trans hh
   have w3:IntKind.i64.wrap (((bs.length+(1+XB bs.length):Nat):Int)+8)=((bs.length+(1+XB bs.length)+8:Nat):Int):=Zx (b:=8) (by omega)
   have w4:((bs.length+(1+XB bs.length)+8:Nat):Int).tmod 64=0:=by
    have:((bs.length+(1+XB bs.length)+8:Nat):Int).tmod 64=(((bs.length+(1+XB bs.length)+8)%64:Nat):Int):=rfl
    rw [this,Rw]; rfl
   refine ⟨_,?_,s,Hc,rfl,hg,hL,hF⟩
   generalize bs.length+(1+XB bs.length)+8=r2 at *
   generalize bs.length+(1+XB bs.length)=r3,KO sv=sc at *
   simp only [Ip,W8,Qs,quiet,cW,↓pW,reduceCtorEq,seval,-Qb,hget,c2,hl,w3,w4])
 exact ⟨s,Hc,hb,hg,hL,hF⟩
def Rs (B:Nat) (s:Value) (Hm:List Ob) (C:List Nat) (m:Nat) (iv:Int) (ex:Env):St:=⟨[(3,.pointer (some ⟨B,0,none⟩)),(5,.int .i64 4),(6,s),(7,.slice (some ⟨Hm.length,0,none⟩) 8 8),(8,.int .u64 m),(9,.int .i64 iv)]++ex,Hm++[⟨u8s C,true,true,true,1⟩],[]⟩
theorem cD (hB:B≤Hm.length) (lC:C.length=8) (hn:n<18446744073709551616) :
  Q2 T B KX (Rs B s Hm C n 7 [])=some (.normal,Rs B s Hm (C.set 7 (V0 n 7)) (n/32) 6 []):=by
 have w1:(n:Int).tmod 32=((n%32:Nat):Int):=rfl
 have w2:IntKind.u64.wrap (((n%32:Nat):Int)*8)=((n%32*8:Nat):Int):=by
  rw [show ((n%32:Nat):Int)*8=((n%32*8:Nat):Int) from (JT _ _).symm,U0,Qv (by omega)]
 have hp:V0 n 7=n%32*8:=by
  unfold V0
  rw [show 7-7=0 from rfl,ZF,Jt]
  omega
 have w3:IntKind.u8.wrap ((n%32*8:Nat):Int)=((n%32*8:Nat):Int):=by rw [GA,Qv (by omega)]
 have w4:IntKind.u64.wrap ((n:Int).tdiv 32)=((n/32:Nat):Int):=by rw [show ((n:Int).tdiv 32)=((n/32:Nat):Int) from rfl,U0,Qv (by omega)]
 have hset:=Xb C 7 (n%32*8)
 have im:Q1 B [] [Hm.length]=[]:=QD (by simp; omega)
 have hl:7+1≤(u8s C).length:=by rw [Qq,lC]; decide
 rw [hp]
 generalize n%32*8=d at *
 generalize n%32=r at *
 generalize n/32=m at *
 simp only [Rs,KX,Qs,quiet,cW,↓pW,reduceCtorEq,seval,-Qb,w1,w2,w3,w4,hset,im,hl]
theorem iD {k:Nat} (hB:B≤Hm.length) (lC:C.length=8) (hk:k<7) (hn:n<18446744073709551616) :
  Q2 T B KX (Rs B s Hm C n (k:Nat) [])=some (.normal,Rs B s Hm (C.set k (n%256)) (n/256) ((k:Int)-1) []):=by
 have w1:(n:Int).tmod 256=((n%256:Nat):Int):=rfl
 have w3:IntKind.u8.wrap ((n%256:Nat):Int)=((n%256:Nat):Int):=by rw [GA,Y3]
 have w4:IntKind.u64.wrap ((n:Int).tdiv 256)=((n/256:Nat):Int):=by rw [show ((n:Int).tdiv 256)=((n/256:Nat):Int) from rfl,U0,Qv (by omega)]
 have w5:IntKind.i64.wrap ((k:Int)-1)=(k:Int)-1:=Zf (by omega) (by omega)
 have e1:(0≤(k:Int))=True:=eq_true (by omega)
 have e2:((k:Int)==7)=false:=beq_eq_false_iff_ne.2 (by omega)
 have e3:((k:Int)<8)=True:=eq_true (by omega)
 have hset:=Xb C k (n%256)
 have im:Q1 B [] [Hm.length]=[]:=QD (by simp; omega)
 have hl:k+1≤(u8s C).length:=by rw [Qq,lC]; omega
 generalize n%256=d at *
 generalize n/256=m at *
 simp only [Rs,KX,Qs,quiet,cW,↓pW,reduceCtorEq,seval,-Qb,w1,w3,w4,w5,e1,e2,e3,hset,im,hl]
theorem cE (hB:B≤Hm.length) (hn:n<2^46) :
  Q2 T B (.block 2 (.loop KX)) (Rs B s Hm (Qa 8 0) n 7 [])=some (.normal,Rs B s Hm ((Z9 8).map (V0 n)) (8*n/256^8) (-1) [(62,.bool false)]):=by
 obtain ⟨st,hb,C,rfl,lC,hC⟩:=Zi (T:=T) (base:=B) (id:=2) (body:=KX)
  (fun j st=>∃ C m,st=Rs B s Hm C m ((7:Int)-(j:Nat)) []∧C.length=8∧(m=if j=0 then n else 8*n/256^j)∧∀ i,8≤i+j→i<8→C[i]?=some (V0 n i))
  (Q:=fun st=>∃ C,st=Rs B s Hm C (8*n/256^8) (-1) [(62,.bool false)]∧C.length=8∧∀ i,i<8→C[i]?=some (V0 n i))
  8 (s:=Rs B s Hm (Qa 8 0) n 7 []) ⟨_,_,rfl,rfl,rfl,fun i h1 h2=>by omega⟩
  (fun j st hj hs=>by
   obtain ⟨C,m,rfl,lC,hm,hC⟩:=hs
   rcases Jw j with h0 | h0
   ·subst h0
    rw [if_pos rfl] at hm
    subst hm
    refine ⟨_,cD hB lC (by omega),_,_,rfl,by rw [Q3]; exact lC,by rw [if_neg (by decide),QL,wR]; omega,fun i h1 h2 => ?_⟩
    have:i=7:=by omega
    subst this
    rw [Qx (by omega)]
   ·rw [if_neg (by omega)] at hm
    subst hm
    have e:((7:Int)-(j:Nat))=((7-j:Nat):Int):=by omega
    have hlt:8*n/256^j<18446744073709551616:=ZX (Jq _ _) (by omega)
    have hp:V0 n (7-j)=8*n/256^j%256:=by unfold V0; rw [show 7-(7-j)=j by omega]
    have hd:8*n/256^j/256=8*n/256^(j+1):=by rw [QT,Ze]
    have hbd:=iD (s:=s) hB lC (k:=7-j) (by omega) hlt
    rw [←e,←hp,hd] at hbd
    refine ⟨_,hbd,_,_,by rw [show (7:Int)-(j:Nat)-1=(7:Int)-((j+1:Nat):Int) by omega],by rw [Q3]; exact lC,by rw [if_neg (by omega)],fun i h1 h2 => ?_⟩
    by_cases h:i=7-j
    ·subst h; rw [Qx (by omega)]
    ·rw [Qu (by omega)]; exact hC i (by omega) h2)
  (fun st hs=>by
   obtain ⟨C,m,rfl,lC,hm,hC⟩:=hs
   rw [if_neg (by decide)] at hm
   refine ⟨_,?_,C,rfl,lC,fun i hi=>hC i (by omega) hi⟩
   subst hm
   generalize 8*n/256^8=m at *
   simp only [Rs,KX,Qs,quiet,cW,↓pW,reduceCtorEq,seval,-Qb])
 have:C=(Z9 8).map (V0 n):=Ju fun i=>by
  by_cases h:i<8
  ·rw [hC i h]; simp [h]
  ·rw [QN (by omega),QN (by simp; omega)]
 rw [←this]
 exact hb
def Yz:List Value:=[.int .i64 7,.int .i64 18,.int .i64 3,.int .i64 17,.int .i64 19,.int .i64 10,.int .i64 2,.int .i64 13,.int .i64 22,.int .i64 6,.int .i64 11,.int .i64 25]
def LH (B tid L:Nat) (tb sv:Value) (u at_ q:Nat) (i:Int):Env:=[(3,.pointer (some ⟨B,0,none⟩)),(5,.int .i64 4),(6,.slice (some ⟨tid,0,none⟩) L L),(10,tb),(11,sv),(12,.int .i64 32),(13,.pointer (some ⟨u,0,none⟩)),(14,.int .i64 at_),(15,.slice (some ⟨q,0,none⟩) 64 64),(16,.int .i64 i)]
def BI (B tid L:Nat) (tb sv:Value) (u at_:Nat) (Hm:List Ob) (W:List Nat) (i:Int) (ex:Env):St:=⟨LH B tid L tb sv u at_ Hm.length i++ex,Hm++[⟨ns .u64 W,true,true,true,1⟩],[]⟩
theorem cH {all:List Nat} (hB:B≤Hm.length) (ht:Hm[tid]?=some ⟨u8s all,true,true,x4,1⟩) (hL:all.length<2^50) (hb:∀ j,j<64→all[at_+j]?=b[j]?) (hbl:b.length=64) (hx:∀ y∈b,y<256) (hat:at_+64≤all.length) (hi:i<16) :
  Q2 T B (.block 8 (.loop W9)) (BI B tid all.length tb sv u at_ Hm (pf 64 (Jn b) i) i [(17,.int .i64 0)])=some (.normal,BI B tid all.length tb sv u at_ Hm (pf 64 (Jn b) (i+1)) i [(17,.int .i64 4),(120,.bool false)]):=by
 have hWl:=VL b
 have h8:((b.drop (4*i)).take 4).length=4:=by rw [Q6,QP]; omega
 have hz:=D9 (L:=Jn b) (by omega:i<64) hWl
 have hpl:=Ko hWl (by omega:i≤64)
 have Mq:(pf 64 (Jn b) i).set i (be [])=pf 64 (Jn b) i:=Aj hz
 have hW:=Dz (b:=b) hi
 have hstep:=XE hWl (by omega:i<64) hW
 have h:=ZV (T:=T) (base:=B) (id:=8) (body:=W9) (fun j=>BI B tid all.length tb sv u at_ Hm ((pf 64 (Jn b) i).set i (be (((b.drop (4*i)).take 4).take j))) i [(17,.int .i64 j)]) (s':=BI B tid all.length tb sv u at_ Hm (pf 64 (Jn b) (i+1)) i [(17,.int .i64 4),(120,.bool false)]) 4
  (fun j hj=>by
   obtain ⟨x,hxj⟩:∃ x,((b.drop (4*i)).take 4)[j]?=some x:=⟨_,Qf (by omega)⟩
   have hxb:b[4*i+j]?=some x:=by
    rw [QX,if_pos hj,Zm] at hxj; exact hxj
   have hx':=hx x (Qp hxb)
   have hxa:(u8s all)[at_+4*i+j]?=some (.int .u8 (x:Nat)):=Jx (by rw [show at_+4*i+j=at_+(4*i+j) by omega,hb _ (by omega)]; exact hxb)
   have hbel:=FT j (((b.drop (4*i)).take 4).take j) (by rw [Q6]; omega) (fun y hy=>hx y (ZD (QU (QU hy))))
   have hbes:be (((b.drop (4*i)).take 4).take (j+1))=be (((b.drop (4*i)).take 4).take j)*256+x:=by rw [Zw,hxj]; exact TN _ _
   rw [hbes]
   have h256:(256:Nat)^j≤256^7:=Zk (by decide) (by omega)
   have e7:(256:Nat)^7=72057594037927936:=by decide
   rw [e7] at h256
   generalize be (((b.drop (4*i)).take 4).take j)=a at *
   have hg:((pf 64 (Jn b) i).set i a)[i]?=some a:=by rw [Qx (by rw [hpl]; omega)]
   have hgc:=ZM (k := .u64) hg
   have hss:=X8 .u64 ((pf 64 (Jn b) i).set i a) i (a*256+x)
   rw [VU] at hss
   have hln:((pf 64 (Jn b) i).set i a).length=64:=by rw [Q3]; exact hpl
   have w1:IntKind.i64.wrap ((j:Int)+1)=((j+1:Nat):Int):=Zx (b:=1) (by omega)
   have w2:IntKind.u64.wrap (x:Int)=(x:Int):=Kn (by omega)
   have w3:IntKind.u64.wrap ((a:Int)*256)=((a*256:Nat):Int):=by
    rw [show (a:Int)*256=((a*256:Nat):Int) from (JT _ _).symm]; exact Kn (by omega)
   have w4:IntKind.u64.wrap (((a*256:Nat):Int)+(x:Int))=((a*256+x:Nat):Int):=by
    rw [←Jl]; exact Kn (by omega)
   have w5:IntKind.i64.wrap (4*(i:Int))=((4*i:Nat):Int):=ZT (n:=4*i) (by omega)
   have w6:IntKind.i64.wrap ((at_:Int)+((4*i:Nat):Int))=((at_+4*i:Nat):Int):=Zx (by omega)
   have w7:IntKind.i64.wrap (((at_+4*i:Nat):Int)+(j:Int))=((at_+4*i+j:Nat):Int):=Zx (by omega)
   have e1:((j:Int)<4)=True:=eq_true (by omega)
   have e2:((i:Int)<64)=True:=eq_true (by omega)
   have e3:(((at_+4*i+j:Nat):Int)<((all.length:Nat):Int))=True:=eq_true (by omega)
   have hget:(Hm++[⟨ns .u64 ((pf 64 (Jn b) i).set i a),true,true,true,1⟩])[tid]?=some ⟨u8s all,true,true,x4,1⟩:=by rw [Qc (Qg.1 ht).1]; exact ht
   have hle:i+1≤(ns .u64 ((pf 64 (Jn b) i).set i a)).length:=by rw [Q9,hln]; omega
   have im:Q1 B [] [Hm.length]=[]:=QD (by simp; omega)
   generalize (pf 64 (Jn b) i).set i a=O1,(pf 64 (Jn b) i).set i (a*256+x)=O2 at *
   generalize hv:a*256+x=v at *
   generalize a*256=v2 at *
   generalize hoo:at_+4*i+j=oo at *
   generalize at_+4*i=o2 at *
   generalize 4*i=o3 at *
   generalize all.length=LL at *
   generalize j+1=j1 at *
   simp only [BI,LH,W9,Qs,quiet,cW,↓pW,reduceCtorEq,seval,-Qb,e1,e2,e3,w1,w2,w3,w4,w5,w6,w7,hget,hxa,hgc,hss,hle,im])
  (by
   have e8:((b.drop (4*i)).take 4).take 4=(b.drop (4*i)).take 4:=by rw [eM,sG]
   rw [e8,hstep]
   generalize pf 64 (Jn b) (i+1)=O2 at *
   simp only [BI,LH,W9,Qs,quiet,cW,↓pW,reduceCtorEq,seval,-Qb])
 rw [Xa,Mq] at h
 exact h
theorem Lt:Yz.length=12:=rfl
theorem VX (h:n<4294967296):n<18446744073709551616:=by omega
theorem p3_v:QK T 144 [.int .i64 3]=some (.int .u64 8):=WY (n:=3) (by decide)
theorem p10_v:QK T 144 [.int .i64 10]=some (.int .u64 1024):=WY (n:=10) (by decide)
theorem iJ (hB:B<Hm.length) (hS:Hm[B]?=some ⟨KO sh,true,true,true,1⟩) (hU:Hm[u]?=some ⟨Yz,true,true,true,1⟩) (hb:∀ x∈b,x<256) (hi:16≤i) (hi':i<64) :
  Q2 T B KY (BI B tid L tb sv u at_ Hm (pf 64 (Jn b) i) i [])=some (.normal,BI B tid L tb sv u at_ Hm (pf 64 (Jn b) (i+1)) ((i+1:Nat):Int) []):=by
 have hWl:=VL b
 have hW:=Dy (b:=b) hi hi'
 have hstep:=XE hWl hi' hW
 have hpl:=Ko hWl (Js hi')
 obtain ⟨x,hx⟩:∃ x,(Jn b)[i-15]?=some x:=⟨_,Qf (by omega)⟩
 obtain ⟨y,hy⟩:∃ x,(Jn b)[i-2]?=some x:=⟨_,Qf (by omega)⟩
 obtain ⟨w,hu⟩:∃ x,(Jn b)[i-16]?=some x:=⟨_,Qf (by omega)⟩
 obtain ⟨v,hv⟩:∃ x,(Jn b)[i-7]?=some x:=⟨_,Qf (by omega)⟩
 have lx:=WQ hb hx
 have ly:=WQ hb hy
 have cx:=ZM (k := .u64) ((VZ (n:=64) (by omega:i-15<i) (by omega)).trans hx)
 have cy:=ZM (k := .u64) ((VZ (n:=64) (by omega:i-2<i) (by omega)).trans hy)
 have cu:=ZM (k := .u64) ((VZ (n:=64) (by omega:i-16<i) (by omega)).trans hu)
 have cv:=ZM (k := .u64) ((VZ (n:=64) (by omega:i-7<i) (by omega)).trans hv)
 rw [JJ hx,JJ hy,JJ hu,JJ hv] at hstep
 have r1:QK T 143 [.int .u64 x,.int .i64 7,.int .i64 32]=some (.int .u64 (ZS x 7:Nat)):=YZ (r:=7) lx (by decide) (by decide)
 have r8:QK T 143 [.int .u64 x,.int .i64 18,.int .i64 32]=some (.int .u64 (ZS x 18:Nat)):=YZ (r:=18) lx (by decide) (by decide)
 have r19:QK T 143 [.int .u64 y,.int .i64 17,.int .i64 32]=some (.int .u64 (ZS y 17:Nat)):=YZ (r:=17) ly (by decide) (by decide)
 have r61:QK T 143 [.int .u64 y,.int .i64 19,.int .i64 32]=some (.int .u64 (ZS y 19:Nat)):=YZ (r:=19) ly (by decide) (by decide)
 have b1:=Xv (r:=7) lx (by decide) (by decide)
 have b8:=Xv (r:=18) lx (by decide) (by decide)
 have b19:=Xv (r:=17) ly (by decide) (by decide)
 have b61:=Xv (r:=19) ly (by decide) (by decide)
 have b7:x/2^3<4294967296:=M0 lx
 have b6:y/2^10<4294967296:=M0 ly
 have x2:QK T 142 [.int .u64 (ZS x 7:Nat),.int .u64 (ZS x 18:Nat),.int .u64 (x/2^3:Nat)]=some (.int .u64 (YP x:Nat)):=U1 (VX b1) (VX b8) (VX b7)
 have y2:QK T 142 [.int .u64 (ZS y 17:Nat),.int .u64 (ZS y 19:Nat),.int .u64 (y/2^10:Nat)]=some (.int .u64 (Bi y:Nat)):=U1 (VX b19) (VX b61) (VX b6)
 have p7:=p3_v
 have p6:=p10_v
 have s7:IntKind.u64.wrap ((x:Int).tdiv 8)=((x/2^3:Nat):Int):=Kn (VX b7)
 have s6:IntKind.u64.wrap ((y:Int).tdiv 1024)=((y/2^10:Nat):Int):=Kn (VX b6)
 have gx:YP x<4294967296:=XT (XT b1 b8) b7
 have gy:Bi y<4294967296:=XT (XT b19 b61) b6
 have lu:=WQ hb hu
 have lv:=WQ hb hv
 have m1:IntKind.u64.wrap ((w:Int)+(YP x:Int))=((w+YP x:Nat):Int):=by rw [←Jl]; exact Kn (by omega)
 have m2:IntKind.u64.wrap (((w+YP x:Nat):Int)+(v:Int))=((w+YP x+v:Nat):Int):=by rw [←Jl]; exact Kn (by omega)
 have m3:IntKind.u64.wrap (((w+YP x+v:Nat):Int)+(Bi y:Int))=((w+YP x+v+Bi y:Nat):Int):=by rw [←Jl]; exact Kn (by omega)
 have hsum:(w+YP x+v+Bi y)%4294967296=(w+v+YP x+Bi y)%4294967296:=by omega
 have kp:=Mo (w+YP x+v+Bi y)
 rw [hsum] at kp
 have hset:=X8 .u64 (pf 64 (Jn b) i) i ((w+v+YP x+Bi y)%4294967296)
 rw [hstep] at hset
 have e1:((i:Int)<64)=True:=eq_true (by omega)
 have e2:((i:Int)<16)=False:=eq_false (by omega)
 have i15:IntKind.i64.wrap ((i:Int)-15)=((i-15:Nat):Int):=by rw [Zf (by omega) (by omega)]; omega
 have i2:IntKind.i64.wrap ((i:Int)-2)=((i-2:Nat):Int):=by rw [Zf (by omega) (by omega)]; omega
 have i16:IntKind.i64.wrap ((i:Int)-16)=((i-16:Nat):Int):=by rw [Zf (by omega) (by omega)]; omega
 have i7:IntKind.i64.wrap ((i:Int)-7)=((i-7:Nat):Int):=by rw [Zf (by omega) (by omega)]; omega
 have j15:(((i-15:Nat):Int)<64)=True:=eq_true (by omega)
 have j2:(((i-2:Nat):Int)<64)=True:=eq_true (by omega)
 have j16:(((i-16:Nat):Int)<64)=True:=eq_true (by omega)
 have j7:(((i-7:Nat):Int)<64)=True:=eq_true (by omega)
 have w3:IntKind.i64.wrap ((i:Int)+1)=((i+1:Nat):Int):=Zx (b:=1) (by omega)
 have hle:i+1≤(ns .u64 (pf 64 (Jn b) i)).length:=by rw [Q9,hpl]; omega
 have im:Q1 B [] [Hm.length]=[]:=QD (by simp; omega)
 have gS:∀ m:List Ob,(Hm++m)[B]?=some ⟨KO sh,true,true,true,1⟩:=fun m=>by rw [Qc hB]; exact hS
 have gU:∀ m:List Ob,(Hm++m)[u]?=some ⟨Yz,true,true,true,1⟩:=fun m=>by rw [Qc (Qg.1 hU).1]; exact hU
 have c1:=Rp sh
 have t0:Yz[0]?=some (.int .i64 7):=rfl
 have t1:Yz[1]?=some (.int .i64 18):=rfl
 have t2:Yz[2]?=some (.int .i64 3):=rfl
 have t3:Yz[3]?=some (.int .i64 17):=rfl
 have t4:Yz[4]?=some (.int .i64 19):=rfl
 have t5:Yz[5]?=some (.int .i64 10):=rfl
 clear gx gy lu lv hsum hstep hW hx hy hu hv hWl hS hU
 generalize pf 64 (Jn b) i=O1,pf 64 (Jn b) (i+1)=O2,(w+v+YP x+Bi y)%4294967296=z,w+YP x+v+Bi y=z1 at *
 generalize w+YP x+v=z2 at *
 generalize w+YP x=z3 at *
 generalize YP x=gx,Bi y=gy,ZS x 7=x1v,ZS x 18=x8v,ZS y 17=y19v,ZS y 19=y61v at *
 generalize x/2^3=x7v at *
 generalize y/2^10=y6v at *
 generalize i-15=k15 at *
 generalize i-2=k2 at *
 generalize i-16=k16 at *
 generalize i-7=k7 at *
 generalize hi1:i+1=i1 at *
 generalize Yz=tc at *
 generalize KO sh=sc at *
 simp only [BI,LH,KY,Qs,quiet,cW,↓pW,reduceCtorEq,seval,-Qb,gS,gU,c1,t0,t1,t2,t3,t4,t5,e1,e2,i15,i2,i16,i7,j15,j2,j16,j7,cx,cy,cu,cv,r1,r8,r19,r61,p7,p6,s7,s6,x2,y2,m1,m2,m3,kp,hset,w3,hi1,hle,im]
theorem pr {all:List Nat} (hB:B<Hm.length) (hS:Hm[B]?=some ⟨KO sh,true,true,true,1⟩) (ht:Hm[tid]?=some ⟨u8s all,true,true,x4,1⟩) (hL:all.length<2^50) (hb:∀ j,j<64→all[at_+j]?=b[j]?) (hbl:b.length=64) (hx:∀ y∈b,y<256) (hat:at_+64≤all.length) (hi:i<16) :
  Q2 T B KY (BI B tid all.length tb sv u at_ Hm (pf 64 (Jn b) i) i [])=some (.normal,BI B tid all.length tb sv u at_ Hm (pf 64 (Jn b) (i+1)) ((i+1:Nat):Int) []):=by
 have h4:=cH (tb:=tb) (sv:=sv) (u:=u) (Js hB) ht hL hb hbl hx hat hi
 have e1:((i:Int)<64)=True:=eq_true (by omega)
 have e2:((i:Int)<16)=True:=eq_true (by omega)
 have w3:IntKind.i64.wrap ((i:Int)+1)=((i+1:Nat):Int):=Zx (b:=1) (by omega)
 have gS:∀ m:List Ob,(Hm++m)[B]?=some ⟨KO sh,true,true,true,1⟩:=fun m=>by rw [Qc hB]; exact hS
 have c1:=Rp sh
 simp only [BI,LH,Qn,Ql] at h4
 generalize pf 64 (Jn b) i=O1,pf 64 (Jn b) (i+1)=O2 at *
 generalize hi1:i+1=i1 at *
 generalize KO sh=sc at *
 simp only [BI,LH,KY,Qs,quiet,cW,↓pW,reduceCtorEq,seval,-Qb,gS,c1,e1,e2,h4,w3,hi1]
theorem cG {all:List Nat} (hB:B<Hm.length) (hS:Hm[B]?=some ⟨KO sh,true,true,true,1⟩) (hU:Hm[u]?=some ⟨Yz,true,true,true,1⟩) (ht:Hm[tid]?=some ⟨u8s all,true,true,x4,1⟩) (hL:all.length<2^50) (hb:∀ j,j<64→all[at_+j]?=b[j]?) (hbl:b.length=64) (hx:∀ y∈b,y<256) (hat:at_+64≤all.length) :
  Q2 T B (.block 6 (.loop KY)) (BI B tid all.length tb sv u at_ Hm (Qa 64 0) 0 [])=some (.normal,BI B tid all.length tb sv u at_ Hm (Jn b) 64 [(113,.bool false)]):=by
 have hWl:=VL b
 have h:=ZV (T:=T) (base:=B) (id:=6) (body:=KY) (fun i=>BI B tid all.length tb sv u at_ Hm (pf 64 (Jn b) i) i []) (s':=BI B tid all.length tb sv u at_ Hm (Jn b) 64 [(113,.bool false)]) 64
  (fun i hi=>by
   by_cases h:i<16
   ·exact pr hB hS ht hL hb hbl hx hat h
   ·exact iJ hB hS hU hx (by omega) hi)
  (by
   have gS:∀ m:List Ob,(Hm++m)[B]?=some ⟨KO sh,true,true,true,1⟩:=fun m=>by rw [Qc hB]; exact hS
   have c1:=Rp sh
   rw [Ku hWl]
   generalize Jn b=O2,KO sh=sc at *
   simp only [BI,LH,KY,Qs,quiet,cW,↓pW,reduceCtorEq,seval,-Qb,gS,c1])
 rw [Kt] at h
 exact h
def oP (B tid L kid:Nat) (sv:Value) (u at_ q vid:Nat) (i:Int):Env:=[(3,.pointer (some ⟨B,0,none⟩)),(5,.int .i64 4),(6,.slice (some ⟨tid,0,none⟩) L L),(10,.slice (some ⟨kid,0,none⟩) 80 80),(11,sv),(12,.int .i64 32),(13,.pointer (some ⟨u,0,none⟩)),(14,.int .i64 at_),(15,.slice (some ⟨q,0,none⟩) 64 64),(22,.slice (some ⟨vid,0,none⟩) 8 8),(23,.int .i64 i)]
def Ep (B tid L kid:Nat) (sv:Value) (u at_ q vid:Nat) (i:Int) (Hc:List Ob) (ex:Env):St:=⟨oP B tid L kid sv u at_ q vid i++ex,Hc,[]⟩
theorem gZ {w s:List Nat} (hS:Hc[B]?=some ⟨KO sh,true,true,true,1⟩) (hU:Hc[u]?=some ⟨Yz,true,true,true,1⟩) (hK:Hc[kid]?=some ⟨ns .u64 Km,true,true,true,1⟩) (hq:Hc[q]?=some ⟨ns .u64 w,true,true,true,1⟩) (hvo:Hc[vid]?=some ⟨ns .u64 s,true,x1,x2,1⟩) (hw:w.length=64) (hs:s.length=8) (hx:∀ x∈s,x<4294967296) (hxw:∀ x∈w,x<4294967296) (hi:i<64) :
  Q2 T B YK (Ep B tid L kid sv u at_ q vid i Hc [])=some (.normal,Ep B tid L kid sv u at_ q Hc.length ((i+1:Nat):Int) (Hc++[⟨ns .u64 (E4 s (Km.getD i 0/2^32) (w.getD i 0)),true,true,true,1⟩]) []):=by
 obtain ⟨a,b,c,d,e,f,g,h,rfl⟩:=eight hs
 obtain ⟨k,hk⟩:∃ k,Km[i]?=some k:=⟨_,Qf (by rw [Ue]; omega)⟩
 obtain ⟨v,hv⟩:∃ k,w[i]?=some k:=⟨_,Qf (by omega)⟩
 rw [JJ hk,JJ hv]
 have kc:=ZM (k := .u64) hk
 have vc:=ZM (k := .u64) hv
 have la:=hx a (by simp)
 have lb:=hx b (by simp)
 have lc:=hx c (by simp)
 have le:=hx e (by simp)
 have lf:=hx f (by simp)
 have lg:=hx g (by simp)
 have lh:=hx h (by simp)
 have ld:=hx d (by simp)
 have r14:QK T 143 [.int .u64 e,.int .i64 6,.int .i64 32]=some (.int .u64 (ZS e 6:Nat)):=YZ (r:=6) le (by decide) (by decide)
 have r18:QK T 143 [.int .u64 e,.int .i64 11,.int .i64 32]=some (.int .u64 (ZS e 11:Nat)):=YZ (r:=11) le (by decide) (by decide)
 have r41:QK T 143 [.int .u64 e,.int .i64 25,.int .i64 32]=some (.int .u64 (ZS e 25:Nat)):=YZ (r:=25) le (by decide) (by decide)
 have r28:QK T 143 [.int .u64 a,.int .i64 2,.int .i64 32]=some (.int .u64 (ZS a 2:Nat)):=YZ (r:=2) la (by decide) (by decide)
 have r34:QK T 143 [.int .u64 a,.int .i64 13,.int .i64 32]=some (.int .u64 (ZS a 13:Nat)):=YZ (r:=13) la (by decide) (by decide)
 have r39:QK T 143 [.int .u64 a,.int .i64 22,.int .i64 32]=some (.int .u64 (ZS a 22:Nat)):=YZ (r:=22) la (by decide) (by decide)
 have b14:=Xv (r:=6) le (by decide) (by decide)
 have b18:=Xv (r:=11) le (by decide) (by decide)
 have b41:=Xv (r:=25) le (by decide) (by decide)
 have b28:=Xv (r:=2) la (by decide) (by decide)
 have b34:=Xv (r:=13) la (by decide) (by decide)
 have b39:=Xv (r:=22) la (by decide) (by decide)
 have x2:QK T 142 [.int .u64 (ZS e 6:Nat),.int .u64 (ZS e 11:Nat),.int .u64 (ZS e 25:Nat)]=some (.int .u64 (Kp e:Nat)):=U1 (VX b14) (VX b18) (VX b41)
 have x4:QK T 142 [.int .u64 (ZS a 2:Nat),.int .u64 (ZS a 13:Nat),.int .u64 (ZS a 22:Nat)]=some (.int .u64 (B3 a:Nat)):=U1 (VX b28) (VX b34) (VX b39)
 have a1:=Wv (VX le) (VX lf)
 have lne:4294967295-e<4294967296:=by omega
 have a2:IntKind.u64.wrap (18446744073709551615-(e:Int))=((18446744073709551615-e:Nat):Int):=DR (a:=18446744073709551615) (by omega) (by decide)
 have kp1:=Mo (18446744073709551615-e)
 rw [show (18446744073709551615-e)%4294967296=4294967295-e by omega] at kp1
 have a3:=Wv (VX lne) (VX lg)
 have a4:Zp .or .u64 ((e&&&f:Nat):Int) (((4294967295-e)&&&g:Nat):Int)=((KN e f g:Nat):Int):=by rw [XY rfl (Xr (VX lf)) (Xr (VX lg)),np le]
 have a5:=Wv (VX la) (VX lb)
 have a6:=Wv (VX la) (VX lc)
 have a7:=Wv (VX lb) (VX lc)
 have a8:Zp .or .u64 ((a&&&b:Nat):Int) ((a&&&c:Nat):Int)=(((a&&&b)|||(a&&&c):Nat):Int):=XY rfl (Xr (VX lb)) (Xr (VX lc))
 have a9:Zp .or .u64 (((a&&&b)|||(a&&&c):Nat):Int) ((b&&&c:Nat):Int)=((UQ a b c:Nat):Int):=by rw [XY rfl (XL (n:=64) (Xr (VX lb)) (Xr (VX lc))) (Xr (VX lc)),qB]
 have lk:=aN k (Qp hk)
 have lv:=hxw v (Qp hv)
 have lk32:k/2^32<4294967296:=Va lk
 have hk32:IntKind.u64.wrap ((k:Int).tdiv 4294967296)=((k/2^32:Nat):Int):=Kn (VX lk32)
 have p32:=sW
 generalize k/2^32=kk at *
 have lSe:Kp e<4294967296:=XT (XT b14 b18) b41
 have lSa:B3 a<4294967296:=XT (XT b28 b34) b39
 have lch:KN e f g<4294967296:=by rw [←np le]; exact XL (n:=32) (Vh lf) (Vh lg)
 have lma:UQ a b c<4294967296:=XT (XT (Vh lb) (Vh lc)) (Vh lc)
 have m1:IntKind.u64.wrap ((h:Int)+(Kp e:Int))=((h+Kp e:Nat):Int):=by rw [←Jl]; exact Kn (by omega)
 have m2:IntKind.u64.wrap (((h+Kp e:Nat):Int)+(KN e f g:Int))=((h+Kp e+KN e f g:Nat):Int):=by rw [←Jl]; exact Kn (by omega)
 have m3:IntKind.u64.wrap (((h+Kp e+KN e f g:Nat):Int)+(kk:Int))=((h+Kp e+KN e f g+kk:Nat):Int):=by rw [←Jl]; exact Kn (by omega)
 have m4:IntKind.u64.wrap (((h+Kp e+KN e f g+kk:Nat):Int)+(v:Int))=((h+Kp e+KN e f g+kk+v:Nat):Int):=by rw [←Jl]; exact Kn (by omega)
 have m5:IntKind.u64.wrap ((B3 a:Int)+(UQ a b c:Int))=((B3 a+UQ a b c:Nat):Int):=by rw [←Jl]; exact Kn (by omega)
 have m6:IntKind.u64.wrap (((h+Kp e+KN e f g+kk+v:Nat):Int)+((B3 a+UQ a b c:Nat):Int))=((h+Kp e+KN e f g+kk+v+(B3 a+UQ a b c):Nat):Int):=by rw [←Jl]; exact Kn (by omega)
 have m7:IntKind.u64.wrap ((d:Int)+((h+Kp e+KN e f g+kk+v:Nat):Int))=((d+(h+Kp e+KN e f g+kk+v):Nat):Int):=by rw [←Jl]; exact Kn (by omega)
 have kp2:=Mo (h+Kp e+KN e f g+kk+v+(B3 a+UQ a b c))
 have kp3:=Mo (d+(h+Kp e+KN e f g+kk+v))
 have hr:E4 [a,b,c,d,e,f,g,h] kk v=[(h+Kp e+KN e f g+kk+v+(B3 a+UQ a b c))%4294967296,a,b,c,(d+(h+Kp e+KN e f g+kk+v))%4294967296,e,f,g]:=by
  have e1:(Ty [a,b,c,d,e,f,g,h] kk v+Pf [a,b,c,d,e,f,g,h])%4294967296=(h+Kp e+KN e f g+kk+v+(B3 a+UQ a b c))%4294967296:=by
   show ((h+Kp e+KN e f g+kk+v)%4294967296+(B3 a+UQ a b c)%4294967296)%4294967296=_
   omega
  have e2:(d+Ty [a,b,c,d,e,f,g,h] kk v)%4294967296=(d+(h+Kp e+KN e f g+kk+v))%4294967296:=by
   show (d+(h+Kp e+KN e f g+kk+v)%4294967296)%4294967296=_
   omega
  rw [←e1,←e2]; rfl
 have hf:=mI ((h+Kp e+KN e f g+kk+v+(B3 a+UQ a b c))%4294967296) a b c ((d+(h+Kp e+KN e f g+kk+v))%4294967296) e f g
 rw [←hr] at hf
 have lR:=iy [a,b,c,d,e,f,g,h] kk v
 have e1:((i:Int)<64)=True:=eq_true (by omega)
 have e80:((i:Int)<80)=True:=eq_true (by omega)
 have w3:IntKind.i64.wrap ((i:Int)+1)=((i+1:Nat):Int):=Zx (b:=1) (by omega)
 have g0:(ns .u64 [a,b,c,d,e,f,g,h])[0]?=some (.int .u64 (a:Nat)):=rfl
 have g1:(ns .u64 [a,b,c,d,e,f,g,h])[1]?=some (.int .u64 (b:Nat)):=rfl
 have g2:(ns .u64 [a,b,c,d,e,f,g,h])[2]?=some (.int .u64 (c:Nat)):=rfl
 have g3:(ns .u64 [a,b,c,d,e,f,g,h])[3]?=some (.int .u64 (d:Nat)):=rfl
 have g4:(ns .u64 [a,b,c,d,e,f,g,h])[4]?=some (.int .u64 (e:Nat)):=rfl
 have g5:(ns .u64 [a,b,c,d,e,f,g,h])[5]?=some (.int .u64 (f:Nat)):=rfl
 have g6:(ns .u64 [a,b,c,d,e,f,g,h])[6]?=some (.int .u64 (g:Nat)):=rfl
 have g7:(ns .u64 [a,b,c,d,e,f,g,h])[7]?=some (.int .u64 (h:Nat)):=rfl
 have lS:(ns .u64 [a,b,c,d,e,f,g,h]).length=8:=rfl
 clear hr lk lv lk32 lSe lSa lch lma lh ld hk hv hs hx hxw
 generalize E4 [a,b,c,d,e,f,g,h] kk v=R at *
 generalize (h+Kp e+KN e f g+kk+v+(B3 a+UQ a b c))%4294967296=z1,(d+(h+Kp e+KN e f g+kk+v))%4294967296=z2 at *
 generalize h+Kp e+KN e f g+kk+v+(B3 a+UQ a b c)=z6,d+(h+Kp e+KN e f g+kk+v)=z7 at *
 generalize h+Kp e+KN e f g+kk+v=t1,B3 a+UQ a b c=t2 at *
 generalize h+Kp e+KN e f g+kk=z3 at *
 generalize h+Kp e+KN e f g=z4 at *
 generalize h+Kp e=z5 at *
 generalize Kp e=se,B3 a=sa,KN e f g=cc,UQ a b c=mm at *
 generalize (a&&&b)|||(a&&&c)=q1 at *
 generalize (4294967295-e)&&&g=q2 at *
 generalize 4294967295-e=q3 at *
 generalize 18446744073709551615-e=q0 at *
 generalize e&&&f=q4 at *
 generalize a&&&b=q5 at *
 generalize a&&&c=q6 at *
 generalize b&&&c=q7 at *
 generalize ZS e 6=p1,ZS e 11=p2,ZS e 25=p3,ZS a 2=p4,ZS a 13=p5,ZS a 22=p6 at *
 have t6:Yz[6]?=some (.int .i64 2):=rfl
 have t7:Yz[7]?=some (.int .i64 13):=rfl
 have t8:Yz[8]?=some (.int .i64 22):=rfl
 have t9:Yz[9]?=some (.int .i64 6):=rfl
 have t10:Yz[10]?=some (.int .i64 11):=rfl
 have t11:Yz[11]?=some (.int .i64 25):=rfl
 have c1:=Rp sh
 generalize hi1:i+1=i1 at *
 generalize Yz=tc at *
 generalize KO sh=sc at *
 generalize ns .u64 [a,b,c,d,e,f,g,h]=S at *
 generalize ns .u64 Km=KT at *
 simp only [Ep,oP,YK,Qs,quiet,cW,↓pW,reduceCtorEq,seval,-Qb,hS,hU,hK,hq,hvo,c1,t6,t7,t8,t9,t10,t11,e1,e80,p32,hk32,vc,kc,r14,r18,r41,r28,r34,r39,x2,x4,a1,a2,a3,a4,a5,a6,a7,a8,a9,m1,m2,m3,m4,m5,m6,m7,kp1,kp2,kp3,hf,w3,hi1,g0,g1,g2,g3,g4,g5,g6,g7]
theorem bP {w s:List Nat} (hS:H0[B]?=some ⟨KO sh,true,true,true,1⟩) (hU:H0[u]?=some ⟨Yz,true,true,true,1⟩) (hK:H0[kid]?=some ⟨ns .u64 Km,true,true,true,1⟩) (hq:H0[q]?=some ⟨ns .u64 w,true,true,true,1⟩) (hvo:H0[vid]?=some ⟨ns .u64 s,true,x1,x2,1⟩) (hw:w.length=64) (hs:s.length=8) (hx:∀ x∈s,x<4294967296) (hxw:∀ x∈w,x<4294967296) :
  ∃ vid' l y1 y2,Q2 T B (.block 10 (.loop YK)) (Ep B tid L kid sv u at_ q vid 0 H0 [])=some (.normal,Ep B tid L kid sv u at_ q vid' 64 (H0++l) [(211,.bool false)])∧(H0++l)[vid']?=some ⟨ns .u64 (WU 64 w s),true,y1,y2,1⟩∧(vid'=vid∨H0.length≤vid'):=by
 obtain ⟨st,hb,vid',l,y1,y2,rfl,h1,h2⟩:=Zi (T:=T) (base:=B) (id:=10) (body:=YK)
  (fun j st=>∃ vid' l y1 y2,st=Ep B tid L kid sv u at_ q vid' j (H0++l) []∧(H0++l)[vid']?=some ⟨ns .u64 (WU j w s),true,y1,y2,1⟩∧(vid'=vid∨H0.length≤vid'))
  (Q:=fun st=>∃ vid' l y1 y2,st=Ep B tid L kid sv u at_ q vid' 64 (H0++l) [(211,.bool false)]∧(H0++l)[vid']?=some ⟨ns .u64 (WU 64 w s),true,y1,y2,1⟩∧(vid'=vid∨H0.length≤vid'))
  64 (s:=Ep B tid L kid sv u at_ q vid 0 H0 []) ⟨vid,[],x1,x2,by rw [QF]; rfl,by rw [QF]; exact hvo,.inl rfl⟩
  (fun j st hj hst=>by
   obtain ⟨vid',l,y1,y2,rfl,h1,h2⟩:=hst
   have up:∀ {i:Nat} {o:Ob},H0[i]?=some o→(H0++l)[i]?=some o:=fun {i o} h=>by rw [Qc (Qg.1 h).1]; exact h
   refine ⟨_,gZ (up hS) (up hU) (up hK) (up hq) h1 hw (WK hs w j) (DY hs hx w j) hxw hj,(H0++l).length,l++[⟨ns .u64 (E4 (WU j w s) (Km.getD j 0/2^32) (w.getD j 0)),true,true,true,1⟩],true,true,by rw [←Qt],?_,.inr (by simp)⟩
   rw [←Qt,Qh (Qr _),Q4]; rfl)
  (fun st hst=>by
   obtain ⟨vid',l,y1,y2,rfl,h1,h2⟩:=hst
   refine ⟨_,?_,vid',l,y1,y2,rfl,h1,h2⟩
   have gS:(H0++l)[B]?=some ⟨KO sh,true,true,true,1⟩:=by rw [Qc (Qg.1 hS).1]; exact hS
   have c1:=Rp sh
   generalize KO sh=sc at *
   generalize H0++l=Hc at *
   simp only [Ep,oP,YK,Qs,quiet,cW,↓pW,reduceCtorEq,seval,-Qb,gS,c1])
 exact ⟨vid',l,y1,y2,hb,h1,h2⟩
def Es (B tid L kid sid u at_ vid:Nat) (i:Nat) (Hc:List Ob) (ex:Env):St:=⟨[(3,.pointer (some ⟨B,0,none⟩)),(5,.int .i64 4),(6,.slice (some ⟨tid,0,none⟩) L L),(10,.slice (some ⟨kid,0,none⟩) 80 80),(11,.slice (some ⟨sid,0,none⟩) 8 8),(12,.int .i64 32),(13,.pointer (some ⟨u,0,none⟩)),(14,.int .i64 at_),(22,.slice (some ⟨vid,0,none⟩) 8 8),(29,.int .i64 i)]++ex,Hc,[]⟩
theorem ic {a b:Nat} {D:List Nat} (hB:B≤sid) (hsl:sid<Hc.length) (hne:vid≠sid) (hvo:Hc[vid]?=some ⟨ns .u64 v,true,x1,x2,1⟩) (lD:D.length=8) (hi:i<8) (ha:D[i]?=some a) (hb:v[i]?=some b) (la:a<4294967296) (lb:b<4294967296) :
  Q2 T B YL (Es B tid L kid sid u at_ vid i (Hc.set sid ⟨ns .u64 D,true,true,x3,1⟩) [])=some (.normal,Es B tid L kid sid u at_ vid (i+1) (Hc.set sid ⟨ns .u64 (D.set i ((a+b)%4294967296)),true,true,x3,1⟩) []):=by
 have e1:((i:Int)<8)=True:=eq_true (by omega)
 have w3:IntKind.i64.wrap ((i:Int)+1)=((i+1:Nat):Int):=Zx (b:=1) (by omega)
 have m1:IntKind.u64.wrap ((a:Int)+(b:Int))=((a+b:Nat):Int):=by rw [←Jl]; exact Kn (by omega)
 have kp:=Mo (a+b)
 have ga:=ZM (k := .u64) ha
 have gb:=ZM (k := .u64) hb
 have g1:(Hc.set sid ⟨ns .u64 D,true,true,x3,1⟩)[sid]?=some ⟨ns .u64 D,true,true,x3,1⟩:=Qx hsl
 have g2:(Hc.set sid ⟨ns .u64 D,true,true,x3,1⟩)[vid]?=some ⟨ns .u64 v,true,x1,x2,1⟩:=by rw [Qu (fun h=>hne h.symm)]; exact hvo
 have hset:=X8 .u64 D i ((a+b)%4294967296)
 have hss:∀ o,(Hc.set sid ⟨ns .u64 D,true,true,x3,1⟩).set sid o=Hc.set sid o:=fun o=>by rw [VU]
 have hle:i+1≤(ns .u64 D).length:=by rw [Q9,lD]; omega
 have im:Q1 B [] [sid]=[]:=QD (by simp; omega)
 generalize (a+b)%4294967296=z at *
 generalize a+b=z2 at *
 generalize Hc.set sid ⟨ns .u64 D,true,true,x3,1⟩=G at *
 generalize hi1:i+1=i1 at *
 simp only [Es,YL,Qs,quiet,cW,↓pW,reduceCtorEq,seval,-Qb,e1,w3,m1,kp,ga,gb,g1,g2,hset,hss,hi1,hle,im]
theorem bT {s:List Nat} (hB:B≤sid) (hso:Hc[sid]?=some ⟨ns .u64 s,true,true,x3,1⟩) (hne:vid≠sid) (hvo:Hc[vid]?=some ⟨ns .u64 v,true,x1,x2,1⟩) (lS:s.length=8) (lV:v.length=8) (xS:∀ x∈s,x<4294967296) (xV:∀ x∈v,x<4294967296) :
  Q2 T B (.block 12 (.loop YL)) (Es B tid L kid sid u at_ vid 0 Hc [])=some (.normal,Es B tid L kid sid u at_ vid 8 (Hc.set sid ⟨ns .u64 (JL (fun x y=>(x+y)%4294967296) s v),true,true,x3,1⟩) [(358,.bool false)]):=by
 have hsl:=(Qg.1 hso).1
 obtain ⟨st,hb,D,rfl,lD,hD⟩:=Zi (T:=T) (base:=B) (id:=12) (body:=YL)
  (fun j st=>∃ D,st=Es B tid L kid sid u at_ vid j (Hc.set sid ⟨ns .u64 D,true,true,x3,1⟩) []∧D.length=8∧∀ k,k<8→D[k]?=if k<j then (JL (fun x y=>(x+y)%4294967296) s v)[k]? else s[k]?)
  (Q:=fun st=>∃ D,st=Es B tid L kid sid u at_ vid 8 (Hc.set sid ⟨ns .u64 D,true,true,x3,1⟩) [(358,.bool false)]∧D.length=8∧∀ k,k<8→D[k]?=(JL (fun x y=>(x+y)%4294967296) s v)[k]?)
  8 (s:=Es B tid L kid sid u at_ vid 0 Hc []) ⟨s,by rw [YV hso],lS,fun k hk=>by rw [if_neg (Yd _)]⟩
  (fun j st hj hs=>by
   obtain ⟨D,rfl,lD,hD⟩:=hs
   obtain ⟨a,ha⟩:∃ a,s[j]?=some a:=⟨_,Qf (by omega)⟩
   obtain ⟨b,hb⟩:∃ a,v[j]?=some a:=⟨_,Qf (by omega)⟩
   have hDj:D[j]?=some a:=by rw [hD j hj,if_neg (YX _)]; exact ha
   refine ⟨_,ic hB hsl hne hvo lD hj hDj hb (xS a (Qp ha)) (xV b (Qp hb)),_,rfl,by rw [Q3]; exact lD,fun k hk => ?_⟩
   by_cases h:j=k
   ·subst h
    rw [Qx (by omega),if_pos (DN _),KE,ha,hb]
   ·rw [Qu h,hD k hk]
    by_cases h2:k<j
    ·rw [if_pos h2,if_pos (by omega)]
    ·rw [if_neg h2,if_neg (by omega)])
  (fun st hs=>by
   obtain ⟨D,rfl,lD,hD⟩:=hs
   refine ⟨_,?_,D,rfl,lD,fun k hk=>by rw [hD k hk,if_pos hk]⟩
   generalize Hc.set sid ⟨ns .u64 D,true,true,x3,1⟩=G
   simp only [Es,YL,Qs,quiet,cW,↓pW,reduceCtorEq,seval,-Qb])
 have:D=JL (fun x y=>(x+y)%4294967296) s v:=Ju fun k=>by
  by_cases h:k<8
  ·exact hD k h
  ·rw [QN (by omega),QN (by rw [Vp]; omega)]
 rw [←this]
 exact hb
def E5 (B tid L kid sid u:Nat) (at_:Nat) (Hc:List Ob) (ex:Env):St:=⟨[(3,.pointer (some ⟨B,0,none⟩)),(5,.int .i64 4),(6,.slice (some ⟨tid,0,none⟩) L L),(10,.slice (some ⟨kid,0,none⟩) 80 80),(11,.slice (some ⟨sid,0,none⟩) 8 8),(12,.int .i64 32),(13,.pointer (some ⟨u,0,none⟩)),(14,.int .i64 at_)]++ex,Hc,[]⟩
theorem iB {all s:List Nat} (hBs:B<sid) (hS:Hc[B]?=some ⟨KO sh,true,true,true,1⟩) (hU:Hc[u]?=some ⟨Yz,true,true,true,1⟩) (hK:Hc[kid]?=some ⟨ns .u64 Km,true,true,true,1⟩) (ht:Hc[tid]?=some ⟨u8s all,true,true,x4,1⟩) (hso:Hc[sid]?=some ⟨ns .u64 s,true,true,x3,1⟩) (hs:s.length=8) (hsx:∀ x∈s,x<4294967296)
 (hL:all.length<2^50) (hb:∀ j,j<64→all[at_+j]?=b[j]?) (hbl:b.length=64) (hx:∀ y∈b,y<256) (hat:at_+64≤all.length) :
    ∃ H',Q2 T B YJ (E5 B tid all.length kid sid u at_ Hc [])=some (.normal,E5 B tid all.length kid sid u (at_+64) H' [])∧H'[sid]?=some ⟨ns .u64 (DK s b),true,true,x3,1⟩∧Hc.length≤H'.length∧∀ i,i<Hc.length→i≠sid→H'[i]?=Hc[i]? := by
  have hsl:=(Qg.1 hso).1
  have hBl:B<Hc.length:=by omega
  have h5:=cG (tb := .slice (some ⟨kid,0,none⟩) 80 80) (sv := .slice (some ⟨sid,0,none⟩) 8 8) hBl hS hU ht hL hb hbl hx hat
  obtain ⟨H5,hH5⟩:∃ X,X=Hc++[(⟨ns .u64 (Jn b),true,true,true,1⟩:Ob)]:=⟨_,rfl⟩
  have l5:H5.length=Hc.length+1:=by rw [hH5]; simp
  have up5:∀ {i:Nat} {o:Ob},Hc[i]?=some o→H5[i]?=some o:=fun {i o} h=>by rw [hH5,Qc (Qg.1 h).1]; exact h
  have hq5:H5[Hc.length]?=some ⟨ns .u64 (Jn b),true,true,true,1⟩:=by rw [hH5,Qh (Qr _),Q4]; rfl
  have hap:=sr (up5 hso) hs
  obtain ⟨H7,hH7⟩:∃ X,X=H5++[(⟨[],true,true,true,1⟩:Ob),Ob.grown 1 (ns .u64 s)]:=⟨_,rfl⟩
  have l7:H7.length=H5.length+2:=by rw [hH7]; simp
  have up7:∀ {i:Nat} {o:Ob},H5[i]?=some o→H7[i]?=some o:=fun {i o} h=>by rw [hH7,Qc (Qg.1 h).1]; exact h
  have hv7:H7[H5.length+1]?=some ⟨ns .u64 s,true,true,false,1⟩:=by rw [hH7,Qh (by omega),Q0]; rfl
  have hwx:∀ x∈Jn b,x<4294967296:=fun x hm=>by
    obtain ⟨i,hi⟩:=Xt hm
    exact WQ hx hi
  obtain ⟨vid',l,y1,y2,h3,hvo,hvid⟩:=bP (L:=all.length) (tid:=tid) (sv := .slice (some ⟨sid,0,none⟩) 8 8) (at_:=at_) (up7 (up5 hS)) (up7 (up5 hU)) (up7 (up5 hK)) (up7 hq5) hv7 (VL b) hs hsx hwx
  obtain ⟨H8,hH8⟩:∃ X,X=H7++l:=⟨_,rfl⟩
  have l8:H7.length≤H8.length:=by rw [hH8]; simp
  have up8:∀ {i:Nat} {o:Ob},H7[i]?=some o→H8[i]?=some o:=fun {i o} h=>by rw [hH8,Qc (Qg.1 h).1]; exact h
  rw [←hH8] at h3 hvo
  have hne:vid'≠sid:=by omega
  have h2:=bT (tid:=tid) (L:=all.length) (kid:=kid) (u:=u) (at_:=at_) (Js hBs) (up8 (up7 (up5 hso))) hne hvo hs (WK hs _ 64) hsx (DY hs hsx _ 64)
  rw [show JL (fun x y=>(x+y)%4294967296) s (WU 64 (Jn b) s)=DK s b from rfl] at h2
  obtain ⟨H9,hH9⟩:∃ X,X=H8.set sid ⟨ns .u64 (DK s b),true,true,x3,1⟩:=⟨_,rfl⟩
  rw [←hH9] at h2
  refine ⟨H9,?_,by rw [hH9,Qx (by omega)],by rw [hH9,Q3]; omega,fun i hi hne => ?_⟩
  · have gS9:H9[B]?=some ⟨KO sh,true,true,true,1⟩:=by rw [hH9,Qu (by omega)]; exact up8 (up7 (up5 hS))
    have e1:((at_:Int)<((all.length:Nat):Int))=True:=eq_true (by omega)
    have w1:IntKind.i64.wrap ((at_:Int)+64)=((at_+64:Nat):Int):=Zx (b:=64) (by omega)
    have c1:=Rp sh
    have c2:=gK sh
    have hz80:(Qa 64 [Value.int .u64 0]).flatten=ns .u64 (Qa 64 0):=rfl
    have f0:fillL ([]:List Value) []=some []:=rfl
    have im1:Q1 B [] [H5.length]=[]:=QD (by simp; omega)
    simp only [BI,LH,Ep,oP,Es,Qn,Ql,QB,←hH5] at h5 h3 h2
    rw [←hH7] at hap
    clear hH5 hH7 hH8 hH9 up5 up7 up8 hv7 hq5 hvo hb hx hso
    generalize KO sh=sc,ns .u64 (Qa 64 0)=Z80 at *
    generalize all.length=LL at *
    generalize hat2:at_+64=at2 at *
    simp only [E5,YJ,Qs,quiet,cW,↓pW,reduceCtorEq,seval,-Qb,hS,c1,e1,hz80,h5,f0,hap,im1,h3,h2,gS9,c2,w1]
  · rw [hH9,Qu (fun h=>hne h.symm)]
    have hi':=Qf hi
    rw [hi']
    exact up8 (up7 (up5 hi'))
theorem cm {m:Nat} {all:List Nat} (hBs:B<sid) (hus:u≠sid) (hks:kid≠sid) (hts:tid≠sid) (hS:H0[B]?=some ⟨KO sh,true,true,true,1⟩) (hU:H0[u]?=some ⟨Yz,true,true,true,1⟩) (hK:H0[kid]?=some ⟨ns .u64 Km,true,true,true,1⟩) (ht:H0[tid]?=some ⟨u8s all,true,true,x4,1⟩) (hso:H0[sid]?=some ⟨ns .u64 XH,true,true,x3,1⟩)
 (hL:all.length<2^50) (hx:∀ y∈all,y<256) (hm:all.length=64*m) :
    ∃ H',Q2 T B (.block 4 (.loop YJ)) (E5 B tid all.length kid sid u 0 H0 [])=some (.normal,E5 B tid all.length kid sid u all.length H' [(102,.bool false)])∧H'[sid]?=some ⟨ns .u64 (UG m all),true,true,x3,1⟩∧H0.length≤H'.length∧∀ i,i<H0.length→i≠sid→H'[i]?=H0[i]? := by
  obtain ⟨st,hb,H',rfl,h1,h2,h3⟩:=Zi (T:=T) (base:=B) (id:=4) (body:=YJ)
    (fun j st=>∃ H',st=E5 B tid all.length kid sid u (64*j) H' []∧H'[sid]?=some ⟨ns .u64 (UG j all),true,true,x3,1⟩∧H0.length≤H'.length∧∀ i,i<H0.length→i≠sid→H'[i]?=H0[i]?)
    (Q:=fun st=>∃ H',st=E5 B tid all.length kid sid u all.length H' [(102,.bool false)]∧H'[sid]?=some ⟨ns .u64 (UG m all),true,true,x3,1⟩∧H0.length≤H'.length∧∀ i,i<H0.length→i≠sid→H'[i]?=H0[i]?)
    m (s:=E5 B tid all.length kid sid u 0 H0 []) ⟨H0,rfl,hso,Qr _,fun _ _ _=>rfl⟩
    (fun j st hj hs=>by
      obtain ⟨H',rfl,h1,h2,h3⟩:=hs
      have up:∀ {i:Nat} {o:Ob},H0[i]?=some o→i≠sid→H'[i]?=some o:=fun {i o} h hne=>(h3 i (Qg.1 h).1 hne).trans h
      have hat:64*j+64≤all.length:=by omega
      obtain ⟨H9,k1,k2,k3,k4⟩:=iB (at_:=64*j) (b:=(all.drop (64*j)).take 64) hBs (up hS (by omega)) (up hU hus) (up hK hks) (up ht hts) h1 (Be all j) (TC all j) hL (fun i hi=>by rw [QX,if_pos hi,Zm]) (by rw [Q6,QP]; omega) (fun y hy=>hx y (ZD (QU hy))) hat
      exact ⟨_,k1,H9,rfl,k2,by omega,fun i hi hne=>(k4 i (by omega) hne).trans (h3 i hi hne)⟩)
    (fun st hs=>by
      obtain ⟨H',rfl,h1,h2,h3⟩:=hs
      rw [←hm]
      refine ⟨_,?_,H',rfl,h1,h2,h3⟩
      have e1:((all.length:Int)<((all.length:Nat):Int))=False:=eq_false (by omega)
      generalize all.length=LL at *
      simp only [E5,YJ,Qs,quiet,cW,↓pW,reduceCtorEq,seval,-Qb,e1])
  exact ⟨H',hb,h1,h2,h3⟩
def Ew (sid:Nat) (s:Value) (i c:Int) (Hc:List Ob) (ex:Env):St:=⟨[(5,.int .i64 4),(11,.slice (some ⟨sid,0,none⟩) 8 8),(30,s),(31,.int .i64 i),(32,.int .i64 c)]++ex,Hc,[]⟩
theorem iu {c:Nat} (hBN:B≤N) (hsN:sid<N) (hso:Hc[sid]?=some ⟨ns .u64 st,true,true,x3,1⟩) (hg:Grown .u8 N Hc s bs) (hL:N≤Hc.length) (hbs:bs.length<100) (hi:i<8) (hc:c<8) (hw:st[i]?=some w) (hw':w<18446744073709551616) :
  ∃ s' H',Q2 T B YM (Ew sid s i c Hc [])=some (.normal,Ew sid s' i ((c:Int)-1) H' [])∧Grown .u8 N H' s' (bs++[w/256^c%256])∧N≤H'.length∧∀ k,k<N→H'[k]?=Hc[k]? := by
 obtain ⟨s',H',M,h1,h2,h3,h4,h5⟩:=Wi (x:=w/256^c%256) (bytes:=1) hg hL (by omega) (by decide)
 refine ⟨s',H',?_,h2,h4,h5⟩
 have hm:Q1 B [] M=[]:=QD fun i hi=>by have:=h3 i hi; omega
 have hp:=WY (n:=8*c) (by omega)
 have e8:(2:Nat)^(8*c)=256^c:=by rw [Ja]
 rw [e8] at hp
 have h0:0<256^c:=JM (by decide)
 have hz:(((256^c:Nat):Int)=0)=False:=eq_false (by omega)
 have hd:IntKind.u64.wrap ((w:Int).tdiv ((256^c:Nat):Int))=((w/256^c:Nat):Int):=Kn (ZX (Jq _ _) hw')
 have hr:((w/256^c:Nat):Int).tmod 256=((w/256^c%256:Nat):Int):=rfl
 have w1:IntKind.i64.wrap (8*(c:Int))=((8*c:Nat):Int):=ZT (n:=8*c) (by omega)
 have w2:IntKind.u8.wrap ((w/256^c%256:Nat):Int)=((w/256^c%256:Nat):Int):=TZ (Q5 _ (by decide))
 have w3:IntKind.i64.wrap ((c:Int)-1)=(c:Int)-1:=Zf (by omega) (by omega)
 have e1:(0≤(c:Int))=True:=eq_true (by omega)
 have e2:((i:Int)<8)=True:=eq_true (by omega)
 have gw:=ZM (k := .u64) hw
 have f0:fillL [Value.int .u8 0] [(0,1,.int .u8 ((w/256^c%256:Nat):Int))]=some [.int .u8 ((w/256^c%256:Nat):Int)]:=rfl
 generalize w/256^c%256=r at *
 generalize w/256^c=d at *
 generalize 256^c=p at *
 generalize 8*c=c8 at *
 simp only [Ew,YM,Qs,quiet,cW,↓pW,reduceCtorEq,seval,-Qb,e1,e2,w1,w2,w3,hp,hz,hd,hr,hso,gw,f0,h1,hm]
def Ws (st:List Nat):List Nat:=(Z9 32).map fun i=>st.getD (i/4) 0/256^(3-i%4)%256
theorem cT (st:List Nat):(Ws st).length=32:=by simp [Ws]
theorem cV {j:Nat} (hi:i<8) (hj:j<4) (hw:st[i]?=some w):(Ws st)[4*i+j]?=some (w/256^(3-j)%256):=by
 have h1:(4*i+j)/4=i:=by omega
 have h2:(4*i+j)%4=j:=by omega
 have h3:4*i+j<32:=by omega
 simp only [Ws,J6,Vq h3,Yb,h1,h2,JJ hw]
theorem bY (hBN:B≤N) (hsN:sid<N) (hso:H0[sid]?=some ⟨ns .u64 st,true,true,x3,1⟩) (hg0:Grown .u8 N H0 s0 ((Ws st).take (4*i))) (hL0:N≤H0.length) (hi:i<8) (hw:st[i]?=some w) (hw':w<18446744073709551616) :
  ∃ s' H',Q2 T B (.block 16 (.loop YM)) (Ew sid s0 i 3 H0 [])=some (.normal,Ew sid s' i (-1) H' [(382,.bool false)])∧Grown .u8 N H' s' ((Ws st).take (4*(i+1)))∧N≤H'.length∧∀ k,k<N→H'[k]?=H0[k]? := by
 obtain ⟨x,hb,s',H',rfl,h1,h2,h3⟩:=Zi (T:=T) (base:=B) (id:=16) (body:=YM)
  (fun j x=>∃ s' H',x=Ew sid s' i ((3:Int)-(j:Nat)) H' []∧Grown .u8 N H' s' ((Ws st).take (4*i+j))∧N≤H'.length∧∀ k,k<N→H'[k]?=H0[k]?)
  (Q:=fun x=>∃ s' H',x=Ew sid s' i (-1) H' [(382,.bool false)]∧Grown .u8 N H' s' ((Ws st).take (4*i+4))∧N≤H'.length∧∀ k,k<N→H'[k]?=H0[k]?)
  4 (s:=Ew sid s0 i 3 H0 []) ⟨s0,H0,rfl,hg0,hL0,fun _ _=>rfl⟩
  (fun j x hj hx=>by
   obtain ⟨s',H',rfl,h1,h2,h3⟩:=hx
   have e:((3:Int)-(j:Nat))=((3-j:Nat):Int):=by omega
   obtain ⟨s2,H2,k1,k2,k3,k4⟩:=iu (c:=3-j) hBN hsN ((h3 sid hsN).trans hso) h1 h2 (by rw [Q6]; omega) hi (by omega) hw hw'
   have hget:=cV hi hj hw
   rw [show (Ws st).take (4*i)=(Ws st).take (4*i) from rfl] at hg0
   have ht:(Ws st).take (4*i+(j+1))=(Ws st).take (4*i+j)++[w/256^(3-j)%256]:=by
    rw [←Zu,Zw,hget]; rfl
   rw [←e] at k1
   exact ⟨_,k1,s2,H2,by rw [show (3:Int)-(j:Nat)-1=(3:Int)-((j+1:Nat):Int) by omega],by rw [ht]; exact k2,k3,fun k hk=>(k4 k hk).trans (h3 k hk)⟩)
  (fun x hx=>by
   obtain ⟨s',H',rfl,h1,h2,h3⟩:=hx
   refine ⟨_,?_,s',H',rfl,h1,h2,h3⟩
   simp only [Ew,YM,Qs,quiet,cW,↓pW,reduceCtorEq,seval,-Qb])
 exact ⟨s',H',hb,h1,h2,h3⟩
def Ma (sid:Nat) (s:Value) (i:Int) (Hc:List Ob) (ex:Env):St:=⟨[(5,.int .i64 4),(11,.slice (some ⟨sid,0,none⟩) 8 8),(30,s),(31,.int .i64 i)]++ex,Hc,[]⟩
theorem bZ (hBN:B≤N) (hsN:sid<N) (hso:H0[sid]?=some ⟨ns .u64 st,true,true,x3,1⟩) (hL0:N≤H0.length) (ls:st.length=8) (xs:∀ w∈st,w<18446744073709551616) :
  ∃ s' H',Q2 T B (.block 14 (.loop WA)) (Ma sid (.slice none 0 0) 0 H0 [])=some (.normal,Ma sid s' 8 H' [(376,.bool false)])∧Grown .u8 N H' s' (Ws st)∧N≤H'.length∧∀ k,k<N→H'[k]?=H0[k]? := by
 obtain ⟨x,hb,s',H',rfl,h1,h2,h3⟩:=Zi (T:=T) (base:=B) (id:=14) (body:=WA)
  (fun j x=>∃ s' H',x=Ma sid s' j H' []∧Grown .u8 N H' s' ((Ws st).take (4*j))∧N≤H'.length∧∀ k,k<N→H'[k]?=H0[k]?)
  (Q:=fun x=>∃ s' H',x=Ma sid s' 8 H' [(376,.bool false)]∧Grown .u8 N H' s' (Ws st)∧N≤H'.length∧∀ k,k<N→H'[k]?=H0[k]?)
  8 (s:=Ma sid (.slice none 0 0) 0 H0 []) ⟨_,_,rfl,.nil,hL0,fun _ _=>rfl⟩
  (fun j x hj hx=>by
   obtain ⟨s',H',rfl,h1,h2,h3⟩:=hx
   obtain ⟨w,hw⟩:∃ w,st[j]?=some w:=⟨_,Qf (by omega)⟩
   obtain ⟨s2,H2,k1,k2,k3,k4⟩:=bY hBN hsN ((h3 sid hsN).trans hso) h1 h2 hj hw (xs w (Qp hw))
   refine ⟨Ma sid s2 ((j+1:Nat):Int) H2 [],?_,s2,H2,rfl,k2,k3,fun k hk=>(k4 k hk).trans (h3 k hk)⟩
   have e1:((j:Int)<8)=True:=eq_true (by omega)
   have w3:IntKind.i64.wrap ((j:Int)+1)=((j+1:Nat):Int):=Zx (b:=1) (by omega)
   simp only [Ew,Qn,Ql] at k1
   generalize hj1:j+1=j1 at *
   simp only [Ma,WA,Qs,quiet,cW,↓pW,reduceCtorEq,seval,-Qb,e1,k1,w3,hj1])
  (fun x hx=>by
   obtain ⟨s',H',rfl,h1,h2,h3⟩:=hx
   rw [Qm (by rw [cT]; decide)] at h1
   refine ⟨_,?_,s',H',rfl,h1,h2,h3⟩
   simp only [Ma,WA,Qs,quiet,cW,↓pW,reduceCtorEq,seval,-Qb])
 exact ⟨s',H',hb,h1,h2,h3⟩
theorem ib {H:List Ob} {hid:Nat} {xe:Bool} (xb:∀ y∈bs,y<256) (hb:bs.length<2^46) (hh:H[hid]?=some ⟨ns .u64 XH,true,true,xe,1⟩) :
  ∃ s l,Z5 T 86 [Zn bs,.agg (KO (.slice (some ⟨hid,0,none⟩) 8 8)).toArray] H=some (s,H++l,[])∧Grown .u8 H.length (H++l) s (Vx bs):=by
 obtain ⟨sv,hsv⟩:∃ v,v=Value.slice (some ⟨hid,0,none⟩) 8 8:=⟨_,rfl⟩
 rw [←hsv]
 have hhl:=(Qg.1 hh).1
 have hok:Z7 (.agg (KO sv).toArray)=true:=by rw [hsv]; rfl
 obtain ⟨G1,hG1⟩:∃ X,X=H++[(⟨KO sv,true,true,true,1⟩:Ob)]:=⟨_,rfl⟩
 have l1:G1.length=H.length+1:=by rw [hG1]; simp
 have gB:G1[H.length]?=some ⟨KO sv,true,true,true,1⟩:=by rw [hG1,Qh (Qr _),Q4]; rfl
 have gh:G1[hid]?=some ⟨ns .u64 XH,true,true,xe,1⟩:=by rw [hG1,Qc hhl]; exact hh
 have h2b:=Ik (id:=G1.length) xb (by omega:bs.length≤2^47)
 have h80:=nJ (G:=G1) hb
 obtain ⟨H3,hH3⟩:∃ X,X=G1++[Ob.dead,(⟨[.int .u8 128],true,true,true,1⟩:Ob),Ob.grown 1 (u8s (bs++[128]))]:=⟨_,rfl⟩
 rw [←hH3] at h80
 have hg3:Grown .u8 (H.length+1) H3 (.slice (some ⟨G1.length+2,0,none⟩) (bs.length+1) (bs.length+1)) (bs++[128]):=by
  have:=Grown.own (k := .u8) (B:=H.length+1) (H:=H3) (id:=G1.length+2) (bs:=bs++[128]) (by omega) (by simp) (by rw [hH3,Qh (by omega),Q0]; rfl)
  rwa [Qk] at this
 have p3:∀ i,i<H.length+1→H3[i]?=G1[i]? := fun i hi=>by rw [hH3,Qc (by omega)]
 obtain ⟨s4,H4,h4,hg4,l4,p4⟩:=bO (B:=H.length) (N:=H.length+1) (x:=Zn bs) (by omega) gB hb hg3 (by rw [hH3]; simp; omega) p3
 have h7:=cE (B:=H.length) (n:=bs.length) (s:=s4) (Hm:=H4) (by omega) hb
 obtain ⟨H5,hH5⟩:∃ X,X=H4++[(⟨u8s ((Z9 8).map (V0 bs.length)),true,true,true,1⟩:Ob)]:=⟨_,rfl⟩
 have l5:H5.length=H4.length+1:=by rw [hH5]; simp
 have hg5:Grown .u8 (H.length+1) H5 s4 (bs++128::Qa (XB bs.length) 0):=by rw [hH5]; exact hg4.app
 have lc:((Z9 8).map (V0 bs.length)).length=8:=by simp
 have he5:elemsOf H5 1 ((Z9 8).map (V0 bs.length)).length (.slice (some ⟨H4.length,0,none⟩) 8 8)=some (ns .u8 ((Z9 8).map (V0 bs.length))):=by
  rw [lc,hH5]
  have:Zh 8 (u8s ((Z9 8).map (V0 bs.length)))=ns .u8 ((Z9 8).map (V0 bs.length)):=Qm (by rw [Qq,lc]; exact Qr _)
  simp [elemsOf,Bp,Qq,this]
 have hz:=Gx bs.length
 obtain ⟨s6,H6,M6,ha6,hg6,hM6,l6,p6⟩:=hg5.append (bytes:=1) (x := .slice (some ⟨H4.length,0,none⟩) 8 8) (by omega) (by rw [lc]; rfl) he5 (by rw [lc]; simp; omega) (by decide)
 have hall:bs++128::Qa (XB bs.length) 0++(Z9 8).map (V0 bs.length)=bs++Yj bs.length:=by rw [LV,Qt]
 rw [hall] at hg6
 have lall:(bs++Yj bs.length).length=bs.length+(9+XB bs.length):=by rw [Qk,Hz]
 obtain ⟨tid,x4,rfl,htid,htx⟩:=Grown.ob hg6 (by omega)
 have q6:∀ i,i<H.length+1→H6[i]?=G1[i]? := fun i hi=>by rw [p6 i hi,hH5,Qc (by omega)]; exact p4 i hi
 have htb:=EV H6
 obtain ⟨H7,hH7⟩:∃ X,X=H6++[(⟨ns .u64 Km,true,true,true,1⟩:Ob)]:=⟨_,rfl⟩
 have l7:H7.length=H6.length+1:=by rw [hH7]; simp
 have u7:∀ {i:Nat} {o:Ob},H6[i]?=some o→H7[i]?=some o:=fun {i o} h=>by rw [hH7,Qc (Qg.1 h).1]; exact h
 have k7:H7[H6.length]?=some ⟨ns .u64 Km,true,true,true,1⟩:=by rw [hH7,Qh (Qr _),Q4]; rfl
 have hap:=sr (u7 ((q6 hid (by omega)).trans gh)) Pn
 obtain ⟨H8,hH8⟩:∃ X,X=H7++[(⟨[],true,true,true,1⟩:Ob),Ob.grown 1 (ns .u64 XH)]:=⟨_,rfl⟩
 have l8:H8.length=H7.length+2:=by rw [hH8]; simp
 have u8':∀ {i:Nat} {o:Ob},H7[i]?=some o→H8[i]?=some o:=fun {i o} h=>by rw [hH8,Qc (Qg.1 h).1]; exact h
 have k8:H8[H7.length+1]?=some ⟨ns .u64 XH,true,true,false,1⟩:=by rw [hH8,Qh (by omega),Q0]; rfl
 rw [←hH8] at hap
 obtain ⟨H9,hH9⟩:∃ X,X=H8++[(⟨Yz,true,true,true,1⟩:Ob)]:=⟨_,rfl⟩
 have l9:H9.length=H8.length+1:=by rw [hH9]; simp
 have u9:∀ {i:Nat} {o:Ob},H8[i]?=some o→H9[i]?=some o:=fun {i o} h=>by rw [hH9,Qc (Qg.1 h).1]; exact h
 have k9:H9[H8.length]?=some ⟨Yz,true,true,true,1⟩:=by rw [hH9,Qh (Qr _),Q4]; rfl
 have htl:=(Qg.1 htx).1
 have xall:∀ y∈bs++Yj bs.length,y<256:=fun y hy=>(QE.1 hy).elim (xb y) (LU _ y)
 have hm:(bs++Yj bs.length).length=64*((bs++Yj bs.length).length/64):=by
  have:=Rw bs.length
  rw [lall]; omega
 obtain ⟨H10,hre,hst,l10,p10⟩:=cm (B:=H.length) (tid:=tid) (kid:=H6.length) (sid:=H7.length+1) (u:=H8.length) (by omega) (by omega) (by omega) (by omega) (u9 (u8' (u7 ((q6 _ (by omega)).trans gB)))) k9 (u9 (u8' k7)) (u9 (u8' (u7 htx))) (u9 k8) (by omega) xall hm
 obtain ⟨s',H11,hro,hg11,l11,p11⟩:=bZ (B:=H.length) (N:=H9.length) (by omega) (by omega) hst l10 (Be _ _) (fun w hw=>VX (TC _ _ w hw))
 have hsha:Ws (UG ((bs++Yj bs.length).length/64) (bs++Yj bs.length))=Vx bs:=rfl
 rw [hsha] at hg11
 have pH:∀ i,i<H.length→H11[i]?=H[i]? := fun i hi=>by
  rw [p11 i (by omega),p10 i (by omega) (by omega),hH9,Qc (by omega),hH8,Qc (by omega),hH7,Qc (by omega),q6 i (by omega),hG1,Qc hi]
 obtain ⟨l,rfl⟩:=XJ (H:=H) (by omega) pH
 refine ⟨s',l,?_,Grown.weak hg11 (by omega)⟩
 have F1:H++[(⟨KO sv,true,true,true,1⟩:Ob)]=G1:=hG1.symm
 have F7:H6++[(⟨ns .u64 Km,true,true,true,1⟩:Ob)]=H7:=hH7.symm
 have F9:H8++[(⟨Yz,true,true,true,1⟩:Ob)]=H9:=hH9.symm
 have B7:∀ m:List Ob,(H7++m)[H.length]?=some ⟨KO sv,true,true,true,1⟩:=fun m=>by rw [Qc (by omega)]; exact u7 ((q6 _ (by omega)).trans gB)
 have B8:H8[H.length]?=some ⟨KO sv,true,true,true,1⟩:=u8' (u7 ((q6 _ (by omega)).trans gB))
 have c0:=tI sv
 have c3:=tH sv
 have lsh:=LA sv
 have htu:((KO sv).drop 4).take 12=Yz:=rfl
 have hz16:(Qa 8 [Value.int .u8 0]).flatten=u8s (Qa 8 0):=rfl
 have f128:fillL [Value.int .u8 0] [(0,1,.int .u8 128)]=some [.int .u8 128]:=rfl
 have f0:fillL ([]:List Value) []=some []:=rfl
 have hlen:=Bd (bs:=bs)
 have w1:IntKind.u64.wrap (bs.length:Int)=(bs.length:Nat):=Kn (by omega)
 have im1:Q1 H.length [] [G1.length]=[]:=QD (by simp; omega)
 have im2:Q1 H.length [] M6=[]:=QD fun i hi=>by have:=hM6 i hi; omega
 have im3:Q1 H.length [] [H8.length]=[]:=QD (by simp; omega)
 have ltu:=Lt
 rw [F7] at htb
 simp only [Ip,Rs,E5,Ma,Qn,Ql,QB,←hH5] at h4 h7 hre hro
 rw [←hsv] at hap
 clear hG1 hH3 hH5 hH7 hH8 hH9 hg3 hg4 hg5 hg6 hg11 he5 p3 p4 p6 p10 p11 pH q6 u7 u8' u9 gh hh k7 k8 k9 htx hst hsha xall hm hall
 generalize KO sv=sc at *
 generalize Yz=tc at *
 generalize u8s (Qa 8 0)=Z16 at *
 generalize hbl:bs.length=n at *
 generalize (bs++Yj n).length=LL at *
 rw [Zb (fn:=nT) rfl]
 simp only [nT,Qs,quiet,cW,↓pW,reduceCtorEq,seval,-Qb,hok,F1,gB,c0,c3,h2b,f128,h80,h4,hz16,hlen,w1,h7,ha6,htb,f0,hap,B7,B8,htu,lsh,ltu,F9,hre,hro,im1,im2,im3,Qy,Qe]
end Go.Ev.YtpgphpkjlpkcbaaGreat
namespace Go.Ev.YtpgphpkjlpkcbaaGreat
open Go Go.Ev
attribute [local congr] JC JV JB JW Jz
set_option maxRecDepth 100000
variable {H:List Ob} {a b s:List Nat} {pv:Value} {ps:List (List Nat)} {m n B i:Nat}
def Po (tid:Nat) (Hm:List Ob) (X:List Nat) (i:Nat) (ex:Env):St:=⟨[(2,.pointer (some ⟨0,0,none⟩)),(4,.slice (some ⟨tid,0,none⟩) 32 32),(5,.pointer (some ⟨Hm.length,0,none⟩)),(6,.int .i64 i)]++ex,Hm++[⟨u8s X,true,true,true,1⟩],[]⟩
theorem bR {tid:Nat} {Hm:List Ob} {S:List Nat} {x:Bool} (ht:Hm[tid]?=some ⟨u8s S,true,true,x,1⟩) (lS:S.length=32) :
  Q2 T 0 (.block 0 (.loop ME)) (Po tid Hm (Qa 32 0) 0 [])=some (.normal,Po tid Hm S 32 [(17,.bool false)]):=by
 have h:=ZV (T:=T) (base:=0) (id:=0) (body:=ME) (fun i=>Po tid Hm (pf 32 S i) i []) (s':=Po tid Hm S 32 [(17,.bool false)]) 32
  (fun i hi=>by
   obtain ⟨w,hw⟩:∃ w,S[i]?=some w:=⟨_,Qf (by omega)⟩
   have hstep:=XE lS hi hw
   have hset:=Xb (pf 32 S i) i w
   rw [hstep] at hset
   have hle:i+1≤(u8s (pf 32 S i)).length:=by rw [Qq,Ko lS (by omega)]; omega
   have e1:((i:Int)<32)=True:=eq_true (by omega)
   have w3:IntKind.i64.wrap ((i:Int)+1)=((i+1:Nat):Int):=Zx (b:=1) (by omega)
   have gt:∀ m:List Ob,(Hm++m)[tid]?=some ⟨u8s S,true,true,x,1⟩:=fun m=>by rw [Qc (Qg.1 ht).1]; exact ht
   have gw:(u8s S)[i]?=some (.int .u8 (w:Nat)):=Jx hw
   have im:Q1 0 [] [Hm.length]=[]:=QD (by simp)
   generalize pf 32 S i=O1,pf 32 S (i+1)=O2 at *
   generalize hi1:i+1=i1 at *
   simp only [Po,ME,Qs,quiet,cW,↓pW,reduceCtorEq,seval,-Qb,e1,w3,gt,gw,hset,hle,im,hi1])
  (by
   rw [Ku lS]
   simp only [Po,ME,Qs,quiet,cW,↓pW,reduceCtorEq,seval,-Qb])
 rw [Kt] at h
 exact h
theorem Rr {bs:List Nat} (xb:∀ y∈bs,y<256) (hb:bs.length<2^46):QK T 44 [Zn bs]=some (.agg (u8s (Vx bs)).toArray):=by
 have hz64:Qa 32 (Value.int .u8 0)=u8s (Qa 32 0):=rfl
 have lz64:(Qa 32 0).length=32:=Qe
 obtain ⟨G,hG⟩:∃ X,X=[(⟨u8s (Qa 32 0),true,true,true,1⟩:Ob),⟨KO (.slice (some ⟨2,0,none⟩) 8 8),true,true,true,1⟩,⟨ns .u64 XH,true,true,true,1⟩]:=⟨_,rfl⟩
 obtain ⟨s,l,h1,hg⟩:=ib (H:=G) (hid:=2) (xe:=true) xb hb (by rw [hG]; rfl)
 have lS:=Wh bs
 obtain ⟨tid,x,rfl,h2,h3⟩:=Grown.ob hg (by omega)
 rw [lS] at h1
 have h4:=bR (tid:=tid) h3 lS
 obtain ⟨G2,hG2⟩:∃ X,X=G++l:=⟨_,rfl⟩
 have g0:∀ m:List Ob,(G2++m)[0]?=some ⟨u8s (Qa 32 0),true,true,true,1⟩:=fun m=>by rw [hG2,hG]; rfl
 have s1:∀ (m:List Ob) (o:Ob),(G2.set 0 o++m)[0]?=some o:=fun m o=>by rw [hG2,hG]; rfl
 have s0:∀ (m:List Ob) (o:Ob),(G2++m).set 0 o=(G2.set 0 o)++m:=fun m o=>by rw [hG2,hG]; rfl
 rw [←hG2] at h1 h4
 simp only [Po,Qn,Ql,QB] at h4
 have fI:fillL (Qa 8 (Value.int .u64 0)) [(0,1,.int .u64 1779033703),(1,1,.int .u64 3144134277),(2,1,.int .u64 1013904242),(3,1,.int .u64 2773480762),(4,1,.int .u64 1359893119),(5,1,.int .u64 2600822924),(6,1,.int .u64 528734635),(7,1,.int .u64 1541459225)]=some (ns .u64 XH):=rfl
 rw [hG] at h1
 clear hg h3 hG hG2
 have fT:fillL [Value.int .i64 0,.int .i64 0,.int .i64 0,.slice none 0 0,.int .i64 0,.int .i64 0,.int .i64 0,.int .i64 0,.int .i64 0,.int .i64 0,.int .i64 0,.int .i64 0,.int .i64 0,.int .i64 0,.int .i64 0,.int .i64 0] [(0,1,.int .i64 32),(1,1,.int .i64 64),(2,1,.int .i64 64)]=some ([Value.int .i64 32,.int .i64 64,.int .i64 64,.slice none 0 0]++Qa 12 (.int .i64 0)):=rfl
 have f12:fillL (Qa 12 (Value.int .i64 0)) [(0,1,.int .i64 7),(1,1,.int .i64 18),(2,1,.int .i64 3),(3,1,.int .i64 17),(4,1,.int .i64 19),(5,1,.int .i64 10),(6,1,.int .i64 2),(7,1,.int .i64 13),(8,1,.int .i64 22),(9,1,.int .i64 6),(10,1,.int .i64 11),(11,1,.int .i64 25)]=some Yz:=rfl
 have hs3:([Value.int .i64 32,.int .i64 64,.int .i64 64,.slice none 0 0]++Qa 12 (Value.int .i64 0)).set 3 (Value.slice (some ⟨2,0,none⟩) 8 8)=[Value.int .i64 32,.int .i64 64,.int .i64 64,.slice (some ⟨2,0,none⟩) 8 8]++Qa 12 (Value.int .i64 0):=rfl
 have hs4:splice ([Value.int .i64 32,.int .i64 64,.int .i64 64,.slice (some ⟨2,0,none⟩) 8 8]++Qa 12 (Value.int .i64 0)) 4 Yz=KO (.slice (some ⟨2,0,none⟩) 8 8):=rfl
 have lc1:([Value.int .i64 32,.int .i64 64,.int .i64 64,.slice none 0 0]++Qa 12 (Value.int .i64 0)).length=16:=rfl
 have lc2:([Value.int .i64 32,.int .i64 64,.int .i64 64,.slice (some ⟨2,0,none⟩) 8 8]++Qa 12 (Value.int .i64 0)).length=16:=rfl
 have lsh:=LA (.slice (some ⟨2,0,none⟩) 8 8)
 have ltu:=Lt
 have fz:fillL (u8s (Qa 32 0)) []=some (u8s (Qa 32 0)):=rfl
 generalize [Value.int .i64 32,.int .i64 64,.int .i64 64,.slice none 0 0]++Qa 12 (Value.int .i64 0)=C1 at *
 generalize [Value.int .i64 32,.int .i64 64,.int .i64 64,.slice (some ⟨2,0,none⟩) 8 8]++Qa 12 (Value.int .i64 0)=C2 at *
 generalize KO (.slice (some ⟨2,0,none⟩) 8 8)=C3 at *
 generalize Yz=TU at *
 generalize Vx bs=S,Qa 32 0=Z64 at *
 apply QI (fn:=vJ) rfl
 simp only [vJ,Qs,quiet,cW,↓pW,reduceCtorEq,seval,-Qb,hz64,fz,fI,fT,f12,hs3,hs4,lc1,lc2,lsh,ltu,h1,h4,g0,s0,s1,Qz,Q7,Zc,Q8,Qq,lz64,lS,Qy,Qe,QV]
 rfl
theorem PD (p:Go.Cv.Pt Go.Fp.P Go.Fp.d):JX p Ks=p:=Go.Cv.add_zero Go.Fp.fld p
theorem LS (p:Go.Cv.Pt Go.Fp.P Go.Fp.d):JX p p.neg=Ks:=Go.Cv.add_neg Go.Fp.fld p
theorem LQ (a b:Nat) (p:Go.Cv.Pt Go.Fp.P Go.Fp.d):Jp (a+b) p=JX (Jp a p) (Jp b p):=Go.Cv.mul_add Go.Fp.fld a b p
theorem Mc (a b:Nat) (p:Go.Cv.Pt Go.Fp.P Go.Fp.d):Jp (a*b) p=Jp a (Jp b p):=Go.Cv.TG Go.Fp.fld a b p
theorem LP {l:Nat} {p:Go.Cv.Pt Go.Fp.P Go.Fp.d} (hl:Jp l p=Ks) (k:Nat):Jp (k%l) p=Jp k p:=Go.Cv.mul_mod Go.Fp.fld hl k
theorem Fc (k:Nat):Jp k Ks=Ks:=Go.Cv.mul_zero Go.Fp.fld k
abbrev LtN (n:Nat):Nat→Prop:=fun i=>i<n
theorem HPart.arr {n id off m c:Nat} {H:List Ob} {b:List Nat} {w e:Bool} {s:Nat} (hid:id<n) (h:H[id]?=some ⟨u8s b,true,w,e,s⟩) (hb:∀ y∈b,y<256) (hl:off+m≤b.length) (hm:m≤2^47-4096):HPart (LtN n) H (.slice (some ⟨id,off,none⟩) m c) ((b.drop off).take m):=by
 have hlen:((b.drop off).take m).length=m:=by rw [Q6,QP]; omega
 refine ⟨⟨_,_,by rw [hlen]⟩,fun G hG => ?_,fun y hy=>hb y (ZD (QU hy)),by rw [hlen]; omega⟩
 have hg:=(hG id hid).trans h
 rw [hlen]
 simp [elemsOf,Zv hg rfl,Qq,hl]
 simp [u8s,List.map_take,List.map_drop]
theorem HPart.whole {n id c:Nat} {H:List Ob} {b:List Nat} {w e:Bool} {s:Nat} (hid:id<n) (h:H[id]?=some ⟨u8s b,true,w,e,s⟩) (hb:∀ y∈b,y<256) (hm:b.length≤2^47-4096):HPart (LtN n) H (.slice (some ⟨id,0,none⟩) b.length c) b:=by
 have:=HPart.arr (off:=0) (m:=b.length) (c:=c) hid h hb (by omega) hm
 rwa [ZL,List.take_length] at this
theorem HPart.ext {n m:Nat} {H G:List Ob} {x:Value} {p:List Nat} (h:HPart (LtN n) H x p) (hg:∀ i,i<n→G[i]?=H[i]?) (hnm:n≤m):HPart (LtN m) G x p :=
 ⟨h.shape,fun G' hG'=>h.reads G' fun i hi=>(hG' i (QM hi hnm)).trans (hg i hi),h.lt,h.le⟩
theorem HParts.ext {n m:Nat} {H G:List Ob} {xs:List Value} {ps:List (List Nat)} (h:HParts (LtN n) H xs ps) (hg:∀ i,i<n→G[i]?=H[i]?) (hnm:n≤m):HParts (LtN m) G xs ps:=by
 induction h with
 | nil=>exact .nil
 | cons a _ ih=>exact .cons (a.ext hg hnm) ih
theorem HParts.append {K:Nat→Prop} {H:List Ob} {xs ys:List Value} {ps qs:List (List Nat)} (h:HParts K H xs ps) (k:HParts K H ys qs):HParts K H (xs++ys) (ps++qs):=by
 induction h with
 | nil=>exact k
 | cons a _ ih=>exact .cons a ih
structure Args1 (H:List Ob) (pv:Value) (ps:List (List Nat)) (xs:List Value):Prop where
 inPv:PV (LtN H.length) H pv xs
 parts:HParts (LtN H.length) H xs ps
 few:xs.length<2^40
 len:Go.Ev.lenV pv=some xs.length
 reads:∀ G:List Ob,(∀ i,i<H.length→G[i]?=H[i]?)→elemsOf G 1 xs.length pv=some xs
def Args (H:List Ob) (pv:Value) (ps:List (List Nat)):Prop:=∃ xs,Args1 H pv ps xs
theorem Args.ext {H G:List Ob} {pv:Value} {ps:List (List Nat)} (h:Args H pv ps) (hg:∀ i,i<H.length→G[i]?=H[i]?) (hl:H.length≤G.length):Args G pv ps:=by
 obtain ⟨xs,h1,h2,h3,h4,h5⟩:=h
 refine ⟨xs,?_,h2.ext hg hl,h3,h4,fun G' hG'=>h5 G' fun i hi=>(hG' i (QM hi hl)).trans (hg i hi)⟩
 rcases h1 with h | ⟨pid,off,cap,o,a1,a2,a3,a4,a5⟩
 ·exact .inl h
 ·exact .inr ⟨pid,off,cap,o,a1,QM a2 hl,(hg pid a2).trans a3,a4,a5⟩
theorem Args.app {H l:List Ob} {pv:Value} {ps:List (List Nat)} (h:Args H pv ps):Args (H++l) pv ps:=h.ext (fun i hi=>Qc hi) (by simp)
theorem Args.nothing (H:List Ob):Args H (.slice none 0 0) []:=⟨[],.inl ⟨rfl,rfl⟩,.nil,by decide,rfl,fun _ _=>rfl⟩
theorem Args.arr {H:List Ob} {a n c:Nat} {e:Bool} {s:Nat} {ys:List Value} {qs:List (List Nat)} (ha:H[a]?=some ⟨ys,true,true,e,s⟩) (hn:ys.length=n) (hys:HParts (LtN H.length) H ys qs) (hf:n<2^40):Args H (.slice (some ⟨a,0,none⟩) n c) qs:=by
 subst hn
 refine ⟨ys,.inr ⟨a,0,c,_,rfl,(Qg.1 ha).1,ha,rfl,fun i _=>by rw [QL]⟩,hys,hf,rfl,fun G hG => ?_⟩
 have hg:=(hG a (Qg.1 ha).1).trans ha
 simp [elemsOf,Zv hg rfl]
theorem GX {a:Nat} {ys:List Value} {qs:List (List Nat)} (ha:H[a]?=some ⟨ys,true,true,true,1⟩) (hn:ys.length=n) (hys:HParts (LtN H.length) H ys qs) (hp:Args H pv ps) (h10:n≤10) (hps:ps.length≤1000) :
  ∃ v' l,Jo 1 24 H (.slice (some ⟨a,0,none⟩) n n) pv=some (v',H++l,none,[])∧Args (H++l) v' (qs++ps):=by
 have hAr:Args H (.slice (some ⟨a,0,none⟩) n n) qs:=Args.arr ha hn hys (by omega)
 subst hn
 obtain ⟨xs,hp⟩:=hp
 have h4:liveAt H a=some ⟨ys,true,true,true,1⟩:=Zv ha rfl
 have h8:elemsOf H 1 ys.length (.slice (some ⟨a,0,none⟩) ys.length ys.length)=some ys:=by simp [elemsOf,h4]
 have k1:=hp.len
 have k2:=hp.reads H (fun _ _=>rfl)
 have k3:=hp.few
 have k4:=hp.parts.len
 rcases Jw xs.length with h0 | h0
 ·have hx:xs=[]:=J3 h0
  have hps':ps=[]:=J3 (by rw [hp.parts.len,h0])
  subst hx hps'
  refine ⟨.slice (some ⟨a,0,none⟩) ys.length ys.length,[],?_,by rw [QF,QF]; exact hAr⟩
  rw [ZW] at k1 k2
  simp only [Jo,k1,k2,Qo,if_true,QF]
 ·have h1:¬ xs.length=0:=by omega
  have h2:(ys.length+xs.length)*24≤2^47:=by omega
  have h7:¬ (ys.length+xs.length≤ys.length):=by omega
  refine ⟨.slice (some ⟨H.length,0,none⟩) (ys.length+xs.length) (ys.length+xs.length),[Ob.grown 1 (ys++xs)],?_,?_⟩
  ·simp only [Jo,k1,k2,Qo,if_neg h1,h2,OL,eL,B4,and_self,not_true_eq_false,if_false,if_true,h4,h8,if_neg h7]
  ·refine Args.arr (ys:=ys++xs) (e:=false) (s:=1) (by rw [Qh (Qr _),Q4]; rfl) (by simp) ?_ (by omega)
   exact (hys.ext (fun i hi=>Qc hi) (by simp)).append (hp.parts.ext (fun i hi=>Qc hi) (by simp))
theorem L0 (h:Args H pv ps) (hb:ps.flatten.length<2^49):∃ l,Z5 T 100 [pv] H=some (.agg (u8s (sha ps.flatten)).toArray,H++l,[]):=by
 obtain ⟨xs,h⟩:=h
 have:=h.few
 exact bG h.inPv h.parts (by omega) hb
def As (b:List Nat):List Nat:=rd (sha b)
theorem Mb:(As b).length=32:=tT
theorem TE:∀ x∈As b,x<256:=rd_lt
theorem UH (h:Args H pv ps) (hb:ps.flatten.length<2^49) :
  ∃ l,Z5 T 48 [pv] H=some (.agg (u8s (As ps.flatten)).toArray,H++l,[]):=by
 have hz:Qa 32 (Value.int .u8 0)=u8s (dig 256 32 0):=rfl
 have lz:(dig 256 32 0).length=32:=rfl
 have hz64:=Vw
 have lz64:(Qa 64 0).length=64:=Qe
 obtain ⟨l1,h1⟩:=L0 (h.app (l:=[⟨u8s (dig 256 32 0),true,true,true,1⟩])) hb
 have ls:=Y9 ps.flatten
 have xs:=Ai ps.flatten
 obtain ⟨G,hG⟩:∃ X,X=H++(⟨u8s (dig 256 32 0),true,true,true,1⟩::(l1++[⟨u8s (sha ps.flatten),true,true,true,1⟩,⟨[.slice (some ⟨H.length+(l1.length+1),0,none⟩) 64 64],true,true,true,1⟩])):=⟨_,rfl⟩
 have hGl:G.length=H.length+(l1.length+3):=by rw [hG]; simp
 have hg1:G[H.length+(l1.length+1)]?=some ⟨u8s (sha ps.flatten),true,true,true,1⟩:=by
  rw [hG,Qh (by omega),Q0,XC,Qh (Qr _),Q4]; rfl
 have hg2:G[H.length+(l1.length+1+1)]?=some ⟨[.slice (some ⟨H.length+(l1.length+1),0,none⟩) 64 64],true,true,true,1⟩:=by
  rw [hG,Qh (by omega),Q0,XC,Qh (by omega),Q0]; rfl
 have hP:nW .u8 G (H.length+(l1.length+1+1)) 0 [sha ps.flatten]:=by
  refine ⟨_,Zv hg2 rfl,fun i p hi => ?_⟩
  cases i with
  | zero =>
   simp at hi; subst hi
   refine ⟨_,rfl,?_⟩
   have:=Sl.mk (k := .u8) (c:=64) (off:=0) (l:=sha ps.flatten) (Zv hg1 rfl) (by simp [Qq]) (fun i x hx=>by rw [QL]; exact Jx hx)
   rwa [ls] at this
  | succ i=>simp at hi
 obtain ⟨l2,h2⟩:=ch (c:=1) (n:=1) hP rfl (by decide) (by simp [ls]) (by simpa using xs)
 rw [QO,Jc,QF] at h2
 have hfr:∀ i,i<H.length→((G++l2).set H.length (⟨u8s (As ps.flatten),true,true,true,1⟩:Ob))[i]?=H[i]? := fun i hi=>by
  rw [Qu (by omega),Qc (by omega),hG,Qc hi]
 obtain ⟨l,hl⟩:=XJ (H:=H) (by rw [Q3,Qk]; omega) hfr
 refine ⟨l,?_⟩
 rw [←hl]
 have g4:∀ o:Ob,((G++l2).set H.length o)[H.length]?=some o:=fun o=>Qx (by rw [Qk]; omega)
 have f1:fillL [Value.slice none 0 0] [(0,1,.slice (some ⟨H.length+(l1.length+1),0,none⟩) 64 64)]=some [.slice (some ⟨H.length+(l1.length+1),0,none⟩) 64 64]:=rfl
 have lr:=Mb (b:=ps.flatten)
 rw [show dig 256 32 (num 256 (sha ps.flatten)%ell)=As ps.flatten from rfl] at h2
 have F1:H++(⟨u8s (dig 256 32 0),true,true,true,1⟩::(l1++[⟨u8s (sha ps.flatten),true,true,true,1⟩,⟨[.slice (some ⟨H.length+(l1.length+1),0,none⟩) 64 64],true,true,true,1⟩]))=G:=hG.symm
 have hg3:(G++l2)[H.length]?=some ⟨u8s (dig 256 32 0),true,true,true,1⟩:=by
  rw [Qc (by omega),hG,Qh (Qr _),Q4]; rfl
 rw [Qt,Qn,Ql] at h1
 generalize As ps.flatten=R at *
 generalize sha ps.flatten=S at *
 generalize dig 256 32 0=Z at *
 generalize Qa 64 0=Z64 at *
 rw [Zb (fn:=wN) rfl]
 simp only [wN,Qs,quiet,cW,↓pW,reduceCtorEq,seval,-Qb,hz,hz64,h1,f1,F1,h2,hg3,g4,Qz,Q7,Zc,Q8,Qq,lz,lz64,ls,lr,Qy,Qe]
def scL (s:List Nat):List Nat:=K8 ((sha s).take 32) ((sha s).getD 0 0) ((sha s).getD 31 0)
def pfL (s:List Nat):List Nat:=(sha s).drop 32
theorem Wz (s:List Nat):(scL s).length=32:=by simp [scL,K8,Y9]
theorem Hx (s:List Nat):(pfL s).length=32:=by simp [pfL,Y9]
theorem Gr (s:List Nat) (h:i<64):∃ x,(sha s)[i]?=some x∧(sha s).getD i 0=x∧x<256:=by
 obtain ⟨x,hx⟩:∃ x,(sha s)[i]?=some x:=⟨_,Qf (by rw [Y9]; exact h)⟩
 exact ⟨x,hx,JJ hx,Ai s x (Qp hx)⟩
theorem Ak (s:List Nat):∀ y∈scL s,y<256:=by
 obtain ⟨x,-,e1,lx⟩:=Gr s (i:=0) (by decide)
 obtain ⟨z,-,e2,lz⟩:=Gr s (i:=31) (by decide)
 have h1:x&&&248<256:=XV (n:=8) _ (by decide)
 have h2:(z&&&127)|||64<256:=XL (n:=8) (XV (n:=8) _ (by decide)) (by decide)
 rw [scL,K8,e1,e2]
 exact VY (VY (fun y hy=>Ai s y (QU hy)) h1) h2
theorem tY (s:List Nat):∀ y∈pfL s,y<256:=fun y hy=>Ai s y (ZD hy)
theorem Ve (n:Nat) (l:List Nat):Zh n (u8s l)=u8s (l.take n):=by simp [u8s,List.map_take]
theorem Bc (n:Nat) (l:List Nat):Jr n (u8s l)=u8s (l.drop n):=by simp [u8s,List.map_drop]
theorem JO (a b:List Nat):u8s (a++b)=u8s a++u8s b:=by simp [u8s]
theorem X9 (la:a.length=32) (lb:b.length=32):fillL (u8s (Qa 64 0)) [(0,32,.agg (u8s a).toArray),(32,32,.agg (u8s b).toArray)]=some (u8s (a++b)):=by
 have l64:(u8s (Qa 64 0)).length=64:=by rw [Qq,Qe]
 have lA:(u8s a).length=32:=by rw [Qq,la]
 have lB:(u8s b).length=32:=by rw [Qq,lb]
 have ca:∀ l:List Nat,(Value.agg (u8s l).toArray).cells.toList=u8s l:=fun _=>rfl
 have cz:∀ l:List Nat,(Value.agg (u8s l).toArray).cells.size=(u8s l).length:=fun _=>rfl
 have ok:∀ l:List Nat,Z7 (Value.agg (u8s l).toArray)=true:=fun _=>rfl
 have s1:splice (u8s (Qa 64 0)) 0 (u8s a)=u8s a++(u8s (Qa 64 0)).drop 32:=by
  rw [KV _ _ _ (by omega),Xa,Ql,QL,lA]
 have s2:splice (u8s a++(u8s (Qa 64 0)).drop 32) 32 (u8s b)=u8s (a++b):=by
  rw [KV _ _ _ (by rw [Qk,QP]; omega),ZJ (by omega),Qm (by omega),ZA (by rw [Qk,QP]; omega),QF,JO]
 have e1:(u8s a).length=32∧0+32≤(u8s (Qa 64 0)).length∧True:=⟨lA,by omega,trivial⟩
 have e2:(u8s b).length=32∧32+32≤(u8s a++(u8s (Qa 64 0)).drop 32).length∧True:=⟨lB,by rw [Qk,QP]; omega,trivial⟩
 simp only [fillL,ca,cz,ok,s1,s2,if_pos e1,if_pos e2]
theorem NP (ls:s.length=32) (xs:∀ y∈s,y<256):QK T 64 [.agg (u8s s).toArray]=some (.agg (u8s (scL s++pfL s)).toArray):=by
 have hz64:=Vw
 have lz64:(Qa 64 0).length=64:=Qe
 obtain ⟨G,hG⟩:∃ X,X=[(⟨u8s s,true,true,true,1⟩:Ob),⟨u8s (Qa 64 0),true,true,true,1⟩,⟨[.slice (some ⟨0,0,none⟩) 32 32],true,true,true,1⟩]:=⟨_,rfl⟩
 have hA:Args G (.slice (some ⟨2,0,none⟩) 1 1) [s]:=by
  have hp:HPart (LtN G.length) G (.slice (some ⟨0,0,none⟩) 32 32) s:=by
   have:=HPart.whole (n:=G.length) (H:=G) (id:=0) (c:=32) (b:=s) (by rw [hG]; exact OL _) (by rw [hG]; rfl) xs (by rw [ls]; decide)
   rwa [ls] at this
  exact Args.arr (ys:=[.slice (some ⟨0,0,none⟩) 32 32]) (e:=true) (s:=1) (by rw [hG]; rfl) rfl (.cons hp .nil) (by decide)
 obtain ⟨l,h1⟩:=L0 hA (by simp [ls])
 rw [QO,Jc,QF,hG] at h1
 simp only [Qn,Ql] at h1
 obtain ⟨x,g0,d0,lx⟩:=Gr s (i:=0) (by decide)
 obtain ⟨z,g31,d31,lz⟩:=Gr s (i:=31) (by decide)
 have lS:=Y9 s
 have lt32:((sha s).take 32).length=32:=by rw [Q6,lS]; rfl
 obtain ⟨lc,hc⟩:=Ox (a:=(sha s).take 32) (x:=x) (y:=z) lt32 (by rw [QX,if_pos (by decide)]; exact g0) (by rw [QX,if_pos (by decide)]; exact g31) lx lz
 have hcv:=GH hc
 rw [show K8 ((sha s).take 32) x z=scL s by rw [scL,d0,d31]] at hcv
 have hf:=X9 (Wz s) (Hx s)
 have f1:fillL [Value.slice none 0 0] [(0,1,.slice (some ⟨0,0,none⟩) 32 32)]=some [.slice (some ⟨0,0,none⟩) 32 32]:=rfl
 have t1:Zh 32 (u8s (sha s))=u8s ((sha s).take 32):=Ve _ _
 have t2:Zh 32 (Jr 32 (u8s (sha s)))=u8s (pfL s):=by rw [Bc,Ve,Qm (by rw [QP,lS]; decide)]; rfl
 have l1:=Wz s
 have l2:=Hx s
 have l3:(scL s++pfL s).length=64:=by rw [Qk,l1,l2]
 clear hG hA
 generalize (sha s).take 32=S1,pfL s=S2,scL s=S3 at *
 generalize S3++S2=R at *
 generalize sha s=S,Qa 64 0=Z64 at *
 apply QI (fn:=wO) rfl
 simp only [wO,Qs,quiet,cW,↓pW,reduceCtorEq,seval,-Qb,hz64,h1,f1,t1,t2,hcv,hf,Qz,Q7,Zc,Q8,Qq,ls,lS,lz64,l1,l2,l3,lt32,Qy,Qe]
 rfl
def Y0 (s:List Nat):List Nat:=enc (Jp (num 256 (scL s)) Xl)
theorem iR (ls:s.length=32) (xs:∀ y∈s,y<256):QK T 35 [.agg (u8s s).toArray]=some (.agg (u8s (Y0 s)).toArray):=by
 have hz:Qa 32 (Value.int .u8 0)=u8s (dig 256 32 0):=rfl
 have lz:(dig 256 32 0).length=32:=rfl
 have hh:=NP ls xs
 obtain ⟨B,hB,rB⟩:=SA
 obtain ⟨P,hP,rP⟩:=Uc rB (Wz s) (Ak s)
 have hE:=Mv rP
 have lE:=U5 (Jp (num 256 (scL s)) Xl)
 have l1:=Wz s
 have l2:=Hx s
 have t1:Zh 32 (u8s (scL s++pfL s))=u8s (scL s):=by rw [Ve,ZJ (by omega),Qm (by omega)]
 have l3:(scL s++pfL s).length=64:=by rw [Qk,l1,l2]
 unfold Y0
 generalize enc (Jp (num 256 (scL s)) Xl)=E,scL s++pfL s=R at *
 generalize scL s=S3,dig 256 32 0=Z at *
 apply QI (fn:=wP) rfl
 simp only [wP,Qs,quiet,cW,↓pW,reduceCtorEq,seval,-Qb,hz,hh,hB,hP,hE,t1,Qz,Q7,Zc,Q8,Qq,ls,lz,l1,l3,lE,Qy,Qe,QV]
 rfl
def rL (s m:List Nat):List Nat:=As (pfL s++m)
def frL (s m:List Nat):List Nat:=enc (Jp (num 256 (rL s m)) Xl)
def chL (front pub m:List Nat):List Nat:=As (front++(pub++m))
def bkL (s m:List Nat):List Nat:=mA (chL (frL s m) (Y0 s) m) (scL s) (rL s m)
def Gq (s m:List Nat):List Nat:=frL s m++bkL s m
theorem HH (s m:List Nat):(frL s m).length=32:=U5 _
theorem mz (s m:List Nat):∀ y∈frL s m,y<256:=Ss _
theorem YB (s:List Nat):(Y0 s).length=32:=U5 _
theorem aw (s:List Nat):∀ y∈Y0 s,y<256:=Ss _
theorem bh (s m:List Nat):(bkL s m).length=32:=uK
theorem vy (s m:List Nat):∀ y∈bkL s m,y<256:=mA_lt
theorem DX (s m:List Nat):(Gq s m).length=64:=by rw [Gq,Qk,HH,bh]
theorem oH (s m:List Nat):∀ y∈Gq s m,y<256:=by
 intro y hy
 rcases QE.1 hy with h | h
 ·exact mz s m y h
 ·exact vy s m y h
theorem FU {a b c:Nat} {fa fb:List Nat} {e:Bool} {s:Nat} (ha:H[a]?=some ⟨u8s fa,true,true,true,1⟩) (hb:H[b]?=some ⟨u8s fb,true,true,e,s⟩) (hn:fa.length=n) (hm:fb.length=m) (h0:0<m) (hs:n+m≤1000) :
  Jo 1 1 H (.slice (some ⟨a,0,none⟩) n n) (.slice (some ⟨b,0,none⟩) m c)=some (.slice (some ⟨H.length,0,none⟩) (n+m) (n+m),H++[⟨u8s (fa++fb),true,true,false,1⟩],none,[]):=by
 have h4:liveAt H a=some ⟨u8s fa,true,true,true,1⟩:=Zv ha rfl
 have k2:elemsOf H 1 m (.slice (some ⟨b,0,none⟩) m c)=some (u8s fb):=by
  simp [elemsOf,Zv hb rfl,Qq,hm]
  exact Qm (by rw [Qq,hm]; exact Qr _)
 have h8:elemsOf H 1 n (.slice (some ⟨a,0,none⟩) n n)=some (u8s fa):=by
  simp [elemsOf,h4,Qq,hn]
  exact Qm (by rw [Qq,hn]; exact Qr _)
 have h1:¬ m=0:=by omega
 have h2:(n+m)*1≤2^47:=by omega
 have h7:¬ (n+m≤n):=by omega
 have k1:Go.Ev.lenV (.slice (some ⟨b,0,none⟩) m c)=some m:=rfl
 simp only [Jo,k1,k2,Qo,if_neg h1,h2,OL,eL,B4,and_self,not_true_eq_false,if_false,if_true,h4,h8,if_neg h7,Ob.grown,←JO]
theorem qA (ls:s.length=32) (xs:∀ y∈s,y<256) (hp:Args H pv ps) (hn:ps.length≤1000) (hb:ps.flatten.length<2^48) :
  ∃ l,Z5 T 31 [.agg (u8s s).toArray,pv] H=some (.agg (u8s (Gq s ps.flatten)).toArray,H++l,[]):=by
 have hz:Qa 32 (Value.int .u8 0)=u8s (dig 256 32 0):=rfl
 have lz:(dig 256 32 0).length=32:=rfl
 have hz64:=Vw
 have lz64:(Qa 64 0).length=64:=Qe
 have hh:=NP ls xs
 have l1:=Wz s
 have l2:=Hx s
 have l3:(scL s++pfL s).length=64:=by rw [Qk,l1,l2]
 have x3:∀ y∈scL s++pfL s,y<256:=fun y hy=>(QE.1 hy).elim (Ak s y) (tY s y)
 obtain ⟨B,hB,rB⟩:=SA
 obtain ⟨P,hP,rP⟩:=Uc rB (Wz s) (Ak s)
 have hE:=Mv rP
 rw [show enc (Jp (num 256 (scL s)) Xl)=Y0 s from rfl] at hE
 have lA:=YB s
 obtain ⟨G1,hG1⟩:∃ X,X=H++[(⟨u8s s,true,true,true,1⟩:Ob),⟨u8s (Qa 64 0),true,true,true,1⟩,⟨u8s (scL s++pfL s),true,true,true,1⟩,⟨u8s (Y0 s),true,true,true,1⟩,⟨[.slice (some ⟨H.length+2,32,none⟩) 32 32],true,true,true,1⟩]:=⟨_,rfl⟩
 have lG1:G1.length=H.length+5:=by rw [hG1]; simp
 have gz:G1[H.length+1]?=some ⟨u8s (Qa 64 0),true,true,true,1⟩:=by rw [hG1,Qh (by omega),Q0]; rfl
 have gh:G1[H.length+2]?=some ⟨u8s (scL s++pfL s),true,true,true,1⟩:=by rw [hG1,Qh (by omega),Q0]; rfl
 have gA:G1[H.length+3]?=some ⟨u8s (Y0 s),true,true,true,1⟩:=by rw [hG1,Qh (by omega),Q0]; rfl
 have ga:G1[H.length+4]?=some ⟨[.slice (some ⟨H.length+2,32,none⟩) 32 32],true,true,true,1⟩:=by rw [hG1,Qh (by omega),Q0]; rfl
 have hp1:Args G1 pv ps:=by rw [hG1]; exact hp.app
 have part1:HPart (LtN G1.length) G1 (.slice (some ⟨H.length+2,32,none⟩) 32 32) (pfL s):=by
  have:=HPart.arr (n:=G1.length) (off:=32) (m:=32) (c:=32) (by omega) gh x3 (by rw [l3]; decide) (by decide)
  rwa [Jb (by omega),ZA (by omega),Ql,Qm (by omega)] at this
 obtain ⟨v1,k1,ha1,hA1⟩:=GX (n:=1) ga rfl (.cons part1 .nil) hp1 (by decide) hn
 obtain ⟨k2,hr⟩:=UH hA1 (by rw [ZY,QO,Jc,QF,Qk,l2]; omega)
 rw [ZY,QO,Jc,QF,show As (pfL s++ps.flatten)=rL s ps.flatten from rfl] at hr
 have lr:(rL s ps.flatten).length=32:=Mb
 obtain ⟨G2,hG2⟩:∃ X,X=G1++(k1++k2):=⟨_,rfl⟩
 have lG2:G1.length≤G2.length:=by rw [hG2]; simp
 obtain ⟨P2,hP2,rP2⟩:=Uc rB lr TE
 have hE2:=Mv rP2
 rw [show enc (Jp (num 256 (rL s ps.flatten)) Xl)=frL s ps.flatten from rfl] at hE2
 have lF:=HH s ps.flatten
 obtain ⟨G3,hG3⟩:∃ X,X=G2++[(⟨u8s (rL s ps.flatten),true,true,true,1⟩:Ob),⟨u8s (frL s ps.flatten),true,true,true,1⟩,⟨[.slice (some ⟨G2.length+1,0,none⟩) 32 32,.slice (some ⟨H.length+3,0,none⟩) 32 32],true,true,true,1⟩]:=⟨_,rfl⟩
 have lG3:G3.length=G2.length+3:=by rw [hG3]; simp
 have up13:∀ i,i<G1.length→G3[i]?=G1[i]? := fun i hi=>by rw [hG3,Qc (by omega),hG2,Qc hi]
 have hr3:G3[G2.length]?=some ⟨u8s (rL s ps.flatten),true,true,true,1⟩:=by rw [hG3,Qh (Qr _),Q4]; rfl
 have hf3:G3[G2.length+1]?=some ⟨u8s (frL s ps.flatten),true,true,true,1⟩:=by rw [hG3,Qh (by omega),Q0]; rfl
 have harr3:G3[G2.length+2]?=some ⟨[.slice (some ⟨G2.length+1,0,none⟩) 32 32,.slice (some ⟨H.length+3,0,none⟩) 32 32],true,true,true,1⟩:=by rw [hG3,Qh (by omega),Q0]; rfl
 have hp3:Args G3 pv ps:=hp1.ext up13 (by omega)
 have partF:HPart (LtN G3.length) G3 (.slice (some ⟨G2.length+1,0,none⟩) 32 32) (frL s ps.flatten):=by
  have:=HPart.whole (n:=G3.length) (c:=32) (by omega) hf3 (mz s _) (by rw [lF]; decide)
  rwa [lF] at this
 have partA:HPart (LtN G3.length) G3 (.slice (some ⟨H.length+3,0,none⟩) 32 32) (Y0 s):=by
  have:=HPart.whole (n:=G3.length) (c:=32) (by omega) ((up13 _ (by omega)).trans gA) (aw s) (by rw [lA]; decide)
  rwa [lA] at this
 obtain ⟨v3,k3,ha3,hA3⟩:=GX (n:=2) harr3 rfl (.cons partF (.cons partA .nil)) hp3 (by decide) hn
 obtain ⟨k4,hk⟩:=UH hA3 (by rw [ZY,QO,QO,Jc,QF,Qk,Qk,lF,lA]; omega)
 rw [ZY,QO,QO,Jc,QF,Qt,show As (frL s ps.flatten++(Y0 s++ps.flatten))=chL (frL s ps.flatten) (Y0 s) ps.flatten from rfl] at hk
 have lk:(chL (frL s ps.flatten) (Y0 s) ps.flatten).length=32:=Mb
 obtain ⟨G4,hG4⟩:∃ X,X=G3++(k3++k4):=⟨_,rfl⟩
 have lG4:G3.length≤G4.length:=by rw [hG4]; simp
 have up34:∀ i,i<G3.length→G4[i]?=G3[i]? := fun i hi=>by rw [hG4,Qc hi]
 obtain ⟨q,hm⟩:=du lk l1 lr TE (Ak s) TE
 have hmv:=GH hm
 rw [show mA (chL (frL s ps.flatten) (Y0 s) ps.flatten) (scL s) (rL s ps.flatten)=bkL s ps.flatten from rfl] at hmv
 have lB:=bh s ps.flatten
 obtain ⟨G5,hG5⟩:∃ X,X=G4++[(⟨u8s (chL (frL s ps.flatten) (Y0 s) ps.flatten),true,true,true,1⟩:Ob),⟨u8s (bkL s ps.flatten),true,true,true,1⟩]:=⟨_,rfl⟩
 have lG5:G5.length=G4.length+2:=by rw [hG5]; simp
 have hf5:G5[G2.length+1]?=some ⟨u8s (frL s ps.flatten),true,true,true,1⟩:=by rw [hG5,Qc (by omega),up34 _ (by omega)]; exact hf3
 have hb5:G5[G4.length+1]?=some ⟨u8s (bkL s ps.flatten),true,true,true,1⟩:=by rw [hG5,Qh (by omega),Q0]; rfl
 have hap:=FU (c:=32) hf5 hb5 lF lB (by decide) (by decide)
 rw [show frL s ps.flatten++bkL s ps.flatten=Gq s ps.flatten from rfl] at hap
 have lS:=DX s ps.flatten
 have g4h:∀ l:List Ob,(G4++l)[H.length+2]?=some ⟨u8s (scL s++pfL s),true,true,true,1⟩:=fun l=>by rw [Qc (by omega),up34 _ (by omega),up13 _ (by omega)]; exact gh
 have g4r:∀ l:List Ob,(G4++l)[G2.length]?=some ⟨u8s (rL s ps.flatten),true,true,true,1⟩:=fun l=>by rw [Qc (by omega),up34 _ (by omega)]; exact hr3
 have g5z:∀ l:List Ob,(G5++l)[H.length+1]?=some ⟨u8s (Qa 64 0),true,true,true,1⟩:=fun l=>by rw [Qc (by omega),hG5,Qc (by omega),up34 _ (by omega),up13 _ (by omega)]; exact gz
 have hfr:∀ i,i<H.length→((G5++[(⟨u8s (Gq s ps.flatten),true,true,false,1⟩:Ob)]).set (H.length+1) (⟨u8s (Gq s ps.flatten),true,true,true,1⟩:Ob))[i]?=H[i]? := fun i hi=>by
  rw [Qu (by omega),Qc (by omega),hG5,Qc (by omega),up34 _ (by omega),up13 _ (by omega),hG1,Qc hi]
 obtain ⟨l,hl⟩:=XJ (H:=H) (by rw [Q3,Qk]; omega) hfr
 refine ⟨l,?_⟩
 rw [←hl]
 have g6:∀ o:Ob,((G5++[(⟨u8s (Gq s ps.flatten),true,true,false,1⟩:Ob)]).set (H.length+1) o)[H.length+1]?=some o:=fun o=>Qx (by rw [Qk]; omega)
 have f1:fillL [Value.slice none 0 0] [(0,1,.slice (some ⟨H.length+2,32,none⟩) 32 32)]=some [.slice (some ⟨H.length+2,32,none⟩) 32 32]:=rfl
 have f2:fillL [Value.slice none 0 0,.slice none 0 0] [(0,1,.slice (some ⟨G2.length+1,0,none⟩) 32 32),(1,1,.slice (some ⟨H.length+3,0,none⟩) 32 32)]=some [.slice (some ⟨G2.length+1,0,none⟩) 32 32,.slice (some ⟨H.length+3,0,none⟩) 32 32]:=rfl
 have t1:Zh 32 (u8s (scL s++pfL s))=u8s (scL s):=by rw [Ve,ZJ (by omega),Qm (by omega)]
 have F1:H++[(⟨u8s s,true,true,true,1⟩:Ob),⟨u8s (Qa 64 0),true,true,true,1⟩,⟨u8s (scL s++pfL s),true,true,true,1⟩,⟨u8s (Y0 s),true,true,true,1⟩,⟨[.slice (some ⟨H.length+2,32,none⟩) 32 32],true,true,true,1⟩]=G1:=hG1.symm
 have F2:G1++(k1++k2)=G2:=hG2.symm
 have F3:G2++[(⟨u8s (rL s ps.flatten),true,true,true,1⟩:Ob),⟨u8s (frL s ps.flatten),true,true,true,1⟩,⟨[.slice (some ⟨G2.length+1,0,none⟩) 32 32,.slice (some ⟨H.length+3,0,none⟩) 32 32],true,true,true,1⟩]=G3:=hG3.symm
 have F4:G3++(k3++k4)=G4:=hG4.symm
 have F5:G4++[(⟨u8s (chL (frL s ps.flatten) (Y0 s) ps.flatten),true,true,true,1⟩:Ob),⟨u8s (bkL s ps.flatten),true,true,true,1⟩]=G5:=hG5.symm
 have im1:Q1 H.length [] [G2.length]=[]:=QD (by simp; omega)
 have im2:Q1 H.length [] [G2.length+1]=[]:=QD (by simp; omega)
 have im3:Q1 H.length [] [G4.length]=[]:=QD (by simp; omega)
 have im4:Q1 H.length [] [G4.length+1]=[]:=QD (by simp; omega)
 have ls1:[Value.slice (some ⟨H.length+2,32,none⟩) 32 32].length=1:=rfl
 clear hG1 hG2 hG3 hG4 hG5 hl hfr hm hA1 hA3 partF partA part1
 rw [Qt] at hr hk
 generalize Gq s ps.flatten=S,bkL s ps.flatten=Bk,chL (frL s ps.flatten) (Y0 s) ps.flatten=Ck at *
 generalize frL s ps.flatten=Fr,rL s ps.flatten=R,Y0 s=A,scL s++pfL s=Hv at *
 generalize scL s=Sc,dig 256 32 0=Z,Qa 64 0=Z64 at *
 rw [Zb (fn:=wQ) rfl]
 simp only [wQ,Qs,quiet,cW,↓pW,reduceCtorEq,seval,-Qb,hz,hz64,hh,hB,hP,hE,f1,F1,ha1,hr,F2,hP2,hE2,f2,F3,ha3,hk,F4,g4h,g4r,t1,hmv,F5,hap,g5z,g6,im1,im2,im3,im4,Qz,Q7,Zc,Q8,Qq,ls,lz,lz64,l1,l3,lA,lr,lF,lk,lB,lS,Qy,Qe,QV]
def Lf (pub front back m:List Nat) (c:Int):Prop :=
 ((∀ A,enc A≠pub)∧c=60)∨∃ A,enc A=pub ∧
  (((Jp 8 A=Ks∨¬ num 256 back<ell)∧c=70)∨(Jp 8 A≠Ks∧num 256 back<ell ∧
   (((∀ R,enc R≠front)∧c=70)∨∃ R,enc R=front∧c=if JX (Jp (num 256 back) Xl) (Jp (num 256 (chL front pub m)) A.neg)=R then 0 else 70)))
theorem Bb {k l:List Nat} (lk:k.length=32) (ll:l.length=32):vEq (some (Qa 32 true)) true (.agg (u8s k).toArray) (.agg (u8s l).toArray)=some (.bool (!(k==l))):=by
 rw [DS,K9 lk ll]
 rfl
theorem nk {pub front back:List Nat} {ps:List (List Nat)} (lp:pub.length=32) (xp:∀ y∈pub,y<256) (lf:front.length=32) (xf:∀ y∈front,y<256) (lb:back.length=32) (xb:∀ y∈back,y<256) (hp:Args H pv ps) (hn:ps.length≤1000) (hb:ps.flatten.length<2^48) :
  ∃ l c,Z5 T 27 [.agg (u8s pub).toArray,.agg (u8s (front++back)).toArray,pv] H=some (.int .i64 c,H++l,[])∧Lf pub front back ps.flatten c:=by
 have hz:Qa 32 (Value.int .u8 0)=u8s (dig 256 32 0):=rfl
 have lz:(dig 256 32 0).length=32:=rfl
 have hz20:∃ O,Qa 20 (Value.int .u64 0)=ns .u64 O∧O.length=20:=⟨Qa 20 0,rfl,rfl⟩
 obtain ⟨O,hz20,lO⟩:=hz20
 have rft:∀ (r:List Nat) (c:Int),rf (Value.tuple #[eV r,.int .i64 c])=true:=fun r c=>KD (a:=eV r) (b := .int .i64 c) (QV r) rfl
 have lS:(front++back).length=64:=by rw [Qk,lf,lb]
 have t1:Zh 32 (u8s (front++back))=u8s front:=by rw [Ve,ZJ (by omega),Qm (by omega)]
 have t2:Zh 32 (Jr 32 (u8s (front++back)))=u8s back:=by rw [Bc,Jb (by omega),ZA (by omega),Ql,Ve,Qm (by omega)]
 rcases Ou lp xp with ⟨A,a,hA,rA,eA⟩ | ⟨A,hA,lA,hno⟩
 ·have p1:=rA.len
  have ht:=tD rA
  obtain ⟨qc,hcn⟩:=IU lb xb
  have hcv:=GH hcn
  unfold GO at hA
  by_cases htiny:Jp 8 a=Ks
  ·rw [decide_eq_true htiny] at ht
   have hx:∃ l,Z5 T 27 [.agg (u8s pub).toArray,.agg (u8s (front++back)).toArray,pv] H=some (.int .i64 70,H++l,[]):=by
    generalize front++back=S at *
    generalize dig 256 32 0=Z at *
    apply Jm
    rw [Zb (fn:=RT) rfl]
    simp only [RT,Qs,quiet,cW,↓pW,reduceCtorEq,seval,-Qb,hz,hz20,hA,t1,t2,ht, Qz,Q7,Zc,Q8,Q9,Qq,lp,lf,lb,lS,lz,lO,p1,Qy,Qe,rft,QV]
    rfl
   obtain ⟨l,hx⟩:=hx
   exact ⟨l,70,hx,.inr ⟨a,eA,.inl ⟨.inl htiny,rfl⟩⟩⟩
  ·rw [decide_eq_false htiny] at ht
   by_cases hc:num 256 back<ell
   ·rw [decide_eq_true hc] at hcv
    rcases Ou lf xf with ⟨R,r,hR,rR,eR⟩ | ⟨R,hR,lR,hnR⟩
    ·have p2:=rR.len
     unfold GO at hR
     obtain ⟨G1,hG1⟩:∃ X,X=H++[(⟨u8s pub,true,true,true,1⟩:Ob),⟨u8s (front++back),true,true,true,1⟩,⟨ns .u64 A,true,true,true,1⟩,⟨u8s front,true,true,true,1⟩,⟨u8s back,true,true,true,1⟩,⟨ns .u64 R,true,true,true,1⟩,⟨[.slice (some ⟨H.length+3,0,none⟩) 32 32,.slice (some ⟨H.length,0,none⟩) 32 32],true,true,true,1⟩]:=⟨_,rfl⟩
     have lG1:G1.length=H.length+7:=by rw [hG1]; simp
     have gp:G1[H.length]?=some ⟨u8s pub,true,true,true,1⟩:=by rw [hG1,Qh (by omega),Q4]; rfl
     have gA:G1[H.length+2]?=some ⟨ns .u64 A,true,true,true,1⟩:=by rw [hG1,Qh (by omega),Q0]; rfl
     have gf:G1[H.length+3]?=some ⟨u8s front,true,true,true,1⟩:=by rw [hG1,Qh (by omega),Q0]; rfl
     have gb:G1[H.length+4]?=some ⟨u8s back,true,true,true,1⟩:=by rw [hG1,Qh (by omega),Q0]; rfl
     have ga:G1[H.length+6]?=some ⟨[.slice (some ⟨H.length+3,0,none⟩) 32 32,.slice (some ⟨H.length,0,none⟩) 32 32],true,true,true,1⟩:=by rw [hG1,Qh (by omega),Q0]; rfl
     have hp1:Args G1 pv ps:=by rw [hG1]; exact hp.app
     have partF:HPart (LtN G1.length) G1 (.slice (some ⟨H.length+3,0,none⟩) 32 32) front:=by
      have:=HPart.whole (n:=G1.length) (c:=32) (by omega) gf xf (by rw [lf]; decide)
      rwa [lf] at this
     have partP:HPart (LtN G1.length) G1 (.slice (some ⟨H.length,0,none⟩) 32 32) pub:=by
      have:=HPart.whole (n:=G1.length) (c:=32) (by omega) gp xp (by rw [lp]; decide)
      rwa [lp] at this
     obtain ⟨v1,k1,ha1,hA1⟩:=GX (n:=2) ga rfl (.cons partF (.cons partP .nil)) hp1 (by decide) hn
     obtain ⟨k2,hk⟩:=UH hA1 (by rw [ZY,QO,QO,Jc,QF,Qk,Qk,lf,lp]; omega)
     rw [ZY,QO,QO,Jc,QF,Qt,show As (front++(pub++ps.flatten))=chL front pub ps.flatten from rfl,Qt] at hk
     have lk:(chL front pub ps.flatten).length=32:=Mb
     obtain ⟨G2,hG2⟩:∃ X,X=G1++(k1++k2):=⟨_,rfl⟩
     have lG2:G1.length≤G2.length:=by rw [hG2]; simp
     have up:∀ i,i<G1.length→∀ l:List Ob,(G2++l)[i]?=G1[i]? := fun i hi l=>by rw [Qc (by omega),hG2,Qc hi]
     obtain ⟨B,hB,rB⟩:=SA
     obtain ⟨X,hX,rX⟩:=Uc rB lb xb
     obtain ⟨NA,hNA,rNA⟩:=uB rA
     obtain ⟨Y,hY,rY⟩:=Uc rNA lk TE
     obtain ⟨S,dS,hS,ES⟩:=s8 (H:=G2++[(⟨u8s (chL front pub ps.flatten),true,true,true,1⟩:Ob),⟨ns .u64 [X,Y].flatten,true,true,true,1⟩]) (id:=G2.length+1) (n:=2) (xs:=[X,Y]) rfl (by decide) (.cons rX (.cons rY .nil)) (by rw [Qh (by omega),Q0]; rfl)
     simp only [List.map_cons,List.map_nil,Qn,Qt,Ql] at hS
     rw [fold2] at ES
     have hE:=Mv ES
     have lE:=U5 (JX (Jp (num 256 back) Xl) (Jp (num 256 (chL front pub ps.flatten)) a.neg))
     have g1:=uZ rX rY
     have q1:=rX.len
     have q2:=rY.len
     have q3:=ES.len
     have hq:=Bb lE lf
     have hd:(enc (JX (Jp (num 256 back) Xl) (Jp (num 256 (chL front pub ps.flatten)) a.neg))==front)=decide (JX (Jp (num 256 back) Xl) (Jp (num 256 (chL front pub ps.flatten)) a.neg)=r):=by rw [←eR,IK]
     rw [hd] at hq
     have uA:=fun l=>(up _ (by omega) l).trans gA
     have uf:=fun l=>(up _ (by omega) l).trans gf
     have ub:=fun l=>(up _ (by omega) l).trans gb
     have f2:fillL [Value.slice none 0 0,.slice none 0 0] [(0,1,.slice (some ⟨H.length+3,0,none⟩) 32 32),(1,1,.slice (some ⟨H.length,0,none⟩) 32 32)]=some [.slice (some ⟨H.length+3,0,none⟩) 32 32,.slice (some ⟨H.length,0,none⟩) 32 32]:=rfl
     have F1:H++[(⟨u8s pub,true,true,true,1⟩:Ob),⟨u8s (front++back),true,true,true,1⟩,⟨ns .u64 A,true,true,true,1⟩,⟨u8s front,true,true,true,1⟩,⟨u8s back,true,true,true,1⟩,⟨ns .u64 R,true,true,true,1⟩,⟨[.slice (some ⟨H.length+3,0,none⟩) 32 32,.slice (some ⟨H.length,0,none⟩) 32 32],true,true,true,1⟩]=G1:=hG1.symm
     have F2:G1++(k1++k2)=G2:=hG2.symm
     have im1:Q1 H.length [] [G2.length]=[]:=QD (by simp; omega)
     have hfr:∀ l:List Ob,∃ l',G2++l=H++l':=fun l=>⟨_,by rw [hG2,hG1,Qt,Qt]⟩
     by_cases hfin:JX (Jp (num 256 back) Xl) (Jp (num 256 (chL front pub ps.flatten)) a.neg)=r
     ·rw [decide_eq_true hfin] at hq
      have hx:∃ l,Z5 T 27 [.agg (u8s pub).toArray,.agg (u8s (front++back)).toArray,pv] H=some (.int .i64 0,G2++l,[]):=by
       clear hG1 hG2 hd up hfr
       generalize front++back=SG at *
       generalize dig 256 32 0=Z,chL front pub ps.flatten=Ck at *
       generalize enc (JX (Jp (num 256 back) Xl) (Jp (num 256 Ck) a.neg))=E at *
       apply Jm
       rw [Zb (fn:=RT) rfl]
       simp only [RT,Qs,quiet,cW,↓pW,reduceCtorEq,seval,-Qb,hz,hz20,hA,t1,t2,ht,hcv,hR,f2,F1,ha1,hk,F2,im1,hB,hX,hNA,hY,g1,hS,hE,hq,uA,uf,ub,Qz,Q7,Zc,Q8,Q9,Qq,lp,lf,lb,lS,lz,lO,lk,lE,p1,p2,q1,q2,q3,Qy,Qe,rft,QV]
       rfl
      obtain ⟨l,hx⟩:=hx
      obtain ⟨l',hl'⟩:=hfr l
      rw [hl'] at hx
      exact ⟨l',0,hx,.inr ⟨a,eA,.inr ⟨htiny,hc,.inr ⟨r,eR,by rw [if_pos hfin]⟩⟩⟩⟩
     ·rw [decide_eq_false hfin] at hq
      have hx:∃ l,Z5 T 27 [.agg (u8s pub).toArray,.agg (u8s (front++back)).toArray,pv] H=some (.int .i64 70,G2++l,[]):=by
       clear hG1 hG2 hd up hfr
       generalize front++back=SG at *
       generalize dig 256 32 0=Z,chL front pub ps.flatten=Ck at *
       generalize enc (JX (Jp (num 256 back) Xl) (Jp (num 256 Ck) a.neg))=E at *
       apply Jm
       rw [Zb (fn:=RT) rfl]
       simp only [RT,Qs,quiet,cW,↓pW,reduceCtorEq,seval,-Qb,hz,hz20,hA,t1,t2,ht,hcv,hR,f2,F1,ha1,hk,F2,im1,hB,hX,hNA,hY,g1,hS,hE,hq,uA,uf,ub,Qz,Q7,Zc,Q8,Q9,Qq,lp,lf,lb,lS,lz,lO,lk,lE,p1,p2,q1,q2,q3,Qy,Qe,rft,QV]
       rfl
      obtain ⟨l,hx⟩:=hx
      obtain ⟨l',hl'⟩:=hfr l
      rw [hl'] at hx
      exact ⟨l',70,hx,.inr ⟨a,eA,.inr ⟨htiny,hc,.inr ⟨r,eR,by rw [if_neg hfin]⟩⟩⟩⟩
    ·unfold GO at hR
     have hx:∃ l,Z5 T 27 [.agg (u8s pub).toArray,.agg (u8s (front++back)).toArray,pv] H=some (.int .i64 70,H++l,[]):=by
      generalize front++back=S at *
      generalize dig 256 32 0=Z at *
      apply Jm
      rw [Zb (fn:=RT) rfl]
      simp only [RT,Qs,quiet,cW,↓pW,reduceCtorEq,seval,-Qb,hz,hz20,hA,t1,t2,ht,hcv,hR,lR,Qz,Q7,Zc,Q8,Q9,Qq,lp,lf,lb,lS,lz,lO,p1,Qy,Qe,rft,QV]
      rfl
     obtain ⟨l,hx⟩:=hx
     exact ⟨l,70,hx,.inr ⟨a,eA,.inr ⟨htiny,hc,.inl ⟨hnR,rfl⟩⟩⟩⟩
   ·rw [decide_eq_false hc] at hcv
    have hx:∃ l,Z5 T 27 [.agg (u8s pub).toArray,.agg (u8s (front++back)).toArray,pv] H=some (.int .i64 70,H++l,[]):=by
     generalize front++back=S at *
     generalize dig 256 32 0=Z at *
     apply Jm
     rw [Zb (fn:=RT) rfl]
     simp only [RT,Qs,quiet,cW,↓pW,reduceCtorEq,seval,-Qb,hz,hz20,hA,t1,t2,ht,hcv,Qz,Q7,Zc,Q8,Q9,Qq,lp,lf,lb,lS,lz,lO,p1,Qy,Qe,rft,QV]
     rfl
    obtain ⟨l,hx⟩:=hx
    exact ⟨l,70,hx,.inr ⟨a,eA,.inl ⟨.inr hc,rfl⟩⟩⟩
 ·unfold GO at hA
  have hx:Z5 T 27 [.agg (u8s pub).toArray,.agg (u8s (front++back)).toArray,pv] H=some (.int .i64 60,H++[⟨u8s pub,true,true,true,1⟩,⟨u8s (front++back),true,true,true,1⟩,⟨ns .u64 A,true,true,true,1⟩],[]):=by
   generalize front++back=S at *
   generalize dig 256 32 0=Z at *
   rw [Zb (fn:=RT) rfl]
   simp only [RT,Qs,quiet,cW,↓pW,reduceCtorEq,seval,-Qb,hz,hz20,hA,t1,t2,Qz,Q7,Zc,Q8,Q9,Qq,lp,lS,lz,lO,lA,Qy,Qe,rft,QV]
  exact ⟨_,60,hx,.inl ⟨hno,rfl⟩⟩
theorem AD {x:Nat} (h:a[m]?=some x):num B a=num B (a.take m)+x*B^m+B^(m+1)*num B (a.drop (m+1)):=by
 have hm:m<a.length:=(Qg.1 h).1
 conv=>lhs; rw [←Z3 (m+1) a,Ys,Xg h]
 rw [Q6,Zy (by omega)]
theorem Ml (ha:∀ x∈a,x<B) (hm:m≤a.length):num B (a.take m)<B^m:=by
 have:=num_lt (B:=B) (l:=a.take m) fun x hx=>ha x (QU hx)
 rwa [Q6,Zy hm] at this
theorem kW {x y:Nat} (hl:a.length=b.length) (ha:∀ x∈a,x<B) (hb:∀ x∈b,x<B) (hx:a[m]?=some x) (hy:b[m]?=some y) (hne:x≠y) (hd:a.drop (m+1)=b.drop (m+1)):(num B a<num B b)↔x<y:=by
 have hm:m<a.length:=(Qg.1 hx).1
 rw [AD hx,AD hy,hd]
 have h1:=Ml (m:=m) ha (by omega)
 have h2:=Ml (m:=m) hb (by omega)
 rcases ZG x y with h | h
 ·have:(x+1)*B^m≤y*B^m:=Ji _ h
  rw [Zl,Xf] at this
  constructor<;>intro<;>omega
 ·have:(y+1)*B^m≤x*B^m:=Ji _ (by omega)
  rw [Zl,Xf] at this
  constructor<;>intro<;>omega
def cb (a b:List Nat) (i:Int) (ex:Env):St:=⟨[(2,.pointer (some ⟨0,0,none⟩)),(3,.pointer (some ⟨1,0,none⟩)),(5,.int .i64 i)]++ex,[⟨ns .u64 a,true,true,true,1⟩,⟨ns .u64 b,true,true,true,1⟩],[]⟩
theorem Ap {a b:List Nat} (ha:Nm a) (hb:Nm b) :
  ∀ m,m≤16→a.drop m=b.drop m→Q2 T 0 (.loop Ct) (cb a b ((m:Int)-1) []) =
   if a=b then some (.exit 0,cb a b (-1) [(7,.bool false)]) else some (.ret,⟨[(4,.bool (decide (num 65536 a<num 65536 b)))],[⟨ns .u64 a,true,true,true,1⟩,⟨ns .u64 b,true,true,true,1⟩],[]⟩)
 | 0,_,hd=>by
  rw [ZL,ZL] at hd
  rw [if_pos hd,Xc]
  have e:((0:Int) ≤ -1)=False:=by decide
  simp only [cb,Ct,Qs,quiet,cK,↓pQ,reduceCtorEq,seval,-Qb,cL,Int.zero_sub,e]
 | m+1,hm,hd=>by
  obtain ⟨x,hx⟩:∃ x,a[m]?=some x:=⟨_,Qf (by rw [ha.len]; omega)⟩
  obtain ⟨y,hy⟩:∃ y,b[m]?=some y:=⟨_,Qf (by rw [hb.len]; omega)⟩
  have c1:=ZM (k := .u64) hx
  have c2:=ZM (k := .u64) hy
  have l1:=ha.len
  have l2:=hb.len
  have e0:(((m+1:Nat):Int)-1)=(m:Int):=by omega
  have e1:((0:Int)≤(m:Int))=True:=eq_true (by omega)
  have e2:((m:Int)<16)=True:=eq_true (by omega)
  have e3:IntKind.i64.wrap ((m:Int)-1)=(m:Int)-1:=Zf (by omega) (by omega)
  rw [e0,Xc]
  by_cases hxy:x=y
  ·subst hxy
   have hd':a.drop m=b.drop m:=by
    rw [Jg,hx,hd,←hy,←Jg]
   have ih:=Ap ha hb m (by omega) hd'
   rw [←ih]
   simp only [cb,Ct,Qs,quiet,cK,↓pQ,reduceCtorEq,seval,-Qb,cL,e1,e2,e3,c1,c2,l1,l2,Q9]
  ·have hab:¬ a=b:=fun h=>by subst h; rw [hx] at hy; cases hy; exact hxy rfl
   rw [if_neg hab]
   have hne:((x:Int) != (y:Int))=true:=by simp; omega
   have hlt:=kW (by rw [l1,l2]) ha.lt hb.lt hx hy hxy hd
   have hdec:decide ((x:Int)<(y:Int))=decide (num 65536 a<num 65536 b):=by
    by_cases h:x<y
    ·rw [decide_eq_true (hlt.2 h),decide_eq_true (by omega)]
    ·rw [decide_eq_false (fun k=>h (hlt.1 k)),decide_eq_false (by omega)]
   simp only [cb,Ct,Qs,quiet,cK,↓pQ,reduceCtorEq,seval,-Qb,cL,e1,e2,e3,c1,c2,hne,hdec,l1,l2,Q9]
theorem SZ {a b:List Nat} (ha:Nm a) (hb:Nm b):QK T 163 [eV a,eV b]=some (.bool (decide (num 65536 a<num 65536 b))):=by
 have hl:=Ap ha hb 16 (Qr _) (by rw [ZA (by rw [ha.len]; omega),ZA (by rw [hb.len]; omega)])
 have l1:=ha.len
 have l2:=hb.len
 have e0:(((16:Nat):Int)-1)=15:=by decide
 rw [e0] at hl
 simp only [cb,Qn,Ql] at hl
 by_cases hab:a=b
 ·rw [if_pos hab] at hl
  subst hab
  apply QI (fn:=a93) rfl
  have hd:decide (num 65536 a<num 65536 a)=false:=by simp
  simp only [a93,Qs,quiet,cW,↓pW,reduceCtorEq,seval,-Qb,J9,hl,hd,Qe,Qy,Qz,Q7,Zc,Q8,Q9,l1,l2,QV]
  rfl
 ·rw [if_neg hab] at hl
  apply QI (fn:=a93) rfl
  simp only [a93,Qs,quiet,cW,↓pW,reduceCtorEq,seval,-Qb,J9,hl,Qe,Qy,Qz,Q7,Zc,Q8,Q9,l1,l2,QV]
  rfl
def cC (a:List Nat) (ex:Env):St:=⟨[(1,.pointer (some ⟨0,0,none⟩)),(2,.pointer (some ⟨1,0,none⟩))]++ex,[⟨ns .u64 a,true,true,true,1⟩,⟨ns .u64 ZK,true,true,true,1⟩],[]⟩
theorem WV (ha:Nm a):QK T 151 [eV a]=some (eV (dig 65536 16 (num 65536 a%Go.Fp.P))):=by
 have hp:=Gs
 have hP:=Yw
 have hPn:=WX
 have hlt:=ha.num_lt
 obtain ⟨V,hV⟩:∃ V,V=num 65536 a:=⟨_,rfl⟩
 rw [←hV] at hlt ⊢
 have haV:a=dig 65536 16 V:=by rw [hV]; exact ha.eq
 have hdm:=Zz V Go.Fp.P
 have lP:=hP.len
 obtain ⟨st,hl,rfl⟩:=Zi (T:=T) (base:=0) (id:=0) (body:=IZ)
  (fun i st=>st=cC (dig 65536 16 (V-i*Go.Fp.P)) [])
  (Q:=fun st=>st=cC (dig 65536 16 (V%Go.Fp.P)) [(6,.bool false)])
  (V/Go.Fp.P) (s:=cC a []) (by rw [Nat.zero_mul,Nat.sub_zero,←haV])
  (fun i st hi hs=>by
   subst hs
   have h1:(i+1)*Go.Fp.P≤V:=Xh (Ji _ hi) (Nat.div_mul_le_self V Go.Fp.P)
   rw [Zl,Xf] at h1
   have hN:=Nm.dig (V-i*Go.Fp.P)
   have hn:=V9 (v:=V-i*Go.Fp.P) (by omega)
   have g1:=SZ hN hP
   have g2:=Ao hN hP (by rw [hn,hPn]; omega)
   rw [hn,hPn,decide_eq_false (by omega)] at g1
   rw [hn,hPn,show V-i*Go.Fp.P-Go.Fp.P=V-(i+1)*Go.Fp.P by rw [Zl,Xf]; omega] at g2
   have l1:=hN.len
   have l2:=Zd 65536 16 (V-(i+1)*Go.Fp.P)
   generalize dig 65536 16 (V-i*Go.Fp.P)=A at *
   generalize dig 65536 16 (V-(i+1)*Go.Fp.P)=A' at *
   generalize KJ=PL at *
   refine ⟨_,?_,rfl⟩
   simp only [cC,IZ,Qs,quiet,cW,↓pW,reduceCtorEq,seval,-Qb,hp,g1,g2,Qz,Q7,Zc,Q8,Q9,l1,l2,lP,Qy,QV])
  (fun st hs=>by
   subst hs
   have e:V-V/Go.Fp.P*Go.Fp.P=V%Go.Fp.P:=by rw [Zj]; omega
   rw [e]
   have hm:=Q5 V (by decide:0<Go.Fp.P)
   have hN:=Nm.dig (V%Go.Fp.P)
   have hn:=V9 (v:=V%Go.Fp.P) (QM hm (by decide))
   have g1:=SZ hN hP
   rw [hn,hPn,decide_eq_true hm] at g1
   have l1:=hN.len
   generalize dig 65536 16 (V%Go.Fp.P)=A at *
   generalize KJ=PL at *
   refine ⟨_,?_,rfl⟩
   simp only [cC,IZ,Qs,quiet,cW,↓pW,reduceCtorEq,seval,-Qb,hp,g1,Qz,Q7,Zc,Q8,Q9,l1,lP,Qy,QV])
 have hz:=Ky
 have lz:=XD
 have l1:=ha.len
 have l2:=Zd 65536 16 (V%Go.Fp.P)
 simp only [cC,Qn,Ql] at hl
 generalize ZK=Z at *
 generalize dig 65536 16 (V%Go.Fp.P)=R at *
 apply QI (fn:=a85) rfl
 simp only [a85,Qs,quiet,cW,↓pW,reduceCtorEq,seval,-Qb,hz,hl,Qe,Qy,Qz,Q7,Zc,Q8,Q9,l1,l2,lz,QV]
 rfl
theorem eQ:Qa 32 (Value.int .u8 0)=u8s (dig 256 32 0):=rfl
theorem DQ:fillL (u8s (dig 256 32 0)) []=some (u8s (dig 256 32 0)):=rfl
theorem w8n (h:n<256):IntKind.u8.wrap (n:Int)=n:=by rw [GA,Qv h]
def P3 (c o:List Nat) (i:Int) (ex:Env):St:=⟨[(1,.pointer (some ⟨0,0,none⟩)),(2,.pointer (some ⟨1,0,none⟩)),(3,.pointer (some ⟨2,0,none⟩)),(4,.int .i64 i)]++ex,[⟨ns .u64 c,true,true,true,1⟩,⟨u8s (dig 256 32 0),true,true,true,1⟩,⟨u8s o,true,true,true,1⟩],[]⟩
theorem iG {V:Nat} (hi:i<16) :
  Q2 T 0 CF (P3 (dig 65536 16 V) (pf 32 (dig 256 32 V) (2*i)) i [])=some (.normal,P3 (dig 65536 16 V) (pf 32 (dig 256 32 V) (2*(i+1))) ((i+1:Nat):Int) []):=by
 obtain ⟨x,hx0⟩:∃ x,x=V/65536^i%65536:=⟨_,rfl⟩
 have hx:(dig 65536 16 V)[i]?=some x:=by rw [XR hi,hx0]
 have hx':x<65536:=by rw [hx0]; exact Q5 _ (by decide)
 have e:(65536:Nat)^i=256^(2*i):=by rw [show (65536:Nat)=256^2 from rfl,←Ja]
 rw [e] at hx0
 have hd1:(dig 256 32 V)[2*i]?=some (x%256):=by rw [XR (by omega),hx0]; congr 1; omega
 have hd2:(dig 256 32 V)[2*i+1]?=some (x/256):=by
  rw [XR (by omega),hx0,Ze,←QT]
  congr 1; omega
 have hs1:=XE (Zd 256 32 V) (by omega:2*i<32) hd1
 have hs2:=XE (Zd 256 32 V) (by omega:2*i+1<32) hd2
 have hl1:=Ko (Zd 256 32 V) (by omega:2*i≤32)
 have hl2:=Ko (Zd 256 32 V) (by omega:2*i+1≤32)
 have hset1:=Xb (pf 32 (dig 256 32 V) (2*i)) (2*i) (x%256)
 have hset2:=Xb (pf 32 (dig 256 32 V) (2*i+1)) (2*i+1) (x/256)
 rw [hs1] at hset1
 rw [hs2] at hset2
 rw [show 2*(i+1)=2*i+1+1 by omega]
 have hxc:=ZM (k := .u64) hx
 have w1:IntKind.i64.wrap ((i:Int)+1)=((i+1:Nat):Int):=Zx (b:=1) (by omega)
 have w2:IntKind.i64.wrap (2*(i:Int))=((2*i:Nat):Int):=UE (a:=2) (by omega)
 have w3:IntKind.i64.wrap (((2*i:Nat):Int)+1)=((2*i+1:Nat):Int):=Zx (b:=1) (by omega)
 have w4:(x:Int).tmod 256=((x%256:Nat):Int):=rfl
 have w5:IntKind.u8.wrap ((x%256:Nat):Int)=((x%256:Nat):Int):=w8n (by omega)
 have w6:IntKind.u64.wrap ((x:Int).tdiv 256)=((x/256:Nat):Int):=Kn (n:=x/256) (by omega)
 have w7:IntKind.u8.wrap ((x/256:Nat):Int)=((x/256:Nat):Int):=w8n (by omega)
 have e1:((i:Int)<16)=True:=eq_true (by omega)
 have e2:(((2*i:Nat):Int)<32)=True:=eq_true (by omega)
 have e3:(((2*i+1:Nat):Int)<32)=True:=eq_true (by omega)
 have e5:(2*i≤31)=True:=eq_true (by omega)
 have e6:(2*i+1≤31)=True:=eq_true (by omega)
 have l1:=Zd 65536 16 V
 generalize dig 65536 16 V=C,pf 32 (dig 256 32 V) (2*i)=o1,pf 32 (dig 256 32 V) (2*i+1)=o2,pf 32 (dig 256 32 V) (2*i+1+1)=o3 at *
 generalize hj1:2*i+1=j1 at *
 generalize hj:2*i=j at *
 simp only [P3,CF,Qs,quiet,cW,↓pW,reduceCtorEq,seval,-Qb,hxc,w1,w2,w3,w4,w5,w6,w7,e1,e2,e3,e5,e6,hset1,hset2,Q9,Qq,hl1,hl2,l1]
theorem Gv (ha:Nm a):QK T 105 [eV a]=some (.agg (u8s (dig 256 32 (nf a).val)).toArray):=by
 have hc:=WV ha
 have hv:(nf a).val=num 65536 a%Go.Fp.P:=rfl
 rw [hv]
 generalize num 65536 a%Go.Fp.P=V at *
 have hb:=ZV (T:=T) (base:=0) (id:=0) (body:=CF) (fun i=>P3 (dig 65536 16 V) (pf 32 (dig 256 32 V) (2*i)) i []) (s':=P3 (dig 65536 16 V) (dig 256 32 V) 16 [(9,.bool false)]) 16
  (fun i hi=>iG hi) (by
   rw [show 2*16=32 from rfl,Ku (Zd _ _ _)]
   simp only [P3,CF,Qs,quiet,cK,↓pQ,reduceCtorEq,seval,-Qb,cL])
 rw [Nat.mul_zero,Kt,show Qa 32 0=dig 256 32 0 from rfl] at hb
 simp only [P3,Qn,Ql,QB] at hb
 have hz:=eQ
 have hf:=DQ
 have lz:=Zd 256 32 0
 have l1:=ha.len
 have l2:=Zd 65536 16 V
 have l3:=Zd 256 32 V
 generalize dig 65536 16 V=C,dig 256 32 V=R,dig 256 32 0=Z at *
 apply QI (fn:=a66) rfl
 simp only [a66,Qs,quiet,cW,↓pW,reduceCtorEq,seval,-Qb,hz,hf,hc,hb,Qe,Qy,Qz,Q7,Zc,Q8,Q9,Qq,l1,l2,l3,lz,QV]
 rfl
def fH (d:List Nat) (l:List Ob):List Ob:=⟨ns .u64 d,true,true,true,1⟩::⟨ns .u64 ZK,true,true,true,1⟩::l
def f2I (d:List Nat) (l:List Ob) (c:Nat) (i:Int) (ex:Env):St:=⟨[(1,.pointer (some ⟨0,0,none⟩)),(2,.pointer (some ⟨1,0,none⟩)),(3,.int .u64 c),(4,.int .i64 i)]++ex,fH d l,[]⟩
theorem mN {d:List Nat} {l:List Ob} (hd:d.length=32) (hM:∀ x∈d,x<2^44) (hN:num 65536 d<65536^32) :
  ∃ o c,Q2 T 0 (.block 2 (.loop C0)) (f2I d l 0 0 [])=some (.normal,f2I o l c 32 [(11,.bool false)])∧o.length=32∧(∀ x∈o,x<65536)∧num 65536 o=num 65536 d:=by
 obtain ⟨st,hl,o,c,rfl,h1,h2,h3⟩:=Zi (T:=T) (base:=0) (id:=2) (body:=C0)
  (fun i st=>∃ (o:List Nat) (c:Nat),st=f2I (o++d.drop i) l c i []∧o.length=i∧(∀ x∈o,x<65536)∧c<2^30∧num 65536 (d.take i)=num 65536 o+65536^i*c)
  (Q:=fun st=>∃ (o:List Nat) (c:Nat),st=f2I o l c 32 [(11,.bool false)]∧o.length=32∧(∀ x∈o,x<65536)∧num 65536 d=num 65536 o+65536^32*c)
  32 (s:=f2I d l 0 0 []) ⟨[],0,by rw [ZL]; rfl,rfl,by simp,by omega,by simp [num]⟩
  (fun i st hi hs=>by
   obtain ⟨o,c,rfl,h1,h2,h3,h4⟩:=hs
   obtain ⟨x,hx⟩:∃ x,d[i]?=some x:=⟨_,Qf (by omega)⟩
   have hx':=hM x (Qp hx)
   have hxo:(o++d.drop i)[i]?=some x:=by
    rw [Qh (by omega),h1,Q4,Zm]; exact hx
   have hstep:(o++d.drop i).set i ((x+c)%65536)=(o++[(x+c)%65536])++d.drop (i+1):=by
    rw [ZP _ _ (by omega),h1,Q4,Jg (i:=i),hx]
    simp
   have hset:=X8 .u64 (o++d.drop i) i ((x+c)%65536)
   rw [hstep] at hset
   have hlen:(o++d.drop i).length=32:=by simp; omega
   have hxc:=ZM (k := .u64) hxo
   have w1:IntKind.i64.wrap ((i:Int)+1)=((i+1:Nat):Int):=Zx (b:=1) (by omega)
   have w2:IntKind.u64.wrap ((x:Int)+(c:Int))=((x+c:Nat):Int):=YY (by omega)
   have w3:((x+c:Nat):Int).tmod 65536=(((x+c)%65536:Nat):Int):=rfl
   have w4:IntKind.u64.wrap (((x+c:Nat):Int).tdiv 65536)=(((x+c)/65536:Nat):Int):=Kn (n:=(x+c)/65536) (by omega)
   have e1:((i:Int)<32)=True:=eq_true (by omega)
   have e4:(i≤31)=True:=eq_true (by omega)
   refine ⟨f2I ((o++[(x+c)%65536])++d.drop (i+1)) l ((x+c)/65536) ((i+1:Nat):Int) [],?_,o++[(x+c)%65536],(x+c)/65536,rfl,by simp [h1],?_,by omega,?_⟩
   ·generalize (o++[(x+c)%65536])++d.drop (i+1)=O' at *
    generalize o++d.drop i=O at *
    generalize (x+c)/65536=q at *
    generalize (x+c)%65536=m at *
    generalize x+c=v at *
    generalize i+1=i1 at *
    simp only [f2I,fH,C0,Qs,quiet,cW,↓pW,reduceCtorEq,seval,-Qb,hxc,w1,w2,w3,w4,e1,e4,hset,Q9,hlen]
   ·intro y hy
    rcases QE.1 hy with hy | hy
    ·exact h2 y hy
    ·rw [Xi.1 hy]; exact Q5 _ (by decide)
   ·rw [Xg hx,N3,h1,h4,Ze]
    have h5:x+c=65536*((x+c)/65536)+(x+c)%65536:=(Zz _ _).symm
    generalize (x+c)/65536=q at *
    generalize (x+c)%65536=m at *
    generalize (65536:Nat)^i=p at *
    have h6:=congrArg (fun t=>t*p) h5
    simp only [Zl] at h6
    rw [Nat.mul_assoc p,Zj p c,Zj p m,Zj p (65536*q)]
    omega)
  (fun st hs=>by
   obtain ⟨o,c,rfl,h1,h2,h3,h4⟩:=hs
   rw [Qm (by omega)] at h4
   refine ⟨_,?_,o,c,rfl,h1,h2,h4⟩
   rw [ZA (by omega),QF]
   simp only [f2I,fH,C0,Qs,quiet,cK,↓pQ,reduceCtorEq,seval,-Qb,cL])
 refine ⟨o,c,hl,h1,h2,?_⟩
 rcases Jw c with h | h
 ·rw [h3,h]; omega
 ·exfalso
  have:=Nat.mul_le_mul_left (65536^32) h
  generalize (65536:Nat)^32=M at *
  omega
end Go.Ev.YtpgphpkjlpkcbaaGreat

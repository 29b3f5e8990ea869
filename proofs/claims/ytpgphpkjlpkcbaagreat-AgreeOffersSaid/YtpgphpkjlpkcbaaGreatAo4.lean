/- What the law leans on, part 4. -/
import Derived.Test.YtpgphpkjlpkcbaaGreatAo3
set_option linter.unusedSimpArgs false
set_option linter.unusedVariables false
open Exists renaming intro → J4
open Int renaming cast_ofNat_Int → JN, natCast_mul → Xc, natCast_one → KP, natCast_zero → QD
open List renaming append_assoc → Qu, append_nil → QA, cons_append → Qo, drop → Jo, drop_append_of_le_length → ZX, drop_eq_getElem?_toList_append → ZA, drop_of_length_le → Zw, drop_zero → ZD, eq_nil_of_length_eq_zero → Ji, ext_getElem? → Jn, flatten_append → ZE, flatten_cons → QL, flatten_nil → ZG, getD_eq_getElem?_getD → QB, getElem?_append_left → Qc, getElem?_append_right → Qh, getElem?_cons_succ → Xs, getElem?_drop → Zt, getElem?_eq_getElem → Qe, getElem?_eq_none → QN, getElem?_eq_some_iff → Qg, getElem?_map → Xd, getElem?_set_ne → Qt, getElem?_set_self → Q1, getElem?_take → QZ, getElem?_zipWith → VP, length_append → Qj, length_drop → QP, length_nil → ZC, length_replicate → Qf, length_set → Q0, length_take → Q4, length_zipWith → Yq, map_cons → JF, map_nil → Xp, mem_append → QF, mem_cons → Jj, mem_cons_of_mem → KV, mem_map → JB, mem_of_getElem? → Qn, mem_of_mem_drop → ZW, mem_of_mem_take → QU, mem_singleton → JW, nil_append → Qm, not_mem_nil → JI, range → Jm, reduceReplicate → Qb, replicate → Qa, replicate_succ' → Ye, set_append_left → XY, set_append_right → Z4, set_set → Wc, take → Zf, take_add_one → Z5, take_append_drop → Z7, take_append_of_le_length → ZO, take_of_length_le → Ql, take_zero → Jz, zipWith → Xw
open Nat renaming add_assoc → QW, add_comm → Xh, add_mul → QY, add_sub_cancel_left → Qw, add_zero → ZV, and_lt_two_pow → XO, div_add_mod → Z0, div_div_eq_div_mul → QV, div_eq_of_lt → JH, div_le_self → JJ, div_one → Jy, eq_zero_or_pos → Jd, le_of_lt → J3, le_refl → Qr, le_trans → JP, lt_add_one → ev, lt_irrefl → Uh, lt_of_le_of_lt → Js, lt_of_lt_of_le → QK, lt_or_ge → ZF, lt_succ_of_lt → VU, lt_succ_self → OC, lt_trans → JO, min_eq_left → Zp, mod_eq_of_lt → Qv, mod_lt → Q6, mod_mod → Kw, mul_add → V7, mul_assoc → Zx, mul_comm → Zk, mul_le_mul_right → Zq, mul_one → Kv, mul_zero → YZ, not_lt_zero → Y7, one_mul → JT, or_lt_two_pow → KU, pow_add → JE, pow_le_pow_right → Zr, pow_mul → Ja, pow_pos → Xa, pow_succ → Zi, pow_zero → ZQ, sub_self → Q3, sub_zero → Kt, testBit_and → MH, testBit_or → Tm, testBit_xor → SD, zero_add → QJ, zero_lt_one → UX, zero_lt_succ → OA, zero_mul → Ks
open Option renaming bind_some → Qp
open Option.some renaming inj → XH
namespace Go.Ev.YtpgphpkjlpkcbaaGreat
open Go Go.Ev
set_option maxRecDepth 100000
section
attribute [local congr] JD JU JC JV Jv
variable {H:List Ob} {hid n i off id cap x b0:Nat} {rv pv:Value} {st s b l w L:List Nat} {K:Nat→Prop} {xs:List Value} {ps:List (List Nat)}
theorem XX {k:IntKind} {y d:Nat} (h:n≤y):Vb (some (.int k (n:Int))) y d=some n:=by
 have e:(0:Int)≤(n:Int)∧(n:Int)≤(y:Int):=⟨by omega,by omega⟩
 simp only [Vb,if_pos e,Int.toNat_natCast]
def w3I (H:List Ob) (P:Value) (id off cap:Nat) (w:List Nat) (i:Int) (ex:Env):St:=⟨[(0,P),(1,.slice (some ⟨id,off,none⟩) 128 cap),(4,.pointer (some ⟨H.length,0,none⟩)),(17,.int .i64 i)]++ex,H++[⟨ns .u64 w,true,true,true,1⟩],[]⟩
theorem tI {P:Value} (hb:BB H id off b) (hl:b.length=128) (hc:128≤cap) (hi:i<16) :
  Q5 T H.length Ug (w3I H P id off cap (pf 80 (JR b) i) i [])=some (.normal,w3I H P id off cap (pf 80 (JR b) (i+1)) ((i+1:Nat):Int) []):=by
 have h2:=eL (P:=P) (cap:=cap) (c8:=cap-8*i) hb hl hi
 obtain ⟨⟨all,h1,-⟩,h3⟩:=hb
 simp only [w2I,Qo,Qm,QD] at h2
 have e1:((i:Int)<80)=True:=eq_true (by omega)
 have e2:((i:Int)<16)=True:=eq_true (by omega)
 have w1:IntKind.i64.wrap (8*(i:Int))=((8*i:Nat):Int):=BP (a:=8) (by omega)
 have w2:IntKind.i64.wrap (((8*i:Nat):Int)+8)=((8*i+8:Nat):Int):=ZJ (b:=8) (by omega)
 have w3:IntKind.i64.wrap ((i:Int)+1)=((i+1:Nat):Int):=ZJ (b:=1) (by omega)
 have b1:J7 128 cap (some (.int .i64 ((8*i:Nat):Int))) (some (.int .i64 ((8*i+8:Nat):Int))) none=some (8*i,8*i+8,cap):=by
  have n1:Vb (some (.int .i64 ((8*i+8:Nat):Int))) cap 128=some (8*i+8):=XX (by omega)
  have n2:Vb (some (.int .i64 ((8*i:Nat):Int))) (8*i+8) 0=some (8*i):=XX (by omega)
  rw [XU,n1,Qp,n2,Qp]
 have hs:8*i+8-8*i=8:=by omega
 have hget:∀ l:List Ob,(H++l)[id]?=some ⟨u8s all,true,true,false,1⟩:=fun l=>by rw [Qc (Qg.1 h1).1]; exact h1
 generalize pf 80 (JR b) i=O1,pf 80 (JR b) (i+1)=O2 at *
 generalize hk8:8*i+8=k8 at *
 generalize hk:8*i=k at *
 generalize i+1=i1 at *
 simp only [w3I,Ug,Qs,quiet,cW,↓pW,reduceCtorEq,seval,-Qb,e1,e2,w1,w2,w3,b1,hs,hget,h2]
theorem Xl (h:l[i]?=some x):l.getD i 0=x:=by rw [QB,h]; rfl
theorem o6 {P:Value} (hb:∀ x∈b,x<256) (hi:16≤i) (hi':i<80) :
  Q5 T H.length Ug (w3I H P id off cap (pf 80 (JR b) i) i [])=some (.normal,w3I H P id off cap (pf 80 (JR b) (i+1)) ((i+1:Nat):Int) []):=by
 have hWl:=Yf b
 have hW:=MO (b:=b) hi hi'
 have hstep:=XK hWl hi' hW
 have hpl:=Ke hWl (J3 hi')
 obtain ⟨x,hx⟩:∃ x,(JR b)[i-15]?=some x:=⟨_,Qe (by omega)⟩
 obtain ⟨y,hy⟩:∃ x,(JR b)[i-2]?=some x:=⟨_,Qe (by omega)⟩
 obtain ⟨u,hu⟩:∃ x,(JR b)[i-16]?=some x:=⟨_,Qe (by omega)⟩
 obtain ⟨v,hv⟩:∃ x,(JR b)[i-7]?=some x:=⟨_,Qe (by omega)⟩
 have lx:=Tr hb hx
 have ly:=Tr hb hy
 have cx:=ZN (k := .u64) ((YN (n:=80) (by omega:i-15<i) (by omega)).trans hx)
 have cy:=ZN (k := .u64) ((YN (n:=80) (by omega:i-2<i) (by omega)).trans hy)
 have cu:=ZN (k := .u64) ((YN (n:=80) (by omega:i-16<i) (by omega)).trans hu)
 have cv:=ZN (k := .u64) ((YN (n:=80) (by omega:i-7<i) (by omega)).trans hv)
 rw [Xl hx,Xl hy,Xl hu,Xl hv] at hstep
 have r1:evVal T 164 [.int .u64 x,.int .i64 (-1)]=some (.int .u64 (JQ x 1:Nat)):=Dc (r:=1) lx (by decide) (by decide)
 have r8:evVal T 164 [.int .u64 x,.int .i64 (-8)]=some (.int .u64 (JQ x 8:Nat)):=Dc (r:=8) lx (by decide) (by decide)
 have r19:evVal T 164 [.int .u64 y,.int .i64 (-19)]=some (.int .u64 (JQ y 19:Nat)):=Dc (r:=19) ly (by decide) (by decide)
 have r61:evVal T 164 [.int .u64 y,.int .i64 (-61)]=some (.int .u64 (JQ y 61:Nat)):=Dc (r:=61) ly (by decide) (by decide)
 have b1:=XC (r:=1) lx (by decide) (by decide)
 have b8:=XC (r:=8) lx (by decide) (by decide)
 have b19:=XC (r:=19) ly (by decide) (by decide)
 have b61:=XC (r:=61) ly (by decide) (by decide)
 have x1:=YA b1 b8
 have x2:Zz .xor .u64 ((JQ x 1^^^JQ x 8:Nat):Int) ((x/2^7:Nat):Int)=((sg0 x:Nat):Int):=YA (VH b1 b8) (Mf lx)
 have y1:=YA b19 b61
 have y2:Zz .xor .u64 ((JQ y 19^^^JQ y 61:Nat):Int) ((y/2^6:Nat):Int)=((sg1 y:Nat):Int):=YA (VH b19 b61) (Mf ly)
 have s7:(x:Int).fdiv (2^min 7 IntKind.u64.bits)=((x/2^7:Nat):Int):=Da (by decide)
 have s6:(y:Int).fdiv (2^min 6 IntKind.u64.bits)=((y/2^6:Nat):Int):=Da (by decide)
 have m1:=Wk u v
 have m2:=Wk ((u+v)%18446744073709551616) (sg0 x)
 have m3:=Wk (((u+v)%18446744073709551616+sg0 x)%18446744073709551616) (sg1 y)
 have hsum:(((u+v)%18446744073709551616+sg0 x)%18446744073709551616+sg1 y)%18446744073709551616=(u+v+sg0 x+sg1 y)%18446744073709551616:=by omega
 rw [hsum] at m3
 have hset:=Xo .u64 (pf 80 (JR b) i) i ((u+v+sg0 x+sg1 y)%18446744073709551616)
 rw [hstep] at hset
 have e1:((i:Int)<80)=True:=eq_true (by omega)
 have e2:((i:Int)<16)=False:=eq_false (by omega)
 have i15:IntKind.i64.wrap ((i:Int)-15)=((i-15:Nat):Int):=by rw [Zh (by omega) (by omega)]; omega
 have i2:IntKind.i64.wrap ((i:Int)-2)=((i-2:Nat):Int):=by rw [Zh (by omega) (by omega)]; omega
 have i16:IntKind.i64.wrap ((i:Int)-16)=((i-16:Nat):Int):=by rw [Zh (by omega) (by omega)]; omega
 have i7:IntKind.i64.wrap ((i:Int)-7)=((i-7:Nat):Int):=by rw [Zh (by omega) (by omega)]; omega
 have j15:(((i-15:Nat):Int)<80)=True:=eq_true (by omega)
 have j2:(((i-2:Nat):Int)<80)=True:=eq_true (by omega)
 have j16:(((i-16:Nat):Int)<80)=True:=eq_true (by omega)
 have j7:(((i-7:Nat):Int)<80)=True:=eq_true (by omega)
 have w3:IntKind.i64.wrap ((i:Int)+1)=((i+1:Nat):Int):=ZJ (b:=1) (by omega)
 have e4:(i≤79)=True:=eq_true (by omega)
 clear hsum hstep hW hx hy hu hv hWl
 generalize pf 80 (JR b) i=O1,pf 80 (JR b) (i+1)=O2,(u+v+sg0 x+sg1 y)%18446744073709551616=z,((u+v)%18446744073709551616+sg0 x)%18446744073709551616=z2 at *
 generalize (u+v)%18446744073709551616=z3 at *
 generalize sg0 x=gx,sg1 y=gy,JQ x 1^^^JQ x 8=xx,JQ y 19^^^JQ y 61=yy at *
 generalize JQ x 1=x1v,JQ x 8=x8v,JQ y 19=y19v,JQ y 61=y61v at *
 generalize x/2^7=x7v at *
 generalize y/2^6=y6v at *
 generalize i-15=k15 at *
 generalize i-2=k2 at *
 generalize i-16=k16 at *
 generalize i-7=k7 at *
 generalize i+1=i1 at *
 simp only [w3I,Ug,Qs,quiet,cW,↓pW,reduceCtorEq,seval,-Qb,e1,e2,e4,i15,i2,i16,i7,j15,j2,j16,j7,cx,cy,cu,cv,r1,r8,r19,r61,x1,x2,y1,y2,s7,s6,m1,m2,m3,hset,w3,Q7,hpl]
theorem eJ {P:Value} (hb:BB H id off b) (hl:b.length=128) (hc:128≤cap) :
  Q5 T H.length (.block 0 (.loop Ug)) (w3I H P id off cap (Qa 80 0) 0 [])=some (.normal,w3I H P id off cap (JR b) 80 [(18,.bool false)]):=by
 have hWl:=Yf b
 have h:=Jf (T:=T) (base:=H.length) (id:=0) (body:=Ug) (fun i=>w3I H P id off cap (pf 80 (JR b) i) i []) (s':=w3I H P id off cap (JR b) 80 [(18,.bool false)]) 80
  (fun i hi=>by
   by_cases h:i<16
   ·exact tI hb hl hc h
   ·exact o6 hb.lt (by omega) hi)
  (by
   rw [KC hWl]
   simp only [w3I,Ug,Qs,quiet,cW,↓pW,reduceCtorEq,seval,-Qb])
 rw [KB] at h
 exact h
theorem eight (h:l.length=8):∃ a b c d e f g i,l=[a,b,c,d,e,f,g,i]:=by
 match l,h with
 | [a,b,c,d,e,f,g,i],_=>exact ⟨a,b,c,d,e,f,g,i,rfl⟩
theorem SZ (s:List Nat) (k w:Nat):(rnd s k w).length=8:=rfl
theorem UA (hs:s.length=8) (w:List Nat):∀ n,(Ga n w s).length=8
 | 0=>hs
 | n+1=>rfl
theorem ue (hs:s.length=8) (hx:∀ x∈s,x<18446744073709551616) (k w:Nat):∀ x∈rnd s k w,x<18446744073709551616:=by
 obtain ⟨a,b,c,d,e,f,g,h,rfl⟩:=eight hs
 intro x hm
 have h1:∀ y z:Nat,(y+z)%18446744073709551616<18446744073709551616:=fun _ _=>Q6 _ (by decide)
 simp only [rnd,Jj,JI,or_false] at hm
 rcases hm with rfl | rfl | rfl | rfl | rfl | rfl | rfl | rfl
 ·exact h1 _ _
 ·exact hx _ (by simp)
 ·exact hx _ (by simp)
 ·exact hx _ (by simp)
 ·exact h1 _ _
 ·exact hx _ (by simp)
 ·exact hx _ (by simp)
 ·exact hx _ (by simp)
theorem It {s:List Nat} (hs:s.length=8) (hx:∀ x∈s,x<18446744073709551616) (w:List Nat):∀ n,∀ x∈Ga n w s,x<18446744073709551616
 | 0=>hx
 | n+1=>ue (UA hs w n) (It hs hx w n) _ _
theorem qU:∀ x∈Vu,x<18446744073709551616:=by decide +kernel
theorem tr (a b c d e f g h:Nat):fillL (Qa 8 (Value.int .u64 0)) [(0,1,.int .u64 (a:Int)),(1,1,.int .u64 (b:Int)),(2,1,.int .u64 (c:Int)),(3,1,.int .u64 (d:Int)),(4,1,.int .u64 (e:Int)),(5,1,.int .u64 (f:Int)),(6,1,.int .u64 (g:Int)),(7,1,.int .u64 (h:Int))]=some (ns .u64 [a,b,c,d,e,f,g,h]):=rfl
def w1I (H:List Ob) (P:Value) (w s:List Nat) (i:Int) (ex:Env):St:=⟨[(0,P),(4,.pointer (some ⟨H.length,0,none⟩)),(10,.pointer (some ⟨H.length+1,0,none⟩)),(86,eV Vu),(87,.int .i64 i)]++ex,H++[⟨ns .u64 w,true,true,true,1⟩,⟨ns .u64 s,true,true,true,1⟩],[]⟩
theorem oA {P:Value} (hw:w.length=80) (hs:s.length=8) (hx:∀ x∈s,x<18446744073709551616) (hi:i<80) :
  Q5 T H.length HA (w1I H P w s i [])=some (.normal,w1I H P w (rnd s (Vu.getD i 0) (w.getD i 0)) ((i+1:Nat):Int) []):=by
 obtain ⟨a,b,c,d,e,f,g,h,rfl⟩:=eight hs
 obtain ⟨k,hk⟩:∃ k,Vu[i]?=some k:=⟨_,Qe (by rw [UL]; exact hi)⟩
 obtain ⟨v,hv⟩:∃ k,w[i]?=some k:=⟨_,Qe (by omega)⟩
 rw [Xl hk,Xl hv]
 have kc:=ZN (k := .u64) hk
 have vc:=ZN (k := .u64) hv
 have la:=hx a (by simp)
 have lb:=hx b (by simp)
 have lc:=hx c (by simp)
 have le:=hx e (by simp)
 have lf:=hx f (by simp)
 have lg:=hx g (by simp)
 have r14:evVal T 164 [.int .u64 e,.int .i64 (-14)]=some (.int .u64 (JQ e 14:Nat)):=Dc (r:=14) le (by decide) (by decide)
 have r18:evVal T 164 [.int .u64 e,.int .i64 (-18)]=some (.int .u64 (JQ e 18:Nat)):=Dc (r:=18) le (by decide) (by decide)
 have r41:evVal T 164 [.int .u64 e,.int .i64 (-41)]=some (.int .u64 (JQ e 41:Nat)):=Dc (r:=41) le (by decide) (by decide)
 have r28:evVal T 164 [.int .u64 a,.int .i64 (-28)]=some (.int .u64 (JQ a 28:Nat)):=Dc (r:=28) la (by decide) (by decide)
 have r34:evVal T 164 [.int .u64 a,.int .i64 (-34)]=some (.int .u64 (JQ a 34:Nat)):=Dc (r:=34) la (by decide) (by decide)
 have r39:evVal T 164 [.int .u64 a,.int .i64 (-39)]=some (.int .u64 (JQ a 39:Nat)):=Dc (r:=39) la (by decide) (by decide)
 have b14:=XC (r:=14) le (by decide) (by decide)
 have b18:=XC (r:=18) le (by decide) (by decide)
 have b41:=XC (r:=41) le (by decide) (by decide)
 have b28:=XC (r:=28) la (by decide) (by decide)
 have b34:=XC (r:=34) la (by decide) (by decide)
 have b39:=XC (r:=39) la (by decide) (by decide)
 have x1:=YA b14 b18
 have x2:Zz .xor .u64 ((JQ e 14^^^JQ e 18:Nat):Int) ((JQ e 41:Nat):Int)=((Sg1 e:Nat):Int):=YA (VH b14 b18) b41
 have x3:=YA b28 b34
 have x4:Zz .xor .u64 ((JQ a 28^^^JQ a 34:Nat):Int) ((JQ a 39:Nat):Int)=((Sg0 a:Nat):Int):=YA (VH b28 b34) b39
 have a1:=GG le lf
 have a2:Zz .xor .u64 (if IntKind.u64.signed=true then -1 else IntKind.u64.max) (e:Int)=((18446744073709551615^^^e:Nat):Int):=YA (a:=18446744073709551615) (by decide) le
 have lne:18446744073709551615^^^e<18446744073709551616:=VH (by decide) le
 have a3:=GG lne lg
 have a4:Zz .xor .u64 ((e&&&f:Nat):Int) (((18446744073709551615^^^e)&&&g:Nat):Int)=((chO e f g:Nat):Int):=YA (Kh lf) (Kh lg)
 have a5:=GG la lb
 have a6:=GG la lc
 have a7:=GG lb lc
 have a8:=YA (a:=a&&&b) (b:=a&&&c) (Kh lb) (Kh lc)
 have a9:Zz .xor .u64 (((a&&&b)^^^(a&&&c):Nat):Int) ((b&&&c:Nat):Int)=((maO a b c:Nat):Int):=YA (VH (Kh lb) (Kh lc)) (Kh lc)
 have m1:=Wk h (Sg1 e)
 have m2:=Wk ((h+Sg1 e)%18446744073709551616) (chO e f g)
 have m3:=Wk (((h+Sg1 e)%18446744073709551616+chO e f g)%18446744073709551616) k
 have m4:=Wk ((((h+Sg1 e)%18446744073709551616+chO e f g)%18446744073709551616+k)%18446744073709551616) v
 have hT1:((((h+Sg1 e)%18446744073709551616+chO e f g)%18446744073709551616+k)%18446744073709551616+v)%18446744073709551616=t1O [a,b,c,d,e,f,g,h] k v:=by
  show _=(h+Sg1 e+chO e f g+k+v)%18446744073709551616
  omega
 rw [hT1] at m4
 have m5:IntKind.u64.wrap ((Sg0 a:Int)+(maO a b c:Int))=((t2O [a,b,c,d,e,f,g,h]:Nat):Int):=Wk (Sg0 a) (maO a b c)
 have m6:=Wk (t1O [a,b,c,d,e,f,g,h] k v) (t2O [a,b,c,d,e,f,g,h])
 have m7:=Wk d (t1O [a,b,c,d,e,f,g,h] k v)
 have hr:rnd [a,b,c,d,e,f,g,h] k v=[(t1O [a,b,c,d,e,f,g,h] k v+t2O [a,b,c,d,e,f,g,h])%18446744073709551616,a,b,c,(d+t1O [a,b,c,d,e,f,g,h] k v)%18446744073709551616,e,f,g]:=rfl
 have hf:=tr ((t1O [a,b,c,d,e,f,g,h] k v+t2O [a,b,c,d,e,f,g,h])%18446744073709551616) a b c ((d+t1O [a,b,c,d,e,f,g,h] k v)%18446744073709551616) e f g
 rw [←hr] at hf
 have lR:=SZ [a,b,c,d,e,f,g,h] k v
 have e1:((i:Int)<80)=True:=eq_true (by omega)
 have w3:IntKind.i64.wrap ((i:Int)+1)=((i+1:Nat):Int):=ZJ (b:=1) (by omega)
 have vi:Ie none 80 1 (eV Vu) (.int .i64 (i:Int))=some (.int .u64 (k:Nat)):=by
  unfold eV
  rw [Dn]
  simp only [e1,Qs,quiet,cK,↓pQ,reduceCtorEq,seval,-Qb,cL,kc]
 have g0:(ns .u64 [a,b,c,d,e,f,g,h])[0]?=some (.int .u64 (a:Nat)):=rfl
 have g1:(ns .u64 [a,b,c,d,e,f,g,h])[1]?=some (.int .u64 (b:Nat)):=rfl
 have g2:(ns .u64 [a,b,c,d,e,f,g,h])[2]?=some (.int .u64 (c:Nat)):=rfl
 have g3:(ns .u64 [a,b,c,d,e,f,g,h])[3]?=some (.int .u64 (d:Nat)):=rfl
 have g4:(ns .u64 [a,b,c,d,e,f,g,h])[4]?=some (.int .u64 (e:Nat)):=rfl
 have g5:(ns .u64 [a,b,c,d,e,f,g,h])[5]?=some (.int .u64 (f:Nat)):=rfl
 have g6:(ns .u64 [a,b,c,d,e,f,g,h])[6]?=some (.int .u64 (g:Nat)):=rfl
 have g7:(ns .u64 [a,b,c,d,e,f,g,h])[7]?=some (.int .u64 (h:Nat)):=rfl
 have lS:(ns .u64 [a,b,c,d,e,f,g,h]).length=8:=rfl
 clear hT1 hr hk hv kc hs hx
 generalize rnd [a,b,c,d,e,f,g,h] k v=R at *
 generalize (t1O [a,b,c,d,e,f,g,h] k v+t2O [a,b,c,d,e,f,g,h])%18446744073709551616=z1 at *
 generalize (d+t1O [a,b,c,d,e,f,g,h] k v)%18446744073709551616=z2 at *
 generalize t1O [a,b,c,d,e,f,g,h] k v=t1 at *
 generalize t2O [a,b,c,d,e,f,g,h]=t2 at *
 generalize (((h+Sg1 e)%18446744073709551616+chO e f g)%18446744073709551616+k)%18446744073709551616=z3 at *
 generalize ((h+Sg1 e)%18446744073709551616+chO e f g)%18446744073709551616=z4 at *
 generalize (h+Sg1 e)%18446744073709551616=z5 at *
 generalize Sg1 e=se,Sg0 a=sa,chO e f g=cc,maO a b c=mm at *
 generalize (a&&&b)^^^(a&&&c)=q1 at *
 generalize (18446744073709551615^^^e)&&&g=q2 at *
 generalize 18446744073709551615^^^e=q3 at *
 generalize e&&&f=q4 at *
 generalize a&&&b=q5 at *
 generalize a&&&c=q6 at *
 generalize b&&&c=q7 at *
 generalize JQ e 14^^^JQ e 18=q8,JQ a 28^^^JQ a 34=q9 at *
 generalize JQ e 14=p1,JQ e 18=p2,JQ e 41=p3,JQ a 28=p4,JQ a 34=p5,JQ a 39=p6 at *
 generalize i+1=i1 at *
 generalize hS:ns .u64 [a,b,c,d,e,f,g,h]=S at *
 simp only [w1I,hS]
 generalize eV Vu=kt at *
 simp only [HA,Qs,quiet,cW,↓pW,reduceCtorEq,seval,-Qb,e1,vi,vc,r14,r18,r41,r28,r34,r39,x1,x2,x3,x4,a1,a2,a3,a4,a5,a6,a7,a8,a9,m1,m2,m3,m4,m5,m6,m7,hf,w3,g0,g1,g2,g3,g4,g5,g6,g7,lS,Q7,hw,lR,Qz,Qf]
theorem eM {P:Value} (hw:w.length=80) (hs:s.length=8) (hx:∀ x∈s,x<18446744073709551616) :
  Q5 T H.length (.block 4 (.loop HA)) (w1I H P w s 0 [])=some (.normal,w1I H P w (Ga 80 w s) 80 [(88,.bool false)]):=by
 have h:=Jf (T:=T) (base:=H.length) (id:=4) (body:=HA) (fun i=>w1I H P w (Ga i w s) i []) (s':=w1I H P w (Ga 80 w s) 80 [(88,.bool false)]) 80
  (fun i hi=>oA hw (UA hs w i) (It hs hx w i) hi)
  (by
   generalize Ga 80 w s=R
   simp only [w1I]
   generalize eV Vu=kt
   simp only [HA,Qs,quiet,cW,↓pW,reduceCtorEq,seval,-Qb])
 exact h
def hcl (rv:Value) (n:Nat) (st:List Nat):List Value:=rv::.int .u64 (n:Nat)::ns .u64 st
def hob (rv:Value) (n:Nat) (st:List Nat):Ob:=⟨hcl rv n st,true,true,true,1⟩
theorem He (rv:Value) (n:Nat) (st:List Nat):(hcl rv n st).length=2+st.length:=by simp [hcl,Q7]; omega
theorem aV (h:st[i]?=some x):(hcl rv n st)[2+i]?=some (.int .u64 (x:Nat)):=by
 rw [Xh]; exact ZN h
theorem qX (rv:Value) (n i x:Nat) (st:List Nat):(hcl rv n st).set (2+i) (.int .u64 (x:Nat))=hcl rv n (st.set i x):=by
 rw [Xh]
 show rv::.int .u64 (n:Nat)::(ns .u64 st).set i _=_
 rw [Xo]; rfl
theorem FF (h:st.length=8):Zf 8 (Jo 2 (hcl rv n st))=ns .u64 st:=by
 show Zf 8 (ns .u64 st)=_
 rw [Ql (by rw [Q7]; omega)]
theorem sg (hs:s.length=8):(blk s b).length=8:=by unfold blk; rw [Yq,UA hs,hs]; rfl
theorem vC:∀ x∈blk s b,x<18446744073709551616:=by
 intro x hx
 unfold blk at hx
 obtain ⟨i,hi⟩:=List.getElem?_of_mem hx
 rw [VP] at hi
 split at hi
 ·cases hi; exact Q6 _ (by decide)
 ·cases hi
theorem Jp {b:Nat}:∀ {M L:List Nat} {i:Nat},i∈Q2 b L M→i∈L∨i∈M
 | [],L,i,h=>.inl h
 | m::M,L,i,h=>by
  simp only [Q2] at h
  split at h
  ·rcases Jp h with h1 | h1
   ·rcases QF.1 h1 with h2 | h2
    ·exact .inl h2
    ·exact .inr (by rw [JW.1 h2]; exact List.mem_cons_self)
   ·exact .inr (KV _ h1)
  ·rcases Jp h with h1 | h1
   ·exact .inl h1
   ·exact .inr (KV _ h1)
def w0I (H:List Ob) (hid:Nat) (rv:Value) (n:Nat) (st:List Nat) (s L:List Nat) (ob1 ob2:Ob) (i:Int) (ex:Env):St:=⟨[(0,.pointer (some ⟨hid,0,none⟩)),(174,eV s),(175,.int .i64 i)]++ex,H.set hid (hob rv n st)++[ob1,ob2],L⟩
theorem eO {ob1 ob2:Ob} (hh:hid<H.length) (hs:s.length=8) (hst:st.length=8) :
  ∃ L,Q5 T H.length (.block 6 (.loop MB)) (w0I H hid rv n st s [] ob1 ob2 0 [])=some (.normal,w0I H hid rv n (Xw (fun x y=>(x+y)%18446744073709551616) st s) s L ob1 ob2 8 [(176,.bool false)])∧∀ i∈L,i=hid:=by
 have hZ:(Xw (fun x y=>(x+y)%18446744073709551616) st s).length=8:=by rw [Yq,hs,hst]; rfl
 obtain ⟨Z,hZd⟩:∃ Z,Z=Xw (fun x y=>(x+y)%18446744073709551616) st s:=⟨_,rfl⟩
 rw [←hZd] at hZ ⊢
 obtain ⟨st',hb,L,rfl,hL⟩:=Zm (T:=T) (base:=H.length) (id:=6) (body:=MB)
  (fun i x=>∃ L,x=w0I H hid rv n (Z.take i++st.drop i) s L ob1 ob2 i []∧∀ j∈L,j=hid)
  (Q:=fun x=>∃ L,x=w0I H hid rv n Z s L ob1 ob2 8 [(176,.bool false)]∧∀ j∈L,j=hid)
  8 (s:=w0I H hid rv n st s [] ob1 ob2 0 []) ⟨[],rfl,by simp⟩
  (fun i x hi hx=>by
   obtain ⟨L,rfl,hL⟩:=hx
   obtain ⟨u,hu⟩:∃ u,st[i]?=some u:=⟨_,Qe (by omega)⟩
   obtain ⟨v,hv⟩:∃ u,s[i]?=some u:=⟨_,Qe (by omega)⟩
   have hz:Z[i]?=some ((u+v)%18446744073709551616):=by rw [hZd,VP,hu,hv]
   have hlt:(Z.take i).length=i:=by rw [Q4]; omega
   have hg:(Z.take i++st.drop i)[i]?=some u:=by
    rw [Qh (by omega),hlt,Q3,Zt]; exact hu
   have hstep:(Z.take i++st.drop i).set i ((u+v)%18446744073709551616)=Z.take (i+1)++st.drop (i+1):=by
    rw [Z4 _ _ (by omega),hlt,Q3,ZA (i:=i),hu,Z5,hz]
    simp
   have hlen:(Z.take i++st.drop i).length=8:=by rw [Qj,QP,hlt]; omega
   have gc:=aV (rv:=rv) (n:=n) hg
   have sc:=qX rv n i ((u+v)%18446744073709551616) (Z.take i++st.drop i)
   rw [hstep] at sc
   have cl:=He rv n (Z.take i++st.drop i)
   rw [hlen] at cl
   have vc:=ZN (k := .u64) hv
   have vi:Ie none 8 1 (eV s) (.int .i64 (i:Int))=some (.int .u64 (v:Nat)):=by
    have e1:((i:Int)<8)=True:=eq_true (by omega)
    unfold eV
    rw [Dn]
    simp only [e1,Qs,quiet,cK,↓pQ,reduceCtorEq,seval,-Qb,cL,vc]
   have m1:=Wk u v
   have e1:((i:Int)<8)=True:=eq_true (by omega)
   have w3:IntKind.i64.wrap ((i:Int)+1)=((i+1:Nat):Int):=ZJ (b:=1) (by omega)
   have hget:∀ o:Ob,(H.set hid o++[ob1,ob2])[hid]?=some o:=fun o=>by
    rw [Qc (by rw [Q0]; exact hh),Q1 hh]
   have hset:∀ o o':Ob,(H.set hid o++[ob1,ob2]).set hid o'=H.set hid o'++[ob1,ob2]:=fun o o'=>by
    rw [XY _ _ (by rw [Q0]; exact hh),Wc]
   have e5:(2+i+1≤2+8)=True:=eq_true (by omega)
   refine ⟨w0I H hid rv n (Z.take (i+1)++st.drop (i+1)) s (Q2 H.length L [hid]) ob1 ob2 ((i+1:Nat):Int) [],?_,_,rfl,?_⟩
   ·generalize Z.take (i+1)++st.drop (i+1)=O2,Z.take i++st.drop i=O1 at *
    generalize (u+v)%18446744073709551616=z at *
    simp only [w0I,hob]
    generalize hcl rv n O1=C1,hcl rv n O2=C2,eV s=sv at *
    generalize i+1=i1 at *
    simp only [MB,Qs,quiet,cW,↓pW,reduceCtorEq,seval,-Qb,e1,vi,m1,w3,gc,sc,cl,e5,hget,hset]
    done
   ·intro j hj
    rcases Jp hj with h | h
    ·exact hL j h
    ·simpa using h)
  (fun x hx=>by
   obtain ⟨L,rfl,hL⟩:=hx
   rw [Ql (by omega),Zw (by omega),QA]
   refine ⟨_,?_,L,rfl,hL⟩
   simp only [w0I,hob]
   generalize hcl rv n Z=C
   generalize eV s=sv
   simp only [MB,Qs,quiet,cW,↓pW,reduceCtorEq,seval,-Qb])
 exact ⟨L,hb,hL⟩
theorem U8 {α:Type} {l:List α} {x:α} (h:l[i]?=some x):l.set i x=l:=by
 apply Jn
 intro k
 rw [List.getElem?_set]
 by_cases c:i=k
 ·rw [if_pos c,←c,h,if_pos (Qg.1 h).1]
 ·rw [if_neg c]
def FZ:List Nat:=Qa 80 0
theorem tF:Qa 80 (Value.int .u64 0)=ns .u64 FZ:=rfl
theorem ot:FZ.length=80:=rfl
def eB:List Nat:=Qa 8 0
theorem z8_eq:Qa 8 (Value.int .u64 0)=ns .u64 eB:=rfl
theorem tE:eB.length=8:=rfl
theorem nL (hh:H[hid]?=some (hob rv n st)) (hs:st.length=8) (hx:∀ x∈st,x<18446744073709551616) (hb:BB H id off b) (hl:b.length=128) (hc:128≤cap) :
  ∃ w s M,Z6 T 162 [.pointer (some ⟨hid,0,none⟩),.slice (some ⟨id,off,none⟩) 128 cap] H=some (.tuple #[],H.set hid (hob rv n (blk st b))++[w,s],M)∧∀ i∈M,i=hid:=by
 have hlt:hid<H.length:=(Qg.1 hh).1
 have h3:=eJ (P := .pointer (some ⟨hid,0,none⟩)) (cap:=cap) hb hl hc
 have hWl:=Yf b
 have h1:=eM (H:=H) (P := .pointer (some ⟨hid,0,none⟩)) hWl hs hx
 have lr:=UA hs (JR b) 80
 obtain ⟨L,h0,hL⟩:=eO (H:=H) (hid:=hid) (n:=n) (rv:=rv) (ob1:=⟨ns .u64 (JR b),true,true,true,1⟩) (ob2:=⟨ns .u64 (Ga 80 (JR b) st),true,true,true,1⟩) hlt lr hs
 rw [show Xw (fun x y=>(x+y)%18446744073709551616) st (Ga 80 (JR b) st)=blk st b from rfl] at h0
 have hss:H.set hid (hob rv n st)=H:=U8 hh
 refine ⟨⟨ns .u64 (JR b),true,true,true,1⟩,⟨ns .u64 (Ga 80 (JR b) st),true,true,true,1⟩,L,?_,hL⟩
 simp only [w0I,hss,Qo,Qm,QD] at h0
 have hz:=tF
 have lz:=ot
 have hz8:=z8_eq
 have lz8:=tE
 rw [show Qa 80 0=FZ from rfl] at h3
 simp only [w3I,Qo,Qm,QD] at h3
 simp only [w1I,Qo,Qm,QD] at h1
 have ht:=SO
 have hcs:=FF (rv:=rv) (n:=n) hs
 have hcl8:2+8≤(hcl rv n st).length:=by rw [He]; omega
 have hget:∀ l:List Ob,(H++l)[hid]?=some ⟨hcl rv n st,true,true,true,1⟩:=fun l=>by rw [Qc hlt]; exact hh
 have lk:=UL
 generalize H.set hid (hob rv n (blk st b))=H' at *
 generalize JR b=W at *
 generalize Ga 80 W st=R,hcl rv n st=C at *
 generalize FZ=Z at *
 generalize eB=Z8 at *
 generalize Vu=KT at *
 rw [Zg (fn:=xd) rfl]
 simp only [xd,Qs,quiet,cW,↓pW,reduceCtorEq,seval,-Qb,hz,hz8,h3,h1,h0,ht,hget,hcs,hcl8,Qf,Qz,Qy,Q8,Zj,Q9,Q7,hWl,hs,lr,lz,lz8,lk,Za]
 rfl
inductive Rst (K:Nat→Prop) (H:List Ob):Value→List Nat→Prop
 | nil:Rst K H (.slice none 0 0) []
 | empty {id:Nat}:¬ K id→H[id]?=some ⟨[],true,true,true,1⟩→Rst K H (.slice (some ⟨id,0,none⟩) 0 0) []
 | own {id off:Nat} {all l:List Nat}:¬ K id→H[id]?=some ⟨u8s all,true,true,false,1⟩→off+l.length≤all.length→(∀ i,i<l.length→all[off+i]?=l[i]?)→Rst K H (.slice (some ⟨id,off,none⟩) l.length l.length) l
theorem Rst.app {K:Nat→Prop} {H m:List Ob} {v:Value} {l:List Nat} (h:Rst K H v l):Rst K (H++m) v l:=by
 cases h with
 | nil=>exact .nil
 | empty h1 h2=>exact .empty h1 (by rw [Qc (Qg.1 h2).1]; exact h2)
 | own h1 h2 h4 h3=>exact .own h1 (by rw [Qc (Qg.1 h2).1]; exact h2) h4 h3
theorem Rst.setH {K:Nat→Prop} {H:List Ob} {v:Value} {l:List Nat} {hid n:Nat} {rv:Value} {st:List Nat} (h:Rst K H v l) (hh:H[hid]?=some (hob rv n st)) (o:Ob):Rst K (H.set hid o) v l:=by
 cases h with
 | nil=>exact .nil
 | empty h1 h2=>exact .empty h1 (by
   rw [Qt]
   ·exact h2
   ·intro e; subst e
    have:=congrArg Ob.cells (XH (hh.symm.trans h2))
    simp [hob,hcl] at this)
 | own h1 h2 h4 h3=>exact .own h1 (by
   rw [Qt]
   ·exact h2
   ·intro e; subst e
    have:=congrArg Ob.exact (XH (hh.symm.trans h2))
    simp [hob] at this) h4 h3
theorem TI {all:List Nat} (h:∀ i,i<l.length→all[off+i]?=l[i]?):((u8s all).drop off).take l.length=u8s l:=by
 apply Jn
 intro i
 rw [QZ]
 split
 ·rename_i hi
  rw [Zt]
  have:=h i hi
  simp only [u8s,Xd,this]
 ·rename_i hi
  rw [QN (by rw [Qq]; omega)]
theorem Rst.append {K:Nat→Prop} {H:List Ob} {v x:Value} {l p:List Nat} (h:Rst K H v l) (hK:∀ i,K i→i<H.length) (hl:Go.Ev.lenV x=some p.length) (he:elemsOf H 1 p.length x=some (u8s p)) (hb:l.length+p.length≤2^47) :
  ∃ v' H' M,Jh 1 1 H v x=some (v',H',none,M)∧Rst K H' v' (l++p)∧(∀ i∈M,¬ K i)∧H.length≤H'.length∧(∀ i,K i→H'[i]?=H[i]?)∧∀ (i:Nat) (o:Ob),H[i]?=some o→o.exact=true→H'[i]?=some o:=by
 rcases Jd p.length with hn | hn
 ·have:p=[]:=Ji hn
  subst this
  rw [QA]
  refine ⟨v,H,[],?_,h,by simp,Qr _,fun _ _=>rfl,fun i o h _=>h⟩
  rw [ZC] at hl he
  cases h<;>simp only [Jh,hl,he,Qp,if_true]
 ·have h1:¬ p.length=0:=by omega
  have hnew:¬ K H.length:=fun h=>absurd (hK _ h) (Uh _)
  cases h with
  | nil =>
   refine ⟨.slice (some ⟨H.length,0,none⟩) p.length p.length,H++[Ob.grown 1 (u8s p)],[],?_,?_,by simp,by simp,?_,?_⟩
   ·have h2:(0+p.length)*1≤2^47∧0<1∧0<1:=⟨by simpa using hb,by decide,by decide⟩
    simp only [Jh,hl,he,Qp,if_neg h1,h2,and_self,not_true_eq_false,if_false,if_true]
   ·rw [Qm]
    exact .own (all:=p) hnew (by simp [Ob.grown]) (by omega) (fun i _=>by rw [QJ])
   ·intro i hi; rw [Qc (hK i hi)]
   ·intro i o ho _; rw [Qc (Qg.1 ho).1]; exact ho
  | @empty id0 k1 k2 =>
   refine ⟨.slice (some ⟨H.length,0,none⟩) (0+p.length) (0+p.length),H++[Ob.grown 1 ([]++u8s p)],[],?_,?_,by simp,by simp,?_,?_⟩
   ·have h2:(0+p.length)*1≤2^47∧0<1∧0<1:=⟨by simpa using hb,by decide,by decide⟩
    have h4:liveAt H id0=some ⟨[],true,true,true,1⟩:=Zy k2 rfl
    have h7:¬ (0+p.length≤0):=by omega
    have h8:elemsOf H 1 0 (.slice (some ⟨id0,0,none⟩) 0 0)=some []:=by simp [elemsOf,h4]
    simp only [Jh,hl,he,Qp,if_neg h1,h2,and_self,not_true_eq_false,if_false,if_true,h4,h8,if_neg h7]
   ·rw [Qm,Qm,QJ]
    exact .own (all:=p) hnew (by simp [Ob.grown]) (by omega) (fun i _=>by rw [QJ])
   ·intro i hi; rw [Qc (hK i hi)]
   ·intro i o ho _; rw [Qc (Qg.1 ho).1]; exact ho
  | @own id0 off all _ k1 k2 k4 k3 =>
   have hid:id0<H.length:=(Qg.1 k2).1
   refine ⟨.slice (some ⟨H.length,0,none⟩) (l.length+p.length) (l.length+p.length),(H.set id0 Ob.dead)++[Ob.grown 1 (u8s l++u8s p)],[id0],?_,?_,by simpa using k1,by simp,?_,?_⟩
   ·have h2:(l.length+p.length)*1≤2^47∧0<1∧0<1:=⟨by omega,by decide,by decide⟩
    have h4:liveAt H id0=some ⟨u8s all,true,true,false,1⟩:=Zy k2 rfl
    have h7:¬ (l.length+p.length≤l.length):=by omega
    have h8:elemsOf H 1 l.length (.slice (some ⟨id0,off,none⟩) l.length l.length)=some (u8s l):=by
     have:=TI k3
     simp only [elemsOf,h4,Qp,Kv]
     rw [this]
     simp [Qq,k4]
    simp only [Jh,hl,he,Qp,if_neg h1,h2,and_self,not_true_eq_false,if_false,if_true,h4,h8,if_neg h7,Bool.false_eq_true,Qr]
   ·have:=Rst.own (K:=K) (H:=(H.set id0 Ob.dead)++[Ob.grown 1 (u8s l++u8s p)]) (id:=H.length) (off:=0) (all:=l++p) (l:=l++p) hnew (by simp [Ob.grown,u8s]) (by omega) (fun i _=>by rw [QJ])
    rwa [Qj] at this
   ·intro i hi
    rw [Qc (by rw [Q0]; exact hK i hi),Qt (fun e=>k1 (by rw [e]; exact hi))]
   ·intro i o ho hex
    rw [Qc (by rw [Q0]; exact (Qg.1 ho).1),Qt]
    ·exact ho
    ·intro e; subst e; rw [k2] at ho; cases ho; cases hex
theorem GQ (b:List Nat):∀ n,(stK n b).length=8
 | 0=>rfl
 | n+1=>sg (GQ b n)
theorem gO:∀ x∈Ys,x<18446744073709551616:=by decide
theorem Ip (b:List Nat):∀ n,∀ x∈stK n b,x<18446744073709551616
 | 0=>gO
 | n+1=>vC
theorem SS (a b:List Nat):∀ q,128*q≤a.length→stK q (a++b)=stK q a
 | 0,_=>rfl
 | q+1,h=>by
  rw [stK,stK,SS a b q (by omega),ZX (by omega),ZO (by rw [QP]; omega)]
def Hsh (K:Nat→Prop) (H:List Ob) (hid:Nat) (all:List Nat):Prop:=∃ rv,H[hid]?=some (hob rv all.length (stK (all.length/128) all))∧Rst K H rv (all.drop (128*(all.length/128)))
def fdF (hid:Nat):Value := .func (.func 162) [Value.pointer (some ⟨hid,0,none⟩)].toArray [].toArray
def fdI (hid:Nat) (H:List Ob) (L:List Nat) (ex:Env):St:=⟨[(0,.pointer (some ⟨hid,0,none⟩)),(1,.int .i64 128),(3,fdF hid)]++ex,H,L⟩
theorem rE {rest:List Nat} {ex:Env} (hK:∀ i,K i→i<H.length) (hKh:¬ K hid) (hh:H[hid]?=some (hob rv n st)) (hs:st.length=8) (hx:∀ x∈st,x<18446744073709551616) (hr:Rst K H rv rest) (h128:128≤rest.length) (xr:∀ x∈rest,x<256) (hL:∀ i∈L,¬ K i) (hmx:rest.length<2^60) :
  ∃ rv' H' L' ex',Q5 T b0 YY (fdI hid H L ex)=some (.normal,fdI hid H' L' ex')∧H'[hid]?=some (hob rv' n (blk st (rest.take 128)))∧Rst K H' rv' (rest.drop 128)∧(∀ i,K i→H'[i]?=H[i]?)∧H.length≤H'.length∧∀ i∈L',¬ K i:=by
 have hlt:hid<H.length:=(Qg.1 hh).1
 cases hr with
 | nil=>exact absurd h128 (by decide)
 | empty _ _=>exact absurd h128 (by decide)
 | @own id off all _ k1 k2 k4 k3 =>
  have hidne:id≠hid:=fun e=>by
   subst e
   have:=congrArg Ob.exact (XH (hh.symm.trans k2))
   simp [hob] at this
  have hBB:BB H id off (rest.take 128):=⟨⟨all,k2,fun i hi=>by
   rw [Q4] at hi
   rw [k3 i (by omega),QZ,if_pos (by omega)]⟩,fun x hx=>xr x (QU hx)⟩
  have hl:(rest.take 128).length=128:=by rw [Q4]; omega
  obtain ⟨w,s,M,hb,hM⟩:=nL (cap:=rest.length) hh hs hx hBB hl h128
  have c0:∀ s',(hcl (.slice (some ⟨id,off,none⟩) rest.length rest.length) n s')[0]?=some (.slice (some ⟨id,off,none⟩) rest.length rest.length):=fun _=>rfl
  have cs:∀ s' v,(hcl (.slice (some ⟨id,off,none⟩) rest.length rest.length) n s').set 0 v=hcl v n s':=fun _ _=>rfl
  have cl:∀ v s',(1≤(hcl v n s').length)=True:=fun v s'=>eq_true (by rw [He]; omega)
  have b1:J7 rest.length rest.length none (some (.int .i64 128)) none=some (0,128,rest.length):=by
   have n1:Vb (some (.int .i64 128)) rest.length rest.length=some 128:=XX (n:=128) h128
   rw [XU,n1,Qp]; rfl
  have b2:J7 rest.length rest.length (some (.int .i64 128)) none none=some (128,rest.length,rest.length):=by
   have n1:Vb (some (.int .i64 128)) rest.length 0=some 128:=XX (n:=128) h128
   rw [XU,Wx,Qp,n1,Qp]
  have e1:((128:Int)≤(rest.length:Int))=True:=eq_true (by omega)
  have g0:H[hid]?=some ⟨hcl (.slice (some ⟨id,off,none⟩) rest.length rest.length) n st,true,true,true,1⟩:=hh
  have g1:∀ o:Ob,(H.set hid o++[w,s])[hid]?=some o:=fun o=>by
   rw [Qc (by rw [Q0]; exact hlt),Q1 hlt]
  have g2:∀ o:Ob,(H.set hid o++[w,s])[id]?=some ⟨u8s all,true,true,false,1⟩:=fun o=>by
   rw [Qc (by rw [Q0]; exact (Qg.1 k2).1),Qt (Ne.symm hidne)]; exact k2
  have g3:∀ o o':Ob,(H.set hid o++[w,s]).set hid o'=H.set hid o'++[w,s]:=fun o o'=>by
   rw [XY _ _ (by rw [Q0]; exact hlt),Wc]
  refine ⟨.slice (some ⟨id,off+128,none⟩) (rest.length-128) (rest.length-128),H.set hid (hob (.slice (some ⟨id,off+128,none⟩) (rest.length-128) (rest.length-128)) n (blk st (rest.take 128)))++[w,s],Q2 b0 (Q2 b0 L M) [hid],[],?_,g1 _,?_,?_,?_,?_⟩
  ·simp only [hob] at hb ⊢
   generalize blk st (rest.take 128)=st' at *
   simp only [fdI,fdF,YY,Qs,quiet,cW,↓pW,reduceCtorEq,seval,-Qb,e1,b1,b2,hb,c0,cs,cl,g0,k2,g1,g2,g3]
  ·have:=Rst.own (K:=K) (H:=H.set hid (hob (.slice (some ⟨id,off+128,none⟩) (rest.length-128) (rest.length-128)) n (blk st (rest.take 128)))++[w,s]) (id:=id) (off:=off+128) (all:=all) (l:=rest.drop 128) k1 (g2 _) (by rw [QP]; omega) (fun i hi=>by
    rw [QP] at hi
    rw [Zt,←k3 _ (by omega),QW])
   rwa [QP] at this
  ·intro i hi
   rw [Qc (by rw [Q0]; exact hK i hi),Qt (fun e=>hKh (by rw [e]; exact hi))]
  ·simp
  ·intro i hi
   rcases Jp hi with h | h
   ·rcases Jp h with h | h
    ·exact hL i h
    ·rw [hM i h]; exact hKh
   ·rw [JW.1 h]; exact hKh
theorem Rst.shape {K:Nat→Prop} {H:List Ob} {v:Value} {l:List Nat} (h:Rst K H v l):∃ (a:Option Addr) (c:Nat),v=.slice a l.length c:=by
 cases h with
 | nil=>exact ⟨_,_,rfl⟩
 | empty _ _=>exact ⟨_,_,rfl⟩
 | own _ _ _ _=>exact ⟨_,_,rfl⟩
theorem rC {x:Value} {all p:List Nat} (hK:∀ i,K i→i<H.length) (hKh:¬ K hid) (hh:Hsh K H hid all) (xa:∀ y∈all,y<256) (xp:∀ y∈p,y<256)
 (hl:∃ (a:Option Addr) (c:Nat),x=.slice a p.length c) (he:∀ o,elemsOf (H.set hid o) 1 p.length x=some (u8s p)) (hb:all.length+p.length<2^50) (hb2:p.length≤2^47-128) :
    ∃ H' M,Z6 T 137 [.pointer (some ⟨hid,0,none⟩),.int .i64 128,x,fdF hid] H=some (.tuple #[],H',M)∧Hsh K H' hid (all++p)∧(∀ i,K i→H'[i]?=H[i]?)∧H.length≤H'.length∧∀ i∈M,¬ K i:=by
  obtain ⟨rv,h1,h2⟩:=hh
  have hlt:hid<H.length:=(Qg.1 h1).1
  obtain ⟨q0,hq0⟩:∃ q,q=all.length/128:=⟨_,rfl⟩
  rw [←hq0] at h1 h2
  have hq1:128*q0≤all.length:=by rw [hq0]; omega
  have hst:stK q0 all=stK q0 (all++p):=(SS all p q0 hq1).symm
  have hN:(all++p).length=all.length+p.length:=Qj
  rw [hst] at h1
  obtain ⟨st0,hst0⟩:∃ s,s=stK q0 (all++p):=⟨_,rfl⟩
  rw [←hst0] at h1
  have hrest:all.drop (128*q0)++p=(all++p).drop (128*q0):=(ZX hq1).symm
  have hrl:(all.drop (128*q0)).length≤127:=by rw [QP,hq0]; omega
  have hr1:Rst K (H.set hid (hob rv (all.length+p.length) st0)) rv (all.drop (128*q0)):=h2.setH h1 _
  have hK1:∀ i,K i→i<(H.set hid (hob rv (all.length+p.length) st0)).length:=fun i hi=>by rw [Q0]; exact hK i hi
  have hlen:Go.Ev.lenV x=some p.length:=by obtain ⟨a,c,rfl⟩:=hl; rfl
  obtain ⟨rv',H2,M2,ha,a1,a2,a3,a4,a5⟩:=hr1.append hK1 hlen (he _) (by omega)
  have hg1:(H.set hid (hob rv (all.length+p.length) st0))[hid]?=some (hob rv (all.length+p.length) st0):=Q1 hlt
  have hg2:=a5 hid _ hg1 rfl
  rw [Q0] at a3
  have hlt2:hid<H2.length:=by omega
  have hr3:Rst K (H2.set hid (hob rv' (all.length+p.length) st0)) rv' ((all++p).drop (128*q0)):=by
    rw [hrest] at a1
    exact a1.setH hg2 _
  have hg3:(H2.set hid (hob rv' (all.length+p.length) st0))[hid]?=some (hob rv' (all.length+p.length) st0):=Q1 hlt2
  obtain ⟨H3,hH3⟩:∃ X,X=H2.set hid (hob rv' (all.length+p.length) st0):=⟨_,rfl⟩
  have hf3:∀ i,K i→H3[i]?=H[i]? := fun i hi=>by
    have hne:hid≠i:=fun e=>hKh (by rw [e]; exact hi)
    rw [hH3,Qt hne,a4 i hi,Qt hne]
  have hl3:H.length≤H3.length:=by rw [hH3,Q0]; exact a3
  obtain ⟨L3,hL3⟩:∃ L,L=Q2 H.length (Q2 H.length (Q2 H.length [] [hid]) M2) [hid]:=⟨_,rfl⟩
  have hL3':∀ i∈L3,¬ K i:=fun i hi=>by
    rw [hL3] at hi
    rcases Jp hi with h | h
    · rcases Jp h with h | h
      · rcases Jp h with h | h
        · simp at h
        · rw [JW.1 h]; exact hKh
      · exact a2 i h
    · rw [JW.1 h]; exact hKh
  rw [←hH3] at hr3 hg3
  obtain ⟨st,hloop,H',L',ex',rvf,rfl,f1,f2,f3,f4,f5⟩:=Zm (T:=T) (base:=H.length) (id:=0) (body:=YY)
    (fun k st=>∃ H' L' ex' rvk,st=fdI hid H' L' ex'∧H'[hid]?=some (hob rvk (all.length+p.length) (stK (q0+k) (all++p)))∧Rst K H' rvk ((all++p).drop (128*(q0+k)))∧(∀ i,K i→H'[i]?=H[i]?)∧H.length≤H'.length∧∀ i∈L',¬ K i)
    (Q:=fun st=>∃ H' L' ex' rvk,st=fdI hid H' L' ex'∧H'[hid]?=some (hob rvk (all.length+p.length) (stK ((all++p).length/128) (all++p)))∧Rst K H' rvk ((all++p).drop (128*((all++p).length/128)))∧(∀ i,K i→H'[i]?=H[i]?)∧H.length≤H'.length∧∀ i∈L',¬ K i)
    ((all++p).length/128-q0) (s:=fdI hid H3 L3 []) ⟨H3,L3,[],rv',rfl,by rw [ZV,←hst0]; exact hg3,by rw [ZV]; exact hr3,hf3,hl3,hL3'⟩
    (fun k st hk hs=>by
      obtain ⟨Hk,Lk,exk,rvk,rfl,k1,k2,k3,k4,k5⟩:=hs
      obtain ⟨rv2,Hk2,L2,ex2,j1,j2,j3,j4,j5,j6⟩:=rE (b0:=H.length) (ex:=exk) (fun i hi=>QK (hK i hi) k4) hKh k1 (GQ _ _) (Ip _ _) k2 (by rw [QP]; omega) (fun y hy=>by
        rcases QF.1 (ZW hy) with h | h
        · exact xa y h
        · exact xp y h) k5 (by rw [QP]; omega)
      refine ⟨_,j1,Hk2,L2,ex2,rv2,rfl,j2,?_,fun i hi=>(j4 i hi).trans (k3 i hi),JP k4 j5,j6⟩
      rw [List.drop_drop] at j3
      rw [show 128*(q0+(k+1))=128*(q0+k)+128 by omega]
      exact j3)
    (fun st hs=>by
      obtain ⟨Hk,Lk,exk,rvk,rfl,k1,k2,k3,k4,k5⟩:=hs
      have hqq:q0+((all++p).length/128-q0)=(all++p).length/128:=by
        have:q0≤(all++p).length/128:=by rw [hq0,hN]; omega
        omega
      rw [hqq] at k1 k2
      have hrl2:((all++p).drop (128*((all++p).length/128))).length<128:=by rw [QP]; omega
      obtain ⟨v,c,hv⟩:=k2.shape
      refine ⟨_,?_,Hk,Lk,[(33,.bool false)],rvk,rfl,k1,k2,k3,k4,k5⟩
      subst hv
      have c0:∀ v' s',(hcl v' (all.length+p.length) s')[0]?=some v':=fun _ _=>rfl
      have e1:((128:Int)≤(((all++p).drop (128*((all++p).length/128))).length:Int))=False:=eq_false (by omega)
      simp only [hob] at k1
      generalize ((all++p).drop (128*((all++p).length/128))).length=rl,stK ((all++p).length/128) (all++p)=sk at *
      simp only [fdI,fdF,YY,Qs,quiet,cW,↓pW,reduceCtorEq,seval,-Qb,e1,k1,c0])
  refine ⟨H',L',?_,⟨rvf,by rw [hN] at f1 ⊢; exact f1,f2⟩,f3,f4,f5⟩
  obtain ⟨c1,c2,rfl⟩:=hl
  simp only [fdI,Qo,Qm,hL3] at hloop
  simp only [hob] at h1 ha hg2 hH3
  have w1:IntKind.u64.wrap (p.length:Int)=(p.length:Int):=YL (by omega)
  have w2:IntKind.u64.wrap ((all.length:Int)+(p.length:Int))=((all.length+p.length:Nat):Int):=Yy (by omega)
  have c0:∀ v' n' s',(hcl v' n' s')[0]?=some v':=fun _ _ _=>rfl
  have c1':∀ v' (n':Nat) s',(hcl v' n' s')[1]?=some (.int .u64 n'):=fun _ _ _=>rfl
  have s0:∀ v' n' s' v,(hcl v' n' s').set 0 v=hcl v n' s':=fun _ _ _ _=>rfl
  have s1:∀ v' n' s' (m:Nat),(hcl v' n' s').set 1 (.int .u64 (m:Int))=hcl v' m s':=fun _ _ _ _=>rfl
  have cl:∀ v n' s',(1≤(hcl v n' s').length)=True:=fun v n' s'=>eq_true (by rw [He]; omega)
  have cl2:∀ v n' s',(2≤(hcl v n' s').length)=True:=fun v n' s'=>eq_true (by rw [He]; omega)
  have hgs:∀ o:Ob,(H.set hid o)[hid]?=some o:=fun o=>Q1 hlt
  obtain ⟨vr,cr,hvr⟩:=a1.shape
  have hok:okVar rv'=true:=by rw [hvr]; rfl
  have hc1:rv'.cells.toList=[rv']:=by rw [hvr]; rfl
  have hc2:rv'.cells.size=1:=by rw [hvr]; rfl
  clear hvr
  generalize all.length+p.length=NN at *
  rw [Zg (fn:=od) rfl]
  simp only [od,Qs,quiet,cW,↓pW,reduceCtorEq,seval,-Qb,fdF,h1,c0,c1',s0,s1,cl,cl2,w1,w2,hgs,ha,hg2,←hH3,hok,hc1,hc2]
  simp only [fdF] at hloop
  simp only [hloop,Qs,quiet,cK,↓pQ,reduceCtorEq,seval,-Qb,cL]
  rfl
structure HPart (K:Nat→Prop) (H:List Ob) (x:Value) (p:List Nat):Prop where
 shape:∃ (a:Option Addr) (c:Nat),x=.slice a p.length c
 reads:∀ G:List Ob,(∀ i,K i→G[i]?=H[i]?)→elemsOf G 1 p.length x=some (u8s p)
 lt:∀ y∈p,y<256
 le:p.length≤2^47-128
theorem HPart.of {K:Nat→Prop} {H G:List Ob} {x:Value} {p:List Nat} (h:HPart K H x p) (hg:∀ i,K i→G[i]?=H[i]?):HPart K G x p :=
 ⟨h.shape,fun G' hG'=>h.reads G' fun i hi=>(hG' i hi).trans (hg i hi),h.lt,h.le⟩
inductive HParts (K:Nat→Prop) (H:List Ob):List Value→List (List Nat)→Prop
 | nil:HParts K H [] []
 | cons {x:Value} {p:List Nat} {xs:List Value} {ps:List (List Nat)}:HPart K H x p→HParts K H xs ps→HParts K H (x::xs) (p::ps)
theorem HParts.get {K:Nat→Prop} {H:List Ob}:∀ {xs:List Value} {ps:List (List Nat)},HParts K H xs ps→∀ {i:Nat} {x:Value},xs[i]?=some x→∃ p,ps[i]?=some p∧HPart K H x p
 | _,_,.nil,i,x,h=>by simp at h
 | _,_,.cons a b,0,x,h=>by simp at h; subst h; exact ⟨_,rfl,a⟩
 | _,_,.cons a b,i+1,x,h=>by
  obtain ⟨p,h1,h2⟩:=b.get (i:=i) (by simpa using h)
  exact ⟨p,by simpa using h1,h2⟩
theorem HParts.len {K:Nat→Prop} {H:List Ob}:∀ {xs:List Value} {ps:List (List Nat)},HParts K H xs ps→ps.length=xs.length
 | _,_,.nil=>rfl
 | _,_,.cons _ b=>by simp [b.len]
theorem HParts.lt {K:Nat→Prop} {H:List Ob}:∀ {xs:List Value} {ps:List (List Nat)},HParts K H xs ps→∀ y∈ps.flatten,y<256
 | _,_,.nil=>by simp
 | _,_,.cons a b=>by
  intro y hy
  rw [QL] at hy
  rcases QF.1 hy with h | h
  ·exact a.lt y h
  ·exact b.lt y h
def PV (K:Nat→Prop) (H:List Ob) (pv:Value) (xs:List Value):Prop:=(pv=.slice none 0 0∧xs=[])∨∃ pid off cap o,pv=.slice (some ⟨pid,off,none⟩) xs.length cap∧K pid∧H[pid]?=some o∧o.live=true∧∀ i,i<xs.length→o.cells[off+i]?=xs[i]?
def wrI (hid:Nat) (pv:Value) (n:Nat) (i:Int) (H:List Ob) (L:List Nat) (ex:Env):St:=⟨[(0,.pointer (some ⟨hid,0,none⟩)),(6,pv),(7,.int .i64 n),(8,.int .i64 i)]++ex,H,L⟩
theorem oz {H0:List Ob} {all:List Nat} (hK:∀ i,K i→i<H.length) (hKh:¬ K hid) (hh:Hsh K H hid all) (xa:∀ y∈all,y<256) (hp:PV K H0 pv xs) (hP:HParts K H0 xs ps) (hF:∀ i,K i→H[i]?=H0[i]?) (hL:∀ i∈L,¬ K i) (hi:i<xs.length) (hn:xs.length<2^50) (hb:all.length+(ps.getD i []).length<2^50) :
  ∃ H' L',Q5 T b0 MD (wrI hid pv xs.length i H L [])=some (.normal,wrI hid pv xs.length ((i+1:Nat):Int) H' L' [])∧Hsh K H' hid (all++ps.getD i [])∧(∀ i,K i→H'[i]?=H[i]?)∧H.length≤H'.length∧∀ i∈L',¬ K i:=by
 obtain ⟨x,hx⟩:∃ x,xs[i]?=some x:=⟨_,Qe hi⟩
 obtain ⟨p,hpi,hpp⟩:=hP.get hx
 have hgd:ps.getD i []=p:=by rw [QB,hpi]; rfl
 rw [hgd] at hb ⊢
 obtain ⟨H',M,hf,f1,f2,f3,f4⟩:=rC hK hKh hh xa hpp.lt hpp.shape (fun o=>hpp.reads _ (fun j hj=>by
  rw [Qt (fun e=>hKh (by rw [e]; exact hj))]; exact hF j hj)) hb hpp.le
 rcases hp with ⟨-,h0⟩ | ⟨pid,off,cap,o,rfl,kp,ho,hlv,hc⟩
 ·rw [h0] at hi; exact absurd hi (Y7 _)
 ·have ho':H[pid]?=some o:=(hF pid kp).trans ho
  have hcx:o.cells[off+i]?=some x:=(hc i hi).trans hx
  have e1:((i:Int)<(xs.length:Int))=True:=eq_true (by omega)
  have w3:IntKind.i64.wrap ((i:Int)+1)=((i+1:Nat):Int):=ZJ (b:=1) (by omega)
  refine ⟨H',Q2 b0 L M,?_,f1,f2,f3,fun j hj => ?_⟩
  ·simp only [fdF] at hf
   generalize i+1=i1 at *
   simp only [wrI,MD,Qs,quiet,cW,↓pW,reduceCtorEq,seval,-Qb,e1,ho',hlv,hcx,w3,hf]
  ·rcases Jp hj with h | h
   ·exact hL j h
   ·exact f4 j h
theorem Lj {all:List Nat} (hK:∀ i,K i→i<H.length) (hKh:¬ K hid) (hh:Hsh K H hid all) (xa:∀ y∈all,y<256) (hp:PV K H pv xs) (hP:HParts K H xs ps) (hn:xs.length<2^50) (hb:(all++ps.flatten).length<2^50) :
  ∃ H' M,Z6 T 149 [.pointer (some ⟨hid,0,none⟩),pv] H=some (.tuple #[],H',M)∧Hsh K H' hid (all++ps.flatten)∧(∀ i,K i→H'[i]?=H[i]?)∧H.length≤H'.length∧∀ i∈M,¬ K i:=by
 obtain ⟨st,hl,H',L',rfl,f1,f2,f3,f4⟩:=Zm (T:=T) (base:=H.length) (id:=0) (body:=MD)
  (fun i st=>∃ H' L',st=wrI hid pv xs.length (i:Nat) H' L' []∧Hsh K H' hid (all++(ps.take i).flatten)∧(∀ i,K i→H'[i]?=H[i]?)∧H.length≤H'.length∧∀ i∈L',¬ K i)
  (Q:=fun st=>∃ H' L',st=wrI hid pv xs.length (xs.length:Nat) H' L' [(9,.bool false)]∧Hsh K H' hid (all++ps.flatten)∧(∀ i,K i→H'[i]?=H[i]?)∧H.length≤H'.length∧∀ i∈L',¬ K i)
  xs.length (s:=wrI hid pv xs.length 0 H [] []) ⟨H,[],rfl,by simpa using hh,fun _ _=>rfl,Qr _,by simp⟩
  (fun i st hi hs=>by
   obtain ⟨H1,L1,rfl,g1,g2,g3,g4⟩:=hs
   have hpl:=hP.len
   have hsp:ps.flatten=(ps.take i).flatten++((ps.getD i [])++(ps.drop (i+1)).flatten):=by
    obtain ⟨p,hpi⟩:∃ p,ps[i]?=some p:=⟨_,Qe (by omega)⟩
    have hgd:ps.getD i []=p:=by rw [QB,hpi]; rfl
    rw [hgd,←QL,←ZE]
    congr 1
    have h1:=Qg.1 hpi
    conv=>lhs; rw [←Z7 i ps,List.drop_eq_getElem_cons h1.1,h1.2]
   have htk:(ps.take (i+1)).flatten=(ps.take i).flatten++ps.getD i []:=by
    obtain ⟨p,hpi⟩:∃ p,ps[i]?=some p:=⟨_,Qe (by omega)⟩
    have hgd:ps.getD i []=p:=by rw [QB,hpi]; rfl
    rw [hgd,Z5,hpi,ZE]; simp
   have hlt:=hP.lt
   obtain ⟨H2,L2,j1,j2,j3,j4,j5⟩:=oz (b0:=H.length) (fun j hj=>QK (hK j hj) g3) hKh g1 (fun y hy=>by
    rcases QF.1 hy with h | h
    ·exact xa y h
    ·exact hlt y (by rw [hsp]; exact List.mem_append_left _ h)) hp hP g2 g4 hi hn (by
     rw [hsp] at hb
     simp only [Qj] at hb ⊢
     omega)
   refine ⟨_,j1,H2,L2,rfl,by rw [htk,←Qu]; exact j2,fun j hj=>(j3 j hj).trans (g2 j hj),JP g3 j4,j5⟩)
  (fun st hs=>by
   obtain ⟨H1,L1,rfl,g1,g2,g3,g4⟩:=hs
   rw [Ql (by rw [hP.len]; exact Qr _)] at g1
   refine ⟨_,?_,H1,L1,rfl,g1,g2,g3,g4⟩
   have e1:((xs.length:Int)<(xs.length:Int))=False:=eq_false (by omega)
   simp only [wrI,MD,Qs,quiet,cK,↓pQ,reduceCtorEq,seval,-Qb,cL,cJ,e1])
 refine ⟨H',L',?_,f1,f2,f3,f4⟩
 simp only [wrI,Qo,Qm,QD] at hl
 have hlen:vLen false pv=some (.int .i64 xs.length):=by
  rcases hp with ⟨rfl,h0⟩ | ⟨pid,off,cap,o,rfl,-⟩
  ·rw [h0]; rfl
  ·rfl
 rw [Zg (fn:=xn) rfl]
 simp only [xn,Qs,quiet,cW,↓pW,reduceCtorEq,seval,-Qb,hlen,hl]
 rfl
theorem kI:fillL (Value.slice none 0 0::Qa 9 (.int .u64 0)) [(2,8,.agg (ns .u64 Ys).toArray)]=some (hcl (.slice none 0 0) 0 Ys):=rfl
theorem uJ (H:List Ob):Z6 T 148 [] H=some (.pointer (some ⟨H.length,0,none⟩),H++[hob (.slice none 0 0) 0 Ys],[]):=by
 have hf:fillL (Qa 8 (Value.int .u64 0)) [(0,1,.int .u64 7640891576956012808),(1,1,.int .u64 13503953896175478587),(2,1,.int .u64 4354685564936845355),(3,1,.int .u64 11912009170470909681),(4,1,.int .u64 5840696475078001361),(5,1,.int .u64 11170449401992604703),(6,1,.int .u64 2270897969802886507),(7,1,.int .u64 6620516959819538809)]=some (ns .u64 Ys):=rfl
 have hf2:∀ a,fillL [Value.slice none 0 0,.int .u64 0,.int .u64 0,.int .u64 0,.int .u64 0,.int .u64 0,.int .u64 0,.int .u64 0,.int .u64 0,.int .u64 0] [(2,8,.agg (ns .u64 a).toArray)]=fillL (Value.slice none 0 0::Qa 9 (.int .u64 0)) [(2,8,.agg (ns .u64 a).toArray)]:=fun _=>rfl
 have hf3:=kI
 simp only [hob]
 generalize Ys=S at *
 generalize hcl (.slice none 0 0) 0 S=C at *
 rw [Zg (fn:=xq) rfl]
 simp only [xq,Qs,quiet,cW,↓pW,reduceCtorEq,seval,-Qb,hf,hf2,hf3]
theorem qA (h:H[hid]?=some (hob (.slice none 0 0) 0 Ys)):Hsh K H hid []:=⟨_,h,.nil⟩
def paI (hid:Nat) (s:Value) (Hc:List Ob) (ex:Env):St:=⟨[(0,.pointer (some ⟨hid,0,none⟩)),(1,.int .i64 128),(2,.int .i64 16),(7,s)]++ex,Hc,[]⟩
def pbI (hid:Nat) (s:Value) (i:Int) (Hc:List Ob) (ex:Env):St:=⟨[(0,.pointer (some ⟨hid,0,none⟩)),(7,s),(8,.int .i64 i)]++ex,Hc,[]⟩
theorem Fk (n i:Nat):((n/256^(i+1)*8%256)|||(n/256^i%256/32))=8*n/256^(i+1)%256:=by
 have h1:n/256^(i+1)=n/256^i/256:=by rw [Zi,QV]
 have h2:8*n/256^(i+1)=n/256^i/32:=by
  rw [QV,Zi,show 256^i*256=8*(256^i*32) by omega,Nat.mul_div_mul_left _ _ (by decide)]
 rw [h1,h2]
 generalize n/256^i=m
 have h3:m/256*8%256=(m/256%32)*2^3:=by omega
 rw [h3,Yi (by omega)]
 omega
theorem An (n:Nat):(n+(1+Va n)+16)%128=0:=by unfold Va; omega
theorem RF (n z:Nat) (h:z<Va n):(n+(1+z)+16)%128≠0:=by unfold Va at h; omega
theorem DQ (n:Nat):Va n<128:=by unfold Va; omega
theorem qa (hh:H[hid]?=some (hob rv n st)) (hn:n<2^50) :
  ∃ s l,Q5 T H.length (.block 0 (.loop YX)) (paI hid (.slice (some ⟨H.length,0,none⟩) 1 1) (H++[⟨[.int .u8 128],true,true,true,1⟩]) [])=some (.normal,paI hid s (H++l) [(23,.bool false)])∧Grown .u8 H.length (H++l) s (128::Qa (Va n) 0):=by
 have hlt:hid<H.length:=(Qg.1 hh).1
 have f0:fillL [Value.int .u8 0] [(0,1,.int .u8 0)]=some [.int .u8 0]:=rfl
 have c1:(hcl rv n st)[1]?=some (.int .u64 n):=rfl
 have hz:=DQ n
 obtain ⟨x,hb,s,Hc,rfl,hg,hL,hF⟩:=Zm (T:=T) (base:=H.length) (id:=0) (body:=YX)
  (fun j x=>∃ s Hc,x=paI hid s Hc []∧Grown .u8 H.length Hc s (128::Qa j 0)∧H.length≤Hc.length∧∀ i,i<H.length→Hc[i]?=H[i]?)
  (Q:=fun x=>∃ s Hc,x=paI hid s Hc [(23,.bool false)]∧Grown .u8 H.length Hc s (128::Qa (Va n) 0)∧H.length≤Hc.length∧∀ i,i<H.length→Hc[i]?=H[i]?)
  (Va n) (s:=paI hid (.slice (some ⟨H.length,0,none⟩) 1 1) (H++[⟨[.int .u8 128],true,true,true,1⟩]) []) ⟨_,_,rfl,Grown.new (k := .u8) (id:=H.length) (bs:=[128]) (Qr _) (by decide) (by simp [Ob.fresh,ns]),by simp,fun i hi=>Qc hi⟩
  (fun j x hj hx=>by
   obtain ⟨s,Hc,rfl,hg,hL,hF⟩:=hx
   have hl:=hg.len
   have e1:(128::Qa j 0).length=1+j:=by simp; omega
   rw [e1] at hl
   obtain ⟨s',H',M,h1,h2,h3,h4,h5⟩:=Yl (x:=0) (bytes:=1) hg hL (by rw [e1]; omega) (by decide)
   have hm:Q2 H.length [] M=[]:=QG h3
   have hget:Hc[hid]?=some ⟨hcl rv n st,true,true,true,1⟩:=(hF hid hlt).trans hh
   have w1:IntKind.i64.wrap (n:Int)=(n:Int):=wn (by omega)
   have w2:IntKind.i64.wrap ((n:Int)+((1+j:Nat):Int))=((n+(1+j):Nat):Int):=ZJ (by omega)
   have w3:IntKind.i64.wrap (((n+(1+j):Nat):Int)+16)=((n+(1+j)+16:Nat):Int):=ZJ (b:=16) (by omega)
   have w4:((n+(1+j)+16:Nat):Int).tmod 128=(((n+(1+j)+16)%128:Nat):Int):=rfl
   have w5:((((n+(1+j)+16)%128:Nat):Int) != 0)=true:=bne_iff_ne.2 (by have:=RF n j hj; omega)
   refine ⟨paI hid s' H' [],?_,s',H',rfl,by rw [Ye,←Qo]; exact h2,h4,fun i hi=>by rw [h5 i hi,hF i hi]⟩
   simp only [QD] at h1
   generalize (n+(1+j)+16)%128=r at *
   generalize n+(1+j)+16=r2 at *
   generalize n+(1+j)=r3 at *
   simp only [paI,YX,Qs,quiet,cW,↓pW,reduceCtorEq,seval,-Qb,hget,c1,hl,w1,w2,w3,w4,w5,f0,h1,hm])
  (fun x hx=>by
   obtain ⟨s,Hc,rfl,hg,hL,hF⟩:=hx
   have hl:=hg.len
   have e1:(128::Qa (Va n) 0).length=1+Va n:=by simp; omega
   rw [e1] at hl
   have hget:Hc[hid]?=some ⟨hcl rv n st,true,true,true,1⟩:=(hF hid hlt).trans hh
   have w1:IntKind.i64.wrap (n:Int)=(n:Int):=wn (by omega)
   have w2:IntKind.i64.wrap ((n:Int)+((1+Va n:Nat):Int))=((n+(1+Va n):Nat):Int):=ZJ (by omega)
   have w3:IntKind.i64.wrap (((n+(1+Va n):Nat):Int)+16)=((n+(1+Va n)+16:Nat):Int):=ZJ (b:=16) (by omega)
   have w4:((n+(1+Va n)+16:Nat):Int).tmod 128=0:=by
    have:((n+(1+Va n)+16:Nat):Int).tmod 128=(((n+(1+Va n)+16)%128:Nat):Int):=rfl
    rw [this,An]; rfl
   refine ⟨_,?_,s,Hc,rfl,hg,hL,hF⟩
   generalize n+(1+Va n)+16=r2 at *
   generalize n+(1+Va n)=r3 at *
   simp only [paI,YX,Qs,quiet,cW,↓pW,reduceCtorEq,seval,-Qb,hget,c1,hl,w1,w2,w3,w4])
 obtain ⟨l,rfl⟩:=X7 hL hF
 exact ⟨s,l,hb,hg⟩
def Wt (n i:Nat):Nat:=8*n/256^(15-i)%256
theorem pZ {l0:List Ob} {s0:Value} {bs:List Nat} (hh:H[hid]?=some (hob rv n st)) (hn:n<2^50) (hg0:Grown .u8 H.length (H++l0) s0 bs) (hbs:bs.length≤200) :
  ∃ s l,Q5 T H.length (.block 2 (.loop VC)) (pbI hid s0 15 (H++l0) [])=some (.normal,pbI hid s (-1) (H++l) [(30,.bool false)])∧Grown .u8 H.length (H++l) s (bs++(Jm 16).map (Wt n)):=by
 have hlt:hid<H.length:=(Qg.1 hh).1
 have c1:(hcl rv n st)[1]?=some (.int .u64 n):=rfl
 obtain ⟨x,hb,s,Hc,rfl,hg,hL,hF⟩:=Zm (T:=T) (base:=H.length) (id:=2) (body:=VC)
  (fun j x=>∃ s Hc,x=pbI hid s ((15:Int)-j) Hc []∧Grown .u8 H.length Hc s (bs++(Jm j).map (Wt n))∧H.length≤Hc.length∧∀ i,i<H.length→Hc[i]?=H[i]?)
  (Q:=fun x=>∃ s Hc,x=pbI hid s (-1) Hc [(30,.bool false)]∧Grown .u8 H.length Hc s (bs++(Jm 16).map (Wt n))∧H.length≤Hc.length∧∀ i,i<H.length→Hc[i]?=H[i]?)
  16 (s:=pbI hid s0 15 (H++l0) []) ⟨_,_,rfl,by simpa using hg0,by simp,fun i hi=>Qc hi⟩
  (fun j x hj hx=>by
   obtain ⟨s,Hc,rfl,hg,hL,hF⟩:=hx
   obtain ⟨i,hi⟩:∃ i,i=15-j:=⟨_,rfl⟩
   rw [show (15:Int)-j=(i:Int) by omega,show (15:Int)-((j+1:Nat):Int)=(i:Int)-1 by omega]
   have hl:=hg.len
   have hpd:Wt n j=8*n/256^i%256:=by rw [hi]; rfl
   obtain ⟨s',H',M,h1,h2,h3,h4,h5⟩:=Yl (x:=Wt n j) (bytes:=1) hg hL (by rw [Qj,List.length_map,List.length_range]; omega) (by decide)
   have hm:Q2 H.length [] M=[]:=QG h3
   have hget:Hc[hid]?=some ⟨hcl rv n st,true,true,true,1⟩:=(hF hid hlt).trans hh
   have fx:∀ a:Int,fillL [Value.int .u8 0] [(0,1,.int .u8 a)]=some [.int .u8 a]:=fun _=>rfl
   have w0:IntKind.i64.wrap ((i:Int)-1)=(i:Int)-1:=Zh (by omega) (by omega)
   have e0:((0:Int)≤(i:Int))=True:=eq_true (by omega)
   refine ⟨pbI hid s' ((i:Int)-1) H' [],?_,s',H',rfl,by rw [List.range_succ,List.map_append,←Qu]; exact h2,h4,fun k hk=>by rw [h5 k hk,hF k hk]⟩
   rw [hpd] at h1
   by_cases h9:i<9
   ·have e9:((i:Int)<9)=True:=eq_true (by omega)
    have w1:IntKind.i64.wrap (8*(i:Int))=((8*i:Nat):Int):=BP (a:=8) (by omega)
    have w2:(((8*i:Nat):Int)<0)=False:=eq_false (by omega)
    have w3:(n:Int).fdiv (2^min (8*i) IntKind.u64.bits)=((n/256^i:Nat):Int):=by
     rw [Da (by omega),show (256:Nat)=2^8 from rfl,←Ja]
    have hle:n/256^i≤n:=JJ _ _
    have w4:IntKind.u64.wrap (((n/256^i:Nat):Int)*2^min 3 IntKind.u64.bits)=((n/256^i*8:Nat):Int):=WN (b:=8) (by omega)
    have w5:IntKind.u8.wrap ((n/256^i*8:Nat):Int)=((n/256^i*8%256:Nat):Int):=Wy _
    by_cases hz:i=0
    ·subst hz
     have e8:n/256^0*8%256=8*n/256^0%256:=by rw [ZQ,Jy,Jy]; omega
     rw [e8] at w5
     have ew:(8*0:Nat)=0:=rfl
     simp only [ew,QD] at w1 w2 w3
     generalize 8*n/256^0%256=d at *
     generalize n/256^0*8=v1 at *
     generalize n/256^0=v2 at *
     simp only [pbI,VC,Qs,quiet,cW,↓pW,reduceCtorEq,seval,-Qb,hget,c1,w0,e0,e9,w1,w2,w3,w4,w5,fx,h1,hm]
    ·obtain ⟨k,rfl⟩:∃ k,i=k+1:=⟨i-1,by omega⟩
     have hd:=Fk n k
     have ep:((0:Int)<((k+1:Nat):Int))=True:=eq_true (by omega)
     have v1:IntKind.i64.wrap (((8*(k+1):Nat):Int)-8)=((8*k:Nat):Int):=by rw [Zh (by omega) (by omega)]; omega
     have v2:(((8*k:Nat):Int)<0)=False:=eq_false (by omega)
     have v3:(n:Int).fdiv (2^min (8*k) IntKind.u64.bits)=((n/256^k:Nat):Int):=by
      rw [Da (by omega),show (256:Nat)=2^8 from rfl,←Ja]
     have v4:Zz .and .u64 ((n/256^k:Nat):Int) 255=((n/256^k%256:Nat):Int):=Ur .u64 rfl 8 _ (by decide)
     have v5:((n/256^k%256:Nat):Int).fdiv (2^min 5 IntKind.u64.bits)=((n/256^k%256/32:Nat):Int):=Da (r:=5) (by decide)
     have v6:IntKind.u8.wrap ((n/256^k%256/32:Nat):Int)=((n/256^k%256/32:Nat):Int):=by rw [Wy,Qv (by omega)]
     have v7:Zz .or .u8 ((n/256^(k+1)*8%256:Nat):Int) ((n/256^k%256/32:Nat):Int)=((8*n/256^(k+1)%256:Nat):Int):=by
      rw [KD rfl (show _<2^8 from Q6 _ (by decide)) (show n/256^k%256/32<2^8 by omega),hd]
     generalize 8*n/256^(k+1)%256=d at *
     generalize n/256^(k+1)*8%256=u1 at *
     generalize n/256^(k+1)*8=u2 at *
     generalize n/256^(k+1)=u3 at *
     generalize n/256^k%256/32=u4 at *
     generalize n/256^k%256=u5 at *
     generalize n/256^k=u6 at *
     generalize 8*(k+1)=u7 at *
     generalize 8*k=u8' at *
     generalize k+1=k1 at *
     simp only [pbI,VC,Qs,quiet,cW,↓pW,reduceCtorEq,seval,-Qb,hget,c1,w0,e0,e9,ep,w1,w2,w3,w4,w5,v1,v2,v3,v4,v5,v6,v7,fx,h1,hm]
   ·have e9:((i:Int)<9)=False:=eq_false (by omega)
    have ep:((0:Int)<(i:Int))=True:=eq_true (by omega)
    have hz:8*n/256^i%256=0:=by
     have:(256:Nat)^9≤256^i:=Zr (by decide) (by omega)
     rw [JH (QK (by omega) this)]
    rw [hz] at h1
    simp only [QD] at h1
    simp only [pbI,VC,Qs,quiet,cW,↓pW,reduceCtorEq,seval,-Qb,hget,c1,w0,e0,e9,ep,fx,h1,hm])
  (fun x hx=>by
   obtain ⟨s,Hc,rfl,hg,hL,hF⟩:=hx
   have e:((0:Int) ≤ -1)=False:=by decide
   refine ⟨_,?_,s,Hc,rfl,hg,hL,hF⟩
   rw [show (15:Int)-((16:Nat):Int) = -1 by omega]
   simp only [pbI,VC,Qs,quiet,cK,↓pQ,reduceCtorEq,seval,-Qb,cL,e])
 obtain ⟨l,rfl⟩:=X7 hL hF
 exact ⟨s,l,hb,hg⟩
theorem aD (n:Nat):Uq n=(128::Qa (Va n) 0)++(Jm 16).map (Wt n):=by unfold Uq Wt; rw [Qo]
theorem P0 (hh:H[hid]?=some (hob rv n st)) (hn:n<2^50) :
  ∃ s l,Z6 T 139 [.pointer (some ⟨hid,0,none⟩),.int .i64 128,.int .i64 16] H=some (s,H++l,[])∧Grown .u8 H.length (H++l) s (Uq n):=by
 obtain ⟨s1,l1,h1,g1⟩:=qa hh hn
 have hz:=DQ n
 obtain ⟨s2,l2,h2,g2⟩:=pZ hh hn g1 (by simp; omega)
 rw [←aD] at g2
 refine ⟨s2,l2,?_,g2⟩
 have f128:fillL [Value.int .u8 0] [(0,1,.int .u8 128)]=some [.int .u8 128]:=rfl
 have w1:IntKind.i64.wrap 15=15:=by decide
 simp only [paI,Qo,Qm] at h1
 simp only [pbI,Qo,Qm] at h2
 rw [Zg (fn:=oc) rfl]
 simp only [oc,Qs,quiet,cW,↓pW,reduceCtorEq,seval,-Qb,f128,h1,w1,h2]
end
section
attribute [local congr] JD JU JC JV Jv
variable {H G:List Ob} {pv:Value} {ps:List (List Nat)} {n a:Nat} {b s st:List Nat} {K:Nat→Prop}
theorem Rst.elems {K:Nat→Prop} {H:List Ob} {v:Value} {l:List Nat} (h:Rst K H v l):elemsOf H 1 l.length v=some (u8s l):=by
 cases h with
 | nil=>rfl
 | empty _ h2=>simp [elemsOf,Zy h2 rfl,u8s]
 | own h1 h2 h4 h3=>simp [elemsOf,Zy h2 rfl,Qq,h4,TI h3]
theorem FY {e:Nat} {x:Value} {p:List Nat} (he:G[e]?=some ⟨[],true,true,true,1⟩) (hKe:¬ K e) (hKg:¬ K G.length) (hl:Go.Ev.lenV x=some p.length) (hel:elemsOf G 1 p.length x=some (u8s p)) (hb:p.length≤2^47) :
  ∃ v' l,Jh 1 1 G (.slice (some ⟨e,0,none⟩) 0 0) x=some (v',G++l,none,[])∧Rst K (G++l) v' p∧okVar v'=true∧v'.cells.toList=[v']∧v'.cells.size=1:=by
 have h4:liveAt G e=some ⟨[],true,true,true,1⟩:=Zy he rfl
 rcases Jd p.length with hn | hn
 ·have:p=[]:=Ji hn
  subst this
  refine ⟨.slice (some ⟨e,0,none⟩) 0 0,[],?_,by rw [QA]; exact .empty hKe he,rfl,rfl,rfl⟩
  rw [ZC] at hl hel
  simp only [Jh,hl,hel,Qp,if_true,QA]
 ·have h1:¬ p.length=0:=by omega
  have h2:p.length*1≤2^47:=by omega
  have h7:¬ (p.length≤0):=by omega
  have h8:elemsOf G 1 0 (.slice (some ⟨e,0,none⟩) 0 0)=some []:=by simp [elemsOf,h4]
  refine ⟨.slice (some ⟨G.length,0,none⟩) p.length p.length,[Ob.grown 1 (u8s p)],?_,.own (all:=p) hKg (by simp [Ob.grown]) (by omega) (fun i _=>by rw [QJ]),rfl,rfl,rfl⟩
  simp only [Jh,hl,hel,Qp,if_neg h1,QJ,h2,ev,UX,and_self,not_true_eq_false,if_false,if_true,h4,h8,if_neg h7,Qm]
theorem Rst.len {K:Nat→Prop} {H:List Ob} {v:Value} {l:List Nat} (h:Rst K H v l):Go.Ev.lenV v=some l.length:=by
 obtain ⟨a,c,rfl⟩:=h.shape; rfl
theorem VR (b:List Nat):(sha b).length=64:=by simp [sha]
theorem Dr (b:List Nat):∀ x∈sha b,x<256:=by
 intro x hx
 simp only [sha,JB] at hx
 obtain ⟨i,-,rfl⟩:=hx
 exact Q6 _ (by decide)
def suI (r x o:Nat) (G:List Ob) (b:List Nat) (i:Int) (ex:Env):St:=⟨[(2,.pointer (some ⟨r,0,none⟩)),(3,.pointer (some ⟨x,0,none⟩)),(4,.pointer (some ⟨G.length,0,none⟩)),(32,.int .i64 i)]++ex,G++[⟨u8s b,true,true,true,1⟩],[]⟩
theorem fV {r x base:Nat} {rv:Value} {R:List Nat} (hx:G[x]?=some (hob rv n st)) (hs:st.length=8) (hR:R.length=64) (hRi:∀ i,i<64→R[i]?=some (st.getD (i/8) 0/256^(7-i%8)%256)) (hxs:∀ y∈st,y<18446744073709551616) (hb:base≤G.length) :
  Q5 T base (.block 0 (.loop MC)) (suI r x 0 G (Qa 64 0) 0 [])=some (.normal,suI r x 0 G R 64 [(33,.bool false)]):=by
 have h:=Jf (T:=T) (base:=base) (id:=0) (body:=MC) (fun i=>suI r x 0 G (pf 64 R i) i []) (s':=suI r x 0 G R 64 [(33,.bool false)]) 64
  (fun i hi=>by
   obtain ⟨w,hw⟩:∃ w,st[i/8]?=some w:=⟨_,Qe (by omega)⟩
   have hw':=hxs w (Qn hw)
   have hv:=hRi i hi
   rw [Xl hw] at hv
   have hstep:=XK hR hi hv
   have hlen:=Ke hR (J3 hi)
   have hset:=Xg (pf 64 R i) i (w/256^(7-i%8)%256)
   rw [hstep] at hset
   have gc:=aV (rv:=rv) (n:=n) hw
   have hget:∀ l:List Ob,(G++l)[x]?=some ⟨hcl rv n st,true,true,true,1⟩:=fun l=>by rw [Qc (Qg.1 hx).1]; exact hx
   have e1:((i:Int)<64)=True:=eq_true (by omega)
   have w3:IntKind.i64.wrap ((i:Int)+1)=((i+1:Nat):Int):=ZJ (b:=1) (by omega)
   have w4:IntKind.i64.wrap ((i:Int).tdiv 8)=((i/8:Nat):Int):=wn (n:=i/8) (by omega)
   have e2:(((i/8:Nat):Int)<8)=True:=eq_true (by omega)
   have w5:(i:Int).tmod 8=((i%8:Nat):Int):=rfl
   have w6:IntKind.i64.wrap (8*((i%8:Nat):Int))=((8*(i%8):Nat):Int):=BP (a:=8) (by omega)
   have w7:IntKind.i64.wrap (56-((8*(i%8):Nat):Int))=((8*(7-i%8):Nat):Int):=by rw [Zh (by omega) (by omega)]; omega
   have e3:(((8*(7-i%8):Nat):Int)<0)=False:=eq_false (by omega)
   have w8:(w:Int).fdiv (2^min (8*(7-i%8)) IntKind.u64.bits)=((w/256^(7-i%8):Nat):Int):=by
    rw [Da (by omega),show (256:Nat)=2^8 from rfl,←Ja]
   have w9:IntKind.u8.wrap ((w/256^(7-i%8):Nat):Int)=((w/256^(7-i%8)%256:Nat):Int):=Wy _
   have e4:(i≤63)=True:=eq_true (by omega)
   have m1:Q2 base [] [G.length]=[]:=QG (by simpa using hb)
   clear hstep hv hw
   generalize pf 64 R i=o1,pf 64 R (i+1)=o2 at *
   generalize w/256^(7-i%8)%256=d at *
   generalize w/256^(7-i%8)=d2 at *
   generalize 8*(7-i%8)=d3 at *
   generalize 8*(i%8)=d4 at *
   generalize i%8=d5 at *
   generalize i/8=d6 at *
   generalize i+1=i1 at *
   simp only [suI,MC,Qs,quiet,cW,↓pW,reduceCtorEq,seval,-Qb,e1,e2,e3,e4,w3,w4,w5,w6,w7,w8,w9,hget,gc,hset,Qq,hlen,m1])
  (by
   rw [KC hR]
   simp only [suI,MC,Qs,quiet,cW,↓pW,reduceCtorEq,seval,-Qb])
 rw [KB] at h
 exact h
theorem Grown.part {K:Nat→Prop} {B:Nat} {H:List Ob} {s:Value} {p:List Nat} (h:Grown .u8 B H s p) (hK:∀ i,B≤i→i<H.length→K i) (xp:∀ y∈p,y<256) (hl:p.length≤2^47-128) (h0:0<p.length):HPart K H s p:=by
 refine ⟨?_,fun G hG => ?_,xp,hl⟩
 ·cases h with
  | nil=>exact absurd h0 (by decide)
  | own _ _ _=>exact ⟨_,_,rfl⟩
  | new _ _ _=>exact ⟨_,_,rfl⟩
 ·cases h with
  | nil=>exact absurd h0 (by decide)
  | @own id _ h1 h2 h3 =>
   have:=hG id (hK id h1 (Qg.1 h3).1)
   rw [h3] at this
   simp [elemsOf,Zy this rfl,Ob.grown,Q7]
   exact Ql (by rw [Q7]; exact Qr _)
  | @new id _ h1 h2 h3 =>
   have:=hG id (hK id h1 (Qg.1 h3).1)
   rw [h3] at this
   simp [elemsOf,Zy this rfl,Ob.fresh,Q7]
   exact Ql (by rw [Q7]; exact Qr _)
theorem aC (n:Nat):∀ y∈Uq n,y<256:=by
 intro y hy
 simp only [Uq,Jj,QF,List.mem_replicate,JB] at hy
 rcases hy with rfl | ⟨-,rfl⟩ | ⟨i,-,rfl⟩
 ·decide
 ·decide
 ·exact Q6 _ (by decide)
theorem DR (n:Nat):(Uq n).length=17+Va n:=by simp [Uq]; omega
theorem Rst.toK {K K':Nat→Prop} {H:List Ob} {v:Value} {l:List Nat} (h:Rst K H v l) (hk:∀ i,¬ K i→¬ K' i):Rst K' H v l:=by
 cases h with
 | nil=>exact .nil
 | empty h1 h2=>exact .empty (hk _ h1) h2
 | own h1 h2 h4 h3=>exact .own (hk _ h1) h2 h4 h3
theorem Ka:Qa 64 (Value.int .u8 0)=u8s (Qa 64 0):=rfl
theorem ea (va:Option Addr) (rl vc m:Nat) (h:st.length=8):fillL [Value.slice none 0 0,.int .u64 0,.int .u64 0,.int .u64 0,.int .u64 0,.int .u64 0,.int .u64 0,.int .u64 0,.int .u64 0,.int .u64 0] [(0,2,.agg [.slice va rl vc,.int .u64 m].toArray),(2,8,eV st)]=some (hcl (.slice va rl vc) m st):=by
 obtain ⟨a,b,c,d,e,f,g,i,rfl⟩:=eight h
 rfl
theorem tX {hid:Nat} {all:List Nat} (hh:Hsh K H hid all) (xa:∀ y∈all,y<256) (hn:all.length<2^49) :
  ∃ H',Z6 T 150 [.pointer (some ⟨hid,0,none⟩)] H=some (.agg (u8s (sha all)).toArray,H',[])∧(∀ i,i<H.length→H'[i]?=H[i]?)∧H.length≤H'.length:=by
 obtain ⟨rv,h1,h2⟩:=hh
 have hlt:hid<H.length:=(Qg.1 h1).1
 obtain ⟨st,hst⟩:∃ s,s=stK (all.length/128) all:=⟨_,rfl⟩
 have ls:st.length=8:=by rw [hst]; exact GQ _ _
 rw [←hst] at h1
 obtain ⟨G,hG⟩:∃ G,G=H++[⟨u8s (Qa 64 0),true,true,true,1⟩,⟨[],true,true,true,1⟩]:=⟨_,rfl⟩
 have hGl:G.length=H.length+2:=by rw [hG]; simp
 have hrG:Rst K G rv (all.drop (128*(all.length/128))):=by rw [hG]; exact h2.app
 have heG:G[H.length+1]?=some ⟨[],true,true,true,1⟩:=by rw [hG,Qh (by omega),Qw]; rfl
 have hzG:G[H.length]?=some ⟨u8s (Qa 64 0),true,true,true,1⟩:=by rw [hG,Qh (by omega),Q3]; rfl
 have hhG:G[hid]?=some (hob rv all.length st):=by rw [hG,Qc hlt]; exact h1
 obtain ⟨v',l,ha,hr',hok,hc1,hc2⟩:=FY (K:=fun i=>i≠H.length+1∧i≠G.length) heG (by simp) (by simp) hrG.len hrG.elems (by rw [QP]; omega)
 obtain ⟨G2,hG2⟩:∃ X,X=G++l++[hob v' all.length st]:=⟨_,rfl⟩
 have hG2l:G2.length=G.length+l.length+1:=by rw [hG2]; simp; omega
 obtain ⟨xid,hxid⟩:∃ x,x=(G++l).length:=⟨_,rfl⟩
 have hxl:xid=G.length+l.length:=by rw [hxid]; simp
 have hx2:G2[xid]?=some (hob v' all.length st):=by rw [hG2,hxid,Qh (Qr _),Q3]; rfl
 have hh2:G2[hid]?=some (hob rv all.length st):=by
  have:hid<G.length:=by omega
  rw [hG2,Qu,Qc this]; exact hhG
 obtain ⟨s,l3,hp,hgr⟩:=P0 hh2 (by omega)
 obtain ⟨G4,hG4⟩:∃ X,X=G2++l3++[⟨[s],true,true,true,1⟩]:=⟨_,rfl⟩
 have hG4l:G4.length=G2.length+l3.length+1:=by rw [hG4]; simp; omega
 have hgr4:Grown .u8 G2.length G4 s (Uq all.length):=by rw [hG4]; exact hgr.app
 obtain ⟨K2,hK2⟩:∃ K2:Nat→Prop,K2=fun i=>i<G4.length∧i≠xid∧i≠H.length+1∧i≠G.length:=⟨_,rfl⟩
 have hx4:G4[xid]?=some (hob v' all.length st):=by rw [hG4,Qu,Qc (by omega)]; exact hx2
 have hsh4:Hsh K2 G4 xid all:=by
  refine ⟨v',by rw [←hst]; exact hx4,?_⟩
  have:=(hr'.app (m:=[hob v' all.length st])).app (m:=l3++[⟨[s],true,true,true,1⟩])
  rw [←hG2,←Qu,←hG4] at this
  exact this.toK fun i hi hk=>by
   rw [hK2] at hk
   exact hi ⟨hk.2.2.1,hk.2.2.2⟩
 have hpz:=DQ all.length
 have hpart:HPart K2 G4 s (Uq all.length):=Grown.part hgr4 (fun i h1 h2=>by rw [hK2]; exact ⟨h2,by omega,by omega,by omega⟩) (aC _) (by rw [DR]; omega) (by rw [DR]; omega)
 have harr:(G2++l3).length<G4.length:=by rw [hG4]; simp
 have hpv:PV K2 G4 (.slice (some ⟨(G2++l3).length,0,none⟩) 1 1) [s] := .inr ⟨_,0,1,_,rfl,by rw [hK2]; exact ⟨harr,by simp; omega,by simp; omega,by simp; omega⟩,by rw [hG4,Qh (Qr _),Q3]; rfl,rfl,fun i _=>by rw [QJ]⟩
 have hKx:¬ K2 xid:=by rw [hK2]; intro h; exact h.2.1 rfl
 obtain ⟨G5,M5,hw,hsh5,hf5,hl5,hM5⟩:=Lj (fun i hi=>by rw [hK2] at hi; exact hi.1) hKx hsh4 xa hpv (.cons hpart .nil) (by show 1<2^50; decide) (by simp [DR]; omega)
 rw [QL,ZG,QA] at hsh5
 obtain ⟨rv5,hx5,-⟩:=hsh5
 obtain ⟨st5,hst5⟩:∃ s,s=stK ((all++Uq all.length).length/128) (all++Uq all.length):=⟨_,rfl⟩
 rw [←hst5] at hx5
 have ls5:st5.length=8:=by rw [hst5]; exact GQ _ _
 have xs5:∀ y∈st5,y<18446744073709551616:=by rw [hst5]; exact Ip _ _
 have hb5:H.length≤G5.length:=by omega
 have hsu:=fV (r:=H.length) (base:=H.length) hx5 ls5 (VR all) (fun i hi=>by simp [sha,hi,hst5]) xs5 hb5
 have hz5:G5[H.length]?=some ⟨u8s (Qa 64 0),true,true,true,1⟩:=by
  rw [hf5 _ (by rw [hK2]; exact ⟨by omega,by omega,by omega,by omega⟩),hG4,Qu,Qc (by omega),hG2,Qu,Qc (by omega)]
  exact hzG
 have hfr:∀ i,i<H.length→G5[i]?=H[i]? := fun i hi=>by
  rw [hf5 _ (by rw [hK2]; exact ⟨by omega,by omega,by omega,by omega⟩),hG4,Qu,Qc (by omega),hG2,Qu,Qc (by omega),hG,Qc hi]
 have hm5:Q2 H.length [] M5=[]:=QG fun i hi=>by
  have:=hM5 i hi
  rw [hK2] at this
  rcases ZF i H.length with h | h
  ·exact absurd (show i<G4.length∧i≠xid∧i≠H.length+1∧i≠G.length from ⟨by omega,by omega,by omega,by omega⟩) this
  ·exact h
 refine ⟨(G5++[(⟨u8s (sha all),true,true,true,1⟩:Ob)]).set H.length (⟨u8s (sha all),true,true,true,1⟩:Ob),?_,fun i hi=>by rw [Qt (by omega),Qc (by omega)]; exact hfr i hi,by rw [Q0,Qj]; omega⟩
 have hz:=Ka
 have lz:(Qa 64 0).length=64:=Qf
 have lsh:=VR all
 have cst:=FF (rv:=rv) (n:=all.length) ls
 have c0:(hcl rv all.length st)[0]?=some rv:=rfl
 have c1:(hcl rv all.length st)[1]?=some (.int .u64 all.length):=rfl
 have hcl8:2+8≤(hcl rv all.length st).length:=by rw [He]; omega
 obtain ⟨va,vc,rfl⟩:=hr'.shape
 generalize (all.drop (128*(all.length/128))).length=rl at *
 have fl1:fillL [Value.slice none 0 0,.int .u64 0] [(0,1,.slice va rl vc),(1,1,.int .u64 all.length)]=some [.slice va rl vc,.int .u64 all.length]:=rfl
 have fl2:=ea va rl vc all.length ls
 have fls:fillL [Value.slice none 0 0] [(0,1,s)]=some [s]:=by
  obtain ⟨sa,sc,hsh⟩:=hpart.shape
  rw [hsh]; rfl
 have f0:fillL [] []=some []:=rfl
 have F1:H++[⟨u8s (Qa 64 0),true,true,true,1⟩,⟨[],true,true,true,1⟩]=G:=hG.symm
 have Fx:G.length+l.length=xid:=hxl.symm
 have F2:G++(l++[⟨hcl (.slice va rl vc) all.length st,true,true,true,1⟩])=G2:=by rw [hG2,Qu]; rfl
 have F4:G2++(l3++[⟨[s],true,true,true,1⟩])=G4:=by rw [hG4,Qu]
 have g1:G[hid]?=some ⟨hcl rv all.length st,true,true,true,1⟩:=hhG
 have g2:(G++l)[hid]?=some ⟨hcl rv all.length st,true,true,true,1⟩:=by rw [Qc (by omega)]; exact hhG
 have g5:∀ o:Ob,(G5++[o])[H.length]?=some ⟨u8s (Qa 64 0),true,true,true,1⟩:=fun o=>by rw [Qc (by omega)]; exact hz5
 have g6:∀ o o':Ob,((G5++[o]).set H.length o')[H.length]?=some o':=fun o o'=>Q1 (by rw [Qj]; omega)
 have okcl:(hcl (.slice va rl vc) all.length st).all okVar=true:=by
  show (okVar (.slice va rl vc)&&(okVar (.int .u64 all.length)&&(ns .u64 st).all okVar))=true
  have:(ns .u64 st).all okVar=true:=by
   rw [List.all_eq_true]; intro y hy
   simp only [ns,JB] at hy
   obtain ⟨m,-,rfl⟩:=hy; rfl
  rw [this]; rfl
 rw [Qj] at hw
 simp only [suI,Qo,Qm,QD] at hsu
 have hge:H.length≤H.length+1:=by omega
 generalize hcl rv all.length st=C1,hcl (.slice va rl vc) all.length st=C2,sha all=R,Qa 64 0=Z64 at *
 rw [Zg (fn:=xh) rfl]
 simp only [xh,Qs,quiet,cW,↓pW,reduceCtorEq,seval,-Qb,hz,f0,F1,g1,g2,c0,c1,ha,fl1,cst,hcl8,Qy,Q8,Zj,Q9,fl2,Fx,F2,hp,fls,F4,hw,hm5,hsu,g5,g6,Qq,lz,lsh,Qz,Qf]
theorem bG {xs:List Value} (hp:PV (fun i=>i<H.length) H pv xs) (hP:HParts (fun i=>i<H.length) H xs ps) (hn:xs.length<2^50) (hb:ps.flatten.length<2^49) :
  ∃ l,Z6 T 100 [pv] H=some (.agg (u8s (sha ps.flatten)).toArray,H++l,[]):=by
 obtain ⟨H1,hH1⟩:∃ X,X=H++[⟨u8s (Qa 64 0),true,true,true,1⟩,hob (.slice none 0 0) 0 Ys]:=⟨_,rfl⟩
 have hl1:H1.length=H.length+2:=by rw [hH1]; simp
 have hg1:H1[H.length+1]?=some (hob (.slice none 0 0) 0 Ys):=by rw [hH1,Qh (by omega),Qw]; rfl
 have hz1:H1[H.length]?=some ⟨u8s (Qa 64 0),true,true,true,1⟩:=by rw [hH1,Qh (by omega),Q3]; rfl
 have hf1:∀ i,i<H.length→H1[i]?=H[i]? := fun i hi=>by rw [hH1,Qc hi]
 have hp1:PV (fun i=>i<H.length+1) H1 pv xs:=by
  rcases hp with h | ⟨pid,off,cap,o,h1,h2,h3,h4,h5⟩
  ·exact .inl h
  ·exact .inr ⟨pid,off,cap,o,h1,VU h2,(hf1 _ h2).trans h3,h4,h5⟩
 have hP1:HParts (fun i=>i<H.length+1) H1 xs ps:=by
  clear hn hb hp hp1
  induction hP with
  | nil=>exact .nil
  | cons a _ ih=>exact .cons ⟨a.shape,fun G hG=>a.reads G fun i hi=>(hG i (VU hi)).trans (hf1 i hi),a.lt,a.le⟩ ih
 obtain ⟨H2,M2,hw,s2,f2,l2,m2⟩:=Lj (K:=fun i=>i<H.length+1) (hid:=H.length+1) (fun i hi=>by have:i<H.length+1:=hi; omega) (Uh _) (qA hg1) (by simp) hp1 hP1 hn (by rw [Qm]; omega)
 rw [Qm] at s2
 obtain ⟨H3,hs3,f3,l3⟩:=tX s2 hP.lt hb
 have hm2:Q2 H.length [] M2=[]:=QG fun i hi=>by
  have:¬ i<H.length+1:=m2 i hi
  omega
 have g3:H3[H.length]?=some ⟨u8s (Qa 64 0),true,true,true,1⟩:=by
  rw [f3 _ (by omega),f2 _ (OC _)]; exact hz1
 have hfr:∀ i,i<H.length→(H3.set H.length (⟨u8s (sha ps.flatten),true,true,true,1⟩:Ob))[i]?=H[i]? := fun i hi=>by
  rw [Qt (by omega),f3 _ (by omega),f2 _ (VU hi)]; exact hf1 i hi
 have hle:H.length≤(H3.set H.length (⟨u8s (sha ps.flatten),true,true,true,1⟩:Ob)).length:=by rw [Q0]; omega
 obtain ⟨l,hl⟩:=X7 hle hfr
 refine ⟨l,?_⟩
 rw [←hl]
 have hz:=Ka
 have lz:(Qa 64 0).length=64:=Qf
 have lsh:=VR ps.flatten
 have hnew:=uJ (H++[⟨u8s (Qa 64 0),true,true,true,1⟩])
 have e1:(H++[(⟨u8s (Qa 64 0),true,true,true,1⟩:Ob)]).length=H.length+1:=by simp
 rw [e1,Qu,Qo,Qm,←hH1] at hnew
 have g4:∀ o:Ob,(H3.set H.length o)[H.length]?=some o:=fun o=>Q1 (by omega)
 generalize sha ps.flatten=R,Qa 64 0=Z64 at *
 rw [Zg (fn:=xu) rfl]
 simp only [xu,Qs,quiet,cW,↓pW,reduceCtorEq,seval,-Qb,hz,hnew,hw,hm2,hs3,g3,g4,Qy,Q8,Zj,Q9,Qq,lz,lsh,Qz,Qf]
theorem P3 (p:Go.Cv.Pt Go.Fp.P Go.Fp.d):JZ p Ko=p:=Go.Cv.add_zero Go.Fp.fld p
theorem LS (p:Go.Cv.Pt Go.Fp.P Go.Fp.d):JZ p p.neg=Ko:=Go.Cv.add_neg Go.Fp.fld p
theorem LQ (a b:Nat) (p:Go.Cv.Pt Go.Fp.P Go.Fp.d):Jq (a+b) p=JZ (Jq a p) (Jq b p):=Go.Cv.mul_add Go.Fp.fld a b p
theorem DP (a b:Nat) (p:Go.Cv.Pt Go.Fp.P Go.Fp.d):Jq (a*b) p=Jq a (Jq b p):=Go.Cv.Ty Go.Fp.fld a b p
theorem LP {l:Nat} {p:Go.Cv.Pt Go.Fp.P Go.Fp.d} (hl:Jq l p=Ko) (k:Nat):Jq (k%l) p=Jq k p:=Go.Cv.mul_mod Go.Fp.fld hl k
theorem Ff (k:Nat):Jq k Ko=Ko:=Go.Cv.mul_zero Go.Fp.fld k
abbrev LtN (n:Nat):Nat→Prop:=fun i=>i<n
theorem HPart.arr {n id off m c:Nat} {H:List Ob} {b:List Nat} {w e:Bool} {s:Nat} (hid:id<n) (h:H[id]?=some ⟨u8s b,true,w,e,s⟩) (hb:∀ y∈b,y<256) (hl:off+m≤b.length) (hm:m≤2^47-4096):HPart (LtN n) H (.slice (some ⟨id,off,none⟩) m c) ((b.drop off).take m):=by
 have hlen:((b.drop off).take m).length=m:=by rw [Q4,QP]; omega
 refine ⟨⟨_,_,by rw [hlen]⟩,fun G hG => ?_,fun y hy=>hb y (ZW (QU hy)),by rw [hlen]; omega⟩
 have hg:=(hG id hid).trans h
 rw [hlen]
 simp [elemsOf,Zy hg rfl,Qq,hl]
 simp [u8s,List.map_take,List.map_drop]
theorem HPart.whole {n id c:Nat} {H:List Ob} {b:List Nat} {w e:Bool} {s:Nat} (hid:id<n) (h:H[id]?=some ⟨u8s b,true,w,e,s⟩) (hb:∀ y∈b,y<256) (hm:b.length≤2^47-4096):HPart (LtN n) H (.slice (some ⟨id,0,none⟩) b.length c) b:=by
 have:=HPart.arr (off:=0) (m:=b.length) (c:=c) hid h hb (by omega) hm
 rwa [ZD,List.take_length] at this
theorem HPart.ext {n m:Nat} {H G:List Ob} {x:Value} {p:List Nat} (h:HPart (LtN n) H x p) (hg:∀ i,i<n→G[i]?=H[i]?) (hnm:n≤m):HPart (LtN m) G x p :=
 ⟨h.shape,fun G' hG'=>h.reads G' fun i hi=>(hG' i (QK hi hnm)).trans (hg i hi),h.lt,h.le⟩
theorem HParts.ext {n m:Nat} {H G:List Ob} {xs:List Value} {ps:List (List Nat)} (h:HParts (LtN n) H xs ps) (hg:∀ i,i<n→G[i]?=H[i]?) (hnm:n≤m):HParts (LtN m) G xs ps:=by
 induction h with
 | nil=>exact .nil
 | cons a _ ih=>exact .cons (a.ext hg hnm) ih
theorem HParts.append {K:Nat→Prop} {H:List Ob} {xs ys:List Value} {ps qs:List (List Nat)} (h:HParts K H xs ps) (k:HParts K H ys qs):HParts K H (xs++ys) (ps++qs):=by
 induction h with
 | nil=>exact k
 | cons a _ ih=>exact .cons a ih
structure Args1 (H:List Ob) (pv:Value) (ps:List (List Nat)) (xs:List Value):Prop where
 inPv:PV (LtN H.length) H pv xs
 parts:HParts (LtN H.length) H xs ps
 few:xs.length<2^40
 len:Go.Ev.lenV pv=some xs.length
 reads:∀ G:List Ob,(∀ i,i<H.length→G[i]?=H[i]?)→elemsOf G 1 xs.length pv=some xs
def Args (H:List Ob) (pv:Value) (ps:List (List Nat)):Prop:=∃ xs,Args1 H pv ps xs
theorem Args.ext {H G:List Ob} {pv:Value} {ps:List (List Nat)} (h:Args H pv ps) (hg:∀ i,i<H.length→G[i]?=H[i]?) (hl:H.length≤G.length):Args G pv ps:=by
 obtain ⟨xs,h1,h2,h3,h4,h5⟩:=h
 refine ⟨xs,?_,h2.ext hg hl,h3,h4,fun G' hG'=>h5 G' fun i hi=>(hG' i (QK hi hl)).trans (hg i hi)⟩
 rcases h1 with h | ⟨pid,off,cap,o,a1,a2,a3,a4,a5⟩
 ·exact .inl h
 ·exact .inr ⟨pid,off,cap,o,a1,QK a2 hl,(hg pid a2).trans a3,a4,a5⟩
theorem Args.app {H l:List Ob} {pv:Value} {ps:List (List Nat)} (h:Args H pv ps):Args (H++l) pv ps:=h.ext (fun i hi=>Qc hi) (by simp)
theorem Args.nothing (H:List Ob):Args H (.slice none 0 0) []:=⟨[],.inl ⟨rfl,rfl⟩,.nil,by decide,rfl,fun _ _=>rfl⟩
theorem Args.arr {H:List Ob} {a n c:Nat} {e:Bool} {s:Nat} {ys:List Value} {qs:List (List Nat)} (ha:H[a]?=some ⟨ys,true,true,e,s⟩) (hn:ys.length=n) (hys:HParts (LtN H.length) H ys qs) (hf:n<2^40):Args H (.slice (some ⟨a,0,none⟩) n c) qs:=by
 subst hn
 refine ⟨ys,.inr ⟨a,0,c,_,rfl,(Qg.1 ha).1,ha,rfl,fun i _=>by rw [QJ]⟩,hys,hf,rfl,fun G hG => ?_⟩
 have hg:=(hG a (Qg.1 ha).1).trans ha
 simp [elemsOf,Zy hg rfl]
theorem GF {ys:List Value} {qs:List (List Nat)} (ha:H[a]?=some ⟨ys,true,true,true,1⟩) (hn:ys.length=n) (hys:HParts (LtN H.length) H ys qs) (hp:Args H pv ps) (h10:n≤10) (hps:ps.length≤1000) :
  ∃ v' l,Jh 1 24 H (.slice (some ⟨a,0,none⟩) n n) pv=some (v',H++l,none,[])∧Args (H++l) v' (qs++ps):=by
 have hAr:Args H (.slice (some ⟨a,0,none⟩) n n) qs:=Args.arr ha hn hys (by omega)
 subst hn
 obtain ⟨xs,hp⟩:=hp
 have h4:liveAt H a=some ⟨ys,true,true,true,1⟩:=Zy ha rfl
 have h8:elemsOf H 1 ys.length (.slice (some ⟨a,0,none⟩) ys.length ys.length)=some ys:=by simp [elemsOf,h4]
 have k1:=hp.len
 have k2:=hp.reads H (fun _ _=>rfl)
 have k3:=hp.few
 have k4:=hp.parts.len
 rcases Jd xs.length with h0 | h0
 ·have hx:xs=[]:=Ji h0
  have hps':ps=[]:=Ji (by rw [hp.parts.len,h0])
  subst hx hps'
  refine ⟨.slice (some ⟨a,0,none⟩) ys.length ys.length,[],?_,by rw [QA,QA]; exact hAr⟩
  rw [ZC] at k1 k2
  simp only [Jh,k1,k2,Qp,if_true,QA]
 ·have h1:¬ xs.length=0:=by omega
  have h2:(ys.length+xs.length)*24≤2^47:=by omega
  have h7:¬ (ys.length+xs.length≤ys.length):=by omega
  refine ⟨.slice (some ⟨H.length,0,none⟩) (ys.length+xs.length) (ys.length+xs.length),[Ob.grown 1 (ys++xs)],?_,?_⟩
  ·simp only [Jh,k1,k2,Qp,if_neg h1,h2,OA,ev,UX,and_self,not_true_eq_false,if_false,if_true,h4,h8,if_neg h7]
  ·refine Args.arr (ys:=ys++xs) (e:=false) (s:=1) (by rw [Qh (Qr _),Q3]; rfl) (by simp) ?_ (by omega)
   exact (hys.ext (fun i hi=>Qc hi) (by simp)).append (hp.parts.ext (fun i hi=>Qc hi) (by simp))
theorem L0 (h:Args H pv ps) (hb:ps.flatten.length<2^49):∃ l,Z6 T 100 [pv] H=some (.agg (u8s (sha ps.flatten)).toArray,H++l,[]):=by
 obtain ⟨xs,h⟩:=h
 have:=h.few
 exact bG h.inPv h.parts (by omega) hb
def MY (b:List Nat):List Nat:=rd (sha b)
theorem UE:(MY b).length=32:=Po
theorem Bi:∀ x∈MY b,x<256:=rd_lt
theorem Ul (h:Args H pv ps) (hb:ps.flatten.length<2^49) :
  ∃ l,Z6 T 48 [pv] H=some (.agg (u8s (MY ps.flatten)).toArray,H++l,[]):=by
 have hz:Qa 32 (Value.int .u8 0)=u8s (dig 256 32 0):=rfl
 have lz:(dig 256 32 0).length=32:=rfl
 have hz64:=Ka
 have lz64:(Qa 64 0).length=64:=Qf
 obtain ⟨l1,h1⟩:=L0 (h.app (l:=[⟨u8s (dig 256 32 0),true,true,true,1⟩])) hb
 have ls:=VR ps.flatten
 have xs:=Dr ps.flatten
 obtain ⟨G,hG⟩:∃ X,X=H++(⟨u8s (dig 256 32 0),true,true,true,1⟩::(l1++[⟨u8s (sha ps.flatten),true,true,true,1⟩,⟨[.slice (some ⟨H.length+(l1.length+1),0,none⟩) 64 64],true,true,true,1⟩])):=⟨_,rfl⟩
 have hGl:G.length=H.length+(l1.length+3):=by rw [hG]; simp
 have hg1:G[H.length+(l1.length+1)]?=some ⟨u8s (sha ps.flatten),true,true,true,1⟩:=by
  rw [hG,Qh (by omega),Qw,Xs,Qh (Qr _),Q3]; rfl
 have hg2:G[H.length+(l1.length+1+1)]?=some ⟨[.slice (some ⟨H.length+(l1.length+1),0,none⟩) 64 64],true,true,true,1⟩:=by
  rw [hG,Qh (by omega),Qw,Xs,Qh (by omega),Qw]; rfl
 have hP:og .u8 G (H.length+(l1.length+1+1)) 0 [sha ps.flatten]:=by
  refine ⟨_,Zy hg2 rfl,fun i p hi => ?_⟩
  cases i with
  | zero =>
   simp at hi; subst hi
   refine ⟨_,rfl,?_⟩
   have:=Sl.mk (k := .u8) (c:=64) (off:=0) (l:=sha ps.flatten) (Zy hg1 rfl) (by simp [Qq]) (fun i x hx=>by rw [QJ]; exact Jk hx)
   rwa [ls] at this
  | succ i=>simp at hi
 obtain ⟨l2,h2⟩:=bU (c:=1) (n:=1) hP rfl (by decide) (by simp [ls]) (by simpa using xs)
 rw [QL,ZG,QA] at h2
 have hfr:∀ i,i<H.length→((G++l2).set H.length (⟨u8s (MY ps.flatten),true,true,true,1⟩:Ob))[i]?=H[i]? := fun i hi=>by
  rw [Qt (by omega),Qc (by omega),hG,Qc hi]
 obtain ⟨l,hl⟩:=X7 (H:=H) (by rw [Q0,Qj]; omega) hfr
 refine ⟨l,?_⟩
 rw [←hl]
 have g4:∀ o:Ob,((G++l2).set H.length o)[H.length]?=some o:=fun o=>Q1 (by rw [Qj]; omega)
 have f1:fillL [Value.slice none 0 0] [(0,1,.slice (some ⟨H.length+(l1.length+1),0,none⟩) 64 64)]=some [.slice (some ⟨H.length+(l1.length+1),0,none⟩) 64 64]:=rfl
 have lr:=UE (b:=ps.flatten)
 rw [show dig 256 32 (num 256 (sha ps.flatten)%ell)=MY ps.flatten from rfl] at h2
 have F1:H++(⟨u8s (dig 256 32 0),true,true,true,1⟩::(l1++[⟨u8s (sha ps.flatten),true,true,true,1⟩,⟨[.slice (some ⟨H.length+(l1.length+1),0,none⟩) 64 64],true,true,true,1⟩]))=G:=hG.symm
 have hg3:(G++l2)[H.length]?=some ⟨u8s (dig 256 32 0),true,true,true,1⟩:=by
  rw [Qc (by omega),hG,Qh (Qr _),Q3]; rfl
 rw [Qu,Qo,Qm] at h1
 generalize MY ps.flatten=R,sha ps.flatten=S,dig 256 32 0=Z,Qa 64 0=Z64 at *
 rw [Zg (fn:=xz) rfl]
 simp only [xz,Qs,quiet,cW,↓pW,reduceCtorEq,seval,-Qb,hz,hz64,h1,f1,F1,h2,hg3,g4,Qy,Q8,Zj,Q9,Qq,lz,lz64,ls,lr,Qz,Qf]
def scL (s:List Nat):List Nat:=K8 ((sha s).take 32) ((sha s).getD 0 0) ((sha s).getD 31 0)
def pfL (s:List Nat):List Nat:=(sha s).drop 32
theorem Yz (s:List Nat):(scL s).length=32:=by simp [scL,K8,VR]
theorem Bl (s:List Nat):(pfL s).length=32:=by simp [pfL,VR]
theorem BX (s:List Nat) {i:Nat} (h:i<64):∃ x,(sha s)[i]?=some x∧(sha s).getD i 0=x∧x<256:=by
 obtain ⟨x,hx⟩:∃ x,(sha s)[i]?=some x:=⟨_,Qe (by rw [VR]; exact h)⟩
 exact ⟨x,hx,Xl hx,Dr s x (Qn hx)⟩
theorem MV (s:List Nat):∀ y∈scL s,y<256:=by
 obtain ⟨x,-,e1,lx⟩:=BX s (i:=0) (by decide)
 obtain ⟨z,-,e2,lz⟩:=BX s (i:=31) (by decide)
 have h1:x&&&248<256:=XO (n:=8) _ (by decide)
 have h2:(z&&&127)|||64<256:=KU (n:=8) (XO (n:=8) _ (by decide)) (by decide)
 rw [scL,K8,e1,e2]
 exact Vm (Vm (fun y hy=>Dr s y (QU hy)) h1) h2
theorem Px (s:List Nat):∀ y∈pfL s,y<256:=fun y hy=>Dr s y (ZW hy)
theorem KX (n:Nat) (l:List Nat):Zf n (u8s l)=u8s (l.take n):=by simp [u8s,List.map_take]
theorem U3 (n:Nat) (l:List Nat):Jo n (u8s l)=u8s (l.drop n):=by simp [u8s,List.map_drop]
theorem J8 (a b:List Nat):u8s (a++b)=u8s a++u8s b:=by simp [u8s]
theorem Xz {a:List Nat} (la:a.length=32) (lb:b.length=32):fillL (u8s (Qa 64 0)) [(0,32,.agg (u8s a).toArray),(32,32,.agg (u8s b).toArray)]=some (u8s (a++b)):=by
 have l64:(u8s (Qa 64 0)).length=64:=by rw [Qq,Qf]
 have lA:(u8s a).length=32:=by rw [Qq,la]
 have lB:(u8s b).length=32:=by rw [Qq,lb]
 have ca:∀ l:List Nat,(Value.agg (u8s l).toArray).cells.toList=u8s l:=fun _=>rfl
 have cz:∀ l:List Nat,(Value.agg (u8s l).toArray).cells.size=(u8s l).length:=fun _=>rfl
 have ok:∀ l:List Nat,okVar (Value.agg (u8s l).toArray)=true:=fun _=>rfl
 have s1:splice (u8s (Qa 64 0)) 0 (u8s a)=u8s a++(u8s (Qa 64 0)).drop 32:=by
  rw [KQ _ _ _ (by omega),Jz,Qm,QJ,lA]
 have s2:splice (u8s a++(u8s (Qa 64 0)).drop 32) 32 (u8s b)=u8s (a++b):=by
  rw [KQ _ _ _ (by rw [Qj,QP]; omega),ZO (by omega),Ql (by omega),Zw (by rw [Qj,QP]; omega),QA,J8]
 have e1:(u8s a).length=32∧0+32≤(u8s (Qa 64 0)).length∧True:=⟨lA,by omega,trivial⟩
 have e2:(u8s b).length=32∧32+32≤(u8s a++(u8s (Qa 64 0)).drop 32).length∧True:=⟨lB,by rw [Qj,QP]; omega,trivial⟩
 simp only [fillL,ca,cz,ok,s1,s2,if_pos e1,if_pos e2]
theorem NH (ls:s.length=32) (xs:∀ y∈s,y<256):evVal T 64 [.agg (u8s s).toArray]=some (.agg (u8s (scL s++pfL s)).toArray):=by
 have hz64:=Ka
 have lz64:(Qa 64 0).length=64:=Qf
 obtain ⟨G,hG⟩:∃ X,X=[(⟨u8s s,true,true,true,1⟩:Ob),⟨u8s (Qa 64 0),true,true,true,1⟩,⟨[.slice (some ⟨0,0,none⟩) 32 32],true,true,true,1⟩]:=⟨_,rfl⟩
 have hA:Args G (.slice (some ⟨2,0,none⟩) 1 1) [s]:=by
  have hp:HPart (LtN G.length) G (.slice (some ⟨0,0,none⟩) 32 32) s:=by
   have:=HPart.whole (n:=G.length) (H:=G) (id:=0) (c:=32) (b:=s) (by rw [hG]; exact OA _) (by rw [hG]; rfl) xs (by rw [ls]; decide)
   rwa [ls] at this
  exact Args.arr (ys:=[.slice (some ⟨0,0,none⟩) 32 32]) (e:=true) (s:=1) (by rw [hG]; rfl) rfl (.cons hp .nil) (by decide)
 obtain ⟨l,h1⟩:=L0 hA (by simp [ls])
 rw [QL,ZG,QA,hG] at h1
 simp only [Qo,Qm] at h1
 obtain ⟨x,g0,d0,lx⟩:=BX s (i:=0) (by decide)
 obtain ⟨z,g31,d31,lz⟩:=BX s (i:=31) (by decide)
 have lS:=VR s
 have lt32:((sha s).take 32).length=32:=by rw [Q4,lS]; rfl
 obtain ⟨lc,hc⟩:=Oi (a:=(sha s).take 32) (x:=x) (y:=z) lt32 (by rw [QZ,if_pos (by decide)]; exact g0) (by rw [QZ,if_pos (by decide)]; exact g31) lx lz
 have hcv:=W7 hc
 rw [show K8 ((sha s).take 32) x z=scL s by rw [scL,d0,d31]] at hcv
 have hf:=Xz (Yz s) (Bl s)
 have f1:fillL [Value.slice none 0 0] [(0,1,.slice (some ⟨0,0,none⟩) 32 32)]=some [.slice (some ⟨0,0,none⟩) 32 32]:=rfl
 have t1:Zf 32 (u8s (sha s))=u8s ((sha s).take 32):=KX _ _
 have t2:Zf 32 (Jo 32 (u8s (sha s)))=u8s (pfL s):=by rw [U3,KX,Ql (by rw [QP,lS]; decide)]; rfl
 have l1:=Yz s
 have l2:=Bl s
 have l3:(scL s++pfL s).length=64:=by rw [Qj,l1,l2]
 clear hG hA
 generalize (sha s).take 32=S1,pfL s=S2,scL s=S3 at *
 generalize S3++S2=R at *
 generalize sha s=S,Qa 64 0=Z64 at *
 apply QC (fn:=x7) rfl
 simp only [x7,Qs,quiet,cW,↓pW,reduceCtorEq,seval,-Qb,hz64,h1,f1,t1,t2,hcv,hf,Qy,Q8,Zj,Q9,Qq,ls,lS,lz64,l1,l2,l3,lt32,Qz,Qf]
 rfl
def Kp (s:List Nat):List Nat:=enc (Jq (num 256 (scL s)) Xi)
theorem iH (ls:s.length=32) (xs:∀ y∈s,y<256):evVal T 35 [.agg (u8s s).toArray]=some (.agg (u8s (Kp s)).toArray):=by
 have hz:Qa 32 (Value.int .u8 0)=u8s (dig 256 32 0):=rfl
 have lz:(dig 256 32 0).length=32:=rfl
 have hh:=NH ls xs
 obtain ⟨B,hB,rB⟩:=S7
 obtain ⟨P,hP,rP⟩:=Wz rB (Yz s) (MV s)
 have hE:=Mb rP
 have lE:=WX (Jq (num 256 (scL s)) Xi)
 have l1:=Yz s
 have l2:=Bl s
 have t1:Zf 32 (u8s (scL s++pfL s))=u8s (scL s):=by rw [KX,ZO (by omega),Ql (by omega)]
 have l3:(scL s++pfL s).length=64:=by rw [Qj,l1,l2]
 unfold Kp
 generalize enc (Jq (num 256 (scL s)) Xi)=E,scL s++pfL s=R at *
 generalize scL s=S3,dig 256 32 0=Z at *
 apply QC (fn:=xC) rfl
 simp only [xC,Qs,quiet,cW,↓pW,reduceCtorEq,seval,-Qb,hz,hh,hB,hP,hE,t1,Qy,Q8,Zj,Q9,Qq,ls,lz,l1,l3,lE,Qz,Qf,Za]
 rfl
def rL (s m:List Nat):List Nat:=MY (pfL s++m)
def frL (s m:List Nat):List Nat:=enc (Jq (num 256 (rL s m)) Xi)
def chL (front pub m:List Nat):List Nat:=MY (front++(pub++m))
def bkL (s m:List Nat):List Nat:=mA (chL (frL s m) (Kp s) m) (scL s) (rL s m)
def Wn (s m:List Nat):List Nat:=frL s m++bkL s m
theorem Bq (s m:List Nat):(frL s m).length=32:=WX _
theorem IJ (s m:List Nat):∀ y∈frL s m,y<256:=Sn _
theorem VK (s:List Nat):(Kp s).length=32:=WX _
theorem Tw (s:List Nat):∀ y∈Kp s,y<256:=Sn _
theorem IV (s m:List Nat):(bkL s m).length=32:=kS
theorem vD (s m:List Nat):∀ y∈bkL s m,y<256:=mA_lt
theorem Wm (s m:List Nat):(Wn s m).length=64:=by rw [Wn,Qj,Bq,IV]
theorem oQ (s m:List Nat):∀ y∈Wn s m,y<256:=by
 intro y hy
 rcases QF.1 hy with h | h
 ·exact IJ s m y h
 ·exact vD s m y h
theorem FX {b m c:Nat} {fa fb:List Nat} {e:Bool} {s:Nat} (ha:H[a]?=some ⟨u8s fa,true,true,true,1⟩) (hb:H[b]?=some ⟨u8s fb,true,true,e,s⟩) (hn:fa.length=n) (hm:fb.length=m) (h0:0<m) (hs:n+m≤1000) :
  Jh 1 1 H (.slice (some ⟨a,0,none⟩) n n) (.slice (some ⟨b,0,none⟩) m c)=some (.slice (some ⟨H.length,0,none⟩) (n+m) (n+m),H++[⟨u8s (fa++fb),true,true,false,1⟩],none,[]):=by
 have h4:liveAt H a=some ⟨u8s fa,true,true,true,1⟩:=Zy ha rfl
 have k2:elemsOf H 1 m (.slice (some ⟨b,0,none⟩) m c)=some (u8s fb):=by
  simp [elemsOf,Zy hb rfl,Qq,hm]
  exact Ql (by rw [Qq,hm]; exact Qr _)
 have h8:elemsOf H 1 n (.slice (some ⟨a,0,none⟩) n n)=some (u8s fa):=by
  simp [elemsOf,h4,Qq,hn]
  exact Ql (by rw [Qq,hn]; exact Qr _)
 have h1:¬ m=0:=by omega
 have h2:(n+m)*1≤2^47:=by omega
 have h7:¬ (n+m≤n):=by omega
 have k1:Go.Ev.lenV (.slice (some ⟨b,0,none⟩) m c)=some m:=rfl
 simp only [Jh,k1,k2,Qp,if_neg h1,h2,OA,ev,UX,and_self,not_true_eq_false,if_false,if_true,h4,h8,if_neg h7,Ob.grown,←J8]
theorem qL (ls:s.length=32) (xs:∀ y∈s,y<256) (hp:Args H pv ps) (hn:ps.length≤1000) (hb:ps.flatten.length<2^48) :
  ∃ l,Z6 T 31 [.agg (u8s s).toArray,pv] H=some (.agg (u8s (Wn s ps.flatten)).toArray,H++l,[]):=by
 have hz:Qa 32 (Value.int .u8 0)=u8s (dig 256 32 0):=rfl
 have lz:(dig 256 32 0).length=32:=rfl
 have hz64:=Ka
 have lz64:(Qa 64 0).length=64:=Qf
 have hh:=NH ls xs
 have l1:=Yz s
 have l2:=Bl s
 have l3:(scL s++pfL s).length=64:=by rw [Qj,l1,l2]
 have x3:∀ y∈scL s++pfL s,y<256:=fun y hy=>(QF.1 hy).elim (MV s y) (Px s y)
 obtain ⟨B,hB,rB⟩:=S7
 obtain ⟨P,hP,rP⟩:=Wz rB (Yz s) (MV s)
 have hE:=Mb rP
 rw [show enc (Jq (num 256 (scL s)) Xi)=Kp s from rfl] at hE
 have lA:=VK s
 obtain ⟨G1,hG1⟩:∃ X,X=H++[(⟨u8s s,true,true,true,1⟩:Ob),⟨u8s (Qa 64 0),true,true,true,1⟩,⟨u8s (scL s++pfL s),true,true,true,1⟩,⟨u8s (Kp s),true,true,true,1⟩,⟨[.slice (some ⟨H.length+2,32,none⟩) 32 32],true,true,true,1⟩]:=⟨_,rfl⟩
 have lG1:G1.length=H.length+5:=by rw [hG1]; simp
 have gz:G1[H.length+1]?=some ⟨u8s (Qa 64 0),true,true,true,1⟩:=by rw [hG1,Qh (by omega),Qw]; rfl
 have gh:G1[H.length+2]?=some ⟨u8s (scL s++pfL s),true,true,true,1⟩:=by rw [hG1,Qh (by omega),Qw]; rfl
 have gA:G1[H.length+3]?=some ⟨u8s (Kp s),true,true,true,1⟩:=by rw [hG1,Qh (by omega),Qw]; rfl
 have ga:G1[H.length+4]?=some ⟨[.slice (some ⟨H.length+2,32,none⟩) 32 32],true,true,true,1⟩:=by rw [hG1,Qh (by omega),Qw]; rfl
 have hp1:Args G1 pv ps:=by rw [hG1]; exact hp.app
 have part1:HPart (LtN G1.length) G1 (.slice (some ⟨H.length+2,32,none⟩) 32 32) (pfL s):=by
  have:=HPart.arr (n:=G1.length) (off:=32) (m:=32) (c:=32) (by omega) gh x3 (by rw [l3]; decide) (by decide)
  rwa [ZX (by omega),Zw (by omega),Qm,Ql (by omega)] at this
 obtain ⟨v1,k1,ha1,hA1⟩:=GF (n:=1) ga rfl (.cons part1 .nil) hp1 (by decide) hn
 obtain ⟨k2,hr⟩:=Ul hA1 (by rw [ZE,QL,ZG,QA,Qj,l2]; omega)
 rw [ZE,QL,ZG,QA,show MY (pfL s++ps.flatten)=rL s ps.flatten from rfl] at hr
 have lr:(rL s ps.flatten).length=32:=UE
 obtain ⟨G2,hG2⟩:∃ X,X=G1++(k1++k2):=⟨_,rfl⟩
 have lG2:G1.length≤G2.length:=by rw [hG2]; simp
 obtain ⟨P2,hP2,rP2⟩:=Wz rB lr Bi
 have hE2:=Mb rP2
 rw [show enc (Jq (num 256 (rL s ps.flatten)) Xi)=frL s ps.flatten from rfl] at hE2
 have lF:=Bq s ps.flatten
 obtain ⟨G3,hG3⟩:∃ X,X=G2++[(⟨u8s (rL s ps.flatten),true,true,true,1⟩:Ob),⟨u8s (frL s ps.flatten),true,true,true,1⟩,⟨[.slice (some ⟨G2.length+1,0,none⟩) 32 32,.slice (some ⟨H.length+3,0,none⟩) 32 32],true,true,true,1⟩]:=⟨_,rfl⟩
 have lG3:G3.length=G2.length+3:=by rw [hG3]; simp
 have up13:∀ i,i<G1.length→G3[i]?=G1[i]? := fun i hi=>by rw [hG3,Qc (by omega),hG2,Qc hi]
 have hr3:G3[G2.length]?=some ⟨u8s (rL s ps.flatten),true,true,true,1⟩:=by rw [hG3,Qh (Qr _),Q3]; rfl
 have hf3:G3[G2.length+1]?=some ⟨u8s (frL s ps.flatten),true,true,true,1⟩:=by rw [hG3,Qh (by omega),Qw]; rfl
 have harr3:G3[G2.length+2]?=some ⟨[.slice (some ⟨G2.length+1,0,none⟩) 32 32,.slice (some ⟨H.length+3,0,none⟩) 32 32],true,true,true,1⟩:=by rw [hG3,Qh (by omega),Qw]; rfl
 have hp3:Args G3 pv ps:=hp1.ext up13 (by omega)
 have partF:HPart (LtN G3.length) G3 (.slice (some ⟨G2.length+1,0,none⟩) 32 32) (frL s ps.flatten):=by
  have:=HPart.whole (n:=G3.length) (c:=32) (by omega) hf3 (IJ s _) (by rw [lF]; decide)
  rwa [lF] at this
 have partA:HPart (LtN G3.length) G3 (.slice (some ⟨H.length+3,0,none⟩) 32 32) (Kp s):=by
  have:=HPart.whole (n:=G3.length) (c:=32) (by omega) ((up13 _ (by omega)).trans gA) (Tw s) (by rw [lA]; decide)
  rwa [lA] at this
 obtain ⟨v3,k3,ha3,hA3⟩:=GF (n:=2) harr3 rfl (.cons partF (.cons partA .nil)) hp3 (by decide) hn
 obtain ⟨k4,hk⟩:=Ul hA3 (by rw [ZE,QL,QL,ZG,QA,Qj,Qj,lF,lA]; omega)
 rw [ZE,QL,QL,ZG,QA,Qu,show MY (frL s ps.flatten++(Kp s++ps.flatten))=chL (frL s ps.flatten) (Kp s) ps.flatten from rfl] at hk
 have lk:(chL (frL s ps.flatten) (Kp s) ps.flatten).length=32:=UE
 obtain ⟨G4,hG4⟩:∃ X,X=G3++(k3++k4):=⟨_,rfl⟩
 have lG4:G3.length≤G4.length:=by rw [hG4]; simp
 have up34:∀ i,i<G3.length→G4[i]?=G3[i]? := fun i hi=>by rw [hG4,Qc hi]
 obtain ⟨q,hm⟩:=cY lk l1 lr Bi (MV s) Bi
 have hmv:=W7 hm
 rw [show mA (chL (frL s ps.flatten) (Kp s) ps.flatten) (scL s) (rL s ps.flatten)=bkL s ps.flatten from rfl] at hmv
 have lB:=IV s ps.flatten
 obtain ⟨G5,hG5⟩:∃ X,X=G4++[(⟨u8s (chL (frL s ps.flatten) (Kp s) ps.flatten),true,true,true,1⟩:Ob),⟨u8s (bkL s ps.flatten),true,true,true,1⟩]:=⟨_,rfl⟩
 have lG5:G5.length=G4.length+2:=by rw [hG5]; simp
 have hf5:G5[G2.length+1]?=some ⟨u8s (frL s ps.flatten),true,true,true,1⟩:=by rw [hG5,Qc (by omega),up34 _ (by omega)]; exact hf3
 have hb5:G5[G4.length+1]?=some ⟨u8s (bkL s ps.flatten),true,true,true,1⟩:=by rw [hG5,Qh (by omega),Qw]; rfl
 have hap:=FX (c:=32) hf5 hb5 lF lB (by decide) (by decide)
 rw [show frL s ps.flatten++bkL s ps.flatten=Wn s ps.flatten from rfl] at hap
 have lS:=Wm s ps.flatten
 have g4h:∀ l:List Ob,(G4++l)[H.length+2]?=some ⟨u8s (scL s++pfL s),true,true,true,1⟩:=fun l=>by rw [Qc (by omega),up34 _ (by omega),up13 _ (by omega)]; exact gh
 have g4r:∀ l:List Ob,(G4++l)[G2.length]?=some ⟨u8s (rL s ps.flatten),true,true,true,1⟩:=fun l=>by rw [Qc (by omega),up34 _ (by omega)]; exact hr3
 have g5z:∀ l:List Ob,(G5++l)[H.length+1]?=some ⟨u8s (Qa 64 0),true,true,true,1⟩:=fun l=>by rw [Qc (by omega),hG5,Qc (by omega),up34 _ (by omega),up13 _ (by omega)]; exact gz
 have hfr:∀ i,i<H.length→((G5++[(⟨u8s (Wn s ps.flatten),true,true,false,1⟩:Ob)]).set (H.length+1) (⟨u8s (Wn s ps.flatten),true,true,true,1⟩:Ob))[i]?=H[i]? := fun i hi=>by
  rw [Qt (by omega),Qc (by omega),hG5,Qc (by omega),up34 _ (by omega),up13 _ (by omega),hG1,Qc hi]
 obtain ⟨l,hl⟩:=X7 (H:=H) (by rw [Q0,Qj]; omega) hfr
 refine ⟨l,?_⟩
 rw [←hl]
 have g6:∀ o:Ob,((G5++[(⟨u8s (Wn s ps.flatten),true,true,false,1⟩:Ob)]).set (H.length+1) o)[H.length+1]?=some o:=fun o=>Q1 (by rw [Qj]; omega)
 have f1:fillL [Value.slice none 0 0] [(0,1,.slice (some ⟨H.length+2,32,none⟩) 32 32)]=some [.slice (some ⟨H.length+2,32,none⟩) 32 32]:=rfl
 have f2:fillL [Value.slice none 0 0,.slice none 0 0] [(0,1,.slice (some ⟨G2.length+1,0,none⟩) 32 32),(1,1,.slice (some ⟨H.length+3,0,none⟩) 32 32)]=some [.slice (some ⟨G2.length+1,0,none⟩) 32 32,.slice (some ⟨H.length+3,0,none⟩) 32 32]:=rfl
 have t1:Zf 32 (u8s (scL s++pfL s))=u8s (scL s):=by rw [KX,ZO (by omega),Ql (by omega)]
 have F1:H++[(⟨u8s s,true,true,true,1⟩:Ob),⟨u8s (Qa 64 0),true,true,true,1⟩,⟨u8s (scL s++pfL s),true,true,true,1⟩,⟨u8s (Kp s),true,true,true,1⟩,⟨[.slice (some ⟨H.length+2,32,none⟩) 32 32],true,true,true,1⟩]=G1:=hG1.symm
 have F2:G1++(k1++k2)=G2:=hG2.symm
 have F3:G2++[(⟨u8s (rL s ps.flatten),true,true,true,1⟩:Ob),⟨u8s (frL s ps.flatten),true,true,true,1⟩,⟨[.slice (some ⟨G2.length+1,0,none⟩) 32 32,.slice (some ⟨H.length+3,0,none⟩) 32 32],true,true,true,1⟩]=G3:=hG3.symm
 have F4:G3++(k3++k4)=G4:=hG4.symm
 have F5:G4++[(⟨u8s (chL (frL s ps.flatten) (Kp s) ps.flatten),true,true,true,1⟩:Ob),⟨u8s (bkL s ps.flatten),true,true,true,1⟩]=G5:=hG5.symm
 have im1:Q2 H.length [] [G2.length]=[]:=QG (by simp; omega)
 have im2:Q2 H.length [] [G2.length+1]=[]:=QG (by simp; omega)
 have im3:Q2 H.length [] [G4.length]=[]:=QG (by simp; omega)
 have im4:Q2 H.length [] [G4.length+1]=[]:=QG (by simp; omega)
 have ls1:[Value.slice (some ⟨H.length+2,32,none⟩) 32 32].length=1:=rfl
 clear hG1 hG2 hG3 hG4 hG5 hl hfr hm hA1 hA3 partF partA part1
 rw [Qu] at hr hk
 generalize Wn s ps.flatten=S,bkL s ps.flatten=Bk,chL (frL s ps.flatten) (Kp s) ps.flatten=Ck at *
 generalize frL s ps.flatten=Fr,rL s ps.flatten=R,Kp s=A,scL s++pfL s=Hv at *
 generalize scL s=Sc,dig 256 32 0=Z,Qa 64 0=Z64 at *
 rw [Zg (fn:=xD) rfl]
 simp only [xD,Qs,quiet,cW,↓pW,reduceCtorEq,seval,-Qb,hz,hz64,hh,hB,hP,hE,f1,F1,ha1,hr,F2,hP2,hE2,f2,F3,ha3,hk,F4,g4h,g4r,t1,hmv,F5,hap,g5z,g6,im1,im2,im3,im4,Qy,Q8,Zj,Q9,Qq,ls,lz,lz64,l1,l3,lA,lr,lF,lk,lB,lS,Qz,Qf,Za]
def Lh (pub front back m:List Nat) (c:Int):Prop :=
 ((∀ A,enc A≠pub)∧c=60)∨∃ A,enc A=pub ∧
  (((Jq 8 A=Ko∨¬ num 256 back<ell)∧c=70)∨(Jq 8 A≠Ko∧num 256 back<ell ∧
   (((∀ R,enc R≠front)∧c=70)∨∃ R,enc R=front∧c=if JZ (Jq (num 256 back) Xi) (Jq (num 256 (chL front pub m)) A.neg)=R then 0 else 70)))
theorem U2 {k l:List Nat} (lk:k.length=32) (ll:l.length=32):vEq (some (Qa 32 true)) true (.agg (u8s k).toArray) (.agg (u8s l).toArray)=some (.bool (!(k==l))):=by
 rw [DH,Vz lk ll]
 rfl
theorem nH {pub front back:List Nat} (lp:pub.length=32) (xp:∀ y∈pub,y<256) (lf:front.length=32) (xf:∀ y∈front,y<256) (lb:back.length=32) (xb:∀ y∈back,y<256) (hp:Args H pv ps) (hn:ps.length≤1000) (hb:ps.flatten.length<2^48) :
  ∃ l c,Z6 T 27 [.agg (u8s pub).toArray,.agg (u8s (front++back)).toArray,pv] H=some (.int .i64 c,H++l,[])∧Lh pub front back ps.flatten c:=by
 have hz:Qa 32 (Value.int .u8 0)=u8s (dig 256 32 0):=rfl
 have lz:(dig 256 32 0).length=32:=rfl
 have hz20:∃ O,Qa 20 (Value.int .u64 0)=ns .u64 O∧O.length=20:=⟨Qa 20 0,rfl,rfl⟩
 obtain ⟨O,hz20,lO⟩:=hz20
 have rft:∀ (r:List Nat) (c:Int),rf (Value.tuple #[eV r,.int .i64 c])=true:=fun r c=>V9 (a:=eV r) (b := .int .i64 c) (Za r) rfl
 have lS:(front++back).length=64:=by rw [Qj,lf,lb]
 have t1:Zf 32 (u8s (front++back))=u8s front:=by rw [KX,ZO (by omega),Ql (by omega)]
 have t2:Zf 32 (Jo 32 (u8s (front++back)))=u8s back:=by rw [U3,ZX (by omega),Zw (by omega),Qm,KX,Ql (by omega)]
 rcases Og lp xp with ⟨A,a,hA,rA,eA⟩ | ⟨A,hA,lA,hno⟩
 ·have p1:=rA.len
  have ht:=tU rA
  obtain ⟨qc,hcn⟩:=IT lb xb
  have hcv:=W7 hcn
  unfold G8 at hA
  by_cases htiny:Jq 8 a=Ko
  ·rw [decide_eq_true htiny] at ht
   have hx:∃ l,Z6 T 27 [.agg (u8s pub).toArray,.agg (u8s (front++back)).toArray,pv] H=some (.int .i64 70,H++l,[]):=by
    generalize front++back=S at *
    generalize dig 256 32 0=Z at *
    apply J4
    rw [Zg (fn:=R6) rfl]
    simp only [R6,Qs,quiet,cW,↓pW,reduceCtorEq,seval,-Qb,hz,hz20,hA,t1,t2,ht, Qy,Q8,Zj,Q9,Q7,Qq,lp,lf,lb,lS,lz,lO,p1,Qz,Qf,rft,Za]
    rfl
   obtain ⟨l,hx⟩:=hx
   exact ⟨l,70,hx,.inr ⟨a,eA,.inl ⟨.inl htiny,rfl⟩⟩⟩
  ·rw [decide_eq_false htiny] at ht
   by_cases hc:num 256 back<ell
   ·rw [decide_eq_true hc] at hcv
    rcases Og lf xf with ⟨R,r,hR,rR,eR⟩ | ⟨R,hR,lR,hnR⟩
    ·have p2:=rR.len
     unfold G8 at hR
     obtain ⟨G1,hG1⟩:∃ X,X=H++[(⟨u8s pub,true,true,true,1⟩:Ob),⟨u8s (front++back),true,true,true,1⟩,⟨ns .u64 A,true,true,true,1⟩,⟨u8s front,true,true,true,1⟩,⟨u8s back,true,true,true,1⟩,⟨ns .u64 R,true,true,true,1⟩,⟨[.slice (some ⟨H.length+3,0,none⟩) 32 32,.slice (some ⟨H.length,0,none⟩) 32 32],true,true,true,1⟩]:=⟨_,rfl⟩
     have lG1:G1.length=H.length+7:=by rw [hG1]; simp
     have gp:G1[H.length]?=some ⟨u8s pub,true,true,true,1⟩:=by rw [hG1,Qh (by omega),Q3]; rfl
     have gA:G1[H.length+2]?=some ⟨ns .u64 A,true,true,true,1⟩:=by rw [hG1,Qh (by omega),Qw]; rfl
     have gf:G1[H.length+3]?=some ⟨u8s front,true,true,true,1⟩:=by rw [hG1,Qh (by omega),Qw]; rfl
     have gb:G1[H.length+4]?=some ⟨u8s back,true,true,true,1⟩:=by rw [hG1,Qh (by omega),Qw]; rfl
     have ga:G1[H.length+6]?=some ⟨[.slice (some ⟨H.length+3,0,none⟩) 32 32,.slice (some ⟨H.length,0,none⟩) 32 32],true,true,true,1⟩:=by rw [hG1,Qh (by omega),Qw]; rfl
     have hp1:Args G1 pv ps:=by rw [hG1]; exact hp.app
     have partF:HPart (LtN G1.length) G1 (.slice (some ⟨H.length+3,0,none⟩) 32 32) front:=by
      have:=HPart.whole (n:=G1.length) (c:=32) (by omega) gf xf (by rw [lf]; decide)
      rwa [lf] at this
     have partP:HPart (LtN G1.length) G1 (.slice (some ⟨H.length,0,none⟩) 32 32) pub:=by
      have:=HPart.whole (n:=G1.length) (c:=32) (by omega) gp xp (by rw [lp]; decide)
      rwa [lp] at this
     obtain ⟨v1,k1,ha1,hA1⟩:=GF (n:=2) ga rfl (.cons partF (.cons partP .nil)) hp1 (by decide) hn
     obtain ⟨k2,hk⟩:=Ul hA1 (by rw [ZE,QL,QL,ZG,QA,Qj,Qj,lf,lp]; omega)
     rw [ZE,QL,QL,ZG,QA,Qu,show MY (front++(pub++ps.flatten))=chL front pub ps.flatten from rfl,Qu] at hk
     have lk:(chL front pub ps.flatten).length=32:=UE
     obtain ⟨G2,hG2⟩:∃ X,X=G1++(k1++k2):=⟨_,rfl⟩
     have lG2:G1.length≤G2.length:=by rw [hG2]; simp
     have up:∀ i,i<G1.length→∀ l:List Ob,(G2++l)[i]?=G1[i]? := fun i hi l=>by rw [Qc (by omega),hG2,Qc hi]
     obtain ⟨B,hB,rB⟩:=S7
     obtain ⟨X,hX,rX⟩:=Wz rB lb xb
     obtain ⟨NA,hNA,rNA⟩:=uK rA
     obtain ⟨Y,hY,rY⟩:=Wz rNA lk Bi
     obtain ⟨S,dS,hS,ES⟩:=sQ (H:=G2++[(⟨u8s (chL front pub ps.flatten),true,true,true,1⟩:Ob),⟨ns .u64 [X,Y].flatten,true,true,true,1⟩]) (id:=G2.length+1) (n:=2) (xs:=[X,Y]) rfl (by decide) (.cons rX (.cons rY .nil)) (by rw [Qh (by omega),Qw]; rfl)
     simp only [JF,Xp,Qo,Qu,Qm] at hS
     rw [fold2] at ES
     have hE:=Mb ES
     have lE:=WX (JZ (Jq (num 256 back) Xi) (Jq (num 256 (chL front pub ps.flatten)) a.neg))
     have g1:=vt rX rY
     have q1:=rX.len
     have q2:=rY.len
     have q3:=ES.len
     have hq:=U2 lE lf
     have hd:(enc (JZ (Jq (num 256 back) Xi) (Jq (num 256 (chL front pub ps.flatten)) a.neg))==front)=decide (JZ (Jq (num 256 back) Xi) (Jq (num 256 (chL front pub ps.flatten)) a.neg)=r):=by rw [←eR,IL]
     rw [hd] at hq
     have uA:=fun l=>(up _ (by omega) l).trans gA
     have uf:=fun l=>(up _ (by omega) l).trans gf
     have ub:=fun l=>(up _ (by omega) l).trans gb
     have f2:fillL [Value.slice none 0 0,.slice none 0 0] [(0,1,.slice (some ⟨H.length+3,0,none⟩) 32 32),(1,1,.slice (some ⟨H.length,0,none⟩) 32 32)]=some [.slice (some ⟨H.length+3,0,none⟩) 32 32,.slice (some ⟨H.length,0,none⟩) 32 32]:=rfl
     have F1:H++[(⟨u8s pub,true,true,true,1⟩:Ob),⟨u8s (front++back),true,true,true,1⟩,⟨ns .u64 A,true,true,true,1⟩,⟨u8s front,true,true,true,1⟩,⟨u8s back,true,true,true,1⟩,⟨ns .u64 R,true,true,true,1⟩,⟨[.slice (some ⟨H.length+3,0,none⟩) 32 32,.slice (some ⟨H.length,0,none⟩) 32 32],true,true,true,1⟩]=G1:=hG1.symm
     have F2:G1++(k1++k2)=G2:=hG2.symm
     have im1:Q2 H.length [] [G2.length]=[]:=QG (by simp; omega)
     have hfr:∀ l:List Ob,∃ l',G2++l=H++l':=fun l=>⟨_,by rw [hG2,hG1,Qu,Qu]⟩
     by_cases hfin:JZ (Jq (num 256 back) Xi) (Jq (num 256 (chL front pub ps.flatten)) a.neg)=r
     ·rw [decide_eq_true hfin] at hq
      have hx:∃ l,Z6 T 27 [.agg (u8s pub).toArray,.agg (u8s (front++back)).toArray,pv] H=some (.int .i64 0,G2++l,[]):=by
       clear hG1 hG2 hd up hfr
       generalize front++back=SG at *
       generalize dig 256 32 0=Z,chL front pub ps.flatten=Ck at *
       generalize enc (JZ (Jq (num 256 back) Xi) (Jq (num 256 Ck) a.neg))=E at *
       apply J4
       rw [Zg (fn:=R6) rfl]
       simp only [R6,Qs,quiet,cW,↓pW,reduceCtorEq,seval,-Qb,hz,hz20,hA,t1,t2,ht,hcv,hR,f2,F1,ha1,hk,F2,im1,hB,hX,hNA,hY,g1,hS,hE,hq,uA,uf,ub,Qy,Q8,Zj,Q9,Q7,Qq,lp,lf,lb,lS,lz,lO,lk,lE,p1,p2,q1,q2,q3,Qz,Qf,rft,Za]
       rfl
      obtain ⟨l,hx⟩:=hx
      obtain ⟨l',hl'⟩:=hfr l
      rw [hl'] at hx
      exact ⟨l',0,hx,.inr ⟨a,eA,.inr ⟨htiny,hc,.inr ⟨r,eR,by rw [if_pos hfin]⟩⟩⟩⟩
     ·rw [decide_eq_false hfin] at hq
      have hx:∃ l,Z6 T 27 [.agg (u8s pub).toArray,.agg (u8s (front++back)).toArray,pv] H=some (.int .i64 70,G2++l,[]):=by
       clear hG1 hG2 hd up hfr
       generalize front++back=SG at *
       generalize dig 256 32 0=Z,chL front pub ps.flatten=Ck at *
       generalize enc (JZ (Jq (num 256 back) Xi) (Jq (num 256 Ck) a.neg))=E at *
       apply J4
       rw [Zg (fn:=R6) rfl]
       simp only [R6,Qs,quiet,cW,↓pW,reduceCtorEq,seval,-Qb,hz,hz20,hA,t1,t2,ht,hcv,hR,f2,F1,ha1,hk,F2,im1,hB,hX,hNA,hY,g1,hS,hE,hq,uA,uf,ub,Qy,Q8,Zj,Q9,Q7,Qq,lp,lf,lb,lS,lz,lO,lk,lE,p1,p2,q1,q2,q3,Qz,Qf,rft,Za]
       rfl
      obtain ⟨l,hx⟩:=hx
      obtain ⟨l',hl'⟩:=hfr l
      rw [hl'] at hx
      exact ⟨l',70,hx,.inr ⟨a,eA,.inr ⟨htiny,hc,.inr ⟨r,eR,by rw [if_neg hfin]⟩⟩⟩⟩
    ·unfold G8 at hR
     have hx:∃ l,Z6 T 27 [.agg (u8s pub).toArray,.agg (u8s (front++back)).toArray,pv] H=some (.int .i64 70,H++l,[]):=by
      generalize front++back=S at *
      generalize dig 256 32 0=Z at *
      apply J4
      rw [Zg (fn:=R6) rfl]
      simp only [R6,Qs,quiet,cW,↓pW,reduceCtorEq,seval,-Qb,hz,hz20,hA,t1,t2,ht,hcv,hR,lR,Qy,Q8,Zj,Q9,Q7,Qq,lp,lf,lb,lS,lz,lO,p1,Qz,Qf,rft,Za]
      rfl
     obtain ⟨l,hx⟩:=hx
     exact ⟨l,70,hx,.inr ⟨a,eA,.inr ⟨htiny,hc,.inl ⟨hnR,rfl⟩⟩⟩⟩
   ·rw [decide_eq_false hc] at hcv
    have hx:∃ l,Z6 T 27 [.agg (u8s pub).toArray,.agg (u8s (front++back)).toArray,pv] H=some (.int .i64 70,H++l,[]):=by
     generalize front++back=S at *
     generalize dig 256 32 0=Z at *
     apply J4
     rw [Zg (fn:=R6) rfl]
     simp only [R6,Qs,quiet,cW,↓pW,reduceCtorEq,seval,-Qb,hz,hz20,hA,t1,t2,ht,hcv,Qy,Q8,Zj,Q9,Q7,Qq,lp,lf,lb,lS,lz,lO,p1,Qz,Qf,rft,Za]
     rfl
    obtain ⟨l,hx⟩:=hx
    exact ⟨l,70,hx,.inr ⟨a,eA,.inl ⟨.inr hc,rfl⟩⟩⟩
 ·unfold G8 at hA
  have hx:Z6 T 27 [.agg (u8s pub).toArray,.agg (u8s (front++back)).toArray,pv] H=some (.int .i64 60,H++[⟨u8s pub,true,true,true,1⟩,⟨u8s (front++back),true,true,true,1⟩,⟨ns .u64 A,true,true,true,1⟩],[]):=by
   generalize front++back=S at *
   generalize dig 256 32 0=Z at *
   rw [Zg (fn:=R6) rfl]
   simp only [R6,Qs,quiet,cW,↓pW,reduceCtorEq,seval,-Qb,hz,hz20,hA,t1,t2,Qy,Q8,Zj,Q9,Q7,Qq,lp,lS,lz,lO,lA,Qz,Qf,rft,Za]
  exact ⟨_,60,hx,.inl ⟨hno,rfl⟩⟩
end
section
open Go.NT (Pr)
theorem lp1:Pr 531581:=Go.NT.KM (f:=729) (by decide) (by decide) (by decide +kernel)
theorem lp2:Pr 1224481:=Go.NT.KM (f:=1106) (by decide) (by decide) (by decide +kernel)
theorem lp3:Pr 1257559732178653:=Go.NT.UT (q:=531581) (k:=2365697292) (a:=2) (q2:=1224481) (k2:=1027014492) (a2:=2) (f:=51) lp1 lp2 (by decide +kernel)
theorem lp4:Pr 4434155615661930479:=Go.NT.YE (q:=1257559732178653) (k:=3526) (a:=2) (f:=62) lp3 (by decide +kernel)
theorem lp5:Pr 172054593956031949258510691:=Go.NT.YE (q:=4434155615661930479) (k:=38802110) (a:=2) (f:=88) lp4 (by decide +kernel)
theorem lp6:Pr 19757330305831588566944191468367130476339:=Go.NT.YE (q:=172054593956031949258510691) (k:=114831751082918) (a:=2) (f:=134) lp5 (by decide +kernel)
theorem lp7:Pr 276602624281642239937218680557139826668747:=Go.NT.YE (q:=19757330305831588566944191468367130476339) (k:=14) (a:=2) (f:=138) lp6 (by decide +kernel)
theorem Rv:Pr ell:=Go.NT.YE (q:=276602624281642239937218680557139826668747) (k:=26163907866482859529727157400808004) (a:=2) (f:=253) lp7 (by decide +kernel)
theorem sL:Xi≠Ko:=fun h=>So (by rw [h,Ff])
theorem GW (p:Go.Cv.Pt Go.Fp.P Go.Fp.d):Jq 1 p=p:=Go.Cv.mul_one Go.Fp.fld p
theorem Rd {n:Nat} (h:Jq n Xi=Ko):ell∣n:=by
 refine Classical.byContradiction fun hn => ?_
 have hf:=Go.NT.Rs Rv hn
 apply sL
 have e1:ell-1=(ell-2)+1:=by decide +kernel
 have h2:n^(ell-1)=n^(ell-2)*n:=by rw [e1,Zi]
 have h3:Jq (n^(ell-1)) Xi=Ko:=by rw [h2,DP,h,Ff]
 rw [←LP NV,hf,GW] at h3
 exact h3
theorem bc (n:Nat) (h:ell∣8*n):ell∣n:=by
 have hc:Nat.Coprime ell 8:=Go.NT.Pr.coprime Rv (by decide +kernel)
 exact hc.dvd_of_dvd_mul_left h
theorem FQ {a:List Nat} {x y:Nat} (la:a.length=32) (xa:∀ z∈a,z<256) (hx:a[0]?=some x) (hy:a[31]?=some y):num 256 (K8 a x y)%8=0∧2^254≤num 256 (K8 a x y)∧num 256 (K8 a x y)<2^255:=by
 have hx':=xa x (Qn hx)
 have hy':=xa y (Qn hy)
 obtain ⟨t,ht⟩:∃ t,a=x::t:=by
  cases a with
  | nil=>simp at hx
  | cons z t=>simp at hx; subst hx; exact ⟨t,rfl⟩
 have e8:x&&&248=x/8*8:=(by decide +kernel:∀ v,v<256→v&&&248=v/8*8) x hx'
 have e64:(y&&&127)|||64=y%64+64:=(by decide +kernel:∀ v,v<256→(v&&&127)|||64=v%64+64) y hy'
 have h1:=Kj (B:=256) (x&&&248) hx
 have hy2:(a.set 0 (x&&&248))[31]?=some y:=by rw [Qt (by decide)]; exact hy
 have h2:=Kj (B:=256) ((y&&&127)|||64) hy2
 have hV:=num_lt xa
 rw [la] at hV
 have hg:=Kk (by decide:0<256) xa hy
 have hm:num 256 a%256=x:=by
  have:=Kk (by decide:0<256) xa hx
  rwa [ZQ,Jy] at this
 unfold K8
 rw [e8] at h1 h2 ⊢
 rw [e64] at h2 ⊢
 have e31:(256:Nat)^31=452312848583266388373324160190187140051835877600158453279131187530910662656:=by decide
 have e32:(256:Nat)^32=115792089237316195423570985008687907853269984665640564039457584007913129639936:=by decide
 have e254:(2:Nat)^254=28948022309329048855892746252171976963317496166410141009864396001978282409984:=by decide
 have e255:(2:Nat)^255=57896044618658097711785492504343953926634992332820282019728792003956564819968:=by decide
 rw [ZQ,Kv,Kv] at h1
 rw [e31] at h2 hg
 rw [e32] at hV
 rw [e254,e255]
 generalize num 256 ((a.set 0 (x/8*8)).set 31 (y%64+64))=N2,num 256 (a.set 0 (x/8*8))=N1,num 256 a=N at *
 have hyq:N/452312848583266388373324160190187140051835877600158453279131187530910662656=y:=by omega
 have hdm:=Z0 N 452312848583266388373324160190187140051835877600158453279131187530910662656
 rw [hyq] at hdm
 have hmlt:=Q6 N (by decide:0<452312848583266388373324160190187140051835877600158453279131187530910662656)
 have hlow:N%452312848583266388373324160190187140051835877600158453279131187530910662656%256=x:=by omega
 generalize N%452312848583266388373324160190187140051835877600158453279131187530910662656=M at *
 refine ⟨?_,?_,?_⟩<;>omega
theorem oX (s:List Nat):num 256 (scL s)%8=0∧2^254≤num 256 (scL s)∧num 256 (scL s)<2^255:=by
 obtain ⟨x,g0,d0,lx⟩:=BX s (i:=0) (by decide)
 obtain ⟨z,g31,d31,lz⟩:=BX s (i:=31) (by decide)
 unfold scL
 rw [d0,d31]
 exact FQ (by rw [Q4,VR]; rfl) (fun y hy=>Dr s y (QU hy)) (by rw [QZ,if_pos (by decide)]; exact g0) (by rw [QZ,if_pos (by decide)]; exact g31)
theorem gI (s:List Nat):¬ ell∣num 256 (scL s):=by
 obtain ⟨h1,h2,h3⟩:=oX s
 generalize num 256 (scL s)=a at *
 intro hd
 obtain ⟨k,rfl⟩:=hd
 have h7:k<8:=Nat.lt_of_mul_lt_mul_left (a:=ell) (JO h3 (by decide +kernel))
 have h0:0<k:=by
  rcases Jd k with h | h
  ·rw [h,YZ] at h2
   exact absurd h2 (by decide)
  ·exact h
 have hm:ell*k%8=(ell%8)*k%8:=by rw [Nat.mod_mul_mod]
 have he:ell%8=5:=by decide +kernel
 rw [hm,he] at h1
 clear h2 h3 hm he
 omega
end
section
theorem NU {p q:Go.Cv.Pt Go.Fp.P Go.Fp.d} (h:enc p=enc q):p=q:=by
 have:=IL p q
 rw [h] at this
 simp at this
 exact this
theorem iK (k:Nat) (p:Go.Cv.Pt Go.Fp.P Go.Fp.d):Jq k p.neg=(Jq k p).neg:=Go.Cv.mul_neg Go.Fp.fld k p
theorem oP {s m:List Nat} {c:Int} (h:Lh (Kp s) (frL s m) (bkL s m) m c):c=0:=by
 have hA:enc (Jq (num 256 (scL s)) Xi)=Kp s:=rfl
 have hR:enc (Jq (num 256 (rL s m)) Xi)=frL s m:=rfl
 have hb:num 256 (bkL s m)=(num 256 (chL (frL s m) (Kp s) m)*num 256 (scL s)+num 256 (rL s m))%ell:=uH _ _ _
 have hnt:Jq 8 (Jq (num 256 (scL s)) Xi)≠Ko:=fun h=>gI s (bc _ (Rd (by rw [DP]; exact h)))
 have hblt:num 256 (bkL s m)<ell:=by rw [hb]; exact Q6 _ Md
 rcases h with ⟨h,-⟩ | ⟨A,eA,h⟩
 ·exact absurd hA (h _)
 ·have e1:=NU (eA.trans hA.symm)
  rw [e1] at h
  rcases h with h | h
  ·obtain ⟨h,-⟩:=h
   cases h with
   | inl h=>exact absurd h hnt
   | inr h=>exact absurd hblt h
  ·have h:=h.2.2
   rcases h with ⟨h,-⟩ | ⟨R,eR,h⟩
   ·exact absurd hR (h _)
   ·have e2:=NU (eR.trans hR.symm)
    rw [e2] at h
    rw [h,if_pos]
    rw [hb,LP NV,LQ,DP,iK]
    generalize num 256 (chL (frL s m) (Kp s) m)=k
    generalize Jq k (Jq (num 256 (scL s)) Xi)=X
    rw [GX X,Dz,LS,P3]
end
section
open Go.Fp
abbrev PtE:=Go.Cv.Pt Go.Fp.P Go.Fp.d
theorem D2 {a b:Fe} (h:a*b=0):a=0∨b=0:=Go.Cv.Fld.dom fld h
theorem Kf {a b:Fe} (ha:a≠0) (hb:b≠0):a*b≠0:=Go.Cv.Fld.mul_ne fld ha hb
theorem Vf {a b c:Fe} (ha:a≠0) (h:a*b=a*c):b=c:=Go.Cv.Fld.cancel fld ha h
theorem tC:(121666:Fe)*d = -121665:=by decide +kernel
theorem qC:(121666:Fe)≠0:=by decide +kernel
theorem Rt:(2:Fe)≠0:=fJ
theorem nF:(1:Fe)+d≠0:=by decide +kernel
theorem ki {x y:Fe} (h:Go.Cv.On d x y):1+d*y*y≠0:=fun h0=>by
 have h1:y*y=1:=by
  unfold Go.Cv.On at h
  have:x*x*(1+d*y*y)=y*y-1:=by grobner
  rw [h0] at this
  grobner
 exact nF (by grobner)
def dbX (X Z:Fe):Fe:=(X+Z)*(X+Z)*((X-Z)*(X-Z))
def dbZ (X Z:Fe):Fe:=((X+Z)*(X+Z)-(X-Z)*(X-Z))*((X+Z)*(X+Z)+121665*((X+Z)*(X+Z)-(X-Z)*(X-Z)))
def adL (X Z X' Z':Fe):Fe:=(X'-Z')*(X+Z)
def adR (X Z X' Z':Fe):Fe:=(X'+Z')*(X-Z)
def adX (X Z X' Z':Fe):Fe:=(adL X Z X' Z'+adR X Z X' Z')*(adL X Z X' Z'+adR X Z X' Z')
def adZ (u X Z X' Z':Fe):Fe:=u*((adL X Z X' Z'-adR X Z X' Z')*(adL X Z X' Z'-adR X Z X' Z'))
def Fr (X Z:Fe) (p:PtE):Prop:=∃ l:Fe,l≠0∧X=l*(1+p.y)∧Z=l*(1-p.y)
theorem pO {l:Fe} (h:l≠0):l*l*(l*l)≠0:=Kf (Kf h h) (Kf h h)
theorem fe_n8:(8:Fe)≠0:=by decide +kernel
theorem dbl1 {x y D E y3:Fe} (hxE:x*x*E=y*y-1) (hE:E=1+d*y*y) (hD:D=1-d*x*x*y*y) (hy:y3*D=y*y+x*x) (hde:(121666:Fe)*d = -121665):121666*((1+y3)*D*E)=2*(y*y):=by
 have e1:(1+y3)*D*E=(D+(y*y+x*x))*E:=by clear hxE hE hD hde; grobner
 have e2:(1-d*x*x*y*y+(y*y+x*x))*E=(1+y*y)*E+(x*x*E)*(1-d*y*y):=by clear hxE hE hD hde hy e1; grobner
 rw [e1,hD,e2,hxE,hE]
 clear e1 e2 hxE hE hD hy
 grobner
theorem dbl2 {x y D E y3:Fe} (hxE:x*x*E=y*y-1) (hE:E=1+d*y*y) (hD:D=1-d*x*x*y*y) (hy:y3*D=y*y+x*x):(1-y3)*D*E=2*((1-y*y)*E):=by
 have e1:(1-y3)*D*E=(D-(y*y+x*x))*E:=by clear hxE hE hD; grobner
 have e2:(1-d*x*x*y*y-(y*y+x*x))*E=(1-y*y)*E-(x*x*E)*(1+d*y*y):=by clear hxE hE hD hy e1; grobner
 rw [e1,hD,e2,hxE,←hE]
 clear e1 e2 hxE hE hD hy
 grobner
theorem dbl3 (l y w:Fe) (D E y3:Fe) (h:w*((1+y3)*D*E)=2*(y*y)):dbX (l*(1+y)) (l*(1-y))=8*(l*l*(l*l))*(w*(D*E))*(1+y3):=by
 have:8*(l*l*(l*l))*(w*(D*E))*(1+y3)=8*(l*l*(l*l))*(w*((1+y3)*D*E)):=by clear h; grobner
 rw [this,h]
 unfold dbX
 clear this h
 grobner
theorem dbl4 (l y:Fe) (D E y3:Fe) (h:(1-y3)*D*E=2*((1-y*y)*E)) (hE:E=1+d*y*y) (hde:(121666:Fe)*d = -121665):dbZ (l*(1+y)) (l*(1-y))=8*(l*l*(l*l))*(121666*(D*E))*(1-y3):=by
 have:8*(l*l*(l*l))*(121666*(D*E))*(1-y3)=8*(l*l*(l*l))*121666*((1-y3)*D*E):=by clear h hE hde; grobner
 rw [this,h,hE]
 unfold dbZ
 clear this h hE
 grobner
theorem FI {X Z:Fe} {p:PtE} (h:Fr X Z p):Fr (dbX X Z) (dbZ X Z) (JZ p p):=by
 obtain ⟨l,hl,rfl,rfl⟩:=h
 have hon:=p.on
 have hy:=Go.Cv.UW fld p p
 have hD:=Go.Cv.Fld.denM fld hon hon
 have hD2:=ki hon
 have hxE:p.x*p.x*(1+d*p.y*p.y)=p.y*p.y-1:=by
  unfold Go.Cv.On at hon
  clear hy hD hD2
  grobner
 have h1:=dbl1 hxE rfl rfl (y3:=(JZ p p).y) hy tC
 have h2:=dbl2 hxE rfl rfl (y3:=(JZ p p).y) hy
 exact ⟨8*(l*l*(l*l))*(121666*((1-d*p.x*p.x*p.y*p.y)*(1+d*p.y*p.y))),Kf (Kf fe_n8 (pO hl)) (Kf qC (Kf hD hD2)),dbl3 l p.y _ _ _ _ h1,dbl4 l p.y _ _ _ h2 rfl tC⟩
theorem fr_of {X Z:Fe} {y3:Fe} (hc:X*(1-y3)=Z*(1+y3)) (hn:X≠0∨Z≠0):∃ l:Fe,l≠0∧X=l*(1+y3)∧Z=l*(1-y3):=by
 by_cases h1:1+y3=0
 ·have h2:1-y3≠0:=fun h=>Rt (by
   have e:(2:Fe)=(1+y3)+(1-y3):=by clear h h1 hc hn; grobner
   rw [e,h1,h]; rfl)
  have hX:X=0:=by
   rcases D2 (a:=X) (b:=1-y3) (by rw [hc,h1]; grobner) with h | h
   ·exact h
   ·exact absurd h h2
  have hZ:Z≠0:=by
   rcases hn with h | h
   ·exact absurd hX h
   ·exact h
  have hi:=KK h2
  refine ⟨Z*iv (1-y3),Kf hZ (fun h=>VV (by grobner)),?_,?_⟩
  ·rw [hX,h1]; grobner
  ·grobner
 ·have hi:=KK h1
  have hZ:Z=X*iv (1+y3)*(1-y3):=by
   apply Vf h1
   grobner
  have hX:X≠0:=fun h=>by
   rcases hn with h' | h'
   ·exact h' h
   ·exact h' (by rw [hZ,h]; grobner)
  exact ⟨X*iv (1+y3),Kf hX (fun h=>VV (by grobner)),by grobner,hZ⟩
theorem add1 {y1 y2 a b E:Fe} (ha:a=y1*y2) (hE:E=(1+d*y1*y1)*(1+d*y2*y2)) (hbE:b*b*E=(y1*y1-1)*(y2*y2-1)) (hEn:E≠0) :
  (y1+y2)*(y1+y2)*((1-a)*(1-a)-b*b*((1+d*a)*(1+d*a)))=(y2-y1)*(y2-y1)*((1+a)*(1+a)-b*b*((1-d*a)*(1-d*a))):=by
 apply Vf hEn
 have e1:E*((y1+y2)*(y1+y2)*((1-a)*(1-a)-b*b*((1+d*a)*(1+d*a))))=(y1+y2)*(y1+y2)*(E*((1-a)*(1-a))-b*b*E*((1+d*a)*(1+d*a))):=by clear ha hE hbE hEn; grobner
 have e2:E*((y2-y1)*(y2-y1)*((1+a)*(1+a)-b*b*((1-d*a)*(1-d*a))))=(y2-y1)*(y2-y1)*(E*((1+a)*(1+a))-b*b*E*((1-d*a)*(1-d*a))):=by clear ha hE hbE hEn e1; grobner
 rw [e1,e2,hbE,hE,ha]
 clear e1 e2 ha hE hbE hEn
 grobner
theorem add2 {y3 y4 a b e u s t:Fe} (g3:y3*(1-e)=a+b) (g4:y4*(1+e)=a-b) (n3:1-e≠0) (n4:1+e≠0) (n5:1-y4≠0) (hu:u*(1-y4)=1+y4)
  (key:s*((1-a)*(1-a)-(b+e)*(b+e))=t*((1+a)*(1+a)-(b-e)*(b-e))):s*(1-y3)=u*t*(1+y3):=by
 have f1:(1-y4)*(1+e)=1+e-a+b:=by clear g3 n3 n4 n5 hu key; grobner
 have f2:(1+y4)*(1+e)=1+e+a-b:=by clear g3 n3 n4 n5 hu key f1; grobner
 have f3:(1-y3)*(1-e)=1-e-a-b:=by clear g4 n3 n4 n5 hu key f1 f2; grobner
 have f4:(1+y3)*(1-e)=1-e+a+b:=by clear g4 n3 n4 n5 hu key f1 f2 f3; grobner
 apply Vf n5
 apply Vf n3
 apply Vf n4
 have e1:(1+e)*((1-e)*((1-y4)*(s*(1-y3))))=s*(((1-y4)*(1+e))*((1-y3)*(1-e))):=by clear g3 g4 n3 n4 n5 hu key f1 f2 f3 f4; grobner
 have e2:(1+e)*((1-e)*((1-y4)*(u*t*(1+y3))))=t*((u*(1-y4))*(1+e)*((1+y3)*(1-e))):=by clear g3 g4 n3 n4 n5 hu key f1 f2 f3 f4 e1; grobner
 rw [e1,e2,hu,f1,f2,f3,f4]
 clear e1 e2 f1 f2 f3 f4 g3 g4 hu n3 n4 n5
 grobner
theorem mM {X Z X' Z' u:Fe} {p q:PtE} (h1:Fr X Z p) (h2:Fr X' Z' q) (hu:u*(1-(JZ q p.neg).y)=1+(JZ q p.neg).y) (hu0:u≠0) (hf:(JZ q p.neg).y≠1) :
  Fr (adX X Z X' Z') (adZ u X Z X' Z') (JZ p q):=by
 obtain ⟨l,hl,rfl,rfl⟩:=h1
 obtain ⟨m,hm,rfl,rfl⟩:=h2
 have on1:=p.on
 have on2:=q.on
 have hy3:=Go.Cv.UW fld p q
 have hy4:=Go.Cv.UW fld q p.neg
 have hD3:=Go.Cv.Fld.denM fld on1 on2
 have hD4:=Go.Cv.Fld.denP fld on1 on2
 have hE1:=ki on1
 have hE2:=ki on2
 unfold Go.Cv.On at on1 on2
 generalize hg3:(JZ p q).y=y3
 generalize hg4:(JZ q p.neg).y=y4 at hu hf
 rw [show (Go.Cv.Pt.add fld p q).y=y3 from hg3] at hy3
 rw [show (Go.Cv.Pt.add fld q p.neg).y=y4 from hg4] at hy4
 have hnx:p.neg.x = -p.x:=rfl
 have hny:p.neg.y=p.y:=rfl
 rw [hnx,hny] at hy4
 rw [Fr,hg3]
 clear hg3 hg4 hnx hny
 generalize p.x=x1 at *
 generalize p.y=y1 at *
 generalize q.x=x2 at *
 generalize q.y=y2 at *
 have k1:x1*x1*(1+d*y1*y1)=y1*y1-1:=by clear on2 hy3 hy4 hD3 hD4 hE1 hE2 hu hu0 hf hl hm; grobner
 have k2:x2*x2*(1+d*y2*y2)=y2*y2-1:=by clear on1 hy3 hy4 hD3 hD4 hE1 hE2 hu hu0 hf hl hm k1; grobner
 have g3:y3*(1-d*(y1*y2)*(x1*x2))=y1*y2+x1*x2:=by clear on1 on2 hy4 hD3 hD4 hE1 hE2 hu hu0 hf hl hm k1 k2; grobner
 have g4:y4*(1+d*(y1*y2)*(x1*x2))=y1*y2-x1*x2:=by clear on1 on2 hy3 hD3 hD4 hE1 hE2 hu hu0 hf hl hm k1 k2 g3; grobner
 have n3:1-d*(y1*y2)*(x1*x2)≠0:=fun h=>hD3 (by rw [←h]; clear on1 on2 hy3 hy4 hD3 hD4 hE1 hE2 hu hu0 hf hl hm k1 k2 g3 g4 h; grobner)
 have n4:1+d*(y1*y2)*(x1*x2)≠0:=fun h=>hD4 (by rw [←h]; clear on1 on2 hy3 hy4 hD3 hD4 hE1 hE2 hu hu0 hf hl hm k1 k2 g3 g4 n3 h; grobner)
 have hbE:(x1*x2)*(x1*x2)*((1+d*y1*y1)*(1+d*y2*y2))=(y1*y1-1)*(y2*y2-1):=by
  rw [←k1,←k2]
  clear on1 on2 hy3 hy4 hD3 hD4 hE1 hE2 hu hu0 hf hl hm k1 k2 g3 g4 n3 n4
  grobner
 have key:=add1 (a:=y1*y2) rfl rfl hbE (Kf hE1 hE2)
 have n5:1-y4≠0:=fun h=>hf (by clear on1 on2 hy3 hy4 hD3 hD4 hE1 hE2 hu hu0 hf hl hm k1 k2 g3 g4 n3 n4 hbE key; grobner)
 have cross:(y1+y2)*(y1+y2)*(1-y3)=u*((y2-y1)*(y2-y1))*(1+y3):=by
  refine add2 g3 g4 n3 n4 n5 hu ?_
  have e1:(1-y1*y2)*(1-y1*y2)-(x1*x2+d*(y1*y2)*(x1*x2))*(x1*x2+d*(y1*y2)*(x1*x2))=(1-y1*y2)*(1-y1*y2)-x1*x2*(x1*x2)*((1+d*(y1*y2))*(1+d*(y1*y2))):=by
   clear on1 on2 hy3 hy4 hD3 hD4 hE1 hE2 hu hu0 hf hl hm k1 k2 g3 g4 n3 n4 hbE key n5; grobner
  have e2:(1+y1*y2)*(1+y1*y2)-(x1*x2-d*(y1*y2)*(x1*x2))*(x1*x2-d*(y1*y2)*(x1*x2))=(1+y1*y2)*(1+y1*y2)-x1*x2*(x1*x2)*((1-d*(y1*y2))*(1-d*(y1*y2))):=by
   clear on1 on2 hy3 hy4 hD3 hD4 hE1 hE2 hu hu0 hf hl hm k1 k2 g3 g4 n3 n4 hbE key n5 e1; grobner
  rw [e1,e2]
  exact key
 have hnz:(y1+y2)*(y1+y2)≠0∨u*((y2-y1)*(y2-y1))≠0:=by
  clear hbE key cross n3 n4 hD3 hD4 hE1 hE2 hy3 hy4 k1 k2 hl hm g3
  by_cases hs:y1+y2=0
  ·right
   have:y2-y1≠0:=fun h=>by
    have z1:y1=0:=by
     apply Vf Rt
     clear on1 on2 hu hu0 hf g4 n5
     grobner
    have z2:y2=0:=by
     apply Vf Rt
     clear on1 on2 hu hu0 hf g4 n5
     grobner
    have q1:x1*x1 = -1:=by clear on2 hu hu0 hf g4 n5 hs h z2; grobner
    have q2:x2*x2 = -1:=by clear on1 hu hu0 hf g4 n5 q1 hs h z1; grobner
    clear hs h on1 on2
    have hbb:(x1*x2-1)*(x1*x2+1)=0:=by clear hu hu0 hf g4 n5 z1 z2; grobner
    have hy4b:y4 = -(x1*x2):=by clear hu hu0 hf n5 q1 q2 hbb; grobner
    clear g4 q1 q2 z1 z2
    rcases D2 hbb with h' | h'
    ·have:u*2=0:=by clear n5 hf hu0 hbb; grobner
     rcases D2 this with h | h
     ·exact hu0 h
     ·exact Rt h
    ·exact n5 (by clear hu hu0 hf hbb; grobner)
   exact Kf hu0 (Kf this this)
  ·exact .inl (Kf hs hs)
 have n16:(16:Fe)*(l*l*(m*m))≠0:=Kf (by decide +kernel) (Kf (Kf hl hl) (Kf hm hm))
 have eX:adX (l*(1+y1)) (l*(1-y1)) (m*(1+y2)) (m*(1-y2))=16*(l*l*(m*m))*((y1+y2)*(y1+y2)):=by unfold adX adL adR; clear on1 on2 hy3 hy4 hD3 hD4 hE1 hE2 hu hu0 hf hl hm k1 k2 g3 g4 n3 n4 hbE key n5 cross hnz n16; grobner
 have eZ:adZ u (l*(1+y1)) (l*(1-y1)) (m*(1+y2)) (m*(1-y2))=16*(l*l*(m*m))*(u*((y2-y1)*(y2-y1))):=by unfold adZ adL adR; clear on1 on2 hy3 hy4 hD3 hD4 hE1 hE2 hu hu0 hf hl hm k1 k2 g3 g4 n3 n4 hbE key n5 cross hnz n16 eX; grobner
 rw [eX,eZ]
 refine fr_of ?_ ?_
 ·have e1:16*(l*l*(m*m))*((y1+y2)*(y1+y2))*(1-y3)=16*(l*l*(m*m))*((y1+y2)*(y1+y2)*(1-y3)):=by clear on1 on2 hy3 hy4 hD3 hD4 hE1 hE2 hu hu0 hf hl hm k1 k2 g3 g4 n3 n4 hbE key n5 cross hnz n16 eX eZ; grobner
  rw [e1,cross]
  clear on1 on2 hy3 hy4 hD3 hD4 hE1 hE2 hu hu0 hf hl hm k1 k2 g3 g4 n3 n4 hbE key n5 cross hnz n16 eX eZ e1
  grobner
 ·rcases hnz with h | h
  ·exact .inl (Kf n16 h)
  ·exact .inr (Kf n16 h)
end
section
attribute [local congr] JD JU JC JV Jv
variable {B tid u at_ n i L kid vid sid a e f g q:Nat} {sv sh tb:Value} {Hm Hc:List Ob} {b s C w v:List Nat} {x4 x1 x2 x3:Bool}
theorem vB:evVal T 73 [.int .u32 121665]=some (eV [121665,0,0,0,0]):=GS (n:=121665) (by decide)
theorem rU:El [121665,0,0,0,0] (2^52):=U6 (by decide)
theorem rT:fe [121665,0,0,0,0]=121665:=by rw [U5]; rfl
theorem VQ {x y:List Nat} {b:Nat} (hx:El x b) (hy:El y b):Zf 5 (ns .u64 (x++y))=ns .u64 x∧Zf 5 (Jo 5 (ns .u64 (x++y)))=ns .u64 y∧(x++y).length=10:=by
 obtain ⟨x0,x1,x2,x3,x4,rfl,-⟩:=hx.five
 obtain ⟨y0,y1,y2,y3,y4,rfl,-⟩:=hy.five
 exact ⟨rfl,rfl,rfl⟩
set_option maxHeartbeats 2000000 in
theorem aM {ax az bx bz u:List Nat} (Eax:El ax (2^52)) (Eaz:El az (2^52)) (Ebx:El bx (2^52)) (Ebz:El bz (2^52)) (Eu:El u (2^52)) :
  ∃ x z x' z',evVal T 75 [eV (ax++az),eV (bx++bz),eV u]=some (.tuple #[eV (x++z),eV (x'++z')])∧El x (2^52)∧El z (2^52)∧El x' (2^52)∧El z' (2^52) ∧
   fe x=dbX (fe ax) (fe az)∧fe z=dbZ (fe ax) (fe az)∧fe x'=adX (fe ax) (fe az) (fe bx) (fe bz)∧fe z'=adZ (fe u) (fe ax) (fe az) (fe bx) (fe bz):=by
 obtain ⟨cc,hcc⟩:∃ c:List Nat,c=[121665,0,0,0,0]:=⟨_,rfl⟩
 have Ec:El cc (2^52):=by rw [hcc]; exact rU
 have vc:evVal T 73 [.int .u32 121665]=some (eV cc):=by rw [hcc]; exact vB
 have fc:fe cc=121665:=by rw [hcc]; exact rT
 clear hcc
 obtain ⟨r1,s1,hr1,Er1,fr1⟩:=VS (H:=[⟨ns .u64 (ax++az),true,true,true,1⟩,⟨ns .u64 (bx++bz),true,true,true,1⟩,⟨ns .u64 u,true,true,true,1⟩,⟨Qa 10 (.int .u64 0),true,true,true,1⟩,⟨Qa 10 (.int .u64 0),true,true,true,1⟩,⟨ns .u64 (ax++az),true,true,true,1⟩]) (id:=5) Eax Eaz rfl
 simp only [Qo,Qm] at hr1
 obtain ⟨r2,hr2,Er2,fr2⟩:=Bz Eax Eaz
 obtain ⟨r3,hr3,Er3,fr3⟩:=Bz Ebx Ebz
 obtain ⟨r4,hr4,Er4,fr4⟩:=Xf Er3 Er1
 obtain ⟨r5,s5,hr5,Er5,fr5⟩:=VS (H:=[⟨ns .u64 (ax++az),true,true,true,1⟩,⟨ns .u64 (bx++bz),true,true,true,1⟩,⟨ns .u64 u,true,true,true,1⟩,⟨Qa 10 (.int .u64 0),true,true,true,1⟩,⟨Qa 10 (.int .u64 0),true,true,true,1⟩,⟨ns .u64 (ax++az),true,true,true,1⟩,⟨ns .u64 r1,true,true,true,1⟩,⟨ns .u64 s1,true,true,true,1⟩,⟨ns .u64 ax,true,true,true,1⟩,⟨ns .u64 az,true,true,true,1⟩,⟨ns .u64 r1,true,true,true,1⟩,⟨ns .u64 r2,true,true,true,1⟩,⟨ns .u64 (bx++bz),true,true,true,1⟩]) (id:=12) Ebx Ebz rfl
 simp only [Qo,Qm] at hr5
 obtain ⟨r6,hr6,Er6,fr6⟩:=Xf Er5 Er2
 obtain ⟨r7,hr7,Er7,fr7⟩:=Xf Er1 Er1
 obtain ⟨r8,hr8,Er8,fr8⟩:=Xf Er2 Er2
 obtain ⟨r9,hr9,Er9,fr9⟩:=Bz Er7 Er8
 obtain ⟨r10,s10,hr10,Er10,fr10⟩:=VS (H:=[⟨ns .u64 (ax++az),true,true,true,1⟩,⟨ns .u64 (bx++bz),true,true,true,1⟩,⟨ns .u64 u,true,true,true,1⟩,⟨Qa 10 (.int .u64 0),true,true,true,1⟩,⟨Qa 10 (.int .u64 0),true,true,true,1⟩,⟨ns .u64 (ax++az),true,true,true,1⟩,⟨ns .u64 r1,true,true,true,1⟩,⟨ns .u64 s1,true,true,true,1⟩,⟨ns .u64 ax,true,true,true,1⟩,⟨ns .u64 az,true,true,true,1⟩,⟨ns .u64 r1,true,true,true,1⟩,⟨ns .u64 r2,true,true,true,1⟩,⟨ns .u64 (bx++bz),true,true,true,1⟩,⟨ns .u64 r5,true,true,true,1⟩,⟨ns .u64 s5,true,true,true,1⟩,⟨ns .u64 bx,true,true,true,1⟩,⟨ns .u64 bz,true,true,true,1⟩,⟨ns .u64 r4,true,true,true,1⟩,⟨ns .u64 r6,true,true,true,1⟩,⟨ns .u64 r7,true,true,true,1⟩,⟨ns .u64 r8,true,true,true,1⟩,⟨ns .u64 r9,true,true,true,1⟩,⟨ns .u64 (r4++r6),true,true,true,1⟩]) (id:=22) Er4 Er6 rfl
 simp only [Qo,Qm] at hr10
 obtain ⟨r11,hr11,Er11,fr11⟩:=Bz Er4 Er6
 obtain ⟨r12,hr12,Er12,fr12⟩:=Xf Er7 Er8
 obtain ⟨r13,hr13,Er13,fr13⟩:=Xf Ec Er9
 obtain ⟨r14,s14,hr14,Er14,fr14⟩:=VS (H:=[⟨ns .u64 (ax++az),true,true,true,1⟩,⟨ns .u64 (bx++bz),true,true,true,1⟩,⟨ns .u64 u,true,true,true,1⟩,⟨Qa 10 (.int .u64 0),true,true,true,1⟩,⟨Qa 10 (.int .u64 0),true,true,true,1⟩,⟨ns .u64 (ax++az),true,true,true,1⟩,⟨ns .u64 r1,true,true,true,1⟩,⟨ns .u64 s1,true,true,true,1⟩,⟨ns .u64 ax,true,true,true,1⟩,⟨ns .u64 az,true,true,true,1⟩,⟨ns .u64 r1,true,true,true,1⟩,⟨ns .u64 r2,true,true,true,1⟩,⟨ns .u64 (bx++bz),true,true,true,1⟩,⟨ns .u64 r5,true,true,true,1⟩,⟨ns .u64 s5,true,true,true,1⟩,⟨ns .u64 bx,true,true,true,1⟩,⟨ns .u64 bz,true,true,true,1⟩,⟨ns .u64 r4,true,true,true,1⟩,⟨ns .u64 r6,true,true,true,1⟩,⟨ns .u64 r7,true,true,true,1⟩,⟨ns .u64 r8,true,true,true,1⟩,⟨ns .u64 r9,true,true,true,1⟩,⟨ns .u64 (r4++r6),true,true,true,1⟩,⟨ns .u64 r10,true,true,true,1⟩,⟨ns .u64 s10,true,true,true,1⟩,⟨ns .u64 r4,true,true,true,1⟩,⟨ns .u64 r6,true,true,true,1⟩,⟨ns .u64 r10,true,true,true,1⟩,⟨ns .u64 r11,true,true,true,1⟩,⟨ns .u64 (r7++r13),true,true,true,1⟩]) (id:=29) Er7 Er13 rfl
 simp only [Qo,Qm] at hr14
 obtain ⟨r15,hr15,Er15,fr15⟩:=Xf Er9 Er14
 obtain ⟨r16,hr16,Er16,fr16⟩:=Xf Er10 Er10
 obtain ⟨r17,hr17,Er17,fr17⟩:=WS (H:=[⟨ns .u64 (ax++az),true,true,true,1⟩,⟨ns .u64 (bx++bz),true,true,true,1⟩,⟨ns .u64 u,true,true,true,1⟩,⟨Qa 10 (.int .u64 0),true,true,true,1⟩,⟨Qa 10 (.int .u64 0),true,true,true,1⟩,⟨ns .u64 (ax++az),true,true,true,1⟩,⟨ns .u64 r1,true,true,true,1⟩,⟨ns .u64 s1,true,true,true,1⟩,⟨ns .u64 ax,true,true,true,1⟩,⟨ns .u64 az,true,true,true,1⟩,⟨ns .u64 r1,true,true,true,1⟩,⟨ns .u64 r2,true,true,true,1⟩,⟨ns .u64 (bx++bz),true,true,true,1⟩,⟨ns .u64 r5,true,true,true,1⟩,⟨ns .u64 s5,true,true,true,1⟩,⟨ns .u64 bx,true,true,true,1⟩,⟨ns .u64 bz,true,true,true,1⟩,⟨ns .u64 r4,true,true,true,1⟩,⟨ns .u64 r6,true,true,true,1⟩,⟨ns .u64 r7,true,true,true,1⟩,⟨ns .u64 r8,true,true,true,1⟩,⟨ns .u64 r9,true,true,true,1⟩,⟨ns .u64 (r4++r6),true,true,true,1⟩,⟨ns .u64 r10,true,true,true,1⟩,⟨ns .u64 s10,true,true,true,1⟩,⟨ns .u64 r4,true,true,true,1⟩,⟨ns .u64 r6,true,true,true,1⟩,⟨ns .u64 r10,true,true,true,1⟩,⟨ns .u64 r11,true,true,true,1⟩,⟨ns .u64 (r7++r13),true,true,true,1⟩,⟨ns .u64 r14,true,true,true,1⟩,⟨ns .u64 s14,true,true,true,1⟩,⟨ns .u64 r7,true,true,true,1⟩,⟨ns .u64 r13,true,true,true,1⟩,⟨ns .u64 [u,r11,r11].flatten,true,true,true,1⟩]) (id:=34) (n:=3) (xs:=[u,r11,r11]) rfl (by decide) (by simp only [Jj,JI,or_false]; rintro x (rfl | rfl | rfl)<;>assumption) rfl
 simp only [Qo,Qm,JF,Xp,List.foldl_cons,List.foldl_nil] at hr17 fr17
 refine ⟨r12,r15,r16,r17,?_,Er12,Er15,Er16,Er17,?_,?_,?_,?_⟩
 ·obtain ⟨q1,q2,q3⟩:=VQ Eax Eaz
  obtain ⟨q4,q5,q6⟩:=VQ Ebx Ebz
  obtain ⟨q7,q8,q9⟩:=VQ Er12 Er15
  obtain ⟨q10,q11,q12⟩:=VQ Er16 Er17
  have f1:=W5 Eax Eaz
  have f2:=W5 Ebx Ebz
  have f3:=W5 Er4 Er6
  have f4:=W5 Er7 Er13
  have f5:=W5 Er12 Er15
  have f6:=W5 Er16 Er17
  have f7:=FL Eu Er11 Er11
  have Lax:=Eax.len
  have Laz:=Eaz.len
  have Lbx:=Ebx.len
  have Lbz:=Ebz.len
  have Lu:=Eu.len
  have Lr1:=Er1.len
  have Lr2:=Er2.len
  have Lr3:=Er3.len
  have Lr4:=Er4.len
  have Lr5:=Er5.len
  have Lr6:=Er6.len
  have Lr7:=Er7.len
  have Lr8:=Er8.len
  have Lr9:=Er9.len
  have Lr10:=Er10.len
  have Lr11:=Er11.len
  have Lr12:=Er12.len
  have Lr13:=Er13.len
  have Lr14:=Er14.len
  have Lr15:=Er15.len
  have Lr16:=Er16.len
  have Lr17:=Er17.len
  have rt:rf (.tuple #[eV (r12++r15),eV (r16++r17)])=true:=V9 (Za _) (Za _)
  apply QC (fn:=wz) rfl
  simp only [wz,Qs,quiet,cW,↓pW,reduceCtorEq,seval,-Qb,Qf,Qz,Qy,Q8,Zj,Q9,Za,Q7,q1,q2,q3,q4,q5,q6,q7,q8,q9,q10,q11,q12,f1,f2,f3,f4,f5,f6,f7,vc,rt,hr1,hr2,hr3,hr4,hr5,hr6,hr7,hr8,hr9,hr10,hr11,hr12,hr13,hr14,hr15,hr16,hr17,Lax,Laz,Lbx,Lbz,Lu,Lr1,Lr2,Lr3,Lr4,Lr5,Lr6,Lr7,Lr8,Lr9,Lr10,Lr11,Lr12,Lr13,Lr14,Lr15,Lr16,Lr17]
  rfl
 ·rw [fr12,fr7,fr8,fr1,fr2]; rfl
 ·rw [fr15,fr14,fr13,fr9,fr7,fr8,fr1,fr2,fc]; rfl
 ·rw [fr16,fr10,fr4,fr6,fr3,fr1,fr5,fr2]; rfl
 ·rw [fr17,fr11,fr4,fr6,fr3,fr1,fr5,fr2]
  unfold adZ adL adR
  grobner
def Pb (n p i:Nat) (ex:Env):St:=⟨[(0,.int .i64 n),(3,.int .u64 p),(4,.int .i64 i)]++ex,[],[]⟩
theorem pP (h:n<64):2^n<18446744073709551616:=Nat.pow_lt_pow_right (by decide:1<2) (m:=n) (n:=64) h
theorem gW (hn:n<64) (hi:i<n):Q5 T 0 Mw (Pb n (2^i) i [])=some (.normal,Pb n (2^(i+1)) (i+1) []):=by
 have e1:((i:Int)<(n:Int))=True:=eq_true (by omega)
 have w1:IntKind.i64.wrap ((i:Int)+1)=((i+1:Nat):Int):=Zu (n:=i+1) (by omega)
 have hlt:2^(i+1)<18446744073709551616:=pP (by omega)
 have w2:IntKind.u64.wrap (((2^i:Nat):Int)*2)=((2^(i+1):Nat):Int):=by
  rw [show (((2^i:Nat):Int)*2)=((2^(i+1):Nat):Int) by rw [Zi]; exact (Xc _ _).symm,Dg,Qv hlt]
 generalize 2^(i+1)=q at *
 generalize 2^i=p at *
 generalize i+1=i1 at *
 simp only [Pb,Mw,Qs,quiet,cW,↓pW,reduceCtorEq,seval,-Qb,e1,w1,w2]
theorem Ai (hn:n<64):evVal T 144 [.int .i64 n]=some (.int .u64 ((2^n:Nat):Int)):=by
 have hb:=Jf (T:=T) (base:=0) (id:=0) (body:=Mw) (fun i=>Pb n (2^i) i []) (s':=Pb n (2^n) n [(7,.bool false)]) n
  (fun i hi=>gW hn hi) (by
   have e1:((n:Int)<(n:Int))=False:=eq_false (by omega)
   generalize 2^n=p at *
   simp only [Pb,Mw,Qs,quiet,cW,↓pW,reduceCtorEq,seval,-Qb,e1])
 generalize 2^n=p at *
 simp only [Pb,Qo,Qm,ZQ,QD,KP] at hb
 apply QC (fn:=wN) rfl
 simp only [wN,Qs,quiet,cW,↓pW,reduceCtorEq,seval,-Qb,hb]
 rfl
theorem Uk {x r:Nat} (hx:x<18446744073709551616) (hr:0<r) (hr':r≤63):evVal T 143 [.int .u64 x,.int .i64 r,.int .i64 64]=some (.int .u64 (JQ x r:Nat)):=by
 have h1:=Ai (n:=r) (by omega)
 have h2:=Ai (n:=64-r) (by omega)
 have hsub:IntKind.i64.wrap (64-(r:Int))=((64-r:Nat):Int):=by rw [show (64:Int)-(r:Int)=((64-r:Nat):Int) by omega]; exact Zu (by omega)
 have hp:0<2^r:=Xa (by decide)
 have hz:(((2^r:Nat):Int)=0)=False:=eq_false (by omega)
 have hd:((x:Nat):Int).tdiv ((2^r:Nat):Int)=((x/2^r:Nat):Int):=rfl
 have hd':IntKind.u64.wrap ((x/2^r:Nat):Int)=((x/2^r:Nat):Int):=by rw [Dg,Qv (Js (JJ _ _) hx)]
 have hm:IntKind.u64.wrap ((x:Int)*((2^(64-r):Nat):Int))=((x*2^(64-r)%18446744073709551616:Nat):Int):=by rw [←Xc,Dg]
 have hrot:x/2^r+x*2^(64-r)%18446744073709551616=JQ x r:=rfl
 have ha:IntKind.u64.wrap (((x/2^r:Nat):Int)+((x*2^(64-r)%18446744073709551616:Nat):Int))=((JQ x r:Nat):Int):=by
  rw [Wk,hrot,Qv (XC hx hr hr')]
 generalize JQ x r=R at *
 generalize x*2^(64-r)%18446744073709551616=M at *
 generalize x/2^r=D at *
 generalize 2^(64-r)=A at *
 generalize 2^r=B at *
 generalize 64-r=q at *
 apply QC (fn:=wO) rfl
 simp only [wO,Qs,quiet,cW,↓pW,reduceCtorEq,seval,-Qb,h1,h2,hsub,hz,hd,hd',hm,ha]
 rfl
theorem A8 (x:Nat):evVal T 145 [.int .u64 x,.int .i64 64]=some (.int .u64 (x:Nat)):=by
 apply QC (fn:=wM) rfl
 simp only [wM,Qs,quiet,cW,↓pW,reduceCtorEq,seval,-Qb]
 rfl
theorem Tz {b c:Nat} (ha:a<18446744073709551616) (hb:b<18446744073709551616) (hc:c<18446744073709551616):evVal T 142 [.int .u64 a,.int .u64 b,.int .u64 c]=some (.int .u64 ((a^^^b^^^c:Nat):Int)):=by
 have h1:=YA ha hb
 have h2:=YA (VH ha hb) hc
 generalize a^^^b^^^c=R at *
 generalize a^^^b=q at *
 apply QC (fn:=wP) rfl
 simp only [wP,Qs,quiet,cW,↓pW,reduceCtorEq,seval,-Qb,h1,h2]
 rfl
theorem eo (he:e<2^64):(e&&&f)|||((2^64-1-e)&&&g)=(e&&&f)^^^(((2^64-1)^^^e)&&&g):=by
 apply Nat.eq_of_testBit_eq
 intro i
 have h1:(2^64-1-e).testBit i=(decide (i<64) && !e.testBit i):=by
  rw [show 2^64-1-e=2^64-(e+1) by omega,Nat.testBit_two_pow_sub_succ he]
 have h2:((2^64-1)^^^e).testBit i=(decide (i<64) ^^ e.testBit i):=by
  rw [SD,Nat.testBit_two_pow_sub_one]
 have h3:e.testBit i=true→i<64:=fun h=>by
  rcases ZF i 64 with k | k
  ·exact k
  ·rw [Nat.testBit_lt_two_pow (QK he (Zr (by decide) k))] at h; cases h
 rw [Tm,SD,MH,MH,MH,h1,h2]
 cases he':e.testBit i<;>cases f.testBit i<;>cases g.testBit i<;>simp_all
theorem uU (a b c:Nat):(a&&&b)|||(a&&&c)|||(b&&&c)=maO a b c:=by
 apply Nat.eq_of_testBit_eq
 intro i
 simp only [maO,Tm,SD,MH]
 cases a.testBit i<;>cases b.testBit i<;>cases c.testBit i<;>rfl
theorem ch_or (he:e<18446744073709551616):(e&&&f)|||((18446744073709551615-e)&&&g)=chO e f g:=eo (e:=e) (f:=f) (g:=g) he
theorem bP (H:List Ob):Z6 T 141 [] H=some (.slice (some ⟨H.length,0,none⟩) 80 80,H++[⟨ns .u64 Vu,true,true,true,1⟩],[]):=by
 have hf:=FD
 have l8:(ns .u64 Vu).length=80:=rfl
 rw [Zg (fn:=wQ) rfl]
 simp only [wQ,Qs,quiet,cW,↓pW,reduceCtorEq,seval,-Qb,hf,l8]
def shC (sv:Value):List Value:=[.int .i64 64,.int .i64 80,.int .i64 128,sv,.int .i64 1,.int .i64 8,.int .i64 7,.int .i64 19,.int .i64 61,.int .i64 6,.int .i64 28,.int .i64 34,.int .i64 39,.int .i64 14,.int .i64 18,.int .i64 41]
theorem shC_0 (sv:Value):(shC sv)[0]?=some (.int .i64 64):=rfl
theorem ER (sv:Value):(shC sv)[1]?=some (.int .i64 80):=rfl
theorem th (sv:Value):(shC sv)[2]?=some (.int .i64 128):=rfl
theorem shC_3 (sv:Value):(shC sv)[3]?=some sv:=rfl
theorem SY (sv:Value):(shC sv).length=16:=rfl
def rzI (B:Nat) (x s:Value) (Hc:List Ob) (ex:Env):St:=⟨[(0,x),(3,.pointer (some ⟨B,0,none⟩)),(5,.int .i64 8),(6,s)]++ex,Hc,[]⟩
theorem gP {N:Nat} {x s0:Value} {H1 Hc0:List Ob} {bs:List Nat} (hBN:B<N) (hh:H1[B]?=some ⟨shC sv,true,true,true,1⟩) (hn:bs.length<2^46) (hg0:Grown .u8 N Hc0 s0 (bs++[128])) (hL0:N≤Hc0.length) (hF0:∀ i,i<N→Hc0[i]?=H1[i]?) :
  ∃ s Hc,Q5 T B (.block 0 (.loop Mx)) (rzI B x s0 Hc0 [])=some (.normal,rzI B x s Hc [(48,.bool false)])∧Grown .u8 N Hc s (bs++128::Qa (Va bs.length) 0)∧N≤Hc.length∧∀ i,i<N→Hc[i]?=H1[i]? := by
 have f0:fillL [Value.int .u8 0] [(0,1,.int .u8 0)]=some [.int .u8 0]:=rfl
 have c2:=th sv
 have hz:=DQ bs.length
 obtain ⟨st,hb,s,Hc,rfl,hg,hL,hF⟩:=Zm (T:=T) (base:=B) (id:=0) (body:=Mx)
  (fun j st=>∃ s Hc,st=rzI B x s Hc []∧Grown .u8 N Hc s (bs++128::Qa j 0)∧N≤Hc.length∧∀ i,i<N→Hc[i]?=H1[i]?)
  (Q:=fun st=>∃ s Hc,st=rzI B x s Hc [(48,.bool false)]∧Grown .u8 N Hc s (bs++128::Qa (Va bs.length) 0)∧N≤Hc.length∧∀ i,i<N→Hc[i]?=H1[i]?)
  (Va bs.length) (s:=rzI B x s0 Hc0 []) ⟨_,_,rfl,hg0,hL0,hF0⟩
  (fun j st hj hs=>by
   obtain ⟨s,Hc,rfl,hg,hL,hF⟩:=hs
   have hl:=hg.len
   have e1:(bs++128::Qa j 0).length=bs.length+(1+j):=by simp; omega
   rw [e1] at hl
   obtain ⟨s',H',M,h1,h2,h3,h4,h5⟩:=Yl (x:=0) (bytes:=1) hg hL (by rw [e1]; omega) (by decide)
   have hm:Q2 B [] M=[]:=QG fun i hi=>by have:=h3 i hi; omega
   have hget:Hc[B]?=some ⟨shC sv,true,true,true,1⟩:=(hF B hBN).trans hh
   have w3:IntKind.i64.wrap (((bs.length+(1+j):Nat):Int)+16)=((bs.length+(1+j)+16:Nat):Int):=ZJ (b:=16) (by omega)
   have w4:((bs.length+(1+j)+16:Nat):Int).tmod 128=(((bs.length+(1+j)+16)%128:Nat):Int):=rfl
   have w5:((((bs.length+(1+j)+16)%128:Nat):Int) != 0)=true:=bne_iff_ne.2 (by have:=RF bs.length j hj; omega)
   refine ⟨rzI B x s' H' [],?_,s',H',rfl,by rw [Ye,←Qo,←Qu]; exact h2,h4,fun i hi=>by rw [h5 i hi,hF i hi]⟩
   simp only [QD] at h1
   generalize (bs.length+(1+j)+16)%128=r at *
   generalize bs.length+(1+j)+16=r2 at *
   generalize bs.length+(1+j)=r3 at *
   generalize shC sv=sc at *
   simp only [rzI,Mx,Qs,quiet,cW,↓pW,reduceCtorEq,seval,-Qb,hget,c2,hl,w3,w4,w5,f0,h1,hm])
  (fun st hs=>by
   obtain ⟨s,Hc,rfl,hg,hL,hF⟩:=hs
   have hl:=hg.len
   have e1:(bs++128::Qa (Va bs.length) 0).length=bs.length+(1+Va bs.length):=by simp; omega
   rw [e1] at hl
   have hget:Hc[B]?=some ⟨shC sv,true,true,true,1⟩:=(hF B hBN).trans hh
   have w3:IntKind.i64.wrap (((bs.length+(1+Va bs.length):Nat):Int)+16)=((bs.length+(1+Va bs.length)+16:Nat):Int):=ZJ (b:=16) (by omega)
   have w4:((bs.length+(1+Va bs.length)+16:Nat):Int).tmod 128=0:=by
    have:((bs.length+(1+Va bs.length)+16:Nat):Int).tmod 128=(((bs.length+(1+Va bs.length)+16)%128:Nat):Int):=rfl
    rw [this,An]; rfl
   refine ⟨_,?_,s,Hc,rfl,hg,hL,hF⟩
   generalize bs.length+(1+Va bs.length)+16=r2 at *
   generalize bs.length+(1+Va bs.length)=r3,shC sv=sc at *
   simp only [rzI,Mx,Qs,quiet,cW,↓pW,reduceCtorEq,seval,-Qb,hget,c2,hl,w3,w4])
 exact ⟨s,Hc,hb,hg,hL,hF⟩
def rcI (B:Nat) (s:Value) (Hm:List Ob) (C:List Nat) (m:Nat) (iv:Int) (ex:Env):St:=⟨[(3,.pointer (some ⟨B,0,none⟩)),(5,.int .i64 8),(6,s),(7,.slice (some ⟨Hm.length,0,none⟩) 16 16),(8,.int .u64 m),(9,.int .i64 iv)]++ex,Hm++[⟨u8s C,true,true,true,1⟩],[]⟩
theorem i5 {s:Value} (hB:B≤Hm.length) (lC:C.length=16) (hn:n<18446744073709551616) :
  Q5 T B Ue (rcI B s Hm C n 15 [])=some (.normal,rcI B s Hm (C.set 15 (Wt n 15)) (n/32) 14 []):=by
 have w1:(n:Int).tmod 32=((n%32:Nat):Int):=rfl
 have w2:IntKind.u64.wrap (((n%32:Nat):Int)*8)=((n%32*8:Nat):Int):=by
  rw [show ((n%32:Nat):Int)*8=((n%32*8:Nat):Int) from (Xc _ _).symm,Dg,Qv (by omega)]
 have hp:Wt n 15=n%32*8:=by
  unfold Wt
  rw [show 15-15=0 from rfl,ZQ,Jy]
  omega
 have w3:IntKind.u8.wrap ((n%32*8:Nat):Int)=((n%32*8:Nat):Int):=by rw [Wy,Qv (by omega)]
 have w4:IntKind.u64.wrap ((n:Int).tdiv 32)=((n/32:Nat):Int):=by rw [show ((n:Int).tdiv 32)=((n/32:Nat):Int) from rfl,Dg,Qv (by omega)]
 have hset:=Xg C 15 (n%32*8)
 have im:Q2 B [] [Hm.length]=[]:=QG (by simp; omega)
 have hl:15+1≤(u8s C).length:=by rw [Qq,lC]; decide
 rw [hp]
 generalize n%32*8=d at *
 generalize n%32=r at *
 generalize n/32=m at *
 simp only [rcI,Ue,Qs,quiet,cW,↓pW,reduceCtorEq,seval,-Qb,w1,w2,w3,w4,hset,im,hl]
theorem pI {k:Nat} {s:Value} (hB:B≤Hm.length) (lC:C.length=16) (hk:k<15) (hn:n<18446744073709551616) :
  Q5 T B Ue (rcI B s Hm C n (k:Nat) [])=some (.normal,rcI B s Hm (C.set k (n%256)) (n/256) ((k:Int)-1) []):=by
 have w1:(n:Int).tmod 256=((n%256:Nat):Int):=rfl
 have w3:IntKind.u8.wrap ((n%256:Nat):Int)=((n%256:Nat):Int):=by rw [Wy,Kw]
 have w4:IntKind.u64.wrap ((n:Int).tdiv 256)=((n/256:Nat):Int):=by rw [show ((n:Int).tdiv 256)=((n/256:Nat):Int) from rfl,Dg,Qv (by omega)]
 have w5:IntKind.i64.wrap ((k:Int)-1)=(k:Int)-1:=Zh (by omega) (by omega)
 have e1:(0≤(k:Int))=True:=eq_true (by omega)
 have e2:((k:Int)==15)=false:=beq_eq_false_iff_ne.2 (by omega)
 have e3:((k:Int)<16)=True:=eq_true (by omega)
 have hset:=Xg C k (n%256)
 have im:Q2 B [] [Hm.length]=[]:=QG (by simp; omega)
 have hl:k+1≤(u8s C).length:=by rw [Qq,lC]; omega
 generalize n%256=d at *
 generalize n/256=m at *
 simp only [rcI,Ue,Qs,quiet,cW,↓pW,reduceCtorEq,seval,-Qb,w1,w3,w4,w5,e1,e2,e3,hset,im,hl]
theorem i6 {s:Value} (hB:B≤Hm.length) (hn:n<2^46) :
  Q5 T B (.block 2 (.loop Ue)) (rcI B s Hm (Qa 16 0) n 15 [])=some (.normal,rcI B s Hm ((Jm 16).map (Wt n)) (8*n/256^16) (-1) [(62,.bool false)]):=by
 obtain ⟨st,hb,C,rfl,lC,hC⟩:=Zm (T:=T) (base:=B) (id:=2) (body:=Ue)
  (fun j st=>∃ C m,st=rcI B s Hm C m ((15:Int)-(j:Nat)) []∧C.length=16∧(m=if j=0 then n else 8*n/256^j)∧∀ i,16≤i+j→i<16→C[i]?=some (Wt n i))
  (Q:=fun st=>∃ C,st=rcI B s Hm C (8*n/256^16) (-1) [(62,.bool false)]∧C.length=16∧∀ i,i<16→C[i]?=some (Wt n i))
  16 (s:=rcI B s Hm (Qa 16 0) n 15 []) ⟨_,_,rfl,rfl,rfl,fun i h1 h2=>by omega⟩
  (fun j st hj hs=>by
   obtain ⟨C,m,rfl,lC,hm,hC⟩:=hs
   rcases Jd j with h0 | h0
   ·subst h0
    rw [if_pos rfl] at hm
    subst hm
    refine ⟨_,i5 hB lC (by omega),_,_,rfl,by rw [Q0]; exact lC,by rw [if_neg (by decide),QJ,Nat.pow_one]; omega,fun i h1 h2 => ?_⟩
    have:i=15:=by omega
    subst this
    rw [Q1 (by omega)]
   ·rw [if_neg (by omega)] at hm
    subst hm
    have e:((15:Int)-(j:Nat))=((15-j:Nat):Int):=by omega
    have hlt:8*n/256^j<18446744073709551616:=Js (JJ _ _) (by omega)
    have hp:Wt n (15-j)=8*n/256^j%256:=by unfold Wt; rw [show 15-(15-j)=j by omega]
    have hd:8*n/256^j/256=8*n/256^(j+1):=by rw [QV,Zi]
    have hbd:=pI (s:=s) hB lC (k:=15-j) (by omega) hlt
    rw [←e,←hp,hd] at hbd
    refine ⟨_,hbd,_,_,by rw [show (15:Int)-(j:Nat)-1=(15:Int)-((j+1:Nat):Int) by omega],by rw [Q0]; exact lC,by rw [if_neg (by omega)],fun i h1 h2 => ?_⟩
    by_cases h:i=15-j
    ·subst h; rw [Q1 (by omega)]
    ·rw [Qt (by omega)]; exact hC i (by omega) h2)
  (fun st hs=>by
   obtain ⟨C,m,rfl,lC,hm,hC⟩:=hs
   rw [if_neg (by decide)] at hm
   refine ⟨_,?_,C,rfl,lC,fun i hi=>hC i (by omega) hi⟩
   subst hm
   generalize 8*n/256^16=m at *
   simp only [rcI,Ue,Qs,quiet,cW,↓pW,reduceCtorEq,seval,-Qb])
 have:C=(Jm 16).map (Wt n):=Jn fun i=>by
  by_cases h:i<16
  ·rw [hC i h]; simp [h]
  ·rw [QN (by omega),QN (by simp; omega)]
 rw [←this]
 exact hb
def tuC:List Value:=[.int .i64 1,.int .i64 8,.int .i64 7,.int .i64 19,.int .i64 61,.int .i64 6,.int .i64 28,.int .i64 34,.int .i64 39,.int .i64 14,.int .i64 18,.int .i64 41]
def rhE (B tid L:Nat) (tb sv:Value) (u at_ q:Nat) (i:Int):Env:=[(3,.pointer (some ⟨B,0,none⟩)),(5,.int .i64 8),(6,.slice (some ⟨tid,0,none⟩) L L),(10,tb),(11,sv),(12,.int .i64 64),(13,.pointer (some ⟨u,0,none⟩)),(14,.int .i64 at_),(15,.slice (some ⟨q,0,none⟩) 80 80),(16,.int .i64 i)]
def rhI (B tid L:Nat) (tb sv:Value) (u at_:Nat) (Hm:List Ob) (W:List Nat) (i:Int) (ex:Env):St:=⟨rhE B tid L tb sv u at_ Hm.length i++ex,Hm++[⟨ns .u64 W,true,true,true,1⟩],[]⟩
theorem iD {all:List Nat} (hB:B≤Hm.length) (ht:Hm[tid]?=some ⟨u8s all,true,true,x4,1⟩) (hL:all.length<2^50) (hb:∀ j,j<128→all[at_+j]?=b[j]?) (hbl:b.length=128) (hx:∀ y∈b,y<256) (hat:at_+128≤all.length) (hi:i<16) :
  Q5 T B (.block 8 (.loop My)) (rhI B tid all.length tb sv u at_ Hm (pf 80 (JR b) i) i [(17,.int .i64 0)])=some (.normal,rhI B tid all.length tb sv u at_ Hm (pf 80 (JR b) (i+1)) i [(17,.int .i64 8),(120,.bool false)]):=by
 have hWl:=Yf b
 have h8:((b.drop (8*i)).take 8).length=8:=by rw [Q4,QP]; omega
 have hz:=Ak (L:=JR b) (by omega:i<80) hWl
 have hpl:=Ke hWl (by omega:i≤80)
 have AJ:(pf 80 (JR b) i).set i (be [])=pf 80 (JR b) i:=LB hz
 have hW:=MP (b:=b) hi
 have hstep:=XK hWl (by omega:i<80) hW
 have h:=Jf (T:=T) (base:=B) (id:=8) (body:=My) (fun j=>rhI B tid all.length tb sv u at_ Hm ((pf 80 (JR b) i).set i (be (((b.drop (8*i)).take 8).take j))) i [(17,.int .i64 j)]) (s':=rhI B tid all.length tb sv u at_ Hm (pf 80 (JR b) (i+1)) i [(17,.int .i64 8),(120,.bool false)]) 8
  (fun j hj=>by
   obtain ⟨x,hxj⟩:∃ x,((b.drop (8*i)).take 8)[j]?=some x:=⟨_,Qe (by omega)⟩
   have hxb:b[8*i+j]?=some x:=by
    rw [QZ,if_pos hj,Zt] at hxj; exact hxj
   have hx':=hx x (Qn hxb)
   have hxa:(u8s all)[at_+8*i+j]?=some (.int .u8 (x:Nat)):=Jk (by rw [show at_+8*i+j=at_+(8*i+j) by omega,hb _ (by omega)]; exact hxb)
   have hbel:=Ox j (((b.drop (8*i)).take 8).take j) (by rw [Q4]; omega) (fun y hy=>hx y (ZW (QU (QU hy))))
   have hbes:be (((b.drop (8*i)).take 8).take (j+1))=be (((b.drop (8*i)).take 8).take j)*256+x:=by rw [Z5,hxj]; exact IW _ _
   rw [hbes]
   have h256:(256:Nat)^j≤256^7:=Zr (by decide) (by omega)
   have e7:(256:Nat)^7=72057594037927936:=by decide
   rw [e7] at h256
   generalize be (((b.drop (8*i)).take 8).take j)=a at *
   have hg:((pf 80 (JR b) i).set i a)[i]?=some a:=by rw [Q1 (by rw [hpl]; omega)]
   have hgc:=ZN (k := .u64) hg
   have hss:=Xo .u64 ((pf 80 (JR b) i).set i a) i (a*256+x)
   rw [Wc] at hss
   have hln:((pf 80 (JR b) i).set i a).length=80:=by rw [Q0]; exact hpl
   have w1:IntKind.i64.wrap ((j:Int)+1)=((j+1:Nat):Int):=ZJ (b:=1) (by omega)
   have w2:IntKind.u64.wrap (x:Int)=(x:Int):=YL (by omega)
   have w3:IntKind.u64.wrap ((a:Int)*256)=((a*256:Nat):Int):=by
    rw [show (a:Int)*256=((a*256:Nat):Int) from (Xc _ _).symm]; exact YL (by omega)
   have w4:IntKind.u64.wrap (((a*256:Nat):Int)+(x:Int))=((a*256+x:Nat):Int):=by
    rw [←Int.natCast_add]; exact YL (by omega)
   have w5:IntKind.i64.wrap (8*(i:Int))=((8*i:Nat):Int):=Zu (n:=8*i) (by omega)
   have w6:IntKind.i64.wrap ((at_:Int)+((8*i:Nat):Int))=((at_+8*i:Nat):Int):=ZJ (by omega)
   have w7:IntKind.i64.wrap (((at_+8*i:Nat):Int)+(j:Int))=((at_+8*i+j:Nat):Int):=ZJ (by omega)
   have e1:((j:Int)<8)=True:=eq_true (by omega)
   have e2:((i:Int)<80)=True:=eq_true (by omega)
   have e3:(((at_+8*i+j:Nat):Int)<((all.length:Nat):Int))=True:=eq_true (by omega)
   have hget:(Hm++[⟨ns .u64 ((pf 80 (JR b) i).set i a),true,true,true,1⟩])[tid]?=some ⟨u8s all,true,true,x4,1⟩:=by rw [Qc (Qg.1 ht).1]; exact ht
   have hle:i+1≤(ns .u64 ((pf 80 (JR b) i).set i a)).length:=by rw [Q7,hln]; omega
   have im:Q2 B [] [Hm.length]=[]:=QG (by simp; omega)
   generalize (pf 80 (JR b) i).set i a=O1,(pf 80 (JR b) i).set i (a*256+x)=O2 at *
   generalize hv:a*256+x=v at *
   generalize a*256=v2 at *
   generalize hoo:at_+8*i+j=oo at *
   generalize at_+8*i=o2 at *
   generalize 8*i=o3 at *
   generalize all.length=LL at *
   generalize j+1=j1 at *
   simp only [rhI,rhE,My,Qs,quiet,cW,↓pW,reduceCtorEq,seval,-Qb,e1,e2,e3,w1,w2,w3,w4,w5,w6,w7,hget,hxa,hgc,hss,hle,im])
  (by
   have e8:((b.drop (8*i)).take 8).take 8=(b.drop (8*i)).take 8:=by rw [List.take_take,Nat.min_self]
   rw [e8,hstep]
   generalize pf 80 (JR b) (i+1)=O2 at *
   simp only [rhI,rhE,My,Qs,quiet,cW,↓pW,reduceCtorEq,seval,-Qb])
 rw [Jz,AJ] at h
 exact h
theorem SL:tuC.length=12:=rfl
theorem p7_v:evVal T 144 [.int .i64 7]=some (.int .u64 128):=Ai (n:=7) (by decide)
theorem p6_v:evVal T 144 [.int .i64 6]=some (.int .u64 64):=Ai (n:=6) (by decide)
theorem pJ (hB:B<Hm.length) (hS:Hm[B]?=some ⟨shC sh,true,true,true,1⟩) (hU:Hm[u]?=some ⟨tuC,true,true,true,1⟩) (hb:∀ x∈b,x<256) (hi:16≤i) (hi':i<80) :
  Q5 T B Uf (rhI B tid L tb sv u at_ Hm (pf 80 (JR b) i) i [])=some (.normal,rhI B tid L tb sv u at_ Hm (pf 80 (JR b) (i+1)) ((i+1:Nat):Int) []):=by
 have hWl:=Yf b
 have hW:=MO (b:=b) hi hi'
 have hstep:=XK hWl hi' hW
 have hpl:=Ke hWl (J3 hi')
 obtain ⟨x,hx⟩:∃ x,(JR b)[i-15]?=some x:=⟨_,Qe (by omega)⟩
 obtain ⟨y,hy⟩:∃ x,(JR b)[i-2]?=some x:=⟨_,Qe (by omega)⟩
 obtain ⟨w,hu⟩:∃ x,(JR b)[i-16]?=some x:=⟨_,Qe (by omega)⟩
 obtain ⟨v,hv⟩:∃ x,(JR b)[i-7]?=some x:=⟨_,Qe (by omega)⟩
 have lx:=Tr hb hx
 have ly:=Tr hb hy
 have cx:=ZN (k := .u64) ((YN (n:=80) (by omega:i-15<i) (by omega)).trans hx)
 have cy:=ZN (k := .u64) ((YN (n:=80) (by omega:i-2<i) (by omega)).trans hy)
 have cu:=ZN (k := .u64) ((YN (n:=80) (by omega:i-16<i) (by omega)).trans hu)
 have cv:=ZN (k := .u64) ((YN (n:=80) (by omega:i-7<i) (by omega)).trans hv)
 rw [Xl hx,Xl hy,Xl hu,Xl hv] at hstep
 have r1:evVal T 143 [.int .u64 x,.int .i64 1,.int .i64 64]=some (.int .u64 (JQ x 1:Nat)):=Uk (r:=1) lx (by decide) (by decide)
 have r8:evVal T 143 [.int .u64 x,.int .i64 8,.int .i64 64]=some (.int .u64 (JQ x 8:Nat)):=Uk (r:=8) lx (by decide) (by decide)
 have r19:evVal T 143 [.int .u64 y,.int .i64 19,.int .i64 64]=some (.int .u64 (JQ y 19:Nat)):=Uk (r:=19) ly (by decide) (by decide)
 have r61:evVal T 143 [.int .u64 y,.int .i64 61,.int .i64 64]=some (.int .u64 (JQ y 61:Nat)):=Uk (r:=61) ly (by decide) (by decide)
 have b1:=XC (r:=1) lx (by decide) (by decide)
 have b8:=XC (r:=8) lx (by decide) (by decide)
 have b19:=XC (r:=19) ly (by decide) (by decide)
 have b61:=XC (r:=61) ly (by decide) (by decide)
 have b7:x/2^7<18446744073709551616:=Mf lx
 have b6:y/2^6<18446744073709551616:=Mf ly
 have x2:evVal T 142 [.int .u64 (JQ x 1:Nat),.int .u64 (JQ x 8:Nat),.int .u64 (x/2^7:Nat)]=some (.int .u64 (sg0 x:Nat)):=Tz b1 b8 b7
 have y2:evVal T 142 [.int .u64 (JQ y 19:Nat),.int .u64 (JQ y 61:Nat),.int .u64 (y/2^6:Nat)]=some (.int .u64 (sg1 y:Nat)):=Tz b19 b61 b6
 have p7:=p7_v
 have p6:=p6_v
 have s7:IntKind.u64.wrap ((x:Int).tdiv 128)=((x/2^7:Nat):Int):=YL b7
 have s6:IntKind.u64.wrap ((y:Int).tdiv 64)=((y/2^6:Nat):Int):=YL b6
 have m1:=Wk w (sg0 x)
 have m2:=Wk ((w+sg0 x)%18446744073709551616) v
 have m3:=Wk (((w+sg0 x)%18446744073709551616+v)%18446744073709551616) (sg1 y)
 have hsum:(((w+sg0 x)%18446744073709551616+v)%18446744073709551616+sg1 y)%18446744073709551616=(w+v+sg0 x+sg1 y)%18446744073709551616:=by omega
 rw [hsum] at m3
 have kp:=A8 ((w+v+sg0 x+sg1 y)%18446744073709551616)
 have hset:=Xo .u64 (pf 80 (JR b) i) i ((w+v+sg0 x+sg1 y)%18446744073709551616)
 rw [hstep] at hset
 have e1:((i:Int)<80)=True:=eq_true (by omega)
 have e2:((i:Int)<16)=False:=eq_false (by omega)
 have i15:IntKind.i64.wrap ((i:Int)-15)=((i-15:Nat):Int):=by rw [Zh (by omega) (by omega)]; omega
 have i2:IntKind.i64.wrap ((i:Int)-2)=((i-2:Nat):Int):=by rw [Zh (by omega) (by omega)]; omega
 have i16:IntKind.i64.wrap ((i:Int)-16)=((i-16:Nat):Int):=by rw [Zh (by omega) (by omega)]; omega
 have i7:IntKind.i64.wrap ((i:Int)-7)=((i-7:Nat):Int):=by rw [Zh (by omega) (by omega)]; omega
 have j15:(((i-15:Nat):Int)<80)=True:=eq_true (by omega)
 have j2:(((i-2:Nat):Int)<80)=True:=eq_true (by omega)
 have j16:(((i-16:Nat):Int)<80)=True:=eq_true (by omega)
 have j7:(((i-7:Nat):Int)<80)=True:=eq_true (by omega)
 have w3:IntKind.i64.wrap ((i:Int)+1)=((i+1:Nat):Int):=ZJ (b:=1) (by omega)
 have hle:i+1≤(ns .u64 (pf 80 (JR b) i)).length:=by rw [Q7,hpl]; omega
 have im:Q2 B [] [Hm.length]=[]:=QG (by simp; omega)
 have gS:∀ m:List Ob,(Hm++m)[B]?=some ⟨shC sh,true,true,true,1⟩:=fun m=>by rw [Qc hB]; exact hS
 have gU:∀ m:List Ob,(Hm++m)[u]?=some ⟨tuC,true,true,true,1⟩:=fun m=>by rw [Qc (Qg.1 hU).1]; exact hU
 have c1:=ER sh
 have t0:tuC[0]?=some (.int .i64 1):=rfl
 have t1:tuC[1]?=some (.int .i64 8):=rfl
 have t2:tuC[2]?=some (.int .i64 7):=rfl
 have t3:tuC[3]?=some (.int .i64 19):=rfl
 have t4:tuC[4]?=some (.int .i64 61):=rfl
 have t5:tuC[5]?=some (.int .i64 6):=rfl
 clear hsum hstep hW hx hy hu hv hWl hS hU
 generalize pf 80 (JR b) i=O1,pf 80 (JR b) (i+1)=O2,(w+v+sg0 x+sg1 y)%18446744073709551616=z,((w+sg0 x)%18446744073709551616+v)%18446744073709551616=z2 at *
 generalize (w+sg0 x)%18446744073709551616=z3 at *
 generalize sg0 x=gx,sg1 y=gy,JQ x 1=x1v,JQ x 8=x8v,JQ y 19=y19v,JQ y 61=y61v at *
 generalize x/2^7=x7v at *
 generalize y/2^6=y6v at *
 generalize i-15=k15 at *
 generalize i-2=k2 at *
 generalize i-16=k16 at *
 generalize i-7=k7 at *
 generalize hi1:i+1=i1 at *
 generalize tuC=tc at *
 generalize shC sh=sc at *
 simp only [rhI,rhE,Uf,Qs,quiet,cW,↓pW,reduceCtorEq,seval,-Qb,gS,gU,c1,t0,t1,t2,t3,t4,t5,e1,e2,i15,i2,i16,i7,j15,j2,j16,j7,cx,cy,cu,cv,r1,r8,r19,r61,p7,p6,s7,s6,x2,y2,m1,m2,m3,kp,hset,w3,hi1,hle,im]
theorem uj {all:List Nat} (hB:B<Hm.length) (hS:Hm[B]?=some ⟨shC sh,true,true,true,1⟩) (ht:Hm[tid]?=some ⟨u8s all,true,true,x4,1⟩) (hL:all.length<2^50) (hb:∀ j,j<128→all[at_+j]?=b[j]?) (hbl:b.length=128) (hx:∀ y∈b,y<256) (hat:at_+128≤all.length) (hi:i<16) :
  Q5 T B Uf (rhI B tid all.length tb sv u at_ Hm (pf 80 (JR b) i) i [])=some (.normal,rhI B tid all.length tb sv u at_ Hm (pf 80 (JR b) (i+1)) ((i+1:Nat):Int) []):=by
 have h4:=iD (tb:=tb) (sv:=sv) (u:=u) (J3 hB) ht hL hb hbl hx hat hi
 have e1:((i:Int)<80)=True:=eq_true (by omega)
 have e2:((i:Int)<16)=True:=eq_true (by omega)
 have w3:IntKind.i64.wrap ((i:Int)+1)=((i+1:Nat):Int):=ZJ (b:=1) (by omega)
 have gS:∀ m:List Ob,(Hm++m)[B]?=some ⟨shC sh,true,true,true,1⟩:=fun m=>by rw [Qc hB]; exact hS
 have c1:=ER sh
 simp only [rhI,rhE,Qo,Qm] at h4
 generalize pf 80 (JR b) i=O1,pf 80 (JR b) (i+1)=O2 at *
 generalize hi1:i+1=i1 at *
 generalize shC sh=sc at *
 simp only [rhI,rhE,Uf,Qs,quiet,cW,↓pW,reduceCtorEq,seval,-Qb,gS,c1,e1,e2,h4,w3,hi1]
theorem iC {all:List Nat} (hB:B<Hm.length) (hS:Hm[B]?=some ⟨shC sh,true,true,true,1⟩) (hU:Hm[u]?=some ⟨tuC,true,true,true,1⟩) (ht:Hm[tid]?=some ⟨u8s all,true,true,x4,1⟩) (hL:all.length<2^50) (hb:∀ j,j<128→all[at_+j]?=b[j]?) (hbl:b.length=128) (hx:∀ y∈b,y<256) (hat:at_+128≤all.length) :
  Q5 T B (.block 6 (.loop Uf)) (rhI B tid all.length tb sv u at_ Hm (Qa 80 0) 0 [])=some (.normal,rhI B tid all.length tb sv u at_ Hm (JR b) 80 [(113,.bool false)]):=by
 have hWl:=Yf b
 have h:=Jf (T:=T) (base:=B) (id:=6) (body:=Uf) (fun i=>rhI B tid all.length tb sv u at_ Hm (pf 80 (JR b) i) i []) (s':=rhI B tid all.length tb sv u at_ Hm (JR b) 80 [(113,.bool false)]) 80
  (fun i hi=>by
   by_cases h:i<16
   ·exact uj hB hS ht hL hb hbl hx hat h
   ·exact pJ hB hS hU hx (by omega) hi)
  (by
   have gS:∀ m:List Ob,(Hm++m)[B]?=some ⟨shC sh,true,true,true,1⟩:=fun m=>by rw [Qc hB]; exact hS
   have c1:=ER sh
   rw [KC hWl]
   generalize JR b=O2,shC sh=sc at *
   simp only [rhI,rhE,Uf,Qs,quiet,cW,↓pW,reduceCtorEq,seval,-Qb,gS,c1])
 rw [KB] at h
 exact h
def rvE (B tid L kid:Nat) (sv:Value) (u at_ q vid:Nat) (i:Int):Env:=[(3,.pointer (some ⟨B,0,none⟩)),(5,.int .i64 8),(6,.slice (some ⟨tid,0,none⟩) L L),(10,.slice (some ⟨kid,0,none⟩) 80 80),(11,sv),(12,.int .i64 64),(13,.pointer (some ⟨u,0,none⟩)),(14,.int .i64 at_),(15,.slice (some ⟨q,0,none⟩) 80 80),(22,.slice (some ⟨vid,0,none⟩) 8 8),(23,.int .i64 i)]
def rvI (B tid L kid:Nat) (sv:Value) (u at_ q vid:Nat) (i:Int) (Hc:List Ob) (ex:Env):St:=⟨rvE B tid L kid sv u at_ q vid i++ex,Hc,[]⟩
theorem oZ (hS:Hc[B]?=some ⟨shC sh,true,true,true,1⟩) (hU:Hc[u]?=some ⟨tuC,true,true,true,1⟩) (hK:Hc[kid]?=some ⟨ns .u64 Vu,true,true,true,1⟩) (hq:Hc[q]?=some ⟨ns .u64 w,true,true,true,1⟩) (hvo:Hc[vid]?=some ⟨ns .u64 s,true,x1,x2,1⟩) (hw:w.length=80) (hs:s.length=8) (hx:∀ x∈s,x<18446744073709551616) (hi:i<80) :
  Q5 T B Hu (rvI B tid L kid sv u at_ q vid i Hc [])=some (.normal,rvI B tid L kid sv u at_ q Hc.length ((i+1:Nat):Int) (Hc++[⟨ns .u64 (rnd s (Vu.getD i 0) (w.getD i 0)),true,true,true,1⟩]) []):=by
 obtain ⟨a,b,c,d,e,f,g,h,rfl⟩:=eight hs
 obtain ⟨k,hk⟩:∃ k,Vu[i]?=some k:=⟨_,Qe (by rw [UL]; exact hi)⟩
 obtain ⟨v,hv⟩:∃ k,w[i]?=some k:=⟨_,Qe (by omega)⟩
 rw [Xl hk,Xl hv]
 have kc:=ZN (k := .u64) hk
 have vc:=ZN (k := .u64) hv
 have la:=hx a (by simp)
 have lb:=hx b (by simp)
 have lc:=hx c (by simp)
 have le:=hx e (by simp)
 have lf:=hx f (by simp)
 have lg:=hx g (by simp)
 have r14:evVal T 143 [.int .u64 e,.int .i64 14,.int .i64 64]=some (.int .u64 (JQ e 14:Nat)):=Uk (r:=14) le (by decide) (by decide)
 have r18:evVal T 143 [.int .u64 e,.int .i64 18,.int .i64 64]=some (.int .u64 (JQ e 18:Nat)):=Uk (r:=18) le (by decide) (by decide)
 have r41:evVal T 143 [.int .u64 e,.int .i64 41,.int .i64 64]=some (.int .u64 (JQ e 41:Nat)):=Uk (r:=41) le (by decide) (by decide)
 have r28:evVal T 143 [.int .u64 a,.int .i64 28,.int .i64 64]=some (.int .u64 (JQ a 28:Nat)):=Uk (r:=28) la (by decide) (by decide)
 have r34:evVal T 143 [.int .u64 a,.int .i64 34,.int .i64 64]=some (.int .u64 (JQ a 34:Nat)):=Uk (r:=34) la (by decide) (by decide)
 have r39:evVal T 143 [.int .u64 a,.int .i64 39,.int .i64 64]=some (.int .u64 (JQ a 39:Nat)):=Uk (r:=39) la (by decide) (by decide)
 have b14:=XC (r:=14) le (by decide) (by decide)
 have b18:=XC (r:=18) le (by decide) (by decide)
 have b41:=XC (r:=41) le (by decide) (by decide)
 have b28:=XC (r:=28) la (by decide) (by decide)
 have b34:=XC (r:=34) la (by decide) (by decide)
 have b39:=XC (r:=39) la (by decide) (by decide)
 have x2:evVal T 142 [.int .u64 (JQ e 14:Nat),.int .u64 (JQ e 18:Nat),.int .u64 (JQ e 41:Nat)]=some (.int .u64 (Sg1 e:Nat)):=Tz b14 b18 b41
 have x4:evVal T 142 [.int .u64 (JQ a 28:Nat),.int .u64 (JQ a 34:Nat),.int .u64 (JQ a 39:Nat)]=some (.int .u64 (Sg0 a:Nat)):=Tz b28 b34 b39
 have a1:=GG le lf
 have lne:18446744073709551615-e<18446744073709551616:=by omega
 have a2:IntKind.u64.wrap (18446744073709551615-(e:Int))=((18446744073709551615-e:Nat):Int):=Ts (a:=18446744073709551615) (by omega) (by decide)
 have kp1:=A8 (18446744073709551615-e)
 have a3:=GG lne lg
 have a4:Zz .or .u64 ((e&&&f:Nat):Int) (((18446744073709551615-e)&&&g:Nat):Int)=((chO e f g:Nat):Int):=by rw [KD rfl (Kh lf) (Kh lg),ch_or le]
 have a5:=GG la lb
 have a6:=GG la lc
 have a7:=GG lb lc
 have a8:Zz .or .u64 ((a&&&b:Nat):Int) ((a&&&c:Nat):Int)=(((a&&&b)|||(a&&&c):Nat):Int):=KD rfl (Kh lb) (Kh lc)
 have a9:Zz .or .u64 (((a&&&b)|||(a&&&c):Nat):Int) ((b&&&c:Nat):Int)=((maO a b c:Nat):Int):=by rw [KD rfl (KU (n:=64) (Kh lb) (Kh lc)) (Kh lc),uU]
 have m1:=Wk h (Sg1 e)
 have m2:=Wk ((h+Sg1 e)%18446744073709551616) (chO e f g)
 have m3:=Wk (((h+Sg1 e)%18446744073709551616+chO e f g)%18446744073709551616) k
 have m4:=Wk ((((h+Sg1 e)%18446744073709551616+chO e f g)%18446744073709551616+k)%18446744073709551616) v
 have hT1:((((h+Sg1 e)%18446744073709551616+chO e f g)%18446744073709551616+k)%18446744073709551616+v)%18446744073709551616=t1O [a,b,c,d,e,f,g,h] k v:=by
  show _=(h+Sg1 e+chO e f g+k+v)%18446744073709551616
  omega
 rw [hT1] at m4
 have m5:IntKind.u64.wrap ((Sg0 a:Int)+(maO a b c:Int))=((t2O [a,b,c,d,e,f,g,h]:Nat):Int):=Wk (Sg0 a) (maO a b c)
 have m6:=Wk (t1O [a,b,c,d,e,f,g,h] k v) (t2O [a,b,c,d,e,f,g,h])
 have m7:=Wk d (t1O [a,b,c,d,e,f,g,h] k v)
 have hr:rnd [a,b,c,d,e,f,g,h] k v=[(t1O [a,b,c,d,e,f,g,h] k v+t2O [a,b,c,d,e,f,g,h])%18446744073709551616,a,b,c,(d+t1O [a,b,c,d,e,f,g,h] k v)%18446744073709551616,e,f,g]:=rfl
 have hf:=tr ((t1O [a,b,c,d,e,f,g,h] k v+t2O [a,b,c,d,e,f,g,h])%18446744073709551616) a b c ((d+t1O [a,b,c,d,e,f,g,h] k v)%18446744073709551616) e f g
 rw [←hr] at hf
 have kp2:=A8 ((t1O [a,b,c,d,e,f,g,h] k v+t2O [a,b,c,d,e,f,g,h])%18446744073709551616)
 have kp3:=A8 ((d+t1O [a,b,c,d,e,f,g,h] k v)%18446744073709551616)
 have lR:=SZ [a,b,c,d,e,f,g,h] k v
 have e1:((i:Int)<80)=True:=eq_true (by omega)
 have w3:IntKind.i64.wrap ((i:Int)+1)=((i+1:Nat):Int):=ZJ (b:=1) (by omega)
 have g0:(ns .u64 [a,b,c,d,e,f,g,h])[0]?=some (.int .u64 (a:Nat)):=rfl
 have g1:(ns .u64 [a,b,c,d,e,f,g,h])[1]?=some (.int .u64 (b:Nat)):=rfl
 have g2:(ns .u64 [a,b,c,d,e,f,g,h])[2]?=some (.int .u64 (c:Nat)):=rfl
 have g3:(ns .u64 [a,b,c,d,e,f,g,h])[3]?=some (.int .u64 (d:Nat)):=rfl
 have g4:(ns .u64 [a,b,c,d,e,f,g,h])[4]?=some (.int .u64 (e:Nat)):=rfl
 have g5:(ns .u64 [a,b,c,d,e,f,g,h])[5]?=some (.int .u64 (f:Nat)):=rfl
 have g6:(ns .u64 [a,b,c,d,e,f,g,h])[6]?=some (.int .u64 (g:Nat)):=rfl
 have g7:(ns .u64 [a,b,c,d,e,f,g,h])[7]?=some (.int .u64 (h:Nat)):=rfl
 have lS:(ns .u64 [a,b,c,d,e,f,g,h]).length=8:=rfl
 clear hT1 hr hk hv hs hx
 generalize rnd [a,b,c,d,e,f,g,h] k v=R at *
 generalize (t1O [a,b,c,d,e,f,g,h] k v+t2O [a,b,c,d,e,f,g,h])%18446744073709551616=z1 at *
 generalize (d+t1O [a,b,c,d,e,f,g,h] k v)%18446744073709551616=z2 at *
 generalize t1O [a,b,c,d,e,f,g,h] k v=t1 at *
 generalize t2O [a,b,c,d,e,f,g,h]=t2 at *
 generalize (((h+Sg1 e)%18446744073709551616+chO e f g)%18446744073709551616+k)%18446744073709551616=z3 at *
 generalize ((h+Sg1 e)%18446744073709551616+chO e f g)%18446744073709551616=z4 at *
 generalize (h+Sg1 e)%18446744073709551616=z5 at *
 generalize Sg1 e=se,Sg0 a=sa,chO e f g=cc,maO a b c=mm at *
 generalize (a&&&b)|||(a&&&c)=q1 at *
 generalize (18446744073709551615-e)&&&g=q2 at *
 generalize 18446744073709551615-e=q3 at *
 generalize e&&&f=q4 at *
 generalize a&&&b=q5 at *
 generalize a&&&c=q6 at *
 generalize b&&&c=q7 at *
 generalize JQ e 14=p1,JQ e 18=p2,JQ e 41=p3,JQ a 28=p4,JQ a 34=p5,JQ a 39=p6 at *
 have t6:tuC[6]?=some (.int .i64 28):=rfl
 have t7:tuC[7]?=some (.int .i64 34):=rfl
 have t8:tuC[8]?=some (.int .i64 39):=rfl
 have t9:tuC[9]?=some (.int .i64 14):=rfl
 have t10:tuC[10]?=some (.int .i64 18):=rfl
 have t11:tuC[11]?=some (.int .i64 41):=rfl
 have c1:=ER sh
 generalize hi1:i+1=i1 at *
 generalize tuC=tc at *
 generalize shC sh=sc at *
 generalize ns .u64 [a,b,c,d,e,f,g,h]=S at *
 generalize ns .u64 Vu=KT at *
 simp only [rvI,rvE,Hu,Qs,quiet,cW,↓pW,reduceCtorEq,seval,-Qb,hS,hU,hK,hq,hvo,c1,t6,t7,t8,t9,t10,t11,e1,vc,kc,r14,r18,r41,r28,r34,r39,x2,x4,a1,a2,a3,a4,a5,a6,a7,a8,a9,m1,m2,m3,m4,m5,m6,m7,kp1,kp2,kp3,hf,w3,hi1,g0,g1,g2,g3,g4,g5,g6,g7]
theorem gQ {H0:List Ob} (hS:H0[B]?=some ⟨shC sh,true,true,true,1⟩) (hU:H0[u]?=some ⟨tuC,true,true,true,1⟩) (hK:H0[kid]?=some ⟨ns .u64 Vu,true,true,true,1⟩) (hq:H0[q]?=some ⟨ns .u64 w,true,true,true,1⟩) (hvo:H0[vid]?=some ⟨ns .u64 s,true,x1,x2,1⟩) (hw:w.length=80) (hs:s.length=8) (hx:∀ x∈s,x<18446744073709551616) :
  ∃ vid' l y1 y2,Q5 T B (.block 10 (.loop Hu)) (rvI B tid L kid sv u at_ q vid 0 H0 [])=some (.normal,rvI B tid L kid sv u at_ q vid' 80 (H0++l) [(211,.bool false)])∧(H0++l)[vid']?=some ⟨ns .u64 (Ga 80 w s),true,y1,y2,1⟩∧(vid'=vid∨H0.length≤vid'):=by
 obtain ⟨st,hb,vid',l,y1,y2,rfl,h1,h2⟩:=Zm (T:=T) (base:=B) (id:=10) (body:=Hu)
  (fun j st=>∃ vid' l y1 y2,st=rvI B tid L kid sv u at_ q vid' j (H0++l) []∧(H0++l)[vid']?=some ⟨ns .u64 (Ga j w s),true,y1,y2,1⟩∧(vid'=vid∨H0.length≤vid'))
  (Q:=fun st=>∃ vid' l y1 y2,st=rvI B tid L kid sv u at_ q vid' 80 (H0++l) [(211,.bool false)]∧(H0++l)[vid']?=some ⟨ns .u64 (Ga 80 w s),true,y1,y2,1⟩∧(vid'=vid∨H0.length≤vid'))
  80 (s:=rvI B tid L kid sv u at_ q vid 0 H0 []) ⟨vid,[],x1,x2,by rw [QA]; rfl,by rw [QA]; exact hvo,.inl rfl⟩
  (fun j st hj hst=>by
   obtain ⟨vid',l,y1,y2,rfl,h1,h2⟩:=hst
   have up:∀ {i:Nat} {o:Ob},H0[i]?=some o→(H0++l)[i]?=some o:=fun {i o} h=>by rw [Qc (Qg.1 h).1]; exact h
   refine ⟨_,oZ (up hS) (up hU) (up hK) (up hq) h1 hw (UA hs w j) (It hs hx w j) hj,(H0++l).length,l++[⟨ns .u64 (rnd (Ga j w s) (Vu.getD j 0) (w.getD j 0)),true,true,true,1⟩],true,true,by rw [←Qu],?_,.inr (by simp)⟩
   rw [←Qu,Qh (Qr _),Q3]; rfl)
  (fun st hst=>by
   obtain ⟨vid',l,y1,y2,rfl,h1,h2⟩:=hst
   refine ⟨_,?_,vid',l,y1,y2,rfl,h1,h2⟩
   have gS:(H0++l)[B]?=some ⟨shC sh,true,true,true,1⟩:=by rw [Qc (Qg.1 hS).1]; exact hS
   have c1:=ER sh
   generalize shC sh=sc at *
   generalize H0++l=Hc at *
   simp only [rvI,rvE,Hu,Qs,quiet,cW,↓pW,reduceCtorEq,seval,-Qb,gS,c1])
 exact ⟨vid',l,y1,y2,hb,h1,h2⟩
def rsI (B tid L kid sid u at_ vid:Nat) (i:Nat) (Hc:List Ob) (ex:Env):St:=⟨[(3,.pointer (some ⟨B,0,none⟩)),(5,.int .i64 8),(6,.slice (some ⟨tid,0,none⟩) L L),(10,.slice (some ⟨kid,0,none⟩) 80 80),(11,.slice (some ⟨sid,0,none⟩) 8 8),(12,.int .i64 64),(13,.pointer (some ⟨u,0,none⟩)),(14,.int .i64 at_),(22,.slice (some ⟨vid,0,none⟩) 8 8),(29,.int .i64 i)]++ex,Hc,[]⟩
theorem pd {b:Nat} {D:List Nat} (hB:B≤sid) (hsl:sid<Hc.length) (hne:vid≠sid) (hvo:Hc[vid]?=some ⟨ns .u64 v,true,x1,x2,1⟩) (lD:D.length=8) (hi:i<8) (ha:D[i]?=some a) (hb:v[i]?=some b) :
  Q5 T B Hw (rsI B tid L kid sid u at_ vid i (Hc.set sid ⟨ns .u64 D,true,true,x3,1⟩) [])=some (.normal,rsI B tid L kid sid u at_ vid (i+1) (Hc.set sid ⟨ns .u64 (D.set i ((a+b)%18446744073709551616)),true,true,x3,1⟩) []):=by
 have e1:((i:Int)<8)=True:=eq_true (by omega)
 have w3:IntKind.i64.wrap ((i:Int)+1)=((i+1:Nat):Int):=ZJ (b:=1) (by omega)
 have m1:=Wk a b
 have kp:=A8 ((a+b)%18446744073709551616)
 have ga:=ZN (k := .u64) ha
 have gb:=ZN (k := .u64) hb
 have g1:(Hc.set sid ⟨ns .u64 D,true,true,x3,1⟩)[sid]?=some ⟨ns .u64 D,true,true,x3,1⟩:=Q1 hsl
 have g2:(Hc.set sid ⟨ns .u64 D,true,true,x3,1⟩)[vid]?=some ⟨ns .u64 v,true,x1,x2,1⟩:=by rw [Qt (fun h=>hne h.symm)]; exact hvo
 have hset:=Xo .u64 D i ((a+b)%18446744073709551616)
 have hss:∀ o,(Hc.set sid ⟨ns .u64 D,true,true,x3,1⟩).set sid o=Hc.set sid o:=fun o=>by rw [Wc]
 have hle:i+1≤(ns .u64 D).length:=by rw [Q7,lD]; omega
 have im:Q2 B [] [sid]=[]:=QG (by simp; omega)
 generalize (a+b)%18446744073709551616=z at *
 generalize Hc.set sid ⟨ns .u64 D,true,true,x3,1⟩=G at *
 generalize hi1:i+1=i1 at *
 simp only [rsI,Hw,Qs,quiet,cW,↓pW,reduceCtorEq,seval,-Qb,e1,w3,m1,kp,ga,gb,g1,g2,hset,hss,hi1,hle,im]
theorem gT (hB:B≤sid) (hso:Hc[sid]?=some ⟨ns .u64 s,true,true,x3,1⟩) (hne:vid≠sid) (hvo:Hc[vid]?=some ⟨ns .u64 v,true,x1,x2,1⟩) (lS:s.length=8) (lV:v.length=8) :
  Q5 T B (.block 12 (.loop Hw)) (rsI B tid L kid sid u at_ vid 0 Hc [])=some (.normal,rsI B tid L kid sid u at_ vid 8 (Hc.set sid ⟨ns .u64 (Xw (fun x y=>(x+y)%18446744073709551616) s v),true,true,x3,1⟩) [(358,.bool false)]):=by
 have hsl:=(Qg.1 hso).1
 obtain ⟨st,hb,D,rfl,lD,hD⟩:=Zm (T:=T) (base:=B) (id:=12) (body:=Hw)
  (fun j st=>∃ D,st=rsI B tid L kid sid u at_ vid j (Hc.set sid ⟨ns .u64 D,true,true,x3,1⟩) []∧D.length=8∧∀ k,k<8→D[k]?=if k<j then (Xw (fun x y=>(x+y)%18446744073709551616) s v)[k]? else s[k]?)
  (Q:=fun st=>∃ D,st=rsI B tid L kid sid u at_ vid 8 (Hc.set sid ⟨ns .u64 D,true,true,x3,1⟩) [(358,.bool false)]∧D.length=8∧∀ k,k<8→D[k]?=(Xw (fun x y=>(x+y)%18446744073709551616) s v)[k]?)
  8 (s:=rsI B tid L kid sid u at_ vid 0 Hc []) ⟨s,by rw [U8 hso],lS,fun k hk=>by rw [if_neg (Y7 _)]⟩
  (fun j st hj hs=>by
   obtain ⟨D,rfl,lD,hD⟩:=hs
   obtain ⟨a,ha⟩:∃ a,s[j]?=some a:=⟨_,Qe (by omega)⟩
   obtain ⟨b,hb⟩:∃ a,v[j]?=some a:=⟨_,Qe (by omega)⟩
   have hDj:D[j]?=some a:=by rw [hD j hj,if_neg (Uh _)]; exact ha
   refine ⟨_,pd hB hsl hne hvo lD hj hDj hb,_,rfl,by rw [Q0]; exact lD,fun k hk => ?_⟩
   by_cases h:j=k
   ·subst h
    rw [Q1 (by omega),if_pos (OC _),VP,ha,hb]
   ·rw [Qt h,hD k hk]
    by_cases h2:k<j
    ·rw [if_pos h2,if_pos (by omega)]
    ·rw [if_neg h2,if_neg (by omega)])
  (fun st hs=>by
   obtain ⟨D,rfl,lD,hD⟩:=hs
   refine ⟨_,?_,D,rfl,lD,fun k hk=>by rw [hD k hk,if_pos hk]⟩
   generalize Hc.set sid ⟨ns .u64 D,true,true,x3,1⟩=G
   simp only [rsI,Hw,Qs,quiet,cW,↓pW,reduceCtorEq,seval,-Qb])
 have:D=Xw (fun x y=>(x+y)%18446744073709551616) s v:=Jn fun k=>by
  by_cases h:k<8
  ·exact hD k h
  ·rw [QN (by omega),QN (by rw [Yq]; omega)]
 rw [←this]
 exact hb
theorem app8 {H:List Ob} (hso:H[sid]?=some ⟨ns .u64 s,true,true,x3,1⟩) (ls:s.length=8) :
  Jh 1 8 (H++[⟨[],true,true,true,1⟩]) (.slice (some ⟨H.length,0,none⟩) 0 0) (.slice (some ⟨sid,0,none⟩) 8 8)=some (.slice (some ⟨H.length+1,0,none⟩) 8 8,H++[⟨[],true,true,true,1⟩,Ob.grown 1 (ns .u64 s)],none,[]):=by
 have h1:liveAt (H++[⟨[],true,true,true,1⟩]) sid=some ⟨ns .u64 s,true,true,x3,1⟩:=Kz (Zy hso rfl)
 have h2:liveAt (H++[⟨[],true,true,true,1⟩]) H.length=some ⟨[],true,true,true,1⟩:=B3
 have h3:elemsOf (H++[⟨[],true,true,true,1⟩]) 1 8 (.slice (some ⟨sid,0,none⟩) 8 8)=some (ns .u64 s):=by
  have:Zf 8 (ns .u64 s)=ns .u64 s:=Ql (by rw [Q7]; omega)
  simp [elemsOf,h1,Q7,ls,this]
 have h4:elemsOf (H++[⟨[],true,true,true,1⟩]) 1 0 (.slice (some ⟨H.length,0,none⟩) 0 0)=some []:=by simp [elemsOf,h2]
 have k1:Go.Ev.lenV (.slice (some ⟨sid,0,none⟩) 8 8)=some 8:=rfl
 simp only [Jh,k1,h2,h3,h4,Qp]
 rw [if_neg (by decide),if_neg (by decide)]
 simp
def reI (B tid L kid sid u:Nat) (at_:Nat) (Hc:List Ob) (ex:Env):St:=⟨[(3,.pointer (some ⟨B,0,none⟩)),(5,.int .i64 8),(6,.slice (some ⟨tid,0,none⟩) L L),(10,.slice (some ⟨kid,0,none⟩) 80 80),(11,.slice (some ⟨sid,0,none⟩) 8 8),(12,.int .i64 64),(13,.pointer (some ⟨u,0,none⟩)),(14,.int .i64 at_)]++ex,Hc,[]⟩
theorem pG {all:List Nat} (hBs:B<sid) (hS:Hc[B]?=some ⟨shC sh,true,true,true,1⟩) (hU:Hc[u]?=some ⟨tuC,true,true,true,1⟩) (hK:Hc[kid]?=some ⟨ns .u64 Vu,true,true,true,1⟩) (ht:Hc[tid]?=some ⟨u8s all,true,true,x4,1⟩) (hso:Hc[sid]?=some ⟨ns .u64 s,true,true,x3,1⟩) (hs:s.length=8) (hsx:∀ x∈s,x<18446744073709551616)
 (hL:all.length<2^50) (hb:∀ j,j<128→all[at_+j]?=b[j]?) (hbl:b.length=128) (hx:∀ y∈b,y<256) (hat:at_+128≤all.length) :
    ∃ H',Q5 T B Ht (reI B tid all.length kid sid u at_ Hc [])=some (.normal,reI B tid all.length kid sid u (at_+128) H' [])∧H'[sid]?=some ⟨ns .u64 (blk s b),true,true,x3,1⟩∧Hc.length≤H'.length∧∀ i,i<Hc.length→i≠sid→H'[i]?=Hc[i]? := by
  have hsl:=(Qg.1 hso).1
  have hBl:B<Hc.length:=by omega
  have h5:=iC (tb := .slice (some ⟨kid,0,none⟩) 80 80) (sv := .slice (some ⟨sid,0,none⟩) 8 8) hBl hS hU ht hL hb hbl hx hat
  obtain ⟨H5,hH5⟩:∃ X,X=Hc++[(⟨ns .u64 (JR b),true,true,true,1⟩:Ob)]:=⟨_,rfl⟩
  have l5:H5.length=Hc.length+1:=by rw [hH5]; simp
  have up5:∀ {i:Nat} {o:Ob},Hc[i]?=some o→H5[i]?=some o:=fun {i o} h=>by rw [hH5,Qc (Qg.1 h).1]; exact h
  have hq5:H5[Hc.length]?=some ⟨ns .u64 (JR b),true,true,true,1⟩:=by rw [hH5,Qh (Qr _),Q3]; rfl
  have hap:=app8 (up5 hso) hs
  obtain ⟨H7,hH7⟩:∃ X,X=H5++[(⟨[],true,true,true,1⟩:Ob),Ob.grown 1 (ns .u64 s)]:=⟨_,rfl⟩
  have l7:H7.length=H5.length+2:=by rw [hH7]; simp
  have up7:∀ {i:Nat} {o:Ob},H5[i]?=some o→H7[i]?=some o:=fun {i o} h=>by rw [hH7,Qc (Qg.1 h).1]; exact h
  have hv7:H7[H5.length+1]?=some ⟨ns .u64 s,true,true,false,1⟩:=by rw [hH7,Qh (by omega),Qw]; rfl
  obtain ⟨vid',l,y1,y2,h3,hvo,hvid⟩:=gQ (L:=all.length) (tid:=tid) (sv := .slice (some ⟨sid,0,none⟩) 8 8) (at_:=at_) (up7 (up5 hS)) (up7 (up5 hU)) (up7 (up5 hK)) (up7 hq5) hv7 (Yf b) hs hsx
  obtain ⟨H8,hH8⟩:∃ X,X=H7++l:=⟨_,rfl⟩
  have l8:H7.length≤H8.length:=by rw [hH8]; simp
  have up8:∀ {i:Nat} {o:Ob},H7[i]?=some o→H8[i]?=some o:=fun {i o} h=>by rw [hH8,Qc (Qg.1 h).1]; exact h
  rw [←hH8] at h3 hvo
  have hne:vid'≠sid:=by omega
  have h2:=gT (tid:=tid) (L:=all.length) (kid:=kid) (u:=u) (at_:=at_) (J3 hBs) (up8 (up7 (up5 hso))) hne hvo hs (UA hs _ 80)
  rw [show Xw (fun x y=>(x+y)%18446744073709551616) s (Ga 80 (JR b) s)=blk s b from rfl] at h2
  obtain ⟨H9,hH9⟩:∃ X,X=H8.set sid ⟨ns .u64 (blk s b),true,true,x3,1⟩:=⟨_,rfl⟩
  rw [←hH9] at h2
  refine ⟨H9,?_,by rw [hH9,Q1 (by omega)],by rw [hH9,Q0]; omega,fun i hi hne => ?_⟩
  · have gS9:H9[B]?=some ⟨shC sh,true,true,true,1⟩:=by rw [hH9,Qt (by omega)]; exact up8 (up7 (up5 hS))
    have e1:((at_:Int)<((all.length:Nat):Int))=True:=eq_true (by omega)
    have w1:IntKind.i64.wrap ((at_:Int)+128)=((at_+128:Nat):Int):=ZJ (b:=128) (by omega)
    have c1:=ER sh
    have c2:=th sh
    have hz80:(Qa 80 [Value.int .u64 0]).flatten=ns .u64 (Qa 80 0):=rfl
    have f0:fillL ([]:List Value) []=some []:=rfl
    have im1:Q2 B [] [H5.length]=[]:=QG (by simp; omega)
    simp only [rhI,rhE,rvI,rvE,rsI,Qo,Qm,QD,←hH5] at h5 h3 h2
    rw [←hH7] at hap
    clear hH5 hH7 hH8 hH9 up5 up7 up8 hv7 hq5 hvo hb hx hso
    generalize shC sh=sc,ns .u64 (Qa 80 0)=Z80 at *
    generalize all.length=LL at *
    generalize hat2:at_+128=at2 at *
    simp only [reI,Ht,Qs,quiet,cW,↓pW,reduceCtorEq,seval,-Qb,hS,c1,e1,hz80,h5,f0,hap,im1,h3,h2,gS9,c2,w1]
  · rw [hH9,Qt (fun h=>hne h.symm)]
    have hi':=Qe hi
    rw [hi']
    exact up8 (up7 (up5 hi'))
end
section
attribute [local congr] JD JU JC JV Jv
variable {a b bs st p q:List Nat} {B i sid m w N x n tid V:Nat} {x3:Bool} {l H0:List Ob}
theorem iz {kid u:Nat} {sh:Value} {all:List Nat} {x4:Bool} (hBs:B<sid) (hus:u≠sid) (hks:kid≠sid) (hts:tid≠sid) (hS:H0[B]?=some ⟨shC sh,true,true,true,1⟩) (hU:H0[u]?=some ⟨tuC,true,true,true,1⟩) (hK:H0[kid]?=some ⟨ns .u64 Vu,true,true,true,1⟩) (ht:H0[tid]?=some ⟨u8s all,true,true,x4,1⟩) (hso:H0[sid]?=some ⟨ns .u64 Ys,true,true,x3,1⟩)
 (hL:all.length<2^50) (hx:∀ y∈all,y<256) (hm:all.length=128*m) :
    ∃ H',Q5 T B (.block 4 (.loop Ht)) (reI B tid all.length kid sid u 0 H0 [])=some (.normal,reI B tid all.length kid sid u all.length H' [(102,.bool false)])∧H'[sid]?=some ⟨ns .u64 (stK m all),true,true,x3,1⟩∧H0.length≤H'.length∧∀ i,i<H0.length→i≠sid→H'[i]?=H0[i]? := by
  obtain ⟨st,hb,H',rfl,h1,h2,h3⟩:=Zm (T:=T) (base:=B) (id:=4) (body:=Ht)
    (fun j st=>∃ H',st=reI B tid all.length kid sid u (128*j) H' []∧H'[sid]?=some ⟨ns .u64 (stK j all),true,true,x3,1⟩∧H0.length≤H'.length∧∀ i,i<H0.length→i≠sid→H'[i]?=H0[i]?)
    (Q:=fun st=>∃ H',st=reI B tid all.length kid sid u all.length H' [(102,.bool false)]∧H'[sid]?=some ⟨ns .u64 (stK m all),true,true,x3,1⟩∧H0.length≤H'.length∧∀ i,i<H0.length→i≠sid→H'[i]?=H0[i]?)
    m (s:=reI B tid all.length kid sid u 0 H0 []) ⟨H0,rfl,hso,Qr _,fun _ _ _=>rfl⟩
    (fun j st hj hs=>by
      obtain ⟨H',rfl,h1,h2,h3⟩:=hs
      have up:∀ {i:Nat} {o:Ob},H0[i]?=some o→i≠sid→H'[i]?=some o:=fun {i o} h hne=>(h3 i (Qg.1 h).1 hne).trans h
      have hat:128*j+128≤all.length:=by omega
      obtain ⟨H9,k1,k2,k3,k4⟩:=pG (at_:=128*j) (b:=(all.drop (128*j)).take 128) hBs (up hS (by omega)) (up hU hus) (up hK hks) (up ht hts) h1 (GQ all j) (Ip all j) hL (fun i hi=>by rw [QZ,if_pos hi,Zt]) (by rw [Q4,QP]; omega) (fun y hy=>hx y (ZW (QU hy))) hat
      exact ⟨_,k1,H9,rfl,k2,by omega,fun i hi hne=>(k4 i (by omega) hne).trans (h3 i hi hne)⟩)
    (fun st hs=>by
      obtain ⟨H',rfl,h1,h2,h3⟩:=hs
      rw [←hm]
      refine ⟨_,?_,H',rfl,h1,h2,h3⟩
      have e1:((all.length:Int)<((all.length:Nat):Int))=False:=eq_false (by omega)
      generalize all.length=LL at *
      simp only [reI,Ht,Qs,quiet,cW,↓pW,reduceCtorEq,seval,-Qb,e1])
  exact ⟨H',hb,h1,h2,h3⟩
def roI (sid:Nat) (s:Value) (i c:Int) (Hc:List Ob) (ex:Env):St:=⟨[(5,.int .i64 8),(11,.slice (some ⟨sid,0,none⟩) 8 8),(30,s),(31,.int .i64 i),(32,.int .i64 c)]++ex,Hc,[]⟩
theorem po {c:Nat} {s:Value} {Hc:List Ob} (hBN:B≤N) (hsN:sid<N) (hso:Hc[sid]?=some ⟨ns .u64 st,true,true,x3,1⟩) (hg:Grown .u8 N Hc s bs) (hL:N≤Hc.length) (hbs:bs.length<100) (hi:i<8) (hc:c<8) (hw:st[i]?=some w) (hw':w<18446744073709551616) :
  ∃ s' H',Q5 T B Hx (roI sid s i c Hc [])=some (.normal,roI sid s' i ((c:Int)-1) H' [])∧Grown .u8 N H' s' (bs++[w/256^c%256])∧N≤H'.length∧∀ k,k<N→H'[k]?=Hc[k]? := by
 obtain ⟨s',H',M,h1,h2,h3,h4,h5⟩:=Yl (x:=w/256^c%256) (bytes:=1) hg hL (by omega) (by decide)
 refine ⟨s',H',?_,h2,h4,h5⟩
 have hm:Q2 B [] M=[]:=QG fun i hi=>by have:=h3 i hi; omega
 have hp:=Ai (n:=8*c) (by omega)
 have e8:(2:Nat)^(8*c)=256^c:=by rw [Ja]
 rw [e8] at hp
 have h0:0<256^c:=Xa (by decide)
 have hz:(((256^c:Nat):Int)=0)=False:=eq_false (by omega)
 have hd:IntKind.u64.wrap ((w:Int).tdiv ((256^c:Nat):Int))=((w/256^c:Nat):Int):=YL (Js (JJ _ _) hw')
 have hr:((w/256^c:Nat):Int).tmod 256=((w/256^c%256:Nat):Int):=rfl
 have w1:IntKind.i64.wrap (8*(c:Int))=((8*c:Nat):Int):=Zu (n:=8*c) (by omega)
 have w2:IntKind.u8.wrap ((w/256^c%256:Nat):Int)=((w/256^c%256:Nat):Int):=Lv (Q6 _ (by decide))
 have w3:IntKind.i64.wrap ((c:Int)-1)=(c:Int)-1:=Zh (by omega) (by omega)
 have e1:(0≤(c:Int))=True:=eq_true (by omega)
 have e2:((i:Int)<8)=True:=eq_true (by omega)
 have gw:=ZN (k := .u64) hw
 have f0:fillL [Value.int .u8 0] [(0,1,.int .u8 ((w/256^c%256:Nat):Int))]=some [.int .u8 ((w/256^c%256:Nat):Int)]:=rfl
 generalize w/256^c%256=r at *
 generalize w/256^c=d at *
 generalize 256^c=p at *
 generalize 8*c=c8 at *
 simp only [roI,Hx,Qs,quiet,cW,↓pW,reduceCtorEq,seval,-Qb,e1,e2,w1,w2,w3,hp,hz,hd,hr,hso,gw,f0,h1,hm]
def HG (st:List Nat):List Nat:=(Jm 64).map fun i=>st.getD (i/8) 0/256^(7-i%8)%256
theorem iW (st:List Nat):(HG st).length=64:=by simp [HG]
theorem iX {j:Nat} (hi:i<8) (hj:j<8) (hw:st[i]?=some w):(HG st)[8*i+j]?=some (w/256^(7-j)%256):=by
 have h1:(8*i+j)/8=i:=by omega
 have h2:(8*i+j)%8=j:=by omega
 have h3:8*i+j<64:=by omega
 simp only [HG,Xd,List.getElem?_range h3,Option.map_some,h1,h2,Xl hw]
theorem ic {s0:Value} (hBN:B≤N) (hsN:sid<N) (hso:H0[sid]?=some ⟨ns .u64 st,true,true,x3,1⟩) (hg0:Grown .u8 N H0 s0 ((HG st).take (8*i))) (hL0:N≤H0.length) (hi:i<8) (hw:st[i]?=some w) (hw':w<18446744073709551616) :
  ∃ s' H',Q5 T B (.block 16 (.loop Hx)) (roI sid s0 i 7 H0 [])=some (.normal,roI sid s' i (-1) H' [(382,.bool false)])∧Grown .u8 N H' s' ((HG st).take (8*(i+1)))∧N≤H'.length∧∀ k,k<N→H'[k]?=H0[k]? := by
 obtain ⟨x,hb,s',H',rfl,h1,h2,h3⟩:=Zm (T:=T) (base:=B) (id:=16) (body:=Hx)
  (fun j x=>∃ s' H',x=roI sid s' i ((7:Int)-(j:Nat)) H' []∧Grown .u8 N H' s' ((HG st).take (8*i+j))∧N≤H'.length∧∀ k,k<N→H'[k]?=H0[k]?)
  (Q:=fun x=>∃ s' H',x=roI sid s' i (-1) H' [(382,.bool false)]∧Grown .u8 N H' s' ((HG st).take (8*i+8))∧N≤H'.length∧∀ k,k<N→H'[k]?=H0[k]?)
  8 (s:=roI sid s0 i 7 H0 []) ⟨s0,H0,rfl,hg0,hL0,fun _ _=>rfl⟩
  (fun j x hj hx=>by
   obtain ⟨s',H',rfl,h1,h2,h3⟩:=hx
   have e:((7:Int)-(j:Nat))=((7-j:Nat):Int):=by omega
   obtain ⟨s2,H2,k1,k2,k3,k4⟩:=po (c:=7-j) hBN hsN ((h3 sid hsN).trans hso) h1 h2 (by rw [Q4]; omega) hi (by omega) hw hw'
   have hget:=iX hi hj hw
   rw [show (HG st).take (8*i)=(HG st).take (8*i) from rfl] at hg0
   have ht:(HG st).take (8*i+(j+1))=(HG st).take (8*i+j)++[w/256^(7-j)%256]:=by
    rw [←QW,Z5,hget]; rfl
   rw [←e] at k1
   exact ⟨_,k1,s2,H2,by rw [show (7:Int)-(j:Nat)-1=(7:Int)-((j+1:Nat):Int) by omega],by rw [ht]; exact k2,k3,fun k hk=>(k4 k hk).trans (h3 k hk)⟩)
  (fun x hx=>by
   obtain ⟨s',H',rfl,h1,h2,h3⟩:=hx
   refine ⟨_,?_,s',H',rfl,h1,h2,h3⟩
   simp only [roI,Hx,Qs,quiet,cW,↓pW,reduceCtorEq,seval,-Qb])
 exact ⟨s',H',hb,h1,h2,h3⟩
def Iv (sid:Nat) (s:Value) (i:Int) (Hc:List Ob) (ex:Env):St:=⟨[(5,.int .i64 8),(11,.slice (some ⟨sid,0,none⟩) 8 8),(30,s),(31,.int .i64 i)]++ex,Hc,[]⟩
theorem ie (hBN:B≤N) (hsN:sid<N) (hso:H0[sid]?=some ⟨ns .u64 st,true,true,x3,1⟩) (hL0:N≤H0.length) (ls:st.length=8) (xs:∀ w∈st,w<18446744073709551616) :
  ∃ s' H',Q5 T B (.block 14 (.loop Mz)) (Iv sid (.slice none 0 0) 0 H0 [])=some (.normal,Iv sid s' 8 H' [(376,.bool false)])∧Grown .u8 N H' s' (HG st)∧N≤H'.length∧∀ k,k<N→H'[k]?=H0[k]? := by
 obtain ⟨x,hb,s',H',rfl,h1,h2,h3⟩:=Zm (T:=T) (base:=B) (id:=14) (body:=Mz)
  (fun j x=>∃ s' H',x=Iv sid s' j H' []∧Grown .u8 N H' s' ((HG st).take (8*j))∧N≤H'.length∧∀ k,k<N→H'[k]?=H0[k]?)
  (Q:=fun x=>∃ s' H',x=Iv sid s' 8 H' [(376,.bool false)]∧Grown .u8 N H' s' (HG st)∧N≤H'.length∧∀ k,k<N→H'[k]?=H0[k]?)
  8 (s:=Iv sid (.slice none 0 0) 0 H0 []) ⟨_,_,rfl,.nil,hL0,fun _ _=>rfl⟩
  (fun j x hj hx=>by
   obtain ⟨s',H',rfl,h1,h2,h3⟩:=hx
   obtain ⟨w,hw⟩:∃ w,st[j]?=some w:=⟨_,Qe (by omega)⟩
   obtain ⟨s2,H2,k1,k2,k3,k4⟩:=ic hBN hsN ((h3 sid hsN).trans hso) h1 h2 hj hw (xs w (Qn hw))
   refine ⟨Iv sid s2 ((j+1:Nat):Int) H2 [],?_,s2,H2,rfl,k2,k3,fun k hk=>(k4 k hk).trans (h3 k hk)⟩
   have e1:((j:Int)<8)=True:=eq_true (by omega)
   have w3:IntKind.i64.wrap ((j:Int)+1)=((j+1:Nat):Int):=ZJ (b:=1) (by omega)
   simp only [roI,Qo,Qm] at k1
   generalize hj1:j+1=j1 at *
   simp only [Iv,Mz,Qs,quiet,cW,↓pW,reduceCtorEq,seval,-Qb,e1,k1,w3,hj1])
  (fun x hx=>by
   obtain ⟨s',H',rfl,h1,h2,h3⟩:=hx
   rw [Ql (by rw [iW]; decide)] at h1
   refine ⟨_,?_,s',H',rfl,h1,h2,h3⟩
   simp only [Iv,Mz,Qs,quiet,cW,↓pW,reduceCtorEq,seval,-Qb])
 exact ⟨s',H',hb,h1,h2,h3⟩
theorem bI (xb:∀ y∈bs,y<256):((⟨(bs.map UInt8.ofNat).toArray⟩:ByteArray).data.toList.map fun b=>Value.int .u8 b.toNat)=u8s bs:=by
 simp only [List.map_map,u8s]
 refine List.map_congr_left fun y hy => ?_
 have:=xb y hy
 simp [Function.comp,Qv this]
theorem SR {id:Nat} (xb:∀ y∈bs,y<256) (hb:bs.length≤2^47):oB id (JK bs)=some (.slice (some ⟨id,0,none⟩) bs.length bs.length,⟨u8s bs,true,true,false,1⟩):=by
 unfold JK
 rw [eQ,bI xb]
 have:(⟨(bs.map UInt8.ofNat).toArray⟩:ByteArray).size=bs.length:=by simp [ByteArray.size]
 rw [this,gate,if_pos hb]
theorem vL {G:List Ob} (hb:bs.length<2^46) :
  Jh 1 1 (G++[⟨u8s bs,true,true,false,1⟩,⟨[.int .u8 128],true,true,true,1⟩]) (.slice (some ⟨G.length,0,none⟩) bs.length bs.length) (.slice (some ⟨G.length+1,0,none⟩) 1 1)=some (.slice (some ⟨G.length+2,0,none⟩) (bs.length+1) (bs.length+1),G++[Ob.dead,⟨[.int .u8 128],true,true,true,1⟩,Ob.grown 1 (u8s (bs++[128]))],none,[G.length]):=by
 have h1:liveAt (G++[⟨u8s bs,true,true,false,1⟩,⟨[.int .u8 128],true,true,true,1⟩]) (G.length+1)=some ⟨[.int .u8 128],true,true,true,1⟩:=aN
 have h2:liveAt (G++[⟨u8s bs,true,true,false,1⟩,⟨[.int .u8 128],true,true,true,1⟩]) G.length=some ⟨u8s bs,true,true,false,1⟩:=B3
 have h3:elemsOf (G++[⟨u8s bs,true,true,false,1⟩,⟨[.int .u8 128],true,true,true,1⟩]) 1 1 (.slice (some ⟨G.length+1,0,none⟩) 1 1)=some [.int .u8 128]:=by simp [elemsOf,h1]
 have h4:elemsOf (G++[⟨u8s bs,true,true,false,1⟩,⟨[.int .u8 128],true,true,true,1⟩]) 1 bs.length (.slice (some ⟨G.length,0,none⟩) bs.length bs.length)=some (u8s bs):=by
  have:Zf bs.length (u8s bs)=u8s bs:=Ql (by rw [Qq]; exact Qr _)
  simp [elemsOf,h2,Qq,this]
 have k1:Go.Ev.lenV (.slice (some ⟨G.length+1,0,none⟩) 1 1)=some 1:=rfl
 have e1:¬ ((1:Nat)=0):=by decide
 have e2:(bs.length+1)*1≤2^47∧0<1∧0<1:=⟨by omega,by decide,by decide⟩
 have e3:¬ (bs.length+1≤bs.length):=by omega
 have hap:u8s (bs++[128])=u8s bs++[.int .u8 128]:=by simp [u8s]
 simp only [Jh,k1,h2,h3,h4,Qp,if_neg e1,e2,and_self,not_true_eq_false,if_false,if_neg e3,hap]
 simp
theorem Grown.ob {k:IntKind} {B:Nat} {H:List Ob} {s:Value} {bs:List Nat} (h:Grown k B H s bs) (h0:0<bs.length):∃ id x,s=.slice (some ⟨id,0,none⟩) bs.length bs.length∧B≤id∧H[id]?=some ⟨ns k bs,true,true,x,1⟩:=by
 cases h with
 | nil=>exact absurd h0 (by decide)
 | @own id _ h1 h2 h3=>exact ⟨id,false,rfl,h1,h3⟩
 | @new id _ h1 h2 h3=>exact ⟨id,true,rfl,h1,h3⟩
theorem Grown.weak {k:IntKind} {B N:Nat} {H:List Ob} {s:Value} {bs:List Nat} (h:Grown k N H s bs) (hB:B≤N):Grown k B H s bs:=by
 cases h with
 | nil=>exact .nil
 | own h1 h2 h3=>exact .own (by omega) h2 h3
 | new h1 h2 h3=>exact .new (by omega) h2 h3
theorem pc {H:List Ob} {hid:Nat} {xe:Bool} (xb:∀ y∈bs,y<256) (hb:bs.length<2^46) (hh:H[hid]?=some ⟨ns .u64 Ys,true,true,xe,1⟩) :
  ∃ s l,Z6 T 86 [JK bs,.agg (shC (.slice (some ⟨hid,0,none⟩) 8 8)).toArray] H=some (s,H++l,[])∧Grown .u8 H.length (H++l) s (sha bs):=by
 obtain ⟨sv,hsv⟩:∃ v,v=Value.slice (some ⟨hid,0,none⟩) 8 8:=⟨_,rfl⟩
 rw [←hsv]
 have hhl:=(Qg.1 hh).1
 have hok:okVar (.agg (shC sv).toArray)=true:=by rw [hsv]; rfl
 obtain ⟨G1,hG1⟩:∃ X,X=H++[(⟨shC sv,true,true,true,1⟩:Ob)]:=⟨_,rfl⟩
 have l1:G1.length=H.length+1:=by rw [hG1]; simp
 have gB:G1[H.length]?=some ⟨shC sv,true,true,true,1⟩:=by rw [hG1,Qh (Qr _),Q3]; rfl
 have gh:G1[hid]?=some ⟨ns .u64 Ys,true,true,xe,1⟩:=by rw [hG1,Qc hhl]; exact hh
 have h2b:=SR (id:=G1.length) xb (by omega:bs.length≤2^47)
 have h80:=vL (G:=G1) hb
 obtain ⟨H3,hH3⟩:∃ X,X=G1++[Ob.dead,(⟨[.int .u8 128],true,true,true,1⟩:Ob),Ob.grown 1 (u8s (bs++[128]))]:=⟨_,rfl⟩
 rw [←hH3] at h80
 have hg3:Grown .u8 (H.length+1) H3 (.slice (some ⟨G1.length+2,0,none⟩) (bs.length+1) (bs.length+1)) (bs++[128]):=by
  have:=Grown.own (k := .u8) (B:=H.length+1) (H:=H3) (id:=G1.length+2) (bs:=bs++[128]) (by omega) (by simp) (by rw [hH3,Qh (by omega),Qw]; rfl)
  rwa [Qj] at this
 have p3:∀ i,i<H.length+1→H3[i]?=G1[i]? := fun i hi=>by rw [hH3,Qc (by omega)]
 obtain ⟨s4,H4,h4,hg4,l4,p4⟩:=gP (B:=H.length) (N:=H.length+1) (x:=JK bs) (by omega) gB hb hg3 (by rw [hH3]; simp; omega) p3
 have h7:=i6 (B:=H.length) (n:=bs.length) (s:=s4) (Hm:=H4) (by omega) hb
 obtain ⟨H5,hH5⟩:∃ X,X=H4++[(⟨u8s ((Jm 16).map (Wt bs.length)),true,true,true,1⟩:Ob)]:=⟨_,rfl⟩
 have l5:H5.length=H4.length+1:=by rw [hH5]; simp
 have hg5:Grown .u8 (H.length+1) H5 s4 (bs++128::Qa (Va bs.length) 0):=by rw [hH5]; exact hg4.app
 have lc:((Jm 16).map (Wt bs.length)).length=16:=by simp
 have he5:elemsOf H5 1 ((Jm 16).map (Wt bs.length)).length (.slice (some ⟨H4.length,0,none⟩) 16 16)=some (ns .u8 ((Jm 16).map (Wt bs.length))):=by
  rw [lc,hH5]
  have:Zf 16 (u8s ((Jm 16).map (Wt bs.length)))=ns .u8 ((Jm 16).map (Wt bs.length)):=Ql (by rw [Qq,lc]; exact Qr _)
  simp [elemsOf,B3,Qq,this]
 have hz:=DQ bs.length
 obtain ⟨s6,H6,M6,ha6,hg6,hM6,l6,p6⟩:=hg5.append (bytes:=1) (x := .slice (some ⟨H4.length,0,none⟩) 16 16) (by omega) (by rw [lc]; rfl) he5 (by rw [lc]; simp; omega) (by decide)
 have hall:bs++128::Qa (Va bs.length) 0++(Jm 16).map (Wt bs.length)=bs++Uq bs.length:=by rw [aD,Qu]
 rw [hall] at hg6
 have lall:(bs++Uq bs.length).length=bs.length+(17+Va bs.length):=by rw [Qj,DR]
 obtain ⟨tid,x4,rfl,htid,htx⟩:=Grown.ob hg6 (by omega)
 have q6:∀ i,i<H.length+1→H6[i]?=G1[i]? := fun i hi=>by rw [p6 i hi,hH5,Qc (by omega)]; exact p4 i hi
 have htb:=bP H6
 obtain ⟨H7,hH7⟩:∃ X,X=H6++[(⟨ns .u64 Vu,true,true,true,1⟩:Ob)]:=⟨_,rfl⟩
 have l7:H7.length=H6.length+1:=by rw [hH7]; simp
 have u7:∀ {i:Nat} {o:Ob},H6[i]?=some o→H7[i]?=some o:=fun {i o} h=>by rw [hH7,Qc (Qg.1 h).1]; exact h
 have k7:H7[H6.length]?=some ⟨ns .u64 Vu,true,true,true,1⟩:=by rw [hH7,Qh (Qr _),Q3]; rfl
 have hap:=app8 (u7 ((q6 hid (by omega)).trans gh)) bM
 obtain ⟨H8,hH8⟩:∃ X,X=H7++[(⟨[],true,true,true,1⟩:Ob),Ob.grown 1 (ns .u64 Ys)]:=⟨_,rfl⟩
 have l8:H8.length=H7.length+2:=by rw [hH8]; simp
 have u8':∀ {i:Nat} {o:Ob},H7[i]?=some o→H8[i]?=some o:=fun {i o} h=>by rw [hH8,Qc (Qg.1 h).1]; exact h
 have k8:H8[H7.length+1]?=some ⟨ns .u64 Ys,true,true,false,1⟩:=by rw [hH8,Qh (by omega),Qw]; rfl
 rw [←hH8] at hap
 obtain ⟨H9,hH9⟩:∃ X,X=H8++[(⟨tuC,true,true,true,1⟩:Ob)]:=⟨_,rfl⟩
 have l9:H9.length=H8.length+1:=by rw [hH9]; simp
 have u9:∀ {i:Nat} {o:Ob},H8[i]?=some o→H9[i]?=some o:=fun {i o} h=>by rw [hH9,Qc (Qg.1 h).1]; exact h
 have k9:H9[H8.length]?=some ⟨tuC,true,true,true,1⟩:=by rw [hH9,Qh (Qr _),Q3]; rfl
 have htl:=(Qg.1 htx).1
 have xall:∀ y∈bs++Uq bs.length,y<256:=fun y hy=>(QF.1 hy).elim (xb y) (aC _ y)
 have hm:(bs++Uq bs.length).length=128*((bs++Uq bs.length).length/128):=by
  have:=An bs.length
  rw [lall]; omega
 obtain ⟨H10,hre,hst,l10,p10⟩:=iz (B:=H.length) (tid:=tid) (kid:=H6.length) (sid:=H7.length+1) (u:=H8.length) (by omega) (by omega) (by omega) (by omega) (u9 (u8' (u7 ((q6 _ (by omega)).trans gB)))) k9 (u9 (u8' k7)) (u9 (u8' (u7 htx))) (u9 k8) (by omega) xall hm
 obtain ⟨s',H11,hro,hg11,l11,p11⟩:=ie (B:=H.length) (N:=H9.length) (by omega) (by omega) hst l10 (GQ _ _) (Ip _ _)
 have hsha:HG (stK ((bs++Uq bs.length).length/128) (bs++Uq bs.length))=sha bs:=rfl
 rw [hsha] at hg11
 have pH:∀ i,i<H.length→H11[i]?=H[i]? := fun i hi=>by
  rw [p11 i (by omega),p10 i (by omega) (by omega),hH9,Qc (by omega),hH8,Qc (by omega),hH7,Qc (by omega),q6 i (by omega),hG1,Qc hi]
 obtain ⟨l,rfl⟩:=X7 (H:=H) (by omega) pH
 refine ⟨s',l,?_,Grown.weak hg11 (by omega)⟩
 have F1:H++[(⟨shC sv,true,true,true,1⟩:Ob)]=G1:=hG1.symm
 have F7:H6++[(⟨ns .u64 Vu,true,true,true,1⟩:Ob)]=H7:=hH7.symm
 have F9:H8++[(⟨tuC,true,true,true,1⟩:Ob)]=H9:=hH9.symm
 have B7:∀ m:List Ob,(H7++m)[H.length]?=some ⟨shC sv,true,true,true,1⟩:=fun m=>by rw [Qc (by omega)]; exact u7 ((q6 _ (by omega)).trans gB)
 have B8:H8[H.length]?=some ⟨shC sv,true,true,true,1⟩:=u8' (u7 ((q6 _ (by omega)).trans gB))
 have c0:=shC_0 sv
 have c3:=shC_3 sv
 have lsh:=SY sv
 have htu:((shC sv).drop 4).take 12=tuC:=rfl
 have hz16:(Qa 16 [Value.int .u8 0]).flatten=u8s (Qa 16 0):=rfl
 have f128:fillL [Value.int .u8 0] [(0,1,.int .u8 128)]=some [.int .u8 128]:=rfl
 have f0:fillL ([]:List Value) []=some []:=rfl
 have hlen:=DJ (bs:=bs)
 have w1:IntKind.u64.wrap (bs.length:Int)=(bs.length:Nat):=YL (by omega)
 have im1:Q2 H.length [] [G1.length]=[]:=QG (by simp; omega)
 have im2:Q2 H.length [] M6=[]:=QG fun i hi=>by have:=hM6 i hi; omega
 have im3:Q2 H.length [] [H8.length]=[]:=QG (by simp; omega)
 have ltu:=SL
 rw [F7] at htb
 simp only [rzI,rcI,reI,Iv,Qo,Qm,QD,←hH5] at h4 h7 hre hro
 rw [←hsv] at hap
 clear hG1 hH3 hH5 hH7 hH8 hH9 hg3 hg4 hg5 hg6 hg11 he5 p3 p4 p6 p10 p11 pH q6 u7 u8' u9 gh hh k7 k8 k9 htx hst hsha xall hm hall
 generalize shC sv=sc at *
 generalize tuC=tc at *
 generalize u8s (Qa 16 0)=Z16 at *
 generalize hbl:bs.length=n at *
 generalize (bs++Uq n).length=LL at *
 rw [Zg (fn:=wR) rfl]
 simp only [wR,Qs,quiet,cW,↓pW,reduceCtorEq,seval,-Qb,hok,F1,gB,c0,c3,h2b,f128,h80,h4,hz16,hlen,w1,h7,ha6,htb,f0,hap,B7,B8,htu,lsh,ltu,F9,hre,hro,im1,im2,im3,Qz,Qf]
def rtI (tid:Nat) (Hm:List Ob) (X:List Nat) (i:Nat) (ex:Env):St:=⟨[(2,.pointer (some ⟨0,0,none⟩)),(4,.slice (some ⟨tid,0,none⟩) 64 64),(5,.pointer (some ⟨Hm.length,0,none⟩)),(6,.int .i64 i)]++ex,Hm++[⟨u8s X,true,true,true,1⟩],[]⟩
theorem gR {Hm:List Ob} {S:List Nat} {x:Bool} (ht:Hm[tid]?=some ⟨u8s S,true,true,x,1⟩) (lS:S.length=64) :
  Q5 T 0 (.block 0 (.loop M0)) (rtI tid Hm (Qa 64 0) 0 [])=some (.normal,rtI tid Hm S 64 [(17,.bool false)]):=by
 have h:=Jf (T:=T) (base:=0) (id:=0) (body:=M0) (fun i=>rtI tid Hm (pf 64 S i) i []) (s':=rtI tid Hm S 64 [(17,.bool false)]) 64
  (fun i hi=>by
   obtain ⟨w,hw⟩:∃ w,S[i]?=some w:=⟨_,Qe (by omega)⟩
   have hstep:=XK lS hi hw
   have hset:=Xg (pf 64 S i) i w
   rw [hstep] at hset
   have hle:i+1≤(u8s (pf 64 S i)).length:=by rw [Qq,Ke lS (by omega)]; omega
   have e1:((i:Int)<64)=True:=eq_true (by omega)
   have w3:IntKind.i64.wrap ((i:Int)+1)=((i+1:Nat):Int):=ZJ (b:=1) (by omega)
   have gt:∀ m:List Ob,(Hm++m)[tid]?=some ⟨u8s S,true,true,x,1⟩:=fun m=>by rw [Qc (Qg.1 ht).1]; exact ht
   have gw:(u8s S)[i]?=some (.int .u8 (w:Nat)):=Jk hw
   have im:Q2 0 [] [Hm.length]=[]:=QG (by simp)
   generalize pf 64 S i=O1,pf 64 S (i+1)=O2 at *
   generalize hi1:i+1=i1 at *
   simp only [rtI,M0,Qs,quiet,cW,↓pW,reduceCtorEq,seval,-Qb,e1,w3,gt,gw,hset,hle,im,hi1])
  (by
   rw [KC lS]
   simp only [rtI,M0,Qs,quiet,cW,↓pW,reduceCtorEq,seval,-Qb])
 rw [KB] at h
 exact h
theorem MX (xb:∀ y∈bs,y<256) (hb:bs.length<2^46):evVal T 116 [JK bs]=some (.agg (u8s (sha bs)).toArray):=by
 have hz64:Qa 64 (Value.int .u8 0)=u8s (Qa 64 0):=rfl
 have lz64:(Qa 64 0).length=64:=Qf
 obtain ⟨G,hG⟩:∃ X,X=[(⟨u8s (Qa 64 0),true,true,true,1⟩:Ob),⟨shC (.slice (some ⟨2,0,none⟩) 8 8),true,true,true,1⟩,⟨ns .u64 Ys,true,true,true,1⟩]:=⟨_,rfl⟩
 obtain ⟨s,l,h1,hg⟩:=pc (H:=G) (hid:=2) (xe:=true) xb hb (by rw [hG]; rfl)
 have lS:=VR bs
 obtain ⟨tid,x,rfl,h2,h3⟩:=Grown.ob hg (by omega)
 rw [lS] at h1
 have h4:=gR (tid:=tid) h3 lS
 obtain ⟨G2,hG2⟩:∃ X,X=G++l:=⟨_,rfl⟩
 have g0:∀ m:List Ob,(G2++m)[0]?=some ⟨u8s (Qa 64 0),true,true,true,1⟩:=fun m=>by rw [hG2,hG]; rfl
 have s1:∀ (m:List Ob) (o:Ob),(G2.set 0 o++m)[0]?=some o:=fun m o=>by rw [hG2,hG]; rfl
 have s0:∀ (m:List Ob) (o:Ob),(G2++m).set 0 o=(G2.set 0 o)++m:=fun m o=>by rw [hG2,hG]; rfl
 rw [←hG2] at h1 h4
 simp only [rtI,Qo,Qm,QD] at h4
 have fI:fillL (Qa 8 (Value.int .u64 0)) [(0,1,.int .u64 7640891576956012808),(1,1,.int .u64 13503953896175478587),(2,1,.int .u64 4354685564936845355),(3,1,.int .u64 11912009170470909681),(4,1,.int .u64 5840696475078001361),(5,1,.int .u64 11170449401992604703),(6,1,.int .u64 2270897969802886507),(7,1,.int .u64 6620516959819538809)]=some (ns .u64 Ys):=rfl
 rw [hG] at h1
 clear hg h3 hG hG2
 have fT:fillL [Value.int .i64 0,.int .i64 0,.int .i64 0,.slice none 0 0,.int .i64 0,.int .i64 0,.int .i64 0,.int .i64 0,.int .i64 0,.int .i64 0,.int .i64 0,.int .i64 0,.int .i64 0,.int .i64 0,.int .i64 0,.int .i64 0] [(0,1,.int .i64 64),(1,1,.int .i64 80),(2,1,.int .i64 128)]=some ([Value.int .i64 64,.int .i64 80,.int .i64 128,.slice none 0 0]++Qa 12 (.int .i64 0)):=rfl
 have f12:fillL (Qa 12 (Value.int .i64 0)) [(0,1,.int .i64 1),(1,1,.int .i64 8),(2,1,.int .i64 7),(3,1,.int .i64 19),(4,1,.int .i64 61),(5,1,.int .i64 6),(6,1,.int .i64 28),(7,1,.int .i64 34),(8,1,.int .i64 39),(9,1,.int .i64 14),(10,1,.int .i64 18),(11,1,.int .i64 41)]=some tuC:=rfl
 have hs3:([Value.int .i64 64,.int .i64 80,.int .i64 128,.slice none 0 0]++Qa 12 (Value.int .i64 0)).set 3 (Value.slice (some ⟨2,0,none⟩) 8 8)=[Value.int .i64 64,.int .i64 80,.int .i64 128,.slice (some ⟨2,0,none⟩) 8 8]++Qa 12 (Value.int .i64 0):=rfl
 have hs4:splice ([Value.int .i64 64,.int .i64 80,.int .i64 128,.slice (some ⟨2,0,none⟩) 8 8]++Qa 12 (Value.int .i64 0)) 4 tuC=shC (.slice (some ⟨2,0,none⟩) 8 8):=rfl
 have lc1:([Value.int .i64 64,.int .i64 80,.int .i64 128,.slice none 0 0]++Qa 12 (Value.int .i64 0)).length=16:=rfl
 have lc2:([Value.int .i64 64,.int .i64 80,.int .i64 128,.slice (some ⟨2,0,none⟩) 8 8]++Qa 12 (Value.int .i64 0)).length=16:=rfl
 have lsh:=SY (.slice (some ⟨2,0,none⟩) 8 8)
 have ltu:=SL
 have fz:fillL (u8s (Qa 64 0)) []=some (u8s (Qa 64 0)):=rfl
 generalize [Value.int .i64 64,.int .i64 80,.int .i64 128,.slice none 0 0]++Qa 12 (Value.int .i64 0)=C1 at *
 generalize [Value.int .i64 64,.int .i64 80,.int .i64 128,.slice (some ⟨2,0,none⟩) 8 8]++Qa 12 (Value.int .i64 0)=C2 at *
 generalize shC (.slice (some ⟨2,0,none⟩) 8 8)=C3 at *
 generalize tuC=TU at *
 generalize sha bs=S,Qa 64 0=Z64 at *
 apply QC (fn:=wS) rfl
 simp only [wS,Qs,quiet,cW,↓pW,reduceCtorEq,seval,-Qb,hz64,fz,fI,fT,f12,hs3,hs4,lc1,lc2,lsh,ltu,h1,h4,g0,s0,s1,Qy,Q8,Zj,Q9,Qq,lz64,lS,Qz,Qf,Za]
 rfl
theorem Aw (h:a[m]?=some x):num B a=num B (a.take m)+x*B^m+B^(m+1)*num B (a.drop (m+1)):=by
 have hm:m<a.length:=(Qg.1 h).1
 conv=>lhs; rw [←Z7 (m+1) a,KS,J5 h]
 rw [Q4,Zp (by omega)]
theorem DV (ha:∀ x∈a,x<B) (hm:m≤a.length):num B (a.take m)<B^m:=by
 have:=num_lt (B:=B) (l:=a.take m) fun x hx=>ha x (QU hx)
 rwa [Q4,Zp hm] at this
theorem kZ {y:Nat} (hl:a.length=b.length) (ha:∀ x∈a,x<B) (hb:∀ x∈b,x<B) (hx:a[m]?=some x) (hy:b[m]?=some y) (hne:x≠y) (hd:a.drop (m+1)=b.drop (m+1)):(num B a<num B b)↔x<y:=by
 have hm:m<a.length:=(Qg.1 hx).1
 rw [Aw hx,Aw hy,hd]
 have h1:=DV (m:=m) ha (by omega)
 have h2:=DV (m:=m) hb (by omega)
 rcases ZF x y with h | h
 ·have:(x+1)*B^m≤y*B^m:=Zq _ h
  rw [QY,JT] at this
  constructor<;>intro<;>omega
 ·have:(y+1)*B^m≤x*B^m:=Zq _ (by omega)
  rw [QY,JT] at this
  constructor<;>intro<;>omega
def bS (a b:List Nat) (i:Int) (ex:Env):St:=⟨[(2,.pointer (some ⟨0,0,none⟩)),(3,.pointer (some ⟨1,0,none⟩)),(5,.int .i64 i)]++ex,[⟨ns .u64 a,true,true,true,1⟩,⟨ns .u64 b,true,true,true,1⟩],[]⟩
theorem Aa {a b:List Nat} (ha:Nm a) (hb:Nm b) :
  ∀ m,m≤16→a.drop m=b.drop m→Q5 T 0 (.loop Ci) (bS a b ((m:Int)-1) []) =
   if a=b then some (.exit 0,bS a b (-1) [(7,.bool false)]) else some (.ret,⟨[(4,.bool (decide (num 65536 a<num 65536 b)))],[⟨ns .u64 a,true,true,true,1⟩,⟨ns .u64 b,true,true,true,1⟩],[]⟩)
 | 0,_,hd=>by
  rw [ZD,ZD] at hd
  rw [if_pos hd,Jx]
  have e:((0:Int) ≤ -1)=False:=by decide
  simp only [bS,Ci,Qs,quiet,cK,↓pQ,reduceCtorEq,seval,-Qb,cL,Int.zero_sub,e]
 | m+1,hm,hd=>by
  obtain ⟨x,hx⟩:∃ x,a[m]?=some x:=⟨_,Qe (by rw [ha.len]; omega)⟩
  obtain ⟨y,hy⟩:∃ y,b[m]?=some y:=⟨_,Qe (by rw [hb.len]; omega)⟩
  have c1:=ZN (k := .u64) hx
  have c2:=ZN (k := .u64) hy
  have l1:=ha.len
  have l2:=hb.len
  have e0:(((m+1:Nat):Int)-1)=(m:Int):=by omega
  have e1:((0:Int)≤(m:Int))=True:=eq_true (by omega)
  have e2:((m:Int)<16)=True:=eq_true (by omega)
  have e3:IntKind.i64.wrap ((m:Int)-1)=(m:Int)-1:=Zh (by omega) (by omega)
  rw [e0,Jx]
  by_cases hxy:x=y
  ·subst hxy
   have hd':a.drop m=b.drop m:=by
    rw [ZA,hx,hd,←hy,←ZA]
   have ih:=Aa ha hb m (by omega) hd'
   rw [←ih]
   simp only [bS,Ci,Qs,quiet,cK,↓pQ,reduceCtorEq,seval,-Qb,cL,e1,e2,e3,c1,c2,l1,l2,Q7]
  ·have hab:¬ a=b:=fun h=>by subst h; rw [hx] at hy; cases hy; exact hxy rfl
   rw [if_neg hab]
   have hne:((x:Int) != (y:Int))=true:=by simp; omega
   have hlt:=kZ (by rw [l1,l2]) ha.lt hb.lt hx hy hxy hd
   have hdec:decide ((x:Int)<(y:Int))=decide (num 65536 a<num 65536 b):=by
    by_cases h:x<y
    ·rw [decide_eq_true (hlt.2 h),decide_eq_true (by omega)]
    ·rw [decide_eq_false (fun k=>h (hlt.1 k)),decide_eq_false (by omega)]
   simp only [bS,Ci,Qs,quiet,cK,↓pQ,reduceCtorEq,seval,-Qb,cL,e1,e2,e3,c1,c2,hne,hdec,l1,l2,Q7]
theorem ab (ha:Nm a) (hb:Nm b):evVal T 163 [eV a,eV b]=some (.bool (decide (num 65536 a<num 65536 b))):=by
 have hl:=Aa ha hb 16 (Qr _) (by rw [Zw (by rw [ha.len]; omega),Zw (by rw [hb.len]; omega)])
 have l1:=ha.len
 have l2:=hb.len
 have e0:(((16:Nat):Int)-1)=15:=by decide
 rw [e0] at hl
 simp only [bS,Qo,Qm] at hl
 by_cases hab:a=b
 ·rw [if_pos hab] at hl
  subst hab
  apply QC (fn:=a93) rfl
  have hd:decide (num 65536 a<num 65536 a)=false:=by simp
  simp only [a93,Qs,quiet,cW,↓pW,reduceCtorEq,seval,-Qb,Jl,hl,hd,Qf,Qz,Qy,Q8,Zj,Q9,Q7,l1,l2,Za]
  rfl
 ·rw [if_neg hab] at hl
  apply QC (fn:=a93) rfl
  simp only [a93,Qs,quiet,cW,↓pW,reduceCtorEq,seval,-Qb,Jl,hl,Qf,Qz,Qy,Q8,Zj,Q9,Q7,l1,l2,Za]
  rfl
def bW (a:List Nat) (ex:Env):St:=⟨[(1,.pointer (some ⟨0,0,none⟩)),(2,.pointer (some ⟨1,0,none⟩))]++ex,[⟨ns .u64 a,true,true,true,1⟩,⟨ns .u64 ZP,true,true,true,1⟩],[]⟩
theorem Wq (ha:Nm a):evVal T 151 [eV a]=some (eV (dig 65536 16 (num 65536 a%Go.Fp.P))):=by
 have hp:=BZ
 have hP:=Ya
 have hPn:=Ws
 have hlt:=ha.num_lt
 obtain ⟨V,hV⟩:∃ V,V=num 65536 a:=⟨_,rfl⟩
 rw [←hV] at hlt ⊢
 have haV:a=dig 65536 16 V:=by rw [hV]; exact ha.eq
 have hdm:=Z0 V Go.Fp.P
 have lP:=hP.len
 obtain ⟨st,hl,rfl⟩:=Zm (T:=T) (base:=0) (id:=0) (body:=La)
  (fun i st=>st=bW (dig 65536 16 (V-i*Go.Fp.P)) [])
  (Q:=fun st=>st=bW (dig 65536 16 (V%Go.Fp.P)) [(6,.bool false)])
  (V/Go.Fp.P) (s:=bW a []) (by rw [Ks,Kt,←haV])
  (fun i st hi hs=>by
   subst hs
   have h1:(i+1)*Go.Fp.P≤V:=JP (Zq _ hi) (Nat.div_mul_le_self V Go.Fp.P)
   rw [QY,JT] at h1
   have hN:=Nm.dig (V-i*Go.Fp.P)
   have hn:=Vr (v:=V-i*Go.Fp.P) (by omega)
   have g1:=ab hN hP
   have g2:=TZ hN hP (by rw [hn,hPn]; omega)
   rw [hn,hPn,decide_eq_false (by omega)] at g1
   rw [hn,hPn,show V-i*Go.Fp.P-Go.Fp.P=V-(i+1)*Go.Fp.P by rw [QY,JT]; omega] at g2
   have l1:=hN.len
   have l2:=Ze 65536 16 (V-(i+1)*Go.Fp.P)
   generalize dig 65536 16 (V-i*Go.Fp.P)=A at *
   generalize dig 65536 16 (V-(i+1)*Go.Fp.P)=A' at *
   generalize KJ=PL at *
   refine ⟨_,?_,rfl⟩
   simp only [bW,La,Qs,quiet,cW,↓pW,reduceCtorEq,seval,-Qb,hp,g1,g2,Qy,Q8,Zj,Q9,Q7,l1,l2,lP,Qz,Za])
  (fun st hs=>by
   subst hs
   have e:V-V/Go.Fp.P*Go.Fp.P=V%Go.Fp.P:=by rw [Zk]; omega
   rw [e]
   have hm:=Q6 V (by decide:0<Go.Fp.P)
   have hN:=Nm.dig (V%Go.Fp.P)
   have hn:=Vr (v:=V%Go.Fp.P) (QK hm (by decide))
   have g1:=ab hN hP
   rw [hn,hPn,decide_eq_true hm] at g1
   have l1:=hN.len
   generalize dig 65536 16 (V%Go.Fp.P)=A at *
   generalize KJ=PL at *
   refine ⟨_,?_,rfl⟩
   simp only [bW,La,Qs,quiet,cW,↓pW,reduceCtorEq,seval,-Qb,hp,g1,Qy,Q8,Zj,Q9,Q7,l1,lP,Qz,Za])
 have hz:=Ky
 have lz:=X9
 have l1:=ha.len
 have l2:=Ze 65536 16 (V%Go.Fp.P)
 simp only [bW,Qo,Qm] at hl
 generalize ZP=Z at *
 generalize dig 65536 16 (V%Go.Fp.P)=R at *
 apply QC (fn:=a85) rfl
 simp only [a85,Qs,quiet,cW,↓pW,reduceCtorEq,seval,-Qb,hz,hl,Qf,Qz,Qy,Q8,Zj,Q9,Q7,l1,l2,lz,Za]
 rfl
theorem eE:Qa 32 (Value.int .u8 0)=u8s (dig 256 32 0):=rfl
theorem T9:fillL (u8s (dig 256 32 0)) []=some (u8s (dig 256 32 0)):=rfl
theorem w8n (h:n<256):IntKind.u8.wrap (n:Int)=n:=by rw [Wy,Qv h]
def Pp (c o:List Nat) (i:Int) (ex:Env):St:=⟨[(1,.pointer (some ⟨0,0,none⟩)),(2,.pointer (some ⟨1,0,none⟩)),(3,.pointer (some ⟨2,0,none⟩)),(4,.int .i64 i)]++ex,[⟨ns .u64 c,true,true,true,1⟩,⟨u8s (dig 256 32 0),true,true,true,1⟩,⟨u8s o,true,true,true,1⟩],[]⟩
theorem i9 (hi:i<16) :
  Q5 T 0 Cz (Pp (dig 65536 16 V) (pf 32 (dig 256 32 V) (2*i)) i [])=some (.normal,Pp (dig 65536 16 V) (pf 32 (dig 256 32 V) (2*(i+1))) ((i+1:Nat):Int) []):=by
 obtain ⟨x,hx0⟩:∃ x,x=V/65536^i%65536:=⟨_,rfl⟩
 have hx:(dig 65536 16 V)[i]?=some x:=by rw [XL hi,hx0]
 have hx':x<65536:=by rw [hx0]; exact Q6 _ (by decide)
 have e:(65536:Nat)^i=256^(2*i):=by rw [show (65536:Nat)=256^2 from rfl,←Ja]
 rw [e] at hx0
 have hd1:(dig 256 32 V)[2*i]?=some (x%256):=by rw [XL (by omega),hx0]; congr 1; omega
 have hd2:(dig 256 32 V)[2*i+1]?=some (x/256):=by
  rw [XL (by omega),hx0,Zi,←QV]
  congr 1; omega
 have hs1:=XK (Ze 256 32 V) (by omega:2*i<32) hd1
 have hs2:=XK (Ze 256 32 V) (by omega:2*i+1<32) hd2
 have hl1:=Ke (Ze 256 32 V) (by omega:2*i≤32)
 have hl2:=Ke (Ze 256 32 V) (by omega:2*i+1≤32)
 have hset1:=Xg (pf 32 (dig 256 32 V) (2*i)) (2*i) (x%256)
 have hset2:=Xg (pf 32 (dig 256 32 V) (2*i+1)) (2*i+1) (x/256)
 rw [hs1] at hset1
 rw [hs2] at hset2
 rw [show 2*(i+1)=2*i+1+1 by omega]
 have hxc:=ZN (k := .u64) hx
 have w1:IntKind.i64.wrap ((i:Int)+1)=((i+1:Nat):Int):=ZJ (b:=1) (by omega)
 have w2:IntKind.i64.wrap (2*(i:Int))=((2*i:Nat):Int):=BP (a:=2) (by omega)
 have w3:IntKind.i64.wrap (((2*i:Nat):Int)+1)=((2*i+1:Nat):Int):=ZJ (b:=1) (by omega)
 have w4:(x:Int).tmod 256=((x%256:Nat):Int):=rfl
 have w5:IntKind.u8.wrap ((x%256:Nat):Int)=((x%256:Nat):Int):=w8n (by omega)
 have w6:IntKind.u64.wrap ((x:Int).tdiv 256)=((x/256:Nat):Int):=YL (n:=x/256) (by omega)
 have w7:IntKind.u8.wrap ((x/256:Nat):Int)=((x/256:Nat):Int):=w8n (by omega)
 have e1:((i:Int)<16)=True:=eq_true (by omega)
 have e2:(((2*i:Nat):Int)<32)=True:=eq_true (by omega)
 have e3:(((2*i+1:Nat):Int)<32)=True:=eq_true (by omega)
 have e5:(2*i≤31)=True:=eq_true (by omega)
 have e6:(2*i+1≤31)=True:=eq_true (by omega)
 have l1:=Ze 65536 16 V
 generalize dig 65536 16 V=C,pf 32 (dig 256 32 V) (2*i)=o1,pf 32 (dig 256 32 V) (2*i+1)=o2,pf 32 (dig 256 32 V) (2*i+1+1)=o3 at *
 generalize hj1:2*i+1=j1 at *
 generalize hj:2*i=j at *
 simp only [Pp,Cz,Qs,quiet,cW,↓pW,reduceCtorEq,seval,-Qb,hxc,w1,w2,w3,w4,w5,w6,w7,e1,e2,e3,e5,e6,hset1,hset2,Q7,Qq,hl1,hl2,l1]
theorem Gc (ha:Nm a):evVal T 105 [eV a]=some (.agg (u8s (dig 256 32 (nf a).val)).toArray):=by
 have hc:=Wq ha
 have hv:(nf a).val=num 65536 a%Go.Fp.P:=rfl
 rw [hv]
 generalize num 65536 a%Go.Fp.P=V at *
 have hb:=Jf (T:=T) (base:=0) (id:=0) (body:=Cz) (fun i=>Pp (dig 65536 16 V) (pf 32 (dig 256 32 V) (2*i)) i []) (s':=Pp (dig 65536 16 V) (dig 256 32 V) 16 [(9,.bool false)]) 16
  (fun i hi=>i9 hi) (by
   rw [show 2*16=32 from rfl,KC (Ze _ _ _)]
   simp only [Pp,Cz,Qs,quiet,cK,↓pQ,reduceCtorEq,seval,-Qb,cL])
 rw [YZ,KB,show Qa 32 0=dig 256 32 0 from rfl] at hb
 simp only [Pp,Qo,Qm,QD] at hb
 have hz:=eE
 have hf:=T9
 have lz:=Ze 256 32 0
 have l1:=ha.len
 have l2:=Ze 65536 16 V
 have l3:=Ze 256 32 V
 generalize dig 65536 16 V=C,dig 256 32 V=R,dig 256 32 0=Z at *
 apply QC (fn:=a66) rfl
 simp only [a66,Qs,quiet,cW,↓pW,reduceCtorEq,seval,-Qb,hz,hf,hc,hb,Qf,Qz,Qy,Q8,Zj,Q9,Q7,Qq,l1,l2,l3,lz,Za]
 rfl
def fH (d:List Nat) (l:List Ob):List Ob:=⟨ns .u64 d,true,true,true,1⟩::⟨ns .u64 ZP,true,true,true,1⟩::l
def f2I (d:List Nat) (l:List Ob) (c:Nat) (i:Int) (ex:Env):St:=⟨[(1,.pointer (some ⟨0,0,none⟩)),(2,.pointer (some ⟨1,0,none⟩)),(3,.int .u64 c),(4,.int .i64 i)]++ex,fH d l,[]⟩
theorem mY {d:List Nat} (hd:d.length=32) (hM:∀ x∈d,x<2^44) (hN:num 65536 d<65536^32) :
  ∃ o c,Q5 T 0 (.block 2 (.loop Cp)) (f2I d l 0 0 [])=some (.normal,f2I o l c 32 [(11,.bool false)])∧o.length=32∧(∀ x∈o,x<65536)∧num 65536 o=num 65536 d:=by
 obtain ⟨st,hl,o,c,rfl,h1,h2,h3⟩:=Zm (T:=T) (base:=0) (id:=2) (body:=Cp)
  (fun i st=>∃ (o:List Nat) (c:Nat),st=f2I (o++d.drop i) l c i []∧o.length=i∧(∀ x∈o,x<65536)∧c<2^30∧num 65536 (d.take i)=num 65536 o+65536^i*c)
  (Q:=fun st=>∃ (o:List Nat) (c:Nat),st=f2I o l c 32 [(11,.bool false)]∧o.length=32∧(∀ x∈o,x<65536)∧num 65536 d=num 65536 o+65536^32*c)
  32 (s:=f2I d l 0 0 []) ⟨[],0,by rw [ZD]; rfl,rfl,by simp,by omega,by simp [num]⟩
  (fun i st hi hs=>by
   obtain ⟨o,c,rfl,h1,h2,h3,h4⟩:=hs
   obtain ⟨x,hx⟩:∃ x,d[i]?=some x:=⟨_,Qe (by omega)⟩
   have hx':=hM x (Qn hx)
   have hxo:(o++d.drop i)[i]?=some x:=by
    rw [Qh (by omega),h1,Q3,Zt]; exact hx
   have hstep:(o++d.drop i).set i ((x+c)%65536)=(o++[(x+c)%65536])++d.drop (i+1):=by
    rw [Z4 _ _ (by omega),h1,Q3,ZA (i:=i),hx]
    simp
   have hset:=Xo .u64 (o++d.drop i) i ((x+c)%65536)
   rw [hstep] at hset
   have hlen:(o++d.drop i).length=32:=by simp; omega
   have hxc:=ZN (k := .u64) hxo
   have w1:IntKind.i64.wrap ((i:Int)+1)=((i+1:Nat):Int):=ZJ (b:=1) (by omega)
   have w2:IntKind.u64.wrap ((x:Int)+(c:Int))=((x+c:Nat):Int):=Yy (by omega)
   have w3:((x+c:Nat):Int).tmod 65536=(((x+c)%65536:Nat):Int):=rfl
   have w4:IntKind.u64.wrap (((x+c:Nat):Int).tdiv 65536)=(((x+c)/65536:Nat):Int):=YL (n:=(x+c)/65536) (by omega)
   have e1:((i:Int)<32)=True:=eq_true (by omega)
   have e4:(i≤31)=True:=eq_true (by omega)
   refine ⟨f2I ((o++[(x+c)%65536])++d.drop (i+1)) l ((x+c)/65536) ((i+1:Nat):Int) [],?_,o++[(x+c)%65536],(x+c)/65536,rfl,by simp [h1],?_,by omega,?_⟩
   ·generalize (o++[(x+c)%65536])++d.drop (i+1)=O' at *
    generalize o++d.drop i=O at *
    generalize (x+c)/65536=q at *
    generalize (x+c)%65536=m at *
    generalize x+c=v at *
    generalize i+1=i1 at *
    simp only [f2I,fH,Cp,Qs,quiet,cW,↓pW,reduceCtorEq,seval,-Qb,hxc,w1,w2,w3,w4,e1,e4,hset,Q7,hlen]
   ·intro y hy
    rcases QF.1 hy with hy | hy
    ·exact h2 y hy
    ·rw [JW.1 hy]; exact Q6 _ (by decide)
   ·rw [J5 hx,Nv,h1,h4,Zi]
    have h5:x+c=65536*((x+c)/65536)+(x+c)%65536:=(Z0 _ _).symm
    generalize (x+c)/65536=q at *
    generalize (x+c)%65536=m at *
    generalize (65536:Nat)^i=p at *
    have h6:=congrArg (fun t=>t*p) h5
    simp only [QY] at h6
    rw [Zx p,Zk p c,Zk p m,Zk p (65536*q)]
    omega)
  (fun st hs=>by
   obtain ⟨o,c,rfl,h1,h2,h3,h4⟩:=hs
   rw [Ql (by omega)] at h4
   refine ⟨_,?_,o,c,rfl,h1,h2,h4⟩
   rw [Zw (by omega),QA]
   simp only [f2I,fH,Cp,Qs,quiet,cK,↓pQ,reduceCtorEq,seval,-Qb,cL])
 refine ⟨o,c,hl,h1,h2,?_⟩
 rcases Jd c with h | h
 ·rw [h3,h]; omega
 ·exfalso
  have:=Nat.mul_le_mul_left (65536^32) h
  generalize (65536:Nat)^32=M at *
  omega
def YR (l:List Nat):Bool := !(l.all (· == 0))
theorem SA (l:List Nat) (x:Nat):YR (l++[x])=(YR l || !(x==0)):=by simp [YR]
def f1I (d o:List Nat) (l:List Ob) (b:Bool) (i:Int) (ex:Env):St:=⟨[(1,.pointer (some ⟨0,0,none⟩)),(2,.pointer (some ⟨1,0,none⟩)),(6,.pointer (some ⟨l.length+1+1,0,none⟩)),(7,.bool b),(8,.int .i64 i)]++ex,fH d (l++[⟨ns .u64 o,true,true,true,1⟩]),[]⟩
theorem rF {d:List Nat} {b:Bool} (hd:d.length=32) (hi:i<16) (hb:b=YR ((d.drop 16).take i)) :
  Q5 T 0 D8 (f1I d (pf 16 (d.take 16) i) l b i [])=some (.normal,f1I d (pf 16 (d.take 16) (i+1)) l (YR ((d.drop 16).take (i+1))) ((i+1:Nat):Int) []):=by
 obtain ⟨x,hx⟩:∃ x,d[i]?=some x:=⟨_,Qe (by omega)⟩
 obtain ⟨y,hy⟩:∃ y,d[i+16]?=some y:=⟨_,Qe (by omega)⟩
 have hx2:(d.take 16)[i]?=some x:=by rw [QZ,if_pos hi]; exact hx
 have hy2:(d.drop 16)[i]?=some y:=by rw [Zt,Xh]; exact hy
 have hL:(d.take 16).length=16:=by simp; omega
 have hstep:=XK hL hi hx2
 have hlen:=Ke hL (J3 hi)
 have hset:=Xo .u64 (pf 16 (d.take 16) i) i x
 rw [hstep] at hset
 have hxc:=ZN (k := .u64) hx
 have hyc:=ZN (k := .u64) hy
 have hnz:YR ((d.drop 16).take (i+1))=(b || !(y==0)):=by
  rw [Z5,hy2,hb]; exact SA _ _
 rw [hnz]
 have w1:IntKind.i64.wrap ((i:Int)+1)=((i+1:Nat):Int):=ZJ (b:=1) (by omega)
 have w2:IntKind.i64.wrap ((i:Int)+16)=((i+16:Nat):Int):=ZJ (b:=16) (by omega)
 have e1:((i:Int)<16)=True:=eq_true (by omega)
 have e2:((i:Int)<32)=True:=eq_true (by omega)
 have e3:(((i+16:Nat):Int)<32)=True:=eq_true (by omega)
 have e4:(i≤15)=True:=eq_true (by omega)
 have e5:((y:Int) != 0) = !(y==0):=by
  by_cases h:y=0
  ·subst h; rfl
  ·have h':¬ (y:Int)=0:=by omega
   rw [beq_eq_false_iff_ne.2 h,bne_iff_ne.2 h']; rfl
 generalize pf 16 (d.take 16) i=o1,pf 16 (d.take 16) (i+1)=o2 at *
 generalize i+16=j at *
 generalize (!(y==0))=nz at *
 clear hb hnz
 cases b with
 | false=>simp only [f1I,fH,D8,Qs,quiet,cK,↓pQ,reduceCtorEq,seval,-Qb,cL,cJ,hxc,hyc,w1,w2,e1,e2,e3,e4,e5,hset,Q7,hlen,hd,Bool.false_or]
 | true=>simp only [f1I,fH,D8,Qs,quiet,cK,↓pQ,reduceCtorEq,seval,-Qb,cL,cJ,hxc,hyc,w1,w2,e1,e2,e3,e4,e5,hset,Q7,hlen,hd,Bool.true_or]
theorem mZ {d:List Nat} (hd:d.length=32) :
  Q5 T 0 (.block 4 (.loop D8)) (f1I d ZP l false 0 [])=some (.normal,f1I d (d.take 16) l (YR (d.drop 16)) 16 [(27,.bool false)]):=by
 have hL:(d.take 16).length=16:=by simp; omega
 have hb:=Jf (T:=T) (base:=0) (id:=4) (body:=D8) (fun i=>f1I d (pf 16 (d.take 16) i) l (YR ((d.drop 16).take i)) i []) (s':=f1I d (d.take 16) l (YR (d.drop 16)) 16 [(27,.bool false)]) 16
  (fun i hi=>rF hd hi rfl) (by
   rw [KC hL,Ql (l:=d.drop 16) (by simp; omega)]
   simp only [f1I,D8,Qs,quiet,cK,↓pQ,reduceCtorEq,seval,-Qb,cL])
 rw [KB] at hb
 exact hb
def f0I (d:List Nat) (l:List Ob) (i:Int) (ex:Env):St:=⟨[(1,.pointer (some ⟨0,0,none⟩)),(2,.pointer (some ⟨1,0,none⟩)),(9,.int .i64 i)]++ex,fH d l,[]⟩
theorem ng {d:List Nat} (hd:d.length=32) (hM:∀ x∈d,x<65536) :
  ∃ o,Q5 T 0 (.block 6 (.loop Cq)) (f0I d l 0 [])=some (.normal,f0I o l 16 [(47,.bool false)])∧o.length=32∧(∀ x∈o,x<2^44)∧num 65536 o+65536^16*num 65536 (d.drop 16)=num 65536 d+38*num 65536 (d.drop 16):=by
 obtain ⟨st,hl,o,rfl,h1,h2,h3⟩:=Zm (T:=T) (base:=0) (id:=6) (body:=Cq)
  (fun i st=>∃ o:List Nat,st=f0I o l i []∧o.length=32∧(∀ x∈o,x<2^44)∧(∀ j,i≤j→j<16→o[j]?=d[j]?∧o[j+16]?=d[j+16]?)∧num 65536 o+65536^16*num 65536 ((d.drop 16).take i)=num 65536 d+38*num 65536 ((d.drop 16).take i))
  (Q:=fun st=>∃ o:List Nat,st=f0I o l 16 [(47,.bool false)]∧o.length=32∧(∀ x∈o,x<2^44)∧num 65536 o+65536^16*num 65536 (d.drop 16)=num 65536 d+38*num 65536 (d.drop 16))
  16 (s:=f0I d l 0 []) ⟨d,rfl,hd,fun x hx=>JO (hM x hx) (by decide),fun _ _ _=>⟨rfl,rfl⟩,by simp [num]⟩
  (fun i st hi hs=>by
   obtain ⟨o,rfl,h1,h2,h3,h4⟩:=hs
   obtain ⟨x,hx⟩:∃ x,d[i]?=some x:=⟨_,Qe (by omega)⟩
   obtain ⟨y,hy⟩:∃ y,d[i+16]?=some y:=⟨_,Qe (by omega)⟩
   have hx':=hM x (Qn hx)
   have hy':=hM y (Qn hy)
   obtain ⟨ox,oy⟩:=h3 i (Qr _) hi
   rw [hx] at ox
   rw [hy] at oy
   have oy':(o.set i (x+38*y))[i+16]?=some y:=by rw [Qt (by omega)]; exact oy
   have n1:=Kj (B:=65536) (x+38*y) ox
   have n2:=Kj (B:=65536) 0 oy'
   have s1:=Xo .u64 o i (x+38*y)
   have s2:(ns .u64 (o.set i (x+38*y))).set (i+16) (.int .u64 0)=ns .u64 ((o.set i (x+38*y)).set (i+16) 0):=Xo .u64 (o.set i (x+38*y)) (i+16) 0
   have l2:(o.set i (x+38*y)).length=32:=by rw [Q0]; exact h1
   have hxc:=ZN (k := .u64) ox
   have hyc:=ZN (k := .u64) oy
   have hy2:(d.drop 16)[i]?=some y:=by rw [Zt,Xh]; exact hy
   have w1:IntKind.i64.wrap ((i:Int)+1)=((i+1:Nat):Int):=ZJ (b:=1) (by omega)
   have w2:IntKind.i64.wrap ((i:Int)+16)=((i+16:Nat):Int):=ZJ (b:=16) (by omega)
   have w3:IntKind.u64.wrap (38*(y:Int))=((38*y:Nat):Int):=WN (a:=38) (by omega)
   have w4:IntKind.u64.wrap ((x:Int)+((38*y:Nat):Int))=((x+38*y:Nat):Int):=Yy (by omega)
   have e1:((i:Int)<16)=True:=eq_true (by omega)
   have e2:((i:Int)<32)=True:=eq_true (by omega)
   have e3:(((i+16:Nat):Int)<32)=True:=eq_true (by omega)
   have e4:(i≤31)=True:=eq_true (by omega)
   have e5:(i+16≤31)=True:=eq_true (by omega)
   refine ⟨f0I ((o.set i (x+38*y)).set (i+16) 0) l ((i+1:Nat):Int) [],?_,_,rfl,by rw [Q0]; exact l2,?_,?_,?_⟩
   ·generalize (o.set i (x+38*y)).set (i+16) 0=O2 at *
    generalize o.set i (x+38*y)=O1 at *
    generalize hj:i+16=j at *
    generalize x+38*y=v at *
    generalize 38*y=u at *
    generalize i+1=i1 at *
    simp only [f0I,fH,Cq,Qs,quiet,cW,↓pW,reduceCtorEq,seval,-Qb,hxc,hyc,w1,w2,w3,w4,e1,e2,e3,e4,e5,s1,s2,Q7,h1,l2]
   ·exact Vm (Vm h2 (by omega)) (by decide)
   ·intro j hj hj'
    obtain ⟨g1,g2⟩:=h3 j (by omega) hj'
    rw [Qt (by omega),Qt (by omega),Qt (by omega),Qt (by omega)]
    exact ⟨g1,g2⟩
   ·rw [J5 hy2]
    rw [JE] at n2
    generalize num 65536 ((o.set i (x+38*y)).set (i+16) 0)=N2,num 65536 (o.set i (x+38*y))=N1,num 65536 (Zf i (Jo 16 d))=S at *
    generalize (65536:Nat)^i=p at *
    have e16:(65536:Nat)^16=115792089237316195423570985008687907853269984665640564039457584007913129639936:=by decide
    rw [e16] at *
    rw [QY,Zx] at n1
    rw [←Zx] at n2
    rw [V7,V7]
    generalize y*p=yp at *
    omega)
  (fun st hs=>by
   obtain ⟨o,rfl,h1,h2,h3,h4⟩:=hs
   rw [Ql (by simp; omega)] at h4
   refine ⟨_,?_,o,rfl,h1,h2,h4⟩
   simp only [f0I,fH,Cq,Qs,quiet,cK,↓pQ,reduceCtorEq,seval,-Qb,cL])
 exact ⟨o,hl,h1,h2,h3⟩
def f3I (d:List Nat) (l:List Ob) (ex:Env):St:=⟨[(1,.pointer (some ⟨0,0,none⟩)),(2,.pointer (some ⟨1,0,none⟩))]++ex,fH d l,[]⟩
theorem Mm:∀ {l:List Nat},YR l=false→num 65536 l=0
 | [],_=>rfl
 | x::l,h=>by
  have h':((x::l).all (· == 0))=true:=by simpa [YR] using h
  rw [List.all_cons,Bool.and_eq_true] at h'
  have hx:x=0:=by simpa using h'.1
  have ih:=Mm (l:=l) (by unfold YR; rw [h'.2]; rfl)
  rw [num,ih,hx]
theorem kH:∀ {l:List Nat},YR l=true→0<num 65536 l
 | [],h=>by cases h
 | x::l,h=>by
  rw [num]
  by_cases hx:x=0
  ·have:=kH (l:=l) (by
    subst hx
    simpa [YR] using h)
   omega
  ·omega
theorem mP {W H:Nat} (h:W+65536^16*H=V+38*H):Go.Fp.fp W=Go.Fp.fp V:=by
 have h1:=congrArg Go.Fp.fp h
 rw [Go.Fp.Vg,Go.Fp.Vg,Go.Fp.XS,Go.Fp.XS] at h1
 have h2:Go.Fp.fp (65536^16)=Go.Fp.fp 38:=by decide +kernel
 rw [h2] at h1
 generalize Go.Fp.fp W=a,Go.Fp.fp V=b,Go.Fp.fp 38*Go.Fp.fp H=c at *
 clear h h2
 grobner
theorem Pj:∀ (v:Nat) (d:List Nat) (l:List Ob) (ex:Env),num 65536 d=v→d.length=32→(∀ x∈d,x<2^44)→v<65536^32 →
  ∃ r d' l',Q5 T 0 (.loop IZ) (f3I d l ex)=some (.ret,⟨[(2,.pointer (some ⟨1,0,none⟩))],⟨ns .u64 d',true,true,true,1⟩::⟨ns .u64 r,true,true,true,1⟩::l',[]⟩)∧Nm r∧nf r=Go.Fp.fp v:=by
 intro v
 induction v using Nat.strongRecOn with
 | ind v ih =>
  intro d l ex hv hd hM hN
  obtain ⟨o,c,h2,lo,xo,no⟩:=mY (l:=l) hd hM (by rw [hv]; exact hN)
  have h1:=mZ (d:=o) (l:=l) lo
  simp only [f2I,f1I,fH,Qo,Qm,QD] at h2 h1
  have hz:=Ky
  have lz:=X9
  have hf:=Uz
  by_cases hnz:YR (o.drop 16)=true
  ·rw [hnz] at h1
   obtain ⟨o2,h0,lo2,xo2,no2⟩:=ng (l:=l++[⟨ns .u64 (o.take 16),true,true,true,1⟩]) lo xo
   simp only [f0I,fH,Qo,Qm,QD] at h0
   have hpos:=kH hnz
   rw [no,hv] at no2
   have hlt:num 65536 o2<v:=by
    have e16:(65536:Nat)^16=115792089237316195423570985008687907853269984665640564039457584007913129639936:=by decide
    rw [e16] at no2
    omega
   obtain ⟨r,d',l',hr,hr1,hr2⟩   := ih _ hlt o2 (l++[⟨ns .u64 (o.take 16),true,true,true,1⟩]) [(9,.int .i64 16),(47,.bool false)] rfl lo2 xo2 (JO hlt hN)
   refine ⟨r,d',l',?_,hr1,by rw [hr2]; exact mP no2⟩
   rw [←hr,Jx]
   simp only [f3I,fH,Qo,Qm]
   generalize ZP=Z at *
   simp only [f3I,fH,IZ,Qs,quiet,cK,↓pQ,reduceCtorEq,seval,-Qb,cL,cJ,hz,hf,h2,h1,h0,Qf,Q7,lz,Qz,Qy,Q8,Zj,Q9,Za]
  ·have hnz':YR (o.drop 16)=false:=by simpa using hnz
   rw [hnz'] at h1
   have hn0:=Mm hnz'
   have hnum:num 65536 (o.take 16)=v:=by
    have:=KS 65536 (o.take 16) (o.drop 16)
    rw [Z7,hn0,no,hv] at this
    omega
   have lt:(o.take 16).length=16:=by simp; omega
   refine ⟨o.take 16,o,l++[⟨ns .u64 (o.take 16),true,true,true,1⟩],?_,⟨lt,fun x hx=>xo x (QU hx)⟩,by unfold nf; rw [hnum]⟩
   rw [Jx]
   simp only [f3I,fH,Qo,Qm]
   generalize Zf 16 o=R at *
   generalize ZP=Z at *
   simp only [f3I,fH,IZ,Qs,quiet,cK,↓pQ,reduceCtorEq,seval,-Qb,cL,cJ,hz,hf,h2,h1,Qf,Q7,lz,lt,Qz,Qy,Q8,Zj,Q9,Za]
theorem ah {d:List Nat} (hd:d.length=32) (hM:∀ x∈d,x<2^44) (hN:num 65536 d<65536^32):∃ r,evVal T 152 [eV d]=some (eV r)∧Nm r∧nf r=Go.Fp.fp (num 65536 d):=by
 obtain ⟨r,d',l',hr,h1,h2⟩:=Pj _ d [] [] rfl hd hM hN
 refine ⟨r,?_,h1,h2⟩
 simp only [f3I,fH,Qo,Qm] at hr
 have hz:=Ky
 have lz:=X9
 have l1:=h1.len
 generalize ZP=Z at *
 apply QC (fn:=a86) rfl
 simp only [a86,Qs,quiet,cW,↓pW,reduceCtorEq,seval,-Qb,Jl,hz,hr,Qf,Qz,Qy,Q8,Zj,Q9,Q7,hd,l1,lz,Za]
 rfl
theorem Ih (hp:p.length=n) (hq:q.length=n):vEq (some (Qa n true)) false (eV p) (eV q)=some (.bool (p==q)):=by
 unfold eV
 rw [Ii,RZ hp hq]
 rfl
theorem oK (hp:p.length=n) (hq:q.length=n):vEq (some (Qa n true)) true (eV p) (eV q)=some (.bool (!(p==q))):=by
 unfold eV
 rw [DH,RZ hp hq]
 rfl
theorem Sh (x y:Go.Fp.Fe):x + -y=x-y:=by grobner
theorem NQ (x:Go.Fp.Fe):0-x = -x:=by grobner
def Wh:List Nat:=Qa 32 0
theorem SJ:Qa 32 (Value.int .u64 0)=ns .u64 Wh:=rfl
theorem Li:Wh.length=32:=rfl
def abI (a b d:List Nat) (i:Int) (ex:Env):St:=⟨[(2,.pointer (some ⟨0,0,none⟩)),(3,.pointer (some ⟨1,0,none⟩)),(4,.pointer (some ⟨2,0,none⟩)),(5,.pointer (some ⟨3,0,none⟩)),(6,.int .i64 i)]++ex,[⟨ns .u64 a,true,true,true,1⟩,⟨ns .u64 b,true,true,true,1⟩,⟨ns .u64 ZP,true,true,true,1⟩,⟨ns .u64 d,true,true,true,1⟩],[]⟩
theorem Pq (ha:Nm a) (hb:Nm b) :
  ∃ d,Q5 T 0 (.block 0 (.loop Ct)) (abI a b Wh 0 [])=some (.normal,abI a b d 16 [(8,.bool false)])∧d.length=32∧(∀ x∈d,x<2^44)∧num 65536 d=num 65536 a+num 65536 b:=by
 obtain ⟨st,hl,o,rfl,h1,h2,h3⟩:=Zm (T:=T) (base:=0) (id:=0) (body:=Ct)
  (fun i st=>∃ o:List Nat,st=abI a b o i []∧o.length=32∧(∀ x∈o,x<2^44)∧(∀ j,i≤j→j<16→o[j]?=some 0)∧num 65536 o=num 65536 (a.take i)+num 65536 (b.take i))
  (Q:=fun st=>∃ o:List Nat,st=abI a b o 16 [(8,.bool false)]∧o.length=32∧(∀ x∈o,x<2^44)∧num 65536 o=num 65536 a+num 65536 b)
  16 (s:=abI a b Wh 0 []) ⟨Wh,rfl,rfl,by decide,fun j _ hj=>by unfold Wh; rw [List.getElem?_replicate,if_pos (by omega)],by simp [num]; decide⟩
  (fun i st hi hs=>by
   obtain ⟨o,rfl,h1,h2,h3,h4⟩:=hs
   obtain ⟨x,hx⟩:∃ x,a[i]?=some x:=⟨_,Qe (by rw [ha.len]; omega)⟩
   obtain ⟨y,hy⟩:∃ y,b[i]?=some y:=⟨_,Qe (by rw [hb.len]; omega)⟩
   have hx':=ha.lt x (Qn hx)
   have hy':=hb.lt y (Qn hy)
   have n1:=Kj (B:=65536) (x+y) (h3 i (Qr _) hi)
   have s1:=Xo .u64 o i (x+y)
   have hxc:=ZN (k := .u64) hx
   have hyc:=ZN (k := .u64) hy
   have l1:=ha.len
   have l2:=hb.len
   have w1:IntKind.i64.wrap ((i:Int)+1)=((i+1:Nat):Int):=ZJ (b:=1) (by omega)
   have w2:IntKind.u64.wrap ((x:Int)+(y:Int))=((x+y:Nat):Int):=Yy (by omega)
   have e1:((i:Int)<16)=True:=eq_true (by omega)
   have e2:((i:Int)<32)=True:=eq_true (by omega)
   have e4:(i≤31)=True:=eq_true (by omega)
   refine ⟨abI a b (o.set i (x+y)) ((i+1:Nat):Int) [],?_,_,rfl,by rw [Q0]; exact h1,Vm h2 (by omega),?_,?_⟩
   ·generalize o.set i (x+y)=O1 at *
    generalize x+y=v at *
    generalize i+1=i1 at *
    simp only [abI,Ct,Qs,quiet,cW,↓pW,reduceCtorEq,seval,-Qb,hxc,hyc,w1,w2,e1,e2,e4,s1,Q7,h1,l1,l2]
   ·intro j hj hj'
    rw [Qt (by omega)]
    exact h3 j (by omega) hj'
   ·rw [J5 hx,J5 hy]
    rw [QY] at n1
    omega)
  (fun st hs=>by
   obtain ⟨o,rfl,h1,h2,h3,h4⟩:=hs
   rw [Ql (by rw [ha.len]; omega),Ql (by rw [hb.len]; omega)] at h4
   refine ⟨_,?_,o,rfl,h1,h2,h4⟩
   simp only [abI,Ct,Qs,quiet,cK,↓pQ,reduceCtorEq,seval,-Qb,cL])
 exact ⟨o,hl,h1,h2,h3⟩
theorem Gd (ha:Nm a) (hb:Nm b):∃ r,evVal T 111 [eV a,eV b]=some (eV r)∧Nm r∧nf r=nf a+nf b:=by
 obtain ⟨d,hd,l1,h2,h3⟩:=Pq ha hb
 have hal:=ha.num_lt
 have hbl:=hb.num_lt
 obtain ⟨r,hr,hN,hf⟩:=ah l1 h2 (by
  rw [h3]
  have e:(65536:Nat)^32=2^256*2^256:=by decide
  rw [e]
  have:(2:Nat)≤2^256:=by decide
  have:=Zq (2^256) this
  generalize (2:Nat)^256=M at *
  omega)
 refine ⟨r,?_,hN,by rw [hf,h3,Go.Fp.Vg]; rfl⟩
 simp only [abI,Qo,Qm,QD] at hd
 have hz:=Ky
 have lz:=X9
 have hz2:=SJ
 have lz2:=Li
 have la:=ha.len
 have lb:=hb.len
 have lr:=hN.len
 generalize ZP=Z at *
 generalize Wh=Z2 at *
 apply QC (fn:=a72) rfl
 simp only [a72,Qs,quiet,cW,↓pW,reduceCtorEq,seval,-Qb,hz,hz2,hd,hr,Qf,Qz,Qy,Q8,Zj,Q9,Q7,la,lb,l1,lr,lz,lz2,Za]
 rfl
theorem ML:Nm ZP:=⟨rfl,by decide⟩
theorem Dl:num 65536 ZP=0:=by decide
theorem Gm:nf a=0↔num 65536 a%Go.Fp.P=0:=by
 unfold nf
 rw [←Go.Fp.aX,Go.Fp.RK,Nat.zero_mod]
theorem Of {v:Nat} (hv:v<2^256) (hw:w<2^256):(dig 65536 16 v==dig 65536 16 w)=decide (v=w):=by
 by_cases h:v=w
 ·subst h; simp
 ·rw [decide_eq_false h,beq_eq_false_iff_ne.2]
  intro e
  have:=congrArg (num 65536) e
  rw [Vr hv,Vr hw] at this
  exact h this
theorem O9:Go.Fp.P<2^256:=by decide
theorem CV:0<Go.Fp.P:=by decide
theorem EH (a:List Nat):(dig 65536 16 (num 65536 a%Go.Fp.P)==ZP)=decide (nf a=0):=by
 have hz:ZP=dig 65536 16 0:=by decide
 have h1:=Q6 (num 65536 a) CV
 have h2:=O9
 rw [hz,Of (by omega) (by omega)]
 by_cases h:nf a=0
 ·rw [decide_eq_true h,decide_eq_true (Gm.1 h)]
 ·rw [decide_eq_false h,decide_eq_false (fun e=>h (Gm.2 e))]
theorem Pf (ha:Nm a):∃ r,evVal T 112 [eV a]=some (eV r)∧Nm r∧nf r = -nf a:=by
 have hc:=Wq ha
 have hq:=EH a
 have h1:=Q6 (num 65536 a) CV
 have hPl:=O9
 have hC:=Nm.dig (num 65536 a%Go.Fp.P)
 have hCn:=Vr (v:=num 65536 a%Go.Fp.P) (by omega)
 have hp:=BZ
 have hm:=TZ Ya hC (by rw [hCn,Ws]; omega)
 have lP:=Ya.len
 have lC:=hC.len
 have la:=ha.len
 have hz:=Ky
 have lz:=X9
 have hf:=Uz
 rw [hCn,Ws] at hm
 have hceq:=Ih lC lz
 rw [hq] at hceq
 by_cases h:nf a=0
 ·rw [decide_eq_true h] at hceq
  refine ⟨dig 65536 16 (num 65536 a%Go.Fp.P),?_,hC,?_⟩
  ·generalize dig 65536 16 (num 65536 a%Go.Fp.P)=C at *
   generalize ZP=Z at *
   apply QC (fn:=a73) rfl
   simp only [a73,Qs,quiet,cW,↓pW,reduceCtorEq,seval,-Qb,hz,hf,hc,hceq,Qf,Qz,Qy,Q8,Zj,Q9,Q7,la,lC,lz,Za]
   rfl
  ·unfold nf
   rw [hCn,Go.Fp.Ym]
   show nf a = - nf a
   rw [h]; grobner
 ·rw [decide_eq_false h] at hceq
  have hR:=Nm.dig (Go.Fp.P-num 65536 a%Go.Fp.P)
  have hRn:=Vr (v:=Go.Fp.P-num 65536 a%Go.Fp.P) (by omega)
  refine ⟨dig 65536 16 (Go.Fp.P-num 65536 a%Go.Fp.P),?_,hR,?_⟩
  ·have lR:=hR.len
   generalize dig 65536 16 (num 65536 a%Go.Fp.P)=C,dig 65536 16 (Go.Fp.P-num 65536 a%Go.Fp.P)=R at *
   generalize KJ=PL at *
   generalize ZP=Z at *
   apply QC (fn:=a73) rfl
   simp only [a73,Qs,quiet,cW,↓pW,reduceCtorEq,seval,-Qb,hz,hf,hc,hceq,hp,hm,Qf,Qz,Qy,Q8,Zj,Q9,Q7,la,lC,lR,lP,lz,Za]
   rfl
  ·show Go.Fp.fp (num 65536 _)=_
   rw [hRn,Go.Fp.mO (by omega),Go.Fp.Ym,Go.Fp.vn]
   exact NQ _
theorem Dt (ha:Nm a) (hb:Nm b):∃ r,evVal T 108 [eV a,eV b]=some (eV r)∧Nm r∧nf r=nf a-nf b:=by
 obtain ⟨n,hn,hN,hnf⟩:=Pf hb
 obtain ⟨r,hr,hR,hrf⟩:=Gd ha hN
 refine ⟨r,?_,hR,by rw [hrf,hnf,Sh]⟩
 have hz:=Ky
 have lz:=X9
 have la:=ha.len
 have lb:=hb.len
 have lr:=hR.len
 generalize ZP=Z at *
 apply QC (fn:=a69) rfl
 simp only [a69,Qs,quiet,cW,↓pW,reduceCtorEq,seval,-Qb,hz,hn,hr,Qf,Qz,Qy,Q8,Zj,Q9,Q7,la,lb,lr,lz,Za]
 rfl
def IY (a b d:List Nat) (i k:Int) (ex:Env):St:=⟨[(2,.pointer (some ⟨0,0,none⟩)),(3,.pointer (some ⟨1,0,none⟩)),(4,.pointer (some ⟨2,0,none⟩)),(5,.pointer (some ⟨3,0,none⟩)),(6,.int .i64 i),(7,.int .i64 k)]++ex,[⟨ns .u64 a,true,true,true,1⟩,⟨ns .u64 b,true,true,true,1⟩,⟨ns .u64 ZP,true,true,true,1⟩,⟨ns .u64 d,true,true,true,1⟩],[]⟩
theorem Pg {d:List Nat} {S:Nat} (ha:Nm a) (hb:Nm b) (hi:i<16) (hx:a[i]?=some x) (hd:d.length=32) (hM:∀ x∈d,x≤S*4294967296) (hS:S≤256) :
  ∃ d',Q5 T 0 (.block 2 (.loop Cy)) (IY a b d i 0 [])=some (.normal,IY a b d' i 16 [(13,.bool false)])∧d'.length=32∧(∀ x∈d',x≤(S+16)*4294967296)∧num 65536 d'=num 65536 d+x*num 65536 b*65536^i:=by
 have hx':=ha.lt x (Qn hx)
 obtain ⟨st,hl,d',rfl,h2,h3,h4⟩:=Zm (T:=T) (base:=0) (id:=2) (body:=Cy)
  (fun k st=>∃ d':List Nat,st=IY a b d' i k []∧d'.length=32∧(∀ x∈d',x≤(S+k)*4294967296)∧num 65536 d'=num 65536 d+x*num 65536 (b.take k)*65536^i)
  (Q:=fun st=>∃ d':List Nat,st=IY a b d' i 16 [(13,.bool false)]∧d'.length=32∧(∀ x∈d',x≤(S+16)*4294967296)∧num 65536 d'=num 65536 d+x*num 65536 b*65536^i)
  16 (s:=IY a b d i 0 []) ⟨d,rfl,hd,by simpa using hM,by simp [num]⟩
  (fun k st hk hs=>by
   obtain ⟨d',rfl,h2,h3,h4⟩:=hs
   obtain ⟨y,hy⟩:∃ y,b[k]?=some y:=⟨_,Qe (by rw [hb.len]; omega)⟩
   obtain ⟨v,hv⟩:∃ y,d'[i+k]?=some y:=⟨_,Qe (by omega)⟩
   have hy':=hb.lt y (Qn hy)
   have hv':=h3 v (Qn hv)
   have hxy:x*y≤65535*65535:=Nat.mul_le_mul (by omega) (by omega)
   have hxc:=ZN (k := .u64) hx
   have hyc:=ZN (k := .u64) hy
   have hvc:=ZN (k := .u64) hv
   have l1:=ha.len
   have l2:=hb.len
   have e1:((k:Int)<16)=True:=eq_true (by omega)
   have e3:((i:Int)<16)=True:=eq_true (by omega)
   have w1:IntKind.i64.wrap ((k:Int)+1)=((k+1:Nat):Int):=ZJ (b:=1) (by omega)
   have w2:IntKind.i64.wrap ((i:Int)+(k:Int))=((i+k:Nat):Int):=ZJ (by omega)
   have w5:IntKind.u64.wrap ((x:Int)*(y:Int))=((x*y:Nat):Int):=WN (by omega)
   have w6:IntKind.u64.wrap ((v:Int)+((x*y:Nat):Int))=((v+x*y:Nat):Int):=Yy (by omega)
   have hset:=Xo .u64 d' (i+k) (v+x*y)
   have hn:=Kj (B:=65536) (v+x*y) hv
   refine ⟨IY a b (d'.set (i+k) (v+x*y)) i ((k+1:Nat):Int) [],?_,d'.set (i+k) (v+x*y),rfl,by rw [Q0]; exact h2,?_,?_⟩
   ·have e5:(((i+k:Nat):Int)<32)=True:=eq_true (by omega)
    have e7:(i+k≤31)=True:=eq_true (by omega)
    generalize d'.set (i+k) (v+x*y)=D' at *
    generalize v+x*y=u at *
    generalize x*y=xy at *
    generalize i+k=j at *
    generalize k+1=k1 at *
    simp only [IY,Cy,Qs,quiet,cW,↓pW,reduceCtorEq,seval,-Qb,e1,e3,e5,e7,w1,w2,w5,w6,hxc,hyc,hvc,hset,Q7,h2,l1,l2]
   ·intro z hz
    rcases List.mem_or_eq_of_mem_set hz with h | h
    ·exact JP (h3 z h) (Zq _ (Nat.le_succ _))
    ·omega
   ·rw [J5 hy]
    have e8:(v+x*y)*65536^(i+k)=v*65536^(i+k)+x*y*65536^k*65536^i:=by
     rw [QY,Zx (x*y),←JE,Xh k i]
    rw [V7,QY,←Zx x y]
    omega)
  (fun st hs=>by
   obtain ⟨d',rfl,h2,h3,h4⟩:=hs
   rw [Ql (by rw [hb.len]; omega)] at h4
   refine ⟨_,?_,d',rfl,h2,h3,h4⟩
   simp only [IY,Cy,Qs,quiet,cK,↓pQ,reduceCtorEq,seval,-Qb,cL])
 exact ⟨d',hl,h2,h3,h4⟩
theorem Ph (ha:Nm a) (hb:Nm b) :
  ∃ d,Q5 T 0 (.block 0 (.loop Cx)) (abI a b Wh 0 [])=some (.normal,abI a b d 16 [(9,.bool false)])∧d.length=32∧(∀ x∈d,x<2^44)∧num 65536 d=num 65536 a*num 65536 b:=by
 obtain ⟨st,hl,o,rfl,h1,h2,h3⟩:=Zm (T:=T) (base:=0) (id:=0) (body:=Cx)
  (fun i st=>∃ (o:List Nat) (ex:Env),st=abI a b o i ex∧o.length=32∧(∀ x∈o,x≤(i*16)*4294967296)∧num 65536 o=num 65536 (a.take i)*num 65536 b)
  (Q:=fun st=>∃ o:List Nat,st=abI a b o 16 [(9,.bool false)]∧o.length=32∧(∀ x∈o,x<2^44)∧num 65536 o=num 65536 a*num 65536 b)
  16 (s:=abI a b Wh 0 []) ⟨Wh,[],rfl,rfl,by decide,by simp [num]; decide⟩
  (fun i st hi hs=>by
   obtain ⟨o,ex,rfl,h1,h2,h3⟩:=hs
   obtain ⟨x,hx⟩:∃ x,a[i]?=some x:=⟨_,Qe (by rw [ha.len]; omega)⟩
   obtain ⟨d',hb',g1,g2,g3⟩:=Pg ha hb hi hx h1 h2 (by omega)
   simp only [IY,Qo,Qm,QD] at hb'
   have w1:IntKind.i64.wrap ((i:Int)+1)=((i+1:Nat):Int):=ZJ (b:=1) (by omega)
   have e1:((i:Int)<16)=True:=eq_true (by omega)
   refine ⟨abI a b d' ((i+1:Nat):Int) [],?_,d',[],rfl,g1,?_,?_⟩
   ·simp only [abI,Cx,Qs,quiet,cW,↓pW,reduceCtorEq,seval,-Qb,e1,w1,hb']
   ·intro z hz
    exact JP (g2 z hz) (Zq _ (by omega))
   ·rw [g3,h3,J5 hx,QY,Zx,Zx,Zk (num 65536 b) (65536^i)])
  (fun st hs=>by
   obtain ⟨o,ex,rfl,h1,h2,h3⟩:=hs
   rw [Ql (by rw [ha.len]; omega)] at h3
   refine ⟨_,?_,o,rfl,h1,fun x hx=>Js (h2 x hx) (by decide),h3⟩
   simp only [abI,Cx,Qs,quiet,cK,↓pQ,reduceCtorEq,seval,-Qb,cL])
 exact ⟨o,hl,h1,h2,h3⟩
theorem Xb (ha:Nm a) (hb:Nm b):∃ r,evVal T 106 [eV a,eV b]=some (eV r)∧Nm r∧nf r=nf a*nf b:=by
 obtain ⟨d,hd,l1,h2,h3⟩:=Ph ha hb
 have hal:=ha.num_lt
 have hbl:=hb.num_lt
 obtain ⟨r,hr,hN,hf⟩:=ah l1 h2 (by
  rw [h3]
  have e:(65536:Nat)^32=2^256*2^256:=by decide
  rw [e]
  exact Nat.mul_lt_mul'' hal hbl)
 refine ⟨r,?_,hN,by rw [hf,h3,Go.Fp.XS]; rfl⟩
 simp only [abI,Qo,Qm,QD] at hd
 have hz:=Ky
 have lz:=X9
 have hz2:=SJ
 have lz2:=Li
 have la:=ha.len
 have lb:=hb.len
 have lr:=hN.len
 generalize ZP=Z at *
 generalize Wh=Z2 at *
 apply QC (fn:=a67) rfl
 simp only [a67,Qs,quiet,cW,↓pW,reduceCtorEq,seval,-Qb,hz,hz2,hd,hr,Qf,Qz,Qy,Q8,Zj,Q9,Q7,la,lb,l1,lr,lz,lz2,Za]
 rfl
end
section
attribute [local congr] JD JU JC JV Jv
variable {a n k o y z l x:List Nat} {p q:Go.Cv.Pt Go.Fp.P Go.Fp.d} {i w:Nat} {s b m u D N v:Go.Fp.Fe} {ex:Env}
def rpH (a n o:List Nat):List Ob:=[⟨ns .u64 a,true,true,true,1⟩,⟨ns .u64 n,true,true,true,1⟩,⟨ns .u64 ZP,true,true,true,1⟩,⟨ns .u64 o,true,true,true,1⟩]
def rpI (a n o:List Nat) (i:Int) (ex:Env):St:=⟨[(2,.pointer (some ⟨0,0,none⟩)),(3,.pointer (some ⟨1,0,none⟩)),(4,.pointer (some ⟨2,0,none⟩)),(5,.pointer (some ⟨3,0,none⟩)),(6,.int .i64 i)]++ex,rpH a n o,[]⟩
def rbI (a n o:List Nat) (i:Int) (w k:Nat) (ex:Env):St:=⟨[(2,.pointer (some ⟨0,0,none⟩)),(3,.pointer (some ⟨1,0,none⟩)),(4,.pointer (some ⟨2,0,none⟩)),(5,.pointer (some ⟨3,0,none⟩)),(6,.int .i64 i),(7,.int .u64 w),(8,.int .i64 k)]++ex,rpH a n o,[]⟩
theorem iA (hi:i<256) (hw:w<65536) :
  Q5 T 0 (.block 2 (.loop Cn)) (rbI a n o i w 0 [])=some (.normal,rbI a n o i (w/2^(i%16)) (i%16) [(24,.bool false)]):=by
 have e3:(i:Int).tmod 16=((i%16:Nat):Int):=rfl
 have h:=Jf (T:=T) (base:=0) (id:=2) (body:=Cn) (fun k=>rbI a n o i (w/2^k) k []) (s':=rbI a n o i (w/2^(i%16)) (i%16) [(24,.bool false)]) (i%16)
  (fun k hk=>by
   have h16:=Q6 i (by decide:0<16)
   have e1:((k:Int)<((i%16:Nat):Int))=True:=eq_true (by omega)
   have w1:IntKind.i64.wrap ((k:Int)+1)=((k+1:Nat):Int):=ZJ (b:=1) (by omega)
   have hle:w/2^k≤w:=JJ _ _
   have w2:IntKind.u64.wrap (((w/2^k:Nat):Int).tdiv 2)=((w/2^k/2:Nat):Int):=YL (n:=w/2^k/2) (by omega)
   rw [Zi,←QV]
   generalize w/2^k=v at *
   generalize v/2=u at *
   generalize i%16=m at *
   simp only [rbI,rpH,Cn,Qs,quiet,cW,↓pW,reduceCtorEq,seval,-Qb,e1,e3,w1,w2])
  (by
   generalize w/2^(i%16)=v at *
   generalize i%16=m at *
   simp only [rbI,rpH,Cn,Qs,quiet,cW,↓pW,reduceCtorEq,seval,-Qb,e3])
 rw [ZQ,Jy] at h
 exact h
theorem ph (ha:Nm a) (hn:Nm n) (hi:i<256) (ho:Nm o) (hp:nf o=Go.Fp.pow (nf a) (num 65536 n/2^(i+1))) :
  ∃ r ex',Q5 T 0 R1 (rpI a n o i ex)=some (.normal,rpI a n r ((i:Int)-1) ex')∧Nm r∧nf r=Go.Fp.pow (nf a) (num 65536 n/2^i):=by
 obtain ⟨w,hw⟩:∃ w,n[i/16]?=some w:=⟨_,Qe (by rw [hn.len]; omega)⟩
 have hw':=hn.lt w (Qn hw)
 have hwv:=Kk (B:=65536) (by decide) hn.lt hw
 have hwc:=ZN (k := .u64) hw
 have hbit:w/2^(i%16)%2=num 65536 n/2^i%2:=by
  rw [←hwv,show (65536:Nat)=2^16 from rfl,Tb (Q6 _ (by decide)),Z0]
 obtain ⟨r1,m1,g1,g2⟩:=Xb ho ho
 obtain ⟨r2,m2,g3,g4⟩:=Xb g1 ha
 have hlt:=Ut (num 65536 n) i
 have hnum:num 65536 n/2^i=2*(num 65536 n/2^(i+1))+num 65536 n/2^i%2:=by
  rw [Zi,←QV]
  omega
 have hstep:=LO (nf a) (num 65536 n/2^(i+1)) (num 65536 n/2^i%2) hlt
 rw [←hnum,←hp] at hstep
 have hb:=iA (a:=a) (n:=n) (o:=r1) hi hw'
 simp only [rbI,rpH,Qo,Qm,QD] at hb
 have w2:IntKind.i64.wrap ((i:Int).tdiv 16)=((i/16:Nat):Int):=wn (n:=i/16) (by omega)
 have w3:IntKind.i64.wrap ((i:Int)-1)=(i:Int)-1:=Zh (by omega) (by omega)
 have w4:((w/2^(i%16):Nat):Int).tmod 2=((w/2^(i%16)%2:Nat):Int):=rfl
 have e1:((0:Int)≤(i:Int))=True:=eq_true (by omega)
 have e3:(((i/16:Nat):Int)<16)=True:=eq_true (by omega)
 have l0:=ha.len
 have l1:=hn.len
 have l2:=ho.len
 have l3:=g1.len
 have l4:=g3.len
 rw [hbit] at w4
 generalize hB:num 65536 n/2^i%2=B at *
 generalize w/2^(i%16)=wv at *
 by_cases hB1:B=1
 ·have hbq:((B:Int)==1)=true:=by rw [hB1]; rfl
  rw [if_pos hB1] at hstep
  refine ⟨r2,[],?_,g3,by rw [hstep,g4,g2]⟩
  simp only [rpI,rpH,R1,Qs,quiet,cW,↓pW,reduceCtorEq,seval,-Qb,hwc,hb,w2,w3,w4,e1,e3,m1,m2,hbq,Qy,Q8,Zj,Q9,Q7,Qz,l0,l1,l2,l3,l4,Za]
 ·have hbq:((B:Int)==1)=false:=by
   have:B=0:=by omega
   rw [this]; rfl
  rw [if_neg hB1] at hstep
  refine ⟨r1,[],?_,g1,by rw [hstep,g2]⟩
  simp only [rpI,rpH,R1,Qs,quiet,cW,↓pW,reduceCtorEq,seval,-Qb,hwc,hb,w2,w3,w4,e1,e3,m1,m2,hbq,Qy,Q8,Zj,Q9,Q7,Qz,l0,l1,l2,l3,l4,Za]
theorem Is:nf (J9 1)=1:=by unfold nf; rw [Kd (by decide)]; rfl
theorem TY (ha:Nm a) (hn:Nm n):∃ r,evVal T 154 [eV a,eV n]=some (eV r)∧Nm r∧nf r=Go.Fp.pow (nf a) (num 65536 n):=by
 have hK:=hn.num_lt
 obtain ⟨st,hb,r,rfl,hr1,hr2⟩:=Zm (T:=T) (base:=0) (id:=0) (body:=R1)
  (fun j st=>∃ (r:List Nat) (ex:Env),st=rpI a n r ((255:Int)-j) ex∧Nm r∧nf r=Go.Fp.pow (nf a) (num 65536 n/2^(256-j)))
  (Q:=fun st=>∃ r:List Nat,st=rpI a n r (-1) [(11,.bool false)]∧Nm r∧nf r=Go.Fp.pow (nf a) (num 65536 n))
  256 (s:=rpI a n (J9 1) 255 []) ⟨_,[],rfl,Xx 1,by rw [Is,Kt,JH hK]; rfl⟩
  (fun j st hj hs=>by
   obtain ⟨r,ex,rfl,h1,h2⟩:=hs
   obtain ⟨i,hi⟩:∃ i,256-j=i+1:=⟨255-j,by omega⟩
   rw [hi] at h2
   obtain ⟨r',ex',g1,g2,g3⟩:=ph (ex:=ex) ha hn (i:=i) (by omega) h1 h2
   rw [show (255:Int)-j=(i:Int) by omega]
   refine ⟨_,g1,r',ex',?_,g2,?_⟩
   ·rw [show (255:Int)-((j+1:Nat):Int)=(i:Int)-1 by omega]
   ·rw [show 256-(j+1)=i by omega]; exact g3)
  (fun st hs=>by
   obtain ⟨r,ex,rfl,h1,h2⟩:=hs
   rw [Q3,ZQ,Jy] at h2
   have e:((0:Int) ≤ -1)=False:=by decide
   refine ⟨_,?_,r,rfl,h1,h2⟩
   rw [show (255:Int)-((256:Nat):Int) = -1 by omega]
   simp only [rpI,rpH,R1,Qs,quiet,cK,↓pQ,reduceCtorEq,seval,-Qb,cL,e])
 refine ⟨r,?_,hr1,hr2⟩
 have hs:=KY 1 (by decide)
 have ls:=(Xx 1).len
 have hz:=Ky
 have lz:=X9
 have la:=ha.len
 have ln:=hn.len
 have lr:=hr1.len
 simp only [KP] at hs
 simp only [rpI,rpH,Qo,Qm] at hb
 generalize ZP=Z at *
 generalize J9 1=S at *
 apply QC (fn:=a88) rfl
 simp only [a88,Qs,quiet,cW,↓pW,reduceCtorEq,seval,-Qb,hz,hs,hb,Qf,Qz,Qy,Q8,Zj,Q9,Q7,la,ln,lr,ls,lz,Za]
 rfl
theorem UB (ha:Nm a):∃ r,evVal T 110 [eV a]=some (eV r)∧Nm r∧nf r=Go.Fp.iv (nf a):=by
 have hp:=BZ
 have hs:=KY 2 (by decide)
 have hm:=TZ Ya (Xx 2) (by rw [Ws,Kd (by decide)]; decide)
 rw [Ws,Kd (by decide)] at hm
 have hN:=Nm.dig (Go.Fp.P-2)
 have hn:=Vr (v:=Go.Fp.P-2) (by decide)
 obtain ⟨r,hr,h1,h2⟩:=TY ha hN
 rw [hn] at h2
 refine ⟨r,?_,h1,h2⟩
 have hz:=Ky
 have lz:=X9
 have la:=ha.len
 have lp:=Ya.len
 have ls:=(Xx 2).len
 have lm:=hN.len
 have lr:=h1.len
 simp only [JN] at hs
 generalize ZP=Z at *
 generalize KJ=PL at *
 generalize J9 2=S,dig 65536 16 (Go.Fp.P-2)=E at *
 apply QC (fn:=a71) rfl
 simp only [a71,Qs,quiet,cW,↓pW,reduceCtorEq,seval,-Qb,hz,hp,hs,hm,hr,Qf,Qz,Qy,Q8,Zj,Q9,Q7,la,lp,ls,lm,lr,lz,Za]
 rfl
theorem d_eq : -(Go.Fp.fp 121665)*Go.Fp.iv (Go.Fp.fp 121666)=Go.Fp.d:=by
 have h0:Go.Fp.fp 121666≠0:=by decide +kernel
 have h1:=Go.Fp.KK h0
 have h2:Go.Fp.fp 121666*Go.Fp.d = - Go.Fp.fp 121665:=by decide +kernel
 refine Go.Fp.fld.cancel h0 ?_
 rw [h2]
 generalize Go.Fp.iv (Go.Fp.fp 121666)=y at *
 generalize Go.Fp.fp 121666=x,Go.Fp.fp 121665=z at *
 clear h0 h2
 grobner
theorem rd_v:∃ r,evVal T 62 []=some (eV r)∧Nm r∧nf r=Go.Fp.d:=by
 have s1:=KY 121665 (by decide)
 have s2:=KY 121666 (by decide)
 obtain ⟨n,hn,n1,n2⟩:=Pf (Xx 121665)
 obtain ⟨v,hv,v1,v2⟩:=UB (Xx 121666)
 obtain ⟨r,hr,r1,r2⟩:=Xb n1 v1
 refine ⟨r,?_,r1,?_⟩
 ·have hz:=Ky
  have lz:=X9
  have lr:=r1.len
  simp only [JN] at s1 s2
  generalize ZP=Z at *
  generalize J9 121665=S1,J9 121666=S2 at *
  apply QC (fn:=a36) rfl
  simp only [a36,Qs,quiet,cW,↓pW,reduceCtorEq,seval,-Qb,hz,s1,s2,hn,hv,hr,Qf,Qz,Qy,Q8,Zj,Q9,Q7,lr,lz,Za]
  rfl
 ·have e1:nf (J9 121665)=Go.Fp.fp 121665:=by unfold nf; rw [Kd (by decide)]
  have e2:nf (J9 121666)=Go.Fp.fp 121666:=by unfold nf; rw [Kd (by decide)]
  rw [r2,n2,v2,e1,e2,d_eq]
theorem six (l:List Nat) (h:l.length=16):∃ a0 a1 a2 a3 a4 a5 a6 a7 a8 a9 a10 a11 a12 a13 a14 a15,l=[a0,a1,a2,a3,a4,a5,a6,a7,a8,a9,a10,a11,a12,a13,a14,a15]:=by
 match l,h with
 | [a0,a1,a2,a3,a4,a5,a6,a7,a8,a9,a10,a11,a12,a13,a14,a15],_=>exact ⟨a0,a1,a2,a3,a4,a5,a6,a7,a8,a9,a10,a11,a12,a13,a14,a15,rfl⟩
def tL (x y z:List Nat):List Nat:=x++(y++z)
theorem BS (hx:x.length=16) (hy:y.length=16) (hz:z.length=16):(tL x y z).length=48:=by simp [tL,hx,hy,hz]
theorem tri (hx:x.length=16) (hy:y.length=16) (hz:z.length=16) :
  Zf 16 (ns .u64 (tL x y z))=ns .u64 x∧Zf 16 (Jo 16 (ns .u64 (tL x y z)))=ns .u64 y∧Zf 16 (Jo 32 (ns .u64 (tL x y z)))=ns .u64 z:=by
 obtain ⟨a0,a1,a2,a3,a4,a5,a6,a7,a8,a9,a10,a11,a12,a13,a14,a15,rfl⟩:=six _ hx
 obtain ⟨b0,b1,b2,b3,b4,b5,b6,b7,b8,b9,b10,b11,b12,b13,b14,b15,rfl⟩:=six _ hy
 obtain ⟨c0,c1,c2,c3,c4,c5,c6,c7,c8,c9,c10,c11,c12,c13,c14,c15,rfl⟩:=six _ hz
 exact ⟨rfl,rfl,rfl⟩
def Yt:List Nat:=Qa 48 0
theorem T8:Qa 48 (Value.int .u64 0)=ns .u64 Yt:=rfl
theorem DG:Yt.length=48:=rfl
theorem mS (hx:x.length=16) (hy:y.length=16) (hz:z.length=16):fillL (ns .u64 Yt) [(0,16,eV x),(16,16,eV y),(32,16,eV z)]=some (ns .u64 (tL x y z)):=by
 obtain ⟨a0,a1,a2,a3,a4,a5,a6,a7,a8,a9,a10,a11,a12,a13,a14,a15,rfl⟩:=six _ hx
 obtain ⟨b0,b1,b2,b3,b4,b5,b6,b7,b8,b9,b10,b11,b12,b13,b14,b15,rfl⟩:=six _ hy
 obtain ⟨c0,c1,c2,c3,c4,c5,c6,c7,c8,c9,c10,c11,c12,c13,c14,c15,rfl⟩:=six _ hz
 rfl
theorem vp (hy:y.length=16) (hz:z.length=16):fillL (ns .u64 Yt) [(16,16,eV y),(32,16,eV z)]=some (ns .u64 (tL ZP y z)):=by
 obtain ⟨b0,b1,b2,b3,b4,b5,b6,b7,b8,b9,b10,b11,b12,b13,b14,b15,rfl⟩:=six _ hy
 obtain ⟨c0,c1,c2,c3,c4,c5,c6,c7,c8,c9,c10,c11,c12,c13,c14,c15,rfl⟩:=six _ hz
 rfl
structure RRep (x y z:List Nat) (p:Go.Cv.Pt Go.Fp.P Go.Fp.d):Prop where
 nx:Nm x
 ny:Nm y
 nz:Nm z
 ne:nf z≠0
 x:nf x=p.x*nf z
 y:nf y=p.y*nf z
def RP (l:List Nat) (p:Go.Cv.Pt Go.Fp.P Go.Fp.d):Prop:=∃ x y z,l=tL x y z∧RRep x y z p
theorem RP.len {l:List Nat} {p:Go.Cv.Pt Go.Fp.P Go.Fp.d} (h:RP l p):l.length=48:=by
 obtain ⟨x,y,z,rfl,h⟩:=h
 exact BS h.nx.len h.ny.len h.nz.len
theorem fe_m1 (b D:Go.Fp.Fe):b-D*b=b*(1-D):=by grobner
theorem fe_m2 (b D:Go.Fp.Fe):b+D*b=b*(1+D):=by grobner
theorem sum_x {a q w:Go.Fp.Fe} (hs:s*(1+D)=N) (hb:b=a*a)
 (hm:m=b-D*b) (hq:q=b+D*b) (hw:w=N*a):a*m*w=s*(m*q):=by
  subst hw hm hq hb
  rw [←hs]
  clear hs
  grobner
theorem sum_y {a q:Go.Fp.Fe} (hs:s*(1-D)=N) (hb:b=a*a)
 (hm:m=b-D*b) (hq:q=b+D*b):a*q*(N*a)=s*(m*q):=by
  subst hm hq hb
  rw [←hs]
  clear hs
  grobner
theorem iB {x1 y1 z1 x2 y2 z2:Go.Fp.Fe} (n1:z1≠0) (n2:z2≠0) (hx1:x1=p.x*z1) (hy1:y1=p.y*z1) (hx2:x2=q.x*z2) (hy2:y2=q.y*z2)
 {a c e g w:Go.Fp.Fe} (ha:a=z1*z2) (hb:b=a*a) (hc:c=x1*x2) (he:e=y1*y2) (hg:g=Go.Fp.d*(c*e)) (hm:m=b-g) (hu:u=b+g) (hw:w=(x1+y1)*(x2+y2)-c-e) :
    m*u≠0∧a*m*w=(JZ p q).x*(m*u)∧a*u*(e+c)=(JZ p q).y*(m*u):=by
  have F:=Go.Fp.fld
  have hP:=F.denP p.on q.on
  have hM:=F.denM p.on q.on
  have sx:=Go.Cv.Dk Go.Fp.fld p q
  have sy:=Go.Cv.UW Go.Fp.fld p q
  have hx:(JZ p q).x*(1+Go.Fp.d*p.x*q.x*p.y*q.y)=p.x*q.y+q.x*p.y:=sx
  have hy:(JZ p q).y*(1-Go.Fp.d*p.x*q.x*p.y*q.y)=p.y*q.y+p.x*q.x:=sy
  clear sx sy
  generalize (JZ p q).x=s1,(JZ p q).y=s2 at *
  generalize p.x=px at *
  generalize p.y=py at *
  generalize q.x=qx at *
  generalize q.y=qy at *
  generalize Go.Fp.d=d at *
  have an:a≠0:=by rw [ha]; exact F.mul_ne n1 n2
  have bn:b≠0:=by rw [hb]; exact F.mul_ne an an
  have hgb:g=d*px*qx*py*qy*b:=by
    subst hx1 hy1 hx2 hy2 hc he hb ha
    rw [hg]
    clear hg hm hu hw hP hM hx hy n1 n2 an bn F
    grobner
  have hwa:w=(px*qy+qx*py)*a:=by
    subst hx1 hy1 hx2 hy2 hc he ha
    rw [hw]
    clear hg hm hu hw hP hM hx hy n1 n2 an bn F hgb hb
    grobner
  have hec:e+c=(py*qy+px*qx)*a:=by
    subst hx1 hy1 hx2 hy2 hc he ha
    clear hg hm hu hw hP hM hx hy n1 n2 an bn F hgb hb hwa
    grobner
  have hm':m=b-d*px*qx*py*qy*b:=by rw [hm,hgb]
  have hu':u=b+d*px*qx*py*qy*b:=by rw [hu,hgb]
  generalize hD:d*px*qx*py*qy=D at *
  refine ⟨?_,?_,?_⟩
  · have e1:m=b*(1-D):=by rw [hm']; exact fe_m1 _ _
    have e2:u=b*(1+D):=by rw [hu']; exact fe_m2 _ _
    rw [e1,e2]
    exact F.mul_ne (F.mul_ne bn hM) (F.mul_ne bn hP)
  · exact sum_x hx hb hm' hu' hwa
  · rw [hec]
    exact sum_y hy hb hm' hu'
theorem ay {l1 l2 dl:List Nat} (h1:RP l1 p) (h2:RP l2 q) (Nd:Nm dl) (hd:nf dl=Go.Fp.d):∃ r,evVal T 61 [eV l1,eV l2,eV dl]=some (eV r)∧RP r (JZ p q):=by
 obtain ⟨x1,y1,z1,rfl,h1⟩:=h1
 obtain ⟨x2,y2,z2,rfl,h2⟩:=h2
 obtain ⟨a,va,Na,fa⟩:=Xb h1.nz h2.nz
 obtain ⟨b,vb,Nb,fb⟩:=Xb Na Na
 obtain ⟨c,vc,Nc,fc⟩:=Xb h1.nx h2.nx
 obtain ⟨e,ve,Ne,fe'⟩:=Xb h1.ny h2.ny
 obtain ⟨ce,vce,Nce,fce⟩:=Xb Nc Ne
 obtain ⟨g,vg,Ng,fg⟩:=Xb Nd Nce
 obtain ⟨m,vm,Nmm,fm⟩:=Dt Nb Ng
 obtain ⟨u,vu,Nu,fu⟩:=Gd Nb Ng
 obtain ⟨s1,vs1,Ns1,fs1⟩:=Gd h1.nx h1.ny
 obtain ⟨s2,vs2,Ns2,fs2⟩:=Gd h2.nx h2.ny
 obtain ⟨s3,vs3,Ns3,fs3⟩:=Xb Ns1 Ns2
 obtain ⟨s4,vs4,Ns4,fs4⟩:=Dt Ns3 Nc
 obtain ⟨w,vw,Nw,fw⟩:=Dt Ns4 Ne
 obtain ⟨am,vam,Nam,fam⟩:=Xb Na Nmm
 obtain ⟨X,vX,NX,fX⟩:=Xb Nam Nw
 obtain ⟨au,vau,Nau,fau⟩:=Xb Na Nu
 obtain ⟨ec,vec,Nec,fec⟩:=Gd Ne Nc
 obtain ⟨Y,vY,NY,fY⟩:=Xb Nau Nec
 obtain ⟨Z,vZ,NZ,fZ⟩:=Xb Nmm Nu
 obtain ⟨g1,g2,g3⟩:=iB (w:=nf w) (g:=nf g) h1.ne h2.ne h1.x h1.y h2.x h2.y fa fb fc fe' (by rw [fg,hd,fce]) fm fu (by rw [fw,fs4,fs3,fs1,fs2])
 refine ⟨tL X Y Z,?_,X,Y,Z,rfl,NX,NY,NZ,by rw [fZ]; exact g1,by rw [fX,fam,fZ]; exact g2,by rw [fY,fau,fec,fZ]; exact g3⟩
 obtain ⟨u0,u1,u2⟩:=tri h1.nx.len h1.ny.len h1.nz.len
 obtain ⟨v0,v1,v2⟩:=tri h2.nx.len h2.ny.len h2.nz.len
 have L1:=BS h1.nx.len h1.ny.len h1.nz.len
 have L2:=BS h2.nx.len h2.ny.len h2.nz.len
 have L3:=BS NX.len NY.len NZ.len
 have hf:=mS NX.len NY.len NZ.len
 have hz:=Ky
 have lz:=X9
 have hz2:=T8
 have lz2:=DG
 have ld:=Nd.len
 have la:=Na.len
 have lb:=Nb.len
 have lc:=Nc.len
 have le:=Ne.len
 have lg:=Ng.len
 have lm:=Nmm.len
 have lu:=Nu.len
 have lw:=Nw.len
 generalize ZP=Z16 at *
 generalize Yt=Z48 at *
 generalize tL X Y Z=R,tL x1 y1 z1=P1,tL x2 y2 z2=P2 at *
 apply QC (fn:=a35) rfl
 simp only [a35,Qs,quiet,cW,↓pW,reduceCtorEq,seval,-Qb,hz,hz2,u0,u1,u2,v0,v1,v2,hf,va,vb,vc,ve,vce,vg,vm,vu,vs1,vs2,vs3,vs4,vw,vam,vX,vau,vec,vY,vZ,Qf,Qz,Qy,Q8,Zj,Q9,Q7,L1,L2,L3,lz,lz2,ld,la,lb,lc,le,lg,lm,lu,lw,Za]
 rfl
theorem oY:∃ r,evVal T 113 []=some (eV r)∧RP r Ko:=by
 have hs:=KY 1 (by decide)
 have hN:=Xx 1
 have h1:=Is
 have h0:nf ZP=0:=by unfold nf; rw [Dl]; rfl
 refine ⟨tL ZP (J9 1) (J9 1),?_,_,_,_,rfl,ML,hN,hN,by rw [h1]; exact Go.Fp.VV,by rw [h0,h1]; show (0:Go.Fp.Fe)=0*1; grobner,by rw [h1]; show (1:Go.Fp.Fe)=1*1; grobner⟩
 have hf:=vp hN.len hN.len
 have hz2:=T8
 have lz2:=DG
 have L:=BS ML.len hN.len hN.len
 simp only [KP] at hs
 generalize tL ZP (J9 1) (J9 1)=R at *
 generalize J9 1=S at *
 generalize Yt=Z48 at *
 apply QC (fn:=a74) rfl
 simp only [a74,Qs,quiet,cW,↓pW,reduceCtorEq,seval,-Qb,hz2,hs,hf,Qf,Qz,Qy,Q8,Zj,Q9,Q7,L,lz2,Za]
 rfl
def ruH (k P o D:List Nat):List Ob:=[⟨u8s k,true,true,true,1⟩,⟨ns .u64 P,true,true,true,1⟩,⟨ns .u64 Yt,true,true,true,1⟩,⟨ns .u64 o,true,true,true,1⟩,⟨ns .u64 D,true,true,true,1⟩]
def ruI (k P o D:List Nat) (i:Int) (ex:Env):St:=⟨[(2,.pointer (some ⟨0,0,none⟩)),(3,.pointer (some ⟨1,0,none⟩)),(4,.pointer (some ⟨2,0,none⟩)),(5,.pointer (some ⟨3,0,none⟩)),(6,.pointer (some ⟨4,0,none⟩)),(7,.int .i64 i)]++ex,ruH k P o D,[]⟩
def ruB (k P o D:List Nat) (i:Int) (w j:Nat) (ex:Env):St:=⟨[(2,.pointer (some ⟨0,0,none⟩)),(3,.pointer (some ⟨1,0,none⟩)),(4,.pointer (some ⟨2,0,none⟩)),(5,.pointer (some ⟨3,0,none⟩)),(6,.pointer (some ⟨4,0,none⟩)),(7,.int .i64 i),(8,.int .i64 w),(9,.int .i64 j)]++ex,ruH k P o D,[]⟩
theorem uc {P D:List Nat} (hi:i<256) (hw:w<256) :
  Q5 T 0 (.block 2 (.loop CM)) (ruB k P o D i w 0 [])=some (.normal,ruB k P o D i (w/2^(i%8)) (i%8) [(24,.bool false)]):=by
 have e3:(i:Int).tmod 8=((i%8:Nat):Int):=rfl
 have h:=Jf (T:=T) (base:=0) (id:=2) (body:=CM) (fun j=>ruB k P o D i (w/2^j) j []) (s':=ruB k P o D i (w/2^(i%8)) (i%8) [(24,.bool false)]) (i%8)
  (fun j hj=>by
   have h16:=Q6 i (by decide:0<8)
   have e1:((j:Int)<((i%8:Nat):Int))=True:=eq_true (by omega)
   have w1:IntKind.i64.wrap ((j:Int)+1)=((j+1:Nat):Int):=ZJ (b:=1) (by omega)
   have hle:w/2^j≤w:=JJ _ _
   have w2:IntKind.i64.wrap (((w/2^j:Nat):Int).tdiv 2)=((w/2^j/2:Nat):Int):=wn (n:=w/2^j/2) (by omega)
   rw [Zi,←QV]
   generalize w/2^j=v at *
   generalize v/2=u at *
   generalize i%8=m at *
   simp only [ruB,ruH,CM,Qs,quiet,cW,↓pW,reduceCtorEq,seval,-Qb,e1,e3,w1,w2])
  (by
   generalize w/2^(i%8)=v at *
   generalize i%8=m at *
   simp only [ruB,ruH,CM,Qs,quiet,cW,↓pW,reduceCtorEq,seval,-Qb,e3])
 rw [ZQ,Jy] at h
 exact h
theorem pb {P D:List Nat} (lk:k.length=32) (xk:∀ x∈k,x<256) (hi:i<256) (hP:RP P p) (ho:RP o q) (ND:Nm D) (hD:nf D=Go.Fp.d) :
  ∃ P' o',Q5 T 0 R4 (ruI k P o D i ex)=some (.normal,ruI k P' o' D ((i+1:Nat):Int) [])∧RP P' (JZ p p)∧RP o' (if num 256 k/2^i%2=1 then JZ q p else q):=by
 obtain ⟨w,hw⟩:∃ w,k[i/8]?=some w:=⟨_,Qe (by omega)⟩
 have hw':=xk w (Qn hw)
 have hwv:=Kk (B:=256) (by decide) xk hw
 have hwc:=Jk hw
 have hbit:w/2^(i%8)%2=num 256 k/2^i%2:=by
  rw [←hwv,show (256:Nat)=2^8 from rfl,Tb (Q6 _ (by decide)),Z0]
 obtain ⟨r1,m1,g1⟩:=ay ho hP ND hD
 obtain ⟨r2,m2,g2⟩:=ay hP hP ND hD
 have hb:=uc (k:=k) (P:=P) (o:=o) (D:=D) hi hw'
 simp only [ruB,ruH,Qo,Qm,QD] at hb
 have hlt:=Ut (num 256 k) i
 have w0:IntKind.i64.wrap (w:Int)=(w:Int):=wn (by omega)
 have w2:IntKind.i64.wrap ((i:Int).tdiv 8)=((i/8:Nat):Int):=wn (n:=i/8) (by omega)
 have w3:IntKind.i64.wrap ((i:Int)+1)=((i+1:Nat):Int):=ZJ (b:=1) (by omega)
 have w4:((w/2^(i%8):Nat):Int).tmod 2=((w/2^(i%8)%2:Nat):Int):=rfl
 have e1:((i:Int)<256)=True:=eq_true (by omega)
 have e3:(((i/8:Nat):Int)<32)=True:=eq_true (by omega)
 have l1:=hP.len
 have l2:=ho.len
 have l3:=g1.len
 have l4:=g2.len
 have l5:=ND.len
 rw [hbit] at w4
 generalize hB:num 256 k/2^i%2=B at *
 generalize w/2^(i%8)=wv at *
 by_cases hB1:B=1
 ·have hbq:((B:Int)==1)=true:=by rw [hB1]; rfl
  rw [if_pos hB1]
  refine ⟨r2,r1,?_,g2,g1⟩
  simp only [ruI,ruH,R4,Qs,quiet,cW,↓pW,reduceCtorEq,seval,-Qb,hwc,hb,w0,w2,w3,w4,e1,e3,m1,m2,hbq,Qy,Q8,Zj,Q9,Q7,Qq,lk,Qz,l1,l2,l3,l4,l5,Za]
 ·have hbq:((B:Int)==1)=false:=by
   have:B=0:=by omega
   rw [this]; rfl
  rw [if_neg hB1]
  refine ⟨r2,o,?_,g2,ho⟩
  simp only [ruI,ruH,R4,Qs,quiet,cW,↓pW,reduceCtorEq,seval,-Qb,hwc,hb,w0,w2,w3,w4,e1,e3,m1,m2,hbq,Qy,Q8,Zj,Q9,Q7,Qq,lk,Qz,l1,l2,l3,l4,l5,Za]
theorem bZ (p:Go.Cv.Pt Go.Fp.P Go.Fp.d):Jq 1 p=p:=Go.Cv.mul_one Go.Fp.fld p
theorem Fh (a b:Nat) (p:Go.Cv.Pt Go.Fp.P Go.Fp.d):Jq (a+b) p=JZ (Jq a p) (Jq b p):=Go.Cv.mul_add Go.Fp.fld a b p
theorem RB (hl:RP l p) (lk:k.length=32) (xk:∀ x∈k,x<256):∃ r,evVal T 56 [.agg (u8s k).toArray,eV l]=some (eV r)∧RP r (Jq (num 256 k) p):=by
 have hK:=num_lt xk
 rw [lk,show (256:Nat)^32=2^256 from by rw [show (256:Nat)=2^8 from rfl,←Ja]] at hK
 obtain ⟨z,hz,rz⟩:=oY
 obtain ⟨D,hD,ND,fD⟩:=rd_v
 obtain ⟨st,hb,P',r,rfl,hP',hr⟩:=Zm (T:=T) (base:=0) (id:=0) (body:=R4)
  (fun i st=>∃ (P o:List Nat) (ex:Env),st=ruI k P o D i ex∧RP P (Jq (2^i) p)∧RP o (Jq (num 256 k%2^i) p))
  (Q:=fun st=>∃ P o:List Nat,st=ruI k P o D 256 [(13,.bool false)]∧P.length=48∧RP o (Jq (num 256 k) p))
  256 (s:=ruI k l z D 0 []) ⟨l,z,[],rfl,by rw [ZQ,bZ]; exact hl,by rw [ZQ,Nat.mod_one]; exact rz⟩
  (fun i st hi hs=>by
   obtain ⟨P,o,ex,rfl,h1,h2⟩:=hs
   obtain ⟨P',o',g1,g2,g3⟩:=pb (ex:=ex) lk xk hi h1 h2 ND fD
   refine ⟨_,g1,P',o',[],rfl,?_,?_⟩
   ·rw [Zi,Nat.mul_two,Fh]; exact g2
   ·have hm:num 256 k%2^(i+1)=num 256 k%2^i+2^i*(num 256 k/2^i%2):=Nat.mod_pow_succ
    have hlt:=Ut (num 256 k) i
    rw [hm]
    by_cases hB:num 256 k/2^i%2=1
    ·rw [if_pos hB] at g3
     rw [hB,Kv,Fh]; exact g3
    ·rw [if_neg hB] at g3
     rw [show num 256 k/2^i%2=0 by omega,YZ,ZV]; exact g3)
  (fun st hs=>by
   obtain ⟨P,o,ex,rfl,h1,h2⟩:=hs
   rw [Qv hK] at h2
   refine ⟨_,?_,P,o,rfl,h1.len,h2⟩
   simp only [ruI,ruH,R4,Qs,quiet,cK,↓pQ,reduceCtorEq,seval,-Qb,cL])
 refine ⟨r,?_,hr⟩
 have hz2:=T8
 have lz2:=DG
 have l1:=hl.len
 have l2:=rz.len
 have l3:=ND.len
 have l4:=hr.len
 simp only [ruI,ruH,Qo,Qm] at hb
 generalize Yt=Z48 at *
 apply QC (fn:=a38) rfl
 simp only [a38,Qs,quiet,cW,↓pW,reduceCtorEq,seval,-Qb,hz2,hz,hD,hb,Qf,Qz,Qy,Q8,Zj,Q9,Q7,Qq,lk,l1,l2,l3,l4,hP',lz2,Za]
 rfl
theorem lU (hl:l.length=32) (h:∀ x∈l,x<256):l=dig 256 32 (num 256 l):=by
 have:=YW (B:=256) (by decide) h
 rw [hl] at this
 exact this.symm
theorem oO {v:Nat} (hv:v<2^255):∃ w,(dig 256 32 v)[31]?=some w∧w<128∧(dig 256 32 v).set 31 (w+128)=dig 256 32 (v+2^255):=by
 obtain ⟨w,hw⟩:∃ w,(dig 256 32 v)[31]?=some w:=⟨_,Qe (by rw [Ze]; decide)⟩
 have hwv:w=v/256^31%256:=by rw [XL (by decide)] at hw; exact (XH hw).symm
 have e31:(256:Nat)^31=452312848583266388373324160190187140051835877600158453279131187530910662656:=by decide
 have e32:(256:Nat)^32=115792089237316195423570985008687907853269984665640564039457584007913129639936:=by decide
 have e255:(2:Nat)^255=57896044618658097711785492504343953926634992332820282019728792003956564819968:=by decide
 have hw128:w<128:=by
  rw [e31] at hwv
  rw [e255] at hv
  omega
 refine ⟨w,hw,hw128,?_⟩
 have hlt:∀ x∈(dig 256 32 v).set 31 (w+128),x<256:=Vm (fun x hx=>Vh (by decide) hx) (by omega)
 refine (lU (by rw [Q0,Ze]) hlt).trans (congrArg (dig 256 32) ?_)
 have hs:=Kj (B:=256) (w+128) hw
 have hn:num 256 (dig 256 32 v)=v:=by
  rw [XA (by decide)]
  refine Qv ?_
  rw [e32]
  rw [e255] at hv
  omega
 rw [hn,e31] at hs
 rw [e255]
 omega
theorem EW (h:RP l p):evVal T 55 [eV l]=some (.agg (u8s (enc p)).toArray):=by
 obtain ⟨x,y,z,rfl,h⟩:=h
 obtain ⟨i,vi,Ni,fi⟩:=UB h.nz
 obtain ⟨a,va,Na,fa⟩:=Xb h.ny Ni
 obtain ⟨b,vb,Nb,fb⟩:=Xb h.nx Ni
 have hinv:=Go.Fp.KK h.ne
 have fa':nf a=p.y:=by rw [fa,fi,h.y]; grobner
 have fb':nf b=p.x:=by rw [fb,fi,h.x]; grobner
 have k1:=Gc Na
 have k2:=Gc Nb
 rw [fa'] at k1
 rw [fb'] at k2
 obtain ⟨u0,u1,u2⟩:=tri h.nx.len h.ny.len h.nz.len
 have L1:=BS h.nx.len h.ny.len h.nz.len
 have li:=Ni.len
 have lk:(dig 256 32 p.y.val).length=32:=Ze _ _ _
 have lj:(dig 256 32 p.x.val).length=32:=Ze _ _ _
 have lz:=Ze 256 32 0
 have hz:=eE
 have h0:(dig 256 32 p.x.val)[0]?=some (p.x.val%256):=by rw [XL (by decide),ZQ,Jy]
 have h0c:=Jk h0
 have e0:((p.x.val%256:Nat):Int).tmod 2=((p.x.val%2:Nat):Int):=by
  have:p.x.val%256%2=p.x.val%2:=by omega
  rw [←this]; rfl
 obtain ⟨w,hw,hw',AJ⟩:=oO (BR p.y)
 have hwc:=Jk hw
 have hset:=Xg (dig 256 32 p.y.val) 31 (w+128)
 rw [AJ] at hset
 have wadd:IntKind.u8.wrap ((w:Int)+128)=((w+128:Nat):Int):=w8n (n:=w+128) (by omega)
 have lE:=Ze 256 32 (p.y.val+2^255)
 generalize tL x y z=P1,dig 256 32 0=Z at *
 by_cases ho:p.x.val%2=1
 ·have hbq:((p.x.val%2:Nat):Int)==1:=by rw [ho]; rfl
  have hbq':(((p.x.val%2:Nat):Int)==1)=true:=hbq
  have he:enc p=dig 256 32 (p.y.val+2^255):=by rw [enc,Mc,ho,JT]
  rw [he]
  generalize dig 256 32 (p.y.val+2^255)=E,dig 256 32 p.y.val=Y,dig 256 32 p.x.val=X at *
  generalize p.x.val%2=par at *
  generalize p.x.val%256=x0 at *
  apply QC (fn:=a33) rfl
  simp only [a33,Qs,quiet,cW,↓pW,reduceCtorEq,seval,-Qb,hz,u0,u1,u2,vi,va,vb,k1,k2,h0c,e0,hbq',hwc,wadd,hset,Qf,Qz,Qy,Q8,Zj,Q9,Q7,Qq,lk,lj,li,lz,lE,L1,Za]
  rfl
 ·have hbq':(((p.x.val%2:Nat):Int)==1)=false:=by
   rw [show p.x.val%2=0 by omega]; rfl
  have he:enc p=dig 256 32 p.y.val:=by rw [enc,Mc,show p.x.val%2=0 by omega,Ks,ZV]
  rw [he]
  generalize dig 256 32 p.y.val=Y,dig 256 32 p.x.val=X at *
  generalize p.x.val%2=par at *
  generalize p.x.val%256=x0 at *
  apply QC (fn:=a33) rfl
  simp only [a33,Qs,quiet,cW,↓pW,reduceCtorEq,seval,-Qb,hz,u0,u1,u2,vi,va,vb,k1,k2,h0c,e0,hbq',Qf,Qz,Qy,Q8,Zj,Q9,Q7,Qq,lk,lj,li,lz,L1,Za]
  rfl
def hmI (n:List Nat) (i:Int) (c:Nat) (j:Int) (ex:Env):St:=⟨[(0,.pointer (some ⟨0,0,none⟩)),(1,.pointer (some ⟨1,0,none⟩)),(2,.int .i64 i),(3,.int .u64 c),(4,.int .i64 j)]++ex,[⟨ns .u64 ZP,true,true,true,1⟩,⟨ns .u64 n,true,true,true,1⟩],[]⟩
theorem mn {i:Int} (hn:Nm n) :
  Q5 T 0 (.block 2 (.loop Cm)) (hmI n i 0 15 [])=some (.normal,hmI (dig 65536 16 (num 65536 n/2)) i (num 65536 n%2) (-1) [(16,.bool false)]):=by
 have hD:Nm (dig 65536 16 (num 65536 n/2)):=Nm.dig _
 obtain ⟨D,hDd⟩:∃ D,D=dig 65536 16 (num 65536 n/2):=⟨_,rfl⟩
 rw [←hDd] at hD ⊢
 have hlt:=hn.num_lt
 obtain ⟨st,hb,rfl⟩:=Zm (T:=T) (base:=0) (id:=2) (body:=Cm)
  (fun j st=>st=hmI (n.take (16-j)++D.drop (16-j)) i (num 65536 n/65536^(16-j)%2) ((15:Int)-j) [])
  (Q:=fun st=>st=hmI D i (num 65536 n%2) (-1) [(16,.bool false)])
  16 (s:=hmI n i 0 15 []) (by
   rw [Kt,Ql (by rw [hn.len]; omega),Zw (by rw [hD.len]; omega),QA,JH hlt]; rfl)
  (fun j st hj hs=>by
   subst hs
   obtain ⟨m,hm⟩:∃ m,16-j=m+1:=⟨15-j,by omega⟩
   rw [hm,show (15:Int)-j=(m:Int) by omega,show 16-(j+1)=m by omega,show (15:Int)-((j+1:Nat):Int)=(m:Int)-1 by omega]
   refine ⟨_,?_,rfl⟩
   obtain ⟨x,hx⟩:∃ x,n[m]?=some x:=⟨_,Qe (by rw [hn.len]; omega)⟩
   have hx':=hn.lt x (Qn hx)
   have hxv:=Kk (B:=65536) (by decide) hn.lt hx
   obtain ⟨c,hc⟩:∃ c,c=num 65536 n/65536^(m+1)%2:=⟨_,rfl⟩
   rw [←hc]
   have hc2:num 65536 n/65536^m/65536%2=c:=by rw [hc,Zi,QV]
   have hxl:(n.take (m+1)++D.drop (m+1))[m]?=some x:=by
    rw [Qc (by rw [Q4,hn.len]; omega),QZ,if_pos (by omega)]; exact hx
   have hdg:D[m]?=some ((x+c*65536)/2):=by
    rw [hDd,XL (by omega)]
    congr 1
    rw [QV,Zk 2,←QV]
    generalize num 65536 n/65536^m=q at *
    omega
   have hcn:num 65536 n/65536^m%2=(x+c*65536)%2:=by
    generalize num 65536 n/65536^m=q at *
    omega
   rw [hcn]
   have hstep:(n.take (m+1)++D.drop (m+1)).set m ((x+c*65536)/2)=n.take m++D.drop m:=by
    rw [XY _ _ (by rw [Q4,hn.len]; omega),Z5,hx]
    rw [Z4 _ _ (by rw [Q4]; omega)]
    have e:(n.take m).length=m:=by rw [Q4,hn.len]; omega
    rw [e,Q3,ZA (i:=m),hdg]
    simp
   have hset:=Xo .u64 (n.take (m+1)++D.drop (m+1)) m ((x+c*65536)/2)
   rw [hstep] at hset
   have hlen:(n.take (m+1)++D.drop (m+1)).length=16:=by rw [Qj,Q4,QP,hn.len,hD.len]; omega
   have hxc:=ZN (k := .u64) hxl
   have hcb:c<2:=by rw [hc]; exact Q6 _ (by decide)
   have w1:IntKind.i64.wrap ((m:Int)-1)=(m:Int)-1:=Zh (by omega) (by omega)
   have w2:IntKind.u64.wrap ((c:Int)*65536)=((c*65536:Nat):Int):=WN (b:=65536) (by omega)
   have w3:IntKind.u64.wrap ((x:Int)+((c*65536:Nat):Int))=((x+c*65536:Nat):Int):=Yy (by omega)
   have w4:IntKind.u64.wrap (((x+c*65536:Nat):Int).tdiv 2)=(((x+c*65536)/2:Nat):Int):=YL (n:=(x+c*65536)/2) (by omega)
   have w5:((x+c*65536:Nat):Int).tmod 2=(((x+c*65536)%2:Nat):Int):=rfl
   have e1:((0:Int)≤(m:Int))=True:=eq_true (by omega)
   have e2:((m:Int)<16)=True:=eq_true (by omega)
   have e4:(m≤15)=True:=eq_true (by omega)
   clear hc hc2 hcn hdg hstep
   generalize n.take (m+1)++D.drop (m+1)=A1,n.take m++D.drop m=A2 at *
   generalize (x+c*65536)/2=u at *
   generalize (x+c*65536)%2=u2 at *
   generalize x+c*65536=v at *
   generalize c*65536=v2 at *
   simp only [hmI,Cm,Qs,quiet,cW,↓pW,reduceCtorEq,seval,-Qb,hxc,w1,w2,w3,w4,w5,e1,e2,e4,hset,Q7,hlen])
  (fun st hs=>by
   subst hs
   have e:((0:Int) ≤ -1)=False:=by decide
   refine ⟨_,?_,rfl⟩
   rw [show (15:Int)-((16:Nat):Int) = -1 by omega,Q3,Jz,ZD,Qm,ZQ,Jy]
   simp only [hmI,Cm,Qs,quiet,cK,↓pQ,reduceCtorEq,seval,-Qb,cL,e])
 exact hb
def hmO (n:List Nat) (i:Int) (ex:Env):St:=⟨[(0,.pointer (some ⟨0,0,none⟩)),(1,.pointer (some ⟨1,0,none⟩)),(2,.int .i64 i)]++ex,[⟨ns .u64 ZP,true,true,true,1⟩,⟨ns .u64 n,true,true,true,1⟩],[]⟩
theorem ml (hn:Nm n) :
  Q5 T 0 (.block 0 (.loop Cl)) (hmO n 0 [])=some (.normal,hmO (dig 65536 16 (num 65536 n/2^2)) 2 [(12,.bool false)]):=by
 obtain ⟨st,hb,rfl⟩:=Zm (T:=T) (base:=0) (id:=0) (body:=Cl)
  (fun i st=>∃ ex,st=hmO (dig 65536 16 (num 65536 n/2^i)) i ex)
  (Q:=fun st=>st=hmO (dig 65536 16 (num 65536 n/2^2)) 2 [(12,.bool false)])
  2 (s:=hmO n 0 []) ⟨[],by rw [ZQ,Jy,←hn.eq]; rfl⟩
  (fun i st hi hs=>by
   obtain ⟨ex,rfl⟩:=hs
   have hN:=Nm.dig (num 65536 n/2^i)
   have hlt:num 65536 n/2^i<2^256:=Js (JJ _ _) hn.num_lt
   have hb:=mn (i:=(i:Int)) hN
   rw [Vr hlt,QV,←Zi] at hb
   simp only [hmI,Qo,Qm,QD] at hb
   have w1:IntKind.i64.wrap ((i:Int)+1)=((i+1:Nat):Int):=ZJ (b:=1) (by omega)
   have e1:((i:Int)<2)=True:=eq_true (by omega)
   refine ⟨_,?_,[],rfl⟩
   generalize dig 65536 16 (num 65536 n/2^i)=A at *
   generalize dig 65536 16 (num 65536 n/2^(i+1))=A' at *
   simp only [hmO,Cl,Qs,quiet,cW,↓pW,reduceCtorEq,seval,-Qb,hb,w1,e1])
  (fun st hs=>by
   obtain ⟨ex,rfl⟩:=hs
   refine ⟨_,?_,rfl⟩
   generalize dig 65536 16 (num 65536 n/2^2)=A at *
   simp only [hmO,Cl,Qs,quiet,cW,↓pW,reduceCtorEq,seval,-Qb])
 exact hb
def hrI (a n:List Nat) (i:Int) (c:Nat) (j:Int) (ex:Env):St:=⟨[(1,.pointer (some ⟨0,0,none⟩)),(2,.pointer (some ⟨1,0,none⟩)),(4,.pointer (some ⟨2,0,none⟩)),(5,.int .i64 i),(6,.int .u64 c),(7,.int .i64 j)]++ex,[⟨ns .u64 a,true,true,true,1⟩,⟨ns .u64 ZP,true,true,true,1⟩,⟨ns .u64 n,true,true,true,1⟩],[]⟩
theorem mj {i:Int} (hn:Nm n) :
  Q5 T 0 (.block 2 (.loop Cw)) (hrI a n i 0 15 [])=some (.normal,hrI a (dig 65536 16 (num 65536 n/2)) i (num 65536 n%2) (-1) [(20,.bool false)]):=by
 have hD:Nm (dig 65536 16 (num 65536 n/2)):=Nm.dig _
 obtain ⟨D,hDd⟩:∃ D,D=dig 65536 16 (num 65536 n/2):=⟨_,rfl⟩
 rw [←hDd] at hD ⊢
 have hlt:=hn.num_lt
 obtain ⟨st,hb,rfl⟩:=Zm (T:=T) (base:=0) (id:=2) (body:=Cw)
  (fun j st=>st=hrI a (n.take (16-j)++D.drop (16-j)) i (num 65536 n/65536^(16-j)%2) ((15:Int)-j) [])
  (Q:=fun st=>st=hrI a D i (num 65536 n%2) (-1) [(20,.bool false)])
  16 (s:=hrI a n i 0 15 []) (by
   rw [Kt,Ql (by rw [hn.len]; omega),Zw (by rw [hD.len]; omega),QA,JH hlt]; rfl)
  (fun j st hj hs=>by
   subst hs
   obtain ⟨m,hm⟩:∃ m,16-j=m+1:=⟨15-j,by omega⟩
   rw [hm,show (15:Int)-j=(m:Int) by omega,show 16-(j+1)=m by omega,show (15:Int)-((j+1:Nat):Int)=(m:Int)-1 by omega]
   refine ⟨_,?_,rfl⟩
   obtain ⟨x,hx⟩:∃ x,n[m]?=some x:=⟨_,Qe (by rw [hn.len]; omega)⟩
   have hx':=hn.lt x (Qn hx)
   have hxv:=Kk (B:=65536) (by decide) hn.lt hx
   obtain ⟨c,hc⟩:∃ c,c=num 65536 n/65536^(m+1)%2:=⟨_,rfl⟩
   rw [←hc]
   have hc2:num 65536 n/65536^m/65536%2=c:=by rw [hc,Zi,QV]
   have hxl:(n.take (m+1)++D.drop (m+1))[m]?=some x:=by
    rw [Qc (by rw [Q4,hn.len]; omega),QZ,if_pos (by omega)]; exact hx
   have hdg:D[m]?=some ((x+c*65536)/2):=by
    rw [hDd,XL (by omega)]
    congr 1
    rw [QV,Zk 2,←QV]
    generalize num 65536 n/65536^m=q at *
    omega
   have hcn:num 65536 n/65536^m%2=(x+c*65536)%2:=by
    generalize num 65536 n/65536^m=q at *
    omega
   rw [hcn]
   have hstep:(n.take (m+1)++D.drop (m+1)).set m ((x+c*65536)/2)=n.take m++D.drop m:=by
    rw [XY _ _ (by rw [Q4,hn.len]; omega),Z5,hx]
    rw [Z4 _ _ (by rw [Q4]; omega)]
    have e:(n.take m).length=m:=by rw [Q4,hn.len]; omega
    rw [e,Q3,ZA (i:=m),hdg]
    simp
   have hset:=Xo .u64 (n.take (m+1)++D.drop (m+1)) m ((x+c*65536)/2)
   rw [hstep] at hset
   have hlen:(n.take (m+1)++D.drop (m+1)).length=16:=by rw [Qj,Q4,QP,hn.len,hD.len]; omega
   have hxc:=ZN (k := .u64) hxl
   have hcb:c<2:=by rw [hc]; exact Q6 _ (by decide)
   have w1:IntKind.i64.wrap ((m:Int)-1)=(m:Int)-1:=Zh (by omega) (by omega)
   have w2:IntKind.u64.wrap ((c:Int)*65536)=((c*65536:Nat):Int):=WN (b:=65536) (by omega)
   have w3:IntKind.u64.wrap ((x:Int)+((c*65536:Nat):Int))=((x+c*65536:Nat):Int):=Yy (by omega)
   have w4:IntKind.u64.wrap (((x+c*65536:Nat):Int).tdiv 2)=(((x+c*65536)/2:Nat):Int):=YL (n:=(x+c*65536)/2) (by omega)
   have w5:((x+c*65536:Nat):Int).tmod 2=(((x+c*65536)%2:Nat):Int):=rfl
   have e1:((0:Int)≤(m:Int))=True:=eq_true (by omega)
   have e2:((m:Int)<16)=True:=eq_true (by omega)
   have e4:(m≤15)=True:=eq_true (by omega)
   clear hc hc2 hcn hdg hstep
   generalize n.take (m+1)++D.drop (m+1)=A1,n.take m++D.drop m=A2 at *
   generalize (x+c*65536)/2=u at *
   generalize (x+c*65536)%2=u2 at *
   generalize x+c*65536=v at *
   generalize c*65536=v2 at *
   simp only [hrI,Cw,Qs,quiet,cW,↓pW,reduceCtorEq,seval,-Qb,hxc,w1,w2,w3,w4,w5,e1,e2,e4,hset,Q7,hlen])
  (fun st hs=>by
   subst hs
   have e:((0:Int) ≤ -1)=False:=by decide
   refine ⟨_,?_,rfl⟩
   rw [show (15:Int)-((16:Nat):Int) = -1 by omega,Q3,Jz,ZD,Qm,ZQ,Jy]
   simp only [hrI,Cw,Qs,quiet,cK,↓pQ,reduceCtorEq,seval,-Qb,cL,e])
 exact hb
def hrO (a n:List Nat) (i:Int) (ex:Env):St:=⟨[(1,.pointer (some ⟨0,0,none⟩)),(2,.pointer (some ⟨1,0,none⟩)),(4,.pointer (some ⟨2,0,none⟩)),(5,.int .i64 i)]++ex,[⟨ns .u64 a,true,true,true,1⟩,⟨ns .u64 ZP,true,true,true,1⟩,⟨ns .u64 n,true,true,true,1⟩],[]⟩
theorem mi (hn:Nm n) :
  Q5 T 0 (.block 0 (.loop Cu)) (hrO a n 0 [])=some (.normal,hrO a (dig 65536 16 (num 65536 n/2^3)) 3 [(16,.bool false)]):=by
 obtain ⟨st,hb,rfl⟩:=Zm (T:=T) (base:=0) (id:=0) (body:=Cu)
  (fun i st=>∃ ex,st=hrO a (dig 65536 16 (num 65536 n/2^i)) i ex)
  (Q:=fun st=>st=hrO a (dig 65536 16 (num 65536 n/2^3)) 3 [(16,.bool false)])
  3 (s:=hrO a n 0 []) ⟨[],by rw [ZQ,Jy,←hn.eq]; rfl⟩
  (fun i st hi hs=>by
   obtain ⟨ex,rfl⟩:=hs
   have hN:=Nm.dig (num 65536 n/2^i)
   have hlt:num 65536 n/2^i<2^256:=Js (JJ _ _) hn.num_lt
   have hb:=mj (a:=a) (i:=(i:Int)) hN
   rw [Vr hlt,QV,←Zi] at hb
   simp only [hrI,Qo,Qm,QD] at hb
   have w1:IntKind.i64.wrap ((i:Int)+1)=((i+1:Nat):Int):=ZJ (b:=1) (by omega)
   have e1:((i:Int)<3)=True:=eq_true (by omega)
   refine ⟨_,?_,[],rfl⟩
   generalize dig 65536 16 (num 65536 n/2^i)=A at *
   generalize dig 65536 16 (num 65536 n/2^(i+1))=A' at *
   simp only [hrO,Cu,Qs,quiet,cW,↓pW,reduceCtorEq,seval,-Qb,hb,w1,e1])
  (fun st hs=>by
   obtain ⟨ex,rfl⟩:=hs
   refine ⟨_,?_,rfl⟩
   generalize dig 65536 16 (num 65536 n/2^3)=A at *
   simp only [hrO,Cu,Qs,quiet,cW,↓pW,reduceCtorEq,seval,-Qb])
 exact hb
def Af:List Nat:=dig 65536 16 (Go.Fp.P-1)
def MZ:List Nat:=dig 65536 16 (Go.Fp.P+3)
theorem Fc:Nm Af:=Nm.dig _
theorem Fb:Nm MZ:=Nm.dig _
theorem Fa:KJ[0]?=some 65517:=by decide +kernel
theorem Pw:(ns .u64 KJ).set 0 (.int .u64 65516)=ns .u64 Af:=by
 have h:KJ.set 0 65516=Af:=by decide +kernel
 have:=Xo .u64 KJ 0 65516
 rw [h] at this; exact this
theorem Pv:(ns .u64 KJ).set 0 (.int .u64 65520)=ns .u64 MZ:=by
 have h:KJ.set 0 65520=MZ:=by decide +kernel
 have:=Xo .u64 KJ 0 65520
 rw [h] at this; exact this
theorem tT:nf (J9 2)=Go.Fp.fp 2:=by unfold nf; rw [Kd (by decide)]
theorem mq:Go.Fp.pow (Go.Fp.fp 2) ((Go.Fp.P-1)/2)=Go.Fp.fp (Go.Fp.P-1):=Go.Fp.Ag (f:=256) (by decide +kernel) (by decide +kernel)
theorem fp_m1:Go.Fp.fp (Go.Fp.P-1) = -1:=by decide +kernel
theorem LM:(Go.Fp.P-1)/2=(Go.Fp.P-1)/4+(Go.Fp.P-1)/4:=by decide +kernel
theorem LG:∃ r,evVal T 155 []=some (eV r)∧Nm r∧nf r*nf r = -1:=by
 have hp:=BZ
 have h2:=KY 2 (by decide)
 have ho:=ml Fc
 have hn:num 65536 Af/2^2=(Go.Fp.P-1)/4:=by decide +kernel
 rw [hn] at ho
 have hE:=Nm.dig ((Go.Fp.P-1)/4)
 have hEn:=Vr (v:=(Go.Fp.P-1)/4) (by decide +kernel)
 obtain ⟨r,hr,r1,r2⟩:=TY (Xx 2) hE
 rw [hEn,tT] at r2
 refine ⟨r,?_,r1,by rw [r2,←Go.Fp.pow_add,←LM,mq,fp_m1]⟩
 have g0:=ZN (k := .u64) Fa
 have s0:=Pw
 have lp:=Ya.len
 have lm:=Fc.len
 have ls:=(Xx 2).len
 have lE:=hE.len
 have lr:=r1.len
 have hz:=Ky
 have lz:=X9
 have w1:IntKind.u64.wrap 65516=65516:=by decide
 simp only [JN] at h2 g0
 simp only [hmO,Qo,Qm,QD] at ho
 generalize KJ=PL at *
 generalize Af=PM at *
 generalize J9 2=S,dig 65536 16 ((Go.Fp.P-1)/4)=E at *
 generalize ZP=Z at *
 apply QC (fn:=a89) rfl
 simp only [a89,Qs,quiet,cW,↓pW,reduceCtorEq,seval,-Qb,hz,hp,h2,g0,w1,s0,ho,hr,Qf,Qz,Qy,Q8,Zj,Q9,Q7,lp,lm,ls,lE,lr,lz,Za]
 rfl
theorem FV (a b:List Nat):(dig 65536 16 (num 65536 a%Go.Fp.P)==dig 65536 16 (num 65536 b%Go.Fp.P))=decide (nf a=nf b):=by
 have h1:=Q6 (num 65536 a) CV
 have h2:=Q6 (num 65536 b) CV
 have h3:=O9
 rw [Of (by omega) (by omega)]
 by_cases h:nf a=nf b
 ·rw [decide_eq_true h,decide_eq_true (Go.Fp.RK.1 h)]
 ·rw [decide_eq_false h,decide_eq_false (fun e=>h (Go.Fp.RK.2 e))]
theorem Oo (a:List Nat):nf (dig 65536 16 (num 65536 a%Go.Fp.P))=nf a:=by
 have h1:=Q6 (num 65536 a) CV
 have h3:=O9
 unfold nf
 rw [Vr (by omega),Go.Fp.Ym]
theorem iV:(Go.Fp.P+3)/8+(Go.Fp.P+3)/8=(Go.Fp.P-1)/4+1:=by decide +kernel
theorem Si (a:Go.Fp.Fe) : -1*a = -a:=by grobner
theorem AN (a:Go.Fp.Fe):1*a=a:=by grobner
theorem rD (x m:Go.Fp.Fe):x*m*(x*m)=x*x*(m*m):=by grobner
theorem dP (a:Go.Fp.Fe) : -a * -1=a:=by grobner
theorem NW {a:Go.Fp.Fe} (h:s*s=a):Go.Fp.pow a ((Go.Fp.P+3)/8)*Go.Fp.pow a ((Go.Fp.P+3)/8)=a∨Go.Fp.pow a ((Go.Fp.P+3)/8)*Go.Fp.pow a ((Go.Fp.P+3)/8) = -a:=by
 have e:Go.Fp.pow a ((Go.Fp.P+3)/8)*Go.Fp.pow a ((Go.Fp.P+3)/8)=Go.Fp.pow a ((Go.Fp.P-1)/4)*a:=by
  rw [←Go.Fp.pow_add,iV,Go.Fp.pow]
 rcases Go.Fp.Ah s with h1 | h1
 ·rw [h,LM,Go.Fp.pow_add] at h1
  have h2:Go.Fp.pow a ((Go.Fp.P-1)/4)*Go.Fp.pow a ((Go.Fp.P-1)/4)=1*1:=by rw [h1]; exact (AN 1).symm
  rw [e]
  rcases SW h2 with h3 | h3
  ·left; rw [h3,AN]
  ·right; rw [h3,Si]
 ·have ha:a=0:=by rw [←h,h1]; grobner
  left
  rw [e,ha]; grobner
theorem pg (ha:Nm a):∃ r ok,evVal T 107 [eV a]=some (.tuple #[eV r,.bool ok])∧Nm r∧num 65536 r<Go.Fp.P∧(ok=true→nf r*nf r=nf a)∧(ok=false→∀ x:Go.Fp.Fe,x*x≠nf a):=by
 have hp:=BZ
 have ho:=mi (a:=a) Fb
 have hn:num 65536 MZ/2^3=(Go.Fp.P+3)/8:=by decide +kernel
 rw [hn] at ho
 have hE:=Nm.dig ((Go.Fp.P+3)/8)
 have hEn:=Vr (v:=(Go.Fp.P+3)/8) (by decide +kernel)
 obtain ⟨x,hx,x1,x2⟩:=TY ha hE
 rw [hEn] at x2
 obtain ⟨q,hq,q1,q2⟩:=Xb x1 x1
 obtain ⟨m,hm,m1,m2⟩:=LG
 obtain ⟨y,hy,y1,y2⟩:=Xb x1 m1
 obtain ⟨t,ht,t1,t2⟩:=Xb y1 y1
 have cq:=Wq q1
 have ca:=Wq ha
 have cx:=Wq x1
 have cy:=Wq y1
 have ct:=Wq t1
 have b1:=FV q a
 have b2:=FV t a
 have nq:=Nm.dig (num 65536 q%Go.Fp.P)
 have na:=Nm.dig (num 65536 a%Go.Fp.P)
 have nx:=Nm.dig (num 65536 x%Go.Fp.P)
 have ny:=Nm.dig (num 65536 y%Go.Fp.P)
 have nt:=Nm.dig (num 65536 t%Go.Fp.P)
 have v1:=oK nq.len na.len
 have v2:=Ih nq.len na.len
 have v3:=Ih nt.len na.len
 rw [b1] at v1 v2
 rw [b2] at v3
 have g0:=ZN (k := .u64) Fa
 have s0:=Pv
 have lp:=Ya.len
 have lm:=Fb.len
 have lE:=hE.len
 have la:=ha.len
 have lx:=x1.len
 have ly:=y1.len
 have lq:=nx.len
 have ly2:=ny.len
 have hz:=Ky
 have lz:=X9
 have w1:IntKind.u64.wrap 65520=65520:=by decide
 have rft:∀ (r:List Nat) (c:Bool),rf (Value.tuple #[eV r,.bool c])=true:=fun r c=>V9 (a:=eV r) (b := .bool c) (Za r) rfl
 simp only [JN] at g0
 simp only [hrO,Qo,Qm,QD] at ho
 have hPl:=O9
 have ltx:num 65536 (dig 65536 16 (num 65536 x%Go.Fp.P))<Go.Fp.P:=by
  have:=Q6 (num 65536 x) CV
  rw [Vr (by omega)]; exact this
 have lty:num 65536 (dig 65536 16 (num 65536 y%Go.Fp.P))<Go.Fp.P:=by
  have:=Q6 (num 65536 y) CV
  rw [Vr (by omega)]; exact this
 have fx:=Oo x
 have fy:=Oo y
 by_cases h:nf q=nf a
 ·rw [decide_eq_true h] at v1 v2
  refine ⟨dig 65536 16 (num 65536 x%Go.Fp.P),true,?_,nx,ltx,fun _=>by rw [fx,←q2,h],fun h=>absurd h (by decide)⟩
  generalize dig 65536 16 (num 65536 q%Go.Fp.P)=CQ,dig 65536 16 (num 65536 a%Go.Fp.P)=CA,dig 65536 16 (num 65536 x%Go.Fp.P)=CX at *
  generalize KJ=PL at *
  generalize MZ=PM at *
  generalize dig 65536 16 ((Go.Fp.P+3)/8)=E at *
  generalize ZP=Z at *
  apply QC (fn:=a68) rfl
  simp only [a68,Qs,quiet,cW,↓pW,reduceCtorEq,seval,-Qb,hz,hp,g0,w1,s0,ho,hx,hq,cq,ca,cx,v1,v2,Qf,Qz,Qy,Q8,Zj,Q9,Q7,lp,lm,lE,la,lx,lq,lz,rft,Za]
  rfl
 ·rw [decide_eq_false h] at v1 v2
  refine ⟨dig 65536 16 (num 65536 y%Go.Fp.P),decide (nf t=nf a),?_,ny,lty,?_,?_⟩
  ·generalize decide (nf t=nf a)=ok,dig 65536 16 (num 65536 q%Go.Fp.P)=CQ,dig 65536 16 (num 65536 a%Go.Fp.P)=CA,dig 65536 16 (num 65536 y%Go.Fp.P)=CY,dig 65536 16 (num 65536 t%Go.Fp.P)=CT at *
   generalize KJ=PL at *
   generalize MZ=PM at *
   generalize dig 65536 16 ((Go.Fp.P+3)/8)=E at *
   generalize ZP=Z at *
   apply QC (fn:=a68) rfl
   simp only [a68,Qs,quiet,cW,↓pW,reduceCtorEq,seval,-Qb,hz,hp,g0,w1,s0,ho,hx,hq,hm,hy,ht,cq,ca,cy,ct,v1,v3,Qf,Qz,Qy,Q8,Zj,Q9,Q7,lp,lm,lE,la,lx,ly,ly2,lz,rft,Za]
   rfl
  ·intro ht'
   rw [fy,←t2]
   exact of_decide_eq_true ht'
  ·intro ht' s hs
   have ht'':=of_decide_eq_false ht'
   rcases NW hs with h1 | h1
   ·exact h (by rw [q2,x2,h1])
   ·apply ht''
    rw [t2,y2,rD,m2,x2,h1,dP]
theorem oJ (lk:k.length=32) (ll:l.length=32):vEq (some (Qa 32 true)) true (.agg (u8s k).toArray) (.agg (u8s l).toArray)=some (.bool (!(k==l))):=by
 rw [DH,Vz lk ll]
 rfl
theorem eD:fillL (ns .u64 Yt) []=some (ns .u64 Yt):=rfl
theorem uI {r:List Nat} (h:num 65536 r<Go.Fp.P):(nf r).val=num 65536 r:=Qv h
theorem AO (a:Go.Fp.Fe):a*1=a:=by grobner
theorem mV (a:Go.Fp.Fe) : -a * -a=a*a:=by grobner
theorem dp (hv:v≠0) {x:Go.Fp.Fe} (h:x*x=u*Go.Fp.iv v):v*(x*x)=u:=by
 have:=Go.Fp.KK hv
 rw [h]
 generalize Go.Fp.iv v=w at *
 clear h hv
 grobner
theorem qV (hv:v≠0) {x:Go.Fp.Fe} (h:v*(x*x)=u):x*x=u*Go.Fp.iv v:=by
 have:=Go.Fp.KK hv
 rw [←h]
 generalize Go.Fp.iv v=w at *
 clear h hv
 grobner
theorem bV (lk:k.length=32) (xk:∀ x∈k,x<256) :
  (∃ l p,evVal T 54 [.agg (u8s k).toArray]=some (G8 l 0)∧RP l p∧enc p=k)∨(∃ l,evVal T 54 [.agg (u8s k).toArray]=some (G8 l 60)∧l.length=48∧∀ p,enc p≠k):=by
 obtain ⟨w,hw,hw',ht,hm,xm,lm⟩:=aQ lk xk
 have ha:w&&&127=w%128:=Nat.and_two_pow_sub_one_eq_mod w 7
 rw [ha] at hm xm lm
 have hwc:=Jk hw
 have hset:=Xg k 31 (w%128)
 have hrem:(w:Int).tmod 128=((w%128:Nat):Int):=rfl
 have hof:=ti lm xm
 rw [hm] at hof
 rw [Kw] at hof
 have hkey:∀ p:Go.Cv.Pt Go.Fp.P Go.Fp.d,enc p=k↔p.y.val=num 256 k%2^255∧p.x.val%2=num 256 k/2^255:=fun p=>by rw [ba lk xk,FO]
 rw [←ht] at hkey
 have hVlt:num 256 k%2^255<2^255:=Q6 _ (by decide)
 have hkm:=lU lm xm
 rw [hm] at hkm
 generalize k.set 31 (w%128)=km,num 256 k%2^255=V at *
 have NY:=Nm.dig V
 have hYn:=Vr (v:=V) (JO hVlt (by decide))
 have fy:nf (dig 65536 16 V)=Go.Fp.fp V:=by unfold nf; rw [hYn]
 have hby:=Gc NY
 rw [fy] at hby
 have lB:=Ze 256 32 (Go.Fp.fp V).val
 have heq:=oJ lB lm
 have hbk:(dig 256 32 (Go.Fp.fp V).val==km)=decide (V<Go.Fp.P):=by
  rw [hkm,key_inj (JO (Go.Fp.fp V).isLt (by decide)) (JO hVlt (by decide))]
  by_cases h:V<Go.Fp.P
  ·rw [decide_eq_true h,decide_eq_true (show (Go.Fp.fp V).val=V from Qv h)]
  ·have:¬ (Go.Fp.fp V).val=V:=fun e=>h (by rw [←e]; exact (Go.Fp.fp V).isLt)
   rw [decide_eq_false h,decide_eq_false this]
 rw [hbk] at heq
 have hz:=Ky
 have lz:=X9
 have hf:=Uz
 have hz2:=T8
 have lz2:=DG
 have hf2:=eD
 have lY:=NY.len
 have hge:decide ((128:Int)≤(w:Int))=decide (w/128=1):=by
  by_cases h:w/128=1
  ·rw [decide_eq_true h,decide_eq_true (by omega)]
  ·rw [decide_eq_false h,decide_eq_false (by omega)]
 generalize dig 65536 16 V=Y,dig 256 32 (Go.Fp.fp V).val=BY at *
 clear hbk hkm
 by_cases hV:V<Go.Fp.P
 ·rw [decide_eq_true hV] at heq
  have hYv:(Go.Fp.fp V).val=V:=Qv hV
  have s1:=KY 1 (by decide)
  have N1:=Xx 1
  have f1:=Is
  have l1:=N1.len
  simp only [KP] at s1
  obtain ⟨yy,hyy,Nyy,fyy⟩:=Xb NY NY
  obtain ⟨D,hD,ND,fD⟩:=rd_v
  obtain ⟨uu,huu,Nuu,fuu⟩:=Dt Nyy N1
  obtain ⟨dy,hdy,Ndy,fdy⟩:=Xb ND Nyy
  obtain ⟨vv,hvv,Nvv,fvv⟩:=Gd Ndy N1
  obtain ⟨iw,hiw,Niw,fiw⟩:=UB Nvv
  obtain ⟨aa,haa,Naa,faa⟩:=Xb Nuu Niw
  obtain ⟨r,ok,hr,Nr,ltr,hok,hno⟩:=pg Naa
  obtain ⟨nr,hnr,Nnr,fnr⟩:=Pf Nr
  have hu:nf uu=Go.Fp.fp V*Go.Fp.fp V-1:=by rw [fuu,fyy,fy,f1]
  have hv:nf vv=Go.Fp.d*(Go.Fp.fp V*Go.Fp.fp V)+1:=by rw [fvv,fdy,fD,fyy,fy,f1]
  have hvn:nf vv≠0:=by rw [hv]; exact Ss _
  have hyp:∀ p:Go.Cv.Pt Go.Fp.P Go.Fp.d,enc p=k→p.y=Go.Fp.fp V:=fun p hp=>Fin.ext (by rw [hYv]; exact ((hkey p).1 hp).1)
  have hxx:∀ p:Go.Cv.Pt Go.Fp.P Go.Fp.d,enc p=k→p.x*p.x=nf aa:=fun p hp=>by
   have:=ov p
   rw [hyp p hp] at this
   rw [faa,fiw]
   exact qV hvn (by rw [hu,hv]; exact this)
  have rft:∀ b:Bool,rf (Value.tuple #[eV r,.bool b])=true:=fun b=>V9 (a:=eV r) (b := .bool b) (Za r) rfl
  have lyy:=Nyy.len
  have lr:=Nr.len
  have lnr:=Nnr.len
  have hq0:=Ih lr lz
  have hq0':(r==ZP)=decide (nf r=0):=by
   by_cases h:nf r=0
   ·have h2:=Gm.1 h
    rw [Qv ltr] at h2
    have:r=ZP:=Nr.inj ML (by rw [h2,Dl])
    rw [decide_eq_true h,this]; simp
   ·have:¬ r=ZP:=fun e=>h (by rw [e]; unfold nf; rw [Dl]; rfl)
    rw [decide_eq_false h,beq_eq_false_iff_ne.2 this]
  rw [hq0'] at hq0
  obtain ⟨r0,hr0⟩:∃ r0,r[0]?=some r0:=⟨_,Qe (by rw [lr]; decide)⟩
  have hr0c:=ZN (k := .u64) hr0
  have hr0v:=Kk (B:=65536) (by decide) Nr.lt hr0
  rw [ZQ,Jy] at hr0v
  have hpar:r0%2=(nf r).val%2:=by rw [uI ltr,←hr0v]; omega
  have hr2:(r0:Int).tmod 2=(((nf r).val%2:Nat):Int):=by rw [←hpar]; rfl
  generalize ZP=Z at *
  obtain ⟨Z48,hz48⟩:∃ Z,Yt=Z:=⟨_,rfl⟩
  rw [hz48] at hz2 lz2 hf2
  cases ok with
  | false =>
   refine .inr ⟨Z48,?_,lz2,fun p hp=>hno rfl p.x (hxx p hp)⟩
   generalize J9 1=S1 at *
   apply QC (fn:=a32) rfl
   simp only [a32,Qs,quiet,cW,↓pW,reduceCtorEq,seval,-Qb,G8,hz,hf,hz2,hf2,hwc,hset,hrem,hge,hof,hby,heq,s1,hyy,hD,huu,hdy,hvv,hiw,haa,hr,Qf,Qz,Qy,Q8,Zj,Q9,Q7,Qq,lk,lm,lz,lz2,lY,l1,lyy,lr,lB,rft,Za]
   rfl
  | true =>
   have hroot:=hok rfl
   rw [faa,fiw] at hroot
   have hroot1:=dp hvn hroot
   have h255:(nf r).val%2<2:=Q6 _ (by decide)
   have hbq:((((nf r).val%2:Nat):Int)==1)=decide ((nf r).val%2=1):=by
    by_cases h:(nf r).val%2=1
    ·rw [h]; rfl
    ·rw [show (nf r).val%2=0 by omega]; rfl
   have bft:(false==true)=false:=rfl
   have btf:(true==false)=false:=rfl
   have fin:∀ X:List Nat,Nm X→nf X*nf X=nf r*nf r→(nf X).val%2=w/128→∃ p,RP (tL X Y (J9 1)) p∧enc p=k:=fun X NX hX hp =>
    ⟨⟨nf X,Go.Fp.fp V,kh hu hv (by rw [hX]; exact hroot1)⟩,⟨X,Y,_,rfl,NX,NY,N1,by rw [f1]; exact Go.Fp.VV,by rw [f1]; exact (AO _).symm,by rw [f1,fy]; exact (AO _).symm⟩,(hkey _).2 ⟨hYv,hp⟩⟩
   have hfr:=mS lr lY l1
   have hfn:=mS lnr lY l1
   have lTr:=BS lr lY l1
   have lTn:=BS lnr lY l1
   rw [hz48] at hfr hfn
   have hneg:nf nr*nf nr=nf r*nf r:=by rw [fnr]; exact mV _
   have hnpar:nf r≠0→(nf nr).val%2≠(nf r).val%2:=fun h=>by rw [fnr]; exact I2 h
   have hnl:=Q6 (nf nr).val (by decide:0<2)
   have hw2:w/128<2:=by omega
   by_cases hb:w/128=1
   ·rw [decide_eq_true hb] at hge
    by_cases h0:nf r=0
    ·rw [decide_eq_true h0] at hq0
     refine .inr ⟨Z48,?_,lz2,fun p hp => ?_⟩
     ·generalize J9 1=S1 at *
      apply QC (fn:=a32) rfl
      simp only [a32,Qs,quiet,cW,↓pW,reduceCtorEq,seval,-Qb,G8,hz,hf,hz2,hf2,hwc,hset,hrem,hge,hof,hby,heq,s1,hyy,hD,huu,hdy,hvv,hiw,haa,hr,hq0, Qf,Qz,Qy,Q8,Zj,Q9,Q7,Qq,lk,lm,lz,lz2,lY,l1,lyy,lr,lnr,lB, rft,Za]
      rfl
     ·have h2:=((hkey p).1 hp).2
      have h3:=hxx p hp
      rw [faa,fiw,←hroot,h0] at h3
      rcases SW h3 with h5 | h5
      ·rw [h5,hb] at h2; exact absurd h2 (by decide)
      ·rw [h5,hb] at h2; exact absurd h2 (by decide)
    ·rw [decide_eq_false h0] at hq0
     by_cases hp1:(nf r).val%2=1
     ·rw [decide_eq_true hp1] at hbq
      obtain ⟨p,rp,he⟩:=fin r Nr rfl (by rw [hb]; exact hp1)
      refine .inl ⟨_,p,?_,rp,he⟩
      generalize tL r Y (J9 1)=R at *
      generalize J9 1=S1 at *
      apply QC (fn:=a32) rfl
      simp only [a32,Qs,quiet,cW,↓pW,reduceCtorEq,seval,-Qb,G8,hz,hf,hz2,hf2,hwc,hset,hrem,hge,hof,hby,heq,s1,hyy,hD,huu,hdy,hvv,hiw,haa,hr,hq0,bft,btf,hr0c,hr2,hbq,hfr,Qf,Qz,Qy,Q8,Zj,Q9,Q7,Qq,lk,lm,lz,lz2,lY,l1,lyy,lr,lnr,lB,lTr,rft,Za]
      rfl
     ·rw [decide_eq_false hp1] at hbq
      obtain ⟨p,rp,he⟩:=fin nr Nnr hneg (by have:=hnpar h0; omega)
      refine .inl ⟨_,p,?_,rp,he⟩
      generalize tL nr Y (J9 1)=R at *
      generalize J9 1=S1 at *
      apply QC (fn:=a32) rfl
      simp only [a32,Qs,quiet,cW,↓pW,reduceCtorEq,seval,-Qb,G8,hz,hf,hz2,hf2,hwc,hset,hrem,hge,hof,hby,heq,s1,hyy,hD,huu,hdy,hvv,hiw,haa,hr,hq0,bft,btf,hr0c,hr2,hbq,hnr,hfn,Qf,Qz,Qy,Q8,Zj,Q9,Q7,Qq,lk,lm,lz,lz2,lY,l1,lyy,lr,lnr,lB,lTn,rft,Za]
      rfl
   ·rw [decide_eq_false hb] at hge
    by_cases hp1:(nf r).val%2=1
    ·rw [decide_eq_true hp1] at hbq
     have h0:nf r≠0:=fun h=>by rw [h] at hp1; exact absurd hp1 (by decide)
     rw [decide_eq_false h0] at hq0
     obtain ⟨p,rp,he⟩:=fin nr Nnr hneg (by have:=hnpar h0; omega)
     refine .inl ⟨_,p,?_,rp,he⟩
     generalize tL nr Y (J9 1)=R at *
     generalize J9 1=S1 at *
     apply QC (fn:=a32) rfl
     simp only [a32,Qs,quiet,cW,↓pW,reduceCtorEq,seval,-Qb,G8,hz,hf,hz2,hf2,hwc,hset,hrem,hge,hof,hby,heq,s1,hyy,hD,huu,hdy,hvv,hiw,haa,hr,hq0,bft,btf,hr0c,hr2,hbq,hnr,hfn,Qf,Qz,Qy,Q8,Zj,Q9,Q7,Qq,lk,lm,lz,lz2,lY,l1,lyy,lr,lnr,lB,lTn,rft,Za]
     rfl
    ·rw [decide_eq_false hp1] at hbq
     obtain ⟨p,rp,he⟩:=fin r Nr rfl (by omega)
     refine .inl ⟨_,p,?_,rp,he⟩
     generalize tL r Y (J9 1)=R,decide (nf r=0)=zq at *
     cases zq with
     | false =>
      generalize J9 1=S1 at *
      apply QC (fn:=a32) rfl
      simp only [a32,Qs,quiet,cW,↓pW,reduceCtorEq,seval,-Qb,G8,hz,hf,hz2,hf2,hwc,hset,hrem,hge,hof,hby,heq,s1,hyy,hD,huu,hdy,hvv,hiw,haa,hr,hq0,bft,btf,hr0c,hr2,hbq,hfr,Qf,Qz,Qy,Q8,Zj,Q9,Q7,Qq,lk,lm,lz,lz2,lY,l1,lyy,lr,lnr,lB,lTr,rft,Za]
      rfl
     | true =>
      generalize J9 1=S1 at *
      apply QC (fn:=a32) rfl
      simp only [a32,Qs,quiet,cW,↓pW,reduceCtorEq,seval,-Qb,G8,hz,hf,hz2,hf2,hwc,hset,hrem,hge,hof,hby,heq,s1,hyy,hD,huu,hdy,hvv,hiw,haa,hr,hq0,bft,btf,hr0c,hr2,hbq,hfr,Qf,Qz,Qy,Q8,Zj,Q9,Q7,Qq,lk,lm,lz,lz2,lY,l1,lyy,lr,lnr,lB,lTr,rft,Za]
      rfl
 ·rw [decide_eq_false hV] at heq
  generalize ZP=Z at *
  generalize Yt=Z48 at *
  refine .inr ⟨Z48,?_,lz2,fun p hp=>hV ?_⟩
  ·apply QC (fn:=a32) rfl
   simp only [a32,Qs,quiet,cW,↓pW,reduceCtorEq,seval,-Qb,G8,hz,hf,hz2,hf2,hwc,hset,hrem,hge,hof,hby,heq,Qf,Qz,Qy,Q8,Zj,Q9,Q7,Qq,lk,lm,lz,lz2,lY,lB,Za]
   rfl
  ·rw [←((hkey p).1 hp).1]; exact p.y.isLt
theorem vG:Go.Fp.fp 4*Go.Fp.iv (Go.Fp.fp 5)=Go.Fp.fp byN:=by
 have h0:Go.Fp.fp 5≠0:=by decide +kernel
 have h1:=Go.Fp.KK h0
 have h2:Go.Fp.fp 5*Go.Fp.fp byN=Go.Fp.fp 4:=by decide +kernel
 refine Go.Fp.fld.cancel h0 ?_
 rw [h2]
 generalize Go.Fp.iv (Go.Fp.fp 5)=y at *
 generalize Go.Fp.fp 5=x,Go.Fp.fp 4=z at *
 clear h0 h2
 grobner
theorem dW:enc Xi=dig 256 32 (Go.Fp.fp byN).val:=by decide +kernel
theorem rK (h:enc p=enc q):p=q:=by
 have:=IL p q
 rw [h] at this
 simp at this
 exact this
theorem aw:∃ r,evVal T 60 []=some (eV r)∧RP r Xi:=by
 have s4:=KY 4 (by decide)
 have s5:=KY 5 (by decide)
 obtain ⟨v,hv,v1,v2⟩:=UB (Xx 5)
 obtain ⟨m,hm,m1,m2⟩:=Xb (Xx 4) v1
 have e4:nf (J9 4)=Go.Fp.fp 4:=by unfold nf; rw [Kd (by decide)]
 have e5:nf (J9 5)=Go.Fp.fp 5:=by unfold nf; rw [Kd (by decide)]
 rw [v2,e4,e5,vG] at m2
 have hb:=Gc m1
 rw [m2,←dW] at hb
 have hl:=WX Xi
 rcases bV (WX Xi) (Sn Xi) with ⟨l,p,hd,rp,he⟩ | ⟨l,hd,ll,hno⟩
 ·have hpp:=rK he
  rw [hpp] at rp
  refine ⟨l,?_,rp⟩
  have lr:=rp.len
  have hz2:=T8
  have lz2:=DG
  have rft:∀ (r:List Nat) (c:Int),rf (Value.tuple #[eV r,.int .i64 c])=true:=fun r c=>V9 (a:=eV r) (b := .int .i64 c) (Za r) rfl
  simp only [JN] at s4 s5
  unfold G8 at hd
  generalize enc Xi=K,J9 4=S4,J9 5=S5 at *
  generalize Yt=Z48 at *
  apply QC (fn:=a37) rfl
  simp only [a37,Qs,quiet,cW,↓pW,reduceCtorEq,seval,-Qb,hz2,s4,s5,hv,hm,hb,hd,Qf,Qz,Qy,Q8,Zj,Q9,Q7,Qq,lr,lz2,hl,rft,Za]
  rfl
 ·exact absurd rfl (hno Xi)
end
end Go.Ev.YtpgphpkjlpkcbaaGreat

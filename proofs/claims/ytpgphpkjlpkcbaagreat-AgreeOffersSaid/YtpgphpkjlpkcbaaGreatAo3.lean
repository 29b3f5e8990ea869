/- What the law leans on, part 3. -/
import Derived.Test.YtpgphpkjlpkcbaaGreatAo2
import Derived.Test.YtpgphpkjlpkcbaaGreatChecked
import Derived.KernelRfl
import Derived.Laws.Externs
set_option linter.unusedSimpArgs false
set_option linter.unusedVariables false
set_option linter.defProp false
open And renaming intro → Qi
open Array renaming ext_getElem? → XP, getElem?_toList → ZI
open Bool renaming and_eq_true → ZS
open Exists renaming intro → J4
open Int renaming cast_ofNat_Int → JN, natCast_add → Xj, natCast_mul → Xc, natCast_one → KP, natCast_pow → VG, natCast_zero → QD, toNat_natCast → KW
open List renaming all_cons → Kx, append_assoc → Qu, append_nil → QA, cons_append → Qo, drop → Jo, drop_append_of_le_length → ZX, drop_drop → XZ, drop_eq_getElem?_toList_append → ZA, drop_eq_getElem_cons → J6, drop_of_length_le → Zw, drop_zero → ZD, eq_of_mem_replicate → HU, ext_getElem? → Jn, flatten_append → ZE, flatten_cons → QL, foldl_cons → Xt, foldl_nil → Vk, getD_eq_getElem?_getD → QB, getElem?_append_left → Qc, getElem?_append_right → Qh, getElem?_drop → Zt, getElem?_eq_getElem → Qe, getElem?_eq_none → QN, getElem?_eq_some_iff → Qg, getElem?_map → Xd, getElem?_replicate → YK, getElem?_set_ne → Qt, getElem?_set_self → Q1, getElem?_take → QZ, getElem?_toArray → KG, length_append → Qj, length_cons → Zo, length_nil → ZC, length_replicate → Qf, length_set → Q0, length_take → Q4, map_append → Km, map_cons → JF, map_map → Bx, map_nil → Xp, mem_append → QF, mem_cons → Jj, mem_iff_getElem? → VO, mem_map → JB, mem_of_getElem? → Qn, mem_of_mem_drop → ZW, mem_of_mem_take → QU, mem_or_eq_of_mem_set → XM, mem_range'_1 → Lg, mem_singleton → JW, nil_append → Qm, not_mem_nil → JI, range → Jm, range' → V8, reduceReplicate → Qb, replicate → Qa, replicate_succ → Xm, set_append_right → Z4, set_cons_zero → YI, take → Zf, take_add_one → Z5, take_append_drop → Z7, take_append_of_le_length → ZO, take_of_length_le → Ql, take_zero → Jz
open Nat renaming Coprime → xH, add_assoc → QW, add_comm → Xh, add_mod → Tn, add_mul → QY, add_mul_div_right → WJ, add_mul_mod_self_right → KA, add_zero → ZV, and_lt_two_pow → XO, and_two_pow_sub_one_eq_mod → Vj, div_add_mod → Z0, div_div_eq_div_mul → QV, div_eq_of_lt → JH, div_le_self → JJ, div_lt_of_lt_mul → Yd, div_one → Jy, dvd_mul_left → OE, dvd_of_mod_eq_zero → Wa, dvd_trans → oh, eq_zero_or_pos → Jd, gcd → T6, le_of_dvd → Vc, le_of_lt → J3, le_refl → Qr, le_succ → xG, le_trans → JP, lt_of_le_of_lt → Js, lt_of_lt_of_le → QK, lt_or_ge → ZF, lt_trans → JO, min_eq_left → Zp, mod_eq_of_lt → Qv, mod_eq_zero_of_dvd → ME, mod_lt → Q6, mod_mod → Kw, mod_mod_of_dvd → YH, mod_mul_mod → UY, mod_one → OF, mul_add → V7, mul_assoc → Zx, mul_comm → Zk, mul_le_mul → JL, mul_le_mul_left → XE, mul_le_mul_right → Zq, mul_left_comm → Jr, mul_lt_mul'' → DC, mul_mod → Yc, mul_mod_mul_right → WI, mul_zero → YZ, one_mul → JT, pow_add → JE, pow_le_pow_right → Zr, pow_mod → xE, pow_mul → Ja, pow_pos → Xa, pow_succ → Zi, pow_zero → ZQ, sub_mod_eq_zero_of_mod_eq → Uu, sub_self → Q3, sub_zero → Kt, zero_add → QJ, zero_mul → Ks
open Option renaming bind_eq_some_iff → Qd, bind_some → Qp
open Option.some renaming inj → XH, injEq → Qk
namespace Go.Ev.YtpgphpkjlpkcbaaGreat
open Go Go.Ev
attribute [local congr] JD JU JC JV Jv
set_option maxRecDepth 100000
variable {H l:List Ob} {z r a b c r' xs ds:List Nat} {x n y id off il ol cl m q:Nat} {R:Value} {i:Int} {k:IntKind}
def mA (x y z:List Nat):List Nat:=dig 256 32 ((num 256 x*num 256 y+num 256 z)%ell)
def rd (x:List Nat):List Nat:=dig 256 32 (num 256 x%ell)
theorem ui (x:List Nat):dig 256 32 (num 256 x%ell)=rd x:=rfl
theorem kS {x y:List Nat}:(mA x y z).length=32:=Ze _ _ _
theorem Po {x:List Nat}:(rd x).length=32:=Ze _ _ _
theorem mA_lt {x y:List Nat}:∀ t∈mA x y z,t<256:=fun _ h=>Vh (by decide) h
theorem rd_lt {x:List Nat}:∀ t∈rd x,t<256:=fun _ h=>Vh (by decide) h
theorem nk:ell≤256^32:=by decide
theorem RH (v:Nat):num 256 (dig 256 32 (v%ell))=v%ell:=by
 rw [XA (by decide),Qv (QK (Q6 _ Md) nk)]
theorem uH (x y z:List Nat):num 256 (mA x y z)=(num 256 x*num 256 y+num 256 z)%ell:=RH _
theorem cY (la:a.length=32) (lb:b.length=32) (lc:c.length=32) (xa:∀ x∈a,x<256) (xb:∀ x∈b,x<256) (xc:∀ x∈c,x<256) :
  ∃ l,Z6 T 65 [.agg (u8s a).toArray,.agg (u8s b).toArray,.agg (u8s c).toArray] []=some (.agg (u8s (mA a b c)).toArray,l,[]):=db la lb lc xa xb xc
def Df:List Nat:=[237,211,245,92,26,99,18,88,214,156,247,162,222,249,222,20]
def ordL:List Nat:=dig 256 32 ell
theorem qe:ordL=Df++Qa 15 0++[16]:=by decide +kernel
theorem As:ordL.length=32:=Ze _ _ _
theorem qd:∀ x∈ordL,x<256:=fun _ h=>Vh (by decide) h
theorem iY:num 256 ordL=ell:=by decide +kernel
theorem Yl {B bytes:Nat} {s:Value} {bs:List Nat} (h:Grown k B H s bs) (hB:B≤H.length) (hb:(bs.length+1)*bytes≤2^47) (hb0:0<bytes) :
  ∃ s' H' M,Jh 1 bytes (H++[⟨[.int k (x:Nat)],true,true,true,1⟩]) s (.slice (some ⟨H.length,0,none⟩) 1 1)=some (s',H',none,M)∧Grown k B H' s' (bs++[x])∧(∀ i∈M,B≤i)∧B≤H'.length∧∀ i,i<B→H'[i]?=H[i]? := by
 obtain ⟨s',H',M,h1,h2,h3,h4,h5⟩:=(h.app (l':=[⟨[.int k (x:Nat)],true,true,true,1⟩])).append (bytes:=bytes) (x := .slice (some ⟨H.length,0,none⟩) 1 1) (new:=[x]) (by simp; omega) rfl (by simp [elemsOf,liveAt,ns]) hb hb0
 refine ⟨s',H',M,h1,h2,h3,?_,fun i hi=>by rw [h5 i hi,Qc (by omega)]⟩
 simp at h4
 omega
def oI (s:Value) (H:List Ob) (ex:Env):St:=⟨[(1,s)]++ex,H,[]⟩
theorem P9 (H:List Ob):∃ s l,Z6 T 115 [] H=some (s,H++l,[])∧Grown .i64 H.length (H++l) s ordL:=by
 have hf:fillL (Qa 16 (Value.int .i64 0)) [(0,1,.int .i64 237),(1,1,.int .i64 211),(2,1,.int .i64 245),(3,1,.int .i64 92),(4,1,.int .i64 26),(5,1,.int .i64 99),(6,1,.int .i64 18),(7,1,.int .i64 88),(8,1,.int .i64 214),(9,1,.int .i64 156),(10,1,.int .i64 247),(11,1,.int .i64 162),(12,1,.int .i64 222),(13,1,.int .i64 249),(14,1,.int .i64 222),(15,1,.int .i64 20)]=some (ns .i64 Df):=rfl
 have f0:fillL [Value.int .i64 0] [(0,1,.int .i64 0)]=some [.int .i64 0]:=rfl
 have f16:fillL [Value.int .i64 0] [(0,1,.int .i64 16)]=some [.int .i64 16]:=rfl
 obtain ⟨st,hb,s,Hc,rfl,hg,hL,hK⟩:=Zm (T:=T) (base:=H.length) (id:=0) (body:=Lf)
  (fun j st=>∃ s Hc,st=oI s Hc []∧Grown .i64 H.length Hc s (Df++Qa j 0)∧H.length≤Hc.length∧∀ i,i<H.length→Hc[i]?=H[i]?)
  (Q:=fun st=>∃ s Hc,st=oI s Hc [(5,.bool false)]∧Grown .i64 H.length Hc s (Df++Qa 15 0)∧H.length≤Hc.length∧∀ i,i<H.length→Hc[i]?=H[i]?)
  15 (s:=oI (.slice (some ⟨H.length,0,none⟩) 16 16) (H++[⟨ns .i64 Df,true,true,true,1⟩]) []) ⟨_,_,rfl,Grown.new (id:=H.length) (bs:=Df) (Qr _) (by decide) (by simp [Ob.fresh]),by simp,fun i hi=>Qc hi⟩
  (fun j st hj hs=>by
   obtain ⟨s,Hc,rfl,hg,hL,hK⟩:=hs
   have hl:=hg.len
   have e16:(Df++Qa j 0).length=16+j:=by simp [Df]; omega
   rw [e16] at hl
   have h31:(((16+j:Nat):Int)<31):=by omega
   obtain ⟨s',H',M,h1,h2,h3,h4,h5⟩:=Yl (x:=0) (bytes:=8) hg hL (by simp [Df]; omega) (by decide)
   have hm:Q2 H.length [] M=[]:=QG h3
   refine ⟨oI s' H' [],?_,s',H',rfl,by rw [List.replicate_succ',←Qu]; exact h2,h4,fun i hi=>by rw [h5 i hi,hK i hi]⟩
   simp only [oI,Lf,Qs,quiet,cF,Jc,QR,↓pQ,reduceCtorEq,seval,-Qb,cL,cJ,QW,hl,h31,f0]
   simp only [QD] at h1
   simp only [h1,hm,Qs,quiet,cF,Jc,QR,↓pQ,reduceCtorEq,seval,-Qb,cL])
  (fun st hs=>by
   obtain ⟨s,Hc,rfl,hg,hL,hK⟩:=hs
   have hl:=hg.len
   refine ⟨_,?_,s,Hc,rfl,hg,hL,hK⟩
   have e16:(Df++Qa 15 0).length=31:=rfl
   rw [e16] at hl
   simp only [oI,Lf,Qs,quiet,cF,Jc,QR,↓pQ,reduceCtorEq,seval,-Qb,cL,cJ,QW,hl])
 obtain ⟨s',H',M,h1,h2,h3,h4,h5⟩:=Yl (x:=16) (bytes:=8) hg hL (by decide) (by decide)
 have hm:Q2 H.length [] M=[]:=QG h3
 obtain ⟨l,rfl⟩:=X7 h4 (fun i hi=>by rw [h5 i hi,hK i hi])
 refine ⟨s',l,?_,by rw [qe]; exact h2⟩
 rw [Zg (fn:=a23) rfl]
 simp only [oI,Qo,Qm] at hb
 simp only [JN] at h1
 simp only [a23,Qs,quiet,cF,Jc,QR,↓pQ,reduceCtorEq,seval,-Qb,cL,cJ,QW,hf,hb,oI,f16,h1,hm]
theorem Lv (h:x<256):IntKind.u8.wrap (x:Int)=x:=Xe rfl h
theorem Fv (h:a[m]?=some x):num 256 a=num 256 (a.take m)+x*256^m+256^(m+1)*num 256 (a.drop (m+1)):=by
 have hm:m<a.length:=(Qg.1 h).1
 conv=>lhs; rw [←Z7 (m+1) a,KS,J5 h]
 rw [Q4,Zp (by omega)]
theorem RG (ha:∀ x∈a,x<256) (hm:m≤a.length):num 256 (a.take m)<256^m:=by
 have:=num_lt (B:=256) (l:=a.take m) fun x hx=>ha x (QU hx)
 rwa [Q4,Zp hm] at this
theorem qO (hl:a.length=b.length) (ha:∀ x∈a,x<256) (hb:∀ x∈b,x<256) (hx:a[m]?=some x) (hy:b[m]?=some y) (hne:x≠y) (hd:a.drop (m+1)=b.drop (m+1)):(num 256 a<num 256 b)↔x<y:=by
 have hm:m<a.length:=(Qg.1 hx).1
 rw [Fv hx,Fv hy,hd]
 have h1:=RG (m:=m) ha (by omega)
 have h2:=RG (m:=m) hb (by omega)
 rcases ZF x y with h | h
 ·have:(x+1)*256^m≤y*256^m:=Zq _ h
  rw [QY,JT] at this
  constructor<;>intro<;>omega
 ·have:(y+1)*256^m≤x*256^m:=Zq _ (by omega)
  rw [QY,JT] at this
  constructor<;>intro<;>omega
def rlI (sa sb:Value) (H:List Ob) (i:Int) (ex:Env):St:=⟨[(0,sa),(1,sb),(5,.int .i64 i)]++ex,H,[]⟩
theorem DO {H:List Ob} {base:Nat} {ia oa ca ib ob cb n:Nat} {a b:List Nat} (hra:Row .i64 H ia oa a) (hrb:Row .i64 H ib ob b) (la:a.length=n) (lb:b.length=n) (hN:n<2^40) (ha:∀ x∈a,x<256) (hb:∀ x∈b,x<256) :
  ∀ m,m≤n→a.drop m=b.drop m→Q5 T base (.loop CC) (rlI (.slice (some ⟨ia,oa,none⟩) n ca) (.slice (some ⟨ib,ob,none⟩) n cb) H ((m:Int)-1) []) =
   if a=b then some (.exit 0,rlI (.slice (some ⟨ia,oa,none⟩) n ca) (.slice (some ⟨ib,ob,none⟩) n cb) H (-1) [(10,.bool false)]) else some (.ret,⟨[(4,.bool (decide (num 256 a<num 256 b)))],H,[]⟩)
 | 0,_,hd=>by
  rw [ZD,ZD] at hd
  rw [if_pos hd,Jx]
  have e:((0:Int) ≤ -1)=False:=by decide
  simp only [rlI,CC,Qs,quiet,cF,Jc,QR,↓pQ,reduceCtorEq,seval,-Qb,cL,Int.zero_sub,e]
 | m+1,hm,hd=>by
  obtain ⟨x,hx⟩:∃ x,a[m]?=some x:=⟨_,Qe (by omega)⟩
  obtain ⟨y,hy⟩:∃ y,b[m]?=some y:=⟨_,Qe (by omega)⟩
  obtain ⟨o1,ho1,hc1⟩:=hra
  obtain ⟨o2,ho2,hc2⟩:=hrb
  have c1:=hc1 m x hx
  have c2:=hc2 m y hy
  have e0:(((m+1:Nat):Int)-1)=(m:Int):=by omega
  have e1:((0:Int)≤(m:Int))=True:=eq_true (by omega)
  have e2:((m:Int)<(n:Int))=True:=eq_true (by omega)
  have e3:IntKind.i64.wrap ((m:Int)-1)=(m:Int)-1:=Zh (by omega) (by omega)
  rw [e0,Jx]
  obtain ⟨g1,v1⟩:(H[ia]?=some o1)∧o1.live=true:=by
   simp only [liveAt,Qd] at ho1
   obtain ⟨o',g1,g2⟩:=ho1
   split at g2
   ·cases g2; exact ⟨g1,by assumption⟩
   ·cases g2
  obtain ⟨g2,v2⟩:(H[ib]?=some o2)∧o2.live=true:=by
   simp only [liveAt,Qd] at ho2
   obtain ⟨o',g1,g2⟩:=ho2
   split at g2
   ·cases g2; exact ⟨g1,by assumption⟩
   ·cases g2
  by_cases hxy:x=y
  ·subst hxy
   have hd':a.drop m=b.drop m:=by
    rw [ZA,hx,hd,←hy,←ZA]
   have ih:=DO (base:=base) (ca:=ca) (cb:=cb) ⟨o1,ho1,hc1⟩ ⟨o2,ho2,hc2⟩ la lb hN ha hb m (by omega) hd'
   rw [←ih]
   simp only [rlI,CC,Qs,quiet,cF,Jc,QR,↓pQ,reduceCtorEq,seval,-Qb,cL,e1,e2,e3,g1,g2,v1,v2,c1,c2]
  ·have hab:¬ a=b:=fun h=>by subst h; rw [hx] at hy; cases hy; exact hxy rfl
   rw [if_neg hab]
   have hne:((x:Int) != (y:Int))=true:=by simp; omega
   have hlt:=qO (by omega) ha hb hx hy hxy hd
   have hdec:decide ((x:Int)<(y:Int))=decide (num 256 a<num 256 b):=by
    by_cases h:x<y
    ·rw [decide_eq_true (hlt.2 h),decide_eq_true (by omega)]
    ·rw [decide_eq_false (fun k=>h (hlt.1 k)),decide_eq_false (by omega)]
   simp only [rlI,CC,Qs,quiet,cF,Jc,QR,↓pQ,reduceCtorEq,seval,-Qb,cL,e1,e2,e3,g1,g2,v1,v2,c1,c2,hne,hdec]
theorem Pn {sa sb:Value} (hra:Sl .i64 H sa a) (hrb:Sl .i64 H sb b) (la:a.length=n) (lb:b.length=n) (hn:0<n) (hN:n<2^40) (ha:∀ x∈a,x<256) (hb:∀ x∈b,x<256) :
  Z6 T 114 [sa,sb] H=some (.bool (decide (num 256 a<num 256 b)),H,[]):=by
 obtain ⟨ia,oa,ca,rfl,ra⟩:=hra.row (by omega)
 obtain ⟨ib,ob,cb,rfl,rb⟩:=hrb.row (by omega)
 rw [la,lb]
 have hl:=DO (base:=H.length) (ca:=ca) (cb:=cb) ra rb la lb hN ha hb n (Qr n) (by rw [Zw (by omega),Zw (by omega)])
 have e3:IntKind.i64.wrap ((n:Int)-1)=(n:Int)-1:=Zh (by omega) (by omega)
 rw [Zg (fn:=a48) rfl]
 simp only [rlI,Qo,Qm] at hl
 by_cases hab:a=b
 ·rw [if_pos hab] at hl
  subst hab
  have:decide (num 256 a<num 256 a)=false:=by simp
  simp only [a48,Qs,quiet,cF,Jc,QR,↓pQ,reduceCtorEq,seval,-Qb,cL,e3,Jl,hl,this]
 ·rw [if_neg hab] at hl
  simp only [a48,Qs,quiet,cF,Jc,QR,↓pQ,reduceCtorEq,seval,-Qb,cL,e3,Jl,hl]
def mH (H:List Ob) (z r:List Nat) (l:List Ob):List Ob:=H++⟨u8s z,true,true,true,1⟩::⟨ns .i64 r,true,true,true,1⟩::l
theorem kR {v:Value} {c:Nat} (hv:v=.slice (some ⟨id,off,none⟩) n c) (hid:id≠H.length+1) (h:Sl k (mH H z r l) v xs):Sl k (mH H z r' l) v xs:=by
 subst hv
 cases h with
 | mk h1 h2 h3 =>
  refine .mk ?_ h2 h3
  rw [←h1]
  apply Bo
  unfold mH
  by_cases hlt:id<H.length
  ·rw [Qc hlt,Qc hlt]
  ·rw [Qh (by omega),Qh (by omega)]
   rcases hk:id-H.length with _ | _ | k
   ·rfl
   ·omega
   ·rfl
def mrs (H:List Ob):Value := .slice (some ⟨H.length+1,0,none⟩) 33 33
def l1I (R v0 sl:Value) (rs:Value) (i q b k x:Int) (h:List Ob) (ex:Env):St:=⟨[(0,v0),(2,R),(3,rs),(4,sl),(5,.int .i64 i),(7,.int .i64 q),(8,.int .i64 b),(9,.int .i64 k),(10,.int .i64 x)]++ex,h,[]⟩
theorem aP {base:Nat} {R v0 sl rs:Value} {i q k:Int} {h:List Ob}:∀ (t:Nat) (b x:Int),t<2^40→0≤b→b+t<2^41→x+256*t<256→0≤x+256*t→(0<t→x<0) →
  Q5 T base (.loop Lb) (l1I R v0 sl rs i q b k x h [])=some (.exit 8,l1I R v0 sl rs i q (b+t) k (x+256*t) h [(75,.bool false)])
 | 0,b,x,_,_,_,h1,h2,_=>by
  have e:(x<0)=False:=eq_false (by omega)
  rw [Jx]
  simp only [l1I,Lb,Qs,quiet,cF,Jc,QR,↓pQ,reduceCtorEq,seval,-Qb,cL,e,Int.mul_zero,Int.add_zero]
 | t+1,b,x,ht,hb0,hb,h1,h2,h3=>by
  have e:(x<0)=True:=eq_true (h3 (by omega))
  have ih:=aP (base:=base) (R:=R) (v0:=v0) (sl:=sl) (rs:=rs) (i:=i) (q:=q) (k:=k) (h:=h) t (b+1) (x+256) (by omega) (by omega) (by omega) (by omega) (by omega) (fun h=>by omega)
  have w1:IntKind.i64.wrap (x+256)=x+256:=Zh (by omega) (by omega)
  have w2:IntKind.i64.wrap (b+1)=b+1:=Zh (by omega) (by omega)
  rw [Jx]
  rw [show b+((t+1:Nat):Int)=b+1+(t:Int) by omega,show x+256*((t+1:Nat):Int)=x+256+256*(t:Int) by omega,←ih]
  simp only [l1I,Lb,Qs,quiet,cF,Jc,QR,↓pQ,reduceCtorEq,seval,-Qb,cL,e,w1,w2]
def ord33:List Nat:=ordL++[0]
theorem GY:ord33.length=33:=by simp [ord33,As]
theorem At:∀ x∈ord33,x<256:=by
 intro x hx
 simp only [ord33,QF,JW] at hx
 rcases hx with h | h
 ·exact qd x h
 ·omega
theorem Fm:num 256 ord33=ell:=by
 simp only [ord33,KS,iY,num]; omega
structure SubInv (k q:Nat) (r0 r:List Nat) (b:Nat):Prop where
 len:r.length=33
 lt:∀ x∈r,x<256
 ble:b≤q+1
 eq:num 256 (r0.take k)+b*256^k=num 256 (r.take k)+q*num 256 (ord33.take k)
 rest:r.drop k=r0.drop k
def nx (y q l b:Nat):Nat:=((y:Int)-q*l-b).toNat
def nb (y q l b:Nat):Nat:=(q*l+b-y+255)/256
theorem SubInv.step {k q b y l:Nat} {r0 r:List Nat} (h:SubInv k q r0 r b) (hk:k<33) (hy:r[k]?=some y) (hl:ord33[k]?=some l):SubInv (k+1) q r0 (r.set k (y+256*nb y q l b-(q*l+b))) (nb y q l b)∧y+256*nb y q l b-(q*l+b)<256∧q*l+b≤y+256*nb y q l b:=by
 have hy':=h.lt y (Qn hy)
 have hl':=At l (Qn hl)
 have hb:=h.ble
 have hlen:=h.len
 have hnb:y+256*nb y q l b-(q*l+b)<256∧q*l+b≤y+256*nb y q l b:=by unfold nb; omega
 have hql:q*l≤q*255:=XE q (by omega)
 have hnb2:nb y q l b≤q+1:=by unfold nb; omega
 have hy0:r0[k]?=some y:=by
  have h1:(r.drop k)[0]?=(r0.drop k)[0]? := by rw [h.rest]
  rwa [Zt,Zt,ZV,hy,eq_comm] at h1
 refine ⟨⟨by rw [Q0]; exact hlen,Vm h.lt hnb.1,hnb2,?_,?_⟩,hnb⟩
 ·generalize nb y q l b=c at *
  obtain ⟨d,hd⟩:∃ d,y+256*c=q*l+b+d:=⟨y+256*c-(q*l+b),by omega⟩
  have hset:(r.set k d).take (k+1)=r.take k++[d]:=by
   rw [Z5,Q1 (by omega),List.take_set_of_le (Qr k)]; rfl
  rw [show y+256*c-(q*l+b)=d by omega,hset,J5 hy0,J5 hl,KS]
  have hln:(r.take k).length=k:=by rw [Q4]; omega
  rw [hln]
  have he:=h.eq
  simp only [num,YZ,ZV]
  have e1:c*256^(k+1)=(256*c)*256^k:=by rw [Zi]; simp only [Zx,Jr,Zk]
  have e2:(y+256*c)*256^k=(q*l+b+d)*256^k:=by rw [hd]
  rw [QY,QY,QY] at e2
  rw [e1,V7,←Zx,Zk (256^k) d]
  omega
 ·rw [List.drop_set_of_lt (by omega)]
  have h1:(r.drop k).drop 1=(r0.drop k).drop 1:=by rw [h.rest]
  rwa [XZ,XZ] at h1
def l2I (R v0 sl rs:Value) (i q b k:Int) (h:List Ob) (ex:Env):St:=⟨[(0,v0),(2,R),(3,rs),(4,sl),(5,.int .i64 i),(7,.int .i64 q),(8,.int .i64 b),(9,.int .i64 k)]++ex,h,[]⟩
theorem A6 {c:Nat} (h:Sl k H (.slice (some ⟨id,off,none⟩) n c) xs):∃ o,H[id]?=some o∧o.live=true∧n=xs.length∧∀ (i x:Nat),xs[i]?=some x→o.cells[off+i]?=some (.int k (x:Nat)):=by
 cases h with
 | mk h1 h2 h3 =>
  simp only [liveAt,Qd] at h1
  obtain ⟨o',g1,g2⟩:=h1
  split at g2
  ·cases g2; exact ⟨_,g1,by assumption,rfl,h3⟩
  ·cases g2
theorem qR {v0:Value} {r0:List Nat} {b k lk:Nat} (hsl:∀ r,Sl .i64 (mH H z r l) (.slice (some ⟨il,ol,none⟩) 33 cl) ord33) (hI:SubInv k q r0 r b) (hk:k<33) (hq:q<2^20) (hy:r[k]?=some y) (hl:ord33[k]?=some lk) :
  Q5 T H.length DA (l2I R v0 (.slice (some ⟨il,ol,none⟩) 33 cl) (mrs H) i q b k (mH H z r l) []) =
   some (.normal,l2I R v0 (.slice (some ⟨il,ol,none⟩) 33 cl) (mrs H) i q (nb y q lk b:Nat) ((k+1:Nat):Int) (mH H z (r.set k (y+256*nb y q lk b-(q*lk+b))) l) []):=by
 obtain ⟨hS,hlt,hle⟩:=hI.step hk hy hl
 have hy':=hI.lt y (Qn hy)
 have hl':=At lk (Qn hl)
 have hb:=hI.ble
 have hlen:=hI.len
 have hql:q*lk≤q*255:=XE q (by omega)
 have hnb2:=hS.ble
 obtain ⟨o,ho,hv,-,hc⟩:=A6 (hsl r)
 have hcl:=hc k lk hl
 have hyc:=ZN (k := .i64) hy
 have k1:((k:Int)<33)=True:=eq_true (by omega)
 have k2:((k:Int)<((33:Nat):Int))=True:=eq_true (by omega)
 have w1:IntKind.i64.wrap ((q:Int)*(lk:Int))=((q*lk:Nat):Int):=by rw [←Xc]; exact Zu (by omega)
 have w2:IntKind.i64.wrap ((y:Int)-((q*lk:Nat):Int))=(y:Int)-((q*lk:Nat):Int):=Zh (by omega) (by omega)
 have w3:IntKind.i64.wrap ((y:Int)-((q*lk:Nat):Int)-(b:Int))=(y:Int)-((q*lk:Nat):Int)-(b:Int):=Zh (by omega) (by omega)
 have w4:IntKind.i64.wrap ((k:Int)+1)=((k+1:Nat):Int):=Zu (n:=k+1) (by omega)
 have hloop:=aP (base:=H.length) (R:=R) (v0:=v0) (sl := .slice (some ⟨il,ol,none⟩) 33 cl) (rs:=mrs H) (i:=i) (q:=q) (k:=k) (h:=mH H z r l) (nb y q lk b) 0 ((y:Int)-((q*lk:Nat):Int)-(b:Int)) (by omega) (by omega) (by omega) (by omega) (by omega) (fun h=>by unfold nb at h; omega)
 rw [show (0:Int)+(nb y q lk b:Nat)=(nb y q lk b:Nat) by omega,show (y:Int)-((q*lk:Nat):Int)-(b:Int)+256*(nb y q lk b:Nat)=((y+256*nb y q lk b-(q*lk+b):Nat):Int) by omega] at hloop
 have hset:=Xo .i64 r k (y+256*nb y q lk b-(q*lk+b))
 have hst:k+1≤33:=by omega
 generalize nb y q lk b=c at *
 generalize y+256*c-(q*lk+b)=d at *
 simp only [l1I,l2I,mH,mrs,Qo,Qm] at hloop ho ⊢
 simp only [DA,Qs,quiet,cF,Jc,QR,↓pQ,reduceCtorEq,seval,-Qb,cL,cJ,QW,k1,k2,hyc,ho,hv,hcl,w1,w2,w3,w4,Jl,hloop,Q7,hlen,hst,hset]
theorem lN {v0:Value} (hsl:∀ r,Sl .i64 (mH H z r l) (.slice (some ⟨il,ol,none⟩) 33 cl) ord33) (hq:q<2^20) (hlen:r.length=33) (hlt:∀ x∈r,x<256) (hle:q*ell≤num 256 r) :
  ∃ b r',Q5 T H.length (.block 6 (.loop DA)) (l2I R v0 (.slice (some ⟨il,ol,none⟩) 33 cl) (mrs H) i q 0 0 (mH H z r l) [])=some (.normal,l2I R v0 (.slice (some ⟨il,ol,none⟩) 33 cl) (mrs H) i q b 33 (mH H z r' l) [(58,.bool false)]) ∧
   r'.length=33∧(∀ x∈r',x<256)∧num 256 r'=num 256 r-q*ell:=by
 obtain ⟨st,h1,b,r',rfl,hI⟩:=Zm (T:=T) (base:=H.length) (id:=6) (body:=DA)
  (fun k st=>∃ (b:Nat) (r':List Nat),st=l2I R v0 (.slice (some ⟨il,ol,none⟩) 33 cl) (mrs H) i q b k (mH H z r' l) []∧SubInv k q r r' b)
  (Q:=fun st=>∃ (b:Nat) (r':List Nat),st=l2I R v0 (.slice (some ⟨il,ol,none⟩) 33 cl) (mrs H) i q b 33 (mH H z r' l) [(58,.bool false)]∧SubInv 33 q r r' b)
  33 (s:=l2I R v0 (.slice (some ⟨il,ol,none⟩) 33 cl) (mrs H) i q 0 0 (mH H z r l) []) ⟨0,r,rfl,⟨hlen,hlt,by omega,by simp [num],rfl⟩⟩
  (fun k st hk hs=>by
   obtain ⟨b,r',rfl,hI⟩:=hs
   obtain ⟨y,hy⟩:∃ y,r'[k]?=some y:=⟨_,Qe (by rw [hI.len]; omega)⟩
   obtain ⟨lk,hl⟩:∃ y,ord33[k]?=some y:=⟨_,Qe (by rw [GY]; omega)⟩
   exact ⟨_,qR hsl hI hk hq hy hl,_,_,rfl,(hI.step hk hy hl).1⟩)
  (fun st hs=>by
   obtain ⟨b,r',rfl,hI⟩:=hs
   refine ⟨_,?_,b,r',rfl,hI⟩
   simp only [l2I,DA,Qs,quiet,cF,Jc,QR,↓pQ,reduceCtorEq,seval,-Qb,cL])
 refine ⟨b,r',h1,hI.len,hI.lt,?_⟩
 have he:=hI.eq
 rw [Ql (by omega),Ql (by rw [hI.len]; omega),Ql (by rw [GY]; omega),Fm] at he
 have h2:=num_lt hI.lt
 rw [hI.len] at h2
 rcases Jd b with hb | hb
 ·subst hb; omega
 ·have:1*256^33≤b*256^33:=Zq _ hb
  omega
theorem uk (hlen:r.length=33) (hx:r[32]?=some x) (hy:r[31]?=some y):(x*256+y)/17*ell≤num 256 r:=by
 have h1:ell≤17*256^31:=by decide
 have h2:(x*256+y)/17*ell≤(x*256+y)/17*(17*256^31):=XE _ h1
 rw [←Zx] at h2
 have h3:(x*256+y)/17*17*256^31≤(x*256+y)*256^31:=Zq _ (Nat.div_mul_le_self _ _)
 have h4:num 256 r=num 256 (r.take 31)+y*256^31+x*256^32:=by
  have h5:=J5 (B:=256) hx
  rw [Ql (by omega),J5 hy] at h5
  exact h5
 rw [h4]
 have h6:(x*256+y)*256^31=x*256^32+y*256^31:=by rw [QY,Zx,←Nat.pow_succ']
 omega
def l3I (R v0 sl rs:Value) (i:Int) (h:List Ob) (ex:Env):St:=⟨[(0,v0),(2,R),(3,rs),(4,sl),(5,.int .i64 i)]++ex,h,[]⟩
theorem rs_sl (hlen:r.length=33):Sl .i64 (mH H z r l) (mrs H) r:=by
 have:=Sl.mk (k := .i64) (H:=mH H z r l) (id:=H.length+1) (off:=0) (c:=33) (o:=⟨ns .i64 r,true,true,true,1⟩) (l:=r) (by simp [mH,liveAt]) (by simp [Q7]) (fun i x hx=>by rw [QJ]; exact ZN hx)
 rwa [hlen] at this
theorem qQ {v0:Value} (hsl:∀ r,Sl .i64 (mH H z r l) (.slice (some ⟨il,ol,none⟩) 33 cl) ord33) :
  ∀ (N:Nat) (r:List Nat) (ex:Env),num 256 r=N→r.length=33→(∀ x∈r,x<256)→∃ r' ex',Q5 T H.length (.loop D9) (l3I R v0 (.slice (some ⟨il,ol,none⟩) 33 cl) (mrs H) i (mH H z r l) ex)=some (.exit 4,l3I R v0 (.slice (some ⟨il,ol,none⟩) 33 cl) (mrs H) i (mH H z r' l) ex') ∧
   r'.length=33∧(∀ x∈r',x<256)∧num 256 r'=num 256 r%ell:=by
 intro N
 induction N using Nat.strongRecOn with
 | _ N ih =>
  intro r ex hN hlen hlt
  have hless:=Pn (rs_sl (H:=H) (z:=z) (l:=l) hlen) (hsl r) hlen GY (by decide) (by decide) hlt At
  rw [Fm] at hless
  by_cases hc:num 256 r<ell
  ·rw [decide_eq_true hc] at hless
   refine ⟨r,[(45,.bool false)],?_,hlen,hlt,(Qv hc).symm⟩
   rw [Jx]
   simp only [l3I,D9,Qs,quiet,cF,Jc,QR,↓pQ,reduceCtorEq,seval,-Qb,cL,hless]
  ·rw [decide_eq_false hc] at hless
   obtain ⟨x,hx⟩:∃ y,r[32]?=some y:=⟨_,Qe (by omega)⟩
   obtain ⟨y,hy⟩:∃ y,r[31]?=some y:=⟨_,Qe (by omega)⟩
   have hx':=hlt x (Qn hx)
   have hy':=hlt y (Qn hy)
   have hxc:=ZN (k := .i64) hx
   have hyc:=ZN (k := .i64) hy
   have w1:IntKind.i64.wrap ((x:Int)*256)=((x*256:Nat):Int):=by rw [show ((x:Int)*256)=((x*256:Nat):Int) by omega]; exact Zu (by omega)
   have w2:IntKind.i64.wrap (((x*256:Nat):Int)+(y:Int))=((x*256+y:Nat):Int):=by rw [←Xj]; exact Zu (by omega)
   have w3:IntKind.i64.wrap (((x*256+y:Nat):Int).tdiv 17)=(((x*256+y)/17:Nat):Int):=by
    rw [show ((x*256+y:Nat):Int).tdiv 17=(((x*256+y)/17:Nat):Int) from rfl]; exact Zu (by omega)
   have hq:=uk hlen hx hy
   have key:∀ q:Nat,0<q→q<2^20→q*ell≤num 256 r →
     (∀ st,Q5 T H.length (.block 6 (.loop DA)) (l2I R v0 (.slice (some ⟨il,ol,none⟩) 33 cl) (mrs H) i q 0 0 (mH H z r l) [])=some (.normal,st)→Q5 T H.length D9 (l3I R v0 (.slice (some ⟨il,ol,none⟩) 33 cl) (mrs H) i (mH H z r l) ex)=some (.normal,st)) →
     ∃ r' ex',Q5 T H.length (.loop D9) (l3I R v0 (.slice (some ⟨il,ol,none⟩) 33 cl) (mrs H) i (mH H z r l) ex)=some (.exit 4,l3I R v0 (.slice (some ⟨il,ol,none⟩) 33 cl) (mrs H) i (mH H z r' l) ex')∧r'.length=33∧(∀ x∈r',x<256)∧num 256 r'=num 256 r%ell:=by
    intro q hq0 hq1 hq2 hbody
    obtain ⟨b,r1,h1,h2,h3,h4⟩:=lN (R:=R) (v0:=v0) (i:=i) hsl hq1 hlen hlt hq2
    have hpos:ell≤q*ell:=Nat.le_mul_of_pos_left ell hq0
    have hell:=Md
    obtain ⟨r',ex',g1,g2,g3,g4⟩:=ih (num 256 r1) (by omega) r1 [(7,.int .i64 q),(8,.int .i64 b),(9,.int .i64 33),(58,.bool false)] rfl h2 h3
    refine ⟨r',ex',?_,g2,g3,?_⟩
    ·rw [Jx,hbody _ h1]
     exact g1
    ·rw [g4,h4]
     conv=>rhs; rw [show num 256 r=(num 256 r-q*ell)+q*ell by omega]
     rw [KA]
   have hl33:r.length=33:=hlen
   by_cases hq0:(x*256+y)/17<1
   ·have e1:((((x*256+y)/17:Nat):Int)<1)=True:=eq_true (by omega)
    refine key 1 (by decide) (by decide) (by omega) fun st hst => ?_
    simp only [l2I,mrs,mH,Qo,Qm,KP] at hst
    simp only [mrs,mH] at hless
    simp only [l3I,mrs,mH,D9,Qs,quiet,cF,Jc,QR,↓pQ,reduceCtorEq,seval,-Qb,cL,cJ,QW,hless,hxc,hyc,w1,w2,w3,e1,hst]
   ·have e1:((((x*256+y)/17:Nat):Int)<1)=False:=eq_false (by omega)
    refine key ((x*256+y)/17) (by omega) (by omega) hq fun st hst => ?_
    simp only [l2I,mrs,mH,Qo,Qm] at hst
    simp only [mrs,mH] at hless
    generalize (x*256+y)/17=qq at *
    simp only [l3I,mrs,mH,D9,Qs,quiet,cF,Jc,QR,↓pQ,reduceCtorEq,seval,-Qb,cL,cJ,QW,hless,hxc,hyc,w1,w2,w3,e1,hst]
def l4I (R v0 sl rs:Value) (i k:Int) (h:List Ob) (ex:Env):St:=⟨[(0,v0),(2,R),(3,rs),(4,sl),(5,.int .i64 i),(6,.int .i64 k)]++ex,h,[]⟩
theorem lM {v0 sl:Value} (hlen:r.length=33) :
  ∃ r',Q5 T H.length (.block 2 (.loop CJ)) (l4I R v0 sl (mrs H) i 32 (mH H z r l) [])=some (.normal,l4I R v0 sl (mrs H) i 0 (mH H z r' l) [(25,.bool false)])∧r'.length=33∧∀ t,t<32→r'[t+1]?=r[t]? := by
 obtain ⟨st,h1,r',rfl,h2,h3⟩:=Zm (T:=T) (base:=H.length) (id:=2) (body:=CJ)
  (fun j st=>∃ r':List Nat,st=l4I R v0 sl (mrs H) i ((32-j:Nat):Int) (mH H z r' l) []∧r'.length=33∧(∀ t,t≤32-j→r'[t]?=r[t]?)∧∀ t,32-j≤t→t<32→r'[t+1]?=r[t]?)
  (Q:=fun st=>∃ r':List Nat,st=l4I R v0 sl (mrs H) i 0 (mH H z r' l) [(25,.bool false)]∧r'.length=33∧∀ t,t<32→r'[t+1]?=r[t]?)
  32 (s:=l4I R v0 sl (mrs H) i 32 (mH H z r l) []) ⟨r,rfl,hlen,fun _ _=>rfl,fun t h1 h2=>by omega⟩
  (fun j st hj hs=>by
   obtain ⟨r',rfl,h2,h3,h4⟩:=hs
   obtain ⟨m,hm⟩:∃ m,32-j=m+1:=⟨31-j,by omega⟩
   have hm':32-(j+1)=m:=by omega
   rw [hm] at h3 h4
   rw [hm,hm']
   obtain ⟨y,hy⟩:∃ y,r[m]?=some y:=⟨_,Qe (by omega)⟩
   have hy':r'[m]?=some y:=by rw [h3 m (by omega)]; exact hy
   have hyc:=ZN (k := .i64) hy'
   refine ⟨_,?_,r'.set (m+1) y,rfl,by rw [Q0]; exact h2,fun t ht=>by rw [Qt (by omega)]; exact h3 t (by omega),fun t h5 h6 => ?_⟩
   ·have e1:((0:Int)<((m+1:Nat):Int))=True:=eq_true (by omega)
    have e2:((m:Int)<(33:Int))=True:=eq_true (by omega)
    have e3:(((m+1:Nat):Int)<(33:Int))=True:=eq_true (by omega)
    have w1:IntKind.i64.wrap (((m+1:Nat):Int)-1)=(m:Int):=by rw [show ((m+1:Nat):Int)-1=(m:Int) by omega]; exact Zu (by omega)
    have e5:m+1+1≤33:=by omega
    have hset:=Xo .i64 r' (m+1) y
    generalize hk:((m+1:Nat):Int)=k1 at *
    have hkn:k1.toNat=m+1:=by omega
    have e4:((0:Int)≤k1)=True:=eq_true (by omega)
    simp only [l4I,mH,mrs,CJ,Qs,quiet,cF,Jc,QR,↓pQ,reduceCtorEq,seval,-Qb,cL,cJ,QW,e1,e2,e3,e4,w1,hyc,hkn,Q7,h2,e5,hset]
   ·by_cases ht:t=m
    ·subst ht
     rw [Q1 (by omega),hy]
    ·rw [Qt (by omega)]
     exact h4 t (by omega) h6)
  (fun st hs=>by
   obtain ⟨r',rfl,h2,h3,h4⟩:=hs
   refine ⟨_,?_,r',rfl,h2,fun t ht=>h4 t (by omega) ht⟩
   simp only [l4I,CJ,Qs,quiet,cF,Jc,QR,↓pQ,reduceCtorEq,seval,-Qb,cL,Q3])
 exact ⟨r',h1,h2,h3⟩
theorem oR (h:r.length=33) (h2:r'.length=33) (h3:∀ t,t<32→r'[t+1]?=r[t]?):r'.set 0 x=x::r.take 32:=by
 apply Jn
 intro t
 rcases t with _ | t
 ·rw [Q1 (by omega)]; rfl
 ·rw [Qt (by omega),List.getElem?_cons_succ,QZ]
  by_cases ht:t<32
  ·rw [if_pos ht,h3 t ht]
  ·rw [if_neg ht,QN (by omega)]
theorem tq {V:Nat} (hlen:r.length=33) (hlt:∀ x∈r,x<256) (hn:num 256 r=V%ell):r[32]?=some 0∧r.take 32=dig 256 32 (V%ell):=by
 have h1:V%ell<256^32:=QK (Q6 _ Md) nk
 obtain ⟨x,hx⟩:∃ y,r[32]?=some y:=⟨_,Qe (by omega)⟩
 have h5:=J5 (B:=256) hx
 rw [Ql (by omega),hn] at h5
 have hx0:x=0:=by
  rcases Jd x with h | h
  ·exact h
  ·have:1*256^32≤x*256^32:=Zq _ h
   omega
 subst hx0
 refine ⟨hx,?_⟩
 rw [Ks,ZV] at h5
 have h6:(r.take 32).length=32:=by rw [Q4]; omega
 have h7:=YW (B:=256) (by decide) (l:=r.take 32) fun y hy=>hlt y (QU hy)
 rw [h6] at h7
 rw [h5]
 exact h7.symm
theorem qP {c i:Nat} (hsl:∀ r,Sl .i64 (mH H z r l) (.slice (some ⟨il,ol,none⟩) 33 cl) ord33) (hsd:∀ r,Sl .i64 (mH H z r l) (.slice (some ⟨id,off,none⟩) n c) ds)
 (hN:n<2^40) (hi:ds[i]?=some x) (hx:x<256) (hlen:r.length=33) (hlt:∀ x∈r,x<256) (hn:num 256 r=num 256 (ds.drop (i+1))%ell) :
    ∃ r',Q5 T H.length CI (l3I R (.slice (some ⟨id,off,none⟩) n c) (.slice (some ⟨il,ol,none⟩) 33 cl) (mrs H) i (mH H z r l) [])=some (.normal,l3I R (.slice (some ⟨id,off,none⟩) n c) (.slice (some ⟨il,ol,none⟩) 33 cl) (mrs H) ((i:Int)-1) (mH H z r' l) []) ∧
      r'.length=33∧(∀ x∈r',x<256)∧num 256 r'=num 256 (ds.drop i)%ell:=by
  obtain ⟨r1,h1,g1,g2⟩:=lM (H:=H) (R:=R) (v0 := .slice (some ⟨id,off,none⟩) n c) (sl := .slice (some ⟨il,ol,none⟩) 33 cl) (z:=z) (l:=l) (i:=i) hlen
  have hsh:=oR (x:=x) hlen g1 g2
  have hr2len:(x::r.take 32).length=33:=by rw [Zo,Q4]; omega
  have hr2lt:∀ y∈x::r.take 32,y<256:=by
    intro y hy
    rcases Jj.1 hy with h | h
    · omega
    · exact hlt y (QU h)
  obtain ⟨r',ex',h3,k1,k2,k3⟩:=qQ (H:=H) (R:=R) (v0 := .slice (some ⟨id,off,none⟩) n c) (i:=i) hsl _ (x::r.take 32) [] rfl hr2len hr2lt
  refine ⟨r',?_,k1,k2,?_⟩
  · obtain ⟨o,ho,hv,hnl,hc⟩:=A6 (hsd r1)
    have hin:i<n:=by rw [hnl]; exact (Qg.1 hi).1
    have hcx:=hc i x hi
    have e1:((0:Int)≤(i:Int))=True:=eq_true (by omega)
    have e2:((i:Int)<(n:Int))=True:=eq_true (by omega)
    have w1:IntKind.i64.wrap ((i:Int)-1)=(i:Int)-1:=Zh (by omega) (by omega)
    have hset:=Xo .i64 r1 0 x
    rw [hsh] at hset
    simp only [l4I,l3I,mH,mrs,Qo,Qm] at h1 h3 ho ⊢
    simp only [CI,Qs,quiet,cF,Jc,QR,↓pQ,reduceCtorEq,seval,-Qb,cL,cJ,QW,e1,e2,w1,h1,ho,hv,hcx,hset,Q7,g1,Jl,h3]
  · obtain ⟨h32,ht⟩:=tq hlen hlt hn
    have hd:ds.drop i=x::ds.drop (i+1):=by
      have:=(Qg.1 hi)
      rw [J6 this.1,this.2]
    rw [k3,hd,num,num,ht,RH]
    rw [Tn,Yc,Kw,←Yc,←Tn]
def l0I (R:Value) (rs out:Value) (i:Int) (h:List Ob) (ex:Env):St:=⟨[(2,R),(3,rs),(11,out),(12,.int .i64 i)]++ex,h,[]⟩
theorem lQ (hlen:r.length=33) (hlt:∀ x∈r,x<256) :
  Q5 T H.length (.block 10 (.loop CK)) (l0I R (mrs H) (.pointer (some ⟨H.length+(l.length+2),0,none⟩)) 0 (mH H z r (l++[⟨u8s (dig 256 32 0),true,true,true,1⟩])) []) =
   some (.normal,l0I R (mrs H) (.pointer (some ⟨H.length+(l.length+2),0,none⟩)) 32 (mH H z r (l++[⟨u8s (r.take 32),true,true,true,1⟩])) [(86,.bool false)]):=by
 obtain ⟨st,h1,k,rfl,h2,h3⟩:=Zm (T:=T) (base:=H.length) (id:=10) (body:=CK)
  (fun i st=>∃ k:List Nat,st=l0I R (mrs H) (.pointer (some ⟨H.length+(l.length+2),0,none⟩)) i (mH H z r (l++[⟨u8s k,true,true,true,1⟩])) []∧k.length=32∧∀ t,t<i→k[t]?=r[t]?)
  (Q:=fun st=>∃ k:List Nat,st=l0I R (mrs H) (.pointer (some ⟨H.length+(l.length+2),0,none⟩)) 32 (mH H z r (l++[⟨u8s k,true,true,true,1⟩])) [(86,.bool false)]∧k.length=32∧∀ t,t<32→k[t]?=r[t]?)
  32 (s:=l0I R (mrs H) (.pointer (some ⟨H.length+(l.length+2),0,none⟩)) 0 (mH H z r (l++[⟨u8s (dig 256 32 0),true,true,true,1⟩])) []) ⟨_,rfl,Ze _ _ _,fun t ht=>by omega⟩
  (fun i st hi hs=>by
   obtain ⟨k,rfl,h2,h3⟩:=hs
   obtain ⟨x,hx⟩:∃ y,r[i]?=some y:=⟨_,Qe (by omega)⟩
   have hx':=hlt x (Qn hx)
   have hxc:=ZN (k := .i64) hx
   have e1:((i:Int)<32)=True:=eq_true (by omega)
   have e2:((i:Int)<(33:Int))=True:=eq_true (by omega)
   have e3:((i:Int)<(32:Int))=True:=eq_true (by omega)
   have w1:IntKind.i64.wrap ((i:Int)+1)=((i+1:Nat):Int):=Zu (n:=i+1) (by omega)
   have w2:=Lv hx'
   have e5:i+1≤32:=by omega
   have hset:=Xg k i x
   refine ⟨_,?_,k.set i x,rfl,by rw [Q0]; exact h2,fun t ht => ?_⟩
   ·simp only [l0I,mH,mrs,CK,Qs,quiet,cF,Jc,QR,↓pQ,reduceCtorEq,seval,-Qb,cL,cJ,QW,e1,e2,e3,w1,w2,hxc,Qq,h2,e5,hset]
   ·by_cases hti:t=i
    ·subst hti
     rw [Q1 (by omega),hx]
    ·rw [Qt (by omega)]
     exact h3 t (by omega))
  (fun st hs=>by
   obtain ⟨k,rfl,h2,h3⟩:=hs
   refine ⟨_,?_,k,rfl,h2,h3⟩
   simp only [l0I,CK,Qs,quiet,cF,Jc,QR,↓pQ,reduceCtorEq,seval,-Qb,cL])
 have hk:k=r.take 32:=by
  apply Jn
  intro t
  rw [QZ]
  by_cases ht:t<32
  ·rw [if_pos ht,h3 t ht]
  ·rw [if_neg ht,QN (by omega)]
 rw [←hk]
 exact h1
theorem EY {c:Nat} (hsd:Sl .i64 H (.slice (some ⟨id,off,none⟩) n c) ds) (hN:n<2^40) (hlt:∀ x∈ds,x<256) :
  ∃ l,Z6 T 124 [.slice (some ⟨id,off,none⟩) n c] H=some (.agg (u8s (dig 256 32 (num 256 ds%ell))).toArray,H++l,[]):=by
 have hz:Qa 32 (Value.int .u8 0)=u8s (dig 256 32 0):=rfl
 have hz33:(Qa 33 [Value.int .i64 0]).flatten=ns .i64 (Qa 33 0):=rfl
 have f0:fillL [Value.int .i64 0] [(0,1,.int .i64 0)]=some [.int .i64 0]:=rfl
 have f32:fillL (u8s (dig 256 32 0)) []=some (u8s (dig 256 32 0)):=rfl
 have hnl:n=ds.length:=(A6 hsd).choose_spec.2.2.1
 obtain ⟨s,l0,ho,hg⟩:=P9 (H++[⟨u8s (dig 256 32 0),true,true,true,1⟩,⟨ns .i64 (Qa 33 0),true,true,true,1⟩])
 obtain ⟨s',H',M,ha,hg',hM,hL,hK⟩:=Yl (x:=0) (bytes:=8) hg (by simp) (by rw [As]; decide) (by decide)
 obtain ⟨l,rfl⟩:=X7 (H:=H++[⟨u8s (dig 256 32 0),true,true,true,1⟩,⟨ns .i64 (Qa 33 0),true,true,true,1⟩]) hL (fun i hi=>by rw [hK i hi,Qc hi])
 have hm:Q2 H.length [] M=[]:=QG fun i hi=>by have:=hM i hi; simp at this; omega
 obtain ⟨il,ol,cl,hs',hrow⟩:=hg'.sl.row (by simp [As])
 have hil:H.length+2≤il:=by
  cases hg' with
  | own h _ _=>cases hs'; simpa using h
  | new h _ _=>cases hs'; simpa using h
 have hs33:(ordL++[0]).length=33:=GY
 rw [hs33] at hs'
 have hsl0:Sl .i64 (mH H (dig 256 32 0) (Qa 33 0) l) (.slice (some ⟨il,ol,none⟩) 33 cl) ord33:=by
  have:=hg'.sl
  rw [hs'] at this
  have e:H++[⟨u8s (dig 256 32 0),true,true,true,1⟩,⟨ns .i64 (Qa 33 0),true,true,true,1⟩]++l=mH H (dig 256 32 0) (Qa 33 0) l:=by
   rw [Qu]; rfl
  rw [e] at this
  exact this
 have hsl:∀ r,Sl .i64 (mH H (dig 256 32 0) r l) (.slice (some ⟨il,ol,none⟩) 33 cl) ord33:=fun r=>kR rfl (by omega) hsl0
 have hsd':∀ r,Sl .i64 (mH H (dig 256 32 0) r l) (.slice (some ⟨id,off,none⟩) n c) ds:=fun r=>hsd.app
 have hslA:∀ r,Sl .i64 (mH H (dig 256 32 0) r (l++[])) (.slice (some ⟨il,ol,none⟩) 33 cl) ord33:=fun r=>by rw [QA]; exact hsl r
 have w0:IntKind.i64.wrap ((n:Int)-1)=(n:Int)-1:=Zh (by omega) (by omega)
 obtain ⟨st,hb,r,rfl,k1,k2,k3⟩:=Zm (T:=T) (base:=H.length) (id:=0) (body:=CI)
  (fun j st=>∃ r:List Nat,st=l3I (.pointer (some ⟨H.length,0,none⟩)) (.slice (some ⟨id,off,none⟩) n c) (.slice (some ⟨il,ol,none⟩) 33 cl) (mrs H) ((n:Int)-1-j) (mH H (dig 256 32 0) r l) []∧r.length=33∧(∀ x∈r,x<256)∧num 256 r=num 256 (ds.drop (n-j))%ell)
  (Q:=fun st=>∃ r:List Nat,st=l3I (.pointer (some ⟨H.length,0,none⟩)) (.slice (some ⟨id,off,none⟩) n c) (.slice (some ⟨il,ol,none⟩) 33 cl) (mrs H) (-1) (mH H (dig 256 32 0) r l) [(21,.bool false)]∧r.length=33∧(∀ x∈r,x<256)∧num 256 r=num 256 ds%ell)
  n (s:=l3I (.pointer (some ⟨H.length,0,none⟩)) (.slice (some ⟨id,off,none⟩) n c) (.slice (some ⟨il,ol,none⟩) 33 cl) (mrs H) ((n:Int)-1) (mH H (dig 256 32 0) (Qa 33 0) l) []) ⟨Qa 33 0,by rw [show ((n:Int)-1-((0:Nat):Int))=(n:Int)-1 by omega],by simp,by decide,by rw [Zw (by omega)]; decide⟩
  (fun j st hj hs=>by
   obtain ⟨r,rfl,k1,k2,k3⟩:=hs
   obtain ⟨i,hi⟩:∃ i,n-j=i+1:=⟨n-j-1,by omega⟩
   obtain ⟨x,hx⟩:∃ y,ds[i]?=some y:=⟨_,Qe (by omega)⟩
   rw [hi] at k3
   obtain ⟨r',g1,g2,g3,g4⟩:=qP (R := .pointer (some ⟨H.length,0,none⟩)) hsl hsd' hN hx (hlt x (Qn hx)) k1 k2 k3
   rw [show (n:Int)-1-j=(i:Int) by omega]
   refine ⟨_,g1,r',?_,g2,g3,?_⟩
   ·rw [show (n:Int)-1-((j+1:Nat):Int)=(i:Int)-1 by omega]
   ·rw [show n-(j+1)=i by omega]; exact g4)
  (fun st hs=>by
   obtain ⟨r,rfl,k1,k2,k3⟩:=hs
   rw [Q3,ZD] at k3
   refine ⟨_,?_,r,rfl,k1,k2,k3⟩
   have e:((0:Int) ≤ -1)=False:=by decide
   rw [show (n:Int)-1-n = -1 by omega]
   simp only [l3I,CI,Qs,quiet,cF,Jc,QR,↓pQ,reduceCtorEq,seval,-Qb,cL,e])
 have hb0:=lQ (H:=H) (R := .pointer (some ⟨H.length,0,none⟩)) (z:=dig 256 32 0) (l:=l) k1 k2
 rw [(tq k1 k2 k3).2] at hb0
 have hl32:(dig 256 32 (num 256 ds%ell)).length=32:=Ze _ _ _
 have hl0:(dig 256 32 0).length=32:=rfl
 generalize dig 256 32 (num 256 ds%ell)=K at *
 simp only [l3I,l0I,mrs,mH,Qo,Qm,Qu,hs',Qj,Zo,ZC,QJ,Nat.reduceAdd,QW,QD] at hb hb0 ha ho
 apply J4
 rw [Zg (fn:=a43) rfl]
 simp only [a43,Qs,quiet,cF,Jc,QR,↓pQ,reduceCtorEq,seval,-Qb,cL,cJ,QW,hz,hz33,f0,f32,ho,ha,hm,w0,hb,l3I,mH,mrs,hb0,l0I,hl0,hl32,Qq,Q7]
 rfl
def Dh (a b c:List Nat) (d:List Nat):List Ob:=[⟨u8s a,true,true,true,1⟩,⟨u8s b,true,true,true,1⟩,⟨u8s c,true,true,true,1⟩,⟨u8s (dig 256 32 0),true,true,true,1⟩,⟨ns .i64 d,true,true,true,1⟩]
def dV:Value := .slice (some ⟨4,0,none⟩) 66 66
def mI (a b c d:List Nat) (i:Int) (ex:Env):St:=⟨[(3,.pointer (some ⟨0,0,none⟩)),(4,.pointer (some ⟨1,0,none⟩)),(5,.pointer (some ⟨2,0,none⟩)),(6,.pointer (some ⟨3,0,none⟩)),(7,dV),(8,.int .i64 i)]++ex,Dh a b c d,[]⟩
def mkI (a b c d:List Nat) (i k:Int) (ex:Env):St:=⟨[(3,.pointer (some ⟨0,0,none⟩)),(4,.pointer (some ⟨1,0,none⟩)),(5,.pointer (some ⟨2,0,none⟩)),(6,.pointer (some ⟨3,0,none⟩)),(7,dV),(8,.int .i64 i),(9,.int .i64 k)]++ex,Dh a b c d,[]⟩
theorem gC {l:List Nat} {i M:Nat} (h:∀ x∈l,x≤M) (hy:y≤M):∀ x∈l.set i y,x≤M:=by
 intro x hx
 rcases XM hx with h1 | h1
 ·exact h x h1
 ·rw [h1]; exact hy
theorem kU {d:List Nat} {i S:Nat} (la:a.length=32) (lb:b.length=32) (xa:∀ x∈a,x<256) (xb:∀ x∈b,x<256) (hi:i<32) (hx:a[i]?=some x) (hd:d.length=66) (hM:∀ x∈d,x≤S*65280) (hS:S≤2000) :
  ∃ d',Q5 T 0 (.block 2 (.loop CP)) (mkI a b c d i 0 [])=some (.normal,mkI a b c d' i 32 [(27,.bool false)])∧d'.length=66∧(∀ x∈d',x≤(S+32)*65280)∧num 256 d'=num 256 d+x*num 256 b*256^i:=by
 have hx':=xa x (Qn hx)
 obtain ⟨st,h1,d',rfl,h2,h3,h4⟩:=Zm (T:=T) (base:=0) (id:=2) (body:=CP)
  (fun k st=>∃ d':List Nat,st=mkI a b c d' i k []∧d'.length=66∧(∀ x∈d',x≤(S+k)*65280)∧num 256 d'=num 256 d+x*num 256 (b.take k)*256^i)
  (Q:=fun st=>∃ d':List Nat,st=mkI a b c d' i 32 [(27,.bool false)]∧d'.length=66∧(∀ x∈d',x≤(S+32)*65280)∧num 256 d'=num 256 d+x*num 256 b*256^i)
  32 (s:=mkI a b c d i 0 []) ⟨d,rfl,hd,by simpa using hM,by simp [num]⟩
  (fun k st hk hs=>by
   obtain ⟨d',rfl,h2,h3,h4⟩:=hs
   obtain ⟨y,hy⟩:∃ y,b[k]?=some y:=⟨_,Qe (by omega)⟩
   obtain ⟨v,hv⟩:∃ y,d'[i+k]?=some y:=⟨_,Qe (by omega)⟩
   have hy':=xb y (Qn hy)
   have hv':=h3 v (Qn hv)
   have hxy:x*y≤255*255:=JL (by omega) (by omega)
   have hxc:=Jk hx
   have hyc:=Jk hy
   have hvc:=ZN (k := .i64) hv
   have e1:((k:Int)<32)=True:=eq_true (by omega)
   have e2:((k:Int)<(32:Int))=True:=eq_true (by omega)
   have e3:((i:Int)<(32:Int))=True:=eq_true (by omega)
   have w1:IntKind.i64.wrap ((k:Int)+1)=((k+1:Nat):Int):=Zu (n:=k+1) (by omega)
   have w2:IntKind.i64.wrap ((i:Int)+(k:Int))=((i+k:Nat):Int):=by rw [←Xj]; exact Zu (by omega)
   have w3:IntKind.i64.wrap (x:Int)=(x:Int):=Zu (by omega)
   have w4:IntKind.i64.wrap (y:Int)=(y:Int):=Zu (by omega)
   have w5:IntKind.i64.wrap ((x:Int)*(y:Int))=((x*y:Nat):Int):=by rw [←Xc]; exact Zu (by omega)
   have w6:IntKind.i64.wrap ((v:Int)+((x*y:Nat):Int))=((v+x*y:Nat):Int):=by rw [←Xj]; exact Zu (by omega)
   have hset:=Xo .i64 d' (i+k) (v+x*y)
   have hn:=Kj (B:=256) (v+x*y) hv
   refine ⟨_,?_,d'.set (i+k) (v+x*y),rfl,by rw [Q0]; exact h2,gC (fun z hz=>JP (h3 z hz) (Zq _ (xG _))) (by omega),?_⟩
   ·have e4:(0:Int)≤((i+k:Nat):Int):=by omega
    have e5:((i+k:Nat):Int)<(66:Int):=by omega
    have e6:((i+k:Nat):Int).toNat=i+k:=by omega
    have e7:i+k+1≤66:=by omega
    generalize ((i+k:Nat):Int)=ik at *
    generalize hj:i+k=j at *
    simp only [mkI,dV,Dh,CP,Qs,quiet,cF,Jc,QR,↓pQ,reduceCtorEq,seval,-Qb,cL,cJ,QW,e1,e2,e3,e4,e5,e6,e7,w1,w2,w3,w4,w5,w6,hxc,hyc,hvc,hset,Q7,h2]
   ·rw [J5 hy]
    have e8:(v+x*y)*256^(i+k)=v*256^(i+k)+x*y*256^k*256^i:=by
     rw [QY,Zx (x*y),←JE,Xh k i]
    rw [V7,QY,←Zx x y]
    omega)
  (fun st hs=>by
   obtain ⟨d',rfl,h2,h3,h4⟩:=hs
   rw [Ql (by omega)] at h4
   refine ⟨_,?_,d',rfl,h2,h3,h4⟩
   simp only [mkI,CP,Qs,quiet,cF,Jc,QR,↓pQ,reduceCtorEq,seval,-Qb,cL])
 exact ⟨d',h1,h2,h3,h4⟩
theorem kT {d:List Nat} (la:a.length=32) (lb:b.length=32) (lc:c.length=32) (xa:∀ x∈a,x<256) (xb:∀ x∈b,x<256) (xc:∀ x∈c,x<256) (hd:d=Qa 66 0) :
  ∃ d',Q5 T 0 (.block 0 (.loop CO)) (mI a b c d 0 [])=some (.normal,mI a b c d' 32 [(13,.bool false)])∧d'.length=66∧(∀ x∈d',x≤1056*65280)∧num 256 d'=num 256 a*num 256 b+num 256 c:=by
 obtain ⟨st,h1,d',rfl,h2,h3,h4⟩:=Zm (T:=T) (base:=0) (id:=0) (body:=CO)
  (fun i st=>∃ (d':List Nat) (ex:Env),st=mI a b c d' i ex∧(d'.length=66∧(∀ x∈d',x≤(i*33)*65280)∧num 256 d'=num 256 (a.take i)*num 256 b+num 256 (c.take i)))
  (Q:=fun st=>∃ d':List Nat,st=mI a b c d' 32 [(13,.bool false)]∧d'.length=66∧(∀ x∈d',x≤1056*65280)∧num 256 d'=num 256 a*num 256 b+num 256 c)
  32 (s:=mI a b c d 0 []) ⟨d,[],rfl,by subst hd; simp,by subst hd; simp,by subst hd; rw [Jz,Jz,num,Ks]; decide⟩
  (fun i st hi hs=>by
   obtain ⟨d',ex,rfl,h2,h3,h4⟩:=hs
   obtain ⟨x,hx⟩:∃ y,a[i]?=some y:=⟨_,Qe (by omega)⟩
   obtain ⟨y,hy⟩:∃ y,c[i]?=some y:=⟨_,Qe (by omega)⟩
   obtain ⟨v,hv⟩:∃ y,d'[i]?=some y:=⟨_,Qe (by omega)⟩
   have hy':=xc y (Qn hy)
   have hv':=h3 v (Qn hv)
   have hyc:=Jk hy
   have hvc:=ZN (k := .i64) hv
   have hn:=Kj (B:=256) (v+y) hv
   have hset:=Xo .i64 d' i (v+y)
   obtain ⟨d2,g1,g2,g3,g4⟩:=kU (c:=c) (d:=d'.set i (v+y)) (S:=i*33+1) la lb xa xb hi hx (by rw [Q0]; exact h2) (gC (fun z hz=>JP (h3 z hz) (Zq _ (xG _))) (by omega)) (by omega)
   have e1:((i:Int)<32)=True:=eq_true (by omega)
   have e2:((i:Int)<(32:Int))=True:=eq_true (by omega)
   have e3:((i:Int)<(66:Int))=True:=eq_true (by omega)
   have w1:IntKind.i64.wrap ((i:Int)+1)=((i+1:Nat):Int):=Zu (n:=i+1) (by omega)
   have w3:IntKind.i64.wrap (y:Int)=(y:Int):=Zu (by omega)
   have w6:IntKind.i64.wrap ((v:Int)+(y:Int))=((v+y:Nat):Int):=by rw [←Xj]; exact Zu (by omega)
   have e7:i+1≤66:=by omega
   refine ⟨_,?_,d2,[],rfl,g2,fun z hz=>JP (g3 z hz) (Zq _ (by omega)),?_⟩
   ·simp only [mkI,dV,Dh,Qo,Qm] at g1
    simp only [mI,dV,Dh,CO,Qs,quiet,cF,Jc,QR,↓pQ,reduceCtorEq,seval,-Qb,cL,cJ,QW,e1,e2,e3,e7,w1,w3,w6,hyc,hvc,hset,Q7,h2,g1]
   ·rw [g4,J5 hx,J5 hy,QY]
    have e8:(v+y)*256^i=v*256^i+y*256^i:=QY _ _ _
    have e9:x*num 256 b*256^i=x*256^i*num 256 b:=by simp only [Zx,Jr,Zk]
    omega)
  (fun st hs=>by
   obtain ⟨d',ex,rfl,h2,h3,h4⟩:=hs
   rw [Ql (by omega),Ql (by omega)] at h4
   refine ⟨_,?_,d',rfl,h2,fun z hz=>by have:=h3 z hz; omega,h4⟩
   simp only [mI,CO,Qs,quiet,cF,Jc,QR,↓pQ,reduceCtorEq,seval,-Qb,cL])
 exact ⟨d',h1,h2,h3,h4⟩
def cI (a b c d:List Nat) (i:Int) (ex:Env):St:=⟨[(6,.pointer (some ⟨3,0,none⟩)),(7,dV),(10,.int .i64 i)]++ex,Dh a b c d,[]⟩
theorem kV {d:List Nat} (hd:d.length=66) (hM:∀ x∈d,x≤2^30) (hnum:num 256 d<256^65) :
  ∃ d',Q5 T 0 (.block 4 (.loop CR)) (cI a b c d 0 [])=some (.normal,cI a b c d' 65 [(48,.bool false)])∧d'.length=66∧(∀ x∈d',x<256)∧num 256 d'=num 256 d:=by
 obtain ⟨st,h1,d',rfl,h2,h3,h4,h5,h6⟩:=Zm (T:=T) (base:=0) (id:=4) (body:=CR)
  (fun i st=>∃ d':List Nat,st=cI a b c d' i []∧d'.length=66∧(∀ t x,t<i→d'[t]?=some x→x<256)∧(∀ x,d'[i]?=some x→x≤2^31)∧(∀ t x,i<t→d'[t]?=some x→x≤2^30)∧num 256 d'=num 256 d)
  (Q:=fun st=>∃ d':List Nat,st=cI a b c d' 65 [(48,.bool false)]∧d'.length=66∧(∀ t x,t<65→d'[t]?=some x→x<256)∧(∀ x,d'[65]?=some x→x≤2^31)∧(∀ t x,65<t→d'[t]?=some x→x≤2^30)∧num 256 d'=num 256 d)
  65 (s:=cI a b c d 0 []) ⟨d,rfl,hd,fun t x ht=>by omega,fun x hx=>by have:=hM x (Qn hx); omega,fun t x _ hx=>hM x (Qn hx),rfl⟩
  (fun i st hi hs=>by
   obtain ⟨d',rfl,h2,h3,h4,h5,h6⟩:=hs
   obtain ⟨x,hx⟩:∃ y,d'[i]?=some y:=⟨_,Qe (by omega)⟩
   obtain ⟨y,hy⟩:∃ y,d'[i+1]?=some y:=⟨_,Qe (by omega)⟩
   have hx':=h4 x hx
   have hy':=h5 (i+1) y (by omega) hy
   have hxc:=ZN (k := .i64) hx
   have hyc:=ZN (k := .i64) hy
   have hx2:(d'.set (i+1) (y+x/256))[i]?=some x:=by rw [Qt (by omega)]; exact hx
   have hxc2:=ZN (k := .i64) hx2
   have hset1:=Xo .i64 d' (i+1) (y+x/256)
   have hset2:=Xo .i64 (d'.set (i+1) (y+x/256)) i (x%256)
   have hn1:=Kj (B:=256) (y+x/256) hy
   have hn2:=Kj (B:=256) (x%256) hx2
   have e1:((i:Int)<65)=True:=eq_true (by omega)
   have e3:((i:Int)<(66:Int))=True:=eq_true (by omega)
   have w1:IntKind.i64.wrap ((i:Int)+1)=((i+1:Nat):Int):=Zu (n:=i+1) (by omega)
   have w2:IntKind.i64.wrap ((x:Int).tdiv 256)=((x/256:Nat):Int):=by rw [show (x:Int).tdiv 256=((x/256:Nat):Int) from rfl]; exact Zu (by omega)
   have w3:IntKind.i64.wrap ((y:Int)+((x/256:Nat):Int))=((y+x/256:Nat):Int):=by rw [←Xj]; exact Zu (by omega)
   have w4:(x:Int).tmod 256=((x%256:Nat):Int):=rfl
   have e4:(0:Int)≤((i+1:Nat):Int):=by omega
   have e5:((i+1:Nat):Int)<(66:Int):=by omega
   have e6:((i+1:Nat):Int).toNat=i+1:=by omega
   have e7:i+1+1≤66:=by omega
   have e8:i+1≤66:=by omega
   have e9:i≤65:=by omega
   have hl2:(d'.set (i+1) (y+x/256)).length=66:=by rw [Q0]; exact h2
   refine ⟨_,?_,(d'.set (i+1) (y+x/256)).set i (x%256),rfl,by rw [Q0]; exact hl2,fun t z ht hz => ?_,fun z hz => ?_,fun t z ht hz => ?_,?_⟩
   ·generalize hik:((i+1:Nat):Int)=ik at *
    generalize hj:i+1=j at *
    simp only [cI,dV,Dh,CR,Qs,quiet,cF,Jc,QR,↓pQ,reduceCtorEq,seval,-Qb,cL,cJ,QW,e1,e3,e4,e5,e6,e7,e8,e9,w1,w2,w3,w4,hxc,hyc,hset1,hxc2,hset2,Q7,h2,hl2]
   ·by_cases hti:t=i
    ·subst hti
     rw [Q1 (by omega)] at hz
     cases hz; omega
    ·rw [Qt (by omega),Qt (by omega)] at hz
     exact h3 t z (by omega) hz
   ·rw [Qt (by omega),Q1 (by omega)] at hz
    cases hz; omega
   ·rw [Qt (by omega),Qt (by omega)] at hz
    exact h5 t z (by omega) hz
   ·have e9:(y+x/256)*256^(i+1)=y*256^(i+1)+256*(x/256)*256^i:=by
     rw [QY,Zi]; simp only [Zx,Jr,Zk]
    have e10:x*256^i=256*(x/256)*256^i+x%256*256^i:=by rw [←QY,Z0]
    omega)
  (fun st hs=>by
   obtain ⟨d',rfl,h2,h3,h4,h5,h6⟩:=hs
   refine ⟨_,?_,d',rfl,h2,h3,h4,h5,h6⟩
   simp only [cI,CR,Qs,quiet,cF,Jc,QR,↓pQ,reduceCtorEq,seval,-Qb,cL])
 refine ⟨d',h1,h2,fun z hz => ?_,h6⟩
 obtain ⟨t,ht⟩:=VO.1 hz
 have htl:=(Qg.1 ht).1
 by_cases h65:t<65
 ·exact h3 t z h65 ht
 ·have:t=65:=by omega
  subst this
  have h7:=J5 (B:=256) ht
  rw [Ql (by omega)] at h7
  rcases Jd z with h0 | h0
  ·omega
  ·have:1*256^65≤z*256^65:=Zq _ h0
   omega
theorem Ix (la:a.length=32) (lb:b.length=32) (lc:c.length=32) (xa:∀ x∈a,x<256) (xb:∀ x∈b,x<256) (xc:∀ x∈c,x<256) :
  ∃ l,Z6 T 70 [.agg (u8s a).toArray,.agg (u8s b).toArray,.agg (u8s c).toArray] []=some (.agg (u8s (mA a b c)).toArray,l,[]):=by
 have hz:Qa 32 (Value.int .u8 0)=u8s (dig 256 32 0):=rfl
 have hz66:(Qa 66 [Value.int .i64 0]).flatten=ns .i64 (Qa 66 0):=rfl
 obtain ⟨d1,h1,h2,h3,h4⟩:=kT la lb lc xa xb xc rfl
 have na:=num_lt xa
 have nb:=num_lt xb
 have nc:=num_lt xc
 rw [la] at na
 rw [lb] at nb
 rw [lc] at nc
 have nab:num 256 a*num 256 b<256^32*256^32:=DC na nb
 obtain ⟨d2,g1,g2,g3,g4⟩:=kV (a:=a) (b:=b) (c:=c) h2 (fun x hx=>by have:=h3 x hx; omega) (by
  have:(256:Nat)^32*256^32+256^32≤256^65:=by decide
  omega)
 have hsl:=Sl.mk (k := .i64) (H:=Dh a b c d2) (id:=4) (off:=0) (c:=66) (o:=⟨ns .i64 d2,true,true,true,1⟩) (l:=d2) (by simp [Dh,liveAt]) (by simp [Q7]) (fun i x hx=>by rw [QJ]; exact ZN hx)
 rw [g2] at hsl
 obtain ⟨l,hm⟩:=EY hsl (by decide) g3
 rw [g4,h4,show dig 256 32 ((num 256 a*num 256 b+num 256 c)%ell)=mA a b c from rfl] at hm
 simp only [mI,cI,dV,Dh,Qo,Qm] at h1 g1 hm
 apply J4
 rw [Zg (fn:=a20) rfl]
 simp only [a20,Qs,quiet,cF,Jc,QR,↓pQ,reduceCtorEq,seval,-Qb,cL,cJ,QW,hz,hz66,h1,g1,hm,Qq,kS,Ze]
 rfl
end Go.Ev.YtpgphpkjlpkcbaaGreat
namespace Go.Ev
section
variable {bs:List Nat}
def JK (bs:List Nat):Value := .string ⟨(bs.map UInt8.ofNat).toArray⟩
theorem DJ:vLen true (JK bs)=some (.int .i64 bs.length):=by simp [JK,vLen,ByteArray.size]
theorem OV {i x:Nat} (h:bs[i]?=some x) (hx:x<256):GO (JK bs) (.int .i64 i)=some (.int .u8 (x:Nat)):=by
 have h1:((bs.map UInt8.ofNat).toArray.toList)[i]?=some (UInt8.ofNat x):=by simp [h]
 have h2:((0:Int)≤(i:Int)):=by omega
 have h3:(UInt8.ofNat x).toNat=x:=by rw [UInt8.toNat_ofNat']; omega
 simp only [JK,GO,h2,if_true,KW,h1,Qp,h3]
theorem Mj:∀ (bs:List Nat),XD (u8s bs)=some (bs.map UInt8.ofNat)
 | []=>rfl
 | x::r=>by
  have:=Mj r
  simp only [u8s,JF,XD,KW] at this ⊢
  rw [this]; rfl
end
end Go.Ev
namespace Go.Ev.YtpgphpkjlpkcbaaGreat
open Go Go.Ev
set_option maxRecDepth 100000
section
attribute [local congr] JD JU JC JV Jv
section
variable {bs:List Nat} {n:Nat}
def rrI (bs d:List Nat) (n:Nat) (i:Int) (ex:Env):St:=⟨[(0,JK bs),(2,.pointer (some ⟨0,0,none⟩)),(3,.slice (some ⟨1,0,none⟩) n n),(4,.int .i64 i)]++ex,[⟨u8s (dig 256 32 0),true,true,true,1⟩,⟨ns .i64 d,true,true,true,1⟩],[]⟩
theorem gV {d:List Nat} (hn:bs.length=n) (hN:n<2^40) (xb:∀ x∈bs,x<256) (hd:d.length=n) :
  Q5 T 0 (.block 0 (.loop CS)) (rrI bs d n 0 [])=some (.normal,rrI bs bs n n [(11,.bool false)]):=by
 obtain ⟨st,h1,d',rfl,h2,h3⟩:=Zm (T:=T) (base:=0) (id:=0) (body:=CS)
  (fun i st=>∃ d':List Nat,st=rrI bs d' n i []∧d'.length=n∧∀ t,t<i→d'[t]?=bs[t]?)
  (Q:=fun st=>∃ d':List Nat,st=rrI bs d' n n [(11,.bool false)]∧d'.length=n∧∀ t,t<n→d'[t]?=bs[t]?)
  n (s:=rrI bs d n 0 []) ⟨d,rfl,hd,fun t ht=>by omega⟩
  (fun i st hi hs=>by
   obtain ⟨d',rfl,h2,h3⟩:=hs
   obtain ⟨x,hx⟩:∃ y,bs[i]?=some y:=⟨_,Qe (by omega)⟩
   have hx':=xb x (Qn hx)
   have hxi:=OV hx hx'
   have hset:=Xo .i64 d' i x
   have hl:=DJ (bs:=bs)
   rw [hn] at hl
   have e1:((i:Int)<(n:Int))=True:=eq_true (by omega)
   have w1:IntKind.i64.wrap ((i:Int)+1)=((i+1:Nat):Int):=Zu (n:=i+1) (by omega)
   have w3:IntKind.i64.wrap (x:Int)=(x:Int):=Zu (by omega)
   have e8:i+1≤n:=by omega
   refine ⟨_,?_,d'.set i x,rfl,by rw [Q0]; exact h2,fun t ht => ?_⟩
   ·simp only [rrI,CS,Qs,quiet,cF,Jc,QR,↓pQ,reduceCtorEq,seval,-Qb,cL,cJ,QW,hl,hxi,e1,e8,w1,w3,hset,Q7,h2]
   ·by_cases hti:t=i
    ·subst hti
     rw [Q1 (by omega),hx]
    ·rw [Qt (by omega)]
     exact h3 t (by omega))
  (fun st hs=>by
   obtain ⟨d',rfl,h2,h3⟩:=hs
   have hl:=DJ (bs:=bs)
   rw [hn] at hl
   refine ⟨_,?_,d',rfl,h2,h3⟩
   simp only [rrI,CS,Qs,quiet,cF,Jc,QR,↓pQ,reduceCtorEq,seval,-Qb,cL,hl])
 have:d'=bs:=by
  apply Jn
  intro t
  by_cases ht:t<n
  ·exact h3 t ht
  ·rw [QN (by omega),QN (by omega)]
 rw [this] at h1
 exact h1
theorem OG (n:Nat):(Qa n [Value.int .i64 0]).flatten=ns .i64 (Qa n 0):=by
 induction n with
 | zero=>rfl
 | succ n ih=>rw [Xm,QL,ih,Xm]; rfl
theorem Iw (hn:bs.length=n) (hN:n<2^40) (xb:∀ x∈bs,x<256):∃ l,Z6 T 117 [JK bs] []=some (.agg (u8s (rd bs)).toArray,l,[]):=by
 have hz:Qa 32 (Value.int .u8 0)=u8s (dig 256 32 0):=rfl
 have hl:=DJ (bs:=bs)
 rw [hn] at hl
 have h1:=gV hn hN xb (d:=Qa n 0) (by simp)
 have hsl:=Sl.mk (k := .i64) (H:=[⟨u8s (dig 256 32 0),true,true,true,1⟩,⟨ns .i64 bs,true,true,true,1⟩]) (id:=1) (off:=0) (c:=n) (o:=⟨ns .i64 bs,true,true,true,1⟩) (l:=bs) (by simp [liveAt]) (by simp [Q7]) (fun i x hx=>by rw [QJ]; exact ZN hx)
 rw [hn] at hsl
 obtain ⟨l,hm⟩:=EY hsl hN xb
 rw [ui] at hm
 have e1:((n:Int)*((8:Nat):Int)≤2^47)=True:=eq_true (by omega)
 simp only [JN,Int.reducePow] at e1
 simp only [rrI,Qo,Qm,QD] at h1 hm
 apply J4
 rw [Zg (fn:=a18) rfl]
 simp only [a18,Qs,quiet,cF,Jc,QR,↓pQ,reduceCtorEq,seval,-Qb,cL,cJ,QW,hz,hl,e1,OG,h1,hm,Qq,Po,Ze]
 rfl
end
end
section
open Go Go.Ev Go.Proofs
theorem ZL {n : Nat} {fn : Func} {a : AFun} (h : Tryz.prog.funcs[n]? = some fn) (e : (compFun Tryz.prog fn, fn.name == "runtime.NumGoroutine") = (some a.strip, false)) : ∃ fn, Tryz.prog.funcs[n]? = some fn ∧ compFun Tryz.prog fn = some a.strip ∧ (fn.name == "runtime.NumGoroutine") = false := ⟨fn, h, congrArg Prod.fst e, congrArg Prod.snd e⟩
theorem Sz (args:Array Value) (w:World):(callFunc 159 args).run Tryz.prog w=(((do
  let (x, y, c) ← Extern.MathBitsCarry.three "Add64" args
  pure (Extern.MathBitsCarry.pair ((x+y+c)%Extern.MathBitsCarry.m64) ((x+y+c)/Extern.MathBitsCarry.m64))):Sem Value).run Tryz.prog w).andThen fun v w'=>.ok (.value v) w' :=
 run_callFunc_extern (e:=fun args=>do
  let (x, y, c) ← Extern.MathBitsCarry.three "Add64" args
  pure (Extern.MathBitsCarry.pair ((x+y+c)%Extern.MathBitsCarry.m64) ((x+y+c)/Extern.MathBitsCarry.m64))) Tryz.func159 (by kernel_rfl) (by kernel_rfl) (by kernel_rfl) (by kernel_rfl) args w
theorem bO (P:Program) (w:World) (x y c:Int) (hc:c.toNat≤1):(((do
  let (x, y, c) ← Extern.MathBitsCarry.three "Add64" [Value.int .u64 x, .int .u64 y, .int .u64 c].toArray
  pure (Extern.MathBitsCarry.pair ((x+y+c)%Extern.MathBitsCarry.m64) ((x+y+c)/Extern.MathBitsCarry.m64))):Sem Value).run P w)=.ok (.tuple #[.int .u64 ((x.toNat+y.toNat+c.toNat)%18446744073709551616:Nat),.int .u64 ((x.toNat+y.toNat+c.toNat)/18446744073709551616:Nat)]) w:=by
 have hc':¬ c.toNat>1:=by omega
 have e : Extern.MathBitsCarry.three "Add64" [Value.int .u64 x, .int .u64 y, .int .u64 c].toArray = (if c.toNat > 1 then (do unsupported (.noEntry ("extern/math/bits." ++ "Add64" ++ ": a carry that is neither 0 nor 1")); pure (x.toNat, y.toNat, c.toNat)) else pure (x.toNat, y.toNat, c.toNat) : Sem (Nat × Nat × Nat)) := by
  rfl
 rw [e,if_neg hc']
 rfl
theorem tW (f:Nat) (args:List Value) (v:Value) (h:T.ext f args=some v):(∀ ρ,VRel ρ v v)∧∀ w,(callFunc f args.toArray).run Tryz.prog w=.ok (.value v) w:=by
 have h':rG f args=some v:=h
 unfold rG at h'
 split at h'
 ·split at h'
  ·rename_i hc
   cases h'
   refine ⟨fun ρ=>VRel.tuple (.cons (.same rfl) (.cons (.same rfl) .nil)),fun w => ?_⟩
   rw [Sz,bO _ _ _ _ _ hc]
   rfl
  ·cases h'
 ·cases h'
theorem tabOk:TabOk Tryz.prog T:=by
 refine ⟨fun f af h => ?_,fun f args v _ h _=>tW f args v h⟩
 have h':fnS f=some af:=h
 unfold fnS at h'
 split at h'
 ·cases h'; exact ZL Tryz.func71 (by kernel_rfl)
 ·cases h'; exact ZL Tryz.func101 (by kernel_rfl)
 ·cases h'; exact ZL Tryz.func117 (by kernel_rfl)
 ·cases h'; exact ZL Tryz.func65 (by kernel_rfl)
 ·cases h'; exact ZL Tryz.func70 (by kernel_rfl)
 ·cases h'; exact ZL Tryz.func47 (by kernel_rfl)
 ·cases h'; exact ZL Tryz.func115 (by kernel_rfl)
 ·cases h'; exact ZL Tryz.func50 (by kernel_rfl)
 ·cases h'; exact ZL Tryz.func51 (by kernel_rfl)
 ·cases h'; exact ZL Tryz.func49 (by kernel_rfl)
 ·cases h'; exact ZL Tryz.func94 (by kernel_rfl)
 ·cases h'; exact ZL Tryz.func53 (by kernel_rfl)
 ·cases h'; exact ZL Tryz.func96 (by kernel_rfl)
 ·cases h'; exact ZL Tryz.func45 (by kernel_rfl)
 ·cases h'; exact ZL Tryz.func54 (by kernel_rfl)
 ·cases h'; exact ZL Tryz.func55 (by kernel_rfl)
 ·cases h'; exact ZL Tryz.func52 (by kernel_rfl)
 ·cases h'; exact ZL Tryz.func61 (by kernel_rfl)
 ·cases h'; exact ZL Tryz.func62 (by kernel_rfl)
 ·cases h'; exact ZL Tryz.func60 (by kernel_rfl)
 ·cases h'; exact ZL Tryz.func56 (by kernel_rfl)
 ·cases h'; exact ZL Tryz.func46 (by kernel_rfl)
 ·cases h'; exact ZL Tryz.func97 (by kernel_rfl)
 ·cases h'; exact ZL Tryz.func120 (by kernel_rfl)
 ·cases h'; exact ZL Tryz.func121 (by kernel_rfl)
 ·cases h'; exact ZL Tryz.func124 (by kernel_rfl)
 ·cases h'; exact ZL Tryz.func118 (by kernel_rfl)
 ·cases h'; exact ZL Tryz.func119 (by kernel_rfl)
 ·cases h'; exact ZL Tryz.func98 (by kernel_rfl)
 ·cases h'; exact ZL Tryz.func99 (by kernel_rfl)
 ·cases h'; exact ZL Tryz.func114 (by kernel_rfl)
 ·cases h'; exact ZL Tryz.func72 (by kernel_rfl)
 ·cases h'; exact ZL Tryz.func73 (by kernel_rfl)
 ·cases h'; exact ZL Tryz.func76 (by kernel_rfl)
 ·cases h'; exact ZL Tryz.func91 (by kernel_rfl)
 ·cases h'; exact ZL Tryz.func95 (by kernel_rfl)
 ·cases h'; exact ZL Tryz.func102 (by kernel_rfl)
 ·cases h'; exact ZL Tryz.func146 (by kernel_rfl)
 ·cases h'; exact ZL Tryz.func77 (by kernel_rfl)
 ·cases h'; exact ZL Tryz.func78 (by kernel_rfl)
 ·cases h'; exact ZL Tryz.func103 (by kernel_rfl)
 ·cases h'; exact ZL Tryz.func87 (by kernel_rfl)
 ·cases h'; exact ZL Tryz.func88 (by kernel_rfl)
 ·cases h'; exact ZL Tryz.func89 (by kernel_rfl)
 ·cases h'; exact ZL Tryz.func90 (by kernel_rfl)
 ·cases h'; exact ZL Tryz.func92 (by kernel_rfl)
 ·cases h'; exact ZL Tryz.func93 (by kernel_rfl)
 ·cases h'; exact ZL Tryz.func104 (by kernel_rfl)
 ·cases h'; exact ZL Tryz.func105 (by kernel_rfl)
 ·cases h'; exact ZL Tryz.func106 (by kernel_rfl)
 ·cases h'; exact ZL Tryz.func107 (by kernel_rfl)
 ·cases h'; exact ZL Tryz.func108 (by kernel_rfl)
 ·cases h'; exact ZL Tryz.func109 (by kernel_rfl)
 ·cases h'; exact ZL Tryz.func110 (by kernel_rfl)
 ·cases h'; exact ZL Tryz.func111 (by kernel_rfl)
 ·cases h'; exact ZL Tryz.func112 (by kernel_rfl)
 ·cases h'; exact ZL Tryz.func113 (by kernel_rfl)
 ·cases h'; exact ZL Tryz.func147 (by kernel_rfl)
 ·cases h'; exact ZL Tryz.func157 (by kernel_rfl)
 ·cases h'; exact ZL Tryz.func127 (by kernel_rfl)
 ·cases h'; exact ZL Tryz.func128 (by kernel_rfl)
 ·cases h'; exact ZL Tryz.func129 (by kernel_rfl)
 ·cases h'; exact ZL Tryz.func130 (by kernel_rfl)
 ·cases h'; exact ZL Tryz.func131 (by kernel_rfl)
 ·cases h'; exact ZL Tryz.func126 (by kernel_rfl)
 ·cases h'; exact ZL Tryz.func132 (by kernel_rfl)
 ·cases h'; exact ZL Tryz.func133 (by kernel_rfl)
 ·cases h'; exact ZL Tryz.func151 (by kernel_rfl)
 ·cases h'; exact ZL Tryz.func152 (by kernel_rfl)
 ·cases h'; exact ZL Tryz.func153 (by kernel_rfl)
 ·cases h'; exact ZL Tryz.func154 (by kernel_rfl)
 ·cases h'; exact ZL Tryz.func155 (by kernel_rfl)
 ·cases h'; exact ZL Tryz.func156 (by kernel_rfl)
 ·cases h'; exact ZL Tryz.func158 (by kernel_rfl)
 ·cases h'; exact ZL Tryz.func163 (by kernel_rfl)
 ·cases h'; exact ZL Tryz.func31 (by kernel_rfl)
 ·cases h'; exact ZL Tryz.func27 (by kernel_rfl)
 ·cases h'; exact ZL Tryz.func35 (by kernel_rfl)
 ·cases h'; exact ZL Tryz.func64 (by kernel_rfl)
 ·cases h'; exact ZL Tryz.func48 (by kernel_rfl)
 ·cases h'; exact ZL Tryz.func100 (by kernel_rfl)
 ·cases h'; exact ZL Tryz.func148 (by kernel_rfl)
 ·cases h'; exact ZL Tryz.func149 (by kernel_rfl)
 ·cases h'; exact ZL Tryz.func150 (by kernel_rfl)
 ·cases h'; exact ZL Tryz.func137 (by kernel_rfl)
 ·cases h'; exact ZL Tryz.func162 (by kernel_rfl)
 ·cases h'; exact ZL Tryz.func139 (by kernel_rfl)
 ·cases h'; exact ZL Tryz.func164 (by kernel_rfl)
 ·cases h'; exact ZL Tryz.func161 (by kernel_rfl)
 ·cases h'; exact ZL Tryz.func34 (by kernel_rfl)
 ·cases h'; exact ZL Tryz.func36 (by kernel_rfl)
 ·cases h'; exact ZL Tryz.func69 (by kernel_rfl)
 ·cases h'; exact ZL Tryz.func58 (by kernel_rfl)
 ·cases h'; exact ZL Tryz.func59 (by kernel_rfl)
 ·cases h'; exact ZL Tryz.func116 (by kernel_rfl)
 ·cases h'; exact ZL Tryz.func86 (by kernel_rfl)
 ·cases h'; exact ZL Tryz.func141 (by kernel_rfl)
 ·cases h'; exact ZL Tryz.func142 (by kernel_rfl)
 ·cases h'; exact ZL Tryz.func143 (by kernel_rfl)
 ·cases h'; exact ZL Tryz.func144 (by kernel_rfl)
 ·cases h'; exact ZL Tryz.func145 (by kernel_rfl)
 ·cases h'; exact ZL Tryz.func7 (by kernel_rfl)
 ·cases h'; exact ZL Tryz.func15 (by kernel_rfl)
 ·cases h'; exact ZL Tryz.func8 (by kernel_rfl)
 ·cases h'; exact ZL Tryz.func13 (by kernel_rfl)
 ·cases h'; exact ZL Tryz.func20 (by kernel_rfl)
 ·cases h'; exact ZL Tryz.func22 (by kernel_rfl)
 ·cases h'; exact ZL Tryz.func11 (by kernel_rfl)
 ·cases h'; exact ZL Tryz.func16 (by kernel_rfl)
 ·cases h'; exact ZL Tryz.func17 (by kernel_rfl)
 ·cases h'; exact ZL Tryz.func28 (by kernel_rfl)
 ·cases h'; exact ZL Tryz.func23 (by kernel_rfl)
 ·cases h'; exact ZL Tryz.func24 (by kernel_rfl)
 ·cases h'; exact ZL Tryz.func37 (by kernel_rfl)
 ·cases h'; exact ZL Tryz.func32 (by kernel_rfl)
 ·cases h'; exact ZL Tryz.func38 (by kernel_rfl)
 ·cases h'; exact ZL Tryz.func39 (by kernel_rfl)
 ·cases h'; exact ZL Tryz.func40 (by kernel_rfl)
 ·cases h'; exact ZL Tryz.func74 (by kernel_rfl)
 ·cases h'; exact ZL Tryz.func75 (by kernel_rfl)
 ·cases h'; exact ZL Tryz.func66 (by kernel_rfl)
 ·cases h'; exact ZL Tryz.func67 (by kernel_rfl)
 ·cases h'; exact ZL Tryz.func79 (by kernel_rfl)
 ·cases h'; exact ZL Tryz.func80 (by kernel_rfl)
 ·cases h'; exact ZL Tryz.func81 (by kernel_rfl)
 ·cases h'; exact ZL Tryz.func82 (by kernel_rfl)
 ·cases h'; exact ZL Tryz.func83 (by kernel_rfl)
 ·cases h'; exact ZL Tryz.func125 (by kernel_rfl)
 ·cases h'; exact ZL Tryz.func134 (by kernel_rfl)
 ·cases h'; exact ZL Tryz.func135 (by kernel_rfl)
 ·cases h'; exact ZL Tryz.func136 (by kernel_rfl)
 ·cases h'; exact ZL Tryz.func138 (by kernel_rfl)
 ·cases h'; exact ZL Tryz.func160 (by kernel_rfl)
 ·cases h'; exact ZL Tryz.func6 (by kernel_rfl)
 ·cases h'; exact ZL Tryz.func10 (by kernel_rfl)
 ·cases h'; exact ZL Tryz.func18 (by kernel_rfl)
 ·cases h'; exact ZL Tryz.func19 (by kernel_rfl)
 ·cases h'; exact ZL Tryz.func21 (by kernel_rfl)
 ·cases h'; exact ZL Tryz.func30 (by kernel_rfl)
 ·cases h'; exact ZL Tryz.func33 (by kernel_rfl)
 ·cases h'; exact ZL Tryz.func42 (by kernel_rfl)
 ·cases h'; exact ZL Tryz.func63 (by kernel_rfl)
 ·cases h'; exact ZL Tryz.func68 (by kernel_rfl)
 ·cases h'; exact ZL Tryz.func122 (by kernel_rfl)
 ·cases h'; exact ZL Tryz.func123 (by kernel_rfl)
 ·cases h'
theorem mixed:Tryz.prog.follows .mixedOrders=true:=by kernel_rfl
end
end Go.Ev.YtpgphpkjlpkcbaaGreat
namespace Go.Ev
open Go.RowKit Go.WideShapes Go.ChangeShapes
variable {w:World} {base n:Nat} {t e:TypeId} {v:Value} {k j:IntKind} {a b:Int}
theorem cC {P:Program} {r:Reach} {m:Nat} {e':TypeId} (ht:P.underlying t=some (.array m e')) (hc:P.cellsOf t=n) (hts:P.cellTypes P.depth t=some (Qa n e)) (he:P.underlying e=some (.int .u8)) (hn:0<n)
 (h:Value.okWide P w r base t v):∃ l:List Nat,v=.agg (u8s l).toArray∧l.length=n∧∀ x∈l,x<256:=by
  simp only [Value.okWide,ht] at h
  obtain ⟨cs,rfl,h1,ts,h2,-,h3⟩:=h
  rw [hc] at h1
  rw [hts] at h2
  cases h2
  have hcell:∀ (i:Nat) (v:Value),cs[i]?=some v→∃ x:Nat,v=Value.int .u8 (x:Nat)∧x<256:=by
    intro i v hv
    obtain ⟨u,g1,g2⟩:=h3 i v hv
    have hu:u=e:=by
      have:=Qn g1
      exact HU this
    subst hu
    simp only [Cell.okWide,Cell.ok,he] at g2
    cases v<;>try (exact g2.elim)
    · rename_i k x
      obtain ⟨rfl,g3,g4⟩:=g2
      have g3':(0:Int)≤x:=g3
      have g4':x≤255:=g4
      exact ⟨x.toNat,by rw [Int.toNat_of_nonneg g3'],by omega⟩
  refine ⟨cs.toList.map fun v=>match v with | .int _ n=>n.toNat | _=>0,?_,by simp [h1],?_⟩
  · congr 1
    apply XP
    intro i
    simp only [u8s,Bx,KG,Xd,ZI]
    cases hv:cs[i]? with
    | none=>rfl
    | some v =>
      obtain ⟨x,rfl,hx⟩:=hcell i v hv
      simp
  · intro x hx
    simp only [JB] at hx
    obtain ⟨v,hv,rfl⟩:=hx
    obtain ⟨i,hi⟩:=VO.1 hv
    rw [ZI] at hi
    obtain ⟨x,rfl,hx⟩:=hcell i v hi
    simpa using hx
theorem cD {P:Program} {r:Reach} (ht:(match P.underlying t with | some (.struct _) | some (.array _ _)=>true | _=>false)=true) (hc:P.cellsOf t=n) (hts:P.cellTypes P.depth t=some (Qa n e)) (he:P.underlying e=some (.int .u8)) (hn:0<n)
 (h:Value.okWide P w r base t v):∃ l:List Nat,v=.agg (u8s l).toArray∧l.length=n∧∀ x∈l,x<256:=by
  have h':∃ cs,v=.agg cs∧cs.size=P.cellsOf t∧Row.okWide P w r base t cs:=by
    unfold Value.okWide at h
    split at ht
    · rename_i e; rw [e] at h; exact h
    · rename_i e; rw [e] at h; exact h
    · cases ht
  obtain ⟨cs,rfl,h1,ts,h2,-,h3⟩:=h'
  rw [hc] at h1
  rw [hts] at h2
  cases h2
  have hcell:∀ (i:Nat) (v:Value),cs[i]?=some v→∃ x:Nat,v=Value.int .u8 (x:Nat)∧x<256:=by
    intro i v hv
    obtain ⟨u,g1,g2⟩:=h3 i v hv
    have hu:u=e:=by
      have:=Qn g1
      exact HU this
    subst hu
    simp only [Cell.okWide,Cell.ok,he] at g2
    cases v<;>try (exact g2.elim)
    · rename_i k x
      obtain ⟨rfl,g3,g4⟩:=g2
      have g3':(0:Int)≤x:=g3
      have g4':x≤255:=g4
      exact ⟨x.toNat,by rw [Int.toNat_of_nonneg g3'],by omega⟩
  refine ⟨cs.toList.map fun v=>match v with | .int _ n=>n.toNat | _=>0,?_,by simp [h1],?_⟩
  · congr 1
    apply XP
    intro i
    simp only [u8s,Bx,KG,Xd,ZI]
    cases hv:cs[i]? with
    | none=>rfl
    | some v =>
      obtain ⟨x,rfl,hx⟩:=hcell i v hv
      simp
  · intro x hx
    simp only [JB] at hx
    obtain ⟨v,hv,rfl⟩:=hx
    obtain ⟨i,hi⟩:=VO.1 hv
    rw [ZI] at hi
    obtain ⟨x,rfl,hx⟩:=hcell i v hi
    simpa using hx
theorem open_ints {P:Program} {r:Reach} (ht:(match P.underlying t with | some (.struct _) | some (.array _ _)=>true | _=>false)=true) (hc:P.cellsOf t=n) (hts:P.cellTypes P.depth t=some (Qa n e)) (he:P.underlying e=some (.int k))
 (h:Value.okWide P w r base t v):∃ l:List Int,v=.agg (l.map fun x=>Value.int k x).toArray∧l.length=n∧∀ x∈l,k.min≤x∧x≤k.max:=by
  have h':∃ cs,v=.agg cs∧cs.size=P.cellsOf t∧Row.okWide P w r base t cs:=by
    unfold Value.okWide at h
    split at ht
    · rename_i e; rw [e] at h; exact h
    · rename_i e; rw [e] at h; exact h
    · cases ht
  obtain ⟨cs,rfl,h1,ts,h2,-,h3⟩:=h'
  rw [hc] at h1
  rw [hts] at h2
  cases h2
  have hcell:∀ (i:Nat) (v:Value),cs[i]?=some v→∃ x:Int,v=Value.int k x∧k.min≤x∧x≤k.max:=by
    intro i v hv
    obtain ⟨u,g1,g2⟩:=h3 i v hv
    have hu:u=e:=HU (Qn g1)
    subst hu
    simp only [Cell.okWide,Cell.ok,he] at g2
    cases v<;>try (exact g2.elim)
    · rename_i k x
      obtain ⟨rfl,g3,g4⟩:=g2
      exact ⟨x,rfl,g3,g4⟩
  refine ⟨cs.toList.map fun v=>match v with | .int _ n=>n | _=>0,?_,by simp [h1],?_⟩
  · congr 1
    apply XP
    intro i
    simp only [Bx,KG,Xd,ZI]
    cases hv:cs[i]? with
    | none=>rfl
    | some v =>
      obtain ⟨x,rfl,hx⟩:=hcell i v hv
      simp
  · intro x hx
    simp only [JB] at hx
    obtain ⟨v,hv,rfl⟩:=hx
    obtain ⟨i,hi⟩:=VO.1 hv
    rw [ZI] at hi
    obtain ⟨x,rfl,hx⟩:=hcell i v hi
    exact hx
theorem mg {l:List Int} (h:l.length=2):∃ a b,l=[a,b]:=by
 match l,h with
 | [a,b],_=>exact ⟨a,b,rfl⟩
theorem iq:rf (.agg #[.int k a,.int j b])=true:=rfl
theorem Pm:UD (.agg #[.int k a,.int j b])=true:=rfl
end Go.Ev
namespace Go.Ev
variable {f b:Nat} {args:List Value} {v:Value}
theorem n_add (a b:Nat):(a:Int)+(b:Int)=((a+b:Nat):Int):=(Xj a b).symm
theorem n_mul (a b:Nat):(a:Int)*(b:Int)=((a*b:Nat):Int):=(Xc a b).symm
theorem uQ (n a:Nat):(no_index (@OfNat.ofNat Int n instOfNat))+(a:Int)=((n+a:Nat):Int):=(Xj n a).symm
theorem uR (n a:Nat):(a:Int)+(no_index (@OfNat.ofNat Int n instOfNat))=((a+n:Nat):Int):=(Xj a n).symm
theorem uO (n a:Nat):(no_index (@OfNat.ofNat Int n instOfNat))*(a:Int)=((n*a:Nat):Int):=(Xc n a).symm
theorem uN (n a:Nat):(a:Int)*(no_index (@OfNat.ofNat Int n instOfNat))=((a*n:Nat):Int):=(Xc a n).symm
theorem Ro (a b:Nat):Int.fdiv (a:Int) (b:Int)=((a/b:Nat):Int):=by
 rw [Int.fdiv_eq_ediv_of_nonneg _ (Int.natCast_nonneg _)]; rfl
theorem qB (a n:Nat):Int.fdiv (a:Int) (no_index (@OfNat.ofNat Int n instOfNat))=((a/n:Nat):Int):=Ro a n
theorem uM (a n:Nat):Int.tdiv (a:Int) (no_index (@OfNat.ofNat Int n instOfNat))=((a/n:Nat):Int):=rfl
theorem uL (a n:Nat):Int.tmod (a:Int) (no_index (@OfNat.ofNat Int n instOfNat))=((a%n:Nat):Int):=rfl
theorem Dg (a:Nat):IntKind.u64.wrap (a:Int)=((a%18446744073709551616:Nat):Int):=by rw [Wi]; omega
theorem Ay (a:Nat):IntKind.u32.wrap (a:Int)=((a%4294967296:Nat):Int):=by rw [wrap_u32]; omega
theorem n_w16 (a:Nat):IntKind.u16.wrap (a:Int)=((a%65536:Nat):Int):=by rw [eF]; omega
theorem Wy (a:Nat):IntKind.u8.wrap (a:Int)=((a%256:Nat):Int):=by rw [wrap_u8]; omega
theorem IC (a b:Nat):IntKind.u64.wrap ((a:Int)-(b:Int))=(((a+(18446744073709551616-b%18446744073709551616))%18446744073709551616:Nat):Int):=by rw [Wi]; omega
theorem kK (n b:Nat):IntKind.u64.wrap ((no_index (@OfNat.ofNat Int n instOfNat))-(b:Int))=(((n+(18446744073709551616-b%18446744073709551616))%18446744073709551616:Nat):Int):=IC n b
theorem kJ (a n:Nat):IntKind.u64.wrap ((a:Int)-(no_index (@OfNat.ofNat Int n instOfNat)))=(((a+(18446744073709551616-n%18446744073709551616))%18446744073709551616:Nat):Int):=IC a n
theorem Av (w a:Nat):BitVec.ofInt w (a:Int)=BitVec.ofNat w a:=by simp
theorem n_and (k:IntKind) (hk:k.signed=false) (a b:Nat):Zz .and k (a:Int) (b:Int)=(((a%2^k.bits)&&&(b%2^k.bits):Nat):Int):=by
 simp only [Zz,Av]
 rw [BitVec.toNat_and,BitVec.toNat_ofNat,BitVec.toNat_ofNat,Xe hk (XO _ (Q6 _ (Xa (by decide))))]
theorem n_or (k:IntKind) (hk:k.signed=false) (a b:Nat):Zz .or k (a:Int) (b:Int)=(((a%2^k.bits)|||(b%2^k.bits):Nat):Int):=by
 simp only [Zz,Av]
 rw [BitVec.toNat_or,BitVec.toNat_ofNat,BitVec.toNat_ofNat,Xe hk (Nat.or_lt_two_pow (Q6 _ (Xa (by decide))) (Q6 _ (Xa (by decide))))]
theorem Ur (k:IntKind) (hk:k.signed=false) (w a:Nat) (hw:w≤k.bits):Zz .and k (a:Int) ((2^w-1:Nat):Int)=((a%2^w:Nat):Int):=by
 have h1:(2:Nat)^w≤2^k.bits:=Zr (by decide) hw
 have h0:0<(2:Nat)^w:=Xa (by decide)
 rw [n_and k hk,Qv (a:=2^w-1) (by omega),Vj,YH _ (Nat.pow_dvd_pow 2 hw)]
theorem n_m32 (a:Nat):Zz .and .u64 (a:Int) 4294967295=((a%4294967296:Nat):Int):=Ur .u64 rfl 32 a (by decide)
theorem n_m51 (a:Nat):Zz .and .u64 (a:Int) 2251799813685247=((a%2251799813685248:Nat):Int):=Ur .u64 rfl 51 a (by decide)
theorem n_m1 (a:Nat):Zz .and .u64 (a:Int) 1=((a%2:Nat):Int):=Ur .u64 rfl 1 a (by decide)
theorem n_m1b (a:Nat):Zz .and .u8 (a:Int) 1=((a%2:Nat):Int):=Ur .u8 rfl 1 a (by decide)
theorem n_m7b (a:Nat):Zz .and .u8 (a:Int) 127=((a%128:Nat):Int):=Ur .u8 rfl 7 a (by decide)
theorem uy:(2:Int)^min 32 IntKind.u64.bits=((4294967296:Nat):Int):=rfl
theorem ux:(2:Int)^min 51 IntKind.u64.bits=((2251799813685248:Nat):Int):=rfl
theorem uz:(2:Int)^min 13 IntKind.u64.bits=((8192:Nat):Int):=rfl
theorem p8_7:(2:Int)^min 7 IntKind.u8.bits=((128:Nat):Int):=rfl
theorem Yi {a n:Nat} (h:a<2^n):(b*2^n)|||a=b*2^n+a:=by
 rw [Zk,Nat.two_pow_add_eq_or_of_lt h]
theorem Gl (k:IntKind):ns k []=[]:=rfl
theorem Y3 (k:IntKind) (x:Nat) (r:List Nat):ns k (x::r)=.int k (x:Nat)::ns k r:=rfl
theorem T2 {w m q s y M:Nat} (hq:q<m) (hs:s<w) (hM:M<2^(w*q+s)) (hy:y*2^s<2^w) :
  (dig (2^w) m M).set q ((dig (2^w) m M).getD q 0|||y*2^s)=dig (2^w) m (M+y*2^(w*q+s)):=by
 have hB:(2^w)^q=2^(w*q):=by rw [←Ja]
 have hpos:0<(2^w:Nat)^q:=Xa (Xa (by decide))
 have hpow:(2:Nat)^(w*q+s)=2^s*(2^w)^q:=by rw [JE,hB,Zk]
 have hdiv:M/(2^w)^q<2^s:=by rw [Nat.div_lt_iff_lt_mul hpos,←hpow]; exact hM
 have hsw:(2:Nat)^s≤2^w:=Zr (by decide) (by omega)
 have hsum:M/(2^w)^q+y*2^s<2^w:=by
  have h1:(2:Nat)^w=2^(w-s)*2^s:=by rw [←JE]; congr 1; omega
  have h2:y<2^(w-s):=by
   rw [h1] at hy
   exact Nat.lt_of_mul_lt_mul_right hy
  have h3:(y+1)*2^s≤2^(w-s)*2^s:=Zq _ h2
  rw [QY,JT,←h1] at h3
  omega
 apply Hh (by rw [Q0,Ze])
 intro i hi
 by_cases hqi:i=q
 ·subst hqi
  rw [Q1 (by rw [Ze]; exact hi),QB,XL hi]
  rw [hpow,←Zx,WJ _ _ hpos]
  simp only [Option.getD_some]
  rw [Qv (a:=M/_) (by omega),Qv hsum,Nat.or_comm,Yi hdiv,Xh]
 ·rw [Qt (Ne.symm hqi),XL hi]
  congr 1
  by_cases hlt:i<q
  ·have h1:(2^w:Nat)^q=2^w*(2^w)^(q-i-1)*(2^w)^i:=by
    rw [Zx,←JE,←Nat.pow_add_one']; congr 1; omega
   rw [hpow,h1]
   rw [show y*(2^s*(2^w*(2^w)^(q-i-1)*(2^w)^i))=(y*2^s*(2^w)^(q-i-1)*2^w)*(2^w)^i by simp only [Zx,Jr,Zk]]
   rw [WJ _ _ (Xa (Xa (by decide))),KA]
  ·have h1:M+y*2^(w*q+s)<(2^w)^i:=by
    have h2:(2^w:Nat)^(q+1)≤(2^w)^i:=Zr (Xa (by decide)) (by omega)
    refine QK ?_ h2
    have h3:(M/(2^w)^q+y*2^s+1)*(2^w)^q≤2^w*(2^w)^q:=Zq _ hsum
    have h4:=Z0 M ((2^w)^q)
    have h5:=Q6 M hpos
    rw [Zi,Zk ((2^w)^q)]
    refine QK ?_ h3
    rw [hpow,←Zx,QY,QY,JT,Zk (M/(2^w)^q)]
    omega
   rw [JH h1,JH (by omega)]
def evVal (T:Tab) (f:Nat) (args:List Value):Option Value:=(Z6 T f args []).map (·.1)
theorem W7 {T:Tab} {l:List Ob} {M:List Nat} (h:Z6 T f args []=some (v,l,M)):evVal T f args=some v:=by simp [evVal,h]
theorem W8 {T:Tab} (h:∃ l,Z6 T f args []=some (v,l,[])):evVal T f args=some v:=by
 obtain ⟨l,h⟩:=h
 exact W7 h
theorem QC {T:Tab} {fn:AFun} {v:Value} {l:List Ob} (hf:T.fn f=some fn) (h:((Q5 T ([]:List Ob).length fn.body ⟨Qs 0 args,[],[]⟩).bind fun xs=>match xs.1 with
  | .exit _=>none
  | _=>(Zv xs.2.env xs.2.h fn.results).bind fun vs=>some (packed vs,xs.2.h,xs.2.log))=some (v,l,[])):evVal T f args=some v:=W8 ⟨l,by rw [Zg hf]; exact h⟩
theorem JG {T:Tab} {q:Bool} {xs:List Operand} {d:Option Nat} {r:List AOper} {e:Env} {H:List Ob} {l:List Nat}:steps T b q (⟨d,.call f xs true,none⟩::r) ⟨e,H,l⟩=(JS e xs).bind fun args=>gate (args.all rf=true) ((evVal T f args).bind fun v=>gate (rf v=true) (steps T b q r ⟨e.put d v,H,l⟩)):=by
 rw [Jc]
 cases JS e xs with
 | none=>rfl
 | some args =>
  simp only [Qp,evVal]
  cases Z6 T f args []<;>rfl
def cU:=Qi (Qi (Qi (Qi (@n_add) (Qi (@n_mul) (@uQ))) (Qi (@uR) (Qi (@uO) (@uN)))) (Qi (Qi (@Ro) (Qi (@qB) (@uM))) (Qi (Qi (@uL) (@Dg)) (Qi (@Ay) (@n_w16))))) (Qi (Qi (Qi (@Wy) (Qi (@IC) (@kK))) (Qi (@kJ) (Qi (@n_m32) (@n_m51)))) (Qi (Qi (@n_m1) (Qi (@n_m1b) (@n_m7b))) (Qi (Qi (@uy) (@ux)) (Qi (@uz) (@p8_7)))))
end Go.Ev
namespace Go.NT
variable {n a q k r:Nat}
def Pr (p:Nat):Prop:=2≤p∧∀ m,m∣p→m=1∨m=p
theorem Pr.coprime {p a:Nat} (hp:Pr p) (h:¬ p∣a):xH p a:=by
 rcases hp.2 (T6 p a) (Nat.gcd_dvd_left p a) with h1 | h1
 ·exact h1
 ·exact absurd (h1▸Nat.gcd_dvd_right p a) h
theorem Pr.dvd_mul {p a b:Nat} (hp:Pr p) (h:p∣a*b):p∣a∨p∣b:=by
 by_cases ha:p∣a
 ·exact .inl ha
 ·exact .inr ((hp.coprime ha).dvd_of_dvd_mul_left h)
def UF:List Nat→Nat
 | []=>1
 | x::r=>x*UF r
theorem Pu {l l':List Nat} (h:l.Perm l'):UF l=UF l':=by
 induction h with
 | nil=>rfl
 | cons x _ ih=>simp only [UF,ih]
 | swap x y l=>simp only [UF,Jr]
 | trans _ _ h1 h2=>rw [h1,h2]
theorem aB:∀ {l1 l2:List Nat},l1.Nodup→(∀ x∈l1,x∈l2)→l2.length≤l1.length→l1.Perm l2
 | [],l2,_,_,hl=>by
  have:l2=[]:=by cases l2 with | nil=>rfl | cons _ _=>simp at hl
  subst this; exact .nil
 | a::t,l2,hn,hs,hl=>by
  have ha:=hs a (by simp)
  have hp:=List.perm_cons_erase ha
  have hlen:=hp.length_eq
  rw [List.nodup_cons] at hn
  refine (List.Perm.cons a (aB hn.2 (fun x hx => ?_) ?_)).trans hp.symm
  ·have hxa:x≠a:=fun h=>hn.1 (h▸hx)
   exact (List.mem_erase_of_ne hxa).2 (hs x (by simp [hx]))
  ·simp only [Zo] at hl hlen ⊢
   omega
theorem EZ (a p:Nat):∀ l:List Nat,UF (l.map fun x=>a*x%p)%p=a^l.length*UF l%p
 | []=>by simp [UF]
 | x::r=>by
  have h1:=EZ a p r
  simp only [JF,UF,Zo,Zi]
  rw [Yc,h1,Kw,←Yc]
  congr 1
  simp only [Zx,Jr,Zk]
theorem Ae {p:Nat} (hp:Pr p):∀ {l:List Nat},(∀ x∈l,¬ p∣x)→¬ p∣UF l
 | [],_=>fun h=>by
  have:=Vc (by decide:0<1) h
  have:=hp.1
  omega
 | x::r,h=>fun hd=>by
  rcases hp.dvd_mul hd with h1 | h1
  ·exact h x (by simp) h1
  ·exact Ae hp (fun y hy=>h y (by simp [hy])) h1
theorem Rs {p:Nat} (hp:Pr p) (ha:¬ p∣a):a^(p-1)%p=1:=by
 have h2:=hp.1
 have hnd:((V8 1 (p-1)).map fun x=>a*x%p).Nodup:=by
  rw [List.nodup_iff_pairwise_ne,List.pairwise_map]
  refine List.Pairwise.imp_of_mem ?_ (List.pairwise_lt_range' (s:=1) (n:=p-1))
  intro x y hx hy hxy he
  simp only [Lg] at hx hy
  have h3:(a*y-a*x)%p=0:=Uu he.symm
  rw [←Nat.mul_sub] at h3
  rcases hp.dvd_mul (Wa h3) with h4 | h4
  ·exact ha h4
  ·have:=Vc (by omega) h4
   omega
 have hmem:∀ x∈(V8 1 (p-1)).map (fun x=>a*x%p),x∈V8 1 (p-1):=by
  intro x hx
  simp only [JB,Lg] at hx ⊢
  obtain ⟨y,hy,rfl⟩:=hx
  have h3:a*y%p<p:=Q6 _ (by omega)
  have h4:a*y%p≠0:=fun h=>by
   rcases hp.dvd_mul (Wa h) with h4 | h4
   ·exact ha h4
   ·have:=Vc (by omega) h4
    omega
  omega
 have hperm:=Pu (aB hnd hmem (by simp))
 have h5:=EZ a p (V8 1 (p-1))
 rw [hperm,List.length_range'] at h5
 have h6:¬ p∣UF (V8 1 (p-1)):=Ae hp fun x hx hd=>by
  simp only [Lg] at hx
  have:=Vc (by omega) hd
  omega
 have h7:(a^(p-1)*UF (V8 1 (p-1))-1*UF (V8 1 (p-1)))%p=0:=Uu (by rw [←h5,JT])
 rw [←Nat.sub_mul] at h7
 have ha0:0<a:=Nat.pos_of_ne_zero fun h=>ha (h▸Nat.dvd_zero p)
 have h8:0<a^(p-1):=Xa ha0
 rcases hp.dvd_mul (Wa h7) with h9 | h9
 ·obtain ⟨k,hk⟩:=h9
  have:a^(p-1)=p*k+1:=by omega
  rw [this,Nat.mul_add_mod,Qv (by omega)]
 ·exact absurd h9 h6
theorem Rq (hn:2≤n):∃ r,Pr r∧r∣n∧(Pr n∨r*r≤n):=by
 have ex:∃ r,2≤r∧r∣n∧∀ m,2≤m→m∣n→r≤m:=by
  have key:∀ k,(∃ r,2≤r∧r∣n∧r≤k)→∃ r,2≤r∧r∣n∧∀ m,2≤m→m∣n→r≤m:=by
   intro k
   induction k with
   | zero=>rintro ⟨r,h1,_,h3⟩; omega
   | succ k ih =>
    rintro ⟨r,h1,h2,h3⟩
    by_cases h:∃ r,2≤r∧r∣n∧r≤k
    ·exact ih h
    ·refine ⟨r,h1,h2,fun m hm hmd => ?_⟩
     rcases ZF k m with h4 | h4
     ·omega
     ·exact absurd ⟨m,hm,hmd,h4⟩ h
  exact key n ⟨n,hn,Nat.dvd_refl n,Qr n⟩
 obtain ⟨r,h1,h2,h3⟩:=ex
 have hr:Pr r:=⟨h1,fun m hm=>by
  have hm0:0<m:=Nat.pos_of_dvd_of_pos hm (by omega)
  rcases ZF m 2 with h | h
  ·left; omega
  ·have:=h3 m h (oh hm h2)
   have:=Vc (by omega) hm
   right; omega⟩
 refine ⟨r,hr,h2,?_⟩
 obtain ⟨k,rfl⟩:=h2
 rcases ZF k 2 with h | h
 ·have:k=1:=by
   rcases Jd k with h0 | h0
   ·subst h0; omega
   ·omega
  subst this
  rw [Nat.mul_one]; exact .inl hr
 ·exact .inr (XE r (h3 k h (OE k r)))
def pw (m a:Nat):Nat→Nat→Nat
 | 0,_=>1%m
 | f+1,e=>if e%2=1 then (pw m a f (e/2))*(pw m a f (e/2))%m*a%m else (pw m a f (e/2))*(pw m a f (e/2))%m
theorem tk (m a:Nat):∀ (f e:Nat),e<2^f→pw m a f e=a^e%m
 | 0,e,h=>by
  have:e=0:=by simpa using h
  subst this; rfl
 | f+1,e,h=>by
  have ih:=tk m a f (e/2) (by rw [Zi] at h; omega)
  have hs:a^(e/2)%m*(a^(e/2)%m)%m=a^(2*(e/2))%m:=by
   rw [←Yc,←JE]; congr 2; omega
  unfold pw
  rw [ih]
  by_cases he:e%2=1
  ·rw [if_pos he,hs,UY,←Zi]
   congr 2; omega
  ·rw [if_neg he,hs]
   congr 2; omega
def pwf (m a:Nat):Nat→Nat→Nat
 | 0,_=>1%m
 | f+1,e=>(fun r=>if e%2=1 then r*r%m*a%m else r*r%m) (pwf m a f (e/2))
theorem pN (hr:2≤r) (b x y:Nat):b^x%r=1→b^y%r=1→b^(T6 x y)%r=1:=by
 induction x,y using Nat.gcd.induction with
 | H0 y=>intro _ h; rwa [Nat.gcd_zero_left]
 | H1 x y hx ih =>
  intro h1 h2
  rw [Nat.gcd_rec]
  refine ih ?_ h1
  have h3:b^(x*(y/x)+y%x)%r=1:=by rw [Z0]; exact h2
  rw [JE,Ja,Yc,xE (b^x),h1,Nat.one_pow,Qv (a:=1) (by omega),JT,Kw] at h3
  exact h3
theorem uq (hq:Pr q) (hk:n=q*k+1) (h1:a^(q*k)%n=1) (h2:T6 (a^k%n+n-1) n=1) (hr:Pr r) (hrn:r∣n):q∣r-1:=by
 have hr2:=hr.1
 have hn0:0<n:=by omega
 have hn2:r≤n:=Vc hn0 hrn
 have hmodr:∀ x,x%n%r=x%r:=fun x=>YH x hrn
 have hb1:a^(q*k)%r=1:=by rw [←hmodr,h1,Qv (by omega)]
 have hra:¬ r∣a:=fun h=>by
  have hqk:0<q*k:=by
   rcases Jd (q*k) with h0 | h0
   ·omega
   ·exact h0
  have:r∣a^(q*k):=by
   obtain ⟨m,hm⟩:∃ m,q*k=m+1:=⟨q*k-1,by omega⟩
   rw [hm,Zi]
   exact oh h (OE a _)
  have:=ME this
  omega
 have hf:=Rs hr hra
 by_cases hqd:q∣r-1
 ·exact hqd
 ·exfalso
  have hc:=hq.coprime hqd
  have hpow:∀ x:Nat,∀ c,c%r=1→c^x%r=1:=fun x c hcx=>by rw [xE,hcx,Nat.one_pow,Qv (by omega)]
  have hk1:(a^k)^q%r=1:=by rw [←Ja,Zk k q]; exact hb1
  have hk2:(a^k)^(r-1)%r=1:=by rw [←Ja,Zk k,Ja]; exact hpow k _ hf
  have hak:a^k%r=1:=by
   have:=pN hr2 (a^k) q (r-1) hk1 hk2
   rwa [hc,Nat.pow_one] at this
  have hdvd:r∣a^k%n+n-1:=by
   have e3:a^k%n%r=1:=by rw [hmodr]; exact hak
   have e4:1≤a^k%n:=by
    rcases Jd (a^k%n) with h0 | h0
    ·rw [h0,Nat.zero_mod] at e3; omega
    ·exact h0
   have e5:r∣a^k%n-1:=by
    apply Wa
    exact Uu (by rw [e3,Qv (by omega)])
   rw [show a^k%n+n-1=(a^k%n-1)+n by omega]
   exact Nat.dvd_add e5 hrn
  have:=Nat.dvd_gcd hdvd hrn
  rw [h2] at this
  have:=Vc (by decide) this
  omega
theorem iJ (hn:2≤n) (hq:Pr q) (hk:n=q*k+1) (hbig:n<q*q) (h1:a^(q*k)%n=1) (h2:T6 (a^k%n+n-1) n=1):Pr n:=by
 obtain ⟨r,hr,hrn,h | h⟩:=Rq hn
 ·exact h
 ·have h3:=uq hq hk h1 h2 hr hrn
  have:=hr.1
  have h4:=Vc (by omega) h3
  have:q*q≤r*r:=JL (by omega) (by omega)
  omega
theorem iI {q' k' a':Nat} (hn:2≤n) (hq:Pr q) (hk:n=q*k+1) (hq':Pr q') (hk':n=q'*k'+1) (hne:q≠q') (hbig:n<(q*q')*(q*q')) (h1:a^(q*k)%n=1) (h2:T6 (a^k%n+n-1) n=1)
 (h1':a'^(q'*k')%n=1) (h2':T6 (a'^k'%n+n-1) n=1):Pr n:=by
  obtain ⟨r,hr,hrn,h | h⟩:=Rq hn
  · exact h
  · have h3:=uq hq hk h1 h2 hr hrn
    have h3':=uq hq' hk' h1' h2' hr hrn
    have hc:xH q q':=hq.coprime fun hd=>by
      rcases hq'.2 q hd with h | h
      · have:=hq.1; omega
      · exact hne h
    have h5:=hc.mul_dvd_of_dvd_of_dvd h3 h3'
    have:=hr.1
    have h4:=Vc (by omega) h5
    have:(q*q')*(q*q')≤r*r:=JL (by omega) (by omega)
    omega
def aK (n:Nat):Nat→Nat→Bool
 | 0,_=>true
 | f+1,m=>(n%m != 0)&&aK n f (m+1)
theorem Ax {n:Nat}:∀ (f m:Nat),aK n f m=true→∀ x,m≤x→x<m+f→n%x≠0
 | 0,m,_,x,h1,h2=>by omega
 | f+1,m,h,x,h1,h2=>by
  simp only [aK,ZS,bne_iff_ne] at h
  rcases Nat.eq_or_lt_of_le h1 with h3 | h3
  ·subst h3; exact h.1
  ·exact Ax f (m+1) h.2 x h3 (by omega)
theorem KM {f:Nat} (hn:2≤n) (hf:n<(f+2)*(f+2)) (h:aK n f 2=true):Pr n:=by
 obtain ⟨r,hr,hrn,h1 | h1⟩:=Rq hn
 ·exact h1
 ·have hr2:=hr.1
  have:r<2+f:=by
   rcases ZF r (2+f) with h2 | h2
   ·exact h2
   ·have:(f+2)*(f+2)≤r*r:=JL (by omega) (by omega)
    omega
  exact absurd (ME hrn) (Ax f 2 h r hr2 this)
end Go.NT
namespace Go.Cv
section
variable {n:Nat} [NeZero n]
structure Fld (n:Nat) [NeZero n] (iv:Fin n→Fin n) (d i:Fin n):Prop where
 inv:∀ a:Fin n,a≠0→a*iv a=1
 iv0:iv 0=0
 one:(1:Fin n)≠0
 two:(2:Fin n)≠0
 root:i*i = -1
 nosq:∀ r:Fin n,r*r≠d
variable {iv:Fin n→Fin n} {d i:Fin n} (F:Fld n iv d i)
include F
theorem Fld.dom {a b:Fin n} (h:a*b=0):a=0∨b=0:=by
 by_cases ha:a=0
 ·exact .inl ha
 ·have:=F.inv a ha
  exact .inr (by grobner)
theorem Fld.mul_ne {a b:Fin n} (ha:a≠0) (hb:b≠0):a*b≠0:=fun h=>by
 rcases F.dom h with h | h
 ·exact ha h
 ·exact hb h
theorem Fld.cancel {a b c:Fin n} (ha:a≠0) (h:a*b=a*c):b=c:=by
 have:=F.inv a ha
 grobner
theorem Fld.noratio {u v:Fin n} (hv:v≠0):u*u≠d*(v*v):=fun h=>by
 have:=F.inv v hv
 apply F.nosq (u*iv v)
 grobner
omit F
def On (d x y:Fin n):Prop := -(x*x)+y*y=1+d*(x*x)*(y*y)
theorem On.sub {d x y:Fin n} (h:On d x y) : -(x*x)+y*y-1-d*(x*x)*(y*y)=0:=by
 unfold On at h; grobner
theorem fG {L R a b c e:Fin n} (h:L-R=a*c+b*e) (hc:c=0) (he:e=0):L=R:=by
 subst hc he; grobner
theorem TK {L R a b c e f g:Fin n} (h:L-R=a*c+b*e+f*g) (hc:c=0) (he:e=0) (hg:g=0):L=R:=by
 subst hc he hg; grobner
theorem nG (d x1 y1 x2 y2:Fin n) : -((x1*y2+x2*y1)*(x1*y2+x2*y1)*((1-d*x1*x2*y1*y2)*(1-d*x1*x2*y1*y2)))+(y1*y2+x1*x2)*(y1*y2+x1*x2)*((1+d*x1*x2*y1*y2)*(1+d*x1*x2*y1*y2)) -
   (((1+d*x1*x2*y1*y2)*(1-d*x1*x2*y1*y2))*((1+d*x1*x2*y1*y2)*(1-d*x1*x2*y1*y2))+d*((x1*y2+x2*y1)*(x1*y2+x2*y1))*((y1*y2+x1*x2)*(y1*y2+x1*x2))) =
   (d*d*d*x1*x1*x2*x2*x2*x2*y1*y1*y2*y2*y2*y2-d*d*x1*x1*x2*x2*x2*x2*y2*y2*y2*y2+d*d*x2*x2*x2*x2*y1*y1*y2*y2*y2*y2-d*d*x2*x2*x2*x2*y2*y2*y2*y2-d*x1*x1*x2*x2*x2*x2*y2*y2+d*x1*x1*x2*x2*y2*y2*y2*y2+d*x2*x2*x2*x2*y1*y1*y2*y2-2*d*x2*x2*x2*x2*y2*y2*y2*y2-d*x2*x2*y1*y1*y2*y2*y2*y2-2*d*x2*x2*y2*y2-2*x2*x2*x2*x2*y2*y2+x2*x2*x2*x2+2*x2*x2*y2*y2*y2*y2-4*x2*x2*y2*y2+y2*y2*y2*y2)*(-(x1*x1)+y1*y1-1-d*(x1*x1)*(y1*y1))+(d*x1*x1*x1*x1*x2*x2*y2*y2+2*d*x1*x1*x2*x2*y2*y2+d*x2*x2*y1*y1*y1*y1*y2*y2-2*d*x2*x2*y1*y1*y2*y2+d*x2*x2*y2*y2+2*x1*x1*x2*x2*y2*y2-x1*x1*x2*x2+x1*x1*y2*y2-2*x2*x2*y1*y1*y2*y2+x2*x2*y1*y1+2*x2*x2*y2*y2-x2*x2-y1*y1*y2*y2+y2*y2+1)*(-(x2*x2)+y2*y2-1-d*(x2*x2)*(y2*y2)):=by grobner
theorem vK (d x1 y1 x2 y2 x3 y3:Fin n):((x1*y2+x2*y1)*(1-d*x1*x2*y1*y2)*y3+x3*(y1*y2+x1*x2)*(1+d*x1*x2*y1*y2))*((1+d*x2*x3*y2*y3)*(1-d*x2*x3*y2*y3)+d*(x2*y3+x3*y2)*(y2*y3+x2*x3)*x1*y1) -
   (x1*(y2*y3+x2*x3)*(1+d*x2*x3*y2*y3)+(x2*y3+x3*y2)*(1-d*x2*x3*y2*y3)*y1)*((1+d*x1*x2*y1*y2)*(1-d*x1*x2*y1*y2)+d*(x1*y2+x2*y1)*(y1*y2+x1*x2)*x3*y3) =
   (-d*d*x1*x2*x2*x2*x2*x3*x3*y2*y2*y2*y3-d*d*x1*x2*x2*x2*x3*y2*y2*y2*y2*y3*y3+d*d*x2*x2*x2*x2*x3*y1*y2*y2*y2*y3*y3+d*d*x2*x2*x2*x3*x3*y1*y2*y2*y2*y2*y3-d*x1*x2*x2*x2*x2*x3*x3*y2*y3-d*x1*x2*x2*x2*x3*x3*x3*y2*y2-d*x1*x2*x2*x2*x3*y2*y2+d*x1*x2*x2*y2*y2*y2*y3*y3*y3-d*x1*x2*x2*y2*y2*y2*y3+d*x1*x2*x3*y2*y2*y2*y2*y3*y3+d*x2*x2*x2*x2*x3*y1*y2*y3*y3+d*x2*x2*x2*y1*y2*y2*y3*y3*y3-d*x2*x2*x2*y1*y2*y2*y3-d*x2*x2*x3*x3*x3*y1*y2*y2*y2-d*x2*x2*x3*y1*y2*y2*y2-d*x2*x3*x3*y1*y2*y2*y2*y2*y3)*(-(x1*x1)+y1*y1-1-d*(x1*x1)*(y1*y1))+(d*d*x1*x1*x2*x2*x3*x3*x3*y1*y2*y3*y3-d*d*x1*x1*x2*x3*x3*y1*y2*y2*y3*y3*y3-d*d*x1*x2*x2*x3*x3*y1*y1*y2*y3*y3*y3+d*d*x1*x2*x3*x3*x3*y1*y1*y2*y2*y3*y3+d*x1*x1*x1*x2*x2*x3*x3*y2*y3+d*x1*x1*x1*x2*x3*x3*x3*y3*y3+d*x1*x1*x1*x2*x3*y2*y2*y3*y3+d*x1*x1*x1*x3*x3*y2*y3*y3*y3-d*x1*x1*x2*x2*x3*y1*y2*y3*y3-d*x1*x1*x2*x3*x3*y1*y2*y2*y3+d*x1*x1*x2*x3*x3*y1*y3*y3*y3+d*x1*x1*x3*x3*x3*y1*y2*y3*y3-d*x1*x2*x2*x3*x3*y1*y1*y2*y3+d*x1*x2*x2*x3*x3*y2*y3-d*x1*x2*x3*x3*x3*y1*y1*y3*y3+d*x1*x2*x3*x3*x3*y3*y3-d*x1*x2*x3*y1*y1*y2*y2*y3*y3+d*x1*x2*x3*y2*y2*y3*y3-d*x1*x3*x3*y1*y1*y2*y3*y3*y3+d*x1*x3*x3*y2*y3*y3*y3+d*x2*x2*x3*y1*y1*y1*y2*y3*y3-d*x2*x2*x3*y1*y2*y3*y3+d*x2*x3*x3*y1*y1*y1*y2*y2*y3-d*x2*x3*x3*y1*y1*y1*y3*y3*y3-d*x2*x3*x3*y1*y2*y2*y3+d*x2*x3*x3*y1*y3*y3*y3-d*x3*x3*x3*y1*y1*y1*y2*y3*y3+d*x3*x3*x3*y1*y2*y3*y3+x1*x1*x1*x2*x3*x3*x3-x1*x1*x1*x2*x3*y3*y3+x1*x1*x1*x2*x3+x1*x1*x1*x3*x3*y2*y3-x1*x1*x1*y2*y3*y3*y3+x1*x1*x1*y2*y3+x1*x1*x2*x3*x3*y1*y3-x1*x1*x2*y1*y3*y3*y3+x1*x1*x2*y1*y3+x1*x1*x3*x3*x3*y1*y2-x1*x1*x3*y1*y2*y3*y3+x1*x1*x3*y1*y2-x1*x2*x3*x3*x3*y1*y1+x1*x2*x3*x3*x3+x1*x2*x3*y1*y1*y3*y3-x1*x2*x3*y1*y1-x1*x2*x3*y3*y3+x1*x2*x3-x1*x3*x3*y1*y1*y2*y3+x1*x3*x3*y2*y3+x1*y1*y1*y2*y3*y3*y3-x1*y1*y1*y2*y3-x1*y2*y3*y3*y3+x1*y2*y3-x2*x3*x3*y1*y1*y1*y3+x2*x3*x3*y1*y3+x2*y1*y1*y1*y3*y3*y3-x2*y1*y1*y1*y3-x2*y1*y3*y3*y3+x2*y1*y3-x3*x3*x3*y1*y1*y1*y2+x3*x3*x3*y1*y2+x3*y1*y1*y1*y2*y3*y3-x3*y1*y1*y1*y2-x3*y1*y2*y3*y3+x3*y1*y2)*(-(x2*x2)+y2*y2-1-d*(x2*x2)*(y2*y2))+(-d*x1*x1*x2*x2*x3*y1*y2+d*x1*x1*x2*y1*y2*y2*y3+d*x1*x2*x2*y1*y1*y2*y3-d*x1*x2*x3*y1*y1*y2*y2-x1*x1*x1*x2*x2*x2*x3-x1*x1*x1*x2*x2*y2*y3+x1*x1*x1*x2*x3*y2*y2-x1*x1*x1*x2*x3+x1*x1*x1*y2*y2*y2*y3-x1*x1*x1*y2*y3-x1*x1*x2*x2*x2*y1*y3-x1*x1*x2*x2*x3*y1*y2+x1*x1*x2*y1*y2*y2*y3-x1*x1*x2*y1*y3+x1*x1*x3*y1*y2*y2*y2-x1*x1*x3*y1*y2+x1*x2*x2*x2*x3*y1*y1-x1*x2*x2*x2*x3+x1*x2*x2*y1*y1*y2*y3-x1*x2*x2*y2*y3-x1*x2*x3*y1*y1*y2*y2+x1*x2*x3*y1*y1+x1*x2*x3*y2*y2-x1*x2*x3-x1*y1*y1*y2*y2*y2*y3+x1*y1*y1*y2*y3+x1*y2*y2*y2*y3-x1*y2*y3+x2*x2*x2*y1*y1*y1*y3-x2*x2*x2*y1*y3+x2*x2*x3*y1*y1*y1*y2-x2*x2*x3*y1*y2-x2*y1*y1*y1*y2*y2*y3+x2*y1*y1*y1*y3+x2*y1*y2*y2*y3-x2*y1*y3-x3*y1*y1*y1*y2*y2*y2+x3*y1*y1*y1*y2+x3*y1*y2*y2*y2-x3*y1*y2)*(-(x3*x3)+y3*y3-1-d*(x3*x3)*(y3*y3)):=by grobner
theorem vJ (d x1 y1 x2 y2 x3 y3:Fin n):((y1*y2+x1*x2)*(1+d*x1*x2*y1*y2)*y3+(x1*y2+x2*y1)*(1-d*x1*x2*y1*y2)*x3)*((1+d*x2*x3*y2*y3)*(1-d*x2*x3*y2*y3)-d*(x2*y3+x3*y2)*(y2*y3+x2*x3)*x1*y1) -
   (y1*(y2*y3+x2*x3)*(1+d*x2*x3*y2*y3)+x1*(x2*y3+x3*y2)*(1-d*x2*x3*y2*y3))*((1+d*x1*x2*y1*y2)*(1-d*x1*x2*y1*y2)-d*(x1*y2+x2*y1)*(y1*y2+x1*x2)*x3*y3) =
   (d*d*x1*x2*x2*x2*x2*x3*y2*y2*y2*y3*y3+d*d*x1*x2*x2*x2*x3*x3*y2*y2*y2*y2*y3-d*d*x2*x2*x2*x2*x3*x3*y1*y2*y2*y2*y3-d*d*x2*x2*x2*x3*y1*y2*y2*y2*y2*y3*y3+d*x1*x2*x2*x2*x2*x3*y2*y3*y3+d*x1*x2*x2*x2*y2*y2*y3*y3*y3-d*x1*x2*x2*x2*y2*y2*y3-d*x1*x2*x2*x3*x3*x3*y2*y2*y2-d*x1*x2*x2*x3*y2*y2*y2-d*x1*x2*x3*x3*y2*y2*y2*y2*y3-d*x2*x2*x2*x2*x3*x3*y1*y2*y3-d*x2*x2*x2*x3*x3*x3*y1*y2*y2-d*x2*x2*x2*x3*y1*y2*y2+d*x2*x2*y1*y2*y2*y2*y3*y3*y3-d*x2*x2*y1*y2*y2*y2*y3+d*x2*x3*y1*y2*y2*y2*y2*y3*y3)*(-(x1*x1)+y1*y1-1-d*(x1*x1)*(y1*y1))+(d*d*x1*x1*x2*x2*x3*x3*y1*y2*y3*y3*y3-d*d*x1*x1*x2*x3*x3*x3*y1*y2*y2*y3*y3-d*d*x1*x2*x2*x3*x3*x3*y1*y1*y2*y3*y3+d*d*x1*x2*x3*x3*y1*y1*y2*y2*y3*y3*y3-d*x1*x1*x1*x2*x2*x3*y2*y3*y3-d*x1*x1*x1*x2*x3*x3*y2*y2*y3+d*x1*x1*x1*x2*x3*x3*y3*y3*y3+d*x1*x1*x1*x3*x3*x3*y2*y3*y3+d*x1*x1*x2*x2*x3*x3*y1*y2*y3+d*x1*x1*x2*x3*x3*x3*y1*y3*y3+d*x1*x1*x2*x3*y1*y2*y2*y3*y3+d*x1*x1*x3*x3*y1*y2*y3*y3*y3+d*x1*x2*x2*x3*y1*y1*y2*y3*y3-d*x1*x2*x2*x3*y2*y3*y3+d*x1*x2*x3*x3*y1*y1*y2*y2*y3-d*x1*x2*x3*x3*y1*y1*y3*y3*y3-d*x1*x2*x3*x3*y2*y2*y3+d*x1*x2*x3*x3*y3*y3*y3-d*x1*x3*x3*x3*y1*y1*y2*y3*y3+d*x1*x3*x3*x3*y2*y3*y3-d*x2*x2*x3*x3*y1*y1*y1*y2*y3+d*x2*x2*x3*x3*y1*y2*y3-d*x2*x3*x3*x3*y1*y1*y1*y3*y3+d*x2*x3*x3*x3*y1*y3*y3-d*x2*x3*y1*y1*y1*y2*y2*y3*y3+d*x2*x3*y1*y2*y2*y3*y3-d*x3*x3*y1*y1*y1*y2*y3*y3*y3+d*x3*x3*y1*y2*y3*y3*y3+x1*x1*x1*x2*x3*x3*y3-x1*x1*x1*x2*y3*y3*y3+x1*x1*x1*x2*y3+x1*x1*x1*x3*x3*x3*y2-x1*x1*x1*x3*y2*y3*y3+x1*x1*x1*x3*y2+x1*x1*x2*x3*x3*x3*y1-x1*x1*x2*x3*y1*y3*y3+x1*x1*x2*x3*y1+x1*x1*x3*x3*y1*y2*y3-x1*x1*y1*y2*y3*y3*y3+x1*x1*y1*y2*y3-x1*x2*x3*x3*y1*y1*y3+x1*x2*x3*x3*y3+x1*x2*y1*y1*y3*y3*y3-x1*x2*y1*y1*y3-x1*x2*y3*y3*y3+x1*x2*y3-x1*x3*x3*x3*y1*y1*y2+x1*x3*x3*x3*y2+x1*x3*y1*y1*y2*y3*y3-x1*x3*y1*y1*y2-x1*x3*y2*y3*y3+x1*x3*y2-x2*x3*x3*x3*y1*y1*y1+x2*x3*x3*x3*y1+x2*x3*y1*y1*y1*y3*y3-x2*x3*y1*y1*y1-x2*x3*y1*y3*y3+x2*x3*y1-x3*x3*y1*y1*y1*y2*y3+x3*x3*y1*y2*y3+y1*y1*y1*y2*y3*y3*y3-y1*y1*y1*y2*y3-y1*y2*y3*y3*y3+y1*y2*y3)*(-(x2*x2)+y2*y2-1-d*(x2*x2)*(y2*y2))+(-d*x1*x1*x2*x2*y1*y2*y3+d*x1*x1*x2*x3*y1*y2*y2+d*x1*x2*x2*x3*y1*y1*y2-d*x1*x2*y1*y1*y2*y2*y3-x1*x1*x1*x2*x2*x2*y3-x1*x1*x1*x2*x2*x3*y2+x1*x1*x1*x2*y2*y2*y3-x1*x1*x1*x2*y3+x1*x1*x1*x3*y2*y2*y2-x1*x1*x1*x3*y2-x1*x1*x2*x2*x2*x3*y1-x1*x1*x2*x2*y1*y2*y3+x1*x1*x2*x3*y1*y2*y2-x1*x1*x2*x3*y1+x1*x1*y1*y2*y2*y2*y3-x1*x1*y1*y2*y3+x1*x2*x2*x2*y1*y1*y3-x1*x2*x2*x2*y3+x1*x2*x2*x3*y1*y1*y2-x1*x2*x2*x3*y2-x1*x2*y1*y1*y2*y2*y3+x1*x2*y1*y1*y3+x1*x2*y2*y2*y3-x1*x2*y3-x1*x3*y1*y1*y2*y2*y2+x1*x3*y1*y1*y2+x1*x3*y2*y2*y2-x1*x3*y2+x2*x2*x2*x3*y1*y1*y1-x2*x2*x2*x3*y1+x2*x2*y1*y1*y1*y2*y3-x2*x2*y1*y2*y3-x2*x3*y1*y1*y1*y2*y2+x2*x3*y1*y1*y1+x2*x3*y1*y2*y2-x2*x3*y1-y1*y1*y1*y2*y2*y2*y3+y1*y1*y1*y2*y3+y1*y2*y2*y2*y3-y1*y2*y3)*(-(x3*x3)+y3*y3-1-d*(x3*x3)*(y3*y3)):=by grobner
include F
theorem Fld.den {x1 y1 x2 y2:Fin n} (h1:On d x1 y1) (h2:On d x2 y2) (e:Fin n) (he:e*e=1):d*x1*x2*y1*y2≠e:=fun hD=>by
 unfold On at h1 h2
 have h10:=F.one
 have hr:=F.root
 have hx1:x1≠0:=fun h=>by subst h; grobner
 have hy1:y1≠0:=fun h=>by subst h; grobner
 have hx2:x2≠0:=fun h=>by subst h; grobner
 have key:d*(x1*x1)*(y1*y1)*(y2*y2-x2*x2)=y1*y1-x1*x1:=by grobner
 have h3:(y1+e*i*x1)*(y1+e*i*x1)=d*((x1*y1*(y2+i*x2))*(x1*y1*(y2+i*x2))):=by grobner
 have h4:(y1-e*i*x1)*(y1-e*i*x1)=d*((x1*y1*(y2-i*x2))*(x1*y1*(y2-i*x2))):=by grobner
 by_cases ha:y2+i*x2=0
 ·by_cases hb:y2-i*x2=0
  ·have hi:i≠0:=fun h=>by subst h; grobner
   have:(2:Fin n)*(i*x2)=0:=by grobner
   exact F.mul_ne F.two (F.mul_ne hi hx2) this
  ·exact F.noratio (F.mul_ne (F.mul_ne hx1 hy1) hb) h4
 ·exact F.noratio (F.mul_ne (F.mul_ne hx1 hy1) ha) h3
theorem Fld.denP {x1 y1 x2 y2:Fin n} (h1:On d x1 y1) (h2:On d x2 y2):1+d*x1*x2*y1*y2≠0:=fun h =>
 F.den h1 h2 (-1) (by grobner) (by grobner)
theorem Fld.denM {x1 y1 x2 y2:Fin n} (h1:On d x1 y1) (h2:On d x2 y2):1-d*x1*x2*y1*y2≠0:=fun h =>
 F.den h1 h2 1 (by grobner) (by grobner)
theorem G9 {x1 y1 x2 y2:Fin n} (h1:On d x1 y1) (h2:On d x2 y2) {a b:Fin n} (ha:a*(1+d*x1*x2*y1*y2)=x1*y2+x2*y1) (hb:b*(1-d*x1*x2*y1*y2)=y1*y2+x1*x2):On d a b:=by
 have hp:=F.denP h1 h2
 have hm:=F.denM h1 h2
 have hC : -((x1*y2+x2*y1)*(x1*y2+x2*y1)*((1-d*x1*x2*y1*y2)*(1-d*x1*x2*y1*y2)))+(y1*y2+x1*x2)*(y1*y2+x1*x2)*((1+d*x1*x2*y1*y2)*(1+d*x1*x2*y1*y2)) =
   ((1+d*x1*x2*y1*y2)*(1-d*x1*x2*y1*y2))*((1+d*x1*x2*y1*y2)*(1-d*x1*x2*y1*y2))+d*((x1*y2+x2*y1)*(x1*y2+x2*y1))*((y1*y2+x1*x2)*(y1*y2+x1*x2)):=by
  exact fG (nG d x1 y1 x2 y2) h1.sub h2.sub
 unfold On
 have hp2:=F.mul_ne (F.mul_ne hp hm) (F.mul_ne hp hm)
 refine F.cancel hp2 ?_
 rw [←ha,←hb] at hC
 generalize 1+d*x1*x2*y1*y2=p at *
 generalize 1-d*x1*x2*y1*y2=m at *
 clear ha hb hp hm hp2 h1 h2
 grobner
theorem S8 {x1 y1 x2 y2 x3 y3 a b a' b' u v u' v':Fin n} (h1:On d x1 y1) (h2:On d x2 y2) (h3:On d x3 y3)
  (ha:a*(1+d*x1*x2*y1*y2)=x1*y2+x2*y1) (hb:b*(1-d*x1*x2*y1*y2)=y1*y2+x1*x2)
  (ha':a'*(1+d*x2*x3*y2*y3)=x2*y3+x3*y2) (hb':b'*(1-d*x2*x3*y2*y3)=y2*y3+x2*x3)
  (hu:u*(1+d*a*x3*b*y3)=a*y3+x3*b) (hv:v*(1-d*a*x3*b*y3)=b*y3+a*x3)
  (hu':u'*(1+d*x1*a'*y1*b')=x1*b'+a'*y1) (hv':v'*(1-d*x1*a'*y1*b')=y1*b'+x1*a'):u=u'∧v=v':=by
 have o12:=G9 F h1 h2 ha hb
 have o23:=G9 F h2 h3 ha' hb'
 have hp:=F.denP h1 h2
 have hm:=F.denM h1 h2
 have hp':=F.denP h2 h3
 have hm':=F.denM h2 h3
 have kp:=F.denP o12 h3
 have km:=F.denM o12 h3
 have kp':=F.denP h1 o23
 have km':=F.denM h1 o23
 have e1:=h1.sub
 have e2:=h2.sub
 have e3:=h3.sub
 clear h1 h2 h3 o12 o23
 have hX:((x1*y2+x2*y1)*(1-d*x1*x2*y1*y2)*y3+x3*(y1*y2+x1*x2)*(1+d*x1*x2*y1*y2))*((1+d*x2*x3*y2*y3)*(1-d*x2*x3*y2*y3)+d*(x2*y3+x3*y2)*(y2*y3+x2*x3)*x1*y1) =
   (x1*(y2*y3+x2*x3)*(1+d*x2*x3*y2*y3)+(x2*y3+x3*y2)*(1-d*x2*x3*y2*y3)*y1)*((1+d*x1*x2*y1*y2)*(1-d*x1*x2*y1*y2)+d*(x1*y2+x2*y1)*(y1*y2+x1*x2)*x3*y3):=by
  exact TK (vK d x1 y1 x2 y2 x3 y3) e1 e2 e3
 have hY:((y1*y2+x1*x2)*(1+d*x1*x2*y1*y2)*y3+(x1*y2+x2*y1)*(1-d*x1*x2*y1*y2)*x3)*((1+d*x2*x3*y2*y3)*(1-d*x2*x3*y2*y3)-d*(x2*y3+x3*y2)*(y2*y3+x2*x3)*x1*y1) =
   (y1*(y2*y3+x2*x3)*(1+d*x2*x3*y2*y3)+x1*(x2*y3+x3*y2)*(1-d*x2*x3*y2*y3))*((1+d*x1*x2*y1*y2)*(1-d*x1*x2*y1*y2)-d*(x1*y2+x2*y1)*(y1*y2+x1*x2)*x3*y3):=by
  exact TK (vJ d x1 y1 x2 y2 x3 y3) e1 e2 e3
 clear e1 e2 e3
 rw [←ha,←hb,←ha',←hb'] at hX hY
 have hp2:=F.mul_ne hp hm
 have hp2':=F.mul_ne hp' hm'
 generalize 1+d*x1*x2*y1*y2=p at *
 generalize 1-d*x1*x2*y1*y2=m at *
 generalize 1+d*x2*x3*y2*y3=p' at *
 generalize 1-d*x2*x3*y2*y3=m' at *
 clear ha hb ha' hb' hp hm hp' hm' x2 y2
 have f1:a*p*m*y3+x3*(b*m)*p=(p*m)*(a*y3+x3*b):=by grobner
 have f2:p'*m'+d*(a'*p')*(b'*m')*x1*y1=(p'*m')*(1+d*x1*a'*y1*b'):=by grobner
 have f3:x1*(b'*m')*p'+a'*p'*m'*y1=(p'*m')*(x1*b'+a'*y1):=by grobner
 have f4:p*m+d*(a*p)*(b*m)*x3*y3=(p*m)*(1+d*a*x3*b*y3):=by grobner
 have f5:b*m*p*y3+a*p*m*x3=(p*m)*(b*y3+a*x3):=by grobner
 have f6:p'*m'-d*(a'*p')*(b'*m')*x1*y1=(p'*m')*(1-d*x1*a'*y1*b'):=by grobner
 have f7:y1*(b'*m')*p'+x1*(a'*p')*m'=(p'*m')*(y1*b'+x1*a'):=by grobner
 have f8:p*m-d*(a*p)*(b*m)*x3*y3=(p*m)*(1-d*a*x3*b*y3):=by grobner
 rw [f1,f2,f3,f4,←hu,←hu'] at hX
 rw [f5,f6,f7,f8,←hv,←hv'] at hY
 clear f1 f2 f3 f4 f5 f6 f7 f8 hu hu' hv hv'
 generalize 1+d*x1*a'*y1*b'=k' at *
 generalize 1+d*a*x3*b*y3=k at *
 generalize 1-d*x1*a'*y1*b'=l' at *
 generalize 1-d*a*x3*b*y3=l at *
 generalize p*m=s at *
 generalize p'*m'=s' at *
 constructor
 ·refine F.cancel (a:=s*s'*k*k') (F.mul_ne (F.mul_ne (F.mul_ne hp2 hp2') kp) kp') ?_
  grobner
 ·refine F.cancel (a:=s*s'*l*l') (F.mul_ne (F.mul_ne (F.mul_ne hp2 hp2') km) km') ?_
  grobner
omit F
end
structure Pt (n:Nat) [NeZero n] (d:Fin n) where
 x:Fin n
 y:Fin n
 on:On d x y
theorem Pt.ext {n:Nat} [NeZero n] {d:Fin n} {p q:Pt n d} (hx:p.x=q.x) (hy:p.y=q.y):p=q:=by
 cases p; cases q; cases hx; cases hy; rfl
section
variable {n:Nat} [NeZero n] {iv:Fin n→Fin n} {d i:Fin n} (F:Fld n iv d i)
def Pt.zero:Pt n d:=⟨0,1,by unfold On; grobner⟩
def Pt.neg (p:Pt n d):Pt n d:=⟨-p.x,p.y,by have:=p.on; unfold On at *; grobner⟩
def Pt.add (p q:Pt n d):Pt n d :=
 ⟨(p.x*q.y+q.x*p.y)*iv (1+d*p.x*q.x*p.y*q.y),(p.y*q.y+p.x*q.x)*iv (1-d*p.x*q.x*p.y*q.y),
  G9 F p.on q.on (by have:=F.inv _ (F.denP p.on q.on); grobner) (by have:=F.inv _ (F.denM p.on q.on); grobner)⟩
theorem Dk (p q:Pt n d):(Pt.add F p q).x*(1+d*p.x*q.x*p.y*q.y)=p.x*q.y+q.x*p.y:=by
 have:=F.inv _ (F.denP p.on q.on)
 simp only [Pt.add]
 generalize 1+d*p.x*q.x*p.y*q.y=k at *
 grobner
theorem UW (p q:Pt n d):(Pt.add F p q).y*(1-d*p.x*q.x*p.y*q.y)=p.y*q.y+p.x*q.x:=by
 have:=F.inv _ (F.denM p.on q.on)
 simp only [Pt.add]
 generalize 1-d*p.x*q.x*p.y*q.y=k at *
 grobner
theorem add_eq {p q r:Pt n d} (hx:r.x*(1+d*p.x*q.x*p.y*q.y)=p.x*q.y+q.x*p.y) (hy:r.y*(1-d*p.x*q.x*p.y*q.y)=p.y*q.y+p.x*q.x):Pt.add F p q=r:=by
 apply Pt.ext
 ·apply F.cancel (F.denP p.on q.on)
  rw [←Dk F] at hx
  grobner
 ·apply F.cancel (F.denM p.on q.on)
  rw [←UW F] at hy
  grobner
theorem add_comm (p q:Pt n d):Pt.add F p q=Pt.add F q p:=by
 apply add_eq
 ·have:=Dk F q p; grobner
 ·have:=UW F q p; grobner
theorem add_zero (p:Pt n d):Pt.add F p Pt.zero=p:=by
 apply add_eq<;>simp only [Pt.zero]<;>grobner
theorem zero_add (p:Pt n d):Pt.add F Pt.zero p=p:=by rw [add_comm,add_zero]
theorem add_neg (p:Pt n d):Pt.add F p p.neg=Pt.zero:=by
 have:=p.on
 unfold On at this
 apply add_eq<;>simp only [Pt.zero,Pt.neg]<;>grobner
theorem add_assoc (p q r:Pt n d):Pt.add F (Pt.add F p q) r=Pt.add F p (Pt.add F q r):=by
 obtain ⟨h1,h2⟩:=S8 F p.on q.on r.on (Dk F p q) (UW F p q) (Dk F q r) (UW F q r) (Dk F (Pt.add F p q) r) (UW F (Pt.add F p q) r) (Dk F p (Pt.add F q r)) (UW F p (Pt.add F q r))
 exact Pt.ext h1 h2
theorem add_left_cancel {p q r:Pt n d} (h:Pt.add F p q=Pt.add F p r):q=r:=by
 have:Pt.add F p.neg (Pt.add F p q)=Pt.add F p.neg (Pt.add F p r):=by rw [h]
 rwa [←add_assoc,←add_assoc,add_comm F p.neg p,add_neg,zero_add,zero_add] at this
theorem neg_neg (p:Pt n d):p.neg.neg=p:=by
 apply Pt.ext<;>simp only [Pt.neg]
 grobner
theorem neg_zero:(Pt.zero:Pt n d).neg=Pt.zero:=by
 apply Pt.ext<;>simp only [Pt.neg,Pt.zero]
 grobner
theorem IX (a b c e:Pt n d):Pt.add F (Pt.add F a b) (Pt.add F c e)=Pt.add F (Pt.add F a c) (Pt.add F b e):=by
 rw [add_assoc,add_assoc,←add_assoc F b,add_comm F b c,add_assoc F c]
theorem neg_add (p q:Pt n d):(Pt.add F p q).neg=Pt.add F p.neg q.neg:=by
 apply add_left_cancel F (p:=Pt.add F p q)
 rw [add_neg,IX,add_neg,add_neg,add_zero]
def Pt.mul (k:Nat) (p:Pt n d):Pt n d:=match k with
 | 0=>Pt.zero
 | k+1=>Pt.add F (Pt.mul k p) p
theorem mul_add (a b:Nat) (p:Pt n d):Pt.mul F (a+b) p=Pt.add F (Pt.mul F a p) (Pt.mul F b p):=by
 induction b with
 | zero=>rw [ZV,Pt.mul,add_zero]
 | succ b ih=>rw [←QW,Pt.mul,ih,Pt.mul,add_assoc]
theorem mul_one (p:Pt n d):Pt.mul F 1 p=p:=by rw [Pt.mul,Pt.mul,zero_add]
theorem mul_two (p:Pt n d):Pt.mul F 2 p=Pt.add F p p:=by rw [Pt.mul,mul_one]
theorem mul_zero (k:Nat):Pt.mul F k (Pt.zero:Pt n d)=Pt.zero:=by
 induction k with
 | zero=>rfl
 | succ k ih=>rw [Pt.mul,ih,zero_add]
theorem Ty (a b:Nat) (p:Pt n d):Pt.mul F (a*b) p=Pt.mul F a (Pt.mul F b p):=by
 induction a with
 | zero=>rw [Ks,Pt.mul,Pt.mul]
 | succ a ih=>rw [Nat.succ_mul,mul_add,ih,Pt.mul]
theorem mul_neg (k:Nat) (p:Pt n d):Pt.mul F k p.neg=(Pt.mul F k p).neg:=by
 induction k with
 | zero=>rw [Pt.mul,Pt.mul,neg_zero]
 | succ k ih=>rw [Pt.mul,ih,Pt.mul,neg_add]
theorem kL (a b:Nat) (p:Pt n d):Pt.mul F a (Pt.mul F b p)=Pt.mul F b (Pt.mul F a p):=by
 rw [←Ty,←Ty,Zk]
theorem mul_mod {l:Nat} {p:Pt n d} (hl:Pt.mul F l p=Pt.zero) (k:Nat):Pt.mul F (k%l) p=Pt.mul F k p:=by
 have h:Pt.mul F k p=Pt.mul F (l*(k/l)+k%l) p:=by rw [Z0]
 rw [h,mul_add,Zk,Ty,hl,mul_zero,zero_add]
end
end Go.Cv
namespace Go.NT
section
variable {a f n q k:Nat}
theorem iE (m a:Nat):∀ (f e:Nat),pwf m a f e=pw m a f e
 | 0,_=>rfl
 | f+1,e=>by simp only [pwf,pw,iE m a f]
theorem I0 {m e:Nat} (h:e<2^f):pwf m a f e=a^e%m:=by rw [iE,tk m a f e h]
def Ok (n q k a f:Nat):Bool:=n==q*k+1&&decide (q*k<2^f)&&pwf n a f (q*k)==1&&T6 (pwf n a f k+n-1) n==1
theorem D6 (hq:Pr q) (h:Ok n q k a f=true):n=q*k+1∧a^(q*k)%n=1∧T6 (a^k%n+n-1) n=1:=by
 simp only [Ok,ZS,beq_iff_eq,decide_eq_true_eq] at h
 obtain ⟨⟨⟨h1,h2⟩,h3⟩,h4⟩:=h
 have h5:k<2^f:=by
  have:k≤q*k:=Nat.le_mul_of_pos_left k (by have:=hq.1; omega)
  omega
 rw [I0 h2] at h3
 rw [I0 h5] at h4
 exact ⟨h1,h3,h4⟩
theorem YE (hq:Pr q) (h:(Ok n q k a f&&decide (2≤n)&&decide (n<q*q))=true):Pr n:=by
 simp only [ZS,decide_eq_true_eq] at h
 obtain ⟨h1,h2,h3⟩:=D6 hq h.1.1
 exact iJ h.1.2 hq h1 h.2 h2 h3
theorem UT {q2 k2 a2:Nat} (hq:Pr q) (hq2:Pr q2) (h:(Ok n q k a f&&Ok n q2 k2 a2 f&&decide (2≤n)&&decide (q≠q2)&&decide (n<(q*q2)*(q*q2)))=true):Pr n:=by
 simp only [ZS,decide_eq_true_eq] at h
 obtain ⟨h1,h2,h3⟩:=D6 hq h.1.1.1.1
 obtain ⟨h1',h2',h3'⟩:=D6 hq2 h.1.1.1.2
 exact iI h.1.1.2 hq h1 hq2 h1' h.1.2 h.2 h2 h3 h2' h3'
theorem pr1:Pr 991:=KM (f:=30) (by decide) (by decide) (by decide +kernel)
theorem pr2:Pr 103:=KM (f:=9) (by decide) (by decide) (by decide +kernel)
theorem pr3:Pr 8574133:=UT (q:=991) (k:=8652) (a:=2) (q2:=103) (k2:=83244) (a2:=2) (f:=25) pr1 pr2 (by decide +kernel)
theorem pr4:Pr 127:=KM (f:=10) (by decide) (by decide) (by decide +kernel)
theorem pr5:Pr 1919519569386763:=UT (q:=8574133) (k:=223873314) (a:=2) (q2:=127) (k2:=15114327318006) (a2:=2) (f:=52) pr3 pr4 (by decide +kernel)
theorem pr6:Pr 569003:=KM (f:=753) (by decide) (by decide) (by decide +kernel)
theorem pr7:Pr 2773320623:=YE (q:=569003) (k:=4874) (a:=2) (f:=33) pr6 (by decide +kernel)
theorem pr8:Pr 72106336199:=YE (q:=2773320623) (k:=26) (a:=2) (f:=38) pr7 (by decide +kernel)
theorem pr9:Pr 75445702479781427272750846543864801:=UT (q:=1919519569386763) (k:=39304471641247389600) (a:=2) (q2:=72106336199) (k2:=1046311689884858398375200) (a2:=2) (f:=117) pr5 pr8 (by decide +kernel)
theorem pr10:Pr 430751:=KM (f:=655) (by decide) (by decide) (by decide +kernel)
theorem pr11:Pr 4153:=KM (f:=63) (by decide) (by decide) (by decide +kernel)
theorem pr12:Pr 31757755568855353:=UT (q:=430751) (k:=73726481352) (a:=2) (q2:=4153) (k2:=7646943310584) (a2:=2) (f:=56) pr10 pr11 (by decide +kernel)
theorem pr13:Pr 74058212732561358302231226437062788676166966415465897661863160754340907:=UT (q:=75445702479781427272750846543864801) (k:=981609426360740691344999861639072106) (a:=2) (q2:=31757755568855353) (k2:=2331972502653487852620185443007392165117953542933313402) (a2:=2) (f:=237) pr9 pr12 (by decide +kernel)
theorem pr14:Pr 57896044618658097711785492504343953926634992332820282019728792003956564819949:=YE (q:=74058212732561358302231226437062788676166966415465897661863160754340907) (k:=781764) (a:=2) (f:=256) pr13 (by decide +kernel)
end
end Go.NT
namespace Go.Fp
open Go.NT Go.Cv
section
variable {a b k:Nat}
def P:Nat:=57896044618658097711785492504343953926634992332820282019728792003956564819949
theorem GJ:P=57896044618658097711785492504343953926634992332820282019728792003956564819949:=rfl
instance:NeZero P:=⟨by decide⟩
theorem sU:Pr P:=pr14
abbrev Fe:=Fin P
def fp (n:Nat):Fe:=Fin.ofNat P n
theorem YQ (n:Nat):(fp n).val=n%P:=rfl
theorem RK:fp a=fp b↔a%P=b%P:=by
 constructor
 ·intro h; exact congrArg Fin.val h
 ·intro h; exact Fin.ext h
theorem dL (a:Fe):fp a.val=a:=Fin.ext (Qv a.isLt)
theorem Ym (a:Nat):fp (a%P)=fp a:=RK.2 (Kw _ _)
theorem Vg (a b:Nat):fp (a+b)=fp a+fp b:=Fin.ext (by rw [YQ,Fin.val_add,YQ,YQ,←Tn])
theorem XS (a b:Nat):fp (a*b)=fp a*fp b:=Fin.ext (by rw [YQ,Fin.val_mul,YQ,YQ,←Yc])
theorem aX:fp 0=0:=rfl
theorem IK:fp 1=1:=rfl
theorem mN:fp 2=2:=rfl
theorem vn:fp P=0:=Fin.ext (by rw [YQ,Nat.mod_self]; rfl)
theorem aY (k:Nat):fp (k*P)=0:=by rw [XS,vn]; grobner
theorem mO (h:b≤a):fp (a-b)=fp a-fp b:=by
 have h1:=Vg (a-b) b
 rw [Nat.sub_add_cancel h] at h1
 grobner
def pow (a:Fe) (k:Nat):Fe:=match k with
 | 0=>1
 | k+1=>pow a k*a
theorem I1 (a:Fe):∀ k,(pow a k).val=a.val^k%P
 | 0=>rfl
 | k+1=>by rw [pow,Fin.val_mul,I1 a k,Zi,UY]
theorem pow_add (a:Fe) (j:Nat):∀ k,pow a (j+k)=pow a j*pow a k
 | 0=>by rw [ZV]; simp only [pow]; grobner
 | k+1=>by rw [←QW,pow,pow_add a j k,pow]; grobner
theorem pow_mul (a:Fe) (j:Nat):∀ k,pow a (j*k)=pow (pow a j) k
 | 0=>by rw [YZ]; rfl
 | k+1=>by rw [Nat.mul_succ,pow_add,pow_mul a j k,pow]
theorem pow_one (a:Fe):pow a 1=a:=by simp only [pow]; grobner
theorem pow_two (a:Fe):pow a 2=a*a:=by simp only [pow]; grobner
theorem one_pow:∀ k,pow 1 k=1
 | 0=>rfl
 | k+1=>by rw [pow,one_pow k]; grobner
theorem zero_pow (hk:0<k):pow 0 k=0:=by
 obtain ⟨j,rfl⟩:∃ j,k=j+1:=⟨k-1,by omega⟩
 rw [pow]; grobner
theorem uo (a k:Nat):pow (fp a) k=fp (a^k):=Fin.ext (by rw [I1,YQ,YQ,←xE])
theorem ndvd {a:Fe} (h:a≠0):¬ P∣a.val:=fun hd=>by
 have h1:=ME hd
 rw [Qv a.isLt] at h1
 exact h (Fin.ext h1)
theorem Rs {a:Fe} (h:a≠0):pow a (P-1)=1:=Fin.ext (by rw [I1,Go.NT.Rs sU (ndvd h)]; rfl)
def iv (a:Fe):Fe:=pow a (P-2)
theorem KK {a:Fe} (h:a≠0):a*iv a=1:=by
 have h1:=Rs h
 rw [show P-1=(P-2)+1 from rfl,pow] at h1
 unfold iv
 rw [←h1]; grobner
theorem T1:iv 0=0:=zero_pow (by decide)
def dN:Nat:=37095705934669439343138083508754565189542113879843219016388785533085940283555
def iN:Nat:=19681161376707505956807079304988542015446066515923890162744021073123829784752
def d:Fe:=fp dN
def iQ:Fe:=fp iN
theorem Ag {r f:Nat} (hk:k<2^f) (h:pwf P a f k=r):pow (fp a) k=fp r:=by
 rw [uo,←h,I0 hk,Ym]
theorem Pd:iQ*iQ = -1:=by
 have h:iQ*iQ+1=0:=by
  unfold iQ
  rw [←XS,←IK,←Vg]
  exact Fin.ext (by rw [YQ]; decide +kernel)
 grobner
theorem VV:(1:Fe)≠0:=fun h=>by
 have:=congrArg Fin.val h
 revert this
 decide +kernel
theorem fJ:(2:Fe)≠0:=fun h=>by
 have:=congrArg Fin.val h
 revert this
 decide +kernel
theorem Ah (r:Fe):pow (r*r) ((P-1)/2)=1∨r=0:=by
 by_cases h:r=0
 ·exact .inr h
 ·left
  rw [←pow_two,←pow_mul,show 2*((P-1)/2)=P-1 from by decide +kernel,Rs h]
theorem uW:pow d ((P-1)/2)=fp (P-1):=Ag (f:=256) (by decide +kernel) (by decide +kernel)
theorem nosq (r:Fe):r*r≠d:=fun h=>by
 have h1:=uW
 rcases Ah r with h2 | h2
 ·rw [h,h1] at h2
  have:=congrArg Fin.val h2
  revert this
  decide +kernel
 ·subst h2
  have h3:d=0:=by rw [←h]; grobner
  have:=congrArg Fin.val h3
  revert this
  decide +kernel
theorem fld:Fld P iv d iQ:=⟨fun _ h=>KK h,T1,VV,fJ,Pd,nosq⟩
end
end Go.Fp
namespace Go.Ev.YtpgphpkjlpkcbaaGreat
open Go Go.Ev
set_option maxRecDepth 100000
section
attribute [local congr] JD JU JC JV Jv
variable {x n y x0 x1 x2 x3 x4 V b a c i:Nat} {k:List Nat} {R:Ob}
theorem N0 (hx:x<18446744073709551616) (hy:y<18446744073709551616) :
  Z6 T 158 [.int .u64 x,.int .u64 y] []=some (.tuple #[.int .u64 ((x*y/18446744073709551616:Nat):Int),.int .u64 ((x*y%18446744073709551616:Nat):Int)],[],[]):=by
 have key:∀ a b:Nat,a=x*y/18446744073709551616→b=x*y%18446744073709551616→(some (.tuple #[.int .u64 (a:Int),.int .u64 (b:Int)],[],[]):Option (Value×List Ob×List Nat))=some (.tuple #[.int .u64 ((x*y/18446744073709551616:Nat):Int),.int .u64 ((x*y%18446744073709551616:Nat):Int)],[],[]):=by
  rintro a b rfl rfl; rfl
 rw [Zg (fn:=a91) rfl]
 simp only [a91,Qs,quiet,cF,Jc,QR,↓pQ,reduceCtorEq,seval,-Qb,cL,cU]
 apply key
 ·have e:x*y=(x/4294967296*(y/4294967296))*18446744073709551616+(x/4294967296*(y%4294967296)+x%4294967296*(y/4294967296))*4294967296+x%4294967296*(y%4294967296):=by
   conv=>lhs; rw [←Z0 x 4294967296,←Z0 y 4294967296]
   generalize x/4294967296=x1
   generalize x%4294967296=x0
   generalize y/4294967296=y1
   generalize y%4294967296=y0
   grind
  have b1:x/4294967296≤4294967295:=by omega
  have b2:x%4294967296≤4294967295:=by omega
  have b3:y/4294967296≤4294967295:=by omega
  have b4:y%4294967296≤4294967295:=by omega
  have c1:=JL b1 b3
  have c2:=JL b1 b4
  have c3:=JL b2 b3
  have c4:=JL b2 b4
  rw [e]
  clear e
  generalize x/4294967296*(y/4294967296)=p11 at *
  generalize x/4294967296*(y%4294967296)=p10 at *
  generalize x%4294967296*(y/4294967296)=p01 at *
  generalize x%4294967296*(y%4294967296)=p00 at *
  omega
 ·rfl
def wV (n:Nat):Value := .agg #[.int .u64 ((n/18446744073709551616:Nat):Int),.int .u64 ((n%18446744073709551616:Nat):Int)]
theorem rf_wV (n:Nat):rf (wV n)=true:=rfl
theorem Ch (hc:c≤1):Z6 T 159 [.int .u64 x,.int .u64 y,.int .u64 c] []=some (.tuple #[.int .u64 ((x+y+c)%18446744073709551616:Nat),.int .u64 ((x+y+c)/18446744073709551616:Nat)],[],[]):=by
 rw [Z6.eq_def]
 have h1:T.fn 159=none:=rfl
 have h2:([.int .u64 (x:Int),.int .u64 (y:Int),.int .u64 (c:Int)]:List Value).all rf=true:=rfl
 have h3:T.ext 159 [.int .u64 x,.int .u64 y,.int .u64 c]=some (.tuple #[.int .u64 ((x+y+c)%18446744073709551616:Nat),.int .u64 ((x+y+c)/18446744073709551616:Nat)]):=by
  have h4:(c:Int).toNat≤1:=by omega
  simp [T,rG,hc]
 rw [h1]
 simp only [h2,if_true,h3,Qp]
theorem bE (hx:x<18446744073709551616) (hy:y<18446744073709551616):∃ l,Z6 T 127 [.int .u64 x,.int .u64 y] []=some (wV (x*y),l,[]):=by
 have h:=N0 hx hy
 have hf:∀ a b:Int,fillL [Value.int .u64 0,Value.int .u64 0] [(0,1,.int .u64 a),(1,1,.int .u64 b)]=some [.int .u64 a,.int .u64 b]:=fun _ _=>rfl
 apply J4
 rw [Zg (fn:=a77) rfl]
 simp only [a77,Qs,quiet,cF,Jc,QR,↓pQ,reduceCtorEq,seval,-Qb,cL,cJ,QW,h,hf]
 rfl
theorem eH (hx:x<18446744073709551616) (hy:y<18446744073709551616) (hn:n+x*y<340282366920938463463374607431768211456):∃ l,Z6 T 128 [wV n,.int .u64 x,.int .u64 y] []=some (wV (n+x*y),l,[]):=by
 have h:=N0 hx hy
 have hf:∀ a b:Int,fillL [Value.int .u64 0,Value.int .u64 0] [(0,1,.int .u64 a),(1,1,.int .u64 b)]=some [.int .u64 a,.int .u64 b]:=fun _ _=>rfl
 have a1:=Ch (x:=n%18446744073709551616) (y:=x*y%18446744073709551616) (c:=0) (by decide)
 have a2:=Ch (x:=n/18446744073709551616) (y:=x*y/18446744073709551616) (c:=(n%18446744073709551616+x*y%18446744073709551616)/18446744073709551616) (by omega)
 simp only [QD,ZV] at a1
 have key:∀ (a b:Nat) (l:List Ob),a=(n+x*y)/18446744073709551616→b=(n+x*y)%18446744073709551616→(some (.agg #[.int .u64 (a:Int),.int .u64 (b:Int)],l,[]):Option (Value×List Ob×List Nat))=some (wV (n+x*y),l,[]):=by
  rintro a b l rfl rfl; rfl
 apply J4
 rw [Zg (fn:=a78) rfl]
 simp only [wV,a78,Qs,quiet,cF,Jc,QR,↓pQ,reduceCtorEq,seval,-Qb,cL,cJ,QW,h,hf,a1,a2]
 apply key
 ·generalize x*y=p at *
  omega
 ·generalize x*y=p at *
  omega
theorem gj (hn:n<41538374868278621028243970633760768):∃ l,Z6 T 129 [wV n] []=some (.tuple #[.int .u64 ((n/2251799813685248:Nat):Int),.int .u64 ((n%2251799813685248:Nat):Int)],l,[]):=by
 have key:∀ (a b:Nat) (l:List Ob),a=n/2251799813685248→b=n%2251799813685248→(some (.tuple #[.int .u64 (a:Int),.int .u64 (b:Int)],l,[]):Option (Value×List Ob×List Nat))=some (.tuple #[.int .u64 ((n/2251799813685248:Nat):Int),.int .u64 ((n%2251799813685248:Nat):Int)],l,[]):=by
  rintro a b l rfl rfl; rfl
 have hor:=fun a b:Nat=>n_or .u64 rfl a b
 apply J4
 rw [Zg (fn:=a79) rfl]
 simp only [wV,a79,Qs,quiet,cF,Jc,QR,↓pQ,reduceCtorEq,seval,-Qb,cL,cJ,QW,cU,hor]
 apply key
 ·have h1:n/18446744073709551616<2251799813685248:=by omega
  have e1:n/18446744073709551616*8192%18446744073709551616%2^IntKind.u64.bits=n/18446744073709551616*2^13:=by
   rw [show (2:Nat)^IntKind.u64.bits=18446744073709551616 from rfl]; omega
  have e2:n%18446744073709551616/2251799813685248%2^IntKind.u64.bits=n%18446744073709551616/2251799813685248:=by
   rw [show (2:Nat)^IntKind.u64.bits=18446744073709551616 from rfl]; omega
  rw [e1,e2,Yi (by omega)]
  omega
 ·omega
theorem qG (hn:n+x<340282366920938463463374607431768211456) (hx:x<18446744073709551616):∃ l,Z6 T 130 [wV n,.int .u64 x] []=some (wV (n+x),l,[]):=by
 have hf:∀ a b:Int,fillL [Value.int .u64 0,Value.int .u64 0] [(0,1,.int .u64 a),(1,1,.int .u64 b)]=some [.int .u64 a,.int .u64 b]:=fun _ _=>rfl
 have a1:=Ch (x:=n%18446744073709551616) (y:=x) (c:=0) (by decide)
 simp only [QD,ZV] at a1
 have key:∀ (a b:Nat) (l:List Ob),a=(n+x)/18446744073709551616→b=(n+x)%18446744073709551616→(some (.agg #[.int .u64 (a:Int),.int .u64 (b:Int)],l,[]):Option (Value×List Ob×List Nat))=some (wV (n+x),l,[]):=by
  rintro a b l rfl rfl; rfl
 apply J4
 rw [Zg (fn:=a80) rfl]
 simp only [wV,a80,Qs,quiet,cF,Jc,QR,↓pQ,reduceCtorEq,seval,-Qb,cL,cJ,QW,cU,hf,a1]
 apply key
 ·omega
 ·omega
def eV (l:List Nat):Value := .agg (ns .u64 l).toArray
theorem Za (l:List Nat):rf (eV l)=true:=by
 show (ns .u64 l).toArray.toList.all ZB=true
 rw [show (ns .u64 l).toArray.toList=ns .u64 l from rfl]
 simp [ns,ZB]
theorem al (k:IntKind) (l:List Nat):rf (.agg (ns k l).toArray)=true:=by
 show (ns k l).toArray.toList.all ZB=true
 rw [show (ns k l).toArray.toList=ns k l from rfl]
 simp [ns,ZB]
structure El (l:List Nat) (b:Nat):Prop where
 len:l.length=5
 lt:∀ x∈l,x<b
theorem El.five {l:List Nat} {b:Nat} (h:El l b):∃ x0 x1 x2 x3 x4,l=[x0,x1,x2,x3,x4]∧x0<b∧x1<b∧x2<b∧x3<b∧x4<b:=by
 obtain ⟨h1,h2⟩:=h
 match l,h1 with
 | [x0,x1,x2,x3,x4],_=>exact ⟨x0,x1,x2,x3,x4,rfl,h2 _ (by simp),h2 _ (by simp),h2 _ (by simp),h2 _ (by simp),h2 _ (by simp)⟩
theorem El.mk5 {x0 x1 x2 x3 x4 b:Nat} (h0:x0<b) (h1:x1<b) (h2:x2<b) (h3:x3<b) (h4:x4<b):El [x0,x1,x2,x3,x4] b:=⟨rfl,by simp; exact ⟨h0,h1,h2,h3,h4⟩⟩
def v51 (l:List Nat):Nat:=num 2251799813685248 l
def fe (l:List Nat):Go.Fp.Fe:=Go.Fp.fp (v51 l)
def WA (x0 x1 x2 x3 x4:Nat):List Nat :=
 let c0:=x0/2251799813685248
 let c1:=(x1+c0)/2251799813685248
 let c2:=(x2+c1)/2251799813685248
 let c3:=(x3+c2)/2251799813685248
 let c4:=(x4+c3)/2251799813685248
 [x0%2251799813685248+19*c4,(x1+c0)%2251799813685248,(x2+c1)%2251799813685248,(x3+c2)%2251799813685248,(x4+c3)%2251799813685248]
theorem Mh:∃ k,v51 (WA x0 x1 x2 x3 x4)+k*Go.Fp.P=v51 [x0,x1,x2,x3,x4]:=by
 refine ⟨(x4+(x3+(x2+(x1+x0/2251799813685248)/2251799813685248)/2251799813685248)/2251799813685248)/2251799813685248,?_⟩
 simp only [v51,WA,num,Go.Fp.GJ]
 omega
theorem tv {k:Nat} (h:a+k*Go.Fp.P=b):Go.Fp.fp a=Go.Fp.fp b:=by
 rw [←h,Go.Fp.Vg,Go.Fp.aY]; grobner
theorem Sy (h0:x0<9223372036854775808) (h1:x1<9223372036854775808) (h2:x2<9223372036854775808) (h3:x3<9223372036854775808) (h4:x4<9223372036854775808) :
  ∃ l,Z6 T 131 [eV [x0,x1,x2,x3,x4]] []=some (eV (WA x0 x1 x2 x3 x4),l,[]):=by
 have key:∀ (a b c d e:Nat) (l:List Ob),[a,b,c,d,e]=WA x0 x1 x2 x3 x4→(some (.agg [.int .u64 (a:Int),.int .u64 (b:Int),.int .u64 (c:Int),.int .u64 (d:Int),.int .u64 (e:Int)].toArray,l,[]):Option (Value×List Ob×List Nat))=some (eV (WA x0 x1 x2 x3 x4),l,[]):=by
  intro a b c d e l h
  rw [←h]; rfl
 have hz:Qa 5 (Value.int .u64 0)=[.int .u64 0,.int .u64 0,.int .u64 0,.int .u64 0,.int .u64 0]:=rfl
 apply J4
 rw [Zg (fn:=a81) rfl]
 simp only [eV,Y3,Gl,a81,Qs,quiet,cF,Jc,QR,↓pQ,reduceCtorEq,seval,-Qb,cL,cJ,QW,cU,hz,Jl,Jx,nU]
 apply key
 simp only [WA,List.cons.injEq,and_true]
 rw [show x0%18446744073709551616=x0 by omega]
 have b0:x0/2251799813685248<8192:=by omega
 have hx0:x0%2251799813685248<2251799813685248:=by omega
 generalize x0/2251799813685248=c0 at *
 generalize x0%2251799813685248=r0 at *
 rw [show (x1+c0)%18446744073709551616=x1+c0 by omega]
 have b1:(x1+c0)/2251799813685248<8192:=by omega
 generalize (x1+c0)/2251799813685248=c1 at *
 rw [show (x2+c1)%18446744073709551616=x2+c1 by omega]
 have b2:(x2+c1)/2251799813685248<8192:=by omega
 generalize (x2+c1)/2251799813685248=c2 at *
 rw [show (x3+c2)%18446744073709551616=x3+c2 by omega]
 have b3:(x3+c2)/2251799813685248<8192:=by omega
 generalize (x3+c2)/2251799813685248=c3 at *
 rw [show (x4+c3)%18446744073709551616=x4+c3 by omega]
 have b4:(x4+c3)/2251799813685248<8192:=by omega
 generalize (x4+c3)/2251799813685248=c4 at *
 refine ⟨by omega,rfl,rfl,rfl,rfl⟩
theorem qE (B P x0 x1 x2 x3 x4 y0 y1 y2 y3 y4:Nat) (h:B*B*B*B*B=P+19) :
  (x0+B*(x1+B*(x2+B*(x3+B*(x4+B*0)))))*(y0+B*(y1+B*(y2+B*(y3+B*(y4+B*0))))) =
   (x0*y0+19*x1*y4+19*x2*y3+19*x3*y2+19*x4*y1)+B*((x0*y1+x1*y0+19*x2*y4+19*x3*y3+19*x4*y2)+B*((x0*y2+x1*y1+x2*y0+19*x3*y4+19*x4*y3)+B*((x0*y3+x1*y2+x2*y1+x3*y0+19*x4*y4)+B*(x0*y4+x1*y3+x2*y2+x3*y1+x4*y0)))) +
   (x1*y4+x2*y3+x3*y2+x4*y1+B*(x2*y4+x3*y3+x4*y2+B*(x3*y4+x4*y3+B*(x4*y4))))*P:=by grind
theorem GP (hx:x<18446744073709551616) (hy:y<18446744073709551616):evVal T 127 [.int .u64 x,.int .u64 y]=some (wV (x*y)):=W8 (bE hx hy)
theorem XJ (hx:x<18446744073709551616) (hy:y<18446744073709551616) (hn:n+x*y<340282366920938463463374607431768211456):evVal T 128 [wV n,.int .u64 x,.int .u64 y]=some (wV (n+x*y)):=W8 (eH hx hy hn)
theorem GR (hn:n<41538374868278621028243970633760768):evVal T 129 [wV n]=some (.tuple #[.int .u64 ((n/2251799813685248:Nat):Int),.int .u64 ((n%2251799813685248:Nat):Int)]):=W8 (gj hn)
theorem uT (hn:n+x<340282366920938463463374607431768211456) (hx:x<18446744073709551616):evVal T 130 [wV n,.int .u64 x]=some (wV (n+x)):=W8 (qG hn hx)
theorem UU (h0:x0<9223372036854775808) (h1:x1<9223372036854775808) (h2:x2<9223372036854775808) (h3:x3<9223372036854775808) (h4:x4<9223372036854775808):evVal T 131 [eV [x0,x1,x2,x3,x4]]=some (eV (WA x0 x1 x2 x3 x4)):=W8 (Sy h0 h1 h2 h3 h4)
theorem W4 {d e:Nat} (ha:a<2^109) (hb:b<2^109) (hc:c<2^109) (hd:d<2^109) (he:e<2^109):a+b+c+d+e<2^112:=by omega
theorem Jw (hx:x<2^57) (hy:y<2^52):x*y<2^109:=by
 rw [show (2:Nat)^109=2^57*2^52 from rfl]
 exact DC hx hy
theorem qD {s0 s1 s2 s3 s4:Nat} (h0:s0<2^112) (h1:s1<2^112) (h2:s2<2^112) (h3:s3<2^112) (h4:s4<2^112):∃ r,El r (2^52)∧(∃ k,v51 r+k*Go.Fp.P=s0+2251799813685248*(s1+2251799813685248*(s2+2251799813685248*(s3+2251799813685248*s4)))) ∧
  r=WA ((19*(s4/2251799813685248)+s0%2251799813685248)%2251799813685248) (s1%2251799813685248+s0/2251799813685248+(19*(s4/2251799813685248)+s0%2251799813685248)/2251799813685248) (s2%2251799813685248+s1/2251799813685248) (s3%2251799813685248+s2/2251799813685248) (s4%2251799813685248+s3/2251799813685248):=by
 refine ⟨_,?_,?_,rfl⟩
 ·simp only [WA]
  apply El.mk5<;>omega
 ·obtain ⟨k,hk⟩:=Mh (x0:=(19*(s4/2251799813685248)+s0%2251799813685248)%2251799813685248) (x1:=s1%2251799813685248+s0/2251799813685248+(19*(s4/2251799813685248)+s0%2251799813685248)/2251799813685248) (x2:=s2%2251799813685248+s1/2251799813685248) (x3:=s3%2251799813685248+s2/2251799813685248) (x4:=s4%2251799813685248+s3/2251799813685248)
  refine ⟨k+s4/2251799813685248,?_⟩
  rw [QY,←QW,hk]
  simp only [v51,num,Go.Fp.GJ]
  omega
theorem Xf {x y:List Nat} (hx:El x (2^52)) (hy:El y (2^52)):∃ r,evVal T 76 [eV x,eV y]=some (eV r)∧El r (2^52)∧fe r=fe x*fe y:=by
 obtain ⟨x0,x1,x2,x3,x4,rfl,a0,a1,a2,a3,a4⟩:=hx.five
 obtain ⟨y0,y1,y2,y3,y4,rfl,b0,b1,b2,b3,b4⟩:=hy.five
 have m1:19*x1%18446744073709551616=19*x1:=by omega
 have m2:19*x2%18446744073709551616=19*x2:=by omega
 have m3:19*x3%18446744073709551616=19*x3:=by omega
 have m4:19*x4%18446744073709551616=19*x4:=by omega
 have t00:=GP (x:=x0) (y:=y0) (by omega) (by omega)
 have p00:x0*y0<2^109:=Jw (by omega) (by omega)
 have p01:19*x1*y4<2^109:=Jw (by omega) (by omega)
 have p02:19*x2*y3<2^109:=Jw (by omega) (by omega)
 have p03:19*x3*y2<2^109:=Jw (by omega) (by omega)
 have p04:19*x4*y1<2^109:=Jw (by omega) (by omega)
 have t01:=XJ (n:=x0*y0) (x:=19*x1) (y:=y4) (by omega) (by omega) (by omega)
 have t02:=XJ (n:=x0*y0+19*x1*y4) (x:=19*x2) (y:=y3) (by omega) (by omega) (by omega)
 have t03:=XJ (n:=x0*y0+19*x1*y4+19*x2*y3) (x:=19*x3) (y:=y2) (by omega) (by omega) (by omega)
 have t04:=XJ (n:=x0*y0+19*x1*y4+19*x2*y3+19*x3*y2) (x:=19*x4) (y:=y1) (by omega) (by omega) (by omega)
 have q0:=W4 p00 p01 p02 p03 p04
 have t10:=GP (x:=x0) (y:=y1) (by omega) (by omega)
 have p10:x0*y1<2^109:=Jw (by omega) (by omega)
 have p11:x1*y0<2^109:=Jw (by omega) (by omega)
 have p12:19*x2*y4<2^109:=Jw (by omega) (by omega)
 have p13:19*x3*y3<2^109:=Jw (by omega) (by omega)
 have p14:19*x4*y2<2^109:=Jw (by omega) (by omega)
 have t11:=XJ (n:=x0*y1) (x:=x1) (y:=y0) (by omega) (by omega) (by omega)
 have t12:=XJ (n:=x0*y1+x1*y0) (x:=19*x2) (y:=y4) (by omega) (by omega) (by omega)
 have t13:=XJ (n:=x0*y1+x1*y0+19*x2*y4) (x:=19*x3) (y:=y3) (by omega) (by omega) (by omega)
 have t14:=XJ (n:=x0*y1+x1*y0+19*x2*y4+19*x3*y3) (x:=19*x4) (y:=y2) (by omega) (by omega) (by omega)
 have q1:=W4 p10 p11 p12 p13 p14
 have t20:=GP (x:=x0) (y:=y2) (by omega) (by omega)
 have p20:x0*y2<2^109:=Jw (by omega) (by omega)
 have p21:x1*y1<2^109:=Jw (by omega) (by omega)
 have p22:x2*y0<2^109:=Jw (by omega) (by omega)
 have p23:19*x3*y4<2^109:=Jw (by omega) (by omega)
 have p24:19*x4*y3<2^109:=Jw (by omega) (by omega)
 have t21:=XJ (n:=x0*y2) (x:=x1) (y:=y1) (by omega) (by omega) (by omega)
 have t22:=XJ (n:=x0*y2+x1*y1) (x:=x2) (y:=y0) (by omega) (by omega) (by omega)
 have t23:=XJ (n:=x0*y2+x1*y1+x2*y0) (x:=19*x3) (y:=y4) (by omega) (by omega) (by omega)
 have t24:=XJ (n:=x0*y2+x1*y1+x2*y0+19*x3*y4) (x:=19*x4) (y:=y3) (by omega) (by omega) (by omega)
 have q2:=W4 p20 p21 p22 p23 p24
 have t30:=GP (x:=x0) (y:=y3) (by omega) (by omega)
 have p30:x0*y3<2^109:=Jw (by omega) (by omega)
 have p31:x1*y2<2^109:=Jw (by omega) (by omega)
 have p32:x2*y1<2^109:=Jw (by omega) (by omega)
 have p33:x3*y0<2^109:=Jw (by omega) (by omega)
 have p34:19*x4*y4<2^109:=Jw (by omega) (by omega)
 have t31:=XJ (n:=x0*y3) (x:=x1) (y:=y2) (by omega) (by omega) (by omega)
 have t32:=XJ (n:=x0*y3+x1*y2) (x:=x2) (y:=y1) (by omega) (by omega) (by omega)
 have t33:=XJ (n:=x0*y3+x1*y2+x2*y1) (x:=x3) (y:=y0) (by omega) (by omega) (by omega)
 have t34:=XJ (n:=x0*y3+x1*y2+x2*y1+x3*y0) (x:=19*x4) (y:=y4) (by omega) (by omega) (by omega)
 have q3:=W4 p30 p31 p32 p33 p34
 have t40:=GP (x:=x0) (y:=y4) (by omega) (by omega)
 have p40:x0*y4<2^109:=Jw (by omega) (by omega)
 have p41:x1*y3<2^109:=Jw (by omega) (by omega)
 have p42:x2*y2<2^109:=Jw (by omega) (by omega)
 have p43:x3*y1<2^109:=Jw (by omega) (by omega)
 have p44:x4*y0<2^109:=Jw (by omega) (by omega)
 have t41:=XJ (n:=x0*y4) (x:=x1) (y:=y3) (by omega) (by omega) (by omega)
 have t42:=XJ (n:=x0*y4+x1*y3) (x:=x2) (y:=y2) (by omega) (by omega) (by omega)
 have t43:=XJ (n:=x0*y4+x1*y3+x2*y2) (x:=x3) (y:=y1) (by omega) (by omega) (by omega)
 have t44:=XJ (n:=x0*y4+x1*y3+x2*y2+x3*y1) (x:=x4) (y:=y0) (by omega) (by omega) (by omega)
 have q4:=W4 p40 p41 p42 p43 p44
 obtain ⟨r,hr1,⟨k,hr2⟩,hr3⟩:=qD q0 q1 q2 q3 q4
 have d0:=GR (n:=x0*y0+19*x1*y4+19*x2*y3+19*x3*y2+19*x4*y1) (by omega)
 have d1:=GR (n:=x0*y1+x1*y0+19*x2*y4+19*x3*y3+19*x4*y2) (by omega)
 have d2:=GR (n:=x0*y2+x1*y1+x2*y0+19*x3*y4+19*x4*y3) (by omega)
 have d3:=GR (n:=x0*y3+x1*y2+x2*y1+x3*y0+19*x4*y4) (by omega)
 have d4:=GR (n:=x0*y4+x1*y3+x2*y2+x3*y1+x4*y0) (by omega)
 refine ⟨r,?_,hr1,?_⟩
 ·rw [hr3]
  clear hr2 hr3
  generalize x0*y0+19*x1*y4+19*x2*y3+19*x3*y2+19*x4*y1=s0 at *
  generalize x0*y1+x1*y0+19*x2*y4+19*x3*y3+19*x4*y2=s1 at *
  generalize x0*y2+x1*y1+x2*y0+19*x3*y4+19*x4*y3=s2 at *
  generalize x0*y3+x1*y2+x2*y1+x3*y0+19*x4*y4=s3 at *
  generalize x0*y4+x1*y3+x2*y2+x3*y1+x4*y0=s4 at *
  have u1:=GP (x:=19) (y:=s4/2251799813685248) (by omega) (by omega)
  have u2:=uT (n:=19*(s4/2251799813685248)) (x:=s0%2251799813685248) (by omega) (by omega)
  have u3:=GR (n:=19*(s4/2251799813685248)+s0%2251799813685248) (by omega)
  have w1:(s1%2251799813685248+s0/2251799813685248)%18446744073709551616=s1%2251799813685248+s0/2251799813685248:=by omega
  have w2:(s1%2251799813685248+s0/2251799813685248+(19*(s4/2251799813685248)+s0%2251799813685248)/2251799813685248)%18446744073709551616=s1%2251799813685248+s0/2251799813685248+(19*(s4/2251799813685248)+s0%2251799813685248)/2251799813685248:=by omega
  have w3:(s2%2251799813685248+s1/2251799813685248)%18446744073709551616=s2%2251799813685248+s1/2251799813685248:=by omega
  have w4:(s3%2251799813685248+s2/2251799813685248)%18446744073709551616=s3%2251799813685248+s2/2251799813685248:=by omega
  have w5:(s4%2251799813685248+s3/2251799813685248)%18446744073709551616=s4%2251799813685248+s3/2251799813685248:=by omega
  have v1:=UU (x0:=(19*(s4/2251799813685248)+s0%2251799813685248)%2251799813685248) (x1:=s1%2251799813685248+s0/2251799813685248+(19*(s4/2251799813685248)+s0%2251799813685248)/2251799813685248) (x2:=s2%2251799813685248+s1/2251799813685248) (x3:=s3%2251799813685248+s2/2251799813685248) (x4:=s4%2251799813685248+s3/2251799813685248) (by omega) (by omega) (by omega) (by omega) (by omega)
  simp only [JN] at u1
  have hz:Qa 5 (Value.int .u64 0)=[.int .u64 0,.int .u64 0,.int .u64 0,.int .u64 0,.int .u64 0]:=rfl
  have hf:∀ a b c d e:Int,fillL [Value.int .u64 0,.int .u64 0,.int .u64 0,.int .u64 0,.int .u64 0] [(0,1,.int .u64 a),(1,1,.int .u64 b),(2,1,.int .u64 c),(3,1,.int .u64 d),(4,1,.int .u64 e)]=some [.int .u64 a,.int .u64 b,.int .u64 c,.int .u64 d,.int .u64 e]:=fun _ _ _ _ _=>rfl
  have hf5:∀ a b c d e:Int,fillL [Value.int .u64 0,.int .u64 0,.int .u64 0,.int .u64 0,.int .u64 0] [(0,5,.agg [.int .u64 a,.int .u64 b,.int .u64 c,.int .u64 d,.int .u64 e].toArray)]=some [.int .u64 a,.int .u64 b,.int .u64 c,.int .u64 d,.int .u64 e]:=fun _ _ _ _ _=>rfl
  have hr5:∀ a b c d e:Int,rf (.agg [.int .u64 a,.int .u64 b,.int .u64 c,.int .u64 d,.int .u64 e].toArray)=true:=fun _ _ _ _ _=>rfl
  have hw:∀ n,(wV n).cells.size=2:=fun _=>rfl
  have hw2:∀ n,(wV n).cells.toList=[.int .u64 ((n/18446744073709551616:Nat):Int),.int .u64 ((n%18446744073709551616:Nat):Int)]:=fun _=>rfl
  have hw3:∀ n,okVar (wV n)=true:=fun _=>rfl
  have hw4:∀ n,Value.agg [.int .u64 ((n/18446744073709551616:Nat):Int),.int .u64 ((n%18446744073709551616:Nat):Int)].toArray=wV n:=fun _=>rfl
  simp only [eV,Y3,Gl] at v1 ⊢
  generalize hc:ns .u64 (WA ((19*(s4/2251799813685248)+s0%2251799813685248)%2251799813685248) (s1%2251799813685248+s0/2251799813685248+(19*(s4/2251799813685248)+s0%2251799813685248)/2251799813685248) (s2%2251799813685248+s1/2251799813685248) (s3%2251799813685248+s2/2251799813685248) (s4%2251799813685248+s3/2251799813685248))=C at *
  have hC:C.length=5:=by rw [←hc]; rfl
  have hCr:rf (.agg C.toArray)=true:=by rw [←hc]; exact al _ _
  apply QC (fn:=a51) rfl
  simp only [a51,Qs,quiet,cF,JG,QR,↓pQ,reduceCtorEq,seval,-Qb,cL,cJ,cU,hz,m1,m2,m3,m4,t00,t01,t02,t03,t04,t10,t11,t12,t13,t14,t20,t21,t22,t23,t24,t30,t31,t32,t33,t34,t40,t41,t42,t43,t44,d0,d1,d2,d3,d4,u1,u2,u3,w1,w2,w3,w4,w5,hf,hf5,hr5,v1,rf_wV,hw,hw2,hw3,hw4,hC,hCr]
  rfl
 ·unfold fe
  rw [←Go.Fp.XS]
  have h:=qE 2251799813685248 Go.Fp.P x0 x1 x2 x3 x4 y0 y1 y2 y3 y4 (by rw [Go.Fp.GJ])
  have e:v51 [x0,x1,x2,x3,x4]*v51 [y0,y1,y2,y3,y4]=v51 r+(k+(x1*y4+x2*y3+x3*y2+x4*y1+2251799813685248*(x2*y4+x3*y3+x4*y2+2251799813685248*(x3*y4+x4*y3+2251799813685248*(x4*y4)))))*Go.Fp.P:=by
   simp only [v51,num] at hr2 h ⊢
   rw [h,←hr2,QW,←QY]
  exact tv e.symm
theorem Tb {w q s:Nat} (hs:s<w):V/(2^w)^q%2^w/2^s%2=V/2^(w*q+s)%2:=by
 have h1:(2:Nat)^w=2^s*2^(w-s):=by rw [←JE]; congr 1; omega
 conv=>lhs; rw [show V/(2^w)^q%2^w=V/(2^w)^q%(2^s*2^(w-s)) from by rw [←h1]]
 have h2:(2:Nat)∣2^(w-s):=by
  obtain ⟨m,hm⟩:∃ m,w-s=m+1:=⟨w-s-1,by omega⟩
  rw [hm,Zi]
  exact OE 2 _
 rw [Nat.mod_mul_right_div_self,YH _ h2,QV,←Ja,←JE]
theorem Ov (V i:Nat):V%2^i+V/2^i%2*2^i=V%2^(i+1):=by
 rw [Nat.mod_pow_succ,Zk (2^i)]
theorem Ut (V i:Nat):V/2^i%2<2:=Q6 _ (by decide)
theorem Bj (h:n≤b):(2:Int)^min n b=((2^n:Nat):Int):=by rw [Zp h]; simp
theorem GS (hn:n<4294967296):evVal T 73 [.int .u32 n]=some (eV [n,0,0,0,0]):=by
 have hz:Qa 5 (Value.int .u64 0)=[.int .u64 0,.int .u64 0,.int .u64 0,.int .u64 0,.int .u64 0]:=rfl
 have hf:∀ a:Int,fillL [Value.int .u64 0,.int .u64 0,.int .u64 0,.int .u64 0,.int .u64 0] [(0,1,.int .u64 a)]=some [.int .u64 a,.int .u64 0,.int .u64 0,.int .u64 0,.int .u64 0]:=fun _=>rfl
 have hf5:∀ a b c d e:Int,fillL [Value.int .u64 0,.int .u64 0,.int .u64 0,.int .u64 0,.int .u64 0] [(0,5,.agg [.int .u64 a,.int .u64 b,.int .u64 c,.int .u64 d,.int .u64 e].toArray)]=some [.int .u64 a,.int .u64 b,.int .u64 c,.int .u64 d,.int .u64 e]:=fun _ _ _ _ _=>rfl
 have hm:n%18446744073709551616=n:=by omega
 apply QC (fn:=a50) rfl
 simp only [a50,Qs,quiet,cF,JG,QR,↓pQ,reduceCtorEq,seval,-Qb,cL,cJ,cU,hz,hf,hf5,hm,eV,Y3,Gl]
 rfl
theorem U6 (hn:n<2^52):El [n,0,0,0,0] (2^52):=El.mk5 hn (by decide) (by decide) (by decide) (by decide)
theorem U5 (n:Nat):fe [n,0,0,0,0]=Go.Fp.fp n:=by simp [fe,v51,num]
def ofX (V i:Nat):List Nat:=dig (2^51) 5 (V%2^i)
def Ns (k x:List Nat) (i:Nat) (ex:Env):St:=⟨[(1,.pointer (some ⟨0,0,none⟩)),(2,.pointer (some ⟨1,0,none⟩)),(3,.pointer (some ⟨2,0,none⟩)),(5,.int .i64 i)]++ex,[⟨u8s k,true,true,true,1⟩,⟨ns .u64 [0,0,0,0,0],true,true,true,1⟩,⟨ns .u64 x,true,true,true,1⟩],[]⟩
theorem kD (lk:k.length=32) (xk:∀ x∈k,x<256) (hi:i<255) :
  Q5 T 0 C9 (Ns k (ofX (num 256 k) i) i [])=some (.normal,Ns k (ofX (num 256 k) (i+1)) (i+1) []):=by
 obtain ⟨b,hb⟩:∃ b,k[i/8]?=some b:=⟨_,Qe (by omega)⟩
 have hbv:=Kk (B:=256) (by decide) xk hb
 have hbc:=Jk hb
 have hlen:(ofX (num 256 k) i).length=5:=Ze _ _ _
 obtain ⟨y,hy⟩:∃ b,(ofX (num 256 k) i)[i/51]?=some b:=⟨_,Qe (by omega)⟩
 have hyc:=ZN (k := .u64) hy
 have hy':y<2^51:=Vh (by decide) (Qn hy)
 have hbit:b/2^(i%8)%2=num 256 k/2^i%2:=by
  rw [←hbv,show (256:Nat)=2^8 from rfl,Tb (Q6 _ (by decide)),Z0]
 have hput:=T2 (w:=51) (m:=5) (q:=i/51) (s:=i%51) (y:=num 256 k/2^i%2) (M:=num 256 k%2^i) (by omega) (Q6 _ (by decide)) (by rw [Z0]; exact Q6 _ (Xa (by decide))) (by
  have h1:=Ut (num 256 k) i
  have h2:(2:Nat)^(i%51)≤2^50:=Zr (by decide) (by have:=Q6 i (by decide:0<51); omega)
  have h3:num 256 k/2^i%2*2^(i%51)≤1*2^50:=JL (by omega) h2
  omega)
 rw [Z0,Ov] at hput
 have hgd:(dig (2^51) 5 (num 256 k%2^i)).getD (i/51) 0=y:=by rw [QB]; unfold ofX at hy; rw [hy]; rfl
 rw [hgd] at hput
 have hset:=Xo .u64 (ofX (num 256 k) i) (i/51) (y|||num 256 k/2^i%2*2^(i%51))
 rw [show (ofX (num 256 k) i).set (i/51) (y|||num 256 k/2^i%2*2^(i%51))=ofX (num 256 k) (i+1) from hput] at hset
 have hbl:=Ut (num 256 k) i
 have h50:(2:Nat)^(i%51)≤2^50:=Zr (by decide) (by have:=Q6 i (by decide:0<51); omega)
 have hprod:num 256 k/2^i%2*2^(i%51)≤1*2^50:=JL (by omega) h50
 have s1:(2:Int)^min (i%8) IntKind.u8.bits=((2^(i%8):Nat):Int):=Bj (J3 (Q6 _ (by decide)))
 have s2:(2:Int)^min (i%51) IntKind.u64.bits=((2^(i%51):Nat):Int):=Bj (by have:=Q6 i (by decide:0<51); exact JP (J3 this) (by decide))
 have o1:Zz .or .u64 (y:Int) ((num 256 k/2^i%2*2^(i%51):Nat):Int)=((y|||num 256 k/2^i%2*2^(i%51):Nat):Int):=KD rfl (by show _<18446744073709551616; omega) (by show _<18446744073709551616; omega)
 have n1:(num 256 k/2^i%2*2^(i%51))%18446744073709551616=num 256 k/2^i%2*2^(i%51):=by omega
 have n2:(num 256 k/2^i%2)%18446744073709551616=num 256 k/2^i%2:=by omega
 have w1:IntKind.i64.wrap ((i/51:Nat):Int)=((i/51:Nat):Int):=Zu (by omega)
 have w2:IntKind.i64.wrap ((i/8:Nat):Int)=((i/8:Nat):Int):=Zu (by omega)
 have w3:IntKind.i64.wrap ((i+1:Nat):Int)=((i+1:Nat):Int):=Zu (by omega)
 have e1:((i:Int)<255)=True:=eq_true (by omega)
 have e2:(((i/51:Nat):Int)<5)=True:=eq_true (by omega)
 have e3:(((i/8:Nat):Int)<32)=True:=eq_true (by omega)
 have e4:(((i%8:Nat):Int)<0)=False:=eq_false (by omega)
 have e5:(((i%51:Nat):Int)<0)=False:=eq_false (by omega)
 have e6:i/51+1≤5:=by omega
 simp only [Ns,C9,Qs,quiet,cF,JG,QR,↓pQ,reduceCtorEq,seval,-Qb,cL,cJ,cU,hbc,hyc,hbit,s1,s2,o1,n1,n2,w1,w2,w3,e1,e2,e3,e4,e5,e6,hset,Q7,hlen]
theorem cQ (lk:k.length=32) (xk:∀ x∈k,x<256):evVal T 72 [.agg (u8s k).toArray]=some (eV (dig (2^51) 5 (num 256 k%2^255))):=by
 have hz:Qa 5 (Value.int .u64 0)=ns .u64 [0,0,0,0,0]:=rfl
 have hb:=Jf (T:=T) (base:=0) (id:=0) (body:=C9) (fun i=>Ns k (ofX (num 256 k) i) i []) (s':=Ns k (ofX (num 256 k) 255) 255 [(6,.bool false)]) 255 (fun i hi=>kD lk xk hi) (by
  simp only [Ns,C9,Qs,quiet,cF,JG,QR,↓pQ,reduceCtorEq,seval,-Qb,cL])
 have h0:ofX (num 256 k) 0=[0,0,0,0,0]:=by unfold ofX; rw [ZQ,OF]; decide
 rw [h0] at hb
 have hlen:(ofX (num 256 k) 255).length=5:=Ze _ _ _
 rw [show dig (2^51) 5 (num 256 k%2^255)=ofX (num 256 k) 255 from rfl]
 generalize ofX (num 256 k) 255=X at *
 simp only [Ns,Qo,Qm,QD] at hb
 apply QC (fn:=a49) rfl
 have hl5:(ns .u64 [0,0,0,0,0]).length=5:=rfl
 simp only [a49,Qs,quiet,cF,JG,QR,↓pQ,reduceCtorEq,seval,-Qb,cL,cJ,hz,hb,Ns,eV,hl5,Q7,hlen]
 rfl
theorem Nt:El (dig (2^51) 5 V) (2^52):=⟨Ze _ _ _,fun x hx=>by have:=Vh (by decide) hx; omega⟩
theorem Rm:v51 (dig (2^51) 5 (V%2^255))=V%2^255:=by
 have h:=XA (B:=2^51) (by decide) 5 (V%2^255)
 rw [show ((2:Nat)^51)^5=2^255 from by rw [←Ja],Kw] at h
 exact h
theorem dm (a b:Nat):∃ r,a=b*(a/b)+r∧a%b=r∧(0<b→r<b):=⟨a%b,(Z0 a b).symm,rfl,fun h=>Q6 _ h⟩
theorem ef (h0:x0<9223372036854775808) (h1:x1<9223372036854775808) (h2:x2<9223372036854775808) (h3:x3<9223372036854775808) (h4:x4<9223372036854775808) :
  ∃ y0 y1 y2 y3 y4 z0 z1 z2 z3 z4,WA x0 x1 x2 x3 x4=[y0,y1,y2,y3,y4]∧y0<9223372036854775808∧y1<9223372036854775808∧y2<9223372036854775808∧y3<9223372036854775808∧y4<9223372036854775808 ∧
   WA y0 y1 y2 y3 y4=[z0,z1,z2,z3,z4]∧z0<2251799813685248+19∧z1<2251799813685248∧z2<2251799813685248∧z3<2251799813685248∧z4<2251799813685248∧(∃ k,v51 [z0,z1,z2,z3,z4]+k*Go.Fp.P=v51 [x0,x1,x2,x3,x4]):=by
 have key:∀ y0 y1 y2 y3 y4:Nat,y0<2251799813685248+19*8192→y1<2251799813685248→y2<2251799813685248→y3<2251799813685248→y4<2251799813685248→WA x0 x1 x2 x3 x4=[y0,y1,y2,y3,y4] →
   ∃ z0 z1 z2 z3 z4,WA y0 y1 y2 y3 y4=[z0,z1,z2,z3,z4]∧z0<2251799813685248+19∧z1<2251799813685248∧z2<2251799813685248∧z3<2251799813685248∧z4<2251799813685248∧(∃ k,v51 [z0,z1,z2,z3,z4]+k*Go.Fp.P=v51 [x0,x1,x2,x3,x4]):=by
  intro y0 y1 y2 y3 y4 b0 b1 b2 b3 b4 hy
  refine ⟨_,_,_,_,_,rfl,?_,Q6 _ (by decide),Q6 _ (by decide),Q6 _ (by decide),Q6 _ (by decide),?_⟩
  ·have c0:y0/2251799813685248≤1:=by omega
   have c1:(y1+y0/2251799813685248)/2251799813685248≤1:=by omega
   have c2:(y2+(y1+y0/2251799813685248)/2251799813685248)/2251799813685248≤1:=by omega
   have c3:(y3+(y2+(y1+y0/2251799813685248)/2251799813685248)/2251799813685248)/2251799813685248≤1:=by omega
   generalize (y3+(y2+(y1+y0/2251799813685248)/2251799813685248)/2251799813685248)/2251799813685248=c at *
   rcases ZF y0 2251799813685248 with h | h
   ·
    have d0:y0/2251799813685248=0:=by omega
    have c4:(y4+c)/2251799813685248≤1:=by omega
    have:=Q6 y0 (by decide:0<2251799813685248)
    omega
   ·have c4:(y4+c)/2251799813685248≤1:=by omega
    have:=Q6 y0 (by decide:0<2251799813685248)
    omega
  ·obtain ⟨k1,e1⟩:=Mh (x0:=y0) (x1:=y1) (x2:=y2) (x3:=y3) (x4:=y4)
   obtain ⟨k2,e2⟩:=Mh (x0:=x0) (x1:=x1) (x2:=x2) (x3:=x3) (x4:=x4)
   rw [hy] at e2
   refine ⟨k1+k2,?_⟩
   rw [QY,←QW,←e2,←e1]
   rfl
 have c0:x0/2251799813685248<8192:=by omega
 have c1:(x1+x0/2251799813685248)/2251799813685248<8192:=by omega
 have c2:(x2+(x1+x0/2251799813685248)/2251799813685248)/2251799813685248<8192:=by omega
 have c3:(x3+(x2+(x1+x0/2251799813685248)/2251799813685248)/2251799813685248)/2251799813685248<8192:=by omega
 have c4:(x4+(x3+(x2+(x1+x0/2251799813685248)/2251799813685248)/2251799813685248)/2251799813685248)/2251799813685248<8192:=by omega
 have m0:=Q6 x0 (by decide:0<2251799813685248)
 have m1:=Q6 (x1+x0/2251799813685248) (by decide:0<2251799813685248)
 have m2:=Q6 (x2+(x1+x0/2251799813685248)/2251799813685248) (by decide:0<2251799813685248)
 have m3:=Q6 (x3+(x2+(x1+x0/2251799813685248)/2251799813685248)/2251799813685248) (by decide:0<2251799813685248)
 have m4:=Q6 (x4+(x3+(x2+(x1+x0/2251799813685248)/2251799813685248)/2251799813685248)/2251799813685248) (by decide:0<2251799813685248)
 obtain ⟨z0,z1,z2,z3,z4,g1,g2⟩:=key _ _ _ _ _ (by
  generalize (x4+(x3+(x2+(x1+x0/2251799813685248)/2251799813685248)/2251799813685248)/2251799813685248)/2251799813685248=c at *
  generalize x0%2251799813685248=r at *
  show r+19*c<_
  omega) m1 m2 m3 m4 rfl
 refine ⟨_,_,_,_,_,z0,z1,z2,z3,z4,rfl,?_,JO m1 (by decide),JO m2 (by decide),JO m3 (by decide),JO m4 (by decide),g1,g2⟩
 generalize (x4+(x3+(x2+(x1+x0/2251799813685248)/2251799813685248)/2251799813685248)/2251799813685248)/2251799813685248=c at *
 generalize x0%2251799813685248=r at *
 show r+19*c<_
 omega
def Ik (z0 z1 z2 z3 z4:Nat):Nat:=(z4+(z3+(z2+(z1+(z0+19)/2251799813685248)/2251799813685248)/2251799813685248)/2251799813685248)/2251799813685248
def dM (z0 z1 z2 z3 z4:Nat):List Nat :=
 let u0:=z0/2251799813685248
 let u1:=(z1+u0)/2251799813685248
 let u2:=(z2+u1)/2251799813685248
 let u3:=(z3+u2)/2251799813685248
 [z0%2251799813685248,(z1+u0)%2251799813685248,(z2+u1)%2251799813685248,(z3+u2)%2251799813685248,(z4+u3)%2251799813685248]
theorem ru {z0 z1 z2 z3 z4:Nat} (h0:z0<2251799813685248+19) (h1:z1<2251799813685248) (h2:z2<2251799813685248) (h3:z3<2251799813685248) (h4:z4<2251799813685248) :
  Ik z0 z1 z2 z3 z4≤1∧dM (z0+19*Ik z0 z1 z2 z3 z4) z1 z2 z3 z4=dig (2^51) 5 (v51 [z0,z1,z2,z3,z4]%Go.Fp.P):=by
 have hc:Ik z0 z1 z2 z3 z4≤1∧((Ik z0 z1 z2 z3 z4=0∧v51 [z0,z1,z2,z3,z4]<Go.Fp.P)∨(Ik z0 z1 z2 z3 z4=1∧Go.Fp.P≤v51 [z0,z1,z2,z3,z4])):=by
  simp only [Ik,v51,num,Go.Fp.GJ]
  obtain ⟨r0,e0,-,l0⟩:=dm (z0+19) 2251799813685248
  generalize (z0+19)/2251799813685248=t0 at *
  obtain ⟨r1,e1,-,l1⟩:=dm (z1+t0) 2251799813685248
  generalize (z1+t0)/2251799813685248=t1 at *
  obtain ⟨r2,e2,-,l2⟩:=dm (z2+t1) 2251799813685248
  generalize (z2+t1)/2251799813685248=t2 at *
  obtain ⟨r3,e3,-,l3⟩:=dm (z3+t2) 2251799813685248
  generalize (z3+t2)/2251799813685248=t3 at *
  obtain ⟨r4,e4,-,l4⟩:=dm (z4+t3) 2251799813685248
  generalize (z4+t3)/2251799813685248=t4 at *
  have l0:=l0 (by decide)
  have l1:=l1 (by decide)
  have l2:=l2 (by decide)
  have l3:=l3 (by decide)
  have l4:=l4 (by decide)
  omega
 have hP:=Go.Fp.GJ
 obtain ⟨hc1,hc2⟩:=hc
 refine ⟨hc1,?_⟩
 generalize Ik z0 z1 z2 z3 z4=c at *
 have hlt:∀ x∈dM (z0+19*c) z1 z2 z3 z4,x<2251799813685248:=by
  intro x hx
  simp only [dM,Jj,JI,or_false] at hx
  rcases hx with h | h | h | h | h<;>(rw [h]; exact Q6 _ (by decide))
 have hnum:num 2251799813685248 (dM (z0+19*c) z1 z2 z3 z4)=v51 [z0,z1,z2,z3,z4]%Go.Fp.P:=by
  have hV:v51 [z0,z1,z2,z3,z4]%Go.Fp.P=v51 [z0,z1,z2,z3,z4]-c*Go.Fp.P:=by
   rcases hc2 with ⟨g1,g2⟩ | ⟨g1,g2⟩
   ·rw [Qv g2,g1]; omega
   ·have g3:v51 [z0,z1,z2,z3,z4]<Go.Fp.P+Go.Fp.P:=by
     simp only [v51,num,Go.Fp.GJ] at *
     omega
    rw [g1,JT,Nat.mod_eq_sub_mod g2,Qv (by omega)]
  rw [hV]
  simp only [dM,v51,num,Go.Fp.GJ] at hc2 ⊢
  obtain ⟨r0,e0,f0,l0⟩:=dm (z0+19*c) 2251799813685248
  rw [f0]
  generalize (z0+19*c)/2251799813685248=t0 at *
  obtain ⟨r1,e1,f1,l1⟩:=dm (z1+t0) 2251799813685248
  rw [f1]
  generalize (z1+t0)/2251799813685248=t1 at *
  obtain ⟨r2,e2,f2,l2⟩:=dm (z2+t1) 2251799813685248
  rw [f2]
  generalize (z2+t1)/2251799813685248=t2 at *
  obtain ⟨r3,e3,f3,l3⟩:=dm (z3+t2) 2251799813685248
  rw [f3]
  generalize (z3+t2)/2251799813685248=t3 at *
  obtain ⟨r4,e4,f4,l4⟩:=dm (z4+t3) 2251799813685248
  rw [f4]
  generalize (z4+t3)/2251799813685248=t4 at *
  have l0:=l0 (by decide)
  have l1:=l1 (by decide)
  have l2:=l2 (by decide)
  have l3:=l3 (by decide)
  have l4:=l4 (by decide)
  rcases hc2 with ⟨g1,g2⟩ | ⟨g1,g2⟩<;>subst g1<;>omega
 have h5:=YW (B:=2251799813685248) (by decide) hlt
 rw [hnum] at h5
 exact h5.symm
def byX (V i:Nat):List Nat:=dig (2^8) 32 (V%2^i)
def IU (x k:List Nat) (R:Ob) (i:Nat) (ex:Env):St:=⟨[(1,.pointer (some ⟨0,0,none⟩)),(2,.pointer (some ⟨1,0,none⟩)),(6,.pointer (some ⟨2,0,none⟩)),(54,.int .i64 i)]++ex,[⟨ns .u64 x,true,true,true,1⟩,R,⟨u8s k,true,true,true,1⟩],[]⟩
theorem nJ (hi:i<255) :
  Q5 T 0 R3 (IU (dig (2^51) 5 V) (byX V i) R i [])=some (.normal,IU (dig (2^51) 5 V) (byX V (i+1)) R (i+1) []):=by
 obtain ⟨b,hb⟩:∃ b,(dig (2^51) 5 V)[i/51]?=some b:=⟨_,Qe (by rw [Ze]; omega)⟩
 have hbv:V/(2^51)^(i/51)%2^51=b:=by rw [XL (by omega)] at hb; exact XH hb
 have hbc:=ZN (k := .u64) hb
 have hlen:(byX V i).length=32:=Ze _ _ _
 obtain ⟨y,hy⟩:∃ b,(byX V i)[i/8]?=some b:=⟨_,Qe (by omega)⟩
 have hyc:=Jk hy
 have hy':y<2^8:=Vh (by decide) (Qn hy)
 have hbit:b/2^(i%51)%2=V/2^i%2:=by
  rw [←hbv,Tb (Q6 _ (by decide)),Z0]
 have hsm:(2:Nat)^(i%8)≤2^7:=Zr (by decide) (by have:=Q6 i (by decide:0<8); omega)
 have hbl:=Ut V i
 have hprod:V/2^i%2*2^(i%8)≤1*2^7:=JL (by omega) hsm
 have hput:=T2 (w:=8) (m:=32) (q:=i/8) (s:=i%8) (y:=V/2^i%2) (M:=V%2^i) (by omega) (Q6 _ (by decide)) (by rw [Z0]; exact Q6 _ (Xa (by decide))) (by omega)
 rw [Z0,Ov] at hput
 have hgd:(dig (2^8) 32 (V%2^i)).getD (i/8) 0=y:=by rw [QB]; unfold byX at hy; rw [hy]; rfl
 rw [hgd] at hput
 have hset:=Xg (byX V i) (i/8) (y|||V/2^i%2*2^(i%8))
 rw [show (byX V i).set (i/8) (y|||V/2^i%2*2^(i%8))=byX V (i+1) from hput] at hset
 have s1:(2:Int)^min (i%8) IntKind.u8.bits=((2^(i%8):Nat):Int):=Bj (J3 (Q6 _ (by decide)))
 have s2:(2:Int)^min (i%51) IntKind.u64.bits=((2^(i%51):Nat):Int):=Bj (by have:=Q6 i (by decide:0<51); exact JP (J3 this) (by decide))
 have o1:Zz .or .u8 (y:Int) ((V/2^i%2*2^(i%8):Nat):Int)=((y|||V/2^i%2*2^(i%8):Nat):Int):=KD rfl (by show _<256; omega) (by show _<256; omega)
 have n1:(V/2^i%2*2^(i%8))%256=V/2^i%2*2^(i%8):=by omega
 have n2:(V/2^i%2)%256=V/2^i%2:=by omega
 have w1:IntKind.i64.wrap ((i/51:Nat):Int)=((i/51:Nat):Int):=Zu (by omega)
 have w2:IntKind.i64.wrap ((i/8:Nat):Int)=((i/8:Nat):Int):=Zu (by omega)
 have w3:IntKind.i64.wrap ((i+1:Nat):Int)=((i+1:Nat):Int):=Zu (by omega)
 have e1:((i:Int)<255)=True:=eq_true (by omega)
 have e2:(((i/51:Nat):Int)<5)=True:=eq_true (by omega)
 have e3:(((i/8:Nat):Int)<32)=True:=eq_true (by omega)
 have e4:(((i%8:Nat):Int)<0)=False:=eq_false (by omega)
 have e5:(((i%51:Nat):Int)<0)=False:=eq_false (by omega)
 have e6:i/8+1≤32:=by omega
 simp only [IU,R3,Qs,quiet,cF,JG,QR,↓pQ,reduceCtorEq,seval,-Qb,cL,cJ,cU,hbc,hyc,hbit,s1,s2,o1,n1,n2,w1,w2,w3,e1,e2,e3,e4,e5,e6,hset,Qq,hlen]
theorem eh (hV:V<2^255):Q5 T 0 (.block 4 (.loop R3)) (IU (dig (2^51) 5 V) (dig 256 32 0) R 0 [])=some (.normal,IU (dig (2^51) 5 V) (dig 256 32 V) R 255 [(55,.bool false)]):=by
 have hb:=Jf (T:=T) (base:=0) (id:=4) (body:=R3) (fun i=>IU (dig (2^51) 5 V) (byX V i) R i []) (s':=IU (dig (2^51) 5 V) (byX V 255) R 255 [(55,.bool false)]) 255 (fun i hi=>nJ hi) (by
  simp only [IU,R3,Qs,quiet,cF,JG,QR,↓pQ,reduceCtorEq,seval,-Qb,cL])
 rw [show byX V 0=dig 256 32 0 from by unfold byX; rw [ZQ,OF],show byX V 255=dig 256 32 V from by unfold byX; rw [Qv hV]] at hb
 exact hb
theorem eg (h0:x0<9223372036854775808) (h1:x1<9223372036854775808) (h2:x2<9223372036854775808) (h3:x3<9223372036854775808) (h4:x4<9223372036854775808) :
  evVal T 78 [eV [x0,x1,x2,x3,x4]]=some (.agg (u8s (dig 256 32 (v51 [x0,x1,x2,x3,x4]%Go.Fp.P))).toArray):=by
 obtain ⟨y0,y1,y2,y3,y4,z0,z1,z2,z3,z4,hy,a0,a1,a2,a3,a4,hz,b0,b1,b2,b3,b4,⟨kk,hk⟩⟩:=ef h0 h1 h2 h3 h4
 have hV:v51 [x0,x1,x2,x3,x4]%Go.Fp.P=v51 [z0,z1,z2,z3,z4]%Go.Fp.P:=by rw [←hk,KA]
 obtain ⟨hc,hfin⟩:=ru b0 b1 b2 b3 b4
 have c1:=UU h0 h1 h2 h3 h4
 have c2:=UU a0 a1 a2 a3 a4
 rw [hy] at c1
 rw [hz] at c2
 have hN:v51 [z0,z1,z2,z3,z4]%Go.Fp.P<2^255:=JO (Q6 _ (by decide)) (by rw [Go.Fp.GJ]; decide)
 have hb:=eh (R:=⟨u8s (dig 256 32 0),true,true,true,1⟩) hN
 rw [hV]
 generalize v51 [z0,z1,z2,z3,z4]%Go.Fp.P=N at *
 have hz5:Qa 5 (Value.int .u64 0)=[.int .u64 0,.int .u64 0,.int .u64 0,.int .u64 0,.int .u64 0]:=rfl
 have hz32:Qa 32 (Value.int .u8 0)=u8s (dig 256 32 0):=rfl
 have hr5:∀ a b c d e:Int,rf (.agg [.int .u64 a,.int .u64 b,.int .u64 c,.int .u64 d,.int .u64 e].toArray)=true:=fun _ _ _ _ _=>rfl
 have hlk:(dig 256 32 N).length=32:=Ze _ _ _
 have hl0:(dig 256 32 0).length=32:=rfl
 have f0:(z0+19)%18446744073709551616=z0+19:=by omega
 have f1:(z1+(z0+19)/2251799813685248)%18446744073709551616=z1+(z0+19)/2251799813685248:=by omega
 have f2:(z2+(z1+(z0+19)/2251799813685248)/2251799813685248)%18446744073709551616=z2+(z1+(z0+19)/2251799813685248)/2251799813685248:=by
  generalize (z1+(z0+19)/2251799813685248)=t at *; omega
 have f3:(z3+(z2+(z1+(z0+19)/2251799813685248)/2251799813685248)/2251799813685248)%18446744073709551616=z3+(z2+(z1+(z0+19)/2251799813685248)/2251799813685248)/2251799813685248:=by
  have:(z2+(z1+(z0+19)/2251799813685248)/2251799813685248)/2251799813685248<2251799813685248:=by omega
  generalize (z2+(z1+(z0+19)/2251799813685248)/2251799813685248)/2251799813685248=t at *; omega
 have f4:(z4+(z3+(z2+(z1+(z0+19)/2251799813685248)/2251799813685248)/2251799813685248)/2251799813685248)%18446744073709551616=z4+(z3+(z2+(z1+(z0+19)/2251799813685248)/2251799813685248)/2251799813685248)/2251799813685248:=by
  have:(z2+(z1+(z0+19)/2251799813685248)/2251799813685248)/2251799813685248<2251799813685248:=by omega
  generalize (z2+(z1+(z0+19)/2251799813685248)/2251799813685248)/2251799813685248=t at *; omega
 have ft:(z4+(z3+(z2+(z1+(z0+19)/2251799813685248)/2251799813685248)/2251799813685248)/2251799813685248)/2251799813685248=Ik z0 z1 z2 z3 z4:=rfl
 generalize Ik z0 z1 z2 z3 z4=c at *
 have g0:19*c%18446744073709551616=19*c:=by omega
 have g1:(z0+19*c)%18446744073709551616=z0+19*c:=by omega
 have g2:(z0+19*c+0)%18446744073709551616=z0+19*c:=by omega
 have k0:(z0+19*c)/2251799813685248<8:=by omega
 have g3:(z1+(z0+19*c)/2251799813685248)%18446744073709551616=z1+(z0+19*c)/2251799813685248:=by omega
 have k1:(z1+(z0+19*c)/2251799813685248)/2251799813685248<8:=by omega
 have g4:(z2+(z1+(z0+19*c)/2251799813685248)/2251799813685248)%18446744073709551616=z2+(z1+(z0+19*c)/2251799813685248)/2251799813685248:=by
  generalize (z1+(z0+19*c)/2251799813685248)/2251799813685248=t at *; omega
 have k2:(z2+(z1+(z0+19*c)/2251799813685248)/2251799813685248)/2251799813685248<8:=by
  generalize (z1+(z0+19*c)/2251799813685248)/2251799813685248=t at *; omega
 have g5:(z3+(z2+(z1+(z0+19*c)/2251799813685248)/2251799813685248)/2251799813685248)%18446744073709551616=z3+(z2+(z1+(z0+19*c)/2251799813685248)/2251799813685248)/2251799813685248:=by
  generalize (z2+(z1+(z0+19*c)/2251799813685248)/2251799813685248)/2251799813685248=t at *; omega
 have k3:(z3+(z2+(z1+(z0+19*c)/2251799813685248)/2251799813685248)/2251799813685248)/2251799813685248<8:=by
  generalize (z2+(z1+(z0+19*c)/2251799813685248)/2251799813685248)/2251799813685248=t at *; omega
 have g6:(z4+(z3+(z2+(z1+(z0+19*c)/2251799813685248)/2251799813685248)/2251799813685248)/2251799813685248)%18446744073709551616=z4+(z3+(z2+(z1+(z0+19*c)/2251799813685248)/2251799813685248)/2251799813685248)/2251799813685248:=by
  generalize (z3+(z2+(z1+(z0+19*c)/2251799813685248)/2251799813685248)/2251799813685248)/2251799813685248=t at *; omega
 rw [←hfin] at hb
 simp only [eV,Y3,Gl] at c1 c2 ⊢
 simp only [IU,dM,Y3,Gl,Qo,Qm,QD] at hb
 apply QC (fn:=a57) rfl
 have u0:=fun s=>@Jx T 0 C7 s
 have u1:=fun s=>@Jx T 0 C8 s
 have v0:=fun s=>@Jl T 0 0 (.loop C7) s
 have v1:=fun s=>@Jl T 0 2 (.loop C8) s
 have d0:∀ s,Q5 T 0 C7 s=Q5 T 0 _ s:=fun s=>congrArg (fun c=>Q5 T 0 c s) C7.eq_1
 have d1:∀ s,Q5 T 0 C8 s=Q5 T 0 _ s:=fun s=>congrArg (fun c=>Q5 T 0 c s) C8.eq_1
 simp only [a57,Qs,quiet,cF,JG,QR,↓pQ,reduceCtorEq,seval,-Qb,cL,cJ,cU,hz5,hz32,c1,c2,hr5,u0,u1,v0,v1,d0,d1,f0,f1,f2,f3,f4,ft,g0,g1,g2,g3,g4,g5,g6,hb,Qq,hlk,hl0]
 rfl
theorem key_inj (ha:a<256^32) (hb:b<256^32):(dig 256 32 a==dig 256 32 b)=decide (a=b):=by
 by_cases h:a=b
 ·subst h; simp
 ·have:¬ dig 256 32 a=dig 256 32 b:=fun he=>h (by
   have h1:=congrArg (num 256) he
   rwa [XA (by decide),XA (by decide),Qv ha,Qv hb] at h1)
  rw [decide_eq_false h,beq_eq_false_iff_ne.2 this]
theorem P_lt:Go.Fp.P<256^32:=by rw [Go.Fp.GJ]; decide
theorem vy (l:List Nat):(fe l).val=v51 l%Go.Fp.P:=rfl
theorem Bu {l:List Nat} (h:El l (2^52)):evVal T 78 [eV l]=some (.agg (u8s (dig 256 32 (fe l).val)).toArray):=by
 obtain ⟨x0,x1,x2,x3,x4,rfl,a0,a1,a2,a3,a4⟩:=h.five
 exact eg (by omega) (by omega) (by omega) (by omega) (by omega)
theorem tz (a:Go.Fp.Fe):a.val<256^32:=JO a.isLt P_lt
theorem mW (a b:Go.Fp.Fe):(dig 256 32 a.val==dig 256 32 b.val)=decide (a=b):=by
 rw [key_inj (tz a) (tz b)]
 by_cases h:a=b
 ·subst h; simp
 ·have:¬ a.val=b.val:=fun he=>h (Fin.ext he)
  rw [decide_eq_false h,decide_eq_false this]
theorem Qy (l:List Nat):(eV l).cells.toList=ns .u64 l:=rfl
theorem Q8 (l:List Nat):(eV l).cells.size=l.length:=Q7 _ _
theorem Zj (l:List Nat):okVar (eV l)=true:=rfl
theorem Q9 (l:List Nat):Value.agg (ns .u64 l).toArray=eV l:=rfl
theorem rI {x y:List Nat} (hx:El x (2^52)) (hy:El y (2^52)):evVal T 146 [eV x,eV y]=some (.bool (decide (fe x=fe y))):=by
 have h1:=Bu hx
 have h2:=Bu hy
 have l1:=hx.len
 have l2:=hy.len
 apply QC (fn:=a55) rfl
 simp only [a55,Qs,quiet,cF,JG,QR,↓pQ,reduceCtorEq,seval,-Qb,cL,cJ,Qy,Q8,Zj,Q9,Q7,l1,l2,h1,h2,Vz,Ze,mW,Za]
 rfl
theorem mf {x:List Nat} (hx:El x (2^52)):evVal T 92 [eV x]=some (.bool (decide (fe x=0))):=by
 have h1:=Bu hx
 have l1:=hx.len
 have f0:fillL (Qa 32 (Value.int .u8 0)) []=some (u8s (dig 256 32 (0:Go.Fp.Fe).val)):=rfl
 apply QC (fn:=a63) rfl
 simp only [a63,Qs,quiet,cF,JG,QR,↓pQ,reduceCtorEq,seval,-Qb,cL,cJ,Qy,Q8,Zj,Q9,Q7,l1,h1,f0,Vz,Ze,mW,Za]
 rfl
theorem kF {x:List Nat} (hx:El x (2^52)):evVal T 103 [eV x]=some (.bool (decide ((fe x).val%2=1))):=by
 have h1:=Bu hx
 have l1:=hx.len
 have h0:(u8s (dig 256 32 (fe x).val))[0]?=some (.int .u8 (((fe x).val%256:Nat):Int)):=by
  apply Jk
  rw [XL (by decide),ZQ,Jy]
 have hm:(fe x).val%256%2=(fe x).val%2:=by omega
 have hd:((((fe x).val%2:Nat):Int)==1)=decide ((fe x).val%2=1):=by
  by_cases h:(fe x).val%2=1
  ·rw [h]; rfl
  ·have:¬ ((((fe x).val%2:Nat):Int)=1):=by omega
   rw [decide_eq_false h,beq_eq_false_iff_ne.2 this]
 apply QC (fn:=a58) rfl
 simp only [a58,Qs,quiet,cF,JG,QR,↓pQ,reduceCtorEq,seval,-Qb,cL,cJ,cU,Qy,Q8,Zj,Q9,Q7,l1,h1,h0,hm,hd,Qq,Ze,Za]
 rfl
theorem Om (lk:k.length=32) (xk:∀ x∈k,x<256):evVal T 87 [.agg (u8s k).toArray]=some (.bool (decide (num 256 k<Go.Fp.P))):=by
 have h0:=cQ lk xk
 have hel:=Nt (V:=num 256 k%2^255)
 have h1:=Bu hel
 rw [vy,Rm] at h1
 have hb:(dig 256 32 (num 256 k%2^255%Go.Fp.P)==k)=decide (num 256 k<Go.Fp.P):=by
  have hk:=YW (B:=256) (by decide) xk
  rw [lk] at hk
  have hkl:=num_lt xk
  rw [lk] at hkl
  rw [show (dig 256 32 (num 256 k%2^255%Go.Fp.P)==k)=(dig 256 32 (num 256 k%2^255%Go.Fp.P)==dig 256 32 (num 256 k)) from by rw [hk]]
  have hP:=Go.Fp.GJ
  rw [key_inj (JO (Q6 _ (by rw [hP]; decide)) P_lt) hkl]
  by_cases h:num 256 k<Go.Fp.P
  ·rw [decide_eq_true h,Qv (a:=num 256 k) (by rw [hP] at h; omega),Qv h]; simp
  ·rw [decide_eq_false h,decide_eq_false]
   have:=Q6 (num 256 k%2^255) (show 0<Go.Fp.P by rw [hP]; decide)
   omega
 apply QC (fn:=a59) rfl
 simp only [a59,Qs,quiet,cF,JG,QR,↓pQ,reduceCtorEq,seval,-Qb,cL,cJ,Qy,Q8,Zj,Q9,Q7,Qq,lk,h0,h1,Vz,Ze,hb,Za]
 rfl
theorem bj (h0:x0<2^60) (h1:x1<2^60) (h2:x2<2^60) (h3:x3<2^60) (h4:x4<2^60):El (WA x0 x1 x2 x3 x4) (2^52):=by
 simp only [WA]
 have c0:x0/2251799813685248<1024:=by omega
 have c1:(x1+x0/2251799813685248)/2251799813685248<1024:=by omega
 have c2:(x2+(x1+x0/2251799813685248)/2251799813685248)/2251799813685248<1024:=by omega
 have c3:(x3+(x2+(x1+x0/2251799813685248)/2251799813685248)/2251799813685248)/2251799813685248<1024:=by omega
 have c4:(x4+(x3+(x2+(x1+x0/2251799813685248)/2251799813685248)/2251799813685248)/2251799813685248)/2251799813685248<1024:=by omega
 have m0:=Q6 x0 (by decide:0<2251799813685248)
 apply El.mk5
 ·generalize (x4+(x3+(x2+(x1+x0/2251799813685248)/2251799813685248)/2251799813685248)/2251799813685248)/2251799813685248=c at *
  omega
 all_goals exact JO (Q6 _ (by decide)) (by decide)
theorem bh:fe (WA x0 x1 x2 x3 x4)=fe [x0,x1,x2,x3,x4]:=by
 obtain ⟨k,hk⟩:=Mh (x0:=x0) (x1:=x1) (x2:=x2) (x3:=x3) (x4:=x4)
 exact tv hk
theorem Bz {x y:List Nat} (hx:El x (2^52)) (hy:El y (2^52)):∃ r,evVal T 89 [eV x,eV y]=some (eV r)∧El r (2^52)∧fe r=fe x-fe y:=by
 obtain ⟨x0,x1,x2,x3,x4,rfl,a0,a1,a2,a3,a4⟩:=hx.five
 obtain ⟨y0,y1,y2,y3,y4,rfl,b0,b1,b2,b3,b4⟩:=hy.five
 refine ⟨WA (x0+(9007199254740988-y0)-72) (x1+(9007199254740988-y1)) (x2+(9007199254740988-y2)) (x3+(9007199254740988-y3)) (x4+(9007199254740988-y4)),?_,bj (by omega) (by omega) (by omega) (by omega) (by omega),?_⟩
 ·have s0:(9007199254740988+(18446744073709551616-y0%18446744073709551616))%18446744073709551616=9007199254740988-y0:=by omega
  have s1:(9007199254740988+(18446744073709551616-y1%18446744073709551616))%18446744073709551616=9007199254740988-y1:=by omega
  have s2:(9007199254740988+(18446744073709551616-y2%18446744073709551616))%18446744073709551616=9007199254740988-y2:=by omega
  have s3:(9007199254740988+(18446744073709551616-y3%18446744073709551616))%18446744073709551616=9007199254740988-y3:=by omega
  have s4:(9007199254740988+(18446744073709551616-y4%18446744073709551616))%18446744073709551616=9007199254740988-y4:=by omega
  have t0:(x0+(9007199254740988-y0))%18446744073709551616=x0+(9007199254740988-y0):=by omega
  have t1:(x1+(9007199254740988-y1))%18446744073709551616=x1+(9007199254740988-y1):=by omega
  have t2:(x2+(9007199254740988-y2))%18446744073709551616=x2+(9007199254740988-y2):=by omega
  have t3:(x3+(9007199254740988-y3))%18446744073709551616=x3+(9007199254740988-y3):=by omega
  have t4:(x4+(9007199254740988-y4))%18446744073709551616=x4+(9007199254740988-y4):=by omega
  have r0:(x0+(9007199254740988-y0)+18446744073709551544)%18446744073709551616=x0+(9007199254740988-y0)-72:=by omega
  have c1:=UU (x0:=x0+(9007199254740988-y0)-72) (x1:=x1+(9007199254740988-y1)) (x2:=x2+(9007199254740988-y2)) (x3:=x3+(9007199254740988-y3)) (x4:=x4+(9007199254740988-y4)) (by omega) (by omega) (by omega) (by omega) (by omega)
  have hl:(WA (x0+(9007199254740988-y0)-72) (x1+(9007199254740988-y1)) (x2+(9007199254740988-y2)) (x3+(9007199254740988-y3)) (x4+(9007199254740988-y4))).length=5:=rfl
  generalize WA (x0+(9007199254740988-y0)-72) (x1+(9007199254740988-y1)) (x2+(9007199254740988-y2)) (x3+(9007199254740988-y3)) (x4+(9007199254740988-y4))=C at *
  have hz5:Qa 5 (Value.int .u64 0)=[.int .u64 0,.int .u64 0,.int .u64 0,.int .u64 0,.int .u64 0]:=rfl
  have hr5:∀ a b c d e:Int,rf (.agg [.int .u64 a,.int .u64 b,.int .u64 c,.int .u64 d,.int .u64 e].toArray)=true:=fun _ _ _ _ _=>rfl
  have u0:=fun s=>@Jx T 0 C6 s
  have v0:=fun s=>@Jl T 0 0 (.loop C6) s
  have d0:∀ s,Q5 T 0 C6 s=Q5 T 0 _ s:=fun s=>congrArg (fun c=>Q5 T 0 c s) C6.eq_1
  have hrC:rf (.agg (ns .u64 C).toArray)=true:=al _ _
  simp only [eV,Y3,Gl] at c1 ⊢
  apply QC (fn:=a61) rfl
  simp only [a61,Qs,quiet,cF,JG,QR,↓pQ,reduceCtorEq,seval,-Qb,cL,cJ,cU,hz5,c1,hr5,u0,v0,d0,s0,s1,s2,s3,s4,t0,t1,t2,t3,t4,r0,Q7,hl,hrC]
  rfl
 ·rw [bh]
  have e:v51 [x0+(9007199254740988-y0)-72,x1+(9007199254740988-y1),x2+(9007199254740988-y2),x3+(9007199254740988-y3),x4+(9007199254740988-y4)]+v51 [y0,y1,y2,y3,y4]=v51 [x0,x1,x2,x3,x4]+4*Go.Fp.P:=by
   simp only [v51,num,Go.Fp.GJ]
   omega
  have h:=congrArg Go.Fp.fp e
  rw [Go.Fp.Vg,Go.Fp.Vg,Go.Fp.aY] at h
  unfold fe
  grobner
theorem Fw {x:List Nat} (hx:El x (2^52)):∃ r,evVal T 93 [eV x]=some (eV r)∧El r (2^52)∧fe r = -fe x:=by
 have hz:=U6 (n:=0) (by decide)
 obtain ⟨r,h1,h2,h3⟩:=Bz hz hx
 refine ⟨r,?_,h2,?_⟩
 ·have f0:fillL (ns .u64 [0,0,0,0,0]) []=some (ns .u64 [0,0,0,0,0]):=rfl
  have hz5:Qa 5 (Value.int .u64 0)=ns .u64 [0,0,0,0,0]:=rfl
  have l1:=hx.len
  have l2:=h2.len
  have l0:(ns .u64 [0,0,0,0,0]).length=5:=rfl
  apply QC (fn:=a64) rfl
  simp only [a64,Qs,quiet,cF,JG,QR,↓pQ,reduceCtorEq,seval,-Qb,cL,cJ,f0,hz5,h1,Qy,Q8,Zj,Q9,Q7,l0,l1,l2,Za]
  rfl
 ·rw [h3,U5,Go.Fp.aX]; grobner
def OR (x y:List Nat):Ob:=⟨ns .u64 (x++y),true,true,true,1⟩
set_option maxHeartbeats 2000000 in
theorem VS {H:List Ob} {id:Nat} {x y:List Nat} (hx:El x (2^52)) (hy:El y (2^52)) (h:H[id]?=some (OR x y)):∃ r s,Z6 T 90 [.slice (some ⟨id,0,none⟩) 2 2] H=some (eV r,H++[⟨ns .u64 r,true,true,true,1⟩,⟨ns .u64 s,true,true,true,1⟩,⟨ns .u64 x,true,true,true,1⟩,⟨ns .u64 y,true,true,true,1⟩],[])∧El r (2^52)∧fe r=fe x+fe y:=by
 have hid:id<H.length:=(Qg.1 h).1
 have hA:∀ l,(H++l)[id]?=some (OR x y):=fun l=>by rw [Qc hid]; exact h
 obtain ⟨x0,x1,x2,x3,x4,rfl,a0,a1,a2,a3,a4⟩:=hx.five
 obtain ⟨y0,y1,y2,y3,y4,rfl,b0,b1,b2,b3,b4⟩:=hy.five
 refine ⟨WA (x0+y0) (x1+y1) (x2+y2) (x3+y3) (x4+y4),[x0+y0,x1+y1,x2+y2,x3+y3,x4+y4],?_,bj (by omega) (by omega) (by omega) (by omega) (by omega),?_⟩
 ·have s0:(0+x0)%18446744073709551616=x0:=by omega
  have s1:(0+x1)%18446744073709551616=x1:=by omega
  have s2:(0+x2)%18446744073709551616=x2:=by omega
  have s3:(0+x3)%18446744073709551616=x3:=by omega
  have s4:(0+x4)%18446744073709551616=x4:=by omega
  have q0:x0%18446744073709551616=x0:=by omega
  have q1:x1%18446744073709551616=x1:=by omega
  have q2:x2%18446744073709551616=x2:=by omega
  have q3:x3%18446744073709551616=x3:=by omega
  have q4:x4%18446744073709551616=x4:=by omega
  have t0:(x0+y0)%18446744073709551616=x0+y0:=by omega
  have t1:(x1+y1)%18446744073709551616=x1+y1:=by omega
  have t2:(x2+y2)%18446744073709551616=x2+y2:=by omega
  have t3:(x3+y3)%18446744073709551616=x3+y3:=by omega
  have t4:(x4+y4)%18446744073709551616=x4+y4:=by omega
  have c1:=UU (x0:=x0+y0) (x1:=x1+y1) (x2:=x2+y2) (x3:=x3+y3) (x4:=x4+y4) (by omega) (by omega) (by omega) (by omega) (by omega)
  have hl:(WA (x0+y0) (x1+y1) (x2+y2) (x3+y3) (x4+y4)).length=5:=rfl
  generalize WA (x0+y0) (x1+y1) (x2+y2) (x3+y3) (x4+y4)=C at *
  have hz5:Qa 5 (Value.int .u64 0)=[.int .u64 0,.int .u64 0,.int .u64 0,.int .u64 0,.int .u64 0]:=rfl
  have hr5:∀ a b c d e:Int,rf (.agg [.int .u64 a,.int .u64 b,.int .u64 c,.int .u64 d,.int .u64 e].toArray)=true:=fun _ _ _ _ _=>rfl
  have u0:=fun s=>@Jx T H.length C5 s
  have v0:=fun s=>@Jl T H.length 2 (.loop C5) s
  have d0:∀ s,Q5 T H.length C5 s=Q5 T H.length _ s:=fun s=>congrArg (fun c=>Q5 T H.length c s) C5.eq_1
  have u1:=fun s=>@Jx T H.length C4 s
  have v1:=fun s=>@Jl T H.length 0 (.loop C4) s
  have d1:∀ s,Q5 T H.length C4 s=Q5 T H.length _ s:=fun s=>congrArg (fun c=>Q5 T H.length c s) C4.eq_1
  have hrC:rf (.agg (ns .u64 C).toArray)=true:=al _ _
  have p1:∀ a b c d e f g i j k:Value,Zf 5 (Jo 0 [a,b,c,d,e,f,g,i,j,k])=[a,b,c,d,e]:=fun _ _ _ _ _ _ _ _ _ _=>rfl
  have p2:∀ a b c d e f g i j k:Value,Zf 5 (Jo 5 [a,b,c,d,e,f,g,i,j,k])=[f,g,i,j,k]:=fun _ _ _ _ _ _ _ _ _ _=>rfl
  simp only [eV,Y3,Gl] at c1 ⊢
  simp only [OR,Qo,Qm,Y3,Gl] at hA h
  rw [Zg (fn:=a62) rfl]
  simp only [a62,Int.reduceBEq,Int.reduceBNe,Qs,quiet,cF,JG,QR,↓pQ,reduceCtorEq,seval,-Qb,cL,cJ,cU,h,hA,hz5,c1,hr5,u0,v0,d0,u1,v1,d1,p1,p2,s0,s1,s2,s3,s4,q0,q1,q2,q3,q4,t0,t1,t2,t3,t4,Q7,hl,hrC]
 ·rw [bh]
  have e:v51 [x0+y0,x1+y1,x2+y2,x3+y3,x4+y4]=v51 [x0,x1,x2,x3,x4]+v51 [y0,y1,y2,y3,y4]:=by
   simp only [v51,num]
   omega
  unfold fe
  rw [e,Go.Fp.Vg]
end
section
attribute [local congr] JD JU JC JV Jv
variable {n i id less:Nat} {x o k:List Nat} {H:List Ob}
theorem part5 {a b c:List Nat} (hb:b.length=5) (ha:a.length=n):Zf 5 (Jo n (ns .u64 (a++(b++c))))=ns .u64 b:=by
 simp only [GZ]
 rw [ZX (by rw [Q7]; omega),Zw (by rw [Q7]; omega),Qm,ZO (by rw [Q7]; omega),Ql (by rw [Q7]; omega)]
theorem bY {l:List Ob} {r R:List Nat} {cs:List Value} {g:List Ob} (hi:i<n) (hn:n<100) (hx:El x (2^52)) (ho:El o (2^52)) (hm:evVal T 76 [eV o,eV x]=some (eV r)) (hr:El r (2^52))
 (hA:∀ l,(H++l)[id]?=some ⟨cs,true,true,true,1⟩) (hcs:(cs.drop (i*5)).take 5=ns .u64 x) (hlen:i*5+5≤cs.length) :
    Q5 T H.length Cs ⟨[(2,.pointer (some ⟨H.length,0,none⟩)),(3,.pointer (some ⟨H.length+1,0,none⟩)),(7,.slice (some ⟨id,0,none⟩) n n),(8,.int .i64 n),(9,.int .i64 i)],H++(⟨ns .u64 R,true,true,true,1⟩::⟨ns .u64 o,true,true,true,1⟩::g),[]⟩ =
      some (.normal,⟨[(2,.pointer (some ⟨H.length,0,none⟩)),(3,.pointer (some ⟨H.length+1,0,none⟩)),(7,.slice (some ⟨id,0,none⟩) n n),(8,.int .i64 n),(9,.int .i64 ((i+1:Nat):Int))],H++(⟨ns .u64 R,true,true,true,1⟩::⟨ns .u64 r,true,true,true,1⟩::(g++[⟨ns .u64 x,true,true,true,1⟩])),[]⟩):=by
  have hz5:Qa 5 (Value.int .u64 0)=ns .u64 [0,0,0,0,0]:=rfl
  have l0:(ns .u64 [0,0,0,0,0]).length=5:=rfl
  have l1:=hx.len
  have l2:=ho.len
  have l3:=hr.len
  have e1:((i:Int)<(n:Int))=True:=eq_true (by omega)
  have w3:IntKind.i64.wrap ((i:Int)+1)=((i+1:Nat):Int):=Zu (n:=i+1) (by omega)
  simp only [Cs,Qs,quiet,cF,JG,QR,↓pQ,reduceCtorEq,seval,-Qb,cL,cJ,QW,hz5,hA,hcs,hlen,hm,Qy,Q8,Zj,Q9,Q7,l0,l1,l2,l3,Za,e1,w3]
theorem D0:fe [1,0,0,0,0]=1:=by rw [U5]; rfl
theorem D1:El [1,0,0,0,0] (2^52):=U6 (by decide)
theorem WS {xs:List (List Nat)} (hn:xs.length=n) (hN:n<100) (hx:∀ x∈xs,El x (2^52)) (h:H[id]?=some ⟨ns .u64 xs.flatten,true,true,true,1⟩) :
  ∃ r,Z6 T 126 [.slice (some ⟨id,0,none⟩) n n] H=some (eV r,H++(⟨ns .u64 r,true,true,true,1⟩::⟨ns .u64 r,true,true,true,1⟩::xs.map fun x=>(⟨ns .u64 x,true,true,true,1⟩:Ob)),[])∧El r (2^52)∧fe r=(xs.map fe).foldl (· * ·) 1:=by
 have hid:id<H.length:=(Qg.1 h).1
 have hA:∀ l,(H++l)[id]?=some ⟨ns .u64 xs.flatten,true,true,true,1⟩:=fun l=>by rw [Qc hid]; exact h
 have hfl:∀ (ys:List (List Nat)),(∀ x∈ys,El x (2^52))→ys.flatten.length=ys.length*5:=by
  intro ys hy
  induction ys with
  | nil=>rfl
  | cons y ys ih =>
   rw [QL,Qj,ih (fun x hx=>hy x (by simp [hx])),(hy y (by simp)).len,Zo]; omega
 obtain ⟨st,hb,r,rfl,hr1,hr2⟩:=Zm (T:=T) (base:=H.length) (id:=0) (body:=Cs)
  (fun i st=>∃ r:List Nat,st=⟨[(2,.pointer (some ⟨H.length,0,none⟩)),(3,.pointer (some ⟨H.length+1,0,none⟩)),(7,.slice (some ⟨id,0,none⟩) n n),(8,.int .i64 n),(9,.int .i64 (i:Nat))],H++(⟨ns .u64 [0,0,0,0,0],true,true,true,1⟩::⟨ns .u64 r,true,true,true,1⟩::((xs.take i).map fun x=>(⟨ns .u64 x,true,true,true,1⟩:Ob))),[]⟩∧El r (2^52)∧fe r=((xs.take i).map fe).foldl (· * ·) 1)
  (Q:=fun st=>∃ r:List Nat,st=⟨[(2,.pointer (some ⟨H.length,0,none⟩)),(3,.pointer (some ⟨H.length+1,0,none⟩)),(7,.slice (some ⟨id,0,none⟩) n n),(8,.int .i64 n),(9,.int .i64 n),(10,.bool false)],H++(⟨ns .u64 [0,0,0,0,0],true,true,true,1⟩::⟨ns .u64 r,true,true,true,1⟩::(xs.map fun x=>(⟨ns .u64 x,true,true,true,1⟩:Ob))),[]⟩∧El r (2^52)∧fe r=(xs.map fe).foldl (· * ·) 1)
  n (s:=⟨[(2,.pointer (some ⟨H.length,0,none⟩)),(3,.pointer (some ⟨H.length+1,0,none⟩)),(7,.slice (some ⟨id,0,none⟩) n n),(8,.int .i64 n),(9,.int .i64 0)],H++[⟨ns .u64 [0,0,0,0,0],true,true,true,1⟩,⟨ns .u64 [1,0,0,0,0],true,true,true,1⟩],[]⟩) ⟨[1,0,0,0,0],rfl,D1,D0⟩
  (fun i st hi hs=>by
   obtain ⟨r,rfl,hr1,hr2⟩:=hs
   obtain ⟨x,hxi⟩:∃ y,xs[i]?=some y:=⟨_,Qe (by omega)⟩
   have hxe:=hx x (Qn hxi)
   obtain ⟨r',hm,g1,g2⟩:=Xf hr1 hxe
   have hsplit:xs=xs.take i++x::xs.drop (i+1):=by
    have h1:=Qg.1 hxi
    conv=>lhs; rw [←Z7 i xs,J6 h1.1,h1.2]
   have htl:(xs.take i).flatten.length=i*5:=by
    rw [hfl _ (fun y hy=>hx y (QU hy)),Q4,Zp (by omega)]
   have hcs:((ns .u64 xs.flatten).drop (i*5)).take 5=ns .u64 x:=by
    conv=>lhs; rw [hsplit,ZE,QL]
    exact part5 hxe.len htl
   have hb:=bY (R:=[0,0,0,0,0]) (g:=(xs.take i).map fun x=>(⟨ns .u64 x,true,true,true,1⟩:Ob)) (l:=[]) hi hN hxe hr1 hm g1 hA hcs (by rw [Q7,hfl xs hx,hn]; omega)
   have htk:xs.take (i+1)=xs.take i++[x]:=by rw [Z5,hxi]; rfl
   refine ⟨_,hb,r',?_,g1,?_⟩
   ·rw [htk,Km]; rfl
   ·rw [htk,Km,List.foldl_append,←hr2,g2]; rfl)
  (fun st hs=>by
   obtain ⟨r,rfl,hr1,hr2⟩:=hs
   have e1:((n:Int)<(n:Int))=False:=eq_false (by omega)
   have ht:xs.take n=xs:=Ql (by omega)
   rw [ht] at hr2 ⊢
   refine ⟨_,?_,r,rfl,hr1,hr2⟩
   simp only [Cs,Qs,quiet,cF,JG,QR,↓pQ,reduceCtorEq,seval,-Qb,cL,e1])
 refine ⟨r,?_,hr1,hr2⟩
 have hz5:Qa 5 (Value.int .u64 0)=ns .u64 [0,0,0,0,0]:=rfl
 have l0:(ns .u64 [0,0,0,0,0]).length=5:=rfl
 have l1:=hr1.len
 have hs:=GS (n:=1) (by decide)
 have l2:([1,0,0,0,0]:List Nat).length=5:=rfl
 simp only [KP] at hs
 rw [Zg (fn:=a82) rfl]
 simp only [a82,Qs,quiet,cF,JG,QR,↓pQ,reduceCtorEq,seval,-Qb,cL,cJ,QW,hz5,hs,hb,Qy,Q8,Zj,Q9,Q7,l0,l1,l2,Za]
def pwI (x k o:List Nat) (i:Int) (ex:Env):St:=⟨[(2,.pointer (some ⟨0,0,none⟩)),(3,.pointer (some ⟨1,0,none⟩)),(4,.pointer (some ⟨2,0,none⟩)),(5,.pointer (some ⟨3,0,none⟩)),(6,.int .i64 i)]++ex,[⟨ns .u64 x,true,true,true,1⟩,⟨u8s k,true,true,true,1⟩,⟨ns .u64 [0,0,0,0,0],true,true,true,1⟩,⟨ns .u64 o,true,true,true,1⟩],[]⟩
theorem LO (a:Go.Fp.Fe) (m b:Nat) (hb:b<2):Go.Fp.pow a (2*m+b)=if b=1 then Go.Fp.pow a m*Go.Fp.pow a m*a else Go.Fp.pow a m*Go.Fp.pow a m:=by
 have h1:Go.Fp.pow a (2*m)=Go.Fp.pow a m*Go.Fp.pow a m:=by rw [show 2*m=m+m by omega,Go.Fp.pow_add]
 by_cases h:b=1
 ·subst h
  rw [if_pos rfl,Go.Fp.pow,h1]
 ·have:b=0:=by omega
  subst this
  rw [if_neg (by decide),ZV,h1]
theorem pK {ex:Env} (hx:El x (2^52)) (lk:k.length=32) (xk:∀ x∈k,x<256) (hi:i<256) (ho:El o (2^52)) (hp:fe o=Go.Fp.pow (fe x) (num 256 k/2^(i+1))) :
  ∃ r,Q5 T 0 R2 (pwI x k o i ex)=some (.normal,pwI x k r ((i:Int)-1) [])∧El r (2^52)∧fe r=Go.Fp.pow (fe x) (num 256 k/2^i):=by
 obtain ⟨b,hb⟩:∃ b,k[i/8]?=some b:=⟨_,Qe (by omega)⟩
 have hbv:=Kk (B:=256) (by decide) xk hb
 have hbc:=Jk hb
 have hbit:b/2^(i%8)%2=num 256 k/2^i%2:=by
  rw [←hbv,show (256:Nat)=2^8 from rfl,Tb (Q6 _ (by decide)),Z0]
 obtain ⟨r1,m1,g1,g2⟩:=Xf ho ho
 obtain ⟨r2,m2,g3,g4⟩:=Xf g1 hx
 have hlt:=Ut (num 256 k) i
 have hnum:num 256 k/2^i=2*(num 256 k/2^(i+1))+num 256 k/2^i%2:=by
  rw [Zi,←QV]
  omega
 have hstep:=LO (fe x) (num 256 k/2^(i+1)) (num 256 k/2^i%2) hlt
 rw [←hnum,←hp] at hstep
 have s1:(2:Int)^min (i%8) IntKind.u8.bits=((2^(i%8):Nat):Int):=Bj (J3 (Q6 _ (by decide)))
 have w2:IntKind.i64.wrap ((i/8:Nat):Int)=((i/8:Nat):Int):=Zu (by omega)
 have w3:IntKind.i64.wrap ((i:Int)-1)=(i:Int)-1:=Zh (by omega) (by omega)
 have e1:((0:Int)≤(i:Int))=True:=eq_true (by omega)
 have e3:(((i/8:Nat):Int)<32)=True:=eq_true (by omega)
 have e4:(((i%8:Nat):Int)<0)=False:=eq_false (by omega)
 have l1:=hx.len
 have l2:=ho.len
 have l3:=g1.len
 have l4:=g3.len
 have l0:([0,0,0,0,0]:List Nat).length=5:=rfl
 generalize hB:num 256 k/2^i%2=B at *
 by_cases hB1:B=1
 ·have hbq:((B:Int)==1)=true:=by rw [hB1]; rfl
  rw [if_pos hB1] at hstep
  refine ⟨r2,?_,g3,by rw [hstep,g4,g2]⟩
  simp only [pwI,R2,Qs,quiet,cF,JG,QR,↓pQ,reduceCtorEq,seval,-Qb,cL,cJ,cU,hbc,hbit,s1,w2,w3,e1,e3,e4,m1,m2,hbq,Qy,Q8,Zj,Q9,Q7,l1,l2,l3,l4,Za]
 ·have hbq:((B:Int)==1)=false:=by
   have:B=0:=by omega
   rw [this]; rfl
  rw [if_neg hB1] at hstep
  refine ⟨r1,?_,g1,by rw [hstep,g2]⟩
  simp only [pwI,R2,Qs,quiet,cF,JG,QR,↓pQ,reduceCtorEq,seval,-Qb,cL,cJ,cU,hbc,hbit,s1,w2,w3,e1,e3,e4,m1,m2,hbq,Qy,Q8,Zj,Q9,Q7,l1,l2,l3,l4,Za]
theorem pM (hx:El x (2^52)) (lk:k.length=32) (xk:∀ x∈k,x<256):∃ r,evVal T 132 [eV x,.agg (u8s k).toArray]=some (eV r)∧El r (2^52)∧fe r=Go.Fp.pow (fe x) (num 256 k):=by
 have hK:=num_lt xk
 rw [lk,show (256:Nat)^32=2^256 from by rw [show (256:Nat)=2^8 from rfl,←Ja]] at hK
 obtain ⟨st,hb,r,rfl,hr1,hr2⟩:=Zm (T:=T) (base:=0) (id:=0) (body:=R2)
  (fun j st=>∃ r:List Nat,st=pwI x k r ((255:Int)-j) []∧El r (2^52)∧fe r=Go.Fp.pow (fe x) (num 256 k/2^(256-j)))
  (Q:=fun st=>∃ r:List Nat,st=pwI x k r (-1) [(9,.bool false)]∧El r (2^52)∧fe r=Go.Fp.pow (fe x) (num 256 k))
  256 (s:=pwI x k [1,0,0,0,0] 255 []) ⟨_,rfl,D1,by rw [D0,Kt,JH hK]; rfl⟩
  (fun j st hj hs=>by
   obtain ⟨r,rfl,h1,h2⟩:=hs
   obtain ⟨i,hi⟩:∃ i,256-j=i+1:=⟨255-j,by omega⟩
   rw [hi] at h2
   obtain ⟨r',g1,g2,g3⟩:=pK (ex:=[]) hx lk xk (i:=i) (by omega) h1 h2
   rw [show (255:Int)-j=(i:Int) by omega]
   refine ⟨_,g1,r',?_,g2,?_⟩
   ·rw [show (255:Int)-((j+1:Nat):Int)=(i:Int)-1 by omega]
   ·rw [show 256-(j+1)=i by omega]; exact g3)
  (fun st hs=>by
   obtain ⟨r,rfl,h1,h2⟩:=hs
   rw [Q3,ZQ,Jy] at h2
   have e:((0:Int) ≤ -1)=False:=by decide
   refine ⟨_,?_,r,rfl,h1,h2⟩
   rw [show (255:Int)-((256:Nat):Int) = -1 by omega]
   simp only [pwI,R2,Qs,quiet,cF,JG,QR,↓pQ,reduceCtorEq,seval,-Qb,cL,e])
 refine ⟨r,?_,hr1,hr2⟩
 have hz5:Qa 5 (Value.int .u64 0)=ns .u64 [0,0,0,0,0]:=rfl
 have hs:=GS (n:=1) (by decide)
 have l2:([1,0,0,0,0]:List Nat).length=5:=rfl
 have l0:([0,0,0,0,0]:List Nat).length=5:=rfl
 have l1:=hx.len
 have l3:=hr1.len
 simp only [KP] at hs
 simp only [pwI,Qo,Qm] at hb
 apply QC (fn:=a83) rfl
 simp only [a83,Qs,quiet,cF,JG,QR,↓pQ,reduceCtorEq,seval,-Qb,cL,cJ,hz5,hs,hb,pwI,Qy,Q8,Zj,Q9,Q7,l0,l1,l2,l3,Za]
 rfl
def onX (i:Nat):List Nat:=dig (2^8) 32 (2^i-1)
def onI (less:Value) (n:Int) (k:List Nat) (i:Nat) (ex:Env):St:=⟨[(1,less),(4,.pointer (some ⟨0,0,none⟩)),(5,.pointer (some ⟨1,0,none⟩)),(7,.int .i64 n),(8,.int .i64 i)]++ex,[⟨u8s (dig 256 32 0),true,true,true,1⟩,⟨u8s k,true,true,true,1⟩],[]⟩
theorem qj {less:Value} (hn:n≤256) (hi:i<n):Q5 T 0 Cr (onI less n (onX i) i [])=some (.normal,onI less n (onX (i+1)) (i+1) []):=by
 have hlen:(onX i).length=32:=Ze _ _ _
 obtain ⟨y,hy⟩:∃ b,(onX i)[i/8]?=some b:=⟨_,Qe (by omega)⟩
 have hyc:=Jk hy
 have hy':y<2^8:=Vh (by decide) (Qn hy)
 have hsm:(2:Nat)^(i%8)≤2^7:=Zr (by decide) (by have:=Q6 i (by decide:0<8); omega)
 have hp:0<(2:Nat)^i:=Xa (by decide)
 have hput:=T2 (w:=8) (m:=32) (q:=i/8) (s:=i%8) (y:=1) (M:=2^i-1) (by omega) (Q6 _ (by decide)) (by rw [Z0]; omega) (by omega)
 rw [Z0,show 2^i-1+1*2^i=2^(i+1)-1 by rw [Zi]; omega] at hput
 have hgd:(dig (2^8) 32 (2^i-1)).getD (i/8) 0=y:=by rw [QB]; unfold onX at hy; rw [hy]; rfl
 rw [hgd,JT] at hput
 have hset:=Xg (onX i) (i/8) (y|||2^(i%8))
 rw [show (onX i).set (i/8) (y|||2^(i%8))=onX (i+1) from hput] at hset
 have s1:(2:Int)^min (i%8) IntKind.u8.bits=((2^(i%8):Nat):Int):=Bj (J3 (Q6 _ (by decide)))
 have o1:Zz .or .u8 (y:Int) ((2^(i%8):Nat):Int)=((y|||2^(i%8):Nat):Int):=KD rfl (by show _<256; omega) (by show _<256; omega)
 have n1:(2^(i%8))%256=2^(i%8):=Qv (Js hsm (by decide))
 have w2:IntKind.i64.wrap ((i/8:Nat):Int)=((i/8:Nat):Int):=Zu (by omega)
 have w3:IntKind.i64.wrap ((i+1:Nat):Int)=((i+1:Nat):Int):=Zu (by omega)
 have e1:((i:Int)<(n:Int))=True:=eq_true (by omega)
 have e3:(((i/8:Nat):Int)<32)=True:=eq_true (by omega)
 have e4:(((i%8:Nat):Int)<0)=False:=eq_false (by omega)
 have e6:i/8+1≤32:=by omega
 have p1:1*2^(i%8)=2^(i%8):=JT _
 simp only [onI,Cr,Qs,quiet,cF,JG,QR,↓pQ,reduceCtorEq,seval,-Qb,cL,cJ,cU,hyc,s1,o1,n1,w2,w3,e1,e3,e4,e6,p1,hset,Qq,hlen]
theorem PA (hn:n≤256) (h8:8≤n) (hl:less<256):evVal T 133 [.int .i64 n,.int .u8 less]=some (.agg (u8s (dig 256 32 (2^n-1-less))).toArray):=by
 have hb:=Jf (T:=T) (base:=0) (id:=0) (body:=Cr) (fun i=>onI (.int .u8 less) n (onX i) i []) (s':=onI (.int .u8 less) n (onX n) n [(9,.bool false)]) n (fun i hi=>qj hn hi) (by
  have e1:((n:Int)<(n:Int))=False:=eq_false (by omega)
  simp only [onI,Cr,Qs,quiet,cF,JG,QR,↓pQ,reduceCtorEq,seval,-Qb,cL,e1])
 rw [show onX 0=dig 256 32 0 from rfl] at hb
 have hp8:(256:Nat)≤2^n:=by
  have:=Zr (n:=2) (by decide) h8
  exact this
 have hmod:2^n%256=0:=by
  rw [show n=8+(n-8) by omega,JE]; exact Nat.mul_mod_right _ _
 have h0:(onX n)[0]?=some 255:=by
  unfold onX
  rw [XL (by decide),ZQ,Jy]
  congr 1
  omega
 have h0c:=Jk h0
 have w0:IntKind.u8.wrap (255-(less:Int))=((255-less:Nat):Int):=by rw [wrap_u8]; omega
 have hset:=Xg (onX n) 0 (255-less)
 have hfin:(onX n).set 0 (255-less)=dig 256 32 (2^n-1-less):=by
  apply Hh (by rw [Q0]; exact Ze _ _ _)
  intro t ht
  by_cases h0t:t=0
  ·subst h0t
   rw [Q1 (by rw [show (onX n).length=32 from Ze _ _ _]; decide),ZQ,Jy]
   congr 1
   omega
  ·rw [Qt (Ne.symm h0t)]
   unfold onX
   rw [XL ht]
   congr 2
   obtain ⟨m,rfl⟩:∃ m,t=m+1:=⟨t-1,by omega⟩
   rw [show (2:Nat)^8=256 from rfl,Zi,Zk,←QV,←QV]
   congr 1
   omega
 rw [hfin] at hset
 simp only [JN] at h0c
 have l1:(dig 256 32 (2^n-1-less)).length=32:=Ze _ _ _
 have l2:(onX n).length=32:=Ze _ _ _
 have l3:(dig 256 32 0).length=32:=rfl
 have hz32:Qa 32 (Value.int .u8 0)=u8s (dig 256 32 0):=rfl
 simp only [onI,Qo,Qm,QD] at hb
 apply QC (fn:=a84) rfl
 simp only [a84,Qs,quiet,cF,JG,QR,↓pQ,reduceCtorEq,seval,-Qb,cL,cJ,hz32,hb,onI,h0c,w0,hset,Qq,l1,l2,l3]
 rfl
theorem Yn {v:Nat}:∀ x∈dig 256 32 v,x<256:=fun _ h=>Vh (by decide) h
theorem Dx (hx:El x (2^52)) (hn:n≤256) (h8:8≤n) (hl:less<256):∃ r,evVal T 132 [eV x,.agg (u8s (dig 256 32 (2^n-1-less))).toArray]=some (eV r)∧El r (2^52)∧fe r=Go.Fp.pow (fe x) (2^n-1-less):=by
 obtain ⟨r,h1,h2,h3⟩:=pM (k:=dig 256 32 (2^n-1-less)) hx (Ze _ _ _) Yn
 refine ⟨r,h1,h2,?_⟩
 rw [h3,XA (by decide),Qv]
 have h4:(2:Nat)^n≤256^32:=by
  rw [show (256:Nat)^32=2^256 from by rw [show (256:Nat)=2^8 from rfl,←Ja]]
  exact Zr (by decide) hn
 have:0<(2:Nat)^n:=Xa (by decide)
 omega
theorem NF (hx:El x (2^52)):∃ r,evVal T 77 [eV x]=some (eV r)∧El r (2^52)∧fe r=Go.Fp.iv (fe x):=by
 have h1:=PA (n:=255) (less:=20) (by decide) (by decide) (by decide)
 obtain ⟨r,h2,h3,h4⟩:=Dx (n:=255) (less:=20) hx (by decide) (by decide) (by decide)
 refine ⟨r,?_,h3,?_⟩
 ·have hz5:Qa 5 (Value.int .u64 0)=ns .u64 [0,0,0,0,0]:=rfl
  have l0:([0,0,0,0,0]:List Nat).length=5:=rfl
  have l1:=hx.len
  have l2:=h3.len
  simp only [JN] at h1
  generalize dig 256 32 (2^255-1-20)=K at *
  apply QC (fn:=a56) rfl
  simp only [a56,Qs,quiet,cF,JG,QR,↓pQ,reduceCtorEq,seval,-Qb,cL,cJ,hz5,h1,h2,Qy,Q8,Zj,Q9,Q7,l0,l1,l2,Za]
  rfl
 ·rw [h4]
  unfold Go.Fp.iv
  rw [Go.Fp.GJ]
end
end Go.Ev.YtpgphpkjlpkcbaaGreat
namespace Go.Ev
section
variable {T:Tab} {b:Nat}
section
variable {ops:List AOper} {s:St}
theorem Br:∀ (o1 o2:List AOper) (s:St) (recs:List Rec),evOps T b (o1++o2) s recs=(evOps T b o1 s recs).bind fun r=>evOps T b o2 r.1 r.2
 | [],o2,s,recs=>by rw [KL]; rfl
 | o::o1,o2,s,recs=>by
  rw [Qo,XN,XN]
  cases hg:guardOf s.env o.guard with
  | none=>rfl
  | some g =>
   cases g with
   | false=>exact Br o1 o2 _ _
   | true =>
    cases hx:J1 T o.op s.env s.h with
    | none=>simp [hx]
    | some x =>
     simp only [hx,Qp]
     exact Br o1 o2 _ _
theorem D3:∀ (ops:List AOper) (s:St) (recs:List Rec) (s':St),steps T b false ops s=some s'→∃ m,evOps T b ops s recs=some (s',recs++m)
 | [],s,recs,s',h=>by
  simp only [steps,Qk] at h
  subst h
  exact ⟨[],by rw [KL,QA]⟩
 | o::r,s,recs,s',h=>by
  rw [XN]
  unfold steps at h
  cases hg:guardOf s.env o.guard with
  | none=>simp only [hg] at h; cases h
  | some g =>
   simp only [hg] at h
   cases g with
   | false =>
    obtain ⟨m,h1⟩:=D3 r _ (recs++[(some [],[])]) s' h
    exact ⟨(some [],[])::m,by rw [h1]; simp⟩
   | true =>
    cases hx:J1 T o.op s.env s.h with
    | none=>simp [hx] at h
    | some x =>
     simp only [hx,Qp,Bool.false_and,Bool.false_eq_true,if_false] at h
     obtain ⟨m,h1⟩:=D3 r _ (recs++[(x.2.2.1,x.2.2.2)]) s' h
     exact ⟨(x.2.2.1,x.2.2.2)::m,by simp only [hx,Qp]; rw [h1]; simp⟩
theorem RE {r1 r2:List Rec}:∀ {pairs:List (Nat×Nat)},(pairs.all fun p=>decide (p.1<r1.length)&&decide (p.2<r1.length))=true→Z9 r1 pairs=true→Z9 (r1++r2) pairs=true
 | [],_,_=>rfl
 | (i,j)::ps,h,k=>by
  simp only [Kx,ZS,decide_eq_true_eq] at h
  simp only [Z9,Kx,ZS] at k ⊢
  have ih:=RE (r1:=r1) (r2:=r2) (pairs:=ps) h.2 k.2
  simp only [Z9] at ih
  refine ⟨?_,ih⟩
  rw [Qc h.1.1,Qc h.1.2]
  exact k.1
def Vt:List (Nat×Nat)→Nat
 | []=>0
 | (_,j)::r=>if j+1≤Vt r then Vt r else j+1
theorem PS:Vt []=0:=rfl
theorem N6 {i j:Nat} {r:List (Nat×Nat)}:Vt ((i,j)::r)=if j+1≤Vt r then Vt r else j+1:=rfl
def Iz (T:Tab) (b:Nat) (ops:List AOper) (pairs:List (Nat×Nat)) (s:St):Option St :=
 gate ((pairs.all fun p=>decide (p.1<Vt pairs)&&decide (p.2<Vt pairs))=true∧Vt pairs≤ops.length)
  ((steps T b true (ops.take (Vt pairs)) s).bind fun s1=>steps T b false (ops.drop (Vt pairs)) s1)
theorem bX {pairs:List (Nat×Nat)}:Iz T b ops pairs s=gate ((pairs.all fun p=>decide (p.1<Vt pairs)&&decide (p.2<Vt pairs))=true∧Vt pairs≤ops.length)
  ((steps T b true (ops.take (Vt pairs)) s).bind fun s1=>steps T b false (ops.drop (Vt pairs)) s1):=Eq.trans rfl rfl
theorem Sa {keep:Option (List Nat)} {p:Nat×Nat} {ps:List (Nat×Nat)}:Q5 T b (.region ops keep (p::ps)) s=RC ((Iz T b ops (p::ps) s).bind fun s'=>some (.normal,s'.after keep)) (Yk T b (.region ops keep (p::ps)) s):=by
 cases hq:Iz T b ops (p::ps) s with
 | none=>rfl
 | some s' =>
  simp only [Qp,RC]
  unfold Iz gate at hq
  split at hq
  ·rename_i hp
   simp only [Qd] at hq
   obtain ⟨s1,k1,k2⟩:=hq
   obtain ⟨recs,h1,h2,h3⟩:=WV _ s [] s1 k1 (by simp)
   obtain ⟨m,h4⟩:=D3 _ s1 recs s' k2
   simp only [ZC,QJ,Q4,Zp hp.2] at h3
   rw [X5]
   conv=>lhs; rw [←Z7 (Vt (p::ps)) ops]
   rw [Br,h1]
   simp only [Qp,h4]
   have hpk:=hp.1
   rw [←h3] at hpk
   rw [if_pos (RE hpk (Up h2 hpk))]
  ·cases hq
end
end
theorem MT {T:Tab} {b:Nat} {q:Bool}:∀ (o1 o2:List AOper) (s:St),steps T b q (o1++o2) s=(steps T b q o1 s).bind (steps T b q o2)
 | [],o2,s=>rfl
 | o::o1,o2,s=>by
  rw [Qo]
  unfold steps
  cases hg:guardOf s.env o.guard with
  | none=>rfl
  | some g =>
   cases g with
   | true =>
    simp only
    cases hx:J1 T o.op s.env s.h with
    | none=>rfl
    | some x =>
     simp only [Qp]
     split
     ·rfl
     ·exact MT o1 o2 _
   | false=>exact MT o1 o2 _
theorem BV {T:Tab} {b:Nat} {q:Bool} {a1 a2 a3 a4 a5 a6 a7:AOper} {r:List AOper} {s:St}:steps T b q (a1::a2::a3::a4::a5::a6::a7::r) s=(steps T b q [a1,a2,a3,a4,a5,a6] s).bind fun s'=>steps T b q (a7::r) s':=by
 rw [←MT]; rfl
def cK:=Qi cF (Qi (@JG) (Qi (@Sa) (Qi (@bX) (Qi (@PS) (Qi (@N6) (Qi (@List.take_succ_cons.{0}) (Qi (@Jz.{0}) (Qi (@List.drop_succ_cons.{0}) (@ZD.{0})))))))))
def cW:=Qi cK (Qi cL cJ)
def pW:=Qi pQ (@BV)
end Go.Ev
namespace Go.Ev.YtpgphpkjlpkcbaaGreat
open Go Go.Ev
set_option maxRecDepth 100000
section
attribute [local congr] JD JU JC JV Jv
variable {p q:Go.Cv.Pt Go.Fp.P Go.Fp.d} {l a b x c y t x1 y1 z1 t1 m o:List Nat} {n k i id:Nat} {z dd e px py rx ry:Go.Fp.Fe} {cs:List Value} {R:Ob} {H:List Ob}
theorem Qz (h:cs.length=n):cs.take n=cs:=Ql (by omega)
def pL (x y z t:List Nat):List Nat:=x++(y++(z++t))
def pV (x y z t:List Nat):Value := .agg (ns .u64 (pL x y z t)).toArray
theorem tj (x y z t:List Nat):rf (pV x y z t)=true:=al _ _
theorem LV (x y z t:List Nat):(pV x y z t).cells.toList=ns .u64 (pL x y z t):=rfl
theorem aF (x y z t:List Nat):(pV x y z t).cells.size=(pL x y z t).length:=Q7 _ _
theorem tm (x y z t:List Nat):okVar (pV x y z t)=true:=rfl
theorem aG (x y z t:List Nat):Value.agg (ns .u64 (pL x y z t)).toArray=pV x y z t:=rfl
theorem Yh {z:List Nat} {b:Nat} (hx:El x b) (hy:El y b) (hz:El z b) (ht:El t b):(pL x y z t).length=20:=by
 simp [pL,hx.len,hy.len,hz.len,ht.len]
theorem Ps {z:List Nat} {b:Nat} (hx:El x b) (hy:El y b) (hz:El z b) (ht:El t b) :
  Zf 5 (ns .u64 (pL x y z t))=ns .u64 x∧Zf 5 (Jo 5 (ns .u64 (pL x y z t)))=ns .u64 y∧Zf 5 (Jo 10 (ns .u64 (pL x y z t)))=ns .u64 z∧Zf 5 (Jo 15 (ns .u64 (pL x y z t)))=ns .u64 t:=by
 obtain ⟨a0,a1,a2,a3,a4,rfl,-⟩:=hx.five
 obtain ⟨b0,b1,b2,b3,b4,rfl,-⟩:=hy.five
 obtain ⟨c0,c1,c2,c3,c4,rfl,-⟩:=hz.five
 obtain ⟨d0,d1,d2,d3,d4,rfl,-⟩:=ht.five
 exact ⟨rfl,rfl,rfl,rfl⟩
theorem W5 (ha:El a k) (hb:El b k):fillL (Qa 10 (Value.int .u64 0)) [(0,5,eV a),(5,5,eV b)]=some (ns .u64 (a++b)):=by
 obtain ⟨a0,a1,a2,a3,a4,rfl,-⟩:=ha.five
 obtain ⟨b0,b1,b2,b3,b4,rfl,-⟩:=hb.five
 rfl
theorem FL (ha:El a k) (hb:El b k) (hc:El c k):fillL (Qa 15 (Value.int .u64 0)) [(0,5,eV a),(5,5,eV b),(10,5,eV c)]=some (ns .u64 [a,b,c].flatten):=by
 obtain ⟨a0,a1,a2,a3,a4,rfl,-⟩:=ha.five
 obtain ⟨b0,b1,b2,b3,b4,rfl,-⟩:=hb.five
 obtain ⟨c0,c1,c2,c3,c4,rfl,-⟩:=hc.five
 rfl
theorem RM {d:List Nat} (ha:El a k) (hb:El b k) (hc:El c k) (hd:El d k):fillL (Qa 20 (Value.int .u64 0)) [(0,5,eV a),(5,5,eV b),(10,5,eV c),(15,5,eV d)]=some (ns .u64 (pL a b c d)):=by
 obtain ⟨a0,a1,a2,a3,a4,rfl,-⟩:=ha.five
 obtain ⟨b0,b1,b2,b3,b4,rfl,-⟩:=hb.five
 obtain ⟨c0,c1,c2,c3,c4,rfl,-⟩:=hc.five
 obtain ⟨d0,d1,d2,d3,d4,rfl,-⟩:=hd.five
 rfl
theorem aH (a b c d:List Nat):pL a b c d=[a,b,c,d].flatten:=by simp [pL]
theorem fL:El [2,0,0,0,0] (2^52):=U6 (by decide)
theorem fE:evVal T 73 [.int .u32 2]=some (eV [2,0,0,0,0]):=GS (n:=2) (by decide)
theorem OQ:fe [2,0,0,0,0]=2:=by rw [U5]; rfl
theorem ur {x2 y2 z2 t2 d:List Nat} (Ex1:El x1 (2^52)) (Ey1:El y1 (2^52)) (Ez1:El z1 (2^52)) (Et1:El t1 (2^52)) (Ex2:El x2 (2^52)) (Ey2:El y2 (2^52)) (Ez2:El z2 (2^52)) (Et2:El t2 (2^52)) (Ed:El d (2^52)) :
  ∃ x y z t,evVal T 102 [pV x1 y1 z1 t1,pV x2 y2 z2 t2,eV d]=some (pV x y z t)∧El x (2^52)∧El y (2^52)∧El z (2^52)∧El t (2^52) ∧
   ∃ a b c e:Go.Fp.Fe,a=(fe y1-fe x1)*(fe y2-fe x2)∧b=(fe y1+fe x1)*(fe y2+fe x2)∧c=1*2*fe d*fe t1*fe t2∧e=1*2*fe z1*fe z2 ∧
    fe x=(b-a)*(e-c)∧fe y=(e+c)*(b+a)∧fe z=(e-c)*(e+c)∧fe t=(b-a)*(b+a):=by
 obtain ⟨two,htwo⟩:∃ two:List Nat,two=[2,0,0,0,0]:=⟨_,rfl⟩
 have Etwo:El two (2^52):=by rw [htwo]; exact fL
 have vtwo:evVal T 73 [.int .u32 2]=some (eV two):=by rw [htwo]; exact fE
 have ftwo:fe two=2:=by rw [htwo]; exact OQ
 clear htwo
 obtain ⟨r1,hr1,Er1,fr1⟩:=Bz Ey1 Ex1
 obtain ⟨r2,hr2,Er2,fr2⟩:=Bz Ey2 Ex2
 obtain ⟨r3,hr3,Er3,fr3⟩:=Xf Er1 Er2
 obtain ⟨r4,sr4,hr4,Er4,fr4⟩:=VS (H:=[⟨ns .u64 (pL x1 y1 z1 t1),true,true,true,1⟩,⟨ns .u64 (pL x2 y2 z2 t2),true,true,true,1⟩,⟨ns .u64 d,true,true,true,1⟩,⟨Qa 20 (.int .u64 0),true,true,true,1⟩,⟨ns .u64 r3,true,true,true,1⟩,⟨ns .u64 (y1++x1),true,true,true,1⟩]) (id:=5) Ey1 Ex1 rfl
 simp only [Qo,Qm] at hr4
 obtain ⟨r5,sr5,hr5,Er5,fr5⟩:=VS (H:=[⟨ns .u64 (pL x1 y1 z1 t1),true,true,true,1⟩,⟨ns .u64 (pL x2 y2 z2 t2),true,true,true,1⟩,⟨ns .u64 d,true,true,true,1⟩,⟨Qa 20 (.int .u64 0),true,true,true,1⟩,⟨ns .u64 r3,true,true,true,1⟩,⟨ns .u64 (y1++x1),true,true,true,1⟩,⟨ns .u64 r4,true,true,true,1⟩,⟨ns .u64 sr4,true,true,true,1⟩,⟨ns .u64 y1,true,true,true,1⟩,⟨ns .u64 x1,true,true,true,1⟩,⟨ns .u64 (y2++x2),true,true,true,1⟩]) (id:=10) Ey2 Ex2 rfl
 simp only [Qo,Qm] at hr5
 obtain ⟨r6,hr6,Er6,fr6⟩:=Xf Er4 Er5
 obtain ⟨r7,hr7,Er7,fr7⟩:=WS (H:=[⟨ns .u64 (pL x1 y1 z1 t1),true,true,true,1⟩,⟨ns .u64 (pL x2 y2 z2 t2),true,true,true,1⟩,⟨ns .u64 d,true,true,true,1⟩,⟨Qa 20 (.int .u64 0),true,true,true,1⟩,⟨ns .u64 r3,true,true,true,1⟩,⟨ns .u64 (y1++x1),true,true,true,1⟩,⟨ns .u64 r4,true,true,true,1⟩,⟨ns .u64 sr4,true,true,true,1⟩,⟨ns .u64 y1,true,true,true,1⟩,⟨ns .u64 x1,true,true,true,1⟩,⟨ns .u64 (y2++x2),true,true,true,1⟩,⟨ns .u64 r5,true,true,true,1⟩,⟨ns .u64 sr5,true,true,true,1⟩,⟨ns .u64 y2,true,true,true,1⟩,⟨ns .u64 x2,true,true,true,1⟩,⟨ns .u64 r6,true,true,true,1⟩,⟨ns .u64 [two,d,t1,t2].flatten,true,true,true,1⟩]) (id:=16) (n:=4) (xs:=[two,d,t1,t2]) rfl (by decide) (by intro w hw; simp only [Jj,JI,or_false] at hw; rcases hw with rfl | rfl | rfl | rfl<;>assumption) rfl
 simp only [Qo,Qm,JF,Xp,Xt,Vk] at hr7 fr7
 obtain ⟨r8,hr8,Er8,fr8⟩:=WS (H:=[⟨ns .u64 (pL x1 y1 z1 t1),true,true,true,1⟩,⟨ns .u64 (pL x2 y2 z2 t2),true,true,true,1⟩,⟨ns .u64 d,true,true,true,1⟩,⟨Qa 20 (.int .u64 0),true,true,true,1⟩,⟨ns .u64 r3,true,true,true,1⟩,⟨ns .u64 (y1++x1),true,true,true,1⟩,⟨ns .u64 r4,true,true,true,1⟩,⟨ns .u64 sr4,true,true,true,1⟩,⟨ns .u64 y1,true,true,true,1⟩,⟨ns .u64 x1,true,true,true,1⟩,⟨ns .u64 (y2++x2),true,true,true,1⟩,⟨ns .u64 r5,true,true,true,1⟩,⟨ns .u64 sr5,true,true,true,1⟩,⟨ns .u64 y2,true,true,true,1⟩,⟨ns .u64 x2,true,true,true,1⟩,⟨ns .u64 r6,true,true,true,1⟩,⟨ns .u64 [two,d,t1,t2].flatten,true,true,true,1⟩,⟨ns .u64 r7,true,true,true,1⟩,⟨ns .u64 r7,true,true,true,1⟩,⟨ns .u64 two,true,true,true,1⟩,⟨ns .u64 d,true,true,true,1⟩,⟨ns .u64 t1,true,true,true,1⟩,⟨ns .u64 t2,true,true,true,1⟩,⟨ns .u64 r7,true,true,true,1⟩,⟨ns .u64 [two,z1,z2].flatten,true,true,true,1⟩]) (id:=24) (n:=3) (xs:=[two,z1,z2]) rfl (by decide) (by intro w hw; simp only [Jj,JI,or_false] at hw; rcases hw with rfl | rfl | rfl<;>assumption) rfl
 simp only [Qo,Qm,JF,Xp,Xt,Vk] at hr8 fr8
 obtain ⟨r9,hr9,Er9,fr9⟩:=Bz Er6 Er3
 obtain ⟨r10,hr10,Er10,fr10⟩:=Bz Er8 Er7
 obtain ⟨r11,sr11,hr11,Er11,fr11⟩:=VS (H:=[⟨ns .u64 (pL x1 y1 z1 t1),true,true,true,1⟩,⟨ns .u64 (pL x2 y2 z2 t2),true,true,true,1⟩,⟨ns .u64 d,true,true,true,1⟩,⟨Qa 20 (.int .u64 0),true,true,true,1⟩,⟨ns .u64 r3,true,true,true,1⟩,⟨ns .u64 (y1++x1),true,true,true,1⟩,⟨ns .u64 r4,true,true,true,1⟩,⟨ns .u64 sr4,true,true,true,1⟩,⟨ns .u64 y1,true,true,true,1⟩,⟨ns .u64 x1,true,true,true,1⟩,⟨ns .u64 (y2++x2),true,true,true,1⟩,⟨ns .u64 r5,true,true,true,1⟩,⟨ns .u64 sr5,true,true,true,1⟩,⟨ns .u64 y2,true,true,true,1⟩,⟨ns .u64 x2,true,true,true,1⟩,⟨ns .u64 r6,true,true,true,1⟩,⟨ns .u64 [two,d,t1,t2].flatten,true,true,true,1⟩,⟨ns .u64 r7,true,true,true,1⟩,⟨ns .u64 r7,true,true,true,1⟩,⟨ns .u64 two,true,true,true,1⟩,⟨ns .u64 d,true,true,true,1⟩,⟨ns .u64 t1,true,true,true,1⟩,⟨ns .u64 t2,true,true,true,1⟩,⟨ns .u64 r7,true,true,true,1⟩,⟨ns .u64 [two,z1,z2].flatten,true,true,true,1⟩,⟨ns .u64 r8,true,true,true,1⟩,⟨ns .u64 r8,true,true,true,1⟩,⟨ns .u64 two,true,true,true,1⟩,⟨ns .u64 z1,true,true,true,1⟩,⟨ns .u64 z2,true,true,true,1⟩,⟨ns .u64 r8,true,true,true,1⟩,⟨ns .u64 (r8++r7),true,true,true,1⟩]) (id:=31) Er8 Er7 rfl
 simp only [Qo,Qm] at hr11
 obtain ⟨r12,sr12,hr12,Er12,fr12⟩:=VS (H:=[⟨ns .u64 (pL x1 y1 z1 t1),true,true,true,1⟩,⟨ns .u64 (pL x2 y2 z2 t2),true,true,true,1⟩,⟨ns .u64 d,true,true,true,1⟩,⟨Qa 20 (.int .u64 0),true,true,true,1⟩,⟨ns .u64 r3,true,true,true,1⟩,⟨ns .u64 (y1++x1),true,true,true,1⟩,⟨ns .u64 r4,true,true,true,1⟩,⟨ns .u64 sr4,true,true,true,1⟩,⟨ns .u64 y1,true,true,true,1⟩,⟨ns .u64 x1,true,true,true,1⟩,⟨ns .u64 (y2++x2),true,true,true,1⟩,⟨ns .u64 r5,true,true,true,1⟩,⟨ns .u64 sr5,true,true,true,1⟩,⟨ns .u64 y2,true,true,true,1⟩,⟨ns .u64 x2,true,true,true,1⟩,⟨ns .u64 r6,true,true,true,1⟩,⟨ns .u64 [two,d,t1,t2].flatten,true,true,true,1⟩,⟨ns .u64 r7,true,true,true,1⟩,⟨ns .u64 r7,true,true,true,1⟩,⟨ns .u64 two,true,true,true,1⟩,⟨ns .u64 d,true,true,true,1⟩,⟨ns .u64 t1,true,true,true,1⟩,⟨ns .u64 t2,true,true,true,1⟩,⟨ns .u64 r7,true,true,true,1⟩,⟨ns .u64 [two,z1,z2].flatten,true,true,true,1⟩,⟨ns .u64 r8,true,true,true,1⟩,⟨ns .u64 r8,true,true,true,1⟩,⟨ns .u64 two,true,true,true,1⟩,⟨ns .u64 z1,true,true,true,1⟩,⟨ns .u64 z2,true,true,true,1⟩,⟨ns .u64 r8,true,true,true,1⟩,⟨ns .u64 (r8++r7),true,true,true,1⟩,⟨ns .u64 r11,true,true,true,1⟩,⟨ns .u64 sr11,true,true,true,1⟩,⟨ns .u64 r8,true,true,true,1⟩,⟨ns .u64 r7,true,true,true,1⟩,⟨ns .u64 (r6++r3),true,true,true,1⟩]) (id:=36) Er6 Er3 rfl
 simp only [Qo,Qm] at hr12
 obtain ⟨r13,hr13,Er13,fr13⟩:=Xf Er9 Er10
 obtain ⟨r14,hr14,Er14,fr14⟩:=Xf Er11 Er12
 obtain ⟨r15,hr15,Er15,fr15⟩:=Xf Er10 Er11
 obtain ⟨r16,hr16,Er16,fr16⟩:=Xf Er9 Er12
 refine ⟨r13,r14,r15,r16,?_,Er13,Er14,Er15,Er16,fe r3,fe r6,fe r7,fe r8,?_⟩
 ·obtain ⟨q10,q11,q12,q13⟩:=Ps Ex1 Ey1 Ez1 Et1
  obtain ⟨q20,q21,q22,q23⟩:=Ps Ex2 Ey2 Ez2 Et2
  have p1:=Yh Ex1 Ey1 Ez1 Et1
  have p2:=Yh Ex2 Ey2 Ez2 Et2
  have p3:=Yh Er13 Er14 Er15 Er16
  have k4:=RM Etwo Ed Et1 Et2
  rw [aH] at k4
  have k3:=FL Etwo Ez1 Ez2
  have kp:=RM Er13 Er14 Er15 Er16
  have m1:=W5 Ey1 Ex1
  have m2:=W5 Ey2 Ex2
  have m3:=W5 Er8 Er7
  have m4:=W5 Er6 Er3
  have Lx1:=Ex1.len
  have Ly1:=Ey1.len
  have Lz1:=Ez1.len
  have Lt1:=Et1.len
  have Lx2:=Ex2.len
  have Ly2:=Ey2.len
  have Lz2:=Ez2.len
  have Lt2:=Et2.len
  have Ld:=Ed.len
  have Ltwo:=Etwo.len
  have Lr1:=Er1.len
  have Lr2:=Er2.len
  have Lr3:=Er3.len
  have Lr4:=Er4.len
  have Lr5:=Er5.len
  have Lr6:=Er6.len
  have Lr7:=Er7.len
  have Lr8:=Er8.len
  have Lr9:=Er9.len
  have Lr10:=Er10.len
  have Lr11:=Er11.len
  have Lr12:=Er12.len
  have Lr13:=Er13.len
  have Lr14:=Er14.len
  have Lr15:=Er15.len
  have Lr16:=Er16.len
  apply QC (fn:=a54) rfl
  simp only [a54,Qs,quiet,cW,↓pW,reduceCtorEq,seval,-Qb,Qf,Qz,LV,aF,tm,aG,tj,Qy,Q8,Zj,Q9,Za,Q7,q10,q11,q12,q13,q20,q21,q22,q23,p1,p2,p3,k4,k3,kp,m1,m2,m3,m4,vtwo,hr1,hr2,hr3,hr4,hr5,hr6,hr7,hr8,hr9,hr10,hr11,hr12,hr13,hr14,hr15,hr16,Lx1,Ly1,Lz1,Lt1,Lx2,Ly2,Lz2,Lt2,Ld,Ltwo,Lr1,Lr2,Lr3,Lr4,Lr5,Lr6,Lr7,Lr8,Lr9,Lr10,Lr11,Lr12,Lr13,Lr14,Lr15,Lr16]
  rfl
 ·refine ⟨?_,?_,?_,?_,?_,?_,?_,?_⟩
  ·rw [fr3,fr1,fr2]
  ·rw [fr6,fr4,fr5]
  ·rw [fr7,ftwo]
  ·rw [fr8,ftwo]
  ·rw [fr13,fr9,fr10]
  ·rw [fr14,fr11,fr12]
  ·rw [fr15,fr10,fr11]
  ·rw [fr16,fr9,fr12]
theorem oN (Ex1:El x1 (2^52)) (Ey1:El y1 (2^52)) (Ez1:El z1 (2^52)) (Et1:El t1 (2^52)) :
  ∃ x y z t,evVal T 95 [pV x1 y1 z1 t1]=some (pV x y z t)∧El x (2^52)∧El y (2^52)∧El z (2^52)∧El t (2^52) ∧
   ∃ a b c h e g f:Go.Fp.Fe,a=fe x1*fe x1∧b=fe y1*fe y1∧c=1*2*fe z1*fe z1∧h=a+b∧e=h-(fe x1+fe y1)*(fe x1+fe y1)∧g=a-b∧f=c+g ∧
    fe x=e*f∧fe y=g*h∧fe z=f*g∧fe t=e*h:=by
 obtain ⟨two,htwo⟩:∃ two:List Nat,two=[2,0,0,0,0]:=⟨_,rfl⟩
 have Etwo:El two (2^52):=by rw [htwo]; exact fL
 have vtwo:evVal T 73 [.int .u32 2]=some (eV two):=by rw [htwo]; exact fE
 have ftwo:fe two=2:=by rw [htwo]; exact OQ
 clear htwo
 obtain ⟨r1,hr1,Er1,fr1⟩:=Xf Ex1 Ex1
 obtain ⟨r2,hr2,Er2,fr2⟩:=Xf Ey1 Ey1
 obtain ⟨r3,hr3,Er3,fr3⟩:=WS (H:=[⟨ns .u64 (pL x1 y1 z1 t1),true,true,true,1⟩,⟨Qa 20 (.int .u64 0),true,true,true,1⟩,⟨ns .u64 r1,true,true,true,1⟩,⟨ns .u64 r2,true,true,true,1⟩,⟨ns .u64 [two,z1,z1].flatten,true,true,true,1⟩]) (id:=4) (n:=3) (xs:=[two,z1,z1]) rfl (by decide) (by intro w hw; simp only [Jj,JI,or_false] at hw; rcases hw with rfl | rfl | rfl<;>assumption) rfl
 simp only [Qo,Qm,JF,Xp,Xt,Vk] at hr3 fr3
 obtain ⟨r4,sr4,hr4,Er4,fr4⟩:=VS (H:=[⟨ns .u64 (pL x1 y1 z1 t1),true,true,true,1⟩,⟨Qa 20 (.int .u64 0),true,true,true,1⟩,⟨ns .u64 r1,true,true,true,1⟩,⟨ns .u64 r2,true,true,true,1⟩,⟨ns .u64 [two,z1,z1].flatten,true,true,true,1⟩,⟨ns .u64 r3,true,true,true,1⟩,⟨ns .u64 r3,true,true,true,1⟩,⟨ns .u64 two,true,true,true,1⟩,⟨ns .u64 z1,true,true,true,1⟩,⟨ns .u64 z1,true,true,true,1⟩,⟨ns .u64 r3,true,true,true,1⟩,⟨ns .u64 (r1++r2),true,true,true,1⟩]) (id:=11) Er1 Er2 rfl
 simp only [Qo,Qm] at hr4
 obtain ⟨r5,sr5,hr5,Er5,fr5⟩:=VS (H:=[⟨ns .u64 (pL x1 y1 z1 t1),true,true,true,1⟩,⟨Qa 20 (.int .u64 0),true,true,true,1⟩,⟨ns .u64 r1,true,true,true,1⟩,⟨ns .u64 r2,true,true,true,1⟩,⟨ns .u64 [two,z1,z1].flatten,true,true,true,1⟩,⟨ns .u64 r3,true,true,true,1⟩,⟨ns .u64 r3,true,true,true,1⟩,⟨ns .u64 two,true,true,true,1⟩,⟨ns .u64 z1,true,true,true,1⟩,⟨ns .u64 z1,true,true,true,1⟩,⟨ns .u64 r3,true,true,true,1⟩,⟨ns .u64 (r1++r2),true,true,true,1⟩,⟨ns .u64 r4,true,true,true,1⟩,⟨ns .u64 sr4,true,true,true,1⟩,⟨ns .u64 r1,true,true,true,1⟩,⟨ns .u64 r2,true,true,true,1⟩,⟨ns .u64 r4,true,true,true,1⟩,⟨ns .u64 (x1++y1),true,true,true,1⟩]) (id:=17) Ex1 Ey1 rfl
 simp only [Qo,Qm] at hr5
 obtain ⟨r6,hr6,Er6,fr6⟩:=Xf Er5 Er5
 obtain ⟨r7,hr7,Er7,fr7⟩:=Bz Er4 Er6
 obtain ⟨r8,hr8,Er8,fr8⟩:=Bz Er1 Er2
 obtain ⟨r9,sr9,hr9,Er9,fr9⟩:=VS (H:=[⟨ns .u64 (pL x1 y1 z1 t1),true,true,true,1⟩,⟨Qa 20 (.int .u64 0),true,true,true,1⟩,⟨ns .u64 r1,true,true,true,1⟩,⟨ns .u64 r2,true,true,true,1⟩,⟨ns .u64 [two,z1,z1].flatten,true,true,true,1⟩,⟨ns .u64 r3,true,true,true,1⟩,⟨ns .u64 r3,true,true,true,1⟩,⟨ns .u64 two,true,true,true,1⟩,⟨ns .u64 z1,true,true,true,1⟩,⟨ns .u64 z1,true,true,true,1⟩,⟨ns .u64 r3,true,true,true,1⟩,⟨ns .u64 (r1++r2),true,true,true,1⟩,⟨ns .u64 r4,true,true,true,1⟩,⟨ns .u64 sr4,true,true,true,1⟩,⟨ns .u64 r1,true,true,true,1⟩,⟨ns .u64 r2,true,true,true,1⟩,⟨ns .u64 r4,true,true,true,1⟩,⟨ns .u64 (x1++y1),true,true,true,1⟩,⟨ns .u64 r5,true,true,true,1⟩,⟨ns .u64 sr5,true,true,true,1⟩,⟨ns .u64 x1,true,true,true,1⟩,⟨ns .u64 y1,true,true,true,1⟩,⟨ns .u64 r5,true,true,true,1⟩,⟨ns .u64 r7,true,true,true,1⟩,⟨ns .u64 r8,true,true,true,1⟩,⟨ns .u64 (r3++r8),true,true,true,1⟩]) (id:=25) Er3 Er8 rfl
 simp only [Qo,Qm] at hr9
 obtain ⟨r10,hr10,Er10,fr10⟩:=Xf Er7 Er9
 obtain ⟨r11,hr11,Er11,fr11⟩:=Xf Er8 Er4
 obtain ⟨r12,hr12,Er12,fr12⟩:=Xf Er9 Er8
 obtain ⟨r13,hr13,Er13,fr13⟩:=Xf Er7 Er4
 refine ⟨r10,r11,r12,r13,?_,Er10,Er11,Er12,Er13,fe r1,fe r2,fe r3,fe r4,fe r7,fe r8,fe r9,?_⟩
 ·obtain ⟨q10,q11,q12,q13⟩:=Ps Ex1 Ey1 Ez1 Et1
  have p1:=Yh Ex1 Ey1 Ez1 Et1
  have p3:=Yh Er10 Er11 Er12 Er13
  have k3:=FL Etwo Ez1 Ez1
  have kp:=RM Er10 Er11 Er12 Er13
  have m1:=W5 Er1 Er2
  have m2:=W5 Ex1 Ey1
  have m3:=W5 Er3 Er8
  have Lx1:=Ex1.len
  have Ly1:=Ey1.len
  have Lz1:=Ez1.len
  have Lt1:=Et1.len
  have Ltwo:=Etwo.len
  have Lr1:=Er1.len
  have Lr2:=Er2.len
  have Lr3:=Er3.len
  have Lr4:=Er4.len
  have Lr5:=Er5.len
  have Lr6:=Er6.len
  have Lr7:=Er7.len
  have Lr8:=Er8.len
  have Lr9:=Er9.len
  have Lr10:=Er10.len
  have Lr11:=Er11.len
  have Lr12:=Er12.len
  have Lr13:=Er13.len
  apply QC (fn:=a53) rfl
  simp only [a53,Qs,quiet,cW,↓pW,reduceCtorEq,seval,-Qb,Qf,Qz,LV,aF,tm,aG,tj,Qy,Q8,Zj,Q9,Za,Q7,q10,q11,q12,q13,p1,p3,k3,kp,m1,m2,m3,vtwo,hr1,hr2,hr3,hr4,hr5,hr6,hr7,hr8,hr9,hr10,hr11,hr12,hr13,Lx1,Ly1,Lz1,Lt1,Ltwo,Lr1,Lr2,Lr3,Lr4,Lr5,Lr6,Lr7,Lr8,Lr9,Lr10,Lr11,Lr12,Lr13]
  rfl
 ·refine ⟨fr1,fr2,by rw [fr3,ftwo],fr4,by rw [fr7,fr6,fr5],fr8,fr9,?_,?_,?_,?_⟩
  ·rw [fr10]
  ·rw [fr11]
  ·rw [fr12]
  ·rw [fr13]
structure Rep (x y z t:List Nat) (p:Go.Cv.Pt Go.Fp.P Go.Fp.d):Prop where
 ex:El x (2^52)
 ey:El y (2^52)
 ez:El z (2^52)
 et:El t (2^52)
 nz:fe z≠0
 x:fe x=p.x*fe z
 y:fe y=p.y*fe z
 t:fe t=p.x*p.y*fe z
abbrev JZ (p q:Go.Cv.Pt Go.Fp.P Go.Fp.d):Go.Cv.Pt Go.Fp.P Go.Fp.d:=Go.Cv.Pt.add Go.Fp.fld p q
abbrev Jq (k:Nat) (p:Go.Cv.Pt Go.Fp.P Go.Fp.d):Go.Cv.Pt Go.Fp.P Go.Fp.d:=Go.Cv.Pt.mul Go.Fp.fld k p
abbrev Ko:Go.Cv.Pt Go.Fp.P Go.Fp.d:=Go.Cv.Pt.zero
theorem Fi {x1 y1 z1 t1 x2 y2 z2 t2 a b c x y t qx qy:Go.Fp.Fe} (hx1:x1=px*z1) (hy1:y1=py*z1) (ht1:t1=px*py*z1) (hx2:x2=qx*z2) (hy2:y2=qy*z2) (ht2:t2=qx*qy*z2)
 (ha:a=(y1-x1)*(y2-x2)) (hb:b=(y1+x1)*(y2+x2)) (hc:c=1*2*dd*t1*t2) (he:e=1*2*z1*z2) (hx:x=(b-a)*(e-c)) (hy:y=(e+c)*(b+a)) (hz:z=(e-c)*(e+c)) (ht:t=(b-a)*(b+a))
 (hrx:rx*(1+dd*px*qx*py*qy)=px*qy+qx*py) (hry:ry*(1-dd*px*qx*py*qy)=py*qy+px*qx) :
    x=rx*z∧y=ry*z∧t=rx*ry*z∧z=(2*z1*z2)*(2*z1*z2)*((1-dd*px*qx*py*qy)*(1+dd*px*qx*py*qy)):=by
  have e1:b-a=(2*z1*z2)*(px*qy+qx*py):=by rw [hb,ha,hx1,hy1,hx2,hy2]; grobner
  have e2:b+a=(2*z1*z2)*(py*qy+px*qx):=by rw [hb,ha,hx1,hy1,hx2,hy2]; grobner
  have e3:e-c=(2*z1*z2)*(1-dd*px*qx*py*qy):=by rw [he,hc,ht1,ht2]; grobner
  have e4:e+c=(2*z1*z2)*(1+dd*px*qx*py*qy):=by rw [he,hc,ht1,ht2]; grobner
  rw [e1,←hrx,e3] at hx
  rw [e4,e2,←hry] at hy
  rw [e3,e4] at hz
  rw [e1,e2,←hrx,←hry] at ht
  clear hx1 hy1 ht1 hx2 hy2 ht2 ha hb hc he hrx hry e1 e2 e3 e4
  generalize 1+dd*px*qx*py*qy=k at *
  generalize 1-dd*px*qx*py*qy=m at *
  generalize 2*z1*z2=w at *
  subst hx hy hz ht
  refine ⟨?_,?_,?_,?_⟩<;>grobner
theorem Rep.plus {x1 y1 z1 t1 x2 y2 z2 t2 d:List Nat} {p q:Go.Cv.Pt Go.Fp.P Go.Fp.d} (h1:Rep x1 y1 z1 t1 p) (h2:Rep x2 y2 z2 t2 q) (Ed:El d (2^52)) (hd:fe d=Go.Fp.d) :
  ∃ x y z t,evVal T 102 [pV x1 y1 z1 t1,pV x2 y2 z2 t2,eV d]=some (pV x y z t)∧Rep x y z t (JZ p q):=by
 obtain ⟨x,y,z,t,hv,Ex,Ey,Ez,Et,a,b,c,e,ha,hb,hc,he,hx,hy,hz,ht⟩:=ur h1.ex h1.ey h1.ez h1.et h2.ex h2.ey h2.ez h2.et Ed
 rw [hd] at hc
 obtain ⟨g1,g2,g3,g4⟩:=Fi h1.x h1.y h1.t h2.x h2.y h2.t ha hb hc he hx hy hz ht (Go.Cv.Dk Go.Fp.fld p q) (Go.Cv.UW Go.Fp.fld p q)
 refine ⟨x,y,z,t,hv,Ex,Ey,Ez,Et,?_,g1,g2,g3⟩
 rw [g4]
 have F:=Go.Fp.fld
 have w:=F.mul_ne (F.mul_ne F.two h1.nz) h2.nz
 exact F.mul_ne (F.mul_ne w w) (F.mul_ne (F.denM p.on q.on) (F.denP p.on q.on))
theorem OS {x1 y1 z1 a b c h g f x y t:Go.Fp.Fe} (hx1:x1=px*z1) (hy1:y1=py*z1) (on : -(px*px)+py*py=1+dd*(px*px)*(py*py))
 (ha:a=x1*x1) (hb:b=y1*y1) (hc:c=1*2*z1*z1) (hh:h=a+b) (he:e=h-(x1+y1)*(x1+y1)) (hg:g=a-b) (hf:f=c+g) (hx:x=e*f) (hy:y=g*h) (hz:z=f*g) (ht:t=e*h)
 (hrx:rx*(1+dd*px*px*py*py)=px*py+px*py) (hry:ry*(1-dd*px*px*py*py)=py*py+px*px) :
    x=rx*z∧y=ry*z∧t=rx*ry*z∧z = -((z1*z1)*(z1*z1)*((1-dd*px*px*py*py)*(1+dd*px*px*py*py))):=by
  have e1:e = -((z1*z1)*(px*py+px*py)):=by rw [he,hh,ha,hb,hx1,hy1]; grobner
  have e2:h=(z1*z1)*(py*py+px*px):=by rw [hh,ha,hb,hx1,hy1]; grobner
  have e3:g = -((z1*z1)*(1+dd*px*px*py*py)):=by
    have:1+dd*px*px*py*py=py*py-px*px:=by
      clear hx1 hy1 ha hb hc hh he hg hf hx hy hz ht hrx hry e1 e2
      grobner
    rw [this,hg,ha,hb,hx1,hy1]; grobner
  have e4:f=(z1*z1)*(1-dd*px*px*py*py):=by
    rw [hf,e3,hc]
    clear hx1 hy1 on ha hb hc hh he hg hf hx hy hz ht hrx hry e1 e2 e3
    grobner
  rw [←hrx] at e1
  rw [←hry] at e2
  clear hx1 hy1 on ha hb hc hh he hg hf hrx hry
  generalize 1+dd*px*px*py*py=k at *
  generalize 1-dd*px*px*py*py=m at *
  generalize z1*z1=w at *
  subst e1 e2 e3 e4 hx hy hz ht
  refine ⟨?_,?_,?_,?_⟩<;>grobner
theorem Rep.twice {x1 y1 z1 t1:List Nat} {p:Go.Cv.Pt Go.Fp.P Go.Fp.d} (h1:Rep x1 y1 z1 t1 p):∃ x y z t,evVal T 95 [pV x1 y1 z1 t1]=some (pV x y z t)∧Rep x y z t (JZ p p):=by
 obtain ⟨x,y,z,t,hv,Ex,Ey,Ez,Et,a,b,c,h,e,g,f,ha,hb,hc,hh,he,hg,hf,hx,hy,hz,ht⟩:=oN h1.ex h1.ey h1.ez h1.et
 obtain ⟨g1,g2,g3,g4⟩:=OS h1.x h1.y p.on ha hb hc hh he hg hf hx hy hz ht (Go.Cv.Dk Go.Fp.fld p p) (Go.Cv.UW Go.Fp.fld p p)
 refine ⟨x,y,z,t,hv,Ex,Ey,Ez,Et,?_,g1,g2,g3⟩
 rw [g4]
 have F:=Go.Fp.fld
 have w:=F.mul_ne h1.nz h1.nz
 have n:=F.mul_ne (F.mul_ne w w) (F.mul_ne (F.denM p.on p.on) (F.denP p.on p.on))
 intro h0
 exact n (by grobner)
def RepL (l:List Nat) (p:Go.Cv.Pt Go.Fp.P Go.Fp.d):Prop:=∃ x y z t,l=pL x y z t∧Rep x y z t p
theorem RepL.len {l:List Nat} {p:Go.Cv.Pt Go.Fp.P Go.Fp.d} (h:RepL l p):l.length=20:=by
 obtain ⟨x,y,z,t,rfl,h⟩:=h
 exact Yh h.ex h.ey h.ez h.et
theorem tl {d:List Nat} (h1:RepL l p) (h2:RepL m q) (Ed:El d (2^52)) (hd:fe d=Go.Fp.d):∃ r,evVal T 102 [eV l,eV m,eV d]=some (eV r)∧RepL r (JZ p q):=by
 obtain ⟨x,y,z,t,rfl,h1⟩:=h1
 obtain ⟨x2,y2,z2,t2,rfl,h2⟩:=h2
 obtain ⟨a,b,c,e,h3,h4⟩:=h1.plus h2 Ed hd
 exact ⟨pL a b c e,h3,a,b,c,e,rfl,h4⟩
theorem Ij (h1:RepL l p):∃ r,evVal T 95 [eV l]=some (eV r)∧RepL r (JZ p p):=by
 obtain ⟨x,y,z,t,rfl,h1⟩:=h1
 obtain ⟨a,b,c,e,h3,h4⟩:=h1.twice
 exact ⟨pL a b c e,h3,a,b,c,e,rfl,h4⟩
def dK:List Nat:=dig 256 32 Go.Fp.dN
theorem v9:num 256 dK=Go.Fp.dN:=by decide +kernel
theorem dK_lt:∀ x∈dK,x<256:=fun _ h=>Vh (by decide) h
theorem AP:∃ r,evVal T 91 []=some (eV r)∧El r (2^52)∧fe r=Go.Fp.d:=by
 have h:=cQ (k:=dK) (Ze _ _ _) dK_lt
 refine ⟨dig (2^51) 5 (num 256 dK%2^255),?_,Nt,?_⟩
 rotate_left
 ·unfold fe
  rw [Rm,v9]
  rfl
 ·have hl:(dig (2^51) 5 (num 256 dK%2^255)).length=5:=Ze _ _ _
  have hf:fillL (Qa 32 (Value.int .u8 0)) [(0,1,.int .u8 163),(1,1,.int .u8 120),(2,1,.int .u8 89),(3,1,.int .u8 19),(4,1,.int .u8 202),(5,1,.int .u8 77),(6,1,.int .u8 235),(7,1,.int .u8 117),(8,1,.int .u8 171),(9,1,.int .u8 216),(10,1,.int .u8 65),(11,1,.int .u8 65),(12,1,.int .u8 77),(13,1,.int .u8 10),(14,1,.int .u8 112),(15,1,.int .u8 0),(16,1,.int .u8 152),(17,1,.int .u8 232),(18,1,.int .u8 121),(19,1,.int .u8 119),(20,1,.int .u8 121),(21,1,.int .u8 64),(22,1,.int .u8 199),(23,1,.int .u8 140),(24,1,.int .u8 115),(25,1,.int .u8 254),(26,1,.int .u8 111),(27,1,.int .u8 43),(28,1,.int .u8 238),(29,1,.int .u8 108),(30,1,.int .u8 3),(31,1,.int .u8 82)]=some (u8s dK):=by
   have:dK=[163,120,89,19,202,77,235,117,171,216,65,65,77,10,112,0,152,232,121,119,121,64,199,140,115,254,111,43,238,108,3,82]:=by decide +kernel
   rw [this]; rfl
  generalize dig (2^51) 5 (num 256 dK%2^255)=D at *
  apply QC (fn:=a52) rfl
  simp only [a52,Qs,quiet,cW,↓pW,reduceCtorEq,seval,-Qb,hf,h,Qf,Qz,Qy,Q8,Zj,Q9,Za,Q7,hl]
  rfl
theorem kf:evVal T 73 [.int .u32 1]=some (eV [1,0,0,0,0]):=GS (n:=1) (by decide)
theorem T7:El [0,0,0,0,0] (2^52):=U6 (by decide)
theorem SE:fe [0,0,0,0,0]=0:=by rw [U5]; rfl
theorem OH:∃ r,evVal T 96 []=some (eV r)∧RepL r Ko:=by
 refine ⟨pL [0,0,0,0,0] [1,0,0,0,0] [1,0,0,0,0] [0,0,0,0,0],?_,_,_,_,_,rfl,T7,D1,D1,T7,?_,?_,?_,?_⟩
 ·have hf:fillL (Qa 20 (Value.int .u64 0)) [(5,5,eV [1,0,0,0,0]),(10,5,eV [1,0,0,0,0])]=some (ns .u64 (pL [0,0,0,0,0] [1,0,0,0,0] [1,0,0,0,0] [0,0,0,0,0])):=rfl
  have hl:(pL [0,0,0,0,0] [1,0,0,0,0] [1,0,0,0,0] [0,0,0,0,0]).length=20:=rfl
  have hv:=kf
  generalize pL [0,0,0,0,0] [1,0,0,0,0] [1,0,0,0,0] [0,0,0,0,0]=Z at *
  generalize ([1,0,0,0,0]:List Nat)=O at *
  apply QC (fn:=a30) rfl
  simp only [a30,Qs,quiet,cW,↓pW,reduceCtorEq,seval,-Qb,hf,hv,Qf,Qz,Qy,Q8,Zj,Q9,Za,Q7,hl]
  rfl
 ·rw [D0]; exact Go.Fp.VV
 ·rw [SE]; simp only [Go.Cv.Pt.zero]; grobner
 ·rw [D0]; simp only [Go.Cv.Pt.zero]; grobner
 ·rw [SE]; simp only [Go.Cv.Pt.zero]; grobner
theorem Fg (p:Go.Cv.Pt Go.Fp.P Go.Fp.d) (m b:Nat) (hb:b<2):Jq (2*m+b) p=if b=1 then JZ (JZ (Jq m p) (Jq m p)) p else JZ (Jq m p) (Jq m p):=by
 have h1:Jq (2*m) p=JZ (Jq m p) (Jq m p):=by rw [show 2*m=m+m by omega]; exact Go.Cv.mul_add Go.Fp.fld m m p
 by_cases h:b=1
 ·subst h
  rw [if_pos rfl]
  show JZ (Jq (2*m) p) p=_
  rw [h1]
 ·have:b=0:=by omega
  subst this
  rw [if_neg (by decide),ZV,h1]
def muI (l k o d:List Nat) (R:Ob) (i:Int) (ex:Env):St:=⟨[(2,.pointer (some ⟨0,0,none⟩)),(3,.pointer (some ⟨1,0,none⟩)),(4,.pointer (some ⟨2,0,none⟩)),(5,.pointer (some ⟨3,0,none⟩)),(6,.pointer (some ⟨4,0,none⟩)),(7,.int .i64 i)]++ex,[⟨ns .u64 l,true,true,true,1⟩,⟨u8s k,true,true,true,1⟩,R,⟨ns .u64 o,true,true,true,1⟩,⟨ns .u64 d,true,true,true,1⟩],[]⟩
theorem qF {k d:List Nat} (hl:RepL l p) (lk:k.length=32) (xk:∀ x∈k,x<256) (hi:i<256) (Ed:El d (2^52)) (hd:fe d=Go.Fp.d) (ho:RepL o (Jq (num 256 k/2^(i+1)) p)) :
  ∃ r,Q5 T 0 R5 (muI l k o d R i [])=some (.normal,muI l k r d R ((i:Int)-1) [])∧RepL r (Jq (num 256 k/2^i) p):=by
 obtain ⟨b,hb⟩:∃ b,k[i/8]?=some b:=⟨_,Qe (by omega)⟩
 have hbv:=Kk (B:=256) (by decide) xk hb
 have hbc:=Jk hb
 have hbit:b/2^(i%8)%2=num 256 k/2^i%2:=by
  rw [←hbv,show (256:Nat)=2^8 from rfl,Tb (Q6 _ (by decide)),Z0]
 obtain ⟨r1,m1,g1⟩:=Ij ho
 obtain ⟨r2,m2,g3⟩:=tl g1 hl Ed hd
 have hlt:=Ut (num 256 k) i
 have hnum:num 256 k/2^i=2*(num 256 k/2^(i+1))+num 256 k/2^i%2:=by
  rw [Zi,←QV]
  omega
 have hstep:=Fg p (num 256 k/2^(i+1)) (num 256 k/2^i%2) hlt
 rw [←hnum] at hstep
 have s1:(2:Int)^min (i%8) IntKind.u8.bits=((2^(i%8):Nat):Int):=Bj (J3 (Q6 _ (by decide)))
 have w2:IntKind.i64.wrap ((i/8:Nat):Int)=((i/8:Nat):Int):=Zu (by omega)
 have w3:IntKind.i64.wrap ((i:Int)-1)=(i:Int)-1:=Zh (by omega) (by omega)
 have e1:((0:Int)≤(i:Int))=True:=eq_true (by omega)
 have e3:(((i/8:Nat):Int)<32)=True:=eq_true (by omega)
 have e4:(((i%8:Nat):Int)<0)=False:=eq_false (by omega)
 have l1:=hl.len
 have l2:=ho.len
 have l3:=g1.len
 have l4:=g3.len
 have l5:=Ed.len
 generalize hB:num 256 k/2^i%2=B at *
 by_cases hB1:B=1
 ·have hbq:((B:Int)==1)=true:=by rw [hB1]; rfl
  rw [if_pos hB1] at hstep
  refine ⟨r2,?_,by rw [hstep]; exact g3⟩
  simp only [muI,R5,Qs,quiet,cW,↓pW,reduceCtorEq,seval,-Qb,cU,hbc,hbit,s1,w2,w3,e1,e3,e4,m1,m2,hbq,Qz,Qy,Q8,Zj,Q9,Q7,l1,l2,l3,l4,l5,Za]
 ·have hbq:((B:Int)==1)=false:=by
   have:B=0:=by omega
   rw [this]; rfl
  rw [if_neg hB1] at hstep
  refine ⟨r1,?_,by rw [hstep]; exact g1⟩
  simp only [muI,R5,Qs,quiet,cW,↓pW,reduceCtorEq,seval,-Qb,cU,hbc,hbit,s1,w2,w3,e1,e3,e4,m1,m2,hbq,Qz,Qy,Q8,Zj,Q9,Q7,l1,l2,l3,l4,l5,Za]
theorem Wz {k:List Nat} (hl:RepL l p) (lk:k.length=32) (xk:∀ x∈k,x<256):∃ r,evVal T 51 [eV l,.agg (u8s k).toArray]=some (eV r)∧RepL r (Jq (num 256 k) p):=by
 have hK:=num_lt xk
 rw [lk,show (256:Nat)^32=2^256 from by rw [show (256:Nat)=2^8 from rfl,←Ja]] at hK
 obtain ⟨z,hz,hz2⟩:=OH
 obtain ⟨d,hd1,Ed,hd⟩:=AP
 obtain ⟨st,hb,r,rfl,hr1⟩:=Zm (T:=T) (base:=0) (id:=0) (body:=R5)
  (fun j st=>∃ r:List Nat,st=muI l k r d ⟨Qa 20 (.int .u64 0),true,true,true,1⟩ ((255:Int)-j) []∧RepL r (Jq (num 256 k/2^(256-j)) p))
  (Q:=fun st=>∃ r:List Nat,st=muI l k r d ⟨Qa 20 (.int .u64 0),true,true,true,1⟩ (-1) [(11,.bool false)]∧RepL r (Jq (num 256 k) p))
  256 (s:=muI l k z d ⟨Qa 20 (.int .u64 0),true,true,true,1⟩ 255 []) ⟨_,rfl,by rw [Kt,JH hK]; exact hz2⟩
  (fun j st hj hs=>by
   obtain ⟨r,rfl,h2⟩:=hs
   obtain ⟨i,hi⟩:∃ i,256-j=i+1:=⟨255-j,by omega⟩
   rw [hi] at h2
   obtain ⟨r',g1,g3⟩:=qF (R:=⟨Qa 20 (.int .u64 0),true,true,true,1⟩) hl lk xk (i:=i) (by omega) Ed hd h2
   rw [show (255:Int)-j=(i:Int) by omega]
   refine ⟨_,g1,r',?_,?_⟩
   ·rw [show (255:Int)-((j+1:Nat):Int)=(i:Int)-1 by omega]
   ·rw [show 256-(j+1)=i by omega]; exact g3)
  (fun st hs=>by
   obtain ⟨r,rfl,h2⟩:=hs
   rw [Q3,ZQ,Jy] at h2
   have e:((0:Int) ≤ -1)=False:=by decide
   refine ⟨_,?_,r,rfl,h2⟩
   rw [show (255:Int)-((256:Nat):Int) = -1 by omega]
   simp only [muI,R5,Qs,quiet,cK,↓pQ,reduceCtorEq,seval,-Qb,cL,e])
 refine ⟨r,?_,hr1⟩
 have l1:=hl.len
 have l2:=hz2.len
 have l3:=hr1.len
 have l4:=Ed.len
 simp only [muI,Qo,Qm] at hb
 apply QC (fn:=a26) rfl
 simp only [a26,Qs,quiet,cW,↓pW,reduceCtorEq,seval,-Qb,hz,hd1,hb,muI,Qf,Qz,Qy,Q8,Zj,Q9,Q7,l1,l2,l3,l4,Za]
 rfl
theorem uK (hl:RepL l p):∃ r,evVal T 52 [eV l]=some (eV r)∧RepL r p.neg:=by
 obtain ⟨x,y,z,t,rfl,h⟩:=hl
 obtain ⟨a,ha,Ea,fa⟩:=Fw h.ex
 obtain ⟨b,hb,Eb,fb⟩:=Fw h.et
 obtain ⟨q0,q1,q2,q3⟩:=Ps h.ex h.ey h.ez h.et
 have hf:=RM Ea h.ey h.ez Eb
 have p1:=Yh h.ex h.ey h.ez h.et
 have p2:=Yh Ea h.ey h.ez Eb
 refine ⟨pL a y z b,?_,a,y,z,b,rfl,Ea,h.ey,h.ez,Eb,h.nz,?_,?_,?_⟩
 ·generalize pL x y z t=L,pL a y z b=M at *
  apply QC (fn:=a34) rfl
  simp only [a34,Qs,quiet,cW,↓pW,reduceCtorEq,seval,-Qb,q0,q1,q2,q3,ha,hb,hf,Qf,Qz,Qy,Q8,Zj,Q9,Q7,p1,p2,Za]
  rfl
 ·rw [fa,h.x]; simp only [Go.Cv.Pt.neg]; grobner
 ·rw [h.y]; rfl
 ·rw [fb,h.t]; simp only [Go.Cv.Pt.neg]; grobner
instance decPt (p q:Go.Cv.Pt Go.Fp.P Go.Fp.d):Decidable (p=q):=if h:p.x=q.x∧p.y=q.y then isTrue (Go.Cv.Pt.ext h.1 h.2) else isFalse (fun e=>h (by rw [e]; exact ⟨rfl,rfl⟩))
theorem gN {a b w:Go.Fp.Fe} (hz:z≠0) (hw:w≠0):(a*z*w=b*w*z)=(a=b):=by
 apply propext
 constructor
 ·intro h
  have F:=Go.Fp.fld
  refine F.cancel (F.mul_ne hz hw) ?_
  grobner
 ·intro h; subst h; grobner
theorem rH (h1:RepL l p) (h2:RepL m q):evVal T 94 [eV l,eV m]=some (.bool (decide (p=q))):=by
 obtain ⟨x1,y1,z1,t1,rfl,h1⟩:=h1
 obtain ⟨x2,y2,z2,t2,rfl,h2⟩:=h2
 obtain ⟨a,ha,Ea,fa⟩:=Xf h1.ex h2.ez
 obtain ⟨b,hb,Eb,fb⟩:=Xf h2.ex h1.ez
 obtain ⟨c,hc,Ec,fc⟩:=Xf h1.ey h2.ez
 obtain ⟨e,he,Ee,fe_⟩:=Xf h2.ey h1.ez
 have q1:=rI Ea Eb
 have q2:=rI Ec Ee
 rw [fa,fb,h1.x,h2.x] at q1
 rw [fc,fe_,h1.y,h2.y] at q2
 simp only [gN h1.nz h2.nz] at q1 q2
 obtain ⟨u0,u1,u2,u3⟩:=Ps h1.ex h1.ey h1.ez h1.et
 obtain ⟨v0,v1,v2,v3⟩:=Ps h2.ex h2.ey h2.ez h2.et
 have p1:=Yh h1.ex h1.ey h1.ez h1.et
 have p2:=Yh h2.ex h2.ey h2.ez h2.et
 generalize pL x1 y1 z1 t1=L,pL x2 y2 z2 t2=M at *
 by_cases hx:p.x=q.x
 ·rw [decide_eq_true hx] at q1
  have hd:decide (p=q)=decide (p.y=q.y):=by
   by_cases hy:p.y=q.y
   ·rw [decide_eq_true hy,decide_eq_true (Go.Cv.Pt.ext hx hy)]
   ·rw [decide_eq_false hy,decide_eq_false (fun h=>hy (by rw [h]))]
  rw [hd]
  apply QC (fn:=a28) rfl
  simp only [a28,Qs,quiet,cW,↓pW,reduceCtorEq,seval,-Qb,u0,u1,u2,v0,v1,v2,ha,hb,hc,he,q1,q2,Qf,Qz,Qy,Q8,Zj,Q9,Q7,p1,p2,Za]
  rfl
 ·rw [decide_eq_false hx] at q1
  rw [decide_eq_false (fun h=>hx (by rw [h]))]
  apply QC (fn:=a28) rfl
  simp only [a28,Qs,quiet,cW,↓pW,reduceCtorEq,seval,-Qb,u0,u1,u2,v0,v1,v2,ha,hb,hc,he,q1,q2,Qf,Qz,Qy,Q8,Zj,Q9,Q7,p1,p2,Za]
  rfl
theorem np (p:Go.Cv.Pt Go.Fp.P Go.Fp.d):JZ (JZ (JZ p p) (JZ p p)) (JZ (JZ p p) (JZ p p))=Jq 8 p:=by
 have h2:Jq 2 p=JZ p p:=Go.Cv.mul_two Go.Fp.fld p
 have h4:Jq 4 p=JZ (Jq 2 p) (Jq 2 p):=Go.Cv.mul_add Go.Fp.fld 2 2 p
 have h8:Jq 8 p=JZ (Jq 4 p) (Jq 4 p):=Go.Cv.mul_add Go.Fp.fld 4 4 p
 rw [h8,h4,h2]
theorem tU (h:RepL l p):evVal T 46 [eV l]=some (.bool (decide (Jq 8 p=Ko))):=by
 obtain ⟨a,ha,ra⟩:=Ij h
 obtain ⟨b,hb,rb⟩:=Ij ra
 obtain ⟨c,hc,rc⟩:=Ij rb
 obtain ⟨z,hz,rz⟩:=OH
 have he:=rH rc rz
 rw [np] at he
 have p1:=h.len
 apply QC (fn:=a39) rfl
 simp only [a39,Qs,quiet,cW,↓pW,reduceCtorEq,seval,-Qb,ha,hb,hc,hz,he,Qz,Qy,Q8,Zj,Q9,Q7,p1,Za]
 rfl
def Mc (p:Go.Cv.Pt Go.Fp.P Go.Fp.d):Nat:=p.y.val+(p.x.val%2)*2^255
def enc (p:Go.Cv.Pt Go.Fp.P Go.Fp.d):List Nat:=dig 256 32 (Mc p)
theorem WX (p:Go.Cv.Pt Go.Fp.P Go.Fp.d):(enc p).length=32:=Ze _ _ _
theorem Sn (p:Go.Cv.Pt Go.Fp.P Go.Fp.d):∀ x∈enc p,x<256:=Yn
theorem BR (a:Go.Fp.Fe):a.val<2^255:=JO a.isLt (by rw [Go.Fp.GJ]; decide)
theorem IM (p:Go.Cv.Pt Go.Fp.P Go.Fp.d):Mc p<256^32:=by
 have h1:=BR p.y
 have h2:=Q6 p.x.val (by decide:0<2)
 unfold Mc
 have:p.x.val%2*2^255≤1*2^255:=Zq _ (by omega)
 have e:(256:Nat)^32=2^255+2^255:=by decide
 omega
theorem Mb (h:RepL l p):evVal T 53 [eV l]=some (.agg (u8s (enc p)).toArray):=by
 obtain ⟨x,y,z,t,rfl,h⟩:=h
 obtain ⟨i,hi,Ei,fi⟩:=NF h.ez
 obtain ⟨a,ha,Ea,fa⟩:=Xf h.ey Ei
 obtain ⟨b,hb,Eb,fb⟩:=Xf h.ex Ei
 have hinv:=Go.Fp.KK h.nz
 have fa':fe a=p.y:=by rw [fa,fi,h.y]; grobner
 have fb':fe b=p.x:=by rw [fb,fi,h.x]; grobner
 have k1:=Bu Ea
 have k2:=kF Eb
 rw [fa'] at k1
 rw [fb'] at k2
 obtain ⟨u0,u1,u2,u3⟩:=Ps h.ex h.ey h.ez h.et
 have p1:=Yh h.ex h.ey h.ez h.et
 have L1:=Ei.len
 have lk:(dig 256 32 p.y.val).length=32:=Ze _ _ _
 have l0:(dig 256 32 0).length=32:=rfl
 have hz32:Qa 32 (Value.int .u8 0)=u8s (dig 256 32 0):=rfl
 generalize pL x y z t=L at *
 by_cases ho:p.x.val%2=1
 ·rw [decide_eq_true ho] at k2
  have hv:=BR p.y
  obtain ⟨w,hw⟩:∃ w,(dig 256 32 p.y.val)[31]?=some w:=⟨_,Qe (by rw [Ze]; decide)⟩
  have hwc:=Jk hw
  have hw':w<256:=Vh (by decide) (Qn hw)
  have hput:=T2 (w:=8) (m:=32) (q:=31) (s:=7) (y:=1) (M:=p.y.val) (by decide) (by decide) hv (by decide)
  have hgd:(dig (2^8) 32 p.y.val).getD 31 0=w:=by rw [QB]; rw [show (2:Nat)^8=256 from rfl,hw]; rfl
  rw [hgd] at hput
  have hset:=Xg (dig 256 32 p.y.val) 31 (w|||128)
  rw [show (dig 256 32 p.y.val).set 31 (w|||128)=enc p from by rw [enc,Mc,ho]; exact hput] at hset
  have o1:Zz .or .u8 (w:Int) 128=((w|||128:Nat):Int):=KD (k := .u8) (a:=w) (b:=128) rfl hw' (by decide)
  have le:=WX p
  generalize enc p=E at *
  apply QC (fn:=a29) rfl
  simp only [a29,Qs,quiet,cW,↓pW,reduceCtorEq,seval,-Qb,hz32,u0,u1,u2,hi,ha,hb,k1,k2,hwc,o1,hset,Qf,Qz,Qy,Q8,Zj,Q9,Q7,Qq,lk,l0,le,p1,L1,Za]
  rfl
 ·rw [decide_eq_false ho] at k2
  have he:enc p=dig 256 32 p.y.val:=by rw [enc,Mc,show p.x.val%2=0 by omega,Ks,ZV]
  rw [he]
  generalize dig 256 32 p.y.val=E at *
  apply QC (fn:=a29) rfl
  simp only [a29,Qs,quiet,cW,↓pW,reduceCtorEq,seval,-Qb,hz32,u0,u1,u2,hi,ha,hb,k1,k2,Qf,Qz,Qy,Q8,Zj,Q9,Q7,Qq,lk,l0,p1,L1,Za]
  rfl
def bxN:Nat:=15112221349535400772501151409588531511454012693041857206046113283949847762202
def byN:Nat:=46316835694926478169428394003475163141307993866256225615783033603165251855960
def Xi:Go.Cv.Pt Go.Fp.P Go.Fp.d:=⟨Go.Fp.fp bxN,Go.Fp.fp byN,by
 unfold Go.Cv.On Go.Fp.d
 have h:(Go.Fp.fp byN*Go.Fp.fp byN:Go.Fp.Fe)=Go.Fp.fp bxN*Go.Fp.fp bxN+(1+Go.Fp.fp Go.Fp.dN*(Go.Fp.fp bxN*Go.Fp.fp bxN)*(Go.Fp.fp byN*Go.Fp.fp byN)):=by
  rw [←Go.Fp.IK,←Go.Fp.XS,←Go.Fp.XS,←Go.Fp.XS,←Go.Fp.XS,←Go.Fp.Vg,←Go.Fp.Vg]
  exact Go.Fp.RK.2 (by decide +kernel)
 grobner⟩
def bxK:List Nat:=dig 256 32 bxN
def byK:List Nat:=dig 256 32 byN
theorem sf:num 256 bxK=bxN:=by decide +kernel
theorem rZ:num 256 byK=byN:=by decide +kernel
theorem S7:∃ r,evVal T 50 []=some (eV r)∧RepL r Xi:=by
 have h1:=cQ (k:=bxK) (Ze _ _ _) Yn
 have h2:=cQ (k:=byK) (Ze _ _ _) Yn
 have E1:=Nt (V:=num 256 bxK%2^255)
 have E2:=Nt (V:=num 256 byK%2^255)
 have f1:fe (dig (2^51) 5 (num 256 bxK%2^255))=Go.Fp.fp bxN:=by unfold fe; rw [Rm,sf]; rfl
 have f2:fe (dig (2^51) 5 (num 256 byK%2^255))=Go.Fp.fp byN:=by unfold fe; rw [Rm,rZ]; rfl
 generalize dig (2^51) 5 (num 256 bxK%2^255)=X,dig (2^51) 5 (num 256 byK%2^255)=Y at *
 obtain ⟨t,ht,Et,ft⟩:=Xf E1 E2
 have E3:∃ O:List Nat,O=[1,0,0,0,0]:=⟨_,rfl⟩
 obtain ⟨O,hO⟩:=E3
 have E3:El O (2^52):=by rw [hO]; exact D1
 have v1:evVal T 73 [.int .u32 1]=some (eV O):=by rw [hO]; exact kf
 have f3:fe O=1:=by rw [hO]; exact D0
 clear hO
 have hf:=RM E1 E2 E3 Et
 have p1:=Yh E1 E2 E3 Et
 refine ⟨pL X Y O t,?_,X,Y,O,t,rfl,E1,E2,E3,Et,by rw [f3]; exact Go.Fp.VV,by rw [f1,f3]; simp only [Xi]; grobner,by rw [f2,f3]; simp only [Xi]; grobner,by rw [ft,f1,f2,f3]; simp only [Xi]; grobner⟩
 have L1:=E1.len
 have L2:=E2.len
 have g1:fillL (Qa 32 (Value.int .u8 0)) [(0,1,.int .u8 26),(1,1,.int .u8 213),(2,1,.int .u8 37),(3,1,.int .u8 143),(4,1,.int .u8 96),(5,1,.int .u8 45),(6,1,.int .u8 86),(7,1,.int .u8 201),(8,1,.int .u8 178),(9,1,.int .u8 167),(10,1,.int .u8 37),(11,1,.int .u8 149),(12,1,.int .u8 96),(13,1,.int .u8 199),(14,1,.int .u8 44),(15,1,.int .u8 105),(16,1,.int .u8 92),(17,1,.int .u8 220),(18,1,.int .u8 214),(19,1,.int .u8 253),(20,1,.int .u8 49),(21,1,.int .u8 226),(22,1,.int .u8 164),(23,1,.int .u8 192),(24,1,.int .u8 254),(25,1,.int .u8 83),(26,1,.int .u8 110),(27,1,.int .u8 205),(28,1,.int .u8 211),(29,1,.int .u8 54),(30,1,.int .u8 105),(31,1,.int .u8 33)]=some (u8s bxK):=by
  have:bxK=[26,213,37,143,96,45,86,201,178,167,37,149,96,199,44,105,92,220,214,253,49,226,164,192,254,83,110,205,211,54,105,33]:=by decide +kernel
  rw [this]; rfl
 have g2:fillL (Qa 32 (Value.int .u8 0)) [(0,1,.int .u8 88),(1,1,.int .u8 102),(2,1,.int .u8 102),(3,1,.int .u8 102),(4,1,.int .u8 102),(5,1,.int .u8 102),(6,1,.int .u8 102),(7,1,.int .u8 102),(8,1,.int .u8 102),(9,1,.int .u8 102),(10,1,.int .u8 102),(11,1,.int .u8 102),(12,1,.int .u8 102),(13,1,.int .u8 102),(14,1,.int .u8 102),(15,1,.int .u8 102),(16,1,.int .u8 102),(17,1,.int .u8 102),(18,1,.int .u8 102),(19,1,.int .u8 102),(20,1,.int .u8 102),(21,1,.int .u8 102),(22,1,.int .u8 102),(23,1,.int .u8 102),(24,1,.int .u8 102),(25,1,.int .u8 102),(26,1,.int .u8 102),(27,1,.int .u8 102),(28,1,.int .u8 102),(29,1,.int .u8 102),(30,1,.int .u8 102),(31,1,.int .u8 102)]=some (u8s byK):=by
  have:byK=[88,102,102,102,102,102,102,102,102,102,102,102,102,102,102,102,102,102,102,102,102,102,102,102,102,102,102,102,102,102,102,102]:=by decide +kernel
  rw [this]; rfl
 generalize pL X Y O t=Q at *
 apply QC (fn:=a25) rfl
 simp only [a25,Qs,quiet,cW,↓pW,reduceCtorEq,seval,-Qb,g1,g2,h1,h2,v1,ht,hf,Qf,Qz,Qy,Q8,Zj,Q9,Q7,p1,L1,L2,Za]
 rfl
theorem uv (hb:b.length=20) (ha:a.length=n):Zf 20 (Jo n (ns .u64 (a++(b++c))))=ns .u64 b:=by
 simp only [GZ]
 rw [ZX (by rw [Q7]; omega),Zw (by rw [Q7]; omega),Qm,ZO (by rw [Q7]; omega),Ql (by rw [Q7]; omega)]
theorem er {l:List Ob} {r d:List Nat} {g:List Ob} (hi:i<n) (hn:n<100) (l1:x.length=20) (l2:o.length=20) (l4:d.length=5) (hm:evVal T 102 [eV o,eV x,eV d]=some (eV r)) (l3:r.length=20)
 (hA:∀ l,(H++l)[id]?=some ⟨cs,true,true,true,1⟩) (hcs:(cs.drop (i*20)).take 20=ns .u64 x) (hlen:i*20+20≤cs.length) :
    Q5 T H.length CN ⟨[(2,.pointer (some ⟨H.length,0,none⟩)),(3,.pointer (some ⟨H.length+1,0,none⟩)),(4,.pointer (some ⟨H.length+2,0,none⟩)),(9,.slice (some ⟨id,0,none⟩) n n),(10,.int .i64 n),(11,.int .i64 i)],H++(R::⟨ns .u64 o,true,true,true,1⟩::⟨ns .u64 d,true,true,true,1⟩::g),[]⟩ =
      some (.normal,⟨[(2,.pointer (some ⟨H.length,0,none⟩)),(3,.pointer (some ⟨H.length+1,0,none⟩)),(4,.pointer (some ⟨H.length+2,0,none⟩)),(9,.slice (some ⟨id,0,none⟩) n n),(10,.int .i64 n),(11,.int .i64 ((i+1:Nat):Int))],H++(R::⟨ns .u64 r,true,true,true,1⟩::⟨ns .u64 d,true,true,true,1⟩::(g++[⟨ns .u64 x,true,true,true,1⟩])),[]⟩):=by
  have hz:∃ Z,Qa 20 (Value.int .u64 0)=ns .u64 Z∧Z.length=20:=⟨Qa 20 0,rfl,rfl⟩
  obtain ⟨Z,hz,l0⟩:=hz
  have e1:((i:Int)<(n:Int))=True:=eq_true (by omega)
  have w3:IntKind.i64.wrap ((i:Int)+1)=((i+1:Nat):Int):=Zu (n:=i+1) (by omega)
  simp only [CN,Qs,quiet,cF,JG,QR,↓pQ,reduceCtorEq,seval,-Qb,cL,cJ,QW,hz,hA,hcs,hlen,hm,Qy,Q8,Zj,Q9,Q7,l0,l1,l2,l3,l4,Za,e1,w3]
inductive Reps:List (List Nat)→List (Go.Cv.Pt Go.Fp.P Go.Fp.d)→Prop
 | nil:Reps [] []
 | cons {x xs p ps}:RepL x p→Reps xs ps→Reps (x::xs) (p::ps)
theorem Reps.len {xs:List (List Nat)} {ps:List (Go.Cv.Pt Go.Fp.P Go.Fp.d)} (h:Reps xs ps):xs.length=ps.length:=by
 induction h with
 | nil=>rfl
 | cons _ _ ih=>simp [ih]
theorem Reps.all {xs:List (List Nat)} {ps:List (Go.Cv.Pt Go.Fp.P Go.Fp.d)} (h:Reps xs ps):∀ x∈xs,x.length=20:=by
 induction h with
 | nil=>simp
 | cons h _ ih=>intro y hy; rcases Jj.1 hy with rfl | hy; exact h.len; exact ih y hy
theorem Reps.get {xs:List (List Nat)} {ps:List (Go.Cv.Pt Go.Fp.P Go.Fp.d)} (h:Reps xs ps):∀ {i:Nat} {x:List Nat},xs[i]?=some x→∃ p,ps[i]?=some p∧RepL x p:=by
 induction h with
 | nil=>intro i x h; simp at h
 | cons h _ ih =>
  intro i x hx
  cases i with
  | zero=>simp at hx; subst hx; exact ⟨_,rfl,h⟩
  | succ i=>simp at hx; simpa using ih hx
theorem mR:∀ (ys:List (List Nat)),(∀ x∈ys,x.length=20)→ys.flatten.length=ys.length*20:=by
 intro ys hy
 induction ys with
 | nil=>rfl
 | cons y ys ih =>
  rw [QL,Qj,ih (fun x hx=>hy x (by simp [hx])),(hy y (by simp)),Zo]; omega
theorem sQ {xs:List (List Nat)} {ps:List (Go.Cv.Pt Go.Fp.P Go.Fp.d)} (hn:xs.length=n) (hN:n<100) (hx:Reps xs ps) (h:H[id]?=some ⟨ns .u64 xs.flatten,true,true,true,1⟩) :
  ∃ r d,Z6 T 49 [.slice (some ⟨id,0,none⟩) n n] H=some (eV r,H++(⟨ns .u64 r,true,true,true,1⟩::⟨ns .u64 r,true,true,true,1⟩::⟨ns .u64 d,true,true,true,1⟩::xs.map fun x=>(⟨ns .u64 x,true,true,true,1⟩:Ob)),[])∧RepL r (ps.foldl JZ Ko):=by
 have hid:id<H.length:=(Qg.1 h).1
 have hA:∀ l,(H++l)[id]?=some ⟨ns .u64 xs.flatten,true,true,true,1⟩:=fun l=>by rw [Qc hid]; exact h
 obtain ⟨d,hd,Ed,fd⟩:=AP
 obtain ⟨z,hz,Ez⟩:=OH
 have hZ:∃ Z,Qa 20 (Value.int .u64 0)=ns .u64 Z∧Z.length=20:=⟨Qa 20 0,rfl,rfl⟩
 obtain ⟨Z,hZ,l0⟩:=hZ
 obtain ⟨st,hb,r,rfl,hr1⟩:=Zm (T:=T) (base:=H.length) (id:=0) (body:=CN)
  (fun i st=>∃ r:List Nat,st=⟨[(2,.pointer (some ⟨H.length,0,none⟩)),(3,.pointer (some ⟨H.length+1,0,none⟩)),(4,.pointer (some ⟨H.length+2,0,none⟩)),(9,.slice (some ⟨id,0,none⟩) n n),(10,.int .i64 n),(11,.int .i64 (i:Nat))],H++(⟨ns .u64 Z,true,true,true,1⟩::⟨ns .u64 r,true,true,true,1⟩::⟨ns .u64 d,true,true,true,1⟩::((xs.take i).map fun x=>(⟨ns .u64 x,true,true,true,1⟩:Ob))),[]⟩∧RepL r ((ps.take i).foldl JZ Ko))
  (Q:=fun st=>∃ r:List Nat,st=⟨[(2,.pointer (some ⟨H.length,0,none⟩)),(3,.pointer (some ⟨H.length+1,0,none⟩)),(4,.pointer (some ⟨H.length+2,0,none⟩)),(9,.slice (some ⟨id,0,none⟩) n n),(10,.int .i64 n),(11,.int .i64 n),(12,.bool false)],H++(⟨ns .u64 Z,true,true,true,1⟩::⟨ns .u64 r,true,true,true,1⟩::⟨ns .u64 d,true,true,true,1⟩::(xs.map fun x=>(⟨ns .u64 x,true,true,true,1⟩:Ob))),[]⟩∧RepL r (ps.foldl JZ Ko))
  n (s:=⟨[(2,.pointer (some ⟨H.length,0,none⟩)),(3,.pointer (some ⟨H.length+1,0,none⟩)),(4,.pointer (some ⟨H.length+2,0,none⟩)),(9,.slice (some ⟨id,0,none⟩) n n),(10,.int .i64 n),(11,.int .i64 0)],H++[⟨ns .u64 Z,true,true,true,1⟩,⟨ns .u64 z,true,true,true,1⟩,⟨ns .u64 d,true,true,true,1⟩],[]⟩) ⟨z,rfl,Ez⟩
  (fun i st hi hs=>by
   obtain ⟨r,rfl,hr1⟩:=hs
   obtain ⟨x,hxi⟩:∃ y,xs[i]?=some y:=⟨_,Qe (by omega)⟩
   obtain ⟨p,hpi,hxe⟩:=hx.get hxi
   obtain ⟨r',hm,g1⟩:=tl hr1 hxe Ed fd
   have hsplit:xs=xs.take i++x::xs.drop (i+1):=by
    have h1:=Qg.1 hxi
    conv=>lhs; rw [←Z7 i xs,J6 h1.1,h1.2]
   have htl:(xs.take i).flatten.length=i*20:=by
    rw [mR _ (fun y hy=>hx.all y (QU hy)),Q4,Zp (by omega)]
   have hcs:((ns .u64 xs.flatten).drop (i*20)).take 20=ns .u64 x:=by
    conv=>lhs; rw [hsplit,ZE,QL]
    exact uv hxe.len htl
   have hb:=er (R:=⟨ns .u64 Z,true,true,true,1⟩) (g:=(xs.take i).map fun x=>(⟨ns .u64 x,true,true,true,1⟩:Ob)) (l:=[]) hi hN hxe.len hr1.len Ed.len hm g1.len hA hcs (by rw [Q7,mR xs hx.all,hn]; omega)
   have htk:xs.take (i+1)=xs.take i++[x]:=by rw [Z5,hxi]; rfl
   have htp:ps.take (i+1)=ps.take i++[p]:=by rw [Z5,hpi]; rfl
   refine ⟨_,hb,r',?_,?_⟩
   ·rw [htk,Km]; rfl
   ·rw [htp,List.foldl_append]; exact g1)
  (fun st hs=>by
   obtain ⟨r,rfl,hr1⟩:=hs
   have e1:((n:Int)<(n:Int))=False:=eq_false (by omega)
   have ht:xs.take n=xs:=Ql (by omega)
   have ht2:ps.take n=ps:=Ql (by have:=hx.len; omega)
   rw [ht2] at hr1
   rw [ht]
   refine ⟨_,?_,r,rfl,hr1⟩
   simp only [CN,Qs,quiet,cF,JG,QR,↓pQ,reduceCtorEq,seval,-Qb,cL,e1])
 refine ⟨r,d,?_,hr1⟩
 have l1:=hr1.len
 have l2:=Ez.len
 have l3:=Ed.len
 rw [Zg (fn:=a27) rfl]
 have hz5:Qa 5 (Value.int .u64 0)=ns .u64 [0,0,0,0,0]:=rfl
 have l5:([0,0,0,0,0]:List Nat).length=5:=rfl
 simp only [a27,Qs,quiet,cF,JG,QR,↓pQ,reduceCtorEq,seval,-Qb,cL,cJ,QW,hZ,hz5,l5,hd,hz,hb,Qy,Q8,Zj,Q9,Q7,l0,l1,l2,l3,Za]
theorem fold2:[p,q].foldl JZ Ko=JZ p q:=by
 show JZ (JZ Ko p) q=_
 rw [show JZ Ko p=p from Go.Cv.zero_add Go.Fp.fld p]
def WR (u v:Go.Fp.Fe):Go.Fp.Fe:=u*(v*v*v)*Go.Fp.pow (u*(v*v*v)*(v*v*v)*v) (2^252-1-2)
def jj:Go.Fp.Fe:=Go.Fp.pow 2 (2^253-1-4)
theorem jj_eq:jj=Go.Fp.iQ:=by
 show Go.Fp.pow (Go.Fp.fp 2) _=Go.Fp.fp Go.Fp.iN
 exact Go.Fp.Ag (f:=256) (by decide +kernel) (by decide +kernel)
theorem jj_sq:jj*jj = -1:=by rw [jj_eq]; exact Go.Fp.Pd
theorem quarter:(2^252-1-2)+(2^252-1-2)+1+((2^252-1-2)+(2^252-1-2)+1)=(Go.Fp.P-1)/2:=by rw [Go.Fp.GJ]
theorem qz {u v s:Go.Fp.Fe} (h1:v*WR u v*WR u v≠u) (h2:v*WR u v*WR u v ≠ -u):v*(s*s)≠u:=fun hs=>by
 have F:=Go.Fp.fld
 obtain ⟨g,hg⟩:∃ g,g=v*v*v*v*s:=⟨_,rfl⟩
 have ht:u*(v*v*v)*(v*v*v)*v=g*g:=by subst hg; subst hs; grobner
 rcases Go.Fp.Ah g with h | h
 ·obtain ⟨k,hk⟩:∃ k,k=2^252-1-2:=⟨_,rfl⟩
  have hq:=quarter
  rw [←hk] at hq
  rw [←hq,Go.Fp.pow_add,Go.Fp.pow_add,Go.Fp.pow_add,Go.Fp.pow_one] at h
  have hw:WR u v=u*(v*v*v)*Go.Fp.pow (g*g) k:=by unfold WR; rw [ht,hk]
  rw [hw] at h1 h2
  generalize Go.Fp.pow (g*g) k=q at *
  have he:(q*q*(g*g)-1)*(q*q*(g*g)+1)=0:=by clear h1 h2 hw ht hg hs; grobner
  have hv:v*(u*(v*v*v)*q)*(u*(v*v*v)*q)=u*(q*q*(g*g)):=by clear h1 h2 hw hg hs he h; grobner
  rcases F.dom he with h | h
  ·exact h1 (by rw [hv]; clear h1 h2 hw ht hg hs he hv; grobner)
  ·exact h2 (by rw [hv]; clear h1 h2 hw ht hg hs he hv; grobner)
 ·have hu:u*(v*v*v)*(v*v*v)*v=0:=by rw [ht,h]; grobner
  have hu0:u=0:=by
   rcases F.dom hu with h0 | h0
   ·rcases F.dom h0 with h0 | h0
    ·rcases F.dom h0 with h0 | h0
     ·exact h0
     ·rcases F.dom h0 with h0 | h0
      ·rcases F.dom h0 with h0 | h0<;>(rw [←hs,h0]; grobner)
      ·rw [←hs,h0]; grobner
    ·rcases F.dom h0 with h0 | h0
     ·rcases F.dom h0 with h0 | h0<;>(rw [←hs,h0]; grobner)
     ·rw [←hs,h0]; grobner
   ·rw [←hs,h0]; grobner
  exact h1 (by unfold WR; rw [hu0]; grobner)
theorem qi:evVal T 133 [.int .i64 252,.int .u8 2]=some (.agg (u8s (dig 256 32 (2^252-1-2))).toArray):=PA (n:=252) (less:=2) (by decide) (by decide) (by decide)
theorem qh:evVal T 133 [.int .i64 253,.int .u8 4]=some (.agg (u8s (dig 256 32 (2^253-1-4))).toArray):=PA (n:=253) (less:=4) (by decide) (by decide) (by decide)
def LC (r:List Nat) (ok:Bool):Value := .tuple #[eV r,.bool ok]
theorem ud {u v:List Nat} (Eu:El u (2^52)) (Ev:El v (2^52)) :
  ∃ r ok,evVal T 88 [eV u,eV v]=some (LC r ok)∧El r (2^52)∧(ok=true→fe v*(fe r*fe r)=fe u∧((fe r).val%2=0∨fe r=0))∧(ok=false→∀ s,fe v*(s*s)≠fe u):=by
 obtain ⟨r1,hr1,Er1,fr1⟩:=WS (H:=[⟨ns .u64 u,true,true,true,1⟩,⟨ns .u64 v,true,true,true,1⟩,⟨ns .u64 [0,0,0,0,0],true,true,true,1⟩,⟨ns .u64 [v,v,v].flatten,true,true,true,1⟩]) (id:=3) (n:=3) (xs:=[v,v,v]) rfl (by decide) (by intro w hw; simp only [Jj,JI,or_false] at hw; rcases hw with rfl | rfl | rfl<;>assumption) rfl
 simp only [JF,Xp,Qo,Qm] at hr1
 simp only [JF,Xp,Xt,Vk] at fr1
 obtain ⟨r2,hr2,Er2,fr2⟩:=WS (H:=[⟨ns .u64 u,true,true,true,1⟩,⟨ns .u64 v,true,true,true,1⟩,⟨ns .u64 [0,0,0,0,0],true,true,true,1⟩,⟨ns .u64 [v,v,v].flatten,true,true,true,1⟩,⟨ns .u64 r1,true,true,true,1⟩,⟨ns .u64 r1,true,true,true,1⟩,⟨ns .u64 v,true,true,true,1⟩,⟨ns .u64 v,true,true,true,1⟩,⟨ns .u64 v,true,true,true,1⟩,⟨ns .u64 r1,true,true,true,1⟩,⟨ns .u64 [u,r1,r1,v].flatten,true,true,true,1⟩]) (id:=10) (n:=4) (xs:=[u,r1,r1,v]) rfl (by decide) (by intro w hw; simp only [Jj,JI,or_false] at hw; rcases hw with rfl | rfl | rfl | rfl<;>assumption) rfl
 simp only [JF,Xp,Qo,Qm] at hr2
 simp only [JF,Xp,Xt,Vk] at fr2
 obtain ⟨r3,hr3,Er3,fr3⟩:=Dx (n:=252) (less:=2) Er2 (by decide) (by decide) (by decide)
 obtain ⟨r4,hr4,Er4,fr4⟩:=WS (H:=[⟨ns .u64 u,true,true,true,1⟩,⟨ns .u64 v,true,true,true,1⟩,⟨ns .u64 [0,0,0,0,0],true,true,true,1⟩,⟨ns .u64 [v,v,v].flatten,true,true,true,1⟩,⟨ns .u64 r1,true,true,true,1⟩,⟨ns .u64 r1,true,true,true,1⟩,⟨ns .u64 v,true,true,true,1⟩,⟨ns .u64 v,true,true,true,1⟩,⟨ns .u64 v,true,true,true,1⟩,⟨ns .u64 r1,true,true,true,1⟩,⟨ns .u64 [u,r1,r1,v].flatten,true,true,true,1⟩,⟨ns .u64 r2,true,true,true,1⟩,⟨ns .u64 r2,true,true,true,1⟩,⟨ns .u64 u,true,true,true,1⟩,⟨ns .u64 r1,true,true,true,1⟩,⟨ns .u64 r1,true,true,true,1⟩,⟨ns .u64 v,true,true,true,1⟩,⟨ns .u64 [u,r1,r3].flatten,true,true,true,1⟩]) (id:=17) (n:=3) (xs:=[u,r1,r3]) rfl (by decide) (by intro w hw; simp only [Jj,JI,or_false] at hw; rcases hw with rfl | rfl | rfl<;>assumption) rfl
 simp only [JF,Xp,Qo,Qm] at hr4
 simp only [JF,Xp,Xt,Vk] at fr4
 obtain ⟨r5,hr5,Er5,fr5⟩:=WS (H:=[⟨ns .u64 u,true,true,true,1⟩,⟨ns .u64 v,true,true,true,1⟩,⟨ns .u64 [0,0,0,0,0],true,true,true,1⟩,⟨ns .u64 [v,v,v].flatten,true,true,true,1⟩,⟨ns .u64 r1,true,true,true,1⟩,⟨ns .u64 r1,true,true,true,1⟩,⟨ns .u64 v,true,true,true,1⟩,⟨ns .u64 v,true,true,true,1⟩,⟨ns .u64 v,true,true,true,1⟩,⟨ns .u64 r1,true,true,true,1⟩,⟨ns .u64 [u,r1,r1,v].flatten,true,true,true,1⟩,⟨ns .u64 r2,true,true,true,1⟩,⟨ns .u64 r2,true,true,true,1⟩,⟨ns .u64 u,true,true,true,1⟩,⟨ns .u64 r1,true,true,true,1⟩,⟨ns .u64 r1,true,true,true,1⟩,⟨ns .u64 v,true,true,true,1⟩,⟨ns .u64 [u,r1,r3].flatten,true,true,true,1⟩,⟨ns .u64 r4,true,true,true,1⟩,⟨ns .u64 r4,true,true,true,1⟩,⟨ns .u64 u,true,true,true,1⟩,⟨ns .u64 r1,true,true,true,1⟩,⟨ns .u64 r3,true,true,true,1⟩,⟨ns .u64 r4,true,true,true,1⟩,⟨ns .u64 [v,r4,r4].flatten,true,true,true,1⟩]) (id:=24) (n:=3) (xs:=[v,r4,r4]) rfl (by decide) (by intro w hw; simp only [Jj,JI,or_false] at hw; rcases hw with rfl | rfl | rfl<;>assumption) rfl
 simp only [JF,Xp,Qo,Qm] at hr5
 simp only [JF,Xp,Xt,Vk] at fr5
 have k1:=rI Er5 Eu
 obtain ⟨nu,hnu,Enu,fnu⟩:=Fw Eu
 have k2:=rI Er5 Enu
 obtain ⟨two,htwo⟩:∃ two:List Nat,two=[2,0,0,0,0]:=⟨_,rfl⟩
 have Etwo:El two (2^52):=by rw [htwo]; exact fL
 have vtwo:evVal T 73 [.int .u32 2]=some (eV two):=by rw [htwo]; exact fE
 have ftwo:fe two=2:=by rw [htwo]; exact OQ
 clear htwo
 obtain ⟨j,hj,Ej,fj⟩:=Dx (n:=253) (less:=4) Etwo (by decide) (by decide) (by decide)
 obtain ⟨q,hq,Eq,fq⟩:=Xf Er4 Ej
 obtain ⟨n1,hn1,En1,fn1⟩:=Fw Er4
 obtain ⟨n2,hn2,En2,fn2⟩:=Fw Eq
 have o1:=kF Er4
 have o2:=kF Eq
 have c1:=qi
 have c2:=qh
 have g1:=FL Ev Ev Ev
 have g2:=RM Eu Er1 Er1 Ev
 rw [aH] at g2
 have g3:=FL Eu Er1 Er3
 have g4:=FL Ev Er4 Er4
 have hw:fe r4=WR (fe u) (fe v):=by
  rw [fr4,fr3,fr1,fr2,fr1]; unfold WR
  rw [show (1*fe u*(1*fe v*fe v*fe v)*(1*fe v*fe v*fe v)*fe v)=fe u*(fe v*fe v*fe v)*(fe v*fe v*fe v)*fe v from by grobner]
  generalize Go.Fp.pow _ _=p
  grobner
 have hjj:fe j=jj:=by rw [fj,ftwo]; rfl
 have l1:=Eu.len
 have l2:=Ev.len
 have l3:=Er1.len
 have l4:=Er4.len
 have l5:=Er5.len
 have l6:=Eq.len
 have l7:=En1.len
 have l8:=En2.len
 have hz5:Qa 5 (Value.int .u64 0)=ns .u64 [0,0,0,0,0]:=rfl
 have hf5:fillL (ns .u64 [0,0,0,0,0]) []=some (ns .u64 [0,0,0,0,0]):=rfl
 have l0:([0,0,0,0,0]:List Nat).length=5:=rfl
 clear Ej Etwo ftwo fj
 generalize dig 256 32 (2^252-1-2)=K1,dig 256 32 (2^253-1-4)=K2 at *
 have hsq:fe r5=fe v*WR (fe u) (fe v)*WR (fe u) (fe v):=by rw [fr5,hw]; generalize WR (fe u) (fe v)=w; grobner
 have evn:∀ a:Go.Fp.Fe,a.val%2=1→(-a).val%2=0 ∨ -a=0:=by
  intro a ha
  left
  have hlt:=a.isLt
  have h0:(Go.Fp.P-a.val)<Go.Fp.P:=by omega
  have h1:(-a).val=(Go.Fp.P-a.val)%Go.Fp.P:=rfl
  rw [h1,Qv h0]
  have hP:Go.Fp.P%2=1:=by rw [Go.Fp.GJ]
  omega
 by_cases hA:fe r5=fe u
 ·rw [decide_eq_true hA] at k1
  have hroot:fe v*(fe r4*fe r4)=fe u:=by rw [←hA,hsq,hw]; generalize WR (fe u) (fe v)=w; grobner
  by_cases hO:(fe r4).val%2=1
  ·rw [decide_eq_true hO] at o1
   refine ⟨n1,true,?_,En1,fun _=>⟨?_,?_⟩,fun h=>by cases h⟩
   ·apply QC (fn:=a60) rfl
    simp only [a60,Qs,quiet,cW,↓pW,reduceCtorEq,seval,-Qb,hz5,hf5,l0,g1,g2,g3,g4,c1,c2,hr1,hr2,hr3,hr4,hr5,k1,o1,hn1,l1,l2,l3,l4,l5,l7,Qf,Qz,Qy,Q8,Zj,Q9,Q7,Za]
    rfl
   ·rw [fn1,←hroot]; generalize fe r4=w; grobner
   ·rw [fn1]; exact evn _ hO
  ·rw [decide_eq_false hO] at o1
   refine ⟨r4,true,?_,Er4,fun _=>⟨hroot,by left; omega⟩,fun h=>by cases h⟩
   apply QC (fn:=a60) rfl
   simp only [a60,Qs,quiet,cW,↓pW,reduceCtorEq,seval,-Qb,hz5,hf5,l0,g1,g2,g3,g4,c1,c2,hr1,hr2,hr3,hr4,hr5,k1,o1,hn1,l1,l2,l3,l4,l5,l7,Qf,Qz,Qy,Q8,Zj,Q9,Q7,Za]
   rfl
 ·rw [decide_eq_false hA] at k1
  by_cases hB:fe r5=fe nu
  ·rw [decide_eq_true hB] at k2
   have hroot:fe v*(fe q*fe q)=fe u:=by
    have hs:=jj_sq
    rw [hsq,fnu] at hB
    rw [fq,hw,hjj]
    generalize WR (fe u) (fe v)=w at *
    clear k1 k2 o1 o2 c1 c2 hA hsq hw fr1 fr2 fr3 fr4 fr5
    grobner
   by_cases hO:(fe q).val%2=1
   ·rw [decide_eq_true hO] at o2
    refine ⟨n2,true,?_,En2,fun _=>⟨?_,?_⟩,fun h=>by cases h⟩
    ·apply QC (fn:=a60) rfl
     simp only [a60,Qs,quiet,cW,↓pW,reduceCtorEq,seval,-Qb,hz5,hf5,l0,g1,g2,g3,g4,c1,c2,hr1,hr2,hr3,hr4,hr5,k1,k2,hnu,vtwo,hj,hq,o2,hn2,l1,l2,l3,l4,l5,l6,l8,Qf,Qz,Qy,Q8,Zj,Q9,Q7,Za]
     rfl
    ·rw [fn2,←hroot]; generalize fe q=w; grobner
    ·rw [fn2]; exact evn _ hO
   ·rw [decide_eq_false hO] at o2
    refine ⟨q,true,?_,Eq,fun _=>⟨hroot,by left; omega⟩,fun h=>by cases h⟩
    apply QC (fn:=a60) rfl
    simp only [a60,Qs,quiet,cW,↓pW,reduceCtorEq,seval,-Qb,hz5,hf5,l0,g1,g2,g3,g4,c1,c2,hr1,hr2,hr3,hr4,hr5,k1,k2,hnu,vtwo,hj,hq,o2,hn2,l1,l2,l3,l4,l5,l6,l8,Qf,Qz,Qy,Q8,Zj,Q9,Q7,Za]
    rfl
  ·rw [decide_eq_false hB] at k2
   refine ⟨[0,0,0,0,0],false,?_,T7,fun h=>(by cases h),fun _ s=>qz (by rw [←hsq]; exact hA) (by rw [←hsq,←fnu]; exact hB)⟩
   apply QC (fn:=a60) rfl
   simp only [a60,Qs,quiet,cW,↓pW,reduceCtorEq,seval,-Qb,hz5,hf5,l0,g1,g2,g3,g4,c1,c2,hr1,hr2,hr3,hr4,hr5,k1,k2,hnu,l1,l2,l3,l4,l5,Qf,Qz,Qy,Q8,Zj,Q9,Q7,Za]
   rfl
end
section
attribute [local congr] JD JU JC JV Jv
variable {i n x a b r:Nat} {k L o:List Nat} {p q:Go.Cv.Pt Go.Fp.P Go.Fp.d}
structure Jac where
 x:Nat
 y:Nat
 z:Nat
 t:Nat
structure JRep (a:Jac) (p:Go.Cv.Pt Go.Fp.P Go.Fp.d):Prop where
 nz:Go.Fp.fp a.z≠0
 x:Go.Fp.fp a.x=p.x*Go.Fp.fp a.z
 y:Go.Fp.fp a.y=p.y*Go.Fp.fp a.z
 t:Go.Fp.fp a.t=p.x*p.y*Go.Fp.fp a.z
def Nx (a b:Nat):Nat:=a+(Go.Fp.P-b%Go.Fp.P)
theorem Hf (a b:Nat):Go.Fp.fp (Nx a b)=Go.Fp.fp a-Go.Fp.fp b:=by
 unfold Nx
 have h:b%Go.Fp.P≤Go.Fp.P:=J3 (Q6 _ (by rw [Go.Fp.GJ]; decide))
 rw [Go.Fp.Vg,Go.Fp.mO h,Go.Fp.vn,Go.Fp.Ym]
 grobner
def AF (a b:Jac):Nat:=Nx a.y a.x*Nx b.y b.x%Go.Fp.P
def AE (a b:Jac):Nat:=(a.y+a.x)*(b.y+b.x)%Go.Fp.P
def AD (a b:Jac):Nat:=1*2*Go.Fp.dN*a.t*b.t%Go.Fp.P
def AA (a b:Jac):Nat:=1*2*a.z*b.z%Go.Fp.P
def jfin (a b c e:Nat):Jac:=⟨Nx b a*Nx e c%Go.Fp.P,(e+c)*(b+a)%Go.Fp.P,Nx e c*(e+c)%Go.Fp.P,Nx b a*(b+a)%Go.Fp.P⟩
def NC (a b:Jac):Jac:=jfin (AF a b) (AE a b) (AD a b) (AA a b)
theorem JRep.add {a b:Jac} {p q:Go.Cv.Pt Go.Fp.P Go.Fp.d} (h1:JRep a p) (h2:JRep b q):JRep (NC a b) (JZ p q):=by
 have ha:Go.Fp.fp (AF a b)=(Go.Fp.fp a.y-Go.Fp.fp a.x)*(Go.Fp.fp b.y-Go.Fp.fp b.x):=by
  unfold AF; rw [Go.Fp.Ym,Go.Fp.XS,Hf,Hf]
 have hb:Go.Fp.fp (AE a b)=(Go.Fp.fp a.y+Go.Fp.fp a.x)*(Go.Fp.fp b.y+Go.Fp.fp b.x):=by
  unfold AE; rw [Go.Fp.Ym,Go.Fp.XS,Go.Fp.Vg,Go.Fp.Vg]
 have hc:Go.Fp.fp (AD a b)=1*2*Go.Fp.d*Go.Fp.fp a.t*Go.Fp.fp b.t:=by
  unfold AD; rw [Go.Fp.Ym,Go.Fp.XS,Go.Fp.XS,Go.Fp.XS,Go.Fp.XS,Go.Fp.IK,Go.Fp.mN]; rfl
 have hd:Go.Fp.fp (AA a b)=1*2*Go.Fp.fp a.z*Go.Fp.fp b.z:=by
  unfold AA; rw [Go.Fp.Ym,Go.Fp.XS,Go.Fp.XS,Go.Fp.XS,Go.Fp.IK,Go.Fp.mN]
 have hx:Go.Fp.fp (NC a b).x=(Go.Fp.fp (AE a b)-Go.Fp.fp (AF a b))*(Go.Fp.fp (AA a b)-Go.Fp.fp (AD a b)):=by
  show Go.Fp.fp (_%_)=_; rw [Go.Fp.Ym,Go.Fp.XS,Hf,Hf]
 have hy:Go.Fp.fp (NC a b).y=(Go.Fp.fp (AA a b)+Go.Fp.fp (AD a b))*(Go.Fp.fp (AE a b)+Go.Fp.fp (AF a b)):=by
  show Go.Fp.fp (_%_)=_; rw [Go.Fp.Ym,Go.Fp.XS,Go.Fp.Vg,Go.Fp.Vg]
 have hz:Go.Fp.fp (NC a b).z=(Go.Fp.fp (AA a b)-Go.Fp.fp (AD a b))*(Go.Fp.fp (AA a b)+Go.Fp.fp (AD a b)):=by
  show Go.Fp.fp (_%_)=_; rw [Go.Fp.Ym,Go.Fp.XS,Go.Fp.Vg,Hf]
 have ht:Go.Fp.fp (NC a b).t=(Go.Fp.fp (AE a b)-Go.Fp.fp (AF a b))*(Go.Fp.fp (AE a b)+Go.Fp.fp (AF a b)):=by
  show Go.Fp.fp (_%_)=_; rw [Go.Fp.Ym,Go.Fp.XS,Go.Fp.Vg,Hf]
 obtain ⟨g1,g2,g3,g4⟩:=Fi h1.x h1.y h1.t h2.x h2.y h2.t ha hb hc hd hx hy hz ht (Go.Cv.Dk Go.Fp.fld p q) (Go.Cv.UW Go.Fp.fld p q)
 refine ⟨?_,g1,g2,g3⟩
 rw [g4]
 have F:=Go.Fp.fld
 have w:=F.mul_ne (F.mul_ne F.two h1.nz) h2.nz
 exact F.mul_ne (F.mul_ne w w) (F.mul_ne (F.denM p.on q.on) (F.denP p.on q.on))
def dn (p:Jac):Nat→Nat→Jac
 | 0,_=>⟨0,1,1,0⟩
 | f+1,k=>(fun r=>if k%2=1 then NC (NC r r) p else NC r r) (dn p f (k/2))
theorem JRep.mul {a:Jac} {p:Go.Cv.Pt Go.Fp.P Go.Fp.d} (h:JRep a p):∀ {f k:Nat},k<2^f→JRep (dn a f k) (Jq k p)
 | 0,k,hk=>by
  have:k=0:=by omega
  subst this
  exact ⟨Go.Fp.VV,by show (0:Go.Fp.Fe)=0*1; grobner,by show (1:Go.Fp.Fe)=1*1; grobner,by show (0:Go.Fp.Fe)=0*1*1; grobner⟩
 | f+1,k,hk=>by
  have ih:=JRep.mul h (f:=f) (k:=k/2) (by omega)
  have hb:=Q6 k (by decide:0<2)
  have e:Jq k p=Jq (2*(k/2)+k%2) p:=by rw [Z0]
  rw [e,Fg p (k/2) (k%2) hb]
  simp only [dn]
  split
  ·exact (ih.add ih).add h
  ·exact ih.add ih
def aR:Jac:=⟨bxN,byN,1,bxN*byN%Go.Fp.P⟩
theorem FE:JRep aR Xi:=by
 have h1:Go.Fp.fp 1=(1:Go.Fp.Fe):=rfl
 refine ⟨Go.Fp.VV,?_,?_,?_⟩
 ·show Go.Fp.fp bxN=Go.Fp.fp bxN*Go.Fp.fp 1; rw [h1]; grobner
 ·show Go.Fp.fp byN=Go.Fp.fp byN*Go.Fp.fp 1; rw [h1]; grobner
 ·show Go.Fp.fp (bxN*byN%Go.Fp.P)=Go.Fp.fp bxN*Go.Fp.fp byN*Go.Fp.fp 1; rw [h1,Go.Fp.Ym,Go.Fp.XS]; grobner
theorem So:Jq 8 Xi≠Ko:=fun h=>by
 have r:=FE.mul (f:=4) (k:=8) (by decide)
 rw [h] at r
 have hx:=r.x
 rw [show (Ko:Go.Cv.Pt Go.Fp.P Go.Fp.d).x=0 from rfl] at hx
 have h0:Go.Fp.fp (dn aR 4 8).x=Go.Fp.fp 0:=by rw [hx]; show _=(0:Go.Fp.Fe); grobner
 have h1:=Go.Fp.RK.1 h0
 have h2:(dn aR 4 8).x%Go.Fp.P≠0%Go.Fp.P:=by decide +kernel
 exact h2 h1
theorem mc {a:Jac} (r:JRep a q) (c1:a.x%Go.Fp.P=0%Go.Fp.P) (c2:a.y%Go.Fp.P=a.z%Go.Fp.P):q=Ko:=by
 have d1:=Go.Fp.RK.2 c1
 have d2:=Go.Fp.RK.2 c2
 have F:=Go.Fp.fld
 have hx:=r.x
 have hy:=r.y
 have hz:=r.nz
 rw [d1] at hx
 rw [d2] at hy
 generalize Go.Fp.fp a.z=z at *
 apply Go.Cv.Pt.ext
 ·show _=(0:Go.Fp.Fe)
  have h0:Go.Fp.fp 0=(0:Go.Fp.Fe):=rfl
  rw [h0] at hx
  refine F.cancel hz ?_
  generalize q.x=w at *
  clear r hy d1 d2
  grobner
 ·show _=(1:Go.Fp.Fe)
  refine F.cancel hz ?_
  generalize q.y=w at *
  clear r hx d1 d2
  grobner
def bf (a:Jac):Bool:=Nat.beq (a.x%Go.Fp.P) 0&&Nat.beq (a.y%Go.Fp.P) (a.z%Go.Fp.P)
theorem nj:bf (dn aR 253 ell)=true:=by decide +kernel
theorem NV:Jq ell Xi=Ko:=by
 have h:=nj
 simp only [bf,ZS] at h
 exact mc (FE.mul (f:=253) (k:=ell) (by decide +kernel)) (Nat.eq_of_beq_eq_true h.1) (Nat.eq_of_beq_eq_true h.2)
theorem I2 {a:Go.Fp.Fe} (h0:a≠0):(-a).val%2≠a.val%2:=by
 have hlt:=a.isLt
 have hne:a.val≠0:=fun h=>h0 (Fin.ext h)
 have h1:(-a).val=(Go.Fp.P-a.val)%Go.Fp.P:=rfl
 have h2:(Go.Fp.P-a.val)<Go.Fp.P:=by omega
 rw [h1,Qv h2]
 have hP:Go.Fp.P%2=1:=by rw [Go.Fp.GJ]
 omega
theorem SW {a b:Go.Fp.Fe} (h:a*a=b*b):a=b∨a = -b:=by
 have F:=Go.Fp.fld
 have:(a-b)*(a+b)=0:=by grobner
 rcases F.dom this with h1 | h1
 ·left; clear h this; grobner
 ·right; clear h this; grobner
theorem uB (dd z:Go.Fp.Fe) (hz:z=0):dd*(z*z)+1=1:=by grobner
theorem Ss (y:Go.Fp.Fe):Go.Fp.d*(y*y)+1≠0:=fun h=>by
 have F:=Go.Fp.fld
 have hy:y≠0:=by
  intro h0
  rw [uB _ _ h0] at h
  exact Go.Fp.VV h
 have hi:=Go.Fp.KK hy
 have hr:=Go.Fp.Pd
 apply Go.Fp.nosq (Go.Fp.iQ*Go.Fp.iv y)
 generalize Go.Fp.d=dd at *
 generalize Go.Fp.iQ=ii at *
 generalize Go.Fp.iv y=w at *
 clear F hy
 have e1:dd*(y*w)*(y*w)+w*w=0:=by
  have:dd*(y*w)*(y*w)+w*w=(dd*(y*y)+1)*(w*w):=by clear h hi hr; grobner
  rw [this,h]; clear this h hi hr; grobner
 rw [hi] at e1
 have e2:ii*w*(ii*w)=(ii*ii)*(w*w):=by clear h hi hr e1; grobner
 rw [e2,hr]
 clear h hi hr e2
 grobner
theorem ov (p:Go.Cv.Pt Go.Fp.P Go.Fp.d):(Go.Fp.d*(p.y*p.y)+1)*(p.x*p.x)=p.y*p.y-1:=by
 have h:=p.on
 unfold Go.Cv.On at h
 generalize Go.Fp.d=dd at *
 generalize p.x=x at *
 generalize p.y=y at *
 grobner
theorem ni (h:Mc p=Mc q):p=q:=by
 unfold Mc at h
 have h1:=BR p.y
 have h2:=BR q.y
 have h3:=Q6 p.x.val (by decide:0<2)
 have h4:=Q6 q.x.val (by decide:0<2)
 have hy:p.y.val=q.y.val:=by omega
 have hx:p.x.val%2=q.x.val%2:=by omega
 have hy':p.y=q.y:=Fin.ext hy
 have e1:=ov p
 have e2:=ov q
 rw [hy',←e2] at e1
 have e3:=Go.Fp.fld.cancel (Ss q.y) e1
 refine Go.Cv.Pt.ext ?_ hy'
 rcases SW e3 with h | h
 ·exact h
 ·by_cases h0:q.x=0
  ·rw [h,h0]; grobner
  ·exfalso
   have:=I2 h0
   rw [←h] at this
   exact this hx
theorem IL (p q:Go.Cv.Pt Go.Fp.P Go.Fp.d):(enc p==enc q)=decide (p=q):=by
 unfold enc
 rw [key_inj (IM p) (IM q)]
 by_cases h:p=q
 ·subst h; rw [decide_eq_true rfl,decide_eq_true rfl]
 ·rw [decide_eq_false h,decide_eq_false (fun e=>h (ni e))]
theorem vt {a b:List Nat} (ha:RepL a p) (hb:RepL b q):fillL (Qa 40 (Value.int .u64 0)) [(0,20,eV a),(20,20,eV b)]=some (ns .u64 [a,b].flatten):=by
 obtain ⟨x1,y1,z1,t1,rfl,h1⟩:=ha
 obtain ⟨x2,y2,z2,t2,rfl,h2⟩:=hb
 obtain ⟨a0,a1,a2,a3,a4,rfl,-⟩:=h1.ex.five
 obtain ⟨b0,b1,b2,b3,b4,rfl,-⟩:=h1.ey.five
 obtain ⟨c0,c1,c2,c3,c4,rfl,-⟩:=h1.ez.five
 obtain ⟨d0,d1,d2,d3,d4,rfl,-⟩:=h1.et.five
 obtain ⟨e0,e1,e2,e3,e4,rfl,-⟩:=h2.ex.five
 obtain ⟨f0,f1,f2,f3,f4,rfl,-⟩:=h2.ey.five
 obtain ⟨g0,g1,g2,g3,g4,rfl,-⟩:=h2.ez.five
 obtain ⟨i0,i1,i2,i3,i4,rfl,-⟩:=h2.et.five
 rfl
theorem GX (p q:Go.Cv.Pt Go.Fp.P Go.Fp.d):JZ p q=JZ q p:=Go.Cv.add_comm Go.Fp.fld p q
theorem Dz (p q r:Go.Cv.Pt Go.Fp.P Go.Fp.d):JZ (JZ p q) r=JZ p (JZ q r):=Go.Cv.add_assoc Go.Fp.fld p q r
theorem ba (lk:k.length=32) (xk:∀ x∈k,x<256):enc p=k↔Mc p=num 256 k:=by
 have h1:=num_lt xk
 rw [lk] at h1
 have h2:=YW (by decide:0<256) xk
 rw [lk] at h2
 constructor
 ·intro h
  have:=XA (B:=256) (by decide) 32 (Mc p)
  rw [Qv (IM p)] at this
  rw [←this,←h]; rfl
 ·intro h
  unfold enc
  rw [h,h2]
theorem FO {V:Nat}:Mc p=V↔p.y.val=V%2^255∧p.x.val%2=V/2^255:=by
 have h1:=BR p.y
 have h3:=Q6 p.x.val (by decide:0<2)
 unfold Mc
 constructor
 ·intro h; omega
 ·rintro ⟨h,h'⟩; rw [h,h',Zk,Nat.mod_add_div]
theorem kh {u v x y:Go.Fp.Fe} (hu:u=y*y-1) (hv:v=Go.Fp.d*(y*y)+1) (h:v*(x*x)=u):Go.Cv.On Go.Fp.d x y:=by
 unfold Go.Cv.On
 generalize Go.Fp.d=dd at *
 subst hu hv
 grobner
theorem aQ (lk:k.length=32) (xk:∀ x∈k,x<256):∃ w,k[31]?=some w∧w<256∧w/128=num 256 k/2^255∧num 256 (k.set 31 (w&&&127))=num 256 k%2^255∧(∀ x∈k.set 31 (w&&&127),x<256)∧(k.set 31 (w&&&127)).length=32:=by
 obtain ⟨w,hw⟩:∃ w,k[31]?=some w:=⟨_,Qe (by omega)⟩
 have hw':w<256:=xk w (Qn hw)
 have hV:=num_lt xk
 rw [lk] at hV
 have hg:=Kk (by decide:0<256) xk hw
 have hs:=Kj (B:=256) (w&&&127) hw
 have ha:w&&&127=w%128:=Vj w 7
 refine ⟨w,hw,hw',?_⟩
 rw [ha] at hs ⊢
 have e31:(256:Nat)^31=452312848583266388373324160190187140051835877600158453279131187530910662656:=by decide
 have e32:(256:Nat)^32=115792089237316195423570985008687907853269984665640564039457584007913129639936:=by decide
 have e255:(2:Nat)^255=57896044618658097711785492504343953926634992332820282019728792003956564819968:=by decide
 rw [e31] at hg hs
 rw [e32] at hV
 rw [e255]
 refine ⟨by omega,by omega,?_,by rw [Q0]; exact lk⟩
 intro x hx
 rcases XM hx with h | h
 ·exact xk x h
 ·omega
def G8 (l:List Nat) (c:Int):Value := .tuple #[eV l,.int .i64 c]
theorem Og (lk:k.length=32) (xk:∀ x∈k,x<256) :
  (∃ l p,evVal T 45 [.agg (u8s k).toArray]=some (G8 l 0)∧RepL l p∧enc p=k)∨(∃ l,evVal T 45 [.agg (u8s k).toArray]=some (G8 l 60)∧l.length=20∧∀ p,enc p≠k):=by
 obtain ⟨w,hw,hw',ht,hm,xm,lm⟩:=aQ lk xk
 have hwc:=Jk hw
 have hset:=Xg k 31 (w&&&127)
 have o1:Zz .and .u8 (w:Int) 127=((w&&&127:Nat):Int):=WB (k := .u8) (a:=w) (b:=127) rfl hw' (by decide)
 have hof:=cQ lm xm
 have hcan:=Om lm xm
 rw [hm] at hof hcan
 rw [Kw] at hof
 have hkey:∀ p:Go.Cv.Pt Go.Fp.P Go.Fp.d,enc p=k↔p.y.val=num 256 k%2^255∧p.x.val%2=num 256 k/2^255:=fun p=>by rw [ba lk xk,FO]
 rw [←ht] at hkey
 have Ey:=Nt (V:=num 256 k%2^255)
 have fy:fe (dig (2^51) 5 (num 256 k%2^255))=Go.Fp.fp (num 256 k%2^255):=by unfold fe; rw [Rm]
 generalize k.set 31 (w&&&127)=km,dig (2^51) 5 (num 256 k%2^255)=Y at *
 generalize num 256 k%2^255=V at *
 have hz20:∃ O,Qa 20 (Value.int .u64 0)=ns .u64 O∧O.length=20∧fillL (ns .u64 O) []=some (ns .u64 O):=⟨Qa 20 0,rfl,rfl,rfl⟩
 obtain ⟨O,hz20,l0,hf0⟩:=hz20
 have l1:=Ey.len
 have hz5:Qa 5 (Value.int .u64 0)=ns .u64 [0,0,0,0,0]:=rfl
 have l5:([0,0,0,0,0]:List Nat).length=5:=rfl
 have hbit:((((w/128:Nat):Int))==1)=decide (w/128=1):=by
  by_cases h:w/128=1
  ·rw [h]; rfl
  ·have:¬ (((w/128:Nat):Int)=1):=by omega
   rw [decide_eq_false h,beq_eq_false_iff_ne.2 this]
 have hshr:((w:Int)/128)=((w/128:Nat):Int):=rfl
 by_cases hV:V<Go.Fp.P
 ·rw [decide_eq_true hV] at hcan
  have hYv:(Go.Fp.fp V).val=V:=Qv hV
  obtain ⟨one,hone⟩:∃ O:List Nat,O=[1,0,0,0,0]:=⟨_,rfl⟩
  have Eone:El one (2^52):=by rw [hone]; exact D1
  have vone:evVal T 73 [.int .u32 1]=some (eV one):=by rw [hone]; exact kf
  have fone:fe one=1:=by rw [hone]; exact D0
  clear hone
  obtain ⟨yy,hyy,Eyy,fyy⟩:=Xf Ey Ey
  obtain ⟨D,hD,ED,fD⟩:=AP
  obtain ⟨uu,huu,Euu,fuu⟩:=Bz Eyy Eone
  obtain ⟨dy,hdy,Edy,fdy⟩:=Xf ED Eyy
  obtain ⟨vv,sv,hvv,Evv,fvv⟩:=VS (H:=[⟨u8s km,true,true,true,1⟩,⟨ns .u64 O,true,true,true,1⟩,⟨ns .u64 Y,true,true,true,1⟩,⟨ns .u64 yy,true,true,true,1⟩,⟨ns .u64 (dy++one),true,true,true,1⟩]) (id:=4) Edy Eone rfl
  simp only [Qo,Qm] at hvv
  obtain ⟨r,ok,hr,Er,hok,hno⟩:=ud Euu Evv
  have hf2:=W5 Edy Eone
  have l6:=Eyy.len
  have l7:=Er.len
  have kz:=mf Er
  obtain ⟨nr,hnr,Enr,fnr⟩:=Fw Er
  obtain ⟨t1,ht1,Et1,ft1⟩:=Xf Er Ey
  obtain ⟨t2,ht2,Et2,ft2⟩:=Xf Enr Ey
  have g1:=RM Er Ey Eone Et1
  have g2:=RM Enr Ey Eone Et2
  rw [hz20] at g1 g2
  have q1:=Yh Er Ey Eone Et1
  have q2:=Yh Enr Ey Eone Et2
  have l8:=Enr.len
  have hu:fe uu=Go.Fp.fp V*Go.Fp.fp V-1:=by rw [fuu,fyy,fy,fone]
  have hv:fe vv=Go.Fp.d*(Go.Fp.fp V*Go.Fp.fp V)+1:=by rw [fvv,fdy,fD,fyy,fy,fone]
  have hyp:∀ p:Go.Cv.Pt Go.Fp.P Go.Fp.d,enc p=k→p.y=Go.Fp.fp V:=fun p hp=>Fin.ext (by rw [hYv]; exact ((hkey p).1 hp).1)
  have hxx:∀ p:Go.Cv.Pt Go.Fp.P Go.Fp.d,enc p=k→fe vv*(p.x*p.x)=fe uu:=fun p hp=>by
   have:=ov p
   rw [hyp p hp] at this
   rw [hu,hv]; exact this
  have rft:∀ b:Bool,rf (Value.tuple #[eV r,.bool b])=true:=fun b=>V9 (a:=eV r) (b := .bool b) (Za r) rfl
  cases ok with
  | false =>
   refine .inr ⟨O,?_,l0,fun p hp=>hno rfl p.x (hxx p hp)⟩
   apply QC (fn:=a31) rfl
   simp only [a31,Qs,quiet,cW,↓pW,reduceCtorEq,seval,-Qb,cU,hz20,hf0,hz5,hwc,hset,o1,hof,hcan,hbit,hshr,vone,hyy,hD,huu,hdy,hf2,hvv,hr,Qf,Qz,Qy,Q8,Zj,Q9,Q7,Qq,lk,lm,l0,l1,l5,l6,l7,Wl,LC,rft,Za]
   rfl
  | true =>
   obtain ⟨hroot,hev⟩:=hok rfl
   have hev':(fe r).val%2=0:=by
    rcases hev with h | h
    ·exact h
    ·rw [h]; rfl
   by_cases hb:w/128=1
   ·rw [decide_eq_true hb] at hbit
    by_cases h0:fe r=0
    ·rw [decide_eq_true h0] at kz
     refine .inr ⟨O,?_,l0,fun p hp => ?_⟩
     ·apply QC (fn:=a31) rfl
      simp only [a31,Qs,quiet,cW,↓pW,reduceCtorEq,seval,-Qb,cU,hz20,hf0,hz5,hwc,hset,o1,hof,hcan,hbit,hshr,vone,hyy,hD,huu,hdy,hf2,hvv,hr,Qf,Qz,Qy,Q8,Zj,Q9,Q7,Qq,lk,lm,l0,l1,l5,l6,l7,Wl,LC,rft,Za,kz]
      rfl
     ·have h2:=((hkey p).1 hp).2
      have h3:=hxx p hp
      rw [←hroot,h0] at h3
      have h4:p.x*p.x=0*0:=Go.Fp.fld.cancel (by rw [hv]; exact Ss _) h3
      rcases SW h4 with h5 | h5
      ·rw [h5,hb] at h2; exact absurd h2 (by decide)
      ·rw [h5,hb] at h2; exact absurd h2 (by decide)
    ·rw [decide_eq_false h0] at kz
     have hroot':fe vv*(-fe r * -fe r)=fe uu:=by rw [←hroot]; generalize fe r=a; generalize fe vv=b; grobner
     refine .inl ⟨pL nr Y one t2,⟨-fe r,Go.Fp.fp V,kh hu hv hroot'⟩,?_,⟨nr,Y,one,t2,rfl,Enr,Ey,Eone,Et2,by rw [fone]; exact Go.Fp.VV,?_,?_,?_⟩,(hkey _).2 ⟨hYv,?_⟩⟩
     ·generalize pL nr Y one t2=L at *
      apply QC (fn:=a31) rfl
      simp only [a31,Qs,quiet,cW,↓pW,reduceCtorEq,seval,-Qb,cU,hz20,hf0,hz5,hwc,hset,o1,hof,hcan,hbit,hshr,vone,hyy,hD,huu,hdy,hf2,hvv,hr,Qf,Qz,Qy,Q8,Zj,Q9,Q7,Qq,lk,lm,l0,l1,l5,l6,l7,Wl,LC,rft,Za,kz,hnr,ht2,g2,q2,l8]
      rfl
     ·rw [fnr,fone]; show -fe r = -fe r*1; generalize fe r=a; grobner
     ·rw [fy,fone]; show Go.Fp.fp V=Go.Fp.fp V*1; generalize Go.Fp.fp V=a; grobner
     ·rw [ft2,fnr,fy,fone]; show -fe r*Go.Fp.fp V = -fe r*Go.Fp.fp V*1; generalize Go.Fp.fp V=a; generalize fe r=b; grobner
     ·have:=I2 h0
      rw [hev'] at this
      show (-fe r).val%2=_
      rw [hb]; omega
   ·rw [decide_eq_false hb] at hbit
    refine .inl ⟨pL r Y one t1,⟨fe r,Go.Fp.fp V,kh hu hv hroot⟩,?_,⟨r,Y,one,t1,rfl,Er,Ey,Eone,Et1,by rw [fone]; exact Go.Fp.VV,?_,?_,?_⟩,(hkey _).2 ⟨hYv,?_⟩⟩
    ·generalize pL r Y one t1=L at *
     apply QC (fn:=a31) rfl
     simp only [a31,Qs,quiet,cW,↓pW,reduceCtorEq,seval,-Qb,cU,hz20,hf0,hz5,hwc,hset,o1,hof,hcan,hbit,hshr,vone,hyy,hD,huu,hdy,hf2,hvv,hr,Qf,Qz,Qy,Q8,Zj,Q9,Q7,Qq,lk,lm,l0,l1,l5,l6,l7,Wl,LC,rft,Za,ht1,g1,q1]
     rfl
    ·rw [fone]; show fe r=fe r*1; generalize fe r=a; grobner
    ·rw [fy,fone]; show Go.Fp.fp V=Go.Fp.fp V*1; generalize Go.Fp.fp V=a; grobner
    ·rw [ft1,fy,fone]; show fe r*Go.Fp.fp V=fe r*Go.Fp.fp V*1; generalize Go.Fp.fp V=a; generalize fe r=b; grobner
    ·show (fe r).val%2=_
     rw [hev']; omega
 ·rw [decide_eq_false hV] at hcan
  refine .inr ⟨O,?_,l0,fun p hp=>hV ?_⟩
  ·apply QC (fn:=a31) rfl
   simp only [a31,Qs,quiet,cW,↓pW,reduceCtorEq,seval,-Qb,cU,hz20,hf0,hz5,hwc,hset,o1,hof,hcan,hbit,hshr,Qf,Qz,Qy,Q8,Zj,Q9,Q7,Qq,lk,lm,l0,l1,l5,Za]
   rfl
  ·rw [←((hkey p).1 hp).1]; exact p.y.isLt
def pf (n:Nat) (L:List Nat) (i:Nat):List Nat:=L.take i++Qa (n-i) 0
theorem KB (n:Nat) (L:List Nat):pf n L 0=Qa n 0:=by simp [pf]
theorem KC (h:L.length=n):pf n L n=L:=by simp [pf,←h]
theorem Ke (h:L.length=n) (hi:i≤n):(pf n L i).length=n:=by simp [pf]; omega
theorem XK (h:L.length=n) (hi:i<n) (hx:L[i]?=some x):(pf n L i).set i x=pf n L (i+1):=by
 unfold pf
 rw [Z4 _ _ (by simp; omega)]
 have e1:(L.take i).length=i:=by simp; omega
 rw [e1,Q3]
 have e2:n-i=(n-(i+1))+1:=by omega
 rw [e2,Xm,YI,Z5,hx]
 simp
structure Nm (l:List Nat):Prop where
 len:l.length=16
 lt:∀ x∈l,x<65536
theorem Nm.num_lt {l:List Nat} (h:Nm l):num 65536 l<2^256:=by
 have:=Go.Ev.num_lt h.lt
 rw [h.len] at this
 exact this
theorem Nm.dig (v:Nat):Nm (dig 65536 16 v):=⟨Ze _ _ _,fun x h=>Vh (by decide) h⟩
theorem Nm.eq {l:List Nat} (h:Nm l):l=Go.Ev.dig 65536 16 (num 65536 l):=by
 have:=YW (B:=65536) (by decide) h.lt
 rw [h.len] at this
 exact this.symm
theorem Nm.inj {l m:List Nat} (h:Nm l) (h':Nm m) (e:num 65536 l=num 65536 m):l=m:=by rw [h.eq,h'.eq,e]
theorem Vr {v:Nat} (h:v<2^256):num 65536 (dig 65536 16 v)=v:=by
 rw [XA (by decide)]; exact Qv h
def nf (l:List Nat):Go.Fp.Fe:=Go.Fp.fp (num 65536 l)
theorem bD (xk:∀ x∈k,x<256) {y:Nat} (hx:k[2*i]?=some x) (hy:k[2*i+1]?=some y):num 256 k/65536^i%65536=x+256*y:=by
 have h1:=Kk (B:=256) (by decide) xk hx
 have h2:=Kk (B:=256) (by decide) xk hy
 have e:(65536:Nat)^i=256^(2*i):=by rw [show (65536:Nat)=256^2 from rfl,←Ja]
 rw [e]
 rw [Zi,←QV] at h2
 omega
def ZP:List Nat:=Qa 16 0
theorem Ky:Qa 16 (Value.int .u64 0)=ns .u64 ZP:=rfl
theorem Uz:fillL (ns .u64 ZP) []=some (ns .u64 ZP):=rfl
theorem X9:ZP.length=16:=rfl
theorem wn (h:n<9223372036854775808):IntKind.i64.wrap (n:Int)=n:=Zu h
theorem YL (h:n<18446744073709551616):IntKind.u64.wrap (n:Int)=n:=by rw [Dg,Qv h]
theorem Yy (h:a+b<18446744073709551616):IntKind.u64.wrap ((a:Int)+(b:Int))=((a+b:Nat):Int):=by rw [←Xj]; exact YL h
theorem WN (h:a*b<18446744073709551616):IntKind.u64.wrap ((a:Int)*(b:Int))=((a*b:Nat):Int):=by rw [←Xc]; exact YL h
theorem ZJ (h:a+b<9223372036854775808):IntKind.i64.wrap ((a:Int)+(b:Int))=((a+b:Nat):Int):=by rw [←Xj]; exact wn h
theorem BP (h:a*b<9223372036854775808):IntKind.i64.wrap ((a:Int)*(b:Int))=((a*b:Nat):Int):=by rw [←Xc]; exact wn h
def Pe (k o:List Nat) (i:Int) (ex:Env):St:=⟨[(1,.pointer (some ⟨0,0,none⟩)),(2,.pointer (some ⟨1,0,none⟩)),(3,.pointer (some ⟨2,0,none⟩)),(4,.int .i64 i)]++ex,[⟨u8s k,true,true,true,1⟩,⟨ns .u64 ZP,true,true,true,1⟩,⟨ns .u64 o,true,true,true,1⟩],[]⟩
theorem hJ (lk:k.length=32) (xk:∀ x∈k,x<256) (hi:i<16) :
  Q5 T 0 C0 (Pe k (pf 16 (dig 65536 16 (num 256 k)) i) i [])=some (.normal,Pe k (pf 16 (dig 65536 16 (num 256 k)) (i+1)) ((i+1:Nat):Int) []):=by
 obtain ⟨x,hx⟩:∃ x,k[2*i]?=some x:=⟨_,Qe (by omega)⟩
 obtain ⟨y,hy⟩:∃ y,k[2*i+1]?=some y:=⟨_,Qe (by omega)⟩
 have hx':=xk x (Qn hx)
 have hy':=xk y (Qn hy)
 have hd:=bD xk hx hy
 have hg:(dig 65536 16 (num 256 k))[i]?=some (x+256*y):=by rw [XL hi,hd]
 have hstep:=XK (Ze _ _ _) hi hg
 have hlen:=Ke (Ze 65536 16 (num 256 k)) (J3 hi)
 have hset:=Xo .u64 (pf 16 (dig 65536 16 (num 256 k)) i) i (x+256*y)
 rw [hstep] at hset
 have hxc:=Jk hx
 have hyc:=Jk hy
 have w1:IntKind.i64.wrap ((i:Int)+1)=((i+1:Nat):Int):=ZJ (b:=1) (by omega)
 have w2:IntKind.i64.wrap (2*(i:Int))=((2*i:Nat):Int):=BP (a:=2) (by omega)
 have w3:IntKind.i64.wrap (((2*i:Nat):Int)+1)=((2*i+1:Nat):Int):=ZJ (b:=1) (by omega)
 have w4:IntKind.u64.wrap (x:Int)=(x:Int):=YL (by omega)
 have w5:IntKind.u64.wrap (y:Int)=(y:Int):=YL (by omega)
 have w6:IntKind.u64.wrap (256*(y:Int))=((256*y:Nat):Int):=WN (a:=256) (by omega)
 have w7:IntKind.u64.wrap ((x:Int)+((256*y:Nat):Int))=((x+256*y:Nat):Int):=Yy (by omega)
 have e1:((i:Int)<16)=True:=eq_true (by omega)
 have e2:(((2*i:Nat):Int)<32)=True:=eq_true (by omega)
 have e3:(((2*i+1:Nat):Int)<32)=True:=eq_true (by omega)
 have e4:(i≤15)=True:=eq_true (by omega)
 generalize pf 16 (dig 65536 16 (num 256 k)) i=o at *
 generalize hj:2*i=j at *
 generalize hj1:j+1=j1 at *
 generalize hv:256*y=v at *
 simp only [Pe,C0,Qs,quiet,cW,↓pW,reduceCtorEq,seval,-Qb,hxc,hyc,w1,w2,w3,w4,w5,w6,w7,e1,e2,e3,e4,hset,Q7,hlen]
theorem ti (lk:k.length=32) (xk:∀ x∈k,x<256):evVal T 104 [.agg (u8s k).toArray]=some (eV (dig 65536 16 (num 256 k%2^255))):=by
 have hb:=Jf (T:=T) (base:=0) (id:=0) (body:=C0) (fun i=>Pe k (pf 16 (dig 65536 16 (num 256 k)) i) i []) (s':=Pe k (dig 65536 16 (num 256 k)) 16 [(7,.bool false)]) 16
  (fun i hi=>hJ lk xk hi) (by
   rw [KC (Ze _ _ _)]
   simp only [Pe,C0,Qs,quiet,cK,↓pQ,reduceCtorEq,seval,-Qb,cL])
 rw [KB] at hb
 have hV:=num_lt xk
 rw [lk] at hV
 have hN:=Nm.dig (num 256 k)
 obtain ⟨w,hw⟩:∃ w,(dig 65536 16 (num 256 k))[15]?=some w:=⟨_,Qe (by rw [Ze]; omega)⟩
 have hw':=hN.lt w (Qn hw)
 have hwv:w=num 256 k/65536^15%65536:=by rw [XL (by decide)] at hw; exact (XH hw).symm
 have hs:=Kj (B:=65536) (w%32768) hw
 rw [Vr hV] at hs
 have hfin:(dig 65536 16 (num 256 k)).set 15 (w%32768)=dig 65536 16 (num 256 k%2^255):=by
  have hNs:Nm ((dig 65536 16 (num 256 k)).set 15 (w%32768)):=⟨by rw [Q0,Ze],Vm hN.lt (by omega)⟩
  refine hNs.eq.trans (congrArg (dig 65536 16) ?_)
  have e15:(65536:Nat)^15=1766847064778384329583297500742918515827483896875618958121606201292619776:=by decide
  have e255:(2:Nat)^255=57896044618658097711785492504343953926634992332820282019728792003956564819968:=by decide
  have e256:(256:Nat)^32=115792089237316195423570985008687907853269984665640564039457584007913129639936:=by decide
  have hq:w=num 256 k/65536^15:=by
   rw [e15] at hwv ⊢
   rw [e256] at hV
   omega
  have hq2:num 256 k/2^255=w/32768:=by
   rw [hq,e15,e255]
   omega
  have hdm:=Z0 (num 256 k) (2^255)
  rw [hq2] at hdm
  rw [e15] at hs
  rw [e255] at *
  omega
 have hset:=Xo .u64 (dig 65536 16 (num 256 k)) 15 (w%32768)
 rw [hfin] at hset
 have hwc:=ZN (k := .u64) hw
 have l1:=Ze 65536 16 (num 256 k)
 have l2:=Ze 65536 16 (num 256 k%2^255)
 have hm:((w:Int).tmod 32768)=((w%32768:Nat):Int):=rfl
 have wm:IntKind.u64.wrap ((w%32768:Nat):Int)=((w%32768:Nat):Int):=YL (by omega)
 simp only [Pe,Qo,Qm,QD] at hb
 have hz:=Ky
 have hf:=Uz
 have lz:=X9
 rw [show Qa 16 0=ZP from rfl] at hb
 generalize ZP=Z at *
 generalize dig 65536 16 (num 256 k)=D,dig 65536 16 (num 256 k%2^255)=R at *
 apply QC (fn:=a65) rfl
 simp only [a65,Qs,quiet,cW,↓pW,reduceCtorEq,seval,-Qb,hz,hf,hb,hwc,hm,wm,hset,Qf,Qz,Qy,Q8,Zj,Q9,Q7,Qq,lk,l1,l2,lz,Za]
 rfl
theorem Ts (h:b≤a) (ha:a<18446744073709551616):IntKind.u64.wrap ((a:Int)-(b:Int))=((a-b:Nat):Int):=by rw [Wi]; omega
theorem tg (a n:Nat):Int.tmod (a:Int) (n:Int)=((a%n:Nat):Int):=rfl
theorem RZ {p q:List Nat} (hp:p.length=n) (hq:q.length=n):J2 (Qa n true) (ns .u64 p) (ns .u64 q)=some (p==q):=by
 induction n generalizing p q with
 | zero=>cases p with
  | nil=>cases q with
   | nil=>rfl
   | cons=>cases hq
  | cons=>cases hp
 | succ n ih=>cases p with
  | nil=>cases hp
  | cons a p=>cases q with
   | nil=>cases hq
   | cons b q =>
    have:=ih (p:=p) (q:=q) (by simpa using hp) (by simpa using hq)
    rw [Y3,Y3,Xm]
    simp only [J2,this,Bt,if_true,Qp,List.cons_beq_cons]
    congr 2
    by_cases h:a=b
    ·subst h; simp
    ·have h':¬ (a:Int)=(b:Int):=by omega
     rw [beq_eq_false_iff_ne.2 h,beq_eq_false_iff_ne.2 h']
def KJ:List Nat:=dig 65536 16 Go.Fp.P
theorem Ya:Nm KJ:=Nm.dig _
theorem Ws:num 65536 KJ=Go.Fp.P:=by decide +kernel
def Pc (o:List Nat) (i:Int) (ex:Env):St:=⟨[(0,.pointer (some ⟨0,0,none⟩)),(1,.pointer (some ⟨1,0,none⟩)),(2,.int .i64 i)]++ex,[⟨ns .u64 ZP,true,true,true,1⟩,⟨ns .u64 o,true,true,true,1⟩],[]⟩
theorem gX (hi:i<16) :
  Q5 T 0 Co (Pc (pf 16 (Qa 16 65535) i) i [])=some (.normal,Pc (pf 16 (Qa 16 65535) (i+1)) ((i+1:Nat):Int) []):=by
 have hl:(Qa 16 65535).length=16:=rfl
 have hg:(Qa 16 65535)[i]?=some 65535:=by rw [YK,if_pos hi]
 have hstep:=XK hl hi hg
 have hlen:=Ke hl (J3 hi)
 have hset:=Xo .u64 (pf 16 (Qa 16 65535) i) i 65535
 rw [hstep] at hset
 have hset':(ns .u64 (pf 16 (Qa 16 65535) i)).set i (.int .u64 65535)=ns .u64 (pf 16 (Qa 16 65535) (i+1)):=hset
 clear hset
 have w1:IntKind.i64.wrap ((i:Int)+1)=((i+1:Nat):Int):=ZJ (b:=1) (by omega)
 have e1:((i:Int)<16)=True:=eq_true (by omega)
 have e4:(i≤15)=True:=eq_true (by omega)
 generalize pf 16 (Qa 16 65535) i=o at *
 simp only [Pc,Co,Qs,quiet,cW,↓pW,reduceCtorEq,seval,-Qb,w1,e1,e4,hset',Q7,hlen]
theorem BZ:evVal T 153 []=some (eV KJ):=by
 have hb:=Jf (T:=T) (base:=0) (id:=0) (body:=Co) (fun i=>Pc (pf 16 (Qa 16 65535) i) i []) (s':=Pc (Qa 16 65535) 16 [(5,.bool false)]) 16
  (fun i hi=>gX hi) (by
   rw [KC (n:=16) (L:=Qa 16 65535) rfl]
   simp only [Pc,Co,Qs,quiet,cK,↓pQ,reduceCtorEq,seval,-Qb,cL])
 rw [KB,show Qa 16 0=ZP from rfl] at hb
 simp only [Pc,Qo,Qm,QD] at hb
 have hz:=Ky
 have hf:=Uz
 have lz:=X9
 have s1:(ns .u64 (Qa 16 65535)).set 0 (.int .u64 65517)=ns .u64 (65517::Qa 15 65535):=rfl
 have s2:(ns .u64 (65517::Qa 15 65535)).set 15 (.int .u64 32767)=ns .u64 KJ:=by
  have:KJ=(65517::Qa 15 65535).set 15 32767:=by decide +kernel
  rw [this]; rfl
 have l1:(Qa 16 65535).length=16:=rfl
 have l2:(65517::Qa 15 65535).length=16:=rfl
 have l3:=Ya.len
 generalize ZP=Z at *
 generalize KJ=R at *
 generalize 65517::Qa 15 65535=M at *
 generalize Qa 16 65535=L at *
 apply QC (fn:=a87) rfl
 simp only [a87,Qs,quiet,cW,↓pW,reduceCtorEq,seval,-Qb,hz,hf,hb,s1,s2,Qf,Qz,Qy,Q8,Zj,Q9,Q7,l1,l2,l3,lz,Za]
 rfl
def J9 (n:Nat):List Nat:=n%65536::n/65536%65536::Qa 14 0
theorem Xx (n:Nat):Nm (J9 n):=⟨rfl,fun x hx=>by
 simp only [J9,Jj,List.mem_replicate] at hx
 omega⟩
theorem Kd (h:n<4294967296):num 65536 (J9 n)=n:=by
 have:num 65536 (Qa 14 0)=0:=by decide
 simp only [J9,num,this]
 omega
theorem OY (a b:Nat):fillL (ns .u64 ZP) [(0,1,.int .u64 (a:Int)),(1,1,.int .u64 (b:Int))]=some (ns .u64 (a::b::Qa 14 0)):=rfl
theorem KY (n:Nat) (hn:n<18446744073709551616):evVal T 109 [.int .u64 (n:Nat)]=some (eV (J9 n)):=by
 have hz:=Ky
 have lz:=X9
 have hf:=OY (n%65536) (n/65536%65536)
 have e1:(n:Int).tmod 65536=((n%65536:Nat):Int):=rfl
 have e2:(n:Int).tdiv 65536=((n/65536:Nat):Int):=rfl
 have e3:(((n/65536:Nat):Int)).tmod 65536=((n/65536%65536:Nat):Int):=rfl
 have w1:IntKind.u64.wrap ((n%65536:Nat):Int)=((n%65536:Nat):Int):=YL (by omega)
 have w2:IntKind.u64.wrap ((n/65536:Nat):Int)=((n/65536:Nat):Int):=YL (by omega)
 have w3:IntKind.u64.wrap ((n/65536%65536:Nat):Int)=((n/65536%65536:Nat):Int):=YL (by omega)
 have hl:(n%65536::n/65536%65536::Qa 14 0).length=16:=rfl
 unfold J9
 generalize ZP=Z at *
 generalize n%65536::n/65536%65536::Qa 14 0=R at *
 apply QC (fn:=a70) rfl
 simp only [a70,Qs,quiet,cW,↓pW,reduceCtorEq,seval,-Qb,hz,hf,e1,e2,e3,w1,w2,w3,Qf,Qz,Qy,Q8,Zj,Q9,Q7,hl,lz,Za]
 rfl
theorem iO (h:o.length=i) (hi:i<n):(o++Qa (n-i) 0).set i x=(o++[x])++Qa (n-(i+1)) 0:=by
 rw [Z4 _ _ (by omega),h,Q3]
 have e2:n-i=(n-(i+1))+1:=by omega
 rw [e2,Xm,YI]
 simp
theorem pY (h:o.length=i) (hi:i≤n):(o++Qa (n-i) 0).length=n:=by simp; omega
theorem Nv (B:Nat) (o:List Nat) (x:Nat):num B (o++[x])=num B o+B^o.length*x:=by
 rw [KS]; simp [num]
def rmI (a b o:List Nat) (r:Nat) (i:Int) (ex:Env):St:=⟨[(2,.pointer (some ⟨0,0,none⟩)),(3,.pointer (some ⟨1,0,none⟩)),(4,.pointer (some ⟨2,0,none⟩)),(5,.pointer (some ⟨3,0,none⟩)),(6,.int .u64 r),(7,.int .i64 i)]++ex,[⟨ns .u64 a,true,true,true,1⟩,⟨ns .u64 b,true,true,true,1⟩,⟨ns .u64 ZP,true,true,true,1⟩,⟨ns .u64 o,true,true,true,1⟩],[]⟩
theorem p8 {a b:List Nat} (ha:Nm a) (hb:Nm b) (hi:i<16) (ho:o.length=i) (hr:r≤1) (xo:∀ x∈o,x<65536)
 (hn:num 65536 (a.take i)+65536^i*r=num 65536 (b.take i)+num 65536 o) :
    ∃ x r',Q5 T 0 Cj (rmI a b (o++Qa (16-i) 0) r i [])=some (.normal,rmI a b ((o++[x])++Qa (16-(i+1)) 0) r' ((i+1:Nat):Int) [])∧x<65536∧r'≤1 ∧
      num 65536 (a.take (i+1))+65536^(i+1)*r'=num 65536 (b.take (i+1))+num 65536 (o++[x]):=by
  obtain ⟨x,hx⟩:∃ x,a[i]?=some x:=⟨_,Qe (by rw [ha.len]; omega)⟩
  obtain ⟨y,hy⟩:∃ y,b[i]?=some y:=⟨_,Qe (by rw [hb.len]; omega)⟩
  have hx':=ha.lt x (Qn hx)
  have hy':=hb.lt y (Qn hy)
  refine ⟨(x+65536-y-r)%65536,1-(x+65536-y-r)/65536,?_,by omega,by omega,?_⟩
  · have hset:=Xo .u64 (o++Qa (16-i) 0) i ((x+65536-y-r)%65536)
    rw [iO ho hi] at hset
    have hlen:=pY ho (J3 hi)
    have hxc:=ZN (k := .u64) hx
    have hyc:=ZN (k := .u64) hy
    have l1:=ha.len
    have l2:=hb.len
    have w1:IntKind.i64.wrap ((i:Int)+1)=((i+1:Nat):Int):=ZJ (b:=1) (by omega)
    have w2:IntKind.u64.wrap ((x:Int)+65536)=((x+65536:Nat):Int):=Yy (b:=65536) (by omega)
    have w3:IntKind.u64.wrap (((x+65536:Nat):Int)-(y:Int))=((x+65536-y:Nat):Int):=Ts (by omega) (by omega)
    have w4:IntKind.u64.wrap (((x+65536-y:Nat):Int)-(r:Int))=((x+65536-y-r:Nat):Int):=Ts (by omega) (by omega)
    have w5:(((x+65536-y-r:Nat):Int)).tmod 65536=(((x+65536-y-r)%65536:Nat):Int):=rfl
    have w6:IntKind.u64.wrap ((((x+65536-y-r:Nat):Int)).tdiv 65536)=(((x+65536-y-r)/65536:Nat):Int):=YL (n:=(x+65536-y-r)/65536) (by omega)
    have w7:IntKind.u64.wrap (1-(((x+65536-y-r)/65536:Nat):Int))=((1-(x+65536-y-r)/65536:Nat):Int):=Ts (a:=1) (by omega) (by omega)
    have e1:((i:Int)<16)=True:=eq_true (by omega)
    have e4:(i≤15)=True:=eq_true (by omega)
    generalize (o++Qa (16-i) 0)=O at *
    generalize (o++[(x+65536-y-r)%65536]++Qa (16-(i+1)) 0)=O' at *
    generalize (x+65536-y-r)/65536=q at *
    generalize (x+65536-y-r)%65536=m at *
    generalize x+65536-y-r=v1 at *
    generalize x+65536-y=v2 at *
    generalize x+65536=v3 at *
    generalize 1-q=v4 at *
    generalize i+1=i1 at *
    simp only [rmI,Cj,Qs,quiet,cW,↓pW,reduceCtorEq,seval,-Qb,hxc,hyc,w1,w2,w3,w4,w5,w6,w7,e1,e4,hset,Q7,hlen,l1,l2]
  · rw [J5 hx,J5 hy,Nv,ho]
    have h:x+65536*(1-(x+65536-y-r)/65536)=y+r+(x+65536-y-r)%65536:=by omega
    generalize (x+65536-y-r)%65536=m at *
    generalize 1-(x+65536-y-r)/65536=q at *
    have h2:=congrArg (fun t=>t*65536^i) h
    simp only [QY] at h2
    rw [Zi]
    generalize 65536^i=p at *
    rw [Zk p r] at hn
    rw [Zx p,Zk p (65536*q),Zk p m]
    omega
theorem TZ {a b:List Nat} (ha:Nm a) (hb:Nm b) (h:num 65536 b≤num 65536 a):evVal T 156 [eV a,eV b]=some (eV (dig 65536 16 (num 65536 a-num 65536 b))):=by
 obtain ⟨st,hl,o,r,rfl,h1,h2,h3,h4⟩:=Zm (T:=T) (base:=0) (id:=0) (body:=Cj)
  (fun i st=>∃ (o:List Nat) (r:Nat),st=rmI a b (o++Qa (16-i) 0) r i []∧o.length=i∧r≤1∧(∀ x∈o,x<65536)∧num 65536 (a.take i)+65536^i*r=num 65536 (b.take i)+num 65536 o)
  (Q:=fun st=>∃ (o:List Nat) (r:Nat),st=rmI a b o r 16 [(11,.bool false)]∧o.length=16∧r≤1∧(∀ x∈o,x<65536)∧num 65536 a+65536^16*r=num 65536 b+num 65536 o)
  16 (s:=rmI a b ZP 0 0 []) ⟨[],0,rfl,rfl,by omega,by simp,by simp [num]⟩
  (fun i st hi hs=>by
   obtain ⟨o,r,rfl,h1,h2,h3,h4⟩:=hs
   obtain ⟨x,r',g1,g2,g3,g4⟩:=p8 ha hb hi h1 h2 h3 h4
   refine ⟨_,g1,o++[x],r',rfl,by simp [h1],g3,?_,g4⟩
   intro y hy
   rcases QF.1 hy with hy | hy
   ·exact h3 y hy
   ·rw [JW.1 hy]; exact g2)
  (fun st hs=>by
   obtain ⟨o,r,rfl,h1,h2,h3,h4⟩:=hs
   rw [Ql (by rw [ha.len]; omega),Ql (by rw [hb.len]; omega)] at h4
   refine ⟨_,?_,o,r,rfl,h1,h2,h3,h4⟩
   rw [Q3,List.replicate_zero,QA]
   simp only [rmI,Cj,Qs,quiet,cK,↓pQ,reduceCtorEq,seval,-Qb,cL])
 have hN:Nm o:=⟨h1,h3⟩
 have hlt:=hN.num_lt
 have hr:r=0:=by
  rcases Jd r with h0 | h0
  ·exact h0
  ·exfalso
   have:r=1:=by omega
   subst this
   rw [show (65536:Nat)^16=2^256 by decide] at h4
   generalize (2:Nat)^256=M at *
   omega
 subst hr
 have ho:o=dig 65536 16 (num 65536 a-num 65536 b):=by
  rw [hN.eq]
  refine congrArg (dig 65536 16) ?_
  generalize (65536:Nat)^16=M at *
  omega
 rw [←ho]
 have hz:=Ky
 have hf:=Uz
 have lz:=X9
 have l1:=ha.len
 have l2:=hb.len
 simp only [rmI,Qo,Qm,QD] at hl
 generalize ZP=Z at *
 apply QC (fn:=a90) rfl
 simp only [a90,Qs,quiet,cW,↓pW,reduceCtorEq,seval,-Qb,hz,hf,hl,Qf,Qz,Qy,Q8,Zj,Q9,Q7,l1,l2,h1,lz,Za]
 rfl
def JQ (x r:Nat):Nat:=x/2^r+x*2^(64-r)%18446744073709551616
def sg0 (x:Nat):Nat:=JQ x 1^^^JQ x 8^^^(x/2^7)
def sg1 (x:Nat):Nat:=JQ x 19^^^JQ x 61^^^(x/2^6)
def Sg0 (x:Nat):Nat:=JQ x 28^^^JQ x 34^^^JQ x 39
def Sg1 (x:Nat):Nat:=JQ x 14^^^JQ x 18^^^JQ x 41
def chO (e f g:Nat):Nat:=(e&&&f)^^^((18446744073709551615^^^e)&&&g)
def maO (a b c:Nat):Nat:=(a&&&b)^^^(a&&&c)^^^(b&&&c)
def be (l:List Nat):Nat:=l.foldl (fun a x=>a*256+x) 0
def ta (w:List Nat):Nat:=(w.getD (w.length-16) 0+w.getD (w.length-7) 0+sg0 (w.getD (w.length-15) 0)+sg1 (w.getD (w.length-2) 0))%18446744073709551616
def BQ:Nat→List Nat→List Nat
 | 0,l=>l
 | n+1,l=>BQ n l++[ta (BQ n l)]
def EJ (b:List Nat):List Nat:=(Jm 16).map fun i=>be ((b.drop (8*i)).take 8)
def JR (b:List Nat):List Nat:=BQ 64 (EJ b)
def Vu:List Nat:=[4794697086780616226,8158064640168781261,13096744586834688815,16840607885511220156,4131703408338449720,6480981068601479193,10538285296894168987,12329834152419229976,15566598209576043074,1334009975649890238,2608012711638119052,6128411473006802146,8268148722764581231,9286055187155687089,11230858885718282805,13951009754708518548,16472876342353939154,17275323862435702243,1135362057144423861,2597628984639134821,3308224258029322869,5365058923640841347,6679025012923562964,8573033837759648693,10970295158949994411,12119686244451234320,12683024718118986047,13788192230050041572,14330467153632333762,15395433587784984357,489312712824947311,1452737877330783856,2861767655752347644,3322285676063803686,5560940570517711597,5996557281743188959,7280758554555802590,8532644243296465576,9350256976987008742,10552545826968843579,11727347734174303076,12113106623233404929,14000437183269869457,14369950271660146224,15101387698204529176,15463397548674623760,17586052441742319658,1182934255886127544,1847814050463011016,2177327727835720531,2830643537854262169,3796741975233480872,4115178125766777443,5681478168544905931,6601373596472566643,7507060721942968483,8399075790359081724,8693463985226723168,9568029438360202098,10144078919501101548,10430055236837252648,11840083180663258601,13761210420658862357,14299343276471374635,14566680578165727644,15097957966210449927,16922976911328602910,17689382322260857208,500013540394364858,748580250866718886,1242879168328830382,1977374033974150939,2944078676154940804,3659926193048069267,4368137639120453308,4836135668995329356,5532061633213252278,6448918945643986474,6902733635092675308,7801388544844847127]
def t1O (s:List Nat) (k w:Nat):Nat:=(s.getD 7 0+Sg1 (s.getD 4 0)+chO (s.getD 4 0) (s.getD 5 0) (s.getD 6 0)+k+w)%18446744073709551616
def t2O (s:List Nat):Nat:=(Sg0 (s.getD 0 0)+maO (s.getD 0 0) (s.getD 1 0) (s.getD 2 0))%18446744073709551616
def rnd (s:List Nat) (k w:Nat):List Nat:=[(t1O s k w+t2O s)%18446744073709551616,s.getD 0 0,s.getD 1 0,s.getD 2 0,(s.getD 3 0+t1O s k w)%18446744073709551616,s.getD 4 0,s.getD 5 0,s.getD 6 0]
def Ga:Nat→List Nat→List Nat→List Nat
 | 0,_,s=>s
 | n+1,w,s=>rnd (Ga n w s) (Vu.getD n 0) (w.getD n 0)
def blk (s b:List Nat):List Nat:=List.zipWith (fun x y=>(x+y)%18446744073709551616) s (Ga 80 (JR b) s)
def Ys:List Nat:=[7640891576956012808,13503953896175478587,4354685564936845355,11912009170470909681,5840696475078001361,11170449401992604703,2270897969802886507,6620516959819538809]
def stK:Nat→List Nat→List Nat
 | 0,_=>Ys
 | n+1,b=>blk (stK n b) ((b.drop (128*n)).take 128)
def Va (n:Nat):Nat:=(239-n%128)%128
def Uq (n:Nat):List Nat:=128::(Qa (Va n) 0++((Jm 16).map fun i=>8*n/256^(15-i)%256))
def sha (b:List Nat):List Nat:=(Jm 64).map fun i=>(stK ((b++Uq b.length).length/128) (b++Uq b.length)).getD (i/8) 0/256^(7-i%8)%256
theorem UL:Vu.length=80:=rfl
theorem bM:Ys.length=8:=rfl
theorem XC (hx:x<18446744073709551616) (hr:0<r) (hr':r≤63):JQ x r<18446744073709551616:=by
 unfold JQ
 have e:(18446744073709551616:Nat)=2^r*2^(64-r):=by rw [←JE,show r+(64-r)=64 by omega]
 have h1:x/2^r<2^(64-r):=Yd (by rw [←e]; exact hx)
 have h2:x*2^(64-r)%18446744073709551616=(x%2^r)*2^(64-r):=by rw [e,WI]
 rw [h2]
 have h3:x%2^r+1≤2^r:=Q6 _ (Xa (by decide))
 have h4:=Zq (2^(64-r)) h3
 rw [←e,QY,JT] at h4
 omega
theorem pn (hx:x<18446744073709551616) (hr:0<r) (hr':r≤63):(x*2^(64-r)%18446744073709551616)|||(x/2^r)=JQ x r:=by
 have e:(18446744073709551616:Nat)=2^r*2^(64-r):=by rw [←JE,show r+(64-r)=64 by omega]
 have h1:x/2^r<2^(64-r):=Yd (by rw [←e]; exact hx)
 have h2:x*2^(64-r)%18446744073709551616=(x%2^r)*2^(64-r):=by rw [e,WI]
 unfold JQ
 rw [h2,Yi h1,Xh]
theorem Dc (hx:x<18446744073709551616) (hr:0<r) (hr':r≤63):evVal T 164 [.int .u64 x,.int .i64 (-(r:Int))]=some (.int .u64 (JQ x r:Nat)):=by
 have hw:IntKind.u64.wrap (-(r:Int))=((18446744073709551616-r:Nat):Int):=by rw [Wi]; omega
 have hm:Zz .and .u64 ((18446744073709551616-r:Nat):Int) 63=((64-r:Nat):Int):=by
  have:=Ur .u64 rfl 6 (18446744073709551616-r) (by decide)
  have e:((2^6-1:Nat):Int)=63:=by decide
  rw [e] at this
  rw [this]
  have:(18446744073709551616-r)%2^6=64-r:=by omega
  rw [this]
 have n1:(((64-r:Nat):Int)<0)=False:=eq_false (by omega)
 have h64:min (64-r) IntKind.u64.bits=64-r:=Zp (by show 64-r≤64; omega)
 have hr64:min r IntKind.u64.bits=r:=Zp (by show r≤64; omega)
 have hs1:IntKind.u64.wrap ((x:Int)*2^(64-r))=((x*2^(64-r)%18446744073709551616:Nat):Int):=by
  rw [←Dg,Xc,VG]; rfl
 have hsub:IntKind.u64.wrap (64-((64-r:Nat):Int))=(r:Int):=by rw [Wi]; omega
 have n2:((r:Int)<0)=False:=eq_false (by omega)
 have hs2:(x:Int).fdiv (2^r)=((x/2^r:Nat):Int):=by
  rw [←Ro,VG]; rfl
 have hlt1:x*2^(64-r)%18446744073709551616<2^IntKind.u64.bits:=Q6 _ (by decide)
 have hlt2:x/2^r<2^IntKind.u64.bits:=Js (JJ _ _) hx
 have ho:Zz .or .u64 ((x*2^(64-r)%18446744073709551616:Nat):Int) ((x/2^r:Nat):Int)=((JQ x r:Nat):Int):=by
  rw [KD rfl hlt1 hlt2,pn hx hr hr']
 generalize hq:64-r=q at *
 generalize hu:18446744073709551616-r=u at *
 apply QC (fn:=wZ) rfl
 simp only [wZ,↓BV,Qs,quiet,cW,↓pW,reduceCtorEq,seval,-Qb,hw,hm,n1,h64,hs1,hsub,n2,hr64,hs2,ho,KW]
 rfl
theorem FD:fillL (Qa 80 (Value.int .u64 0)) [(0,1,.int .u64 4794697086780616226),(1,1,.int .u64 8158064640168781261),(2,1,.int .u64 13096744586834688815),(3,1,.int .u64 16840607885511220156),(4,1,.int .u64 4131703408338449720),(5,1,.int .u64 6480981068601479193),(6,1,.int .u64 10538285296894168987),(7,1,.int .u64 12329834152419229976),(8,1,.int .u64 15566598209576043074),(9,1,.int .u64 1334009975649890238),(10,1,.int .u64 2608012711638119052),(11,1,.int .u64 6128411473006802146),(12,1,.int .u64 8268148722764581231),(13,1,.int .u64 9286055187155687089),(14,1,.int .u64 11230858885718282805),(15,1,.int .u64 13951009754708518548),(16,1,.int .u64 16472876342353939154),(17,1,.int .u64 17275323862435702243),(18,1,.int .u64 1135362057144423861),(19,1,.int .u64 2597628984639134821),(20,1,.int .u64 3308224258029322869),(21,1,.int .u64 5365058923640841347),(22,1,.int .u64 6679025012923562964),(23,1,.int .u64 8573033837759648693),(24,1,.int .u64 10970295158949994411),(25,1,.int .u64 12119686244451234320),(26,1,.int .u64 12683024718118986047),(27,1,.int .u64 13788192230050041572),(28,1,.int .u64 14330467153632333762),(29,1,.int .u64 15395433587784984357),(30,1,.int .u64 489312712824947311),(31,1,.int .u64 1452737877330783856),(32,1,.int .u64 2861767655752347644),(33,1,.int .u64 3322285676063803686),(34,1,.int .u64 5560940570517711597),(35,1,.int .u64 5996557281743188959),(36,1,.int .u64 7280758554555802590),(37,1,.int .u64 8532644243296465576),(38,1,.int .u64 9350256976987008742),(39,1,.int .u64 10552545826968843579),(40,1,.int .u64 11727347734174303076),(41,1,.int .u64 12113106623233404929),(42,1,.int .u64 14000437183269869457),(43,1,.int .u64 14369950271660146224),(44,1,.int .u64 15101387698204529176),(45,1,.int .u64 15463397548674623760),(46,1,.int .u64 17586052441742319658),(47,1,.int .u64 1182934255886127544),(48,1,.int .u64 1847814050463011016),(49,1,.int .u64 2177327727835720531),(50,1,.int .u64 2830643537854262169),(51,1,.int .u64 3796741975233480872),(52,1,.int .u64 4115178125766777443),(53,1,.int .u64 5681478168544905931),(54,1,.int .u64 6601373596472566643),(55,1,.int .u64 7507060721942968483),(56,1,.int .u64 8399075790359081724),(57,1,.int .u64 8693463985226723168),(58,1,.int .u64 9568029438360202098),(59,1,.int .u64 10144078919501101548),(60,1,.int .u64 10430055236837252648),(61,1,.int .u64 11840083180663258601),(62,1,.int .u64 13761210420658862357),(63,1,.int .u64 14299343276471374635),(64,1,.int .u64 14566680578165727644),(65,1,.int .u64 15097957966210449927),(66,1,.int .u64 16922976911328602910),(67,1,.int .u64 17689382322260857208),(68,1,.int .u64 500013540394364858),(69,1,.int .u64 748580250866718886),(70,1,.int .u64 1242879168328830382),(71,1,.int .u64 1977374033974150939),(72,1,.int .u64 2944078676154940804),(73,1,.int .u64 3659926193048069267),(74,1,.int .u64 4368137639120453308),(75,1,.int .u64 4836135668995329356),(76,1,.int .u64 5532061633213252278),(77,1,.int .u64 6448918945643986474),(78,1,.int .u64 6902733635092675308),(79,1,.int .u64 7801388544844847127)]=some (ns .u64 Vu):=rfl
theorem SO:evVal T 161 []=some (eV Vu):=by
 have hf:=FD
 have lk:=UL
 generalize Vu=K at *
 apply QC (fn:=wY) rfl
 simp only [wY,Qs,quiet,cW,↓pW,reduceCtorEq,seval,-Qb,hf,Qf,Qz,Qy,Q8,Zj,Q9,Q7,lk,Za]
 rfl
theorem GM (l:List Nat):∀ n,(BQ n l).length=l.length+n
 | 0=>rfl
 | n+1=>by rw [BQ,Qj,GM l n]; rfl
theorem GN (l:List Nat) {n j:Nat} (hj:j<l.length+n):∀ m,n≤m→(BQ m l)[j]?=(BQ n l)[j]?
 | 0,h=>by rw [show n=0 by omega]
 | m+1,h=>by
  by_cases e:n=m+1
  ·rw [e]
  ·rw [BQ,Qc (by rw [GM]; omega),GN l hj m (by omega)]
theorem MM (b:List Nat):(EJ b).length=16:=by simp [EJ]
theorem Yf (b:List Nat):(JR b).length=80:=by rw [JR,GM,MM]
theorem MP {b:List Nat} (hi:i<16):(JR b)[i]?=some (be ((b.drop (8*i)).take 8)):=by
 rw [JR,GN _ (n:=0) (by rw [MM]; omega) 64 (by omega)]
 simp [BQ,EJ,hi]
theorem MO {b:List Nat} (hi:16≤i) (hi':i<80):(JR b)[i]?=some (((JR b).getD (i-16) 0+(JR b).getD (i-7) 0+sg0 ((JR b).getD (i-15) 0)+sg1 ((JR b).getD (i-2) 0))%18446744073709551616):=by
 obtain ⟨n,rfl⟩:∃ n,i=16+n:=⟨i-16,by omega⟩
 have hl:=MM b
 have hn:=GM (EJ b) n
 rw [hl] at hn
 have hg:∀ j,j<16+n→(JR b).getD j 0=(BQ n (EJ b)).getD j 0:=fun j hj=>by
  rw [QB,QB,JR,GN _ (n:=n) (by rw [hl]; omega) 64 (by omega)]
 rw [hg _ (by omega),hg _ (by omega),hg _ (by omega),hg _ (by omega)]
 rw [JR,GN _ (n:=n+1) (by rw [hl]; omega) 64 (by omega),BQ,Qh (by omega),hn,Q3]
 simp only [ta,hn,List.getElem?_cons_zero]
theorem IW (l:List Nat) (x:Nat):be (l++[x])=be l*256+x:=by simp [be]
theorem Ox:∀ (n:Nat) (l:List Nat),l.length=n→(∀ x∈l,x<256)→be l<256^n
 | 0,l,h,_=>by rw [List.eq_nil_of_length_eq_zero h]; decide
 | n+1,l,h,hx=>by
  obtain ⟨m,x,rfl⟩:∃ m x,l=m++[x]:=⟨l.dropLast,l.getLast (by intro e; rw [e] at h; cases h),(List.dropLast_concat_getLast _).symm⟩
  rw [Qj] at h
  have h1:=Ox n m (by simpa using h) (fun y hy=>hx y (List.mem_append_left _ hy))
  have h2:=hx x (by simp)
  rw [IW,Zi]
  omega
theorem Tr {b:List Nat} (hb:∀ x∈b,x<256) (hx:(JR b)[i]?=some x):x<18446744073709551616:=by
 have hi:i<80:=by have:=(Qg.1 hx).1; rwa [Yf] at this
 by_cases h:i<16
 ·rw [MP h] at hx
  cases hx
  have hl:((b.drop (8*i)).take 8).length≤8:=by rw [Q4]; omega
  have:=Ox _ _ rfl (fun y hy=>hb y (ZW (QU hy)):∀ y∈(b.drop (8*i)).take 8,y<256)
  exact QK this (Zr (n:=256) (by decide) hl)
 ·rw [MO (by omega) hi] at hx
  cases hx
  exact Q6 _ (by decide)
theorem YN {j:Nat} (hj:j<i) (hi:i≤L.length):(pf n L i)[j]?=L[j]? := by
 unfold pf
 rw [Qc (by rw [Q4]; omega),QZ,if_pos hj]
theorem LB {l:List Nat} (h:l[i]?=some x):l.set i x=l:=by
 apply Jn
 intro k
 rw [List.getElem?_set]
 by_cases c:i=k
 ·rw [if_pos c,←c,h,if_pos (Qg.1 h).1]
 ·rw [if_neg c]
theorem Ak (hi:i<n) (hl:L.length=n):(pf n L i)[i]?=some 0:=by
 unfold pf
 rw [Qh (by rw [Q4]; omega),Q4,Zp (by omega),Q3,YK,if_pos (by omega)]
theorem Wk (a b:Nat):IntKind.u64.wrap ((a:Int)+(b:Int))=(((a+b)%18446744073709551616:Nat):Int):=by rw [←Xj,Dg]
theorem YA (ha:a<18446744073709551616) (hb:b<18446744073709551616):Zz .xor .u64 (a:Int) (b:Int)=((a^^^b:Nat):Int):=Ce rfl ha hb
theorem GG (ha:a<18446744073709551616) (hb:b<18446744073709551616):Zz .and .u64 (a:Int) (b:Int)=((a&&&b:Nat):Int):=WB rfl ha hb
theorem VH (ha:a<18446744073709551616) (hb:b<18446744073709551616):a^^^b<18446744073709551616:=Nat.xor_lt_two_pow (n:=64) ha hb
theorem Kh (hb:b<18446744073709551616):a&&&b<18446744073709551616:=XO (n:=64) a hb
theorem Da (hr:r≤64):(x:Int).fdiv (2^min r IntKind.u64.bits)=((x/2^r:Nat):Int):=by
 rw [show min r IntKind.u64.bits=r from Zp hr,←Ro,VG]; rfl
theorem Mf (hx:x<18446744073709551616):x/2^r<18446744073709551616:=Js (JJ _ _) hx
structure BB (H:List Ob) (id off:Nat) (b:List Nat):Prop where
 ob:∃ all:List Nat,H[id]?=some ⟨u8s all,true,true,false,1⟩∧∀ i,i<b.length→all[off+i]?=b[i]?
 lt:∀ x∈b,x<256
theorem BB.app {H l:List Ob} {id off:Nat} {b:List Nat} (h:BB H id off b):BB (H++l) id off b:=by
 obtain ⟨⟨all,h1,h2⟩,h3⟩:=h
 exact ⟨⟨all,by rw [Qc (Qg.1 h1).1]; exact h1,h2⟩,h3⟩
def w2I (H:List Ob) (P:Value) (id off cap:Nat) (w:List Nat) (i:Int) (o8 c8:Nat) (j:Int) (ex:Env):St:=⟨[(0,P),(1,.slice (some ⟨id,off,none⟩) 128 cap),(4,.pointer (some ⟨H.length,0,none⟩)),(5,.int .i64 i),(17,.int .i64 i),(28,.slice (some ⟨id,o8,none⟩) 8 c8),(29,.int .i64 8),(30,.int .i64 j)]++ex,H++[⟨ns .u64 w,true,true,true,1⟩],[]⟩
theorem eL {H:List Ob} {P:Value} {id off cap c8:Nat} {b:List Nat} (hb:BB H id off b) (hl:b.length=128) (hi:i<16) :
  Q5 T H.length (.block 2 (.loop MA)) (w2I H P id off cap (pf 80 (JR b) i) i (off+8*i) c8 0 [])=some (.normal,w2I H P id off cap (pf 80 (JR b) (i+1)) i (off+8*i) c8 8 [(31,.bool false)]):=by
 obtain ⟨⟨all,h1,h2⟩,h3⟩:=hb
 have hWl:=Yf b
 have h8:((b.drop (8*i)).take 8).length=8:=by rw [Q4,List.length_drop]; omega
 have hz:=Ak (L:=JR b) (by omega:i<80) hWl
 have hpl:=Ke hWl (by omega:i≤80)
 have AJ:(pf 80 (JR b) i).set i (be [])=pf 80 (JR b) i:=LB hz
 have hW:=MP (b:=b) hi
 have hstep:=XK hWl (by omega:i<80) hW
 have h:=Jf (T:=T) (base:=H.length) (id:=2) (body:=MA) (fun j=>w2I H P id off cap ((pf 80 (JR b) i).set i (be (((b.drop (8*i)).take 8).take j))) i (off+8*i) c8 j []) (s':=w2I H P id off cap (pf 80 (JR b) (i+1)) i (off+8*i) c8 8 [(31,.bool false)]) 8
  (fun j hj=>by
   obtain ⟨x,hx⟩:∃ x,((b.drop (8*i)).take 8)[j]?=some x:=⟨_,Qe (by omega)⟩
   have hxb:b[8*i+j]?=some x:=by
    rw [QZ,if_pos hj,Zt] at hx; exact hx
   have hx':=h3 x (Qn hxb)
   have hxa:(u8s all)[off+8*i+j]?=some (.int .u8 (x:Nat)):=Jk (by rw [show off+8*i+j=off+(8*i+j) by omega,h2 _ (by omega)]; exact hxb)
   have hbel:=Ox j (((b.drop (8*i)).take 8).take j) (by rw [Q4]; omega) (fun y hy=>h3 y (ZW (QU (QU hy))))
   have hbes:be (((b.drop (8*i)).take 8).take (j+1))=be (((b.drop (8*i)).take 8).take j)*256+x:=by rw [Z5,hx]; exact IW _ _
   rw [hbes]
   have h256:(256:Nat)^j≤256^7:=Zr (by decide) (by omega)
   have e7:(256:Nat)^7=72057594037927936:=by decide
   rw [e7] at h256
   generalize be (((b.drop (8*i)).take 8).take j)=a at *
   have hg:((pf 80 (JR b) i).set i a)[i]?=some a:=by rw [Q1 (by rw [hpl]; omega)]
   have hgc:=ZN (k := .u64) hg
   have hss:=Xo .u64 ((pf 80 (JR b) i).set i a) i (a*256+x)
   rw [List.set_set] at hss
   have hln:((pf 80 (JR b) i).set i a).length=80:=by rw [Q0]; exact hpl
   have w1:IntKind.i64.wrap ((j:Int)+1)=((j+1:Nat):Int):=ZJ (b:=1) (by omega)
   have w2:IntKind.u64.wrap (x:Int)=(x:Int):=YL (by omega)
   have w3:IntKind.u64.wrap ((a:Int)*2^min 8 IntKind.u64.bits)=((a*256:Nat):Int):=WN (b:=256) (by omega)
   have w4:Zz .or .u64 ((a*256:Nat):Int) (x:Int)=((a*256+x:Nat):Int):=by
    rw [KD rfl (show a*256<2^64 by omega) (show x<2^64 by omega)]
    have:=Yi (a:=x) (b:=a) (n:=8) (by omega)
    rw [show (2:Nat)^8=256 from rfl] at this
    rw [this]
   have e1:((j:Int)<8)=True:=eq_true (by omega)
   have e2:((i:Int)<80)=True:=eq_true (by omega)
   have e4:(i≤79)=True:=eq_true (by omega)
   have hl1:liveAt (H++[⟨ns .u64 ((pf 80 (JR b) i).set i a),true,true,true,1⟩]) id=some ⟨u8s all,true,true,false,1⟩:=Kz (Zy h1 rfl)
   generalize (pf 80 (JR b) i).set i a=O1,(pf 80 (JR b) i).set i (a*256+x)=O2 at *
   generalize hv:a*256+x=v at *
   generalize a*256=v2 at *
   simp only [liveAt] at hl1
   generalize hoo:off+8*i=oo at *
   have hget:(H++[⟨ns .u64 O1,true,true,true,1⟩])[id]?=some ⟨u8s all,true,true,false,1⟩:=by rw [Qc (Qg.1 h1).1]; exact h1
   simp only [w2I,MA,Qs,quiet,cW,↓pW,reduceCtorEq,seval,-Qb,hget,hxa,hgc,w1,w2,w3,w4,e1,e2,e4,hss,Q7,hln])
  (by
   rw [Ql (by omega),hstep]
   simp only [w2I,MA,Qs,quiet,cW,↓pW,reduceCtorEq,seval,-Qb])
 rw [Jz,AJ] at h
 exact h
end
end Go.Ev.YtpgphpkjlpkcbaaGreat

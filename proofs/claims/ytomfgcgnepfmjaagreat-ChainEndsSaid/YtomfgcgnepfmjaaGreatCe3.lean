/- What the law leans on, part 3. -/
import Derived.Test.YtomfgcgnepfmjaaGreatCe2
set_option linter.unusedSimpArgs false
set_option linter.unusedVariables false
set_option linter.defProp false
open And renaming intro → Qi
open Bool renaming and_eq_true → ZZ, false_eq_true → Zj
open Exists renaming intro → ZL
open Int renaming cast_ofNat_Int → Uf, natCast_add → KQ, natCast_mul → JI, natCast_one → Lr, natCast_pow → Xo, natCast_zero → Zx, toNat_natCast → XS
open List renaming all_cons → KR, append_assoc → Qv, append_nil → Q6, cons_append → Qw, drop → Zr, drop_append_of_le_length → ZH, drop_eq_getElem_cons → JM, drop_of_length_le → Ju, eq_nil_of_length_eq_zero → Zd, ext_getElem? → ZO, flatten_append → Zs, flatten_cons → QI, foldl_cons → Xm, foldl_nil → Vk, getD_eq_getElem?_getD → Qx, getElem?_append_left → Qa, getElem?_append_right → Qe, getElem?_drop → Zp, getElem?_eq_getElem → Qh, getElem?_eq_some_iff → Qf, getElem?_set → XR, getElem?_set_ne → Qm, getElem?_set_self → Qt, getElem?_take → QV, getElem?_zipWith → Yv, length_append → Qg, length_cons → Zm, length_drop → QC, length_nil → Zz, length_replicate → Qn, length_set → Qo, length_take → Q7, length_zipWith → Wt, map_append → Xl, map_cons → Jc, map_nil → JN, mem_append → QJ, mem_append_left → Vj, mem_cons → Jw, mem_cons_of_mem → XJ, mem_map → ZV, mem_of_getElem? → Qz, mem_of_mem_drop → Zw, mem_of_mem_take → QQ, mem_range'_1 → VT, mem_singleton → Zc, nil_append → Qr, not_mem_nil → JA, range → ZQ, range' → Xs, reduceReplicate → Qb, replicate → Qc, set_append_left → Xa, set_append_right → Q4, set_set → KM, take → Q2, take_add_one → ZG, take_append_drop → ZR, take_append_of_le_length → ZT, take_of_length_le → Qu, take_zero → JZ, zipWith → Ks
open Nat renaming Coprime → oK, add_assoc → Zh, add_comm → Xy, add_mul → Zu, add_sub_cancel_left → Qq, add_zero → ZF, div_add_mod → ZK, div_div_eq_div_mul → Jl, div_eq_of_lt → Xr, div_le_self → JP, div_lt_of_lt_mul → Kr, div_one → XI, dvd_mul_left → FG, dvd_of_mod_eq_zero → VS, eq_zero_or_pos → ZB, gcd → Ml, le_of_dvd → Kw, le_of_lt → Xf, le_refl → Qk, le_trans → Jf, lt_irrefl → Vy, lt_of_le_of_lt → J4, lt_of_lt_of_le → QH, lt_or_ge → Zq, lt_succ_of_lt → Vb, lt_trans → Kq, min_eq_left → Ze, mod_eq_of_lt → QB, mod_eq_zero_of_dvd → HC, mod_lt → Q3, mod_mod → Bt, mod_mod_of_dvd → VC, mod_mul_mod → Lo, mod_one → oH, mul_comm → Zy, mul_le_mul → JJ, mul_le_mul_right → JL, mul_left_comm → Jy, mul_mod → YO, mul_mod_mul_right → Yt, mul_one → XX, one_mul → X4, pow_add → JG, pow_le_pow_right → Zn, pow_mod → oG, pow_mul → Jh, pow_pos → JT, pow_succ → Z0, pow_zero → Xe, sub_mod_eq_zero_of_mod_eq → YN, sub_self → Qs, sub_zero → Hz, zero_add → QA, zero_mul → Kp
open Option renaming bind_some → Qj
open Option.some renaming inj → Xk, injEq → Ql
namespace Go.NT
variable {a n k:Nat}
def Pr (p:Nat):Prop:=2≤p∧∀ m,m∣p→m=1∨m=p
theorem Pr.coprime {p a:Nat} (hp:Pr p) (h:¬ p∣a):oK p a:=by
 rcases hp.2 (Ml p a) (Nat.gcd_dvd_left p a) with h1 | h1
 ·exact h1
 ·exact absurd (h1▸Nat.gcd_dvd_right p a) h
theorem Pr.dvd_mul {p a b:Nat} (hp:Pr p) (h:p∣a*b):p∣a∨p∣b:=by
 by_cases ha:p∣a
 ·exact .inl ha
 ·exact .inr ((hp.coprime ha).dvd_of_dvd_mul_left h)
def YX:List Nat→Nat
 | []=>1
 | x::r=>x*YX r
theorem Ig {l l':List Nat} (h:l.Perm l'):YX l=YX l':=by
 induction h with
 | nil=>rfl
 | cons x _ ih=>simp only [YX,ih]
 | swap x y l=>simp only [YX,Jy]
 | trans _ _ h1 h2=>rw [h1,h2]
theorem LG:∀ {l1 l2:List Nat},l1.Nodup→(∀ x∈l1,x∈l2)→l2.length≤l1.length→l1.Perm l2
 | [],l2,_,_,hl=>by
  have:l2=[]:=by cases l2 with | nil=>rfl | cons _ _=>simp at hl
  subst this; exact .nil
 | a::t,l2,hn,hs,hl=>by
  have ha:=hs a (by simp)
  have hp:=List.perm_cons_erase ha
  have hlen:=hp.length_eq
  rw [List.nodup_cons] at hn
  refine (List.Perm.cons a (LG hn.2 (fun x hx => ?_) ?_)).trans hp.symm
  ·have hxa:x≠a:=fun h=>hn.1 (h▸hx)
   exact (List.mem_erase_of_ne hxa).2 (hs x (by simp [hx]))
  ·simp only [Zm] at hl hlen ⊢
   omega
theorem T5 (a p:Nat):∀ l:List Nat,YX (l.map fun x=>a*x%p)%p=a^l.length*YX l%p
 | []=>by simp [YX]
 | x::r=>by
  have h1:=T5 a p r
  simp only [Jc,YX,Zm,Z0]
  rw [YO,h1,Bt,←YO]
  congr 1
  simp only [Nat.mul_assoc,Jy,Zy]
theorem MO {p:Nat} (hp:Pr p):∀ {l:List Nat},(∀ x∈l,¬ p∣x)→¬ p∣YX l
 | [],_=>fun h=>by
  have:=Kw (by decide:0<1) h
  have:=hp.1
  omega
 | x::r,h=>fun hd=>by
  rcases hp.dvd_mul hd with h1 | h1
  ·exact h x (by simp) h1
  ·exact MO hp (fun y hy=>h y (by simp [hy])) h1
theorem Df {p:Nat} (hp:Pr p) (ha:¬ p∣a):a^(p-1)%p=1:=by
 have h2:=hp.1
 have hnd:((Xs 1 (p-1)).map fun x=>a*x%p).Nodup:=by
  rw [List.nodup_iff_pairwise_ne,List.pairwise_map]
  refine List.Pairwise.imp_of_mem ?_ (List.pairwise_lt_range' (s:=1) (n:=p-1))
  intro x y hx hy hxy he
  simp only [VT] at hx hy
  have h3:(a*y-a*x)%p=0:=YN he.symm
  rw [←Nat.mul_sub] at h3
  rcases hp.dvd_mul (VS h3) with h4 | h4
  ·exact ha h4
  ·have:=Kw (by omega) h4
   omega
 have hmem:∀ x∈(Xs 1 (p-1)).map (fun x=>a*x%p),x∈Xs 1 (p-1):=by
  intro x hx
  simp only [ZV,VT] at hx ⊢
  obtain ⟨y,hy,rfl⟩:=hx
  have h3:a*y%p<p:=Q3 _ (by omega)
  have h4:a*y%p≠0:=fun h=>by
   rcases hp.dvd_mul (VS h) with h4 | h4
   ·exact ha h4
   ·have:=Kw (by omega) h4
    omega
  omega
 have hperm:=Ig (LG hnd hmem (by simp))
 have h5:=T5 a p (Xs 1 (p-1))
 rw [hperm,List.length_range'] at h5
 have h6:¬ p∣YX (Xs 1 (p-1)):=MO hp fun x hx hd=>by
  simp only [VT] at hx
  have:=Kw (by omega) hd
  omega
 have h7:(a^(p-1)*YX (Xs 1 (p-1))-1*YX (Xs 1 (p-1)))%p=0:=YN (by rw [←h5,X4])
 rw [←Nat.sub_mul] at h7
 have ha0:0<a:=Nat.pos_of_ne_zero fun h=>ha (h▸Nat.dvd_zero p)
 have h8:0<a^(p-1):=JT ha0
 rcases hp.dvd_mul (VS h7) with h9 | h9
 ·obtain ⟨k,hk⟩:=h9
  have:a^(p-1)=p*k+1:=by omega
  rw [this,Nat.mul_add_mod,QB (by omega)]
 ·exact absurd h9 h6
theorem Dd {n:Nat} (hn:2≤n):∃ r,Pr r∧r∣n∧(Pr n∨r*r≤n):=by
 have ex:∃ r,2≤r∧r∣n∧∀ m,2≤m→m∣n→r≤m:=by
  have key:∀ k,(∃ r,2≤r∧r∣n∧r≤k)→∃ r,2≤r∧r∣n∧∀ m,2≤m→m∣n→r≤m:=by
   intro k
   induction k with
   | zero=>rintro ⟨r,h1,_,h3⟩; omega
   | succ k ih =>
    rintro ⟨r,h1,h2,h3⟩
    by_cases h:∃ r,2≤r∧r∣n∧r≤k
    ·exact ih h
    ·refine ⟨r,h1,h2,fun m hm hmd => ?_⟩
     rcases Zq k m with h4 | h4
     ·omega
     ·exact absurd ⟨m,hm,hmd,h4⟩ h
  exact key n ⟨n,hn,Nat.dvd_refl n,Qk n⟩
 obtain ⟨r,h1,h2,h3⟩:=ex
 have hr:Pr r:=⟨h1,fun m hm=>by
  have hm0:0<m:=Nat.pos_of_dvd_of_pos hm (by omega)
  rcases Zq m 2 with h | h
  ·left; omega
  ·have:=h3 m h (Nat.dvd_trans hm h2)
   have:=Kw (by omega) hm
   right; omega⟩
 refine ⟨r,hr,h2,?_⟩
 obtain ⟨k,rfl⟩:=h2
 rcases Zq k 2 with h | h
 ·have:k=1:=by
   rcases ZB k with h0 | h0
   ·subst h0; omega
   ·omega
  subst this
  rw [XX]; exact .inl hr
 ·exact .inr (Nat.mul_le_mul_left r (h3 k h (FG k r)))
def pw (m a:Nat):Nat→Nat→Nat
 | 0,_=>1%m
 | f+1,e=>if e%2=1 then (pw m a f (e/2))*(pw m a f (e/2))%m*a%m else (pw m a f (e/2))*(pw m a f (e/2))%m
theorem ki (m a:Nat):∀ (f e:Nat),e<2^f→pw m a f e=a^e%m
 | 0,e,h=>by
  have:e=0:=by simpa using h
  subst this; rfl
 | f+1,e,h=>by
  have ih:=ki m a f (e/2) (by rw [Z0] at h; omega)
  have hs:a^(e/2)%m*(a^(e/2)%m)%m=a^(2*(e/2))%m:=by
   rw [←YO,←JG]; congr 2; omega
  unfold pw
  rw [ih]
  by_cases he:e%2=1
  ·rw [if_pos he,hs,Lo,←Z0]
   congr 2; omega
  ·rw [if_neg he,hs]
   congr 2; omega
def pwf (m a:Nat):Nat→Nat→Nat
 | 0,_=>1%m
 | f+1,e=>(fun r=>if e%2=1 then r*r%m*a%m else r*r%m) (pwf m a f (e/2))
theorem eH {r:Nat} (hr:2≤r) (b x y:Nat):b^x%r=1→b^y%r=1→b^(Ml x y)%r=1:=by
 induction x,y using Nat.gcd.induction with
 | H0 y=>intro _ h; rwa [Nat.gcd_zero_left]
 | H1 x y hx ih =>
  intro h1 h2
  rw [Nat.gcd_rec]
  refine ih ?_ h1
  have h3:b^(x*(y/x)+y%x)%r=1:=by rw [ZK]; exact h2
  rw [JG,Jh,YO,oG (b^x),h1,Nat.one_pow,QB (a:=1) (by omega),X4,Bt] at h3
  exact h3
theorem kZ {n q k a r:Nat} (hq:Pr q) (hk:n=q*k+1) (h1:a^(q*k)%n=1) (h2:Ml (a^k%n+n-1) n=1) (hr:Pr r) (hrn:r∣n):q∣r-1:=by
 have hr2:=hr.1
 have hn0:0<n:=by omega
 have hn2:r≤n:=Kw hn0 hrn
 have hmodr:∀ x,x%n%r=x%r:=fun x=>VC x hrn
 have hb1:a^(q*k)%r=1:=by rw [←hmodr,h1,QB (by omega)]
 have hra:¬ r∣a:=fun h=>by
  have hqk:0<q*k:=by
   rcases ZB (q*k) with h0 | h0
   ·omega
   ·exact h0
  have:r∣a^(q*k):=by
   obtain ⟨m,hm⟩:∃ m,q*k=m+1:=⟨q*k-1,by omega⟩
   rw [hm,Z0]
   exact Nat.dvd_trans h (FG a _)
  have:=HC this
  omega
 have hf:=Df hr hra
 by_cases hqd:q∣r-1
 ·exact hqd
 ·exfalso
  have hc:=hq.coprime hqd
  have hpow:∀ x:Nat,∀ c,c%r=1→c^x%r=1:=fun x c hcx=>by rw [oG,hcx,Nat.one_pow,QB (by omega)]
  have hk1:(a^k)^q%r=1:=by rw [←Jh,Zy k q]; exact hb1
  have hk2:(a^k)^(r-1)%r=1:=by rw [←Jh,Zy k,Jh]; exact hpow k _ hf
  have hak:a^k%r=1:=by
   have:=eH hr2 (a^k) q (r-1) hk1 hk2
   rwa [hc,Nat.pow_one] at this
  have hdvd:r∣a^k%n+n-1:=by
   have e3:a^k%n%r=1:=by rw [hmodr]; exact hak
   have e4:1≤a^k%n:=by
    rcases ZB (a^k%n) with h0 | h0
    ·rw [h0,Nat.zero_mod] at e3; omega
    ·exact h0
   have e5:r∣a^k%n-1:=by
    apply VS
    exact YN (by rw [e3,QB (by omega)])
   rw [show a^k%n+n-1=(a^k%n-1)+n by omega]
   exact Nat.dvd_add e5 hrn
  have:=Nat.dvd_gcd hdvd hrn
  rw [h2] at this
  have:=Kw (by decide) this
  omega
theorem SQ {q:Nat} (hn:2≤n) (hq:Pr q) (hk:n=q*k+1) (hbig:n<q*q) (h1:a^(q*k)%n=1) (h2:Ml (a^k%n+n-1) n=1):Pr n:=by
 obtain ⟨r,hr,hrn,h | h⟩:=Dd hn
 ·exact h
 ·have h3:=kZ hq hk h1 h2 hr hrn
  have:=hr.1
  have h4:=Kw (by omega) h3
  have:q*q≤r*r:=JJ (by omega) (by omega)
  omega
theorem SP {q q' k' a':Nat} (hn:2≤n) (hq:Pr q) (hk:n=q*k+1) (hq':Pr q') (hk':n=q'*k'+1) (hne:q≠q') (hbig:n<(q*q')*(q*q')) (h1:a^(q*k)%n=1) (h2:Ml (a^k%n+n-1) n=1)
 (h1':a'^(q'*k')%n=1) (h2':Ml (a'^k'%n+n-1) n=1):Pr n:=by
  obtain ⟨r,hr,hrn,h | h⟩:=Dd hn
  · exact h
  · have h3:=kZ hq hk h1 h2 hr hrn
    have h3':=kZ hq' hk' h1' h2' hr hrn
    have hc:oK q q':=hq.coprime fun hd=>by
      rcases hq'.2 q hd with h | h
      · have:=hq.1; omega
      · exact hne h
    have h5:=hc.mul_dvd_of_dvd_of_dvd h3 h3'
    have:=hr.1
    have h4:=Kw (by omega) h5
    have:(q*q')*(q*q')≤r*r:=JJ (by omega) (by omega)
    omega
def LR (n:Nat):Nat→Nat→Bool
 | 0,_=>true
 | f+1,m=>(n%m != 0)&&LR n f (m+1)
theorem Re {n:Nat}:∀ (f m:Nat),LR n f m=true→∀ x,m≤x→x<m+f→n%x≠0
 | 0,m,_,x,h1,h2=>by omega
 | f+1,m,h,x,h1,h2=>by
  simp only [LR,ZZ,bne_iff_ne] at h
  rcases Nat.eq_or_lt_of_le h1 with h3 | h3
  ·subst h3; exact h.1
  ·exact Re f (m+1) h.2 x h3 (by omega)
theorem Kj {f:Nat} (hn:2≤n) (hf:n<(f+2)*(f+2)) (h:LR n f 2=true):Pr n:=by
 obtain ⟨r,hr,hrn,h1 | h1⟩:=Dd hn
 ·exact h1
 ·have hr2:=hr.1
  have:r<2+f:=by
   rcases Zq r (2+f) with h2 | h2
   ·exact h2
   ·have:(f+2)*(f+2)≤r*r:=JJ (by omega) (by omega)
    omega
  exact absurd (HC hrn) (Re f 2 h r hr2 this)
end Go.NT
namespace Go.Cv
section
variable {n:Nat} [NeZero n]
structure Fld (n:Nat) [NeZero n] (iv:Fin n→Fin n) (d i:Fin n):Prop where
 inv:∀ a:Fin n,a≠0→a*iv a=1
 iv0:iv 0=0
 one:(1:Fin n)≠0
 two:(2:Fin n)≠0
 root:i*i = -1
 nosq:∀ r:Fin n,r*r≠d
variable {iv:Fin n→Fin n} {d i:Fin n} (F:Fld n iv d i)
include F
theorem Fld.dom {a b:Fin n} (h:a*b=0):a=0∨b=0:=by
 by_cases ha:a=0
 ·exact .inl ha
 ·have:=F.inv a ha
  exact .inr (by grobner)
theorem Fld.mul_ne {a b:Fin n} (ha:a≠0) (hb:b≠0):a*b≠0:=fun h=>by
 rcases F.dom h with h | h
 ·exact ha h
 ·exact hb h
theorem Fld.cancel {a b c:Fin n} (ha:a≠0) (h:a*b=a*c):b=c:=by
 have:=F.inv a ha
 grobner
theorem Fld.noratio {u v:Fin n} (hv:v≠0):u*u≠d*(v*v):=fun h=>by
 have:=F.inv v hv
 apply F.nosq (u*iv v)
 grobner
omit F
def On (d x y:Fin n):Prop := -(x*x)+y*y=1+d*(x*x)*(y*y)
theorem On.sub {d x y:Fin n} (h:On d x y) : -(x*x)+y*y-1-d*(x*x)*(y*y)=0:=by
 unfold On at h; grobner
theorem PZ {L R a b c e:Fin n} (h:L-R=a*c+b*e) (hc:c=0) (he:e=0):L=R:=by
 subst hc he; grobner
theorem Mw {L R a b c e f g:Fin n} (h:L-R=a*c+b*e+f*g) (hc:c=0) (he:e=0) (hg:g=0):L=R:=by
 subst hc he hg; grobner
theorem cD (d x1 y1 x2 y2:Fin n) : -((x1*y2+x2*y1)*(x1*y2+x2*y1)*((1-d*x1*x2*y1*y2)*(1-d*x1*x2*y1*y2)))+(y1*y2+x1*x2)*(y1*y2+x1*x2)*((1+d*x1*x2*y1*y2)*(1+d*x1*x2*y1*y2)) -
   (((1+d*x1*x2*y1*y2)*(1-d*x1*x2*y1*y2))*((1+d*x1*x2*y1*y2)*(1-d*x1*x2*y1*y2))+d*((x1*y2+x2*y1)*(x1*y2+x2*y1))*((y1*y2+x1*x2)*(y1*y2+x1*x2))) =
   (d*d*d*x1*x1*x2*x2*x2*x2*y1*y1*y2*y2*y2*y2-d*d*x1*x1*x2*x2*x2*x2*y2*y2*y2*y2+d*d*x2*x2*x2*x2*y1*y1*y2*y2*y2*y2-d*d*x2*x2*x2*x2*y2*y2*y2*y2-d*x1*x1*x2*x2*x2*x2*y2*y2+d*x1*x1*x2*x2*y2*y2*y2*y2+d*x2*x2*x2*x2*y1*y1*y2*y2-2*d*x2*x2*x2*x2*y2*y2*y2*y2-d*x2*x2*y1*y1*y2*y2*y2*y2-2*d*x2*x2*y2*y2-2*x2*x2*x2*x2*y2*y2+x2*x2*x2*x2+2*x2*x2*y2*y2*y2*y2-4*x2*x2*y2*y2+y2*y2*y2*y2)*(-(x1*x1)+y1*y1-1-d*(x1*x1)*(y1*y1))+(d*x1*x1*x1*x1*x2*x2*y2*y2+2*d*x1*x1*x2*x2*y2*y2+d*x2*x2*y1*y1*y1*y1*y2*y2-2*d*x2*x2*y1*y1*y2*y2+d*x2*x2*y2*y2+2*x1*x1*x2*x2*y2*y2-x1*x1*x2*x2+x1*x1*y2*y2-2*x2*x2*y1*y1*y2*y2+x2*x2*y1*y1+2*x2*x2*y2*y2-x2*x2-y1*y1*y2*y2+y2*y2+1)*(-(x2*x2)+y2*y2-1-d*(x2*x2)*(y2*y2)):=by grobner
theorem mY (d x1 y1 x2 y2 x3 y3:Fin n):((x1*y2+x2*y1)*(1-d*x1*x2*y1*y2)*y3+x3*(y1*y2+x1*x2)*(1+d*x1*x2*y1*y2))*((1+d*x2*x3*y2*y3)*(1-d*x2*x3*y2*y3)+d*(x2*y3+x3*y2)*(y2*y3+x2*x3)*x1*y1) -
   (x1*(y2*y3+x2*x3)*(1+d*x2*x3*y2*y3)+(x2*y3+x3*y2)*(1-d*x2*x3*y2*y3)*y1)*((1+d*x1*x2*y1*y2)*(1-d*x1*x2*y1*y2)+d*(x1*y2+x2*y1)*(y1*y2+x1*x2)*x3*y3) =
   (-d*d*x1*x2*x2*x2*x2*x3*x3*y2*y2*y2*y3-d*d*x1*x2*x2*x2*x3*y2*y2*y2*y2*y3*y3+d*d*x2*x2*x2*x2*x3*y1*y2*y2*y2*y3*y3+d*d*x2*x2*x2*x3*x3*y1*y2*y2*y2*y2*y3-d*x1*x2*x2*x2*x2*x3*x3*y2*y3-d*x1*x2*x2*x2*x3*x3*x3*y2*y2-d*x1*x2*x2*x2*x3*y2*y2+d*x1*x2*x2*y2*y2*y2*y3*y3*y3-d*x1*x2*x2*y2*y2*y2*y3+d*x1*x2*x3*y2*y2*y2*y2*y3*y3+d*x2*x2*x2*x2*x3*y1*y2*y3*y3+d*x2*x2*x2*y1*y2*y2*y3*y3*y3-d*x2*x2*x2*y1*y2*y2*y3-d*x2*x2*x3*x3*x3*y1*y2*y2*y2-d*x2*x2*x3*y1*y2*y2*y2-d*x2*x3*x3*y1*y2*y2*y2*y2*y3)*(-(x1*x1)+y1*y1-1-d*(x1*x1)*(y1*y1))+(d*d*x1*x1*x2*x2*x3*x3*x3*y1*y2*y3*y3-d*d*x1*x1*x2*x3*x3*y1*y2*y2*y3*y3*y3-d*d*x1*x2*x2*x3*x3*y1*y1*y2*y3*y3*y3+d*d*x1*x2*x3*x3*x3*y1*y1*y2*y2*y3*y3+d*x1*x1*x1*x2*x2*x3*x3*y2*y3+d*x1*x1*x1*x2*x3*x3*x3*y3*y3+d*x1*x1*x1*x2*x3*y2*y2*y3*y3+d*x1*x1*x1*x3*x3*y2*y3*y3*y3-d*x1*x1*x2*x2*x3*y1*y2*y3*y3-d*x1*x1*x2*x3*x3*y1*y2*y2*y3+d*x1*x1*x2*x3*x3*y1*y3*y3*y3+d*x1*x1*x3*x3*x3*y1*y2*y3*y3-d*x1*x2*x2*x3*x3*y1*y1*y2*y3+d*x1*x2*x2*x3*x3*y2*y3-d*x1*x2*x3*x3*x3*y1*y1*y3*y3+d*x1*x2*x3*x3*x3*y3*y3-d*x1*x2*x3*y1*y1*y2*y2*y3*y3+d*x1*x2*x3*y2*y2*y3*y3-d*x1*x3*x3*y1*y1*y2*y3*y3*y3+d*x1*x3*x3*y2*y3*y3*y3+d*x2*x2*x3*y1*y1*y1*y2*y3*y3-d*x2*x2*x3*y1*y2*y3*y3+d*x2*x3*x3*y1*y1*y1*y2*y2*y3-d*x2*x3*x3*y1*y1*y1*y3*y3*y3-d*x2*x3*x3*y1*y2*y2*y3+d*x2*x3*x3*y1*y3*y3*y3-d*x3*x3*x3*y1*y1*y1*y2*y3*y3+d*x3*x3*x3*y1*y2*y3*y3+x1*x1*x1*x2*x3*x3*x3-x1*x1*x1*x2*x3*y3*y3+x1*x1*x1*x2*x3+x1*x1*x1*x3*x3*y2*y3-x1*x1*x1*y2*y3*y3*y3+x1*x1*x1*y2*y3+x1*x1*x2*x3*x3*y1*y3-x1*x1*x2*y1*y3*y3*y3+x1*x1*x2*y1*y3+x1*x1*x3*x3*x3*y1*y2-x1*x1*x3*y1*y2*y3*y3+x1*x1*x3*y1*y2-x1*x2*x3*x3*x3*y1*y1+x1*x2*x3*x3*x3+x1*x2*x3*y1*y1*y3*y3-x1*x2*x3*y1*y1-x1*x2*x3*y3*y3+x1*x2*x3-x1*x3*x3*y1*y1*y2*y3+x1*x3*x3*y2*y3+x1*y1*y1*y2*y3*y3*y3-x1*y1*y1*y2*y3-x1*y2*y3*y3*y3+x1*y2*y3-x2*x3*x3*y1*y1*y1*y3+x2*x3*x3*y1*y3+x2*y1*y1*y1*y3*y3*y3-x2*y1*y1*y1*y3-x2*y1*y3*y3*y3+x2*y1*y3-x3*x3*x3*y1*y1*y1*y2+x3*x3*x3*y1*y2+x3*y1*y1*y1*y2*y3*y3-x3*y1*y1*y1*y2-x3*y1*y2*y3*y3+x3*y1*y2)*(-(x2*x2)+y2*y2-1-d*(x2*x2)*(y2*y2))+(-d*x1*x1*x2*x2*x3*y1*y2+d*x1*x1*x2*y1*y2*y2*y3+d*x1*x2*x2*y1*y1*y2*y3-d*x1*x2*x3*y1*y1*y2*y2-x1*x1*x1*x2*x2*x2*x3-x1*x1*x1*x2*x2*y2*y3+x1*x1*x1*x2*x3*y2*y2-x1*x1*x1*x2*x3+x1*x1*x1*y2*y2*y2*y3-x1*x1*x1*y2*y3-x1*x1*x2*x2*x2*y1*y3-x1*x1*x2*x2*x3*y1*y2+x1*x1*x2*y1*y2*y2*y3-x1*x1*x2*y1*y3+x1*x1*x3*y1*y2*y2*y2-x1*x1*x3*y1*y2+x1*x2*x2*x2*x3*y1*y1-x1*x2*x2*x2*x3+x1*x2*x2*y1*y1*y2*y3-x1*x2*x2*y2*y3-x1*x2*x3*y1*y1*y2*y2+x1*x2*x3*y1*y1+x1*x2*x3*y2*y2-x1*x2*x3-x1*y1*y1*y2*y2*y2*y3+x1*y1*y1*y2*y3+x1*y2*y2*y2*y3-x1*y2*y3+x2*x2*x2*y1*y1*y1*y3-x2*x2*x2*y1*y3+x2*x2*x3*y1*y1*y1*y2-x2*x2*x3*y1*y2-x2*y1*y1*y1*y2*y2*y3+x2*y1*y1*y1*y3+x2*y1*y2*y2*y3-x2*y1*y3-x3*y1*y1*y1*y2*y2*y2+x3*y1*y1*y1*y2+x3*y1*y2*y2*y2-x3*y1*y2)*(-(x3*x3)+y3*y3-1-d*(x3*x3)*(y3*y3)):=by grobner
theorem mX (d x1 y1 x2 y2 x3 y3:Fin n):((y1*y2+x1*x2)*(1+d*x1*x2*y1*y2)*y3+(x1*y2+x2*y1)*(1-d*x1*x2*y1*y2)*x3)*((1+d*x2*x3*y2*y3)*(1-d*x2*x3*y2*y3)-d*(x2*y3+x3*y2)*(y2*y3+x2*x3)*x1*y1) -
   (y1*(y2*y3+x2*x3)*(1+d*x2*x3*y2*y3)+x1*(x2*y3+x3*y2)*(1-d*x2*x3*y2*y3))*((1+d*x1*x2*y1*y2)*(1-d*x1*x2*y1*y2)-d*(x1*y2+x2*y1)*(y1*y2+x1*x2)*x3*y3) =
   (d*d*x1*x2*x2*x2*x2*x3*y2*y2*y2*y3*y3+d*d*x1*x2*x2*x2*x3*x3*y2*y2*y2*y2*y3-d*d*x2*x2*x2*x2*x3*x3*y1*y2*y2*y2*y3-d*d*x2*x2*x2*x3*y1*y2*y2*y2*y2*y3*y3+d*x1*x2*x2*x2*x2*x3*y2*y3*y3+d*x1*x2*x2*x2*y2*y2*y3*y3*y3-d*x1*x2*x2*x2*y2*y2*y3-d*x1*x2*x2*x3*x3*x3*y2*y2*y2-d*x1*x2*x2*x3*y2*y2*y2-d*x1*x2*x3*x3*y2*y2*y2*y2*y3-d*x2*x2*x2*x2*x3*x3*y1*y2*y3-d*x2*x2*x2*x3*x3*x3*y1*y2*y2-d*x2*x2*x2*x3*y1*y2*y2+d*x2*x2*y1*y2*y2*y2*y3*y3*y3-d*x2*x2*y1*y2*y2*y2*y3+d*x2*x3*y1*y2*y2*y2*y2*y3*y3)*(-(x1*x1)+y1*y1-1-d*(x1*x1)*(y1*y1))+(d*d*x1*x1*x2*x2*x3*x3*y1*y2*y3*y3*y3-d*d*x1*x1*x2*x3*x3*x3*y1*y2*y2*y3*y3-d*d*x1*x2*x2*x3*x3*x3*y1*y1*y2*y3*y3+d*d*x1*x2*x3*x3*y1*y1*y2*y2*y3*y3*y3-d*x1*x1*x1*x2*x2*x3*y2*y3*y3-d*x1*x1*x1*x2*x3*x3*y2*y2*y3+d*x1*x1*x1*x2*x3*x3*y3*y3*y3+d*x1*x1*x1*x3*x3*x3*y2*y3*y3+d*x1*x1*x2*x2*x3*x3*y1*y2*y3+d*x1*x1*x2*x3*x3*x3*y1*y3*y3+d*x1*x1*x2*x3*y1*y2*y2*y3*y3+d*x1*x1*x3*x3*y1*y2*y3*y3*y3+d*x1*x2*x2*x3*y1*y1*y2*y3*y3-d*x1*x2*x2*x3*y2*y3*y3+d*x1*x2*x3*x3*y1*y1*y2*y2*y3-d*x1*x2*x3*x3*y1*y1*y3*y3*y3-d*x1*x2*x3*x3*y2*y2*y3+d*x1*x2*x3*x3*y3*y3*y3-d*x1*x3*x3*x3*y1*y1*y2*y3*y3+d*x1*x3*x3*x3*y2*y3*y3-d*x2*x2*x3*x3*y1*y1*y1*y2*y3+d*x2*x2*x3*x3*y1*y2*y3-d*x2*x3*x3*x3*y1*y1*y1*y3*y3+d*x2*x3*x3*x3*y1*y3*y3-d*x2*x3*y1*y1*y1*y2*y2*y3*y3+d*x2*x3*y1*y2*y2*y3*y3-d*x3*x3*y1*y1*y1*y2*y3*y3*y3+d*x3*x3*y1*y2*y3*y3*y3+x1*x1*x1*x2*x3*x3*y3-x1*x1*x1*x2*y3*y3*y3+x1*x1*x1*x2*y3+x1*x1*x1*x3*x3*x3*y2-x1*x1*x1*x3*y2*y3*y3+x1*x1*x1*x3*y2+x1*x1*x2*x3*x3*x3*y1-x1*x1*x2*x3*y1*y3*y3+x1*x1*x2*x3*y1+x1*x1*x3*x3*y1*y2*y3-x1*x1*y1*y2*y3*y3*y3+x1*x1*y1*y2*y3-x1*x2*x3*x3*y1*y1*y3+x1*x2*x3*x3*y3+x1*x2*y1*y1*y3*y3*y3-x1*x2*y1*y1*y3-x1*x2*y3*y3*y3+x1*x2*y3-x1*x3*x3*x3*y1*y1*y2+x1*x3*x3*x3*y2+x1*x3*y1*y1*y2*y3*y3-x1*x3*y1*y1*y2-x1*x3*y2*y3*y3+x1*x3*y2-x2*x3*x3*x3*y1*y1*y1+x2*x3*x3*x3*y1+x2*x3*y1*y1*y1*y3*y3-x2*x3*y1*y1*y1-x2*x3*y1*y3*y3+x2*x3*y1-x3*x3*y1*y1*y1*y2*y3+x3*x3*y1*y2*y3+y1*y1*y1*y2*y3*y3*y3-y1*y1*y1*y2*y3-y1*y2*y3*y3*y3+y1*y2*y3)*(-(x2*x2)+y2*y2-1-d*(x2*x2)*(y2*y2))+(-d*x1*x1*x2*x2*y1*y2*y3+d*x1*x1*x2*x3*y1*y2*y2+d*x1*x2*x2*x3*y1*y1*y2-d*x1*x2*y1*y1*y2*y2*y3-x1*x1*x1*x2*x2*x2*y3-x1*x1*x1*x2*x2*x3*y2+x1*x1*x1*x2*y2*y2*y3-x1*x1*x1*x2*y3+x1*x1*x1*x3*y2*y2*y2-x1*x1*x1*x3*y2-x1*x1*x2*x2*x2*x3*y1-x1*x1*x2*x2*y1*y2*y3+x1*x1*x2*x3*y1*y2*y2-x1*x1*x2*x3*y1+x1*x1*y1*y2*y2*y2*y3-x1*x1*y1*y2*y3+x1*x2*x2*x2*y1*y1*y3-x1*x2*x2*x2*y3+x1*x2*x2*x3*y1*y1*y2-x1*x2*x2*x3*y2-x1*x2*y1*y1*y2*y2*y3+x1*x2*y1*y1*y3+x1*x2*y2*y2*y3-x1*x2*y3-x1*x3*y1*y1*y2*y2*y2+x1*x3*y1*y1*y2+x1*x3*y2*y2*y2-x1*x3*y2+x2*x2*x2*x3*y1*y1*y1-x2*x2*x2*x3*y1+x2*x2*y1*y1*y1*y2*y3-x2*x2*y1*y2*y3-x2*x3*y1*y1*y1*y2*y2+x2*x3*y1*y1*y1+x2*x3*y1*y2*y2-x2*x3*y1-y1*y1*y1*y2*y2*y2*y3+y1*y1*y1*y2*y3+y1*y2*y2*y2*y3-y1*y2*y3)*(-(x3*x3)+y3*y3-1-d*(x3*x3)*(y3*y3)):=by grobner
include F
theorem Fld.den {x1 y1 x2 y2:Fin n} (h1:On d x1 y1) (h2:On d x2 y2) (e:Fin n) (he:e*e=1):d*x1*x2*y1*y2≠e:=fun hD=>by
 unfold On at h1 h2
 have h10:=F.one
 have hr:=F.root
 have hx1:x1≠0:=fun h=>by subst h; grobner
 have hy1:y1≠0:=fun h=>by subst h; grobner
 have hx2:x2≠0:=fun h=>by subst h; grobner
 have key:d*(x1*x1)*(y1*y1)*(y2*y2-x2*x2)=y1*y1-x1*x1:=by grobner
 have h3:(y1+e*i*x1)*(y1+e*i*x1)=d*((x1*y1*(y2+i*x2))*(x1*y1*(y2+i*x2))):=by grobner
 have h4:(y1-e*i*x1)*(y1-e*i*x1)=d*((x1*y1*(y2-i*x2))*(x1*y1*(y2-i*x2))):=by grobner
 by_cases ha:y2+i*x2=0
 ·by_cases hb:y2-i*x2=0
  ·have hi:i≠0:=fun h=>by subst h; grobner
   have:(2:Fin n)*(i*x2)=0:=by grobner
   exact F.mul_ne F.two (F.mul_ne hi hx2) this
  ·exact F.noratio (F.mul_ne (F.mul_ne hx1 hy1) hb) h4
 ·exact F.noratio (F.mul_ne (F.mul_ne hx1 hy1) ha) h3
theorem Fld.denP {x1 y1 x2 y2:Fin n} (h1:On d x1 y1) (h2:On d x2 y2):1+d*x1*x2*y1*y2≠0:=fun h =>
 F.den h1 h2 (-1) (by grobner) (by grobner)
theorem Fld.denM {x1 y1 x2 y2:Fin n} (h1:On d x1 y1) (h2:On d x2 y2):1-d*x1*x2*y1*y2≠0:=fun h =>
 F.den h1 h2 1 (by grobner) (by grobner)
theorem UB {x1 y1 x2 y2:Fin n} (h1:On d x1 y1) (h2:On d x2 y2) {a b:Fin n} (ha:a*(1+d*x1*x2*y1*y2)=x1*y2+x2*y1) (hb:b*(1-d*x1*x2*y1*y2)=y1*y2+x1*x2):On d a b:=by
 have hp:=F.denP h1 h2
 have hm:=F.denM h1 h2
 have hC : -((x1*y2+x2*y1)*(x1*y2+x2*y1)*((1-d*x1*x2*y1*y2)*(1-d*x1*x2*y1*y2)))+(y1*y2+x1*x2)*(y1*y2+x1*x2)*((1+d*x1*x2*y1*y2)*(1+d*x1*x2*y1*y2)) =
   ((1+d*x1*x2*y1*y2)*(1-d*x1*x2*y1*y2))*((1+d*x1*x2*y1*y2)*(1-d*x1*x2*y1*y2))+d*((x1*y2+x2*y1)*(x1*y2+x2*y1))*((y1*y2+x1*x2)*(y1*y2+x1*x2)):=by
  exact PZ (cD d x1 y1 x2 y2) h1.sub h2.sub
 unfold On
 have hp2:=F.mul_ne (F.mul_ne hp hm) (F.mul_ne hp hm)
 refine F.cancel hp2 ?_
 rw [←ha,←hb] at hC
 generalize 1+d*x1*x2*y1*y2=p at *
 generalize 1-d*x1*x2*y1*y2=m at *
 clear ha hb hp hm hp2 h1 h2
 grobner
theorem Lh {x1 y1 x2 y2 x3 y3 a b a' b' u v u' v':Fin n} (h1:On d x1 y1) (h2:On d x2 y2) (h3:On d x3 y3)
  (ha:a*(1+d*x1*x2*y1*y2)=x1*y2+x2*y1) (hb:b*(1-d*x1*x2*y1*y2)=y1*y2+x1*x2)
  (ha':a'*(1+d*x2*x3*y2*y3)=x2*y3+x3*y2) (hb':b'*(1-d*x2*x3*y2*y3)=y2*y3+x2*x3)
  (hu:u*(1+d*a*x3*b*y3)=a*y3+x3*b) (hv:v*(1-d*a*x3*b*y3)=b*y3+a*x3)
  (hu':u'*(1+d*x1*a'*y1*b')=x1*b'+a'*y1) (hv':v'*(1-d*x1*a'*y1*b')=y1*b'+x1*a'):u=u'∧v=v':=by
 have o12:=UB F h1 h2 ha hb
 have o23:=UB F h2 h3 ha' hb'
 have hp:=F.denP h1 h2
 have hm:=F.denM h1 h2
 have hp':=F.denP h2 h3
 have hm':=F.denM h2 h3
 have kp:=F.denP o12 h3
 have km:=F.denM o12 h3
 have kp':=F.denP h1 o23
 have km':=F.denM h1 o23
 have e1:=h1.sub
 have e2:=h2.sub
 have e3:=h3.sub
 clear h1 h2 h3 o12 o23
 have hX:((x1*y2+x2*y1)*(1-d*x1*x2*y1*y2)*y3+x3*(y1*y2+x1*x2)*(1+d*x1*x2*y1*y2))*((1+d*x2*x3*y2*y3)*(1-d*x2*x3*y2*y3)+d*(x2*y3+x3*y2)*(y2*y3+x2*x3)*x1*y1) =
   (x1*(y2*y3+x2*x3)*(1+d*x2*x3*y2*y3)+(x2*y3+x3*y2)*(1-d*x2*x3*y2*y3)*y1)*((1+d*x1*x2*y1*y2)*(1-d*x1*x2*y1*y2)+d*(x1*y2+x2*y1)*(y1*y2+x1*x2)*x3*y3):=by
  exact Mw (mY d x1 y1 x2 y2 x3 y3) e1 e2 e3
 have hY:((y1*y2+x1*x2)*(1+d*x1*x2*y1*y2)*y3+(x1*y2+x2*y1)*(1-d*x1*x2*y1*y2)*x3)*((1+d*x2*x3*y2*y3)*(1-d*x2*x3*y2*y3)-d*(x2*y3+x3*y2)*(y2*y3+x2*x3)*x1*y1) =
   (y1*(y2*y3+x2*x3)*(1+d*x2*x3*y2*y3)+x1*(x2*y3+x3*y2)*(1-d*x2*x3*y2*y3))*((1+d*x1*x2*y1*y2)*(1-d*x1*x2*y1*y2)-d*(x1*y2+x2*y1)*(y1*y2+x1*x2)*x3*y3):=by
  exact Mw (mX d x1 y1 x2 y2 x3 y3) e1 e2 e3
 clear e1 e2 e3
 rw [←ha,←hb,←ha',←hb'] at hX hY
 have hp2:=F.mul_ne hp hm
 have hp2':=F.mul_ne hp' hm'
 generalize 1+d*x1*x2*y1*y2=p at *
 generalize 1-d*x1*x2*y1*y2=m at *
 generalize 1+d*x2*x3*y2*y3=p' at *
 generalize 1-d*x2*x3*y2*y3=m' at *
 clear ha hb ha' hb' hp hm hp' hm' x2 y2
 have f1:a*p*m*y3+x3*(b*m)*p=(p*m)*(a*y3+x3*b):=by grobner
 have f2:p'*m'+d*(a'*p')*(b'*m')*x1*y1=(p'*m')*(1+d*x1*a'*y1*b'):=by grobner
 have f3:x1*(b'*m')*p'+a'*p'*m'*y1=(p'*m')*(x1*b'+a'*y1):=by grobner
 have f4:p*m+d*(a*p)*(b*m)*x3*y3=(p*m)*(1+d*a*x3*b*y3):=by grobner
 have f5:b*m*p*y3+a*p*m*x3=(p*m)*(b*y3+a*x3):=by grobner
 have f6:p'*m'-d*(a'*p')*(b'*m')*x1*y1=(p'*m')*(1-d*x1*a'*y1*b'):=by grobner
 have f7:y1*(b'*m')*p'+x1*(a'*p')*m'=(p'*m')*(y1*b'+x1*a'):=by grobner
 have f8:p*m-d*(a*p)*(b*m)*x3*y3=(p*m)*(1-d*a*x3*b*y3):=by grobner
 rw [f1,f2,f3,f4,←hu,←hu'] at hX
 rw [f5,f6,f7,f8,←hv,←hv'] at hY
 clear f1 f2 f3 f4 f5 f6 f7 f8 hu hu' hv hv'
 generalize 1+d*x1*a'*y1*b'=k' at *
 generalize 1+d*a*x3*b*y3=k at *
 generalize 1-d*x1*a'*y1*b'=l' at *
 generalize 1-d*a*x3*b*y3=l at *
 generalize p*m=s at *
 generalize p'*m'=s' at *
 constructor
 ·refine F.cancel (a:=s*s'*k*k') (F.mul_ne (F.mul_ne (F.mul_ne hp2 hp2') kp) kp') ?_
  grobner
 ·refine F.cancel (a:=s*s'*l*l') (F.mul_ne (F.mul_ne (F.mul_ne hp2 hp2') km) km') ?_
  grobner
omit F
end
structure Pt (n:Nat) [NeZero n] (d:Fin n) where
 x:Fin n
 y:Fin n
 on:On d x y
theorem Pt.ext {n:Nat} [NeZero n] {d:Fin n} {p q:Pt n d} (hx:p.x=q.x) (hy:p.y=q.y):p=q:=by
 cases p; cases q; cases hx; cases hy; rfl
section
variable {n:Nat} [NeZero n] {iv:Fin n→Fin n} {d i:Fin n} (F:Fld n iv d i)
def Pt.zero:Pt n d:=⟨0,1,by unfold On; grobner⟩
def Pt.neg (p:Pt n d):Pt n d:=⟨-p.x,p.y,by have:=p.on; unfold On at *; grobner⟩
def Pt.add (p q:Pt n d):Pt n d :=
 ⟨(p.x*q.y+q.x*p.y)*iv (1+d*p.x*q.x*p.y*q.y),(p.y*q.y+p.x*q.x)*iv (1-d*p.x*q.x*p.y*q.y),
  UB F p.on q.on (by have:=F.inv _ (F.denP p.on q.on); grobner) (by have:=F.inv _ (F.denM p.on q.on); grobner)⟩
theorem GW (p q:Pt n d):(Pt.add F p q).x*(1+d*p.x*q.x*p.y*q.y)=p.x*q.y+q.x*p.y:=by
 have:=F.inv _ (F.denP p.on q.on)
 simp only [Pt.add]
 generalize 1+d*p.x*q.x*p.y*q.y=k at *
 grobner
theorem GV (p q:Pt n d):(Pt.add F p q).y*(1-d*p.x*q.x*p.y*q.y)=p.y*q.y+p.x*q.x:=by
 have:=F.inv _ (F.denM p.on q.on)
 simp only [Pt.add]
 generalize 1-d*p.x*q.x*p.y*q.y=k at *
 grobner
theorem add_eq {p q r:Pt n d} (hx:r.x*(1+d*p.x*q.x*p.y*q.y)=p.x*q.y+q.x*p.y) (hy:r.y*(1-d*p.x*q.x*p.y*q.y)=p.y*q.y+p.x*q.x):Pt.add F p q=r:=by
 apply Pt.ext
 ·apply F.cancel (F.denP p.on q.on)
  rw [←GW F] at hx
  grobner
 ·apply F.cancel (F.denM p.on q.on)
  rw [←GV F] at hy
  grobner
theorem add_comm (p q:Pt n d):Pt.add F p q=Pt.add F q p:=by
 apply add_eq
 ·have:=GW F q p; grobner
 ·have:=GV F q p; grobner
theorem add_zero (p:Pt n d):Pt.add F p Pt.zero=p:=by
 apply add_eq<;>simp only [Pt.zero]<;>grobner
theorem zero_add (p:Pt n d):Pt.add F Pt.zero p=p:=by rw [add_comm,add_zero]
theorem add_neg (p:Pt n d):Pt.add F p p.neg=Pt.zero:=by
 have:=p.on
 unfold On at this
 apply add_eq<;>simp only [Pt.zero,Pt.neg]<;>grobner
theorem add_assoc (p q r:Pt n d):Pt.add F (Pt.add F p q) r=Pt.add F p (Pt.add F q r):=by
 obtain ⟨h1,h2⟩:=Lh F p.on q.on r.on (GW F p q) (GV F p q) (GW F q r) (GV F q r) (GW F (Pt.add F p q) r) (GV F (Pt.add F p q) r) (GW F p (Pt.add F q r)) (GV F p (Pt.add F q r))
 exact Pt.ext h1 h2
theorem add_left_cancel {p q r:Pt n d} (h:Pt.add F p q=Pt.add F p r):q=r:=by
 have:Pt.add F p.neg (Pt.add F p q)=Pt.add F p.neg (Pt.add F p r):=by rw [h]
 rwa [←add_assoc,←add_assoc,add_comm F p.neg p,add_neg,zero_add,zero_add] at this
theorem neg_zero:(Pt.zero:Pt n d).neg=Pt.zero:=by
 apply Pt.ext<;>simp only [Pt.neg,Pt.zero]
 grobner
theorem Cf (a b c e:Pt n d):Pt.add F (Pt.add F a b) (Pt.add F c e)=Pt.add F (Pt.add F a c) (Pt.add F b e):=by
 rw [add_assoc,add_assoc,←add_assoc F b,add_comm F b c,add_assoc F c]
theorem neg_add (p q:Pt n d):(Pt.add F p q).neg=Pt.add F p.neg q.neg:=by
 apply add_left_cancel F (p:=Pt.add F p q)
 rw [add_neg,Cf,add_neg,add_neg,add_zero]
def Pt.mul (k:Nat) (p:Pt n d):Pt n d:=match k with
 | 0=>Pt.zero
 | k+1=>Pt.add F (Pt.mul k p) p
theorem mul_add (a b:Nat) (p:Pt n d):Pt.mul F (a+b) p=Pt.add F (Pt.mul F a p) (Pt.mul F b p):=by
 induction b with
 | zero=>rw [ZF,Pt.mul,add_zero]
 | succ b ih=>rw [←Zh,Pt.mul,ih,Pt.mul,add_assoc]
theorem mul_one (p:Pt n d):Pt.mul F 1 p=p:=by rw [Pt.mul,Pt.mul,zero_add]
theorem mul_two (p:Pt n d):Pt.mul F 2 p=Pt.add F p p:=by rw [Pt.mul,mul_one]
theorem mul_zero (k:Nat):Pt.mul F k (Pt.zero:Pt n d)=Pt.zero:=by
 induction k with
 | zero=>rfl
 | succ k ih=>rw [Pt.mul,ih,zero_add]
theorem LW (a b:Nat) (p:Pt n d):Pt.mul F (a*b) p=Pt.mul F a (Pt.mul F b p):=by
 induction a with
 | zero=>rw [Kp,Pt.mul,Pt.mul]
 | succ a ih=>rw [Nat.succ_mul,mul_add,ih,Pt.mul]
theorem mul_neg (k:Nat) (p:Pt n d):Pt.mul F k p.neg=(Pt.mul F k p).neg:=by
 induction k with
 | zero=>rw [Pt.mul,Pt.mul,neg_zero]
 | succ k ih=>rw [Pt.mul,ih,Pt.mul,neg_add]
theorem mul_mod {l:Nat} {p:Pt n d} (hl:Pt.mul F l p=Pt.zero) (k:Nat):Pt.mul F (k%l) p=Pt.mul F k p:=by
 have h:Pt.mul F k p=Pt.mul F (l*(k/l)+k%l) p:=by rw [ZK]
 rw [h,mul_add,Zy,LW,hl,mul_zero,zero_add]
end
end Go.Cv
namespace Go.NT
section
variable {a f n q k:Nat}
theorem SF (m a:Nat):∀ (f e:Nat),pwf m a f e=pw m a f e
 | 0,_=>rfl
 | f+1,e=>by simp only [pwf,pw,SF m a f]
theorem Ax {m e:Nat} (h:e<2^f):pwf m a f e=a^e%m:=by rw [SF,ki m a f e h]
def Fo (n q k a f:Nat):Bool:=n==q*k+1&&decide (q*k<2^f)&&pwf n a f (q*k)==1&&Ml (pwf n a f k+n-1) n==1
theorem Gb (hq:Pr q) (h:Fo n q k a f=true):n=q*k+1∧a^(q*k)%n=1∧Ml (a^k%n+n-1) n=1:=by
 simp only [Fo,ZZ,beq_iff_eq,decide_eq_true_eq] at h
 obtain ⟨⟨⟨h1,h2⟩,h3⟩,h4⟩:=h
 have h5:k<2^f:=by
  have:k≤q*k:=Nat.le_mul_of_pos_left k (by have:=hq.1; omega)
  omega
 rw [Ax h2] at h3
 rw [Ax h5] at h4
 exact ⟨h1,h3,h4⟩
theorem V8 (hq:Pr q) (h:(Fo n q k a f&&decide (2≤n)&&decide (n<q*q))=true):Pr n:=by
 simp only [ZZ,decide_eq_true_eq] at h
 obtain ⟨h1,h2,h3⟩:=Gb hq h.1.1
 exact SQ h.1.2 hq h1 h.2 h2 h3
theorem Wm {q2 k2 a2:Nat} (hq:Pr q) (hq2:Pr q2) (h:(Fo n q k a f&&Fo n q2 k2 a2 f&&decide (2≤n)&&decide (q≠q2)&&decide (n<(q*q2)*(q*q2)))=true):Pr n:=by
 simp only [ZZ,decide_eq_true_eq] at h
 obtain ⟨h1,h2,h3⟩:=Gb hq h.1.1.1.1
 obtain ⟨h1',h2',h3'⟩:=Gb hq2 h.1.1.1.2
 exact SP h.1.1.2 hq h1 hq2 h1' h.1.2 h.2 h2 h3 h2' h3'
theorem pr1:Pr 991:=Kj (f:=30) (by decide) (by decide) (by decide +kernel)
theorem pr2:Pr 103:=Kj (f:=9) (by decide) (by decide) (by decide +kernel)
theorem pr3:Pr 8574133:=Wm (q:=991) (k:=8652) (a:=2) (q2:=103) (k2:=83244) (a2:=2) (f:=25) pr1 pr2 (by decide +kernel)
theorem pr4:Pr 127:=Kj (f:=10) (by decide) (by decide) (by decide +kernel)
theorem pr5:Pr 1919519569386763:=Wm (q:=8574133) (k:=223873314) (a:=2) (q2:=127) (k2:=15114327318006) (a2:=2) (f:=52) pr3 pr4 (by decide +kernel)
theorem pr6:Pr 569003:=Kj (f:=753) (by decide) (by decide) (by decide +kernel)
theorem pr7:Pr 2773320623:=V8 (q:=569003) (k:=4874) (a:=2) (f:=33) pr6 (by decide +kernel)
theorem pr8:Pr 72106336199:=V8 (q:=2773320623) (k:=26) (a:=2) (f:=38) pr7 (by decide +kernel)
theorem pr9:Pr 75445702479781427272750846543864801:=Wm (q:=1919519569386763) (k:=39304471641247389600) (a:=2) (q2:=72106336199) (k2:=1046311689884858398375200) (a2:=2) (f:=117) pr5 pr8 (by decide +kernel)
theorem pr10:Pr 430751:=Kj (f:=655) (by decide) (by decide) (by decide +kernel)
theorem pr11:Pr 4153:=Kj (f:=63) (by decide) (by decide) (by decide +kernel)
theorem pr12:Pr 31757755568855353:=Wm (q:=430751) (k:=73726481352) (a:=2) (q2:=4153) (k2:=7646943310584) (a2:=2) (f:=56) pr10 pr11 (by decide +kernel)
theorem pr13:Pr 74058212732561358302231226437062788676166966415465897661863160754340907:=Wm (q:=75445702479781427272750846543864801) (k:=981609426360740691344999861639072106) (a:=2) (q2:=31757755568855353) (k2:=2331972502653487852620185443007392165117953542933313402) (a2:=2) (f:=237) pr9 pr12 (by decide +kernel)
theorem pr14:Pr 57896044618658097711785492504343953926634992332820282019728792003956564819949:=V8 (q:=74058212732561358302231226437062788676166966415465897661863160754340907) (k:=781764) (a:=2) (f:=256) pr13 (by decide +kernel)
end
end Go.NT
namespace Go.Fp
open Go.NT Go.Cv
section
variable {a b k:Nat}
def P:Nat:=57896044618658097711785492504343953926634992332820282019728792003956564819949
theorem UL:P=57896044618658097711785492504343953926634992332820282019728792003956564819949:=rfl
instance:NeZero P:=⟨by decide⟩
theorem iU:Pr P:=pr14
abbrev Fe:=Fin P
def fp (n:Nat):Fe:=Fin.ofNat P n
theorem YM (n:Nat):(fp n).val=n%P:=rfl
theorem EO:fp a=fp b↔a%P=b%P:=by
 constructor
 ·intro h; exact congrArg Fin.val h
 ·intro h; exact Fin.ext h
theorem Yi (a:Nat):fp (a%P)=fp a:=EO.2 (Bt _ _)
theorem Vd (a b:Nat):fp (a+b)=fp a+fp b:=Fin.ext (by rw [YM,Fin.val_add,YM,YM,←Nat.add_mod])
theorem XZ (a b:Nat):fp (a*b)=fp a*fp b:=Fin.ext (by rw [YM,Fin.val_mul,YM,YM,←YO])
theorem gN:fp 0=0:=rfl
theorem AU:fp 1=1:=rfl
theorem bO:fp 2=2:=rfl
theorem fp_P:fp P=0:=Fin.ext (by rw [YM,Nat.mod_self]; rfl)
theorem Nf (k:Nat):fp (k*P)=0:=by rw [XZ,fp_P]; grobner
theorem mL (h:b≤a):fp (a-b)=fp a-fp b:=by
 have h1:=Vd (a-b) b
 rw [Nat.sub_add_cancel h] at h1
 grobner
def pow (a:Fe) (k:Nat):Fe:=match k with
 | 0=>1
 | k+1=>pow a k*a
theorem Az (a:Fe):∀ k,(pow a k).val=a.val^k%P
 | 0=>rfl
 | k+1=>by rw [pow,Fin.val_mul,Az a k,Z0,Lo]
theorem pow_add (a:Fe) (j:Nat):∀ k,pow a (j+k)=pow a j*pow a k
 | 0=>by rw [ZF]; simp only [pow]; grobner
 | k+1=>by rw [←Zh,pow,pow_add a j k,pow]; grobner
theorem pow_mul (a:Fe) (j:Nat):∀ k,pow a (j*k)=pow (pow a j) k
 | 0=>by rw [Nat.mul_zero]; rfl
 | k+1=>by rw [Nat.mul_succ,pow_add,pow_mul a j k,pow]
theorem pow_one (a:Fe):pow a 1=a:=by simp only [pow]; grobner
theorem pow_two (a:Fe):pow a 2=a*a:=by simp only [pow]; grobner
theorem one_pow:∀ k,pow 1 k=1
 | 0=>rfl
 | k+1=>by rw [pow,one_pow k]; grobner
theorem zero_pow (hk:0<k):pow 0 k=0:=by
 obtain ⟨j,rfl⟩:∃ j,k=j+1:=⟨k-1,by omega⟩
 rw [pow]; grobner
theorem kY (a k:Nat):pow (fp a) k=fp (a^k):=Fin.ext (by rw [Az,YM,YM,←oG])
theorem ndvd {a:Fe} (h:a≠0):¬ P∣a.val:=fun hd=>by
 have h1:=HC hd
 rw [QB a.isLt] at h1
 exact h (Fin.ext h1)
theorem Df {a:Fe} (h:a≠0):pow a (P-1)=1:=Fin.ext (by rw [Az,Go.NT.Df iU (ndvd h)]; rfl)
def iv (a:Fe):Fe:=pow a (P-2)
theorem IC {a:Fe} (h:a≠0):a*iv a=1:=by
 have h1:=Df h
 rw [show P-1=(P-2)+1 from rfl,pow] at h1
 unfold iv
 rw [←h1]; grobner
theorem gr:iv 0=0:=zero_pow (by decide)
def dN:Nat:=37095705934669439343138083508754565189542113879843219016388785533085940283555
def iN:Nat:=19681161376707505956807079304988542015446066515923890162744021073123829784752
def d:Fe:=fp dN
def iQ:Fe:=fp iN
theorem CJ {r f:Nat} (hk:k<2^f) (h:pwf P a f k=r):pow (fp a) k=fp r:=by
 rw [kY,←h,Ax hk,Yi]
theorem Ia:iQ*iQ = -1:=by
 have h:iQ*iQ+1=0:=by
  unfold iQ
  rw [←XZ,←AU,←Vd]
  exact Fin.ext (by rw [YM]; decide +kernel)
 grobner
theorem Ut:(1:Fe)≠0:=fun h=>by
 have:=congrArg Fin.val h
 revert this
 decide +kernel
theorem kL:(2:Fe)≠0:=fun h=>by
 have:=congrArg Fin.val h
 revert this
 decide +kernel
theorem CK (r:Fe):pow (r*r) ((P-1)/2)=1∨r=0:=by
 by_cases h:r=0
 ·exact .inr h
 ·left
  rw [←pow_two,←pow_mul,show 2*((P-1)/2)=P-1 from by decide +kernel,Df h]
theorem mD:pow d ((P-1)/2)=fp (P-1):=CJ (f:=256) (by decide +kernel) (by decide +kernel)
theorem nosq (r:Fe):r*r≠d:=fun h=>by
 have h1:=mD
 rcases CK r with h2 | h2
 ·rw [h,h1] at h2
  have:=congrArg Fin.val h2
  revert this
  decide +kernel
 ·subst h2
  have h3:d=0:=by rw [←h]; grobner
  have:=congrArg Fin.val h3
  revert this
  decide +kernel
theorem fld:Fld P iv d iQ:=⟨fun _ h=>IC h,gr,Ut,kL,Ia,nosq⟩
end
end Go.Fp
namespace Go.Ev.YtomfgcgnepfmjaaGreat
open Go Go.Ev
attribute [local congr] Jq J7 Jp J8 Je
set_option maxRecDepth 100000
variable {x n y x0 x1 x2 x3 x4 V b c a i:Nat} {k:List Nat} {R:Ob}
theorem E4 (hx:x<18446744073709551616) (hy:y<18446744073709551616) :
  Zb T 204 [.int .u64 x,.int .u64 y] []=some (.tuple #[.int .u64 ((x*y/18446744073709551616:Nat):Int),.int .u64 ((x*y%18446744073709551616:Nat):Int)],[],[]):=by
 have key:∀ a b:Nat,a=x*y/18446744073709551616→b=x*y%18446744073709551616→(some (.tuple #[.int .u64 (a:Int),.int .u64 (b:Int)],[],[]):Option (Value×List Ob×List Nat))=some (.tuple #[.int .u64 ((x*y/18446744073709551616:Nat):Int),.int .u64 ((x*y%18446744073709551616:Nat):Int)],[],[]):=by
  rintro a b rfl rfl; rfl
 rw [QD (fn:=a91) rfl]
 simp only [a91,Q1,quiet,cF,Yh,Z7,↓pQ,reduceCtorEq,seval,-Qb,cL,cU]
 apply key
 ·have e:x*y=(x/4294967296*(y/4294967296))*18446744073709551616+(x/4294967296*(y%4294967296)+x%4294967296*(y/4294967296))*4294967296+x%4294967296*(y%4294967296):=by
   conv=>lhs; rw [←ZK x 4294967296,←ZK y 4294967296]
   generalize x/4294967296=x1
   generalize x%4294967296=x0
   generalize y/4294967296=y1
   generalize y%4294967296=y0
   grind
  have b1:x/4294967296≤4294967295:=by omega
  have b2:x%4294967296≤4294967295:=by omega
  have b3:y/4294967296≤4294967295:=by omega
  have b4:y%4294967296≤4294967295:=by omega
  have c1:=JJ b1 b3
  have c2:=JJ b1 b4
  have c3:=JJ b2 b3
  have c4:=JJ b2 b4
  rw [e]
  clear e
  generalize x/4294967296*(y/4294967296)=p11 at *
  generalize x/4294967296*(y%4294967296)=p10 at *
  generalize x%4294967296*(y/4294967296)=p01 at *
  generalize x%4294967296*(y%4294967296)=p00 at *
  omega
 ·rfl
def wV (n:Nat):Value := .agg #[.int .u64 ((n/18446744073709551616:Nat):Int),.int .u64 ((n%18446744073709551616:Nat):Int)]
theorem rf_wV (n:Nat):rf (wV n)=true:=rfl
theorem RA (hc:c≤1):Zb T 205 [.int .u64 x,.int .u64 y,.int .u64 c] []=some (.tuple #[.int .u64 ((x+y+c)%18446744073709551616:Nat),.int .u64 ((x+y+c)/18446744073709551616:Nat)],[],[]):=by
 rw [Zb.eq_def]
 have h1:T.fn 205=none:=rfl
 have h2:([.int .u64 (x:Int),.int .u64 (y:Int),.int .u64 (c:Int)]:List Value).all rf=true:=rfl
 have h3:T.ext 205 [.int .u64 x,.int .u64 y,.int .u64 c]=some (.tuple #[.int .u64 ((x+y+c)%18446744073709551616:Nat),.int .u64 ((x+y+c)/18446744073709551616:Nat)]):=by
  have h4:(c:Int).toNat≤1:=by omega
  simp [T,gR,hc]
 rw [h1]
 simp only [h2,if_true,h3,Qj]
theorem N4 (hx:x<18446744073709551616) (hy:y<18446744073709551616):∃ l,Zb T 169 [.int .u64 x,.int .u64 y] []=some (wV (x*y),l,[]):=by
 have h:=E4 hx hy
 have hf:∀ a b:Int,fillL [Value.int .u64 0,Value.int .u64 0] [(0,1,.int .u64 a),(1,1,.int .u64 b)]=some [.int .u64 a,.int .u64 b]:=fun _ _=>rfl
 apply ZL
 rw [QD (fn:=a77) rfl]
 simp only [a77,Q1,quiet,cF,Yh,Z7,↓pQ,reduceCtorEq,seval,-Qb,cL,cJ,Zh,h,hf]
 rfl
theorem P9 (hx:x<18446744073709551616) (hy:y<18446744073709551616) (hn:n+x*y<340282366920938463463374607431768211456):∃ l,Zb T 170 [wV n,.int .u64 x,.int .u64 y] []=some (wV (n+x*y),l,[]):=by
 have h:=E4 hx hy
 have hf:∀ a b:Int,fillL [Value.int .u64 0,Value.int .u64 0] [(0,1,.int .u64 a),(1,1,.int .u64 b)]=some [.int .u64 a,.int .u64 b]:=fun _ _=>rfl
 have a1:=RA (x:=n%18446744073709551616) (y:=x*y%18446744073709551616) (c:=0) (by decide)
 have a2:=RA (x:=n/18446744073709551616) (y:=x*y/18446744073709551616) (c:=(n%18446744073709551616+x*y%18446744073709551616)/18446744073709551616) (by omega)
 simp only [Zx,ZF] at a1
 have key:∀ (a b:Nat) (l:List Ob),a=(n+x*y)/18446744073709551616→b=(n+x*y)%18446744073709551616→(some (.agg #[.int .u64 (a:Int),.int .u64 (b:Int)],l,[]):Option (Value×List Ob×List Nat))=some (wV (n+x*y),l,[]):=by
  rintro a b l rfl rfl; rfl
 apply ZL
 rw [QD (fn:=a78) rfl]
 simp only [wV,a78,Q1,quiet,cF,Yh,Z7,↓pQ,reduceCtorEq,seval,-Qb,cL,cJ,Zh,h,hf,a1,a2]
 apply key
 ·generalize x*y=p at *
  omega
 ·generalize x*y=p at *
  omega
theorem Si (hn:n<41538374868278621028243970633760768):∃ l,Zb T 171 [wV n] []=some (.tuple #[.int .u64 ((n/2251799813685248:Nat):Int),.int .u64 ((n%2251799813685248:Nat):Int)],l,[]):=by
 have key:∀ (a b:Nat) (l:List Ob),a=n/2251799813685248→b=n%2251799813685248→(some (.tuple #[.int .u64 (a:Int),.int .u64 (b:Int)],l,[]):Option (Value×List Ob×List Nat))=some (.tuple #[.int .u64 ((n/2251799813685248:Nat):Int),.int .u64 ((n%2251799813685248:Nat):Int)],l,[]):=by
  rintro a b l rfl rfl; rfl
 have hor:=fun a b:Nat=>n_or .u64 rfl a b
 apply ZL
 rw [QD (fn:=a79) rfl]
 simp only [wV,a79,Q1,quiet,cF,Yh,Z7,↓pQ,reduceCtorEq,seval,-Qb,cL,cJ,Zh,cU,hor]
 apply key
 ·have h1:n/18446744073709551616<2251799813685248:=by omega
  have e1:n/18446744073709551616*8192%18446744073709551616%2^IntKind.u64.bits=n/18446744073709551616*2^13:=by
   rw [show (2:Nat)^IntKind.u64.bits=18446744073709551616 from rfl]; omega
  have e2:n%18446744073709551616/2251799813685248%2^IntKind.u64.bits=n%18446744073709551616/2251799813685248:=by
   rw [show (2:Nat)^IntKind.u64.bits=18446744073709551616 from rfl]; omega
  rw [e1,e2,Vo (by omega)]
  omega
 ·omega
theorem fQ (hn:n+x<340282366920938463463374607431768211456) (hx:x<18446744073709551616):∃ l,Zb T 172 [wV n,.int .u64 x] []=some (wV (n+x),l,[]):=by
 have hf:∀ a b:Int,fillL [Value.int .u64 0,Value.int .u64 0] [(0,1,.int .u64 a),(1,1,.int .u64 b)]=some [.int .u64 a,.int .u64 b]:=fun _ _=>rfl
 have a1:=RA (x:=n%18446744073709551616) (y:=x) (c:=0) (by decide)
 simp only [Zx,ZF] at a1
 have key:∀ (a b:Nat) (l:List Ob),a=(n+x)/18446744073709551616→b=(n+x)%18446744073709551616→(some (.agg #[.int .u64 (a:Int),.int .u64 (b:Int)],l,[]):Option (Value×List Ob×List Nat))=some (wV (n+x),l,[]):=by
  rintro a b l rfl rfl; rfl
 apply ZL
 rw [QD (fn:=a80) rfl]
 simp only [wV,a80,Q1,quiet,cF,Yh,Z7,↓pQ,reduceCtorEq,seval,-Qb,cL,cJ,Zh,cU,hf,a1]
 apply key
 ·omega
 ·omega
def eV (l:List Nat):Value := .agg (ns .u64 l).toArray
theorem ZX (l:List Nat):rf (eV l)=true:=by
 show (ns .u64 l).toArray.toList.all scalarRf=true
 rw [show (ns .u64 l).toArray.toList=ns .u64 l from rfl]
 simp [ns,scalarRf]
theorem LA (k:IntKind) (l:List Nat):rf (.agg (ns k l).toArray)=true:=by
 show (ns k l).toArray.toList.all scalarRf=true
 rw [show (ns k l).toArray.toList=ns k l from rfl]
 simp [ns,scalarRf]
structure El (l:List Nat) (b:Nat):Prop where
 len:l.length=5
 lt:∀ x∈l,x<b
theorem El.five {l:List Nat} {b:Nat} (h:El l b):∃ x0 x1 x2 x3 x4,l=[x0,x1,x2,x3,x4]∧x0<b∧x1<b∧x2<b∧x3<b∧x4<b:=by
 obtain ⟨h1,h2⟩:=h
 match l,h1 with
 | [x0,x1,x2,x3,x4],_=>exact ⟨x0,x1,x2,x3,x4,rfl,h2 _ (by simp),h2 _ (by simp),h2 _ (by simp),h2 _ (by simp),h2 _ (by simp)⟩
theorem El.mk5 {x0 x1 x2 x3 x4 b:Nat} (h0:x0<b) (h1:x1<b) (h2:x2<b) (h3:x3<b) (h4:x4<b):El [x0,x1,x2,x3,x4] b:=⟨rfl,by simp; exact ⟨h0,h1,h2,h3,h4⟩⟩
def v51 (l:List Nat):Nat:=num 2251799813685248 l
def fe (l:List Nat):Go.Fp.Fe:=Go.Fp.fp (v51 l)
def Yo (x0 x1 x2 x3 x4:Nat):List Nat :=
 let c0:=x0/2251799813685248
 let c1:=(x1+c0)/2251799813685248
 let c2:=(x2+c1)/2251799813685248
 let c3:=(x3+c2)/2251799813685248
 let c4:=(x4+c3)/2251799813685248
 [x0%2251799813685248+19*c4,(x1+c0)%2251799813685248,(x2+c1)%2251799813685248,(x3+c2)%2251799813685248,(x4+c3)%2251799813685248]
theorem GP:∃ k,v51 (Yo x0 x1 x2 x3 x4)+k*Go.Fp.P=v51 [x0,x1,x2,x3,x4]:=by
 refine ⟨(x4+(x3+(x2+(x1+x0/2251799813685248)/2251799813685248)/2251799813685248)/2251799813685248)/2251799813685248,?_⟩
 simp only [v51,Yo,num,Go.Fp.UL]
 omega
theorem ku {k:Nat} (h:a+k*Go.Fp.P=b):Go.Fp.fp a=Go.Fp.fp b:=by
 rw [←h,Go.Fp.Vd,Go.Fp.Nf]; grobner
theorem La (h0:x0<9223372036854775808) (h1:x1<9223372036854775808) (h2:x2<9223372036854775808) (h3:x3<9223372036854775808) (h4:x4<9223372036854775808) :
  ∃ l,Zb T 173 [eV [x0,x1,x2,x3,x4]] []=some (eV (Yo x0 x1 x2 x3 x4),l,[]):=by
 have key:∀ (a b c d e:Nat) (l:List Ob),[a,b,c,d,e]=Yo x0 x1 x2 x3 x4→(some (.agg [.int .u64 (a:Int),.int .u64 (b:Int),.int .u64 (c:Int),.int .u64 (d:Int),.int .u64 (e:Int)].toArray,l,[]):Option (Value×List Ob×List Nat))=some (eV (Yo x0 x1 x2 x3 x4),l,[]):=by
  intro a b c d e l h
  rw [←h]; rfl
 have hz:Qc 5 (Value.int .u64 0)=[.int .u64 0,.int .u64 0,.int .u64 0,.int .u64 0,.int .u64 0]:=rfl
 apply ZL
 rw [QD (fn:=a81) rfl]
 simp only [eV,Y5,Uu,a81,Q1,quiet,cF,Yh,Z7,↓pQ,reduceCtorEq,seval,-Qb,cL,cJ,Zh,cU,hz,Js,JB,dq]
 apply key
 simp only [Yo,List.cons.injEq,and_true]
 rw [show x0%18446744073709551616=x0 by omega]
 have b0:x0/2251799813685248<8192:=by omega
 have hx0:x0%2251799813685248<2251799813685248:=by omega
 generalize x0/2251799813685248=c0 at *
 generalize x0%2251799813685248=r0 at *
 rw [show (x1+c0)%18446744073709551616=x1+c0 by omega]
 have b1:(x1+c0)/2251799813685248<8192:=by omega
 generalize (x1+c0)/2251799813685248=c1 at *
 rw [show (x2+c1)%18446744073709551616=x2+c1 by omega]
 have b2:(x2+c1)/2251799813685248<8192:=by omega
 generalize (x2+c1)/2251799813685248=c2 at *
 rw [show (x3+c2)%18446744073709551616=x3+c2 by omega]
 have b3:(x3+c2)/2251799813685248<8192:=by omega
 generalize (x3+c2)/2251799813685248=c3 at *
 rw [show (x4+c3)%18446744073709551616=x4+c3 by omega]
 have b4:(x4+c3)/2251799813685248<8192:=by omega
 generalize (x4+c3)/2251799813685248=c4 at *
 refine ⟨by omega,rfl,rfl,rfl,rfl⟩
theorem fO (B P x0 x1 x2 x3 x4 y0 y1 y2 y3 y4:Nat) (h:B*B*B*B*B=P+19) :
  (x0+B*(x1+B*(x2+B*(x3+B*(x4+B*0)))))*(y0+B*(y1+B*(y2+B*(y3+B*(y4+B*0))))) =
   (x0*y0+19*x1*y4+19*x2*y3+19*x3*y2+19*x4*y1)+B*((x0*y1+x1*y0+19*x2*y4+19*x3*y3+19*x4*y2)+B*((x0*y2+x1*y1+x2*y0+19*x3*y4+19*x4*y3)+B*((x0*y3+x1*y2+x2*y1+x3*y0+19*x4*y4)+B*(x0*y4+x1*y3+x2*y2+x3*y1+x4*y0)))) +
   (x1*y4+x2*y3+x3*y2+x4*y1+B*(x2*y4+x3*y3+x4*y2+B*(x3*y4+x4*y3+B*(x4*y4))))*P:=by grind
theorem UP (hx:x<18446744073709551616) (hy:y<18446744073709551616):Z9 T 169 [.int .u64 x,.int .u64 y]=some (wV (x*y)):=Kv (N4 hx hy)
theorem X7 (hx:x<18446744073709551616) (hy:y<18446744073709551616) (hn:n+x*y<340282366920938463463374607431768211456):Z9 T 170 [wV n,.int .u64 x,.int .u64 y]=some (wV (n+x*y)):=Kv (P9 hx hy hn)
theorem UQ (hn:n<41538374868278621028243970633760768):Z9 T 171 [wV n]=some (.tuple #[.int .u64 ((n/2251799813685248:Nat):Int),.int .u64 ((n%2251799813685248:Nat):Int)]):=Kv (Si hn)
theorem m9 (hn:n+x<340282366920938463463374607431768211456) (hx:x<18446744073709551616):Z9 T 172 [wV n,.int .u64 x]=some (wV (n+x)):=Kv (fQ hn hx)
theorem Wn (h0:x0<9223372036854775808) (h1:x1<9223372036854775808) (h2:x2<9223372036854775808) (h3:x3<9223372036854775808) (h4:x4<9223372036854775808):Z9 T 173 [eV [x0,x1,x2,x3,x4]]=some (eV (Yo x0 x1 x2 x3 x4)):=Kv (La h0 h1 h2 h3 h4)
theorem Yj {d e:Nat} (ha:a<2^109) (hb:b<2^109) (hc:c<2^109) (hd:d<2^109) (he:e<2^109):a+b+c+d+e<2^112:=by omega
theorem Jm (hx:x<2^57) (hy:y<2^52):x*y<2^109:=by
 rw [show (2:Nat)^109=2^57*2^52 from rfl]
 exact Nat.mul_lt_mul'' hx hy
theorem fN {s0 s1 s2 s3 s4:Nat} (h0:s0<2^112) (h1:s1<2^112) (h2:s2<2^112) (h3:s3<2^112) (h4:s4<2^112):∃ r,El r (2^52)∧(∃ k,v51 r+k*Go.Fp.P=s0+2251799813685248*(s1+2251799813685248*(s2+2251799813685248*(s3+2251799813685248*s4)))) ∧
  r=Yo ((19*(s4/2251799813685248)+s0%2251799813685248)%2251799813685248) (s1%2251799813685248+s0/2251799813685248+(19*(s4/2251799813685248)+s0%2251799813685248)/2251799813685248) (s2%2251799813685248+s1/2251799813685248) (s3%2251799813685248+s2/2251799813685248) (s4%2251799813685248+s3/2251799813685248):=by
 refine ⟨_,?_,?_,rfl⟩
 ·simp only [Yo]
  apply El.mk5<;>omega
 ·obtain ⟨k,hk⟩:=GP (x0:=(19*(s4/2251799813685248)+s0%2251799813685248)%2251799813685248) (x1:=s1%2251799813685248+s0/2251799813685248+(19*(s4/2251799813685248)+s0%2251799813685248)/2251799813685248) (x2:=s2%2251799813685248+s1/2251799813685248) (x3:=s3%2251799813685248+s2/2251799813685248) (x4:=s4%2251799813685248+s3/2251799813685248)
  refine ⟨k+s4/2251799813685248,?_⟩
  rw [Zu,←Zh,hk]
  simp only [v51,num,Go.Fp.UL]
  omega
theorem Xq {x y:List Nat} (hx:El x (2^52)) (hy:El y (2^52)):∃ r,Z9 T 108 [eV x,eV y]=some (eV r)∧El r (2^52)∧fe r=fe x*fe y:=by
 obtain ⟨x0,x1,x2,x3,x4,rfl,a0,a1,a2,a3,a4⟩:=hx.five
 obtain ⟨y0,y1,y2,y3,y4,rfl,b0,b1,b2,b3,b4⟩:=hy.five
 have m1:19*x1%18446744073709551616=19*x1:=by omega
 have m2:19*x2%18446744073709551616=19*x2:=by omega
 have m3:19*x3%18446744073709551616=19*x3:=by omega
 have m4:19*x4%18446744073709551616=19*x4:=by omega
 have t00:=UP (x:=x0) (y:=y0) (by omega) (by omega)
 have p00:x0*y0<2^109:=Jm (by omega) (by omega)
 have p01:19*x1*y4<2^109:=Jm (by omega) (by omega)
 have p02:19*x2*y3<2^109:=Jm (by omega) (by omega)
 have p03:19*x3*y2<2^109:=Jm (by omega) (by omega)
 have p04:19*x4*y1<2^109:=Jm (by omega) (by omega)
 have t01:=X7 (n:=x0*y0) (x:=19*x1) (y:=y4) (by omega) (by omega) (by omega)
 have t02:=X7 (n:=x0*y0+19*x1*y4) (x:=19*x2) (y:=y3) (by omega) (by omega) (by omega)
 have t03:=X7 (n:=x0*y0+19*x1*y4+19*x2*y3) (x:=19*x3) (y:=y2) (by omega) (by omega) (by omega)
 have t04:=X7 (n:=x0*y0+19*x1*y4+19*x2*y3+19*x3*y2) (x:=19*x4) (y:=y1) (by omega) (by omega) (by omega)
 have q0:=Yj p00 p01 p02 p03 p04
 have t10:=UP (x:=x0) (y:=y1) (by omega) (by omega)
 have p10:x0*y1<2^109:=Jm (by omega) (by omega)
 have p11:x1*y0<2^109:=Jm (by omega) (by omega)
 have p12:19*x2*y4<2^109:=Jm (by omega) (by omega)
 have p13:19*x3*y3<2^109:=Jm (by omega) (by omega)
 have p14:19*x4*y2<2^109:=Jm (by omega) (by omega)
 have t11:=X7 (n:=x0*y1) (x:=x1) (y:=y0) (by omega) (by omega) (by omega)
 have t12:=X7 (n:=x0*y1+x1*y0) (x:=19*x2) (y:=y4) (by omega) (by omega) (by omega)
 have t13:=X7 (n:=x0*y1+x1*y0+19*x2*y4) (x:=19*x3) (y:=y3) (by omega) (by omega) (by omega)
 have t14:=X7 (n:=x0*y1+x1*y0+19*x2*y4+19*x3*y3) (x:=19*x4) (y:=y2) (by omega) (by omega) (by omega)
 have q1:=Yj p10 p11 p12 p13 p14
 have t20:=UP (x:=x0) (y:=y2) (by omega) (by omega)
 have p20:x0*y2<2^109:=Jm (by omega) (by omega)
 have p21:x1*y1<2^109:=Jm (by omega) (by omega)
 have p22:x2*y0<2^109:=Jm (by omega) (by omega)
 have p23:19*x3*y4<2^109:=Jm (by omega) (by omega)
 have p24:19*x4*y3<2^109:=Jm (by omega) (by omega)
 have t21:=X7 (n:=x0*y2) (x:=x1) (y:=y1) (by omega) (by omega) (by omega)
 have t22:=X7 (n:=x0*y2+x1*y1) (x:=x2) (y:=y0) (by omega) (by omega) (by omega)
 have t23:=X7 (n:=x0*y2+x1*y1+x2*y0) (x:=19*x3) (y:=y4) (by omega) (by omega) (by omega)
 have t24:=X7 (n:=x0*y2+x1*y1+x2*y0+19*x3*y4) (x:=19*x4) (y:=y3) (by omega) (by omega) (by omega)
 have q2:=Yj p20 p21 p22 p23 p24
 have t30:=UP (x:=x0) (y:=y3) (by omega) (by omega)
 have p30:x0*y3<2^109:=Jm (by omega) (by omega)
 have p31:x1*y2<2^109:=Jm (by omega) (by omega)
 have p32:x2*y1<2^109:=Jm (by omega) (by omega)
 have p33:x3*y0<2^109:=Jm (by omega) (by omega)
 have p34:19*x4*y4<2^109:=Jm (by omega) (by omega)
 have t31:=X7 (n:=x0*y3) (x:=x1) (y:=y2) (by omega) (by omega) (by omega)
 have t32:=X7 (n:=x0*y3+x1*y2) (x:=x2) (y:=y1) (by omega) (by omega) (by omega)
 have t33:=X7 (n:=x0*y3+x1*y2+x2*y1) (x:=x3) (y:=y0) (by omega) (by omega) (by omega)
 have t34:=X7 (n:=x0*y3+x1*y2+x2*y1+x3*y0) (x:=19*x4) (y:=y4) (by omega) (by omega) (by omega)
 have q3:=Yj p30 p31 p32 p33 p34
 have t40:=UP (x:=x0) (y:=y4) (by omega) (by omega)
 have p40:x0*y4<2^109:=Jm (by omega) (by omega)
 have p41:x1*y3<2^109:=Jm (by omega) (by omega)
 have p42:x2*y2<2^109:=Jm (by omega) (by omega)
 have p43:x3*y1<2^109:=Jm (by omega) (by omega)
 have p44:x4*y0<2^109:=Jm (by omega) (by omega)
 have t41:=X7 (n:=x0*y4) (x:=x1) (y:=y3) (by omega) (by omega) (by omega)
 have t42:=X7 (n:=x0*y4+x1*y3) (x:=x2) (y:=y2) (by omega) (by omega) (by omega)
 have t43:=X7 (n:=x0*y4+x1*y3+x2*y2) (x:=x3) (y:=y1) (by omega) (by omega) (by omega)
 have t44:=X7 (n:=x0*y4+x1*y3+x2*y2+x3*y1) (x:=x4) (y:=y0) (by omega) (by omega) (by omega)
 have q4:=Yj p40 p41 p42 p43 p44
 obtain ⟨r,hr1,⟨k,hr2⟩,hr3⟩:=fN q0 q1 q2 q3 q4
 have d0:=UQ (n:=x0*y0+19*x1*y4+19*x2*y3+19*x3*y2+19*x4*y1) (by omega)
 have d1:=UQ (n:=x0*y1+x1*y0+19*x2*y4+19*x3*y3+19*x4*y2) (by omega)
 have d2:=UQ (n:=x0*y2+x1*y1+x2*y0+19*x3*y4+19*x4*y3) (by omega)
 have d3:=UQ (n:=x0*y3+x1*y2+x2*y1+x3*y0+19*x4*y4) (by omega)
 have d4:=UQ (n:=x0*y4+x1*y3+x2*y2+x3*y1+x4*y0) (by omega)
 refine ⟨r,?_,hr1,?_⟩
 ·rw [hr3]
  clear hr2 hr3
  generalize x0*y0+19*x1*y4+19*x2*y3+19*x3*y2+19*x4*y1=s0 at *
  generalize x0*y1+x1*y0+19*x2*y4+19*x3*y3+19*x4*y2=s1 at *
  generalize x0*y2+x1*y1+x2*y0+19*x3*y4+19*x4*y3=s2 at *
  generalize x0*y3+x1*y2+x2*y1+x3*y0+19*x4*y4=s3 at *
  generalize x0*y4+x1*y3+x2*y2+x3*y1+x4*y0=s4 at *
  have u1:=UP (x:=19) (y:=s4/2251799813685248) (by omega) (by omega)
  have u2:=m9 (n:=19*(s4/2251799813685248)) (x:=s0%2251799813685248) (by omega) (by omega)
  have u3:=UQ (n:=19*(s4/2251799813685248)+s0%2251799813685248) (by omega)
  have w1:(s1%2251799813685248+s0/2251799813685248)%18446744073709551616=s1%2251799813685248+s0/2251799813685248:=by omega
  have w2:(s1%2251799813685248+s0/2251799813685248+(19*(s4/2251799813685248)+s0%2251799813685248)/2251799813685248)%18446744073709551616=s1%2251799813685248+s0/2251799813685248+(19*(s4/2251799813685248)+s0%2251799813685248)/2251799813685248:=by omega
  have w3:(s2%2251799813685248+s1/2251799813685248)%18446744073709551616=s2%2251799813685248+s1/2251799813685248:=by omega
  have w4:(s3%2251799813685248+s2/2251799813685248)%18446744073709551616=s3%2251799813685248+s2/2251799813685248:=by omega
  have w5:(s4%2251799813685248+s3/2251799813685248)%18446744073709551616=s4%2251799813685248+s3/2251799813685248:=by omega
  have v1:=Wn (x0:=(19*(s4/2251799813685248)+s0%2251799813685248)%2251799813685248) (x1:=s1%2251799813685248+s0/2251799813685248+(19*(s4/2251799813685248)+s0%2251799813685248)/2251799813685248) (x2:=s2%2251799813685248+s1/2251799813685248) (x3:=s3%2251799813685248+s2/2251799813685248) (x4:=s4%2251799813685248+s3/2251799813685248) (by omega) (by omega) (by omega) (by omega) (by omega)
  simp only [Uf] at u1
  have hz:Qc 5 (Value.int .u64 0)=[.int .u64 0,.int .u64 0,.int .u64 0,.int .u64 0,.int .u64 0]:=rfl
  have hf:∀ a b c d e:Int,fillL [Value.int .u64 0,.int .u64 0,.int .u64 0,.int .u64 0,.int .u64 0] [(0,1,.int .u64 a),(1,1,.int .u64 b),(2,1,.int .u64 c),(3,1,.int .u64 d),(4,1,.int .u64 e)]=some [.int .u64 a,.int .u64 b,.int .u64 c,.int .u64 d,.int .u64 e]:=fun _ _ _ _ _=>rfl
  have hf5:∀ a b c d e:Int,fillL [Value.int .u64 0,.int .u64 0,.int .u64 0,.int .u64 0,.int .u64 0] [(0,5,.agg [.int .u64 a,.int .u64 b,.int .u64 c,.int .u64 d,.int .u64 e].toArray)]=some [.int .u64 a,.int .u64 b,.int .u64 c,.int .u64 d,.int .u64 e]:=fun _ _ _ _ _=>rfl
  have hr5:∀ a b c d e:Int,rf (.agg [.int .u64 a,.int .u64 b,.int .u64 c,.int .u64 d,.int .u64 e].toArray)=true:=fun _ _ _ _ _=>rfl
  have hw:∀ n,(wV n).cells.size=2:=fun _=>rfl
  have hw2:∀ n,(wV n).cells.toList=[.int .u64 ((n/18446744073709551616:Nat):Int),.int .u64 ((n%18446744073709551616:Nat):Int)]:=fun _=>rfl
  have hw3:∀ n,okVar (wV n)=true:=fun _=>rfl
  have hw4:∀ n,Value.agg [.int .u64 ((n/18446744073709551616:Nat):Int),.int .u64 ((n%18446744073709551616:Nat):Int)].toArray=wV n:=fun _=>rfl
  simp only [eV,Y5,Uu] at v1 ⊢
  generalize hc:ns .u64 (Yo ((19*(s4/2251799813685248)+s0%2251799813685248)%2251799813685248) (s1%2251799813685248+s0/2251799813685248+(19*(s4/2251799813685248)+s0%2251799813685248)/2251799813685248) (s2%2251799813685248+s1/2251799813685248) (s3%2251799813685248+s2/2251799813685248) (s4%2251799813685248+s3/2251799813685248))=C at *
  have hC:C.length=5:=by rw [←hc]; rfl
  have hCr:rf (.agg C.toArray)=true:=by rw [←hc]; exact LA _ _
  apply ZI (fn:=a51) rfl
  simp only [a51,Q1,quiet,cF,Jx,Z7,↓pQ,reduceCtorEq,seval,-Qb,cL,cJ,cU,hz,m1,m2,m3,m4,t00,t01,t02,t03,t04,t10,t11,t12,t13,t14,t20,t21,t22,t23,t24,t30,t31,t32,t33,t34,t40,t41,t42,t43,t44,d0,d1,d2,d3,d4,u1,u2,u3,w1,w2,w3,w4,w5,hf,hf5,hr5,v1,rf_wV,hw,hw2,hw3,hw4,hC,hCr]
  rfl
 ·unfold fe
  rw [←Go.Fp.XZ]
  have h:=fO 2251799813685248 Go.Fp.P x0 x1 x2 x3 x4 y0 y1 y2 y3 y4 (by rw [Go.Fp.UL])
  have e:v51 [x0,x1,x2,x3,x4]*v51 [y0,y1,y2,y3,y4]=v51 r+(k+(x1*y4+x2*y3+x3*y2+x4*y1+2251799813685248*(x2*y4+x3*y3+x4*y2+2251799813685248*(x3*y4+x4*y3+2251799813685248*(x4*y4)))))*Go.Fp.P:=by
   simp only [v51,num] at hr2 h ⊢
   rw [h,←hr2,Zh,←Zu]
  exact ku e.symm
theorem Nr {w q s:Nat} (hs:s<w):V/(2^w)^q%2^w/2^s%2=V/2^(w*q+s)%2:=by
 have h1:(2:Nat)^w=2^s*2^(w-s):=by rw [←JG]; congr 1; omega
 conv=>lhs; rw [show V/(2^w)^q%2^w=V/(2^w)^q%(2^s*2^(w-s)) from by rw [←h1]]
 have h2:(2:Nat)∣2^(w-s):=by
  obtain ⟨m,hm⟩:∃ m,w-s=m+1:=⟨w-s-1,by omega⟩
  rw [hm,Z0]
  exact FG 2 _
 rw [Nat.mod_mul_right_div_self,VC _ h2,Jl,←Jh,←JG]
theorem Fy (V i:Nat):V%2^i+V/2^i%2*2^i=V%2^(i+1):=by
 rw [Nat.mod_pow_succ,Zy (2^i)]
theorem R8 (V i:Nat):V/2^i%2<2:=Q3 _ (by decide)
theorem W2 (h:n≤b):(2:Int)^min n b=((2^n:Nat):Int):=by rw [Ze h]; simp
theorem DT (hn:n<4294967296):Z9 T 111 [.int .u32 n]=some (eV [n,0,0,0,0]):=by
 have hz:Qc 5 (Value.int .u64 0)=[.int .u64 0,.int .u64 0,.int .u64 0,.int .u64 0,.int .u64 0]:=rfl
 have hf:∀ a:Int,fillL [Value.int .u64 0,.int .u64 0,.int .u64 0,.int .u64 0,.int .u64 0] [(0,1,.int .u64 a)]=some [.int .u64 a,.int .u64 0,.int .u64 0,.int .u64 0,.int .u64 0]:=fun _=>rfl
 have hf5:∀ a b c d e:Int,fillL [Value.int .u64 0,.int .u64 0,.int .u64 0,.int .u64 0,.int .u64 0] [(0,5,.agg [.int .u64 a,.int .u64 b,.int .u64 c,.int .u64 d,.int .u64 e].toArray)]=some [.int .u64 a,.int .u64 b,.int .u64 c,.int .u64 d,.int .u64 e]:=fun _ _ _ _ _=>rfl
 have hm:n%18446744073709551616=n:=by omega
 apply ZI (fn:=a50) rfl
 simp only [a50,Q1,quiet,cF,Jx,Z7,↓pQ,reduceCtorEq,seval,-Qb,cL,cJ,cU,hz,hf,hf5,hm,eV,Y5,Uu]
 rfl
theorem Gj (hn:n<2^52):El [n,0,0,0,0] (2^52):=El.mk5 hn (by decide) (by decide) (by decide) (by decide)
theorem Gi (n:Nat):fe [n,0,0,0,0]=Go.Fp.fp n:=by simp [fe,v51,num]
def ofX (V i:Nat):List Nat:=dig (2^51) 5 (V%2^i)
def En (k x:List Nat) (i:Nat) (ex:Env):St:=⟨[(1,.pointer (some ⟨0,0,none⟩)),(2,.pointer (some ⟨1,0,none⟩)),(3,.pointer (some ⟨2,0,none⟩)),(5,.int .i64 i)]++ex,[⟨u8s k,true,true,true,1⟩,⟨ns .u64 [0,0,0,0,0],true,true,true,1⟩,⟨ns .u64 x,true,true,true,1⟩],[]⟩
theorem aR (lk:k.length=32) (xk:∀ x∈k,x<256) (hi:i<255) :
  Q8 T 0 RI (En k (ofX (num 256 k) i) i [])=some (.normal,En k (ofX (num 256 k) (i+1)) (i+1) []):=by
 obtain ⟨b,hb⟩:∃ b,k[i/8]?=some b:=⟨_,Qh (by omega)⟩
 have hbv:=VN (B:=256) (by decide) xk hb
 have hbc:=Jr hb
 have hlen:(ofX (num 256 k) i).length=5:=Zt _ _ _
 obtain ⟨y,hy⟩:∃ b,(ofX (num 256 k) i)[i/51]?=some b:=⟨_,Qh (by omega)⟩
 have hyc:=Jn (k := .u64) hy
 have hy':y<2^51:=KP (by decide) (Qz hy)
 have hbit:b/2^(i%8)%2=num 256 k/2^i%2:=by
  rw [←hbv,show (256:Nat)=2^8 from rfl,Nr (Q3 _ (by decide)),ZK]
 have hput:=Md (w:=51) (m:=5) (q:=i/51) (s:=i%51) (y:=num 256 k/2^i%2) (M:=num 256 k%2^i) (by omega) (Q3 _ (by decide)) (by rw [ZK]; exact Q3 _ (JT (by decide))) (by
  have h1:=R8 (num 256 k) i
  have h2:(2:Nat)^(i%51)≤2^50:=Zn (by decide) (by have:=Q3 i (by decide:0<51); omega)
  have h3:num 256 k/2^i%2*2^(i%51)≤1*2^50:=JJ (by omega) h2
  omega)
 rw [ZK,Fy] at hput
 have hgd:(dig (2^51) 5 (num 256 k%2^i)).getD (i/51) 0=y:=by rw [Qx]; unfold ofX at hy; rw [hy]; rfl
 rw [hgd] at hput
 have hset:=X9 .u64 (ofX (num 256 k) i) (i/51) (y|||num 256 k/2^i%2*2^(i%51))
 rw [show (ofX (num 256 k) i).set (i/51) (y|||num 256 k/2^i%2*2^(i%51))=ofX (num 256 k) (i+1) from hput] at hset
 have hbl:=R8 (num 256 k) i
 have h50:(2:Nat)^(i%51)≤2^50:=Zn (by decide) (by have:=Q3 i (by decide:0<51); omega)
 have hprod:num 256 k/2^i%2*2^(i%51)≤1*2^50:=JJ (by omega) h50
 have s1:(2:Int)^min (i%8) IntKind.u8.bits=((2^(i%8):Nat):Int):=W2 (Xf (Q3 _ (by decide)))
 have s2:(2:Int)^min (i%51) IntKind.u64.bits=((2^(i%51):Nat):Int):=W2 (by have:=Q3 i (by decide:0<51); exact Jf (Xf this) (by decide))
 have o1:Zo .or .u64 (y:Int) ((num 256 k/2^i%2*2^(i%51):Nat):Int)=((y|||num 256 k/2^i%2*2^(i%51):Nat):Int):=K7 rfl (by show _<18446744073709551616; omega) (by show _<18446744073709551616; omega)
 have n1:(num 256 k/2^i%2*2^(i%51))%18446744073709551616=num 256 k/2^i%2*2^(i%51):=by omega
 have n2:(num 256 k/2^i%2)%18446744073709551616=num 256 k/2^i%2:=by omega
 have w1:IntKind.i64.wrap ((i/51:Nat):Int)=((i/51:Nat):Int):=Jb (by omega)
 have w2:IntKind.i64.wrap ((i/8:Nat):Int)=((i/8:Nat):Int):=Jb (by omega)
 have w3:IntKind.i64.wrap ((i+1:Nat):Int)=((i+1:Nat):Int):=Jb (by omega)
 have e1:((i:Int)<255)=True:=eq_true (by omega)
 have e2:(((i/51:Nat):Int)<5)=True:=eq_true (by omega)
 have e3:(((i/8:Nat):Int)<32)=True:=eq_true (by omega)
 have e4:(((i%8:Nat):Int)<0)=False:=eq_false (by omega)
 have e5:(((i%51:Nat):Int)<0)=False:=eq_false (by omega)
 have e6:i/51+1≤5:=by omega
 simp only [En,RI,Q1,quiet,cF,Jx,Z7,↓pQ,reduceCtorEq,seval,-Qb,cL,cJ,cU,hbc,hyc,hbit,s1,s2,o1,n1,n2,w1,w2,w3,e1,e2,e3,e4,e5,e6,hset,QP,hlen]
theorem aS (lk:k.length=32) (xk:∀ x∈k,x<256):Z9 T 106 [.agg (u8s k).toArray]=some (eV (dig (2^51) 5 (num 256 k%2^255))):=by
 have hz:Qc 5 (Value.int .u64 0)=ns .u64 [0,0,0,0,0]:=rfl
 have hb:=XA (T:=T) (base:=0) (id:=0) (body:=RI) (fun i=>En k (ofX (num 256 k) i) i []) (s':=En k (ofX (num 256 k) 255) 255 [(6,.bool false)]) 255 (fun i hi=>aR lk xk hi) (by
  simp only [En,RI,Q1,quiet,cF,Jx,Z7,↓pQ,reduceCtorEq,seval,-Qb,cL])
 have h0:ofX (num 256 k) 0=[0,0,0,0,0]:=by unfold ofX; rw [Xe,oH]; decide
 rw [h0] at hb
 have hlen:(ofX (num 256 k) 255).length=5:=Zt _ _ _
 rw [show dig (2^51) 5 (num 256 k%2^255)=ofX (num 256 k) 255 from rfl]
 generalize ofX (num 256 k) 255=X at *
 simp only [En,Qw,Qr,Zx] at hb
 apply ZI (fn:=a49) rfl
 have hl5:(ns .u64 [0,0,0,0,0]).length=5:=rfl
 simp only [a49,Q1,quiet,cF,Jx,Z7,↓pQ,reduceCtorEq,seval,-Qb,cL,cJ,hz,hb,En,eV,hl5,QP,hlen]
 rfl
theorem Eo:El (dig (2^51) 5 V) (2^52):=⟨Zt _ _ _,fun x hx=>by have:=KP (by decide) hx; omega⟩
theorem Rb:v51 (dig (2^51) 5 (V%2^255))=V%2^255:=by
 have h:=XV (B:=2^51) (by decide) 5 (V%2^255)
 rw [show ((2:Nat)^51)^5=2^255 from by rw [←Jh],Bt] at h
 exact h
theorem dm (a b:Nat):∃ r,a=b*(a/b)+r∧a%b=r∧(0<b→r<b):=⟨a%b,(ZK a b).symm,rfl,fun h=>Q3 _ h⟩
theorem Po (h0:x0<9223372036854775808) (h1:x1<9223372036854775808) (h2:x2<9223372036854775808) (h3:x3<9223372036854775808) (h4:x4<9223372036854775808) :
  ∃ y0 y1 y2 y3 y4 z0 z1 z2 z3 z4,Yo x0 x1 x2 x3 x4=[y0,y1,y2,y3,y4]∧y0<9223372036854775808∧y1<9223372036854775808∧y2<9223372036854775808∧y3<9223372036854775808∧y4<9223372036854775808 ∧
   Yo y0 y1 y2 y3 y4=[z0,z1,z2,z3,z4]∧z0<2251799813685248+19∧z1<2251799813685248∧z2<2251799813685248∧z3<2251799813685248∧z4<2251799813685248∧(∃ k,v51 [z0,z1,z2,z3,z4]+k*Go.Fp.P=v51 [x0,x1,x2,x3,x4]):=by
 have key:∀ y0 y1 y2 y3 y4:Nat,y0<2251799813685248+19*8192→y1<2251799813685248→y2<2251799813685248→y3<2251799813685248→y4<2251799813685248→Yo x0 x1 x2 x3 x4=[y0,y1,y2,y3,y4] →
   ∃ z0 z1 z2 z3 z4,Yo y0 y1 y2 y3 y4=[z0,z1,z2,z3,z4]∧z0<2251799813685248+19∧z1<2251799813685248∧z2<2251799813685248∧z3<2251799813685248∧z4<2251799813685248∧(∃ k,v51 [z0,z1,z2,z3,z4]+k*Go.Fp.P=v51 [x0,x1,x2,x3,x4]):=by
  intro y0 y1 y2 y3 y4 b0 b1 b2 b3 b4 hy
  refine ⟨_,_,_,_,_,rfl,?_,Q3 _ (by decide),Q3 _ (by decide),Q3 _ (by decide),Q3 _ (by decide),?_⟩
  ·have c0:y0/2251799813685248≤1:=by omega
   have c1:(y1+y0/2251799813685248)/2251799813685248≤1:=by omega
   have c2:(y2+(y1+y0/2251799813685248)/2251799813685248)/2251799813685248≤1:=by omega
   have c3:(y3+(y2+(y1+y0/2251799813685248)/2251799813685248)/2251799813685248)/2251799813685248≤1:=by omega
   generalize (y3+(y2+(y1+y0/2251799813685248)/2251799813685248)/2251799813685248)/2251799813685248=c at *
   rcases Zq y0 2251799813685248 with h | h
   ·
    have d0:y0/2251799813685248=0:=by omega
    have c4:(y4+c)/2251799813685248≤1:=by omega
    have:=Q3 y0 (by decide:0<2251799813685248)
    omega
   ·have c4:(y4+c)/2251799813685248≤1:=by omega
    have:=Q3 y0 (by decide:0<2251799813685248)
    omega
  ·obtain ⟨k1,e1⟩:=GP (x0:=y0) (x1:=y1) (x2:=y2) (x3:=y3) (x4:=y4)
   obtain ⟨k2,e2⟩:=GP (x0:=x0) (x1:=x1) (x2:=x2) (x3:=x3) (x4:=x4)
   rw [hy] at e2
   refine ⟨k1+k2,?_⟩
   rw [Zu,←Zh,←e2,←e1]
   rfl
 have c0:x0/2251799813685248<8192:=by omega
 have c1:(x1+x0/2251799813685248)/2251799813685248<8192:=by omega
 have c2:(x2+(x1+x0/2251799813685248)/2251799813685248)/2251799813685248<8192:=by omega
 have c3:(x3+(x2+(x1+x0/2251799813685248)/2251799813685248)/2251799813685248)/2251799813685248<8192:=by omega
 have c4:(x4+(x3+(x2+(x1+x0/2251799813685248)/2251799813685248)/2251799813685248)/2251799813685248)/2251799813685248<8192:=by omega
 have m0:=Q3 x0 (by decide:0<2251799813685248)
 have m1:=Q3 (x1+x0/2251799813685248) (by decide:0<2251799813685248)
 have m2:=Q3 (x2+(x1+x0/2251799813685248)/2251799813685248) (by decide:0<2251799813685248)
 have m3:=Q3 (x3+(x2+(x1+x0/2251799813685248)/2251799813685248)/2251799813685248) (by decide:0<2251799813685248)
 have m4:=Q3 (x4+(x3+(x2+(x1+x0/2251799813685248)/2251799813685248)/2251799813685248)/2251799813685248) (by decide:0<2251799813685248)
 obtain ⟨z0,z1,z2,z3,z4,g1,g2⟩:=key _ _ _ _ _ (by
  generalize (x4+(x3+(x2+(x1+x0/2251799813685248)/2251799813685248)/2251799813685248)/2251799813685248)/2251799813685248=c at *
  generalize x0%2251799813685248=r at *
  show r+19*c<_
  omega) m1 m2 m3 m4 rfl
 refine ⟨_,_,_,_,_,z0,z1,z2,z3,z4,rfl,?_,Kq m1 (by decide),Kq m2 (by decide),Kq m3 (by decide),Kq m4 (by decide),g1,g2⟩
 generalize (x4+(x3+(x2+(x1+x0/2251799813685248)/2251799813685248)/2251799813685248)/2251799813685248)/2251799813685248=c at *
 generalize x0%2251799813685248=r at *
 show r+19*c<_
 omega
def Am (z0 z1 z2 z3 z4:Nat):Nat:=(z4+(z3+(z2+(z1+(z0+19)/2251799813685248)/2251799813685248)/2251799813685248)/2251799813685248)/2251799813685248
def OV (z0 z1 z2 z3 z4:Nat):List Nat :=
 let u0:=z0/2251799813685248
 let u1:=(z1+u0)/2251799813685248
 let u2:=(z2+u1)/2251799813685248
 let u3:=(z3+u2)/2251799813685248
 [z0%2251799813685248,(z1+u0)%2251799813685248,(z2+u1)%2251799813685248,(z3+u2)%2251799813685248,(z4+u3)%2251799813685248]
theorem gO {z0 z1 z2 z3 z4:Nat} (h0:z0<2251799813685248+19) (h1:z1<2251799813685248) (h2:z2<2251799813685248) (h3:z3<2251799813685248) (h4:z4<2251799813685248) :
  Am z0 z1 z2 z3 z4≤1∧OV (z0+19*Am z0 z1 z2 z3 z4) z1 z2 z3 z4=dig (2^51) 5 (v51 [z0,z1,z2,z3,z4]%Go.Fp.P):=by
 have hc:Am z0 z1 z2 z3 z4≤1∧((Am z0 z1 z2 z3 z4=0∧v51 [z0,z1,z2,z3,z4]<Go.Fp.P)∨(Am z0 z1 z2 z3 z4=1∧Go.Fp.P≤v51 [z0,z1,z2,z3,z4])):=by
  simp only [Am,v51,num,Go.Fp.UL]
  obtain ⟨r0,e0,-,l0⟩:=dm (z0+19) 2251799813685248
  generalize (z0+19)/2251799813685248=t0 at *
  obtain ⟨r1,e1,-,l1⟩:=dm (z1+t0) 2251799813685248
  generalize (z1+t0)/2251799813685248=t1 at *
  obtain ⟨r2,e2,-,l2⟩:=dm (z2+t1) 2251799813685248
  generalize (z2+t1)/2251799813685248=t2 at *
  obtain ⟨r3,e3,-,l3⟩:=dm (z3+t2) 2251799813685248
  generalize (z3+t2)/2251799813685248=t3 at *
  obtain ⟨r4,e4,-,l4⟩:=dm (z4+t3) 2251799813685248
  generalize (z4+t3)/2251799813685248=t4 at *
  have l0:=l0 (by decide)
  have l1:=l1 (by decide)
  have l2:=l2 (by decide)
  have l3:=l3 (by decide)
  have l4:=l4 (by decide)
  omega
 have hP:=Go.Fp.UL
 obtain ⟨hc1,hc2⟩:=hc
 refine ⟨hc1,?_⟩
 generalize Am z0 z1 z2 z3 z4=c at *
 have hlt:∀ x∈OV (z0+19*c) z1 z2 z3 z4,x<2251799813685248:=by
  intro x hx
  simp only [OV,Jw,JA,or_false] at hx
  rcases hx with h | h | h | h | h<;>(rw [h]; exact Q3 _ (by decide))
 have hnum:num 2251799813685248 (OV (z0+19*c) z1 z2 z3 z4)=v51 [z0,z1,z2,z3,z4]%Go.Fp.P:=by
  have hV:v51 [z0,z1,z2,z3,z4]%Go.Fp.P=v51 [z0,z1,z2,z3,z4]-c*Go.Fp.P:=by
   rcases hc2 with ⟨g1,g2⟩ | ⟨g1,g2⟩
   ·rw [QB g2,g1]; omega
   ·have g3:v51 [z0,z1,z2,z3,z4]<Go.Fp.P+Go.Fp.P:=by
     simp only [v51,num,Go.Fp.UL] at *
     omega
    rw [g1,X4,Nat.mod_eq_sub_mod g2,QB (by omega)]
  rw [hV]
  simp only [OV,v51,num,Go.Fp.UL] at hc2 ⊢
  obtain ⟨r0,e0,f0,l0⟩:=dm (z0+19*c) 2251799813685248
  rw [f0]
  generalize (z0+19*c)/2251799813685248=t0 at *
  obtain ⟨r1,e1,f1,l1⟩:=dm (z1+t0) 2251799813685248
  rw [f1]
  generalize (z1+t0)/2251799813685248=t1 at *
  obtain ⟨r2,e2,f2,l2⟩:=dm (z2+t1) 2251799813685248
  rw [f2]
  generalize (z2+t1)/2251799813685248=t2 at *
  obtain ⟨r3,e3,f3,l3⟩:=dm (z3+t2) 2251799813685248
  rw [f3]
  generalize (z3+t2)/2251799813685248=t3 at *
  obtain ⟨r4,e4,f4,l4⟩:=dm (z4+t3) 2251799813685248
  rw [f4]
  generalize (z4+t3)/2251799813685248=t4 at *
  have l0:=l0 (by decide)
  have l1:=l1 (by decide)
  have l2:=l2 (by decide)
  have l3:=l3 (by decide)
  have l4:=l4 (by decide)
  rcases hc2 with ⟨g1,g2⟩ | ⟨g1,g2⟩<;>subst g1<;>omega
 have h5:=WH (B:=2251799813685248) (by decide) hlt
 rw [hnum] at h5
 exact h5.symm
def byX (V i:Nat):List Nat:=dig (2^8) 32 (V%2^i)
def Cd (x k:List Nat) (R:Ob) (i:Nat) (ex:Env):St:=⟨[(1,.pointer (some ⟨0,0,none⟩)),(2,.pointer (some ⟨1,0,none⟩)),(6,.pointer (some ⟨2,0,none⟩)),(54,.int .i64 i)]++ex,[⟨ns .u64 x,true,true,true,1⟩,R,⟨u8s k,true,true,true,1⟩],[]⟩
theorem cM (hi:i<255) :
  Q8 T 0 Dm (Cd (dig (2^51) 5 V) (byX V i) R i [])=some (.normal,Cd (dig (2^51) 5 V) (byX V (i+1)) R (i+1) []):=by
 obtain ⟨b,hb⟩:∃ b,(dig (2^51) 5 V)[i/51]?=some b:=⟨_,Qh (by rw [Zt]; omega)⟩
 have hbv:V/(2^51)^(i/51)%2^51=b:=by rw [Vr (by omega)] at hb; exact Xk hb
 have hbc:=Jn (k := .u64) hb
 have hlen:(byX V i).length=32:=Zt _ _ _
 obtain ⟨y,hy⟩:∃ b,(byX V i)[i/8]?=some b:=⟨_,Qh (by omega)⟩
 have hyc:=Jr hy
 have hy':y<2^8:=KP (by decide) (Qz hy)
 have hbit:b/2^(i%51)%2=V/2^i%2:=by
  rw [←hbv,Nr (Q3 _ (by decide)),ZK]
 have hsm:(2:Nat)^(i%8)≤2^7:=Zn (by decide) (by have:=Q3 i (by decide:0<8); omega)
 have hbl:=R8 V i
 have hprod:V/2^i%2*2^(i%8)≤1*2^7:=JJ (by omega) hsm
 have hput:=Md (w:=8) (m:=32) (q:=i/8) (s:=i%8) (y:=V/2^i%2) (M:=V%2^i) (by omega) (Q3 _ (by decide)) (by rw [ZK]; exact Q3 _ (JT (by decide))) (by omega)
 rw [ZK,Fy] at hput
 have hgd:(dig (2^8) 32 (V%2^i)).getD (i/8) 0=y:=by rw [Qx]; unfold byX at hy; rw [hy]; rfl
 rw [hgd] at hput
 have hset:=XC (byX V i) (i/8) (y|||V/2^i%2*2^(i%8))
 rw [show (byX V i).set (i/8) (y|||V/2^i%2*2^(i%8))=byX V (i+1) from hput] at hset
 have s1:(2:Int)^min (i%8) IntKind.u8.bits=((2^(i%8):Nat):Int):=W2 (Xf (Q3 _ (by decide)))
 have s2:(2:Int)^min (i%51) IntKind.u64.bits=((2^(i%51):Nat):Int):=W2 (by have:=Q3 i (by decide:0<51); exact Jf (Xf this) (by decide))
 have o1:Zo .or .u8 (y:Int) ((V/2^i%2*2^(i%8):Nat):Int)=((y|||V/2^i%2*2^(i%8):Nat):Int):=K7 rfl (by show _<256; omega) (by show _<256; omega)
 have n1:(V/2^i%2*2^(i%8))%256=V/2^i%2*2^(i%8):=by omega
 have n2:(V/2^i%2)%256=V/2^i%2:=by omega
 have w1:IntKind.i64.wrap ((i/51:Nat):Int)=((i/51:Nat):Int):=Jb (by omega)
 have w2:IntKind.i64.wrap ((i/8:Nat):Int)=((i/8:Nat):Int):=Jb (by omega)
 have w3:IntKind.i64.wrap ((i+1:Nat):Int)=((i+1:Nat):Int):=Jb (by omega)
 have e1:((i:Int)<255)=True:=eq_true (by omega)
 have e2:(((i/51:Nat):Int)<5)=True:=eq_true (by omega)
 have e3:(((i/8:Nat):Int)<32)=True:=eq_true (by omega)
 have e4:(((i%8:Nat):Int)<0)=False:=eq_false (by omega)
 have e5:(((i%51:Nat):Int)<0)=False:=eq_false (by omega)
 have e6:i/8+1≤32:=by omega
 simp only [Cd,Dm,Q1,quiet,cF,Jx,Z7,↓pQ,reduceCtorEq,seval,-Qb,cL,cJ,cU,hbc,hyc,hbit,s1,s2,o1,n1,n2,w1,w2,w3,e1,e2,e3,e4,e5,e6,hset,Qp,hlen]
theorem Ps (hV:V<2^255):Q8 T 0 (.block 4 (.loop Dm)) (Cd (dig (2^51) 5 V) (dig 256 32 0) R 0 [])=some (.normal,Cd (dig (2^51) 5 V) (dig 256 32 V) R 255 [(55,.bool false)]):=by
 have hb:=XA (T:=T) (base:=0) (id:=4) (body:=Dm) (fun i=>Cd (dig (2^51) 5 V) (byX V i) R i []) (s':=Cd (dig (2^51) 5 V) (byX V 255) R 255 [(55,.bool false)]) 255 (fun i hi=>cM hi) (by
  simp only [Cd,Dm,Q1,quiet,cF,Jx,Z7,↓pQ,reduceCtorEq,seval,-Qb,cL])
 rw [show byX V 0=dig 256 32 0 from by unfold byX; rw [Xe,oH],show byX V 255=dig 256 32 V from by unfold byX; rw [QB hV]] at hb
 exact hb
theorem Pq (h0:x0<9223372036854775808) (h1:x1<9223372036854775808) (h2:x2<9223372036854775808) (h3:x3<9223372036854775808) (h4:x4<9223372036854775808) :
  Z9 T 126 [eV [x0,x1,x2,x3,x4]]=some (.agg (u8s (dig 256 32 (v51 [x0,x1,x2,x3,x4]%Go.Fp.P))).toArray):=by
 obtain ⟨y0,y1,y2,y3,y4,z0,z1,z2,z3,z4,hy,a0,a1,a2,a3,a4,hz,b0,b1,b2,b3,b4,⟨kk,hk⟩⟩:=Po h0 h1 h2 h3 h4
 have hV:v51 [x0,x1,x2,x3,x4]%Go.Fp.P=v51 [z0,z1,z2,z3,z4]%Go.Fp.P:=by rw [←hk,Nat.add_mul_mod_self_right]
 obtain ⟨hc,hfin⟩:=gO b0 b1 b2 b3 b4
 have c1:=Wn h0 h1 h2 h3 h4
 have c2:=Wn a0 a1 a2 a3 a4
 rw [hy] at c1
 rw [hz] at c2
 have hN:v51 [z0,z1,z2,z3,z4]%Go.Fp.P<2^255:=Kq (Q3 _ (by decide)) (by rw [Go.Fp.UL]; decide)
 have hb:=Ps (R:=⟨u8s (dig 256 32 0),true,true,true,1⟩) hN
 rw [hV]
 generalize v51 [z0,z1,z2,z3,z4]%Go.Fp.P=N at *
 have hz5:Qc 5 (Value.int .u64 0)=[.int .u64 0,.int .u64 0,.int .u64 0,.int .u64 0,.int .u64 0]:=rfl
 have hz32:Qc 32 (Value.int .u8 0)=u8s (dig 256 32 0):=rfl
 have hr5:∀ a b c d e:Int,rf (.agg [.int .u64 a,.int .u64 b,.int .u64 c,.int .u64 d,.int .u64 e].toArray)=true:=fun _ _ _ _ _=>rfl
 have hlk:(dig 256 32 N).length=32:=Zt _ _ _
 have hl0:(dig 256 32 0).length=32:=rfl
 have f0:(z0+19)%18446744073709551616=z0+19:=by omega
 have f1:(z1+(z0+19)/2251799813685248)%18446744073709551616=z1+(z0+19)/2251799813685248:=by omega
 have f2:(z2+(z1+(z0+19)/2251799813685248)/2251799813685248)%18446744073709551616=z2+(z1+(z0+19)/2251799813685248)/2251799813685248:=by
  generalize (z1+(z0+19)/2251799813685248)=t at *; omega
 have f3:(z3+(z2+(z1+(z0+19)/2251799813685248)/2251799813685248)/2251799813685248)%18446744073709551616=z3+(z2+(z1+(z0+19)/2251799813685248)/2251799813685248)/2251799813685248:=by
  have:(z2+(z1+(z0+19)/2251799813685248)/2251799813685248)/2251799813685248<2251799813685248:=by omega
  generalize (z2+(z1+(z0+19)/2251799813685248)/2251799813685248)/2251799813685248=t at *; omega
 have f4:(z4+(z3+(z2+(z1+(z0+19)/2251799813685248)/2251799813685248)/2251799813685248)/2251799813685248)%18446744073709551616=z4+(z3+(z2+(z1+(z0+19)/2251799813685248)/2251799813685248)/2251799813685248)/2251799813685248:=by
  have:(z2+(z1+(z0+19)/2251799813685248)/2251799813685248)/2251799813685248<2251799813685248:=by omega
  generalize (z2+(z1+(z0+19)/2251799813685248)/2251799813685248)/2251799813685248=t at *; omega
 have ft:(z4+(z3+(z2+(z1+(z0+19)/2251799813685248)/2251799813685248)/2251799813685248)/2251799813685248)/2251799813685248=Am z0 z1 z2 z3 z4:=rfl
 generalize Am z0 z1 z2 z3 z4=c at *
 have g0:19*c%18446744073709551616=19*c:=by omega
 have g1:(z0+19*c)%18446744073709551616=z0+19*c:=by omega
 have g2:(z0+19*c+0)%18446744073709551616=z0+19*c:=by omega
 have k0:(z0+19*c)/2251799813685248<8:=by omega
 have g3:(z1+(z0+19*c)/2251799813685248)%18446744073709551616=z1+(z0+19*c)/2251799813685248:=by omega
 have k1:(z1+(z0+19*c)/2251799813685248)/2251799813685248<8:=by omega
 have g4:(z2+(z1+(z0+19*c)/2251799813685248)/2251799813685248)%18446744073709551616=z2+(z1+(z0+19*c)/2251799813685248)/2251799813685248:=by
  generalize (z1+(z0+19*c)/2251799813685248)/2251799813685248=t at *; omega
 have k2:(z2+(z1+(z0+19*c)/2251799813685248)/2251799813685248)/2251799813685248<8:=by
  generalize (z1+(z0+19*c)/2251799813685248)/2251799813685248=t at *; omega
 have g5:(z3+(z2+(z1+(z0+19*c)/2251799813685248)/2251799813685248)/2251799813685248)%18446744073709551616=z3+(z2+(z1+(z0+19*c)/2251799813685248)/2251799813685248)/2251799813685248:=by
  generalize (z2+(z1+(z0+19*c)/2251799813685248)/2251799813685248)/2251799813685248=t at *; omega
 have k3:(z3+(z2+(z1+(z0+19*c)/2251799813685248)/2251799813685248)/2251799813685248)/2251799813685248<8:=by
  generalize (z2+(z1+(z0+19*c)/2251799813685248)/2251799813685248)/2251799813685248=t at *; omega
 have g6:(z4+(z3+(z2+(z1+(z0+19*c)/2251799813685248)/2251799813685248)/2251799813685248)/2251799813685248)%18446744073709551616=z4+(z3+(z2+(z1+(z0+19*c)/2251799813685248)/2251799813685248)/2251799813685248)/2251799813685248:=by
  generalize (z3+(z2+(z1+(z0+19*c)/2251799813685248)/2251799813685248)/2251799813685248)/2251799813685248=t at *; omega
 rw [←hfin] at hb
 simp only [eV,Y5,Uu] at c1 c2 ⊢
 simp only [Cd,OV,Y5,Uu,Qw,Qr,Zx] at hb
 apply ZI (fn:=a57) rfl
 have u0:=fun s=>@JB T 0 RG s
 have u1:=fun s=>@JB T 0 RH s
 have v0:=fun s=>@Js T 0 0 (.loop RG) s
 have v1:=fun s=>@Js T 0 2 (.loop RH) s
 have d0:∀ s,Q8 T 0 RG s=Q8 T 0 _ s:=fun s=>congrArg (fun c=>Q8 T 0 c s) RG.eq_1
 have d1:∀ s,Q8 T 0 RH s=Q8 T 0 _ s:=fun s=>congrArg (fun c=>Q8 T 0 c s) RH.eq_1
 simp only [a57,Q1,quiet,cF,Jx,Z7,↓pQ,reduceCtorEq,seval,-Qb,cL,cJ,cU,hz5,hz32,c1,c2,hr5,u0,u1,v0,v1,d0,d1,f0,f1,f2,f3,f4,ft,g0,g1,g2,g3,g4,g5,g6,hb,Qp,hlk,hl0]
 rfl
theorem key_inj {a b:Nat} (ha:a<256^32) (hb:b<256^32):(dig 256 32 a==dig 256 32 b)=decide (a=b):=by
 by_cases h:a=b
 ·subst h; simp
 ·have:¬ dig 256 32 a=dig 256 32 b:=fun he=>h (by
   have h1:=congrArg (num 256) he
   rwa [XV (by decide),XV (by decide),QB ha,QB hb] at h1)
  rw [decide_eq_false h,beq_eq_false_iff_ne.2 this]
theorem P_lt:Go.Fp.P<256^32:=by rw [Go.Fp.UL]; decide
theorem mN (l:List Nat):(fe l).val=v51 l%Go.Fp.P:=rfl
theorem Bd {l:List Nat} (h:El l (2^52)):Z9 T 126 [eV l]=some (.agg (u8s (dig 256 32 (fe l).val)).toArray):=by
 obtain ⟨x0,x1,x2,x3,x4,rfl,a0,a1,a2,a3,a4⟩:=h.five
 exact Pq (by omega) (by omega) (by omega) (by omega) (by omega)
theorem kv (a:Go.Fp.Fe):a.val<256^32:=Kq a.isLt P_lt
theorem bV (a b:Go.Fp.Fe):(dig 256 32 a.val==dig 256 32 b.val)=decide (a=b):=by
 rw [key_inj (kv a) (kv b)]
 by_cases h:a=b
 ·subst h; simp
 ·have:¬ a.val=b.val:=fun he=>h (Fin.ext he)
  rw [decide_eq_false h,decide_eq_false this]
theorem QW (l:List Nat):(eV l).cells.toList=ns .u64 l:=rfl
theorem Zf (l:List Nat):(eV l).cells.size=l.length:=QP _ _
theorem ZU (l:List Nat):okVar (eV l)=true:=rfl
theorem Zg (l:List Nat):Value.agg (ns .u64 l).toArray=eV l:=rfl
theorem gU {x y:List Nat} (hx:El x (2^52)) (hy:El y (2^52)):Z9 T 177 [eV x,eV y]=some (.bool (decide (fe x=fe y))):=by
 have h1:=Bd hx
 have h2:=Bd hy
 have l1:=hx.len
 have l2:=hy.len
 apply ZI (fn:=a55) rfl
 simp only [a55,Q1,quiet,cF,Jx,Z7,↓pQ,reduceCtorEq,seval,-Qb,cL,cJ,QW,Zf,ZU,Zg,QP,l1,l2,h1,h2,Ve,Zt,bV,ZX]
 rfl
theorem bm {x:List Nat} (hx:El x (2^52)):Z9 T 114 [eV x]=some (.bool (decide (fe x=0))):=by
 have h1:=Bd hx
 have l1:=hx.len
 have f0:fillL (Qc 32 (Value.int .u8 0)) []=some (u8s (dig 256 32 (0:Go.Fp.Fe).val)):=rfl
 apply ZI (fn:=a63) rfl
 simp only [a63,Q1,quiet,cF,Jx,Z7,↓pQ,reduceCtorEq,seval,-Qb,cL,cJ,QW,Zf,ZU,Zg,QP,l1,h1,f0,Ve,Zt,bV,ZX]
 rfl
theorem aT {x:List Nat} (hx:El x (2^52)):Z9 T 127 [eV x]=some (.bool (decide ((fe x).val%2=1))):=by
 have h1:=Bd hx
 have l1:=hx.len
 have h0:(u8s (dig 256 32 (fe x).val))[0]?=some (.int .u8 (((fe x).val%256:Nat):Int)):=by
  apply Jr
  rw [Vr (by decide),Xe,XI]
 have hm:(fe x).val%256%2=(fe x).val%2:=by omega
 have hd:((((fe x).val%2:Nat):Int)==1)=decide ((fe x).val%2=1):=by
  by_cases h:(fe x).val%2=1
  ·rw [h]; rfl
  ·have:¬ ((((fe x).val%2:Nat):Int)=1):=by omega
   rw [decide_eq_false h,beq_eq_false_iff_ne.2 this]
 apply ZI (fn:=a58) rfl
 simp only [a58,Q1,quiet,cF,Jx,Z7,↓pQ,reduceCtorEq,seval,-Qb,cL,cJ,cU,QW,Zf,ZU,Zg,QP,l1,h1,h0,hm,hd,Qp,Zt,ZX]
 rfl
theorem Ft {k:List Nat} (lk:k.length=32) (xk:∀ x∈k,x<256):Z9 T 107 [.agg (u8s k).toArray]=some (.bool (decide (num 256 k<Go.Fp.P))):=by
 have h0:=aS lk xk
 have hel:=Eo (V:=num 256 k%2^255)
 have h1:=Bd hel
 rw [mN,Rb] at h1
 have hb:(dig 256 32 (num 256 k%2^255%Go.Fp.P)==k)=decide (num 256 k<Go.Fp.P):=by
  have hk:=WH (B:=256) (by decide) xk
  rw [lk] at hk
  have hkl:=num_lt xk
  rw [lk] at hkl
  rw [show (dig 256 32 (num 256 k%2^255%Go.Fp.P)==k)=(dig 256 32 (num 256 k%2^255%Go.Fp.P)==dig 256 32 (num 256 k)) from by rw [hk]]
  have hP:=Go.Fp.UL
  rw [key_inj (Kq (Q3 _ (by rw [hP]; decide)) P_lt) hkl]
  by_cases h:num 256 k<Go.Fp.P
  ·rw [decide_eq_true h,QB (a:=num 256 k) (by rw [hP] at h; omega),QB h]; simp
  ·rw [decide_eq_false h,decide_eq_false]
   have:=Q3 (num 256 k%2^255) (show 0<Go.Fp.P by rw [hP]; decide)
   omega
 apply ZI (fn:=a59) rfl
 simp only [a59,Q1,quiet,cF,Jx,Z7,↓pQ,reduceCtorEq,seval,-Qb,cL,cJ,QW,Zf,ZU,Zg,QP,Qp,lk,h0,h1,Ve,Zt,hb,ZX]
 rfl
theorem Np (h0:x0<2^60) (h1:x1<2^60) (h2:x2<2^60) (h3:x3<2^60) (h4:x4<2^60):El (Yo x0 x1 x2 x3 x4) (2^52):=by
 simp only [Yo]
 have c0:x0/2251799813685248<1024:=by omega
 have c1:(x1+x0/2251799813685248)/2251799813685248<1024:=by omega
 have c2:(x2+(x1+x0/2251799813685248)/2251799813685248)/2251799813685248<1024:=by omega
 have c3:(x3+(x2+(x1+x0/2251799813685248)/2251799813685248)/2251799813685248)/2251799813685248<1024:=by omega
 have c4:(x4+(x3+(x2+(x1+x0/2251799813685248)/2251799813685248)/2251799813685248)/2251799813685248)/2251799813685248<1024:=by omega
 have m0:=Q3 x0 (by decide:0<2251799813685248)
 apply El.mk5
 ·generalize (x4+(x3+(x2+(x1+x0/2251799813685248)/2251799813685248)/2251799813685248)/2251799813685248)/2251799813685248=c at *
  omega
 all_goals exact Kq (Q3 _ (by decide)) (by decide)
theorem No:fe (Yo x0 x1 x2 x3 x4)=fe [x0,x1,x2,x3,x4]:=by
 obtain ⟨k,hk⟩:=GP (x0:=x0) (x1:=x1) (x2:=x2) (x3:=x3) (x4:=x4)
 exact ku hk
theorem Dt {x y:List Nat} (hx:El x (2^52)) (hy:El y (2^52)):∃ r,Z9 T 110 [eV x,eV y]=some (eV r)∧El r (2^52)∧fe r=fe x-fe y:=by
 obtain ⟨x0,x1,x2,x3,x4,rfl,a0,a1,a2,a3,a4⟩:=hx.five
 obtain ⟨y0,y1,y2,y3,y4,rfl,b0,b1,b2,b3,b4⟩:=hy.five
 refine ⟨Yo (x0+(9007199254740988-y0)-72) (x1+(9007199254740988-y1)) (x2+(9007199254740988-y2)) (x3+(9007199254740988-y3)) (x4+(9007199254740988-y4)),?_,Np (by omega) (by omega) (by omega) (by omega) (by omega),?_⟩
 ·have s0:(9007199254740988+(18446744073709551616-y0%18446744073709551616))%18446744073709551616=9007199254740988-y0:=by omega
  have s1:(9007199254740988+(18446744073709551616-y1%18446744073709551616))%18446744073709551616=9007199254740988-y1:=by omega
  have s2:(9007199254740988+(18446744073709551616-y2%18446744073709551616))%18446744073709551616=9007199254740988-y2:=by omega
  have s3:(9007199254740988+(18446744073709551616-y3%18446744073709551616))%18446744073709551616=9007199254740988-y3:=by omega
  have s4:(9007199254740988+(18446744073709551616-y4%18446744073709551616))%18446744073709551616=9007199254740988-y4:=by omega
  have t0:(x0+(9007199254740988-y0))%18446744073709551616=x0+(9007199254740988-y0):=by omega
  have t1:(x1+(9007199254740988-y1))%18446744073709551616=x1+(9007199254740988-y1):=by omega
  have t2:(x2+(9007199254740988-y2))%18446744073709551616=x2+(9007199254740988-y2):=by omega
  have t3:(x3+(9007199254740988-y3))%18446744073709551616=x3+(9007199254740988-y3):=by omega
  have t4:(x4+(9007199254740988-y4))%18446744073709551616=x4+(9007199254740988-y4):=by omega
  have r0:(x0+(9007199254740988-y0)+18446744073709551544)%18446744073709551616=x0+(9007199254740988-y0)-72:=by omega
  have c1:=Wn (x0:=x0+(9007199254740988-y0)-72) (x1:=x1+(9007199254740988-y1)) (x2:=x2+(9007199254740988-y2)) (x3:=x3+(9007199254740988-y3)) (x4:=x4+(9007199254740988-y4)) (by omega) (by omega) (by omega) (by omega) (by omega)
  have hl:(Yo (x0+(9007199254740988-y0)-72) (x1+(9007199254740988-y1)) (x2+(9007199254740988-y2)) (x3+(9007199254740988-y3)) (x4+(9007199254740988-y4))).length=5:=rfl
  generalize Yo (x0+(9007199254740988-y0)-72) (x1+(9007199254740988-y1)) (x2+(9007199254740988-y2)) (x3+(9007199254740988-y3)) (x4+(9007199254740988-y4))=C at *
  have hz5:Qc 5 (Value.int .u64 0)=[.int .u64 0,.int .u64 0,.int .u64 0,.int .u64 0,.int .u64 0]:=rfl
  have hr5:∀ a b c d e:Int,rf (.agg [.int .u64 a,.int .u64 b,.int .u64 c,.int .u64 d,.int .u64 e].toArray)=true:=fun _ _ _ _ _=>rfl
  have u0:=fun s=>@JB T 0 RF s
  have v0:=fun s=>@Js T 0 0 (.loop RF) s
  have d0:∀ s,Q8 T 0 RF s=Q8 T 0 _ s:=fun s=>congrArg (fun c=>Q8 T 0 c s) RF.eq_1
  have hrC:rf (.agg (ns .u64 C).toArray)=true:=LA _ _
  simp only [eV,Y5,Uu] at c1 ⊢
  apply ZI (fn:=a61) rfl
  simp only [a61,Q1,quiet,cF,Jx,Z7,↓pQ,reduceCtorEq,seval,-Qb,cL,cJ,cU,hz5,c1,hr5,u0,v0,d0,s0,s1,s2,s3,s4,t0,t1,t2,t3,t4,r0,QP,hl,hrC]
  rfl
 ·rw [No]
  have e:v51 [x0+(9007199254740988-y0)-72,x1+(9007199254740988-y1),x2+(9007199254740988-y2),x3+(9007199254740988-y3),x4+(9007199254740988-y4)]+v51 [y0,y1,y2,y3,y4]=v51 [x0,x1,x2,x3,x4]+4*Go.Fp.P:=by
   simp only [v51,num,Go.Fp.UL]
   omega
  have h:=congrArg Go.Fp.fp e
  rw [Go.Fp.Vd,Go.Fp.Vd,Go.Fp.Nf] at h
  unfold fe
  grobner
theorem TH {x:List Nat} (hx:El x (2^52)):∃ r,Z9 T 115 [eV x]=some (eV r)∧El r (2^52)∧fe r = -fe x:=by
 have hz:=Gj (n:=0) (by decide)
 obtain ⟨r,h1,h2,h3⟩:=Dt hz hx
 refine ⟨r,?_,h2,?_⟩
 ·have f0:fillL (ns .u64 [0,0,0,0,0]) []=some (ns .u64 [0,0,0,0,0]):=rfl
  have hz5:Qc 5 (Value.int .u64 0)=ns .u64 [0,0,0,0,0]:=rfl
  have l1:=hx.len
  have l2:=h2.len
  have l0:(ns .u64 [0,0,0,0,0]).length=5:=rfl
  apply ZI (fn:=a64) rfl
  simp only [a64,Q1,quiet,cF,Jx,Z7,↓pQ,reduceCtorEq,seval,-Qb,cL,cJ,f0,hz5,h1,QW,Zf,ZU,Zg,QP,l0,l1,l2,ZX]
  rfl
 ·rw [h3,Gi,Go.Fp.gN]; grobner
def FU (x y:List Nat):Ob:=⟨ns .u64 (x++y),true,true,true,1⟩
set_option maxHeartbeats 2000000 in
theorem YD {H:List Ob} {id:Nat} {x y:List Nat} (hx:El x (2^52)) (hy:El y (2^52)) (h:H[id]?=some (FU x y)):∃ r s,Zb T 112 [.slice (some ⟨id,0,none⟩) 2 2] H=some (eV r,H++[⟨ns .u64 r,true,true,true,1⟩,⟨ns .u64 s,true,true,true,1⟩,⟨ns .u64 x,true,true,true,1⟩,⟨ns .u64 y,true,true,true,1⟩],[])∧El r (2^52)∧fe r=fe x+fe y:=by
 have hid:id<H.length:=(Qf.1 h).1
 have hA:∀ l,(H++l)[id]?=some (FU x y):=fun l=>by rw [Qa hid]; exact h
 obtain ⟨x0,x1,x2,x3,x4,rfl,a0,a1,a2,a3,a4⟩:=hx.five
 obtain ⟨y0,y1,y2,y3,y4,rfl,b0,b1,b2,b3,b4⟩:=hy.five
 refine ⟨Yo (x0+y0) (x1+y1) (x2+y2) (x3+y3) (x4+y4),[x0+y0,x1+y1,x2+y2,x3+y3,x4+y4],?_,Np (by omega) (by omega) (by omega) (by omega) (by omega),?_⟩
 ·have s0:(0+x0)%18446744073709551616=x0:=by omega
  have s1:(0+x1)%18446744073709551616=x1:=by omega
  have s2:(0+x2)%18446744073709551616=x2:=by omega
  have s3:(0+x3)%18446744073709551616=x3:=by omega
  have s4:(0+x4)%18446744073709551616=x4:=by omega
  have q0:x0%18446744073709551616=x0:=by omega
  have q1:x1%18446744073709551616=x1:=by omega
  have q2:x2%18446744073709551616=x2:=by omega
  have q3:x3%18446744073709551616=x3:=by omega
  have q4:x4%18446744073709551616=x4:=by omega
  have t0:(x0+y0)%18446744073709551616=x0+y0:=by omega
  have t1:(x1+y1)%18446744073709551616=x1+y1:=by omega
  have t2:(x2+y2)%18446744073709551616=x2+y2:=by omega
  have t3:(x3+y3)%18446744073709551616=x3+y3:=by omega
  have t4:(x4+y4)%18446744073709551616=x4+y4:=by omega
  have c1:=Wn (x0:=x0+y0) (x1:=x1+y1) (x2:=x2+y2) (x3:=x3+y3) (x4:=x4+y4) (by omega) (by omega) (by omega) (by omega) (by omega)
  have hl:(Yo (x0+y0) (x1+y1) (x2+y2) (x3+y3) (x4+y4)).length=5:=rfl
  generalize Yo (x0+y0) (x1+y1) (x2+y2) (x3+y3) (x4+y4)=C at *
  have hz5:Qc 5 (Value.int .u64 0)=[.int .u64 0,.int .u64 0,.int .u64 0,.int .u64 0,.int .u64 0]:=rfl
  have hr5:∀ a b c d e:Int,rf (.agg [.int .u64 a,.int .u64 b,.int .u64 c,.int .u64 d,.int .u64 e].toArray)=true:=fun _ _ _ _ _=>rfl
  have u0:=fun s=>@JB T H.length RE s
  have v0:=fun s=>@Js T H.length 2 (.loop RE) s
  have d0:∀ s,Q8 T H.length RE s=Q8 T H.length _ s:=fun s=>congrArg (fun c=>Q8 T H.length c s) RE.eq_1
  have u1:=fun s=>@JB T H.length RD s
  have v1:=fun s=>@Js T H.length 0 (.loop RD) s
  have d1:∀ s,Q8 T H.length RD s=Q8 T H.length _ s:=fun s=>congrArg (fun c=>Q8 T H.length c s) RD.eq_1
  have hrC:rf (.agg (ns .u64 C).toArray)=true:=LA _ _
  have p1:∀ a b c d e f g i j k:Value,Q2 5 (Zr 0 [a,b,c,d,e,f,g,i,j,k])=[a,b,c,d,e]:=fun _ _ _ _ _ _ _ _ _ _=>rfl
  have p2:∀ a b c d e f g i j k:Value,Q2 5 (Zr 5 [a,b,c,d,e,f,g,i,j,k])=[f,g,i,j,k]:=fun _ _ _ _ _ _ _ _ _ _=>rfl
  simp only [eV,Y5,Uu] at c1 ⊢
  simp only [FU,Qw,Qr,Y5,Uu] at hA h
  rw [QD (fn:=a62) rfl]
  simp only [a62,Int.reduceBEq,Int.reduceBNe,Q1,quiet,cF,Jx,Z7,↓pQ,reduceCtorEq,seval,-Qb,cL,cJ,cU,h,hA,hz5,c1,hr5,u0,v0,d0,u1,v1,d1,p1,p2,s0,s1,s2,s3,s4,q0,q1,q2,q3,q4,t0,t1,t2,t3,t4,QP,hl,hrC]
 ·rw [No]
  have e:v51 [x0+y0,x1+y1,x2+y2,x3+y3,x4+y4]=v51 [x0,x1,x2,x3,x4]+v51 [y0,y1,y2,y3,y4]:=by
   simp only [v51,num]
   omega
  unfold fe
  rw [e,Go.Fp.Vd]
end Go.Ev.YtomfgcgnepfmjaaGreat
namespace Go.Ev.YtomfgcgnepfmjaaGreat
open Go Go.Ev
attribute [local congr] Jq J7 Jp J8 Je
set_option maxRecDepth 100000
variable {n i id less:Nat} {x o k:List Nat} {H:List Ob}
theorem part5 {a b c:List Nat} (hb:b.length=5) (ha:a.length=n):Q2 5 (Zr n (ns .u64 (a++(b++c))))=ns .u64 b:=by
 simp only [UT]
 rw [ZH (by rw [QP]; omega),Ju (by rw [QP]; omega),Qr,ZT (by rw [QP]; omega),Qu (by rw [QP]; omega)]
theorem NO {l:List Ob} {r R:List Nat} {cs:List Value} {g:List Ob} (hi:i<n) (hn:n<100) (hx:El x (2^52)) (ho:El o (2^52)) (hm:Z9 T 108 [eV o,eV x]=some (eV r)) (hr:El r (2^52))
 (hA:∀ l,(H++l)[id]?=some ⟨cs,true,true,true,1⟩) (hcs:(cs.drop (i*5)).take 5=ns .u64 x) (hlen:i*5+5≤cs.length) :
    Q8 T H.length RC ⟨[(2,.pointer (some ⟨H.length,0,none⟩)),(3,.pointer (some ⟨H.length+1,0,none⟩)),(7,.slice (some ⟨id,0,none⟩) n n),(8,.int .i64 n),(9,.int .i64 i)],H++(⟨ns .u64 R,true,true,true,1⟩::⟨ns .u64 o,true,true,true,1⟩::g),[]⟩ =
      some (.normal,⟨[(2,.pointer (some ⟨H.length,0,none⟩)),(3,.pointer (some ⟨H.length+1,0,none⟩)),(7,.slice (some ⟨id,0,none⟩) n n),(8,.int .i64 n),(9,.int .i64 ((i+1:Nat):Int))],H++(⟨ns .u64 R,true,true,true,1⟩::⟨ns .u64 r,true,true,true,1⟩::(g++[⟨ns .u64 x,true,true,true,1⟩])),[]⟩):=by
  have hz5:Qc 5 (Value.int .u64 0)=ns .u64 [0,0,0,0,0]:=rfl
  have l0:(ns .u64 [0,0,0,0,0]).length=5:=rfl
  have l1:=hx.len
  have l2:=ho.len
  have l3:=hr.len
  have e1:((i:Int)<(n:Int))=True:=eq_true (by omega)
  have w3:IntKind.i64.wrap ((i:Int)+1)=((i+1:Nat):Int):=Jb (n:=i+1) (by omega)
  simp only [RC,Q1,quiet,cF,Jx,Z7,↓pQ,reduceCtorEq,seval,-Qb,cL,cJ,Zh,hz5,hA,hcs,hlen,hm,QW,Zf,ZU,Zg,QP,l0,l1,l2,l3,ZX,e1,w3]
theorem HY:fe [1,0,0,0,0]=1:=by rw [Gi]; rfl
theorem HZ:El [1,0,0,0,0] (2^52):=Gj (by decide)
theorem W1 {xs:List (List Nat)} (hn:xs.length=n) (hN:n<100) (hx:∀ x∈xs,El x (2^52)) (h:H[id]?=some ⟨ns .u64 xs.flatten,true,true,true,1⟩) :
  ∃ r,Zb T 174 [.slice (some ⟨id,0,none⟩) n n] H=some (eV r,H++(⟨ns .u64 r,true,true,true,1⟩::⟨ns .u64 r,true,true,true,1⟩::xs.map fun x=>(⟨ns .u64 x,true,true,true,1⟩:Ob)),[])∧El r (2^52)∧fe r=(xs.map fe).foldl (· * ·) 1:=by
 have hid:id<H.length:=(Qf.1 h).1
 have hA:∀ l,(H++l)[id]?=some ⟨ns .u64 xs.flatten,true,true,true,1⟩:=fun l=>by rw [Qa hid]; exact h
 have hfl:∀ (ys:List (List Nat)),(∀ x∈ys,El x (2^52))→ys.flatten.length=ys.length*5:=by
  intro ys hy
  induction ys with
  | nil=>rfl
  | cons y ys ih =>
   rw [QI,Qg,ih (fun x hx=>hy x (by simp [hx])),(hy y (by simp)).len,Zm]; omega
 obtain ⟨st,hb,r,rfl,hr1,hr2⟩:=QZ (T:=T) (base:=H.length) (id:=0) (body:=RC)
  (fun i st=>∃ r:List Nat,st=⟨[(2,.pointer (some ⟨H.length,0,none⟩)),(3,.pointer (some ⟨H.length+1,0,none⟩)),(7,.slice (some ⟨id,0,none⟩) n n),(8,.int .i64 n),(9,.int .i64 (i:Nat))],H++(⟨ns .u64 [0,0,0,0,0],true,true,true,1⟩::⟨ns .u64 r,true,true,true,1⟩::((xs.take i).map fun x=>(⟨ns .u64 x,true,true,true,1⟩:Ob))),[]⟩∧El r (2^52)∧fe r=((xs.take i).map fe).foldl (· * ·) 1)
  (Q:=fun st=>∃ r:List Nat,st=⟨[(2,.pointer (some ⟨H.length,0,none⟩)),(3,.pointer (some ⟨H.length+1,0,none⟩)),(7,.slice (some ⟨id,0,none⟩) n n),(8,.int .i64 n),(9,.int .i64 n),(10,.bool false)],H++(⟨ns .u64 [0,0,0,0,0],true,true,true,1⟩::⟨ns .u64 r,true,true,true,1⟩::(xs.map fun x=>(⟨ns .u64 x,true,true,true,1⟩:Ob))),[]⟩∧El r (2^52)∧fe r=(xs.map fe).foldl (· * ·) 1)
  n (s:=⟨[(2,.pointer (some ⟨H.length,0,none⟩)),(3,.pointer (some ⟨H.length+1,0,none⟩)),(7,.slice (some ⟨id,0,none⟩) n n),(8,.int .i64 n),(9,.int .i64 0)],H++[⟨ns .u64 [0,0,0,0,0],true,true,true,1⟩,⟨ns .u64 [1,0,0,0,0],true,true,true,1⟩],[]⟩) ⟨[1,0,0,0,0],rfl,HZ,HY⟩
  (fun i st hi hs=>by
   obtain ⟨r,rfl,hr1,hr2⟩:=hs
   obtain ⟨x,hxi⟩:∃ y,xs[i]?=some y:=⟨_,Qh (by omega)⟩
   have hxe:=hx x (Qz hxi)
   obtain ⟨r',hm,g1,g2⟩:=Xq hr1 hxe
   have hsplit:xs=xs.take i++x::xs.drop (i+1):=by
    have h1:=Qf.1 hxi
    conv=>lhs; rw [←ZR i xs,JM h1.1,h1.2]
   have htl:(xs.take i).flatten.length=i*5:=by
    rw [hfl _ (fun y hy=>hx y (QQ hy)),Q7,Ze (by omega)]
   have hcs:((ns .u64 xs.flatten).drop (i*5)).take 5=ns .u64 x:=by
    conv=>lhs; rw [hsplit,Zs,QI]
    exact part5 hxe.len htl
   have hb:=NO (R:=[0,0,0,0,0]) (g:=(xs.take i).map fun x=>(⟨ns .u64 x,true,true,true,1⟩:Ob)) (l:=[]) hi hN hxe hr1 hm g1 hA hcs (by rw [QP,hfl xs hx,hn]; omega)
   have htk:xs.take (i+1)=xs.take i++[x]:=by rw [ZG,hxi]; rfl
   refine ⟨_,hb,r',?_,g1,?_⟩
   ·rw [htk,Xl]; rfl
   ·rw [htk,Xl,List.foldl_append,←hr2,g2]; rfl)
  (fun st hs=>by
   obtain ⟨r,rfl,hr1,hr2⟩:=hs
   have e1:((n:Int)<(n:Int))=False:=eq_false (by omega)
   have ht:xs.take n=xs:=Qu (by omega)
   rw [ht] at hr2 ⊢
   refine ⟨_,?_,r,rfl,hr1,hr2⟩
   simp only [RC,Q1,quiet,cF,Jx,Z7,↓pQ,reduceCtorEq,seval,-Qb,cL,e1])
 refine ⟨r,?_,hr1,hr2⟩
 have hz5:Qc 5 (Value.int .u64 0)=ns .u64 [0,0,0,0,0]:=rfl
 have l0:(ns .u64 [0,0,0,0,0]).length=5:=rfl
 have l1:=hr1.len
 have hs:=DT (n:=1) (by decide)
 have l2:([1,0,0,0,0]:List Nat).length=5:=rfl
 simp only [Lr] at hs
 rw [QD (fn:=a82) rfl]
 simp only [a82,Q1,quiet,cF,Jx,Z7,↓pQ,reduceCtorEq,seval,-Qb,cL,cJ,Zh,hz5,hs,hb,QW,Zf,ZU,Zg,QP,l0,l1,l2,ZX]
def pwI (x k o:List Nat) (i:Int) (ex:Env):St:=⟨[(2,.pointer (some ⟨0,0,none⟩)),(3,.pointer (some ⟨1,0,none⟩)),(4,.pointer (some ⟨2,0,none⟩)),(5,.pointer (some ⟨3,0,none⟩)),(6,.int .i64 i)]++ex,[⟨ns .u64 x,true,true,true,1⟩,⟨u8s k,true,true,true,1⟩,⟨ns .u64 [0,0,0,0,0],true,true,true,1⟩,⟨ns .u64 o,true,true,true,1⟩],[]⟩
theorem SO (a:Go.Fp.Fe) (m b:Nat) (hb:b<2):Go.Fp.pow a (2*m+b)=if b=1 then Go.Fp.pow a m*Go.Fp.pow a m*a else Go.Fp.pow a m*Go.Fp.pow a m:=by
 have h1:Go.Fp.pow a (2*m)=Go.Fp.pow a m*Go.Fp.pow a m:=by rw [show 2*m=m+m by omega,Go.Fp.pow_add]
 by_cases h:b=1
 ·subst h
  rw [if_pos rfl,Go.Fp.pow,h1]
 ·have:b=0:=by omega
  subst this
  rw [if_neg (by decide),ZF,h1]
theorem eC {ex:Env} (hx:El x (2^52)) (lk:k.length=32) (xk:∀ x∈k,x<256) (hi:i<256) (ho:El o (2^52)) (hp:fe o=Go.Fp.pow (fe x) (num 256 k/2^(i+1))) :
  ∃ r,Q8 T 0 Dl (pwI x k o i ex)=some (.normal,pwI x k r ((i:Int)-1) [])∧El r (2^52)∧fe r=Go.Fp.pow (fe x) (num 256 k/2^i):=by
 obtain ⟨b,hb⟩:∃ b,k[i/8]?=some b:=⟨_,Qh (by omega)⟩
 have hbv:=VN (B:=256) (by decide) xk hb
 have hbc:=Jr hb
 have hbit:b/2^(i%8)%2=num 256 k/2^i%2:=by
  rw [←hbv,show (256:Nat)=2^8 from rfl,Nr (Q3 _ (by decide)),ZK]
 obtain ⟨r1,m1,g1,g2⟩:=Xq ho ho
 obtain ⟨r2,m2,g3,g4⟩:=Xq g1 hx
 have hlt:=R8 (num 256 k) i
 have hnum:num 256 k/2^i=2*(num 256 k/2^(i+1))+num 256 k/2^i%2:=by
  rw [Z0,←Jl]
  omega
 have hstep:=SO (fe x) (num 256 k/2^(i+1)) (num 256 k/2^i%2) hlt
 rw [←hnum,←hp] at hstep
 have s1:(2:Int)^min (i%8) IntKind.u8.bits=((2^(i%8):Nat):Int):=W2 (Xf (Q3 _ (by decide)))
 have w2:IntKind.i64.wrap ((i/8:Nat):Int)=((i/8:Nat):Int):=Jb (by omega)
 have w3:IntKind.i64.wrap ((i:Int)-1)=(i:Int)-1:=Z2 (by omega) (by omega)
 have e1:((0:Int)≤(i:Int))=True:=eq_true (by omega)
 have e3:(((i/8:Nat):Int)<32)=True:=eq_true (by omega)
 have e4:(((i%8:Nat):Int)<0)=False:=eq_false (by omega)
 have l1:=hx.len
 have l2:=ho.len
 have l3:=g1.len
 have l4:=g3.len
 have l0:([0,0,0,0,0]:List Nat).length=5:=rfl
 generalize hB:num 256 k/2^i%2=B at *
 by_cases hB1:B=1
 ·have hbq:((B:Int)==1)=true:=by rw [hB1]; rfl
  rw [if_pos hB1] at hstep
  refine ⟨r2,?_,g3,by rw [hstep,g4,g2]⟩
  simp only [pwI,Dl,Q1,quiet,cF,Jx,Z7,↓pQ,reduceCtorEq,seval,-Qb,cL,cJ,cU,hbc,hbit,s1,w2,w3,e1,e3,e4,m1,m2,hbq,QW,Zf,ZU,Zg,QP,l1,l2,l3,l4,ZX]
 ·have hbq:((B:Int)==1)=false:=by
   have:B=0:=by omega
   rw [this]; rfl
  rw [if_neg hB1] at hstep
  refine ⟨r1,?_,g1,by rw [hstep,g2]⟩
  simp only [pwI,Dl,Q1,quiet,cF,Jx,Z7,↓pQ,reduceCtorEq,seval,-Qb,cL,cJ,cU,hbc,hbit,s1,w2,w3,e1,e3,e4,m1,m2,hbq,QW,Zf,ZU,Zg,QP,l1,l2,l3,l4,ZX]
theorem eG (hx:El x (2^52)) (lk:k.length=32) (xk:∀ x∈k,x<256):∃ r,Z9 T 175 [eV x,.agg (u8s k).toArray]=some (eV r)∧El r (2^52)∧fe r=Go.Fp.pow (fe x) (num 256 k):=by
 have hK:=num_lt xk
 rw [lk,show (256:Nat)^32=2^256 from by rw [show (256:Nat)=2^8 from rfl,←Jh]] at hK
 obtain ⟨st,hb,r,rfl,hr1,hr2⟩:=QZ (T:=T) (base:=0) (id:=0) (body:=Dl)
  (fun j st=>∃ r:List Nat,st=pwI x k r ((255:Int)-j) []∧El r (2^52)∧fe r=Go.Fp.pow (fe x) (num 256 k/2^(256-j)))
  (Q:=fun st=>∃ r:List Nat,st=pwI x k r (-1) [(9,.bool false)]∧El r (2^52)∧fe r=Go.Fp.pow (fe x) (num 256 k))
  256 (s:=pwI x k [1,0,0,0,0] 255 []) ⟨_,rfl,HZ,by rw [HY,Hz,Xr hK]; rfl⟩
  (fun j st hj hs=>by
   obtain ⟨r,rfl,h1,h2⟩:=hs
   obtain ⟨i,hi⟩:∃ i,256-j=i+1:=⟨255-j,by omega⟩
   rw [hi] at h2
   obtain ⟨r',g1,g2,g3⟩:=eC (ex:=[]) hx lk xk (i:=i) (by omega) h1 h2
   rw [show (255:Int)-j=(i:Int) by omega]
   refine ⟨_,g1,r',?_,g2,?_⟩
   ·rw [show (255:Int)-((j+1:Nat):Int)=(i:Int)-1 by omega]
   ·rw [show 256-(j+1)=i by omega]; exact g3)
  (fun st hs=>by
   obtain ⟨r,rfl,h1,h2⟩:=hs
   rw [Qs,Xe,XI] at h2
   have e:((0:Int) ≤ -1)=False:=by decide
   refine ⟨_,?_,r,rfl,h1,h2⟩
   rw [show (255:Int)-((256:Nat):Int) = -1 by omega]
   simp only [pwI,Dl,Q1,quiet,cF,Jx,Z7,↓pQ,reduceCtorEq,seval,-Qb,cL,e])
 refine ⟨r,?_,hr1,hr2⟩
 have hz5:Qc 5 (Value.int .u64 0)=ns .u64 [0,0,0,0,0]:=rfl
 have hs:=DT (n:=1) (by decide)
 have l2:([1,0,0,0,0]:List Nat).length=5:=rfl
 have l0:([0,0,0,0,0]:List Nat).length=5:=rfl
 have l1:=hx.len
 have l3:=hr1.len
 simp only [Lr] at hs
 simp only [pwI,Qw,Qr] at hb
 apply ZI (fn:=a83) rfl
 simp only [a83,Q1,quiet,cF,Jx,Z7,↓pQ,reduceCtorEq,seval,-Qb,cL,cJ,hz5,hs,hb,pwI,QW,Zf,ZU,Zg,QP,l0,l1,l2,l3,ZX]
 rfl
def onX (i:Nat):List Nat:=dig (2^8) 32 (2^i-1)
def onI (less:Value) (n:Int) (k:List Nat) (i:Nat) (ex:Env):St:=⟨[(1,less),(4,.pointer (some ⟨0,0,none⟩)),(5,.pointer (some ⟨1,0,none⟩)),(7,.int .i64 n),(8,.int .i64 i)]++ex,[⟨u8s (dig 256 32 0),true,true,true,1⟩,⟨u8s k,true,true,true,1⟩],[]⟩
theorem ff {less:Value} (hn:n≤256) (hi:i<n):Q8 T 0 RB (onI less n (onX i) i [])=some (.normal,onI less n (onX (i+1)) (i+1) []):=by
 have hlen:(onX i).length=32:=Zt _ _ _
 obtain ⟨y,hy⟩:∃ b,(onX i)[i/8]?=some b:=⟨_,Qh (by omega)⟩
 have hyc:=Jr hy
 have hy':y<2^8:=KP (by decide) (Qz hy)
 have hsm:(2:Nat)^(i%8)≤2^7:=Zn (by decide) (by have:=Q3 i (by decide:0<8); omega)
 have hp:0<(2:Nat)^i:=JT (by decide)
 have hput:=Md (w:=8) (m:=32) (q:=i/8) (s:=i%8) (y:=1) (M:=2^i-1) (by omega) (Q3 _ (by decide)) (by rw [ZK]; omega) (by omega)
 rw [ZK,show 2^i-1+1*2^i=2^(i+1)-1 by rw [Z0]; omega] at hput
 have hgd:(dig (2^8) 32 (2^i-1)).getD (i/8) 0=y:=by rw [Qx]; unfold onX at hy; rw [hy]; rfl
 rw [hgd,X4] at hput
 have hset:=XC (onX i) (i/8) (y|||2^(i%8))
 rw [show (onX i).set (i/8) (y|||2^(i%8))=onX (i+1) from hput] at hset
 have s1:(2:Int)^min (i%8) IntKind.u8.bits=((2^(i%8):Nat):Int):=W2 (Xf (Q3 _ (by decide)))
 have o1:Zo .or .u8 (y:Int) ((2^(i%8):Nat):Int)=((y|||2^(i%8):Nat):Int):=K7 rfl (by show _<256; omega) (by show _<256; omega)
 have n1:(2^(i%8))%256=2^(i%8):=QB (J4 hsm (by decide))
 have w2:IntKind.i64.wrap ((i/8:Nat):Int)=((i/8:Nat):Int):=Jb (by omega)
 have w3:IntKind.i64.wrap ((i+1:Nat):Int)=((i+1:Nat):Int):=Jb (by omega)
 have e1:((i:Int)<(n:Int))=True:=eq_true (by omega)
 have e3:(((i/8:Nat):Int)<32)=True:=eq_true (by omega)
 have e4:(((i%8:Nat):Int)<0)=False:=eq_false (by omega)
 have e6:i/8+1≤32:=by omega
 have p1:1*2^(i%8)=2^(i%8):=X4 _
 simp only [onI,RB,Q1,quiet,cF,Jx,Z7,↓pQ,reduceCtorEq,seval,-Qb,cL,cJ,cU,hyc,s1,o1,n1,w2,w3,e1,e3,e4,e6,p1,hset,Qp,hlen]
theorem Iu (hn:n≤256) (h8:8≤n) (hl:less<256):Z9 T 176 [.int .i64 n,.int .u8 less]=some (.agg (u8s (dig 256 32 (2^n-1-less))).toArray):=by
 have hb:=XA (T:=T) (base:=0) (id:=0) (body:=RB) (fun i=>onI (.int .u8 less) n (onX i) i []) (s':=onI (.int .u8 less) n (onX n) n [(9,.bool false)]) n (fun i hi=>ff hn hi) (by
  have e1:((n:Int)<(n:Int))=False:=eq_false (by omega)
  simp only [onI,RB,Q1,quiet,cF,Jx,Z7,↓pQ,reduceCtorEq,seval,-Qb,cL,e1])
 rw [show onX 0=dig 256 32 0 from rfl] at hb
 have hp8:(256:Nat)≤2^n:=by
  have:=Zn (n:=2) (by decide) h8
  exact this
 have hmod:2^n%256=0:=by
  rw [show n=8+(n-8) by omega,JG]; exact Nat.mul_mod_right _ _
 have h0:(onX n)[0]?=some 255:=by
  unfold onX
  rw [Vr (by decide),Xe,XI]
  congr 1
  omega
 have h0c:=Jr h0
 have w0:IntKind.u8.wrap (255-(less:Int))=((255-less:Nat):Int):=by rw [wrap_u8]; omega
 have hset:=XC (onX n) 0 (255-less)
 have hfin:(onX n).set 0 (255-less)=dig 256 32 (2^n-1-less):=by
  apply Ba (by rw [Qo]; exact Zt _ _ _)
  intro t ht
  by_cases h0t:t=0
  ·subst h0t
   rw [Qt (by rw [show (onX n).length=32 from Zt _ _ _]; decide),Xe,XI]
   congr 1
   omega
  ·rw [Qm (Ne.symm h0t)]
   unfold onX
   rw [Vr ht]
   congr 2
   obtain ⟨m,rfl⟩:∃ m,t=m+1:=⟨t-1,by omega⟩
   rw [show (2:Nat)^8=256 from rfl,Z0,Zy,←Jl,←Jl]
   congr 1
   omega
 rw [hfin] at hset
 simp only [Uf] at h0c
 have l1:(dig 256 32 (2^n-1-less)).length=32:=Zt _ _ _
 have l2:(onX n).length=32:=Zt _ _ _
 have l3:(dig 256 32 0).length=32:=rfl
 have hz32:Qc 32 (Value.int .u8 0)=u8s (dig 256 32 0):=rfl
 simp only [onI,Qw,Qr,Zx] at hb
 apply ZI (fn:=a84) rfl
 simp only [a84,Q1,quiet,cF,Jx,Z7,↓pQ,reduceCtorEq,seval,-Qb,cL,cJ,hz32,hb,onI,h0c,w0,hset,Qp,l1,l2,l3]
 rfl
theorem UA {v:Nat}:∀ x∈dig 256 32 v,x<256:=fun _ h=>KP (by decide) h
theorem BU (hx:El x (2^52)) (hn:n≤256) (h8:8≤n) (hl:less<256):∃ r,Z9 T 175 [eV x,.agg (u8s (dig 256 32 (2^n-1-less))).toArray]=some (eV r)∧El r (2^52)∧fe r=Go.Fp.pow (fe x) (2^n-1-less):=by
 obtain ⟨r,h1,h2,h3⟩:=eG (k:=dig 256 32 (2^n-1-less)) hx (Zt _ _ _) UA
 refine ⟨r,h1,h2,?_⟩
 rw [h3,XV (by decide),QB]
 have h4:(2:Nat)^n≤256^32:=by
  rw [show (256:Nat)^32=2^256 from by rw [show (256:Nat)=2^8 from rfl,←Jh]]
  exact Zn (by decide) hn
 have:0<(2:Nat)^n:=JT (by decide)
 omega
theorem bn (hx:El x (2^52)):∃ r,Z9 T 125 [eV x]=some (eV r)∧El r (2^52)∧fe r=Go.Fp.iv (fe x):=by
 have h1:=Iu (n:=255) (less:=20) (by decide) (by decide) (by decide)
 obtain ⟨r,h2,h3,h4⟩:=BU (n:=255) (less:=20) hx (by decide) (by decide) (by decide)
 refine ⟨r,?_,h3,?_⟩
 ·have hz5:Qc 5 (Value.int .u64 0)=ns .u64 [0,0,0,0,0]:=rfl
  have l0:([0,0,0,0,0]:List Nat).length=5:=rfl
  have l1:=hx.len
  have l2:=h3.len
  simp only [Uf] at h1
  generalize dig 256 32 (2^255-1-20)=K at *
  apply ZI (fn:=a56) rfl
  simp only [a56,Q1,quiet,cF,Jx,Z7,↓pQ,reduceCtorEq,seval,-Qb,cL,cJ,hz5,h1,h2,QW,Zf,ZU,Zg,QP,l0,l1,l2,ZX]
  rfl
 ·rw [h4]
  unfold Go.Fp.iv
  rw [Go.Fp.UL]
end Go.Ev.YtomfgcgnepfmjaaGreat
namespace Go.Ev
section
variable {T:Tab} {b:Nat}
theorem WE:∀ (o1 o2:List AOper) (s:St) (recs:List Rec),evOps T b (o1++o2) s recs=(evOps T b o1 s recs).bind fun r=>evOps T b o2 r.1 r.2
 | [],o2,s,recs=>by rw [Wg]; rfl
 | o::o1,o2,s,recs=>by
  rw [Qw,Ko,Ko]
  cases hg:guardOf s.env o.guard with
  | none=>rfl
  | some g =>
   cases g with
   | false=>exact WE o1 o2 _ _
   | true =>
    cases hx:ZY T o.op s.env s.h with
    | none=>simp [hx]
    | some x =>
     simp only [hx,Qj]
     exact WE o1 o2 _ _
theorem WD:∀ (ops:List AOper) (s:St) (recs:List Rec) (s':St),steps T b false ops s=some s'→∃ m,evOps T b ops s recs=some (s',recs++m)
 | [],s,recs,s',h=>by
  simp only [steps,Ql] at h
  subst h
  exact ⟨[],by rw [Wg,Q6]⟩
 | o::r,s,recs,s',h=>by
  rw [Ko]
  unfold steps at h
  cases hg:guardOf s.env o.guard with
  | none=>simp only [hg] at h; cases h
  | some g =>
   simp only [hg] at h
   cases g with
   | false =>
    obtain ⟨m,h1⟩:=WD r _ (recs++[(some [],[])]) s' h
    exact ⟨(some [],[])::m,by rw [h1]; simp⟩
   | true =>
    cases hx:ZY T o.op s.env s.h with
    | none=>simp [hx] at h
    | some x =>
     simp only [hx,Qj,Bool.false_and,Zj,if_false] at h
     obtain ⟨m,h1⟩:=WD r _ (recs++[(x.2.2.1,x.2.2.2)]) s' h
     exact ⟨(x.2.2.1,x.2.2.2)::m,by simp only [hx,Qj]; rw [h1]; simp⟩
theorem Dy {r1 r2:List Rec}:∀ {pairs:List (Nat×Nat)},(pairs.all fun p=>decide (p.1<r1.length)&&decide (p.2<r1.length))=true→Z3 r1 pairs=true→Z3 (r1++r2) pairs=true
 | [],_,_=>rfl
 | (i,j)::ps,h,k=>by
  simp only [KR,ZZ,decide_eq_true_eq] at h
  simp only [Z3,KR,ZZ] at k ⊢
  have ih:=Dy (r1:=r1) (r2:=r2) (pairs:=ps) h.2 k.2
  simp only [Z3] at ih
  refine ⟨?_,ih⟩
  rw [Qa h.1.1,Qa h.1.2]
  exact k.1
def KD:List (Nat×Nat)→Nat
 | []=>0
 | (_,j)::r=>if j+1≤KD r then KD r else j+1
theorem I9:KD []=0:=rfl
theorem EA {i j:Nat} {r:List (Nat×Nat)}:KD ((i,j)::r)=if j+1≤KD r then KD r else j+1:=rfl
def Aw (T:Tab) (b:Nat) (ops:List AOper) (pairs:List (Nat×Nat)) (s:St):Option St :=
 gate ((pairs.all fun p=>decide (p.1<KD pairs)&&decide (p.2<KD pairs))=true∧KD pairs≤ops.length)
  ((steps T b true (ops.take (KD pairs)) s).bind fun s1=>steps T b false (ops.drop (KD pairs)) s1)
theorem NM {ops:List AOper} {pairs:List (Nat×Nat)} {s:St}:Aw T b ops pairs s=gate ((pairs.all fun p=>decide (p.1<KD pairs)&&decide (p.2<KD pairs))=true∧KD pairs≤ops.length)
  ((steps T b true (ops.take (KD pairs)) s).bind fun s1=>steps T b false (ops.drop (KD pairs)) s1):=Eq.trans rfl rfl
theorem IJ {ops:List AOper} {keep:Option (List Nat)} {p:Nat×Nat} {ps:List (Nat×Nat)} {s:St}:Q8 T b (.region ops keep (p::ps)) s=Dx ((Aw T b ops (p::ps) s).bind fun s'=>some (.normal,s'.after keep)) (AN T b (.region ops keep (p::ps)) s):=by
 cases hq:Aw T b ops (p::ps) s with
 | none=>rfl
 | some s' =>
  simp only [Qj,Dx]
  unfold Aw gate at hq
  split at hq
  ·rename_i hp
   simp only [Option.bind_eq_some_iff] at hq
   obtain ⟨s1,k1,k2⟩:=hq
   obtain ⟨recs,h1,h2,h3⟩:=Y8 _ s [] s1 k1 (by simp)
   obtain ⟨m,h4⟩:=WD _ s1 recs s' k2
   simp only [Zz,QA,Q7,Ze hp.2] at h3
   rw [KY]
   conv=>lhs; rw [←ZR (KD (p::ps)) ops]
   rw [WE,h1]
   simp only [Qj,h4]
   have hpk:=hp.1
   rw [←h3] at hpk
   rw [if_pos (Dy hpk (YK h2 hpk))]
  ·cases hq
end
theorem HN {T:Tab} {b:Nat} {q:Bool}:∀ (o1 o2:List AOper) (s:St),steps T b q (o1++o2) s=(steps T b q o1 s).bind (steps T b q o2)
 | [],o2,s=>rfl
 | o::o1,o2,s=>by
  rw [Qw]
  unfold steps
  cases hg:guardOf s.env o.guard with
  | none=>rfl
  | some g =>
   cases g with
   | true =>
    simp only
    cases hx:ZY T o.op s.env s.h with
    | none=>rfl
    | some x =>
     simp only [Qj]
     split
     ·rfl
     ·exact HN o1 o2 _
   | false=>exact HN o1 o2 _
theorem Ul {T:Tab} {b:Nat} {q:Bool} {a1 a2 a3 a4 a5 a6 a7:AOper} {r:List AOper} {s:St}:steps T b q (a1::a2::a3::a4::a5::a6::a7::r) s=(steps T b q [a1,a2,a3,a4,a5,a6] s).bind fun s'=>steps T b q (a7::r) s':=by
 rw [←HN]; rfl
def cK:=Qi cF (Qi (@Jx) (Qi (@IJ) (Qi (@NM) (Qi (@I9) (Qi (@EA) (Qi (@List.take_succ_cons.{0}) (Qi (@JZ.{0}) (Qi (@List.drop_succ_cons.{0}) (@List.drop_zero.{0})))))))))
def cW:=Qi cK (Qi cL cJ)
def pW:=Qi pQ (@Ul)
end Go.Ev
namespace Go.Ev.YtomfgcgnepfmjaaGreat
open Go Go.Ev
attribute [local congr] Jq J7 Jp J8 Je
set_option maxRecDepth 100000
variable {l a b x c y t x1 y1 z1 t1 m o:List Nat} {p q:Go.Cv.Pt Go.Fp.P Go.Fp.d} {n k i id:Nat} {z dd e px py rx ry:Go.Fp.Fe} {cs:List Value} {R:Ob} {H:List Ob}
theorem Q5 (h:cs.length=n):cs.take n=cs:=Qu (by omega)
def pL (x y z t:List Nat):List Nat:=x++(y++(z++t))
def pV (x y z t:List Nat):Value := .agg (ns .u64 (pL x y z t)).toArray
theorem kh (x y z t:List Nat):rf (pV x y z t)=true:=LA _ _
theorem CU (x y z t:List Nat):(pV x y z t).cells.toList=ns .u64 (pL x y z t):=rfl
theorem LK (x y z t:List Nat):(pV x y z t).cells.size=(pL x y z t).length:=QP _ _
theorem ko (x y z t:List Nat):okVar (pV x y z t)=true:=rfl
theorem LL (x y z t:List Nat):Value.agg (ns .u64 (pL x y z t)).toArray=pV x y z t:=rfl
theorem Vn {z:List Nat} {b:Nat} (hx:El x b) (hy:El y b) (hz:El z b) (ht:El t b):(pL x y z t).length=20:=by
 simp [pL,hx.len,hy.len,hz.len,ht.len]
theorem Ic {z:List Nat} {b:Nat} (hx:El x b) (hy:El y b) (hz:El z b) (ht:El t b) :
  Q2 5 (ns .u64 (pL x y z t))=ns .u64 x∧Q2 5 (Zr 5 (ns .u64 (pL x y z t)))=ns .u64 y∧Q2 5 (Zr 10 (ns .u64 (pL x y z t)))=ns .u64 z∧Q2 5 (Zr 15 (ns .u64 (pL x y z t)))=ns .u64 t:=by
 obtain ⟨a0,a1,a2,a3,a4,rfl,-⟩:=hx.five
 obtain ⟨b0,b1,b2,b3,b4,rfl,-⟩:=hy.five
 obtain ⟨c0,c1,c2,c3,c4,rfl,-⟩:=hz.five
 obtain ⟨d0,d1,d2,d3,d4,rfl,-⟩:=ht.five
 exact ⟨rfl,rfl,rfl,rfl⟩
theorem D1 (ha:El a k) (hb:El b k):fillL (Qc 10 (Value.int .u64 0)) [(0,5,eV a),(5,5,eV b)]=some (ns .u64 (a++b)):=by
 obtain ⟨a0,a1,a2,a3,a4,rfl,-⟩:=ha.five
 obtain ⟨b0,b1,b2,b3,b4,rfl,-⟩:=hb.five
 rfl
theorem EW (ha:El a k) (hb:El b k) (hc:El c k):fillL (Qc 15 (Value.int .u64 0)) [(0,5,eV a),(5,5,eV b),(10,5,eV c)]=some (ns .u64 [a,b,c].flatten):=by
 obtain ⟨a0,a1,a2,a3,a4,rfl,-⟩:=ha.five
 obtain ⟨b0,b1,b2,b3,b4,rfl,-⟩:=hb.five
 obtain ⟨c0,c1,c2,c3,c4,rfl,-⟩:=hc.five
 rfl
theorem D0 {d:List Nat} (ha:El a k) (hb:El b k) (hc:El c k) (hd:El d k):fillL (Qc 20 (Value.int .u64 0)) [(0,5,eV a),(5,5,eV b),(10,5,eV c),(15,5,eV d)]=some (ns .u64 (pL a b c d)):=by
 obtain ⟨a0,a1,a2,a3,a4,rfl,-⟩:=ha.five
 obtain ⟨b0,b1,b2,b3,b4,rfl,-⟩:=hb.five
 obtain ⟨c0,c1,c2,c3,c4,rfl,-⟩:=hc.five
 obtain ⟨d0,d1,d2,d3,d4,rfl,-⟩:=hd.five
 rfl
theorem LM (a b c d:List Nat):pL a b c d=[a,b,c,d].flatten:=by simp [pL]
theorem Sa:El [2,0,0,0,0] (2^52):=Gj (by decide)
theorem PY:Z9 T 111 [.int .u32 2]=some (eV [2,0,0,0,0]):=DT (n:=2) (by decide)
theorem FT:fe [2,0,0,0,0]=2:=by rw [Gi]; rfl
theorem lC {x2 y2 z2 t2 d:List Nat} (Ex1:El x1 (2^52)) (Ey1:El y1 (2^52)) (Ez1:El z1 (2^52)) (Et1:El t1 (2^52)) (Ex2:El x2 (2^52)) (Ey2:El y2 (2^52)) (Ez2:El z2 (2^52)) (Et2:El t2 (2^52)) (Ed:El d (2^52)) :
  ∃ x y z t,Z9 T 124 [pV x1 y1 z1 t1,pV x2 y2 z2 t2,eV d]=some (pV x y z t)∧El x (2^52)∧El y (2^52)∧El z (2^52)∧El t (2^52) ∧
   ∃ a b c e:Go.Fp.Fe,a=(fe y1-fe x1)*(fe y2-fe x2)∧b=(fe y1+fe x1)*(fe y2+fe x2)∧c=1*2*fe d*fe t1*fe t2∧e=1*2*fe z1*fe z2 ∧
    fe x=(b-a)*(e-c)∧fe y=(e+c)*(b+a)∧fe z=(e-c)*(e+c)∧fe t=(b-a)*(b+a):=by
 obtain ⟨two,htwo⟩:∃ two:List Nat,two=[2,0,0,0,0]:=⟨_,rfl⟩
 have Etwo:El two (2^52):=by rw [htwo]; exact Sa
 have vtwo:Z9 T 111 [.int .u32 2]=some (eV two):=by rw [htwo]; exact PY
 have ftwo:fe two=2:=by rw [htwo]; exact FT
 clear htwo
 obtain ⟨r1,hr1,Er1,fr1⟩:=Dt Ey1 Ex1
 obtain ⟨r2,hr2,Er2,fr2⟩:=Dt Ey2 Ex2
 obtain ⟨r3,hr3,Er3,fr3⟩:=Xq Er1 Er2
 obtain ⟨r4,sr4,hr4,Er4,fr4⟩:=YD (H:=[⟨ns .u64 (pL x1 y1 z1 t1),true,true,true,1⟩,⟨ns .u64 (pL x2 y2 z2 t2),true,true,true,1⟩,⟨ns .u64 d,true,true,true,1⟩,⟨Qc 20 (.int .u64 0),true,true,true,1⟩,⟨ns .u64 r3,true,true,true,1⟩,⟨ns .u64 (y1++x1),true,true,true,1⟩]) (id:=5) Ey1 Ex1 rfl
 simp only [Qw,Qr] at hr4
 obtain ⟨r5,sr5,hr5,Er5,fr5⟩:=YD (H:=[⟨ns .u64 (pL x1 y1 z1 t1),true,true,true,1⟩,⟨ns .u64 (pL x2 y2 z2 t2),true,true,true,1⟩,⟨ns .u64 d,true,true,true,1⟩,⟨Qc 20 (.int .u64 0),true,true,true,1⟩,⟨ns .u64 r3,true,true,true,1⟩,⟨ns .u64 (y1++x1),true,true,true,1⟩,⟨ns .u64 r4,true,true,true,1⟩,⟨ns .u64 sr4,true,true,true,1⟩,⟨ns .u64 y1,true,true,true,1⟩,⟨ns .u64 x1,true,true,true,1⟩,⟨ns .u64 (y2++x2),true,true,true,1⟩]) (id:=10) Ey2 Ex2 rfl
 simp only [Qw,Qr] at hr5
 obtain ⟨r6,hr6,Er6,fr6⟩:=Xq Er4 Er5
 obtain ⟨r7,hr7,Er7,fr7⟩:=W1 (H:=[⟨ns .u64 (pL x1 y1 z1 t1),true,true,true,1⟩,⟨ns .u64 (pL x2 y2 z2 t2),true,true,true,1⟩,⟨ns .u64 d,true,true,true,1⟩,⟨Qc 20 (.int .u64 0),true,true,true,1⟩,⟨ns .u64 r3,true,true,true,1⟩,⟨ns .u64 (y1++x1),true,true,true,1⟩,⟨ns .u64 r4,true,true,true,1⟩,⟨ns .u64 sr4,true,true,true,1⟩,⟨ns .u64 y1,true,true,true,1⟩,⟨ns .u64 x1,true,true,true,1⟩,⟨ns .u64 (y2++x2),true,true,true,1⟩,⟨ns .u64 r5,true,true,true,1⟩,⟨ns .u64 sr5,true,true,true,1⟩,⟨ns .u64 y2,true,true,true,1⟩,⟨ns .u64 x2,true,true,true,1⟩,⟨ns .u64 r6,true,true,true,1⟩,⟨ns .u64 [two,d,t1,t2].flatten,true,true,true,1⟩]) (id:=16) (n:=4) (xs:=[two,d,t1,t2]) rfl (by decide) (by intro w hw; simp only [Jw,JA,or_false] at hw; rcases hw with rfl | rfl | rfl | rfl<;>assumption) rfl
 simp only [Qw,Qr,Jc,JN,Xm,Vk] at hr7 fr7
 obtain ⟨r8,hr8,Er8,fr8⟩:=W1 (H:=[⟨ns .u64 (pL x1 y1 z1 t1),true,true,true,1⟩,⟨ns .u64 (pL x2 y2 z2 t2),true,true,true,1⟩,⟨ns .u64 d,true,true,true,1⟩,⟨Qc 20 (.int .u64 0),true,true,true,1⟩,⟨ns .u64 r3,true,true,true,1⟩,⟨ns .u64 (y1++x1),true,true,true,1⟩,⟨ns .u64 r4,true,true,true,1⟩,⟨ns .u64 sr4,true,true,true,1⟩,⟨ns .u64 y1,true,true,true,1⟩,⟨ns .u64 x1,true,true,true,1⟩,⟨ns .u64 (y2++x2),true,true,true,1⟩,⟨ns .u64 r5,true,true,true,1⟩,⟨ns .u64 sr5,true,true,true,1⟩,⟨ns .u64 y2,true,true,true,1⟩,⟨ns .u64 x2,true,true,true,1⟩,⟨ns .u64 r6,true,true,true,1⟩,⟨ns .u64 [two,d,t1,t2].flatten,true,true,true,1⟩,⟨ns .u64 r7,true,true,true,1⟩,⟨ns .u64 r7,true,true,true,1⟩,⟨ns .u64 two,true,true,true,1⟩,⟨ns .u64 d,true,true,true,1⟩,⟨ns .u64 t1,true,true,true,1⟩,⟨ns .u64 t2,true,true,true,1⟩,⟨ns .u64 r7,true,true,true,1⟩,⟨ns .u64 [two,z1,z2].flatten,true,true,true,1⟩]) (id:=24) (n:=3) (xs:=[two,z1,z2]) rfl (by decide) (by intro w hw; simp only [Jw,JA,or_false] at hw; rcases hw with rfl | rfl | rfl<;>assumption) rfl
 simp only [Qw,Qr,Jc,JN,Xm,Vk] at hr8 fr8
 obtain ⟨r9,hr9,Er9,fr9⟩:=Dt Er6 Er3
 obtain ⟨r10,hr10,Er10,fr10⟩:=Dt Er8 Er7
 obtain ⟨r11,sr11,hr11,Er11,fr11⟩:=YD (H:=[⟨ns .u64 (pL x1 y1 z1 t1),true,true,true,1⟩,⟨ns .u64 (pL x2 y2 z2 t2),true,true,true,1⟩,⟨ns .u64 d,true,true,true,1⟩,⟨Qc 20 (.int .u64 0),true,true,true,1⟩,⟨ns .u64 r3,true,true,true,1⟩,⟨ns .u64 (y1++x1),true,true,true,1⟩,⟨ns .u64 r4,true,true,true,1⟩,⟨ns .u64 sr4,true,true,true,1⟩,⟨ns .u64 y1,true,true,true,1⟩,⟨ns .u64 x1,true,true,true,1⟩,⟨ns .u64 (y2++x2),true,true,true,1⟩,⟨ns .u64 r5,true,true,true,1⟩,⟨ns .u64 sr5,true,true,true,1⟩,⟨ns .u64 y2,true,true,true,1⟩,⟨ns .u64 x2,true,true,true,1⟩,⟨ns .u64 r6,true,true,true,1⟩,⟨ns .u64 [two,d,t1,t2].flatten,true,true,true,1⟩,⟨ns .u64 r7,true,true,true,1⟩,⟨ns .u64 r7,true,true,true,1⟩,⟨ns .u64 two,true,true,true,1⟩,⟨ns .u64 d,true,true,true,1⟩,⟨ns .u64 t1,true,true,true,1⟩,⟨ns .u64 t2,true,true,true,1⟩,⟨ns .u64 r7,true,true,true,1⟩,⟨ns .u64 [two,z1,z2].flatten,true,true,true,1⟩,⟨ns .u64 r8,true,true,true,1⟩,⟨ns .u64 r8,true,true,true,1⟩,⟨ns .u64 two,true,true,true,1⟩,⟨ns .u64 z1,true,true,true,1⟩,⟨ns .u64 z2,true,true,true,1⟩,⟨ns .u64 r8,true,true,true,1⟩,⟨ns .u64 (r8++r7),true,true,true,1⟩]) (id:=31) Er8 Er7 rfl
 simp only [Qw,Qr] at hr11
 obtain ⟨r12,sr12,hr12,Er12,fr12⟩:=YD (H:=[⟨ns .u64 (pL x1 y1 z1 t1),true,true,true,1⟩,⟨ns .u64 (pL x2 y2 z2 t2),true,true,true,1⟩,⟨ns .u64 d,true,true,true,1⟩,⟨Qc 20 (.int .u64 0),true,true,true,1⟩,⟨ns .u64 r3,true,true,true,1⟩,⟨ns .u64 (y1++x1),true,true,true,1⟩,⟨ns .u64 r4,true,true,true,1⟩,⟨ns .u64 sr4,true,true,true,1⟩,⟨ns .u64 y1,true,true,true,1⟩,⟨ns .u64 x1,true,true,true,1⟩,⟨ns .u64 (y2++x2),true,true,true,1⟩,⟨ns .u64 r5,true,true,true,1⟩,⟨ns .u64 sr5,true,true,true,1⟩,⟨ns .u64 y2,true,true,true,1⟩,⟨ns .u64 x2,true,true,true,1⟩,⟨ns .u64 r6,true,true,true,1⟩,⟨ns .u64 [two,d,t1,t2].flatten,true,true,true,1⟩,⟨ns .u64 r7,true,true,true,1⟩,⟨ns .u64 r7,true,true,true,1⟩,⟨ns .u64 two,true,true,true,1⟩,⟨ns .u64 d,true,true,true,1⟩,⟨ns .u64 t1,true,true,true,1⟩,⟨ns .u64 t2,true,true,true,1⟩,⟨ns .u64 r7,true,true,true,1⟩,⟨ns .u64 [two,z1,z2].flatten,true,true,true,1⟩,⟨ns .u64 r8,true,true,true,1⟩,⟨ns .u64 r8,true,true,true,1⟩,⟨ns .u64 two,true,true,true,1⟩,⟨ns .u64 z1,true,true,true,1⟩,⟨ns .u64 z2,true,true,true,1⟩,⟨ns .u64 r8,true,true,true,1⟩,⟨ns .u64 (r8++r7),true,true,true,1⟩,⟨ns .u64 r11,true,true,true,1⟩,⟨ns .u64 sr11,true,true,true,1⟩,⟨ns .u64 r8,true,true,true,1⟩,⟨ns .u64 r7,true,true,true,1⟩,⟨ns .u64 (r6++r3),true,true,true,1⟩]) (id:=36) Er6 Er3 rfl
 simp only [Qw,Qr] at hr12
 obtain ⟨r13,hr13,Er13,fr13⟩:=Xq Er9 Er10
 obtain ⟨r14,hr14,Er14,fr14⟩:=Xq Er11 Er12
 obtain ⟨r15,hr15,Er15,fr15⟩:=Xq Er10 Er11
 obtain ⟨r16,hr16,Er16,fr16⟩:=Xq Er9 Er12
 refine ⟨r13,r14,r15,r16,?_,Er13,Er14,Er15,Er16,fe r3,fe r6,fe r7,fe r8,?_⟩
 ·obtain ⟨q10,q11,q12,q13⟩:=Ic Ex1 Ey1 Ez1 Et1
  obtain ⟨q20,q21,q22,q23⟩:=Ic Ex2 Ey2 Ez2 Et2
  have p1:=Vn Ex1 Ey1 Ez1 Et1
  have p2:=Vn Ex2 Ey2 Ez2 Et2
  have p3:=Vn Er13 Er14 Er15 Er16
  have k4:=D0 Etwo Ed Et1 Et2
  rw [LM] at k4
  have k3:=EW Etwo Ez1 Ez2
  have kp:=D0 Er13 Er14 Er15 Er16
  have m1:=D1 Ey1 Ex1
  have m2:=D1 Ey2 Ex2
  have m3:=D1 Er8 Er7
  have m4:=D1 Er6 Er3
  have Lx1:=Ex1.len
  have Ly1:=Ey1.len
  have Lz1:=Ez1.len
  have Lt1:=Et1.len
  have Lx2:=Ex2.len
  have Ly2:=Ey2.len
  have Lz2:=Ez2.len
  have Lt2:=Et2.len
  have Ld:=Ed.len
  have Ltwo:=Etwo.len
  have Lr1:=Er1.len
  have Lr2:=Er2.len
  have Lr3:=Er3.len
  have Lr4:=Er4.len
  have Lr5:=Er5.len
  have Lr6:=Er6.len
  have Lr7:=Er7.len
  have Lr8:=Er8.len
  have Lr9:=Er9.len
  have Lr10:=Er10.len
  have Lr11:=Er11.len
  have Lr12:=Er12.len
  have Lr13:=Er13.len
  have Lr14:=Er14.len
  have Lr15:=Er15.len
  have Lr16:=Er16.len
  apply ZI (fn:=a54) rfl
  simp only [a54,Q1,quiet,cW,↓pW,reduceCtorEq,seval,-Qb,Qn,Q5,CU,LK,ko,LL,kh,QW,Zf,ZU,Zg,ZX,QP,q10,q11,q12,q13,q20,q21,q22,q23,p1,p2,p3,k4,k3,kp,m1,m2,m3,m4,vtwo,hr1,hr2,hr3,hr4,hr5,hr6,hr7,hr8,hr9,hr10,hr11,hr12,hr13,hr14,hr15,hr16,Lx1,Ly1,Lz1,Lt1,Lx2,Ly2,Lz2,Lt2,Ld,Ltwo,Lr1,Lr2,Lr3,Lr4,Lr5,Lr6,Lr7,Lr8,Lr9,Lr10,Lr11,Lr12,Lr13,Lr14,Lr15,Lr16]
  rfl
 ·refine ⟨?_,?_,?_,?_,?_,?_,?_,?_⟩
  ·rw [fr3,fr1,fr2]
  ·rw [fr6,fr4,fr5]
  ·rw [fr7,ftwo]
  ·rw [fr8,ftwo]
  ·rw [fr13,fr9,fr10]
  ·rw [fr14,fr11,fr12]
  ·rw [fr15,fr10,fr11]
  ·rw [fr16,fr9,fr12]
theorem dY (Ex1:El x1 (2^52)) (Ey1:El y1 (2^52)) (Ez1:El z1 (2^52)) (Et1:El t1 (2^52)) :
  ∃ x y z t,Z9 T 117 [pV x1 y1 z1 t1]=some (pV x y z t)∧El x (2^52)∧El y (2^52)∧El z (2^52)∧El t (2^52) ∧
   ∃ a b c h e g f:Go.Fp.Fe,a=fe x1*fe x1∧b=fe y1*fe y1∧c=1*2*fe z1*fe z1∧h=a+b∧e=h-(fe x1+fe y1)*(fe x1+fe y1)∧g=a-b∧f=c+g ∧
    fe x=e*f∧fe y=g*h∧fe z=f*g∧fe t=e*h:=by
 obtain ⟨two,htwo⟩:∃ two:List Nat,two=[2,0,0,0,0]:=⟨_,rfl⟩
 have Etwo:El two (2^52):=by rw [htwo]; exact Sa
 have vtwo:Z9 T 111 [.int .u32 2]=some (eV two):=by rw [htwo]; exact PY
 have ftwo:fe two=2:=by rw [htwo]; exact FT
 clear htwo
 obtain ⟨r1,hr1,Er1,fr1⟩:=Xq Ex1 Ex1
 obtain ⟨r2,hr2,Er2,fr2⟩:=Xq Ey1 Ey1
 obtain ⟨r3,hr3,Er3,fr3⟩:=W1 (H:=[⟨ns .u64 (pL x1 y1 z1 t1),true,true,true,1⟩,⟨Qc 20 (.int .u64 0),true,true,true,1⟩,⟨ns .u64 r1,true,true,true,1⟩,⟨ns .u64 r2,true,true,true,1⟩,⟨ns .u64 [two,z1,z1].flatten,true,true,true,1⟩]) (id:=4) (n:=3) (xs:=[two,z1,z1]) rfl (by decide) (by intro w hw; simp only [Jw,JA,or_false] at hw; rcases hw with rfl | rfl | rfl<;>assumption) rfl
 simp only [Qw,Qr,Jc,JN,Xm,Vk] at hr3 fr3
 obtain ⟨r4,sr4,hr4,Er4,fr4⟩:=YD (H:=[⟨ns .u64 (pL x1 y1 z1 t1),true,true,true,1⟩,⟨Qc 20 (.int .u64 0),true,true,true,1⟩,⟨ns .u64 r1,true,true,true,1⟩,⟨ns .u64 r2,true,true,true,1⟩,⟨ns .u64 [two,z1,z1].flatten,true,true,true,1⟩,⟨ns .u64 r3,true,true,true,1⟩,⟨ns .u64 r3,true,true,true,1⟩,⟨ns .u64 two,true,true,true,1⟩,⟨ns .u64 z1,true,true,true,1⟩,⟨ns .u64 z1,true,true,true,1⟩,⟨ns .u64 r3,true,true,true,1⟩,⟨ns .u64 (r1++r2),true,true,true,1⟩]) (id:=11) Er1 Er2 rfl
 simp only [Qw,Qr] at hr4
 obtain ⟨r5,sr5,hr5,Er5,fr5⟩:=YD (H:=[⟨ns .u64 (pL x1 y1 z1 t1),true,true,true,1⟩,⟨Qc 20 (.int .u64 0),true,true,true,1⟩,⟨ns .u64 r1,true,true,true,1⟩,⟨ns .u64 r2,true,true,true,1⟩,⟨ns .u64 [two,z1,z1].flatten,true,true,true,1⟩,⟨ns .u64 r3,true,true,true,1⟩,⟨ns .u64 r3,true,true,true,1⟩,⟨ns .u64 two,true,true,true,1⟩,⟨ns .u64 z1,true,true,true,1⟩,⟨ns .u64 z1,true,true,true,1⟩,⟨ns .u64 r3,true,true,true,1⟩,⟨ns .u64 (r1++r2),true,true,true,1⟩,⟨ns .u64 r4,true,true,true,1⟩,⟨ns .u64 sr4,true,true,true,1⟩,⟨ns .u64 r1,true,true,true,1⟩,⟨ns .u64 r2,true,true,true,1⟩,⟨ns .u64 r4,true,true,true,1⟩,⟨ns .u64 (x1++y1),true,true,true,1⟩]) (id:=17) Ex1 Ey1 rfl
 simp only [Qw,Qr] at hr5
 obtain ⟨r6,hr6,Er6,fr6⟩:=Xq Er5 Er5
 obtain ⟨r7,hr7,Er7,fr7⟩:=Dt Er4 Er6
 obtain ⟨r8,hr8,Er8,fr8⟩:=Dt Er1 Er2
 obtain ⟨r9,sr9,hr9,Er9,fr9⟩:=YD (H:=[⟨ns .u64 (pL x1 y1 z1 t1),true,true,true,1⟩,⟨Qc 20 (.int .u64 0),true,true,true,1⟩,⟨ns .u64 r1,true,true,true,1⟩,⟨ns .u64 r2,true,true,true,1⟩,⟨ns .u64 [two,z1,z1].flatten,true,true,true,1⟩,⟨ns .u64 r3,true,true,true,1⟩,⟨ns .u64 r3,true,true,true,1⟩,⟨ns .u64 two,true,true,true,1⟩,⟨ns .u64 z1,true,true,true,1⟩,⟨ns .u64 z1,true,true,true,1⟩,⟨ns .u64 r3,true,true,true,1⟩,⟨ns .u64 (r1++r2),true,true,true,1⟩,⟨ns .u64 r4,true,true,true,1⟩,⟨ns .u64 sr4,true,true,true,1⟩,⟨ns .u64 r1,true,true,true,1⟩,⟨ns .u64 r2,true,true,true,1⟩,⟨ns .u64 r4,true,true,true,1⟩,⟨ns .u64 (x1++y1),true,true,true,1⟩,⟨ns .u64 r5,true,true,true,1⟩,⟨ns .u64 sr5,true,true,true,1⟩,⟨ns .u64 x1,true,true,true,1⟩,⟨ns .u64 y1,true,true,true,1⟩,⟨ns .u64 r5,true,true,true,1⟩,⟨ns .u64 r7,true,true,true,1⟩,⟨ns .u64 r8,true,true,true,1⟩,⟨ns .u64 (r3++r8),true,true,true,1⟩]) (id:=25) Er3 Er8 rfl
 simp only [Qw,Qr] at hr9
 obtain ⟨r10,hr10,Er10,fr10⟩:=Xq Er7 Er9
 obtain ⟨r11,hr11,Er11,fr11⟩:=Xq Er8 Er4
 obtain ⟨r12,hr12,Er12,fr12⟩:=Xq Er9 Er8
 obtain ⟨r13,hr13,Er13,fr13⟩:=Xq Er7 Er4
 refine ⟨r10,r11,r12,r13,?_,Er10,Er11,Er12,Er13,fe r1,fe r2,fe r3,fe r4,fe r7,fe r8,fe r9,?_⟩
 ·obtain ⟨q10,q11,q12,q13⟩:=Ic Ex1 Ey1 Ez1 Et1
  have p1:=Vn Ex1 Ey1 Ez1 Et1
  have p3:=Vn Er10 Er11 Er12 Er13
  have k3:=EW Etwo Ez1 Ez1
  have kp:=D0 Er10 Er11 Er12 Er13
  have m1:=D1 Er1 Er2
  have m2:=D1 Ex1 Ey1
  have m3:=D1 Er3 Er8
  have Lx1:=Ex1.len
  have Ly1:=Ey1.len
  have Lz1:=Ez1.len
  have Lt1:=Et1.len
  have Ltwo:=Etwo.len
  have Lr1:=Er1.len
  have Lr2:=Er2.len
  have Lr3:=Er3.len
  have Lr4:=Er4.len
  have Lr5:=Er5.len
  have Lr6:=Er6.len
  have Lr7:=Er7.len
  have Lr8:=Er8.len
  have Lr9:=Er9.len
  have Lr10:=Er10.len
  have Lr11:=Er11.len
  have Lr12:=Er12.len
  have Lr13:=Er13.len
  apply ZI (fn:=a53) rfl
  simp only [a53,Q1,quiet,cW,↓pW,reduceCtorEq,seval,-Qb,Qn,Q5,CU,LK,ko,LL,kh,QW,Zf,ZU,Zg,ZX,QP,q10,q11,q12,q13,p1,p3,k3,kp,m1,m2,m3,vtwo,hr1,hr2,hr3,hr4,hr5,hr6,hr7,hr8,hr9,hr10,hr11,hr12,hr13,Lx1,Ly1,Lz1,Lt1,Ltwo,Lr1,Lr2,Lr3,Lr4,Lr5,Lr6,Lr7,Lr8,Lr9,Lr10,Lr11,Lr12,Lr13]
  rfl
 ·refine ⟨fr1,fr2,by rw [fr3,ftwo],fr4,by rw [fr7,fr6,fr5],fr8,fr9,?_,?_,?_,?_⟩
  ·rw [fr10]
  ·rw [fr11]
  ·rw [fr12]
  ·rw [fr13]
structure Rep (x y z t:List Nat) (p:Go.Cv.Pt Go.Fp.P Go.Fp.d):Prop where
 ex:El x (2^52)
 ey:El y (2^52)
 ez:El z (2^52)
 et:El t (2^52)
 nz:fe z≠0
 x:fe x=p.x*fe z
 y:fe y=p.y*fe z
 t:fe t=p.x*p.y*fe z
abbrev XU (p q:Go.Cv.Pt Go.Fp.P Go.Fp.d):Go.Cv.Pt Go.Fp.P Go.Fp.d:=Go.Cv.Pt.add Go.Fp.fld p q
abbrev JO (k:Nat) (p:Go.Cv.Pt Go.Fp.P Go.Fp.d):Go.Cv.Pt Go.Fp.P Go.Fp.d:=Go.Cv.Pt.mul Go.Fp.fld k p
abbrev K0:Go.Cv.Pt Go.Fp.P Go.Fp.d:=Go.Cv.Pt.zero
theorem T8 {x1 y1 z1 t1 x2 y2 z2 t2 a b c x y t qx qy:Go.Fp.Fe} (hx1:x1=px*z1) (hy1:y1=py*z1) (ht1:t1=px*py*z1) (hx2:x2=qx*z2) (hy2:y2=qy*z2) (ht2:t2=qx*qy*z2)
 (ha:a=(y1-x1)*(y2-x2)) (hb:b=(y1+x1)*(y2+x2)) (hc:c=1*2*dd*t1*t2) (he:e=1*2*z1*z2) (hx:x=(b-a)*(e-c)) (hy:y=(e+c)*(b+a)) (hz:z=(e-c)*(e+c)) (ht:t=(b-a)*(b+a))
 (hrx:rx*(1+dd*px*qx*py*qy)=px*qy+qx*py) (hry:ry*(1-dd*px*qx*py*qy)=py*qy+px*qx) :
    x=rx*z∧y=ry*z∧t=rx*ry*z∧z=(2*z1*z2)*(2*z1*z2)*((1-dd*px*qx*py*qy)*(1+dd*px*qx*py*qy)):=by
  have e1:b-a=(2*z1*z2)*(px*qy+qx*py):=by rw [hb,ha,hx1,hy1,hx2,hy2]; grobner
  have e2:b+a=(2*z1*z2)*(py*qy+px*qx):=by rw [hb,ha,hx1,hy1,hx2,hy2]; grobner
  have e3:e-c=(2*z1*z2)*(1-dd*px*qx*py*qy):=by rw [he,hc,ht1,ht2]; grobner
  have e4:e+c=(2*z1*z2)*(1+dd*px*qx*py*qy):=by rw [he,hc,ht1,ht2]; grobner
  rw [e1,←hrx,e3] at hx
  rw [e4,e2,←hry] at hy
  rw [e3,e4] at hz
  rw [e1,e2,←hrx,←hry] at ht
  clear hx1 hy1 ht1 hx2 hy2 ht2 ha hb hc he hrx hry e1 e2 e3 e4
  generalize 1+dd*px*qx*py*qy=k at *
  generalize 1-dd*px*qx*py*qy=m at *
  generalize 2*z1*z2=w at *
  subst hx hy hz ht
  refine ⟨?_,?_,?_,?_⟩<;>grobner
theorem Rep.plus {x1 y1 z1 t1 x2 y2 z2 t2 d:List Nat} {p q:Go.Cv.Pt Go.Fp.P Go.Fp.d} (h1:Rep x1 y1 z1 t1 p) (h2:Rep x2 y2 z2 t2 q) (Ed:El d (2^52)) (hd:fe d=Go.Fp.d) :
  ∃ x y z t,Z9 T 124 [pV x1 y1 z1 t1,pV x2 y2 z2 t2,eV d]=some (pV x y z t)∧Rep x y z t (XU p q):=by
 obtain ⟨x,y,z,t,hv,Ex,Ey,Ez,Et,a,b,c,e,ha,hb,hc,he,hx,hy,hz,ht⟩:=lC h1.ex h1.ey h1.ez h1.et h2.ex h2.ey h2.ez h2.et Ed
 rw [hd] at hc
 obtain ⟨g1,g2,g3,g4⟩:=T8 h1.x h1.y h1.t h2.x h2.y h2.t ha hb hc he hx hy hz ht (Go.Cv.GW Go.Fp.fld p q) (Go.Cv.GV Go.Fp.fld p q)
 refine ⟨x,y,z,t,hv,Ex,Ey,Ez,Et,?_,g1,g2,g3⟩
 rw [g4]
 have F:=Go.Fp.fld
 have w:=F.mul_ne (F.mul_ne F.two h1.nz) h2.nz
 exact F.mul_ne (F.mul_ne w w) (F.mul_ne (F.denM p.on q.on) (F.denP p.on q.on))
theorem FV {x1 y1 z1 a b c h g f x y t:Go.Fp.Fe} (hx1:x1=px*z1) (hy1:y1=py*z1) (on : -(px*px)+py*py=1+dd*(px*px)*(py*py))
 (ha:a=x1*x1) (hb:b=y1*y1) (hc:c=1*2*z1*z1) (hh:h=a+b) (he:e=h-(x1+y1)*(x1+y1)) (hg:g=a-b) (hf:f=c+g) (hx:x=e*f) (hy:y=g*h) (hz:z=f*g) (ht:t=e*h)
 (hrx:rx*(1+dd*px*px*py*py)=px*py+px*py) (hry:ry*(1-dd*px*px*py*py)=py*py+px*px) :
    x=rx*z∧y=ry*z∧t=rx*ry*z∧z = -((z1*z1)*(z1*z1)*((1-dd*px*px*py*py)*(1+dd*px*px*py*py))):=by
  have e1:e = -((z1*z1)*(px*py+px*py)):=by rw [he,hh,ha,hb,hx1,hy1]; grobner
  have e2:h=(z1*z1)*(py*py+px*px):=by rw [hh,ha,hb,hx1,hy1]; grobner
  have e3:g = -((z1*z1)*(1+dd*px*px*py*py)):=by
    have:1+dd*px*px*py*py=py*py-px*px:=by
      clear hx1 hy1 ha hb hc hh he hg hf hx hy hz ht hrx hry e1 e2
      grobner
    rw [this,hg,ha,hb,hx1,hy1]; grobner
  have e4:f=(z1*z1)*(1-dd*px*px*py*py):=by
    rw [hf,e3,hc]
    clear hx1 hy1 on ha hb hc hh he hg hf hx hy hz ht hrx hry e1 e2 e3
    grobner
  rw [←hrx] at e1
  rw [←hry] at e2
  clear hx1 hy1 on ha hb hc hh he hg hf hrx hry
  generalize 1+dd*px*px*py*py=k at *
  generalize 1-dd*px*px*py*py=m at *
  generalize z1*z1=w at *
  subst e1 e2 e3 e4 hx hy hz ht
  refine ⟨?_,?_,?_,?_⟩<;>grobner
theorem Rep.twice {x1 y1 z1 t1:List Nat} {p:Go.Cv.Pt Go.Fp.P Go.Fp.d} (h1:Rep x1 y1 z1 t1 p):∃ x y z t,Z9 T 117 [pV x1 y1 z1 t1]=some (pV x y z t)∧Rep x y z t (XU p p):=by
 obtain ⟨x,y,z,t,hv,Ex,Ey,Ez,Et,a,b,c,h,e,g,f,ha,hb,hc,hh,he,hg,hf,hx,hy,hz,ht⟩:=dY h1.ex h1.ey h1.ez h1.et
 obtain ⟨g1,g2,g3,g4⟩:=FV h1.x h1.y p.on ha hb hc hh he hg hf hx hy hz ht (Go.Cv.GW Go.Fp.fld p p) (Go.Cv.GV Go.Fp.fld p p)
 refine ⟨x,y,z,t,hv,Ex,Ey,Ez,Et,?_,g1,g2,g3⟩
 rw [g4]
 have F:=Go.Fp.fld
 have w:=F.mul_ne h1.nz h1.nz
 have n:=F.mul_ne (F.mul_ne w w) (F.mul_ne (F.denM p.on p.on) (F.denP p.on p.on))
 intro h0
 exact n (by grobner)
def RepL (l:List Nat) (p:Go.Cv.Pt Go.Fp.P Go.Fp.d):Prop:=∃ x y z t,l=pL x y z t∧Rep x y z t p
theorem RepL.len {l:List Nat} {p:Go.Cv.Pt Go.Fp.P Go.Fp.d} (h:RepL l p):l.length=20:=by
 obtain ⟨x,y,z,t,rfl,h⟩:=h
 exact Vn h.ex h.ey h.ez h.et
theorem kj {d:List Nat} (h1:RepL l p) (h2:RepL m q) (Ed:El d (2^52)) (hd:fe d=Go.Fp.d):∃ r,Z9 T 124 [eV l,eV m,eV d]=some (eV r)∧RepL r (XU p q):=by
 obtain ⟨x,y,z,t,rfl,h1⟩:=h1
 obtain ⟨x2,y2,z2,t2,rfl,h2⟩:=h2
 obtain ⟨a,b,c,e,h3,h4⟩:=h1.plus h2 Ed hd
 exact ⟨pL a b c e,h3,a,b,c,e,rfl,h4⟩
theorem Al (h1:RepL l p):∃ r,Z9 T 117 [eV l]=some (eV r)∧RepL r (XU p p):=by
 obtain ⟨x,y,z,t,rfl,h1⟩:=h1
 obtain ⟨a,b,c,e,h3,h4⟩:=h1.twice
 exact ⟨pL a b c e,h3,a,b,c,e,rfl,h4⟩
def dK:List Nat:=dig 256 32 Go.Fp.dN
theorem mQ:num 256 dK=Go.Fp.dN:=by decide +kernel
theorem dK_lt:∀ x∈dK,x<256:=fun _ h=>KP (by decide) h
theorem Rs:∃ r,Z9 T 113 []=some (eV r)∧El r (2^52)∧fe r=Go.Fp.d:=by
 have h:=aS (k:=dK) (Zt _ _ _) dK_lt
 refine ⟨dig (2^51) 5 (num 256 dK%2^255),?_,Eo,?_⟩
 rotate_left
 ·unfold fe
  rw [Rb,mQ]
  rfl
 ·have hl:(dig (2^51) 5 (num 256 dK%2^255)).length=5:=Zt _ _ _
  have hf:fillL (Qc 32 (Value.int .u8 0)) [(0,1,.int .u8 163),(1,1,.int .u8 120),(2,1,.int .u8 89),(3,1,.int .u8 19),(4,1,.int .u8 202),(5,1,.int .u8 77),(6,1,.int .u8 235),(7,1,.int .u8 117),(8,1,.int .u8 171),(9,1,.int .u8 216),(10,1,.int .u8 65),(11,1,.int .u8 65),(12,1,.int .u8 77),(13,1,.int .u8 10),(14,1,.int .u8 112),(15,1,.int .u8 0),(16,1,.int .u8 152),(17,1,.int .u8 232),(18,1,.int .u8 121),(19,1,.int .u8 119),(20,1,.int .u8 121),(21,1,.int .u8 64),(22,1,.int .u8 199),(23,1,.int .u8 140),(24,1,.int .u8 115),(25,1,.int .u8 254),(26,1,.int .u8 111),(27,1,.int .u8 43),(28,1,.int .u8 238),(29,1,.int .u8 108),(30,1,.int .u8 3),(31,1,.int .u8 82)]=some (u8s dK):=by
   have:dK=[163,120,89,19,202,77,235,117,171,216,65,65,77,10,112,0,152,232,121,119,121,64,199,140,115,254,111,43,238,108,3,82]:=by decide +kernel
   rw [this]; rfl
  generalize dig (2^51) 5 (num 256 dK%2^255)=D at *
  apply ZI (fn:=a52) rfl
  simp only [a52,Q1,quiet,cW,↓pW,reduceCtorEq,seval,-Qb,hf,h,Qn,Q5,QW,Zf,ZU,Zg,ZX,QP,hl]
  rfl
theorem aG:Z9 T 111 [.int .u32 1]=some (eV [1,0,0,0,0]):=DT (n:=1) (by decide)
theorem Mm:El [0,0,0,0,0] (2^52):=Gj (by decide)
theorem Ls:fe [0,0,0,0,0]=0:=by rw [Gi]; rfl
theorem FJ:∃ r,Z9 T 118 []=some (eV r)∧RepL r K0:=by
 refine ⟨pL [0,0,0,0,0] [1,0,0,0,0] [1,0,0,0,0] [0,0,0,0,0],?_,_,_,_,_,rfl,Mm,HZ,HZ,Mm,?_,?_,?_,?_⟩
 ·have hf:fillL (Qc 20 (Value.int .u64 0)) [(5,5,eV [1,0,0,0,0]),(10,5,eV [1,0,0,0,0])]=some (ns .u64 (pL [0,0,0,0,0] [1,0,0,0,0] [1,0,0,0,0] [0,0,0,0,0])):=rfl
  have hl:(pL [0,0,0,0,0] [1,0,0,0,0] [1,0,0,0,0] [0,0,0,0,0]).length=20:=rfl
  have hv:=aG
  generalize pL [0,0,0,0,0] [1,0,0,0,0] [1,0,0,0,0] [0,0,0,0,0]=Z at *
  generalize ([1,0,0,0,0]:List Nat)=O at *
  apply ZI (fn:=a30) rfl
  simp only [a30,Q1,quiet,cW,↓pW,reduceCtorEq,seval,-Qb,hf,hv,Qn,Q5,QW,Zf,ZU,Zg,ZX,QP,hl]
  rfl
 ·rw [HY]; exact Go.Fp.Ut
 ·rw [Ls]; simp only [Go.Cv.Pt.zero]; grobner
 ·rw [HY]; simp only [Go.Cv.Pt.zero]; grobner
 ·rw [Ls]; simp only [Go.Cv.Pt.zero]; grobner
theorem T7 (p:Go.Cv.Pt Go.Fp.P Go.Fp.d) (m b:Nat) (hb:b<2):JO (2*m+b) p=if b=1 then XU (XU (JO m p) (JO m p)) p else XU (JO m p) (JO m p):=by
 have h1:JO (2*m) p=XU (JO m p) (JO m p):=by rw [show 2*m=m+m by omega]; exact Go.Cv.mul_add Go.Fp.fld m m p
 by_cases h:b=1
 ·subst h
  rw [if_pos rfl]
  show XU (JO (2*m) p) p=_
  rw [h1]
 ·have:b=0:=by omega
  subst this
  rw [if_neg (by decide),ZF,h1]
def muI (l k o d:List Nat) (R:Ob) (i:Int) (ex:Env):St:=⟨[(2,.pointer (some ⟨0,0,none⟩)),(3,.pointer (some ⟨1,0,none⟩)),(4,.pointer (some ⟨2,0,none⟩)),(5,.pointer (some ⟨3,0,none⟩)),(6,.pointer (some ⟨4,0,none⟩)),(7,.int .i64 i)]++ex,[⟨ns .u64 l,true,true,true,1⟩,⟨u8s k,true,true,true,1⟩,R,⟨ns .u64 o,true,true,true,1⟩,⟨ns .u64 d,true,true,true,1⟩],[]⟩
theorem fP {k d:List Nat} (hl:RepL l p) (lk:k.length=32) (xk:∀ x∈k,x<256) (hi:i<256) (Ed:El d (2^52)) (hd:fe d=Go.Fp.d) (ho:RepL o (JO (num 256 k/2^(i+1)) p)) :
  ∃ r,Q8 T 0 Dn (muI l k o d R i [])=some (.normal,muI l k r d R ((i:Int)-1) [])∧RepL r (JO (num 256 k/2^i) p):=by
 obtain ⟨b,hb⟩:∃ b,k[i/8]?=some b:=⟨_,Qh (by omega)⟩
 have hbv:=VN (B:=256) (by decide) xk hb
 have hbc:=Jr hb
 have hbit:b/2^(i%8)%2=num 256 k/2^i%2:=by
  rw [←hbv,show (256:Nat)=2^8 from rfl,Nr (Q3 _ (by decide)),ZK]
 obtain ⟨r1,m1,g1⟩:=Al ho
 obtain ⟨r2,m2,g3⟩:=kj g1 hl Ed hd
 have hlt:=R8 (num 256 k) i
 have hnum:num 256 k/2^i=2*(num 256 k/2^(i+1))+num 256 k/2^i%2:=by
  rw [Z0,←Jl]
  omega
 have hstep:=T7 p (num 256 k/2^(i+1)) (num 256 k/2^i%2) hlt
 rw [←hnum] at hstep
 have s1:(2:Int)^min (i%8) IntKind.u8.bits=((2^(i%8):Nat):Int):=W2 (Xf (Q3 _ (by decide)))
 have w2:IntKind.i64.wrap ((i/8:Nat):Int)=((i/8:Nat):Int):=Jb (by omega)
 have w3:IntKind.i64.wrap ((i:Int)-1)=(i:Int)-1:=Z2 (by omega) (by omega)
 have e1:((0:Int)≤(i:Int))=True:=eq_true (by omega)
 have e3:(((i/8:Nat):Int)<32)=True:=eq_true (by omega)
 have e4:(((i%8:Nat):Int)<0)=False:=eq_false (by omega)
 have l1:=hl.len
 have l2:=ho.len
 have l3:=g1.len
 have l4:=g3.len
 have l5:=Ed.len
 generalize hB:num 256 k/2^i%2=B at *
 by_cases hB1:B=1
 ·have hbq:((B:Int)==1)=true:=by rw [hB1]; rfl
  rw [if_pos hB1] at hstep
  refine ⟨r2,?_,by rw [hstep]; exact g3⟩
  simp only [muI,Dn,Q1,quiet,cW,↓pW,reduceCtorEq,seval,-Qb,cU,hbc,hbit,s1,w2,w3,e1,e3,e4,m1,m2,hbq,Q5,QW,Zf,ZU,Zg,QP,l1,l2,l3,l4,l5,ZX]
 ·have hbq:((B:Int)==1)=false:=by
   have:B=0:=by omega
   rw [this]; rfl
  rw [if_neg hB1] at hstep
  refine ⟨r1,?_,by rw [hstep]; exact g1⟩
  simp only [muI,Dn,Q1,quiet,cW,↓pW,reduceCtorEq,seval,-Qb,cU,hbc,hbit,s1,w2,w3,e1,e3,e4,m1,m2,hbq,Q5,QW,Zf,ZU,Zg,QP,l1,l2,l3,l4,l5,ZX]
theorem Yg {k:List Nat} (hl:RepL l p) (lk:k.length=32) (xk:∀ x∈k,x<256):∃ r,Z9 T 67 [eV l,.agg (u8s k).toArray]=some (eV r)∧RepL r (JO (num 256 k) p):=by
 have hK:=num_lt xk
 rw [lk,show (256:Nat)^32=2^256 from by rw [show (256:Nat)=2^8 from rfl,←Jh]] at hK
 obtain ⟨z,hz,hz2⟩:=FJ
 obtain ⟨d,hd1,Ed,hd⟩:=Rs
 obtain ⟨st,hb,r,rfl,hr1⟩:=QZ (T:=T) (base:=0) (id:=0) (body:=Dn)
  (fun j st=>∃ r:List Nat,st=muI l k r d ⟨Qc 20 (.int .u64 0),true,true,true,1⟩ ((255:Int)-j) []∧RepL r (JO (num 256 k/2^(256-j)) p))
  (Q:=fun st=>∃ r:List Nat,st=muI l k r d ⟨Qc 20 (.int .u64 0),true,true,true,1⟩ (-1) [(11,.bool false)]∧RepL r (JO (num 256 k) p))
  256 (s:=muI l k z d ⟨Qc 20 (.int .u64 0),true,true,true,1⟩ 255 []) ⟨_,rfl,by rw [Hz,Xr hK]; exact hz2⟩
  (fun j st hj hs=>by
   obtain ⟨r,rfl,h2⟩:=hs
   obtain ⟨i,hi⟩:∃ i,256-j=i+1:=⟨255-j,by omega⟩
   rw [hi] at h2
   obtain ⟨r',g1,g3⟩:=fP (R:=⟨Qc 20 (.int .u64 0),true,true,true,1⟩) hl lk xk (i:=i) (by omega) Ed hd h2
   rw [show (255:Int)-j=(i:Int) by omega]
   refine ⟨_,g1,r',?_,?_⟩
   ·rw [show (255:Int)-((j+1:Nat):Int)=(i:Int)-1 by omega]
   ·rw [show 256-(j+1)=i by omega]; exact g3)
  (fun st hs=>by
   obtain ⟨r,rfl,h2⟩:=hs
   rw [Qs,Xe,XI] at h2
   have e:((0:Int) ≤ -1)=False:=by decide
   refine ⟨_,?_,r,rfl,h2⟩
   rw [show (255:Int)-((256:Nat):Int) = -1 by omega]
   simp only [muI,Dn,Q1,quiet,cK,↓pQ,reduceCtorEq,seval,-Qb,cL,e])
 refine ⟨r,?_,hr1⟩
 have l1:=hl.len
 have l2:=hz2.len
 have l3:=hr1.len
 have l4:=Ed.len
 simp only [muI,Qw,Qr] at hb
 apply ZI (fn:=a26) rfl
 simp only [a26,Q1,quiet,cW,↓pW,reduceCtorEq,seval,-Qb,hz,hd1,hb,muI,Qn,Q5,QW,Zf,ZU,Zg,QP,l1,l2,l3,l4,ZX]
 rfl
theorem mr (hl:RepL l p):∃ r,Z9 T 68 [eV l]=some (eV r)∧RepL r p.neg:=by
 obtain ⟨x,y,z,t,rfl,h⟩:=hl
 obtain ⟨a,ha,Ea,fa⟩:=TH h.ex
 obtain ⟨b,hb,Eb,fb⟩:=TH h.et
 obtain ⟨q0,q1,q2,q3⟩:=Ic h.ex h.ey h.ez h.et
 have hf:=D0 Ea h.ey h.ez Eb
 have p1:=Vn h.ex h.ey h.ez h.et
 have p2:=Vn Ea h.ey h.ez Eb
 refine ⟨pL a y z b,?_,a,y,z,b,rfl,Ea,h.ey,h.ez,Eb,h.nz,?_,?_,?_⟩
 ·generalize pL x y z t=L,pL a y z b=M at *
  apply ZI (fn:=a34) rfl
  simp only [a34,Q1,quiet,cW,↓pW,reduceCtorEq,seval,-Qb,q0,q1,q2,q3,ha,hb,hf,Qn,Q5,QW,Zf,ZU,Zg,QP,p1,p2,ZX]
  rfl
 ·rw [fa,h.x]; simp only [Go.Cv.Pt.neg]; grobner
 ·rw [h.y]; rfl
 ·rw [fb,h.t]; simp only [Go.Cv.Pt.neg]; grobner
instance decPt (p q:Go.Cv.Pt Go.Fp.P Go.Fp.d):Decidable (p=q):=if h:p.x=q.x∧p.y=q.y then isTrue (Go.Cv.Pt.ext h.1 h.2) else isFalse (fun e=>h (by rw [e]; exact ⟨rfl,rfl⟩))
theorem Sy {a b w:Go.Fp.Fe} (hz:z≠0) (hw:w≠0):(a*z*w=b*w*z)=(a=b):=by
 apply propext
 constructor
 ·intro h
  have F:=Go.Fp.fld
  refine F.cancel (F.mul_ne hz hw) ?_
  grobner
 ·intro h; subst h; grobner
theorem gT {p q:Go.Cv.Pt Go.Fp.P Go.Fp.d} (h1:RepL l p) (h2:RepL m q):Z9 T 116 [eV l,eV m]=some (.bool (decide (p=q))):=by
 obtain ⟨x1,y1,z1,t1,rfl,h1⟩:=h1
 obtain ⟨x2,y2,z2,t2,rfl,h2⟩:=h2
 obtain ⟨a,ha,Ea,fa⟩:=Xq h1.ex h2.ez
 obtain ⟨b,hb,Eb,fb⟩:=Xq h2.ex h1.ez
 obtain ⟨c,hc,Ec,fc⟩:=Xq h1.ey h2.ez
 obtain ⟨e,he,Ee,fe_⟩:=Xq h2.ey h1.ez
 have q1:=gU Ea Eb
 have q2:=gU Ec Ee
 rw [fa,fb,h1.x,h2.x] at q1
 rw [fc,fe_,h1.y,h2.y] at q2
 simp only [Sy h1.nz h2.nz] at q1 q2
 obtain ⟨u0,u1,u2,u3⟩:=Ic h1.ex h1.ey h1.ez h1.et
 obtain ⟨v0,v1,v2,v3⟩:=Ic h2.ex h2.ey h2.ez h2.et
 have p1:=Vn h1.ex h1.ey h1.ez h1.et
 have p2:=Vn h2.ex h2.ey h2.ez h2.et
 generalize pL x1 y1 z1 t1=L,pL x2 y2 z2 t2=M at *
 by_cases hx:p.x=q.x
 ·rw [decide_eq_true hx] at q1
  have hd:decide (p=q)=decide (p.y=q.y):=by
   by_cases hy:p.y=q.y
   ·rw [decide_eq_true hy,decide_eq_true (Go.Cv.Pt.ext hx hy)]
   ·rw [decide_eq_false hy,decide_eq_false (fun h=>hy (by rw [h]))]
  rw [hd]
  apply ZI (fn:=a28) rfl
  simp only [a28,Q1,quiet,cW,↓pW,reduceCtorEq,seval,-Qb,u0,u1,u2,v0,v1,v2,ha,hb,hc,he,q1,q2,Qn,Q5,QW,Zf,ZU,Zg,QP,p1,p2,ZX]
  rfl
 ·rw [decide_eq_false hx] at q1
  rw [decide_eq_false (fun h=>hx (by rw [h]))]
  apply ZI (fn:=a28) rfl
  simp only [a28,Q1,quiet,cW,↓pW,reduceCtorEq,seval,-Qb,u0,u1,u2,v0,v1,v2,ha,hb,hc,he,q1,q2,Qn,Q5,QW,Zf,ZU,Zg,QP,p1,p2,ZX]
  rfl
theorem cg (p:Go.Cv.Pt Go.Fp.P Go.Fp.d):XU (XU (XU p p) (XU p p)) (XU (XU p p) (XU p p))=JO 8 p:=by
 have h2:JO 2 p=XU p p:=Go.Cv.mul_two Go.Fp.fld p
 have h4:JO 4 p=XU (JO 2 p) (JO 2 p):=Go.Cv.mul_add Go.Fp.fld 2 2 p
 have h8:JO 8 p=XU (JO 4 p) (JO 4 p):=Go.Cv.mul_add Go.Fp.fld 4 4 p
 rw [h8,h4,h2]
theorem kM (h:RepL l p):Z9 T 62 [eV l]=some (.bool (decide (JO 8 p=K0))):=by
 obtain ⟨a,ha,ra⟩:=Al h
 obtain ⟨b,hb,rb⟩:=Al ra
 obtain ⟨c,hc,rc⟩:=Al rb
 obtain ⟨z,hz,rz⟩:=FJ
 have he:=gT rc rz
 rw [cg] at he
 have p1:=h.len
 apply ZI (fn:=a39) rfl
 simp only [a39,Q1,quiet,cW,↓pW,reduceCtorEq,seval,-Qb,ha,hb,hc,hz,he,Q5,QW,Zf,ZU,Zg,QP,p1,ZX]
 rfl
def DH (p:Go.Cv.Pt Go.Fp.P Go.Fp.d):Nat:=p.y.val+(p.x.val%2)*2^255
def enc (p:Go.Cv.Pt Go.Fp.P Go.Fp.d):List Nat:=dig 256 32 (DH p)
theorem GJ (p:Go.Cv.Pt Go.Fp.P Go.Fp.d):(enc p).length=32:=Zt _ _ _
theorem bY (p:Go.Cv.Pt Go.Fp.P Go.Fp.d):∀ x∈enc p,x<256:=UA
theorem Mr (a:Go.Fp.Fe):a.val<2^255:=Kq a.isLt (by rw [Go.Fp.UL]; decide)
theorem AW (p:Go.Cv.Pt Go.Fp.P Go.Fp.d):DH p<256^32:=by
 have h1:=Mr p.y
 have h2:=Q3 p.x.val (by decide:0<2)
 unfold DH
 have:p.x.val%2*2^255≤1*2^255:=JL _ (by omega)
 have e:(256:Nat)^32=2^255+2^255:=by decide
 omega
theorem GI {p:Go.Cv.Pt Go.Fp.P Go.Fp.d} (h:RepL l p):Z9 T 69 [eV l]=some (.agg (u8s (enc p)).toArray):=by
 obtain ⟨x,y,z,t,rfl,h⟩:=h
 obtain ⟨i,hi,Ei,fi⟩:=bn h.ez
 obtain ⟨a,ha,Ea,fa⟩:=Xq h.ey Ei
 obtain ⟨b,hb,Eb,fb⟩:=Xq h.ex Ei
 have hinv:=Go.Fp.IC h.nz
 have fa':fe a=p.y:=by rw [fa,fi,h.y]; grobner
 have fb':fe b=p.x:=by rw [fb,fi,h.x]; grobner
 have k1:=Bd Ea
 have k2:=aT Eb
 rw [fa'] at k1
 rw [fb'] at k2
 obtain ⟨u0,u1,u2,u3⟩:=Ic h.ex h.ey h.ez h.et
 have p1:=Vn h.ex h.ey h.ez h.et
 have L1:=Ei.len
 have lk:(dig 256 32 p.y.val).length=32:=Zt _ _ _
 have l0:(dig 256 32 0).length=32:=rfl
 have hz32:Qc 32 (Value.int .u8 0)=u8s (dig 256 32 0):=rfl
 generalize pL x y z t=L at *
 by_cases ho:p.x.val%2=1
 ·rw [decide_eq_true ho] at k2
  have hv:=Mr p.y
  obtain ⟨w,hw⟩:∃ w,(dig 256 32 p.y.val)[31]?=some w:=⟨_,Qh (by rw [Zt]; decide)⟩
  have hwc:=Jr hw
  have hw':w<256:=KP (by decide) (Qz hw)
  have hput:=Md (w:=8) (m:=32) (q:=31) (s:=7) (y:=1) (M:=p.y.val) (by decide) (by decide) hv (by decide)
  have hgd:(dig (2^8) 32 p.y.val).getD 31 0=w:=by rw [Qx]; rw [show (2:Nat)^8=256 from rfl,hw]; rfl
  rw [hgd] at hput
  have hset:=XC (dig 256 32 p.y.val) 31 (w|||128)
  rw [show (dig 256 32 p.y.val).set 31 (w|||128)=enc p from by rw [enc,DH,ho]; exact hput] at hset
  have o1:Zo .or .u8 (w:Int) 128=((w|||128:Nat):Int):=K7 (k := .u8) (a:=w) (b:=128) rfl hw' (by decide)
  have le:=GJ p
  generalize enc p=E at *
  apply ZI (fn:=a29) rfl
  simp only [a29,Q1,quiet,cW,↓pW,reduceCtorEq,seval,-Qb,hz32,u0,u1,u2,hi,ha,hb,k1,k2,hwc,o1,hset,Qn,Q5,QW,Zf,ZU,Zg,QP,Qp,lk,l0,le,p1,L1,ZX]
  rfl
 ·rw [decide_eq_false ho] at k2
  have he:enc p=dig 256 32 p.y.val:=by rw [enc,DH,show p.x.val%2=0 by omega,Kp,ZF]
  rw [he]
  generalize dig 256 32 p.y.val=E at *
  apply ZI (fn:=a29) rfl
  simp only [a29,Q1,quiet,cW,↓pW,reduceCtorEq,seval,-Qb,hz32,u0,u1,u2,hi,ha,hb,k1,k2,Qn,Q5,QW,Zf,ZU,Zg,QP,Qp,lk,l0,p1,L1,ZX]
  rfl
def bxN:Nat:=15112221349535400772501151409588531511454012693041857206046113283949847762202
def byN:Nat:=46316835694926478169428394003475163141307993866256225615783033603165251855960
def Kh:Go.Cv.Pt Go.Fp.P Go.Fp.d:=⟨Go.Fp.fp bxN,Go.Fp.fp byN,by
 unfold Go.Cv.On Go.Fp.d
 have h:(Go.Fp.fp byN*Go.Fp.fp byN:Go.Fp.Fe)=Go.Fp.fp bxN*Go.Fp.fp bxN+(1+Go.Fp.fp Go.Fp.dN*(Go.Fp.fp bxN*Go.Fp.fp bxN)*(Go.Fp.fp byN*Go.Fp.fp byN)):=by
  rw [←Go.Fp.AU,←Go.Fp.XZ,←Go.Fp.XZ,←Go.Fp.XZ,←Go.Fp.XZ,←Go.Fp.Vd,←Go.Fp.Vd]
  exact Go.Fp.EO.2 (by decide +kernel)
 grobner⟩
def bxK:List Nat:=dig 256 32 bxN
def byK:List Nat:=dig 256 32 byN
theorem iu:num 256 bxK=bxN:=by decide +kernel
theorem ir:num 256 byK=byN:=by decide +kernel
theorem Lg:∃ r,Z9 T 66 []=some (eV r)∧RepL r Kh:=by
 have h1:=aS (k:=bxK) (Zt _ _ _) UA
 have h2:=aS (k:=byK) (Zt _ _ _) UA
 have E1:=Eo (V:=num 256 bxK%2^255)
 have E2:=Eo (V:=num 256 byK%2^255)
 have f1:fe (dig (2^51) 5 (num 256 bxK%2^255))=Go.Fp.fp bxN:=by unfold fe; rw [Rb,iu]; rfl
 have f2:fe (dig (2^51) 5 (num 256 byK%2^255))=Go.Fp.fp byN:=by unfold fe; rw [Rb,ir]; rfl
 generalize dig (2^51) 5 (num 256 bxK%2^255)=X,dig (2^51) 5 (num 256 byK%2^255)=Y at *
 obtain ⟨t,ht,Et,ft⟩:=Xq E1 E2
 have E3:∃ O:List Nat,O=[1,0,0,0,0]:=⟨_,rfl⟩
 obtain ⟨O,hO⟩:=E3
 have E3:El O (2^52):=by rw [hO]; exact HZ
 have v1:Z9 T 111 [.int .u32 1]=some (eV O):=by rw [hO]; exact aG
 have f3:fe O=1:=by rw [hO]; exact HY
 clear hO
 have hf:=D0 E1 E2 E3 Et
 have p1:=Vn E1 E2 E3 Et
 refine ⟨pL X Y O t,?_,X,Y,O,t,rfl,E1,E2,E3,Et,by rw [f3]; exact Go.Fp.Ut,by rw [f1,f3]; simp only [Kh]; grobner,by rw [f2,f3]; simp only [Kh]; grobner,by rw [ft,f1,f2,f3]; simp only [Kh]; grobner⟩
 have L1:=E1.len
 have L2:=E2.len
 have g1:fillL (Qc 32 (Value.int .u8 0)) [(0,1,.int .u8 26),(1,1,.int .u8 213),(2,1,.int .u8 37),(3,1,.int .u8 143),(4,1,.int .u8 96),(5,1,.int .u8 45),(6,1,.int .u8 86),(7,1,.int .u8 201),(8,1,.int .u8 178),(9,1,.int .u8 167),(10,1,.int .u8 37),(11,1,.int .u8 149),(12,1,.int .u8 96),(13,1,.int .u8 199),(14,1,.int .u8 44),(15,1,.int .u8 105),(16,1,.int .u8 92),(17,1,.int .u8 220),(18,1,.int .u8 214),(19,1,.int .u8 253),(20,1,.int .u8 49),(21,1,.int .u8 226),(22,1,.int .u8 164),(23,1,.int .u8 192),(24,1,.int .u8 254),(25,1,.int .u8 83),(26,1,.int .u8 110),(27,1,.int .u8 205),(28,1,.int .u8 211),(29,1,.int .u8 54),(30,1,.int .u8 105),(31,1,.int .u8 33)]=some (u8s bxK):=by
  have:bxK=[26,213,37,143,96,45,86,201,178,167,37,149,96,199,44,105,92,220,214,253,49,226,164,192,254,83,110,205,211,54,105,33]:=by decide +kernel
  rw [this]; rfl
 have g2:fillL (Qc 32 (Value.int .u8 0)) [(0,1,.int .u8 88),(1,1,.int .u8 102),(2,1,.int .u8 102),(3,1,.int .u8 102),(4,1,.int .u8 102),(5,1,.int .u8 102),(6,1,.int .u8 102),(7,1,.int .u8 102),(8,1,.int .u8 102),(9,1,.int .u8 102),(10,1,.int .u8 102),(11,1,.int .u8 102),(12,1,.int .u8 102),(13,1,.int .u8 102),(14,1,.int .u8 102),(15,1,.int .u8 102),(16,1,.int .u8 102),(17,1,.int .u8 102),(18,1,.int .u8 102),(19,1,.int .u8 102),(20,1,.int .u8 102),(21,1,.int .u8 102),(22,1,.int .u8 102),(23,1,.int .u8 102),(24,1,.int .u8 102),(25,1,.int .u8 102),(26,1,.int .u8 102),(27,1,.int .u8 102),(28,1,.int .u8 102),(29,1,.int .u8 102),(30,1,.int .u8 102),(31,1,.int .u8 102)]=some (u8s byK):=by
  have:byK=[88,102,102,102,102,102,102,102,102,102,102,102,102,102,102,102,102,102,102,102,102,102,102,102,102,102,102,102,102,102,102,102]:=by decide +kernel
  rw [this]; rfl
 generalize pL X Y O t=Q at *
 apply ZI (fn:=a25) rfl
 simp only [a25,Q1,quiet,cW,↓pW,reduceCtorEq,seval,-Qb,g1,g2,h1,h2,v1,ht,hf,Qn,Q5,QW,Zf,ZU,Zg,QP,p1,L1,L2,ZX]
 rfl
theorem lL (hb:b.length=20) (ha:a.length=n):Q2 20 (Zr n (ns .u64 (a++(b++c))))=ns .u64 b:=by
 simp only [UT]
 rw [ZH (by rw [QP]; omega),Ju (by rw [QP]; omega),Qr,ZT (by rw [QP]; omega),Qu (by rw [QP]; omega)]
theorem Pw {l:List Ob} {r d:List Nat} {g:List Ob} (hi:i<n) (hn:n<100) (l1:x.length=20) (l2:o.length=20) (l4:d.length=5) (hm:Z9 T 124 [eV o,eV x,eV d]=some (eV r)) (l3:r.length=20)
 (hA:∀ l,(H++l)[id]?=some ⟨cs,true,true,true,1⟩) (hcs:(cs.drop (i*20)).take 20=ns .u64 x) (hlen:i*20+20≤cs.length) :
    Q8 T H.length RO ⟨[(2,.pointer (some ⟨H.length,0,none⟩)),(3,.pointer (some ⟨H.length+1,0,none⟩)),(4,.pointer (some ⟨H.length+2,0,none⟩)),(9,.slice (some ⟨id,0,none⟩) n n),(10,.int .i64 n),(11,.int .i64 i)],H++(R::⟨ns .u64 o,true,true,true,1⟩::⟨ns .u64 d,true,true,true,1⟩::g),[]⟩ =
      some (.normal,⟨[(2,.pointer (some ⟨H.length,0,none⟩)),(3,.pointer (some ⟨H.length+1,0,none⟩)),(4,.pointer (some ⟨H.length+2,0,none⟩)),(9,.slice (some ⟨id,0,none⟩) n n),(10,.int .i64 n),(11,.int .i64 ((i+1:Nat):Int))],H++(R::⟨ns .u64 r,true,true,true,1⟩::⟨ns .u64 d,true,true,true,1⟩::(g++[⟨ns .u64 x,true,true,true,1⟩])),[]⟩):=by
  have hz:∃ Z,Qc 20 (Value.int .u64 0)=ns .u64 Z∧Z.length=20:=⟨Qc 20 0,rfl,rfl⟩
  obtain ⟨Z,hz,l0⟩:=hz
  have e1:((i:Int)<(n:Int))=True:=eq_true (by omega)
  have w3:IntKind.i64.wrap ((i:Int)+1)=((i+1:Nat):Int):=Jb (n:=i+1) (by omega)
  simp only [RO,Q1,quiet,cF,Jx,Z7,↓pQ,reduceCtorEq,seval,-Qb,cL,cJ,Zh,hz,hA,hcs,hlen,hm,QW,Zf,ZU,Zg,QP,l0,l1,l2,l3,l4,ZX,e1,w3]
inductive Reps:List (List Nat)→List (Go.Cv.Pt Go.Fp.P Go.Fp.d)→Prop
 | nil:Reps [] []
 | cons {x xs p ps}:RepL x p→Reps xs ps→Reps (x::xs) (p::ps)
theorem Reps.len {xs:List (List Nat)} {ps:List (Go.Cv.Pt Go.Fp.P Go.Fp.d)} (h:Reps xs ps):xs.length=ps.length:=by
 induction h with
 | nil=>rfl
 | cons _ _ ih=>simp [ih]
theorem Reps.all {xs:List (List Nat)} {ps:List (Go.Cv.Pt Go.Fp.P Go.Fp.d)} (h:Reps xs ps):∀ x∈xs,x.length=20:=by
 induction h with
 | nil=>simp
 | cons h _ ih=>intro y hy; rcases Jw.1 hy with rfl | hy; exact h.len; exact ih y hy
theorem Reps.get {xs:List (List Nat)} {ps:List (Go.Cv.Pt Go.Fp.P Go.Fp.d)} (h:Reps xs ps):∀ {i:Nat} {x:List Nat},xs[i]?=some x→∃ p,ps[i]?=some p∧RepL x p:=by
 induction h with
 | nil=>intro i x h; simp at h
 | cons h _ ih =>
  intro i x hx
  cases i with
  | zero=>simp at hx; subst hx; exact ⟨_,rfl,h⟩
  | succ i=>simp at hx; simpa using ih hx
theorem bQ:∀ (ys:List (List Nat)),(∀ x∈ys,x.length=20)→ys.flatten.length=ys.length*20:=by
 intro ys hy
 induction ys with
 | nil=>rfl
 | cons y ys ih =>
  rw [QI,Qg,ih (fun x hx=>hy x (by simp [hx])),(hy y (by simp)),Zm]; omega
theorem iT {xs:List (List Nat)} {ps:List (Go.Cv.Pt Go.Fp.P Go.Fp.d)} (hn:xs.length=n) (hN:n<100) (hx:Reps xs ps) (h:H[id]?=some ⟨ns .u64 xs.flatten,true,true,true,1⟩) :
  ∃ r d,Zb T 65 [.slice (some ⟨id,0,none⟩) n n] H=some (eV r,H++(⟨ns .u64 r,true,true,true,1⟩::⟨ns .u64 r,true,true,true,1⟩::⟨ns .u64 d,true,true,true,1⟩::xs.map fun x=>(⟨ns .u64 x,true,true,true,1⟩:Ob)),[])∧RepL r (ps.foldl XU K0):=by
 have hid:id<H.length:=(Qf.1 h).1
 have hA:∀ l,(H++l)[id]?=some ⟨ns .u64 xs.flatten,true,true,true,1⟩:=fun l=>by rw [Qa hid]; exact h
 obtain ⟨d,hd,Ed,fd⟩:=Rs
 obtain ⟨z,hz,Ez⟩:=FJ
 have hZ:∃ Z,Qc 20 (Value.int .u64 0)=ns .u64 Z∧Z.length=20:=⟨Qc 20 0,rfl,rfl⟩
 obtain ⟨Z,hZ,l0⟩:=hZ
 obtain ⟨st,hb,r,rfl,hr1⟩:=QZ (T:=T) (base:=H.length) (id:=0) (body:=RO)
  (fun i st=>∃ r:List Nat,st=⟨[(2,.pointer (some ⟨H.length,0,none⟩)),(3,.pointer (some ⟨H.length+1,0,none⟩)),(4,.pointer (some ⟨H.length+2,0,none⟩)),(9,.slice (some ⟨id,0,none⟩) n n),(10,.int .i64 n),(11,.int .i64 (i:Nat))],H++(⟨ns .u64 Z,true,true,true,1⟩::⟨ns .u64 r,true,true,true,1⟩::⟨ns .u64 d,true,true,true,1⟩::((xs.take i).map fun x=>(⟨ns .u64 x,true,true,true,1⟩:Ob))),[]⟩∧RepL r ((ps.take i).foldl XU K0))
  (Q:=fun st=>∃ r:List Nat,st=⟨[(2,.pointer (some ⟨H.length,0,none⟩)),(3,.pointer (some ⟨H.length+1,0,none⟩)),(4,.pointer (some ⟨H.length+2,0,none⟩)),(9,.slice (some ⟨id,0,none⟩) n n),(10,.int .i64 n),(11,.int .i64 n),(12,.bool false)],H++(⟨ns .u64 Z,true,true,true,1⟩::⟨ns .u64 r,true,true,true,1⟩::⟨ns .u64 d,true,true,true,1⟩::(xs.map fun x=>(⟨ns .u64 x,true,true,true,1⟩:Ob))),[]⟩∧RepL r (ps.foldl XU K0))
  n (s:=⟨[(2,.pointer (some ⟨H.length,0,none⟩)),(3,.pointer (some ⟨H.length+1,0,none⟩)),(4,.pointer (some ⟨H.length+2,0,none⟩)),(9,.slice (some ⟨id,0,none⟩) n n),(10,.int .i64 n),(11,.int .i64 0)],H++[⟨ns .u64 Z,true,true,true,1⟩,⟨ns .u64 z,true,true,true,1⟩,⟨ns .u64 d,true,true,true,1⟩],[]⟩) ⟨z,rfl,Ez⟩
  (fun i st hi hs=>by
   obtain ⟨r,rfl,hr1⟩:=hs
   obtain ⟨x,hxi⟩:∃ y,xs[i]?=some y:=⟨_,Qh (by omega)⟩
   obtain ⟨p,hpi,hxe⟩:=hx.get hxi
   obtain ⟨r',hm,g1⟩:=kj hr1 hxe Ed fd
   have hsplit:xs=xs.take i++x::xs.drop (i+1):=by
    have h1:=Qf.1 hxi
    conv=>lhs; rw [←ZR i xs,JM h1.1,h1.2]
   have htl:(xs.take i).flatten.length=i*20:=by
    rw [bQ _ (fun y hy=>hx.all y (QQ hy)),Q7,Ze (by omega)]
   have hcs:((ns .u64 xs.flatten).drop (i*20)).take 20=ns .u64 x:=by
    conv=>lhs; rw [hsplit,Zs,QI]
    exact lL hxe.len htl
   have hb:=Pw (R:=⟨ns .u64 Z,true,true,true,1⟩) (g:=(xs.take i).map fun x=>(⟨ns .u64 x,true,true,true,1⟩:Ob)) (l:=[]) hi hN hxe.len hr1.len Ed.len hm g1.len hA hcs (by rw [QP,bQ xs hx.all,hn]; omega)
   have htk:xs.take (i+1)=xs.take i++[x]:=by rw [ZG,hxi]; rfl
   have htp:ps.take (i+1)=ps.take i++[p]:=by rw [ZG,hpi]; rfl
   refine ⟨_,hb,r',?_,?_⟩
   ·rw [htk,Xl]; rfl
   ·rw [htp,List.foldl_append]; exact g1)
  (fun st hs=>by
   obtain ⟨r,rfl,hr1⟩:=hs
   have e1:((n:Int)<(n:Int))=False:=eq_false (by omega)
   have ht:xs.take n=xs:=Qu (by omega)
   have ht2:ps.take n=ps:=Qu (by have:=hx.len; omega)
   rw [ht2] at hr1
   rw [ht]
   refine ⟨_,?_,r,rfl,hr1⟩
   simp only [RO,Q1,quiet,cF,Jx,Z7,↓pQ,reduceCtorEq,seval,-Qb,cL,e1])
 refine ⟨r,d,?_,hr1⟩
 have l1:=hr1.len
 have l2:=Ez.len
 have l3:=Ed.len
 rw [QD (fn:=a27) rfl]
 have hz5:Qc 5 (Value.int .u64 0)=ns .u64 [0,0,0,0,0]:=rfl
 have l5:([0,0,0,0,0]:List Nat).length=5:=rfl
 simp only [a27,Q1,quiet,cF,Jx,Z7,↓pQ,reduceCtorEq,seval,-Qb,cL,cJ,Zh,hZ,hz5,l5,hd,hz,hb,QW,Zf,ZU,Zg,QP,l0,l1,l2,l3,ZX]
theorem fold2:[p,q].foldl XU K0=XU p q:=by
 show XU (XU K0 p) q=_
 rw [show XU K0 p=p from Go.Cv.zero_add Go.Fp.fld p]
def Y3 (u v:Go.Fp.Fe):Go.Fp.Fe:=u*(v*v*v)*Go.Fp.pow (u*(v*v*v)*(v*v*v)*v) (2^252-1-2)
def jj:Go.Fp.Fe:=Go.Fp.pow 2 (2^253-1-4)
theorem jj_eq:jj=Go.Fp.iQ:=by
 show Go.Fp.pow (Go.Fp.fp 2) _=Go.Fp.fp Go.Fp.iN
 exact Go.Fp.CJ (f:=256) (by decide +kernel) (by decide +kernel)
theorem jj_sq:jj*jj = -1:=by rw [jj_eq]; exact Go.Fp.Ia
theorem quarter:(2^252-1-2)+(2^252-1-2)+1+((2^252-1-2)+(2^252-1-2)+1)=(Go.Fp.P-1)/2:=by rw [Go.Fp.UL]
theorem fI {u v s:Go.Fp.Fe} (h1:v*Y3 u v*Y3 u v≠u) (h2:v*Y3 u v*Y3 u v ≠ -u):v*(s*s)≠u:=fun hs=>by
 have F:=Go.Fp.fld
 obtain ⟨g,hg⟩:∃ g,g=v*v*v*v*s:=⟨_,rfl⟩
 have ht:u*(v*v*v)*(v*v*v)*v=g*g:=by subst hg; subst hs; grobner
 rcases Go.Fp.CK g with h | h
 ·obtain ⟨k,hk⟩:∃ k,k=2^252-1-2:=⟨_,rfl⟩
  have hq:=quarter
  rw [←hk] at hq
  rw [←hq,Go.Fp.pow_add,Go.Fp.pow_add,Go.Fp.pow_add,Go.Fp.pow_one] at h
  have hw:Y3 u v=u*(v*v*v)*Go.Fp.pow (g*g) k:=by unfold Y3; rw [ht,hk]
  rw [hw] at h1 h2
  generalize Go.Fp.pow (g*g) k=q at *
  have he:(q*q*(g*g)-1)*(q*q*(g*g)+1)=0:=by clear h1 h2 hw ht hg hs; grobner
  have hv:v*(u*(v*v*v)*q)*(u*(v*v*v)*q)=u*(q*q*(g*g)):=by clear h1 h2 hw hg hs he h; grobner
  rcases F.dom he with h | h
  ·exact h1 (by rw [hv]; clear h1 h2 hw ht hg hs he hv; grobner)
  ·exact h2 (by rw [hv]; clear h1 h2 hw ht hg hs he hv; grobner)
 ·have hu:u*(v*v*v)*(v*v*v)*v=0:=by rw [ht,h]; grobner
  have hu0:u=0:=by
   rcases F.dom hu with h0 | h0
   ·rcases F.dom h0 with h0 | h0
    ·rcases F.dom h0 with h0 | h0
     ·exact h0
     ·rcases F.dom h0 with h0 | h0
      ·rcases F.dom h0 with h0 | h0<;>(rw [←hs,h0]; grobner)
      ·rw [←hs,h0]; grobner
    ·rcases F.dom h0 with h0 | h0
     ·rcases F.dom h0 with h0 | h0<;>(rw [←hs,h0]; grobner)
     ·rw [←hs,h0]; grobner
   ·rw [←hs,h0]; grobner
  exact h1 (by unfold Y3; rw [hu0]; grobner)
theorem eZ:Z9 T 176 [.int .i64 252,.int .u8 2]=some (.agg (u8s (dig 256 32 (2^252-1-2))).toArray):=Iu (n:=252) (less:=2) (by decide) (by decide) (by decide)
theorem eY:Z9 T 176 [.int .i64 253,.int .u8 4]=some (.agg (u8s (dig 256 32 (2^253-1-4))).toArray):=Iu (n:=253) (less:=4) (by decide) (by decide) (by decide)
def CC (r:List Nat) (ok:Bool):Value := .tuple #[eV r,.bool ok]
theorem kU {u v:List Nat} (Eu:El u (2^52)) (Ev:El v (2^52)) :
  ∃ r ok,Z9 T 109 [eV u,eV v]=some (CC r ok)∧El r (2^52)∧(ok=true→fe v*(fe r*fe r)=fe u∧((fe r).val%2=0∨fe r=0))∧(ok=false→∀ s,fe v*(s*s)≠fe u):=by
 obtain ⟨r1,hr1,Er1,fr1⟩:=W1 (H:=[⟨ns .u64 u,true,true,true,1⟩,⟨ns .u64 v,true,true,true,1⟩,⟨ns .u64 [0,0,0,0,0],true,true,true,1⟩,⟨ns .u64 [v,v,v].flatten,true,true,true,1⟩]) (id:=3) (n:=3) (xs:=[v,v,v]) rfl (by decide) (by intro w hw; simp only [Jw,JA,or_false] at hw; rcases hw with rfl | rfl | rfl<;>assumption) rfl
 simp only [Jc,JN,Qw,Qr] at hr1
 simp only [Jc,JN,Xm,Vk] at fr1
 obtain ⟨r2,hr2,Er2,fr2⟩:=W1 (H:=[⟨ns .u64 u,true,true,true,1⟩,⟨ns .u64 v,true,true,true,1⟩,⟨ns .u64 [0,0,0,0,0],true,true,true,1⟩,⟨ns .u64 [v,v,v].flatten,true,true,true,1⟩,⟨ns .u64 r1,true,true,true,1⟩,⟨ns .u64 r1,true,true,true,1⟩,⟨ns .u64 v,true,true,true,1⟩,⟨ns .u64 v,true,true,true,1⟩,⟨ns .u64 v,true,true,true,1⟩,⟨ns .u64 r1,true,true,true,1⟩,⟨ns .u64 [u,r1,r1,v].flatten,true,true,true,1⟩]) (id:=10) (n:=4) (xs:=[u,r1,r1,v]) rfl (by decide) (by intro w hw; simp only [Jw,JA,or_false] at hw; rcases hw with rfl | rfl | rfl | rfl<;>assumption) rfl
 simp only [Jc,JN,Qw,Qr] at hr2
 simp only [Jc,JN,Xm,Vk] at fr2
 obtain ⟨r3,hr3,Er3,fr3⟩:=BU (n:=252) (less:=2) Er2 (by decide) (by decide) (by decide)
 obtain ⟨r4,hr4,Er4,fr4⟩:=W1 (H:=[⟨ns .u64 u,true,true,true,1⟩,⟨ns .u64 v,true,true,true,1⟩,⟨ns .u64 [0,0,0,0,0],true,true,true,1⟩,⟨ns .u64 [v,v,v].flatten,true,true,true,1⟩,⟨ns .u64 r1,true,true,true,1⟩,⟨ns .u64 r1,true,true,true,1⟩,⟨ns .u64 v,true,true,true,1⟩,⟨ns .u64 v,true,true,true,1⟩,⟨ns .u64 v,true,true,true,1⟩,⟨ns .u64 r1,true,true,true,1⟩,⟨ns .u64 [u,r1,r1,v].flatten,true,true,true,1⟩,⟨ns .u64 r2,true,true,true,1⟩,⟨ns .u64 r2,true,true,true,1⟩,⟨ns .u64 u,true,true,true,1⟩,⟨ns .u64 r1,true,true,true,1⟩,⟨ns .u64 r1,true,true,true,1⟩,⟨ns .u64 v,true,true,true,1⟩,⟨ns .u64 [u,r1,r3].flatten,true,true,true,1⟩]) (id:=17) (n:=3) (xs:=[u,r1,r3]) rfl (by decide) (by intro w hw; simp only [Jw,JA,or_false] at hw; rcases hw with rfl | rfl | rfl<;>assumption) rfl
 simp only [Jc,JN,Qw,Qr] at hr4
 simp only [Jc,JN,Xm,Vk] at fr4
 obtain ⟨r5,hr5,Er5,fr5⟩:=W1 (H:=[⟨ns .u64 u,true,true,true,1⟩,⟨ns .u64 v,true,true,true,1⟩,⟨ns .u64 [0,0,0,0,0],true,true,true,1⟩,⟨ns .u64 [v,v,v].flatten,true,true,true,1⟩,⟨ns .u64 r1,true,true,true,1⟩,⟨ns .u64 r1,true,true,true,1⟩,⟨ns .u64 v,true,true,true,1⟩,⟨ns .u64 v,true,true,true,1⟩,⟨ns .u64 v,true,true,true,1⟩,⟨ns .u64 r1,true,true,true,1⟩,⟨ns .u64 [u,r1,r1,v].flatten,true,true,true,1⟩,⟨ns .u64 r2,true,true,true,1⟩,⟨ns .u64 r2,true,true,true,1⟩,⟨ns .u64 u,true,true,true,1⟩,⟨ns .u64 r1,true,true,true,1⟩,⟨ns .u64 r1,true,true,true,1⟩,⟨ns .u64 v,true,true,true,1⟩,⟨ns .u64 [u,r1,r3].flatten,true,true,true,1⟩,⟨ns .u64 r4,true,true,true,1⟩,⟨ns .u64 r4,true,true,true,1⟩,⟨ns .u64 u,true,true,true,1⟩,⟨ns .u64 r1,true,true,true,1⟩,⟨ns .u64 r3,true,true,true,1⟩,⟨ns .u64 r4,true,true,true,1⟩,⟨ns .u64 [v,r4,r4].flatten,true,true,true,1⟩]) (id:=24) (n:=3) (xs:=[v,r4,r4]) rfl (by decide) (by intro w hw; simp only [Jw,JA,or_false] at hw; rcases hw with rfl | rfl | rfl<;>assumption) rfl
 simp only [Jc,JN,Qw,Qr] at hr5
 simp only [Jc,JN,Xm,Vk] at fr5
 have k1:=gU Er5 Eu
 obtain ⟨nu,hnu,Enu,fnu⟩:=TH Eu
 have k2:=gU Er5 Enu
 obtain ⟨two,htwo⟩:∃ two:List Nat,two=[2,0,0,0,0]:=⟨_,rfl⟩
 have Etwo:El two (2^52):=by rw [htwo]; exact Sa
 have vtwo:Z9 T 111 [.int .u32 2]=some (eV two):=by rw [htwo]; exact PY
 have ftwo:fe two=2:=by rw [htwo]; exact FT
 clear htwo
 obtain ⟨j,hj,Ej,fj⟩:=BU (n:=253) (less:=4) Etwo (by decide) (by decide) (by decide)
 obtain ⟨q,hq,Eq,fq⟩:=Xq Er4 Ej
 obtain ⟨n1,hn1,En1,fn1⟩:=TH Er4
 obtain ⟨n2,hn2,En2,fn2⟩:=TH Eq
 have o1:=aT Er4
 have o2:=aT Eq
 have c1:=eZ
 have c2:=eY
 have g1:=EW Ev Ev Ev
 have g2:=D0 Eu Er1 Er1 Ev
 rw [LM] at g2
 have g3:=EW Eu Er1 Er3
 have g4:=EW Ev Er4 Er4
 have hw:fe r4=Y3 (fe u) (fe v):=by
  rw [fr4,fr3,fr1,fr2,fr1]; unfold Y3
  rw [show (1*fe u*(1*fe v*fe v*fe v)*(1*fe v*fe v*fe v)*fe v)=fe u*(fe v*fe v*fe v)*(fe v*fe v*fe v)*fe v from by grobner]
  generalize Go.Fp.pow _ _=p
  grobner
 have hjj:fe j=jj:=by rw [fj,ftwo]; rfl
 have l1:=Eu.len
 have l2:=Ev.len
 have l3:=Er1.len
 have l4:=Er4.len
 have l5:=Er5.len
 have l6:=Eq.len
 have l7:=En1.len
 have l8:=En2.len
 have hz5:Qc 5 (Value.int .u64 0)=ns .u64 [0,0,0,0,0]:=rfl
 have hf5:fillL (ns .u64 [0,0,0,0,0]) []=some (ns .u64 [0,0,0,0,0]):=rfl
 have l0:([0,0,0,0,0]:List Nat).length=5:=rfl
 clear Ej Etwo ftwo fj
 generalize dig 256 32 (2^252-1-2)=K1,dig 256 32 (2^253-1-4)=K2 at *
 have hsq:fe r5=fe v*Y3 (fe u) (fe v)*Y3 (fe u) (fe v):=by rw [fr5,hw]; generalize Y3 (fe u) (fe v)=w; grobner
 have evn:∀ a:Go.Fp.Fe,a.val%2=1→(-a).val%2=0 ∨ -a=0:=by
  intro a ha
  left
  have hlt:=a.isLt
  have h0:(Go.Fp.P-a.val)<Go.Fp.P:=by omega
  have h1:(-a).val=(Go.Fp.P-a.val)%Go.Fp.P:=rfl
  rw [h1,QB h0]
  have hP:Go.Fp.P%2=1:=by rw [Go.Fp.UL]
  omega
 by_cases hA:fe r5=fe u
 ·rw [decide_eq_true hA] at k1
  have hroot:fe v*(fe r4*fe r4)=fe u:=by rw [←hA,hsq,hw]; generalize Y3 (fe u) (fe v)=w; grobner
  by_cases hO:(fe r4).val%2=1
  ·rw [decide_eq_true hO] at o1
   refine ⟨n1,true,?_,En1,fun _=>⟨?_,?_⟩,fun h=>by cases h⟩
   ·apply ZI (fn:=a60) rfl
    simp only [a60,Q1,quiet,cW,↓pW,reduceCtorEq,seval,-Qb,hz5,hf5,l0,g1,g2,g3,g4,c1,c2,hr1,hr2,hr3,hr4,hr5,k1,o1,hn1,l1,l2,l3,l4,l5,l7,Qn,Q5,QW,Zf,ZU,Zg,QP,ZX]
    rfl
   ·rw [fn1,←hroot]; generalize fe r4=w; grobner
   ·rw [fn1]; exact evn _ hO
  ·rw [decide_eq_false hO] at o1
   refine ⟨r4,true,?_,Er4,fun _=>⟨hroot,by left; omega⟩,fun h=>by cases h⟩
   apply ZI (fn:=a60) rfl
   simp only [a60,Q1,quiet,cW,↓pW,reduceCtorEq,seval,-Qb,hz5,hf5,l0,g1,g2,g3,g4,c1,c2,hr1,hr2,hr3,hr4,hr5,k1,o1,hn1,l1,l2,l3,l4,l5,l7,Qn,Q5,QW,Zf,ZU,Zg,QP,ZX]
   rfl
 ·rw [decide_eq_false hA] at k1
  by_cases hB:fe r5=fe nu
  ·rw [decide_eq_true hB] at k2
   have hroot:fe v*(fe q*fe q)=fe u:=by
    have hs:=jj_sq
    rw [hsq,fnu] at hB
    rw [fq,hw,hjj]
    generalize Y3 (fe u) (fe v)=w at *
    clear k1 k2 o1 o2 c1 c2 hA hsq hw fr1 fr2 fr3 fr4 fr5
    grobner
   by_cases hO:(fe q).val%2=1
   ·rw [decide_eq_true hO] at o2
    refine ⟨n2,true,?_,En2,fun _=>⟨?_,?_⟩,fun h=>by cases h⟩
    ·apply ZI (fn:=a60) rfl
     simp only [a60,Q1,quiet,cW,↓pW,reduceCtorEq,seval,-Qb,hz5,hf5,l0,g1,g2,g3,g4,c1,c2,hr1,hr2,hr3,hr4,hr5,k1,k2,hnu,vtwo,hj,hq,o2,hn2,l1,l2,l3,l4,l5,l6,l8,Qn,Q5,QW,Zf,ZU,Zg,QP,ZX]
     rfl
    ·rw [fn2,←hroot]; generalize fe q=w; grobner
    ·rw [fn2]; exact evn _ hO
   ·rw [decide_eq_false hO] at o2
    refine ⟨q,true,?_,Eq,fun _=>⟨hroot,by left; omega⟩,fun h=>by cases h⟩
    apply ZI (fn:=a60) rfl
    simp only [a60,Q1,quiet,cW,↓pW,reduceCtorEq,seval,-Qb,hz5,hf5,l0,g1,g2,g3,g4,c1,c2,hr1,hr2,hr3,hr4,hr5,k1,k2,hnu,vtwo,hj,hq,o2,hn2,l1,l2,l3,l4,l5,l6,l8,Qn,Q5,QW,Zf,ZU,Zg,QP,ZX]
    rfl
  ·rw [decide_eq_false hB] at k2
   refine ⟨[0,0,0,0,0],false,?_,Mm,fun h=>(by cases h),fun _ s=>fI (by rw [←hsq]; exact hA) (by rw [←hsq,←fnu]; exact hB)⟩
   apply ZI (fn:=a60) rfl
   simp only [a60,Q1,quiet,cW,↓pW,reduceCtorEq,seval,-Qb,hz5,hf5,l0,g1,g2,g3,g4,c1,c2,hr1,hr2,hr3,hr4,hr5,k1,k2,hnu,l1,l2,l3,l4,l5,Qn,Q5,QW,Zf,ZU,Zg,QP,ZX]
   rfl
end Go.Ev.YtomfgcgnepfmjaaGreat
namespace Go.Ev.YtomfgcgnepfmjaaGreat
open Go Go.Ev
attribute [local congr] Jq J7 Jp J8 Je
set_option maxRecDepth 100000
variable {i x n a r id off cap:Nat} {b L s k l w:List Nat} {H:List Ob} {p q:Go.Cv.Pt Go.Fp.P Go.Fp.d}
structure Jac where
 x:Nat
 y:Nat
 z:Nat
 t:Nat
structure JRep (a:Jac) (p:Go.Cv.Pt Go.Fp.P Go.Fp.d):Prop where
 nz:Go.Fp.fp a.z≠0
 x:Go.Fp.fp a.x=p.x*Go.Fp.fp a.z
 y:Go.Fp.fp a.y=p.y*Go.Fp.fp a.z
 t:Go.Fp.fp a.t=p.x*p.y*Go.Fp.fp a.z
def Es (a b:Nat):Nat:=a+(Go.Fp.P-b%Go.Fp.P)
theorem UX (a b:Nat):Go.Fp.fp (Es a b)=Go.Fp.fp a-Go.Fp.fp b:=by
 unfold Es
 have h:b%Go.Fp.P≤Go.Fp.P:=Xf (Q3 _ (by rw [Go.Fp.UL]; decide))
 rw [Go.Fp.Vd,Go.Fp.mL h,Go.Fp.fp_P,Go.Fp.Yi]
 grobner
def Rn (a b:Jac):Nat:=Es a.y a.x*Es b.y b.x%Go.Fp.P
def Rm (a b:Jac):Nat:=(a.y+a.x)*(b.y+b.x)%Go.Fp.P
def Rl (a b:Jac):Nat:=1*2*Go.Fp.dN*a.t*b.t%Go.Fp.P
def Rk (a b:Jac):Nat:=1*2*a.z*b.z%Go.Fp.P
def jfin (a b c e:Nat):Jac:=⟨Es b a*Es e c%Go.Fp.P,(e+c)*(b+a)%Go.Fp.P,Es e c*(e+c)%Go.Fp.P,Es b a*(b+a)%Go.Fp.P⟩
def EC (a b:Jac):Jac:=jfin (Rn a b) (Rm a b) (Rl a b) (Rk a b)
theorem JRep.add {a b:Jac} {p q:Go.Cv.Pt Go.Fp.P Go.Fp.d} (h1:JRep a p) (h2:JRep b q):JRep (EC a b) (XU p q):=by
 have ha:Go.Fp.fp (Rn a b)=(Go.Fp.fp a.y-Go.Fp.fp a.x)*(Go.Fp.fp b.y-Go.Fp.fp b.x):=by
  unfold Rn; rw [Go.Fp.Yi,Go.Fp.XZ,UX,UX]
 have hb:Go.Fp.fp (Rm a b)=(Go.Fp.fp a.y+Go.Fp.fp a.x)*(Go.Fp.fp b.y+Go.Fp.fp b.x):=by
  unfold Rm; rw [Go.Fp.Yi,Go.Fp.XZ,Go.Fp.Vd,Go.Fp.Vd]
 have hc:Go.Fp.fp (Rl a b)=1*2*Go.Fp.d*Go.Fp.fp a.t*Go.Fp.fp b.t:=by
  unfold Rl; rw [Go.Fp.Yi,Go.Fp.XZ,Go.Fp.XZ,Go.Fp.XZ,Go.Fp.XZ,Go.Fp.AU,Go.Fp.bO]; rfl
 have hd:Go.Fp.fp (Rk a b)=1*2*Go.Fp.fp a.z*Go.Fp.fp b.z:=by
  unfold Rk; rw [Go.Fp.Yi,Go.Fp.XZ,Go.Fp.XZ,Go.Fp.XZ,Go.Fp.AU,Go.Fp.bO]
 have hx:Go.Fp.fp (EC a b).x=(Go.Fp.fp (Rm a b)-Go.Fp.fp (Rn a b))*(Go.Fp.fp (Rk a b)-Go.Fp.fp (Rl a b)):=by
  show Go.Fp.fp (_%_)=_; rw [Go.Fp.Yi,Go.Fp.XZ,UX,UX]
 have hy:Go.Fp.fp (EC a b).y=(Go.Fp.fp (Rk a b)+Go.Fp.fp (Rl a b))*(Go.Fp.fp (Rm a b)+Go.Fp.fp (Rn a b)):=by
  show Go.Fp.fp (_%_)=_; rw [Go.Fp.Yi,Go.Fp.XZ,Go.Fp.Vd,Go.Fp.Vd]
 have hz:Go.Fp.fp (EC a b).z=(Go.Fp.fp (Rk a b)-Go.Fp.fp (Rl a b))*(Go.Fp.fp (Rk a b)+Go.Fp.fp (Rl a b)):=by
  show Go.Fp.fp (_%_)=_; rw [Go.Fp.Yi,Go.Fp.XZ,Go.Fp.Vd,UX]
 have ht:Go.Fp.fp (EC a b).t=(Go.Fp.fp (Rm a b)-Go.Fp.fp (Rn a b))*(Go.Fp.fp (Rm a b)+Go.Fp.fp (Rn a b)):=by
  show Go.Fp.fp (_%_)=_; rw [Go.Fp.Yi,Go.Fp.XZ,Go.Fp.Vd,UX]
 obtain ⟨g1,g2,g3,g4⟩:=T8 h1.x h1.y h1.t h2.x h2.y h2.t ha hb hc hd hx hy hz ht (Go.Cv.GW Go.Fp.fld p q) (Go.Cv.GV Go.Fp.fld p q)
 refine ⟨?_,g1,g2,g3⟩
 rw [g4]
 have F:=Go.Fp.fld
 have w:=F.mul_ne (F.mul_ne F.two h1.nz) h2.nz
 exact F.mul_ne (F.mul_ne w w) (F.mul_ne (F.denM p.on q.on) (F.denP p.on q.on))
def O6 (p:Jac):Nat→Nat→Jac
 | 0,_=>⟨0,1,1,0⟩
 | f+1,k=>(fun r=>if k%2=1 then EC (EC r r) p else EC r r) (O6 p f (k/2))
theorem JRep.mul {a:Jac} {p:Go.Cv.Pt Go.Fp.P Go.Fp.d} (h:JRep a p):∀ {f k:Nat},k<2^f→JRep (O6 a f k) (JO k p)
 | 0,k,hk=>by
  have:k=0:=by omega
  subst this
  exact ⟨Go.Fp.Ut,by show (0:Go.Fp.Fe)=0*1; grobner,by show (1:Go.Fp.Fe)=1*1; grobner,by show (0:Go.Fp.Fe)=0*1*1; grobner⟩
 | f+1,k,hk=>by
  have ih:=JRep.mul h (f:=f) (k:=k/2) (by omega)
  have hb:=Q3 k (by decide:0<2)
  have e:JO k p=JO (2*(k/2)+k%2) p:=by rw [ZK]
  rw [e,T7 p (k/2) (k%2) hb]
  simp only [O6]
  split
  ·exact (ih.add ih).add h
  ·exact ih.add ih
def Na:Jac:=⟨bxN,byN,1,bxN*byN%Go.Fp.P⟩
theorem TM:JRep Na Kh:=by
 have h1:Go.Fp.fp 1=(1:Go.Fp.Fe):=rfl
 refine ⟨Go.Fp.Ut,?_,?_,?_⟩
 ·show Go.Fp.fp bxN=Go.Fp.fp bxN*Go.Fp.fp 1; rw [h1]; grobner
 ·show Go.Fp.fp byN=Go.Fp.fp byN*Go.Fp.fp 1; rw [h1]; grobner
 ·show Go.Fp.fp (bxN*byN%Go.Fp.P)=Go.Fp.fp bxN*Go.Fp.fp byN*Go.Fp.fp 1; rw [h1,Go.Fp.Yi,Go.Fp.XZ]; grobner
theorem IV:JO 8 Kh≠K0:=fun h=>by
 have r:=TM.mul (f:=4) (k:=8) (by decide)
 rw [h] at r
 have hx:=r.x
 rw [show (K0:Go.Cv.Pt Go.Fp.P Go.Fp.d).x=0 from rfl] at hx
 have h0:Go.Fp.fp (O6 Na 4 8).x=Go.Fp.fp 0:=by rw [hx]; show _=(0:Go.Fp.Fe); grobner
 have h1:=Go.Fp.EO.1 h0
 have h2:(O6 Na 4 8).x%Go.Fp.P≠0%Go.Fp.P:=by decide +kernel
 exact h2 h1
theorem bl {a:Jac} (r:JRep a q) (c1:a.x%Go.Fp.P=0%Go.Fp.P) (c2:a.y%Go.Fp.P=a.z%Go.Fp.P):q=K0:=by
 have d1:=Go.Fp.EO.2 c1
 have d2:=Go.Fp.EO.2 c2
 have F:=Go.Fp.fld
 have hx:=r.x
 have hy:=r.y
 have hz:=r.nz
 rw [d1] at hx
 rw [d2] at hy
 generalize Go.Fp.fp a.z=z at *
 apply Go.Cv.Pt.ext
 ·show _=(0:Go.Fp.Fe)
  have h0:Go.Fp.fp 0=(0:Go.Fp.Fe):=rfl
  rw [h0] at hx
  refine F.cancel hz ?_
  generalize q.x=w at *
  clear r hy d1 d2
  grobner
 ·show _=(1:Go.Fp.Fe)
  refine F.cancel hz ?_
  generalize q.y=w at *
  clear r hx d1 d2
  grobner
def Nl (a:Jac):Bool:=Nat.beq (a.x%Go.Fp.P) 0&&Nat.beq (a.y%Go.Fp.P) (a.z%Go.Fp.P)
theorem cf:Nl (O6 Na 253 ell)=true:=by decide +kernel
theorem Fa:JO ell Kh=K0:=by
 have h:=cf
 simp only [Nl,ZZ] at h
 exact bl (TM.mul (f:=253) (k:=ell) (by decide +kernel)) (Nat.eq_of_beq_eq_true h.1) (Nat.eq_of_beq_eq_true h.2)
theorem LI {a:Go.Fp.Fe} (h0:a≠0):(-a).val%2≠a.val%2:=by
 have hlt:=a.isLt
 have hne:a.val≠0:=fun h=>h0 (Fin.ext h)
 have h1:(-a).val=(Go.Fp.P-a.val)%Go.Fp.P:=rfl
 have h2:(Go.Fp.P-a.val)<Go.Fp.P:=by omega
 rw [h1,QB h2]
 have hP:Go.Fp.P%2=1:=by rw [Go.Fp.UL]
 omega
theorem kg {a b:Go.Fp.Fe} (h:a*a=b*b):a=b∨a = -b:=by
 have F:=Go.Fp.fld
 have:(a-b)*(a+b)=0:=by grobner
 rcases F.dom this with h1 | h1
 ·left; clear h this; grobner
 ·right; clear h this; grobner
theorem lU (dd z:Go.Fp.Fe) (hz:z=0):dd*(z*z)+1=1:=by grobner
theorem cA (y:Go.Fp.Fe):Go.Fp.d*(y*y)+1≠0:=fun h=>by
 have F:=Go.Fp.fld
 have hy:y≠0:=by
  intro h0
  rw [lU _ _ h0] at h
  exact Go.Fp.Ut h
 have hi:=Go.Fp.IC hy
 have hr:=Go.Fp.Ia
 apply Go.Fp.nosq (Go.Fp.iQ*Go.Fp.iv y)
 generalize Go.Fp.d=dd at *
 generalize Go.Fp.iQ=ii at *
 generalize Go.Fp.iv y=w at *
 clear F hy
 have e1:dd*(y*w)*(y*w)+w*w=0:=by
  have:dd*(y*w)*(y*w)+w*w=(dd*(y*y)+1)*(w*w):=by clear h hi hr; grobner
  rw [this,h]; clear this h hi hr; grobner
 rw [hi] at e1
 have e2:ii*w*(ii*w)=(ii*ii)*(w*w):=by clear h hi hr e1; grobner
 rw [e2,hr]
 clear h hi hr e2
 grobner
theorem kD (p:Go.Cv.Pt Go.Fp.P Go.Fp.d):(Go.Fp.d*(p.y*p.y)+1)*(p.x*p.x)=p.y*p.y-1:=by
 have h:=p.on
 unfold Go.Cv.On at h
 generalize Go.Fp.d=dd at *
 generalize p.x=x at *
 generalize p.y=y at *
 grobner
theorem bZ {q:Go.Cv.Pt Go.Fp.P Go.Fp.d} (h:DH p=DH q):p=q:=by
 unfold DH at h
 have h1:=Mr p.y
 have h2:=Mr q.y
 have h3:=Q3 p.x.val (by decide:0<2)
 have h4:=Q3 q.x.val (by decide:0<2)
 have hy:p.y.val=q.y.val:=by omega
 have hx:p.x.val%2=q.x.val%2:=by omega
 have hy':p.y=q.y:=Fin.ext hy
 have e1:=kD p
 have e2:=kD q
 rw [hy',←e2] at e1
 have e3:=Go.Fp.fld.cancel (cA q.y) e1
 refine Go.Cv.Pt.ext ?_ hy'
 rcases kg e3 with h | h
 ·exact h
 ·by_cases h0:q.x=0
  ·rw [h,h0]; grobner
  ·exfalso
   have:=LI h0
   rw [←h] at this
   exact this hx
theorem Nj (p q:Go.Cv.Pt Go.Fp.P Go.Fp.d):(enc p==enc q)=decide (p=q):=by
 unfold enc
 rw [key_inj (AW p) (AW q)]
 by_cases h:p=q
 ·subst h; rw [decide_eq_true rfl,decide_eq_true rfl]
 ·rw [decide_eq_false h,decide_eq_false (fun e=>h (bZ e))]
theorem mM {a:List Nat} (ha:RepL a p) (hb:RepL b q):fillL (Qc 40 (Value.int .u64 0)) [(0,20,eV a),(20,20,eV b)]=some (ns .u64 [a,b].flatten):=by
 obtain ⟨x1,y1,z1,t1,rfl,h1⟩:=ha
 obtain ⟨x2,y2,z2,t2,rfl,h2⟩:=hb
 obtain ⟨a0,a1,a2,a3,a4,rfl,-⟩:=h1.ex.five
 obtain ⟨b0,b1,b2,b3,b4,rfl,-⟩:=h1.ey.five
 obtain ⟨c0,c1,c2,c3,c4,rfl,-⟩:=h1.ez.five
 obtain ⟨d0,d1,d2,d3,d4,rfl,-⟩:=h1.et.five
 obtain ⟨e0,e1,e2,e3,e4,rfl,-⟩:=h2.ex.five
 obtain ⟨f0,f1,f2,f3,f4,rfl,-⟩:=h2.ey.five
 obtain ⟨g0,g1,g2,g3,g4,rfl,-⟩:=h2.ez.five
 obtain ⟨i0,i1,i2,i3,i4,rfl,-⟩:=h2.et.five
 rfl
theorem NV (p q:Go.Cv.Pt Go.Fp.P Go.Fp.d):XU p q=XU q p:=Go.Cv.add_comm Go.Fp.fld p q
theorem Im (p q r:Go.Cv.Pt Go.Fp.P Go.Fp.d):XU (XU p q) r=XU p (XU q r):=Go.Cv.add_assoc Go.Fp.fld p q r
theorem gW (lk:k.length=32) (xk:∀ x∈k,x<256):enc p=k↔DH p=num 256 k:=by
 have h1:=num_lt xk
 rw [lk] at h1
 have h2:=WH (by decide:0<256) xk
 rw [lk] at h2
 constructor
 ·intro h
  have:=XV (B:=256) (by decide) 32 (DH p)
  rw [QB (AW p)] at this
  rw [←this,←h]; rfl
 ·intro h
  unfold enc
  rw [h,h2]
theorem Pc {V:Nat}:DH p=V↔p.y.val=V%2^255∧p.x.val%2=V/2^255:=by
 have h1:=Mr p.y
 have h3:=Q3 p.x.val (by decide:0<2)
 unfold DH
 constructor
 ·intro h; omega
 ·rintro ⟨h,h'⟩; rw [h,h',Zy,Nat.mod_add_div]
theorem kq {u v x y:Go.Fp.Fe} (hu:u=y*y-1) (hv:v=Go.Fp.d*(y*y)+1) (h:v*(x*x)=u):Go.Cv.On Go.Fp.d x y:=by
 unfold Go.Cv.On
 generalize Go.Fp.d=dd at *
 subst hu hv
 grobner
theorem gj (lk:k.length=32) (xk:∀ x∈k,x<256):∃ w,k[31]?=some w∧w<256∧w/128=num 256 k/2^255∧num 256 (k.set 31 (w&&&127))=num 256 k%2^255∧(∀ x∈k.set 31 (w&&&127),x<256)∧(k.set 31 (w&&&127)).length=32:=by
 obtain ⟨w,hw⟩:∃ w,k[31]?=some w:=⟨_,Qh (by omega)⟩
 have hw':w<256:=xk w (Qz hw)
 have hV:=num_lt xk
 rw [lk] at hV
 have hg:=VN (by decide:0<256) xk hw
 have hs:=Y4 (B:=256) (w&&&127) hw
 have ha:w&&&127=w%128:=Nat.and_two_pow_sub_one_eq_mod w 7
 refine ⟨w,hw,hw',?_⟩
 rw [ha] at hs ⊢
 have e31:(256:Nat)^31=452312848583266388373324160190187140051835877600158453279131187530910662656:=by decide
 have e32:(256:Nat)^32=115792089237316195423570985008687907853269984665640564039457584007913129639936:=by decide
 have e255:(2:Nat)^255=57896044618658097711785492504343953926634992332820282019728792003956564819968:=by decide
 rw [e31] at hg hs
 rw [e32] at hV
 rw [e255]
 refine ⟨by omega,by omega,?_,by rw [Qo]; exact lk⟩
 intro x hx
 rcases List.mem_or_eq_of_mem_set hx with h | h
 ·exact xk x h
 ·omega
def Pf (l:List Nat) (c:Int):Value := .tuple #[eV l,.int .i64 c]
theorem Fh (lk:k.length=32) (xk:∀ x∈k,x<256) :
  (∃ l p,Z9 T 61 [.agg (u8s k).toArray]=some (Pf l 0)∧RepL l p∧enc p=k)∨(∃ l,Z9 T 61 [.agg (u8s k).toArray]=some (Pf l 60)∧l.length=20∧∀ p,enc p≠k):=by
 obtain ⟨w,hw,hw',ht,hm,xm,lm⟩:=gj lk xk
 have hwc:=Jr hw
 have hset:=XC k 31 (w&&&127)
 have o1:Zo .and .u8 (w:Int) 127=((w&&&127:Nat):Int):=V9 (k := .u8) (a:=w) (b:=127) rfl hw' (by decide)
 have hof:=aS lm xm
 have hcan:=Ft lm xm
 rw [hm] at hof hcan
 rw [Bt] at hof
 have hkey:∀ p:Go.Cv.Pt Go.Fp.P Go.Fp.d,enc p=k↔p.y.val=num 256 k%2^255∧p.x.val%2=num 256 k/2^255:=fun p=>by rw [gW lk xk,Pc]
 rw [←ht] at hkey
 have Ey:=Eo (V:=num 256 k%2^255)
 have fy:fe (dig (2^51) 5 (num 256 k%2^255))=Go.Fp.fp (num 256 k%2^255):=by unfold fe; rw [Rb]
 generalize k.set 31 (w&&&127)=km at *
 generalize dig (2^51) 5 (num 256 k%2^255)=Y at *
 generalize num 256 k%2^255=V at *
 have hz20:∃ O,Qc 20 (Value.int .u64 0)=ns .u64 O∧O.length=20∧fillL (ns .u64 O) []=some (ns .u64 O):=⟨Qc 20 0,rfl,rfl,rfl⟩
 obtain ⟨O,hz20,l0,hf0⟩:=hz20
 have l1:=Ey.len
 have hz5:Qc 5 (Value.int .u64 0)=ns .u64 [0,0,0,0,0]:=rfl
 have l5:([0,0,0,0,0]:List Nat).length=5:=rfl
 have hbit:((((w/128:Nat):Int))==1)=decide (w/128=1):=by
  by_cases h:w/128=1
  ·rw [h]; rfl
  ·have:¬ (((w/128:Nat):Int)=1):=by omega
   rw [decide_eq_false h,beq_eq_false_iff_ne.2 this]
 have hshr:((w:Int)/128)=((w/128:Nat):Int):=rfl
 by_cases hV:V<Go.Fp.P
 ·rw [decide_eq_true hV] at hcan
  have hYv:(Go.Fp.fp V).val=V:=QB hV
  obtain ⟨one,hone⟩:∃ O:List Nat,O=[1,0,0,0,0]:=⟨_,rfl⟩
  have Eone:El one (2^52):=by rw [hone]; exact HZ
  have vone:Z9 T 111 [.int .u32 1]=some (eV one):=by rw [hone]; exact aG
  have fone:fe one=1:=by rw [hone]; exact HY
  clear hone
  obtain ⟨yy,hyy,Eyy,fyy⟩:=Xq Ey Ey
  obtain ⟨D,hD,ED,fD⟩:=Rs
  obtain ⟨uu,huu,Euu,fuu⟩:=Dt Eyy Eone
  obtain ⟨dy,hdy,Edy,fdy⟩:=Xq ED Eyy
  obtain ⟨vv,sv,hvv,Evv,fvv⟩:=YD (H:=[⟨u8s km,true,true,true,1⟩,⟨ns .u64 O,true,true,true,1⟩,⟨ns .u64 Y,true,true,true,1⟩,⟨ns .u64 yy,true,true,true,1⟩,⟨ns .u64 (dy++one),true,true,true,1⟩]) (id:=4) Edy Eone rfl
  simp only [Qw,Qr] at hvv
  obtain ⟨r,ok,hr,Er,hok,hno⟩:=kU Euu Evv
  have hf2:=D1 Edy Eone
  have l6:=Eyy.len
  have l7:=Er.len
  have kz:=bm Er
  obtain ⟨nr,hnr,Enr,fnr⟩:=TH Er
  obtain ⟨t1,ht1,Et1,ft1⟩:=Xq Er Ey
  obtain ⟨t2,ht2,Et2,ft2⟩:=Xq Enr Ey
  have g1:=D0 Er Ey Eone Et1
  have g2:=D0 Enr Ey Eone Et2
  rw [hz20] at g1 g2
  have q1:=Vn Er Ey Eone Et1
  have q2:=Vn Enr Ey Eone Et2
  have l8:=Enr.len
  have hu:fe uu=Go.Fp.fp V*Go.Fp.fp V-1:=by rw [fuu,fyy,fy,fone]
  have hv:fe vv=Go.Fp.d*(Go.Fp.fp V*Go.Fp.fp V)+1:=by rw [fvv,fdy,fD,fyy,fy,fone]
  have hyp:∀ p:Go.Cv.Pt Go.Fp.P Go.Fp.d,enc p=k→p.y=Go.Fp.fp V:=fun p hp=>Fin.ext (by rw [hYv]; exact ((hkey p).1 hp).1)
  have hxx:∀ p:Go.Cv.Pt Go.Fp.P Go.Fp.d,enc p=k→fe vv*(p.x*p.x)=fe uu:=fun p hp=>by
   have:=kD p
   rw [hyp p hp] at this
   rw [hu,hv]; exact this
  have rft:∀ b:Bool,rf (Value.tuple #[eV r,.bool b])=true:=fun b=>Au (a:=eV r) (b := .bool b) (ZX r) rfl
  cases ok with
  | false =>
   refine .inr ⟨O,?_,l0,fun p hp=>hno rfl p.x (hxx p hp)⟩
   apply Kv
   apply ZL
   rw [QD (fn:=a31) rfl]
   simp only [a31,Q1,quiet,cW,↓pW,reduceCtorEq,seval,-Qb,cU,hz20,hf0,hz5,hwc,hset,o1,hof,hcan,hbit,hshr,vone,hyy,hD,huu,hdy,hf2,hvv,hr,Qn,Q5,QW,Zf,ZU,Zg,QP,Qp,lk,lm,l0,l1,l5,l6,l7,Yc,CC,rft,ZX]
   rfl
  | true =>
   obtain ⟨hroot,hev⟩:=hok rfl
   have hev':(fe r).val%2=0:=by
    rcases hev with h | h
    ·exact h
    ·rw [h]; rfl
   by_cases hb:w/128=1
   ·rw [decide_eq_true hb] at hbit
    by_cases h0:fe r=0
    ·rw [decide_eq_true h0] at kz
     refine .inr ⟨O,?_,l0,fun p hp => ?_⟩
     ·apply Kv
      apply ZL
      rw [QD (fn:=a31) rfl]
      simp only [a31,Q1,quiet,cW,↓pW,reduceCtorEq,seval,-Qb,cU,hz20,hf0,hz5,hwc,hset,o1,hof,hcan,hbit,hshr,vone,hyy,hD,huu,hdy,hf2,hvv,hr,Qn,Q5,QW,Zf,ZU,Zg,QP,Qp,lk,lm,l0,l1,l5,l6,l7,Yc,CC,rft,ZX,kz]
      rfl
     ·have h2:=((hkey p).1 hp).2
      have h3:=hxx p hp
      rw [←hroot,h0] at h3
      have h4:p.x*p.x=0*0:=Go.Fp.fld.cancel (by rw [hv]; exact cA _) h3
      rcases kg h4 with h5 | h5
      ·rw [h5,hb] at h2; exact absurd h2 (by decide)
      ·rw [h5,hb] at h2; exact absurd h2 (by decide)
    ·rw [decide_eq_false h0] at kz
     have hroot':fe vv*(-fe r * -fe r)=fe uu:=by rw [←hroot]; generalize fe r=a; generalize fe vv=b; grobner
     refine .inl ⟨pL nr Y one t2,⟨-fe r,Go.Fp.fp V,kq hu hv hroot'⟩,?_,⟨nr,Y,one,t2,rfl,Enr,Ey,Eone,Et2,by rw [fone]; exact Go.Fp.Ut,?_,?_,?_⟩,(hkey _).2 ⟨hYv,?_⟩⟩
     ·generalize pL nr Y one t2=L at *
      apply Kv
      apply ZL
      rw [QD (fn:=a31) rfl]
      simp only [a31,Q1,quiet,cW,↓pW,reduceCtorEq,seval,-Qb,cU,hz20,hf0,hz5,hwc,hset,o1,hof,hcan,hbit,hshr,vone,hyy,hD,huu,hdy,hf2,hvv,hr,Qn,Q5,QW,Zf,ZU,Zg,QP,Qp,lk,lm,l0,l1,l5,l6,l7,Yc,CC,rft,ZX,kz,hnr,ht2,g2,q2,l8]
      rfl
     ·rw [fnr,fone]; show -fe r = -fe r*1; generalize fe r=a; grobner
     ·rw [fy,fone]; show Go.Fp.fp V=Go.Fp.fp V*1; generalize Go.Fp.fp V=a; grobner
     ·rw [ft2,fnr,fy,fone]; show -fe r*Go.Fp.fp V = -fe r*Go.Fp.fp V*1; generalize Go.Fp.fp V=a; generalize fe r=b; grobner
     ·have:=LI h0
      rw [hev'] at this
      show (-fe r).val%2=_
      rw [hb]; omega
   ·rw [decide_eq_false hb] at hbit
    refine .inl ⟨pL r Y one t1,⟨fe r,Go.Fp.fp V,kq hu hv hroot⟩,?_,⟨r,Y,one,t1,rfl,Er,Ey,Eone,Et1,by rw [fone]; exact Go.Fp.Ut,?_,?_,?_⟩,(hkey _).2 ⟨hYv,?_⟩⟩
    ·generalize pL r Y one t1=L at *
     apply Kv
     apply ZL
     rw [QD (fn:=a31) rfl]
     simp only [a31,Q1,quiet,cW,↓pW,reduceCtorEq,seval,-Qb,cU,hz20,hf0,hz5,hwc,hset,o1,hof,hcan,hbit,hshr,vone,hyy,hD,huu,hdy,hf2,hvv,hr,Qn,Q5,QW,Zf,ZU,Zg,QP,Qp,lk,lm,l0,l1,l5,l6,l7,Yc,CC,rft,ZX,ht1,g1,q1]
     rfl
    ·rw [fone]; show fe r=fe r*1; generalize fe r=a; grobner
    ·rw [fy,fone]; show Go.Fp.fp V=Go.Fp.fp V*1; generalize Go.Fp.fp V=a; grobner
    ·rw [ft1,fy,fone]; show fe r*Go.Fp.fp V=fe r*Go.Fp.fp V*1; generalize Go.Fp.fp V=a; generalize fe r=b; grobner
    ·show (fe r).val%2=_
     rw [hev']; omega
 ·rw [decide_eq_false hV] at hcan
  refine .inr ⟨O,?_,l0,fun p hp=>hV ?_⟩
  ·apply Kv
   apply ZL
   rw [QD (fn:=a31) rfl]
   simp only [a31,Q1,quiet,cW,↓pW,reduceCtorEq,seval,-Qb,cU,hz20,hf0,hz5,hwc,hset,o1,hof,hcan,hbit,hshr,Qn,Q5,QW,Zf,ZU,Zg,QP,Qp,lk,lm,l0,l1,l5,ZX]
   rfl
  ·rw [←((hkey p).1 hp).1]; exact p.y.isLt
def pf (n:Nat) (L:List Nat) (i:Nat):List Nat:=L.take i++Qc (n-i) 0
theorem Gp (n:Nat) (L:List Nat):pf n L 0=Qc n 0:=by simp [pf]
theorem Gq (h:L.length=n):pf n L n=L:=by simp [pf,←h]
theorem BW (h:L.length=n) (hi:i≤n):(pf n L i).length=n:=by simp [pf]; omega
theorem W4 (h:L.length=n) (hi:i<n) (hx:L[i]?=some x):(pf n L i).set i x=pf n L (i+1):=by
 unfold pf
 rw [Q4 _ _ (by simp; omega)]
 have e1:(L.take i).length=i:=by simp; omega
 rw [e1,Qs]
 have e2:n-i=(n-(i+1))+1:=by omega
 rw [e2,List.replicate_succ,List.set_cons_zero,ZG,hx]
 simp
structure Nm (l:List Nat):Prop where
 len:l.length=16
 lt:∀ x∈l,x<65536
theorem Nm.num_lt {l:List Nat} (h:Nm l):num 65536 l<2^256:=by
 have:=Go.Ev.num_lt h.lt
 rw [h.len] at this
 exact this
theorem Nm.dig (v:Nat):Nm (dig 65536 16 v):=⟨Zt _ _ _,fun x h=>KP (by decide) h⟩
theorem Nm.eq {l:List Nat} (h:Nm l):l=Go.Ev.dig 65536 16 (num 65536 l):=by
 have:=WH (B:=65536) (by decide) h.lt
 rw [h.len] at this
 exact this.symm
theorem Nm.inj {l m:List Nat} (h:Nm l) (h':Nm m) (e:num 65536 l=num 65536 m):l=m:=by rw [h.eq,h'.eq,e]
def nf (l:List Nat):Go.Fp.Fe:=Go.Fp.fp (num 65536 l)
theorem wn (h:n<9223372036854775808):IntKind.i64.wrap (n:Int)=n:=Jb h
theorem FK (h:n<18446744073709551616):IntKind.u64.wrap (n:Int)=n:=by rw [BI,QB h]
theorem Lv {b:Nat} (h:a+b<18446744073709551616):IntKind.u64.wrap ((a:Int)+(b:Int))=((a+b:Nat):Int):=by rw [←KQ]; exact FK h
theorem Ae {b:Nat} (h:a*b<18446744073709551616):IntKind.u64.wrap ((a:Int)*(b:Int))=((a*b:Nat):Int):=by rw [←JI]; exact FK h
theorem Z4 {b:Nat} (h:a+b<9223372036854775808):IntKind.i64.wrap ((a:Int)+(b:Int))=((a+b:Nat):Int):=by rw [←KQ]; exact wn h
theorem VH {b:Nat} (h:a*b<9223372036854775808):IntKind.i64.wrap ((a:Int)*(b:Int))=((a*b:Nat):Int):=by rw [←JI]; exact wn h
def Xv (x r:Nat):Nat:=x/2^r+x*2^(64-r)%18446744073709551616
def sg0 (x:Nat):Nat:=Xv x 1^^^Xv x 8^^^(x/2^7)
def sg1 (x:Nat):Nat:=Xv x 19^^^Xv x 61^^^(x/2^6)
def Sg0 (x:Nat):Nat:=Xv x 28^^^Xv x 34^^^Xv x 39
def Sg1 (x:Nat):Nat:=Xv x 14^^^Xv x 18^^^Xv x 41
def chO (e f g:Nat):Nat:=(e&&&f)^^^((18446744073709551615^^^e)&&&g)
def maO (a b c:Nat):Nat:=(a&&&b)^^^(a&&&c)^^^(b&&&c)
def be (l:List Nat):Nat:=l.foldl (fun a x=>a*256+x) 0
def iY (w:List Nat):Nat:=(w.getD (w.length-16) 0+w.getD (w.length-7) 0+sg0 (w.getD (w.length-15) 0)+sg1 (w.getD (w.length-2) 0))%18446744073709551616
def Uh:Nat→List Nat→List Nat
 | 0,l=>l
 | n+1,l=>Uh n l++[iY (Uh n l)]
def Tw (b:List Nat):List Nat:=(ZQ 16).map fun i=>be ((b.drop (8*i)).take 8)
def XB (b:List Nat):List Nat:=Uh 64 (Tw b)
def Yw:List Nat:=[4794697086780616226,8158064640168781261,13096744586834688815,16840607885511220156,4131703408338449720,6480981068601479193,10538285296894168987,12329834152419229976,15566598209576043074,1334009975649890238,2608012711638119052,6128411473006802146,8268148722764581231,9286055187155687089,11230858885718282805,13951009754708518548,16472876342353939154,17275323862435702243,1135362057144423861,2597628984639134821,3308224258029322869,5365058923640841347,6679025012923562964,8573033837759648693,10970295158949994411,12119686244451234320,12683024718118986047,13788192230050041572,14330467153632333762,15395433587784984357,489312712824947311,1452737877330783856,2861767655752347644,3322285676063803686,5560940570517711597,5996557281743188959,7280758554555802590,8532644243296465576,9350256976987008742,10552545826968843579,11727347734174303076,12113106623233404929,14000437183269869457,14369950271660146224,15101387698204529176,15463397548674623760,17586052441742319658,1182934255886127544,1847814050463011016,2177327727835720531,2830643537854262169,3796741975233480872,4115178125766777443,5681478168544905931,6601373596472566643,7507060721942968483,8399075790359081724,8693463985226723168,9568029438360202098,10144078919501101548,10430055236837252648,11840083180663258601,13761210420658862357,14299343276471374635,14566680578165727644,15097957966210449927,16922976911328602910,17689382322260857208,500013540394364858,748580250866718886,1242879168328830382,1977374033974150939,2944078676154940804,3659926193048069267,4368137639120453308,4836135668995329356,5532061633213252278,6448918945643986474,6902733635092675308,7801388544844847127]
def t1O (s:List Nat) (k w:Nat):Nat:=(s.getD 7 0+Sg1 (s.getD 4 0)+chO (s.getD 4 0) (s.getD 5 0) (s.getD 6 0)+k+w)%18446744073709551616
def t2O (s:List Nat):Nat:=(Sg0 (s.getD 0 0)+maO (s.getD 0 0) (s.getD 1 0) (s.getD 2 0))%18446744073709551616
def rnd (s:List Nat) (k w:Nat):List Nat:=[(t1O s k w+t2O s)%18446744073709551616,s.getD 0 0,s.getD 1 0,s.getD 2 0,(s.getD 3 0+t1O s k w)%18446744073709551616,s.getD 4 0,s.getD 5 0,s.getD 6 0]
def DG:Nat→List Nat→List Nat→List Nat
 | 0,_,s=>s
 | n+1,w,s=>rnd (DG n w s) (Yw.getD n 0) (w.getD n 0)
def blk (s b:List Nat):List Nat:=Ks (fun x y=>(x+y)%18446744073709551616) s (DG 80 (XB b) s)
def BD:List Nat:=[7640891576956012808,13503953896175478587,4354685564936845355,11912009170470909681,5840696475078001361,11170449401992604703,2270897969802886507,6620516959819538809]
def stK:Nat→List Nat→List Nat
 | 0,_=>BD
 | n+1,b=>blk (stK n b) ((b.drop (128*n)).take 128)
def Yf (n:Nat):Nat:=(239-n%128)%128
def HV (n:Nat):List Nat:=128::(Qc (Yf n) 0++((ZQ 16).map fun i=>8*n/256^(15-i)%256))
def sha (b:List Nat):List Nat:=(ZQ 64).map fun i=>(stK ((b++HV b.length).length/128) (b++HV b.length)).getD (i/8) 0/256^(7-i%8)%256
theorem Uy:Yw.length=80:=rfl
theorem V0 (hx:x<18446744073709551616) (hr:0<r) (hr':r≤63):Xv x r<18446744073709551616:=by
 unfold Xv
 have e:(18446744073709551616:Nat)=2^r*2^(64-r):=by rw [←JG,show r+(64-r)=64 by omega]
 have h1:x/2^r<2^(64-r):=Kr (by rw [←e]; exact hx)
 have h2:x*2^(64-r)%18446744073709551616=(x%2^r)*2^(64-r):=by rw [e,Yt]
 rw [h2]
 have h3:x%2^r+1≤2^r:=Q3 _ (JT (by decide))
 have h4:=JL (2^(64-r)) h3
 rw [←e,Zu,X4] at h4
 omega
theorem ei (hx:x<18446744073709551616) (hr:0<r) (hr':r≤63):(x*2^(64-r)%18446744073709551616)|||(x/2^r)=Xv x r:=by
 have e:(18446744073709551616:Nat)=2^r*2^(64-r):=by rw [←JG,show r+(64-r)=64 by omega]
 have h1:x/2^r<2^(64-r):=Kr (by rw [←e]; exact hx)
 have h2:x*2^(64-r)%18446744073709551616=(x%2^r)*2^(64-r):=by rw [e,Yt]
 unfold Xv
 rw [h2,Vo h1,Xy]
theorem BE (hx:x<18446744073709551616) (hr:0<r) (hr':r≤63):Z9 T 212 [.int .u64 x,.int .i64 (-(r:Int))]=some (.int .u64 (Xv x r:Nat)):=by
 have hw:IntKind.u64.wrap (-(r:Int))=((18446744073709551616-r:Nat):Int):=by rw [YT]; omega
 have hm:Zo .and .u64 ((18446744073709551616-r:Nat):Int) 63=((64-r:Nat):Int):=by
  have:=W8 .u64 rfl 6 (18446744073709551616-r) (by decide)
  have e:((2^6-1:Nat):Int)=63:=by decide
  rw [e] at this
  rw [this]
  have:(18446744073709551616-r)%2^6=64-r:=by omega
  rw [this]
 have n1:(((64-r:Nat):Int)<0)=False:=eq_false (by omega)
 have h64:min (64-r) IntKind.u64.bits=64-r:=Ze (by show 64-r≤64; omega)
 have hr64:min r IntKind.u64.bits=r:=Ze (by show r≤64; omega)
 have hs1:IntKind.u64.wrap ((x:Int)*2^(64-r))=((x*2^(64-r)%18446744073709551616:Nat):Int):=by
  rw [←BI,JI,Xo]; rfl
 have hsub:IntKind.u64.wrap (64-((64-r:Nat):Int))=(r:Int):=by rw [YT]; omega
 have n2:((r:Int)<0)=False:=eq_false (by omega)
 have hs2:(x:Int).fdiv (2^r)=((x/2^r:Nat):Int):=by
  rw [←Uw,Xo]; rfl
 have hlt1:x*2^(64-r)%18446744073709551616<2^IntKind.u64.bits:=Q3 _ (by decide)
 have hlt2:x/2^r<2^IntKind.u64.bits:=J4 (JP _ _) hx
 have ho:Zo .or .u64 ((x*2^(64-r)%18446744073709551616:Nat):Int) ((x/2^r:Nat):Int)=((Xv x r:Nat):Int):=by
  rw [K7 rfl hlt1 hlt2,ei hx hr hr']
 generalize hq:64-r=q at *
 generalize hu:18446744073709551616-r=u at *
 apply ZI (fn:=ou) rfl
 simp only [ou,↓Ul,Q1,quiet,cW,↓pW,reduceCtorEq,seval,-Qb,hw,hm,n1,h64,hs1,hsub,n2,hr64,hs2,ho,XS]
 rfl
theorem O5:fillL (Qc 80 (Value.int .u64 0)) [(0,1,.int .u64 4794697086780616226),(1,1,.int .u64 8158064640168781261),(2,1,.int .u64 13096744586834688815),(3,1,.int .u64 16840607885511220156),(4,1,.int .u64 4131703408338449720),(5,1,.int .u64 6480981068601479193),(6,1,.int .u64 10538285296894168987),(7,1,.int .u64 12329834152419229976),(8,1,.int .u64 15566598209576043074),(9,1,.int .u64 1334009975649890238),(10,1,.int .u64 2608012711638119052),(11,1,.int .u64 6128411473006802146),(12,1,.int .u64 8268148722764581231),(13,1,.int .u64 9286055187155687089),(14,1,.int .u64 11230858885718282805),(15,1,.int .u64 13951009754708518548),(16,1,.int .u64 16472876342353939154),(17,1,.int .u64 17275323862435702243),(18,1,.int .u64 1135362057144423861),(19,1,.int .u64 2597628984639134821),(20,1,.int .u64 3308224258029322869),(21,1,.int .u64 5365058923640841347),(22,1,.int .u64 6679025012923562964),(23,1,.int .u64 8573033837759648693),(24,1,.int .u64 10970295158949994411),(25,1,.int .u64 12119686244451234320),(26,1,.int .u64 12683024718118986047),(27,1,.int .u64 13788192230050041572),(28,1,.int .u64 14330467153632333762),(29,1,.int .u64 15395433587784984357),(30,1,.int .u64 489312712824947311),(31,1,.int .u64 1452737877330783856),(32,1,.int .u64 2861767655752347644),(33,1,.int .u64 3322285676063803686),(34,1,.int .u64 5560940570517711597),(35,1,.int .u64 5996557281743188959),(36,1,.int .u64 7280758554555802590),(37,1,.int .u64 8532644243296465576),(38,1,.int .u64 9350256976987008742),(39,1,.int .u64 10552545826968843579),(40,1,.int .u64 11727347734174303076),(41,1,.int .u64 12113106623233404929),(42,1,.int .u64 14000437183269869457),(43,1,.int .u64 14369950271660146224),(44,1,.int .u64 15101387698204529176),(45,1,.int .u64 15463397548674623760),(46,1,.int .u64 17586052441742319658),(47,1,.int .u64 1182934255886127544),(48,1,.int .u64 1847814050463011016),(49,1,.int .u64 2177327727835720531),(50,1,.int .u64 2830643537854262169),(51,1,.int .u64 3796741975233480872),(52,1,.int .u64 4115178125766777443),(53,1,.int .u64 5681478168544905931),(54,1,.int .u64 6601373596472566643),(55,1,.int .u64 7507060721942968483),(56,1,.int .u64 8399075790359081724),(57,1,.int .u64 8693463985226723168),(58,1,.int .u64 9568029438360202098),(59,1,.int .u64 10144078919501101548),(60,1,.int .u64 10430055236837252648),(61,1,.int .u64 11840083180663258601),(62,1,.int .u64 13761210420658862357),(63,1,.int .u64 14299343276471374635),(64,1,.int .u64 14566680578165727644),(65,1,.int .u64 15097957966210449927),(66,1,.int .u64 16922976911328602910),(67,1,.int .u64 17689382322260857208),(68,1,.int .u64 500013540394364858),(69,1,.int .u64 748580250866718886),(70,1,.int .u64 1242879168328830382),(71,1,.int .u64 1977374033974150939),(72,1,.int .u64 2944078676154940804),(73,1,.int .u64 3659926193048069267),(74,1,.int .u64 4368137639120453308),(75,1,.int .u64 4836135668995329356),(76,1,.int .u64 5532061633213252278),(77,1,.int .u64 6448918945643986474),(78,1,.int .u64 6902733635092675308),(79,1,.int .u64 7801388544844847127)]=some (ns .u64 Yw):=rfl
theorem Lz:Z9 T 208 []=some (eV Yw):=by
 have hf:=O5
 have lk:=Uy
 generalize Yw=K at *
 apply ZI (fn:=ot) rfl
 simp only [ot,Q1,quiet,cW,↓pW,reduceCtorEq,seval,-Qb,hf,Qn,Q5,QW,Zf,ZU,Zg,QP,lk,ZX]
 rfl
theorem UN (l:List Nat):∀ n,(Uh n l).length=l.length+n
 | 0=>rfl
 | n+1=>by rw [Uh,Qg,UN l n]; rfl
theorem UO (l:List Nat) {n j:Nat} (hj:j<l.length+n):∀ m,n≤m→(Uh m l)[j]?=(Uh n l)[j]?
 | 0,h=>by rw [show n=0 by omega]
 | m+1,h=>by
  by_cases e:n=m+1
  ·rw [e]
  ·rw [Uh,Qa (by rw [UN]; omega),UO l hj m (by omega)]
theorem HG (b:List Nat):(Tw b).length=16:=by simp [Tw]
theorem Ui (b:List Nat):(XB b).length=80:=by rw [XB,UN,HG]
theorem Ty (hi:i<16):(XB b)[i]?=some (be ((b.drop (8*i)).take 8)):=by
 rw [XB,UO _ (n:=0) (by rw [HG]; omega) 64 (by omega)]
 simp [Uh,Tw,hi]
theorem Tx (hi:16≤i) (hi':i<80):(XB b)[i]?=some (((XB b).getD (i-16) 0+(XB b).getD (i-7) 0+sg0 ((XB b).getD (i-15) 0)+sg1 ((XB b).getD (i-2) 0))%18446744073709551616):=by
 obtain ⟨n,rfl⟩:∃ n,i=16+n:=⟨i-16,by omega⟩
 have hl:=HG b
 have hn:=UN (Tw b) n
 rw [hl] at hn
 have hg:∀ j,j<16+n→(XB b).getD j 0=(Uh n (Tw b)).getD j 0:=fun j hj=>by
  rw [Qx,Qx,XB,UO _ (n:=n) (by rw [hl]; omega) 64 (by omega)]
 rw [hg _ (by omega),hg _ (by omega),hg _ (by omega),hg _ (by omega)]
 rw [XB,UO _ (n:=n+1) (by rw [hl]; omega) 64 (by omega),Uh,Qe (by omega),hn,Qs]
 simp only [iY,hn,List.getElem?_cons_zero]
theorem Ns (l:List Nat) (x:Nat):be (l++[x])=be l*256+x:=by simp [be]
theorem Nt:∀ (n:Nat) (l:List Nat),l.length=n→(∀ x∈l,x<256)→be l<256^n
 | 0,l,h,_=>by rw [Zd h]; decide
 | n+1,l,h,hx=>by
  obtain ⟨m,x,rfl⟩:∃ m x,l=m++[x]:=⟨l.dropLast,l.getLast (by intro e; rw [e] at h; cases h),(List.dropLast_concat_getLast _).symm⟩
  rw [Qg] at h
  have h1:=Nt n m (by simpa using h) (fun y hy=>hx y (Vj _ hy))
  have h2:=hx x (by simp)
  rw [Ns,Z0]
  omega
theorem Lu (hb:∀ x∈b,x<256) {i:Nat} (hx:(XB b)[i]?=some x):x<18446744073709551616:=by
 have hi:i<80:=by have:=(Qf.1 hx).1; rwa [Ui] at this
 by_cases h:i<16
 ·rw [Ty h] at hx
  cases hx
  have hl:((b.drop (8*i)).take 8).length≤8:=by rw [Q7]; omega
  have:=Nt _ _ rfl (fun y hy=>hb y (Zw (QQ hy)):∀ y∈(b.drop (8*i)).take 8,y<256)
  exact QH this (Zn (n:=256) (by decide) hl)
 ·rw [Tx (by omega) hi] at hx
  cases hx
  exact Q3 _ (by decide)
theorem Ur {j:Nat} (hj:j<i) (hi:i≤L.length):(pf n L i)[j]?=L[j]? := by
 unfold pf
 rw [Qa (by rw [Q7]; omega),QV,if_pos hj]
theorem Sr {i:Nat} (h:l[i]?=some x):l.set i x=l:=by
 apply ZO
 intro k
 rw [XR]
 by_cases c:i=k
 ·rw [if_pos c,←c,h,if_pos (Qf.1 h).1]
 ·rw [if_neg c]
theorem Ih (hi:i<n) (hl:L.length=n):(pf n L i)[i]?=some 0:=by
 unfold pf
 rw [Qe (by rw [Q7]; omega),Q7,Ze (by omega),Qs,List.getElem?_replicate,if_pos (by omega)]
theorem Wx (a b:Nat):IntKind.u64.wrap ((a:Int)+(b:Int))=(((a+b)%18446744073709551616:Nat):Int):=by rw [←KQ,BI]
theorem WQ {b:Nat} (ha:a<18446744073709551616) (hb:b<18446744073709551616):Zo .xor .u64 (a:Int) (b:Int)=((a^^^b:Nat):Int):=R7 rfl ha hb
theorem DE {b:Nat} (ha:a<18446744073709551616) (hb:b<18446744073709551616):Zo .and .u64 (a:Int) (b:Int)=((a&&&b:Nat):Int):=V9 rfl ha hb
theorem YS {b:Nat} (ha:a<18446744073709551616) (hb:b<18446744073709551616):a^^^b<18446744073709551616:=Nat.xor_lt_two_pow (n:=64) ha hb
theorem Yp {b:Nat} (hb:b<18446744073709551616):a&&&b<18446744073709551616:=Nat.and_lt_two_pow (n:=64) a hb
theorem WR (hr:r≤64):(x:Int).fdiv (2^min r IntKind.u64.bits)=((x/2^r:Nat):Int):=by
 rw [show min r IntKind.u64.bits=r from Ze hr,←Uw,Xo]; rfl
theorem Fb (hx:x<18446744073709551616):x/2^r<18446744073709551616:=J4 (JP _ _) hx
structure BB (H:List Ob) (id off:Nat) (b:List Nat):Prop where
 ob:∃ all:List Nat,H[id]?=some ⟨u8s all,true,true,false,1⟩∧∀ i,i<b.length→all[off+i]?=b[i]?
 lt:∀ x∈b,x<256
theorem BB.app {H l:List Ob} {id off:Nat} {b:List Nat} (h:BB H id off b):BB (H++l) id off b:=by
 obtain ⟨⟨all,h1,h2⟩,h3⟩:=h
 exact ⟨⟨all,by rw [Qa (Qf.1 h1).1]; exact h1,h2⟩,h3⟩
def w2I (H:List Ob) (P:Value) (id off cap:Nat) (w:List Nat) (i:Int) (o8 c8:Nat) (j:Int) (ex:Env):St:=⟨[(0,P),(1,.slice (some ⟨id,off,none⟩) 128 cap),(4,.pointer (some ⟨H.length,0,none⟩)),(5,.int .i64 i),(17,.int .i64 i),(28,.slice (some ⟨id,o8,none⟩) 8 c8),(29,.int .i64 8),(30,.int .i64 j)]++ex,H++[⟨ns .u64 w,true,true,true,1⟩],[]⟩
theorem PE {P:Value} {c8:Nat} (hb:BB H id off b) (hl:b.length=128) (hi:i<16) :
  Q8 T H.length (.block 2 (.loop Hu)) (w2I H P id off cap (pf 80 (XB b) i) i (off+8*i) c8 0 [])=some (.normal,w2I H P id off cap (pf 80 (XB b) (i+1)) i (off+8*i) c8 8 [(31,.bool false)]):=by
 obtain ⟨⟨all,h1,h2⟩,h3⟩:=hb
 have hWl:=Ui b
 have h8:((b.drop (8*i)).take 8).length=8:=by rw [Q7,QC]; omega
 have hz:=Ih (L:=XB b) (by omega:i<80) hWl
 have hpl:=BW hWl (by omega:i≤80)
 have bq:(pf 80 (XB b) i).set i (be [])=pf 80 (XB b) i:=Sr hz
 have hW:=Ty (b:=b) hi
 have hstep:=W4 hWl (by omega:i<80) hW
 have h:=XA (T:=T) (base:=H.length) (id:=2) (body:=Hu) (fun j=>w2I H P id off cap ((pf 80 (XB b) i).set i (be (((b.drop (8*i)).take 8).take j))) i (off+8*i) c8 j []) (s':=w2I H P id off cap (pf 80 (XB b) (i+1)) i (off+8*i) c8 8 [(31,.bool false)]) 8
  (fun j hj=>by
   obtain ⟨x,hx⟩:∃ x,((b.drop (8*i)).take 8)[j]?=some x:=⟨_,Qh (by omega)⟩
   have hxb:b[8*i+j]?=some x:=by
    rw [QV,if_pos hj,Zp] at hx; exact hx
   have hx':=h3 x (Qz hxb)
   have hxa:(u8s all)[off+8*i+j]?=some (.int .u8 (x:Nat)):=Jr (by rw [show off+8*i+j=off+(8*i+j) by omega,h2 _ (by omega)]; exact hxb)
   have hbel:=Nt j (((b.drop (8*i)).take 8).take j) (by rw [Q7]; omega) (fun y hy=>h3 y (Zw (QQ (QQ hy))))
   have hbes:be (((b.drop (8*i)).take 8).take (j+1))=be (((b.drop (8*i)).take 8).take j)*256+x:=by rw [ZG,hx]; exact Ns _ _
   rw [hbes]
   have h256:(256:Nat)^j≤256^7:=Zn (by decide) (by omega)
   have e7:(256:Nat)^7=72057594037927936:=by decide
   rw [e7] at h256
   generalize be (((b.drop (8*i)).take 8).take j)=a at *
   have hg:((pf 80 (XB b) i).set i a)[i]?=some a:=by rw [Qt (by rw [hpl]; omega)]
   have hgc:=Jn (k := .u64) hg
   have hss:=X9 .u64 ((pf 80 (XB b) i).set i a) i (a*256+x)
   rw [KM] at hss
   have hln:((pf 80 (XB b) i).set i a).length=80:=by rw [Qo]; exact hpl
   have w1:IntKind.i64.wrap ((j:Int)+1)=((j+1:Nat):Int):=Z4 (b:=1) (by omega)
   have w2:IntKind.u64.wrap (x:Int)=(x:Int):=FK (by omega)
   have w3:IntKind.u64.wrap ((a:Int)*2^min 8 IntKind.u64.bits)=((a*256:Nat):Int):=Ae (b:=256) (by omega)
   have w4:Zo .or .u64 ((a*256:Nat):Int) (x:Int)=((a*256+x:Nat):Int):=by
    rw [K7 rfl (show a*256<2^64 by omega) (show x<2^64 by omega)]
    have:=Vo (a:=x) (b:=a) (n:=8) (by omega)
    rw [show (2:Nat)^8=256 from rfl] at this
    rw [this]
   have e1:((j:Int)<8)=True:=eq_true (by omega)
   have e2:((i:Int)<80)=True:=eq_true (by omega)
   have e4:(i≤79)=True:=eq_true (by omega)
   have hl1:liveAt (H++[⟨ns .u64 ((pf 80 (XB b) i).set i a),true,true,true,1⟩]) id=some ⟨u8s all,true,true,false,1⟩:=Km (QX h1 rfl)
   generalize (pf 80 (XB b) i).set i a=O1,(pf 80 (XB b) i).set i (a*256+x)=O2 at *
   generalize hv:a*256+x=v at *
   generalize a*256=v2 at *
   simp only [liveAt] at hl1
   generalize hoo:off+8*i=oo at *
   have hget:(H++[⟨ns .u64 O1,true,true,true,1⟩])[id]?=some ⟨u8s all,true,true,false,1⟩:=by rw [Qa (Qf.1 h1).1]; exact h1
   simp only [w2I,Hu,Q1,quiet,cW,↓pW,reduceCtorEq,seval,-Qb,hget,hxa,hgc,w1,w2,w3,w4,e1,e2,e4,hss,QP,hln])
  (by
   rw [Qu (by omega),hstep]
   simp only [w2I,Hu,Q1,quiet,cW,↓pW,reduceCtorEq,seval,-Qb])
 rw [JZ,bq] at h
 exact h
theorem J3 {k:IntKind} {y d:Nat} (h:n≤y):Xj (some (.int k (n:Int))) y d=some n:=by
 have e:(0:Int)≤(n:Int)∧(n:Int)≤(y:Int):=⟨by omega,by omega⟩
 simp only [Xj,if_pos e,XS]
def w3I (H:List Ob) (P:Value) (id off cap:Nat) (w:List Nat) (i:Int) (ex:Env):St:=⟨[(0,P),(1,.slice (some ⟨id,off,none⟩) 128 cap),(4,.pointer (some ⟨H.length,0,none⟩)),(17,.int .i64 i)]++ex,H++[⟨ns .u64 w,true,true,true,1⟩],[]⟩
theorem kF {P:Value} (hb:BB H id off b) (hl:b.length=128) (hc:128≤cap) (hi:i<16) :
  Q8 T H.length YG (w3I H P id off cap (pf 80 (XB b) i) i [])=some (.normal,w3I H P id off cap (pf 80 (XB b) (i+1)) ((i+1:Nat):Int) []):=by
 have h2:=PE (P:=P) (cap:=cap) (c8:=cap-8*i) hb hl hi
 obtain ⟨⟨all,h1,-⟩,h3⟩:=hb
 simp only [w2I,Qw,Qr,Zx] at h2
 have e1:((i:Int)<80)=True:=eq_true (by omega)
 have e2:((i:Int)<16)=True:=eq_true (by omega)
 have w1:IntKind.i64.wrap (8*(i:Int))=((8*i:Nat):Int):=VH (a:=8) (by omega)
 have w2:IntKind.i64.wrap (((8*i:Nat):Int)+8)=((8*i+8:Nat):Int):=Z4 (b:=8) (by omega)
 have w3:IntKind.i64.wrap ((i:Int)+1)=((i+1:Nat):Int):=Z4 (b:=1) (by omega)
 have b1:ZA 128 cap (some (.int .i64 ((8*i:Nat):Int))) (some (.int .i64 ((8*i+8:Nat):Int))) none=some (8*i,8*i+8,cap):=by
  have n1:Xj (some (.int .i64 ((8*i+8:Nat):Int))) cap 128=some (8*i+8):=J3 (by omega)
  have n2:Xj (some (.int .i64 ((8*i:Nat):Int))) (8*i+8) 0=some (8*i):=J3 (by omega)
  rw [JC,n1,Qj,n2,Qj]
 have hs:8*i+8-8*i=8:=by omega
 have hget:∀ l:List Ob,(H++l)[id]?=some ⟨u8s all,true,true,false,1⟩:=fun l=>by rw [Qa (Qf.1 h1).1]; exact h1
 generalize pf 80 (XB b) i=O1,pf 80 (XB b) (i+1)=O2 at *
 generalize hk8:8*i+8=k8 at *
 generalize hk:8*i=k at *
 generalize i+1=i1 at *
 simp only [w3I,YG,Q1,quiet,cW,↓pW,reduceCtorEq,seval,-Qb,e1,e2,w1,w2,w3,b1,hs,hget,h2]
theorem XW (h:l[i]?=some x):l.getD i 0=x:=by rw [Qx,h]; rfl
theorem dJ {P:Value} (hb:∀ x∈b,x<256) (hi:16≤i) (hi':i<80) :
  Q8 T H.length YG (w3I H P id off cap (pf 80 (XB b) i) i [])=some (.normal,w3I H P id off cap (pf 80 (XB b) (i+1)) ((i+1:Nat):Int) []):=by
 have hWl:=Ui b
 have hW:=Tx (b:=b) hi hi'
 have hstep:=W4 hWl hi' hW
 have hpl:=BW hWl (Xf hi')
 obtain ⟨x,hx⟩:∃ x,(XB b)[i-15]?=some x:=⟨_,Qh (by omega)⟩
 obtain ⟨y,hy⟩:∃ x,(XB b)[i-2]?=some x:=⟨_,Qh (by omega)⟩
 obtain ⟨u,hu⟩:∃ x,(XB b)[i-16]?=some x:=⟨_,Qh (by omega)⟩
 obtain ⟨v,hv⟩:∃ x,(XB b)[i-7]?=some x:=⟨_,Qh (by omega)⟩
 have lx:=Lu hb hx
 have ly:=Lu hb hy
 have cx:=Jn (k := .u64) ((Ur (n:=80) (by omega:i-15<i) (by omega)).trans hx)
 have cy:=Jn (k := .u64) ((Ur (n:=80) (by omega:i-2<i) (by omega)).trans hy)
 have cu:=Jn (k := .u64) ((Ur (n:=80) (by omega:i-16<i) (by omega)).trans hu)
 have cv:=Jn (k := .u64) ((Ur (n:=80) (by omega:i-7<i) (by omega)).trans hv)
 rw [XW hx,XW hy,XW hu,XW hv] at hstep
 have r1:Z9 T 212 [.int .u64 x,.int .i64 (-1)]=some (.int .u64 (Xv x 1:Nat)):=BE (r:=1) lx (by decide) (by decide)
 have r8:Z9 T 212 [.int .u64 x,.int .i64 (-8)]=some (.int .u64 (Xv x 8:Nat)):=BE (r:=8) lx (by decide) (by decide)
 have r19:Z9 T 212 [.int .u64 y,.int .i64 (-19)]=some (.int .u64 (Xv y 19:Nat)):=BE (r:=19) ly (by decide) (by decide)
 have r61:Z9 T 212 [.int .u64 y,.int .i64 (-61)]=some (.int .u64 (Xv y 61:Nat)):=BE (r:=61) ly (by decide) (by decide)
 have b1:=V0 (r:=1) lx (by decide) (by decide)
 have b8:=V0 (r:=8) lx (by decide) (by decide)
 have b19:=V0 (r:=19) ly (by decide) (by decide)
 have b61:=V0 (r:=61) ly (by decide) (by decide)
 have x1:=WQ b1 b8
 have x2:Zo .xor .u64 ((Xv x 1^^^Xv x 8:Nat):Int) ((x/2^7:Nat):Int)=((sg0 x:Nat):Int):=WQ (YS b1 b8) (Fb lx)
 have y1:=WQ b19 b61
 have y2:Zo .xor .u64 ((Xv y 19^^^Xv y 61:Nat):Int) ((y/2^6:Nat):Int)=((sg1 y:Nat):Int):=WQ (YS b19 b61) (Fb ly)
 have s7:(x:Int).fdiv (2^min 7 IntKind.u64.bits)=((x/2^7:Nat):Int):=WR (by decide)
 have s6:(y:Int).fdiv (2^min 6 IntKind.u64.bits)=((y/2^6:Nat):Int):=WR (by decide)
 have m1:=Wx u v
 have m2:=Wx ((u+v)%18446744073709551616) (sg0 x)
 have m3:=Wx (((u+v)%18446744073709551616+sg0 x)%18446744073709551616) (sg1 y)
 have hsum:(((u+v)%18446744073709551616+sg0 x)%18446744073709551616+sg1 y)%18446744073709551616=(u+v+sg0 x+sg1 y)%18446744073709551616:=by omega
 rw [hsum] at m3
 have hset:=X9 .u64 (pf 80 (XB b) i) i ((u+v+sg0 x+sg1 y)%18446744073709551616)
 rw [hstep] at hset
 have e1:((i:Int)<80)=True:=eq_true (by omega)
 have e2:((i:Int)<16)=False:=eq_false (by omega)
 have i15:IntKind.i64.wrap ((i:Int)-15)=((i-15:Nat):Int):=by rw [Z2 (by omega) (by omega)]; omega
 have i2:IntKind.i64.wrap ((i:Int)-2)=((i-2:Nat):Int):=by rw [Z2 (by omega) (by omega)]; omega
 have i16:IntKind.i64.wrap ((i:Int)-16)=((i-16:Nat):Int):=by rw [Z2 (by omega) (by omega)]; omega
 have i7:IntKind.i64.wrap ((i:Int)-7)=((i-7:Nat):Int):=by rw [Z2 (by omega) (by omega)]; omega
 have j15:(((i-15:Nat):Int)<80)=True:=eq_true (by omega)
 have j2:(((i-2:Nat):Int)<80)=True:=eq_true (by omega)
 have j16:(((i-16:Nat):Int)<80)=True:=eq_true (by omega)
 have j7:(((i-7:Nat):Int)<80)=True:=eq_true (by omega)
 have w3:IntKind.i64.wrap ((i:Int)+1)=((i+1:Nat):Int):=Z4 (b:=1) (by omega)
 have e4:(i≤79)=True:=eq_true (by omega)
 clear hsum hstep hW hx hy hu hv hWl
 generalize pf 80 (XB b) i=O1,pf 80 (XB b) (i+1)=O2,(u+v+sg0 x+sg1 y)%18446744073709551616=z,((u+v)%18446744073709551616+sg0 x)%18446744073709551616=z2 at *
 generalize (u+v)%18446744073709551616=z3 at *
 generalize sg0 x=gx,sg1 y=gy,Xv x 1^^^Xv x 8=xx,Xv y 19^^^Xv y 61=yy at *
 generalize Xv x 1=x1v,Xv x 8=x8v,Xv y 19=y19v,Xv y 61=y61v at *
 generalize x/2^7=x7v at *
 generalize y/2^6=y6v at *
 generalize i-15=k15 at *
 generalize i-2=k2 at *
 generalize i-16=k16 at *
 generalize i-7=k7 at *
 generalize i+1=i1 at *
 simp only [w3I,YG,Q1,quiet,cW,↓pW,reduceCtorEq,seval,-Qb,e1,e2,e4,i15,i2,i16,i7,j15,j2,j16,j7,cx,cy,cu,cv,r1,r8,r19,r61,x1,x2,y1,y2,s7,s6,m1,m2,m3,hset,w3,QP,hpl]
theorem PC {P:Value} (hb:BB H id off b) (hl:b.length=128) (hc:128≤cap) :
  Q8 T H.length (.block 0 (.loop YG)) (w3I H P id off cap (Qc 80 0) 0 [])=some (.normal,w3I H P id off cap (XB b) 80 [(18,.bool false)]):=by
 have hWl:=Ui b
 have h:=XA (T:=T) (base:=H.length) (id:=0) (body:=YG) (fun i=>w3I H P id off cap (pf 80 (XB b) i) i []) (s':=w3I H P id off cap (XB b) 80 [(18,.bool false)]) 80
  (fun i hi=>by
   by_cases h:i<16
   ·exact kF hb hl hc h
   ·exact dJ hb.lt (by omega) hi)
  (by
   rw [Gq hWl]
   simp only [w3I,YG,Q1,quiet,cW,↓pW,reduceCtorEq,seval,-Qb])
 rw [Gp] at h
 exact h
theorem eight {l:List Nat} (h:l.length=8):∃ a b c d e f g i,l=[a,b,c,d,e,f,g,i]:=by
 match l,h with
 | [a,b,c,d,e,f,g,i],_=>exact ⟨a,b,c,d,e,f,g,i,rfl⟩
theorem ej (s:List Nat) (k w:Nat):(rnd s k w).length=8:=rfl
theorem Gm (hs:s.length=8) (w:List Nat):∀ n,(DG n w s).length=8
 | 0=>hs
 | n+1=>rfl
theorem kV (hs:s.length=8) (hx:∀ x∈s,x<18446744073709551616) (k w:Nat):∀ x∈rnd s k w,x<18446744073709551616:=by
 obtain ⟨a,b,c,d,e,f,g,h,rfl⟩:=eight hs
 intro x hm
 have h1:∀ y z:Nat,(y+z)%18446744073709551616<18446744073709551616:=fun _ _=>Q3 _ (by decide)
 simp only [rnd,Jw,JA,or_false] at hm
 rcases hm with rfl | rfl | rfl | rfl | rfl | rfl | rfl | rfl
 ·exact h1 _ _
 ·exact hx _ (by simp)
 ·exact hx _ (by simp)
 ·exact hx _ (by simp)
 ·exact h1 _ _
 ·exact hx _ (by simp)
 ·exact hx _ (by simp)
 ·exact hx _ (by simp)
theorem L9 {s:List Nat} (hs:s.length=8) (hx:∀ x∈s,x<18446744073709551616) (w:List Nat):∀ n,∀ x∈DG n w s,x<18446744073709551616
 | 0=>hx
 | n+1=>kV (Gm hs w n) (L9 hs hx w n) _ _
theorem gq:∀ x∈Yw,x<18446744073709551616:=by decide +kernel
theorem fill8 (a b c d e f g h:Nat):fillL (Qc 8 (Value.int .u64 0)) [(0,1,.int .u64 (a:Int)),(1,1,.int .u64 (b:Int)),(2,1,.int .u64 (c:Int)),(3,1,.int .u64 (d:Int)),(4,1,.int .u64 (e:Int)),(5,1,.int .u64 (f:Int)),(6,1,.int .u64 (g:Int)),(7,1,.int .u64 (h:Int))]=some (ns .u64 [a,b,c,d,e,f,g,h]):=rfl
def w1I (H:List Ob) (P:Value) (w s:List Nat) (i:Int) (ex:Env):St:=⟨[(0,P),(4,.pointer (some ⟨H.length,0,none⟩)),(10,.pointer (some ⟨H.length+1,0,none⟩)),(86,eV Yw),(87,.int .i64 i)]++ex,H++[⟨ns .u64 w,true,true,true,1⟩,⟨ns .u64 s,true,true,true,1⟩],[]⟩
theorem dM {P:Value} (hw:w.length=80) (hs:s.length=8) (hx:∀ x∈s,x<18446744073709551616) (hi:i<80) :
  Q8 T H.length Br (w1I H P w s i [])=some (.normal,w1I H P w (rnd s (Yw.getD i 0) (w.getD i 0)) ((i+1:Nat):Int) []):=by
 obtain ⟨a,b,c,d,e,f,g,h,rfl⟩:=eight hs
 obtain ⟨k,hk⟩:∃ k,Yw[i]?=some k:=⟨_,Qh (by rw [Uy]; exact hi)⟩
 obtain ⟨v,hv⟩:∃ k,w[i]?=some k:=⟨_,Qh (by omega)⟩
 rw [XW hk,XW hv]
 have kc:=Jn (k := .u64) hk
 have vc:=Jn (k := .u64) hv
 have la:=hx a (by simp)
 have lb:=hx b (by simp)
 have lc:=hx c (by simp)
 have le:=hx e (by simp)
 have lf:=hx f (by simp)
 have lg:=hx g (by simp)
 have r14:Z9 T 212 [.int .u64 e,.int .i64 (-14)]=some (.int .u64 (Xv e 14:Nat)):=BE (r:=14) le (by decide) (by decide)
 have r18:Z9 T 212 [.int .u64 e,.int .i64 (-18)]=some (.int .u64 (Xv e 18:Nat)):=BE (r:=18) le (by decide) (by decide)
 have r41:Z9 T 212 [.int .u64 e,.int .i64 (-41)]=some (.int .u64 (Xv e 41:Nat)):=BE (r:=41) le (by decide) (by decide)
 have r28:Z9 T 212 [.int .u64 a,.int .i64 (-28)]=some (.int .u64 (Xv a 28:Nat)):=BE (r:=28) la (by decide) (by decide)
 have r34:Z9 T 212 [.int .u64 a,.int .i64 (-34)]=some (.int .u64 (Xv a 34:Nat)):=BE (r:=34) la (by decide) (by decide)
 have r39:Z9 T 212 [.int .u64 a,.int .i64 (-39)]=some (.int .u64 (Xv a 39:Nat)):=BE (r:=39) la (by decide) (by decide)
 have b14:=V0 (r:=14) le (by decide) (by decide)
 have b18:=V0 (r:=18) le (by decide) (by decide)
 have b41:=V0 (r:=41) le (by decide) (by decide)
 have b28:=V0 (r:=28) la (by decide) (by decide)
 have b34:=V0 (r:=34) la (by decide) (by decide)
 have b39:=V0 (r:=39) la (by decide) (by decide)
 have x1:=WQ b14 b18
 have x2:Zo .xor .u64 ((Xv e 14^^^Xv e 18:Nat):Int) ((Xv e 41:Nat):Int)=((Sg1 e:Nat):Int):=WQ (YS b14 b18) b41
 have x3:=WQ b28 b34
 have x4:Zo .xor .u64 ((Xv a 28^^^Xv a 34:Nat):Int) ((Xv a 39:Nat):Int)=((Sg0 a:Nat):Int):=WQ (YS b28 b34) b39
 have a1:=DE le lf
 have a2:Zo .xor .u64 (if IntKind.u64.signed=true then -1 else IntKind.u64.max) (e:Int)=((18446744073709551615^^^e:Nat):Int):=WQ (a:=18446744073709551615) (by decide) le
 have lne:18446744073709551615^^^e<18446744073709551616:=YS (by decide) le
 have a3:=DE lne lg
 have a4:Zo .xor .u64 ((e&&&f:Nat):Int) (((18446744073709551615^^^e)&&&g:Nat):Int)=((chO e f g:Nat):Int):=WQ (Yp lf) (Yp lg)
 have a5:=DE la lb
 have a6:=DE la lc
 have a7:=DE lb lc
 have a8:=WQ (a:=a&&&b) (b:=a&&&c) (Yp lb) (Yp lc)
 have a9:Zo .xor .u64 (((a&&&b)^^^(a&&&c):Nat):Int) ((b&&&c:Nat):Int)=((maO a b c:Nat):Int):=WQ (YS (Yp lb) (Yp lc)) (Yp lc)
 have m1:=Wx h (Sg1 e)
 have m2:=Wx ((h+Sg1 e)%18446744073709551616) (chO e f g)
 have m3:=Wx (((h+Sg1 e)%18446744073709551616+chO e f g)%18446744073709551616) k
 have m4:=Wx ((((h+Sg1 e)%18446744073709551616+chO e f g)%18446744073709551616+k)%18446744073709551616) v
 have hT1:((((h+Sg1 e)%18446744073709551616+chO e f g)%18446744073709551616+k)%18446744073709551616+v)%18446744073709551616=t1O [a,b,c,d,e,f,g,h] k v:=by
  show _=(h+Sg1 e+chO e f g+k+v)%18446744073709551616
  omega
 rw [hT1] at m4
 have m5:IntKind.u64.wrap ((Sg0 a:Int)+(maO a b c:Int))=((t2O [a,b,c,d,e,f,g,h]:Nat):Int):=Wx (Sg0 a) (maO a b c)
 have m6:=Wx (t1O [a,b,c,d,e,f,g,h] k v) (t2O [a,b,c,d,e,f,g,h])
 have m7:=Wx d (t1O [a,b,c,d,e,f,g,h] k v)
 have hr:rnd [a,b,c,d,e,f,g,h] k v=[(t1O [a,b,c,d,e,f,g,h] k v+t2O [a,b,c,d,e,f,g,h])%18446744073709551616,a,b,c,(d+t1O [a,b,c,d,e,f,g,h] k v)%18446744073709551616,e,f,g]:=rfl
 have hf:=fill8 ((t1O [a,b,c,d,e,f,g,h] k v+t2O [a,b,c,d,e,f,g,h])%18446744073709551616) a b c ((d+t1O [a,b,c,d,e,f,g,h] k v)%18446744073709551616) e f g
 rw [←hr] at hf
 have lR:=ej [a,b,c,d,e,f,g,h] k v
 have e1:((i:Int)<80)=True:=eq_true (by omega)
 have w3:IntKind.i64.wrap ((i:Int)+1)=((i+1:Nat):Int):=Z4 (b:=1) (by omega)
 have vi:Ai none 80 1 (eV Yw) (.int .i64 (i:Int))=some (.int .u64 (k:Nat)):=by
  unfold eV
  rw [BO]
  simp only [e1,Q1,quiet,cK,↓pQ,reduceCtorEq,seval,-Qb,cL,kc]
 have g0:(ns .u64 [a,b,c,d,e,f,g,h])[0]?=some (.int .u64 (a:Nat)):=rfl
 have g1:(ns .u64 [a,b,c,d,e,f,g,h])[1]?=some (.int .u64 (b:Nat)):=rfl
 have g2:(ns .u64 [a,b,c,d,e,f,g,h])[2]?=some (.int .u64 (c:Nat)):=rfl
 have g3:(ns .u64 [a,b,c,d,e,f,g,h])[3]?=some (.int .u64 (d:Nat)):=rfl
 have g4:(ns .u64 [a,b,c,d,e,f,g,h])[4]?=some (.int .u64 (e:Nat)):=rfl
 have g5:(ns .u64 [a,b,c,d,e,f,g,h])[5]?=some (.int .u64 (f:Nat)):=rfl
 have g6:(ns .u64 [a,b,c,d,e,f,g,h])[6]?=some (.int .u64 (g:Nat)):=rfl
 have g7:(ns .u64 [a,b,c,d,e,f,g,h])[7]?=some (.int .u64 (h:Nat)):=rfl
 have lS:(ns .u64 [a,b,c,d,e,f,g,h]).length=8:=rfl
 clear hT1 hr hk hv kc hs hx
 generalize rnd [a,b,c,d,e,f,g,h] k v=R at *
 generalize (t1O [a,b,c,d,e,f,g,h] k v+t2O [a,b,c,d,e,f,g,h])%18446744073709551616=z1 at *
 generalize (d+t1O [a,b,c,d,e,f,g,h] k v)%18446744073709551616=z2 at *
 generalize t1O [a,b,c,d,e,f,g,h] k v=t1 at *
 generalize t2O [a,b,c,d,e,f,g,h]=t2 at *
 generalize (((h+Sg1 e)%18446744073709551616+chO e f g)%18446744073709551616+k)%18446744073709551616=z3 at *
 generalize ((h+Sg1 e)%18446744073709551616+chO e f g)%18446744073709551616=z4 at *
 generalize (h+Sg1 e)%18446744073709551616=z5 at *
 generalize Sg1 e=se,Sg0 a=sa,chO e f g=cc,maO a b c=mm at *
 generalize (a&&&b)^^^(a&&&c)=q1 at *
 generalize (18446744073709551615^^^e)&&&g=q2 at *
 generalize 18446744073709551615^^^e=q3 at *
 generalize e&&&f=q4 at *
 generalize a&&&b=q5 at *
 generalize a&&&c=q6 at *
 generalize b&&&c=q7 at *
 generalize Xv e 14^^^Xv e 18=q8,Xv a 28^^^Xv a 34=q9 at *
 generalize Xv e 14=p1,Xv e 18=p2,Xv e 41=p3,Xv a 28=p4,Xv a 34=p5,Xv a 39=p6 at *
 generalize i+1=i1 at *
 generalize hS:ns .u64 [a,b,c,d,e,f,g,h]=S at *
 simp only [w1I,hS]
 generalize eV Yw=kt at *
 simp only [Br,Q1,quiet,cW,↓pW,reduceCtorEq,seval,-Qb,e1,vi,vc,r14,r18,r41,r28,r34,r39,x1,x2,x3,x4,a1,a2,a3,a4,a5,a6,a7,a8,a9,m1,m2,m3,m4,m5,m6,m7,hf,w3,g0,g1,g2,g3,g4,g5,g6,g7,lS,QP,hw,lR,Q5,Qn]
theorem PF {P:Value} (hw:w.length=80) (hs:s.length=8) (hx:∀ x∈s,x<18446744073709551616) :
  Q8 T H.length (.block 4 (.loop Br)) (w1I H P w s 0 [])=some (.normal,w1I H P w (DG 80 w s) 80 [(88,.bool false)]):=by
 have h:=XA (T:=T) (base:=H.length) (id:=4) (body:=Br) (fun i=>w1I H P w (DG i w s) i []) (s':=w1I H P w (DG 80 w s) 80 [(88,.bool false)]) 80
  (fun i hi=>dM hw (Gm hs w i) (L9 hs hx w i) hi)
  (by
   generalize DG 80 w s=R
   simp only [w1I]
   generalize eV Yw=kt
   simp only [Br,Q1,quiet,cW,↓pW,reduceCtorEq,seval,-Qb])
 exact h
end Go.Ev.YtomfgcgnepfmjaaGreat
namespace Go.Ev.YtomfgcgnepfmjaaGreat
open Go Go.Ev
attribute [local congr] Jq J7 Jp J8 Je
set_option maxRecDepth 100000
variable {H G:List Ob} {hid n i x off b0:Nat} {st s b L:List Nat} {rv pv:Value} {K:Nat→Prop} {xs:List Value} {ps:List (List Nat)}
def hcl (rv:Value) (n:Nat) (st:List Nat):List Value:=rv::.int .u64 (n:Nat)::ns .u64 st
def hob (rv:Value) (n:Nat) (st:List Nat):Ob:=⟨hcl rv n st,true,true,true,1⟩
theorem UU (rv:Value) (n:Nat) (st:List Nat):(hcl rv n st).length=2+st.length:=by simp [hcl,QP]; omega
theorem Nd (h:st[i]?=some x):(hcl rv n st)[2+i]?=some (.int .u64 (x:Nat)):=by
 rw [Xy]; exact Jn h
theorem gB (rv:Value) (n i x:Nat) (st:List Nat):(hcl rv n st).set (2+i) (.int .u64 (x:Nat))=hcl rv n (st.set i x):=by
 rw [Xy]
 show rv::.int .u64 (n:Nat)::(ns .u64 st).set i _=_
 rw [X9]; rfl
theorem TN (h:st.length=8):Q2 8 (Zr 2 (hcl rv n st))=ns .u64 st:=by
 show Q2 8 (ns .u64 st)=_
 rw [Qu (by rw [QP]; omega)]
theorem ix (hs:s.length=8):(blk s b).length=8:=by unfold blk; rw [Wt,Gm hs,hs]; rfl
theorem mU:∀ x∈blk s b,x<18446744073709551616:=by
 intro x hx
 unfold blk at hx
 obtain ⟨i,hi⟩:=List.getElem?_of_mem hx
 rw [Yv] at hi
 split at hi
 ·cases hi; exact Q3 _ (by decide)
 ·cases hi
theorem Za {b:Nat}:∀ {M L:List Nat} {i:Nat},i∈Qy b L M→i∈L∨i∈M
 | [],L,i,h=>.inl h
 | m::M,L,i,h=>by
  simp only [Qy] at h
  split at h
  ·rcases Za h with h1 | h1
   ·rcases QJ.1 h1 with h2 | h2
    ·exact .inl h2
    ·exact .inr (by rw [Zc.1 h2]; exact List.mem_cons_self)
   ·exact .inr (XJ _ h1)
  ·rcases Za h with h1 | h1
   ·exact .inl h1
   ·exact .inr (XJ _ h1)
def w0I (H:List Ob) (hid:Nat) (rv:Value) (n:Nat) (st:List Nat) (s L:List Nat) (ob1 ob2:Ob) (i:Int) (ex:Env):St:=⟨[(0,.pointer (some ⟨hid,0,none⟩)),(174,eV s),(175,.int .i64 i)]++ex,H.set hid (hob rv n st)++[ob1,ob2],L⟩
theorem PH {ob1 ob2:Ob} (hh:hid<H.length) (hs:s.length=8) (hst:st.length=8) :
  ∃ L,Q8 T H.length (.block 6 (.loop Hw)) (w0I H hid rv n st s [] ob1 ob2 0 [])=some (.normal,w0I H hid rv n (Ks (fun x y=>(x+y)%18446744073709551616) st s) s L ob1 ob2 8 [(176,.bool false)])∧∀ i∈L,i=hid:=by
 have hZ:(Ks (fun x y=>(x+y)%18446744073709551616) st s).length=8:=by rw [Wt,hs,hst]; rfl
 obtain ⟨Z,hZd⟩:∃ Z,Z=Ks (fun x y=>(x+y)%18446744073709551616) st s:=⟨_,rfl⟩
 rw [←hZd] at hZ ⊢
 obtain ⟨st',hb,L,rfl,hL⟩:=QZ (T:=T) (base:=H.length) (id:=6) (body:=Hw)
  (fun i x=>∃ L,x=w0I H hid rv n (Z.take i++st.drop i) s L ob1 ob2 i []∧∀ j∈L,j=hid)
  (Q:=fun x=>∃ L,x=w0I H hid rv n Z s L ob1 ob2 8 [(176,.bool false)]∧∀ j∈L,j=hid)
  8 (s:=w0I H hid rv n st s [] ob1 ob2 0 []) ⟨[],rfl,by simp⟩
  (fun i x hi hx=>by
   obtain ⟨L,rfl,hL⟩:=hx
   obtain ⟨u,hu⟩:∃ u,st[i]?=some u:=⟨_,Qh (by omega)⟩
   obtain ⟨v,hv⟩:∃ u,s[i]?=some u:=⟨_,Qh (by omega)⟩
   have hz:Z[i]?=some ((u+v)%18446744073709551616):=by rw [hZd,Yv,hu,hv]
   have hlt:(Z.take i).length=i:=by rw [Q7]; omega
   have hg:(Z.take i++st.drop i)[i]?=some u:=by
    rw [Qe (by omega),hlt,Qs,Zp]; exact hu
   have hstep:(Z.take i++st.drop i).set i ((u+v)%18446744073709551616)=Z.take (i+1)++st.drop (i+1):=by
    rw [Q4 _ _ (by omega),hlt,Qs,List.drop_eq_getElem?_toList_append (i:=i),hu,ZG,hz]
    simp
   have hlen:(Z.take i++st.drop i).length=8:=by rw [Qg,QC,hlt]; omega
   have gc:=Nd (rv:=rv) (n:=n) hg
   have sc:=gB rv n i ((u+v)%18446744073709551616) (Z.take i++st.drop i)
   rw [hstep] at sc
   have cl:=UU rv n (Z.take i++st.drop i)
   rw [hlen] at cl
   have vc:=Jn (k := .u64) hv
   have vi:Ai none 8 1 (eV s) (.int .i64 (i:Int))=some (.int .u64 (v:Nat)):=by
    have e1:((i:Int)<8)=True:=eq_true (by omega)
    unfold eV
    rw [BO]
    simp only [e1,Q1,quiet,cK,↓pQ,reduceCtorEq,seval,-Qb,cL,vc]
   have m1:=Wx u v
   have e1:((i:Int)<8)=True:=eq_true (by omega)
   have w3:IntKind.i64.wrap ((i:Int)+1)=((i+1:Nat):Int):=Z4 (b:=1) (by omega)
   have hget:∀ o:Ob,(H.set hid o++[ob1,ob2])[hid]?=some o:=fun o=>by
    rw [Qa (by rw [Qo]; exact hh),Qt hh]
   have hset:∀ o o':Ob,(H.set hid o++[ob1,ob2]).set hid o'=H.set hid o'++[ob1,ob2]:=fun o o'=>by
    rw [Xa _ _ (by rw [Qo]; exact hh),KM]
   have e5:(2+i+1≤2+8)=True:=eq_true (by omega)
   refine ⟨w0I H hid rv n (Z.take (i+1)++st.drop (i+1)) s (Qy H.length L [hid]) ob1 ob2 ((i+1:Nat):Int) [],?_,_,rfl,?_⟩
   ·generalize Z.take (i+1)++st.drop (i+1)=O2,Z.take i++st.drop i=O1 at *
    generalize (u+v)%18446744073709551616=z at *
    simp only [w0I,hob]
    generalize hcl rv n O1=C1,hcl rv n O2=C2,eV s=sv at *
    generalize i+1=i1 at *
    simp only [Hw,Q1,quiet,cW,↓pW,reduceCtorEq,seval,-Qb,e1,vi,m1,w3,gc,sc,cl,e5,hget,hset]
    done
   ·intro j hj
    rcases Za hj with h | h
    ·exact hL j h
    ·simpa using h)
  (fun x hx=>by
   obtain ⟨L,rfl,hL⟩:=hx
   rw [Qu (by omega),Ju (by omega),Q6]
   refine ⟨_,?_,L,rfl,hL⟩
   simp only [w0I,hob]
   generalize hcl rv n Z=C
   generalize eV s=sv
   simp only [Hw,Q1,quiet,cW,↓pW,reduceCtorEq,seval,-Qb])
 exact ⟨L,hb,hL⟩
theorem VX {α:Type} {l:List α} {i:Nat} {x:α} (h:l[i]?=some x):l.set i x=l:=by
 apply ZO
 intro k
 rw [XR]
 by_cases c:i=k
 ·rw [if_pos c,←c,h,if_pos (Qf.1 h).1]
 ·rw [if_neg c]
def Ad:List Nat:=Qc 80 0
theorem kC:Qc 80 (Value.int .u64 0)=ns .u64 Ad:=rfl
theorem dD:Ad.length=80:=rfl
def Py:List Nat:=Qc 8 0
theorem z8_eq:Qc 8 (Value.int .u64 0)=ns .u64 Py:=rfl
theorem kB:Py.length=8:=rfl
theorem cO {id cap:Nat} (hh:H[hid]?=some (hob rv n st)) (hs:st.length=8) (hx:∀ x∈st,x<18446744073709551616) (hb:BB H id off b) (hl:b.length=128) (hc:128≤cap) :
  ∃ w s M,Zb T 206 [.pointer (some ⟨hid,0,none⟩),.slice (some ⟨id,off,none⟩) 128 cap] H=some (.tuple #[],H.set hid (hob rv n (blk st b))++[w,s],M)∧∀ i∈M,i=hid:=by
 have hlt:hid<H.length:=(Qf.1 hh).1
 have h3:=PC (P := .pointer (some ⟨hid,0,none⟩)) (cap:=cap) hb hl hc
 have hWl:=Ui b
 have h1:=PF (H:=H) (P := .pointer (some ⟨hid,0,none⟩)) hWl hs hx
 have lr:=Gm hs (XB b) 80
 obtain ⟨L,h0,hL⟩:=PH (H:=H) (hid:=hid) (n:=n) (rv:=rv) (ob1:=⟨ns .u64 (XB b),true,true,true,1⟩) (ob2:=⟨ns .u64 (DG 80 (XB b) st),true,true,true,1⟩) hlt lr hs
 rw [show Ks (fun x y=>(x+y)%18446744073709551616) st (DG 80 (XB b) st)=blk st b from rfl] at h0
 have hss:H.set hid (hob rv n st)=H:=VX hh
 refine ⟨⟨ns .u64 (XB b),true,true,true,1⟩,⟨ns .u64 (DG 80 (XB b) st),true,true,true,1⟩,L,?_,hL⟩
 simp only [w0I,hss,Qw,Qr,Zx] at h0
 have hz:=kC
 have lz:=dD
 have hz8:=z8_eq
 have lz8:=kB
 rw [show Qc 80 0=Ad from rfl] at h3
 simp only [w3I,Qw,Qr,Zx] at h3
 simp only [w1I,Qw,Qr,Zx] at h1
 have ht:=Lz
 have hcs:=TN (rv:=rv) (n:=n) hs
 have hcl8:2+8≤(hcl rv n st).length:=by rw [UU]; omega
 have hget:∀ l:List Ob,(H++l)[hid]?=some ⟨hcl rv n st,true,true,true,1⟩:=fun l=>by rw [Qa hlt]; exact hh
 have lk:=Uy
 generalize H.set hid (hob rv n (blk st b))=H' at *
 generalize XB b=W at *
 generalize DG 80 W st=R,hcl rv n st=C at *
 generalize Ad=Z at *
 generalize Py=Z8 at *
 generalize Yw=KT at *
 rw [QD (fn:=ox) rfl]
 simp only [ox,Q1,quiet,cW,↓pW,reduceCtorEq,seval,-Qb,hz,hz8,h3,h1,h0,ht,hget,hcs,hcl8,Qn,Q5,QW,Zf,ZU,Zg,QP,hWl,hs,lr,lz,lz8,lk,ZX]
 rfl
inductive Rst (K:Nat→Prop) (H:List Ob):Value→List Nat→Prop
 | nil:Rst K H (.slice none 0 0) []
 | empty {id:Nat}:¬ K id→H[id]?=some ⟨[],true,true,true,1⟩→Rst K H (.slice (some ⟨id,0,none⟩) 0 0) []
 | own {id off:Nat} {all l:List Nat}:¬ K id→H[id]?=some ⟨u8s all,true,true,false,1⟩→off+l.length≤all.length→(∀ i,i<l.length→all[off+i]?=l[i]?)→Rst K H (.slice (some ⟨id,off,none⟩) l.length l.length) l
theorem Rst.app {K:Nat→Prop} {H m:List Ob} {v:Value} {l:List Nat} (h:Rst K H v l):Rst K (H++m) v l:=by
 cases h with
 | nil=>exact .nil
 | empty h1 h2=>exact .empty h1 (by rw [Qa (Qf.1 h2).1]; exact h2)
 | own h1 h2 h4 h3=>exact .own h1 (by rw [Qa (Qf.1 h2).1]; exact h2) h4 h3
theorem Rst.setH {K:Nat→Prop} {H:List Ob} {v:Value} {l:List Nat} {hid n:Nat} {rv:Value} {st:List Nat} (h:Rst K H v l) (hh:H[hid]?=some (hob rv n st)) (o:Ob):Rst K (H.set hid o) v l:=by
 cases h with
 | nil=>exact .nil
 | empty h1 h2=>exact .empty h1 (by
   rw [Qm]
   ·exact h2
   ·intro e; subst e
    have:=congrArg Ob.cells (Xk (hh.symm.trans h2))
    simp [hob,hcl] at this)
 | own h1 h2 h4 h3=>exact .own h1 (by
   rw [Qm]
   ·exact h2
   ·intro e; subst e
    have:=congrArg Ob.exact (Xk (hh.symm.trans h2))
    simp [hob] at this) h4 h3
theorem Mv {all l:List Nat} (h:∀ i,i<l.length→all[off+i]?=l[i]?):((u8s all).drop off).take l.length=u8s l:=by
 apply ZO
 intro i
 rw [QV]
 split
 ·rename_i hi
  rw [Zp]
  have:=h i hi
  simp only [u8s,List.getElem?_map,this]
 ·rename_i hi
  rw [List.getElem?_eq_none (by rw [Qp]; omega)]
theorem Rst.append {K:Nat→Prop} {H:List Ob} {v x:Value} {l p:List Nat} (h:Rst K H v l) (hK:∀ i,K i→i<H.length) (hl:Go.Ev.lenV x=some p.length) (he:elemsOf H 1 p.length x=some (u8s p)) (hb:l.length+p.length≤2^47) :
  ∃ v' H' M,Zv 1 1 H v x=some (v',H',none,M)∧Rst K H' v' (l++p)∧(∀ i∈M,¬ K i)∧H.length≤H'.length∧(∀ i,K i→H'[i]?=H[i]?)∧∀ (i:Nat) (o:Ob),H[i]?=some o→o.exact=true→H'[i]?=some o:=by
 rcases ZB p.length with hn | hn
 ·have:p=[]:=Zd hn
  subst this
  rw [Q6]
  refine ⟨v,H,[],?_,h,by simp,Qk _,fun _ _=>rfl,fun i o h _=>h⟩
  rw [Zz] at hl he
  cases h<;>simp only [Zv,hl,he,Qj,if_true]
 ·have h1:¬ p.length=0:=by omega
  have hnew:¬ K H.length:=fun h=>absurd (hK _ h) (Vy _)
  cases h with
  | nil =>
   refine ⟨.slice (some ⟨H.length,0,none⟩) p.length p.length,H++[Ob.grown 1 (u8s p)],[],?_,?_,by simp,by simp,?_,?_⟩
   ·have h2:(0+p.length)*1≤2^47∧0<1∧0<1:=⟨by simpa using hb,by decide,by decide⟩
    simp only [Zv,hl,he,Qj,if_neg h1,h2,and_self,not_true_eq_false,if_false,if_true]
   ·rw [Qr]
    exact .own (all:=p) hnew (by simp [Ob.grown]) (by omega) (fun i _=>by rw [QA])
   ·intro i hi; rw [Qa (hK i hi)]
   ·intro i o ho _; rw [Qa (Qf.1 ho).1]; exact ho
  | @empty id0 k1 k2 =>
   refine ⟨.slice (some ⟨H.length,0,none⟩) (0+p.length) (0+p.length),H++[Ob.grown 1 ([]++u8s p)],[],?_,?_,by simp,by simp,?_,?_⟩
   ·have h2:(0+p.length)*1≤2^47∧0<1∧0<1:=⟨by simpa using hb,by decide,by decide⟩
    have h4:liveAt H id0=some ⟨[],true,true,true,1⟩:=QX k2 rfl
    have h7:¬ (0+p.length≤0):=by omega
    have h8:elemsOf H 1 0 (.slice (some ⟨id0,0,none⟩) 0 0)=some []:=by simp [elemsOf,h4]
    simp only [Zv,hl,he,Qj,if_neg h1,h2,and_self,not_true_eq_false,if_false,if_true,h4,h8,if_neg h7]
   ·rw [Qr,Qr,QA]
    exact .own (all:=p) hnew (by simp [Ob.grown]) (by omega) (fun i _=>by rw [QA])
   ·intro i hi; rw [Qa (hK i hi)]
   ·intro i o ho _; rw [Qa (Qf.1 ho).1]; exact ho
  | @own id0 off all _ k1 k2 k4 k3 =>
   have hid:id0<H.length:=(Qf.1 k2).1
   refine ⟨.slice (some ⟨H.length,0,none⟩) (l.length+p.length) (l.length+p.length),(H.set id0 Ob.dead)++[Ob.grown 1 (u8s l++u8s p)],[id0],?_,?_,by simpa using k1,by simp,?_,?_⟩
   ·have h2:(l.length+p.length)*1≤2^47∧0<1∧0<1:=⟨by omega,by decide,by decide⟩
    have h4:liveAt H id0=some ⟨u8s all,true,true,false,1⟩:=QX k2 rfl
    have h7:¬ (l.length+p.length≤l.length):=by omega
    have h8:elemsOf H 1 l.length (.slice (some ⟨id0,off,none⟩) l.length l.length)=some (u8s l):=by
     have:=Mv k3
     simp only [elemsOf,h4,Qj,XX]
     rw [this]
     simp [Qp,k4]
    simp only [Zv,hl,he,Qj,if_neg h1,h2,and_self,not_true_eq_false,if_false,if_true,h4,h8,if_neg h7,Zj,Qk]
   ·have:=Rst.own (K:=K) (H:=(H.set id0 Ob.dead)++[Ob.grown 1 (u8s l++u8s p)]) (id:=H.length) (off:=0) (all:=l++p) (l:=l++p) hnew (by simp [Ob.grown,u8s]) (by omega) (fun i _=>by rw [QA])
    rwa [Qg] at this
   ·intro i hi
    rw [Qa (by rw [Qo]; exact hK i hi),Qm (fun e=>k1 (by rw [e]; exact hi))]
   ·intro i o ho hex
    rw [Qa (by rw [Qo]; exact (Qf.1 ho).1),Qm]
    ·exact ho
    ·intro e; subst e; rw [k2] at ho; cases ho; cases hex
theorem DS (b:List Nat):∀ n,(stK n b).length=8
 | 0=>rfl
 | n+1=>ix (DS b n)
theorem Sz:∀ x∈BD,x<18446744073709551616:=by decide
theorem Sh (b:List Nat):∀ n,∀ x∈stK n b,x<18446744073709551616
 | 0=>Sz
 | n+1=>mU
theorem L6 (a b:List Nat):∀ q,128*q≤a.length→stK q (a++b)=stK q a
 | 0,_=>rfl
 | q+1,h=>by
  rw [stK,stK,L6 a b q (by omega),ZH (by omega),ZT (by rw [QC]; omega)]
def Hsh (K:Nat→Prop) (H:List Ob) (hid:Nat) (all:List Nat):Prop:=∃ rv,H[hid]?=some (hob rv all.length (stK (all.length/128) all))∧Rst K H rv (all.drop (128*(all.length/128)))
def fdF (hid:Nat):Value := .func (.func 206) [Value.pointer (some ⟨hid,0,none⟩)].toArray [].toArray
def fdI (hid:Nat) (H:List Ob) (L:List Nat) (ex:Env):St:=⟨[(0,.pointer (some ⟨hid,0,none⟩)),(1,.int .i64 128),(3,fdF hid)]++ex,H,L⟩
theorem gQ {rest:List Nat} {ex:Env} (hK:∀ i,K i→i<H.length) (hKh:¬ K hid) (hh:H[hid]?=some (hob rv n st)) (hs:st.length=8) (hx:∀ x∈st,x<18446744073709551616) (hr:Rst K H rv rest) (h128:128≤rest.length) (xr:∀ x∈rest,x<256) (hL:∀ i∈L,¬ K i) (hmx:rest.length<2^60) :
  ∃ rv' H' L' ex',Q8 T b0 VQ (fdI hid H L ex)=some (.normal,fdI hid H' L' ex')∧H'[hid]?=some (hob rv' n (blk st (rest.take 128)))∧Rst K H' rv' (rest.drop 128)∧(∀ i,K i→H'[i]?=H[i]?)∧H.length≤H'.length∧∀ i∈L',¬ K i:=by
 have hlt:hid<H.length:=(Qf.1 hh).1
 cases hr with
 | nil=>exact absurd h128 (by decide)
 | empty _ _=>exact absurd h128 (by decide)
 | @own id off all _ k1 k2 k4 k3 =>
  have hidne:id≠hid:=fun e=>by
   subst e
   have:=congrArg Ob.exact (Xk (hh.symm.trans k2))
   simp [hob] at this
  have hBB:BB H id off (rest.take 128):=⟨⟨all,k2,fun i hi=>by
   rw [Q7] at hi
   rw [k3 i (by omega),QV,if_pos (by omega)]⟩,fun x hx=>xr x (QQ hx)⟩
  have hl:(rest.take 128).length=128:=by rw [Q7]; omega
  obtain ⟨w,s,M,hb,hM⟩:=cO (cap:=rest.length) hh hs hx hBB hl h128
  have c0:∀ s',(hcl (.slice (some ⟨id,off,none⟩) rest.length rest.length) n s')[0]?=some (.slice (some ⟨id,off,none⟩) rest.length rest.length):=fun _=>rfl
  have cs:∀ s' v,(hcl (.slice (some ⟨id,off,none⟩) rest.length rest.length) n s').set 0 v=hcl v n s':=fun _ _=>rfl
  have cl:∀ v s',(1≤(hcl v n s').length)=True:=fun v s'=>eq_true (by rw [UU]; omega)
  have b1:ZA rest.length rest.length none (some (.int .i64 128)) none=some (0,128,rest.length):=by
   have n1:Xj (some (.int .i64 128)) rest.length rest.length=some 128:=J3 (n:=128) h128
   rw [JC,n1,Qj]; rfl
  have b2:ZA rest.length rest.length (some (.int .i64 128)) none none=some (128,rest.length,rest.length):=by
   have n1:Xj (some (.int .i64 128)) rest.length 0=some 128:=J3 (n:=128) h128
   rw [JC,XO,Qj,n1,Qj]
  have e1:((128:Int)≤(rest.length:Int))=True:=eq_true (by omega)
  have g0:H[hid]?=some ⟨hcl (.slice (some ⟨id,off,none⟩) rest.length rest.length) n st,true,true,true,1⟩:=hh
  have g1:∀ o:Ob,(H.set hid o++[w,s])[hid]?=some o:=fun o=>by
   rw [Qa (by rw [Qo]; exact hlt),Qt hlt]
  have g2:∀ o:Ob,(H.set hid o++[w,s])[id]?=some ⟨u8s all,true,true,false,1⟩:=fun o=>by
   rw [Qa (by rw [Qo]; exact (Qf.1 k2).1),Qm (Ne.symm hidne)]; exact k2
  have g3:∀ o o':Ob,(H.set hid o++[w,s]).set hid o'=H.set hid o'++[w,s]:=fun o o'=>by
   rw [Xa _ _ (by rw [Qo]; exact hlt),KM]
  refine ⟨.slice (some ⟨id,off+128,none⟩) (rest.length-128) (rest.length-128),H.set hid (hob (.slice (some ⟨id,off+128,none⟩) (rest.length-128) (rest.length-128)) n (blk st (rest.take 128)))++[w,s],Qy b0 (Qy b0 L M) [hid],[],?_,g1 _,?_,?_,?_,?_⟩
  ·simp only [hob] at hb ⊢
   generalize blk st (rest.take 128)=st' at *
   simp only [fdI,fdF,VQ,Q1,quiet,cW,↓pW,reduceCtorEq,seval,-Qb,e1,b1,b2,hb,c0,cs,cl,g0,k2,g1,g2,g3]
  ·have:=Rst.own (K:=K) (H:=H.set hid (hob (.slice (some ⟨id,off+128,none⟩) (rest.length-128) (rest.length-128)) n (blk st (rest.take 128)))++[w,s]) (id:=id) (off:=off+128) (all:=all) (l:=rest.drop 128) k1 (g2 _) (by rw [QC]; omega) (fun i hi=>by
    rw [QC] at hi
    rw [Zp,←k3 _ (by omega),Zh])
   rwa [QC] at this
  ·intro i hi
   rw [Qa (by rw [Qo]; exact hK i hi),Qm (fun e=>hKh (by rw [e]; exact hi))]
  ·simp
  ·intro i hi
   rcases Za hi with h | h
   ·rcases Za h with h | h
    ·exact hL i h
    ·rw [hM i h]; exact hKh
   ·rw [Zc.1 h]; exact hKh
theorem Rst.shape {K:Nat→Prop} {H:List Ob} {v:Value} {l:List Nat} (h:Rst K H v l):∃ (a:Option Addr) (c:Nat),v=.slice a l.length c:=by
 cases h with
 | nil=>exact ⟨_,_,rfl⟩
 | empty _ _=>exact ⟨_,_,rfl⟩
 | own _ _ _ _=>exact ⟨_,_,rfl⟩
theorem gP {x:Value} {all p:List Nat} (hK:∀ i,K i→i<H.length) (hKh:¬ K hid) (hh:Hsh K H hid all) (xa:∀ y∈all,y<256) (xp:∀ y∈p,y<256)
 (hl:∃ (a:Option Addr) (c:Nat),x=.slice a p.length c) (he:∀ o,elemsOf (H.set hid o) 1 p.length x=some (u8s p)) (hb:all.length+p.length<2^50) (hb2:p.length≤2^47-128) :
    ∃ H' M,Zb T 183 [.pointer (some ⟨hid,0,none⟩),.int .i64 128,x,fdF hid] H=some (.tuple #[],H',M)∧Hsh K H' hid (all++p)∧(∀ i,K i→H'[i]?=H[i]?)∧H.length≤H'.length∧∀ i∈M,¬ K i:=by
  obtain ⟨rv,h1,h2⟩:=hh
  have hlt:hid<H.length:=(Qf.1 h1).1
  obtain ⟨q0,hq0⟩:∃ q,q=all.length/128:=⟨_,rfl⟩
  rw [←hq0] at h1 h2
  have hq1:128*q0≤all.length:=by rw [hq0]; omega
  have hst:stK q0 all=stK q0 (all++p):=(L6 all p q0 hq1).symm
  have hN:(all++p).length=all.length+p.length:=Qg
  rw [hst] at h1
  obtain ⟨st0,hst0⟩:∃ s,s=stK q0 (all++p):=⟨_,rfl⟩
  rw [←hst0] at h1
  have hrest:all.drop (128*q0)++p=(all++p).drop (128*q0):=(ZH hq1).symm
  have hrl:(all.drop (128*q0)).length≤127:=by rw [QC,hq0]; omega
  have hr1:Rst K (H.set hid (hob rv (all.length+p.length) st0)) rv (all.drop (128*q0)):=h2.setH h1 _
  have hK1:∀ i,K i→i<(H.set hid (hob rv (all.length+p.length) st0)).length:=fun i hi=>by rw [Qo]; exact hK i hi
  have hlen:Go.Ev.lenV x=some p.length:=by obtain ⟨a,c,rfl⟩:=hl; rfl
  obtain ⟨rv',H2,M2,ha,a1,a2,a3,a4,a5⟩:=hr1.append hK1 hlen (he _) (by omega)
  have hg1:(H.set hid (hob rv (all.length+p.length) st0))[hid]?=some (hob rv (all.length+p.length) st0):=Qt hlt
  have hg2:=a5 hid _ hg1 rfl
  rw [Qo] at a3
  have hlt2:hid<H2.length:=by omega
  have hr3:Rst K (H2.set hid (hob rv' (all.length+p.length) st0)) rv' ((all++p).drop (128*q0)):=by
    rw [hrest] at a1
    exact a1.setH hg2 _
  have hg3:(H2.set hid (hob rv' (all.length+p.length) st0))[hid]?=some (hob rv' (all.length+p.length) st0):=Qt hlt2
  obtain ⟨H3,hH3⟩:∃ X,X=H2.set hid (hob rv' (all.length+p.length) st0):=⟨_,rfl⟩
  have hf3:∀ i,K i→H3[i]?=H[i]? := fun i hi=>by
    have hne:hid≠i:=fun e=>hKh (by rw [e]; exact hi)
    rw [hH3,Qm hne,a4 i hi,Qm hne]
  have hl3:H.length≤H3.length:=by rw [hH3,Qo]; exact a3
  obtain ⟨L3,hL3⟩:∃ L,L=Qy H.length (Qy H.length (Qy H.length [] [hid]) M2) [hid]:=⟨_,rfl⟩
  have hL3':∀ i∈L3,¬ K i:=fun i hi=>by
    rw [hL3] at hi
    rcases Za hi with h | h
    · rcases Za h with h | h
      · rcases Za h with h | h
        · simp at h
        · rw [Zc.1 h]; exact hKh
      · exact a2 i h
    · rw [Zc.1 h]; exact hKh
  rw [←hH3] at hr3 hg3
  obtain ⟨st,hloop,H',L',ex',rvf,rfl,f1,f2,f3,f4,f5⟩:=QZ (T:=T) (base:=H.length) (id:=0) (body:=VQ)
    (fun k st=>∃ H' L' ex' rvk,st=fdI hid H' L' ex'∧H'[hid]?=some (hob rvk (all.length+p.length) (stK (q0+k) (all++p)))∧Rst K H' rvk ((all++p).drop (128*(q0+k)))∧(∀ i,K i→H'[i]?=H[i]?)∧H.length≤H'.length∧∀ i∈L',¬ K i)
    (Q:=fun st=>∃ H' L' ex' rvk,st=fdI hid H' L' ex'∧H'[hid]?=some (hob rvk (all.length+p.length) (stK ((all++p).length/128) (all++p)))∧Rst K H' rvk ((all++p).drop (128*((all++p).length/128)))∧(∀ i,K i→H'[i]?=H[i]?)∧H.length≤H'.length∧∀ i∈L',¬ K i)
    ((all++p).length/128-q0) (s:=fdI hid H3 L3 []) ⟨H3,L3,[],rv',rfl,by rw [ZF,←hst0]; exact hg3,by rw [ZF]; exact hr3,hf3,hl3,hL3'⟩
    (fun k st hk hs=>by
      obtain ⟨Hk,Lk,exk,rvk,rfl,k1,k2,k3,k4,k5⟩:=hs
      obtain ⟨rv2,Hk2,L2,ex2,j1,j2,j3,j4,j5,j6⟩:=gQ (b0:=H.length) (ex:=exk) (fun i hi=>QH (hK i hi) k4) hKh k1 (DS _ _) (Sh _ _) k2 (by rw [QC]; omega) (fun y hy=>by
        rcases QJ.1 (Zw hy) with h | h
        · exact xa y h
        · exact xp y h) k5 (by rw [QC]; omega)
      refine ⟨_,j1,Hk2,L2,ex2,rv2,rfl,j2,?_,fun i hi=>(j4 i hi).trans (k3 i hi),Jf k4 j5,j6⟩
      rw [List.drop_drop] at j3
      rw [show 128*(q0+(k+1))=128*(q0+k)+128 by omega]
      exact j3)
    (fun st hs=>by
      obtain ⟨Hk,Lk,exk,rvk,rfl,k1,k2,k3,k4,k5⟩:=hs
      have hqq:q0+((all++p).length/128-q0)=(all++p).length/128:=by
        have:q0≤(all++p).length/128:=by rw [hq0,hN]; omega
        omega
      rw [hqq] at k1 k2
      have hrl2:((all++p).drop (128*((all++p).length/128))).length<128:=by rw [QC]; omega
      obtain ⟨v,c,hv⟩:=k2.shape
      refine ⟨_,?_,Hk,Lk,[(33,.bool false)],rvk,rfl,k1,k2,k3,k4,k5⟩
      subst hv
      have c0:∀ v' s',(hcl v' (all.length+p.length) s')[0]?=some v':=fun _ _=>rfl
      have e1:((128:Int)≤(((all++p).drop (128*((all++p).length/128))).length:Int))=False:=eq_false (by omega)
      simp only [hob] at k1
      generalize ((all++p).drop (128*((all++p).length/128))).length=rl,stK ((all++p).length/128) (all++p)=sk at *
      simp only [fdI,fdF,VQ,Q1,quiet,cW,↓pW,reduceCtorEq,seval,-Qb,e1,k1,c0])
  refine ⟨H',L',?_,⟨rvf,by rw [hN] at f1 ⊢; exact f1,f2⟩,f3,f4,f5⟩
  obtain ⟨c1,c2,rfl⟩:=hl
  simp only [fdI,Qw,Qr,hL3] at hloop
  simp only [hob] at h1 ha hg2 hH3
  have w1:IntKind.u64.wrap (p.length:Int)=(p.length:Int):=FK (by omega)
  have w2:IntKind.u64.wrap ((all.length:Int)+(p.length:Int))=((all.length+p.length:Nat):Int):=Lv (by omega)
  have c0:∀ v' n' s',(hcl v' n' s')[0]?=some v':=fun _ _ _=>rfl
  have c1':∀ v' (n':Nat) s',(hcl v' n' s')[1]?=some (.int .u64 n'):=fun _ _ _=>rfl
  have s0:∀ v' n' s' v,(hcl v' n' s').set 0 v=hcl v n' s':=fun _ _ _ _=>rfl
  have s1:∀ v' n' s' (m:Nat),(hcl v' n' s').set 1 (.int .u64 (m:Int))=hcl v' m s':=fun _ _ _ _=>rfl
  have cl:∀ v n' s',(1≤(hcl v n' s').length)=True:=fun v n' s'=>eq_true (by rw [UU]; omega)
  have cl2:∀ v n' s',(2≤(hcl v n' s').length)=True:=fun v n' s'=>eq_true (by rw [UU]; omega)
  have hgs:∀ o:Ob,(H.set hid o)[hid]?=some o:=fun o=>Qt hlt
  obtain ⟨vr,cr,hvr⟩:=a1.shape
  have hok:okVar rv'=true:=by rw [hvr]; rfl
  have hc1:rv'.cells.toList=[rv']:=by rw [hvr]; rfl
  have hc2:rv'.cells.size=1:=by rw [hvr]; rfl
  clear hvr
  generalize all.length+p.length=NN at *
  rw [QD (fn:=dx) rfl]
  simp only [dx,Q1,quiet,cW,↓pW,reduceCtorEq,seval,-Qb,fdF,h1,c0,c1',s0,s1,cl,cl2,w1,w2,hgs,ha,hg2,←hH3,hok,hc1,hc2]
  simp only [fdF] at hloop
  simp only [hloop,Q1,quiet,cK,↓pQ,reduceCtorEq,seval,-Qb,cL]
  rfl
structure HPart (K:Nat→Prop) (H:List Ob) (x:Value) (p:List Nat):Prop where
 shape:∃ (a:Option Addr) (c:Nat),x=.slice a p.length c
 reads:∀ G:List Ob,(∀ i,K i→G[i]?=H[i]?)→elemsOf G 1 p.length x=some (u8s p)
 lt:∀ y∈p,y<256
 le:p.length≤2^47-128
theorem HPart.of {K:Nat→Prop} {H G:List Ob} {x:Value} {p:List Nat} (h:HPart K H x p) (hg:∀ i,K i→G[i]?=H[i]?):HPart K G x p :=
 ⟨h.shape,fun G' hG'=>h.reads G' fun i hi=>(hG' i hi).trans (hg i hi),h.lt,h.le⟩
inductive HParts (K:Nat→Prop) (H:List Ob):List Value→List (List Nat)→Prop
 | nil:HParts K H [] []
 | cons {x:Value} {p:List Nat} {xs:List Value} {ps:List (List Nat)}:HPart K H x p→HParts K H xs ps→HParts K H (x::xs) (p::ps)
theorem HParts.get {K:Nat→Prop} {H:List Ob}:∀ {xs:List Value} {ps:List (List Nat)},HParts K H xs ps→∀ {i:Nat} {x:Value},xs[i]?=some x→∃ p,ps[i]?=some p∧HPart K H x p
 | _,_,.nil,i,x,h=>by simp at h
 | _,_,.cons a b,0,x,h=>by simp at h; subst h; exact ⟨_,rfl,a⟩
 | _,_,.cons a b,i+1,x,h=>by
  obtain ⟨p,h1,h2⟩:=b.get (i:=i) (by simpa using h)
  exact ⟨p,by simpa using h1,h2⟩
theorem HParts.len {K:Nat→Prop} {H:List Ob}:∀ {xs:List Value} {ps:List (List Nat)},HParts K H xs ps→ps.length=xs.length
 | _,_,.nil=>rfl
 | _,_,.cons _ b=>by simp [b.len]
theorem HParts.lt {K:Nat→Prop} {H:List Ob}:∀ {xs:List Value} {ps:List (List Nat)},HParts K H xs ps→∀ y∈ps.flatten,y<256
 | _,_,.nil=>by simp
 | _,_,.cons a b=>by
  intro y hy
  rw [QI] at hy
  rcases QJ.1 hy with h | h
  ·exact a.lt y h
  ·exact b.lt y h
def PV (K:Nat→Prop) (H:List Ob) (pv:Value) (xs:List Value):Prop:=(pv=.slice none 0 0∧xs=[])∨∃ pid off cap o,pv=.slice (some ⟨pid,off,none⟩) xs.length cap∧K pid∧H[pid]?=some o∧o.live=true∧∀ i,i<xs.length→o.cells[off+i]?=xs[i]?
def wrI (hid:Nat) (pv:Value) (n:Nat) (i:Int) (H:List Ob) (L:List Nat) (ex:Env):St:=⟨[(0,.pointer (some ⟨hid,0,none⟩)),(6,pv),(7,.int .i64 n),(8,.int .i64 i)]++ex,H,L⟩
theorem dI {H0:List Ob} {all:List Nat} (hK:∀ i,K i→i<H.length) (hKh:¬ K hid) (hh:Hsh K H hid all) (xa:∀ y∈all,y<256) (hp:PV K H0 pv xs) (hP:HParts K H0 xs ps) (hF:∀ i,K i→H[i]?=H0[i]?) (hL:∀ i∈L,¬ K i) (hi:i<xs.length) (hn:xs.length<2^50) (hb:all.length+(ps.getD i []).length<2^50) :
  ∃ H' L',Q8 T b0 Hy (wrI hid pv xs.length i H L [])=some (.normal,wrI hid pv xs.length ((i+1:Nat):Int) H' L' [])∧Hsh K H' hid (all++ps.getD i [])∧(∀ i,K i→H'[i]?=H[i]?)∧H.length≤H'.length∧∀ i∈L',¬ K i:=by
 obtain ⟨x,hx⟩:∃ x,xs[i]?=some x:=⟨_,Qh hi⟩
 obtain ⟨p,hpi,hpp⟩:=hP.get hx
 have hgd:ps.getD i []=p:=by rw [Qx,hpi]; rfl
 rw [hgd] at hb ⊢
 obtain ⟨H',M,hf,f1,f2,f3,f4⟩:=gP hK hKh hh xa hpp.lt hpp.shape (fun o=>hpp.reads _ (fun j hj=>by
  rw [Qm (fun e=>hKh (by rw [e]; exact hj))]; exact hF j hj)) hb hpp.le
 rcases hp with ⟨-,h0⟩ | ⟨pid,off,cap,o,rfl,kp,ho,hlv,hc⟩
 ·rw [h0] at hi; exact absurd hi (Nat.not_lt_zero _)
 ·have ho':H[pid]?=some o:=(hF pid kp).trans ho
  have hcx:o.cells[off+i]?=some x:=(hc i hi).trans hx
  have e1:((i:Int)<(xs.length:Int))=True:=eq_true (by omega)
  have w3:IntKind.i64.wrap ((i:Int)+1)=((i+1:Nat):Int):=Z4 (b:=1) (by omega)
  refine ⟨H',Qy b0 L M,?_,f1,f2,f3,fun j hj => ?_⟩
  ·simp only [fdF] at hf
   generalize i+1=i1 at *
   simp only [wrI,Hy,Q1,quiet,cW,↓pW,reduceCtorEq,seval,-Qb,e1,ho',hlv,hcx,w3,hf]
  ·rcases Za hj with h | h
   ·exact hL j h
   ·exact f4 j h
theorem Cm {all:List Nat} (hK:∀ i,K i→i<H.length) (hKh:¬ K hid) (hh:Hsh K H hid all) (xa:∀ y∈all,y<256) (hp:PV K H pv xs) (hP:HParts K H xs ps) (hn:xs.length<2^50) (hb:(all++ps.flatten).length<2^50) :
  ∃ H' M,Zb T 180 [.pointer (some ⟨hid,0,none⟩),pv] H=some (.tuple #[],H',M)∧Hsh K H' hid (all++ps.flatten)∧(∀ i,K i→H'[i]?=H[i]?)∧H.length≤H'.length∧∀ i∈M,¬ K i:=by
 obtain ⟨st,hl,H',L',rfl,f1,f2,f3,f4⟩:=QZ (T:=T) (base:=H.length) (id:=0) (body:=Hy)
  (fun i st=>∃ H' L',st=wrI hid pv xs.length (i:Nat) H' L' []∧Hsh K H' hid (all++(ps.take i).flatten)∧(∀ i,K i→H'[i]?=H[i]?)∧H.length≤H'.length∧∀ i∈L',¬ K i)
  (Q:=fun st=>∃ H' L',st=wrI hid pv xs.length (xs.length:Nat) H' L' [(9,.bool false)]∧Hsh K H' hid (all++ps.flatten)∧(∀ i,K i→H'[i]?=H[i]?)∧H.length≤H'.length∧∀ i∈L',¬ K i)
  xs.length (s:=wrI hid pv xs.length 0 H [] []) ⟨H,[],rfl,by simpa using hh,fun _ _=>rfl,Qk _,by simp⟩
  (fun i st hi hs=>by
   obtain ⟨H1,L1,rfl,g1,g2,g3,g4⟩:=hs
   have hpl:=hP.len
   have hsp:ps.flatten=(ps.take i).flatten++((ps.getD i [])++(ps.drop (i+1)).flatten):=by
    obtain ⟨p,hpi⟩:∃ p,ps[i]?=some p:=⟨_,Qh (by omega)⟩
    have hgd:ps.getD i []=p:=by rw [Qx,hpi]; rfl
    rw [hgd,←QI,←Zs]
    congr 1
    have h1:=Qf.1 hpi
    conv=>lhs; rw [←ZR i ps,JM h1.1,h1.2]
   have htk:(ps.take (i+1)).flatten=(ps.take i).flatten++ps.getD i []:=by
    obtain ⟨p,hpi⟩:∃ p,ps[i]?=some p:=⟨_,Qh (by omega)⟩
    have hgd:ps.getD i []=p:=by rw [Qx,hpi]; rfl
    rw [hgd,ZG,hpi,Zs]; simp
   have hlt:=hP.lt
   obtain ⟨H2,L2,j1,j2,j3,j4,j5⟩:=dI (b0:=H.length) (fun j hj=>QH (hK j hj) g3) hKh g1 (fun y hy=>by
    rcases QJ.1 hy with h | h
    ·exact xa y h
    ·exact hlt y (by rw [hsp]; exact Vj _ h)) hp hP g2 g4 hi hn (by
     rw [hsp] at hb
     simp only [Qg] at hb ⊢
     omega)
   refine ⟨_,j1,H2,L2,rfl,by rw [htk,←Qv]; exact j2,fun j hj=>(j3 j hj).trans (g2 j hj),Jf g3 j4,j5⟩)
  (fun st hs=>by
   obtain ⟨H1,L1,rfl,g1,g2,g3,g4⟩:=hs
   rw [Qu (by rw [hP.len]; exact Qk _)] at g1
   refine ⟨_,?_,H1,L1,rfl,g1,g2,g3,g4⟩
   have e1:((xs.length:Int)<(xs.length:Int))=False:=eq_false (by omega)
   simp only [wrI,Hy,Q1,quiet,cK,↓pQ,reduceCtorEq,seval,-Qb,cL,cJ,e1])
 refine ⟨H',L',?_,f1,f2,f3,f4⟩
 simp only [wrI,Qw,Qr,Zx] at hl
 have hlen:vLen false pv=some (.int .i64 xs.length):=by
  rcases hp with ⟨rfl,h0⟩ | ⟨pid,off,cap,o,rfl,-⟩
  ·rw [h0]; rfl
  ·rfl
 rw [QD (fn:=oz) rfl]
 simp only [oz,Q1,quiet,cW,↓pW,reduceCtorEq,seval,-Qb,hlen,hl]
 rfl
theorem aV:fillL (Value.slice none 0 0::Qc 9 (.int .u64 0)) [(2,8,.agg (ns .u64 BD).toArray)]=some (hcl (.slice none 0 0) 0 BD):=rfl
theorem mq (H:List Ob):Zb T 179 [] H=some (.pointer (some ⟨H.length,0,none⟩),H++[hob (.slice none 0 0) 0 BD],[]):=by
 have hf:fillL (Qc 8 (Value.int .u64 0)) [(0,1,.int .u64 7640891576956012808),(1,1,.int .u64 13503953896175478587),(2,1,.int .u64 4354685564936845355),(3,1,.int .u64 11912009170470909681),(4,1,.int .u64 5840696475078001361),(5,1,.int .u64 11170449401992604703),(6,1,.int .u64 2270897969802886507),(7,1,.int .u64 6620516959819538809)]=some (ns .u64 BD):=rfl
 have hf2:∀ a,fillL [Value.slice none 0 0,.int .u64 0,.int .u64 0,.int .u64 0,.int .u64 0,.int .u64 0,.int .u64 0,.int .u64 0,.int .u64 0,.int .u64 0] [(2,8,.agg (ns .u64 a).toArray)]=fillL (Value.slice none 0 0::Qc 9 (.int .u64 0)) [(2,8,.agg (ns .u64 a).toArray)]:=fun _=>rfl
 have hf3:=aV
 simp only [hob]
 generalize BD=S at *
 generalize hcl (.slice none 0 0) 0 S=C at *
 rw [QD (fn:=o9) rfl]
 simp only [o9,Q1,quiet,cW,↓pW,reduceCtorEq,seval,-Qb,hf,hf2,hf3]
theorem fK (h:H[hid]?=some (hob (.slice none 0 0) 0 BD)):Hsh K H hid []:=⟨_,h,.nil⟩
def paI (hid:Nat) (s:Value) (Hc:List Ob) (ex:Env):St:=⟨[(0,.pointer (some ⟨hid,0,none⟩)),(1,.int .i64 128),(2,.int .i64 16),(7,s)]++ex,Hc,[]⟩
def pbI (hid:Nat) (s:Value) (i:Int) (Hc:List Ob) (ex:Env):St:=⟨[(0,.pointer (some ⟨hid,0,none⟩)),(7,s),(8,.int .i64 i)]++ex,Hc,[]⟩
theorem TC (n i:Nat):((n/256^(i+1)*8%256)|||(n/256^i%256/32))=8*n/256^(i+1)%256:=by
 have h1:n/256^(i+1)=n/256^i/256:=by rw [Z0,Jl]
 have h2:8*n/256^(i+1)=n/256^i/32:=by
  rw [Jl,Z0,show 256^i*256=8*(256^i*32) by omega,Nat.mul_div_mul_left _ _ (by decide)]
 rw [h1,h2]
 generalize n/256^i=m
 have h3:m/256*8%256=(m/256%32)*2^3:=by omega
 rw [h3,Vo (by omega)]
 omega
theorem au (n:Nat):(n+(1+Yf n)+16)%128=0:=by unfold Yf; omega
theorem CS (n z:Nat) (h:z<Yf n):(n+(1+z)+16)%128≠0:=by unfold Yf at h; omega
theorem A5 (n:Nat):Yf n<128:=by unfold Yf; omega
theorem eQ (hh:H[hid]?=some (hob rv n st)) (hn:n<2^50) :
  ∃ s l,Q8 T H.length (.block 0 (.loop VP)) (paI hid (.slice (some ⟨H.length,0,none⟩) 1 1) (H++[⟨[.int .u8 128],true,true,true,1⟩]) [])=some (.normal,paI hid s (H++l) [(23,.bool false)])∧Grown .u8 H.length (H++l) s (128::Qc (Yf n) 0):=by
 have hlt:hid<H.length:=(Qf.1 hh).1
 have f0:fillL [Value.int .u8 0] [(0,1,.int .u8 0)]=some [.int .u8 0]:=rfl
 have c1:(hcl rv n st)[1]?=some (.int .u64 n):=rfl
 have hz:=A5 n
 obtain ⟨x,hb,s,Hc,rfl,hg,hL,hF⟩:=QZ (T:=T) (base:=H.length) (id:=0) (body:=VP)
  (fun j x=>∃ s Hc,x=paI hid s Hc []∧Grown .u8 H.length Hc s (128::Qc j 0)∧H.length≤Hc.length∧∀ i,i<H.length→Hc[i]?=H[i]?)
  (Q:=fun x=>∃ s Hc,x=paI hid s Hc [(23,.bool false)]∧Grown .u8 H.length Hc s (128::Qc (Yf n) 0)∧H.length≤Hc.length∧∀ i,i<H.length→Hc[i]?=H[i]?)
  (Yf n) (s:=paI hid (.slice (some ⟨H.length,0,none⟩) 1 1) (H++[⟨[.int .u8 128],true,true,true,1⟩]) []) ⟨_,_,rfl,Grown.new (k := .u8) (id:=H.length) (bs:=[128]) (Qk _) (by decide) (by simp [Ob.fresh,ns]),by simp,fun i hi=>Qa hi⟩
  (fun j x hj hx=>by
   obtain ⟨s,Hc,rfl,hg,hL,hF⟩:=hx
   have hl:=hg.len
   have e1:(128::Qc j 0).length=1+j:=by simp; omega
   rw [e1] at hl
   obtain ⟨s',H',M,h1,h2,h3,h4,h5⟩:=Gz (x:=0) (bytes:=1) hg hL (by rw [e1]; omega) (by decide)
   have hm:Qy H.length [] M=[]:=QE h3
   have hget:Hc[hid]?=some ⟨hcl rv n st,true,true,true,1⟩:=(hF hid hlt).trans hh
   have w1:IntKind.i64.wrap (n:Int)=(n:Int):=wn (by omega)
   have w2:IntKind.i64.wrap ((n:Int)+((1+j:Nat):Int))=((n+(1+j):Nat):Int):=Z4 (by omega)
   have w3:IntKind.i64.wrap (((n+(1+j):Nat):Int)+16)=((n+(1+j)+16:Nat):Int):=Z4 (b:=16) (by omega)
   have w4:((n+(1+j)+16:Nat):Int).tmod 128=(((n+(1+j)+16)%128:Nat):Int):=rfl
   have w5:((((n+(1+j)+16)%128:Nat):Int) != 0)=true:=bne_iff_ne.2 (by have:=CS n j hj; omega)
   refine ⟨paI hid s' H' [],?_,s',H',rfl,by rw [List.replicate_succ',←Qw]; exact h2,h4,fun i hi=>by rw [h5 i hi,hF i hi]⟩
   simp only [Zx] at h1
   generalize (n+(1+j)+16)%128=r at *
   generalize n+(1+j)+16=r2 at *
   generalize n+(1+j)=r3 at *
   simp only [paI,VP,Q1,quiet,cW,↓pW,reduceCtorEq,seval,-Qb,hget,c1,hl,w1,w2,w3,w4,w5,f0,h1,hm])
  (fun x hx=>by
   obtain ⟨s,Hc,rfl,hg,hL,hF⟩:=hx
   have hl:=hg.len
   have e1:(128::Qc (Yf n) 0).length=1+Yf n:=by simp; omega
   rw [e1] at hl
   have hget:Hc[hid]?=some ⟨hcl rv n st,true,true,true,1⟩:=(hF hid hlt).trans hh
   have w1:IntKind.i64.wrap (n:Int)=(n:Int):=wn (by omega)
   have w2:IntKind.i64.wrap ((n:Int)+((1+Yf n:Nat):Int))=((n+(1+Yf n):Nat):Int):=Z4 (by omega)
   have w3:IntKind.i64.wrap (((n+(1+Yf n):Nat):Int)+16)=((n+(1+Yf n)+16:Nat):Int):=Z4 (b:=16) (by omega)
   have w4:((n+(1+Yf n)+16:Nat):Int).tmod 128=0:=by
    have:((n+(1+Yf n)+16:Nat):Int).tmod 128=(((n+(1+Yf n)+16)%128:Nat):Int):=rfl
    rw [this,au]; rfl
   refine ⟨_,?_,s,Hc,rfl,hg,hL,hF⟩
   generalize n+(1+Yf n)+16=r2 at *
   generalize n+(1+Yf n)=r3 at *
   simp only [paI,VP,Q1,quiet,cW,↓pW,reduceCtorEq,seval,-Qb,hget,c1,hl,w1,w2,w3,w4])
 obtain ⟨l,rfl⟩:=XE hL hF
 exact ⟨s,l,hb,hg⟩
def Io (n i:Nat):Nat:=8*n/256^(15-i)%256
theorem eP {l0:List Ob} {s0:Value} {bs:List Nat} (hh:H[hid]?=some (hob rv n st)) (hn:n<2^50) (hg0:Grown .u8 H.length (H++l0) s0 bs) (hbs:bs.length≤200) :
  ∃ s l,Q8 T H.length (.block 2 (.loop KK)) (pbI hid s0 15 (H++l0) [])=some (.normal,pbI hid s (-1) (H++l) [(30,.bool false)])∧Grown .u8 H.length (H++l) s (bs++(ZQ 16).map (Io n)):=by
 have hlt:hid<H.length:=(Qf.1 hh).1
 have c1:(hcl rv n st)[1]?=some (.int .u64 n):=rfl
 obtain ⟨x,hb,s,Hc,rfl,hg,hL,hF⟩:=QZ (T:=T) (base:=H.length) (id:=2) (body:=KK)
  (fun j x=>∃ s Hc,x=pbI hid s ((15:Int)-j) Hc []∧Grown .u8 H.length Hc s (bs++(ZQ j).map (Io n))∧H.length≤Hc.length∧∀ i,i<H.length→Hc[i]?=H[i]?)
  (Q:=fun x=>∃ s Hc,x=pbI hid s (-1) Hc [(30,.bool false)]∧Grown .u8 H.length Hc s (bs++(ZQ 16).map (Io n))∧H.length≤Hc.length∧∀ i,i<H.length→Hc[i]?=H[i]?)
  16 (s:=pbI hid s0 15 (H++l0) []) ⟨_,_,rfl,by simpa using hg0,by simp,fun i hi=>Qa hi⟩
  (fun j x hj hx=>by
   obtain ⟨s,Hc,rfl,hg,hL,hF⟩:=hx
   obtain ⟨i,hi⟩:∃ i,i=15-j:=⟨_,rfl⟩
   rw [show (15:Int)-j=(i:Int) by omega,show (15:Int)-((j+1:Nat):Int)=(i:Int)-1 by omega]
   have hl:=hg.len
   have hpd:Io n j=8*n/256^i%256:=by rw [hi]; rfl
   obtain ⟨s',H',M,h1,h2,h3,h4,h5⟩:=Gz (x:=Io n j) (bytes:=1) hg hL (by rw [Qg,List.length_map,List.length_range]; omega) (by decide)
   have hm:Qy H.length [] M=[]:=QE h3
   have hget:Hc[hid]?=some ⟨hcl rv n st,true,true,true,1⟩:=(hF hid hlt).trans hh
   have fx:∀ a:Int,fillL [Value.int .u8 0] [(0,1,.int .u8 a)]=some [.int .u8 a]:=fun _=>rfl
   have w0:IntKind.i64.wrap ((i:Int)-1)=(i:Int)-1:=Z2 (by omega) (by omega)
   have e0:((0:Int)≤(i:Int))=True:=eq_true (by omega)
   refine ⟨pbI hid s' ((i:Int)-1) H' [],?_,s',H',rfl,by rw [List.range_succ,Xl,←Qv]; exact h2,h4,fun k hk=>by rw [h5 k hk,hF k hk]⟩
   rw [hpd] at h1
   by_cases h9:i<9
   ·have e9:((i:Int)<9)=True:=eq_true (by omega)
    have w1:IntKind.i64.wrap (8*(i:Int))=((8*i:Nat):Int):=VH (a:=8) (by omega)
    have w2:(((8*i:Nat):Int)<0)=False:=eq_false (by omega)
    have w3:(n:Int).fdiv (2^min (8*i) IntKind.u64.bits)=((n/256^i:Nat):Int):=by
     rw [WR (by omega),show (256:Nat)=2^8 from rfl,←Jh]
    have hle:n/256^i≤n:=JP _ _
    have w4:IntKind.u64.wrap (((n/256^i:Nat):Int)*2^min 3 IntKind.u64.bits)=((n/256^i*8:Nat):Int):=Ae (b:=8) (by omega)
    have w5:IntKind.u8.wrap ((n/256^i*8:Nat):Int)=((n/256^i*8%256:Nat):Int):=Uv _
    by_cases hz:i=0
    ·subst hz
     have e8:n/256^0*8%256=8*n/256^0%256:=by rw [Xe,XI,XI]; omega
     rw [e8] at w5
     have ew:(8*0:Nat)=0:=rfl
     simp only [ew,Zx] at w1 w2 w3
     generalize 8*n/256^0%256=d at *
     generalize n/256^0*8=v1 at *
     generalize n/256^0=v2 at *
     simp only [pbI,KK,Q1,quiet,cW,↓pW,reduceCtorEq,seval,-Qb,hget,c1,w0,e0,e9,w1,w2,w3,w4,w5,fx,h1,hm]
    ·obtain ⟨k,rfl⟩:∃ k,i=k+1:=⟨i-1,by omega⟩
     have hd:=TC n k
     have ep:((0:Int)<((k+1:Nat):Int))=True:=eq_true (by omega)
     have v1:IntKind.i64.wrap (((8*(k+1):Nat):Int)-8)=((8*k:Nat):Int):=by rw [Z2 (by omega) (by omega)]; omega
     have v2:(((8*k:Nat):Int)<0)=False:=eq_false (by omega)
     have v3:(n:Int).fdiv (2^min (8*k) IntKind.u64.bits)=((n/256^k:Nat):Int):=by
      rw [WR (by omega),show (256:Nat)=2^8 from rfl,←Jh]
     have v4:Zo .and .u64 ((n/256^k:Nat):Int) 255=((n/256^k%256:Nat):Int):=W8 .u64 rfl 8 _ (by decide)
     have v5:((n/256^k%256:Nat):Int).fdiv (2^min 5 IntKind.u64.bits)=((n/256^k%256/32:Nat):Int):=WR (r:=5) (by decide)
     have v6:IntKind.u8.wrap ((n/256^k%256/32:Nat):Int)=((n/256^k%256/32:Nat):Int):=by rw [Uv,QB (by omega)]
     have v7:Zo .or .u8 ((n/256^(k+1)*8%256:Nat):Int) ((n/256^k%256/32:Nat):Int)=((8*n/256^(k+1)%256:Nat):Int):=by
      rw [K7 rfl (show _<2^8 from Q3 _ (by decide)) (show n/256^k%256/32<2^8 by omega),hd]
     generalize 8*n/256^(k+1)%256=d at *
     generalize n/256^(k+1)*8%256=u1 at *
     generalize n/256^(k+1)*8=u2 at *
     generalize n/256^(k+1)=u3 at *
     generalize n/256^k%256/32=u4 at *
     generalize n/256^k%256=u5 at *
     generalize n/256^k=u6 at *
     generalize 8*(k+1)=u7 at *
     generalize 8*k=u8' at *
     generalize k+1=k1 at *
     simp only [pbI,KK,Q1,quiet,cW,↓pW,reduceCtorEq,seval,-Qb,hget,c1,w0,e0,e9,ep,w1,w2,w3,w4,w5,v1,v2,v3,v4,v5,v6,v7,fx,h1,hm]
   ·have e9:((i:Int)<9)=False:=eq_false (by omega)
    have ep:((0:Int)<(i:Int))=True:=eq_true (by omega)
    have hz:8*n/256^i%256=0:=by
     have:(256:Nat)^9≤256^i:=Zn (by decide) (by omega)
     rw [Xr (QH (by omega) this)]
    rw [hz] at h1
    simp only [Zx] at h1
    simp only [pbI,KK,Q1,quiet,cW,↓pW,reduceCtorEq,seval,-Qb,hget,c1,w0,e0,e9,ep,fx,h1,hm])
  (fun x hx=>by
   obtain ⟨s,Hc,rfl,hg,hL,hF⟩:=hx
   have e:((0:Int) ≤ -1)=False:=by decide
   refine ⟨_,?_,s,Hc,rfl,hg,hL,hF⟩
   rw [show (15:Int)-((16:Nat):Int) = -1 by omega]
   simp only [pbI,KK,Q1,quiet,cK,↓pQ,reduceCtorEq,seval,-Qb,cL,e])
 obtain ⟨l,rfl⟩:=XE hL hF
 exact ⟨s,l,hb,hg⟩
theorem eT (n:Nat):HV n=(128::Qc (Yf n) 0)++(ZQ 16).map (Io n):=by unfold HV Io; rw [Qw]
theorem Ik (hh:H[hid]?=some (hob rv n st)) (hn:n<2^50) :
  ∃ s l,Zb T 185 [.pointer (some ⟨hid,0,none⟩),.int .i64 128,.int .i64 16] H=some (s,H++l,[])∧Grown .u8 H.length (H++l) s (HV n):=by
 obtain ⟨s1,l1,h1,g1⟩:=eQ hh hn
 have hz:=A5 n
 obtain ⟨s2,l2,h2,g2⟩:=eP hh hn g1 (by simp; omega)
 rw [←eT] at g2
 refine ⟨s2,l2,?_,g2⟩
 have f128:fillL [Value.int .u8 0] [(0,1,.int .u8 128)]=some [.int .u8 128]:=rfl
 have w1:IntKind.i64.wrap 15=15:=by decide
 simp only [paI,Qw,Qr] at h1
 simp only [pbI,Qw,Qr] at h2
 rw [QD (fn:=dw) rfl]
 simp only [dw,Q1,quiet,cW,↓pW,reduceCtorEq,seval,-Qb,f128,h1,w1,h2]
theorem Rst.elems {K:Nat→Prop} {H:List Ob} {v:Value} {l:List Nat} (h:Rst K H v l):elemsOf H 1 l.length v=some (u8s l):=by
 cases h with
 | nil=>rfl
 | empty _ h2=>simp [elemsOf,QX h2 rfl,u8s]
 | own h1 h2 h4 h3=>simp [elemsOf,QX h2 rfl,Qp,h4,Mv h3]
theorem Ab {e:Nat} {x:Value} {p:List Nat} (he:G[e]?=some ⟨[],true,true,true,1⟩) (hKe:¬ K e) (hKg:¬ K G.length) (hl:Go.Ev.lenV x=some p.length) (hel:elemsOf G 1 p.length x=some (u8s p)) (hb:p.length≤2^47) :
  ∃ v' l,Zv 1 1 G (.slice (some ⟨e,0,none⟩) 0 0) x=some (v',G++l,none,[])∧Rst K (G++l) v' p∧okVar v'=true∧v'.cells.toList=[v']∧v'.cells.size=1:=by
 have h4:liveAt G e=some ⟨[],true,true,true,1⟩:=QX he rfl
 rcases ZB p.length with hn | hn
 ·have:p=[]:=Zd hn
  subst this
  refine ⟨.slice (some ⟨e,0,none⟩) 0 0,[],?_,by rw [Q6]; exact .empty hKe he,rfl,rfl,rfl⟩
  rw [Zz] at hl hel
  simp only [Zv,hl,hel,Qj,if_true,Q6]
 ·have h1:¬ p.length=0:=by omega
  have h2:p.length*1≤2^47:=by omega
  have h7:¬ (p.length≤0):=by omega
  have h8:elemsOf G 1 0 (.slice (some ⟨e,0,none⟩) 0 0)=some []:=by simp [elemsOf,h4]
  refine ⟨.slice (some ⟨G.length,0,none⟩) p.length p.length,[Ob.grown 1 (u8s p)],?_,.own (all:=p) hKg (by simp [Ob.grown]) (by omega) (fun i _=>by rw [QA]),rfl,rfl,rfl⟩
  simp only [Zv,hl,hel,Qj,if_neg h1,QA,h2,Nat.lt_add_one,Nat.zero_lt_one,and_self,not_true_eq_false,if_false,if_true,h4,h8,if_neg h7,Qr]
theorem Rst.len {K:Nat→Prop} {H:List Ob} {v:Value} {l:List Nat} (h:Rst K H v l):Go.Ev.lenV v=some l.length:=by
 obtain ⟨a,c,rfl⟩:=h.shape; rfl
theorem VM (b:List Nat):(sha b).length=64:=by simp [sha]
theorem MA (b:List Nat):∀ x∈sha b,x<256:=by
 intro x hx
 simp only [sha,ZV] at hx
 obtain ⟨i,-,rfl⟩:=hx
 exact Q3 _ (by decide)
def suI (r x o:Nat) (G:List Ob) (b:List Nat) (i:Int) (ex:Env):St:=⟨[(2,.pointer (some ⟨r,0,none⟩)),(3,.pointer (some ⟨x,0,none⟩)),(4,.pointer (some ⟨G.length,0,none⟩)),(32,.int .i64 i)]++ex,G++[⟨u8s b,true,true,true,1⟩],[]⟩
theorem Sf {r base:Nat} {R:List Nat} (hx:G[x]?=some (hob rv n st)) (hs:st.length=8) (hR:R.length=64) (hRi:∀ i,i<64→R[i]?=some (st.getD (i/8) 0/256^(7-i%8)%256)) (hxs:∀ y∈st,y<18446744073709551616) (hb:base≤G.length) :
  Q8 T base (.block 0 (.loop Hx)) (suI r x 0 G (Qc 64 0) 0 [])=some (.normal,suI r x 0 G R 64 [(33,.bool false)]):=by
 have h:=XA (T:=T) (base:=base) (id:=0) (body:=Hx) (fun i=>suI r x 0 G (pf 64 R i) i []) (s':=suI r x 0 G R 64 [(33,.bool false)]) 64
  (fun i hi=>by
   obtain ⟨w,hw⟩:∃ w,st[i/8]?=some w:=⟨_,Qh (by omega)⟩
   have hw':=hxs w (Qz hw)
   have hv:=hRi i hi
   rw [XW hw] at hv
   have hstep:=W4 hR hi hv
   have hlen:=BW hR (Xf hi)
   have hset:=XC (pf 64 R i) i (w/256^(7-i%8)%256)
   rw [hstep] at hset
   have gc:=Nd (rv:=rv) (n:=n) hw
   have hget:∀ l:List Ob,(G++l)[x]?=some ⟨hcl rv n st,true,true,true,1⟩:=fun l=>by rw [Qa (Qf.1 hx).1]; exact hx
   have e1:((i:Int)<64)=True:=eq_true (by omega)
   have w3:IntKind.i64.wrap ((i:Int)+1)=((i+1:Nat):Int):=Z4 (b:=1) (by omega)
   have w4:IntKind.i64.wrap ((i:Int).tdiv 8)=((i/8:Nat):Int):=wn (n:=i/8) (by omega)
   have e2:(((i/8:Nat):Int)<8)=True:=eq_true (by omega)
   have w5:(i:Int).tmod 8=((i%8:Nat):Int):=rfl
   have w6:IntKind.i64.wrap (8*((i%8:Nat):Int))=((8*(i%8):Nat):Int):=VH (a:=8) (by omega)
   have w7:IntKind.i64.wrap (56-((8*(i%8):Nat):Int))=((8*(7-i%8):Nat):Int):=by rw [Z2 (by omega) (by omega)]; omega
   have e3:(((8*(7-i%8):Nat):Int)<0)=False:=eq_false (by omega)
   have w8:(w:Int).fdiv (2^min (8*(7-i%8)) IntKind.u64.bits)=((w/256^(7-i%8):Nat):Int):=by
    rw [WR (by omega),show (256:Nat)=2^8 from rfl,←Jh]
   have w9:IntKind.u8.wrap ((w/256^(7-i%8):Nat):Int)=((w/256^(7-i%8)%256:Nat):Int):=Uv _
   have e4:(i≤63)=True:=eq_true (by omega)
   have m1:Qy base [] [G.length]=[]:=QE (by simpa using hb)
   clear hstep hv hw
   generalize pf 64 R i=o1,pf 64 R (i+1)=o2 at *
   generalize w/256^(7-i%8)%256=d at *
   generalize w/256^(7-i%8)=d2 at *
   generalize 8*(7-i%8)=d3 at *
   generalize 8*(i%8)=d4 at *
   generalize i%8=d5 at *
   generalize i/8=d6 at *
   generalize i+1=i1 at *
   simp only [suI,Hx,Q1,quiet,cW,↓pW,reduceCtorEq,seval,-Qb,e1,e2,e3,e4,w3,w4,w5,w6,w7,w8,w9,hget,gc,hset,Qp,hlen,m1])
  (by
   rw [Gq hR]
   simp only [suI,Hx,Q1,quiet,cW,↓pW,reduceCtorEq,seval,-Qb])
 rw [Gp] at h
 exact h
theorem Grown.part {K:Nat→Prop} {B:Nat} {H:List Ob} {s:Value} {p:List Nat} (h:Grown .u8 B H s p) (hK:∀ i,B≤i→i<H.length→K i) (xp:∀ y∈p,y<256) (hl:p.length≤2^47-128) (h0:0<p.length):HPart K H s p:=by
 refine ⟨?_,fun G hG => ?_,xp,hl⟩
 ·cases h with
  | nil=>exact absurd h0 (by decide)
  | own _ _ _=>exact ⟨_,_,rfl⟩
  | new _ _ _=>exact ⟨_,_,rfl⟩
 ·cases h with
  | nil=>exact absurd h0 (by decide)
  | @own id _ h1 h2 h3 =>
   have:=hG id (hK id h1 (Qf.1 h3).1)
   rw [h3] at this
   simp [elemsOf,QX this rfl,Ob.grown,QP]
   exact Qu (by rw [QP]; exact Qk _)
  | @new id _ h1 h2 h3 =>
   have:=hG id (hK id h1 (Qf.1 h3).1)
   rw [h3] at this
   simp [elemsOf,QX this rfl,Ob.fresh,QP]
   exact Qu (by rw [QP]; exact Qk _)
theorem eS (n:Nat):∀ y∈HV n,y<256:=by
 intro y hy
 simp only [HV,Jw,QJ,List.mem_replicate,ZV] at hy
 rcases hy with rfl | ⟨-,rfl⟩ | ⟨i,-,rfl⟩
 ·decide
 ·decide
 ·exact Q3 _ (by decide)
theorem MX (n:Nat):(HV n).length=17+Yf n:=by simp [HV]; omega
theorem Rst.toK {K K':Nat→Prop} {H:List Ob} {v:Value} {l:List Nat} (h:Rst K H v l) (hk:∀ i,¬ K i→¬ K' i):Rst K' H v l:=by
 cases h with
 | nil=>exact .nil
 | empty h1 h2=>exact .empty (hk _ h1) h2
 | own h1 h2 h4 h3=>exact .own (hk _ h1) h2 h4 h3
theorem YH:Qc 64 (Value.int .u8 0)=u8s (Qc 64 0):=rfl
theorem Pg (va:Option Addr) (rl vc m:Nat) (h:st.length=8):fillL [Value.slice none 0 0,.int .u64 0,.int .u64 0,.int .u64 0,.int .u64 0,.int .u64 0,.int .u64 0,.int .u64 0,.int .u64 0,.int .u64 0] [(0,2,.agg [.slice va rl vc,.int .u64 m].toArray),(2,8,eV st)]=some (hcl (.slice va rl vc) m st):=by
 obtain ⟨a,b,c,d,e,f,g,i,rfl⟩:=eight h
 rfl
theorem kQ {H:List Ob} {all:List Nat} (hh:Hsh K H hid all) (xa:∀ y∈all,y<256) (hn:all.length<2^49) :
  ∃ H',Zb T 181 [.pointer (some ⟨hid,0,none⟩)] H=some (.agg (u8s (sha all)).toArray,H',[])∧(∀ i,i<H.length→H'[i]?=H[i]?)∧H.length≤H'.length:=by
 obtain ⟨rv,h1,h2⟩:=hh
 have hlt:hid<H.length:=(Qf.1 h1).1
 obtain ⟨st,hst⟩:∃ s,s=stK (all.length/128) all:=⟨_,rfl⟩
 have ls:st.length=8:=by rw [hst]; exact DS _ _
 rw [←hst] at h1
 obtain ⟨G,hG⟩:∃ G,G=H++[⟨u8s (Qc 64 0),true,true,true,1⟩,⟨[],true,true,true,1⟩]:=⟨_,rfl⟩
 have hGl:G.length=H.length+2:=by rw [hG]; simp
 have hrG:Rst K G rv (all.drop (128*(all.length/128))):=by rw [hG]; exact h2.app
 have heG:G[H.length+1]?=some ⟨[],true,true,true,1⟩:=by rw [hG,Qe (by omega),Qq]; rfl
 have hzG:G[H.length]?=some ⟨u8s (Qc 64 0),true,true,true,1⟩:=by rw [hG,Qe (by omega),Qs]; rfl
 have hhG:G[hid]?=some (hob rv all.length st):=by rw [hG,Qa hlt]; exact h1
 obtain ⟨v',l,ha,hr',hok,hc1,hc2⟩:=Ab (K:=fun i=>i≠H.length+1∧i≠G.length) heG (by simp) (by simp) hrG.len hrG.elems (by rw [QC]; omega)
 obtain ⟨G2,hG2⟩:∃ X,X=G++l++[hob v' all.length st]:=⟨_,rfl⟩
 have hG2l:G2.length=G.length+l.length+1:=by rw [hG2]; simp; omega
 obtain ⟨xid,hxid⟩:∃ x,x=(G++l).length:=⟨_,rfl⟩
 have hxl:xid=G.length+l.length:=by rw [hxid]; simp
 have hx2:G2[xid]?=some (hob v' all.length st):=by rw [hG2,hxid,Qe (Qk _),Qs]; rfl
 have hh2:G2[hid]?=some (hob rv all.length st):=by
  have:hid<G.length:=by omega
  rw [hG2,Qv,Qa this]; exact hhG
 obtain ⟨s,l3,hp,hgr⟩:=Ik hh2 (by omega)
 obtain ⟨G4,hG4⟩:∃ X,X=G2++l3++[⟨[s],true,true,true,1⟩]:=⟨_,rfl⟩
 have hG4l:G4.length=G2.length+l3.length+1:=by rw [hG4]; simp; omega
 have hgr4:Grown .u8 G2.length G4 s (HV all.length):=by rw [hG4]; exact hgr.app
 obtain ⟨K2,hK2⟩:∃ K2:Nat→Prop,K2=fun i=>i<G4.length∧i≠xid∧i≠H.length+1∧i≠G.length:=⟨_,rfl⟩
 have hx4:G4[xid]?=some (hob v' all.length st):=by rw [hG4,Qv,Qa (by omega)]; exact hx2
 have hsh4:Hsh K2 G4 xid all:=by
  refine ⟨v',by rw [←hst]; exact hx4,?_⟩
  have:=(hr'.app (m:=[hob v' all.length st])).app (m:=l3++[⟨[s],true,true,true,1⟩])
  rw [←hG2,←Qv,←hG4] at this
  exact this.toK fun i hi hk=>by
   rw [hK2] at hk
   exact hi ⟨hk.2.2.1,hk.2.2.2⟩
 have hpz:=A5 all.length
 have hpart:HPart K2 G4 s (HV all.length):=Grown.part hgr4 (fun i h1 h2=>by rw [hK2]; exact ⟨h2,by omega,by omega,by omega⟩) (eS _) (by rw [MX]; omega) (by rw [MX]; omega)
 have harr:(G2++l3).length<G4.length:=by rw [hG4]; simp
 have hpv:PV K2 G4 (.slice (some ⟨(G2++l3).length,0,none⟩) 1 1) [s] := .inr ⟨_,0,1,_,rfl,by rw [hK2]; exact ⟨harr,by simp; omega,by simp; omega,by simp; omega⟩,by rw [hG4,Qe (Qk _),Qs]; rfl,rfl,fun i _=>by rw [QA]⟩
 have hKx:¬ K2 xid:=by rw [hK2]; intro h; exact h.2.1 rfl
 obtain ⟨G5,M5,hw,hsh5,hf5,hl5,hM5⟩:=Cm (fun i hi=>by rw [hK2] at hi; exact hi.1) hKx hsh4 xa hpv (.cons hpart .nil) (by show 1<2^50; decide) (by simp [MX]; omega)
 rw [QI,List.flatten_nil,Q6] at hsh5
 obtain ⟨rv5,hx5,-⟩:=hsh5
 obtain ⟨st5,hst5⟩:∃ s,s=stK ((all++HV all.length).length/128) (all++HV all.length):=⟨_,rfl⟩
 rw [←hst5] at hx5
 have ls5:st5.length=8:=by rw [hst5]; exact DS _ _
 have xs5:∀ y∈st5,y<18446744073709551616:=by rw [hst5]; exact Sh _ _
 have hb5:H.length≤G5.length:=by omega
 have hsu:=Sf (r:=H.length) (base:=H.length) hx5 ls5 (VM all) (fun i hi=>by simp [sha,hi,hst5]) xs5 hb5
 have hz5:G5[H.length]?=some ⟨u8s (Qc 64 0),true,true,true,1⟩:=by
  rw [hf5 _ (by rw [hK2]; exact ⟨by omega,by omega,by omega,by omega⟩),hG4,Qv,Qa (by omega),hG2,Qv,Qa (by omega)]
  exact hzG
 have hfr:∀ i,i<H.length→G5[i]?=H[i]? := fun i hi=>by
  rw [hf5 _ (by rw [hK2]; exact ⟨by omega,by omega,by omega,by omega⟩),hG4,Qv,Qa (by omega),hG2,Qv,Qa (by omega),hG,Qa hi]
 have hm5:Qy H.length [] M5=[]:=QE fun i hi=>by
  have:=hM5 i hi
  rw [hK2] at this
  rcases Zq i H.length with h | h
  ·exact absurd (show i<G4.length∧i≠xid∧i≠H.length+1∧i≠G.length from ⟨by omega,by omega,by omega,by omega⟩) this
  ·exact h
 refine ⟨(G5++[(⟨u8s (sha all),true,true,true,1⟩:Ob)]).set H.length (⟨u8s (sha all),true,true,true,1⟩:Ob),?_,fun i hi=>by rw [Qm (by omega),Qa (by omega)]; exact hfr i hi,by rw [Qo,Qg]; omega⟩
 have hz:=YH
 have lz:(Qc 64 0).length=64:=Qn
 have lsh:=VM all
 have cst:=TN (rv:=rv) (n:=all.length) ls
 have c0:(hcl rv all.length st)[0]?=some rv:=rfl
 have c1:(hcl rv all.length st)[1]?=some (.int .u64 all.length):=rfl
 have hcl8:2+8≤(hcl rv all.length st).length:=by rw [UU]; omega
 obtain ⟨va,vc,rfl⟩:=hr'.shape
 generalize (all.drop (128*(all.length/128))).length=rl at *
 have fl1:fillL [Value.slice none 0 0,.int .u64 0] [(0,1,.slice va rl vc),(1,1,.int .u64 all.length)]=some [.slice va rl vc,.int .u64 all.length]:=rfl
 have fl2:=Pg va rl vc all.length ls
 have fls:fillL [Value.slice none 0 0] [(0,1,s)]=some [s]:=by
  obtain ⟨sa,sc,hsh⟩:=hpart.shape
  rw [hsh]; rfl
 have f0:fillL [] []=some []:=rfl
 have F1:H++[⟨u8s (Qc 64 0),true,true,true,1⟩,⟨[],true,true,true,1⟩]=G:=hG.symm
 have Fx:G.length+l.length=xid:=hxl.symm
 have F2:G++(l++[⟨hcl (.slice va rl vc) all.length st,true,true,true,1⟩])=G2:=by rw [hG2,Qv]; rfl
 have F4:G2++(l3++[⟨[s],true,true,true,1⟩])=G4:=by rw [hG4,Qv]
 have g1:G[hid]?=some ⟨hcl rv all.length st,true,true,true,1⟩:=hhG
 have g2:(G++l)[hid]?=some ⟨hcl rv all.length st,true,true,true,1⟩:=by rw [Qa (by omega)]; exact hhG
 have g5:∀ o:Ob,(G5++[o])[H.length]?=some ⟨u8s (Qc 64 0),true,true,true,1⟩:=fun o=>by rw [Qa (by omega)]; exact hz5
 have g6:∀ o o':Ob,((G5++[o]).set H.length o')[H.length]?=some o':=fun o o'=>Qt (by rw [Qg]; omega)
 have okcl:(hcl (.slice va rl vc) all.length st).all okVar=true:=by
  show (okVar (.slice va rl vc)&&(okVar (.int .u64 all.length)&&(ns .u64 st).all okVar))=true
  have:(ns .u64 st).all okVar=true:=by
   rw [List.all_eq_true]; intro y hy
   simp only [ns,ZV] at hy
   obtain ⟨m,-,rfl⟩:=hy; rfl
  rw [this]; rfl
 rw [Qg] at hw
 simp only [suI,Qw,Qr,Zx] at hsu
 have hge:H.length≤H.length+1:=by omega
 generalize hcl rv all.length st=C1,hcl (.slice va rl vc) all.length st=C2,sha all=R,Qc 64 0=Z64 at *
 rw [QD (fn:=oy) rfl]
 simp only [oy,Q1,quiet,cW,↓pW,reduceCtorEq,seval,-Qb,hz,f0,F1,g1,g2,c0,c1,ha,fl1,cst,hcl8,QW,Zf,ZU,Zg,fl2,Fx,F2,hp,fls,F4,hw,hm5,hsu,g5,g6,Qp,lz,lsh,Q5,Qn]
theorem N7 (hp:PV (fun i=>i<H.length) H pv xs) (hP:HParts (fun i=>i<H.length) H xs ps) (hn:xs.length<2^50) (hb:ps.flatten.length<2^49) :
  ∃ l,Zb T 122 [pv] H=some (.agg (u8s (sha ps.flatten)).toArray,H++l,[]):=by
 obtain ⟨H1,hH1⟩:∃ X,X=H++[⟨u8s (Qc 64 0),true,true,true,1⟩,hob (.slice none 0 0) 0 BD]:=⟨_,rfl⟩
 have hl1:H1.length=H.length+2:=by rw [hH1]; simp
 have hg1:H1[H.length+1]?=some (hob (.slice none 0 0) 0 BD):=by rw [hH1,Qe (by omega),Qq]; rfl
 have hz1:H1[H.length]?=some ⟨u8s (Qc 64 0),true,true,true,1⟩:=by rw [hH1,Qe (by omega),Qs]; rfl
 have hf1:∀ i,i<H.length→H1[i]?=H[i]? := fun i hi=>by rw [hH1,Qa hi]
 have hp1:PV (fun i=>i<H.length+1) H1 pv xs:=by
  rcases hp with h | ⟨pid,off,cap,o,h1,h2,h3,h4,h5⟩
  ·exact .inl h
  ·exact .inr ⟨pid,off,cap,o,h1,Vb h2,(hf1 _ h2).trans h3,h4,h5⟩
 have hP1:HParts (fun i=>i<H.length+1) H1 xs ps:=by
  clear hn hb hp hp1
  induction hP with
  | nil=>exact .nil
  | cons a _ ih=>exact .cons ⟨a.shape,fun G hG=>a.reads G fun i hi=>(hG i (Vb hi)).trans (hf1 i hi),a.lt,a.le⟩ ih
 obtain ⟨H2,M2,hw,s2,f2,l2,m2⟩:=Cm (K:=fun i=>i<H.length+1) (hid:=H.length+1) (fun i hi=>by have:i<H.length+1:=hi; omega) (Vy _) (fK hg1) (by simp) hp1 hP1 hn (by rw [Qr]; omega)
 rw [Qr] at s2
 obtain ⟨H3,hs3,f3,l3⟩:=kQ s2 hP.lt hb
 have hm2:Qy H.length [] M2=[]:=QE fun i hi=>by
  have:¬ i<H.length+1:=m2 i hi
  omega
 have g3:H3[H.length]?=some ⟨u8s (Qc 64 0),true,true,true,1⟩:=by
  rw [f3 _ (by omega),f2 _ (Nat.lt_succ_self _)]; exact hz1
 have hfr:∀ i,i<H.length→(H3.set H.length (⟨u8s (sha ps.flatten),true,true,true,1⟩:Ob))[i]?=H[i]? := fun i hi=>by
  rw [Qm (by omega),f3 _ (by omega),f2 _ (Vb hi)]; exact hf1 i hi
 have hle:H.length≤(H3.set H.length (⟨u8s (sha ps.flatten),true,true,true,1⟩:Ob)).length:=by rw [Qo]; omega
 obtain ⟨l,hl⟩:=XE hle hfr
 refine ⟨l,?_⟩
 rw [←hl]
 have hz:=YH
 have lz:(Qc 64 0).length=64:=Qn
 have lsh:=VM ps.flatten
 have hnew:=mq (H++[⟨u8s (Qc 64 0),true,true,true,1⟩])
 have e1:(H++[(⟨u8s (Qc 64 0),true,true,true,1⟩:Ob)]).length=H.length+1:=by simp
 rw [e1,Qv,Qw,Qr,←hH1] at hnew
 have g4:∀ o:Ob,(H3.set H.length o)[H.length]?=some o:=fun o=>Qt (by omega)
 generalize sha ps.flatten=R,Qc 64 0=Z64 at *
 rw [QD (fn:=oA) rfl]
 simp only [oA,Q1,quiet,cW,↓pW,reduceCtorEq,seval,-Qb,hz,hnew,hw,hm2,hs3,g3,g4,QW,Zf,ZU,Zg,Qp,lz,lsh,Q5,Qn]
end Go.Ev.YtomfgcgnepfmjaaGreat

/- What the law leans on, part 3. -/
import Derived.Test.YtkbifkljlfmeiaaGreatCg2
set_option linter.unusedSimpArgs false
set_option linter.unusedVariables false
set_option linter.defProp false
open And renaming intro -> Qi
open Bool renaming and_eq_true -> Jd, false_eq_true -> Z6
open Exists renaming intro -> Zk
open Int renaming cast_ofNat_Int -> Xo, natCast_add -> Kz, natCast_mul -> Jy, natCast_one -> KR, natCast_pow -> XM, natCast_zero -> Zx
open List renaming all_cons -> KC, append_assoc -> Qx, append_nil -> QF, cons_append -> Qp, drop -> ZT, drop_append_of_le_length -> Jh, drop_eq_getElem?_toList_append -> ZJ, drop_eq_getElem_cons -> J4, drop_of_length_le -> ZH, eq_nil_of_length_eq_zero -> ZU, ext_getElem? -> ZE, flatten_append -> Zz, flatten_cons -> QO, foldl_cons -> XK, foldl_nil -> Ya, getD_eq_getElem?_getD -> Qy, getElem?_append_left -> Qb, getElem?_append_right -> Qd, getElem?_cons_zero -> JV, getElem?_drop -> Zf, getElem?_eq_getElem -> Qg, getElem?_eq_some_iff -> Qf, getElem?_of_mem -> Xe, getElem?_replicate -> YD, getElem?_set -> Ky, getElem?_set_ne -> Ql, getElem?_set_self -> Qu, getElem?_take -> QN, getElem?_zipWith -> VI, length_append -> Qh, length_cons -> Zt, length_drop -> QD, length_nil -> Z9, length_replicate -> Q8, length_set -> Qr, length_take -> Q0, length_zipWith -> Yo, map_append -> XZ, map_cons -> J9, map_nil -> Xj, mem_append -> QB, mem_append_left -> Va, mem_cons -> J8, mem_cons_of_mem -> KZ, mem_map -> JN, mem_of_getElem? -> Qw, mem_of_mem_drop -> Zq, mem_of_mem_take -> QG, mem_range'_1 -> L5, mem_replicate -> Be, mem_singleton -> Zu, nil_append -> Qn, not_mem_nil -> Xl, range -> Jn, range' -> Vv, reduceReplicate -> Qa, replicate -> Qc, replicate_succ -> Xr, set_append_left -> Xd, set_append_right -> Q1, set_cons_zero -> VA, set_set -> KB, take -> Q5, take_add_one -> Zh, take_append_drop -> Z7, take_append_of_le_length -> Jr, take_of_length_le -> Qo, take_zero -> Js, zipWith -> XA
open Nat renaming Coprime -> zU, add_assoc -> QV, add_comm -> Xu, add_mul -> Zl, add_sub_cancel_left -> Qt, add_zero -> ZM, and_lt_two_pow -> Xz, div_add_mod -> ZK, div_div_eq_div_mul -> Zc, div_eq_of_lt -> Xk, div_le_self -> Jp, div_lt_of_lt_mul -> VY, div_one -> JQ, dvd_mul_left -> Pm, dvd_of_mod_eq_zero -> YR, eq_zero_or_pos -> ZP, gcd -> T6, le_of_dvd -> Ve, le_of_lt -> JH, le_refl -> Qj, le_trans -> JG, lt_irrefl -> Yu, lt_of_le_of_lt -> Ja, lt_of_lt_of_le -> QJ, lt_or_ge -> ZA, lt_succ_of_lt -> VM, lt_trans -> X9, min_eq_left -> Zg, mod_eq_of_lt -> Q6, mod_eq_zero_of_dvd -> MC, mod_lt -> Q3, mod_mod -> Vu, mod_mod_of_dvd -> YA, mod_mul_mod -> aO, mod_one -> Po, mul_assoc -> ZI, mul_comm -> Zw, mul_le_mul -> Xc, mul_le_mul_right -> ZG, mul_left_comm -> Xb, mul_mod -> VV, mul_mod_mul_right -> Wt, mul_one -> Xy, one_mul -> Xa, or_lt_two_pow -> JZ, pow_add -> JU, pow_le_pow_right -> Zy, pow_mod -> zT, pow_mul -> Jj, pow_pos -> Xi, pow_succ -> Zn, pow_zero -> Jg, sub_mod_eq_zero_of_mod_eq -> WV, sub_self -> Qs, sub_zero -> V8, xor_lt_two_pow -> KI, zero_add -> QH, zero_mul -> KA
open Option renaming bind_some -> Qk
open Option.some renaming inj -> JJ, injEq -> Qm
namespace Go.NT
variable{a n k:Nat}
def Pr(p:Nat):Prop:=2<=p/\∀m,m∣p->m=1\/m=p
def Pr.coprime{p a:Nat}(hp:Pr p)(h:¬p∣a):zU p a:=by
 rcases hp.2 (T6 p a) (Nat.gcd_dvd_left p a)with E|E
 ·exact E
 ·exact absurd (E▸Nat.gcd_dvd_right p a) h
def Pr.dvd_mul{p a b:Nat}(hp:Pr p)(h:p∣a*b):p∣a\/p∣b:=by
 by_cases ha:p∣a
 ·exact .inl ha
 ·exact .inr ((hp.coprime ha).dvd_of_dvd_mul_left h)
def Ug:List Nat->Nat
 |[]=>1
 |x::r=>x*Ug r
def PX{l l':List Nat}(h:l.Perm l'):Ug l=Ug l':=by
 induction h with
 |nil=>rfl
 |cons x _ E=>simp only[Ug,E]
 |swap x y l=>simp only[Ug,Xb]
 |trans _ _ J I=>rw[J,I]
def bC:∀ {I E:List Nat},I.Nodup->(∀x∈I,x∈E)->E.length<=I.length->I.Perm E
 |[],E,_,_,O=>by
  have:E=[]:=by cases E with|nil=>rfl|cons _ _=>simp at O
  subst this;exact .nil
 |a::t,E,hn,hs,O=>by
  have ha:=hs a wd
  have hp:=List.perm_cons_erase ha
  have hlen:=hp.length_eq
  rw[List.nodup_cons]at hn
  refine(List.Perm.cons a (bC hn.2 (fun x U =>?_) ?_)).trans hp.symm
  ·have J:x≠a:=fun h=>hn.1 (h▸U)
   exact(List.mem_erase_of_ne J).2 (hs x (by simp[U]))
  ·simp only[Zt]at O hlen ⊢
   omega
def Fa(a p:Nat):∀l:List Nat,Ug (l.map fun x=>a*x%p)%p=a^l.length*Ug l%p
 |[]=>by simp[Ug]
 |x::r=>by
  have E:=Fa a p r
  simp only[J9,Ug,Zt,Zn]
  rw[VV,E,Vu,<-VV]
  congr 1
  simp only[ZI,Xb,Zw]
def Ag{p:Nat}(hp:Pr p):∀ {l:List Nat},(∀x∈l,¬p∣x)->¬p∣Ug l
 |[],_=>fun h=>by
  have:=Ve (by decide:0<1) h
  have:=hp.1
  omega
 |x::r,h=>fun hd=>by
  rcases hp.dvd_mul hd with E|E
  ·exact h x wd E
  ·exact Ag hp (fun y I=>h y (by simp[I])) E
def Rq{p:Nat}(hp:Pr p)(ha:¬p∣a):a^(p-1)%p=1:=by
 have h2:=hp.1
 have O:((Vv 1 (p-1)).map fun x=>a*x%p).Nodup:=by
  rw[List.nodup_iff_pairwise_ne,List.pairwise_map]
  refine List.Pairwise.imp_of_mem ?_ (List.pairwise_lt_range' (s:=1) (n:=p-1))
  intro x y I hy hxy he
  simp only[L5]at I hy
  have Z:(a*y-a*x)%p=0:=WV he.symm
  rw[<-Nat.mul_sub]at Z
  rcases hp.dvd_mul (YR Z)with E|E
  ·exact ha E
  ·have:=Ve qr E
   omega
 have J:∀x∈(Vv 1 (p-1)).map (fun x=>a*x%p),x∈Vv 1 (p-1):=by
  intro x I
  simp only[JN,L5]at I ⊢
  obtain⟨y,hy,rfl⟩:=I
  have Z:a*y%p<p:=Q3 _ qr
  have E:a*y%p≠0:=fun h=>by
   rcases hp.dvd_mul (YR h)with E|E
   ·exact ha E
   ·have:=Ve qr E
    omega
  omega
 have hperm:=PX (bC O J wd)
 have h5:=Fa a p (Vv 1 (p-1))
 rw[hperm,List.length_range']at h5
 have h6:¬p∣Ug (Vv 1 (p-1)):=Ag hp fun x I hd=>by
  simp only[L5]at I
  have:=Ve qr hd
  omega
 have h7:(a^(p-1)*Ug (Vv 1 (p-1))-1*Ug (Vv 1 (p-1)))%p=0:=WV (by rw[<-h5,Xa])
 rw[<-Nat.sub_mul]at h7
 have U:0<a:=Nat.pos_of_ne_zero fun h=>ha (h▸Nat.dvd_zero p)
 have h8:0<a^(p-1):=Xi U
 rcases hp.dvd_mul (YR h7)with Y|Y
 ·obtain⟨k,hk⟩:=Y
  have:a^(p-1)=p*k+1:=qr
  rw[this,Nat.mul_add_mod,Q6 qr]
 ·exact absurd Y h6
def Ro{n:Nat}(hn:2<=n):∃r,Pr r/\r∣n/\(Pr n\/r*r<=n):=by
 have ex:∃r,2<=r/\r∣n/\∀m,2<=m->m∣n->r<=m:=by
  have key:∀k,(∃r,2<=r/\r∣n/\r<=k)->∃r,2<=r/\r∣n/\∀m,2<=m->m∣n->r<=m:=by
   intro k
   induction k with
   |zero=>rintro⟨r,J,_,I⟩;omega
   |succ k ih =>
    rintro⟨r,J,E,I⟩
    by_cases h:∃r,2<=r/\r∣n/\r<=k
    ·exact ih h
    ·refine⟨r,J,E,fun m hm O =>?_⟩
     rcases ZA k m with Y|Y
     ·omega
     ·exact absurd ⟨m,hm,O,Y⟩ h
  exact key n ⟨n,hn,Nat.dvd_refl n,Qj n⟩
 obtain⟨r,J,E,I⟩:=ex
 have U:Pr r:=⟨J,fun m hm=>by
  have hm0:0<m:=Nat.pos_of_dvd_of_pos hm qr
  rcases ZA m 2 with h|h
  ·left;omega
  ·have:=I m h (Nat.dvd_trans hm E)
   have:=Ve qr hm
   right;omega⟩
 refine⟨r,U,E,?_⟩
 obtain⟨k,rfl⟩:=E
 rcases ZA k 2 with h|h
 ·have:k=1:=by
   rcases ZP k with Z|Z
   ·subst Z;omega
   ·omega
  subst this
  rw[Xy];exact .inl U
 ·exact .inr (Nat.mul_le_mul_left r (I k h (Pm k r)))
def pw(m a:Nat):Nat->Nat->Nat
 |0,_=>1%m
 |f+1,e=>if e%2=1 then(pw m a f (e/2))*(pw m a f (e/2))%m*a%m else(pw m a f (e/2))*(pw m a f (e/2))%m
def wg(m a:Nat):∀(f e:Nat),e<2^f->pw m a f e=a^e%m
 |0,e,h=>by
  have:e=0:=by simpa using h
  subst this;rfl
 |f+1,e,h=>by
  have E:=wg m a f (e/2) (by rw[Zn]at h;omega)
  have hs:a^(e/2)%m*(a^(e/2)%m)%m=a^(2*(e/2))%m:=by
   rw[<-VV,<-JU];congr 2;omega
  unfold pw
  rw[E]
  by_cases he:e%2=1
  ·rw[if_pos he,hs,aO,<-Zn]
   congr 2;omega
  ·rw[if_neg he,hs]
   congr 2;omega
def pwf(m a:Nat):Nat->Nat->Nat
 |0,_=>1%m
 |f+1,e=>(fun r=>if e%2=1 then r*r%m*a%m else r*r%m) (pwf m a f (e/2))
def s8{r:Nat}(Y:2<=r)(b x y:Nat):b^x%r=1->b^y%r=1->b^(T6 x y)%r=1:=by
 induction x,y using Nat.gcd.induction with
 |H0 y=>intro _ h;rwa[Nat.gcd_zero_left]
 |H1 x y U J =>
  intro I O
  rw[Nat.gcd_rec]
  refine J ?_ I
  have E:b^(x*(y/x)+y%x)%r=1:=by rw[ZK];exact O
  rw[JU,Jj,VV,zT (b^x),I,Nat.one_pow,Q6 (a:=1) qr,Xa,Vu]at E
  exact E
def x9{n q k a r:Nat}(hq:Pr q)(hk:n=q*k+1)(h1:a^(q*k)%n=1)(h2:T6 (a^k%n+n-1) n=1)(hr:Pr r)(E:r∣n):q∣r-1:=by
 have Z:=hr.1
 have hn0:0<n:=qr
 have hn2:r<=n:=Ve hn0 E
 have hmodr:∀x,x%n%r=x%r:=fun x=>YA x E
 have hb1:a^(q*k)%r=1:=by rw[<-hmodr,h1,Q6 qr]
 have Y:¬r∣a:=fun h=>by
  have hqk:0<q*k:=by
   rcases ZP (q*k)with I|I
   ·omega
   ·exact I
  have:r∣a^(q*k):=by
   obtain⟨m,hm⟩:∃m,q*k=m+1:=⟨q*k-1,by omega⟩
   rw[hm,Zn]
   exact Nat.dvd_trans h (Pm a _)
  have:=MC this
  omega
 have hf:=Rq hr Y
 by_cases J:q∣r-1
 ·exact J
 ·exfalso
  have hc:=hq.coprime J
  have O:∀x:Nat,∀c,c%r=1->c^x%r=1:=fun x c hcx=>by rw[zT,hcx,Nat.one_pow,Q6 qr]
  have hk1:(a^k)^q%r=1:=by rw[<-Jj,Zw k q];exact hb1
  have hk2:(a^k)^(r-1)%r=1:=by rw[<-Jj,Zw k,Jj];exact O k _ hf
  have hak:a^k%r=1:=by
   have:=s8 Z (a^k) q (r-1) hk1 hk2
   rwa[hc,Nat.pow_one]at this
  have U:r∣a^k%n+n-1:=by
   have e3:a^k%n%r=1:=by rw[hmodr];exact hak
   have e4:1<=a^k%n:=by
    rcases ZP (a^k%n)with I|I
    ·rw[I,Nat.zero_mod]at e3;omega
    ·exact I
   have e5:r∣a^k%n-1:=by
    apply YR
    exact WV (by rw[e3,Q6 qr])
   rw[show a^k%n+n-1=(a^k%n-1)+n by omega]
   exact Nat.dvd_add e5 E
  have:=Nat.dvd_gcd U E
  rw[h2]at this
  have:=Ve ww this
  omega
def kW{q:Nat}(hn:2<=n)(O:Pr q)(U:n=q*k+1)(J:n<q*q)(h1:a^(q*k)%n=1)(Z:T6 (a^k%n+n-1) n=1):Pr n:=by
 obtain⟨r,I,E,h|h⟩:=Ro hn
 ·exact h
 ·have Y:=x9 O U h1 Z I E
  have:=I.1
  have h4:=Ve qr Y
  have:q*q<=r*r:=Xc qr qr
  omega
def kV{q E O a':Nat}(hn:2<=n)(Y:Pr q)(hk:n=q*k+1)(J:Pr E)(hk':n=E*O+1)(Z:q≠E)(hbig:n<(q*E)*(q*E))(h1:a^(q*k)%n=1)(h2:T6 (a^k%n+n-1) n=1)
 (h1':a'^(E*O)%n=1) (h2':T6 (a'^O%n+n-1) n=1):Pr n:=by
  obtain⟨r,U,I,h|h⟩:=Ro hn
  · exact h
  · have h3:=x9 Y hk h1 h2 U I
    have h3':=x9 J hk' h1' h2' U I
    have hc:zU q E:=Y.coprime fun hd=>by
      rcases J.2 q hd with h|h
      · have:=Y.1;omega
      · exact Z h
    have h5:=hc.mul_dvd_of_dvd_of_dvd h3 h3'
    have:=U.1
    have h4:=Ve qr h5
    have:(q*E)*(q*E)<=r*r:=Xc qr qr
    omega
def bL(n:Nat):Nat->Nat->Bool
 |0,_=>true
 |f+1,m=>(n%m != 0)&&bL n f (m+1)
def A8{n:Nat}:∀(f m:Nat),bL n f m=true->∀x,m<=x->x<m+f->n%x≠0
 |0,m,_,x,I,J=>by omega
 |f+1,m,h,x,I,J=>by
  simp only[bL,Jd,bne_iff_ne]at h
  rcases Nat.eq_or_lt_of_le I with E|E
  ·subst E;exact h.1
  ·exact A8 f (m+1) h.2 x E qr
def KQ{f:Nat}(hn:2<=n)(Y:n<(f+2)*(f+2))(h:bL n f 2=true):Pr n:=by
 obtain⟨r,U,E,O|O⟩:=Ro hn
 ·exact O
 ·have I:=U.1
  have:r<2+f:=by
   rcases ZA r (2+f)with J|J
   ·exact J
   ·have:(f+2)*(f+2)<=r*r:=Xc qr qr
    omega
  exact absurd (MC E) (A8 f 2 h r I this)
end Go.NT
namespace Go.Cv
section
variable{n:Nat}[NeZero n]
structure Fld(n:Nat)[NeZero n](iv:Fin n->Fin n)(d i:Fin n):Prop where
 inv:∀a:Fin n,a≠0->a*iv a=1
 iv0:iv 0=0
 one:(1:Fin n)≠0
 two:(2:Fin n)≠0
 root:i*i = -1
 nosq:∀r:Fin n,r*r≠d
variable{iv:Fin n->Fin n}{d i:Fin n}(F:Fld n iv d i)
include F
def Fld.dom{a b:Fin n}(h:a*b=0):a=0\/b=0:=by
 by_cases ha:a=0
 ·exact .inl ha
 ·have:=F.inv a ha
  exact .inr (by grobner)
def Fld.mul_ne{a b:Fin n}(ha:a≠0)(hb:b≠0):a*b≠0:=fun h=>by
 rcases F.dom h with h|h
 ·exact ha h
 ·exact hb h
def Fld.cancel{a b c:Fin n}(ha:a≠0)(h:a*b=a*c):b=c:=by
 have:=F.inv a ha
 grobner
def Fld.noratio{u v:Fin n}(hv:v≠0):u*u≠d*(v*v):=fun h=>by
 have:=F.inv v hv
 apply F.nosq (u*iv v)
 grobner
omit F
def On(d x y:Fin n):Prop := -(x*x)+y*y=1+d*(x*x)*(y*y)
def On.sub{d x y:Fin n}(h:On d x y) : -(x*x)+y*y-1-d*(x*x)*(y*y)=0:=by
 unfold On at h;grobner
def iu{L R a b c e:Fin n}(h:L-R=a*c+b*e)(hc:c=0)(he:e=0):L=R:=by
 subst hc he;grobner
def TK{L R a b c e f g:Fin n}(h:L-R=a*c+b*e+f*g)(hc:c=0)(he:e=0)(E:g=0):L=R:=by
 subst hc he E;grobner
def pz(d x1 y1 x2 E:Fin n) : -((x1*E+x2*y1)*(x1*E+x2*y1)*((1-d*x1*x2*y1*E)*(1-d*x1*x2*y1*E)))+(y1*E+x1*x2)*(y1*E+x1*x2)*((1+d*x1*x2*y1*E)*(1+d*x1*x2*y1*E)) -
   (((1+d*x1*x2*y1*E)*(1-d*x1*x2*y1*E))*((1+d*x1*x2*y1*E)*(1-d*x1*x2*y1*E))+d*((x1*E+x2*y1)*(x1*E+x2*y1))*((y1*E+x1*x2)*(y1*E+x1*x2))) =
   (d*d*d*x1*x1*x2*x2*x2*x2*y1*y1*E*E*E*E-d*d*x1*x1*x2*x2*x2*x2*E*E*E*E+d*d*x2*x2*x2*x2*y1*y1*E*E*E*E-d*d*x2*x2*x2*x2*E*E*E*E-d*x1*x1*x2*x2*x2*x2*E*E+d*x1*x1*x2*x2*E*E*E*E+d*x2*x2*x2*x2*y1*y1*E*E-2*d*x2*x2*x2*x2*E*E*E*E-d*x2*x2*y1*y1*E*E*E*E-2*d*x2*x2*E*E-2*x2*x2*x2*x2*E*E+x2*x2*x2*x2+2*x2*x2*E*E*E*E-4*x2*x2*E*E+E*E*E*E)*(-(x1*x1)+y1*y1-1-d*(x1*x1)*(y1*y1))+(d*x1*x1*x1*x1*x2*x2*E*E+2*d*x1*x1*x2*x2*E*E+d*x2*x2*y1*y1*y1*y1*E*E-2*d*x2*x2*y1*y1*E*E+d*x2*x2*E*E+2*x1*x1*x2*x2*E*E-x1*x1*x2*x2+x1*x1*E*E-2*x2*x2*y1*y1*E*E+x2*x2*y1*y1+2*x2*x2*E*E-x2*x2-y1*y1*E*E+E*E+1)*(-(x2*x2)+E*E-1-d*(x2*x2)*(E*E)):=by grobner
def yL(d x1 y1 x2 E x3 I:Fin n):((x1*E+x2*y1)*(1-d*x1*x2*y1*E)*I+x3*(y1*E+x1*x2)*(1+d*x1*x2*y1*E))*((1+d*x2*x3*E*I)*(1-d*x2*x3*E*I)+d*(x2*I+x3*E)*(E*I+x2*x3)*x1*y1) -
   (x1*(E*I+x2*x3)*(1+d*x2*x3*E*I)+(x2*I+x3*E)*(1-d*x2*x3*E*I)*y1)*((1+d*x1*x2*y1*E)*(1-d*x1*x2*y1*E)+d*(x1*E+x2*y1)*(y1*E+x1*x2)*x3*I) =
   (-d*d*x1*x2*x2*x2*x2*x3*x3*E*E*E*I-d*d*x1*x2*x2*x2*x3*E*E*E*E*I*I+d*d*x2*x2*x2*x2*x3*y1*E*E*E*I*I+d*d*x2*x2*x2*x3*x3*y1*E*E*E*E*I-d*x1*x2*x2*x2*x2*x3*x3*E*I-d*x1*x2*x2*x2*x3*x3*x3*E*E-d*x1*x2*x2*x2*x3*E*E+d*x1*x2*x2*E*E*E*I*I*I-d*x1*x2*x2*E*E*E*I+d*x1*x2*x3*E*E*E*E*I*I+d*x2*x2*x2*x2*x3*y1*E*I*I+d*x2*x2*x2*y1*E*E*I*I*I-d*x2*x2*x2*y1*E*E*I-d*x2*x2*x3*x3*x3*y1*E*E*E-d*x2*x2*x3*y1*E*E*E-d*x2*x3*x3*y1*E*E*E*E*I)*(-(x1*x1)+y1*y1-1-d*(x1*x1)*(y1*y1))+(d*d*x1*x1*x2*x2*x3*x3*x3*y1*E*I*I-d*d*x1*x1*x2*x3*x3*y1*E*E*I*I*I-d*d*x1*x2*x2*x3*x3*y1*y1*E*I*I*I+d*d*x1*x2*x3*x3*x3*y1*y1*E*E*I*I+d*x1*x1*x1*x2*x2*x3*x3*E*I+d*x1*x1*x1*x2*x3*x3*x3*I*I+d*x1*x1*x1*x2*x3*E*E*I*I+d*x1*x1*x1*x3*x3*E*I*I*I-d*x1*x1*x2*x2*x3*y1*E*I*I-d*x1*x1*x2*x3*x3*y1*E*E*I+d*x1*x1*x2*x3*x3*y1*I*I*I+d*x1*x1*x3*x3*x3*y1*E*I*I-d*x1*x2*x2*x3*x3*y1*y1*E*I+d*x1*x2*x2*x3*x3*E*I-d*x1*x2*x3*x3*x3*y1*y1*I*I+d*x1*x2*x3*x3*x3*I*I-d*x1*x2*x3*y1*y1*E*E*I*I+d*x1*x2*x3*E*E*I*I-d*x1*x3*x3*y1*y1*E*I*I*I+d*x1*x3*x3*E*I*I*I+d*x2*x2*x3*y1*y1*y1*E*I*I-d*x2*x2*x3*y1*E*I*I+d*x2*x3*x3*y1*y1*y1*E*E*I-d*x2*x3*x3*y1*y1*y1*I*I*I-d*x2*x3*x3*y1*E*E*I+d*x2*x3*x3*y1*I*I*I-d*x3*x3*x3*y1*y1*y1*E*I*I+d*x3*x3*x3*y1*E*I*I+x1*x1*x1*x2*x3*x3*x3-x1*x1*x1*x2*x3*I*I+x1*x1*x1*x2*x3+x1*x1*x1*x3*x3*E*I-x1*x1*x1*E*I*I*I+x1*x1*x1*E*I+x1*x1*x2*x3*x3*y1*I-x1*x1*x2*y1*I*I*I+x1*x1*x2*y1*I+x1*x1*x3*x3*x3*y1*E-x1*x1*x3*y1*E*I*I+x1*x1*x3*y1*E-x1*x2*x3*x3*x3*y1*y1+x1*x2*x3*x3*x3+x1*x2*x3*y1*y1*I*I-x1*x2*x3*y1*y1-x1*x2*x3*I*I+x1*x2*x3-x1*x3*x3*y1*y1*E*I+x1*x3*x3*E*I+x1*y1*y1*E*I*I*I-x1*y1*y1*E*I-x1*E*I*I*I+x1*E*I-x2*x3*x3*y1*y1*y1*I+x2*x3*x3*y1*I+x2*y1*y1*y1*I*I*I-x2*y1*y1*y1*I-x2*y1*I*I*I+x2*y1*I-x3*x3*x3*y1*y1*y1*E+x3*x3*x3*y1*E+x3*y1*y1*y1*E*I*I-x3*y1*y1*y1*E-x3*y1*E*I*I+x3*y1*E)*(-(x2*x2)+E*E-1-d*(x2*x2)*(E*E))+(-d*x1*x1*x2*x2*x3*y1*E+d*x1*x1*x2*y1*E*E*I+d*x1*x2*x2*y1*y1*E*I-d*x1*x2*x3*y1*y1*E*E-x1*x1*x1*x2*x2*x2*x3-x1*x1*x1*x2*x2*E*I+x1*x1*x1*x2*x3*E*E-x1*x1*x1*x2*x3+x1*x1*x1*E*E*E*I-x1*x1*x1*E*I-x1*x1*x2*x2*x2*y1*I-x1*x1*x2*x2*x3*y1*E+x1*x1*x2*y1*E*E*I-x1*x1*x2*y1*I+x1*x1*x3*y1*E*E*E-x1*x1*x3*y1*E+x1*x2*x2*x2*x3*y1*y1-x1*x2*x2*x2*x3+x1*x2*x2*y1*y1*E*I-x1*x2*x2*E*I-x1*x2*x3*y1*y1*E*E+x1*x2*x3*y1*y1+x1*x2*x3*E*E-x1*x2*x3-x1*y1*y1*E*E*E*I+x1*y1*y1*E*I+x1*E*E*E*I-x1*E*I+x2*x2*x2*y1*y1*y1*I-x2*x2*x2*y1*I+x2*x2*x3*y1*y1*y1*E-x2*x2*x3*y1*E-x2*y1*y1*y1*E*E*I+x2*y1*y1*y1*I+x2*y1*E*E*I-x2*y1*I-x3*y1*y1*y1*E*E*E+x3*y1*y1*y1*E+x3*y1*E*E*E-x3*y1*E)*(-(x3*x3)+I*I-1-d*(x3*x3)*(I*I)):=by grobner
def yK(d x1 y1 x2 E x3 I:Fin n):((y1*E+x1*x2)*(1+d*x1*x2*y1*E)*I+(x1*E+x2*y1)*(1-d*x1*x2*y1*E)*x3)*((1+d*x2*x3*E*I)*(1-d*x2*x3*E*I)-d*(x2*I+x3*E)*(E*I+x2*x3)*x1*y1) -
   (y1*(E*I+x2*x3)*(1+d*x2*x3*E*I)+x1*(x2*I+x3*E)*(1-d*x2*x3*E*I))*((1+d*x1*x2*y1*E)*(1-d*x1*x2*y1*E)-d*(x1*E+x2*y1)*(y1*E+x1*x2)*x3*I) =
   (d*d*x1*x2*x2*x2*x2*x3*E*E*E*I*I+d*d*x1*x2*x2*x2*x3*x3*E*E*E*E*I-d*d*x2*x2*x2*x2*x3*x3*y1*E*E*E*I-d*d*x2*x2*x2*x3*y1*E*E*E*E*I*I+d*x1*x2*x2*x2*x2*x3*E*I*I+d*x1*x2*x2*x2*E*E*I*I*I-d*x1*x2*x2*x2*E*E*I-d*x1*x2*x2*x3*x3*x3*E*E*E-d*x1*x2*x2*x3*E*E*E-d*x1*x2*x3*x3*E*E*E*E*I-d*x2*x2*x2*x2*x3*x3*y1*E*I-d*x2*x2*x2*x3*x3*x3*y1*E*E-d*x2*x2*x2*x3*y1*E*E+d*x2*x2*y1*E*E*E*I*I*I-d*x2*x2*y1*E*E*E*I+d*x2*x3*y1*E*E*E*E*I*I)*(-(x1*x1)+y1*y1-1-d*(x1*x1)*(y1*y1))+(d*d*x1*x1*x2*x2*x3*x3*y1*E*I*I*I-d*d*x1*x1*x2*x3*x3*x3*y1*E*E*I*I-d*d*x1*x2*x2*x3*x3*x3*y1*y1*E*I*I+d*d*x1*x2*x3*x3*y1*y1*E*E*I*I*I-d*x1*x1*x1*x2*x2*x3*E*I*I-d*x1*x1*x1*x2*x3*x3*E*E*I+d*x1*x1*x1*x2*x3*x3*I*I*I+d*x1*x1*x1*x3*x3*x3*E*I*I+d*x1*x1*x2*x2*x3*x3*y1*E*I+d*x1*x1*x2*x3*x3*x3*y1*I*I+d*x1*x1*x2*x3*y1*E*E*I*I+d*x1*x1*x3*x3*y1*E*I*I*I+d*x1*x2*x2*x3*y1*y1*E*I*I-d*x1*x2*x2*x3*E*I*I+d*x1*x2*x3*x3*y1*y1*E*E*I-d*x1*x2*x3*x3*y1*y1*I*I*I-d*x1*x2*x3*x3*E*E*I+d*x1*x2*x3*x3*I*I*I-d*x1*x3*x3*x3*y1*y1*E*I*I+d*x1*x3*x3*x3*E*I*I-d*x2*x2*x3*x3*y1*y1*y1*E*I+d*x2*x2*x3*x3*y1*E*I-d*x2*x3*x3*x3*y1*y1*y1*I*I+d*x2*x3*x3*x3*y1*I*I-d*x2*x3*y1*y1*y1*E*E*I*I+d*x2*x3*y1*E*E*I*I-d*x3*x3*y1*y1*y1*E*I*I*I+d*x3*x3*y1*E*I*I*I+x1*x1*x1*x2*x3*x3*I-x1*x1*x1*x2*I*I*I+x1*x1*x1*x2*I+x1*x1*x1*x3*x3*x3*E-x1*x1*x1*x3*E*I*I+x1*x1*x1*x3*E+x1*x1*x2*x3*x3*x3*y1-x1*x1*x2*x3*y1*I*I+x1*x1*x2*x3*y1+x1*x1*x3*x3*y1*E*I-x1*x1*y1*E*I*I*I+x1*x1*y1*E*I-x1*x2*x3*x3*y1*y1*I+x1*x2*x3*x3*I+x1*x2*y1*y1*I*I*I-x1*x2*y1*y1*I-x1*x2*I*I*I+x1*x2*I-x1*x3*x3*x3*y1*y1*E+x1*x3*x3*x3*E+x1*x3*y1*y1*E*I*I-x1*x3*y1*y1*E-x1*x3*E*I*I+x1*x3*E-x2*x3*x3*x3*y1*y1*y1+x2*x3*x3*x3*y1+x2*x3*y1*y1*y1*I*I-x2*x3*y1*y1*y1-x2*x3*y1*I*I+x2*x3*y1-x3*x3*y1*y1*y1*E*I+x3*x3*y1*E*I+y1*y1*y1*E*I*I*I-y1*y1*y1*E*I-y1*E*I*I*I+y1*E*I)*(-(x2*x2)+E*E-1-d*(x2*x2)*(E*E))+(-d*x1*x1*x2*x2*y1*E*I+d*x1*x1*x2*x3*y1*E*E+d*x1*x2*x2*x3*y1*y1*E-d*x1*x2*y1*y1*E*E*I-x1*x1*x1*x2*x2*x2*I-x1*x1*x1*x2*x2*x3*E+x1*x1*x1*x2*E*E*I-x1*x1*x1*x2*I+x1*x1*x1*x3*E*E*E-x1*x1*x1*x3*E-x1*x1*x2*x2*x2*x3*y1-x1*x1*x2*x2*y1*E*I+x1*x1*x2*x3*y1*E*E-x1*x1*x2*x3*y1+x1*x1*y1*E*E*E*I-x1*x1*y1*E*I+x1*x2*x2*x2*y1*y1*I-x1*x2*x2*x2*I+x1*x2*x2*x3*y1*y1*E-x1*x2*x2*x3*E-x1*x2*y1*y1*E*E*I+x1*x2*y1*y1*I+x1*x2*E*E*I-x1*x2*I-x1*x3*y1*y1*E*E*E+x1*x3*y1*y1*E+x1*x3*E*E*E-x1*x3*E+x2*x2*x2*x3*y1*y1*y1-x2*x2*x2*x3*y1+x2*x2*y1*y1*y1*E*I-x2*x2*y1*E*I-x2*x3*y1*y1*y1*E*E+x2*x3*y1*y1*y1+x2*x3*y1*E*E-x2*x3*y1-y1*y1*y1*E*E*E*I+y1*y1*y1*E*I+y1*E*E*E*I-y1*E*I)*(-(x3*x3)+I*I-1-d*(x3*x3)*(I*I)):=by grobner
include F
def Fld.den{x1 y1 x2 E:Fin n}(h1:On d x1 y1)(Z:On d x2 E)(e:Fin n)(he:e*e=1):d*x1*x2*y1*E≠e:=fun hD=>by
 unfold On at h1 Z
 have h10:=F.one
 have hr:=F.root
 have J:x1≠0:=fun h=>by subst h;grobner
 have I:y1≠0:=fun h=>by subst h;grobner
 have O:x2≠0:=fun h=>by subst h;grobner
 have key:d*(x1*x1)*(y1*y1)*(E*E-x2*x2)=y1*y1-x1*x1:=by grobner
 have Y:(y1+e*i*x1)*(y1+e*i*x1)=d*((x1*y1*(E+i*x2))*(x1*y1*(E+i*x2))):=by grobner
 have U:(y1-e*i*x1)*(y1-e*i*x1)=d*((x1*y1*(E-i*x2))*(x1*y1*(E-i*x2))):=by grobner
 by_cases ha:E+i*x2=0
 ·by_cases hb:E-i*x2=0
  ·have hi:i≠0:=fun h=>by subst h;grobner
   have:(2:Fin n)*(i*x2)=0:=by grobner
   exact F.mul_ne F.two (F.mul_ne hi O) this
  ·exact F.noratio (F.mul_ne (F.mul_ne J I) hb) U
 ·exact F.noratio (F.mul_ne (F.mul_ne J I) ha) Y
def Fld.denP{x1 y1 x2 E:Fin n}(J:On d x1 y1)(I:On d x2 E):1+d*x1*x2*y1*E≠0:=fun h =>
 F.den J I (-1) (by grobner) (by grobner)
def Fld.denM{x1 y1 x2 E:Fin n}(J:On d x1 y1)(I:On d x2 E):1-d*x1*x2*y1*E≠0:=fun h =>
 F.den J I 1 (by grobner) (by grobner)
def BK{x1 y1 x2 E:Fin n}(O:On d x1 y1)(J:On d x2 E){a b:Fin n}(ha:a*(1+d*x1*x2*y1*E)=x1*E+x2*y1)(hb:b*(1-d*x1*x2*y1*E)=y1*E+x1*x2):On d a b:=by
 have hp:=F.denP O J
 have hm:=F.denM O J
 have U : -((x1*E+x2*y1)*(x1*E+x2*y1)*((1-d*x1*x2*y1*E)*(1-d*x1*x2*y1*E)))+(y1*E+x1*x2)*(y1*E+x1*x2)*((1+d*x1*x2*y1*E)*(1+d*x1*x2*y1*E)) =
   ((1+d*x1*x2*y1*E)*(1-d*x1*x2*y1*E))*((1+d*x1*x2*y1*E)*(1-d*x1*x2*y1*E))+d*((x1*E+x2*y1)*(x1*E+x2*y1))*((y1*E+x1*x2)*(y1*E+x1*x2)):=by
  exact iu (pz d x1 y1 x2 E) O.sub J.sub
 unfold On
 have I:=F.mul_ne (F.mul_ne hp hm) (F.mul_ne hp hm)
 refine F.cancel I ?_
 rw[<-ha,<-hb]at U
 generalize 1+d*x1*x2*y1*E=p at *
 generalize 1-d*x1*x2*y1*E=m at *
 clear ha hb hp hm I O J
 grobner
def aF{x1 y1 x2 E x3 I a b a' J u v u' v':Fin n}(h1:On d x1 y1)(Z:On d x2 E)(h3:On d x3 I)
  (ha:a*(1+d*x1*x2*y1*E)=x1*E+x2*y1) (hb:b*(1-d*x1*x2*y1*E)=y1*E+x1*x2)
  (ha':a'*(1+d*x2*x3*E*I)=x2*I+x3*E) (hb':J*(1-d*x2*x3*E*I)=E*I+x2*x3)
  (hu:u*(1+d*a*x3*b*I)=a*I+x3*b) (hv:v*(1-d*a*x3*b*I)=b*I+a*x3)
  (hu':u'*(1+d*x1*a'*y1*J)=x1*J+a'*y1) (hv':v'*(1-d*x1*a'*y1*J)=y1*J+x1*a'):u=u'/\v=v':=by
 have o12:=BK F h1 Z ha hb
 have o23:=BK F Z h3 ha' hb'
 have hp:=F.denP h1 Z
 have hm:=F.denM h1 Z
 have hp':=F.denP Z h3
 have hm':=F.denM Z h3
 have kp:=F.denP o12 h3
 have km:=F.denM o12 h3
 have kp':=F.denP h1 o23
 have km':=F.denM h1 o23
 have e1:=h1.sub
 have e2:=Z.sub
 have e3:=h3.sub
 clear h1 Z h3 o12 o23
 have hX:((x1*E+x2*y1)*(1-d*x1*x2*y1*E)*I+x3*(y1*E+x1*x2)*(1+d*x1*x2*y1*E))*((1+d*x2*x3*E*I)*(1-d*x2*x3*E*I)+d*(x2*I+x3*E)*(E*I+x2*x3)*x1*y1) =
   (x1*(E*I+x2*x3)*(1+d*x2*x3*E*I)+(x2*I+x3*E)*(1-d*x2*x3*E*I)*y1)*((1+d*x1*x2*y1*E)*(1-d*x1*x2*y1*E)+d*(x1*E+x2*y1)*(y1*E+x1*x2)*x3*I):=by
  exact TK (yL d x1 y1 x2 E x3 I) e1 e2 e3
 have hY:((y1*E+x1*x2)*(1+d*x1*x2*y1*E)*I+(x1*E+x2*y1)*(1-d*x1*x2*y1*E)*x3)*((1+d*x2*x3*E*I)*(1-d*x2*x3*E*I)-d*(x2*I+x3*E)*(E*I+x2*x3)*x1*y1) =
   (y1*(E*I+x2*x3)*(1+d*x2*x3*E*I)+x1*(x2*I+x3*E)*(1-d*x2*x3*E*I))*((1+d*x1*x2*y1*E)*(1-d*x1*x2*y1*E)-d*(x1*E+x2*y1)*(y1*E+x1*x2)*x3*I):=by
  exact TK (yK d x1 y1 x2 E x3 I) e1 e2 e3
 clear e1 e2 e3
 rw[<-ha,<-hb,<-ha',<-hb']at hX hY
 have hp2:=F.mul_ne hp hm
 have Y:=F.mul_ne hp' hm'
 generalize 1+d*x1*x2*y1*E=p at *
 generalize 1-d*x1*x2*y1*E=m at *
 generalize 1+d*x2*x3*E*I=O at *
 generalize 1-d*x2*x3*E*I=U at *
 clear ha hb ha' hb' hp hm hp' hm' x2 E
 have f1:a*p*m*I+x3*(b*m)*p=(p*m)*(a*I+x3*b):=by grobner
 have f2:O*U+d*(a'*O)*(J*U)*x1*y1=(O*U)*(1+d*x1*a'*y1*J):=by grobner
 have f3:x1*(J*U)*O+a'*O*U*y1=(O*U)*(x1*J+a'*y1):=by grobner
 have f4:p*m+d*(a*p)*(b*m)*x3*I=(p*m)*(1+d*a*x3*b*I):=by grobner
 have f5:b*m*p*I+a*p*m*x3=(p*m)*(b*I+a*x3):=by grobner
 have f6:O*U-d*(a'*O)*(J*U)*x1*y1=(O*U)*(1-d*x1*a'*y1*J):=by grobner
 have f7:y1*(J*U)*O+x1*(a'*O)*U=(O*U)*(y1*J+x1*a'):=by grobner
 have f8:p*m-d*(a*p)*(b*m)*x3*I=(p*m)*(1-d*a*x3*b*I):=by grobner
 rw[f1,f2,f3,f4,<-hu,<-hu']at hX
 rw[f5,f6,f7,f8,<-hv,<-hv']at hY
 clear f1 f2 f3 f4 f5 f6 f7 f8 hu hu' hv hv'
 generalize 1+d*x1*a'*y1*J=k' at *
 generalize 1+d*a*x3*b*I=k at *
 generalize 1-d*x1*a'*y1*J=l' at *
 generalize 1-d*a*x3*b*I=l at *
 generalize p*m=s at *
 generalize O*U=s' at *
 constructor
 ·refine F.cancel (a:=s*s'*k*k') (F.mul_ne (F.mul_ne (F.mul_ne hp2 Y) kp) kp') ?_
  grobner
 ·refine F.cancel (a:=s*s'*l*l') (F.mul_ne (F.mul_ne (F.mul_ne hp2 Y) km) km') ?_
  grobner
omit F
end
structure Pt(n:Nat)[NeZero n](d:Fin n) where
 x:Fin n
 y:Fin n
 on:On d x y
def Pt.ext{n:Nat}[NeZero n]{d:Fin n}{p q:Pt n d}(I:p.x=q.x)(E:p.y=q.y):p=q:=by
 cases p;cases q;cases I;cases E;rfl
section
variable{n:Nat}[NeZero n]{iv:Fin n->Fin n}{d i:Fin n}(F:Fld n iv d i)
def Pt.zero:Pt n d:=⟨0,1,by unfold On;grobner⟩
def Pt.neg(p:Pt n d):Pt n d:=⟨-p.x,p.y,by have:=p.on;unfold On at *;grobner⟩
def Pt.add(p q:Pt n d):Pt n d :=
 ⟨(p.x*q.y+q.x*p.y)*iv (1+d*p.x*q.x*p.y*q.y),(p.y*q.y+p.x*q.x)*iv (1-d*p.x*q.x*p.y*q.y),
  BK F p.on q.on (by have:=F.inv _ (F.denP p.on q.on);grobner) (by have:=F.inv _ (F.denM p.on q.on);grobner)⟩
def Hy(p q:Pt n d):(Pt.add F p q).x*(1+d*p.x*q.x*p.y*q.y)=p.x*q.y+q.x*p.y:=by
 have:=F.inv _ (F.denP p.on q.on)
 simp only[Pt.add]
 generalize 1+d*p.x*q.x*p.y*q.y=k at *
 grobner
def Hx(p q:Pt n d):(Pt.add F p q).y*(1-d*p.x*q.x*p.y*q.y)=p.y*q.y+p.x*q.x:=by
 have:=F.inv _ (F.denM p.on q.on)
 simp only[Pt.add]
 generalize 1-d*p.x*q.x*p.y*q.y=k at *
 grobner
def add_eq{p q r:Pt n d}(I:r.x*(1+d*p.x*q.x*p.y*q.y)=p.x*q.y+q.x*p.y)(E:r.y*(1-d*p.x*q.x*p.y*q.y)=p.y*q.y+p.x*q.x):Pt.add F p q=r:=by
 apply Pt.ext
 ·apply F.cancel (F.denP p.on q.on)
  rw[<-Hy F]at I
  grobner
 ·apply F.cancel (F.denM p.on q.on)
  rw[<-Hx F]at E
  grobner
def add_comm(p q:Pt n d):Pt.add F p q=Pt.add F q p:=by
 apply add_eq
 ·have:=Hy F q p;grobner
 ·have:=Hx F q p;grobner
def add_zero(p:Pt n d):Pt.add F p Pt.zero=p:=by
 apply add_eq<;>simp only[Pt.zero]<;>grobner
def zero_add(p:Pt n d):Pt.add F Pt.zero p=p:=by rw[add_comm,add_zero]
def add_neg(p:Pt n d):Pt.add F p p.neg=Pt.zero:=by
 have:=p.on
 unfold On at this
 apply add_eq<;>simp only[Pt.zero,Pt.neg]<;>grobner
def add_assoc(p q r:Pt n d):Pt.add F (Pt.add F p q) r=Pt.add F p (Pt.add F q r):=by
 obtain⟨I,E⟩:=aF F p.on q.on r.on (Hy F p q) (Hx F p q) (Hy F q r) (Hx F q r) (Hy F (Pt.add F p q) r) (Hx F (Pt.add F p q) r) (Hy F p (Pt.add F q r)) (Hx F p (Pt.add F q r))
 exact Pt.ext I E
def add_left_cancel{p q r:Pt n d}(h:Pt.add F p q=Pt.add F p r):q=r:=by
 have:Pt.add F p.neg (Pt.add F p q)=Pt.add F p.neg (Pt.add F p r):=by rw[h]
 rwa[<-add_assoc,<-add_assoc,add_comm F p.neg p,add_neg,zero_add,zero_add]at this
def neg_zero:(Pt.zero:Pt n d).neg=Pt.zero:=by
 apply Pt.ext<;>simp only[Pt.neg,Pt.zero]
 grobner
def Lv(a b c e:Pt n d):Pt.add F (Pt.add F a b) (Pt.add F c e)=Pt.add F (Pt.add F a c) (Pt.add F b e):=by
 rw[add_assoc,add_assoc,<-add_assoc F b,add_comm F b c,add_assoc F c]
def neg_add(p q:Pt n d):(Pt.add F p q).neg=Pt.add F p.neg q.neg:=by
 apply add_left_cancel F (p:=Pt.add F p q)
 rw[add_neg,Lv,add_neg,add_neg,add_zero]
def Pt.mul(k:Nat)(p:Pt n d):Pt n d:=match k with
 |0=>Pt.zero
 |k+1=>Pt.add F (Pt.mul k p) p
def mul_add(a b:Nat)(p:Pt n d):Pt.mul F (a+b) p=Pt.add F (Pt.mul F a p) (Pt.mul F b p):=by
 induction b with
 |zero=>rw[ZM,Pt.mul,add_zero]
 |succ b E=>rw[<-QV,Pt.mul,E,Pt.mul,add_assoc]
def mul_one(p:Pt n d):Pt.mul F 1 p=p:=by rw[Pt.mul,Pt.mul,zero_add]
def mul_two(p:Pt n d):Pt.mul F 2 p=Pt.add F p p:=by rw[Pt.mul,mul_one]
def mul_zero(k:Nat):Pt.mul F k (Pt.zero:Pt n d)=Pt.zero:=by
 induction k with
 |zero=>rfl
 |succ k E=>rw[Pt.mul,E,zero_add]
def bP(a b:Nat)(p:Pt n d):Pt.mul F (a*b) p=Pt.mul F a (Pt.mul F b p):=by
 induction a with
 |zero=>rw[KA,Pt.mul,Pt.mul]
 |succ a E=>rw[Nat.succ_mul,mul_add,E,Pt.mul]
def mul_neg(k:Nat)(p:Pt n d):Pt.mul F k p.neg=(Pt.mul F k p).neg:=by
 induction k with
 |zero=>rw[Pt.mul,Pt.mul,neg_zero]
 |succ k E=>rw[Pt.mul,E,Pt.mul,neg_add]
def mul_mod{l:Nat}{p:Pt n d}(E:Pt.mul F l p=Pt.zero)(k:Nat):Pt.mul F (k%l) p=Pt.mul F k p:=by
 have h:Pt.mul F k p=Pt.mul F (l*(k/l)+k%l) p:=by rw[ZK]
 rw[h,mul_add,Zw,bP,E,mul_zero,zero_add]
end
end Go.Cv
namespace Go.NT
section
variable{a f n q k:Nat}
def kO(m a:Nat):∀(f e:Nat),pwf m a f e=pw m a f e
 |0,_=>rfl
 |f+1,e=>by simp only[pwf,pw,kO m a f]
def IC{m e:Nat}(h:e<2^f):pwf m a f e=a^e%m:=by rw[kO,wg m a f e h]
def OO(n q k a f:Nat):Bool:=n==q*k+1&&decide (q*k<2^f)&&pwf n a f (q*k)==1&&T6 (pwf n a f k+n-1) n==1
def Db(J:Pr q)(h:OO n q k a f=true):n=q*k+1/\a^(q*k)%n=1/\T6 (a^k%n+n-1) n=1:=by
 simp only[OO,Jd,beq_iff_eq,decide_eq_true_eq]at h
 obtain⟨⟨⟨Y,U⟩,I⟩,E⟩:=h
 have O:k<2^f:=by
  have:k<=q*k:=Nat.le_mul_of_pos_left k (by have:=J.1;omega)
  omega
 rw[IC U]at I
 rw[IC O]at E
 exact⟨Y,I,E⟩
def Y6(E:Pr q)(h:(OO n q k a f&&decide (2<=n)&&decide (n<q*q))=true):Pr n:=by
 simp only[Jd,decide_eq_true_eq]at h
 obtain⟨O,J,I⟩:=Db E h.1.1
 exact kW h.1.2 E O h.2 J I
def Uy{q2 k2 a2:Nat}(U:Pr q)(E:Pr q2)(h:(OO n q k a f&&OO n q2 k2 a2 f&&decide (2<=n)&&decide (q≠q2)&&decide (n<(q*q2)*(q*q2)))=true):Pr n:=by
 simp only[Jd,decide_eq_true_eq]at h
 obtain⟨h1,Z,Y⟩:=Db U h.1.1.1.1
 obtain⟨O,J,I⟩:=Db E h.1.1.1.2
 exact kV h.1.1.2 U h1 E O h.1.2 h.2 Z Y J I
def pr1:Pr 991:=KQ (f:=30) ww ww (by decide +kernel)
def pr2:Pr 103:=KQ (f:=9) ww ww (by decide +kernel)
def pr3:Pr 8574133:=Uy (q:=991) (k:=8652) (a:=2) (q2:=103) (k2:=83244) (a2:=2) (f:=25) pr1 pr2 (by decide +kernel)
def pr4:Pr 127:=KQ (f:=10) ww ww (by decide +kernel)
def pr5:Pr 1919519569386763:=Uy (q:=8574133) (k:=223873314) (a:=2) (q2:=127) (k2:=15114327318006) (a2:=2) (f:=52) pr3 pr4 (by decide +kernel)
def pr6:Pr 569003:=KQ (f:=753) ww ww (by decide +kernel)
def pr7:Pr 2773320623:=Y6 (q:=569003) (k:=4874) (a:=2) (f:=33) pr6 (by decide +kernel)
def pr8:Pr 72106336199:=Y6 (q:=2773320623) (k:=26) (a:=2) (f:=38) pr7 (by decide +kernel)
def pr9:Pr 75445702479781427272750846543864801:=Uy (q:=1919519569386763) (k:=39304471641247389600) (a:=2) (q2:=72106336199) (k2:=1046311689884858398375200) (a2:=2) (f:=117) pr5 pr8 (by decide +kernel)
def pr10:Pr 430751:=KQ (f:=655) ww ww (by decide +kernel)
def pr11:Pr 4153:=KQ (f:=63) ww ww (by decide +kernel)
def pr12:Pr 31757755568855353:=Uy (q:=430751) (k:=73726481352) (a:=2) (q2:=4153) (k2:=7646943310584) (a2:=2) (f:=56) pr10 pr11 (by decide +kernel)
def pr13:Pr 74058212732561358302231226437062788676166966415465897661863160754340907:=Uy (q:=75445702479781427272750846543864801) (k:=981609426360740691344999861639072106) (a:=2) (q2:=31757755568855353) (k2:=2331972502653487852620185443007392165117953542933313402) (a2:=2) (f:=237) pr9 pr12 (by decide +kernel)
def pr14:Pr 57896044618658097711785492504343953926634992332820282019728792003956564819949:=Y6 (q:=74058212732561358302231226437062788676166966415465897661863160754340907) (k:=781764) (a:=2) (f:=256) pr13 (by decide +kernel)
end
end Go.NT
namespace Go.Fp
open Go.NT Go.Cv
section
variable{a b k:Nat}
def P:Nat:=57896044618658097711785492504343953926634992332820282019728792003956564819949
def BW:P=57896044618658097711785492504343953926634992332820282019728792003956564819949:=rfl
instance:NeZero P:=⟨by decide⟩
def vP:Pr P:=pr14
abbrev Fe:=Fin P
def fp(n:Nat):Fe:=Fin.ofNat P n
def WT(n:Nat):(fp n).val=n%P:=rfl
def RH:fp a=fp b↔a%P=b%P:=by
 constructor
 ·intro h;exact congrArg Fin.val h
 ·intro h;exact Fin.ext h
def Yl(a:Nat):fp (a%P)=fp a:=RH.2 (Vu _ _)
def Vg(a b:Nat):fp (a+b)=fp a+fp b:=Fin.ext (by rw[WT,Fin.val_add,WT,WT,<-Nat.add_mod])
def Kh(a b:Nat):fp (a*b)=fp a*fp b:=Fin.ext (by rw[WT,Fin.val_mul,WT,WT,<-VV])
def bX:fp 0=0:=rfl
def Li:fp 1=1:=rfl
def oG:fp 2=2:=rfl
def y5:fp P=0:=Fin.ext (by rw[WT,Nat.mod_self];rfl)
def bY(k:Nat):fp (k*P)=0:=by rw[Kh,y5];grobner
def oH(h:b<=a):fp (a-b)=fp a-fp b:=by
 have E:=Vg (a-b) b
 rw[Nat.sub_add_cancel h]at E
 grobner
def pow(a:Fe)(k:Nat):Fe:=match k with
 |0=>1
 |k+1=>pow a k*a
def IE(a:Fe):∀k,(pow a k).val=a.val^k%P
 |0=>rfl
 |k+1=>by rw[pow,Fin.val_mul,IE a k,Zn,aO]
def pow_add(a:Fe)(j:Nat):∀k,pow a (j+k)=pow a j*pow a k
 |0=>by rw[ZM];simp only[pow];grobner
 |k+1=>by rw[<-QV,pow,pow_add a j k,pow];grobner
def pow_mul(a:Fe)(j:Nat):∀k,pow a (j*k)=pow (pow a j) k
 |0=>by rw[Nat.mul_zero];rfl
 |k+1=>by rw[Nat.mul_succ,pow_add,pow_mul a j k,pow]
def pow_one(a:Fe):pow a 1=a:=by simp only[pow];grobner
def pow_two(a:Fe):pow a 2=a*a:=by simp only[pow];grobner
def one_pow:∀k,pow 1 k=1
 |0=>rfl
 |k+1=>by rw[pow,one_pow k];grobner
def zero_pow(E:0<k):pow 0 k=0:=by
 obtain⟨j,rfl⟩:∃j,k=j+1:=⟨k-1,by omega⟩
 rw[pow];grobner
def xz(a k:Nat):pow (fp a) k=fp (a^k):=Fin.ext (by rw[IE,WT,WT,<-zT])
def ndvd{a:Fe}(h:a≠0):¬P∣a.val:=fun hd=>by
 have E:=MC hd
 rw[Q6 a.isLt]at E
 exact h (Fin.ext E)
def Rq{a:Fe}(h:a≠0):pow a (P-1)=1:=Fin.ext (by rw[IE,Go.NT.Rq vP (ndvd h)];rfl)
def iv(a:Fe):Fe:=pow a (P-2)
def B4{a:Fe}(h:a≠0):a*iv a=1:=by
 have E:=Rq h
 rw[show P-1=(P-2)+1 from rfl,pow]at E
 unfold iv
 rw[<-E];grobner
def ui:iv 0=0:=zero_pow ww
def dN:Nat:=37095705934669439343138083508754565189542113879843219016388785533085940283555
def iN:Nat:=19681161376707505956807079304988542015446066515923890162744021073123829784752
def d:Fe:=fp dN
def iQ:Fe:=fp iN
def Ai{r f:Nat}(E:k<2^f)(h:pwf P a f k=r):pow (fp a) k=fp r:=by
 rw[xz,<-h,IC E,Yl]
def PG:iQ*iQ = -1:=by
 have h:iQ*iQ+1=0:=by
  unfold iQ
  rw[<-Kh,<-Li,<-Vg]
  exact Fin.ext (by rw[WT];decide +kernel)
 grobner
def WS:(1:Fe)≠0:=fun h=>by
 have:=congrArg Fin.val h
 revert this
 decide +kernel
def wP:(2:Fe)≠0:=fun h=>by
 have:=congrArg Fin.val h
 revert this
 decide +kernel
def Aj(r:Fe):pow (r*r) ((P-1)/2)=1\/r=0:=by
 by_cases h:r=0
 ·exact .inr h
 ·left
  rw[<-pow_two,<-pow_mul,show 2*((P-1)/2)=P-1 from by decide +kernel,Rq h]
def yn:pow d ((P-1)/2)=fp (P-1):=Ai (f:=256) (by decide +kernel) (by decide +kernel)
def nosq(r:Fe):r*r≠d:=fun h=>by
 have J:=yn
 rcases Aj r with E|E
 ·rw[h,J]at E
  have:=congrArg Fin.val E
  revert this
  decide +kernel
 ·subst E
  have I:d=0:=by rw[<-h];grobner
  have:=congrArg Fin.val I
  revert this
  decide +kernel
def fld:Fld P iv d iQ:=⟨fun _ h=>B4 h,ui,WS,wP,PG,nosq⟩
end
end Go.Fp
namespace Go.Ev.YtkbifkljlfmeiaaGreat
open Go Go.Ev
set_option maxRecDepth 100000
section
attribute [local congr] Jw JD Jv JE Jk
variable{x n y x0 x1 x2 x3 x4 V b c a i:Nat}{k:List Nat}{R:Ob}
def NV(hx:x<18446744073709551616)(hy:y<18446744073709551616) :
  Zp T 172 [.int .u64 x,.int .u64 y] []=some (.tuple #[.int .u64 ((x*y/18446744073709551616:Nat):Int),.int .u64 ((x*y%18446744073709551616:Nat):Int)],[],[]):=by
 have key:∀a b:Nat,a=x*y/18446744073709551616->b=x*y%18446744073709551616->(some (.tuple #[.int .u64 (a:Int),.int .u64 (b:Int)],[],[]):Option (Value×List Ob×List Nat))=some (.tuple #[.int .u64 ((x*y/18446744073709551616:Nat):Int),.int .u64 ((x*y%18446744073709551616:Nat):Int)],[],[]):=by
  rintro a b rfl rfl;rfl
 rw[Q9 (fn:=a91) rfl]
 simp only[a91,Qv,quiet,cF,J0,QW,↓pQ,reduceCtorEq,seval,-Qa,cL,cU]
 apply key
 ·have e:x*y=(x/4294967296*(y/4294967296))*18446744073709551616+(x/4294967296*(y%4294967296)+x%4294967296*(y/4294967296))*4294967296+x%4294967296*(y%4294967296):=by
   conv=>lhs;rw[<-ZK x 4294967296,<-ZK y 4294967296]
   generalize x/4294967296=x1
   generalize x%4294967296=x0
   generalize y/4294967296=y1
   generalize y%4294967296=y0
   grind
  have O:x/4294967296<=4294967295:=qr
  have J:x%4294967296<=4294967295:=qr
  have I:y/4294967296<=4294967295:=qr
  have E:y%4294967296<=4294967295:=qr
  have c1:=Xc O I
  have c2:=Xc O E
  have c3:=Xc J I
  have c4:=Xc J E
  rw[e]
  clear e
  generalize x/4294967296*(y/4294967296)=U at *
  generalize x/4294967296*(y%4294967296)=Y at *
  generalize x%4294967296*(y/4294967296)=Z at *
  generalize x%4294967296*(y%4294967296)=p00 at *
  omega
 ·rfl
def wV(n:Nat):Value := .agg #[.int .u64 ((n/18446744073709551616:Nat):Int),.int .u64 ((n%18446744073709551616:Nat):Int)]
def rf_wV(n:Nat):rf (wV n)=true:=rfl
def Cm(hc:c<=1):Zp T 173 [.int .u64 x,.int .u64 y,.int .u64 c] []=some (.tuple #[.int .u64 ((x+y+c)%18446744073709551616:Nat),.int .u64 ((x+y+c)/18446744073709551616:Nat)],[],[]):=by
 rw[Zp.eq_def]
 have J:T.fn 173=none:=rfl
 have I:([.int .u64 (x:Int),.int .u64 (y:Int),.int .u64 (c:Int)]:List Value).all rf=true:=rfl
 have E:T.ext 173 [.int .u64 x,.int .u64 y,.int .u64 c]=some (.tuple #[.int .u64 ((x+y+c)%18446744073709551616:Nat),.int .u64 ((x+y+c)/18446744073709551616:Nat)]):=by
  have O:(c:Int).toNat<=1:=qr
  simp[T,uO,hc]
 rw[J]
 simp only[I,if_true,E,Qk]
def cO(I:x<18446744073709551616)(E:y<18446744073709551616):∃l,Zp T 135 [.int .u64 x,.int .u64 y] []=some (wV (x*y),l,[]):=by
 have h:=NV I E
 have J:∀a b:Int,fillL [Value.int .u64 0,Value.int .u64 0] [(0,1,.int .u64 a),(1,1,.int .u64 b)]=some [.int .u64 a,.int .u64 b]:=fun _ _=>rfl
 apply Zk
 rw[Q9 (fn:=a77) rfl]
 simp only[a77,Qv,quiet,cF,J0,QW,↓pQ,reduceCtorEq,seval,-Qa,cL,cJ,QV,h,J]
 rfl
def gM(J:x<18446744073709551616)(I:y<18446744073709551616)(hn:n+x*y<340282366920938463463374607431768211456):∃l,Zp T 136 [wV n,.int .u64 x,.int .u64 y] []=some (wV (n+x*y),l,[]):=by
 have h:=NV J I
 have O:∀a b:Int,fillL [Value.int .u64 0,Value.int .u64 0] [(0,1,.int .u64 a),(1,1,.int .u64 b)]=some [.int .u64 a,.int .u64 b]:=fun _ _=>rfl
 have E:=Cm (x:=n%18446744073709551616) (y:=x*y%18446744073709551616) (c:=0) ww
 have U:=Cm (x:=n/18446744073709551616) (y:=x*y/18446744073709551616) (c:=(n%18446744073709551616+x*y%18446744073709551616)/18446744073709551616) qr
 simp only[Zx,ZM]at E
 have key:∀(a b:Nat) (l:List Ob),a=(n+x*y)/18446744073709551616->b=(n+x*y)%18446744073709551616->(some (.agg #[.int .u64 (a:Int),.int .u64 (b:Int)],l,[]):Option (Value×List Ob×List Nat))=some (wV (n+x*y),l,[]):=by
  rintro a b l rfl rfl;rfl
 apply Zk
 rw[Q9 (fn:=a78) rfl]
 simp only[wV,a78,Qv,quiet,cF,J0,QW,↓pQ,reduceCtorEq,seval,-Qa,cL,cJ,QV,h,O,E,U]
 apply key
 ·generalize x*y=p at *
  omega
 ·generalize x*y=p at *
  omega
def iD(hn:n<41538374868278621028243970633760768):∃l,Zp T 137 [wV n] []=some (.tuple #[.int .u64 ((n/2251799813685248:Nat):Int),.int .u64 ((n%2251799813685248:Nat):Int)],l,[]):=by
 have key:∀(a b:Nat) (l:List Ob),a=n/2251799813685248->b=n%2251799813685248->(some (.tuple #[.int .u64 (a:Int),.int .u64 (b:Int)],l,[]):Option (Value×List Ob×List Nat))=some (.tuple #[.int .u64 ((n/2251799813685248:Nat):Int),.int .u64 ((n%2251799813685248:Nat):Int)],l,[]):=by
  rintro a b l rfl rfl;rfl
 have E:=fun a b:Nat=>n_or .u64 rfl a b
 apply Zk
 rw[Q9 (fn:=a79) rfl]
 simp only[wV,a79,Qv,quiet,cF,J0,QW,↓pQ,reduceCtorEq,seval,-Qa,cL,cJ,QV,cU,E]
 apply key
 ·have O:n/18446744073709551616<2251799813685248:=qr
  have J:n/18446744073709551616*8192%18446744073709551616%2^IntKind.u64.bits=n/18446744073709551616*2^13:=by
   rw[show(2:Nat)^IntKind.u64.bits=18446744073709551616 from rfl];omega
  have I:n%18446744073709551616/2251799813685248%2^IntKind.u64.bits=n%18446744073709551616/2251799813685248:=by
   rw[show(2:Nat)^IntKind.u64.bits=18446744073709551616 from rfl];omega
  rw[J,I,Yi qr]
  omega
 ·omega
def tI(hn:n+x<340282366920938463463374607431768211456)(J:x<18446744073709551616):∃l,Zp T 138 [wV n,.int .u64 x] []=some (wV (n+x),l,[]):=by
 have I:∀a b:Int,fillL [Value.int .u64 0,Value.int .u64 0] [(0,1,.int .u64 a),(1,1,.int .u64 b)]=some [.int .u64 a,.int .u64 b]:=fun _ _=>rfl
 have E:=Cm (x:=n%18446744073709551616) (y:=x) (c:=0) ww
 simp only[Zx,ZM]at E
 have key:∀(a b:Nat) (l:List Ob),a=(n+x)/18446744073709551616->b=(n+x)%18446744073709551616->(some (.agg #[.int .u64 (a:Int),.int .u64 (b:Int)],l,[]):Option (Value×List Ob×List Nat))=some (wV (n+x),l,[]):=by
  rintro a b l rfl rfl;rfl
 apply Zk
 rw[Q9 (fn:=a80) rfl]
 simp only[wV,a80,Qv,quiet,cF,J0,QW,↓pQ,reduceCtorEq,seval,-Qa,cL,cJ,QV,cU,I,E]
 apply key
 ·omega
 ·omega
def eV(l:List Nat):Value := .agg (ns .u64 l).toArray
def ZY(l:List Nat):rf (eV l)=true:=by
 show(ns .u64 l).toArray.toList.all ZD=true
 rw[show(ns .u64 l).toArray.toList=ns .u64 l from rfl]
 simp[ns,ZD]
def ku(k:IntKind)(l:List Nat):rf (.agg (ns k l).toArray)=true:=by
 show(ns k l).toArray.toList.all ZD=true
 rw[show(ns k l).toArray.toList=ns k l from rfl]
 simp[ns,ZD]
structure El(l:List Nat)(b:Nat):Prop where
 len:l.length=5
 lt:∀x∈l,x<b
def El.five{l:List Nat}{b:Nat}(h:El l b):∃x0 x1 x2 x3 x4,l=[x0,x1,x2,x3,x4]/\x0<b/\x1<b/\x2<b/\x3<b/\x4<b:=by
 obtain⟨I,E⟩:=h
 match l,I with
 |[x0,x1,x2,x3,x4],_=>exact⟨x0,x1,x2,x3,x4,rfl,E _ wd,E _ wd,E _ wd,E _ wd,E _ wd⟩
def El.mk5{x0 x1 x2 x3 x4 b:Nat}(U:x0<b)(O:x1<b)(J:x2<b)(I:x3<b)(E:x4<b):El [x0,x1,x2,x3,x4] b:=⟨rfl,by simp;exact⟨U,O,J,I,E⟩⟩
def v51(l:List Nat):Nat:=num 2251799813685248 l
def fe(l:List Nat):Go.Fp.Fe:=Go.Fp.fp (v51 l)
def Wo(x0 x1 x2 x3 x4:Nat):List Nat :=
 let c0:=x0/2251799813685248
 let c1:=(x1+c0)/2251799813685248
 let c2:=(x2+c1)/2251799813685248
 let E:=(x3+c2)/2251799813685248
 let I:=(x4+E)/2251799813685248
 [x0%2251799813685248+19*I,(x1+c0)%2251799813685248,(x2+c1)%2251799813685248,(x3+c2)%2251799813685248,(x4+E)%2251799813685248]
def DM:∃k,v51 (Wo x0 x1 x2 x3 x4)+k*Go.Fp.P=v51 [x0,x1,x2,x3,x4]:=by
 refine⟨(x4+(x3+(x2+(x1+x0/2251799813685248)/2251799813685248)/2251799813685248)/2251799813685248)/2251799813685248,?_⟩
 simp only[v51,Wo,num,Go.Fp.BW]
 omega
def wB{k:Nat}(h:a+k*Go.Fp.P=b):Go.Fp.fp a=Go.Fp.fp b:=by
 rw[<-h,Go.Fp.Vg,Go.Fp.bY];grobner
def aA(Z:x0<9223372036854775808)(Y:x1<9223372036854775808)(U:x2<9223372036854775808)(O:x3<9223372036854775808)(J:x4<9223372036854775808) :
  ∃l,Zp T 139 [eV [x0,x1,x2,x3,x4]] []=some (eV (Wo x0 x1 x2 x3 x4),l,[]):=by
 have key:∀(a b c d e:Nat) (l:List Ob),[a,b,c,d,e]=Wo x0 x1 x2 x3 x4->(some (.agg [.int .u64 (a:Int),.int .u64 (b:Int),.int .u64 (c:Int),.int .u64 (d:Int),.int .u64 (e:Int)].toArray,l,[]):Option (Value×List Ob×List Nat))=some (eV (Wo x0 x1 x2 x3 x4),l,[]):=by
  intro a b c d e l h
  rw[<-h];rfl
 have hz:Qc 5 (Value.int .u64 0)=[.int .u64 0,.int .u64 0,.int .u64 0,.int .u64 0,.int .u64 0]:=rfl
 apply Zk
 rw[Q9 (fn:=a81) rfl]
 simp only[eV,Yy,Bz,a81,Qv,quiet,cF,J0,QW,↓pQ,reduceCtorEq,seval,-Qa,cL,cJ,QV,cU,hz,Jl,Jf,qb]
 apply key
 simp only[Wo,List.cons.injEq,and_true]
 rw[show x0%18446744073709551616=x0 by omega]
 have b0:x0/2251799813685248<8192:=qr
 have I:x0%2251799813685248<2251799813685248:=qr
 generalize x0/2251799813685248=c0 at *
 generalize x0%2251799813685248=r0 at *
 rw[show(x1+c0)%18446744073709551616=x1+c0 by omega]
 have b1:(x1+c0)/2251799813685248<8192:=qr
 generalize(x1+c0)/2251799813685248=c1 at *
 rw[show(x2+c1)%18446744073709551616=x2+c1 by omega]
 have b2:(x2+c1)/2251799813685248<8192:=qr
 generalize(x2+c1)/2251799813685248=c2 at *
 rw[show(x3+c2)%18446744073709551616=x3+c2 by omega]
 have b3:(x3+c2)/2251799813685248<8192:=qr
 generalize(x3+c2)/2251799813685248=E at *
 rw[show(x4+E)%18446744073709551616=x4+E by omega]
 have b4:(x4+E)/2251799813685248<8192:=qr
 generalize(x4+E)/2251799813685248=c4 at *
 refine⟨by omega,rfl,rfl,rfl,rfl⟩
def tG(B P x0 x1 x2 x3 x4 O y1 J I E:Nat)(h:B*B*B*B*B=P+19) :
  (x0+B*(x1+B*(x2+B*(x3+B*(x4+B*0)))))*(O+B*(y1+B*(J+B*(I+B*(E+B*0))))) =
   (x0*O+19*x1*E+19*x2*I+19*x3*J+19*x4*y1)+B*((x0*y1+x1*O+19*x2*E+19*x3*I+19*x4*J)+B*((x0*J+x1*y1+x2*O+19*x3*E+19*x4*I)+B*((x0*I+x1*J+x2*y1+x3*O+19*x4*E)+B*(x0*E+x1*I+x2*J+x3*y1+x4*O)))) +
   (x1*E+x2*I+x3*J+x4*y1+B*(x2*E+x3*I+x4*J+B*(x3*E+x4*I+B*(x4*E))))*P:=by grind
def Gf(I:x<18446744073709551616)(E:y<18446744073709551616):Zo T 135 [.int .u64 x,.int .u64 y]=some (wV (x*y)):=X6 (cO I E)
def Kb(I:x<18446744073709551616)(E:y<18446744073709551616)(hn:n+x*y<340282366920938463463374607431768211456):Zo T 136 [wV n,.int .u64 x,.int .u64 y]=some (wV (n+x*y)):=X6 (gM I E hn)
def Gh(hn:n<41538374868278621028243970633760768):Zo T 137 [wV n]=some (.tuple #[.int .u64 ((n/2251799813685248:Nat):Int),.int .u64 ((n%2251799813685248:Nat):Int)]):=X6 (iD hn)
def yj(hn:n+x<340282366920938463463374607431768211456)(E:x<18446744073709551616):Zo T 138 [wV n,.int .u64 x]=some (wV (n+x)):=X6 (tI hn E)
def Uz(U:x0<9223372036854775808)(O:x1<9223372036854775808)(J:x2<9223372036854775808)(I:x3<9223372036854775808)(E:x4<9223372036854775808):Zo T 139 [eV [x0,x1,x2,x3,x4]]=some (eV (Wo x0 x1 x2 x3 x4)):=X6 (aA U O J I E)
def Wk{d e:Nat}(ha:a<2^109)(hb:b<2^109)(hc:c<2^109)(hd:d<2^109)(he:e<2^109):a+b+c+d+e<2^112:=qr
def JA(I:x<2^57)(E:y<2^52):x*y<2^109:=by
 rw[show(2:Nat)^109=2^57*2^52 from rfl]
 exact Nat.mul_lt_mul'' I E
def tE{I s1 s2 J E:Nat}(h0:I<2^112)(h1:s1<2^112)(Z:s2<2^112)(Y:J<2^112)(U:E<2^112):∃r,El r (2^52)/\(∃k,v51 r+k*Go.Fp.P=I+2251799813685248*(s1+2251799813685248*(s2+2251799813685248*(J+2251799813685248*E)))) /\
  r=Wo ((19*(E/2251799813685248)+I%2251799813685248)%2251799813685248) (s1%2251799813685248+I/2251799813685248+(19*(E/2251799813685248)+I%2251799813685248)/2251799813685248) (s2%2251799813685248+s1/2251799813685248) (J%2251799813685248+s2/2251799813685248) (E%2251799813685248+J/2251799813685248):=by
 refine⟨_,?_,?_,rfl⟩
 ·simp only[Wo]
  apply El.mk5<;>omega
 ·obtain⟨k,O⟩:=DM (x0:=(19*(E/2251799813685248)+I%2251799813685248)%2251799813685248) (x1:=s1%2251799813685248+I/2251799813685248+(19*(E/2251799813685248)+I%2251799813685248)/2251799813685248) (x2:=s2%2251799813685248+s1/2251799813685248) (x3:=J%2251799813685248+s2/2251799813685248) (x4:=E%2251799813685248+J/2251799813685248)
  refine⟨k+E/2251799813685248,?_⟩
  rw[Zl,<-QV,O]
  simp only[v51,num,Go.Fp.BW]
  omega
def XN{x y:List Nat}(hx:El x (2^52))(hy:El y (2^52)):∃r,Zo T 79 [eV x,eV y]=some (eV r)/\El r (2^52)/\fe r=fe x*fe y:=by
 obtain⟨x0,x1,x2,x3,x4,rfl,a0,a1,a2,a3,a4⟩:=hx.five
 obtain⟨O,y1,J,I,E,rfl,b0,b1,b2,b3,b4⟩:=hy.five
 have m1:19*x1%18446744073709551616=19*x1:=qr
 have m2:19*x2%18446744073709551616=19*x2:=qr
 have m3:19*x3%18446744073709551616=19*x3:=qr
 have m4:19*x4%18446744073709551616=19*x4:=qr
 have t00:=Gf (x:=x0) (y:=O) qr qr
 have p00:x0*O<2^109:=JA qr qr
 have p01:19*x1*E<2^109:=JA qr qr
 have p02:19*x2*I<2^109:=JA qr qr
 have p03:19*x3*J<2^109:=JA qr qr
 have p04:19*x4*y1<2^109:=JA qr qr
 have t01:=Kb (n:=x0*O) (x:=19*x1) (y:=E) qr qr qr
 have t02:=Kb (n:=x0*O+19*x1*E) (x:=19*x2) (y:=I) qr qr qr
 have t03:=Kb (n:=x0*O+19*x1*E+19*x2*I) (x:=19*x3) (y:=J) qr qr qr
 have t04:=Kb (n:=x0*O+19*x1*E+19*x2*I+19*x3*J) (x:=19*x4) (y:=y1) qr qr qr
 have q0:=Wk p00 p01 p02 p03 p04
 have t10:=Gf (x:=x0) (y:=y1) qr qr
 have p10:x0*y1<2^109:=JA qr qr
 have p11:x1*O<2^109:=JA qr qr
 have p12:19*x2*E<2^109:=JA qr qr
 have p13:19*x3*I<2^109:=JA qr qr
 have p14:19*x4*J<2^109:=JA qr qr
 have t11:=Kb (n:=x0*y1) (x:=x1) (y:=O) qr qr qr
 have t12:=Kb (n:=x0*y1+x1*O) (x:=19*x2) (y:=E) qr qr qr
 have t13:=Kb (n:=x0*y1+x1*O+19*x2*E) (x:=19*x3) (y:=I) qr qr qr
 have t14:=Kb (n:=x0*y1+x1*O+19*x2*E+19*x3*I) (x:=19*x4) (y:=J) qr qr qr
 have q1:=Wk p10 p11 p12 p13 p14
 have t20:=Gf (x:=x0) (y:=J) qr qr
 have p20:x0*J<2^109:=JA qr qr
 have p21:x1*y1<2^109:=JA qr qr
 have p22:x2*O<2^109:=JA qr qr
 have p23:19*x3*E<2^109:=JA qr qr
 have p24:19*x4*I<2^109:=JA qr qr
 have t21:=Kb (n:=x0*J) (x:=x1) (y:=y1) qr qr qr
 have t22:=Kb (n:=x0*J+x1*y1) (x:=x2) (y:=O) qr qr qr
 have t23:=Kb (n:=x0*J+x1*y1+x2*O) (x:=19*x3) (y:=E) qr qr qr
 have t24:=Kb (n:=x0*J+x1*y1+x2*O+19*x3*E) (x:=19*x4) (y:=I) qr qr qr
 have q2:=Wk p20 p21 p22 p23 p24
 have t30:=Gf (x:=x0) (y:=I) qr qr
 have p30:x0*I<2^109:=JA qr qr
 have p31:x1*J<2^109:=JA qr qr
 have p32:x2*y1<2^109:=JA qr qr
 have p33:x3*O<2^109:=JA qr qr
 have p34:19*x4*E<2^109:=JA qr qr
 have t31:=Kb (n:=x0*I) (x:=x1) (y:=J) qr qr qr
 have t32:=Kb (n:=x0*I+x1*J) (x:=x2) (y:=y1) qr qr qr
 have t33:=Kb (n:=x0*I+x1*J+x2*y1) (x:=x3) (y:=O) qr qr qr
 have t34:=Kb (n:=x0*I+x1*J+x2*y1+x3*O) (x:=19*x4) (y:=E) qr qr qr
 have q3:=Wk p30 p31 p32 p33 p34
 have t40:=Gf (x:=x0) (y:=E) qr qr
 have p40:x0*E<2^109:=JA qr qr
 have p41:x1*I<2^109:=JA qr qr
 have p42:x2*J<2^109:=JA qr qr
 have p43:x3*y1<2^109:=JA qr qr
 have p44:x4*O<2^109:=JA qr qr
 have t41:=Kb (n:=x0*E) (x:=x1) (y:=I) qr qr qr
 have t42:=Kb (n:=x0*E+x1*I) (x:=x2) (y:=J) qr qr qr
 have t43:=Kb (n:=x0*E+x1*I+x2*J) (x:=x3) (y:=y1) qr qr qr
 have t44:=Kb (n:=x0*E+x1*I+x2*J+x3*y1) (x:=x4) (y:=O) qr qr qr
 have q4:=Wk p40 p41 p42 p43 p44
 obtain⟨r,hr1,⟨k,hr2⟩,hr3⟩:=tE q0 q1 q2 q3 q4
 have d0:=Gh (n:=x0*O+19*x1*E+19*x2*I+19*x3*J+19*x4*y1) qr
 have d1:=Gh (n:=x0*y1+x1*O+19*x2*E+19*x3*I+19*x4*J) qr
 have d2:=Gh (n:=x0*J+x1*y1+x2*O+19*x3*E+19*x4*I) qr
 have d3:=Gh (n:=x0*I+x1*J+x2*y1+x3*O+19*x4*E) qr
 have d4:=Gh (n:=x0*E+x1*I+x2*J+x3*y1+x4*O) qr
 refine⟨r,?_,hr1,?_⟩
 ·rw[hr3]
  clear hr2 hr3
  generalize x0*O+19*x1*E+19*x2*I+19*x3*J+19*x4*y1=U at *
  generalize x0*y1+x1*O+19*x2*E+19*x3*I+19*x4*J=s1 at *
  generalize x0*J+x1*y1+x2*O+19*x3*E+19*x4*I=s2 at *
  generalize x0*I+x1*J+x2*y1+x3*O+19*x4*E=Z at *
  generalize x0*E+x1*I+x2*J+x3*y1+x4*O=Y at *
  have u1:=Gf (x:=19) (y:=Y/2251799813685248) qr qr
  have u2:=yj (n:=19*(Y/2251799813685248)) (x:=U%2251799813685248) qr qr
  have u3:=Gh (n:=19*(Y/2251799813685248)+U%2251799813685248) qr
  have w1:(s1%2251799813685248+U/2251799813685248)%18446744073709551616=s1%2251799813685248+U/2251799813685248:=qr
  have w2:(s1%2251799813685248+U/2251799813685248+(19*(Y/2251799813685248)+U%2251799813685248)/2251799813685248)%18446744073709551616=s1%2251799813685248+U/2251799813685248+(19*(Y/2251799813685248)+U%2251799813685248)/2251799813685248:=qr
  have w3:(s2%2251799813685248+s1/2251799813685248)%18446744073709551616=s2%2251799813685248+s1/2251799813685248:=qr
  have w4:(Z%2251799813685248+s2/2251799813685248)%18446744073709551616=Z%2251799813685248+s2/2251799813685248:=qr
  have w5:(Y%2251799813685248+Z/2251799813685248)%18446744073709551616=Y%2251799813685248+Z/2251799813685248:=qr
  have v1:=Uz (x0:=(19*(Y/2251799813685248)+U%2251799813685248)%2251799813685248) (x1:=s1%2251799813685248+U/2251799813685248+(19*(Y/2251799813685248)+U%2251799813685248)/2251799813685248) (x2:=s2%2251799813685248+s1/2251799813685248) (x3:=Z%2251799813685248+s2/2251799813685248) (x4:=Y%2251799813685248+Z/2251799813685248) qr qr qr qr qr
  simp only[Xo]at u1
  have hz:Qc 5 (Value.int .u64 0)=[.int .u64 0,.int .u64 0,.int .u64 0,.int .u64 0,.int .u64 0]:=rfl
  have hf:∀a b c d e:Int,fillL [Value.int .u64 0,.int .u64 0,.int .u64 0,.int .u64 0,.int .u64 0] [(0,1,.int .u64 a),(1,1,.int .u64 b),(2,1,.int .u64 c),(3,1,.int .u64 d),(4,1,.int .u64 e)]=some [.int .u64 a,.int .u64 b,.int .u64 c,.int .u64 d,.int .u64 e]:=fun _ _ _ _ _=>rfl
  have hf5:∀a b c d e:Int,fillL [Value.int .u64 0,.int .u64 0,.int .u64 0,.int .u64 0,.int .u64 0] [(0,5,.agg [.int .u64 a,.int .u64 b,.int .u64 c,.int .u64 d,.int .u64 e].toArray)]=some [.int .u64 a,.int .u64 b,.int .u64 c,.int .u64 d,.int .u64 e]:=fun _ _ _ _ _=>rfl
  have hr5:∀a b c d e:Int,rf (.agg [.int .u64 a,.int .u64 b,.int .u64 c,.int .u64 d,.int .u64 e].toArray)=true:=fun _ _ _ _ _=>rfl
  have hw:∀n,(wV n).cells.size=2:=fun _=>rfl
  have hw2:∀n,(wV n).cells.toList=[.int .u64 ((n/18446744073709551616:Nat):Int),.int .u64 ((n%18446744073709551616:Nat):Int)]:=fun _=>rfl
  have hw3:∀n,okVar (wV n)=true:=fun _=>rfl
  have hw4:∀n,Value.agg [.int .u64 ((n/18446744073709551616:Nat):Int),.int .u64 ((n%18446744073709551616:Nat):Int)].toArray=wV n:=fun _=>rfl
  simp only[eV,Yy,Bz]at v1 ⊢
  generalize hc:ns .u64 (Wo ((19*(Y/2251799813685248)+U%2251799813685248)%2251799813685248) (s1%2251799813685248+U/2251799813685248+(19*(Y/2251799813685248)+U%2251799813685248)/2251799813685248) (s2%2251799813685248+s1/2251799813685248) (Z%2251799813685248+s2/2251799813685248) (Y%2251799813685248+Z/2251799813685248))=C at *
  have hC:C.length=5:=by rw[<-hc];rfl
  have hCr:rf (.agg C.toArray)=true:=by rw[<-hc];exact ku _ _
  apply Zb (fn:=a51) rfl
  simp only[a51,Qv,quiet,cF,JR,QW,↓pQ,reduceCtorEq,seval,-Qa,cL,cJ,cU,hz,m1,m2,m3,m4,t00,t01,t02,t03,t04,t10,t11,t12,t13,t14,t20,t21,t22,t23,t24,t30,t31,t32,t33,t34,t40,t41,t42,t43,t44,d0,d1,d2,d3,d4,u1,u2,u3,w1,w2,w3,w4,w5,hf,hf5,hr5,v1,rf_wV,hw,hw2,hw3,hw4,hC,hCr]
  rfl
 ·unfold fe
  rw[<-Go.Fp.Kh]
  have h:=tG 2251799813685248 Go.Fp.P x0 x1 x2 x3 x4 O y1 J I E (by rw[Go.Fp.BW])
  have e:v51 [x0,x1,x2,x3,x4]*v51 [O,y1,J,I,E]=v51 r+(k+(x1*E+x2*I+x3*J+x4*y1+2251799813685248*(x2*E+x3*I+x4*J+2251799813685248*(x3*E+x4*I+2251799813685248*(x4*E)))))*Go.Fp.P:=by
   simp only[v51,num]at hr2 h ⊢
   rw[h,<-hr2,QV,<-Zl]
  exact wB e.symm
def Ih{w q s:Nat}(hs:s<w):V/(2^w)^q%2^w/2^s%2=V/2^(w*q+s)%2:=by
 have I:(2:Nat)^w=2^s*2^(w-s):=by rw[<-JU];congr 1;omega
 conv=>lhs;rw[show V/(2^w)^q%2^w=V/(2^w)^q%(2^s*2^(w-s)) from by rw[<-I]]
 have E:(2:Nat)∣2^(w-s):=by
  obtain⟨m,hm⟩:∃m,w-s=m+1:=⟨w-s-1,by omega⟩
  rw[hm,Zn]
  exact Pm 2 _
 rw[Nat.mod_mul_right_div_self,YA _ E,Zc,<-Jj,<-JU]
def OW(V i:Nat):V%2^i+V/2^i%2*2^i=V%2^(i+1):=by
 rw[Nat.mod_pow_succ,Zw (2^i)]
def BQ(V i:Nat):V/2^i%2<2:=Q3 _ ww
def U7(h:n<=b):(2:Int)^min n b=((2^n:Nat):Int):=by rw[Zg h];simp
def To(hn:n<4294967296):Zo T 82 [.int .u32 n]=some (eV [n,0,0,0,0]):=by
 have hz:Qc 5 (Value.int .u64 0)=[.int .u64 0,.int .u64 0,.int .u64 0,.int .u64 0,.int .u64 0]:=rfl
 have I:∀a:Int,fillL [Value.int .u64 0,.int .u64 0,.int .u64 0,.int .u64 0,.int .u64 0] [(0,1,.int .u64 a)]=some [.int .u64 a,.int .u64 0,.int .u64 0,.int .u64 0,.int .u64 0]:=fun _=>rfl
 have E:∀a b c d e:Int,fillL [Value.int .u64 0,.int .u64 0,.int .u64 0,.int .u64 0,.int .u64 0] [(0,5,.agg [.int .u64 a,.int .u64 b,.int .u64 c,.int .u64 d,.int .u64 e].toArray)]=some [.int .u64 a,.int .u64 b,.int .u64 c,.int .u64 d,.int .u64 e]:=fun _ _ _ _ _=>rfl
 have hm:n%18446744073709551616=n:=qr
 apply Zb (fn:=a50) rfl
 simp only[a50,Qv,quiet,cF,JR,QW,↓pQ,reduceCtorEq,seval,-Qa,cL,cJ,cU,hz,I,E,hm,eV,Yy,Bz]
 rfl
def Dm(hn:n<2^52):El [n,0,0,0,0] (2^52):=El.mk5 hn ww ww ww ww
def Dl(n:Nat):fe [n,0,0,0,0]=Go.Fp.fp n:=by simp[fe,v51,num]
def ofX(V i:Nat):List Nat:=dig (2^51) 5 (V%2^i)
def Su(k x:List Nat)(i:Nat)(ex:Env):St:=⟨[(1,.pointer (0:Nat)),(2,.pointer (1:Nat)),(3,.pointer (2:Nat)),(5,.int .i64 i)]++ex,[{c:=u8s k},{c:=ns .u64 [0,0,0,0,0]},{c:=ns .u64 x}],[]⟩
def mW(lk:k.length=32)(xk:∀x∈k,x<256)(hi:i<255) :
  Q4 T 0 CF (Su k (ofX (num 256 k) i) i [])=some (.normal,Su k (ofX (num 256 k) (i+1)) (i+1) []):=by
 obtain⟨b,hb⟩:∃b,k[i/8]?=some b:=⟨_,Qg qr⟩
 have Z:=KL (B:=256) ww xk hb
 have hbc:=ZN hb
 have hlen:(ofX (num 256 k) i).length=5:=Ze _ _ _
 obtain⟨y,O⟩:∃b,(ofX (num 256 k) i)[i/51]?=some b:=⟨_,Qg qr⟩
 have U:=Z4 (k := .u64) O
 have hy':y<2^51:=Vt ww (Qw O)
 have J:b/2^(i%8)%2=num 256 k/2^i%2:=by
  rw[<-Z,show(256:Nat)=2^8 from rfl,Ih (Q3 _ ww),ZK]
 have E:=Ty (w:=51) (m:=5) (q:=i/51) (s:=i%51) (y:=num 256 k/2^i%2) (M:=num 256 k%2^i) qr (Q3 _ ww) (by rw[ZK];exact Q3 _ (Xi ww)) (by
  have h1:=BQ (num 256 k) i
  have h2:(2:Nat)^(i%51)<=2^50:=Zy ww (by have:=Q3 i (by decide:0<51);omega)
  have h3:num 256 k/2^i%2*2^(i%51)<=1*2^50:=Xc qr h2
  omega)
 rw[ZK,OW]at E
 have Y:(dig (2^51) 5 (num 256 k%2^i)).getD (i/51) 0=y:=by rw[Qy];unfold ofX at O;rw[O];rfl
 rw[Y]at E
 have I:=JL .u64 (ofX (num 256 k) i) (i/51) (y|||num 256 k/2^i%2*2^(i%51))
 rw[show(ofX (num 256 k) i).set (i/51) (y|||num 256 k/2^i%2*2^(i%51))=ofX (num 256 k) (i+1) from E]at I
 have hbl:=BQ (num 256 k) i
 have h50:(2:Nat)^(i%51)<=2^50:=Zy ww (by have:=Q3 i (by decide:0<51);omega)
 have hprod:num 256 k/2^i%2*2^(i%51)<=1*2^50:=Xc qr h50
 have s1:(2:Int)^min (i%8) IntKind.u8.bits=((2^(i%8):Nat):Int):=U7 (JH (Q3 _ ww))
 have s2:(2:Int)^min (i%51) IntKind.u64.bits=((2^(i%51):Nat):Int):=U7 (by have:=Q3 i (by decide:0<51);exact JG (JH this) ww)
 have o1:Z3 .or .u64 (y:Int) ((num 256 k/2^i%2*2^(i%51):Nat):Int)=((y|||num 256 k/2^i%2*2^(i%51):Nat):Int):=Kx rfl (by show _<18446744073709551616;omega) (by show _<18446744073709551616;omega)
 have n1:(num 256 k/2^i%2*2^(i%51))%18446744073709551616=num 256 k/2^i%2*2^(i%51):=qr
 have n2:(num 256 k/2^i%2)%18446744073709551616=num 256 k/2^i%2:=qr
 have w1:IntKind.i64.wrap ((i/51:Nat):Int)=((i/51:Nat):Int):=ZC qr
 have w2:IntKind.i64.wrap ((i/8:Nat):Int)=((i/8:Nat):Int):=ZC qr
 have w3:IntKind.i64.wrap ((i+1:Nat):Int)=((i+1:Nat):Int):=ZC qr
 have e1:((i:Int)<255)=True:=wr
 have e2:(((i/51:Nat):Int)<5)=True:=wr
 have e3:(((i/8:Nat):Int)<32)=True:=wr
 have e4:(((i%8:Nat):Int)<0)=False:=ut
 have e5:(((i%51:Nat):Int)<0)=False:=ut
 have e6:i/51+1<=5:=qr
 simp only[Su,CF,Qv,quiet,cF,JR,QW,↓pQ,reduceCtorEq,seval,-Qa,cL,cJ,cU,hbc,U,J,s1,s2,o1,n1,n2,w1,w2,w3,e1,e2,e3,e4,e5,e6,I,QA,hlen]
def mX(lk:k.length=32)(I:∀x∈k,x<256):Zo T 77 [.agg (u8s k).toArray]=some (eV (dig (2^51) 5 (num 256 k%2^255))):=by
 have hz:Qc 5 (Value.int .u64 0)=ns .u64 [0,0,0,0,0]:=rfl
 have hb:=JB (T:=T) (base:=0) (id:=0) (body:=CF) (fun i=>Su k (ofX (num 256 k) i) i []) (s':=Su k (ofX (num 256 k) 255) 255 [(6,.bool false)]) 255 (fun i hi=>mW lk I hi) (by
  simp only[Su,CF,Qv,quiet,cF,JR,QW,↓pQ,reduceCtorEq,seval,-Qa,cL])
 have J:ofX (num 256 k) 0=[0,0,0,0,0]:=by unfold ofX;rw[Jg,Po];decide
 rw[J]at hb
 have hlen:(ofX (num 256 k) 255).length=5:=Ze _ _ _
 rw[show dig (2^51) 5 (num 256 k%2^255)=ofX (num 256 k) 255 from rfl]
 generalize ofX (num 256 k) 255=X at *
 simp only[Su,Qp,Qn,Zx]at hb
 apply Zb (fn:=a49) rfl
 have E:(ns .u64 [0,0,0,0,0]).length=5:=rfl
 simp only[a49,Qv,quiet,cF,JR,QW,↓pQ,reduceCtorEq,seval,-Qa,cL,cJ,hz,hb,eV,E,QA,hlen]
 rfl
def NO:El (dig (2^51) 5 V) (2^52):=⟨Ze _ _ _,fun x E=>by have:=Vt ww E;omega⟩
def A4:v51 (dig (2^51) 5 (V%2^255))=V%2^255:=by
 have h:=Kf (B:=2^51) ww 5 (V%2^255)
 rw[show((2:Nat)^51)^5=2^255 from by rw[<-Jj],Vu]at h
 exact h
def dm(a b:Nat):∃r,a=b*(a/b)+r/\a%b=r/\(0<b->r<b):=⟨a%b,(ZK a b).symm,rfl,fun h=>Q3 _ h⟩
def fS(h0:x0<9223372036854775808)(h1:x1<9223372036854775808)(h2:x2<9223372036854775808)(h3:x3<9223372036854775808)(h4:x4<9223372036854775808) :
  ∃E y1 I O J z0 z1 Z Y U,Wo x0 x1 x2 x3 x4=[E,y1,I,O,J]/\E<9223372036854775808/\y1<9223372036854775808/\I<9223372036854775808/\O<9223372036854775808/\J<9223372036854775808 /\
   Wo E y1 I O J=[z0,z1,Z,Y,U]/\z0<2251799813685248+19/\z1<2251799813685248/\Z<2251799813685248/\Y<2251799813685248/\U<2251799813685248/\(∃k,v51 [z0,z1,Z,Y,U]+k*Go.Fp.P=v51 [x0,x1,x2,x3,x4]):=by
 have key:∀E y1 I O J:Nat,E<2251799813685248+19*8192->y1<2251799813685248->I<2251799813685248->O<2251799813685248->J<2251799813685248->Wo x0 x1 x2 x3 x4=[E,y1,I,O,J] ->
   ∃z0 z1 Z Y U,Wo E y1 I O J=[z0,z1,Z,Y,U]/\z0<2251799813685248+19/\z1<2251799813685248/\Z<2251799813685248/\Y<2251799813685248/\U<2251799813685248/\(∃k,v51 [z0,z1,Z,Y,U]+k*Go.Fp.P=v51 [x0,x1,x2,x3,x4]):=by
  intro E y1 I O J b0 b1 b2 b3 b4 hy
  refine⟨_,_,_,_,_,rfl,?_,Q3 _ ww,Q3 _ ww,Q3 _ ww,Q3 _ ww,?_⟩
  ·have c0:E/2251799813685248<=1:=qr
   have c1:(y1+E/2251799813685248)/2251799813685248<=1:=qr
   have c2:(I+(y1+E/2251799813685248)/2251799813685248)/2251799813685248<=1:=qr
   have c3:(O+(I+(y1+E/2251799813685248)/2251799813685248)/2251799813685248)/2251799813685248<=1:=qr
   generalize(O+(I+(y1+E/2251799813685248)/2251799813685248)/2251799813685248)/2251799813685248=c at *
   rcases ZA E 2251799813685248 with h|h
   ·
    have d0:E/2251799813685248=0:=qr
    have c4:(J+c)/2251799813685248<=1:=qr
    have:=Q3 E (by decide:0<2251799813685248)
    omega
   ·have c4:(J+c)/2251799813685248<=1:=qr
    have:=Q3 E (by decide:0<2251799813685248)
    omega
  ·obtain⟨k1,e1⟩:=DM (x0:=E) (x1:=y1) (x2:=I) (x3:=O) (x4:=J)
   obtain⟨k2,e2⟩:=DM (x0:=x0) (x1:=x1) (x2:=x2) (x3:=x3) (x4:=x4)
   rw[hy]at e2
   refine⟨k1+k2,?_⟩
   rw[Zl,<-QV,<-e2,<-e1]
   rfl
 have c0:x0/2251799813685248<8192:=qr
 have c1:(x1+x0/2251799813685248)/2251799813685248<8192:=qr
 have c2:(x2+(x1+x0/2251799813685248)/2251799813685248)/2251799813685248<8192:=qr
 have c3:(x3+(x2+(x1+x0/2251799813685248)/2251799813685248)/2251799813685248)/2251799813685248<8192:=qr
 have c4:(x4+(x3+(x2+(x1+x0/2251799813685248)/2251799813685248)/2251799813685248)/2251799813685248)/2251799813685248<8192:=qr
 have m0:=Q3 x0 (by decide:0<2251799813685248)
 have m1:=Q3 (x1+x0/2251799813685248) (by decide:0<2251799813685248)
 have m2:=Q3 (x2+(x1+x0/2251799813685248)/2251799813685248) (by decide:0<2251799813685248)
 have m3:=Q3 (x3+(x2+(x1+x0/2251799813685248)/2251799813685248)/2251799813685248) (by decide:0<2251799813685248)
 have m4:=Q3 (x4+(x3+(x2+(x1+x0/2251799813685248)/2251799813685248)/2251799813685248)/2251799813685248) (by decide:0<2251799813685248)
 obtain⟨z0,z1,Z,Y,U,g1,g2⟩:=key _ _ _ _ _ (by
  generalize(x4+(x3+(x2+(x1+x0/2251799813685248)/2251799813685248)/2251799813685248)/2251799813685248)/2251799813685248=c at *
  generalize x0%2251799813685248=r at *
  show r+19*c<_
  omega) m1 m2 m3 m4 rfl
 refine⟨_,_,_,_,_,z0,z1,Z,Y,U,rfl,?_,X9 m1 ww,X9 m2 ww,X9 m3 ww,X9 m4 ww,g1,g2⟩
 generalize(x4+(x3+(x2+(x1+x0/2251799813685248)/2251799813685248)/2251799813685248)/2251799813685248)/2251799813685248=c at *
 generalize x0%2251799813685248=r at *
 show r+19*c<_
 omega
def It(O z1 J I E:Nat):Nat:=(E+(I+(J+(z1+(O+19)/2251799813685248)/2251799813685248)/2251799813685248)/2251799813685248)/2251799813685248
def eU(J z1 I E Z:Nat):List Nat :=
 let Y:=J/2251799813685248
 let U:=(z1+Y)/2251799813685248
 let O:=(I+U)/2251799813685248
 let u3:=(E+O)/2251799813685248
 [J%2251799813685248,(z1+Y)%2251799813685248,(I+U)%2251799813685248,(E+O)%2251799813685248,(Z+u3)%2251799813685248]
def uG{O z1 J I E:Nat}(h0:O<2251799813685248+19)(h1:z1<2251799813685248)(h2:J<2251799813685248)(h3:I<2251799813685248)(h4:E<2251799813685248) :
  It O z1 J I E<=1/\eU (O+19*It O z1 J I E) z1 J I E=dig (2^51) 5 (v51 [O,z1,J,I,E]%Go.Fp.P):=by
 have hc:It O z1 J I E<=1/\((It O z1 J I E=0/\v51 [O,z1,J,I,E]<Go.Fp.P)\/(It O z1 J I E=1/\Go.Fp.P<=v51 [O,z1,J,I,E])):=by
  simp only[It,v51,num,Go.Fp.BW]
  obtain⟨r0,e0,-,l0⟩:=dm (O+19) 2251799813685248
  generalize(O+19)/2251799813685248=t0 at *
  obtain⟨r1,e1,-,l1⟩:=dm (z1+t0) 2251799813685248
  generalize(z1+t0)/2251799813685248=t1 at *
  obtain⟨r2,e2,-,l2⟩:=dm (J+t1) 2251799813685248
  generalize(J+t1)/2251799813685248=t2 at *
  obtain⟨r3,e3,-,l3⟩:=dm (I+t2) 2251799813685248
  generalize(I+t2)/2251799813685248=Z at *
  obtain⟨r4,e4,-,l4⟩:=dm (E+Z) 2251799813685248
  generalize(E+Z)/2251799813685248=t4 at *
  have l0:=l0 ww
  have l1:=l1 ww
  have l2:=l2 ww
  have l3:=l3 ww
  have l4:=l4 ww
  omega
 have hP:=Go.Fp.BW
 obtain⟨hc1,U⟩:=hc
 refine⟨hc1,?_⟩
 generalize It O z1 J I E=c at *
 have hlt:∀x∈eU (O+19*c) z1 J I E,x<2251799813685248:=by
  intro x hx
  simp only[eU,J8,Xl,or_false]at hx
  rcases hx with h|h|h|h|h<;>(rw[h];exact Q3 _ ww)
 have hnum:num 2251799813685248 (eU (O+19*c) z1 J I E)=v51 [O,z1,J,I,E]%Go.Fp.P:=by
  have hV:v51 [O,z1,J,I,E]%Go.Fp.P=v51 [O,z1,J,I,E]-c*Go.Fp.P:=by
   rcases U with⟨Y,g2⟩|⟨Y,g2⟩
   ·rw[Q6 g2,Y];omega
   ·have g3:v51 [O,z1,J,I,E]<Go.Fp.P+Go.Fp.P:=by
     simp only[v51,num,Go.Fp.BW]at *
     omega
    rw[Y,Xa,Nat.mod_eq_sub_mod g2,Q6 qr]
  rw[hV]
  simp only[eU,v51,num,Go.Fp.BW]at U ⊢
  obtain⟨r0,e0,f0,l0⟩:=dm (O+19*c) 2251799813685248
  rw[f0]
  generalize(O+19*c)/2251799813685248=t0 at *
  obtain⟨r1,e1,f1,l1⟩:=dm (z1+t0) 2251799813685248
  rw[f1]
  generalize(z1+t0)/2251799813685248=t1 at *
  obtain⟨r2,e2,f2,l2⟩:=dm (J+t1) 2251799813685248
  rw[f2]
  generalize(J+t1)/2251799813685248=t2 at *
  obtain⟨r3,e3,f3,l3⟩:=dm (I+t2) 2251799813685248
  rw[f3]
  generalize(I+t2)/2251799813685248=Z at *
  obtain⟨r4,e4,f4,l4⟩:=dm (E+Z) 2251799813685248
  rw[f4]
  generalize(E+Z)/2251799813685248=t4 at *
  have l0:=l0 ww
  have l1:=l1 ww
  have l2:=l2 ww
  have l3:=l3 ww
  have l4:=l4 ww
  rcases U with⟨Y,g2⟩|⟨Y,g2⟩<;>subst Y<;>omega
 have h5:=YN (B:=2251799813685248) ww hlt
 rw[hnum]at h5
 exact h5.symm
def byX(V i:Nat):List Nat:=dig (2^8) 32 (V%2^i)
def Lr(x k:List Nat)(R:Ob)(i:Nat)(ex:Env):St:=⟨[(1,.pointer (0:Nat)),(2,.pointer (1:Nat)),(6,.pointer (2:Nat)),(54,.int .i64 i)]++ex,[{c:=ns .u64 x},R,{c:=u8s k}],[]⟩
def pC(hi:i<255) :
  Q4 T 0 Rz (Lr (dig (2^51) 5 V) (byX V i) R i [])=some (.normal,Lr (dig (2^51) 5 V) (byX V (i+1)) R (i+1) []):=by
 obtain⟨b,hb⟩:∃b,(dig (2^51) 5 V)[i/51]?=some b:=⟨_,Qg (by rw[Ze];omega)⟩
 have hbv:V/(2^51)^(i/51)%2^51=b:=by rw[Kc qr]at hb;exact JJ hb
 have hbc:=Z4 (k := .u64) hb
 have hlen:(byX V i).length=32:=Ze _ _ _
 obtain⟨y,O⟩:∃b,(byX V i)[i/8]?=some b:=⟨_,Qg qr⟩
 have U:=ZN O
 have hy':y<2^8:=Vt ww (Qw O)
 have J:b/2^(i%51)%2=V/2^i%2:=by
  rw[<-hbv,Ih (Q3 _ ww),ZK]
 have Y:(2:Nat)^(i%8)<=2^7:=Zy ww (by have:=Q3 i (by decide:0<8);omega)
 have hbl:=BQ V i
 have hprod:V/2^i%2*2^(i%8)<=1*2^7:=Xc qr Y
 have E:=Ty (w:=8) (m:=32) (q:=i/8) (s:=i%8) (y:=V/2^i%2) (M:=V%2^i) qr (Q3 _ ww) (by rw[ZK];exact Q3 _ (Xi ww)) qr
 rw[ZK,OW]at E
 have Z:(dig (2^8) 32 (V%2^i)).getD (i/8) 0=y:=by rw[Qy];unfold byX at O;rw[O];rfl
 rw[Z]at E
 have I:=Xg (byX V i) (i/8) (y|||V/2^i%2*2^(i%8))
 rw[show(byX V i).set (i/8) (y|||V/2^i%2*2^(i%8))=byX V (i+1) from E]at I
 have s1:(2:Int)^min (i%8) IntKind.u8.bits=((2^(i%8):Nat):Int):=U7 (JH (Q3 _ ww))
 have s2:(2:Int)^min (i%51) IntKind.u64.bits=((2^(i%51):Nat):Int):=U7 (by have:=Q3 i (by decide:0<51);exact JG (JH this) ww)
 have o1:Z3 .or .u8 (y:Int) ((V/2^i%2*2^(i%8):Nat):Int)=((y|||V/2^i%2*2^(i%8):Nat):Int):=Kx rfl (by show _<256;omega) (by show _<256;omega)
 have n1:(V/2^i%2*2^(i%8))%256=V/2^i%2*2^(i%8):=qr
 have n2:(V/2^i%2)%256=V/2^i%2:=qr
 have w1:IntKind.i64.wrap ((i/51:Nat):Int)=((i/51:Nat):Int):=ZC qr
 have w2:IntKind.i64.wrap ((i/8:Nat):Int)=((i/8:Nat):Int):=ZC qr
 have w3:IntKind.i64.wrap ((i+1:Nat):Int)=((i+1:Nat):Int):=ZC qr
 have e1:((i:Int)<255)=True:=wr
 have e2:(((i/51:Nat):Int)<5)=True:=wr
 have e3:(((i/8:Nat):Int)<32)=True:=wr
 have e4:(((i%8:Nat):Int)<0)=False:=ut
 have e5:(((i%51:Nat):Int)<0)=False:=ut
 have e6:i/8+1<=32:=qr
 simp only[Lr,Rz,Qv,quiet,cF,JR,QW,↓pQ,reduceCtorEq,seval,-Qa,cL,cJ,cU,hbc,U,J,s1,s2,o1,n1,n2,w1,w2,w3,e1,e2,e3,e4,e5,e6,I,Qq,hlen]
def fW(E:V<2^255):Q4 T 0 (.block 4 (.loop Rz)) (Lr (dig (2^51) 5 V) (dig 256 32 0) R 0 [])=some (.normal,Lr (dig (2^51) 5 V) (dig 256 32 V) R 255 [(55,.bool false)]):=by
 have hb:=JB (T:=T) (base:=0) (id:=4) (body:=Rz) (fun i=>Lr (dig (2^51) 5 V) (byX V i) R i []) (s':=Lr (dig (2^51) 5 V) (byX V 255) R 255 [(55,.bool false)]) 255 (fun i hi=>pC hi) (by
  simp only[Lr,Rz,Qv,quiet,cF,JR,QW,↓pQ,reduceCtorEq,seval,-Qa,cL])
 rw[show byX V 0=dig 256 32 0 from by unfold byX;rw[Jg,Po],show byX V 255=dig 256 32 V from by unfold byX;rw[Q6 E]]at hb
 exact hb
def fV(h0:x0<9223372036854775808)(h1:x1<9223372036854775808)(h2:x2<9223372036854775808)(h3:x3<9223372036854775808)(h4:x4<9223372036854775808) :
  Zo T 97 [eV [x0,x1,x2,x3,x4]]=some (.agg (u8s (dig 256 32 (v51 [x0,x1,x2,x3,x4]%Go.Fp.P))).toArray):=by
 obtain⟨y0,y1,y2,y3,y4,E,z1,I,J,O,hy,a0,a1,a2,a3,a4,hz,b0,b1,b2,b3,b4,⟨kk,hk⟩⟩:=fS h0 h1 h2 h3 h4
 have hV:v51 [x0,x1,x2,x3,x4]%Go.Fp.P=v51 [E,z1,I,J,O]%Go.Fp.P:=by rw[<-hk,Nat.add_mul_mod_self_right]
 obtain⟨hc,Y⟩:=uG b0 b1 b2 b3 b4
 have c1:=Uz h0 h1 h2 h3 h4
 have c2:=Uz a0 a1 a2 a3 a4
 rw[hy]at c1
 rw[hz]at c2
 have hN:v51 [E,z1,I,J,O]%Go.Fp.P<2^255:=X9 (Q3 _ ww) (by rw[Go.Fp.BW];decide)
 have hb:=fW (R:={c:=u8s (dig 256 32 0)}) hN
 rw[hV]
 generalize v51 [E,z1,I,J,O]%Go.Fp.P=N at *
 have U:Qc 32 (Value.int .u8 0)=u8s (dig 256 32 0):=rfl
 have Z:∀a b c d e:Int,rf (.agg [.int .u64 a,.int .u64 b,.int .u64 c,.int .u64 d,.int .u64 e].toArray)=true:=fun _ _ _ _ _=>rfl
 have hlk:(dig 256 32 N).length=32:=Ze _ _ _
 have hl0:(dig 256 32 0).length=32:=rfl
 have f0:(E+19)%18446744073709551616=E+19:=qr
 have f1:(z1+(E+19)/2251799813685248)%18446744073709551616=z1+(E+19)/2251799813685248:=qr
 have f2:(I+(z1+(E+19)/2251799813685248)/2251799813685248)%18446744073709551616=I+(z1+(E+19)/2251799813685248)/2251799813685248:=by
  generalize(z1+(E+19)/2251799813685248)=t at *;omega
 have f3:(J+(I+(z1+(E+19)/2251799813685248)/2251799813685248)/2251799813685248)%18446744073709551616=J+(I+(z1+(E+19)/2251799813685248)/2251799813685248)/2251799813685248:=by
  have:(I+(z1+(E+19)/2251799813685248)/2251799813685248)/2251799813685248<2251799813685248:=qr
  generalize(I+(z1+(E+19)/2251799813685248)/2251799813685248)/2251799813685248=t at *;omega
 have f4:(O+(J+(I+(z1+(E+19)/2251799813685248)/2251799813685248)/2251799813685248)/2251799813685248)%18446744073709551616=O+(J+(I+(z1+(E+19)/2251799813685248)/2251799813685248)/2251799813685248)/2251799813685248:=by
  have:(I+(z1+(E+19)/2251799813685248)/2251799813685248)/2251799813685248<2251799813685248:=qr
  generalize(I+(z1+(E+19)/2251799813685248)/2251799813685248)/2251799813685248=t at *;omega
 have ft:(O+(J+(I+(z1+(E+19)/2251799813685248)/2251799813685248)/2251799813685248)/2251799813685248)/2251799813685248=It E z1 I J O:=rfl
 generalize It E z1 I J O=c at *
 have g0:19*c%18446744073709551616=19*c:=qr
 have g1:(E+19*c)%18446744073709551616=E+19*c:=qr
 have g2:(E+19*c+0)%18446744073709551616=E+19*c:=qr
 have k0:(E+19*c)/2251799813685248<8:=qr
 have g3:(z1+(E+19*c)/2251799813685248)%18446744073709551616=z1+(E+19*c)/2251799813685248:=qr
 have k1:(z1+(E+19*c)/2251799813685248)/2251799813685248<8:=qr
 have g4:(I+(z1+(E+19*c)/2251799813685248)/2251799813685248)%18446744073709551616=I+(z1+(E+19*c)/2251799813685248)/2251799813685248:=by
  generalize(z1+(E+19*c)/2251799813685248)/2251799813685248=t at *;omega
 have k2:(I+(z1+(E+19*c)/2251799813685248)/2251799813685248)/2251799813685248<8:=by
  generalize(z1+(E+19*c)/2251799813685248)/2251799813685248=t at *;omega
 have g5:(J+(I+(z1+(E+19*c)/2251799813685248)/2251799813685248)/2251799813685248)%18446744073709551616=J+(I+(z1+(E+19*c)/2251799813685248)/2251799813685248)/2251799813685248:=by
  generalize(I+(z1+(E+19*c)/2251799813685248)/2251799813685248)/2251799813685248=t at *;omega
 have k3:(J+(I+(z1+(E+19*c)/2251799813685248)/2251799813685248)/2251799813685248)/2251799813685248<8:=by
  generalize(I+(z1+(E+19*c)/2251799813685248)/2251799813685248)/2251799813685248=t at *;omega
 have g6:(O+(J+(I+(z1+(E+19*c)/2251799813685248)/2251799813685248)/2251799813685248)/2251799813685248)%18446744073709551616=O+(J+(I+(z1+(E+19*c)/2251799813685248)/2251799813685248)/2251799813685248)/2251799813685248:=by
  generalize(J+(I+(z1+(E+19*c)/2251799813685248)/2251799813685248)/2251799813685248)/2251799813685248=t at *;omega
 rw[<-Y]at hb
 simp only[eV,Yy,Bz]at c1 c2 ⊢
 simp only[Lr,eU,Yy,Bz,Qp,Qn,Zx]at hb
 apply Zb (fn:=a57) rfl
 have u0:=fun s=>@Jf T 0 CD s
 have u1:=fun s=>@Jf T 0 CE s
 have v0:=fun s=>@Jl T 0 0 (.loop CD) s
 have v1:=fun s=>@Jl T 0 2 (.loop CE) s
 have d0:∀s,Q4 T 0 CD s=Q4 T 0 _ s:=fun s=>congrArg (fun c=>Q4 T 0 c s) CD.eq_1
 have d1:∀s,Q4 T 0 CE s=Q4 T 0 _ s:=fun s=>congrArg (fun c=>Q4 T 0 c s) CE.eq_1
 simp only[a57,Qv,quiet,cF,JR,QW,↓pQ,reduceCtorEq,seval,-Qa,cL,cJ,cU,U,c1,c2,Z,u0,u1,v0,v1,d0,d1,f0,f1,f2,f3,f4,ft,g0,g1,g3,g4,g5,g6,hb,Qq,hlk,hl0]
 rfl
def key_inj{a b:Nat}(ha:a<256^32)(hb:b<256^32):(dig 256 32 a==dig 256 32 b)=decide (a=b):=by
 by_cases h:a=b
 ·subst h;simp
 ·have:¬dig 256 32 a=dig 256 32 b:=fun he=>h (by
   have E:=congrArg (num 256) he
   rwa[Kf ww,Kf ww,Q6 ha,Q6 hb]at E)
  rw[decide_eq_false h,beq_eq_false_iff_ne.2 this]
def P_lt:Go.Fp.P<256^32:=by rw[Go.Fp.BW];decide
def y8(l:List Nat):(fe l).val=v51 l%Go.Fp.P:=rfl
def Gx{l:List Nat}(h:El l (2^52)):Zo T 97 [eV l]=some (.agg (u8s (dig 256 32 (fe l).val)).toArray):=by
 obtain⟨x0,x1,x2,x3,x4,rfl,a0,O,J,I,E⟩:=h.five
 exact fV qr qr qr qr qr
def wC(a:Go.Fp.Fe):a.val<256^32:=X9 a.isLt P_lt
def oT(a b:Go.Fp.Fe):(dig 256 32 a.val==dig 256 32 b.val)=decide (a=b):=by
 rw[key_inj (wC a) (wC b)]
 by_cases h:a=b
 ·subst h;simp
 ·have:¬a.val=b.val:=fun he=>h (Fin.ext he)
  rw[decide_eq_false h,decide_eq_false this]
def QR(l:List Nat):(eV l).cells.toList=ns .u64 l:=rfl
def Zr(l:List Nat):(eV l).cells.size=l.length:=QA _ _
def ZZ(l:List Nat):okVar (eV l)=true:=rfl
def Zi(l:List Nat):Value.agg (ns .u64 l).toArray=eV l:=rfl
def uQ{x y:List Nat}(I:El x (2^52))(E:El y (2^52)):Zo T 143 [eV x,eV y]=some (.bool (decide (fe x=fe y))):=by
 have Y:=Gx I
 have U:=Gx E
 have O:=I.len
 have J:=E.len
 apply Zb (fn:=a55) rfl
 simp only[a55,Qv,quiet,cF,JR,QW,↓pQ,reduceCtorEq,seval,-Qa,cL,cJ,QR,ZZ,Zi,QA,O,J,Y,U,KG,Ze,oT,ZY]
 rfl
def nR{x:List Nat}(E:El x (2^52)):Zo T 85 [eV x]=some (.bool (decide (fe x=0))):=by
 have J:=Gx E
 have I:=E.len
 have O:fillL (Qc 32 (Value.int .u8 0)) []=some (u8s (dig 256 32 (0:Go.Fp.Fe).val)):=rfl
 apply Zb (fn:=a63) rfl
 simp only[a63,Qv,quiet,cF,JR,QW,↓pQ,reduceCtorEq,seval,-Qa,cL,cJ,QR,ZZ,Zi,QA,I,J,O,KG,Ze,oT,ZY]
 rfl
def mY{x:List Nat}(E:El x (2^52)):Zo T 98 [eV x]=some (.bool (decide ((fe x).val%2=1))):=by
 have J:=Gx E
 have I:=E.len
 have O:(u8s (dig 256 32 (fe x).val))[0]?=some (.int .u8 (((fe x).val%256:Nat):Int)):=by
  apply ZN
  rw[Kc ww,Jg,JQ]
 have hm:(fe x).val%256%2=(fe x).val%2:=qr
 have hd:((((fe x).val%2:Nat):Int)==1)=decide ((fe x).val%2=1):=by
  by_cases h:(fe x).val%2=1
  ·rw[h];rfl
  ·have:¬((((fe x).val%2:Nat):Int)=1):=qr
   rw[decide_eq_false h,beq_eq_false_iff_ne.2 this]
 apply Zb (fn:=a58) rfl
 simp only[a58,Qv,quiet,cF,JR,QW,↓pQ,reduceCtorEq,seval,-Qa,cL,cJ,cU,QR,ZZ,Zi,QA,I,J,O,hm,hd,ZY]
 rfl
def OR{k:List Nat}(lk:k.length=32)(I:∀x∈k,x<256):Zo T 78 [.agg (u8s k).toArray]=some (.bool (decide (num 256 k<Go.Fp.P))):=by
 have Z:=mX lk I
 have J:=NO (V:=num 256 k%2^255)
 have Y:=Gx J
 rw[y8,A4]at Y
 have hb:(dig 256 32 (num 256 k%2^255%Go.Fp.P)==k)=decide (num 256 k<Go.Fp.P):=by
  have U:=YN (B:=256) ww I
  rw[lk]at U
  have E:=num_lt I
  rw[lk]at E
  rw[show(dig 256 32 (num 256 k%2^255%Go.Fp.P)==k)=(dig 256 32 (num 256 k%2^255%Go.Fp.P)==dig 256 32 (num 256 k)) from by rw[U]]
  have O:=Go.Fp.BW
  rw[key_inj (X9 (Q3 _ (by rw[O];decide)) P_lt) E]
  by_cases h:num 256 k<Go.Fp.P
  ·rw[decide_eq_true h,Q6 (a:=num 256 k) (by rw[O]at h;omega),Q6 h];simp
  ·rw[decide_eq_false h,decide_eq_false]
   have:=Q3 (num 256 k%2^255) (show 0<Go.Fp.P by rw[O];decide)
   omega
 apply Zb (fn:=a59) rfl
 simp only[a59,Qv,quiet,cF,JR,QW,↓pQ,reduceCtorEq,seval,-Qa,cL,cJ,Qq,lk,Z,Y,KG,Ze,hb,ZY]
 rfl
def cA(Y:x0<2^60)(U:x1<2^60)(O:x2<2^60)(J:x3<2^60)(I:x4<2^60):El (Wo x0 x1 x2 x3 x4) (2^52):=by
 simp only[Wo]
 have c0:x0/2251799813685248<1024:=qr
 have c1:(x1+x0/2251799813685248)/2251799813685248<1024:=qr
 have c2:(x2+(x1+x0/2251799813685248)/2251799813685248)/2251799813685248<1024:=qr
 have c3:(x3+(x2+(x1+x0/2251799813685248)/2251799813685248)/2251799813685248)/2251799813685248<1024:=qr
 have Z:(x4+(x3+(x2+(x1+x0/2251799813685248)/2251799813685248)/2251799813685248)/2251799813685248)/2251799813685248<1024:=qr
 have E:=Q3 x0 (by decide:0<2251799813685248)
 apply El.mk5
 ·generalize(x4+(x3+(x2+(x1+x0/2251799813685248)/2251799813685248)/2251799813685248)/2251799813685248)/2251799813685248=c at *
  omega
 all_goals exact X9 (Q3 _ ww) ww
def cn:fe (Wo x0 x1 x2 x3 x4)=fe [x0,x1,x2,x3,x4]:=by
 obtain⟨k,E⟩:=DM (x0:=x0) (x1:=x1) (x2:=x2) (x3:=x3) (x4:=x4)
 exact wB E
def R7{x y:List Nat}(hx:El x (2^52))(hy:El y (2^52)):∃r,Zo T 81 [eV x,eV y]=some (eV r)/\El r (2^52)/\fe r=fe x-fe y:=by
 obtain⟨x0,x1,x2,x3,x4,rfl,a0,a1,a2,a3,a4⟩:=hx.five
 obtain⟨E,y1,O,J,I,rfl,b0,b1,b2,b3,b4⟩:=hy.five
 refine⟨Wo (x0+(9007199254740988-E)-72) (x1+(9007199254740988-y1)) (x2+(9007199254740988-O)) (x3+(9007199254740988-J)) (x4+(9007199254740988-I)),?_,cA qr qr qr qr qr,?_⟩
 ·have s0:(9007199254740988+(18446744073709551616-E%18446744073709551616))%18446744073709551616=9007199254740988-E:=qr
  have s1:(9007199254740988+(18446744073709551616-y1%18446744073709551616))%18446744073709551616=9007199254740988-y1:=qr
  have s2:(9007199254740988+(18446744073709551616-O%18446744073709551616))%18446744073709551616=9007199254740988-O:=qr
  have s3:(9007199254740988+(18446744073709551616-J%18446744073709551616))%18446744073709551616=9007199254740988-J:=qr
  have s4:(9007199254740988+(18446744073709551616-I%18446744073709551616))%18446744073709551616=9007199254740988-I:=qr
  have t0:(x0+(9007199254740988-E))%18446744073709551616=x0+(9007199254740988-E):=qr
  have t1:(x1+(9007199254740988-y1))%18446744073709551616=x1+(9007199254740988-y1):=qr
  have t2:(x2+(9007199254740988-O))%18446744073709551616=x2+(9007199254740988-O):=qr
  have t3:(x3+(9007199254740988-J))%18446744073709551616=x3+(9007199254740988-J):=qr
  have t4:(x4+(9007199254740988-I))%18446744073709551616=x4+(9007199254740988-I):=qr
  have r0:(x0+(9007199254740988-E)+18446744073709551544)%18446744073709551616=x0+(9007199254740988-E)-72:=qr
  have c1:=Uz (x0:=x0+(9007199254740988-E)-72) (x1:=x1+(9007199254740988-y1)) (x2:=x2+(9007199254740988-O)) (x3:=x3+(9007199254740988-J)) (x4:=x4+(9007199254740988-I)) qr qr qr qr qr
  have hl:(Wo (x0+(9007199254740988-E)-72) (x1+(9007199254740988-y1)) (x2+(9007199254740988-O)) (x3+(9007199254740988-J)) (x4+(9007199254740988-I))).length=5:=rfl
  generalize Wo (x0+(9007199254740988-E)-72) (x1+(9007199254740988-y1)) (x2+(9007199254740988-O)) (x3+(9007199254740988-J)) (x4+(9007199254740988-I))=C at *
  have U:Qc 5 (Value.int .u64 0)=[.int .u64 0,.int .u64 0,.int .u64 0,.int .u64 0,.int .u64 0]:=rfl
  have Z:∀a b c d e:Int,rf (.agg [.int .u64 a,.int .u64 b,.int .u64 c,.int .u64 d,.int .u64 e].toArray)=true:=fun _ _ _ _ _=>rfl
  have u0:=fun s=>@Jf T 0 CC s
  have v0:=fun s=>@Jl T 0 0 (.loop CC) s
  have d0:∀s,Q4 T 0 CC s=Q4 T 0 _ s:=fun s=>congrArg (fun c=>Q4 T 0 c s) CC.eq_1
  have Y:rf (.agg (ns .u64 C).toArray)=true:=ku _ _
  simp only[eV,Yy,Bz]at c1 ⊢
  apply Zb (fn:=a61) rfl
  simp only[a61,Qv,quiet,cF,JR,QW,↓pQ,reduceCtorEq,seval,-Qa,cL,cJ,cU,U,c1,Z,u0,v0,d0,s0,s1,s2,s3,s4,t0,t1,t2,t3,t4,r0,QA,hl,Y]
  rfl
 ·rw[cn]
  have e:v51 [x0+(9007199254740988-E)-72,x1+(9007199254740988-y1),x2+(9007199254740988-O),x3+(9007199254740988-J),x4+(9007199254740988-I)]+v51 [E,y1,O,J,I]=v51 [x0,x1,x2,x3,x4]+4*Go.Fp.P:=by
   simp only[v51,num,Go.Fp.BW]
   omega
  have h:=congrArg Go.Fp.fp e
  rw[Go.Fp.Vg,Go.Fp.Vg,Go.Fp.bY]at h
  unfold fe
  grobner
def FB{x:List Nat}(I:El x (2^52)):∃r,Zo T 86 [eV x]=some (eV r)/\El r (2^52)/\fe r = -fe x:=by
 have hz:=Dm (n:=0) ww
 obtain⟨r,h1,J,Z⟩:=R7 hz I
 refine⟨r,?_,J,?_⟩
 ·have f0:fillL (ns .u64 [0,0,0,0,0]) []=some (ns .u64 [0,0,0,0,0]):=rfl
  have E:Qc 5 (Value.int .u64 0)=ns .u64 [0,0,0,0,0]:=rfl
  have U:=I.len
  have O:=J.len
  have Y:(ns .u64 [0,0,0,0,0]).length=5:=rfl
  apply Zb (fn:=a64) rfl
  simp only[a64,Qv,quiet,cF,JR,QW,↓pQ,reduceCtorEq,seval,-Qa,cL,cJ,f0,E,h1,QR,Zr,ZZ,Zi,QA,Y,U,O,ZY]
  rfl
 ·rw[Z,Dl,Go.Fp.bX];grobner
def P5(x y:List Nat):Ob:={c:=ns .u64 (x++y)}
set_option maxHeartbeats 2000000 in
def WD{H:List Ob}{id:Nat}{x y:List Nat}(hx:El x (2^52))(hy:El y (2^52))(h:H[id]?=some (P5 x y)):∃r s,Zp T 83 [.slice id 2 2] H=some (eV r,H++[{c:=ns .u64 r},{c:=ns .u64 s},{c:=ns .u64 x},{c:=ns .u64 y}],[])/\El r (2^52)/\fe r=fe x+fe y:=by
 have hid:id<H.length:=(Qf.1 h).1
 have hA:∀l,(H++l)[id]?=some (P5 x y):=fun l=>by rw[Qb hid];exact h
 obtain⟨x0,x1,x2,x3,x4,rfl,a0,a1,a2,a3,a4⟩:=hx.five
 obtain⟨O,y1,J,I,E,rfl,b0,b1,b2,b3,b4⟩:=hy.five
 refine⟨Wo (x0+O) (x1+y1) (x2+J) (x3+I) (x4+E),[x0+O,x1+y1,x2+J,x3+I,x4+E],?_,cA qr qr qr qr qr,?_⟩
 ·have s0:(0+x0)%18446744073709551616=x0:=qr
  have s1:(0+x1)%18446744073709551616=x1:=qr
  have s2:(0+x2)%18446744073709551616=x2:=qr
  have s3:(0+x3)%18446744073709551616=x3:=qr
  have s4:(0+x4)%18446744073709551616=x4:=qr
  have q0:x0%18446744073709551616=x0:=qr
  have q1:x1%18446744073709551616=x1:=qr
  have q2:x2%18446744073709551616=x2:=qr
  have q3:x3%18446744073709551616=x3:=qr
  have q4:x4%18446744073709551616=x4:=qr
  have t0:(x0+O)%18446744073709551616=x0+O:=qr
  have t1:(x1+y1)%18446744073709551616=x1+y1:=qr
  have t2:(x2+J)%18446744073709551616=x2+J:=qr
  have t3:(x3+I)%18446744073709551616=x3+I:=qr
  have t4:(x4+E)%18446744073709551616=x4+E:=qr
  have c1:=Uz (x0:=x0+O) (x1:=x1+y1) (x2:=x2+J) (x3:=x3+I) (x4:=x4+E) qr qr qr qr qr
  have hl:(Wo (x0+O) (x1+y1) (x2+J) (x3+I) (x4+E)).length=5:=rfl
  generalize Wo (x0+O) (x1+y1) (x2+J) (x3+I) (x4+E)=C at *
  have U:Qc 5 (Value.int .u64 0)=[.int .u64 0,.int .u64 0,.int .u64 0,.int .u64 0,.int .u64 0]:=rfl
  have Z:∀a b c d e:Int,rf (.agg [.int .u64 a,.int .u64 b,.int .u64 c,.int .u64 d,.int .u64 e].toArray)=true:=fun _ _ _ _ _=>rfl
  have u0:=fun s=>@Jf T H.length C9 s
  have v0:=fun s=>@Jl T H.length 2 (.loop C9) s
  have d0:∀s,Q4 T H.length C9 s=Q4 T H.length _ s:=fun s=>congrArg (fun c=>Q4 T H.length c s) C9.eq_1
  have u1:=fun s=>@Jf T H.length C8 s
  have v1:=fun s=>@Jl T H.length 0 (.loop C8) s
  have d1:∀s,Q4 T H.length C8 s=Q4 T H.length _ s:=fun s=>congrArg (fun c=>Q4 T H.length c s) C8.eq_1
  have Y:rf (.agg (ns .u64 C).toArray)=true:=ku _ _
  have p1:∀a b c d e f g i j k:Value,Q5 5 (ZT 0 [a,b,c,d,e,f,g,i,j,k])=[a,b,c,d,e]:=fun _ _ _ _ _ _ _ _ _ _=>rfl
  have p2:∀a b c d e f g i j k:Value,Q5 5 (ZT 5 [a,b,c,d,e,f,g,i,j,k])=[f,g,i,j,k]:=fun _ _ _ _ _ _ _ _ _ _=>rfl
  simp only[eV,Yy,Bz]at c1 ⊢
  simp only[P5,Qp,Qn,Yy,Bz]at hA h
  rw[Q9 (fn:=a62) rfl]
  simp only[a62,Int.reduceBEq,Qv,quiet,cF,JR,QW,↓pQ,reduceCtorEq,seval,-Qa,cL,cJ,cU,hA,U,c1,Z,u0,v0,d0,u1,v1,d1,p1,p2,q0,q1,q2,q3,q4,t0,t1,t2,t3,t4,QA,hl,Y]
 ·rw[cn]
  have e:v51 [x0+O,x1+y1,x2+J,x3+I,x4+E]=v51 [x0,x1,x2,x3,x4]+v51 [O,y1,J,I,E]:=by
   simp only[v51,num]
   omega
  unfold fe
  rw[e,Go.Fp.Vg]
end
section
attribute [local congr] Jw JD Jv JE Jk
variable{n i id less:Nat}{x o k:List Nat}{H:List Ob}
def part5{a b c:List Nat}(hb:b.length=5)(ha:a.length=n):Q5 5 (ZT n (ns .u64 (a++(b++c))))=ns .u64 b:=by
 simp only[Gn]
 rw[Jh (by rw[QA];omega),ZH (by rw[QA];omega),Qn,Jr (by rw[QA];omega),Qo (by rw[QA];omega)]
def d8{l:List Ob}{r R:List Nat}{cs:List Value}{g:List Ob}(hi:i<n)(hn:n<100)(hx:El x (2^52))(ho:El o (2^52))(hm:Zo T 79 [eV o,eV x]=some (eV r))(hr:El r (2^52))
 (hA:∀l,(H++l)[id]?=some {c:=cs}) (I:(cs.drop (i*5)).take 5=ns .u64 x) (hlen:i*5+5<=cs.length) :
    Q4 T H.length Cx ⟨[(2,.pointer H.length),(3,.pointer (H.length+1:Nat)),(7,.slice id n n),(8,.int .i64 n),(9,.int .i64 i)],H++({c:=ns .u64 R}::{c:=ns .u64 o}::g),[]⟩ =
      some (.normal,⟨[(2,.pointer H.length),(3,.pointer (H.length+1:Nat)),(7,.slice id n n),(8,.int .i64 n),(9,.int .i64 ((i+1:Nat):Int))],H++({c:=ns .u64 R}::{c:=ns .u64 r}::(g++[{c:=ns .u64 x}])),[]⟩):=by
  have E:Qc 5 (Value.int .u64 0)=ns .u64 [0,0,0,0,0]:=rfl
  have Z:(ns .u64 [0,0,0,0,0]).length=5:=rfl
  have Y:=hx.len
  have U:=ho.len
  have O:=hr.len
  have e1:((i:Int)<(n:Int))=True:=wr
  have J:IntKind.i64.wrap ((i:Int)+1)=((i+1:Nat):Int):=ZC (n:=i+1) qr
  simp only[Cx,Qv,quiet,cF,JR,QW,↓pQ,reduceCtorEq,seval,-Qa,cL,cJ,QV,E,hA,I,hlen,hm,QR,Zr,ZZ,Zi,QA,Z,Y,U,O,ZY,e1,J]
def Rj:fe [1,0,0,0,0]=1:=by rw[Dl];rfl
def Rk:El [1,0,0,0,0] (2^52):=Dm ww
def U6{xs:List (List Nat)}(hn:xs.length=n)(hN:n<100)(Y:∀x∈xs,El x (2^52))(h:H[id]?=some {c:=ns .u64 xs.flatten}) :
  ∃r,Zp T 140 [.slice id n n] H=some (eV r,H++({c:=ns .u64 r}::{c:=ns .u64 r}::xs.map fun x=>({c:=ns .u64 x}:Ob)),[])/\El r (2^52)/\fe r=(xs.map fe).foldl (· * ·) 1:=by
 have hid:id<H.length:=(Qf.1 h).1
 have hA:∀l,(H++l)[id]?=some {c:=ns .u64 xs.flatten}:=fun l=>by rw[Qb hid];exact h
 have hfl:∀(U:List (List Nat)),(∀x∈U,El x (2^52))->U.flatten.length=U.length*5:=by
  intro U hy
  induction U with
  |nil=>rfl
  |cons y U ih =>
   rw[QO,Qh,ih (fun x Y=>hy x (by simp[Y])),(hy y wd).len,Zt];omega
 obtain⟨st,hb,r,rfl,E,I⟩:=QM (T:=T) (base:=H.length) (id:=0) (body:=Cx)
  (fun i st=>∃r:List Nat,st=⟨[(2,.pointer H.length),(3,.pointer (H.length+1:Nat)),(7,.slice id n n),(8,.int .i64 n),(9,.int .i64 (i:Nat))],H++({c:=ns .u64 [0,0,0,0,0]}::{c:=ns .u64 r}::((xs.take i).map fun x=>({c:=ns .u64 x}:Ob))),[]⟩/\El r (2^52)/\fe r=((xs.take i).map fe).foldl (· * ·) 1)
  (Q:=fun st=>∃r:List Nat,st=⟨[(2,.pointer H.length),(3,.pointer (H.length+1:Nat)),(7,.slice id n n),(8,.int .i64 n),(9,.int .i64 n),(10,.bool false)],H++({c:=ns .u64 [0,0,0,0,0]}::{c:=ns .u64 r}::(xs.map fun x=>({c:=ns .u64 x}:Ob))),[]⟩/\El r (2^52)/\fe r=(xs.map fe).foldl (· * ·) 1)
  n (s:=⟨[(2,.pointer H.length),(3,.pointer (H.length+1:Nat)),(7,.slice id n n),(8,.int .i64 n),(9,.int .i64 0)],H++[{c:=ns .u64 [0,0,0,0,0]},{c:=ns .u64 [1,0,0,0,0]}],[]⟩) ⟨[1,0,0,0,0],rfl,Rk,Rj⟩
  (fun i st hi hs=>by
   obtain⟨r,rfl,E,I⟩:=hs
   obtain⟨x,J⟩:∃y,xs[i]?=some y:=⟨_,Qg qr⟩
   have O:=Y x (Qw J)
   obtain⟨r',hm,g1,g2⟩:=XN E O
   have hsplit:xs=xs.take i++x::xs.drop (i+1):=by
    have h1:=Qf.1 J
    conv=>lhs;rw[<-Z7 i xs,J4 h1.1,h1.2]
   have htl:(xs.take i).flatten.length=i*5:=by
    rw[hfl _ (fun y hy=>Y y (QG hy)),Q0,Zg qr]
   have hcs:((ns .u64 xs.flatten).drop (i*5)).take 5=ns .u64 x:=by
    conv=>lhs;rw[hsplit,Zz,QO]
    exact part5 O.len htl
   have hb:=d8 (R:=[0,0,0,0,0]) (g:=(xs.take i).map fun x=>({c:=ns .u64 x}:Ob)) (l:=[]) hi hN O E hm g1 hA hcs (by rw[QA,hfl xs Y,hn];omega)
   have Z:xs.take (i+1)=xs.take i++[x]:=by rw[Zh,J];rfl
   refine⟨_,hb,r',?_,g1,?_⟩
   ·rw[Z,XZ];rfl
   ·rw[Z,XZ,List.foldl_append,<-I,g2];rfl)
  (fun st hs=>by
   obtain⟨r,rfl,E,I⟩:=hs
   have e1:((n:Int)<(n:Int))=False:=ut
   have ht:xs.take n=xs:=Qo qr
   rw[ht]at I ⊢
   refine⟨_,?_,r,rfl,E,I⟩
   simp only[Cx,Qv,quiet,cF,JR,QW,↓pQ,reduceCtorEq,seval,-Qa,cL,e1])
 refine⟨r,?_,E,I⟩
 have hz5:Qc 5 (Value.int .u64 0)=ns .u64 [0,0,0,0,0]:=rfl
 have l0:(ns .u64 [0,0,0,0,0]).length=5:=rfl
 have l1:=E.len
 have hs:=To (n:=1) ww
 have l2:([1,0,0,0,0]:List Nat).length=5:=rfl
 simp only[KR]at hs
 rw[Q9 (fn:=a82) rfl]
 simp only[a82,Qv,quiet,cF,JR,QW,↓pQ,reduceCtorEq,seval,-Qa,cL,cJ,QV,hz5,hs,hb,QR,Zr,ZZ,Zi,QA,l0,l1,l2,ZY]
def pwI(x k o:List Nat)(i:Int)(ex:Env):St:=⟨[(2,.pointer (0:Nat)),(3,.pointer (1:Nat)),(4,.pointer (2:Nat)),(5,.pointer (3:Nat)),(6,.int .i64 i)]++ex,[{c:=ns .u64 x},{c:=u8s k},{c:=ns .u64 [0,0,0,0,0]},{c:=ns .u64 o}],[]⟩
def Nv(a:Go.Fp.Fe)(m b:Nat)(hb:b<2):Go.Fp.pow a (2*m+b)=if b=1 then Go.Fp.pow a m*Go.Fp.pow a m*a else Go.Fp.pow a m*Go.Fp.pow a m:=by
 have E:Go.Fp.pow a (2*m)=Go.Fp.pow a m*Go.Fp.pow a m:=by rw[show 2*m=m+m by omega,Go.Fp.pow_add]
 by_cases h:b=1
 ·subst h
  rw[if_pos rfl,Go.Fp.pow,E]
 ·have:b=0:=qr
  subst this
  rw[if_neg ww,ZM,E]
def sm{ex:Env}(hx:El x (2^52))(lk:k.length=32)(xk:∀x∈k,x<256)(hi:i<256)(Y:El o (2^52))(hp:fe o=Go.Fp.pow (fe x) (num 256 k/2^(i+1))) :
  ∃r,Q4 T 0 Ry (pwI x k o i ex)=some (.normal,pwI x k r ((i:Int)-1) [])/\El r (2^52)/\fe r=Go.Fp.pow (fe x) (num 256 k/2^i):=by
 obtain⟨b,hb⟩:∃b,k[i/8]?=some b:=⟨_,Qg qr⟩
 have Z:=KL (B:=256) ww xk hb
 have U:=ZN hb
 have E:b/2^(i%8)%2=num 256 k/2^i%2:=by
  rw[<-Z,show(256:Nat)=2^8 from rfl,Ih (Q3 _ ww),ZK]
 obtain⟨r1,m1,g1,g2⟩:=XN Y Y
 obtain⟨r2,m2,g3,g4⟩:=XN g1 hx
 have hlt:=BQ (num 256 k) i
 have O:num 256 k/2^i=2*(num 256 k/2^(i+1))+num 256 k/2^i%2:=by
  rw[Zn,<-Zc]
  omega
 have hstep:=Nv (fe x) (num 256 k/2^(i+1)) (num 256 k/2^i%2) hlt
 rw[<-O,<-hp]at hstep
 have s1:(2:Int)^min (i%8) IntKind.u8.bits=((2^(i%8):Nat):Int):=U7 (JH (Q3 _ ww))
 have w2:IntKind.i64.wrap ((i/8:Nat):Int)=((i/8:Nat):Int):=ZC qr
 have w3:IntKind.i64.wrap ((i:Int)-1)=(i:Int)-1:=Zd qr qr
 have e1:((0:Int)<=(i:Int))=True:=wr
 have e3:(((i/8:Nat):Int)<32)=True:=wr
 have e4:(((i%8:Nat):Int)<0)=False:=ut
 have l1:=hx.len
 have l2:=Y.len
 have l3:=g1.len
 have l4:=g3.len
 have l0:([0,0,0,0,0]:List Nat).length=5:=rfl
 generalize hB:num 256 k/2^i%2=B at *
 by_cases J:B=1
 ·have I:((B:Int)==1)=true:=by rw[J];rfl
  rw[if_pos J]at hstep
  refine⟨r2,?_,g3,by rw[hstep,g4,g2]⟩
  simp only[pwI,Ry,Qv,quiet,cF,JR,QW,↓pQ,reduceCtorEq,seval,-Qa,cL,cJ,cU,U,E,s1,w2,w3,e1,e3,e4,m1,m2,I,QR,Zr,ZZ,Zi,QA,l1,l2,l3,l4,ZY]
 ·have I:((B:Int)==1)=false:=by
   have:B=0:=qr
   rw[this];rfl
  rw[if_neg J]at hstep
  refine⟨r1,?_,g1,by rw[hstep,g2]⟩
  simp only[pwI,Ry,Qv,quiet,cF,JR,QW,↓pQ,reduceCtorEq,seval,-Qa,cL,cJ,cU,U,E,s1,w2,w3,e1,e3,e4,m1,I,QR,Zr,ZZ,Zi,QA,l2,l3,ZY]
def sw(Z:El x (2^52))(lk:k.length=32)(Y:∀x∈k,x<256):∃r,Zo T 141 [eV x,.agg (u8s k).toArray]=some (eV r)/\El r (2^52)/\fe r=Go.Fp.pow (fe x) (num 256 k):=by
 have hK:=num_lt Y
 rw[lk,show(256:Nat)^32=2^256 from by rw[show(256:Nat)=2^8 from rfl,<-Jj]]at hK
 obtain⟨st,hb,r,rfl,E,O⟩:=QM (T:=T) (base:=0) (id:=0) (body:=Ry)
  (fun j st=>∃r:List Nat,st=pwI x k r ((255:Int)-j) []/\El r (2^52)/\fe r=Go.Fp.pow (fe x) (num 256 k/2^(256-j)))
  (Q:=fun st=>∃r:List Nat,st=pwI x k r (-1) [(9,.bool false)]/\El r (2^52)/\fe r=Go.Fp.pow (fe x) (num 256 k))
  256 (s:=pwI x k [1,0,0,0,0] 255 []) ⟨_,rfl,Rk,by rw[Rj,V8,Xk hK];rfl⟩
  (fun j st hj hs=>by
   obtain⟨r,rfl,U,I⟩:=hs
   obtain⟨i,hi⟩:∃i,256-j=i+1:=⟨255-j,by omega⟩
   rw[hi]at I
   obtain⟨r',g1,g2,g3⟩:=sm (ex:=[]) Z lk Y (i:=i) qr U I
   rw[show(255:Int)-j=(i:Int) by omega]
   refine⟨_,g1,r',?_,g2,?_⟩
   ·rw[show(255:Int)-((j+1:Nat):Int)=(i:Int)-1 by omega]
   ·rw[show 256-(j+1)=i by omega];exact g3)
  (fun st hs=>by
   obtain⟨r,rfl,U,I⟩:=hs
   rw[Qs,Jg,JQ]at I
   have e:((0:Int) <= -1)=False:=ww
   refine⟨_,?_,r,rfl,U,I⟩
   rw[show(255:Int)-((256:Nat):Int) = -1 by omega]
   simp only[pwI,Ry,Qv,quiet,cF,JR,QW,↓pQ,reduceCtorEq,seval,-Qa,cL,e])
 refine⟨r,?_,E,O⟩
 have J:Qc 5 (Value.int .u64 0)=ns .u64 [0,0,0,0,0]:=rfl
 have hs:=To (n:=1) ww
 have l2:([1,0,0,0,0]:List Nat).length=5:=rfl
 have l0:([0,0,0,0,0]:List Nat).length=5:=rfl
 have l1:=Z.len
 have l3:=E.len
 simp only[KR]at hs
 simp only[pwI,Qp,Qn]at hb
 apply Zb (fn:=a83) rfl
 simp only[a83,Qv,quiet,cF,JR,QW,↓pQ,reduceCtorEq,seval,-Qa,cL,cJ,J,hs,hb,QR,Zr,ZZ,Zi,QA,l0,l2,l3,ZY]
 rfl
def onX(i:Nat):List Nat:=dig (2^8) 32 (2^i-1)
def onI(less:Value)(n:Int)(k:List Nat)(i:Nat)(ex:Env):St:=⟨[(1,less),(4,.pointer (0:Nat)),(5,.pointer (1:Nat)),(7,.int .i64 n),(8,.int .i64 i)]++ex,[{c:=u8s (dig 256 32 0)},{c:=u8s k}],[]⟩
def sU{less:Value}(hn:n<=256)(hi:i<n):Q4 T 0 Cw (onI less n (onX i) i [])=some (.normal,onI less n (onX (i+1)) (i+1) []):=by
 have hlen:(onX i).length=32:=Ze _ _ _
 obtain⟨y,J⟩:∃b,(onX i)[i/8]?=some b:=⟨_,Qg qr⟩
 have O:=ZN J
 have hy':y<2^8:=Vt ww (Qw J)
 have U:(2:Nat)^(i%8)<=2^7:=Zy ww (by have:=Q3 i (by decide:0<8);omega)
 have hp:0<(2:Nat)^i:=Xi ww
 have E:=Ty (w:=8) (m:=32) (q:=i/8) (s:=i%8) (y:=1) (M:=2^i-1) qr (Q3 _ ww) (by rw[ZK];omega) qr
 rw[ZK,show 2^i-1+1*2^i=2^(i+1)-1 by rw[Zn];omega]at E
 have Y:(dig (2^8) 32 (2^i-1)).getD (i/8) 0=y:=by rw[Qy];unfold onX at J;rw[J];rfl
 rw[Y,Xa]at E
 have I:=Xg (onX i) (i/8) (y|||2^(i%8))
 rw[show(onX i).set (i/8) (y|||2^(i%8))=onX (i+1) from E]at I
 have s1:(2:Int)^min (i%8) IntKind.u8.bits=((2^(i%8):Nat):Int):=U7 (JH (Q3 _ ww))
 have o1:Z3 .or .u8 (y:Int) ((2^(i%8):Nat):Int)=((y|||2^(i%8):Nat):Int):=Kx rfl (by show _<256;omega) (by show _<256;omega)
 have n1:(2^(i%8))%256=2^(i%8):=Q6 (Ja U ww)
 have w2:IntKind.i64.wrap ((i/8:Nat):Int)=((i/8:Nat):Int):=ZC qr
 have Z:IntKind.i64.wrap ((i+1:Nat):Int)=((i+1:Nat):Int):=ZC qr
 have e1:((i:Int)<(n:Int))=True:=wr
 have e3:(((i/8:Nat):Int)<32)=True:=wr
 have e4:(((i%8:Nat):Int)<0)=False:=ut
 have e6:i/8+1<=32:=qr
 have p1:1*2^(i%8)=2^(i%8):=Xa _
 simp only[onI,Cw,Qv,quiet,cF,JR,QW,↓pQ,reduceCtorEq,seval,-Qa,cL,cJ,cU,O,s1,o1,n1,w2,Z,e1,e3,e4,e6,p1,I,Qq,hlen]
def Sk(hn:n<=256)(h8:8<=n)(hl:less<256):Zo T 142 [.int .i64 n,.int .u8 less]=some (.agg (u8s (dig 256 32 (2^n-1-less))).toArray):=by
 have hb:=JB (T:=T) (base:=0) (id:=0) (body:=Cw) (fun i=>onI (.int .u8 less) n (onX i) i []) (s':=onI (.int .u8 less) n (onX n) n [(9,.bool false)]) n (fun i hi=>sU hn hi) (by
  have e1:((n:Int)<(n:Int))=False:=ut
  simp only[onI,Cw,Qv,quiet,cF,JR,QW,↓pQ,reduceCtorEq,seval,-Qa,cL,e1])
 rw[show onX 0=dig 256 32 0 from rfl]at hb
 have hp8:(256:Nat)<=2^n:=by
  have:=Zy (n:=2) ww h8
  exact this
 have Y:2^n%256=0:=by
  rw[show n=8+(n-8) by omega,JU];exact Nat.mul_mod_right _ _
 have h0:(onX n)[0]?=some 255:=by
  unfold onX
  rw[Kc ww,Jg,JQ]
  congr 1
  omega
 have U:=ZN h0
 have w0:IntKind.u8.wrap (255-(less:Int))=((255-less:Nat):Int):=by rw[wrap_u8];omega
 have E:=Xg (onX n) 0 (255-less)
 have J:(onX n).set 0 (255-less)=dig 256 32 (2^n-1-less):=by
  apply Gu (by rw[Qr];exact Ze _ _ _)
  intro t ht
  by_cases O:t=0
  ·subst O
   rw[Qu (by rw[show(onX n).length=32 from Ze _ _ _];decide),Jg,JQ]
   congr 1
   omega
  ·rw[Ql (Ne.symm O)]
   unfold onX
   rw[Kc ht]
   congr 2
   obtain⟨m,rfl⟩:∃m,t=m+1:=⟨t-1,by omega⟩
   rw[show(2:Nat)^8=256 from rfl,Zn,Zw,<-Zc,<-Zc]
   congr 1
   omega
 rw[J]at E
 simp only[Xo]at U
 have l1:(dig 256 32 (2^n-1-less)).length=32:=Ze _ _ _
 have l2:(onX n).length=32:=Ze _ _ _
 have Z:(dig 256 32 0).length=32:=rfl
 have I:Qc 32 (Value.int .u8 0)=u8s (dig 256 32 0):=rfl
 simp only[onI,Qp,Qn,Zx]at hb
 apply Zb (fn:=a84) rfl
 simp only[a84,Qv,quiet,cF,JR,QW,↓pQ,reduceCtorEq,seval,-Qa,cL,cJ,I,hb,U,w0,E,Qq,l1,l2,Z]
 rfl
def Uw{v:Nat}:∀x∈dig 256 32 v,x<256:=fun _ h=>Vt ww h
def HP(E:El x (2^52))(hn:n<=256)(Y:8<=n)(U:less<256):∃r,Zo T 141 [eV x,.agg (u8s (dig 256 32 (2^n-1-less))).toArray]=some (eV r)/\El r (2^52)/\fe r=Go.Fp.pow (fe x) (2^n-1-less):=by
 obtain⟨r,O,J,I⟩:=sw (k:=dig 256 32 (2^n-1-less)) E (Ze _ _ _) Uw
 refine⟨r,O,J,?_⟩
 rw[I,Kf ww,Q6]
 have Z:(2:Nat)^n<=256^32:=by
  rw[show(256:Nat)^32=2^256 from by rw[show(256:Nat)=2^8 from rfl,<-Jj]]
  exact Zy ww hn
 have:0<(2:Nat)^n:=Xi ww
 omega
def nT(I:El x (2^52)):∃r,Zo T 96 [eV x]=some (eV r)/\El r (2^52)/\fe r=Go.Fp.iv (fe x):=by
 have O:=Sk (n:=255) (less:=20) ww ww ww
 obtain⟨r,h2,J,h4⟩:=HP (n:=255) (less:=20) I ww ww ww
 refine⟨r,?_,J,?_⟩
 ·have E:Qc 5 (Value.int .u64 0)=ns .u64 [0,0,0,0,0]:=rfl
  have Z:([0,0,0,0,0]:List Nat).length=5:=rfl
  have Y:=I.len
  have U:=J.len
  simp only[Xo]at O
  generalize dig 256 32 (2^255-1-20)=K at *
  apply Zb (fn:=a56) rfl
  simp only[a56,Qv,quiet,cF,JR,QW,↓pQ,reduceCtorEq,seval,-Qa,cL,cJ,E,O,h2,QR,Zr,ZZ,Zi,QA,Z,Y,U,ZY]
  rfl
 ·rw[h4]
  unfold Go.Fp.iv
  rw[Go.Fp.BW]
end
end Go.Ev.YtkbifkljlfmeiaaGreat
namespace Go.Ev
section
variable{T:Tab}{b:Nat}
def UE:∀(E o2:List AOper) (s:St) (recs:List Rec),evOps T b (E++o2) s recs=(evOps T b E s recs).bind fun r=>evOps T b o2 r.1 r.2
 |[],o2,s,recs=>by rw[Us];rfl
 |o::E,o2,s,recs=>by
  rw[Qp,KX,KX]
  cases J:guardOf s.env o.guard with
  |none=>rfl
  |some g =>
   cases g with
   |false=>exact UE E o2 _ _
   |true =>
    cases I:Ju T o.op s.env s.h with
    |none=>simp[I]
    |some x =>
     simp only[Qk]
     exact UE E o2 _ _
def UD:∀(ops:List AOper) (s:St) (recs:List Rec) (s':St),steps T b false ops s=some s'->∃m,evOps T b ops s recs=some (s',recs++m)
 |[],s,recs,s',h=>by
  simp only[steps,Qm]at h
  subst h
  exact⟨[],by rw[Us,QF]⟩
 |o::r,s,recs,s',h=>by
  rw[KX]
  unfold steps at h
  cases J:guardOf s.env o.guard with
  |none=>simp only[J]at h;cases h
  |some g =>
   simp only[J]at h
   cases g with
   |false =>
    obtain⟨m,E⟩:=UD r _ (recs++[(some [],[])]) s' h
    exact⟨(some [],[])::m,by rw[E];simp⟩
   |true =>
    cases I:Ju T o.op s.env s.h with
    |none=>simp[I]at h
    |some x =>
     simp only[I,Qk,Bool.false_and,Z6,if_false]at h
     obtain⟨m,E⟩:=UD r _ (recs++[(x.2.2.1,x.2.2.2)]) s' h
     exact⟨(x.2.2.1,x.2.2.2)::m,by simp only[Qk];rw[E];simp⟩
def RC{r1 r2:List Rec}:∀ {pairs:List (Nat×Nat)},(pairs.all fun p=>decide (p.1<r1.length)&&decide (p.2<r1.length))=true->ZO r1 pairs=true->ZO (r1++r2) pairs=true
 |[],_,_=>rfl
 |(i,j)::ps,h,k=>by
  simp only[KC,Jd,decide_eq_true_eq]at h
  simp only[ZO,KC,Jd]at k ⊢
  have E:=RC (r1:=r1) (r2:=r2) (pairs:=ps) h.2 k.2
  simp only[ZO]at E
  refine⟨?_,E⟩
  rw[Qb h.1.1,Qb h.1.2]
  exact k.1
def Vq:List (Nat×Nat)->Nat
 |[]=>0
 |(_,j)::r=>if j+1<=Vq r then Vq r else j+1
def S9:Vq []=0:=rfl
def Og{i j:Nat}{r:List (Nat×Nat)}:Vq ((i,j)::r)=if j+1<=Vq r then Vq r else j+1:=rfl
def IB(T:Tab)(b:Nat)(ops:List AOper)(pairs:List (Nat×Nat))(s:St):Option St :=
 gate ((pairs.all fun p=>decide (p.1<Vq pairs)&&decide (p.2<Vq pairs))=true/\Vq pairs<=ops.length)
  ((steps T b true (ops.take (Vq pairs)) s).bind fun s1=>steps T b false (ops.drop (Vq pairs)) s1)
def d7{ops:List AOper}{pairs:List (Nat×Nat)}{s:St}:IB T b ops pairs s=gate ((pairs.all fun p=>decide (p.1<Vq pairs)&&decide (p.2<Vq pairs))=true/\Vq pairs<=ops.length)
  ((steps T b true (ops.take (Vq pairs)) s).bind fun s1=>steps T b false (ops.drop (Vq pairs)) s1):=Eq.trans rfl rfl
def SM{ops:List AOper}{keep:Option (List Nat)}{p:Nat×Nat}{ps:List (Nat×Nat)}{s:St}:Q4 T b (.region ops keep (p::ps)) s=RB ((IB T b ops (p::ps) s).bind fun s'=>some (.normal,s'.after keep)) (La T b (.region ops keep (p::ps)) s):=by
 cases I:IB T b ops (p::ps) s with
 |none=>rfl
 |some s' =>
  simp only[Qk,RB]
  unfold IB gate at I
  split at I
  ·rename_i hp
   simp only[Option.bind_eq_some_iff]at I
   obtain⟨s1,k1,O⟩:=I
   obtain⟨recs,Z,Y,J⟩:=W8 _ s [] s1 k1 wd
   obtain⟨m,U⟩:=UD _ s1 recs s' O
   simp only[Z9,QH,Q0,Zg hp.2]at J
   rw[VH]
   conv=>lhs;rw[<-Z7 (Vq (p::ps)) ops]
   rw[UE,Z]
   simp only[Qk,U]
   have E:=hp.1
   rw[<-J]at E
   rw[if_pos (RC E (WQ Y E))]
  ·cases I
end
def MU{T:Tab}{b:Nat}{q:Bool}:∀(E o2:List AOper) (s:St),steps T b q (E++o2) s=(steps T b q E s).bind (steps T b q o2)
 |[],o2,s=>rfl
 |o::E,o2,s=>by
  rw[Qp]
  unfold steps
  cases J:guardOf s.env o.guard with
  |none=>rfl
  |some g =>
   cases g with
   |true =>
    simp only
    cases I:Ju T o.op s.env s.h with
    |none=>rfl
    |some x =>
     simp only[Qk]
     split
     ·rfl
     ·exact MU E o2 _
   |false=>exact MU E o2 _
def Bn{T:Tab}{b:Nat}{q:Bool}{Y a2 U O J I E:AOper}{r:List AOper}{s:St}:steps T b q (Y::a2::U::O::J::I::E::r) s=(steps T b q [Y,a2,U,O,J,I] s).bind fun s'=>steps T b q (E::r) s':=by
 rw[<-MU];rfl
def cK:=Qi cF (Qi (@JR) (Qi (@SM) (Qi (@d7) (Qi (@S9) (Qi (@Og) (Qi (@List.take_succ_cons.{0}) (Qi (@Js.{0}) (Qi (@List.drop_succ_cons.{0}) (@List.drop_zero.{0})))))))))
def cW:=Qi cK (Qi cL cJ)
def pW:=Qi pQ (@Bn)
end Go.Ev
namespace Go.Ev.YtkbifkljlfmeiaaGreat
open Go Go.Ev
set_option maxRecDepth 100000
section
attribute [local congr] Jw JD Jv JE Jk
variable{l a b x c y t x1 y1 z1 t1 m o:List Nat}{p q:Go.Cv.Pt Go.Fp.P Go.Fp.d}{n k i id:Nat}{z dd e px py rx ry:Go.Fp.Fe}{cs:List Value}{R:Ob}{H:List Ob}
def Q7(h:cs.length=n):cs.take n=cs:=Qo qr
def pL(x y z t:List Nat):List Nat:=x++(y++(z++t))
def pV(x y z t:List Nat):Value := .agg (ns .u64 (pL x y z t)).toArray
def N8(x y z t:List Nat):(pV x y z t).cells.toList=ns .u64 (pL x y z t):=rfl
def wt(x y z t:List Nat):okVar (pV x y z t)=true:=rfl
def Yh{z:List Nat}{b:Nat}(I:El x b)(E:El y b)(hz:El z b)(ht:El t b):(pL x y z t).length=20:=by
 simp[pL,I.len,E.len,hz.len,ht.len]
def PU{z:List Nat}{b:Nat}(I:El x b)(E:El y b)(hz:El z b)(ht:El t b) :
  Q5 5 (ns .u64 (pL x y z t))=ns .u64 x/\Q5 5 (ZT 5 (ns .u64 (pL x y z t)))=ns .u64 y/\Q5 5 (ZT 10 (ns .u64 (pL x y z t)))=ns .u64 z/\Q5 5 (ZT 15 (ns .u64 (pL x y z t)))=ns .u64 t:=by
 obtain⟨a0,a1,a2,a3,a4,rfl,-⟩:=I.five
 obtain⟨b0,b1,b2,b3,b4,rfl,-⟩:=E.five
 obtain⟨c0,c1,c2,c3,c4,rfl,-⟩:=hz.five
 obtain⟨Z,Y,U,O,J,rfl,-⟩:=ht.five
 exact⟨rfl,rfl,rfl,rfl⟩
def RJ(ha:El a k)(hb:El b k):fillL (Qc 10 (Value.int .u64 0)) [(0,5,eV a),(5,5,eV b)]=some (ns .u64 (a++b)):=by
 obtain⟨a0,a1,Z,Y,U,rfl,-⟩:=ha.five
 obtain⟨b0,O,J,I,E,rfl,-⟩:=hb.five
 rfl
def O0(ha:El a k)(hb:El b k)(hc:El c k):fillL (Qc 15 (Value.int .u64 0)) [(0,5,eV a),(5,5,eV b),(10,5,eV c)]=some (ns .u64 [a,b,c].flatten):=by
 obtain⟨a0,a1,a2,a3,Z,rfl,-⟩:=ha.five
 obtain⟨b0,Y,U,O,J,rfl,-⟩:=hb.five
 obtain⟨c0,c1,c2,I,E,rfl,-⟩:=hc.five
 rfl
def RI{d:List Nat}(ha:El a k)(hb:El b k)(hc:El c k)(hd:El d k):fillL (Qc 20 (Value.int .u64 0)) [(0,5,eV a),(5,5,eV b),(10,5,eV c),(15,5,eV d)]=some (ns .u64 (pL a b c d)):=by
 obtain⟨a0,a1,a2,a3,a4,rfl,-⟩:=ha.five
 obtain⟨b0,b1,b2,b3,b4,rfl,-⟩:=hb.five
 obtain⟨c0,c1,c2,Z,Y,rfl,-⟩:=hc.five
 obtain⟨U,O,J,I,E,rfl,-⟩:=hd.five
 rfl
def bH(a b c d:List Nat):pL a b c d=[a,b,c,d].flatten:=by simp[pL]
def ix:El [2,0,0,0,0] (2^52):=Dm ww
def ir:Zo T 82 [.int .u32 2]=some (eV [2,0,0,0,0]):=To (n:=2) ww
def P4:fe [2,0,0,0,0]=2:=by rw[Dl];rfl
def xC{x2 E J I d:List Nat}(Ex1:El x1 (2^52))(Ey1:El y1 (2^52))(Ez1:El z1 (2^52))(Et1:El t1 (2^52))(Ex2:El x2 (2^52))(Ey2:El E (2^52))(Ez2:El J (2^52))(Et2:El I (2^52))(Ed:El d (2^52)) :
  ∃x y z t,Zo T 95 [pV x1 y1 z1 t1,pV x2 E J I,eV d]=some (pV x y z t)/\El x (2^52)/\El y (2^52)/\El z (2^52)/\El t (2^52) /\
   ∃a b c e:Go.Fp.Fe,a=(fe y1-fe x1)*(fe E-fe x2)/\b=(fe y1+fe x1)*(fe E+fe x2)/\c=1*2*fe d*fe t1*fe I/\e=1*2*fe z1*fe J /\
    fe x=(b-a)*(e-c)/\fe y=(e+c)*(b+a)/\fe z=(e-c)*(e+c)/\fe t=(b-a)*(b+a):=by
 obtain⟨two,O⟩:∃two:List Nat,two=[2,0,0,0,0]:=⟨_,rfl⟩
 have Etwo:El two (2^52):=by rw[O];exact ix
 have vtwo:Zo T 82 [.int .u32 2]=some (eV two):=by rw[O];exact ir
 have ftwo:fe two=2:=by rw[O];exact P4
 clear O
 obtain⟨r1,hr1,Er1,fr1⟩:=R7 Ey1 Ex1
 obtain⟨r2,hr2,Er2,fr2⟩:=R7 Ey2 Ex2
 obtain⟨r3,hr3,Er3,fr3⟩:=XN Er1 Er2
 obtain⟨r4,Y,hr4,Er4,fr4⟩:=WD (H:=[{c:=ns .u64 (pL x1 y1 z1 t1)},{c:=ns .u64 (pL x2 E J I)},{c:=ns .u64 d},{c:=Qc 20 (.int .u64 0)},{c:=ns .u64 r3},{c:=ns .u64 (y1++x1)}]) (id:=5) Ey1 Ex1 rfl
 simp only[Qp,Qn]at hr4
 obtain⟨r5,sr5,hr5,Er5,fr5⟩:=WD (H:=[{c:=ns .u64 (pL x1 y1 z1 t1)},{c:=ns .u64 (pL x2 E J I)},{c:=ns .u64 d},{c:=Qc 20 (.int .u64 0)},{c:=ns .u64 r3},{c:=ns .u64 (y1++x1)},{c:=ns .u64 r4},{c:=ns .u64 Y},{c:=ns .u64 y1},{c:=ns .u64 x1},{c:=ns .u64 (E++x2)}]) (id:=10) Ey2 Ex2 rfl
 simp only[Qp,Qn]at hr5
 obtain⟨r6,hr6,Er6,fr6⟩:=XN Er4 Er5
 obtain⟨U,hr7,Er7,fr7⟩:=U6 (H:=[{c:=ns .u64 (pL x1 y1 z1 t1)},{c:=ns .u64 (pL x2 E J I)},{c:=ns .u64 d},{c:=Qc 20 (.int .u64 0)},{c:=ns .u64 r3},{c:=ns .u64 (y1++x1)},{c:=ns .u64 r4},{c:=ns .u64 Y},{c:=ns .u64 y1},{c:=ns .u64 x1},{c:=ns .u64 (E++x2)},{c:=ns .u64 r5},{c:=ns .u64 sr5},{c:=ns .u64 E},{c:=ns .u64 x2},{c:=ns .u64 r6},{c:=ns .u64 [two,d,t1,I].flatten}]) (id:=16) (n:=4) (xs:=[two,d,t1,I]) rfl ww (by intro w hw;simp only[J8,Xl,or_false]at hw;rcases hw with rfl|rfl|rfl|rfl<;>assumption) rfl
 simp only[Qp,Qn,J9,Xj,XK,Ya]at hr7 fr7
 obtain⟨Z,hr8,Er8,fr8⟩:=U6 (H:=[{c:=ns .u64 (pL x1 y1 z1 t1)},{c:=ns .u64 (pL x2 E J I)},{c:=ns .u64 d},{c:=Qc 20 (.int .u64 0)},{c:=ns .u64 r3},{c:=ns .u64 (y1++x1)},{c:=ns .u64 r4},{c:=ns .u64 Y},{c:=ns .u64 y1},{c:=ns .u64 x1},{c:=ns .u64 (E++x2)},{c:=ns .u64 r5},{c:=ns .u64 sr5},{c:=ns .u64 E},{c:=ns .u64 x2},{c:=ns .u64 r6},{c:=ns .u64 [two,d,t1,I].flatten},{c:=ns .u64 U},{c:=ns .u64 U},{c:=ns .u64 two},{c:=ns .u64 d},{c:=ns .u64 t1},{c:=ns .u64 I},{c:=ns .u64 U},{c:=ns .u64 [two,z1,J].flatten}]) (id:=24) (n:=3) (xs:=[two,z1,J]) rfl ww (by intro w hw;simp only[J8,Xl,or_false]at hw;rcases hw with rfl|rfl|rfl<;>assumption) rfl
 simp only[Qp,Qn,J9,Xj,XK,Ya]at hr8 fr8
 obtain⟨r9,hr9,Er9,fr9⟩:=R7 Er6 Er3
 obtain⟨r10,hr10,Er10,fr10⟩:=R7 Er8 Er7
 obtain⟨r11,sr11,hr11,Er11,fr11⟩:=WD (H:=[{c:=ns .u64 (pL x1 y1 z1 t1)},{c:=ns .u64 (pL x2 E J I)},{c:=ns .u64 d},{c:=Qc 20 (.int .u64 0)},{c:=ns .u64 r3},{c:=ns .u64 (y1++x1)},{c:=ns .u64 r4},{c:=ns .u64 Y},{c:=ns .u64 y1},{c:=ns .u64 x1},{c:=ns .u64 (E++x2)},{c:=ns .u64 r5},{c:=ns .u64 sr5},{c:=ns .u64 E},{c:=ns .u64 x2},{c:=ns .u64 r6},{c:=ns .u64 [two,d,t1,I].flatten},{c:=ns .u64 U},{c:=ns .u64 U},{c:=ns .u64 two},{c:=ns .u64 d},{c:=ns .u64 t1},{c:=ns .u64 I},{c:=ns .u64 U},{c:=ns .u64 [two,z1,J].flatten},{c:=ns .u64 Z},{c:=ns .u64 Z},{c:=ns .u64 two},{c:=ns .u64 z1},{c:=ns .u64 J},{c:=ns .u64 Z},{c:=ns .u64 (Z++U)}]) (id:=31) Er8 Er7 rfl
 simp only[Qp,Qn]at hr11
 obtain⟨r12,sr12,hr12,Er12,fr12⟩:=WD (H:=[{c:=ns .u64 (pL x1 y1 z1 t1)},{c:=ns .u64 (pL x2 E J I)},{c:=ns .u64 d},{c:=Qc 20 (.int .u64 0)},{c:=ns .u64 r3},{c:=ns .u64 (y1++x1)},{c:=ns .u64 r4},{c:=ns .u64 Y},{c:=ns .u64 y1},{c:=ns .u64 x1},{c:=ns .u64 (E++x2)},{c:=ns .u64 r5},{c:=ns .u64 sr5},{c:=ns .u64 E},{c:=ns .u64 x2},{c:=ns .u64 r6},{c:=ns .u64 [two,d,t1,I].flatten},{c:=ns .u64 U},{c:=ns .u64 U},{c:=ns .u64 two},{c:=ns .u64 d},{c:=ns .u64 t1},{c:=ns .u64 I},{c:=ns .u64 U},{c:=ns .u64 [two,z1,J].flatten},{c:=ns .u64 Z},{c:=ns .u64 Z},{c:=ns .u64 two},{c:=ns .u64 z1},{c:=ns .u64 J},{c:=ns .u64 Z},{c:=ns .u64 (Z++U)},{c:=ns .u64 r11},{c:=ns .u64 sr11},{c:=ns .u64 Z},{c:=ns .u64 U},{c:=ns .u64 (r6++r3)}]) (id:=36) Er6 Er3 rfl
 simp only[Qp,Qn]at hr12
 obtain⟨r13,hr13,Er13,fr13⟩:=XN Er9 Er10
 obtain⟨r14,hr14,Er14,fr14⟩:=XN Er11 Er12
 obtain⟨r15,hr15,Er15,fr15⟩:=XN Er10 Er11
 obtain⟨r16,hr16,Er16,fr16⟩:=XN Er9 Er12
 refine⟨r13,r14,r15,r16,?_,Er13,Er14,Er15,Er16,fe r3,fe r6,fe U,fe Z,?_⟩
 ·obtain⟨q10,q11,q12,q13⟩:=PU Ex1 Ey1 Ez1 Et1
  obtain⟨q20,q21,q22,q23⟩:=PU Ex2 Ey2 Ez2 Et2
  have p1:=Yh Ex1 Ey1 Ez1 Et1
  have p2:=Yh Ex2 Ey2 Ez2 Et2
  have p3:=Yh Er13 Er14 Er15 Er16
  have k4:=RI Etwo Ed Et1 Et2
  rw[bH]at k4
  have k3:=O0 Etwo Ez1 Ez2
  have kp:=RI Er13 Er14 Er15 Er16
  have m1:=RJ Ey1 Ex1
  have m2:=RJ Ey2 Ex2
  have m3:=RJ Er8 Er7
  have m4:=RJ Er6 Er3
  have Lx1:=Ex1.len
  have Ly1:=Ey1.len
  have Lz1:=Ez1.len
  have Lt1:=Et1.len
  have Lx2:=Ex2.len
  have Ly2:=Ey2.len
  have Lz2:=Ez2.len
  have Lt2:=Et2.len
  have Ld:=Ed.len
  have Ltwo:=Etwo.len
  have Lr1:=Er1.len
  have Lr2:=Er2.len
  have Lr3:=Er3.len
  have Lr4:=Er4.len
  have Lr5:=Er5.len
  have Lr6:=Er6.len
  have Lr7:=Er7.len
  have Lr8:=Er8.len
  have Lr9:=Er9.len
  have Lr10:=Er10.len
  have Lr11:=Er11.len
  have Lr12:=Er12.len
  have Lr13:=Er13.len
  have Lr14:=Er14.len
  have Lr15:=Er15.len
  have Lr16:=Er16.len
  apply Zb (fn:=a54) rfl
  simp only[a54,Qv,quiet,cW,↓pW,reduceCtorEq,seval,-Qa,Q8,Q7,N8,wt,QR,Zr,ZZ,Zi,ZY,QA,q10,q11,q12,q13,q20,q21,q22,q23,p1,p2,p3,k4,k3,kp,m1,m2,m3,m4,vtwo,hr1,hr2,hr3,hr4,hr5,hr6,hr7,hr8,hr9,hr10,hr11,hr12,hr13,hr14,hr15,hr16,Ld,Lr3,Lr6,Lr7,Lr8,Lr9,Lr10,Lr11,Lr12]
  rfl
 ·refine⟨?_,?_,?_,?_,?_,?_,?_,?_⟩
  ·rw[fr3,fr1,fr2]
  ·rw[fr6,fr4,fr5]
  ·rw[fr7,ftwo]
  ·rw[fr8,ftwo]
  ·rw[fr13,fr9,fr10]
  ·rw[fr14,fr11,fr12]
  ·rw[fr15,fr10,fr11]
  ·rw[fr16,fr9,fr12]
def qW(Ex1:El x1 (2^52))(Ey1:El y1 (2^52))(Ez1:El z1 (2^52))(Et1:El t1 (2^52)) :
  ∃x y z t,Zo T 88 [pV x1 y1 z1 t1]=some (pV x y z t)/\El x (2^52)/\El y (2^52)/\El z (2^52)/\El t (2^52) /\
   ∃a b c h e g f:Go.Fp.Fe,a=fe x1*fe x1/\b=fe y1*fe y1/\c=1*2*fe z1*fe z1/\h=a+b/\e=h-(fe x1+fe y1)*(fe x1+fe y1)/\g=a-b/\f=c+g /\
    fe x=e*f/\fe y=g*h/\fe z=f*g/\fe t=e*h:=by
 obtain⟨two,E⟩:∃two:List Nat,two=[2,0,0,0,0]:=⟨_,rfl⟩
 have Etwo:El two (2^52):=by rw[E];exact ix
 have U:Zo T 82 [.int .u32 2]=some (eV two):=by rw[E];exact ir
 have ftwo:fe two=2:=by rw[E];exact P4
 clear E
 obtain⟨O,hr1,Er1,fr1⟩:=XN Ex1 Ex1
 obtain⟨J,hr2,Er2,fr2⟩:=XN Ey1 Ey1
 obtain⟨I,hr3,Er3,fr3⟩:=U6 (H:=[{c:=ns .u64 (pL x1 y1 z1 t1)},{c:=Qc 20 (.int .u64 0)},{c:=ns .u64 O},{c:=ns .u64 J},{c:=ns .u64 [two,z1,z1].flatten}]) (id:=4) (n:=3) (xs:=[two,z1,z1]) rfl ww (by intro w hw;simp only[J8,Xl,or_false]at hw;rcases hw with rfl|rfl|rfl<;>assumption) rfl
 simp only[Qp,Qn,J9,Xj,XK,Ya]at hr3 fr3
 obtain⟨Z,Y,hr4,Er4,fr4⟩:=WD (H:=[{c:=ns .u64 (pL x1 y1 z1 t1)},{c:=Qc 20 (.int .u64 0)},{c:=ns .u64 O},{c:=ns .u64 J},{c:=ns .u64 [two,z1,z1].flatten},{c:=ns .u64 I},{c:=ns .u64 I},{c:=ns .u64 two},{c:=ns .u64 z1},{c:=ns .u64 z1},{c:=ns .u64 I},{c:=ns .u64 (O++J)}]) (id:=11) Er1 Er2 rfl
 simp only[Qp,Qn]at hr4
 obtain⟨r5,sr5,hr5,Er5,fr5⟩:=WD (H:=[{c:=ns .u64 (pL x1 y1 z1 t1)},{c:=Qc 20 (.int .u64 0)},{c:=ns .u64 O},{c:=ns .u64 J},{c:=ns .u64 [two,z1,z1].flatten},{c:=ns .u64 I},{c:=ns .u64 I},{c:=ns .u64 two},{c:=ns .u64 z1},{c:=ns .u64 z1},{c:=ns .u64 I},{c:=ns .u64 (O++J)},{c:=ns .u64 Z},{c:=ns .u64 Y},{c:=ns .u64 O},{c:=ns .u64 J},{c:=ns .u64 Z},{c:=ns .u64 (x1++y1)}]) (id:=17) Ex1 Ey1 rfl
 simp only[Qp,Qn]at hr5
 obtain⟨r6,hr6,Er6,fr6⟩:=XN Er5 Er5
 obtain⟨r7,hr7,Er7,fr7⟩:=R7 Er4 Er6
 obtain⟨r8,hr8,Er8,fr8⟩:=R7 Er1 Er2
 obtain⟨r9,sr9,hr9,Er9,fr9⟩:=WD (H:=[{c:=ns .u64 (pL x1 y1 z1 t1)},{c:=Qc 20 (.int .u64 0)},{c:=ns .u64 O},{c:=ns .u64 J},{c:=ns .u64 [two,z1,z1].flatten},{c:=ns .u64 I},{c:=ns .u64 I},{c:=ns .u64 two},{c:=ns .u64 z1},{c:=ns .u64 z1},{c:=ns .u64 I},{c:=ns .u64 (O++J)},{c:=ns .u64 Z},{c:=ns .u64 Y},{c:=ns .u64 O},{c:=ns .u64 J},{c:=ns .u64 Z},{c:=ns .u64 (x1++y1)},{c:=ns .u64 r5},{c:=ns .u64 sr5},{c:=ns .u64 x1},{c:=ns .u64 y1},{c:=ns .u64 r5},{c:=ns .u64 r7},{c:=ns .u64 r8},{c:=ns .u64 (I++r8)}]) (id:=25) Er3 Er8 rfl
 simp only[Qp,Qn]at hr9
 obtain⟨r10,hr10,Er10,fr10⟩:=XN Er7 Er9
 obtain⟨r11,hr11,Er11,fr11⟩:=XN Er8 Er4
 obtain⟨r12,hr12,Er12,fr12⟩:=XN Er9 Er8
 obtain⟨r13,hr13,Er13,fr13⟩:=XN Er7 Er4
 refine⟨r10,r11,r12,r13,?_,Er10,Er11,Er12,Er13,fe O,fe J,fe I,fe Z,fe r7,fe r8,fe r9,?_⟩
 ·obtain⟨q10,q11,q12,q13⟩:=PU Ex1 Ey1 Ez1 Et1
  have p1:=Yh Ex1 Ey1 Ez1 Et1
  have p3:=Yh Er10 Er11 Er12 Er13
  have k3:=O0 Etwo Ez1 Ez1
  have kp:=RI Er10 Er11 Er12 Er13
  have m1:=RJ Er1 Er2
  have m2:=RJ Ex1 Ey1
  have m3:=RJ Er3 Er8
  have Lx1:=Ex1.len
  have Ly1:=Ey1.len
  have Lz1:=Ez1.len
  have Lt1:=Et1.len
  have Ltwo:=Etwo.len
  have Lr1:=Er1.len
  have Lr2:=Er2.len
  have Lr3:=Er3.len
  have Lr4:=Er4.len
  have Lr5:=Er5.len
  have Lr6:=Er6.len
  have Lr7:=Er7.len
  have Lr8:=Er8.len
  have Lr9:=Er9.len
  have Lr10:=Er10.len
  have Lr11:=Er11.len
  have Lr12:=Er12.len
  have Lr13:=Er13.len
  apply Zb (fn:=a53) rfl
  simp only[a53,Qv,quiet,cW,↓pW,reduceCtorEq,seval,-Qa,Q8,Q7,N8,wt,QR,Zr,ZZ,Zi,ZY,QA,q10,q11,q12,p1,p3,k3,kp,m1,m2,m3,U,hr1,hr2,hr3,hr4,hr5,hr6,hr7,hr8,hr9,hr10,hr11,hr12,hr13,Lr1,Lr2,Lr3,Lr4,Lr5,Lr7,Lr8,Lr9]
  rfl
 ·refine⟨fr1,fr2,by rw[fr3,ftwo],fr4,by rw[fr7,fr6,fr5],fr8,fr9,?_,?_,?_,?_⟩
  ·rw[fr10]
  ·rw[fr11]
  ·rw[fr12]
  ·rw[fr13]
structure Rep(x y z t:List Nat)(p:Go.Cv.Pt Go.Fp.P Go.Fp.d):Prop where
 ex:El x (2^52)
 ey:El y (2^52)
 ez:El z (2^52)
 et:El t (2^52)
 nz:fe z≠0
 x:fe x=p.x*fe z
 y:fe y=p.y*fe z
 t:fe t=p.x*p.y*fe z
abbrev Xw(p q:Go.Cv.Pt Go.Fp.P Go.Fp.d):Go.Cv.Pt Go.Fp.P Go.Fp.d:=Go.Cv.Pt.add Go.Fp.fld p q
abbrev J2(k:Nat)(p:Go.Cv.Pt Go.Fp.P Go.Fp.d):Go.Cv.Pt Go.Fp.P Go.Fp.d:=Go.Cv.Pt.mul Go.Fp.fld k p
abbrev Ki:Go.Cv.Pt Go.Fp.P Go.Fp.d:=Go.Cv.Pt.zero
def Fj{x1 y1 z1 t1 x2 y2 J t2 a b c x y t I E:Go.Fp.Fe}(Z:x1=px*z1)(U:y1=py*z1)(ht1:t1=px*py*z1)(Y:x2=I*J)(O:y2=E*J)(ht2:t2=I*E*J)
 (ha:a=(y1-x1)*(y2-x2)) (hb:b=(y1+x1)*(y2+x2)) (hc:c=1*2*dd*t1*t2) (he:e=1*2*z1*J) (hx:x=(b-a)*(e-c)) (hy:y=(e+c)*(b+a)) (hz:z=(e-c)*(e+c)) (ht:t=(b-a)*(b+a))
 (hrx:rx*(1+dd*px*I*py*E)=px*E+I*py) (hry:ry*(1-dd*px*I*py*E)=py*E+px*I) :
    x=rx*z/\y=ry*z/\t=rx*ry*z/\z=(2*z1*J)*(2*z1*J)*((1-dd*px*I*py*E)*(1+dd*px*I*py*E)):=by
  have e1:b-a=(2*z1*J)*(px*E+I*py):=by rw[hb,ha,Z,U,Y,O];grobner
  have e2:b+a=(2*z1*J)*(py*E+px*I):=by rw[hb,ha,Z,U,Y,O];grobner
  have e3:e-c=(2*z1*J)*(1-dd*px*I*py*E):=by rw[he,hc,ht1,ht2];grobner
  have e4:e+c=(2*z1*J)*(1+dd*px*I*py*E):=by rw[he,hc,ht1,ht2];grobner
  rw[e1,<-hrx,e3]at hx
  rw[e4,e2,<-hry]at hy
  rw[e3,e4]at hz
  rw[e1,e2,<-hrx,<-hry]at ht
  clear Z U ht1 Y O ht2 ha hb hc he hrx hry e1 e2 e3 e4
  generalize 1+dd*px*I*py*E=k at *
  generalize 1-dd*px*I*py*E=m at *
  generalize 2*z1*J=w at *
  subst hx hy hz ht
  refine⟨?_,?_,?_,?_⟩<;>grobner
def Rep.plus{x1 y1 z1 t1 x2 O J U d:List Nat}{p q:Go.Cv.Pt Go.Fp.P Go.Fp.d}(I:Rep x1 y1 z1 t1 p)(E:Rep x2 O J U q)(Ed:El d (2^52))(hd:fe d=Go.Fp.d) :
  ∃x y z t,Zo T 95 [pV x1 y1 z1 t1,pV x2 O J U,eV d]=some (pV x y z t)/\Rep x y z t (Xw p q):=by
 obtain⟨x,y,z,t,hv,Ex,Ey,Ez,Et,a,b,c,e,ha,hb,hc,he,Z,Y,hz,ht⟩:=xC I.ex I.ey I.ez I.et E.ex E.ey E.ez E.et Ed
 rw[hd]at hc
 obtain⟨g1,g2,g3,g4⟩:=Fj I.x I.y I.t E.x E.y E.t ha hb hc he Z Y hz ht (Go.Cv.Hy Go.Fp.fld p q) (Go.Cv.Hx Go.Fp.fld p q)
 refine⟨x,y,z,t,hv,Ex,Ey,Ez,Et,?_,g1,g2,g3⟩
 rw[g4]
 have F:=Go.Fp.fld
 have w:=F.mul_ne (F.mul_ne F.two I.nz) E.nz
 exact F.mul_ne (F.mul_ne w w) (F.mul_ne (F.denM p.on q.on) (F.denP p.on q.on))
def P6{x1 y1 z1 a b c h g f x y t:Go.Fp.Fe}(I:x1=px*z1)(E:y1=py*z1)(on : -(px*px)+py*py=1+dd*(px*px)*(py*py))
 (ha:a=x1*x1) (hb:b=y1*y1) (hc:c=1*2*z1*z1) (U:h=a+b) (he:e=h-(x1+y1)*(x1+y1)) (Y:g=a-b) (Z:f=c+g) (hx:x=e*f) (hy:y=g*h) (hz:z=f*g) (ht:t=e*h)
 (O:rx*(1+dd*px*px*py*py)=px*py+px*py) (J:ry*(1-dd*px*px*py*py)=py*py+px*px) :
    x=rx*z/\y=ry*z/\t=rx*ry*z/\z = -((z1*z1)*(z1*z1)*((1-dd*px*px*py*py)*(1+dd*px*px*py*py))):=by
  have e1:e = -((z1*z1)*(px*py+px*py)):=by rw[he,U,ha,hb,I,E];grobner
  have e2:h=(z1*z1)*(py*py+px*px):=by rw[U,ha,hb,I,E];grobner
  have e3:g = -((z1*z1)*(1+dd*px*px*py*py)):=by
    have:1+dd*px*px*py*py=py*py-px*px:=by
      clear I E ha hb hc U he Y Z hx hy hz ht O J e1 e2
      grobner
    rw[this,Y,ha,hb,I,E];grobner
  have e4:f=(z1*z1)*(1-dd*px*px*py*py):=by
    rw[Z,e3,hc]
    clear I E on ha hb hc U he Y Z hx hy hz ht O J e1 e2 e3
    grobner
  rw[<-O]at e1
  rw[<-J]at e2
  clear I E on ha hb hc U he Y Z O J
  generalize 1+dd*px*px*py*py=k at *
  generalize 1-dd*px*px*py*py=m at *
  generalize z1*z1=w at *
  subst e1 e2 e3 e4 hx hy hz ht
  refine⟨?_,?_,?_,?_⟩<;>grobner
def Rep.twice{x1 y1 z1 t1:List Nat}{p:Go.Cv.Pt Go.Fp.P Go.Fp.d}(E:Rep x1 y1 z1 t1 p):∃x y z t,Zo T 88 [pV x1 y1 z1 t1]=some (pV x y z t)/\Rep x y z t (Xw p p):=by
 obtain⟨x,y,z,t,hv,Ex,Ey,Ez,Et,a,b,c,h,e,g,f,ha,hb,hc,O,he,U,Y,J,I,hz,ht⟩:=qW E.ex E.ey E.ez E.et
 obtain⟨g1,g2,g3,Z⟩:=P6 E.x E.y p.on ha hb hc O he U Y J I hz ht (Go.Cv.Hy Go.Fp.fld p p) (Go.Cv.Hx Go.Fp.fld p p)
 refine⟨x,y,z,t,hv,Ex,Ey,Ez,Et,?_,g1,g2,g3⟩
 rw[Z]
 have F:=Go.Fp.fld
 have w:=F.mul_ne E.nz E.nz
 have n:=F.mul_ne (F.mul_ne w w) (F.mul_ne (F.denM p.on p.on) (F.denP p.on p.on))
 intro h0
 exact n (by grobner)
def RepL(l:List Nat)(p:Go.Cv.Pt Go.Fp.P Go.Fp.d):Prop:=∃x y z t,l=pL x y z t/\Rep x y z t p
def RepL.len{l:List Nat}{p:Go.Cv.Pt Go.Fp.P Go.Fp.d}(h:RepL l p):l.length=20:=by
 obtain⟨x,y,z,t,rfl,h⟩:=h
 exact Yh h.ex h.ey h.ez h.et
def wh{d:List Nat}(I:RepL l p)(E:RepL m q)(U:El d (2^52))(hd:fe d=Go.Fp.d):∃r,Zo T 95 [eV l,eV m,eV d]=some (eV r)/\RepL r (Xw p q):=by
 obtain⟨x,y,z,t,rfl,I⟩:=I
 obtain⟨x2,Z,Y,t2,rfl,E⟩:=E
 obtain⟨a,b,c,e,O,J⟩:=I.plus E U hd
 exact⟨pL a b c e,O,a,b,c,e,rfl,J⟩
def Is(E:RepL l p):∃r,Zo T 88 [eV l]=some (eV r)/\RepL r (Xw p p):=by
 obtain⟨x,y,z,t,rfl,E⟩:=E
 obtain⟨a,b,c,e,J,I⟩:=E.twice
 exact⟨pL a b c e,J,a,b,c,e,rfl,I⟩
def dK:List Nat:=dig 256 32 Go.Fp.dN
def yC:num 256 dK=Go.Fp.dN:=by decide +kernel
def dK_lt:∀x∈dK,x<256:=fun _ h=>Vt ww h
def AT:∃r,Zo T 84 []=some (eV r)/\El r (2^52)/\fe r=Go.Fp.d:=by
 have h:=mX (k:=dK) (Ze _ _ _) dK_lt
 refine⟨dig (2^51) 5 (num 256 dK%2^255),?_,NO,?_⟩
 rotate_left
 ·unfold fe
  rw[A4,yC]
  rfl
 ·have E:(dig (2^51) 5 (num 256 dK%2^255)).length=5:=Ze _ _ _
  have I:fillL (Qc 32 (Value.int .u8 0)) [(0,1,.int .u8 163),(1,1,.int .u8 120),(2,1,.int .u8 89),(3,1,.int .u8 19),(4,1,.int .u8 202),(5,1,.int .u8 77),(6,1,.int .u8 235),(7,1,.int .u8 117),(8,1,.int .u8 171),(9,1,.int .u8 216),(10,1,.int .u8 65),(11,1,.int .u8 65),(12,1,.int .u8 77),(13,1,.int .u8 10),(14,1,.int .u8 112),(15,1,.int .u8 0),(16,1,.int .u8 152),(17,1,.int .u8 232),(18,1,.int .u8 121),(19,1,.int .u8 119),(20,1,.int .u8 121),(21,1,.int .u8 64),(22,1,.int .u8 199),(23,1,.int .u8 140),(24,1,.int .u8 115),(25,1,.int .u8 254),(26,1,.int .u8 111),(27,1,.int .u8 43),(28,1,.int .u8 238),(29,1,.int .u8 108),(30,1,.int .u8 3),(31,1,.int .u8 82)]=some (u8s dK):=by
   have:dK=[163,120,89,19,202,77,235,117,171,216,65,65,77,10,112,0,152,232,121,119,121,64,199,140,115,254,111,43,238,108,3,82]:=by decide +kernel
   rw[this];rfl
  generalize dig (2^51) 5 (num 256 dK%2^255)=D at *
  apply Zb (fn:=a52) rfl
  simp only[a52,Qv,quiet,cW,↓pW,reduceCtorEq,seval,-Qa,I,h,Q8,Q7,QR,Zr,ZZ,Zi,ZY,QA,E]
  rfl
def mK:Zo T 82 [.int .u32 1]=some (eV [1,0,0,0,0]):=To (n:=1) ww
def T8:El [0,0,0,0,0] (2^52):=Dm ww
def aQ:fe [0,0,0,0,0]=0:=by rw[Dl];rfl
def Pq:∃r,Zo T 89 []=some (eV r)/\RepL r Ki:=by
 refine⟨pL [0,0,0,0,0] [1,0,0,0,0] [1,0,0,0,0] [0,0,0,0,0],?_,_,_,_,_,rfl,T8,Rk,Rk,T8,?_,?_,?_,?_⟩
 ·have I:fillL (Qc 20 (Value.int .u64 0)) [(5,5,eV [1,0,0,0,0]),(10,5,eV [1,0,0,0,0])]=some (ns .u64 (pL [0,0,0,0,0] [1,0,0,0,0] [1,0,0,0,0] [0,0,0,0,0])):=rfl
  have E:(pL [0,0,0,0,0] [1,0,0,0,0] [1,0,0,0,0] [0,0,0,0,0]).length=20:=rfl
  have hv:=mK
  generalize pL [0,0,0,0,0] [1,0,0,0,0] [1,0,0,0,0] [0,0,0,0,0]=Z at *
  generalize([1,0,0,0,0]:List Nat)=O at *
  apply Zb (fn:=a30) rfl
  simp only[a30,Qv,quiet,cW,↓pW,reduceCtorEq,seval,-Qa,I,hv,Q8,Q7,QR,Zr,ZZ,Zi,ZY,QA,E]
  rfl
 ·rw[Rj];exact Go.Fp.WS
 ·rw[aQ];simp only[Go.Cv.Pt.zero];grobner
 ·rw[Rj];simp only[Go.Cv.Pt.zero];grobner
 ·rw[aQ];simp only[Go.Cv.Pt.zero];grobner
def Fh(p:Go.Cv.Pt Go.Fp.P Go.Fp.d)(m b:Nat)(hb:b<2):J2 (2*m+b) p=if b=1 then Xw (Xw (J2 m p) (J2 m p)) p else Xw (J2 m p) (J2 m p):=by
 have E:J2 (2*m) p=Xw (J2 m p) (J2 m p):=by rw[show 2*m=m+m by omega];exact Go.Cv.mul_add Go.Fp.fld m m p
 by_cases h:b=1
 ·subst h
  rw[if_pos rfl]
  show Xw (J2 (2*m) p) p=_
  rw[E]
 ·have:b=0:=qr
  subst this
  rw[if_neg ww,ZM,E]
def muI(l k o d:List Nat)(R:Ob)(i:Int)(ex:Env):St:=⟨[(2,.pointer (0:Nat)),(3,.pointer (1:Nat)),(4,.pointer (2:Nat)),(5,.pointer (3:Nat)),(6,.pointer (4:Nat)),(7,.int .i64 i)]++ex,[{c:=ns .u64 l},{c:=u8s k},R,{c:=ns .u64 o},{c:=ns .u64 d}],[]⟩
def tH{k d:List Nat}(hl:RepL l p)(lk:k.length=32)(xk:∀x∈k,x<256)(hi:i<256)(Ed:El d (2^52))(hd:fe d=Go.Fp.d)(ho:RepL o (J2 (num 256 k/2^(i+1)) p)) :
  ∃r,Q4 T 0 R2 (muI l k o d R i [])=some (.normal,muI l k r d R ((i:Int)-1) [])/\RepL r (J2 (num 256 k/2^i) p):=by
 obtain⟨b,hb⟩:∃b,k[i/8]?=some b:=⟨_,Qg qr⟩
 have Y:=KL (B:=256) ww xk hb
 have U:=ZN hb
 have E:b/2^(i%8)%2=num 256 k/2^i%2:=by
  rw[<-Y,show(256:Nat)=2^8 from rfl,Ih (Q3 _ ww),ZK]
 obtain⟨r1,m1,Z⟩:=Is ho
 obtain⟨r2,m2,g3⟩:=wh Z hl Ed hd
 have hlt:=BQ (num 256 k) i
 have O:num 256 k/2^i=2*(num 256 k/2^(i+1))+num 256 k/2^i%2:=by
  rw[Zn,<-Zc]
  omega
 have hstep:=Fh p (num 256 k/2^(i+1)) (num 256 k/2^i%2) hlt
 rw[<-O]at hstep
 have s1:(2:Int)^min (i%8) IntKind.u8.bits=((2^(i%8):Nat):Int):=U7 (JH (Q3 _ ww))
 have w2:IntKind.i64.wrap ((i/8:Nat):Int)=((i/8:Nat):Int):=ZC qr
 have w3:IntKind.i64.wrap ((i:Int)-1)=(i:Int)-1:=Zd qr qr
 have e1:((0:Int)<=(i:Int))=True:=wr
 have e3:(((i/8:Nat):Int)<32)=True:=wr
 have e4:(((i%8:Nat):Int)<0)=False:=ut
 have l1:=hl.len
 have l2:=ho.len
 have l3:=Z.len
 have l4:=g3.len
 have l5:=Ed.len
 generalize hB:num 256 k/2^i%2=B at *
 by_cases J:B=1
 ·have I:((B:Int)==1)=true:=by rw[J];rfl
  rw[if_pos J]at hstep
  refine⟨r2,?_,by rw[hstep];exact g3⟩
  simp only[muI,R2,Qv,quiet,cW,↓pW,reduceCtorEq,seval,-Qa,cU,U,E,s1,w2,w3,e1,e3,e4,m1,m2,I,Q7,QR,Zr,ZZ,Zi,QA,l1,l2,l3,l4,l5,ZY]
 ·have I:((B:Int)==1)=false:=by
   have:B=0:=qr
   rw[this];rfl
  rw[if_neg J]at hstep
  refine⟨r1,?_,by rw[hstep];exact Z⟩
  simp only[muI,R2,Qv,quiet,cW,↓pW,reduceCtorEq,seval,-Qa,cU,U,E,s1,w2,w3,e1,e3,e4,m1,I,Q7,QR,Zr,ZZ,Zi,QA,l2,l3,ZY]
def Wj{k:List Nat}(Y:RepL l p)(lk:k.length=32)(U:∀x∈k,x<256):∃r,Zo T 43 [eV l,.agg (u8s k).toArray]=some (eV r)/\RepL r (J2 (num 256 k) p):=by
 have Z:=num_lt U
 rw[lk,show(256:Nat)^32=2^256 from by rw[show(256:Nat)=2^8 from rfl,<-Jj]]at Z
 obtain⟨z,hz,E⟩:=Pq
 obtain⟨d,O,Ed,hd⟩:=AT
 obtain⟨st,hb,r,rfl,I⟩:=QM (T:=T) (base:=0) (id:=0) (body:=R2)
  (fun j st=>∃r:List Nat,st=muI l k r d {c:=Qc 20 (.int .u64 0)} ((255:Int)-j) []/\RepL r (J2 (num 256 k/2^(256-j)) p))
  (Q:=fun st=>∃r:List Nat,st=muI l k r d {c:=Qc 20 (.int .u64 0)} (-1) [(11,.bool false)]/\RepL r (J2 (num 256 k) p))
  256 (s:=muI l k z d {c:=Qc 20 (.int .u64 0)} 255 []) ⟨_,rfl,by rw[V8,Xk Z];exact E⟩
  (fun j st hj hs=>by
   obtain⟨r,rfl,J⟩:=hs
   obtain⟨i,hi⟩:∃i,256-j=i+1:=⟨255-j,by omega⟩
   rw[hi]at J
   obtain⟨r',g1,g3⟩:=tH (R:={c:=Qc 20 (.int .u64 0)}) Y lk U (i:=i) qr Ed hd J
   rw[show(255:Int)-j=(i:Int) by omega]
   refine⟨_,g1,r',?_,?_⟩
   ·rw[show(255:Int)-((j+1:Nat):Int)=(i:Int)-1 by omega]
   ·rw[show 256-(j+1)=i by omega];exact g3)
  (fun st hs=>by
   obtain⟨r,rfl,J⟩:=hs
   rw[Qs,Jg,JQ]at J
   have e:((0:Int) <= -1)=False:=ww
   refine⟨_,?_,r,rfl,J⟩
   rw[show(255:Int)-((256:Nat):Int) = -1 by omega]
   simp only[muI,R2,Qv,quiet,cK,↓pQ,reduceCtorEq,seval,-Qa,cL,e])
 refine⟨r,?_,I⟩
 have l1:=Y.len
 have l2:=E.len
 have l3:=I.len
 have l4:=Ed.len
 simp only[muI,Qp,Qn]at hb
 apply Zb (fn:=a26) rfl
 simp only[a26,Qv,quiet,cW,↓pW,reduceCtorEq,seval,-Qa,hz,O,hb,Q8,Q7,QR,Zr,ZZ,Zi,QA,l2,l3,l4,ZY]
 rfl
def yc(hl:RepL l p):∃r,Zo T 44 [eV l]=some (eV r)/\RepL r p.neg:=by
 obtain⟨x,y,z,t,rfl,h⟩:=hl
 obtain⟨a,ha,I,fa⟩:=FB h.ex
 obtain⟨b,hb,E,fb⟩:=FB h.et
 obtain⟨Y,U,O,J⟩:=PU h.ex h.ey h.ez h.et
 have hf:=RI I h.ey h.ez E
 have p1:=Yh h.ex h.ey h.ez h.et
 have Z:=Yh I h.ey h.ez E
 refine⟨pL a y z b,?_,a,y,z,b,rfl,I,h.ey,h.ez,E,h.nz,?_,?_,?_⟩
 ·generalize pL x y z t=L,pL a y z b=M at *
  apply Zb (fn:=a34) rfl
  simp only[a34,Qv,quiet,cW,↓pW,reduceCtorEq,seval,-Qa,Y,U,O,J,ha,hb,hf,Q8,Q7,QR,Zr,ZZ,Zi,QA,p1,Z,ZY]
  rfl
 ·rw[fa,h.x];simp only[Go.Cv.Pt.neg];grobner
 ·rw[h.y];rfl
 ·rw[fb,h.t];simp only[Go.Cv.Pt.neg];grobner
instance decPt(p q:Go.Cv.Pt Go.Fp.P Go.Fp.d):Decidable (p=q):=if h:p.x=q.x/\p.y=q.y then isTrue (Go.Cv.Pt.ext h.1 h.2)else isFalse (fun e=>h (by rw[e];exact⟨rfl,rfl⟩))
def iU{a b w:Go.Fp.Fe}(hz:z≠0)(hw:w≠0):(a*z*w=b*w*z)=(a=b):=by
 apply propext
 constructor
 ·intro h
  have F:=Go.Fp.fld
  refine F.cancel (F.mul_ne hz hw) ?_
  grobner
 ·intro h;subst h;grobner
def uP{p q:Go.Cv.Pt Go.Fp.P Go.Fp.d}(I:RepL l p)(E:RepL m q):Zo T 87 [eV l,eV m]=some (.bool (decide (p=q))):=by
 obtain⟨x1,y1,z1,t1,rfl,I⟩:=I
 obtain⟨x2,y2,z2,t2,rfl,E⟩:=E
 obtain⟨a,ha,Ea,fa⟩:=XN I.ex E.ez
 obtain⟨b,hb,Eb,fb⟩:=XN E.ex I.ez
 obtain⟨c,hc,Ec,fc⟩:=XN I.ey E.ez
 obtain⟨e,he,Ee,fe_⟩:=XN E.ey I.ez
 have J:=uQ Ea Eb
 have Y:=uQ Ec Ee
 rw[fa,fb,I.x,E.x]at J
 rw[fc,fe_,I.y,E.y]at Y
 simp only[iU I.nz E.nz]at J Y
 obtain⟨u0,u1,Z,u3⟩:=PU I.ex I.ey I.ez I.et
 obtain⟨v0,v1,v2,v3⟩:=PU E.ex E.ey E.ez E.et
 have p1:=Yh I.ex I.ey I.ez I.et
 have p2:=Yh E.ex E.ey E.ez E.et
 generalize pL x1 y1 z1 t1=L,pL x2 y2 z2 t2=M at *
 by_cases U:p.x=q.x
 ·rw[decide_eq_true U]at J
  have hd:decide (p=q)=decide (p.y=q.y):=by
   by_cases O:p.y=q.y
   ·rw[decide_eq_true O,decide_eq_true (Go.Cv.Pt.ext U O)]
   ·rw[decide_eq_false O,decide_eq_false (fun h=>O (by rw[h]))]
  rw[hd]
  apply Zb (fn:=a28) rfl
  simp only[a28,Qv,quiet,cW,↓pW,reduceCtorEq,seval,-Qa,u0,u1,Z,v0,v1,v2,ha,hb,hc,he,J,Y,QR,ZZ,Zi,QA,p1,p2,ZY]
  rfl
 ·rw[decide_eq_false U]at J
  rw[decide_eq_false (fun h=>U (by rw[h]))]
  apply Zb (fn:=a28) rfl
  simp only[a28,Qv,quiet,cW,↓pW,reduceCtorEq,seval,-Qa,u0,Z,v0,v2,ha,hb,J,QR,ZZ,Zi,QA,p1,p2,ZY]
  rfl
def pg(p:Go.Cv.Pt Go.Fp.P Go.Fp.d):Xw (Xw (Xw p p) (Xw p p)) (Xw (Xw p p) (Xw p p))=J2 8 p:=by
 have J:J2 2 p=Xw p p:=Go.Cv.mul_two Go.Fp.fld p
 have I:J2 4 p=Xw (J2 2 p) (J2 2 p):=Go.Cv.mul_add Go.Fp.fld 2 2 p
 have E:J2 8 p=Xw (J2 4 p) (J2 4 p):=Go.Cv.mul_add Go.Fp.fld 4 4 p
 rw[E,I,J]
def wQ(h:RepL l p):Zo T 38 [eV l]=some (.bool (decide (J2 8 p=Ki))):=by
 obtain⟨a,ha,J⟩:=Is h
 obtain⟨b,hb,I⟩:=Is J
 obtain⟨c,hc,rc⟩:=Is I
 obtain⟨z,hz,E⟩:=Pq
 have he:=uP rc E
 rw[pg]at he
 have O:=h.len
 apply Zb (fn:=a39) rfl
 simp only[a39,Qv,quiet,cW,↓pW,reduceCtorEq,seval,-Qa,ha,hb,hc,hz,he,Q7,QR,ZZ,Zi,QA,O,ZY]
 rfl
def DI(p:Go.Cv.Pt Go.Fp.P Go.Fp.d):Nat:=p.y.val+(p.x.val%2)*2^255
def enc(p:Go.Cv.Pt Go.Fp.P Go.Fp.d):List Nat:=dig 256 32 (DI p)
def Yz(p:Go.Cv.Pt Go.Fp.P Go.Fp.d):(enc p).length=32:=Ze _ _ _
def SY(p:Go.Cv.Pt Go.Fp.P Go.Fp.d):∀x∈enc p,x<256:=Uw
def MP(a:Go.Fp.Fe):a.val<2^255:=X9 a.isLt (by rw[Go.Fp.BW];decide)
def Ll(p:Go.Cv.Pt Go.Fp.P Go.Fp.d):DI p<256^32:=by
 have I:=MP p.y
 have E:=Q3 p.x.val (by decide:0<2)
 unfold DI
 have:p.x.val%2*2^255<=1*2^255:=ZG _ qr
 have e:(256:Nat)^32=2^255+2^255:=ww
 omega
def DG{p:Go.Cv.Pt Go.Fp.P Go.Fp.d}(h:RepL l p):Zo T 45 [eV l]=some (.agg (u8s (enc p)).toArray):=by
 obtain⟨x,y,z,t,rfl,h⟩:=h
 obtain⟨i,hi,Ei,fi⟩:=nT h.ez
 obtain⟨a,ha,Ea,fa⟩:=XN h.ey Ei
 obtain⟨b,hb,Eb,fb⟩:=XN h.ex Ei
 have hinv:=Go.Fp.B4 h.nz
 have fa':fe a=p.y:=by rw[fa,fi,h.y];grobner
 have fb':fe b=p.x:=by rw[fb,fi,h.x];grobner
 have k1:=Gx Ea
 have U:=mY Eb
 rw[fa']at k1
 rw[fb']at U
 obtain⟨u0,u1,u2,u3⟩:=PU h.ex h.ey h.ez h.et
 have p1:=Yh h.ex h.ey h.ez h.et
 have L1:=Ei.len
 have lk:(dig 256 32 p.y.val).length=32:=Ze _ _ _
 have l0:(dig 256 32 0).length=32:=rfl
 have I:Qc 32 (Value.int .u8 0)=u8s (dig 256 32 0):=rfl
 generalize pL x y z t=L at *
 by_cases ho:p.x.val%2=1
 ·rw[decide_eq_true ho]at U
  have hv:=MP p.y
  obtain⟨w,hw⟩:∃w,(dig 256 32 p.y.val)[31]?=some w:=⟨_,Qg (by rw[Ze];decide)⟩
  have Y:=ZN hw
  have Z:w<256:=Vt ww (Qw hw)
  have O:=Ty (w:=8) (m:=32) (q:=31) (s:=7) (y:=1) (M:=p.y.val) ww ww hv ww
  have hgd:(dig (2^8) 32 p.y.val).getD 31 0=w:=by rw[Qy];rw[show(2:Nat)^8=256 from rfl,hw];rfl
  rw[hgd]at O
  have J:=Xg (dig 256 32 p.y.val) 31 (w|||128)
  rw[show(dig 256 32 p.y.val).set 31 (w|||128)=enc p from by rw[enc,DI,ho];exact O]at J
  have o1:Z3 .or .u8 (w:Int) 128=((w|||128:Nat):Int):=Kx (k := .u8) (a:=w) (b:=128) rfl Z ww
  have le:=Yz p
  generalize enc p=E at *
  apply Zb (fn:=a29) rfl
  simp only[a29,Qv,quiet,cW,↓pW,reduceCtorEq,seval,-Qa,I,u0,u1,u2,hi,ha,hb,k1,U,Y,o1,J,Q8,Q7,QR,Zr,ZZ,Zi,QA,Qq,lk,l0,le,p1,L1,ZY]
  rfl
 ·rw[decide_eq_false ho]at U
  have he:enc p=dig 256 32 p.y.val:=by rw[enc,DI,show p.x.val%2=0 by omega,KA,ZM]
  rw[he]
  generalize dig 256 32 p.y.val=E at *
  apply Zb (fn:=a29) rfl
  simp only[a29,Qv,quiet,cW,↓pW,reduceCtorEq,seval,-Qa,I,u0,u1,u2,hi,ha,hb,k1,U,Q8,Q7,QR,Zr,ZZ,Zi,QA,Qq,lk,l0,p1,L1,ZY]
  rfl
def bxN:Nat:=15112221349535400772501151409588531511454012693041857206046113283949847762202
def byN:Nat:=46316835694926478169428394003475163141307993866256225615783033603165251855960
def X5:Go.Cv.Pt Go.Fp.P Go.Fp.d:=⟨Go.Fp.fp bxN,Go.Fp.fp byN,by
 unfold Go.Cv.On Go.Fp.d
 have h:(Go.Fp.fp byN*Go.Fp.fp byN:Go.Fp.Fe)=Go.Fp.fp bxN*Go.Fp.fp bxN+(1+Go.Fp.fp Go.Fp.dN*(Go.Fp.fp bxN*Go.Fp.fp bxN)*(Go.Fp.fp byN*Go.Fp.fp byN)):=by
  rw[<-Go.Fp.Li,<-Go.Fp.Kh,<-Go.Fp.Kh,<-Go.Fp.Kh,<-Go.Fp.Kh,<-Go.Fp.Vg,<-Go.Fp.Vg]
  exact Go.Fp.RH.2 (by decide +kernel)
 grobner⟩
def bxK:List Nat:=dig 256 32 bxN
def byK:List Nat:=dig 256 32 byN
def vh:num 256 bxK=bxN:=by decide +kernel
def vd:num 256 byK=byN:=by decide +kernel
def aE:∃r,Zo T 42 []=some (eV r)/\RepL r X5:=by
 have h1:=mX (k:=bxK) (Ze _ _ _) Uw
 have h2:=mX (k:=byK) (Ze _ _ _) Uw
 have E1:=NO (V:=num 256 bxK%2^255)
 have E2:=NO (V:=num 256 byK%2^255)
 have f1:fe (dig (2^51) 5 (num 256 bxK%2^255))=Go.Fp.fp bxN:=by unfold fe;rw[A4,vh];rfl
 have Z:fe (dig (2^51) 5 (num 256 byK%2^255))=Go.Fp.fp byN:=by unfold fe;rw[A4,vd];rfl
 generalize dig (2^51) 5 (num 256 bxK%2^255)=X,dig (2^51) 5 (num 256 byK%2^255)=Y at *
 obtain⟨t,ht,U,ft⟩:=XN E1 E2
 have E:∃O:List Nat,O=[1,0,0,0,0]:=⟨_,rfl⟩
 obtain⟨O,I⟩:=E
 have E:El O (2^52):=by rw[I];exact Rk
 have v1:Zo T 82 [.int .u32 1]=some (eV O):=by rw[I];exact mK
 have J:fe O=1:=by rw[I];exact Rj
 clear I
 have hf:=RI E1 E2 E U
 have p1:=Yh E1 E2 E U
 refine⟨pL X Y O t,?_,X,Y,O,t,rfl,E1,E2,E,U,by rw[J];exact Go.Fp.WS,by rw[f1,J];simp only[X5];grobner,by rw[Z,J];simp only[X5];grobner,by rw[ft,f1,Z,J];simp only[X5];grobner⟩
 have L1:=E1.len
 have L2:=E2.len
 have g1:fillL (Qc 32 (Value.int .u8 0)) [(0,1,.int .u8 26),(1,1,.int .u8 213),(2,1,.int .u8 37),(3,1,.int .u8 143),(4,1,.int .u8 96),(5,1,.int .u8 45),(6,1,.int .u8 86),(7,1,.int .u8 201),(8,1,.int .u8 178),(9,1,.int .u8 167),(10,1,.int .u8 37),(11,1,.int .u8 149),(12,1,.int .u8 96),(13,1,.int .u8 199),(14,1,.int .u8 44),(15,1,.int .u8 105),(16,1,.int .u8 92),(17,1,.int .u8 220),(18,1,.int .u8 214),(19,1,.int .u8 253),(20,1,.int .u8 49),(21,1,.int .u8 226),(22,1,.int .u8 164),(23,1,.int .u8 192),(24,1,.int .u8 254),(25,1,.int .u8 83),(26,1,.int .u8 110),(27,1,.int .u8 205),(28,1,.int .u8 211),(29,1,.int .u8 54),(30,1,.int .u8 105),(31,1,.int .u8 33)]=some (u8s bxK):=by
  have:bxK=[26,213,37,143,96,45,86,201,178,167,37,149,96,199,44,105,92,220,214,253,49,226,164,192,254,83,110,205,211,54,105,33]:=by decide +kernel
  rw[this];rfl
 have g2:fillL (Qc 32 (Value.int .u8 0)) [(0,1,.int .u8 88),(1,1,.int .u8 102),(2,1,.int .u8 102),(3,1,.int .u8 102),(4,1,.int .u8 102),(5,1,.int .u8 102),(6,1,.int .u8 102),(7,1,.int .u8 102),(8,1,.int .u8 102),(9,1,.int .u8 102),(10,1,.int .u8 102),(11,1,.int .u8 102),(12,1,.int .u8 102),(13,1,.int .u8 102),(14,1,.int .u8 102),(15,1,.int .u8 102),(16,1,.int .u8 102),(17,1,.int .u8 102),(18,1,.int .u8 102),(19,1,.int .u8 102),(20,1,.int .u8 102),(21,1,.int .u8 102),(22,1,.int .u8 102),(23,1,.int .u8 102),(24,1,.int .u8 102),(25,1,.int .u8 102),(26,1,.int .u8 102),(27,1,.int .u8 102),(28,1,.int .u8 102),(29,1,.int .u8 102),(30,1,.int .u8 102),(31,1,.int .u8 102)]=some (u8s byK):=by
  have:byK=[88,102,102,102,102,102,102,102,102,102,102,102,102,102,102,102,102,102,102,102,102,102,102,102,102,102,102,102,102,102,102,102]:=by decide +kernel
  rw[this];rfl
 generalize pL X Y O t=Q at *
 apply Zb (fn:=a25) rfl
 simp only[a25,Qv,quiet,cW,↓pW,reduceCtorEq,seval,-Qa,g1,g2,h1,h2,v1,ht,hf,Q8,Q7,QR,Zr,ZZ,Zi,QA,p1,L1,L2,ZY]
 rfl
def xK(hb:b.length=20)(ha:a.length=n):Q5 20 (ZT n (ns .u64 (a++(b++c))))=ns .u64 b:=by
 simp only[Gn]
 rw[Jh (by rw[QA];omega),ZH (by rw[QA];omega),Qn,Jr (by rw[QA];omega),Qo (by rw[QA];omega)]
def gn{l:List Ob}{r d:List Nat}{g:List Ob}(hi:i<n)(hn:n<100)(Y:x.length=20)(U:o.length=20)(J:d.length=5)(hm:Zo T 95 [eV o,eV x,eV d]=some (eV r))(O:r.length=20)
 (hA:∀l,(H++l)[id]?=some {c:=cs}) (E:(cs.drop (i*20)).take 20=ns .u64 x) (hlen:i*20+20<=cs.length) :
    Q4 T H.length CR ⟨[(2,.pointer H.length),(3,.pointer (H.length+1:Nat)),(4,.pointer (H.length+2:Nat)),(9,.slice id n n),(10,.int .i64 n),(11,.int .i64 i)],H++(R::{c:=ns .u64 o}::{c:=ns .u64 d}::g),[]⟩ =
      some (.normal,⟨[(2,.pointer H.length),(3,.pointer (H.length+1:Nat)),(4,.pointer (H.length+2:Nat)),(9,.slice id n n),(10,.int .i64 n),(11,.int .i64 ((i+1:Nat):Int))],H++(R::{c:=ns .u64 r}::{c:=ns .u64 d}::(g++[{c:=ns .u64 x}])),[]⟩):=by
  have hz:∃Z,Qc 20 (Value.int .u64 0)=ns .u64 Z/\Z.length=20:=⟨Qc 20 0,rfl,rfl⟩
  obtain⟨Z,hz,l0⟩:=hz
  have e1:((i:Int)<(n:Int))=True:=wr
  have I:IntKind.i64.wrap ((i:Int)+1)=((i+1:Nat):Int):=ZC (n:=i+1) qr
  simp only[CR,Qv,quiet,cF,JR,QW,↓pQ,reduceCtorEq,seval,-Qa,cL,cJ,QV,hz,hA,E,hlen,hm,QR,Zr,ZZ,Zi,QA,l0,Y,U,O,J,ZY,e1,I]
inductive Reps:List (List Nat)->List (Go.Cv.Pt Go.Fp.P Go.Fp.d)->Prop
 |nil:Reps [] []
 |cons {x xs p ps}:RepL x p->Reps xs ps->Reps (x::xs) (p::ps)
def Reps.len{xs:List (List Nat)}{ps:List (Go.Cv.Pt Go.Fp.P Go.Fp.d)}(h:Reps xs ps):xs.length=ps.length:=by
 induction h with
 |nil=>rfl
 |cons _ _ E=>simp[E]
def Reps.all{xs:List (List Nat)}{ps:List (Go.Cv.Pt Go.Fp.P Go.Fp.d)}(h:Reps xs ps):∀x∈xs,x.length=20:=by
 induction h with
 |nil=>simp
 |cons h _ I=>intro y E;rcases J8.1 E with rfl|E;exact h.len;exact I y E
def Reps.get{xs:List (List Nat)}{ps:List (Go.Cv.Pt Go.Fp.P Go.Fp.d)}(h:Reps xs ps):∀ {i:Nat} {x:List Nat},xs[i]?=some x->∃p,ps[i]?=some p/\RepL x p:=by
 induction h with
 |nil=>intro i x h;simp at h
 |cons h _ I =>
  intro i x E
  cases i with
  |zero=>simp at E;subst E;exact⟨_,rfl,h⟩
  |succ i=>simp at E;simpa using I E
def oN:∀(ys:List (List Nat)),(∀x∈ys,x.length=20)->ys.flatten.length=ys.length*20:=by
 intro ys E
 induction ys with
 |nil=>rfl
 |cons y ys I =>
  rw[QO,Qh,I (fun x J=>E x (by simp[J])),(E y wd),Zt];omega
def vO{xs:List (List Nat)}{ps:List (Go.Cv.Pt Go.Fp.P Go.Fp.d)}(hn:xs.length=n)(hN:n<100)(O:Reps xs ps)(h:H[id]?=some {c:=ns .u64 xs.flatten}) :
  ∃r d,Zp T 41 [.slice id n n] H=some (eV r,H++({c:=ns .u64 r}::{c:=ns .u64 r}::{c:=ns .u64 d}::xs.map fun x=>({c:=ns .u64 x}:Ob)),[])/\RepL r (ps.foldl Xw Ki):=by
 have hid:id<H.length:=(Qf.1 h).1
 have hA:∀l,(H++l)[id]?=some {c:=ns .u64 xs.flatten}:=fun l=>by rw[Qb hid];exact h
 obtain⟨d,hd,Ed,fd⟩:=AT
 obtain⟨z,hz,Ez⟩:=Pq
 have hZ:∃Z,Qc 20 (Value.int .u64 0)=ns .u64 Z/\Z.length=20:=⟨Qc 20 0,rfl,rfl⟩
 obtain⟨Z,hZ,l0⟩:=hZ
 obtain⟨st,hb,r,rfl,E⟩:=QM (T:=T) (base:=H.length) (id:=0) (body:=CR)
  (fun i st=>∃r:List Nat,st=⟨[(2,.pointer H.length),(3,.pointer (H.length+1:Nat)),(4,.pointer (H.length+2:Nat)),(9,.slice id n n),(10,.int .i64 n),(11,.int .i64 (i:Nat))],H++({c:=ns .u64 Z}::{c:=ns .u64 r}::{c:=ns .u64 d}::((xs.take i).map fun x=>({c:=ns .u64 x}:Ob))),[]⟩/\RepL r ((ps.take i).foldl Xw Ki))
  (Q:=fun st=>∃r:List Nat,st=⟨[(2,.pointer H.length),(3,.pointer (H.length+1:Nat)),(4,.pointer (H.length+2:Nat)),(9,.slice id n n),(10,.int .i64 n),(11,.int .i64 n),(12,.bool false)],H++({c:=ns .u64 Z}::{c:=ns .u64 r}::{c:=ns .u64 d}::(xs.map fun x=>({c:=ns .u64 x}:Ob))),[]⟩/\RepL r (ps.foldl Xw Ki))
  n (s:=⟨[(2,.pointer H.length),(3,.pointer (H.length+1:Nat)),(4,.pointer (H.length+2:Nat)),(9,.slice id n n),(10,.int .i64 n),(11,.int .i64 0)],H++[{c:=ns .u64 Z},{c:=ns .u64 z},{c:=ns .u64 d}],[]⟩) ⟨z,rfl,Ez⟩
  (fun i st hi hs=>by
   obtain⟨r,rfl,E⟩:=hs
   obtain⟨x,I⟩:∃y,xs[i]?=some y:=⟨_,Qg qr⟩
   obtain⟨p,hpi,J⟩:=O.get I
   obtain⟨r',hm,g1⟩:=wh E J Ed fd
   have hsplit:xs=xs.take i++x::xs.drop (i+1):=by
    have h1:=Qf.1 I
    conv=>lhs;rw[<-Z7 i xs,J4 h1.1,h1.2]
   have htl:(xs.take i).flatten.length=i*20:=by
    rw[oN _ (fun y hy=>O.all y (QG hy)),Q0,Zg qr]
   have hcs:((ns .u64 xs.flatten).drop (i*20)).take 20=ns .u64 x:=by
    conv=>lhs;rw[hsplit,Zz,QO]
    exact xK J.len htl
   have hb:=gn (R:={c:=ns .u64 Z}) (g:=(xs.take i).map fun x=>({c:=ns .u64 x}:Ob)) (l:=[]) hi hN J.len E.len Ed.len hm g1.len hA hcs (by rw[QA,oN xs O.all,hn];omega)
   have htk:xs.take (i+1)=xs.take i++[x]:=by rw[Zh,I];rfl
   have Y:ps.take (i+1)=ps.take i++[p]:=by rw[Zh,hpi];rfl
   refine⟨_,hb,r',?_,?_⟩
   ·rw[htk,XZ];rfl
   ·rw[Y,List.foldl_append];exact g1)
  (fun st hs=>by
   obtain⟨r,rfl,E⟩:=hs
   have e1:((n:Int)<(n:Int))=False:=ut
   have ht:xs.take n=xs:=Qo qr
   have ht2:ps.take n=ps:=Qo (by have:=O.len;omega)
   rw[ht2]at E
   rw[ht]
   refine⟨_,?_,r,rfl,E⟩
   simp only[CR,Qv,quiet,cF,JR,QW,↓pQ,reduceCtorEq,seval,-Qa,cL,e1])
 refine⟨r,d,?_,E⟩
 have l1:=E.len
 have l2:=Ez.len
 have l3:=Ed.len
 rw[Q9 (fn:=a27) rfl]
 have U:Qc 5 (Value.int .u64 0)=ns .u64 [0,0,0,0,0]:=rfl
 have l5:([0,0,0,0,0]:List Nat).length=5:=rfl
 simp only[a27,Qv,quiet,cF,JR,QW,↓pQ,reduceCtorEq,seval,-Qa,cL,cJ,QV,hZ,U,l5,hd,hz,hb,QR,Zr,ZZ,Zi,QA,l0,l1,l2,l3,ZY]
def fold2:[p,q].foldl Xw Ki=Xw p q:=by
 show Xw (Xw Ki p) q=_
 rw[show Xw Ki p=p from Go.Cv.zero_add Go.Fp.fld p]
def W4(u v:Go.Fp.Fe):Go.Fp.Fe:=u*(v*v*v)*Go.Fp.pow (u*(v*v*v)*(v*v*v)*v) (2^252-1-2)
def jj:Go.Fp.Fe:=Go.Fp.pow 2 (2^253-1-4)
def jj_eq:jj=Go.Fp.iQ:=by
 show Go.Fp.pow (Go.Fp.fp 2) _=Go.Fp.fp Go.Fp.iN
 exact Go.Fp.Ai (f:=256) (by decide +kernel) (by decide +kernel)
def jj_sq:jj*jj = -1:=by rw[jj_eq];exact Go.Fp.PG
def quarter:(2^252-1-2)+(2^252-1-2)+1+((2^252-1-2)+(2^252-1-2)+1)=(Go.Fp.P-1)/2:=by rw[Go.Fp.BW]
def tm{u v s:Go.Fp.Fe}(I:v*W4 u v*W4 u v≠u)(J:v*W4 u v*W4 u v ≠ -u):v*(s*s)≠u:=fun hs=>by
 have F:=Go.Fp.fld
 obtain⟨g,O⟩:∃g,g=v*v*v*v*s:=⟨_,rfl⟩
 have ht:u*(v*v*v)*(v*v*v)*v=g*g:=by subst O;subst hs;grobner
 rcases Go.Fp.Aj g with h|h
 ·obtain⟨k,Z⟩:∃k,k=2^252-1-2:=⟨_,rfl⟩
  have Y:=quarter
  rw[<-Z]at Y
  rw[<-Y,Go.Fp.pow_add,Go.Fp.pow_add,Go.Fp.pow_add,Go.Fp.pow_one]at h
  have hw:W4 u v=u*(v*v*v)*Go.Fp.pow (g*g) k:=by unfold W4;rw[ht,Z]
  rw[hw]at I J
  generalize Go.Fp.pow (g*g) k=q at *
  have he:(q*q*(g*g)-1)*(q*q*(g*g)+1)=0:=by clear I J hw ht O hs;grobner
  have hv:v*(u*(v*v*v)*q)*(u*(v*v*v)*q)=u*(q*q*(g*g)):=by clear I J hw O hs he h;grobner
  rcases F.dom he with h|h
  ·exact I (by rw[hv];clear I J hw ht O hs he hv;grobner)
  ·exact J (by rw[hv];clear I J hw ht O hs he hv;grobner)
 ·have hu:u*(v*v*v)*(v*v*v)*v=0:=by rw[ht,h];grobner
  have U:u=0:=by
   rcases F.dom hu with E|E
   ·rcases F.dom E with E|E
    ·rcases F.dom E with E|E
     ·exact E
     ·rcases F.dom E with E|E
      ·rcases F.dom E with E|E<;>(rw[<-hs,E];grobner)
      ·rw[<-hs,E];grobner
    ·rcases F.dom E with E|E
     ·rcases F.dom E with E|E<;>(rw[<-hs,E];grobner)
     ·rw[<-hs,E];grobner
   ·rw[<-hs,E];grobner
  exact I (by unfold W4;rw[U];grobner)
def sS:Zo T 142 [.int .i64 252,.int .u8 2]=some (.agg (u8s (dig 256 32 (2^252-1-2))).toArray):=Sk (n:=252) (less:=2) ww ww ww
def sR:Zo T 142 [.int .i64 253,.int .u8 4]=some (.agg (u8s (dig 256 32 (2^253-1-4))).toArray):=Sk (n:=253) (less:=4) ww ww ww
def Nj(r:List Nat)(ok:Bool):Value := .tuple #[eV r,.bool ok]
def wY{u v:List Nat}(Eu:El u (2^52))(Ev:El v (2^52)) :
  ∃r ok,Zo T 80 [eV u,eV v]=some (Nj r ok)/\El r (2^52)/\(ok=true->fe v*(fe r*fe r)=fe u/\((fe r).val%2=0\/fe r=0))/\(ok=false->∀s,fe v*(s*s)≠fe u):=by
 obtain⟨E,Z,Er1,fr1⟩:=U6 (H:=[{c:=ns .u64 u},{c:=ns .u64 v},{c:=ns .u64 [0,0,0,0,0]},{c:=ns .u64 [v,v,v].flatten}]) (id:=3) (n:=3) (xs:=[v,v,v]) rfl ww (by intro w hw;simp only[J8,Xl,or_false]at hw;rcases hw with rfl|rfl|rfl<;>assumption) rfl
 simp only[J9,Xj,Qp,Qn]at Z
 simp only[J9,Xj,XK,Ya]at fr1
 obtain⟨r2,Y,Er2,fr2⟩:=U6 (H:=[{c:=ns .u64 u},{c:=ns .u64 v},{c:=ns .u64 [0,0,0,0,0]},{c:=ns .u64 [v,v,v].flatten},{c:=ns .u64 E},{c:=ns .u64 E},{c:=ns .u64 v},{c:=ns .u64 v},{c:=ns .u64 v},{c:=ns .u64 E},{c:=ns .u64 [u,E,E,v].flatten}]) (id:=10) (n:=4) (xs:=[u,E,E,v]) rfl ww (by intro w hw;simp only[J8,Xl,or_false]at hw;rcases hw with rfl|rfl|rfl|rfl<;>assumption) rfl
 simp only[J9,Xj,Qp,Qn]at Y
 simp only[J9,Xj,XK,Ya]at fr2
 obtain⟨r3,hr3,Er3,fr3⟩:=HP (n:=252) (less:=2) Er2 ww ww ww
 obtain⟨J,U,Er4,fr4⟩:=U6 (H:=[{c:=ns .u64 u},{c:=ns .u64 v},{c:=ns .u64 [0,0,0,0,0]},{c:=ns .u64 [v,v,v].flatten},{c:=ns .u64 E},{c:=ns .u64 E},{c:=ns .u64 v},{c:=ns .u64 v},{c:=ns .u64 v},{c:=ns .u64 E},{c:=ns .u64 [u,E,E,v].flatten},{c:=ns .u64 r2},{c:=ns .u64 r2},{c:=ns .u64 u},{c:=ns .u64 E},{c:=ns .u64 E},{c:=ns .u64 v},{c:=ns .u64 [u,E,r3].flatten}]) (id:=17) (n:=3) (xs:=[u,E,r3]) rfl ww (by intro w hw;simp only[J8,Xl,or_false]at hw;rcases hw with rfl|rfl|rfl<;>assumption) rfl
 simp only[J9,Xj,Qp,Qn]at U
 simp only[J9,Xj,XK,Ya]at fr4
 obtain⟨r5,O,Er5,fr5⟩:=U6 (H:=[{c:=ns .u64 u},{c:=ns .u64 v},{c:=ns .u64 [0,0,0,0,0]},{c:=ns .u64 [v,v,v].flatten},{c:=ns .u64 E},{c:=ns .u64 E},{c:=ns .u64 v},{c:=ns .u64 v},{c:=ns .u64 v},{c:=ns .u64 E},{c:=ns .u64 [u,E,E,v].flatten},{c:=ns .u64 r2},{c:=ns .u64 r2},{c:=ns .u64 u},{c:=ns .u64 E},{c:=ns .u64 E},{c:=ns .u64 v},{c:=ns .u64 [u,E,r3].flatten},{c:=ns .u64 J},{c:=ns .u64 J},{c:=ns .u64 u},{c:=ns .u64 E},{c:=ns .u64 r3},{c:=ns .u64 J},{c:=ns .u64 [v,J,J].flatten}]) (id:=24) (n:=3) (xs:=[v,J,J]) rfl ww (by intro w hw;simp only[J8,Xl,or_false]at hw;rcases hw with rfl|rfl|rfl<;>assumption) rfl
 simp only[J9,Xj,Qp,Qn]at O
 simp only[J9,Xj,XK,Ya]at fr5
 have k1:=uQ Er5 Eu
 obtain⟨nu,hnu,Enu,fnu⟩:=FB Eu
 have k2:=uQ Er5 Enu
 obtain⟨two,I⟩:∃two:List Nat,two=[2,0,0,0,0]:=⟨_,rfl⟩
 have Etwo:El two (2^52):=by rw[I];exact ix
 have vtwo:Zo T 82 [.int .u32 2]=some (eV two):=by rw[I];exact ir
 have ftwo:fe two=2:=by rw[I];exact P4
 clear I
 obtain⟨j,hj,Ej,fj⟩:=HP (n:=253) (less:=4) Etwo ww ww ww
 obtain⟨q,hq,Eq,fq⟩:=XN Er4 Ej
 obtain⟨n1,hn1,En1,fn1⟩:=FB Er4
 obtain⟨n2,hn2,En2,fn2⟩:=FB Eq
 have o1:=mY Er4
 have o2:=mY Eq
 have c1:=sS
 have c2:=sR
 have g1:=O0 Ev Ev Ev
 have g2:=RI Eu Er1 Er1 Ev
 rw[bH]at g2
 have g3:=O0 Eu Er1 Er3
 have g4:=O0 Ev Er4 Er4
 have hw:fe J=W4 (fe u) (fe v):=by
  rw[fr4,fr3,fr1,fr2,fr1];unfold W4
  rw[show(1*fe u*(1*fe v*fe v*fe v)*(1*fe v*fe v*fe v)*fe v)=fe u*(fe v*fe v*fe v)*(fe v*fe v*fe v)*fe v from by grobner]
  generalize Go.Fp.pow _ _=p
  grobner
 have hjj:fe j=jj:=by rw[fj,ftwo];rfl
 have l1:=Eu.len
 have l2:=Ev.len
 have l3:=Er1.len
 have l4:=Er4.len
 have l5:=Er5.len
 have l6:=Eq.len
 have l7:=En1.len
 have l8:=En2.len
 have hz5:Qc 5 (Value.int .u64 0)=ns .u64 [0,0,0,0,0]:=rfl
 have hf5:fillL (ns .u64 [0,0,0,0,0]) []=some (ns .u64 [0,0,0,0,0]):=rfl
 have l0:([0,0,0,0,0]:List Nat).length=5:=rfl
 clear Ej Etwo ftwo fj
 generalize dig 256 32 (2^252-1-2)=K1,dig 256 32 (2^253-1-4)=K2 at *
 have hsq:fe r5=fe v*W4 (fe u) (fe v)*W4 (fe u) (fe v):=by rw[fr5,hw];generalize W4 (fe u) (fe v)=w;grobner
 have evn:∀a:Go.Fp.Fe,a.val%2=1->(-a).val%2=0 \/ -a=0:=by
  intro a ha
  left
  have hlt:=a.isLt
  have h0:(Go.Fp.P-a.val)<Go.Fp.P:=qr
  have h1:(-a).val=(Go.Fp.P-a.val)%Go.Fp.P:=rfl
  rw[h1,Q6 h0]
  have hP:Go.Fp.P%2=1:=by rw[Go.Fp.BW]
  omega
 by_cases hA:fe r5=fe u
 ·rw[decide_eq_true hA]at k1
  have hroot:fe v*(fe J*fe J)=fe u:=by rw[<-hA,hsq,hw];generalize W4 (fe u) (fe v)=w;grobner
  by_cases hO:(fe J).val%2=1
  ·rw[decide_eq_true hO]at o1
   refine⟨n1,true,?_,En1,fun _=>⟨?_,?_⟩,fun h=>by cases h⟩
   ·apply Zb (fn:=a60) rfl
    simp only[a60,Qv,quiet,cW,↓pW,reduceCtorEq,seval,-Qa,hz5,l0,g1,g2,g3,g4,c1,Z,Y,hr3,U,O,k1,o1,hn1,l1,l2,l3,l4,l5,l7,Q7,QR,Zr,ZZ,Zi,QA,ZY]
    rfl
   ·rw[fn1,<-hroot];generalize fe J=w;grobner
   ·rw[fn1];exact evn _ hO
  ·rw[decide_eq_false hO]at o1
   refine⟨J,true,?_,Er4,fun _=>⟨hroot,by left;omega⟩,fun h=>by cases h⟩
   apply Zb (fn:=a60) rfl
   simp only[a60,Qv,quiet,cW,↓pW,reduceCtorEq,seval,-Qa,hz5,l0,g1,g2,g3,g4,c1,Z,Y,hr3,U,O,k1,o1,l1,l2,l3,l4,l5,Q7,QR,Zr,ZZ,Zi,QA,ZY]
   rfl
 ·rw[decide_eq_false hA]at k1
  by_cases hB:fe r5=fe nu
  ·rw[decide_eq_true hB]at k2
   have hroot:fe v*(fe q*fe q)=fe u:=by
    have hs:=jj_sq
    rw[hsq,fnu]at hB
    rw[fq,hw,hjj]
    generalize W4 (fe u) (fe v)=w at *
    clear k1 k2 o1 o2 c1 c2 hA hsq hw fr1 fr2 fr3 fr4 fr5
    grobner
   by_cases hO:(fe q).val%2=1
   ·rw[decide_eq_true hO]at o2
    refine⟨n2,true,?_,En2,fun _=>⟨?_,?_⟩,fun h=>by cases h⟩
    ·apply Zb (fn:=a60) rfl
     simp only[a60,Qv,quiet,cW,↓pW,reduceCtorEq,seval,-Qa,hz5,l0,g1,g2,g3,g4,c1,c2,Z,Y,hr3,U,O,k1,k2,hnu,vtwo,hj,hq,o2,hn2,l1,l2,l3,l4,l5,l6,l8,Q7,QR,Zr,ZZ,Zi,QA,ZY]
     rfl
    ·rw[fn2,<-hroot];generalize fe q=w;grobner
    ·rw[fn2];exact evn _ hO
   ·rw[decide_eq_false hO]at o2
    refine⟨q,true,?_,Eq,fun _=>⟨hroot,by left;omega⟩,fun h=>by cases h⟩
    apply Zb (fn:=a60) rfl
    simp only[a60,Qv,quiet,cW,↓pW,reduceCtorEq,seval,-Qa,hz5,l0,g1,g2,g3,g4,c1,c2,Z,Y,hr3,U,O,k1,k2,hnu,vtwo,hj,hq,o2,l1,l2,l3,l4,l5,l6,Q7,QR,Zr,ZZ,Zi,QA,ZY]
    rfl
  ·rw[decide_eq_false hB]at k2
   refine⟨[0,0,0,0,0],false,?_,T8,fun h=>(by cases h),fun _ s=>tm (by rw[<-hsq];exact hA) (by rw[<-hsq,<-fnu];exact hB)⟩
   apply Zb (fn:=a60) rfl
   simp only[a60,Qv,quiet,cW,↓pW,reduceCtorEq,seval,-Qa,hz5,hf5,l0,g1,g2,g3,g4,c1,Z,Y,hr3,U,O,k1,k2,hnu,l1,l2,l3,l4,l5,Q7,QR,Zr,ZZ,Zi,QA,ZY]
   rfl
end
section
attribute [local congr] Jw JD Jv JE Jk
variable{i n x a b r:Nat}{k L o:List Nat}{p q:Go.Cv.Pt Go.Fp.P Go.Fp.d}
structure Jac where
 x:Nat
 y:Nat
 z:Nat
 t:Nat
structure JRep(a:Jac)(p:Go.Cv.Pt Go.Fp.P Go.Fp.d):Prop where
 nz:Go.Fp.fp a.z≠0
 x:Go.Fp.fp a.x=p.x*Go.Fp.fp a.z
 y:Go.Fp.fp a.y=p.y*Go.Fp.fp a.z
 t:Go.Fp.fp a.t=p.x*p.y*Go.Fp.fp a.z
def NR(a b:Nat):Nat:=a+(Go.Fp.P-b%Go.Fp.P)
def Gr(a b:Nat):Go.Fp.fp (NR a b)=Go.Fp.fp a-Go.Fp.fp b:=by
 unfold NR
 have h:b%Go.Fp.P<=Go.Fp.P:=JH (Q3 _ (by rw[Go.Fp.BW];decide))
 rw[Go.Fp.Vg,Go.Fp.oH h,Go.Fp.y5,Go.Fp.Yl]
 grobner
def AJ(a b:Jac):Nat:=NR a.y a.x*NR b.y b.x%Go.Fp.P
def AI(a b:Jac):Nat:=(a.y+a.x)*(b.y+b.x)%Go.Fp.P
def AH(a b:Jac):Nat:=1*2*Go.Fp.dN*a.t*b.t%Go.Fp.P
def AG(a b:Jac):Nat:=1*2*a.z*b.z%Go.Fp.P
def jfin(a b c e:Nat):Jac:=⟨NR b a*NR e c%Go.Fp.P,(e+c)*(b+a)%Go.Fp.P,NR e c*(e+c)%Go.Fp.P,NR b a*(b+a)%Go.Fp.P⟩
def Oi(a b:Jac):Jac:=jfin (AJ a b) (AI a b) (AH a b) (AG a b)
def JRep.add{a b:Jac}{p q:Go.Cv.Pt Go.Fp.P Go.Fp.d}(I:JRep a p)(E:JRep b q):JRep (Oi a b) (Xw p q):=by
 have ha:Go.Fp.fp (AJ a b)=(Go.Fp.fp a.y-Go.Fp.fp a.x)*(Go.Fp.fp b.y-Go.Fp.fp b.x):=by
  unfold AJ;rw[Go.Fp.Yl,Go.Fp.Kh,Gr,Gr]
 have hb:Go.Fp.fp (AI a b)=(Go.Fp.fp a.y+Go.Fp.fp a.x)*(Go.Fp.fp b.y+Go.Fp.fp b.x):=by
  unfold AI;rw[Go.Fp.Yl,Go.Fp.Kh,Go.Fp.Vg,Go.Fp.Vg]
 have hc:Go.Fp.fp (AH a b)=1*2*Go.Fp.d*Go.Fp.fp a.t*Go.Fp.fp b.t:=by
  unfold AH;rw[Go.Fp.Yl,Go.Fp.Kh,Go.Fp.Kh,Go.Fp.Kh,Go.Fp.Kh,Go.Fp.Li,Go.Fp.oG];rfl
 have hd:Go.Fp.fp (AG a b)=1*2*Go.Fp.fp a.z*Go.Fp.fp b.z:=by
  unfold AG;rw[Go.Fp.Yl,Go.Fp.Kh,Go.Fp.Kh,Go.Fp.Kh,Go.Fp.Li,Go.Fp.oG]
 have O:Go.Fp.fp (Oi a b).x=(Go.Fp.fp (AI a b)-Go.Fp.fp (AJ a b))*(Go.Fp.fp (AG a b)-Go.Fp.fp (AH a b)):=by
  show Go.Fp.fp (_%_)=_;rw[Go.Fp.Yl,Go.Fp.Kh,Gr,Gr]
 have J:Go.Fp.fp (Oi a b).y=(Go.Fp.fp (AG a b)+Go.Fp.fp (AH a b))*(Go.Fp.fp (AI a b)+Go.Fp.fp (AJ a b)):=by
  show Go.Fp.fp (_%_)=_;rw[Go.Fp.Yl,Go.Fp.Kh,Go.Fp.Vg,Go.Fp.Vg]
 have hz:Go.Fp.fp (Oi a b).z=(Go.Fp.fp (AG a b)-Go.Fp.fp (AH a b))*(Go.Fp.fp (AG a b)+Go.Fp.fp (AH a b)):=by
  show Go.Fp.fp (_%_)=_;rw[Go.Fp.Yl,Go.Fp.Kh,Go.Fp.Vg,Gr]
 have ht:Go.Fp.fp (Oi a b).t=(Go.Fp.fp (AI a b)-Go.Fp.fp (AJ a b))*(Go.Fp.fp (AI a b)+Go.Fp.fp (AJ a b)):=by
  show Go.Fp.fp (_%_)=_;rw[Go.Fp.Yl,Go.Fp.Kh,Go.Fp.Vg,Gr]
 obtain⟨g1,Z,Y,U⟩:=Fj I.x I.y I.t E.x E.y E.t ha hb hc hd O J hz ht (Go.Cv.Hy Go.Fp.fld p q) (Go.Cv.Hx Go.Fp.fld p q)
 refine⟨?_,g1,Z,Y⟩
 rw[U]
 have F:=Go.Fp.fld
 have w:=F.mul_ne (F.mul_ne F.two I.nz) E.nz
 exact F.mul_ne (F.mul_ne w w) (F.mul_ne (F.denM p.on q.on) (F.denP p.on q.on))
def en(p:Jac):Nat->Nat->Jac
 |0,_=>⟨0,1,1,0⟩
 |f+1,k=>(fun r=>if k%2=1 then Oi (Oi r r) p else Oi r r) (en p f (k/2))
def JRep.mul{a:Jac}{p:Go.Cv.Pt Go.Fp.P Go.Fp.d}(h:JRep a p):∀ {f k:Nat},k<2^f->JRep (en a f k) (J2 k p)
 |0,k,I=>by
  have:k=0:=qr
  subst this
  exact⟨Go.Fp.WS,by show(0:Go.Fp.Fe)=0*1;grobner,by show(1:Go.Fp.Fe)=1*1;grobner,by show(0:Go.Fp.Fe)=0*1*1;grobner⟩
 |f+1,k,I=>by
  have E:=JRep.mul h (f:=f) (k:=k/2) qr
  have hb:=Q3 k (by decide:0<2)
  have e:J2 k p=J2 (2*(k/2)+k%2) p:=by rw[ZK]
  rw[e,Fh p (k/2) (k%2) hb]
  simp only[en]
  split
  ·exact(E.add E).add h
  ·exact E.add E
def bT:Jac:=⟨bxN,byN,1,bxN*byN%Go.Fp.P⟩
def FJ:JRep bT X5:=by
 have E:Go.Fp.fp 1=(1:Go.Fp.Fe):=rfl
 refine⟨Go.Fp.WS,?_,?_,?_⟩
 ·show Go.Fp.fp bxN=Go.Fp.fp bxN*Go.Fp.fp 1;rw[E];grobner
 ·show Go.Fp.fp byN=Go.Fp.fp byN*Go.Fp.fp 1;rw[E];grobner
 ·show Go.Fp.fp (bxN*byN%Go.Fp.P)=Go.Fp.fp bxN*Go.Fp.fp byN*Go.Fp.fp 1;rw[E,Go.Fp.Yl,Go.Fp.Kh];grobner
def SZ:J2 8 X5≠Ki:=fun h=>by
 have r:=FJ.mul (f:=4) (k:=8) ww
 rw[h]at r
 have E:=r.x
 rw[show(Ki:Go.Cv.Pt Go.Fp.P Go.Fp.d).x=0 from rfl]at E
 have O:Go.Fp.fp (en bT 4 8).x=Go.Fp.fp 0:=by rw[E];show _=(0:Go.Fp.Fe);grobner
 have J:=Go.Fp.RH.1 O
 have I:(en bT 4 8).x%Go.Fp.P≠0%Go.Fp.P:=by decide +kernel
 exact I J
def nQ{a:Jac}(r:JRep a q)(c1:a.x%Go.Fp.P=0%Go.Fp.P)(c2:a.y%Go.Fp.P=a.z%Go.Fp.P):q=Ki:=by
 have J:=Go.Fp.RH.2 c1
 have I:=Go.Fp.RH.2 c2
 have F:=Go.Fp.fld
 have E:=r.x
 have O:=r.y
 have hz:=r.nz
 rw[J]at E
 rw[I]at O
 generalize Go.Fp.fp a.z=z at *
 apply Go.Cv.Pt.ext
 ·show _=(0:Go.Fp.Fe)
  have U:Go.Fp.fp 0=(0:Go.Fp.Fe):=rfl
  rw[U]at E
  refine F.cancel hz ?_
  generalize q.x=w at *
  clear r O J I
  grobner
 ·show _=(1:Go.Fp.Fe)
  refine F.cancel hz ?_
  generalize q.y=w at *
  clear r E J I
  grobner
def ch(a:Jac):Bool:=Nat.beq (a.x%Go.Fp.P) 0&&Nat.beq (a.y%Go.Fp.P) (a.z%Go.Fp.P)
def pb:ch (en bT 253 ell)=true:=by decide +kernel
def OE:J2 ell X5=Ki:=by
 have h:=pb
 simp only[ch,Jd]at h
 exact nQ (FJ.mul (f:=253) (k:=ell) (by decide +kernel)) (Nat.eq_of_beq_eq_true h.1) (Nat.eq_of_beq_eq_true h.2)
def IH{a:Go.Fp.Fe}(O:a≠0):(-a).val%2≠a.val%2:=by
 have hlt:=a.isLt
 have E:a.val≠0:=fun h=>O (Fin.ext h)
 have J:(-a).val=(Go.Fp.P-a.val)%Go.Fp.P:=rfl
 have I:(Go.Fp.P-a.val)<Go.Fp.P:=qr
 rw[J,Q6 I]
 have U:Go.Fp.P%2=1:=by rw[Go.Fp.BW]
 omega
def bd{a b:Go.Fp.Fe}(h:a*a=b*b):a=b\/a = -b:=by
 have F:=Go.Fp.fld
 have:(a-b)*(a+b)=0:=by grobner
 rcases F.dom this with E|E
 ·left;clear h this;grobner
 ·right;clear h this;grobner
def xP(dd z:Go.Fp.Fe)(hz:z=0):dd*(z*z)+1=1:=by grobner
def ae(y:Go.Fp.Fe):Go.Fp.d*(y*y)+1≠0:=fun h=>by
 have F:=Go.Fp.fld
 have I:y≠0:=by
  intro U
  rw[xP _ _ U]at h
  exact Go.Fp.WS h
 have hi:=Go.Fp.B4 I
 have E:=Go.Fp.PG
 apply Go.Fp.nosq (Go.Fp.iQ*Go.Fp.iv y)
 generalize Go.Fp.d=dd at *
 generalize Go.Fp.iQ=ii at *
 generalize Go.Fp.iv y=w at *
 clear F I
 have O:dd*(y*w)*(y*w)+w*w=0:=by
  have:dd*(y*w)*(y*w)+w*w=(dd*(y*y)+1)*(w*w):=by clear h hi E;grobner
  rw[this,h];clear this h hi E;grobner
 rw[hi]at O
 have J:ii*w*(ii*w)=(ii*ii)*(w*w):=by clear h hi E O;grobner
 rw[J,E]
 clear h hi E J
 grobner
def qF(p:Go.Cv.Pt Go.Fp.P Go.Fp.d):(Go.Fp.d*(p.y*p.y)+1)*(p.x*p.x)=p.y*p.y-1:=by
 have h:=p.on
 unfold Go.Cv.On at h
 generalize Go.Fp.d=dd at *
 generalize p.x=x at *
 generalize p.y=y at *
 grobner
def oZ{q:Go.Cv.Pt Go.Fp.P Go.Fp.d}(h:DI p=DI q):p=q:=by
 unfold DI at h
 have h1:=MP p.y
 have h2:=MP q.y
 have h3:=Q3 p.x.val (by decide:0<2)
 have h4:=Q3 q.x.val (by decide:0<2)
 have O:p.y.val=q.y.val:=qr
 have U:p.x.val%2=q.x.val%2:=qr
 have E:p.y=q.y:=Fin.ext O
 have J:=qF p
 have Z:=qF q
 rw[E,<-Z]at J
 have Y:=Go.Fp.fld.cancel (ae q.y) J
 refine Go.Cv.Pt.ext ?_ E
 rcases bd Y with h|h
 ·exact h
 ·by_cases I:q.x=0
  ·rw[h,I];grobner
  ·exfalso
   have:=IH I
   rw[<-h]at this
   exact this U
def DH(p q:Go.Cv.Pt Go.Fp.P Go.Fp.d):(enc p==enc q)=decide (p=q):=by
 unfold enc
 rw[key_inj (Ll p) (Ll q)]
 by_cases h:p=q
 ·subst h;rw[decide_eq_true rfl,decide_eq_true rfl]
 ·rw[decide_eq_false h,decide_eq_false (fun e=>h (oZ e))]
def y7{a b:List Nat}(ha:RepL a p)(hb:RepL b q):fillL (Qc 40 (Value.int .u64 0)) [(0,20,eV a),(20,20,eV b)]=some (ns .u64 [a,b].flatten):=by
 obtain⟨x1,y1,z1,t1,rfl,I⟩:=ha
 obtain⟨x2,O,J,U,rfl,E⟩:=hb
 obtain⟨a0,a1,a2,a3,a4,rfl,-⟩:=I.ex.five
 obtain⟨b0,b1,b2,b3,b4,rfl,-⟩:=I.ey.five
 obtain⟨c0,c1,c2,c3,c4,rfl,-⟩:=I.ez.five
 obtain⟨d0,d1,d2,d3,d4,rfl,-⟩:=I.et.five
 obtain⟨e0,e1,e2,e3,e4,rfl,-⟩:=E.ex.five
 obtain⟨f0,f1,f2,f3,f4,rfl,-⟩:=E.ey.five
 obtain⟨g0,g1,g2,g3,g4,rfl,-⟩:=E.ez.five
 obtain⟨i0,i1,i2,Z,Y,rfl,-⟩:=E.et.five
 rfl
def Fs(p q:Go.Cv.Pt Go.Fp.P Go.Fp.d):Xw p q=Xw q p:=Go.Cv.add_comm Go.Fp.fld p q
def HT(p q r:Go.Cv.Pt Go.Fp.P Go.Fp.d):Xw (Xw p q) r=Xw p (Xw q r):=Go.Cv.add_assoc Go.Fp.fld p q r
def cf(lk:k.length=32)(E:∀x∈k,x<256):enc p=k↔DI p=num 256 k:=by
 have J:=num_lt E
 rw[lk]at J
 have I:=YN (by decide:0<256) E
 rw[lk]at I
 constructor
 ·intro h
  have:=Kf (B:=256) ww 32 (DI p)
  rw[Q6 (Ll p)]at this
  rw[<-this,<-h];rfl
 ·intro h
  unfold enc
  rw[h,I]
def FV{V:Nat}:DI p=V↔p.y.val=V%2^255/\p.x.val%2=V/2^255:=by
 have J:=MP p.y
 have I:=Q3 p.x.val (by decide:0<2)
 unfold DI
 constructor
 ·intro h;omega
 ·rintro⟨h,E⟩;rw[h,E,Zw,Nat.mod_add_div]
def mL{u v x y:Go.Fp.Fe}(hu:u=y*y-1)(hv:v=Go.Fp.d*(y*y)+1)(h:v*(x*x)=u):Go.Cv.On Go.Fp.d x y:=by
 unfold Go.Cv.On
 generalize Go.Fp.d=dd at *
 subst hu hv
 grobner
def bS(lk:k.length=32)(E:∀x∈k,x<256):∃w,k[31]?=some w/\w<256/\w/128=num 256 k/2^255/\num 256 (k.set 31 (w&&&127))=num 256 k%2^255/\(∀x∈k.set 31 (w&&&127),x<256)/\(k.set 31 (w&&&127)).length=32:=by
 obtain⟨w,hw⟩:∃w,k[31]?=some w:=⟨_,Qg qr⟩
 have I:w<256:=E w (Qw hw)
 have U:=num_lt E
 rw[lk]at U
 have Z:=KL (by decide:0<256) E hw
 have hs:=Vj (B:=256) (w&&&127) hw
 have ha:w&&&127=w%128:=Nat.and_two_pow_sub_one_eq_mod w 7
 refine⟨w,hw,I,?_⟩
 rw[ha]at hs ⊢
 have O:(256:Nat)^31=452312848583266388373324160190187140051835877600158453279131187530910662656:=ww
 have J:(256:Nat)^32=115792089237316195423570985008687907853269984665640564039457584007913129639936:=ww
 have e255:(2:Nat)^255=57896044618658097711785492504343953926634992332820282019728792003956564819968:=ww
 rw[O]at Z hs
 rw[J]at U
 rw[e255]
 refine⟨by omega,by omega,?_,by rw[Qr];exact lk⟩
 intro x Y
 rcases List.mem_or_eq_of_mem_set Y with h|h
 ·exact E x h
 ·omega
def WU(l:List Nat)(c:Int):Value := .tuple #[eV l,.int .i64 c]
def OJ(lk:k.length=32)(xk:∀x∈k,x<256) :
  (∃l p,Zo T 37 [.agg (u8s k).toArray]=some (WU l 0)/\RepL l p/\enc p=k)\/(∃l,Zo T 37 [.agg (u8s k).toArray]=some (WU l 60)/\l.length=20/\∀p,enc p≠k):=by
 obtain⟨w,hw,hw',ht,hm,xm,lm⟩:=bS lk xk
 have hwc:=ZN hw
 have hset:=Xg k 31 (w&&&127)
 have o1:Z3 .and .u8 (w:Int) 127=((w&&&127:Nat):Int):=Y7 (k := .u8) (a:=w) (b:=127) rfl hw' ww
 have hof:=mX lm xm
 have U:=OR lm xm
 rw[hm]at hof U
 rw[Vu]at hof
 have hkey:∀p:Go.Cv.Pt Go.Fp.P Go.Fp.d,enc p=k↔p.y.val=num 256 k%2^255/\p.x.val%2=num 256 k/2^255:=fun p=>by rw[cf lk xk,FV]
 rw[<-ht]at hkey
 have Ey:=NO (V:=num 256 k%2^255)
 have fy:fe (dig (2^51) 5 (num 256 k%2^255))=Go.Fp.fp (num 256 k%2^255):=by unfold fe;rw[A4]
 generalize k.set 31 (w&&&127)=km at *
 generalize dig (2^51) 5 (num 256 k%2^255)=Y at *
 generalize num 256 k%2^255=V at *
 have J:∃O,Qc 20 (Value.int .u64 0)=ns .u64 O/\O.length=20/\fillL (ns .u64 O) []=some (ns .u64 O):=⟨Qc 20 0,rfl,rfl,rfl⟩
 obtain⟨O,J,l0,hf0⟩:=J
 have l1:=Ey.len
 have hz5:Qc 5 (Value.int .u64 0)=ns .u64 [0,0,0,0,0]:=rfl
 have l5:([0,0,0,0,0]:List Nat).length=5:=rfl
 have Z:((((w/128:Nat):Int))==1)=decide (w/128=1):=by
  by_cases h:w/128=1
  ·rw[h];rfl
  ·have:¬(((w/128:Nat):Int)=1):=qr
   rw[decide_eq_false h,beq_eq_false_iff_ne.2 this]
 have hshr:((w:Int)/128)=((w/128:Nat):Int):=rfl
 by_cases hV:V<Go.Fp.P
 ·rw[decide_eq_true hV]at U
  have hYv:(Go.Fp.fp V).val=V:=Q6 hV
  obtain⟨one,hone⟩:∃O:List Nat,O=[1,0,0,0,0]:=⟨_,rfl⟩
  have I:El one (2^52):=by rw[hone];exact Rk
  have vone:Zo T 82 [.int .u32 1]=some (eV one):=by rw[hone];exact mK
  have E:fe one=1:=by rw[hone];exact Rj
  clear hone
  obtain⟨yy,hyy,Eyy,fyy⟩:=XN Ey Ey
  obtain⟨D,hD,ED,fD⟩:=AT
  obtain⟨uu,huu,Euu,fuu⟩:=R7 Eyy I
  obtain⟨dy,hdy,Edy,fdy⟩:=XN ED Eyy
  obtain⟨vv,sv,hvv,Evv,fvv⟩:=WD (H:=[{c:=u8s km},{c:=ns .u64 O},{c:=ns .u64 Y},{c:=ns .u64 yy},{c:=ns .u64 (dy++one)}]) (id:=4) Edy I rfl
  simp only[Qp,Qn]at hvv
  obtain⟨r,ok,hr,Er,hok,hno⟩:=wY Euu Evv
  have hf2:=RJ Edy I
  have l6:=Eyy.len
  have l7:=Er.len
  have kz:=nR Er
  obtain⟨nr,hnr,Enr,fnr⟩:=FB Er
  obtain⟨t1,ht1,Et1,ft1⟩:=XN Er Ey
  obtain⟨t2,ht2,Et2,ft2⟩:=XN Enr Ey
  have g1:=RI Er Ey I Et1
  have g2:=RI Enr Ey I Et2
  rw[J]at g1 g2
  have q1:=Yh Er Ey I Et1
  have q2:=Yh Enr Ey I Et2
  have l8:=Enr.len
  have hu:fe uu=Go.Fp.fp V*Go.Fp.fp V-1:=by rw[fuu,fyy,fy,E]
  have hv:fe vv=Go.Fp.d*(Go.Fp.fp V*Go.Fp.fp V)+1:=by rw[fvv,fdy,fD,fyy,fy,E]
  have hyp:∀p:Go.Cv.Pt Go.Fp.P Go.Fp.d,enc p=k->p.y=Go.Fp.fp V:=fun p hp=>Fin.ext (by rw[hYv];exact((hkey p).1 hp).1)
  have hxx:∀p:Go.Cv.Pt Go.Fp.P Go.Fp.d,enc p=k->fe vv*(p.x*p.x)=fe uu:=fun p hp=>by
   have:=qF p
   rw[hyp p hp]at this
   rw[hu,hv];exact this
  have rft:∀b:Bool,rf (Value.tuple #[eV r,.bool b])=true:=fun b=>Gl (a:=eV r) (b := .bool b) (ZY r) rfl
  cases ok with
  |false =>
   refine .inr ⟨O,?_,l0,fun p hp=>hno rfl p.x (hxx p hp)⟩
   apply X6
   apply Zk
   rw[Q9 (fn:=a31) rfl]
   simp only[a31,Qv,quiet,cW,↓pW,reduceCtorEq,seval,-Qa,cU,J,hf0,hz5,hwc,hset,o1,hof,U,Z,vone,hyy,hD,huu,hdy,hf2,hvv,hr,Q7,QR,Zr,ZZ,Zi,QA,Qq,lk,lm,l0,l1,l5,l6,l7,Nj,rft,ZY]
   rfl
  |true =>
   obtain⟨hroot,hev⟩:=hok rfl
   have hev':(fe r).val%2=0:=by
    rcases hev with h|h
    ·exact h
    ·rw[h];rfl
   by_cases hb:w/128=1
   ·rw[decide_eq_true hb]at Z
    by_cases h0:fe r=0
    ·rw[decide_eq_true h0]at kz
     refine .inr ⟨O,?_,l0,fun p hp =>?_⟩
     ·apply X6
      apply Zk
      rw[Q9 (fn:=a31) rfl]
      simp only[a31,Qv,quiet,cW,↓pW,reduceCtorEq,seval,-Qa,cU,J,hf0,hz5,hwc,hset,o1,hof,U,Z,vone,hyy,hD,huu,hdy,hf2,hvv,hr,Q7,QR,Zr,ZZ,Zi,QA,Qq,lk,lm,l0,l1,l5,l6,l7,Nj,rft,ZY,kz]
      rfl
     ·have h2:=((hkey p).1 hp).2
      have h3:=hxx p hp
      rw[<-hroot,h0]at h3
      have h4:p.x*p.x=0*0:=Go.Fp.fld.cancel (by rw[hv];exact ae _) h3
      rcases bd h4 with h5|h5
      ·rw[h5,hb]at h2;exact absurd h2 ww
      ·rw[h5,hb]at h2;exact absurd h2 ww
    ·rw[decide_eq_false h0]at kz
     have hroot':fe vv*(-fe r * -fe r)=fe uu:=by rw[<-hroot];generalize fe r=a;generalize fe vv=b;grobner
     refine .inl ⟨pL nr Y one t2,⟨-fe r,Go.Fp.fp V,mL hu hv hroot'⟩,?_,⟨nr,Y,one,t2,rfl,Enr,Ey,I,Et2,by rw[E];exact Go.Fp.WS,?_,?_,?_⟩,(hkey _).2 ⟨hYv,?_⟩⟩
     ·generalize pL nr Y one t2=L at *
      apply X6
      apply Zk
      rw[Q9 (fn:=a31) rfl]
      simp only[a31,Qv,quiet,cW,↓pW,reduceCtorEq,seval,-Qa,cU,J,hz5,hwc,hset,o1,hof,U,Z,vone,hyy,hD,huu,hdy,hf2,hvv,hr,Q7,QR,Zr,ZZ,Zi,QA,Qq,lk,lm,l0,l1,l5,l6,l7,Nj,rft,ZY,kz,hnr,ht2,g2,q2,l8]
      rfl
     ·rw[fnr,E];show -fe r = -fe r*1;generalize fe r=a;grobner
     ·rw[fy,E];show Go.Fp.fp V=Go.Fp.fp V*1;generalize Go.Fp.fp V=a;grobner
     ·rw[ft2,fnr,fy,E];show -fe r*Go.Fp.fp V = -fe r*Go.Fp.fp V*1;generalize Go.Fp.fp V=a;generalize fe r=b;grobner
     ·have:=IH h0
      rw[hev']at this
      show(-fe r).val%2=_
      rw[hb];omega
   ·rw[decide_eq_false hb]at Z
    refine .inl ⟨pL r Y one t1,⟨fe r,Go.Fp.fp V,mL hu hv hroot⟩,?_,⟨r,Y,one,t1,rfl,Er,Ey,I,Et1,by rw[E];exact Go.Fp.WS,?_,?_,?_⟩,(hkey _).2 ⟨hYv,?_⟩⟩
    ·generalize pL r Y one t1=L at *
     apply X6
     apply Zk
     rw[Q9 (fn:=a31) rfl]
     simp only[a31,Qv,quiet,cW,↓pW,reduceCtorEq,seval,-Qa,cU,J,hz5,hwc,hset,o1,hof,U,Z,vone,hyy,hD,huu,hdy,hf2,hvv,hr,Q7,QR,Zr,ZZ,Zi,QA,Qq,lk,lm,l0,l1,l5,l6,l7,Nj,rft,ZY,ht1,g1,q1]
     rfl
    ·rw[E];show fe r=fe r*1;generalize fe r=a;grobner
    ·rw[fy,E];show Go.Fp.fp V=Go.Fp.fp V*1;generalize Go.Fp.fp V=a;grobner
    ·rw[ft1,fy,E];show fe r*Go.Fp.fp V=fe r*Go.Fp.fp V*1;generalize Go.Fp.fp V=a;generalize fe r=b;grobner
    ·show(fe r).val%2=_
     rw[hev'];omega
 ·rw[decide_eq_false hV]at U
  refine .inr ⟨O,?_,l0,fun p hp=>hV ?_⟩
  ·apply X6
   apply Zk
   rw[Q9 (fn:=a31) rfl]
   simp only[a31,Qv,quiet,cW,↓pW,reduceCtorEq,seval,-Qa,cU,J,hf0,hz5,hwc,hset,o1,hof,U,Z,Q7,QR,Zr,ZZ,Zi,QA,Qq,lk,lm,l0,l1,l5,ZY]
   rfl
  ·rw[<-((hkey p).1 hp).1];exact p.y.isLt
def pf(n:Nat)(L:List Nat)(i:Nat):List Nat:=L.take i++Qc (n-i) 0
def Vx(n:Nat)(L:List Nat):pf n L 0=Qc n 0:=by simp[pf]
def Vy(h:L.length=n):pf n L n=L:=by simp[pf,<-h]
def Vm(h:L.length=n)(hi:i<=n):(pf n L i).length=n:=by simp[pf];omega
def K7(h:L.length=n)(hi:i<n)(E:L[i]?=some x):(pf n L i).set i x=pf n L (i+1):=by
 unfold pf
 rw[Q1 _ _ (by simp;omega)]
 have J:(L.take i).length=i:=by simp;omega
 rw[J,Qs]
 have I:n-i=(n-(i+1))+1:=qr
 rw[I,Xr,VA,Zh,E]
 simp
structure Nm(l:List Nat):Prop where
 len:l.length=16
 lt:∀x∈l,x<65536
def Nm.num_lt{l:List Nat}(h:Nm l):num 65536 l<2^256:=by
 have:=Go.Ev.num_lt h.lt
 rw[h.len]at this
 exact this
def Nm.dig(v:Nat):Nm (dig 65536 16 v):=⟨Ze _ _ _,fun x h=>Vt ww h⟩
def Nm.eq{l:List Nat}(h:Nm l):l=Go.Ev.dig 65536 16 (num 65536 l):=by
 have:=YN (B:=65536) ww h.lt
 rw[h.len]at this
 exact this.symm
def Nm.inj{l m:List Nat}(h:Nm l)(E:Nm m)(e:num 65536 l=num 65536 m):l=m:=by rw[h.eq,E.eq,e]
def VD{v:Nat}(h:v<2^256):num 65536 (dig 65536 16 v)=v:=by
 rw[Kf ww];exact Q6 h
def nf(l:List Nat):Go.Fp.Fe:=Go.Fp.fp (num 65536 l)
def cN(E:∀x∈k,x<256){y:Nat}(J:k[2*i]?=some x)(I:k[2*i+1]?=some y):num 256 k/65536^i%65536=x+256*y:=by
 have U:=KL (B:=256) ww E J
 have O:=KL (B:=256) ww E I
 have e:(65536:Nat)^i=256^(2*i):=by rw[show(65536:Nat)=256^2 from rfl,<-Jj]
 rw[e]
 rw[Zn,<-Zc]at O
 omega
def J1:List Nat:=Qc 16 0
def Vf:Qc 16 (Value.int .u64 0)=ns .u64 J1:=rfl
def WZ:fillL (ns .u64 J1) []=some (ns .u64 J1):=rfl
def Kw:J1.length=16:=rfl
def wn(h:n<9223372036854775808):IntKind.i64.wrap (n:Int)=n:=ZC h
def Wd(h:n<18446744073709551616):IntKind.u64.wrap (n:Int)=n:=by rw[YJ,Q6 h]
def Yw(h:a+b<18446744073709551616):IntKind.u64.wrap ((a:Int)+(b:Int))=((a+b:Nat):Int):=by rw[<-Kz];exact Wd h
def W1(h:a*b<18446744073709551616):IntKind.u64.wrap ((a:Int)*(b:Int))=((a*b:Nat):Int):=by rw[<-Jy];exact Wd h
def Zm(h:a+b<9223372036854775808):IntKind.i64.wrap ((a:Int)+(b:Int))=((a+b:Nat):Int):=by rw[<-Kz];exact wn h
def Yb(h:a*b<9223372036854775808):IntKind.i64.wrap ((a:Int)*(b:Int))=((a*b:Nat):Int):=by rw[<-Jy];exact wn h
def PH(k o:List Nat)(i:Int)(ex:Env):St:=⟨[(1,.pointer (0:Nat)),(2,.pointer (1:Nat)),(3,.pointer (2:Nat)),(4,.int .i64 i)]++ex,[{c:=u8s k},{c:=ns .u64 J1},{c:=ns .u64 o}],[]⟩
def kj(lk:k.length=32)(Y:∀x∈k,x<256)(hi:i<16) :
  Q4 T 0 C7 (PH k (pf 16 (dig 65536 16 (num 256 k)) i) i [])=some (.normal,PH k (pf 16 (dig 65536 16 (num 256 k)) (i+1)) ((i+1:Nat):Int) []):=by
 obtain⟨x,U⟩:∃x,k[2*i]?=some x:=⟨_,Qg qr⟩
 obtain⟨y,O⟩:∃y,k[2*i+1]?=some y:=⟨_,Qg qr⟩
 have hd:=cN Y U O
 have hg:(dig 65536 16 (num 256 k))[i]?=some (x+256*y):=by rw[Kc hi,hd]
 have hstep:=K7 (Ze _ _ _) hi hg
 have hlen:=Vm (Ze 65536 16 (num 256 k)) (JH hi)
 have E:=JL .u64 (pf 16 (dig 65536 16 (num 256 k)) i) i (x+256*y)
 rw[hstep]at E
 have J:=ZN U
 have I:=ZN O
 have w1:IntKind.i64.wrap ((i:Int)+1)=((i+1:Nat):Int):=Zm (b:=1) qr
 have w2:IntKind.i64.wrap (2*(i:Int))=((2*i:Nat):Int):=Yb (a:=2) qr
 have w3:IntKind.i64.wrap (((2*i:Nat):Int)+1)=((2*i+1:Nat):Int):=Zm (b:=1) qr
 have w4:IntKind.u64.wrap (x:Int)=(x:Int):=Wd qr
 have w5:IntKind.u64.wrap (y:Int)=(y:Int):=Wd qr
 have w6:IntKind.u64.wrap (256*(y:Int))=((256*y:Nat):Int):=W1 (a:=256) qr
 have Z:IntKind.u64.wrap ((x:Int)+((256*y:Nat):Int))=((x+256*y:Nat):Int):=Yw qr
 have e1:((i:Int)<16)=True:=wr
 have e2:(((2*i:Nat):Int)<32)=True:=wr
 have e3:(((2*i+1:Nat):Int)<32)=True:=wr
 have e4:(i<=15)=True:=wr
 generalize pf 16 (dig 65536 16 (num 256 k)) i=o at *
 generalize hj:2*i=j at *
 generalize hj1:j+1=j1 at *
 generalize hv:256*y=v at *
 simp only[PH,C7,Qv,quiet,cW,↓pW,reduceCtorEq,seval,-Qa,J,I,w1,w2,w3,w4,w5,w6,Z,e1,e2,e3,e4,E,QA,hlen]
def rof_v(lk:k.length=32)(xk:∀x∈k,x<256):Zo T 99 [.agg (u8s k).toArray]=some (eV (dig 65536 16 (num 256 k%2^255))):=by
 have hb:=JB (T:=T) (base:=0) (id:=0) (body:=C7) (fun i=>PH k (pf 16 (dig 65536 16 (num 256 k)) i) i []) (s':=PH k (dig 65536 16 (num 256 k)) 16 [(7,.bool false)]) 16
  (fun i hi=>kj lk xk hi) (by
   rw[Vy (Ze _ _ _)]
   simp only[PH,C7,Qv,quiet,cK,↓pQ,reduceCtorEq,seval,-Qa,cL])
 rw[Vx]at hb
 have hV:=num_lt xk
 rw[lk]at hV
 have hN:=Nm.dig (num 256 k)
 obtain⟨w,hw⟩:∃w,(dig 65536 16 (num 256 k))[15]?=some w:=⟨_,Qg (by rw[Ze];omega)⟩
 have O:w=num 256 k/65536^15%65536:=by rw[Kc ww]at hw;exact(JJ hw).symm
 have hs:=Vj (B:=65536) (w%32768) hw
 rw[VD hV]at hs
 have J:(dig 65536 16 (num 256 k)).set 15 (w%32768)=dig 65536 16 (num 256 k%2^255):=by
  have hNs:Nm ((dig 65536 16 (num 256 k)).set 15 (w%32768)):=⟨by rw[Qr,Ze],Yf hN.lt qr⟩
  refine hNs.eq.trans (congrArg (dig 65536 16) ?_)
  have I:(65536:Nat)^15=1766847064778384329583297500742918515827483896875618958121606201292619776:=ww
  have e255:(2:Nat)^255=57896044618658097711785492504343953926634992332820282019728792003956564819968:=ww
  have e256:(256:Nat)^32=115792089237316195423570985008687907853269984665640564039457584007913129639936:=ww
  have hq:w=num 256 k/65536^15:=by
   rw[I]at O ⊢
   rw[e256]at hV
   omega
  have Y:num 256 k/2^255=w/32768:=by
   rw[hq,I,e255]
   omega
  have hdm:=ZK (num 256 k) (2^255)
  rw[Y]at hdm
  rw[I]at hs
  rw[e255]at *
  omega
 have E:=JL .u64 (dig 65536 16 (num 256 k)) 15 (w%32768)
 rw[J]at E
 have U:=Z4 (k := .u64) hw
 have l1:=Ze 65536 16 (num 256 k)
 have l2:=Ze 65536 16 (num 256 k%2^255)
 have hm:((w:Int).tmod 32768)=((w%32768:Nat):Int):=rfl
 simp only[PH,Qp,Qn,Zx]at hb
 have hz:=Vf
 have hf:=WZ
 have lz:=Kw
 rw[show Qc 16 0=J1 from rfl]at hb
 generalize J1=Z at *
 generalize dig 65536 16 (num 256 k)=D,dig 65536 16 (num 256 k%2^255)=R at *
 apply Zb (fn:=a65) rfl
 simp only[a65,Qv,quiet,cW,↓pW,reduceCtorEq,seval,-Qa,hz,hf,hb,U,hm,E,Q7,QR,Zr,ZZ,Zi,QA,l1,l2,lz]
 rfl
def Tm(h:b<=a)(ha:a<18446744073709551616):IntKind.u64.wrap ((a:Int)-(b:Int))=((a-b:Nat):Int):=by rw[Wb];omega
def RV{n:Nat}{p q:List Nat}(hp:p.length=n)(E:q.length=n):JK (Qc n true) (ns .u64 p) (ns .u64 q)=some (p==q):=by
 induction n generalizing p q with
 |zero=>cases p with
  |nil=>cases q with
   |nil=>rfl
   |cons=>cases E
  |cons=>cases hp
 |succ n I=>cases p with
  |nil=>cases hp
  |cons a p=>cases q with
   |nil=>cases E
   |cons b q =>
    have:=I (p:=p) (q:=q) (by simpa using hp) (by simpa using E)
    rw[Yy,Yy,Xr]
    simp only[JK,this,BN,if_true,Qk,List.cons_beq_cons]
    congr 2
    by_cases h:a=b
    ·subst h;simp
    ·have J:¬(a:Int)=(b:Int):=qr
     rw[beq_eq_false_iff_ne.2 h,beq_eq_false_iff_ne.2 J]
def KO:List Nat:=dig 65536 16 Go.Fp.P
def VS:Nm KO:=Nm.dig _
def Wh:num 65536 KO=Go.Fp.P:=by decide +kernel
def PF(o:List Nat)(i:Int)(ex:Env):St:=⟨[(0,.pointer (0:Nat)),(1,.pointer (1:Nat)),(2,.int .i64 i)]++ex,[{c:=ns .u64 J1},{c:=ns .u64 o}],[]⟩
def kg(hi:i<16) :
  Q4 T 0 Cs (PF (pf 16 (Qc 16 65535) i) i [])=some (.normal,PF (pf 16 (Qc 16 65535) (i+1)) ((i+1:Nat):Int) []):=by
 have J:(Qc 16 65535).length=16:=rfl
 have U:(Qc 16 65535)[i]?=some 65535:=by rw[YD,if_pos hi]
 have hstep:=K7 J hi U
 have hlen:=Vm J (JH hi)
 have E:=JL .u64 (pf 16 (Qc 16 65535) i) i 65535
 rw[hstep]at E
 have I:(ns .u64 (pf 16 (Qc 16 65535) i)).set i (.int .u64 65535)=ns .u64 (pf 16 (Qc 16 65535) (i+1)):=E
 clear E
 have O:IntKind.i64.wrap ((i:Int)+1)=((i+1:Nat):Int):=Zm (b:=1) qr
 have Z:((i:Int)<16)=True:=wr
 have Y:(i<=15)=True:=wr
 generalize pf 16 (Qc 16 65535) i=o at *
 simp only[PF,Cs,Qv,quiet,cW,↓pW,reduceCtorEq,seval,-Qa,O,Z,Y,I,QA,hlen]
def Bq:Zo T 150 []=some (eV KO):=by
 have hb:=JB (T:=T) (base:=0) (id:=0) (body:=Cs) (fun i=>PF (pf 16 (Qc 16 65535) i) i []) (s':=PF (Qc 16 65535) 16 [(5,.bool false)]) 16
  (fun i hi=>kg hi) (by
   rw[Vy (n:=16) (L:=Qc 16 65535) rfl]
   simp only[PF,Cs,Qv,quiet,cK,↓pQ,reduceCtorEq,seval,-Qa,cL])
 rw[Vx,show Qc 16 0=J1 from rfl]at hb
 simp only[PF,Qp,Qn,Zx]at hb
 have hz:=Vf
 have U:=WZ
 have E:=Kw
 have s1:(ns .u64 (Qc 16 65535)).set 0 (.int .u64 65517)=ns .u64 (65517::Qc 15 65535):=rfl
 have s2:(ns .u64 (65517::Qc 15 65535)).set 15 (.int .u64 32767)=ns .u64 KO:=by
  have:KO=(65517::Qc 15 65535).set 15 32767:=by decide +kernel
  rw[this];rfl
 have O:(Qc 16 65535).length=16:=rfl
 have J:(65517::Qc 15 65535).length=16:=rfl
 have I:=VS.len
 generalize J1=Z at *
 generalize KO=R at *
 generalize 65517::Qc 15 65535=M at *
 generalize Qc 16 65535=L at *
 apply Zb (fn:=a87) rfl
 simp only[a87,Qv,quiet,cW,↓pW,reduceCtorEq,seval,-Qa,hz,U,hb,s1,s2,Q7,QR,Zr,ZZ,Zi,QA,O,J,I,E]
 rfl
def Xn(n:Nat):List Nat:=n%65536::n/65536%65536::Qc 14 0
def K6(n:Nat):Nm (Xn n):=⟨rfl,fun x E=>by
 simp only[Xn,J8,Be]at E
 omega⟩
def Vk(h:n<4294967296):num 65536 (Xn n)=n:=by
 have:num 65536 (Qc 14 0)=0:=ww
 simp only[Xn,num,this]
 omega
def PC(a b:Nat):fillL (ns .u64 J1) [(0,1,.int .u64 (a:Int)),(1,1,.int .u64 (b:Int))]=some (ns .u64 (a::b::Qc 14 0)):=rfl
def Yg(n:Nat)(hn:n<18446744073709551616):Zo T 104 [.int .u64 (n:Nat)]=some (eV (Xn n)):=by
 have hz:=Vf
 have I:=Kw
 have O:=PC (n%65536) (n/65536%65536)
 have e1:(n:Int).tmod 65536=((n%65536:Nat):Int):=rfl
 have Y:(n:Int).tdiv 65536=((n/65536:Nat):Int):=rfl
 have U:(((n/65536:Nat):Int)).tmod 65536=((n/65536%65536:Nat):Int):=rfl
 have E:IntKind.u64.wrap ((n/65536:Nat):Int)=((n/65536:Nat):Int):=Wd qr
 have J:(n%65536::n/65536%65536::Qc 14 0).length=16:=rfl
 unfold Xn
 generalize J1=Z at *
 generalize n%65536::n/65536%65536::Qc 14 0=R at *
 apply Zb (fn:=a70) rfl
 simp only[a70,Qv,quiet,cW,↓pW,reduceCtorEq,seval,-Qa,hz,O,e1,Y,U,E,Q7,QR,Zr,ZZ,Zi,QA,J,I]
 rfl
def mh(h:o.length=i)(hi:i<n):(o++Qc (n-i) 0).set i x=(o++[x])++Qc (n-(i+1)) 0:=by
 rw[Q1 _ _ qr,h,Qs]
 have E:n-i=(n-(i+1))+1:=qr
 rw[E,Xr,VA]
 simp
def sH(h:o.length=i)(hi:i<=n):(o++Qc (n-i) 0).length=n:=by simp;omega
def NP(B:Nat)(o:List Nat)(x:Nat):num B (o++[x])=num B o+B^o.length*x:=by
 rw[KV];simp[num]
def rmI(a b o:List Nat)(r:Nat)(i:Int)(ex:Env):St:=⟨[(2,.pointer (0:Nat)),(3,.pointer (1:Nat)),(4,.pointer (2:Nat)),(5,.pointer (3:Nat)),(6,.int .u64 r),(7,.int .i64 i)]++ex,[{c:=ns .u64 a},{c:=ns .u64 b},{c:=ns .u64 J1},{c:=ns .u64 o}],[]⟩
def rN{a b:List Nat}(ha:Nm a)(hb:Nm b)(hi:i<16)(Z:o.length=i)(hr:r<=1)(xo:∀x∈o,x<65536)
 (hn:num 65536 (a.take i)+65536^i*r=num 65536 (b.take i)+num 65536 o) :
    ∃x r',Q4 T 0 Co (rmI a b (o++Qc (16-i) 0) r i [])=some (.normal,rmI a b ((o++[x])++Qc (16-(i+1)) 0) r' ((i+1:Nat):Int) [])/\x<65536/\r'<=1 /\
      num 65536 (a.take (i+1))+65536^(i+1)*r'=num 65536 (b.take (i+1))+num 65536 (o++[x]):=by
  obtain⟨x,Y⟩:∃x,a[i]?=some x:=⟨_,Qg (by rw[ha.len];omega)⟩
  obtain⟨y,J⟩:∃y,b[i]?=some y:=⟨_,Qg (by rw[hb.len];omega)⟩
  have hx':=ha.lt x (Qw Y)
  have hy':=hb.lt y (Qw J)
  refine⟨(x+65536-y-r)%65536,1-(x+65536-y-r)/65536,?_,by omega,by omega,?_⟩
  · have E:=JL .u64 (o++Qc (16-i) 0) i ((x+65536-y-r)%65536)
    rw[mh Z hi]at E
    have hlen:=sH Z (JH hi)
    have U:=Z4 (k := .u64) Y
    have I:=Z4 (k := .u64) J
    have l1:=ha.len
    have l2:=hb.len
    have w1:IntKind.i64.wrap ((i:Int)+1)=((i+1:Nat):Int):=Zm (b:=1) qr
    have w2:IntKind.u64.wrap ((x:Int)+65536)=((x+65536:Nat):Int):=Yw (b:=65536) qr
    have w3:IntKind.u64.wrap (((x+65536:Nat):Int)-(y:Int))=((x+65536-y:Nat):Int):=Tm qr qr
    have w4:IntKind.u64.wrap (((x+65536-y:Nat):Int)-(r:Int))=((x+65536-y-r:Nat):Int):=Tm qr qr
    have w5:(((x+65536-y-r:Nat):Int)).tmod 65536=(((x+65536-y-r)%65536:Nat):Int):=rfl
    have w6:IntKind.u64.wrap ((((x+65536-y-r:Nat):Int)).tdiv 65536)=(((x+65536-y-r)/65536:Nat):Int):=Wd (n:=(x+65536-y-r)/65536) qr
    have w7:IntKind.u64.wrap (1-(((x+65536-y-r)/65536:Nat):Int))=((1-(x+65536-y-r)/65536:Nat):Int):=Tm (a:=1) qr qr
    have e1:((i:Int)<16)=True:=wr
    have e4:(i<=15)=True:=wr
    generalize(o++Qc (16-i) 0)=O at *
    generalize(o++[(x+65536-y-r)%65536]++Qc (16-(i+1)) 0)=O' at *
    generalize(x+65536-y-r)/65536=q at *
    generalize(x+65536-y-r)%65536=m at *
    generalize x+65536-y-r=v1 at *
    generalize x+65536-y=v2 at *
    generalize x+65536=v3 at *
    generalize 1-q=v4 at *
    generalize i+1=i1 at *
    simp only[rmI,Co,Qv,quiet,cW,↓pW,reduceCtorEq,seval,-Qa,U,I,w1,w2,w3,w4,w5,w6,w7,e1,e4,E,QA,hlen]
  · rw[JY Y,JY J,NP,Z]
    have h:x+65536*(1-(x+65536-y-r)/65536)=y+r+(x+65536-y-r)%65536:=qr
    generalize(x+65536-y-r)%65536=m at *
    generalize 1-(x+65536-y-r)/65536=q at *
    have h2:=congrArg (fun t=>t*65536^i) h
    simp only[Zl]at h2
    rw[Zn]
    generalize 65536^i=p at *
    rw[Zw p r]at hn
    rw[ZI p,Zw p (65536*q),Zw p m]
    omega
def TX{a b:List Nat}(ha:Nm a)(hb:Nm b)(h:num 65536 b<=num 65536 a):Zo T 153 [eV a,eV b]=some (eV (dig 65536 16 (num 65536 a-num 65536 b))):=by
 obtain⟨st,Y,o,r,rfl,E,U,J,I⟩:=QM (T:=T) (base:=0) (id:=0) (body:=Co)
  (fun i st=>∃(o:List Nat) (r:Nat),st=rmI a b (o++Qc (16-i) 0) r i []/\o.length=i/\r<=1/\(∀x∈o,x<65536)/\num 65536 (a.take i)+65536^i*r=num 65536 (b.take i)+num 65536 o)
  (Q:=fun st=>∃(o:List Nat) (r:Nat),st=rmI a b o r 16 [(11,.bool false)]/\o.length=16/\r<=1/\(∀x∈o,x<65536)/\num 65536 a+65536^16*r=num 65536 b+num 65536 o)
  16 (s:=rmI a b J1 0 0 []) ⟨[],0,rfl,rfl,by omega,by simp,by simp[num]⟩
  (fun i st hi hs=>by
   obtain⟨o,r,rfl,E,U,J,I⟩:=hs
   obtain⟨x,r',g1,g2,g3,g4⟩:=rN ha hb hi E U J I
   refine⟨_,g1,o++[x],r',rfl,by simp[E],g3,?_,g4⟩
   intro y O
   rcases QB.1 O with O|O
   ·exact J y O
   ·rw[Zu.1 O];exact g2)
  (fun st hs=>by
   obtain⟨o,r,rfl,E,U,J,I⟩:=hs
   rw[Qo (by rw[ha.len];omega),Qo (by rw[hb.len];omega)]at I
   refine⟨_,?_,o,r,rfl,E,U,J,I⟩
   rw[Qs,List.replicate_zero,QF]
   simp only[rmI,Co,Qv,quiet,cK,↓pQ,reduceCtorEq,seval,-Qa,cL])
 have hN:Nm o:=⟨E,J⟩
 have hlt:=hN.num_lt
 have hr:r=0:=by
  rcases ZP r with h0|h0
  ·exact h0
  ·exfalso
   have:r=1:=qr
   subst this
   rw[show(65536:Nat)^16=2^256 by decide]at I
   generalize(2:Nat)^256=M at *
   omega
 subst hr
 have ho:o=dig 65536 16 (num 65536 a-num 65536 b):=by
  rw[hN.eq]
  refine congrArg (dig 65536 16) ?_
  generalize(65536:Nat)^16=M at *
  omega
 rw[<-ho]
 have hz:=Vf
 have hf:=WZ
 have lz:=Kw
 have l1:=ha.len
 have l2:=hb.len
 simp only[rmI,Qp,Qn,Zx]at Y
 generalize J1=Z at *
 apply Zb (fn:=a90) rfl
 simp only[a90,Qv,quiet,cW,↓pW,reduceCtorEq,seval,-Qa,hz,hf,Y,Q7,QR,Zr,ZZ,Zi,QA,E,lz]
 rfl
def JW(x r:Nat):Nat:=x/2^r+x*2^(64-r)%18446744073709551616
def sg0(x:Nat):Nat:=JW x 1^^^JW x 8^^^(x/2^7)
def sg1(x:Nat):Nat:=JW x 19^^^JW x 61^^^(x/2^6)
def Sg0(x:Nat):Nat:=JW x 28^^^JW x 34^^^JW x 39
def Sg1(x:Nat):Nat:=JW x 14^^^JW x 18^^^JW x 41
def chO(e f g:Nat):Nat:=(e&&&f)^^^((18446744073709551615^^^e)&&&g)
def maO(a b c:Nat):Nat:=(a&&&b)^^^(a&&&c)^^^(b&&&c)
def be(l:List Nat):Nat:=l.foldl (fun a x=>a*256+x) 0
def vU(w:List Nat):Nat:=(w.getD (w.length-16) 0+w.getD (w.length-7) 0+sg0 (w.getD (w.length-15) 0)+sg1 (w.getD (w.length-2) 0))%18446744073709551616
def Bj:Nat->List Nat->List Nat
 |0,l=>l
 |n+1,l=>Bj n l++[vU (Bj n l)]
def EM(b:List Nat):List Nat:=(Jn 16).map fun i=>be ((b.drop (8*i)).take 8)
def JX(b:List Nat):List Nat:=Bj 64 (EM b)
def Vr:List Nat:=[4794697086780616226,8158064640168781261,13096744586834688815,16840607885511220156,4131703408338449720,6480981068601479193,10538285296894168987,12329834152419229976,15566598209576043074,1334009975649890238,2608012711638119052,6128411473006802146,8268148722764581231,9286055187155687089,11230858885718282805,13951009754708518548,16472876342353939154,17275323862435702243,1135362057144423861,2597628984639134821,3308224258029322869,5365058923640841347,6679025012923562964,8573033837759648693,10970295158949994411,12119686244451234320,12683024718118986047,13788192230050041572,14330467153632333762,15395433587784984357,489312712824947311,1452737877330783856,2861767655752347644,3322285676063803686,5560940570517711597,5996557281743188959,7280758554555802590,8532644243296465576,9350256976987008742,10552545826968843579,11727347734174303076,12113106623233404929,14000437183269869457,14369950271660146224,15101387698204529176,15463397548674623760,17586052441742319658,1182934255886127544,1847814050463011016,2177327727835720531,2830643537854262169,3796741975233480872,4115178125766777443,5681478168544905931,6601373596472566643,7507060721942968483,8399075790359081724,8693463985226723168,9568029438360202098,10144078919501101548,10430055236837252648,11840083180663258601,13761210420658862357,14299343276471374635,14566680578165727644,15097957966210449927,16922976911328602910,17689382322260857208,500013540394364858,748580250866718886,1242879168328830382,1977374033974150939,2944078676154940804,3659926193048069267,4368137639120453308,4836135668995329356,5532061633213252278,6448918945643986474,6902733635092675308,7801388544844847127]
def t1O(s:List Nat)(k w:Nat):Nat:=(s.getD 7 0+Sg1 (s.getD 4 0)+chO (s.getD 4 0) (s.getD 5 0) (s.getD 6 0)+k+w)%18446744073709551616
def t2O(s:List Nat):Nat:=(Sg0 (s.getD 0 0)+maO (s.getD 0 0) (s.getD 1 0) (s.getD 2 0))%18446744073709551616
def rnd(s:List Nat)(k w:Nat):List Nat:=[(t1O s k w+t2O s)%18446744073709551616,s.getD 0 0,s.getD 1 0,s.getD 2 0,(s.getD 3 0+t1O s k w)%18446744073709551616,s.getD 4 0,s.getD 5 0,s.getD 6 0]
def Br:Nat->List Nat->List Nat->List Nat
 |0,_,s=>s
 |n+1,w,s=>rnd (Br n w s) (Vr.getD n 0) (w.getD n 0)
def blk(s b:List Nat):List Nat:=XA (fun x y=>(x+y)%18446744073709551616) s (Br 80 (JX b) s)
def Yq:List Nat:=[7640891576956012808,13503953896175478587,4354685564936845355,11912009170470909681,5840696475078001361,11170449401992604703,2270897969802886507,6620516959819538809]
def stK:Nat->List Nat->List Nat
 |0,_=>Yq
 |n+1,b=>blk (stK n b) ((b.drop (128*n)).take 128)
def Vd(n:Nat):Nat:=(239-n%128)%128
def WR(n:Nat):List Nat:=128::(Qc (Vd n) 0++((Jn 16).map fun i=>8*n/256^(15-i)%256))
def sha(b:List Nat):List Nat:=(Jn 64).map fun i=>(stK ((b++WR b.length).length/128) (b++WR b.length)).getD (i/8) 0/256^(7-i%8)%256
def Um:Vr.length=80:=rfl
def cZ:Yq.length=8:=rfl
def XQ(E:x<18446744073709551616)(Y:0<r)(I:r<=63):JW x r<18446744073709551616:=by
 unfold JW
 have e:(18446744073709551616:Nat)=2^r*2^(64-r):=by rw[<-JU,show r+(64-r)=64 by omega]
 have Z:x/2^r<2^(64-r):=VY (by rw[<-e];exact E)
 have U:x*2^(64-r)%18446744073709551616=(x%2^r)*2^(64-r):=by rw[e,Wt]
 rw[U]
 have O:x%2^r+1<=2^r:=Q3 _ (Xi ww)
 have J:=ZG (2^(64-r)) O
 rw[<-e,Zl,Xa]at J
 omega
def rI(E:x<18446744073709551616)(U:0<r)(I:r<=63):(x*2^(64-r)%18446744073709551616)|||(x/2^r)=JW x r:=by
 have e:(18446744073709551616:Nat)=2^r*2^(64-r):=by rw[<-JU,show r+(64-r)=64 by omega]
 have O:x/2^r<2^(64-r):=VY (by rw[<-e];exact E)
 have J:x*2^(64-r)%18446744073709551616=(x%2^r)*2^(64-r):=by rw[e,Wt]
 unfold JW
 rw[J,Yi O,Xu]
def Hl(hx:x<18446744073709551616)(hr:0<r)(Z:r<=63):Zo T 186 [.int .u64 x,.int .i64 (-(r:Int))]=some (.int .u64 (JW x r:Nat)):=by
 have hw:IntKind.u64.wrap (-(r:Int))=((18446744073709551616-r:Nat):Int):=by rw[Wb];omega
 have hm:Z3 .and .u64 ((18446744073709551616-r:Nat):Int) 63=((64-r:Nat):Int):=by
  have:=U9 .u64 rfl 6 (18446744073709551616-r) ww
  have e:((2^6-1:Nat):Int)=63:=ww
  rw[e]at this
  rw[this]
  have:(18446744073709551616-r)%2^6=64-r:=qr
  rw[this]
 have n1:(((64-r:Nat):Int)<0)=False:=ut
 have h64:min (64-r) IntKind.u64.bits=64-r:=Zg (by show 64-r<=64;omega)
 have I:min r IntKind.u64.bits=r:=Zg (by show r<=64;omega)
 have Y:IntKind.u64.wrap ((x:Int)*2^(64-r))=((x*2^(64-r)%18446744073709551616:Nat):Int):=by
  rw[<-YJ,Jy,XM];rfl
 have E:IntKind.u64.wrap (64-((64-r:Nat):Int))=(r:Int):=by rw[Wb];omega
 have n2:((r:Int)<0)=False:=ut
 have U:(x:Int).fdiv (2^r)=((x/2^r:Nat):Int):=by
  rw[<-B1,XM];rfl
 have O:x*2^(64-r)%18446744073709551616<2^IntKind.u64.bits:=Q3 _ ww
 have J:x/2^r<2^IntKind.u64.bits:=Ja (Jp _ _) hx
 have ho:Z3 .or .u64 ((x*2^(64-r)%18446744073709551616:Nat):Int) ((x/2^r:Nat):Int)=((JW x r:Nat):Int):=by
  rw[Kx rfl O J,rI hx hr Z]
 generalize hq:64-r=q at *
 generalize hu:18446744073709551616-r=u at *
 apply Zb (fn:=zI) rfl
 simp only[zI,↓Bn,Qv,quiet,cW,↓pW,reduceCtorEq,seval,-Qa,hw,hm,n1,h64,Y,E,n2,I,U,ho]
 rfl
def FI:fillL (Qc 80 (Value.int .u64 0)) [(0,1,.int .u64 4794697086780616226),(1,1,.int .u64 8158064640168781261),(2,1,.int .u64 13096744586834688815),(3,1,.int .u64 16840607885511220156),(4,1,.int .u64 4131703408338449720),(5,1,.int .u64 6480981068601479193),(6,1,.int .u64 10538285296894168987),(7,1,.int .u64 12329834152419229976),(8,1,.int .u64 15566598209576043074),(9,1,.int .u64 1334009975649890238),(10,1,.int .u64 2608012711638119052),(11,1,.int .u64 6128411473006802146),(12,1,.int .u64 8268148722764581231),(13,1,.int .u64 9286055187155687089),(14,1,.int .u64 11230858885718282805),(15,1,.int .u64 13951009754708518548),(16,1,.int .u64 16472876342353939154),(17,1,.int .u64 17275323862435702243),(18,1,.int .u64 1135362057144423861),(19,1,.int .u64 2597628984639134821),(20,1,.int .u64 3308224258029322869),(21,1,.int .u64 5365058923640841347),(22,1,.int .u64 6679025012923562964),(23,1,.int .u64 8573033837759648693),(24,1,.int .u64 10970295158949994411),(25,1,.int .u64 12119686244451234320),(26,1,.int .u64 12683024718118986047),(27,1,.int .u64 13788192230050041572),(28,1,.int .u64 14330467153632333762),(29,1,.int .u64 15395433587784984357),(30,1,.int .u64 489312712824947311),(31,1,.int .u64 1452737877330783856),(32,1,.int .u64 2861767655752347644),(33,1,.int .u64 3322285676063803686),(34,1,.int .u64 5560940570517711597),(35,1,.int .u64 5996557281743188959),(36,1,.int .u64 7280758554555802590),(37,1,.int .u64 8532644243296465576),(38,1,.int .u64 9350256976987008742),(39,1,.int .u64 10552545826968843579),(40,1,.int .u64 11727347734174303076),(41,1,.int .u64 12113106623233404929),(42,1,.int .u64 14000437183269869457),(43,1,.int .u64 14369950271660146224),(44,1,.int .u64 15101387698204529176),(45,1,.int .u64 15463397548674623760),(46,1,.int .u64 17586052441742319658),(47,1,.int .u64 1182934255886127544),(48,1,.int .u64 1847814050463011016),(49,1,.int .u64 2177327727835720531),(50,1,.int .u64 2830643537854262169),(51,1,.int .u64 3796741975233480872),(52,1,.int .u64 4115178125766777443),(53,1,.int .u64 5681478168544905931),(54,1,.int .u64 6601373596472566643),(55,1,.int .u64 7507060721942968483),(56,1,.int .u64 8399075790359081724),(57,1,.int .u64 8693463985226723168),(58,1,.int .u64 9568029438360202098),(59,1,.int .u64 10144078919501101548),(60,1,.int .u64 10430055236837252648),(61,1,.int .u64 11840083180663258601),(62,1,.int .u64 13761210420658862357),(63,1,.int .u64 14299343276471374635),(64,1,.int .u64 14566680578165727644),(65,1,.int .u64 15097957966210449927),(66,1,.int .u64 16922976911328602910),(67,1,.int .u64 17689382322260857208),(68,1,.int .u64 500013540394364858),(69,1,.int .u64 748580250866718886),(70,1,.int .u64 1242879168328830382),(71,1,.int .u64 1977374033974150939),(72,1,.int .u64 2944078676154940804),(73,1,.int .u64 3659926193048069267),(74,1,.int .u64 4368137639120453308),(75,1,.int .u64 4836135668995329356),(76,1,.int .u64 5532061633213252278),(77,1,.int .u64 6448918945643986474),(78,1,.int .u64 6902733635092675308),(79,1,.int .u64 7801388544844847127)]=some (ns .u64 Vr):=rfl
def aY:Zo T 183 []=some (eV Vr):=by
 have E:=FI
 have lk:=Um
 generalize Vr=K at *
 apply Zb (fn:=zH) rfl
 simp only[zH,Qv,quiet,cW,↓pW,reduceCtorEq,seval,-Qa,E,Q8,Q7,QR,Zr,ZZ,Zi,QA,lk]
 rfl
def Gb(l:List Nat):∀n,(Bj n l).length=l.length+n
 |0=>rfl
 |n+1=>by rw[Bj,Qh,Gb l n];rfl
def Gc(l:List Nat){n j:Nat}(E:j<l.length+n):∀m,n<=m->(Bj m l)[j]?=(Bj n l)[j]?
 |0,h=>by rw[show n=0 by omega]
 |m+1,h=>by
  by_cases e:n=m+1
  ·rw[e]
  ·rw[Bj,Qb (by rw[Gb];omega),Gc l E m qr]
def ML(b:List Nat):(EM b).length=16:=by simp[EM]
def Yc(b:List Nat):(JX b).length=80:=by rw[JX,Gb,ML]
def MO{b:List Nat}(hi:i<16):(JX b)[i]?=some (be ((b.drop (8*i)).take 8)):=by
 rw[JX,Gc _ (n:=0) (by rw[ML];omega) 64 qr]
 simp[Bj,EM,hi]
def MN{b:List Nat}(hi:16<=i)(J:i<80):(JX b)[i]?=some (((JX b).getD (i-16) 0+(JX b).getD (i-7) 0+sg0 ((JX b).getD (i-15) 0)+sg1 ((JX b).getD (i-2) 0))%18446744073709551616):=by
 obtain⟨n,rfl⟩:∃n,i=16+n:=⟨i-16,by omega⟩
 have I:=ML b
 have hn:=Gb (EM b) n
 rw[I]at hn
 have E:∀j,j<16+n->(JX b).getD j 0=(Bj n (EM b)).getD j 0:=fun j O=>by
  rw[Qy,Qy,JX,Gc _ (n:=n) (by rw[I];omega) 64 qr]
 rw[E _ qr,E _ qr,E _ qr,E _ qr]
 rw[JX,Gc _ (n:=n+1) (by rw[I];omega) 64 qr,Bj,Qd qr,hn,Qs]
 simp only[vU,hn,JV]
def Lu(l:List Nat)(x:Nat):be (l++[x])=be l*256+x:=by simp[be]
def OY:∀(n:Nat) (l:List Nat),l.length=n->(∀x∈l,x<256)->be l<256^n
 |0,l,h,_=>by rw[ZU h];decide
 |n+1,l,h,E=>by
  obtain⟨m,x,rfl⟩:∃m x,l=m++[x]:=⟨l.dropLast,l.getLast (by intro e;rw[e]at h;cases h),(List.dropLast_concat_getLast _).symm⟩
  rw[Qh]at h
  have O:=OY n m (by simpa using h) (fun y I=>E y (Va _ I))
  have J:=E x wd
  rw[Lu,Zn]
  omega
def Tl{b:List Nat}(hb:∀x∈b,x<256){i:Nat}(E:(JX b)[i]?=some x):x<18446744073709551616:=by
 have hi:i<80:=by have:=(Qf.1 E).1;rwa[Yc]at this
 by_cases h:i<16
 ·rw[MO h]at E
  cases E
  have J:((b.drop (8*i)).take 8).length<=8:=by rw[Q0];omega
  have:=OY _ _ rfl (fun y I=>hb y (Zq (QG I)):∀y∈(b.drop (8*i)).take 8,y<256)
  exact QJ this (Zy (n:=256) ww J)
 ·rw[MN qr hi]at E
  cases E
  exact Q3 _ ww
def YG{j:Nat}(E:j<i)(hi:i<=L.length):(pf n L i)[j]?=L[j]? := by
 unfold pf
 rw[Qb (by rw[Q0];omega),QN,if_pos E]
def Nh{l:List Nat}{i:Nat}(h:l[i]?=some x):l.set i x=l:=by
 apply ZE
 intro k
 rw[Ky]
 by_cases c:i=k
 ·rw[if_pos c,<-c,h,if_pos (Qf.1 h).1]
 ·rw[if_neg c]
def Aq(hi:i<n)(E:L.length=n):(pf n L i)[i]?=some 0:=by
 unfold pf
 rw[Qd (by rw[Q0];omega),Q0,Zg qr,Qs,YD,if_pos qr]
def VN(a b:Nat):IntKind.u64.wrap ((a:Int)+(b:Int))=(((a+b)%18446744073709551616:Nat):Int):=by rw[<-Kz,YJ]
def Wz(ha:a<18446744073709551616)(hb:b<18446744073709551616):Z3 .xor .u64 (a:Int) (b:Int)=((a^^^b:Nat):Int):=Cj rfl ha hb
def U0(ha:a<18446744073709551616)(hb:b<18446744073709551616):Z3 .and .u64 (a:Int) (b:Int)=((a&&&b:Nat):Int):=Y7 rfl ha hb
def Wa(ha:a<18446744073709551616)(hb:b<18446744073709551616):a^^^b<18446744073709551616:=KI (n:=64) ha hb
def K9(hb:b<18446744073709551616):a&&&b<18446744073709551616:=Xz (n:=64) a hb
def US(E:r<=64):(x:Int).fdiv (2^min r IntKind.u64.bits)=((x/2^r:Nat):Int):=by
 rw[show min r IntKind.u64.bits=r from Zg E,<-B1,XM];rfl
def DK(E:x<18446744073709551616):x/2^r<18446744073709551616:=Ja (Jp _ _) E
structure BB(H:List Ob)(id off:Nat)(b:List Nat):Prop where
 ob:∃all:List Nat,H[id]?=some ⟨u8s all,true,true,false,1⟩/\∀i,i<b.length->all[off+i]?=b[i]?
 lt:∀x∈b,x<256
def BB.app{H l:List Ob}{id off:Nat}{b:List Nat}(h:BB H id off b):BB (H++l) id off b:=by
 obtain⟨⟨all,E,J⟩,I⟩:=h
 exact⟨⟨all,by rw[Qb (Qf.1 E).1];exact E,J⟩,I⟩
def w2I(H:List Ob)(P:Value)(id off cap:Nat)(w:List Nat)(i:Int)(E c8:Nat)(j:Int)(ex:Env):St:=⟨[(0,P),(1,.slice (some ⟨id,off,none⟩) 128 cap),(4,.pointer H.length),(5,.int .i64 i),(17,.int .i64 i),(28,.slice (some ⟨id,E,none⟩) 8 c8),(29,.int .i64 8),(30,.int .i64 j)]++ex,H++[{c:=ns .u64 w}],[]⟩
def gR{H:List Ob}{P:Value}{id off cap c8:Nat}{b:List Nat}(hb:BB H id off b)(hl:b.length=128)(hi:i<16) :
  Q4 T H.length (.block 2 (.loop My)) (w2I H P id off cap (pf 80 (JX b) i) i (off+8*i) c8 0 [])=some (.normal,w2I H P id off cap (pf 80 (JX b) (i+1)) i (off+8*i) c8 8 [(31,.bool false)]):=by
 obtain⟨⟨all,h1,h2⟩,h3⟩:=hb
 have E:=Yc b
 have h8:((b.drop (8*i)).take 8).length=8:=by rw[Q0,QD];omega
 have hz:=Aq (L:=JX b) (by omega:i<80) E
 have O:=Vm E (by omega:i<=80)
 have AM:(pf 80 (JX b) i).set i (be [])=pf 80 (JX b) i:=Nh hz
 have hW:=MO (b:=b) hi
 have hstep:=K7 E (by omega:i<80) hW
 have h:=JB (T:=T) (base:=H.length) (id:=2) (body:=My) (fun j=>w2I H P id off cap ((pf 80 (JX b) i).set i (be (((b.drop (8*i)).take 8).take j))) i (off+8*i) c8 j []) (s':=w2I H P id off cap (pf 80 (JX b) (i+1)) i (off+8*i) c8 8 [(31,.bool false)]) 8
  (fun j hj=>by
   obtain⟨x,hx⟩:∃x,((b.drop (8*i)).take 8)[j]?=some x:=⟨_,Qg qr⟩
   have I:b[8*i+j]?=some x:=by
    rw[QN,if_pos hj,Zf]at hx;exact hx
   have hx':=h3 x (Qw I)
   have Z:(u8s all)[off+8*i+j]?=some (.int .u8 (x:Nat)):=ZN (by rw[show off+8*i+j=off+(8*i+j) by omega,h2 _ qr];exact I)
   have hbel:=OY j (((b.drop (8*i)).take 8).take j) (by rw[Q0];omega) (fun y hy=>h3 y (Zq (QG (QG hy))))
   have Y:be (((b.drop (8*i)).take 8).take (j+1))=be (((b.drop (8*i)).take 8).take j)*256+x:=by rw[Zh,hx];exact Lu _ _
   rw[Y]
   have h256:(256:Nat)^j<=256^7:=Zy ww qr
   have e7:(256:Nat)^7=72057594037927936:=ww
   rw[e7]at h256
   generalize be (((b.drop (8*i)).take 8).take j)=a at *
   have hg:((pf 80 (JX b) i).set i a)[i]?=some a:=by rw[Qu (by rw[O];omega)]
   have hgc:=Z4 (k := .u64) hg
   have J:=JL .u64 ((pf 80 (JX b) i).set i a) i (a*256+x)
   rw[KB]at J
   have hln:((pf 80 (JX b) i).set i a).length=80:=by rw[Qr];exact O
   have w1:IntKind.i64.wrap ((j:Int)+1)=((j+1:Nat):Int):=Zm (b:=1) qr
   have w2:IntKind.u64.wrap (x:Int)=(x:Int):=Wd qr
   have w3:IntKind.u64.wrap ((a:Int)*2^min 8 IntKind.u64.bits)=((a*256:Nat):Int):=W1 (b:=256) qr
   have w4:Z3 .or .u64 ((a*256:Nat):Int) (x:Int)=((a*256+x:Nat):Int):=by
    rw[Kx rfl (show a*256<2^64 by omega) (show x<2^64 by omega)]
    have:=Yi (a:=x) (b:=a) (n:=8) qr
    rw[show(2:Nat)^8=256 from rfl]at this
    rw[this]
   have e1:((j:Int)<8)=True:=wr
   have e2:((i:Int)<80)=True:=wr
   have e4:(i<=79)=True:=wr
   have hl1:liveAt (H++[{c:=ns .u64 ((pf 80 (JX b) i).set i a)}]) id=some ⟨u8s all,true,true,false,1⟩:=KD (Zs h1 rfl)
   generalize(pf 80 (JX b) i).set i a=O1,(pf 80 (JX b) i).set i (a*256+x)=O2 at *
   generalize hv:a*256+x=v at *
   generalize a*256=v2 at *
   simp only[liveAt]at hl1
   generalize hoo:off+8*i=oo at *
   have U:(H++[{c:=ns .u64 O1}])[id]?=some ⟨u8s all,true,true,false,1⟩:=by rw[Qb (Qf.1 h1).1];exact h1
   simp only[w2I,My,Qv,quiet,cW,↓pW,reduceCtorEq,seval,-Qa,U,Z,hgc,w1,w2,w3,w4,e1,e2,e4,J,QA,hln])
  (by
   rw[Qo qr,hstep]
   simp only[w2I,My,Qv,quiet,cW,↓pW,reduceCtorEq,seval,-Qa])
 rw[Js,AM]at h
 exact h
end
section
attribute [local congr] Jw JD Jv JE Jk
variable{H:List Ob}{hid n i off id cap x b0:Nat}{rv pv:Value}{st s b l w L:List Nat}{K:Nat->Prop}{xs:List Value}{ps:List (List Nat)}
def XD{k:IntKind}{y d:Nat}(h:n<=y):Kt (some (.int k (n:Int))) y d=some n:=by
 have e:(0:Int)<=(n:Int)/\(n:Int)<=(y:Int):=⟨by omega,by omega⟩
 simp only[Kt,if_pos e,Int.toNat_natCast]
def w3I(H:List Ob)(P:Value)(id off cap:Nat)(w:List Nat)(i:Int)(ex:Env):St:=⟨[(0,P),(1,.slice (some ⟨id,off,none⟩) 128 cap),(4,.pointer H.length),(17,.int .i64 i)]++ex,H++[{c:=ns .u64 w}],[]⟩
def wH{P:Value}(hb:BB H id off b)(hl:b.length=128)(hc:128<=cap)(hi:i<16) :
  Q4 T H.length WJ (w3I H P id off cap (pf 80 (JX b) i) i [])=some (.normal,w3I H P id off cap (pf 80 (JX b) (i+1)) ((i+1:Nat):Int) []):=by
 have I:=gR (P:=P) (cap:=cap) (c8:=cap-8*i) hb hl hi
 obtain⟨⟨all,J,-⟩,h3⟩:=hb
 simp only[w2I,Qp,Qn]at I
 have e1:((i:Int)<80)=True:=wr
 have e2:((i:Int)<16)=True:=wr
 have Y:IntKind.i64.wrap (8*(i:Int))=((8*i:Nat):Int):=Yb (a:=8) qr
 have U:IntKind.i64.wrap (((8*i:Nat):Int)+8)=((8*i+8:Nat):Int):=Zm (b:=8) qr
 have O:IntKind.i64.wrap ((i:Int)+1)=((i+1:Nat):Int):=Zm (b:=1) qr
 have b1:Jc 128 cap (some (.int .i64 ((8*i:Nat):Int))) (some (.int .i64 ((8*i+8:Nat):Int))) none=some (8*i,8*i+8,cap):=by
  have n1:Kt (some (.int .i64 ((8*i+8:Nat):Int))) cap 128=some (8*i+8):=XD qr
  have Z:Kt (some (.int .i64 ((8*i:Nat):Int))) (8*i+8) 0=some (8*i):=XD qr
  rw[Xh,n1,Qk,Z,Qk]
 have hs:8*i+8-8*i=8:=qr
 have E:∀l:List Ob,(H++l)[id]?=some ⟨u8s all,true,true,false,1⟩:=fun l=>by rw[Qb (Qf.1 J).1];exact J
 generalize pf 80 (JX b) i=O1,pf 80 (JX b) (i+1)=O2 at *
 generalize hk8:8*i+8=k8 at *
 generalize hk:8*i=k at *
 generalize i+1=i1 at *
 simp only[w3I,WJ,Qv,quiet,cW,↓pW,reduceCtorEq,seval,-Qa,e1,e2,Y,U,O,b1,hs,E,I]
def XF(h:l[i]?=some x):l.getD i 0=x:=by rw[Qy,h];rfl
def qH{P:Value}(hb:∀x∈b,x<256)(hi:16<=i)(J:i<80) :
  Q4 T H.length WJ (w3I H P id off cap (pf 80 (JX b) i) i [])=some (.normal,w3I H P id off cap (pf 80 (JX b) (i+1)) ((i+1:Nat):Int) []):=by
 have O:=Yc b
 have hW:=MN (b:=b) hi J
 have hstep:=K7 O J hW
 have hpl:=Vm O (JH J)
 obtain⟨x,hx⟩:∃x,(JX b)[i-15]?=some x:=⟨_,Qg qr⟩
 obtain⟨y,hy⟩:∃x,(JX b)[i-2]?=some x:=⟨_,Qg qr⟩
 obtain⟨u,hu⟩:∃x,(JX b)[i-16]?=some x:=⟨_,Qg qr⟩
 obtain⟨v,hv⟩:∃x,(JX b)[i-7]?=some x:=⟨_,Qg qr⟩
 have Y:=Tl hb hx
 have U:=Tl hb hy
 have cx:=Z4 (k := .u64) ((YG (n:=80) (by omega:i-15<i) qr).trans hx)
 have cy:=Z4 (k := .u64) ((YG (n:=80) (by omega:i-2<i) qr).trans hy)
 have cu:=Z4 (k := .u64) ((YG (n:=80) (by omega:i-16<i) qr).trans hu)
 have cv:=Z4 (k := .u64) ((YG (n:=80) (by omega:i-7<i) qr).trans hv)
 rw[XF hx,XF hy,XF hu,XF hv]at hstep
 have r1:Zo T 186 [.int .u64 x,.int .i64 (-1)]=some (.int .u64 (JW x 1:Nat)):=Hl (r:=1) Y ww ww
 have r8:Zo T 186 [.int .u64 x,.int .i64 (-8)]=some (.int .u64 (JW x 8:Nat)):=Hl (r:=8) Y ww ww
 have r19:Zo T 186 [.int .u64 y,.int .i64 (-19)]=some (.int .u64 (JW y 19:Nat)):=Hl (r:=19) U ww ww
 have r61:Zo T 186 [.int .u64 y,.int .i64 (-61)]=some (.int .u64 (JW y 61:Nat)):=Hl (r:=61) U ww ww
 have b1:=XQ (r:=1) Y ww ww
 have b8:=XQ (r:=8) Y ww ww
 have b19:=XQ (r:=19) U ww ww
 have Z:=XQ (r:=61) U ww ww
 have x1:=Wz b1 b8
 have x2:Z3 .xor .u64 ((JW x 1^^^JW x 8:Nat):Int) ((x/2^7:Nat):Int)=((sg0 x:Nat):Int):=Wz (Wa b1 b8) (DK Y)
 have y1:=Wz b19 Z
 have y2:Z3 .xor .u64 ((JW y 19^^^JW y 61:Nat):Int) ((y/2^6:Nat):Int)=((sg1 y:Nat):Int):=Wz (Wa b19 Z) (DK U)
 have s7:(x:Int).fdiv (2^min 7 IntKind.u64.bits)=((x/2^7:Nat):Int):=US ww
 have s6:(y:Int).fdiv (2^min 6 IntKind.u64.bits)=((y/2^6:Nat):Int):=US ww
 have m1:=VN u v
 have m2:=VN ((u+v)%18446744073709551616) (sg0 x)
 have m3:=VN (((u+v)%18446744073709551616+sg0 x)%18446744073709551616) (sg1 y)
 have E:(((u+v)%18446744073709551616+sg0 x)%18446744073709551616+sg1 y)%18446744073709551616=(u+v+sg0 x+sg1 y)%18446744073709551616:=qr
 rw[E]at m3
 have I:=JL .u64 (pf 80 (JX b) i) i ((u+v+sg0 x+sg1 y)%18446744073709551616)
 rw[hstep]at I
 have e1:((i:Int)<80)=True:=wr
 have e2:((i:Int)<16)=False:=ut
 have i15:IntKind.i64.wrap ((i:Int)-15)=((i-15:Nat):Int):=by rw[Zd qr qr];omega
 have i2:IntKind.i64.wrap ((i:Int)-2)=((i-2:Nat):Int):=by rw[Zd qr qr];omega
 have i16:IntKind.i64.wrap ((i:Int)-16)=((i-16:Nat):Int):=by rw[Zd qr qr];omega
 have i7:IntKind.i64.wrap ((i:Int)-7)=((i-7:Nat):Int):=by rw[Zd qr qr];omega
 have j15:(((i-15:Nat):Int)<80)=True:=wr
 have j2:(((i-2:Nat):Int)<80)=True:=wr
 have j16:(((i-16:Nat):Int)<80)=True:=wr
 have j7:(((i-7:Nat):Int)<80)=True:=wr
 have w3:IntKind.i64.wrap ((i:Int)+1)=((i+1:Nat):Int):=Zm (b:=1) qr
 have e4:(i<=79)=True:=wr
 clear E hstep hW hx hy hu hv O
 generalize pf 80 (JX b) i=O1,pf 80 (JX b) (i+1)=O2,(u+v+sg0 x+sg1 y)%18446744073709551616=z,((u+v)%18446744073709551616+sg0 x)%18446744073709551616=z2 at *
 generalize(u+v)%18446744073709551616=z3 at *
 generalize sg0 x=gx,sg1 y=gy,JW x 1^^^JW x 8=xx,JW y 19^^^JW y 61=yy at *
 generalize JW x 1=x1v,JW x 8=x8v,JW y 19=y19v,JW y 61=y61v at *
 generalize x/2^7=x7v at *
 generalize y/2^6=y6v at *
 generalize i-15=k15 at *
 generalize i-2=k2 at *
 generalize i-16=k16 at *
 generalize i-7=k7 at *
 generalize i+1=i1 at *
 simp only[w3I,WJ,Qv,quiet,cW,↓pW,reduceCtorEq,seval,-Qa,e1,e2,e4,i15,i2,i16,i7,j15,j2,j16,j7,cx,cy,cu,cv,r1,r8,r19,r61,x1,x2,y1,y2,s7,s6,m1,m2,m3,I,w3,QA,hpl]
def gP{P:Value}(hb:BB H id off b)(I:b.length=128)(hc:128<=cap) :
  Q4 T H.length (.block 0 (.loop WJ)) (w3I H P id off cap (Qc 80 0) 0 [])=some (.normal,w3I H P id off cap (JX b) 80 [(18,.bool false)]):=by
 have E:=Yc b
 have h:=JB (T:=T) (base:=H.length) (id:=0) (body:=WJ) (fun i=>w3I H P id off cap (pf 80 (JX b) i) i []) (s':=w3I H P id off cap (JX b) 80 [(18,.bool false)]) 80
  (fun i hi=>by
   by_cases h:i<16
   ·exact wH hb I hc h
   ·exact qH hb.lt qr hi)
  (by
   rw[Vy E]
   simp only[w3I,WJ,Qv,quiet,cW,↓pW,reduceCtorEq,seval,-Qa])
 rw[Vx]at h
 exact h
def eight{l:List Nat}(h:l.length=8):∃a b c d e f g i,l=[a,b,c,d,e,f,g,i]:=by
 match l,h with
 |[a,b,c,d,e,f,g,i],_=>exact⟨a,b,c,d,e,f,g,i,rfl⟩
def bj(s:List Nat)(k w:Nat):(rnd s k w).length=8:=rfl
def Ue(hs:s.length=8)(w:List Nat):∀n,(Br n w s).length=8
 |0=>hs
 |n+1=>rfl
def wZ(hs:s.length=8)(E:∀x∈s,x<18446744073709551616)(k w:Nat):∀x∈rnd s k w,x<18446744073709551616:=by
 obtain⟨a,b,c,d,e,f,g,h,rfl⟩:=eight hs
 intro x hm
 have I:∀y z:Nat,(y+z)%18446744073709551616<18446744073709551616:=fun _ _=>Q3 _ ww
 simp only[rnd,J8,Xl,or_false]at hm
 rcases hm with rfl|rfl|rfl|rfl|rfl|rfl|rfl|rfl
 ·exact I _ _
 ·exact E _ wd
 ·exact E _ wd
 ·exact E _ wd
 ·exact I _ _
 ·exact E _ wd
 ·exact E _ wd
 ·exact E _ wd
def I6{s:List Nat}(hs:s.length=8)(E:∀x∈s,x<18446744073709551616)(w:List Nat):∀n,∀x∈Br n w s,x<18446744073709551616
 |0=>E
 |n+1=>wZ (Ue hs w n) (I6 hs E w n) _ _
def ug:∀x∈Vr,x<18446744073709551616:=by decide +kernel
def wA(a b c d e f g h:Nat):fillL (Qc 8 (Value.int .u64 0)) [(0,1,.int .u64 (a:Int)),(1,1,.int .u64 (b:Int)),(2,1,.int .u64 (c:Int)),(3,1,.int .u64 (d:Int)),(4,1,.int .u64 (e:Int)),(5,1,.int .u64 (f:Int)),(6,1,.int .u64 (g:Int)),(7,1,.int .u64 (h:Int))]=some (ns .u64 [a,b,c,d,e,f,g,h]):=rfl
def w1I(H:List Ob)(P:Value)(w s:List Nat)(i:Int)(ex:Env):St:=⟨[(0,P),(4,.pointer H.length),(10,.pointer (H.length+1:Nat)),(86,eV Vr),(87,.int .i64 i)]++ex,H++[{c:=ns .u64 w},{c:=ns .u64 s}],[]⟩
def qJ{P:Value}(hw:w.length=80)(hs:s.length=8)(I:∀x∈s,x<18446744073709551616)(hi:i<80) :
  Q4 T H.length GQ (w1I H P w s i [])=some (.normal,w1I H P w (rnd s (Vr.getD i 0) (w.getD i 0)) ((i+1:Nat):Int) []):=by
 obtain⟨a,b,c,d,e,f,g,h,rfl⟩:=eight hs
 obtain⟨k,hk⟩:∃k,Vr[i]?=some k:=⟨_,Qg (by rw[Um];exact hi)⟩
 obtain⟨v,hv⟩:∃k,w[i]?=some k:=⟨_,Qg qr⟩
 rw[XF hk,XF hv]
 have kc:=Z4 (k := .u64) hk
 have vc:=Z4 (k := .u64) hv
 have E:=I a wd
 have lb:=I b wd
 have lc:=I c wd
 have le:=I e wd
 have lf:=I f wd
 have lg:=I g wd
 have r14:Zo T 186 [.int .u64 e,.int .i64 (-14)]=some (.int .u64 (JW e 14:Nat)):=Hl (r:=14) le ww ww
 have r18:Zo T 186 [.int .u64 e,.int .i64 (-18)]=some (.int .u64 (JW e 18:Nat)):=Hl (r:=18) le ww ww
 have r41:Zo T 186 [.int .u64 e,.int .i64 (-41)]=some (.int .u64 (JW e 41:Nat)):=Hl (r:=41) le ww ww
 have r28:Zo T 186 [.int .u64 a,.int .i64 (-28)]=some (.int .u64 (JW a 28:Nat)):=Hl (r:=28) E ww ww
 have r34:Zo T 186 [.int .u64 a,.int .i64 (-34)]=some (.int .u64 (JW a 34:Nat)):=Hl (r:=34) E ww ww
 have r39:Zo T 186 [.int .u64 a,.int .i64 (-39)]=some (.int .u64 (JW a 39:Nat)):=Hl (r:=39) E ww ww
 have Z:=XQ (r:=14) le ww ww
 have Y:=XQ (r:=18) le ww ww
 have b41:=XQ (r:=41) le ww ww
 have U:=XQ (r:=28) E ww ww
 have O:=XQ (r:=34) E ww ww
 have b39:=XQ (r:=39) E ww ww
 have x1:=Wz Z Y
 have x2:Z3 .xor .u64 ((JW e 14^^^JW e 18:Nat):Int) ((JW e 41:Nat):Int)=((Sg1 e:Nat):Int):=Wz (Wa Z Y) b41
 have x3:=Wz U O
 have x4:Z3 .xor .u64 ((JW a 28^^^JW a 34:Nat):Int) ((JW a 39:Nat):Int)=((Sg0 a:Nat):Int):=Wz (Wa U O) b39
 have a1:=U0 le lf
 have a2:Z3 .xor .u64 (if IntKind.u64.signed=true then -1 else IntKind.u64.max) (e:Int)=((18446744073709551615^^^e:Nat):Int):=Wz (a:=18446744073709551615) ww le
 have lne:18446744073709551615^^^e<18446744073709551616:=Wa ww le
 have a3:=U0 lne lg
 have a4:Z3 .xor .u64 ((e&&&f:Nat):Int) (((18446744073709551615^^^e)&&&g:Nat):Int)=((chO e f g:Nat):Int):=Wz (K9 lf) (K9 lg)
 have a5:=U0 E lb
 have a6:=U0 E lc
 have a7:=U0 lb lc
 have a8:=Wz (a:=a&&&b) (b:=a&&&c) (K9 lb) (K9 lc)
 have a9:Z3 .xor .u64 (((a&&&b)^^^(a&&&c):Nat):Int) ((b&&&c:Nat):Int)=((maO a b c:Nat):Int):=Wz (Wa (K9 lb) (K9 lc)) (K9 lc)
 have m1:=VN h (Sg1 e)
 have m2:=VN ((h+Sg1 e)%18446744073709551616) (chO e f g)
 have m3:=VN (((h+Sg1 e)%18446744073709551616+chO e f g)%18446744073709551616) k
 have m4:=VN ((((h+Sg1 e)%18446744073709551616+chO e f g)%18446744073709551616+k)%18446744073709551616) v
 have J:((((h+Sg1 e)%18446744073709551616+chO e f g)%18446744073709551616+k)%18446744073709551616+v)%18446744073709551616=t1O [a,b,c,d,e,f,g,h] k v:=by
  show _=(h+Sg1 e+chO e f g+k+v)%18446744073709551616
  omega
 rw[J]at m4
 have m5:IntKind.u64.wrap ((Sg0 a:Int)+(maO a b c:Int))=((t2O [a,b,c,d,e,f,g,h]:Nat):Int):=VN (Sg0 a) (maO a b c)
 have m6:=VN (t1O [a,b,c,d,e,f,g,h] k v) (t2O [a,b,c,d,e,f,g,h])
 have m7:=VN d (t1O [a,b,c,d,e,f,g,h] k v)
 have hr:rnd [a,b,c,d,e,f,g,h] k v=[(t1O [a,b,c,d,e,f,g,h] k v+t2O [a,b,c,d,e,f,g,h])%18446744073709551616,a,b,c,(d+t1O [a,b,c,d,e,f,g,h] k v)%18446744073709551616,e,f,g]:=rfl
 have hf:=wA ((t1O [a,b,c,d,e,f,g,h] k v+t2O [a,b,c,d,e,f,g,h])%18446744073709551616) a b c ((d+t1O [a,b,c,d,e,f,g,h] k v)%18446744073709551616) e f g
 rw[<-hr]at hf
 have lR:=bj [a,b,c,d,e,f,g,h] k v
 have e1:((i:Int)<80)=True:=wr
 have w3:IntKind.i64.wrap ((i:Int)+1)=((i+1:Nat):Int):=Zm (b:=1) qr
 have vi:Io none 80 1 (eV Vr) (.int .i64 (i:Int))=some (.int .u64 (k:Nat)):=by
  unfold eV
  rw[HF]
  simp only[e1,Qv,quiet,cK,↓pQ,reduceCtorEq,seval,-Qa,cL,kc]
 have g0:(ns .u64 [a,b,c,d,e,f,g,h])[0]?=some (.int .u64 (a:Nat)):=rfl
 have g1:(ns .u64 [a,b,c,d,e,f,g,h])[1]?=some (.int .u64 (b:Nat)):=rfl
 have g2:(ns .u64 [a,b,c,d,e,f,g,h])[2]?=some (.int .u64 (c:Nat)):=rfl
 have g3:(ns .u64 [a,b,c,d,e,f,g,h])[3]?=some (.int .u64 (d:Nat)):=rfl
 have g4:(ns .u64 [a,b,c,d,e,f,g,h])[4]?=some (.int .u64 (e:Nat)):=rfl
 have g5:(ns .u64 [a,b,c,d,e,f,g,h])[5]?=some (.int .u64 (f:Nat)):=rfl
 have g6:(ns .u64 [a,b,c,d,e,f,g,h])[6]?=some (.int .u64 (g:Nat)):=rfl
 have g7:(ns .u64 [a,b,c,d,e,f,g,h])[7]?=some (.int .u64 (h:Nat)):=rfl
 have lS:(ns .u64 [a,b,c,d,e,f,g,h]).length=8:=rfl
 clear J hr hk hv kc hs I
 generalize rnd [a,b,c,d,e,f,g,h] k v=R at *
 generalize(t1O [a,b,c,d,e,f,g,h] k v+t2O [a,b,c,d,e,f,g,h])%18446744073709551616=z1 at *
 generalize(d+t1O [a,b,c,d,e,f,g,h] k v)%18446744073709551616=z2 at *
 generalize t1O [a,b,c,d,e,f,g,h] k v=t1 at *
 generalize t2O [a,b,c,d,e,f,g,h]=t2 at *
 generalize(((h+Sg1 e)%18446744073709551616+chO e f g)%18446744073709551616+k)%18446744073709551616=z3 at *
 generalize((h+Sg1 e)%18446744073709551616+chO e f g)%18446744073709551616=z4 at *
 generalize(h+Sg1 e)%18446744073709551616=z5 at *
 generalize Sg1 e=se,Sg0 a=sa,chO e f g=cc,maO a b c=mm at *
 generalize(a&&&b)^^^(a&&&c)=q1 at *
 generalize(18446744073709551615^^^e)&&&g=q2 at *
 generalize 18446744073709551615^^^e=q3 at *
 generalize e&&&f=q4 at *
 generalize a&&&b=q5 at *
 generalize a&&&c=q6 at *
 generalize b&&&c=q7 at *
 generalize JW e 14^^^JW e 18=q8,JW a 28^^^JW a 34=q9 at *
 generalize JW e 14=p1,JW e 18=p2,JW e 41=p3,JW a 28=p4,JW a 34=p5,JW a 39=p6 at *
 generalize i+1=i1 at *
 generalize hS:ns .u64 [a,b,c,d,e,f,g,h]=S at *
 simp only[w1I,hS]
 generalize eV Vr=kt at *
 simp only[GQ,Qv,quiet,cW,↓pW,reduceCtorEq,seval,-Qa,e1,vi,vc,r14,r18,r41,r28,r34,r39,x1,x2,x3,x4,a1,a2,a3,a4,a5,a6,a7,a8,a9,m1,m2,m3,m4,m5,m6,m7,hf,w3,g0,g1,g2,g3,g4,g5,g6,g7,lS,QA,lR]
def gT{P:Value}(hw:w.length=80)(hs:s.length=8)(E:∀x∈s,x<18446744073709551616) :
  Q4 T H.length (.block 4 (.loop GQ)) (w1I H P w s 0 [])=some (.normal,w1I H P w (Br 80 w s) 80 [(88,.bool false)]):=by
 have h:=JB (T:=T) (base:=H.length) (id:=4) (body:=GQ) (fun i=>w1I H P w (Br i w s) i []) (s':=w1I H P w (Br 80 w s) 80 [(88,.bool false)]) 80
  (fun i hi=>qJ hw (Ue hs w i) (I6 hs E w i) hi)
  (by
   generalize Br 80 w s=R
   simp only[w1I]
   generalize eV Vr=I
   simp only[GQ,Qv,quiet,cW,↓pW,reduceCtorEq,seval,-Qa])
 exact h
def hcl(rv:Value)(n:Nat)(st:List Nat):List Value:=rv::.int .u64 (n:Nat)::ns .u64 st
def hob(rv:Value)(n:Nat)(st:List Nat):Ob:={c:=hcl rv n st}
def Gp(rv:Value)(n:Nat)(st:List Nat):(hcl rv n st).length=2+st.length:=by simp[hcl,QA];omega
def bW(h:st[i]?=some x):(hcl rv n st)[2+i]?=some (.int .u64 (x:Nat)):=by
 rw[Xu];exact Z4 h
def uq(rv:Value)(n i x:Nat)(st:List Nat):(hcl rv n st).set (2+i) (.int .u64 (x:Nat))=hcl rv n (st.set i x):=by
 rw[Xu]
 show rv::.int .u64 (n:Nat)::(ns .u64 st).set i _=_
 rw[JL];rfl
def FK(h:st.length=8):Q5 8 (ZT 2 (hcl rv n st))=ns .u64 st:=by
 show Q5 8 (ns .u64 st)=_
 rw[Qo (by rw[QA];omega)]
def vk(hs:s.length=8):(blk s b).length=8:=by unfold blk;rw[Yo,Ue hs,hs];rfl
def yG:∀x∈blk s b,x<18446744073709551616:=by
 intro x E
 unfold blk at E
 obtain⟨i,hi⟩:=Xe E
 rw[VI]at hi
 split at hi
 ·cases hi;exact Q3 _ ww
 ·cases hi
def Zv{b:Nat}:∀ {M L:List Nat} {i:Nat},i∈Qz b L M->i∈L\/i∈M
 |[],L,i,h=>.inl h
 |m::M,L,i,h=>by
  simp only[Qz]at h
  split at h
  ·rcases Zv h with E|E
   ·rcases QB.1 E with I|I
    ·exact .inl I
    ·exact .inr (by rw[Zu.1 I];exact List.mem_cons_self)
   ·exact .inr (KZ _ E)
  ·rcases Zv h with E|E
   ·exact .inl E
   ·exact .inr (KZ _ E)
def w0I(H:List Ob)(hid:Nat)(rv:Value)(n:Nat)(st:List Nat)(s L:List Nat)(ob1 ob2:Ob)(i:Int)(ex:Env):St:=⟨[(0,.pointer hid),(174,eV s),(175,.int .i64 i)]++ex,H.set hid (hob rv n st)++[ob1,ob2],L⟩
def gW{ob1 ob2:Ob}(hh:hid<H.length)(hs:s.length=8)(hst:st.length=8) :
  ∃L,Q4 T H.length (.block 6 (.loop Mz)) (w0I H hid rv n st s [] ob1 ob2 0 [])=some (.normal,w0I H hid rv n (XA (fun x y=>(x+y)%18446744073709551616) st s) s L ob1 ob2 8 [(176,.bool false)])/\∀i∈L,i=hid:=by
 have hZ:(XA (fun x y=>(x+y)%18446744073709551616) st s).length=8:=by rw[Yo,hs,hst];rfl
 obtain⟨Z,J⟩:∃Z,Z=XA (fun x y=>(x+y)%18446744073709551616) st s:=⟨_,rfl⟩
 rw[<-J]at hZ ⊢
 obtain⟨st',hb,L,rfl,O⟩:=QM (T:=T) (base:=H.length) (id:=6) (body:=Mz)
  (fun i x=>∃L,x=w0I H hid rv n (Z.take i++st.drop i) s L ob1 ob2 i []/\∀j∈L,j=hid)
  (Q:=fun x=>∃L,x=w0I H hid rv n Z s L ob1 ob2 8 [(176,.bool false)]/\∀j∈L,j=hid)
  8 (s:=w0I H hid rv n st s [] ob1 ob2 0 []) ⟨[],rfl,by simp⟩
  (fun i x hi Y=>by
   obtain⟨L,rfl,O⟩:=Y
   obtain⟨u,hu⟩:∃u,st[i]?=some u:=⟨_,Qg qr⟩
   obtain⟨v,hv⟩:∃u,s[i]?=some u:=⟨_,Qg qr⟩
   have hz:Z[i]?=some ((u+v)%18446744073709551616):=by rw[J,VI,hu,hv]
   have hlt:(Z.take i).length=i:=by rw[Q0];omega
   have hg:(Z.take i++st.drop i)[i]?=some u:=by
    rw[Qd qr,hlt,Qs,Zf];exact hu
   have hstep:(Z.take i++st.drop i).set i ((u+v)%18446744073709551616)=Z.take (i+1)++st.drop (i+1):=by
    rw[Q1 _ _ qr,hlt,Qs,ZJ (i:=i),hu,Zh,hz]
    simp
   have hlen:(Z.take i++st.drop i).length=8:=by rw[Qh,QD,hlt];omega
   have gc:=bW (rv:=rv) (n:=n) hg
   have sc:=uq rv n i ((u+v)%18446744073709551616) (Z.take i++st.drop i)
   rw[hstep]at sc
   have cl:=Gp rv n (Z.take i++st.drop i)
   rw[hlen]at cl
   have vc:=Z4 (k := .u64) hv
   have vi:Io none 8 1 (eV s) (.int .i64 (i:Int))=some (.int .u64 (v:Nat)):=by
    have e1:((i:Int)<8)=True:=wr
    unfold eV
    rw[HF]
    simp only[e1,Qv,quiet,cK,↓pQ,reduceCtorEq,seval,-Qa,cL,vc]
   have m1:=VN u v
   have e1:((i:Int)<8)=True:=wr
   have w3:IntKind.i64.wrap ((i:Int)+1)=((i+1:Nat):Int):=Zm (b:=1) qr
   have I:∀o:Ob,(H.set hid o++[ob1,ob2])[hid]?=some o:=fun o=>by
    rw[Qb (by rw[Qr];exact hh),Qu hh]
   have E:∀o U:Ob,(H.set hid o++[ob1,ob2]).set hid U=H.set hid U++[ob1,ob2]:=fun o U=>by
    rw[Xd _ _ (by rw[Qr];exact hh),KB]
   have e5:(2+i+1<=2+8)=True:=wr
   refine⟨w0I H hid rv n (Z.take (i+1)++st.drop (i+1)) s (Qz H.length L [hid]) ob1 ob2 ((i+1:Nat):Int) [],?_,_,rfl,?_⟩
   ·generalize Z.take (i+1)++st.drop (i+1)=O2,Z.take i++st.drop i=O1 at *
    generalize(u+v)%18446744073709551616=z at *
    simp only[w0I,hob]
    generalize hcl rv n O1=C1,hcl rv n O2=C2,eV s=sv at *
    generalize i+1=i1 at *
    simp only[Mz,Qv,quiet,cW,↓pW,reduceCtorEq,seval,-Qa,e1,vi,m1,w3,gc,sc,cl,e5,I,E]
    done
   ·intro j hj
    rcases Zv hj with h|h
    ·exact O j h
    ·simpa using h)
  (fun x Y=>by
   obtain⟨L,rfl,O⟩:=Y
   rw[Qo qr,ZH qr,QF]
   refine⟨_,?_,L,rfl,O⟩
   simp only[w0I,hob]
   generalize hcl rv n Z=C
   generalize eV s=sv
   simp only[Mz,Qv,quiet,cW,↓pW,reduceCtorEq,seval,-Qa])
 exact⟨L,hb,O⟩
def VR{α:Type}{l:List α}{i:Nat}{x:α}(h:l[i]?=some x):l.set i x=l:=by
 apply ZE
 intro k
 rw[Ky]
 by_cases c:i=k
 ·rw[if_pos c,<-c,h,if_pos (Qf.1 h).1]
 ·rw[if_neg c]
def Ij:List Nat:=Qc 80 0
def wG:Qc 80 (Value.int .u64 0)=ns .u64 Ij:=rfl
def qv:Ij.length=80:=rfl
def gr:List Nat:=Qc 8 0
def z8_eq:Qc 8 (Value.int .u64 0)=ns .u64 gr:=rfl
def wF:gr.length=8:=rfl
def pE(Y:H[hid]?=some (hob rv n st))(hs:st.length=8)(hx:∀x∈st,x<18446744073709551616)(hb:BB H id off b)(hl:b.length=128)(hc:128<=cap) :
  ∃w s M,Zp T 174 [.pointer hid,.slice (some ⟨id,off,none⟩) 128 cap] H=some (.tuple #[],H.set hid (hob rv n (blk st b))++[w,s],M)/\∀i∈M,i=hid:=by
 have hlt:hid<H.length:=(Qf.1 Y).1
 have h3:=gP (P := .pointer hid) (cap:=cap) hb hl hc
 have hWl:=Yc b
 have h1:=gT (H:=H) (P := .pointer hid) hWl hs hx
 have lr:=Ue hs (JX b) 80
 obtain⟨L,h0,hL⟩:=gW (H:=H) (hid:=hid) (n:=n) (rv:=rv) (ob1:={c:=ns .u64 (JX b)}) (ob2:={c:=ns .u64 (Br 80 (JX b) st)}) hlt lr hs
 rw[show XA (fun x y=>(x+y)%18446744073709551616) st (Br 80 (JX b) st)=blk st b from rfl]at h0
 have U:H.set hid (hob rv n st)=H:=VR Y
 refine⟨{c:=ns .u64 (JX b)},{c:=ns .u64 (Br 80 (JX b) st)},L,?_,hL⟩
 simp only[w0I,U,Qp,Qn]at h0
 have hz:=wG
 have lz:=qv
 have O:=z8_eq
 have J:=wF
 rw[show Qc 80 0=Ij from rfl]at h3
 simp only[w3I,Qp,Qn]at h3
 simp only[w1I,Qp,Qn]at h1
 have ht:=aY
 have hcs:=FK (rv:=rv) (n:=n) hs
 have I:2+8<=(hcl rv n st).length:=by rw[Gp];omega
 have E:∀l:List Ob,(H++l)[hid]?=some {c:=hcl rv n st}:=fun l=>by rw[Qb hlt];exact Y
 have lk:=Um
 generalize H.set hid (hob rv n (blk st b))=H' at *
 generalize JX b=W at *
 generalize Br 80 W st=R,hcl rv n st=C at *
 generalize Ij=Z at *
 generalize gr=Z8 at *
 generalize Vr=KT at *
 rw[Q9 (fn:=zJ) rfl]
 simp only[zJ,Qv,quiet,cW,↓pW,reduceCtorEq,seval,-Qa,hz,O,h3,h1,h0,ht,E,hcs,I,Q7,QR,Zr,ZZ,Zi,QA,hs,lr,J,ZY]
 rfl
inductive Rst(K:Nat->Prop)(H:List Ob):Value->List Nat->Prop
 |nil:Rst K H (.slice none 0 0) []
 |empty {id:Nat}:¬K id->H[id]?=some {c:=[]}->Rst K H (.slice id 0 0) []
 |own {id off:Nat} {all l:List Nat}:¬K id->H[id]?=some ⟨u8s all,true,true,false,1⟩->off+l.length<=all.length->(∀i,i<l.length->all[off+i]?=l[i]?)->Rst K H (.slice (some ⟨id,off,none⟩) l.length l.length) l
def Rst.app{K:Nat->Prop}{H m:List Ob}{v:Value}{l:List Nat}(h:Rst K H v l):Rst K (H++m) v l:=by
 cases h with
 |nil=>exact .nil
 |empty I E=>exact .empty I (by rw[Qb (Qf.1 E).1];exact E)
 |own I E J O=>exact .own I (by rw[Qb (Qf.1 E).1];exact E) J O
def Rst.setH{K:Nat->Prop}{H:List Ob}{v:Value}{l:List Nat}{hid n:Nat}{rv:Value}{st:List Nat}(h:Rst K H v l)(J:H[hid]?=some (hob rv n st))(o:Ob):Rst K (H.set hid o) v l:=by
 cases h with
 |nil=>exact .nil
 |empty I E=>exact .empty I (by
   rw[Ql]
   ·exact E
   ·intro e;subst e
    have:=congrArg Ob.c (JJ (J.symm.trans E))
    simp[hob,hcl]at this)
 |own I E O U=>exact .own I (by
   rw[Ql]
   ·exact E
   ·intro e;subst e
    have:=congrArg Ob.exact (JJ (J.symm.trans E))
    simp[hob]at this) O U
def TI{all:List Nat}(h:∀i,i<l.length->all[off+i]?=l[i]?):((u8s all).drop off).take l.length=u8s l:=by
 apply ZE
 intro i
 rw[QN]
 split
 ·rename_i hi
  rw[Zf]
  have:=h i hi
  simp only[u8s,List.getElem?_map,this]
 ·rename_i hi
  rw[List.getElem?_eq_none (by rw[Qq];omega)]
def Rst.append{K:Nat->Prop}{H:List Ob}{v x:Value}{l p:List Nat}(h:Rst K H v l)(hK:∀i,K i->i<H.length)(U:Go.Ev.lenV x=some p.length)(he:elemsOf H 1 p.length x=some (u8s p))(hb:l.length+p.length<=2^47) :
  ∃v' H' M,ZV 1 1 H v x=some (v',H',none,M)/\Rst K H' v' (l++p)/\(∀i∈M,¬K i)/\H.length<=H'.length/\(∀i,K i->H'[i]?=H[i]?)/\∀(i:Nat) (o:Ob),H[i]?=some o->o.exact=true->H'[i]?=some o:=by
 rcases ZP p.length with hn|hn
 ·have:p=[]:=ZU hn
  subst this
  rw[QF]
  refine⟨v,H,[],?_,h,by simp,Qj _,fun _ _=>rfl,fun i o h _=>h⟩
  rw[Z9]at U he
  cases h<;>simp only[ZV,U,he,Qk,if_true]
 ·have h1:¬p.length=0:=qr
  have I:¬K H.length:=fun h=>absurd (hK _ h) (Yu _)
  cases h with
  |nil =>
   refine⟨.slice H.length p.length p.length,H++[Ob.grown 1 (u8s p)],[],?_,?_,by simp,by simp,?_,?_⟩
   ·have Z:(0+p.length)*1<=2^47/\0<1/\0<1:=⟨by simpa using hb,by decide,by decide⟩
    simp only[ZV,U,he,Qk,if_neg h1,Z,and_self,not_true_eq_false,if_false,if_true]
   ·rw[Qn]
    exact .own (all:=p) I (by simp[Ob.grown]) qr (fun i _=>by rw[QH])
   ·intro i hi;rw[Qb (hK i hi)]
   ·intro i o J _;rw[Qb (Qf.1 J).1];exact J
  |@empty E k1 O =>
   refine⟨.slice H.length (0+p.length) (0+p.length),H++[Ob.grown 1 ([]++u8s p)],[],?_,?_,by simp,by simp,?_,?_⟩
   ·have Z:(0+p.length)*1<=2^47/\0<1/\0<1:=⟨by simpa using hb,by decide,by decide⟩
    have Y:liveAt H E=some {c:=[]}:=Zs O rfl
    have h7:¬(0+p.length<=0):=qr
    have h8:elemsOf H 1 0 (.slice E 0 0)=some []:=by simp[elemsOf,Y]
    simp only[ZV,U,he,Qk,if_neg h1,Z,and_self,not_true_eq_false,if_false,if_true,Y,h8,if_neg h7]
   ·rw[Qn,Qn,QH]
    exact .own (all:=p) I (by simp[Ob.grown]) qr (fun i _=>by rw[QH])
   ·intro i hi;rw[Qb (hK i hi)]
   ·intro i o J _;rw[Qb (Qf.1 J).1];exact J
  |@own E off all _ k1 O k4 k3 =>
   have hid:E<H.length:=(Qf.1 O).1
   refine⟨.slice H.length (l.length+p.length) (l.length+p.length),(H.set E Ob.dead)++[Ob.grown 1 (u8s l++u8s p)],[E],?_,?_,by simpa using k1,by simp,?_,?_⟩
   ·have Z:(l.length+p.length)*1<=2^47/\0<1/\0<1:=⟨by omega,by decide,by decide⟩
    have Y:liveAt H E=some ⟨u8s all,true,true,false,1⟩:=Zs O rfl
    have h7:¬(l.length+p.length<=l.length):=qr
    have h8:elemsOf H 1 l.length (.slice (some ⟨E,off,none⟩) l.length l.length)=some (u8s l):=by
     have:=TI k3
     simp only[elemsOf,Y,Qk,Xy]
     rw[this]
     simp[Qq,k4]
    simp only[ZV,U,he,Qk,if_neg h1,Z,and_self,not_true_eq_false,if_false,if_true,Y,h8,if_neg h7,Z6,Qj]
   ·have:=Rst.own (K:=K) (H:=(H.set E Ob.dead)++[Ob.grown 1 (u8s l++u8s p)]) (id:=H.length) (off:=0) (all:=l++p) (l:=l++p) I (by simp[Ob.grown,u8s]) qr (fun i _=>by rw[QH])
    rwa[Qh]at this
   ·intro i hi
    rw[Qb (by rw[Qr];exact hK i hi),Ql (fun e=>k1 (by rw[e];exact hi))]
   ·intro i o J hex
    rw[Qb (by rw[Qr];exact(Qf.1 J).1),Ql]
    ·exact J
    ·intro e;subst e;rw[O]at J;cases J;cases hex
def Gg(b:List Nat):∀n,(stK n b).length=8
 |0=>rfl
 |n+1=>vk (Gg b n)
def iV:∀x∈Yq,x<18446744073709551616:=ww
def Iy(b:List Nat):∀n,∀x∈stK n b,x<18446744073709551616
 |0=>iV
 |n+1=>yG
def bb(a b:List Nat):∀q,128*q<=a.length->stK q (a++b)=stK q a
 |0,_=>rfl
 |q+1,h=>by
  rw[stK,stK,bb a b q qr,Jh qr,Jr (by rw[QD];omega)]
def Hsh(K:Nat->Prop)(H:List Ob)(hid:Nat)(all:List Nat):Prop:=∃rv,H[hid]?=some (hob rv all.length (stK (all.length/128) all))/\Rst K H rv (all.drop (128*(all.length/128)))
def fdF(hid:Nat):Value := .func (.func 174) [Value.pointer hid].toArray [].toArray
def fdI(hid:Nat)(H:List Ob)(L:List Nat)(ex:Env):St:=⟨[(0,.pointer hid),(1,.int .i64 128),(3,fdF hid)]++ex,H,L⟩
def uM{rest:List Nat}{ex:Env}(hK:∀i,K i->i<H.length)(E:¬K hid)(O:H[hid]?=some (hob rv n st))(hs:st.length=8)(Z:∀x∈st,x<18446744073709551616)(hr:Rst K H rv rest)(h128:128<=rest.length)(xr:∀x∈rest,x<256)(hL:∀i∈L,¬K i)(hmx:rest.length<2^60) :
  ∃I H' L' ex',Q4 T b0 YQ (fdI hid H L ex)=some (.normal,fdI hid H' L' ex')/\H'[hid]?=some (hob I n (blk st (rest.take 128)))/\Rst K H' I (rest.drop 128)/\(∀i,K i->H'[i]?=H[i]?)/\H.length<=H'.length/\∀i∈L',¬K i:=by
 have hlt:hid<H.length:=(Qf.1 O).1
 cases hr with
 |nil=>exact absurd h128 ww
 |empty _ _=>exact absurd h128 ww
 |@own id off all _ k1 J k4 k3 =>
  have hidne:id≠hid:=fun e=>by
   subst e
   have:=congrArg Ob.exact (JJ (O.symm.trans J))
   simp[hob]at this
  have hBB:BB H id off (rest.take 128):=⟨⟨all,J,fun i hi=>by
   rw[Q0]at hi
   rw[k3 i qr,QN,if_pos qr]⟩,fun x Z=>xr x (QG Z)⟩
  have hl:(rest.take 128).length=128:=by rw[Q0];omega
  obtain⟨w,s,M,hb,hM⟩:=pE (cap:=rest.length) O hs Z hBB hl h128
  have c0:∀s',(hcl (.slice (some ⟨id,off,none⟩) rest.length rest.length) n s')[0]?=some (.slice (some ⟨id,off,none⟩) rest.length rest.length):=fun _=>rfl
  have cs:∀s' v,(hcl (.slice (some ⟨id,off,none⟩) rest.length rest.length) n s').set 0 v=hcl v n s':=fun _ _=>rfl
  have cl:∀v s',(1<=(hcl v n s').length)=True:=fun v s'=>eq_true (by rw[Gp];omega)
  have b1:Jc rest.length rest.length none (some (.int .i64 128)) none=some (0,128,rest.length):=by
   have Y:Kt (some (.int .i64 128)) rest.length rest.length=some 128:=XD (n:=128) h128
   rw[Xh,Y,Qk];rfl
  have b2:Jc rest.length rest.length (some (.int .i64 128)) none none=some (128,rest.length,rest.length):=by
   have Y:Kt (some (.int .i64 128)) rest.length 0=some 128:=XD (n:=128) h128
   rw[Xh,Ks,Qk,Y,Qk]
  have e1:((128:Int)<=(rest.length:Int))=True:=wr
  have g0:H[hid]?=some {c:=hcl (.slice (some ⟨id,off,none⟩) rest.length rest.length) n st}:=O
  have g1:∀o:Ob,(H.set hid o++[w,s])[hid]?=some o:=fun o=>by
   rw[Qb (by rw[Qr];exact hlt),Qu hlt]
  have g2:∀o:Ob,(H.set hid o++[w,s])[id]?=some ⟨u8s all,true,true,false,1⟩:=fun o=>by
   rw[Qb (by rw[Qr];exact(Qf.1 J).1),Ql (Ne.symm hidne)];exact J
  have g3:∀o U:Ob,(H.set hid o++[w,s]).set hid U=H.set hid U++[w,s]:=fun o U=>by
   rw[Xd _ _ (by rw[Qr];exact hlt),KB]
  refine⟨.slice (some ⟨id,off+128,none⟩) (rest.length-128) (rest.length-128),H.set hid (hob (.slice (some ⟨id,off+128,none⟩) (rest.length-128) (rest.length-128)) n (blk st (rest.take 128)))++[w,s],Qz b0 (Qz b0 L M) [hid],[],?_,g1 _,?_,?_,?_,?_⟩
  ·simp only[hob]at hb ⊢
   generalize blk st (rest.take 128)=st' at *
   simp only[fdI,fdF,YQ,Qv,quiet,cW,↓pW,reduceCtorEq,seval,-Qa,e1,b1,b2,hb,c0,cs,cl,g0,J,g1,g2,g3]
  ·have:=Rst.own (K:=K) (H:=H.set hid (hob (.slice (some ⟨id,off+128,none⟩) (rest.length-128) (rest.length-128)) n (blk st (rest.take 128)))++[w,s]) (id:=id) (off:=off+128) (all:=all) (l:=rest.drop 128) k1 (g2 _) (by rw[QD];omega) (fun i hi=>by
    rw[QD]at hi
    rw[Zf,<-k3 _ qr,QV])
   rwa[QD]at this
  ·intro i hi
   rw[Qb (by rw[Qr];exact hK i hi),Ql (fun e=>E (by rw[e];exact hi))]
  ·simp
  ·intro i hi
   rcases Zv hi with h|h
   ·rcases Zv h with h|h
    ·exact hL i h
    ·rw[hM i h];exact E
   ·rw[Zu.1 h];exact E
def Rst.shape{K:Nat->Prop}{H:List Ob}{v:Value}{l:List Nat}(h:Rst K H v l):∃(a:Option Addr) (c:Nat),v=.slice a l.length c:=by
 cases h with
 |nil=>exact⟨_,_,rfl⟩
 |empty _ _=>exact⟨_,_,rfl⟩
 |own _ _ _ _=>exact⟨_,_,rfl⟩
def uH{x:Value}{all p:List Nat}(hK:∀i,K i->i<H.length)(hKh:¬K hid)(hh:Hsh K H hid all)(xa:∀y∈all,y<256)(xp:∀y∈p,y<256)
 (hl:∃(a:Option Addr) (c:Nat),x=.slice a p.length c) (he:∀o,elemsOf (H.set hid o) 1 p.length x=some (u8s p)) (hb:all.length+p.length<2^50) (hb2:p.length<=2^47-128) :
    ∃H' M,Zp T 158 [.pointer hid,.int .i64 128,x,fdF hid] H=some (.tuple #[],H',M)/\Hsh K H' hid (all++p)/\(∀i,K i->H'[i]?=H[i]?)/\H.length<=H'.length/\∀i∈M,¬K i:=by
  obtain⟨rv,h1,h2⟩:=hh
  have hlt:hid<H.length:=(Qf.1 h1).1
  obtain⟨I,Z⟩:∃q,q=all.length/128:=⟨_,rfl⟩
  rw[<-Z]at h1 h2
  have hq1:128*I<=all.length:=by rw[Z];omega
  have hst:stK I all=stK I (all++p):=(bb all p I hq1).symm
  have hN:(all++p).length=all.length+p.length:=Qh
  rw[hst]at h1
  obtain⟨J,hst0⟩:∃s,s=stK I (all++p):=⟨_,rfl⟩
  rw[<-hst0]at h1
  have hrest:all.drop (128*I)++p=(all++p).drop (128*I):=(Jh hq1).symm
  have hrl:(all.drop (128*I)).length<=127:=by rw[QD,Z];omega
  have hr1:Rst K (H.set hid (hob rv (all.length+p.length) J)) rv (all.drop (128*I)):=h2.setH h1 _
  have hK1:∀i,K i->i<(H.set hid (hob rv (all.length+p.length) J)).length:=fun i hi=>by rw[Qr];exact hK i hi
  have hlen:Go.Ev.lenV x=some p.length:=by obtain⟨a,c,rfl⟩:=hl;rfl
  obtain⟨E,H2,M2,ha,a1,a2,a3,a4,a5⟩:=hr1.append hK1 hlen (he _) qr
  have hg1:(H.set hid (hob rv (all.length+p.length) J))[hid]?=some (hob rv (all.length+p.length) J):=Qu hlt
  have hg2:=a5 hid _ hg1 rfl
  rw[Qr]at a3
  have hlt2:hid<H2.length:=qr
  have hr3:Rst K (H2.set hid (hob E (all.length+p.length) J)) E ((all++p).drop (128*I)):=by
    rw[hrest]at a1
    exact a1.setH hg2 _
  have hg3:(H2.set hid (hob E (all.length+p.length) J))[hid]?=some (hob E (all.length+p.length) J):=Qu hlt2
  obtain⟨H3,U⟩:∃X,X=H2.set hid (hob E (all.length+p.length) J):=⟨_,rfl⟩
  have hf3:∀i,K i->H3[i]?=H[i]? := fun i hi=>by
    have hne:hid≠i:=fun e=>hKh (by rw[e];exact hi)
    rw[U,Ql hne,a4 i hi,Ql hne]
  have hl3:H.length<=H3.length:=by rw[U,Qr];exact a3
  obtain⟨L3,hL3⟩:∃L,L=Qz H.length (Qz H.length (Qz H.length [] [hid]) M2) [hid]:=⟨_,rfl⟩
  have hL3':∀i∈L3,¬K i:=fun i hi=>by
    rw[hL3]at hi
    rcases Zv hi with h|h
    · rcases Zv h with h|h
      · rcases Zv h with h|h
        · simp at h
        · rw[Zu.1 h];exact hKh
      · exact a2 i h
    · rw[Zu.1 h];exact hKh
  rw[<-U]at hr3 hg3
  obtain⟨st,hloop,H',L',ex',rvf,rfl,f1,f2,f3,f4,f5⟩:=QM (T:=T) (base:=H.length) (id:=0) (body:=YQ)
    (fun k st=>∃H' L' ex' O,st=fdI hid H' L' ex'/\H'[hid]?=some (hob O (all.length+p.length) (stK (I+k) (all++p)))/\Rst K H' O ((all++p).drop (128*(I+k)))/\(∀i,K i->H'[i]?=H[i]?)/\H.length<=H'.length/\∀i∈L',¬K i)
    (Q:=fun st=>∃H' L' ex' O,st=fdI hid H' L' ex'/\H'[hid]?=some (hob O (all.length+p.length) (stK ((all++p).length/128) (all++p)))/\Rst K H' O ((all++p).drop (128*((all++p).length/128)))/\(∀i,K i->H'[i]?=H[i]?)/\H.length<=H'.length/\∀i∈L',¬K i)
    ((all++p).length/128-I) (s:=fdI hid H3 L3 []) ⟨H3,L3,[],E,rfl,by rw[ZM,<-hst0];exact hg3,by rw[ZM];exact hr3,hf3,hl3,hL3'⟩
    (fun k st hk hs=>by
      obtain⟨Hk,Lk,exk,O,rfl,k1,k2,k3,k4,k5⟩:=hs
      obtain⟨rv2,Hk2,L2,ex2,j1,j2,j3,j4,j5,j6⟩:=uM (b0:=H.length) (ex:=exk) (fun i hi=>QJ (hK i hi) k4) hKh k1 (Gg _ _) (Iy _ _) k2 (by rw[QD];omega) (fun y hy=>by
        rcases QB.1 (Zq hy)with h|h
        · exact xa y h
        · exact xp y h) k5 (by rw[QD];omega)
      refine⟨_,j1,Hk2,L2,ex2,rv2,rfl,j2,?_,fun i hi=>(j4 i hi).trans (k3 i hi),JG k4 j5,j6⟩
      rw[List.drop_drop]at j3
      rw[show 128*(I+(k+1))=128*(I+k)+128 by omega]
      exact j3)
    (fun st hs=>by
      obtain⟨Hk,Lk,exk,O,rfl,k1,k2,k3,k4,k5⟩:=hs
      have hqq:I+((all++p).length/128-I)=(all++p).length/128:=by
        have:I<=(all++p).length/128:=by rw[Z,hN];omega
        omega
      rw[hqq]at k1 k2
      have hrl2:((all++p).drop (128*((all++p).length/128))).length<128:=by rw[QD];omega
      obtain⟨v,c,hv⟩:=k2.shape
      refine⟨_,?_,Hk,Lk,[(33,.bool false)],O,rfl,k1,k2,k3,k4,k5⟩
      subst hv
      have c0:∀v' s',(hcl v' (all.length+p.length) s')[0]?=some v':=fun _ _=>rfl
      have e1:((128:Int)<=(((all++p).drop (128*((all++p).length/128))).length:Int))=False:=ut
      simp only[hob]at k1
      generalize((all++p).drop (128*((all++p).length/128))).length=rl,stK ((all++p).length/128) (all++p)=sk at *
      simp only[fdI,fdF,YQ,Qv,quiet,cW,↓pW,reduceCtorEq,seval,-Qa,e1,k1,c0])
  refine⟨H',L',?_,⟨rvf,by rw[hN]at f1 ⊢;exact f1,f2⟩,f3,f4,f5⟩
  obtain⟨c1,c2,rfl⟩:=hl
  simp only[fdI,Qp,Qn,hL3]at hloop
  simp only[hob]at h1 ha hg2 U
  have w1:IntKind.u64.wrap (p.length:Int)=(p.length:Int):=Wd qr
  have w2:IntKind.u64.wrap ((all.length:Int)+(p.length:Int))=((all.length+p.length:Nat):Int):=Yw qr
  have c0:∀v' n' s',(hcl v' n' s')[0]?=some v':=fun _ _ _=>rfl
  have c1':∀v' (n':Nat) s',(hcl v' n' s')[1]?=some (.int .u64 n'):=fun _ _ _=>rfl
  have s0:∀v' n' s' v,(hcl v' n' s').set 0 v=hcl v n' s':=fun _ _ _ _=>rfl
  have s1:∀v' n' s' (m:Nat),(hcl v' n' s').set 1 (.int .u64 (m:Int))=hcl v' m s':=fun _ _ _ _=>rfl
  have cl:∀v n' s',(1<=(hcl v n' s').length)=True:=fun v n' s'=>eq_true (by rw[Gp];omega)
  have cl2:∀v n' s',(2<=(hcl v n' s').length)=True:=fun v n' s'=>eq_true (by rw[Gp];omega)
  have hgs:∀o:Ob,(H.set hid o)[hid]?=some o:=fun o=>Qu hlt
  obtain⟨vr,cr,Y⟩:=a1.shape
  have hok:okVar E=true:=by rw[Y];rfl
  have hc1:E.cells.toList=[E]:=by rw[Y];rfl
  have hc2:E.cells.size=1:=by rw[Y];rfl
  clear Y
  generalize all.length+p.length=NN at *
  rw[Q9 (fn:=ql) rfl]
  simp only[ql,Qv,quiet,cW,↓pW,reduceCtorEq,seval,-Qa,fdF,h1,c0,c1',s0,s1,cl,cl2,w1,w2,hgs,ha,hg2,<-U,hok,hc1,hc2]
  simp only[fdF]at hloop
  simp only[hloop,Qv,quiet,cK,↓pQ,reduceCtorEq,seval,-Qa,cL]
  rfl
structure HPart(K:Nat->Prop)(H:List Ob)(x:Value)(p:List Nat):Prop where
 shape:∃(a:Option Addr) (c:Nat),x=.slice a p.length c
 reads:∀G:List Ob,(∀i,K i->G[i]?=H[i]?)->elemsOf G 1 p.length x=some (u8s p)
 lt:∀y∈p,y<256
 le:p.length<=2^47-128
def HPart.of{K:Nat->Prop}{H G:List Ob}{x:Value}{p:List Nat}(h:HPart K H x p)(I:∀i,K i->G[i]?=H[i]?):HPart K G x p :=
 ⟨h.shape,fun G' E=>h.reads G' fun i hi=>(E i hi).trans (I i hi),h.lt,h.le⟩
inductive HParts(K:Nat->Prop)(H:List Ob):List Value->List (List Nat)->Prop
 |nil:HParts K H [] []
 |cons {x:Value} {p:List Nat} {xs:List Value} {ps:List (List Nat)}:HPart K H x p->HParts K H xs ps->HParts K H (x::xs) (p::ps)
def HParts.get{K:Nat->Prop}{H:List Ob}:∀ {xs:List Value} {ps:List (List Nat)},HParts K H xs ps->∀ {i:Nat} {x:Value},xs[i]?=some x->∃p,ps[i]?=some p/\HPart K H x p
 |_,_,.nil,i,x,h=>by simp at h
 |_,_,.cons a b,0,x,h=>by simp at h;subst h;exact⟨_,rfl,a⟩
 |_,_,.cons a b,i+1,x,h=>by
  obtain⟨p,I,E⟩:=b.get (i:=i) (by simpa using h)
  exact⟨p,by simpa using I,E⟩
def HParts.len{K:Nat->Prop}{H:List Ob}:∀ {xs:List Value} {ps:List (List Nat)},HParts K H xs ps->ps.length=xs.length
 |_,_,.nil=>rfl
 |_,_,.cons _ b=>by simp[b.len]
def HParts.lt{K:Nat->Prop}{H:List Ob}:∀ {xs:List Value} {ps:List (List Nat)},HParts K H xs ps->∀y∈ps.flatten,y<256
 |_,_,.nil=>by simp
 |_,_,.cons a b=>by
  intro y E
  rw[QO]at E
  rcases QB.1 E with h|h
  ·exact a.lt y h
  ·exact b.lt y h
def PV(K:Nat->Prop)(H:List Ob)(pv:Value)(xs:List Value):Prop:=(pv=.slice none 0 0/\xs=[])\/∃pid off cap o,pv=.slice (some ⟨pid,off,none⟩) xs.length cap/\K pid/\H[pid]?=some o/\o.live=true/\∀i,i<xs.length->o.c[off+i]?=xs[i]?
def wrI(hid:Nat)(pv:Value)(n:Nat)(i:Int)(H:List Ob)(L:List Nat)(ex:Env):St:=⟨[(0,.pointer hid),(6,pv),(7,.int .i64 n),(8,.int .i64 i)]++ex,H,L⟩
def qG{H0:List Ob}{all:List Nat}(hK:∀i,K i->i<H.length)(I:¬K hid)(hh:Hsh K H hid all)(xa:∀y∈all,y<256)(hp:PV K H0 pv xs)(hP:HParts K H0 xs ps)(hF:∀i,K i->H[i]?=H0[i]?)(hL:∀i∈L,¬K i)(hi:i<xs.length)(hn:xs.length<2^50)(hb:all.length+(ps.getD i []).length<2^50) :
  ∃H' L',Q4 T b0 M8 (wrI hid pv xs.length i H L [])=some (.normal,wrI hid pv xs.length ((i+1:Nat):Int) H' L' [])/\Hsh K H' hid (all++ps.getD i [])/\(∀i,K i->H'[i]?=H[i]?)/\H.length<=H'.length/\∀i∈L',¬K i:=by
 obtain⟨x,hx⟩:∃x,xs[i]?=some x:=⟨_,Qg hi⟩
 obtain⟨p,O,E⟩:=hP.get hx
 have Z:ps.getD i []=p:=by rw[Qy,O];rfl
 rw[Z]at hb ⊢
 obtain⟨H',M,hf,f1,f2,f3,f4⟩:=uH hK I hh xa E.lt E.shape (fun o=>E.reads _ (fun j J=>by
  rw[Ql (fun e=>I (by rw[e];exact J))];exact hF j J)) hb E.le
 rcases hp with⟨-,h0⟩|⟨pid,off,cap,o,rfl,kp,ho,Y,hc⟩
 ·rw[h0]at hi;exact absurd hi (Nat.not_lt_zero _)
 ·have U:H[pid]?=some o:=(hF pid kp).trans ho
  have hcx:o.c[off+i]?=some x:=(hc i hi).trans hx
  have e1:((i:Int)<(xs.length:Int))=True:=wr
  have w3:IntKind.i64.wrap ((i:Int)+1)=((i+1:Nat):Int):=Zm (b:=1) qr
  refine⟨H',Qz b0 L M,?_,f1,f2,f3,fun j J =>?_⟩
  ·simp only[fdF]at hf
   generalize i+1=i1 at *
   simp only[wrI,M8,Qv,quiet,cW,↓pW,reduceCtorEq,seval,-Qa,e1,U,Y,hcx,w3,hf]
  ·rcases Zv J with h|h
   ·exact hL j h
   ·exact f4 j h
def LA{all:List Nat}(hK:∀i,K i->i<H.length)(hKh:¬K hid)(hh:Hsh K H hid all)(xa:∀y∈all,y<256)(hp:PV K H pv xs)(Y:HParts K H xs ps)(hn:xs.length<2^50)(hb:(all++ps.flatten).length<2^50) :
  ∃H' M,Zp T 146 [.pointer hid,pv] H=some (.tuple #[],H',M)/\Hsh K H' hid (all++ps.flatten)/\(∀i,K i->H'[i]?=H[i]?)/\H.length<=H'.length/\∀i∈M,¬K i:=by
 obtain⟨st,hl,H',J,rfl,f1,f2,f3,f4⟩:=QM (T:=T) (base:=H.length) (id:=0) (body:=M8)
  (fun i st=>∃H' J,st=wrI hid pv xs.length (i:Nat) H' J []/\Hsh K H' hid (all++(ps.take i).flatten)/\(∀i,K i->H'[i]?=H[i]?)/\H.length<=H'.length/\∀i∈J,¬K i)
  (Q:=fun st=>∃H' J,st=wrI hid pv xs.length (xs.length:Nat) H' J [(9,.bool false)]/\Hsh K H' hid (all++ps.flatten)/\(∀i,K i->H'[i]?=H[i]?)/\H.length<=H'.length/\∀i∈J,¬K i)
  xs.length (s:=wrI hid pv xs.length 0 H [] []) ⟨H,[],rfl,by simpa using hh,fun _ _=>rfl,Qj _,by simp⟩
  (fun i st hi hs=>by
   obtain⟨H1,L1,rfl,g1,g2,Z,g4⟩:=hs
   have hpl:=Y.len
   have O:ps.flatten=(ps.take i).flatten++((ps.getD i [])++(ps.drop (i+1)).flatten):=by
    obtain⟨p,E⟩:∃p,ps[i]?=some p:=⟨_,Qg qr⟩
    have I:ps.getD i []=p:=by rw[Qy,E];rfl
    rw[I,<-QO,<-Zz]
    congr 1
    have h1:=Qf.1 E
    conv=>lhs;rw[<-Z7 i ps,J4 h1.1,h1.2]
   have htk:(ps.take (i+1)).flatten=(ps.take i).flatten++ps.getD i []:=by
    obtain⟨p,E⟩:∃p,ps[i]?=some p:=⟨_,Qg qr⟩
    have I:ps.getD i []=p:=by rw[Qy,E];rfl
    rw[I,Zh,E,Zz];simp
   have hlt:=Y.lt
   obtain⟨H2,L2,j1,j2,j3,j4,j5⟩:=qG (b0:=H.length) (fun j U=>QJ (hK j U) Z) hKh g1 (fun y hy=>by
    rcases QB.1 hy with h|h
    ·exact xa y h
    ·exact hlt y (by rw[O];exact Va _ h)) hp Y g2 g4 hi hn (by
     rw[O]at hb
     simp only[Qh]at hb ⊢
     omega)
   refine⟨_,j1,H2,L2,rfl,by rw[htk,<-Qx];exact j2,fun j U=>(j3 j U).trans (g2 j U),JG Z j4,j5⟩)
  (fun st hs=>by
   obtain⟨H1,L1,rfl,g1,g2,Z,g4⟩:=hs
   rw[Qo (by rw[Y.len];exact Qj _)]at g1
   refine⟨_,?_,H1,L1,rfl,g1,g2,Z,g4⟩
   have e1:((xs.length:Int)<(xs.length:Int))=False:=ut
   simp only[wrI,M8,Qv,quiet,cK,↓pQ,reduceCtorEq,seval,-Qa,cL,cJ,e1])
 refine⟨H',J,?_,f1,f2,f3,f4⟩
 simp only[wrI,Qp,Qn]at hl
 have hlen:vLen false pv=some (.int .i64 xs.length):=by
  rcases hp with⟨rfl,h0⟩|⟨pid,off,cap,o,rfl,-⟩
  ·rw[h0];rfl
  ·rfl
 rw[Q9 (fn:=zM) rfl]
 simp only[zM,Qv,quiet,cW,↓pW,reduceCtorEq,seval,-Qa,hlen,hl]
 rfl
def ni:fillL (Value.slice none 0 0::Qc 9 (.int .u64 0)) [(2,8,.agg (ns .u64 Yq).toArray)]=some (hcl (.slice none 0 0) 0 Yq):=rfl
def yb(H:List Ob):Zp T 145 [] H=some (.pointer H.length,H++[hob (.slice none 0 0) 0 Yq],[]):=by
 have J:fillL (Qc 8 (Value.int .u64 0)) [(0,1,.int .u64 7640891576956012808),(1,1,.int .u64 13503953896175478587),(2,1,.int .u64 4354685564936845355),(3,1,.int .u64 11912009170470909681),(4,1,.int .u64 5840696475078001361),(5,1,.int .u64 11170449401992604703),(6,1,.int .u64 2270897969802886507),(7,1,.int .u64 6620516959819538809)]=some (ns .u64 Yq):=rfl
 have I:∀a,fillL [Value.slice none 0 0,.int .u64 0,.int .u64 0,.int .u64 0,.int .u64 0,.int .u64 0,.int .u64 0,.int .u64 0,.int .u64 0,.int .u64 0] [(2,8,.agg (ns .u64 a).toArray)]=fillL (Value.slice none 0 0::Qc 9 (.int .u64 0)) [(2,8,.agg (ns .u64 a).toArray)]:=fun _=>rfl
 have E:=ni
 simp only[hob]
 generalize Yq=S at *
 generalize hcl (.slice none 0 0) 0 S=C at *
 rw[Q9 (fn:=zN) rfl]
 simp only[zN,Qv,quiet,cW,↓pW,reduceCtorEq,seval,-Qa,J,I,E]
def tu(h:H[hid]?=some (hob (.slice none 0 0) 0 Yq)):Hsh K H hid []:=⟨_,h,.nil⟩
def paI(hid:Nat)(s:Value)(Hc:List Ob)(ex:Env):St:=⟨[(0,.pointer hid),(1,.int .i64 128),(2,.int .i64 16),(7,s)]++ex,Hc,[]⟩
def pbI(hid:Nat)(s:Value)(i:Int)(Hc:List Ob)(ex:Env):St:=⟨[(0,.pointer hid),(7,s),(8,.int .i64 i)]++ex,Hc,[]⟩
def Ft(n i:Nat):((n/256^(i+1)*8%256)|||(n/256^i%256/32))=8*n/256^(i+1)%256:=by
 have J:n/256^(i+1)=n/256^i/256:=by rw[Zn,Zc]
 have I:8*n/256^(i+1)=n/256^i/32:=by
  rw[Zc,Zn,show 256^i*256=8*(256^i*32) by omega,Nat.mul_div_mul_left _ _ ww]
 rw[J,I]
 generalize n/256^i=m
 have E:m/256*8%256=(m/256%32)*2^3:=qr
 rw[E,Yi qr]
 omega
def Au(n:Nat):(n+(1+Vd n)+16)%128=0:=by unfold Vd;omega
def RD(n z:Nat)(h:z<Vd n):(n+(1+z)+16)%128≠0:=by unfold Vd at h;omega
def Dv(n:Nat):Vd n<128:=by unfold Vd;omega
def sL(hh:H[hid]?=some (hob rv n st))(hn:n<2^50) :
  ∃s l,Q4 T H.length (.block 0 (.loop YP)) (paI hid (.slice H.length 1 1) (H++[{c:=[.int .u8 128]}]) [])=some (.normal,paI hid s (H++l) [(23,.bool false)])/\Grown .u8 H.length (H++l) s (128::Qc (Vd n) 0):=by
 have hlt:hid<H.length:=(Qf.1 hh).1
 have f0:fillL [Value.int .u8 0] [(0,1,.int .u8 0)]=some [.int .u8 0]:=rfl
 have c1:(hcl rv n st)[1]?=some (.int .u64 n):=rfl
 have hz:=Dv n
 obtain⟨x,hb,s,Hc,rfl,I,U,J⟩:=QM (T:=T) (base:=H.length) (id:=0) (body:=YP)
  (fun j x=>∃s Hc,x=paI hid s Hc []/\Grown .u8 H.length Hc s (128::Qc j 0)/\H.length<=Hc.length/\∀i,i<H.length->Hc[i]?=H[i]?)
  (Q:=fun x=>∃s Hc,x=paI hid s Hc [(23,.bool false)]/\Grown .u8 H.length Hc s (128::Qc (Vd n) 0)/\H.length<=Hc.length/\∀i,i<H.length->Hc[i]?=H[i]?)
  (Vd n) (s:=paI hid (.slice H.length 1 1) (H++[{c:=[.int .u8 128]}]) []) ⟨_,_,rfl,Grown.new (k := .u8) (id:=H.length) (bs:=[128]) (Qj _) ww (by simp[Ob.fresh,ns]),by simp,fun i hi=>Qb hi⟩
  (fun j x hj hx=>by
   obtain⟨s,Hc,rfl,I,U,J⟩:=hx
   have O:=I.len
   have Y:(128::Qc j 0).length=1+j:=by simp;omega
   rw[Y]at O
   obtain⟨s',H',M,h1,h2,h3,h4,h5⟩:=Yk (x:=0) (bytes:=1) I U (by rw[Y];omega) ww
   have hm:Qz H.length [] M=[]:=QC h3
   have E:Hc[hid]?=some {c:=hcl rv n st}:=(J hid hlt).trans hh
   have w1:IntKind.i64.wrap (n:Int)=(n:Int):=wn qr
   have w2:IntKind.i64.wrap ((n:Int)+((1+j:Nat):Int))=((n+(1+j):Nat):Int):=Zm qr
   have w3:IntKind.i64.wrap (((n+(1+j):Nat):Int)+16)=((n+(1+j)+16:Nat):Int):=Zm (b:=16) qr
   have Z:((n+(1+j)+16:Nat):Int).tmod 128=(((n+(1+j)+16)%128:Nat):Int):=rfl
   have w5:((((n+(1+j)+16)%128:Nat):Int) != 0)=true:=bne_iff_ne.2 (by have:=RD n j hj;omega)
   refine⟨paI hid s' H' [],?_,s',H',rfl,by rw[List.replicate_succ',<-Qp];exact h2,h4,fun i hi=>by rw[h5 i hi,J i hi]⟩
   simp only[Zx]at h1
   generalize(n+(1+j)+16)%128=r at *
   generalize n+(1+j)+16=r2 at *
   generalize n+(1+j)=r3 at *
   simp only[paI,YP,Qv,quiet,cW,↓pW,reduceCtorEq,seval,-Qa,E,c1,O,w1,w2,w3,Z,w5,f0,h1,hm])
  (fun x hx=>by
   obtain⟨s,Hc,rfl,I,U,J⟩:=hx
   have O:=I.len
   have Y:(128::Qc (Vd n) 0).length=1+Vd n:=by simp;omega
   rw[Y]at O
   have E:Hc[hid]?=some {c:=hcl rv n st}:=(J hid hlt).trans hh
   have w1:IntKind.i64.wrap (n:Int)=(n:Int):=wn qr
   have w2:IntKind.i64.wrap ((n:Int)+((1+Vd n:Nat):Int))=((n+(1+Vd n):Nat):Int):=Zm qr
   have w3:IntKind.i64.wrap (((n+(1+Vd n):Nat):Int)+16)=((n+(1+Vd n)+16:Nat):Int):=Zm (b:=16) qr
   have Z:((n+(1+Vd n)+16:Nat):Int).tmod 128=0:=by
    have:((n+(1+Vd n)+16:Nat):Int).tmod 128=(((n+(1+Vd n)+16)%128:Nat):Int):=rfl
    rw[this,Au];rfl
   refine⟨_,?_,s,Hc,rfl,I,U,J⟩
   generalize n+(1+Vd n)+16=r2 at *
   generalize n+(1+Vd n)=r3 at *
   simp only[paI,YP,Qv,quiet,cW,↓pW,reduceCtorEq,seval,-Qa,E,c1,O,w1,w2,w3,Z])
 obtain⟨l,rfl⟩:=XI U J
 exact⟨s,l,hb,I⟩
def Wi(n i:Nat):Nat:=8*n/256^(15-i)%256
def sJ{l0:List Ob}{s0:Value}{bs:List Nat}(hh:H[hid]?=some (hob rv n st))(hn:n<2^50)(hg0:Grown .u8 H.length (H++l0) s0 bs)(hbs:bs.length<=200) :
  ∃s l,Q4 T H.length (.block 2 (.loop V6)) (pbI hid s0 15 (H++l0) [])=some (.normal,pbI hid s (-1) (H++l) [(30,.bool false)])/\Grown .u8 H.length (H++l) s (bs++(Jn 16).map (Wi n)):=by
 have hlt:hid<H.length:=(Qf.1 hh).1
 have c1:(hcl rv n st)[1]?=some (.int .u64 n):=rfl
 obtain⟨x,hb,s,Hc,rfl,I,U,J⟩:=QM (T:=T) (base:=H.length) (id:=2) (body:=V6)
  (fun j x=>∃s Hc,x=pbI hid s ((15:Int)-j) Hc []/\Grown .u8 H.length Hc s (bs++(Jn j).map (Wi n))/\H.length<=Hc.length/\∀i,i<H.length->Hc[i]?=H[i]?)
  (Q:=fun x=>∃s Hc,x=pbI hid s (-1) Hc [(30,.bool false)]/\Grown .u8 H.length Hc s (bs++(Jn 16).map (Wi n))/\H.length<=Hc.length/\∀i,i<H.length->Hc[i]?=H[i]?)
  16 (s:=pbI hid s0 15 (H++l0) []) ⟨_,_,rfl,by simpa using hg0,by simp,fun i hi=>Qb hi⟩
  (fun j x hj hx=>by
   obtain⟨s,Hc,rfl,I,U,J⟩:=hx
   obtain⟨i,hi⟩:∃i,i=15-j:=⟨_,rfl⟩
   rw[show(15:Int)-j=(i:Int) by omega,show(15:Int)-((j+1:Nat):Int)=(i:Int)-1 by omega]
   have hl:=I.len
   have hpd:Wi n j=8*n/256^i%256:=by rw[hi];rfl
   obtain⟨s',H',M,O,h2,h3,h4,h5⟩:=Yk (x:=Wi n j) (bytes:=1) I U (by rw[Qh,List.length_map,List.length_range];omega) ww
   have hm:Qz H.length [] M=[]:=QC h3
   have E:Hc[hid]?=some {c:=hcl rv n st}:=(J hid hlt).trans hh
   have fx:∀a:Int,fillL [Value.int .u8 0] [(0,1,.int .u8 a)]=some [.int .u8 a]:=fun _=>rfl
   have w0:IntKind.i64.wrap ((i:Int)-1)=(i:Int)-1:=Zd qr qr
   have e0:((0:Int)<=(i:Int))=True:=wr
   refine⟨pbI hid s' ((i:Int)-1) H' [],?_,s',H',rfl,by rw[List.range_succ,XZ,<-Qx];exact h2,h4,fun k hk=>by rw[h5 k hk,J k hk]⟩
   rw[hpd]at O
   by_cases h9:i<9
   ·have e9:((i:Int)<9)=True:=wr
    have w1:IntKind.i64.wrap (8*(i:Int))=((8*i:Nat):Int):=Yb (a:=8) qr
    have Z:(((8*i:Nat):Int)<0)=False:=ut
    have Y:(n:Int).fdiv (2^min (8*i) IntKind.u64.bits)=((n/256^i:Nat):Int):=by
     rw[US qr,show(256:Nat)=2^8 from rfl,<-Jj]
    have hle:n/256^i<=n:=Jp _ _
    have w4:IntKind.u64.wrap (((n/256^i:Nat):Int)*2^min 3 IntKind.u64.bits)=((n/256^i*8:Nat):Int):=W1 (b:=8) qr
    have w5:IntKind.u8.wrap ((n/256^i*8:Nat):Int)=((n/256^i*8%256:Nat):Int):=Uk _
    by_cases hz:i=0
    ·subst hz
     have e8:n/256^0*8%256=8*n/256^0%256:=by rw[Jg,JQ,JQ];omega
     rw[e8]at w5
     have ew:(8*0:Nat)=0:=rfl
     simp only[ew,Zx]at w1 Z Y
     generalize 8*n/256^0%256=d at *
     generalize n/256^0*8=v1 at *
     generalize n/256^0=v2 at *
     simp only[pbI,V6,Qv,quiet,cW,↓pW,reduceCtorEq,seval,-Qa,E,c1,Z,Y,w4,w5,fx,O,hm]
    ·obtain⟨k,rfl⟩:∃k,i=k+1:=⟨i-1,by omega⟩
     have hd:=Ft n k
     have ep:((0:Int)<((k+1:Nat):Int))=True:=wr
     have v1:IntKind.i64.wrap (((8*(k+1):Nat):Int)-8)=((8*k:Nat):Int):=by rw[Zd qr qr];omega
     have v2:(((8*k:Nat):Int)<0)=False:=ut
     have v3:(n:Int).fdiv (2^min (8*k) IntKind.u64.bits)=((n/256^k:Nat):Int):=by
      rw[US qr,show(256:Nat)=2^8 from rfl,<-Jj]
     have v4:Z3 .and .u64 ((n/256^k:Nat):Int) 255=((n/256^k%256:Nat):Int):=U9 .u64 rfl 8 _ ww
     have v5:((n/256^k%256:Nat):Int).fdiv (2^min 5 IntKind.u64.bits)=((n/256^k%256/32:Nat):Int):=US (r:=5) ww
     have v6:IntKind.u8.wrap ((n/256^k%256/32:Nat):Int)=((n/256^k%256/32:Nat):Int):=by rw[Uk,Q6 qr]
     have v7:Z3 .or .u8 ((n/256^(k+1)*8%256:Nat):Int) ((n/256^k%256/32:Nat):Int)=((8*n/256^(k+1)%256:Nat):Int):=by
      rw[Kx rfl (show _<2^8 from Q3 _ ww) (show n/256^k%256/32<2^8 by omega),hd]
     generalize 8*n/256^(k+1)%256=d at *
     generalize n/256^(k+1)*8%256=u1 at *
     generalize n/256^(k+1)*8=u2 at *
     generalize n/256^(k+1)=u3 at *
     generalize n/256^k%256/32=u4 at *
     generalize n/256^k%256=u5 at *
     generalize n/256^k=u6 at *
     generalize 8*(k+1)=u7 at *
     generalize 8*k=u8' at *
     generalize k+1=k1 at *
     simp only[pbI,V6,Qv,quiet,cW,↓pW,reduceCtorEq,seval,-Qa,E,c1,w0,e0,e9,ep,w1,Z,Y,w4,w5,v1,v2,v3,v4,v5,v6,v7,fx,O,hm]
   ·have e9:((i:Int)<9)=False:=ut
    have ep:((0:Int)<(i:Int))=True:=wr
    have hz:8*n/256^i%256=0:=by
     have:(256:Nat)^9<=256^i:=Zy ww qr
     rw[Xk (QJ qr this)]
    rw[hz]at O
    simp only[Zx]at O
    simp only[pbI,V6,Qv,quiet,cW,↓pW,reduceCtorEq,seval,-Qa,w0,e0,e9,ep,fx,O,hm])
  (fun x hx=>by
   obtain⟨s,Hc,rfl,I,U,J⟩:=hx
   have e:((0:Int) <= -1)=False:=ww
   refine⟨_,?_,s,Hc,rfl,I,U,J⟩
   rw[show(15:Int)-((16:Nat):Int) = -1 by omega]
   simp only[pbI,V6,Qv,quiet,cK,↓pQ,reduceCtorEq,seval,-Qa,cL,e])
 obtain⟨l,rfl⟩:=XI U J
 exact⟨s,l,hb,I⟩
def bF(n:Nat):WR n=(128::Qc (Vd n) 0)++(Jn 16).map (Wi n):=by unfold WR Wi;rw[Qp]
def Se(E:H[hid]?=some (hob rv n st))(hn:n<2^50) :
  ∃s l,Zp T 175 [.pointer hid,.int .i64 128,.int .i64 16] H=some (s,H++l,[])/\Grown .u8 H.length (H++l) s (WR n):=by
 obtain⟨s1,l1,J,Z⟩:=sL E hn
 have hz:=Dv n
 obtain⟨s2,Y,I,O⟩:=sJ E hn Z (by simp;omega)
 rw[<-bF]at O
 refine⟨s2,Y,?_,O⟩
 have f128:fillL [Value.int .u8 0] [(0,1,.int .u8 128)]=some [.int .u8 128]:=rfl
 have U:IntKind.i64.wrap 15=15:=ww
 simp only[paI,Qp,Qn]at J
 simp only[pbI,Qp,Qn]at I
 rw[Q9 (fn:=qk) rfl]
 simp only[qk,Qv,quiet,cW,↓pW,reduceCtorEq,seval,-Qa,f128,J,U,I]
end
section
attribute [local congr] Jw JD Jv JE Jk
variable{x n i r a id off cap hid k y z w:Nat}{b s st:List Nat}{H G:List Ob}{rv:Value}{K:Nat->Prop}
def Rst.elems{K:Nat->Prop}{H:List Ob}{v:Value}{l:List Nat}(h:Rst K H v l):elemsOf H 1 l.length v=some (u8s l):=by
 cases h with
 |nil=>rfl
 |empty _ E=>simp[elemsOf,Zs E rfl,u8s]
 |own O E I J=>simp[elemsOf,Zs E rfl,Qq,I,TI J]
def Ii{e:Nat}{x:Value}{p:List Nat}(he:G[e]?=some {c:=[]})(O:¬K e)(J:¬K G.length)(I:Go.Ev.lenV x=some p.length)(E:elemsOf G 1 p.length x=some (u8s p))(hb:p.length<=2^47) :
  ∃v' l,ZV 1 1 G (.slice e 0 0) x=some (v',G++l,none,[])/\Rst K (G++l) v' p/\okVar v'=true/\v'.cells.toList=[v']/\v'.cells.size=1:=by
 have U:liveAt G e=some {c:=[]}:=Zs he rfl
 rcases ZP p.length with hn|hn
 ·have:p=[]:=ZU hn
  subst this
  refine⟨.slice e 0 0,[],?_,by rw[QF];exact .empty O he,rfl,rfl,rfl⟩
  rw[Z9]at I E
  simp only[ZV,I,E,Qk,if_true,QF]
 ·have h1:¬p.length=0:=qr
  have h2:p.length*1<=2^47:=qr
  have Z:¬(p.length<=0):=qr
  have Y:elemsOf G 1 0 (.slice e 0 0)=some []:=by simp[elemsOf,U]
  refine⟨.slice G.length p.length p.length,[Ob.grown 1 (u8s p)],?_,.own (all:=p) J (by simp[Ob.grown]) qr (fun i _=>by rw[QH]),rfl,rfl,rfl⟩
  simp only[ZV,I,E,Qk,if_neg h1,QH,h2,Nat.lt_add_one,and_self,not_true_eq_false,if_false,if_true,U,Y,if_neg Z,Qn]
def Rst.len{K:Nat->Prop}{H:List Ob}{v:Value}{l:List Nat}(h:Rst K H v l):Go.Ev.lenV v=some l.length:=by
 obtain⟨a,c,rfl⟩:=h.shape;rfl
def Ye(b:List Nat):(sha b).length=64:=by simp[sha]
def HK(b:List Nat):∀x∈sha b,x<256:=by
 intro x E
 simp only[sha,JN]at E
 obtain⟨i,-,rfl⟩:=E
 exact Q3 _ ww
def suI(r x o:Nat)(G:List Ob)(b:List Nat)(i:Int)(ex:Env):St:=⟨[(2,.pointer r),(3,.pointer x),(4,.pointer G.length),(32,.int .i64 i)]++ex,G++[{c:=u8s b}],[]⟩
def iB{base:Nat}{R:List Nat}(U:G[x]?=some (hob rv n st))(hs:st.length=8)(O:R.length=64)(J:∀i,i<64->R[i]?=some (st.getD (i/8) 0/256^(7-i%8)%256))(hxs:∀y∈st,y<18446744073709551616)(hb:base<=G.length) :
  Q4 T base (.block 0 (.loop M0)) (suI r x 0 G (Qc 64 0) 0 [])=some (.normal,suI r x 0 G R 64 [(33,.bool false)]):=by
 have h:=JB (T:=T) (base:=base) (id:=0) (body:=M0) (fun i=>suI r x 0 G (pf 64 R i) i []) (s':=suI r x 0 G R 64 [(33,.bool false)]) 64
  (fun i hi=>by
   obtain⟨w,hw⟩:∃w,st[i/8]?=some w:=⟨_,Qg qr⟩
   have hv:=J i hi
   rw[XF hw]at hv
   have hstep:=K7 O hi hv
   have hlen:=Vm O (JH hi)
   have E:=Xg (pf 64 R i) i (w/256^(7-i%8)%256)
   rw[hstep]at E
   have gc:=bW (rv:=rv) (n:=n) hw
   have I:∀l:List Ob,(G++l)[x]?=some {c:=hcl rv n st}:=fun l=>by rw[Qb (Qf.1 U).1];exact U
   have e1:((i:Int)<64)=True:=wr
   have w3:IntKind.i64.wrap ((i:Int)+1)=((i+1:Nat):Int):=Zm (b:=1) qr
   have w4:IntKind.i64.wrap ((i:Int).tdiv 8)=((i/8:Nat):Int):=wn (n:=i/8) qr
   have e2:(((i/8:Nat):Int)<8)=True:=wr
   have w5:(i:Int).tmod 8=((i%8:Nat):Int):=rfl
   have w6:IntKind.i64.wrap (8*((i%8:Nat):Int))=((8*(i%8):Nat):Int):=Yb (a:=8) qr
   have w7:IntKind.i64.wrap (56-((8*(i%8):Nat):Int))=((8*(7-i%8):Nat):Int):=by rw[Zd qr qr];omega
   have e3:(((8*(7-i%8):Nat):Int)<0)=False:=ut
   have Z:(w:Int).fdiv (2^min (8*(7-i%8)) IntKind.u64.bits)=((w/256^(7-i%8):Nat):Int):=by
    rw[US qr,show(256:Nat)=2^8 from rfl,<-Jj]
   have Y:IntKind.u8.wrap ((w/256^(7-i%8):Nat):Int)=((w/256^(7-i%8)%256:Nat):Int):=Uk _
   have e4:(i<=63)=True:=wr
   have m1:Qz base [] [G.length]=[]:=QC (by simpa using hb)
   clear hstep hv hw
   generalize pf 64 R i=o1,pf 64 R (i+1)=o2 at *
   generalize w/256^(7-i%8)%256=d at *
   generalize w/256^(7-i%8)=d2 at *
   generalize 8*(7-i%8)=d3 at *
   generalize 8*(i%8)=d4 at *
   generalize i%8=d5 at *
   generalize i/8=d6 at *
   generalize i+1=i1 at *
   simp only[suI,M0,Qv,quiet,cW,↓pW,reduceCtorEq,seval,-Qa,e1,e2,e3,e4,w3,w4,w5,w6,w7,Z,Y,I,gc,E,Qq,hlen,m1])
  (by
   rw[Vy O]
   simp only[suI,M0,Qv,quiet,cW,↓pW,reduceCtorEq,seval,-Qa])
 rw[Vx]at h
 exact h
def Grown.part{K:Nat->Prop}{B:Nat}{H:List Ob}{s:Value}{p:List Nat}(h:Grown .u8 B H s p)(J:∀i,B<=i->i<H.length->K i)(xp:∀y∈p,y<256)(Y:p.length<=2^47-128)(U:0<p.length):HPart K H s p:=by
 refine⟨?_,fun G O =>?_,xp,Y⟩
 ·cases h with
  |nil=>exact absurd U ww
  |own _ _ _=>exact⟨_,_,rfl⟩
  |new _ _ _=>exact⟨_,_,rfl⟩
 ·cases h with
  |nil=>exact absurd U ww
  |@own id _ I Z E =>
   have:=O id (J id I (Qf.1 E).1)
   rw[E]at this
   simp[elemsOf,Zs this rfl,Ob.grown,QA]
   exact Qo (by rw[QA];exact Qj _)
  |@new id _ I Z E =>
   have:=O id (J id I (Qf.1 E).1)
   rw[E]at this
   simp[elemsOf,Zs this rfl,Ob.fresh,QA]
   exact Qo (by rw[QA];exact Qj _)
def bE(n:Nat):∀y∈WR n,y<256:=by
 intro y E
 simp only[WR,J8,QB,Be,JN]at E
 rcases E with rfl|⟨-,rfl⟩|⟨i,-,rfl⟩
 ·decide
 ·decide
 ·exact Q3 _ ww
def Dw(n:Nat):(WR n).length=17+Vd n:=by simp[WR];omega
def Rst.toK{K K':Nat->Prop}{H:List Ob}{v:Value}{l:List Nat}(h:Rst K H v l)(J:∀i,¬K i->¬K' i):Rst K' H v l:=by
 cases h with
 |nil=>exact .nil
 |empty I E=>exact .empty (J _ I) E
 |own I E O U=>exact .own (J _ I) E O U
def YE:Qc 64 (Value.int .u8 0)=u8s (Qc 64 0):=rfl
def fM(I:Option Addr)(J E m:Nat)(h:st.length=8):fillL [Value.slice none 0 0,.int .u64 0,.int .u64 0,.int .u64 0,.int .u64 0,.int .u64 0,.int .u64 0,.int .u64 0,.int .u64 0,.int .u64 0] [(0,2,.agg [.slice I J E,.int .u64 m].toArray),(2,8,eV st)]=some (hcl (.slice I J E) m st):=by
 obtain⟨a,b,c,d,e,f,g,i,rfl⟩:=eight h
 rfl
def wT{H:List Ob}{all:List Nat}(hh:Hsh K H hid all)(xa:∀y∈all,y<256)(hn:all.length<2^49) :
  ∃H',Zp T 147 [.pointer hid] H=some (.agg (u8s (sha all)).toArray,H',[])/\(∀i,i<H.length->H'[i]?=H[i]?)/\H.length<=H'.length:=by
 obtain⟨rv,h1,h2⟩:=hh
 have hlt:hid<H.length:=(Qf.1 h1).1
 obtain⟨st,hst⟩:∃s,s=stK (all.length/128) all:=⟨_,rfl⟩
 have ls:st.length=8:=by rw[hst];exact Gg _ _
 rw[<-hst]at h1
 obtain⟨G,hG⟩:∃G,G=H++[{c:=u8s (Qc 64 0)},{c:=[]}]:=⟨_,rfl⟩
 have hGl:G.length=H.length+2:=by rw[hG];simp
 have hrG:Rst K G rv (all.drop (128*(all.length/128))):=by rw[hG];exact h2.app
 have heG:G[H.length+1]?=some {c:=[]}:=by rw[hG,Qd qr,Qt];rfl
 have hzG:G[H.length]?=some {c:=u8s (Qc 64 0)}:=by rw[hG,Qd qr,Qs];rfl
 have hhG:G[hid]?=some (hob rv all.length st):=by rw[hG,Qb hlt];exact h1
 obtain⟨v',l,ha,hr',hok,hc1,hc2⟩:=Ii (K:=fun i=>i≠H.length+1/\i≠G.length) heG wd wd hrG.len hrG.elems (by rw[QD];omega)
 obtain⟨G2,O⟩:∃X,X=G++l++[hob v' all.length st]:=⟨_,rfl⟩
 have hG2l:G2.length=G.length+l.length+1:=by rw[O];simp;omega
 obtain⟨I,Y⟩:∃x,x=(G++l).length:=⟨_,rfl⟩
 have hxl:I=G.length+l.length:=by rw[Y];simp
 have hx2:G2[I]?=some (hob v' all.length st):=by rw[O,Y,Qd (Qj _),Qs];rfl
 have hh2:G2[hid]?=some (hob rv all.length st):=by
  have:hid<G.length:=qr
  rw[O,Qx,Qb this];exact hhG
 obtain⟨s,l3,hp,hgr⟩:=Se hh2 qr
 obtain⟨G4,E⟩:∃X,X=G2++l3++[{c:=[s]}]:=⟨_,rfl⟩
 have hG4l:G4.length=G2.length+l3.length+1:=by rw[E];simp;omega
 have hgr4:Grown .u8 G2.length G4 s (WR all.length):=by rw[E];exact hgr.app
 obtain⟨K2,J⟩:∃K2:Nat->Prop,K2=fun i=>i<G4.length/\i≠I/\i≠H.length+1/\i≠G.length:=⟨_,rfl⟩
 have hx4:G4[I]?=some (hob v' all.length st):=by rw[E,Qx,Qb qr];exact hx2
 have hsh4:Hsh K2 G4 I all:=by
  refine⟨v',by rw[<-hst];exact hx4,?_⟩
  have:=(hr'.app (m:=[hob v' all.length st])).app (m:=l3++[{c:=[s]}])
  rw[<-O,<-Qx,<-E]at this
  exact this.toK fun i hi hk=>by
   rw[J]at hk
   exact hi ⟨hk.2.2.1,hk.2.2.2⟩
 have hpz:=Dv all.length
 have hpart:HPart K2 G4 s (WR all.length):=Grown.part hgr4 (fun i h1 h2=>by rw[J];exact⟨h2,by omega,by omega,by omega⟩) (bE _) (by rw[Dw];omega) (by rw[Dw];omega)
 have harr:(G2++l3).length<G4.length:=by rw[E];simp
 have hpv:PV K2 G4 (.slice ((G2++l3).length:Nat) 1 1) [s] := .inr ⟨_,0,1,_,rfl,by rw[J];exact⟨harr,by simp;omega,by simp;omega,by simp;omega⟩,by rw[E,Qd (Qj _),Qs];rfl,rfl,fun i _=>by rw[QH]⟩
 have hKx:¬K2 I:=by rw[J];intro h;exact h.2.1 rfl
 obtain⟨G5,M5,hw,Z,hf5,hl5,hM5⟩:=LA (fun i hi=>by rw[J]at hi;exact hi.1) hKx hsh4 xa hpv (.cons hpart .nil) (by show 1<2^50;decide) (by simp[Dw];omega)
 rw[QO,List.flatten_nil,QF]at Z
 obtain⟨rv5,hx5,-⟩:=Z
 obtain⟨st5,U⟩:∃s,s=stK ((all++WR all.length).length/128) (all++WR all.length):=⟨_,rfl⟩
 rw[<-U]at hx5
 have ls5:st5.length=8:=by rw[U];exact Gg _ _
 have xs5:∀y∈st5,y<18446744073709551616:=by rw[U];exact Iy _ _
 have hb5:H.length<=G5.length:=qr
 have hsu:=iB (r:=H.length) (base:=H.length) hx5 ls5 (Ye all) (fun i hi=>by simp[sha,hi,U]) xs5 hb5
 have hz5:G5[H.length]?=some {c:=u8s (Qc 64 0)}:=by
  rw[hf5 _ (by rw[J];exact⟨by omega,by omega,by omega,by omega⟩),E,Qx,Qb qr,O,Qx,Qb qr]
  exact hzG
 have hfr:∀i,i<H.length->G5[i]?=H[i]? := fun i hi=>by
  rw[hf5 _ (by rw[J];exact⟨by omega,by omega,by omega,by omega⟩),E,Qx,Qb qr,O,Qx,Qb qr,hG,Qb hi]
 have hm5:Qz H.length [] M5=[]:=QC fun i hi=>by
  have:=hM5 i hi
  rw[J]at this
  rcases ZA i H.length with h|h
  ·exact absurd (show i<G4.length/\i≠I/\i≠H.length+1/\i≠G.length from⟨by omega,by omega,by omega,by omega⟩) this
  ·exact h
 refine⟨(G5++[({c:=u8s (sha all)}:Ob)]).set H.length ({c:=u8s (sha all)}:Ob),?_,fun i hi=>by rw[Ql qr,Qb qr];exact hfr i hi,by rw[Qr,Qh];omega⟩
 have hz:=YE
 have lz:(Qc 64 0).length=64:=Q8
 have lsh:=Ye all
 have cst:=FK (rv:=rv) (n:=all.length) ls
 have c0:(hcl rv all.length st)[0]?=some rv:=rfl
 have c1:(hcl rv all.length st)[1]?=some (.int .u64 all.length):=rfl
 have hcl8:2+8<=(hcl rv all.length st).length:=by rw[Gp];omega
 obtain⟨va,vc,rfl⟩:=hr'.shape
 generalize(all.drop (128*(all.length/128))).length=rl at *
 have fl1:fillL [Value.slice none 0 0,.int .u64 0] [(0,1,.slice va rl vc),(1,1,.int .u64 all.length)]=some [.slice va rl vc,.int .u64 all.length]:=rfl
 have fl2:=fM va rl vc all.length ls
 have fls:fillL [Value.slice none 0 0] [(0,1,s)]=some [s]:=by
  obtain⟨sa,sc,hsh⟩:=hpart.shape
  rw[hsh];rfl
 have f0:fillL [] []=some []:=rfl
 have F1:H++[{c:=u8s (Qc 64 0)},{c:=[]}]=G:=hG.symm
 have Fx:G.length+l.length=I:=hxl.symm
 have F2:G++(l++[{c:=hcl (.slice va rl vc) all.length st}])=G2:=by rw[O,Qx];rfl
 have F4:G2++(l3++[{c:=[s]}])=G4:=by rw[E,Qx]
 have g1:G[hid]?=some {c:=hcl rv all.length st}:=hhG
 have g2:(G++l)[hid]?=some {c:=hcl rv all.length st}:=by rw[Qb qr];exact hhG
 have g5:∀o:Ob,(G5++[o])[H.length]?=some {c:=u8s (Qc 64 0)}:=fun o=>by rw[Qb qr];exact hz5
 have g6:∀o o':Ob,((G5++[o]).set H.length o')[H.length]?=some o':=fun o o'=>Qu (by rw[Qh];omega)
 have okcl:(hcl (.slice va rl vc) all.length st).all okVar=true:=by
  show(okVar (.slice va rl vc)&&(okVar (.int .u64 all.length)&&(ns .u64 st).all okVar))=true
  have:(ns .u64 st).all okVar=true:=by
   rw[List.all_eq_true];intro y hy
   simp only[ns,JN]at hy
   obtain⟨m,-,rfl⟩:=hy;rfl
  rw[this];rfl
 rw[Qh]at hw
 simp only[suI,Qp,Qn]at hsu
 have hge:H.length<=H.length+1:=qr
 generalize hcl rv all.length st=C1,hcl (.slice va rl vc) all.length st=C2,sha all=R,Qc 64 0=Z64 at *
 rw[Q9 (fn:=zL) rfl]
 simp only[zL,Qv,quiet,cW,↓pW,reduceCtorEq,seval,-Qa,hz,f0,F1,g1,g2,c0,c1,ha,fl1,cst,hcl8,Zi,fl2,Fx,F2,hp,fls,F4,hw,hm5,hsu,g5,g6,Qq,lz,lsh,Q7]
def cR{pv:Value}{xs:List Value}{ps:List (List Nat)}(hp:PV (fun i=>i<H.length) H pv xs)(hP:HParts (fun i=>i<H.length) H xs ps)(hn:xs.length<2^50)(hb:ps.flatten.length<2^49) :
  ∃l,Zp T 93 [pv] H=some (.agg (u8s (sha ps.flatten)).toArray,H++l,[]):=by
 obtain⟨H1,E⟩:∃X,X=H++[{c:=u8s (Qc 64 0)},hob (.slice none 0 0) 0 Yq]:=⟨_,rfl⟩
 have hl1:H1.length=H.length+2:=by rw[E];simp
 have hg1:H1[H.length+1]?=some (hob (.slice none 0 0) 0 Yq):=by rw[E,Qd qr,Qt];rfl
 have Y:H1[H.length]?=some {c:=u8s (Qc 64 0)}:=by rw[E,Qd qr,Qs];rfl
 have J:∀i,i<H.length->H1[i]?=H[i]? := fun i hi=>by rw[E,Qb hi]
 have O:PV (fun i=>i<H.length+1) H1 pv xs:=by
  rcases hp with h|⟨pid,off,cap,o,h1,h2,h3,h4,h5⟩
  ·exact .inl h
  ·exact .inr ⟨pid,off,cap,o,h1,VM h2,(J _ h2).trans h3,h4,h5⟩
 have hP1:HParts (fun i=>i<H.length+1) H1 xs ps:=by
  clear hn hb hp O
  induction hP with
  |nil=>exact .nil
  |cons a _ ih=>exact .cons ⟨a.shape,fun G hG=>a.reads G fun i hi=>(hG i (VM hi)).trans (J i hi),a.lt,a.le⟩ ih
 obtain⟨H2,M2,hw,s2,f2,l2,m2⟩:=LA (K:=fun i=>i<H.length+1) (hid:=H.length+1) (fun i hi=>by have:i<H.length+1:=hi;omega) (Yu _) (tu hg1) wd O hP1 hn (by rw[Qn];omega)
 rw[Qn]at s2
 obtain⟨H3,Z,f3,l3⟩:=wT s2 hP.lt hb
 have hm2:Qz H.length [] M2=[]:=QC fun i hi=>by
  have:¬i<H.length+1:=m2 i hi
  omega
 have g3:H3[H.length]?=some {c:=u8s (Qc 64 0)}:=by
  rw[f3 _ qr,f2 _ (Nat.lt_succ_self _)];exact Y
 have hfr:∀i,i<H.length->(H3.set H.length ({c:=u8s (sha ps.flatten)}:Ob))[i]?=H[i]? := fun i hi=>by
  rw[Ql qr,f3 _ qr,f2 _ (VM hi)];exact J i hi
 have hle:H.length<=(H3.set H.length ({c:=u8s (sha ps.flatten)}:Ob)).length:=by rw[Qr];omega
 obtain⟨l,hl⟩:=XI hle hfr
 refine⟨l,?_⟩
 rw[<-hl]
 have hz:=YE
 have lz:(Qc 64 0).length=64:=Q8
 have U:=Ye ps.flatten
 have I:=yb (H++[{c:=u8s (Qc 64 0)}])
 have e1:(H++[({c:=u8s (Qc 64 0)}:Ob)]).length=H.length+1:=by simp
 rw[e1,Qx,Qp,Qn,<-E]at I
 have g4:∀o:Ob,(H3.set H.length o)[H.length]?=some o:=fun o=>Qu qr
 generalize sha ps.flatten=R,Qc 64 0=Z64 at *
 rw[Q9 (fn:=zO) rfl]
 simp only[zO,Qv,quiet,cW,↓pW,reduceCtorEq,seval,-Qa,hz,I,hw,hm2,Z,g3,g4,Qq,lz,U,Q7]
def JO(x r:Nat):Nat:=x/2^r+x*2^(32-r)%4294967296
def TR(x:Nat):Nat:=JO x 7^^^JO x 18^^^(x/2^3)
def I2(x:Nat):Nat:=JO x 17^^^JO x 19^^^(x/2^10)
def qm(x:Nat):Nat:=JO x 2^^^JO x 13^^^JO x 22
def Tf(x:Nat):Nat:=JO x 6^^^JO x 11^^^JO x 25
def EG(e f g:Nat):Nat:=(e&&&f)^^^((4294967295^^^e)&&&g)
def nA(a b c:Nat):Nat:=(a&&&b)^^^(a&&&c)^^^(b&&&c)
def gN(w:List Nat):Nat:=(w.getD (w.length-16) 0+w.getD (w.length-7) 0+TR (w.getD (w.length-15) 0)+I2 (w.getD (w.length-2) 0))%4294967296
def Wc:Nat->List Nat->List Nat
 |0,l=>l
 |n+1,l=>Wc n l++[gN (Wc n l)]
def MM(b:List Nat):List Nat:=(Jn 16).map fun i=>be ((b.drop (4*i)).take 4)
def XO(b:List Nat):List Nat:=Wc 48 (MM b)
def Ep(s:List Nat)(k w:Nat):Nat:=(s.getD 7 0+Tf (s.getD 4 0)+EG (s.getD 4 0) (s.getD 5 0) (s.getD 6 0)+k+w)%4294967296
def cP(s:List Nat):Nat:=(qm (s.getD 0 0)+nA (s.getD 0 0) (s.getD 1 0) (s.getD 2 0))%4294967296
def kq(s:List Nat)(k w:Nat):List Nat:=[(Ep s k w+cP s)%4294967296,s.getD 0 0,s.getD 1 0,s.getD 2 0,(s.getD 3 0+Ep s k w)%4294967296,s.getD 4 0,s.getD 5 0,s.getD 6 0]
def Hn:Nat->List Nat->List Nat->List Nat
 |0,_,s=>s
 |n+1,w,s=>kq (Hn n w s) (Vr.getD n 0/2^32) (w.getD n 0)
def Te(s b:List Nat):List Nat:=XA (fun x y=>(x+y)%4294967296) s (Hn 64 (XO b) s)
def KU:List Nat:=[1779033703,3144134277,1013904242,2773480762,1359893119,2600822924,528734635,1541459225]
def Bo:Nat->List Nat->List Nat
 |0,_=>KU
 |n+1,b=>Te (Bo n b) ((b.drop (64*n)).take 64)
def Vn(n:Nat):Nat:=(119-n%64)%64
def Ui(n:Nat):List Nat:=128::(Qc (Vn n) 0++((Jn 8).map fun i=>8*n/256^(7-i)%256))
def Uc(b:List Nat):List Nat:=(Jn 32).map fun i=>(Bo ((b++Ui b.length).length/64) (b++Ui b.length)).getD (i/4) 0/256^(3-i%4)%256
def Vc(E:x<4294967296)(Y:0<r)(I:r<=31):JO x r<4294967296:=by
 unfold JO
 have e:(4294967296:Nat)=2^r*2^(32-r):=by rw[<-JU,show r+(32-r)=32 by omega]
 have Z:x/2^r<2^(32-r):=VY (by rw[<-e];exact E)
 have U:x*2^(32-r)%4294967296=(x%2^r)*2^(32-r):=by rw[e,Wt]
 rw[U]
 have O:x%2^r+1<=2^r:=Q3 _ (Xi ww)
 have J:=ZG (2^(32-r)) O
 rw[<-e,Zl,Xa]at J
 omega
def ki(E:x<4294967296)(U:0<r)(I:r<=31):(x*2^(32-r)%4294967296)|||(x/2^r)=JO x r:=by
 have e:(4294967296:Nat)=2^r*2^(32-r):=by rw[<-JU,show r+(32-r)=32 by omega]
 have O:x/2^r<2^(32-r):=VY (by rw[<-e];exact E)
 have J:x*2^(32-r)%4294967296=(x%2^r)*2^(32-r):=by rw[e,Wt]
 unfold JO
 rw[J,Yi O,Xu]
def HE(a b:Nat):IntKind.u32.wrap ((a:Int)+(b:Int))=(((a+b)%4294967296:Nat):Int):=by rw[<-Kz,bN]
def W0{b:Nat}(ha:a<4294967296)(hb:b<4294967296):Z3 .xor .u32 (a:Int) (b:Int)=((a^^^b:Nat):Int):=Cj rfl ha hb
def Pa{b:Nat}(ha:a<4294967296)(hb:b<4294967296):Z3 .and .u32 (a:Int) (b:Int)=((a&&&b:Nat):Int):=Y7 rfl ha hb
def Sj{b:Nat}(ha:a<4294967296)(hb:b<4294967296):Z3 .or .u32 (a:Int) (b:Int)=((a|||b:Nat):Int):=Kx rfl ha hb
def VE{b:Nat}(ha:a<4294967296)(hb:b<4294967296):a^^^b<4294967296:=KI (n:=32) ha hb
def Wp{b:Nat}(hb:b<4294967296):a&&&b<4294967296:=Xz (n:=32) a hb
def RA(E:r<=32):(x:Int).fdiv (2^min r IntKind.u32.bits)=((x/2^r:Nat):Int):=by
 rw[show min r IntKind.u32.bits=r from Zg E,<-B1,XM];rfl
def OG(E:x<4294967296):x/2^r<4294967296:=Ja (Jp _ _) E
def HD(h:n<4294967296):IntKind.u32.wrap (n:Int)=n:=by rw[bN,Q6 h]
def U3(l:List Nat):∀n,(Wc n l).length=l.length+n
 |0=>rfl
 |n+1=>by rw[Wc,Qh,U3 l n];rfl
def U4(l:List Nat){n j:Nat}(E:j<l.length+n):∀m,n<=m->(Wc m l)[j]?=(Wc n l)[j]?
 |0,h=>by rw[show n=0 by omega]
 |m+1,h=>by
  by_cases e:n=m+1
  ·rw[e]
  ·rw[Wc,Qb (by rw[U3];omega),U4 l E m qr]
def HC(b:List Nat):(MM b).length=16:=by simp[MM]
def Ua(b:List Nat):(XO b).length=64:=by rw[XO,U3,HC]
def TE(hi:i<16):(XO b)[i]?=some (be ((b.drop (4*i)).take 4)):=by
 rw[XO,U4 _ (n:=0) (by rw[HC];omega) 48 qr]
 simp[Wc,MM,hi]
def TD(hi:16<=i)(J:i<64):(XO b)[i]?=some (((XO b).getD (i-16) 0+(XO b).getD (i-7) 0+TR ((XO b).getD (i-15) 0)+I2 ((XO b).getD (i-2) 0))%4294967296):=by
 obtain⟨n,rfl⟩:∃n,i=16+n:=⟨i-16,by omega⟩
 have I:=HC b
 have hn:=U3 (MM b) n
 rw[I]at hn
 have E:∀j,j<16+n->(XO b).getD j 0=(Wc n (MM b)).getD j 0:=fun j O=>by
  rw[Qy,Qy,XO,U4 _ (n:=n) (by rw[I];omega) 48 qr]
 rw[E _ qr,E _ qr,E _ qr,E _ qr]
 rw[XO,U4 _ (n:=n+1) (by rw[I];omega) 48 qr,Wc,Qd qr,hn,Qs]
 simp only[gN,hn,JV]
def LC(hb:∀x∈b,x<256){i:Nat}(E:(XO b)[i]?=some x):x<4294967296:=by
 have hi:i<64:=by have:=(Qf.1 E).1;rwa[Ua]at this
 by_cases h:i<16
 ·rw[TE h]at E
  cases E
  have J:((b.drop (4*i)).take 4).length<=4:=by rw[Q0];omega
  have:=OY _ _ rfl (fun y I=>hb y (Zq (QG I)):∀y∈(b.drop (4*i)).take 4,y<256)
  exact QJ this (Zy (n:=256) ww J)
 ·rw[TD qr hi]at E
  cases E
  exact Q3 _ ww
def Gj(hs:s.length=8)(w:List Nat):∀n,(Hn n w s).length=8
 |0=>hs
 |n+1=>rfl
def rM(hs:s.length=8)(E:∀x∈s,x<4294967296)(k w:Nat):∀x∈kq s k w,x<4294967296:=by
 obtain⟨a,b,c,d,e,f,g,h,rfl⟩:=eight hs
 intro x hm
 have I:∀y z:Nat,(y+z)%4294967296<4294967296:=fun _ _=>Q3 _ ww
 simp only[kq,J8,Xl,or_false]at hm
 rcases hm with rfl|rfl|rfl|rfl|rfl|rfl|rfl|rfl
 ·exact I _ _
 ·exact E _ wd
 ·exact E _ wd
 ·exact E _ wd
 ·exact I _ _
 ·exact E _ wd
 ·exact E _ wd
 ·exact E _ wd
def Nk{s:List Nat}(hs:s.length=8)(E:∀x∈s,x<4294967296)(w:List Nat):∀n,∀x∈Hn n w s,x<4294967296
 |0=>E
 |n+1=>rM (Gj hs w n) (Nk hs E w n) _ _
def YF(U:x<4294967296)(hk:0<k)(hk':k<=31):Zo T 182 [.int .u32 x,.int .i64 (k:Nat)]=some (.int .u32 (JO x (32-k):Nat)):=by
 have hw:IntKind.u64.wrap (k:Int)=(k:Int):=Wd qr
 have hm:Z3 .and .u64 (k:Int) 31=(k:Int):=by
  have:=U9 .u64 rfl 5 k ww
  have e:((2^5-1:Nat):Int)=31:=ww
  rw[e]at this
  rw[this,Q6 qr]
 have Z:((k:Int)<0)=False:=ut
 have O:min k IntKind.u32.bits=k:=Zg (by show k<=32;omega)
 have J:IntKind.u32.wrap ((x:Int)*2^k)=((x*2^k%4294967296:Nat):Int):=by
  rw[<-bN,Jy,XM];rfl
 have E:IntKind.u64.wrap (32-(k:Int))=((32-k:Nat):Int):=by rw[Wb];omega
 have Y:(((32-k:Nat):Int)<0)=False:=ut
 have I:(x:Int).fdiv (2^min (32-k) IntKind.u32.bits)=((x/2^(32-k):Nat):Int):=RA qr
 have ho:Z3 .or .u32 ((x*2^k%4294967296:Nat):Int) ((x/2^(32-k):Nat):Int)=((JO x (32-k):Nat):Int):=by
  have h2:x/2^(32-k)<4294967296:=Ja (Jp _ _) U
  have:=ki (r:=32-k) U qr qr
  rw[show 32-(32-k)=k by omega]at this
  rw[Sj (Q3 _ ww) h2,this]
 generalize hq:32-k=q at *
 apply Zb (fn:=zk) rfl
 simp only[zk,↓Bn,Qv,quiet,cW,↓pW,reduceCtorEq,seval,-Qa,hw,hm,Z,O,J,E,Y,I,ho]
 rfl
def be4(O:y<256)(hz:z<256)(hw:w<256):(((x*16777216)|||(y*65536))|||(z*256))|||w=be [x,y,z,w]:=by
 have J:(x*16777216)|||(y*65536)=(x*256+y)*65536:=by
  have:=Yi (a:=y*65536) (b:=x) (n:=24) qr
  rw[show(2:Nat)^24=16777216 from rfl]at this
  rw[this];omega
 have I:((x*256+y)*65536)|||(z*256)=((x*256+y)*256+z)*256:=by
  have:=Yi (a:=z*256) (b:=x*256+y) (n:=16) qr
  rw[show(2:Nat)^16=65536 from rfl]at this
  rw[this];omega
 have E:(((x*256+y)*256+z)*256)|||w=((x*256+y)*256+z)*256+w:=by
  have:=Yi (a:=w) (b:=(x*256+y)*256+z) (n:=8) qr
  rw[show(2:Nat)^8=256 from rfl]at this
  exact this
 rw[J,I,E]
 simp[be]
def ET(E:k<=32)(h:x*2^k<4294967296):IntKind.u32.wrap ((x:Int)*2^min k IntKind.u32.bits)=((x*2^k:Nat):Int):=by
 rw[show min k IntKind.u32.bits=k from Zg E,<-HD h,Jy,XM]
 rfl
def tP(h:x<256):x*16777216<4294967296:=qr
def Oc(h:x<256):x*65536<4294967296:=qr
def lt8(h:x<256):x*256<4294967296:=qr
def lt0(h:x<256):x<4294967296:=qr
def RY(H:List Ob)(P:Value)(id off cap:Nat)(w:List Nat)(i:Int)(ex:Env):St:=⟨[(0,P),(1,.slice (some ⟨id,off,none⟩) 64 cap),(4,.pointer H.length),(22,.int .i64 i)]++ex,H++[{c:=ns .u32 w}],[]⟩
def take4{j:Nat}(O:b[j]?=some x)(J:b[j+1]?=some y)(I:b[j+2]?=some z)(E:b[j+3]?=some w):(b.drop j).take 4=[x,y,z,w]:=by
 apply ZE
 intro k
 rw[QN]
 match k with
 |0=>simpa using O
 |1=>simpa using J
 |2=>simpa using I
 |3=>simpa using E
 |k+4=>rw[if_neg qr];simp
def qI{P:Value}(hb:BB H id off b)(hl:b.length=64)(hi:i<16) :
  Q4 T H.length WG (RY H P id off cap (pf 64 (XO b) i) i [])=some (.normal,RY H P id off cap (pf 64 (XO b) (i+1)) ((i+1:Nat):Int) []):=by
 obtain⟨⟨all,h1,h2⟩,Z⟩:=hb
 have I:=Ua b
 have Y:∀l:List Ob,(H++l)[id]?=some ⟨u8s all,true,true,false,1⟩:=fun l=>by rw[Qb (Qf.1 h1).1];exact h1
 obtain⟨x,hx⟩:∃x,b[4*i]?=some x:=⟨_,Qg qr⟩
 obtain⟨y,hy⟩:∃x,b[4*i+1]?=some x:=⟨_,Qg qr⟩
 obtain⟨z,hz⟩:∃x,b[4*i+2]?=some x:=⟨_,Qg qr⟩
 obtain⟨w,hw⟩:∃x,b[4*i+3]?=some x:=⟨_,Qg qr⟩
 have lx:=Z x (Qw hx)
 have ly:=Z y (Qw hy)
 have lz:=Z z (Qw hz)
 have lw:=Z w (Qw hw)
 have cx:(u8s all)[off+4*i]?=some (.int .u8 (x:Nat)):=ZN (by rw[h2 _ qr];exact hx)
 have cy:(u8s all)[off+(4*i+1)]?=some (.int .u8 (y:Nat)):=ZN (by rw[h2 _ qr];exact hy)
 have cz:(u8s all)[off+(4*i+2)]?=some (.int .u8 (z:Nat)):=ZN (by rw[h2 _ qr];exact hz)
 have cw:(u8s all)[off+(4*i+3)]?=some (.int .u8 (w:Nat)):=ZN (by rw[h2 _ qr];exact hw)
 have hW:=TE (b:=b) hi
 rw[take4 hx hy hz hw]at hW
 have hstep:=K7 I (by omega:i<64) hW
 have hpl:=Vm I (by omega:i<=64)
 have E:=JL .u32 (pf 64 (XO b) i) i (be [x,y,z,w])
 rw[hstep]at E
 have e1:((i:Int)<64)=True:=wr
 have e2:((i:Int)<16)=True:=wr
 have e4:(i<=63)=True:=wr
 have w1:IntKind.i64.wrap (4*(i:Int))=((4*i:Nat):Int):=Yb (a:=4) qr
 have w2:IntKind.i64.wrap (((4*i:Nat):Int)+1)=((4*i+1:Nat):Int):=Zm (b:=1) qr
 have w3:IntKind.i64.wrap (((4*i:Nat):Int)+2)=((4*i+2:Nat):Int):=Zm (b:=2) qr
 have w4:IntKind.i64.wrap (((4*i:Nat):Int)+3)=((4*i+3:Nat):Int):=Zm (b:=3) qr
 have w5:IntKind.i64.wrap ((i:Int)+1)=((i+1:Nat):Int):=Zm (b:=1) qr
 have j0:(((4*i:Nat):Int)<64)=True:=wr
 have j1:(((4*i+1:Nat):Int)<64)=True:=wr
 have j2:(((4*i+2:Nat):Int)<64)=True:=wr
 have j3:(((4*i+3:Nat):Int)<64)=True:=wr
 have u1:IntKind.u32.wrap (x:Int)=(x:Int):=HD qr
 have u2:IntKind.u32.wrap (y:Int)=(y:Int):=HD qr
 have u3:IntKind.u32.wrap (z:Int)=(z:Int):=HD qr
 have u4:IntKind.u32.wrap (w:Int)=(w:Int):=HD qr
 obtain⟨x1,U,b1,s1⟩:∃v,v=x*16777216/\v<4294967296/\IntKind.u32.wrap ((x:Int)*2^min 24 IntKind.u32.bits)=(v:Int):=⟨_,rfl,tP lx,by
  have:=ET (x:=x) (k:=24) ww (tP lx)
  rwa[show(2:Nat)^24=16777216 from rfl]at this⟩
 obtain⟨y1,O,b2,s2⟩:∃v,v=y*65536/\v<4294967296/\IntKind.u32.wrap ((y:Int)*2^min 16 IntKind.u32.bits)=(v:Int):=⟨_,rfl,Oc ly,by
  have:=ET (x:=y) (k:=16) ww (Oc ly)
  rwa[show(2:Nat)^16=65536 from rfl]at this⟩
 obtain⟨z1,J,b3,s3⟩:∃v,v=z*256/\v<4294967296/\IntKind.u32.wrap ((z:Int)*2^min 8 IntKind.u32.bits)=(v:Int):=⟨_,rfl,lt8 lz,by
  have:=ET (x:=z) (k:=8) ww (lt8 lz)
  rwa[show(2:Nat)^8=256 from rfl]at this⟩
 have o1:=Sj b1 b2
 have c1:x1|||y1<4294967296:=JZ (n:=32) b1 b2
 have o2:=Sj c1 b3
 have c2:x1|||y1|||z1<4294967296:=JZ (n:=32) c1 b3
 have o3:Z3 .or .u32 ((x1|||y1|||z1:Nat):Int) (w:Int)=((be [x,y,z,w]:Nat):Int):=by
  rw[Sj c2 (lt0 lw),U,O,J,be4 ly lz lw]
 clear hstep hW hx hy hz hw I h2 Z U O J
 generalize be [x,y,z,w]=v at *
 generalize x1|||y1|||z1=v3 at *
 generalize x1|||y1=v2 at *
 generalize pf 64 (XO b) i=O1,pf 64 (XO b) (i+1)=O2 at *
 generalize hk1:4*i+1=k1 at *
 generalize hk2:4*i+2=k2 at *
 generalize hk3:4*i+3=k3 at *
 generalize 4*i=k at *
 generalize i+1=i1 at *
 simp only[RY,WG,Qv,quiet,cW,↓pW,reduceCtorEq,seval,-Qa,e1,e2,e4,w1,w2,w3,w4,w5,j0,j1,j2,j3,Y,cx,cy,cz,cw,u1,u2,u3,u4,s1,s2,s3,o1,o2,o3,E,QA,hpl]
def gQ{P:Value}(hb:∀x∈b,x<256)(hi:16<=i)(J:i<64) :
  Q4 T H.length WG (RY H P id off cap (pf 64 (XO b) i) i [])=some (.normal,RY H P id off cap (pf 64 (XO b) (i+1)) ((i+1:Nat):Int) []):=by
 have O:=Ua b
 have hW:=TD (b:=b) hi J
 have hstep:=K7 O J hW
 have hpl:=Vm O (JH J)
 obtain⟨x,hx⟩:∃x,(XO b)[i-15]?=some x:=⟨_,Qg qr⟩
 obtain⟨y,hy⟩:∃x,(XO b)[i-2]?=some x:=⟨_,Qg qr⟩
 obtain⟨u,hu⟩:∃x,(XO b)[i-16]?=some x:=⟨_,Qg qr⟩
 obtain⟨v,hv⟩:∃x,(XO b)[i-7]?=some x:=⟨_,Qg qr⟩
 have Y:=LC hb hx
 have U:=LC hb hy
 have cx:=Z4 (k := .u32) ((YG (n:=64) (by omega:i-15<i) qr).trans hx)
 have cy:=Z4 (k := .u32) ((YG (n:=64) (by omega:i-2<i) qr).trans hy)
 have cu:=Z4 (k := .u32) ((YG (n:=64) (by omega:i-16<i) qr).trans hu)
 have cv:=Z4 (k := .u32) ((YG (n:=64) (by omega:i-7<i) qr).trans hv)
 rw[XF hx,XF hy,XF hu,XF hv]at hstep
 have r7:Zo T 182 [.int .u32 x,.int .i64 25]=some (.int .u32 (JO x 7:Nat)):=YF (k:=25) Y ww ww
 have r18:Zo T 182 [.int .u32 x,.int .i64 14]=some (.int .u32 (JO x 18:Nat)):=YF (k:=14) Y ww ww
 have r17:Zo T 182 [.int .u32 y,.int .i64 15]=some (.int .u32 (JO y 17:Nat)):=YF (k:=15) U ww ww
 have r19:Zo T 182 [.int .u32 y,.int .i64 13]=some (.int .u32 (JO y 19:Nat)):=YF (k:=13) U ww ww
 have b7:=Vc (r:=7) Y ww ww
 have b18:=Vc (r:=18) Y ww ww
 have b17:=Vc (r:=17) U ww ww
 have Z:=Vc (r:=19) U ww ww
 have x1:=W0 b7 b18
 have x2:Z3 .xor .u32 ((JO x 7^^^JO x 18:Nat):Int) ((x/2^3:Nat):Int)=((TR x:Nat):Int):=W0 (VE b7 b18) (OG Y)
 have y1:=W0 b17 Z
 have y2:Z3 .xor .u32 ((JO y 17^^^JO y 19:Nat):Int) ((y/2^10:Nat):Int)=((I2 y:Nat):Int):=W0 (VE b17 Z) (OG U)
 have s3:(x:Int).fdiv (2^min 3 IntKind.u32.bits)=((x/2^3:Nat):Int):=RA ww
 have s10:(y:Int).fdiv (2^min 10 IntKind.u32.bits)=((y/2^10:Nat):Int):=RA ww
 have m1:=HE u v
 have m2:=HE ((u+v)%4294967296) (TR x)
 have m3:=HE (((u+v)%4294967296+TR x)%4294967296) (I2 y)
 have E:(((u+v)%4294967296+TR x)%4294967296+I2 y)%4294967296=(u+v+TR x+I2 y)%4294967296:=qr
 rw[E]at m3
 have I:=JL .u32 (pf 64 (XO b) i) i ((u+v+TR x+I2 y)%4294967296)
 rw[hstep]at I
 have e1:((i:Int)<64)=True:=wr
 have e2:((i:Int)<16)=False:=ut
 have i15:IntKind.i64.wrap ((i:Int)-15)=((i-15:Nat):Int):=by rw[Zd qr qr];omega
 have i2:IntKind.i64.wrap ((i:Int)-2)=((i-2:Nat):Int):=by rw[Zd qr qr];omega
 have i16:IntKind.i64.wrap ((i:Int)-16)=((i-16:Nat):Int):=by rw[Zd qr qr];omega
 have i7:IntKind.i64.wrap ((i:Int)-7)=((i-7:Nat):Int):=by rw[Zd qr qr];omega
 have j15:(((i-15:Nat):Int)<64)=True:=wr
 have j2:(((i-2:Nat):Int)<64)=True:=wr
 have j16:(((i-16:Nat):Int)<64)=True:=wr
 have j7:(((i-7:Nat):Int)<64)=True:=wr
 have w3:IntKind.i64.wrap ((i:Int)+1)=((i+1:Nat):Int):=Zm (b:=1) qr
 have e4:(i<=63)=True:=wr
 clear E hstep hW hx hy hu hv O
 generalize pf 64 (XO b) i=O1,pf 64 (XO b) (i+1)=O2,(u+v+TR x+I2 y)%4294967296=z,((u+v)%4294967296+TR x)%4294967296=z2 at *
 generalize(u+v)%4294967296=z3 at *
 generalize TR x=gx,I2 y=gy,JO x 7^^^JO x 18=xx,JO y 17^^^JO y 19=yy at *
 generalize JO x 7=x1v,JO x 18=x8v,JO y 17=y19v,JO y 19=y61v at *
 generalize x/2^3=x7v at *
 generalize y/2^10=y6v at *
 generalize i-15=k15 at *
 generalize i-2=k2 at *
 generalize i-16=k16 at *
 generalize i-7=k7 at *
 generalize i+1=i1 at *
 simp only[RY,WG,Qv,quiet,cW,↓pW,reduceCtorEq,seval,-Qa,e1,e2,e4,i15,i2,i16,i7,j15,j2,j16,j7,cx,cy,cu,cv,r7,r18,r17,r19,x1,x2,y1,y2,s3,s10,m1,m2,m3,I,w3,QA,hpl]
def cC{P:Value}(hb:BB H id off b)(I:b.length=64) :
  Q4 T H.length (.block 0 (.loop WG)) (RY H P id off cap (Qc 64 0) 0 [])=some (.normal,RY H P id off cap (XO b) 64 [(23,.bool false)]):=by
 have E:=Ua b
 have h:=JB (T:=T) (base:=H.length) (id:=0) (body:=WG) (fun i=>RY H P id off cap (pf 64 (XO b) i) i []) (s':=RY H P id off cap (XO b) 64 [(23,.bool false)]) 64
  (fun i hi=>by
   by_cases h:i<16
   ·exact qI hb I h
   ·exact gQ hb.lt qr hi)
  (by
   rw[Vy E]
   simp only[RY,WG,Qv,quiet,cW,↓pW,reduceCtorEq,seval,-Qa])
 rw[Vx]at h
 exact h
def Ik(H:List Ob)(P:Value)(w s:List Nat)(i:Int)(ex:Env):St:=⟨[(0,P),(4,.pointer H.length),(8,.pointer (H.length+1:Nat)),(9,.int .u32 (s.getD 0 0:Nat)),(10,.int .u32 (s.getD 1 0:Nat)),(11,.int .u32 (s.getD 2 0:Nat)),(12,.int .u32 (s.getD 3 0:Nat)),(13,.int .u32 (s.getD 4 0:Nat)),(14,.int .u32 (s.getD 5 0:Nat)),(15,.int .u32 (s.getD 6 0:Nat)),(16,.int .u32 (s.getD 7 0:Nat)),(141,.int .i64 i)]++ex,H++[{c:=ns .u32 w},{c:=ns .u64 Vr}],[]⟩
def gV{P:Value}{w:List Nat}(hw:w.length=64)(hs:s.length=8)(J:∀x∈s,x<4294967296)(hi:i<64) :
  Q4 T H.length GF (Ik H P w s i [])=some (.normal,Ik H P w (kq s (Vr.getD i 0/2^32) (w.getD i 0)) ((i+1:Nat):Int) []):=by
 obtain⟨a,b,c,d,e,f,g,h,rfl⟩:=eight hs
 obtain⟨k,hk⟩:∃k,Vr[i]?=some k:=⟨_,Qg (by rw[Um];omega)⟩
 obtain⟨v,hv⟩:∃k,w[i]?=some k:=⟨_,Qg qr⟩
 have lk:=ug k (Qw hk)
 rw[XF hk,XF hv]
 have kc:=Z4 (k := .u64) hk
 have vc:=Z4 (k := .u32) hv
 have I:=J a wd
 have lb:=J b wd
 have lc:=J c wd
 have le:=J e wd
 have lf:=J f wd
 have lg:=J g wd
 have r6:Zo T 182 [.int .u32 e,.int .i64 26]=some (.int .u32 (JO e 6:Nat)):=YF (k:=26) le ww ww
 have r11:Zo T 182 [.int .u32 e,.int .i64 21]=some (.int .u32 (JO e 11:Nat)):=YF (k:=21) le ww ww
 have r25:Zo T 182 [.int .u32 e,.int .i64 7]=some (.int .u32 (JO e 25:Nat)):=YF (k:=7) le ww ww
 have r2:Zo T 182 [.int .u32 a,.int .i64 30]=some (.int .u32 (JO a 2:Nat)):=YF (k:=30) I ww ww
 have r13:Zo T 182 [.int .u32 a,.int .i64 19]=some (.int .u32 (JO a 13:Nat)):=YF (k:=19) I ww ww
 have r22:Zo T 182 [.int .u32 a,.int .i64 10]=some (.int .u32 (JO a 22:Nat)):=YF (k:=10) I ww ww
 have b14:=Vc (r:=6) le ww ww
 have b18:=Vc (r:=11) le ww ww
 have b41:=Vc (r:=25) le ww ww
 have b28:=Vc (r:=2) I ww ww
 have b34:=Vc (r:=13) I ww ww
 have b39:=Vc (r:=22) I ww ww
 have x1:=W0 b14 b18
 have x2:Z3 .xor .u32 ((JO e 6^^^JO e 11:Nat):Int) ((JO e 25:Nat):Int)=((Tf e:Nat):Int):=W0 (VE b14 b18) b41
 have x3:=W0 b28 b34
 have x4:Z3 .xor .u32 ((JO a 2^^^JO a 13:Nat):Int) ((JO a 22:Nat):Int)=((qm a:Nat):Int):=W0 (VE b28 b34) b39
 have a1:=Pa le lf
 have a2:Z3 .xor .u32 (if IntKind.u32.signed=true then -1 else IntKind.u32.max) (e:Int)=((4294967295^^^e:Nat):Int):=W0 (a:=4294967295) ww le
 have lne:4294967295^^^e<4294967296:=VE ww le
 have a3:=Pa lne lg
 have a4:Z3 .xor .u32 ((e&&&f:Nat):Int) (((4294967295^^^e)&&&g:Nat):Int)=((EG e f g:Nat):Int):=W0 (Wp lf) (Wp lg)
 have a5:=Pa I lb
 have a6:=Pa I lc
 have a7:=Pa lb lc
 have a8:=W0 (a:=a&&&b) (b:=a&&&c) (Wp lb) (Wp lc)
 have a9:Z3 .xor .u32 (((a&&&b)^^^(a&&&c):Nat):Int) ((b&&&c:Nat):Int)=((nA a b c:Nat):Int):=W0 (VE (Wp lb) (Wp lc)) (Wp lc)
 have Y:(k:Int).fdiv (2^min 32 IntKind.u64.bits)=((k/2^32:Nat):Int):=US (r:=32) ww
 have O:k/2^32<4294967296:=VY lk
 have U:IntKind.u32.wrap ((k/2^32:Nat):Int)=((k/2^32:Nat):Int):=HD O
 generalize k/2^32=E at *
 have m1:=HE h (Tf e)
 have m2:=HE ((h+Tf e)%4294967296) (EG e f g)
 have m3:=HE (((h+Tf e)%4294967296+EG e f g)%4294967296) E
 have m4:=HE ((((h+Tf e)%4294967296+EG e f g)%4294967296+E)%4294967296) v
 have Z:((((h+Tf e)%4294967296+EG e f g)%4294967296+E)%4294967296+v)%4294967296=Ep [a,b,c,d,e,f,g,h] E v:=by
  show _=(h+Tf e+EG e f g+E+v)%4294967296
  omega
 rw[Z]at m4
 have m5:IntKind.u32.wrap ((qm a:Int)+(nA a b c:Int))=((cP [a,b,c,d,e,f,g,h]:Nat):Int):=HE (qm a) (nA a b c)
 have m6:=HE (Ep [a,b,c,d,e,f,g,h] E v) (cP [a,b,c,d,e,f,g,h])
 have m7:=HE d (Ep [a,b,c,d,e,f,g,h] E v)
 have hr:kq [a,b,c,d,e,f,g,h] E v=[(Ep [a,b,c,d,e,f,g,h] E v+cP [a,b,c,d,e,f,g,h])%4294967296,a,b,c,(d+Ep [a,b,c,d,e,f,g,h] E v)%4294967296,e,f,g]:=rfl
 rw[hr]
 have e1:((i:Int)<64)=True:=wr
 have e2:((i:Int)<80)=True:=wr
 have w3:IntKind.i64.wrap ((i:Int)+1)=((i+1:Nat):Int):=Zm (b:=1) qr
 have G0:∀a b c d e f g h:Nat,[a,b,c,d,e,f,g,h].getD 0 0=a:=fun _ _ _ _ _ _ _ _=>rfl
 have G1:∀a b c d e f g h:Nat,[a,b,c,d,e,f,g,h].getD 1 0=b:=fun _ _ _ _ _ _ _ _=>rfl
 have G2:∀a b c d e f g h:Nat,[a,b,c,d,e,f,g,h].getD 2 0=c:=fun _ _ _ _ _ _ _ _=>rfl
 have G3:∀a b c d e f g h:Nat,[a,b,c,d,e,f,g,h].getD 3 0=d:=fun _ _ _ _ _ _ _ _=>rfl
 have G4:∀a b c d e f g h:Nat,[a,b,c,d,e,f,g,h].getD 4 0=e:=fun _ _ _ _ _ _ _ _=>rfl
 have G5:∀a b c d e f g h:Nat,[a,b,c,d,e,f,g,h].getD 5 0=f:=fun _ _ _ _ _ _ _ _=>rfl
 have G6:∀a b c d e f g h:Nat,[a,b,c,d,e,f,g,h].getD 6 0=g:=fun _ _ _ _ _ _ _ _=>rfl
 have G7:∀a b c d e f g h:Nat,[a,b,c,d,e,f,g,h].getD 7 0=h:=fun _ _ _ _ _ _ _ _=>rfl
 clear Z hr hk hv hs J
 simp only[Ik,G0,G1,G2,G3,G4,G5,G6,G7]
 clear G0 G1 G2 G3 G4 G5 G6 G7
 generalize(Ep [a,b,c,d,e,f,g,h] E v+cP [a,b,c,d,e,f,g,h])%4294967296=z1 at *
 generalize(d+Ep [a,b,c,d,e,f,g,h] E v)%4294967296=z2 at *
 generalize Ep [a,b,c,d,e,f,g,h] E v=t1 at *
 generalize cP [a,b,c,d,e,f,g,h]=t2 at *
 generalize(((h+Tf e)%4294967296+EG e f g)%4294967296+E)%4294967296=z3 at *
 generalize((h+Tf e)%4294967296+EG e f g)%4294967296=z4 at *
 generalize(h+Tf e)%4294967296=z5 at *
 generalize Tf e=se,qm a=sa,EG e f g=cc,nA a b c=mm at *
 generalize(a&&&b)^^^(a&&&c)=q1 at *
 generalize(4294967295^^^e)&&&g=q2 at *
 generalize 4294967295^^^e=q3 at *
 generalize e&&&f=q4 at *
 generalize a&&&b=q5 at *
 generalize a&&&c=q6 at *
 generalize b&&&c=q7 at *
 generalize JO e 6^^^JO e 11=q8,JO a 2^^^JO a 13=q9 at *
 generalize JO e 6=p1,JO e 11=p2,JO e 25=p3,JO a 2=p4,JO a 13=p5,JO a 22=p6 at *
 generalize i+1=i1 at *
 generalize Vr=KT at *
 simp only[GF,Qv,quiet,cW,↓pW,reduceCtorEq,seval,-Qa,e1,e2,kc,vc,r6,r11,r25,r2,r13,r22,x1,x2,x3,x4,a1,a2,a3,a4,a5,a6,a7,a8,a9,Y,U,m1,m2,m3,m4,m5,m6,m7,w3]
def cD{P:Value}{w:List Nat}(hw:w.length=64)(hs:s.length=8)(E:∀x∈s,x<4294967296) :
  Q4 T H.length (.block 2 (.loop GF)) (Ik H P w s 0 [])=some (.normal,Ik H P w (Hn 64 w s) 64 [(142,.bool false)]):=by
 have h:=JB (T:=T) (base:=H.length) (id:=2) (body:=GF) (fun i=>Ik H P w (Hn i w s) i []) (s':=Ik H P w (Hn 64 w s) 64 [(142,.bool false)]) 64
  (fun i hi=>gV hw (Gj hs w i) (Nk hs E w i) hi)
  (by
   generalize Hn 64 w s=R
   simp only[Ik]
   generalize Vr=I
   simp only[GF,Qv,quiet,cW,↓pW,reduceCtorEq,seval,-Qa])
 exact h
def XX(rv:Value)(n:Nat)(st:List Nat):List Value:=rv::.int .u64 (n:Nat)::ns .u32 st
def XW(rv:Value)(n:Nat)(st:List Nat):Ob:={c:=XX rv n st}
def B6(rv:Value)(n:Nat)(st:List Nat):(XX rv n st).length=2+st.length:=by simp[XX,QA];omega
def Oj(h:st[i]?=some x):(XX rv n st)[2+i]?=some (.int .u32 (x:Nat)):=by
 rw[Xu];exact Z4 h
def oc(rv:Value)(n i x:Nat)(st:List Nat):(XX rv n st).set (2+i) (.int .u32 (x:Nat))=XX rv n (st.set i x):=by
 rw[Xu]
 show rv::.int .u64 (n:Nat)::(ns .u32 st).set i _=_
 rw[JL];rfl
def SH(h:st.length=8):Q5 8 (ZT 2 (XX rv n st))=ns .u32 st:=by
 show Q5 8 (ns .u32 st)=_
 rw[Qo (by rw[QA];omega)]
def pG(hs:s.length=8):(Te s b).length=8:=by unfold Te;rw[Yo,Gj hs,hs];rfl
def vn:∀x∈Te s b,x<4294967296:=by
 intro x E
 unfold Te at E
 obtain⟨i,hi⟩:=Xe E
 rw[VI]at hi
 split at hi
 ·cases hi;exact Q3 _ ww
 ·cases hi
def Il(H:List Ob)(hid:Nat)(rv:Value)(n:Nat)(st:List Nat)(s L:List Nat)(ob1 ob2:Ob)(i:Int)(ex:Env):St:=⟨[(0,.pointer hid),(214,.agg (ns .u32 s).toArray),(215,.int .i64 i)]++ex,H.set hid (XW rv n st)++[ob1,ob2],L⟩
def cE{ob1 ob2:Ob}(hh:hid<H.length)(hs:s.length=8)(hst:st.length=8) :
  ∃L,Q4 T H.length (.block 4 (.loop Mh)) (Il H hid rv n st s [] ob1 ob2 0 [])=some (.normal,Il H hid rv n (XA (fun x y=>(x+y)%4294967296) st s) s L ob1 ob2 8 [(216,.bool false)])/\∀i∈L,i=hid:=by
 have hZ:(XA (fun x y=>(x+y)%4294967296) st s).length=8:=by rw[Yo,hs,hst];rfl
 obtain⟨Z,J⟩:∃Z,Z=XA (fun x y=>(x+y)%4294967296) st s:=⟨_,rfl⟩
 rw[<-J]at hZ ⊢
 obtain⟨st',hb,L,rfl,O⟩:=QM (T:=T) (base:=H.length) (id:=4) (body:=Mh)
  (fun i x=>∃L,x=Il H hid rv n (Z.take i++st.drop i) s L ob1 ob2 i []/\∀j∈L,j=hid)
  (Q:=fun x=>∃L,x=Il H hid rv n Z s L ob1 ob2 8 [(216,.bool false)]/\∀j∈L,j=hid)
  8 (s:=Il H hid rv n st s [] ob1 ob2 0 []) ⟨[],rfl,by simp⟩
  (fun i x hi Y=>by
   obtain⟨L,rfl,O⟩:=Y
   obtain⟨u,hu⟩:∃u,st[i]?=some u:=⟨_,Qg qr⟩
   obtain⟨v,hv⟩:∃u,s[i]?=some u:=⟨_,Qg qr⟩
   have hz:Z[i]?=some ((u+v)%4294967296):=by rw[J,VI,hu,hv]
   have hlt:(Z.take i).length=i:=by rw[Q0];omega
   have hg:(Z.take i++st.drop i)[i]?=some u:=by
    rw[Qd qr,hlt,Qs,Zf];exact hu
   have hstep:(Z.take i++st.drop i).set i ((u+v)%4294967296)=Z.take (i+1)++st.drop (i+1):=by
    rw[Q1 _ _ qr,hlt,Qs,ZJ (i:=i),hu,Zh,hz]
    simp
   have hlen:(Z.take i++st.drop i).length=8:=by rw[Qh,QD,hlt];omega
   have gc:=Oj (rv:=rv) (n:=n) hg
   have sc:=oc rv n i ((u+v)%4294967296) (Z.take i++st.drop i)
   rw[hstep]at sc
   have cl:=B6 rv n (Z.take i++st.drop i)
   rw[hlen]at cl
   have vc:=Z4 (k := .u32) hv
   have e1:((i:Int)<8)=True:=wr
   have m1:=HE u v
   have w3:IntKind.i64.wrap ((i:Int)+1)=((i+1:Nat):Int):=Zm (b:=1) qr
   have I:∀o:Ob,(H.set hid o++[ob1,ob2])[hid]?=some o:=fun o=>by
    rw[Qb (by rw[Qr];exact hh),Qu hh]
   have E:∀o U:Ob,(H.set hid o++[ob1,ob2]).set hid U=H.set hid U++[ob1,ob2]:=fun o U=>by
    rw[Xd _ _ (by rw[Qr];exact hh),KB]
   have e5:(2+i+1<=2+8)=True:=wr
   refine⟨Il H hid rv n (Z.take (i+1)++st.drop (i+1)) s (Qz H.length L [hid]) ob1 ob2 ((i+1:Nat):Int) [],?_,_,rfl,?_⟩
   ·generalize Z.take (i+1)++st.drop (i+1)=O2,Z.take i++st.drop i=O1 at *
    generalize(u+v)%4294967296=z at *
    simp only[Il,XW]
    generalize XX rv n O1=C1,XX rv n O2=C2,ns .u32 s=sv at *
    generalize i+1=i1 at *
    simp only[Mh,Qv,quiet,cW,↓pW,reduceCtorEq,seval,-Qa,e1,vc,m1,w3,gc,sc,cl,e5,I,E]
    done
   ·intro j hj
    rcases Zv hj with h|h
    ·exact O j h
    ·simpa using h)
  (fun x Y=>by
   obtain⟨L,rfl,O⟩:=Y
   rw[Qo qr,ZH qr,QF]
   refine⟨_,?_,L,rfl,O⟩
   simp only[Il,XW]
   generalize XX rv n Z=C
   generalize ns .u32 s=sv
   simp only[Mh,Qv,quiet,cW,↓pW,reduceCtorEq,seval,-Qa])
 exact⟨L,hb,O⟩
def zQ_eq:Qc 64 (Value.int .u32 0)=ns .u32 (Qc 64 0):=rfl
def tQ_eq:Qc 80 (Value.int .u64 0)=ns .u64 (Qc 80 0):=rfl
def gg(hh:H[hid]?=some (XW rv n st))(hs:st.length=8)(hx:∀x∈st,x<4294967296)(hb:BB H id off b)(hl:b.length=64) :
  ∃w s M,Zp T 159 [.pointer hid,.slice (some ⟨id,off,none⟩) 64 cap] H=some (.tuple #[],H.set hid (XW rv n (Te st b))++[w,s],M)/\∀i∈M,i=hid:=by
 have hlt:hid<H.length:=(Qf.1 hh).1
 have h3:=cC (P := .pointer hid) (cap:=cap) hb hl
 have hWl:=Ua b
 have h1:=cD (H:=H) (P := .pointer hid) hWl hs hx
 have lr:=Gj hs (XO b) 64
 obtain⟨L,h0,hL⟩:=cE (H:=H) (hid:=hid) (n:=n) (rv:=rv) (ob1:={c:=ns .u32 (XO b)}) (ob2:={c:=ns .u64 Vr}) hlt lr hs
 rw[show XA (fun x y=>(x+y)%4294967296) st (Hn 64 (XO b) st)=Te st b from rfl]at h0
 have hss:H.set hid (XW rv n st)=H:=VR hh
 refine⟨{c:=ns .u32 (XO b)},{c:=ns .u64 Vr},L,?_,hL⟩
 simp only[Il,hss,Qp,Qn]at h0
 have hz:=zQ_eq
 have lz:(Qc 64 0).length=64:=Q8
 have hzt:=tQ_eq
 have lzt:(Qc 80 0).length=80:=Q8
 simp only[RY,Qp,Qn]at h3
 have ht:=aY
 have hget:∀l:List Ob,(H++l)[hid]?=some {c:=XX rv n st}:=fun l=>by rw[Qb hlt];exact hh
 have lk:=Um
 obtain⟨Y,s1,s2,U,O,J,I,E,rfl⟩:=eight hs
 obtain⟨R,hR⟩:∃R,R=Hn 64 (XO b) [Y,s1,s2,U,O,J,I,E]:=⟨_,rfl⟩
 rw[<-hR]at h0 h1 lr
 obtain⟨r0,r1,r2,r3,r4,r5,r6,r7,hRl⟩:=eight lr
 rw[hRl]at h0 h1
 clear hR hRl lr
 simp only[Ik,Qp,Qn,List.getD_cons_zero,List.getD_cons_succ]at h1
 have c0:(XX rv n [Y,s1,s2,U,O,J,I,E])[2]?=some (.int .u32 (Y:Nat)):=rfl
 have c1:(XX rv n [Y,s1,s2,U,O,J,I,E])[2+1]?=some (.int .u32 (s1:Nat)):=rfl
 have c2:(XX rv n [Y,s1,s2,U,O,J,I,E])[2+2]?=some (.int .u32 (s2:Nat)):=rfl
 have c3:(XX rv n [Y,s1,s2,U,O,J,I,E])[2+3]?=some (.int .u32 (U:Nat)):=rfl
 have c4:(XX rv n [Y,s1,s2,U,O,J,I,E])[2+4]?=some (.int .u32 (O:Nat)):=rfl
 have c5:(XX rv n [Y,s1,s2,U,O,J,I,E])[2+5]?=some (.int .u32 (J:Nat)):=rfl
 have c6:(XX rv n [Y,s1,s2,U,O,J,I,E])[2+6]?=some (.int .u32 (I:Nat)):=rfl
 have c7:(XX rv n [Y,s1,s2,U,O,J,I,E])[2+7]?=some (.int .u32 (E:Nat)):=rfl
 have fR:fillL (Qc 8 (Value.int .u32 0)) [(0,1,.int .u32 (r0:Int)),(1,1,.int .u32 (r1:Int)),(2,1,.int .u32 (r2:Int)),(3,1,.int .u32 (r3:Int)),(4,1,.int .u32 (r4:Int)),(5,1,.int .u32 (r5:Int)),(6,1,.int .u32 (r6:Int)),(7,1,.int .u32 (r7:Int))]=some (ns .u32 [r0,r1,r2,r3,r4,r5,r6,r7]):=rfl
 generalize H.set hid (XW rv n (Te [Y,s1,s2,U,O,J,I,E] b))=H' at *
 generalize ns .u32 [r0,r1,r2,r3,r4,r5,r6,r7]=R at *
 generalize XO b=W at *
 generalize XX rv n [Y,s1,s2,U,O,J,I,E]=C at *
 generalize Qc 64 0=Z,Qc 80 0=Z8 at *
 generalize Vr=KT at *
 rw[Q9 (fn:=zl) rfl]
 simp only[zl,Qv,quiet,cW,↓pW,reduceCtorEq,seval,-Qa,hz,hzt,h3,h1,h0,ht,hget,c0,c1,c2,c3,c4,c5,c6,c7,fR,QR,Zr,ZZ,QA,lzt,lk,ZY]
 rfl
end
end Go.Ev.YtkbifkljlfmeiaaGreat

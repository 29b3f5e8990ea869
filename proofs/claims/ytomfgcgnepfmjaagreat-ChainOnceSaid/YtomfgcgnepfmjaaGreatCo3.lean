/- What the law leans on, part 3. -/
import Derived.Test.YtomfgcgnepfmjaaGreatCo2
set_option linter.unusedSimpArgs false
set_option linter.unusedVariables false
set_option linter.defProp false
open And renaming intro → Qi
open Bool renaming and_eq_true → ZS, false_eq_true → Zh
open Exists renaming intro → ZQ
open Int renaming cast_ofNat_Int → Un, natCast_add → KX, natCast_mul → JG, natCast_one → LN, natCast_pow → Xu, natCast_zero → Z1, toNat_natCast → X5
open List renaming all_cons → KY, append_assoc → Qv, append_nil → Q9, cons_append → Qw, drop → Zw, drop_append_of_le_length → ZL, drop_eq_getElem_cons → JN, drop_of_length_le → Ju, eq_nil_of_length_eq_zero → Za, ext_getElem? → ZK, flatten_append → Zr, flatten_cons → QK, foldl_cons → Xs, foldl_nil → Vp, getD_eq_getElem?_getD → Qx, getElem?_append_left → Qa, getElem?_append_right → Qd, getElem?_drop → Zt, getElem?_eq_getElem → Qh, getElem?_eq_some_iff → Qf, getElem?_set → XT, getElem?_set_ne → Qm, getElem?_set_self → Qt, getElem?_take → QS, getElem?_zipWith → Y1, length_append → Qg, length_cons → Zn, length_drop → QC, length_nil → Z3, length_replicate → Qn, length_set → Qo, length_take → Q7, length_zipWith → W3, map_append → JS, map_cons → Jg, map_nil → JO, mem_append → QA, mem_append_left → Vo, mem_cons → J6, mem_cons_of_mem → Kx, mem_map → Jc, mem_of_getElem? → Qz, mem_of_mem_drop → Zz, mem_of_mem_take → QP, mem_range'_1 → VZ, mem_singleton → Zk, nil_append → Qr, not_mem_nil → JI, range → QX, range' → Xx, reduceReplicate → Qb, replicate → Qc, set_append_left → Xd, set_append_right → Q3, set_set → KR, take → Q2, take_add_one → ZG, take_append_drop → ZV, take_append_of_le_length → ZZ, take_of_length_le → Qu, take_zero → Xc, zipWith → Kv
open Nat renaming Coprime → pB, add_assoc → Zi, add_comm → X3, add_mul → Zy, add_mul_div_right → Y0, add_mul_mod_self_right → Vn, add_sub_cancel_left → Qs, add_zero → ZH, and_lt_two_pow → Xb, div_add_mod → ZP, div_div_eq_div_mul → Jm, div_eq_of_lt → Xw, div_le_self → JQ, div_lt_of_lt_mul → Ku, div_one → XL, dvd_mul_left → Ii, dvd_of_mod_eq_zero → VY, eq_zero_or_pos → Zv, gcd → M8, le_of_dvd → K0, le_of_lt → Xi, le_refl → Qk, le_trans → ZT, lt_irrefl → YP, lt_of_le_of_lt → J4, lt_of_lt_of_le → QJ, lt_or_ge → Zm, lt_succ_of_lt → Vf, lt_trans → Kt, min_eq_left → Ze, mod_eq_of_lt → QF, mod_eq_zero_of_dvd → HL, mod_lt → Q4, mod_mod → Bz, mod_mod_of_dvd → VH, mod_mul_mod → LM, mod_one → p8, mul_assoc → Jl, mul_comm → Z2, mul_le_mul → JH, mul_le_mul_right → JM, mul_left_comm → Jy, mul_mod → YY, mul_mod_mul_right → Yz, mul_one → XK, one_mul → X9, pow_add → JD, pow_le_pow_right → Zp, pow_mod → p7, pow_mul → Jj, pow_pos → JX, pow_succ → Z4, pow_zero → Xh, sub_mod_eq_zero_of_mod_eq → YX, sub_self → Qq, sub_zero → HK, zero_add → QB, zero_mul → Ks
open Option renaming bind_some → Qj
open Option.some renaming inj → Xq, injEq → Ql
namespace Go.Ev
variable {f b:Nat} {args:List Value} {v:Value}
theorem n_add (a b:Nat):(a:Int)+(b:Int)=((a+b:Nat):Int):=(KX a b).symm
theorem n_mul (a b:Nat):(a:Int)*(b:Int)=((a*b:Nat):Int):=(JG a b).symm
theorem ng (n a:Nat):(no_index (@OfNat.ofNat Int n instOfNat))+(a:Int)=((n+a:Nat):Int):=(KX n a).symm
theorem ni (n a:Nat):(a:Int)+(no_index (@OfNat.ofNat Int n instOfNat))=((a+n:Nat):Int):=(KX a n).symm
theorem nd (n a:Nat):(no_index (@OfNat.ofNat Int n instOfNat))*(a:Int)=((n*a:Nat):Int):=(JG n a).symm
theorem mZ (n a:Nat):(a:Int)*(no_index (@OfNat.ofNat Int n instOfNat))=((a*n:Nat):Int):=(JG a n).symm
theorem U2 (a b:Nat):Int.fdiv (a:Int) (b:Int)=((a/b:Nat):Int):=by
 rw [Int.fdiv_eq_ediv_of_nonneg _ (Int.natCast_nonneg _)]; rfl
theorem gN (a n:Nat):Int.fdiv (a:Int) (no_index (@OfNat.ofNat Int n instOfNat))=((a/n:Nat):Int):=U2 a n
theorem mY (a n:Nat):Int.tdiv (a:Int) (no_index (@OfNat.ofNat Int n instOfNat))=((a/n:Nat):Int):=rfl
theorem mX (a n:Nat):Int.tmod (a:Int) (no_index (@OfNat.ofNat Int n instOfNat))=((a%n:Nat):Int):=rfl
theorem BN (a:Nat):IntKind.u64.wrap (a:Int)=((a%18446744073709551616:Nat):Int):=by rw [Wf]; omega
theorem Ny (a:Nat):IntKind.u32.wrap (a:Int)=((a%4294967296:Nat):Int):=by rw [wrap_u32]; omega
theorem n_w16 (a:Nat):IntKind.u16.wrap (a:Int)=((a%65536:Nat):Int):=by rw [Sd]; omega
theorem B5 (a:Nat):IntKind.u8.wrap (a:Int)=((a%256:Nat):Int):=by rw [wrap_u8]; omega
theorem Cd (a b:Nat):IntKind.u64.wrap ((a:Int)-(b:Int))=(((a+(18446744073709551616-b%18446744073709551616))%18446744073709551616:Nat):Int):=by rw [Wf]; omega
theorem bH (n b:Nat):IntKind.u64.wrap ((no_index (@OfNat.ofNat Int n instOfNat))-(b:Int))=(((n+(18446744073709551616-b%18446744073709551616))%18446744073709551616:Nat):Int):=Cd n b
theorem bG (a n:Nat):IntKind.u64.wrap ((a:Int)-(no_index (@OfNat.ofNat Int n instOfNat)))=(((a+(18446744073709551616-n%18446744073709551616))%18446744073709551616:Nat):Int):=Cd a n
theorem Rv (w a:Nat):BitVec.ofInt w (a:Int)=BitVec.ofNat w a:=by simp
theorem n_and (k:IntKind) (hk:k.signed=false) (a b:Nat):Zs .and k (a:Int) (b:Int)=(((a%2^k.bits)&&&(b%2^k.bits):Nat):Int):=by
 simp only [Zs,Rv]
 rw [BitVec.toNat_and,BitVec.toNat_ofNat,BitVec.toNat_ofNat,JV hk (Xb _ (Q4 _ (JX (by decide))))]
theorem n_or (k:IntKind) (hk:k.signed=false) (a b:Nat):Zs .or k (a:Int) (b:Int)=(((a%2^k.bits)|||(b%2^k.bits):Nat):Int):=by
 simp only [Zs,Rv]
 rw [BitVec.toNat_or,BitVec.toNat_ofNat,BitVec.toNat_ofNat,JV hk (Nat.or_lt_two_pow (Q4 _ (JX (by decide))) (Q4 _ (JX (by decide))))]
theorem WH (k:IntKind) (hk:k.signed=false) (w a:Nat) (hw:w≤k.bits):Zs .and k (a:Int) ((2^w-1:Nat):Int)=((a%2^w:Nat):Int):=by
 have h1:(2:Nat)^w≤2^k.bits:=Zp (by decide) hw
 have h0:0<(2:Nat)^w:=JX (by decide)
 rw [n_and k hk,QF (a:=2^w-1) (by omega),Nat.and_two_pow_sub_one_eq_mod,VH _ (Nat.pow_dvd_pow 2 hw)]
theorem n_m32 (a:Nat):Zs .and .u64 (a:Int) 4294967295=((a%4294967296:Nat):Int):=WH .u64 rfl 32 a (by decide)
theorem n_m51 (a:Nat):Zs .and .u64 (a:Int) 2251799813685247=((a%2251799813685248:Nat):Int):=WH .u64 rfl 51 a (by decide)
theorem n_m1 (a:Nat):Zs .and .u64 (a:Int) 1=((a%2:Nat):Int):=WH .u64 rfl 1 a (by decide)
theorem n_m1b (a:Nat):Zs .and .u8 (a:Int) 1=((a%2:Nat):Int):=WH .u8 rfl 1 a (by decide)
theorem n_m7b (a:Nat):Zs .and .u8 (a:Int) 127=((a%128:Nat):Int):=WH .u8 rfl 7 a (by decide)
theorem mJ:(2:Int)^min 32 IntKind.u64.bits=((4294967296:Nat):Int):=rfl
theorem mI:(2:Int)^min 51 IntKind.u64.bits=((2251799813685248:Nat):Int):=rfl
theorem mK:(2:Int)^min 13 IntKind.u64.bits=((8192:Nat):Int):=rfl
theorem p8_7:(2:Int)^min 7 IntKind.u8.bits=((128:Nat):Int):=rfl
theorem Vt {a n:Nat} (h:a<2^n):(b*2^n)|||a=b*2^n+a:=by
 rw [Z2,Nat.two_pow_add_eq_or_of_lt h]
theorem U1 (k:IntKind):ns k []=[]:=rfl
theorem YB (k:IntKind) (x:Nat) (r:List Nat):ns k (x::r)=.int k (x:Nat)::ns k r:=rfl
theorem Ms {w m q s y M:Nat} (hq:q<m) (hs:s<w) (hM:M<2^(w*q+s)) (hy:y*2^s<2^w) :
  (dig (2^w) m M).set q ((dig (2^w) m M).getD q 0|||y*2^s)=dig (2^w) m (M+y*2^(w*q+s)):=by
 have hB:(2^w)^q=2^(w*q):=by rw [←Jj]
 have hpos:0<(2^w:Nat)^q:=JX (JX (by decide))
 have hpow:(2:Nat)^(w*q+s)=2^s*(2^w)^q:=by rw [JD,hB,Z2]
 have hdiv:M/(2^w)^q<2^s:=by rw [Nat.div_lt_iff_lt_mul hpos,←hpow]; exact hM
 have hsw:(2:Nat)^s≤2^w:=Zp (by decide) (by omega)
 have hsum:M/(2^w)^q+y*2^s<2^w:=by
  have h1:(2:Nat)^w=2^(w-s)*2^s:=by rw [←JD]; congr 1; omega
  have h2:y<2^(w-s):=by
   rw [h1] at hy
   exact Nat.lt_of_mul_lt_mul_right hy
  have h3:(y+1)*2^s≤2^(w-s)*2^s:=JM _ h2
  rw [Zy,X9,←h1] at h3
  omega
 apply Bf (by rw [Qo,Zx])
 intro i hi
 by_cases hqi:i=q
 ·subst hqi
  rw [Qt (by rw [Zx]; exact hi),Qx,Vx hi]
  rw [hpow,←Jl,Y0 _ _ hpos]
  simp only [Option.getD_some]
  rw [QF (a:=M/_) (by omega),QF hsum,Nat.or_comm,Vt hdiv,X3]
 ·rw [Qm (Ne.symm hqi),Vx hi]
  congr 1
  by_cases hlt:i<q
  ·have h1:(2^w:Nat)^q=2^w*(2^w)^(q-i-1)*(2^w)^i:=by
    rw [Jl,←JD,←Nat.pow_add_one']; congr 1; omega
   rw [hpow,h1]
   rw [show y*(2^s*(2^w*(2^w)^(q-i-1)*(2^w)^i))=(y*2^s*(2^w)^(q-i-1)*2^w)*(2^w)^i by simp only [Jl,Jy,Z2]]
   rw [Y0 _ _ (JX (JX (by decide))),Vn]
  ·have h1:M+y*2^(w*q+s)<(2^w)^i:=by
    have h2:(2^w:Nat)^(q+1)≤(2^w)^i:=Zp (JX (by decide)) (by omega)
    refine QJ ?_ h2
    have h3:(M/(2^w)^q+y*2^s+1)*(2^w)^q≤2^w*(2^w)^q:=JM _ hsum
    have h4:=ZP M ((2^w)^q)
    have h5:=Q4 M hpos
    rw [Z4,Z2 ((2^w)^q)]
    refine QJ ?_ h3
    rw [hpow,←Jl,Zy,Zy,X9,Z2 (M/(2^w)^q)]
    omega
   rw [Xw h1,Xw (by omega)]
def ZB (T:Tab) (f:Nat) (args:List Value):Option Value:=(Zd T f args []).map (·.1)
theorem GK {T:Tab} {l:List Ob} {M:List Nat} (h:Zd T f args []=some (v,l,M)):ZB T f args=some v:=by simp [ZB,h]
theorem Kz {T:Tab} (h:∃ l,Zd T f args []=some (v,l,[])):ZB T f args=some v:=by
 obtain ⟨l,h⟩:=h
 exact GK h
theorem ZM {T:Tab} {fn:AFun} {v:Value} {l:List Ob} (hf:T.fn f=some fn) (h:((Q8 T ([]:List Ob).length fn.body ⟨Q0 0 args,[],[]⟩).bind fun xs=>match xs.1 with
  | .exit _=>none
  | _=>(Zl xs.2.env xs.2.h fn.results).bind fun vs=>some (packed vs,xs.2.h,xs.2.log))=some (v,l,[])):ZB T f args=some v:=Kz ⟨l,by rw [QE hf]; exact h⟩
theorem Jw {T:Tab} {q:Bool} {f:Nat} {xs:List Operand} {d:Option Nat} {r:List AOper} {e:Env} {H:List Ob} {l:List Nat}:steps T b q (⟨d,.call f xs true,none⟩::r) ⟨e,H,l⟩=(JB e xs).bind fun args=>gate (args.all rf=true) ((ZB T f args).bind fun v=>gate (rf v=true) (steps T b q r ⟨e.put d v,H,l⟩)):=by
 rw [Yp]
 cases JB e xs with
 | none=>rfl
 | some args =>
  simp only [Qj,ZB]
  cases Zd T f args []<;>rfl
def cU:=Qi (Qi (Qi (Qi (@n_add) (Qi (@n_mul) (@ng))) (Qi (@ni) (Qi (@nd) (@mZ)))) (Qi (Qi (@U2) (Qi (@gN) (@mY))) (Qi (Qi (@mX) (@BN)) (Qi (@Ny) (@n_w16))))) (Qi (Qi (Qi (@B5) (Qi (@Cd) (@bH))) (Qi (@bG) (Qi (@n_m32) (@n_m51)))) (Qi (Qi (@n_m1) (Qi (@n_m1b) (@n_m7b))) (Qi (Qi (@mJ) (@mI)) (Qi (@mK) (@p8_7)))))
end Go.Ev
namespace Go.NT
variable {a n k:Nat}
def Pr (p:Nat):Prop:=2≤p∧∀ m,m∣p→m=1∨m=p
theorem Pr.coprime {p a:Nat} (hp:Pr p) (h:¬ p∣a):pB p a:=by
 rcases hp.2 (M8 p a) (Nat.gcd_dvd_left p a) with h1 | h1
 ·exact h1
 ·exact absurd (h1▸Nat.gcd_dvd_right p a) h
theorem Pr.dvd_mul {p a b:Nat} (hp:Pr p) (h:p∣a*b):p∣a∨p∣b:=by
 by_cases ha:p∣a
 ·exact .inl ha
 ·exact .inr ((hp.coprime ha).dvd_of_dvd_mul_left h)
def Wj:List Nat→Nat
 | []=>1
 | x::r=>x*Wj r
theorem I8 {l l':List Nat} (h:l.Perm l'):Wj l=Wj l':=by
 induction h with
 | nil=>rfl
 | cons x _ ih=>simp only [Wj,ih]
 | swap x y l=>simp only [Wj,Jy]
 | trans _ _ h1 h2=>rw [h1,h2]
theorem Nj:∀ {l1 l2:List Nat},l1.Nodup→(∀ x∈l1,x∈l2)→l2.length≤l1.length→l1.Perm l2
 | [],l2,_,_,hl=>by
  have:l2=[]:=by cases l2 with | nil=>rfl | cons _ _=>simp at hl
  subst this; exact .nil
 | a::t,l2,hn,hs,hl=>by
  have ha:=hs a (by simp)
  have hp:=List.perm_cons_erase ha
  have hlen:=hp.length_eq
  rw [List.nodup_cons] at hn
  refine (List.Perm.cons a (Nj hn.2 (fun x hx => ?_) ?_)).trans hp.symm
  ·have hxa:x≠a:=fun h=>hn.1 (h▸hx)
   exact (List.mem_erase_of_ne hxa).2 (hs x (by simp [hx]))
  ·simp only [Zn] at hl hlen ⊢
   omega
theorem TM (a p:Nat):∀ l:List Nat,Wj (l.map fun x=>a*x%p)%p=a^l.length*Wj l%p
 | []=>by simp [Wj]
 | x::r=>by
  have h1:=TM a p r
  simp only [Jg,Wj,Zn,Z4]
  rw [YY,h1,Bz,←YY]
  congr 1
  simp only [Jl,Jy,Z2]
theorem Rh {p:Nat} (hp:Pr p):∀ {l:List Nat},(∀ x∈l,¬ p∣x)→¬ p∣Wj l
 | [],_=>fun h=>by
  have:=K0 (by decide:0<1) h
  have:=hp.1
  omega
 | x::r,h=>fun hd=>by
  rcases hp.dvd_mul hd with h1 | h1
  ·exact h x (by simp) h1
  ·exact Rh hp (fun y hy=>h y (by simp [hy])) h1
theorem Dr {p:Nat} (hp:Pr p) (ha:¬ p∣a):a^(p-1)%p=1:=by
 have h2:=hp.1
 have hnd:((Xx 1 (p-1)).map fun x=>a*x%p).Nodup:=by
  rw [List.nodup_iff_pairwise_ne,List.pairwise_map]
  refine List.Pairwise.imp_of_mem ?_ (List.pairwise_lt_range' (s:=1) (n:=p-1))
  intro x y hx hy hxy he
  simp only [VZ] at hx hy
  have h3:(a*y-a*x)%p=0:=YX he.symm
  rw [←Nat.mul_sub] at h3
  rcases hp.dvd_mul (VY h3) with h4 | h4
  ·exact ha h4
  ·have:=K0 (by omega) h4
   omega
 have hmem:∀ x∈(Xx 1 (p-1)).map (fun x=>a*x%p),x∈Xx 1 (p-1):=by
  intro x hx
  simp only [Jc,VZ] at hx ⊢
  obtain ⟨y,hy,rfl⟩:=hx
  have h3:a*y%p<p:=Q4 _ (by omega)
  have h4:a*y%p≠0:=fun h=>by
   rcases hp.dvd_mul (VY h) with h4 | h4
   ·exact ha h4
   ·have:=K0 (by omega) h4
    omega
  omega
 have hperm:=I8 (Nj hnd hmem (by simp))
 have h5:=TM a p (Xx 1 (p-1))
 rw [hperm,List.length_range'] at h5
 have h6:¬ p∣Wj (Xx 1 (p-1)):=Rh hp fun x hx hd=>by
  simp only [VZ] at hx
  have:=K0 (by omega) hd
  omega
 have h7:(a^(p-1)*Wj (Xx 1 (p-1))-1*Wj (Xx 1 (p-1)))%p=0:=YX (by rw [←h5,X9])
 rw [←Nat.sub_mul] at h7
 have ha0:0<a:=Nat.pos_of_ne_zero fun h=>ha (h▸Nat.dvd_zero p)
 have h8:0<a^(p-1):=JX ha0
 rcases hp.dvd_mul (VY h7) with h9 | h9
 ·obtain ⟨k,hk⟩:=h9
  have:a^(p-1)=p*k+1:=by omega
  rw [this,Nat.mul_add_mod,QF (by omega)]
 ·exact absurd h9 h6
theorem Dp {n:Nat} (hn:2≤n):∃ r,Pr r∧r∣n∧(Pr n∨r*r≤n):=by
 have ex:∃ r,2≤r∧r∣n∧∀ m,2≤m→m∣n→r≤m:=by
  have key:∀ k,(∃ r,2≤r∧r∣n∧r≤k)→∃ r,2≤r∧r∣n∧∀ m,2≤m→m∣n→r≤m:=by
   intro k
   induction k with
   | zero=>rintro ⟨r,h1,_,h3⟩; omega
   | succ k ih =>
    rintro ⟨r,h1,h2,h3⟩
    by_cases h:∃ r,2≤r∧r∣n∧r≤k
    ·exact ih h
    ·refine ⟨r,h1,h2,fun m hm hmd => ?_⟩
     rcases Zm k m with h4 | h4
     ·omega
     ·exact absurd ⟨m,hm,hmd,h4⟩ h
  exact key n ⟨n,hn,Nat.dvd_refl n,Qk n⟩
 obtain ⟨r,h1,h2,h3⟩:=ex
 have hr:Pr r:=⟨h1,fun m hm=>by
  have hm0:0<m:=Nat.pos_of_dvd_of_pos hm (by omega)
  rcases Zm m 2 with h | h
  ·left; omega
  ·have:=h3 m h (Nat.dvd_trans hm h2)
   have:=K0 (by omega) hm
   right; omega⟩
 refine ⟨r,hr,h2,?_⟩
 obtain ⟨k,rfl⟩:=h2
 rcases Zm k 2 with h | h
 ·have:k=1:=by
   rcases Zv k with h0 | h0
   ·subst h0; omega
   ·omega
  subst this
  rw [XK]; exact .inl hr
 ·exact .inr (Nat.mul_le_mul_left r (h3 k h (Ii k r)))
def pw (m a:Nat):Nat→Nat→Nat
 | 0,_=>1%m
 | f+1,e=>if e%2=1 then (pw m a f (e/2))*(pw m a f (e/2))%m*a%m else (pw m a f (e/2))*(pw m a f (e/2))%m
theorem kV (m a:Nat):∀ (f e:Nat),e<2^f→pw m a f e=a^e%m
 | 0,e,h=>by
  have:e=0:=by simpa using h
  subst this; rfl
 | f+1,e,h=>by
  have ih:=kV m a f (e/2) (by rw [Z4] at h; omega)
  have hs:a^(e/2)%m*(a^(e/2)%m)%m=a^(2*(e/2))%m:=by
   rw [←YY,←JD]; congr 2; omega
  unfold pw
  rw [ih]
  by_cases he:e%2=1
  ·rw [if_pos he,hs,LM,←Z4]
   congr 2; omega
  ·rw [if_neg he,hs]
   congr 2; omega
def pwf (m a:Nat):Nat→Nat→Nat
 | 0,_=>1%m
 | f+1,e=>(fun r=>if e%2=1 then r*r%m*a%m else r*r%m) (pwf m a f (e/2))
theorem fK {r:Nat} (hr:2≤r) (b x y:Nat):b^x%r=1→b^y%r=1→b^(M8 x y)%r=1:=by
 induction x,y using Nat.gcd.induction with
 | H0 y=>intro _ h; rwa [Nat.gcd_zero_left]
 | H1 x y hx ih =>
  intro h1 h2
  rw [Nat.gcd_rec]
  refine ih ?_ h1
  have h3:b^(x*(y/x)+y%x)%r=1:=by rw [ZP]; exact h2
  rw [JD,Jj,YY,p7 (b^x),h1,Nat.one_pow,QF (a:=1) (by omega),X9,Bz] at h3
  exact h3
theorem mD {n q k a r:Nat} (hq:Pr q) (hk:n=q*k+1) (h1:a^(q*k)%n=1) (h2:M8 (a^k%n+n-1) n=1) (hr:Pr r) (hrn:r∣n):q∣r-1:=by
 have hr2:=hr.1
 have hn0:0<n:=by omega
 have hn2:r≤n:=K0 hn0 hrn
 have hmodr:∀ x,x%n%r=x%r:=fun x=>VH x hrn
 have hb1:a^(q*k)%r=1:=by rw [←hmodr,h1,QF (by omega)]
 have hra:¬ r∣a:=fun h=>by
  have hqk:0<q*k:=by
   rcases Zv (q*k) with h0 | h0
   ·omega
   ·exact h0
  have:r∣a^(q*k):=by
   obtain ⟨m,hm⟩:∃ m,q*k=m+1:=⟨q*k-1,by omega⟩
   rw [hm,Z4]
   exact Nat.dvd_trans h (Ii a _)
  have:=HL this
  omega
 have hf:=Dr hr hra
 by_cases hqd:q∣r-1
 ·exact hqd
 ·exfalso
  have hc:=hq.coprime hqd
  have hpow:∀ x:Nat,∀ c,c%r=1→c^x%r=1:=fun x c hcx=>by rw [p7,hcx,Nat.one_pow,QF (by omega)]
  have hk1:(a^k)^q%r=1:=by rw [←Jj,Z2 k q]; exact hb1
  have hk2:(a^k)^(r-1)%r=1:=by rw [←Jj,Z2 k,Jj]; exact hpow k _ hf
  have hak:a^k%r=1:=by
   have:=fK hr2 (a^k) q (r-1) hk1 hk2
   rwa [hc,Nat.pow_one] at this
  have hdvd:r∣a^k%n+n-1:=by
   have e3:a^k%n%r=1:=by rw [hmodr]; exact hak
   have e4:1≤a^k%n:=by
    rcases Zv (a^k%n) with h0 | h0
    ·rw [h0,Nat.zero_mod] at e3; omega
    ·exact h0
   have e5:r∣a^k%n-1:=by
    apply VY
    exact YX (by rw [e3,QF (by omega)])
   rw [show a^k%n+n-1=(a^k%n-1)+n by omega]
   exact Nat.dvd_add e5 hrn
  have:=Nat.dvd_gcd hdvd hrn
  rw [h2] at this
  have:=K0 (by decide) this
  omega
theorem aM {q:Nat} (hn:2≤n) (hq:Pr q) (hk:n=q*k+1) (hbig:n<q*q) (h1:a^(q*k)%n=1) (h2:M8 (a^k%n+n-1) n=1):Pr n:=by
 obtain ⟨r,hr,hrn,h | h⟩:=Dp hn
 ·exact h
 ·have h3:=mD hq hk h1 h2 hr hrn
  have:=hr.1
  have h4:=K0 (by omega) h3
  have:q*q≤r*r:=JH (by omega) (by omega)
  omega
theorem aL {q q' k' a':Nat} (hn:2≤n) (hq:Pr q) (hk:n=q*k+1) (hq':Pr q') (hk':n=q'*k'+1) (hne:q≠q') (hbig:n<(q*q')*(q*q')) (h1:a^(q*k)%n=1) (h2:M8 (a^k%n+n-1) n=1)
 (h1':a'^(q'*k')%n=1) (h2':M8 (a'^k'%n+n-1) n=1):Pr n:=by
  obtain ⟨r,hr,hrn,h | h⟩:=Dp hn
  · exact h
  · have h3:=mD hq hk h1 h2 hr hrn
    have h3':=mD hq' hk' h1' h2' hr hrn
    have hc:pB q q':=hq.coprime fun hd=>by
      rcases hq'.2 q hd with h | h
      · have:=hq.1; omega
      · exact hne h
    have h5:=hc.mul_dvd_of_dvd_of_dvd h3 h3'
    have:=hr.1
    have h4:=K0 (by omega) h5
    have:(q*q')*(q*q')≤r*r:=JH (by omega) (by omega)
    omega
def Nw (n:Nat):Nat→Nat→Bool
 | 0,_=>true
 | f+1,m=>(n%m != 0)&&Nw n f (m+1)
theorem Rw {n:Nat}:∀ (f m:Nat),Nw n f m=true→∀ x,m≤x→x<m+f→n%x≠0
 | 0,m,_,x,h1,h2=>by omega
 | f+1,m,h,x,h1,h2=>by
  simp only [Nw,ZS,bne_iff_ne] at h
  rcases Nat.eq_or_lt_of_le h1 with h3 | h3
  ·subst h3; exact h.1
  ·exact Rw f (m+1) h.2 x h3 (by omega)
theorem Km {f:Nat} (hn:2≤n) (hf:n<(f+2)*(f+2)) (h:Nw n f 2=true):Pr n:=by
 obtain ⟨r,hr,hrn,h1 | h1⟩:=Dp hn
 ·exact h1
 ·have hr2:=hr.1
  have:r<2+f:=by
   rcases Zm r (2+f) with h2 | h2
   ·exact h2
   ·have:(f+2)*(f+2)≤r*r:=JH (by omega) (by omega)
    omega
  exact absurd (HL hrn) (Rw f 2 h r hr2 this)
end Go.NT
namespace Go.Cv
section
variable {n:Nat} [NeZero n]
structure Fld (n:Nat) [NeZero n] (iv:Fin n→Fin n) (d i:Fin n):Prop where
 inv:∀ a:Fin n,a≠0→a*iv a=1
 iv0:iv 0=0
 one:(1:Fin n)≠0
 two:(2:Fin n)≠0
 root:i*i = -1
 nosq:∀ r:Fin n,r*r≠d
variable {iv:Fin n→Fin n} {d i:Fin n} (F:Fld n iv d i)
include F
theorem Fld.dom {a b:Fin n} (h:a*b=0):a=0∨b=0:=by
 by_cases ha:a=0
 ·exact .inl ha
 ·have:=F.inv a ha
  exact .inr (by grobner)
theorem Fld.mul_ne {a b:Fin n} (ha:a≠0) (hb:b≠0):a*b≠0:=fun h=>by
 rcases F.dom h with h | h
 ·exact ha h
 ·exact hb h
theorem Fld.cancel {a b c:Fin n} (ha:a≠0) (h:a*b=a*c):b=c:=by
 have:=F.inv a ha
 grobner
theorem Fld.noratio {u v:Fin n} (hv:v≠0):u*u≠d*(v*v):=fun h=>by
 have:=F.inv v hv
 apply F.nosq (u*iv v)
 grobner
omit F
def On (d x y:Fin n):Prop := -(x*x)+y*y=1+d*(x*x)*(y*y)
theorem On.sub {d x y:Fin n} (h:On d x y) : -(x*x)+y*y-1-d*(x*x)*(y*y)=0:=by
 unfold On at h; grobner
theorem S5 {L R a b c e:Fin n} (h:L-R=a*c+b*e) (hc:c=0) (he:e=0):L=R:=by
 subst hc he; grobner
theorem MN {L R a b c e f g:Fin n} (h:L-R=a*c+b*e+f*g) (hc:c=0) (he:e=0) (hg:g=0):L=R:=by
 subst hc he hg; grobner
theorem dw (d x1 y1 x2 y2:Fin n) : -((x1*y2+x2*y1)*(x1*y2+x2*y1)*((1-d*x1*x2*y1*y2)*(1-d*x1*x2*y1*y2)))+(y1*y2+x1*x2)*(y1*y2+x1*x2)*((1+d*x1*x2*y1*y2)*(1+d*x1*x2*y1*y2)) -
   (((1+d*x1*x2*y1*y2)*(1-d*x1*x2*y1*y2))*((1+d*x1*x2*y1*y2)*(1-d*x1*x2*y1*y2))+d*((x1*y2+x2*y1)*(x1*y2+x2*y1))*((y1*y2+x1*x2)*(y1*y2+x1*x2))) =
   (d*d*d*x1*x1*x2*x2*x2*x2*y1*y1*y2*y2*y2*y2-d*d*x1*x1*x2*x2*x2*x2*y2*y2*y2*y2+d*d*x2*x2*x2*x2*y1*y1*y2*y2*y2*y2-d*d*x2*x2*x2*x2*y2*y2*y2*y2-d*x1*x1*x2*x2*x2*x2*y2*y2+d*x1*x1*x2*x2*y2*y2*y2*y2+d*x2*x2*x2*x2*y1*y1*y2*y2-2*d*x2*x2*x2*x2*y2*y2*y2*y2-d*x2*x2*y1*y1*y2*y2*y2*y2-2*d*x2*x2*y2*y2-2*x2*x2*x2*x2*y2*y2+x2*x2*x2*x2+2*x2*x2*y2*y2*y2*y2-4*x2*x2*y2*y2+y2*y2*y2*y2)*(-(x1*x1)+y1*y1-1-d*(x1*x1)*(y1*y1))+(d*x1*x1*x1*x1*x2*x2*y2*y2+2*d*x1*x1*x2*x2*y2*y2+d*x2*x2*y1*y1*y1*y1*y2*y2-2*d*x2*x2*y1*y1*y2*y2+d*x2*x2*y2*y2+2*x1*x1*x2*x2*y2*y2-x1*x1*x2*x2+x1*x1*y2*y2-2*x2*x2*y1*y1*y2*y2+x2*x2*y1*y1+2*x2*x2*y2*y2-x2*x2-y1*y1*y2*y2+y2*y2+1)*(-(x2*x2)+y2*y2-1-d*(x2*x2)*(y2*y2)):=by grobner
theorem nU (d x1 y1 x2 y2 x3 y3:Fin n):((x1*y2+x2*y1)*(1-d*x1*x2*y1*y2)*y3+x3*(y1*y2+x1*x2)*(1+d*x1*x2*y1*y2))*((1+d*x2*x3*y2*y3)*(1-d*x2*x3*y2*y3)+d*(x2*y3+x3*y2)*(y2*y3+x2*x3)*x1*y1) -
   (x1*(y2*y3+x2*x3)*(1+d*x2*x3*y2*y3)+(x2*y3+x3*y2)*(1-d*x2*x3*y2*y3)*y1)*((1+d*x1*x2*y1*y2)*(1-d*x1*x2*y1*y2)+d*(x1*y2+x2*y1)*(y1*y2+x1*x2)*x3*y3) =
   (-d*d*x1*x2*x2*x2*x2*x3*x3*y2*y2*y2*y3-d*d*x1*x2*x2*x2*x3*y2*y2*y2*y2*y3*y3+d*d*x2*x2*x2*x2*x3*y1*y2*y2*y2*y3*y3+d*d*x2*x2*x2*x3*x3*y1*y2*y2*y2*y2*y3-d*x1*x2*x2*x2*x2*x3*x3*y2*y3-d*x1*x2*x2*x2*x3*x3*x3*y2*y2-d*x1*x2*x2*x2*x3*y2*y2+d*x1*x2*x2*y2*y2*y2*y3*y3*y3-d*x1*x2*x2*y2*y2*y2*y3+d*x1*x2*x3*y2*y2*y2*y2*y3*y3+d*x2*x2*x2*x2*x3*y1*y2*y3*y3+d*x2*x2*x2*y1*y2*y2*y3*y3*y3-d*x2*x2*x2*y1*y2*y2*y3-d*x2*x2*x3*x3*x3*y1*y2*y2*y2-d*x2*x2*x3*y1*y2*y2*y2-d*x2*x3*x3*y1*y2*y2*y2*y2*y3)*(-(x1*x1)+y1*y1-1-d*(x1*x1)*(y1*y1))+(d*d*x1*x1*x2*x2*x3*x3*x3*y1*y2*y3*y3-d*d*x1*x1*x2*x3*x3*y1*y2*y2*y3*y3*y3-d*d*x1*x2*x2*x3*x3*y1*y1*y2*y3*y3*y3+d*d*x1*x2*x3*x3*x3*y1*y1*y2*y2*y3*y3+d*x1*x1*x1*x2*x2*x3*x3*y2*y3+d*x1*x1*x1*x2*x3*x3*x3*y3*y3+d*x1*x1*x1*x2*x3*y2*y2*y3*y3+d*x1*x1*x1*x3*x3*y2*y3*y3*y3-d*x1*x1*x2*x2*x3*y1*y2*y3*y3-d*x1*x1*x2*x3*x3*y1*y2*y2*y3+d*x1*x1*x2*x3*x3*y1*y3*y3*y3+d*x1*x1*x3*x3*x3*y1*y2*y3*y3-d*x1*x2*x2*x3*x3*y1*y1*y2*y3+d*x1*x2*x2*x3*x3*y2*y3-d*x1*x2*x3*x3*x3*y1*y1*y3*y3+d*x1*x2*x3*x3*x3*y3*y3-d*x1*x2*x3*y1*y1*y2*y2*y3*y3+d*x1*x2*x3*y2*y2*y3*y3-d*x1*x3*x3*y1*y1*y2*y3*y3*y3+d*x1*x3*x3*y2*y3*y3*y3+d*x2*x2*x3*y1*y1*y1*y2*y3*y3-d*x2*x2*x3*y1*y2*y3*y3+d*x2*x3*x3*y1*y1*y1*y2*y2*y3-d*x2*x3*x3*y1*y1*y1*y3*y3*y3-d*x2*x3*x3*y1*y2*y2*y3+d*x2*x3*x3*y1*y3*y3*y3-d*x3*x3*x3*y1*y1*y1*y2*y3*y3+d*x3*x3*x3*y1*y2*y3*y3+x1*x1*x1*x2*x3*x3*x3-x1*x1*x1*x2*x3*y3*y3+x1*x1*x1*x2*x3+x1*x1*x1*x3*x3*y2*y3-x1*x1*x1*y2*y3*y3*y3+x1*x1*x1*y2*y3+x1*x1*x2*x3*x3*y1*y3-x1*x1*x2*y1*y3*y3*y3+x1*x1*x2*y1*y3+x1*x1*x3*x3*x3*y1*y2-x1*x1*x3*y1*y2*y3*y3+x1*x1*x3*y1*y2-x1*x2*x3*x3*x3*y1*y1+x1*x2*x3*x3*x3+x1*x2*x3*y1*y1*y3*y3-x1*x2*x3*y1*y1-x1*x2*x3*y3*y3+x1*x2*x3-x1*x3*x3*y1*y1*y2*y3+x1*x3*x3*y2*y3+x1*y1*y1*y2*y3*y3*y3-x1*y1*y1*y2*y3-x1*y2*y3*y3*y3+x1*y2*y3-x2*x3*x3*y1*y1*y1*y3+x2*x3*x3*y1*y3+x2*y1*y1*y1*y3*y3*y3-x2*y1*y1*y1*y3-x2*y1*y3*y3*y3+x2*y1*y3-x3*x3*x3*y1*y1*y1*y2+x3*x3*x3*y1*y2+x3*y1*y1*y1*y2*y3*y3-x3*y1*y1*y1*y2-x3*y1*y2*y3*y3+x3*y1*y2)*(-(x2*x2)+y2*y2-1-d*(x2*x2)*(y2*y2))+(-d*x1*x1*x2*x2*x3*y1*y2+d*x1*x1*x2*y1*y2*y2*y3+d*x1*x2*x2*y1*y1*y2*y3-d*x1*x2*x3*y1*y1*y2*y2-x1*x1*x1*x2*x2*x2*x3-x1*x1*x1*x2*x2*y2*y3+x1*x1*x1*x2*x3*y2*y2-x1*x1*x1*x2*x3+x1*x1*x1*y2*y2*y2*y3-x1*x1*x1*y2*y3-x1*x1*x2*x2*x2*y1*y3-x1*x1*x2*x2*x3*y1*y2+x1*x1*x2*y1*y2*y2*y3-x1*x1*x2*y1*y3+x1*x1*x3*y1*y2*y2*y2-x1*x1*x3*y1*y2+x1*x2*x2*x2*x3*y1*y1-x1*x2*x2*x2*x3+x1*x2*x2*y1*y1*y2*y3-x1*x2*x2*y2*y3-x1*x2*x3*y1*y1*y2*y2+x1*x2*x3*y1*y1+x1*x2*x3*y2*y2-x1*x2*x3-x1*y1*y1*y2*y2*y2*y3+x1*y1*y1*y2*y3+x1*y2*y2*y2*y3-x1*y2*y3+x2*x2*x2*y1*y1*y1*y3-x2*x2*x2*y1*y3+x2*x2*x3*y1*y1*y1*y2-x2*x2*x3*y1*y2-x2*y1*y1*y1*y2*y2*y3+x2*y1*y1*y1*y3+x2*y1*y2*y2*y3-x2*y1*y3-x3*y1*y1*y1*y2*y2*y2+x3*y1*y1*y1*y2+x3*y1*y2*y2*y2-x3*y1*y2)*(-(x3*x3)+y3*y3-1-d*(x3*x3)*(y3*y3)):=by grobner
theorem nT (d x1 y1 x2 y2 x3 y3:Fin n):((y1*y2+x1*x2)*(1+d*x1*x2*y1*y2)*y3+(x1*y2+x2*y1)*(1-d*x1*x2*y1*y2)*x3)*((1+d*x2*x3*y2*y3)*(1-d*x2*x3*y2*y3)-d*(x2*y3+x3*y2)*(y2*y3+x2*x3)*x1*y1) -
   (y1*(y2*y3+x2*x3)*(1+d*x2*x3*y2*y3)+x1*(x2*y3+x3*y2)*(1-d*x2*x3*y2*y3))*((1+d*x1*x2*y1*y2)*(1-d*x1*x2*y1*y2)-d*(x1*y2+x2*y1)*(y1*y2+x1*x2)*x3*y3) =
   (d*d*x1*x2*x2*x2*x2*x3*y2*y2*y2*y3*y3+d*d*x1*x2*x2*x2*x3*x3*y2*y2*y2*y2*y3-d*d*x2*x2*x2*x2*x3*x3*y1*y2*y2*y2*y3-d*d*x2*x2*x2*x3*y1*y2*y2*y2*y2*y3*y3+d*x1*x2*x2*x2*x2*x3*y2*y3*y3+d*x1*x2*x2*x2*y2*y2*y3*y3*y3-d*x1*x2*x2*x2*y2*y2*y3-d*x1*x2*x2*x3*x3*x3*y2*y2*y2-d*x1*x2*x2*x3*y2*y2*y2-d*x1*x2*x3*x3*y2*y2*y2*y2*y3-d*x2*x2*x2*x2*x3*x3*y1*y2*y3-d*x2*x2*x2*x3*x3*x3*y1*y2*y2-d*x2*x2*x2*x3*y1*y2*y2+d*x2*x2*y1*y2*y2*y2*y3*y3*y3-d*x2*x2*y1*y2*y2*y2*y3+d*x2*x3*y1*y2*y2*y2*y2*y3*y3)*(-(x1*x1)+y1*y1-1-d*(x1*x1)*(y1*y1))+(d*d*x1*x1*x2*x2*x3*x3*y1*y2*y3*y3*y3-d*d*x1*x1*x2*x3*x3*x3*y1*y2*y2*y3*y3-d*d*x1*x2*x2*x3*x3*x3*y1*y1*y2*y3*y3+d*d*x1*x2*x3*x3*y1*y1*y2*y2*y3*y3*y3-d*x1*x1*x1*x2*x2*x3*y2*y3*y3-d*x1*x1*x1*x2*x3*x3*y2*y2*y3+d*x1*x1*x1*x2*x3*x3*y3*y3*y3+d*x1*x1*x1*x3*x3*x3*y2*y3*y3+d*x1*x1*x2*x2*x3*x3*y1*y2*y3+d*x1*x1*x2*x3*x3*x3*y1*y3*y3+d*x1*x1*x2*x3*y1*y2*y2*y3*y3+d*x1*x1*x3*x3*y1*y2*y3*y3*y3+d*x1*x2*x2*x3*y1*y1*y2*y3*y3-d*x1*x2*x2*x3*y2*y3*y3+d*x1*x2*x3*x3*y1*y1*y2*y2*y3-d*x1*x2*x3*x3*y1*y1*y3*y3*y3-d*x1*x2*x3*x3*y2*y2*y3+d*x1*x2*x3*x3*y3*y3*y3-d*x1*x3*x3*x3*y1*y1*y2*y3*y3+d*x1*x3*x3*x3*y2*y3*y3-d*x2*x2*x3*x3*y1*y1*y1*y2*y3+d*x2*x2*x3*x3*y1*y2*y3-d*x2*x3*x3*x3*y1*y1*y1*y3*y3+d*x2*x3*x3*x3*y1*y3*y3-d*x2*x3*y1*y1*y1*y2*y2*y3*y3+d*x2*x3*y1*y2*y2*y3*y3-d*x3*x3*y1*y1*y1*y2*y3*y3*y3+d*x3*x3*y1*y2*y3*y3*y3+x1*x1*x1*x2*x3*x3*y3-x1*x1*x1*x2*y3*y3*y3+x1*x1*x1*x2*y3+x1*x1*x1*x3*x3*x3*y2-x1*x1*x1*x3*y2*y3*y3+x1*x1*x1*x3*y2+x1*x1*x2*x3*x3*x3*y1-x1*x1*x2*x3*y1*y3*y3+x1*x1*x2*x3*y1+x1*x1*x3*x3*y1*y2*y3-x1*x1*y1*y2*y3*y3*y3+x1*x1*y1*y2*y3-x1*x2*x3*x3*y1*y1*y3+x1*x2*x3*x3*y3+x1*x2*y1*y1*y3*y3*y3-x1*x2*y1*y1*y3-x1*x2*y3*y3*y3+x1*x2*y3-x1*x3*x3*x3*y1*y1*y2+x1*x3*x3*x3*y2+x1*x3*y1*y1*y2*y3*y3-x1*x3*y1*y1*y2-x1*x3*y2*y3*y3+x1*x3*y2-x2*x3*x3*x3*y1*y1*y1+x2*x3*x3*x3*y1+x2*x3*y1*y1*y1*y3*y3-x2*x3*y1*y1*y1-x2*x3*y1*y3*y3+x2*x3*y1-x3*x3*y1*y1*y1*y2*y3+x3*x3*y1*y2*y3+y1*y1*y1*y2*y3*y3*y3-y1*y1*y1*y2*y3-y1*y2*y3*y3*y3+y1*y2*y3)*(-(x2*x2)+y2*y2-1-d*(x2*x2)*(y2*y2))+(-d*x1*x1*x2*x2*y1*y2*y3+d*x1*x1*x2*x3*y1*y2*y2+d*x1*x2*x2*x3*y1*y1*y2-d*x1*x2*y1*y1*y2*y2*y3-x1*x1*x1*x2*x2*x2*y3-x1*x1*x1*x2*x2*x3*y2+x1*x1*x1*x2*y2*y2*y3-x1*x1*x1*x2*y3+x1*x1*x1*x3*y2*y2*y2-x1*x1*x1*x3*y2-x1*x1*x2*x2*x2*x3*y1-x1*x1*x2*x2*y1*y2*y3+x1*x1*x2*x3*y1*y2*y2-x1*x1*x2*x3*y1+x1*x1*y1*y2*y2*y2*y3-x1*x1*y1*y2*y3+x1*x2*x2*x2*y1*y1*y3-x1*x2*x2*x2*y3+x1*x2*x2*x3*y1*y1*y2-x1*x2*x2*x3*y2-x1*x2*y1*y1*y2*y2*y3+x1*x2*y1*y1*y3+x1*x2*y2*y2*y3-x1*x2*y3-x1*x3*y1*y1*y2*y2*y2+x1*x3*y1*y1*y2+x1*x3*y2*y2*y2-x1*x3*y2+x2*x2*x2*x3*y1*y1*y1-x2*x2*x2*x3*y1+x2*x2*y1*y1*y1*y2*y3-x2*x2*y1*y2*y3-x2*x3*y1*y1*y1*y2*y2+x2*x3*y1*y1*y1+x2*x3*y1*y2*y2-x2*x3*y1-y1*y1*y1*y2*y2*y2*y3+y1*y1*y1*y2*y3+y1*y2*y2*y2*y3-y1*y2*y3)*(-(x3*x3)+y3*y3-1-d*(x3*x3)*(y3*y3)):=by grobner
include F
theorem Fld.den {x1 y1 x2 y2:Fin n} (h1:On d x1 y1) (h2:On d x2 y2) (e:Fin n) (he:e*e=1):d*x1*x2*y1*y2≠e:=fun hD=>by
 unfold On at h1 h2
 have h10:=F.one
 have hr:=F.root
 have hx1:x1≠0:=fun h=>by subst h; grobner
 have hy1:y1≠0:=fun h=>by subst h; grobner
 have hx2:x2≠0:=fun h=>by subst h; grobner
 have key:d*(x1*x1)*(y1*y1)*(y2*y2-x2*x2)=y1*y1-x1*x1:=by grobner
 have h3:(y1+e*i*x1)*(y1+e*i*x1)=d*((x1*y1*(y2+i*x2))*(x1*y1*(y2+i*x2))):=by grobner
 have h4:(y1-e*i*x1)*(y1-e*i*x1)=d*((x1*y1*(y2-i*x2))*(x1*y1*(y2-i*x2))):=by grobner
 by_cases ha:y2+i*x2=0
 ·by_cases hb:y2-i*x2=0
  ·have hi:i≠0:=fun h=>by subst h; grobner
   have:(2:Fin n)*(i*x2)=0:=by grobner
   exact F.mul_ne F.two (F.mul_ne hi hx2) this
  ·exact F.noratio (F.mul_ne (F.mul_ne hx1 hy1) hb) h4
 ·exact F.noratio (F.mul_ne (F.mul_ne hx1 hy1) ha) h3
theorem Fld.denP {x1 y1 x2 y2:Fin n} (h1:On d x1 y1) (h2:On d x2 y2):1+d*x1*x2*y1*y2≠0:=fun h =>
 F.den h1 h2 (-1) (by grobner) (by grobner)
theorem Fld.denM {x1 y1 x2 y2:Fin n} (h1:On d x1 y1) (h2:On d x2 y2):1-d*x1*x2*y1*y2≠0:=fun h =>
 F.den h1 h2 1 (by grobner) (by grobner)
theorem UH {x1 y1 x2 y2:Fin n} (h1:On d x1 y1) (h2:On d x2 y2) {a b:Fin n} (ha:a*(1+d*x1*x2*y1*y2)=x1*y2+x2*y1) (hb:b*(1-d*x1*x2*y1*y2)=y1*y2+x1*x2):On d a b:=by
 have hp:=F.denP h1 h2
 have hm:=F.denM h1 h2
 have hC : -((x1*y2+x2*y1)*(x1*y2+x2*y1)*((1-d*x1*x2*y1*y2)*(1-d*x1*x2*y1*y2)))+(y1*y2+x1*x2)*(y1*y2+x1*x2)*((1+d*x1*x2*y1*y2)*(1+d*x1*x2*y1*y2)) =
   ((1+d*x1*x2*y1*y2)*(1-d*x1*x2*y1*y2))*((1+d*x1*x2*y1*y2)*(1-d*x1*x2*y1*y2))+d*((x1*y2+x2*y1)*(x1*y2+x2*y1))*((y1*y2+x1*x2)*(y1*y2+x1*x2)):=by
  exact S5 (dw d x1 y1 x2 y2) h1.sub h2.sub
 unfold On
 have hp2:=F.mul_ne (F.mul_ne hp hm) (F.mul_ne hp hm)
 refine F.cancel hp2 ?_
 rw [←ha,←hb] at hC
 generalize 1+d*x1*x2*y1*y2=p at *
 generalize 1-d*x1*x2*y1*y2=m at *
 clear ha hb hp hm hp2 h1 h2
 grobner
theorem LH {x1 y1 x2 y2 x3 y3 a b a' b' u v u' v':Fin n} (h1:On d x1 y1) (h2:On d x2 y2) (h3:On d x3 y3)
  (ha:a*(1+d*x1*x2*y1*y2)=x1*y2+x2*y1) (hb:b*(1-d*x1*x2*y1*y2)=y1*y2+x1*x2)
  (ha':a'*(1+d*x2*x3*y2*y3)=x2*y3+x3*y2) (hb':b'*(1-d*x2*x3*y2*y3)=y2*y3+x2*x3)
  (hu:u*(1+d*a*x3*b*y3)=a*y3+x3*b) (hv:v*(1-d*a*x3*b*y3)=b*y3+a*x3)
  (hu':u'*(1+d*x1*a'*y1*b')=x1*b'+a'*y1) (hv':v'*(1-d*x1*a'*y1*b')=y1*b'+x1*a'):u=u'∧v=v':=by
 have o12:=UH F h1 h2 ha hb
 have o23:=UH F h2 h3 ha' hb'
 have hp:=F.denP h1 h2
 have hm:=F.denM h1 h2
 have hp':=F.denP h2 h3
 have hm':=F.denM h2 h3
 have kp:=F.denP o12 h3
 have km:=F.denM o12 h3
 have kp':=F.denP h1 o23
 have km':=F.denM h1 o23
 have e1:=h1.sub
 have e2:=h2.sub
 have e3:=h3.sub
 clear h1 h2 h3 o12 o23
 have hX:((x1*y2+x2*y1)*(1-d*x1*x2*y1*y2)*y3+x3*(y1*y2+x1*x2)*(1+d*x1*x2*y1*y2))*((1+d*x2*x3*y2*y3)*(1-d*x2*x3*y2*y3)+d*(x2*y3+x3*y2)*(y2*y3+x2*x3)*x1*y1) =
   (x1*(y2*y3+x2*x3)*(1+d*x2*x3*y2*y3)+(x2*y3+x3*y2)*(1-d*x2*x3*y2*y3)*y1)*((1+d*x1*x2*y1*y2)*(1-d*x1*x2*y1*y2)+d*(x1*y2+x2*y1)*(y1*y2+x1*x2)*x3*y3):=by
  exact MN (nU d x1 y1 x2 y2 x3 y3) e1 e2 e3
 have hY:((y1*y2+x1*x2)*(1+d*x1*x2*y1*y2)*y3+(x1*y2+x2*y1)*(1-d*x1*x2*y1*y2)*x3)*((1+d*x2*x3*y2*y3)*(1-d*x2*x3*y2*y3)-d*(x2*y3+x3*y2)*(y2*y3+x2*x3)*x1*y1) =
   (y1*(y2*y3+x2*x3)*(1+d*x2*x3*y2*y3)+x1*(x2*y3+x3*y2)*(1-d*x2*x3*y2*y3))*((1+d*x1*x2*y1*y2)*(1-d*x1*x2*y1*y2)-d*(x1*y2+x2*y1)*(y1*y2+x1*x2)*x3*y3):=by
  exact MN (nT d x1 y1 x2 y2 x3 y3) e1 e2 e3
 clear e1 e2 e3
 rw [←ha,←hb,←ha',←hb'] at hX hY
 have hp2:=F.mul_ne hp hm
 have hp2':=F.mul_ne hp' hm'
 generalize 1+d*x1*x2*y1*y2=p at *
 generalize 1-d*x1*x2*y1*y2=m at *
 generalize 1+d*x2*x3*y2*y3=p' at *
 generalize 1-d*x2*x3*y2*y3=m' at *
 clear ha hb ha' hb' hp hm hp' hm' x2 y2
 have f1:a*p*m*y3+x3*(b*m)*p=(p*m)*(a*y3+x3*b):=by grobner
 have f2:p'*m'+d*(a'*p')*(b'*m')*x1*y1=(p'*m')*(1+d*x1*a'*y1*b'):=by grobner
 have f3:x1*(b'*m')*p'+a'*p'*m'*y1=(p'*m')*(x1*b'+a'*y1):=by grobner
 have f4:p*m+d*(a*p)*(b*m)*x3*y3=(p*m)*(1+d*a*x3*b*y3):=by grobner
 have f5:b*m*p*y3+a*p*m*x3=(p*m)*(b*y3+a*x3):=by grobner
 have f6:p'*m'-d*(a'*p')*(b'*m')*x1*y1=(p'*m')*(1-d*x1*a'*y1*b'):=by grobner
 have f7:y1*(b'*m')*p'+x1*(a'*p')*m'=(p'*m')*(y1*b'+x1*a'):=by grobner
 have f8:p*m-d*(a*p)*(b*m)*x3*y3=(p*m)*(1-d*a*x3*b*y3):=by grobner
 rw [f1,f2,f3,f4,←hu,←hu'] at hX
 rw [f5,f6,f7,f8,←hv,←hv'] at hY
 clear f1 f2 f3 f4 f5 f6 f7 f8 hu hu' hv hv'
 generalize 1+d*x1*a'*y1*b'=k' at *
 generalize 1+d*a*x3*b*y3=k at *
 generalize 1-d*x1*a'*y1*b'=l' at *
 generalize 1-d*a*x3*b*y3=l at *
 generalize p*m=s at *
 generalize p'*m'=s' at *
 constructor
 ·refine F.cancel (a:=s*s'*k*k') (F.mul_ne (F.mul_ne (F.mul_ne hp2 hp2') kp) kp') ?_
  grobner
 ·refine F.cancel (a:=s*s'*l*l') (F.mul_ne (F.mul_ne (F.mul_ne hp2 hp2') km) km') ?_
  grobner
omit F
end
structure Pt (n:Nat) [NeZero n] (d:Fin n) where
 x:Fin n
 y:Fin n
 on:On d x y
theorem Pt.ext {n:Nat} [NeZero n] {d:Fin n} {p q:Pt n d} (hx:p.x=q.x) (hy:p.y=q.y):p=q:=by
 cases p; cases q; cases hx; cases hy; rfl
section
variable {n:Nat} [NeZero n] {iv:Fin n→Fin n} {d i:Fin n} (F:Fld n iv d i)
def Pt.zero:Pt n d:=⟨0,1,by unfold On; grobner⟩
def Pt.neg (p:Pt n d):Pt n d:=⟨-p.x,p.y,by have:=p.on; unfold On at *; grobner⟩
def Pt.add (p q:Pt n d):Pt n d :=
 ⟨(p.x*q.y+q.x*p.y)*iv (1+d*p.x*q.x*p.y*q.y),(p.y*q.y+p.x*q.x)*iv (1-d*p.x*q.x*p.y*q.y),
  UH F p.on q.on (by have:=F.inv _ (F.denP p.on q.on); grobner) (by have:=F.inv _ (F.denM p.on q.on); grobner)⟩
theorem Hg (p q:Pt n d):(Pt.add F p q).x*(1+d*p.x*q.x*p.y*q.y)=p.x*q.y+q.x*p.y:=by
 have:=F.inv _ (F.denP p.on q.on)
 simp only [Pt.add]
 generalize 1+d*p.x*q.x*p.y*q.y=k at *
 grobner
theorem Hf (p q:Pt n d):(Pt.add F p q).y*(1-d*p.x*q.x*p.y*q.y)=p.y*q.y+p.x*q.x:=by
 have:=F.inv _ (F.denM p.on q.on)
 simp only [Pt.add]
 generalize 1-d*p.x*q.x*p.y*q.y=k at *
 grobner
theorem add_eq {p q r:Pt n d} (hx:r.x*(1+d*p.x*q.x*p.y*q.y)=p.x*q.y+q.x*p.y) (hy:r.y*(1-d*p.x*q.x*p.y*q.y)=p.y*q.y+p.x*q.x):Pt.add F p q=r:=by
 apply Pt.ext
 ·apply F.cancel (F.denP p.on q.on)
  rw [←Hg F] at hx
  grobner
 ·apply F.cancel (F.denM p.on q.on)
  rw [←Hf F] at hy
  grobner
theorem add_comm (p q:Pt n d):Pt.add F p q=Pt.add F q p:=by
 apply add_eq
 ·have:=Hg F q p; grobner
 ·have:=Hf F q p; grobner
theorem add_zero (p:Pt n d):Pt.add F p Pt.zero=p:=by
 apply add_eq<;>simp only [Pt.zero]<;>grobner
theorem zero_add (p:Pt n d):Pt.add F Pt.zero p=p:=by rw [add_comm,add_zero]
theorem add_neg (p:Pt n d):Pt.add F p p.neg=Pt.zero:=by
 have:=p.on
 unfold On at this
 apply add_eq<;>simp only [Pt.zero,Pt.neg]<;>grobner
theorem add_assoc (p q r:Pt n d):Pt.add F (Pt.add F p q) r=Pt.add F p (Pt.add F q r):=by
 obtain ⟨h1,h2⟩:=LH F p.on q.on r.on (Hg F p q) (Hf F p q) (Hg F q r) (Hf F q r) (Hg F (Pt.add F p q) r) (Hf F (Pt.add F p q) r) (Hg F p (Pt.add F q r)) (Hf F p (Pt.add F q r))
 exact Pt.ext h1 h2
theorem add_left_cancel {p q r:Pt n d} (h:Pt.add F p q=Pt.add F p r):q=r:=by
 have:Pt.add F p.neg (Pt.add F p q)=Pt.add F p.neg (Pt.add F p r):=by rw [h]
 rwa [←add_assoc,←add_assoc,add_comm F p.neg p,add_neg,zero_add,zero_add] at this
theorem neg_zero:(Pt.zero:Pt n d).neg=Pt.zero:=by
 apply Pt.ext<;>simp only [Pt.neg,Pt.zero]
 grobner
theorem C0 (a b c e:Pt n d):Pt.add F (Pt.add F a b) (Pt.add F c e)=Pt.add F (Pt.add F a c) (Pt.add F b e):=by
 rw [add_assoc,add_assoc,←add_assoc F b,add_comm F b c,add_assoc F c]
theorem neg_add (p q:Pt n d):(Pt.add F p q).neg=Pt.add F p.neg q.neg:=by
 apply add_left_cancel F (p:=Pt.add F p q)
 rw [add_neg,C0,add_neg,add_neg,add_zero]
def Pt.mul (k:Nat) (p:Pt n d):Pt n d:=match k with
 | 0=>Pt.zero
 | k+1=>Pt.add F (Pt.mul k p) p
theorem mul_add (a b:Nat) (p:Pt n d):Pt.mul F (a+b) p=Pt.add F (Pt.mul F a p) (Pt.mul F b p):=by
 induction b with
 | zero=>rw [ZH,Pt.mul,add_zero]
 | succ b ih=>rw [←Zi,Pt.mul,ih,Pt.mul,add_assoc]
theorem mul_one (p:Pt n d):Pt.mul F 1 p=p:=by rw [Pt.mul,Pt.mul,zero_add]
theorem mul_two (p:Pt n d):Pt.mul F 2 p=Pt.add F p p:=by rw [Pt.mul,mul_one]
theorem mul_zero (k:Nat):Pt.mul F k (Pt.zero:Pt n d)=Pt.zero:=by
 induction k with
 | zero=>rfl
 | succ k ih=>rw [Pt.mul,ih,zero_add]
theorem N0 (a b:Nat) (p:Pt n d):Pt.mul F (a*b) p=Pt.mul F a (Pt.mul F b p):=by
 induction a with
 | zero=>rw [Ks,Pt.mul,Pt.mul]
 | succ a ih=>rw [Nat.succ_mul,mul_add,ih,Pt.mul]
theorem mul_neg (k:Nat) (p:Pt n d):Pt.mul F k p.neg=(Pt.mul F k p).neg:=by
 induction k with
 | zero=>rw [Pt.mul,Pt.mul,neg_zero]
 | succ k ih=>rw [Pt.mul,ih,Pt.mul,neg_add]
theorem mul_mod {l:Nat} {p:Pt n d} (hl:Pt.mul F l p=Pt.zero) (k:Nat):Pt.mul F (k%l) p=Pt.mul F k p:=by
 have h:Pt.mul F k p=Pt.mul F (l*(k/l)+k%l) p:=by rw [ZP]
 rw [h,mul_add,Z2,N0,hl,mul_zero,zero_add]
end
end Go.Cv
namespace Go.NT
section
variable {a f n q k:Nat}
theorem aD (m a:Nat):∀ (f e:Nat),pwf m a f e=pw m a f e
 | 0,_=>rfl
 | f+1,e=>by simp only [pwf,pw,aD m a f]
theorem AN {m e:Nat} (h:e<2^f):pwf m a f e=a^e%m:=by rw [aD,kV m a f e h]
def FK (n q k a f:Nat):Bool:=n==q*k+1&&decide (q*k<2^f)&&pwf n a f (q*k)==1&&M8 (pwf n a f k+n-1) n==1
theorem Gi (hq:Pr q) (h:FK n q k a f=true):n=q*k+1∧a^(q*k)%n=1∧M8 (a^k%n+n-1) n=1:=by
 simp only [FK,ZS,beq_iff_eq,decide_eq_true_eq] at h
 obtain ⟨⟨⟨h1,h2⟩,h3⟩,h4⟩:=h
 have h5:k<2^f:=by
  have:k≤q*k:=Nat.le_mul_of_pos_left k (by have:=hq.1; omega)
  omega
 rw [AN h2] at h3
 rw [AN h5] at h4
 exact ⟨h1,h3,h4⟩
theorem VD (hq:Pr q) (h:(FK n q k a f&&decide (2≤n)&&decide (n<q*q))=true):Pr n:=by
 simp only [ZS,decide_eq_true_eq] at h
 obtain ⟨h1,h2,h3⟩:=Gi hq h.1.1
 exact aM h.1.2 hq h1 h.2 h2 h3
theorem Wx {q2 k2 a2:Nat} (hq:Pr q) (hq2:Pr q2) (h:(FK n q k a f&&FK n q2 k2 a2 f&&decide (2≤n)&&decide (q≠q2)&&decide (n<(q*q2)*(q*q2)))=true):Pr n:=by
 simp only [ZS,decide_eq_true_eq] at h
 obtain ⟨h1,h2,h3⟩:=Gi hq h.1.1.1.1
 obtain ⟨h1',h2',h3'⟩:=Gi hq2 h.1.1.1.2
 exact aL h.1.1.2 hq h1 hq2 h1' h.1.2 h.2 h2 h3 h2' h3'
theorem pr1:Pr 991:=Km (f:=30) (by decide) (by decide) (by decide +kernel)
theorem pr2:Pr 103:=Km (f:=9) (by decide) (by decide) (by decide +kernel)
theorem pr3:Pr 8574133:=Wx (q:=991) (k:=8652) (a:=2) (q2:=103) (k2:=83244) (a2:=2) (f:=25) pr1 pr2 (by decide +kernel)
theorem pr4:Pr 127:=Km (f:=10) (by decide) (by decide) (by decide +kernel)
theorem pr5:Pr 1919519569386763:=Wx (q:=8574133) (k:=223873314) (a:=2) (q2:=127) (k2:=15114327318006) (a2:=2) (f:=52) pr3 pr4 (by decide +kernel)
theorem pr6:Pr 569003:=Km (f:=753) (by decide) (by decide) (by decide +kernel)
theorem pr7:Pr 2773320623:=VD (q:=569003) (k:=4874) (a:=2) (f:=33) pr6 (by decide +kernel)
theorem pr8:Pr 72106336199:=VD (q:=2773320623) (k:=26) (a:=2) (f:=38) pr7 (by decide +kernel)
theorem pr9:Pr 75445702479781427272750846543864801:=Wx (q:=1919519569386763) (k:=39304471641247389600) (a:=2) (q2:=72106336199) (k2:=1046311689884858398375200) (a2:=2) (f:=117) pr5 pr8 (by decide +kernel)
theorem pr10:Pr 430751:=Km (f:=655) (by decide) (by decide) (by decide +kernel)
theorem pr11:Pr 4153:=Km (f:=63) (by decide) (by decide) (by decide +kernel)
theorem pr12:Pr 31757755568855353:=Wx (q:=430751) (k:=73726481352) (a:=2) (q2:=4153) (k2:=7646943310584) (a2:=2) (f:=56) pr10 pr11 (by decide +kernel)
theorem pr13:Pr 74058212732561358302231226437062788676166966415465897661863160754340907:=Wx (q:=75445702479781427272750846543864801) (k:=981609426360740691344999861639072106) (a:=2) (q2:=31757755568855353) (k2:=2331972502653487852620185443007392165117953542933313402) (a2:=2) (f:=237) pr9 pr12 (by decide +kernel)
theorem pr14:Pr 57896044618658097711785492504343953926634992332820282019728792003956564819949:=VD (q:=74058212732561358302231226437062788676166966415465897661863160754340907) (k:=781764) (a:=2) (f:=256) pr13 (by decide +kernel)
end
end Go.NT
namespace Go.Fp
open Go.NT Go.Cv
section
variable {a b k:Nat}
def P:Nat:=57896044618658097711785492504343953926634992332820282019728792003956564819949
theorem UQ:P=57896044618658097711785492504343953926634992332820282019728792003956564819949:=rfl
instance:NeZero P:=⟨by decide⟩
theorem kK:Pr P:=pr14
abbrev Fe:=Fin P
def fp (n:Nat):Fe:=Fin.ofNat P n
theorem YW (n:Nat):(fp n).val=n%P:=rfl
theorem Fm:fp a=fp b↔a%P=b%P:=by
 constructor
 ·intro h; exact congrArg Fin.val h
 ·intro h; exact Fin.ext h
theorem Yq (a:Nat):fp (a%P)=fp a:=Fm.2 (Bz _ _)
theorem Vi (a b:Nat):fp (a+b)=fp a+fp b:=Fin.ext (by rw [YW,Fin.val_add,YW,YW,←Nat.add_mod])
theorem XZ (a b:Nat):fp (a*b)=fp a*fp b:=Fin.ext (by rw [YW,Fin.val_mul,YW,YW,←YY])
theorem iC:fp 0=0:=rfl
theorem Cp:fp 1=1:=rfl
theorem cQ:fp 2=2:=rfl
theorem fp_P:fp P=0:=Fin.ext (by rw [YW,Nat.mod_self]; rfl)
theorem NB (k:Nat):fp (k*P)=0:=by rw [XZ,fp_P]; grobner
theorem nE (h:b≤a):fp (a-b)=fp a-fp b:=by
 have h1:=Vi (a-b) b
 rw [Nat.sub_add_cancel h] at h1
 grobner
def pow (a:Fe) (k:Nat):Fe:=match k with
 | 0=>1
 | k+1=>pow a k*a
theorem AP (a:Fe):∀ k,(pow a k).val=a.val^k%P
 | 0=>rfl
 | k+1=>by rw [pow,Fin.val_mul,AP a k,Z4,LM]
theorem pow_add (a:Fe) (j:Nat):∀ k,pow a (j+k)=pow a j*pow a k
 | 0=>by rw [ZH]; simp only [pow]; grobner
 | k+1=>by rw [←Zi,pow,pow_add a j k,pow]; grobner
theorem pow_mul (a:Fe) (j:Nat):∀ k,pow a (j*k)=pow (pow a j) k
 | 0=>by rw [Nat.mul_zero]; rfl
 | k+1=>by rw [Nat.mul_succ,pow_add,pow_mul a j k,pow]
theorem pow_one (a:Fe):pow a 1=a:=by simp only [pow]; grobner
theorem pow_two (a:Fe):pow a 2=a*a:=by simp only [pow]; grobner
theorem one_pow:∀ k,pow 1 k=1
 | 0=>rfl
 | k+1=>by rw [pow,one_pow k]; grobner
theorem zero_pow (hk:0<k):pow 0 k=0:=by
 obtain ⟨j,rfl⟩:∃ j,k=j+1:=⟨k-1,by omega⟩
 rw [pow]; grobner
theorem mC (a k:Nat):pow (fp a) k=fp (a^k):=Fin.ext (by rw [AP,YW,YW,←p7])
theorem ndvd {a:Fe} (h:a≠0):¬ P∣a.val:=fun hd=>by
 have h1:=HL hd
 rw [QF a.isLt] at h1
 exact h (Fin.ext h1)
theorem Dr {a:Fe} (h:a≠0):pow a (P-1)=1:=Fin.ext (by rw [AP,Go.NT.Dr kK (ndvd h)]; rfl)
def iv (a:Fe):Fe:=pow a (P-2)
theorem Ll {a:Fe} (h:a≠0):a*iv a=1:=by
 have h1:=Dr h
 rw [show P-1=(P-2)+1 from rfl,pow] at h1
 unfold iv
 rw [←h1]; grobner
theorem ig:iv 0=0:=zero_pow (by decide)
def dN:Nat:=37095705934669439343138083508754565189542113879843219016388785533085940283555
def iN:Nat:=19681161376707505956807079304988542015446066515923890162744021073123829784752
def d:Fe:=fp dN
def iQ:Fe:=fp iN
theorem Eh {r f:Nat} (hk:k<2^f) (h:pwf P a f k=r):pow (fp a) k=fp r:=by
 rw [mC,←h,AN hk,Yq]
theorem I4:iQ*iQ = -1:=by
 have h:iQ*iQ+1=0:=by
  unfold iQ
  rw [←XZ,←Cp,←Vi]
  exact Fin.ext (by rw [YW]; decide +kernel)
 grobner
theorem U0:(1:Fe)≠0:=fun h=>by
 have:=congrArg Fin.val h
 revert this
 decide +kernel
theorem ml:(2:Fe)≠0:=fun h=>by
 have:=congrArg Fin.val h
 revert this
 decide +kernel
theorem Ek (r:Fe):pow (r*r) ((P-1)/2)=1∨r=0:=by
 by_cases h:r=0
 ·exact .inr h
 ·left
  rw [←pow_two,←pow_mul,show 2*((P-1)/2)=P-1 from by decide +kernel,Dr h]
theorem nq:pow d ((P-1)/2)=fp (P-1):=Eh (f:=256) (by decide +kernel) (by decide +kernel)
theorem nosq (r:Fe):r*r≠d:=fun h=>by
 have h1:=nq
 rcases Ek r with h2 | h2
 ·rw [h,h1] at h2
  have:=congrArg Fin.val h2
  revert this
  decide +kernel
 ·subst h2
  have h3:d=0:=by rw [←h]; grobner
  have:=congrArg Fin.val h3
  revert this
  decide +kernel
theorem fld:Fld P iv d iQ:=⟨fun _ h=>Ll h,ig,U0,ml,I4,nosq⟩
end
end Go.Fp
namespace Go.Ev.YtomfgcgnepfmjaaGreat
open Go Go.Ev
attribute [local congr] Jq Jz Jp J2 Jb
set_option maxRecDepth 100000
variable {x n y x0 x1 x2 x3 x4 V b c a i:Nat} {k:List Nat} {R:Ob}
theorem EO (hx:x<18446744073709551616) (hy:y<18446744073709551616) :
  Zd T 204 [.int .u64 x,.int .u64 y] []=some (.tuple #[.int .u64 ((x*y/18446744073709551616:Nat):Int),.int .u64 ((x*y%18446744073709551616:Nat):Int)],[],[]):=by
 have key:∀ a b:Nat,a=x*y/18446744073709551616→b=x*y%18446744073709551616→(some (.tuple #[.int .u64 (a:Int),.int .u64 (b:Int)],[],[]):Option (Value×List Ob×List Nat))=some (.tuple #[.int .u64 ((x*y/18446744073709551616:Nat):Int),.int .u64 ((x*y%18446744073709551616:Nat):Int)],[],[]):=by
  rintro a b rfl rfl; rfl
 rw [QE (fn:=a91) rfl]
 simp only [a91,Q0,quiet,cF,Yp,ZA,↓pQ,reduceCtorEq,seval,-Qb,cL,cU]
 apply key
 ·have e:x*y=(x/4294967296*(y/4294967296))*18446744073709551616+(x/4294967296*(y%4294967296)+x%4294967296*(y/4294967296))*4294967296+x%4294967296*(y%4294967296):=by
   conv=>lhs; rw [←ZP x 4294967296,←ZP y 4294967296]
   generalize x/4294967296=x1
   generalize x%4294967296=x0
   generalize y/4294967296=y1
   generalize y%4294967296=y0
   grind
  have b1:x/4294967296≤4294967295:=by omega
  have b2:x%4294967296≤4294967295:=by omega
  have b3:y/4294967296≤4294967295:=by omega
  have b4:y%4294967296≤4294967295:=by omega
  have c1:=JH b1 b3
  have c2:=JH b1 b4
  have c3:=JH b2 b3
  have c4:=JH b2 b4
  rw [e]
  clear e
  generalize x/4294967296*(y/4294967296)=p11 at *
  generalize x/4294967296*(y%4294967296)=p10 at *
  generalize x%4294967296*(y/4294967296)=p01 at *
  generalize x%4294967296*(y%4294967296)=p00 at *
  omega
 ·rfl
def wV (n:Nat):Value := .agg #[.int .u64 ((n/18446744073709551616:Nat):Int),.int .u64 ((n%18446744073709551616:Nat):Int)]
theorem rf_wV (n:Nat):rf (wV n)=true:=rfl
theorem RR (hc:c≤1):Zd T 205 [.int .u64 x,.int .u64 y,.int .u64 c] []=some (.tuple #[.int .u64 ((x+y+c)%18446744073709551616:Nat),.int .u64 ((x+y+c)/18446744073709551616:Nat)],[],[]):=by
 rw [Zd.eq_def]
 have h1:T.fn 205=none:=rfl
 have h2:([.int .u64 (x:Int),.int .u64 (y:Int),.int .u64 (c:Int)]:List Value).all rf=true:=rfl
 have h3:T.ext 205 [.int .u64 x,.int .u64 y,.int .u64 c]=some (.tuple #[.int .u64 ((x+y+c)%18446744073709551616:Nat),.int .u64 ((x+y+c)/18446744073709551616:Nat)]):=by
  have h4:(c:Int).toNat≤1:=by omega
  simp [T,iG,hc]
 rw [h1]
 simp only [h2,if_true,h3,Qj]
theorem Od (hx:x<18446744073709551616) (hy:y<18446744073709551616):∃ l,Zd T 169 [.int .u64 x,.int .u64 y] []=some (wV (x*y),l,[]):=by
 have h:=EO hx hy
 have hf:∀ a b:Int,fillL [Value.int .u64 0,Value.int .u64 0] [(0,1,.int .u64 a),(1,1,.int .u64 b)]=some [.int .u64 a,.int .u64 b]:=fun _ _=>rfl
 apply ZQ
 rw [QE (fn:=a77) rfl]
 simp only [a77,Q0,quiet,cF,Yp,ZA,↓pQ,reduceCtorEq,seval,-Qb,cL,cJ,Zi,h,hf]
 rfl
theorem Sf (hx:x<18446744073709551616) (hy:y<18446744073709551616) (hn:n+x*y<340282366920938463463374607431768211456):∃ l,Zd T 170 [wV n,.int .u64 x,.int .u64 y] []=some (wV (n+x*y),l,[]):=by
 have h:=EO hx hy
 have hf:∀ a b:Int,fillL [Value.int .u64 0,Value.int .u64 0] [(0,1,.int .u64 a),(1,1,.int .u64 b)]=some [.int .u64 a,.int .u64 b]:=fun _ _=>rfl
 have a1:=RR (x:=n%18446744073709551616) (y:=x*y%18446744073709551616) (c:=0) (by decide)
 have a2:=RR (x:=n/18446744073709551616) (y:=x*y/18446744073709551616) (c:=(n%18446744073709551616+x*y%18446744073709551616)/18446744073709551616) (by omega)
 simp only [Z1,ZH] at a1
 have key:∀ (a b:Nat) (l:List Ob),a=(n+x*y)/18446744073709551616→b=(n+x*y)%18446744073709551616→(some (.agg #[.int .u64 (a:Int),.int .u64 (b:Int)],l,[]):Option (Value×List Ob×List Nat))=some (wV (n+x*y),l,[]):=by
  rintro a b l rfl rfl; rfl
 apply ZQ
 rw [QE (fn:=a78) rfl]
 simp only [wV,a78,Q0,quiet,cF,Yp,ZA,↓pQ,reduceCtorEq,seval,-Qb,cL,cJ,Zi,h,hf,a1,a2]
 apply key
 ·generalize x*y=p at *
  omega
 ·generalize x*y=p at *
  omega
theorem SD (hn:n<41538374868278621028243970633760768):∃ l,Zd T 171 [wV n] []=some (.tuple #[.int .u64 ((n/2251799813685248:Nat):Int),.int .u64 ((n%2251799813685248:Nat):Int)],l,[]):=by
 have key:∀ (a b:Nat) (l:List Ob),a=n/2251799813685248→b=n%2251799813685248→(some (.tuple #[.int .u64 (a:Int),.int .u64 (b:Int)],l,[]):Option (Value×List Ob×List Nat))=some (.tuple #[.int .u64 ((n/2251799813685248:Nat):Int),.int .u64 ((n%2251799813685248:Nat):Int)],l,[]):=by
  rintro a b l rfl rfl; rfl
 have hor:=fun a b:Nat=>n_or .u64 rfl a b
 apply ZQ
 rw [QE (fn:=a79) rfl]
 simp only [wV,a79,Q0,quiet,cF,Yp,ZA,↓pQ,reduceCtorEq,seval,-Qb,cL,cJ,Zi,cU,hor]
 apply key
 ·have h1:n/18446744073709551616<2251799813685248:=by omega
  have e1:n/18446744073709551616*8192%18446744073709551616%2^IntKind.u64.bits=n/18446744073709551616*2^13:=by
   rw [show (2:Nat)^IntKind.u64.bits=18446744073709551616 from rfl]; omega
  have e2:n%18446744073709551616/2251799813685248%2^IntKind.u64.bits=n%18446744073709551616/2251799813685248:=by
   rw [show (2:Nat)^IntKind.u64.bits=18446744073709551616 from rfl]; omega
  rw [e1,e2,Vt (by omega)]
  omega
 ·omega
theorem gS (hn:n+x<340282366920938463463374607431768211456) (hx:x<18446744073709551616):∃ l,Zd T 172 [wV n,.int .u64 x] []=some (wV (n+x),l,[]):=by
 have hf:∀ a b:Int,fillL [Value.int .u64 0,Value.int .u64 0] [(0,1,.int .u64 a),(1,1,.int .u64 b)]=some [.int .u64 a,.int .u64 b]:=fun _ _=>rfl
 have a1:=RR (x:=n%18446744073709551616) (y:=x) (c:=0) (by decide)
 simp only [Z1,ZH] at a1
 have key:∀ (a b:Nat) (l:List Ob),a=(n+x)/18446744073709551616→b=(n+x)%18446744073709551616→(some (.agg #[.int .u64 (a:Int),.int .u64 (b:Int)],l,[]):Option (Value×List Ob×List Nat))=some (wV (n+x),l,[]):=by
  rintro a b l rfl rfl; rfl
 apply ZQ
 rw [QE (fn:=a80) rfl]
 simp only [wV,a80,Q0,quiet,cF,Yp,ZA,↓pQ,reduceCtorEq,seval,-Qb,cL,cJ,Zi,cU,hf,a1]
 apply key
 ·omega
 ·omega
def eV (l:List Nat):Value := .agg (ns .u64 l).toArray
theorem Ja (l:List Nat):rf (eV l)=true:=by
 show (ns .u64 l).toArray.toList.all scalarRf=true
 rw [show (ns .u64 l).toArray.toList=ns .u64 l from rfl]
 simp [ns,scalarRf]
theorem Nf (k:IntKind) (l:List Nat):rf (.agg (ns k l).toArray)=true:=by
 show (ns k l).toArray.toList.all scalarRf=true
 rw [show (ns k l).toArray.toList=ns k l from rfl]
 simp [ns,scalarRf]
structure El (l:List Nat) (b:Nat):Prop where
 len:l.length=5
 lt:∀ x∈l,x<b
theorem El.five {l:List Nat} {b:Nat} (h:El l b):∃ x0 x1 x2 x3 x4,l=[x0,x1,x2,x3,x4]∧x0<b∧x1<b∧x2<b∧x3<b∧x4<b:=by
 obtain ⟨h1,h2⟩:=h
 match l,h1 with
 | [x0,x1,x2,x3,x4],_=>exact ⟨x0,x1,x2,x3,x4,rfl,h2 _ (by simp),h2 _ (by simp),h2 _ (by simp),h2 _ (by simp),h2 _ (by simp)⟩
theorem El.mk5 {x0 x1 x2 x3 x4 b:Nat} (h0:x0<b) (h1:x1<b) (h2:x2<b) (h3:x3<b) (h4:x4<b):El [x0,x1,x2,x3,x4] b:=⟨rfl,by simp; exact ⟨h0,h1,h2,h3,h4⟩⟩
def v51 (l:List Nat):Nat:=num 2251799813685248 l
def fe (l:List Nat):Go.Fp.Fe:=Go.Fp.fp (v51 l)
def Yu (x0 x1 x2 x3 x4:Nat):List Nat :=
 let c0:=x0/2251799813685248
 let c1:=(x1+c0)/2251799813685248
 let c2:=(x2+c1)/2251799813685248
 let c3:=(x3+c2)/2251799813685248
 let c4:=(x4+c3)/2251799813685248
 [x0%2251799813685248+19*c4,(x1+c0)%2251799813685248,(x2+c1)%2251799813685248,(x3+c2)%2251799813685248,(x4+c3)%2251799813685248]
theorem GZ:∃ k,v51 (Yu x0 x1 x2 x3 x4)+k*Go.Fp.P=v51 [x0,x1,x2,x3,x4]:=by
 refine ⟨(x4+(x3+(x2+(x1+x0/2251799813685248)/2251799813685248)/2251799813685248)/2251799813685248)/2251799813685248,?_⟩
 simp only [v51,Yu,num,Go.Fp.UQ]
 omega
theorem lD {k:Nat} (h:a+k*Go.Fp.P=b):Go.Fp.fp a=Go.Fp.fp b:=by
 rw [←h,Go.Fp.Vi,Go.Fp.NB]; grobner
theorem L9 (h0:x0<9223372036854775808) (h1:x1<9223372036854775808) (h2:x2<9223372036854775808) (h3:x3<9223372036854775808) (h4:x4<9223372036854775808) :
  ∃ l,Zd T 173 [eV [x0,x1,x2,x3,x4]] []=some (eV (Yu x0 x1 x2 x3 x4),l,[]):=by
 have key:∀ (a b c d e:Nat) (l:List Ob),[a,b,c,d,e]=Yu x0 x1 x2 x3 x4→(some (.agg [.int .u64 (a:Int),.int .u64 (b:Int),.int .u64 (c:Int),.int .u64 (d:Int),.int .u64 (e:Int)].toArray,l,[]):Option (Value×List Ob×List Nat))=some (eV (Yu x0 x1 x2 x3 x4),l,[]):=by
  intro a b c d e l h
  rw [←h]; rfl
 have hz:Qc 5 (Value.int .u64 0)=[.int .u64 0,.int .u64 0,.int .u64 0,.int .u64 0,.int .u64 0]:=rfl
 apply ZQ
 rw [QE (fn:=a81) rfl]
 simp only [eV,YB,U1,a81,Q0,quiet,cF,Yp,ZA,↓pQ,reduceCtorEq,seval,-Qb,cL,cJ,Zi,cU,hz,Jr,J9,dT]
 apply key
 simp only [Yu,List.cons.injEq,and_true]
 rw [show x0%18446744073709551616=x0 by omega]
 have b0:x0/2251799813685248<8192:=by omega
 have hx0:x0%2251799813685248<2251799813685248:=by omega
 generalize x0/2251799813685248=c0 at *
 generalize x0%2251799813685248=r0 at *
 rw [show (x1+c0)%18446744073709551616=x1+c0 by omega]
 have b1:(x1+c0)/2251799813685248<8192:=by omega
 generalize (x1+c0)/2251799813685248=c1 at *
 rw [show (x2+c1)%18446744073709551616=x2+c1 by omega]
 have b2:(x2+c1)/2251799813685248<8192:=by omega
 generalize (x2+c1)/2251799813685248=c2 at *
 rw [show (x3+c2)%18446744073709551616=x3+c2 by omega]
 have b3:(x3+c2)/2251799813685248<8192:=by omega
 generalize (x3+c2)/2251799813685248=c3 at *
 rw [show (x4+c3)%18446744073709551616=x4+c3 by omega]
 have b4:(x4+c3)/2251799813685248<8192:=by omega
 generalize (x4+c3)/2251799813685248=c4 at *
 refine ⟨by omega,rfl,rfl,rfl,rfl⟩
theorem gQ (B P x0 x1 x2 x3 x4 y0 y1 y2 y3 y4:Nat) (h:B*B*B*B*B=P+19) :
  (x0+B*(x1+B*(x2+B*(x3+B*(x4+B*0)))))*(y0+B*(y1+B*(y2+B*(y3+B*(y4+B*0))))) =
   (x0*y0+19*x1*y4+19*x2*y3+19*x3*y2+19*x4*y1)+B*((x0*y1+x1*y0+19*x2*y4+19*x3*y3+19*x4*y2)+B*((x0*y2+x1*y1+x2*y0+19*x3*y4+19*x4*y3)+B*((x0*y3+x1*y2+x2*y1+x3*y0+19*x4*y4)+B*(x0*y4+x1*y3+x2*y2+x3*y1+x4*y0)))) +
   (x1*y4+x2*y3+x3*y2+x4*y1+B*(x2*y4+x3*y3+x4*y2+B*(x3*y4+x4*y3+B*(x4*y4))))*P:=by grind
theorem UU (hx:x<18446744073709551616) (hy:y<18446744073709551616):ZB T 169 [.int .u64 x,.int .u64 y]=some (wV (x*y)):=Kz (Od hx hy)
theorem XA (hx:x<18446744073709551616) (hy:y<18446744073709551616) (hn:n+x*y<340282366920938463463374607431768211456):ZB T 170 [wV n,.int .u64 x,.int .u64 y]=some (wV (n+x*y)):=Kz (Sf hx hy hn)
theorem UW (hn:n<41538374868278621028243970633760768):ZB T 171 [wV n]=some (.tuple #[.int .u64 ((n/2251799813685248:Nat):Int),.int .u64 ((n%2251799813685248:Nat):Int)]):=Kz (SD hn)
theorem nj (hn:n+x<340282366920938463463374607431768211456) (hx:x<18446744073709551616):ZB T 172 [wV n,.int .u64 x]=some (wV (n+x)):=Kz (gS hn hx)
theorem Wy (h0:x0<9223372036854775808) (h1:x1<9223372036854775808) (h2:x2<9223372036854775808) (h3:x3<9223372036854775808) (h4:x4<9223372036854775808):ZB T 173 [eV [x0,x1,x2,x3,x4]]=some (eV (Yu x0 x1 x2 x3 x4)):=Kz (L9 h0 h1 h2 h3 h4)
theorem Yr {d e:Nat} (ha:a<2^109) (hb:b<2^109) (hc:c<2^109) (hd:d<2^109) (he:e<2^109):a+b+c+d+e<2^112:=by omega
theorem Jn (hx:x<2^57) (hy:y<2^52):x*y<2^109:=by
 rw [show (2:Nat)^109=2^57*2^52 from rfl]
 exact Nat.mul_lt_mul'' hx hy
theorem gP {s0 s1 s2 s3 s4:Nat} (h0:s0<2^112) (h1:s1<2^112) (h2:s2<2^112) (h3:s3<2^112) (h4:s4<2^112):∃ r,El r (2^52)∧(∃ k,v51 r+k*Go.Fp.P=s0+2251799813685248*(s1+2251799813685248*(s2+2251799813685248*(s3+2251799813685248*s4)))) ∧
  r=Yu ((19*(s4/2251799813685248)+s0%2251799813685248)%2251799813685248) (s1%2251799813685248+s0/2251799813685248+(19*(s4/2251799813685248)+s0%2251799813685248)/2251799813685248) (s2%2251799813685248+s1/2251799813685248) (s3%2251799813685248+s2/2251799813685248) (s4%2251799813685248+s3/2251799813685248):=by
 refine ⟨_,?_,?_,rfl⟩
 ·simp only [Yu]
  apply El.mk5<;>omega
 ·obtain ⟨k,hk⟩:=GZ (x0:=(19*(s4/2251799813685248)+s0%2251799813685248)%2251799813685248) (x1:=s1%2251799813685248+s0/2251799813685248+(19*(s4/2251799813685248)+s0%2251799813685248)/2251799813685248) (x2:=s2%2251799813685248+s1/2251799813685248) (x3:=s3%2251799813685248+s2/2251799813685248) (x4:=s4%2251799813685248+s3/2251799813685248)
  refine ⟨k+s4/2251799813685248,?_⟩
  rw [Zy,←Zi,hk]
  simp only [v51,num,Go.Fp.UQ]
  omega
theorem Xv {x y:List Nat} (hx:El x (2^52)) (hy:El y (2^52)):∃ r,ZB T 108 [eV x,eV y]=some (eV r)∧El r (2^52)∧fe r=fe x*fe y:=by
 obtain ⟨x0,x1,x2,x3,x4,rfl,a0,a1,a2,a3,a4⟩:=hx.five
 obtain ⟨y0,y1,y2,y3,y4,rfl,b0,b1,b2,b3,b4⟩:=hy.five
 have m1:19*x1%18446744073709551616=19*x1:=by omega
 have m2:19*x2%18446744073709551616=19*x2:=by omega
 have m3:19*x3%18446744073709551616=19*x3:=by omega
 have m4:19*x4%18446744073709551616=19*x4:=by omega
 have t00:=UU (x:=x0) (y:=y0) (by omega) (by omega)
 have p00:x0*y0<2^109:=Jn (by omega) (by omega)
 have p01:19*x1*y4<2^109:=Jn (by omega) (by omega)
 have p02:19*x2*y3<2^109:=Jn (by omega) (by omega)
 have p03:19*x3*y2<2^109:=Jn (by omega) (by omega)
 have p04:19*x4*y1<2^109:=Jn (by omega) (by omega)
 have t01:=XA (n:=x0*y0) (x:=19*x1) (y:=y4) (by omega) (by omega) (by omega)
 have t02:=XA (n:=x0*y0+19*x1*y4) (x:=19*x2) (y:=y3) (by omega) (by omega) (by omega)
 have t03:=XA (n:=x0*y0+19*x1*y4+19*x2*y3) (x:=19*x3) (y:=y2) (by omega) (by omega) (by omega)
 have t04:=XA (n:=x0*y0+19*x1*y4+19*x2*y3+19*x3*y2) (x:=19*x4) (y:=y1) (by omega) (by omega) (by omega)
 have q0:=Yr p00 p01 p02 p03 p04
 have t10:=UU (x:=x0) (y:=y1) (by omega) (by omega)
 have p10:x0*y1<2^109:=Jn (by omega) (by omega)
 have p11:x1*y0<2^109:=Jn (by omega) (by omega)
 have p12:19*x2*y4<2^109:=Jn (by omega) (by omega)
 have p13:19*x3*y3<2^109:=Jn (by omega) (by omega)
 have p14:19*x4*y2<2^109:=Jn (by omega) (by omega)
 have t11:=XA (n:=x0*y1) (x:=x1) (y:=y0) (by omega) (by omega) (by omega)
 have t12:=XA (n:=x0*y1+x1*y0) (x:=19*x2) (y:=y4) (by omega) (by omega) (by omega)
 have t13:=XA (n:=x0*y1+x1*y0+19*x2*y4) (x:=19*x3) (y:=y3) (by omega) (by omega) (by omega)
 have t14:=XA (n:=x0*y1+x1*y0+19*x2*y4+19*x3*y3) (x:=19*x4) (y:=y2) (by omega) (by omega) (by omega)
 have q1:=Yr p10 p11 p12 p13 p14
 have t20:=UU (x:=x0) (y:=y2) (by omega) (by omega)
 have p20:x0*y2<2^109:=Jn (by omega) (by omega)
 have p21:x1*y1<2^109:=Jn (by omega) (by omega)
 have p22:x2*y0<2^109:=Jn (by omega) (by omega)
 have p23:19*x3*y4<2^109:=Jn (by omega) (by omega)
 have p24:19*x4*y3<2^109:=Jn (by omega) (by omega)
 have t21:=XA (n:=x0*y2) (x:=x1) (y:=y1) (by omega) (by omega) (by omega)
 have t22:=XA (n:=x0*y2+x1*y1) (x:=x2) (y:=y0) (by omega) (by omega) (by omega)
 have t23:=XA (n:=x0*y2+x1*y1+x2*y0) (x:=19*x3) (y:=y4) (by omega) (by omega) (by omega)
 have t24:=XA (n:=x0*y2+x1*y1+x2*y0+19*x3*y4) (x:=19*x4) (y:=y3) (by omega) (by omega) (by omega)
 have q2:=Yr p20 p21 p22 p23 p24
 have t30:=UU (x:=x0) (y:=y3) (by omega) (by omega)
 have p30:x0*y3<2^109:=Jn (by omega) (by omega)
 have p31:x1*y2<2^109:=Jn (by omega) (by omega)
 have p32:x2*y1<2^109:=Jn (by omega) (by omega)
 have p33:x3*y0<2^109:=Jn (by omega) (by omega)
 have p34:19*x4*y4<2^109:=Jn (by omega) (by omega)
 have t31:=XA (n:=x0*y3) (x:=x1) (y:=y2) (by omega) (by omega) (by omega)
 have t32:=XA (n:=x0*y3+x1*y2) (x:=x2) (y:=y1) (by omega) (by omega) (by omega)
 have t33:=XA (n:=x0*y3+x1*y2+x2*y1) (x:=x3) (y:=y0) (by omega) (by omega) (by omega)
 have t34:=XA (n:=x0*y3+x1*y2+x2*y1+x3*y0) (x:=19*x4) (y:=y4) (by omega) (by omega) (by omega)
 have q3:=Yr p30 p31 p32 p33 p34
 have t40:=UU (x:=x0) (y:=y4) (by omega) (by omega)
 have p40:x0*y4<2^109:=Jn (by omega) (by omega)
 have p41:x1*y3<2^109:=Jn (by omega) (by omega)
 have p42:x2*y2<2^109:=Jn (by omega) (by omega)
 have p43:x3*y1<2^109:=Jn (by omega) (by omega)
 have p44:x4*y0<2^109:=Jn (by omega) (by omega)
 have t41:=XA (n:=x0*y4) (x:=x1) (y:=y3) (by omega) (by omega) (by omega)
 have t42:=XA (n:=x0*y4+x1*y3) (x:=x2) (y:=y2) (by omega) (by omega) (by omega)
 have t43:=XA (n:=x0*y4+x1*y3+x2*y2) (x:=x3) (y:=y1) (by omega) (by omega) (by omega)
 have t44:=XA (n:=x0*y4+x1*y3+x2*y2+x3*y1) (x:=x4) (y:=y0) (by omega) (by omega) (by omega)
 have q4:=Yr p40 p41 p42 p43 p44
 obtain ⟨r,hr1,⟨k,hr2⟩,hr3⟩:=gP q0 q1 q2 q3 q4
 have d0:=UW (n:=x0*y0+19*x1*y4+19*x2*y3+19*x3*y2+19*x4*y1) (by omega)
 have d1:=UW (n:=x0*y1+x1*y0+19*x2*y4+19*x3*y3+19*x4*y2) (by omega)
 have d2:=UW (n:=x0*y2+x1*y1+x2*y0+19*x3*y4+19*x4*y3) (by omega)
 have d3:=UW (n:=x0*y3+x1*y2+x2*y1+x3*y0+19*x4*y4) (by omega)
 have d4:=UW (n:=x0*y4+x1*y3+x2*y2+x3*y1+x4*y0) (by omega)
 refine ⟨r,?_,hr1,?_⟩
 ·rw [hr3]
  clear hr2 hr3
  generalize x0*y0+19*x1*y4+19*x2*y3+19*x3*y2+19*x4*y1=s0 at *
  generalize x0*y1+x1*y0+19*x2*y4+19*x3*y3+19*x4*y2=s1 at *
  generalize x0*y2+x1*y1+x2*y0+19*x3*y4+19*x4*y3=s2 at *
  generalize x0*y3+x1*y2+x2*y1+x3*y0+19*x4*y4=s3 at *
  generalize x0*y4+x1*y3+x2*y2+x3*y1+x4*y0=s4 at *
  have u1:=UU (x:=19) (y:=s4/2251799813685248) (by omega) (by omega)
  have u2:=nj (n:=19*(s4/2251799813685248)) (x:=s0%2251799813685248) (by omega) (by omega)
  have u3:=UW (n:=19*(s4/2251799813685248)+s0%2251799813685248) (by omega)
  have w1:(s1%2251799813685248+s0/2251799813685248)%18446744073709551616=s1%2251799813685248+s0/2251799813685248:=by omega
  have w2:(s1%2251799813685248+s0/2251799813685248+(19*(s4/2251799813685248)+s0%2251799813685248)/2251799813685248)%18446744073709551616=s1%2251799813685248+s0/2251799813685248+(19*(s4/2251799813685248)+s0%2251799813685248)/2251799813685248:=by omega
  have w3:(s2%2251799813685248+s1/2251799813685248)%18446744073709551616=s2%2251799813685248+s1/2251799813685248:=by omega
  have w4:(s3%2251799813685248+s2/2251799813685248)%18446744073709551616=s3%2251799813685248+s2/2251799813685248:=by omega
  have w5:(s4%2251799813685248+s3/2251799813685248)%18446744073709551616=s4%2251799813685248+s3/2251799813685248:=by omega
  have v1:=Wy (x0:=(19*(s4/2251799813685248)+s0%2251799813685248)%2251799813685248) (x1:=s1%2251799813685248+s0/2251799813685248+(19*(s4/2251799813685248)+s0%2251799813685248)/2251799813685248) (x2:=s2%2251799813685248+s1/2251799813685248) (x3:=s3%2251799813685248+s2/2251799813685248) (x4:=s4%2251799813685248+s3/2251799813685248) (by omega) (by omega) (by omega) (by omega) (by omega)
  simp only [Un] at u1
  have hz:Qc 5 (Value.int .u64 0)=[.int .u64 0,.int .u64 0,.int .u64 0,.int .u64 0,.int .u64 0]:=rfl
  have hf:∀ a b c d e:Int,fillL [Value.int .u64 0,.int .u64 0,.int .u64 0,.int .u64 0,.int .u64 0] [(0,1,.int .u64 a),(1,1,.int .u64 b),(2,1,.int .u64 c),(3,1,.int .u64 d),(4,1,.int .u64 e)]=some [.int .u64 a,.int .u64 b,.int .u64 c,.int .u64 d,.int .u64 e]:=fun _ _ _ _ _=>rfl
  have hf5:∀ a b c d e:Int,fillL [Value.int .u64 0,.int .u64 0,.int .u64 0,.int .u64 0,.int .u64 0] [(0,5,.agg [.int .u64 a,.int .u64 b,.int .u64 c,.int .u64 d,.int .u64 e].toArray)]=some [.int .u64 a,.int .u64 b,.int .u64 c,.int .u64 d,.int .u64 e]:=fun _ _ _ _ _=>rfl
  have hr5:∀ a b c d e:Int,rf (.agg [.int .u64 a,.int .u64 b,.int .u64 c,.int .u64 d,.int .u64 e].toArray)=true:=fun _ _ _ _ _=>rfl
  have hw:∀ n,(wV n).cells.size=2:=fun _=>rfl
  have hw2:∀ n,(wV n).cells.toList=[.int .u64 ((n/18446744073709551616:Nat):Int),.int .u64 ((n%18446744073709551616:Nat):Int)]:=fun _=>rfl
  have hw3:∀ n,okVar (wV n)=true:=fun _=>rfl
  have hw4:∀ n,Value.agg [.int .u64 ((n/18446744073709551616:Nat):Int),.int .u64 ((n%18446744073709551616:Nat):Int)].toArray=wV n:=fun _=>rfl
  simp only [eV,YB,U1] at v1 ⊢
  generalize hc:ns .u64 (Yu ((19*(s4/2251799813685248)+s0%2251799813685248)%2251799813685248) (s1%2251799813685248+s0/2251799813685248+(19*(s4/2251799813685248)+s0%2251799813685248)/2251799813685248) (s2%2251799813685248+s1/2251799813685248) (s3%2251799813685248+s2/2251799813685248) (s4%2251799813685248+s3/2251799813685248))=C at *
  have hC:C.length=5:=by rw [←hc]; rfl
  have hCr:rf (.agg C.toArray)=true:=by rw [←hc]; exact Nf _ _
  apply ZM (fn:=a51) rfl
  simp only [a51,Q0,quiet,cF,Jw,ZA,↓pQ,reduceCtorEq,seval,-Qb,cL,cJ,cU,hz,m1,m2,m3,m4,t00,t01,t02,t03,t04,t10,t11,t12,t13,t14,t20,t21,t22,t23,t24,t30,t31,t32,t33,t34,t40,t41,t42,t43,t44,d0,d1,d2,d3,d4,u1,u2,u3,w1,w2,w3,w4,w5,hf,hf5,hr5,v1,rf_wV,hw,hw2,hw3,hw4,hC,hCr]
  rfl
 ·unfold fe
  rw [←Go.Fp.XZ]
  have h:=gQ 2251799813685248 Go.Fp.P x0 x1 x2 x3 x4 y0 y1 y2 y3 y4 (by rw [Go.Fp.UQ])
  have e:v51 [x0,x1,x2,x3,x4]*v51 [y0,y1,y2,y3,y4]=v51 r+(k+(x1*y4+x2*y3+x3*y2+x4*y1+2251799813685248*(x2*y4+x3*y3+x4*y2+2251799813685248*(x3*y4+x4*y3+2251799813685248*(x4*y4)))))*Go.Fp.P:=by
   simp only [v51,num] at hr2 h ⊢
   rw [h,←hr2,Zi,←Zy]
  exact lD e.symm
theorem NP {w q s:Nat} (hs:s<w):V/(2^w)^q%2^w/2^s%2=V/2^(w*q+s)%2:=by
 have h1:(2:Nat)^w=2^s*2^(w-s):=by rw [←JD]; congr 1; omega
 conv=>lhs; rw [show V/(2^w)^q%2^w=V/(2^w)^q%(2^s*2^(w-s)) from by rw [←h1]]
 have h2:(2:Nat)∣2^(w-s):=by
  obtain ⟨m,hm⟩:∃ m,w-s=m+1:=⟨w-s-1,by omega⟩
  rw [hm,Z4]
  exact Ii 2 _
 rw [Nat.mod_mul_right_div_self,VH _ h2,Jm,←Jj,←JD]
theorem FU (V i:Nat):V%2^i+V/2^i%2*2^i=V%2^(i+1):=by
 rw [Nat.mod_pow_succ,Z2 (2^i)]
theorem RN (V i:Nat):V/2^i%2<2:=Q4 _ (by decide)
theorem WC (h:n≤b):(2:Int)^min n b=((2^n:Nat):Int):=by rw [Ze h]; simp
theorem Mj (hn:n<4294967296):ZB T 111 [.int .u32 n]=some (eV [n,0,0,0,0]):=by
 have hz:Qc 5 (Value.int .u64 0)=[.int .u64 0,.int .u64 0,.int .u64 0,.int .u64 0,.int .u64 0]:=rfl
 have hf:∀ a:Int,fillL [Value.int .u64 0,.int .u64 0,.int .u64 0,.int .u64 0,.int .u64 0] [(0,1,.int .u64 a)]=some [.int .u64 a,.int .u64 0,.int .u64 0,.int .u64 0,.int .u64 0]:=fun _=>rfl
 have hf5:∀ a b c d e:Int,fillL [Value.int .u64 0,.int .u64 0,.int .u64 0,.int .u64 0,.int .u64 0] [(0,5,.agg [.int .u64 a,.int .u64 b,.int .u64 c,.int .u64 d,.int .u64 e].toArray)]=some [.int .u64 a,.int .u64 b,.int .u64 c,.int .u64 d,.int .u64 e]:=fun _ _ _ _ _=>rfl
 have hm:n%18446744073709551616=n:=by omega
 apply ZM (fn:=a50) rfl
 simp only [a50,Q0,quiet,cF,Jw,ZA,↓pQ,reduceCtorEq,seval,-Qb,cL,cJ,cU,hz,hf,hf5,hm,eV,YB,U1]
 rfl
theorem Gr (hn:n<2^52):El [n,0,0,0,0] (2^52):=El.mk5 hn (by decide) (by decide) (by decide) (by decide)
theorem Gq (n:Nat):fe [n,0,0,0,0]=Go.Fp.fp n:=by simp [fe,v51,num]
def ofX (V i:Nat):List Nat:=dig (2^51) 5 (V%2^i)
def EH (k x:List Nat) (i:Nat) (ex:Env):St:=⟨[(1,.pointer (some ⟨0,0,none⟩)),(2,.pointer (some ⟨1,0,none⟩)),(3,.pointer (some ⟨2,0,none⟩)),(5,.int .i64 i)]++ex,[⟨u8s k,true,true,true,1⟩,⟨ns .u64 [0,0,0,0,0],true,true,true,1⟩,⟨ns .u64 x,true,true,true,1⟩],[]⟩
theorem bB (lk:k.length=32) (xk:∀ x∈k,x<256) (hi:i<255) :
  Q8 T 0 RZ (EH k (ofX (num 256 k) i) i [])=some (.normal,EH k (ofX (num 256 k) (i+1)) (i+1) []):=by
 obtain ⟨b,hb⟩:∃ b,k[i/8]?=some b:=⟨_,Qh (by omega)⟩
 have hbv:=VS (B:=256) (by decide) xk hb
 have hbc:=Jt hb
 have hlen:(ofX (num 256 k) i).length=5:=Zx _ _ _
 obtain ⟨y,hy⟩:∃ b,(ofX (num 256 k) i)[i/51]?=some b:=⟨_,Qh (by omega)⟩
 have hyc:=Jo (k := .u64) hy
 have hy':y<2^51:=KV (by decide) (Qz hy)
 have hbit:b/2^(i%8)%2=num 256 k/2^i%2:=by
  rw [←hbv,show (256:Nat)=2^8 from rfl,NP (Q4 _ (by decide)),ZP]
 have hput:=Ms (w:=51) (m:=5) (q:=i/51) (s:=i%51) (y:=num 256 k/2^i%2) (M:=num 256 k%2^i) (by omega) (Q4 _ (by decide)) (by rw [ZP]; exact Q4 _ (JX (by decide))) (by
  have h1:=RN (num 256 k) i
  have h2:(2:Nat)^(i%51)≤2^50:=Zp (by decide) (by have:=Q4 i (by decide:0<51); omega)
  have h3:num 256 k/2^i%2*2^(i%51)≤1*2^50:=JH (by omega) h2
  omega)
 rw [ZP,FU] at hput
 have hgd:(dig (2^51) 5 (num 256 k%2^i)).getD (i/51) 0=y:=by rw [Qx]; unfold ofX at hy; rw [hy]; rfl
 rw [hgd] at hput
 have hset:=XC .u64 (ofX (num 256 k) i) (i/51) (y|||num 256 k/2^i%2*2^(i%51))
 rw [show (ofX (num 256 k) i).set (i/51) (y|||num 256 k/2^i%2*2^(i%51))=ofX (num 256 k) (i+1) from hput] at hset
 have hbl:=RN (num 256 k) i
 have h50:(2:Nat)^(i%51)≤2^50:=Zp (by decide) (by have:=Q4 i (by decide:0<51); omega)
 have hprod:num 256 k/2^i%2*2^(i%51)≤1*2^50:=JH (by omega) h50
 have s1:(2:Int)^min (i%8) IntKind.u8.bits=((2^(i%8):Nat):Int):=WC (Xi (Q4 _ (by decide)))
 have s2:(2:Int)^min (i%51) IntKind.u64.bits=((2^(i%51):Nat):Int):=WC (by have:=Q4 i (by decide:0<51); exact ZT (Xi this) (by decide))
 have o1:Zs .or .u64 (y:Int) ((num 256 k/2^i%2*2^(i%51):Nat):Int)=((y|||num 256 k/2^i%2*2^(i%51):Nat):Int):=KA rfl (by show _<18446744073709551616; omega) (by show _<18446744073709551616; omega)
 have n1:(num 256 k/2^i%2*2^(i%51))%18446744073709551616=num 256 k/2^i%2*2^(i%51):=by omega
 have n2:(num 256 k/2^i%2)%18446744073709551616=num 256 k/2^i%2:=by omega
 have w1:IntKind.i64.wrap ((i/51:Nat):Int)=((i/51:Nat):Int):=Jf (by omega)
 have w2:IntKind.i64.wrap ((i/8:Nat):Int)=((i/8:Nat):Int):=Jf (by omega)
 have w3:IntKind.i64.wrap ((i+1:Nat):Int)=((i+1:Nat):Int):=Jf (by omega)
 have e1:((i:Int)<255)=True:=eq_true (by omega)
 have e2:(((i/51:Nat):Int)<5)=True:=eq_true (by omega)
 have e3:(((i/8:Nat):Int)<32)=True:=eq_true (by omega)
 have e4:(((i%8:Nat):Int)<0)=False:=eq_false (by omega)
 have e5:(((i%51:Nat):Int)<0)=False:=eq_false (by omega)
 have e6:i/51+1≤5:=by omega
 simp only [EH,RZ,Q0,quiet,cF,Jw,ZA,↓pQ,reduceCtorEq,seval,-Qb,cL,cJ,cU,hbc,hyc,hbit,s1,s2,o1,n1,n2,w1,w2,w3,e1,e2,e3,e4,e5,e6,hset,QQ,hlen]
theorem bC (lk:k.length=32) (xk:∀ x∈k,x<256):ZB T 106 [.agg (u8s k).toArray]=some (eV (dig (2^51) 5 (num 256 k%2^255))):=by
 have hz:Qc 5 (Value.int .u64 0)=ns .u64 [0,0,0,0,0]:=rfl
 have hb:=Xp (T:=T) (base:=0) (id:=0) (body:=RZ) (fun i=>EH k (ofX (num 256 k) i) i []) (s':=EH k (ofX (num 256 k) 255) 255 [(6,.bool false)]) 255 (fun i hi=>bB lk xk hi) (by
  simp only [EH,RZ,Q0,quiet,cF,Jw,ZA,↓pQ,reduceCtorEq,seval,-Qb,cL])
 have h0:ofX (num 256 k) 0=[0,0,0,0,0]:=by unfold ofX; rw [Xh,p8]; decide
 rw [h0] at hb
 have hlen:(ofX (num 256 k) 255).length=5:=Zx _ _ _
 rw [show dig (2^51) 5 (num 256 k%2^255)=ofX (num 256 k) 255 from rfl]
 generalize ofX (num 256 k) 255=X at *
 simp only [EH,Qw,Qr,Z1] at hb
 apply ZM (fn:=a49) rfl
 have hl5:(ns .u64 [0,0,0,0,0]).length=5:=rfl
 simp only [a49,Q0,quiet,cF,Jw,ZA,↓pQ,reduceCtorEq,seval,-Qb,cL,cJ,hz,hb,EH,eV,hl5,QQ,hlen]
 rfl
theorem EI:El (dig (2^51) 5 V) (2^52):=⟨Zx _ _ _,fun x hx=>by have:=KV (by decide) hx; omega⟩
theorem Ru:v51 (dig (2^51) 5 (V%2^255))=V%2^255:=by
 have h:=XV (B:=2^51) (by decide) 5 (V%2^255)
 rw [show ((2:Nat)^51)^5=2^255 from by rw [←Jj],Bz] at h
 exact h
theorem dm (a b:Nat):∃ r,a=b*(a/b)+r∧a%b=r∧(0<b→r<b):=⟨a%b,(ZP a b).symm,rfl,fun h=>Q4 _ h⟩
theorem PN (h0:x0<9223372036854775808) (h1:x1<9223372036854775808) (h2:x2<9223372036854775808) (h3:x3<9223372036854775808) (h4:x4<9223372036854775808) :
  ∃ y0 y1 y2 y3 y4 z0 z1 z2 z3 z4,Yu x0 x1 x2 x3 x4=[y0,y1,y2,y3,y4]∧y0<9223372036854775808∧y1<9223372036854775808∧y2<9223372036854775808∧y3<9223372036854775808∧y4<9223372036854775808 ∧
   Yu y0 y1 y2 y3 y4=[z0,z1,z2,z3,z4]∧z0<2251799813685248+19∧z1<2251799813685248∧z2<2251799813685248∧z3<2251799813685248∧z4<2251799813685248∧(∃ k,v51 [z0,z1,z2,z3,z4]+k*Go.Fp.P=v51 [x0,x1,x2,x3,x4]):=by
 have key:∀ y0 y1 y2 y3 y4:Nat,y0<2251799813685248+19*8192→y1<2251799813685248→y2<2251799813685248→y3<2251799813685248→y4<2251799813685248→Yu x0 x1 x2 x3 x4=[y0,y1,y2,y3,y4] →
   ∃ z0 z1 z2 z3 z4,Yu y0 y1 y2 y3 y4=[z0,z1,z2,z3,z4]∧z0<2251799813685248+19∧z1<2251799813685248∧z2<2251799813685248∧z3<2251799813685248∧z4<2251799813685248∧(∃ k,v51 [z0,z1,z2,z3,z4]+k*Go.Fp.P=v51 [x0,x1,x2,x3,x4]):=by
  intro y0 y1 y2 y3 y4 b0 b1 b2 b3 b4 hy
  refine ⟨_,_,_,_,_,rfl,?_,Q4 _ (by decide),Q4 _ (by decide),Q4 _ (by decide),Q4 _ (by decide),?_⟩
  ·have c0:y0/2251799813685248≤1:=by omega
   have c1:(y1+y0/2251799813685248)/2251799813685248≤1:=by omega
   have c2:(y2+(y1+y0/2251799813685248)/2251799813685248)/2251799813685248≤1:=by omega
   have c3:(y3+(y2+(y1+y0/2251799813685248)/2251799813685248)/2251799813685248)/2251799813685248≤1:=by omega
   generalize (y3+(y2+(y1+y0/2251799813685248)/2251799813685248)/2251799813685248)/2251799813685248=c at *
   rcases Zm y0 2251799813685248 with h | h
   ·
    have d0:y0/2251799813685248=0:=by omega
    have c4:(y4+c)/2251799813685248≤1:=by omega
    have:=Q4 y0 (by decide:0<2251799813685248)
    omega
   ·have c4:(y4+c)/2251799813685248≤1:=by omega
    have:=Q4 y0 (by decide:0<2251799813685248)
    omega
  ·obtain ⟨k1,e1⟩:=GZ (x0:=y0) (x1:=y1) (x2:=y2) (x3:=y3) (x4:=y4)
   obtain ⟨k2,e2⟩:=GZ (x0:=x0) (x1:=x1) (x2:=x2) (x3:=x3) (x4:=x4)
   rw [hy] at e2
   refine ⟨k1+k2,?_⟩
   rw [Zy,←Zi,←e2,←e1]
   rfl
 have c0:x0/2251799813685248<8192:=by omega
 have c1:(x1+x0/2251799813685248)/2251799813685248<8192:=by omega
 have c2:(x2+(x1+x0/2251799813685248)/2251799813685248)/2251799813685248<8192:=by omega
 have c3:(x3+(x2+(x1+x0/2251799813685248)/2251799813685248)/2251799813685248)/2251799813685248<8192:=by omega
 have c4:(x4+(x3+(x2+(x1+x0/2251799813685248)/2251799813685248)/2251799813685248)/2251799813685248)/2251799813685248<8192:=by omega
 have m0:=Q4 x0 (by decide:0<2251799813685248)
 have m1:=Q4 (x1+x0/2251799813685248) (by decide:0<2251799813685248)
 have m2:=Q4 (x2+(x1+x0/2251799813685248)/2251799813685248) (by decide:0<2251799813685248)
 have m3:=Q4 (x3+(x2+(x1+x0/2251799813685248)/2251799813685248)/2251799813685248) (by decide:0<2251799813685248)
 have m4:=Q4 (x4+(x3+(x2+(x1+x0/2251799813685248)/2251799813685248)/2251799813685248)/2251799813685248) (by decide:0<2251799813685248)
 obtain ⟨z0,z1,z2,z3,z4,g1,g2⟩:=key _ _ _ _ _ (by
  generalize (x4+(x3+(x2+(x1+x0/2251799813685248)/2251799813685248)/2251799813685248)/2251799813685248)/2251799813685248=c at *
  generalize x0%2251799813685248=r at *
  show r+19*c<_
  omega) m1 m2 m3 m4 rfl
 refine ⟨_,_,_,_,_,z0,z1,z2,z3,z4,rfl,?_,Kt m1 (by decide),Kt m2 (by decide),Kt m3 (by decide),Kt m4 (by decide),g1,g2⟩
 generalize (x4+(x3+(x2+(x1+x0/2251799813685248)/2251799813685248)/2251799813685248)/2251799813685248)/2251799813685248=c at *
 generalize x0%2251799813685248=r at *
 show r+19*c<_
 omega
def AA (z0 z1 z2 z3 z4:Nat):Nat:=(z4+(z3+(z2+(z1+(z0+19)/2251799813685248)/2251799813685248)/2251799813685248)/2251799813685248)/2251799813685248
def P5 (z0 z1 z2 z3 z4:Nat):List Nat :=
 let u0:=z0/2251799813685248
 let u1:=(z1+u0)/2251799813685248
 let u2:=(z2+u1)/2251799813685248
 let u3:=(z3+u2)/2251799813685248
 [z0%2251799813685248,(z1+u0)%2251799813685248,(z2+u1)%2251799813685248,(z3+u2)%2251799813685248,(z4+u3)%2251799813685248]
theorem iD {z0 z1 z2 z3 z4:Nat} (h0:z0<2251799813685248+19) (h1:z1<2251799813685248) (h2:z2<2251799813685248) (h3:z3<2251799813685248) (h4:z4<2251799813685248) :
  AA z0 z1 z2 z3 z4≤1∧P5 (z0+19*AA z0 z1 z2 z3 z4) z1 z2 z3 z4=dig (2^51) 5 (v51 [z0,z1,z2,z3,z4]%Go.Fp.P):=by
 have hc:AA z0 z1 z2 z3 z4≤1∧((AA z0 z1 z2 z3 z4=0∧v51 [z0,z1,z2,z3,z4]<Go.Fp.P)∨(AA z0 z1 z2 z3 z4=1∧Go.Fp.P≤v51 [z0,z1,z2,z3,z4])):=by
  simp only [AA,v51,num,Go.Fp.UQ]
  obtain ⟨r0,e0,-,l0⟩:=dm (z0+19) 2251799813685248
  generalize (z0+19)/2251799813685248=t0 at *
  obtain ⟨r1,e1,-,l1⟩:=dm (z1+t0) 2251799813685248
  generalize (z1+t0)/2251799813685248=t1 at *
  obtain ⟨r2,e2,-,l2⟩:=dm (z2+t1) 2251799813685248
  generalize (z2+t1)/2251799813685248=t2 at *
  obtain ⟨r3,e3,-,l3⟩:=dm (z3+t2) 2251799813685248
  generalize (z3+t2)/2251799813685248=t3 at *
  obtain ⟨r4,e4,-,l4⟩:=dm (z4+t3) 2251799813685248
  generalize (z4+t3)/2251799813685248=t4 at *
  have l0:=l0 (by decide)
  have l1:=l1 (by decide)
  have l2:=l2 (by decide)
  have l3:=l3 (by decide)
  have l4:=l4 (by decide)
  omega
 have hP:=Go.Fp.UQ
 obtain ⟨hc1,hc2⟩:=hc
 refine ⟨hc1,?_⟩
 generalize AA z0 z1 z2 z3 z4=c at *
 have hlt:∀ x∈P5 (z0+19*c) z1 z2 z3 z4,x<2251799813685248:=by
  intro x hx
  simp only [P5,J6,JI,or_false] at hx
  rcases hx with h | h | h | h | h<;>(rw [h]; exact Q4 _ (by decide))
 have hnum:num 2251799813685248 (P5 (z0+19*c) z1 z2 z3 z4)=v51 [z0,z1,z2,z3,z4]%Go.Fp.P:=by
  have hV:v51 [z0,z1,z2,z3,z4]%Go.Fp.P=v51 [z0,z1,z2,z3,z4]-c*Go.Fp.P:=by
   rcases hc2 with ⟨g1,g2⟩ | ⟨g1,g2⟩
   ·rw [QF g2,g1]; omega
   ·have g3:v51 [z0,z1,z2,z3,z4]<Go.Fp.P+Go.Fp.P:=by
     simp only [v51,num,Go.Fp.UQ] at *
     omega
    rw [g1,X9,Nat.mod_eq_sub_mod g2,QF (by omega)]
  rw [hV]
  simp only [P5,v51,num,Go.Fp.UQ] at hc2 ⊢
  obtain ⟨r0,e0,f0,l0⟩:=dm (z0+19*c) 2251799813685248
  rw [f0]
  generalize (z0+19*c)/2251799813685248=t0 at *
  obtain ⟨r1,e1,f1,l1⟩:=dm (z1+t0) 2251799813685248
  rw [f1]
  generalize (z1+t0)/2251799813685248=t1 at *
  obtain ⟨r2,e2,f2,l2⟩:=dm (z2+t1) 2251799813685248
  rw [f2]
  generalize (z2+t1)/2251799813685248=t2 at *
  obtain ⟨r3,e3,f3,l3⟩:=dm (z3+t2) 2251799813685248
  rw [f3]
  generalize (z3+t2)/2251799813685248=t3 at *
  obtain ⟨r4,e4,f4,l4⟩:=dm (z4+t3) 2251799813685248
  rw [f4]
  generalize (z4+t3)/2251799813685248=t4 at *
  have l0:=l0 (by decide)
  have l1:=l1 (by decide)
  have l2:=l2 (by decide)
  have l3:=l3 (by decide)
  have l4:=l4 (by decide)
  rcases hc2 with ⟨g1,g2⟩ | ⟨g1,g2⟩<;>subst g1<;>omega
 have h5:=WQ (B:=2251799813685248) (by decide) hlt
 rw [hnum] at h5
 exact h5.symm
def byX (V i:Nat):List Nat:=dig (2^8) 32 (V%2^i)
def Cy (x k:List Nat) (R:Ob) (i:Nat) (ex:Env):St:=⟨[(1,.pointer (some ⟨0,0,none⟩)),(2,.pointer (some ⟨1,0,none⟩)),(6,.pointer (some ⟨2,0,none⟩)),(54,.int .i64 i)]++ex,[⟨ns .u64 x,true,true,true,1⟩,R,⟨u8s k,true,true,true,1⟩],[]⟩
theorem dA (hi:i<255) :
  Q8 T 0 D1 (Cy (dig (2^51) 5 V) (byX V i) R i [])=some (.normal,Cy (dig (2^51) 5 V) (byX V (i+1)) R (i+1) []):=by
 obtain ⟨b,hb⟩:∃ b,(dig (2^51) 5 V)[i/51]?=some b:=⟨_,Qh (by rw [Zx]; omega)⟩
 have hbv:V/(2^51)^(i/51)%2^51=b:=by rw [Vx (by omega)] at hb; exact Xq hb
 have hbc:=Jo (k := .u64) hb
 have hlen:(byX V i).length=32:=Zx _ _ _
 obtain ⟨y,hy⟩:∃ b,(byX V i)[i/8]?=some b:=⟨_,Qh (by omega)⟩
 have hyc:=Jt hy
 have hy':y<2^8:=KV (by decide) (Qz hy)
 have hbit:b/2^(i%51)%2=V/2^i%2:=by
  rw [←hbv,NP (Q4 _ (by decide)),ZP]
 have hsm:(2:Nat)^(i%8)≤2^7:=Zp (by decide) (by have:=Q4 i (by decide:0<8); omega)
 have hbl:=RN V i
 have hprod:V/2^i%2*2^(i%8)≤1*2^7:=JH (by omega) hsm
 have hput:=Ms (w:=8) (m:=32) (q:=i/8) (s:=i%8) (y:=V/2^i%2) (M:=V%2^i) (by omega) (Q4 _ (by decide)) (by rw [ZP]; exact Q4 _ (JX (by decide))) (by omega)
 rw [ZP,FU] at hput
 have hgd:(dig (2^8) 32 (V%2^i)).getD (i/8) 0=y:=by rw [Qx]; unfold byX at hy; rw [hy]; rfl
 rw [hgd] at hput
 have hset:=XE (byX V i) (i/8) (y|||V/2^i%2*2^(i%8))
 rw [show (byX V i).set (i/8) (y|||V/2^i%2*2^(i%8))=byX V (i+1) from hput] at hset
 have s1:(2:Int)^min (i%8) IntKind.u8.bits=((2^(i%8):Nat):Int):=WC (Xi (Q4 _ (by decide)))
 have s2:(2:Int)^min (i%51) IntKind.u64.bits=((2^(i%51):Nat):Int):=WC (by have:=Q4 i (by decide:0<51); exact ZT (Xi this) (by decide))
 have o1:Zs .or .u8 (y:Int) ((V/2^i%2*2^(i%8):Nat):Int)=((y|||V/2^i%2*2^(i%8):Nat):Int):=KA rfl (by show _<256; omega) (by show _<256; omega)
 have n1:(V/2^i%2*2^(i%8))%256=V/2^i%2*2^(i%8):=by omega
 have n2:(V/2^i%2)%256=V/2^i%2:=by omega
 have w1:IntKind.i64.wrap ((i/51:Nat):Int)=((i/51:Nat):Int):=Jf (by omega)
 have w2:IntKind.i64.wrap ((i/8:Nat):Int)=((i/8:Nat):Int):=Jf (by omega)
 have w3:IntKind.i64.wrap ((i+1:Nat):Int)=((i+1:Nat):Int):=Jf (by omega)
 have e1:((i:Int)<255)=True:=eq_true (by omega)
 have e2:(((i/51:Nat):Int)<5)=True:=eq_true (by omega)
 have e3:(((i/8:Nat):Int)<32)=True:=eq_true (by omega)
 have e4:(((i%8:Nat):Int)<0)=False:=eq_false (by omega)
 have e5:(((i%51:Nat):Int)<0)=False:=eq_false (by omega)
 have e6:i/8+1≤32:=by omega
 simp only [Cy,D1,Q0,quiet,cF,Jw,ZA,↓pQ,reduceCtorEq,seval,-Qb,cL,cJ,cU,hbc,hyc,hbit,s1,s2,o1,n1,n2,w1,w2,w3,e1,e2,e3,e4,e5,e6,hset,Qp,hlen]
theorem PQ (hV:V<2^255):Q8 T 0 (.block 4 (.loop D1)) (Cy (dig (2^51) 5 V) (dig 256 32 0) R 0 [])=some (.normal,Cy (dig (2^51) 5 V) (dig 256 32 V) R 255 [(55,.bool false)]):=by
 have hb:=Xp (T:=T) (base:=0) (id:=4) (body:=D1) (fun i=>Cy (dig (2^51) 5 V) (byX V i) R i []) (s':=Cy (dig (2^51) 5 V) (byX V 255) R 255 [(55,.bool false)]) 255 (fun i hi=>dA hi) (by
  simp only [Cy,D1,Q0,quiet,cF,Jw,ZA,↓pQ,reduceCtorEq,seval,-Qb,cL])
 rw [show byX V 0=dig 256 32 0 from by unfold byX; rw [Xh,p8],show byX V 255=dig 256 32 V from by unfold byX; rw [QF hV]] at hb
 exact hb
theorem PO (h0:x0<9223372036854775808) (h1:x1<9223372036854775808) (h2:x2<9223372036854775808) (h3:x3<9223372036854775808) (h4:x4<9223372036854775808) :
  ZB T 126 [eV [x0,x1,x2,x3,x4]]=some (.agg (u8s (dig 256 32 (v51 [x0,x1,x2,x3,x4]%Go.Fp.P))).toArray):=by
 obtain ⟨y0,y1,y2,y3,y4,z0,z1,z2,z3,z4,hy,a0,a1,a2,a3,a4,hz,b0,b1,b2,b3,b4,⟨kk,hk⟩⟩:=PN h0 h1 h2 h3 h4
 have hV:v51 [x0,x1,x2,x3,x4]%Go.Fp.P=v51 [z0,z1,z2,z3,z4]%Go.Fp.P:=by rw [←hk,Vn]
 obtain ⟨hc,hfin⟩:=iD b0 b1 b2 b3 b4
 have c1:=Wy h0 h1 h2 h3 h4
 have c2:=Wy a0 a1 a2 a3 a4
 rw [hy] at c1
 rw [hz] at c2
 have hN:v51 [z0,z1,z2,z3,z4]%Go.Fp.P<2^255:=Kt (Q4 _ (by decide)) (by rw [Go.Fp.UQ]; decide)
 have hb:=PQ (R:=⟨u8s (dig 256 32 0),true,true,true,1⟩) hN
 rw [hV]
 generalize v51 [z0,z1,z2,z3,z4]%Go.Fp.P=N at *
 have hz5:Qc 5 (Value.int .u64 0)=[.int .u64 0,.int .u64 0,.int .u64 0,.int .u64 0,.int .u64 0]:=rfl
 have hz32:Qc 32 (Value.int .u8 0)=u8s (dig 256 32 0):=rfl
 have hr5:∀ a b c d e:Int,rf (.agg [.int .u64 a,.int .u64 b,.int .u64 c,.int .u64 d,.int .u64 e].toArray)=true:=fun _ _ _ _ _=>rfl
 have hlk:(dig 256 32 N).length=32:=Zx _ _ _
 have hl0:(dig 256 32 0).length=32:=rfl
 have f0:(z0+19)%18446744073709551616=z0+19:=by omega
 have f1:(z1+(z0+19)/2251799813685248)%18446744073709551616=z1+(z0+19)/2251799813685248:=by omega
 have f2:(z2+(z1+(z0+19)/2251799813685248)/2251799813685248)%18446744073709551616=z2+(z1+(z0+19)/2251799813685248)/2251799813685248:=by
  generalize (z1+(z0+19)/2251799813685248)=t at *; omega
 have f3:(z3+(z2+(z1+(z0+19)/2251799813685248)/2251799813685248)/2251799813685248)%18446744073709551616=z3+(z2+(z1+(z0+19)/2251799813685248)/2251799813685248)/2251799813685248:=by
  have:(z2+(z1+(z0+19)/2251799813685248)/2251799813685248)/2251799813685248<2251799813685248:=by omega
  generalize (z2+(z1+(z0+19)/2251799813685248)/2251799813685248)/2251799813685248=t at *; omega
 have f4:(z4+(z3+(z2+(z1+(z0+19)/2251799813685248)/2251799813685248)/2251799813685248)/2251799813685248)%18446744073709551616=z4+(z3+(z2+(z1+(z0+19)/2251799813685248)/2251799813685248)/2251799813685248)/2251799813685248:=by
  have:(z2+(z1+(z0+19)/2251799813685248)/2251799813685248)/2251799813685248<2251799813685248:=by omega
  generalize (z2+(z1+(z0+19)/2251799813685248)/2251799813685248)/2251799813685248=t at *; omega
 have ft:(z4+(z3+(z2+(z1+(z0+19)/2251799813685248)/2251799813685248)/2251799813685248)/2251799813685248)/2251799813685248=AA z0 z1 z2 z3 z4:=rfl
 generalize AA z0 z1 z2 z3 z4=c at *
 have g0:19*c%18446744073709551616=19*c:=by omega
 have g1:(z0+19*c)%18446744073709551616=z0+19*c:=by omega
 have g2:(z0+19*c+0)%18446744073709551616=z0+19*c:=by omega
 have k0:(z0+19*c)/2251799813685248<8:=by omega
 have g3:(z1+(z0+19*c)/2251799813685248)%18446744073709551616=z1+(z0+19*c)/2251799813685248:=by omega
 have k1:(z1+(z0+19*c)/2251799813685248)/2251799813685248<8:=by omega
 have g4:(z2+(z1+(z0+19*c)/2251799813685248)/2251799813685248)%18446744073709551616=z2+(z1+(z0+19*c)/2251799813685248)/2251799813685248:=by
  generalize (z1+(z0+19*c)/2251799813685248)/2251799813685248=t at *; omega
 have k2:(z2+(z1+(z0+19*c)/2251799813685248)/2251799813685248)/2251799813685248<8:=by
  generalize (z1+(z0+19*c)/2251799813685248)/2251799813685248=t at *; omega
 have g5:(z3+(z2+(z1+(z0+19*c)/2251799813685248)/2251799813685248)/2251799813685248)%18446744073709551616=z3+(z2+(z1+(z0+19*c)/2251799813685248)/2251799813685248)/2251799813685248:=by
  generalize (z2+(z1+(z0+19*c)/2251799813685248)/2251799813685248)/2251799813685248=t at *; omega
 have k3:(z3+(z2+(z1+(z0+19*c)/2251799813685248)/2251799813685248)/2251799813685248)/2251799813685248<8:=by
  generalize (z2+(z1+(z0+19*c)/2251799813685248)/2251799813685248)/2251799813685248=t at *; omega
 have g6:(z4+(z3+(z2+(z1+(z0+19*c)/2251799813685248)/2251799813685248)/2251799813685248)/2251799813685248)%18446744073709551616=z4+(z3+(z2+(z1+(z0+19*c)/2251799813685248)/2251799813685248)/2251799813685248)/2251799813685248:=by
  generalize (z3+(z2+(z1+(z0+19*c)/2251799813685248)/2251799813685248)/2251799813685248)/2251799813685248=t at *; omega
 rw [←hfin] at hb
 simp only [eV,YB,U1] at c1 c2 ⊢
 simp only [Cy,P5,YB,U1,Qw,Qr,Z1] at hb
 apply ZM (fn:=a57) rfl
 have u0:=fun s=>@J9 T 0 RX s
 have u1:=fun s=>@J9 T 0 RY s
 have v0:=fun s=>@Jr T 0 0 (.loop RX) s
 have v1:=fun s=>@Jr T 0 2 (.loop RY) s
 have d0:∀ s,Q8 T 0 RX s=Q8 T 0 _ s:=fun s=>congrArg (fun c=>Q8 T 0 c s) RX.eq_1
 have d1:∀ s,Q8 T 0 RY s=Q8 T 0 _ s:=fun s=>congrArg (fun c=>Q8 T 0 c s) RY.eq_1
 simp only [a57,Q0,quiet,cF,Jw,ZA,↓pQ,reduceCtorEq,seval,-Qb,cL,cJ,cU,hz5,hz32,c1,c2,hr5,u0,u1,v0,v1,d0,d1,f0,f1,f2,f3,f4,ft,g0,g1,g2,g3,g4,g5,g6,hb,Qp,hlk,hl0]
 rfl
theorem key_inj {a b:Nat} (ha:a<256^32) (hb:b<256^32):(dig 256 32 a==dig 256 32 b)=decide (a=b):=by
 by_cases h:a=b
 ·subst h; simp
 ·have:¬ dig 256 32 a=dig 256 32 b:=fun he=>h (by
   have h1:=congrArg (num 256) he
   rwa [XV (by decide),XV (by decide),QF ha,QF hb] at h1)
  rw [decide_eq_false h,beq_eq_false_iff_ne.2 this]
theorem P_lt:Go.Fp.P<256^32:=by rw [Go.Fp.UQ]; decide
theorem nH (l:List Nat):(fe l).val=v51 l%Go.Fp.P:=rfl
theorem Bi {l:List Nat} (h:El l (2^52)):ZB T 126 [eV l]=some (.agg (u8s (dig 256 32 (fe l).val)).toArray):=by
 obtain ⟨x0,x1,x2,x3,x4,rfl,a0,a1,a2,a3,a4⟩:=h.five
 exact PO (by omega) (by omega) (by omega) (by omega) (by omega)
theorem lJ (a:Go.Fp.Fe):a.val<256^32:=Kt a.isLt P_lt
theorem cZ (a b:Go.Fp.Fe):(dig 256 32 a.val==dig 256 32 b.val)=decide (a=b):=by
 rw [key_inj (lJ a) (lJ b)]
 by_cases h:a=b
 ·subst h; simp
 ·have:¬ a.val=b.val:=fun he=>h (Fin.ext he)
  rw [decide_eq_false h,decide_eq_false this]
theorem QY (l:List Nat):(eV l).cells.toList=ns .u64 l:=rfl
theorem Zf (l:List Nat):(eV l).cells.size=l.length:=QQ _ _
theorem ZY (l:List Nat):okVar (eV l)=true:=rfl
theorem Zg (l:List Nat):Value.agg (ns .u64 l).toArray=eV l:=rfl
theorem iI {x y:List Nat} (hx:El x (2^52)) (hy:El y (2^52)):ZB T 177 [eV x,eV y]=some (.bool (decide (fe x=fe y))):=by
 have h1:=Bi hx
 have h2:=Bi hy
 have l1:=hx.len
 have l2:=hy.len
 apply ZM (fn:=a55) rfl
 simp only [a55,Q0,quiet,cF,Jw,ZA,↓pQ,reduceCtorEq,seval,-Qb,cL,cJ,QY,Zf,ZY,Zg,QQ,l1,l2,h1,h2,Vj,Zx,cZ,Ja]
 rfl
theorem bV {x:List Nat} (hx:El x (2^52)):ZB T 114 [eV x]=some (.bool (decide (fe x=0))):=by
 have h1:=Bi hx
 have l1:=hx.len
 have f0:fillL (Qc 32 (Value.int .u8 0)) []=some (u8s (dig 256 32 (0:Go.Fp.Fe).val)):=rfl
 apply ZM (fn:=a63) rfl
 simp only [a63,Q0,quiet,cF,Jw,ZA,↓pQ,reduceCtorEq,seval,-Qb,cL,cJ,QY,Zf,ZY,Zg,QQ,l1,h1,f0,Vj,Zx,cZ,Ja]
 rfl
theorem bD {x:List Nat} (hx:El x (2^52)):ZB T 127 [eV x]=some (.bool (decide ((fe x).val%2=1))):=by
 have h1:=Bi hx
 have l1:=hx.len
 have h0:(u8s (dig 256 32 (fe x).val))[0]?=some (.int .u8 (((fe x).val%256:Nat):Int)):=by
  apply Jt
  rw [Vx (by decide),Xh,XL]
 have hm:(fe x).val%256%2=(fe x).val%2:=by omega
 have hd:((((fe x).val%2:Nat):Int)==1)=decide ((fe x).val%2=1):=by
  by_cases h:(fe x).val%2=1
  ·rw [h]; rfl
  ·have:¬ ((((fe x).val%2:Nat):Int)=1):=by omega
   rw [decide_eq_false h,beq_eq_false_iff_ne.2 this]
 apply ZM (fn:=a58) rfl
 simp only [a58,Q0,quiet,cF,Jw,ZA,↓pQ,reduceCtorEq,seval,-Qb,cL,cJ,cU,QY,Zf,ZY,Zg,QQ,l1,h1,h0,hm,hd,Qp,Zx,Ja]
 rfl
theorem FP {k:List Nat} (lk:k.length=32) (xk:∀ x∈k,x<256):ZB T 107 [.agg (u8s k).toArray]=some (.bool (decide (num 256 k<Go.Fp.P))):=by
 have h0:=bC lk xk
 have hel:=EI (V:=num 256 k%2^255)
 have h1:=Bi hel
 rw [nH,Ru] at h1
 have hb:(dig 256 32 (num 256 k%2^255%Go.Fp.P)==k)=decide (num 256 k<Go.Fp.P):=by
  have hk:=WQ (B:=256) (by decide) xk
  rw [lk] at hk
  have hkl:=num_lt xk
  rw [lk] at hkl
  rw [show (dig 256 32 (num 256 k%2^255%Go.Fp.P)==k)=(dig 256 32 (num 256 k%2^255%Go.Fp.P)==dig 256 32 (num 256 k)) from by rw [hk]]
  have hP:=Go.Fp.UQ
  rw [key_inj (Kt (Q4 _ (by rw [hP]; decide)) P_lt) hkl]
  by_cases h:num 256 k<Go.Fp.P
  ·rw [decide_eq_true h,QF (a:=num 256 k) (by rw [hP] at h; omega),QF h]; simp
  ·rw [decide_eq_false h,decide_eq_false]
   have:=Q4 (num 256 k%2^255) (show 0<Go.Fp.P by rw [hP]; decide)
   omega
 apply ZM (fn:=a59) rfl
 simp only [a59,Q0,quiet,cF,Jw,ZA,↓pQ,reduceCtorEq,seval,-Qb,cL,cJ,QY,Zf,ZY,Zg,QQ,Qp,lk,h0,h1,Vj,Zx,hb,Ja]
 rfl
theorem NM (h0:x0<2^60) (h1:x1<2^60) (h2:x2<2^60) (h3:x3<2^60) (h4:x4<2^60):El (Yu x0 x1 x2 x3 x4) (2^52):=by
 simp only [Yu]
 have c0:x0/2251799813685248<1024:=by omega
 have c1:(x1+x0/2251799813685248)/2251799813685248<1024:=by omega
 have c2:(x2+(x1+x0/2251799813685248)/2251799813685248)/2251799813685248<1024:=by omega
 have c3:(x3+(x2+(x1+x0/2251799813685248)/2251799813685248)/2251799813685248)/2251799813685248<1024:=by omega
 have c4:(x4+(x3+(x2+(x1+x0/2251799813685248)/2251799813685248)/2251799813685248)/2251799813685248)/2251799813685248<1024:=by omega
 have m0:=Q4 x0 (by decide:0<2251799813685248)
 apply El.mk5
 ·generalize (x4+(x3+(x2+(x1+x0/2251799813685248)/2251799813685248)/2251799813685248)/2251799813685248)/2251799813685248=c at *
  omega
 all_goals exact Kt (Q4 _ (by decide)) (by decide)
theorem NK:fe (Yu x0 x1 x2 x3 x4)=fe [x0,x1,x2,x3,x4]:=by
 obtain ⟨k,hk⟩:=GZ (x0:=x0) (x1:=x1) (x2:=x2) (x3:=x3) (x4:=x4)
 exact lD hk
theorem D8 {x y:List Nat} (hx:El x (2^52)) (hy:El y (2^52)):∃ r,ZB T 110 [eV x,eV y]=some (eV r)∧El r (2^52)∧fe r=fe x-fe y:=by
 obtain ⟨x0,x1,x2,x3,x4,rfl,a0,a1,a2,a3,a4⟩:=hx.five
 obtain ⟨y0,y1,y2,y3,y4,rfl,b0,b1,b2,b3,b4⟩:=hy.five
 refine ⟨Yu (x0+(9007199254740988-y0)-72) (x1+(9007199254740988-y1)) (x2+(9007199254740988-y2)) (x3+(9007199254740988-y3)) (x4+(9007199254740988-y4)),?_,NM (by omega) (by omega) (by omega) (by omega) (by omega),?_⟩
 ·have s0:(9007199254740988+(18446744073709551616-y0%18446744073709551616))%18446744073709551616=9007199254740988-y0:=by omega
  have s1:(9007199254740988+(18446744073709551616-y1%18446744073709551616))%18446744073709551616=9007199254740988-y1:=by omega
  have s2:(9007199254740988+(18446744073709551616-y2%18446744073709551616))%18446744073709551616=9007199254740988-y2:=by omega
  have s3:(9007199254740988+(18446744073709551616-y3%18446744073709551616))%18446744073709551616=9007199254740988-y3:=by omega
  have s4:(9007199254740988+(18446744073709551616-y4%18446744073709551616))%18446744073709551616=9007199254740988-y4:=by omega
  have t0:(x0+(9007199254740988-y0))%18446744073709551616=x0+(9007199254740988-y0):=by omega
  have t1:(x1+(9007199254740988-y1))%18446744073709551616=x1+(9007199254740988-y1):=by omega
  have t2:(x2+(9007199254740988-y2))%18446744073709551616=x2+(9007199254740988-y2):=by omega
  have t3:(x3+(9007199254740988-y3))%18446744073709551616=x3+(9007199254740988-y3):=by omega
  have t4:(x4+(9007199254740988-y4))%18446744073709551616=x4+(9007199254740988-y4):=by omega
  have r0:(x0+(9007199254740988-y0)+18446744073709551544)%18446744073709551616=x0+(9007199254740988-y0)-72:=by omega
  have c1:=Wy (x0:=x0+(9007199254740988-y0)-72) (x1:=x1+(9007199254740988-y1)) (x2:=x2+(9007199254740988-y2)) (x3:=x3+(9007199254740988-y3)) (x4:=x4+(9007199254740988-y4)) (by omega) (by omega) (by omega) (by omega) (by omega)
  have hl:(Yu (x0+(9007199254740988-y0)-72) (x1+(9007199254740988-y1)) (x2+(9007199254740988-y2)) (x3+(9007199254740988-y3)) (x4+(9007199254740988-y4))).length=5:=rfl
  generalize Yu (x0+(9007199254740988-y0)-72) (x1+(9007199254740988-y1)) (x2+(9007199254740988-y2)) (x3+(9007199254740988-y3)) (x4+(9007199254740988-y4))=C at *
  have hz5:Qc 5 (Value.int .u64 0)=[.int .u64 0,.int .u64 0,.int .u64 0,.int .u64 0,.int .u64 0]:=rfl
  have hr5:∀ a b c d e:Int,rf (.agg [.int .u64 a,.int .u64 b,.int .u64 c,.int .u64 d,.int .u64 e].toArray)=true:=fun _ _ _ _ _=>rfl
  have u0:=fun s=>@J9 T 0 RW s
  have v0:=fun s=>@Jr T 0 0 (.loop RW) s
  have d0:∀ s,Q8 T 0 RW s=Q8 T 0 _ s:=fun s=>congrArg (fun c=>Q8 T 0 c s) RW.eq_1
  have hrC:rf (.agg (ns .u64 C).toArray)=true:=Nf _ _
  simp only [eV,YB,U1] at c1 ⊢
  apply ZM (fn:=a61) rfl
  simp only [a61,Q0,quiet,cF,Jw,ZA,↓pQ,reduceCtorEq,seval,-Qb,cL,cJ,cU,hz5,c1,hr5,u0,v0,d0,s0,s1,s2,s3,s4,t0,t1,t2,t3,t4,r0,QQ,hl,hrC]
  rfl
 ·rw [NK]
  have e:v51 [x0+(9007199254740988-y0)-72,x1+(9007199254740988-y1),x2+(9007199254740988-y2),x3+(9007199254740988-y3),x4+(9007199254740988-y4)]+v51 [y0,y1,y2,y3,y4]=v51 [x0,x1,x2,x3,x4]+4*Go.Fp.P:=by
   simp only [v51,num,Go.Fp.UQ]
   omega
  have h:=congrArg Go.Fp.fp e
  rw [Go.Fp.Vi,Go.Fp.Vi,Go.Fp.NB] at h
  unfold fe
  grobner
theorem Aa {x:List Nat} (hx:El x (2^52)):∃ r,ZB T 115 [eV x]=some (eV r)∧El r (2^52)∧fe r = -fe x:=by
 have hz:=Gr (n:=0) (by decide)
 obtain ⟨r,h1,h2,h3⟩:=D8 hz hx
 refine ⟨r,?_,h2,?_⟩
 ·have f0:fillL (ns .u64 [0,0,0,0,0]) []=some (ns .u64 [0,0,0,0,0]):=rfl
  have hz5:Qc 5 (Value.int .u64 0)=ns .u64 [0,0,0,0,0]:=rfl
  have l1:=hx.len
  have l2:=h2.len
  have l0:(ns .u64 [0,0,0,0,0]).length=5:=rfl
  apply ZM (fn:=a64) rfl
  simp only [a64,Q0,quiet,cF,Jw,ZA,↓pQ,reduceCtorEq,seval,-Qb,cL,cJ,f0,hz5,h1,QY,Zf,ZY,Zg,QQ,l0,l1,l2,Ja]
  rfl
 ·rw [h3,Gq,Go.Fp.iC]; grobner
def Ix (x y:List Nat):Ob:=⟨ns .u64 (x++y),true,true,true,1⟩
set_option maxHeartbeats 2000000 in
theorem YK {H:List Ob} {id:Nat} {x y:List Nat} (hx:El x (2^52)) (hy:El y (2^52)) (h:H[id]?=some (Ix x y)):∃ r s,Zd T 112 [.slice (some ⟨id,0,none⟩) 2 2] H=some (eV r,H++[⟨ns .u64 r,true,true,true,1⟩,⟨ns .u64 s,true,true,true,1⟩,⟨ns .u64 x,true,true,true,1⟩,⟨ns .u64 y,true,true,true,1⟩],[])∧El r (2^52)∧fe r=fe x+fe y:=by
 have hid:id<H.length:=(Qf.1 h).1
 have hA:∀ l,(H++l)[id]?=some (Ix x y):=fun l=>by rw [Qa hid]; exact h
 obtain ⟨x0,x1,x2,x3,x4,rfl,a0,a1,a2,a3,a4⟩:=hx.five
 obtain ⟨y0,y1,y2,y3,y4,rfl,b0,b1,b2,b3,b4⟩:=hy.five
 refine ⟨Yu (x0+y0) (x1+y1) (x2+y2) (x3+y3) (x4+y4),[x0+y0,x1+y1,x2+y2,x3+y3,x4+y4],?_,NM (by omega) (by omega) (by omega) (by omega) (by omega),?_⟩
 ·have s0:(0+x0)%18446744073709551616=x0:=by omega
  have s1:(0+x1)%18446744073709551616=x1:=by omega
  have s2:(0+x2)%18446744073709551616=x2:=by omega
  have s3:(0+x3)%18446744073709551616=x3:=by omega
  have s4:(0+x4)%18446744073709551616=x4:=by omega
  have q0:x0%18446744073709551616=x0:=by omega
  have q1:x1%18446744073709551616=x1:=by omega
  have q2:x2%18446744073709551616=x2:=by omega
  have q3:x3%18446744073709551616=x3:=by omega
  have q4:x4%18446744073709551616=x4:=by omega
  have t0:(x0+y0)%18446744073709551616=x0+y0:=by omega
  have t1:(x1+y1)%18446744073709551616=x1+y1:=by omega
  have t2:(x2+y2)%18446744073709551616=x2+y2:=by omega
  have t3:(x3+y3)%18446744073709551616=x3+y3:=by omega
  have t4:(x4+y4)%18446744073709551616=x4+y4:=by omega
  have c1:=Wy (x0:=x0+y0) (x1:=x1+y1) (x2:=x2+y2) (x3:=x3+y3) (x4:=x4+y4) (by omega) (by omega) (by omega) (by omega) (by omega)
  have hl:(Yu (x0+y0) (x1+y1) (x2+y2) (x3+y3) (x4+y4)).length=5:=rfl
  generalize Yu (x0+y0) (x1+y1) (x2+y2) (x3+y3) (x4+y4)=C at *
  have hz5:Qc 5 (Value.int .u64 0)=[.int .u64 0,.int .u64 0,.int .u64 0,.int .u64 0,.int .u64 0]:=rfl
  have hr5:∀ a b c d e:Int,rf (.agg [.int .u64 a,.int .u64 b,.int .u64 c,.int .u64 d,.int .u64 e].toArray)=true:=fun _ _ _ _ _=>rfl
  have u0:=fun s=>@J9 T H.length RV s
  have v0:=fun s=>@Jr T H.length 2 (.loop RV) s
  have d0:∀ s,Q8 T H.length RV s=Q8 T H.length _ s:=fun s=>congrArg (fun c=>Q8 T H.length c s) RV.eq_1
  have u1:=fun s=>@J9 T H.length RU s
  have v1:=fun s=>@Jr T H.length 0 (.loop RU) s
  have d1:∀ s,Q8 T H.length RU s=Q8 T H.length _ s:=fun s=>congrArg (fun c=>Q8 T H.length c s) RU.eq_1
  have hrC:rf (.agg (ns .u64 C).toArray)=true:=Nf _ _
  have p1:∀ a b c d e f g i j k:Value,Q2 5 (Zw 0 [a,b,c,d,e,f,g,i,j,k])=[a,b,c,d,e]:=fun _ _ _ _ _ _ _ _ _ _=>rfl
  have p2:∀ a b c d e f g i j k:Value,Q2 5 (Zw 5 [a,b,c,d,e,f,g,i,j,k])=[f,g,i,j,k]:=fun _ _ _ _ _ _ _ _ _ _=>rfl
  simp only [eV,YB,U1] at c1 ⊢
  simp only [Ix,Qw,Qr,YB,U1] at hA h
  rw [QE (fn:=a62) rfl]
  simp only [a62,Int.reduceBEq,Int.reduceBNe,Q0,quiet,cF,Jw,ZA,↓pQ,reduceCtorEq,seval,-Qb,cL,cJ,cU,h,hA,hz5,c1,hr5,u0,v0,d0,u1,v1,d1,p1,p2,s0,s1,s2,s3,s4,q0,q1,q2,q3,q4,t0,t1,t2,t3,t4,QQ,hl,hrC]
 ·rw [NK]
  have e:v51 [x0+y0,x1+y1,x2+y2,x3+y3,x4+y4]=v51 [x0,x1,x2,x3,x4]+v51 [y0,y1,y2,y3,y4]:=by
   simp only [v51,num]
   omega
  unfold fe
  rw [e,Go.Fp.Vi]
end Go.Ev.YtomfgcgnepfmjaaGreat
namespace Go.Ev.YtomfgcgnepfmjaaGreat
open Go Go.Ev
attribute [local congr] Jq Jz Jp J2 Jb
set_option maxRecDepth 100000
variable {n i id less:Nat} {x o k:List Nat} {H:List Ob}
theorem part5 {a b c:List Nat} (hb:b.length=5) (ha:a.length=n):Q2 5 (Zw n (ns .u64 (a++(b++c))))=ns .u64 b:=by
 simp only [UZ]
 rw [ZL (by rw [QQ]; omega),Ju (by rw [QQ]; omega),Qr,ZZ (by rw [QQ]; omega),Qu (by rw [QQ]; omega)]
theorem Ox {l:List Ob} {r R:List Nat} {cs:List Value} {g:List Ob} (hi:i<n) (hn:n<100) (hx:El x (2^52)) (ho:El o (2^52)) (hm:ZB T 108 [eV o,eV x]=some (eV r)) (hr:El r (2^52))
 (hA:∀ l,(H++l)[id]?=some ⟨cs,true,true,true,1⟩) (hcs:(cs.drop (i*5)).take 5=ns .u64 x) (hlen:i*5+5≤cs.length) :
    Q8 T H.length RT ⟨[(2,.pointer (some ⟨H.length,0,none⟩)),(3,.pointer (some ⟨H.length+1,0,none⟩)),(7,.slice (some ⟨id,0,none⟩) n n),(8,.int .i64 n),(9,.int .i64 i)],H++(⟨ns .u64 R,true,true,true,1⟩::⟨ns .u64 o,true,true,true,1⟩::g),[]⟩ =
      some (.normal,⟨[(2,.pointer (some ⟨H.length,0,none⟩)),(3,.pointer (some ⟨H.length+1,0,none⟩)),(7,.slice (some ⟨id,0,none⟩) n n),(8,.int .i64 n),(9,.int .i64 ((i+1:Nat):Int))],H++(⟨ns .u64 R,true,true,true,1⟩::⟨ns .u64 r,true,true,true,1⟩::(g++[⟨ns .u64 x,true,true,true,1⟩])),[]⟩):=by
  have hz5:Qc 5 (Value.int .u64 0)=ns .u64 [0,0,0,0,0]:=rfl
  have l0:(ns .u64 [0,0,0,0,0]).length=5:=rfl
  have l1:=hx.len
  have l2:=ho.len
  have l3:=hr.len
  have e1:((i:Int)<(n:Int))=True:=eq_true (by omega)
  have w3:IntKind.i64.wrap ((i:Int)+1)=((i+1:Nat):Int):=Jf (n:=i+1) (by omega)
  simp only [RT,Q0,quiet,cF,Jw,ZA,↓pQ,reduceCtorEq,seval,-Qb,cL,cJ,Zi,hz5,hA,hcs,hlen,hm,QY,Zf,ZY,Zg,QQ,l0,l1,l2,l3,Ja,e1,w3]
theorem Dj:fe [1,0,0,0,0]=1:=by rw [Gq]; rfl
theorem Dk:El [1,0,0,0,0] (2^52):=Gr (by decide)
theorem WB {xs:List (List Nat)} (hn:xs.length=n) (hN:n<100) (hx:∀ x∈xs,El x (2^52)) (h:H[id]?=some ⟨ns .u64 xs.flatten,true,true,true,1⟩) :
  ∃ r,Zd T 174 [.slice (some ⟨id,0,none⟩) n n] H=some (eV r,H++(⟨ns .u64 r,true,true,true,1⟩::⟨ns .u64 r,true,true,true,1⟩::xs.map fun x=>(⟨ns .u64 x,true,true,true,1⟩:Ob)),[])∧El r (2^52)∧fe r=(xs.map fe).foldl (· * ·) 1:=by
 have hid:id<H.length:=(Qf.1 h).1
 have hA:∀ l,(H++l)[id]?=some ⟨ns .u64 xs.flatten,true,true,true,1⟩:=fun l=>by rw [Qa hid]; exact h
 have hfl:∀ (ys:List (List Nat)),(∀ x∈ys,El x (2^52))→ys.flatten.length=ys.length*5:=by
  intro ys hy
  induction ys with
  | nil=>rfl
  | cons y ys ih =>
   rw [QK,Qg,ih (fun x hx=>hy x (by simp [hx])),(hy y (by simp)).len,Zn]; omega
 obtain ⟨st,hb,r,rfl,hr1,hr2⟩:=Zc (T:=T) (base:=H.length) (id:=0) (body:=RT)
  (fun i st=>∃ r:List Nat,st=⟨[(2,.pointer (some ⟨H.length,0,none⟩)),(3,.pointer (some ⟨H.length+1,0,none⟩)),(7,.slice (some ⟨id,0,none⟩) n n),(8,.int .i64 n),(9,.int .i64 (i:Nat))],H++(⟨ns .u64 [0,0,0,0,0],true,true,true,1⟩::⟨ns .u64 r,true,true,true,1⟩::((xs.take i).map fun x=>(⟨ns .u64 x,true,true,true,1⟩:Ob))),[]⟩∧El r (2^52)∧fe r=((xs.take i).map fe).foldl (· * ·) 1)
  (Q:=fun st=>∃ r:List Nat,st=⟨[(2,.pointer (some ⟨H.length,0,none⟩)),(3,.pointer (some ⟨H.length+1,0,none⟩)),(7,.slice (some ⟨id,0,none⟩) n n),(8,.int .i64 n),(9,.int .i64 n),(10,.bool false)],H++(⟨ns .u64 [0,0,0,0,0],true,true,true,1⟩::⟨ns .u64 r,true,true,true,1⟩::(xs.map fun x=>(⟨ns .u64 x,true,true,true,1⟩:Ob))),[]⟩∧El r (2^52)∧fe r=(xs.map fe).foldl (· * ·) 1)
  n (s:=⟨[(2,.pointer (some ⟨H.length,0,none⟩)),(3,.pointer (some ⟨H.length+1,0,none⟩)),(7,.slice (some ⟨id,0,none⟩) n n),(8,.int .i64 n),(9,.int .i64 0)],H++[⟨ns .u64 [0,0,0,0,0],true,true,true,1⟩,⟨ns .u64 [1,0,0,0,0],true,true,true,1⟩],[]⟩) ⟨[1,0,0,0,0],rfl,Dk,Dj⟩
  (fun i st hi hs=>by
   obtain ⟨r,rfl,hr1,hr2⟩:=hs
   obtain ⟨x,hxi⟩:∃ y,xs[i]?=some y:=⟨_,Qh (by omega)⟩
   have hxe:=hx x (Qz hxi)
   obtain ⟨r',hm,g1,g2⟩:=Xv hr1 hxe
   have hsplit:xs=xs.take i++x::xs.drop (i+1):=by
    have h1:=Qf.1 hxi
    conv=>lhs; rw [←ZV i xs,JN h1.1,h1.2]
   have htl:(xs.take i).flatten.length=i*5:=by
    rw [hfl _ (fun y hy=>hx y (QP hy)),Q7,Ze (by omega)]
   have hcs:((ns .u64 xs.flatten).drop (i*5)).take 5=ns .u64 x:=by
    conv=>lhs; rw [hsplit,Zr,QK]
    exact part5 hxe.len htl
   have hb:=Ox (R:=[0,0,0,0,0]) (g:=(xs.take i).map fun x=>(⟨ns .u64 x,true,true,true,1⟩:Ob)) (l:=[]) hi hN hxe hr1 hm g1 hA hcs (by rw [QQ,hfl xs hx,hn]; omega)
   have htk:xs.take (i+1)=xs.take i++[x]:=by rw [ZG,hxi]; rfl
   refine ⟨_,hb,r',?_,g1,?_⟩
   ·rw [htk,JS]; rfl
   ·rw [htk,JS,List.foldl_append,←hr2,g2]; rfl)
  (fun st hs=>by
   obtain ⟨r,rfl,hr1,hr2⟩:=hs
   have e1:((n:Int)<(n:Int))=False:=eq_false (by omega)
   have ht:xs.take n=xs:=Qu (by omega)
   rw [ht] at hr2 ⊢
   refine ⟨_,?_,r,rfl,hr1,hr2⟩
   simp only [RT,Q0,quiet,cF,Jw,ZA,↓pQ,reduceCtorEq,seval,-Qb,cL,e1])
 refine ⟨r,?_,hr1,hr2⟩
 have hz5:Qc 5 (Value.int .u64 0)=ns .u64 [0,0,0,0,0]:=rfl
 have l0:(ns .u64 [0,0,0,0,0]).length=5:=rfl
 have l1:=hr1.len
 have hs:=Mj (n:=1) (by decide)
 have l2:([1,0,0,0,0]:List Nat).length=5:=rfl
 simp only [LN] at hs
 rw [QE (fn:=a82) rfl]
 simp only [a82,Q0,quiet,cF,Jw,ZA,↓pQ,reduceCtorEq,seval,-Qb,cL,cJ,Zi,hz5,hs,hb,QY,Zf,ZY,Zg,QQ,l0,l1,l2,Ja]
def pwI (x k o:List Nat) (i:Int) (ex:Env):St:=⟨[(2,.pointer (some ⟨0,0,none⟩)),(3,.pointer (some ⟨1,0,none⟩)),(4,.pointer (some ⟨2,0,none⟩)),(5,.pointer (some ⟨3,0,none⟩)),(6,.int .i64 i)]++ex,[⟨ns .u64 x,true,true,true,1⟩,⟨u8s k,true,true,true,1⟩,⟨ns .u64 [0,0,0,0,0],true,true,true,1⟩,⟨ns .u64 o,true,true,true,1⟩],[]⟩
theorem aK (a:Go.Fp.Fe) (m b:Nat) (hb:b<2):Go.Fp.pow a (2*m+b)=if b=1 then Go.Fp.pow a m*Go.Fp.pow a m*a else Go.Fp.pow a m*Go.Fp.pow a m:=by
 have h1:Go.Fp.pow a (2*m)=Go.Fp.pow a m*Go.Fp.pow a m:=by rw [show 2*m=m+m by omega,Go.Fp.pow_add]
 by_cases h:b=1
 ·subst h
  rw [if_pos rfl,Go.Fp.pow,h1]
 ·have:b=0:=by omega
  subst this
  rw [if_neg (by decide),ZH,h1]
theorem fF {ex:Env} (hx:El x (2^52)) (lk:k.length=32) (xk:∀ x∈k,x<256) (hi:i<256) (ho:El o (2^52)) (hp:fe o=Go.Fp.pow (fe x) (num 256 k/2^(i+1))) :
  ∃ r,Q8 T 0 D0 (pwI x k o i ex)=some (.normal,pwI x k r ((i:Int)-1) [])∧El r (2^52)∧fe r=Go.Fp.pow (fe x) (num 256 k/2^i):=by
 obtain ⟨b,hb⟩:∃ b,k[i/8]?=some b:=⟨_,Qh (by omega)⟩
 have hbv:=VS (B:=256) (by decide) xk hb
 have hbc:=Jt hb
 have hbit:b/2^(i%8)%2=num 256 k/2^i%2:=by
  rw [←hbv,show (256:Nat)=2^8 from rfl,NP (Q4 _ (by decide)),ZP]
 obtain ⟨r1,m1,g1,g2⟩:=Xv ho ho
 obtain ⟨r2,m2,g3,g4⟩:=Xv g1 hx
 have hlt:=RN (num 256 k) i
 have hnum:num 256 k/2^i=2*(num 256 k/2^(i+1))+num 256 k/2^i%2:=by
  rw [Z4,←Jm]
  omega
 have hstep:=aK (fe x) (num 256 k/2^(i+1)) (num 256 k/2^i%2) hlt
 rw [←hnum,←hp] at hstep
 have s1:(2:Int)^min (i%8) IntKind.u8.bits=((2^(i%8):Nat):Int):=WC (Xi (Q4 _ (by decide)))
 have w2:IntKind.i64.wrap ((i/8:Nat):Int)=((i/8:Nat):Int):=Jf (by omega)
 have w3:IntKind.i64.wrap ((i:Int)-1)=(i:Int)-1:=ZE (by omega) (by omega)
 have e1:((0:Int)≤(i:Int))=True:=eq_true (by omega)
 have e3:(((i/8:Nat):Int)<32)=True:=eq_true (by omega)
 have e4:(((i%8:Nat):Int)<0)=False:=eq_false (by omega)
 have l1:=hx.len
 have l2:=ho.len
 have l3:=g1.len
 have l4:=g3.len
 have l0:([0,0,0,0,0]:List Nat).length=5:=rfl
 generalize hB:num 256 k/2^i%2=B at *
 by_cases hB1:B=1
 ·have hbq:((B:Int)==1)=true:=by rw [hB1]; rfl
  rw [if_pos hB1] at hstep
  refine ⟨r2,?_,g3,by rw [hstep,g4,g2]⟩
  simp only [pwI,D0,Q0,quiet,cF,Jw,ZA,↓pQ,reduceCtorEq,seval,-Qb,cL,cJ,cU,hbc,hbit,s1,w2,w3,e1,e3,e4,m1,m2,hbq,QY,Zf,ZY,Zg,QQ,l1,l2,l3,l4,Ja]
 ·have hbq:((B:Int)==1)=false:=by
   have:B=0:=by omega
   rw [this]; rfl
  rw [if_neg hB1] at hstep
  refine ⟨r1,?_,g1,by rw [hstep,g2]⟩
  simp only [pwI,D0,Q0,quiet,cF,Jw,ZA,↓pQ,reduceCtorEq,seval,-Qb,cL,cJ,cU,hbc,hbit,s1,w2,w3,e1,e3,e4,m1,m2,hbq,QY,Zf,ZY,Zg,QQ,l1,l2,l3,l4,Ja]
theorem fJ (hx:El x (2^52)) (lk:k.length=32) (xk:∀ x∈k,x<256):∃ r,ZB T 175 [eV x,.agg (u8s k).toArray]=some (eV r)∧El r (2^52)∧fe r=Go.Fp.pow (fe x) (num 256 k):=by
 have hK:=num_lt xk
 rw [lk,show (256:Nat)^32=2^256 from by rw [show (256:Nat)=2^8 from rfl,←Jj]] at hK
 obtain ⟨st,hb,r,rfl,hr1,hr2⟩:=Zc (T:=T) (base:=0) (id:=0) (body:=D0)
  (fun j st=>∃ r:List Nat,st=pwI x k r ((255:Int)-j) []∧El r (2^52)∧fe r=Go.Fp.pow (fe x) (num 256 k/2^(256-j)))
  (Q:=fun st=>∃ r:List Nat,st=pwI x k r (-1) [(9,.bool false)]∧El r (2^52)∧fe r=Go.Fp.pow (fe x) (num 256 k))
  256 (s:=pwI x k [1,0,0,0,0] 255 []) ⟨_,rfl,Dk,by rw [Dj,HK,Xw hK]; rfl⟩
  (fun j st hj hs=>by
   obtain ⟨r,rfl,h1,h2⟩:=hs
   obtain ⟨i,hi⟩:∃ i,256-j=i+1:=⟨255-j,by omega⟩
   rw [hi] at h2
   obtain ⟨r',g1,g2,g3⟩:=fF (ex:=[]) hx lk xk (i:=i) (by omega) h1 h2
   rw [show (255:Int)-j=(i:Int) by omega]
   refine ⟨_,g1,r',?_,g2,?_⟩
   ·rw [show (255:Int)-((j+1:Nat):Int)=(i:Int)-1 by omega]
   ·rw [show 256-(j+1)=i by omega]; exact g3)
  (fun st hs=>by
   obtain ⟨r,rfl,h1,h2⟩:=hs
   rw [Qq,Xh,XL] at h2
   have e:((0:Int) ≤ -1)=False:=by decide
   refine ⟨_,?_,r,rfl,h1,h2⟩
   rw [show (255:Int)-((256:Nat):Int) = -1 by omega]
   simp only [pwI,D0,Q0,quiet,cF,Jw,ZA,↓pQ,reduceCtorEq,seval,-Qb,cL,e])
 refine ⟨r,?_,hr1,hr2⟩
 have hz5:Qc 5 (Value.int .u64 0)=ns .u64 [0,0,0,0,0]:=rfl
 have hs:=Mj (n:=1) (by decide)
 have l2:([1,0,0,0,0]:List Nat).length=5:=rfl
 have l0:([0,0,0,0,0]:List Nat).length=5:=rfl
 have l1:=hx.len
 have l3:=hr1.len
 simp only [LN] at hs
 simp only [pwI,Qw,Qr] at hb
 apply ZM (fn:=a83) rfl
 simp only [a83,Q0,quiet,cF,Jw,ZA,↓pQ,reduceCtorEq,seval,-Qb,cL,cJ,hz5,hs,hb,pwI,QY,Zf,ZY,Zg,QQ,l0,l1,l2,l3,Ja]
 rfl
def onX (i:Nat):List Nat:=dig (2^8) 32 (2^i-1)
def onI (less:Value) (n:Int) (k:List Nat) (i:Nat) (ex:Env):St:=⟨[(1,less),(4,.pointer (some ⟨0,0,none⟩)),(5,.pointer (some ⟨1,0,none⟩)),(7,.int .i64 n),(8,.int .i64 i)]++ex,[⟨u8s (dig 256 32 0),true,true,true,1⟩,⟨u8s k,true,true,true,1⟩],[]⟩
theorem gj {less:Value} (hn:n≤256) (hi:i<n):Q8 T 0 RS (onI less n (onX i) i [])=some (.normal,onI less n (onX (i+1)) (i+1) []):=by
 have hlen:(onX i).length=32:=Zx _ _ _
 obtain ⟨y,hy⟩:∃ b,(onX i)[i/8]?=some b:=⟨_,Qh (by omega)⟩
 have hyc:=Jt hy
 have hy':y<2^8:=KV (by decide) (Qz hy)
 have hsm:(2:Nat)^(i%8)≤2^7:=Zp (by decide) (by have:=Q4 i (by decide:0<8); omega)
 have hp:0<(2:Nat)^i:=JX (by decide)
 have hput:=Ms (w:=8) (m:=32) (q:=i/8) (s:=i%8) (y:=1) (M:=2^i-1) (by omega) (Q4 _ (by decide)) (by rw [ZP]; omega) (by omega)
 rw [ZP,show 2^i-1+1*2^i=2^(i+1)-1 by rw [Z4]; omega] at hput
 have hgd:(dig (2^8) 32 (2^i-1)).getD (i/8) 0=y:=by rw [Qx]; unfold onX at hy; rw [hy]; rfl
 rw [hgd,X9] at hput
 have hset:=XE (onX i) (i/8) (y|||2^(i%8))
 rw [show (onX i).set (i/8) (y|||2^(i%8))=onX (i+1) from hput] at hset
 have s1:(2:Int)^min (i%8) IntKind.u8.bits=((2^(i%8):Nat):Int):=WC (Xi (Q4 _ (by decide)))
 have o1:Zs .or .u8 (y:Int) ((2^(i%8):Nat):Int)=((y|||2^(i%8):Nat):Int):=KA rfl (by show _<256; omega) (by show _<256; omega)
 have n1:(2^(i%8))%256=2^(i%8):=QF (J4 hsm (by decide))
 have w2:IntKind.i64.wrap ((i/8:Nat):Int)=((i/8:Nat):Int):=Jf (by omega)
 have w3:IntKind.i64.wrap ((i+1:Nat):Int)=((i+1:Nat):Int):=Jf (by omega)
 have e1:((i:Int)<(n:Int))=True:=eq_true (by omega)
 have e3:(((i/8:Nat):Int)<32)=True:=eq_true (by omega)
 have e4:(((i%8:Nat):Int)<0)=False:=eq_false (by omega)
 have e6:i/8+1≤32:=by omega
 have p1:1*2^(i%8)=2^(i%8):=X9 _
 simp only [onI,RS,Q0,quiet,cF,Jw,ZA,↓pQ,reduceCtorEq,seval,-Qb,cL,cJ,cU,hyc,s1,o1,n1,w2,w3,e1,e3,e4,e6,p1,hset,Qp,hlen]
theorem IM (hn:n≤256) (h8:8≤n) (hl:less<256):ZB T 176 [.int .i64 n,.int .u8 less]=some (.agg (u8s (dig 256 32 (2^n-1-less))).toArray):=by
 have hb:=Xp (T:=T) (base:=0) (id:=0) (body:=RS) (fun i=>onI (.int .u8 less) n (onX i) i []) (s':=onI (.int .u8 less) n (onX n) n [(9,.bool false)]) n (fun i hi=>gj hn hi) (by
  have e1:((n:Int)<(n:Int))=False:=eq_false (by omega)
  simp only [onI,RS,Q0,quiet,cF,Jw,ZA,↓pQ,reduceCtorEq,seval,-Qb,cL,e1])
 rw [show onX 0=dig 256 32 0 from rfl] at hb
 have hp8:(256:Nat)≤2^n:=by
  have:=Zp (n:=2) (by decide) h8
  exact this
 have hmod:2^n%256=0:=by
  rw [show n=8+(n-8) by omega,JD]; exact Nat.mul_mod_right _ _
 have h0:(onX n)[0]?=some 255:=by
  unfold onX
  rw [Vx (by decide),Xh,XL]
  congr 1
  omega
 have h0c:=Jt h0
 have w0:IntKind.u8.wrap (255-(less:Int))=((255-less:Nat):Int):=by rw [wrap_u8]; omega
 have hset:=XE (onX n) 0 (255-less)
 have hfin:(onX n).set 0 (255-less)=dig 256 32 (2^n-1-less):=by
  apply Bf (by rw [Qo]; exact Zx _ _ _)
  intro t ht
  by_cases h0t:t=0
  ·subst h0t
   rw [Qt (by rw [show (onX n).length=32 from Zx _ _ _]; decide),Xh,XL]
   congr 1
   omega
  ·rw [Qm (Ne.symm h0t)]
   unfold onX
   rw [Vx ht]
   congr 2
   obtain ⟨m,rfl⟩:∃ m,t=m+1:=⟨t-1,by omega⟩
   rw [show (2:Nat)^8=256 from rfl,Z4,Z2,←Jm,←Jm]
   congr 1
   omega
 rw [hfin] at hset
 simp only [Un] at h0c
 have l1:(dig 256 32 (2^n-1-less)).length=32:=Zx _ _ _
 have l2:(onX n).length=32:=Zx _ _ _
 have l3:(dig 256 32 0).length=32:=rfl
 have hz32:Qc 32 (Value.int .u8 0)=u8s (dig 256 32 0):=rfl
 simp only [onI,Qw,Qr,Z1] at hb
 apply ZM (fn:=a84) rfl
 simp only [a84,Q0,quiet,cF,Jw,ZA,↓pQ,reduceCtorEq,seval,-Qb,cL,cJ,hz32,hb,onI,h0c,w0,hset,Qp,l1,l2,l3]
 rfl
theorem UG {v:Nat}:∀ x∈dig 256 32 v,x<256:=fun _ h=>KV (by decide) h
theorem Ga (hx:El x (2^52)) (hn:n≤256) (h8:8≤n) (hl:less<256):∃ r,ZB T 175 [eV x,.agg (u8s (dig 256 32 (2^n-1-less))).toArray]=some (eV r)∧El r (2^52)∧fe r=Go.Fp.pow (fe x) (2^n-1-less):=by
 obtain ⟨r,h1,h2,h3⟩:=fJ (k:=dig 256 32 (2^n-1-less)) hx (Zx _ _ _) UG
 refine ⟨r,h1,h2,?_⟩
 rw [h3,XV (by decide),QF]
 have h4:(2:Nat)^n≤256^32:=by
  rw [show (256:Nat)^32=2^256 from by rw [show (256:Nat)=2^8 from rfl,←Jj]]
  exact Zp (by decide) hn
 have:0<(2:Nat)^n:=JX (by decide)
 omega
theorem bW (hx:El x (2^52)):∃ r,ZB T 125 [eV x]=some (eV r)∧El r (2^52)∧fe r=Go.Fp.iv (fe x):=by
 have h1:=IM (n:=255) (less:=20) (by decide) (by decide) (by decide)
 obtain ⟨r,h2,h3,h4⟩:=Ga (n:=255) (less:=20) hx (by decide) (by decide) (by decide)
 refine ⟨r,?_,h3,?_⟩
 ·have hz5:Qc 5 (Value.int .u64 0)=ns .u64 [0,0,0,0,0]:=rfl
  have l0:([0,0,0,0,0]:List Nat).length=5:=rfl
  have l1:=hx.len
  have l2:=h3.len
  simp only [Un] at h1
  generalize dig 256 32 (2^255-1-20)=K at *
  apply ZM (fn:=a56) rfl
  simp only [a56,Q0,quiet,cF,Jw,ZA,↓pQ,reduceCtorEq,seval,-Qb,cL,cJ,hz5,h1,h2,QY,Zf,ZY,Zg,QQ,l0,l1,l2,Ja]
  rfl
 ·rw [h4]
  unfold Go.Fp.iv
  rw [Go.Fp.UQ]
end Go.Ev.YtomfgcgnepfmjaaGreat
namespace Go.Ev
section
variable {T:Tab} {b:Nat}
theorem WN:∀ (o1 o2:List AOper) (s:St) (recs:List Rec),evOps T b (o1++o2) s recs=(evOps T b o1 s recs).bind fun r=>evOps T b o2 r.1 r.2
 | [],o2,s,recs=>by rw [Ws]; rfl
 | o::o1,o2,s,recs=>by
  rw [Qw,Kr,Kr]
  cases hg:guardOf s.env o.guard with
  | none=>rfl
  | some g =>
   cases g with
   | false=>exact WN o1 o2 _ _
   | true =>
    cases hx:Jd T o.op s.env s.h with
    | none=>simp [hx]
    | some x =>
     simp only [hx,Qj]
     exact WN o1 o2 _ _
theorem WM:∀ (ops:List AOper) (s:St) (recs:List Rec) (s':St),steps T b false ops s=some s'→∃ m,evOps T b ops s recs=some (s',recs++m)
 | [],s,recs,s',h=>by
  simp only [steps,Ql] at h
  subst h
  exact ⟨[],by rw [Ws,Q9]⟩
 | o::r,s,recs,s',h=>by
  rw [Kr]
  unfold steps at h
  cases hg:guardOf s.env o.guard with
  | none=>simp only [hg] at h; cases h
  | some g =>
   simp only [hg] at h
   cases g with
   | false =>
    obtain ⟨m,h1⟩:=WM r _ (recs++[(some [],[])]) s' h
    exact ⟨(some [],[])::m,by rw [h1]; simp⟩
   | true =>
    cases hx:Jd T o.op s.env s.h with
    | none=>simp [hx] at h
    | some x =>
     simp only [hx,Qj,Bool.false_and,Zh,if_false] at h
     obtain ⟨m,h1⟩:=WM r _ (recs++[(x.2.2.1,x.2.2.2)]) s' h
     exact ⟨(x.2.2.1,x.2.2.2)::m,by simp only [hx,Qj]; rw [h1]; simp⟩
theorem DD {r1 r2:List Rec}:∀ {pairs:List (Nat×Nat)},(pairs.all fun p=>decide (p.1<r1.length)&&decide (p.2<r1.length))=true→Z6 r1 pairs=true→Z6 (r1++r2) pairs=true
 | [],_,_=>rfl
 | (i,j)::ps,h,k=>by
  simp only [KY,ZS,decide_eq_true_eq] at h
  simp only [Z6,KY,ZS] at k ⊢
  have ih:=DD (r1:=r1) (r2:=r2) (pairs:=ps) h.2 k.2
  simp only [Z6] at ih
  refine ⟨?_,ih⟩
  rw [Qa h.1.1,Qa h.1.2]
  exact k.1
def KK:List (Nat×Nat)→Nat
 | []=>0
 | (_,j)::r=>if j+1≤KK r then KK r else j+1
theorem Lh:KK []=0:=rfl
theorem EW {i j:Nat} {r:List (Nat×Nat)}:KK ((i,j)::r)=if j+1≤KK r then KK r else j+1:=rfl
def AM (T:Tab) (b:Nat) (ops:List AOper) (pairs:List (Nat×Nat)) (s:St):Option St :=
 gate ((pairs.all fun p=>decide (p.1<KK pairs)&&decide (p.2<KK pairs))=true∧KK pairs≤ops.length)
  ((steps T b true (ops.take (KK pairs)) s).bind fun s1=>steps T b false (ops.drop (KK pairs)) s1)
theorem Ow {ops:List AOper} {pairs:List (Nat×Nat)} {s:St}:AM T b ops pairs s=gate ((pairs.all fun p=>decide (p.1<KK pairs)&&decide (p.2<KK pairs))=true∧KK pairs≤ops.length)
  ((steps T b true (ops.take (KK pairs)) s).bind fun s1=>steps T b false (ops.drop (KK pairs)) s1):=Eq.trans rfl rfl
theorem Lt {ops:List AOper} {keep:Option (List Nat)} {p:Nat×Nat} {ps:List (Nat×Nat)} {s:St}:Q8 T b (.region ops keep (p::ps)) s=DC ((AM T b ops (p::ps) s).bind fun s'=>some (.normal,s'.after keep)) (Ch T b (.region ops keep (p::ps)) s):=by
 cases hq:AM T b ops (p::ps) s with
 | none=>rfl
 | some s' =>
  simp only [Qj,DC]
  unfold AM gate at hq
  split at hq
  ·rename_i hp
   simp only [Option.bind_eq_some_iff] at hq
   obtain ⟨s1,k1,k2⟩:=hq
   obtain ⟨recs,h1,h2,h3⟩:=YE _ s [] s1 k1 (by simp)
   obtain ⟨m,h4⟩:=WM _ s1 recs s' k2
   simp only [Z3,QB,Q7,Ze hp.2] at h3
   rw [Vc]
   conv=>lhs; rw [←ZV (KK (p::ps)) ops]
   rw [WN,h1]
   simp only [Qj,h4]
   have hpk:=hp.1
   rw [←h3] at hpk
   rw [if_pos (DD hpk (YT h2 hpk))]
  ·cases hq
end
theorem HY {T:Tab} {b:Nat} {q:Bool}:∀ (o1 o2:List AOper) (s:St),steps T b q (o1++o2) s=(steps T b q o1 s).bind (steps T b q o2)
 | [],o2,s=>rfl
 | o::o1,o2,s=>by
  rw [Qw]
  unfold steps
  cases hg:guardOf s.env o.guard with
  | none=>rfl
  | some g =>
   cases g with
   | true =>
    simp only
    cases hx:Jd T o.op s.env s.h with
    | none=>rfl
    | some x =>
     simp only [Qj]
     split
     ·rfl
     ·exact HY o1 o2 _
   | false=>exact HY o1 o2 _
theorem Us {T:Tab} {b:Nat} {q:Bool} {a1 a2 a3 a4 a5 a6 a7:AOper} {r:List AOper} {s:St}:steps T b q (a1::a2::a3::a4::a5::a6::a7::r) s=(steps T b q [a1,a2,a3,a4,a5,a6] s).bind fun s'=>steps T b q (a7::r) s':=by
 rw [←HY]; rfl
def cK:=Qi cF (Qi (@Jw) (Qi (@Lt) (Qi (@Ow) (Qi (@Lh) (Qi (@EW) (Qi (@List.take_succ_cons.{0}) (Qi (@Xc.{0}) (Qi (@List.drop_succ_cons.{0}) (@List.drop_zero.{0})))))))))
def cW:=Qi cK (Qi cL cJ)
def pW:=Qi pQ (@Us)
end Go.Ev
namespace Go.Ev.YtomfgcgnepfmjaaGreat
open Go Go.Ev
attribute [local congr] Jq Jz Jp J2 Jb
set_option maxRecDepth 100000
variable {l a b x c y t x1 y1 z1 t1 m o:List Nat} {p q:Go.Cv.Pt Go.Fp.P Go.Fp.d} {n k i id:Nat} {z dd e px py rx ry:Go.Fp.Fe} {cs:List Value} {R:Ob} {H:List Ob}
theorem Q6 (h:cs.length=n):cs.take n=cs:=Qu (by omega)
def pL (x y z t:List Nat):List Nat:=x++(y++(z++t))
def pV (x y z t:List Nat):Value := .agg (ns .u64 (pL x y z t)).toArray
theorem kU (x y z t:List Nat):rf (pV x y z t)=true:=Nf _ _
theorem E5 (x y z t:List Nat):(pV x y z t).cells.toList=ns .u64 (pL x y z t):=rfl
theorem No (x y z t:List Nat):(pV x y z t).cells.size=(pL x y z t).length:=QQ _ _
theorem kY (x y z t:List Nat):okVar (pV x y z t)=true:=rfl
theorem Np (x y z t:List Nat):Value.agg (ns .u64 (pL x y z t)).toArray=pV x y z t:=rfl
theorem Vs {z:List Nat} {b:Nat} (hx:El x b) (hy:El y b) (hz:El z b) (ht:El t b):(pL x y z t).length=20:=by
 simp [pL,hx.len,hy.len,hz.len,ht.len]
theorem I6 {z:List Nat} {b:Nat} (hx:El x b) (hy:El y b) (hz:El z b) (ht:El t b) :
  Q2 5 (ns .u64 (pL x y z t))=ns .u64 x∧Q2 5 (Zw 5 (ns .u64 (pL x y z t)))=ns .u64 y∧Q2 5 (Zw 10 (ns .u64 (pL x y z t)))=ns .u64 z∧Q2 5 (Zw 15 (ns .u64 (pL x y z t)))=ns .u64 t:=by
 obtain ⟨a0,a1,a2,a3,a4,rfl,-⟩:=hx.five
 obtain ⟨b0,b1,b2,b3,b4,rfl,-⟩:=hy.five
 obtain ⟨c0,c1,c2,c3,c4,rfl,-⟩:=hz.five
 obtain ⟨d0,d1,d2,d3,d4,rfl,-⟩:=ht.five
 exact ⟨rfl,rfl,rfl,rfl⟩
theorem DG (ha:El a k) (hb:El b k):fillL (Qc 10 (Value.int .u64 0)) [(0,5,eV a),(5,5,eV b)]=some (ns .u64 (a++b)):=by
 obtain ⟨a0,a1,a2,a3,a4,rfl,-⟩:=ha.five
 obtain ⟨b0,b1,b2,b3,b4,rfl,-⟩:=hb.five
 rfl
theorem Fv (ha:El a k) (hb:El b k) (hc:El c k):fillL (Qc 15 (Value.int .u64 0)) [(0,5,eV a),(5,5,eV b),(10,5,eV c)]=some (ns .u64 [a,b,c].flatten):=by
 obtain ⟨a0,a1,a2,a3,a4,rfl,-⟩:=ha.five
 obtain ⟨b0,b1,b2,b3,b4,rfl,-⟩:=hb.five
 obtain ⟨c0,c1,c2,c3,c4,rfl,-⟩:=hc.five
 rfl
theorem DF {d:List Nat} (ha:El a k) (hb:El b k) (hc:El c k) (hd:El d k):fillL (Qc 20 (Value.int .u64 0)) [(0,5,eV a),(5,5,eV b),(10,5,eV c),(15,5,eV d)]=some (ns .u64 (pL a b c d)):=by
 obtain ⟨a0,a1,a2,a3,a4,rfl,-⟩:=ha.five
 obtain ⟨b0,b1,b2,b3,b4,rfl,-⟩:=hb.five
 obtain ⟨c0,c1,c2,c3,c4,rfl,-⟩:=hc.five
 obtain ⟨d0,d1,d2,d3,d4,rfl,-⟩:=hd.five
 rfl
theorem Nq (a b c d:List Nat):pL a b c d=[a,b,c,d].flatten:=by simp [pL]
theorem S6:El [2,0,0,0,0] (2^52):=Gr (by decide)
theorem S4:ZB T 111 [.int .u32 2]=some (eV [2,0,0,0,0]):=Mj (n:=2) (by decide)
theorem Iw:fe [2,0,0,0,0]=2:=by rw [Gq]; rfl
theorem mE {x2 y2 z2 t2 d:List Nat} (Ex1:El x1 (2^52)) (Ey1:El y1 (2^52)) (Ez1:El z1 (2^52)) (Et1:El t1 (2^52)) (Ex2:El x2 (2^52)) (Ey2:El y2 (2^52)) (Ez2:El z2 (2^52)) (Et2:El t2 (2^52)) (Ed:El d (2^52)) :
  ∃ x y z t,ZB T 124 [pV x1 y1 z1 t1,pV x2 y2 z2 t2,eV d]=some (pV x y z t)∧El x (2^52)∧El y (2^52)∧El z (2^52)∧El t (2^52) ∧
   ∃ a b c e:Go.Fp.Fe,a=(fe y1-fe x1)*(fe y2-fe x2)∧b=(fe y1+fe x1)*(fe y2+fe x2)∧c=1*2*fe d*fe t1*fe t2∧e=1*2*fe z1*fe z2 ∧
    fe x=(b-a)*(e-c)∧fe y=(e+c)*(b+a)∧fe z=(e-c)*(e+c)∧fe t=(b-a)*(b+a):=by
 obtain ⟨two,htwo⟩:∃ two:List Nat,two=[2,0,0,0,0]:=⟨_,rfl⟩
 have Etwo:El two (2^52):=by rw [htwo]; exact S6
 have vtwo:ZB T 111 [.int .u32 2]=some (eV two):=by rw [htwo]; exact S4
 have ftwo:fe two=2:=by rw [htwo]; exact Iw
 clear htwo
 obtain ⟨r1,hr1,Er1,fr1⟩:=D8 Ey1 Ex1
 obtain ⟨r2,hr2,Er2,fr2⟩:=D8 Ey2 Ex2
 obtain ⟨r3,hr3,Er3,fr3⟩:=Xv Er1 Er2
 obtain ⟨r4,sr4,hr4,Er4,fr4⟩:=YK (H:=[⟨ns .u64 (pL x1 y1 z1 t1),true,true,true,1⟩,⟨ns .u64 (pL x2 y2 z2 t2),true,true,true,1⟩,⟨ns .u64 d,true,true,true,1⟩,⟨Qc 20 (.int .u64 0),true,true,true,1⟩,⟨ns .u64 r3,true,true,true,1⟩,⟨ns .u64 (y1++x1),true,true,true,1⟩]) (id:=5) Ey1 Ex1 rfl
 simp only [Qw,Qr] at hr4
 obtain ⟨r5,sr5,hr5,Er5,fr5⟩:=YK (H:=[⟨ns .u64 (pL x1 y1 z1 t1),true,true,true,1⟩,⟨ns .u64 (pL x2 y2 z2 t2),true,true,true,1⟩,⟨ns .u64 d,true,true,true,1⟩,⟨Qc 20 (.int .u64 0),true,true,true,1⟩,⟨ns .u64 r3,true,true,true,1⟩,⟨ns .u64 (y1++x1),true,true,true,1⟩,⟨ns .u64 r4,true,true,true,1⟩,⟨ns .u64 sr4,true,true,true,1⟩,⟨ns .u64 y1,true,true,true,1⟩,⟨ns .u64 x1,true,true,true,1⟩,⟨ns .u64 (y2++x2),true,true,true,1⟩]) (id:=10) Ey2 Ex2 rfl
 simp only [Qw,Qr] at hr5
 obtain ⟨r6,hr6,Er6,fr6⟩:=Xv Er4 Er5
 obtain ⟨r7,hr7,Er7,fr7⟩:=WB (H:=[⟨ns .u64 (pL x1 y1 z1 t1),true,true,true,1⟩,⟨ns .u64 (pL x2 y2 z2 t2),true,true,true,1⟩,⟨ns .u64 d,true,true,true,1⟩,⟨Qc 20 (.int .u64 0),true,true,true,1⟩,⟨ns .u64 r3,true,true,true,1⟩,⟨ns .u64 (y1++x1),true,true,true,1⟩,⟨ns .u64 r4,true,true,true,1⟩,⟨ns .u64 sr4,true,true,true,1⟩,⟨ns .u64 y1,true,true,true,1⟩,⟨ns .u64 x1,true,true,true,1⟩,⟨ns .u64 (y2++x2),true,true,true,1⟩,⟨ns .u64 r5,true,true,true,1⟩,⟨ns .u64 sr5,true,true,true,1⟩,⟨ns .u64 y2,true,true,true,1⟩,⟨ns .u64 x2,true,true,true,1⟩,⟨ns .u64 r6,true,true,true,1⟩,⟨ns .u64 [two,d,t1,t2].flatten,true,true,true,1⟩]) (id:=16) (n:=4) (xs:=[two,d,t1,t2]) rfl (by decide) (by intro w hw; simp only [J6,JI,or_false] at hw; rcases hw with rfl | rfl | rfl | rfl<;>assumption) rfl
 simp only [Qw,Qr,Jg,JO,Xs,Vp] at hr7 fr7
 obtain ⟨r8,hr8,Er8,fr8⟩:=WB (H:=[⟨ns .u64 (pL x1 y1 z1 t1),true,true,true,1⟩,⟨ns .u64 (pL x2 y2 z2 t2),true,true,true,1⟩,⟨ns .u64 d,true,true,true,1⟩,⟨Qc 20 (.int .u64 0),true,true,true,1⟩,⟨ns .u64 r3,true,true,true,1⟩,⟨ns .u64 (y1++x1),true,true,true,1⟩,⟨ns .u64 r4,true,true,true,1⟩,⟨ns .u64 sr4,true,true,true,1⟩,⟨ns .u64 y1,true,true,true,1⟩,⟨ns .u64 x1,true,true,true,1⟩,⟨ns .u64 (y2++x2),true,true,true,1⟩,⟨ns .u64 r5,true,true,true,1⟩,⟨ns .u64 sr5,true,true,true,1⟩,⟨ns .u64 y2,true,true,true,1⟩,⟨ns .u64 x2,true,true,true,1⟩,⟨ns .u64 r6,true,true,true,1⟩,⟨ns .u64 [two,d,t1,t2].flatten,true,true,true,1⟩,⟨ns .u64 r7,true,true,true,1⟩,⟨ns .u64 r7,true,true,true,1⟩,⟨ns .u64 two,true,true,true,1⟩,⟨ns .u64 d,true,true,true,1⟩,⟨ns .u64 t1,true,true,true,1⟩,⟨ns .u64 t2,true,true,true,1⟩,⟨ns .u64 r7,true,true,true,1⟩,⟨ns .u64 [two,z1,z2].flatten,true,true,true,1⟩]) (id:=24) (n:=3) (xs:=[two,z1,z2]) rfl (by decide) (by intro w hw; simp only [J6,JI,or_false] at hw; rcases hw with rfl | rfl | rfl<;>assumption) rfl
 simp only [Qw,Qr,Jg,JO,Xs,Vp] at hr8 fr8
 obtain ⟨r9,hr9,Er9,fr9⟩:=D8 Er6 Er3
 obtain ⟨r10,hr10,Er10,fr10⟩:=D8 Er8 Er7
 obtain ⟨r11,sr11,hr11,Er11,fr11⟩:=YK (H:=[⟨ns .u64 (pL x1 y1 z1 t1),true,true,true,1⟩,⟨ns .u64 (pL x2 y2 z2 t2),true,true,true,1⟩,⟨ns .u64 d,true,true,true,1⟩,⟨Qc 20 (.int .u64 0),true,true,true,1⟩,⟨ns .u64 r3,true,true,true,1⟩,⟨ns .u64 (y1++x1),true,true,true,1⟩,⟨ns .u64 r4,true,true,true,1⟩,⟨ns .u64 sr4,true,true,true,1⟩,⟨ns .u64 y1,true,true,true,1⟩,⟨ns .u64 x1,true,true,true,1⟩,⟨ns .u64 (y2++x2),true,true,true,1⟩,⟨ns .u64 r5,true,true,true,1⟩,⟨ns .u64 sr5,true,true,true,1⟩,⟨ns .u64 y2,true,true,true,1⟩,⟨ns .u64 x2,true,true,true,1⟩,⟨ns .u64 r6,true,true,true,1⟩,⟨ns .u64 [two,d,t1,t2].flatten,true,true,true,1⟩,⟨ns .u64 r7,true,true,true,1⟩,⟨ns .u64 r7,true,true,true,1⟩,⟨ns .u64 two,true,true,true,1⟩,⟨ns .u64 d,true,true,true,1⟩,⟨ns .u64 t1,true,true,true,1⟩,⟨ns .u64 t2,true,true,true,1⟩,⟨ns .u64 r7,true,true,true,1⟩,⟨ns .u64 [two,z1,z2].flatten,true,true,true,1⟩,⟨ns .u64 r8,true,true,true,1⟩,⟨ns .u64 r8,true,true,true,1⟩,⟨ns .u64 two,true,true,true,1⟩,⟨ns .u64 z1,true,true,true,1⟩,⟨ns .u64 z2,true,true,true,1⟩,⟨ns .u64 r8,true,true,true,1⟩,⟨ns .u64 (r8++r7),true,true,true,1⟩]) (id:=31) Er8 Er7 rfl
 simp only [Qw,Qr] at hr11
 obtain ⟨r12,sr12,hr12,Er12,fr12⟩:=YK (H:=[⟨ns .u64 (pL x1 y1 z1 t1),true,true,true,1⟩,⟨ns .u64 (pL x2 y2 z2 t2),true,true,true,1⟩,⟨ns .u64 d,true,true,true,1⟩,⟨Qc 20 (.int .u64 0),true,true,true,1⟩,⟨ns .u64 r3,true,true,true,1⟩,⟨ns .u64 (y1++x1),true,true,true,1⟩,⟨ns .u64 r4,true,true,true,1⟩,⟨ns .u64 sr4,true,true,true,1⟩,⟨ns .u64 y1,true,true,true,1⟩,⟨ns .u64 x1,true,true,true,1⟩,⟨ns .u64 (y2++x2),true,true,true,1⟩,⟨ns .u64 r5,true,true,true,1⟩,⟨ns .u64 sr5,true,true,true,1⟩,⟨ns .u64 y2,true,true,true,1⟩,⟨ns .u64 x2,true,true,true,1⟩,⟨ns .u64 r6,true,true,true,1⟩,⟨ns .u64 [two,d,t1,t2].flatten,true,true,true,1⟩,⟨ns .u64 r7,true,true,true,1⟩,⟨ns .u64 r7,true,true,true,1⟩,⟨ns .u64 two,true,true,true,1⟩,⟨ns .u64 d,true,true,true,1⟩,⟨ns .u64 t1,true,true,true,1⟩,⟨ns .u64 t2,true,true,true,1⟩,⟨ns .u64 r7,true,true,true,1⟩,⟨ns .u64 [two,z1,z2].flatten,true,true,true,1⟩,⟨ns .u64 r8,true,true,true,1⟩,⟨ns .u64 r8,true,true,true,1⟩,⟨ns .u64 two,true,true,true,1⟩,⟨ns .u64 z1,true,true,true,1⟩,⟨ns .u64 z2,true,true,true,1⟩,⟨ns .u64 r8,true,true,true,1⟩,⟨ns .u64 (r8++r7),true,true,true,1⟩,⟨ns .u64 r11,true,true,true,1⟩,⟨ns .u64 sr11,true,true,true,1⟩,⟨ns .u64 r8,true,true,true,1⟩,⟨ns .u64 r7,true,true,true,1⟩,⟨ns .u64 (r6++r3),true,true,true,1⟩]) (id:=36) Er6 Er3 rfl
 simp only [Qw,Qr] at hr12
 obtain ⟨r13,hr13,Er13,fr13⟩:=Xv Er9 Er10
 obtain ⟨r14,hr14,Er14,fr14⟩:=Xv Er11 Er12
 obtain ⟨r15,hr15,Er15,fr15⟩:=Xv Er10 Er11
 obtain ⟨r16,hr16,Er16,fr16⟩:=Xv Er9 Er12
 refine ⟨r13,r14,r15,r16,?_,Er13,Er14,Er15,Er16,fe r3,fe r6,fe r7,fe r8,?_⟩
 ·obtain ⟨q10,q11,q12,q13⟩:=I6 Ex1 Ey1 Ez1 Et1
  obtain ⟨q20,q21,q22,q23⟩:=I6 Ex2 Ey2 Ez2 Et2
  have p1:=Vs Ex1 Ey1 Ez1 Et1
  have p2:=Vs Ex2 Ey2 Ez2 Et2
  have p3:=Vs Er13 Er14 Er15 Er16
  have k4:=DF Etwo Ed Et1 Et2
  rw [Nq] at k4
  have k3:=Fv Etwo Ez1 Ez2
  have kp:=DF Er13 Er14 Er15 Er16
  have m1:=DG Ey1 Ex1
  have m2:=DG Ey2 Ex2
  have m3:=DG Er8 Er7
  have m4:=DG Er6 Er3
  have Lx1:=Ex1.len
  have Ly1:=Ey1.len
  have Lz1:=Ez1.len
  have Lt1:=Et1.len
  have Lx2:=Ex2.len
  have Ly2:=Ey2.len
  have Lz2:=Ez2.len
  have Lt2:=Et2.len
  have Ld:=Ed.len
  have Ltwo:=Etwo.len
  have Lr1:=Er1.len
  have Lr2:=Er2.len
  have Lr3:=Er3.len
  have Lr4:=Er4.len
  have Lr5:=Er5.len
  have Lr6:=Er6.len
  have Lr7:=Er7.len
  have Lr8:=Er8.len
  have Lr9:=Er9.len
  have Lr10:=Er10.len
  have Lr11:=Er11.len
  have Lr12:=Er12.len
  have Lr13:=Er13.len
  have Lr14:=Er14.len
  have Lr15:=Er15.len
  have Lr16:=Er16.len
  apply ZM (fn:=a54) rfl
  simp only [a54,Q0,quiet,cW,↓pW,reduceCtorEq,seval,-Qb,Qn,Q6,E5,No,kY,Np,kU,QY,Zf,ZY,Zg,Ja,QQ,q10,q11,q12,q13,q20,q21,q22,q23,p1,p2,p3,k4,k3,kp,m1,m2,m3,m4,vtwo,hr1,hr2,hr3,hr4,hr5,hr6,hr7,hr8,hr9,hr10,hr11,hr12,hr13,hr14,hr15,hr16,Lx1,Ly1,Lz1,Lt1,Lx2,Ly2,Lz2,Lt2,Ld,Ltwo,Lr1,Lr2,Lr3,Lr4,Lr5,Lr6,Lr7,Lr8,Lr9,Lr10,Lr11,Lr12,Lr13,Lr14,Lr15,Lr16]
  rfl
 ·refine ⟨?_,?_,?_,?_,?_,?_,?_,?_⟩
  ·rw [fr3,fr1,fr2]
  ·rw [fr6,fr4,fr5]
  ·rw [fr7,ftwo]
  ·rw [fr8,ftwo]
  ·rw [fr13,fr9,fr10]
  ·rw [fr14,fr11,fr12]
  ·rw [fr15,fr10,fr11]
  ·rw [fr16,fr9,fr12]
theorem eL (Ex1:El x1 (2^52)) (Ey1:El y1 (2^52)) (Ez1:El z1 (2^52)) (Et1:El t1 (2^52)) :
  ∃ x y z t,ZB T 117 [pV x1 y1 z1 t1]=some (pV x y z t)∧El x (2^52)∧El y (2^52)∧El z (2^52)∧El t (2^52) ∧
   ∃ a b c h e g f:Go.Fp.Fe,a=fe x1*fe x1∧b=fe y1*fe y1∧c=1*2*fe z1*fe z1∧h=a+b∧e=h-(fe x1+fe y1)*(fe x1+fe y1)∧g=a-b∧f=c+g ∧
    fe x=e*f∧fe y=g*h∧fe z=f*g∧fe t=e*h:=by
 obtain ⟨two,htwo⟩:∃ two:List Nat,two=[2,0,0,0,0]:=⟨_,rfl⟩
 have Etwo:El two (2^52):=by rw [htwo]; exact S6
 have vtwo:ZB T 111 [.int .u32 2]=some (eV two):=by rw [htwo]; exact S4
 have ftwo:fe two=2:=by rw [htwo]; exact Iw
 clear htwo
 obtain ⟨r1,hr1,Er1,fr1⟩:=Xv Ex1 Ex1
 obtain ⟨r2,hr2,Er2,fr2⟩:=Xv Ey1 Ey1
 obtain ⟨r3,hr3,Er3,fr3⟩:=WB (H:=[⟨ns .u64 (pL x1 y1 z1 t1),true,true,true,1⟩,⟨Qc 20 (.int .u64 0),true,true,true,1⟩,⟨ns .u64 r1,true,true,true,1⟩,⟨ns .u64 r2,true,true,true,1⟩,⟨ns .u64 [two,z1,z1].flatten,true,true,true,1⟩]) (id:=4) (n:=3) (xs:=[two,z1,z1]) rfl (by decide) (by intro w hw; simp only [J6,JI,or_false] at hw; rcases hw with rfl | rfl | rfl<;>assumption) rfl
 simp only [Qw,Qr,Jg,JO,Xs,Vp] at hr3 fr3
 obtain ⟨r4,sr4,hr4,Er4,fr4⟩:=YK (H:=[⟨ns .u64 (pL x1 y1 z1 t1),true,true,true,1⟩,⟨Qc 20 (.int .u64 0),true,true,true,1⟩,⟨ns .u64 r1,true,true,true,1⟩,⟨ns .u64 r2,true,true,true,1⟩,⟨ns .u64 [two,z1,z1].flatten,true,true,true,1⟩,⟨ns .u64 r3,true,true,true,1⟩,⟨ns .u64 r3,true,true,true,1⟩,⟨ns .u64 two,true,true,true,1⟩,⟨ns .u64 z1,true,true,true,1⟩,⟨ns .u64 z1,true,true,true,1⟩,⟨ns .u64 r3,true,true,true,1⟩,⟨ns .u64 (r1++r2),true,true,true,1⟩]) (id:=11) Er1 Er2 rfl
 simp only [Qw,Qr] at hr4
 obtain ⟨r5,sr5,hr5,Er5,fr5⟩:=YK (H:=[⟨ns .u64 (pL x1 y1 z1 t1),true,true,true,1⟩,⟨Qc 20 (.int .u64 0),true,true,true,1⟩,⟨ns .u64 r1,true,true,true,1⟩,⟨ns .u64 r2,true,true,true,1⟩,⟨ns .u64 [two,z1,z1].flatten,true,true,true,1⟩,⟨ns .u64 r3,true,true,true,1⟩,⟨ns .u64 r3,true,true,true,1⟩,⟨ns .u64 two,true,true,true,1⟩,⟨ns .u64 z1,true,true,true,1⟩,⟨ns .u64 z1,true,true,true,1⟩,⟨ns .u64 r3,true,true,true,1⟩,⟨ns .u64 (r1++r2),true,true,true,1⟩,⟨ns .u64 r4,true,true,true,1⟩,⟨ns .u64 sr4,true,true,true,1⟩,⟨ns .u64 r1,true,true,true,1⟩,⟨ns .u64 r2,true,true,true,1⟩,⟨ns .u64 r4,true,true,true,1⟩,⟨ns .u64 (x1++y1),true,true,true,1⟩]) (id:=17) Ex1 Ey1 rfl
 simp only [Qw,Qr] at hr5
 obtain ⟨r6,hr6,Er6,fr6⟩:=Xv Er5 Er5
 obtain ⟨r7,hr7,Er7,fr7⟩:=D8 Er4 Er6
 obtain ⟨r8,hr8,Er8,fr8⟩:=D8 Er1 Er2
 obtain ⟨r9,sr9,hr9,Er9,fr9⟩:=YK (H:=[⟨ns .u64 (pL x1 y1 z1 t1),true,true,true,1⟩,⟨Qc 20 (.int .u64 0),true,true,true,1⟩,⟨ns .u64 r1,true,true,true,1⟩,⟨ns .u64 r2,true,true,true,1⟩,⟨ns .u64 [two,z1,z1].flatten,true,true,true,1⟩,⟨ns .u64 r3,true,true,true,1⟩,⟨ns .u64 r3,true,true,true,1⟩,⟨ns .u64 two,true,true,true,1⟩,⟨ns .u64 z1,true,true,true,1⟩,⟨ns .u64 z1,true,true,true,1⟩,⟨ns .u64 r3,true,true,true,1⟩,⟨ns .u64 (r1++r2),true,true,true,1⟩,⟨ns .u64 r4,true,true,true,1⟩,⟨ns .u64 sr4,true,true,true,1⟩,⟨ns .u64 r1,true,true,true,1⟩,⟨ns .u64 r2,true,true,true,1⟩,⟨ns .u64 r4,true,true,true,1⟩,⟨ns .u64 (x1++y1),true,true,true,1⟩,⟨ns .u64 r5,true,true,true,1⟩,⟨ns .u64 sr5,true,true,true,1⟩,⟨ns .u64 x1,true,true,true,1⟩,⟨ns .u64 y1,true,true,true,1⟩,⟨ns .u64 r5,true,true,true,1⟩,⟨ns .u64 r7,true,true,true,1⟩,⟨ns .u64 r8,true,true,true,1⟩,⟨ns .u64 (r3++r8),true,true,true,1⟩]) (id:=25) Er3 Er8 rfl
 simp only [Qw,Qr] at hr9
 obtain ⟨r10,hr10,Er10,fr10⟩:=Xv Er7 Er9
 obtain ⟨r11,hr11,Er11,fr11⟩:=Xv Er8 Er4
 obtain ⟨r12,hr12,Er12,fr12⟩:=Xv Er9 Er8
 obtain ⟨r13,hr13,Er13,fr13⟩:=Xv Er7 Er4
 refine ⟨r10,r11,r12,r13,?_,Er10,Er11,Er12,Er13,fe r1,fe r2,fe r3,fe r4,fe r7,fe r8,fe r9,?_⟩
 ·obtain ⟨q10,q11,q12,q13⟩:=I6 Ex1 Ey1 Ez1 Et1
  have p1:=Vs Ex1 Ey1 Ez1 Et1
  have p3:=Vs Er10 Er11 Er12 Er13
  have k3:=Fv Etwo Ez1 Ez1
  have kp:=DF Er10 Er11 Er12 Er13
  have m1:=DG Er1 Er2
  have m2:=DG Ex1 Ey1
  have m3:=DG Er3 Er8
  have Lx1:=Ex1.len
  have Ly1:=Ey1.len
  have Lz1:=Ez1.len
  have Lt1:=Et1.len
  have Ltwo:=Etwo.len
  have Lr1:=Er1.len
  have Lr2:=Er2.len
  have Lr3:=Er3.len
  have Lr4:=Er4.len
  have Lr5:=Er5.len
  have Lr6:=Er6.len
  have Lr7:=Er7.len
  have Lr8:=Er8.len
  have Lr9:=Er9.len
  have Lr10:=Er10.len
  have Lr11:=Er11.len
  have Lr12:=Er12.len
  have Lr13:=Er13.len
  apply ZM (fn:=a53) rfl
  simp only [a53,Q0,quiet,cW,↓pW,reduceCtorEq,seval,-Qb,Qn,Q6,E5,No,kY,Np,kU,QY,Zf,ZY,Zg,Ja,QQ,q10,q11,q12,q13,p1,p3,k3,kp,m1,m2,m3,vtwo,hr1,hr2,hr3,hr4,hr5,hr6,hr7,hr8,hr9,hr10,hr11,hr12,hr13,Lx1,Ly1,Lz1,Lt1,Ltwo,Lr1,Lr2,Lr3,Lr4,Lr5,Lr6,Lr7,Lr8,Lr9,Lr10,Lr11,Lr12,Lr13]
  rfl
 ·refine ⟨fr1,fr2,by rw [fr3,ftwo],fr4,by rw [fr7,fr6,fr5],fr8,fr9,?_,?_,?_,?_⟩
  ·rw [fr10]
  ·rw [fr11]
  ·rw [fr12]
  ·rw [fr13]
structure Rep (x y z t:List Nat) (p:Go.Cv.Pt Go.Fp.P Go.Fp.d):Prop where
 ex:El x (2^52)
 ey:El y (2^52)
 ez:El z (2^52)
 et:El t (2^52)
 nz:fe z≠0
 x:fe x=p.x*fe z
 y:fe y=p.y*fe z
 t:fe t=p.x*p.y*fe z
abbrev XU (p q:Go.Cv.Pt Go.Fp.P Go.Fp.d):Go.Cv.Pt Go.Fp.P Go.Fp.d:=Go.Cv.Pt.add Go.Fp.fld p q
abbrev JP (k:Nat) (p:Go.Cv.Pt Go.Fp.P Go.Fp.d):Go.Cv.Pt Go.Fp.P Go.Fp.d:=Go.Cv.Pt.mul Go.Fp.fld k p
abbrev K9:Go.Cv.Pt Go.Fp.P Go.Fp.d:=Go.Cv.Pt.zero
theorem TP {x1 y1 z1 t1 x2 y2 z2 t2 a b c x y t qx qy:Go.Fp.Fe} (hx1:x1=px*z1) (hy1:y1=py*z1) (ht1:t1=px*py*z1) (hx2:x2=qx*z2) (hy2:y2=qy*z2) (ht2:t2=qx*qy*z2)
 (ha:a=(y1-x1)*(y2-x2)) (hb:b=(y1+x1)*(y2+x2)) (hc:c=1*2*dd*t1*t2) (he:e=1*2*z1*z2) (hx:x=(b-a)*(e-c)) (hy:y=(e+c)*(b+a)) (hz:z=(e-c)*(e+c)) (ht:t=(b-a)*(b+a))
 (hrx:rx*(1+dd*px*qx*py*qy)=px*qy+qx*py) (hry:ry*(1-dd*px*qx*py*qy)=py*qy+px*qx) :
    x=rx*z∧y=ry*z∧t=rx*ry*z∧z=(2*z1*z2)*(2*z1*z2)*((1-dd*px*qx*py*qy)*(1+dd*px*qx*py*qy)):=by
  have e1:b-a=(2*z1*z2)*(px*qy+qx*py):=by rw [hb,ha,hx1,hy1,hx2,hy2]; grobner
  have e2:b+a=(2*z1*z2)*(py*qy+px*qx):=by rw [hb,ha,hx1,hy1,hx2,hy2]; grobner
  have e3:e-c=(2*z1*z2)*(1-dd*px*qx*py*qy):=by rw [he,hc,ht1,ht2]; grobner
  have e4:e+c=(2*z1*z2)*(1+dd*px*qx*py*qy):=by rw [he,hc,ht1,ht2]; grobner
  rw [e1,←hrx,e3] at hx
  rw [e4,e2,←hry] at hy
  rw [e3,e4] at hz
  rw [e1,e2,←hrx,←hry] at ht
  clear hx1 hy1 ht1 hx2 hy2 ht2 ha hb hc he hrx hry e1 e2 e3 e4
  generalize 1+dd*px*qx*py*qy=k at *
  generalize 1-dd*px*qx*py*qy=m at *
  generalize 2*z1*z2=w at *
  subst hx hy hz ht
  refine ⟨?_,?_,?_,?_⟩<;>grobner
theorem Rep.plus {x1 y1 z1 t1 x2 y2 z2 t2 d:List Nat} {p q:Go.Cv.Pt Go.Fp.P Go.Fp.d} (h1:Rep x1 y1 z1 t1 p) (h2:Rep x2 y2 z2 t2 q) (Ed:El d (2^52)) (hd:fe d=Go.Fp.d) :
  ∃ x y z t,ZB T 124 [pV x1 y1 z1 t1,pV x2 y2 z2 t2,eV d]=some (pV x y z t)∧Rep x y z t (XU p q):=by
 obtain ⟨x,y,z,t,hv,Ex,Ey,Ez,Et,a,b,c,e,ha,hb,hc,he,hx,hy,hz,ht⟩:=mE h1.ex h1.ey h1.ez h1.et h2.ex h2.ey h2.ez h2.et Ed
 rw [hd] at hc
 obtain ⟨g1,g2,g3,g4⟩:=TP h1.x h1.y h1.t h2.x h2.y h2.t ha hb hc he hx hy hz ht (Go.Cv.Hg Go.Fp.fld p q) (Go.Cv.Hf Go.Fp.fld p q)
 refine ⟨x,y,z,t,hv,Ex,Ey,Ez,Et,?_,g1,g2,g3⟩
 rw [g4]
 have F:=Go.Fp.fld
 have w:=F.mul_ne (F.mul_ne F.two h1.nz) h2.nz
 exact F.mul_ne (F.mul_ne w w) (F.mul_ne (F.denM p.on q.on) (F.denP p.on q.on))
theorem Iy {x1 y1 z1 a b c h g f x y t:Go.Fp.Fe} (hx1:x1=px*z1) (hy1:y1=py*z1) (on : -(px*px)+py*py=1+dd*(px*px)*(py*py))
 (ha:a=x1*x1) (hb:b=y1*y1) (hc:c=1*2*z1*z1) (hh:h=a+b) (he:e=h-(x1+y1)*(x1+y1)) (hg:g=a-b) (hf:f=c+g) (hx:x=e*f) (hy:y=g*h) (hz:z=f*g) (ht:t=e*h)
 (hrx:rx*(1+dd*px*px*py*py)=px*py+px*py) (hry:ry*(1-dd*px*px*py*py)=py*py+px*px) :
    x=rx*z∧y=ry*z∧t=rx*ry*z∧z = -((z1*z1)*(z1*z1)*((1-dd*px*px*py*py)*(1+dd*px*px*py*py))):=by
  have e1:e = -((z1*z1)*(px*py+px*py)):=by rw [he,hh,ha,hb,hx1,hy1]; grobner
  have e2:h=(z1*z1)*(py*py+px*px):=by rw [hh,ha,hb,hx1,hy1]; grobner
  have e3:g = -((z1*z1)*(1+dd*px*px*py*py)):=by
    have:1+dd*px*px*py*py=py*py-px*px:=by
      clear hx1 hy1 ha hb hc hh he hg hf hx hy hz ht hrx hry e1 e2
      grobner
    rw [this,hg,ha,hb,hx1,hy1]; grobner
  have e4:f=(z1*z1)*(1-dd*px*px*py*py):=by
    rw [hf,e3,hc]
    clear hx1 hy1 on ha hb hc hh he hg hf hx hy hz ht hrx hry e1 e2 e3
    grobner
  rw [←hrx] at e1
  rw [←hry] at e2
  clear hx1 hy1 on ha hb hc hh he hg hf hrx hry
  generalize 1+dd*px*px*py*py=k at *
  generalize 1-dd*px*px*py*py=m at *
  generalize z1*z1=w at *
  subst e1 e2 e3 e4 hx hy hz ht
  refine ⟨?_,?_,?_,?_⟩<;>grobner
theorem Rep.twice {x1 y1 z1 t1:List Nat} {p:Go.Cv.Pt Go.Fp.P Go.Fp.d} (h1:Rep x1 y1 z1 t1 p):∃ x y z t,ZB T 117 [pV x1 y1 z1 t1]=some (pV x y z t)∧Rep x y z t (XU p p):=by
 obtain ⟨x,y,z,t,hv,Ex,Ey,Ez,Et,a,b,c,h,e,g,f,ha,hb,hc,hh,he,hg,hf,hx,hy,hz,ht⟩:=eL h1.ex h1.ey h1.ez h1.et
 obtain ⟨g1,g2,g3,g4⟩:=Iy h1.x h1.y p.on ha hb hc hh he hg hf hx hy hz ht (Go.Cv.Hg Go.Fp.fld p p) (Go.Cv.Hf Go.Fp.fld p p)
 refine ⟨x,y,z,t,hv,Ex,Ey,Ez,Et,?_,g1,g2,g3⟩
 rw [g4]
 have F:=Go.Fp.fld
 have w:=F.mul_ne h1.nz h1.nz
 have n:=F.mul_ne (F.mul_ne w w) (F.mul_ne (F.denM p.on p.on) (F.denP p.on p.on))
 intro h0
 exact n (by grobner)
def RepL (l:List Nat) (p:Go.Cv.Pt Go.Fp.P Go.Fp.d):Prop:=∃ x y z t,l=pL x y z t∧Rep x y z t p
theorem RepL.len {l:List Nat} {p:Go.Cv.Pt Go.Fp.P Go.Fp.d} (h:RepL l p):l.length=20:=by
 obtain ⟨x,y,z,t,rfl,h⟩:=h
 exact Vs h.ex h.ey h.ez h.et
theorem kW {d:List Nat} (h1:RepL l p) (h2:RepL m q) (Ed:El d (2^52)) (hd:fe d=Go.Fp.d):∃ r,ZB T 124 [eV l,eV m,eV d]=some (eV r)∧RepL r (XU p q):=by
 obtain ⟨x,y,z,t,rfl,h1⟩:=h1
 obtain ⟨x2,y2,z2,t2,rfl,h2⟩:=h2
 obtain ⟨a,b,c,e,h3,h4⟩:=h1.plus h2 Ed hd
 exact ⟨pL a b c e,h3,a,b,c,e,rfl,h4⟩
theorem A9 (h1:RepL l p):∃ r,ZB T 117 [eV l]=some (eV r)∧RepL r (XU p p):=by
 obtain ⟨x,y,z,t,rfl,h1⟩:=h1
 obtain ⟨a,b,c,e,h3,h4⟩:=h1.twice
 exact ⟨pL a b c e,h3,a,b,c,e,rfl,h4⟩
def dK:List Nat:=dig 256 32 Go.Fp.dN
theorem nK:num 256 dK=Go.Fp.dN:=by decide +kernel
theorem dK_lt:∀ x∈dK,x<256:=fun _ h=>KV (by decide) h
theorem R8:∃ r,ZB T 113 []=some (eV r)∧El r (2^52)∧fe r=Go.Fp.d:=by
 have h:=bC (k:=dK) (Zx _ _ _) dK_lt
 refine ⟨dig (2^51) 5 (num 256 dK%2^255),?_,EI,?_⟩
 rotate_left
 ·unfold fe
  rw [Ru,nK]
  rfl
 ·have hl:(dig (2^51) 5 (num 256 dK%2^255)).length=5:=Zx _ _ _
  have hf:fillL (Qc 32 (Value.int .u8 0)) [(0,1,.int .u8 163),(1,1,.int .u8 120),(2,1,.int .u8 89),(3,1,.int .u8 19),(4,1,.int .u8 202),(5,1,.int .u8 77),(6,1,.int .u8 235),(7,1,.int .u8 117),(8,1,.int .u8 171),(9,1,.int .u8 216),(10,1,.int .u8 65),(11,1,.int .u8 65),(12,1,.int .u8 77),(13,1,.int .u8 10),(14,1,.int .u8 112),(15,1,.int .u8 0),(16,1,.int .u8 152),(17,1,.int .u8 232),(18,1,.int .u8 121),(19,1,.int .u8 119),(20,1,.int .u8 121),(21,1,.int .u8 64),(22,1,.int .u8 199),(23,1,.int .u8 140),(24,1,.int .u8 115),(25,1,.int .u8 254),(26,1,.int .u8 111),(27,1,.int .u8 43),(28,1,.int .u8 238),(29,1,.int .u8 108),(30,1,.int .u8 3),(31,1,.int .u8 82)]=some (u8s dK):=by
   have:dK=[163,120,89,19,202,77,235,117,171,216,65,65,77,10,112,0,152,232,121,119,121,64,199,140,115,254,111,43,238,108,3,82]:=by decide +kernel
   rw [this]; rfl
  generalize dig (2^51) 5 (num 256 dK%2^255)=D at *
  apply ZM (fn:=a52) rfl
  simp only [a52,Q0,quiet,cW,↓pW,reduceCtorEq,seval,-Qb,hf,h,Qn,Q6,QY,Zf,ZY,Zg,Ja,QQ,hl]
  rfl
theorem bl:ZB T 111 [.int .u32 1]=some (eV [1,0,0,0,0]):=Mj (n:=1) (by decide)
theorem MA:El [0,0,0,0,0] (2^52):=Gr (by decide)
theorem LO:fe [0,0,0,0,0]=0:=by rw [Gq]; rfl
theorem Im:∃ r,ZB T 118 []=some (eV r)∧RepL r K9:=by
 refine ⟨pL [0,0,0,0,0] [1,0,0,0,0] [1,0,0,0,0] [0,0,0,0,0],?_,_,_,_,_,rfl,MA,Dk,Dk,MA,?_,?_,?_,?_⟩
 ·have hf:fillL (Qc 20 (Value.int .u64 0)) [(5,5,eV [1,0,0,0,0]),(10,5,eV [1,0,0,0,0])]=some (ns .u64 (pL [0,0,0,0,0] [1,0,0,0,0] [1,0,0,0,0] [0,0,0,0,0])):=rfl
  have hl:(pL [0,0,0,0,0] [1,0,0,0,0] [1,0,0,0,0] [0,0,0,0,0]).length=20:=rfl
  have hv:=bl
  generalize pL [0,0,0,0,0] [1,0,0,0,0] [1,0,0,0,0] [0,0,0,0,0]=Z at *
  generalize ([1,0,0,0,0]:List Nat)=O at *
  apply ZM (fn:=a30) rfl
  simp only [a30,Q0,quiet,cW,↓pW,reduceCtorEq,seval,-Qb,hf,hv,Qn,Q6,QY,Zf,ZY,Zg,Ja,QQ,hl]
  rfl
 ·rw [Dj]; exact Go.Fp.U0
 ·rw [LO]; simp only [Go.Cv.Pt.zero]; grobner
 ·rw [Dj]; simp only [Go.Cv.Pt.zero]; grobner
 ·rw [LO]; simp only [Go.Cv.Pt.zero]; grobner
theorem TO (p:Go.Cv.Pt Go.Fp.P Go.Fp.d) (m b:Nat) (hb:b<2):JP (2*m+b) p=if b=1 then XU (XU (JP m p) (JP m p)) p else XU (JP m p) (JP m p):=by
 have h1:JP (2*m) p=XU (JP m p) (JP m p):=by rw [show 2*m=m+m by omega]; exact Go.Cv.mul_add Go.Fp.fld m m p
 by_cases h:b=1
 ·subst h
  rw [if_pos rfl]
  show XU (JP (2*m) p) p=_
  rw [h1]
 ·have:b=0:=by omega
  subst this
  rw [if_neg (by decide),ZH,h1]
def muI (l k o d:List Nat) (R:Ob) (i:Int) (ex:Env):St:=⟨[(2,.pointer (some ⟨0,0,none⟩)),(3,.pointer (some ⟨1,0,none⟩)),(4,.pointer (some ⟨2,0,none⟩)),(5,.pointer (some ⟨3,0,none⟩)),(6,.pointer (some ⟨4,0,none⟩)),(7,.int .i64 i)]++ex,[⟨ns .u64 l,true,true,true,1⟩,⟨u8s k,true,true,true,1⟩,R,⟨ns .u64 o,true,true,true,1⟩,⟨ns .u64 d,true,true,true,1⟩],[]⟩
theorem gR {k d:List Nat} (hl:RepL l p) (lk:k.length=32) (xk:∀ x∈k,x<256) (hi:i<256) (Ed:El d (2^52)) (hd:fe d=Go.Fp.d) (ho:RepL o (JP (num 256 k/2^(i+1)) p)) :
  ∃ r,Q8 T 0 D2 (muI l k o d R i [])=some (.normal,muI l k r d R ((i:Int)-1) [])∧RepL r (JP (num 256 k/2^i) p):=by
 obtain ⟨b,hb⟩:∃ b,k[i/8]?=some b:=⟨_,Qh (by omega)⟩
 have hbv:=VS (B:=256) (by decide) xk hb
 have hbc:=Jt hb
 have hbit:b/2^(i%8)%2=num 256 k/2^i%2:=by
  rw [←hbv,show (256:Nat)=2^8 from rfl,NP (Q4 _ (by decide)),ZP]
 obtain ⟨r1,m1,g1⟩:=A9 ho
 obtain ⟨r2,m2,g3⟩:=kW g1 hl Ed hd
 have hlt:=RN (num 256 k) i
 have hnum:num 256 k/2^i=2*(num 256 k/2^(i+1))+num 256 k/2^i%2:=by
  rw [Z4,←Jm]
  omega
 have hstep:=TO p (num 256 k/2^(i+1)) (num 256 k/2^i%2) hlt
 rw [←hnum] at hstep
 have s1:(2:Int)^min (i%8) IntKind.u8.bits=((2^(i%8):Nat):Int):=WC (Xi (Q4 _ (by decide)))
 have w2:IntKind.i64.wrap ((i/8:Nat):Int)=((i/8:Nat):Int):=Jf (by omega)
 have w3:IntKind.i64.wrap ((i:Int)-1)=(i:Int)-1:=ZE (by omega) (by omega)
 have e1:((0:Int)≤(i:Int))=True:=eq_true (by omega)
 have e3:(((i/8:Nat):Int)<32)=True:=eq_true (by omega)
 have e4:(((i%8:Nat):Int)<0)=False:=eq_false (by omega)
 have l1:=hl.len
 have l2:=ho.len
 have l3:=g1.len
 have l4:=g3.len
 have l5:=Ed.len
 generalize hB:num 256 k/2^i%2=B at *
 by_cases hB1:B=1
 ·have hbq:((B:Int)==1)=true:=by rw [hB1]; rfl
  rw [if_pos hB1] at hstep
  refine ⟨r2,?_,by rw [hstep]; exact g3⟩
  simp only [muI,D2,Q0,quiet,cW,↓pW,reduceCtorEq,seval,-Qb,cU,hbc,hbit,s1,w2,w3,e1,e3,e4,m1,m2,hbq,Q6,QY,Zf,ZY,Zg,QQ,l1,l2,l3,l4,l5,Ja]
 ·have hbq:((B:Int)==1)=false:=by
   have:B=0:=by omega
   rw [this]; rfl
  rw [if_neg hB1] at hstep
  refine ⟨r1,?_,by rw [hstep]; exact g1⟩
  simp only [muI,D2,Q0,quiet,cW,↓pW,reduceCtorEq,seval,-Qb,cU,hbc,hbit,s1,w2,w3,e1,e3,e4,m1,m2,hbq,Q6,QY,Zf,ZY,Zg,QQ,l1,l2,l3,l4,l5,Ja]
theorem Yo {k:List Nat} (hl:RepL l p) (lk:k.length=32) (xk:∀ x∈k,x<256):∃ r,ZB T 67 [eV l,.agg (u8s k).toArray]=some (eV r)∧RepL r (JP (num 256 k) p):=by
 have hK:=num_lt xk
 rw [lk,show (256:Nat)^32=2^256 from by rw [show (256:Nat)=2^8 from rfl,←Jj]] at hK
 obtain ⟨z,hz,hz2⟩:=Im
 obtain ⟨d,hd1,Ed,hd⟩:=R8
 obtain ⟨st,hb,r,rfl,hr1⟩:=Zc (T:=T) (base:=0) (id:=0) (body:=D2)
  (fun j st=>∃ r:List Nat,st=muI l k r d ⟨Qc 20 (.int .u64 0),true,true,true,1⟩ ((255:Int)-j) []∧RepL r (JP (num 256 k/2^(256-j)) p))
  (Q:=fun st=>∃ r:List Nat,st=muI l k r d ⟨Qc 20 (.int .u64 0),true,true,true,1⟩ (-1) [(11,.bool false)]∧RepL r (JP (num 256 k) p))
  256 (s:=muI l k z d ⟨Qc 20 (.int .u64 0),true,true,true,1⟩ 255 []) ⟨_,rfl,by rw [HK,Xw hK]; exact hz2⟩
  (fun j st hj hs=>by
   obtain ⟨r,rfl,h2⟩:=hs
   obtain ⟨i,hi⟩:∃ i,256-j=i+1:=⟨255-j,by omega⟩
   rw [hi] at h2
   obtain ⟨r',g1,g3⟩:=gR (R:=⟨Qc 20 (.int .u64 0),true,true,true,1⟩) hl lk xk (i:=i) (by omega) Ed hd h2
   rw [show (255:Int)-j=(i:Int) by omega]
   refine ⟨_,g1,r',?_,?_⟩
   ·rw [show (255:Int)-((j+1:Nat):Int)=(i:Int)-1 by omega]
   ·rw [show 256-(j+1)=i by omega]; exact g3)
  (fun st hs=>by
   obtain ⟨r,rfl,h2⟩:=hs
   rw [Qq,Xh,XL] at h2
   have e:((0:Int) ≤ -1)=False:=by decide
   refine ⟨_,?_,r,rfl,h2⟩
   rw [show (255:Int)-((256:Nat):Int) = -1 by omega]
   simp only [muI,D2,Q0,quiet,cK,↓pQ,reduceCtorEq,seval,-Qb,cL,e])
 refine ⟨r,?_,hr1⟩
 have l1:=hl.len
 have l2:=hz2.len
 have l3:=hr1.len
 have l4:=Ed.len
 simp only [muI,Qw,Qr] at hb
 apply ZM (fn:=a26) rfl
 simp only [a26,Q0,quiet,cW,↓pW,reduceCtorEq,seval,-Qb,hz,hd1,hb,muI,Qn,Q6,QY,Zf,ZY,Zg,QQ,l1,l2,l3,l4,Ja]
 rfl
theorem mW (hl:RepL l p):∃ r,ZB T 68 [eV l]=some (eV r)∧RepL r p.neg:=by
 obtain ⟨x,y,z,t,rfl,h⟩:=hl
 obtain ⟨a,ha,Ea,fa⟩:=Aa h.ex
 obtain ⟨b,hb,Eb,fb⟩:=Aa h.et
 obtain ⟨q0,q1,q2,q3⟩:=I6 h.ex h.ey h.ez h.et
 have hf:=DF Ea h.ey h.ez Eb
 have p1:=Vs h.ex h.ey h.ez h.et
 have p2:=Vs Ea h.ey h.ez Eb
 refine ⟨pL a y z b,?_,a,y,z,b,rfl,Ea,h.ey,h.ez,Eb,h.nz,?_,?_,?_⟩
 ·generalize pL x y z t=L,pL a y z b=M at *
  apply ZM (fn:=a34) rfl
  simp only [a34,Q0,quiet,cW,↓pW,reduceCtorEq,seval,-Qb,q0,q1,q2,q3,ha,hb,hf,Qn,Q6,QY,Zf,ZY,Zg,QQ,p1,p2,Ja]
  rfl
 ·rw [fa,h.x]; simp only [Go.Cv.Pt.neg]; grobner
 ·rw [h.y]; rfl
 ·rw [fb,h.t]; simp only [Go.Cv.Pt.neg]; grobner
instance decPt (p q:Go.Cv.Pt Go.Fp.P Go.Fp.d):Decidable (p=q):=if h:p.x=q.x∧p.y=q.y then isTrue (Go.Cv.Pt.ext h.1 h.2) else isFalse (fun e=>h (by rw [e]; exact ⟨rfl,rfl⟩))
theorem SS {a b w:Go.Fp.Fe} (hz:z≠0) (hw:w≠0):(a*z*w=b*w*z)=(a=b):=by
 apply propext
 constructor
 ·intro h
  have F:=Go.Fp.fld
  refine F.cancel (F.mul_ne hz hw) ?_
  grobner
 ·intro h; subst h; grobner
theorem iH {p q:Go.Cv.Pt Go.Fp.P Go.Fp.d} (h1:RepL l p) (h2:RepL m q):ZB T 116 [eV l,eV m]=some (.bool (decide (p=q))):=by
 obtain ⟨x1,y1,z1,t1,rfl,h1⟩:=h1
 obtain ⟨x2,y2,z2,t2,rfl,h2⟩:=h2
 obtain ⟨a,ha,Ea,fa⟩:=Xv h1.ex h2.ez
 obtain ⟨b,hb,Eb,fb⟩:=Xv h2.ex h1.ez
 obtain ⟨c,hc,Ec,fc⟩:=Xv h1.ey h2.ez
 obtain ⟨e,he,Ee,fe_⟩:=Xv h2.ey h1.ez
 have q1:=iI Ea Eb
 have q2:=iI Ec Ee
 rw [fa,fb,h1.x,h2.x] at q1
 rw [fc,fe_,h1.y,h2.y] at q2
 simp only [SS h1.nz h2.nz] at q1 q2
 obtain ⟨u0,u1,u2,u3⟩:=I6 h1.ex h1.ey h1.ez h1.et
 obtain ⟨v0,v1,v2,v3⟩:=I6 h2.ex h2.ey h2.ez h2.et
 have p1:=Vs h1.ex h1.ey h1.ez h1.et
 have p2:=Vs h2.ex h2.ey h2.ez h2.et
 generalize pL x1 y1 z1 t1=L,pL x2 y2 z2 t2=M at *
 by_cases hx:p.x=q.x
 ·rw [decide_eq_true hx] at q1
  have hd:decide (p=q)=decide (p.y=q.y):=by
   by_cases hy:p.y=q.y
   ·rw [decide_eq_true hy,decide_eq_true (Go.Cv.Pt.ext hx hy)]
   ·rw [decide_eq_false hy,decide_eq_false (fun h=>hy (by rw [h]))]
  rw [hd]
  apply ZM (fn:=a28) rfl
  simp only [a28,Q0,quiet,cW,↓pW,reduceCtorEq,seval,-Qb,u0,u1,u2,v0,v1,v2,ha,hb,hc,he,q1,q2,Qn,Q6,QY,Zf,ZY,Zg,QQ,p1,p2,Ja]
  rfl
 ·rw [decide_eq_false hx] at q1
  rw [decide_eq_false (fun h=>hx (by rw [h]))]
  apply ZM (fn:=a28) rfl
  simp only [a28,Q0,quiet,cW,↓pW,reduceCtorEq,seval,-Qb,u0,u1,u2,v0,v1,v2,ha,hb,hc,he,q1,q2,Qn,Q6,QY,Zf,ZY,Zg,QQ,p1,p2,Ja]
  rfl
theorem dk (p:Go.Cv.Pt Go.Fp.P Go.Fp.d):XU (XU (XU p p) (XU p p)) (XU (XU p p) (XU p p))=JP 8 p:=by
 have h2:JP 2 p=XU p p:=Go.Cv.mul_two Go.Fp.fld p
 have h4:JP 4 p=XU (JP 2 p) (JP 2 p):=Go.Cv.mul_add Go.Fp.fld 2 2 p
 have h8:JP 8 p=XU (JP 4 p) (JP 4 p):=Go.Cv.mul_add Go.Fp.fld 4 4 p
 rw [h8,h4,h2]
theorem mn (h:RepL l p):ZB T 62 [eV l]=some (.bool (decide (JP 8 p=K9))):=by
 obtain ⟨a,ha,ra⟩:=A9 h
 obtain ⟨b,hb,rb⟩:=A9 ra
 obtain ⟨c,hc,rc⟩:=A9 rb
 obtain ⟨z,hz,rz⟩:=Im
 have he:=iH rc rz
 rw [dk] at he
 have p1:=h.len
 apply ZM (fn:=a39) rfl
 simp only [a39,Q0,quiet,cW,↓pW,reduceCtorEq,seval,-Qb,ha,hb,hc,hz,he,Q6,QY,Zf,ZY,Zg,QQ,p1,Ja]
 rfl
def DY (p:Go.Cv.Pt Go.Fp.P Go.Fp.d):Nat:=p.y.val+(p.x.val%2)*2^255
def enc (p:Go.Cv.Pt Go.Fp.P Go.Fp.d):List Nat:=dig 256 32 (DY p)
theorem GR (p:Go.Cv.Pt Go.Fp.P Go.Fp.d):(enc p).length=32:=Zx _ _ _
theorem dg (p:Go.Cv.Pt Go.Fp.P Go.Fp.d):∀ x∈enc p,x<256:=UG
theorem MH (a:Go.Fp.Fe):a.val<2^255:=Kt a.isLt (by rw [Go.Fp.UQ]; decide)
theorem Cr (p:Go.Cv.Pt Go.Fp.P Go.Fp.d):DY p<256^32:=by
 have h1:=MH p.y
 have h2:=Q4 p.x.val (by decide:0<2)
 unfold DY
 have:p.x.val%2*2^255≤1*2^255:=JM _ (by omega)
 have e:(256:Nat)^32=2^255+2^255:=by decide
 omega
theorem GQ {p:Go.Cv.Pt Go.Fp.P Go.Fp.d} (h:RepL l p):ZB T 69 [eV l]=some (.agg (u8s (enc p)).toArray):=by
 obtain ⟨x,y,z,t,rfl,h⟩:=h
 obtain ⟨i,hi,Ei,fi⟩:=bW h.ez
 obtain ⟨a,ha,Ea,fa⟩:=Xv h.ey Ei
 obtain ⟨b,hb,Eb,fb⟩:=Xv h.ex Ei
 have hinv:=Go.Fp.Ll h.nz
 have fa':fe a=p.y:=by rw [fa,fi,h.y]; grobner
 have fb':fe b=p.x:=by rw [fb,fi,h.x]; grobner
 have k1:=Bi Ea
 have k2:=bD Eb
 rw [fa'] at k1
 rw [fb'] at k2
 obtain ⟨u0,u1,u2,u3⟩:=I6 h.ex h.ey h.ez h.et
 have p1:=Vs h.ex h.ey h.ez h.et
 have L1:=Ei.len
 have lk:(dig 256 32 p.y.val).length=32:=Zx _ _ _
 have l0:(dig 256 32 0).length=32:=rfl
 have hz32:Qc 32 (Value.int .u8 0)=u8s (dig 256 32 0):=rfl
 generalize pL x y z t=L at *
 by_cases ho:p.x.val%2=1
 ·rw [decide_eq_true ho] at k2
  have hv:=MH p.y
  obtain ⟨w,hw⟩:∃ w,(dig 256 32 p.y.val)[31]?=some w:=⟨_,Qh (by rw [Zx]; decide)⟩
  have hwc:=Jt hw
  have hw':w<256:=KV (by decide) (Qz hw)
  have hput:=Ms (w:=8) (m:=32) (q:=31) (s:=7) (y:=1) (M:=p.y.val) (by decide) (by decide) hv (by decide)
  have hgd:(dig (2^8) 32 p.y.val).getD 31 0=w:=by rw [Qx]; rw [show (2:Nat)^8=256 from rfl,hw]; rfl
  rw [hgd] at hput
  have hset:=XE (dig 256 32 p.y.val) 31 (w|||128)
  rw [show (dig 256 32 p.y.val).set 31 (w|||128)=enc p from by rw [enc,DY,ho]; exact hput] at hset
  have o1:Zs .or .u8 (w:Int) 128=((w|||128:Nat):Int):=KA (k := .u8) (a:=w) (b:=128) rfl hw' (by decide)
  have le:=GR p
  generalize enc p=E at *
  apply ZM (fn:=a29) rfl
  simp only [a29,Q0,quiet,cW,↓pW,reduceCtorEq,seval,-Qb,hz32,u0,u1,u2,hi,ha,hb,k1,k2,hwc,o1,hset,Qn,Q6,QY,Zf,ZY,Zg,QQ,Qp,lk,l0,le,p1,L1,Ja]
  rfl
 ·rw [decide_eq_false ho] at k2
  have he:enc p=dig 256 32 p.y.val:=by rw [enc,DY,show p.x.val%2=0 by omega,Ks,ZH]
  rw [he]
  generalize dig 256 32 p.y.val=E at *
  apply ZM (fn:=a29) rfl
  simp only [a29,Q0,quiet,cW,↓pW,reduceCtorEq,seval,-Qb,hz32,u0,u1,u2,hi,ha,hb,k1,k2,Qn,Q6,QY,Zf,ZY,Zg,QQ,Qp,lk,l0,p1,L1,Ja]
  rfl
def bxN:Nat:=15112221349535400772501151409588531511454012693041857206046113283949847762202
def byN:Nat:=46316835694926478169428394003475163141307993866256225615783033603165251855960
def Ki:Go.Cv.Pt Go.Fp.P Go.Fp.d:=⟨Go.Fp.fp bxN,Go.Fp.fp byN,by
 unfold Go.Cv.On Go.Fp.d
 have h:(Go.Fp.fp byN*Go.Fp.fp byN:Go.Fp.Fe)=Go.Fp.fp bxN*Go.Fp.fp bxN+(1+Go.Fp.fp Go.Fp.dN*(Go.Fp.fp bxN*Go.Fp.fp bxN)*(Go.Fp.fp byN*Go.Fp.fp byN)):=by
  rw [←Go.Fp.Cp,←Go.Fp.XZ,←Go.Fp.XZ,←Go.Fp.XZ,←Go.Fp.XZ,←Go.Fp.Vi,←Go.Fp.Vi]
  exact Go.Fp.Fm.2 (by decide +kernel)
 grobner⟩
def bxK:List Nat:=dig 256 32 bxN
def byK:List Nat:=dig 256 32 byN
theorem iX:num 256 bxK=bxN:=by decide +kernel
theorem iW:num 256 byK=byN:=by decide +kernel
theorem LG:∃ r,ZB T 66 []=some (eV r)∧RepL r Ki:=by
 have h1:=bC (k:=bxK) (Zx _ _ _) UG
 have h2:=bC (k:=byK) (Zx _ _ _) UG
 have E1:=EI (V:=num 256 bxK%2^255)
 have E2:=EI (V:=num 256 byK%2^255)
 have f1:fe (dig (2^51) 5 (num 256 bxK%2^255))=Go.Fp.fp bxN:=by unfold fe; rw [Ru,iX]; rfl
 have f2:fe (dig (2^51) 5 (num 256 byK%2^255))=Go.Fp.fp byN:=by unfold fe; rw [Ru,iW]; rfl
 generalize dig (2^51) 5 (num 256 bxK%2^255)=X,dig (2^51) 5 (num 256 byK%2^255)=Y at *
 obtain ⟨t,ht,Et,ft⟩:=Xv E1 E2
 have E3:∃ O:List Nat,O=[1,0,0,0,0]:=⟨_,rfl⟩
 obtain ⟨O,hO⟩:=E3
 have E3:El O (2^52):=by rw [hO]; exact Dk
 have v1:ZB T 111 [.int .u32 1]=some (eV O):=by rw [hO]; exact bl
 have f3:fe O=1:=by rw [hO]; exact Dj
 clear hO
 have hf:=DF E1 E2 E3 Et
 have p1:=Vs E1 E2 E3 Et
 refine ⟨pL X Y O t,?_,X,Y,O,t,rfl,E1,E2,E3,Et,by rw [f3]; exact Go.Fp.U0,by rw [f1,f3]; simp only [Ki]; grobner,by rw [f2,f3]; simp only [Ki]; grobner,by rw [ft,f1,f2,f3]; simp only [Ki]; grobner⟩
 have L1:=E1.len
 have L2:=E2.len
 have g1:fillL (Qc 32 (Value.int .u8 0)) [(0,1,.int .u8 26),(1,1,.int .u8 213),(2,1,.int .u8 37),(3,1,.int .u8 143),(4,1,.int .u8 96),(5,1,.int .u8 45),(6,1,.int .u8 86),(7,1,.int .u8 201),(8,1,.int .u8 178),(9,1,.int .u8 167),(10,1,.int .u8 37),(11,1,.int .u8 149),(12,1,.int .u8 96),(13,1,.int .u8 199),(14,1,.int .u8 44),(15,1,.int .u8 105),(16,1,.int .u8 92),(17,1,.int .u8 220),(18,1,.int .u8 214),(19,1,.int .u8 253),(20,1,.int .u8 49),(21,1,.int .u8 226),(22,1,.int .u8 164),(23,1,.int .u8 192),(24,1,.int .u8 254),(25,1,.int .u8 83),(26,1,.int .u8 110),(27,1,.int .u8 205),(28,1,.int .u8 211),(29,1,.int .u8 54),(30,1,.int .u8 105),(31,1,.int .u8 33)]=some (u8s bxK):=by
  have:bxK=[26,213,37,143,96,45,86,201,178,167,37,149,96,199,44,105,92,220,214,253,49,226,164,192,254,83,110,205,211,54,105,33]:=by decide +kernel
  rw [this]; rfl
 have g2:fillL (Qc 32 (Value.int .u8 0)) [(0,1,.int .u8 88),(1,1,.int .u8 102),(2,1,.int .u8 102),(3,1,.int .u8 102),(4,1,.int .u8 102),(5,1,.int .u8 102),(6,1,.int .u8 102),(7,1,.int .u8 102),(8,1,.int .u8 102),(9,1,.int .u8 102),(10,1,.int .u8 102),(11,1,.int .u8 102),(12,1,.int .u8 102),(13,1,.int .u8 102),(14,1,.int .u8 102),(15,1,.int .u8 102),(16,1,.int .u8 102),(17,1,.int .u8 102),(18,1,.int .u8 102),(19,1,.int .u8 102),(20,1,.int .u8 102),(21,1,.int .u8 102),(22,1,.int .u8 102),(23,1,.int .u8 102),(24,1,.int .u8 102),(25,1,.int .u8 102),(26,1,.int .u8 102),(27,1,.int .u8 102),(28,1,.int .u8 102),(29,1,.int .u8 102),(30,1,.int .u8 102),(31,1,.int .u8 102)]=some (u8s byK):=by
  have:byK=[88,102,102,102,102,102,102,102,102,102,102,102,102,102,102,102,102,102,102,102,102,102,102,102,102,102,102,102,102,102,102,102]:=by decide +kernel
  rw [this]; rfl
 generalize pL X Y O t=Q at *
 apply ZM (fn:=a25) rfl
 simp only [a25,Q0,quiet,cW,↓pW,reduceCtorEq,seval,-Qb,g1,g2,h1,h2,v1,ht,hf,Qn,Q6,QY,Zf,ZY,Zg,QQ,p1,L1,L2,Ja]
 rfl
theorem mH (hb:b.length=20) (ha:a.length=n):Q2 20 (Zw n (ns .u64 (a++(b++c))))=ns .u64 b:=by
 simp only [UZ]
 rw [ZL (by rw [QQ]; omega),Ju (by rw [QQ]; omega),Qr,ZZ (by rw [QQ]; omega),Qu (by rw [QQ]; omega)]
theorem PT {l:List Ob} {r d:List Nat} {g:List Ob} (hi:i<n) (hn:n<100) (l1:x.length=20) (l2:o.length=20) (l4:d.length=5) (hm:ZB T 124 [eV o,eV x,eV d]=some (eV r)) (l3:r.length=20)
 (hA:∀ l,(H++l)[id]?=some ⟨cs,true,true,true,1⟩) (hcs:(cs.drop (i*20)).take 20=ns .u64 x) (hlen:i*20+20≤cs.length) :
    Q8 T H.length Tf ⟨[(2,.pointer (some ⟨H.length,0,none⟩)),(3,.pointer (some ⟨H.length+1,0,none⟩)),(4,.pointer (some ⟨H.length+2,0,none⟩)),(9,.slice (some ⟨id,0,none⟩) n n),(10,.int .i64 n),(11,.int .i64 i)],H++(R::⟨ns .u64 o,true,true,true,1⟩::⟨ns .u64 d,true,true,true,1⟩::g),[]⟩ =
      some (.normal,⟨[(2,.pointer (some ⟨H.length,0,none⟩)),(3,.pointer (some ⟨H.length+1,0,none⟩)),(4,.pointer (some ⟨H.length+2,0,none⟩)),(9,.slice (some ⟨id,0,none⟩) n n),(10,.int .i64 n),(11,.int .i64 ((i+1:Nat):Int))],H++(R::⟨ns .u64 r,true,true,true,1⟩::⟨ns .u64 d,true,true,true,1⟩::(g++[⟨ns .u64 x,true,true,true,1⟩])),[]⟩):=by
  have hz:∃ Z,Qc 20 (Value.int .u64 0)=ns .u64 Z∧Z.length=20:=⟨Qc 20 0,rfl,rfl⟩
  obtain ⟨Z,hz,l0⟩:=hz
  have e1:((i:Int)<(n:Int))=True:=eq_true (by omega)
  have w3:IntKind.i64.wrap ((i:Int)+1)=((i+1:Nat):Int):=Jf (n:=i+1) (by omega)
  simp only [Tf,Q0,quiet,cF,Jw,ZA,↓pQ,reduceCtorEq,seval,-Qb,cL,cJ,Zi,hz,hA,hcs,hlen,hm,QY,Zf,ZY,Zg,QQ,l0,l1,l2,l3,l4,Ja,e1,w3]
inductive Reps:List (List Nat)→List (Go.Cv.Pt Go.Fp.P Go.Fp.d)→Prop
 | nil:Reps [] []
 | cons {x xs p ps}:RepL x p→Reps xs ps→Reps (x::xs) (p::ps)
theorem Reps.len {xs:List (List Nat)} {ps:List (Go.Cv.Pt Go.Fp.P Go.Fp.d)} (h:Reps xs ps):xs.length=ps.length:=by
 induction h with
 | nil=>rfl
 | cons _ _ ih=>simp [ih]
theorem Reps.all {xs:List (List Nat)} {ps:List (Go.Cv.Pt Go.Fp.P Go.Fp.d)} (h:Reps xs ps):∀ x∈xs,x.length=20:=by
 induction h with
 | nil=>simp
 | cons h _ ih=>intro y hy; rcases J6.1 hy with rfl | hy; exact h.len; exact ih y hy
theorem Reps.get {xs:List (List Nat)} {ps:List (Go.Cv.Pt Go.Fp.P Go.Fp.d)} (h:Reps xs ps):∀ {i:Nat} {x:List Nat},xs[i]?=some x→∃ p,ps[i]?=some p∧RepL x p:=by
 induction h with
 | nil=>intro i x h; simp at h
 | cons h _ ih =>
  intro i x hx
  cases i with
  | zero=>simp at hx; subst hx; exact ⟨_,rfl,h⟩
  | succ i=>simp at hx; simpa using ih hx
theorem cT:∀ (ys:List (List Nat)),(∀ x∈ys,x.length=20)→ys.flatten.length=ys.length*20:=by
 intro ys hy
 induction ys with
 | nil=>rfl
 | cons y ys ih =>
  rw [QK,Qg,ih (fun x hx=>hy x (by simp [hx])),(hy y (by simp)),Zn]; omega
theorem kJ {xs:List (List Nat)} {ps:List (Go.Cv.Pt Go.Fp.P Go.Fp.d)} (hn:xs.length=n) (hN:n<100) (hx:Reps xs ps) (h:H[id]?=some ⟨ns .u64 xs.flatten,true,true,true,1⟩) :
  ∃ r d,Zd T 65 [.slice (some ⟨id,0,none⟩) n n] H=some (eV r,H++(⟨ns .u64 r,true,true,true,1⟩::⟨ns .u64 r,true,true,true,1⟩::⟨ns .u64 d,true,true,true,1⟩::xs.map fun x=>(⟨ns .u64 x,true,true,true,1⟩:Ob)),[])∧RepL r (ps.foldl XU K9):=by
 have hid:id<H.length:=(Qf.1 h).1
 have hA:∀ l,(H++l)[id]?=some ⟨ns .u64 xs.flatten,true,true,true,1⟩:=fun l=>by rw [Qa hid]; exact h
 obtain ⟨d,hd,Ed,fd⟩:=R8
 obtain ⟨z,hz,Ez⟩:=Im
 have hZ:∃ Z,Qc 20 (Value.int .u64 0)=ns .u64 Z∧Z.length=20:=⟨Qc 20 0,rfl,rfl⟩
 obtain ⟨Z,hZ,l0⟩:=hZ
 obtain ⟨st,hb,r,rfl,hr1⟩:=Zc (T:=T) (base:=H.length) (id:=0) (body:=Tf)
  (fun i st=>∃ r:List Nat,st=⟨[(2,.pointer (some ⟨H.length,0,none⟩)),(3,.pointer (some ⟨H.length+1,0,none⟩)),(4,.pointer (some ⟨H.length+2,0,none⟩)),(9,.slice (some ⟨id,0,none⟩) n n),(10,.int .i64 n),(11,.int .i64 (i:Nat))],H++(⟨ns .u64 Z,true,true,true,1⟩::⟨ns .u64 r,true,true,true,1⟩::⟨ns .u64 d,true,true,true,1⟩::((xs.take i).map fun x=>(⟨ns .u64 x,true,true,true,1⟩:Ob))),[]⟩∧RepL r ((ps.take i).foldl XU K9))
  (Q:=fun st=>∃ r:List Nat,st=⟨[(2,.pointer (some ⟨H.length,0,none⟩)),(3,.pointer (some ⟨H.length+1,0,none⟩)),(4,.pointer (some ⟨H.length+2,0,none⟩)),(9,.slice (some ⟨id,0,none⟩) n n),(10,.int .i64 n),(11,.int .i64 n),(12,.bool false)],H++(⟨ns .u64 Z,true,true,true,1⟩::⟨ns .u64 r,true,true,true,1⟩::⟨ns .u64 d,true,true,true,1⟩::(xs.map fun x=>(⟨ns .u64 x,true,true,true,1⟩:Ob))),[]⟩∧RepL r (ps.foldl XU K9))
  n (s:=⟨[(2,.pointer (some ⟨H.length,0,none⟩)),(3,.pointer (some ⟨H.length+1,0,none⟩)),(4,.pointer (some ⟨H.length+2,0,none⟩)),(9,.slice (some ⟨id,0,none⟩) n n),(10,.int .i64 n),(11,.int .i64 0)],H++[⟨ns .u64 Z,true,true,true,1⟩,⟨ns .u64 z,true,true,true,1⟩,⟨ns .u64 d,true,true,true,1⟩],[]⟩) ⟨z,rfl,Ez⟩
  (fun i st hi hs=>by
   obtain ⟨r,rfl,hr1⟩:=hs
   obtain ⟨x,hxi⟩:∃ y,xs[i]?=some y:=⟨_,Qh (by omega)⟩
   obtain ⟨p,hpi,hxe⟩:=hx.get hxi
   obtain ⟨r',hm,g1⟩:=kW hr1 hxe Ed fd
   have hsplit:xs=xs.take i++x::xs.drop (i+1):=by
    have h1:=Qf.1 hxi
    conv=>lhs; rw [←ZV i xs,JN h1.1,h1.2]
   have htl:(xs.take i).flatten.length=i*20:=by
    rw [cT _ (fun y hy=>hx.all y (QP hy)),Q7,Ze (by omega)]
   have hcs:((ns .u64 xs.flatten).drop (i*20)).take 20=ns .u64 x:=by
    conv=>lhs; rw [hsplit,Zr,QK]
    exact mH hxe.len htl
   have hb:=PT (R:=⟨ns .u64 Z,true,true,true,1⟩) (g:=(xs.take i).map fun x=>(⟨ns .u64 x,true,true,true,1⟩:Ob)) (l:=[]) hi hN hxe.len hr1.len Ed.len hm g1.len hA hcs (by rw [QQ,cT xs hx.all,hn]; omega)
   have htk:xs.take (i+1)=xs.take i++[x]:=by rw [ZG,hxi]; rfl
   have htp:ps.take (i+1)=ps.take i++[p]:=by rw [ZG,hpi]; rfl
   refine ⟨_,hb,r',?_,?_⟩
   ·rw [htk,JS]; rfl
   ·rw [htp,List.foldl_append]; exact g1)
  (fun st hs=>by
   obtain ⟨r,rfl,hr1⟩:=hs
   have e1:((n:Int)<(n:Int))=False:=eq_false (by omega)
   have ht:xs.take n=xs:=Qu (by omega)
   have ht2:ps.take n=ps:=Qu (by have:=hx.len; omega)
   rw [ht2] at hr1
   rw [ht]
   refine ⟨_,?_,r,rfl,hr1⟩
   simp only [Tf,Q0,quiet,cF,Jw,ZA,↓pQ,reduceCtorEq,seval,-Qb,cL,e1])
 refine ⟨r,d,?_,hr1⟩
 have l1:=hr1.len
 have l2:=Ez.len
 have l3:=Ed.len
 rw [QE (fn:=a27) rfl]
 have hz5:Qc 5 (Value.int .u64 0)=ns .u64 [0,0,0,0,0]:=rfl
 have l5:([0,0,0,0,0]:List Nat).length=5:=rfl
 simp only [a27,Q0,quiet,cF,Jw,ZA,↓pQ,reduceCtorEq,seval,-Qb,cL,cJ,Zi,hZ,hz5,l5,hd,hz,hb,QY,Zf,ZY,Zg,QQ,l0,l1,l2,l3,Ja]
theorem fold2:[p,q].foldl XU K9=XU p q:=by
 show XU (XU K9 p) q=_
 rw [show XU K9 p=p from Go.Cv.zero_add Go.Fp.fld p]
def Y9 (u v:Go.Fp.Fe):Go.Fp.Fe:=u*(v*v*v)*Go.Fp.pow (u*(v*v*v)*(v*v*v)*v) (2^252-1-2)
def jj:Go.Fp.Fe:=Go.Fp.pow 2 (2^253-1-4)
theorem jj_eq:jj=Go.Fp.iQ:=by
 show Go.Fp.pow (Go.Fp.fp 2) _=Go.Fp.fp Go.Fp.iN
 exact Go.Fp.Eh (f:=256) (by decide +kernel) (by decide +kernel)
theorem jj_sq:jj*jj = -1:=by rw [jj_eq]; exact Go.Fp.I4
theorem quarter:(2^252-1-2)+(2^252-1-2)+1+((2^252-1-2)+(2^252-1-2)+1)=(Go.Fp.P-1)/2:=by rw [Go.Fp.UQ]
theorem gK {u v s:Go.Fp.Fe} (h1:v*Y9 u v*Y9 u v≠u) (h2:v*Y9 u v*Y9 u v ≠ -u):v*(s*s)≠u:=fun hs=>by
 have F:=Go.Fp.fld
 obtain ⟨g,hg⟩:∃ g,g=v*v*v*v*s:=⟨_,rfl⟩
 have ht:u*(v*v*v)*(v*v*v)*v=g*g:=by subst hg; subst hs; grobner
 rcases Go.Fp.Ek g with h | h
 ·obtain ⟨k,hk⟩:∃ k,k=2^252-1-2:=⟨_,rfl⟩
  have hq:=quarter
  rw [←hk] at hq
  rw [←hq,Go.Fp.pow_add,Go.Fp.pow_add,Go.Fp.pow_add,Go.Fp.pow_one] at h
  have hw:Y9 u v=u*(v*v*v)*Go.Fp.pow (g*g) k:=by unfold Y9; rw [ht,hk]
  rw [hw] at h1 h2
  generalize Go.Fp.pow (g*g) k=q at *
  have he:(q*q*(g*g)-1)*(q*q*(g*g)+1)=0:=by clear h1 h2 hw ht hg hs; grobner
  have hv:v*(u*(v*v*v)*q)*(u*(v*v*v)*q)=u*(q*q*(g*g)):=by clear h1 h2 hw hg hs he h; grobner
  rcases F.dom he with h | h
  ·exact h1 (by rw [hv]; clear h1 h2 hw ht hg hs he hv; grobner)
  ·exact h2 (by rw [hv]; clear h1 h2 hw ht hg hs he hv; grobner)
 ·have hu:u*(v*v*v)*(v*v*v)*v=0:=by rw [ht,h]; grobner
  have hu0:u=0:=by
   rcases F.dom hu with h0 | h0
   ·rcases F.dom h0 with h0 | h0
    ·rcases F.dom h0 with h0 | h0
     ·exact h0
     ·rcases F.dom h0 with h0 | h0
      ·rcases F.dom h0 with h0 | h0<;>(rw [←hs,h0]; grobner)
      ·rw [←hs,h0]; grobner
    ·rcases F.dom h0 with h0 | h0
     ·rcases F.dom h0 with h0 | h0<;>(rw [←hs,h0]; grobner)
     ·rw [←hs,h0]; grobner
   ·rw [←hs,h0]; grobner
  exact h1 (by unfold Y9; rw [hu0]; grobner)
theorem gg:ZB T 176 [.int .i64 252,.int .u8 2]=some (.agg (u8s (dig 256 32 (2^252-1-2))).toArray):=IM (n:=252) (less:=2) (by decide) (by decide) (by decide)
theorem fZ:ZB T 176 [.int .i64 253,.int .u8 4]=some (.agg (u8s (dig 256 32 (2^253-1-4))).toArray):=IM (n:=253) (less:=4) (by decide) (by decide) (by decide)
def CV (r:List Nat) (ok:Bool):Value := .tuple #[eV r,.bool ok]
theorem mz {u v:List Nat} (Eu:El u (2^52)) (Ev:El v (2^52)) :
  ∃ r ok,ZB T 109 [eV u,eV v]=some (CV r ok)∧El r (2^52)∧(ok=true→fe v*(fe r*fe r)=fe u∧((fe r).val%2=0∨fe r=0))∧(ok=false→∀ s,fe v*(s*s)≠fe u):=by
 obtain ⟨r1,hr1,Er1,fr1⟩:=WB (H:=[⟨ns .u64 u,true,true,true,1⟩,⟨ns .u64 v,true,true,true,1⟩,⟨ns .u64 [0,0,0,0,0],true,true,true,1⟩,⟨ns .u64 [v,v,v].flatten,true,true,true,1⟩]) (id:=3) (n:=3) (xs:=[v,v,v]) rfl (by decide) (by intro w hw; simp only [J6,JI,or_false] at hw; rcases hw with rfl | rfl | rfl<;>assumption) rfl
 simp only [Jg,JO,Qw,Qr] at hr1
 simp only [Jg,JO,Xs,Vp] at fr1
 obtain ⟨r2,hr2,Er2,fr2⟩:=WB (H:=[⟨ns .u64 u,true,true,true,1⟩,⟨ns .u64 v,true,true,true,1⟩,⟨ns .u64 [0,0,0,0,0],true,true,true,1⟩,⟨ns .u64 [v,v,v].flatten,true,true,true,1⟩,⟨ns .u64 r1,true,true,true,1⟩,⟨ns .u64 r1,true,true,true,1⟩,⟨ns .u64 v,true,true,true,1⟩,⟨ns .u64 v,true,true,true,1⟩,⟨ns .u64 v,true,true,true,1⟩,⟨ns .u64 r1,true,true,true,1⟩,⟨ns .u64 [u,r1,r1,v].flatten,true,true,true,1⟩]) (id:=10) (n:=4) (xs:=[u,r1,r1,v]) rfl (by decide) (by intro w hw; simp only [J6,JI,or_false] at hw; rcases hw with rfl | rfl | rfl | rfl<;>assumption) rfl
 simp only [Jg,JO,Qw,Qr] at hr2
 simp only [Jg,JO,Xs,Vp] at fr2
 obtain ⟨r3,hr3,Er3,fr3⟩:=Ga (n:=252) (less:=2) Er2 (by decide) (by decide) (by decide)
 obtain ⟨r4,hr4,Er4,fr4⟩:=WB (H:=[⟨ns .u64 u,true,true,true,1⟩,⟨ns .u64 v,true,true,true,1⟩,⟨ns .u64 [0,0,0,0,0],true,true,true,1⟩,⟨ns .u64 [v,v,v].flatten,true,true,true,1⟩,⟨ns .u64 r1,true,true,true,1⟩,⟨ns .u64 r1,true,true,true,1⟩,⟨ns .u64 v,true,true,true,1⟩,⟨ns .u64 v,true,true,true,1⟩,⟨ns .u64 v,true,true,true,1⟩,⟨ns .u64 r1,true,true,true,1⟩,⟨ns .u64 [u,r1,r1,v].flatten,true,true,true,1⟩,⟨ns .u64 r2,true,true,true,1⟩,⟨ns .u64 r2,true,true,true,1⟩,⟨ns .u64 u,true,true,true,1⟩,⟨ns .u64 r1,true,true,true,1⟩,⟨ns .u64 r1,true,true,true,1⟩,⟨ns .u64 v,true,true,true,1⟩,⟨ns .u64 [u,r1,r3].flatten,true,true,true,1⟩]) (id:=17) (n:=3) (xs:=[u,r1,r3]) rfl (by decide) (by intro w hw; simp only [J6,JI,or_false] at hw; rcases hw with rfl | rfl | rfl<;>assumption) rfl
 simp only [Jg,JO,Qw,Qr] at hr4
 simp only [Jg,JO,Xs,Vp] at fr4
 obtain ⟨r5,hr5,Er5,fr5⟩:=WB (H:=[⟨ns .u64 u,true,true,true,1⟩,⟨ns .u64 v,true,true,true,1⟩,⟨ns .u64 [0,0,0,0,0],true,true,true,1⟩,⟨ns .u64 [v,v,v].flatten,true,true,true,1⟩,⟨ns .u64 r1,true,true,true,1⟩,⟨ns .u64 r1,true,true,true,1⟩,⟨ns .u64 v,true,true,true,1⟩,⟨ns .u64 v,true,true,true,1⟩,⟨ns .u64 v,true,true,true,1⟩,⟨ns .u64 r1,true,true,true,1⟩,⟨ns .u64 [u,r1,r1,v].flatten,true,true,true,1⟩,⟨ns .u64 r2,true,true,true,1⟩,⟨ns .u64 r2,true,true,true,1⟩,⟨ns .u64 u,true,true,true,1⟩,⟨ns .u64 r1,true,true,true,1⟩,⟨ns .u64 r1,true,true,true,1⟩,⟨ns .u64 v,true,true,true,1⟩,⟨ns .u64 [u,r1,r3].flatten,true,true,true,1⟩,⟨ns .u64 r4,true,true,true,1⟩,⟨ns .u64 r4,true,true,true,1⟩,⟨ns .u64 u,true,true,true,1⟩,⟨ns .u64 r1,true,true,true,1⟩,⟨ns .u64 r3,true,true,true,1⟩,⟨ns .u64 r4,true,true,true,1⟩,⟨ns .u64 [v,r4,r4].flatten,true,true,true,1⟩]) (id:=24) (n:=3) (xs:=[v,r4,r4]) rfl (by decide) (by intro w hw; simp only [J6,JI,or_false] at hw; rcases hw with rfl | rfl | rfl<;>assumption) rfl
 simp only [Jg,JO,Qw,Qr] at hr5
 simp only [Jg,JO,Xs,Vp] at fr5
 have k1:=iI Er5 Eu
 obtain ⟨nu,hnu,Enu,fnu⟩:=Aa Eu
 have k2:=iI Er5 Enu
 obtain ⟨two,htwo⟩:∃ two:List Nat,two=[2,0,0,0,0]:=⟨_,rfl⟩
 have Etwo:El two (2^52):=by rw [htwo]; exact S6
 have vtwo:ZB T 111 [.int .u32 2]=some (eV two):=by rw [htwo]; exact S4
 have ftwo:fe two=2:=by rw [htwo]; exact Iw
 clear htwo
 obtain ⟨j,hj,Ej,fj⟩:=Ga (n:=253) (less:=4) Etwo (by decide) (by decide) (by decide)
 obtain ⟨q,hq,Eq,fq⟩:=Xv Er4 Ej
 obtain ⟨n1,hn1,En1,fn1⟩:=Aa Er4
 obtain ⟨n2,hn2,En2,fn2⟩:=Aa Eq
 have o1:=bD Er4
 have o2:=bD Eq
 have c1:=gg
 have c2:=fZ
 have g1:=Fv Ev Ev Ev
 have g2:=DF Eu Er1 Er1 Ev
 rw [Nq] at g2
 have g3:=Fv Eu Er1 Er3
 have g4:=Fv Ev Er4 Er4
 have hw:fe r4=Y9 (fe u) (fe v):=by
  rw [fr4,fr3,fr1,fr2,fr1]; unfold Y9
  rw [show (1*fe u*(1*fe v*fe v*fe v)*(1*fe v*fe v*fe v)*fe v)=fe u*(fe v*fe v*fe v)*(fe v*fe v*fe v)*fe v from by grobner]
  generalize Go.Fp.pow _ _=p
  grobner
 have hjj:fe j=jj:=by rw [fj,ftwo]; rfl
 have l1:=Eu.len
 have l2:=Ev.len
 have l3:=Er1.len
 have l4:=Er4.len
 have l5:=Er5.len
 have l6:=Eq.len
 have l7:=En1.len
 have l8:=En2.len
 have hz5:Qc 5 (Value.int .u64 0)=ns .u64 [0,0,0,0,0]:=rfl
 have hf5:fillL (ns .u64 [0,0,0,0,0]) []=some (ns .u64 [0,0,0,0,0]):=rfl
 have l0:([0,0,0,0,0]:List Nat).length=5:=rfl
 clear Ej Etwo ftwo fj
 generalize dig 256 32 (2^252-1-2)=K1,dig 256 32 (2^253-1-4)=K2 at *
 have hsq:fe r5=fe v*Y9 (fe u) (fe v)*Y9 (fe u) (fe v):=by rw [fr5,hw]; generalize Y9 (fe u) (fe v)=w; grobner
 have evn:∀ a:Go.Fp.Fe,a.val%2=1→(-a).val%2=0 ∨ -a=0:=by
  intro a ha
  left
  have hlt:=a.isLt
  have h0:(Go.Fp.P-a.val)<Go.Fp.P:=by omega
  have h1:(-a).val=(Go.Fp.P-a.val)%Go.Fp.P:=rfl
  rw [h1,QF h0]
  have hP:Go.Fp.P%2=1:=by rw [Go.Fp.UQ]
  omega
 by_cases hA:fe r5=fe u
 ·rw [decide_eq_true hA] at k1
  have hroot:fe v*(fe r4*fe r4)=fe u:=by rw [←hA,hsq,hw]; generalize Y9 (fe u) (fe v)=w; grobner
  by_cases hO:(fe r4).val%2=1
  ·rw [decide_eq_true hO] at o1
   refine ⟨n1,true,?_,En1,fun _=>⟨?_,?_⟩,fun h=>by cases h⟩
   ·apply ZM (fn:=a60) rfl
    simp only [a60,Q0,quiet,cW,↓pW,reduceCtorEq,seval,-Qb,hz5,hf5,l0,g1,g2,g3,g4,c1,c2,hr1,hr2,hr3,hr4,hr5,k1,o1,hn1,l1,l2,l3,l4,l5,l7,Qn,Q6,QY,Zf,ZY,Zg,QQ,Ja]
    rfl
   ·rw [fn1,←hroot]; generalize fe r4=w; grobner
   ·rw [fn1]; exact evn _ hO
  ·rw [decide_eq_false hO] at o1
   refine ⟨r4,true,?_,Er4,fun _=>⟨hroot,by left; omega⟩,fun h=>by cases h⟩
   apply ZM (fn:=a60) rfl
   simp only [a60,Q0,quiet,cW,↓pW,reduceCtorEq,seval,-Qb,hz5,hf5,l0,g1,g2,g3,g4,c1,c2,hr1,hr2,hr3,hr4,hr5,k1,o1,hn1,l1,l2,l3,l4,l5,l7,Qn,Q6,QY,Zf,ZY,Zg,QQ,Ja]
   rfl
 ·rw [decide_eq_false hA] at k1
  by_cases hB:fe r5=fe nu
  ·rw [decide_eq_true hB] at k2
   have hroot:fe v*(fe q*fe q)=fe u:=by
    have hs:=jj_sq
    rw [hsq,fnu] at hB
    rw [fq,hw,hjj]
    generalize Y9 (fe u) (fe v)=w at *
    clear k1 k2 o1 o2 c1 c2 hA hsq hw fr1 fr2 fr3 fr4 fr5
    grobner
   by_cases hO:(fe q).val%2=1
   ·rw [decide_eq_true hO] at o2
    refine ⟨n2,true,?_,En2,fun _=>⟨?_,?_⟩,fun h=>by cases h⟩
    ·apply ZM (fn:=a60) rfl
     simp only [a60,Q0,quiet,cW,↓pW,reduceCtorEq,seval,-Qb,hz5,hf5,l0,g1,g2,g3,g4,c1,c2,hr1,hr2,hr3,hr4,hr5,k1,k2,hnu,vtwo,hj,hq,o2,hn2,l1,l2,l3,l4,l5,l6,l8,Qn,Q6,QY,Zf,ZY,Zg,QQ,Ja]
     rfl
    ·rw [fn2,←hroot]; generalize fe q=w; grobner
    ·rw [fn2]; exact evn _ hO
   ·rw [decide_eq_false hO] at o2
    refine ⟨q,true,?_,Eq,fun _=>⟨hroot,by left; omega⟩,fun h=>by cases h⟩
    apply ZM (fn:=a60) rfl
    simp only [a60,Q0,quiet,cW,↓pW,reduceCtorEq,seval,-Qb,hz5,hf5,l0,g1,g2,g3,g4,c1,c2,hr1,hr2,hr3,hr4,hr5,k1,k2,hnu,vtwo,hj,hq,o2,hn2,l1,l2,l3,l4,l5,l6,l8,Qn,Q6,QY,Zf,ZY,Zg,QQ,Ja]
    rfl
  ·rw [decide_eq_false hB] at k2
   refine ⟨[0,0,0,0,0],false,?_,MA,fun h=>(by cases h),fun _ s=>gK (by rw [←hsq]; exact hA) (by rw [←hsq,←fnu]; exact hB)⟩
   apply ZM (fn:=a60) rfl
   simp only [a60,Q0,quiet,cW,↓pW,reduceCtorEq,seval,-Qb,hz5,hf5,l0,g1,g2,g3,g4,c1,c2,hr1,hr2,hr3,hr4,hr5,k1,k2,hnu,l1,l2,l3,l4,l5,Qn,Q6,QY,Zf,ZY,Zg,QQ,Ja]
   rfl
end Go.Ev.YtomfgcgnepfmjaaGreat
namespace Go.Ev.YtomfgcgnepfmjaaGreat
open Go Go.Ev
attribute [local congr] Jq Jz Jp J2 Jb
set_option maxRecDepth 100000
variable {i x n a r id off cap:Nat} {b L s k l w:List Nat} {H:List Ob} {p q:Go.Cv.Pt Go.Fp.P Go.Fp.d}
structure Jac where
 x:Nat
 y:Nat
 z:Nat
 t:Nat
structure JRep (a:Jac) (p:Go.Cv.Pt Go.Fp.P Go.Fp.d):Prop where
 nz:Go.Fp.fp a.z≠0
 x:Go.Fp.fp a.x=p.x*Go.Fp.fp a.z
 y:Go.Fp.fp a.y=p.y*Go.Fp.fp a.z
 t:Go.Fp.fp a.t=p.x*p.y*Go.Fp.fp a.z
def EK (a b:Nat):Nat:=a+(Go.Fp.P-b%Go.Fp.P)
theorem Bc (a b:Nat):Go.Fp.fp (EK a b)=Go.Fp.fp a-Go.Fp.fp b:=by
 unfold EK
 have h:b%Go.Fp.P≤Go.Fp.P:=Xi (Q4 _ (by rw [Go.Fp.UQ]; decide))
 rw [Go.Fp.Vi,Go.Fp.nE h,Go.Fp.fp_P,Go.Fp.Yq]
 grobner
def R3 (a b:Jac):Nat:=EK a.y a.x*EK b.y b.x%Go.Fp.P
def R2 (a b:Jac):Nat:=(a.y+a.x)*(b.y+b.x)%Go.Fp.P
def R1 (a b:Jac):Nat:=1*2*Go.Fp.dN*a.t*b.t%Go.Fp.P
def R0 (a b:Jac):Nat:=1*2*a.z*b.z%Go.Fp.P
def jfin (a b c e:Nat):Jac:=⟨EK b a*EK e c%Go.Fp.P,(e+c)*(b+a)%Go.Fp.P,EK e c*(e+c)%Go.Fp.P,EK b a*(b+a)%Go.Fp.P⟩
def EY (a b:Jac):Jac:=jfin (R3 a b) (R2 a b) (R1 a b) (R0 a b)
theorem JRep.add {a b:Jac} {p q:Go.Cv.Pt Go.Fp.P Go.Fp.d} (h1:JRep a p) (h2:JRep b q):JRep (EY a b) (XU p q):=by
 have ha:Go.Fp.fp (R3 a b)=(Go.Fp.fp a.y-Go.Fp.fp a.x)*(Go.Fp.fp b.y-Go.Fp.fp b.x):=by
  unfold R3; rw [Go.Fp.Yq,Go.Fp.XZ,Bc,Bc]
 have hb:Go.Fp.fp (R2 a b)=(Go.Fp.fp a.y+Go.Fp.fp a.x)*(Go.Fp.fp b.y+Go.Fp.fp b.x):=by
  unfold R2; rw [Go.Fp.Yq,Go.Fp.XZ,Go.Fp.Vi,Go.Fp.Vi]
 have hc:Go.Fp.fp (R1 a b)=1*2*Go.Fp.d*Go.Fp.fp a.t*Go.Fp.fp b.t:=by
  unfold R1; rw [Go.Fp.Yq,Go.Fp.XZ,Go.Fp.XZ,Go.Fp.XZ,Go.Fp.XZ,Go.Fp.Cp,Go.Fp.cQ]; rfl
 have hd:Go.Fp.fp (R0 a b)=1*2*Go.Fp.fp a.z*Go.Fp.fp b.z:=by
  unfold R0; rw [Go.Fp.Yq,Go.Fp.XZ,Go.Fp.XZ,Go.Fp.XZ,Go.Fp.Cp,Go.Fp.cQ]
 have hx:Go.Fp.fp (EY a b).x=(Go.Fp.fp (R2 a b)-Go.Fp.fp (R3 a b))*(Go.Fp.fp (R0 a b)-Go.Fp.fp (R1 a b)):=by
  show Go.Fp.fp (_%_)=_; rw [Go.Fp.Yq,Go.Fp.XZ,Bc,Bc]
 have hy:Go.Fp.fp (EY a b).y=(Go.Fp.fp (R0 a b)+Go.Fp.fp (R1 a b))*(Go.Fp.fp (R2 a b)+Go.Fp.fp (R3 a b)):=by
  show Go.Fp.fp (_%_)=_; rw [Go.Fp.Yq,Go.Fp.XZ,Go.Fp.Vi,Go.Fp.Vi]
 have hz:Go.Fp.fp (EY a b).z=(Go.Fp.fp (R0 a b)-Go.Fp.fp (R1 a b))*(Go.Fp.fp (R0 a b)+Go.Fp.fp (R1 a b)):=by
  show Go.Fp.fp (_%_)=_; rw [Go.Fp.Yq,Go.Fp.XZ,Go.Fp.Vi,Bc]
 have ht:Go.Fp.fp (EY a b).t=(Go.Fp.fp (R2 a b)-Go.Fp.fp (R3 a b))*(Go.Fp.fp (R2 a b)+Go.Fp.fp (R3 a b)):=by
  show Go.Fp.fp (_%_)=_; rw [Go.Fp.Yq,Go.Fp.XZ,Go.Fp.Vi,Bc]
 obtain ⟨g1,g2,g3,g4⟩:=TP h1.x h1.y h1.t h2.x h2.y h2.t ha hb hc hd hx hy hz ht (Go.Cv.Hg Go.Fp.fld p q) (Go.Cv.Hf Go.Fp.fld p q)
 refine ⟨?_,g1,g2,g3⟩
 rw [g4]
 have F:=Go.Fp.fld
 have w:=F.mul_ne (F.mul_ne F.two h1.nz) h2.nz
 exact F.mul_ne (F.mul_ne w w) (F.mul_ne (F.denM p.on q.on) (F.denP p.on q.on))
def OZ (p:Jac):Nat→Nat→Jac
 | 0,_=>⟨0,1,1,0⟩
 | f+1,k=>(fun r=>if k%2=1 then EY (EY r r) p else EY r r) (OZ p f (k/2))
theorem JRep.mul {a:Jac} {p:Go.Cv.Pt Go.Fp.P Go.Fp.d} (h:JRep a p):∀ {f k:Nat},k<2^f→JRep (OZ a f k) (JP k p)
 | 0,k,hk=>by
  have:k=0:=by omega
  subst this
  exact ⟨Go.Fp.U0,by show (0:Go.Fp.Fe)=0*1; grobner,by show (1:Go.Fp.Fe)=1*1; grobner,by show (0:Go.Fp.Fe)=0*1*1; grobner⟩
 | f+1,k,hk=>by
  have ih:=JRep.mul h (f:=f) (k:=k/2) (by omega)
  have hb:=Q4 k (by decide:0<2)
  have e:JP k p=JP (2*(k/2)+k%2) p:=by rw [ZP]
  rw [e,TO p (k/2) (k%2) hb]
  simp only [OZ]
  split
  ·exact (ih.add ih).add h
  ·exact ih.add ih
def N6:Jac:=⟨bxN,byN,1,bxN*byN%Go.Fp.P⟩
theorem Af:JRep N6 Ki:=by
 have h1:Go.Fp.fp 1=(1:Go.Fp.Fe):=rfl
 refine ⟨Go.Fp.U0,?_,?_,?_⟩
 ·show Go.Fp.fp bxN=Go.Fp.fp bxN*Go.Fp.fp 1; rw [h1]; grobner
 ·show Go.Fp.fp byN=Go.Fp.fp byN*Go.Fp.fp 1; rw [h1]; grobner
 ·show Go.Fp.fp (bxN*byN%Go.Fp.P)=Go.Fp.fp bxN*Go.Fp.fp byN*Go.Fp.fp 1; rw [h1,Go.Fp.Yq,Go.Fp.XZ]; grobner
theorem L4:JP 8 Ki≠K9:=fun h=>by
 have r:=Af.mul (f:=4) (k:=8) (by decide)
 rw [h] at r
 have hx:=r.x
 rw [show (K9:Go.Cv.Pt Go.Fp.P Go.Fp.d).x=0 from rfl] at hx
 have h0:Go.Fp.fp (OZ N6 4 8).x=Go.Fp.fp 0:=by rw [hx]; show _=(0:Go.Fp.Fe); grobner
 have h1:=Go.Fp.Fm.1 h0
 have h2:(OZ N6 4 8).x%Go.Fp.P≠0%Go.Fp.P:=by decide +kernel
 exact h2 h1
theorem bU {a:Jac} (r:JRep a q) (c1:a.x%Go.Fp.P=0%Go.Fp.P) (c2:a.y%Go.Fp.P=a.z%Go.Fp.P):q=K9:=by
 have d1:=Go.Fp.Fm.2 c1
 have d2:=Go.Fp.Fm.2 c2
 have F:=Go.Fp.fld
 have hx:=r.x
 have hy:=r.y
 have hz:=r.nz
 rw [d1] at hx
 rw [d2] at hy
 generalize Go.Fp.fp a.z=z at *
 apply Go.Cv.Pt.ext
 ·show _=(0:Go.Fp.Fe)
  have h0:Go.Fp.fp 0=(0:Go.Fp.Fe):=rfl
  rw [h0] at hx
  refine F.cancel hz ?_
  generalize q.x=w at *
  clear r hy d1 d2
  grobner
 ·show _=(1:Go.Fp.Fe)
  refine F.cancel hz ?_
  generalize q.y=w at *
  clear r hx d1 d2
  grobner
def NI (a:Jac):Bool:=Nat.beq (a.x%Go.Fp.P) 0&&Nat.beq (a.y%Go.Fp.P) (a.z%Go.Fp.P)
theorem dj:NI (OZ N6 253 ell)=true:=by decide +kernel
theorem F7:JP ell Ki=K9:=by
 have h:=dj
 simp only [NI,ZS] at h
 exact bU (Af.mul (f:=253) (k:=ell) (by decide +kernel)) (Nat.eq_of_beq_eq_true h.1) (Nat.eq_of_beq_eq_true h.2)
theorem Nl {a:Go.Fp.Fe} (h0:a≠0):(-a).val%2≠a.val%2:=by
 have hlt:=a.isLt
 have hne:a.val≠0:=fun h=>h0 (Fin.ext h)
 have h1:(-a).val=(Go.Fp.P-a.val)%Go.Fp.P:=rfl
 have h2:(Go.Fp.P-a.val)<Go.Fp.P:=by omega
 rw [h1,QF h2]
 have hP:Go.Fp.P%2=1:=by rw [Go.Fp.UQ]
 omega
theorem kT {a b:Go.Fp.Fe} (h:a*a=b*b):a=b∨a = -b:=by
 have F:=Go.Fp.fld
 have:(a-b)*(a+b)=0:=by grobner
 rcases F.dom this with h1 | h1
 ·left; clear h this; grobner
 ·right; clear h this; grobner
theorem mM (dd z:Go.Fp.Fe) (hz:z=0):dd*(z*z)+1=1:=by grobner
theorem dr (y:Go.Fp.Fe):Go.Fp.d*(y*y)+1≠0:=fun h=>by
 have F:=Go.Fp.fld
 have hy:y≠0:=by
  intro h0
  rw [mM _ _ h0] at h
  exact Go.Fp.U0 h
 have hi:=Go.Fp.Ll hy
 have hr:=Go.Fp.I4
 apply Go.Fp.nosq (Go.Fp.iQ*Go.Fp.iv y)
 generalize Go.Fp.d=dd at *
 generalize Go.Fp.iQ=ii at *
 generalize Go.Fp.iv y=w at *
 clear F hy
 have e1:dd*(y*w)*(y*w)+w*w=0:=by
  have:dd*(y*w)*(y*w)+w*w=(dd*(y*y)+1)*(w*w):=by clear h hi hr; grobner
  rw [this,h]; clear this h hi hr; grobner
 rw [hi] at e1
 have e2:ii*w*(ii*w)=(ii*ii)*(w*w):=by clear h hi hr e1; grobner
 rw [e2,hr]
 clear h hi hr e2
 grobner
theorem lT (p:Go.Cv.Pt Go.Fp.P Go.Fp.d):(Go.Fp.d*(p.y*p.y)+1)*(p.x*p.x)=p.y*p.y-1:=by
 have h:=p.on
 unfold Go.Cv.On at h
 generalize Go.Fp.d=dd at *
 generalize p.x=x at *
 generalize p.y=y at *
 grobner
theorem dh {q:Go.Cv.Pt Go.Fp.P Go.Fp.d} (h:DY p=DY q):p=q:=by
 unfold DY at h
 have h1:=MH p.y
 have h2:=MH q.y
 have h3:=Q4 p.x.val (by decide:0<2)
 have h4:=Q4 q.x.val (by decide:0<2)
 have hy:p.y.val=q.y.val:=by omega
 have hx:p.x.val%2=q.x.val%2:=by omega
 have hy':p.y=q.y:=Fin.ext hy
 have e1:=lT p
 have e2:=lT q
 rw [hy',←e2] at e1
 have e3:=Go.Fp.fld.cancel (dr q.y) e1
 refine Go.Cv.Pt.ext ?_ hy'
 rcases kT e3 with h | h
 ·exact h
 ·by_cases h0:q.x=0
  ·rw [h,h0]; grobner
  ·exfalso
   have:=Nl h0
   rw [←h] at this
   exact this hx
theorem NG (p q:Go.Cv.Pt Go.Fp.P Go.Fp.d):(enc p==enc q)=decide (p=q):=by
 unfold enc
 rw [key_inj (Cr p) (Cr q)]
 by_cases h:p=q
 ·subst h; rw [decide_eq_true rfl,decide_eq_true rfl]
 ·rw [decide_eq_false h,decide_eq_false (fun e=>h (dh e))]
theorem nG {a:List Nat} (ha:RepL a p) (hb:RepL b q):fillL (Qc 40 (Value.int .u64 0)) [(0,20,eV a),(20,20,eV b)]=some (ns .u64 [a,b].flatten):=by
 obtain ⟨x1,y1,z1,t1,rfl,h1⟩:=ha
 obtain ⟨x2,y2,z2,t2,rfl,h2⟩:=hb
 obtain ⟨a0,a1,a2,a3,a4,rfl,-⟩:=h1.ex.five
 obtain ⟨b0,b1,b2,b3,b4,rfl,-⟩:=h1.ey.five
 obtain ⟨c0,c1,c2,c3,c4,rfl,-⟩:=h1.ez.five
 obtain ⟨d0,d1,d2,d3,d4,rfl,-⟩:=h1.et.five
 obtain ⟨e0,e1,e2,e3,e4,rfl,-⟩:=h2.ex.five
 obtain ⟨f0,f1,f2,f3,f4,rfl,-⟩:=h2.ey.five
 obtain ⟨g0,g1,g2,g3,g4,rfl,-⟩:=h2.ez.five
 obtain ⟨i0,i1,i2,i3,i4,rfl,-⟩:=h2.et.five
 rfl
theorem O5 (p q:Go.Cv.Pt Go.Fp.P Go.Fp.d):XU p q=XU q p:=Go.Cv.add_comm Go.Fp.fld p q
theorem IE (p q r:Go.Cv.Pt Go.Fp.P Go.Fp.d):XU (XU p q) r=XU p (XU q r):=Go.Cv.add_assoc Go.Fp.fld p q r
theorem iK (lk:k.length=32) (xk:∀ x∈k,x<256):enc p=k↔DY p=num 256 k:=by
 have h1:=num_lt xk
 rw [lk] at h1
 have h2:=WQ (by decide:0<256) xk
 rw [lk] at h2
 constructor
 ·intro h
  have:=XV (B:=256) (by decide) 32 (DY p)
  rw [QF (Cr p)] at this
  rw [←this,←h]; rfl
 ·intro h
  unfold enc
  rw [h,h2]
theorem PC {V:Nat}:DY p=V↔p.y.val=V%2^255∧p.x.val%2=V/2^255:=by
 have h1:=MH p.y
 have h3:=Q4 p.x.val (by decide:0<2)
 unfold DY
 constructor
 ·intro h; omega
 ·rintro ⟨h,h'⟩; rw [h,h',Z2,Nat.mod_add_div]
theorem kZ {u v x y:Go.Fp.Fe} (hu:u=y*y-1) (hv:v=Go.Fp.d*(y*y)+1) (h:v*(x*x)=u):Go.Cv.On Go.Fp.d x y:=by
 unfold Go.Cv.On
 generalize Go.Fp.d=dd at *
 subst hu hv
 grobner
theorem ia (lk:k.length=32) (xk:∀ x∈k,x<256):∃ w,k[31]?=some w∧w<256∧w/128=num 256 k/2^255∧num 256 (k.set 31 (w&&&127))=num 256 k%2^255∧(∀ x∈k.set 31 (w&&&127),x<256)∧(k.set 31 (w&&&127)).length=32:=by
 obtain ⟨w,hw⟩:∃ w,k[31]?=some w:=⟨_,Qh (by omega)⟩
 have hw':w<256:=xk w (Qz hw)
 have hV:=num_lt xk
 rw [lk] at hV
 have hg:=VS (by decide:0<256) xk hw
 have hs:=YA (B:=256) (w&&&127) hw
 have ha:w&&&127=w%128:=Nat.and_two_pow_sub_one_eq_mod w 7
 refine ⟨w,hw,hw',?_⟩
 rw [ha] at hs ⊢
 have e31:(256:Nat)^31=452312848583266388373324160190187140051835877600158453279131187530910662656:=by decide
 have e32:(256:Nat)^32=115792089237316195423570985008687907853269984665640564039457584007913129639936:=by decide
 have e255:(2:Nat)^255=57896044618658097711785492504343953926634992332820282019728792003956564819968:=by decide
 rw [e31] at hg hs
 rw [e32] at hV
 rw [e255]
 refine ⟨by omega,by omega,?_,by rw [Qo]; exact lk⟩
 intro x hx
 rcases List.mem_or_eq_of_mem_set hx with h | h
 ·exact xk x h
 ·omega
def PF (l:List Nat) (c:Int):Value := .tuple #[eV l,.int .i64 c]
theorem FC (lk:k.length=32) (xk:∀ x∈k,x<256) :
  (∃ l p,ZB T 61 [.agg (u8s k).toArray]=some (PF l 0)∧RepL l p∧enc p=k)∨(∃ l,ZB T 61 [.agg (u8s k).toArray]=some (PF l 60)∧l.length=20∧∀ p,enc p≠k):=by
 obtain ⟨w,hw,hw',ht,hm,xm,lm⟩:=ia lk xk
 have hwc:=Jt hw
 have hset:=XE k 31 (w&&&127)
 have o1:Zs .and .u8 (w:Int) 127=((w&&&127:Nat):Int):=VE (k := .u8) (a:=w) (b:=127) rfl hw' (by decide)
 have hof:=bC lm xm
 have hcan:=FP lm xm
 rw [hm] at hof hcan
 rw [Bz] at hof
 have hkey:∀ p:Go.Cv.Pt Go.Fp.P Go.Fp.d,enc p=k↔p.y.val=num 256 k%2^255∧p.x.val%2=num 256 k/2^255:=fun p=>by rw [iK lk xk,PC]
 rw [←ht] at hkey
 have Ey:=EI (V:=num 256 k%2^255)
 have fy:fe (dig (2^51) 5 (num 256 k%2^255))=Go.Fp.fp (num 256 k%2^255):=by unfold fe; rw [Ru]
 generalize k.set 31 (w&&&127)=km at *
 generalize dig (2^51) 5 (num 256 k%2^255)=Y at *
 generalize num 256 k%2^255=V at *
 have hz20:∃ O,Qc 20 (Value.int .u64 0)=ns .u64 O∧O.length=20∧fillL (ns .u64 O) []=some (ns .u64 O):=⟨Qc 20 0,rfl,rfl,rfl⟩
 obtain ⟨O,hz20,l0,hf0⟩:=hz20
 have l1:=Ey.len
 have hz5:Qc 5 (Value.int .u64 0)=ns .u64 [0,0,0,0,0]:=rfl
 have l5:([0,0,0,0,0]:List Nat).length=5:=rfl
 have hbit:((((w/128:Nat):Int))==1)=decide (w/128=1):=by
  by_cases h:w/128=1
  ·rw [h]; rfl
  ·have:¬ (((w/128:Nat):Int)=1):=by omega
   rw [decide_eq_false h,beq_eq_false_iff_ne.2 this]
 have hshr:((w:Int)/128)=((w/128:Nat):Int):=rfl
 by_cases hV:V<Go.Fp.P
 ·rw [decide_eq_true hV] at hcan
  have hYv:(Go.Fp.fp V).val=V:=QF hV
  obtain ⟨one,hone⟩:∃ O:List Nat,O=[1,0,0,0,0]:=⟨_,rfl⟩
  have Eone:El one (2^52):=by rw [hone]; exact Dk
  have vone:ZB T 111 [.int .u32 1]=some (eV one):=by rw [hone]; exact bl
  have fone:fe one=1:=by rw [hone]; exact Dj
  clear hone
  obtain ⟨yy,hyy,Eyy,fyy⟩:=Xv Ey Ey
  obtain ⟨D,hD,ED,fD⟩:=R8
  obtain ⟨uu,huu,Euu,fuu⟩:=D8 Eyy Eone
  obtain ⟨dy,hdy,Edy,fdy⟩:=Xv ED Eyy
  obtain ⟨vv,sv,hvv,Evv,fvv⟩:=YK (H:=[⟨u8s km,true,true,true,1⟩,⟨ns .u64 O,true,true,true,1⟩,⟨ns .u64 Y,true,true,true,1⟩,⟨ns .u64 yy,true,true,true,1⟩,⟨ns .u64 (dy++one),true,true,true,1⟩]) (id:=4) Edy Eone rfl
  simp only [Qw,Qr] at hvv
  obtain ⟨r,ok,hr,Er,hok,hno⟩:=mz Euu Evv
  have hf2:=DG Edy Eone
  have l6:=Eyy.len
  have l7:=Er.len
  have kz:=bV Er
  obtain ⟨nr,hnr,Enr,fnr⟩:=Aa Er
  obtain ⟨t1,ht1,Et1,ft1⟩:=Xv Er Ey
  obtain ⟨t2,ht2,Et2,ft2⟩:=Xv Enr Ey
  have g1:=DF Er Ey Eone Et1
  have g2:=DF Enr Ey Eone Et2
  rw [hz20] at g1 g2
  have q1:=Vs Er Ey Eone Et1
  have q2:=Vs Enr Ey Eone Et2
  have l8:=Enr.len
  have hu:fe uu=Go.Fp.fp V*Go.Fp.fp V-1:=by rw [fuu,fyy,fy,fone]
  have hv:fe vv=Go.Fp.d*(Go.Fp.fp V*Go.Fp.fp V)+1:=by rw [fvv,fdy,fD,fyy,fy,fone]
  have hyp:∀ p:Go.Cv.Pt Go.Fp.P Go.Fp.d,enc p=k→p.y=Go.Fp.fp V:=fun p hp=>Fin.ext (by rw [hYv]; exact ((hkey p).1 hp).1)
  have hxx:∀ p:Go.Cv.Pt Go.Fp.P Go.Fp.d,enc p=k→fe vv*(p.x*p.x)=fe uu:=fun p hp=>by
   have:=lT p
   rw [hyp p hp] at this
   rw [hu,hv]; exact this
  have rft:∀ b:Bool,rf (Value.tuple #[eV r,.bool b])=true:=fun b=>AK (a:=eV r) (b := .bool b) (Ja r) rfl
  cases ok with
  | false =>
   refine .inr ⟨O,?_,l0,fun p hp=>hno rfl p.x (hxx p hp)⟩
   apply Kz
   apply ZQ
   rw [QE (fn:=a31) rfl]
   simp only [a31,Q0,quiet,cW,↓pW,reduceCtorEq,seval,-Qb,cU,hz20,hf0,hz5,hwc,hset,o1,hof,hcan,hbit,hshr,vone,hyy,hD,huu,hdy,hf2,hvv,hr,Qn,Q6,QY,Zf,ZY,Zg,QQ,Qp,lk,lm,l0,l1,l5,l6,l7,Yi,CV,rft,Ja]
   rfl
  | true =>
   obtain ⟨hroot,hev⟩:=hok rfl
   have hev':(fe r).val%2=0:=by
    rcases hev with h | h
    ·exact h
    ·rw [h]; rfl
   by_cases hb:w/128=1
   ·rw [decide_eq_true hb] at hbit
    by_cases h0:fe r=0
    ·rw [decide_eq_true h0] at kz
     refine .inr ⟨O,?_,l0,fun p hp => ?_⟩
     ·apply Kz
      apply ZQ
      rw [QE (fn:=a31) rfl]
      simp only [a31,Q0,quiet,cW,↓pW,reduceCtorEq,seval,-Qb,cU,hz20,hf0,hz5,hwc,hset,o1,hof,hcan,hbit,hshr,vone,hyy,hD,huu,hdy,hf2,hvv,hr,Qn,Q6,QY,Zf,ZY,Zg,QQ,Qp,lk,lm,l0,l1,l5,l6,l7,Yi,CV,rft,Ja,kz]
      rfl
     ·have h2:=((hkey p).1 hp).2
      have h3:=hxx p hp
      rw [←hroot,h0] at h3
      have h4:p.x*p.x=0*0:=Go.Fp.fld.cancel (by rw [hv]; exact dr _) h3
      rcases kT h4 with h5 | h5
      ·rw [h5,hb] at h2; exact absurd h2 (by decide)
      ·rw [h5,hb] at h2; exact absurd h2 (by decide)
    ·rw [decide_eq_false h0] at kz
     have hroot':fe vv*(-fe r * -fe r)=fe uu:=by rw [←hroot]; generalize fe r=a; generalize fe vv=b; grobner
     refine .inl ⟨pL nr Y one t2,⟨-fe r,Go.Fp.fp V,kZ hu hv hroot'⟩,?_,⟨nr,Y,one,t2,rfl,Enr,Ey,Eone,Et2,by rw [fone]; exact Go.Fp.U0,?_,?_,?_⟩,(hkey _).2 ⟨hYv,?_⟩⟩
     ·generalize pL nr Y one t2=L at *
      apply Kz
      apply ZQ
      rw [QE (fn:=a31) rfl]
      simp only [a31,Q0,quiet,cW,↓pW,reduceCtorEq,seval,-Qb,cU,hz20,hf0,hz5,hwc,hset,o1,hof,hcan,hbit,hshr,vone,hyy,hD,huu,hdy,hf2,hvv,hr,Qn,Q6,QY,Zf,ZY,Zg,QQ,Qp,lk,lm,l0,l1,l5,l6,l7,Yi,CV,rft,Ja,kz,hnr,ht2,g2,q2,l8]
      rfl
     ·rw [fnr,fone]; show -fe r = -fe r*1; generalize fe r=a; grobner
     ·rw [fy,fone]; show Go.Fp.fp V=Go.Fp.fp V*1; generalize Go.Fp.fp V=a; grobner
     ·rw [ft2,fnr,fy,fone]; show -fe r*Go.Fp.fp V = -fe r*Go.Fp.fp V*1; generalize Go.Fp.fp V=a; generalize fe r=b; grobner
     ·have:=Nl h0
      rw [hev'] at this
      show (-fe r).val%2=_
      rw [hb]; omega
   ·rw [decide_eq_false hb] at hbit
    refine .inl ⟨pL r Y one t1,⟨fe r,Go.Fp.fp V,kZ hu hv hroot⟩,?_,⟨r,Y,one,t1,rfl,Er,Ey,Eone,Et1,by rw [fone]; exact Go.Fp.U0,?_,?_,?_⟩,(hkey _).2 ⟨hYv,?_⟩⟩
    ·generalize pL r Y one t1=L at *
     apply Kz
     apply ZQ
     rw [QE (fn:=a31) rfl]
     simp only [a31,Q0,quiet,cW,↓pW,reduceCtorEq,seval,-Qb,cU,hz20,hf0,hz5,hwc,hset,o1,hof,hcan,hbit,hshr,vone,hyy,hD,huu,hdy,hf2,hvv,hr,Qn,Q6,QY,Zf,ZY,Zg,QQ,Qp,lk,lm,l0,l1,l5,l6,l7,Yi,CV,rft,Ja,ht1,g1,q1]
     rfl
    ·rw [fone]; show fe r=fe r*1; generalize fe r=a; grobner
    ·rw [fy,fone]; show Go.Fp.fp V=Go.Fp.fp V*1; generalize Go.Fp.fp V=a; grobner
    ·rw [ft1,fy,fone]; show fe r*Go.Fp.fp V=fe r*Go.Fp.fp V*1; generalize Go.Fp.fp V=a; generalize fe r=b; grobner
    ·show (fe r).val%2=_
     rw [hev']; omega
 ·rw [decide_eq_false hV] at hcan
  refine .inr ⟨O,?_,l0,fun p hp=>hV ?_⟩
  ·apply Kz
   apply ZQ
   rw [QE (fn:=a31) rfl]
   simp only [a31,Q0,quiet,cW,↓pW,reduceCtorEq,seval,-Qb,cU,hz20,hf0,hz5,hwc,hset,o1,hof,hcan,hbit,hshr,Qn,Q6,QY,Zf,ZY,Zg,QQ,Qp,lk,lm,l0,l1,l5,Ja]
   rfl
  ·rw [←((hkey p).1 hp).1]; exact p.y.isLt
def pf (n:Nat) (L:List Nat) (i:Nat):List Nat:=L.take i++Qc (n-i) 0
theorem Gw (n:Nat) (L:List Nat):pf n L 0=Qc n 0:=by simp [pf]
theorem Gx (h:L.length=n):pf n L n=L:=by simp [pf,←h]
theorem Gc (h:L.length=n) (hi:i≤n):(pf n L i).length=n:=by simp [pf]; omega
theorem WD (h:L.length=n) (hi:i<n) (hx:L[i]?=some x):(pf n L i).set i x=pf n L (i+1):=by
 unfold pf
 rw [Q3 _ _ (by simp; omega)]
 have e1:(L.take i).length=i:=by simp; omega
 rw [e1,Qq]
 have e2:n-i=(n-(i+1))+1:=by omega
 rw [e2,List.replicate_succ,List.set_cons_zero,ZG,hx]
 simp
structure Nm (l:List Nat):Prop where
 len:l.length=16
 lt:∀ x∈l,x<65536
theorem Nm.num_lt {l:List Nat} (h:Nm l):num 65536 l<2^256:=by
 have:=Go.Ev.num_lt h.lt
 rw [h.len] at this
 exact this
theorem Nm.dig (v:Nat):Nm (dig 65536 16 v):=⟨Zx _ _ _,fun x h=>KV (by decide) h⟩
theorem Nm.eq {l:List Nat} (h:Nm l):l=Go.Ev.dig 65536 16 (num 65536 l):=by
 have:=WQ (B:=65536) (by decide) h.lt
 rw [h.len] at this
 exact this.symm
theorem Nm.inj {l m:List Nat} (h:Nm l) (h':Nm m) (e:num 65536 l=num 65536 m):l=m:=by rw [h.eq,h'.eq,e]
def nf (l:List Nat):Go.Fp.Fe:=Go.Fp.fp (num 65536 l)
theorem wn (h:n<9223372036854775808):IntKind.i64.wrap (n:Int)=n:=Jf h
theorem Io (h:n<18446744073709551616):IntKind.u64.wrap (n:Int)=n:=by rw [BN,QF h]
theorem LR {b:Nat} (h:a+b<18446744073709551616):IntKind.u64.wrap ((a:Int)+(b:Int))=((a+b:Nat):Int):=by rw [←KX]; exact Io h
theorem Az {b:Nat} (h:a*b<18446744073709551616):IntKind.u64.wrap ((a:Int)*(b:Int))=((a*b:Nat):Int):=by rw [←JG]; exact Io h
theorem Z0 {b:Nat} (h:a+b<9223372036854775808):IntKind.i64.wrap ((a:Int)+(b:Int))=((a+b:Nat):Int):=by rw [←KX]; exact wn h
theorem VN {b:Nat} (h:a*b<9223372036854775808):IntKind.i64.wrap ((a:Int)*(b:Int))=((a*b:Nat):Int):=by rw [←JG]; exact wn h
def X1 (x r:Nat):Nat:=x/2^r+x*2^(64-r)%18446744073709551616
def sg0 (x:Nat):Nat:=X1 x 1^^^X1 x 8^^^(x/2^7)
def sg1 (x:Nat):Nat:=X1 x 19^^^X1 x 61^^^(x/2^6)
def Sg0 (x:Nat):Nat:=X1 x 28^^^X1 x 34^^^X1 x 39
def Sg1 (x:Nat):Nat:=X1 x 14^^^X1 x 18^^^X1 x 41
def chO (e f g:Nat):Nat:=(e&&&f)^^^((18446744073709551615^^^e)&&&g)
def maO (a b c:Nat):Nat:=(a&&&b)^^^(a&&&c)^^^(b&&&c)
def be (l:List Nat):Nat:=l.foldl (fun a x=>a*256+x) 0
def kO (w:List Nat):Nat:=(w.getD (w.length-16) 0+w.getD (w.length-7) 0+sg0 (w.getD (w.length-15) 0)+sg1 (w.getD (w.length-2) 0))%18446744073709551616
def Uo:Nat→List Nat→List Nat
 | 0,l=>l
 | n+1,l=>Uo n l++[kO (Uo n l)]
def TA (b:List Nat):List Nat:=(QX 16).map fun i=>be ((b.drop (8*i)).take 8)
def XD (b:List Nat):List Nat:=Uo 64 (TA b)
def Y2:List Nat:=[4794697086780616226,8158064640168781261,13096744586834688815,16840607885511220156,4131703408338449720,6480981068601479193,10538285296894168987,12329834152419229976,15566598209576043074,1334009975649890238,2608012711638119052,6128411473006802146,8268148722764581231,9286055187155687089,11230858885718282805,13951009754708518548,16472876342353939154,17275323862435702243,1135362057144423861,2597628984639134821,3308224258029322869,5365058923640841347,6679025012923562964,8573033837759648693,10970295158949994411,12119686244451234320,12683024718118986047,13788192230050041572,14330467153632333762,15395433587784984357,489312712824947311,1452737877330783856,2861767655752347644,3322285676063803686,5560940570517711597,5996557281743188959,7280758554555802590,8532644243296465576,9350256976987008742,10552545826968843579,11727347734174303076,12113106623233404929,14000437183269869457,14369950271660146224,15101387698204529176,15463397548674623760,17586052441742319658,1182934255886127544,1847814050463011016,2177327727835720531,2830643537854262169,3796741975233480872,4115178125766777443,5681478168544905931,6601373596472566643,7507060721942968483,8399075790359081724,8693463985226723168,9568029438360202098,10144078919501101548,10430055236837252648,11840083180663258601,13761210420658862357,14299343276471374635,14566680578165727644,15097957966210449927,16922976911328602910,17689382322260857208,500013540394364858,748580250866718886,1242879168328830382,1977374033974150939,2944078676154940804,3659926193048069267,4368137639120453308,4836135668995329356,5532061633213252278,6448918945643986474,6902733635092675308,7801388544844847127]
def t1O (s:List Nat) (k w:Nat):Nat:=(s.getD 7 0+Sg1 (s.getD 4 0)+chO (s.getD 4 0) (s.getD 5 0) (s.getD 6 0)+k+w)%18446744073709551616
def t2O (s:List Nat):Nat:=(Sg0 (s.getD 0 0)+maO (s.getD 0 0) (s.getD 1 0) (s.getD 2 0))%18446744073709551616
def rnd (s:List Nat) (k w:Nat):List Nat:=[(t1O s k w+t2O s)%18446744073709551616,s.getD 0 0,s.getD 1 0,s.getD 2 0,(s.getD 3 0+t1O s k w)%18446744073709551616,s.getD 4 0,s.getD 5 0,s.getD 6 0]
def DW:Nat→List Nat→List Nat→List Nat
 | 0,_,s=>s
 | n+1,w,s=>rnd (DW n w s) (Y2.getD n 0) (w.getD n 0)
def blk (s b:List Nat):List Nat:=Kv (fun x y=>(x+y)%18446744073709551616) s (DW 80 (XD b) s)
def BH:List Nat:=[7640891576956012808,13503953896175478587,4354685564936845355,11912009170470909681,5840696475078001361,11170449401992604703,2270897969802886507,6620516959819538809]
def stK:Nat→List Nat→List Nat
 | 0,_=>BH
 | n+1,b=>blk (stK n b) ((b.drop (128*n)).take 128)
def Yn (n:Nat):Nat:=(239-n%128)%128
def Dg (n:Nat):List Nat:=128::(Qc (Yn n) 0++((QX 16).map fun i=>8*n/256^(15-i)%256))
def sha (b:List Nat):List Nat:=(QX 64).map fun i=>(stK ((b++Dg b.length).length/128) (b++Dg b.length)).getD (i/8) 0/256^(7-i%8)%256
theorem U4:Y2.length=80:=rfl
theorem V5 (hx:x<18446744073709551616) (hr:0<r) (hr':r≤63):X1 x r<18446744073709551616:=by
 unfold X1
 have e:(18446744073709551616:Nat)=2^r*2^(64-r):=by rw [←JD,show r+(64-r)=64 by omega]
 have h1:x/2^r<2^(64-r):=Ku (by rw [←e]; exact hx)
 have h2:x*2^(64-r)%18446744073709551616=(x%2^r)*2^(64-r):=by rw [e,Yz]
 rw [h2]
 have h3:x%2^r+1≤2^r:=Q4 _ (JX (by decide))
 have h4:=JM (2^(64-r)) h3
 rw [←e,Zy,X9] at h4
 omega
theorem eY (hx:x<18446744073709551616) (hr:0<r) (hr':r≤63):(x*2^(64-r)%18446744073709551616)|||(x/2^r)=X1 x r:=by
 have e:(18446744073709551616:Nat)=2^r*2^(64-r):=by rw [←JD,show r+(64-r)=64 by omega]
 have h1:x/2^r<2^(64-r):=Ku (by rw [←e]; exact hx)
 have h2:x*2^(64-r)%18446744073709551616=(x%2^r)*2^(64-r):=by rw [e,Yz]
 unfold X1
 rw [h2,Vt h1,X3]
theorem BI (hx:x<18446744073709551616) (hr:0<r) (hr':r≤63):ZB T 212 [.int .u64 x,.int .i64 (-(r:Int))]=some (.int .u64 (X1 x r:Nat)):=by
 have hw:IntKind.u64.wrap (-(r:Int))=((18446744073709551616-r:Nat):Int):=by rw [Wf]; omega
 have hm:Zs .and .u64 ((18446744073709551616-r:Nat):Int) 63=((64-r:Nat):Int):=by
  have:=WH .u64 rfl 6 (18446744073709551616-r) (by decide)
  have e:((2^6-1:Nat):Int)=63:=by decide
  rw [e] at this
  rw [this]
  have:(18446744073709551616-r)%2^6=64-r:=by omega
  rw [this]
 have n1:(((64-r:Nat):Int)<0)=False:=eq_false (by omega)
 have h64:min (64-r) IntKind.u64.bits=64-r:=Ze (by show 64-r≤64; omega)
 have hr64:min r IntKind.u64.bits=r:=Ze (by show r≤64; omega)
 have hs1:IntKind.u64.wrap ((x:Int)*2^(64-r))=((x*2^(64-r)%18446744073709551616:Nat):Int):=by
  rw [←BN,JG,Xu]; rfl
 have hsub:IntKind.u64.wrap (64-((64-r:Nat):Int))=(r:Int):=by rw [Wf]; omega
 have n2:((r:Int)<0)=False:=eq_false (by omega)
 have hs2:(x:Int).fdiv (2^r)=((x/2^r:Nat):Int):=by
  rw [←U2,Xu]; rfl
 have hlt1:x*2^(64-r)%18446744073709551616<2^IntKind.u64.bits:=Q4 _ (by decide)
 have hlt2:x/2^r<2^IntKind.u64.bits:=J4 (JQ _ _) hx
 have ho:Zs .or .u64 ((x*2^(64-r)%18446744073709551616:Nat):Int) ((x/2^r:Nat):Int)=((X1 x r:Nat):Int):=by
  rw [KA rfl hlt1 hlt2,eY hx hr hr']
 generalize hq:64-r=q at *
 generalize hu:18446744073709551616-r=u at *
 apply ZM (fn:=pb) rfl
 simp only [pb,↓Us,Q0,quiet,cW,↓pW,reduceCtorEq,seval,-Qb,hw,hm,n1,h64,hs1,hsub,n2,hr64,hs2,ho,X5]
 rfl
theorem OY:fillL (Qc 80 (Value.int .u64 0)) [(0,1,.int .u64 4794697086780616226),(1,1,.int .u64 8158064640168781261),(2,1,.int .u64 13096744586834688815),(3,1,.int .u64 16840607885511220156),(4,1,.int .u64 4131703408338449720),(5,1,.int .u64 6480981068601479193),(6,1,.int .u64 10538285296894168987),(7,1,.int .u64 12329834152419229976),(8,1,.int .u64 15566598209576043074),(9,1,.int .u64 1334009975649890238),(10,1,.int .u64 2608012711638119052),(11,1,.int .u64 6128411473006802146),(12,1,.int .u64 8268148722764581231),(13,1,.int .u64 9286055187155687089),(14,1,.int .u64 11230858885718282805),(15,1,.int .u64 13951009754708518548),(16,1,.int .u64 16472876342353939154),(17,1,.int .u64 17275323862435702243),(18,1,.int .u64 1135362057144423861),(19,1,.int .u64 2597628984639134821),(20,1,.int .u64 3308224258029322869),(21,1,.int .u64 5365058923640841347),(22,1,.int .u64 6679025012923562964),(23,1,.int .u64 8573033837759648693),(24,1,.int .u64 10970295158949994411),(25,1,.int .u64 12119686244451234320),(26,1,.int .u64 12683024718118986047),(27,1,.int .u64 13788192230050041572),(28,1,.int .u64 14330467153632333762),(29,1,.int .u64 15395433587784984357),(30,1,.int .u64 489312712824947311),(31,1,.int .u64 1452737877330783856),(32,1,.int .u64 2861767655752347644),(33,1,.int .u64 3322285676063803686),(34,1,.int .u64 5560940570517711597),(35,1,.int .u64 5996557281743188959),(36,1,.int .u64 7280758554555802590),(37,1,.int .u64 8532644243296465576),(38,1,.int .u64 9350256976987008742),(39,1,.int .u64 10552545826968843579),(40,1,.int .u64 11727347734174303076),(41,1,.int .u64 12113106623233404929),(42,1,.int .u64 14000437183269869457),(43,1,.int .u64 14369950271660146224),(44,1,.int .u64 15101387698204529176),(45,1,.int .u64 15463397548674623760),(46,1,.int .u64 17586052441742319658),(47,1,.int .u64 1182934255886127544),(48,1,.int .u64 1847814050463011016),(49,1,.int .u64 2177327727835720531),(50,1,.int .u64 2830643537854262169),(51,1,.int .u64 3796741975233480872),(52,1,.int .u64 4115178125766777443),(53,1,.int .u64 5681478168544905931),(54,1,.int .u64 6601373596472566643),(55,1,.int .u64 7507060721942968483),(56,1,.int .u64 8399075790359081724),(57,1,.int .u64 8693463985226723168),(58,1,.int .u64 9568029438360202098),(59,1,.int .u64 10144078919501101548),(60,1,.int .u64 10430055236837252648),(61,1,.int .u64 11840083180663258601),(62,1,.int .u64 13761210420658862357),(63,1,.int .u64 14299343276471374635),(64,1,.int .u64 14566680578165727644),(65,1,.int .u64 15097957966210449927),(66,1,.int .u64 16922976911328602910),(67,1,.int .u64 17689382322260857208),(68,1,.int .u64 500013540394364858),(69,1,.int .u64 748580250866718886),(70,1,.int .u64 1242879168328830382),(71,1,.int .u64 1977374033974150939),(72,1,.int .u64 2944078676154940804),(73,1,.int .u64 3659926193048069267),(74,1,.int .u64 4368137639120453308),(75,1,.int .u64 4836135668995329356),(76,1,.int .u64 5532061633213252278),(77,1,.int .u64 6448918945643986474),(78,1,.int .u64 6902733635092675308),(79,1,.int .u64 7801388544844847127)]=some (ns .u64 Y2):=rfl
theorem LW:ZB T 208 []=some (eV Y2):=by
 have hf:=OY
 have lk:=U4
 generalize Y2=K at *
 apply ZM (fn:=oZ) rfl
 simp only [oZ,Q0,quiet,cW,↓pW,reduceCtorEq,seval,-Qb,hf,Qn,Q6,QY,Zf,ZY,Zg,QQ,lk,Ja]
 rfl
theorem US (l:List Nat):∀ n,(Uo n l).length=l.length+n
 | 0=>rfl
 | n+1=>by rw [Uo,Qg,US l n]; rfl
theorem UT (l:List Nat) {n j:Nat} (hj:j<l.length+n):∀ m,n≤m→(Uo m l)[j]?=(Uo n l)[j]?
 | 0,h=>by rw [show n=0 by omega]
 | m+1,h=>by
  by_cases e:n=m+1
  ·rw [e]
  ·rw [Uo,Qa (by rw [US]; omega),UT l hj m (by omega)]
theorem HR (b:List Nat):(TA b).length=16:=by simp [TA]
theorem Up (b:List Nat):(XD b).length=80:=by rw [XD,US,HR]
theorem TC (hi:i<16):(XD b)[i]?=some (be ((b.drop (8*i)).take 8)):=by
 rw [XD,UT _ (n:=0) (by rw [HR]; omega) 64 (by omega)]
 simp [Uo,TA,hi]
theorem TB (hi:16≤i) (hi':i<80):(XD b)[i]?=some (((XD b).getD (i-16) 0+(XD b).getD (i-7) 0+sg0 ((XD b).getD (i-15) 0)+sg1 ((XD b).getD (i-2) 0))%18446744073709551616):=by
 obtain ⟨n,rfl⟩:∃ n,i=16+n:=⟨i-16,by omega⟩
 have hl:=HR b
 have hn:=US (TA b) n
 rw [hl] at hn
 have hg:∀ j,j<16+n→(XD b).getD j 0=(Uo n (TA b)).getD j 0:=fun j hj=>by
  rw [Qx,Qx,XD,UT _ (n:=n) (by rw [hl]; omega) 64 (by omega)]
 rw [hg _ (by omega),hg _ (by omega),hg _ (by omega),hg _ (by omega)]
 rw [XD,UT _ (n:=n+1) (by rw [hl]; omega) 64 (by omega),Uo,Qd (by omega),hn,Qq]
 simp only [kO,hn,List.getElem?_cons_zero]
theorem NQ (l:List Nat) (x:Nat):be (l++[x])=be l*256+x:=by simp [be]
theorem NR:∀ (n:Nat) (l:List Nat),l.length=n→(∀ x∈l,x<256)→be l<256^n
 | 0,l,h,_=>by rw [Za h]; decide
 | n+1,l,h,hx=>by
  obtain ⟨m,x,rfl⟩:∃ m x,l=m++[x]:=⟨l.dropLast,l.getLast (by intro e; rw [e] at h; cases h),(List.dropLast_concat_getLast _).symm⟩
  rw [Qg] at h
  have h1:=NR n m (by simpa using h) (fun y hy=>hx y (Vo _ hy))
  have h2:=hx x (by simp)
  rw [NQ,Z4]
  omega
theorem LQ (hb:∀ x∈b,x<256) {i:Nat} (hx:(XD b)[i]?=some x):x<18446744073709551616:=by
 have hi:i<80:=by have:=(Qf.1 hx).1; rwa [Up] at this
 by_cases h:i<16
 ·rw [TC h] at hx
  cases hx
  have hl:((b.drop (8*i)).take 8).length≤8:=by rw [Q7]; omega
  have:=NR _ _ rfl (fun y hy=>hb y (Zz (QP hy)):∀ y∈(b.drop (8*i)).take 8,y<256)
  exact QJ this (Zp (n:=256) (by decide) hl)
 ·rw [TB (by omega) hi] at hx
  cases hx
  exact Q4 _ (by decide)
theorem Uy {j:Nat} (hj:j<i) (hi:i≤L.length):(pf n L i)[j]?=L[j]? := by
 unfold pf
 rw [Qa (by rw [Q7]; omega),QS,if_pos hj]
theorem SM {i:Nat} (h:l[i]?=some x):l.set i x=l:=by
 apply ZK
 intro k
 rw [XT]
 by_cases c:i=k
 ·rw [if_pos c,←c,h,if_pos (Qf.1 h).1]
 ·rw [if_neg c]
theorem I9 (hi:i<n) (hl:L.length=n):(pf n L i)[i]?=some 0:=by
 unfold pf
 rw [Qd (by rw [Q7]; omega),Q7,Ze (by omega),Qq,List.getElem?_replicate,if_pos (by omega)]
theorem W7 (a b:Nat):IntKind.u64.wrap ((a:Int)+(b:Int))=(((a+b)%18446744073709551616:Nat):Int):=by rw [←KX,BN]
theorem WY {b:Nat} (ha:a<18446744073709551616) (hb:b<18446744073709551616):Zs .xor .u64 (a:Int) (b:Int)=((a^^^b:Nat):Int):=RM rfl ha hb
theorem DT {b:Nat} (ha:a<18446744073709551616) (hb:b<18446744073709551616):Zs .and .u64 (a:Int) (b:Int)=((a&&&b:Nat):Int):=VE rfl ha hb
theorem We {b:Nat} (ha:a<18446744073709551616) (hb:b<18446744073709551616):a^^^b<18446744073709551616:=Nat.xor_lt_two_pow (n:=64) ha hb
theorem Yv {b:Nat} (hb:b<18446744073709551616):a&&&b<18446744073709551616:=Xb (n:=64) a hb
theorem WZ (hr:r≤64):(x:Int).fdiv (2^min r IntKind.u64.bits)=((x/2^r:Nat):Int):=by
 rw [show min r IntKind.u64.bits=r from Ze hr,←U2,Xu]; rfl
theorem F8 (hx:x<18446744073709551616):x/2^r<18446744073709551616:=J4 (JQ _ _) hx
structure BB (H:List Ob) (id off:Nat) (b:List Nat):Prop where
 ob:∃ all:List Nat,H[id]?=some ⟨u8s all,true,true,false,1⟩∧∀ i,i<b.length→all[off+i]?=b[i]?
 lt:∀ x∈b,x<256
theorem BB.app {H l:List Ob} {id off:Nat} {b:List Nat} (h:BB H id off b):BB (H++l) id off b:=by
 obtain ⟨⟨all,h1,h2⟩,h3⟩:=h
 exact ⟨⟨all,by rw [Qa (Qf.1 h1).1]; exact h1,h2⟩,h3⟩
def w2I (H:List Ob) (P:Value) (id off cap:Nat) (w:List Nat) (i:Int) (o8 c8:Nat) (j:Int) (ex:Env):St:=⟨[(0,P),(1,.slice (some ⟨id,off,none⟩) 128 cap),(4,.pointer (some ⟨H.length,0,none⟩)),(5,.int .i64 i),(17,.int .i64 i),(28,.slice (some ⟨id,o8,none⟩) 8 c8),(29,.int .i64 8),(30,.int .i64 j)]++ex,H++[⟨ns .u64 w,true,true,true,1⟩],[]⟩
theorem Sk {P:Value} {c8:Nat} (hb:BB H id off b) (hl:b.length=128) (hi:i<16) :
  Q8 T H.length (.block 2 (.loop HG)) (w2I H P id off cap (pf 80 (XD b) i) i (off+8*i) c8 0 [])=some (.normal,w2I H P id off cap (pf 80 (XD b) (i+1)) i (off+8*i) c8 8 [(31,.bool false)]):=by
 obtain ⟨⟨all,h1,h2⟩,h3⟩:=hb
 have hWl:=Up b
 have h8:((b.drop (8*i)).take 8).length=8:=by rw [Q7,QC]; omega
 have hz:=I9 (L:=XD b) (by omega:i<80) hWl
 have hpl:=Gc hWl (by omega:i≤80)
 have bY:(pf 80 (XD b) i).set i (be [])=pf 80 (XD b) i:=SM hz
 have hW:=TC (b:=b) hi
 have hstep:=WD hWl (by omega:i<80) hW
 have h:=Xp (T:=T) (base:=H.length) (id:=2) (body:=HG) (fun j=>w2I H P id off cap ((pf 80 (XD b) i).set i (be (((b.drop (8*i)).take 8).take j))) i (off+8*i) c8 j []) (s':=w2I H P id off cap (pf 80 (XD b) (i+1)) i (off+8*i) c8 8 [(31,.bool false)]) 8
  (fun j hj=>by
   obtain ⟨x,hx⟩:∃ x,((b.drop (8*i)).take 8)[j]?=some x:=⟨_,Qh (by omega)⟩
   have hxb:b[8*i+j]?=some x:=by
    rw [QS,if_pos hj,Zt] at hx; exact hx
   have hx':=h3 x (Qz hxb)
   have hxa:(u8s all)[off+8*i+j]?=some (.int .u8 (x:Nat)):=Jt (by rw [show off+8*i+j=off+(8*i+j) by omega,h2 _ (by omega)]; exact hxb)
   have hbel:=NR j (((b.drop (8*i)).take 8).take j) (by rw [Q7]; omega) (fun y hy=>h3 y (Zz (QP (QP hy))))
   have hbes:be (((b.drop (8*i)).take 8).take (j+1))=be (((b.drop (8*i)).take 8).take j)*256+x:=by rw [ZG,hx]; exact NQ _ _
   rw [hbes]
   have h256:(256:Nat)^j≤256^7:=Zp (by decide) (by omega)
   have e7:(256:Nat)^7=72057594037927936:=by decide
   rw [e7] at h256
   generalize be (((b.drop (8*i)).take 8).take j)=a at *
   have hg:((pf 80 (XD b) i).set i a)[i]?=some a:=by rw [Qt (by rw [hpl]; omega)]
   have hgc:=Jo (k := .u64) hg
   have hss:=XC .u64 ((pf 80 (XD b) i).set i a) i (a*256+x)
   rw [KR] at hss
   have hln:((pf 80 (XD b) i).set i a).length=80:=by rw [Qo]; exact hpl
   have w1:IntKind.i64.wrap ((j:Int)+1)=((j+1:Nat):Int):=Z0 (b:=1) (by omega)
   have w2:IntKind.u64.wrap (x:Int)=(x:Int):=Io (by omega)
   have w3:IntKind.u64.wrap ((a:Int)*2^min 8 IntKind.u64.bits)=((a*256:Nat):Int):=Az (b:=256) (by omega)
   have w4:Zs .or .u64 ((a*256:Nat):Int) (x:Int)=((a*256+x:Nat):Int):=by
    rw [KA rfl (show a*256<2^64 by omega) (show x<2^64 by omega)]
    have:=Vt (a:=x) (b:=a) (n:=8) (by omega)
    rw [show (2:Nat)^8=256 from rfl] at this
    rw [this]
   have e1:((j:Int)<8)=True:=eq_true (by omega)
   have e2:((i:Int)<80)=True:=eq_true (by omega)
   have e4:(i≤79)=True:=eq_true (by omega)
   have hl1:liveAt (H++[⟨ns .u64 ((pf 80 (XD b) i).set i a),true,true,true,1⟩]) id=some ⟨u8s all,true,true,false,1⟩:=Kq (QW h1 rfl)
   generalize (pf 80 (XD b) i).set i a=O1,(pf 80 (XD b) i).set i (a*256+x)=O2 at *
   generalize hv:a*256+x=v at *
   generalize a*256=v2 at *
   simp only [liveAt] at hl1
   generalize hoo:off+8*i=oo at *
   have hget:(H++[⟨ns .u64 O1,true,true,true,1⟩])[id]?=some ⟨u8s all,true,true,false,1⟩:=by rw [Qa (Qf.1 h1).1]; exact h1
   simp only [w2I,HG,Q0,quiet,cW,↓pW,reduceCtorEq,seval,-Qb,hget,hxa,hgc,w1,w2,w3,w4,e1,e2,e4,hss,QQ,hln])
  (by
   rw [Qu (by omega),hstep]
   simp only [w2I,HG,Q0,quiet,cW,↓pW,reduceCtorEq,seval,-Qb])
 rw [Xc,bY] at h
 exact h
theorem J3 {k:IntKind} {y d:Nat} (h:n≤y):Xo (some (.int k (n:Int))) y d=some n:=by
 have e:(0:Int)≤(n:Int)∧(n:Int)≤(y:Int):=⟨by omega,by omega⟩
 simp only [Xo,if_pos e,X5]
def w3I (H:List Ob) (P:Value) (id off cap:Nat) (w:List Nat) (i:Int) (ex:Env):St:=⟨[(0,P),(1,.slice (some ⟨id,off,none⟩) 128 cap),(4,.pointer (some ⟨H.length,0,none⟩)),(17,.int .i64 i)]++ex,H++[⟨ns .u64 w,true,true,true,1⟩],[]⟩
theorem lU {P:Value} (hb:BB H id off b) (hl:b.length=128) (hc:128≤cap) (hi:i<16) :
  Q8 T H.length YO (w3I H P id off cap (pf 80 (XD b) i) i [])=some (.normal,w3I H P id off cap (pf 80 (XD b) (i+1)) ((i+1:Nat):Int) []):=by
 have h2:=Sk (P:=P) (cap:=cap) (c8:=cap-8*i) hb hl hi
 obtain ⟨⟨all,h1,-⟩,h3⟩:=hb
 simp only [w2I,Qw,Qr,Z1] at h2
 have e1:((i:Int)<80)=True:=eq_true (by omega)
 have e2:((i:Int)<16)=True:=eq_true (by omega)
 have w1:IntKind.i64.wrap (8*(i:Int))=((8*i:Nat):Int):=VN (a:=8) (by omega)
 have w2:IntKind.i64.wrap (((8*i:Nat):Int)+8)=((8*i+8:Nat):Int):=Z0 (b:=8) (by omega)
 have w3:IntKind.i64.wrap ((i:Int)+1)=((i+1:Nat):Int):=Z0 (b:=1) (by omega)
 have b1:ZC 128 cap (some (.int .i64 ((8*i:Nat):Int))) (some (.int .i64 ((8*i+8:Nat):Int))) none=some (8*i,8*i+8,cap):=by
  have n1:Xo (some (.int .i64 ((8*i+8:Nat):Int))) cap 128=some (8*i+8):=J3 (by omega)
  have n2:Xo (some (.int .i64 ((8*i:Nat):Int))) (8*i+8) 0=some (8*i):=J3 (by omega)
  rw [JA,n1,Qj,n2,Qj]
 have hs:8*i+8-8*i=8:=by omega
 have hget:∀ l:List Ob,(H++l)[id]?=some ⟨u8s all,true,true,false,1⟩:=fun l=>by rw [Qa (Qf.1 h1).1]; exact h1
 generalize pf 80 (XD b) i=O1,pf 80 (XD b) (i+1)=O2 at *
 generalize hk8:8*i+8=k8 at *
 generalize hk:8*i=k at *
 generalize i+1=i1 at *
 simp only [w3I,YO,Q0,quiet,cW,↓pW,reduceCtorEq,seval,-Qb,e1,e2,w1,w2,w3,b1,hs,hget,h2]
theorem XW (h:l[i]?=some x):l.getD i 0=x:=by rw [Qx,h]; rfl
theorem eu {P:Value} (hb:∀ x∈b,x<256) (hi:16≤i) (hi':i<80) :
  Q8 T H.length YO (w3I H P id off cap (pf 80 (XD b) i) i [])=some (.normal,w3I H P id off cap (pf 80 (XD b) (i+1)) ((i+1:Nat):Int) []):=by
 have hWl:=Up b
 have hW:=TB (b:=b) hi hi'
 have hstep:=WD hWl hi' hW
 have hpl:=Gc hWl (Xi hi')
 obtain ⟨x,hx⟩:∃ x,(XD b)[i-15]?=some x:=⟨_,Qh (by omega)⟩
 obtain ⟨y,hy⟩:∃ x,(XD b)[i-2]?=some x:=⟨_,Qh (by omega)⟩
 obtain ⟨u,hu⟩:∃ x,(XD b)[i-16]?=some x:=⟨_,Qh (by omega)⟩
 obtain ⟨v,hv⟩:∃ x,(XD b)[i-7]?=some x:=⟨_,Qh (by omega)⟩
 have lx:=LQ hb hx
 have ly:=LQ hb hy
 have cx:=Jo (k := .u64) ((Uy (n:=80) (by omega:i-15<i) (by omega)).trans hx)
 have cy:=Jo (k := .u64) ((Uy (n:=80) (by omega:i-2<i) (by omega)).trans hy)
 have cu:=Jo (k := .u64) ((Uy (n:=80) (by omega:i-16<i) (by omega)).trans hu)
 have cv:=Jo (k := .u64) ((Uy (n:=80) (by omega:i-7<i) (by omega)).trans hv)
 rw [XW hx,XW hy,XW hu,XW hv] at hstep
 have r1:ZB T 212 [.int .u64 x,.int .i64 (-1)]=some (.int .u64 (X1 x 1:Nat)):=BI (r:=1) lx (by decide) (by decide)
 have r8:ZB T 212 [.int .u64 x,.int .i64 (-8)]=some (.int .u64 (X1 x 8:Nat)):=BI (r:=8) lx (by decide) (by decide)
 have r19:ZB T 212 [.int .u64 y,.int .i64 (-19)]=some (.int .u64 (X1 y 19:Nat)):=BI (r:=19) ly (by decide) (by decide)
 have r61:ZB T 212 [.int .u64 y,.int .i64 (-61)]=some (.int .u64 (X1 y 61:Nat)):=BI (r:=61) ly (by decide) (by decide)
 have b1:=V5 (r:=1) lx (by decide) (by decide)
 have b8:=V5 (r:=8) lx (by decide) (by decide)
 have b19:=V5 (r:=19) ly (by decide) (by decide)
 have b61:=V5 (r:=61) ly (by decide) (by decide)
 have x1:=WY b1 b8
 have x2:Zs .xor .u64 ((X1 x 1^^^X1 x 8:Nat):Int) ((x/2^7:Nat):Int)=((sg0 x:Nat):Int):=WY (We b1 b8) (F8 lx)
 have y1:=WY b19 b61
 have y2:Zs .xor .u64 ((X1 y 19^^^X1 y 61:Nat):Int) ((y/2^6:Nat):Int)=((sg1 y:Nat):Int):=WY (We b19 b61) (F8 ly)
 have s7:(x:Int).fdiv (2^min 7 IntKind.u64.bits)=((x/2^7:Nat):Int):=WZ (by decide)
 have s6:(y:Int).fdiv (2^min 6 IntKind.u64.bits)=((y/2^6:Nat):Int):=WZ (by decide)
 have m1:=W7 u v
 have m2:=W7 ((u+v)%18446744073709551616) (sg0 x)
 have m3:=W7 (((u+v)%18446744073709551616+sg0 x)%18446744073709551616) (sg1 y)
 have hsum:(((u+v)%18446744073709551616+sg0 x)%18446744073709551616+sg1 y)%18446744073709551616=(u+v+sg0 x+sg1 y)%18446744073709551616:=by omega
 rw [hsum] at m3
 have hset:=XC .u64 (pf 80 (XD b) i) i ((u+v+sg0 x+sg1 y)%18446744073709551616)
 rw [hstep] at hset
 have e1:((i:Int)<80)=True:=eq_true (by omega)
 have e2:((i:Int)<16)=False:=eq_false (by omega)
 have i15:IntKind.i64.wrap ((i:Int)-15)=((i-15:Nat):Int):=by rw [ZE (by omega) (by omega)]; omega
 have i2:IntKind.i64.wrap ((i:Int)-2)=((i-2:Nat):Int):=by rw [ZE (by omega) (by omega)]; omega
 have i16:IntKind.i64.wrap ((i:Int)-16)=((i-16:Nat):Int):=by rw [ZE (by omega) (by omega)]; omega
 have i7:IntKind.i64.wrap ((i:Int)-7)=((i-7:Nat):Int):=by rw [ZE (by omega) (by omega)]; omega
 have j15:(((i-15:Nat):Int)<80)=True:=eq_true (by omega)
 have j2:(((i-2:Nat):Int)<80)=True:=eq_true (by omega)
 have j16:(((i-16:Nat):Int)<80)=True:=eq_true (by omega)
 have j7:(((i-7:Nat):Int)<80)=True:=eq_true (by omega)
 have w3:IntKind.i64.wrap ((i:Int)+1)=((i+1:Nat):Int):=Z0 (b:=1) (by omega)
 have e4:(i≤79)=True:=eq_true (by omega)
 clear hsum hstep hW hx hy hu hv hWl
 generalize pf 80 (XD b) i=O1,pf 80 (XD b) (i+1)=O2,(u+v+sg0 x+sg1 y)%18446744073709551616=z,((u+v)%18446744073709551616+sg0 x)%18446744073709551616=z2 at *
 generalize (u+v)%18446744073709551616=z3 at *
 generalize sg0 x=gx,sg1 y=gy,X1 x 1^^^X1 x 8=xx,X1 y 19^^^X1 y 61=yy at *
 generalize X1 x 1=x1v,X1 x 8=x8v,X1 y 19=y19v,X1 y 61=y61v at *
 generalize x/2^7=x7v at *
 generalize y/2^6=y6v at *
 generalize i-15=k15 at *
 generalize i-2=k2 at *
 generalize i-16=k16 at *
 generalize i-7=k7 at *
 generalize i+1=i1 at *
 simp only [w3I,YO,Q0,quiet,cW,↓pW,reduceCtorEq,seval,-Qb,e1,e2,e4,i15,i2,i16,i7,j15,j2,j16,j7,cx,cy,cu,cv,r1,r8,r19,r61,x1,x2,y1,y2,s7,s6,m1,m2,m3,hset,w3,QQ,hpl]
theorem Si {P:Value} (hb:BB H id off b) (hl:b.length=128) (hc:128≤cap) :
  Q8 T H.length (.block 0 (.loop YO)) (w3I H P id off cap (Qc 80 0) 0 [])=some (.normal,w3I H P id off cap (XD b) 80 [(18,.bool false)]):=by
 have hWl:=Up b
 have h:=Xp (T:=T) (base:=H.length) (id:=0) (body:=YO) (fun i=>w3I H P id off cap (pf 80 (XD b) i) i []) (s':=w3I H P id off cap (XD b) 80 [(18,.bool false)]) 80
  (fun i hi=>by
   by_cases h:i<16
   ·exact lU hb hl hc h
   ·exact eu hb.lt (by omega) hi)
  (by
   rw [Gx hWl]
   simp only [w3I,YO,Q0,quiet,cW,↓pW,reduceCtorEq,seval,-Qb])
 rw [Gw] at h
 exact h
theorem eight {l:List Nat} (h:l.length=8):∃ a b c d e f g i,l=[a,b,c,d,e,f,g,i]:=by
 match l,h with
 | [a,b,c,d,e,f,g,i],_=>exact ⟨a,b,c,d,e,f,g,i,rfl⟩
theorem eZ (s:List Nat) (k w:Nat):(rnd s k w).length=8:=rfl
theorem Gu (hs:s.length=8) (w:List Nat):∀ n,(DW n w s).length=8
 | 0=>hs
 | n+1=>rfl
theorem m8 (hs:s.length=8) (hx:∀ x∈s,x<18446744073709551616) (k w:Nat):∀ x∈rnd s k w,x<18446744073709551616:=by
 obtain ⟨a,b,c,d,e,f,g,h,rfl⟩:=eight hs
 intro x hm
 have h1:∀ y z:Nat,(y+z)%18446744073709551616<18446744073709551616:=fun _ _=>Q4 _ (by decide)
 simp only [rnd,J6,JI,or_false] at hm
 rcases hm with rfl | rfl | rfl | rfl | rfl | rfl | rfl | rfl
 ·exact h1 _ _
 ·exact hx _ (by simp)
 ·exact hx _ (by simp)
 ·exact hx _ (by simp)
 ·exact h1 _ _
 ·exact hx _ (by simp)
 ·exact hx _ (by simp)
 ·exact hx _ (by simp)
theorem Nd {s:List Nat} (hs:s.length=8) (hx:∀ x∈s,x<18446744073709551616) (w:List Nat):∀ n,∀ x∈DW n w s,x<18446744073709551616
 | 0=>hx
 | n+1=>m8 (Gu hs w n) (Nd hs hx w n) _ _
theorem ie:∀ x∈Y2,x<18446744073709551616:=by decide +kernel
theorem fill8 (a b c d e f g h:Nat):fillL (Qc 8 (Value.int .u64 0)) [(0,1,.int .u64 (a:Int)),(1,1,.int .u64 (b:Int)),(2,1,.int .u64 (c:Int)),(3,1,.int .u64 (d:Int)),(4,1,.int .u64 (e:Int)),(5,1,.int .u64 (f:Int)),(6,1,.int .u64 (g:Int)),(7,1,.int .u64 (h:Int))]=some (ns .u64 [a,b,c,d,e,f,g,h]):=rfl
def w1I (H:List Ob) (P:Value) (w s:List Nat) (i:Int) (ex:Env):St:=⟨[(0,P),(4,.pointer (some ⟨H.length,0,none⟩)),(10,.pointer (some ⟨H.length+1,0,none⟩)),(86,eV Y2),(87,.int .i64 i)]++ex,H++[⟨ns .u64 w,true,true,true,1⟩,⟨ns .u64 s,true,true,true,1⟩],[]⟩
theorem eB {P:Value} (hw:w.length=80) (hs:s.length=8) (hx:∀ x∈s,x<18446744073709551616) (hi:i<80) :
  Q8 T H.length Bw (w1I H P w s i [])=some (.normal,w1I H P w (rnd s (Y2.getD i 0) (w.getD i 0)) ((i+1:Nat):Int) []):=by
 obtain ⟨a,b,c,d,e,f,g,h,rfl⟩:=eight hs
 obtain ⟨k,hk⟩:∃ k,Y2[i]?=some k:=⟨_,Qh (by rw [U4]; exact hi)⟩
 obtain ⟨v,hv⟩:∃ k,w[i]?=some k:=⟨_,Qh (by omega)⟩
 rw [XW hk,XW hv]
 have kc:=Jo (k := .u64) hk
 have vc:=Jo (k := .u64) hv
 have la:=hx a (by simp)
 have lb:=hx b (by simp)
 have lc:=hx c (by simp)
 have le:=hx e (by simp)
 have lf:=hx f (by simp)
 have lg:=hx g (by simp)
 have r14:ZB T 212 [.int .u64 e,.int .i64 (-14)]=some (.int .u64 (X1 e 14:Nat)):=BI (r:=14) le (by decide) (by decide)
 have r18:ZB T 212 [.int .u64 e,.int .i64 (-18)]=some (.int .u64 (X1 e 18:Nat)):=BI (r:=18) le (by decide) (by decide)
 have r41:ZB T 212 [.int .u64 e,.int .i64 (-41)]=some (.int .u64 (X1 e 41:Nat)):=BI (r:=41) le (by decide) (by decide)
 have r28:ZB T 212 [.int .u64 a,.int .i64 (-28)]=some (.int .u64 (X1 a 28:Nat)):=BI (r:=28) la (by decide) (by decide)
 have r34:ZB T 212 [.int .u64 a,.int .i64 (-34)]=some (.int .u64 (X1 a 34:Nat)):=BI (r:=34) la (by decide) (by decide)
 have r39:ZB T 212 [.int .u64 a,.int .i64 (-39)]=some (.int .u64 (X1 a 39:Nat)):=BI (r:=39) la (by decide) (by decide)
 have b14:=V5 (r:=14) le (by decide) (by decide)
 have b18:=V5 (r:=18) le (by decide) (by decide)
 have b41:=V5 (r:=41) le (by decide) (by decide)
 have b28:=V5 (r:=28) la (by decide) (by decide)
 have b34:=V5 (r:=34) la (by decide) (by decide)
 have b39:=V5 (r:=39) la (by decide) (by decide)
 have x1:=WY b14 b18
 have x2:Zs .xor .u64 ((X1 e 14^^^X1 e 18:Nat):Int) ((X1 e 41:Nat):Int)=((Sg1 e:Nat):Int):=WY (We b14 b18) b41
 have x3:=WY b28 b34
 have x4:Zs .xor .u64 ((X1 a 28^^^X1 a 34:Nat):Int) ((X1 a 39:Nat):Int)=((Sg0 a:Nat):Int):=WY (We b28 b34) b39
 have a1:=DT le lf
 have a2:Zs .xor .u64 (if IntKind.u64.signed=true then -1 else IntKind.u64.max) (e:Int)=((18446744073709551615^^^e:Nat):Int):=WY (a:=18446744073709551615) (by decide) le
 have lne:18446744073709551615^^^e<18446744073709551616:=We (by decide) le
 have a3:=DT lne lg
 have a4:Zs .xor .u64 ((e&&&f:Nat):Int) (((18446744073709551615^^^e)&&&g:Nat):Int)=((chO e f g:Nat):Int):=WY (Yv lf) (Yv lg)
 have a5:=DT la lb
 have a6:=DT la lc
 have a7:=DT lb lc
 have a8:=WY (a:=a&&&b) (b:=a&&&c) (Yv lb) (Yv lc)
 have a9:Zs .xor .u64 (((a&&&b)^^^(a&&&c):Nat):Int) ((b&&&c:Nat):Int)=((maO a b c:Nat):Int):=WY (We (Yv lb) (Yv lc)) (Yv lc)
 have m1:=W7 h (Sg1 e)
 have m2:=W7 ((h+Sg1 e)%18446744073709551616) (chO e f g)
 have m3:=W7 (((h+Sg1 e)%18446744073709551616+chO e f g)%18446744073709551616) k
 have m4:=W7 ((((h+Sg1 e)%18446744073709551616+chO e f g)%18446744073709551616+k)%18446744073709551616) v
 have hT1:((((h+Sg1 e)%18446744073709551616+chO e f g)%18446744073709551616+k)%18446744073709551616+v)%18446744073709551616=t1O [a,b,c,d,e,f,g,h] k v:=by
  show _=(h+Sg1 e+chO e f g+k+v)%18446744073709551616
  omega
 rw [hT1] at m4
 have m5:IntKind.u64.wrap ((Sg0 a:Int)+(maO a b c:Int))=((t2O [a,b,c,d,e,f,g,h]:Nat):Int):=W7 (Sg0 a) (maO a b c)
 have m6:=W7 (t1O [a,b,c,d,e,f,g,h] k v) (t2O [a,b,c,d,e,f,g,h])
 have m7:=W7 d (t1O [a,b,c,d,e,f,g,h] k v)
 have hr:rnd [a,b,c,d,e,f,g,h] k v=[(t1O [a,b,c,d,e,f,g,h] k v+t2O [a,b,c,d,e,f,g,h])%18446744073709551616,a,b,c,(d+t1O [a,b,c,d,e,f,g,h] k v)%18446744073709551616,e,f,g]:=rfl
 have hf:=fill8 ((t1O [a,b,c,d,e,f,g,h] k v+t2O [a,b,c,d,e,f,g,h])%18446744073709551616) a b c ((d+t1O [a,b,c,d,e,f,g,h] k v)%18446744073709551616) e f g
 rw [←hr] at hf
 have lR:=eZ [a,b,c,d,e,f,g,h] k v
 have e1:((i:Int)<80)=True:=eq_true (by omega)
 have w3:IntKind.i64.wrap ((i:Int)+1)=((i+1:Nat):Int):=Z0 (b:=1) (by omega)
 have vi:A6 none 80 1 (eV Y2) (.int .i64 (i:Int))=some (.int .u64 (k:Nat)):=by
  unfold eV
  rw [BU]
  simp only [e1,Q0,quiet,cK,↓pQ,reduceCtorEq,seval,-Qb,cL,kc]
 have g0:(ns .u64 [a,b,c,d,e,f,g,h])[0]?=some (.int .u64 (a:Nat)):=rfl
 have g1:(ns .u64 [a,b,c,d,e,f,g,h])[1]?=some (.int .u64 (b:Nat)):=rfl
 have g2:(ns .u64 [a,b,c,d,e,f,g,h])[2]?=some (.int .u64 (c:Nat)):=rfl
 have g3:(ns .u64 [a,b,c,d,e,f,g,h])[3]?=some (.int .u64 (d:Nat)):=rfl
 have g4:(ns .u64 [a,b,c,d,e,f,g,h])[4]?=some (.int .u64 (e:Nat)):=rfl
 have g5:(ns .u64 [a,b,c,d,e,f,g,h])[5]?=some (.int .u64 (f:Nat)):=rfl
 have g6:(ns .u64 [a,b,c,d,e,f,g,h])[6]?=some (.int .u64 (g:Nat)):=rfl
 have g7:(ns .u64 [a,b,c,d,e,f,g,h])[7]?=some (.int .u64 (h:Nat)):=rfl
 have lS:(ns .u64 [a,b,c,d,e,f,g,h]).length=8:=rfl
 clear hT1 hr hk hv kc hs hx
 generalize rnd [a,b,c,d,e,f,g,h] k v=R at *
 generalize (t1O [a,b,c,d,e,f,g,h] k v+t2O [a,b,c,d,e,f,g,h])%18446744073709551616=z1 at *
 generalize (d+t1O [a,b,c,d,e,f,g,h] k v)%18446744073709551616=z2 at *
 generalize t1O [a,b,c,d,e,f,g,h] k v=t1 at *
 generalize t2O [a,b,c,d,e,f,g,h]=t2 at *
 generalize (((h+Sg1 e)%18446744073709551616+chO e f g)%18446744073709551616+k)%18446744073709551616=z3 at *
 generalize ((h+Sg1 e)%18446744073709551616+chO e f g)%18446744073709551616=z4 at *
 generalize (h+Sg1 e)%18446744073709551616=z5 at *
 generalize Sg1 e=se,Sg0 a=sa,chO e f g=cc,maO a b c=mm at *
 generalize (a&&&b)^^^(a&&&c)=q1 at *
 generalize (18446744073709551615^^^e)&&&g=q2 at *
 generalize 18446744073709551615^^^e=q3 at *
 generalize e&&&f=q4 at *
 generalize a&&&b=q5 at *
 generalize a&&&c=q6 at *
 generalize b&&&c=q7 at *
 generalize X1 e 14^^^X1 e 18=q8,X1 a 28^^^X1 a 34=q9 at *
 generalize X1 e 14=p1,X1 e 18=p2,X1 e 41=p3,X1 a 28=p4,X1 a 34=p5,X1 a 39=p6 at *
 generalize i+1=i1 at *
 generalize hS:ns .u64 [a,b,c,d,e,f,g,h]=S at *
 simp only [w1I,hS]
 generalize eV Y2=kt at *
 simp only [Bw,Q0,quiet,cW,↓pW,reduceCtorEq,seval,-Qb,e1,vi,vc,r14,r18,r41,r28,r34,r39,x1,x2,x3,x4,a1,a2,a3,a4,a5,a6,a7,a8,a9,m1,m2,m3,m4,m5,m6,m7,hf,w3,g0,g1,g2,g3,g4,g5,g6,g7,lS,QQ,hw,lR,Q6,Qn]
theorem Sm {P:Value} (hw:w.length=80) (hs:s.length=8) (hx:∀ x∈s,x<18446744073709551616) :
  Q8 T H.length (.block 4 (.loop Bw)) (w1I H P w s 0 [])=some (.normal,w1I H P w (DW 80 w s) 80 [(88,.bool false)]):=by
 have h:=Xp (T:=T) (base:=H.length) (id:=4) (body:=Bw) (fun i=>w1I H P w (DW i w s) i []) (s':=w1I H P w (DW 80 w s) 80 [(88,.bool false)]) 80
  (fun i hi=>eB hw (Gu hs w i) (Nd hs hx w i) hi)
  (by
   generalize DW 80 w s=R
   simp only [w1I]
   generalize eV Y2=kt
   simp only [Bw,Q0,quiet,cW,↓pW,reduceCtorEq,seval,-Qb])
 exact h
end Go.Ev.YtomfgcgnepfmjaaGreat
namespace Go.Ev.YtomfgcgnepfmjaaGreat
open Go Go.Ev
attribute [local congr] Jq Jz Jp J2 Jb
set_option maxRecDepth 100000
variable {H G:List Ob} {hid n i x off b0:Nat} {st s b L:List Nat} {rv pv:Value} {K:Nat→Prop} {xs:List Value} {ps:List (List Nat)}
def hcl (rv:Value) (n:Nat) (st:List Nat):List Value:=rv::.int .u64 (n:Nat)::ns .u64 st
def hob (rv:Value) (n:Nat) (st:List Nat):Ob:=⟨hcl rv n st,true,true,true,1⟩
theorem Ba (rv:Value) (n:Nat) (st:List Nat):(hcl rv n st).length=2+st.length:=by simp [hcl,QQ]; omega
theorem N9 (h:st[i]?=some x):(hcl rv n st)[2+i]?=some (.int .u64 (x:Nat)):=by
 rw [X3]; exact Jo h
theorem iq (rv:Value) (n i x:Nat) (st:List Nat):(hcl rv n st).set (2+i) (.int .u64 (x:Nat))=hcl rv n (st.set i x):=by
 rw [X3]
 show rv::.int .u64 (n:Nat)::(ns .u64 st).set i _=_
 rw [XC]; rfl
theorem Ah (h:st.length=8):Q2 8 (Zw 2 (hcl rv n st))=ns .u64 st:=by
 show Q2 8 (ns .u64 st)=_
 rw [Qu (by rw [QQ]; omega)]
theorem iZ (hs:s.length=8):(blk s b).length=8:=by unfold blk; rw [W3,Gu hs,hs]; rfl
theorem nQ:∀ x∈blk s b,x<18446744073709551616:=by
 intro x hx
 unfold blk at hx
 obtain ⟨i,hi⟩:=List.getElem?_of_mem hx
 rw [Y1] at hi
 split at hi
 ·cases hi; exact Q4 _ (by decide)
 ·cases hi
theorem Zb {b:Nat}:∀ {M L:List Nat} {i:Nat},i∈Qy b L M→i∈L∨i∈M
 | [],L,i,h=>.inl h
 | m::M,L,i,h=>by
  simp only [Qy] at h
  split at h
  ·rcases Zb h with h1 | h1
   ·rcases QA.1 h1 with h2 | h2
    ·exact .inl h2
    ·exact .inr (by rw [Zk.1 h2]; exact List.mem_cons_self)
   ·exact .inr (Kx _ h1)
  ·rcases Zb h with h1 | h1
   ·exact .inl h1
   ·exact .inr (Kx _ h1)
def w0I (H:List Ob) (hid:Nat) (rv:Value) (n:Nat) (st:List Nat) (s L:List Nat) (ob1 ob2:Ob) (i:Int) (ex:Env):St:=⟨[(0,.pointer (some ⟨hid,0,none⟩)),(174,eV s),(175,.int .i64 i)]++ex,H.set hid (hob rv n st)++[ob1,ob2],L⟩
theorem So {ob1 ob2:Ob} (hh:hid<H.length) (hs:s.length=8) (hst:st.length=8) :
  ∃ L,Q8 T H.length (.block 6 (.loop HH)) (w0I H hid rv n st s [] ob1 ob2 0 [])=some (.normal,w0I H hid rv n (Kv (fun x y=>(x+y)%18446744073709551616) st s) s L ob1 ob2 8 [(176,.bool false)])∧∀ i∈L,i=hid:=by
 have hZ:(Kv (fun x y=>(x+y)%18446744073709551616) st s).length=8:=by rw [W3,hs,hst]; rfl
 obtain ⟨Z,hZd⟩:∃ Z,Z=Kv (fun x y=>(x+y)%18446744073709551616) st s:=⟨_,rfl⟩
 rw [←hZd] at hZ ⊢
 obtain ⟨st',hb,L,rfl,hL⟩:=Zc (T:=T) (base:=H.length) (id:=6) (body:=HH)
  (fun i x=>∃ L,x=w0I H hid rv n (Z.take i++st.drop i) s L ob1 ob2 i []∧∀ j∈L,j=hid)
  (Q:=fun x=>∃ L,x=w0I H hid rv n Z s L ob1 ob2 8 [(176,.bool false)]∧∀ j∈L,j=hid)
  8 (s:=w0I H hid rv n st s [] ob1 ob2 0 []) ⟨[],rfl,by simp⟩
  (fun i x hi hx=>by
   obtain ⟨L,rfl,hL⟩:=hx
   obtain ⟨u,hu⟩:∃ u,st[i]?=some u:=⟨_,Qh (by omega)⟩
   obtain ⟨v,hv⟩:∃ u,s[i]?=some u:=⟨_,Qh (by omega)⟩
   have hz:Z[i]?=some ((u+v)%18446744073709551616):=by rw [hZd,Y1,hu,hv]
   have hlt:(Z.take i).length=i:=by rw [Q7]; omega
   have hg:(Z.take i++st.drop i)[i]?=some u:=by
    rw [Qd (by omega),hlt,Qq,Zt]; exact hu
   have hstep:(Z.take i++st.drop i).set i ((u+v)%18446744073709551616)=Z.take (i+1)++st.drop (i+1):=by
    rw [Q3 _ _ (by omega),hlt,Qq,List.drop_eq_getElem?_toList_append (i:=i),hu,ZG,hz]
    simp
   have hlen:(Z.take i++st.drop i).length=8:=by rw [Qg,QC,hlt]; omega
   have gc:=N9 (rv:=rv) (n:=n) hg
   have sc:=iq rv n i ((u+v)%18446744073709551616) (Z.take i++st.drop i)
   rw [hstep] at sc
   have cl:=Ba rv n (Z.take i++st.drop i)
   rw [hlen] at cl
   have vc:=Jo (k := .u64) hv
   have vi:A6 none 8 1 (eV s) (.int .i64 (i:Int))=some (.int .u64 (v:Nat)):=by
    have e1:((i:Int)<8)=True:=eq_true (by omega)
    unfold eV
    rw [BU]
    simp only [e1,Q0,quiet,cK,↓pQ,reduceCtorEq,seval,-Qb,cL,vc]
   have m1:=W7 u v
   have e1:((i:Int)<8)=True:=eq_true (by omega)
   have w3:IntKind.i64.wrap ((i:Int)+1)=((i+1:Nat):Int):=Z0 (b:=1) (by omega)
   have hget:∀ o:Ob,(H.set hid o++[ob1,ob2])[hid]?=some o:=fun o=>by
    rw [Qa (by rw [Qo]; exact hh),Qt hh]
   have hset:∀ o o':Ob,(H.set hid o++[ob1,ob2]).set hid o'=H.set hid o'++[ob1,ob2]:=fun o o'=>by
    rw [Xd _ _ (by rw [Qo]; exact hh),KR]
   have e5:(2+i+1≤2+8)=True:=eq_true (by omega)
   refine ⟨w0I H hid rv n (Z.take (i+1)++st.drop (i+1)) s (Qy H.length L [hid]) ob1 ob2 ((i+1:Nat):Int) [],?_,_,rfl,?_⟩
   ·generalize Z.take (i+1)++st.drop (i+1)=O2,Z.take i++st.drop i=O1 at *
    generalize (u+v)%18446744073709551616=z at *
    simp only [w0I,hob]
    generalize hcl rv n O1=C1,hcl rv n O2=C2,eV s=sv at *
    generalize i+1=i1 at *
    simp only [HH,Q0,quiet,cW,↓pW,reduceCtorEq,seval,-Qb,e1,vi,m1,w3,gc,sc,cl,e5,hget,hset]
    done
   ·intro j hj
    rcases Zb hj with h | h
    ·exact hL j h
    ·simpa using h)
  (fun x hx=>by
   obtain ⟨L,rfl,hL⟩:=hx
   rw [Qu (by omega),Ju (by omega),Q9]
   refine ⟨_,?_,L,rfl,hL⟩
   simp only [w0I,hob]
   generalize hcl rv n Z=C
   generalize eV s=sv
   simp only [HH,Q0,quiet,cW,↓pW,reduceCtorEq,seval,-Qb])
 exact ⟨L,hb,hL⟩
theorem Yc {α:Type} {l:List α} {i:Nat} {x:α} (h:l[i]?=some x):l.set i x=l:=by
 apply ZK
 intro k
 rw [XT]
 by_cases c:i=k
 ·rw [if_pos c,←c,h,if_pos (Qf.1 h).1]
 ·rw [if_neg c]
def Ay:List Nat:=Qc 80 0
theorem lQ:Qc 80 (Value.int .u64 0)=ns .u64 Ay:=rfl
theorem eg:Ay.length=80:=rfl
def PW:List Nat:=Qc 8 0
theorem z8_eq:Qc 8 (Value.int .u64 0)=ns .u64 PW:=rfl
theorem lN:PW.length=8:=rfl
theorem dC {id cap:Nat} (hh:H[hid]?=some (hob rv n st)) (hs:st.length=8) (hx:∀ x∈st,x<18446744073709551616) (hb:BB H id off b) (hl:b.length=128) (hc:128≤cap) :
  ∃ w s M,Zd T 206 [.pointer (some ⟨hid,0,none⟩),.slice (some ⟨id,off,none⟩) 128 cap] H=some (.tuple #[],H.set hid (hob rv n (blk st b))++[w,s],M)∧∀ i∈M,i=hid:=by
 have hlt:hid<H.length:=(Qf.1 hh).1
 have h3:=Si (P := .pointer (some ⟨hid,0,none⟩)) (cap:=cap) hb hl hc
 have hWl:=Up b
 have h1:=Sm (H:=H) (P := .pointer (some ⟨hid,0,none⟩)) hWl hs hx
 have lr:=Gu hs (XD b) 80
 obtain ⟨L,h0,hL⟩:=So (H:=H) (hid:=hid) (n:=n) (rv:=rv) (ob1:=⟨ns .u64 (XD b),true,true,true,1⟩) (ob2:=⟨ns .u64 (DW 80 (XD b) st),true,true,true,1⟩) hlt lr hs
 rw [show Kv (fun x y=>(x+y)%18446744073709551616) st (DW 80 (XD b) st)=blk st b from rfl] at h0
 have hss:H.set hid (hob rv n st)=H:=Yc hh
 refine ⟨⟨ns .u64 (XD b),true,true,true,1⟩,⟨ns .u64 (DW 80 (XD b) st),true,true,true,1⟩,L,?_,hL⟩
 simp only [w0I,hss,Qw,Qr,Z1] at h0
 have hz:=lQ
 have lz:=eg
 have hz8:=z8_eq
 have lz8:=lN
 rw [show Qc 80 0=Ay from rfl] at h3
 simp only [w3I,Qw,Qr,Z1] at h3
 simp only [w1I,Qw,Qr,Z1] at h1
 have ht:=LW
 have hcs:=Ah (rv:=rv) (n:=n) hs
 have hcl8:2+8≤(hcl rv n st).length:=by rw [Ba]; omega
 have hget:∀ l:List Ob,(H++l)[hid]?=some ⟨hcl rv n st,true,true,true,1⟩:=fun l=>by rw [Qa hlt]; exact hh
 have lk:=U4
 generalize H.set hid (hob rv n (blk st b))=H' at *
 generalize XD b=W at *
 generalize DW 80 W st=R,hcl rv n st=C at *
 generalize Ay=Z at *
 generalize PW=Z8 at *
 generalize Y2=KT at *
 rw [QE (fn:=pc) rfl]
 simp only [pc,Q0,quiet,cW,↓pW,reduceCtorEq,seval,-Qb,hz,hz8,h3,h1,h0,ht,hget,hcs,hcl8,Qn,Q6,QY,Zf,ZY,Zg,QQ,hWl,hs,lr,lz,lz8,lk,Ja]
 rfl
inductive Rst (K:Nat→Prop) (H:List Ob):Value→List Nat→Prop
 | nil:Rst K H (.slice none 0 0) []
 | empty {id:Nat}:¬ K id→H[id]?=some ⟨[],true,true,true,1⟩→Rst K H (.slice (some ⟨id,0,none⟩) 0 0) []
 | own {id off:Nat} {all l:List Nat}:¬ K id→H[id]?=some ⟨u8s all,true,true,false,1⟩→off+l.length≤all.length→(∀ i,i<l.length→all[off+i]?=l[i]?)→Rst K H (.slice (some ⟨id,off,none⟩) l.length l.length) l
theorem Rst.app {K:Nat→Prop} {H m:List Ob} {v:Value} {l:List Nat} (h:Rst K H v l):Rst K (H++m) v l:=by
 cases h with
 | nil=>exact .nil
 | empty h1 h2=>exact .empty h1 (by rw [Qa (Qf.1 h2).1]; exact h2)
 | own h1 h2 h4 h3=>exact .own h1 (by rw [Qa (Qf.1 h2).1]; exact h2) h4 h3
theorem Rst.setH {K:Nat→Prop} {H:List Ob} {v:Value} {l:List Nat} {hid n:Nat} {rv:Value} {st:List Nat} (h:Rst K H v l) (hh:H[hid]?=some (hob rv n st)) (o:Ob):Rst K (H.set hid o) v l:=by
 cases h with
 | nil=>exact .nil
 | empty h1 h2=>exact .empty h1 (by
   rw [Qm]
   ·exact h2
   ·intro e; subst e
    have:=congrArg Ob.cells (Xq (hh.symm.trans h2))
    simp [hob,hcl] at this)
 | own h1 h2 h4 h3=>exact .own h1 (by
   rw [Qm]
   ·exact h2
   ·intro e; subst e
    have:=congrArg Ob.exact (Xq (hh.symm.trans h2))
    simp [hob] at this) h4 h3
theorem MM {all l:List Nat} (h:∀ i,i<l.length→all[off+i]?=l[i]?):((u8s all).drop off).take l.length=u8s l:=by
 apply ZK
 intro i
 rw [QS]
 split
 ·rename_i hi
  rw [Zt]
  have:=h i hi
  simp only [u8s,List.getElem?_map,this]
 ·rename_i hi
  rw [List.getElem?_eq_none (by rw [Qp]; omega)]
theorem Rst.append {K:Nat→Prop} {H:List Ob} {v x:Value} {l p:List Nat} (h:Rst K H v l) (hK:∀ i,K i→i<H.length) (hl:Go.Ev.lenV x=some p.length) (he:elemsOf H 1 p.length x=some (u8s p)) (hb:l.length+p.length≤2^47) :
  ∃ v' H' M,Zu 1 1 H v x=some (v',H',none,M)∧Rst K H' v' (l++p)∧(∀ i∈M,¬ K i)∧H.length≤H'.length∧(∀ i,K i→H'[i]?=H[i]?)∧∀ (i:Nat) (o:Ob),H[i]?=some o→o.exact=true→H'[i]?=some o:=by
 rcases Zv p.length with hn | hn
 ·have:p=[]:=Za hn
  subst this
  rw [Q9]
  refine ⟨v,H,[],?_,h,by simp,Qk _,fun _ _=>rfl,fun i o h _=>h⟩
  rw [Z3] at hl he
  cases h<;>simp only [Zu,hl,he,Qj,if_true]
 ·have h1:¬ p.length=0:=by omega
  have hnew:¬ K H.length:=fun h=>absurd (hK _ h) (YP _)
  cases h with
  | nil =>
   refine ⟨.slice (some ⟨H.length,0,none⟩) p.length p.length,H++[Ob.grown 1 (u8s p)],[],?_,?_,by simp,by simp,?_,?_⟩
   ·have h2:(0+p.length)*1≤2^47∧0<1∧0<1:=⟨by simpa using hb,by decide,by decide⟩
    simp only [Zu,hl,he,Qj,if_neg h1,h2,and_self,not_true_eq_false,if_false,if_true]
   ·rw [Qr]
    exact .own (all:=p) hnew (by simp [Ob.grown]) (by omega) (fun i _=>by rw [QB])
   ·intro i hi; rw [Qa (hK i hi)]
   ·intro i o ho _; rw [Qa (Qf.1 ho).1]; exact ho
  | @empty id0 k1 k2 =>
   refine ⟨.slice (some ⟨H.length,0,none⟩) (0+p.length) (0+p.length),H++[Ob.grown 1 ([]++u8s p)],[],?_,?_,by simp,by simp,?_,?_⟩
   ·have h2:(0+p.length)*1≤2^47∧0<1∧0<1:=⟨by simpa using hb,by decide,by decide⟩
    have h4:liveAt H id0=some ⟨[],true,true,true,1⟩:=QW k2 rfl
    have h7:¬ (0+p.length≤0):=by omega
    have h8:elemsOf H 1 0 (.slice (some ⟨id0,0,none⟩) 0 0)=some []:=by simp [elemsOf,h4]
    simp only [Zu,hl,he,Qj,if_neg h1,h2,and_self,not_true_eq_false,if_false,if_true,h4,h8,if_neg h7]
   ·rw [Qr,Qr,QB]
    exact .own (all:=p) hnew (by simp [Ob.grown]) (by omega) (fun i _=>by rw [QB])
   ·intro i hi; rw [Qa (hK i hi)]
   ·intro i o ho _; rw [Qa (Qf.1 ho).1]; exact ho
  | @own id0 off all _ k1 k2 k4 k3 =>
   have hid:id0<H.length:=(Qf.1 k2).1
   refine ⟨.slice (some ⟨H.length,0,none⟩) (l.length+p.length) (l.length+p.length),(H.set id0 Ob.dead)++[Ob.grown 1 (u8s l++u8s p)],[id0],?_,?_,by simpa using k1,by simp,?_,?_⟩
   ·have h2:(l.length+p.length)*1≤2^47∧0<1∧0<1:=⟨by omega,by decide,by decide⟩
    have h4:liveAt H id0=some ⟨u8s all,true,true,false,1⟩:=QW k2 rfl
    have h7:¬ (l.length+p.length≤l.length):=by omega
    have h8:elemsOf H 1 l.length (.slice (some ⟨id0,off,none⟩) l.length l.length)=some (u8s l):=by
     have:=MM k3
     simp only [elemsOf,h4,Qj,XK]
     rw [this]
     simp [Qp,k4]
    simp only [Zu,hl,he,Qj,if_neg h1,h2,and_self,not_true_eq_false,if_false,if_true,h4,h8,if_neg h7,Zh,Qk]
   ·have:=Rst.own (K:=K) (H:=(H.set id0 Ob.dead)++[Ob.grown 1 (u8s l++u8s p)]) (id:=H.length) (off:=0) (all:=l++p) (l:=l++p) hnew (by simp [Ob.grown,u8s]) (by omega) (fun i _=>by rw [QB])
    rwa [Qg] at this
   ·intro i hi
    rw [Qa (by rw [Qo]; exact hK i hi),Qm (fun e=>k1 (by rw [e]; exact hi))]
   ·intro i o ho hex
    rw [Qa (by rw [Qo]; exact (Qf.1 ho).1),Qm]
    ·exact ho
    ·intro e; subst e; rw [k2] at ho; cases ho; cases hex
theorem Mi (b:List Nat):∀ n,(stK n b).length=8
 | 0=>rfl
 | n+1=>iZ (Mi b n)
theorem SU:∀ x∈BH,x<18446744073709551616:=by decide
theorem SC (b:List Nat):∀ n,∀ x∈stK n b,x<18446744073709551616
 | 0=>SU
 | n+1=>nQ
theorem Na (a b:List Nat):∀ q,128*q≤a.length→stK q (a++b)=stK q a
 | 0,_=>rfl
 | q+1,h=>by
  rw [stK,stK,Na a b q (by omega),ZL (by omega),ZZ (by rw [QC]; omega)]
def Hsh (K:Nat→Prop) (H:List Ob) (hid:Nat) (all:List Nat):Prop:=∃ rv,H[hid]?=some (hob rv all.length (stK (all.length/128) all))∧Rst K H rv (all.drop (128*(all.length/128)))
def fdF (hid:Nat):Value := .func (.func 206) [Value.pointer (some ⟨hid,0,none⟩)].toArray [].toArray
def fdI (hid:Nat) (H:List Ob) (L:List Nat) (ex:Env):St:=⟨[(0,.pointer (some ⟨hid,0,none⟩)),(1,.int .i64 128),(3,fdF hid)]++ex,H,L⟩
theorem iF {rest:List Nat} {ex:Env} (hK:∀ i,K i→i<H.length) (hKh:¬ K hid) (hh:H[hid]?=some (hob rv n st)) (hs:st.length=8) (hx:∀ x∈st,x<18446744073709551616) (hr:Rst K H rv rest) (h128:128≤rest.length) (xr:∀ x∈rest,x<256) (hL:∀ i∈L,¬ K i) (hmx:rest.length<2^60) :
  ∃ rv' H' L' ex',Q8 T b0 VW (fdI hid H L ex)=some (.normal,fdI hid H' L' ex')∧H'[hid]?=some (hob rv' n (blk st (rest.take 128)))∧Rst K H' rv' (rest.drop 128)∧(∀ i,K i→H'[i]?=H[i]?)∧H.length≤H'.length∧∀ i∈L',¬ K i:=by
 have hlt:hid<H.length:=(Qf.1 hh).1
 cases hr with
 | nil=>exact absurd h128 (by decide)
 | empty _ _=>exact absurd h128 (by decide)
 | @own id off all _ k1 k2 k4 k3 =>
  have hidne:id≠hid:=fun e=>by
   subst e
   have:=congrArg Ob.exact (Xq (hh.symm.trans k2))
   simp [hob] at this
  have hBB:BB H id off (rest.take 128):=⟨⟨all,k2,fun i hi=>by
   rw [Q7] at hi
   rw [k3 i (by omega),QS,if_pos (by omega)]⟩,fun x hx=>xr x (QP hx)⟩
  have hl:(rest.take 128).length=128:=by rw [Q7]; omega
  obtain ⟨w,s,M,hb,hM⟩:=dC (cap:=rest.length) hh hs hx hBB hl h128
  have c0:∀ s',(hcl (.slice (some ⟨id,off,none⟩) rest.length rest.length) n s')[0]?=some (.slice (some ⟨id,off,none⟩) rest.length rest.length):=fun _=>rfl
  have cs:∀ s' v,(hcl (.slice (some ⟨id,off,none⟩) rest.length rest.length) n s').set 0 v=hcl v n s':=fun _ _=>rfl
  have cl:∀ v s',(1≤(hcl v n s').length)=True:=fun v s'=>eq_true (by rw [Ba]; omega)
  have b1:ZC rest.length rest.length none (some (.int .i64 128)) none=some (0,128,rest.length):=by
   have n1:Xo (some (.int .i64 128)) rest.length rest.length=some 128:=J3 (n:=128) h128
   rw [JA,n1,Qj]; rfl
  have b2:ZC rest.length rest.length (some (.int .i64 128)) none none=some (128,rest.length,rest.length):=by
   have n1:Xo (some (.int .i64 128)) rest.length 0=some 128:=J3 (n:=128) h128
   rw [JA,XQ,Qj,n1,Qj]
  have e1:((128:Int)≤(rest.length:Int))=True:=eq_true (by omega)
  have g0:H[hid]?=some ⟨hcl (.slice (some ⟨id,off,none⟩) rest.length rest.length) n st,true,true,true,1⟩:=hh
  have g1:∀ o:Ob,(H.set hid o++[w,s])[hid]?=some o:=fun o=>by
   rw [Qa (by rw [Qo]; exact hlt),Qt hlt]
  have g2:∀ o:Ob,(H.set hid o++[w,s])[id]?=some ⟨u8s all,true,true,false,1⟩:=fun o=>by
   rw [Qa (by rw [Qo]; exact (Qf.1 k2).1),Qm (Ne.symm hidne)]; exact k2
  have g3:∀ o o':Ob,(H.set hid o++[w,s]).set hid o'=H.set hid o'++[w,s]:=fun o o'=>by
   rw [Xd _ _ (by rw [Qo]; exact hlt),KR]
  refine ⟨.slice (some ⟨id,off+128,none⟩) (rest.length-128) (rest.length-128),H.set hid (hob (.slice (some ⟨id,off+128,none⟩) (rest.length-128) (rest.length-128)) n (blk st (rest.take 128)))++[w,s],Qy b0 (Qy b0 L M) [hid],[],?_,g1 _,?_,?_,?_,?_⟩
  ·simp only [hob] at hb ⊢
   generalize blk st (rest.take 128)=st' at *
   simp only [fdI,fdF,VW,Q0,quiet,cW,↓pW,reduceCtorEq,seval,-Qb,e1,b1,b2,hb,c0,cs,cl,g0,k2,g1,g2,g3]
  ·have:=Rst.own (K:=K) (H:=H.set hid (hob (.slice (some ⟨id,off+128,none⟩) (rest.length-128) (rest.length-128)) n (blk st (rest.take 128)))++[w,s]) (id:=id) (off:=off+128) (all:=all) (l:=rest.drop 128) k1 (g2 _) (by rw [QC]; omega) (fun i hi=>by
    rw [QC] at hi
    rw [Zt,←k3 _ (by omega),Zi])
   rwa [QC] at this
  ·intro i hi
   rw [Qa (by rw [Qo]; exact hK i hi),Qm (fun e=>hKh (by rw [e]; exact hi))]
  ·simp
  ·intro i hi
   rcases Zb hi with h | h
   ·rcases Zb h with h | h
    ·exact hL i h
    ·rw [hM i h]; exact hKh
   ·rw [Zk.1 h]; exact hKh
theorem Rst.shape {K:Nat→Prop} {H:List Ob} {v:Value} {l:List Nat} (h:Rst K H v l):∃ (a:Option Addr) (c:Nat),v=.slice a l.length c:=by
 cases h with
 | nil=>exact ⟨_,_,rfl⟩
 | empty _ _=>exact ⟨_,_,rfl⟩
 | own _ _ _ _=>exact ⟨_,_,rfl⟩
theorem iE {x:Value} {all p:List Nat} (hK:∀ i,K i→i<H.length) (hKh:¬ K hid) (hh:Hsh K H hid all) (xa:∀ y∈all,y<256) (xp:∀ y∈p,y<256)
 (hl:∃ (a:Option Addr) (c:Nat),x=.slice a p.length c) (he:∀ o,elemsOf (H.set hid o) 1 p.length x=some (u8s p)) (hb:all.length+p.length<2^50) (hb2:p.length≤2^47-128) :
    ∃ H' M,Zd T 183 [.pointer (some ⟨hid,0,none⟩),.int .i64 128,x,fdF hid] H=some (.tuple #[],H',M)∧Hsh K H' hid (all++p)∧(∀ i,K i→H'[i]?=H[i]?)∧H.length≤H'.length∧∀ i∈M,¬ K i:=by
  obtain ⟨rv,h1,h2⟩:=hh
  have hlt:hid<H.length:=(Qf.1 h1).1
  obtain ⟨q0,hq0⟩:∃ q,q=all.length/128:=⟨_,rfl⟩
  rw [←hq0] at h1 h2
  have hq1:128*q0≤all.length:=by rw [hq0]; omega
  have hst:stK q0 all=stK q0 (all++p):=(Na all p q0 hq1).symm
  have hN:(all++p).length=all.length+p.length:=Qg
  rw [hst] at h1
  obtain ⟨st0,hst0⟩:∃ s,s=stK q0 (all++p):=⟨_,rfl⟩
  rw [←hst0] at h1
  have hrest:all.drop (128*q0)++p=(all++p).drop (128*q0):=(ZL hq1).symm
  have hrl:(all.drop (128*q0)).length≤127:=by rw [QC,hq0]; omega
  have hr1:Rst K (H.set hid (hob rv (all.length+p.length) st0)) rv (all.drop (128*q0)):=h2.setH h1 _
  have hK1:∀ i,K i→i<(H.set hid (hob rv (all.length+p.length) st0)).length:=fun i hi=>by rw [Qo]; exact hK i hi
  have hlen:Go.Ev.lenV x=some p.length:=by obtain ⟨a,c,rfl⟩:=hl; rfl
  obtain ⟨rv',H2,M2,ha,a1,a2,a3,a4,a5⟩:=hr1.append hK1 hlen (he _) (by omega)
  have hg1:(H.set hid (hob rv (all.length+p.length) st0))[hid]?=some (hob rv (all.length+p.length) st0):=Qt hlt
  have hg2:=a5 hid _ hg1 rfl
  rw [Qo] at a3
  have hlt2:hid<H2.length:=by omega
  have hr3:Rst K (H2.set hid (hob rv' (all.length+p.length) st0)) rv' ((all++p).drop (128*q0)):=by
    rw [hrest] at a1
    exact a1.setH hg2 _
  have hg3:(H2.set hid (hob rv' (all.length+p.length) st0))[hid]?=some (hob rv' (all.length+p.length) st0):=Qt hlt2
  obtain ⟨H3,hH3⟩:∃ X,X=H2.set hid (hob rv' (all.length+p.length) st0):=⟨_,rfl⟩
  have hf3:∀ i,K i→H3[i]?=H[i]? := fun i hi=>by
    have hne:hid≠i:=fun e=>hKh (by rw [e]; exact hi)
    rw [hH3,Qm hne,a4 i hi,Qm hne]
  have hl3:H.length≤H3.length:=by rw [hH3,Qo]; exact a3
  obtain ⟨L3,hL3⟩:∃ L,L=Qy H.length (Qy H.length (Qy H.length [] [hid]) M2) [hid]:=⟨_,rfl⟩
  have hL3':∀ i∈L3,¬ K i:=fun i hi=>by
    rw [hL3] at hi
    rcases Zb hi with h | h
    · rcases Zb h with h | h
      · rcases Zb h with h | h
        · simp at h
        · rw [Zk.1 h]; exact hKh
      · exact a2 i h
    · rw [Zk.1 h]; exact hKh
  rw [←hH3] at hr3 hg3
  obtain ⟨st,hloop,H',L',ex',rvf,rfl,f1,f2,f3,f4,f5⟩:=Zc (T:=T) (base:=H.length) (id:=0) (body:=VW)
    (fun k st=>∃ H' L' ex' rvk,st=fdI hid H' L' ex'∧H'[hid]?=some (hob rvk (all.length+p.length) (stK (q0+k) (all++p)))∧Rst K H' rvk ((all++p).drop (128*(q0+k)))∧(∀ i,K i→H'[i]?=H[i]?)∧H.length≤H'.length∧∀ i∈L',¬ K i)
    (Q:=fun st=>∃ H' L' ex' rvk,st=fdI hid H' L' ex'∧H'[hid]?=some (hob rvk (all.length+p.length) (stK ((all++p).length/128) (all++p)))∧Rst K H' rvk ((all++p).drop (128*((all++p).length/128)))∧(∀ i,K i→H'[i]?=H[i]?)∧H.length≤H'.length∧∀ i∈L',¬ K i)
    ((all++p).length/128-q0) (s:=fdI hid H3 L3 []) ⟨H3,L3,[],rv',rfl,by rw [ZH,←hst0]; exact hg3,by rw [ZH]; exact hr3,hf3,hl3,hL3'⟩
    (fun k st hk hs=>by
      obtain ⟨Hk,Lk,exk,rvk,rfl,k1,k2,k3,k4,k5⟩:=hs
      obtain ⟨rv2,Hk2,L2,ex2,j1,j2,j3,j4,j5,j6⟩:=iF (b0:=H.length) (ex:=exk) (fun i hi=>QJ (hK i hi) k4) hKh k1 (Mi _ _) (SC _ _) k2 (by rw [QC]; omega) (fun y hy=>by
        rcases QA.1 (Zz hy) with h | h
        · exact xa y h
        · exact xp y h) k5 (by rw [QC]; omega)
      refine ⟨_,j1,Hk2,L2,ex2,rv2,rfl,j2,?_,fun i hi=>(j4 i hi).trans (k3 i hi),ZT k4 j5,j6⟩
      rw [List.drop_drop] at j3
      rw [show 128*(q0+(k+1))=128*(q0+k)+128 by omega]
      exact j3)
    (fun st hs=>by
      obtain ⟨Hk,Lk,exk,rvk,rfl,k1,k2,k3,k4,k5⟩:=hs
      have hqq:q0+((all++p).length/128-q0)=(all++p).length/128:=by
        have:q0≤(all++p).length/128:=by rw [hq0,hN]; omega
        omega
      rw [hqq] at k1 k2
      have hrl2:((all++p).drop (128*((all++p).length/128))).length<128:=by rw [QC]; omega
      obtain ⟨v,c,hv⟩:=k2.shape
      refine ⟨_,?_,Hk,Lk,[(33,.bool false)],rvk,rfl,k1,k2,k3,k4,k5⟩
      subst hv
      have c0:∀ v' s',(hcl v' (all.length+p.length) s')[0]?=some v':=fun _ _=>rfl
      have e1:((128:Int)≤(((all++p).drop (128*((all++p).length/128))).length:Int))=False:=eq_false (by omega)
      simp only [hob] at k1
      generalize ((all++p).drop (128*((all++p).length/128))).length=rl,stK ((all++p).length/128) (all++p)=sk at *
      simp only [fdI,fdF,VW,Q0,quiet,cW,↓pW,reduceCtorEq,seval,-Qb,e1,k1,c0])
  refine ⟨H',L',?_,⟨rvf,by rw [hN] at f1 ⊢; exact f1,f2⟩,f3,f4,f5⟩
  obtain ⟨c1,c2,rfl⟩:=hl
  simp only [fdI,Qw,Qr,hL3] at hloop
  simp only [hob] at h1 ha hg2 hH3
  have w1:IntKind.u64.wrap (p.length:Int)=(p.length:Int):=Io (by omega)
  have w2:IntKind.u64.wrap ((all.length:Int)+(p.length:Int))=((all.length+p.length:Nat):Int):=LR (by omega)
  have c0:∀ v' n' s',(hcl v' n' s')[0]?=some v':=fun _ _ _=>rfl
  have c1':∀ v' (n':Nat) s',(hcl v' n' s')[1]?=some (.int .u64 n'):=fun _ _ _=>rfl
  have s0:∀ v' n' s' v,(hcl v' n' s').set 0 v=hcl v n' s':=fun _ _ _ _=>rfl
  have s1:∀ v' n' s' (m:Nat),(hcl v' n' s').set 1 (.int .u64 (m:Int))=hcl v' m s':=fun _ _ _ _=>rfl
  have cl:∀ v n' s',(1≤(hcl v n' s').length)=True:=fun v n' s'=>eq_true (by rw [Ba]; omega)
  have cl2:∀ v n' s',(2≤(hcl v n' s').length)=True:=fun v n' s'=>eq_true (by rw [Ba]; omega)
  have hgs:∀ o:Ob,(H.set hid o)[hid]?=some o:=fun o=>Qt hlt
  obtain ⟨vr,cr,hvr⟩:=a1.shape
  have hok:okVar rv'=true:=by rw [hvr]; rfl
  have hc1:rv'.cells.toList=[rv']:=by rw [hvr]; rfl
  have hc2:rv'.cells.size=1:=by rw [hvr]; rfl
  clear hvr
  generalize all.length+p.length=NN at *
  rw [QE (fn:=dY) rfl]
  simp only [dY,Q0,quiet,cW,↓pW,reduceCtorEq,seval,-Qb,fdF,h1,c0,c1',s0,s1,cl,cl2,w1,w2,hgs,ha,hg2,←hH3,hok,hc1,hc2]
  simp only [fdF] at hloop
  simp only [hloop,Q0,quiet,cK,↓pQ,reduceCtorEq,seval,-Qb,cL]
  rfl
structure HPart (K:Nat→Prop) (H:List Ob) (x:Value) (p:List Nat):Prop where
 shape:∃ (a:Option Addr) (c:Nat),x=.slice a p.length c
 reads:∀ G:List Ob,(∀ i,K i→G[i]?=H[i]?)→elemsOf G 1 p.length x=some (u8s p)
 lt:∀ y∈p,y<256
 le:p.length≤2^47-128
theorem HPart.of {K:Nat→Prop} {H G:List Ob} {x:Value} {p:List Nat} (h:HPart K H x p) (hg:∀ i,K i→G[i]?=H[i]?):HPart K G x p :=
 ⟨h.shape,fun G' hG'=>h.reads G' fun i hi=>(hG' i hi).trans (hg i hi),h.lt,h.le⟩
inductive HParts (K:Nat→Prop) (H:List Ob):List Value→List (List Nat)→Prop
 | nil:HParts K H [] []
 | cons {x:Value} {p:List Nat} {xs:List Value} {ps:List (List Nat)}:HPart K H x p→HParts K H xs ps→HParts K H (x::xs) (p::ps)
theorem HParts.get {K:Nat→Prop} {H:List Ob}:∀ {xs:List Value} {ps:List (List Nat)},HParts K H xs ps→∀ {i:Nat} {x:Value},xs[i]?=some x→∃ p,ps[i]?=some p∧HPart K H x p
 | _,_,.nil,i,x,h=>by simp at h
 | _,_,.cons a b,0,x,h=>by simp at h; subst h; exact ⟨_,rfl,a⟩
 | _,_,.cons a b,i+1,x,h=>by
  obtain ⟨p,h1,h2⟩:=b.get (i:=i) (by simpa using h)
  exact ⟨p,by simpa using h1,h2⟩
theorem HParts.len {K:Nat→Prop} {H:List Ob}:∀ {xs:List Value} {ps:List (List Nat)},HParts K H xs ps→ps.length=xs.length
 | _,_,.nil=>rfl
 | _,_,.cons _ b=>by simp [b.len]
theorem HParts.lt {K:Nat→Prop} {H:List Ob}:∀ {xs:List Value} {ps:List (List Nat)},HParts K H xs ps→∀ y∈ps.flatten,y<256
 | _,_,.nil=>by simp
 | _,_,.cons a b=>by
  intro y hy
  rw [QK] at hy
  rcases QA.1 hy with h | h
  ·exact a.lt y h
  ·exact b.lt y h
def PV (K:Nat→Prop) (H:List Ob) (pv:Value) (xs:List Value):Prop:=(pv=.slice none 0 0∧xs=[])∨∃ pid off cap o,pv=.slice (some ⟨pid,off,none⟩) xs.length cap∧K pid∧H[pid]?=some o∧o.live=true∧∀ i,i<xs.length→o.cells[off+i]?=xs[i]?
def wrI (hid:Nat) (pv:Value) (n:Nat) (i:Int) (H:List Ob) (L:List Nat) (ex:Env):St:=⟨[(0,.pointer (some ⟨hid,0,none⟩)),(6,pv),(7,.int .i64 n),(8,.int .i64 i)]++ex,H,L⟩
theorem eo {H0:List Ob} {all:List Nat} (hK:∀ i,K i→i<H.length) (hKh:¬ K hid) (hh:Hsh K H hid all) (xa:∀ y∈all,y<256) (hp:PV K H0 pv xs) (hP:HParts K H0 xs ps) (hF:∀ i,K i→H[i]?=H0[i]?) (hL:∀ i∈L,¬ K i) (hi:i<xs.length) (hn:xs.length<2^50) (hb:all.length+(ps.getD i []).length<2^50) :
  ∃ H' L',Q8 T b0 HJ (wrI hid pv xs.length i H L [])=some (.normal,wrI hid pv xs.length ((i+1:Nat):Int) H' L' [])∧Hsh K H' hid (all++ps.getD i [])∧(∀ i,K i→H'[i]?=H[i]?)∧H.length≤H'.length∧∀ i∈L',¬ K i:=by
 obtain ⟨x,hx⟩:∃ x,xs[i]?=some x:=⟨_,Qh hi⟩
 obtain ⟨p,hpi,hpp⟩:=hP.get hx
 have hgd:ps.getD i []=p:=by rw [Qx,hpi]; rfl
 rw [hgd] at hb ⊢
 obtain ⟨H',M,hf,f1,f2,f3,f4⟩:=iE hK hKh hh xa hpp.lt hpp.shape (fun o=>hpp.reads _ (fun j hj=>by
  rw [Qm (fun e=>hKh (by rw [e]; exact hj))]; exact hF j hj)) hb hpp.le
 rcases hp with ⟨-,h0⟩ | ⟨pid,off,cap,o,rfl,kp,ho,hlv,hc⟩
 ·rw [h0] at hi; exact absurd hi (Nat.not_lt_zero _)
 ·have ho':H[pid]?=some o:=(hF pid kp).trans ho
  have hcx:o.cells[off+i]?=some x:=(hc i hi).trans hx
  have e1:((i:Int)<(xs.length:Int))=True:=eq_true (by omega)
  have w3:IntKind.i64.wrap ((i:Int)+1)=((i+1:Nat):Int):=Z0 (b:=1) (by omega)
  refine ⟨H',Qy b0 L M,?_,f1,f2,f3,fun j hj => ?_⟩
  ·simp only [fdF] at hf
   generalize i+1=i1 at *
   simp only [wrI,HJ,Q0,quiet,cW,↓pW,reduceCtorEq,seval,-Qb,e1,ho',hlv,hcx,w3,hf]
  ·rcases Zb hj with h | h
   ·exact hL j h
   ·exact f4 j h
theorem C8 {all:List Nat} (hK:∀ i,K i→i<H.length) (hKh:¬ K hid) (hh:Hsh K H hid all) (xa:∀ y∈all,y<256) (hp:PV K H pv xs) (hP:HParts K H xs ps) (hn:xs.length<2^50) (hb:(all++ps.flatten).length<2^50) :
  ∃ H' M,Zd T 180 [.pointer (some ⟨hid,0,none⟩),pv] H=some (.tuple #[],H',M)∧Hsh K H' hid (all++ps.flatten)∧(∀ i,K i→H'[i]?=H[i]?)∧H.length≤H'.length∧∀ i∈M,¬ K i:=by
 obtain ⟨st,hl,H',L',rfl,f1,f2,f3,f4⟩:=Zc (T:=T) (base:=H.length) (id:=0) (body:=HJ)
  (fun i st=>∃ H' L',st=wrI hid pv xs.length (i:Nat) H' L' []∧Hsh K H' hid (all++(ps.take i).flatten)∧(∀ i,K i→H'[i]?=H[i]?)∧H.length≤H'.length∧∀ i∈L',¬ K i)
  (Q:=fun st=>∃ H' L',st=wrI hid pv xs.length (xs.length:Nat) H' L' [(9,.bool false)]∧Hsh K H' hid (all++ps.flatten)∧(∀ i,K i→H'[i]?=H[i]?)∧H.length≤H'.length∧∀ i∈L',¬ K i)
  xs.length (s:=wrI hid pv xs.length 0 H [] []) ⟨H,[],rfl,by simpa using hh,fun _ _=>rfl,Qk _,by simp⟩
  (fun i st hi hs=>by
   obtain ⟨H1,L1,rfl,g1,g2,g3,g4⟩:=hs
   have hpl:=hP.len
   have hsp:ps.flatten=(ps.take i).flatten++((ps.getD i [])++(ps.drop (i+1)).flatten):=by
    obtain ⟨p,hpi⟩:∃ p,ps[i]?=some p:=⟨_,Qh (by omega)⟩
    have hgd:ps.getD i []=p:=by rw [Qx,hpi]; rfl
    rw [hgd,←QK,←Zr]
    congr 1
    have h1:=Qf.1 hpi
    conv=>lhs; rw [←ZV i ps,JN h1.1,h1.2]
   have htk:(ps.take (i+1)).flatten=(ps.take i).flatten++ps.getD i []:=by
    obtain ⟨p,hpi⟩:∃ p,ps[i]?=some p:=⟨_,Qh (by omega)⟩
    have hgd:ps.getD i []=p:=by rw [Qx,hpi]; rfl
    rw [hgd,ZG,hpi,Zr]; simp
   have hlt:=hP.lt
   obtain ⟨H2,L2,j1,j2,j3,j4,j5⟩:=eo (b0:=H.length) (fun j hj=>QJ (hK j hj) g3) hKh g1 (fun y hy=>by
    rcases QA.1 hy with h | h
    ·exact xa y h
    ·exact hlt y (by rw [hsp]; exact Vo _ h)) hp hP g2 g4 hi hn (by
     rw [hsp] at hb
     simp only [Qg] at hb ⊢
     omega)
   refine ⟨_,j1,H2,L2,rfl,by rw [htk,←Qv]; exact j2,fun j hj=>(j3 j hj).trans (g2 j hj),ZT g3 j4,j5⟩)
  (fun st hs=>by
   obtain ⟨H1,L1,rfl,g1,g2,g3,g4⟩:=hs
   rw [Qu (by rw [hP.len]; exact Qk _)] at g1
   refine ⟨_,?_,H1,L1,rfl,g1,g2,g3,g4⟩
   have e1:((xs.length:Int)<(xs.length:Int))=False:=eq_false (by omega)
   simp only [wrI,HJ,Q0,quiet,cK,↓pQ,reduceCtorEq,seval,-Qb,cL,cJ,e1])
 refine ⟨H',L',?_,f1,f2,f3,f4⟩
 simp only [wrI,Qw,Qr,Z1] at hl
 have hlen:vLen false pv=some (.int .i64 xs.length):=by
  rcases hp with ⟨rfl,h0⟩ | ⟨pid,off,cap,o,rfl,-⟩
  ·rw [h0]; rfl
  ·rfl
 rw [QE (fn:=pg) rfl]
 simp only [pg,Q0,quiet,cW,↓pW,reduceCtorEq,seval,-Qb,hlen,hl]
 rfl
theorem bF:fillL (Value.slice none 0 0::Qc 9 (.int .u64 0)) [(2,8,.agg (ns .u64 BH).toArray)]=some (hcl (.slice none 0 0) 0 BH):=rfl
theorem mV (H:List Ob):Zd T 179 [] H=some (.pointer (some ⟨H.length,0,none⟩),H++[hob (.slice none 0 0) 0 BH],[]):=by
 have hf:fillL (Qc 8 (Value.int .u64 0)) [(0,1,.int .u64 7640891576956012808),(1,1,.int .u64 13503953896175478587),(2,1,.int .u64 4354685564936845355),(3,1,.int .u64 11912009170470909681),(4,1,.int .u64 5840696475078001361),(5,1,.int .u64 11170449401992604703),(6,1,.int .u64 2270897969802886507),(7,1,.int .u64 6620516959819538809)]=some (ns .u64 BH):=rfl
 have hf2:∀ a,fillL [Value.slice none 0 0,.int .u64 0,.int .u64 0,.int .u64 0,.int .u64 0,.int .u64 0,.int .u64 0,.int .u64 0,.int .u64 0,.int .u64 0] [(2,8,.agg (ns .u64 a).toArray)]=fillL (Value.slice none 0 0::Qc 9 (.int .u64 0)) [(2,8,.agg (ns .u64 a).toArray)]:=fun _=>rfl
 have hf3:=bF
 simp only [hob]
 generalize BH=S at *
 generalize hcl (.slice none 0 0) 0 S=C at *
 rw [QE (fn:=ph) rfl]
 simp only [ph,Q0,quiet,cW,↓pW,reduceCtorEq,seval,-Qb,hf,hf2,hf3]
theorem gM (h:H[hid]?=some (hob (.slice none 0 0) 0 BH)):Hsh K H hid []:=⟨_,h,.nil⟩
def paI (hid:Nat) (s:Value) (Hc:List Ob) (ex:Env):St:=⟨[(0,.pointer (some ⟨hid,0,none⟩)),(1,.int .i64 128),(2,.int .i64 16),(7,s)]++ex,Hc,[]⟩
def pbI (hid:Nat) (s:Value) (i:Int) (Hc:List Ob) (ex:Env):St:=⟨[(0,.pointer (some ⟨hid,0,none⟩)),(7,s),(8,.int .i64 i)]++ex,Hc,[]⟩
theorem TU (n i:Nat):((n/256^(i+1)*8%256)|||(n/256^i%256/32))=8*n/256^(i+1)%256:=by
 have h1:n/256^(i+1)=n/256^i/256:=by rw [Z4,Jm]
 have h2:8*n/256^(i+1)=n/256^i/32:=by
  rw [Jm,Z4,show 256^i*256=8*(256^i*32) by omega,Nat.mul_div_mul_left _ _ (by decide)]
 rw [h1,h2]
 generalize n/256^i=m
 have h3:m/256*8%256=(m/256%32)*2^3:=by omega
 rw [h3,Vt (by omega)]
 omega
theorem aZ (n:Nat):(n+(1+Yn n)+16)%128=0:=by unfold Yn; omega
theorem E0 (n z:Nat) (h:z<Yn n):(n+(1+z)+16)%128≠0:=by unfold Yn at h; omega
theorem AS (n:Nat):Yn n<128:=by unfold Yn; omega
theorem fU (hh:H[hid]?=some (hob rv n st)) (hn:n<2^50) :
  ∃ s l,Q8 T H.length (.block 0 (.loop VV)) (paI hid (.slice (some ⟨H.length,0,none⟩) 1 1) (H++[⟨[.int .u8 128],true,true,true,1⟩]) [])=some (.normal,paI hid s (H++l) [(23,.bool false)])∧Grown .u8 H.length (H++l) s (128::Qc (Yn n) 0):=by
 have hlt:hid<H.length:=(Qf.1 hh).1
 have f0:fillL [Value.int .u8 0] [(0,1,.int .u8 0)]=some [.int .u8 0]:=rfl
 have c1:(hcl rv n st)[1]?=some (.int .u64 n):=rfl
 have hz:=AS n
 obtain ⟨x,hb,s,Hc,rfl,hg,hL,hF⟩:=Zc (T:=T) (base:=H.length) (id:=0) (body:=VV)
  (fun j x=>∃ s Hc,x=paI hid s Hc []∧Grown .u8 H.length Hc s (128::Qc j 0)∧H.length≤Hc.length∧∀ i,i<H.length→Hc[i]?=H[i]?)
  (Q:=fun x=>∃ s Hc,x=paI hid s Hc [(23,.bool false)]∧Grown .u8 H.length Hc s (128::Qc (Yn n) 0)∧H.length≤Hc.length∧∀ i,i<H.length→Hc[i]?=H[i]?)
  (Yn n) (s:=paI hid (.slice (some ⟨H.length,0,none⟩) 1 1) (H++[⟨[.int .u8 128],true,true,true,1⟩]) []) ⟨_,_,rfl,Grown.new (k := .u8) (id:=H.length) (bs:=[128]) (Qk _) (by decide) (by simp [Ob.fresh,ns]),by simp,fun i hi=>Qa hi⟩
  (fun j x hj hx=>by
   obtain ⟨s,Hc,rfl,hg,hL,hF⟩:=hx
   have hl:=hg.len
   have e1:(128::Qc j 0).length=1+j:=by simp; omega
   rw [e1] at hl
   obtain ⟨s',H',M,h1,h2,h3,h4,h5⟩:=GH (x:=0) (bytes:=1) hg hL (by rw [e1]; omega) (by decide)
   have hm:Qy H.length [] M=[]:=QD h3
   have hget:Hc[hid]?=some ⟨hcl rv n st,true,true,true,1⟩:=(hF hid hlt).trans hh
   have w1:IntKind.i64.wrap (n:Int)=(n:Int):=wn (by omega)
   have w2:IntKind.i64.wrap ((n:Int)+((1+j:Nat):Int))=((n+(1+j):Nat):Int):=Z0 (by omega)
   have w3:IntKind.i64.wrap (((n+(1+j):Nat):Int)+16)=((n+(1+j)+16:Nat):Int):=Z0 (b:=16) (by omega)
   have w4:((n+(1+j)+16:Nat):Int).tmod 128=(((n+(1+j)+16)%128:Nat):Int):=rfl
   have w5:((((n+(1+j)+16)%128:Nat):Int) != 0)=true:=bne_iff_ne.2 (by have:=E0 n j hj; omega)
   refine ⟨paI hid s' H' [],?_,s',H',rfl,by rw [List.replicate_succ',←Qw]; exact h2,h4,fun i hi=>by rw [h5 i hi,hF i hi]⟩
   simp only [Z1] at h1
   generalize (n+(1+j)+16)%128=r at *
   generalize n+(1+j)+16=r2 at *
   generalize n+(1+j)=r3 at *
   simp only [paI,VV,Q0,quiet,cW,↓pW,reduceCtorEq,seval,-Qb,hget,c1,hl,w1,w2,w3,w4,w5,f0,h1,hm])
  (fun x hx=>by
   obtain ⟨s,Hc,rfl,hg,hL,hF⟩:=hx
   have hl:=hg.len
   have e1:(128::Qc (Yn n) 0).length=1+Yn n:=by simp; omega
   rw [e1] at hl
   have hget:Hc[hid]?=some ⟨hcl rv n st,true,true,true,1⟩:=(hF hid hlt).trans hh
   have w1:IntKind.i64.wrap (n:Int)=(n:Int):=wn (by omega)
   have w2:IntKind.i64.wrap ((n:Int)+((1+Yn n:Nat):Int))=((n+(1+Yn n):Nat):Int):=Z0 (by omega)
   have w3:IntKind.i64.wrap (((n+(1+Yn n):Nat):Int)+16)=((n+(1+Yn n)+16:Nat):Int):=Z0 (b:=16) (by omega)
   have w4:((n+(1+Yn n)+16:Nat):Int).tmod 128=0:=by
    have:((n+(1+Yn n)+16:Nat):Int).tmod 128=(((n+(1+Yn n)+16)%128:Nat):Int):=rfl
    rw [this,aZ]; rfl
   refine ⟨_,?_,s,Hc,rfl,hg,hL,hF⟩
   generalize n+(1+Yn n)+16=r2 at *
   generalize n+(1+Yn n)=r3 at *
   simp only [paI,VV,Q0,quiet,cW,↓pW,reduceCtorEq,seval,-Qb,hget,c1,hl,w1,w2,w3,w4])
 obtain ⟨l,rfl⟩:=XG hL hF
 exact ⟨s,l,hb,hg⟩
def IF (n i:Nat):Nat:=8*n/256^(15-i)%256
theorem fT {l0:List Ob} {s0:Value} {bs:List Nat} (hh:H[hid]?=some (hob rv n st)) (hn:n<2^50) (hg0:Grown .u8 H.length (H++l0) s0 bs) (hbs:bs.length≤200) :
  ∃ s l,Q8 T H.length (.block 2 (.loop KP)) (pbI hid s0 15 (H++l0) [])=some (.normal,pbI hid s (-1) (H++l) [(30,.bool false)])∧Grown .u8 H.length (H++l) s (bs++(QX 16).map (IF n)):=by
 have hlt:hid<H.length:=(Qf.1 hh).1
 have c1:(hcl rv n st)[1]?=some (.int .u64 n):=rfl
 obtain ⟨x,hb,s,Hc,rfl,hg,hL,hF⟩:=Zc (T:=T) (base:=H.length) (id:=2) (body:=KP)
  (fun j x=>∃ s Hc,x=pbI hid s ((15:Int)-j) Hc []∧Grown .u8 H.length Hc s (bs++(QX j).map (IF n))∧H.length≤Hc.length∧∀ i,i<H.length→Hc[i]?=H[i]?)
  (Q:=fun x=>∃ s Hc,x=pbI hid s (-1) Hc [(30,.bool false)]∧Grown .u8 H.length Hc s (bs++(QX 16).map (IF n))∧H.length≤Hc.length∧∀ i,i<H.length→Hc[i]?=H[i]?)
  16 (s:=pbI hid s0 15 (H++l0) []) ⟨_,_,rfl,by simpa using hg0,by simp,fun i hi=>Qa hi⟩
  (fun j x hj hx=>by
   obtain ⟨s,Hc,rfl,hg,hL,hF⟩:=hx
   obtain ⟨i,hi⟩:∃ i,i=15-j:=⟨_,rfl⟩
   rw [show (15:Int)-j=(i:Int) by omega,show (15:Int)-((j+1:Nat):Int)=(i:Int)-1 by omega]
   have hl:=hg.len
   have hpd:IF n j=8*n/256^i%256:=by rw [hi]; rfl
   obtain ⟨s',H',M,h1,h2,h3,h4,h5⟩:=GH (x:=IF n j) (bytes:=1) hg hL (by rw [Qg,List.length_map,List.length_range]; omega) (by decide)
   have hm:Qy H.length [] M=[]:=QD h3
   have hget:Hc[hid]?=some ⟨hcl rv n st,true,true,true,1⟩:=(hF hid hlt).trans hh
   have fx:∀ a:Int,fillL [Value.int .u8 0] [(0,1,.int .u8 a)]=some [.int .u8 a]:=fun _=>rfl
   have w0:IntKind.i64.wrap ((i:Int)-1)=(i:Int)-1:=ZE (by omega) (by omega)
   have e0:((0:Int)≤(i:Int))=True:=eq_true (by omega)
   refine ⟨pbI hid s' ((i:Int)-1) H' [],?_,s',H',rfl,by rw [List.range_succ,JS,←Qv]; exact h2,h4,fun k hk=>by rw [h5 k hk,hF k hk]⟩
   rw [hpd] at h1
   by_cases h9:i<9
   ·have e9:((i:Int)<9)=True:=eq_true (by omega)
    have w1:IntKind.i64.wrap (8*(i:Int))=((8*i:Nat):Int):=VN (a:=8) (by omega)
    have w2:(((8*i:Nat):Int)<0)=False:=eq_false (by omega)
    have w3:(n:Int).fdiv (2^min (8*i) IntKind.u64.bits)=((n/256^i:Nat):Int):=by
     rw [WZ (by omega),show (256:Nat)=2^8 from rfl,←Jj]
    have hle:n/256^i≤n:=JQ _ _
    have w4:IntKind.u64.wrap (((n/256^i:Nat):Int)*2^min 3 IntKind.u64.bits)=((n/256^i*8:Nat):Int):=Az (b:=8) (by omega)
    have w5:IntKind.u8.wrap ((n/256^i*8:Nat):Int)=((n/256^i*8%256:Nat):Int):=B5 _
    by_cases hz:i=0
    ·subst hz
     have e8:n/256^0*8%256=8*n/256^0%256:=by rw [Xh,XL,XL]; omega
     rw [e8] at w5
     have ew:(8*0:Nat)=0:=rfl
     simp only [ew,Z1] at w1 w2 w3
     generalize 8*n/256^0%256=d at *
     generalize n/256^0*8=v1 at *
     generalize n/256^0=v2 at *
     simp only [pbI,KP,Q0,quiet,cW,↓pW,reduceCtorEq,seval,-Qb,hget,c1,w0,e0,e9,w1,w2,w3,w4,w5,fx,h1,hm]
    ·obtain ⟨k,rfl⟩:∃ k,i=k+1:=⟨i-1,by omega⟩
     have hd:=TU n k
     have ep:((0:Int)<((k+1:Nat):Int))=True:=eq_true (by omega)
     have v1:IntKind.i64.wrap (((8*(k+1):Nat):Int)-8)=((8*k:Nat):Int):=by rw [ZE (by omega) (by omega)]; omega
     have v2:(((8*k:Nat):Int)<0)=False:=eq_false (by omega)
     have v3:(n:Int).fdiv (2^min (8*k) IntKind.u64.bits)=((n/256^k:Nat):Int):=by
      rw [WZ (by omega),show (256:Nat)=2^8 from rfl,←Jj]
     have v4:Zs .and .u64 ((n/256^k:Nat):Int) 255=((n/256^k%256:Nat):Int):=WH .u64 rfl 8 _ (by decide)
     have v5:((n/256^k%256:Nat):Int).fdiv (2^min 5 IntKind.u64.bits)=((n/256^k%256/32:Nat):Int):=WZ (r:=5) (by decide)
     have v6:IntKind.u8.wrap ((n/256^k%256/32:Nat):Int)=((n/256^k%256/32:Nat):Int):=by rw [B5,QF (by omega)]
     have v7:Zs .or .u8 ((n/256^(k+1)*8%256:Nat):Int) ((n/256^k%256/32:Nat):Int)=((8*n/256^(k+1)%256:Nat):Int):=by
      rw [KA rfl (show _<2^8 from Q4 _ (by decide)) (show n/256^k%256/32<2^8 by omega),hd]
     generalize 8*n/256^(k+1)%256=d at *
     generalize n/256^(k+1)*8%256=u1 at *
     generalize n/256^(k+1)*8=u2 at *
     generalize n/256^(k+1)=u3 at *
     generalize n/256^k%256/32=u4 at *
     generalize n/256^k%256=u5 at *
     generalize n/256^k=u6 at *
     generalize 8*(k+1)=u7 at *
     generalize 8*k=u8' at *
     generalize k+1=k1 at *
     simp only [pbI,KP,Q0,quiet,cW,↓pW,reduceCtorEq,seval,-Qb,hget,c1,w0,e0,e9,ep,w1,w2,w3,w4,w5,v1,v2,v3,v4,v5,v6,v7,fx,h1,hm]
   ·have e9:((i:Int)<9)=False:=eq_false (by omega)
    have ep:((0:Int)<(i:Int))=True:=eq_true (by omega)
    have hz:8*n/256^i%256=0:=by
     have:(256:Nat)^9≤256^i:=Zp (by decide) (by omega)
     rw [Xw (QJ (by omega) this)]
    rw [hz] at h1
    simp only [Z1] at h1
    simp only [pbI,KP,Q0,quiet,cW,↓pW,reduceCtorEq,seval,-Qb,hget,c1,w0,e0,e9,ep,fx,h1,hm])
  (fun x hx=>by
   obtain ⟨s,Hc,rfl,hg,hL,hF⟩:=hx
   have e:((0:Int) ≤ -1)=False:=by decide
   refine ⟨_,?_,s,Hc,rfl,hg,hL,hF⟩
   rw [show (15:Int)-((16:Nat):Int) = -1 by omega]
   simp only [pbI,KP,Q0,quiet,cK,↓pQ,reduceCtorEq,seval,-Qb,cL,e])
 obtain ⟨l,rfl⟩:=XG hL hF
 exact ⟨s,l,hb,hg⟩
theorem fW (n:Nat):Dg n=(128::Qc (Yn n) 0)++(QX 16).map (IF n):=by unfold Dg IF; rw [Qw]
theorem IC (hh:H[hid]?=some (hob rv n st)) (hn:n<2^50) :
  ∃ s l,Zd T 185 [.pointer (some ⟨hid,0,none⟩),.int .i64 128,.int .i64 16] H=some (s,H++l,[])∧Grown .u8 H.length (H++l) s (Dg n):=by
 obtain ⟨s1,l1,h1,g1⟩:=fU hh hn
 have hz:=AS n
 obtain ⟨s2,l2,h2,g2⟩:=fT hh hn g1 (by simp; omega)
 rw [←fW] at g2
 refine ⟨s2,l2,?_,g2⟩
 have f128:fillL [Value.int .u8 0] [(0,1,.int .u8 128)]=some [.int .u8 128]:=rfl
 have w1:IntKind.i64.wrap 15=15:=by decide
 simp only [paI,Qw,Qr] at h1
 simp only [pbI,Qw,Qr] at h2
 rw [QE (fn:=dX) rfl]
 simp only [dX,Q0,quiet,cW,↓pW,reduceCtorEq,seval,-Qb,f128,h1,w1,h2]
theorem Rst.elems {K:Nat→Prop} {H:List Ob} {v:Value} {l:List Nat} (h:Rst K H v l):elemsOf H 1 l.length v=some (u8s l):=by
 cases h with
 | nil=>rfl
 | empty _ h2=>simp [elemsOf,QW h2 rfl,u8s]
 | own h1 h2 h4 h3=>simp [elemsOf,QW h2 rfl,Qp,h4,MM h3]
theorem Aw {e:Nat} {x:Value} {p:List Nat} (he:G[e]?=some ⟨[],true,true,true,1⟩) (hKe:¬ K e) (hKg:¬ K G.length) (hl:Go.Ev.lenV x=some p.length) (hel:elemsOf G 1 p.length x=some (u8s p)) (hb:p.length≤2^47) :
  ∃ v' l,Zu 1 1 G (.slice (some ⟨e,0,none⟩) 0 0) x=some (v',G++l,none,[])∧Rst K (G++l) v' p∧okVar v'=true∧v'.cells.toList=[v']∧v'.cells.size=1:=by
 have h4:liveAt G e=some ⟨[],true,true,true,1⟩:=QW he rfl
 rcases Zv p.length with hn | hn
 ·have:p=[]:=Za hn
  subst this
  refine ⟨.slice (some ⟨e,0,none⟩) 0 0,[],?_,by rw [Q9]; exact .empty hKe he,rfl,rfl,rfl⟩
  rw [Z3] at hl hel
  simp only [Zu,hl,hel,Qj,if_true,Q9]
 ·have h1:¬ p.length=0:=by omega
  have h2:p.length*1≤2^47:=by omega
  have h7:¬ (p.length≤0):=by omega
  have h8:elemsOf G 1 0 (.slice (some ⟨e,0,none⟩) 0 0)=some []:=by simp [elemsOf,h4]
  refine ⟨.slice (some ⟨G.length,0,none⟩) p.length p.length,[Ob.grown 1 (u8s p)],?_,.own (all:=p) hKg (by simp [Ob.grown]) (by omega) (fun i _=>by rw [QB]),rfl,rfl,rfl⟩
  simp only [Zu,hl,hel,Qj,if_neg h1,QB,h2,Nat.lt_add_one,Nat.zero_lt_one,and_self,not_true_eq_false,if_false,if_true,h4,h8,if_neg h7,Qr]
theorem Rst.len {K:Nat→Prop} {H:List Ob} {v:Value} {l:List Nat} (h:Rst K H v l):Go.Ev.lenV v=some l.length:=by
 obtain ⟨a,c,rfl⟩:=h.shape; rfl
theorem VR (b:List Nat):(sha b).length=64:=by simp [sha]
theorem MU (b:List Nat):∀ x∈sha b,x<256:=by
 intro x hx
 simp only [sha,Jc] at hx
 obtain ⟨i,-,rfl⟩:=hx
 exact Q4 _ (by decide)
def suI (r x o:Nat) (G:List Ob) (b:List Nat) (i:Int) (ex:Env):St:=⟨[(2,.pointer (some ⟨r,0,none⟩)),(3,.pointer (some ⟨x,0,none⟩)),(4,.pointer (some ⟨G.length,0,none⟩)),(32,.int .i64 i)]++ex,G++[⟨u8s b,true,true,true,1⟩],[]⟩
theorem SA {r base:Nat} {R:List Nat} (hx:G[x]?=some (hob rv n st)) (hs:st.length=8) (hR:R.length=64) (hRi:∀ i,i<64→R[i]?=some (st.getD (i/8) 0/256^(7-i%8)%256)) (hxs:∀ y∈st,y<18446744073709551616) (hb:base≤G.length) :
  Q8 T base (.block 0 (.loop HI)) (suI r x 0 G (Qc 64 0) 0 [])=some (.normal,suI r x 0 G R 64 [(33,.bool false)]):=by
 have h:=Xp (T:=T) (base:=base) (id:=0) (body:=HI) (fun i=>suI r x 0 G (pf 64 R i) i []) (s':=suI r x 0 G R 64 [(33,.bool false)]) 64
  (fun i hi=>by
   obtain ⟨w,hw⟩:∃ w,st[i/8]?=some w:=⟨_,Qh (by omega)⟩
   have hw':=hxs w (Qz hw)
   have hv:=hRi i hi
   rw [XW hw] at hv
   have hstep:=WD hR hi hv
   have hlen:=Gc hR (Xi hi)
   have hset:=XE (pf 64 R i) i (w/256^(7-i%8)%256)
   rw [hstep] at hset
   have gc:=N9 (rv:=rv) (n:=n) hw
   have hget:∀ l:List Ob,(G++l)[x]?=some ⟨hcl rv n st,true,true,true,1⟩:=fun l=>by rw [Qa (Qf.1 hx).1]; exact hx
   have e1:((i:Int)<64)=True:=eq_true (by omega)
   have w3:IntKind.i64.wrap ((i:Int)+1)=((i+1:Nat):Int):=Z0 (b:=1) (by omega)
   have w4:IntKind.i64.wrap ((i:Int).tdiv 8)=((i/8:Nat):Int):=wn (n:=i/8) (by omega)
   have e2:(((i/8:Nat):Int)<8)=True:=eq_true (by omega)
   have w5:(i:Int).tmod 8=((i%8:Nat):Int):=rfl
   have w6:IntKind.i64.wrap (8*((i%8:Nat):Int))=((8*(i%8):Nat):Int):=VN (a:=8) (by omega)
   have w7:IntKind.i64.wrap (56-((8*(i%8):Nat):Int))=((8*(7-i%8):Nat):Int):=by rw [ZE (by omega) (by omega)]; omega
   have e3:(((8*(7-i%8):Nat):Int)<0)=False:=eq_false (by omega)
   have w8:(w:Int).fdiv (2^min (8*(7-i%8)) IntKind.u64.bits)=((w/256^(7-i%8):Nat):Int):=by
    rw [WZ (by omega),show (256:Nat)=2^8 from rfl,←Jj]
   have w9:IntKind.u8.wrap ((w/256^(7-i%8):Nat):Int)=((w/256^(7-i%8)%256:Nat):Int):=B5 _
   have e4:(i≤63)=True:=eq_true (by omega)
   have m1:Qy base [] [G.length]=[]:=QD (by simpa using hb)
   clear hstep hv hw
   generalize pf 64 R i=o1,pf 64 R (i+1)=o2 at *
   generalize w/256^(7-i%8)%256=d at *
   generalize w/256^(7-i%8)=d2 at *
   generalize 8*(7-i%8)=d3 at *
   generalize 8*(i%8)=d4 at *
   generalize i%8=d5 at *
   generalize i/8=d6 at *
   generalize i+1=i1 at *
   simp only [suI,HI,Q0,quiet,cW,↓pW,reduceCtorEq,seval,-Qb,e1,e2,e3,e4,w3,w4,w5,w6,w7,w8,w9,hget,gc,hset,Qp,hlen,m1])
  (by
   rw [Gx hR]
   simp only [suI,HI,Q0,quiet,cW,↓pW,reduceCtorEq,seval,-Qb])
 rw [Gw] at h
 exact h
theorem Grown.part {K:Nat→Prop} {B:Nat} {H:List Ob} {s:Value} {p:List Nat} (h:Grown .u8 B H s p) (hK:∀ i,B≤i→i<H.length→K i) (xp:∀ y∈p,y<256) (hl:p.length≤2^47-128) (h0:0<p.length):HPart K H s p:=by
 refine ⟨?_,fun G hG => ?_,xp,hl⟩
 ·cases h with
  | nil=>exact absurd h0 (by decide)
  | own _ _ _=>exact ⟨_,_,rfl⟩
  | new _ _ _=>exact ⟨_,_,rfl⟩
 ·cases h with
  | nil=>exact absurd h0 (by decide)
  | @own id _ h1 h2 h3 =>
   have:=hG id (hK id h1 (Qf.1 h3).1)
   rw [h3] at this
   simp [elemsOf,QW this rfl,Ob.grown,QQ]
   exact Qu (by rw [QQ]; exact Qk _)
  | @new id _ h1 h2 h3 =>
   have:=hG id (hK id h1 (Qf.1 h3).1)
   rw [h3] at this
   simp [elemsOf,QW this rfl,Ob.fresh,QQ]
   exact Qu (by rw [QQ]; exact Qk _)
theorem fV (n:Nat):∀ y∈Dg n,y<256:=by
 intro y hy
 simp only [Dg,J6,QA,List.mem_replicate,Jc] at hy
 rcases hy with rfl | ⟨-,rfl⟩ | ⟨i,-,rfl⟩
 ·decide
 ·decide
 ·exact Q4 _ (by decide)
theorem Rq (n:Nat):(Dg n).length=17+Yn n:=by simp [Dg]; omega
theorem Rst.toK {K K':Nat→Prop} {H:List Ob} {v:Value} {l:List Nat} (h:Rst K H v l) (hk:∀ i,¬ K i→¬ K' i):Rst K' H v l:=by
 cases h with
 | nil=>exact .nil
 | empty h1 h2=>exact .empty (hk _ h1) h2
 | own h1 h2 h4 h3=>exact .own (hk _ h1) h2 h4 h3
theorem YQ:Qc 64 (Value.int .u8 0)=u8s (Qc 64 0):=rfl
theorem PG (va:Option Addr) (rl vc m:Nat) (h:st.length=8):fillL [Value.slice none 0 0,.int .u64 0,.int .u64 0,.int .u64 0,.int .u64 0,.int .u64 0,.int .u64 0,.int .u64 0,.int .u64 0,.int .u64 0] [(0,2,.agg [.slice va rl vc,.int .u64 m].toArray),(2,8,eV st)]=some (hcl (.slice va rl vc) m st):=by
 obtain ⟨a,b,c,d,e,f,g,i,rfl⟩:=eight h
 rfl
theorem mu {H:List Ob} {all:List Nat} (hh:Hsh K H hid all) (xa:∀ y∈all,y<256) (hn:all.length<2^49) :
  ∃ H',Zd T 181 [.pointer (some ⟨hid,0,none⟩)] H=some (.agg (u8s (sha all)).toArray,H',[])∧(∀ i,i<H.length→H'[i]?=H[i]?)∧H.length≤H'.length:=by
 obtain ⟨rv,h1,h2⟩:=hh
 have hlt:hid<H.length:=(Qf.1 h1).1
 obtain ⟨st,hst⟩:∃ s,s=stK (all.length/128) all:=⟨_,rfl⟩
 have ls:st.length=8:=by rw [hst]; exact Mi _ _
 rw [←hst] at h1
 obtain ⟨G,hG⟩:∃ G,G=H++[⟨u8s (Qc 64 0),true,true,true,1⟩,⟨[],true,true,true,1⟩]:=⟨_,rfl⟩
 have hGl:G.length=H.length+2:=by rw [hG]; simp
 have hrG:Rst K G rv (all.drop (128*(all.length/128))):=by rw [hG]; exact h2.app
 have heG:G[H.length+1]?=some ⟨[],true,true,true,1⟩:=by rw [hG,Qd (by omega),Qs]; rfl
 have hzG:G[H.length]?=some ⟨u8s (Qc 64 0),true,true,true,1⟩:=by rw [hG,Qd (by omega),Qq]; rfl
 have hhG:G[hid]?=some (hob rv all.length st):=by rw [hG,Qa hlt]; exact h1
 obtain ⟨v',l,ha,hr',hok,hc1,hc2⟩:=Aw (K:=fun i=>i≠H.length+1∧i≠G.length) heG (by simp) (by simp) hrG.len hrG.elems (by rw [QC]; omega)
 obtain ⟨G2,hG2⟩:∃ X,X=G++l++[hob v' all.length st]:=⟨_,rfl⟩
 have hG2l:G2.length=G.length+l.length+1:=by rw [hG2]; simp; omega
 obtain ⟨xid,hxid⟩:∃ x,x=(G++l).length:=⟨_,rfl⟩
 have hxl:xid=G.length+l.length:=by rw [hxid]; simp
 have hx2:G2[xid]?=some (hob v' all.length st):=by rw [hG2,hxid,Qd (Qk _),Qq]; rfl
 have hh2:G2[hid]?=some (hob rv all.length st):=by
  have:hid<G.length:=by omega
  rw [hG2,Qv,Qa this]; exact hhG
 obtain ⟨s,l3,hp,hgr⟩:=IC hh2 (by omega)
 obtain ⟨G4,hG4⟩:∃ X,X=G2++l3++[⟨[s],true,true,true,1⟩]:=⟨_,rfl⟩
 have hG4l:G4.length=G2.length+l3.length+1:=by rw [hG4]; simp; omega
 have hgr4:Grown .u8 G2.length G4 s (Dg all.length):=by rw [hG4]; exact hgr.app
 obtain ⟨K2,hK2⟩:∃ K2:Nat→Prop,K2=fun i=>i<G4.length∧i≠xid∧i≠H.length+1∧i≠G.length:=⟨_,rfl⟩
 have hx4:G4[xid]?=some (hob v' all.length st):=by rw [hG4,Qv,Qa (by omega)]; exact hx2
 have hsh4:Hsh K2 G4 xid all:=by
  refine ⟨v',by rw [←hst]; exact hx4,?_⟩
  have:=(hr'.app (m:=[hob v' all.length st])).app (m:=l3++[⟨[s],true,true,true,1⟩])
  rw [←hG2,←Qv,←hG4] at this
  exact this.toK fun i hi hk=>by
   rw [hK2] at hk
   exact hi ⟨hk.2.2.1,hk.2.2.2⟩
 have hpz:=AS all.length
 have hpart:HPart K2 G4 s (Dg all.length):=Grown.part hgr4 (fun i h1 h2=>by rw [hK2]; exact ⟨h2,by omega,by omega,by omega⟩) (fV _) (by rw [Rq]; omega) (by rw [Rq]; omega)
 have harr:(G2++l3).length<G4.length:=by rw [hG4]; simp
 have hpv:PV K2 G4 (.slice (some ⟨(G2++l3).length,0,none⟩) 1 1) [s] := .inr ⟨_,0,1,_,rfl,by rw [hK2]; exact ⟨harr,by simp; omega,by simp; omega,by simp; omega⟩,by rw [hG4,Qd (Qk _),Qq]; rfl,rfl,fun i _=>by rw [QB]⟩
 have hKx:¬ K2 xid:=by rw [hK2]; intro h; exact h.2.1 rfl
 obtain ⟨G5,M5,hw,hsh5,hf5,hl5,hM5⟩:=C8 (fun i hi=>by rw [hK2] at hi; exact hi.1) hKx hsh4 xa hpv (.cons hpart .nil) (by show 1<2^50; decide) (by simp [Rq]; omega)
 rw [QK,List.flatten_nil,Q9] at hsh5
 obtain ⟨rv5,hx5,-⟩:=hsh5
 obtain ⟨st5,hst5⟩:∃ s,s=stK ((all++Dg all.length).length/128) (all++Dg all.length):=⟨_,rfl⟩
 rw [←hst5] at hx5
 have ls5:st5.length=8:=by rw [hst5]; exact Mi _ _
 have xs5:∀ y∈st5,y<18446744073709551616:=by rw [hst5]; exact SC _ _
 have hb5:H.length≤G5.length:=by omega
 have hsu:=SA (r:=H.length) (base:=H.length) hx5 ls5 (VR all) (fun i hi=>by simp [sha,hi,hst5]) xs5 hb5
 have hz5:G5[H.length]?=some ⟨u8s (Qc 64 0),true,true,true,1⟩:=by
  rw [hf5 _ (by rw [hK2]; exact ⟨by omega,by omega,by omega,by omega⟩),hG4,Qv,Qa (by omega),hG2,Qv,Qa (by omega)]
  exact hzG
 have hfr:∀ i,i<H.length→G5[i]?=H[i]? := fun i hi=>by
  rw [hf5 _ (by rw [hK2]; exact ⟨by omega,by omega,by omega,by omega⟩),hG4,Qv,Qa (by omega),hG2,Qv,Qa (by omega),hG,Qa hi]
 have hm5:Qy H.length [] M5=[]:=QD fun i hi=>by
  have:=hM5 i hi
  rw [hK2] at this
  rcases Zm i H.length with h | h
  ·exact absurd (show i<G4.length∧i≠xid∧i≠H.length+1∧i≠G.length from ⟨by omega,by omega,by omega,by omega⟩) this
  ·exact h
 refine ⟨(G5++[(⟨u8s (sha all),true,true,true,1⟩:Ob)]).set H.length (⟨u8s (sha all),true,true,true,1⟩:Ob),?_,fun i hi=>by rw [Qm (by omega),Qa (by omega)]; exact hfr i hi,by rw [Qo,Qg]; omega⟩
 have hz:=YQ
 have lz:(Qc 64 0).length=64:=Qn
 have lsh:=VR all
 have cst:=Ah (rv:=rv) (n:=all.length) ls
 have c0:(hcl rv all.length st)[0]?=some rv:=rfl
 have c1:(hcl rv all.length st)[1]?=some (.int .u64 all.length):=rfl
 have hcl8:2+8≤(hcl rv all.length st).length:=by rw [Ba]; omega
 obtain ⟨va,vc,rfl⟩:=hr'.shape
 generalize (all.drop (128*(all.length/128))).length=rl at *
 have fl1:fillL [Value.slice none 0 0,.int .u64 0] [(0,1,.slice va rl vc),(1,1,.int .u64 all.length)]=some [.slice va rl vc,.int .u64 all.length]:=rfl
 have fl2:=PG va rl vc all.length ls
 have fls:fillL [Value.slice none 0 0] [(0,1,s)]=some [s]:=by
  obtain ⟨sa,sc,hsh⟩:=hpart.shape
  rw [hsh]; rfl
 have f0:fillL [] []=some []:=rfl
 have F1:H++[⟨u8s (Qc 64 0),true,true,true,1⟩,⟨[],true,true,true,1⟩]=G:=hG.symm
 have Fx:G.length+l.length=xid:=hxl.symm
 have F2:G++(l++[⟨hcl (.slice va rl vc) all.length st,true,true,true,1⟩])=G2:=by rw [hG2,Qv]; rfl
 have F4:G2++(l3++[⟨[s],true,true,true,1⟩])=G4:=by rw [hG4,Qv]
 have g1:G[hid]?=some ⟨hcl rv all.length st,true,true,true,1⟩:=hhG
 have g2:(G++l)[hid]?=some ⟨hcl rv all.length st,true,true,true,1⟩:=by rw [Qa (by omega)]; exact hhG
 have g5:∀ o:Ob,(G5++[o])[H.length]?=some ⟨u8s (Qc 64 0),true,true,true,1⟩:=fun o=>by rw [Qa (by omega)]; exact hz5
 have g6:∀ o o':Ob,((G5++[o]).set H.length o')[H.length]?=some o':=fun o o'=>Qt (by rw [Qg]; omega)
 have okcl:(hcl (.slice va rl vc) all.length st).all okVar=true:=by
  show (okVar (.slice va rl vc)&&(okVar (.int .u64 all.length)&&(ns .u64 st).all okVar))=true
  have:(ns .u64 st).all okVar=true:=by
   rw [List.all_eq_true]; intro y hy
   simp only [ns,Jc] at hy
   obtain ⟨m,-,rfl⟩:=hy; rfl
  rw [this]; rfl
 rw [Qg] at hw
 simp only [suI,Qw,Qr,Z1] at hsu
 have hge:H.length≤H.length+1:=by omega
 generalize hcl rv all.length st=C1,hcl (.slice va rl vc) all.length st=C2,sha all=R,Qc 64 0=Z64 at *
 rw [QE (fn:=pd) rfl]
 simp only [pd,Q0,quiet,cW,↓pW,reduceCtorEq,seval,-Qb,hz,f0,F1,g1,g2,c0,c1,ha,fl1,cst,hcl8,QY,Zf,ZY,Zg,fl2,Fx,F2,hp,fls,F4,hw,hm5,hsu,g5,g6,Qp,lz,lsh,Q6,Qn]
theorem Og (hp:PV (fun i=>i<H.length) H pv xs) (hP:HParts (fun i=>i<H.length) H xs ps) (hn:xs.length<2^50) (hb:ps.flatten.length<2^49) :
  ∃ l,Zd T 122 [pv] H=some (.agg (u8s (sha ps.flatten)).toArray,H++l,[]):=by
 obtain ⟨H1,hH1⟩:∃ X,X=H++[⟨u8s (Qc 64 0),true,true,true,1⟩,hob (.slice none 0 0) 0 BH]:=⟨_,rfl⟩
 have hl1:H1.length=H.length+2:=by rw [hH1]; simp
 have hg1:H1[H.length+1]?=some (hob (.slice none 0 0) 0 BH):=by rw [hH1,Qd (by omega),Qs]; rfl
 have hz1:H1[H.length]?=some ⟨u8s (Qc 64 0),true,true,true,1⟩:=by rw [hH1,Qd (by omega),Qq]; rfl
 have hf1:∀ i,i<H.length→H1[i]?=H[i]? := fun i hi=>by rw [hH1,Qa hi]
 have hp1:PV (fun i=>i<H.length+1) H1 pv xs:=by
  rcases hp with h | ⟨pid,off,cap,o,h1,h2,h3,h4,h5⟩
  ·exact .inl h
  ·exact .inr ⟨pid,off,cap,o,h1,Vf h2,(hf1 _ h2).trans h3,h4,h5⟩
 have hP1:HParts (fun i=>i<H.length+1) H1 xs ps:=by
  clear hn hb hp hp1
  induction hP with
  | nil=>exact .nil
  | cons a _ ih=>exact .cons ⟨a.shape,fun G hG=>a.reads G fun i hi=>(hG i (Vf hi)).trans (hf1 i hi),a.lt,a.le⟩ ih
 obtain ⟨H2,M2,hw,s2,f2,l2,m2⟩:=C8 (K:=fun i=>i<H.length+1) (hid:=H.length+1) (fun i hi=>by have:i<H.length+1:=hi; omega) (YP _) (gM hg1) (by simp) hp1 hP1 hn (by rw [Qr]; omega)
 rw [Qr] at s2
 obtain ⟨H3,hs3,f3,l3⟩:=mu s2 hP.lt hb
 have hm2:Qy H.length [] M2=[]:=QD fun i hi=>by
  have:¬ i<H.length+1:=m2 i hi
  omega
 have g3:H3[H.length]?=some ⟨u8s (Qc 64 0),true,true,true,1⟩:=by
  rw [f3 _ (by omega),f2 _ (Nat.lt_succ_self _)]; exact hz1
 have hfr:∀ i,i<H.length→(H3.set H.length (⟨u8s (sha ps.flatten),true,true,true,1⟩:Ob))[i]?=H[i]? := fun i hi=>by
  rw [Qm (by omega),f3 _ (by omega),f2 _ (Vf hi)]; exact hf1 i hi
 have hle:H.length≤(H3.set H.length (⟨u8s (sha ps.flatten),true,true,true,1⟩:Ob)).length:=by rw [Qo]; omega
 obtain ⟨l,hl⟩:=XG hle hfr
 refine ⟨l,?_⟩
 rw [←hl]
 have hz:=YQ
 have lz:(Qc 64 0).length=64:=Qn
 have lsh:=VR ps.flatten
 have hnew:=mV (H++[⟨u8s (Qc 64 0),true,true,true,1⟩])
 have e1:(H++[(⟨u8s (Qc 64 0),true,true,true,1⟩:Ob)]).length=H.length+1:=by simp
 rw [e1,Qv,Qw,Qr,←hH1] at hnew
 have g4:∀ o:Ob,(H3.set H.length o)[H.length]?=some o:=fun o=>Qt (by omega)
 generalize sha ps.flatten=R,Qc 64 0=Z64 at *
 rw [QE (fn:=po) rfl]
 simp only [po,Q0,quiet,cW,↓pW,reduceCtorEq,seval,-Qb,hz,hnew,hw,hm2,hs3,g3,g4,QY,Zf,ZY,Zg,Qp,lz,lsh,Q6,Qn]
end Go.Ev.YtomfgcgnepfmjaaGreat

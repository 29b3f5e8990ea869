/- What the law leans on, part 3. -/
import Derived.Test.YtpgphpkjlpkcbaaGreatAa2
set_option linter.unusedSimpArgs false
set_option linter.unusedVariables false
set_option linter.defProp false
open And renaming intro → Qi
open Bool renaming and_eq_true → ZR, false_eq_true → ZE
open Exists renaming intro → Jm
open Int renaming cast_ofNat_Int → Xk, natCast_add → Jl, natCast_mul → JT, natCast_one → Yf, natCast_pow → Ye, natCast_zero → QB, toNat_natCast → Vd
open List renaming all_cons → Kx, append_assoc → Qt, append_nil → QF, cons_append → Qn, drop → Jr, drop_append_of_le_length → Jb, drop_eq_getElem_cons → JR, drop_of_length_le → ZA, eq_nil_of_length_eq_zero → J3, ext_getElem? → Ju, flatten_append → ZY, flatten_cons → QO, foldl_cons → Xu, foldl_nil → Vu, getD_eq_getElem?_getD → QA, getElem?_append_left → Qc, getElem?_append_right → Qh, getElem?_drop → Zm, getElem?_eq_getElem → Qf, getElem?_eq_some_iff → Qg, getElem?_replicate → Vt, getElem?_set → Kl, getElem?_set_ne → Qu, getElem?_set_self → Qx, getElem?_take → QX, getElem?_zipWith → KE, length_append → Qk, length_cons → Z0, length_drop → QP, length_nil → ZW, length_replicate → Qe, length_set → Q3, length_take → Q6, length_zipWith → Vp, map_append → KU, map_cons → J7, map_nil → Xq, mem_append → QE, mem_append_left → T4, mem_cons → J0, mem_cons_of_mem → Y5, mem_of_getElem? → Qp, mem_of_mem_drop → ZD, mem_of_mem_take → QU, mem_range'_1 → Le, mem_singleton → Xi, nil_append → Ql, not_mem_nil → JG, range → Z9, range' → VJ, reduceReplicate → Qb, replicate → Qa, replicate_succ → Kq, set_append_left → Vb, set_append_right → ZP, set_cons_zero → Wn, set_set → VU, take → Zh, take_add_one → Zw, take_append_drop → Z3, take_append_of_le_length → ZJ, take_of_length_le → Qm, take_zero → Xa, zipWith → JL
open Nat renaming Coprime → wU, add_assoc → Zu, add_comm → Xp, add_mul → Zl, add_mul_div_right → Uq, add_mul_mod_self_right → Y4, add_zero → Jj, and_lt_two_pow → XV, and_two_pow_sub_one_eq_mod → Vs, div_add_mod → Zz, div_div_eq_div_mul → QT, div_eq_of_lt → JF, div_le_self → Jq, div_lt_of_lt_mul → Va, div_one → Jt, dvd_mul_left → OQ, dvd_of_mod_eq_zero → WE, dvd_trans → nX, eq_zero_or_pos → Jw, gcd → TP, le_of_dvd → Vi, le_of_lt → Js, le_refl → Qr, le_trans → Xh, lt_of_le_of_lt → ZX, lt_of_lt_of_le → QM, lt_or_ge → ZG, lt_trans → JK, min_eq_left → Zy, mod_eq_of_lt → Qv, mod_eq_zero_of_dvd → MY, mod_lt → Q5, mod_mod → Y3, mod_mod_of_dvd → Wm, mod_mul_mod → B6, mod_one → OS, mul_assoc → ZC, mul_comm → Zj, mul_le_mul → JU, mul_le_mul_right → Ji, mul_left_comm → JH, mul_mod → UU, mul_mod_mul_right → Yl, mul_one → KZ, one_mul → Xf, pow_add → JD, pow_le_pow_right → Zk, pow_mod → wS, pow_mul → Ja, pow_pos → JM, pow_succ → Ze, pow_zero → ZF, sub_mod_eq_zero_of_mod_eq → UT, sub_self → Q4, sub_zero → Kw, zero_add → QL, zero_mul → VS
open Option renaming bind_some → Qo
open Option.some renaming inj → XA, injEq → Qj
namespace Go.Ev
variable {f b:Nat} {args:List Value} {v:Value}
theorem n_add (a b:Nat):(a:Int)+(b:Int)=((a+b:Nat):Int):=(Jl a b).symm
theorem n_mul (a b:Nat):(a:Int)*(b:Int)=((a*b:Nat):Int):=(JT a b).symm
theorem uG (n a:Nat):(no_index (@OfNat.ofNat Int n instOfNat))+(a:Int)=((n+a:Nat):Int):=(Jl n a).symm
theorem uH (n a:Nat):(a:Int)+(no_index (@OfNat.ofNat Int n instOfNat))=((a+n:Nat):Int):=(Jl a n).symm
theorem uF (n a:Nat):(no_index (@OfNat.ofNat Int n instOfNat))*(a:Int)=((n*a:Nat):Int):=(JT n a).symm
theorem uE (n a:Nat):(a:Int)*(no_index (@OfNat.ofNat Int n instOfNat))=((a*n:Nat):Int):=(JT a n).symm
theorem R5 (a b:Nat):Int.fdiv (a:Int) (b:Int)=((a/b:Nat):Int):=by
 rw [Int.fdiv_eq_ediv_of_nonneg _ (Int.natCast_nonneg _)]; rfl
theorem qn (a n:Nat):Int.fdiv (a:Int) (no_index (@OfNat.ofNat Int n instOfNat))=((a/n:Nat):Int):=R5 a n
theorem uD (a n:Nat):Int.tdiv (a:Int) (no_index (@OfNat.ofNat Int n instOfNat))=((a/n:Nat):Int):=rfl
theorem uC (a n:Nat):Int.tmod (a:Int) (no_index (@OfNat.ofNat Int n instOfNat))=((a%n:Nat):Int):=rfl
theorem U0 (a:Nat):IntKind.u64.wrap (a:Int)=((a%18446744073709551616:Nat):Int):=by rw [WN]; omega
theorem aJ (a:Nat):IntKind.u32.wrap (a:Int)=((a%4294967296:Nat):Int):=by rw [wrap_u32]; omega
theorem n_w16 (a:Nat):IntKind.u16.wrap (a:Int)=((a%65536:Nat):Int):=by rw [eT]; omega
theorem GA (a:Nat):IntKind.u8.wrap (a:Int)=((a%256:Nat):Int):=by rw [wrap_u8]; omega
theorem IA (a b:Nat):IntKind.u64.wrap ((a:Int)-(b:Int))=(((a+(18446744073709551616-b%18446744073709551616))%18446744073709551616:Nat):Int):=by rw [WN]; omega
theorem kL (n b:Nat):IntKind.u64.wrap ((no_index (@OfNat.ofNat Int n instOfNat))-(b:Int))=(((n+(18446744073709551616-b%18446744073709551616))%18446744073709551616:Nat):Int):=IA n b
theorem kK (a n:Nat):IntKind.u64.wrap ((a:Int)-(no_index (@OfNat.ofNat Int n instOfNat)))=(((a+(18446744073709551616-n%18446744073709551616))%18446744073709551616:Nat):Int):=IA a n
theorem AA (w a:Nat):BitVec.ofInt w (a:Int)=BitVec.ofNat w a:=by simp
theorem n_and (k:IntKind) (hk:k.signed=false) (a b:Nat):Zp .and k (a:Int) (b:Int)=(((a%2^k.bits)&&&(b%2^k.bits):Nat):Int):=by
 simp only [Zp,AA]
 rw [BitVec.toNat_and,BitVec.toNat_ofNat,BitVec.toNat_ofNat,Xd hk (XV _ (Q5 _ (JM (by decide))))]
theorem n_or (k:IntKind) (hk:k.signed=false) (a b:Nat):Zp .or k (a:Int) (b:Int)=(((a%2^k.bits)|||(b%2^k.bits):Nat):Int):=by
 simp only [Zp,AA]
 rw [BitVec.toNat_or,BitVec.toNat_ofNat,BitVec.toNat_ofNat,Xd hk (Nat.or_lt_two_pow (Q5 _ (JM (by decide))) (Q5 _ (JM (by decide))))]
theorem UP (k:IntKind) (hk:k.signed=false) (w a:Nat) (hw:w≤k.bits):Zp .and k (a:Int) ((2^w-1:Nat):Int)=((a%2^w:Nat):Int):=by
 have h1:(2:Nat)^w≤2^k.bits:=Zk (by decide) hw
 have h0:0<(2:Nat)^w:=JM (by decide)
 rw [n_and k hk,Qv (a:=2^w-1) (by omega),Vs,Wm _ (Nat.pow_dvd_pow 2 hw)]
theorem n_m32 (a:Nat):Zp .and .u64 (a:Int) 4294967295=((a%4294967296:Nat):Int):=UP .u64 rfl 32 a (by decide)
theorem n_m51 (a:Nat):Zp .and .u64 (a:Int) 2251799813685247=((a%2251799813685248:Nat):Int):=UP .u64 rfl 51 a (by decide)
theorem n_m1 (a:Nat):Zp .and .u64 (a:Int) 1=((a%2:Nat):Int):=UP .u64 rfl 1 a (by decide)
theorem n_m1b (a:Nat):Zp .and .u8 (a:Int) 1=((a%2:Nat):Int):=UP .u8 rfl 1 a (by decide)
theorem n_m7b (a:Nat):Zp .and .u8 (a:Int) 127=((a%128:Nat):Int):=UP .u8 rfl 7 a (by decide)
theorem ug:(2:Int)^min 32 IntKind.u64.bits=((4294967296:Nat):Int):=rfl
theorem ue:(2:Int)^min 51 IntKind.u64.bits=((2251799813685248:Nat):Int):=rfl
theorem ui:(2:Int)^min 13 IntKind.u64.bits=((8192:Nat):Int):=rfl
theorem p8_7:(2:Int)^min 7 IntKind.u8.bits=((128:Nat):Int):=rfl
theorem YD {a n:Nat} (h:a<2^n):(b*2^n)|||a=b*2^n+a:=by
 rw [Zj,Nat.two_pow_add_eq_or_of_lt h]
theorem G8 (k:IntKind):ns k []=[]:=rfl
theorem Wb (k:IntKind) (x:Nat) (r:List Nat):ns k (x::r)=.int k (x:Nat)::ns k r:=rfl
theorem TJ {w m q s y M:Nat} (hq:q<m) (hs:s<w) (hM:M<2^(w*q+s)) (hy:y*2^s<2^w) :
  (dig (2^w) m M).set q ((dig (2^w) m M).getD q 0|||y*2^s)=dig (2^w) m (M+y*2^(w*q+s)):=by
 have hB:(2^w)^q=2^(w*q):=by rw [←Ja]
 have hpos:0<(2^w:Nat)^q:=JM (JM (by decide))
 have hpow:(2:Nat)^(w*q+s)=2^s*(2^w)^q:=by rw [JD,hB,Zj]
 have hdiv:M/(2^w)^q<2^s:=by rw [Nat.div_lt_iff_lt_mul hpos,←hpow]; exact hM
 have hsw:(2:Nat)^s≤2^w:=Zk (by decide) (by omega)
 have hsum:M/(2^w)^q+y*2^s<2^w:=by
  have h1:(2:Nat)^w=2^(w-s)*2^s:=by rw [←JD]; congr 1; omega
  have h2:y<2^(w-s):=by
   rw [h1] at hy
   exact Nat.lt_of_mul_lt_mul_right hy
  have h3:(y+1)*2^s≤2^(w-s)*2^s:=Ji _ h2
  rw [Zl,Xf,←h1] at h3
  omega
 apply HK (by rw [Q3,Zd])
 intro i hi
 by_cases hqi:i=q
 ·subst hqi
  rw [Qx (by rw [Zd]; exact hi),QA,XR hi]
  rw [hpow,←ZC,Uq _ _ hpos]
  simp only [Option.getD_some]
  rw [Qv (a:=M/_) (by omega),Qv hsum,Nat.or_comm,YD hdiv,Xp]
 ·rw [Qu (Ne.symm hqi),XR hi]
  congr 1
  by_cases hlt:i<q
  ·have h1:(2^w:Nat)^q=2^w*(2^w)^(q-i-1)*(2^w)^i:=by
    rw [ZC,←JD,←Nat.pow_add_one']; congr 1; omega
   rw [hpow,h1]
   rw [show y*(2^s*(2^w*(2^w)^(q-i-1)*(2^w)^i))=(y*2^s*(2^w)^(q-i-1)*2^w)*(2^w)^i by simp only [ZC,JH,Zj]]
   rw [Uq _ _ (JM (JM (by decide))),Y4]
  ·have h1:M+y*2^(w*q+s)<(2^w)^i:=by
    have h2:(2^w:Nat)^(q+1)≤(2^w)^i:=Zk (JM (by decide)) (by omega)
    refine QM ?_ h2
    have h3:(M/(2^w)^q+y*2^s+1)*(2^w)^q≤2^w*(2^w)^q:=Ji _ hsum
    have h4:=Zz M ((2^w)^q)
    have h5:=Q5 M hpos
    rw [Ze,Zj ((2^w)^q)]
    refine QM ?_ h3
    rw [hpow,←ZC,Zl,Zl,Xf,Zj (M/(2^w)^q)]
    omega
   rw [JF h1,JF (by omega)]
def QK (T:Tab) (f:Nat) (args:List Value):Option Value:=(Z5 T f args []).map (·.1)
theorem GH {T:Tab} {l:List Ob} {M:List Nat} (h:Z5 T f args []=some (v,l,M)):QK T f args=some v:=by simp [QK,h]
theorem X5 {T:Tab} (h:∃ l,Z5 T f args []=some (v,l,[])):QK T f args=some v:=by
 obtain ⟨l,h⟩:=h
 exact GH h
theorem QI {T:Tab} {fn:AFun} {v:Value} {l:List Ob} (hf:T.fn f=some fn) (h:((Q2 T ([]:List Ob).length fn.body ⟨Qs 0 args,[],[]⟩).bind fun xs=>match xs.1 with
  | .exit _=>none
  | _=>(Zr xs.2.env xs.2.h fn.results).bind fun vs=>some (packed vs,xs.2.h,xs.2.log))=some (v,l,[])):QK T f args=some v:=X5 ⟨l,by rw [Zb hf]; exact h⟩
theorem JE {T:Tab} {q:Bool} {f:Nat} {xs:List Operand} {d:Option Nat} {r:List AOper} {e:Env} {H:List Ob} {l:List Nat}:steps T b q (⟨d,.call f xs true,none⟩::r) ⟨e,H,l⟩=(JS e xs).bind fun args=>gate (args.all rf=true) ((QK T f args).bind fun v=>gate (rf v=true) (steps T b q r ⟨e.put d v,H,l⟩)):=by
 rw [Ug]
 cases JS e xs with
 | none=>rfl
 | some args =>
  simp only [Qo,QK]
  cases Z5 T f args []<;>rfl
def cU:=Qi (Qi (Qi (Qi (@n_add) (Qi (@n_mul) (@uG))) (Qi (@uH) (Qi (@uF) (@uE)))) (Qi (Qi (@R5) (Qi (@qn) (@uD))) (Qi (Qi (@uC) (@U0)) (Qi (@aJ) (@n_w16))))) (Qi (Qi (Qi (@GA) (Qi (@IA) (@kL))) (Qi (@kK) (Qi (@n_m32) (@n_m51)))) (Qi (Qi (@n_m1) (Qi (@n_m1b) (@n_m7b))) (Qi (Qi (@ug) (@ue)) (Qi (@ui) (@p8_7)))))
end Go.Ev
namespace Go.NT
variable {a n k:Nat}
def Pr (p:Nat):Prop:=2≤p∧∀ m,m∣p→m=1∨m=p
theorem Pr.coprime {p a:Nat} (hp:Pr p) (h:¬ p∣a):wU p a:=by
 rcases hp.2 (TP p a) (Nat.gcd_dvd_left p a) with h1 | h1
 ·exact h1
 ·exact absurd (h1▸Nat.gcd_dvd_right p a) h
theorem Pr.dvd_mul {p a b:Nat} (hp:Pr p) (h:p∣a*b):p∣a∨p∣b:=by
 by_cases ha:p∣a
 ·exact .inl ha
 ·exact .inr ((hp.coprime ha).dvd_of_dvd_mul_left h)
def Bm:List Nat→Nat
 | []=>1
 | x::r=>x*Bm r
theorem P6 {l l':List Nat} (h:l.Perm l'):Bm l=Bm l':=by
 induction h with
 | nil=>rfl
 | cons x _ ih=>simp only [Bm,ih]
 | swap x y l=>simp only [Bm,JH]
 | trans _ _ h1 h2=>rw [h1,h2]
theorem ay:∀ {l1 l2:List Nat},l1.Nodup→(∀ x∈l1,x∈l2)→l2.length≤l1.length→l1.Perm l2
 | [],l2,_,_,hl=>by
  have:l2=[]:=by cases l2 with | nil=>rfl | cons _ _=>simp at hl
  subst this; exact .nil
 | a::t,l2,hn,hs,hl=>by
  have ha:=hs a (by simp)
  have hp:=List.perm_cons_erase ha
  have hlen:=hp.length_eq
  rw [List.nodup_cons] at hn
  refine (List.Perm.cons a (ay hn.2 (fun x hx => ?_) ?_)).trans hp.symm
  ·have hxa:x≠a:=fun h=>hn.1 (h▸hx)
   exact (List.mem_erase_of_ne hxa).2 (hs x (by simp [hx]))
  ·simp only [Z0] at hl hlen ⊢
   omega
theorem EY (a p:Nat):∀ l:List Nat,Bm (l.map fun x=>a*x%p)%p=a^l.length*Bm l%p
 | []=>by simp [Bm]
 | x::r=>by
  have h1:=EY a p r
  simp only [J7,Bm,Z0,Ze]
  rw [UU,h1,Y3,←UU]
  congr 1
  simp only [ZC,JH,Zj]
theorem Av {p:Nat} (hp:Pr p):∀ {l:List Nat},(∀ x∈l,¬ p∣x)→¬ p∣Bm l
 | [],_=>fun h=>by
  have:=Vi (by decide:0<1) h
  have:=hp.1
  omega
 | x::r,h=>fun hd=>by
  rcases hp.dvd_mul hd with h1 | h1
  ·exact h x (by simp) h1
  ·exact Av hp (fun y hy=>h y (by simp [hy])) h1
theorem RA {p:Nat} (hp:Pr p) (ha:¬ p∣a):a^(p-1)%p=1:=by
 have h2:=hp.1
 have hnd:((VJ 1 (p-1)).map fun x=>a*x%p).Nodup:=by
  rw [List.nodup_iff_pairwise_ne,List.pairwise_map]
  refine List.Pairwise.imp_of_mem ?_ (List.pairwise_lt_range' (s:=1) (n:=p-1))
  intro x y hx hy hxy he
  simp only [Le] at hx hy
  have h3:(a*y-a*x)%p=0:=UT he.symm
  rw [←Nat.mul_sub] at h3
  rcases hp.dvd_mul (WE h3) with h4 | h4
  ·exact ha h4
  ·have:=Vi (by omega) h4
   omega
 have hmem:∀ x∈(VJ 1 (p-1)).map (fun x=>a*x%p),x∈VJ 1 (p-1):=by
  intro x hx
  simp only [List.mem_map,Le] at hx ⊢
  obtain ⟨y,hy,rfl⟩:=hx
  have h3:a*y%p<p:=Q5 _ (by omega)
  have h4:a*y%p≠0:=fun h=>by
   rcases hp.dvd_mul (WE h) with h4 | h4
   ·exact ha h4
   ·have:=Vi (by omega) h4
    omega
  omega
 have hperm:=P6 (ay hnd hmem (by simp))
 have h5:=EY a p (VJ 1 (p-1))
 rw [hperm,List.length_range'] at h5
 have h6:¬ p∣Bm (VJ 1 (p-1)):=Av hp fun x hx hd=>by
  simp only [Le] at hx
  have:=Vi (by omega) hd
  omega
 have h7:(a^(p-1)*Bm (VJ 1 (p-1))-1*Bm (VJ 1 (p-1)))%p=0:=UT (by rw [←h5,Xf])
 rw [←Nat.sub_mul] at h7
 have ha0:0<a:=Nat.pos_of_ne_zero fun h=>ha (h▸Nat.dvd_zero p)
 have h8:0<a^(p-1):=JM ha0
 rcases hp.dvd_mul (WE h7) with h9 | h9
 ·obtain ⟨k,hk⟩:=h9
  have:a^(p-1)=p*k+1:=by omega
  rw [this,Nat.mul_add_mod,Qv (by omega)]
 ·exact absurd h9 h6
theorem R6 {n:Nat} (hn:2≤n):∃ r,Pr r∧r∣n∧(Pr n∨r*r≤n):=by
 have ex:∃ r,2≤r∧r∣n∧∀ m,2≤m→m∣n→r≤m:=by
  have key:∀ k,(∃ r,2≤r∧r∣n∧r≤k)→∃ r,2≤r∧r∣n∧∀ m,2≤m→m∣n→r≤m:=by
   intro k
   induction k with
   | zero=>rintro ⟨r,h1,_,h3⟩; omega
   | succ k ih =>
    rintro ⟨r,h1,h2,h3⟩
    by_cases h:∃ r,2≤r∧r∣n∧r≤k
    ·exact ih h
    ·refine ⟨r,h1,h2,fun m hm hmd => ?_⟩
     rcases ZG k m with h4 | h4
     ·omega
     ·exact absurd ⟨m,hm,hmd,h4⟩ h
  exact key n ⟨n,hn,Nat.dvd_refl n,Qr n⟩
 obtain ⟨r,h1,h2,h3⟩:=ex
 have hr:Pr r:=⟨h1,fun m hm=>by
  have hm0:0<m:=Nat.pos_of_dvd_of_pos hm (by omega)
  rcases ZG m 2 with h | h
  ·left; omega
  ·have:=h3 m h (nX hm h2)
   have:=Vi (by omega) hm
   right; omega⟩
 refine ⟨r,hr,h2,?_⟩
 obtain ⟨k,rfl⟩:=h2
 rcases ZG k 2 with h | h
 ·have:k=1:=by
   rcases Jw k with h0 | h0
   ·subst h0; omega
   ·omega
  subst this
  rw [KZ]; exact .inl hr
 ·exact .inr (Nat.mul_le_mul_left r (h3 k h (OQ k r)))
def pw (m a:Nat):Nat→Nat→Nat
 | 0,_=>1%m
 | f+1,e=>if e%2=1 then (pw m a f (e/2))*(pw m a f (e/2))%m*a%m else (pw m a f (e/2))*(pw m a f (e/2))%m
theorem sT (m a:Nat):∀ (f e:Nat),e<2^f→pw m a f e=a^e%m
 | 0,e,h=>by
  have:e=0:=by simpa using h
  subst this; rfl
 | f+1,e,h=>by
  have ih:=sT m a f (e/2) (by rw [Ze] at h; omega)
  have hs:a^(e/2)%m*(a^(e/2)%m)%m=a^(2*(e/2))%m:=by
   rw [←UU,←JD]; congr 2; omega
  unfold pw
  rw [ih]
  by_cases he:e%2=1
  ·rw [if_pos he,hs,B6,←Ze]
   congr 2; omega
  ·rw [if_neg he,hs]
   congr 2; omega
def pwf (m a:Nat):Nat→Nat→Nat
 | 0,_=>1%m
 | f+1,e=>(fun r=>if e%2=1 then r*r%m*a%m else r*r%m) (pwf m a f (e/2))
theorem pA {r:Nat} (hr:2≤r) (b x y:Nat):b^x%r=1→b^y%r=1→b^(TP x y)%r=1:=by
 induction x,y using Nat.gcd.induction with
 | H0 y=>intro _ h; rwa [Nat.gcd_zero_left]
 | H1 x y hx ih =>
  intro h1 h2
  rw [Nat.gcd_rec]
  refine ih ?_ h1
  have h3:b^(x*(y/x)+y%x)%r=1:=by rw [Zz]; exact h2
  rw [JD,Ja,UU,wS (b^x),h1,Nat.one_pow,Qv (a:=1) (by omega),Xf,Y3] at h3
  exact h3
theorem tW {n q k a r:Nat} (hq:Pr q) (hk:n=q*k+1) (h1:a^(q*k)%n=1) (h2:TP (a^k%n+n-1) n=1) (hr:Pr r) (hrn:r∣n):q∣r-1:=by
 have hr2:=hr.1
 have hn0:0<n:=by omega
 have hn2:r≤n:=Vi hn0 hrn
 have hmodr:∀ x,x%n%r=x%r:=fun x=>Wm x hrn
 have hb1:a^(q*k)%r=1:=by rw [←hmodr,h1,Qv (by omega)]
 have hra:¬ r∣a:=fun h=>by
  have hqk:0<q*k:=by
   rcases Jw (q*k) with h0 | h0
   ·omega
   ·exact h0
  have:r∣a^(q*k):=by
   obtain ⟨m,hm⟩:∃ m,q*k=m+1:=⟨q*k-1,by omega⟩
   rw [hm,Ze]
   exact nX h (OQ a _)
  have:=MY this
  omega
 have hf:=RA hr hra
 by_cases hqd:q∣r-1
 ·exact hqd
 ·exfalso
  have hc:=hq.coprime hqd
  have hpow:∀ x:Nat,∀ c,c%r=1→c^x%r=1:=fun x c hcx=>by rw [wS,hcx,Nat.one_pow,Qv (by omega)]
  have hk1:(a^k)^q%r=1:=by rw [←Ja,Zj k q]; exact hb1
  have hk2:(a^k)^(r-1)%r=1:=by rw [←Ja,Zj k,Ja]; exact hpow k _ hf
  have hak:a^k%r=1:=by
   have:=pA hr2 (a^k) q (r-1) hk1 hk2
   rwa [hc,Nat.pow_one] at this
  have hdvd:r∣a^k%n+n-1:=by
   have e3:a^k%n%r=1:=by rw [hmodr]; exact hak
   have e4:1≤a^k%n:=by
    rcases Jw (a^k%n) with h0 | h0
    ·rw [h0,Nat.zero_mod] at e3; omega
    ·exact h0
   have e5:r∣a^k%n-1:=by
    apply WE
    exact UT (by rw [e3,Qv (by omega)])
   rw [show a^k%n+n-1=(a^k%n-1)+n by omega]
   exact Nat.dvd_add e5 hrn
  have:=Nat.dvd_gcd hdvd hrn
  rw [h2] at this
  have:=Vi (by decide) this
  omega
theorem iT {q:Nat} (hn:2≤n) (hq:Pr q) (hk:n=q*k+1) (hbig:n<q*q) (h1:a^(q*k)%n=1) (h2:TP (a^k%n+n-1) n=1):Pr n:=by
 obtain ⟨r,hr,hrn,h | h⟩:=R6 hn
 ·exact h
 ·have h3:=tW hq hk h1 h2 hr hrn
  have:=hr.1
  have h4:=Vi (by omega) h3
  have:q*q≤r*r:=JU (by omega) (by omega)
  omega
theorem iS {q q' k' a':Nat} (hn:2≤n) (hq:Pr q) (hk:n=q*k+1) (hq':Pr q') (hk':n=q'*k'+1) (hne:q≠q') (hbig:n<(q*q')*(q*q')) (h1:a^(q*k)%n=1) (h2:TP (a^k%n+n-1) n=1)
 (h1':a'^(q'*k')%n=1) (h2':TP (a'^k'%n+n-1) n=1):Pr n:=by
  obtain ⟨r,hr,hrn,h | h⟩:=R6 hn
  · exact h
  · have h3:=tW hq hk h1 h2 hr hrn
    have h3':=tW hq' hk' h1' h2' hr hrn
    have hc:wU q q':=hq.coprime fun hd=>by
      rcases hq'.2 q hd with h | h
      · have:=hq.1; omega
      · exact hne h
    have h5:=hc.mul_dvd_of_dvd_of_dvd h3 h3'
    have:=hr.1
    have h4:=Vi (by omega) h5
    have:(q*q')*(q*q')≤r*r:=JU (by omega) (by omega)
    omega
def aH (n:Nat):Nat→Nat→Bool
 | 0,_=>true
 | f+1,m=>(n%m != 0)&&aH n f (m+1)
theorem AE {n:Nat}:∀ (f m:Nat),aH n f m=true→∀ x,m≤x→x<m+f→n%x≠0
 | 0,m,_,x,h1,h2=>by omega
 | f+1,m,h,x,h1,h2=>by
  simp only [aH,ZR,bne_iff_ne] at h
  rcases Nat.eq_or_lt_of_le h1 with h3 | h3
  ·subst h3; exact h.1
  ·exact AE f (m+1) h.2 x h3 (by omega)
theorem KP {f:Nat} (hn:2≤n) (hf:n<(f+2)*(f+2)) (h:aH n f 2=true):Pr n:=by
 obtain ⟨r,hr,hrn,h1 | h1⟩:=R6 hn
 ·exact h1
 ·have hr2:=hr.1
  have:r<2+f:=by
   rcases ZG r (2+f) with h2 | h2
   ·exact h2
   ·have:(f+2)*(f+2)≤r*r:=JU (by omega) (by omega)
    omega
  exact absurd (MY hrn) (AE f 2 h r hr2 this)
end Go.NT
namespace Go.Cv
section
variable {n:Nat} [NeZero n]
structure Fld (n:Nat) [NeZero n] (iv:Fin n→Fin n) (d i:Fin n):Prop where
 inv:∀ a:Fin n,a≠0→a*iv a=1
 iv0:iv 0=0
 one:(1:Fin n)≠0
 two:(2:Fin n)≠0
 root:i*i = -1
 nosq:∀ r:Fin n,r*r≠d
variable {iv:Fin n→Fin n} {d i:Fin n} (F:Fld n iv d i)
include F
theorem Fld.dom {a b:Fin n} (h:a*b=0):a=0∨b=0:=by
 by_cases ha:a=0
 ·exact .inl ha
 ·have:=F.inv a ha
  exact .inr (by grobner)
theorem Fld.mul_ne {a b:Fin n} (ha:a≠0) (hb:b≠0):a*b≠0:=fun h=>by
 rcases F.dom h with h | h
 ·exact ha h
 ·exact hb h
theorem Fld.cancel {a b c:Fin n} (ha:a≠0) (h:a*b=a*c):b=c:=by
 have:=F.inv a ha
 grobner
theorem Fld.noratio {u v:Fin n} (hv:v≠0):u*u≠d*(v*v):=fun h=>by
 have:=F.inv v hv
 apply F.nosq (u*iv v)
 grobner
omit F
def On (d x y:Fin n):Prop := -(x*x)+y*y=1+d*(x*x)*(y*y)
theorem On.sub {d x y:Fin n} (h:On d x y) : -(x*x)+y*y-1-d*(x*x)*(y*y)=0:=by
 unfold On at h; grobner
theorem fV {L R a b c e:Fin n} (h:L-R=a*c+b*e) (hc:c=0) (he:e=0):L=R:=by
 subst hc he; grobner
theorem Aa {L R a b c e f g:Fin n} (h:L-R=a*c+b*e+f*g) (hc:c=0) (he:e=0) (hg:g=0):L=R:=by
 subst hc he hg; grobner
theorem nj (d x1 y1 x2 y2:Fin n) : -((x1*y2+x2*y1)*(x1*y2+x2*y1)*((1-d*x1*x2*y1*y2)*(1-d*x1*x2*y1*y2)))+(y1*y2+x1*x2)*(y1*y2+x1*x2)*((1+d*x1*x2*y1*y2)*(1+d*x1*x2*y1*y2)) -
   (((1+d*x1*x2*y1*y2)*(1-d*x1*x2*y1*y2))*((1+d*x1*x2*y1*y2)*(1-d*x1*x2*y1*y2))+d*((x1*y2+x2*y1)*(x1*y2+x2*y1))*((y1*y2+x1*x2)*(y1*y2+x1*x2))) =
   (d*d*d*x1*x1*x2*x2*x2*x2*y1*y1*y2*y2*y2*y2-d*d*x1*x1*x2*x2*x2*x2*y2*y2*y2*y2+d*d*x2*x2*x2*x2*y1*y1*y2*y2*y2*y2-d*d*x2*x2*x2*x2*y2*y2*y2*y2-d*x1*x1*x2*x2*x2*x2*y2*y2+d*x1*x1*x2*x2*y2*y2*y2*y2+d*x2*x2*x2*x2*y1*y1*y2*y2-2*d*x2*x2*x2*x2*y2*y2*y2*y2-d*x2*x2*y1*y1*y2*y2*y2*y2-2*d*x2*x2*y2*y2-2*x2*x2*x2*x2*y2*y2+x2*x2*x2*x2+2*x2*x2*y2*y2*y2*y2-4*x2*x2*y2*y2+y2*y2*y2*y2)*(-(x1*x1)+y1*y1-1-d*(x1*x1)*(y1*y1))+(d*x1*x1*x1*x1*x2*x2*y2*y2+2*d*x1*x1*x2*x2*y2*y2+d*x2*x2*y1*y1*y1*y1*y2*y2-2*d*x2*x2*y1*y1*y2*y2+d*x2*x2*y2*y2+2*x1*x1*x2*x2*y2*y2-x1*x1*x2*x2+x1*x1*y2*y2-2*x2*x2*y1*y1*y2*y2+x2*x2*y1*y1+2*x2*x2*y2*y2-x2*x2-y1*y1*y2*y2+y2*y2+1)*(-(x2*x2)+y2*y2-1-d*(x2*x2)*(y2*y2)):=by grobner
theorem vD (d x1 y1 x2 y2 x3 y3:Fin n):((x1*y2+x2*y1)*(1-d*x1*x2*y1*y2)*y3+x3*(y1*y2+x1*x2)*(1+d*x1*x2*y1*y2))*((1+d*x2*x3*y2*y3)*(1-d*x2*x3*y2*y3)+d*(x2*y3+x3*y2)*(y2*y3+x2*x3)*x1*y1) -
   (x1*(y2*y3+x2*x3)*(1+d*x2*x3*y2*y3)+(x2*y3+x3*y2)*(1-d*x2*x3*y2*y3)*y1)*((1+d*x1*x2*y1*y2)*(1-d*x1*x2*y1*y2)+d*(x1*y2+x2*y1)*(y1*y2+x1*x2)*x3*y3) =
   (-d*d*x1*x2*x2*x2*x2*x3*x3*y2*y2*y2*y3-d*d*x1*x2*x2*x2*x3*y2*y2*y2*y2*y3*y3+d*d*x2*x2*x2*x2*x3*y1*y2*y2*y2*y3*y3+d*d*x2*x2*x2*x3*x3*y1*y2*y2*y2*y2*y3-d*x1*x2*x2*x2*x2*x3*x3*y2*y3-d*x1*x2*x2*x2*x3*x3*x3*y2*y2-d*x1*x2*x2*x2*x3*y2*y2+d*x1*x2*x2*y2*y2*y2*y3*y3*y3-d*x1*x2*x2*y2*y2*y2*y3+d*x1*x2*x3*y2*y2*y2*y2*y3*y3+d*x2*x2*x2*x2*x3*y1*y2*y3*y3+d*x2*x2*x2*y1*y2*y2*y3*y3*y3-d*x2*x2*x2*y1*y2*y2*y3-d*x2*x2*x3*x3*x3*y1*y2*y2*y2-d*x2*x2*x3*y1*y2*y2*y2-d*x2*x3*x3*y1*y2*y2*y2*y2*y3)*(-(x1*x1)+y1*y1-1-d*(x1*x1)*(y1*y1))+(d*d*x1*x1*x2*x2*x3*x3*x3*y1*y2*y3*y3-d*d*x1*x1*x2*x3*x3*y1*y2*y2*y3*y3*y3-d*d*x1*x2*x2*x3*x3*y1*y1*y2*y3*y3*y3+d*d*x1*x2*x3*x3*x3*y1*y1*y2*y2*y3*y3+d*x1*x1*x1*x2*x2*x3*x3*y2*y3+d*x1*x1*x1*x2*x3*x3*x3*y3*y3+d*x1*x1*x1*x2*x3*y2*y2*y3*y3+d*x1*x1*x1*x3*x3*y2*y3*y3*y3-d*x1*x1*x2*x2*x3*y1*y2*y3*y3-d*x1*x1*x2*x3*x3*y1*y2*y2*y3+d*x1*x1*x2*x3*x3*y1*y3*y3*y3+d*x1*x1*x3*x3*x3*y1*y2*y3*y3-d*x1*x2*x2*x3*x3*y1*y1*y2*y3+d*x1*x2*x2*x3*x3*y2*y3-d*x1*x2*x3*x3*x3*y1*y1*y3*y3+d*x1*x2*x3*x3*x3*y3*y3-d*x1*x2*x3*y1*y1*y2*y2*y3*y3+d*x1*x2*x3*y2*y2*y3*y3-d*x1*x3*x3*y1*y1*y2*y3*y3*y3+d*x1*x3*x3*y2*y3*y3*y3+d*x2*x2*x3*y1*y1*y1*y2*y3*y3-d*x2*x2*x3*y1*y2*y3*y3+d*x2*x3*x3*y1*y1*y1*y2*y2*y3-d*x2*x3*x3*y1*y1*y1*y3*y3*y3-d*x2*x3*x3*y1*y2*y2*y3+d*x2*x3*x3*y1*y3*y3*y3-d*x3*x3*x3*y1*y1*y1*y2*y3*y3+d*x3*x3*x3*y1*y2*y3*y3+x1*x1*x1*x2*x3*x3*x3-x1*x1*x1*x2*x3*y3*y3+x1*x1*x1*x2*x3+x1*x1*x1*x3*x3*y2*y3-x1*x1*x1*y2*y3*y3*y3+x1*x1*x1*y2*y3+x1*x1*x2*x3*x3*y1*y3-x1*x1*x2*y1*y3*y3*y3+x1*x1*x2*y1*y3+x1*x1*x3*x3*x3*y1*y2-x1*x1*x3*y1*y2*y3*y3+x1*x1*x3*y1*y2-x1*x2*x3*x3*x3*y1*y1+x1*x2*x3*x3*x3+x1*x2*x3*y1*y1*y3*y3-x1*x2*x3*y1*y1-x1*x2*x3*y3*y3+x1*x2*x3-x1*x3*x3*y1*y1*y2*y3+x1*x3*x3*y2*y3+x1*y1*y1*y2*y3*y3*y3-x1*y1*y1*y2*y3-x1*y2*y3*y3*y3+x1*y2*y3-x2*x3*x3*y1*y1*y1*y3+x2*x3*x3*y1*y3+x2*y1*y1*y1*y3*y3*y3-x2*y1*y1*y1*y3-x2*y1*y3*y3*y3+x2*y1*y3-x3*x3*x3*y1*y1*y1*y2+x3*x3*x3*y1*y2+x3*y1*y1*y1*y2*y3*y3-x3*y1*y1*y1*y2-x3*y1*y2*y3*y3+x3*y1*y2)*(-(x2*x2)+y2*y2-1-d*(x2*x2)*(y2*y2))+(-d*x1*x1*x2*x2*x3*y1*y2+d*x1*x1*x2*y1*y2*y2*y3+d*x1*x2*x2*y1*y1*y2*y3-d*x1*x2*x3*y1*y1*y2*y2-x1*x1*x1*x2*x2*x2*x3-x1*x1*x1*x2*x2*y2*y3+x1*x1*x1*x2*x3*y2*y2-x1*x1*x1*x2*x3+x1*x1*x1*y2*y2*y2*y3-x1*x1*x1*y2*y3-x1*x1*x2*x2*x2*y1*y3-x1*x1*x2*x2*x3*y1*y2+x1*x1*x2*y1*y2*y2*y3-x1*x1*x2*y1*y3+x1*x1*x3*y1*y2*y2*y2-x1*x1*x3*y1*y2+x1*x2*x2*x2*x3*y1*y1-x1*x2*x2*x2*x3+x1*x2*x2*y1*y1*y2*y3-x1*x2*x2*y2*y3-x1*x2*x3*y1*y1*y2*y2+x1*x2*x3*y1*y1+x1*x2*x3*y2*y2-x1*x2*x3-x1*y1*y1*y2*y2*y2*y3+x1*y1*y1*y2*y3+x1*y2*y2*y2*y3-x1*y2*y3+x2*x2*x2*y1*y1*y1*y3-x2*x2*x2*y1*y3+x2*x2*x3*y1*y1*y1*y2-x2*x2*x3*y1*y2-x2*y1*y1*y1*y2*y2*y3+x2*y1*y1*y1*y3+x2*y1*y2*y2*y3-x2*y1*y3-x3*y1*y1*y1*y2*y2*y2+x3*y1*y1*y1*y2+x3*y1*y2*y2*y2-x3*y1*y2)*(-(x3*x3)+y3*y3-1-d*(x3*x3)*(y3*y3)):=by grobner
theorem vC (d x1 y1 x2 y2 x3 y3:Fin n):((y1*y2+x1*x2)*(1+d*x1*x2*y1*y2)*y3+(x1*y2+x2*y1)*(1-d*x1*x2*y1*y2)*x3)*((1+d*x2*x3*y2*y3)*(1-d*x2*x3*y2*y3)-d*(x2*y3+x3*y2)*(y2*y3+x2*x3)*x1*y1) -
   (y1*(y2*y3+x2*x3)*(1+d*x2*x3*y2*y3)+x1*(x2*y3+x3*y2)*(1-d*x2*x3*y2*y3))*((1+d*x1*x2*y1*y2)*(1-d*x1*x2*y1*y2)-d*(x1*y2+x2*y1)*(y1*y2+x1*x2)*x3*y3) =
   (d*d*x1*x2*x2*x2*x2*x3*y2*y2*y2*y3*y3+d*d*x1*x2*x2*x2*x3*x3*y2*y2*y2*y2*y3-d*d*x2*x2*x2*x2*x3*x3*y1*y2*y2*y2*y3-d*d*x2*x2*x2*x3*y1*y2*y2*y2*y2*y3*y3+d*x1*x2*x2*x2*x2*x3*y2*y3*y3+d*x1*x2*x2*x2*y2*y2*y3*y3*y3-d*x1*x2*x2*x2*y2*y2*y3-d*x1*x2*x2*x3*x3*x3*y2*y2*y2-d*x1*x2*x2*x3*y2*y2*y2-d*x1*x2*x3*x3*y2*y2*y2*y2*y3-d*x2*x2*x2*x2*x3*x3*y1*y2*y3-d*x2*x2*x2*x3*x3*x3*y1*y2*y2-d*x2*x2*x2*x3*y1*y2*y2+d*x2*x2*y1*y2*y2*y2*y3*y3*y3-d*x2*x2*y1*y2*y2*y2*y3+d*x2*x3*y1*y2*y2*y2*y2*y3*y3)*(-(x1*x1)+y1*y1-1-d*(x1*x1)*(y1*y1))+(d*d*x1*x1*x2*x2*x3*x3*y1*y2*y3*y3*y3-d*d*x1*x1*x2*x3*x3*x3*y1*y2*y2*y3*y3-d*d*x1*x2*x2*x3*x3*x3*y1*y1*y2*y3*y3+d*d*x1*x2*x3*x3*y1*y1*y2*y2*y3*y3*y3-d*x1*x1*x1*x2*x2*x3*y2*y3*y3-d*x1*x1*x1*x2*x3*x3*y2*y2*y3+d*x1*x1*x1*x2*x3*x3*y3*y3*y3+d*x1*x1*x1*x3*x3*x3*y2*y3*y3+d*x1*x1*x2*x2*x3*x3*y1*y2*y3+d*x1*x1*x2*x3*x3*x3*y1*y3*y3+d*x1*x1*x2*x3*y1*y2*y2*y3*y3+d*x1*x1*x3*x3*y1*y2*y3*y3*y3+d*x1*x2*x2*x3*y1*y1*y2*y3*y3-d*x1*x2*x2*x3*y2*y3*y3+d*x1*x2*x3*x3*y1*y1*y2*y2*y3-d*x1*x2*x3*x3*y1*y1*y3*y3*y3-d*x1*x2*x3*x3*y2*y2*y3+d*x1*x2*x3*x3*y3*y3*y3-d*x1*x3*x3*x3*y1*y1*y2*y3*y3+d*x1*x3*x3*x3*y2*y3*y3-d*x2*x2*x3*x3*y1*y1*y1*y2*y3+d*x2*x2*x3*x3*y1*y2*y3-d*x2*x3*x3*x3*y1*y1*y1*y3*y3+d*x2*x3*x3*x3*y1*y3*y3-d*x2*x3*y1*y1*y1*y2*y2*y3*y3+d*x2*x3*y1*y2*y2*y3*y3-d*x3*x3*y1*y1*y1*y2*y3*y3*y3+d*x3*x3*y1*y2*y3*y3*y3+x1*x1*x1*x2*x3*x3*y3-x1*x1*x1*x2*y3*y3*y3+x1*x1*x1*x2*y3+x1*x1*x1*x3*x3*x3*y2-x1*x1*x1*x3*y2*y3*y3+x1*x1*x1*x3*y2+x1*x1*x2*x3*x3*x3*y1-x1*x1*x2*x3*y1*y3*y3+x1*x1*x2*x3*y1+x1*x1*x3*x3*y1*y2*y3-x1*x1*y1*y2*y3*y3*y3+x1*x1*y1*y2*y3-x1*x2*x3*x3*y1*y1*y3+x1*x2*x3*x3*y3+x1*x2*y1*y1*y3*y3*y3-x1*x2*y1*y1*y3-x1*x2*y3*y3*y3+x1*x2*y3-x1*x3*x3*x3*y1*y1*y2+x1*x3*x3*x3*y2+x1*x3*y1*y1*y2*y3*y3-x1*x3*y1*y1*y2-x1*x3*y2*y3*y3+x1*x3*y2-x2*x3*x3*x3*y1*y1*y1+x2*x3*x3*x3*y1+x2*x3*y1*y1*y1*y3*y3-x2*x3*y1*y1*y1-x2*x3*y1*y3*y3+x2*x3*y1-x3*x3*y1*y1*y1*y2*y3+x3*x3*y1*y2*y3+y1*y1*y1*y2*y3*y3*y3-y1*y1*y1*y2*y3-y1*y2*y3*y3*y3+y1*y2*y3)*(-(x2*x2)+y2*y2-1-d*(x2*x2)*(y2*y2))+(-d*x1*x1*x2*x2*y1*y2*y3+d*x1*x1*x2*x3*y1*y2*y2+d*x1*x2*x2*x3*y1*y1*y2-d*x1*x2*y1*y1*y2*y2*y3-x1*x1*x1*x2*x2*x2*y3-x1*x1*x1*x2*x2*x3*y2+x1*x1*x1*x2*y2*y2*y3-x1*x1*x1*x2*y3+x1*x1*x1*x3*y2*y2*y2-x1*x1*x1*x3*y2-x1*x1*x2*x2*x2*x3*y1-x1*x1*x2*x2*y1*y2*y3+x1*x1*x2*x3*y1*y2*y2-x1*x1*x2*x3*y1+x1*x1*y1*y2*y2*y2*y3-x1*x1*y1*y2*y3+x1*x2*x2*x2*y1*y1*y3-x1*x2*x2*x2*y3+x1*x2*x2*x3*y1*y1*y2-x1*x2*x2*x3*y2-x1*x2*y1*y1*y2*y2*y3+x1*x2*y1*y1*y3+x1*x2*y2*y2*y3-x1*x2*y3-x1*x3*y1*y1*y2*y2*y2+x1*x3*y1*y1*y2+x1*x3*y2*y2*y2-x1*x3*y2+x2*x2*x2*x3*y1*y1*y1-x2*x2*x2*x3*y1+x2*x2*y1*y1*y1*y2*y3-x2*x2*y1*y2*y3-x2*x3*y1*y1*y1*y2*y2+x2*x3*y1*y1*y1+x2*x3*y1*y2*y2-x2*x3*y1-y1*y1*y1*y2*y2*y2*y3+y1*y1*y1*y2*y3+y1*y2*y2*y2*y3-y1*y2*y3)*(-(x3*x3)+y3*y3-1-d*(x3*x3)*(y3*y3)):=by grobner
include F
theorem Fld.den {x1 y1 x2 y2:Fin n} (h1:On d x1 y1) (h2:On d x2 y2) (e:Fin n) (he:e*e=1):d*x1*x2*y1*y2≠e:=fun hD=>by
 unfold On at h1 h2
 have h10:=F.one
 have hr:=F.root
 have hx1:x1≠0:=fun h=>by subst h; grobner
 have hy1:y1≠0:=fun h=>by subst h; grobner
 have hx2:x2≠0:=fun h=>by subst h; grobner
 have key:d*(x1*x1)*(y1*y1)*(y2*y2-x2*x2)=y1*y1-x1*x1:=by grobner
 have h3:(y1+e*i*x1)*(y1+e*i*x1)=d*((x1*y1*(y2+i*x2))*(x1*y1*(y2+i*x2))):=by grobner
 have h4:(y1-e*i*x1)*(y1-e*i*x1)=d*((x1*y1*(y2-i*x2))*(x1*y1*(y2-i*x2))):=by grobner
 by_cases ha:y2+i*x2=0
 ·by_cases hb:y2-i*x2=0
  ·have hi:i≠0:=fun h=>by subst h; grobner
   have:(2:Fin n)*(i*x2)=0:=by grobner
   exact F.mul_ne F.two (F.mul_ne hi hx2) this
  ·exact F.noratio (F.mul_ne (F.mul_ne hx1 hy1) hb) h4
 ·exact F.noratio (F.mul_ne (F.mul_ne hx1 hy1) ha) h3
theorem Fld.denP {x1 y1 x2 y2:Fin n} (h1:On d x1 y1) (h2:On d x2 y2):1+d*x1*x2*y1*y2≠0:=fun h =>
 F.den h1 h2 (-1) (by grobner) (by grobner)
theorem Fld.denM {x1 y1 x2 y2:Fin n} (h1:On d x1 y1) (h2:On d x2 y2):1-d*x1*x2*y1*y2≠0:=fun h =>
 F.den h1 h2 1 (by grobner) (by grobner)
theorem GP {x1 y1 x2 y2:Fin n} (h1:On d x1 y1) (h2:On d x2 y2) {a b:Fin n} (ha:a*(1+d*x1*x2*y1*y2)=x1*y2+x2*y1) (hb:b*(1-d*x1*x2*y1*y2)=y1*y2+x1*x2):On d a b:=by
 have hp:=F.denP h1 h2
 have hm:=F.denM h1 h2
 have hC : -((x1*y2+x2*y1)*(x1*y2+x2*y1)*((1-d*x1*x2*y1*y2)*(1-d*x1*x2*y1*y2)))+(y1*y2+x1*x2)*(y1*y2+x1*x2)*((1+d*x1*x2*y1*y2)*(1+d*x1*x2*y1*y2)) =
   ((1+d*x1*x2*y1*y2)*(1-d*x1*x2*y1*y2))*((1+d*x1*x2*y1*y2)*(1-d*x1*x2*y1*y2))+d*((x1*y2+x2*y1)*(x1*y2+x2*y1))*((y1*y2+x1*x2)*(y1*y2+x1*x2)):=by
  exact fV (nj d x1 y1 x2 y2) h1.sub h2.sub
 unfold On
 have hp2:=F.mul_ne (F.mul_ne hp hm) (F.mul_ne hp hm)
 refine F.cancel hp2 ?_
 rw [←ha,←hb] at hC
 generalize 1+d*x1*x2*y1*y2=p at *
 generalize 1-d*x1*x2*y1*y2=m at *
 clear ha hb hp hm hp2 h1 h2
 grobner
theorem SB {x1 y1 x2 y2 x3 y3 a b a' b' u v u' v':Fin n} (h1:On d x1 y1) (h2:On d x2 y2) (h3:On d x3 y3)
  (ha:a*(1+d*x1*x2*y1*y2)=x1*y2+x2*y1) (hb:b*(1-d*x1*x2*y1*y2)=y1*y2+x1*x2)
  (ha':a'*(1+d*x2*x3*y2*y3)=x2*y3+x3*y2) (hb':b'*(1-d*x2*x3*y2*y3)=y2*y3+x2*x3)
  (hu:u*(1+d*a*x3*b*y3)=a*y3+x3*b) (hv:v*(1-d*a*x3*b*y3)=b*y3+a*x3)
  (hu':u'*(1+d*x1*a'*y1*b')=x1*b'+a'*y1) (hv':v'*(1-d*x1*a'*y1*b')=y1*b'+x1*a'):u=u'∧v=v':=by
 have o12:=GP F h1 h2 ha hb
 have o23:=GP F h2 h3 ha' hb'
 have hp:=F.denP h1 h2
 have hm:=F.denM h1 h2
 have hp':=F.denP h2 h3
 have hm':=F.denM h2 h3
 have kp:=F.denP o12 h3
 have km:=F.denM o12 h3
 have kp':=F.denP h1 o23
 have km':=F.denM h1 o23
 have e1:=h1.sub
 have e2:=h2.sub
 have e3:=h3.sub
 clear h1 h2 h3 o12 o23
 have hX:((x1*y2+x2*y1)*(1-d*x1*x2*y1*y2)*y3+x3*(y1*y2+x1*x2)*(1+d*x1*x2*y1*y2))*((1+d*x2*x3*y2*y3)*(1-d*x2*x3*y2*y3)+d*(x2*y3+x3*y2)*(y2*y3+x2*x3)*x1*y1) =
   (x1*(y2*y3+x2*x3)*(1+d*x2*x3*y2*y3)+(x2*y3+x3*y2)*(1-d*x2*x3*y2*y3)*y1)*((1+d*x1*x2*y1*y2)*(1-d*x1*x2*y1*y2)+d*(x1*y2+x2*y1)*(y1*y2+x1*x2)*x3*y3):=by
  exact Aa (vD d x1 y1 x2 y2 x3 y3) e1 e2 e3
 have hY:((y1*y2+x1*x2)*(1+d*x1*x2*y1*y2)*y3+(x1*y2+x2*y1)*(1-d*x1*x2*y1*y2)*x3)*((1+d*x2*x3*y2*y3)*(1-d*x2*x3*y2*y3)-d*(x2*y3+x3*y2)*(y2*y3+x2*x3)*x1*y1) =
   (y1*(y2*y3+x2*x3)*(1+d*x2*x3*y2*y3)+x1*(x2*y3+x3*y2)*(1-d*x2*x3*y2*y3))*((1+d*x1*x2*y1*y2)*(1-d*x1*x2*y1*y2)-d*(x1*y2+x2*y1)*(y1*y2+x1*x2)*x3*y3):=by
  exact Aa (vC d x1 y1 x2 y2 x3 y3) e1 e2 e3
 clear e1 e2 e3
 rw [←ha,←hb,←ha',←hb'] at hX hY
 have hp2:=F.mul_ne hp hm
 have hp2':=F.mul_ne hp' hm'
 generalize 1+d*x1*x2*y1*y2=p at *
 generalize 1-d*x1*x2*y1*y2=m at *
 generalize 1+d*x2*x3*y2*y3=p' at *
 generalize 1-d*x2*x3*y2*y3=m' at *
 clear ha hb ha' hb' hp hm hp' hm' x2 y2
 have f1:a*p*m*y3+x3*(b*m)*p=(p*m)*(a*y3+x3*b):=by grobner
 have f2:p'*m'+d*(a'*p')*(b'*m')*x1*y1=(p'*m')*(1+d*x1*a'*y1*b'):=by grobner
 have f3:x1*(b'*m')*p'+a'*p'*m'*y1=(p'*m')*(x1*b'+a'*y1):=by grobner
 have f4:p*m+d*(a*p)*(b*m)*x3*y3=(p*m)*(1+d*a*x3*b*y3):=by grobner
 have f5:b*m*p*y3+a*p*m*x3=(p*m)*(b*y3+a*x3):=by grobner
 have f6:p'*m'-d*(a'*p')*(b'*m')*x1*y1=(p'*m')*(1-d*x1*a'*y1*b'):=by grobner
 have f7:y1*(b'*m')*p'+x1*(a'*p')*m'=(p'*m')*(y1*b'+x1*a'):=by grobner
 have f8:p*m-d*(a*p)*(b*m)*x3*y3=(p*m)*(1-d*a*x3*b*y3):=by grobner
 rw [f1,f2,f3,f4,←hu,←hu'] at hX
 rw [f5,f6,f7,f8,←hv,←hv'] at hY
 clear f1 f2 f3 f4 f5 f6 f7 f8 hu hu' hv hv'
 generalize 1+d*x1*a'*y1*b'=k' at *
 generalize 1+d*a*x3*b*y3=k at *
 generalize 1-d*x1*a'*y1*b'=l' at *
 generalize 1-d*a*x3*b*y3=l at *
 generalize p*m=s at *
 generalize p'*m'=s' at *
 constructor
 ·refine F.cancel (a:=s*s'*k*k') (F.mul_ne (F.mul_ne (F.mul_ne hp2 hp2') kp) kp') ?_
  grobner
 ·refine F.cancel (a:=s*s'*l*l') (F.mul_ne (F.mul_ne (F.mul_ne hp2 hp2') km) km') ?_
  grobner
omit F
end
structure Pt (n:Nat) [NeZero n] (d:Fin n) where
 x:Fin n
 y:Fin n
 on:On d x y
theorem Pt.ext {n:Nat} [NeZero n] {d:Fin n} {p q:Pt n d} (hx:p.x=q.x) (hy:p.y=q.y):p=q:=by
 cases p; cases q; cases hx; cases hy; rfl
section
variable {n:Nat} [NeZero n] {iv:Fin n→Fin n} {d i:Fin n} (F:Fld n iv d i)
def Pt.zero:Pt n d:=⟨0,1,by unfold On; grobner⟩
def Pt.neg (p:Pt n d):Pt n d:=⟨-p.x,p.y,by have:=p.on; unfold On at *; grobner⟩
def Pt.add (p q:Pt n d):Pt n d :=
 ⟨(p.x*q.y+q.x*p.y)*iv (1+d*p.x*q.x*p.y*q.y),(p.y*q.y+p.x*q.x)*iv (1-d*p.x*q.x*p.y*q.y),
  GP F p.on q.on (by have:=F.inv _ (F.denP p.on q.on); grobner) (by have:=F.inv _ (F.denM p.on q.on); grobner)⟩
theorem Dv (p q:Pt n d):(Pt.add F p q).x*(1+d*p.x*q.x*p.y*q.y)=p.x*q.y+q.x*p.y:=by
 have:=F.inv _ (F.denP p.on q.on)
 simp only [Pt.add]
 generalize 1+d*p.x*q.x*p.y*q.y=k at *
 grobner
theorem Bz (p q:Pt n d):(Pt.add F p q).y*(1-d*p.x*q.x*p.y*q.y)=p.y*q.y+p.x*q.x:=by
 have:=F.inv _ (F.denM p.on q.on)
 simp only [Pt.add]
 generalize 1-d*p.x*q.x*p.y*q.y=k at *
 grobner
theorem add_eq {p q r:Pt n d} (hx:r.x*(1+d*p.x*q.x*p.y*q.y)=p.x*q.y+q.x*p.y) (hy:r.y*(1-d*p.x*q.x*p.y*q.y)=p.y*q.y+p.x*q.x):Pt.add F p q=r:=by
 apply Pt.ext
 ·apply F.cancel (F.denP p.on q.on)
  rw [←Dv F] at hx
  grobner
 ·apply F.cancel (F.denM p.on q.on)
  rw [←Bz F] at hy
  grobner
theorem add_comm (p q:Pt n d):Pt.add F p q=Pt.add F q p:=by
 apply add_eq
 ·have:=Dv F q p; grobner
 ·have:=Bz F q p; grobner
theorem add_zero (p:Pt n d):Pt.add F p Pt.zero=p:=by
 apply add_eq<;>simp only [Pt.zero]<;>grobner
theorem zero_add (p:Pt n d):Pt.add F Pt.zero p=p:=by rw [add_comm,add_zero]
theorem add_neg (p:Pt n d):Pt.add F p p.neg=Pt.zero:=by
 have:=p.on
 unfold On at this
 apply add_eq<;>simp only [Pt.zero,Pt.neg]<;>grobner
theorem add_assoc (p q r:Pt n d):Pt.add F (Pt.add F p q) r=Pt.add F p (Pt.add F q r):=by
 obtain ⟨h1,h2⟩:=SB F p.on q.on r.on (Dv F p q) (Bz F p q) (Dv F q r) (Bz F q r) (Dv F (Pt.add F p q) r) (Bz F (Pt.add F p q) r) (Dv F p (Pt.add F q r)) (Bz F p (Pt.add F q r))
 exact Pt.ext h1 h2
theorem add_left_cancel {p q r:Pt n d} (h:Pt.add F p q=Pt.add F p r):q=r:=by
 have:Pt.add F p.neg (Pt.add F p q)=Pt.add F p.neg (Pt.add F p r):=by rw [h]
 rwa [←add_assoc,←add_assoc,add_comm F p.neg p,add_neg,zero_add,zero_add] at this
theorem neg_neg (p:Pt n d):p.neg.neg=p:=by
 apply Pt.ext<;>simp only [Pt.neg]
 grobner
theorem neg_zero:(Pt.zero:Pt n d).neg=Pt.zero:=by
 apply Pt.ext<;>simp only [Pt.neg,Pt.zero]
 grobner
theorem IW (a b c e:Pt n d):Pt.add F (Pt.add F a b) (Pt.add F c e)=Pt.add F (Pt.add F a c) (Pt.add F b e):=by
 rw [add_assoc,add_assoc,←add_assoc F b,add_comm F b c,add_assoc F c]
theorem neg_add (p q:Pt n d):(Pt.add F p q).neg=Pt.add F p.neg q.neg:=by
 apply add_left_cancel F (p:=Pt.add F p q)
 rw [add_neg,IW,add_neg,add_neg,add_zero]
def Pt.mul (k:Nat) (p:Pt n d):Pt n d:=match k with
 | 0=>Pt.zero
 | k+1=>Pt.add F (Pt.mul k p) p
theorem mul_add (a b:Nat) (p:Pt n d):Pt.mul F (a+b) p=Pt.add F (Pt.mul F a p) (Pt.mul F b p):=by
 induction b with
 | zero=>rw [Jj,Pt.mul,add_zero]
 | succ b ih=>rw [←Zu,Pt.mul,ih,Pt.mul,add_assoc]
theorem mul_one (p:Pt n d):Pt.mul F 1 p=p:=by rw [Pt.mul,Pt.mul,zero_add]
theorem mul_two (p:Pt n d):Pt.mul F 2 p=Pt.add F p p:=by rw [Pt.mul,mul_one]
theorem mul_zero (k:Nat):Pt.mul F k (Pt.zero:Pt n d)=Pt.zero:=by
 induction k with
 | zero=>rfl
 | succ k ih=>rw [Pt.mul,ih,zero_add]
theorem TG (a b:Nat) (p:Pt n d):Pt.mul F (a*b) p=Pt.mul F a (Pt.mul F b p):=by
 induction a with
 | zero=>rw [VS,Pt.mul,Pt.mul]
 | succ a ih=>rw [Nat.succ_mul,mul_add,ih,Pt.mul]
theorem mul_neg (k:Nat) (p:Pt n d):Pt.mul F k p.neg=(Pt.mul F k p).neg:=by
 induction k with
 | zero=>rw [Pt.mul,Pt.mul,neg_zero]
 | succ k ih=>rw [Pt.mul,ih,Pt.mul,neg_add]
theorem kM (a b:Nat) (p:Pt n d):Pt.mul F a (Pt.mul F b p)=Pt.mul F b (Pt.mul F a p):=by
 rw [←TG,←TG,Zj]
theorem mul_mod {l:Nat} {p:Pt n d} (hl:Pt.mul F l p=Pt.zero) (k:Nat):Pt.mul F (k%l) p=Pt.mul F k p:=by
 have h:Pt.mul F k p=Pt.mul F (l*(k/l)+k%l) p:=by rw [Zz]
 rw [h,mul_add,Zj,TG,hl,mul_zero,zero_add]
end
end Go.Cv
namespace Go.NT
section
variable {a f n q k:Nat}
theorem iM (m a:Nat):∀ (f e:Nat),pwf m a f e=pw m a f e
 | 0,_=>rfl
 | f+1,e=>by simp only [pwf,pw,iM m a f]
theorem Ix {m e:Nat} (h:e<2^f):pwf m a f e=a^e%m:=by rw [iM,sT m a f e h]
def Oz (n q k a f:Nat):Bool:=n==q*k+1&&decide (q*k<2^f)&&pwf n a f (q*k)==1&&TP (pwf n a f k+n-1) n==1
theorem DJ (hq:Pr q) (h:Oz n q k a f=true):n=q*k+1∧a^(q*k)%n=1∧TP (a^k%n+n-1) n=1:=by
 simp only [Oz,ZR,beq_iff_eq,decide_eq_true_eq] at h
 obtain ⟨⟨⟨h1,h2⟩,h3⟩,h4⟩:=h
 have h5:k<2^f:=by
  have:k≤q*k:=Nat.le_mul_of_pos_left k (by have:=hq.1; omega)
  omega
 rw [Ix h2] at h3
 rw [Ix h5] at h4
 exact ⟨h1,h3,h4⟩
theorem Wk (hq:Pr q) (h:(Oz n q k a f&&decide (2≤n)&&decide (n<q*q))=true):Pr n:=by
 simp only [ZR,decide_eq_true_eq] at h
 obtain ⟨h1,h2,h3⟩:=DJ hq h.1.1
 exact iT h.1.2 hq h1 h.2 h2 h3
theorem Bx {q2 k2 a2:Nat} (hq:Pr q) (hq2:Pr q2) (h:(Oz n q k a f&&Oz n q2 k2 a2 f&&decide (2≤n)&&decide (q≠q2)&&decide (n<(q*q2)*(q*q2)))=true):Pr n:=by
 simp only [ZR,decide_eq_true_eq] at h
 obtain ⟨h1,h2,h3⟩:=DJ hq h.1.1.1.1
 obtain ⟨h1',h2',h3'⟩:=DJ hq2 h.1.1.1.2
 exact iS h.1.1.2 hq h1 hq2 h1' h.1.2 h.2 h2 h3 h2' h3'
theorem pr1:Pr 991:=KP (f:=30) (by decide) (by decide) (by decide +kernel)
theorem pr2:Pr 103:=KP (f:=9) (by decide) (by decide) (by decide +kernel)
theorem pr3:Pr 8574133:=Bx (q:=991) (k:=8652) (a:=2) (q2:=103) (k2:=83244) (a2:=2) (f:=25) pr1 pr2 (by decide +kernel)
theorem pr4:Pr 127:=KP (f:=10) (by decide) (by decide) (by decide +kernel)
theorem pr5:Pr 1919519569386763:=Bx (q:=8574133) (k:=223873314) (a:=2) (q2:=127) (k2:=15114327318006) (a2:=2) (f:=52) pr3 pr4 (by decide +kernel)
theorem pr6:Pr 569003:=KP (f:=753) (by decide) (by decide) (by decide +kernel)
theorem pr7:Pr 2773320623:=Wk (q:=569003) (k:=4874) (a:=2) (f:=33) pr6 (by decide +kernel)
theorem pr8:Pr 72106336199:=Wk (q:=2773320623) (k:=26) (a:=2) (f:=38) pr7 (by decide +kernel)
theorem pr9:Pr 75445702479781427272750846543864801:=Bx (q:=1919519569386763) (k:=39304471641247389600) (a:=2) (q2:=72106336199) (k2:=1046311689884858398375200) (a2:=2) (f:=117) pr5 pr8 (by decide +kernel)
theorem pr10:Pr 430751:=KP (f:=655) (by decide) (by decide) (by decide +kernel)
theorem pr11:Pr 4153:=KP (f:=63) (by decide) (by decide) (by decide +kernel)
theorem pr12:Pr 31757755568855353:=Bx (q:=430751) (k:=73726481352) (a:=2) (q2:=4153) (k2:=7646943310584) (a2:=2) (f:=56) pr10 pr11 (by decide +kernel)
theorem pr13:Pr 74058212732561358302231226437062788676166966415465897661863160754340907:=Bx (q:=75445702479781427272750846543864801) (k:=981609426360740691344999861639072106) (a:=2) (q2:=31757755568855353) (k2:=2331972502653487852620185443007392165117953542933313402) (a2:=2) (f:=237) pr9 pr12 (by decide +kernel)
theorem pr14:Pr 57896044618658097711785492504343953926634992332820282019728792003956564819949:=Wk (q:=74058212732561358302231226437062788676166966415465897661863160754340907) (k:=781764) (a:=2) (f:=256) pr13 (by decide +kernel)
end
end Go.NT
namespace Go.Fp
open Go.NT Go.Cv
section
variable {a b k:Nat}
def P:Nat:=57896044618658097711785492504343953926634992332820282019728792003956564819949
theorem Hj:P=57896044618658097711785492504343953926634992332820282019728792003956564819949:=rfl
instance:NeZero P:=⟨by decide⟩
theorem sE:Pr P:=pr14
abbrev Fe:=Fin P
def fp (n:Nat):Fe:=Fin.ofNat P n
theorem Wq (n:Nat):(fp n).val=n%P:=rfl
theorem Tg:fp a=fp b↔a%P=b%P:=by
 constructor
 ·intro h; exact congrArg Fin.val h
 ·intro h; exact Fin.ext h
theorem ea (a:Fe):fp a.val=a:=Fin.ext (Qv a.isLt)
theorem YG (a:Nat):fp (a%P)=fp a:=Tg.2 (Y3 _ _)
theorem Vk (a b:Nat):fp (a+b)=fp a+fp b:=Fin.ext (by rw [Wq,Fin.val_add,Wq,Wq,←Nat.add_mod])
theorem XX (a b:Nat):fp (a*b)=fp a*fp b:=Fin.ext (by rw [Wq,Fin.val_mul,Wq,Wq,←UU])
theorem aT:fp 0=0:=rfl
theorem IJ:fp 1=1:=rfl
theorem mB:fp 2=2:=rfl
theorem uW:fp P=0:=Fin.ext (by rw [Wq,Nat.mod_self]; rfl)
theorem aU (k:Nat):fp (k*P)=0:=by rw [XX,uW]; grobner
theorem mC (h:b≤a):fp (a-b)=fp a-fp b:=by
 have h1:=Vk (a-b) b
 rw [Nat.sub_add_cancel h] at h1
 grobner
def pow (a:Fe) (k:Nat):Fe:=match k with
 | 0=>1
 | k+1=>pow a k*a
theorem Iy (a:Fe):∀ k,(pow a k).val=a.val^k%P
 | 0=>rfl
 | k+1=>by rw [pow,Fin.val_mul,Iy a k,Ze,B6]
theorem pow_add (a:Fe) (j:Nat):∀ k,pow a (j+k)=pow a j*pow a k
 | 0=>by rw [Jj]; simp only [pow]; grobner
 | k+1=>by rw [←Zu,pow,pow_add a j k,pow]; grobner
theorem pow_mul (a:Fe) (j:Nat):∀ k,pow a (j*k)=pow (pow a j) k
 | 0=>by rw [Nat.mul_zero]; rfl
 | k+1=>by rw [Nat.mul_succ,pow_add,pow_mul a j k,pow]
theorem pow_one (a:Fe):pow a 1=a:=by simp only [pow]; grobner
theorem pow_two (a:Fe):pow a 2=a*a:=by simp only [pow]; grobner
theorem one_pow:∀ k,pow 1 k=1
 | 0=>rfl
 | k+1=>by rw [pow,one_pow k]; grobner
theorem zero_pow (hk:0<k):pow 0 k=0:=by
 obtain ⟨j,rfl⟩:∃ j,k=j+1:=⟨k-1,by omega⟩
 rw [pow]; grobner
theorem tV (a k:Nat):pow (fp a) k=fp (a^k):=Fin.ext (by rw [Iy,Wq,Wq,←wS])
theorem ndvd {a:Fe} (h:a≠0):¬ P∣a.val:=fun hd=>by
 have h1:=MY hd
 rw [Qv a.isLt] at h1
 exact h (Fin.ext h1)
theorem RA {a:Fe} (h:a≠0):pow a (P-1)=1:=Fin.ext (by rw [Iy,Go.NT.RA sE (ndvd h)]; rfl)
def iv (a:Fe):Fe:=pow a (P-2)
theorem KL {a:Fe} (h:a≠0):a*iv a=1:=by
 have h1:=RA h
 rw [show P-1=(P-2)+1 from rfl,pow] at h1
 unfold iv
 rw [←h1]; grobner
theorem TI:iv 0=0:=zero_pow (by decide)
def dN:Nat:=37095705934669439343138083508754565189542113879843219016388785533085940283555
def iN:Nat:=19681161376707505956807079304988542015446066515923890162744021073123829784752
def d:Fe:=fp dN
def iQ:Fe:=fp iN
theorem Ax {r f:Nat} (hk:k<2^f) (h:pwf P a f k=r):pow (fp a) k=fp r:=by
 rw [tV,←h,Ix hk,YG]
theorem Ps:iQ*iQ = -1:=by
 have h:iQ*iQ+1=0:=by
  unfold iQ
  rw [←XX,←IJ,←Vk]
  exact Fin.ext (by rw [Wq]; decide +kernel)
 grobner
theorem Yr:(1:Fe)≠0:=fun h=>by
 have:=congrArg Fin.val h
 revert this
 decide +kernel
theorem gg:(2:Fe)≠0:=fun h=>by
 have:=congrArg Fin.val h
 revert this
 decide +kernel
theorem Ay (r:Fe):pow (r*r) ((P-1)/2)=1∨r=0:=by
 by_cases h:r=0
 ·exact .inr h
 ·left
  rw [←pow_two,←pow_mul,show 2*((P-1)/2)=P-1 from by decide +kernel,RA h]
theorem uN:pow d ((P-1)/2)=fp (P-1):=Ax (f:=256) (by decide +kernel) (by decide +kernel)
theorem nosq (r:Fe):r*r≠d:=fun h=>by
 have h1:=uN
 rcases Ay r with h2 | h2
 ·rw [h,h1] at h2
  have:=congrArg Fin.val h2
  revert this
  decide +kernel
 ·subst h2
  have h3:d=0:=by rw [←h]; grobner
  have:=congrArg Fin.val h3
  revert this
  decide +kernel
theorem fld:Fld P iv d iQ:=⟨fun _ h=>KL h,TI,Yr,gg,Ps,nosq⟩
end
end Go.Fp
namespace Go.Ev.YtpgphpkjlpkcbaaGreat
open Go Go.Ev
attribute [local congr] JC JV JB JW Jz
set_option maxRecDepth 100000
variable {x n y x0 x1 x2 x3 x4 V b c a i:Nat} {k:List Nat} {R:Ob}
theorem N8 (hx:x<18446744073709551616) (hy:y<18446744073709551616) :
  Z5 T 158 [.int .u64 x,.int .u64 y] []=some (.tuple #[.int .u64 ((x*y/18446744073709551616:Nat):Int),.int .u64 ((x*y%18446744073709551616:Nat):Int)],[],[]):=by
 have key:∀ a b:Nat,a=x*y/18446744073709551616→b=x*y%18446744073709551616→(some (.tuple #[.int .u64 (a:Int),.int .u64 (b:Int)],[],[]):Option (Value×List Ob×List Nat))=some (.tuple #[.int .u64 ((x*y/18446744073709551616:Nat):Int),.int .u64 ((x*y%18446744073709551616:Nat):Int)],[],[]):=by
  rintro a b rfl rfl; rfl
 rw [Zb (fn:=a91) rfl]
 simp only [a91,Qs,quiet,cF,Ug,ZI,↓pQ,reduceCtorEq,seval,-Qb,cL,cU]
 apply key
 ·have e:x*y=(x/4294967296*(y/4294967296))*18446744073709551616+(x/4294967296*(y%4294967296)+x%4294967296*(y/4294967296))*4294967296+x%4294967296*(y%4294967296):=by
   conv=>lhs; rw [←Zz x 4294967296,←Zz y 4294967296]
   generalize x/4294967296=x1
   generalize x%4294967296=x0
   generalize y/4294967296=y1
   generalize y%4294967296=y0
   grind
  have b1:x/4294967296≤4294967295:=by omega
  have b2:x%4294967296≤4294967295:=by omega
  have b3:y/4294967296≤4294967295:=by omega
  have b4:y%4294967296≤4294967295:=by omega
  have c1:=JU b1 b3
  have c2:=JU b1 b4
  have c3:=JU b2 b3
  have c4:=JU b2 b4
  rw [e]
  clear e
  generalize x/4294967296*(y/4294967296)=p11 at *
  generalize x/4294967296*(y%4294967296)=p10 at *
  generalize x%4294967296*(y/4294967296)=p01 at *
  generalize x%4294967296*(y%4294967296)=p00 at *
  omega
 ·rfl
def wV (n:Nat):Value := .agg #[.int .u64 ((n/18446744073709551616:Nat):Int),.int .u64 ((n%18446744073709551616:Nat):Int)]
theorem rf_wV (n:Nat):rf (wV n)=true:=rfl
theorem Cr (hc:c≤1):Z5 T 159 [.int .u64 x,.int .u64 y,.int .u64 c] []=some (.tuple #[.int .u64 ((x+y+c)%18446744073709551616:Nat),.int .u64 ((x+y+c)/18446744073709551616:Nat)],[],[]):=by
 rw [Z5.eq_def]
 have h1:T.fn 159=none:=rfl
 have h2:([.int .u64 (x:Int),.int .u64 (y:Int),.int .u64 (c:Int)]:List Value).all rf=true:=rfl
 have h3:T.ext 159 [.int .u64 x,.int .u64 y,.int .u64 c]=some (.tuple #[.int .u64 ((x+y+c)%18446744073709551616:Nat),.int .u64 ((x+y+c)/18446744073709551616:Nat)]):=by
  have h4:(c:Int).toNat≤1:=by omega
  simp [T,qZ,hc]
 rw [h1]
 simp only [h2,if_true,h3,Qo]
theorem bF (hx:x<18446744073709551616) (hy:y<18446744073709551616):∃ l,Z5 T 127 [.int .u64 x,.int .u64 y] []=some (wV (x*y),l,[]):=by
 have h:=N8 hx hy
 have hf:∀ a b:Int,fillL [Value.int .u64 0,Value.int .u64 0] [(0,1,.int .u64 a),(1,1,.int .u64 b)]=some [.int .u64 a,.int .u64 b]:=fun _ _=>rfl
 apply Jm
 rw [Zb (fn:=a77) rfl]
 simp only [a77,Qs,quiet,cF,Ug,ZI,↓pQ,reduceCtorEq,seval,-Qb,cL,cJ,Zu,h,hf]
 rfl
theorem eY (hx:x<18446744073709551616) (hy:y<18446744073709551616) (hn:n+x*y<340282366920938463463374607431768211456):∃ l,Z5 T 128 [wV n,.int .u64 x,.int .u64 y] []=some (wV (n+x*y),l,[]):=by
 have h:=N8 hx hy
 have hf:∀ a b:Int,fillL [Value.int .u64 0,Value.int .u64 0] [(0,1,.int .u64 a),(1,1,.int .u64 b)]=some [.int .u64 a,.int .u64 b]:=fun _ _=>rfl
 have a1:=Cr (x:=n%18446744073709551616) (y:=x*y%18446744073709551616) (c:=0) (by decide)
 have a2:=Cr (x:=n/18446744073709551616) (y:=x*y/18446744073709551616) (c:=(n%18446744073709551616+x*y%18446744073709551616)/18446744073709551616) (by omega)
 simp only [QB,Jj] at a1
 have key:∀ (a b:Nat) (l:List Ob),a=(n+x*y)/18446744073709551616→b=(n+x*y)%18446744073709551616→(some (.agg #[.int .u64 (a:Int),.int .u64 (b:Int)],l,[]):Option (Value×List Ob×List Nat))=some (wV (n+x*y),l,[]):=by
  rintro a b l rfl rfl; rfl
 apply Jm
 rw [Zb (fn:=a78) rfl]
 simp only [wV,a78,Qs,quiet,cF,Ug,ZI,↓pQ,reduceCtorEq,seval,-Qb,cL,cJ,Zu,h,hf,a1,a2]
 apply key
 ·generalize x*y=p at *
  omega
 ·generalize x*y=p at *
  omega
theorem gE (hn:n<41538374868278621028243970633760768):∃ l,Z5 T 129 [wV n] []=some (.tuple #[.int .u64 ((n/2251799813685248:Nat):Int),.int .u64 ((n%2251799813685248:Nat):Int)],l,[]):=by
 have key:∀ (a b:Nat) (l:List Ob),a=n/2251799813685248→b=n%2251799813685248→(some (.tuple #[.int .u64 (a:Int),.int .u64 (b:Int)],l,[]):Option (Value×List Ob×List Nat))=some (.tuple #[.int .u64 ((n/2251799813685248:Nat):Int),.int .u64 ((n%2251799813685248:Nat):Int)],l,[]):=by
  rintro a b l rfl rfl; rfl
 have hor:=fun a b:Nat=>n_or .u64 rfl a b
 apply Jm
 rw [Zb (fn:=a79) rfl]
 simp only [wV,a79,Qs,quiet,cF,Ug,ZI,↓pQ,reduceCtorEq,seval,-Qb,cL,cJ,Zu,cU,hor]
 apply key
 ·have h1:n/18446744073709551616<2251799813685248:=by omega
  have e1:n/18446744073709551616*8192%18446744073709551616%2^IntKind.u64.bits=n/18446744073709551616*2^13:=by
   rw [show (2:Nat)^IntKind.u64.bits=18446744073709551616 from rfl]; omega
  have e2:n%18446744073709551616/2251799813685248%2^IntKind.u64.bits=n%18446744073709551616/2251799813685248:=by
   rw [show (2:Nat)^IntKind.u64.bits=18446744073709551616 from rfl]; omega
  rw [e1,e2,YD (by omega)]
  omega
 ·omega
theorem qu (hn:n+x<340282366920938463463374607431768211456) (hx:x<18446744073709551616):∃ l,Z5 T 130 [wV n,.int .u64 x] []=some (wV (n+x),l,[]):=by
 have hf:∀ a b:Int,fillL [Value.int .u64 0,Value.int .u64 0] [(0,1,.int .u64 a),(1,1,.int .u64 b)]=some [.int .u64 a,.int .u64 b]:=fun _ _=>rfl
 have a1:=Cr (x:=n%18446744073709551616) (y:=x) (c:=0) (by decide)
 simp only [QB,Jj] at a1
 have key:∀ (a b:Nat) (l:List Ob),a=(n+x)/18446744073709551616→b=(n+x)%18446744073709551616→(some (.agg #[.int .u64 (a:Int),.int .u64 (b:Int)],l,[]):Option (Value×List Ob×List Nat))=some (wV (n+x),l,[]):=by
  rintro a b l rfl rfl; rfl
 apply Jm
 rw [Zb (fn:=a80) rfl]
 simp only [wV,a80,Qs,quiet,cF,Ug,ZI,↓pQ,reduceCtorEq,seval,-Qb,cL,cJ,Zu,cU,hf,a1]
 apply key
 ·omega
 ·omega
def eV (l:List Nat):Value := .agg (ns .u64 l).toArray
theorem QV (l:List Nat):rf (eV l)=true:=by
 show (ns .u64 l).toArray.toList.all Z4=true
 rw [show (ns .u64 l).toArray.toList=ns .u64 l from rfl]
 simp [ns,Z4]
theorem ag (k:IntKind) (l:List Nat):rf (.agg (ns k l).toArray)=true:=by
 show (ns k l).toArray.toList.all Z4=true
 rw [show (ns k l).toArray.toList=ns k l from rfl]
 simp [ns,Z4]
structure El (l:List Nat) (b:Nat):Prop where
 len:l.length=5
 lt:∀ x∈l,x<b
theorem El.five {l:List Nat} {b:Nat} (h:El l b):∃ x0 x1 x2 x3 x4,l=[x0,x1,x2,x3,x4]∧x0<b∧x1<b∧x2<b∧x3<b∧x4<b:=by
 obtain ⟨h1,h2⟩:=h
 match l,h1 with
 | [x0,x1,x2,x3,x4],_=>exact ⟨x0,x1,x2,x3,x4,rfl,h2 _ (by simp),h2 _ (by simp),h2 _ (by simp),h2 _ (by simp),h2 _ (by simp)⟩
theorem El.mk5 {x0 x1 x2 x3 x4 b:Nat} (h0:x0<b) (h1:x1<b) (h2:x2<b) (h3:x3<b) (h4:x4<b):El [x0,x1,x2,x3,x4] b:=⟨rfl,by simp; exact ⟨h0,h1,h2,h3,h4⟩⟩
def v51 (l:List Nat):Nat:=num 2251799813685248 l
def fe (l:List Nat):Go.Fp.Fe:=Go.Fp.fp (v51 l)
def Ul (x0 x1 x2 x3 x4:Nat):List Nat :=
 let c0:=x0/2251799813685248
 let c1:=(x1+c0)/2251799813685248
 let c2:=(x2+c1)/2251799813685248
 let c3:=(x3+c2)/2251799813685248
 let c4:=(x4+c3)/2251799813685248
 [x0%2251799813685248+19*c4,(x1+c0)%2251799813685248,(x2+c1)%2251799813685248,(x3+c2)%2251799813685248,(x4+c3)%2251799813685248]
theorem M8:∃ k,v51 (Ul x0 x1 x2 x3 x4)+k*Go.Fp.P=v51 [x0,x1,x2,x3,x4]:=by
 refine ⟨(x4+(x3+(x2+(x1+x0/2251799813685248)/2251799813685248)/2251799813685248)/2251799813685248)/2251799813685248,?_⟩
 simp only [v51,Ul,num,Go.Fp.Hj]
 omega
theorem ta {k:Nat} (h:a+k*Go.Fp.P=b):Go.Fp.fp a=Go.Fp.fp b:=by
 rw [←h,Go.Fp.Vk,Go.Fp.aU]; grobner
theorem S6 (h0:x0<9223372036854775808) (h1:x1<9223372036854775808) (h2:x2<9223372036854775808) (h3:x3<9223372036854775808) (h4:x4<9223372036854775808) :
  ∃ l,Z5 T 131 [eV [x0,x1,x2,x3,x4]] []=some (eV (Ul x0 x1 x2 x3 x4),l,[]):=by
 have key:∀ (a b c d e:Nat) (l:List Ob),[a,b,c,d,e]=Ul x0 x1 x2 x3 x4→(some (.agg [.int .u64 (a:Int),.int .u64 (b:Int),.int .u64 (c:Int),.int .u64 (d:Int),.int .u64 (e:Int)].toArray,l,[]):Option (Value×List Ob×List Nat))=some (eV (Ul x0 x1 x2 x3 x4),l,[]):=by
  intro a b c d e l h
  rw [←h]; rfl
 have hz:Qa 5 (Value.int .u64 0)=[.int .u64 0,.int .u64 0,.int .u64 0,.int .u64 0,.int .u64 0]:=rfl
 apply Jm
 rw [Zb (fn:=a81) rfl]
 simp only [eV,Wb,G8,a81,Qs,quiet,cF,Ug,ZI,↓pQ,reduceCtorEq,seval,-Qb,cL,cJ,Zu,cU,hz,J9,Xc,nL]
 apply key
 simp only [Ul,List.cons.injEq,and_true]
 rw [show x0%18446744073709551616=x0 by omega]
 have b0:x0/2251799813685248<8192:=by omega
 have hx0:x0%2251799813685248<2251799813685248:=by omega
 generalize x0/2251799813685248=c0 at *
 generalize x0%2251799813685248=r0 at *
 rw [show (x1+c0)%18446744073709551616=x1+c0 by omega]
 have b1:(x1+c0)/2251799813685248<8192:=by omega
 generalize (x1+c0)/2251799813685248=c1 at *
 rw [show (x2+c1)%18446744073709551616=x2+c1 by omega]
 have b2:(x2+c1)/2251799813685248<8192:=by omega
 generalize (x2+c1)/2251799813685248=c2 at *
 rw [show (x3+c2)%18446744073709551616=x3+c2 by omega]
 have b3:(x3+c2)/2251799813685248<8192:=by omega
 generalize (x3+c2)/2251799813685248=c3 at *
 rw [show (x4+c3)%18446744073709551616=x4+c3 by omega]
 have b4:(x4+c3)/2251799813685248<8192:=by omega
 generalize (x4+c3)/2251799813685248=c4 at *
 refine ⟨by omega,rfl,rfl,rfl,rfl⟩
theorem qq (B P x0 x1 x2 x3 x4 y0 y1 y2 y3 y4:Nat) (h:B*B*B*B*B=P+19) :
  (x0+B*(x1+B*(x2+B*(x3+B*(x4+B*0)))))*(y0+B*(y1+B*(y2+B*(y3+B*(y4+B*0))))) =
   (x0*y0+19*x1*y4+19*x2*y3+19*x3*y2+19*x4*y1)+B*((x0*y1+x1*y0+19*x2*y4+19*x3*y3+19*x4*y2)+B*((x0*y2+x1*y1+x2*y0+19*x3*y4+19*x4*y3)+B*((x0*y3+x1*y2+x2*y1+x3*y0+19*x4*y4)+B*(x0*y4+x1*y3+x2*y2+x3*y1+x4*y0)))) +
   (x1*y4+x2*y3+x3*y2+x4*y1+B*(x2*y4+x3*y3+x4*y2+B*(x3*y4+x4*y3+B*(x4*y4))))*P:=by grind
theorem Hr (hx:x<18446744073709551616) (hy:y<18446744073709551616):QK T 127 [.int .u64 x,.int .u64 y]=some (wV (x*y)):=X5 (bF hx hy)
theorem XP (hx:x<18446744073709551616) (hy:y<18446744073709551616) (hn:n+x*y<340282366920938463463374607431768211456):QK T 128 [wV n,.int .u64 x,.int .u64 y]=some (wV (n+x*y)):=X5 (eY hx hy hn)
theorem Ht (hn:n<41538374868278621028243970633760768):QK T 129 [wV n]=some (.tuple #[.int .u64 ((n/2251799813685248:Nat):Int),.int .u64 ((n%2251799813685248:Nat):Int)]):=X5 (gE hn)
theorem uJ (hn:n+x<340282366920938463463374607431768211456) (hx:x<18446744073709551616):QK T 130 [wV n,.int .u64 x]=some (wV (n+x)):=X5 (qu hn hx)
theorem By (h0:x0<9223372036854775808) (h1:x1<9223372036854775808) (h2:x2<9223372036854775808) (h3:x3<9223372036854775808) (h4:x4<9223372036854775808):QK T 131 [eV [x0,x1,x2,x3,x4]]=some (eV (Ul x0 x1 x2 x3 x4)):=X5 (S6 h0 h1 h2 h3 h4)
theorem Uh {d e:Nat} (ha:a<2^109) (hb:b<2^109) (hc:c<2^109) (hd:d<2^109) (he:e<2^109):a+b+c+d+e<2^112:=by omega
theorem J1 (hx:x<2^57) (hy:y<2^52):x*y<2^109:=by
 rw [show (2:Nat)^109=2^57*2^52 from rfl]
 exact Nat.mul_lt_mul'' hx hy
theorem qp {s0 s1 s2 s3 s4:Nat} (h0:s0<2^112) (h1:s1<2^112) (h2:s2<2^112) (h3:s3<2^112) (h4:s4<2^112):∃ r,El r (2^52)∧(∃ k,v51 r+k*Go.Fp.P=s0+2251799813685248*(s1+2251799813685248*(s2+2251799813685248*(s3+2251799813685248*s4)))) ∧
  r=Ul ((19*(s4/2251799813685248)+s0%2251799813685248)%2251799813685248) (s1%2251799813685248+s0/2251799813685248+(19*(s4/2251799813685248)+s0%2251799813685248)/2251799813685248) (s2%2251799813685248+s1/2251799813685248) (s3%2251799813685248+s2/2251799813685248) (s4%2251799813685248+s3/2251799813685248):=by
 refine ⟨_,?_,?_,rfl⟩
 ·simp only [Ul]
  apply El.mk5<;>omega
 ·obtain ⟨k,hk⟩:=M8 (x0:=(19*(s4/2251799813685248)+s0%2251799813685248)%2251799813685248) (x1:=s1%2251799813685248+s0/2251799813685248+(19*(s4/2251799813685248)+s0%2251799813685248)/2251799813685248) (x2:=s2%2251799813685248+s1/2251799813685248) (x3:=s3%2251799813685248+s2/2251799813685248) (x4:=s4%2251799813685248+s3/2251799813685248)
  refine ⟨k+s4/2251799813685248,?_⟩
  rw [Zl,←Zu,hk]
  simp only [v51,num,Go.Fp.Hj]
  omega
theorem Xe {x y:List Nat} (hx:El x (2^52)) (hy:El y (2^52)):∃ r,QK T 76 [eV x,eV y]=some (eV r)∧El r (2^52)∧fe r=fe x*fe y:=by
 obtain ⟨x0,x1,x2,x3,x4,rfl,a0,a1,a2,a3,a4⟩:=hx.five
 obtain ⟨y0,y1,y2,y3,y4,rfl,b0,b1,b2,b3,b4⟩:=hy.five
 have m1:19*x1%18446744073709551616=19*x1:=by omega
 have m2:19*x2%18446744073709551616=19*x2:=by omega
 have m3:19*x3%18446744073709551616=19*x3:=by omega
 have m4:19*x4%18446744073709551616=19*x4:=by omega
 have t00:=Hr (x:=x0) (y:=y0) (by omega) (by omega)
 have p00:x0*y0<2^109:=J1 (by omega) (by omega)
 have p01:19*x1*y4<2^109:=J1 (by omega) (by omega)
 have p02:19*x2*y3<2^109:=J1 (by omega) (by omega)
 have p03:19*x3*y2<2^109:=J1 (by omega) (by omega)
 have p04:19*x4*y1<2^109:=J1 (by omega) (by omega)
 have t01:=XP (n:=x0*y0) (x:=19*x1) (y:=y4) (by omega) (by omega) (by omega)
 have t02:=XP (n:=x0*y0+19*x1*y4) (x:=19*x2) (y:=y3) (by omega) (by omega) (by omega)
 have t03:=XP (n:=x0*y0+19*x1*y4+19*x2*y3) (x:=19*x3) (y:=y2) (by omega) (by omega) (by omega)
 have t04:=XP (n:=x0*y0+19*x1*y4+19*x2*y3+19*x3*y2) (x:=19*x4) (y:=y1) (by omega) (by omega) (by omega)
 have q0:=Uh p00 p01 p02 p03 p04
 have t10:=Hr (x:=x0) (y:=y1) (by omega) (by omega)
 have p10:x0*y1<2^109:=J1 (by omega) (by omega)
 have p11:x1*y0<2^109:=J1 (by omega) (by omega)
 have p12:19*x2*y4<2^109:=J1 (by omega) (by omega)
 have p13:19*x3*y3<2^109:=J1 (by omega) (by omega)
 have p14:19*x4*y2<2^109:=J1 (by omega) (by omega)
 have t11:=XP (n:=x0*y1) (x:=x1) (y:=y0) (by omega) (by omega) (by omega)
 have t12:=XP (n:=x0*y1+x1*y0) (x:=19*x2) (y:=y4) (by omega) (by omega) (by omega)
 have t13:=XP (n:=x0*y1+x1*y0+19*x2*y4) (x:=19*x3) (y:=y3) (by omega) (by omega) (by omega)
 have t14:=XP (n:=x0*y1+x1*y0+19*x2*y4+19*x3*y3) (x:=19*x4) (y:=y2) (by omega) (by omega) (by omega)
 have q1:=Uh p10 p11 p12 p13 p14
 have t20:=Hr (x:=x0) (y:=y2) (by omega) (by omega)
 have p20:x0*y2<2^109:=J1 (by omega) (by omega)
 have p21:x1*y1<2^109:=J1 (by omega) (by omega)
 have p22:x2*y0<2^109:=J1 (by omega) (by omega)
 have p23:19*x3*y4<2^109:=J1 (by omega) (by omega)
 have p24:19*x4*y3<2^109:=J1 (by omega) (by omega)
 have t21:=XP (n:=x0*y2) (x:=x1) (y:=y1) (by omega) (by omega) (by omega)
 have t22:=XP (n:=x0*y2+x1*y1) (x:=x2) (y:=y0) (by omega) (by omega) (by omega)
 have t23:=XP (n:=x0*y2+x1*y1+x2*y0) (x:=19*x3) (y:=y4) (by omega) (by omega) (by omega)
 have t24:=XP (n:=x0*y2+x1*y1+x2*y0+19*x3*y4) (x:=19*x4) (y:=y3) (by omega) (by omega) (by omega)
 have q2:=Uh p20 p21 p22 p23 p24
 have t30:=Hr (x:=x0) (y:=y3) (by omega) (by omega)
 have p30:x0*y3<2^109:=J1 (by omega) (by omega)
 have p31:x1*y2<2^109:=J1 (by omega) (by omega)
 have p32:x2*y1<2^109:=J1 (by omega) (by omega)
 have p33:x3*y0<2^109:=J1 (by omega) (by omega)
 have p34:19*x4*y4<2^109:=J1 (by omega) (by omega)
 have t31:=XP (n:=x0*y3) (x:=x1) (y:=y2) (by omega) (by omega) (by omega)
 have t32:=XP (n:=x0*y3+x1*y2) (x:=x2) (y:=y1) (by omega) (by omega) (by omega)
 have t33:=XP (n:=x0*y3+x1*y2+x2*y1) (x:=x3) (y:=y0) (by omega) (by omega) (by omega)
 have t34:=XP (n:=x0*y3+x1*y2+x2*y1+x3*y0) (x:=19*x4) (y:=y4) (by omega) (by omega) (by omega)
 have q3:=Uh p30 p31 p32 p33 p34
 have t40:=Hr (x:=x0) (y:=y4) (by omega) (by omega)
 have p40:x0*y4<2^109:=J1 (by omega) (by omega)
 have p41:x1*y3<2^109:=J1 (by omega) (by omega)
 have p42:x2*y2<2^109:=J1 (by omega) (by omega)
 have p43:x3*y1<2^109:=J1 (by omega) (by omega)
 have p44:x4*y0<2^109:=J1 (by omega) (by omega)
 have t41:=XP (n:=x0*y4) (x:=x1) (y:=y3) (by omega) (by omega) (by omega)
 have t42:=XP (n:=x0*y4+x1*y3) (x:=x2) (y:=y2) (by omega) (by omega) (by omega)
 have t43:=XP (n:=x0*y4+x1*y3+x2*y2) (x:=x3) (y:=y1) (by omega) (by omega) (by omega)
 have t44:=XP (n:=x0*y4+x1*y3+x2*y2+x3*y1) (x:=x4) (y:=y0) (by omega) (by omega) (by omega)
 have q4:=Uh p40 p41 p42 p43 p44
 obtain ⟨r,hr1,⟨k,hr2⟩,hr3⟩:=qp q0 q1 q2 q3 q4
 have d0:=Ht (n:=x0*y0+19*x1*y4+19*x2*y3+19*x3*y2+19*x4*y1) (by omega)
 have d1:=Ht (n:=x0*y1+x1*y0+19*x2*y4+19*x3*y3+19*x4*y2) (by omega)
 have d2:=Ht (n:=x0*y2+x1*y1+x2*y0+19*x3*y4+19*x4*y3) (by omega)
 have d3:=Ht (n:=x0*y3+x1*y2+x2*y1+x3*y0+19*x4*y4) (by omega)
 have d4:=Ht (n:=x0*y4+x1*y3+x2*y2+x3*y1+x4*y0) (by omega)
 refine ⟨r,?_,hr1,?_⟩
 ·rw [hr3]
  clear hr2 hr3
  generalize x0*y0+19*x1*y4+19*x2*y3+19*x3*y2+19*x4*y1=s0 at *
  generalize x0*y1+x1*y0+19*x2*y4+19*x3*y3+19*x4*y2=s1 at *
  generalize x0*y2+x1*y1+x2*y0+19*x3*y4+19*x4*y3=s2 at *
  generalize x0*y3+x1*y2+x2*y1+x3*y0+19*x4*y4=s3 at *
  generalize x0*y4+x1*y3+x2*y2+x3*y1+x4*y0=s4 at *
  have u1:=Hr (x:=19) (y:=s4/2251799813685248) (by omega) (by omega)
  have u2:=uJ (n:=19*(s4/2251799813685248)) (x:=s0%2251799813685248) (by omega) (by omega)
  have u3:=Ht (n:=19*(s4/2251799813685248)+s0%2251799813685248) (by omega)
  have w1:(s1%2251799813685248+s0/2251799813685248)%18446744073709551616=s1%2251799813685248+s0/2251799813685248:=by omega
  have w2:(s1%2251799813685248+s0/2251799813685248+(19*(s4/2251799813685248)+s0%2251799813685248)/2251799813685248)%18446744073709551616=s1%2251799813685248+s0/2251799813685248+(19*(s4/2251799813685248)+s0%2251799813685248)/2251799813685248:=by omega
  have w3:(s2%2251799813685248+s1/2251799813685248)%18446744073709551616=s2%2251799813685248+s1/2251799813685248:=by omega
  have w4:(s3%2251799813685248+s2/2251799813685248)%18446744073709551616=s3%2251799813685248+s2/2251799813685248:=by omega
  have w5:(s4%2251799813685248+s3/2251799813685248)%18446744073709551616=s4%2251799813685248+s3/2251799813685248:=by omega
  have v1:=By (x0:=(19*(s4/2251799813685248)+s0%2251799813685248)%2251799813685248) (x1:=s1%2251799813685248+s0/2251799813685248+(19*(s4/2251799813685248)+s0%2251799813685248)/2251799813685248) (x2:=s2%2251799813685248+s1/2251799813685248) (x3:=s3%2251799813685248+s2/2251799813685248) (x4:=s4%2251799813685248+s3/2251799813685248) (by omega) (by omega) (by omega) (by omega) (by omega)
  simp only [Xk] at u1
  have hz:Qa 5 (Value.int .u64 0)=[.int .u64 0,.int .u64 0,.int .u64 0,.int .u64 0,.int .u64 0]:=rfl
  have hf:∀ a b c d e:Int,fillL [Value.int .u64 0,.int .u64 0,.int .u64 0,.int .u64 0,.int .u64 0] [(0,1,.int .u64 a),(1,1,.int .u64 b),(2,1,.int .u64 c),(3,1,.int .u64 d),(4,1,.int .u64 e)]=some [.int .u64 a,.int .u64 b,.int .u64 c,.int .u64 d,.int .u64 e]:=fun _ _ _ _ _=>rfl
  have hf5:∀ a b c d e:Int,fillL [Value.int .u64 0,.int .u64 0,.int .u64 0,.int .u64 0,.int .u64 0] [(0,5,.agg [.int .u64 a,.int .u64 b,.int .u64 c,.int .u64 d,.int .u64 e].toArray)]=some [.int .u64 a,.int .u64 b,.int .u64 c,.int .u64 d,.int .u64 e]:=fun _ _ _ _ _=>rfl
  have hr5:∀ a b c d e:Int,rf (.agg [.int .u64 a,.int .u64 b,.int .u64 c,.int .u64 d,.int .u64 e].toArray)=true:=fun _ _ _ _ _=>rfl
  have hw:∀ n,(wV n).cells.size=2:=fun _=>rfl
  have hw2:∀ n,(wV n).cells.toList=[.int .u64 ((n/18446744073709551616:Nat):Int),.int .u64 ((n%18446744073709551616:Nat):Int)]:=fun _=>rfl
  have hw3:∀ n,Z7 (wV n)=true:=fun _=>rfl
  have hw4:∀ n,Value.agg [.int .u64 ((n/18446744073709551616:Nat):Int),.int .u64 ((n%18446744073709551616:Nat):Int)].toArray=wV n:=fun _=>rfl
  simp only [eV,Wb,G8] at v1 ⊢
  generalize hc:ns .u64 (Ul ((19*(s4/2251799813685248)+s0%2251799813685248)%2251799813685248) (s1%2251799813685248+s0/2251799813685248+(19*(s4/2251799813685248)+s0%2251799813685248)/2251799813685248) (s2%2251799813685248+s1/2251799813685248) (s3%2251799813685248+s2/2251799813685248) (s4%2251799813685248+s3/2251799813685248))=C at *
  have hC:C.length=5:=by rw [←hc]; rfl
  have hCr:rf (.agg C.toArray)=true:=by rw [←hc]; exact ag _ _
  apply QI (fn:=a51) rfl
  simp only [a51,Qs,quiet,cF,JE,ZI,↓pQ,reduceCtorEq,seval,-Qb,cL,cJ,cU,hz,m1,m2,m3,m4,t00,t01,t02,t03,t04,t10,t11,t12,t13,t14,t20,t21,t22,t23,t24,t30,t31,t32,t33,t34,t40,t41,t42,t43,t44,d0,d1,d2,d3,d4,u1,u2,u3,w1,w2,w3,w4,w5,hf,hf5,hr5,v1,rf_wV,hw,hw2,hw3,hw4,hC,hCr]
  rfl
 ·unfold fe
  rw [←Go.Fp.XX]
  have h:=qq 2251799813685248 Go.Fp.P x0 x1 x2 x3 x4 y0 y1 y2 y3 y4 (by rw [Go.Fp.Hj])
  have e:v51 [x0,x1,x2,x3,x4]*v51 [y0,y1,y2,y3,y4]=v51 r+(k+(x1*y4+x2*y3+x3*y2+x4*y1+2251799813685248*(x2*y4+x3*y3+x4*y2+2251799813685248*(x3*y4+x4*y3+2251799813685248*(x4*y4)))))*Go.Fp.P:=by
   simp only [v51,num] at hr2 h ⊢
   rw [h,←hr2,Zu,←Zl]
  exact ta e.symm
theorem Tu {w q s:Nat} (hs:s<w):V/(2^w)^q%2^w/2^s%2=V/2^(w*q+s)%2:=by
 have h1:(2:Nat)^w=2^s*2^(w-s):=by rw [←JD]; congr 1; omega
 conv=>lhs; rw [show V/(2^w)^q%2^w=V/(2^w)^q%(2^s*2^(w-s)) from by rw [←h1]]
 have h2:(2:Nat)∣2^(w-s):=by
  obtain ⟨m,hm⟩:∃ m,w-s=m+1:=⟨w-s-1,by omega⟩
  rw [hm,Ze]
  exact OQ 2 _
 rw [Nat.mod_mul_right_div_self,Wm _ h2,QT,←Ja,←JD]
theorem OB (V i:Nat):V%2^i+V/2^i%2*2^i=V%2^(i+1):=by
 rw [Nat.mod_pow_succ,Zj (2^i)]
theorem US (V i:Nat):V/2^i%2<2:=Q5 _ (by decide)
theorem BK (h:n≤b):(2:Int)^min n b=((2^n:Nat):Int):=by rw [Zy h]; simp
theorem Hu (hn:n<4294967296):QK T 73 [.int .u32 n]=some (eV [n,0,0,0,0]):=by
 have hz:Qa 5 (Value.int .u64 0)=[.int .u64 0,.int .u64 0,.int .u64 0,.int .u64 0,.int .u64 0]:=rfl
 have hf:∀ a:Int,fillL [Value.int .u64 0,.int .u64 0,.int .u64 0,.int .u64 0,.int .u64 0] [(0,1,.int .u64 a)]=some [.int .u64 a,.int .u64 0,.int .u64 0,.int .u64 0,.int .u64 0]:=fun _=>rfl
 have hf5:∀ a b c d e:Int,fillL [Value.int .u64 0,.int .u64 0,.int .u64 0,.int .u64 0,.int .u64 0] [(0,5,.agg [.int .u64 a,.int .u64 b,.int .u64 c,.int .u64 d,.int .u64 e].toArray)]=some [.int .u64 a,.int .u64 b,.int .u64 c,.int .u64 d,.int .u64 e]:=fun _ _ _ _ _=>rfl
 have hm:n%18446744073709551616=n:=by omega
 apply QI (fn:=a50) rfl
 simp only [a50,Qs,quiet,cF,JE,ZI,↓pQ,reduceCtorEq,seval,-Qb,cL,cJ,cU,hz,hf,hf5,hm,eV,Wb,G8]
 rfl
theorem Bh (hn:n<2^52):El [n,0,0,0,0] (2^52):=El.mk5 hn (by decide) (by decide) (by decide) (by decide)
theorem Bg (n:Nat):fe [n,0,0,0,0]=Go.Fp.fp n:=by simp [fe,v51,num]
def ofX (V i:Nat):List Nat:=dig (2^51) 5 (V%2^i)
def Nz (k x:List Nat) (i:Nat) (ex:Env):St:=⟨[(1,.pointer (some ⟨0,0,none⟩)),(2,.pointer (some ⟨1,0,none⟩)),(3,.pointer (some ⟨2,0,none⟩)),(5,.int .i64 i)]++ex,[⟨u8s k,true,true,true,1⟩,⟨ns .u64 [0,0,0,0,0],true,true,true,1⟩,⟨ns .u64 x,true,true,true,1⟩],[]⟩
theorem kF (lk:k.length=32) (xk:∀ x∈k,x<256) (hi:i<255) :
  Q2 T 0 CM (Nz k (ofX (num 256 k) i) i [])=some (.normal,Nz k (ofX (num 256 k) (i+1)) (i+1) []):=by
 obtain ⟨b,hb⟩:∃ b,k[i/8]?=some b:=⟨_,Qf (by omega)⟩
 have hbv:=Kk (B:=256) (by decide) xk hb
 have hbc:=Jx hb
 have hlen:(ofX (num 256 k) i).length=5:=Zd _ _ _
 obtain ⟨y,hy⟩:∃ b,(ofX (num 256 k) i)[i/51]?=some b:=⟨_,Qf (by omega)⟩
 have hyc:=ZM (k := .u64) hy
 have hy':y<2^51:=Vl (by decide) (Qp hy)
 have hbit:b/2^(i%8)%2=num 256 k/2^i%2:=by
  rw [←hbv,show (256:Nat)=2^8 from rfl,Tu (Q5 _ (by decide)),Zz]
 have hput:=TJ (w:=51) (m:=5) (q:=i/51) (s:=i%51) (y:=num 256 k/2^i%2) (M:=num 256 k%2^i) (by omega) (Q5 _ (by decide)) (by rw [Zz]; exact Q5 _ (JM (by decide))) (by
  have h1:=US (num 256 k) i
  have h2:(2:Nat)^(i%51)≤2^50:=Zk (by decide) (by have:=Q5 i (by decide:0<51); omega)
  have h3:num 256 k/2^i%2*2^(i%51)≤1*2^50:=JU (by omega) h2
  omega)
 rw [Zz,OB] at hput
 have hgd:(dig (2^51) 5 (num 256 k%2^i)).getD (i/51) 0=y:=by rw [QA]; unfold ofX at hy; rw [hy]; rfl
 rw [hgd] at hput
 have hset:=X8 .u64 (ofX (num 256 k) i) (i/51) (y|||num 256 k/2^i%2*2^(i%51))
 rw [show (ofX (num 256 k) i).set (i/51) (y|||num 256 k/2^i%2*2^(i%51))=ofX (num 256 k) (i+1) from hput] at hset
 have hbl:=US (num 256 k) i
 have h50:(2:Nat)^(i%51)≤2^50:=Zk (by decide) (by have:=Q5 i (by decide:0<51); omega)
 have hprod:num 256 k/2^i%2*2^(i%51)≤1*2^50:=JU (by omega) h50
 have s1:(2:Int)^min (i%8) IntKind.u8.bits=((2^(i%8):Nat):Int):=BK (Js (Q5 _ (by decide)))
 have s2:(2:Int)^min (i%51) IntKind.u64.bits=((2^(i%51):Nat):Int):=BK (by have:=Q5 i (by decide:0<51); exact Xh (Js this) (by decide))
 have o1:Zp .or .u64 (y:Int) ((num 256 k/2^i%2*2^(i%51):Nat):Int)=((y|||num 256 k/2^i%2*2^(i%51):Nat):Int):=XY rfl (by show _<18446744073709551616; omega) (by show _<18446744073709551616; omega)
 have n1:(num 256 k/2^i%2*2^(i%51))%18446744073709551616=num 256 k/2^i%2*2^(i%51):=by omega
 have n2:(num 256 k/2^i%2)%18446744073709551616=num 256 k/2^i%2:=by omega
 have w1:IntKind.i64.wrap ((i/51:Nat):Int)=((i/51:Nat):Int):=ZT (by omega)
 have w2:IntKind.i64.wrap ((i/8:Nat):Int)=((i/8:Nat):Int):=ZT (by omega)
 have w3:IntKind.i64.wrap ((i+1:Nat):Int)=((i+1:Nat):Int):=ZT (by omega)
 have e1:((i:Int)<255)=True:=eq_true (by omega)
 have e2:(((i/51:Nat):Int)<5)=True:=eq_true (by omega)
 have e3:(((i/8:Nat):Int)<32)=True:=eq_true (by omega)
 have e4:(((i%8:Nat):Int)<0)=False:=eq_false (by omega)
 have e5:(((i%51:Nat):Int)<0)=False:=eq_false (by omega)
 have e6:i/51+1≤5:=by omega
 simp only [Nz,CM,Qs,quiet,cF,JE,ZI,↓pQ,reduceCtorEq,seval,-Qb,cL,cJ,cU,hbc,hyc,hbit,s1,s2,o1,n1,n2,w1,w2,w3,e1,e2,e3,e4,e5,e6,hset,Q9,hlen]
theorem dn (lk:k.length=32) (xk:∀ x∈k,x<256):QK T 72 [.agg (u8s k).toArray]=some (eV (dig (2^51) 5 (num 256 k%2^255))):=by
 have hz:Qa 5 (Value.int .u64 0)=ns .u64 [0,0,0,0,0]:=rfl
 have hb:=ZV (T:=T) (base:=0) (id:=0) (body:=CM) (fun i=>Nz k (ofX (num 256 k) i) i []) (s':=Nz k (ofX (num 256 k) 255) 255 [(6,.bool false)]) 255 (fun i hi=>kF lk xk hi) (by
  simp only [Nz,CM,Qs,quiet,cF,JE,ZI,↓pQ,reduceCtorEq,seval,-Qb,cL])
 have h0:ofX (num 256 k) 0=[0,0,0,0,0]:=by unfold ofX; rw [ZF,OS]; decide
 rw [h0] at hb
 have hlen:(ofX (num 256 k) 255).length=5:=Zd _ _ _
 rw [show dig (2^51) 5 (num 256 k%2^255)=ofX (num 256 k) 255 from rfl]
 generalize ofX (num 256 k) 255=X at *
 simp only [Nz,Qn,Ql,QB] at hb
 apply QI (fn:=a49) rfl
 have hl5:(ns .u64 [0,0,0,0,0]).length=5:=rfl
 simp only [a49,Qs,quiet,cF,JE,ZI,↓pQ,reduceCtorEq,seval,-Qb,cL,cJ,hz,hb,Nz,eV,hl5,Q9,hlen]
 rfl
theorem N0:El (dig (2^51) 5 V) (2^52):=⟨Zd _ _ _,fun x hx=>by have:=Vl (by decide) hx; omega⟩
theorem R3:v51 (dig (2^51) 5 (V%2^255))=V%2^255:=by
 have h:=XF (B:=2^51) (by decide) 5 (V%2^255)
 rw [show ((2:Nat)^51)^5=2^255 from by rw [←Ja],Y3] at h
 exact h
theorem dm (a b:Nat):∃ r,a=b*(a/b)+r∧a%b=r∧(0<b→r<b):=⟨a%b,(Zz a b).symm,rfl,fun h=>Q5 _ h⟩
theorem eB (h0:x0<9223372036854775808) (h1:x1<9223372036854775808) (h2:x2<9223372036854775808) (h3:x3<9223372036854775808) (h4:x4<9223372036854775808) :
  ∃ y0 y1 y2 y3 y4 z0 z1 z2 z3 z4,Ul x0 x1 x2 x3 x4=[y0,y1,y2,y3,y4]∧y0<9223372036854775808∧y1<9223372036854775808∧y2<9223372036854775808∧y3<9223372036854775808∧y4<9223372036854775808 ∧
   Ul y0 y1 y2 y3 y4=[z0,z1,z2,z3,z4]∧z0<2251799813685248+19∧z1<2251799813685248∧z2<2251799813685248∧z3<2251799813685248∧z4<2251799813685248∧(∃ k,v51 [z0,z1,z2,z3,z4]+k*Go.Fp.P=v51 [x0,x1,x2,x3,x4]):=by
 have key:∀ y0 y1 y2 y3 y4:Nat,y0<2251799813685248+19*8192→y1<2251799813685248→y2<2251799813685248→y3<2251799813685248→y4<2251799813685248→Ul x0 x1 x2 x3 x4=[y0,y1,y2,y3,y4] →
   ∃ z0 z1 z2 z3 z4,Ul y0 y1 y2 y3 y4=[z0,z1,z2,z3,z4]∧z0<2251799813685248+19∧z1<2251799813685248∧z2<2251799813685248∧z3<2251799813685248∧z4<2251799813685248∧(∃ k,v51 [z0,z1,z2,z3,z4]+k*Go.Fp.P=v51 [x0,x1,x2,x3,x4]):=by
  intro y0 y1 y2 y3 y4 b0 b1 b2 b3 b4 hy
  refine ⟨_,_,_,_,_,rfl,?_,Q5 _ (by decide),Q5 _ (by decide),Q5 _ (by decide),Q5 _ (by decide),?_⟩
  ·have c0:y0/2251799813685248≤1:=by omega
   have c1:(y1+y0/2251799813685248)/2251799813685248≤1:=by omega
   have c2:(y2+(y1+y0/2251799813685248)/2251799813685248)/2251799813685248≤1:=by omega
   have c3:(y3+(y2+(y1+y0/2251799813685248)/2251799813685248)/2251799813685248)/2251799813685248≤1:=by omega
   generalize (y3+(y2+(y1+y0/2251799813685248)/2251799813685248)/2251799813685248)/2251799813685248=c at *
   rcases ZG y0 2251799813685248 with h | h
   ·
    have d0:y0/2251799813685248=0:=by omega
    have c4:(y4+c)/2251799813685248≤1:=by omega
    have:=Q5 y0 (by decide:0<2251799813685248)
    omega
   ·have c4:(y4+c)/2251799813685248≤1:=by omega
    have:=Q5 y0 (by decide:0<2251799813685248)
    omega
  ·obtain ⟨k1,e1⟩:=M8 (x0:=y0) (x1:=y1) (x2:=y2) (x3:=y3) (x4:=y4)
   obtain ⟨k2,e2⟩:=M8 (x0:=x0) (x1:=x1) (x2:=x2) (x3:=x3) (x4:=x4)
   rw [hy] at e2
   refine ⟨k1+k2,?_⟩
   rw [Zl,←Zu,←e2,←e1]
   rfl
 have c0:x0/2251799813685248<8192:=by omega
 have c1:(x1+x0/2251799813685248)/2251799813685248<8192:=by omega
 have c2:(x2+(x1+x0/2251799813685248)/2251799813685248)/2251799813685248<8192:=by omega
 have c3:(x3+(x2+(x1+x0/2251799813685248)/2251799813685248)/2251799813685248)/2251799813685248<8192:=by omega
 have c4:(x4+(x3+(x2+(x1+x0/2251799813685248)/2251799813685248)/2251799813685248)/2251799813685248)/2251799813685248<8192:=by omega
 have m0:=Q5 x0 (by decide:0<2251799813685248)
 have m1:=Q5 (x1+x0/2251799813685248) (by decide:0<2251799813685248)
 have m2:=Q5 (x2+(x1+x0/2251799813685248)/2251799813685248) (by decide:0<2251799813685248)
 have m3:=Q5 (x3+(x2+(x1+x0/2251799813685248)/2251799813685248)/2251799813685248) (by decide:0<2251799813685248)
 have m4:=Q5 (x4+(x3+(x2+(x1+x0/2251799813685248)/2251799813685248)/2251799813685248)/2251799813685248) (by decide:0<2251799813685248)
 obtain ⟨z0,z1,z2,z3,z4,g1,g2⟩:=key _ _ _ _ _ (by
  generalize (x4+(x3+(x2+(x1+x0/2251799813685248)/2251799813685248)/2251799813685248)/2251799813685248)/2251799813685248=c at *
  generalize x0%2251799813685248=r at *
  show r+19*c<_
  omega) m1 m2 m3 m4 rfl
 refine ⟨_,_,_,_,_,z0,z1,z2,z3,z4,rfl,?_,JK m1 (by decide),JK m2 (by decide),JK m3 (by decide),JK m4 (by decide),g1,g2⟩
 generalize (x4+(x3+(x2+(x1+x0/2251799813685248)/2251799813685248)/2251799813685248)/2251799813685248)/2251799813685248=c at *
 generalize x0%2251799813685248=r at *
 show r+19*c<_
 omega
def Ih (z0 z1 z2 z3 z4:Nat):Nat:=(z4+(z3+(z2+(z1+(z0+19)/2251799813685248)/2251799813685248)/2251799813685248)/2251799813685248)/2251799813685248
def eb (z0 z1 z2 z3 z4:Nat):List Nat :=
 let u0:=z0/2251799813685248
 let u1:=(z1+u0)/2251799813685248
 let u2:=(z2+u1)/2251799813685248
 let u3:=(z3+u2)/2251799813685248
 [z0%2251799813685248,(z1+u0)%2251799813685248,(z2+u1)%2251799813685248,(z3+u2)%2251799813685248,(z4+u3)%2251799813685248]
theorem qU {z0 z1 z2 z3 z4:Nat} (h0:z0<2251799813685248+19) (h1:z1<2251799813685248) (h2:z2<2251799813685248) (h3:z3<2251799813685248) (h4:z4<2251799813685248) :
  Ih z0 z1 z2 z3 z4≤1∧eb (z0+19*Ih z0 z1 z2 z3 z4) z1 z2 z3 z4=dig (2^51) 5 (v51 [z0,z1,z2,z3,z4]%Go.Fp.P):=by
 have hc:Ih z0 z1 z2 z3 z4≤1∧((Ih z0 z1 z2 z3 z4=0∧v51 [z0,z1,z2,z3,z4]<Go.Fp.P)∨(Ih z0 z1 z2 z3 z4=1∧Go.Fp.P≤v51 [z0,z1,z2,z3,z4])):=by
  simp only [Ih,v51,num,Go.Fp.Hj]
  obtain ⟨r0,e0,-,l0⟩:=dm (z0+19) 2251799813685248
  generalize (z0+19)/2251799813685248=t0 at *
  obtain ⟨r1,e1,-,l1⟩:=dm (z1+t0) 2251799813685248
  generalize (z1+t0)/2251799813685248=t1 at *
  obtain ⟨r2,e2,-,l2⟩:=dm (z2+t1) 2251799813685248
  generalize (z2+t1)/2251799813685248=t2 at *
  obtain ⟨r3,e3,-,l3⟩:=dm (z3+t2) 2251799813685248
  generalize (z3+t2)/2251799813685248=t3 at *
  obtain ⟨r4,e4,-,l4⟩:=dm (z4+t3) 2251799813685248
  generalize (z4+t3)/2251799813685248=t4 at *
  have l0:=l0 (by decide)
  have l1:=l1 (by decide)
  have l2:=l2 (by decide)
  have l3:=l3 (by decide)
  have l4:=l4 (by decide)
  omega
 have hP:=Go.Fp.Hj
 obtain ⟨hc1,hc2⟩:=hc
 refine ⟨hc1,?_⟩
 generalize Ih z0 z1 z2 z3 z4=c at *
 have hlt:∀ x∈eb (z0+19*c) z1 z2 z3 z4,x<2251799813685248:=by
  intro x hx
  simp only [eb,J0,JG,or_false] at hx
  rcases hx with h | h | h | h | h<;>(rw [h]; exact Q5 _ (by decide))
 have hnum:num 2251799813685248 (eb (z0+19*c) z1 z2 z3 z4)=v51 [z0,z1,z2,z3,z4]%Go.Fp.P:=by
  have hV:v51 [z0,z1,z2,z3,z4]%Go.Fp.P=v51 [z0,z1,z2,z3,z4]-c*Go.Fp.P:=by
   rcases hc2 with ⟨g1,g2⟩ | ⟨g1,g2⟩
   ·rw [Qv g2,g1]; omega
   ·have g3:v51 [z0,z1,z2,z3,z4]<Go.Fp.P+Go.Fp.P:=by
     simp only [v51,num,Go.Fp.Hj] at *
     omega
    rw [g1,Xf,Nat.mod_eq_sub_mod g2,Qv (by omega)]
  rw [hV]
  simp only [eb,v51,num,Go.Fp.Hj] at hc2 ⊢
  obtain ⟨r0,e0,f0,l0⟩:=dm (z0+19*c) 2251799813685248
  rw [f0]
  generalize (z0+19*c)/2251799813685248=t0 at *
  obtain ⟨r1,e1,f1,l1⟩:=dm (z1+t0) 2251799813685248
  rw [f1]
  generalize (z1+t0)/2251799813685248=t1 at *
  obtain ⟨r2,e2,f2,l2⟩:=dm (z2+t1) 2251799813685248
  rw [f2]
  generalize (z2+t1)/2251799813685248=t2 at *
  obtain ⟨r3,e3,f3,l3⟩:=dm (z3+t2) 2251799813685248
  rw [f3]
  generalize (z3+t2)/2251799813685248=t3 at *
  obtain ⟨r4,e4,f4,l4⟩:=dm (z4+t3) 2251799813685248
  rw [f4]
  generalize (z4+t3)/2251799813685248=t4 at *
  have l0:=l0 (by decide)
  have l1:=l1 (by decide)
  have l2:=l2 (by decide)
  have l3:=l3 (by decide)
  have l4:=l4 (by decide)
  rcases hc2 with ⟨g1,g2⟩ | ⟨g1,g2⟩<;>subst g1<;>omega
 have h5:=U6 (B:=2251799813685248) (by decide) hlt
 rw [hnum] at h5
 exact h5.symm
def byX (V i:Nat):List Nat:=dig (2^8) 32 (V%2^i)
def IV (x k:List Nat) (R:Ob) (i:Nat) (ex:Env):St:=⟨[(1,.pointer (some ⟨0,0,none⟩)),(2,.pointer (some ⟨1,0,none⟩)),(6,.pointer (some ⟨2,0,none⟩)),(54,.int .i64 i)]++ex,[⟨ns .u64 x,true,true,true,1⟩,R,⟨u8s k,true,true,true,1⟩],[]⟩
theorem nw (hi:i<255) :
  Q2 T 0 RQ (IV (dig (2^51) 5 V) (byX V i) R i [])=some (.normal,IV (dig (2^51) 5 V) (byX V (i+1)) R (i+1) []):=by
 obtain ⟨b,hb⟩:∃ b,(dig (2^51) 5 V)[i/51]?=some b:=⟨_,Qf (by rw [Zd]; omega)⟩
 have hbv:V/(2^51)^(i/51)%2^51=b:=by rw [XR (by omega)] at hb; exact XA hb
 have hbc:=ZM (k := .u64) hb
 have hlen:(byX V i).length=32:=Zd _ _ _
 obtain ⟨y,hy⟩:∃ b,(byX V i)[i/8]?=some b:=⟨_,Qf (by omega)⟩
 have hyc:=Jx hy
 have hy':y<2^8:=Vl (by decide) (Qp hy)
 have hbit:b/2^(i%51)%2=V/2^i%2:=by
  rw [←hbv,Tu (Q5 _ (by decide)),Zz]
 have hsm:(2:Nat)^(i%8)≤2^7:=Zk (by decide) (by have:=Q5 i (by decide:0<8); omega)
 have hbl:=US V i
 have hprod:V/2^i%2*2^(i%8)≤1*2^7:=JU (by omega) hsm
 have hput:=TJ (w:=8) (m:=32) (q:=i/8) (s:=i%8) (y:=V/2^i%2) (M:=V%2^i) (by omega) (Q5 _ (by decide)) (by rw [Zz]; exact Q5 _ (JM (by decide))) (by omega)
 rw [Zz,OB] at hput
 have hgd:(dig (2^8) 32 (V%2^i)).getD (i/8) 0=y:=by rw [QA]; unfold byX at hy; rw [hy]; rfl
 rw [hgd] at hput
 have hset:=Xb (byX V i) (i/8) (y|||V/2^i%2*2^(i%8))
 rw [show (byX V i).set (i/8) (y|||V/2^i%2*2^(i%8))=byX V (i+1) from hput] at hset
 have s1:(2:Int)^min (i%8) IntKind.u8.bits=((2^(i%8):Nat):Int):=BK (Js (Q5 _ (by decide)))
 have s2:(2:Int)^min (i%51) IntKind.u64.bits=((2^(i%51):Nat):Int):=BK (by have:=Q5 i (by decide:0<51); exact Xh (Js this) (by decide))
 have o1:Zp .or .u8 (y:Int) ((V/2^i%2*2^(i%8):Nat):Int)=((y|||V/2^i%2*2^(i%8):Nat):Int):=XY rfl (by show _<256; omega) (by show _<256; omega)
 have n1:(V/2^i%2*2^(i%8))%256=V/2^i%2*2^(i%8):=by omega
 have n2:(V/2^i%2)%256=V/2^i%2:=by omega
 have w1:IntKind.i64.wrap ((i/51:Nat):Int)=((i/51:Nat):Int):=ZT (by omega)
 have w2:IntKind.i64.wrap ((i/8:Nat):Int)=((i/8:Nat):Int):=ZT (by omega)
 have w3:IntKind.i64.wrap ((i+1:Nat):Int)=((i+1:Nat):Int):=ZT (by omega)
 have e1:((i:Int)<255)=True:=eq_true (by omega)
 have e2:(((i/51:Nat):Int)<5)=True:=eq_true (by omega)
 have e3:(((i/8:Nat):Int)<32)=True:=eq_true (by omega)
 have e4:(((i%8:Nat):Int)<0)=False:=eq_false (by omega)
 have e5:(((i%51:Nat):Int)<0)=False:=eq_false (by omega)
 have e6:i/8+1≤32:=by omega
 simp only [IV,RQ,Qs,quiet,cF,JE,ZI,↓pQ,reduceCtorEq,seval,-Qb,cL,cJ,cU,hbc,hyc,hbit,s1,s2,o1,n1,n2,w1,w2,w3,e1,e2,e3,e4,e5,e6,hset,Qq,hlen]
theorem eE (hV:V<2^255):Q2 T 0 (.block 4 (.loop RQ)) (IV (dig (2^51) 5 V) (dig 256 32 0) R 0 [])=some (.normal,IV (dig (2^51) 5 V) (dig 256 32 V) R 255 [(55,.bool false)]):=by
 have hb:=ZV (T:=T) (base:=0) (id:=4) (body:=RQ) (fun i=>IV (dig (2^51) 5 V) (byX V i) R i []) (s':=IV (dig (2^51) 5 V) (byX V 255) R 255 [(55,.bool false)]) 255 (fun i hi=>nw hi) (by
  simp only [IV,RQ,Qs,quiet,cF,JE,ZI,↓pQ,reduceCtorEq,seval,-Qb,cL])
 rw [show byX V 0=dig 256 32 0 from by unfold byX; rw [ZF,OS],show byX V 255=dig 256 32 V from by unfold byX; rw [Qv hV]] at hb
 exact hb
theorem eC (h0:x0<9223372036854775808) (h1:x1<9223372036854775808) (h2:x2<9223372036854775808) (h3:x3<9223372036854775808) (h4:x4<9223372036854775808) :
  QK T 78 [eV [x0,x1,x2,x3,x4]]=some (.agg (u8s (dig 256 32 (v51 [x0,x1,x2,x3,x4]%Go.Fp.P))).toArray):=by
 obtain ⟨y0,y1,y2,y3,y4,z0,z1,z2,z3,z4,hy,a0,a1,a2,a3,a4,hz,b0,b1,b2,b3,b4,⟨kk,hk⟩⟩:=eB h0 h1 h2 h3 h4
 have hV:v51 [x0,x1,x2,x3,x4]%Go.Fp.P=v51 [z0,z1,z2,z3,z4]%Go.Fp.P:=by rw [←hk,Y4]
 obtain ⟨hc,hfin⟩:=qU b0 b1 b2 b3 b4
 have c1:=By h0 h1 h2 h3 h4
 have c2:=By a0 a1 a2 a3 a4
 rw [hy] at c1
 rw [hz] at c2
 have hN:v51 [z0,z1,z2,z3,z4]%Go.Fp.P<2^255:=JK (Q5 _ (by decide)) (by rw [Go.Fp.Hj]; decide)
 have hb:=eE (R:=⟨u8s (dig 256 32 0),true,true,true,1⟩) hN
 rw [hV]
 generalize v51 [z0,z1,z2,z3,z4]%Go.Fp.P=N at *
 have hz5:Qa 5 (Value.int .u64 0)=[.int .u64 0,.int .u64 0,.int .u64 0,.int .u64 0,.int .u64 0]:=rfl
 have hz32:Qa 32 (Value.int .u8 0)=u8s (dig 256 32 0):=rfl
 have hr5:∀ a b c d e:Int,rf (.agg [.int .u64 a,.int .u64 b,.int .u64 c,.int .u64 d,.int .u64 e].toArray)=true:=fun _ _ _ _ _=>rfl
 have hlk:(dig 256 32 N).length=32:=Zd _ _ _
 have hl0:(dig 256 32 0).length=32:=rfl
 have f0:(z0+19)%18446744073709551616=z0+19:=by omega
 have f1:(z1+(z0+19)/2251799813685248)%18446744073709551616=z1+(z0+19)/2251799813685248:=by omega
 have f2:(z2+(z1+(z0+19)/2251799813685248)/2251799813685248)%18446744073709551616=z2+(z1+(z0+19)/2251799813685248)/2251799813685248:=by
  generalize (z1+(z0+19)/2251799813685248)=t at *; omega
 have f3:(z3+(z2+(z1+(z0+19)/2251799813685248)/2251799813685248)/2251799813685248)%18446744073709551616=z3+(z2+(z1+(z0+19)/2251799813685248)/2251799813685248)/2251799813685248:=by
  have:(z2+(z1+(z0+19)/2251799813685248)/2251799813685248)/2251799813685248<2251799813685248:=by omega
  generalize (z2+(z1+(z0+19)/2251799813685248)/2251799813685248)/2251799813685248=t at *; omega
 have f4:(z4+(z3+(z2+(z1+(z0+19)/2251799813685248)/2251799813685248)/2251799813685248)/2251799813685248)%18446744073709551616=z4+(z3+(z2+(z1+(z0+19)/2251799813685248)/2251799813685248)/2251799813685248)/2251799813685248:=by
  have:(z2+(z1+(z0+19)/2251799813685248)/2251799813685248)/2251799813685248<2251799813685248:=by omega
  generalize (z2+(z1+(z0+19)/2251799813685248)/2251799813685248)/2251799813685248=t at *; omega
 have ft:(z4+(z3+(z2+(z1+(z0+19)/2251799813685248)/2251799813685248)/2251799813685248)/2251799813685248)/2251799813685248=Ih z0 z1 z2 z3 z4:=rfl
 generalize Ih z0 z1 z2 z3 z4=c at *
 have g0:19*c%18446744073709551616=19*c:=by omega
 have g1:(z0+19*c)%18446744073709551616=z0+19*c:=by omega
 have g2:(z0+19*c+0)%18446744073709551616=z0+19*c:=by omega
 have k0:(z0+19*c)/2251799813685248<8:=by omega
 have g3:(z1+(z0+19*c)/2251799813685248)%18446744073709551616=z1+(z0+19*c)/2251799813685248:=by omega
 have k1:(z1+(z0+19*c)/2251799813685248)/2251799813685248<8:=by omega
 have g4:(z2+(z1+(z0+19*c)/2251799813685248)/2251799813685248)%18446744073709551616=z2+(z1+(z0+19*c)/2251799813685248)/2251799813685248:=by
  generalize (z1+(z0+19*c)/2251799813685248)/2251799813685248=t at *; omega
 have k2:(z2+(z1+(z0+19*c)/2251799813685248)/2251799813685248)/2251799813685248<8:=by
  generalize (z1+(z0+19*c)/2251799813685248)/2251799813685248=t at *; omega
 have g5:(z3+(z2+(z1+(z0+19*c)/2251799813685248)/2251799813685248)/2251799813685248)%18446744073709551616=z3+(z2+(z1+(z0+19*c)/2251799813685248)/2251799813685248)/2251799813685248:=by
  generalize (z2+(z1+(z0+19*c)/2251799813685248)/2251799813685248)/2251799813685248=t at *; omega
 have k3:(z3+(z2+(z1+(z0+19*c)/2251799813685248)/2251799813685248)/2251799813685248)/2251799813685248<8:=by
  generalize (z2+(z1+(z0+19*c)/2251799813685248)/2251799813685248)/2251799813685248=t at *; omega
 have g6:(z4+(z3+(z2+(z1+(z0+19*c)/2251799813685248)/2251799813685248)/2251799813685248)/2251799813685248)%18446744073709551616=z4+(z3+(z2+(z1+(z0+19*c)/2251799813685248)/2251799813685248)/2251799813685248)/2251799813685248:=by
  generalize (z3+(z2+(z1+(z0+19*c)/2251799813685248)/2251799813685248)/2251799813685248)/2251799813685248=t at *; omega
 rw [←hfin] at hb
 simp only [eV,Wb,G8] at c1 c2 ⊢
 simp only [IV,eb,Wb,G8,Qn,Ql,QB] at hb
 apply QI (fn:=a57) rfl
 have u0:=fun s=>@Xc T 0 CK s
 have u1:=fun s=>@Xc T 0 CL s
 have v0:=fun s=>@J9 T 0 0 (.loop CK) s
 have v1:=fun s=>@J9 T 0 2 (.loop CL) s
 have d0:∀ s,Q2 T 0 CK s=Q2 T 0 _ s:=fun s=>congrArg (fun c=>Q2 T 0 c s) CK.eq_1
 have d1:∀ s,Q2 T 0 CL s=Q2 T 0 _ s:=fun s=>congrArg (fun c=>Q2 T 0 c s) CL.eq_1
 simp only [a57,Qs,quiet,cF,JE,ZI,↓pQ,reduceCtorEq,seval,-Qb,cL,cJ,cU,hz5,hz32,c1,c2,hr5,u0,u1,v0,v1,d0,d1,f0,f1,f2,f3,f4,ft,g0,g1,g2,g3,g4,g5,g6,hb,Qq,hlk,hl0]
 rfl
theorem key_inj {a b:Nat} (ha:a<256^32) (hb:b<256^32):(dig 256 32 a==dig 256 32 b)=decide (a=b):=by
 by_cases h:a=b
 ·subst h; simp
 ·have:¬ dig 256 32 a=dig 256 32 b:=fun he=>h (by
   have h1:=congrArg (num 256) he
   rwa [XF (by decide),XF (by decide),Qv ha,Qv hb] at h1)
  rw [decide_eq_false h,beq_eq_false_iff_ne.2 this]
theorem P_lt:Go.Fp.P<256^32:=by rw [Go.Fp.Hj]; decide
theorem vd (l:List Nat):(fe l).val=v51 l%Go.Fp.P:=rfl
theorem BP {l:List Nat} (h:El l (2^52)):QK T 78 [eV l]=some (.agg (u8s (dig 256 32 (fe l).val)).toArray):=by
 obtain ⟨x0,x1,x2,x3,x4,rfl,a0,a1,a2,a3,a4⟩:=h.five
 exact eC (by omega) (by omega) (by omega) (by omega) (by omega)
theorem te (a:Go.Fp.Fe):a.val<256^32:=JK a.isLt P_lt
theorem mL (a b:Go.Fp.Fe):(dig 256 32 a.val==dig 256 32 b.val)=decide (a=b):=by
 rw [key_inj (te a) (te b)]
 by_cases h:a=b
 ·subst h; simp
 ·have:¬ a.val=b.val:=fun he=>h (Fin.ext he)
  rw [decide_eq_false h,decide_eq_false this]
theorem Qz (l:List Nat):(eV l).cells.toList=ns .u64 l:=rfl
theorem Q7 (l:List Nat):(eV l).cells.size=l.length:=Q9 _ _
theorem Zc (l:List Nat):Z7 (eV l)=true:=rfl
theorem Q8 (l:List Nat):Value.agg (ns .u64 l).toArray=eV l:=rfl
theorem rh {x y:List Nat} (hx:El x (2^52)) (hy:El y (2^52)):QK T 146 [eV x,eV y]=some (.bool (decide (fe x=fe y))):=by
 have h1:=BP hx
 have h2:=BP hy
 have l1:=hx.len
 have l2:=hy.len
 apply QI (fn:=a55) rfl
 simp only [a55,Qs,quiet,cF,JE,ZI,↓pQ,reduceCtorEq,seval,-Qb,cL,cJ,Qz,Q7,Zc,Q8,Q9,l1,l2,h1,h2,K9,Zd,mL,QV]
 rfl
theorem lQ {x:List Nat} (hx:El x (2^52)):QK T 92 [eV x]=some (.bool (decide (fe x=0))):=by
 have h1:=BP hx
 have l1:=hx.len
 have f0:fillL (Qa 32 (Value.int .u8 0)) []=some (u8s (dig 256 32 (0:Go.Fp.Fe).val)):=rfl
 apply QI (fn:=a63) rfl
 simp only [a63,Qs,quiet,cF,JE,ZI,↓pQ,reduceCtorEq,seval,-Qb,cL,cJ,Qz,Q7,Zc,Q8,Q9,l1,h1,f0,K9,Zd,mL,QV]
 rfl
theorem kG {x:List Nat} (hx:El x (2^52)):QK T 103 [eV x]=some (.bool (decide ((fe x).val%2=1))):=by
 have h1:=BP hx
 have l1:=hx.len
 have h0:(u8s (dig 256 32 (fe x).val))[0]?=some (.int .u8 (((fe x).val%256:Nat):Int)):=by
  apply Jx
  rw [XR (by decide),ZF,Jt]
 have hm:(fe x).val%256%2=(fe x).val%2:=by omega
 have hd:((((fe x).val%2:Nat):Int)==1)=decide ((fe x).val%2=1):=by
  by_cases h:(fe x).val%2=1
  ·rw [h]; rfl
  ·have:¬ ((((fe x).val%2:Nat):Int)=1):=by omega
   rw [decide_eq_false h,beq_eq_false_iff_ne.2 this]
 apply QI (fn:=a58) rfl
 simp only [a58,Qs,quiet,cF,JE,ZI,↓pQ,reduceCtorEq,seval,-Qb,cL,cJ,cU,Qz,Q7,Zc,Q8,Q9,l1,h1,h0,hm,hd,Qq,Zd,QV]
 rfl
theorem O6 {k:List Nat} (lk:k.length=32) (xk:∀ x∈k,x<256):QK T 87 [.agg (u8s k).toArray]=some (.bool (decide (num 256 k<Go.Fp.P))):=by
 have h0:=dn lk xk
 have hel:=N0 (V:=num 256 k%2^255)
 have h1:=BP hel
 rw [vd,R3] at h1
 have hb:(dig 256 32 (num 256 k%2^255%Go.Fp.P)==k)=decide (num 256 k<Go.Fp.P):=by
  have hk:=U6 (B:=256) (by decide) xk
  rw [lk] at hk
  have hkl:=num_lt xk
  rw [lk] at hkl
  rw [show (dig 256 32 (num 256 k%2^255%Go.Fp.P)==k)=(dig 256 32 (num 256 k%2^255%Go.Fp.P)==dig 256 32 (num 256 k)) from by rw [hk]]
  have hP:=Go.Fp.Hj
  rw [key_inj (JK (Q5 _ (by rw [hP]; decide)) P_lt) hkl]
  by_cases h:num 256 k<Go.Fp.P
  ·rw [decide_eq_true h,Qv (a:=num 256 k) (by rw [hP] at h; omega),Qv h]; simp
  ·rw [decide_eq_false h,decide_eq_false]
   have:=Q5 (num 256 k%2^255) (show 0<Go.Fp.P by rw [hP]; decide)
   omega
 apply QI (fn:=a59) rfl
 simp only [a59,Qs,quiet,cF,JE,ZI,↓pQ,reduceCtorEq,seval,-Qb,cL,cJ,Qz,Q7,Zc,Q8,Q9,Qq,lk,h0,h1,K9,Zd,hb,QV]
 rfl
theorem bf (h0:x0<2^60) (h1:x1<2^60) (h2:x2<2^60) (h3:x3<2^60) (h4:x4<2^60):El (Ul x0 x1 x2 x3 x4) (2^52):=by
 simp only [Ul]
 have c0:x0/2251799813685248<1024:=by omega
 have c1:(x1+x0/2251799813685248)/2251799813685248<1024:=by omega
 have c2:(x2+(x1+x0/2251799813685248)/2251799813685248)/2251799813685248<1024:=by omega
 have c3:(x3+(x2+(x1+x0/2251799813685248)/2251799813685248)/2251799813685248)/2251799813685248<1024:=by omega
 have c4:(x4+(x3+(x2+(x1+x0/2251799813685248)/2251799813685248)/2251799813685248)/2251799813685248)/2251799813685248<1024:=by omega
 have m0:=Q5 x0 (by decide:0<2251799813685248)
 apply El.mk5
 ·generalize (x4+(x3+(x2+(x1+x0/2251799813685248)/2251799813685248)/2251799813685248)/2251799813685248)/2251799813685248=c at *
  omega
 all_goals exact JK (Q5 _ (by decide)) (by decide)
theorem bd:fe (Ul x0 x1 x2 x3 x4)=fe [x0,x1,x2,x3,x4]:=by
 obtain ⟨k,hk⟩:=M8 (x0:=x0) (x1:=x1) (x2:=x2) (x3:=x3) (x4:=x4)
 exact ta hk
theorem BT {x y:List Nat} (hx:El x (2^52)) (hy:El y (2^52)):∃ r,QK T 89 [eV x,eV y]=some (eV r)∧El r (2^52)∧fe r=fe x-fe y:=by
 obtain ⟨x0,x1,x2,x3,x4,rfl,a0,a1,a2,a3,a4⟩:=hx.five
 obtain ⟨y0,y1,y2,y3,y4,rfl,b0,b1,b2,b3,b4⟩:=hy.five
 refine ⟨Ul (x0+(9007199254740988-y0)-72) (x1+(9007199254740988-y1)) (x2+(9007199254740988-y2)) (x3+(9007199254740988-y3)) (x4+(9007199254740988-y4)),?_,bf (by omega) (by omega) (by omega) (by omega) (by omega),?_⟩
 ·have s0:(9007199254740988+(18446744073709551616-y0%18446744073709551616))%18446744073709551616=9007199254740988-y0:=by omega
  have s1:(9007199254740988+(18446744073709551616-y1%18446744073709551616))%18446744073709551616=9007199254740988-y1:=by omega
  have s2:(9007199254740988+(18446744073709551616-y2%18446744073709551616))%18446744073709551616=9007199254740988-y2:=by omega
  have s3:(9007199254740988+(18446744073709551616-y3%18446744073709551616))%18446744073709551616=9007199254740988-y3:=by omega
  have s4:(9007199254740988+(18446744073709551616-y4%18446744073709551616))%18446744073709551616=9007199254740988-y4:=by omega
  have t0:(x0+(9007199254740988-y0))%18446744073709551616=x0+(9007199254740988-y0):=by omega
  have t1:(x1+(9007199254740988-y1))%18446744073709551616=x1+(9007199254740988-y1):=by omega
  have t2:(x2+(9007199254740988-y2))%18446744073709551616=x2+(9007199254740988-y2):=by omega
  have t3:(x3+(9007199254740988-y3))%18446744073709551616=x3+(9007199254740988-y3):=by omega
  have t4:(x4+(9007199254740988-y4))%18446744073709551616=x4+(9007199254740988-y4):=by omega
  have r0:(x0+(9007199254740988-y0)+18446744073709551544)%18446744073709551616=x0+(9007199254740988-y0)-72:=by omega
  have c1:=By (x0:=x0+(9007199254740988-y0)-72) (x1:=x1+(9007199254740988-y1)) (x2:=x2+(9007199254740988-y2)) (x3:=x3+(9007199254740988-y3)) (x4:=x4+(9007199254740988-y4)) (by omega) (by omega) (by omega) (by omega) (by omega)
  have hl:(Ul (x0+(9007199254740988-y0)-72) (x1+(9007199254740988-y1)) (x2+(9007199254740988-y2)) (x3+(9007199254740988-y3)) (x4+(9007199254740988-y4))).length=5:=rfl
  generalize Ul (x0+(9007199254740988-y0)-72) (x1+(9007199254740988-y1)) (x2+(9007199254740988-y2)) (x3+(9007199254740988-y3)) (x4+(9007199254740988-y4))=C at *
  have hz5:Qa 5 (Value.int .u64 0)=[.int .u64 0,.int .u64 0,.int .u64 0,.int .u64 0,.int .u64 0]:=rfl
  have hr5:∀ a b c d e:Int,rf (.agg [.int .u64 a,.int .u64 b,.int .u64 c,.int .u64 d,.int .u64 e].toArray)=true:=fun _ _ _ _ _=>rfl
  have u0:=fun s=>@Xc T 0 CJ s
  have v0:=fun s=>@J9 T 0 0 (.loop CJ) s
  have d0:∀ s,Q2 T 0 CJ s=Q2 T 0 _ s:=fun s=>congrArg (fun c=>Q2 T 0 c s) CJ.eq_1
  have hrC:rf (.agg (ns .u64 C).toArray)=true:=ag _ _
  simp only [eV,Wb,G8] at c1 ⊢
  apply QI (fn:=a61) rfl
  simp only [a61,Qs,quiet,cF,JE,ZI,↓pQ,reduceCtorEq,seval,-Qb,cL,cJ,cU,hz5,c1,hr5,u0,v0,d0,s0,s1,s2,s3,s4,t0,t1,t2,t3,t4,r0,Q9,hl,hrC]
  rfl
 ·rw [bd]
  have e:v51 [x0+(9007199254740988-y0)-72,x1+(9007199254740988-y1),x2+(9007199254740988-y2),x3+(9007199254740988-y3),x4+(9007199254740988-y4)]+v51 [y0,y1,y2,y3,y4]=v51 [x0,x1,x2,x3,x4]+4*Go.Fp.P:=by
   simp only [v51,num,Go.Fp.Hj]
   omega
  have h:=congrArg Go.Fp.fp e
  rw [Go.Fp.Vk,Go.Fp.Vk,Go.Fp.aU] at h
  unfold fe
  grobner
theorem Ft {x:List Nat} (hx:El x (2^52)):∃ r,QK T 93 [eV x]=some (eV r)∧El r (2^52)∧fe r = -fe x:=by
 have hz:=Bh (n:=0) (by decide)
 obtain ⟨r,h1,h2,h3⟩:=BT hz hx
 refine ⟨r,?_,h2,?_⟩
 ·have f0:fillL (ns .u64 [0,0,0,0,0]) []=some (ns .u64 [0,0,0,0,0]):=rfl
  have hz5:Qa 5 (Value.int .u64 0)=ns .u64 [0,0,0,0,0]:=rfl
  have l1:=hx.len
  have l2:=h2.len
  have l0:(ns .u64 [0,0,0,0,0]).length=5:=rfl
  apply QI (fn:=a64) rfl
  simp only [a64,Qs,quiet,cF,JE,ZI,↓pQ,reduceCtorEq,seval,-Qb,cL,cJ,f0,hz5,h1,Qz,Q7,Zc,Q8,Q9,l0,l1,l2,QV]
  rfl
 ·rw [h3,Bg,Go.Fp.aT]; grobner
def Pb (x y:List Nat):Ob:=⟨ns .u64 (x++y),true,true,true,1⟩
set_option maxHeartbeats 2000000 in
theorem Yn {H:List Ob} {id:Nat} {x y:List Nat} (hx:El x (2^52)) (hy:El y (2^52)) (h:H[id]?=some (Pb x y)):∃ r s,Z5 T 90 [.slice (some ⟨id,0,none⟩) 2 2] H=some (eV r,H++[⟨ns .u64 r,true,true,true,1⟩,⟨ns .u64 s,true,true,true,1⟩,⟨ns .u64 x,true,true,true,1⟩,⟨ns .u64 y,true,true,true,1⟩],[])∧El r (2^52)∧fe r=fe x+fe y:=by
 have hid:id<H.length:=(Qg.1 h).1
 have hA:∀ l,(H++l)[id]?=some (Pb x y):=fun l=>by rw [Qc hid]; exact h
 obtain ⟨x0,x1,x2,x3,x4,rfl,a0,a1,a2,a3,a4⟩:=hx.five
 obtain ⟨y0,y1,y2,y3,y4,rfl,b0,b1,b2,b3,b4⟩:=hy.five
 refine ⟨Ul (x0+y0) (x1+y1) (x2+y2) (x3+y3) (x4+y4),[x0+y0,x1+y1,x2+y2,x3+y3,x4+y4],?_,bf (by omega) (by omega) (by omega) (by omega) (by omega),?_⟩
 ·have s0:(0+x0)%18446744073709551616=x0:=by omega
  have s1:(0+x1)%18446744073709551616=x1:=by omega
  have s2:(0+x2)%18446744073709551616=x2:=by omega
  have s3:(0+x3)%18446744073709551616=x3:=by omega
  have s4:(0+x4)%18446744073709551616=x4:=by omega
  have q0:x0%18446744073709551616=x0:=by omega
  have q1:x1%18446744073709551616=x1:=by omega
  have q2:x2%18446744073709551616=x2:=by omega
  have q3:x3%18446744073709551616=x3:=by omega
  have q4:x4%18446744073709551616=x4:=by omega
  have t0:(x0+y0)%18446744073709551616=x0+y0:=by omega
  have t1:(x1+y1)%18446744073709551616=x1+y1:=by omega
  have t2:(x2+y2)%18446744073709551616=x2+y2:=by omega
  have t3:(x3+y3)%18446744073709551616=x3+y3:=by omega
  have t4:(x4+y4)%18446744073709551616=x4+y4:=by omega
  have c1:=By (x0:=x0+y0) (x1:=x1+y1) (x2:=x2+y2) (x3:=x3+y3) (x4:=x4+y4) (by omega) (by omega) (by omega) (by omega) (by omega)
  have hl:(Ul (x0+y0) (x1+y1) (x2+y2) (x3+y3) (x4+y4)).length=5:=rfl
  generalize Ul (x0+y0) (x1+y1) (x2+y2) (x3+y3) (x4+y4)=C at *
  have hz5:Qa 5 (Value.int .u64 0)=[.int .u64 0,.int .u64 0,.int .u64 0,.int .u64 0,.int .u64 0]:=rfl
  have hr5:∀ a b c d e:Int,rf (.agg [.int .u64 a,.int .u64 b,.int .u64 c,.int .u64 d,.int .u64 e].toArray)=true:=fun _ _ _ _ _=>rfl
  have u0:=fun s=>@Xc T H.length CI s
  have v0:=fun s=>@J9 T H.length 2 (.loop CI) s
  have d0:∀ s,Q2 T H.length CI s=Q2 T H.length _ s:=fun s=>congrArg (fun c=>Q2 T H.length c s) CI.eq_1
  have u1:=fun s=>@Xc T H.length CH s
  have v1:=fun s=>@J9 T H.length 0 (.loop CH) s
  have d1:∀ s,Q2 T H.length CH s=Q2 T H.length _ s:=fun s=>congrArg (fun c=>Q2 T H.length c s) CH.eq_1
  have hrC:rf (.agg (ns .u64 C).toArray)=true:=ag _ _
  have p1:∀ a b c d e f g i j k:Value,Zh 5 (Jr 0 [a,b,c,d,e,f,g,i,j,k])=[a,b,c,d,e]:=fun _ _ _ _ _ _ _ _ _ _=>rfl
  have p2:∀ a b c d e f g i j k:Value,Zh 5 (Jr 5 [a,b,c,d,e,f,g,i,j,k])=[f,g,i,j,k]:=fun _ _ _ _ _ _ _ _ _ _=>rfl
  simp only [eV,Wb,G8] at c1 ⊢
  simp only [Pb,Qn,Ql,Wb,G8] at hA h
  rw [Zb (fn:=a62) rfl]
  simp only [a62,Int.reduceBEq,Int.reduceBNe,Qs,quiet,cF,JE,ZI,↓pQ,reduceCtorEq,seval,-Qb,cL,cJ,cU,h,hA,hz5,c1,hr5,u0,v0,d0,u1,v1,d1,p1,p2,s0,s1,s2,s3,s4,q0,q1,q2,q3,q4,t0,t1,t2,t3,t4,Q9,hl,hrC]
 ·rw [bd]
  have e:v51 [x0+y0,x1+y1,x2+y2,x3+y3,x4+y4]=v51 [x0,x1,x2,x3,x4]+v51 [y0,y1,y2,y3,y4]:=by
   simp only [v51,num]
   omega
  unfold fe
  rw [e,Go.Fp.Vk]
end Go.Ev.YtpgphpkjlpkcbaaGreat
namespace Go.Ev.YtpgphpkjlpkcbaaGreat
open Go Go.Ev
attribute [local congr] JC JV JB JW Jz
set_option maxRecDepth 100000
variable {n i id less:Nat} {x o k:List Nat} {H:List Ob}
theorem part5 {a b c:List Nat} (hb:b.length=5) (ha:a.length=n):Zh 5 (Jr n (ns .u64 (a++(b++c))))=ns .u64 b:=by
 simp only [HC]
 rw [Jb (by rw [Q9]; omega),ZA (by rw [Q9]; omega),Ql,ZJ (by rw [Q9]; omega),Qm (by rw [Q9]; omega)]
theorem cM {l:List Ob} {r R:List Nat} {cs:List Value} {g:List Ob} (hi:i<n) (hn:n<100) (hx:El x (2^52)) (ho:El o (2^52)) (hm:QK T 76 [eV o,eV x]=some (eV r)) (hr:El r (2^52))
 (hA:∀ l,(H++l)[id]?=some ⟨cs,true,true,true,1⟩) (hcs:(cs.drop (i*5)).take 5=ns .u64 x) (hlen:i*5+5≤cs.length) :
    Q2 T H.length C6 ⟨[(2,.pointer (some ⟨H.length,0,none⟩)),(3,.pointer (some ⟨H.length+1,0,none⟩)),(7,.slice (some ⟨id,0,none⟩) n n),(8,.int .i64 n),(9,.int .i64 i)],H++(⟨ns .u64 R,true,true,true,1⟩::⟨ns .u64 o,true,true,true,1⟩::g),[]⟩ =
      some (.normal,⟨[(2,.pointer (some ⟨H.length,0,none⟩)),(3,.pointer (some ⟨H.length+1,0,none⟩)),(7,.slice (some ⟨id,0,none⟩) n n),(8,.int .i64 n),(9,.int .i64 ((i+1:Nat):Int))],H++(⟨ns .u64 R,true,true,true,1⟩::⟨ns .u64 r,true,true,true,1⟩::(g++[⟨ns .u64 x,true,true,true,1⟩])),[]⟩):=by
  have hz5:Qa 5 (Value.int .u64 0)=ns .u64 [0,0,0,0,0]:=rfl
  have l0:(ns .u64 [0,0,0,0,0]).length=5:=rfl
  have l1:=hx.len
  have l2:=ho.len
  have l3:=hr.len
  have e1:((i:Int)<(n:Int))=True:=eq_true (by omega)
  have w3:IntKind.i64.wrap ((i:Int)+1)=((i+1:Nat):Int):=ZT (n:=i+1) (by omega)
  simp only [C6,Qs,quiet,cF,JE,ZI,↓pQ,reduceCtorEq,seval,-Qb,cL,cJ,Zu,hz5,hA,hcs,hlen,hm,Qz,Q7,Zc,Q8,Q9,l0,l1,l2,l3,QV,e1,w3]
theorem DC:fe [1,0,0,0,0]=1:=by rw [Bg]; rfl
theorem DD:El [1,0,0,0,0] (2^52):=Bh (by decide)
theorem Uy {xs:List (List Nat)} (hn:xs.length=n) (hN:n<100) (hx:∀ x∈xs,El x (2^52)) (h:H[id]?=some ⟨ns .u64 xs.flatten,true,true,true,1⟩) :
  ∃ r,Z5 T 126 [.slice (some ⟨id,0,none⟩) n n] H=some (eV r,H++(⟨ns .u64 r,true,true,true,1⟩::⟨ns .u64 r,true,true,true,1⟩::xs.map fun x=>(⟨ns .u64 x,true,true,true,1⟩:Ob)),[])∧El r (2^52)∧fe r=(xs.map fe).foldl (· * ·) 1:=by
 have hid:id<H.length:=(Qg.1 h).1
 have hA:∀ l,(H++l)[id]?=some ⟨ns .u64 xs.flatten,true,true,true,1⟩:=fun l=>by rw [Qc hid]; exact h
 have hfl:∀ (ys:List (List Nat)),(∀ x∈ys,El x (2^52))→ys.flatten.length=ys.length*5:=by
  intro ys hy
  induction ys with
  | nil=>rfl
  | cons y ys ih =>
   rw [QO,Qk,ih (fun x hx=>hy x (by simp [hx])),(hy y (by simp)).len,Z0]; omega
 obtain ⟨st,hb,r,rfl,hr1,hr2⟩:=Zi (T:=T) (base:=H.length) (id:=0) (body:=C6)
  (fun i st=>∃ r:List Nat,st=⟨[(2,.pointer (some ⟨H.length,0,none⟩)),(3,.pointer (some ⟨H.length+1,0,none⟩)),(7,.slice (some ⟨id,0,none⟩) n n),(8,.int .i64 n),(9,.int .i64 (i:Nat))],H++(⟨ns .u64 [0,0,0,0,0],true,true,true,1⟩::⟨ns .u64 r,true,true,true,1⟩::((xs.take i).map fun x=>(⟨ns .u64 x,true,true,true,1⟩:Ob))),[]⟩∧El r (2^52)∧fe r=((xs.take i).map fe).foldl (· * ·) 1)
  (Q:=fun st=>∃ r:List Nat,st=⟨[(2,.pointer (some ⟨H.length,0,none⟩)),(3,.pointer (some ⟨H.length+1,0,none⟩)),(7,.slice (some ⟨id,0,none⟩) n n),(8,.int .i64 n),(9,.int .i64 n),(10,.bool false)],H++(⟨ns .u64 [0,0,0,0,0],true,true,true,1⟩::⟨ns .u64 r,true,true,true,1⟩::(xs.map fun x=>(⟨ns .u64 x,true,true,true,1⟩:Ob))),[]⟩∧El r (2^52)∧fe r=(xs.map fe).foldl (· * ·) 1)
  n (s:=⟨[(2,.pointer (some ⟨H.length,0,none⟩)),(3,.pointer (some ⟨H.length+1,0,none⟩)),(7,.slice (some ⟨id,0,none⟩) n n),(8,.int .i64 n),(9,.int .i64 0)],H++[⟨ns .u64 [0,0,0,0,0],true,true,true,1⟩,⟨ns .u64 [1,0,0,0,0],true,true,true,1⟩],[]⟩) ⟨[1,0,0,0,0],rfl,DD,DC⟩
  (fun i st hi hs=>by
   obtain ⟨r,rfl,hr1,hr2⟩:=hs
   obtain ⟨x,hxi⟩:∃ y,xs[i]?=some y:=⟨_,Qf (by omega)⟩
   have hxe:=hx x (Qp hxi)
   obtain ⟨r',hm,g1,g2⟩:=Xe hr1 hxe
   have hsplit:xs=xs.take i++x::xs.drop (i+1):=by
    have h1:=Qg.1 hxi
    conv=>lhs; rw [←Z3 i xs,JR h1.1,h1.2]
   have htl:(xs.take i).flatten.length=i*5:=by
    rw [hfl _ (fun y hy=>hx y (QU hy)),Q6,Zy (by omega)]
   have hcs:((ns .u64 xs.flatten).drop (i*5)).take 5=ns .u64 x:=by
    conv=>lhs; rw [hsplit,ZY,QO]
    exact part5 hxe.len htl
   have hb:=cM (R:=[0,0,0,0,0]) (g:=(xs.take i).map fun x=>(⟨ns .u64 x,true,true,true,1⟩:Ob)) (l:=[]) hi hN hxe hr1 hm g1 hA hcs (by rw [Q9,hfl xs hx,hn]; omega)
   have htk:xs.take (i+1)=xs.take i++[x]:=by rw [Zw,hxi]; rfl
   refine ⟨_,hb,r',?_,g1,?_⟩
   ·rw [htk,KU]; rfl
   ·rw [htk,KU,List.foldl_append,←hr2,g2]; rfl)
  (fun st hs=>by
   obtain ⟨r,rfl,hr1,hr2⟩:=hs
   have e1:((n:Int)<(n:Int))=False:=eq_false (by omega)
   have ht:xs.take n=xs:=Qm (by omega)
   rw [ht] at hr2 ⊢
   refine ⟨_,?_,r,rfl,hr1,hr2⟩
   simp only [C6,Qs,quiet,cF,JE,ZI,↓pQ,reduceCtorEq,seval,-Qb,cL,e1])
 refine ⟨r,?_,hr1,hr2⟩
 have hz5:Qa 5 (Value.int .u64 0)=ns .u64 [0,0,0,0,0]:=rfl
 have l0:(ns .u64 [0,0,0,0,0]).length=5:=rfl
 have l1:=hr1.len
 have hs:=Hu (n:=1) (by decide)
 have l2:([1,0,0,0,0]:List Nat).length=5:=rfl
 simp only [Yf] at hs
 rw [Zb (fn:=a82) rfl]
 simp only [a82,Qs,quiet,cF,JE,ZI,↓pQ,reduceCtorEq,seval,-Qb,cL,cJ,Zu,hz5,hs,hb,Qz,Q7,Zc,Q8,Q9,l0,l1,l2,QV]
def pwI (x k o:List Nat) (i:Int) (ex:Env):St:=⟨[(2,.pointer (some ⟨0,0,none⟩)),(3,.pointer (some ⟨1,0,none⟩)),(4,.pointer (some ⟨2,0,none⟩)),(5,.pointer (some ⟨3,0,none⟩)),(6,.int .i64 i)]++ex,[⟨ns .u64 x,true,true,true,1⟩,⟨u8s k,true,true,true,1⟩,⟨ns .u64 [0,0,0,0,0],true,true,true,1⟩,⟨ns .u64 o,true,true,true,1⟩],[]⟩
theorem LO (a:Go.Fp.Fe) (m b:Nat) (hb:b<2):Go.Fp.pow a (2*m+b)=if b=1 then Go.Fp.pow a m*Go.Fp.pow a m*a else Go.Fp.pow a m*Go.Fp.pow a m:=by
 have h1:Go.Fp.pow a (2*m)=Go.Fp.pow a m*Go.Fp.pow a m:=by rw [show 2*m=m+m by omega,Go.Fp.pow_add]
 by_cases h:b=1
 ·subst h
  rw [if_pos rfl,Go.Fp.pow,h1]
 ·have:b=0:=by omega
  subst this
  rw [if_neg (by decide),Jj,h1]
theorem p8 {ex:Env} (hx:El x (2^52)) (lk:k.length=32) (xk:∀ x∈k,x<256) (hi:i<256) (ho:El o (2^52)) (hp:fe o=Go.Fp.pow (fe x) (num 256 k/2^(i+1))) :
  ∃ r,Q2 T 0 RO (pwI x k o i ex)=some (.normal,pwI x k r ((i:Int)-1) [])∧El r (2^52)∧fe r=Go.Fp.pow (fe x) (num 256 k/2^i):=by
 obtain ⟨b,hb⟩:∃ b,k[i/8]?=some b:=⟨_,Qf (by omega)⟩
 have hbv:=Kk (B:=256) (by decide) xk hb
 have hbc:=Jx hb
 have hbit:b/2^(i%8)%2=num 256 k/2^i%2:=by
  rw [←hbv,show (256:Nat)=2^8 from rfl,Tu (Q5 _ (by decide)),Zz]
 obtain ⟨r1,m1,g1,g2⟩:=Xe ho ho
 obtain ⟨r2,m2,g3,g4⟩:=Xe g1 hx
 have hlt:=US (num 256 k) i
 have hnum:num 256 k/2^i=2*(num 256 k/2^(i+1))+num 256 k/2^i%2:=by
  rw [Ze,←QT]
  omega
 have hstep:=LO (fe x) (num 256 k/2^(i+1)) (num 256 k/2^i%2) hlt
 rw [←hnum,←hp] at hstep
 have s1:(2:Int)^min (i%8) IntKind.u8.bits=((2^(i%8):Nat):Int):=BK (Js (Q5 _ (by decide)))
 have w2:IntKind.i64.wrap ((i/8:Nat):Int)=((i/8:Nat):Int):=ZT (by omega)
 have w3:IntKind.i64.wrap ((i:Int)-1)=(i:Int)-1:=Zf (by omega) (by omega)
 have e1:((0:Int)≤(i:Int))=True:=eq_true (by omega)
 have e3:(((i/8:Nat):Int)<32)=True:=eq_true (by omega)
 have e4:(((i%8:Nat):Int)<0)=False:=eq_false (by omega)
 have l1:=hx.len
 have l2:=ho.len
 have l3:=g1.len
 have l4:=g3.len
 have l0:([0,0,0,0,0]:List Nat).length=5:=rfl
 generalize hB:num 256 k/2^i%2=B at *
 by_cases hB1:B=1
 ·have hbq:((B:Int)==1)=true:=by rw [hB1]; rfl
  rw [if_pos hB1] at hstep
  refine ⟨r2,?_,g3,by rw [hstep,g4,g2]⟩
  simp only [pwI,RO,Qs,quiet,cF,JE,ZI,↓pQ,reduceCtorEq,seval,-Qb,cL,cJ,cU,hbc,hbit,s1,w2,w3,e1,e3,e4,m1,m2,hbq,Qz,Q7,Zc,Q8,Q9,l1,l2,l3,l4,QV]
 ·have hbq:((B:Int)==1)=false:=by
   have:B=0:=by omega
   rw [this]; rfl
  rw [if_neg hB1] at hstep
  refine ⟨r1,?_,g1,by rw [hstep,g2]⟩
  simp only [pwI,RO,Qs,quiet,cF,JE,ZI,↓pQ,reduceCtorEq,seval,-Qb,cL,cJ,cU,hbc,hbit,s1,w2,w3,e1,e3,e4,m1,m2,hbq,Qz,Q7,Zc,Q8,Q9,l1,l2,l3,l4,QV]
theorem p9 (hx:El x (2^52)) (lk:k.length=32) (xk:∀ x∈k,x<256):∃ r,QK T 132 [eV x,.agg (u8s k).toArray]=some (eV r)∧El r (2^52)∧fe r=Go.Fp.pow (fe x) (num 256 k):=by
 have hK:=num_lt xk
 rw [lk,show (256:Nat)^32=2^256 from by rw [show (256:Nat)=2^8 from rfl,←Ja]] at hK
 obtain ⟨st,hb,r,rfl,hr1,hr2⟩:=Zi (T:=T) (base:=0) (id:=0) (body:=RO)
  (fun j st=>∃ r:List Nat,st=pwI x k r ((255:Int)-j) []∧El r (2^52)∧fe r=Go.Fp.pow (fe x) (num 256 k/2^(256-j)))
  (Q:=fun st=>∃ r:List Nat,st=pwI x k r (-1) [(9,.bool false)]∧El r (2^52)∧fe r=Go.Fp.pow (fe x) (num 256 k))
  256 (s:=pwI x k [1,0,0,0,0] 255 []) ⟨_,rfl,DD,by rw [DC,Kw,JF hK]; rfl⟩
  (fun j st hj hs=>by
   obtain ⟨r,rfl,h1,h2⟩:=hs
   obtain ⟨i,hi⟩:∃ i,256-j=i+1:=⟨255-j,by omega⟩
   rw [hi] at h2
   obtain ⟨r',g1,g2,g3⟩:=p8 (ex:=[]) hx lk xk (i:=i) (by omega) h1 h2
   rw [show (255:Int)-j=(i:Int) by omega]
   refine ⟨_,g1,r',?_,g2,?_⟩
   ·rw [show (255:Int)-((j+1:Nat):Int)=(i:Int)-1 by omega]
   ·rw [show 256-(j+1)=i by omega]; exact g3)
  (fun st hs=>by
   obtain ⟨r,rfl,h1,h2⟩:=hs
   rw [Q4,ZF,Jt] at h2
   have e:((0:Int) ≤ -1)=False:=by decide
   refine ⟨_,?_,r,rfl,h1,h2⟩
   rw [show (255:Int)-((256:Nat):Int) = -1 by omega]
   simp only [pwI,RO,Qs,quiet,cF,JE,ZI,↓pQ,reduceCtorEq,seval,-Qb,cL,e])
 refine ⟨r,?_,hr1,hr2⟩
 have hz5:Qa 5 (Value.int .u64 0)=ns .u64 [0,0,0,0,0]:=rfl
 have hs:=Hu (n:=1) (by decide)
 have l2:([1,0,0,0,0]:List Nat).length=5:=rfl
 have l0:([0,0,0,0,0]:List Nat).length=5:=rfl
 have l1:=hx.len
 have l3:=hr1.len
 simp only [Yf] at hs
 simp only [pwI,Qn,Ql] at hb
 apply QI (fn:=a83) rfl
 simp only [a83,Qs,quiet,cF,JE,ZI,↓pQ,reduceCtorEq,seval,-Qb,cL,cJ,hz5,hs,hb,pwI,Qz,Q7,Zc,Q8,Q9,l0,l1,l2,l3,QV]
 rfl
def onX (i:Nat):List Nat:=dig (2^8) 32 (2^i-1)
def onI (less:Value) (n:Int) (k:List Nat) (i:Nat) (ex:Env):St:=⟨[(1,less),(4,.pointer (some ⟨0,0,none⟩)),(5,.pointer (some ⟨1,0,none⟩)),(7,.int .i64 n),(8,.int .i64 i)]++ex,[⟨u8s (dig 256 32 0),true,true,true,1⟩,⟨u8s k,true,true,true,1⟩],[]⟩
theorem pY {less:Value} (hn:n≤256) (hi:i<n):Q2 T 0 C5 (onI less n (onX i) i [])=some (.normal,onI less n (onX (i+1)) (i+1) []):=by
 have hlen:(onX i).length=32:=Zd _ _ _
 obtain ⟨y,hy⟩:∃ b,(onX i)[i/8]?=some b:=⟨_,Qf (by omega)⟩
 have hyc:=Jx hy
 have hy':y<2^8:=Vl (by decide) (Qp hy)
 have hsm:(2:Nat)^(i%8)≤2^7:=Zk (by decide) (by have:=Q5 i (by decide:0<8); omega)
 have hp:0<(2:Nat)^i:=JM (by decide)
 have hput:=TJ (w:=8) (m:=32) (q:=i/8) (s:=i%8) (y:=1) (M:=2^i-1) (by omega) (Q5 _ (by decide)) (by rw [Zz]; omega) (by omega)
 rw [Zz,show 2^i-1+1*2^i=2^(i+1)-1 by rw [Ze]; omega] at hput
 have hgd:(dig (2^8) 32 (2^i-1)).getD (i/8) 0=y:=by rw [QA]; unfold onX at hy; rw [hy]; rfl
 rw [hgd,Xf] at hput
 have hset:=Xb (onX i) (i/8) (y|||2^(i%8))
 rw [show (onX i).set (i/8) (y|||2^(i%8))=onX (i+1) from hput] at hset
 have s1:(2:Int)^min (i%8) IntKind.u8.bits=((2^(i%8):Nat):Int):=BK (Js (Q5 _ (by decide)))
 have o1:Zp .or .u8 (y:Int) ((2^(i%8):Nat):Int)=((y|||2^(i%8):Nat):Int):=XY rfl (by show _<256; omega) (by show _<256; omega)
 have n1:(2^(i%8))%256=2^(i%8):=Qv (ZX hsm (by decide))
 have w2:IntKind.i64.wrap ((i/8:Nat):Int)=((i/8:Nat):Int):=ZT (by omega)
 have w3:IntKind.i64.wrap ((i+1:Nat):Int)=((i+1:Nat):Int):=ZT (by omega)
 have e1:((i:Int)<(n:Int))=True:=eq_true (by omega)
 have e3:(((i/8:Nat):Int)<32)=True:=eq_true (by omega)
 have e4:(((i%8:Nat):Int)<0)=False:=eq_false (by omega)
 have e6:i/8+1≤32:=by omega
 have p1:1*2^(i%8)=2^(i%8):=Xf _
 simp only [onI,C5,Qs,quiet,cF,JE,ZI,↓pQ,reduceCtorEq,seval,-Qb,cL,cJ,cU,hyc,s1,o1,n1,w2,w3,e1,e3,e4,e6,p1,hset,Qq,hlen]
theorem PI (hn:n≤256) (h8:8≤n) (hl:less<256):QK T 133 [.int .i64 n,.int .u8 less]=some (.agg (u8s (dig 256 32 (2^n-1-less))).toArray):=by
 have hb:=ZV (T:=T) (base:=0) (id:=0) (body:=C5) (fun i=>onI (.int .u8 less) n (onX i) i []) (s':=onI (.int .u8 less) n (onX n) n [(9,.bool false)]) n (fun i hi=>pY hn hi) (by
  have e1:((n:Int)<(n:Int))=False:=eq_false (by omega)
  simp only [onI,C5,Qs,quiet,cF,JE,ZI,↓pQ,reduceCtorEq,seval,-Qb,cL,e1])
 rw [show onX 0=dig 256 32 0 from rfl] at hb
 have hp8:(256:Nat)≤2^n:=by
  have:=Zk (n:=2) (by decide) h8
  exact this
 have hmod:2^n%256=0:=by
  rw [show n=8+(n-8) by omega,JD]; exact Nat.mul_mod_right _ _
 have h0:(onX n)[0]?=some 255:=by
  unfold onX
  rw [XR (by decide),ZF,Jt]
  congr 1
  omega
 have h0c:=Jx h0
 have w0:IntKind.u8.wrap (255-(less:Int))=((255-less:Nat):Int):=by rw [wrap_u8]; omega
 have hset:=Xb (onX n) 0 (255-less)
 have hfin:(onX n).set 0 (255-less)=dig 256 32 (2^n-1-less):=by
  apply HK (by rw [Q3]; exact Zd _ _ _)
  intro t ht
  by_cases h0t:t=0
  ·subst h0t
   rw [Qx (by rw [show (onX n).length=32 from Zd _ _ _]; decide),ZF,Jt]
   congr 1
   omega
  ·rw [Qu (Ne.symm h0t)]
   unfold onX
   rw [XR ht]
   congr 2
   obtain ⟨m,rfl⟩:∃ m,t=m+1:=⟨t-1,by omega⟩
   rw [show (2:Nat)^8=256 from rfl,Ze,Zj,←QT,←QT]
   congr 1
   omega
 rw [hfin] at hset
 simp only [Xk] at h0c
 have l1:(dig 256 32 (2^n-1-less)).length=32:=Zd _ _ _
 have l2:(onX n).length=32:=Zd _ _ _
 have l3:(dig 256 32 0).length=32:=rfl
 have hz32:Qa 32 (Value.int .u8 0)=u8s (dig 256 32 0):=rfl
 simp only [onI,Qn,Ql,QB] at hb
 apply QI (fn:=a84) rfl
 simp only [a84,Qs,quiet,cF,JE,ZI,↓pQ,reduceCtorEq,seval,-Qb,cL,cJ,hz32,hb,onI,h0c,w0,hset,Qq,l1,l2,l3]
 rfl
theorem YH {v:Nat}:∀ x∈dig 256 32 v,x<256:=fun _ h=>Vl (by decide) h
theorem D8 (hx:El x (2^52)) (hn:n≤256) (h8:8≤n) (hl:less<256):∃ r,QK T 132 [eV x,.agg (u8s (dig 256 32 (2^n-1-less))).toArray]=some (eV r)∧El r (2^52)∧fe r=Go.Fp.pow (fe x) (2^n-1-less):=by
 obtain ⟨r,h1,h2,h3⟩:=p9 (k:=dig 256 32 (2^n-1-less)) hx (Zd _ _ _) YH
 refine ⟨r,h1,h2,?_⟩
 rw [h3,XF (by decide),Qv]
 have h4:(2:Nat)^n≤256^32:=by
  rw [show (256:Nat)^32=2^256 from by rw [show (256:Nat)=2^8 from rfl,←Ja]]
  exact Zk (by decide) hn
 have:0<(2:Nat)^n:=JM (by decide)
 omega
theorem NM (hx:El x (2^52)):∃ r,QK T 77 [eV x]=some (eV r)∧El r (2^52)∧fe r=Go.Fp.iv (fe x):=by
 have h1:=PI (n:=255) (less:=20) (by decide) (by decide) (by decide)
 obtain ⟨r,h2,h3,h4⟩:=D8 (n:=255) (less:=20) hx (by decide) (by decide) (by decide)
 refine ⟨r,?_,h3,?_⟩
 ·have hz5:Qa 5 (Value.int .u64 0)=ns .u64 [0,0,0,0,0]:=rfl
  have l0:([0,0,0,0,0]:List Nat).length=5:=rfl
  have l1:=hx.len
  have l2:=h3.len
  simp only [Xk] at h1
  generalize dig 256 32 (2^255-1-20)=K at *
  apply QI (fn:=a56) rfl
  simp only [a56,Qs,quiet,cF,JE,ZI,↓pQ,reduceCtorEq,seval,-Qb,cL,cJ,hz5,h1,h2,Qz,Q7,Zc,Q8,Q9,l0,l1,l2,QV]
  rfl
 ·rw [h4]
  unfold Go.Fp.iv
  rw [Go.Fp.Hj]
end Go.Ev.YtpgphpkjlpkcbaaGreat
namespace Go.Ev
section
variable {T:Tab} {b:Nat}
theorem BN:∀ (o1 o2:List AOper) (s:St) (recs:List Rec),evOps T b (o1++o2) s recs=(evOps T b o1 s recs).bind fun r=>evOps T b o2 r.1 r.2
 | [],o2,s,recs=>by rw [KM]; rfl
 | o::o1,o2,s,recs=>by
  rw [Qn,XS,XS]
  cases hg:guardOf s.env o.guard with
  | none=>rfl
  | some g =>
   cases g with
   | false=>exact BN o1 o2 _ _
   | true =>
    cases hx:J5 T o.op s.env s.h with
    | none=>simp [hx]
    | some x =>
     simp only [hx,Qo]
     exact BN o1 o2 _ _
theorem DG:∀ (ops:List AOper) (s:St) (recs:List Rec) (s':St),steps T b false ops s=some s'→∃ m,evOps T b ops s recs=some (s',recs++m)
 | [],s,recs,s',h=>by
  simp only [steps,Qj] at h
  subst h
  exact ⟨[],by rw [KM,QF]⟩
 | o::r,s,recs,s',h=>by
  rw [XS]
  unfold steps at h
  cases hg:guardOf s.env o.guard with
  | none=>simp only [hg] at h; cases h
  | some g =>
   simp only [hg] at h
   cases g with
   | false =>
    obtain ⟨m,h1⟩:=DG r _ (recs++[(some [],[])]) s' h
    exact ⟨(some [],[])::m,by rw [h1]; simp⟩
   | true =>
    cases hx:J5 T o.op s.env s.h with
    | none=>simp [hx] at h
    | some x =>
     simp only [hx,Qo,Bool.false_and,ZE,if_false] at h
     obtain ⟨m,h1⟩:=DG r _ (recs++[(x.2.2.1,x.2.2.2)]) s' h
     exact ⟨(x.2.2.1,x.2.2.2)::m,by simp only [hx,Qo]; rw [h1]; simp⟩
theorem Tc {r1 r2:List Rec}:∀ {pairs:List (Nat×Nat)},(pairs.all fun p=>decide (p.1<r1.length)&&decide (p.2<r1.length))=true→Z6 r1 pairs=true→Z6 (r1++r2) pairs=true
 | [],_,_=>rfl
 | (i,j)::ps,h,k=>by
  simp only [Kx,ZR,decide_eq_true_eq] at h
  simp only [Z6,Kx,ZR] at k ⊢
  have ih:=Tc (r1:=r1) (r2:=r2) (pairs:=ps) h.2 k.2
  simp only [Z6] at ih
  refine ⟨?_,ih⟩
  rw [Qc h.1.1,Qc h.1.2]
  exact k.1
def VD:List (Nat×Nat)→Nat
 | []=>0
 | (_,j)::r=>if j+1≤VD r then VD r else j+1
theorem Sa:VD []=0:=rfl
theorem NH {i j:Nat} {r:List (Nat×Nat)}:VD ((i,j)::r)=if j+1≤VD r then VD r else j+1:=rfl
def Iw (T:Tab) (b:Nat) (ops:List AOper) (pairs:List (Nat×Nat)) (s:St):Option St :=
 gate ((pairs.all fun p=>decide (p.1<VD pairs)&&decide (p.2<VD pairs))=true∧VD pairs≤ops.length)
  ((steps T b true (ops.take (VD pairs)) s).bind fun s1=>steps T b false (ops.drop (VD pairs)) s1)
theorem cI {ops:List AOper} {pairs:List (Nat×Nat)} {s:St}:Iw T b ops pairs s=gate ((pairs.all fun p=>decide (p.1<VD pairs)&&decide (p.2<VD pairs))=true∧VD pairs≤ops.length)
  ((steps T b true (ops.take (VD pairs)) s).bind fun s1=>steps T b false (ops.drop (VD pairs)) s1):=Eq.trans rfl rfl
theorem Sh {ops:List AOper} {keep:Option (List Nat)} {p:Nat×Nat} {ps:List (Nat×Nat)} {s:St}:Q2 T b (.region ops keep (p::ps)) s=Ta ((Iw T b ops (p::ps) s).bind fun s'=>some (.normal,s'.after keep)) (YF T b (.region ops keep (p::ps)) s):=by
 cases hq:Iw T b ops (p::ps) s with
 | none=>rfl
 | some s' =>
  simp only [Qo,Ta]
  unfold Iw gate at hq
  split at hq
  ·rename_i hp
   simp only [Option.bind_eq_some_iff] at hq
   obtain ⟨s1,k1,k2⟩:=hq
   obtain ⟨recs,h1,h2,h3⟩:=U3 _ s [] s1 k1 (by simp)
   obtain ⟨m,h4⟩:=DG _ s1 recs s' k2
   simp only [ZW,QL,Q6,Zy hp.2] at h3
   rw [X7]
   conv=>lhs; rw [←Z3 (VD (p::ps)) ops]
   rw [BN,h1]
   simp only [Qo,h4]
   have hpk:=hp.1
   rw [←h3] at hpk
   rw [if_pos (Tc hpk (UM h2 hpk))]
  ·cases hq
end
theorem Rn {T:Tab} {b:Nat} {q:Bool}:∀ (o1 o2:List AOper) (s:St),steps T b q (o1++o2) s=(steps T b q o1 s).bind (steps T b q o2)
 | [],o2,s=>rfl
 | o::o1,o2,s=>by
  rw [Qn]
  unfold steps
  cases hg:guardOf s.env o.guard with
  | none=>rfl
  | some g =>
   cases g with
   | true =>
    simp only
    cases hx:J5 T o.op s.env s.h with
    | none=>rfl
    | some x =>
     simp only [Qo]
     split
     ·rfl
     ·exact Rn o1 o2 _
   | false=>exact Rn o1 o2 _
theorem Gp {T:Tab} {b:Nat} {q:Bool} {a1 a2 a3 a4 a5 a6 a7:AOper} {r:List AOper} {s:St}:steps T b q (a1::a2::a3::a4::a5::a6::a7::r) s=(steps T b q [a1,a2,a3,a4,a5,a6] s).bind fun s'=>steps T b q (a7::r) s':=by
 rw [←Rn]; rfl
def cK:=Qi cF (Qi (@JE) (Qi (@Sh) (Qi (@cI) (Qi (@Sa) (Qi (@NH) (Qi (@List.take_succ_cons.{0}) (Qi (@Xa.{0}) (Qi (@List.drop_succ_cons.{0}) (@List.drop_zero.{0})))))))))
def cW:=Qi cK (Qi cL cJ)
def pW:=Qi pQ (@Gp)
end Go.Ev
namespace Go.Ev.YtpgphpkjlpkcbaaGreat
open Go Go.Ev
attribute [local congr] JC JV JB JW Jz
set_option maxRecDepth 100000
variable {l a b x c y t x1 y1 z1 t1 m o:List Nat} {p q:Go.Cv.Pt Go.Fp.P Go.Fp.d} {n k i id:Nat} {z dd e px py rx ry:Go.Fp.Fe} {cs:List Value} {R:Ob} {H:List Ob}
theorem Qy (h:cs.length=n):cs.take n=cs:=Qm (by omega)
def pL (x y z t:List Nat):List Nat:=x++(y++(z++t))
def pV (x y z t:List Nat):Value := .agg (ns .u64 (pL x y z t)).toArray
theorem sS (x y z t:List Nat):rf (pV x y z t)=true:=ag _ _
theorem LX (x y z t:List Nat):(pV x y z t).cells.toList=ns .u64 (pL x y z t):=rfl
theorem aC (x y z t:List Nat):(pV x y z t).cells.size=(pL x y z t).length:=Q9 _ _
theorem sV (x y z t:List Nat):Z7 (pV x y z t)=true:=rfl
theorem aD (x y z t:List Nat):Value.agg (ns .u64 (pL x y z t)).toArray=pV x y z t:=rfl
theorem YC {z:List Nat} {b:Nat} (hx:El x b) (hy:El y b) (hz:El z b) (ht:El t b):(pL x y z t).length=20:=by
 simp [pL,hx.len,hy.len,hz.len,ht.len]
theorem P5 {z:List Nat} {b:Nat} (hx:El x b) (hy:El y b) (hz:El z b) (ht:El t b) :
  Zh 5 (ns .u64 (pL x y z t))=ns .u64 x∧Zh 5 (Jr 5 (ns .u64 (pL x y z t)))=ns .u64 y∧Zh 5 (Jr 10 (ns .u64 (pL x y z t)))=ns .u64 z∧Zh 5 (Jr 15 (ns .u64 (pL x y z t)))=ns .u64 t:=by
 obtain ⟨a0,a1,a2,a3,a4,rfl,-⟩:=hx.five
 obtain ⟨b0,b1,b2,b3,b4,rfl,-⟩:=hy.five
 obtain ⟨c0,c1,c2,c3,c4,rfl,-⟩:=hz.five
 obtain ⟨d0,d1,d2,d3,d4,rfl,-⟩:=ht.five
 exact ⟨rfl,rfl,rfl,rfl⟩
theorem Ui (ha:El a k) (hb:El b k):fillL (Qa 10 (Value.int .u64 0)) [(0,5,eV a),(5,5,eV b)]=some (ns .u64 (a++b)):=by
 obtain ⟨a0,a1,a2,a3,a4,rfl,-⟩:=ha.five
 obtain ⟨b0,b1,b2,b3,b4,rfl,-⟩:=hb.five
 rfl
theorem FH (ha:El a k) (hb:El b k) (hc:El c k):fillL (Qa 15 (Value.int .u64 0)) [(0,5,eV a),(5,5,eV b),(10,5,eV c)]=some (ns .u64 [a,b,c].flatten):=by
 obtain ⟨a0,a1,a2,a3,a4,rfl,-⟩:=ha.five
 obtain ⟨b0,b1,b2,b3,b4,rfl,-⟩:=hb.five
 obtain ⟨c0,c1,c2,c3,c4,rfl,-⟩:=hc.five
 rfl
theorem Th {d:List Nat} (ha:El a k) (hb:El b k) (hc:El c k) (hd:El d k):fillL (Qa 20 (Value.int .u64 0)) [(0,5,eV a),(5,5,eV b),(10,5,eV c),(15,5,eV d)]=some (ns .u64 (pL a b c d)):=by
 obtain ⟨a0,a1,a2,a3,a4,rfl,-⟩:=ha.five
 obtain ⟨b0,b1,b2,b3,b4,rfl,-⟩:=hb.five
 obtain ⟨c0,c1,c2,c3,c4,rfl,-⟩:=hc.five
 obtain ⟨d0,d1,d2,d3,d4,rfl,-⟩:=hd.five
 rfl
theorem aE (a b c d:List Nat):pL a b c d=[a,b,c,d].flatten:=by simp [pL]
theorem gj:El [2,0,0,0,0] (2^52):=Bh (by decide)
theorem fU:QK T 73 [.int .u32 2]=some (eV [2,0,0,0,0]):=Hu (n:=2) (by decide)
theorem OZ:fe [2,0,0,0,0]=2:=by rw [Bg]; rfl
theorem tX {x2 y2 z2 t2 d:List Nat} (Ex1:El x1 (2^52)) (Ey1:El y1 (2^52)) (Ez1:El z1 (2^52)) (Et1:El t1 (2^52)) (Ex2:El x2 (2^52)) (Ey2:El y2 (2^52)) (Ez2:El z2 (2^52)) (Et2:El t2 (2^52)) (Ed:El d (2^52)) :
  ∃ x y z t,QK T 102 [pV x1 y1 z1 t1,pV x2 y2 z2 t2,eV d]=some (pV x y z t)∧El x (2^52)∧El y (2^52)∧El z (2^52)∧El t (2^52) ∧
   ∃ a b c e:Go.Fp.Fe,a=(fe y1-fe x1)*(fe y2-fe x2)∧b=(fe y1+fe x1)*(fe y2+fe x2)∧c=1*2*fe d*fe t1*fe t2∧e=1*2*fe z1*fe z2 ∧
    fe x=(b-a)*(e-c)∧fe y=(e+c)*(b+a)∧fe z=(e-c)*(e+c)∧fe t=(b-a)*(b+a):=by
 obtain ⟨two,htwo⟩:∃ two:List Nat,two=[2,0,0,0,0]:=⟨_,rfl⟩
 have Etwo:El two (2^52):=by rw [htwo]; exact gj
 have vtwo:QK T 73 [.int .u32 2]=some (eV two):=by rw [htwo]; exact fU
 have ftwo:fe two=2:=by rw [htwo]; exact OZ
 clear htwo
 obtain ⟨r1,hr1,Er1,fr1⟩:=BT Ey1 Ex1
 obtain ⟨r2,hr2,Er2,fr2⟩:=BT Ey2 Ex2
 obtain ⟨r3,hr3,Er3,fr3⟩:=Xe Er1 Er2
 obtain ⟨r4,sr4,hr4,Er4,fr4⟩:=Yn (H:=[⟨ns .u64 (pL x1 y1 z1 t1),true,true,true,1⟩,⟨ns .u64 (pL x2 y2 z2 t2),true,true,true,1⟩,⟨ns .u64 d,true,true,true,1⟩,⟨Qa 20 (.int .u64 0),true,true,true,1⟩,⟨ns .u64 r3,true,true,true,1⟩,⟨ns .u64 (y1++x1),true,true,true,1⟩]) (id:=5) Ey1 Ex1 rfl
 simp only [Qn,Ql] at hr4
 obtain ⟨r5,sr5,hr5,Er5,fr5⟩:=Yn (H:=[⟨ns .u64 (pL x1 y1 z1 t1),true,true,true,1⟩,⟨ns .u64 (pL x2 y2 z2 t2),true,true,true,1⟩,⟨ns .u64 d,true,true,true,1⟩,⟨Qa 20 (.int .u64 0),true,true,true,1⟩,⟨ns .u64 r3,true,true,true,1⟩,⟨ns .u64 (y1++x1),true,true,true,1⟩,⟨ns .u64 r4,true,true,true,1⟩,⟨ns .u64 sr4,true,true,true,1⟩,⟨ns .u64 y1,true,true,true,1⟩,⟨ns .u64 x1,true,true,true,1⟩,⟨ns .u64 (y2++x2),true,true,true,1⟩]) (id:=10) Ey2 Ex2 rfl
 simp only [Qn,Ql] at hr5
 obtain ⟨r6,hr6,Er6,fr6⟩:=Xe Er4 Er5
 obtain ⟨r7,hr7,Er7,fr7⟩:=Uy (H:=[⟨ns .u64 (pL x1 y1 z1 t1),true,true,true,1⟩,⟨ns .u64 (pL x2 y2 z2 t2),true,true,true,1⟩,⟨ns .u64 d,true,true,true,1⟩,⟨Qa 20 (.int .u64 0),true,true,true,1⟩,⟨ns .u64 r3,true,true,true,1⟩,⟨ns .u64 (y1++x1),true,true,true,1⟩,⟨ns .u64 r4,true,true,true,1⟩,⟨ns .u64 sr4,true,true,true,1⟩,⟨ns .u64 y1,true,true,true,1⟩,⟨ns .u64 x1,true,true,true,1⟩,⟨ns .u64 (y2++x2),true,true,true,1⟩,⟨ns .u64 r5,true,true,true,1⟩,⟨ns .u64 sr5,true,true,true,1⟩,⟨ns .u64 y2,true,true,true,1⟩,⟨ns .u64 x2,true,true,true,1⟩,⟨ns .u64 r6,true,true,true,1⟩,⟨ns .u64 [two,d,t1,t2].flatten,true,true,true,1⟩]) (id:=16) (n:=4) (xs:=[two,d,t1,t2]) rfl (by decide) (by intro w hw; simp only [J0,JG,or_false] at hw; rcases hw with rfl | rfl | rfl | rfl<;>assumption) rfl
 simp only [Qn,Ql,J7,Xq,Xu,Vu] at hr7 fr7
 obtain ⟨r8,hr8,Er8,fr8⟩:=Uy (H:=[⟨ns .u64 (pL x1 y1 z1 t1),true,true,true,1⟩,⟨ns .u64 (pL x2 y2 z2 t2),true,true,true,1⟩,⟨ns .u64 d,true,true,true,1⟩,⟨Qa 20 (.int .u64 0),true,true,true,1⟩,⟨ns .u64 r3,true,true,true,1⟩,⟨ns .u64 (y1++x1),true,true,true,1⟩,⟨ns .u64 r4,true,true,true,1⟩,⟨ns .u64 sr4,true,true,true,1⟩,⟨ns .u64 y1,true,true,true,1⟩,⟨ns .u64 x1,true,true,true,1⟩,⟨ns .u64 (y2++x2),true,true,true,1⟩,⟨ns .u64 r5,true,true,true,1⟩,⟨ns .u64 sr5,true,true,true,1⟩,⟨ns .u64 y2,true,true,true,1⟩,⟨ns .u64 x2,true,true,true,1⟩,⟨ns .u64 r6,true,true,true,1⟩,⟨ns .u64 [two,d,t1,t2].flatten,true,true,true,1⟩,⟨ns .u64 r7,true,true,true,1⟩,⟨ns .u64 r7,true,true,true,1⟩,⟨ns .u64 two,true,true,true,1⟩,⟨ns .u64 d,true,true,true,1⟩,⟨ns .u64 t1,true,true,true,1⟩,⟨ns .u64 t2,true,true,true,1⟩,⟨ns .u64 r7,true,true,true,1⟩,⟨ns .u64 [two,z1,z2].flatten,true,true,true,1⟩]) (id:=24) (n:=3) (xs:=[two,z1,z2]) rfl (by decide) (by intro w hw; simp only [J0,JG,or_false] at hw; rcases hw with rfl | rfl | rfl<;>assumption) rfl
 simp only [Qn,Ql,J7,Xq,Xu,Vu] at hr8 fr8
 obtain ⟨r9,hr9,Er9,fr9⟩:=BT Er6 Er3
 obtain ⟨r10,hr10,Er10,fr10⟩:=BT Er8 Er7
 obtain ⟨r11,sr11,hr11,Er11,fr11⟩:=Yn (H:=[⟨ns .u64 (pL x1 y1 z1 t1),true,true,true,1⟩,⟨ns .u64 (pL x2 y2 z2 t2),true,true,true,1⟩,⟨ns .u64 d,true,true,true,1⟩,⟨Qa 20 (.int .u64 0),true,true,true,1⟩,⟨ns .u64 r3,true,true,true,1⟩,⟨ns .u64 (y1++x1),true,true,true,1⟩,⟨ns .u64 r4,true,true,true,1⟩,⟨ns .u64 sr4,true,true,true,1⟩,⟨ns .u64 y1,true,true,true,1⟩,⟨ns .u64 x1,true,true,true,1⟩,⟨ns .u64 (y2++x2),true,true,true,1⟩,⟨ns .u64 r5,true,true,true,1⟩,⟨ns .u64 sr5,true,true,true,1⟩,⟨ns .u64 y2,true,true,true,1⟩,⟨ns .u64 x2,true,true,true,1⟩,⟨ns .u64 r6,true,true,true,1⟩,⟨ns .u64 [two,d,t1,t2].flatten,true,true,true,1⟩,⟨ns .u64 r7,true,true,true,1⟩,⟨ns .u64 r7,true,true,true,1⟩,⟨ns .u64 two,true,true,true,1⟩,⟨ns .u64 d,true,true,true,1⟩,⟨ns .u64 t1,true,true,true,1⟩,⟨ns .u64 t2,true,true,true,1⟩,⟨ns .u64 r7,true,true,true,1⟩,⟨ns .u64 [two,z1,z2].flatten,true,true,true,1⟩,⟨ns .u64 r8,true,true,true,1⟩,⟨ns .u64 r8,true,true,true,1⟩,⟨ns .u64 two,true,true,true,1⟩,⟨ns .u64 z1,true,true,true,1⟩,⟨ns .u64 z2,true,true,true,1⟩,⟨ns .u64 r8,true,true,true,1⟩,⟨ns .u64 (r8++r7),true,true,true,1⟩]) (id:=31) Er8 Er7 rfl
 simp only [Qn,Ql] at hr11
 obtain ⟨r12,sr12,hr12,Er12,fr12⟩:=Yn (H:=[⟨ns .u64 (pL x1 y1 z1 t1),true,true,true,1⟩,⟨ns .u64 (pL x2 y2 z2 t2),true,true,true,1⟩,⟨ns .u64 d,true,true,true,1⟩,⟨Qa 20 (.int .u64 0),true,true,true,1⟩,⟨ns .u64 r3,true,true,true,1⟩,⟨ns .u64 (y1++x1),true,true,true,1⟩,⟨ns .u64 r4,true,true,true,1⟩,⟨ns .u64 sr4,true,true,true,1⟩,⟨ns .u64 y1,true,true,true,1⟩,⟨ns .u64 x1,true,true,true,1⟩,⟨ns .u64 (y2++x2),true,true,true,1⟩,⟨ns .u64 r5,true,true,true,1⟩,⟨ns .u64 sr5,true,true,true,1⟩,⟨ns .u64 y2,true,true,true,1⟩,⟨ns .u64 x2,true,true,true,1⟩,⟨ns .u64 r6,true,true,true,1⟩,⟨ns .u64 [two,d,t1,t2].flatten,true,true,true,1⟩,⟨ns .u64 r7,true,true,true,1⟩,⟨ns .u64 r7,true,true,true,1⟩,⟨ns .u64 two,true,true,true,1⟩,⟨ns .u64 d,true,true,true,1⟩,⟨ns .u64 t1,true,true,true,1⟩,⟨ns .u64 t2,true,true,true,1⟩,⟨ns .u64 r7,true,true,true,1⟩,⟨ns .u64 [two,z1,z2].flatten,true,true,true,1⟩,⟨ns .u64 r8,true,true,true,1⟩,⟨ns .u64 r8,true,true,true,1⟩,⟨ns .u64 two,true,true,true,1⟩,⟨ns .u64 z1,true,true,true,1⟩,⟨ns .u64 z2,true,true,true,1⟩,⟨ns .u64 r8,true,true,true,1⟩,⟨ns .u64 (r8++r7),true,true,true,1⟩,⟨ns .u64 r11,true,true,true,1⟩,⟨ns .u64 sr11,true,true,true,1⟩,⟨ns .u64 r8,true,true,true,1⟩,⟨ns .u64 r7,true,true,true,1⟩,⟨ns .u64 (r6++r3),true,true,true,1⟩]) (id:=36) Er6 Er3 rfl
 simp only [Qn,Ql] at hr12
 obtain ⟨r13,hr13,Er13,fr13⟩:=Xe Er9 Er10
 obtain ⟨r14,hr14,Er14,fr14⟩:=Xe Er11 Er12
 obtain ⟨r15,hr15,Er15,fr15⟩:=Xe Er10 Er11
 obtain ⟨r16,hr16,Er16,fr16⟩:=Xe Er9 Er12
 refine ⟨r13,r14,r15,r16,?_,Er13,Er14,Er15,Er16,fe r3,fe r6,fe r7,fe r8,?_⟩
 ·obtain ⟨q10,q11,q12,q13⟩:=P5 Ex1 Ey1 Ez1 Et1
  obtain ⟨q20,q21,q22,q23⟩:=P5 Ex2 Ey2 Ez2 Et2
  have p1:=YC Ex1 Ey1 Ez1 Et1
  have p2:=YC Ex2 Ey2 Ez2 Et2
  have p3:=YC Er13 Er14 Er15 Er16
  have k4:=Th Etwo Ed Et1 Et2
  rw [aE] at k4
  have k3:=FH Etwo Ez1 Ez2
  have kp:=Th Er13 Er14 Er15 Er16
  have m1:=Ui Ey1 Ex1
  have m2:=Ui Ey2 Ex2
  have m3:=Ui Er8 Er7
  have m4:=Ui Er6 Er3
  have Lx1:=Ex1.len
  have Ly1:=Ey1.len
  have Lz1:=Ez1.len
  have Lt1:=Et1.len
  have Lx2:=Ex2.len
  have Ly2:=Ey2.len
  have Lz2:=Ez2.len
  have Lt2:=Et2.len
  have Ld:=Ed.len
  have Ltwo:=Etwo.len
  have Lr1:=Er1.len
  have Lr2:=Er2.len
  have Lr3:=Er3.len
  have Lr4:=Er4.len
  have Lr5:=Er5.len
  have Lr6:=Er6.len
  have Lr7:=Er7.len
  have Lr8:=Er8.len
  have Lr9:=Er9.len
  have Lr10:=Er10.len
  have Lr11:=Er11.len
  have Lr12:=Er12.len
  have Lr13:=Er13.len
  have Lr14:=Er14.len
  have Lr15:=Er15.len
  have Lr16:=Er16.len
  apply QI (fn:=a54) rfl
  simp only [a54,Qs,quiet,cW,↓pW,reduceCtorEq,seval,-Qb,Qe,Qy,LX,aC,sV,aD,sS,Qz,Q7,Zc,Q8,QV,Q9,q10,q11,q12,q13,q20,q21,q22,q23,p1,p2,p3,k4,k3,kp,m1,m2,m3,m4,vtwo,hr1,hr2,hr3,hr4,hr5,hr6,hr7,hr8,hr9,hr10,hr11,hr12,hr13,hr14,hr15,hr16,Lx1,Ly1,Lz1,Lt1,Lx2,Ly2,Lz2,Lt2,Ld,Ltwo,Lr1,Lr2,Lr3,Lr4,Lr5,Lr6,Lr7,Lr8,Lr9,Lr10,Lr11,Lr12,Lr13,Lr14,Lr15,Lr16]
  rfl
 ·refine ⟨?_,?_,?_,?_,?_,?_,?_,?_⟩
  ·rw [fr3,fr1,fr2]
  ·rw [fr6,fr4,fr5]
  ·rw [fr7,ftwo]
  ·rw [fr8,ftwo]
  ·rw [fr13,fr9,fr10]
  ·rw [fr14,fr11,fr12]
  ·rw [fr15,fr10,fr11]
  ·rw [fr16,fr9,fr12]
theorem oE (Ex1:El x1 (2^52)) (Ey1:El y1 (2^52)) (Ez1:El z1 (2^52)) (Et1:El t1 (2^52)) :
  ∃ x y z t,QK T 95 [pV x1 y1 z1 t1]=some (pV x y z t)∧El x (2^52)∧El y (2^52)∧El z (2^52)∧El t (2^52) ∧
   ∃ a b c h e g f:Go.Fp.Fe,a=fe x1*fe x1∧b=fe y1*fe y1∧c=1*2*fe z1*fe z1∧h=a+b∧e=h-(fe x1+fe y1)*(fe x1+fe y1)∧g=a-b∧f=c+g ∧
    fe x=e*f∧fe y=g*h∧fe z=f*g∧fe t=e*h:=by
 obtain ⟨two,htwo⟩:∃ two:List Nat,two=[2,0,0,0,0]:=⟨_,rfl⟩
 have Etwo:El two (2^52):=by rw [htwo]; exact gj
 have vtwo:QK T 73 [.int .u32 2]=some (eV two):=by rw [htwo]; exact fU
 have ftwo:fe two=2:=by rw [htwo]; exact OZ
 clear htwo
 obtain ⟨r1,hr1,Er1,fr1⟩:=Xe Ex1 Ex1
 obtain ⟨r2,hr2,Er2,fr2⟩:=Xe Ey1 Ey1
 obtain ⟨r3,hr3,Er3,fr3⟩:=Uy (H:=[⟨ns .u64 (pL x1 y1 z1 t1),true,true,true,1⟩,⟨Qa 20 (.int .u64 0),true,true,true,1⟩,⟨ns .u64 r1,true,true,true,1⟩,⟨ns .u64 r2,true,true,true,1⟩,⟨ns .u64 [two,z1,z1].flatten,true,true,true,1⟩]) (id:=4) (n:=3) (xs:=[two,z1,z1]) rfl (by decide) (by intro w hw; simp only [J0,JG,or_false] at hw; rcases hw with rfl | rfl | rfl<;>assumption) rfl
 simp only [Qn,Ql,J7,Xq,Xu,Vu] at hr3 fr3
 obtain ⟨r4,sr4,hr4,Er4,fr4⟩:=Yn (H:=[⟨ns .u64 (pL x1 y1 z1 t1),true,true,true,1⟩,⟨Qa 20 (.int .u64 0),true,true,true,1⟩,⟨ns .u64 r1,true,true,true,1⟩,⟨ns .u64 r2,true,true,true,1⟩,⟨ns .u64 [two,z1,z1].flatten,true,true,true,1⟩,⟨ns .u64 r3,true,true,true,1⟩,⟨ns .u64 r3,true,true,true,1⟩,⟨ns .u64 two,true,true,true,1⟩,⟨ns .u64 z1,true,true,true,1⟩,⟨ns .u64 z1,true,true,true,1⟩,⟨ns .u64 r3,true,true,true,1⟩,⟨ns .u64 (r1++r2),true,true,true,1⟩]) (id:=11) Er1 Er2 rfl
 simp only [Qn,Ql] at hr4
 obtain ⟨r5,sr5,hr5,Er5,fr5⟩:=Yn (H:=[⟨ns .u64 (pL x1 y1 z1 t1),true,true,true,1⟩,⟨Qa 20 (.int .u64 0),true,true,true,1⟩,⟨ns .u64 r1,true,true,true,1⟩,⟨ns .u64 r2,true,true,true,1⟩,⟨ns .u64 [two,z1,z1].flatten,true,true,true,1⟩,⟨ns .u64 r3,true,true,true,1⟩,⟨ns .u64 r3,true,true,true,1⟩,⟨ns .u64 two,true,true,true,1⟩,⟨ns .u64 z1,true,true,true,1⟩,⟨ns .u64 z1,true,true,true,1⟩,⟨ns .u64 r3,true,true,true,1⟩,⟨ns .u64 (r1++r2),true,true,true,1⟩,⟨ns .u64 r4,true,true,true,1⟩,⟨ns .u64 sr4,true,true,true,1⟩,⟨ns .u64 r1,true,true,true,1⟩,⟨ns .u64 r2,true,true,true,1⟩,⟨ns .u64 r4,true,true,true,1⟩,⟨ns .u64 (x1++y1),true,true,true,1⟩]) (id:=17) Ex1 Ey1 rfl
 simp only [Qn,Ql] at hr5
 obtain ⟨r6,hr6,Er6,fr6⟩:=Xe Er5 Er5
 obtain ⟨r7,hr7,Er7,fr7⟩:=BT Er4 Er6
 obtain ⟨r8,hr8,Er8,fr8⟩:=BT Er1 Er2
 obtain ⟨r9,sr9,hr9,Er9,fr9⟩:=Yn (H:=[⟨ns .u64 (pL x1 y1 z1 t1),true,true,true,1⟩,⟨Qa 20 (.int .u64 0),true,true,true,1⟩,⟨ns .u64 r1,true,true,true,1⟩,⟨ns .u64 r2,true,true,true,1⟩,⟨ns .u64 [two,z1,z1].flatten,true,true,true,1⟩,⟨ns .u64 r3,true,true,true,1⟩,⟨ns .u64 r3,true,true,true,1⟩,⟨ns .u64 two,true,true,true,1⟩,⟨ns .u64 z1,true,true,true,1⟩,⟨ns .u64 z1,true,true,true,1⟩,⟨ns .u64 r3,true,true,true,1⟩,⟨ns .u64 (r1++r2),true,true,true,1⟩,⟨ns .u64 r4,true,true,true,1⟩,⟨ns .u64 sr4,true,true,true,1⟩,⟨ns .u64 r1,true,true,true,1⟩,⟨ns .u64 r2,true,true,true,1⟩,⟨ns .u64 r4,true,true,true,1⟩,⟨ns .u64 (x1++y1),true,true,true,1⟩,⟨ns .u64 r5,true,true,true,1⟩,⟨ns .u64 sr5,true,true,true,1⟩,⟨ns .u64 x1,true,true,true,1⟩,⟨ns .u64 y1,true,true,true,1⟩,⟨ns .u64 r5,true,true,true,1⟩,⟨ns .u64 r7,true,true,true,1⟩,⟨ns .u64 r8,true,true,true,1⟩,⟨ns .u64 (r3++r8),true,true,true,1⟩]) (id:=25) Er3 Er8 rfl
 simp only [Qn,Ql] at hr9
 obtain ⟨r10,hr10,Er10,fr10⟩:=Xe Er7 Er9
 obtain ⟨r11,hr11,Er11,fr11⟩:=Xe Er8 Er4
 obtain ⟨r12,hr12,Er12,fr12⟩:=Xe Er9 Er8
 obtain ⟨r13,hr13,Er13,fr13⟩:=Xe Er7 Er4
 refine ⟨r10,r11,r12,r13,?_,Er10,Er11,Er12,Er13,fe r1,fe r2,fe r3,fe r4,fe r7,fe r8,fe r9,?_⟩
 ·obtain ⟨q10,q11,q12,q13⟩:=P5 Ex1 Ey1 Ez1 Et1
  have p1:=YC Ex1 Ey1 Ez1 Et1
  have p3:=YC Er10 Er11 Er12 Er13
  have k3:=FH Etwo Ez1 Ez1
  have kp:=Th Er10 Er11 Er12 Er13
  have m1:=Ui Er1 Er2
  have m2:=Ui Ex1 Ey1
  have m3:=Ui Er3 Er8
  have Lx1:=Ex1.len
  have Ly1:=Ey1.len
  have Lz1:=Ez1.len
  have Lt1:=Et1.len
  have Ltwo:=Etwo.len
  have Lr1:=Er1.len
  have Lr2:=Er2.len
  have Lr3:=Er3.len
  have Lr4:=Er4.len
  have Lr5:=Er5.len
  have Lr6:=Er6.len
  have Lr7:=Er7.len
  have Lr8:=Er8.len
  have Lr9:=Er9.len
  have Lr10:=Er10.len
  have Lr11:=Er11.len
  have Lr12:=Er12.len
  have Lr13:=Er13.len
  apply QI (fn:=a53) rfl
  simp only [a53,Qs,quiet,cW,↓pW,reduceCtorEq,seval,-Qb,Qe,Qy,LX,aC,sV,aD,sS,Qz,Q7,Zc,Q8,QV,Q9,q10,q11,q12,q13,p1,p3,k3,kp,m1,m2,m3,vtwo,hr1,hr2,hr3,hr4,hr5,hr6,hr7,hr8,hr9,hr10,hr11,hr12,hr13,Lx1,Ly1,Lz1,Lt1,Ltwo,Lr1,Lr2,Lr3,Lr4,Lr5,Lr6,Lr7,Lr8,Lr9,Lr10,Lr11,Lr12,Lr13]
  rfl
 ·refine ⟨fr1,fr2,by rw [fr3,ftwo],fr4,by rw [fr7,fr6,fr5],fr8,fr9,?_,?_,?_,?_⟩
  ·rw [fr10]
  ·rw [fr11]
  ·rw [fr12]
  ·rw [fr13]
structure Rep (x y z t:List Nat) (p:Go.Cv.Pt Go.Fp.P Go.Fp.d):Prop where
 ex:El x (2^52)
 ey:El y (2^52)
 ez:El z (2^52)
 et:El t (2^52)
 nz:fe z≠0
 x:fe x=p.x*fe z
 y:fe y=p.y*fe z
 t:fe t=p.x*p.y*fe z
abbrev JX (p q:Go.Cv.Pt Go.Fp.P Go.Fp.d):Go.Cv.Pt Go.Fp.P Go.Fp.d:=Go.Cv.Pt.add Go.Fp.fld p q
abbrev Jp (k:Nat) (p:Go.Cv.Pt Go.Fp.P Go.Fp.d):Go.Cv.Pt Go.Fp.P Go.Fp.d:=Go.Cv.Pt.mul Go.Fp.fld k p
abbrev Ks:Go.Cv.Pt Go.Fp.P Go.Fp.d:=Go.Cv.Pt.zero
theorem Fh {x1 y1 z1 t1 x2 y2 z2 t2 a b c x y t qx qy:Go.Fp.Fe} (hx1:x1=px*z1) (hy1:y1=py*z1) (ht1:t1=px*py*z1) (hx2:x2=qx*z2) (hy2:y2=qy*z2) (ht2:t2=qx*qy*z2)
 (ha:a=(y1-x1)*(y2-x2)) (hb:b=(y1+x1)*(y2+x2)) (hc:c=1*2*dd*t1*t2) (he:e=1*2*z1*z2) (hx:x=(b-a)*(e-c)) (hy:y=(e+c)*(b+a)) (hz:z=(e-c)*(e+c)) (ht:t=(b-a)*(b+a))
 (hrx:rx*(1+dd*px*qx*py*qy)=px*qy+qx*py) (hry:ry*(1-dd*px*qx*py*qy)=py*qy+px*qx) :
    x=rx*z∧y=ry*z∧t=rx*ry*z∧z=(2*z1*z2)*(2*z1*z2)*((1-dd*px*qx*py*qy)*(1+dd*px*qx*py*qy)):=by
  have e1:b-a=(2*z1*z2)*(px*qy+qx*py):=by rw [hb,ha,hx1,hy1,hx2,hy2]; grobner
  have e2:b+a=(2*z1*z2)*(py*qy+px*qx):=by rw [hb,ha,hx1,hy1,hx2,hy2]; grobner
  have e3:e-c=(2*z1*z2)*(1-dd*px*qx*py*qy):=by rw [he,hc,ht1,ht2]; grobner
  have e4:e+c=(2*z1*z2)*(1+dd*px*qx*py*qy):=by rw [he,hc,ht1,ht2]; grobner
  rw [e1,←hrx,e3] at hx
  rw [e4,e2,←hry] at hy
  rw [e3,e4] at hz
  rw [e1,e2,←hrx,←hry] at ht
  clear hx1 hy1 ht1 hx2 hy2 ht2 ha hb hc he hrx hry e1 e2 e3 e4
  generalize 1+dd*px*qx*py*qy=k at *
  generalize 1-dd*px*qx*py*qy=m at *
  generalize 2*z1*z2=w at *
  subst hx hy hz ht
  refine ⟨?_,?_,?_,?_⟩<;>grobner
theorem Rep.plus {x1 y1 z1 t1 x2 y2 z2 t2 d:List Nat} {p q:Go.Cv.Pt Go.Fp.P Go.Fp.d} (h1:Rep x1 y1 z1 t1 p) (h2:Rep x2 y2 z2 t2 q) (Ed:El d (2^52)) (hd:fe d=Go.Fp.d) :
  ∃ x y z t,QK T 102 [pV x1 y1 z1 t1,pV x2 y2 z2 t2,eV d]=some (pV x y z t)∧Rep x y z t (JX p q):=by
 obtain ⟨x,y,z,t,hv,Ex,Ey,Ez,Et,a,b,c,e,ha,hb,hc,he,hx,hy,hz,ht⟩:=tX h1.ex h1.ey h1.ez h1.et h2.ex h2.ey h2.ez h2.et Ed
 rw [hd] at hc
 obtain ⟨g1,g2,g3,g4⟩:=Fh h1.x h1.y h1.t h2.x h2.y h2.t ha hb hc he hx hy hz ht (Go.Cv.Dv Go.Fp.fld p q) (Go.Cv.Bz Go.Fp.fld p q)
 refine ⟨x,y,z,t,hv,Ex,Ey,Ez,Et,?_,g1,g2,g3⟩
 rw [g4]
 have F:=Go.Fp.fld
 have w:=F.mul_ne (F.mul_ne F.two h1.nz) h2.nz
 exact F.mul_ne (F.mul_ne w w) (F.mul_ne (F.denM p.on q.on) (F.denP p.on q.on))
theorem Pc {x1 y1 z1 a b c h g f x y t:Go.Fp.Fe} (hx1:x1=px*z1) (hy1:y1=py*z1) (on : -(px*px)+py*py=1+dd*(px*px)*(py*py))
 (ha:a=x1*x1) (hb:b=y1*y1) (hc:c=1*2*z1*z1) (hh:h=a+b) (he:e=h-(x1+y1)*(x1+y1)) (hg:g=a-b) (hf:f=c+g) (hx:x=e*f) (hy:y=g*h) (hz:z=f*g) (ht:t=e*h)
 (hrx:rx*(1+dd*px*px*py*py)=px*py+px*py) (hry:ry*(1-dd*px*px*py*py)=py*py+px*px) :
    x=rx*z∧y=ry*z∧t=rx*ry*z∧z = -((z1*z1)*(z1*z1)*((1-dd*px*px*py*py)*(1+dd*px*px*py*py))):=by
  have e1:e = -((z1*z1)*(px*py+px*py)):=by rw [he,hh,ha,hb,hx1,hy1]; grobner
  have e2:h=(z1*z1)*(py*py+px*px):=by rw [hh,ha,hb,hx1,hy1]; grobner
  have e3:g = -((z1*z1)*(1+dd*px*px*py*py)):=by
    have:1+dd*px*px*py*py=py*py-px*px:=by
      clear hx1 hy1 ha hb hc hh he hg hf hx hy hz ht hrx hry e1 e2
      grobner
    rw [this,hg,ha,hb,hx1,hy1]; grobner
  have e4:f=(z1*z1)*(1-dd*px*px*py*py):=by
    rw [hf,e3,hc]
    clear hx1 hy1 on ha hb hc hh he hg hf hx hy hz ht hrx hry e1 e2 e3
    grobner
  rw [←hrx] at e1
  rw [←hry] at e2
  clear hx1 hy1 on ha hb hc hh he hg hf hrx hry
  generalize 1+dd*px*px*py*py=k at *
  generalize 1-dd*px*px*py*py=m at *
  generalize z1*z1=w at *
  subst e1 e2 e3 e4 hx hy hz ht
  refine ⟨?_,?_,?_,?_⟩<;>grobner
theorem Rep.twice {x1 y1 z1 t1:List Nat} {p:Go.Cv.Pt Go.Fp.P Go.Fp.d} (h1:Rep x1 y1 z1 t1 p):∃ x y z t,QK T 95 [pV x1 y1 z1 t1]=some (pV x y z t)∧Rep x y z t (JX p p):=by
 obtain ⟨x,y,z,t,hv,Ex,Ey,Ez,Et,a,b,c,h,e,g,f,ha,hb,hc,hh,he,hg,hf,hx,hy,hz,ht⟩:=oE h1.ex h1.ey h1.ez h1.et
 obtain ⟨g1,g2,g3,g4⟩:=Pc h1.x h1.y p.on ha hb hc hh he hg hf hx hy hz ht (Go.Cv.Dv Go.Fp.fld p p) (Go.Cv.Bz Go.Fp.fld p p)
 refine ⟨x,y,z,t,hv,Ex,Ey,Ez,Et,?_,g1,g2,g3⟩
 rw [g4]
 have F:=Go.Fp.fld
 have w:=F.mul_ne h1.nz h1.nz
 have n:=F.mul_ne (F.mul_ne w w) (F.mul_ne (F.denM p.on p.on) (F.denP p.on p.on))
 intro h0
 exact n (by grobner)
def RepL (l:List Nat) (p:Go.Cv.Pt Go.Fp.P Go.Fp.d):Prop:=∃ x y z t,l=pL x y z t∧Rep x y z t p
theorem RepL.len {l:List Nat} {p:Go.Cv.Pt Go.Fp.P Go.Fp.d} (h:RepL l p):l.length=20:=by
 obtain ⟨x,y,z,t,rfl,h⟩:=h
 exact YC h.ex h.ey h.ez h.et
theorem sU {d:List Nat} (h1:RepL l p) (h2:RepL m q) (Ed:El d (2^52)) (hd:fe d=Go.Fp.d):∃ r,QK T 102 [eV l,eV m,eV d]=some (eV r)∧RepL r (JX p q):=by
 obtain ⟨x,y,z,t,rfl,h1⟩:=h1
 obtain ⟨x2,y2,z2,t2,rfl,h2⟩:=h2
 obtain ⟨a,b,c,e,h3,h4⟩:=h1.plus h2 Ed hd
 exact ⟨pL a b c e,h3,a,b,c,e,rfl,h4⟩
theorem Ig (h1:RepL l p):∃ r,QK T 95 [eV l]=some (eV r)∧RepL r (JX p p):=by
 obtain ⟨x,y,z,t,rfl,h1⟩:=h1
 obtain ⟨a,b,c,e,h3,h4⟩:=h1.twice
 exact ⟨pL a b c e,h3,a,b,c,e,rfl,h4⟩
def dK:List Nat:=dig 256 32 Go.Fp.dN
theorem vn:num 256 dK=Go.Fp.dN:=by decide +kernel
theorem dK_lt:∀ x∈dK,x<256:=fun _ h=>Vl (by decide) h
theorem AY:∃ r,QK T 91 []=some (eV r)∧El r (2^52)∧fe r=Go.Fp.d:=by
 have h:=dn (k:=dK) (Zd _ _ _) dK_lt
 refine ⟨dig (2^51) 5 (num 256 dK%2^255),?_,N0,?_⟩
 rotate_left
 ·unfold fe
  rw [R3,vn]
  rfl
 ·have hl:(dig (2^51) 5 (num 256 dK%2^255)).length=5:=Zd _ _ _
  have hf:fillL (Qa 32 (Value.int .u8 0)) [(0,1,.int .u8 163),(1,1,.int .u8 120),(2,1,.int .u8 89),(3,1,.int .u8 19),(4,1,.int .u8 202),(5,1,.int .u8 77),(6,1,.int .u8 235),(7,1,.int .u8 117),(8,1,.int .u8 171),(9,1,.int .u8 216),(10,1,.int .u8 65),(11,1,.int .u8 65),(12,1,.int .u8 77),(13,1,.int .u8 10),(14,1,.int .u8 112),(15,1,.int .u8 0),(16,1,.int .u8 152),(17,1,.int .u8 232),(18,1,.int .u8 121),(19,1,.int .u8 119),(20,1,.int .u8 121),(21,1,.int .u8 64),(22,1,.int .u8 199),(23,1,.int .u8 140),(24,1,.int .u8 115),(25,1,.int .u8 254),(26,1,.int .u8 111),(27,1,.int .u8 43),(28,1,.int .u8 238),(29,1,.int .u8 108),(30,1,.int .u8 3),(31,1,.int .u8 82)]=some (u8s dK):=by
   have:dK=[163,120,89,19,202,77,235,117,171,216,65,65,77,10,112,0,152,232,121,119,121,64,199,140,115,254,111,43,238,108,3,82]:=by decide +kernel
   rw [this]; rfl
  generalize dig (2^51) 5 (num 256 dK%2^255)=D at *
  apply QI (fn:=a52) rfl
  simp only [a52,Qs,quiet,cW,↓pW,reduceCtorEq,seval,-Qb,hf,h,Qe,Qy,Qz,Q7,Zc,Q8,QV,Q9,hl]
  rfl
theorem kf:QK T 73 [.int .u32 1]=some (eV [1,0,0,0,0]):=Hu (n:=1) (by decide)
theorem TQ:El [0,0,0,0,0] (2^52):=Bh (by decide)
theorem SL:fe [0,0,0,0,0]=0:=by rw [Bg]; rfl
theorem OT:∃ r,QK T 96 []=some (eV r)∧RepL r Ks:=by
 refine ⟨pL [0,0,0,0,0] [1,0,0,0,0] [1,0,0,0,0] [0,0,0,0,0],?_,_,_,_,_,rfl,TQ,DD,DD,TQ,?_,?_,?_,?_⟩
 ·have hf:fillL (Qa 20 (Value.int .u64 0)) [(5,5,eV [1,0,0,0,0]),(10,5,eV [1,0,0,0,0])]=some (ns .u64 (pL [0,0,0,0,0] [1,0,0,0,0] [1,0,0,0,0] [0,0,0,0,0])):=rfl
  have hl:(pL [0,0,0,0,0] [1,0,0,0,0] [1,0,0,0,0] [0,0,0,0,0]).length=20:=rfl
  have hv:=kf
  generalize pL [0,0,0,0,0] [1,0,0,0,0] [1,0,0,0,0] [0,0,0,0,0]=Z at *
  generalize ([1,0,0,0,0]:List Nat)=O at *
  apply QI (fn:=a30) rfl
  simp only [a30,Qs,quiet,cW,↓pW,reduceCtorEq,seval,-Qb,hf,hv,Qe,Qy,Qz,Q7,Zc,Q8,QV,Q9,hl]
  rfl
 ·rw [DC]; exact Go.Fp.Yr
 ·rw [SL]; simp only [Go.Cv.Pt.zero]; grobner
 ·rw [DC]; simp only [Go.Cv.Pt.zero]; grobner
 ·rw [SL]; simp only [Go.Cv.Pt.zero]; grobner
theorem Ff (p:Go.Cv.Pt Go.Fp.P Go.Fp.d) (m b:Nat) (hb:b<2):Jp (2*m+b) p=if b=1 then JX (JX (Jp m p) (Jp m p)) p else JX (Jp m p) (Jp m p):=by
 have h1:Jp (2*m) p=JX (Jp m p) (Jp m p):=by rw [show 2*m=m+m by omega]; exact Go.Cv.mul_add Go.Fp.fld m m p
 by_cases h:b=1
 ·subst h
  rw [if_pos rfl]
  show JX (Jp (2*m) p) p=_
  rw [h1]
 ·have:b=0:=by omega
  subst this
  rw [if_neg (by decide),Jj,h1]
def muI (l k o d:List Nat) (R:Ob) (i:Int) (ex:Env):St:=⟨[(2,.pointer (some ⟨0,0,none⟩)),(3,.pointer (some ⟨1,0,none⟩)),(4,.pointer (some ⟨2,0,none⟩)),(5,.pointer (some ⟨3,0,none⟩)),(6,.pointer (some ⟨4,0,none⟩)),(7,.int .i64 i)]++ex,[⟨ns .u64 l,true,true,true,1⟩,⟨u8s k,true,true,true,1⟩,R,⟨ns .u64 o,true,true,true,1⟩,⟨ns .u64 d,true,true,true,1⟩],[]⟩
theorem qt {k d:List Nat} (hl:RepL l p) (lk:k.length=32) (xk:∀ x∈k,x<256) (hi:i<256) (Ed:El d (2^52)) (hd:fe d=Go.Fp.d) (ho:RepL o (Jp (num 256 k/2^(i+1)) p)) :
  ∃ r,Q2 T 0 RS (muI l k o d R i [])=some (.normal,muI l k r d R ((i:Int)-1) [])∧RepL r (Jp (num 256 k/2^i) p):=by
 obtain ⟨b,hb⟩:∃ b,k[i/8]?=some b:=⟨_,Qf (by omega)⟩
 have hbv:=Kk (B:=256) (by decide) xk hb
 have hbc:=Jx hb
 have hbit:b/2^(i%8)%2=num 256 k/2^i%2:=by
  rw [←hbv,show (256:Nat)=2^8 from rfl,Tu (Q5 _ (by decide)),Zz]
 obtain ⟨r1,m1,g1⟩:=Ig ho
 obtain ⟨r2,m2,g3⟩:=sU g1 hl Ed hd
 have hlt:=US (num 256 k) i
 have hnum:num 256 k/2^i=2*(num 256 k/2^(i+1))+num 256 k/2^i%2:=by
  rw [Ze,←QT]
  omega
 have hstep:=Ff p (num 256 k/2^(i+1)) (num 256 k/2^i%2) hlt
 rw [←hnum] at hstep
 have s1:(2:Int)^min (i%8) IntKind.u8.bits=((2^(i%8):Nat):Int):=BK (Js (Q5 _ (by decide)))
 have w2:IntKind.i64.wrap ((i/8:Nat):Int)=((i/8:Nat):Int):=ZT (by omega)
 have w3:IntKind.i64.wrap ((i:Int)-1)=(i:Int)-1:=Zf (by omega) (by omega)
 have e1:((0:Int)≤(i:Int))=True:=eq_true (by omega)
 have e3:(((i/8:Nat):Int)<32)=True:=eq_true (by omega)
 have e4:(((i%8:Nat):Int)<0)=False:=eq_false (by omega)
 have l1:=hl.len
 have l2:=ho.len
 have l3:=g1.len
 have l4:=g3.len
 have l5:=Ed.len
 generalize hB:num 256 k/2^i%2=B at *
 by_cases hB1:B=1
 ·have hbq:((B:Int)==1)=true:=by rw [hB1]; rfl
  rw [if_pos hB1] at hstep
  refine ⟨r2,?_,by rw [hstep]; exact g3⟩
  simp only [muI,RS,Qs,quiet,cW,↓pW,reduceCtorEq,seval,-Qb,cU,hbc,hbit,s1,w2,w3,e1,e3,e4,m1,m2,hbq,Qy,Qz,Q7,Zc,Q8,Q9,l1,l2,l3,l4,l5,QV]
 ·have hbq:((B:Int)==1)=false:=by
   have:B=0:=by omega
   rw [this]; rfl
  rw [if_neg hB1] at hstep
  refine ⟨r1,?_,by rw [hstep]; exact g1⟩
  simp only [muI,RS,Qs,quiet,cW,↓pW,reduceCtorEq,seval,-Qb,cU,hbc,hbit,s1,w2,w3,e1,e3,e4,m1,m2,hbq,Qy,Qz,Q7,Zc,Q8,Q9,l1,l2,l3,l4,l5,QV]
theorem Uc {k:List Nat} (hl:RepL l p) (lk:k.length=32) (xk:∀ x∈k,x<256):∃ r,QK T 51 [eV l,.agg (u8s k).toArray]=some (eV r)∧RepL r (Jp (num 256 k) p):=by
 have hK:=num_lt xk
 rw [lk,show (256:Nat)^32=2^256 from by rw [show (256:Nat)=2^8 from rfl,←Ja]] at hK
 obtain ⟨z,hz,hz2⟩:=OT
 obtain ⟨d,hd1,Ed,hd⟩:=AY
 obtain ⟨st,hb,r,rfl,hr1⟩:=Zi (T:=T) (base:=0) (id:=0) (body:=RS)
  (fun j st=>∃ r:List Nat,st=muI l k r d ⟨Qa 20 (.int .u64 0),true,true,true,1⟩ ((255:Int)-j) []∧RepL r (Jp (num 256 k/2^(256-j)) p))
  (Q:=fun st=>∃ r:List Nat,st=muI l k r d ⟨Qa 20 (.int .u64 0),true,true,true,1⟩ (-1) [(11,.bool false)]∧RepL r (Jp (num 256 k) p))
  256 (s:=muI l k z d ⟨Qa 20 (.int .u64 0),true,true,true,1⟩ 255 []) ⟨_,rfl,by rw [Kw,JF hK]; exact hz2⟩
  (fun j st hj hs=>by
   obtain ⟨r,rfl,h2⟩:=hs
   obtain ⟨i,hi⟩:∃ i,256-j=i+1:=⟨255-j,by omega⟩
   rw [hi] at h2
   obtain ⟨r',g1,g3⟩:=qt (R:=⟨Qa 20 (.int .u64 0),true,true,true,1⟩) hl lk xk (i:=i) (by omega) Ed hd h2
   rw [show (255:Int)-j=(i:Int) by omega]
   refine ⟨_,g1,r',?_,?_⟩
   ·rw [show (255:Int)-((j+1:Nat):Int)=(i:Int)-1 by omega]
   ·rw [show 256-(j+1)=i by omega]; exact g3)
  (fun st hs=>by
   obtain ⟨r,rfl,h2⟩:=hs
   rw [Q4,ZF,Jt] at h2
   have e:((0:Int) ≤ -1)=False:=by decide
   refine ⟨_,?_,r,rfl,h2⟩
   rw [show (255:Int)-((256:Nat):Int) = -1 by omega]
   simp only [muI,RS,Qs,quiet,cK,↓pQ,reduceCtorEq,seval,-Qb,cL,e])
 refine ⟨r,?_,hr1⟩
 have l1:=hl.len
 have l2:=hz2.len
 have l3:=hr1.len
 have l4:=Ed.len
 simp only [muI,Qn,Ql] at hb
 apply QI (fn:=a26) rfl
 simp only [a26,Qs,quiet,cW,↓pW,reduceCtorEq,seval,-Qb,hz,hd1,hb,muI,Qe,Qy,Qz,Q7,Zc,Q8,Q9,l1,l2,l3,l4,QV]
 rfl
theorem uB (hl:RepL l p):∃ r,QK T 52 [eV l]=some (eV r)∧RepL r p.neg:=by
 obtain ⟨x,y,z,t,rfl,h⟩:=hl
 obtain ⟨a,ha,Ea,fa⟩:=Ft h.ex
 obtain ⟨b,hb,Eb,fb⟩:=Ft h.et
 obtain ⟨q0,q1,q2,q3⟩:=P5 h.ex h.ey h.ez h.et
 have hf:=Th Ea h.ey h.ez Eb
 have p1:=YC h.ex h.ey h.ez h.et
 have p2:=YC Ea h.ey h.ez Eb
 refine ⟨pL a y z b,?_,a,y,z,b,rfl,Ea,h.ey,h.ez,Eb,h.nz,?_,?_,?_⟩
 ·generalize pL x y z t=L,pL a y z b=M at *
  apply QI (fn:=a34) rfl
  simp only [a34,Qs,quiet,cW,↓pW,reduceCtorEq,seval,-Qb,q0,q1,q2,q3,ha,hb,hf,Qe,Qy,Qz,Q7,Zc,Q8,Q9,p1,p2,QV]
  rfl
 ·rw [fa,h.x]; simp only [Go.Cv.Pt.neg]; grobner
 ·rw [h.y]; rfl
 ·rw [fb,h.t]; simp only [Go.Cv.Pt.neg]; grobner
instance decPt (p q:Go.Cv.Pt Go.Fp.P Go.Fp.d):Decidable (p=q):=if h:p.x=q.x∧p.y=q.y then isTrue (Go.Cv.Pt.ext h.1 h.2) else isFalse (fun e=>h (by rw [e]; exact ⟨rfl,rfl⟩))
theorem gW {a b w:Go.Fp.Fe} (hz:z≠0) (hw:w≠0):(a*z*w=b*w*z)=(a=b):=by
 apply propext
 constructor
 ·intro h
  have F:=Go.Fp.fld
  refine F.cancel (F.mul_ne hz hw) ?_
  grobner
 ·intro h; subst h; grobner
theorem re {p q:Go.Cv.Pt Go.Fp.P Go.Fp.d} (h1:RepL l p) (h2:RepL m q):QK T 94 [eV l,eV m]=some (.bool (decide (p=q))):=by
 obtain ⟨x1,y1,z1,t1,rfl,h1⟩:=h1
 obtain ⟨x2,y2,z2,t2,rfl,h2⟩:=h2
 obtain ⟨a,ha,Ea,fa⟩:=Xe h1.ex h2.ez
 obtain ⟨b,hb,Eb,fb⟩:=Xe h2.ex h1.ez
 obtain ⟨c,hc,Ec,fc⟩:=Xe h1.ey h2.ez
 obtain ⟨e,he,Ee,fe_⟩:=Xe h2.ey h1.ez
 have q1:=rh Ea Eb
 have q2:=rh Ec Ee
 rw [fa,fb,h1.x,h2.x] at q1
 rw [fc,fe_,h1.y,h2.y] at q2
 simp only [gW h1.nz h2.nz] at q1 q2
 obtain ⟨u0,u1,u2,u3⟩:=P5 h1.ex h1.ey h1.ez h1.et
 obtain ⟨v0,v1,v2,v3⟩:=P5 h2.ex h2.ey h2.ez h2.et
 have p1:=YC h1.ex h1.ey h1.ez h1.et
 have p2:=YC h2.ex h2.ey h2.ez h2.et
 generalize pL x1 y1 z1 t1=L,pL x2 y2 z2 t2=M at *
 by_cases hx:p.x=q.x
 ·rw [decide_eq_true hx] at q1
  have hd:decide (p=q)=decide (p.y=q.y):=by
   by_cases hy:p.y=q.y
   ·rw [decide_eq_true hy,decide_eq_true (Go.Cv.Pt.ext hx hy)]
   ·rw [decide_eq_false hy,decide_eq_false (fun h=>hy (by rw [h]))]
  rw [hd]
  apply QI (fn:=a28) rfl
  simp only [a28,Qs,quiet,cW,↓pW,reduceCtorEq,seval,-Qb,u0,u1,u2,v0,v1,v2,ha,hb,hc,he,q1,q2,Qe,Qy,Qz,Q7,Zc,Q8,Q9,p1,p2,QV]
  rfl
 ·rw [decide_eq_false hx] at q1
  rw [decide_eq_false (fun h=>hx (by rw [h]))]
  apply QI (fn:=a28) rfl
  simp only [a28,Qs,quiet,cW,↓pW,reduceCtorEq,seval,-Qb,u0,u1,u2,v0,v1,v2,ha,hb,hc,he,q1,q2,Qe,Qy,Qz,Q7,Zc,Q8,Q9,p1,p2,QV]
  rfl
theorem mS (p:Go.Cv.Pt Go.Fp.P Go.Fp.d):JX (JX (JX p p) (JX p p)) (JX (JX p p) (JX p p))=Jp 8 p:=by
 have h2:Jp 2 p=JX p p:=Go.Cv.mul_two Go.Fp.fld p
 have h4:Jp 4 p=JX (Jp 2 p) (Jp 2 p):=Go.Cv.mul_add Go.Fp.fld 2 2 p
 have h8:Jp 8 p=JX (Jp 4 p) (Jp 4 p):=Go.Cv.mul_add Go.Fp.fld 4 4 p
 rw [h8,h4,h2]
theorem tD (h:RepL l p):QK T 46 [eV l]=some (.bool (decide (Jp 8 p=Ks))):=by
 obtain ⟨a,ha,ra⟩:=Ig h
 obtain ⟨b,hb,rb⟩:=Ig ra
 obtain ⟨c,hc,rc⟩:=Ig rb
 obtain ⟨z,hz,rz⟩:=OT
 have he:=re rc rz
 rw [mS] at he
 have p1:=h.len
 apply QI (fn:=a39) rfl
 simp only [a39,Qs,quiet,cW,↓pW,reduceCtorEq,seval,-Qb,ha,hb,hc,hz,he,Qy,Qz,Q7,Zc,Q8,Q9,p1,QV]
 rfl
def Mw (p:Go.Cv.Pt Go.Fp.P Go.Fp.d):Nat:=p.y.val+(p.x.val%2)*2^255
def enc (p:Go.Cv.Pt Go.Fp.P Go.Fp.d):List Nat:=dig 256 32 (Mw p)
theorem U5 (p:Go.Cv.Pt Go.Fp.P Go.Fp.d):(enc p).length=32:=Zd _ _ _
theorem Ss (p:Go.Cv.Pt Go.Fp.P Go.Fp.d):∀ x∈enc p,x<256:=YH
theorem Gl (a:Go.Fp.Fe):a.val<2^255:=JK a.isLt (by rw [Go.Fp.Hj]; decide)
theorem IL (p:Go.Cv.Pt Go.Fp.P Go.Fp.d):Mw p<256^32:=by
 have h1:=Gl p.y
 have h2:=Q5 p.x.val (by decide:0<2)
 unfold Mw
 have:p.x.val%2*2^255≤1*2^255:=Ji _ (by omega)
 have e:(256:Nat)^32=2^255+2^255:=by decide
 omega
theorem Mv {p:Go.Cv.Pt Go.Fp.P Go.Fp.d} (h:RepL l p):QK T 53 [eV l]=some (.agg (u8s (enc p)).toArray):=by
 obtain ⟨x,y,z,t,rfl,h⟩:=h
 obtain ⟨i,hi,Ei,fi⟩:=NM h.ez
 obtain ⟨a,ha,Ea,fa⟩:=Xe h.ey Ei
 obtain ⟨b,hb,Eb,fb⟩:=Xe h.ex Ei
 have hinv:=Go.Fp.KL h.nz
 have fa':fe a=p.y:=by rw [fa,fi,h.y]; grobner
 have fb':fe b=p.x:=by rw [fb,fi,h.x]; grobner
 have k1:=BP Ea
 have k2:=kG Eb
 rw [fa'] at k1
 rw [fb'] at k2
 obtain ⟨u0,u1,u2,u3⟩:=P5 h.ex h.ey h.ez h.et
 have p1:=YC h.ex h.ey h.ez h.et
 have L1:=Ei.len
 have lk:(dig 256 32 p.y.val).length=32:=Zd _ _ _
 have l0:(dig 256 32 0).length=32:=rfl
 have hz32:Qa 32 (Value.int .u8 0)=u8s (dig 256 32 0):=rfl
 generalize pL x y z t=L at *
 by_cases ho:p.x.val%2=1
 ·rw [decide_eq_true ho] at k2
  have hv:=Gl p.y
  obtain ⟨w,hw⟩:∃ w,(dig 256 32 p.y.val)[31]?=some w:=⟨_,Qf (by rw [Zd]; decide)⟩
  have hwc:=Jx hw
  have hw':w<256:=Vl (by decide) (Qp hw)
  have hput:=TJ (w:=8) (m:=32) (q:=31) (s:=7) (y:=1) (M:=p.y.val) (by decide) (by decide) hv (by decide)
  have hgd:(dig (2^8) 32 p.y.val).getD 31 0=w:=by rw [QA]; rw [show (2:Nat)^8=256 from rfl,hw]; rfl
  rw [hgd] at hput
  have hset:=Xb (dig 256 32 p.y.val) 31 (w|||128)
  rw [show (dig 256 32 p.y.val).set 31 (w|||128)=enc p from by rw [enc,Mw,ho]; exact hput] at hset
  have o1:Zp .or .u8 (w:Int) 128=((w|||128:Nat):Int):=XY (k := .u8) (a:=w) (b:=128) rfl hw' (by decide)
  have le:=U5 p
  generalize enc p=E at *
  apply QI (fn:=a29) rfl
  simp only [a29,Qs,quiet,cW,↓pW,reduceCtorEq,seval,-Qb,hz32,u0,u1,u2,hi,ha,hb,k1,k2,hwc,o1,hset,Qe,Qy,Qz,Q7,Zc,Q8,Q9,Qq,lk,l0,le,p1,L1,QV]
  rfl
 ·rw [decide_eq_false ho] at k2
  have he:enc p=dig 256 32 p.y.val:=by rw [enc,Mw,show p.x.val%2=0 by omega,VS,Jj]
  rw [he]
  generalize dig 256 32 p.y.val=E at *
  apply QI (fn:=a29) rfl
  simp only [a29,Qs,quiet,cW,↓pW,reduceCtorEq,seval,-Qb,hz32,u0,u1,u2,hi,ha,hb,k1,k2,Qe,Qy,Qz,Q7,Zc,Q8,Q9,Qq,lk,l0,p1,L1,QV]
  rfl
def bxN:Nat:=15112221349535400772501151409588531511454012693041857206046113283949847762202
def byN:Nat:=46316835694926478169428394003475163141307993866256225615783033603165251855960
def Xl:Go.Cv.Pt Go.Fp.P Go.Fp.d:=⟨Go.Fp.fp bxN,Go.Fp.fp byN,by
 unfold Go.Cv.On Go.Fp.d
 have h:(Go.Fp.fp byN*Go.Fp.fp byN:Go.Fp.Fe)=Go.Fp.fp bxN*Go.Fp.fp bxN+(1+Go.Fp.fp Go.Fp.dN*(Go.Fp.fp bxN*Go.Fp.fp bxN)*(Go.Fp.fp byN*Go.Fp.fp byN)):=by
  rw [←Go.Fp.IJ,←Go.Fp.XX,←Go.Fp.XX,←Go.Fp.XX,←Go.Fp.XX,←Go.Fp.Vk,←Go.Fp.Vk]
  exact Go.Fp.Tg.2 (by decide +kernel)
 grobner⟩
def bxK:List Nat:=dig 256 32 bxN
def byK:List Nat:=dig 256 32 byN
theorem rH:num 256 bxK=bxN:=by decide +kernel
theorem rG:num 256 byK=byN:=by decide +kernel
theorem SA:∃ r,QK T 50 []=some (eV r)∧RepL r Xl:=by
 have h1:=dn (k:=bxK) (Zd _ _ _) YH
 have h2:=dn (k:=byK) (Zd _ _ _) YH
 have E1:=N0 (V:=num 256 bxK%2^255)
 have E2:=N0 (V:=num 256 byK%2^255)
 have f1:fe (dig (2^51) 5 (num 256 bxK%2^255))=Go.Fp.fp bxN:=by unfold fe; rw [R3,rH]; rfl
 have f2:fe (dig (2^51) 5 (num 256 byK%2^255))=Go.Fp.fp byN:=by unfold fe; rw [R3,rG]; rfl
 generalize dig (2^51) 5 (num 256 bxK%2^255)=X,dig (2^51) 5 (num 256 byK%2^255)=Y at *
 obtain ⟨t,ht,Et,ft⟩:=Xe E1 E2
 have E3:∃ O:List Nat,O=[1,0,0,0,0]:=⟨_,rfl⟩
 obtain ⟨O,hO⟩:=E3
 have E3:El O (2^52):=by rw [hO]; exact DD
 have v1:QK T 73 [.int .u32 1]=some (eV O):=by rw [hO]; exact kf
 have f3:fe O=1:=by rw [hO]; exact DC
 clear hO
 have hf:=Th E1 E2 E3 Et
 have p1:=YC E1 E2 E3 Et
 refine ⟨pL X Y O t,?_,X,Y,O,t,rfl,E1,E2,E3,Et,by rw [f3]; exact Go.Fp.Yr,by rw [f1,f3]; simp only [Xl]; grobner,by rw [f2,f3]; simp only [Xl]; grobner,by rw [ft,f1,f2,f3]; simp only [Xl]; grobner⟩
 have L1:=E1.len
 have L2:=E2.len
 have g1:fillL (Qa 32 (Value.int .u8 0)) [(0,1,.int .u8 26),(1,1,.int .u8 213),(2,1,.int .u8 37),(3,1,.int .u8 143),(4,1,.int .u8 96),(5,1,.int .u8 45),(6,1,.int .u8 86),(7,1,.int .u8 201),(8,1,.int .u8 178),(9,1,.int .u8 167),(10,1,.int .u8 37),(11,1,.int .u8 149),(12,1,.int .u8 96),(13,1,.int .u8 199),(14,1,.int .u8 44),(15,1,.int .u8 105),(16,1,.int .u8 92),(17,1,.int .u8 220),(18,1,.int .u8 214),(19,1,.int .u8 253),(20,1,.int .u8 49),(21,1,.int .u8 226),(22,1,.int .u8 164),(23,1,.int .u8 192),(24,1,.int .u8 254),(25,1,.int .u8 83),(26,1,.int .u8 110),(27,1,.int .u8 205),(28,1,.int .u8 211),(29,1,.int .u8 54),(30,1,.int .u8 105),(31,1,.int .u8 33)]=some (u8s bxK):=by
  have:bxK=[26,213,37,143,96,45,86,201,178,167,37,149,96,199,44,105,92,220,214,253,49,226,164,192,254,83,110,205,211,54,105,33]:=by decide +kernel
  rw [this]; rfl
 have g2:fillL (Qa 32 (Value.int .u8 0)) [(0,1,.int .u8 88),(1,1,.int .u8 102),(2,1,.int .u8 102),(3,1,.int .u8 102),(4,1,.int .u8 102),(5,1,.int .u8 102),(6,1,.int .u8 102),(7,1,.int .u8 102),(8,1,.int .u8 102),(9,1,.int .u8 102),(10,1,.int .u8 102),(11,1,.int .u8 102),(12,1,.int .u8 102),(13,1,.int .u8 102),(14,1,.int .u8 102),(15,1,.int .u8 102),(16,1,.int .u8 102),(17,1,.int .u8 102),(18,1,.int .u8 102),(19,1,.int .u8 102),(20,1,.int .u8 102),(21,1,.int .u8 102),(22,1,.int .u8 102),(23,1,.int .u8 102),(24,1,.int .u8 102),(25,1,.int .u8 102),(26,1,.int .u8 102),(27,1,.int .u8 102),(28,1,.int .u8 102),(29,1,.int .u8 102),(30,1,.int .u8 102),(31,1,.int .u8 102)]=some (u8s byK):=by
  have:byK=[88,102,102,102,102,102,102,102,102,102,102,102,102,102,102,102,102,102,102,102,102,102,102,102,102,102,102,102,102,102,102,102]:=by decide +kernel
  rw [this]; rfl
 generalize pL X Y O t=Q at *
 apply QI (fn:=a25) rfl
 simp only [a25,Qs,quiet,cW,↓pW,reduceCtorEq,seval,-Qb,g1,g2,h1,h2,v1,ht,hf,Qe,Qy,Qz,Q7,Zc,Q8,Q9,p1,L1,L2,QV]
 rfl
theorem tZ (hb:b.length=20) (ha:a.length=n):Zh 20 (Jr n (ns .u64 (a++(b++c))))=ns .u64 b:=by
 simp only [HC]
 rw [Jb (by rw [Q9]; omega),ZA (by rw [Q9]; omega),Ql,ZJ (by rw [Q9]; omega),Qm (by rw [Q9]; omega)]
theorem eJ {l:List Ob} {r d:List Nat} {g:List Ob} (hi:i<n) (hn:n<100) (l1:x.length=20) (l2:o.length=20) (l4:d.length=5) (hm:QK T 102 [eV o,eV x,eV d]=some (eV r)) (l3:r.length=20)
 (hA:∀ l,(H++l)[id]?=some ⟨cs,true,true,true,1⟩) (hcs:(cs.drop (i*20)).take 20=ns .u64 x) (hlen:i*20+20≤cs.length) :
    Q2 T H.length CU ⟨[(2,.pointer (some ⟨H.length,0,none⟩)),(3,.pointer (some ⟨H.length+1,0,none⟩)),(4,.pointer (some ⟨H.length+2,0,none⟩)),(9,.slice (some ⟨id,0,none⟩) n n),(10,.int .i64 n),(11,.int .i64 i)],H++(R::⟨ns .u64 o,true,true,true,1⟩::⟨ns .u64 d,true,true,true,1⟩::g),[]⟩ =
      some (.normal,⟨[(2,.pointer (some ⟨H.length,0,none⟩)),(3,.pointer (some ⟨H.length+1,0,none⟩)),(4,.pointer (some ⟨H.length+2,0,none⟩)),(9,.slice (some ⟨id,0,none⟩) n n),(10,.int .i64 n),(11,.int .i64 ((i+1:Nat):Int))],H++(R::⟨ns .u64 r,true,true,true,1⟩::⟨ns .u64 d,true,true,true,1⟩::(g++[⟨ns .u64 x,true,true,true,1⟩])),[]⟩):=by
  have hz:∃ Z,Qa 20 (Value.int .u64 0)=ns .u64 Z∧Z.length=20:=⟨Qa 20 0,rfl,rfl⟩
  obtain ⟨Z,hz,l0⟩:=hz
  have e1:((i:Int)<(n:Int))=True:=eq_true (by omega)
  have w3:IntKind.i64.wrap ((i:Int)+1)=((i+1:Nat):Int):=ZT (n:=i+1) (by omega)
  simp only [CU,Qs,quiet,cF,JE,ZI,↓pQ,reduceCtorEq,seval,-Qb,cL,cJ,Zu,hz,hA,hcs,hlen,hm,Qz,Q7,Zc,Q8,Q9,l0,l1,l2,l3,l4,QV,e1,w3]
inductive Reps:List (List Nat)→List (Go.Cv.Pt Go.Fp.P Go.Fp.d)→Prop
 | nil:Reps [] []
 | cons {x xs p ps}:RepL x p→Reps xs ps→Reps (x::xs) (p::ps)
theorem Reps.len {xs:List (List Nat)} {ps:List (Go.Cv.Pt Go.Fp.P Go.Fp.d)} (h:Reps xs ps):xs.length=ps.length:=by
 induction h with
 | nil=>rfl
 | cons _ _ ih=>simp [ih]
theorem Reps.all {xs:List (List Nat)} {ps:List (Go.Cv.Pt Go.Fp.P Go.Fp.d)} (h:Reps xs ps):∀ x∈xs,x.length=20:=by
 induction h with
 | nil=>simp
 | cons h _ ih=>intro y hy; rcases J0.1 hy with rfl | hy; exact h.len; exact ih y hy
theorem Reps.get {xs:List (List Nat)} {ps:List (Go.Cv.Pt Go.Fp.P Go.Fp.d)} (h:Reps xs ps):∀ {i:Nat} {x:List Nat},xs[i]?=some x→∃ p,ps[i]?=some p∧RepL x p:=by
 induction h with
 | nil=>intro i x h; simp at h
 | cons h _ ih =>
  intro i x hx
  cases i with
  | zero=>simp at hx; subst hx; exact ⟨_,rfl,h⟩
  | succ i=>simp at hx; simpa using ih hx
theorem mF:∀ (ys:List (List Nat)),(∀ x∈ys,x.length=20)→ys.flatten.length=ys.length*20:=by
 intro ys hy
 induction ys with
 | nil=>rfl
 | cons y ys ih =>
  rw [QO,Qk,ih (fun x hx=>hy x (by simp [hx])),(hy y (by simp)),Z0]; omega
theorem s8 {xs:List (List Nat)} {ps:List (Go.Cv.Pt Go.Fp.P Go.Fp.d)} (hn:xs.length=n) (hN:n<100) (hx:Reps xs ps) (h:H[id]?=some ⟨ns .u64 xs.flatten,true,true,true,1⟩) :
  ∃ r d,Z5 T 49 [.slice (some ⟨id,0,none⟩) n n] H=some (eV r,H++(⟨ns .u64 r,true,true,true,1⟩::⟨ns .u64 r,true,true,true,1⟩::⟨ns .u64 d,true,true,true,1⟩::xs.map fun x=>(⟨ns .u64 x,true,true,true,1⟩:Ob)),[])∧RepL r (ps.foldl JX Ks):=by
 have hid:id<H.length:=(Qg.1 h).1
 have hA:∀ l,(H++l)[id]?=some ⟨ns .u64 xs.flatten,true,true,true,1⟩:=fun l=>by rw [Qc hid]; exact h
 obtain ⟨d,hd,Ed,fd⟩:=AY
 obtain ⟨z,hz,Ez⟩:=OT
 have hZ:∃ Z,Qa 20 (Value.int .u64 0)=ns .u64 Z∧Z.length=20:=⟨Qa 20 0,rfl,rfl⟩
 obtain ⟨Z,hZ,l0⟩:=hZ
 obtain ⟨st,hb,r,rfl,hr1⟩:=Zi (T:=T) (base:=H.length) (id:=0) (body:=CU)
  (fun i st=>∃ r:List Nat,st=⟨[(2,.pointer (some ⟨H.length,0,none⟩)),(3,.pointer (some ⟨H.length+1,0,none⟩)),(4,.pointer (some ⟨H.length+2,0,none⟩)),(9,.slice (some ⟨id,0,none⟩) n n),(10,.int .i64 n),(11,.int .i64 (i:Nat))],H++(⟨ns .u64 Z,true,true,true,1⟩::⟨ns .u64 r,true,true,true,1⟩::⟨ns .u64 d,true,true,true,1⟩::((xs.take i).map fun x=>(⟨ns .u64 x,true,true,true,1⟩:Ob))),[]⟩∧RepL r ((ps.take i).foldl JX Ks))
  (Q:=fun st=>∃ r:List Nat,st=⟨[(2,.pointer (some ⟨H.length,0,none⟩)),(3,.pointer (some ⟨H.length+1,0,none⟩)),(4,.pointer (some ⟨H.length+2,0,none⟩)),(9,.slice (some ⟨id,0,none⟩) n n),(10,.int .i64 n),(11,.int .i64 n),(12,.bool false)],H++(⟨ns .u64 Z,true,true,true,1⟩::⟨ns .u64 r,true,true,true,1⟩::⟨ns .u64 d,true,true,true,1⟩::(xs.map fun x=>(⟨ns .u64 x,true,true,true,1⟩:Ob))),[]⟩∧RepL r (ps.foldl JX Ks))
  n (s:=⟨[(2,.pointer (some ⟨H.length,0,none⟩)),(3,.pointer (some ⟨H.length+1,0,none⟩)),(4,.pointer (some ⟨H.length+2,0,none⟩)),(9,.slice (some ⟨id,0,none⟩) n n),(10,.int .i64 n),(11,.int .i64 0)],H++[⟨ns .u64 Z,true,true,true,1⟩,⟨ns .u64 z,true,true,true,1⟩,⟨ns .u64 d,true,true,true,1⟩],[]⟩) ⟨z,rfl,Ez⟩
  (fun i st hi hs=>by
   obtain ⟨r,rfl,hr1⟩:=hs
   obtain ⟨x,hxi⟩:∃ y,xs[i]?=some y:=⟨_,Qf (by omega)⟩
   obtain ⟨p,hpi,hxe⟩:=hx.get hxi
   obtain ⟨r',hm,g1⟩:=sU hr1 hxe Ed fd
   have hsplit:xs=xs.take i++x::xs.drop (i+1):=by
    have h1:=Qg.1 hxi
    conv=>lhs; rw [←Z3 i xs,JR h1.1,h1.2]
   have htl:(xs.take i).flatten.length=i*20:=by
    rw [mF _ (fun y hy=>hx.all y (QU hy)),Q6,Zy (by omega)]
   have hcs:((ns .u64 xs.flatten).drop (i*20)).take 20=ns .u64 x:=by
    conv=>lhs; rw [hsplit,ZY,QO]
    exact tZ hxe.len htl
   have hb:=eJ (R:=⟨ns .u64 Z,true,true,true,1⟩) (g:=(xs.take i).map fun x=>(⟨ns .u64 x,true,true,true,1⟩:Ob)) (l:=[]) hi hN hxe.len hr1.len Ed.len hm g1.len hA hcs (by rw [Q9,mF xs hx.all,hn]; omega)
   have htk:xs.take (i+1)=xs.take i++[x]:=by rw [Zw,hxi]; rfl
   have htp:ps.take (i+1)=ps.take i++[p]:=by rw [Zw,hpi]; rfl
   refine ⟨_,hb,r',?_,?_⟩
   ·rw [htk,KU]; rfl
   ·rw [htp,List.foldl_append]; exact g1)
  (fun st hs=>by
   obtain ⟨r,rfl,hr1⟩:=hs
   have e1:((n:Int)<(n:Int))=False:=eq_false (by omega)
   have ht:xs.take n=xs:=Qm (by omega)
   have ht2:ps.take n=ps:=Qm (by have:=hx.len; omega)
   rw [ht2] at hr1
   rw [ht]
   refine ⟨_,?_,r,rfl,hr1⟩
   simp only [CU,Qs,quiet,cF,JE,ZI,↓pQ,reduceCtorEq,seval,-Qb,cL,e1])
 refine ⟨r,d,?_,hr1⟩
 have l1:=hr1.len
 have l2:=Ez.len
 have l3:=Ed.len
 rw [Zb (fn:=a27) rfl]
 have hz5:Qa 5 (Value.int .u64 0)=ns .u64 [0,0,0,0,0]:=rfl
 have l5:([0,0,0,0,0]:List Nat).length=5:=rfl
 simp only [a27,Qs,quiet,cF,JE,ZI,↓pQ,reduceCtorEq,seval,-Qb,cL,cJ,Zu,hZ,hz5,l5,hd,hz,hb,Qz,Q7,Zc,Q8,Q9,l0,l1,l2,l3,QV]
theorem fold2:[p,q].foldl JX Ks=JX p q:=by
 show JX (JX Ks p) q=_
 rw [show JX Ks p=p from Go.Cv.zero_add Go.Fp.fld p]
def Ux (u v:Go.Fp.Fe):Go.Fp.Fe:=u*(v*v*v)*Go.Fp.pow (u*(v*v*v)*(v*v*v)*v) (2^252-1-2)
def jj:Go.Fp.Fe:=Go.Fp.pow 2 (2^253-1-4)
theorem jj_eq:jj=Go.Fp.iQ:=by
 show Go.Fp.pow (Go.Fp.fp 2) _=Go.Fp.fp Go.Fp.iN
 exact Go.Fp.Ax (f:=256) (by decide +kernel) (by decide +kernel)
theorem jj_sq:jj*jj = -1:=by rw [jj_eq]; exact Go.Fp.Ps
theorem quarter:(2^252-1-2)+(2^252-1-2)+1+((2^252-1-2)+(2^252-1-2)+1)=(Go.Fp.P-1)/2:=by rw [Go.Fp.Hj]
theorem ql {u v s:Go.Fp.Fe} (h1:v*Ux u v*Ux u v≠u) (h2:v*Ux u v*Ux u v ≠ -u):v*(s*s)≠u:=fun hs=>by
 have F:=Go.Fp.fld
 obtain ⟨g,hg⟩:∃ g,g=v*v*v*v*s:=⟨_,rfl⟩
 have ht:u*(v*v*v)*(v*v*v)*v=g*g:=by subst hg; subst hs; grobner
 rcases Go.Fp.Ay g with h | h
 ·obtain ⟨k,hk⟩:∃ k,k=2^252-1-2:=⟨_,rfl⟩
  have hq:=quarter
  rw [←hk] at hq
  rw [←hq,Go.Fp.pow_add,Go.Fp.pow_add,Go.Fp.pow_add,Go.Fp.pow_one] at h
  have hw:Ux u v=u*(v*v*v)*Go.Fp.pow (g*g) k:=by unfold Ux; rw [ht,hk]
  rw [hw] at h1 h2
  generalize Go.Fp.pow (g*g) k=q at *
  have he:(q*q*(g*g)-1)*(q*q*(g*g)+1)=0:=by clear h1 h2 hw ht hg hs; grobner
  have hv:v*(u*(v*v*v)*q)*(u*(v*v*v)*q)=u*(q*q*(g*g)):=by clear h1 h2 hw hg hs he h; grobner
  rcases F.dom he with h | h
  ·exact h1 (by rw [hv]; clear h1 h2 hw ht hg hs he hv; grobner)
  ·exact h2 (by rw [hv]; clear h1 h2 hw ht hg hs he hv; grobner)
 ·have hu:u*(v*v*v)*(v*v*v)*v=0:=by rw [ht,h]; grobner
  have hu0:u=0:=by
   rcases F.dom hu with h0 | h0
   ·rcases F.dom h0 with h0 | h0
    ·rcases F.dom h0 with h0 | h0
     ·exact h0
     ·rcases F.dom h0 with h0 | h0
      ·rcases F.dom h0 with h0 | h0<;>(rw [←hs,h0]; grobner)
      ·rw [←hs,h0]; grobner
    ·rcases F.dom h0 with h0 | h0
     ·rcases F.dom h0 with h0 | h0<;>(rw [←hs,h0]; grobner)
     ·rw [←hs,h0]; grobner
   ·rw [←hs,h0]; grobner
  exact h1 (by unfold Ux; rw [hu0]; grobner)
theorem pX:QK T 133 [.int .i64 252,.int .u8 2]=some (.agg (u8s (dig 256 32 (2^252-1-2))).toArray):=PI (n:=252) (less:=2) (by decide) (by decide) (by decide)
theorem pU:QK T 133 [.int .i64 253,.int .u8 4]=some (.agg (u8s (dig 256 32 (2^253-1-4))).toArray):=PI (n:=253) (less:=4) (by decide) (by decide) (by decide)
def LC (r:List Nat) (ok:Bool):Value := .tuple #[eV r,.bool ok]
theorem tP {u v:List Nat} (Eu:El u (2^52)) (Ev:El v (2^52)) :
  ∃ r ok,QK T 88 [eV u,eV v]=some (LC r ok)∧El r (2^52)∧(ok=true→fe v*(fe r*fe r)=fe u∧((fe r).val%2=0∨fe r=0))∧(ok=false→∀ s,fe v*(s*s)≠fe u):=by
 obtain ⟨r1,hr1,Er1,fr1⟩:=Uy (H:=[⟨ns .u64 u,true,true,true,1⟩,⟨ns .u64 v,true,true,true,1⟩,⟨ns .u64 [0,0,0,0,0],true,true,true,1⟩,⟨ns .u64 [v,v,v].flatten,true,true,true,1⟩]) (id:=3) (n:=3) (xs:=[v,v,v]) rfl (by decide) (by intro w hw; simp only [J0,JG,or_false] at hw; rcases hw with rfl | rfl | rfl<;>assumption) rfl
 simp only [J7,Xq,Qn,Ql] at hr1
 simp only [J7,Xq,Xu,Vu] at fr1
 obtain ⟨r2,hr2,Er2,fr2⟩:=Uy (H:=[⟨ns .u64 u,true,true,true,1⟩,⟨ns .u64 v,true,true,true,1⟩,⟨ns .u64 [0,0,0,0,0],true,true,true,1⟩,⟨ns .u64 [v,v,v].flatten,true,true,true,1⟩,⟨ns .u64 r1,true,true,true,1⟩,⟨ns .u64 r1,true,true,true,1⟩,⟨ns .u64 v,true,true,true,1⟩,⟨ns .u64 v,true,true,true,1⟩,⟨ns .u64 v,true,true,true,1⟩,⟨ns .u64 r1,true,true,true,1⟩,⟨ns .u64 [u,r1,r1,v].flatten,true,true,true,1⟩]) (id:=10) (n:=4) (xs:=[u,r1,r1,v]) rfl (by decide) (by intro w hw; simp only [J0,JG,or_false] at hw; rcases hw with rfl | rfl | rfl | rfl<;>assumption) rfl
 simp only [J7,Xq,Qn,Ql] at hr2
 simp only [J7,Xq,Xu,Vu] at fr2
 obtain ⟨r3,hr3,Er3,fr3⟩:=D8 (n:=252) (less:=2) Er2 (by decide) (by decide) (by decide)
 obtain ⟨r4,hr4,Er4,fr4⟩:=Uy (H:=[⟨ns .u64 u,true,true,true,1⟩,⟨ns .u64 v,true,true,true,1⟩,⟨ns .u64 [0,0,0,0,0],true,true,true,1⟩,⟨ns .u64 [v,v,v].flatten,true,true,true,1⟩,⟨ns .u64 r1,true,true,true,1⟩,⟨ns .u64 r1,true,true,true,1⟩,⟨ns .u64 v,true,true,true,1⟩,⟨ns .u64 v,true,true,true,1⟩,⟨ns .u64 v,true,true,true,1⟩,⟨ns .u64 r1,true,true,true,1⟩,⟨ns .u64 [u,r1,r1,v].flatten,true,true,true,1⟩,⟨ns .u64 r2,true,true,true,1⟩,⟨ns .u64 r2,true,true,true,1⟩,⟨ns .u64 u,true,true,true,1⟩,⟨ns .u64 r1,true,true,true,1⟩,⟨ns .u64 r1,true,true,true,1⟩,⟨ns .u64 v,true,true,true,1⟩,⟨ns .u64 [u,r1,r3].flatten,true,true,true,1⟩]) (id:=17) (n:=3) (xs:=[u,r1,r3]) rfl (by decide) (by intro w hw; simp only [J0,JG,or_false] at hw; rcases hw with rfl | rfl | rfl<;>assumption) rfl
 simp only [J7,Xq,Qn,Ql] at hr4
 simp only [J7,Xq,Xu,Vu] at fr4
 obtain ⟨r5,hr5,Er5,fr5⟩:=Uy (H:=[⟨ns .u64 u,true,true,true,1⟩,⟨ns .u64 v,true,true,true,1⟩,⟨ns .u64 [0,0,0,0,0],true,true,true,1⟩,⟨ns .u64 [v,v,v].flatten,true,true,true,1⟩,⟨ns .u64 r1,true,true,true,1⟩,⟨ns .u64 r1,true,true,true,1⟩,⟨ns .u64 v,true,true,true,1⟩,⟨ns .u64 v,true,true,true,1⟩,⟨ns .u64 v,true,true,true,1⟩,⟨ns .u64 r1,true,true,true,1⟩,⟨ns .u64 [u,r1,r1,v].flatten,true,true,true,1⟩,⟨ns .u64 r2,true,true,true,1⟩,⟨ns .u64 r2,true,true,true,1⟩,⟨ns .u64 u,true,true,true,1⟩,⟨ns .u64 r1,true,true,true,1⟩,⟨ns .u64 r1,true,true,true,1⟩,⟨ns .u64 v,true,true,true,1⟩,⟨ns .u64 [u,r1,r3].flatten,true,true,true,1⟩,⟨ns .u64 r4,true,true,true,1⟩,⟨ns .u64 r4,true,true,true,1⟩,⟨ns .u64 u,true,true,true,1⟩,⟨ns .u64 r1,true,true,true,1⟩,⟨ns .u64 r3,true,true,true,1⟩,⟨ns .u64 r4,true,true,true,1⟩,⟨ns .u64 [v,r4,r4].flatten,true,true,true,1⟩]) (id:=24) (n:=3) (xs:=[v,r4,r4]) rfl (by decide) (by intro w hw; simp only [J0,JG,or_false] at hw; rcases hw with rfl | rfl | rfl<;>assumption) rfl
 simp only [J7,Xq,Qn,Ql] at hr5
 simp only [J7,Xq,Xu,Vu] at fr5
 have k1:=rh Er5 Eu
 obtain ⟨nu,hnu,Enu,fnu⟩:=Ft Eu
 have k2:=rh Er5 Enu
 obtain ⟨two,htwo⟩:∃ two:List Nat,two=[2,0,0,0,0]:=⟨_,rfl⟩
 have Etwo:El two (2^52):=by rw [htwo]; exact gj
 have vtwo:QK T 73 [.int .u32 2]=some (eV two):=by rw [htwo]; exact fU
 have ftwo:fe two=2:=by rw [htwo]; exact OZ
 clear htwo
 obtain ⟨j,hj,Ej,fj⟩:=D8 (n:=253) (less:=4) Etwo (by decide) (by decide) (by decide)
 obtain ⟨q,hq,Eq,fq⟩:=Xe Er4 Ej
 obtain ⟨n1,hn1,En1,fn1⟩:=Ft Er4
 obtain ⟨n2,hn2,En2,fn2⟩:=Ft Eq
 have o1:=kG Er4
 have o2:=kG Eq
 have c1:=pX
 have c2:=pU
 have g1:=FH Ev Ev Ev
 have g2:=Th Eu Er1 Er1 Ev
 rw [aE] at g2
 have g3:=FH Eu Er1 Er3
 have g4:=FH Ev Er4 Er4
 have hw:fe r4=Ux (fe u) (fe v):=by
  rw [fr4,fr3,fr1,fr2,fr1]; unfold Ux
  rw [show (1*fe u*(1*fe v*fe v*fe v)*(1*fe v*fe v*fe v)*fe v)=fe u*(fe v*fe v*fe v)*(fe v*fe v*fe v)*fe v from by grobner]
  generalize Go.Fp.pow _ _=p
  grobner
 have hjj:fe j=jj:=by rw [fj,ftwo]; rfl
 have l1:=Eu.len
 have l2:=Ev.len
 have l3:=Er1.len
 have l4:=Er4.len
 have l5:=Er5.len
 have l6:=Eq.len
 have l7:=En1.len
 have l8:=En2.len
 have hz5:Qa 5 (Value.int .u64 0)=ns .u64 [0,0,0,0,0]:=rfl
 have hf5:fillL (ns .u64 [0,0,0,0,0]) []=some (ns .u64 [0,0,0,0,0]):=rfl
 have l0:([0,0,0,0,0]:List Nat).length=5:=rfl
 clear Ej Etwo ftwo fj
 generalize dig 256 32 (2^252-1-2)=K1,dig 256 32 (2^253-1-4)=K2 at *
 have hsq:fe r5=fe v*Ux (fe u) (fe v)*Ux (fe u) (fe v):=by rw [fr5,hw]; generalize Ux (fe u) (fe v)=w; grobner
 have evn:∀ a:Go.Fp.Fe,a.val%2=1→(-a).val%2=0 ∨ -a=0:=by
  intro a ha
  left
  have hlt:=a.isLt
  have h0:(Go.Fp.P-a.val)<Go.Fp.P:=by omega
  have h1:(-a).val=(Go.Fp.P-a.val)%Go.Fp.P:=rfl
  rw [h1,Qv h0]
  have hP:Go.Fp.P%2=1:=by rw [Go.Fp.Hj]
  omega
 by_cases hA:fe r5=fe u
 ·rw [decide_eq_true hA] at k1
  have hroot:fe v*(fe r4*fe r4)=fe u:=by rw [←hA,hsq,hw]; generalize Ux (fe u) (fe v)=w; grobner
  by_cases hO:(fe r4).val%2=1
  ·rw [decide_eq_true hO] at o1
   refine ⟨n1,true,?_,En1,fun _=>⟨?_,?_⟩,fun h=>by cases h⟩
   ·apply QI (fn:=a60) rfl
    simp only [a60,Qs,quiet,cW,↓pW,reduceCtorEq,seval,-Qb,hz5,hf5,l0,g1,g2,g3,g4,c1,c2,hr1,hr2,hr3,hr4,hr5,k1,o1,hn1,l1,l2,l3,l4,l5,l7,Qe,Qy,Qz,Q7,Zc,Q8,Q9,QV]
    rfl
   ·rw [fn1,←hroot]; generalize fe r4=w; grobner
   ·rw [fn1]; exact evn _ hO
  ·rw [decide_eq_false hO] at o1
   refine ⟨r4,true,?_,Er4,fun _=>⟨hroot,by left; omega⟩,fun h=>by cases h⟩
   apply QI (fn:=a60) rfl
   simp only [a60,Qs,quiet,cW,↓pW,reduceCtorEq,seval,-Qb,hz5,hf5,l0,g1,g2,g3,g4,c1,c2,hr1,hr2,hr3,hr4,hr5,k1,o1,hn1,l1,l2,l3,l4,l5,l7,Qe,Qy,Qz,Q7,Zc,Q8,Q9,QV]
   rfl
 ·rw [decide_eq_false hA] at k1
  by_cases hB:fe r5=fe nu
  ·rw [decide_eq_true hB] at k2
   have hroot:fe v*(fe q*fe q)=fe u:=by
    have hs:=jj_sq
    rw [hsq,fnu] at hB
    rw [fq,hw,hjj]
    generalize Ux (fe u) (fe v)=w at *
    clear k1 k2 o1 o2 c1 c2 hA hsq hw fr1 fr2 fr3 fr4 fr5
    grobner
   by_cases hO:(fe q).val%2=1
   ·rw [decide_eq_true hO] at o2
    refine ⟨n2,true,?_,En2,fun _=>⟨?_,?_⟩,fun h=>by cases h⟩
    ·apply QI (fn:=a60) rfl
     simp only [a60,Qs,quiet,cW,↓pW,reduceCtorEq,seval,-Qb,hz5,hf5,l0,g1,g2,g3,g4,c1,c2,hr1,hr2,hr3,hr4,hr5,k1,k2,hnu,vtwo,hj,hq,o2,hn2,l1,l2,l3,l4,l5,l6,l8,Qe,Qy,Qz,Q7,Zc,Q8,Q9,QV]
     rfl
    ·rw [fn2,←hroot]; generalize fe q=w; grobner
    ·rw [fn2]; exact evn _ hO
   ·rw [decide_eq_false hO] at o2
    refine ⟨q,true,?_,Eq,fun _=>⟨hroot,by left; omega⟩,fun h=>by cases h⟩
    apply QI (fn:=a60) rfl
    simp only [a60,Qs,quiet,cW,↓pW,reduceCtorEq,seval,-Qb,hz5,hf5,l0,g1,g2,g3,g4,c1,c2,hr1,hr2,hr3,hr4,hr5,k1,k2,hnu,vtwo,hj,hq,o2,hn2,l1,l2,l3,l4,l5,l6,l8,Qe,Qy,Qz,Q7,Zc,Q8,Q9,QV]
    rfl
  ·rw [decide_eq_false hB] at k2
   refine ⟨[0,0,0,0,0],false,?_,TQ,fun h=>(by cases h),fun _ s=>ql (by rw [←hsq]; exact hA) (by rw [←hsq,←fnu]; exact hB)⟩
   apply QI (fn:=a60) rfl
   simp only [a60,Qs,quiet,cW,↓pW,reduceCtorEq,seval,-Qb,hz5,hf5,l0,g1,g2,g3,g4,c1,c2,hr1,hr2,hr3,hr4,hr5,k1,k2,hnu,l1,l2,l3,l4,l5,Qe,Qy,Qz,Q7,Zc,Q8,Q9,QV]
   rfl
end Go.Ev.YtpgphpkjlpkcbaaGreat
namespace Go.Ev.YtpgphpkjlpkcbaaGreat
open Go Go.Ev
attribute [local congr] JC JV JB JW Jz
set_option maxRecDepth 100000
variable {i n x a b r:Nat} {k L o:List Nat} {p q:Go.Cv.Pt Go.Fp.P Go.Fp.d}
structure Jac where
 x:Nat
 y:Nat
 z:Nat
 t:Nat
structure JRep (a:Jac) (p:Go.Cv.Pt Go.Fp.P Go.Fp.d):Prop where
 nz:Go.Fp.fp a.z≠0
 x:Go.Fp.fp a.x=p.x*Go.Fp.fp a.z
 y:Go.Fp.fp a.y=p.y*Go.Fp.fp a.z
 t:Go.Fp.fp a.t=p.x*p.y*Go.Fp.fp a.z
def N5 (a b:Nat):Nat:=a+(Go.Fp.P-b%Go.Fp.P)
theorem HI (a b:Nat):Go.Fp.fp (N5 a b)=Go.Fp.fp a-Go.Fp.fp b:=by
 unfold N5
 have h:b%Go.Fp.P≤Go.Fp.P:=Js (Q5 _ (by rw [Go.Fp.Hj]; decide))
 rw [Go.Fp.Vk,Go.Fp.mC h,Go.Fp.uW,Go.Fp.YG]
 grobner
def AS (a b:Jac):Nat:=N5 a.y a.x*N5 b.y b.x%Go.Fp.P
def AR (a b:Jac):Nat:=(a.y+a.x)*(b.y+b.x)%Go.Fp.P
def AQ (a b:Jac):Nat:=1*2*Go.Fp.dN*a.t*b.t%Go.Fp.P
def AP (a b:Jac):Nat:=1*2*a.z*b.z%Go.Fp.P
def jfin (a b c e:Nat):Jac:=⟨N5 b a*N5 e c%Go.Fp.P,(e+c)*(b+a)%Go.Fp.P,N5 e c*(e+c)%Go.Fp.P,N5 b a*(b+a)%Go.Fp.P⟩
def NL (a b:Jac):Jac:=jfin (AS a b) (AR a b) (AQ a b) (AP a b)
theorem JRep.add {a b:Jac} {p q:Go.Cv.Pt Go.Fp.P Go.Fp.d} (h1:JRep a p) (h2:JRep b q):JRep (NL a b) (JX p q):=by
 have ha:Go.Fp.fp (AS a b)=(Go.Fp.fp a.y-Go.Fp.fp a.x)*(Go.Fp.fp b.y-Go.Fp.fp b.x):=by
  unfold AS; rw [Go.Fp.YG,Go.Fp.XX,HI,HI]
 have hb:Go.Fp.fp (AR a b)=(Go.Fp.fp a.y+Go.Fp.fp a.x)*(Go.Fp.fp b.y+Go.Fp.fp b.x):=by
  unfold AR; rw [Go.Fp.YG,Go.Fp.XX,Go.Fp.Vk,Go.Fp.Vk]
 have hc:Go.Fp.fp (AQ a b)=1*2*Go.Fp.d*Go.Fp.fp a.t*Go.Fp.fp b.t:=by
  unfold AQ; rw [Go.Fp.YG,Go.Fp.XX,Go.Fp.XX,Go.Fp.XX,Go.Fp.XX,Go.Fp.IJ,Go.Fp.mB]; rfl
 have hd:Go.Fp.fp (AP a b)=1*2*Go.Fp.fp a.z*Go.Fp.fp b.z:=by
  unfold AP; rw [Go.Fp.YG,Go.Fp.XX,Go.Fp.XX,Go.Fp.XX,Go.Fp.IJ,Go.Fp.mB]
 have hx:Go.Fp.fp (NL a b).x=(Go.Fp.fp (AR a b)-Go.Fp.fp (AS a b))*(Go.Fp.fp (AP a b)-Go.Fp.fp (AQ a b)):=by
  show Go.Fp.fp (_%_)=_; rw [Go.Fp.YG,Go.Fp.XX,HI,HI]
 have hy:Go.Fp.fp (NL a b).y=(Go.Fp.fp (AP a b)+Go.Fp.fp (AQ a b))*(Go.Fp.fp (AR a b)+Go.Fp.fp (AS a b)):=by
  show Go.Fp.fp (_%_)=_; rw [Go.Fp.YG,Go.Fp.XX,Go.Fp.Vk,Go.Fp.Vk]
 have hz:Go.Fp.fp (NL a b).z=(Go.Fp.fp (AP a b)-Go.Fp.fp (AQ a b))*(Go.Fp.fp (AP a b)+Go.Fp.fp (AQ a b)):=by
  show Go.Fp.fp (_%_)=_; rw [Go.Fp.YG,Go.Fp.XX,Go.Fp.Vk,HI]
 have ht:Go.Fp.fp (NL a b).t=(Go.Fp.fp (AR a b)-Go.Fp.fp (AS a b))*(Go.Fp.fp (AR a b)+Go.Fp.fp (AS a b)):=by
  show Go.Fp.fp (_%_)=_; rw [Go.Fp.YG,Go.Fp.XX,Go.Fp.Vk,HI]
 obtain ⟨g1,g2,g3,g4⟩:=Fh h1.x h1.y h1.t h2.x h2.y h2.t ha hb hc hd hx hy hz ht (Go.Cv.Dv Go.Fp.fld p q) (Go.Cv.Bz Go.Fp.fld p q)
 refine ⟨?_,g1,g2,g3⟩
 rw [g4]
 have F:=Go.Fp.fld
 have w:=F.mul_ne (F.mul_ne F.two h1.nz) h2.nz
 exact F.mul_ne (F.mul_ne w w) (F.mul_ne (F.denM p.on q.on) (F.denP p.on q.on))
def dF (p:Jac):Nat→Nat→Jac
 | 0,_=>⟨0,1,1,0⟩
 | f+1,k=>(fun r=>if k%2=1 then NL (NL r r) p else NL r r) (dF p f (k/2))
theorem JRep.mul {a:Jac} {p:Go.Cv.Pt Go.Fp.P Go.Fp.d} (h:JRep a p):∀ {f k:Nat},k<2^f→JRep (dF a f k) (Jp k p)
 | 0,k,hk=>by
  have:k=0:=by omega
  subst this
  exact ⟨Go.Fp.Yr,by show (0:Go.Fp.Fe)=0*1; grobner,by show (1:Go.Fp.Fe)=1*1; grobner,by show (0:Go.Fp.Fe)=0*1*1; grobner⟩
 | f+1,k,hk=>by
  have ih:=JRep.mul h (f:=f) (k:=k/2) (by omega)
  have hb:=Q5 k (by decide:0<2)
  have e:Jp k p=Jp (2*(k/2)+k%2) p:=by rw [Zz]
  rw [e,Ff p (k/2) (k%2) hb]
  simp only [dF]
  split
  ·exact (ih.add ih).add h
  ·exact ih.add ih
def aO:Jac:=⟨bxN,byN,1,bxN*byN%Go.Fp.P⟩
theorem FA:JRep aO Xl:=by
 have h1:Go.Fp.fp 1=(1:Go.Fp.Fe):=rfl
 refine ⟨Go.Fp.Yr,?_,?_,?_⟩
 ·show Go.Fp.fp bxN=Go.Fp.fp bxN*Go.Fp.fp 1; rw [h1]; grobner
 ·show Go.Fp.fp byN=Go.Fp.fp byN*Go.Fp.fp 1; rw [h1]; grobner
 ·show Go.Fp.fp (bxN*byN%Go.Fp.P)=Go.Fp.fp bxN*Go.Fp.fp byN*Go.Fp.fp 1; rw [h1,Go.Fp.YG,Go.Fp.XX]; grobner
theorem Su:Jp 8 Xl≠Ks:=fun h=>by
 have r:=FA.mul (f:=4) (k:=8) (by decide)
 rw [h] at r
 have hx:=r.x
 rw [show (Ks:Go.Cv.Pt Go.Fp.P Go.Fp.d).x=0 from rfl] at hx
 have h0:Go.Fp.fp (dF aO 4 8).x=Go.Fp.fp 0:=by rw [hx]; show _=(0:Go.Fp.Fe); grobner
 have h1:=Go.Fp.Tg.1 h0
 have h2:(dF aO 4 8).x%Go.Fp.P≠0%Go.Fp.P:=by decide +kernel
 exact h2 h1
theorem lM {a:Jac} (r:JRep a q) (c1:a.x%Go.Fp.P=0%Go.Fp.P) (c2:a.y%Go.Fp.P=a.z%Go.Fp.P):q=Ks:=by
 have d1:=Go.Fp.Tg.2 c1
 have d2:=Go.Fp.Tg.2 c2
 have F:=Go.Fp.fld
 have hx:=r.x
 have hy:=r.y
 have hz:=r.nz
 rw [d1] at hx
 rw [d2] at hy
 generalize Go.Fp.fp a.z=z at *
 apply Go.Cv.Pt.ext
 ·show _=(0:Go.Fp.Fe)
  have h0:Go.Fp.fp 0=(0:Go.Fp.Fe):=rfl
  rw [h0] at hx
  refine F.cancel hz ?_
  generalize q.x=w at *
  clear r hy d1 d2
  grobner
 ·show _=(1:Go.Fp.Fe)
  refine F.cancel hz ?_
  generalize q.y=w at *
  clear r hx d1 d2
  grobner
def aZ (a:Jac):Bool:=Nat.beq (a.x%Go.Fp.P) 0&&Nat.beq (a.y%Go.Fp.P) (a.z%Go.Fp.P)
theorem mR:aZ (dF aO 253 ell)=true:=by decide +kernel
theorem Oi:Jp ell Xl=Ks:=by
 have h:=mR
 simp only [aZ,ZR] at h
 exact lM (FA.mul (f:=253) (k:=ell) (by decide +kernel)) (Nat.eq_of_beq_eq_true h.1) (Nat.eq_of_beq_eq_true h.2)
theorem Iz {a:Go.Fp.Fe} (h0:a≠0):(-a).val%2≠a.val%2:=by
 have hlt:=a.isLt
 have hne:a.val≠0:=fun h=>h0 (Fin.ext h)
 have h1:(-a).val=(Go.Fp.P-a.val)%Go.Fp.P:=rfl
 have h2:(Go.Fp.P-a.val)<Go.Fp.P:=by omega
 rw [h1,Qv h2]
 have hP:Go.Fp.P%2=1:=by rw [Go.Fp.Hj]
 omega
theorem SW {a b:Go.Fp.Fe} (h:a*a=b*b):a=b∨a = -b:=by
 have F:=Go.Fp.fld
 have:(a-b)*(a+b)=0:=by grobner
 rcases F.dom this with h1 | h1
 ·left; clear h this; grobner
 ·right; clear h this; grobner
theorem uk (dd z:Go.Fp.Fe) (hz:z=0):dd*(z*z)+1=1:=by grobner
theorem Sw (y:Go.Fp.Fe):Go.Fp.d*(y*y)+1≠0:=fun h=>by
 have F:=Go.Fp.fld
 have hy:y≠0:=by
  intro h0
  rw [uk _ _ h0] at h
  exact Go.Fp.Yr h
 have hi:=Go.Fp.KL hy
 have hr:=Go.Fp.Ps
 apply Go.Fp.nosq (Go.Fp.iQ*Go.Fp.iv y)
 generalize Go.Fp.d=dd at *
 generalize Go.Fp.iQ=ii at *
 generalize Go.Fp.iv y=w at *
 clear F hy
 have e1:dd*(y*w)*(y*w)+w*w=0:=by
  have:dd*(y*w)*(y*w)+w*w=(dd*(y*y)+1)*(w*w):=by clear h hi hr; grobner
  rw [this,h]; clear this h hi hr; grobner
 rw [hi] at e1
 have e2:ii*w*(ii*w)=(ii*ii)*(w*w):=by clear h hi hr e1; grobner
 rw [e2,hr]
 clear h hi hr e2
 grobner
theorem og (p:Go.Cv.Pt Go.Fp.P Go.Fp.d):(Go.Fp.d*(p.y*p.y)+1)*(p.x*p.x)=p.y*p.y-1:=by
 have h:=p.on
 unfold Go.Cv.On at h
 generalize Go.Fp.d=dd at *
 generalize p.x=x at *
 generalize p.y=y at *
 grobner
theorem mQ {q:Go.Cv.Pt Go.Fp.P Go.Fp.d} (h:Mw p=Mw q):p=q:=by
 unfold Mw at h
 have h1:=Gl p.y
 have h2:=Gl q.y
 have h3:=Q5 p.x.val (by decide:0<2)
 have h4:=Q5 q.x.val (by decide:0<2)
 have hy:p.y.val=q.y.val:=by omega
 have hx:p.x.val%2=q.x.val%2:=by omega
 have hy':p.y=q.y:=Fin.ext hy
 have e1:=og p
 have e2:=og q
 rw [hy',←e2] at e1
 have e3:=Go.Fp.fld.cancel (Sw q.y) e1
 refine Go.Cv.Pt.ext ?_ hy'
 rcases SW e3 with h | h
 ·exact h
 ·by_cases h0:q.x=0
  ·rw [h,h0]; grobner
  ·exfalso
   have:=Iz h0
   rw [←h] at this
   exact this hx
theorem IK (p q:Go.Cv.Pt Go.Fp.P Go.Fp.d):(enc p==enc q)=decide (p=q):=by
 unfold enc
 rw [key_inj (IL p) (IL q)]
 by_cases h:p=q
 ·subst h; rw [decide_eq_true rfl,decide_eq_true rfl]
 ·rw [decide_eq_false h,decide_eq_false (fun e=>h (mQ e))]
theorem uZ {a b:List Nat} (ha:RepL a p) (hb:RepL b q):fillL (Qa 40 (Value.int .u64 0)) [(0,20,eV a),(20,20,eV b)]=some (ns .u64 [a,b].flatten):=by
 obtain ⟨x1,y1,z1,t1,rfl,h1⟩:=ha
 obtain ⟨x2,y2,z2,t2,rfl,h2⟩:=hb
 obtain ⟨a0,a1,a2,a3,a4,rfl,-⟩:=h1.ex.five
 obtain ⟨b0,b1,b2,b3,b4,rfl,-⟩:=h1.ey.five
 obtain ⟨c0,c1,c2,c3,c4,rfl,-⟩:=h1.ez.five
 obtain ⟨d0,d1,d2,d3,d4,rfl,-⟩:=h1.et.five
 obtain ⟨e0,e1,e2,e3,e4,rfl,-⟩:=h2.ex.five
 obtain ⟨f0,f1,f2,f3,f4,rfl,-⟩:=h2.ey.five
 obtain ⟨g0,g1,g2,g3,g4,rfl,-⟩:=h2.ez.five
 obtain ⟨i0,i1,i2,i3,i4,rfl,-⟩:=h2.et.five
 rfl
theorem Hy (p q:Go.Cv.Pt Go.Fp.P Go.Fp.d):JX p q=JX q p:=Go.Cv.add_comm Go.Fp.fld p q
theorem DB (p q r:Go.Cv.Pt Go.Fp.P Go.Fp.d):JX (JX p q) r=JX p (JX q r):=Go.Cv.add_assoc Go.Fp.fld p q r
theorem aW (lk:k.length=32) (xk:∀ x∈k,x<256):enc p=k↔Mw p=num 256 k:=by
 have h1:=num_lt xk
 rw [lk] at h1
 have h2:=U6 (by decide:0<256) xk
 rw [lk] at h2
 constructor
 ·intro h
  have:=XF (B:=256) (by decide) 32 (Mw p)
  rw [Qv (IL p)] at this
  rw [←this,←h]; rfl
 ·intro h
  unfold enc
  rw [h,h2]
theorem FK {V:Nat}:Mw p=V↔p.y.val=V%2^255∧p.x.val%2=V/2^255:=by
 have h1:=Gl p.y
 have h3:=Q5 p.x.val (by decide:0<2)
 unfold Mw
 constructor
 ·intro h; omega
 ·rintro ⟨h,h'⟩; rw [h,h',Zj,Nat.mod_add_div]
theorem kh {u v x y:Go.Fp.Fe} (hu:u=y*y-1) (hv:v=Go.Fp.d*(y*y)+1) (h:v*(x*x)=u):Go.Cv.On Go.Fp.d x y:=by
 unfold Go.Cv.On
 generalize Go.Fp.d=dd at *
 subst hu hv
 grobner
theorem aM (lk:k.length=32) (xk:∀ x∈k,x<256):∃ w,k[31]?=some w∧w<256∧w/128=num 256 k/2^255∧num 256 (k.set 31 (w&&&127))=num 256 k%2^255∧(∀ x∈k.set 31 (w&&&127),x<256)∧(k.set 31 (w&&&127)).length=32:=by
 obtain ⟨w,hw⟩:∃ w,k[31]?=some w:=⟨_,Qf (by omega)⟩
 have hw':w<256:=xk w (Qp hw)
 have hV:=num_lt xk
 rw [lk] at hV
 have hg:=Kk (by decide:0<256) xk hw
 have hs:=Vn (B:=256) (w&&&127) hw
 have ha:w&&&127=w%128:=Vs w 7
 refine ⟨w,hw,hw',?_⟩
 rw [ha] at hs ⊢
 have e31:(256:Nat)^31=452312848583266388373324160190187140051835877600158453279131187530910662656:=by decide
 have e32:(256:Nat)^32=115792089237316195423570985008687907853269984665640564039457584007913129639936:=by decide
 have e255:(2:Nat)^255=57896044618658097711785492504343953926634992332820282019728792003956564819968:=by decide
 rw [e31] at hg hs
 rw [e32] at hV
 rw [e255]
 refine ⟨by omega,by omega,?_,by rw [Q3]; exact lk⟩
 intro x hx
 rcases List.mem_or_eq_of_mem_set hx with h | h
 ·exact xk x h
 ·omega
def GO (l:List Nat) (c:Int):Value := .tuple #[eV l,.int .i64 c]
theorem Ou (lk:k.length=32) (xk:∀ x∈k,x<256) :
  (∃ l p,QK T 45 [.agg (u8s k).toArray]=some (GO l 0)∧RepL l p∧enc p=k)∨(∃ l,QK T 45 [.agg (u8s k).toArray]=some (GO l 60)∧l.length=20∧∀ p,enc p≠k):=by
 obtain ⟨w,hw,hw',ht,hm,xm,lm⟩:=aM lk xk
 have hwc:=Jx hw
 have hset:=Xb k 31 (w&&&127)
 have o1:Zp .and .u8 (w:Int) 127=((w&&&127:Nat):Int):=Um (k := .u8) (a:=w) (b:=127) rfl hw' (by decide)
 have hof:=dn lm xm
 have hcan:=O6 lm xm
 rw [hm] at hof hcan
 rw [Y3] at hof
 have hkey:∀ p:Go.Cv.Pt Go.Fp.P Go.Fp.d,enc p=k↔p.y.val=num 256 k%2^255∧p.x.val%2=num 256 k/2^255:=fun p=>by rw [aW lk xk,FK]
 rw [←ht] at hkey
 have Ey:=N0 (V:=num 256 k%2^255)
 have fy:fe (dig (2^51) 5 (num 256 k%2^255))=Go.Fp.fp (num 256 k%2^255):=by unfold fe; rw [R3]
 generalize k.set 31 (w&&&127)=km at *
 generalize dig (2^51) 5 (num 256 k%2^255)=Y at *
 generalize num 256 k%2^255=V at *
 have hz20:∃ O,Qa 20 (Value.int .u64 0)=ns .u64 O∧O.length=20∧fillL (ns .u64 O) []=some (ns .u64 O):=⟨Qa 20 0,rfl,rfl,rfl⟩
 obtain ⟨O,hz20,l0,hf0⟩:=hz20
 have l1:=Ey.len
 have hz5:Qa 5 (Value.int .u64 0)=ns .u64 [0,0,0,0,0]:=rfl
 have l5:([0,0,0,0,0]:List Nat).length=5:=rfl
 have hbit:((((w/128:Nat):Int))==1)=decide (w/128=1):=by
  by_cases h:w/128=1
  ·rw [h]; rfl
  ·have:¬ (((w/128:Nat):Int)=1):=by omega
   rw [decide_eq_false h,beq_eq_false_iff_ne.2 this]
 have hshr:((w:Int)/128)=((w/128:Nat):Int):=rfl
 by_cases hV:V<Go.Fp.P
 ·rw [decide_eq_true hV] at hcan
  have hYv:(Go.Fp.fp V).val=V:=Qv hV
  obtain ⟨one,hone⟩:∃ O:List Nat,O=[1,0,0,0,0]:=⟨_,rfl⟩
  have Eone:El one (2^52):=by rw [hone]; exact DD
  have vone:QK T 73 [.int .u32 1]=some (eV one):=by rw [hone]; exact kf
  have fone:fe one=1:=by rw [hone]; exact DC
  clear hone
  obtain ⟨yy,hyy,Eyy,fyy⟩:=Xe Ey Ey
  obtain ⟨D,hD,ED,fD⟩:=AY
  obtain ⟨uu,huu,Euu,fuu⟩:=BT Eyy Eone
  obtain ⟨dy,hdy,Edy,fdy⟩:=Xe ED Eyy
  obtain ⟨vv,sv,hvv,Evv,fvv⟩:=Yn (H:=[⟨u8s km,true,true,true,1⟩,⟨ns .u64 O,true,true,true,1⟩,⟨ns .u64 Y,true,true,true,1⟩,⟨ns .u64 yy,true,true,true,1⟩,⟨ns .u64 (dy++one),true,true,true,1⟩]) (id:=4) Edy Eone rfl
  simp only [Qn,Ql] at hvv
  obtain ⟨r,ok,hr,Er,hok,hno⟩:=tP Euu Evv
  have hf2:=Ui Edy Eone
  have l6:=Eyy.len
  have l7:=Er.len
  have kz:=lQ Er
  obtain ⟨nr,hnr,Enr,fnr⟩:=Ft Er
  obtain ⟨t1,ht1,Et1,ft1⟩:=Xe Er Ey
  obtain ⟨t2,ht2,Et2,ft2⟩:=Xe Enr Ey
  have g1:=Th Er Ey Eone Et1
  have g2:=Th Enr Ey Eone Et2
  rw [hz20] at g1 g2
  have q1:=YC Er Ey Eone Et1
  have q2:=YC Enr Ey Eone Et2
  have l8:=Enr.len
  have hu:fe uu=Go.Fp.fp V*Go.Fp.fp V-1:=by rw [fuu,fyy,fy,fone]
  have hv:fe vv=Go.Fp.d*(Go.Fp.fp V*Go.Fp.fp V)+1:=by rw [fvv,fdy,fD,fyy,fy,fone]
  have hyp:∀ p:Go.Cv.Pt Go.Fp.P Go.Fp.d,enc p=k→p.y=Go.Fp.fp V:=fun p hp=>Fin.ext (by rw [hYv]; exact ((hkey p).1 hp).1)
  have hxx:∀ p:Go.Cv.Pt Go.Fp.P Go.Fp.d,enc p=k→fe vv*(p.x*p.x)=fe uu:=fun p hp=>by
   have:=og p
   rw [hyp p hp] at this
   rw [hu,hv]; exact this
  have rft:∀ b:Bool,rf (Value.tuple #[eV r,.bool b])=true:=fun b=>KD (a:=eV r) (b := .bool b) (QV r) rfl
  cases ok with
  | false =>
   refine .inr ⟨O,?_,l0,fun p hp=>hno rfl p.x (hxx p hp)⟩
   apply X5
   apply Jm
   rw [Zb (fn:=a31) rfl]
   simp only [a31,Qs,quiet,cW,↓pW,reduceCtorEq,seval,-Qb,cU,hz20,hf0,hz5,hwc,hset,o1,hof,hcan,hbit,hshr,vone,hyy,hD,huu,hdy,hf2,hvv,hr,Qe,Qy,Qz,Q7,Zc,Q8,Q9,Qq,lk,lm,l0,l1,l5,l6,l7,WR,LC,rft,QV]
   rfl
  | true =>
   obtain ⟨hroot,hev⟩:=hok rfl
   have hev':(fe r).val%2=0:=by
    rcases hev with h | h
    ·exact h
    ·rw [h]; rfl
   by_cases hb:w/128=1
   ·rw [decide_eq_true hb] at hbit
    by_cases h0:fe r=0
    ·rw [decide_eq_true h0] at kz
     refine .inr ⟨O,?_,l0,fun p hp => ?_⟩
     ·apply X5
      apply Jm
      rw [Zb (fn:=a31) rfl]
      simp only [a31,Qs,quiet,cW,↓pW,reduceCtorEq,seval,-Qb,cU,hz20,hf0,hz5,hwc,hset,o1,hof,hcan,hbit,hshr,vone,hyy,hD,huu,hdy,hf2,hvv,hr,Qe,Qy,Qz,Q7,Zc,Q8,Q9,Qq,lk,lm,l0,l1,l5,l6,l7,WR,LC,rft,QV,kz]
      rfl
     ·have h2:=((hkey p).1 hp).2
      have h3:=hxx p hp
      rw [←hroot,h0] at h3
      have h4:p.x*p.x=0*0:=Go.Fp.fld.cancel (by rw [hv]; exact Sw _) h3
      rcases SW h4 with h5 | h5
      ·rw [h5,hb] at h2; exact absurd h2 (by decide)
      ·rw [h5,hb] at h2; exact absurd h2 (by decide)
    ·rw [decide_eq_false h0] at kz
     have hroot':fe vv*(-fe r * -fe r)=fe uu:=by rw [←hroot]; generalize fe r=a; generalize fe vv=b; grobner
     refine .inl ⟨pL nr Y one t2,⟨-fe r,Go.Fp.fp V,kh hu hv hroot'⟩,?_,⟨nr,Y,one,t2,rfl,Enr,Ey,Eone,Et2,by rw [fone]; exact Go.Fp.Yr,?_,?_,?_⟩,(hkey _).2 ⟨hYv,?_⟩⟩
     ·generalize pL nr Y one t2=L at *
      apply X5
      apply Jm
      rw [Zb (fn:=a31) rfl]
      simp only [a31,Qs,quiet,cW,↓pW,reduceCtorEq,seval,-Qb,cU,hz20,hf0,hz5,hwc,hset,o1,hof,hcan,hbit,hshr,vone,hyy,hD,huu,hdy,hf2,hvv,hr,Qe,Qy,Qz,Q7,Zc,Q8,Q9,Qq,lk,lm,l0,l1,l5,l6,l7,WR,LC,rft,QV,kz,hnr,ht2,g2,q2,l8]
      rfl
     ·rw [fnr,fone]; show -fe r = -fe r*1; generalize fe r=a; grobner
     ·rw [fy,fone]; show Go.Fp.fp V=Go.Fp.fp V*1; generalize Go.Fp.fp V=a; grobner
     ·rw [ft2,fnr,fy,fone]; show -fe r*Go.Fp.fp V = -fe r*Go.Fp.fp V*1; generalize Go.Fp.fp V=a; generalize fe r=b; grobner
     ·have:=Iz h0
      rw [hev'] at this
      show (-fe r).val%2=_
      rw [hb]; omega
   ·rw [decide_eq_false hb] at hbit
    refine .inl ⟨pL r Y one t1,⟨fe r,Go.Fp.fp V,kh hu hv hroot⟩,?_,⟨r,Y,one,t1,rfl,Er,Ey,Eone,Et1,by rw [fone]; exact Go.Fp.Yr,?_,?_,?_⟩,(hkey _).2 ⟨hYv,?_⟩⟩
    ·generalize pL r Y one t1=L at *
     apply X5
     apply Jm
     rw [Zb (fn:=a31) rfl]
     simp only [a31,Qs,quiet,cW,↓pW,reduceCtorEq,seval,-Qb,cU,hz20,hf0,hz5,hwc,hset,o1,hof,hcan,hbit,hshr,vone,hyy,hD,huu,hdy,hf2,hvv,hr,Qe,Qy,Qz,Q7,Zc,Q8,Q9,Qq,lk,lm,l0,l1,l5,l6,l7,WR,LC,rft,QV,ht1,g1,q1]
     rfl
    ·rw [fone]; show fe r=fe r*1; generalize fe r=a; grobner
    ·rw [fy,fone]; show Go.Fp.fp V=Go.Fp.fp V*1; generalize Go.Fp.fp V=a; grobner
    ·rw [ft1,fy,fone]; show fe r*Go.Fp.fp V=fe r*Go.Fp.fp V*1; generalize Go.Fp.fp V=a; generalize fe r=b; grobner
    ·show (fe r).val%2=_
     rw [hev']; omega
 ·rw [decide_eq_false hV] at hcan
  refine .inr ⟨O,?_,l0,fun p hp=>hV ?_⟩
  ·apply X5
   apply Jm
   rw [Zb (fn:=a31) rfl]
   simp only [a31,Qs,quiet,cW,↓pW,reduceCtorEq,seval,-Qb,cU,hz20,hf0,hz5,hwc,hset,o1,hof,hcan,hbit,hshr,Qe,Qy,Qz,Q7,Zc,Q8,Q9,Qq,lk,lm,l0,l1,l5,QV]
   rfl
  ·rw [←((hkey p).1 hp).1]; exact p.y.isLt
def pf (n:Nat) (L:List Nat) (i:Nat):List Nat:=L.take i++Qa (n-i) 0
theorem Kt (n:Nat) (L:List Nat):pf n L 0=Qa n 0:=by simp [pf]
theorem Ku (h:L.length=n):pf n L n=L:=by simp [pf,←h]
theorem Ko (h:L.length=n) (hi:i≤n):(pf n L i).length=n:=by simp [pf]; omega
theorem XE (h:L.length=n) (hi:i<n) (hx:L[i]?=some x):(pf n L i).set i x=pf n L (i+1):=by
 unfold pf
 rw [ZP _ _ (by simp; omega)]
 have e1:(L.take i).length=i:=by simp; omega
 rw [e1,Q4]
 have e2:n-i=(n-(i+1))+1:=by omega
 rw [e2,Kq,Wn,Zw,hx]
 simp
structure Nm (l:List Nat):Prop where
 len:l.length=16
 lt:∀ x∈l,x<65536
theorem Nm.num_lt {l:List Nat} (h:Nm l):num 65536 l<2^256:=by
 have:=Go.Ev.num_lt h.lt
 rw [h.len] at this
 exact this
theorem Nm.dig (v:Nat):Nm (dig 65536 16 v):=⟨Zd _ _ _,fun x h=>Vl (by decide) h⟩
theorem Nm.eq {l:List Nat} (h:Nm l):l=Go.Ev.dig 65536 16 (num 65536 l):=by
 have:=U6 (B:=65536) (by decide) h.lt
 rw [h.len] at this
 exact this.symm
theorem Nm.inj {l m:List Nat} (h:Nm l) (h':Nm m) (e:num 65536 l=num 65536 m):l=m:=by rw [h.eq,h'.eq,e]
theorem V9 {v:Nat} (h:v<2^256):num 65536 (dig 65536 16 v)=v:=by
 rw [XF (by decide)]; exact Qv h
def nf (l:List Nat):Go.Fp.Fe:=Go.Fp.fp (num 65536 l)
theorem bE (xk:∀ x∈k,x<256) {y:Nat} (hx:k[2*i]?=some x) (hy:k[2*i+1]?=some y):num 256 k/65536^i%65536=x+256*y:=by
 have h1:=Kk (B:=256) (by decide) xk hx
 have h2:=Kk (B:=256) (by decide) xk hy
 have e:(65536:Nat)^i=256^(2*i):=by rw [show (65536:Nat)=256^2 from rfl,←Ja]
 rw [e]
 rw [Ze,←QT] at h2
 omega
def ZK:List Nat:=Qa 16 0
theorem Ky:Qa 16 (Value.int .u64 0)=ns .u64 ZK:=rfl
theorem Ba:fillL (ns .u64 ZK) []=some (ns .u64 ZK):=rfl
theorem XD:ZK.length=16:=rfl
theorem wn (h:n<9223372036854775808):IntKind.i64.wrap (n:Int)=n:=ZT h
theorem Kn (h:n<18446744073709551616):IntKind.u64.wrap (n:Int)=n:=by rw [U0,Qv h]
theorem YY (h:a+b<18446744073709551616):IntKind.u64.wrap ((a:Int)+(b:Int))=((a+b:Nat):Int):=by rw [←Jl]; exact Kn h
theorem Uu (h:a*b<18446744073709551616):IntKind.u64.wrap ((a:Int)*(b:Int))=((a*b:Nat):Int):=by rw [←JT]; exact Kn h
theorem Zx (h:a+b<9223372036854775808):IntKind.i64.wrap ((a:Int)+(b:Int))=((a+b:Nat):Int):=by rw [←Jl]; exact wn h
theorem UE (h:a*b<9223372036854775808):IntKind.i64.wrap ((a:Int)*(b:Int))=((a*b:Nat):Int):=by rw [←JT]; exact wn h
def Pu (k o:List Nat) (i:Int) (ex:Env):St:=⟨[(1,.pointer (some ⟨0,0,none⟩)),(2,.pointer (some ⟨1,0,none⟩)),(3,.pointer (some ⟨2,0,none⟩)),(4,.int .i64 i)]++ex,[⟨u8s k,true,true,true,1⟩,⟨ns .u64 ZK,true,true,true,1⟩,⟨ns .u64 o,true,true,true,1⟩],[]⟩
theorem iq (lk:k.length=32) (xk:∀ x∈k,x<256) (hi:i<16) :
  Q2 T 0 CG (Pu k (pf 16 (dig 65536 16 (num 256 k)) i) i [])=some (.normal,Pu k (pf 16 (dig 65536 16 (num 256 k)) (i+1)) ((i+1:Nat):Int) []):=by
 obtain ⟨x,hx⟩:∃ x,k[2*i]?=some x:=⟨_,Qf (by omega)⟩
 obtain ⟨y,hy⟩:∃ y,k[2*i+1]?=some y:=⟨_,Qf (by omega)⟩
 have hx':=xk x (Qp hx)
 have hy':=xk y (Qp hy)
 have hd:=bE xk hx hy
 have hg:(dig 65536 16 (num 256 k))[i]?=some (x+256*y):=by rw [XR hi,hd]
 have hstep:=XE (Zd _ _ _) hi hg
 have hlen:=Ko (Zd 65536 16 (num 256 k)) (Js hi)
 have hset:=X8 .u64 (pf 16 (dig 65536 16 (num 256 k)) i) i (x+256*y)
 rw [hstep] at hset
 have hxc:=Jx hx
 have hyc:=Jx hy
 have w1:IntKind.i64.wrap ((i:Int)+1)=((i+1:Nat):Int):=Zx (b:=1) (by omega)
 have w2:IntKind.i64.wrap (2*(i:Int))=((2*i:Nat):Int):=UE (a:=2) (by omega)
 have w3:IntKind.i64.wrap (((2*i:Nat):Int)+1)=((2*i+1:Nat):Int):=Zx (b:=1) (by omega)
 have w4:IntKind.u64.wrap (x:Int)=(x:Int):=Kn (by omega)
 have w5:IntKind.u64.wrap (y:Int)=(y:Int):=Kn (by omega)
 have w6:IntKind.u64.wrap (256*(y:Int))=((256*y:Nat):Int):=Uu (a:=256) (by omega)
 have w7:IntKind.u64.wrap ((x:Int)+((256*y:Nat):Int))=((x+256*y:Nat):Int):=YY (by omega)
 have e1:((i:Int)<16)=True:=eq_true (by omega)
 have e2:(((2*i:Nat):Int)<32)=True:=eq_true (by omega)
 have e3:(((2*i+1:Nat):Int)<32)=True:=eq_true (by omega)
 have e4:(i≤15)=True:=eq_true (by omega)
 generalize pf 16 (dig 65536 16 (num 256 k)) i=o at *
 generalize hj:2*i=j at *
 generalize hj1:j+1=j1 at *
 generalize hv:256*y=v at *
 simp only [Pu,CG,Qs,quiet,cW,↓pW,reduceCtorEq,seval,-Qb,hxc,hyc,w1,w2,w3,w4,w5,w6,w7,e1,e2,e3,e4,hset,Q9,hlen]
theorem sR (lk:k.length=32) (xk:∀ x∈k,x<256):QK T 104 [.agg (u8s k).toArray]=some (eV (dig 65536 16 (num 256 k%2^255))):=by
 have hb:=ZV (T:=T) (base:=0) (id:=0) (body:=CG) (fun i=>Pu k (pf 16 (dig 65536 16 (num 256 k)) i) i []) (s':=Pu k (dig 65536 16 (num 256 k)) 16 [(7,.bool false)]) 16
  (fun i hi=>iq lk xk hi) (by
   rw [Ku (Zd _ _ _)]
   simp only [Pu,CG,Qs,quiet,cK,↓pQ,reduceCtorEq,seval,-Qb,cL])
 rw [Kt] at hb
 have hV:=num_lt xk
 rw [lk] at hV
 have hN:=Nm.dig (num 256 k)
 obtain ⟨w,hw⟩:∃ w,(dig 65536 16 (num 256 k))[15]?=some w:=⟨_,Qf (by rw [Zd]; omega)⟩
 have hw':=hN.lt w (Qp hw)
 have hwv:w=num 256 k/65536^15%65536:=by rw [XR (by decide)] at hw; exact (XA hw).symm
 have hs:=Vn (B:=65536) (w%32768) hw
 rw [V9 hV] at hs
 have hfin:(dig 65536 16 (num 256 k)).set 15 (w%32768)=dig 65536 16 (num 256 k%2^255):=by
  have hNs:Nm ((dig 65536 16 (num 256 k)).set 15 (w%32768)):=⟨by rw [Q3,Zd],VY hN.lt (by omega)⟩
  refine hNs.eq.trans (congrArg (dig 65536 16) ?_)
  have e15:(65536:Nat)^15=1766847064778384329583297500742918515827483896875618958121606201292619776:=by decide
  have e255:(2:Nat)^255=57896044618658097711785492504343953926634992332820282019728792003956564819968:=by decide
  have e256:(256:Nat)^32=115792089237316195423570985008687907853269984665640564039457584007913129639936:=by decide
  have hq:w=num 256 k/65536^15:=by
   rw [e15] at hwv ⊢
   rw [e256] at hV
   omega
  have hq2:num 256 k/2^255=w/32768:=by
   rw [hq,e15,e255]
   omega
  have hdm:=Zz (num 256 k) (2^255)
  rw [hq2] at hdm
  rw [e15] at hs
  rw [e255] at *
  omega
 have hset:=X8 .u64 (dig 65536 16 (num 256 k)) 15 (w%32768)
 rw [hfin] at hset
 have hwc:=ZM (k := .u64) hw
 have l1:=Zd 65536 16 (num 256 k)
 have l2:=Zd 65536 16 (num 256 k%2^255)
 have hm:((w:Int).tmod 32768)=((w%32768:Nat):Int):=rfl
 have wm:IntKind.u64.wrap ((w%32768:Nat):Int)=((w%32768:Nat):Int):=Kn (by omega)
 simp only [Pu,Qn,Ql,QB] at hb
 have hz:=Ky
 have hf:=Ba
 have lz:=XD
 rw [show Qa 16 0=ZK from rfl] at hb
 generalize ZK=Z at *
 generalize dig 65536 16 (num 256 k)=D,dig 65536 16 (num 256 k%2^255)=R at *
 apply QI (fn:=a65) rfl
 simp only [a65,Qs,quiet,cW,↓pW,reduceCtorEq,seval,-Qb,hz,hf,hb,hwc,hm,wm,hset,Qe,Qy,Qz,Q7,Zc,Q8,Q9,Qq,lk,l1,l2,lz,QV]
 rfl
theorem DR (h:b≤a) (ha:a<18446744073709551616):IntKind.u64.wrap ((a:Int)-(b:Int))=((a-b:Nat):Int):=by rw [WN]; omega
theorem sP (a n:Nat):Int.tmod (a:Int) (n:Int)=((a%n:Nat):Int):=rfl
theorem Ts {n:Nat} {p q:List Nat} (hp:p.length=n) (hq:q.length=n):JA (Qa n true) (ns .u64 p) (ns .u64 q)=some (p==q):=by
 induction n generalizing p q with
 | zero=>cases p with
  | nil=>cases q with
   | nil=>rfl
   | cons=>cases hq
  | cons=>cases hp
 | succ n ih=>cases p with
  | nil=>cases hp
  | cons a p=>cases q with
   | nil=>cases hq
   | cons b q =>
    have:=ih (p:=p) (q:=q) (by simpa using hp) (by simpa using hq)
    rw [Wb,Wb,Kq]
    simp only [JA,this,GS,if_true,Qo,List.cons_beq_cons]
    congr 2
    by_cases h:a=b
    ·subst h; simp
    ·have h':¬ (a:Int)=(b:Int):=by omega
     rw [beq_eq_false_iff_ne.2 h,beq_eq_false_iff_ne.2 h']
def KJ:List Nat:=dig 65536 16 Go.Fp.P
theorem Yw:Nm KJ:=Nm.dig _
theorem WX:num 65536 KJ=Go.Fp.P:=by decide +kernel
def Pq (o:List Nat) (i:Int) (ex:Env):St:=⟨[(0,.pointer (some ⟨0,0,none⟩)),(1,.pointer (some ⟨1,0,none⟩)),(2,.int .i64 i)]++ex,[⟨ns .u64 ZK,true,true,true,1⟩,⟨ns .u64 o,true,true,true,1⟩],[]⟩
theorem ij (hi:i<16) :
  Q2 T 0 Cz (Pq (pf 16 (Qa 16 65535) i) i [])=some (.normal,Pq (pf 16 (Qa 16 65535) (i+1)) ((i+1:Nat):Int) []):=by
 have hl:(Qa 16 65535).length=16:=rfl
 have hg:(Qa 16 65535)[i]?=some 65535:=by rw [Vt,if_pos hi]
 have hstep:=XE hl hi hg
 have hlen:=Ko hl (Js hi)
 have hset:=X8 .u64 (pf 16 (Qa 16 65535) i) i 65535
 rw [hstep] at hset
 have hset':(ns .u64 (pf 16 (Qa 16 65535) i)).set i (.int .u64 65535)=ns .u64 (pf 16 (Qa 16 65535) (i+1)):=hset
 clear hset
 have w1:IntKind.i64.wrap ((i:Int)+1)=((i+1:Nat):Int):=Zx (b:=1) (by omega)
 have e1:((i:Int)<16)=True:=eq_true (by omega)
 have e4:(i≤15)=True:=eq_true (by omega)
 generalize pf 16 (Qa 16 65535) i=o at *
 simp only [Pq,Cz,Qs,quiet,cW,↓pW,reduceCtorEq,seval,-Qb,w1,e1,e4,hset',Q9,hlen]
theorem Gs:QK T 153 []=some (eV KJ):=by
 have hb:=ZV (T:=T) (base:=0) (id:=0) (body:=Cz) (fun i=>Pq (pf 16 (Qa 16 65535) i) i []) (s':=Pq (Qa 16 65535) 16 [(5,.bool false)]) 16
  (fun i hi=>ij hi) (by
   rw [Ku (n:=16) (L:=Qa 16 65535) rfl]
   simp only [Pq,Cz,Qs,quiet,cK,↓pQ,reduceCtorEq,seval,-Qb,cL])
 rw [Kt,show Qa 16 0=ZK from rfl] at hb
 simp only [Pq,Qn,Ql,QB] at hb
 have hz:=Ky
 have hf:=Ba
 have lz:=XD
 have s1:(ns .u64 (Qa 16 65535)).set 0 (.int .u64 65517)=ns .u64 (65517::Qa 15 65535):=rfl
 have s2:(ns .u64 (65517::Qa 15 65535)).set 15 (.int .u64 32767)=ns .u64 KJ:=by
  have:KJ=(65517::Qa 15 65535).set 15 32767:=by decide +kernel
  rw [this]; rfl
 have l1:(Qa 16 65535).length=16:=rfl
 have l2:(65517::Qa 15 65535).length=16:=rfl
 have l3:=Yw.len
 generalize ZK=Z at *
 generalize KJ=R at *
 generalize 65517::Qa 15 65535=M at *
 generalize Qa 16 65535=L at *
 apply QI (fn:=a87) rfl
 simp only [a87,Qs,quiet,cW,↓pW,reduceCtorEq,seval,-Qb,hz,hf,hb,s1,s2,Qe,Qy,Qz,Q7,Zc,Q8,Q9,l1,l2,l3,lz,QV]
 rfl
def J8 (n:Nat):List Nat:=n%65536::n/65536%65536::Qa 14 0
theorem Xz (n:Nat):Nm (J8 n):=⟨rfl,fun x hx=>by
 simp only [J8,J0,List.mem_replicate] at hx
 omega⟩
theorem Kf (h:n<4294967296):num 65536 (J8 n)=n:=by
 have:num 65536 (Qa 14 0)=0:=by decide
 simp only [J8,num,this]
 omega
theorem Pk (a b:Nat):fillL (ns .u64 ZK) [(0,1,.int .u64 (a:Int)),(1,1,.int .u64 (b:Int))]=some (ns .u64 (a::b::Qa 14 0)):=rfl
theorem Vf (n:Nat) (hn:n<18446744073709551616):QK T 109 [.int .u64 (n:Nat)]=some (eV (J8 n)):=by
 have hz:=Ky
 have lz:=XD
 have hf:=Pk (n%65536) (n/65536%65536)
 have e1:(n:Int).tmod 65536=((n%65536:Nat):Int):=rfl
 have e2:(n:Int).tdiv 65536=((n/65536:Nat):Int):=rfl
 have e3:(((n/65536:Nat):Int)).tmod 65536=((n/65536%65536:Nat):Int):=rfl
 have w1:IntKind.u64.wrap ((n%65536:Nat):Int)=((n%65536:Nat):Int):=Kn (by omega)
 have w2:IntKind.u64.wrap ((n/65536:Nat):Int)=((n/65536:Nat):Int):=Kn (by omega)
 have w3:IntKind.u64.wrap ((n/65536%65536:Nat):Int)=((n/65536%65536:Nat):Int):=Kn (by omega)
 have hl:(n%65536::n/65536%65536::Qa 14 0).length=16:=rfl
 unfold J8
 generalize ZK=Z at *
 generalize n%65536::n/65536%65536::Qa 14 0=R at *
 apply QI (fn:=a70) rfl
 simp only [a70,Qs,quiet,cW,↓pW,reduceCtorEq,seval,-Qb,hz,hf,e1,e2,e3,w1,w2,w3,Qe,Qy,Qz,Q7,Zc,Q8,Q9,hl,lz,QV]
 rfl
theorem iX (h:o.length=i) (hi:i<n):(o++Qa (n-i) 0).set i x=(o++[x])++Qa (n-(i+1)) 0:=by
 rw [ZP _ _ (by omega),h,Q4]
 have e2:n-i=(n-(i+1))+1:=by omega
 rw [e2,Kq,Wn]
 simp
theorem pM (h:o.length=i) (hi:i≤n):(o++Qa (n-i) 0).length=n:=by simp; omega
theorem N3 (B:Nat) (o:List Nat) (x:Nat):num B (o++[x])=num B o+B^o.length*x:=by
 rw [Ys]; simp [num]
def rmI (a b o:List Nat) (r:Nat) (i:Int) (ex:Env):St:=⟨[(2,.pointer (some ⟨0,0,none⟩)),(3,.pointer (some ⟨1,0,none⟩)),(4,.pointer (some ⟨2,0,none⟩)),(5,.pointer (some ⟨3,0,none⟩)),(6,.int .u64 r),(7,.int .i64 i)]++ex,[⟨ns .u64 a,true,true,true,1⟩,⟨ns .u64 b,true,true,true,1⟩,⟨ns .u64 ZK,true,true,true,1⟩,⟨ns .u64 o,true,true,true,1⟩],[]⟩
theorem oY {a b:List Nat} (ha:Nm a) (hb:Nm b) (hi:i<16) (ho:o.length=i) (hr:r≤1) (xo:∀ x∈o,x<65536)
 (hn:num 65536 (a.take i)+65536^i*r=num 65536 (b.take i)+num 65536 o) :
    ∃ x r',Q2 T 0 Cu (rmI a b (o++Qa (16-i) 0) r i [])=some (.normal,rmI a b ((o++[x])++Qa (16-(i+1)) 0) r' ((i+1:Nat):Int) [])∧x<65536∧r'≤1 ∧
      num 65536 (a.take (i+1))+65536^(i+1)*r'=num 65536 (b.take (i+1))+num 65536 (o++[x]):=by
  obtain ⟨x,hx⟩:∃ x,a[i]?=some x:=⟨_,Qf (by rw [ha.len]; omega)⟩
  obtain ⟨y,hy⟩:∃ y,b[i]?=some y:=⟨_,Qf (by rw [hb.len]; omega)⟩
  have hx':=ha.lt x (Qp hx)
  have hy':=hb.lt y (Qp hy)
  refine ⟨(x+65536-y-r)%65536,1-(x+65536-y-r)/65536,?_,by omega,by omega,?_⟩
  · have hset:=X8 .u64 (o++Qa (16-i) 0) i ((x+65536-y-r)%65536)
    rw [iX ho hi] at hset
    have hlen:=pM ho (Js hi)
    have hxc:=ZM (k := .u64) hx
    have hyc:=ZM (k := .u64) hy
    have l1:=ha.len
    have l2:=hb.len
    have w1:IntKind.i64.wrap ((i:Int)+1)=((i+1:Nat):Int):=Zx (b:=1) (by omega)
    have w2:IntKind.u64.wrap ((x:Int)+65536)=((x+65536:Nat):Int):=YY (b:=65536) (by omega)
    have w3:IntKind.u64.wrap (((x+65536:Nat):Int)-(y:Int))=((x+65536-y:Nat):Int):=DR (by omega) (by omega)
    have w4:IntKind.u64.wrap (((x+65536-y:Nat):Int)-(r:Int))=((x+65536-y-r:Nat):Int):=DR (by omega) (by omega)
    have w5:(((x+65536-y-r:Nat):Int)).tmod 65536=(((x+65536-y-r)%65536:Nat):Int):=rfl
    have w6:IntKind.u64.wrap ((((x+65536-y-r:Nat):Int)).tdiv 65536)=(((x+65536-y-r)/65536:Nat):Int):=Kn (n:=(x+65536-y-r)/65536) (by omega)
    have w7:IntKind.u64.wrap (1-(((x+65536-y-r)/65536:Nat):Int))=((1-(x+65536-y-r)/65536:Nat):Int):=DR (a:=1) (by omega) (by omega)
    have e1:((i:Int)<16)=True:=eq_true (by omega)
    have e4:(i≤15)=True:=eq_true (by omega)
    generalize (o++Qa (16-i) 0)=O at *
    generalize (o++[(x+65536-y-r)%65536]++Qa (16-(i+1)) 0)=O' at *
    generalize (x+65536-y-r)/65536=q at *
    generalize (x+65536-y-r)%65536=m at *
    generalize x+65536-y-r=v1 at *
    generalize x+65536-y=v2 at *
    generalize x+65536=v3 at *
    generalize 1-q=v4 at *
    generalize i+1=i1 at *
    simp only [rmI,Cu,Qs,quiet,cW,↓pW,reduceCtorEq,seval,-Qb,hxc,hyc,w1,w2,w3,w4,w5,w6,w7,e1,e4,hset,Q9,hlen,l1,l2]
  · rw [Xg hx,Xg hy,N3,ho]
    have h:x+65536*(1-(x+65536-y-r)/65536)=y+r+(x+65536-y-r)%65536:=by omega
    generalize (x+65536-y-r)%65536=m at *
    generalize 1-(x+65536-y-r)/65536=q at *
    have h2:=congrArg (fun t=>t*65536^i) h
    simp only [Zl] at h2
    rw [Ze]
    generalize 65536^i=p at *
    rw [Zj p r] at hn
    rw [ZC p,Zj p (65536*q),Zj p m]
    omega
theorem Ao {a b:List Nat} (ha:Nm a) (hb:Nm b) (h:num 65536 b≤num 65536 a):QK T 156 [eV a,eV b]=some (eV (dig 65536 16 (num 65536 a-num 65536 b))):=by
 obtain ⟨st,hl,o,r,rfl,h1,h2,h3,h4⟩:=Zi (T:=T) (base:=0) (id:=0) (body:=Cu)
  (fun i st=>∃ (o:List Nat) (r:Nat),st=rmI a b (o++Qa (16-i) 0) r i []∧o.length=i∧r≤1∧(∀ x∈o,x<65536)∧num 65536 (a.take i)+65536^i*r=num 65536 (b.take i)+num 65536 o)
  (Q:=fun st=>∃ (o:List Nat) (r:Nat),st=rmI a b o r 16 [(11,.bool false)]∧o.length=16∧r≤1∧(∀ x∈o,x<65536)∧num 65536 a+65536^16*r=num 65536 b+num 65536 o)
  16 (s:=rmI a b ZK 0 0 []) ⟨[],0,rfl,rfl,by omega,by simp,by simp [num]⟩
  (fun i st hi hs=>by
   obtain ⟨o,r,rfl,h1,h2,h3,h4⟩:=hs
   obtain ⟨x,r',g1,g2,g3,g4⟩:=oY ha hb hi h1 h2 h3 h4
   refine ⟨_,g1,o++[x],r',rfl,by simp [h1],g3,?_,g4⟩
   intro y hy
   rcases QE.1 hy with hy | hy
   ·exact h3 y hy
   ·rw [Xi.1 hy]; exact g2)
  (fun st hs=>by
   obtain ⟨o,r,rfl,h1,h2,h3,h4⟩:=hs
   rw [Qm (by rw [ha.len]; omega),Qm (by rw [hb.len]; omega)] at h4
   refine ⟨_,?_,o,r,rfl,h1,h2,h3,h4⟩
   rw [Q4,List.replicate_zero,QF]
   simp only [rmI,Cu,Qs,quiet,cK,↓pQ,reduceCtorEq,seval,-Qb,cL])
 have hN:Nm o:=⟨h1,h3⟩
 have hlt:=hN.num_lt
 have hr:r=0:=by
  rcases Jw r with h0 | h0
  ·exact h0
  ·exfalso
   have:r=1:=by omega
   subst this
   rw [show (65536:Nat)^16=2^256 by decide] at h4
   generalize (2:Nat)^256=M at *
   omega
 subst hr
 have ho:o=dig 65536 16 (num 65536 a-num 65536 b):=by
  rw [hN.eq]
  refine congrArg (dig 65536 16) ?_
  generalize (65536:Nat)^16=M at *
  omega
 rw [←ho]
 have hz:=Ky
 have hf:=Ba
 have lz:=XD
 have l1:=ha.len
 have l2:=hb.len
 simp only [rmI,Qn,Ql,QB] at hl
 generalize ZK=Z at *
 apply QI (fn:=a90) rfl
 simp only [a90,Qs,quiet,cW,↓pW,reduceCtorEq,seval,-Qb,hz,hf,hl,Qe,Qy,Qz,Q7,Zc,Q8,Q9,l1,l2,h1,lz,QV]
 rfl
def JN (x r:Nat):Nat:=x/2^r+x*2^(64-r)%18446744073709551616
def sg0 (x:Nat):Nat:=JN x 1^^^JN x 8^^^(x/2^7)
def sg1 (x:Nat):Nat:=JN x 19^^^JN x 61^^^(x/2^6)
def Sg0 (x:Nat):Nat:=JN x 28^^^JN x 34^^^JN x 39
def Sg1 (x:Nat):Nat:=JN x 14^^^JN x 18^^^JN x 41
def chO (e f g:Nat):Nat:=(e&&&f)^^^((18446744073709551615^^^e)&&&g)
def maO (a b c:Nat):Nat:=(a&&&b)^^^(a&&&c)^^^(b&&&c)
def be (l:List Nat):Nat:=l.foldl (fun a x=>a*256+x) 0
def sL (w:List Nat):Nat:=(w.getD (w.length-16) 0+w.getD (w.length-7) 0+sg0 (w.getD (w.length-15) 0)+sg1 (w.getD (w.length-2) 0))%18446744073709551616
def Gk:Nat→List Nat→List Nat
 | 0,l=>l
 | n+1,l=>Gk n l++[sL (Gk n l)]
def EM (b:List Nat):List Nat:=(Z9 16).map fun i=>be ((b.drop (8*i)).take 8)
def JP (b:List Nat):List Nat:=Gk 64 (EM b)
def Km:List Nat:=[4794697086780616226,8158064640168781261,13096744586834688815,16840607885511220156,4131703408338449720,6480981068601479193,10538285296894168987,12329834152419229976,15566598209576043074,1334009975649890238,2608012711638119052,6128411473006802146,8268148722764581231,9286055187155687089,11230858885718282805,13951009754708518548,16472876342353939154,17275323862435702243,1135362057144423861,2597628984639134821,3308224258029322869,5365058923640841347,6679025012923562964,8573033837759648693,10970295158949994411,12119686244451234320,12683024718118986047,13788192230050041572,14330467153632333762,15395433587784984357,489312712824947311,1452737877330783856,2861767655752347644,3322285676063803686,5560940570517711597,5996557281743188959,7280758554555802590,8532644243296465576,9350256976987008742,10552545826968843579,11727347734174303076,12113106623233404929,14000437183269869457,14369950271660146224,15101387698204529176,15463397548674623760,17586052441742319658,1182934255886127544,1847814050463011016,2177327727835720531,2830643537854262169,3796741975233480872,4115178125766777443,5681478168544905931,6601373596472566643,7507060721942968483,8399075790359081724,8693463985226723168,9568029438360202098,10144078919501101548,10430055236837252648,11840083180663258601,13761210420658862357,14299343276471374635,14566680578165727644,15097957966210449927,16922976911328602910,17689382322260857208,500013540394364858,748580250866718886,1242879168328830382,1977374033974150939,2944078676154940804,3659926193048069267,4368137639120453308,4836135668995329356,5532061633213252278,6448918945643986474,6902733635092675308,7801388544844847127]
def t1O (s:List Nat) (k w:Nat):Nat:=(s.getD 7 0+Sg1 (s.getD 4 0)+chO (s.getD 4 0) (s.getD 5 0) (s.getD 6 0)+k+w)%18446744073709551616
def t2O (s:List Nat):Nat:=(Sg0 (s.getD 0 0)+maO (s.getD 0 0) (s.getD 1 0) (s.getD 2 0))%18446744073709551616
def rnd (s:List Nat) (k w:Nat):List Nat:=[(t1O s k w+t2O s)%18446744073709551616,s.getD 0 0,s.getD 1 0,s.getD 2 0,(s.getD 3 0+t1O s k w)%18446744073709551616,s.getD 4 0,s.getD 5 0,s.getD 6 0]
def Gt:Nat→List Nat→List Nat→List Nat
 | 0,_,s=>s
 | n+1,w,s=>rnd (Gt n w s) (Km.getD n 0) (w.getD n 0)
def blk (s b:List Nat):List Nat:=JL (fun x y=>(x+y)%18446744073709551616) s (Gt 80 (JP b) s)
def YR:List Nat:=[7640891576956012808,13503953896175478587,4354685564936845355,11912009170470909681,5840696475078001361,11170449401992604703,2270897969802886507,6620516959819538809]
def stK:Nat→List Nat→List Nat
 | 0,_=>YR
 | n+1,b=>blk (stK n b) ((b.drop (128*n)).take 128)
def Vg (n:Nat):Nat:=(239-n%128)%128
def UN (n:Nat):List Nat:=128::(Qa (Vg n) 0++((Z9 16).map fun i=>8*n/256^(15-i)%256))
def sha (b:List Nat):List Nat:=(Z9 64).map fun i=>(stK ((b++UN b.length).length/128) (b++UN b.length)).getD (i/8) 0/256^(7-i%8)%256
theorem Ue:Km.length=80:=rfl
theorem bM:YR.length=8:=rfl
theorem XI (hx:x<18446744073709551616) (hr:0<r) (hr':r≤63):JN x r<18446744073709551616:=by
 unfold JN
 have e:(18446744073709551616:Nat)=2^r*2^(64-r):=by rw [←JD,show r+(64-r)=64 by omega]
 have h1:x/2^r<2^(64-r):=Va (by rw [←e]; exact hx)
 have h2:x*2^(64-r)%18446744073709551616=(x%2^r)*2^(64-r):=by rw [e,Yl]
 rw [h2]
 have h3:x%2^r+1≤2^r:=Q5 _ (JM (by decide))
 have h4:=Ji (2^(64-r)) h3
 rw [←e,Zl,Xf] at h4
 omega
theorem oV (hx:x<18446744073709551616) (hr:0<r) (hr':r≤63):(x*2^(64-r)%18446744073709551616)|||(x/2^r)=JN x r:=by
 have e:(18446744073709551616:Nat)=2^r*2^(64-r):=by rw [←JD,show r+(64-r)=64 by omega]
 have h1:x/2^r<2^(64-r):=Va (by rw [←e]; exact hx)
 have h2:x*2^(64-r)%18446744073709551616=(x%2^r)*2^(64-r):=by rw [e,Yl]
 unfold JN
 rw [h2,YD h1,Xp]
theorem Dp (hx:x<18446744073709551616) (hr:0<r) (hr':r≤63):QK T 164 [.int .u64 x,.int .i64 (-(r:Int))]=some (.int .u64 (JN x r:Nat)):=by
 have hw:IntKind.u64.wrap (-(r:Int))=((18446744073709551616-r:Nat):Int):=by rw [WN]; omega
 have hm:Zp .and .u64 ((18446744073709551616-r:Nat):Int) 63=((64-r:Nat):Int):=by
  have:=UP .u64 rfl 6 (18446744073709551616-r) (by decide)
  have e:((2^6-1:Nat):Int)=63:=by decide
  rw [e] at this
  rw [this]
  have:(18446744073709551616-r)%2^6=64-r:=by omega
  rw [this]
 have n1:(((64-r:Nat):Int)<0)=False:=eq_false (by omega)
 have h64:min (64-r) IntKind.u64.bits=64-r:=Zy (by show 64-r≤64; omega)
 have hr64:min r IntKind.u64.bits=r:=Zy (by show r≤64; omega)
 have hs1:IntKind.u64.wrap ((x:Int)*2^(64-r))=((x*2^(64-r)%18446744073709551616:Nat):Int):=by
  rw [←U0,JT,Ye]; rfl
 have hsub:IntKind.u64.wrap (64-((64-r:Nat):Int))=(r:Int):=by rw [WN]; omega
 have n2:((r:Int)<0)=False:=eq_false (by omega)
 have hs2:(x:Int).fdiv (2^r)=((x/2^r:Nat):Int):=by
  rw [←R5,Ye]; rfl
 have hlt1:x*2^(64-r)%18446744073709551616<2^IntKind.u64.bits:=Q5 _ (by decide)
 have hlt2:x/2^r<2^IntKind.u64.bits:=ZX (Jq _ _) hx
 have ho:Zp .or .u64 ((x*2^(64-r)%18446744073709551616:Nat):Int) ((x/2^r:Nat):Int)=((JN x r:Nat):Int):=by
  rw [XY rfl hlt1 hlt2,oV hx hr hr']
 generalize hq:64-r=q at *
 generalize hu:18446744073709551616-r=u at *
 apply QI (fn:=wH) rfl
 simp only [wH,↓Gp,Qs,quiet,cW,↓pW,reduceCtorEq,seval,-Qb,hw,hm,n1,h64,hs1,hsub,n2,hr64,hs2,ho,Vd]
 rfl
theorem F8:fillL (Qa 80 (Value.int .u64 0)) [(0,1,.int .u64 4794697086780616226),(1,1,.int .u64 8158064640168781261),(2,1,.int .u64 13096744586834688815),(3,1,.int .u64 16840607885511220156),(4,1,.int .u64 4131703408338449720),(5,1,.int .u64 6480981068601479193),(6,1,.int .u64 10538285296894168987),(7,1,.int .u64 12329834152419229976),(8,1,.int .u64 15566598209576043074),(9,1,.int .u64 1334009975649890238),(10,1,.int .u64 2608012711638119052),(11,1,.int .u64 6128411473006802146),(12,1,.int .u64 8268148722764581231),(13,1,.int .u64 9286055187155687089),(14,1,.int .u64 11230858885718282805),(15,1,.int .u64 13951009754708518548),(16,1,.int .u64 16472876342353939154),(17,1,.int .u64 17275323862435702243),(18,1,.int .u64 1135362057144423861),(19,1,.int .u64 2597628984639134821),(20,1,.int .u64 3308224258029322869),(21,1,.int .u64 5365058923640841347),(22,1,.int .u64 6679025012923562964),(23,1,.int .u64 8573033837759648693),(24,1,.int .u64 10970295158949994411),(25,1,.int .u64 12119686244451234320),(26,1,.int .u64 12683024718118986047),(27,1,.int .u64 13788192230050041572),(28,1,.int .u64 14330467153632333762),(29,1,.int .u64 15395433587784984357),(30,1,.int .u64 489312712824947311),(31,1,.int .u64 1452737877330783856),(32,1,.int .u64 2861767655752347644),(33,1,.int .u64 3322285676063803686),(34,1,.int .u64 5560940570517711597),(35,1,.int .u64 5996557281743188959),(36,1,.int .u64 7280758554555802590),(37,1,.int .u64 8532644243296465576),(38,1,.int .u64 9350256976987008742),(39,1,.int .u64 10552545826968843579),(40,1,.int .u64 11727347734174303076),(41,1,.int .u64 12113106623233404929),(42,1,.int .u64 14000437183269869457),(43,1,.int .u64 14369950271660146224),(44,1,.int .u64 15101387698204529176),(45,1,.int .u64 15463397548674623760),(46,1,.int .u64 17586052441742319658),(47,1,.int .u64 1182934255886127544),(48,1,.int .u64 1847814050463011016),(49,1,.int .u64 2177327727835720531),(50,1,.int .u64 2830643537854262169),(51,1,.int .u64 3796741975233480872),(52,1,.int .u64 4115178125766777443),(53,1,.int .u64 5681478168544905931),(54,1,.int .u64 6601373596472566643),(55,1,.int .u64 7507060721942968483),(56,1,.int .u64 8399075790359081724),(57,1,.int .u64 8693463985226723168),(58,1,.int .u64 9568029438360202098),(59,1,.int .u64 10144078919501101548),(60,1,.int .u64 10430055236837252648),(61,1,.int .u64 11840083180663258601),(62,1,.int .u64 13761210420658862357),(63,1,.int .u64 14299343276471374635),(64,1,.int .u64 14566680578165727644),(65,1,.int .u64 15097957966210449927),(66,1,.int .u64 16922976911328602910),(67,1,.int .u64 17689382322260857208),(68,1,.int .u64 500013540394364858),(69,1,.int .u64 748580250866718886),(70,1,.int .u64 1242879168328830382),(71,1,.int .u64 1977374033974150939),(72,1,.int .u64 2944078676154940804),(73,1,.int .u64 3659926193048069267),(74,1,.int .u64 4368137639120453308),(75,1,.int .u64 4836135668995329356),(76,1,.int .u64 5532061633213252278),(77,1,.int .u64 6448918945643986474),(78,1,.int .u64 6902733635092675308),(79,1,.int .u64 7801388544844847127)]=some (ns .u64 Km):=rfl
theorem SR:QK T 161 []=some (eV Km):=by
 have hf:=F8
 have lk:=Ue
 generalize Km=K at *
 apply QI (fn:=wG) rfl
 simp only [wG,Qs,quiet,cW,↓pW,reduceCtorEq,seval,-Qb,hf,Qe,Qy,Qz,Q7,Zc,Q8,Q9,lk,QV]
 rfl
theorem Ho (l:List Nat):∀ n,(Gk n l).length=l.length+n
 | 0=>rfl
 | n+1=>by rw [Gk,Qk,Ho l n]; rfl
theorem Hp (l:List Nat) {n j:Nat} (hj:j<l.length+n):∀ m,n≤m→(Gk m l)[j]?=(Gk n l)[j]?
 | 0,h=>by rw [show n=0 by omega]
 | m+1,h=>by
  by_cases e:n=m+1
  ·rw [e]
  ·rw [Gk,Qc (by rw [Ho]; omega),Hp l hj m (by omega)]
theorem Rf (b:List Nat):(EM b).length=16:=by simp [EM]
theorem Y7 (b:List Nat):(JP b).length=80:=by rw [JP,Ho,Rf]
theorem Ri {b:List Nat} (hi:i<16):(JP b)[i]?=some (be ((b.drop (8*i)).take 8)):=by
 rw [JP,Hp _ (n:=0) (by rw [Rf]; omega) 64 (by omega)]
 simp [Gk,EM,hi]
theorem Rh {b:List Nat} (hi:16≤i) (hi':i<80):(JP b)[i]?=some (((JP b).getD (i-16) 0+(JP b).getD (i-7) 0+sg0 ((JP b).getD (i-15) 0)+sg1 ((JP b).getD (i-2) 0))%18446744073709551616):=by
 obtain ⟨n,rfl⟩:∃ n,i=16+n:=⟨i-16,by omega⟩
 have hl:=Rf b
 have hn:=Ho (EM b) n
 rw [hl] at hn
 have hg:∀ j,j<16+n→(JP b).getD j 0=(Gk n (EM b)).getD j 0:=fun j hj=>by
  rw [QA,QA,JP,Hp _ (n:=n) (by rw [hl]; omega) 64 (by omega)]
 rw [hg _ (by omega),hg _ (by omega),hg _ (by omega),hg _ (by omega)]
 rw [JP,Hp _ (n:=n+1) (by rw [hl]; omega) 64 (by omega),Gk,Qh (by omega),hn,Q4]
 simp only [sL,hn,List.getElem?_cons_zero]
theorem TN (l:List Nat) (x:Nat):be (l++[x])=be l*256+x:=by simp [be]
theorem FT:∀ (n:Nat) (l:List Nat),l.length=n→(∀ x∈l,x<256)→be l<256^n
 | 0,l,h,_=>by rw [J3 h]; decide
 | n+1,l,h,hx=>by
  obtain ⟨m,x,rfl⟩:∃ m x,l=m++[x]:=⟨l.dropLast,l.getLast (by intro e; rw [e] at h; cases h),(List.dropLast_concat_getLast _).symm⟩
  rw [Qk] at h
  have h1:=FT n m (by simpa using h) (fun y hy=>hx y (T4 _ hy))
  have h2:=hx x (by simp)
  rw [TN,Ze]
  omega
theorem T7 {b:List Nat} (hb:∀ x∈b,x<256) {i:Nat} (hx:(JP b)[i]?=some x):x<18446744073709551616:=by
 have hi:i<80:=by have:=(Qg.1 hx).1; rwa [Y7] at this
 by_cases h:i<16
 ·rw [Ri h] at hx
  cases hx
  have hl:((b.drop (8*i)).take 8).length≤8:=by rw [Q6]; omega
  have:=FT _ _ rfl (fun y hy=>hb y (ZD (QU hy)):∀ y∈(b.drop (8*i)).take 8,y<256)
  exact QM this (Zk (n:=256) (by decide) hl)
 ·rw [Rh (by omega) hi] at hx
  cases hx
  exact Q5 _ (by decide)
theorem VZ {j:Nat} (hj:j<i) (hi:i≤L.length):(pf n L i)[j]?=L[j]? := by
 unfold pf
 rw [Qc (by rw [Q6]; omega),QX,if_pos hj]
theorem Aj {l:List Nat} {i:Nat} (h:l[i]?=some x):l.set i x=l:=by
 apply Ju
 intro k
 rw [Kl]
 by_cases c:i=k
 ·rw [if_pos c,←c,h,if_pos (Qg.1 h).1]
 ·rw [if_neg c]
theorem D9 (hi:i<n) (hl:L.length=n):(pf n L i)[i]?=some 0:=by
 unfold pf
 rw [Qh (by rw [Q6]; omega),Q6,Zy (by omega),Q4,Vt,if_pos (by omega)]
theorem Wx (a b:Nat):IntKind.u64.wrap ((a:Int)+(b:Int))=(((a+b)%18446744073709551616:Nat):Int):=by rw [←Jl,U0]
theorem Wf (ha:a<18446744073709551616) (hb:b<18446744073709551616):Zp .xor .u64 (a:Int) (b:Int)=((a^^^b:Nat):Int):=Co rfl ha hb
theorem Wv (ha:a<18446744073709551616) (hb:b<18446744073709551616):Zp .and .u64 (a:Int) (b:Int)=((a&&&b:Nat):Int):=Um rfl ha hb
theorem Yh (ha:a<18446744073709551616) (hb:b<18446744073709551616):a^^^b<18446744073709551616:=Nat.xor_lt_two_pow (n:=64) ha hb
theorem Xr (hb:b<18446744073709551616):a&&&b<18446744073709551616:=XV (n:=64) a hb
theorem Dn (hr:r≤64):(x:Int).fdiv (2^min r IntKind.u64.bits)=((x/2^r:Nat):Int):=by
 rw [show min r IntKind.u64.bits=r from Zy hr,←R5,Ye]; rfl
theorem Mz (hx:x<18446744073709551616):x/2^r<18446744073709551616:=ZX (Jq _ _) hx
structure BB (H:List Ob) (id off:Nat) (b:List Nat):Prop where
 ob:∃ all:List Nat,H[id]?=some ⟨u8s all,true,true,false,1⟩∧∀ i,i<b.length→all[off+i]?=b[i]?
 lt:∀ x∈b,x<256
theorem BB.app {H l:List Ob} {id off:Nat} {b:List Nat} (h:BB H id off b):BB (H++l) id off b:=by
 obtain ⟨⟨all,h1,h2⟩,h3⟩:=h
 exact ⟨⟨all,by rw [Qc (Qg.1 h1).1]; exact h1,h2⟩,h3⟩
def w2I (H:List Ob) (P:Value) (id off cap:Nat) (w:List Nat) (i:Int) (o8 c8:Nat) (j:Int) (ex:Env):St:=⟨[(0,P),(1,.slice (some ⟨id,off,none⟩) 128 cap),(4,.pointer (some ⟨H.length,0,none⟩)),(5,.int .i64 i),(17,.int .i64 i),(28,.slice (some ⟨id,o8,none⟩) 8 c8),(29,.int .i64 8),(30,.int .i64 j)]++ex,H++[⟨ns .u64 w,true,true,true,1⟩],[]⟩
theorem fo {H:List Ob} {P:Value} {id off cap c8:Nat} {b:List Nat} (hb:BB H id off b) (hl:b.length=128) (hi:i<16) :
  Q2 T H.length (.block 2 (.loop MU)) (w2I H P id off cap (pf 80 (JP b) i) i (off+8*i) c8 0 [])=some (.normal,w2I H P id off cap (pf 80 (JP b) (i+1)) i (off+8*i) c8 8 [(31,.bool false)]):=by
 obtain ⟨⟨all,h1,h2⟩,h3⟩:=hb
 have hWl:=Y7 b
 have h8:((b.drop (8*i)).take 8).length=8:=by rw [Q6,QP]; omega
 have hz:=D9 (L:=JP b) (by omega:i<80) hWl
 have hpl:=Ko hWl (by omega:i≤80)
 have Mq:(pf 80 (JP b) i).set i (be [])=pf 80 (JP b) i:=Aj hz
 have hW:=Ri (b:=b) hi
 have hstep:=XE hWl (by omega:i<80) hW
 have h:=ZV (T:=T) (base:=H.length) (id:=2) (body:=MU) (fun j=>w2I H P id off cap ((pf 80 (JP b) i).set i (be (((b.drop (8*i)).take 8).take j))) i (off+8*i) c8 j []) (s':=w2I H P id off cap (pf 80 (JP b) (i+1)) i (off+8*i) c8 8 [(31,.bool false)]) 8
  (fun j hj=>by
   obtain ⟨x,hx⟩:∃ x,((b.drop (8*i)).take 8)[j]?=some x:=⟨_,Qf (by omega)⟩
   have hxb:b[8*i+j]?=some x:=by
    rw [QX,if_pos hj,Zm] at hx; exact hx
   have hx':=h3 x (Qp hxb)
   have hxa:(u8s all)[off+8*i+j]?=some (.int .u8 (x:Nat)):=Jx (by rw [show off+8*i+j=off+(8*i+j) by omega,h2 _ (by omega)]; exact hxb)
   have hbel:=FT j (((b.drop (8*i)).take 8).take j) (by rw [Q6]; omega) (fun y hy=>h3 y (ZD (QU (QU hy))))
   have hbes:be (((b.drop (8*i)).take 8).take (j+1))=be (((b.drop (8*i)).take 8).take j)*256+x:=by rw [Zw,hx]; exact TN _ _
   rw [hbes]
   have h256:(256:Nat)^j≤256^7:=Zk (by decide) (by omega)
   have e7:(256:Nat)^7=72057594037927936:=by decide
   rw [e7] at h256
   generalize be (((b.drop (8*i)).take 8).take j)=a at *
   have hg:((pf 80 (JP b) i).set i a)[i]?=some a:=by rw [Qx (by rw [hpl]; omega)]
   have hgc:=ZM (k := .u64) hg
   have hss:=X8 .u64 ((pf 80 (JP b) i).set i a) i (a*256+x)
   rw [VU] at hss
   have hln:((pf 80 (JP b) i).set i a).length=80:=by rw [Q3]; exact hpl
   have w1:IntKind.i64.wrap ((j:Int)+1)=((j+1:Nat):Int):=Zx (b:=1) (by omega)
   have w2:IntKind.u64.wrap (x:Int)=(x:Int):=Kn (by omega)
   have w3:IntKind.u64.wrap ((a:Int)*2^min 8 IntKind.u64.bits)=((a*256:Nat):Int):=Uu (b:=256) (by omega)
   have w4:Zp .or .u64 ((a*256:Nat):Int) (x:Int)=((a*256+x:Nat):Int):=by
    rw [XY rfl (show a*256<2^64 by omega) (show x<2^64 by omega)]
    have:=YD (a:=x) (b:=a) (n:=8) (by omega)
    rw [show (2:Nat)^8=256 from rfl] at this
    rw [this]
   have e1:((j:Int)<8)=True:=eq_true (by omega)
   have e2:((i:Int)<80)=True:=eq_true (by omega)
   have e4:(i≤79)=True:=eq_true (by omega)
   have hl1:liveAt (H++[⟨ns .u64 ((pf 80 (JP b) i).set i a),true,true,true,1⟩]) id=some ⟨u8s all,true,true,false,1⟩:=Kz (Zv h1 rfl)
   generalize (pf 80 (JP b) i).set i a=O1,(pf 80 (JP b) i).set i (a*256+x)=O2 at *
   generalize hv:a*256+x=v at *
   generalize a*256=v2 at *
   simp only [liveAt] at hl1
   generalize hoo:off+8*i=oo at *
   have hget:(H++[⟨ns .u64 O1,true,true,true,1⟩])[id]?=some ⟨u8s all,true,true,false,1⟩:=by rw [Qc (Qg.1 h1).1]; exact h1
   simp only [w2I,MU,Qs,quiet,cW,↓pW,reduceCtorEq,seval,-Qb,hget,hxa,hgc,w1,w2,w3,w4,e1,e2,e4,hss,Q9,hln])
  (by
   rw [Qm (by omega),hstep]
   simp only [w2I,MU,Qs,quiet,cW,↓pW,reduceCtorEq,seval,-Qb])
 rw [Xa,Mq] at h
 exact h
end Go.Ev.YtpgphpkjlpkcbaaGreat
namespace Go.Ev.YtpgphpkjlpkcbaaGreat
open Go Go.Ev
attribute [local congr] JC JV JB JW Jz
set_option maxRecDepth 100000
variable {H:List Ob} {hid n i off id cap x b0:Nat} {rv pv:Value} {st s b l w L:List Nat} {K:Nat→Prop} {xs:List Value} {ps:List (List Nat)}
theorem Kb {k:IntKind} {y d:Nat} (h:n≤y):KR (some (.int k (n:Int))) y d=some n:=by
 have e:(0:Int)≤(n:Int)∧(n:Int)≤(y:Int):=⟨by omega,by omega⟩
 simp only [KR,if_pos e,Vd]
def w3I (H:List Ob) (P:Value) (id off cap:Nat) (w:List Nat) (i:Int) (ex:Env):St:=⟨[(0,P),(1,.slice (some ⟨id,off,none⟩) 128 cap),(4,.pointer (some ⟨H.length,0,none⟩)),(17,.int .i64 i)]++ex,H++[⟨ns .u64 w,true,true,true,1⟩],[]⟩
theorem tl {P:Value} (hb:BB H id off b) (hl:b.length=128) (hc:128≤cap) (hi:i<16) :
  Q2 T H.length UD (w3I H P id off cap (pf 80 (JP b) i) i [])=some (.normal,w3I H P id off cap (pf 80 (JP b) (i+1)) ((i+1:Nat):Int) []):=by
 have h2:=fo (P:=P) (cap:=cap) (c8:=cap-8*i) hb hl hi
 obtain ⟨⟨all,h1,-⟩,h3⟩:=hb
 simp only [w2I,Qn,Ql,QB] at h2
 have e1:((i:Int)<80)=True:=eq_true (by omega)
 have e2:((i:Int)<16)=True:=eq_true (by omega)
 have w1:IntKind.i64.wrap (8*(i:Int))=((8*i:Nat):Int):=UE (a:=8) (by omega)
 have w2:IntKind.i64.wrap (((8*i:Nat):Int)+8)=((8*i+8:Nat):Int):=Zx (b:=8) (by omega)
 have w3:IntKind.i64.wrap ((i:Int)+1)=((i+1:Nat):Int):=Zx (b:=1) (by omega)
 have b1:J4 128 cap (some (.int .i64 ((8*i:Nat):Int))) (some (.int .i64 ((8*i+8:Nat):Int))) none=some (8*i,8*i+8,cap):=by
  have n1:KR (some (.int .i64 ((8*i+8:Nat):Int))) cap 128=some (8*i+8):=Kb (by omega)
  have n2:KR (some (.int .i64 ((8*i:Nat):Int))) (8*i+8) 0=some (8*i):=Kb (by omega)
  rw [XZ,n1,Qo,n2,Qo]
 have hs:8*i+8-8*i=8:=by omega
 have hget:∀ l:List Ob,(H++l)[id]?=some ⟨u8s all,true,true,false,1⟩:=fun l=>by rw [Qc (Qg.1 h1).1]; exact h1
 generalize pf 80 (JP b) i=O1,pf 80 (JP b) (i+1)=O2 at *
 generalize hk8:8*i+8=k8 at *
 generalize hk:8*i=k at *
 generalize i+1=i1 at *
 simp only [w3I,UD,Qs,quiet,cW,↓pW,reduceCtorEq,seval,-Qb,e1,e2,w1,w2,w3,b1,hs,hget,h2]
theorem JJ (h:l[i]?=some x):l.getD i 0=x:=by rw [QA,h]; rfl
theorem om {P:Value} (hb:∀ x∈b,x<256) (hi:16≤i) (hi':i<80) :
  Q2 T H.length UD (w3I H P id off cap (pf 80 (JP b) i) i [])=some (.normal,w3I H P id off cap (pf 80 (JP b) (i+1)) ((i+1:Nat):Int) []):=by
 have hWl:=Y7 b
 have hW:=Rh (b:=b) hi hi'
 have hstep:=XE hWl hi' hW
 have hpl:=Ko hWl (Js hi')
 obtain ⟨x,hx⟩:∃ x,(JP b)[i-15]?=some x:=⟨_,Qf (by omega)⟩
 obtain ⟨y,hy⟩:∃ x,(JP b)[i-2]?=some x:=⟨_,Qf (by omega)⟩
 obtain ⟨u,hu⟩:∃ x,(JP b)[i-16]?=some x:=⟨_,Qf (by omega)⟩
 obtain ⟨v,hv⟩:∃ x,(JP b)[i-7]?=some x:=⟨_,Qf (by omega)⟩
 have lx:=T7 hb hx
 have ly:=T7 hb hy
 have cx:=ZM (k := .u64) ((VZ (n:=80) (by omega:i-15<i) (by omega)).trans hx)
 have cy:=ZM (k := .u64) ((VZ (n:=80) (by omega:i-2<i) (by omega)).trans hy)
 have cu:=ZM (k := .u64) ((VZ (n:=80) (by omega:i-16<i) (by omega)).trans hu)
 have cv:=ZM (k := .u64) ((VZ (n:=80) (by omega:i-7<i) (by omega)).trans hv)
 rw [JJ hx,JJ hy,JJ hu,JJ hv] at hstep
 have r1:QK T 164 [.int .u64 x,.int .i64 (-1)]=some (.int .u64 (JN x 1:Nat)):=Dp (r:=1) lx (by decide) (by decide)
 have r8:QK T 164 [.int .u64 x,.int .i64 (-8)]=some (.int .u64 (JN x 8:Nat)):=Dp (r:=8) lx (by decide) (by decide)
 have r19:QK T 164 [.int .u64 y,.int .i64 (-19)]=some (.int .u64 (JN y 19:Nat)):=Dp (r:=19) ly (by decide) (by decide)
 have r61:QK T 164 [.int .u64 y,.int .i64 (-61)]=some (.int .u64 (JN y 61:Nat)):=Dp (r:=61) ly (by decide) (by decide)
 have b1:=XI (r:=1) lx (by decide) (by decide)
 have b8:=XI (r:=8) lx (by decide) (by decide)
 have b19:=XI (r:=19) ly (by decide) (by decide)
 have b61:=XI (r:=61) ly (by decide) (by decide)
 have x1:=Wf b1 b8
 have x2:Zp .xor .u64 ((JN x 1^^^JN x 8:Nat):Int) ((x/2^7:Nat):Int)=((sg0 x:Nat):Int):=Wf (Yh b1 b8) (Mz lx)
 have y1:=Wf b19 b61
 have y2:Zp .xor .u64 ((JN y 19^^^JN y 61:Nat):Int) ((y/2^6:Nat):Int)=((sg1 y:Nat):Int):=Wf (Yh b19 b61) (Mz ly)
 have s7:(x:Int).fdiv (2^min 7 IntKind.u64.bits)=((x/2^7:Nat):Int):=Dn (by decide)
 have s6:(y:Int).fdiv (2^min 6 IntKind.u64.bits)=((y/2^6:Nat):Int):=Dn (by decide)
 have m1:=Wx u v
 have m2:=Wx ((u+v)%18446744073709551616) (sg0 x)
 have m3:=Wx (((u+v)%18446744073709551616+sg0 x)%18446744073709551616) (sg1 y)
 have hsum:(((u+v)%18446744073709551616+sg0 x)%18446744073709551616+sg1 y)%18446744073709551616=(u+v+sg0 x+sg1 y)%18446744073709551616:=by omega
 rw [hsum] at m3
 have hset:=X8 .u64 (pf 80 (JP b) i) i ((u+v+sg0 x+sg1 y)%18446744073709551616)
 rw [hstep] at hset
 have e1:((i:Int)<80)=True:=eq_true (by omega)
 have e2:((i:Int)<16)=False:=eq_false (by omega)
 have i15:IntKind.i64.wrap ((i:Int)-15)=((i-15:Nat):Int):=by rw [Zf (by omega) (by omega)]; omega
 have i2:IntKind.i64.wrap ((i:Int)-2)=((i-2:Nat):Int):=by rw [Zf (by omega) (by omega)]; omega
 have i16:IntKind.i64.wrap ((i:Int)-16)=((i-16:Nat):Int):=by rw [Zf (by omega) (by omega)]; omega
 have i7:IntKind.i64.wrap ((i:Int)-7)=((i-7:Nat):Int):=by rw [Zf (by omega) (by omega)]; omega
 have j15:(((i-15:Nat):Int)<80)=True:=eq_true (by omega)
 have j2:(((i-2:Nat):Int)<80)=True:=eq_true (by omega)
 have j16:(((i-16:Nat):Int)<80)=True:=eq_true (by omega)
 have j7:(((i-7:Nat):Int)<80)=True:=eq_true (by omega)
 have w3:IntKind.i64.wrap ((i:Int)+1)=((i+1:Nat):Int):=Zx (b:=1) (by omega)
 have e4:(i≤79)=True:=eq_true (by omega)
 clear hsum hstep hW hx hy hu hv hWl
 generalize pf 80 (JP b) i=O1,pf 80 (JP b) (i+1)=O2,(u+v+sg0 x+sg1 y)%18446744073709551616=z,((u+v)%18446744073709551616+sg0 x)%18446744073709551616=z2 at *
 generalize (u+v)%18446744073709551616=z3 at *
 generalize sg0 x=gx,sg1 y=gy,JN x 1^^^JN x 8=xx,JN y 19^^^JN y 61=yy at *
 generalize JN x 1=x1v,JN x 8=x8v,JN y 19=y19v,JN y 61=y61v at *
 generalize x/2^7=x7v at *
 generalize y/2^6=y6v at *
 generalize i-15=k15 at *
 generalize i-2=k2 at *
 generalize i-16=k16 at *
 generalize i-7=k7 at *
 generalize i+1=i1 at *
 simp only [w3I,UD,Qs,quiet,cW,↓pW,reduceCtorEq,seval,-Qb,e1,e2,e4,i15,i2,i16,i7,j15,j2,j16,j7,cx,cy,cu,cv,r1,r8,r19,r61,x1,x2,y1,y2,s7,s6,m1,m2,m3,hset,w3,Q9,hpl]
theorem fh {P:Value} (hb:BB H id off b) (hl:b.length=128) (hc:128≤cap) :
  Q2 T H.length (.block 0 (.loop UD)) (w3I H P id off cap (Qa 80 0) 0 [])=some (.normal,w3I H P id off cap (JP b) 80 [(18,.bool false)]):=by
 have hWl:=Y7 b
 have h:=ZV (T:=T) (base:=H.length) (id:=0) (body:=UD) (fun i=>w3I H P id off cap (pf 80 (JP b) i) i []) (s':=w3I H P id off cap (JP b) 80 [(18,.bool false)]) 80
  (fun i hi=>by
   by_cases h:i<16
   ·exact tl hb hl hc h
   ·exact om hb.lt (by omega) hi)
  (by
   rw [Ku hWl]
   simp only [w3I,UD,Qs,quiet,cW,↓pW,reduceCtorEq,seval,-Qb])
 rw [Kt] at h
 exact h
theorem eight {l:List Nat} (h:l.length=8):∃ a b c d e f g i,l=[a,b,c,d,e,f,g,i]:=by
 match l,h with
 | [a,b,c,d,e,f,g,i],_=>exact ⟨a,b,c,d,e,f,g,i,rfl⟩
theorem SY (s:List Nat) (k w:Nat):(rnd s k w).length=8:=rfl
theorem Bj (hs:s.length=8) (w:List Nat):∀ n,(Gt n w s).length=8
 | 0=>hs
 | n+1=>rfl
theorem tQ (hs:s.length=8) (hx:∀ x∈s,x<18446744073709551616) (k w:Nat):∀ x∈rnd s k w,x<18446744073709551616:=by
 obtain ⟨a,b,c,d,e,f,g,h,rfl⟩:=eight hs
 intro x hm
 have h1:∀ y z:Nat,(y+z)%18446744073709551616<18446744073709551616:=fun _ _=>Q5 _ (by decide)
 simp only [rnd,J0,JG,or_false] at hm
 rcases hm with rfl | rfl | rfl | rfl | rfl | rfl | rfl | rfl
 ·exact h1 _ _
 ·exact hx _ (by simp)
 ·exact hx _ (by simp)
 ·exact hx _ (by simp)
 ·exact h1 _ _
 ·exact hx _ (by simp)
 ·exact hx _ (by simp)
 ·exact hx _ (by simp)
theorem Is {s:List Nat} (hs:s.length=8) (hx:∀ x∈s,x<18446744073709551616) (w:List Nat):∀ n,∀ x∈Gt n w s,x<18446744073709551616
 | 0=>hx
 | n+1=>tQ (Bj hs w n) (Is hs hx w n) _ _
theorem aN:∀ x∈Km,x<18446744073709551616:=by decide +kernel
theorem mI (a b c d e f g h:Nat):fillL (Qa 8 (Value.int .u64 0)) [(0,1,.int .u64 (a:Int)),(1,1,.int .u64 (b:Int)),(2,1,.int .u64 (c:Int)),(3,1,.int .u64 (d:Int)),(4,1,.int .u64 (e:Int)),(5,1,.int .u64 (f:Int)),(6,1,.int .u64 (g:Int)),(7,1,.int .u64 (h:Int))]=some (ns .u64 [a,b,c,d,e,f,g,h]):=rfl
def w1I (H:List Ob) (P:Value) (w s:List Nat) (i:Int) (ex:Env):St:=⟨[(0,P),(4,.pointer (some ⟨H.length,0,none⟩)),(10,.pointer (some ⟨H.length+1,0,none⟩)),(86,eV Km),(87,.int .i64 i)]++ex,H++[⟨ns .u64 w,true,true,true,1⟩,⟨ns .u64 s,true,true,true,1⟩],[]⟩
theorem ot {P:Value} (hw:w.length=80) (hs:s.length=8) (hx:∀ x∈s,x<18446744073709551616) (hi:i<80) :
  Q2 T H.length HW (w1I H P w s i [])=some (.normal,w1I H P w (rnd s (Km.getD i 0) (w.getD i 0)) ((i+1:Nat):Int) []):=by
 obtain ⟨a,b,c,d,e,f,g,h,rfl⟩:=eight hs
 obtain ⟨k,hk⟩:∃ k,Km[i]?=some k:=⟨_,Qf (by rw [Ue]; exact hi)⟩
 obtain ⟨v,hv⟩:∃ k,w[i]?=some k:=⟨_,Qf (by omega)⟩
 rw [JJ hk,JJ hv]
 have kc:=ZM (k := .u64) hk
 have vc:=ZM (k := .u64) hv
 have la:=hx a (by simp)
 have lb:=hx b (by simp)
 have lc:=hx c (by simp)
 have le:=hx e (by simp)
 have lf:=hx f (by simp)
 have lg:=hx g (by simp)
 have r14:QK T 164 [.int .u64 e,.int .i64 (-14)]=some (.int .u64 (JN e 14:Nat)):=Dp (r:=14) le (by decide) (by decide)
 have r18:QK T 164 [.int .u64 e,.int .i64 (-18)]=some (.int .u64 (JN e 18:Nat)):=Dp (r:=18) le (by decide) (by decide)
 have r41:QK T 164 [.int .u64 e,.int .i64 (-41)]=some (.int .u64 (JN e 41:Nat)):=Dp (r:=41) le (by decide) (by decide)
 have r28:QK T 164 [.int .u64 a,.int .i64 (-28)]=some (.int .u64 (JN a 28:Nat)):=Dp (r:=28) la (by decide) (by decide)
 have r34:QK T 164 [.int .u64 a,.int .i64 (-34)]=some (.int .u64 (JN a 34:Nat)):=Dp (r:=34) la (by decide) (by decide)
 have r39:QK T 164 [.int .u64 a,.int .i64 (-39)]=some (.int .u64 (JN a 39:Nat)):=Dp (r:=39) la (by decide) (by decide)
 have b14:=XI (r:=14) le (by decide) (by decide)
 have b18:=XI (r:=18) le (by decide) (by decide)
 have b41:=XI (r:=41) le (by decide) (by decide)
 have b28:=XI (r:=28) la (by decide) (by decide)
 have b34:=XI (r:=34) la (by decide) (by decide)
 have b39:=XI (r:=39) la (by decide) (by decide)
 have x1:=Wf b14 b18
 have x2:Zp .xor .u64 ((JN e 14^^^JN e 18:Nat):Int) ((JN e 41:Nat):Int)=((Sg1 e:Nat):Int):=Wf (Yh b14 b18) b41
 have x3:=Wf b28 b34
 have x4:Zp .xor .u64 ((JN a 28^^^JN a 34:Nat):Int) ((JN a 39:Nat):Int)=((Sg0 a:Nat):Int):=Wf (Yh b28 b34) b39
 have a1:=Wv le lf
 have a2:Zp .xor .u64 (if IntKind.u64.signed=true then -1 else IntKind.u64.max) (e:Int)=((18446744073709551615^^^e:Nat):Int):=Wf (a:=18446744073709551615) (by decide) le
 have lne:18446744073709551615^^^e<18446744073709551616:=Yh (by decide) le
 have a3:=Wv lne lg
 have a4:Zp .xor .u64 ((e&&&f:Nat):Int) (((18446744073709551615^^^e)&&&g:Nat):Int)=((chO e f g:Nat):Int):=Wf (Xr lf) (Xr lg)
 have a5:=Wv la lb
 have a6:=Wv la lc
 have a7:=Wv lb lc
 have a8:=Wf (a:=a&&&b) (b:=a&&&c) (Xr lb) (Xr lc)
 have a9:Zp .xor .u64 (((a&&&b)^^^(a&&&c):Nat):Int) ((b&&&c:Nat):Int)=((maO a b c:Nat):Int):=Wf (Yh (Xr lb) (Xr lc)) (Xr lc)
 have m1:=Wx h (Sg1 e)
 have m2:=Wx ((h+Sg1 e)%18446744073709551616) (chO e f g)
 have m3:=Wx (((h+Sg1 e)%18446744073709551616+chO e f g)%18446744073709551616) k
 have m4:=Wx ((((h+Sg1 e)%18446744073709551616+chO e f g)%18446744073709551616+k)%18446744073709551616) v
 have hT1:((((h+Sg1 e)%18446744073709551616+chO e f g)%18446744073709551616+k)%18446744073709551616+v)%18446744073709551616=t1O [a,b,c,d,e,f,g,h] k v:=by
  show _=(h+Sg1 e+chO e f g+k+v)%18446744073709551616
  omega
 rw [hT1] at m4
 have m5:IntKind.u64.wrap ((Sg0 a:Int)+(maO a b c:Int))=((t2O [a,b,c,d,e,f,g,h]:Nat):Int):=Wx (Sg0 a) (maO a b c)
 have m6:=Wx (t1O [a,b,c,d,e,f,g,h] k v) (t2O [a,b,c,d,e,f,g,h])
 have m7:=Wx d (t1O [a,b,c,d,e,f,g,h] k v)
 have hr:rnd [a,b,c,d,e,f,g,h] k v=[(t1O [a,b,c,d,e,f,g,h] k v+t2O [a,b,c,d,e,f,g,h])%18446744073709551616,a,b,c,(d+t1O [a,b,c,d,e,f,g,h] k v)%18446744073709551616,e,f,g]:=rfl
 have hf:=mI ((t1O [a,b,c,d,e,f,g,h] k v+t2O [a,b,c,d,e,f,g,h])%18446744073709551616) a b c ((d+t1O [a,b,c,d,e,f,g,h] k v)%18446744073709551616) e f g
 rw [←hr] at hf
 have lR:=SY [a,b,c,d,e,f,g,h] k v
 have e1:((i:Int)<80)=True:=eq_true (by omega)
 have w3:IntKind.i64.wrap ((i:Int)+1)=((i+1:Nat):Int):=Zx (b:=1) (by omega)
 have vi:Ia none 80 1 (eV Km) (.int .i64 (i:Int))=some (.int .u64 (k:Nat)):=by
  unfold eV
  rw [D0]
  simp only [e1,Qs,quiet,cK,↓pQ,reduceCtorEq,seval,-Qb,cL,kc]
 have g0:(ns .u64 [a,b,c,d,e,f,g,h])[0]?=some (.int .u64 (a:Nat)):=rfl
 have g1:(ns .u64 [a,b,c,d,e,f,g,h])[1]?=some (.int .u64 (b:Nat)):=rfl
 have g2:(ns .u64 [a,b,c,d,e,f,g,h])[2]?=some (.int .u64 (c:Nat)):=rfl
 have g3:(ns .u64 [a,b,c,d,e,f,g,h])[3]?=some (.int .u64 (d:Nat)):=rfl
 have g4:(ns .u64 [a,b,c,d,e,f,g,h])[4]?=some (.int .u64 (e:Nat)):=rfl
 have g5:(ns .u64 [a,b,c,d,e,f,g,h])[5]?=some (.int .u64 (f:Nat)):=rfl
 have g6:(ns .u64 [a,b,c,d,e,f,g,h])[6]?=some (.int .u64 (g:Nat)):=rfl
 have g7:(ns .u64 [a,b,c,d,e,f,g,h])[7]?=some (.int .u64 (h:Nat)):=rfl
 have lS:(ns .u64 [a,b,c,d,e,f,g,h]).length=8:=rfl
 clear hT1 hr hk hv kc hs hx
 generalize rnd [a,b,c,d,e,f,g,h] k v=R at *
 generalize (t1O [a,b,c,d,e,f,g,h] k v+t2O [a,b,c,d,e,f,g,h])%18446744073709551616=z1 at *
 generalize (d+t1O [a,b,c,d,e,f,g,h] k v)%18446744073709551616=z2 at *
 generalize t1O [a,b,c,d,e,f,g,h] k v=t1 at *
 generalize t2O [a,b,c,d,e,f,g,h]=t2 at *
 generalize (((h+Sg1 e)%18446744073709551616+chO e f g)%18446744073709551616+k)%18446744073709551616=z3 at *
 generalize ((h+Sg1 e)%18446744073709551616+chO e f g)%18446744073709551616=z4 at *
 generalize (h+Sg1 e)%18446744073709551616=z5 at *
 generalize Sg1 e=se,Sg0 a=sa,chO e f g=cc,maO a b c=mm at *
 generalize (a&&&b)^^^(a&&&c)=q1 at *
 generalize (18446744073709551615^^^e)&&&g=q2 at *
 generalize 18446744073709551615^^^e=q3 at *
 generalize e&&&f=q4 at *
 generalize a&&&b=q5 at *
 generalize a&&&c=q6 at *
 generalize b&&&c=q7 at *
 generalize JN e 14^^^JN e 18=q8,JN a 28^^^JN a 34=q9 at *
 generalize JN e 14=p1,JN e 18=p2,JN e 41=p3,JN a 28=p4,JN a 34=p5,JN a 39=p6 at *
 generalize i+1=i1 at *
 generalize hS:ns .u64 [a,b,c,d,e,f,g,h]=S at *
 simp only [w1I,hS]
 generalize eV Km=kt at *
 simp only [HW,Qs,quiet,cW,↓pW,reduceCtorEq,seval,-Qb,e1,vi,vc,r14,r18,r41,r28,r34,r39,x1,x2,x3,x4,a1,a2,a3,a4,a5,a6,a7,a8,a9,m1,m2,m3,m4,m5,m6,m7,hf,w3,g0,g1,g2,g3,g4,g5,g6,g7,lS,Q9,hw,lR,Qy,Qe]
theorem fC {P:Value} (hw:w.length=80) (hs:s.length=8) (hx:∀ x∈s,x<18446744073709551616) :
  Q2 T H.length (.block 4 (.loop HW)) (w1I H P w s 0 [])=some (.normal,w1I H P w (Gt 80 w s) 80 [(88,.bool false)]):=by
 have h:=ZV (T:=T) (base:=H.length) (id:=4) (body:=HW) (fun i=>w1I H P w (Gt i w s) i []) (s':=w1I H P w (Gt 80 w s) 80 [(88,.bool false)]) 80
  (fun i hi=>ot hw (Bj hs w i) (Is hs hx w i) hi)
  (by
   generalize Gt 80 w s=R
   simp only [w1I]
   generalize eV Km=kt
   simp only [HW,Qs,quiet,cW,↓pW,reduceCtorEq,seval,-Qb])
 exact h
def hcl (rv:Value) (n:Nat) (st:List Nat):List Value:=rv::.int .u64 (n:Nat)::ns .u64 st
def hob (rv:Value) (n:Nat) (st:List Nat):Ob:=⟨hcl rv n st,true,true,true,1⟩
theorem HG (rv:Value) (n:Nat) (st:List Nat):(hcl rv n st).length=2+st.length:=by simp [hcl,Q9]; omega
theorem aR (h:st[i]?=some x):(hcl rv n st)[2+i]?=some (.int .u64 (x:Nat)):=by
 rw [Xp]; exact ZM h
theorem qI (rv:Value) (n i x:Nat) (st:List Nat):(hcl rv n st).set (2+i) (.int .u64 (x:Nat))=hcl rv n (st.set i x):=by
 rw [Xp]
 show rv::.int .u64 (n:Nat)::(ns .u64 st).set i _=_
 rw [X8]; rfl
theorem FB (h:st.length=8):Zh 8 (Jr 2 (hcl rv n st))=ns .u64 st:=by
 show Zh 8 (ns .u64 st)=_
 rw [Qm (by rw [Q9]; omega)]
theorem rI (hs:s.length=8):(blk s b).length=8:=by unfold blk; rw [Vp,Bj hs,hs]; rfl
theorem vt:∀ x∈blk s b,x<18446744073709551616:=by
 intro x hx
 unfold blk at hx
 obtain ⟨i,hi⟩:=List.getElem?_of_mem hx
 rw [KE] at hi
 split at hi
 ·cases hi; exact Q5 _ (by decide)
 ·cases hi
theorem J2 {b:Nat}:∀ {M L:List Nat} {i:Nat},i∈Q1 b L M→i∈L∨i∈M
 | [],L,i,h=>.inl h
 | m::M,L,i,h=>by
  simp only [Q1] at h
  split at h
  ·rcases J2 h with h1 | h1
   ·rcases QE.1 h1 with h2 | h2
    ·exact .inl h2
    ·exact .inr (by rw [Xi.1 h2]; exact List.mem_cons_self)
   ·exact .inr (Y5 _ h1)
  ·rcases J2 h with h1 | h1
   ·exact .inl h1
   ·exact .inr (Y5 _ h1)
def w0I (H:List Ob) (hid:Nat) (rv:Value) (n:Nat) (st:List Nat) (s L:List Nat) (ob1 ob2:Ob) (i:Int) (ex:Env):St:=⟨[(0,.pointer (some ⟨hid,0,none⟩)),(174,eV s),(175,.int .i64 i)]++ex,H.set hid (hob rv n st)++[ob1,ob2],L⟩
theorem fF {ob1 ob2:Ob} (hh:hid<H.length) (hs:s.length=8) (hst:st.length=8) :
  ∃ L,Q2 T H.length (.block 6 (.loop MV)) (w0I H hid rv n st s [] ob1 ob2 0 [])=some (.normal,w0I H hid rv n (JL (fun x y=>(x+y)%18446744073709551616) st s) s L ob1 ob2 8 [(176,.bool false)])∧∀ i∈L,i=hid:=by
 have hZ:(JL (fun x y=>(x+y)%18446744073709551616) st s).length=8:=by rw [Vp,hs,hst]; rfl
 obtain ⟨Z,hZd⟩:∃ Z,Z=JL (fun x y=>(x+y)%18446744073709551616) st s:=⟨_,rfl⟩
 rw [←hZd] at hZ ⊢
 obtain ⟨st',hb,L,rfl,hL⟩:=Zi (T:=T) (base:=H.length) (id:=6) (body:=MV)
  (fun i x=>∃ L,x=w0I H hid rv n (Z.take i++st.drop i) s L ob1 ob2 i []∧∀ j∈L,j=hid)
  (Q:=fun x=>∃ L,x=w0I H hid rv n Z s L ob1 ob2 8 [(176,.bool false)]∧∀ j∈L,j=hid)
  8 (s:=w0I H hid rv n st s [] ob1 ob2 0 []) ⟨[],rfl,by simp⟩
  (fun i x hi hx=>by
   obtain ⟨L,rfl,hL⟩:=hx
   obtain ⟨u,hu⟩:∃ u,st[i]?=some u:=⟨_,Qf (by omega)⟩
   obtain ⟨v,hv⟩:∃ u,s[i]?=some u:=⟨_,Qf (by omega)⟩
   have hz:Z[i]?=some ((u+v)%18446744073709551616):=by rw [hZd,KE,hu,hv]
   have hlt:(Z.take i).length=i:=by rw [Q6]; omega
   have hg:(Z.take i++st.drop i)[i]?=some u:=by
    rw [Qh (by omega),hlt,Q4,Zm]; exact hu
   have hstep:(Z.take i++st.drop i).set i ((u+v)%18446744073709551616)=Z.take (i+1)++st.drop (i+1):=by
    rw [ZP _ _ (by omega),hlt,Q4,List.drop_eq_getElem?_toList_append (i:=i),hu,Zw,hz]
    simp
   have hlen:(Z.take i++st.drop i).length=8:=by rw [Qk,QP,hlt]; omega
   have gc:=aR (rv:=rv) (n:=n) hg
   have sc:=qI rv n i ((u+v)%18446744073709551616) (Z.take i++st.drop i)
   rw [hstep] at sc
   have cl:=HG rv n (Z.take i++st.drop i)
   rw [hlen] at cl
   have vc:=ZM (k := .u64) hv
   have vi:Ia none 8 1 (eV s) (.int .i64 (i:Int))=some (.int .u64 (v:Nat)):=by
    have e1:((i:Int)<8)=True:=eq_true (by omega)
    unfold eV
    rw [D0]
    simp only [e1,Qs,quiet,cK,↓pQ,reduceCtorEq,seval,-Qb,cL,vc]
   have m1:=Wx u v
   have e1:((i:Int)<8)=True:=eq_true (by omega)
   have w3:IntKind.i64.wrap ((i:Int)+1)=((i+1:Nat):Int):=Zx (b:=1) (by omega)
   have hget:∀ o:Ob,(H.set hid o++[ob1,ob2])[hid]?=some o:=fun o=>by
    rw [Qc (by rw [Q3]; exact hh),Qx hh]
   have hset:∀ o o':Ob,(H.set hid o++[ob1,ob2]).set hid o'=H.set hid o'++[ob1,ob2]:=fun o o'=>by
    rw [Vb _ _ (by rw [Q3]; exact hh),VU]
   have e5:(2+i+1≤2+8)=True:=eq_true (by omega)
   refine ⟨w0I H hid rv n (Z.take (i+1)++st.drop (i+1)) s (Q1 H.length L [hid]) ob1 ob2 ((i+1:Nat):Int) [],?_,_,rfl,?_⟩
   ·generalize Z.take (i+1)++st.drop (i+1)=O2,Z.take i++st.drop i=O1 at *
    generalize (u+v)%18446744073709551616=z at *
    simp only [w0I,hob]
    generalize hcl rv n O1=C1,hcl rv n O2=C2,eV s=sv at *
    generalize i+1=i1 at *
    simp only [MV,Qs,quiet,cW,↓pW,reduceCtorEq,seval,-Qb,e1,vi,m1,w3,gc,sc,cl,e5,hget,hset]
    done
   ·intro j hj
    rcases J2 hj with h | h
    ·exact hL j h
    ·simpa using h)
  (fun x hx=>by
   obtain ⟨L,rfl,hL⟩:=hx
   rw [Qm (by omega),ZA (by omega),QF]
   refine ⟨_,?_,L,rfl,hL⟩
   simp only [w0I,hob]
   generalize hcl rv n Z=C
   generalize eV s=sv
   simp only [MV,Qs,quiet,cW,↓pW,reduceCtorEq,seval,-Qb])
 exact ⟨L,hb,hL⟩
theorem YV {α:Type} {l:List α} {i:Nat} {x:α} (h:l[i]?=some x):l.set i x=l:=by
 apply Ju
 intro k
 rw [Kl]
 by_cases c:i=k
 ·rw [if_pos c,←c,h,if_pos (Qg.1 h).1]
 ·rw [if_neg c]
def FW:List Nat:=Qa 80 0
theorem ti:Qa 80 (Value.int .u64 0)=ns .u64 FW:=rfl
theorem oa:FW.length=80:=rfl
def eN:List Nat:=Qa 8 0
theorem z8_eq:Qa 8 (Value.int .u64 0)=ns .u64 eN:=rfl
theorem th:eN.length=8:=rfl
theorem nC (hh:H[hid]?=some (hob rv n st)) (hs:st.length=8) (hx:∀ x∈st,x<18446744073709551616) (hb:BB H id off b) (hl:b.length=128) (hc:128≤cap) :
  ∃ w s M,Z5 T 162 [.pointer (some ⟨hid,0,none⟩),.slice (some ⟨id,off,none⟩) 128 cap] H=some (.tuple #[],H.set hid (hob rv n (blk st b))++[w,s],M)∧∀ i∈M,i=hid:=by
 have hlt:hid<H.length:=(Qg.1 hh).1
 have h3:=fh (P := .pointer (some ⟨hid,0,none⟩)) (cap:=cap) hb hl hc
 have hWl:=Y7 b
 have h1:=fC (H:=H) (P := .pointer (some ⟨hid,0,none⟩)) hWl hs hx
 have lr:=Bj hs (JP b) 80
 obtain ⟨L,h0,hL⟩:=fF (H:=H) (hid:=hid) (n:=n) (rv:=rv) (ob1:=⟨ns .u64 (JP b),true,true,true,1⟩) (ob2:=⟨ns .u64 (Gt 80 (JP b) st),true,true,true,1⟩) hlt lr hs
 rw [show JL (fun x y=>(x+y)%18446744073709551616) st (Gt 80 (JP b) st)=blk st b from rfl] at h0
 have hss:H.set hid (hob rv n st)=H:=YV hh
 refine ⟨⟨ns .u64 (JP b),true,true,true,1⟩,⟨ns .u64 (Gt 80 (JP b) st),true,true,true,1⟩,L,?_,hL⟩
 simp only [w0I,hss,Qn,Ql,QB] at h0
 have hz:=ti
 have lz:=oa
 have hz8:=z8_eq
 have lz8:=th
 rw [show Qa 80 0=FW from rfl] at h3
 simp only [w3I,Qn,Ql,QB] at h3
 simp only [w1I,Qn,Ql,QB] at h1
 have ht:=SR
 have hcs:=FB (rv:=rv) (n:=n) hs
 have hcl8:2+8≤(hcl rv n st).length:=by rw [HG]; omega
 have hget:∀ l:List Ob,(H++l)[hid]?=some ⟨hcl rv n st,true,true,true,1⟩:=fun l=>by rw [Qc hlt]; exact hh
 have lk:=Ue
 generalize H.set hid (hob rv n (blk st b))=H' at *
 generalize JP b=W at *
 generalize Gt 80 W st=R,hcl rv n st=C at *
 generalize FW=Z at *
 generalize eN=Z8 at *
 generalize Km=KT at *
 rw [Zb (fn:=wI) rfl]
 simp only [wI,Qs,quiet,cW,↓pW,reduceCtorEq,seval,-Qb,hz,hz8,h3,h1,h0,ht,hget,hcs,hcl8,Qe,Qy,Qz,Q7,Zc,Q8,Q9,hWl,hs,lr,lz,lz8,lk,QV]
 rfl
inductive Rst (K:Nat→Prop) (H:List Ob):Value→List Nat→Prop
 | nil:Rst K H (.slice none 0 0) []
 | empty {id:Nat}:¬ K id→H[id]?=some ⟨[],true,true,true,1⟩→Rst K H (.slice (some ⟨id,0,none⟩) 0 0) []
 | own {id off:Nat} {all l:List Nat}:¬ K id→H[id]?=some ⟨u8s all,true,true,false,1⟩→off+l.length≤all.length→(∀ i,i<l.length→all[off+i]?=l[i]?)→Rst K H (.slice (some ⟨id,off,none⟩) l.length l.length) l
theorem Rst.app {K:Nat→Prop} {H m:List Ob} {v:Value} {l:List Nat} (h:Rst K H v l):Rst K (H++m) v l:=by
 cases h with
 | nil=>exact .nil
 | empty h1 h2=>exact .empty h1 (by rw [Qc (Qg.1 h2).1]; exact h2)
 | own h1 h2 h4 h3=>exact .own h1 (by rw [Qc (Qg.1 h2).1]; exact h2) h4 h3
theorem Rst.setH {K:Nat→Prop} {H:List Ob} {v:Value} {l:List Nat} {hid n:Nat} {rv:Value} {st:List Nat} (h:Rst K H v l) (hh:H[hid]?=some (hob rv n st)) (o:Ob):Rst K (H.set hid o) v l:=by
 cases h with
 | nil=>exact .nil
 | empty h1 h2=>exact .empty h1 (by
   rw [Qu]
   ·exact h2
   ·intro e; subst e
    have:=congrArg Ob.cells (XA (hh.symm.trans h2))
    simp [hob,hcl] at this)
 | own h1 h2 h4 h3=>exact .own h1 (by
   rw [Qu]
   ·exact h2
   ·intro e; subst e
    have:=congrArg Ob.exact (XA (hh.symm.trans h2))
    simp [hob] at this) h4 h3
theorem TY {all:List Nat} (h:∀ i,i<l.length→all[off+i]?=l[i]?):((u8s all).drop off).take l.length=u8s l:=by
 apply Ju
 intro i
 rw [QX]
 split
 ·rename_i hi
  rw [Zm]
  have:=h i hi
  simp only [u8s,List.getElem?_map,this]
 ·rename_i hi
  rw [List.getElem?_eq_none (by rw [Qq]; omega)]
theorem Rst.append {K:Nat→Prop} {H:List Ob} {v x:Value} {l p:List Nat} (h:Rst K H v l) (hK:∀ i,K i→i<H.length) (hl:Go.Ev.lenV x=some p.length) (he:elemsOf H 1 p.length x=some (u8s p)) (hb:l.length+p.length≤2^47) :
  ∃ v' H' M,Jo 1 1 H v x=some (v',H',none,M)∧Rst K H' v' (l++p)∧(∀ i∈M,¬ K i)∧H.length≤H'.length∧(∀ i,K i→H'[i]?=H[i]?)∧∀ (i:Nat) (o:Ob),H[i]?=some o→o.exact=true→H'[i]?=some o:=by
 rcases Jw p.length with hn | hn
 ·have:p=[]:=J3 hn
  subst this
  rw [QF]
  refine ⟨v,H,[],?_,h,by simp,Qr _,fun _ _=>rfl,fun i o h _=>h⟩
  rw [ZW] at hl he
  cases h<;>simp only [Jo,hl,he,Qo,if_true]
 ·have h1:¬ p.length=0:=by omega
  have hnew:¬ K H.length:=fun h=>absurd (hK _ h) (Nat.lt_irrefl _)
  cases h with
  | nil =>
   refine ⟨.slice (some ⟨H.length,0,none⟩) p.length p.length,H++[Ob.grown 1 (u8s p)],[],?_,?_,by simp,by simp,?_,?_⟩
   ·have h2:(0+p.length)*1≤2^47∧0<1∧0<1:=⟨by simpa using hb,by decide,by decide⟩
    simp only [Jo,hl,he,Qo,if_neg h1,h2,and_self,not_true_eq_false,if_false,if_true]
   ·rw [Ql]
    exact .own (all:=p) hnew (by simp [Ob.grown]) (by omega) (fun i _=>by rw [QL])
   ·intro i hi; rw [Qc (hK i hi)]
   ·intro i o ho _; rw [Qc (Qg.1 ho).1]; exact ho
  | @empty id0 k1 k2 =>
   refine ⟨.slice (some ⟨H.length,0,none⟩) (0+p.length) (0+p.length),H++[Ob.grown 1 ([]++u8s p)],[],?_,?_,by simp,by simp,?_,?_⟩
   ·have h2:(0+p.length)*1≤2^47∧0<1∧0<1:=⟨by simpa using hb,by decide,by decide⟩
    have h4:liveAt H id0=some ⟨[],true,true,true,1⟩:=Zv k2 rfl
    have h7:¬ (0+p.length≤0):=by omega
    have h8:elemsOf H 1 0 (.slice (some ⟨id0,0,none⟩) 0 0)=some []:=by simp [elemsOf,h4]
    simp only [Jo,hl,he,Qo,if_neg h1,h2,and_self,not_true_eq_false,if_false,if_true,h4,h8,if_neg h7]
   ·rw [Ql,Ql,QL]
    exact .own (all:=p) hnew (by simp [Ob.grown]) (by omega) (fun i _=>by rw [QL])
   ·intro i hi; rw [Qc (hK i hi)]
   ·intro i o ho _; rw [Qc (Qg.1 ho).1]; exact ho
  | @own id0 off all _ k1 k2 k4 k3 =>
   have hid:id0<H.length:=(Qg.1 k2).1
   refine ⟨.slice (some ⟨H.length,0,none⟩) (l.length+p.length) (l.length+p.length),(H.set id0 Ob.dead)++[Ob.grown 1 (u8s l++u8s p)],[id0],?_,?_,by simpa using k1,by simp,?_,?_⟩
   ·have h2:(l.length+p.length)*1≤2^47∧0<1∧0<1:=⟨by omega,by decide,by decide⟩
    have h4:liveAt H id0=some ⟨u8s all,true,true,false,1⟩:=Zv k2 rfl
    have h7:¬ (l.length+p.length≤l.length):=by omega
    have h8:elemsOf H 1 l.length (.slice (some ⟨id0,off,none⟩) l.length l.length)=some (u8s l):=by
     have:=TY k3
     simp only [elemsOf,h4,Qo,KZ]
     rw [this]
     simp [Qq,k4]
    simp only [Jo,hl,he,Qo,if_neg h1,h2,and_self,not_true_eq_false,if_false,if_true,h4,h8,if_neg h7,ZE,Qr]
   ·have:=Rst.own (K:=K) (H:=(H.set id0 Ob.dead)++[Ob.grown 1 (u8s l++u8s p)]) (id:=H.length) (off:=0) (all:=l++p) (l:=l++p) hnew (by simp [Ob.grown,u8s]) (by omega) (fun i _=>by rw [QL])
    rwa [Qk] at this
   ·intro i hi
    rw [Qc (by rw [Q3]; exact hK i hi),Qu (fun e=>k1 (by rw [e]; exact hi))]
   ·intro i o ho hex
    rw [Qc (by rw [Q3]; exact (Qg.1 ho).1),Qu]
    ·exact ho
    ·intro e; subst e; rw [k2] at ho; cases ho; cases hex
theorem Hs (b:List Nat):∀ n,(stK n b).length=8
 | 0=>rfl
 | n+1=>rI (Hs b n)
theorem gX:∀ x∈YR,x<18446744073709551616:=by decide
theorem Il (b:List Nat):∀ n,∀ x∈stK n b,x<18446744073709551616
 | 0=>gX
 | n+1=>vt
theorem SV (a b:List Nat):∀ q,128*q≤a.length→stK q (a++b)=stK q a
 | 0,_=>rfl
 | q+1,h=>by
  rw [stK,stK,SV a b q (by omega),Jb (by omega),ZJ (by rw [QP]; omega)]
def Hsh (K:Nat→Prop) (H:List Ob) (hid:Nat) (all:List Nat):Prop:=∃ rv,H[hid]?=some (hob rv all.length (stK (all.length/128) all))∧Rst K H rv (all.drop (128*(all.length/128)))
def fdF (hid:Nat):Value := .func (.func 162) [Value.pointer (some ⟨hid,0,none⟩)].toArray [].toArray
def fdI (hid:Nat) (H:List Ob) (L:List Nat) (ex:Env):St:=⟨[(0,.pointer (some ⟨hid,0,none⟩)),(1,.int .i64 128),(3,fdF hid)]++ex,H,L⟩
theorem qX {rest:List Nat} {ex:Env} (hK:∀ i,K i→i<H.length) (hKh:¬ K hid) (hh:H[hid]?=some (hob rv n st)) (hs:st.length=8) (hx:∀ x∈st,x<18446744073709551616) (hr:Rst K H rv rest) (h128:128≤rest.length) (xr:∀ x∈rest,x<256) (hL:∀ i∈L,¬ K i) (hmx:rest.length<2^60) :
  ∃ rv' H' L' ex',Q2 T b0 WC (fdI hid H L ex)=some (.normal,fdI hid H' L' ex')∧H'[hid]?=some (hob rv' n (blk st (rest.take 128)))∧Rst K H' rv' (rest.drop 128)∧(∀ i,K i→H'[i]?=H[i]?)∧H.length≤H'.length∧∀ i∈L',¬ K i:=by
 have hlt:hid<H.length:=(Qg.1 hh).1
 cases hr with
 | nil=>exact absurd h128 (by decide)
 | empty _ _=>exact absurd h128 (by decide)
 | @own id off all _ k1 k2 k4 k3 =>
  have hidne:id≠hid:=fun e=>by
   subst e
   have:=congrArg Ob.exact (XA (hh.symm.trans k2))
   simp [hob] at this
  have hBB:BB H id off (rest.take 128):=⟨⟨all,k2,fun i hi=>by
   rw [Q6] at hi
   rw [k3 i (by omega),QX,if_pos (by omega)]⟩,fun x hx=>xr x (QU hx)⟩
  have hl:(rest.take 128).length=128:=by rw [Q6]; omega
  obtain ⟨w,s,M,hb,hM⟩:=nC (cap:=rest.length) hh hs hx hBB hl h128
  have c0:∀ s',(hcl (.slice (some ⟨id,off,none⟩) rest.length rest.length) n s')[0]?=some (.slice (some ⟨id,off,none⟩) rest.length rest.length):=fun _=>rfl
  have cs:∀ s' v,(hcl (.slice (some ⟨id,off,none⟩) rest.length rest.length) n s').set 0 v=hcl v n s':=fun _ _=>rfl
  have cl:∀ v s',(1≤(hcl v n s').length)=True:=fun v s'=>eq_true (by rw [HG]; omega)
  have b1:J4 rest.length rest.length none (some (.int .i64 128)) none=some (0,128,rest.length):=by
   have n1:KR (some (.int .i64 128)) rest.length rest.length=some 128:=Kb (n:=128) h128
   rw [XZ,n1,Qo]; rfl
  have b2:J4 rest.length rest.length (some (.int .i64 128)) none none=some (128,rest.length,rest.length):=by
   have n1:KR (some (.int .i64 128)) rest.length 0=some 128:=Kb (n:=128) h128
   rw [XZ,Ub,Qo,n1,Qo]
  have e1:((128:Int)≤(rest.length:Int))=True:=eq_true (by omega)
  have g0:H[hid]?=some ⟨hcl (.slice (some ⟨id,off,none⟩) rest.length rest.length) n st,true,true,true,1⟩:=hh
  have g1:∀ o:Ob,(H.set hid o++[w,s])[hid]?=some o:=fun o=>by
   rw [Qc (by rw [Q3]; exact hlt),Qx hlt]
  have g2:∀ o:Ob,(H.set hid o++[w,s])[id]?=some ⟨u8s all,true,true,false,1⟩:=fun o=>by
   rw [Qc (by rw [Q3]; exact (Qg.1 k2).1),Qu (Ne.symm hidne)]; exact k2
  have g3:∀ o o':Ob,(H.set hid o++[w,s]).set hid o'=H.set hid o'++[w,s]:=fun o o'=>by
   rw [Vb _ _ (by rw [Q3]; exact hlt),VU]
  refine ⟨.slice (some ⟨id,off+128,none⟩) (rest.length-128) (rest.length-128),H.set hid (hob (.slice (some ⟨id,off+128,none⟩) (rest.length-128) (rest.length-128)) n (blk st (rest.take 128)))++[w,s],Q1 b0 (Q1 b0 L M) [hid],[],?_,g1 _,?_,?_,?_,?_⟩
  ·simp only [hob] at hb ⊢
   generalize blk st (rest.take 128)=st' at *
   simp only [fdI,fdF,WC,Qs,quiet,cW,↓pW,reduceCtorEq,seval,-Qb,e1,b1,b2,hb,c0,cs,cl,g0,k2,g1,g2,g3]
  ·have:=Rst.own (K:=K) (H:=H.set hid (hob (.slice (some ⟨id,off+128,none⟩) (rest.length-128) (rest.length-128)) n (blk st (rest.take 128)))++[w,s]) (id:=id) (off:=off+128) (all:=all) (l:=rest.drop 128) k1 (g2 _) (by rw [QP]; omega) (fun i hi=>by
    rw [QP] at hi
    rw [Zm,←k3 _ (by omega),Zu])
   rwa [QP] at this
  ·intro i hi
   rw [Qc (by rw [Q3]; exact hK i hi),Qu (fun e=>hKh (by rw [e]; exact hi))]
  ·simp
  ·intro i hi
   rcases J2 hi with h | h
   ·rcases J2 h with h | h
    ·exact hL i h
    ·rw [hM i h]; exact hKh
   ·rw [Xi.1 h]; exact hKh
theorem Rst.shape {K:Nat→Prop} {H:List Ob} {v:Value} {l:List Nat} (h:Rst K H v l):∃ (a:Option Addr) (c:Nat),v=.slice a l.length c:=by
 cases h with
 | nil=>exact ⟨_,_,rfl⟩
 | empty _ _=>exact ⟨_,_,rfl⟩
 | own _ _ _ _=>exact ⟨_,_,rfl⟩
theorem qV {x:Value} {all p:List Nat} (hK:∀ i,K i→i<H.length) (hKh:¬ K hid) (hh:Hsh K H hid all) (xa:∀ y∈all,y<256) (xp:∀ y∈p,y<256)
 (hl:∃ (a:Option Addr) (c:Nat),x=.slice a p.length c) (he:∀ o,elemsOf (H.set hid o) 1 p.length x=some (u8s p)) (hb:all.length+p.length<2^50) (hb2:p.length≤2^47-128) :
    ∃ H' M,Z5 T 137 [.pointer (some ⟨hid,0,none⟩),.int .i64 128,x,fdF hid] H=some (.tuple #[],H',M)∧Hsh K H' hid (all++p)∧(∀ i,K i→H'[i]?=H[i]?)∧H.length≤H'.length∧∀ i∈M,¬ K i:=by
  obtain ⟨rv,h1,h2⟩:=hh
  have hlt:hid<H.length:=(Qg.1 h1).1
  obtain ⟨q0,hq0⟩:∃ q,q=all.length/128:=⟨_,rfl⟩
  rw [←hq0] at h1 h2
  have hq1:128*q0≤all.length:=by rw [hq0]; omega
  have hst:stK q0 all=stK q0 (all++p):=(SV all p q0 hq1).symm
  have hN:(all++p).length=all.length+p.length:=Qk
  rw [hst] at h1
  obtain ⟨st0,hst0⟩:∃ s,s=stK q0 (all++p):=⟨_,rfl⟩
  rw [←hst0] at h1
  have hrest:all.drop (128*q0)++p=(all++p).drop (128*q0):=(Jb hq1).symm
  have hrl:(all.drop (128*q0)).length≤127:=by rw [QP,hq0]; omega
  have hr1:Rst K (H.set hid (hob rv (all.length+p.length) st0)) rv (all.drop (128*q0)):=h2.setH h1 _
  have hK1:∀ i,K i→i<(H.set hid (hob rv (all.length+p.length) st0)).length:=fun i hi=>by rw [Q3]; exact hK i hi
  have hlen:Go.Ev.lenV x=some p.length:=by obtain ⟨a,c,rfl⟩:=hl; rfl
  obtain ⟨rv',H2,M2,ha,a1,a2,a3,a4,a5⟩:=hr1.append hK1 hlen (he _) (by omega)
  have hg1:(H.set hid (hob rv (all.length+p.length) st0))[hid]?=some (hob rv (all.length+p.length) st0):=Qx hlt
  have hg2:=a5 hid _ hg1 rfl
  rw [Q3] at a3
  have hlt2:hid<H2.length:=by omega
  have hr3:Rst K (H2.set hid (hob rv' (all.length+p.length) st0)) rv' ((all++p).drop (128*q0)):=by
    rw [hrest] at a1
    exact a1.setH hg2 _
  have hg3:(H2.set hid (hob rv' (all.length+p.length) st0))[hid]?=some (hob rv' (all.length+p.length) st0):=Qx hlt2
  obtain ⟨H3,hH3⟩:∃ X,X=H2.set hid (hob rv' (all.length+p.length) st0):=⟨_,rfl⟩
  have hf3:∀ i,K i→H3[i]?=H[i]? := fun i hi=>by
    have hne:hid≠i:=fun e=>hKh (by rw [e]; exact hi)
    rw [hH3,Qu hne,a4 i hi,Qu hne]
  have hl3:H.length≤H3.length:=by rw [hH3,Q3]; exact a3
  obtain ⟨L3,hL3⟩:∃ L,L=Q1 H.length (Q1 H.length (Q1 H.length [] [hid]) M2) [hid]:=⟨_,rfl⟩
  have hL3':∀ i∈L3,¬ K i:=fun i hi=>by
    rw [hL3] at hi
    rcases J2 hi with h | h
    · rcases J2 h with h | h
      · rcases J2 h with h | h
        · simp at h
        · rw [Xi.1 h]; exact hKh
      · exact a2 i h
    · rw [Xi.1 h]; exact hKh
  rw [←hH3] at hr3 hg3
  obtain ⟨st,hloop,H',L',ex',rvf,rfl,f1,f2,f3,f4,f5⟩:=Zi (T:=T) (base:=H.length) (id:=0) (body:=WC)
    (fun k st=>∃ H' L' ex' rvk,st=fdI hid H' L' ex'∧H'[hid]?=some (hob rvk (all.length+p.length) (stK (q0+k) (all++p)))∧Rst K H' rvk ((all++p).drop (128*(q0+k)))∧(∀ i,K i→H'[i]?=H[i]?)∧H.length≤H'.length∧∀ i∈L',¬ K i)
    (Q:=fun st=>∃ H' L' ex' rvk,st=fdI hid H' L' ex'∧H'[hid]?=some (hob rvk (all.length+p.length) (stK ((all++p).length/128) (all++p)))∧Rst K H' rvk ((all++p).drop (128*((all++p).length/128)))∧(∀ i,K i→H'[i]?=H[i]?)∧H.length≤H'.length∧∀ i∈L',¬ K i)
    ((all++p).length/128-q0) (s:=fdI hid H3 L3 []) ⟨H3,L3,[],rv',rfl,by rw [Jj,←hst0]; exact hg3,by rw [Jj]; exact hr3,hf3,hl3,hL3'⟩
    (fun k st hk hs=>by
      obtain ⟨Hk,Lk,exk,rvk,rfl,k1,k2,k3,k4,k5⟩:=hs
      obtain ⟨rv2,Hk2,L2,ex2,j1,j2,j3,j4,j5,j6⟩:=qX (b0:=H.length) (ex:=exk) (fun i hi=>QM (hK i hi) k4) hKh k1 (Hs _ _) (Il _ _) k2 (by rw [QP]; omega) (fun y hy=>by
        rcases QE.1 (ZD hy) with h | h
        · exact xa y h
        · exact xp y h) k5 (by rw [QP]; omega)
      refine ⟨_,j1,Hk2,L2,ex2,rv2,rfl,j2,?_,fun i hi=>(j4 i hi).trans (k3 i hi),Xh k4 j5,j6⟩
      rw [List.drop_drop] at j3
      rw [show 128*(q0+(k+1))=128*(q0+k)+128 by omega]
      exact j3)
    (fun st hs=>by
      obtain ⟨Hk,Lk,exk,rvk,rfl,k1,k2,k3,k4,k5⟩:=hs
      have hqq:q0+((all++p).length/128-q0)=(all++p).length/128:=by
        have:q0≤(all++p).length/128:=by rw [hq0,hN]; omega
        omega
      rw [hqq] at k1 k2
      have hrl2:((all++p).drop (128*((all++p).length/128))).length<128:=by rw [QP]; omega
      obtain ⟨v,c,hv⟩:=k2.shape
      refine ⟨_,?_,Hk,Lk,[(33,.bool false)],rvk,rfl,k1,k2,k3,k4,k5⟩
      subst hv
      have c0:∀ v' s',(hcl v' (all.length+p.length) s')[0]?=some v':=fun _ _=>rfl
      have e1:((128:Int)≤(((all++p).drop (128*((all++p).length/128))).length:Int))=False:=eq_false (by omega)
      simp only [hob] at k1
      generalize ((all++p).drop (128*((all++p).length/128))).length=rl,stK ((all++p).length/128) (all++p)=sk at *
      simp only [fdI,fdF,WC,Qs,quiet,cW,↓pW,reduceCtorEq,seval,-Qb,e1,k1,c0])
  refine ⟨H',L',?_,⟨rvf,by rw [hN] at f1 ⊢; exact f1,f2⟩,f3,f4,f5⟩
  obtain ⟨c1,c2,rfl⟩:=hl
  simp only [fdI,Qn,Ql,hL3] at hloop
  simp only [hob] at h1 ha hg2 hH3
  have w1:IntKind.u64.wrap (p.length:Int)=(p.length:Int):=Kn (by omega)
  have w2:IntKind.u64.wrap ((all.length:Int)+(p.length:Int))=((all.length+p.length:Nat):Int):=YY (by omega)
  have c0:∀ v' n' s',(hcl v' n' s')[0]?=some v':=fun _ _ _=>rfl
  have c1':∀ v' (n':Nat) s',(hcl v' n' s')[1]?=some (.int .u64 n'):=fun _ _ _=>rfl
  have s0:∀ v' n' s' v,(hcl v' n' s').set 0 v=hcl v n' s':=fun _ _ _ _=>rfl
  have s1:∀ v' n' s' (m:Nat),(hcl v' n' s').set 1 (.int .u64 (m:Int))=hcl v' m s':=fun _ _ _ _=>rfl
  have cl:∀ v n' s',(1≤(hcl v n' s').length)=True:=fun v n' s'=>eq_true (by rw [HG]; omega)
  have cl2:∀ v n' s',(2≤(hcl v n' s').length)=True:=fun v n' s'=>eq_true (by rw [HG]; omega)
  have hgs:∀ o:Ob,(H.set hid o)[hid]?=some o:=fun o=>Qx hlt
  obtain ⟨vr,cr,hvr⟩:=a1.shape
  have hok:Z7 rv'=true:=by rw [hvr]; rfl
  have hc1:rv'.cells.toList=[rv']:=by rw [hvr]; rfl
  have hc2:rv'.cells.size=1:=by rw [hvr]; rfl
  clear hvr
  generalize all.length+p.length=NN at *
  rw [Zb (fn:=nV) rfl]
  simp only [nV,Qs,quiet,cW,↓pW,reduceCtorEq,seval,-Qb,fdF,h1,c0,c1',s0,s1,cl,cl2,w1,w2,hgs,ha,hg2,←hH3,hok,hc1,hc2]
  simp only [fdF] at hloop
  simp only [hloop,Qs,quiet,cK,↓pQ,reduceCtorEq,seval,-Qb,cL]
  rfl
structure HPart (K:Nat→Prop) (H:List Ob) (x:Value) (p:List Nat):Prop where
 shape:∃ (a:Option Addr) (c:Nat),x=.slice a p.length c
 reads:∀ G:List Ob,(∀ i,K i→G[i]?=H[i]?)→elemsOf G 1 p.length x=some (u8s p)
 lt:∀ y∈p,y<256
 le:p.length≤2^47-128
theorem HPart.of {K:Nat→Prop} {H G:List Ob} {x:Value} {p:List Nat} (h:HPart K H x p) (hg:∀ i,K i→G[i]?=H[i]?):HPart K G x p :=
 ⟨h.shape,fun G' hG'=>h.reads G' fun i hi=>(hG' i hi).trans (hg i hi),h.lt,h.le⟩
inductive HParts (K:Nat→Prop) (H:List Ob):List Value→List (List Nat)→Prop
 | nil:HParts K H [] []
 | cons {x:Value} {p:List Nat} {xs:List Value} {ps:List (List Nat)}:HPart K H x p→HParts K H xs ps→HParts K H (x::xs) (p::ps)
theorem HParts.get {K:Nat→Prop} {H:List Ob}:∀ {xs:List Value} {ps:List (List Nat)},HParts K H xs ps→∀ {i:Nat} {x:Value},xs[i]?=some x→∃ p,ps[i]?=some p∧HPart K H x p
 | _,_,.nil,i,x,h=>by simp at h
 | _,_,.cons a b,0,x,h=>by simp at h; subst h; exact ⟨_,rfl,a⟩
 | _,_,.cons a b,i+1,x,h=>by
  obtain ⟨p,h1,h2⟩:=b.get (i:=i) (by simpa using h)
  exact ⟨p,by simpa using h1,h2⟩
theorem HParts.len {K:Nat→Prop} {H:List Ob}:∀ {xs:List Value} {ps:List (List Nat)},HParts K H xs ps→ps.length=xs.length
 | _,_,.nil=>rfl
 | _,_,.cons _ b=>by simp [b.len]
theorem HParts.lt {K:Nat→Prop} {H:List Ob}:∀ {xs:List Value} {ps:List (List Nat)},HParts K H xs ps→∀ y∈ps.flatten,y<256
 | _,_,.nil=>by simp
 | _,_,.cons a b=>by
  intro y hy
  rw [QO] at hy
  rcases QE.1 hy with h | h
  ·exact a.lt y h
  ·exact b.lt y h
def PV (K:Nat→Prop) (H:List Ob) (pv:Value) (xs:List Value):Prop:=(pv=.slice none 0 0∧xs=[])∨∃ pid off cap o,pv=.slice (some ⟨pid,off,none⟩) xs.length cap∧K pid∧H[pid]?=some o∧o.live=true∧∀ i,i<xs.length→o.cells[off+i]?=xs[i]?
def wrI (hid:Nat) (pv:Value) (n:Nat) (i:Int) (H:List Ob) (L:List Nat) (ex:Env):St:=⟨[(0,.pointer (some ⟨hid,0,none⟩)),(6,pv),(7,.int .i64 n),(8,.int .i64 i)]++ex,H,L⟩
theorem oh {H0:List Ob} {all:List Nat} (hK:∀ i,K i→i<H.length) (hKh:¬ K hid) (hh:Hsh K H hid all) (xa:∀ y∈all,y<256) (hp:PV K H0 pv xs) (hP:HParts K H0 xs ps) (hF:∀ i,K i→H[i]?=H0[i]?) (hL:∀ i∈L,¬ K i) (hi:i<xs.length) (hn:xs.length<2^50) (hb:all.length+(ps.getD i []).length<2^50) :
  ∃ H' L',Q2 T b0 MX (wrI hid pv xs.length i H L [])=some (.normal,wrI hid pv xs.length ((i+1:Nat):Int) H' L' [])∧Hsh K H' hid (all++ps.getD i [])∧(∀ i,K i→H'[i]?=H[i]?)∧H.length≤H'.length∧∀ i∈L',¬ K i:=by
 obtain ⟨x,hx⟩:∃ x,xs[i]?=some x:=⟨_,Qf hi⟩
 obtain ⟨p,hpi,hpp⟩:=hP.get hx
 have hgd:ps.getD i []=p:=by rw [QA,hpi]; rfl
 rw [hgd] at hb ⊢
 obtain ⟨H',M,hf,f1,f2,f3,f4⟩:=qV hK hKh hh xa hpp.lt hpp.shape (fun o=>hpp.reads _ (fun j hj=>by
  rw [Qu (fun e=>hKh (by rw [e]; exact hj))]; exact hF j hj)) hb hpp.le
 rcases hp with ⟨-,h0⟩ | ⟨pid,off,cap,o,rfl,kp,ho,hlv,hc⟩
 ·rw [h0] at hi; exact absurd hi (Nat.not_lt_zero _)
 ·have ho':H[pid]?=some o:=(hF pid kp).trans ho
  have hcx:o.cells[off+i]?=some x:=(hc i hi).trans hx
  have e1:((i:Int)<(xs.length:Int))=True:=eq_true (by omega)
  have w3:IntKind.i64.wrap ((i:Int)+1)=((i+1:Nat):Int):=Zx (b:=1) (by omega)
  refine ⟨H',Q1 b0 L M,?_,f1,f2,f3,fun j hj => ?_⟩
  ·simp only [fdF] at hf
   generalize i+1=i1 at *
   simp only [wrI,MX,Qs,quiet,cW,↓pW,reduceCtorEq,seval,-Qb,e1,ho',hlv,hcx,w3,hf]
  ·rcases J2 hj with h | h
   ·exact hL j h
   ·exact f4 j h
theorem Lh {all:List Nat} (hK:∀ i,K i→i<H.length) (hKh:¬ K hid) (hh:Hsh K H hid all) (xa:∀ y∈all,y<256) (hp:PV K H pv xs) (hP:HParts K H xs ps) (hn:xs.length<2^50) (hb:(all++ps.flatten).length<2^50) :
  ∃ H' M,Z5 T 149 [.pointer (some ⟨hid,0,none⟩),pv] H=some (.tuple #[],H',M)∧Hsh K H' hid (all++ps.flatten)∧(∀ i,K i→H'[i]?=H[i]?)∧H.length≤H'.length∧∀ i∈M,¬ K i:=by
 obtain ⟨st,hl,H',L',rfl,f1,f2,f3,f4⟩:=Zi (T:=T) (base:=H.length) (id:=0) (body:=MX)
  (fun i st=>∃ H' L',st=wrI hid pv xs.length (i:Nat) H' L' []∧Hsh K H' hid (all++(ps.take i).flatten)∧(∀ i,K i→H'[i]?=H[i]?)∧H.length≤H'.length∧∀ i∈L',¬ K i)
  (Q:=fun st=>∃ H' L',st=wrI hid pv xs.length (xs.length:Nat) H' L' [(9,.bool false)]∧Hsh K H' hid (all++ps.flatten)∧(∀ i,K i→H'[i]?=H[i]?)∧H.length≤H'.length∧∀ i∈L',¬ K i)
  xs.length (s:=wrI hid pv xs.length 0 H [] []) ⟨H,[],rfl,by simpa using hh,fun _ _=>rfl,Qr _,by simp⟩
  (fun i st hi hs=>by
   obtain ⟨H1,L1,rfl,g1,g2,g3,g4⟩:=hs
   have hpl:=hP.len
   have hsp:ps.flatten=(ps.take i).flatten++((ps.getD i [])++(ps.drop (i+1)).flatten):=by
    obtain ⟨p,hpi⟩:∃ p,ps[i]?=some p:=⟨_,Qf (by omega)⟩
    have hgd:ps.getD i []=p:=by rw [QA,hpi]; rfl
    rw [hgd,←QO,←ZY]
    congr 1
    have h1:=Qg.1 hpi
    conv=>lhs; rw [←Z3 i ps,JR h1.1,h1.2]
   have htk:(ps.take (i+1)).flatten=(ps.take i).flatten++ps.getD i []:=by
    obtain ⟨p,hpi⟩:∃ p,ps[i]?=some p:=⟨_,Qf (by omega)⟩
    have hgd:ps.getD i []=p:=by rw [QA,hpi]; rfl
    rw [hgd,Zw,hpi,ZY]; simp
   have hlt:=hP.lt
   obtain ⟨H2,L2,j1,j2,j3,j4,j5⟩:=oh (b0:=H.length) (fun j hj=>QM (hK j hj) g3) hKh g1 (fun y hy=>by
    rcases QE.1 hy with h | h
    ·exact xa y h
    ·exact hlt y (by rw [hsp]; exact T4 _ h)) hp hP g2 g4 hi hn (by
     rw [hsp] at hb
     simp only [Qk] at hb ⊢
     omega)
   refine ⟨_,j1,H2,L2,rfl,by rw [htk,←Qt]; exact j2,fun j hj=>(j3 j hj).trans (g2 j hj),Xh g3 j4,j5⟩)
  (fun st hs=>by
   obtain ⟨H1,L1,rfl,g1,g2,g3,g4⟩:=hs
   rw [Qm (by rw [hP.len]; exact Qr _)] at g1
   refine ⟨_,?_,H1,L1,rfl,g1,g2,g3,g4⟩
   have e1:((xs.length:Int)<(xs.length:Int))=False:=eq_false (by omega)
   simp only [wrI,MX,Qs,quiet,cK,↓pQ,reduceCtorEq,seval,-Qb,cL,cJ,e1])
 refine ⟨H',L',?_,f1,f2,f3,f4⟩
 simp only [wrI,Qn,Ql,QB] at hl
 have hlen:vLen false pv=some (.int .i64 xs.length):=by
  rcases hp with ⟨rfl,h0⟩ | ⟨pid,off,cap,o,rfl,-⟩
  ·rw [h0]; rfl
  ·rfl
 rw [Zb (fn:=wK) rfl]
 simp only [wK,Qs,quiet,cW,↓pW,reduceCtorEq,seval,-Qb,hlen,hl]
 rfl
theorem kJ:fillL (Value.slice none 0 0::Qa 9 (.int .u64 0)) [(2,8,.agg (ns .u64 YR).toArray)]=some (hcl (.slice none 0 0) 0 YR):=rfl
theorem uz (H:List Ob):Z5 T 148 [] H=some (.pointer (some ⟨H.length,0,none⟩),H++[hob (.slice none 0 0) 0 YR],[]):=by
 have hf:fillL (Qa 8 (Value.int .u64 0)) [(0,1,.int .u64 7640891576956012808),(1,1,.int .u64 13503953896175478587),(2,1,.int .u64 4354685564936845355),(3,1,.int .u64 11912009170470909681),(4,1,.int .u64 5840696475078001361),(5,1,.int .u64 11170449401992604703),(6,1,.int .u64 2270897969802886507),(7,1,.int .u64 6620516959819538809)]=some (ns .u64 YR):=rfl
 have hf2:∀ a,fillL [Value.slice none 0 0,.int .u64 0,.int .u64 0,.int .u64 0,.int .u64 0,.int .u64 0,.int .u64 0,.int .u64 0,.int .u64 0,.int .u64 0] [(2,8,.agg (ns .u64 a).toArray)]=fillL (Value.slice none 0 0::Qa 9 (.int .u64 0)) [(2,8,.agg (ns .u64 a).toArray)]:=fun _=>rfl
 have hf3:=kJ
 simp only [hob]
 generalize YR=S at *
 generalize hcl (.slice none 0 0) 0 S=C at *
 rw [Zb (fn:=wL) rfl]
 simp only [wL,Qs,quiet,cW,↓pW,reduceCtorEq,seval,-Qb,hf,hf2,hf3]
theorem qm (h:H[hid]?=some (hob (.slice none 0 0) 0 YR)):Hsh K H hid []:=⟨_,h,.nil⟩
def paI (hid:Nat) (s:Value) (Hc:List Ob) (ex:Env):St:=⟨[(0,.pointer (some ⟨hid,0,none⟩)),(1,.int .i64 128),(2,.int .i64 16),(7,s)]++ex,Hc,[]⟩
def pbI (hid:Nat) (s:Value) (i:Int) (Hc:List Ob) (ex:Env):St:=⟨[(0,.pointer (some ⟨hid,0,none⟩)),(7,s),(8,.int .i64 i)]++ex,Hc,[]⟩
theorem Fj (n i:Nat):((n/256^(i+1)*8%256)|||(n/256^i%256/32))=8*n/256^(i+1)%256:=by
 have h1:n/256^(i+1)=n/256^i/256:=by rw [Ze,QT]
 have h2:8*n/256^(i+1)=n/256^i/32:=by
  rw [QT,Ze,show 256^i*256=8*(256^i*32) by omega,Nat.mul_div_mul_left _ _ (by decide)]
 rw [h1,h2]
 generalize n/256^i=m
 have h3:m/256*8%256=(m/256%32)*2^3:=by omega
 rw [h3,YD (by omega)]
 omega
theorem A6 (n:Nat):(n+(1+Vg n)+16)%128=0:=by unfold Vg; omega
theorem Td (n z:Nat) (h:z<Vg n):(n+(1+z)+16)%128≠0:=by unfold Vg at h; omega
theorem Me (n:Nat):Vg n<128:=by unfold Vg; omega
theorem pO (hh:H[hid]?=some (hob rv n st)) (hn:n<2^50) :
  ∃ s l,Q2 T H.length (.block 0 (.loop WB)) (paI hid (.slice (some ⟨H.length,0,none⟩) 1 1) (H++[⟨[.int .u8 128],true,true,true,1⟩]) [])=some (.normal,paI hid s (H++l) [(23,.bool false)])∧Grown .u8 H.length (H++l) s (128::Qa (Vg n) 0):=by
 have hlt:hid<H.length:=(Qg.1 hh).1
 have f0:fillL [Value.int .u8 0] [(0,1,.int .u8 0)]=some [.int .u8 0]:=rfl
 have c1:(hcl rv n st)[1]?=some (.int .u64 n):=rfl
 have hz:=Me n
 obtain ⟨x,hb,s,Hc,rfl,hg,hL,hF⟩:=Zi (T:=T) (base:=H.length) (id:=0) (body:=WB)
  (fun j x=>∃ s Hc,x=paI hid s Hc []∧Grown .u8 H.length Hc s (128::Qa j 0)∧H.length≤Hc.length∧∀ i,i<H.length→Hc[i]?=H[i]?)
  (Q:=fun x=>∃ s Hc,x=paI hid s Hc [(23,.bool false)]∧Grown .u8 H.length Hc s (128::Qa (Vg n) 0)∧H.length≤Hc.length∧∀ i,i<H.length→Hc[i]?=H[i]?)
  (Vg n) (s:=paI hid (.slice (some ⟨H.length,0,none⟩) 1 1) (H++[⟨[.int .u8 128],true,true,true,1⟩]) []) ⟨_,_,rfl,Grown.new (k := .u8) (id:=H.length) (bs:=[128]) (Qr _) (by decide) (by simp [Ob.fresh,ns]),by simp,fun i hi=>Qc hi⟩
  (fun j x hj hx=>by
   obtain ⟨s,Hc,rfl,hg,hL,hF⟩:=hx
   have hl:=hg.len
   have e1:(128::Qa j 0).length=1+j:=by simp; omega
   rw [e1] at hl
   obtain ⟨s',H',M,h1,h2,h3,h4,h5⟩:=Wi (x:=0) (bytes:=1) hg hL (by rw [e1]; omega) (by decide)
   have hm:Q1 H.length [] M=[]:=QD h3
   have hget:Hc[hid]?=some ⟨hcl rv n st,true,true,true,1⟩:=(hF hid hlt).trans hh
   have w1:IntKind.i64.wrap (n:Int)=(n:Int):=wn (by omega)
   have w2:IntKind.i64.wrap ((n:Int)+((1+j:Nat):Int))=((n+(1+j):Nat):Int):=Zx (by omega)
   have w3:IntKind.i64.wrap (((n+(1+j):Nat):Int)+16)=((n+(1+j)+16:Nat):Int):=Zx (b:=16) (by omega)
   have w4:((n+(1+j)+16:Nat):Int).tmod 128=(((n+(1+j)+16)%128:Nat):Int):=rfl
   have w5:((((n+(1+j)+16)%128:Nat):Int) != 0)=true:=bne_iff_ne.2 (by have:=Td n j hj; omega)
   refine ⟨paI hid s' H' [],?_,s',H',rfl,by rw [List.replicate_succ',←Qn]; exact h2,h4,fun i hi=>by rw [h5 i hi,hF i hi]⟩
   simp only [QB] at h1
   generalize (n+(1+j)+16)%128=r at *
   generalize n+(1+j)+16=r2 at *
   generalize n+(1+j)=r3 at *
   simp only [paI,WB,Qs,quiet,cW,↓pW,reduceCtorEq,seval,-Qb,hget,c1,hl,w1,w2,w3,w4,w5,f0,h1,hm])
  (fun x hx=>by
   obtain ⟨s,Hc,rfl,hg,hL,hF⟩:=hx
   have hl:=hg.len
   have e1:(128::Qa (Vg n) 0).length=1+Vg n:=by simp; omega
   rw [e1] at hl
   have hget:Hc[hid]?=some ⟨hcl rv n st,true,true,true,1⟩:=(hF hid hlt).trans hh
   have w1:IntKind.i64.wrap (n:Int)=(n:Int):=wn (by omega)
   have w2:IntKind.i64.wrap ((n:Int)+((1+Vg n:Nat):Int))=((n+(1+Vg n):Nat):Int):=Zx (by omega)
   have w3:IntKind.i64.wrap (((n+(1+Vg n):Nat):Int)+16)=((n+(1+Vg n)+16:Nat):Int):=Zx (b:=16) (by omega)
   have w4:((n+(1+Vg n)+16:Nat):Int).tmod 128=0:=by
    have:((n+(1+Vg n)+16:Nat):Int).tmod 128=(((n+(1+Vg n)+16)%128:Nat):Int):=rfl
    rw [this,A6]; rfl
   refine ⟨_,?_,s,Hc,rfl,hg,hL,hF⟩
   generalize n+(1+Vg n)+16=r2 at *
   generalize n+(1+Vg n)=r3 at *
   simp only [paI,WB,Qs,quiet,cW,↓pW,reduceCtorEq,seval,-Qb,hget,c1,hl,w1,w2,w3,w4])
 obtain ⟨l,rfl⟩:=XJ hL hF
 exact ⟨s,l,hb,hg⟩
def Ua (n i:Nat):Nat:=8*n/256^(15-i)%256
theorem pN {l0:List Ob} {s0:Value} {bs:List Nat} (hh:H[hid]?=some (hob rv n st)) (hn:n<2^50) (hg0:Grown .u8 H.length (H++l0) s0 bs) (hbs:bs.length≤200) :
  ∃ s l,Q2 T H.length (.block 2 (.loop VP)) (pbI hid s0 15 (H++l0) [])=some (.normal,pbI hid s (-1) (H++l) [(30,.bool false)])∧Grown .u8 H.length (H++l) s (bs++(Z9 16).map (Ua n)):=by
 have hlt:hid<H.length:=(Qg.1 hh).1
 have c1:(hcl rv n st)[1]?=some (.int .u64 n):=rfl
 obtain ⟨x,hb,s,Hc,rfl,hg,hL,hF⟩:=Zi (T:=T) (base:=H.length) (id:=2) (body:=VP)
  (fun j x=>∃ s Hc,x=pbI hid s ((15:Int)-j) Hc []∧Grown .u8 H.length Hc s (bs++(Z9 j).map (Ua n))∧H.length≤Hc.length∧∀ i,i<H.length→Hc[i]?=H[i]?)
  (Q:=fun x=>∃ s Hc,x=pbI hid s (-1) Hc [(30,.bool false)]∧Grown .u8 H.length Hc s (bs++(Z9 16).map (Ua n))∧H.length≤Hc.length∧∀ i,i<H.length→Hc[i]?=H[i]?)
  16 (s:=pbI hid s0 15 (H++l0) []) ⟨_,_,rfl,by simpa using hg0,by simp,fun i hi=>Qc hi⟩
  (fun j x hj hx=>by
   obtain ⟨s,Hc,rfl,hg,hL,hF⟩:=hx
   obtain ⟨i,hi⟩:∃ i,i=15-j:=⟨_,rfl⟩
   rw [show (15:Int)-j=(i:Int) by omega,show (15:Int)-((j+1:Nat):Int)=(i:Int)-1 by omega]
   have hl:=hg.len
   have hpd:Ua n j=8*n/256^i%256:=by rw [hi]; rfl
   obtain ⟨s',H',M,h1,h2,h3,h4,h5⟩:=Wi (x:=Ua n j) (bytes:=1) hg hL (by rw [Qk,List.length_map,List.length_range]; omega) (by decide)
   have hm:Q1 H.length [] M=[]:=QD h3
   have hget:Hc[hid]?=some ⟨hcl rv n st,true,true,true,1⟩:=(hF hid hlt).trans hh
   have fx:∀ a:Int,fillL [Value.int .u8 0] [(0,1,.int .u8 a)]=some [.int .u8 a]:=fun _=>rfl
   have w0:IntKind.i64.wrap ((i:Int)-1)=(i:Int)-1:=Zf (by omega) (by omega)
   have e0:((0:Int)≤(i:Int))=True:=eq_true (by omega)
   refine ⟨pbI hid s' ((i:Int)-1) H' [],?_,s',H',rfl,by rw [List.range_succ,KU,←Qt]; exact h2,h4,fun k hk=>by rw [h5 k hk,hF k hk]⟩
   rw [hpd] at h1
   by_cases h9:i<9
   ·have e9:((i:Int)<9)=True:=eq_true (by omega)
    have w1:IntKind.i64.wrap (8*(i:Int))=((8*i:Nat):Int):=UE (a:=8) (by omega)
    have w2:(((8*i:Nat):Int)<0)=False:=eq_false (by omega)
    have w3:(n:Int).fdiv (2^min (8*i) IntKind.u64.bits)=((n/256^i:Nat):Int):=by
     rw [Dn (by omega),show (256:Nat)=2^8 from rfl,←Ja]
    have hle:n/256^i≤n:=Jq _ _
    have w4:IntKind.u64.wrap (((n/256^i:Nat):Int)*2^min 3 IntKind.u64.bits)=((n/256^i*8:Nat):Int):=Uu (b:=8) (by omega)
    have w5:IntKind.u8.wrap ((n/256^i*8:Nat):Int)=((n/256^i*8%256:Nat):Int):=GA _
    by_cases hz:i=0
    ·subst hz
     have e8:n/256^0*8%256=8*n/256^0%256:=by rw [ZF,Jt,Jt]; omega
     rw [e8] at w5
     have ew:(8*0:Nat)=0:=rfl
     simp only [ew,QB] at w1 w2 w3
     generalize 8*n/256^0%256=d at *
     generalize n/256^0*8=v1 at *
     generalize n/256^0=v2 at *
     simp only [pbI,VP,Qs,quiet,cW,↓pW,reduceCtorEq,seval,-Qb,hget,c1,w0,e0,e9,w1,w2,w3,w4,w5,fx,h1,hm]
    ·obtain ⟨k,rfl⟩:∃ k,i=k+1:=⟨i-1,by omega⟩
     have hd:=Fj n k
     have ep:((0:Int)<((k+1:Nat):Int))=True:=eq_true (by omega)
     have v1:IntKind.i64.wrap (((8*(k+1):Nat):Int)-8)=((8*k:Nat):Int):=by rw [Zf (by omega) (by omega)]; omega
     have v2:(((8*k:Nat):Int)<0)=False:=eq_false (by omega)
     have v3:(n:Int).fdiv (2^min (8*k) IntKind.u64.bits)=((n/256^k:Nat):Int):=by
      rw [Dn (by omega),show (256:Nat)=2^8 from rfl,←Ja]
     have v4:Zp .and .u64 ((n/256^k:Nat):Int) 255=((n/256^k%256:Nat):Int):=UP .u64 rfl 8 _ (by decide)
     have v5:((n/256^k%256:Nat):Int).fdiv (2^min 5 IntKind.u64.bits)=((n/256^k%256/32:Nat):Int):=Dn (r:=5) (by decide)
     have v6:IntKind.u8.wrap ((n/256^k%256/32:Nat):Int)=((n/256^k%256/32:Nat):Int):=by rw [GA,Qv (by omega)]
     have v7:Zp .or .u8 ((n/256^(k+1)*8%256:Nat):Int) ((n/256^k%256/32:Nat):Int)=((8*n/256^(k+1)%256:Nat):Int):=by
      rw [XY rfl (show _<2^8 from Q5 _ (by decide)) (show n/256^k%256/32<2^8 by omega),hd]
     generalize 8*n/256^(k+1)%256=d at *
     generalize n/256^(k+1)*8%256=u1 at *
     generalize n/256^(k+1)*8=u2 at *
     generalize n/256^(k+1)=u3 at *
     generalize n/256^k%256/32=u4 at *
     generalize n/256^k%256=u5 at *
     generalize n/256^k=u6 at *
     generalize 8*(k+1)=u7 at *
     generalize 8*k=u8' at *
     generalize k+1=k1 at *
     simp only [pbI,VP,Qs,quiet,cW,↓pW,reduceCtorEq,seval,-Qb,hget,c1,w0,e0,e9,ep,w1,w2,w3,w4,w5,v1,v2,v3,v4,v5,v6,v7,fx,h1,hm]
   ·have e9:((i:Int)<9)=False:=eq_false (by omega)
    have ep:((0:Int)<(i:Int))=True:=eq_true (by omega)
    have hz:8*n/256^i%256=0:=by
     have:(256:Nat)^9≤256^i:=Zk (by decide) (by omega)
     rw [JF (QM (by omega) this)]
    rw [hz] at h1
    simp only [QB] at h1
    simp only [pbI,VP,Qs,quiet,cW,↓pW,reduceCtorEq,seval,-Qb,hget,c1,w0,e0,e9,ep,fx,h1,hm])
  (fun x hx=>by
   obtain ⟨s,Hc,rfl,hg,hL,hF⟩:=hx
   have e:((0:Int) ≤ -1)=False:=by decide
   refine ⟨_,?_,s,Hc,rfl,hg,hL,hF⟩
   rw [show (15:Int)-((16:Nat):Int) = -1 by omega]
   simp only [pbI,VP,Qs,quiet,cK,↓pQ,reduceCtorEq,seval,-Qb,cL,e])
 obtain ⟨l,rfl⟩:=XJ hL hF
 exact ⟨s,l,hb,hg⟩
theorem aB (n:Nat):UN n=(128::Qa (Vg n) 0)++(Z9 16).map (Ua n):=by unfold UN Ua; rw [Qn]
theorem PC (hh:H[hid]?=some (hob rv n st)) (hn:n<2^50) :
  ∃ s l,Z5 T 139 [.pointer (some ⟨hid,0,none⟩),.int .i64 128,.int .i64 16] H=some (s,H++l,[])∧Grown .u8 H.length (H++l) s (UN n):=by
 obtain ⟨s1,l1,h1,g1⟩:=pO hh hn
 have hz:=Me n
 obtain ⟨s2,l2,h2,g2⟩:=pN hh hn g1 (by simp; omega)
 rw [←aB] at g2
 refine ⟨s2,l2,?_,g2⟩
 have f128:fillL [Value.int .u8 0] [(0,1,.int .u8 128)]=some [.int .u8 128]:=rfl
 have w1:IntKind.i64.wrap 15=15:=by decide
 simp only [paI,Qn,Ql] at h1
 simp only [pbI,Qn,Ql] at h2
 rw [Zb (fn:=nU) rfl]
 simp only [nU,Qs,quiet,cW,↓pW,reduceCtorEq,seval,-Qb,f128,h1,w1,h2]
end Go.Ev.YtpgphpkjlpkcbaaGreat

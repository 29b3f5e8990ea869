/- What the law leans on, part 2. -/
import Derived.Test.YtomfgcgnepfmjaaGreatCo1
import Derived.SizedLaws
import Derived.ChangeArms
import Derived.Test.YtomfgcgnepfmjaaGreatChecked
import Derived.KernelRfl
import Derived.Laws.Externs
import Derived.Deep.Matrix
import Derived.OpenShut
set_option linter.unusedSimpArgs false
set_option linter.unusedVariables false
set_option linter.defProp false
open And renaming intro → Qi
open Array renaming getElem?_eq_some_iff → Xf, getElem?_toList → Ji
open Bool renaming and_eq_true → ZS, and_self → Tm, false_and → Ke, false_eq_true → Zh, not_false → Ya, not_true → ef, true_and → Tl
open Int renaming fdiv → Um, fdiv_eq_ediv_of_nonneg → J5, le_of_lt → kM, le_refl → Wb, natCast_nonneg → Ul, pow_pos → pC, reduceAdd → BF, reduceEq → QZ, reduceGE → HO, reduceGT → HN, reduceLE → QV, reduceLT → QU, reduceMul → BE, reduceNeg → BD, reducePow → BC, reduceSub → B9, reduceTDiv → Uk, reduceTMod → Uj, reduceToNat → QG, toNat_natCast → X5
open List renaming all_cons → KY, append_assoc → Qv, append_nil → Q9, cons_append → Qw, drop_drop → X4, drop_zero → JT, eq_nil_of_length_eq_zero → Za, ext_getElem? → ZK, getD_eq_getElem?_getD → Qx, getElem?_append_left → Qa, getElem?_append_right → Qd, getElem?_cons_succ → JJ, getElem?_cons_zero → Js, getElem?_drop → Zt, getElem?_eq_getElem → Qh, getElem?_eq_none → QI, getElem?_eq_some_iff → Qf, getElem?_map → Zq, getElem?_set_ne → Qm, getElem?_set_self → Qt, getElem?_take → QS, getElem_mem → Xj, length_append → Qg, length_cons → Zn, length_map → JF, length_nil → Z3, length_range → Vg, length_set → Qo, length_take → Q7, map_cons → Jg, map_map → Vy, mem_append → QA, mem_iff_getElem? → D5, mem_map → Jc, mem_of_getElem? → Qz, mem_of_mem_take → QP, nil_append → Qr, range → QX, replicate → Qc, replicate_succ → KB, set_append_right → Q3, set_cons_succ → VJ, set_cons_zero → VI, take_add_one → ZG, take_length → KC, take_of_length_le → Qu, take_zero → Xc
open List.cons renaming injEq → HQ
open Nat renaming add_assoc → Zi, add_mod → pA, add_mul → Zy, add_mul_div_right → Y0, add_zero → ZH, div_add_mod → ZP, div_div_eq_div_mul → Jm, div_eq_of_lt → Xw, div_le_self → JQ, div_lt_iff_lt_mul → D4, div_one → XL, eq_zero_or_pos → Zv, le_of_lt → Xi, le_refl → Qk, lt_irrefl → YP, lt_of_le_of_lt → J4, lt_of_lt_of_le → QJ, lt_or_ge → Zm, min_eq_left → Ze, mod_eq_of_lt → QF, mod_lt → Q4, mod_mod_of_dvd → VH, mod_mul_right_div_self → Uh, mul_add → By, mul_assoc → Jl, mul_comm → Z2, mul_le_mul → JH, mul_le_mul_left → V0, mul_le_mul_right → JM, mul_left_comm → Jy, mul_mod → YY, mul_one → XK, not_lt_zero → Xr, one_mul → X9, pow_add → JD, pow_add_one' → Ie, pow_le_pow_right → Zp, pow_mul → Jj, pow_pos → JX, pow_succ → Z4, pow_zero → Xh, reduceAdd → QL, reduceDiv → B8, reduceEqDiff → QH, reduceLT → QT, reduceLeDiff → Y3, reduceMod → B7, reduceMul → QN, reducePow → B6, reduceSub → QM, sub_self → Qq, sub_zero → HK, two_pow_add_eq_or_of_lt → Ve, zero_add → QB, zero_mul → Ks
open Option renaming bind_eq_some_iff → Qe, bind_some → Qj, getD_some → JW, isNone_none → Xa, isSome_none → Kc, map_eq_some_iff → Q5
open Option.some renaming injEq → Ql
namespace Go.Ev
variable {B x v i n id:Nat} {l:List Nat} {H H':List Ob}
def num (B:Nat):List Nat→Nat
 | []=>0
 | x::r=>x+B*num B r
def dig (B n v:Nat):List Nat:=(QX n).map fun i=>v/B^i%B
theorem Zx (B n v:Nat):(dig B n v).length=n:=by simp [dig]
theorem Vx (h:i<n):(dig B n v)[i]?=some (v/B^i%B):=by simp [dig,h]
theorem KV (hB:0<B) (h:x∈dig B n v):x<B:=by
 simp only [dig,Jc] at h
 obtain ⟨i,_,rfl⟩:=h
 exact Q4 _ hB
theorem Bf {n:Nat} (hl:l.length=n) (h:∀ i,i<n→l[i]?=some (v/B^i%B)):l=dig B n v:=by
 apply ZK
 intro i
 by_cases hi:i<n
 ·rw [h i hi,Vx hi]
 ·rw [QI (by omega),QI (by rw [Zx]; omega)]
theorem num_lt {B:Nat}:∀ {l:List Nat},(∀ x∈l,x<B)→num B l<B^l.length
 | [],_=>by simp [num]
 | x::r,h=>by
  have h1:x<B:=h x (by simp)
  have h2:=num_lt (l:=r) fun y hy=>h y (by simp [hy])
  simp only [num,Zn,Z4]
  have h3:B*(num B r+1)≤B*B^r.length:=V0 _ h2
  rw [By,XK] at h3
  rw [Z2 (B^r.length) B]
  omega
theorem WG (B:Nat):∀ (a b:List Nat),num B (a++b)=num B a+B^a.length*num B b
 | [],b=>by simp [num]
 | x::r,b=>by
  simp only [num,Qw,WG B r b,Zn,Z4,By]
  rw [←Jl,Z2 B (B^r.length)]
  omega
theorem XP {j:Nat} (h:l[j]?=some x):num B (l.take (j+1))=num B (l.take j)+x*B^j:=by
 have hj:j<l.length:=(Qf.1 h).1
 rw [ZG,h,WG]
 simp [num,Ze (Xi hj),Z2]
theorem VS {B:Nat} (hB:0<B):∀ {l:List Nat} {i x:Nat},(∀ x∈l,x<B)→l[i]?=some x→num B l/B^i%B=x
 | [],i,x,_,h=>by simp at h
 | y::r,0,x,hl,h=>by
  simp at h; subst h
  have:=hl y (by simp)
  simp only [num,Xh,XL,Nat.add_mul_mod_self_left]
  exact QF this
 | y::r,i+1,x,hl,h=>by
  have:=hl y (by simp)
  simp only [num,Z4,Z2 (B^i) B]
  rw [←Jm,Nat.add_mul_div_left _ _ hB,Xw this,QB]
  exact VS hB (fun z hz=>hl z (by simp [hz])) (by simpa using h)
theorem WQ (hB:0<B) (h:∀ x∈l,x<B):dig B l.length (num B l)=l:=by
 symm
 exact Bf rfl fun i hi=>by rw [VS hB h (Qh hi)]; exact Qh hi
theorem dp (B n v:Nat):dig B (n+1) v=v%B::dig B n (v/B):=by
 simp only [dig,List.range_succ_eq_map,Jg,Vy,Xh,XL]
 congr 1
 apply List.map_congr_left
 intro i _
 simp only [Function.comp,Nat.succ_eq_add_one,Z4,Jm,Z2 (B^i) B]
theorem XV {B:Nat} (hB:0<B):∀ (n v:Nat),num B (dig B n v)=v%B^n
 | 0,v=>by simp [dig,num,Nat.mod_one]
 | n+1,v=>by
  rw [dp,num,XV hB n,Z4,Z2 (B^n) B,Nat.mod_mul]
theorem YA {B:Nat}:∀ {l:List Nat} {i x:Nat} (y:Nat),l[i]?=some x→num B (l.set i y)+x*B^i=num B l+y*B^i
 | [],i,x,y,h=>by simp at h
 | z::r,0,x,y,h=>by
  simp at h; subst h
  simp only [VI,num,Xh]
  omega
 | z::r,i+1,x,y,h=>by
  have:=YA (B:=B) (l:=r) (i:=i) y (by simpa using h)
  simp only [VJ,num,Z4]
  have e:B*(num B (r.set i y)+x*B^i)=B*(num B r+y*B^i):=by rw [this]
  rw [By,By] at e
  rw [show x*(B^i*B)=B*(x*B^i) by simp only [Jl,Jy,Z2],show y*(B^i*B)=B*(y*B^i) by simp only [Jl,Jy,Z2]]
  omega
theorem WA {y:Nat} (h:∀ x∈l,x<B) (hy:y<B):∀ x∈l.set i y,x<B:=by
 intro x hx
 rcases List.mem_or_eq_of_mem_set hx with h1 | h1
 ·exact h x h1
 ·rw [h1]; exact hy
theorem dq {m j N:Nat} (hj:j/4<m) (hN:N<256^j) (hx:x<256) :
  (dig 4294967296 m N).set (j/4) ((dig 4294967296 m N).getD (j/4) 0|||x*2^(8*(j%4)))=dig 4294967296 m (N+x*256^j):=by
 have e256:(256:Nat)=2^8:=rfl
 have eW:(4294967296:Nat)=2^32:=rfl
 have hpow:(256:Nat)^j=2^(8*(j%4))*4294967296^(j/4):=by
  rw [e256,eW,←Jj,←Jj,←JD]
  congr 1; omega
 have hWq:0<4294967296^(j/4):=JX (by decide)
 have hdiv:N/4294967296^(j/4)<2^(8*(j%4)):=by
  rw [D4 hWq,←hpow]; exact hN
 have h24:(2:Nat)^(8*(j%4))≤2^24:=Zp (by decide) (by omega)
 have hx24:(x+1)*2^(8*(j%4))≤256*2^24:=JH (by omega) h24
 rw [Zy,X9] at hx24
 have hsum:N/4294967296^(j/4)+x*2^(8*(j%4))<4294967296:=by show _<4294967296; omega
 apply Bf (by rw [Qo,Zx])
 intro i hi
 by_cases hq:i=j/4
 ·subst hq
  rw [Qt (by rw [Zx]; exact hi),Qx,Vx hi]
  rw [hpow,←Jl,Y0 _ _ hWq]
  simp only [JW]
  rw [QF (a:=N/_) (by omega),QF hsum,Nat.add_comm,Z2 x,Ve hdiv,Nat.or_comm]
 ·rw [Qm (Ne.symm hq),Vx hi]
  congr 1
  by_cases hlt:i<j/4
  ·have:4294967296^(j/4)=4294967296*4294967296^(j/4-i-1)*4294967296^i:=by
    rw [Jl,←JD,←Ie]; congr 1; omega
   rw [hpow,this]
   rw [show x*(2^(8*(j%4))*(4294967296*4294967296^(j/4-i-1)*4294967296^i))=(x*2^(8*(j%4))*4294967296^(j/4-i-1)*4294967296)*4294967296^i by simp only [Jl,Jy,Z2]]
   rw [Y0 _ _ (JX (by decide)),Nat.add_mul_mod_self_right]
  ·have hle:4294967296^(j/4+1)≤4294967296^i:=Zp (by decide) (by omega)
   have h1:N+x*256^j<4294967296^i:=by
    refine QJ ?_ hle
    have:(256:Nat)^(j+1)≤4294967296^(j/4+1):=by
     rw [e256,eW,←Jj,←Jj]; exact Zp (by decide) (by omega)
    refine QJ ?_ this
    rw [Z4]
    have:x*256^j≤255*256^j:=JM _ (by omega)
    omega
   rw [Xw h1,Xw (by omega)]
def ns (k:IntKind) (l:List Nat):List Value:=l.map fun n=>.int k (n:Nat)
theorem QQ (k:IntKind) (l:List Nat):(ns k l).length=l.length:=by simp [ns]
theorem XC (k:IntKind) (l:List Nat) (i n:Nat):(ns k l).set i (.int k (n:Nat))=ns k (l.set i n):=by simp [ns,List.map_set]
theorem Jo {k:IntKind} (h:l[i]?=some x):(ns k l)[i]?=some (.int k (x:Nat)):=by simp [ns,h]
theorem UZ (k:IntKind) (a b:List Nat):ns k (a++b)=ns k a++ns k b:=by simp [ns]
theorem Ad {o:Ob} (h:liveAt H id=some o):id<H.length:=by
 simp only [liveAt,Qe] at h
 obtain ⟨o',h1,_⟩:=h
 exact (Qf.1 h1).1
theorem GC (h:H'[id]?=H[id]?):liveAt H' id=liveAt H id:=by simp only [liveAt,h]
inductive Sl (k:IntKind) (H:List Ob):Value→List Nat→Prop
 | nil:Sl k H (.slice none 0 0) []
 | mk {id off c:Nat} {o:Ob} {l:List Nat}:liveAt H id=some o→off+l.length≤o.cells.length→(∀ (i x:Nat),l[i]?=some x→o.cells[off+i]?=some (.int k (x:Nat)))→Sl k H (.slice (some ⟨id,off,none⟩) l.length c) l
theorem Sl.row {k:IntKind} {H:List Ob} {v:Value} {l:List Nat} (h:Sl k H v l) (hl:0<l.length):∃ id off c,v=.slice (some ⟨id,off,none⟩) l.length c∧Row k H id off l:=by
 cases h with
 | nil=>simp at hl
 | mk h1 h2 h3=>exact ⟨_,_,_,rfl,_,h1,h3⟩
theorem Sl.congr {k:IntKind} {H H':List Ob} {v:Value} {l:List Nat} (h:Sl k H v l) (hH:∀ id,id<H.length→H'[id]?=H[id]?):Sl k H' v l:=by
 cases h with
 | nil=>exact .nil
 | mk h1 h2 h3=>exact .mk (by rw [GC (hH _ (Ad h1))]; exact h1) h2 h3
theorem Sl.app {k:IntKind} {H l':List Ob} {v:Value} {l:List Nat} (h:Sl k H v l):Sl k (H++l') v l :=
 h.congr fun id hid=>Qa hid
theorem Sl.lenV {k:IntKind} {H:List Ob} {v:Value} {l:List Nat} (h:Sl k H v l):lenV v=some l.length:=by
 cases h<;>rfl
theorem Sl.elems {k:IntKind} {H:List Ob} {v:Value} {l:List Nat} (h:Sl k H v l):elemsOf H 1 l.length v=some (ns k l):=by
 cases h with
 | nil=>rfl
 | mk h1 h2 h3 =>
  simp only [elemsOf,h1,Qj,Xa,XK,h2,and_self,if_true,Ql]
  apply ZK
  intro i
  rw [QS]
  by_cases hi:i<l.length
  ·rw [if_pos hi,Zt,h3 i _ (Qh hi),Jo (Qh hi)]
  ·rw [if_neg hi,QI (by rw [QQ]; omega)]
inductive Grown (k:IntKind) (B:Nat) (H:List Ob):Value→List Nat→Prop
 | nil:Grown k B H (.slice none 0 0) []
 | own {id:Nat} {bs:List Nat}:B≤id→0<bs.length→H[id]?=some (Ob.grown 1 (ns k bs))→Grown k B H (.slice (some ⟨id,0,none⟩) bs.length bs.length) bs
 | new {id:Nat} {bs:List Nat}:B≤id→0<bs.length→H[id]?=some (Ob.fresh (ns k bs))→Grown k B H (.slice (some ⟨id,0,none⟩) bs.length bs.length) bs
theorem Grown.sl {k:IntKind} {B:Nat} {H:List Ob} {v:Value} {l:List Nat} (h:Grown k B H v l):Sl k H v l:=by
 cases h with
 | nil=>exact .nil
 | own h1 h2 h3=>exact .mk (QW h3 rfl) (by simp [Ob.grown,QQ]) (fun i x hx=>by rw [QB]; exact Jo hx)
 | new h1 h2 h3=>exact .mk (QW h3 rfl) (by simp [Ob.fresh,QQ]) (fun i x hx=>by rw [QB]; exact Jo hx)
theorem Grown.app {k:IntKind} {B:Nat} {H l':List Ob} {v:Value} {l:List Nat} (h:Grown k B H v l):Grown k B (H++l') v l:=by
 cases h with
 | nil=>exact .nil
 | own h1 h2 h3=>exact .own h1 h2 (by rw [Qa (Qf.1 h3).1]; exact h3)
 | new h1 h2 h3=>exact .new h1 h2 (by rw [Qa (Qf.1 h3).1]; exact h3)
theorem Grown.append {k:IntKind} {B bytes:Nat} {H:List Ob} {s x:Value} {bs new:List Nat} (h:Grown k B H s bs) (hB:B≤H.length) (hl:Go.Ev.lenV x=some new.length) (he:elemsOf H 1 new.length x=some (ns k new)) (hb:(bs.length+new.length)*bytes≤2^47) (hb0:0<bytes) :
  ∃ s' H' M,Zu 1 bytes H s x=some (s',H',none,M)∧Grown k B H' s' (bs++new)∧(∀ i∈M,B≤i)∧H.length≤H'.length∧∀ i,i<B→H'[i]?=H[i]? := by
 rcases Zv new.length with hn | hn
 ·have:new=[]:=Za hn
  subst this
  rw [Q9]
  refine ⟨s,H,[],?_,h,by simp,Qk _,fun _ _=>rfl⟩
  rw [Z3] at hl he
  cases h<;>simp only [Zu,hl,he,Qj,if_true]
 ·cases h with
  | nil =>
   refine ⟨.slice (some ⟨H.length,0,none⟩) new.length new.length,H++[Ob.grown 1 (ns k new)],[],?_,?_,by simp,by simp,?_⟩
   ·have h1:¬ new.length=0:=by omega
    have h2:(0+new.length)*bytes≤2^47∧0<bytes∧0<1:=⟨by simpa using hb,hb0,by decide⟩
    simp only [Zu,hl,he,Qj,if_neg h1,h2,and_self,not_true_eq_false,if_false,if_true]
   ·rw [Qr]
    exact .own hB hn (by simp)
   ·intro i hi
    rw [Qa (by omega)]
  | @own id0 _ h1 h2 h3 =>
   refine ⟨.slice (some ⟨H.length,0,none⟩) (bs.length+new.length) (bs.length+new.length),(H.set id0 Ob.dead)++[Ob.grown 1 (ns k (bs++new))],[id0],?_,?_,by simpa using h1,by simp,?_⟩
   ·have h4:liveAt H id0=some (Ob.grown 1 (ns k bs)):=QW h3 rfl
    have h5:¬ new.length=0:=by omega
    have h6:(bs.length+new.length)*bytes≤2^47∧0<bytes∧0<1:=⟨hb,hb0,by decide⟩
    have h7:¬ (bs.length+new.length≤bs.length):=by omega
    have h8:elemsOf H 1 bs.length (.slice (some ⟨id0,0,none⟩) bs.length bs.length)=some (ns k bs):=(Grown.own h1 h2 h3).sl.elems
    simp only [Zu,hl,he,Qj,if_neg h5,h6,and_self,not_true_eq_false,if_false,if_true,h4,h8]
    simp only [Ob.grown,not_true_eq_false,if_false,if_neg h7,Zh,Qk,if_true,←UZ]
   ·have:=Grown.own (k:=k) (B:=B) (H:=(H.set id0 Ob.dead)++[Ob.grown 1 (ns k (bs++new))]) (id:=H.length) (bs:=bs++new) hB (by simp; omega) (by simp)
    rwa [Qg] at this
   ·intro i hi
    rw [Qa (by simp; have:=(Qf.1 h3).1; omega),Qm (by omega)]
  | @new id0 _ h1 h2 h3 =>
   refine ⟨.slice (some ⟨H.length,0,none⟩) (bs.length+new.length) (bs.length+new.length),H++[Ob.grown 1 (ns k (bs++new))],[],?_,?_,by simp,by simp,?_⟩
   ·have h4:liveAt H id0=some (Ob.fresh (ns k bs)):=QW h3 rfl
    have h5:¬ new.length=0:=by omega
    have h6:(bs.length+new.length)*bytes≤2^47∧0<bytes∧0<1:=⟨hb,hb0,by decide⟩
    have h7:¬ (bs.length+new.length≤bs.length):=by omega
    have h8:elemsOf H 1 bs.length (.slice (some ⟨id0,0,none⟩) bs.length bs.length)=some (ns k bs):=(Grown.new h1 h2 h3).sl.elems
    simp only [Zu,hl,he,Qj,if_neg h5,h6,and_self,not_true_eq_false,if_false,if_true,h4,h8]
    simp only [Ob.fresh,not_true_eq_false,if_false,if_neg h7,Zh,Qk,if_true,←UZ]
   ·have:=Grown.own (k:=k) (B:=B) (H:=H++[Ob.grown 1 (ns k (bs++new))]) (id:=H.length) (bs:=bs++new) hB (by simp; omega) (by simp)
    rwa [Qg] at this
   ·intro i hi
    rw [Qa (by omega)]
theorem XG {H:List Ob} (h1:H.length≤H'.length) (h2:∀ i,i<H.length→H'[i]?=H[i]?):∃ l,H'=H++l:=by
 refine ⟨H'.drop H.length,?_⟩
 apply ZK
 intro i
 by_cases hi:i<H.length
 ·rw [Qa hi,h2 i hi]
 ·rw [Qd (by omega),Zt]
  congr 1; omega
theorem QD {base:Nat}:∀ {log M:List Nat},(∀ i∈M,base≤i)→Qy base log M=log
 | log,[],_=>rfl
 | log,i::r,h=>by
  have h1:¬ i<base:=by have:=h i (by simp); omega
  simp only [Qy,h1,false_and,if_false]
  exact QD fun j hj=>h j (by simp [hj])
end Go.Ev
namespace Go.Ev
section
variable {e:Env}
def gate {α:Type} (p:Prop) [Decidable p] (x:Option α):Option α:=if p then x else none
theorem J2 {α:Type} {p p':Prop} [Decidable p] [Decidable p'] (x:Option α) (h:∀ _:Unit,p=p'):gate p x=gate p' x:=by
 have h:=h (); subst h; unfold gate; congr
theorem Jq {α β:Type} {x y:Option α} (f:α→Option β) (h:∀ _:Unit,x=y):x.bind f=y.bind f:=by rw [h ()]
theorem Jz {α:Type} {c c':Prop} [Decidable c] [Decidable c'] (x y:α) (h:∀ _:Unit,c=c'):(if c then x else y)=(if c' then x else y):=by
 have h:=h (); subst h; congr
theorem U8 {α:Type} (b:Bool) (x:Option α):(if b=true then none else x)=gate (b=false) x:=by cases b<;>rfl
theorem Ai {α:Type} [Decidable True] {x:Option α}:gate True x=x:=by simp [gate]
def U7 {α:Type} (v:Value) (w:Bool) (x y:Option α):Option α:=match v with
 | .bool c=>if c=w then x else y
 | _=>none
def gd (w:Bool) (v:Value):Value:=match v with
 | .tuple _=>.bool (!w)
 | v=>v
theorem iu {w b:Bool}:gd w (.bool b)=.bool b:=Eq.trans rfl rfl
theorem gd_ut:gd true undef=.bool false:=Eq.trans rfl rfl
theorem gd_uf:gd false undef=.bool true:=Eq.trans rfl rfl
theorem Jb {α:Type} {v v':Value} (w:Bool) (x y:Option α) (h:∀ _:Unit,v=v'):U7 v w x y=U7 v' w x y:=by rw [h ()]
def lC (t:Nat) (v:Option Value) (l:Env):Env:=match v with
 | some v=>(t,v)::l
 | none=>l
theorem bT:Env.keep e []=[]:=rfl
theorem OX {t:Nat} {r:List Nat}:Env.keep e (t::r)=lC t (e.get t) (Env.keep e r):=rfl
theorem iB {T:Tab} {base:Nat} {c:Operand} {a b:ACode} {s:St}:Q8 T base (.cond c a b) s=(opd s.env c).bind fun v=>U7 v true (Q8 T base a s) (Q8 T base b s):=by
 rw [DO]
 cases opd s.env c with
 | none=>rfl
 | some v =>
  cases v<;>try rfl
  rename_i c
  cases c<;>rfl
def steps (T:Tab) (b:Nat) (q:Bool):List AOper→St→Option St
 | [],s=>some s
 | o::r,s=>match guardOf s.env o.guard with
  | some true=>(Jd T o.op s.env s.h).bind fun x=>if (q && !x.2.2.2.isEmpty)=true then none else steps T b q r ⟨s.env.put o.dst x.1,x.2.1,Qy b s.log x.2.2.2⟩
  | some false=>steps T b q r ⟨s.env.put o.dst undef,s.h,s.log⟩
  | none=>none
end
section
variable {T:Tab} {b:Nat} {q:Bool}
section
variable {r:List AOper} {l:List Nat} {H:List Ob} {s:St} {es base id n off bytes:Nat} {e:Env} {x y:ACode} {o:AOp}
theorem YD:∀ (ops:List AOper) (s:St) (recs:List Rec),(evOps T b ops s recs).map (·.1)=steps T b false ops s
 | [],s,recs=>by rw [Ws]; rfl
 | o::r,s,recs=>by
  rw [Kr]
  unfold steps
  cases hg:guardOf s.env o.guard with
  | none=>rfl
  | some g =>
   cases g with
   | false=>exact YD r _ _
   | true =>
    cases hx:Jd T o.op s.env s.h with
    | none=>simp [hx]
    | some x =>
     simp only [hx,Qj,Ke,Zh,if_false]
     exact YD r _ _
theorem YE:∀ (ops:List AOper) (s:St) (recs:List Rec) (s':St),steps T b true ops s=some s'→(∀ r∈recs,r.2=[])→∃ recs',evOps T b ops s recs=some (s',recs')∧(∀ r∈recs',r.2=[])∧recs'.length=recs.length+ops.length
 | [],s,recs,s',h,hr=>by
  simp only [steps,Ql] at h
  subst h
  exact ⟨recs,Ws,hr,rfl⟩
 | o::r,s,recs,s',h,hr=>by
  rw [Kr]
  unfold steps at h
  cases hg:guardOf s.env o.guard with
  | none=>simp only [hg] at h; cases h
  | some g =>
   simp only [hg] at h
   cases g with
   | false =>
    obtain ⟨recs',h1,h2,h3⟩:=YE r _ (recs++[(some [],[])]) s' h (fun x hx=>by
     rcases QA.1 hx with h | h
     ·exact hr x h
     ·simp at h; subst h; rfl)
    exact ⟨recs',h1,h2,by rw [h3]; simp; omega⟩
   | true =>
    cases hx:Jd T o.op s.env s.h with
    | none=>simp [hx] at h
    | some x =>
     simp only [hx,Qj] at h
     split at h
     ·cases h
     ·rename_i hq
      have hq':x.2.2.2=[]:=by simpa using hq
      obtain ⟨recs',h1,h2,h3⟩:=YE r _ (recs++[(x.2.2.1,x.2.2.2)]) s' h (fun y hy=>by
       rcases QA.1 hy with h | h
       ·exact hr y h
       ·simp at h; subst h; exact hq')
      exact ⟨recs',h1,h2,by rw [h3]; simp; omega⟩
theorem Pk {ops:List AOper} {keep:Option (List Nat)} {s:St}:Q8 T b (.region ops keep []) s=(steps T b false ops s).bind fun s'=>some (.normal,s'.after keep):=by
 rw [Vc,←YD ops s []]
 cases evOps T b ops s []<;>rfl
def DC {α:Type} (x y:Option α):Option α:=match x with
 | some v=>some v
 | none=>y
theorem Jp {α:Type} {x x':Option α} (y:Option α) (h:∀ _:Unit,x=x'):DC x y=DC x' y:=by rw [h ()]
def quiet (T:Tab) (b:Nat) (ops:List AOper) (pairs:List (Nat×Nat)) (s:St):Option St :=
 match (pairs.all fun p=>decide (p.1<ops.length)&&decide (p.2<ops.length)) with
 | true=>steps T b true ops s
 | false=>none
theorem YT {recs:List Rec} (hr:∀ r∈recs,r.2=[]):∀ {pairs:List (Nat×Nat)},(pairs.all fun p=>decide (p.1<recs.length)&&decide (p.2<recs.length))=true→Z6 recs pairs=true
 | [],_=>rfl
 | (i,j)::ps,h=>by
  simp only [KY,ZS,decide_eq_true_eq] at h
  have ih:=YT hr (pairs:=ps) h.2
  simp only [Z6,KY,ZS] at ih ⊢
  refine ⟨?_,ih⟩
  rw [Qh h.1.1,Qh h.1.2]
  simp only [He,hr _ (Xj h.1.1),hr _ (Xj h.1.2),List.isEmpty_nil,Bool.true_or,Tm]
def Ch (T:Tab) (b:Nat) (c:ACode) (s:St):Option (AExit×St):=Q8 T b c s
theorem ZA {ops:List AOper} {keep:Option (List Nat)} {p:Nat×Nat} {ps:List (Nat×Nat)} {s:St}:Q8 T b (.region ops keep (p::ps)) s=DC ((quiet T b ops (p::ps) s).bind fun s'=>some (.normal,s'.after keep)) (Ch T b (.region ops keep (p::ps)) s):=by
 cases hq:quiet T b ops (p::ps) s with
 | none=>rfl
 | some s' =>
  simp only [Qj,DC]
  unfold quiet at hq
  split at hq
  ·rename_i hp
   obtain ⟨recs,h1,h2,h3⟩:=YE ops s [] s' hq (by simp)
   simp only [Z3,QB] at h3
   rw [Vc,h1]
   simp only [Qj]
   rw [if_pos (YT h2 (by rw [h3]; exact hp))]
  ·cases hq
theorem nv:steps T b q [] s=some s:=rfl
theorem cC {d:Option Nat} {t:Nat} {w:Bool} {e:Env}:steps T b q (⟨d,o,some (t,w)⟩::r) ⟨e,H,l⟩=(e.get t).bind fun v=>U7 (gd w v) w (steps T b q (⟨d,o,none⟩::r) ⟨e,H,l⟩) (steps T b q r ⟨e.put d undef,H,l⟩):=by
 simp only [steps,guardOf]
 cases e.get t with
 | none=>rfl
 | some v =>
  cases v<;>try rfl
  all_goals first | (cases w<;>rfl) | (rename_i c; cases c<;>cases w<;>rfl)
theorem XB {d:Nat} {v:Option Value} (h:Jd T o e H=ZR H v):steps T b q (⟨some d,o,none⟩::r) ⟨e,H,l⟩=v.bind fun v=>steps T b q r ⟨(d,v)::e,H,l⟩:=by
 simp only [steps,guardOf,h,ZR]
 cases v<;>cases q<;>rfl
theorem Pp:Q8 T base (.block id (.seq x y)) s=(Q8 T base (.seq x y) s).bind fun r=>match r.1 with
  | .exit i=>if i=id then some (.normal,r.2) else some (.exit i,r.2)
  | z=>some (z,r.2):=Jr
theorem Pq {ops:List AOper} {keep:Option (List Nat)} {pairs:List (Nat×Nat)}:Q8 T base (.block id (.region ops keep pairs)) s=(Q8 T base (.region ops keep pairs) s).bind fun r=>match r.1 with
  | .exit i=>if i=id then some (.normal,r.2) else some (.exit i,r.2)
  | z=>some (z,r.2):=Jr
theorem Pu {c:Operand}:Q8 T base (.block id (.cond c x y)) s=(Q8 T base (.cond c x y) s).bind fun r=>match r.1 with
  | .exit i=>if i=id then some (.normal,r.2) else some (.exit i,r.2)
  | z=>some (z,r.2):=Jr
theorem Ps:Q8 T base (.block id .skip) s=some (.normal,s):=by rw [Jr,UE]; rfl
theorem Pv {id2:Nat}:Q8 T base (.block id (.block id2 x)) s=(Q8 T base (.block id2 x) s).bind fun r=>match r.1 with
  | .exit i=>if i=id then some (.normal,r.2) else some (.exit i,r.2)
  | z=>some (z,r.2):=Jr
def Ss:Value→Value→Value→Option Value
 | .bool t,a,b=>some (if t then a else b)
 | _,_,_=>none
def vEq (ks:Option (List Bool)) (neg:Bool) (x y:Value):Option Value :=
 (match ks,x,y with
  | some ks,.agg a,.agg b=>J7 ks a.toList b.toList
  | none,.bool a,.bool b=>some (a==b)
  | _,_,_=>none).bind fun b=>some (.bool (if neg then !b else b))
def kQ (k:IntKind):Value→Option Value
 | .int _ n=>some (.int k (k.wrap n))
 | _=>none
def Sx (n:Option Nat) (off:Nat):Value→Option Value
 | .agg cs=>ZX n cs.toList off
 | _=>none
def A6 (n:Option Nat) (len es:Nat):Value→Value→Option Value
 | .agg cs,.int _ i=>if 0≤i∧i<len then ZX n cs.toList (i.toNat*es) else none
 | _,_=>none
def MJ (off:Nat):Value→Option Value
 | .pointer (some a)=>some (.pointer (some (a.add off)))
 | _=>none
def MI (len es:Nat):Value→Value→Option Value
 | .pointer (some a),.int _ i=>if 0≤i∧i<len then some (.pointer (some (a.add (i.toNat*es)))) else none
 | _,_=>none
def CH (es:Nat):Value→Value→Option Value
 | .slice (some a) len _,.int _ i=>if 0≤i∧i<len then some (.pointer (some (a.add (i.toNat*es)))) else none
 | _,_=>none
def HU (n es:Nat) (lo hi mx:Option Value):Value→Option Value
 | .pointer (some a)=>(ZC n n lo hi mx).bind fun r=>some (.slice (some (a.add (r.1*es))) (r.2.1-r.1) (r.2.2-r.1))
 | _=>none
def vSliceSl (H:List Ob) (es:Nat) (lo hi mx:Option Value):Value→Option Value
 | .slice (some a) len cap=>(ZC len cap lo hi mx).bind fun r=>(liveAt H a.block).bind fun o =>
    if o.exact∨¬ o.own∨es≤o.es then some (.slice (some (a.add (r.1*es))) (r.2.1-r.1) (r.2.2-r.1)) else none
 | .slice none 0 0=>(ZC 0 0 lo hi mx).bind fun _=>some (.slice none 0 0)
 | _=>none
def CI (i:Nat):Value→Option Value
 | .tuple vs=>vs.toList[i]?
 | _=>none
def TD:Value→Option Value
 | .pointer (some a)=>some (.pointer (some a))
 | _=>none
def kP (n:Nat):Value→Option Value
 | .slice (some a) len _=>if n≤len∧0<n then some (.pointer (some a)) else none
 | _=>none
def vLen (str:Bool):Value→Option Value
 | .slice _ n _=>if str then none else some (.int .i64 n)
 | .string s=>if str then some (.int .i64 s.size) else none
 | _=>none
def W8 (mx:Bool):Value→Value→Option Value
 | .int k a,.int k' b=>if k=k' then some (.int k (if mx then (if b>a then b else a) else (if b<a then b else a))) else none
 | _,_=>none
def CG (H:List Ob) (n:Option Nat):Value→Option Value
 | .pointer (some a)=>(liveAt H a.block).bind fun o=>if a.spot.isNone then ZX n o.cells a.off else none
 | _=>none
def Iu (H:List Ob) (x:Value):Option Value:=match x with
 | .slice _ n _=>(elemsOf H 1 n x).bind fun cs=>(X2 cs).bind fun l=>some (.string ⟨l.toArray⟩)
 | _=>none
theorem iz {x:Operand} {d:Nat}:steps T b q (⟨some d,.move x,none⟩::r) ⟨e,H,l⟩=(opd e x).bind fun v=>steps T b q r ⟨(d,v)::e,H,l⟩:=XB DJ
theorem iy {c x y:Operand} {d:Nat} {e:Env}:steps T b q (⟨some d,.pick c x y,none⟩::r) ⟨e,H,l⟩=(opd e c).bind fun c=>(opd e x).bind fun x=>(opd e y).bind fun y=>(Ss c x y).bind fun v=>steps T b q r ⟨(d,v)::e,H,l⟩:=by
 rw [XB DI]
 cases opd e c with
 | none=>rfl
 | some c =>
  cases opd e x with
  | none=>rfl
  | some x =>
   cases opd e y with
   | none=>rfl
   | some y=>cases c<;>cases q<;>rfl
theorem cM {zero:List Value} {d:Nat}:steps T b q (⟨some d,.alloc zero,none⟩::r) ⟨e,H,l⟩=steps T b q r ⟨(d,.pointer (some ⟨H.length,0,none⟩))::e,H++[⟨zero,true,true,true,1⟩],l⟩:=by
 simp only [steps,guardOf,GP,Q1,Qj,Env.put,Qy,Ob.fresh]
 cases q<;>rfl
theorem nB {x:Operand} {d:Nat} {e:Env}:steps T b q (⟨some d,.box x,none⟩::r) ⟨e,H,l⟩=(opd e x).bind fun v=>gate (okVar v=true) (steps T b q r ⟨(d,.pointer (some ⟨H.length,0,none⟩))::e,H++[⟨v.cells.toList,true,true,true,1⟩],l⟩):=by
 simp only [steps,guardOf,RC,Q1,Env.put,Qy,Ob.fresh]
 cases opd e x with
 | none=>rfl
 | some v=>simp only [Qj,gate]; split<;>cases q<;>rfl
theorem i5 {n:Option Nat} {x:Operand} {d:Nat} {e:Env} {H:List Ob}:steps T b q (⟨some d,.load n x,none⟩::r) ⟨e,H,l⟩=(opd e x).bind fun a=>(CG H n a).bind fun v=>steps T b q r ⟨(d,v)::e,H,l⟩:=by
 simp only [steps,guardOf,UA,Q1,Env.put]
 cases opd e x with
 | none=>rfl
 | some v =>
  cases v<;>try rfl
  rename_i p
  cases p with
  | none=>rfl
  | some a =>
   simp only [Qj,CG]
   cases liveAt H a.block with
   | none=>rfl
   | some o =>
    simp only [Qj]
    split
    ·cases ZX n o.cells a.off<;>cases q<;>rfl
    ·rfl
def Iq (H:List Ob) (n:Nat):Value→Value→Option (List Ob)
 | .pointer (some a),v=>if v.cells.size=n∧okVar v=true then storeAt H a v.cells.toList else none
 | _,_=>none
def dP:Value→List Nat
 | .pointer (some a)=>[a.block]
 | _=>[]
theorem c9 {a x:Operand} {e:Env} {H:List Ob}:steps T b q (⟨none,.store n a x,none⟩::r) ⟨e,H,l⟩=(opd e a).bind fun a=>(opd e x).bind fun v=>(Iq H n a v).bind fun H'=>gate (q=false) (steps T b q r ⟨e,H',Qy b l (dP a)⟩):=by
 simp only [steps,guardOf,WO,Q1,Env.put]
 cases opd e a with
 | none=>rfl
 | some av =>
  cases opd e x with
  | none=>rfl
  | some v =>
   cases av<;>try rfl
   rename_i p
   cases p with
   | none=>rfl
   | some a =>
    simp only [Qj,Iq,dP]
    split
    ·cases storeAt H a v.cells.toList<;>cases q<;>rfl
    ·rfl
theorem nC {op:BinOp} {x y:Operand} {d:Nat} {e:Env}:steps T b q (⟨some d,.bin op x y,none⟩::r) ⟨e,H,l⟩=(opd e x).bind fun x=>(opd e y).bind fun y=>(Jx op x y).bind fun v=>steps T b q r ⟨(d,v)::e,H,l⟩:=by
 rw [XB RD]
 cases opd e x<;>cases opd e y<;>cases q<;>rfl
theorem nA {ks:Option (List Bool)} {neg:Bool} {x y:Operand} {d:Nat} {e:Env}:steps T b q (⟨some d,.eqv ks neg x y,none⟩::r) ⟨e,H,l⟩=(opd e x).bind fun x=>(opd e y).bind fun y=>(vEq ks neg x y).bind fun v=>steps T b q r ⟨(d,v)::e,H,l⟩:=by
 rw [XB RB]
 cases opd e x<;>cases opd e y<;>cases q<;>rfl
theorem cA {k:Nat} {neg:Bool} {x:Operand} {d:Nat} {e:Env}:steps T b q (⟨some d,.isNil k neg x,none⟩::r) ⟨e,H,l⟩=(opd e x).bind fun x=>(Vv k x).bind fun c=>steps T b q r ⟨(d,.bool (if neg then !c else c))::e,H,l⟩:=by
 rw [XB GL]
 cases opd e x with
 | none=>rfl
 | some v=>simp only [Qj]; cases Vv k v<;>cases q<;>rfl
theorem fs_un {op:UnOp} {x:Operand} {d:Nat} {e:Env}:steps T b q (⟨some d,.un op x,none⟩::r) ⟨e,H,l⟩=(opd e x).bind fun x=>(unV op x).bind fun v=>steps T b q r ⟨(d,v)::e,H,l⟩:=by
 rw [XB Ap]
 cases opd e x<;>cases q<;>rfl
theorem iA {k:IntKind} {x:Operand} {d:Nat} {e:Env}:steps T b q (⟨some d,.conv k x,none⟩::r) ⟨e,H,l⟩=(opd e x).bind fun x=>(kQ k x).bind fun v=>steps T b q r ⟨(d,v)::e,H,l⟩:=by
 rw [XB DL]
 cases opd e x<;>cases q<;>rfl
def Mh (H:List Ob):Value→Option Value
 | .slice (some a) n c=>(liveAt H a.block).bind fun o=>if o.own=true∧a.spot.isNone=true then some (.slice (some a) n c) else none
 | _=>none
theorem Po {x:Operand} {d:Nat} {e:Env} {H:List Ob}:steps T b q (⟨some d,.convSl x,none⟩::r) ⟨e,H,l⟩=(opd e x).bind fun x=>(Mh H x).bind fun v=>steps T b q r ⟨(d,v)::e,H,l⟩:=by
 simp only [steps,guardOf,T0,Q1,Env.put]
 cases opd e x with
 | none=>rfl
 | some v =>
  simp only [Qj]
  cases v with
  | slice a n c =>
   cases a with
   | none=>rfl
   | some a =>
    simp only [Mh]
    cases liveAt H a.block with
    | none=>rfl
    | some o =>
     simp only [Qj]
     split<;>cases q<;>rfl
  | _=>rfl
theorem cD {n:Option Nat} {x:Operand} {d:Nat} {e:Env}:steps T b q (⟨some d,.field n off x,none⟩::r) ⟨e,H,l⟩=(opd e x).bind fun x=>(Sx n off x).bind fun v=>steps T b q r ⟨(d,v)::e,H,l⟩:=by
 rw [XB GN]
 cases opd e x<;>cases q<;>rfl
theorem cB {n:Option Nat} {len:Nat} {x i:Operand} {d:Nat} {e:Env}:steps T b q (⟨some d,.index n len es x i,none⟩::r) ⟨e,H,l⟩=(opd e x).bind fun x=>(opd e i).bind fun i=>(A6 n len es x i).bind fun v=>steps T b q r ⟨(d,v)::e,H,l⟩:=by
 rw [XB GM]
 cases opd e x<;>cases opd e i<;>cases q<;>rfl
theorem cI {zero:List Value} {ps:List (Nat×Nat×Operand)} {d:Nat} {e:Env}:steps T b q (⟨some d,.build zero ps,none⟩::r) ⟨e,H,l⟩=(Zo e ps).bind fun ps=>(fillL zero ps).bind fun cs=>steps T b q r ⟨(d,.agg cs.toArray)::e,H,l⟩:=by
 rw [XB GO]
 cases Zo e ps with
 | none=>rfl
 | some v=>simp only [Qj]; cases fillL zero v<;>cases q<;>rfl
theorem Tw {cells:List Value} {len:Nat} {ps:List (Nat×Nat×Operand)} {d:Nat} {e:Env}:steps T b q (⟨some d,.buildSlice cells len ps,none⟩::r) ⟨e,H,l⟩=(Zo e ps).bind fun ps=>(fillL cells ps).bind fun cs=>steps T b q r ⟨(d,.slice (some ⟨H.length,0,none⟩) len len)::e,H++[⟨cs,true,true,true,1⟩],l⟩:=by
 simp only [steps,guardOf,YF,Q1,Env.put,Ob.fresh]
 cases Zo e ps with
 | none=>rfl
 | some v=>simp only [Qj]; cases fillL cells v<;>cases q<;>rfl
theorem Cn {x:Operand} {d:Nat} {e:Env}:steps T b q (⟨some d,.fieldAddr off x,none⟩::r) ⟨e,H,l⟩=(opd e x).bind fun x=>(MJ off x).bind fun v=>steps T b q r ⟨(d,v)::e,H,l⟩:=by
 rw [XB Wv]
 cases opd e x<;>cases q<;>rfl
theorem Cm {len:Nat} {x i:Operand} {d:Nat} {e:Env}:steps T b q (⟨some d,.indexAddr len es x i,none⟩::r) ⟨e,H,l⟩=(opd e x).bind fun x=>(opd e i).bind fun i=>(MI len es x i).bind fun v=>steps T b q r ⟨(d,v)::e,H,l⟩:=by
 rw [XB Wu]
 cases opd e x<;>cases opd e i<;>cases q<;>rfl
theorem Lu {x i:Operand} {d:Nat} {e:Env}:steps T b q (⟨some d,.indexSl es x i,none⟩::r) ⟨e,H,l⟩=(opd e x).bind fun x=>(opd e i).bind fun i=>(CH es x i).bind fun v=>steps T b q r ⟨(d,v)::e,H,l⟩:=by
 rw [XB UB]
 cases opd e x<;>cases opd e i<;>cases q<;>rfl
theorem Fk {x:Operand} {lo hi mx:Option Operand} {d:Nat} {e:Env}:steps T b q (⟨some d,.sliceArr n es x lo hi mx,none⟩::r) ⟨e,H,l⟩=(opd e x).bind fun x=>(Z7 e lo).bind fun lo=>(Z7 e hi).bind fun hi=>(Z7 e mx).bind fun mx=>(HU n es lo hi mx x).bind fun v=>steps T b q r ⟨(d,v)::e,H,l⟩:=by
 rw [XB Ua]
 cases opd e x<;>cases Z7 e lo<;>cases Z7 e hi<;>cases Z7 e mx<;>cases q<;>rfl
theorem Lr {x:Operand} {lo hi mx:Option Operand} {d:Nat} {e:Env} {H:List Ob}:steps T b q (⟨some d,.sliceSl es x lo hi mx,none⟩::r) ⟨e,H,l⟩=(opd e x).bind fun x=>(Z7 e lo).bind fun lo=>(Z7 e hi).bind fun hi=>(Z7 e mx).bind fun mx=>(vSliceSl H es lo hi mx x).bind fun v=>steps T b q r ⟨(d,v)::e,H,l⟩:=by
 simp only [steps,guardOf,U9,Q1,Env.put]
 cases opd e x with
 | none=>rfl
 | some v =>
  cases Z7 e lo with
  | none=>rfl
  | some lo =>
   cases Z7 e hi with
   | none=>rfl
   | some hi =>
    cases Z7 e mx with
    | none=>rfl
    | some mx =>
     simp only [Qj]
     cases v<;>try rfl
     rename_i base len cap
     cases base with
     | some a =>
      simp only [vSliceSl]
      cases ZC len cap lo hi mx with
      | none=>rfl
      | some r =>
       simp only [Qj]
       cases liveAt H a.block with
       | none=>rfl
       | some o=>simp only [Qj]; split<;>cases q<;>rfl
     | none =>
      cases len<;>cases cap<;>try rfl
      simp only [vSliceSl]
      cases ZC 0 0 lo hi mx<;>cases q<;>rfl
def Sv (zero:List Value) (bytes:Nat) (id:Nat):Value→Value→Option (Value×Ob)
 | .int _ l,.int _ c=>if 0≤l∧l≤c∧c*bytes≤2^47∧0<bytes∧0<zero.length then some (.slice (some ⟨id,0,none⟩) l.toNat c.toNat,⟨(Qc c.toNat zero).flatten,true,true,true,1⟩) else none
 | _,_=>none
theorem Cl {zero:List Value} {x y:Operand} {d:Nat} {e:Env}:steps T b q (⟨some d,.makeSlice zero bytes x y,none⟩::r) ⟨e,H,l⟩=(opd e x).bind fun x=>(opd e y).bind fun y=>(Sv zero bytes H.length x y).bind fun v=>steps T b q r ⟨(d,v.1)::e,H++[v.2],l⟩:=by
 simp only [steps,guardOf,Wt,Q1,Env.put]
 cases opd e x with
 | none=>rfl
 | some v =>
  cases opd e y with
  | none=>rfl
  | some w =>
   simp only [Qj]
   unfold Sv
   cases v<;>try rfl
   cases w<;>try rfl
   dsimp only
   split<;>cases q<;>rfl
theorem Lv {x:Operand} {i d:Nat} {e:Env}:steps T b q (⟨some d,.extract x i,none⟩::r) ⟨e,H,l⟩=(opd e x).bind fun x=>(CI i x).bind fun v=>steps T b q r ⟨(d,v)::e,H,l⟩:=by
 rw [XB UC]
 cases opd e x<;>cases q<;>rfl
theorem Pm {fn:Fn} {fs cs:List Operand} {d:Nat} {e:Env}:steps T b q (⟨some d,.mkFunc fn fs cs,none⟩::r) ⟨e,H,l⟩=(JB e fs).bind fun fs=>(JB e cs).bind fun cs=>steps T b q r ⟨(d,.func fn fs.toArray cs.toArray)::e,H,l⟩:=by
 rw [XB BO]
 cases JB e fs<;>cases JB e cs<;>cases q<;>rfl
theorem Fl {x:Operand} {d:Nat} {e:Env}:steps T b q (⟨some d,.nilCheck x,none⟩::r) ⟨e,H,l⟩=(opd e x).bind fun x=>(TD x).bind fun v=>steps T b q r ⟨(d,v)::e,H,l⟩:=by
 rw [XB Ub]
 cases opd e x<;>cases q<;>rfl
theorem ix {x:Operand} {d:Nat} {e:Env}:steps T b q (⟨some d,.s2ap n x,none⟩::r) ⟨e,H,l⟩=(opd e x).bind fun x=>(kP n x).bind fun v=>steps T b q r ⟨(d,v)::e,H,l⟩:=by
 rw [XB DH]
 cases opd e x<;>cases q<;>rfl
theorem n9 {str:Bool} {x:Operand} {d:Nat} {e:Env}:steps T b q (⟨some d,.len str x,none⟩::r) ⟨e,H,l⟩=(opd e x).bind fun x=>(vLen str x).bind fun v=>steps T b q r ⟨(d,v)::e,H,l⟩:=by
 rw [XB RA]
 cases opd e x<;>cases q<;>rfl
theorem Pn {mx:Bool} {x y:Operand} {d:Nat} {e:Env}:steps T b q (⟨some d,.minmax mx x y,none⟩::r) ⟨e,H,l⟩=(opd e x).bind fun x=>(opd e y).bind fun y=>(W8 mx x y).bind fun v=>steps T b q r ⟨(d,v)::e,H,l⟩:=by
 rw [XB BP]
 cases opd e x<;>cases opd e y<;>cases q<;>rfl
def eD (id:Nat):Value→Option (Value×Ob)
 | .string s=>if s.size≤2^47 then some (.slice (some ⟨id,0,none⟩) s.size s.size,⟨s.data.toList.map fun b=>.int .u8 b.toNat,true,true,false,1⟩) else none
 | _=>none
theorem nt {x:Operand} {d:Nat} {e:Env}:steps T b q (⟨some d,.s2b x,none⟩::r) ⟨e,H,l⟩=(opd e x).bind fun x=>(eD H.length x).bind fun v=>steps T b q r ⟨(d,v.1)::e,H++[v.2],l⟩:=by
 simp only [steps,guardOf,R9,Q1,Env.put,Ob.grown]
 cases opd e x with
 | none=>rfl
 | some v =>
  cases v<;>try rfl
  simp only [Qj,eD]
  split<;>cases q<;>rfl
theorem nD {x:Operand} {d:Nat} {e:Env} {H:List Ob}:steps T b q (⟨some d,.b2s x,none⟩::r) ⟨e,H,l⟩=(opd e x).bind fun x=>(Iu H x).bind fun v=>steps T b q r ⟨(d,v)::e,H,l⟩:=by
 simp only [steps,guardOf,RE,Q1,Env.put]
 cases opd e x with
 | none=>rfl
 | some v =>
  cases v<;>try rfl
  rename_i base n cap
  simp only [Qj,Iu]
  cases elemsOf H 1 n (.slice base n cap) with
  | none=>rfl
  | some cs =>
   simp only [Qj]
   cases X2 cs<;>cases q<;>rfl
theorem Pw {x y:Operand} {d:Nat} {e:Env}:steps T b q (⟨some d,.append es bytes x y,none⟩::r) ⟨e,H,l⟩=(opd e x).bind fun x=>(opd e y).bind fun y=>(Zu es bytes H x y).bind fun v=>gate ((q && !v.2.2.2.isEmpty)=false) (steps T b q r ⟨(d,v.1)::e,v.2.1,Qy b l v.2.2.2⟩):=by
 simp only [steps,guardOf,U8,BQ,Q1,Env.put]
 cases opd e x<;>cases opd e y<;>cases q<;>rfl
def A8 (H:List Ob) (z:List Value) (x:Value):Option (List Ob×List Nat):=match x with
 | .slice (some a) n _=>(storeAt H a (Builtin.zeroCells z.toArray n).toList).bind fun H'=>some (H',[a.block])
 | _=>none
theorem cE {z:List Value} {x:Operand} {d:Option Nat} {r:List AOper} {e:Env} {H:List Ob} {l:List Nat}:steps T b q (⟨d,.clear z x,none⟩::r) ⟨e,H,l⟩=(opd e x).bind fun x=>(A8 H z x).bind fun v=>gate ((q && !v.2.isEmpty)=false) (steps T b q r ⟨e.put d (.tuple #[]),v.1,Qy b l v.2⟩):=by
 simp only [steps,guardOf,U8,Cq,Q1]
 cases opd e x with
 | none=>rfl
 | some v =>
  cases v with
  | slice base n c =>
   cases base with
   | none=>rfl
   | some a =>
    simp only [Qj,A8]
    cases storeAt H a (Builtin.zeroCells z.toArray n).toList<;>cases q<;>rfl
  | _=>rfl
def LS (H:List Ob) (es:Nat) (d s:Value):Option (Value×List Ob×List Nat):=match d with
 | .slice base dl _=>(lenV s).bind fun sl=>(elemsOf H es (min sl dl) s).bind fun cs=>match base with
   | some a=>(storeAt H a cs).bind fun H'=>some (.int .i64 (min sl dl:Nat),H',[a.block])
   | none=>if dl=0 then some (.int .i64 0,H,[]) else none
 | _=>none
theorem i9 {es:Nat} {x y:Operand} {d:Option Nat} {e:Env} {H:List Ob}:steps T b q (⟨d,.copy es x y,none⟩::r) ⟨e,H,l⟩=(opd e x).bind fun x=>(opd e y).bind fun y=>(LS H es x y).bind fun v=>gate ((q && !v.2.2.isEmpty)=false) (steps T b q r ⟨e.put d v.1,v.2.1,Qy b l v.2.2⟩):=by
 simp only [steps,guardOf,U8,DK,Q1]
 cases opd e x with
 | none=>rfl
 | some v =>
  cases opd e y with
  | none=>rfl
  | some s =>
   simp only [Qj]
   cases v<;>try rfl
   rename_i base dl cap
   unfold LS
   dsimp only
   cases lenV s with
   | none=>rfl
   | some sl =>
    simp only [Qj]
    cases elemsOf H es (min sl dl) s with
    | none=>rfl
    | some cs =>
     simp only [Qj]
     cases base with
     | none=>dsimp only; split<;>cases q<;>rfl
     | some a=>dsimp only; cases storeAt H a cs<;>cases q<;>rfl
theorem Yp {f:Nat} {xs:List Operand} {d:Option Nat} {e:Env}:steps T b q (⟨d,.call f xs true,none⟩::r) ⟨e,H,l⟩=(JB e xs).bind fun args=>gate (args.all rf=true) ((Zd T f args []).bind fun v=>gate (rf v.1=true) (steps T b q r ⟨e.put d v.1,H,l⟩)):=by
 simp only [steps,guardOf,UD]
 cases JB e xs with
 | none=>rfl
 | some args =>
  simp only [Qj]
  cases args.all rf with
  | false=>rfl
  | true =>
   simp only [if_true,Ai]
   cases Zd T f args [] with
   | none=>rfl
   | some v =>
    simp only [Qj]
    cases rf v.1<;>cases q<;>rfl
theorem cH {f:Nat} {xs:List Operand} {d:Option Nat} {e:Env} {H:List Ob}:steps T b q (⟨d,.call f xs false,none⟩::r) ⟨e,H,l⟩=(JB e xs).bind fun args=>(Zd T f args H).bind fun v=>gate ((q && !v.2.2.isEmpty)=false) (steps T b q r ⟨e.put d v.1,v.2.1,Qy b l v.2.2⟩):=by
 simp only [steps,guardOf,U8,DM]
 cases JB e xs with
 | none=>rfl
 | some args =>
  simp only [Zh,if_false,Qj]
  cases Zd T f args H<;>cases q<;>rfl
def callee:Value→List Value→Option (Nat×List Value)
 | .func (.func f) first captured,args=>some (f,first.toList++args++captured.toList)
 | _,_=>none
theorem PA {f:Operand} {xs:List Operand} {e:Env}:Jd T (.callv f xs) e H=(opd e f).bind fun f=>(JB e xs).bind fun args=>(callee f args).bind fun c=>(Zd T c.1 c.2 H).bind fun r=>some (r.1,r.2.1,none,r.2.2):=by
 rw [Jd.eq_def]
 dsimp only
 cases opd e f with
 | none=>rfl
 | some fv =>
  cases JB e xs with
  | none =>
   cases fv<;>try rfl
   rename_i fn _ _
   cases fn<;>rfl
  | some args =>
   cases fv<;>try rfl
   rename_i fn _ _
   cases fn<;>rfl
theorem cG {f:Operand} {xs:List Operand} {d:Option Nat} {e:Env} {H:List Ob}:steps T b q (⟨d,.callv f xs,none⟩::r) ⟨e,H,l⟩=(opd e f).bind fun f=>(JB e xs).bind fun args=>(callee f args).bind fun c=>(Zd T c.1 c.2 H).bind fun v=>gate ((q && !v.2.2.isEmpty)=false) (steps T b q r ⟨e.put d v.1,v.2.1,Qy b l v.2.2⟩):=by
 simp only [steps,guardOf,U8,PA]
 cases opd e f with
 | none=>rfl
 | some fv =>
  cases JB e xs with
  | none=>rfl
  | some args =>
   simp only [Qj]
   cases callee fv args with
   | none=>rfl
   | some c=>simp only [Qj]; cases Zd T c.1 c.2 H<;>cases q<;>rfl
end
end
section
variable {H l:List Ob} {k:Nat} {o:Ob} {cs:List Value}
theorem hget0:(H++l)[H.length]?=l[0]? := by rw [Qd (Qk _),Qq]
theorem hgetK:(H++l)[H.length+k]?=l[k]? := by rw [Qd (by omega)]; congr 1; omega
theorem bY:(H++l).set H.length o=H++l.set 0 o:=by rw [Q3 _ _ (Qk _),Qq]
theorem hsetK:(H++l).set (H.length+k) o=H++l.set k o:=by rw [Q3 _ _ (by omega)]; congr 2; omega
theorem QO {v:List Value} (h:v.length=cs.length):splice cs 0 v=v:=by
 rw [JL _ _ _ (by omega),Xc,Qr,QB,h,List.drop_length,Q9]
theorem Iz {n:Nat} (h:cs.length=n):(cs.drop 0).take n=cs:=by rw [JT,Qu (by omega)]
theorem Vj:∀ {n:Nat} {p q:List Nat},p.length=n→q.length=n→J7 (Qc n true) (u8s p) (u8s q)=some (p==q)
 | 0,[],[],_,_=>rfl
 | n+1,x::p,y::q,hp,hq=>by
  have:=Vj (n:=n) (p:=p) (q:=q) (by simpa using hp) (by simpa using hq)
  simp only [u8s,Jg,KB,J7,Gj,if_true,Qj] at this ⊢
  rw [this]
  simp only [Qj,List.cons_beq_cons]
  congr 2
  by_cases h:x=y
  ·subst h; simp
  ·have:¬ ((x:Int)=y):=by omega
   rw [beq_eq_false_iff_ne.2 h,beq_eq_false_iff_ne.2 this]
theorem K6 (l:List Nat):rf (.agg (u8s l).toArray)=true:=by
 show (u8s l).toArray.toList.all scalarRf=true
 rw [show (u8s l).toArray.toList=u8s l from rfl]
 simp [u8s,scalarRf]
theorem Ng (b:Bool):rf (.bool b)=true:=rfl
theorem dQ (l:List Value):l.toArray.toList=l:=rfl
theorem Grown.len {k:IntKind} {B:Nat} {H:List Ob} {s:Value} {bs:List Nat} (h:Grown k B H s bs):vLen false s=some (.int .i64 bs.length):=by cases h<;>rfl
theorem Sl.len {k:IntKind} {H:List Ob} {s:Value} {bs:List Nat} (h:Sl k H s bs):vLen false s=some (.int .i64 bs.length):=by cases h<;>rfl
end
section
variable {e:Env} {H:List Ob}
section
variable {k j:IntKind} {a b i:Int} {o n es t off cap c id y:Nat} {v:Value} {x:Operand} {l:List Nat} {f:FuncId} {r:Env} {cs:Array Value}
theorem fY:opd e (.tmp t)=e.get t:=Eq.trans rfl rfl
theorem OB:opd e (.const v)=some v:=Eq.trans rfl rfl
theorem bh:opd e (.func f)=some (.func (.func f) #[] #[]):=Eq.trans rfl rfl
theorem bg:JB e []=some []:=Eq.trans rfl rfl
theorem OA {r:List Operand}:JB e (x::r)=(opd e x).bind fun v=>(JB e r).bind fun vs=>some (v::vs):=Eq.trans rfl rfl
theorem E8:Z7 e none=some none:=Eq.trans rfl rfl
theorem E7:Z7 e (some x)=(opd e x).bind fun v=>some (some v):=Eq.trans rfl rfl
theorem AW:Zo e []=some []:=Eq.trans rfl rfl
theorem Tp {r:List (Nat×Nat×Operand)}:Zo e ((o,n,x)::r)=(opd e x).bind fun v=>(Zo e r).bind fun vs=>some ((o,n,v)::vs):=Eq.trans rfl rfl
theorem ir:Env.get ((t,v)::r) t=some v:=by simp [Env.get]
theorem GI {u:Nat} (h:(t=u)=False):Env.get ((u,v)::r) t=Env.get r t:=by simp [Env.get,h]
theorem eF {a b:Value}:Ss (.bool true) a b=some a:=Eq.trans rfl rfl
theorem eG {a b:Value}:Ss (.bool false) a b=some b:=Eq.trans rfl rfl
theorem eJ {ks:List Bool} {a b:Array Value}:vEq (some ks) false (.agg a) (.agg b)=(J7 ks a.toList b.toList).bind fun c=>some (.bool c):=Eq.trans rfl rfl
theorem CJ {ks:List Bool} {a b:Array Value}:vEq (some ks) true (.agg a) (.agg b)=(J7 ks a.toList b.toList).bind fun c=>some (.bool !c):=Eq.trans rfl rfl
theorem Sz {a b:Bool}:vEq none false (.bool a) (.bool b)=some (.bool (a==b)):=Eq.trans rfl rfl
theorem NY {a b:Bool}:vEq none true (.bool a) (.bool b)=some (.bool !(a==b)):=Eq.trans rfl rfl
theorem NZ {n:Int}:kQ k (.int j n)=some (.int k (k.wrap n)):=Eq.trans rfl rfl
theorem It {n:Option Nat}:Sx n off (.agg cs)=ZX n cs.toList off:=Eq.trans rfl rfl
theorem BU {n:Option Nat} {len:Nat}:A6 n len es (.agg cs) (.int k i)=gate (0≤i∧i<len) (ZX n cs.toList (i.toNat*es)):=Eq.trans rfl rfl
theorem A7 {b:Nat}:MJ off (.pointer (some ⟨b,o,none⟩))=some (.pointer (some ⟨b,o+off,none⟩)):=by rw [←XX]; rfl
theorem A5 {len b:Nat}:MI len es (.pointer (some ⟨b,o,none⟩)) (.int k i)=gate (0≤i∧i<len) (some (.pointer (some ⟨b,o+i.toNat*es,none⟩))):=by rw [←XX]; rfl
theorem Is {b len:Nat}:CH es (.slice (some ⟨b,o,none⟩) len cap) (.int k i)=gate (0≤i∧i<len) (some (.pointer (some ⟨b,o+i.toNat*es,none⟩))):=by rw [←XX]; rfl
theorem CE {b:Nat} {lo hi mx:Option Value}:HU n es lo hi mx (.pointer (some ⟨b,o,none⟩))=(ZC n n lo hi mx).bind fun r=>some (.slice (some ⟨b,o+r.1*es,none⟩) (r.2.1-r.1) (r.2.2-r.1)):=by
 simp only [HU,XX]
theorem Oa {i:Nat}:Mh H (.slice (some ⟨i,o,none⟩) n c)=(liveAt H i).bind fun ob=>gate (ob.own=true) (some (.slice (some ⟨i,o,none⟩) n c)):=by
 simp only [Mh,gate,Xa,and_true]
theorem V1 {b len:Nat} {lo hi mx:Option Value}:vSliceSl H es lo hi mx (.slice (some ⟨b,o,none⟩) len cap)=(ZC len cap lo hi mx).bind fun r=>(liveAt H b).bind fun ob=>gate (ob.exact∨¬ ob.own∨es≤ob.es) (some (.slice (some ⟨b,o+r.1*es,none⟩) (r.2.1-r.1) (r.2.2-r.1))):=by
 simp only [vSliceSl,XX,gate]
theorem Ir {lo hi mx:Option Value}:vSliceSl H es lo hi mx (.slice none 0 0)=(ZC 0 0 lo hi mx).bind fun _=>some (.slice none 0 0):=Eq.trans rfl rfl
theorem Yi {i:Nat} {vs:Array Value}:CI i (.tuple vs)=vs.toList[i]? := Eq.trans rfl rfl
theorem CF {a:Addr}:TD (.pointer (some a))=some (.pointer (some a)):=Eq.trans rfl rfl
theorem eE {a:Addr} {len:Nat}:kP n (.slice (some a) len cap)=gate (n≤len∧0<n) (some (.pointer (some a))):=Eq.trans rfl rfl
theorem ma {a:Option Addr}:vLen false (.slice a n c)=some (.int .i64 n):=Eq.trans rfl rfl
theorem Sw {s:ByteArray}:vLen true (.string s)=some (.int .i64 s.size):=Eq.trans rfl rfl
theorem lW:W8 false (.int k a) (.int k b)=some (.int k (if b<a then b else a)):=by simp [W8]
theorem Su:W8 true (.int k a) (.int k b)=some (.int k (if b>a then b else a)):=by simp [W8]
theorem eI {n:Option Nat} {b:Nat}:CG H n (.pointer (some ⟨b,o,none⟩))=(liveAt H b).bind fun ob=>ZX n ob.cells o:=by simp [CG]
theorem Sp {b:Nat}:Iq H n (.pointer (some ⟨b,o,none⟩)) v=gate (v.cells.size=n∧okVar v=true) (storeAt H ⟨b,o,none⟩ v.cells.toList):=Eq.trans rfl rfl
theorem kG {b:Nat}:dP (.pointer (some ⟨b,o,none⟩))=[b]:=rfl
theorem S0 {a:Option Addr}:Iu H (.slice a n c)=(elemsOf H 1 n (.slice a n c)).bind fun cs=>(X2 cs).bind fun l=>some (.string ⟨l.toArray⟩):=Eq.trans rfl rfl
theorem eH {zero:List Value} {bytes:Nat} {l c:Int}:Sv zero bytes id (.int k l) (.int j c)=gate (0≤l∧l≤c∧c*bytes≤2^47∧0<bytes∧0<zero.length) (some (.slice (some ⟨id,0,none⟩) l.toNat c.toNat,⟨(Qc c.toNat zero).flatten,true,true,true,1⟩)):=Eq.trans rfl rfl
theorem Sr {s:ByteArray}:eD id (.string s)=gate (s.size≤2^47) (some (.slice (some ⟨id,0,none⟩) s.size s.size,⟨s.data.toList.map fun b=>.int .u8 b.toNat,true,true,false,1⟩)):=Eq.trans rfl rfl
theorem d9 {a b:Array Value} {args:List Value}:callee (.func (.func f) a b) args=some (f,a.toList++args++b.toList):=Eq.trans rfl rfl
theorem OS:liveAt H id=(H[id]?).bind fun o=>gate (o.live=true) (some o):=Eq.trans rfl rfl
theorem MQ {b:Nat} {v:List Value}:storeAt H ⟨b,o,none⟩ v=(liveAt H b).bind fun ob=>gate (ob.own=true∧o+v.length≤ob.cells.length) (some (H.set b ⟨splice ob.cells o v,ob.live,ob.own,ob.exact,ob.es⟩)):=by simp [storeAt,gate]
theorem IB {cs:List Value}:ZX none cs off=cs[off]? := Eq.trans rfl rfl
theorem IA {cs:List Value}:ZX (some n) cs off=gate (off+n≤cs.length) (some (.agg ((cs.drop off).take n).toArray)):=Eq.trans rfl rfl
theorem XQ {d:Nat}:Xo none y d=some d:=Eq.trans rfl rfl
theorem OI {d:Nat}:Xo (some (.int k i)) y d=gate (0≤i∧i≤y) (some i.toNat):=Eq.trans rfl rfl
theorem JA {len:Nat} {lo hi:Option Value}:ZC len cap lo hi none=(Xo hi cap len).bind fun h=>(Xo lo h 0).bind fun l=>some (l,h,cap):=by simp [ZC,Xo]
theorem kD:Jx .add (.int k a) (.int k b)=some (.int k (k.wrap (a+b))):=by simp [Jx,ZJ]
theorem kg:Jx .sub (.int k a) (.int k b)=some (.int k (k.wrap (a-b))):=by simp [Jx,ZJ]
theorem kr:Jx .mul (.int k a) (.int k b)=some (.int k (k.wrap (a*b))):=by simp [Jx,ZJ]
theorem ko (h:(b=0)=False):Jx .quo (.int k a) (.int k b)=some (.int k (k.wrap (a.tdiv b))):=by simp [Jx,ZJ,h]
theorem kn (h:(b=0)=False):Jx .rem (.int k a) (.int k b)=some (.int k (a.tmod b)):=by simp [Jx,ZJ,h]
theorem kC:Jx .and (.int k a) (.int k b)=some (.int k (Zs .and k a b)):=by simp [Jx,ZJ]
theorem nS:Jx .or (.int k a) (.int k b)=some (.int k (Zs .or k a b)):=by simp [Jx,ZJ]
theorem kd:Jx .xor (.int k a) (.int k b)=some (.int k (Zs .xor k a b)):=by simp [Jx,ZJ]
theorem LD:Jx .andNot (.int k a) (.int k b)=some (.int k (Zs .andNot k a b)):=by simp [Jx,ZJ]
theorem kB:Jx .eql (.int k a) (.int k b)=some (.bool (a==b)):=by simp [Jx,ZJ]
theorem kq:Jx .neq (.int k a) (.int k b)=some (.bool (a != b)):=by simp [Jx,ZJ]
theorem ku:Jx .lss (.int k a) (.int k b)=some (.bool (decide (a<b))):=by simp [Jx,ZJ]
theorem kv:Jx .leq (.int k a) (.int k b)=some (.bool (decide (a≤b))):=by simp [Jx,ZJ]
theorem ky:Jx .gtr (.int k a) (.int k b)=some (.bool (decide (b<a))):=by simp [Jx,ZJ]
theorem kA:Jx .geq (.int k a) (.int k b)=some (.bool (decide (b≤a))):=by simp [Jx,ZJ]
theorem ki (h:(b<0)=False):Jx .shl (.int k a) (.int j b)=some (.int k (k.wrap (a*2^(min b.toNat k.bits)))):=by simp [Jx,ZF,h]
theorem kh (h:(b<0)=False):Jx .shr (.int k a) (.int j b)=some (.int k (a.fdiv (2^(min b.toNat k.bits)))):=by simp [Jx,ZF,h]
theorem dM {a b:ByteArray}:Jx .add (.string a) (.string b)=gate (a.size+b.size≤2^47) (some (.string (a++b))):=Eq.trans rfl rfl
theorem dL {a b:ByteArray}:Jx .eql (.string a) (.string b)=some (.bool (a.toList==b.toList)):=Eq.trans rfl rfl
theorem FV {a b:ByteArray}:Jx .neq (.string a) (.string b)=some (.bool !(a.toList==b.toList)):=Eq.trans rfl rfl
theorem mf {b:Bool}:unV .not (.bool b)=some (.bool !b):=Eq.trans rfl rfl
theorem mh {n:Int}:unV .neg (.int k n)=some (.int k (k.wrap (0-n))):=Eq.trans rfl rfl
theorem mb {n:Int}:unV .xor (.int k n)=some (.int k (Zs .xor k (if k.signed then -1 else k.max) n)):=Eq.trans rfl rfl
theorem LJ {k:List Nat}:St.after ⟨e,H,l⟩ (some k)=⟨e.keep k,H,l⟩:=rfl
theorem aE {d:Nat}:Env.put e (some d) v=(d,v)::e:=rfl
theorem aF:Env.put e none v=e:=rfl
theorem fm:Zl e H []=some []:=Eq.trans rfl rfl
theorem fk {r:List (Nat×Option (Option Nat))}:Zl e H ((t,none)::r)=(e.get t).bind fun v=>(Zl e H r).bind fun vs=>some (v::vs):=Eq.trans rfl rfl
theorem fg {n:Option Nat} {r:List (Nat×Option (Option Nat))}:Zl e H ((t,some n)::r)=(e.get t).bind fun p=>(CG H n p).bind fun v=>(Zl e H r).bind fun vs=>some (v::vs):=Eq.trans rfl rfl
theorem II:packed [v]=v:=rfl
theorem IG {w:Value} {r:List Value}:packed (v::w::r)=.tuple (v::w::r).toArray:=rfl
theorem OQ {b:Nat}:Qy b l []=l:=rfl
theorem bL {b i:Nat} {r:List Nat} (h:b≤i):Qy b l (i::r)=Qy b l r:=by
 have h1:¬ i<b:=by omega
 simp only [Qy,h1,false_and,if_false]
theorem gE {n:Int}:okVar (.int k n)=true:=rfl
theorem bA {b:Bool}:okVar (.bool b)=true:=rfl
theorem gC {s:ByteArray}:okVar (.string s)=true:=rfl
theorem gF {a:Array Value}:okVar (.agg a)=true:=rfl
theorem gD {a:Option Addr}:okVar (.pointer a)=true:=rfl
theorem OG {a:Option Addr}:okVar (.slice a n c)=true:=rfl
theorem b9 {f:Fn} {a b:Array Value}:okVar (.func f a b)=true:=rfl
theorem EG:okVar .nilFunc=true:=rfl
theorem L8 (b:Bool):(Value.bool b).cells.toList=[.bool b]:=rfl
theorem Mb (b:Bool):(Value.bool b).cells.size=1:=rfl
theorem PM (a:Option Addr):(Value.pointer a).cells.toList=[.pointer a]:=rfl
theorem RK (a:Option Addr):(Value.pointer a).cells.size=1:=rfl
theorem FM (a:Option Addr) (n c:Nat):(Value.slice a n c).cells.toList=[.slice a n c]:=rfl
theorem Dy (a:Option Addr) (n c:Nat):(Value.slice a n c).cells.size=1:=rfl
theorem PL (s:ByteArray):(Value.string s).cells.toList=[.string s]:=rfl
theorem RJ (s:ByteArray):(Value.string s).cells.size=1:=rfl
theorem AK {a b:Value} (h1:Uw a=true) (h2:Uw b=true):rf (.tuple #[a,b])=true:=by simp [rf,h1,h2]
theorem aw {n:Int}:Uw (.int k n)=true:=rfl
theorem Ot {b:Bool}:Uw (.bool b)=true:=rfl
theorem aq (l:List Nat):Uw (.agg (u8s l).toArray)=true:=K6 l
theorem m9 {s:ByteArray}:rf (.string s)=true:=rfl
theorem au {s:ByteArray}:Uw (.string s)=true:=rfl
end
end
def cF:=Qi (Qi (Qi (Qi (Qi (Qi (Qi (@UE) (@DN)) (Qi (@RF) (Qi (@Pp) (@Pq)))) (Qi (Qi (@Pu) (Qi (@Ps) (@Pv))) (Qi (@RG) (Qi (@bT) (@OX))))) (Qi (Qi (Qi (@iB) (@Pk)) (Qi (@nv) (Qi (@cC) (@iz)))) (Qi (Qi (@iy) (Qi (@cM) (@nB))) (Qi (@i5) (Qi (@c9) (@nC)))))) (Qi (Qi (Qi (Qi (@nA) (@cA)) (Qi (@fs_un) (Qi (@iA) (@Po)))) (Qi (Qi (@cD) (Qi (@cB) (@cI))) (Qi (@Tw) (Qi (@Cn) (@Cm))))) (Qi (Qi (Qi (@Lu) (Qi (@Fk) (@Lr))) (Qi (@Cl) (Qi (@Lv) (@Pm)))) (Qi (Qi (@Fl) (Qi (@ix) (@n9))) (Qi (@Pn) (Qi (@nt) (@nD))))))) (Qi (Qi (Qi (Qi (Qi (@Pw) (@i9)) (Qi (@cH) (Qi (@cG) (@fY)))) (Qi (Qi (@OB) (Qi (@bh) (@bg))) (Qi (@OA) (Qi (@E8) (@E7))))) (Qi (Qi (Qi (@AW) (Qi (@Tp) (@GI))) (Qi (@eF) (Qi (@eG) (@eJ)))) (Qi (Qi (@CJ) (Qi (@Sz) (@NY))) (Qi (@NZ) (Qi (@Oa) (@It)))))) (Qi (Qi (Qi (Qi (@BU) (@A7)) (Qi (@A5) (Qi (@Is) (@CE)))) (Qi (Qi (@V1) (Qi (@Ir) (@Yi))) (Qi (@CF) (Qi (@eE) (@ma))))) (Qi (Qi (Qi (@Sw) (Qi (@lW) (@Su))) (Qi (@eI) (Qi (@Sp) (@kG)))) (Qi (Qi (@S0) (Qi (@eH) (@Sr))) (Qi (@d9) (Qi (@OS) (@MQ)))))))) (Qi (Qi (Qi (Qi (Qi (Qi (@IB) (@IA)) (Qi (@XQ) (Qi (@OI) (@JA)))) (Qi (Qi (@kD) (Qi (@kg) (@kr))) (Qi (@ko) (Qi (@kn) (@kC))))) (Qi (Qi (Qi (@nS) (Qi (@kd) (@LD))) (Qi (@kB) (Qi (@kq) (@ku)))) (Qi (Qi (@kv) (Qi (@ky) (@kA))) (Qi (@ki) (Qi (@kh) (@dM)))))) (Qi (Qi (Qi (Qi (@dL) (@FV)) (Qi (@mf) (Qi (@mh) (@mb)))) (Qi (Qi (@LJ) (Qi (@aE) (@aF))) (Qi (@fm) (Qi (@fk) (@fg))))) (Qi (Qi (Qi (@II) (Qi (@IG) (@OQ))) (Qi (@bL) (Qi (@AK) (@aw)))) (Qi (Qi (@Ot) (Qi (@aq) (@m9))) (Qi (@au) (Qi (@iu) (@gd_ut))))))) (Qi (Qi (Qi (Qi (Qi (@gd_uf) (@Qr.{0})) (Qi (@Qw.{0}) (Qi (@List.all_nil.{0}) (@KY.{0})))) (Qi (Qi (@List.isEmpty_nil.{0}) (Qi (@Zh) (@beq_self_eq_true.{0}))) (Qi (@bne_self_eq_false.{0}) (Qi (@ef) (@Ya))))) (Qi (Qi (Qi (@Ul) (Qi (@YP) (@false_and))) (Qi (@al) (Qi (@Ng) (@BK)))) (Qi (Qi (@K6) (Qi (@dQ) (@LU))) (Qi (@Tm) (Qi (@Xr) (@HK)))))) (Qi (Qi (Qi (Qi (@Nat.zero_le) (@Nat.le_add_right)) (Qi (@Dz) (Qi (@Yt) (@Au)))) (Qi (Qi (@UJ) (Qi (@gE) (@bA))) (Qi (@gC) (Qi (@gF) (@gD))))) (Qi (Qi (Qi (@OG) (Qi (@b9) (@EG))) (Qi (@L8) (Qi (@Mb) (@PM)))) (Qi (Qi (@RK) (Qi (@FM) (@Dy))) (Qi (@PL) (Qi (@RJ) (@eq_self.{1}))))))))
def pF:=Qi (Qi (@Ai) (@ir)) (Qi (@Qj.{0,0}) (Qi (@if_true.{1}) (@if_false.{1})))
def cL:=Qi (Qi (Qi (Qi (Qi (@ZE) (@Int.natCast_zero)) (Qi (@Int.natCast_one) (Qi (@Int.cast_ofNat_Int) (@Z3.{0})))) (Qi (Qi (@Zn.{0}) (@Js.{0})) (Qi (@JJ.{0}) (Qi (@VI.{0}) (@VJ.{0}))))) (Qi (Qi (Qi (@QB) (@ZH)) (Qi (@XK) (Qi (@Ks) (@X5)))) (Qi (Qi (@Int.toNat_zero) (@Int.lt_irrefl)) (Qi (@Wb) (Qi (@Qk) (@and_self)))))) (Qi (Qi (Qi (Qi (@true_and) (@and_true)) (Qi (@decide_true) (Qi (@decide_false) (@Nat.min_self)))) (Qi (Qi (@ge_iff_le.{0}) (@gt_iff_lt.{0})) (Qi (@Xa.{0}) (Qi (@Kc.{0}) (@Option.isNone_some.{0}))))) (Qi (Qi (Qi (@Option.isSome_some.{0}) (@Bool.and_true)) (Qi (@Tl) (Qi (@Bool.and_false) (@Ke)))) (Qi (Qi (@not_true_eq_false) (Qi (@not_false_eq_true) (@or_true))) (Qi (@true_or) (Qi (@false_or) (@or_false))))))
def cJ:=Qi (Qi (Qi (@hget0) (@hgetK)) (Qi (@bY) (Qi (@hsetK) (@Xz)))) (Qi (Qi (@QO) (@Iz)) (Qi (@List.getElem?_nil.{0}) (Qi (@Qg.{0}) (@Qv.{0}))))
def cS:=Qi (Qi (Qi (Qi (Qi (Qi (@UE) (Qi (@DN) (@RF))) (Qi (@Vc) (Qi (@DO) (@Jr)))) (Qi (Qi (@RG) (Qi (@Kr) (@Ws))) (Qi (@Qj.{0,0}) (Qi (@Qr.{0}) (@Qw.{0}))))) (Qi (Qi (Qi (@List.all_nil.{0}) (Qi (@KY.{0}) (@if_true.{1}))) (Qi (@if_false.{1}) (Qi (@ite_true.{0}) (@ite_false.{0})))) (Qi (Qi (@Xa.{0}) (Qi (@Kc.{0}) (@Zh))) (Qi (@QB) (Qi (@Zn.{0}) (@Z3.{0})))))) (Qi (Qi (Qi (Qi (@beq_self_eq_true.{0}) (Qi (@ef) (@Ya))) (Qi (@DJ) (Qi (@DI) (@GP)))) (Qi (Qi (@RC) (Qi (@UA) (@WO))) (Qi (@RD) (Qi (@RB) (@GL))))) (Qi (Qi (Qi (@Ap) (Qi (@DL) (@R9))) (Qi (@RE) (Qi (@GN) (@GM)))) (Qi (Qi (@GO) (Qi (@YF) (@Wv))) (Qi (@Wu) (Qi (@UB) (@Ua))))))) (Qi (Qi (Qi (Qi (Qi (@U9) (Qi (@Wt) (@UC))) (Qi (@BO) (Qi (@Ub) (@DH)))) (Qi (Qi (@BQ) (Qi (@DK) (@RA))) (Qi (@BP) (Qi (@DM) (@UD))))) (Qi (Qi (Qi (@GD) (Qi (@N4) (@bP))) (Qi (@Ul) (Qi (@and_self) (@true_and)))) (Qi (Qi (@and_true) (Qi (@X5) (@XK))) (Qi (@XX) (Qi (@Au) (@UJ)))))) (Qi (Qi (Qi (Qi (@Xz) (Qi (@YP) (@false_and))) (Qi (@decide_true) (Qi (@decide_false) (@ZH)))) (Qi (Qi (@al) (Qi (@BK) (@LU))) (Qi (@Bool.and_true) (Qi (@Tl) (@Tm))))) (Qi (Qi (Qi (@Js.{0}) (Qi (@JJ.{0}) (@nlt1))) (Qi (@nlt2) (Qi (@nlt3) (@nlt4)))) (Qi (Qi (@Qk) (Qi (@Wb) (@Xr))) (Qi (Qi (@HK) (@Ks)) (Qi (@Dz) (@Yt)))))))
theorem Pf {α:Type} {x y:Option α}:U7 (.bool true) true x y=x:=Eq.trans rfl rfl
theorem Pj {α:Type} {x y:Option α}:U7 (.bool false) false x y=x:=Eq.trans rfl rfl
theorem Pg {α:Type} {x y:Option α}:U7 (.bool true) false x y=y:=Eq.trans rfl rfl
theorem Ph {α:Type} {x y:Option α}:U7 (.bool false) true x y=y:=Eq.trans rfl rfl
theorem Lj {t:Nat} {v:Value} {l:Env}:lC t (some v) l=(t,v)::l:=Eq.trans rfl rfl
theorem Eg {α:Type} {v:α} {y:Option α}:DC (some v) y=some v:=Eq.trans rfl rfl
def pQ:=Qi pF (Qi (@Lj) (Qi (@Eg) (Qi (@Pf) (Qi (@Pj) (Qi (@Pg) (@Ph))))))
end Go.Ev
namespace Go.Ev
open Go.RowKit Go.WideShapes Go.ChangeShapes
section
variable {P:Program} {T:Tab}
section
variable {w:World}
theorem Av (hm:P.follows .mixedOrders=true) (hT:TabOk P T) {f:Nat} {args args':List Value} {v:Value} {H H':List Ob} {M:List Nat} (h:Zd T f args H=some (v,H',M)) (hn:T.fn f≠none) (hv:rf v=true) {ρ:Pl} (hl:LRel ρ args args')
 (hrel:RelF ρ (hp H) w) (hfree:∀ id,H.length≤id→ρ id=none) (hown:∀ (i:Nat) (o:Ob),H[i]?=some o→o.own=false) :
    Calls P f args'.toArray w fun e w'=>e=.returned v∧Below w.heap.size w w':=by
  have h1:=(sound hm hT f args H _ h).1
  have h2:=h1 ρ args' w hl hrel (fun id h _=>hfree id h) { (default:Oper) with dst:=some 0 } { tmps := #[undef],defers:=[] }
    (fun a w'=>∃ v',a.tmps=#[v']∧v'=v∧Below w.heap.size w w') (fun _ _ _=>False) fun v' w' ρ' hp=>⟨v',by simp [Act.put],hp.val.of_rf hv,⟨hp.frm.os,hp.frm.tape,hp.frm.output,hp.frm.size,fun k hk=>hp.frm.blocks k hk fun id ob pl hc _ _ ho=>by rw [hown id ob hc] at ho; cases ho⟩⟩
  obtain ⟨af,haf⟩:=Option.ne_none_iff_exists'.1 hn
  obtain ⟨pf,g1,g2,g3⟩:=hT.fn f af haf
  obtain ⟨code,g4,g5,g6⟩:=DQ g2
  have hcf:(callFunc f args'.toArray).run P w=.ok (.enter f args'.toArray) w:=by
    have g3' : ¬ (pf.name = "runtime.NumGoroutine") := by simpa using g3
    simp [callFunc,g1,g3',g4]
  rw [hcf,Oper.upon_enter] at h2
  refine h2.mono fun e w' he => ?_
  cases e with
  | returned v1 =>
    obtain ⟨v',k1,k2,k3⟩:=he
    have:v1=v':=by simpa [Act.put] using k1
    exact ⟨by rw [this,k2],k3⟩
  | panicked c=>exact he.elim
  | outgrown=>obtain ⟨_,_,hx⟩:=he; exact hx.elim
structure Lies8 (w:World) (a:Addr) (len cap:Nat) (l:List Nat):Prop where
 spot:a.spot=none
 at_:∃ cs e fr,w.heap[a.block]?=some (.cells cs e fr)∧(cap=0∨a.off+cap≤cs.size)∧∀ (i x:Nat),l[i]?=some x→cs[a.off+i]?=some (.int .u8 (x:Nat))
 le:len≤cap
 max:cap≤maxLen
 len:l.length=len
 lt:∀ x∈l,x<256
theorem CC (ρ:Pl) (l:List Nat):VRel ρ (.agg (u8s l).toArray) (.agg (u8s l).toArray) :=
 .agg (LRel.same (by rw [List.all_eq_true]; intro x hx; simp only [u8s,Jc] at hx; obtain ⟨n,-,rfl⟩:=hx; rfl)) (fun x hx=>by simp only [u8s,Jc] at hx; obtain ⟨n,-,rfl⟩:=hx; rfl)
def ob8 (l:List Nat):Ob:=⟨u8s l,true,false,false,1⟩
theorem bQ {a:Addr} {len cap:Nat} {l:List Nat} (h:Lies8 w a len cap l):∃ pl:Place,pl.block=a.block∧pl.block<w.heap.size∧(∀ ρ,ObjRel ρ w pl (ob8 l)) ∧
  ∀ (ρ:Pl) (id:Nat),ρ id=some pl→VRel ρ (.slice (some ⟨id,0,none⟩) len len) (.slice (some a) len cap):=by
 obtain ⟨cs,e,fr,h1,h2,h3⟩:=h.at_
 have hlt:a.block<w.heap.size:=(Xf.1 h1).1
 have hle:=h.le
 have hln:=h.len
 rcases Zv cap with h0 | h0
 ·subst h0
  have hl0:l=[]:=Za (by omega)
  have hlen0:len=0:=by omega
  subst hl0 hlen0
  refine ⟨⟨a.block,0,cs.size,1,.foreign⟩,rfl,hlt,fun ρ=>⟨rfl,rfl,cs,e,fr,h1,rfl,by simp [ob8,u8s],fun i v hv=>by simp [ob8,u8s] at hv,fun ho=>by simp [ob8] at ho⟩,fun ρ id hρ => ?_⟩
  exact .slice hρ rfl (.inl h.spot) (.inl rfl) (.inr rfl) (Qk _) (Qk _) trivial
 ·have h4:a.off+cap≤cs.size:=by
   rcases h2 with h2 | h2
   ·omega
   ·exact h2
  refine ⟨⟨a.block,a.off,cs.size,1,.foreign⟩,rfl,hlt,fun ρ=>⟨rfl,rfl,cs,e,fr,h1,rfl,by simp only [ob8,Qp]; omega,fun i v hv => ?_,fun ho=>by simp [ob8] at ho⟩,fun ρ id hρ => ?_⟩
  ·simp only [ob8,u8s,Zq,Q5] at hv
   obtain ⟨x,hx,rfl⟩:=hv
   exact ⟨rfl,_,h3 i x hx,.same rfl⟩
  ·exact .slice hρ rfl (.inl h.spot) (.inl rfl) (.inl rfl) (Qk _) h.le trivial
end
end
end Go.Ev
set_option maxRecDepth 100000
namespace Go.Ev.YtomfgcgnepfmjaaGreat
open Go Go.Ev
def MD:List Value:=Qc 32 (.int .u8 0)++([.int .u32 0,.int .u32 0]++Qc 32 (.int .u8 0))
def KD:List Value:=Qc 32 (.int .u8 0)++([.int .u32 0,.int .u32 0]++Qc 64 (.int .u8 0))
def Xn:List Value:=Qc 32 (.int .u8 0)++([.int .u32 0,.int .u32 0]++(Qc 64 (.int .u8 0)++[.slice none 0 0]))
def Wd:List Value := .int .u32 0::Qc 32 (.int .u8 0)
def XM:List Value:=[.int .i64 0,.slice none 0 0,.slice none 0 0,.slice none 0 0,.slice none 0 0]
def zMac:List Value := .pointer none::Qc 64 (.int .u8 0)
abbrev jt (n:Nat):Operand := .tmp n
abbrev ji (n:Int):Operand := .const (.int .i64 n)
abbrev jo (n:Nat) (o:AOp):AOper:=AOper.mk (some n) o none
abbrev jq (o:AOp):AOper:=AOper.mk none o none
abbrev jr (l:List AOper) (k:List Nat):ACode := .region l (some k) []
abbrev js (l:List AOper) (k:List Nat) (c:ACode):ACode := .seq (.region l (some k) []) c
abbrev jx (n m:Nat):ACode := .cond (.tmp n) .skip (.exit m)
abbrev jM (n m:Nat):AOper:=AOper.mk (some n) (.move (.tmp m)) none
abbrev jI (n:Nat) (v:Int):AOper:=AOper.mk (some n) (.move (.const (.int .i64 v))) none
abbrev jL (n k m:Nat):AOper:=AOper.mk (some n) (.load (some k) (.tmp m)) none
abbrev jE (n m:Nat):AOper:=AOper.mk (some n) (.load none (.tmp m)) none
abbrev jS (k a b:Nat):AOper:=AOper.mk none (.store k (.tmp a) (.tmp b)) none
abbrev jF (n k m:Nat):AOper:=AOper.mk (some n) (.fieldAddr k (.tmp m)) none
abbrev jZ (n k:Nat) (i:IntKind):AOper:=AOper.mk (some n) (.alloc (Qc k (.int i 0))) none
abbrev jB (n m:Nat):AOper:=AOper.mk (some n) (.box (.tmp m)) none
abbrev jN (n m:Nat):AOper:=AOper.mk (some n) (.nilCheck (.tmp m)) none
abbrev jO (n:Nat) (o:BinOp) (a b:Nat):AOper:=AOper.mk (some n) (.bin o (.tmp a) (.tmp b)) none
abbrev jP (n:Nat) (o:BinOp) (a:Nat) (v:Int):AOper:=AOper.mk (some n) (.bin o (.tmp a) (.const (.int .i64 v))) none
abbrev jQ (n:Nat) (o:BinOp) (a:Nat) (i:IntKind) (v:Int):AOper:=AOper.mk (some n) (.bin o (.tmp a) (.const (.int i v))) none
abbrev jX (n m i:Nat):AOper:=AOper.mk (some n) (.extract (.tmp m) i) none
abbrev jC (n f a:Nat):AOper:=AOper.mk (some n) (.call f [.tmp a] true) none
abbrev jD (n f a b:Nat):AOper:=AOper.mk (some n) (.call f [.tmp a,.tmp b] true) none
abbrev jG (n f a b c:Nat):AOper:=AOper.mk (some n) (.call f [.tmp a,.tmp b,.tmp c] true) none
abbrev jc (n f a:Nat):AOper:=AOper.mk (some n) (.call f [.tmp a] false) none
abbrev jd (n f a b:Nat):AOper:=AOper.mk (some n) (.call f [.tmp a,.tmp b] false) none
abbrev jA (n l e m:Nat) (v:Int):AOper:=AOper.mk (some n) (.indexAddr l e (.tmp m) (.const (.int .i64 v))) none
abbrev jH (n l e m i:Nat):AOper:=AOper.mk (some n) (.indexAddr l e (.tmp m) (.tmp i)) none
abbrev jJ (n e m i:Nat):AOper:=AOper.mk (some n) (.indexSl e (.tmp m) (.tmp i)) none
abbrev jV (n:Nat) (k:IntKind) (m:Nat):AOper:=AOper.mk (some n) (.conv k (.tmp m)) none
abbrev jY (n m:Nat):AOper:=AOper.mk (some n) (.len false (.tmp m)) none
abbrev jp (o n t:Nat):Nat×Nat×Operand:=(o,n,.tmp t)
abbrev jg (o:Nat) (k:IntKind) (v:Int):Nat×Nat×Operand:=(o,1,.const (.int k v))
abbrev jz (n:Nat):List Value:=Qc n (.int .u8 0)
abbrev jb (n:Nat) (l:List (Nat×Nat×Operand)) (m:Nat):AOper:=AOper.mk (some n) (.build (Qc m (.int .u8 0)) l) none
abbrev jh (n a e t m:Nat):AOper:=AOper.mk (some n) (.append a e (.tmp t) (.tmp m)) none
abbrev jK (n:Nat) (c:ACode):ACode := .block n (.loop c)
abbrev jT (n:Nat) (b:Bool):AOper:=AOper.mk (some n) (.move (.const (.bool b))) none
abbrev jU (n m:Nat):AOper:=AOper.mk (some n) (.un .not (.tmp m)) none
abbrev je (n m:Nat) (b:Bool) (x y:Nat):AOper:=AOper.mk (some n) (.eqv (some (Qc m true)) b (.tmp x) (.tmp y)) none
abbrev jf (n a:Nat):AOper:=AOper.mk (some n) (.call a [] true) none
abbrev ju (n f a b c d:Nat):AOper:=AOper.mk (some n) (.call f [.tmp a,.tmp b,.tmp c,.tmp d] true) none
abbrev jw (n c a b:Nat):AOper:=AOper.mk (some n) (.pick (.tmp c) (.tmp a) (.tmp b)) none
abbrev jn (n:Nat):AOper:=AOper.mk (some n) (.move (.const (.slice none 0 0))) none
abbrev jk (n:Nat) (k:IntKind) (v:Int):AOper:=AOper.mk (some n) (.move (.const (.int k v))) none
abbrev jv (n f:Nat) (k:IntKind) (v:Int):AOper:=AOper.mk (some n) (.call f [.const (.int k v)] true) none
abbrev ja (l:List AOper) (k:List Nat):ACode := .seq (.region l (some k) []) .ret
abbrev jl (n:Nat) (l:List AOper) (k:List Nat):ACode := .cond (.tmp n) (.seq (.region l (some k) []) .ret) .skip
abbrev jm (n k m:Nat) (l:List (Nat×Nat×Operand)):AOper:=AOper.mk (some n) (.buildSlice (Qc k (.int .u8 0)) m l) none
abbrev jy (n e m:Nat) (v:Int):AOper:=AOper.mk (some n) (.indexSl e (.tmp m) (.const (.int .i64 v))) none
abbrev jW (n a e m:Nat):AOper:=AOper.mk (some n) (.sliceArr a e (.tmp m) none none none) none
def a16:AFun:=⟨(js [jB 1 0,jZ 2 32 .u8] [1,2] (js [jA 3 32 1 1 0,jE 4 3,jQ 5 .and 4 .u8 248,jA 6 32 1 1 0,jS 1 6 5] [1,2] (js [jA 7 32 1 1 31,jE 8 7,jQ 9 .and 8 .u8 127,jQ 10 .or 9 .u8 64,jA 11 32 1 1 31,jS 1 11 10] [1,2] (ja [jL 12 32 1,jS 32 2 12] [2])))),[(2,(some (some 32)))]⟩
def Tg:ACode:=(js [jO 9 .lss 8 7] [2,3,6,7,8,9] (.seq (jx 9 0) (.seq (.block 1 (js [jJ 10 1 6 8,jE 11 10,jM 5 11] [2,3,5,6,7,8] (jr [jM 12 3,jM 13 5,jh 14 1 1 12 13,jM 3 14] [2,3,6,7,8]))) (jr [jP 15 .add 8 1,jM 8 15] [2,3,6,7,8]))))
def a17:AFun:=⟨(js [jZ 2 32 .u8] [0,2] (js [jn 3] [0,2,3] (.seq (js [jM 6 0,jY 7 6,jI 8 0] [2,3,6,7,8] (jK 0 Tg)) (ja [jM 16 3,jc 17 119 16,jc 18 148 17,jc 19 149 18,jS 32 2 19] [2])))),[(2,(some (some 32)))]⟩
def a19:AFun:=⟨(js [jB 3 0,jB 4 1,jB 5 2,jZ 6 32 .u8] [3,4,5,6] (ja [jW 7 32 1 3,jc 8 119 7,jW 9 32 1 4,jc 10 119 9,jd 11 146 8 10,jW 12 32 1 5,jc 13 119 12,jd 14 147 11 13,jc 15 148 14,jc 16 149 15,jS 32 6 16] [6])),[(6,(some (some 32)))]⟩
def a21:AFun:=⟨(js [jB 1 0,jT 2 false] [1] (ja [jW 3 32 1 1,jc 4 119 3,jo 5 (.call 121 [] false),jd 6 120 4 5,jM 2 6] [2])),[(2,none)]⟩
def a25:AFun:=⟨(js [jZ 0 20 .u64] [0] (js [jb 3 [jg 0 .u8 26,jg 1 .u8 213,jg 2 .u8 37,jg 3 .u8 143,jg 4 .u8 96,jg 5 .u8 45,jg 6 .u8 86,jg 7 .u8 201,jg 8 .u8 178,jg 9 .u8 167,jg 10 .u8 37,jg 11 .u8 149,jg 12 .u8 96,jg 13 .u8 199,jg 14 .u8 44,jg 15 .u8 105,jg 16 .u8 92,jg 17 .u8 220,jg 18 .u8 214,jg 19 .u8 253,jg 20 .u8 49,jg 21 .u8 226,jg 22 .u8 164,jg 23 .u8 192,jg 24 .u8 254,jg 25 .u8 83,jg 26 .u8 110,jg 27 .u8 205,jg 28 .u8 211,jg 29 .u8 54,jg 30 .u8 105,jg 31 .u8 33] 32,jC 4 106 3,jZ 1 5 .u64,jS 5 1 4] [0,1] (js [jb 5 [jg 0 .u8 88,jg 1 .u8 102,jg 2 .u8 102,jg 3 .u8 102,jg 4 .u8 102,jg 5 .u8 102,jg 6 .u8 102,jg 7 .u8 102,jg 8 .u8 102,jg 9 .u8 102,jg 10 .u8 102,jg 11 .u8 102,jg 12 .u8 102,jg 13 .u8 102,jg 14 .u8 102,jg 15 .u8 102,jg 16 .u8 102,jg 17 .u8 102,jg 18 .u8 102,jg 19 .u8 102,jg 20 .u8 102,jg 21 .u8 102,jg 22 .u8 102,jg 23 .u8 102,jg 24 .u8 102,jg 25 .u8 102,jg 26 .u8 102,jg 27 .u8 102,jg 28 .u8 102,jg 29 .u8 102,jg 30 .u8 102,jg 31 .u8 102] 32,jC 6 106 5,jZ 2 5 .u64,jS 5 2 6] [0,1,2] (ja [jL 7 5 1,jL 8 5 2,jv 9 111 .u32 1,jL 10 5 1,jL 11 5 2,jD 12 108 10 11,jo 13 (.build (Qc 20 (.int .u64 0)) [jp 0 5 7,jp 5 5 8,jp 10 5 9,jp 15 5 12]),jS 20 0 13] [0])))),[(0,(some (some 20)))]⟩
def D2:ACode:=(.seq (js [jM 10 7,jP 11 .geq 10 0] [2,3,4,5,6,7,11] (jx 11 0)) (.seq (.block 1 (js [jL 14 20 5,jC 15 117 14,jS 20 5 15] [2,3,4,5,6,7] (js [jM 16 7,jP 17 .quo 16 8,jH 18 32 1 3 17,jE 19 18,jM 20 7,jP 21 .rem 20 8,jO 22 .shr 19 21,jQ 23 .and 22 .u8 1,jQ 24 .eql 23 .u8 1] [2,3,4,5,6,7,24] (.cond (jt 24) (jr [jL 25 20 5,jL 26 20 2,jL 27 5 6,jG 28 124 25 26 27,jS 20 5 28] [2,3,4,5,6,7]) .skip)))) (jr [jM 12 7,jP 13 .sub 12 1,jM 7 13] [2,3,4,5,6,7])))
def a26:AFun:=⟨(js [jB 2 0,jB 3 1,jZ 4 20 .u64] [2,3,4] (js [jf 8 118,jf 9 113,jZ 5 20 .u64,jZ 6 5 .u64,jS 20 5 8,jS 5 6 9] [2,3,4,5,6] (.seq (js [jI 7 255] [2,3,4,5,6,7] (jK 0 D2)) (ja [jL 29 20 5,jS 20 4 29] [4])))),[(4,(some (some 20)))]⟩
def Tf:ACode:=(js [jO 12 .lss 11 10] [2,3,4,9,10,11,12] (.seq (jx 12 0) (.seq (.block 1 (js [jJ 13 20 9 11,jL 14 20 13,jZ 6 20 .u64,jS 20 6 14] [2,3,4,6,9,10,11] (jr [jL 15 20 3,jL 16 20 6,jL 17 5 4,jG 18 124 15 16 17,jS 20 3 18] [2,3,4,9,10,11]))) (jr [jP 19 .add 11 1,jM 11 19] [2,3,4,9,10,11]))))
def a27:AFun:=⟨(js [jZ 2 20 .u64] [0,2] (js [jf 7 118,jf 8 113,jZ 3 20 .u64,jZ 4 5 .u64,jS 20 3 7,jS 5 4 8] [0,2,3,4] (.seq (js [jM 9 0,jY 10 9,jI 11 0] [2,3,4,9,10,11] (jK 0 Tf)) (ja [jL 20 20 3,jS 20 2 20] [2])))),[(2,(some (some 20)))]⟩
def a28:AFun:=⟨(js [jB 2 0,jB 3 1,jT 4 false] [2,3] (ja [jF 5 0 2,jL 6 5 5,jF 7 10 3,jL 8 5 7,jD 9 108 6 8,jF 10 0 3,jL 11 5 10,jF 12 10 2,jL 13 5 12,jD 14 108 11 13,jD 15 177 9 14,jM 16 15,.mk (some 17) (.fieldAddr 5 (jt 2)) (some (16,true)),.mk (some 18) (.load (some 5) (jt 17)) (some (16,true)),.mk (some 19) (.fieldAddr 10 (jt 3)) (some (16,true)),.mk (some 20) (.load (some 5) (jt 19)) (some (16,true)),.mk (some 21) (.call 108 [(jt 18),(jt 20)] true) (some (16,true)),.mk (some 22) (.fieldAddr 5 (jt 3)) (some (16,true)),.mk (some 23) (.load (some 5) (jt 22)) (some (16,true)),.mk (some 24) (.fieldAddr 10 (jt 2)) (some (16,true)),.mk (some 25) (.load (some 5) (jt 24)) (some (16,true)),.mk (some 26) (.call 108 [(jt 23),(jt 25)] true) (some (16,true)),.mk (some 27) (.call 177 [(jt 21),(jt 26)] true) (some (16,true)),jo 28 (.pick (jt 16) (jt 27) (.const (.bool false))),jM 4 28] [4])),[(4,none)]⟩
def a29:AFun:=⟨(js [jB 1 0,jZ 2 32 .u8] [1,2] (js [jF 5 10 1,jL 6 5 5,jC 7 125 6,jZ 3 5 .u64,jS 5 3 7] [1,2,3] (js [jF 8 5 1,jL 9 5 8,jL 10 5 3,jD 11 108 9 10,jC 12 126 11,jZ 4 32 .u8,jS 32 4 12] [1,2,3,4] (.seq (js [jF 13 0 1,jL 14 5 13,jL 15 5 3,jD 16 108 14 15,jC 17 127 16] [2,4,17] (.cond (jt 17) (jr [jA 18 32 1 4 31,jE 19 18,jQ 20 .or 19 .u8 128,jA 21 32 1 4 31,jS 1 21 20] [2,4]) .skip)) (ja [jL 22 32 4,jS 32 2 22] [2]))))),[(2,(some (some 32)))]⟩
def a30:AFun:=⟨(js [jZ 0 20 .u64] [0] (ja [jv 1 111 .u32 1,jv 2 111 .u32 1,jo 3 (.build (Qc 20 (.int .u64 0)) [jp 5 5 1,jp 10 5 2]),jS 20 0 3] [0])),[(0,(some (some 20)))]⟩
def a31:AFun:=⟨(js [jB 1 0,jZ 2 20 .u64,jI 3 0] [1,2] (js [jA 9 32 1 1 31,jE 10 9,jQ 11 .shr 10 .u64 7,jQ 12 .eql 11 .u8 1,jM 4 12] [1,2,4] (js [jA 13 32 1 1 31,jE 14 13,jQ 15 .and 14 .u8 127,jA 16 32 1 1 31,jS 1 16 15] [1,2,4] (js [jL 17 32 1,jC 18 106 17,jZ 5 5 .u64,jS 5 5 18] [1,2,4,5] (.seq (js [jL 19 32 1,jC 20 107 19,jU 21 20] [2,4,5,21] (.cond (jt 21) (ja [jo 22 (.build (Qc 20 (.int .u64 0)) []),jS 20 2 22,jI 3 60] [2,3]) .skip)) (js [jL 23 5 5,jL 24 5 5,jD 25 108 23 24,jZ 6 5 .u64,jS 5 6 25] [2,4,5,6] (js [jL 27 5 6,jv 28 111 .u32 1,jD 29 110 27 28,jf 30 113,jL 31 5 6,jD 32 108 30 31,jv 33 111 .u32 1,jo 34 (.buildSlice (Qc 10 (.int .u64 0)) 2 [jp 0 5 32,jp 5 5 33]),jc 35 112 34,jD 36 109 29 35,jM 26 36,jX 37 26 0,jX 38 26 1,jZ 7 5 .u64,jS 5 7 37,jM 8 38] [2,4,5,7,8] (.seq (js [jM 39 8,jU 40 39,jM 41 40,.mk (some 42) (.move (jt 4)) (some (41,false)),.mk (some 43) (.move (jt 42)) (some (41,false)),.mk (some 44) (.load (some 5) (jt 7)) (some (43,true)),.mk (some 45) (.call 114 [(jt 44)] true) (some (43,true)),.mk (some 46) (.pick (jt 43) (jt 45) (.const (.bool false))) (some (41,false)),jo 47 (.pick (jt 41) (.const (.bool true)) (jt 46))] [2,4,5,7,47] (.cond (jt 47) (ja [jo 48 (.build (Qc 20 (.int .u64 0)) []),jS 20 2 48,jI 3 60] [2,3]) .skip)) (.seq (js [jM 49 4] [2,5,7,49] (.cond (jt 49) (jr [jL 50 5 7,jC 51 115 50,jS 5 7 51] [2,5,7]) .skip)) (ja [jL 52 5 7,jL 53 5 5,jv 54 111 .u32 1,jL 55 5 7,jL 56 5 5,jD 57 108 55 56,jo 58 (.build (Qc 20 (.int .u64 0)) [jp 0 5 52,jp 5 5 53,jp 10 5 54,jp 15 5 57]),jS 20 2 58,jI 3 0] [2,3])))))))))),[(2,(some (some 20))),(3,none)]⟩
def a34:AFun:=⟨(js [jB 1 0,jZ 2 20 .u64] [1,2] (ja [jF 3 0 1,jL 4 5 3,jC 5 115 4,jF 6 5 1,jL 7 5 6,jF 8 10 1,jL 9 5 8,jF 10 15 1,jL 11 5 10,jC 12 115 11,jo 13 (.build (Qc 20 (.int .u64 0)) [jp 0 5 5,jp 5 5 7,jp 10 5 9,jp 15 5 12]),jS 20 2 13] [2])),[(2,(some (some 20)))]⟩
def a39:AFun:=⟨(js [jB 1 0,jT 2 false] [1] (ja [jL 3 20 1,jC 4 117 3,jC 5 117 4,jC 6 117 5,jf 7 118,jD 8 116 6 7,jM 2 8] [2])),[(2,none)]⟩
def Gk:ACode:=(js [jO 14 .lss 13 12] [3,11,12,13,14] (.seq (jx 14 0) (.seq (.block 1 (js [jM 15 13,jJ 16 1 11 13,jE 17 16,jM 4 15,jM 5 17] [3,4,5,11,12,13] (jr [jM 18 3,jM 19 4,jP 20 .quo 19 4,jJ 21 1 18 20,jE 22 21,jM 23 5,jV 24 .u32 23,jM 25 4,jP 26 .rem 25 4,jo 27 (.bin .mul (ji 8) (jt 26)),jO 28 .shl 24 27,jO 29 .or 22 28,jJ 30 1 18 20,jS 1 30 29] [3,11,12,13]))) (jr [jP 31 .add 13 1,jM 13 31] [3,11,12,13]))))
def a40:AFun:=⟨(js [jn 2] [0] (js [jM 6 0,jY 7 6,jP 8 .add 7 3,jP 9 .quo 8 4,jo 10 (.makeSlice [(.int .u32 0)] 4 (jt 9) (jt 9)),jM 3 10] [0,3] (.seq (js [jM 11 0,jY 12 11,jI 13 0] [3,11,12,13] (jK 0 Gk)) (ja [jM 32 3,jM 2 32] [2])))),[(2,none)]⟩
def Yy:ACode:=(js [jO 55 .lss 54 53] [0,3,4,5,6,9,53,54,55] (.seq (jx 55 4) (.seq (.block 5 (js [jM 56 54,jM 10 56] [0,3,4,5,6,9,10,53,54] (jr [jM 58 5,jM 59 10,jM 60 3,jM 61 10,jJ 62 1 60 61,jE 63 62,jM 64 4,jM 65 10,jJ 66 1 64 65,jE 67 66,jM 68 9,jG 69 178 63 67 68,jM 57 69,jX 70 57 0,jX 71 57 1,jJ 72 1 58 59,jS 1 72 70,jM 9 71] [0,3,4,5,6,9,53,54]))) (jr [jP 73 .add 54 1,jM 54 73] [0,3,4,5,6,9,53,54]))))
def Yx:ACode:=(js [jO 34 .lss 33 32] [0,3,4,5,6,7,32,33,34] (.seq (jx 34 2) (.seq (.block 3 (js [jM 35 33,jM 8 35] [0,3,4,5,6,7,8,32,33] (jr [jM 36 3,jM 37 8,jM 38 3,jM 39 8,jJ 40 1 38 39,jE 41 40,jQ 42 .shl 41 .u64 1,jM 43 7,jO 44 .or 42 43,jM 45 3,jM 46 8,jJ 47 1 45 46,jE 48 47,jQ 49 .shr 48 .u64 31,jJ 50 1 36 37,jS 1 50 44,jM 7 49] [0,3,4,5,6,7,32,33]))) (jr [jP 51 .add 33 1,jM 33 51] [0,3,4,5,6,7,32,33]))))
def Vl:ACode:=(.seq (js [jM 18 6,jP 19 .geq 18 0] [0,3,4,5,6,19] (jx 19 0)) (.seq (.block 1 (js [jM 22 0,jM 23 6,jP 24 .quo 23 32,jJ 25 1 22 24,jE 26 25,jM 27 6,jP 28 .rem 27 32,jO 29 .shr 26 28,jQ 30 .and 29 .u32 1,jM 7 30] [0,3,4,5,6,7] (.seq (js [jM 31 3,jY 32 31,jI 33 0] [0,3,4,5,6,7,32,33] (jK 2 Yx)) (js [jk 9 .u32 0] [0,3,4,5,6,9] (.seq (js [jM 52 3,jY 53 52,jI 54 0] [0,3,4,5,6,9,53,54] (jK 4 Yy)) (js [jM 74 9,jQ 75 .eql 74 .u32 0] [0,3,4,5,6,75] (.cond (jt 75) (jr [jM 76 5,jM 77 3,jM 3 76,jM 5 77] [0,3,4,5,6]) .skip))))))) (jr [jM 20 6,jP 21 .sub 20 1,jM 6 21] [0,3,4,5,6])))
def a41:AFun:=⟨(js [jn 2] [0] (js [jo 11 (.makeSlice [(.int .u32 0)] 4 (ji 8) (ji 8)),jo 12 (.call 121 [] false),jo 13 (.makeSlice [(.int .u32 0)] 4 (ji 8) (ji 8)),jM 3 11,jM 4 12,jM 5 13] [0,3,4,5] (.seq (js [jM 14 0,jY 15 14,jo 16 (.bin .mul (ji 32) (jt 15)),jP 17 .sub 16 1,jM 6 17] [0,3,4,5,6] (jK 0 Vl)) (ja [jM 78 3,jM 2 78] [2])))),[(2,none)]⟩
def Td:ACode:=(js [jP 6 .lss 5 32] [0,2,3,5,6] (.seq (jx 6 0) (.seq (.block 1 (js [jM 7 5,jM 4 7] [0,2,3,4,5] (jr [jM 8 4,jM 9 0,jM 10 4,jP 11 .quo 10 4,jJ 12 1 9 11,jE 13 12,jM 14 4,jP 15 .rem 14 4,jo 16 (.bin .mul (ji 8) (jt 15)),jO 17 .shr 13 16,jV 18 .u8 17,jH 19 32 1 3 8,jS 1 19 18] [0,2,3,5]))) (jr [jP 20 .add 5 1,jM 5 20] [0,2,3,5]))))
def a42:AFun:=⟨(js [jZ 2 32 .u8] [0,2] (js [jZ 3 32 .u8] [0,2,3] (.seq (js [jI 5 0] [0,2,3,5] (jK 0 Td)) (ja [jL 21 32 3,jS 32 2 21] [2])))),[(2,(some (some 32)))]⟩
def Tc:ACode:=(js [jO 27 .lss 26 25] [1,5,6,7,8,17,18,19,24,25,26,27] (.seq (jx 27 2) (.seq (.block 3 (js [jM 28 26,jJ 29 1 24 26,jE 30 29,jM 9 28,jM 10 30] [1,5,6,7,8,9,10,17,18,19,24,25,26] (js [jM 31 8,jM 32 5,jM 33 6,jM 34 9,jO 35 .add 33 34,jJ 36 1 32 35,jE 37 36,jV 38 .u64 37,jM 39 7,jV 40 .u64 39,jM 41 10,jV 42 .u64 41,jO 43 .mul 40 42,jO 44 .add 38 43,jO 45 .add 31 44,jM 8 45] [1,5,6,7,8,9,17,18,19,24,25,26] (js [jM 46 5,jM 47 6,jM 48 9,jO 49 .add 47 48,jM 50 8,jV 51 .u32 50,jJ 52 1 46 49,jS 1 52 51] [1,5,6,7,8,17,18,19,24,25,26] (jr [jM 53 8,jQ 54 .shr 53 .u64 32,jM 8 54] [1,5,6,7,8,17,18,19,24,25,26]))))) (jr [jP 55 .add 26 1,jM 26 55] [1,5,6,7,8,17,18,19,24,25,26]))))
def Tb:ACode:=(js [jO 20 .lss 19 18] [1,5,17,18,19,20] (.seq (jx 20 0) (.seq (.block 1 (js [jM 21 19,jJ 22 1 17 19,jE 23 22,jM 6 21,jM 7 23] [1,5,6,7,17,18,19] (js [jk 8 .u64 0] [1,5,6,7,8,17,18,19] (.seq (js [jM 24 1,jY 25 24,jI 26 0] [1,5,6,7,8,17,18,19,24,25,26] (jK 2 Tc)) (jr [jM 56 5,jM 57 6,jM 58 1,jY 59 58,jO 60 .add 57 59,jM 61 8,jV 62 .u32 61,jJ 63 1 56 60,jS 1 63 62] [1,5,17,18,19]))))) (jr [jP 64 .add 19 1,jM 19 64] [1,5,17,18,19]))))
def a44:AFun:=⟨(js [jn 4] [0,1] (js [jM 11 0,jY 12 11,jM 13 1,jY 14 13,jO 15 .add 12 14,jo 16 (.makeSlice [(.int .u32 0)] 4 (jt 15) (jt 15)),jM 5 16] [0,1,5] (.seq (js [jM 17 0,jY 18 17,jI 19 0] [1,5,17,18,19] (jK 0 Tb)) (ja [jM 65 5,jM 4 65] [4])))),[(4,none)]⟩
def UO:ACode:=(js [jO 21 .lss 20 19] [1,5,6,19,20,21] (.seq (jx 21 0) (.seq (.block 1 (js [jM 22 20,jM 7 22] [1,5,6,7,19,20] (js [jk 8 .u32 0] [1,5,6,7,8,19,20] (.seq (js [jM 23 7,jM 24 1,jY 25 24,jO 26 .lss 23 25] [1,5,6,7,8,19,20,26] (.cond (jt 26) (jr [jM 27 1,jM 28 7,jJ 29 1 27 28,jE 30 29,jM 8 30] [1,5,6,7,8,19,20]) .skip)) (jr [jM 32 5,jM 33 7,jM 34 5,jM 35 7,jJ 36 1 34 35,jE 37 36,jM 38 8,jM 39 6,jG 40 187 37 38 39,jM 31 40,jX 41 31 0,jX 42 31 1,jJ 43 1 32 33,jS 1 43 41,jM 6 42] [1,5,6,19,20]))))) (jr [jP 44 .add 20 1,jM 20 44] [1,5,6,19,20]))))
def a45:AFun:=⟨(js [jn 4] [0,1] (js [jM 9 0,jY 10 9,jP 11 .add 10 1,jo 12 (.makeSlice [(.int .u32 0)] 4 (ji 0) (jt 11)),jM 13 0,jh 14 1 4 12 13,jM 5 14] [1,5] (js [jM 15 5,jo 16 (.buildSlice [(.int .u32 0)] 1 [jg 0 .u32 0]),jh 17 1 4 15 16,jM 5 17] [1,5] (js [jk 6 .u32 0] [1,5,6] (.seq (js [jM 18 5,jY 19 18,jI 20 0] [1,5,6,19,20] (jK 0 UO)) (ja [jM 45 5,jM 4 45] [4])))))),[(4,none)]⟩
def Ta:ACode:=(js [jO 10 .lss 9 8] [0,1,5,8,9,10] (.seq (jx 10 0) (.seq (.block 1 (js [jM 11 9,jM 6 11] [0,1,5,6,8,9] (jr [jM 13 0,jM 14 6,jJ 15 1 13 14,jE 16 15,jM 17 1,jM 18 6,jJ 19 1 17 18,jE 20 19,jM 21 5,jG 22 178 16 20 21,jM 12 22,jX 23 12 0,jX 24 12 1,jM 5 24] [0,1,5,8,9]))) (jr [jP 25 .add 9 1,jM 9 25] [0,1,5,8,9]))))
def a46:AFun:=⟨(js [jT 4 false] [0,1] (js [jk 5 .u32 0] [0,1,5] (.seq (js [jM 7 0,jY 8 7,jI 9 0] [0,1,5,8,9] (jK 0 Ta)) (ja [jM 26 5,jQ 27 .eql 26 .u32 1,jM 4 27] [4])))),[(4,none)]⟩
def a47:AFun:=⟨(js [jn 0] [] (ja [jo 1 (.buildSlice (Qc 8 (.int .u32 0)) 8 [jg 0 .u32 1559614445,jg 1 .u32 1477600026,jg 2 .u32 2734136534,jg 3 .u32 350157278,jg 4 .u32 0,jg 5 .u32 0,jg 6 .u32 0,jg 7 .u32 268435456]),jM 0 1] [0])),[(0,none)]⟩
def RZ:ACode:=(js [jP 6 .lss 5 255] [1,2,3,5,6] (.seq (jx 6 0) (.seq (.block 1 (js [jM 7 5,jM 4 7] [1,2,3,4,5] (jr [jM 8 4,jP 9 .quo 8 51,jF 10 0 3,jH 11 5 1 10 9,jE 12 11,jM 13 4,jP 14 .quo 13 8,jH 15 32 1 1 14,jE 16 15,jM 17 4,jP 18 .rem 17 8,jO 19 .shr 16 18,jQ 20 .and 19 .u8 1,jV 21 .u64 20,jM 22 4,jP 23 .rem 22 51,jO 24 .shl 21 23,jO 25 .or 12 24,jF 26 0 3,jH 27 5 1 26 9,jS 1 27 25] [1,2,3,5]))) (jr [jP 28 .add 5 1,jM 5 28] [1,2,3,5]))))
def a49:AFun:=⟨(js [jB 1 0,jZ 2 5 .u64] [1,2] (js [jZ 3 5 .u64] [1,2,3] (.seq (js [jI 5 0] [1,2,3,5] (jK 0 RZ)) (ja [jL 29 5 3,jS 5 2 29] [2])))),[(2,(some (some 5)))]⟩
def a50:AFun:=⟨(js [jZ 2 5 .u64] [0,2] (ja [jM 3 0,jV 4 .u64 3,jo 5 (.build (Qc 5 (.int .u64 0)) [jp 0 1 4]),jo 6 (.build (Qc 5 (.int .u64 0)) [jp 0 5 5]),jS 5 2 6] [2])),[(2,(some (some 5)))]⟩
def a51:AFun:=⟨(js [jB 2 0,jB 3 1,jZ 4 5 .u64] [2,3,4] (js [jF 29 0 2,jF 30 0 3,jM 5 29,jM 6 30] [4,5,6] (js [jM 31 5,jN 32 31,jA 33 5 1 32 1,jE 34 33,jo 35 (.bin .mul (.const (.int .u64 19)) (jt 34)),jM 36 5,jN 37 36,jA 38 5 1 37 2,jE 39 38,jo 40 (.bin .mul (.const (.int .u64 19)) (jt 39)),jM 41 5,jN 42 41,jA 43 5 1 42 3,jE 44 43,jo 45 (.bin .mul (.const (.int .u64 19)) (jt 44)),jM 46 5,jN 47 46,jA 48 5 1 47 4,jE 49 48,jo 50 (.bin .mul (.const (.int .u64 19)) (jt 49)),jM 7 35,jM 8 40,jM 9 45,jM 10 50] [4,5,6,7,8,9,10] (js [jM 51 5,jN 52 51,jA 53 5 1 52 0,jE 54 53,jM 55 6,jN 56 55,jA 57 5 1 56 0,jE 58 57,jD 59 169 54 58,jM 60 7,jM 61 6,jN 62 61,jA 63 5 1 62 4,jE 64 63,jG 65 170 59 60 64,jM 66 8,jM 67 6,jN 68 67,jA 69 5 1 68 3,jE 70 69,jG 71 170 65 66 70,jM 72 9,jM 73 6,jN 74 73,jA 75 5 1 74 2,jE 76 75,jG 77 170 71 72 76,jM 78 10,jM 79 6,jN 80 79,jA 81 5 1 80 1,jE 82 81,jG 83 170 77 78 82,jo 11 (.alloc [(.int .u64 0),(.int .u64 0)]),jS 2 11 83] [4,5,6,8,9,10,11] (js [jM 84 5,jN 85 84,jA 86 5 1 85 0,jE 87 86,jM 88 6,jN 89 88,jA 90 5 1 89 1,jE 91 90,jD 92 169 87 91,jM 93 5,jN 94 93,jA 95 5 1 94 1,jE 96 95,jM 97 6,jN 98 97,jA 99 5 1 98 0,jE 100 99,jG 101 170 92 96 100,jM 102 8,jM 103 6,jN 104 103,jA 105 5 1 104 4,jE 106 105,jG 107 170 101 102 106,jM 108 9,jM 109 6,jN 110 109,jA 111 5 1 110 3,jE 112 111,jG 113 170 107 108 112,jM 114 10,jM 115 6,jN 116 115,jA 117 5 1 116 2,jE 118 117,jG 119 170 113 114 118,jo 12 (.alloc [(.int .u64 0),(.int .u64 0)]),jS 2 12 119] [4,5,6,9,10,11,12] (js [jM 120 5,jN 121 120,jA 122 5 1 121 0,jE 123 122,jM 124 6,jN 125 124,jA 126 5 1 125 2,jE 127 126,jD 128 169 123 127,jM 129 5,jN 130 129,jA 131 5 1 130 1,jE 132 131,jM 133 6,jN 134 133,jA 135 5 1 134 1,jE 136 135,jG 137 170 128 132 136,jM 138 5,jN 139 138,jA 140 5 1 139 2,jE 141 140,jM 142 6,jN 143 142,jA 144 5 1 143 0,jE 145 144,jG 146 170 137 141 145,jM 147 9,jM 148 6,jN 149 148,jA 150 5 1 149 4,jE 151 150,jG 152 170 146 147 151,jM 153 10,jM 154 6,jN 155 154,jA 156 5 1 155 3,jE 157 156,jG 158 170 152 153 157,jo 13 (.alloc [(.int .u64 0),(.int .u64 0)]),jS 2 13 158] [4,5,6,10,11,12,13] (js [jM 159 5,jN 160 159,jA 161 5 1 160 0,jE 162 161,jM 163 6,jN 164 163,jA 165 5 1 164 3,jE 166 165,jD 167 169 162 166,jM 168 5,jN 169 168,jA 170 5 1 169 1,jE 171 170,jM 172 6,jN 173 172,jA 174 5 1 173 2,jE 175 174,jG 176 170 167 171 175,jM 177 5,jN 178 177,jA 179 5 1 178 2,jE 180 179,jM 181 6,jN 182 181,jA 183 5 1 182 1,jE 184 183,jG 185 170 176 180 184,jM 186 5,jN 187 186,jA 188 5 1 187 3,jE 189 188,jM 190 6,jN 191 190,jA 192 5 1 191 0,jE 193 192,jG 194 170 185 189 193,jM 195 10,jM 196 6,jN 197 196,jA 198 5 1 197 4,jE 199 198,jG 200 170 194 195 199,jo 14 (.alloc [(.int .u64 0),(.int .u64 0)]),jS 2 14 200] [4,5,6,11,12,13,14] (js [jM 201 5,jN 202 201,jA 203 5 1 202 0,jE 204 203,jM 205 6,jN 206 205,jA 207 5 1 206 4,jE 208 207,jD 209 169 204 208,jM 210 5,jN 211 210,jA 212 5 1 211 1,jE 213 212,jM 214 6,jN 215 214,jA 216 5 1 215 3,jE 217 216,jG 218 170 209 213 217,jM 219 5,jN 220 219,jA 221 5 1 220 2,jE 222 221,jM 223 6,jN 224 223,jA 225 5 1 224 2,jE 226 225,jG 227 170 218 222 226,jM 228 5,jN 229 228,jA 230 5 1 229 3,jE 231 230,jM 232 6,jN 233 232,jA 234 5 1 233 1,jE 235 234,jG 236 170 227 231 235,jM 237 5,jN 238 237,jA 239 5 1 238 4,jE 240 239,jM 241 6,jN 242 241,jA 243 5 1 242 0,jE 244 243,jG 245 170 236 240 244,jo 15 (.alloc [(.int .u64 0),(.int .u64 0)]),jS 2 15 245] [4,11,12,13,14,15] (js [jL 247 2 11,jC 248 171 247,jM 246 248,jX 249 246 0,jX 250 246 1,jM 16 249,jM 17 250] [4,12,13,14,15,16,17] (js [jL 252 2 12,jC 253 171 252,jM 251 253,jX 254 251 0,jX 255 251 1,jM 18 254,jM 19 255] [4,13,14,15,16,17,18,19] (js [jL 257 2 13,jC 258 171 257,jM 256 258,jX 259 256 0,jX 260 256 1,jM 20 259,jM 21 260] [4,14,15,16,17,18,19,20,21] (js [jL 262 2 14,jC 263 171 262,jM 261 263,jX 264 261 0,jX 265 261 1,jM 22 264,jM 23 265] [4,15,16,17,18,19,20,21,22,23] (js [jL 267 2 15,jC 268 171 267,jM 266 268,jX 269 266 0,jX 270 266 1,jM 24 269,jM 25 270] [4,16,17,18,19,20,21,22,23,24,25] (js [jM 271 24,jo 272 (.call 169 [(.const (.int .u64 19)),(jt 271)] true),jM 273 17,jD 274 172 272 273,jo 26 (.alloc [(.int .u64 0),(.int .u64 0)]),jS 2 26 274] [4,16,18,19,20,21,22,23,25,26] (js [jL 276 2 26,jC 277 171 276,jM 275 277,jX 278 275 0,jX 279 275 1,jM 27 278,jM 28 279] [4,16,18,19,20,21,22,23,25,27,28] (ja [jM 280 28,jM 281 19,jM 282 16,jO 283 .add 281 282,jM 284 27,jO 285 .add 283 284,jM 286 21,jM 287 18,jO 288 .add 286 287,jM 289 23,jM 290 20,jO 291 .add 289 290,jM 292 25,jM 293 22,jO 294 .add 292 293,jo 295 (.build (Qc 5 (.int .u64 0)) [jp 0 1 280,jp 1 1 285,jp 2 1 288,jp 3 1 291,jp 4 1 294]),jo 296 (.build (Qc 5 (.int .u64 0)) [jp 0 5 295]),jC 297 173 296,jS 5 4 297] [4])))))))))))))))),[(4,(some (some 5)))]⟩
def a52:AFun:=⟨(js [jZ 0 5 .u64] [0] (ja [jb 1 [jg 0 .u8 163,jg 1 .u8 120,jg 2 .u8 89,jg 3 .u8 19,jg 4 .u8 202,jg 5 .u8 77,jg 6 .u8 235,jg 7 .u8 117,jg 8 .u8 171,jg 9 .u8 216,jg 10 .u8 65,jg 11 .u8 65,jg 12 .u8 77,jg 13 .u8 10,jg 14 .u8 112,jg 15 .u8 0,jg 16 .u8 152,jg 17 .u8 232,jg 18 .u8 121,jg 19 .u8 119,jg 20 .u8 121,jg 21 .u8 64,jg 22 .u8 199,jg 23 .u8 140,jg 24 .u8 115,jg 25 .u8 254,jg 26 .u8 111,jg 27 .u8 43,jg 28 .u8 238,jg 29 .u8 108,jg 30 .u8 3,jg 31 .u8 82] 32,jC 2 106 1,jS 5 0 2] [0])),[(0,(some (some 5)))]⟩
def a53:AFun:=⟨(js [jB 1 0,jZ 2 20 .u64] [1,2] (js [jF 11 0 1,jL 12 5 11,jF 13 0 1,jL 14 5 13,jD 15 108 12 14,jF 16 5 1,jL 17 5 16,jF 18 5 1,jL 19 5 18,jD 20 108 17 19,jZ 3 5 .u64,jZ 4 5 .u64,jS 5 3 15,jS 5 4 20] [1,2,3,4] (js [jv 21 111 .u32 2,jF 22 10 1,jL 23 5 22,jF 24 10 1,jL 25 5 24,jo 26 (.buildSlice (Qc 15 (.int .u64 0)) 3 [jp 0 5 21,jp 5 5 23,jp 10 5 25]),jc 27 174 26,jZ 5 5 .u64,jS 5 5 27] [1,2,3,4,5] (js [jL 28 5 3,jL 29 5 4,jo 30 (.buildSlice (Qc 10 (.int .u64 0)) 2 [jp 0 5 28,jp 5 5 29]),jc 31 112 30,jZ 6 5 .u64,jS 5 6 31] [1,2,3,4,5,6] (js [jF 32 0 1,jL 33 5 32,jF 34 5 1,jL 35 5 34,jo 36 (.buildSlice (Qc 10 (.int .u64 0)) 2 [jp 0 5 33,jp 5 5 35]),jc 37 112 36,jZ 7 5 .u64,jS 5 7 37] [2,3,4,5,6,7] (js [jL 38 5 6,jL 39 5 7,jL 40 5 7,jD 41 108 39 40,jD 42 110 38 41,jZ 8 5 .u64,jS 5 8 42] [2,3,4,5,6,8] (js [jL 43 5 3,jL 44 5 4,jD 45 110 43 44,jZ 9 5 .u64,jS 5 9 45] [2,5,6,8,9] (js [jL 46 5 5,jL 47 5 9,jo 48 (.buildSlice (Qc 10 (.int .u64 0)) 2 [jp 0 5 46,jp 5 5 47]),jc 49 112 48,jZ 10 5 .u64,jS 5 10 49] [2,6,8,9,10] (ja [jL 50 5 8,jL 51 5 10,jD 52 108 50 51,jL 53 5 9,jL 54 5 6,jD 55 108 53 54,jL 56 5 10,jL 57 5 9,jD 58 108 56 57,jL 59 5 8,jL 60 5 6,jD 61 108 59 60,jo 62 (.build (Qc 20 (.int .u64 0)) [jp 0 5 52,jp 5 5 55,jp 10 5 58,jp 15 5 61]),jS 20 2 62] [2]))))))))),[(2,(some (some 20)))]⟩
def a54:AFun:=⟨(js [jB 3 0,jB 4 1,jB 5 2,jZ 6 20 .u64] [3,4,5,6] (js [jF 15 5 3,jL 16 5 15,jF 17 0 3,jL 18 5 17,jD 19 110 16 18,jF 20 5 4,jL 21 5 20,jF 22 0 4,jL 23 5 22,jD 24 110 21 23,jD 25 108 19 24,jZ 7 5 .u64,jS 5 7 25] [3,4,5,6,7] (.seq (.region [jF 26 5 3,jL 27 5 26,jF 28 0 3,jL 29 5 28,jo 30 (.buildSlice (Qc 10 (.int .u64 0)) 2 [jp 0 5 27,jp 5 5 29]),jc 31 112 30,jF 32 5 4,jL 33 5 32,jF 34 0 4,jL 35 5 34,jo 36 (.buildSlice (Qc 10 (.int .u64 0)) 2 [jp 0 5 33,jp 5 5 35]),jc 37 112 36,jD 38 108 31 37,jZ 8 5 .u64,jS 5 8 38] (some [3,4,5,6,7,8]) [(5,7),(5,9)]) (js [jv 39 111 .u32 2,jL 40 5 5,jF 41 15 3,jL 42 5 41,jF 43 15 4,jL 44 5 43,jo 45 (.buildSlice (Qc 20 (.int .u64 0)) 4 [jp 0 5 39,jp 5 5 40,jp 10 5 42,jp 15 5 44]),jc 46 174 45,jZ 9 5 .u64,jS 5 9 46] [3,4,6,7,8,9] (js [jv 47 111 .u32 2,jF 48 10 3,jL 49 5 48,jF 50 10 4,jL 51 5 50,jo 52 (.buildSlice (Qc 15 (.int .u64 0)) 3 [jp 0 5 47,jp 5 5 49,jp 10 5 51]),jc 53 174 52,jZ 10 5 .u64,jS 5 10 53] [6,7,8,9,10] (.seq (.region [jL 54 5 8,jL 55 5 7,jD 56 110 54 55,jL 57 5 10,jL 58 5 9,jD 59 110 57 58,jL 60 5 10,jL 61 5 9,jo 62 (.buildSlice (Qc 10 (.int .u64 0)) 2 [jp 0 5 60,jp 5 5 61]),jc 63 112 62,jL 64 5 8,jL 65 5 7,jo 66 (.buildSlice (Qc 10 (.int .u64 0)) 2 [jp 0 5 64,jp 5 5 65]),jc 67 112 66,jZ 11 5 .u64,jZ 12 5 .u64,jZ 13 5 .u64,jZ 14 5 .u64,jS 5 11 56,jS 5 12 59,jS 5 13 63,jS 5 14 67] (some [6,11,12,13,14]) [(9,10),(9,11)]) (ja [jL 68 5 11,jL 69 5 12,jD 70 108 68 69,jL 71 5 13,jL 72 5 14,jD 73 108 71 72,jL 74 5 12,jL 75 5 13,jD 76 108 74 75,jL 77 5 11,jL 78 5 14,jD 79 108 77 78,jo 80 (.build (Qc 20 (.int .u64 0)) [jp 0 5 70,jp 5 5 73,jp 10 5 76,jp 15 5 79]),jS 20 6 80] [6]))))))),[(6,(some (some 20)))]⟩
def a55:AFun:=⟨(js [jB 2 0,jB 3 1,jT 4 false] [2,3] (ja [jL 5 5 2,jC 6 126 5,jL 7 5 3,jC 8 126 7,je 9 32 false 6 8,jM 4 9] [4])),[(4,none)]⟩
def a56:AFun:=⟨(js [jB 1 0,jZ 2 5 .u64] [1,2] (ja [jL 3 5 1,jo 4 (.call 176 [(ji 255),(.const (.int .u8 20))] true),jD 5 175 3 4,jS 5 2 5] [2])),[(2,(some (some 5)))]⟩
def D1:ACode:=(js [jP 55 .lss 54 255] [1,2,6,54,55] (.seq (jx 55 4) (.seq (.block 5 (js [jM 56 54,jM 8 56] [1,2,6,8,54] (jr [jM 57 8,jP 58 .quo 57 8,jH 59 32 1 6 58,jE 60 59,jM 61 8,jP 62 .quo 61 51,jF 63 0 1,jH 64 5 1 63 62,jE 65 64,jM 66 8,jP 67 .rem 66 51,jO 68 .shr 65 67,jQ 69 .and 68 .u64 1,jV 70 .u8 69,jM 71 8,jP 72 .rem 71 8,jO 73 .shl 70 72,jO 74 .or 60 73,jH 75 32 1 6 58,jS 1 75 74] [1,2,6,54]))) (jr [jP 76 .add 54 1,jM 54 76] [1,2,6,54]))))
def RY:ACode:=(js [jP 31 .lss 30 5] [1,2,3,6,30,31] (.seq (jx 31 2) (.seq (.block 3 (js [jM 32 30,jM 7 32] [1,2,3,6,7,30] (js [jM 33 7,jF 34 0 1,jH 35 5 1 34 33,jE 36 35,jM 37 3,jO 38 .add 36 37,jF 39 0 1,jH 40 5 1 39 33,jS 1 40 38] [1,2,6,7,30] (js [jM 41 7,jF 42 0 1,jH 43 5 1 42 41,jE 44 43,jQ 45 .shr 44 .u64 51,jM 3 45] [1,2,3,6,7,30] (jr [jM 46 7,jF 47 0 1,jH 48 5 1 47 46,jE 49 48,jQ 50 .and 49 .u64 2251799813685247,jF 51 0 1,jH 52 5 1 51 46,jS 1 52 50] [1,2,3,6,30]))))) (jr [jP 53 .add 30 1,jM 30 53] [1,2,3,6,30]))))
def RX:ACode:=(js [jP 15 .lss 14 5] [1,2,3,13,14,15] (.seq (jx 15 0) (.seq (.block 1 (js [jo 16 (.index none 5 1 (jt 13) (jt 14)),jM 5 16] [1,2,3,5,13,14] (jr [jM 17 5,jM 18 3,jO 19 .add 17 18,jQ 20 .shr 19 .u64 51,jM 3 20] [1,2,3,13,14]))) (jr [jP 21 .add 14 1,jM 14 21] [1,2,3,13,14]))))
def a57:AFun:=⟨(js [jB 1 0,jZ 2 32 .u8] [1,2] (js [jL 9 5 1,jC 10 173 9,jC 11 173 10,jS 5 1 11] [1,2] (js [jk 3 .u64 19] [1,2,3] (.seq (js [jF 12 0 1,jL 13 5 12,jI 14 0] [1,2,3,13,14] (jK 0 RX)) (js [jF 22 0 1,jA 23 5 1 22 0,jE 24 23,jM 25 3,jo 26 (.bin .mul (.const (.int .u64 19)) (jt 25)),jO 27 .add 24 26,jF 28 0 1,jA 29 5 1 28 0,jS 1 29 27] [1,2] (js [jk 3 .u64 0] [1,2,3] (js [jZ 6 32 .u8] [1,2,3,6] (.seq (js [jI 30 0] [1,2,3,6,30] (jK 2 RY)) (.seq (js [jI 54 0] [1,2,6,54] (jK 4 D1)) (ja [jL 77 32 6,jS 32 2 77] [2])))))))))),[(2,(some (some 32)))]⟩
def a58:AFun:=⟨(js [jB 1 0,jT 2 false] [1] (ja [jL 3 5 1,jC 4 126 3,jo 5 (.index none 32 1 (jt 4) (ji 0)),jQ 6 .and 5 .u8 1,jQ 7 .eql 6 .u8 1,jM 2 7] [2])),[(2,none)]⟩
def a59:AFun:=⟨(js [jB 1 0,jT 2 false] [1] (ja [jL 3 32 1,jC 4 106 3,jC 5 126 4,jL 6 32 1,je 7 32 false 5 6,jM 2 7] [2])),[(2,none)]⟩
def a60:AFun:=⟨(js [jB 2 0,jB 3 1,jZ 4 5 .u64,jT 5 false] [2,3,4] (js [jL 9 5 3,jL 10 5 3,jL 11 5 3,jo 12 (.buildSlice (Qc 15 (.int .u64 0)) 3 [jp 0 5 9,jp 5 5 10,jp 10 5 11]),jc 13 174 12,jZ 6 5 .u64,jS 5 6 13] [2,3,4,6] (.seq (.region [jL 14 5 2,jL 15 5 6,jL 16 5 2,jL 17 5 6,jL 18 5 6,jL 19 5 3,jo 20 (.buildSlice (Qc 20 (.int .u64 0)) 4 [jp 0 5 16,jp 5 5 17,jp 10 5 18,jp 15 5 19]),jc 21 174 20,jo 22 (.call 176 [(ji 252),(.const (.int .u8 2))] true),jD 23 175 21 22,jo 24 (.buildSlice (Qc 15 (.int .u64 0)) 3 [jp 0 5 14,jp 5 5 15,jp 10 5 23]),jc 25 174 24,jZ 7 5 .u64,jS 5 7 25] (some [2,3,4,7]) [(0,7),(1,7)]) (.seq (js [jL 26 5 3,jL 27 5 7,jL 28 5 7,jo 29 (.buildSlice (Qc 15 (.int .u64 0)) 3 [jp 0 5 26,jp 5 5 27,jp 10 5 28]),jc 30 174 29,jZ 8 5 .u64,jS 5 8 30] [2,4,7,8] (.block 0 (js [jL 33 5 8,jL 34 5 2,jD 35 177 33 34,jM 32 35] [2,4,7,8,32] (.cond (jt 32) .skip (js [jL 37 5 8,jL 38 5 2,jC 39 115 38,jD 40 177 37 39,jM 36 40] [4,7,36] (.cond (jt 36) (jr [jL 41 5 7,jv 42 111 .u32 2,jo 43 (.call 176 [(ji 253),(.const (.int .u8 4))] true),jD 44 175 42 43,jD 45 108 41 44,jS 5 7 45] [4,7]) (ja [jo 31 (.build (Qc 5 (.int .u64 0)) []),jS 5 4 31,jT 5 false] [4,5]))))))) (.seq (js [jL 46 5 7,jC 47 127 46] [4,7,47] (.cond (jt 47) (jr [jL 48 5 7,jC 49 115 48,jS 5 7 49] [4,7]) .skip)) (ja [jL 50 5 7,jS 5 4 50,jT 5 true] [4,5])))))),[(4,(some (some 5))),(5,none)]⟩
def RW:ACode:=(js [jP 7 .lss 6 5] [2,3,4,6,7] (.seq (jx 7 0) (.seq (.block 1 (js [jM 8 6,jM 5 8] [2,3,4,5,6] (jr [jM 9 5,jF 10 0 2,jH 11 5 1 10 9,jE 12 11,jM 13 5,jF 14 0 3,jH 15 5 1 14 13,jE 16 15,jo 17 (.bin .sub (.const (.int .u64 9007199254740988)) (jt 16)),jO 18 .add 12 17,jF 19 0 2,jH 20 5 1 19 9,jS 1 20 18] [2,3,4,6]))) (jr [jP 21 .add 6 1,jM 6 21] [2,3,4,6]))))
def a61:AFun:=⟨(js [jB 2 0,jB 3 1,jZ 4 5 .u64] [2,3,4] (.seq (js [jI 6 0] [2,3,4,6] (jK 0 RW)) (js [jF 22 0 2,jA 23 5 1 22 0,jE 24 23,jQ 25 .sub 24 .u64 72,jF 26 0 2,jA 27 5 1 26 0,jS 1 27 25] [2,4] (ja [jL 28 5 2,jC 29 173 28,jS 5 4 29] [4])))),[(4,(some (some 5)))]⟩
def RV:ACode:=(js [jP 15 .lss 14 5] [2,3,4,5,7,8,9,14,15] (.seq (jx 15 2) (.seq (.block 3 (js [jM 16 14,jM 6 16] [2,3,4,5,6,7,8,9,14] (jr [jM 17 6,jF 18 0 3,jH 19 5 1 18 17,jE 20 19,jM 21 6,jF 22 0 5,jH 23 5 1 22 21,jE 24 23,jO 25 .add 20 24,jF 26 0 3,jH 27 5 1 26 17,jS 1 27 25] [2,3,4,5,7,8,9,14]))) (jr [jP 28 .add 14 1,jM 14 28] [2,3,4,5,7,8,9,14]))))
def RU:ACode:=(js [jO 10 .lss 9 8] [2,3,7,8,9,10] (.seq (jx 10 0) (.seq (.block 1 (js [jM 11 9,jJ 12 5 7 9,jL 13 5 12,jZ 5 5 .u64,jM 4 11,jS 5 5 13] [2,3,4,5,7,8,9] (.seq (js [jI 14 0] [2,3,4,5,7,8,9,14] (jK 2 RV)) (js [jM 29 4,jP 30 .rem 29 64,jP 31 .eql 30 63] [2,3,7,8,9,31] (.cond (jt 31) (jr [jL 32 5 3,jC 33 173 32,jS 5 3 33] [2,3,7,8,9]) .skip))))) (jr [jP 34 .add 9 1,jM 9 34] [2,3,7,8,9]))))
def a62:AFun:=⟨(js [jZ 2 5 .u64] [0,2] (js [jZ 3 5 .u64] [0,2,3] (.seq (js [jM 7 0,jY 8 7,jI 9 0] [2,3,7,8,9] (jK 0 RU)) (ja [jL 35 5 3,jC 36 173 35,jS 5 2 36] [2])))),[(2,(some (some 5)))]⟩
def a63:AFun:=⟨(js [jB 1 0,jT 2 false] [1] (ja [jL 3 5 1,jC 4 126 3,jb 5 [] 32,je 6 32 false 4 5,jM 2 6] [2])),[(2,none)]⟩
def a64:AFun:=⟨(js [jB 1 0,jZ 2 5 .u64] [1,2] (ja [jo 3 (.build (Qc 5 (.int .u64 0)) []),jL 4 5 1,jD 5 110 3 4,jS 5 2 5] [2])),[(2,(some (some 5)))]⟩
def a75:AFun:=⟨(js [jk 6 .u32 0,jk 7 .u32 0] [0,1,2] (js [jM 8 0,jM 9 1,jO 10 .sub 8 9,jM 11 2,jO 12 .sub 10 11,jM 6 12] [0,1,6] (ja [jM 13 0,jo 14 (.un .xor (jt 13)),jM 15 1,jO 16 .and 14 15,jM 17 0,jM 18 1,jO 19 .xor 17 18,jo 20 (.un .xor (jt 19)),jM 21 6,jO 22 .and 20 21,jO 23 .or 16 22,jQ 24 .shr 23 .u64 31,jM 7 24] [6,7]))),[(6,none),(7,none)]⟩
def a76:AFun:=⟨(js [jk 6 .u32 0,jk 7 .u32 0] [0,1,2] (js [jM 9 0,jV 10 .u64 9,jM 11 1,jV 12 .u64 11,jO 13 .add 10 12,jM 14 2,jV 15 .u64 14,jO 16 .add 13 15,jM 8 16] [8] (js [jM 17 8,jV 18 .u32 17,jM 6 18] [6,8] (ja [jM 19 8,jQ 20 .shr 19 .u64 32,jV 21 .u32 20,jM 7 21] [6,7])))),[(6,none),(7,none)]⟩
def a77:AFun:=⟨(js [jo 4 (.alloc [(.int .u64 0),(.int .u64 0)])] [0,1,4] (js [jM 8 0,jM 9 1,jD 10 204 8 9,jM 7 10,jX 11 7 0,jX 12 7 1,jM 5 11,jM 6 12] [4,5,6] (ja [jM 13 5,jM 14 6,jo 15 (.build [(.int .u64 0),(.int .u64 0)] [jp 0 1 13,jp 1 1 14]),jS 2 4 15] [4]))),[(4,(some (some 2)))]⟩
def a78:AFun:=⟨(js [jB 3 0,jo 6 (.alloc [(.int .u64 0),(.int .u64 0)])] [1,2,3,6] (js [jM 11 1,jM 12 2,jD 13 204 11 12,jM 10 13,jX 14 10 0,jX 15 10 1,jM 7 14,jM 8 15] [3,6,7,8] (js [jF 17 1 3,jE 18 17,jM 19 8,jo 20 (.call 205 [(jt 18),(jt 19),(.const (.int .u64 0))] true),jM 16 20,jX 21 16 0,jX 22 16 1,jM 8 21,jM 9 22] [3,6,7,8,9] (js [jF 24 0 3,jE 25 24,jM 26 7,jM 27 9,jG 28 205 25 26 27,jM 23 28,jX 29 23 0,jX 30 23 1,jM 7 29] [6,7,8] (ja [jM 31 7,jM 32 8,jo 33 (.build [(.int .u64 0),(.int .u64 0)] [jp 0 1 31,jp 1 1 32]),jS 2 6 33] [6]))))),[(6,(some (some 2)))]⟩
def a79:AFun:=⟨(js [jB 1 0,jk 2 .u64 0,jk 3 .u64 0] [1] (ja [jF 4 0 1,jE 5 4,jQ 6 .shl 5 .u64 13,jF 7 1 1,jE 8 7,jQ 9 .shr 8 .u64 51,jO 10 .or 6 9,jF 11 1 1,jE 12 11,jQ 13 .and 12 .u64 2251799813685247,jM 2 10,jM 3 13] [2,3])),[(2,none),(3,none)]⟩
def a80:AFun:=⟨(js [jB 2 0,jo 4 (.alloc [(.int .u64 0),(.int .u64 0)])] [1,2,4] (js [jF 8 1 2,jE 9 8,jM 10 1,jo 11 (.call 205 [(jt 9),(jt 10),(.const (.int .u64 0))] true),jM 7 11,jX 12 7 0,jX 13 7 1,jM 5 12,jM 6 13] [2,4,5,6] (ja [jF 14 0 2,jE 15 14,jM 16 6,jO 17 .add 15 16,jM 18 5,jo 19 (.build [(.int .u64 0),(.int .u64 0)] [jp 0 1 17,jp 1 1 18]),jS 2 4 19] [4]))),[(4,(some (some 2)))]⟩
def dT:ACode:=(js [jP 6 .lss 5 5] [1,2,3,5,6] (.seq (jx 6 0) (.seq (.block 1 (js [jM 7 5,jM 4 7] [1,2,3,4,5] (js [jM 8 4,jF 9 0 1,jH 10 5 1 9 8,jE 11 10,jM 12 3,jO 13 .add 11 12,jF 14 0 1,jH 15 5 1 14 8,jS 1 15 13] [1,2,4,5] (js [jM 16 4,jF 17 0 1,jH 18 5 1 17 16,jE 19 18,jQ 20 .shr 19 .u64 51,jM 3 20] [1,2,3,4,5] (jr [jM 21 4,jF 22 0 1,jH 23 5 1 22 21,jE 24 23,jQ 25 .and 24 .u64 2251799813685247,jF 26 0 1,jH 27 5 1 26 21,jS 1 27 25] [1,2,3,5]))))) (jr [jP 28 .add 5 1,jM 5 28] [1,2,3,5]))))
def a81:AFun:=⟨(js [jB 1 0,jZ 2 5 .u64] [1,2] (js [jk 3 .u64 0] [1,2,3] (.seq (js [jI 5 0] [1,2,3,5] (jK 0 dT)) (js [jF 29 0 1,jA 30 5 1 29 0,jE 31 30,jM 32 3,jo 33 (.bin .mul (.const (.int .u64 19)) (jt 32)),jO 34 .add 31 33,jF 35 0 1,jA 36 5 1 35 0,jS 1 36 34] [1,2] (ja [jL 37 5 1,jS 5 2 37] [2]))))),[(2,(some (some 5)))]⟩
def RT:ACode:=(js [jO 10 .lss 9 8] [2,3,7,8,9,10] (.seq (jx 10 0) (.seq (.block 1 (js [jJ 11 5 7 9,jL 12 5 11,jZ 5 5 .u64,jS 5 5 12] [2,3,5,7,8,9] (jr [jL 13 5 3,jL 14 5 5,jD 15 108 13 14,jS 5 3 15] [2,3,7,8,9]))) (jr [jP 16 .add 9 1,jM 9 16] [2,3,7,8,9]))))
def a82:AFun:=⟨(js [jZ 2 5 .u64] [0,2] (js [jv 6 111 .u32 1,jZ 3 5 .u64,jS 5 3 6] [0,2,3] (.seq (js [jM 7 0,jY 8 7,jI 9 0] [2,3,7,8,9] (jK 0 RT)) (ja [jL 17 5 3,jS 5 2 17] [2])))),[(2,(some (some 5)))]⟩
def D0:ACode:=(.seq (js [jM 8 6,jP 9 .geq 8 0] [2,3,4,5,6,9] (jx 9 0)) (.seq (.block 1 (js [jL 12 5 5,jL 13 5 5,jD 14 108 12 13,jS 5 5 14] [2,3,4,5,6] (js [jM 15 6,jP 16 .quo 15 8,jH 17 32 1 3 16,jE 18 17,jM 19 6,jP 20 .rem 19 8,jO 21 .shr 18 20,jQ 22 .and 21 .u8 1,jQ 23 .eql 22 .u8 1] [2,3,4,5,6,23] (.cond (jt 23) (jr [jL 24 5 5,jL 25 5 2,jD 26 108 24 25,jS 5 5 26] [2,3,4,5,6]) .skip)))) (jr [jM 10 6,jP 11 .sub 10 1,jM 6 11] [2,3,4,5,6])))
def a83:AFun:=⟨(js [jB 2 0,jB 3 1,jZ 4 5 .u64] [2,3,4] (js [jv 7 111 .u32 1,jZ 5 5 .u64,jS 5 5 7] [2,3,4,5] (.seq (js [jI 6 255] [2,3,4,5,6] (jK 0 D0)) (ja [jL 27 5 5,jS 5 4 27] [4])))),[(4,(some (some 5)))]⟩
def RS:ACode:=(js [jO 9 .lss 8 7] [1,4,5,7,8,9] (.seq (jx 9 0) (.seq (.block 1 (js [jM 10 8,jM 6 10] [1,4,5,6,7,8] (jr [jM 11 6,jP 12 .quo 11 8,jH 13 32 1 5 12,jE 14 13,jM 15 6,jP 16 .rem 15 8,jo 17 (.bin .shl (.const (.int .u8 1)) (jt 16)),jO 18 .or 14 17,jH 19 32 1 5 12,jS 1 19 18] [1,4,5,7,8]))) (jr [jP 20 .add 8 1,jM 8 20] [1,4,5,7,8]))))
def a84:AFun:=⟨(js [jZ 4 32 .u8] [0,1,4] (js [jZ 5 32 .u8] [0,1,4,5] (.seq (js [jM 7 0,jI 8 0] [1,4,5,7,8] (jK 0 RS)) (js [jA 21 32 1 5 0,jE 22 21,jM 23 1,jO 24 .sub 22 23,jA 25 32 1 5 0,jS 1 25 24] [4,5] (ja [jL 26 32 5,jS 32 4 26] [4]))))),[(4,(some (some 32)))]⟩
def a91:AFun:=⟨(js [jk 4 .u64 0,jk 5 .u64 0] [0,1] (js [jM 14 0,jQ 15 .and 14 .u64 4294967295,jM 6 15] [0,1,6] (js [jM 16 0,jQ 17 .shr 16 .u64 32,jM 7 17] [0,1,6,7] (js [jM 18 1,jQ 19 .and 18 .u64 4294967295,jM 8 19] [0,1,6,7,8] (js [jM 20 1,jQ 21 .shr 20 .u64 32,jM 9 21] [0,1,6,7,8,9] (js [jM 22 6,jM 23 8,jO 24 .mul 22 23,jM 10 24] [0,1,6,7,8,9,10] (js [jM 25 7,jM 26 8,jO 27 .mul 25 26,jM 28 10,jQ 29 .shr 28 .u64 32,jO 30 .add 27 29,jM 11 30] [0,1,6,7,9,11] (js [jM 31 11,jQ 32 .and 31 .u64 4294967295,jM 12 32] [0,1,6,7,9,11,12] (js [jM 33 11,jQ 34 .shr 33 .u64 32,jM 13 34] [0,1,6,7,9,12,13] (js [jM 35 12,jM 36 6,jM 37 9,jO 38 .mul 36 37,jO 39 .add 35 38,jM 12 39] [0,1,7,9,12,13] (js [jM 40 7,jM 41 9,jO 42 .mul 40 41,jM 43 13,jO 44 .add 42 43,jM 45 12,jQ 46 .shr 45 .u64 32,jO 47 .add 44 46,jM 4 47] [0,1,4] (ja [jM 48 0,jM 49 1,jO 50 .mul 48 49,jM 5 50] [4,5])))))))))))),[(4,none),(5,none)]⟩
def pz:AFun:=⟨(js [jB 2 0,jZ 4 64 .u8] [1,2,4] (js [jL 11 32 2,jC 12 84 11,jZ 5 64 .u8,jS 64 5 12] [1,4,5] (js [jf 13 66,jF 14 0 5,jL 15 32 14,jD 16 67 13 15,jC 17 69 16,jZ 6 32 .u8,jS 32 6 17] [1,4,5,6] (js [jF 18 32 5,jW 19 32 1 18,jo 20 (.buildSlice [(.slice none 0 0)] 1 [jp 0 1 19]),jM 21 1,jh 22 1 24 20 21,jc 23 64 22,jZ 7 32 .u8,jS 32 7 23] [1,4,5,6,7] (js [jf 24 66,jL 25 32 7,jD 26 67 24 25,jC 27 69 26,jZ 8 32 .u8,jS 32 8 27] [1,4,5,6,7,8] (js [jW 28 32 1 8,jW 29 32 1 6,jo 30 (.buildSlice [(.slice none 0 0),(.slice none 0 0)] 2 [jp 0 1 28,jp 1 1 29]),jM 31 1,jh 32 1 24 30 31,jc 33 64 32,jZ 9 32 .u8,jS 32 9 33] [4,5,7,8,9] (js [jL 34 32 9,jF 35 0 5,jL 36 32 35,jL 37 32 7,jG 38 85 34 36 37,jZ 10 32 .u8,jS 32 10 38] [4,8,10] (ja [jW 39 32 1 8,jW 40 32 1 10,jh 41 1 1 39 40,jo 42 (.s2ap 64 (jt 41)),jL 43 64 42,jS 64 4 43] [4])))))))),[(4,(some (some 64)))]⟩
def D3:AFun:=⟨(js [jB 3 0,jB 4 1,jI 6 0] [2,3,4] (js [jL 15 32 3,jC 16 61 15,jM 14 16,jX 17 14 0,jX 18 14 1,jZ 7 20 .u64,jS 20 7 17,jM 8 18] [2,3,4,7,8] (.seq (js [jM 19 8,jP 20 .neq 19 0] [2,3,4,7,8,20] (jl 20 [jM 21 8,jM 6 21] [6])) (js [jo 22 (.sliceArr 64 1 (jt 4) none (some (ji 32)) none),jo 23 (.s2ap 32 (jt 22)),jL 24 32 23,jo 25 (.sliceArr 64 1 (jt 4) (some (ji 32)) none none),jo 26 (.s2ap 32 (jt 25)),jL 27 32 26,jZ 9 32 .u8,jZ 10 32 .u8,jS 32 9 24,jS 32 10 27] [2,3,7,9,10] (.seq (js [jL 28 20 7,jC 29 62 28,jM 30 29,.mk (some 31) (.load (some 32) (jt 10)) (some (30,false)),.mk (some 32) (.call 63 [(jt 31)] true) (some (30,false)),.mk (some 33) (.un .not (jt 32)) (some (30,false)),jo 34 (.pick (jt 30) (.const (.bool true)) (jt 33))] [2,3,7,9,10,34] (jl 34 [jI 6 70] [6])) (.seq (js [jL 36 32 9,jC 37 61 36,jM 35 37,jX 38 35 0,jX 39 35 1,jZ 11 20 .u64,jS 20 11 38,jM 12 39] [2,3,7,9,10,12] (js [jM 40 12,jP 41 .neq 40 0] [2,3,7,9,10,41] (jl 41 [jI 6 70] [6]))) (js [jW 42 32 1 9,jW 43 32 1 3,jo 44 (.buildSlice [(.slice none 0 0),(.slice none 0 0)] 2 [jp 0 1 42,jp 1 1 43]),jM 45 2,jh 46 1 24 44 45,jc 47 64 46,jZ 13 32 .u8,jS 32 13 47] [7,9,10,13] (.seq (.seq (.region [jf 48 66,jL 49 32 10,jD 50 67 48 49,jL 51 20 7,jC 52 68 51,jL 53 32 13,jD 54 67 52 53,jo 55 (.buildSlice (Qc 40 (.int .u64 0)) 2 [jp 0 20 50,jp 20 20 54]),jc 56 65 55,jC 57 69 56,jL 58 32 9,je 59 32 true 57 58] (some [59]) [(8,10)]) (jl 59 [jI 6 70] [6])) (ja [jI 6 0] [6]))))))))),[(6,none)]⟩
def pt:AFun:=⟨(js [jB 1 0,jZ 2 32 .u8] [1,2] (ja [jf 3 66,jL 4 32 1,jC 5 84 4,jo 6 (.field (some 32) 0 (jt 5)),jD 7 67 3 6,jC 8 69 7,jS 32 2 8] [2])),[(2,(some (some 32)))]⟩
def pr:AFun:=⟨(js [jB 1 0,jZ 2 64 .u8] [1,2] (js [jW 4 32 1 1,jo 5 (.buildSlice [(.slice none 0 0)] 1 [jp 0 1 4]),jc 6 122 5,jZ 3 64 .u8,jS 64 3 6] [2,3] (ja [jo 7 (.sliceArr 64 1 (jt 3) none (some (ji 32)) none),jo 8 (.s2ap 32 (jt 7)),jL 9 32 8,jC 10 145 9,jo 11 (.sliceArr 64 1 (jt 3) (some (ji 32)) none none),jo 12 (.s2ap 32 (jt 11)),jL 13 32 12,jb 14 [jp 0 32 10,jp 32 32 13] 64,jS 64 2 14] [2]))),[(2,(some (some 64)))]⟩
def pq:AFun:=⟨(js [jZ 2 32 .u8] [0,2] (js [jM 4 0,jc 5 122 4,jZ 3 64 .u8,jS 64 3 5] [2,3] (ja [jW 6 64 1 3,jo 7 (.buildSlice [(.slice none 0 0)] 1 [jp 0 1 6]),jc 8 123 7,jS 32 2 8] [2]))),[(2,(some (some 32)))]⟩
def po:AFun:=⟨(js [jZ 2 64 .u8] [0,2] (js [jo 4 (.call 179 [] false),jM 3 4] [0,2,3] (js [jM 5 3,jM 6 0,jd 7 180 5 6] [2,3] (ja [jM 8 3,jc 9 181 8,jS 64 2 9] [2])))),[(2,(some (some 64)))]⟩
def ph:AFun:=⟨(js [jo 0 (.move (.const (.pointer none)))] [] (ja [jo 1 (.build (Qc 8 (.int .u64 0)) [jg 0 .u64 7640891576956012808,jg 1 .u64 13503953896175478587,jg 2 .u64 4354685564936845355,jg 3 .u64 11912009170470909681,jg 4 .u64 5840696475078001361,jg 5 .u64 11170449401992604703,jg 6 .u64 2270897969802886507,jg 7 .u64 6620516959819538809]),jo 2 (.build [(.slice none 0 0),(.int .u64 0),(.int .u64 0),(.int .u64 0),(.int .u64 0),(.int .u64 0),(.int .u64 0),(.int .u64 0),(.int .u64 0),(.int .u64 0)] [jp 2 8 1]),jB 3 2,jM 0 3] [0])),[(0,none)]⟩
def HJ:ACode:=(js [jO 9 .lss 8 7] [0,6,7,8,9] (.seq (jx 9 0) (.seq (.block 1 (js [jJ 10 1 6 8,jE 11 10,jM 5 11] [0,5,6,7,8] (jr [jM 12 0,jN 13 12,jF 14 0 13,jM 15 5,jM 16 0,jo 17 (.mkFunc (.func 206) [(jt 16)] []),jo 18 (.call 183 [(jt 14),(ji 128),(jt 15),(jt 17)] false)] [0,6,7,8]))) (jr [jP 19 .add 8 1,jM 8 19] [0,6,7,8]))))
def pg:AFun:=⟨(js [jM 6 1,jY 7 6,jI 8 0] [0,6,7,8] (jK 0 HJ)),[]⟩
def HI:ACode:=(js [jP 33 .lss 32 64] [2,3,4,32,33] (.seq (jx 33 0) (.seq (.block 1 (js [jM 34 32,jM 5 34] [2,3,4,5,32] (jr [jM 35 5,jM 36 3,jM 37 5,jP 38 .quo 37 8,jN 39 36,jF 40 2 39,jH 41 8 1 40 38,jE 42 41,jM 43 5,jP 44 .rem 43 8,jo 45 (.bin .mul (ji 8) (jt 44)),jo 46 (.bin .sub (ji 56) (jt 45)),jO 47 .shr 42 46,jV 48 .u8 47,jH 49 64 1 4 35,jS 1 49 48] [2,3,4,32]))) (jr [jP 50 .add 32 1,jM 32 50] [2,3,4,32]))))
def pd:AFun:=⟨(js [jZ 2 64 .u8] [0,2] (.seq (.region [jo 6 (.buildSlice [] 0 []),jM 7 0,jN 8 7,jF 9 0 8,jF 10 0 9,jE 11 10,jh 12 1 1 6 11,jM 13 0,jN 14 13,jF 15 0 14,jF 16 1 15,jE 17 16,jo 18 (.build [(.slice none 0 0),(.int .u64 0)] [jp 0 1 12,jp 1 1 17]),jM 19 0,jN 20 19,jF 21 2 20,jL 22 8 21,jo 23 (.build [(.slice none 0 0),(.int .u64 0),(.int .u64 0),(.int .u64 0),(.int .u64 0),(.int .u64 0),(.int .u64 0),(.int .u64 0),(.int .u64 0),(.int .u64 0)] [jp 0 2 18,jp 2 8 22]),jB 24 23,jM 3 24] (some [0,2,3]) [(6,11),(6,16)]) (js [jM 25 3,jM 26 0,jN 27 26,jF 28 0 27,jo 29 (.call 185 [(jt 28),(ji 128),(ji 16)] false),jo 30 (.buildSlice [(.slice none 0 0)] 1 [jp 0 1 29]),jd 31 180 25 30] [2,3] (js [jZ 4 64 .u8] [2,3,4] (.seq (js [jI 32 0] [2,3,4,32] (jK 0 HI)) (ja [jL 51 64 4,jS 64 2 51] [2])))))),[(2,(some (some 64)))]⟩
def VW:ACode:=(.seq (js [jM 27 0,jN 28 27,jF 29 0 28,jE 30 29,jY 31 30,jM 32 1,jO 33 .geq 31 32] [0,1,3,33] (jx 33 0)) (.block 1 (js [jM 34 3,jM 35 0,jN 36 35,jF 37 0 36,jE 38 37,jM 39 1,jo 40 (.sliceSl 1 (jt 38) none (some (jt 39)) none),jo 41 (.callv (jt 34) [(jt 40)])] [0,1,3] (jr [jM 42 0,jM 43 0,jN 44 43,jF 45 0 44,jE 46 45,jM 47 1,jo 48 (.sliceSl 1 (jt 46) (some (jt 47)) none none),jN 49 42,jF 50 0 49,jS 1 50 48] [0,1,3]))))
def dY:AFun:=⟨(js [jM 8 0,jN 9 8,jF 10 1 9,jE 11 10,jM 12 2,jY 13 12,jV 14 .u64 13,jO 15 .add 11 14,jN 16 8,jF 17 1 16,jS 1 17 15] [0,1,2,3] (js [jM 18 0,jM 19 0,jN 20 19,jF 21 0 20,jE 22 21,jM 23 2,jh 24 1 1 22 23,jN 25 18,jF 26 0 25,jS 1 26 24] [0,1,3] (jK 0 VW))),[]⟩
def HH:ACode:=(js [jP 176 .lss 175 8] [0,174,175,176] (.seq (jx 176 6) (.seq (.block 7 (js [jM 177 175,jo 178 (.index none 8 1 (jt 174) (jt 175)),jM 15 177,jM 16 178] [0,15,16,174,175] (jr [jM 179 0,jM 180 15,jN 181 179,jF 182 2 181,jH 183 8 1 182 180,jE 184 183,jM 185 16,jO 186 .add 184 185,jN 187 179,jF 188 2 187,jH 189 8 1 188 180,jS 1 189 186] [0,174,175]))) (jr [jP 190 .add 175 1,jM 175 190] [0,174,175]))))
def Bw:ACode:=(js [jP 88 .lss 87 80] [0,4,10,86,87,88] (.seq (jx 88 4) (.seq (.block 5 (js [jM 89 87,jo 90 (.index none 80 1 (jt 86) (jt 87)),jM 11 89,jM 12 90] [0,4,10,11,12,86,87] (js [jA 91 8 1 10 7,jE 92 91,jA 93 8 1 10 4,jE 94 93,jo 95 (.call 212 [(jt 94),(ji (-14))] true),jA 96 8 1 10 4,jE 97 96,jo 98 (.call 212 [(jt 97),(ji (-18))] true),jO 99 .xor 95 98,jA 100 8 1 10 4,jE 101 100,jo 102 (.call 212 [(jt 101),(ji (-41))] true),jO 103 .xor 99 102,jO 104 .add 92 103,jA 105 8 1 10 4,jE 106 105,jA 107 8 1 10 5,jE 108 107,jO 109 .and 106 108,jA 110 8 1 10 4,jE 111 110,jo 112 (.un .xor (jt 111)),jA 113 8 1 10 6,jE 114 113,jO 115 .and 112 114,jO 116 .xor 109 115,jO 117 .add 104 116,jM 118 12,jO 119 .add 117 118,jM 120 11,jH 121 80 1 4 120,jE 122 121,jO 123 .add 119 122,jM 13 123] [0,4,10,13,86,87] (js [jA 124 8 1 10 0,jE 125 124,jo 126 (.call 212 [(jt 125),(ji (-28))] true),jA 127 8 1 10 0,jE 128 127,jo 129 (.call 212 [(jt 128),(ji (-34))] true),jO 130 .xor 126 129,jA 131 8 1 10 0,jE 132 131,jo 133 (.call 212 [(jt 132),(ji (-39))] true),jO 134 .xor 130 133,jA 135 8 1 10 0,jE 136 135,jA 137 8 1 10 1,jE 138 137,jO 139 .and 136 138,jA 140 8 1 10 0,jE 141 140,jA 142 8 1 10 2,jE 143 142,jO 144 .and 141 143,jO 145 .xor 139 144,jA 146 8 1 10 1,jE 147 146,jA 148 8 1 10 2,jE 149 148,jO 150 .and 147 149,jO 151 .xor 145 150,jO 152 .add 134 151,jM 14 152] [0,4,10,13,14,86,87] (jr [jM 153 13,jM 154 14,jO 155 .add 153 154,jA 156 8 1 10 0,jE 157 156,jA 158 8 1 10 1,jE 159 158,jA 160 8 1 10 2,jE 161 160,jA 162 8 1 10 3,jE 163 162,jM 164 13,jO 165 .add 163 164,jA 166 8 1 10 4,jE 167 166,jA 168 8 1 10 5,jE 169 168,jA 170 8 1 10 6,jE 171 170,jo 172 (.build (Qc 8 (.int .u64 0)) [jp 0 1 155,jp 1 1 157,jp 2 1 159,jp 3 1 161,jp 4 1 165,jp 5 1 167,jp 6 1 169,jp 7 1 171]),jS 8 10 172] [0,4,10,86,87]))))) (jr [jP 173 .add 87 1,jM 87 173] [0,4,10,86,87]))))
def HG:ACode:=(js [jO 31 .lss 30 29] [0,1,4,5,17,28,29,30,31] (.seq (jx 31 2) (.seq (.block 3 (js [jJ 32 1 28 30,jE 33 32,jM 7 33] [0,1,4,5,7,17,28,29,30] (jr [jM 34 5,jM 35 5,jH 36 80 1 4 35,jE 37 36,jQ 38 .shl 37 .u64 8,jM 39 7,jV 40 .u64 39,jO 41 .or 38 40,jH 42 80 1 4 34,jS 1 42 41] [0,1,4,5,17,28,29,30]))) (jr [jP 43 .add 30 1,jM 30 43] [0,1,4,5,17,28,29,30]))))
def YO:ACode:=(js [jP 18 .lss 17 80] [0,1,4,17,18] (.seq (jx 18 0) (.seq (.block 1 (js [jM 19 17,jM 5 19] [0,1,4,5,17] (.seq (js [jM 20 5,jP 21 .lss 20 16] [0,1,4,5,17,21] (.cond (jt 21) (.seq (js [jM 22 1,jM 23 5,jo 24 (.bin .mul (ji 8) (jt 23)),jM 25 5,jo 26 (.bin .mul (ji 8) (jt 25)),jP 27 .add 26 8,jo 28 (.sliceSl 1 (jt 22) (some (jt 24)) (some (jt 27)) none),jY 29 28,jI 30 0] [0,1,4,5,17,28,29,30] (jK 2 HG)) (.exit 1)) .skip)) (js [jM 44 5,jP 45 .sub 44 15,jH 46 80 1 4 45,jE 47 46,jM 48 5,jP 49 .sub 48 2,jH 50 80 1 4 49,jE 51 50,jM 8 47,jM 9 51] [0,1,4,5,8,9,17] (jr [jM 52 5,jM 53 5,jP 54 .sub 53 16,jH 55 80 1 4 54,jE 56 55,jM 57 5,jP 58 .sub 57 7,jH 59 80 1 4 58,jE 60 59,jO 61 .add 56 60,jM 62 8,jo 63 (.call 212 [(jt 62),(ji (-1))] true),jM 64 8,jo 65 (.call 212 [(jt 64),(ji (-8))] true),jO 66 .xor 63 65,jM 67 8,jQ 68 .shr 67 .u64 7,jO 69 .xor 66 68,jO 70 .add 61 69,jM 71 9,jo 72 (.call 212 [(jt 71),(ji (-19))] true),jM 73 9,jo 74 (.call 212 [(jt 73),(ji (-61))] true),jO 75 .xor 72 74,jM 76 9,jQ 77 .shr 76 .u64 6,jO 78 .xor 75 77,jO 79 .add 70 78,jH 80 80 1 4 52,jS 1 80 79] [0,1,4,17]))))) (jr [jP 81 .add 17 1,jM 17 81] [0,1,4,17]))))
def pc:AFun:=⟨(js [jZ 4 80 .u64] [0,1,4] (.seq (js [jI 17 0] [0,1,4,17] (jK 0 YO)) (js [jM 82 0,jN 83 82,jF 84 2 83,jL 85 8 84,jZ 10 8 .u64,jS 8 10 85] [0,4,10] (.seq (js [jf 86 208,jI 87 0] [0,4,10,86,87] (jK 4 Bw)) (js [jL 174 8 10,jI 175 0] [0,174,175] (jK 6 HH)))))),[]⟩
def KP:ACode:=(.seq (js [jM 29 8,jP 30 .geq 29 0] [0,7,8,30] (jx 30 2)) (.seq (.block 3 (js [jk 9 .u8 0] [0,7,8,9] (.seq (js [jM 33 8,jP 34 .lss 33 9] [0,7,8,9,34] (.cond (jt 34) (jr [jM 35 0,jN 36 35,jF 37 1 36,jE 38 37,jM 39 8,jo 40 (.bin .mul (ji 8) (jt 39)),jO 41 .shr 38 40,jQ 42 .shl 41 .u64 3,jV 43 .u8 42,jM 9 43] [0,7,8,9]) .skip)) (.seq (js [jM 44 8,jP 45 .gtr 44 0,jM 46 45,.mk (some 47) (.move (jt 8)) (some (46,true)),.mk (some 48) (.bin .lss (jt 47) (ji 9)) (some (46,true)),jo 49 (.pick (jt 46) (jt 48) (.const (.bool false)))] [0,7,8,9,49] (.cond (jt 49) (jr [jM 50 9,jM 51 0,jN 52 51,jF 53 1 52,jE 54 53,jM 55 8,jo 56 (.bin .mul (ji 8) (jt 55)),jP 57 .sub 56 8,jO 58 .shr 54 57,jQ 59 .and 58 .u64 255,jQ 60 .shr 59 .u64 5,jV 61 .u8 60,jO 62 .or 50 61,jM 9 62] [0,7,8,9]) .skip)) (jr [jM 63 7,jM 64 9,jo 65 (.buildSlice [(.int .u8 0)] 1 [jp 0 1 64]),jh 66 1 1 63 65,jM 7 66] [0,7,8]))))) (jr [jM 31 8,jP 32 .sub 31 1,jM 8 32] [0,7,8])))
def VV:ACode:=(.seq (js [jM 11 0,jN 12 11,jF 13 1 12,jE 14 13,jV 15 .i64 14,jM 16 7,jY 17 16,jO 18 .add 15 17,jM 19 2,jO 20 .add 18 19,jM 21 1,jO 22 .rem 20 21,jP 23 .neq 22 0] [0,1,2,7,23] (jx 23 0)) (.block 1 (jr [jM 24 7,jo 25 (.buildSlice [(.int .u8 0)] 1 [jg 0 .u8 0]),jh 26 1 1 24 25,jM 7 26] [0,1,2,7])))
def dX:AFun:=⟨(js [jn 6] [0,1,2] (js [jo 10 (.buildSlice [(.int .u8 0)] 1 [jg 0 .u8 128]),jM 7 10] [0,1,2,7] (.seq (jK 0 VV) (.seq (js [jM 27 2,jP 28 .sub 27 1,jM 8 28] [0,7,8] (jK 2 KP)) (ja [jM 67 7,jM 6 67] [6]))))),[(6,none)]⟩
def pb:AFun:=⟨(js [jk 4 .u64 0] [0,1] (js [jM 6 1,jV 7 .u64 6,jQ 8 .and 7 .u64 63,jM 5 8] [0,5] (ja [jM 9 0,jM 10 5,jO 11 .shl 9 10,jM 12 0,jM 13 5,jo 14 (.bin .sub (.const (.int .u64 64)) (jt 13)),jO 15 .shr 12 14,jO 16 .or 11 15,jM 4 16] [4]))),[(4,none)]⟩
def oZ:AFun:=⟨(js [jZ 0 80 .u64] [0] (ja [jo 1 (.build (Qc 80 (.int .u64 0)) [jg 0 .u64 4794697086780616226,jg 1 .u64 8158064640168781261,jg 2 .u64 13096744586834688815,jg 3 .u64 16840607885511220156,jg 4 .u64 4131703408338449720,jg 5 .u64 6480981068601479193,jg 6 .u64 10538285296894168987,jg 7 .u64 12329834152419229976,jg 8 .u64 15566598209576043074,jg 9 .u64 1334009975649890238,jg 10 .u64 2608012711638119052,jg 11 .u64 6128411473006802146,jg 12 .u64 8268148722764581231,jg 13 .u64 9286055187155687089,jg 14 .u64 11230858885718282805,jg 15 .u64 13951009754708518548,jg 16 .u64 16472876342353939154,jg 17 .u64 17275323862435702243,jg 18 .u64 1135362057144423861,jg 19 .u64 2597628984639134821,jg 20 .u64 3308224258029322869,jg 21 .u64 5365058923640841347,jg 22 .u64 6679025012923562964,jg 23 .u64 8573033837759648693,jg 24 .u64 10970295158949994411,jg 25 .u64 12119686244451234320,jg 26 .u64 12683024718118986047,jg 27 .u64 13788192230050041572,jg 28 .u64 14330467153632333762,jg 29 .u64 15395433587784984357,jg 30 .u64 489312712824947311,jg 31 .u64 1452737877330783856,jg 32 .u64 2861767655752347644,jg 33 .u64 3322285676063803686,jg 34 .u64 5560940570517711597,jg 35 .u64 5996557281743188959,jg 36 .u64 7280758554555802590,jg 37 .u64 8532644243296465576,jg 38 .u64 9350256976987008742,jg 39 .u64 10552545826968843579,jg 40 .u64 11727347734174303076,jg 41 .u64 12113106623233404929,jg 42 .u64 14000437183269869457,jg 43 .u64 14369950271660146224,jg 44 .u64 15101387698204529176,jg 45 .u64 15463397548674623760,jg 46 .u64 17586052441742319658,jg 47 .u64 1182934255886127544,jg 48 .u64 1847814050463011016,jg 49 .u64 2177327727835720531,jg 50 .u64 2830643537854262169,jg 51 .u64 3796741975233480872,jg 52 .u64 4115178125766777443,jg 53 .u64 5681478168544905931,jg 54 .u64 6601373596472566643,jg 55 .u64 7507060721942968483,jg 56 .u64 8399075790359081724,jg 57 .u64 8693463985226723168,jg 58 .u64 9568029438360202098,jg 59 .u64 10144078919501101548,jg 60 .u64 10430055236837252648,jg 61 .u64 11840083180663258601,jg 62 .u64 13761210420658862357,jg 63 .u64 14299343276471374635,jg 64 .u64 14566680578165727644,jg 65 .u64 15097957966210449927,jg 66 .u64 16922976911328602910,jg 67 .u64 17689382322260857208,jg 68 .u64 500013540394364858,jg 69 .u64 748580250866718886,jg 70 .u64 1242879168328830382,jg 71 .u64 1977374033974150939,jg 72 .u64 2944078676154940804,jg 73 .u64 3659926193048069267,jg 74 .u64 4368137639120453308,jg 75 .u64 4836135668995329356,jg 76 .u64 5532061633213252278,jg 77 .u64 6448918945643986474,jg 78 .u64 6902733635092675308,jg 79 .u64 7801388544844847127]),jS 80 0 1] [0])),[(0,(some (some 80)))]⟩
def Bv:ACode:=(js [jO 94 .lss 93 92] [1,4,6,91,92,93,94] (.seq (jx 94 5) (.seq (.block 6 (js [jJ 95 64 91 93,jL 96 64 95,jZ 12 64 .u8,jS 64 12 96] [1,4,6,12,91,92,93] (jr [jF 97 0 6,jE 98 97,jW 99 64 1 12,jh 100 1 1 98 99,jF 101 0 6,jS 1 101 100] [1,4,6,91,92,93]))) (jr [jP 102 .add 93 1,jM 93 102] [1,4,6,91,92,93]))))
def Bu:ACode:=(js [jO 84 .lss 83 82] [1,4,6,81,82,83,84] (.seq (jx 84 3) (.seq (.block 4 (js [jJ 85 1 81 83,jE 86 85,jM 10 86] [1,4,6,10,81,82,83] (jr [jM 87 10,jd 88 83 6 87] [1,4,6,81,82,83]))) (jr [jP 89 .add 83 1,jM 83 89] [1,4,6,81,82,83]))))
def Bt:ACode:=(js [jO 71 .lss 70 69] [1,4,6,68,69,70,71] (.seq (jx 71 1) (.seq (.block 2 (js [jJ 72 32 68 70,jL 73 32 72,jZ 8 32 .u8,jS 32 8 73] [1,4,6,8,68,69,70] (jr [jF 74 0 6,jE 75 74,jW 76 32 1 8,jh 77 1 1 75 76,jF 78 0 6,jS 1 78 77] [1,4,6,68,69,70]))) (jr [jP 79 .add 70 1,jM 70 79] [1,4,6,68,69,70]))))
def UP:AFun:=⟨(js [jB 1 0,jn 2,jI 3 0] [1] (js [jF 14 0 1,jE 15 14,jC 16 82 15,jM 13 16,jX 17 13 0,jX 18 13 1,jo 4 (.alloc [(.int .i64 0),(.int .i64 0),(.int .i64 0),(.bool false)]),jS 4 4 17,jM 5 18] [1,4,5] (.seq (.block 0 (js [jM 20 5,jP 21 .neq 20 0,jM 19 21] [1,4,5,19] (.cond (jt 19) (ja [jM 22 5,jn 2,jM 3 22] [2,3]) (js [jF 24 1 1,jE 25 24,jY 26 25,jF 27 0 4,jE 28 27,jO 29 .neq 26 28,jM 30 29,.mk (some 31) (.fieldAddr 2 (jt 1)) (some (30,false)),.mk (some 32) (.load none (jt 31)) (some (30,false)),.mk (some 33) (.len false (jt 32)) (some (30,false)),.mk (some 34) (.fieldAddr 1 (jt 4)) (some (30,false)),.mk (some 35) (.load none (jt 34)) (some (30,false)),.mk (some 36) (.bin .neq (jt 33) (jt 35)) (some (30,false)),jo 37 (.pick (jt 30) (.const (.bool true)) (jt 36)),jM 38 37,.mk (some 39) (.fieldAddr 3 (jt 1)) (some (38,false)),.mk (some 40) (.load none (jt 39)) (some (38,false)),.mk (some 41) (.len false (jt 40)) (some (38,false)),.mk (some 42) (.fieldAddr 2 (jt 4)) (some (38,false)),.mk (some 43) (.load none (jt 42)) (some (38,false)),.mk (some 44) (.bin .neq (jt 41) (jt 43)) (some (38,false)),jo 45 (.pick (jt 38) (.const (.bool true)) (jt 44)),jM 46 45,.mk (some 47) (.fieldAddr 3 (jt 4)) (some (46,false)),.mk (some 48) (.load none (jt 47)) (some (46,false)),.mk (some 49) (.un .not (jt 48)) (some (46,false)),.mk (some 50) (.move (jt 49)) (some (46,false)),.mk (some 51) (.fieldAddr 4 (jt 1)) (some (50,true)),.mk (some 52) (.load none (jt 51)) (some (50,true)),.mk (some 53) (.len false (jt 52)) (some (50,true)),.mk (some 54) (.bin .gtr (jt 53) (ji 0)) (some (50,true)),.mk (some 55) (.pick (jt 50) (jt 54) (.const (.bool false))) (some (46,false)),jo 56 (.pick (jt 46) (.const (.bool true)) (jt 55)),jM 23 56] [1,4,23] (.cond (jt 23) (ja [jn 2,jI 3 110] [2,3]) (js [jF 58 4 1,jE 59 58,jY 60 59,jP 61 .gtr 60 16384,jM 57 61] [1,4,57] (.cond (jt 57) (ja [jn 2,jI 3 2] [2,3]) .skip))))))) (js [jF 62 0 1,jE 63 62,jV 64 .u8 63,jo 65 (.buildSlice [(.int .u8 0)] 1 [jp 0 1 64]),jo 66 (.build [(.slice none 0 0)] [jp 0 1 65]),jo 6 (.alloc [(.slice none 0 0)]),jS 1 6 66] [1,4,6] (.seq (js [jF 67 1 1,jE 68 67,jY 69 68,jI 70 0] [1,4,6,68,69,70] (jK 1 Bt)) (.seq (js [jF 80 2 1,jE 81 80,jY 82 81,jI 83 0] [1,4,6,81,82,83] (jK 3 Bu)) (.seq (js [jF 90 3 1,jE 91 90,jY 92 91,jI 93 0] [1,4,6,91,92,93] (jK 5 Bv)) (.seq (js [jF 103 3 4,jE 104 103] [1,6,104] (.cond (jt 104) (js [jF 105 4 1,jE 106 105,jY 107 106,jV 108 .u32 107,jd 109 83 6 108] [1,6] (jr [jF 110 0 6,jE 111 110,jF 112 4 1,jE 113 112,jh 114 1 1 111 113,jF 115 0 6,jS 1 115 114] [6])) .skip)) (ja [jF 116 0 6,jE 117 116,jM 2 117,jI 3 0] [2,3]))))))))),[(2,none),(3,none)]⟩
def HF:ACode:=(.seq (js [jM 35 10,jY 36 35,jP 37 .gtr 36 0] [10,12,37] (jx 37 0)) (.seq (.block 1 (jr [jM 40 12,jM 41 10,jo 42 (.sliceSl 1 (jt 41) none (some (ji 32)) none),jo 43 (.s2ap 32 (jt 42)),jL 44 32 43,jm 45 32 1 [jp 0 32 44],jh 46 32 32 40 45,jM 12 46] [10,12])) (jr [jM 38 10,jo 39 (.sliceSl 1 (jt 38) (some (ji 32)) none none),jM 10 39] [10,12])))
def oY:AFun:=⟨(js [jn 8,jI 9 0] [0,1,2,3] (.seq (js [jM 13 3,jP 14 .lss 13 0,jM 15 14,.mk (some 16) (.move (jt 3)) (some (15,false)),.mk (some 17) (.bin .gtr (jt 16) (ji 255)) (some (15,false)),jo 18 (.pick (jt 15) (.const (.bool true)) (jt 17))] [0,1,2,3,18] (.cond (jt 18) (ja [jn 8,jI 9 1] [8,9]) .skip)) (js [jM 20 0,jM 21 1,jo 22 (.buildSlice [(.slice none 0 0)] 1 [jp 0 1 21]),jd 23 168 20 22,jM 24 3,jP 25 .mul 24 32,jM 26 2,jo 27 (.s2b (jt 26)),jo 28 (.buildSlice [(.slice none 0 0)] 1 [jp 0 1 27]),jo 29 (.call 97 [(jt 23),(jt 25),(jt 28)] false),jM 19 29,jX 30 19 0,jX 31 19 1,jM 10 30,jM 11 31] [10,11] (.seq (js [jM 32 11,jP 33 .neq 32 0] [10,11,33] (.cond (jt 33) (ja [jM 34 11,jn 8,jM 9 34] [8,9]) .skip)) (js [jn 12] [10,12] (.seq (jK 0 HF) (ja [jM 47 12,jM 8 47,jI 9 0] [8,9]))))))),[(8,none),(9,none)]⟩
def oX:AFun:=⟨(js [jZ 2 32 .u8] [0,2] (js [jo 4 (.call 138 [] false),jM 3 4] [0,2,3] (js [jM 5 3,jM 6 0,jd 7 139 5 6] [2,3] (ja [jM 8 3,jc 9 140 8,jS 32 2 9] [2])))),[(2,(some (some 32)))]⟩
def dW:AFun:=⟨(js [jo 2 (.alloc [(.int .i64 0),(.int .i64 0),(.int .i64 0),(.bool false)]),jI 3 0] [0,2] (.seq (js [jM 4 0] [2,4] (.block 0 (js [jP 6 .eql 4 1,jM 5 6] [2,4,5] (.cond (jt 5) (ja [jo 7 (.build [(.int .i64 0),(.int .i64 0),(.int .i64 0),(.bool false)] [jg 0 .i64 4,jg 1 .i64 2,jg 2 .i64 1,(3,(1,(.const (.bool false))))]),jS 4 2 7,jI 3 0] [2,3]) (js [jP 9 .eql 4 2,jM 8 9] [2,4,8] (.cond (jt 8) (ja [jo 10 (.build [(.int .i64 0),(.int .i64 0),(.int .i64 0),(.bool false)] [jg 0 .i64 3,jg 1 .i64 2,jg 2 .i64 0,(3,(1,(.const (.bool true))))]),jS 4 2 10,jI 3 0] [2,3]) (js [jP 12 .eql 4 3,jM 11 12] [2,4,11] (.cond (jt 11) (ja [jo 13 (.build [(.int .i64 0),(.int .i64 0),(.int .i64 0),(.bool false)] [jg 0 .i64 1,jg 1 .i64 2,jg 2 .i64 0,(3,(1,(.const (.bool true))))]),jS 4 2 13,jI 3 0] [2,3]) (js [jP 15 .eql 4 4,jM 14 15] [2,4,14] (.cond (jt 14) (ja [jo 16 (.build [(.int .i64 0),(.int .i64 0),(.int .i64 0),(.bool false)] [jg 0 .i64 3,jg 1 .i64 2,jg 2 .i64 0,(3,(1,(.const (.bool false))))]),jS 4 2 16,jI 3 0] [2,3]) (js [jP 18 .eql 4 5,jM 17 18] [2,4,17] (.cond (jt 17) (ja [jo 19 (.build [(.int .i64 0),(.int .i64 0),(.int .i64 0),(.bool false)] [jg 0 .i64 1,jg 1 .i64 2,jg 2 .i64 1,(3,(1,(.const (.bool true))))]),jS 4 2 19,jI 3 0] [2,3]) (js [jP 21 .eql 4 6,jM 20 21] [2,4,20] (.cond (jt 20) (ja [jo 22 (.build [(.int .i64 0),(.int .i64 0),(.int .i64 0),(.bool false)] [jg 0 .i64 3,jg 1 .i64 3,jg 2 .i64 1,(3,(1,(.const (.bool true))))]),jS 4 2 22,jI 3 0] [2,3]) (js [jP 24 .eql 4 7,jM 23 24] [2,23] (.cond (jt 23) (ja [jo 25 (.build [(.int .i64 0),(.int .i64 0),(.int .i64 0),(.bool false)] [jg 0 .i64 1,jg 1 .i64 1,jg 2 .i64 0,(3,(1,(.const (.bool true))))]),jS 4 2 25,jI 3 0] [2,3]) .skip)))))))))))))))) (ja [jo 26 (.build [(.int .i64 0),(.int .i64 0),(.int .i64 0),(.bool false)] []),jS 4 2 26,jI 3 110] [2,3]))),[(2,(some (some 4))),(3,none)]⟩
def oW:AFun:=⟨(jr [jM 4 0,jM 5 0,jN 6 5,jF 7 0 6,jE 8 7,jM 9 1,jQ 10 .shr 9 .u64 24,jV 11 .u8 10,jM 12 1,jQ 13 .shr 12 .u64 16,jV 14 .u8 13,jM 15 1,jQ 16 .shr 15 .u64 8,jV 17 .u8 16,jM 18 1,jV 19 .u8 18,jo 20 (.buildSlice [(.int .u8 0),(.int .u8 0),(.int .u8 0),(.int .u8 0)] 4 [jp 0 1 11,jp 1 1 14,jp 2 1 17,jp 3 1 19]),jh 21 1 1 8 20,jN 22 4,jF 23 0 22,jS 1 23 21] []),[]⟩
def HE:ACode:=(.seq (js [jM 19 8,jY 20 19,jM 21 1,jO 22 .lss 20 21] [1,2,3,8,9,10,22] (jx 22 0)) (.seq (.block 1 (js [jW 25 32 1 3,jc 26 156 25,jM 11 26] [1,2,3,8,9,10,11] (js [jM 27 11,jN 28 27,jF 29 0 28,jE 30 29,jM 31 9,jo 32 (.buildSlice [(.slice none 0 0)] 1 [jp 0 1 31]),jd 33 139 30 32] [1,2,3,8,10,11] (js [jM 34 11,jN 35 34,jF 36 0 35,jE 37 36,jM 38 2,jd 39 139 37 38] [1,2,3,8,10,11] (js [jM 40 11,jN 41 40,jF 42 0 41,jE 43 42,jM 44 10,jo 45 (.buildSlice [(.int .u8 0)] 1 [jp 0 1 44]),jo 46 (.buildSlice [(.slice none 0 0)] 1 [jp 0 1 45]),jd 47 139 43 46] [1,2,3,8,10,11] (js [jM 48 11,jc 49 157 48,jZ 12 32 .u8,jS 32 12 49] [1,2,3,8,10,12] (js [jW 50 32 1 12,jM 9 50] [1,2,3,8,9,10] (jr [jM 51 8,jM 52 9,jh 53 1 1 51 52,jM 8 53] [1,2,3,8,9,10])))))))) (jr [jM 23 10,jQ 24 .add 23 .u8 1,jM 10 24] [1,2,3,8,9,10])))
def oV:AFun:=⟨(js [jB 3 0,jn 6,jI 7 0] [1,2,3] (.seq (js [jM 13 1,jP 14 .lss 13 0,jM 15 14,.mk (some 16) (.move (jt 1)) (some (15,false)),.mk (some 17) (.bin .gtr (jt 16) (ji 8160)) (some (15,false)),jo 18 (.pick (jt 15) (.const (.bool true)) (jt 17))] [1,2,3,18] (.cond (jt 18) (ja [jn 6,jI 7 1] [6,7]) .skip)) (js [jn 8,jn 9] [1,2,3,8,9] (.seq (js [jk 10 .u8 1] [1,2,3,8,9,10] (jK 0 HE)) (ja [jM 54 8,jM 55 1,jM 56 1,jo 57 (.sliceSl 1 (jt 54) none (some (jt 55)) (some (jt 56))),jM 6 57,jI 7 0] [6,7]))))),[(6,none),(7,none)]⟩
def oU:AFun:=⟨(js [jZ 4 32 .u8] [0,1,4] (ja [jM 5 0,jM 6 1,jd 7 203 5 6,jS 32 4 7] [4])),[(4,(some (some 32)))]⟩
def oT:AFun:=⟨(js [jo 0 (.move (.const (.pointer none)))] [] (ja [jo 1 (.build (Qc 8 (.int .u32 0)) [jg 0 .u32 1779033703,jg 1 .u32 3144134277,jg 2 .u32 1013904242,jg 3 .u32 2773480762,jg 4 .u32 1359893119,jg 5 .u32 2600822924,jg 6 .u32 528734635,jg 7 .u32 1541459225]),jo 2 (.build [(.slice none 0 0),(.int .u64 0),(.int .u32 0),(.int .u32 0),(.int .u32 0),(.int .u32 0),(.int .u32 0),(.int .u32 0),(.int .u32 0),(.int .u32 0)] [jp 2 8 1]),jB 3 2,jM 0 3] [0])),[(0,none)]⟩
def HD:ACode:=(js [jO 9 .lss 8 7] [0,6,7,8,9] (.seq (jx 9 0) (.seq (.block 1 (js [jJ 10 1 6 8,jE 11 10,jM 5 11] [0,5,6,7,8] (jr [jM 12 0,jN 13 12,jF 14 0 13,jM 15 5,jM 16 0,jo 17 (.mkFunc (.func 184) [(jt 16)] []),jo 18 (.call 183 [(jt 14),(ji 64),(jt 15),(jt 17)] false)] [0,6,7,8]))) (jr [jP 19 .add 8 1,jM 8 19] [0,6,7,8]))))
def oS:AFun:=⟨(js [jM 6 1,jY 7 6,jI 8 0] [0,6,7,8] (jK 0 HD)),[]⟩
def HC:ACode:=(js [jP 33 .lss 32 32] [2,3,4,32,33] (.seq (jx 33 0) (.seq (.block 1 (js [jM 34 32,jM 5 34] [2,3,4,5,32] (jr [jM 35 5,jM 36 3,jM 37 5,jP 38 .quo 37 4,jN 39 36,jF 40 2 39,jH 41 8 1 40 38,jE 42 41,jM 43 5,jP 44 .rem 43 4,jo 45 (.bin .mul (ji 8) (jt 44)),jo 46 (.bin .sub (ji 24) (jt 45)),jO 47 .shr 42 46,jV 48 .u8 47,jH 49 32 1 4 35,jS 1 49 48] [2,3,4,32]))) (jr [jP 50 .add 32 1,jM 32 50] [2,3,4,32]))))
def oR:AFun:=⟨(js [jZ 2 32 .u8] [0,2] (.seq (.region [jo 6 (.buildSlice [] 0 []),jM 7 0,jN 8 7,jF 9 0 8,jF 10 0 9,jE 11 10,jh 12 1 1 6 11,jM 13 0,jN 14 13,jF 15 0 14,jF 16 1 15,jE 17 16,jo 18 (.build [(.slice none 0 0),(.int .u64 0)] [jp 0 1 12,jp 1 1 17]),jM 19 0,jN 20 19,jF 21 2 20,jL 22 8 21,jo 23 (.build [(.slice none 0 0),(.int .u64 0),(.int .u32 0),(.int .u32 0),(.int .u32 0),(.int .u32 0),(.int .u32 0),(.int .u32 0),(.int .u32 0),(.int .u32 0)] [jp 0 2 18,jp 2 8 22]),jB 24 23,jM 3 24] (some [0,2,3]) [(6,11),(6,16)]) (js [jM 25 3,jM 26 0,jN 27 26,jF 28 0 27,jo 29 (.call 185 [(jt 28),(ji 64),(ji 8)] false),jo 30 (.buildSlice [(.slice none 0 0)] 1 [jp 0 1 29]),jd 31 139 25 30] [2,3] (js [jZ 4 32 .u8] [2,3,4] (.seq (js [jI 32 0] [2,3,4,32] (jK 0 HC)) (ja [jL 51 32 4,jS 32 2 51] [2])))))),[(2,(some (some 32)))]⟩
def Hz:ACode:=(js [jP 23 .lss 22 64] [3,4,21,22,23] (.seq (jx 23 0) (.seq (.block 1 (js [jM 24 22,jo 25 (.index none 64 1 (jt 21) (jt 22)),jM 6 24,jM 7 25] [3,4,6,7,21,22] (jr [jM 26 6,jM 27 4,jM 28 6,jM 29 7,jQ 30 .xor 29 .u8 54,jM 31 7,jQ 32 .xor 31 .u8 92,jH 33 64 1 3 26,jS 1 33 30,jN 34 27,jF 35 1 34,jH 36 64 1 35 28,jS 1 36 32] [3,4,21,22]))) (jr [jP 37 .add 22 1,jM 22 37] [3,4,21,22]))))
def oQ:AFun:=⟨(js [jo 2 (.move (.const (.pointer none)))] [0] (js [jZ 3 64 .u8] [0,3] (js [jo 8 (.call 138 [] false),jo 9 (.build zMac [jp 0 1 8]),jB 10 9,jM 4 10] [0,3,4] (.seq (js [jM 11 0,jY 12 11,jP 13 .gtr 12 64] [0,3,4,13] (.cond (jt 13) (js [jM 14 0,jo 15 (.buildSlice [(.slice none 0 0)] 1 [jp 0 1 14]),jc 16 77 15,jZ 5 32 .u8,jS 32 5 16] [3,4,5] (jr [jW 17 32 1 5,jM 0 17] [0,3,4])) .skip)) (js [jW 18 64 1 3,jM 19 0,jo 20 (.copy 1 (jt 18) (jt 19))] [3,4] (.seq (js [jL 21 64 3,jI 22 0] [3,4,21,22] (jK 0 Hz)) (js [jM 38 4,jN 39 38,jF 40 0 39,jE 41 40,jW 42 64 1 3,jo 43 (.buildSlice [(.slice none 0 0)] 1 [jp 0 1 42]),jd 44 139 41 43] [4] (ja [jM 45 4,jM 2 45] [2])))))))),[(2,none)]⟩
def oP:AFun:=⟨(js [jZ 2 32 .u8] [0,2] (js [jM 4 0,jN 5 4,jF 6 0 5,jE 7 6,jc 8 140 7,jZ 3 32 .u8,jS 32 3 8] [0,2,3] (ja [jM 9 0,jN 10 9,jF 11 1 10,jW 12 64 1 11,jW 13 32 1 3,jo 14 (.buildSlice [(.slice none 0 0),(.slice none 0 0)] 2 [jp 0 1 12,jp 1 1 13]),jc 15 77 14,jS 32 2 15] [2]))),[(2,(some (some 32)))]⟩
def oO:AFun:=⟨(js [jZ 4 32 .u8] [0,1,4] (js [jM 6 0,jc 7 156 6,jM 5 7] [1,4,5] (js [jM 8 5,jN 9 8,jF 10 0 9,jE 11 10,jM 12 1,jd 13 139 11 12] [4,5] (ja [jM 14 5,jc 15 157 14,jS 32 4 15] [4])))),[(4,(some (some 32)))]⟩
def Hy:ACode:=(js [jP 216 .lss 215 8] [0,214,215,216] (.seq (jx 216 4) (.seq (.block 5 (js [jM 217 215,jo 218 (.index none 8 1 (jt 214) (jt 215)),jM 20 217,jM 21 218] [0,20,21,214,215] (jr [jM 219 0,jM 220 20,jN 221 219,jF 222 2 221,jH 223 8 1 222 220,jE 224 223,jM 225 21,jO 226 .add 224 225,jN 227 219,jF 228 2 227,jH 229 8 1 228 220,jS 1 229 226] [0,214,215]))) (jr [jP 230 .add 215 1,jM 215 230] [0,214,215]))))
def Bs:ACode:=(js [jP 142 .lss 141 64] [0,4,8,9,10,11,12,13,14,15,16,141,142] (.seq (jx 142 2) (.seq (.block 3 (js [jM 143 141,jM 17 143] [0,4,8,9,10,11,12,13,14,15,16,17,141] (js [jM 144 16,jM 145 13,jo 146 (.call 207 [(jt 145),(ji 26)] true),jM 147 13,jo 148 (.call 207 [(jt 147),(ji 21)] true),jO 149 .xor 146 148,jM 150 13,jo 151 (.call 207 [(jt 150),(ji 7)] true),jO 152 .xor 149 151,jO 153 .add 144 152,jM 154 13,jM 155 14,jO 156 .and 154 155,jM 157 13,jo 158 (.un .xor (jt 157)),jM 159 15,jO 160 .and 158 159,jO 161 .xor 156 160,jO 162 .add 153 161,jM 163 17,jH 164 80 1 8 163,jE 165 164,jQ 166 .shr 165 .u64 32,jV 167 .u32 166,jO 168 .add 162 167,jM 169 17,jH 170 64 1 4 169,jE 171 170,jO 172 .add 168 171,jM 18 172] [0,4,8,9,10,11,12,13,14,15,18,141] (js [jM 173 9,jo 174 (.call 207 [(jt 173),(ji 30)] true),jM 175 9,jo 176 (.call 207 [(jt 175),(ji 19)] true),jO 177 .xor 174 176,jM 178 9,jo 179 (.call 207 [(jt 178),(ji 10)] true),jO 180 .xor 177 179,jM 181 9,jM 182 10,jO 183 .and 181 182,jM 184 9,jM 185 11,jO 186 .and 184 185,jO 187 .xor 183 186,jM 188 10,jM 189 11,jO 190 .and 188 189,jO 191 .xor 187 190,jO 192 .add 180 191,jM 19 192] [0,4,8,9,10,11,12,13,14,15,18,19,141] (jr [jM 193 18,jM 194 19,jO 195 .add 193 194,jM 196 9,jM 197 10,jM 198 11,jM 199 12,jM 200 18,jO 201 .add 199 200,jM 202 13,jM 203 14,jM 204 15,jM 9 195,jM 10 196,jM 11 197,jM 12 198,jM 13 201,jM 14 202,jM 15 203,jM 16 204] [0,4,8,9,10,11,12,13,14,15,16,141]))))) (jr [jP 205 .add 141 1,jM 141 205] [0,4,8,9,10,11,12,13,14,15,16,141]))))
def YN:ACode:=(js [jP 23 .lss 22 64] [0,1,4,22,23] (.seq (jx 23 0) (.seq (.block 1 (js [jM 24 22,jM 5 24] [0,1,4,5,22] (.seq (js [jM 25 5,jP 26 .lss 25 16] [0,1,4,5,22,26] (.cond (jt 26) (js [jM 27 5,jM 28 1,jM 29 5,jo 30 (.bin .mul (ji 4) (jt 29)),jJ 31 1 28 30,jE 32 31,jV 33 .u32 32,jQ 34 .shl 33 .u64 24,jM 35 1,jM 36 5,jo 37 (.bin .mul (ji 4) (jt 36)),jP 38 .add 37 1,jJ 39 1 35 38,jE 40 39,jV 41 .u32 40,jQ 42 .shl 41 .u64 16,jO 43 .or 34 42,jM 44 1,jM 45 5,jo 46 (.bin .mul (ji 4) (jt 45)),jP 47 .add 46 2,jJ 48 1 44 47,jE 49 48,jV 50 .u32 49,jQ 51 .shl 50 .u64 8,jO 52 .or 43 51,jM 53 1,jM 54 5,jo 55 (.bin .mul (ji 4) (jt 54)),jP 56 .add 55 3,jJ 57 1 53 56,jE 58 57,jV 59 .u32 58,jO 60 .or 52 59,jH 61 64 1 4 27,jS 1 61 60] [0,1,4,22] (.exit 1)) .skip)) (js [jM 62 5,jP 63 .sub 62 15,jH 64 64 1 4 63,jE 65 64,jM 66 5,jP 67 .sub 66 2,jH 68 64 1 4 67,jE 69 68,jM 6 65,jM 7 69] [0,1,4,5,6,7,22] (jr [jM 70 5,jM 71 5,jP 72 .sub 71 16,jH 73 64 1 4 72,jE 74 73,jM 75 5,jP 76 .sub 75 7,jH 77 64 1 4 76,jE 78 77,jO 79 .add 74 78,jM 80 6,jo 81 (.call 207 [(jt 80),(ji 25)] true),jM 82 6,jo 83 (.call 207 [(jt 82),(ji 14)] true),jO 84 .xor 81 83,jM 85 6,jQ 86 .shr 85 .u64 3,jO 87 .xor 84 86,jO 88 .add 79 87,jM 89 7,jo 90 (.call 207 [(jt 89),(ji 15)] true),jM 91 7,jo 92 (.call 207 [(jt 91),(ji 13)] true),jO 93 .xor 90 92,jM 94 7,jQ 95 .shr 94 .u64 10,jO 96 .xor 93 95,jO 97 .add 88 96,jH 98 64 1 4 70,jS 1 98 97] [0,1,4,22]))))) (jr [jP 99 .add 22 1,jM 22 99] [0,1,4,22]))))
def oN:AFun:=⟨(js [jZ 4 64 .u32] [0,1,4] (.seq (js [jI 22 0] [0,1,4,22] (jK 0 YN)) (js [jf 100 208,jZ 8 80 .u64,jS 80 8 100] [0,4,8] (js [jM 101 0,jN 102 101,jF 103 2 102,jA 104 8 1 103 0,jE 105 104,jM 106 0,jN 107 106,jF 108 2 107,jA 109 8 1 108 1,jE 110 109,jM 111 0,jN 112 111,jF 113 2 112,jA 114 8 1 113 2,jE 115 114,jM 116 0,jN 117 116,jF 118 2 117,jA 119 8 1 118 3,jE 120 119,jM 121 0,jN 122 121,jF 123 2 122,jA 124 8 1 123 4,jE 125 124,jM 126 0,jN 127 126,jF 128 2 127,jA 129 8 1 128 5,jE 130 129,jM 131 0,jN 132 131,jF 133 2 132,jA 134 8 1 133 6,jE 135 134,jM 136 0,jN 137 136,jF 138 2 137,jA 139 8 1 138 7,jE 140 139,jM 9 105,jM 10 110,jM 11 115,jM 12 120,jM 13 125,jM 14 130,jM 15 135,jM 16 140] [0,4,8,9,10,11,12,13,14,15,16] (.seq (js [jI 141 0] [0,4,8,9,10,11,12,13,14,15,16,141] (jK 2 Bs)) (js [jM 206 9,jM 207 10,jM 208 11,jM 209 12,jM 210 13,jM 211 14,jM 212 15,jM 213 16,jo 214 (.build (Qc 8 (.int .u32 0)) [jp 0 1 206,jp 1 1 207,jp 2 1 208,jp 3 1 209,jp 4 1 210,jp 5 1 211,jp 6 1 212,jp 7 1 213]),jI 215 0] [0,214,215] (jK 4 Hy))))))),[]⟩
def oM:AFun:=⟨(js [jk 4 .u32 0] [0,1] (js [jM 6 1,jV 7 .u64 6,jQ 8 .and 7 .u64 31,jM 5 8] [0,5] (ja [jM 9 0,jM 10 5,jO 11 .shl 9 10,jM 12 0,jM 13 5,jo 14 (.bin .sub (.const (.int .u64 32)) (jt 13)),jO 15 .shr 12 14,jO 16 .or 11 15,jM 4 16] [4]))),[(4,none)]⟩
def Hx:ACode:=(js [jO 170 .lss 169 168] [16,17,167,168,169,170] (.seq (jx 170 6) (.seq (.block 7 (js [jJ 171 1 167 169,jE 172 171,jM 27 172] [16,17,27,167,168,169] (js [jM 173 27,jV 174 .i64 173,jM 175 17,jO 176 .geq 174 175,jM 177 176,.mk (some 178) (.move (jt 16)) (some (177,false)),.mk (some 179) (.move (jt 27)) (some (177,false)),.mk (some 180) (.indexSl 1 (jt 178) (jt 179)) (some (177,false)),.mk (some 181) (.load none (jt 180)) (some (177,false)),jo 182 (.pick (jt 177) (.const (.bool true)) (jt 181))] [16,17,167,168,169,182] (jl 182 [jT 6 false] [6])))) (jr [jP 183 .add 169 1,jM 169 183] [16,17,167,168,169]))))
def Br:ACode:=(.seq (js [jM 141 24,jM 142 17,jO 143 .lss 141 142] [8,16,17,23,24,143] (jx 143 4)) (.seq (.block 5 (js [jM 146 16,jM 147 24,jJ 148 1 146 147,jE 149 148,jU 150 149] [8,16,17,23,24,150] (.cond (jt 150) (jr [jM 151 23,jP 152 .add 151 1,jM 23 152] [8,16,17,23,24]) .skip))) (jr [jM 144 24,jP 145 .add 144 1,jM 24 145] [8,16,17,23,24])))
def YM:ACode:=(js [jO 83 .lss 82 81] [1,8,10,16,17,80,81,82,83] (.seq (jx 83 2) (.seq (.block 3 (js [jJ 84 1 80 82,jE 85 84,jM 19 85] [1,8,10,16,17,19,80,81,82] (.seq (js [jM 86 19,jP 87 .lss 86 0,jM 88 87,.mk (some 89) (.move (jt 19)) (some (88,false)),.mk (some 90) (.move (jt 10)) (some (88,false)),.mk (some 91) (.len false (jt 90)) (some (88,false)),.mk (some 92) (.bin .geq (jt 89) (jt 91)) (some (88,false)),jo 93 (.pick (jt 88) (.const (.bool true)) (jt 92))] [1,8,10,16,17,19,80,81,82,93] (.cond (jt 93) (.exit 3) .skip)) (js [jL 95 99 8,jM 96 10,jM 97 19,jJ 98 5 96 97,jL 99 5 98,jd 100 18 95 99,jM 94 100,jX 101 94 0,jX 102 94 1,jX 103 94 2,jo 20 (.alloc Xn),jS 99 20 101,jM 21 102,jM 22 103] [1,8,10,16,17,19,20,21,22,80,81,82] (.seq (js [jM 104 16,jM 105 19,jJ 106 1 104 105,jE 107 106,jM 108 22,jP 109 .eql 108 151,jo 110 (.eqv none true (jt 107) (jt 109)),jM 111 110,.mk (some 112) (.move (jt 16)) (some (111,false)),.mk (some 113) (.move (jt 19)) (some (111,false)),.mk (some 114) (.indexSl 1 (jt 112) (jt 113)) (some (111,false)),.mk (some 115) (.load none (jt 114)) (some (111,false)),.mk (some 116) (.un .not (jt 115)) (some (111,false)),.mk (some 117) (.move (jt 116)) (some (111,false)),.mk (some 118) (.move (jt 22)) (some (117,true)),.mk (some 119) (.bin .neq (jt 118) (ji 0)) (some (117,true)),.mk (some 120) (.move (jt 119)) (some (117,true)),.mk (some 121) (.move (jt 21)) (some (120,false)),.mk (some 122) (.b2s (jt 121)) (some (120,false)),.mk (some 123) (.move (jt 1)) (some (120,false)),.mk (some 124) (.move (jt 19)) (some (120,false)),.mk (some 125) (.indexSl 1 (jt 123) (jt 124)) (some (120,false)),.mk (some 126) (.load none (jt 125)) (some (120,false)),.mk (some 127) (.b2s (jt 126)) (some (120,false)),.mk (some 128) (.bin .neq (jt 122) (jt 127)) (some (120,false)),.mk (some 129) (.pick (jt 120) (.const (.bool true)) (jt 128)) (some (117,true)),.mk (some 130) (.pick (jt 117) (jt 129) (.const (.bool false))) (some (111,false)),jo 131 (.pick (jt 111) (.const (.bool true)) (jt 130))] [1,8,10,16,17,19,20,80,81,82,131] (jl 131 [jT 6 false] [6])) (js [jM 132 16,jM 133 19,jJ 134 1 132 133,jq (.store 1 (jt 134) (.const (.bool true)))] [1,8,10,16,17,19,20,80,81,82] (js [jL 135 99 20,jS 99 8 135] [1,8,10,16,17,19,80,81,82] (jr [jM 136 17,jM 137 19,jP 138 .add 137 1,jo 139 (.minmax true (jt 136) (jt 138)),jM 17 139] [1,8,10,16,17,80,81,82])))))))) (jr [jP 140 .add 82 1,jM 82 140] [1,8,10,16,17,80,81,82]))))
def VU:ACode:=(js [jO 56 .lss 55 54] [1,2,7,8,10,53,54,55,56] (.seq (jx 56 0) (.seq (.block 1 (js [jJ 57 1 53 55,jE 58 57,jM 12 58] [1,2,7,8,10,12,53,54,55] (.seq (js [jM 59 12,jY 60 59,jP 61 .gtr 60 100] [1,2,7,8,10,12,53,54,55,61] (jl 61 [jT 6 true] [6])) (js [jL 63 98 7,jM 64 12,jd 65 24 63 64,jM 62 65,jX 66 62 0,jX 67 62 1,jX 68 62 2,jo 13 (.alloc KD),jo 14 (.alloc XM),jS 98 13 66,jS 5 14 67,jM 15 68] [1,2,7,8,10,13,14,15,53,54,55] (.seq (js [jM 69 15,jP 70 .neq 69 0] [1,2,7,8,10,13,14,53,54,55,70] (jl 70 [jT 6 false] [6])) (js [jL 71 98 13,jS 98 7 71] [1,2,7,8,10,14,53,54,55] (jr [jM 72 10,jL 73 5 14,jo 74 (.buildSlice XM 1 [jp 0 5 73]),jh 75 5 104 72 74,jM 10 75] [1,2,7,8,10,53,54,55]))))))) (jr [jP 76 .add 55 1,jM 55 76] [1,2,7,8,10,53,54,55]))))
def C4:AFun:=⟨(js [jB 3 0,jT 6 false] [1,2,3] (.seq (js [jf 28 16,jU 29 28] [1,2,3,29] (jl 29 [jT 6 false] [6])) (.seq (js [jM 30 1,jY 31 30,jP 32 .gtr 31 12,jM 33 32,.mk (some 34) (.move (jt 2)) (some (33,false)),.mk (some 35) (.len false (jt 34)) (some (33,false)),.mk (some 36) (.bin .gtr (jt 35) (ji 30)) (some (33,false)),jo 37 (.pick (jt 33) (.const (.bool true)) (jt 36))] [1,2,3,37] (jl 37 [jT 6 true] [6])) (js [jA 38 3 32 3 0,jL 39 32 38,jA 40 3 32 3 1,jL 41 32 40,jA 42 3 32 3 2,jL 43 32 42,jo 44 (.call 28 [(jt 39),(.const (.int .u32 7)),(jt 41),(jt 43)] true),jo 7 (.alloc KD),jS 98 7 44] [1,2,7] (js [jL 46 98 7,jc 47 23 46,jc 48 21 47,jM 45 48,jX 49 45 0,jX 50 45 1,jo 8 (.alloc Xn),jS 99 8 49,jM 9 50] [1,2,7,8,9] (.seq (js [jM 51 9,jP 52 .neq 51 0] [1,2,7,8,52] (jl 52 [jT 6 false] [6])) (js [jn 10] [1,2,7,8,10] (.seq (js [jM 53 1,jY 54 53,jI 55 0] [1,2,7,8,10,53,54,55] (jK 0 VU)) (js [jM 77 10,jY 78 77,jo 79 (.makeSlice [(.bool false)] 1 (jt 78) (jt 78)),jM 16 79] [1,2,8,10,16] (js [jI 17 0] [1,2,8,10,16,17] (.seq (js [jM 80 2,jY 81 80,jI 82 0] [1,8,10,16,17,80,81,82] (jK 2 YM)) (js [jI 23 0] [8,16,17,23] (.seq (js [jI 24 0] [8,16,17,23,24] (jK 4 Br)) (js [jL 153 99 8,jc 154 32 153,jM 25 154] [8,16,17,23,25] (.seq (js [jM 155 25,jY 156 155,jM 157 23,jO 158 .neq 156 157,jM 159 158,.mk (some 160) (.fieldAddr 0 (jt 8)) (some (159,false)),.mk (some 161) (.fieldAddr 33 (jt 160)) (some (159,false)),.mk (some 162) (.load none (jt 161)) (some (159,false)),.mk (some 163) (.move (jt 17)) (some (159,false)),.mk (some 164) (.conv .u32 (jt 163)) (some (159,false)),.mk (some 165) (.bin .neq (jt 162) (jt 164)) (some (159,false)),jo 166 (.pick (jt 159) (.const (.bool true)) (jt 165))] [16,17,25,166] (jl 166 [jT 6 false] [6])) (.seq (js [jM 167 25,jY 168 167,jI 169 0] [16,17,167,168,169] (jK 6 Hx)) (ja [jT 6 true] [6]))))))))))))))))),[(6,none)]⟩
def oL:AFun:=⟨(js [jT 0 false] [] (js [jb 12 [jg 0 .u8 1] 32,jb 13 [jg 0 .u8 3] 32,jb 14 [jg 0 .u8 4] 32,jo 15 (.call 28 [(jt 12),(.const (.int .u32 2)),(jt 13),(jt 14)] true),jo 1 (.alloc KD),jS 98 1 15] [1] (js [jL 17 98 1,jc 18 23 17,jc 19 21 18,jM 16 19,jX 20 16 0,jX 21 16 1,jo 2 (.alloc Xn),jS 99 2 20,jM 3 21] [1,2,3] (js [jL 23 98 1,jo 24 (.buildSlice [(.int .u8 0),(.int .u8 0),(.int .u8 0),(.int .u8 0)] 4 [jg 0 .u8 116,jg 1 .u8 101,jg 2 .u8 120,jg 3 .u8 116]),jo 25 (.convSl (jt 24)),jd 26 24 23 25,jM 22 26,jX 27 22 0,jX 28 22 1,jX 29 22 2,jo 4 (.alloc XM),jS 98 1 27,jS 5 4 28,jM 5 29] [1,2,3,4,5] (js [jL 31 99 2,jL 32 5 4,jd 33 18 31 32,jM 30 33,jX 34 30 0,jX 35 30 1,jX 36 30 2,jo 6 (.alloc Xn),jS 99 6 34,jM 7 35,jM 8 36] [1,2,3,4,5,6,7,8] (js [jL 38 99 6,jL 39 5 4,jd 40 18 38 39,jM 37 40,jX 41 37 0,jX 42 37 1,jX 43 37 2,jo 9 (.alloc Xn),jS 99 9 41,jM 10 42,jM 11 43] [1,2,3,5,6,7,8,11] (ja [jM 44 3,jP 45 .eql 44 0,jM 46 45,.mk (some 47) (.move (jt 5)) (some (46,true)),.mk (some 48) (.bin .eql (jt 47) (ji 0)) (some (46,true)),jo 49 (.pick (jt 46) (jt 48) (.const (.bool false))),jM 50 49,.mk (some 51) (.move (jt 8)) (some (50,true)),.mk (some 52) (.bin .eql (jt 51) (ji 0)) (some (50,true)),jo 53 (.pick (jt 50) (jt 52) (.const (.bool false))),jM 54 53,.mk (some 55) (.move (jt 11)) (some (54,true)),.mk (some 56) (.bin .eql (jt 55) (ji 151)) (some (54,true)),jo 57 (.pick (jt 54) (jt 56) (.const (.bool false))),jM 58 57,.mk (some 59) (.move (jt 7)) (some (58,true)),.mk (some 60) (.b2s (jt 59)) (some (58,true)),.mk (some 61) (.bin .eql (jt 60) (.const (.string (ByteArray.mk #[116,101,120,116])))) (some (58,true)),jo 62 (.pick (jt 58) (jt 61) (.const (.bool false))),jM 63 62,.mk (some 64) (.fieldAddr 0 (jt 1)) (some (63,true)),.mk (some 65) (.fieldAddr 33 (jt 64)) (some (63,true)),.mk (some 66) (.load none (jt 65)) (some (63,true)),.mk (some 67) (.bin .eql (jt 66) (.const (.int .u32 1))) (some (63,true)),jo 68 (.pick (jt 63) (jt 67) (.const (.bool false))),jM 69 68,.mk (some 70) (.fieldAddr 0 (jt 6)) (some (69,true)),.mk (some 71) (.fieldAddr 33 (jt 70)) (some (69,true)),.mk (some 72) (.load none (jt 71)) (some (69,true)),.mk (some 73) (.bin .eql (jt 72) (.const (.int .u32 1))) (some (69,true)),jo 74 (.pick (jt 69) (jt 73) (.const (.bool false))),jM 75 74,.mk (some 76) (.fieldAddr 0 (jt 2)) (some (75,true)),.mk (some 77) (.fieldAddr 33 (jt 76)) (some (75,true)),.mk (some 78) (.load none (jt 77)) (some (75,true)),.mk (some 79) (.bin .eql (jt 78) (.const (.int .u32 0))) (some (75,true)),jo 80 (.pick (jt 75) (jt 79) (.const (.bool false))),jM 81 80,jo 82 (.pick (jt 81) (.const (.bool true)) (.const (.bool false))),jM 83 82,jo 84 (.pick (jt 83) (.const (.bool true)) (.const (.bool false))),jM 85 84,jo 86 (.pick (jt 85) (.const (.bool true)) (.const (.bool false))),jM 0 86] [0]))))))),[(0,none)]⟩
def C3:AFun:=⟨(js [jB 2 0,jB 3 1,jo 4 (.alloc Xn),jn 5,jI 6 0] [2,3,4] (.seq (js [jL 16 5 3,jc 17 38 16,jM 15 17,jX 18 15 0,jX 19 15 1,jM 7 18,jM 8 19] [2,3,4,8] (js [jM 20 8,jP 21 .neq 20 0,jM 22 21,.mk (some 23) (.fieldAddr 0 (jt 3)) (some (22,false)),.mk (some 24) (.load none (jt 23)) (some (22,false)),.mk (some 25) (.bin .neq (jt 24) (ji 5)) (some (22,false)),jo 26 (.pick (jt 22) (.const (.bool true)) (jt 25))] [2,3,4,26] (.cond (jt 26) (ja [jL 27 99 2,jS 99 4 27,jn 5,jI 6 110] [4,5,6]) .skip))) (.seq (js [jF 28 1 3,jE 29 28,jy 30 32 29 0,jL 31 32 30,jF 32 0 2,jF 33 0 32,jL 34 32 33,je 35 32 true 31 34,jM 36 35,.mk (some 37) (.fieldAddr 2 (jt 3)) (some (36,false)),.mk (some 38) (.load none (jt 37)) (some (36,false)),.mk (some 39) (.indexSl 1 (jt 38) (ji 0)) (some (36,false)),.mk (some 40) (.load none (jt 39)) (some (36,false)),.mk (some 41) (.fieldAddr 0 (jt 2)) (some (36,false)),.mk (some 42) (.fieldAddr 32 (jt 41)) (some (36,false)),.mk (some 43) (.load none (jt 42)) (some (36,false)),.mk (some 44) (.bin .neq (jt 40) (jt 43)) (some (36,false)),jo 45 (.pick (jt 36) (.const (.bool true)) (jt 44))] [2,3,4,45] (.cond (jt 45) (ja [jL 46 99 2,jS 99 4 46,jn 5,jI 6 171] [4,5,6]) .skip)) (js [jL 47 5 3,jc 48 48 47,jM 9 48] [2,3,4,9] (.seq (js [jF 49 66 2,jL 50 32 49,jF 51 3 3,jE 52 51,jy 53 64 52 0,jL 54 64 53,jM 55 9,jF 56 4 3,jE 57 56,jo 58 (.buildSlice [(.slice none 0 0),(.slice none 0 0)] 2 [jp 0 1 55,jp 1 1 57]),jo 59 (.call 25 [(jt 50),(jt 54),(jt 58)] false),jM 10 59] [2,3,4,9,10] (js [jM 60 10,jP 61 .neq 60 0] [2,3,4,9,10,61] (.cond (jt 61) (ja [jL 62 99 2,jM 63 10,jS 99 4 62,jn 5,jM 6 63] [4,5,6]) .skip))) (js [jL 64 99 2,jo 11 (.alloc Xn),jS 99 11 64] [2,3,4,9,11] (js [jF 65 98 2,jE 66 65,jc 67 49 66,jF 68 98 11,jS 1 68 67] [2,3,4,9,11] (js [jF 70 2 3,jE 71 70,jy 72 1 71 1,jE 73 72,jd 74 50 11 73,jM 69 74,jX 75 69 0,jX 76 69 1,jZ 12 32 .u8,jS 32 12 75,jM 13 76] [2,3,4,9,11,12,13] (.seq (js [jM 77 13,jP 78 .neq 77 0] [2,3,4,9,11,12,13,78] (.cond (jt 78) (ja [jL 79 99 2,jM 80 13,jS 99 4 79,jn 5,jM 6 80] [4,5,6]) .skip)) (js [jL 82 32 12,jC 83 51 82,jF 84 4 3,jE 85 84,jM 86 9,jo 87 (.buildSlice [(.slice none 0 0)] 1 [jp 0 1 86]),jo 88 (.call 52 [(jt 83),(jt 85),(jt 87)] false),jM 81 88,jX 89 81 0,jX 90 81 1,jM 14 89,jM 13 90] [2,4,11,13,14] (.seq (js [jM 91 13,jP 92 .neq 91 0] [2,4,11,13,14,92] (.cond (jt 92) (ja [jL 93 99 2,jM 94 13,jS 99 4 93,jn 5,jM 6 94] [4,5,6]) .skip)) (ja [jL 95 99 11,jM 96 14,jS 99 4 95,jM 5 96,jI 6 0] [4,5,6])))))))))))),[(4,(some (some 99))),(5,none),(6,none)]⟩
def oK:AFun:=⟨(js [jB 1 0,jo 2 (.alloc Xn),jI 3 0] [1,2] (.seq (js [jL 7 5 1,jc 8 38 7,jM 6 8,jX 9 6 0,jX 10 6 1,jM 4 9,jM 5 10] [1,2,5] (js [jM 11 5,jP 12 .neq 11 0,jM 13 12,.mk (some 14) (.fieldAddr 0 (jt 1)) (some (13,false)),.mk (some 15) (.load none (jt 14)) (some (13,false)),.mk (some 16) (.bin .neq (jt 15) (ji 4)) (some (13,false)),jo 17 (.pick (jt 13) (.const (.bool true)) (jt 16))] [1,2,17] (.cond (jt 17) (ja [jo 18 (.build Xn []),jS 99 2 18,jI 3 110] [2,3]) .skip))) (ja [jF 19 1 1,jE 20 19,jy 21 32 20 0,jL 22 32 21,jF 23 2 1,jE 24 23,jy 25 1 24 0,jE 26 25,jF 27 2 1,jE 28 27,jy 29 1 28 1,jE 30 29,jF 31 1 1,jE 32 31,jy 33 32 32 1,jL 34 32 33,jo 35 (.build MD [jp 0 32 22,jp 32 1 26,jp 33 1 30,jp 34 32 34]),jF 36 1 1,jE 37 36,jy 38 32 37 2,jL 39 32 38,jo 40 (.build Xn [jp 0 66 35,jp 66 32 39]),jS 99 2 40,jI 3 0] [2,3]))),[(2,(some (some 99))),(3,none)]⟩
def oJ:AFun:=⟨(js [jB 1 0,jo 2 (.alloc XM)] [1,2] (ja [jF 3 0 1,jF 4 0 3,jL 5 32 4,jF 6 0 1,jF 7 34 6,jL 8 32 7,jF 9 66 1,jL 10 32 9,jC 11 58 10,jm 12 96 3 [jp 0 32 5,jp 32 32 8,jp 64 32 11],jF 13 0 1,jF 14 32 13,jE 15 14,jF 16 0 1,jF 17 33 16,jE 18 17,jo 19 (.buildSlice [(.int .u32 0),(.int .u32 0)] 2 [jp 0 1 15,jp 1 1 18]),jo 20 (.build XM [jg 0 .i64 4,jp 1 1 12,jp 2 1 19]),jS 5 2 20] [2])),[(2,(some (some 5)))]⟩
def oI:AFun:=⟨(js [jB 2 0,jo 4 (.alloc KD),jo 5 (.alloc XM),jI 6 0] [1,2,4,5] (.seq (js [jM 12 1,jY 13 12,jP 14 .gtr 13 16368] [1,2,4,5,14] (.cond (jt 14) (ja [jL 15 98 2,jo 16 (.build XM []),jS 98 4 15,jS 5 5 16,jI 6 2] [4,5,6]) .skip)) (js [jL 17 98 2,jo 7 (.alloc KD),jS 98 7 17] [1,2,4,5,7] (js [jF 19 0 7,jc 20 59 19,jM 18 20,jX 21 18 0,jX 22 18 1,jZ 8 32 .u8,jS 32 8 21,jM 9 22] [1,2,4,5,7,8,9] (.seq (js [jM 23 9,jP 24 .neq 23 0] [1,2,4,5,7,8,9,24] (.cond (jt 24) (ja [jL 25 98 2,jo 26 (.build XM []),jM 27 9,jS 98 4 25,jS 5 5 26,jM 6 27] [4,5,6]) .skip)) (js [jF 28 0 2,jF 29 0 28,jL 30 32 29,jm 31 32 1 [jp 0 32 30],jF 32 0 2,jF 33 32 32,jE 34 33,jF 35 0 2,jF 36 33 35,jE 37 36,jo 38 (.buildSlice [(.int .u32 0),(.int .u32 0)] 2 [jp 0 1 34,jp 1 1 37]),jb 39 [] 64,jm 40 64 1 [jp 0 64 39],jo 41 (.build XM [jg 0 .i64 5,jp 1 1 31,jp 2 1 38,jp 3 1 40]),jo 10 (.alloc XM),jS 5 10 41] [1,2,4,5,7,8,10] (js [jL 42 5 10,jc 43 48 42,jM 11 43] [1,2,4,5,7,8,10,11] (.seq (js [jL 45 32 8,jC 46 51 45,jM 47 1,jM 48 11,jo 49 (.buildSlice [(.slice none 0 0)] 1 [jp 0 1 48]),jo 50 (.call 60 [(jt 46),(jt 47),(jt 49)] false),jM 44 50,jX 51 44 0,jX 52 44 1,jF 53 4 10,jS 1 53 51,jM 9 52] [2,4,5,7,9,10,11] (js [jM 54 9,jP 55 .neq 54 0] [2,4,5,7,9,10,11,55] (.cond (jt 55) (ja [jL 56 98 2,jo 57 (.build XM []),jM 58 9,jS 98 4 56,jS 5 5 57,jM 6 58] [4,5,6]) .skip))) (.seq (.region [jF 59 3 10,jE 60 59,jF 61 66 2,jL 62 32 61,jM 63 11,jF 64 4 10,jE 65 64,jo 66 (.buildSlice [(.slice none 0 0),(.slice none 0 0)] 2 [jp 0 1 63,jp 1 1 65]),jd 67 40 62 66,jy 68 64 60 0,jS 64 68 67] (some [4,5,7,10]) [(1,8)]) (.seq (.region [jL 69 98 7,jL 70 5 10,jS 98 4 69,jS 5 5 70,jI 6 0] (some [4,5,6]) [(1,2)]) .ret)))))))))),[(4,(some (some 98))),(5,(some (some 5))),(6,none)]⟩
def oH:AFun:=⟨(js [jB 4 0,jB 6 2,jB 7 3,jo 8 (.alloc KD)] [1,4,6,7,8] (ja [jL 9 32 4,jM 10 1,jL 11 32 6,jo 12 (.build MD [jp 0 32 9,jp 32 1 10,jp 34 32 11]),jL 13 32 7,jo 14 (.build KD [jp 0 66 12,jp 66 32 13]),jS 98 8 14] [8])),[(8,(some (some 98)))]⟩
def M0:ACode:=(js [jO 10 .lss 9 8] [3,7,8,9,10] (.seq (jx 10 0) (.seq (.block 1 (js [jJ 11 33 7 9,jL 12 33 11,jo 5 (.alloc Wd),jS 33 5 12] [3,5,7,8,9] (jr [jM 13 3,jF 14 0 5,jE 15 14,jo 16 (.buildSlice [(.int .u32 0)] 1 [jp 0 1 15]),jh 17 1 4 13 16,jM 3 17] [3,7,8,9]))) (jr [jP 18 .add 9 1,jM 9 18] [3,7,8,9]))))
def oG:AFun:=⟨(js [jB 1 0,jn 2] [1] (js [jn 3] [1,3] (.seq (js [jF 6 98 1,jE 7 6,jY 8 7,jI 9 0] [3,7,8,9] (jK 0 M0)) (ja [jM 19 3,jM 2 19] [2])))),[(2,none)]⟩
def oF:AFun:=⟨(js [jB 1 0,jn 2] [1] (js [jb 5 [] 64,jm 6 64 1 [jp 0 64 5],jF 7 4 1,jq (.store 1 (jt 7) (.const (.slice none 0 0))),jF 8 3 1,jS 1 8 6] [1] (js [jL 10 5 1,jc 11 38 10,jM 9 11,jX 12 9 0,jX 13 9 1,jM 3 12,jM 4 13] [3] (ja [jM 14 3,jM 2 14] [2])))),[(2,none)]⟩
def LL:AFun:=⟨(js [jn 2] [0] (.seq (js [jM 3 0,jo 4 (.isNil 1 false (jt 3))] [0,4] (jl 4 [jn 2] [2])) (ja [jo 5 (.buildSlice [] 0 []),jM 6 0,jh 7 33 36 5 6,jM 2 7] [2]))),[(2,none)]⟩
def VT:ACode:=(.seq (js [jM 56 0,jN 57 56,jF 58 0 57,jF 59 33 58,jE 60 59,jE 61 3,jO 62 .lss 60 61] [0,3,4,62] (jx 62 0)) (.block 1 (js [jM 63 0,jN 64 63,jF 65 0 64,jF 66 33 65,jE 67 66,jM 8 67] [0,3,4,8] (js [jM 69 0,jN 70 69,jF 71 0 70,jc 72 59 71,jM 68 72,jX 73 68 0,jX 74 68 1,jZ 9 32 .u8,jS 32 9 73,jM 10 74] [0,3,4,8,9,10] (.seq (js [jM 75 10,jP 76 .neq 75 0] [0,3,4,8,9,10,76] (.cond (jt 76) (ja [jb 77 [] 32,jM 78 10,jS 32 4 77,jM 5 78] [4,5]) .skip)) (jr [jM 79 0,jM 80 0,jN 81 80,jF 82 98 81,jE 83 82,jM 84 8,jL 85 32 9,jo 86 (.build Wd [jp 0 1 84,jp 1 32 85]),jo 87 (.buildSlice Wd 1 [jp 0 33 86]),jh 88 33 36 83 87,jN 89 79,jF 90 98 89,jS 1 90 88] [0,3,4]))))))
def Te:AFun:=⟨(js [jB 3 1,jZ 4 32 .u8,jI 5 0] [0,3,4] (.seq (js [jE 11 3,jM 12 0,jN 13 12,jF 14 0 13,jF 15 33 14,jE 16 15,jO 17 .lss 11 16] [0,3,4,17] (.cond (jt 17) (js [jM 18 0,jN 19 18,jF 20 98 19,jE 21 20,jo 22 (.mkFunc (.func 95) [] [(jt 3)]),jd 23 94 21 22,jM 6 23] [0,4,6] (.seq (js [jM 24 6,jP 25 .lss 24 0] [0,4,6,25] (.cond (jt 25) (ja [jb 26 [] 32,jS 32 4 26,jI 5 151] [4,5]) .skip)) (js [jM 27 0,jN 28 27,jF 29 98 28,jE 30 29,jM 31 6,jJ 32 33 30 31,jF 33 1 32,jL 34 32 33,jZ 7 32 .u8,jS 32 7 34] [0,4,6,7] (js [jM 35 0,jM 36 0,jN 37 36,jF 38 98 37,jE 39 38,jM 40 6,jM 41 6,jP 42 .add 41 1,jo 43 (.call 96 [(jt 39),(jt 40),(jt 42)] false),jN 44 35,jF 45 98 44,jS 1 45 43] [4,7] (ja [jL 46 32 7,jS 32 4 46,jI 5 0] [4,5]))))) .skip)) (.seq (js [jE 47 3,jM 48 0,jN 49 48,jF 50 0 49,jF 51 33 50,jE 52 51,jO 53 .sub 47 52,jQ 54 .gtr 53 .u32 1000] [0,3,4,54] (.cond (jt 54) (ja [jb 55 [] 32,jS 32 4 55,jI 5 150] [4,5]) .skip)) (.seq (jK 0 VT) (js [jM 91 0,jM 92 0,jN 93 92,jF 94 98 93,jE 95 94,jM 96 0,jN 97 96,jF 98 98 97,jE 99 98,jY 100 99,jP 101 .sub 100 1000,jo 102 (.minmax true (ji 0) (jt 101)),jo 103 (.sliceSl 33 (jt 95) (some (jt 102)) none none),jN 104 91,jF 105 98 104,jS 1 105 103] [0,4] (ja [jM 106 0,jN 107 106,jF 108 0 107,jc 109 59 108,jX 110 109 0,jX 111 109 1,jS 32 4 110,jM 5 111] [4,5])))))),[(4,(some (some 32))),(5,none)]⟩
def oD:AFun:=⟨(js [jB 1 0,jZ 2 44 .u8] [1,2] (js [jL 6 32 1,jm 7 11 11 [jg 0 .u8 115,jg 1 .u8 105,jg 2 .u8 103,jg 3 .u8 110,jg 4 .u8 101,jg 5 .u8 116,jg 6 .u8 32,jg 7 .u8 112,jg 8 .u8 111,jg 9 .u8 115,jg 10 .u8 116],jo 8 (.convSl (jt 7)),jo 9 (.buildSlice [(.slice none 0 0)] 1 [jp 0 1 8]),jo 10 (.call 97 [(jt 6),(ji 44),(jt 9)] false),jM 5 10,jX 11 5 0,jX 12 5 1,jM 3 11,jM 4 12] [2,3] (ja [jM 13 3,jo 14 (.sliceSl 1 (jt 13) none (some (ji 32)) none),jo 15 (.s2ap 32 (jt 14)),jL 16 32 15,jM 17 3,jo 18 (.sliceSl 1 (jt 17) (some (ji 32)) none none),jo 19 (.s2ap 12 (jt 18)),jL 20 12 19,jb 21 [jp 0 32 16,jp 32 12 20] 44,jS 44 2 21] [2]))),[(2,(some (some 44)))]⟩
def oC:AFun:=⟨(js [jB 3 0,jn 6,jI 7 0] [1,2,3] (js [jM 10 1,jY 11 10,jP 12 .sub 11 16,jM 8 12] [1,2,3,8] (.seq (js [jM 13 8,jP 14 .gtr 13 1048576,jM 15 14,.mk (some 16) (.move (jt 2)) (some (15,false)),.mk (some 17) (.call 98 [(jt 16)] false) (some (15,false)),jo 18 (.pick (jt 15) (.const (.bool true)) (jt 17))] [1,2,3,8,18] (.cond (jt 18) (ja [jn 6,jI 7 2] [6,7]) .skip)) (.seq (js [jM 19 8,jP 20 .lss 19 0] [1,2,3,8,20] (.cond (jt 20) (ja [jn 6,jI 7 111] [6,7]) .skip)) (js [jL 21 44 3,jM 22 1,jM 23 8,jo 24 (.sliceSl 1 (jt 22) none (some (jt 23)) none),jM 25 2,jo 26 (.call 99 [(jt 21),(jt 24),(jt 25)] false),jZ 9 16 .u8,jS 16 9 26] [1,3,8,9] (.seq (js [jW 27 16 1 9,jM 28 1,jM 29 8,jo 30 (.sliceSl 1 (jt 28) (some (jt 29)) none none),jd 31 100 27 30,jU 32 31] [1,3,8,32] (.cond (jt 32) (ja [jn 6,jI 7 100] [6,7]) .skip)) (ja [jF 33 0 3,jL 34 32 33,jF 35 32 3,jL 36 12 35,jM 37 1,jM 38 8,jo 39 (.sliceSl 1 (jt 37) none (some (jt 38)) none),jo 40 (.buildSlice [(.slice none 0 0)] 1 [jp 0 1 39]),jo 41 (.call 101 [(jt 34),(jt 36),(.const (.int .u32 1)),(jt 40)] false),jX 42 41 0,jX 43 41 1,jM 6 42,jM 7 43] [6,7]))))))),[(6,none),(7,none)]⟩
def oB:AFun:=⟨(js [jZ 2 32 .u8,jI 3 0] [0,2] (.seq (js [jM 6 0,jN 7 6,jF 8 33 7,jE 9 8,jQ 10 .geq 9 .u32 16777216] [0,2,10] (.cond (jt 10) (ja [jb 11 [] 32,jS 32 2 11,jI 3 3] [2,3]) .skip)) (js [jM 13 0,jN 14 13,jF 15 0 14,jW 16 32 1 15,jM 17 0,jN 18 17,jF 19 34 18,jW 20 32 1 19,jo 21 (.call 105 [(jt 16),(jt 20),(.const (.string (ByteArray.mk #[115,105,103,110,101,116,32,99,104,97,105,110]))),(ji 2)] false),jM 12 21,jX 22 12 0,jX 23 12 1,jM 4 22,jM 5 23] [0,2,4,5] (.seq (js [jM 24 5,jP 25 .neq 24 0] [0,2,4,5,25] (.cond (jt 25) (ja [jb 26 [] 32,jM 27 5,jS 32 2 26,jM 3 27] [2,3]) .skip)) (js [jM 28 0,jM 29 4,jy 30 32 29 1,jL 31 32 30,jN 32 28,jF 33 34 32,jS 32 33 31] [0,2,4] (js [jM 34 0,jN 35 34,jF 36 33 35,jE 37 36,jQ 38 .add 37 .u32 1,jN 39 34,jF 40 33 39,jS 1 40 38] [2,4] (ja [jM 41 4,jy 42 32 41 0,jL 43 32 42,jS 32 2 43,jI 3 0] [2,3]))))))),[(2,(some (some 32))),(3,none)]⟩
def oA:AFun:=⟨(js [jB 3 0,jn 6,jI 7 0] [1,2,3] (.seq (js [jM 11 1,jY 12 11,jP 13 .gtr 12 1048576,jM 14 13,.mk (some 15) (.move (jt 2)) (some (14,false)),.mk (some 16) (.call 98 [(jt 15)] false) (some (14,false)),jo 17 (.pick (jt 14) (.const (.bool true)) (jt 16))] [1,2,3,17] (.cond (jt 17) (ja [jn 6,jI 7 2] [6,7]) .skip)) (js [jF 19 0 3,jL 20 32 19,jF 21 32 3,jL 22 12 21,jM 23 1,jo 24 (.buildSlice [(.slice none 0 0)] 1 [jp 0 1 23]),jo 25 (.call 101 [(jt 20),(jt 22),(.const (.int .u32 1)),(jt 24)] false),jM 18 25,jX 26 18 0,jX 27 18 1,jM 8 26,jM 9 27] [2,3,8,9] (.seq (js [jM 28 9,jP 29 .neq 28 0] [2,3,8,9,29] (.cond (jt 29) (ja [jM 30 9,jn 6,jM 7 30] [6,7]) .skip)) (js [jL 31 44 3,jM 32 8,jM 33 2,jo 34 (.call 99 [(jt 31),(jt 32),(jt 33)] false),jZ 10 16 .u8,jS 16 10 34] [8,10] (ja [jM 35 8,jW 36 16 1 10,jh 37 1 1 35 36,jM 6 37,jI 7 0] [6,7])))))),[(6,none),(7,none)]⟩
def V7:ACode:=(js [jO 9 .lss 8 7] [0,1,7,8,9] (.seq (jx 9 0) (.seq (.block 1 (js [jM 10 8,jM 5 10] [0,1,5,7,8] (js [jM 11 1,jM 12 0,jM 13 5,jJ 14 33 12 13,jL 15 33 14,jo 16 (.callv (jt 11) [(jt 15)])] [0,1,5,7,8,16] (jl 16 [jM 17 5,jM 4 17] [4])))) (jr [jP 18 .add 8 1,jM 8 18] [0,1,7,8]))))
def LK:AFun:=⟨(js [jI 4 0] [0,1] (.seq (js [jM 6 0,jY 7 6,jI 8 0] [0,1,7,8] (jK 0 V7)) (ja [jI 4 (-1)] [4]))),[(4,none)]⟩
def o9:AFun:=⟨(js [jB 2 0,jT 3 false] [1,2] (ja [jF 4 0 2,jE 5 4,jE 6 1,jO 7 .eql 5 6,jM 3 7] [3])),[(3,none)]⟩
def Mz:ACode:=(js [jO 9 .lss 8 7] [3,6,7,8,9] (.seq (jx 9 0) (.seq (.block 1 (js [jJ 10 1 6 8,jE 11 10,jM 5 11] [3,5,6,7,8] (.seq (js [jM 12 5,jY 13 12,jM 14 3,jo 15 (.bin .sub (ji 1048576) (jt 14)),jO 16 .gtr 13 15] [3,5,6,7,8,16] (jl 16 [jT 2 true] [2])) (jr [jM 17 3,jM 18 5,jY 19 18,jO 20 .add 17 19,jM 3 20] [3,6,7,8])))) (jr [jP 21 .add 8 1,jM 8 21] [3,6,7,8]))))
def oy:AFun:=⟨(js [jT 2 false] [0] (js [jI 3 0] [0,3] (.seq (js [jM 6 0,jY 7 6,jI 8 0] [3,6,7,8] (jK 0 Mz)) (ja [jT 2 false] [2])))),[(2,none)]⟩
def Hw:ACode:=(js [jO 20 .lss 19 18] [1,6,7,8,17,18,19,20] (.seq (jx 20 0) (.seq (.block 1 (js [jJ 21 1 17 19,jE 22 21,jM 10 22] [1,6,7,8,10,17,18,19] (jr [jM 23 8,jM 24 10,jh 25 1 1 23 24,jM 8 25] [1,6,7,8,17,18,19]))) (jr [jP 26 .add 19 1,jM 19 26] [1,6,7,8,17,18,19]))))
def ox:AFun:=⟨(js [jB 3 0,jZ 6 16 .u8] [1,2,3,6] (js [jF 12 0 3,jL 13 32 12,jF 14 32 3,jL 15 12 14,jo 16 (.call 158 [(jt 13),(jt 15),(.const (.int .u32 0))] true),jZ 7 64 .u8,jS 64 7 16] [1,2,6,7] (js [jn 8] [1,2,6,7,8] (.seq (js [jM 17 2,jY 18 17,jI 19 0] [1,6,7,8,17,18,19] (jK 0 Hw)) (js [jM 27 8,jY 28 27,jM 11 28] [1,6,7,8,11] (.seq (.region [jo 29 (.sliceArr 64 1 (jt 7) none (some (ji 32)) none),jo 30 (.s2ap 32 (jt 29)),jL 31 32 30,jM 32 8,jM 33 11,jc 34 160 33,jM 35 1,jM 36 1,jY 37 36,jc 38 160 37,jM 39 11,jc 40 161 39,jM 41 1,jY 42 41,jc 43 161 42,jo 44 (.buildSlice (Qc 6 (.slice none 0 0)) 6 [jp 0 1 32,jp 1 1 34,jp 2 1 35,jp 3 1 38,jp 4 1 40,jp 5 1 43]),jd 45 159 31 44,jS 16 6 45] (some [6]) [(2,5),(2,9),(2,11),(2,14)]) .ret)))))),[(6,(some (some 16)))]⟩
def My:ACode:=(js [jO 15 .lss 14 13] [0,1,5,13,14,15] (.seq (jx 15 0) (.seq (.block 1 (js [jM 16 14,jM 6 16] [0,1,5,6,13,14] (jr [jM 17 5,jM 18 0,jM 19 6,jJ 20 1 18 19,jE 21 20,jM 22 1,jM 23 6,jJ 24 1 22 23,jE 25 24,jO 26 .xor 21 25,jO 27 .or 17 26,jM 5 27] [0,1,5,13,14]))) (jr [jP 28 .add 14 1,jM 14 28] [0,1,5,13,14]))))
def ou:AFun:=⟨(js [jT 4 false] [0,1] (.seq (js [jM 7 0,jY 8 7,jM 9 1,jY 10 9,jO 11 .neq 8 10] [0,1,11] (jl 11 [jT 4 false] [4])) (js [jk 5 .u8 0] [0,1,5] (.seq (js [jM 12 0,jY 13 12,jI 14 0] [0,1,5,13,14] (jK 0 My)) (ja [jM 29 5,jQ 30 .eql 29 .u8 0,jM 4 30] [4]))))),[(4,none)]⟩
def YL:ACode:=(js [jO 34 .lss 33 32] [2,4,5,10,13,32,33,34] (.seq (jx 34 2) (.seq (.block 3 (js [jM 35 33,jM 14 35] [2,4,5,10,13,14,32,33] (.seq (js [jM 36 14,jP 37 .rem 36 64,jP 38 .eql 37 0] [2,4,5,10,13,14,32,33,38] (.cond (jt 38) (jr [jL 39 32 4,jL 40 12 5,jM 41 2,jM 42 14,jP 43 .quo 42 64,jV 44 .u32 43,jO 45 .add 41 44,jG 46 158 39 40 45,jS 64 13 46] [2,4,5,10,13,14,32,33]) .skip)) (jr [jM 47 10,jM 48 14,jJ 49 1 47 48,jE 50 49,jM 51 14,jP 52 .rem 51 64,jH 53 64 1 13 52,jE 54 53,jO 55 .xor 50 54,jJ 56 1 47 48,jS 1 56 55] [2,4,5,10,13,32,33])))) (jr [jP 57 .add 33 1,jM 33 57] [2,4,5,10,13,32,33]))))
def Bq:ACode:=(js [jO 18 .lss 17 16] [2,4,5,10,15,16,17,18] (.seq (jx 18 0) (.seq (.block 1 (js [jJ 19 1 15 17,jE 20 19,jM 12 20] [2,4,5,10,12,15,16,17] (.seq (js [jM 21 12,jY 22 21,jM 23 10,jY 24 23,jo 25 (.bin .sub (ji 16777216) (jt 24)),jO 26 .gtr 22 25] [2,4,5,10,12,15,16,17,26] (.cond (jt 26) (ja [jn 8,jI 9 2] [8,9]) .skip)) (jr [jM 27 10,jM 28 12,jh 29 1 1 27 28,jM 10 29] [2,4,5,10,15,16,17])))) (jr [jP 30 .add 17 1,jM 17 30] [2,4,5,10,15,16,17]))))
def dV:AFun:=⟨(js [jB 4 0,jB 5 1,jn 8,jI 9 0] [2,3,4,5] (js [jn 10] [2,3,4,5,10] (.seq (js [jM 15 3,jY 16 15,jI 17 0] [2,4,5,10,15,16,17] (jK 0 Bq)) (js [jZ 13 64 .u8] [2,4,5,10,13] (.seq (js [jM 31 10,jY 32 31,jI 33 0] [2,4,5,10,13,32,33] (jK 2 YL)) (ja [jM 58 10,jM 8 58,jI 9 0] [8,9])))))),[(8,none),(9,none)]⟩
def Hu:ACode:=(js [jP 75 .lss 74 64] [6,7,10,13,74,75] (.seq (jx 75 10) (.seq (.block 11 (js [jM 76 74,jM 14 76] [6,7,10,13,14,74] (jr [jM 77 14,jM 78 14,jP 79 .quo 78 4,jH 80 16 1 10 79,jE 81 80,jM 82 14,jP 83 .quo 82 4,jH 84 16 1 7 83,jE 85 84,jO 86 .add 81 85,jM 87 14,jP 88 .rem 87 4,jo 89 (.bin .mul (ji 8) (jt 88)),jO 90 .shr 86 89,jV 91 .u8 90,jH 92 64 1 13 77,jS 1 92 91] [6,7,10,13,74]))) (jr [jP 93 .add 74 1,jM 74 93] [6,7,10,13,74]))))
def Ht:ACode:=(js [jP 56 .lss 55 4] [6,7,10,41,55,56] (.seq (jx 56 8) (.seq (.block 9 (js [jM 57 55,jM 12 57] [6,7,10,12,41,55] (jr [jM 58 12,jM 59 12,jP 60 .add 59 1,jP 61 .rem 60 4,jo 62 (.bin .add (ji 4) (jt 61)),jM 63 12,jP 64 .add 63 2,jP 65 .rem 64 4,jo 66 (.bin .add (ji 8) (jt 65)),jM 67 12,jP 68 .add 67 3,jP 69 .rem 68 4,jo 70 (.bin .add (ji 12) (jt 69)),jo 71 (.call 195 [(jt 10),(jt 58),(jt 62),(jt 66),(jt 70)] false)] [6,7,10,41,55]))) (jr [jP 72 .add 55 1,jM 55 72] [6,7,10,41,55]))))
def Hs:ACode:=(js [jP 44 .lss 43 4] [6,7,10,41,43,44] (.seq (jx 44 6) (.seq (.block 7 (js [jM 45 43,jM 11 45] [6,7,10,11,41,43] (jr [jM 46 11,jM 47 11,jo 48 (.bin .add (ji 4) (jt 47)),jM 49 11,jo 50 (.bin .add (ji 8) (jt 49)),jM 51 11,jo 52 (.bin .add (ji 12) (jt 51)),jo 53 (.call 195 [(jt 10),(jt 46),(jt 48),(jt 50),(jt 52)] false)] [6,7,10,41,43]))) (jr [jP 54 .add 43 1,jM 43 54] [6,7,10,41,43]))))
def Hr:ACode:=(js [jP 42 .lss 41 10] [6,7,10,41,42] (.seq (jx 42 4) (.seq (.block 5 (.seq (js [jI 43 0] [6,7,10,41,43] (jK 6 Hs)) (js [jI 55 0] [6,7,10,41,55] (jK 8 Ht)))) (jr [jP 73 .add 41 1,jM 41 73] [6,7,10,41]))))
def Hq:ACode:=(js [jP 30 .lss 29 3] [4,6,7,29,30] (.seq (jx 30 2) (.seq (.block 3 (js [jM 31 29,jM 9 31] [4,6,7,9,29] (jr [jM 32 9,jo 33 (.bin .add (ji 13) (jt 32)),jM 34 9,jo 35 (.bin .mul (ji 4) (jt 34)),jo 36 (.sliceArr 12 1 (jt 4) (some (jt 35)) none none),jc 37 194 36,jH 38 16 1 7 33,jS 1 38 37] [4,6,7,29]))) (jr [jP 39 .add 29 1,jM 29 39] [4,6,7,29]))))
def Hp:ACode:=(js [jP 17 .lss 16 8] [2,3,4,6,7,16,17] (.seq (jx 17 0) (.seq (.block 1 (js [jM 18 16,jM 8 18] [2,3,4,6,7,8,16] (jr [jM 19 8,jo 20 (.bin .add (ji 4) (jt 19)),jM 21 8,jo 22 (.bin .mul (ji 4) (jt 21)),jo 23 (.sliceArr 32 1 (jt 3) (some (jt 22)) none none),jc 24 194 23,jH 25 16 1 7 20,jS 1 25 24] [2,3,4,6,7,16]))) (jr [jP 26 .add 16 1,jM 16 26] [2,3,4,6,7,16]))))
def ot:AFun:=⟨(js [jB 3 0,jB 4 1,jZ 6 64 .u8] [2,3,4,6] (js [jo 15 (.build (Qc 16 (.int .u32 0)) [jg 0 .u32 1634760805,jg 1 .u32 857760878,jg 2 .u32 2036477234,jg 3 .u32 1797285236]),jZ 7 16 .u32,jS 16 7 15] [2,3,4,6,7] (.seq (js [jI 16 0] [2,3,4,6,7,16] (jK 0 Hp)) (js [jM 27 2,jA 28 16 1 7 12,jS 1 28 27] [4,6,7] (.seq (js [jI 29 0] [4,6,7,29] (jK 2 Hq)) (js [jL 40 16 7,jZ 10 16 .u32,jS 16 10 40] [6,7,10] (.seq (js [jI 41 0] [6,7,10,41] (jK 4 Hr)) (js [jZ 13 64 .u8] [6,7,10,13] (.seq (js [jI 74 0] [6,7,10,13,74] (jK 10 Hu)) (ja [jL 94 64 13,jS 64 6 94] [6])))))))))),[(6,(some (some 64)))]⟩
def Ho:ACode:=(.seq (js [jM 47 11,jY 48 47,jP 49 .geq 48 16] [2,4,10,11,12,38,39,40,49] (jx 49 6)) (.seq (.block 7 (jr [jM 52 12,jM 53 11,jo 54 (.sliceSl 1 (jt 53) none (some (ji 16)) none),jo 55 (.callv (jt 52) [(jt 54)])] [2,4,10,11,12,38,39,40])) (jr [jM 50 11,jo 51 (.sliceSl 1 (jt 50) (some (ji 16)) none none),jM 11 51] [2,4,10,11,12,38,39,40])))
def Bp:ACode:=(js [jO 41 .lss 40 39] [2,4,10,11,12,38,39,40,41] (.seq (jx 41 4) (.seq (.block 5 (js [jJ 42 1 38 40,jE 43 42,jM 14 43] [2,4,10,11,12,14,38,39,40] (js [jM 44 11,jM 45 14,jh 46 1 1 44 45,jM 11 46] [2,4,10,11,12,38,39,40] (jK 6 Ho)))) (jr [jP 56 .add 40 1,jM 40 56] [2,4,10,11,12,38,39,40]))))
def Bo:ACode:=(js [jP 27 .lss 26 3] [1,2,4,25,26,27] (.seq (jx 27 2) (.seq (.block 3 (js [jo 28 (.index none 3 1 (jt 25) (jt 26)),jM 8 28] [1,2,4,8,25,26] (jr [jM 29 8,jH 30 32 1 2 29,jE 31 30,jQ 32 .and 31 .u8 252,jH 33 32 1 2 29,jS 1 33 32] [1,2,4,25,26]))) (jr [jP 34 .add 26 1,jM 26 34] [1,2,4,25,26]))))
def Bn:ACode:=(js [jP 17 .lss 16 4] [1,2,4,15,16,17] (.seq (jx 17 0) (.seq (.block 1 (js [jo 18 (.index none 4 1 (jt 15) (jt 16)),jM 6 18] [1,2,4,6,15,16] (jr [jM 19 6,jH 20 32 1 2 19,jE 21 20,jQ 22 .and 21 .u8 15,jH 23 32 1 2 19,jS 1 23 22] [1,2,4,15,16]))) (jr [jP 24 .add 16 1,jM 16 24] [1,2,4,15,16]))))
def dU:AFun:=⟨(js [jB 2 0,jZ 4 16 .u8] [1,2,4] (.seq (js [jo 15 (.build [(.int .i64 0),(.int .i64 0),(.int .i64 0),(.int .i64 0)] [jg 0 .i64 3,jg 1 .i64 7,jg 2 .i64 11,jg 3 .i64 15]),jI 16 0] [1,2,4,15,16] (jK 0 Bn)) (.seq (js [jo 25 (.build [(.int .i64 0),(.int .i64 0),(.int .i64 0)] [jg 0 .i64 4,jg 1 .i64 8,jg 2 .i64 12]),jI 26 0] [1,2,4,25,26] (jK 2 Bo)) (js [jo 35 (.sliceArr 32 1 (jt 2) none (some (ji 16)) none),jc 36 196 35,jZ 9 5 .u64,jS 5 9 36] [1,2,4,9] (js [jZ 10 5 .u64] [1,2,4,9,10] (js [jn 11] [1,2,4,9,10,11] (js [jo 37 (.mkFunc (.func 197) [] [(jt 10),(jt 9)]),jM 12 37] [1,2,4,10,11,12] (.seq (js [jM 38 1,jY 39 38,jI 40 0] [2,4,10,11,12,38,39,40] (jK 4 Bp)) (.seq (js [jM 57 11,jY 58 57,jP 59 .gtr 58 0] [2,4,10,11,12,59] (.cond (jt 59) (jr [jM 60 12,jM 61 11,jo 62 (.callv (jt 60) [(jt 61)])] [2,4,10]) .skip)) (ja [jL 63 5 10,jL 64 32 2,jD 65 199 63 64,jS 16 4 65] [4])))))))))),[(4,(some (some 16)))]⟩
def oq:AFun:=⟨(js [jn 2] [0] (ja [jM 3 0,jP 4 .rem 3 16,jo 5 (.bin .sub (ji 16) (jt 4)),jP 6 .rem 5 16,jo 7 (.makeSlice [(.int .u8 0)] 1 (jt 6) (jt 6)),jM 2 7] [2])),[(2,none)]⟩
def Hn:ACode:=(js [jP 7 .lss 6 4] [0,3,6,7] (.seq (jx 7 0) (.seq (.block 1 (js [jM 8 6,jM 4 8] [0,3,4,6] (jr [jM 9 3,jM 10 4,jM 11 0,jM 12 4,jo 13 (.bin .mul (ji 8) (jt 12)),jO 14 .shr 11 13,jV 15 .u8 14,jJ 16 1 9 10,jS 1 16 15] [0,3,6]))) (jr [jP 17 .add 6 1,jM 6 17] [0,3,6]))))
def om:AFun:=⟨(js [jn 2] [0] (js [jo 5 (.makeSlice [(.int .u8 0)] 1 (ji 8) (ji 8)),jM 3 5] [0,3] (.seq (js [jI 6 0] [0,3,6] (jK 0 Hn)) (ja [jM 18 3,jM 2 18] [2])))),[(2,none)]⟩
def oh:AFun:=⟨(js [jk 2 .u32 0] [0] (ja [jM 3 0,jy 4 1 3 0,jE 5 4,jV 6 .u32 5,jM 7 0,jy 8 1 7 1,jE 9 8,jV 10 .u32 9,jQ 11 .shl 10 .u64 8,jO 12 .or 6 11,jM 13 0,jy 14 1 13 2,jE 15 14,jV 16 .u32 15,jQ 17 .shl 16 .u64 16,jO 18 .or 12 17,jM 19 0,jy 20 1 19 3,jE 21 20,jV 22 .u32 21,jQ 23 .shl 22 .u64 24,jO 24 .or 18 23,jM 2 24] [2])),[(2,none)]⟩
def Bm:ACode:=(js [jP 16 .lss 15 2] [0,1,2,3,4,14,15,16] (.seq (jx 16 0) (.seq (.block 1 (js [jo 17 (.index (some 2) 2 2 (jt 14) (jt 15)),jo 11 (.alloc [(.int .i64 0),(.int .i64 0)]),jS 2 11 17] [0,1,2,3,4,11,14,15] (js [jM 18 0,jM 19 1,jN 20 18,jH 21 16 1 20 19,jE 22 21,jM 23 0,jM 24 2,jN 25 23,jH 26 16 1 25 24,jE 27 26,jO 28 .add 22 27,jN 29 18,jH 30 16 1 29 19,jS 1 30 28] [0,1,2,3,4,11,14,15] (js [jM 31 0,jM 32 4,jM 33 0,jM 34 4,jN 35 33,jH 36 16 1 35 34,jE 37 36,jM 38 0,jM 39 1,jN 40 38,jH 41 16 1 40 39,jE 42 41,jO 43 .xor 37 42,jA 44 2 1 11 0,jE 45 44,jD 46 207 43 45,jN 47 31,jH 48 16 1 47 32,jS 1 48 46] [0,1,2,3,4,11,14,15] (js [jM 49 0,jM 50 3,jN 51 49,jH 52 16 1 51 50,jE 53 52,jM 54 0,jM 55 4,jN 56 54,jH 57 16 1 56 55,jE 58 57,jO 59 .add 53 58,jN 60 49,jH 61 16 1 60 50,jS 1 61 59] [0,1,2,3,4,11,14,15] (jr [jM 62 0,jM 63 2,jM 64 0,jM 65 2,jN 66 64,jH 67 16 1 66 65,jE 68 67,jM 69 0,jM 70 3,jN 71 69,jH 72 16 1 71 70,jE 73 72,jO 74 .xor 68 73,jA 75 2 1 11 1,jE 76 75,jD 77 207 74 76,jN 78 62,jH 79 16 1 78 63,jS 1 79 77] [0,1,2,3,4,14,15])))))) (jr [jP 80 .add 15 1,jM 15 80] [0,1,2,3,4,14,15]))))
def og:AFun:=⟨(js [jo 12 (.build [(.int .i64 0),(.int .i64 0)] [jg 0 .i64 16,jg 1 .i64 12]),jo 13 (.build [(.int .i64 0),(.int .i64 0)] [jg 0 .i64 8,jg 1 .i64 7]),jo 14 (.build [(.int .i64 0),(.int .i64 0),(.int .i64 0),(.int .i64 0)] [jp 0 2 12,jp 2 2 13]),jI 15 0] [0,1,2,3,4,14,15] (jK 0 Bm)),[]⟩
def WX:ACode:=(js [jO 9 .lss 8 7] [2,3,6,7,8,9] (.seq (jx 9 0) (.seq (.block 1 (js [jM 10 8,jJ 11 1 6 8,jE 12 11,jM 4 10,jM 5 12] [2,3,4,5,6,7,8] (js [jM 13 4,jo 14 (.bin .mul (ji 8) (jt 13)),jP 15 .quo 14 26,jH 16 5 1 3 15,jE 17 16,jM 18 5,jV 19 .u64 18,jM 20 4,jo 21 (.bin .mul (ji 8) (jt 20)),jP 22 .rem 21 26,jO 23 .shl 19 22,jQ 24 .and 23 .u64 67108863,jO 25 .or 17 24,jH 26 5 1 3 15,jS 1 26 25] [2,3,4,5,6,7,8] (js [jM 27 4,jo 28 (.bin .mul (ji 8) (jt 27)),jP 29 .rem 28 26,jP 30 .gtr 29 18,jM 31 30,.mk (some 32) (.move (jt 4)) (some (31,true)),.mk (some 33) (.bin .mul (ji 8) (jt 32)) (some (31,true)),.mk (some 34) (.bin .quo (jt 33) (ji 26)) (some (31,true)),.mk (some 35) (.bin .lss (jt 34) (ji 4)) (some (31,true)),jo 36 (.pick (jt 31) (jt 35) (.const (.bool false)))] [2,3,4,5,6,7,8,36] (.cond (jt 36) (jr [jM 37 4,jo 38 (.bin .mul (ji 8) (jt 37)),jP 39 .quo 38 26,jP 40 .add 39 1,jH 41 5 1 3 40,jE 42 41,jM 43 5,jV 44 .u64 43,jM 45 4,jo 46 (.bin .mul (ji 8) (jt 45)),jP 47 .rem 46 26,jo 48 (.bin .sub (ji 26) (jt 47)),jO 49 .shr 44 48,jO 50 .or 42 49,jH 51 5 1 3 40,jS 1 51 50] [2,3,6,7,8]) .skip))))) (jr [jP 52 .add 8 1,jM 8 52] [2,3,6,7,8]))))
def od:AFun:=⟨(js [jZ 2 5 .u64] [0,2] (js [jZ 3 5 .u64] [0,2,3] (.seq (js [jM 6 0,jY 7 6,jI 8 0] [2,3,6,7,8] (jK 0 WX)) (ja [jL 53 5 3,jS 5 2 53] [2])))),[(2,(some (some 5)))]⟩
def Hm:ACode:=(js [jP 13 .lss 12 5] [1,2,4,12,13] (.seq (jx 13 0) (.seq (.block 1 (js [jM 14 12,jM 5 14] [1,2,4,5,12] (jr [jM 15 5,jH 16 5 1 1 15,jE 17 16,jM 18 5,jH 19 5 1 4 18,jE 20 19,jO 21 .add 17 20,jH 22 5 1 1 15,jS 1 22 21] [1,2,4,12]))) (jr [jP 23 .add 12 1,jM 12 23] [1,2,4,12]))))
def nZ:AFun:=⟨(js [jo 6 (.makeSlice [(.int .u8 0)] 1 (ji 0) (ji 17)),jM 7 0,jh 8 1 1 6 7,jo 9 (.buildSlice [(.int .u8 0)] 1 [jg 0 .u8 1]),jh 10 1 1 8 9,jc 11 196 10,jZ 4 5 .u64,jS 5 4 11] [1,2,4] (.seq (js [jI 12 0] [1,2,4,12] (jK 0 Hm)) (jr [jL 24 5 1,jL 25 5 2,jD 26 198 24 25,jS 5 1 26] []))),[]⟩
def Bl:ACode:=(js [jP 17 .lss 16 5] [3,4,5,6,7,10,11,15,16,17] (.seq (jx 17 2) (.seq (.block 3 (js [jM 18 16,jo 19 (.index none 5 1 (jt 15) (jt 16)),jM 8 18,jM 9 19] [3,4,5,6,7,8,9,10,11,15,16] (js [jM 20 6,jM 21 8,jO 22 .add 20 21,jP 23 .gtr 22 4] [3,4,5,6,7,8,9,10,11,15,16,23] (.cond (jt 23) (jr [jM 24 6,jM 25 8,jO 26 .add 24 25,jP 27 .sub 26 5,jH 28 5 1 5 27,jE 29 28,jM 30 7,jo 31 (.bin .mul (.const (.int .u64 5)) (jt 30)),jM 32 9,jO 33 .mul 31 32,jO 34 .add 29 33,jH 35 5 1 5 27,jS 1 35 34] [3,4,5,6,7,10,11,15,16]) (jr [jM 36 6,jM 37 8,jO 38 .add 36 37,jH 39 5 1 5 38,jE 40 39,jM 41 7,jM 42 9,jO 43 .mul 41 42,jO 44 .add 40 43,jH 45 5 1 5 38,jS 1 45 44] [3,4,5,6,7,10,11,15,16]))))) (jr [jP 46 .add 16 1,jM 16 46] [3,4,5,6,7,10,11,15,16]))))
def Hl:ACode:=(js [jP 12 .lss 11 5] [3,4,5,10,11,12] (.seq (jx 12 0) (.seq (.block 1 (js [jM 13 11,jo 14 (.index none 5 1 (jt 10) (jt 11)),jM 6 13,jM 7 14] [3,4,5,6,7,10,11] (js [jL 15 5 3,jI 16 0] [3,4,5,6,7,10,11,15,16] (jK 2 Bl)))) (jr [jP 47 .add 11 1,jM 11 47] [3,4,5,10,11]))))
def nY:AFun:=⟨(js [jB 2 0,jB 3 1,jZ 4 5 .u64] [2,3,4] (js [jZ 5 5 .u64] [2,3,4,5] (.seq (js [jL 10 5 2,jI 11 0] [3,4,5,10,11] (jK 0 Hl)) (ja [jL 48 5 5,jC 49 210 48,jC 50 210 49,jS 5 4 50] [4])))),[(4,(some (some 5)))]⟩
def WW:ACode:=(js [jP 51 .lss 50 16] [2,3,4,8,9,50,51] (.seq (jx 51 4) (.seq (.block 5 (js [jM 52 50,jM 10 52] [2,3,4,8,9,10,50] (js [jM 53 10,jo 54 (.bin .mul (ji 8) (jt 53)),jP 55 .quo 54 26,jH 56 5 1 2 55,jE 57 56,jM 58 10,jo 59 (.bin .mul (ji 8) (jt 58)),jP 60 .rem 59 26,jO 61 .shr 57 60,jM 11 61] [2,3,4,8,9,10,11,50] (.seq (js [jM 62 10,jo 63 (.bin .mul (ji 8) (jt 62)),jP 64 .rem 63 26,jP 65 .gtr 64 18,jM 66 65,.mk (some 67) (.move (jt 10)) (some (66,true)),.mk (some 68) (.bin .mul (ji 8) (jt 67)) (some (66,true)),.mk (some 69) (.bin .quo (jt 68) (ji 26)) (some (66,true)),.mk (some 70) (.bin .lss (jt 69) (ji 4)) (some (66,true)),jo 71 (.pick (jt 66) (jt 70) (.const (.bool false)))] [2,3,4,8,9,10,11,50,71] (.cond (jt 71) (jr [jM 72 11,jM 73 10,jo 74 (.bin .mul (ji 8) (jt 73)),jP 75 .quo 74 26,jP 76 .add 75 1,jH 77 5 1 2 76,jE 78 77,jM 79 10,jo 80 (.bin .mul (ji 8) (jt 79)),jP 81 .rem 80 26,jo 82 (.bin .sub (ji 26) (jt 81)),jO 83 .shl 78 82,jO 84 .or 72 83,jM 11 84] [2,3,4,8,9,10,11,50]) .skip)) (js [jM 85 9,jM 86 11,jV 87 .u8 86,jV 88 .i64 87,jM 89 10,jo 90 (.bin .add (ji 16) (jt 89)),jH 91 32 1 3 90,jE 92 91,jV 93 .i64 92,jO 94 .add 88 93,jO 95 .add 85 94,jM 9 95] [2,3,4,8,9,10,50] (js [jM 96 10,jM 97 9,jV 98 .u8 97,jH 99 16 1 8 96,jS 1 99 98] [2,3,4,8,9,50] (jr [jM 100 9,jQ 101 .shr 100 .u64 8,jM 9 101] [2,3,4,8,9,50]))))))) (jr [jP 102 .add 50 1,jM 50 102] [2,3,4,8,9,50]))))
def Hj:ACode:=(js [jP 32 .lss 31 5] [2,3,4,5,31,32] (.seq (jx 32 2) (.seq (.block 3 (js [jM 33 31,jM 7 33] [2,3,4,5,7,31] (js [jM 34 7,jH 35 5 1 2 34,jE 36 35,jM 37 5,jO 38 .add 36 37,jH 39 5 1 2 34,jS 1 39 38] [2,3,4,7,31] (js [jM 40 7,jH 41 5 1 2 40,jE 42 41,jQ 43 .shr 42 .u64 26,jM 5 43] [2,3,4,5,7,31] (jr [jM 44 7,jH 45 5 1 2 44,jE 46 45,jQ 47 .and 46 .u64 67108863,jH 48 5 1 2 44,jS 1 48 47] [2,3,4,5,31]))))) (jr [jP 49 .add 31 1,jM 31 49] [2,3,4,5,31]))))
def Hi:ACode:=(js [jP 16 .lss 15 5] [2,3,4,5,15,16] (.seq (jx 16 0) (.seq (.block 1 (js [jM 17 15,jM 6 17] [2,3,4,5,6,15] (jr [jM 18 6,jH 19 5 1 2 18,jE 20 19,jM 21 5,jO 22 .add 20 21,jQ 23 .shr 22 .u64 26,jM 5 23] [2,3,4,5,15]))) (jr [jP 24 .add 15 1,jM 15 24] [2,3,4,5,15]))))
def nX:AFun:=⟨(js [jB 2 0,jB 3 1,jZ 4 16 .u8] [2,3,4] (js [jL 12 5 2,jC 13 210 12,jC 14 210 13,jS 5 2 14] [2,3,4] (js [jk 5 .u64 5] [2,3,4,5] (.seq (js [jI 15 0] [2,3,4,5,15] (jK 0 Hi)) (js [jA 25 5 1 2 0,jE 26 25,jM 27 5,jo 28 (.bin .mul (.const (.int .u64 5)) (jt 27)),jO 29 .add 26 28,jA 30 5 1 2 0,jS 1 30 29] [2,3,4] (js [jk 5 .u64 0] [2,3,4,5] (.seq (js [jI 31 0] [2,3,4,5,31] (jK 2 Hj)) (js [jZ 8 16 .u8] [2,3,4,8] (js [jI 9 0] [2,3,4,8,9] (.seq (js [jI 50 0] [2,3,4,8,9,50] (jK 4 WW)) (ja [jL 103 16 8,jS 16 4 103] [4]))))))))))),[(4,(some (some 16)))]⟩
def Hh:ACode:=(js [jP 6 .lss 5 5] [1,2,3,5,6] (.seq (jx 6 0) (.seq (.block 1 (js [jM 7 5,jM 4 7] [1,2,3,4,5] (js [jM 8 4,jH 9 5 1 1 8,jE 10 9,jM 11 3,jO 12 .add 10 11,jH 13 5 1 1 8,jS 1 13 12] [1,2,4,5] (js [jM 14 4,jH 15 5 1 1 14,jE 16 15,jQ 17 .shr 16 .u64 26,jM 3 17] [1,2,3,4,5] (jr [jM 18 4,jH 19 5 1 1 18,jE 20 19,jQ 21 .and 20 .u64 67108863,jH 22 5 1 1 18,jS 1 22 21] [1,2,3,5]))))) (jr [jP 23 .add 5 1,jM 5 23] [1,2,3,5]))))
def nV:AFun:=⟨(js [jB 1 0,jZ 2 5 .u64] [1,2] (js [jk 3 .u64 0] [1,2,3] (.seq (js [jI 5 0] [1,2,3,5] (jK 0 Hh)) (js [jA 24 5 1 1 0,jE 25 24,jM 26 3,jo 27 (.bin .mul (.const (.int .u64 5)) (jt 26)),jO 28 .add 25 27,jA 29 5 1 1 0,jS 1 29 28] [1,2] (ja [jL 30 5 1,jS 5 2 30] [2]))))),[(2,(some (some 5)))]⟩
def oz:AFun:=⟨(js [jn 6] [0,1,2] (js [jM 8 0,jM 9 1,jM 10 2,jM 11 0,jY 12 11,jo 13 (.sliceSl 33 (jt 8) (some (jt 9)) (some (jt 10)) (some (jt 12)))] [0,1,2] (.seq (js [jM 14 1,jM 15 2,jO 16 .eql 14 15] [0,1,2,16] (jl 16 [jM 17 0,jM 6 17] [6])) (js [jM 18 0,jY 19 18,jM 7 19] [0,1,2,7] (js [jM 20 0,jM 21 1,jo 22 (.sliceSl 33 (jt 20) none (some (jt 21)) none),jM 23 0,jM 24 2,jo 25 (.sliceSl 33 (jt 23) (some (jt 24)) none none),jh 26 33 36 22 25,jM 0 26] [0,7] (js [jM 27 0,jM 28 0,jY 29 28,jM 30 7,jo 31 (.sliceSl 33 (jt 27) (some (jt 29)) (some (jt 30)) none),jq (.clear Wd (jt 31))] [0] (ja [jM 32 0,jM 6 32] [6]))))))),[(6,none)]⟩
def fnS:Nat→Option AFun
 | 145=>some a16
 | 123=>some a17
 | 85=>some a19
 | 63=>some a21
 | 66=>some a25
 | 67=>some a26
 | 65=>some a27
 | 116=>some a28
 | 69=>some a29
 | 118=>some a30
 | 61=>some a31
 | 68=>some a34
 | 62=>some a39
 | 119=>some a40
 | 148=>some a41
 | 149=>some a42
 | 146=>some a44
 | 147=>some a45
 | 120=>some a46
 | 121=>some a47
 | 106=>some a49
 | 111=>some a50
 | 108=>some a51
 | 113=>some a52
 | 117=>some a53
 | 124=>some a54
 | 177=>some a55
 | 125=>some a56
 | 126=>some a57
 | 127=>some a58
 | 107=>some a59
 | 109=>some a60
 | 110=>some a61
 | 112=>some a62
 | 114=>some a63
 | 115=>some a64
 | 178=>some a75
 | 187=>some a76
 | 169=>some a77
 | 170=>some a78
 | 171=>some a79
 | 172=>some a80
 | 173=>some a81
 | 174=>some a82
 | 175=>some a83
 | 176=>some a84
 | 204=>some a91
 | 40=>some pz
 | 25=>some D3
 | 58=>some pt
 | 84=>some pr
 | 64=>some pq
 | 122=>some po
 | 179=>some ph
 | 180=>some pg
 | 181=>some pd
 | 183=>some dY
 | 206=>some pc
 | 185=>some dX
 | 212=>some pb
 | 208=>some oZ
 | 38=>some UP
 | 105=>some oY
 | 77=>some oX
 | 82=>some dW
 | 83=>some oW
 | 97=>some oV
 | 168=>some oU
 | 138=>some oT
 | 139=>some oS
 | 140=>some oR
 | 156=>some oQ
 | 157=>some oP
 | 203=>some oO
 | 184=>some oN
 | 207=>some oM
 | 9=>some C4
 | 16=>some oL
 | 18=>some C3
 | 21=>some oK
 | 23=>some oJ
 | 24=>some oI
 | 28=>some oH
 | 32=>some oG
 | 48=>some oF
 | 49=>some LL
 | 50=>some Te
 | 51=>some oD
 | 52=>some oC
 | 59=>some oB
 | 60=>some oA
 | 94=>some LK
 | 95=>some o9
 | 98=>some oy
 | 99=>some ox
 | 100=>some ou
 | 101=>some dV
 | 158=>some ot
 | 159=>some dU
 | 160=>some oq
 | 161=>some om
 | 194=>some oh
 | 195=>some og
 | 196=>some od
 | 197=>some nZ
 | 198=>some nY
 | 199=>some nX
 | 210=>some nV
 | 96=>some oz
 | _=>none
end Go.Ev.YtomfgcgnepfmjaaGreat
namespace Go.Ev.YtomfgcgnepfmjaaGreat
open Go Go.Ev
variable {x y c:Nat}
def iG (f:Nat) (args:List Value):Option Value :=
 match f,args with
 | 205,[.int .u64 x,.int .u64 y,.int .u64 c]=>if c.toNat≤1 then some (.tuple #[.int .u64 ((x.toNat+y.toNat+c.toNat)%18446744073709551616:Nat),.int .u64 ((x.toNat+y.toNat+c.toNat)/18446744073709551616:Nat)]) else none
 | _,_=>none
def T:Tab:=⟨fnS,iG⟩
attribute [local congr] UM
set_option maxRecDepth 100000
def B4 (x y c:Nat):Nat:=if x<y+c then 1 else 0
def B2 (x y c:Nat):Nat:=if x<y+c then x+4294967296-(y+c) else x-(y+c)
theorem MP (hx:x<4294967296) (hy:y<4294967296) (hc:c≤1) :
  Zd T 178 [.int .u32 x,.int .u32 y,.int .u32 c] []=some (.tuple #[.int .u32 (B2 x y c:Nat),.int .u32 (B4 x y c:Nat)],[],[]):=by
 have e1:IntKind.u32.wrap (IntKind.u32.wrap ((x:Int)-y)-c)=((x:Int)-y-c)%4294967296:=by rw [wrap_u32,wrap_u32]; omega
 have e2:=dB hx hy hc
 have e3:(31:Int).toNat=31:=rfl
 have e4:min 31 IntKind.u32.bits=31:=rfl
 have e5:((x:Int)-y-c)%4294967296=(B2 x y c:Nat):=by unfold B2; split<;>omega
 have e6:(if x<y+c then 1 else 0:Int)=(B4 x y c:Nat):=by unfold B4; split<;>rfl
 rw [QE (fn:=a75) rfl]
 simp only [a75,Q0,guardOf,Q1,opd,JB,Z7,Zo,Env.get,Env.put,ZR,Qy,Z6,St.after,Env.keep,Jx,ZJ,unV,ZF,Zl,packed,Ob.fresh,ZX,okVar,cS,reduceCtorEq,QL,QH,QN,QZ,QU,QV,QG,QT,QM,show (if IntKind.u32.signed=true then (-1:Int) else IntKind.u32.max)=IntKind.u32.max from rfl,e1,e3,e4,show ¬ ((31:Int)<0) by decide,Z3]
 rw [e2,e6,e5]
def FZ (x y c:Nat):Nat:=(x+y+c)/4294967296
def FY (x y c:Nat):Nat:=(x+y+c)%4294967296
theorem Ia (hx:x<4294967296) (hy:y<4294967296) (hc:c≤1) :
  Zd T 187 [.int .u32 x,.int .u32 y,.int .u32 c] []=some (.tuple #[.int .u32 (FY x y c:Nat),.int .u32 (FZ x y c:Nat)],[],[]):=by
 have e1:IntKind.u64.wrap (IntKind.u64.wrap (IntKind.u64.wrap (x:Int)+IntKind.u64.wrap (y:Int))+IntKind.u64.wrap (c:Int))=((x+y+c:Nat):Int):=by simp only [Wf]; omega
 have e3:(32:Int).toNat=32:=rfl
 have e4:min 32 IntKind.u64.bits=32:=rfl
 have e5:IntKind.u32.wrap ((x+y+c:Nat):Int)=(FY x y c:Nat):=by rw [wrap_u32]; unfold FY; omega
 have e6:IntKind.u32.wrap (Um ((x+y+c:Nat):Int) (2^32))=(FZ x y c:Nat):=by
  rw [wrap_u32,J5 _ (by decide)]; unfold FZ; omega
 rw [QE (fn:=a76) rfl]
 simp only [a76,Q0,guardOf,Q1,opd,JB,Z7,Zo,Env.get,Env.put,ZR,Qy,Z6,St.after,Env.keep,Jx,ZJ,unV,ZF,Zl,packed,Ob.fresh,ZX,okVar,cS,reduceCtorEq,QL,QH,QN,QZ,QU,QV,QG,QT,QM,e1,e3,e4,e5,e6,show ¬ ((32:Int)<0) by decide,Z3]
def orderW:List Nat:=[1559614445,1477600026,2734136534,350157278,0,0,0,268435456]
theorem Rt (H:List Ob):Zd T 121 [] H=some (.slice (some ⟨H.length,0,none⟩) 8 8,H++[Ob.fresh (QR orderW)],[]):=by
 rw [QE (fn:=a47) rfl]
 simp only [a47,Q0,guardOf,Q1,opd,JB,Z7,Zo,Env.get,Env.put,ZR,Qy,Z6,St.after,Env.keep,Jx,ZJ,unV,ZF,Zl,packed,Ob.fresh,ZX,okVar,cS,reduceCtorEq,QL,QH,QN,QZ,QU,QV,QG,QT,QM]
 rfl
end Go.Ev.YtomfgcgnepfmjaaGreat
namespace Go.Ev.YtomfgcgnepfmjaaGreat
open Go Go.Ev
attribute [local congr] UM
set_option maxRecDepth 100000
variable {H:List Ob} {n c m id2 off2 c2 k id1 off1 c1 x b y id off i a l:Nat} {ws r os out bs:List Nat} {s v:Value}
def IX (ws:List Nat) (j x:Nat):List Nat:=ws.set (j/4) (ws.getD (j/4) 0|||x*2^(8*(j%4)))
def ofI (H:List Ob) (id off n c m:Nat) (log:List Nat) (W:Nat→List Nat) (j:Nat):St :=
 ⟨[(3,.slice (some ⟨H.length,0,none⟩) m m),(11,.slice (some ⟨id,off,none⟩) n c),(12,.int .i64 n),(13,.int .i64 j)],H++[Ob.fresh (QR (W j))],log⟩
theorem gG (hr:Row .u8 H id off bs) (hn:bs.length=n) (hm:m=(n+3)/4) (hN:n<2^40) (hb:∀ x∈bs,x<256)
 (W:Nat→List Nat) (hW:∀ j,(W j).length=m∧∀ x∈W j,x<4294967296) (hstep:∀ j x,bs[j]?=some x→W (j+1)=IX (W j) j x) {j:Nat} (hj:j<n) :
    Q8 T H.length Gk (ofI H id off n c m [] W j)=some (.normal,ofI H id off n c m [] W (j+1)):=by
  obtain ⟨x,hx⟩:∃ x,bs[j]?=some x:=⟨_,Qh (by omega)⟩
  have h1:((j:Int)<(n:Int)):=by omega
  have hq:j/4<m:=by omega
  obtain ⟨y,hy⟩:∃ y,(W j)[j/4]?=some y:=⟨_,Qh (by rw [(hW j).1]; exact hq)⟩
  obtain ⟨o,ho,hc⟩:=hr
  have ho':=Kq (l:=[⟨QR (W j),true,true,true,1⟩]) ho
  have hxc:=hc j x hx
  have hyc:=XO hy
  have hx256:x<256:=hb x (Qz hx)
  have e1:IntKind.i64.wrap ((j:Int).tdiv 4)=((j/4:Nat):Int):=Jf (n:=j/4) (by omega)
  have e2:((j:Int).tmod 4)=((j%4:Nat):Int):=rfl
  have e3:IntKind.i64.wrap (8*((j%4:Nat):Int))=((8*(j%4):Nat):Int):=Jf (n:=8*(j%4)) (by omega)
  have e4:min (8*(j%4)) IntKind.u32.bits=8*(j%4):=Ze (by show _≤32; omega)
  have e5:IntKind.u32.wrap (x:Int)=(x:Nat):=JV rfl (by show x<2^32; omega)
  have h3:((j/4:Nat):Int)<(m:Int):=by omega
  have h4:¬ (((8*(j%4):Nat):Int)<0):=by omega
  have hp:x*2^(8*(j%4))<4294967296:=by
    have h5:(2:Nat)^(8*(j%4))≤2^24:=Zp (by decide) (by omega)
    have h6:x*2^(8*(j%4))≤255*2^24:=JH (by omega) h5
    omega
  have hy32:y<4294967296:=(hW j).2 y (Qz hy)
  have e6:Zs .or .u32 (y:Nat) (IntKind.u32.wrap ((x:Int)*2^(8*(j%4))))=((y|||x*2^(8*(j%4)):Nat):Int):=by
    have:((x:Int)*2^(8*(j%4)))=((x*2^(8*(j%4)):Nat):Int):=by simp
    rw [this,JV rfl hp,KA rfl hy32 hp]
  have e7:IntKind.i64.wrap ((j:Int)+1)=((j+1:Nat):Int):=Jf (n:=j+1) (by omega)
  have h5:j/4+1≤(QR (W j)).length:=by rw [XN,(hW j).1]; omega
  have hs:W (j+1)=(W j).set (j/4) (y|||x*2^(8*(j%4))):=by rw [hstep j x hx,IX,Qx,hy]; rfl
  simp only [ofI,Gk,Q0,guardOf,Q1,opd,JB,Z7,Zo,Env.get,Env.put,ZR,Qy,Z6,St.after,Env.keep,Jx,ZJ,unV,ZF,Zl,packed,Ob.fresh,ZX,okVar,cS,reduceCtorEq,QL,QH,QN,QZ,QU,QV,QG,QT,QM,h1,ho',hxc,hyc,e1,e2,e3,e4,e5,h3,h4,e6,e7,h5,Kh,hs,Vr]
theorem Wp (v:Value):∀ n,(Qc n [v]).flatten=Qc n v
 | 0=>rfl
 | n+1=>by rw [KB,List.flatten_cons,Wp v n]; rfl
theorem FA (B n:Nat):dig B n 0=Qc n 0:=by
 symm
 exact Bf (by simp) fun i hi=>by simp [hi]
theorem HV (n:Nat):Qc n (Value.int .u32 0)=QR (dig 4294967296 n 0):=by simp [FA,QR]
theorem TY (hr:Row .u8 H id off bs) (hn:bs.length=n) (hN:n<2^40) (hb:∀ x∈bs,x<256) :
  Zd T 119 [.slice (some ⟨id,off,none⟩) n c] H=some (.slice (some ⟨H.length,0,none⟩) ((n+3)/4) ((n+3)/4),H++[Ob.fresh (QR (dig 4294967296 ((n+3)/4) (num 256 bs)))],[]):=by
 have hbody:=Xp (T:=T) (base:=H.length) (id:=0) (body:=Gk) (ofI H id off n c ((n+3)/4) [] fun j=>dig 4294967296 ((n+3)/4) (num 256 (bs.take j))) n
  (s':=⟨[(3,.slice (some ⟨H.length,0,none⟩) ((n+3)/4) ((n+3)/4)),(11,.slice (some ⟨id,off,none⟩) n c),(12,.int .i64 n),(13,.int .i64 n),(14,.bool false)],H++[Ob.fresh (QR (dig 4294967296 ((n+3)/4) (num 256 bs)))],[]⟩)
  (fun j hj=>gG hr hn rfl hN hb _ (fun j=>⟨Zx _ _ _,fun x hx=>KV (by decide) hx⟩) (fun j x hx=>by
   have hj:j<bs.length:=(Qf.1 hx).1
   have hlt:num 256 (bs.take j)<256^j:=by
    have:=num_lt (B:=256) (l:=bs.take j) fun y hy=>hb y (QP hy)
    rwa [Q7,Ze (Xi hj)] at this
   rw [XP hx,IX,dq (by omega) hlt (hb x (Qz hx))]) hj)
  (by
   have h1:¬ ((n:Int)<(n:Int)):=by omega
   have h2:bs.take n=bs:=by rw [←hn]; exact KC
   simp only [ofI,Gk,Q0,guardOf,Q1,opd,JB,Z7,Zo,Env.get,Env.put,ZR,Qy,Z6,St.after,Env.keep,Jx,ZJ,unV,ZF,Zl,packed,Ob.fresh,ZX,okVar,cS,reduceCtorEq,QL,QH,QN,QZ,QU,QV,QG,QT,QM,h1,h2])
 have e1:IntKind.i64.wrap ((n:Int)+3)=((n+3:Nat):Int):=Jf (n:=n+3) (by omega)
 have e2:IntKind.i64.wrap (((n+3:Nat):Int).tdiv 4)=(((n+3)/4:Nat):Int):=Jf (n:=(n+3)/4) (by omega)
 have h1:((((n+3)/4:Nat):Int)*((4:Nat):Int)≤2^47):=by omega
 have h2:(0:Nat)<4:=by decide
 rw [QE (fn:=a40) rfl]
 have hz:ofI H id off n c ((n+3)/4) [] (fun j=>dig 4294967296 ((n+3)/4) (num 256 (bs.take j))) 0=⟨[(3,.slice (some ⟨H.length,0,none⟩) ((n+3)/4) ((n+3)/4)),(11,.slice (some ⟨id,off,none⟩) n c),(12,.int .i64 n),(13,.int .i64 0)],H++[Ob.fresh (QR (dig 4294967296 ((n+3)/4) 0))],[]⟩:=by simp [ofI,num]
 rw [hz] at hbody
 simp only [Ob.fresh] at hbody
 simp only [a40,Q0,guardOf,Q1,opd,JB,Z7,Zo,Env.get,Env.put,ZR,Qy,Z6,St.after,Env.keep,Jx,ZJ,unV,ZF,Zl,packed,Ob.fresh,ZX,okVar,cS,reduceCtorEq,QL,QH,QN,QZ,QU,QV,QG,QT,QM,e1,e2,h1,h2,Wb,Wp,HV,hbody]
structure MulInv (n m i k A a:Nat) (os out:List Nat) (c:Nat):Prop where
 len:out.length=n+m
 lt:∀ x∈out,x<4294967296
 clt:c<4294967296
 eq:num 4294967296 out+c*4294967296^(i+k)=A+a*4294967296^i*num 4294967296 (os.take k)
 top:∀ j,i+m≤j→j<n+m→out[j]?=some 0
theorem MulInv.step {n m i k A a b y c:Nat} {os out:List Nat} (h:MulInv n m i k A a os out c) (ha:a<4294967296) (hb:os[k]?=some b) (hb':b<4294967296) (hy:out[i+k]?=some y) (hk:k<m) :
  MulInv n m i (k+1) A a os (out.set (i+k) ((c+(y+a*b))%4294967296)) ((c+(y+a*b))/4294967296):=by
 have hy':y<4294967296:=h.lt y (Qz hy)
 have hc:=h.clt
 refine ⟨by rw [Qo]; exact h.len,WA h.lt (Q4 _ (by decide)),?_,?_,?_⟩
 ·have:a*b≤4294967295*4294967295:=JH (by omega) (by omega)
  rw [D4 (by decide)]
  show _<4294967296*4294967296
  omega
 ·have h1:=YA (B:=4294967296) ((c+(y+a*b))%4294967296) hy
  have h2:=h.eq
  rw [XP hb]
  have h3:=ZP (c+(y+a*b)) 4294967296
  generalize (c+(y+a*b))/4294967296=q at *
  generalize (c+(y+a*b))%4294967296=r at *
  have e1:a*4294967296^i*(num 4294967296 (os.take k)+b*4294967296^k)=a*4294967296^i*num 4294967296 (os.take k)+a*b*4294967296^(i+k):=by
   rw [By,JD]; congr 1; simp only [Jl,Jy,Z2]
  have e2:q*4294967296^(i+(k+1))=4294967296*q*4294967296^(i+k):=by
   rw [←Zi,Z4]; simp only [Jl,Jy,Z2]
  rw [e1,e2]
  have e3:(4294967296*q+r)*4294967296^(i+k)=(c+(y+a*b))*4294967296^(i+k):=by rw [h3]
  rw [Zy,Zy,Zy] at e3
  omega
 ·intro j h1 h2
  rw [Qm (by omega)]
  exact h.top j h1 h2
def OK (H:List Ob) (s1 s2:Value) (n m i a k c:Nat) (out:List Nat):St :=
 ⟨[(1,s2),(5,.slice (some ⟨H.length,0,none⟩) (n+m) (n+m)),(6,.int .i64 i),(7,.int .u32 a),(8,.int .u64 c),(17,s1),(18,.int .i64 n),(19,.int .i64 i),(24,s2),(25,.int .i64 m),(26,.int .i64 k)],H++[Ob.fresh (QR out)],[]⟩
theorem OJ {s1:Value} (hr:Row .u32 H id2 off2 os) (hN:n+m<2^40) (hi:i<n) (hk:k<m) (ha:a<4294967296) (hb:os[k]?=some b) (hb':b<4294967296) (hl:out.length=n+m) (hy:out[i+k]?=some y) (hy':y<4294967296) (hc:c<4294967296) :
  Q8 T H.length Tc (OK H s1 (.slice (some ⟨id2,off2,none⟩) m c2) n m i a k c out)=some (.normal,OK H s1 (.slice (some ⟨id2,off2,none⟩) m c2) n m i a (k+1) ((c+(y+a*b))/4294967296) (out.set (i+k) ((c+(y+a*b))%4294967296))):=by
 obtain ⟨o,ho,ZO⟩:=hr
 have ho':=Kq (l:=[⟨QR out,true,true,true,1⟩]) ho
 have hxc:=ZO k b hb
 have hyc:=XO hy
 have hab:a*b≤4294967295*4294967295:=JH (by omega) (by omega)
 have h1:((k:Int)<(m:Int)):=by omega
 have h2:((i+k:Nat):Int)<((n+m:Nat):Int):=by omega
 have e1:IntKind.i64.wrap ((i:Int)+(k:Int))=((i+k:Nat):Int):=Jf (n:=i+k) (by omega)
 have e2:IntKind.u64.wrap (y:Int)=(y:Nat):=JV rfl (by show y<2^64; omega)
 have e3:IntKind.u64.wrap (a:Int)=(a:Nat):=JV rfl (by show a<2^64; omega)
 have e4:IntKind.u64.wrap (b:Int)=(b:Nat):=JV rfl (by show b<2^64; omega)
 have e5:IntKind.u64.wrap ((a:Int)*(b:Int))=((a*b:Nat):Int):=JV (n:=a*b) rfl (by show _<2^64; omega)
 have e6:IntKind.u64.wrap ((y:Int)+((a*b:Nat):Int))=((y+a*b:Nat):Int):=JV (n:=y+a*b) rfl (by show _<2^64; omega)
 have e7:IntKind.u64.wrap ((c:Int)+((y+a*b:Nat):Int))=((c+(y+a*b):Nat):Int):=JV (n:=c+(y+a*b)) rfl (by show _<2^64; omega)
 have e8:IntKind.u32.wrap ((c+(y+a*b):Nat):Int)=(((c+(y+a*b))%4294967296:Nat):Int):=by rw [wrap_u32]; rfl
 have e9:Um ((c+(y+a*b):Nat):Int) (2^min 32 IntKind.u64.bits)=(((c+(y+a*b))/4294967296:Nat):Int):=by
  rw [J5 _ (by decide)]; rfl
 have e10:IntKind.i64.wrap ((k:Int)+1)=((k+1:Nat):Int):=Jf (n:=k+1) (by omega)
 have h5:i+k+1≤(QR out).length:=by rw [XN,hl]; omega
 simp only [OK,Tc,Q0,guardOf,Q1,opd,JB,Z7,Zo,Env.get,Env.put,ZR,Qy,Z6,St.after,Env.keep,Jx,ZJ,unV,ZF,Zl,packed,Ob.fresh,ZX,okVar,cS,reduceCtorEq,QL,QH,QN,QZ,QU,QV,QG,QT,QM,h1,h2,ho',hxc,hyc,e1,e2,e3,e4,e5,e6,e7,e8,e9,e10,h5,Kh,Vr]
structure TimesInv (n m i:Nat) (ws os out:List Nat):Prop where
 len:out.length=n+m
 lt:∀ x∈out,x<4294967296
 eq:num 4294967296 out=num 4294967296 (ws.take i)*num 4294967296 os
 top:∀ j,i+m≤j→j<n+m→out[j]?=some 0
def HW (H:List Ob) (s1 s2:Value) (n m i:Nat) (out:List Nat):St :=
 ⟨[(1,s2),(5,.slice (some ⟨H.length,0,none⟩) (n+m) (n+m)),(17,s1),(18,.int .i64 n),(19,.int .i64 i)],H++[Ob.fresh (QR out)],[]⟩
theorem CM (hr1:Row .u32 H id1 off1 ws) (hr2:Row .u32 H id2 off2 os) (hm:os.length=m) (hN:n+m<2^40) (hi:i<n) (ha:ws[i]?=some a) (ha':a<4294967296) (hos:∀ x∈os,x<4294967296) (h:TimesInv n m i ws os out) :
  ∃ out',Q8 T H.length Tb (HW H (.slice (some ⟨id1,off1,none⟩) n c1) (.slice (some ⟨id2,off2,none⟩) m c2) n m i out)=some (.normal,HW H (.slice (some ⟨id1,off1,none⟩) n c1) (.slice (some ⟨id2,off2,none⟩) m c2) n m (i+1) out')∧TimesInv n m (i+1) ws os out':=by
 have h0:MulInv n m i 0 (num 4294967296 out) a os out 0:=⟨h.len,h.lt,by decide,by simp [num],h.top⟩
 obtain ⟨s',hb,out1,c,rfl,hinv⟩:=Zc (T:=T) (base:=H.length) (id:=2) (body:=Tc)
  (fun k s=>∃ out1 c,s=OK H (.slice (some ⟨id1,off1,none⟩) n c1) (.slice (some ⟨id2,off2,none⟩) m c2) n m i a k c out1∧MulInv n m i k (num 4294967296 out) a os out1 c)
  (Q:=fun s=>∃ out1 c,s=⟨[(1,.slice (some ⟨id2,off2,none⟩) m c2),(5,.slice (some ⟨H.length,0,none⟩) (n+m) (n+m)),(6,.int .i64 i),(7,.int .u32 a),(8,.int .u64 (c:Nat)),(17,.slice (some ⟨id1,off1,none⟩) n c1),(18,.int .i64 n),(19,.int .i64 i),(24,.slice (some ⟨id2,off2,none⟩) m c2),(25,.int .i64 m),(26,.int .i64 m),(27,.bool false)],H++[⟨QR out1,true,true,true,1⟩],[]⟩∧MulInv n m i m (num 4294967296 out) a os out1 c)
  m ⟨out,0,rfl,h0⟩
  (fun k s hk hs=>by
   obtain ⟨out1,c,rfl,hI⟩:=hs
   obtain ⟨b,hbk⟩:∃ b,os[k]?=some b:=⟨_,Qh (by omega)⟩
   obtain ⟨y,hy⟩:∃ y,out1[i+k]?=some y:=⟨_,Qh (by rw [hI.len]; omega)⟩
   have hb':=hos b (Qz hbk)
   exact ⟨_,OJ hr2 hN hi hk ha' hbk hb' hI.len hy (hI.lt y (Qz hy)) hI.clt,_,_,rfl,hI.step ha' hbk hb' hy hk⟩)
  (fun s hs=>by
   obtain ⟨out1,c,rfl,hI⟩:=hs
   have h1:¬ ((m:Int)<(m:Int)):=by omega
   refine ⟨_,?_,out1,c,rfl,hI⟩
   simp only [OK,Tc,Q0,guardOf,Q1,opd,JB,Z7,Zo,Env.get,Env.put,ZR,Qy,Z6,St.after,Env.keep,Jx,ZJ,unV,ZF,Zl,packed,Ob.fresh,ZX,okVar,cS,reduceCtorEq,QL,QH,QN,QZ,QU,QV,QG,QT,QM,h1])
 rw [show OK H (.slice (some ⟨id1,off1,none⟩) n c1) (.slice (some ⟨id2,off2,none⟩) m c2) n m i a 0 0 out=⟨[(1,.slice (some ⟨id2,off2,none⟩) m c2),(5,.slice (some ⟨H.length,0,none⟩) (n+m) (n+m)),(6,.int .i64 i),(7,.int .u32 a),(8,.int .u64 0),(17,.slice (some ⟨id1,off1,none⟩) n c1),(18,.int .i64 n),(19,.int .i64 i),(24,.slice (some ⟨id2,off2,none⟩) m c2),(25,.int .i64 m),(26,.int .i64 0)],H++[⟨QR out,true,true,true,1⟩],[]⟩ from rfl] at hb
 obtain ⟨o,ho,ZO⟩:=hr1
 have ho':=Kq (l:=[⟨QR out,true,true,true,1⟩]) ho
 have hxc:=ZO i a ha
 have hz:out1[i+m]?=some 0:=hinv.top (i+m) (Qk _) (by omega)
 have h1:((i:Int)<(n:Int)):=by omega
 have h2:((i+m:Nat):Int)<((n+m:Nat):Int):=by omega
 have e1:IntKind.i64.wrap ((i:Int)+(m:Int))=((i+m:Nat):Int):=Jf (n:=i+m) (by omega)
 have e2:IntKind.u32.wrap (c:Int)=(c:Nat):=JV rfl hinv.clt
 have e10:IntKind.i64.wrap ((i:Int)+1)=((i+1:Nat):Int):=Jf (n:=i+1) (by omega)
 have h5:i+m+1≤(QR out1).length:=by rw [XN,hinv.len]; omega
 refine ⟨out1.set (i+m) c,?_,?_⟩
 ·simp only [HW,Tb,Q0,guardOf,Q1,opd,JB,Z7,Zo,Env.get,Env.put,ZR,Qy,Z6,St.after,Env.keep,Jx,ZJ,unV,ZF,Zl,packed,Ob.fresh,ZX,okVar,cS,reduceCtorEq,QL,QH,QN,QZ,QU,QV,QG,QT,QM,h1,h2,ho',hxc,hb,e1,e2,e10,h5,Kh,Vr]
 ·refine ⟨by rw [Qo]; exact hinv.len,WA hinv.lt hinv.clt,?_,?_⟩
  ·have h6:=YA (B:=4294967296) c hz
   have h7:=hinv.eq
   rw [show os.take m=os by rw [←hm]; exact KC,h.eq] at h7
   rw [XP ha,Zy]
   omega
  ·intro j h6 h7
   rw [Qm (by omega)]
   exact hinv.top j (by omega) h7
theorem S8 (hr1:Row .u32 H id1 off1 ws) (hr2:Row .u32 H id2 off2 os) (hn:ws.length=n) (hm:os.length=m) (hN:n+m<2^40) (hws:∀ x∈ws,x<4294967296) (hos:∀ x∈os,x<4294967296) :
  Zd T 146 [.slice (some ⟨id1,off1,none⟩) n c1,.slice (some ⟨id2,off2,none⟩) m c2] H=some (.slice (some ⟨H.length,0,none⟩) (n+m) (n+m),H++[Ob.fresh (QR (dig 4294967296 (n+m) (num 4294967296 ws*num 4294967296 os)))],[]):=by
 have h0:TimesInv n m 0 ws os (dig 4294967296 (n+m) 0):=⟨Zx _ _ _,fun x hx=>KV (by decide) hx,by rw [XV (by decide)]; simp [num],fun j _ h=>by rw [Vx h]; simp⟩
 obtain ⟨s',hb,out,rfl,hinv⟩:=Zc (T:=T) (base:=H.length) (id:=0) (body:=Tb)
  (fun i s=>∃ out,s=HW H (.slice (some ⟨id1,off1,none⟩) n c1) (.slice (some ⟨id2,off2,none⟩) m c2) n m i out∧TimesInv n m i ws os out)
  (Q:=fun s=>∃ out,s=⟨[(1,.slice (some ⟨id2,off2,none⟩) m c2),(5,.slice (some ⟨H.length,0,none⟩) (n+m) (n+m)),(17,.slice (some ⟨id1,off1,none⟩) n c1),(18,.int .i64 n),(19,.int .i64 n),(20,.bool false)],H++[⟨QR out,true,true,true,1⟩],[]⟩∧TimesInv n m n ws os out)
  n ⟨_,rfl,h0⟩
  (fun i s hi hs=>by
   obtain ⟨out,rfl,hI⟩:=hs
   obtain ⟨a,ha⟩:∃ a,ws[i]?=some a:=⟨_,Qh (by omega)⟩
   obtain ⟨out',g1,g2⟩:=CM (c1:=c1) (c2:=c2) hr1 hr2 hm hN hi ha (hws a (Qz ha)) hos hI
   exact ⟨_,g1,_,rfl,g2⟩)
  (fun s hs=>by
   obtain ⟨out,rfl,hI⟩:=hs
   have h1:¬ ((n:Int)<(n:Int)):=by omega
   refine ⟨_,?_,out,rfl,hI⟩
   simp only [HW,Tb,Q0,guardOf,Q1,opd,JB,Z7,Zo,Env.get,Env.put,ZR,Qy,Z6,St.after,Env.keep,Jx,ZJ,unV,ZF,Zl,packed,Ob.fresh,ZX,okVar,cS,reduceCtorEq,QL,QH,QN,QZ,QU,QV,QG,QT,QM,h1])
 rw [show HW H (.slice (some ⟨id1,off1,none⟩) n c1) (.slice (some ⟨id2,off2,none⟩) m c2) n m 0 (dig 4294967296 (n+m) 0)=⟨[(1,.slice (some ⟨id2,off2,none⟩) m c2),(5,.slice (some ⟨H.length,0,none⟩) (n+m) (n+m)),(17,.slice (some ⟨id1,off1,none⟩) n c1),(18,.int .i64 n),(19,.int .i64 0)],H++[⟨QR (dig 4294967296 (n+m) 0),true,true,true,1⟩],[]⟩ from rfl] at hb
 have hout:dig 4294967296 (n+m) (num 4294967296 ws*num 4294967296 os)=out:=by
  have h1:=hinv.eq
  rw [show ws.take n=ws by rw [←hn]; exact KC] at h1
  rw [←h1,←hinv.len,WQ (by decide) hinv.lt]
 have e1:IntKind.i64.wrap ((n:Int)+(m:Int))=((n+m:Nat):Int):=Jf (n:=n+m) (by omega)
 have h1:(((n+m:Nat):Int)*((4:Nat):Int)≤2^47):=by omega
 have h2:(0:Nat)<4:=by decide
 rw [QE (fn:=a44) rfl,hout]
 simp only [a44,Q0,guardOf,Q1,opd,JB,Z7,Zo,Env.get,Env.put,ZR,Qy,Z6,St.after,Env.keep,Jx,ZJ,unV,ZF,Zl,packed,Ob.fresh,ZX,okVar,cS,reduceCtorEq,QL,QH,QN,QZ,QU,QV,QG,QT,QM,e1,h1,h2,Wb,Wp,HV,hb]
structure PlusInv (n i A:Nat) (os out:List Nat) (c:Nat):Prop where
 len:out.length=n+1
 lt:∀ x∈out,x<4294967296
 cle:c≤1
 eq:num 4294967296 out+c*4294967296^i=A+num 4294967296 (os.take i)
theorem Ts {B:Nat} (l:List Nat) (i:Nat):num B (l.take (i+1))=num B (l.take i)+l.getD i 0*B^i:=by
 cases h:l[i]? with
 | some x=>rw [XP h,Qx,h]; rfl
 | none =>
  have:=List.getElem?_eq_none_iff.1 h
  rw [Qx,h,Qu this,Qu (by omega)]
  simp
theorem PlusInv.step {n i A c y:Nat} {os out:List Nat} (h:PlusInv n i A os out c) (hos:∀ x∈os,x<4294967296) (hy:out[i]?=some y):PlusInv n (i+1) A os (out.set i (FY y (os.getD i 0) c)) (FZ y (os.getD i 0) c):=by
 have hy':y<4294967296:=h.lt y (Qz hy)
 have hc:=h.cle
 have hx:os.getD i 0<4294967296:=by
  rw [Qx]
  cases hh:os[i]? with
  | some x=>exact hos x (Qz hh)
  | none=>decide
 refine ⟨by rw [Qo]; exact h.len,WA h.lt (Q4 _ (by decide)),?_,?_⟩
 ·unfold FZ; omega
 ·have h1:=YA (B:=4294967296) (FY y (os.getD i 0) c) hy
  have h2:=h.eq
  rw [Ts]
  have h3:4294967296*FZ y (os.getD i 0) c+FY y (os.getD i 0) c=y+os.getD i 0+c:=ZP _ _
  generalize FZ y (os.getD i 0) c=q,FY y (os.getD i 0) c=r at *
  have e2:q*4294967296^(i+1)=4294967296*q*4294967296^i:=by
   rw [Z4]; simp only [Jl,Jy,Z2]
  have e3:(4294967296*q+r)*4294967296^i=(y+os.getD i 0+c)*4294967296^i:=by rw [h3]
  rw [Zy,Zy,Zy] at e3
  rw [e2]
  omega
def Rk (H:List Ob) (s2:Value) (n i c:Nat) (out:List Nat):St :=
 ⟨[(1,s2),(5,.slice (some ⟨H.length,0,none⟩) (n+1) (n+1)),(6,.int .u32 c),(19,.int .i64 ((n+1:Nat):Int)),(20,.int .i64 i)],H++[⟨QR out,true,true,true,1⟩,⟨[.int .u32 0],true,true,true,1⟩],[]⟩
theorem O0 {m i:Nat} (hr:Row .u32 H id2 off2 os) (hm:os.length=m) (hN:n<2^40) (hmn:m<2^40) (hi:i<n+1) (hos:∀ x∈os,x<4294967296) (hl:out.length=n+1) (hy:out[i]?=some y) (hy':y<4294967296) (hc:c≤1) :
  Q8 T H.length UO (Rk H (.slice (some ⟨id2,off2,none⟩) m c2) n i c out)=some (.normal,Rk H (.slice (some ⟨id2,off2,none⟩) m c2) n (i+1) (FZ y (os.getD i 0) c) (out.set i (FY y (os.getD i 0) c))):=by
 obtain ⟨o,ho,ZO⟩:=hr
 have ho':=Kq (l:=[⟨QR out,true,true,true,1⟩,⟨[.int .u32 0],true,true,true,1⟩]) ho
 have hyc:=XO hy
 have h1:((i:Int)<((n+1:Nat):Int)):=by omega
 have e10:IntKind.i64.wrap ((i:Int)+1)=((i+1:Nat):Int):=Jf (n:=i+1) (by omega)
 have h5:i+1≤(QR out).length:=by rw [XN,hl]; omega
 by_cases him:i<m
 ·obtain ⟨b,hb⟩:∃ b,os[i]?=some b:=⟨_,Qh (by omega)⟩
  have hd:os.getD i 0=b:=by rw [Qx,hb]; rfl
  have hxc:=ZO i b hb
  have h2:((i:Int)<(m:Int)):=by omega
  have hadd:=Ia hy' (hos b (Qz hb)) hc
  rw [hd]
  simp only [Rk,UO,Q0,guardOf,Q1,opd,JB,Z7,Zo,Env.get,Env.put,ZR,Qy,Z6,St.after,Env.keep,Jx,ZJ,unV,ZF,Zl,packed,Ob.fresh,ZX,okVar,cS,reduceCtorEq,QL,QH,QN,QZ,QU,QV,QG,QT,QM,h1,h2,ho',hxc,hyc,e10,h5,Kh,Vr,hadd]
 ·have hd:os.getD i 0=0:=by rw [Qx,QI (by omega)]; rfl
  have h2:¬ ((i:Int)<(m:Int)):=by omega
  have hadd:Zd T 187 [.int .u32 (y:Nat),.int .u32 0,.int .u32 (c:Nat)] []=_:=Ia hy' (by decide:0<4294967296) hc
  rw [hd]
  simp only [Rk,UO,Q0,guardOf,Q1,opd,JB,Z7,Zo,Env.get,Env.put,ZR,Qy,Z6,St.after,Env.keep,Jx,ZJ,unV,ZF,Zl,packed,Ob.fresh,ZX,okVar,cS,reduceCtorEq,QL,QH,QN,QZ,QU,QV,QG,QT,QM,h1,h2,hyc,e10,h5,Kh,Vr,hadd]
theorem fN (hn:ws.length=n):splice (QR (dig 4294967296 (n+1) 0)) 0 (QR ws)=QR (ws++[0]):=by
 rw [JL _ _ _ (by rw [XN,XN,Zx]; omega),XN,hn,FA]
 simp only [Xc,Qr,QB,QR,List.map_append,List.map_replicate,List.drop_replicate]
 rw [show n+1-n=1 by omega]; rfl
theorem fM {n:Nat} (hn:ws.length=n):splice (QR (ws++[0])) n [.int .u32 0]=QR (ws++[0]):=by
 rw [Xz]
 apply ZK
 intro i
 by_cases hi:i=n
 ·subst hi
  rw [Qt (by rw [XN,Qg,hn]; simp),XO (x:=0) (by rw [Qd (by omega),hn]; simp)]; rfl
 ·rw [Qm (Ne.symm hi)]
theorem fQ (hr1:Row .u32 H id1 off1 ws) (hn:ws.length=n) (hn0:0<n) (hN:n<2^40) :
  Zu 1 4 (H++[⟨QR (dig 4294967296 (n+1) 0),true,true,true,1⟩]) (.slice (some ⟨H.length,0,none⟩) 0 (n+1)) (.slice (some ⟨id1,off1,none⟩) n c1)=some (.slice (some ⟨H.length,0,none⟩) n (n+1),H++[⟨QR (ws++[0]),true,true,true,1⟩],none,[H.length]):=by
 have h:=DS (H:=H) (r:=[]) (es:=1) (bytes:=4) (len:=0) (cap:=n+1) (cs:=QR (dig 4294967296 (n+1) 0)) (x := .slice (some ⟨id1,off1,none⟩) n c1) (n:=n) (new:=QR ws) rfl (by rw [←hn]; exact (hr1.app).elems (by omega)) hn0 (by omega) (by omega) (by decide) (by decide) (by rw [XN,XN,Zx]; omega)
 rw [Ks,fN hn,QB] at h
 exact h
theorem fP (hn:ws.length=n) (hN:n<2^40) :
  Zu 1 4 (H++[⟨QR (ws++[0]),true,true,true,1⟩,⟨[.int .u32 0],true,true,true,1⟩]) (.slice (some ⟨H.length,0,none⟩) n (n+1)) (.slice (some ⟨H.length+1,0,none⟩) 1 1)=some (.slice (some ⟨H.length,0,none⟩) (n+1) (n+1),H++[⟨QR (ws++[0]),true,true,true,1⟩,⟨[.int .u32 0],true,true,true,1⟩],none,[H.length]):=by
 have h:=DS (H:=H) (r:=[⟨[.int .u32 0],true,true,true,1⟩]) (es:=1) (bytes:=4) (len:=n) (cap:=n+1) (cs:=QR (ws++[0])) (x := .slice (some ⟨H.length+1,0,none⟩) 1 1) (n:=1) (new:=[.int .u32 0]) rfl (by simp [elemsOf,N4]) (by decide) (by omega) (by omega) (by decide) (by decide) (by rw [XN,Qg,hn]; simp)
 rw [XK,fM hn] at h
 exact h
theorem aP {A:Nat} {c:Nat} (hinv:PlusInv n (n+1) A os out c) (hm:os.length=m) (hmn:m≤n) (hA:A<4294967296^n) (hos:∀ x∈os,x<4294967296):dig 4294967296 (n+1) (A+num 4294967296 os)=out:=by
  have h1:=hinv.eq
  rw [show os.take (n+1)=os from Qu (by omega)] at h1
  have h3:=num_lt hos
  rw [hm] at h3
  have h4:4294967296^m≤4294967296^n:=Zp (by decide) hmn
  have h5:c=0:=by
   have hc:=hinv.cle
   rcases Zm 0 c with h | h
   ·have:c=1:=by omega
    subst this
    rw [Z4] at h1
    omega
   ·omega
  subst h5
  rw [Ks,ZH] at h1
  rw [←h1,←hinv.len,WQ (by decide) hinv.lt]
theorem Oz (hr1:Row .u32 H id1 off1 ws) (hr2:Row .u32 H id2 off2 os) (hn:ws.length=n) (hm:os.length=m) (hn0:0<n) (hmn:m≤n) (hN:n<2^40) (hws:∀ x∈ws,x<4294967296) (hos:∀ x∈os,x<4294967296) :
  ∃ out c,Q8 T H.length (.block 0 (.loop UO)) ⟨[(1,.slice (some ⟨id2,off2,none⟩) m c2),(5,.slice (some ⟨H.length,0,none⟩) (n+1) (n+1)),(6,.int .u32 0),(19,.int .i64 ((n+1:Nat):Int)),(20,.int .i64 0)],H++[⟨QR (ws++[0]),true,true,true,1⟩,⟨[.int .u32 0],true,true,true,1⟩],[]⟩=some (.normal,⟨[(1,.slice (some ⟨id2,off2,none⟩) m c2),(5,.slice (some ⟨H.length,0,none⟩) (n+1) (n+1)),(6,.int .u32 (c:Nat)),(19,.int .i64 ((n+1:Nat):Int)),(20,.int .i64 ((n+1:Nat):Int)),(21,.bool false)],H++[⟨QR out,true,true,true,1⟩,⟨[.int .u32 0],true,true,true,1⟩],[]⟩)∧PlusInv n (n+1) (num 4294967296 ws) os out c:=by
 have h0:PlusInv n 0 (num 4294967296 ws) os (ws++[0]) 0:=⟨by simp [hn],fun x hx=>by
  rcases QA.1 hx with h | h
  ·exact hws x h
  ·simp at h; omega,by decide,by rw [WG]; simp [num]⟩
 obtain ⟨s',hb,out,c,rfl,hinv⟩:=Zc (T:=T) (base:=H.length) (id:=0) (body:=UO)
  (fun i s=>∃ out c,s=Rk H (.slice (some ⟨id2,off2,none⟩) m c2) n i c out∧PlusInv n i (num 4294967296 ws) os out c)
  (Q:=fun s=>∃ out c,s=⟨[(1,.slice (some ⟨id2,off2,none⟩) m c2),(5,.slice (some ⟨H.length,0,none⟩) (n+1) (n+1)),(6,.int .u32 (c:Nat)),(19,.int .i64 ((n+1:Nat):Int)),(20,.int .i64 ((n+1:Nat):Int)),(21,.bool false)],H++[⟨QR out,true,true,true,1⟩,⟨[.int .u32 0],true,true,true,1⟩],[]⟩∧PlusInv n (n+1) (num 4294967296 ws) os out c)
  (n+1) ⟨_,_,rfl,h0⟩
  (fun i s hi hs=>by
   obtain ⟨out,c,rfl,hI⟩:=hs
   obtain ⟨y,hy⟩:∃ y,out[i]?=some y:=⟨_,Qh (by rw [hI.len]; omega)⟩
   exact ⟨_,O0 hr2 hm hN (by omega) hi hos hI.len hy (hI.lt y (Qz hy)) hI.cle,_,_,rfl,hI.step hos hy⟩)
  (fun s hs=>by
   obtain ⟨out,c,rfl,hI⟩:=hs
   have h1:¬ (((n+1:Nat):Int)<((n+1:Nat):Int)):=by omega
   refine ⟨_,?_,out,c,rfl,hI⟩
   simp only [Rk,UO,Q0,guardOf,Q1,opd,JB,Z7,Zo,Env.get,Env.put,ZR,Qy,Z6,St.after,Env.keep,Jx,ZJ,unV,ZF,Zl,packed,Ob.fresh,ZX,okVar,cS,reduceCtorEq,QL,QH,QN,QZ,QU,QV,QG,QT,QM,h1])
 rw [show Rk H (.slice (some ⟨id2,off2,none⟩) m c2) n 0 0 (ws++[0])=⟨[(1,.slice (some ⟨id2,off2,none⟩) m c2),(5,.slice (some ⟨H.length,0,none⟩) (n+1) (n+1)),(6,.int .u32 0),(19,.int .i64 ((n+1:Nat):Int)),(20,.int .i64 0)],H++[⟨QR (ws++[0]),true,true,true,1⟩,⟨[.int .u32 0],true,true,true,1⟩],[]⟩ from rfl] at hb
 exact ⟨out,c,hb,hinv⟩
theorem nN (h:k<2^41):((k:Nat):Int)*((4:Nat):Int)≤2^47:=by omega
theorem aQ (e1:IntKind.i64.wrap ((n:Int)+1)=((k:Nat):Int)) (h1:((k:Nat):Int)*((4:Nat):Int)≤2^47)
 (ha1:Zu 1 4 (H++[⟨QR (dig 4294967296 k 0),true,true,true,1⟩]) (.slice (some ⟨H.length,0,none⟩) 0 k) (.slice (some ⟨id1,off1,none⟩) n c1)=some (.slice (some ⟨H.length,0,none⟩) n k,H++[⟨QR (ws++[0]),true,true,true,1⟩],none,[H.length]))
 (ha2:Zu 1 4 (H++[⟨QR (ws++[0]),true,true,true,1⟩,⟨[.int .u32 0],true,true,true,1⟩]) (.slice (some ⟨H.length,0,none⟩) n k) (.slice (some ⟨H.length+1,0,none⟩) 1 1)=some (.slice (some ⟨H.length,0,none⟩) k k,H++[⟨QR (ws++[0]),true,true,true,1⟩,⟨[.int .u32 0],true,true,true,1⟩],none,[H.length]))
    (hb:Q8 T H.length (.block 0 (.loop UO)) ⟨[(1,.slice (some ⟨id2,off2,none⟩) m c2),(5,.slice (some ⟨H.length,0,none⟩) (k) (k)),(6,.int .u32 0),(19,.int .i64 ((k:Nat):Int)),(20,.int .i64 0)],H++[⟨QR (ws++[0]),true,true,true,1⟩,⟨[.int .u32 0],true,true,true,1⟩],[]⟩=some (.normal,⟨[(1,.slice (some ⟨id2,off2,none⟩) m c2),(5,.slice (some ⟨H.length,0,none⟩) (k) (k)),(6,.int .u32 (c:Nat)),(19,.int .i64 ((k:Nat):Int)),(20,.int .i64 ((k:Nat):Int)),(21,.bool false)],H++[⟨QR out,true,true,true,1⟩,⟨[.int .u32 0],true,true,true,1⟩],[]⟩)) :
    Zd T 147 [.slice (some ⟨id1,off1,none⟩) n c1,.slice (some ⟨id2,off2,none⟩) m c2] H=some (.slice (some ⟨H.length,0,none⟩) k k,H++[⟨QR out,true,true,true,1⟩,⟨[.int .u32 0],true,true,true,1⟩],[]):=by
  have h2:(0:Nat)<4:=by decide
  have hfill:fillL [Value.int .u32 0] [(0,1,.int .u32 0)]=some [.int .u32 0]:=rfl
  rw [QE (fn:=a45) rfl]
  simp only [a45,Q0,guardOf,Q1,opd,JB,Z7,Zo,Env.get,Env.put,ZR,Qy,Z6,St.after,Env.keep,Jx,ZJ,unV,ZF,Zl,packed,Ob.fresh,ZX,okVar,cS,reduceCtorEq,QL,QH,QN,QZ,QU,QV,QG,QT,QM,e1,h1,h2,Wb,Wp,HV,hfill,Qg,Qv,ha1,ha2,hb]
theorem fO (hr1:Row .u32 H id1 off1 ws) (hr2:Row .u32 H id2 off2 os) (hn:ws.length=n) (hm:os.length=m) (hn0:0<n) (hmn:m≤n) (hN:n<2^40) (hws:∀ x∈ws,x<4294967296) (hos:∀ x∈os,x<4294967296) :
  Zd T 147 [.slice (some ⟨id1,off1,none⟩) n c1,.slice (some ⟨id2,off2,none⟩) m c2] H=some (.slice (some ⟨H.length,0,none⟩) (n+1) (n+1),H++[⟨QR (dig 4294967296 (n+1) (num 4294967296 ws+num 4294967296 os)),true,true,true,1⟩,⟨[.int .u32 0],true,true,true,1⟩],[]):=by
 obtain ⟨out,c,hb,hinv⟩:=Oz (c2:=c2) hr1 hr2 hn hm hn0 hmn hN hws hos
 have hout:=aP hinv hm hmn (by rw [←hn]; exact num_lt hws) hos
 rw [hout]
 exact aQ (Jf (n:=n+1) (by omega)) (nN (by omega)) (fQ hr1 hn hn0 hN) (fP hn hN) hb
def ell:Nat:=7237005577332262213973186563042994240857116359379907606001950938285454250989
theorem NH:num 4294967296 orderW=ell:=by decide
theorem Gy:∀ x∈orderW,x<4294967296:=by decide
structure ShInv (k c0:Nat) (r0 r:List Nat) (c:Nat):Prop where
 len:r.length=8
 lt:∀ x∈r,x<4294967296
 cle:c≤1
 eq:num 4294967296 r+c*4294967296^k=num 4294967296 r0+num 4294967296 (r0.take k)+c0
 rest:∀ j,k≤j→r[j]?=r0[j]?
theorem ShInv.step {k c0 c x:Nat} {r0 r:List Nat} (h:ShInv k c0 r0 r c) (hx:r[k]?=some x):ShInv (k+1) c0 r0 (r.set k ((2*x+c)%4294967296)) (x/2147483648):=by
 have hx':x<4294967296:=h.lt x (Qz hx)
 have hc:=h.cle
 refine ⟨by rw [Qo]; exact h.len,WA h.lt (Q4 _ (by decide)),by omega,?_,?_⟩
 ·have h1:=YA (B:=4294967296) ((2*x+c)%4294967296) hx
  have h2:=h.eq
  rw [XP (by rw [←h.rest k (Qk _)]; exact hx)]
  have h3:4294967296*(x/2147483648)+(2*x+c)%4294967296=2*x+c:=by omega
  generalize (2*x+c)%4294967296=y at *
  generalize x/2147483648=q at *
  have e2:q*4294967296^(k+1)=4294967296*q*4294967296^k:=by
   rw [Z4]; simp only [Jl,Jy,Z2]
  have e3:(4294967296*q+y)*4294967296^k=(2*x+c)*4294967296^k:=by rw [h3]
  rw [Zy,Zy,Jl 2] at e3
  rw [e2]
  omega
 ·intro j hj
  rw [Qm (by omega)]
  exact h.rest j (by omega)
structure SbInv (k:Nat) (r nx:List Nat) (b:Nat):Prop where
 len:nx.length=8
 lt:∀ x∈nx,x<4294967296
 ble:b≤1
 eq:num 4294967296 (r.take k)+b*4294967296^k=num 4294967296 (orderW.take k)+num 4294967296 (nx.take k)
theorem Tn {l:List Nat} {k:Nat}:(l.set k y).take k=l.take k:=by
 apply ZK
 intro i
 rw [QS,QS]
 by_cases h:i<k
 ·rw [if_pos h,if_pos h,Qm (by omega)]
 ·rw [if_neg h,if_neg h]
theorem SbInv.step {k b x l:Nat} {r nx:List Nat} (h:SbInv k r nx b) (hr:∀ x∈r,x<4294967296) (hk:k<8) (hx:r[k]?=some x) (hl:orderW[k]?=some l):SbInv (k+1) r (nx.set k (B2 x l b)) (B4 x l b):=by
 have hx':x<4294967296:=hr x (Qz hx)
 have hl':l<4294967296:=Gy l (Qz hl)
 have hb:=h.ble
 have hd:B2 x l b<4294967296∧x+4294967296*B4 x l b=l+b+B2 x l b∧B4 x l b≤1:=by
  unfold B2 B4; split<;>omega
 refine ⟨by rw [Qo]; exact h.len,WA h.lt hd.1,hd.2.2,?_⟩
 have h2:=h.eq
 have hy:(nx.set k (B2 x l b))[k]?=some (B2 x l b):=Qt (by rw [h.len]; exact hk)
 rw [XP hx,XP hl,XP hy,Tn]
 have h3:=hd.2.1
 generalize B2 x l b=d,B4 x l b=q at *
 have e2:q*4294967296^(k+1)=4294967296*q*4294967296^k:=by
  rw [Z4]; simp only [Jl,Jy,Z2]
 have e3:(x+4294967296*q)*4294967296^k=(l+b+d)*4294967296^k:=by rw [h3]
 rw [Zy,Zy,Zy] at e3
 rw [e2]
 omega
theorem SL {nx:List Nat} (hk:k<8) (hl:r.length=8) (hx:r[k]?=some x) (hx':x<4294967296) (hc:c≤1) :
  Q8 T H.length Yx (⟨[(0,s),(3,(.slice (some ⟨H.length,0,none⟩) 8 8)),(4,(.slice (some ⟨H.length+1,0,none⟩) 8 8)),(5,(.slice (some ⟨(H.length+2),0,none⟩) 8 8)),(6,v),(7,.int .u32 ((c:Nat))),(32,.int .i64 8),(33,.int .i64 ((k:Nat)))],H++[⟨QR (r),true,true,true,1⟩,⟨QR orderW,true,true,true,1⟩,⟨QR (nx),true,true,true,1⟩],[]⟩:St)=some (.normal,(⟨[(0,s),(3,(.slice (some ⟨H.length,0,none⟩) 8 8)),(4,(.slice (some ⟨H.length+1,0,none⟩) 8 8)),(5,(.slice (some ⟨(H.length+2),0,none⟩) 8 8)),(6,v),(7,.int .u32 (((x/2147483648:Nat):Int))),(32,.int .i64 8),(33,.int .i64 (((k+1:Nat):Int)))],H++[⟨QR (r.set k ((2*x+c)%4294967296)),true,true,true,1⟩,⟨QR orderW,true,true,true,1⟩,⟨QR (nx),true,true,true,1⟩],[]⟩:St)):=by
 have hxc:=XO hx
 have h1:((k:Int)<(8:Int)):=by omega
 have h1':((k:Int)<((8:Nat):Int)):=by omega
 have e1:IntKind.u32.wrap ((x:Int)*2^min 1 IntKind.u32.bits)=((2*x%4294967296:Nat):Int):=by
  rw [wrap_u32,show min 1 IntKind.u32.bits=1 from rfl]; omega
 have e2:Zs .or .u32 ((2*x%4294967296:Nat):Int) (c:Int)=(((2*x+c)%4294967296:Nat):Int):=by
  rw [KA (k := .u32) (a:=2*x%4294967296) (b:=c) rfl (Q4 _ (by decide)) (by show c<2^32; omega)]
  congr 1
  have h2:2*x%4294967296=2^1*(x%2147483648):=by omega
  rw [h2,←Ve (by omega:c<2^1)]
  omega
 have e3:Um (x:Int) (2^min 31 IntKind.u32.bits)=((x/2147483648:Nat):Int):=by
  rw [J5 _ (by decide)]; rfl
 have e10:IntKind.i64.wrap ((k:Int)+1)=((k+1:Nat):Int):=Jf (n:=k+1) (by omega)
 have h5:k+1≤(QR r).length:=by rw [XN,hl]; omega
 simp only [Yx,Q0,guardOf,Q1,opd,JB,Z7,Zo,Env.get,Env.put,ZR,Qy,Z6,St.after,Env.keep,Jx,ZJ,unV,ZF,Zl,packed,Ob.fresh,ZX,okVar,cS,reduceCtorEq,QL,QH,QN,QZ,QU,QV,QG,QT,QM,h1,h1',hxc,e1,e2,e3,e10,h5,Kh,Vr]
theorem SR {nx:List Nat} (hk:k<8) (hl:nx.length=8) (hx:r[k]?=some x) (hx':x<4294967296) (ho:orderW[k]?=some l) (hb:b≤1) :
  Q8 T H.length Yy (⟨[(0,s),(3,(.slice (some ⟨H.length,0,none⟩) 8 8)),(4,(.slice (some ⟨H.length+1,0,none⟩) 8 8)),(5,(.slice (some ⟨(H.length+2),0,none⟩) 8 8)),(6,v),(9,.int .u32 ((b:Nat))),(53,.int .i64 8),(54,.int .i64 ((k:Nat)))],H++[⟨QR (r),true,true,true,1⟩,⟨QR orderW,true,true,true,1⟩,⟨QR (nx),true,true,true,1⟩],[]⟩:St)=some (.normal,(⟨[(0,s),(3,(.slice (some ⟨H.length,0,none⟩) 8 8)),(4,(.slice (some ⟨H.length+1,0,none⟩) 8 8)),(5,(.slice (some ⟨(H.length+2),0,none⟩) 8 8)),(6,v),(9,.int .u32 (((B4 x l b:Nat):Int))),(53,.int .i64 8),(54,.int .i64 (((k+1:Nat):Int)))],H++[⟨QR (r),true,true,true,1⟩,⟨QR orderW,true,true,true,1⟩,⟨QR (nx.set k (B2 x l b)),true,true,true,1⟩],[]⟩:St)):=by
 have hxc:=XO hx
 have hlc:=XO ho
 have h1:((k:Int)<(8:Int)):=by omega
 have h1':((k:Int)<((8:Nat):Int)):=by omega
 have hsub:=MP hx' (Gy l (Qz ho)) hb
 have e10:IntKind.i64.wrap ((k:Int)+1)=((k+1:Nat):Int):=Jf (n:=k+1) (by omega)
 have h5:k+1≤(QR nx).length:=by rw [XN,hl]; omega
 simp only [Yy,Q0,guardOf,Q1,opd,JB,Z7,Zo,Env.get,Env.put,ZR,Qy,Z6,St.after,Env.keep,Jx,ZJ,unV,ZF,Zl,packed,Ob.fresh,ZX,okVar,cS,reduceCtorEq,QL,QH,QN,QZ,QU,QV,QG,QT,QM,h1,h1',hxc,hlc,hsub,e10,h5,CO,Vr]
theorem SJ {nx:List Nat} (hl:r.length=8) (hr:∀ x∈r,x<4294967296) (hc:c≤1) :
  ∃ r' c',Q8 T H.length (.block 2 (.loop Yx)) (⟨[(0,s),(3,(.slice (some ⟨H.length,0,none⟩) 8 8)),(4,(.slice (some ⟨H.length+1,0,none⟩) 8 8)),(5,(.slice (some ⟨(H.length+2),0,none⟩) 8 8)),(6,v),(7,.int .u32 ((c:Nat))),(32,.int .i64 8),(33,.int .i64 (0))],H++[⟨QR (r),true,true,true,1⟩,⟨QR orderW,true,true,true,1⟩,⟨QR (nx),true,true,true,1⟩],[]⟩:St)=some (.normal,(⟨[(0,s),(3,(.slice (some ⟨H.length,0,none⟩) 8 8)),(4,(.slice (some ⟨H.length+1,0,none⟩) 8 8)),(5,(.slice (some ⟨(H.length+2),0,none⟩) 8 8)),(6,v),(7,.int .u32 ((c':Nat))),(32,.int .i64 8),(33,.int .i64 (8)),(34,.bool false)],H++[⟨QR (r'),true,true,true,1⟩,⟨QR orderW,true,true,true,1⟩,⟨QR (nx),true,true,true,1⟩],[]⟩:St))∧ShInv 8 c r r' c':=by
 obtain ⟨s',hb,r',c',rfl,hinv⟩:=Zc (T:=T) (base:=H.length) (id:=2) (body:=Yx)
  (fun k s1=>∃ r' c',s1=(⟨[(0,s),(3,(.slice (some ⟨H.length,0,none⟩) 8 8)),(4,(.slice (some ⟨H.length+1,0,none⟩) 8 8)),(5,(.slice (some ⟨(H.length+2),0,none⟩) 8 8)),(6,v),(7,.int .u32 ((c':Nat))),(32,.int .i64 8),(33,.int .i64 ((k:Nat)))],H++[⟨QR (r'),true,true,true,1⟩,⟨QR orderW,true,true,true,1⟩,⟨QR (nx),true,true,true,1⟩],[]⟩:St)∧ShInv k c r r' c')
  (Q:=fun s1=>∃ r' c',s1=(⟨[(0,s),(3,(.slice (some ⟨H.length,0,none⟩) 8 8)),(4,(.slice (some ⟨H.length+1,0,none⟩) 8 8)),(5,(.slice (some ⟨(H.length+2),0,none⟩) 8 8)),(6,v),(7,.int .u32 ((c':Nat))),(32,.int .i64 8),(33,.int .i64 (8)),(34,.bool false)],H++[⟨QR (r'),true,true,true,1⟩,⟨QR orderW,true,true,true,1⟩,⟨QR (nx),true,true,true,1⟩],[]⟩:St)∧ShInv 8 c r r' c')
  8 (s:=(⟨[(0,s),(3,(.slice (some ⟨H.length,0,none⟩) 8 8)),(4,(.slice (some ⟨H.length+1,0,none⟩) 8 8)),(5,(.slice (some ⟨(H.length+2),0,none⟩) 8 8)),(6,v),(7,.int .u32 ((c:Nat))),(32,.int .i64 8),(33,.int .i64 (((0:Nat):Int)))],H++[⟨QR (r),true,true,true,1⟩,⟨QR orderW,true,true,true,1⟩,⟨QR (nx),true,true,true,1⟩],[]⟩:St)) ⟨_,_,rfl,⟨hl,hr,hc,by simp [num],fun _ _=>rfl⟩⟩
  (fun k s1 hk hs=>by
   obtain ⟨r',c',rfl,hI⟩:=hs
   obtain ⟨x,hx⟩:∃ x,r'[k]?=some x:=⟨_,Qh (by rw [hI.len]; omega)⟩
   exact ⟨_,SL hk hI.len hx (hI.lt x (Qz hx)) hI.cle,_,_,rfl,hI.step hx⟩)
  (fun s1 hs=>by
   obtain ⟨r',c',rfl,hI⟩:=hs
   have h1:¬ (((8:Nat):Int)<(8:Int)):=by omega
   refine ⟨_,?_,r',c',rfl,hI⟩
   simp only [Yx,Q0,guardOf,Q1,opd,JB,Z7,Zo,Env.get,Env.put,ZR,Qy,Z6,St.after,Env.keep,Jx,ZJ,unV,ZF,Zl,packed,Ob.fresh,ZX,okVar,cS,reduceCtorEq,QL,QH,QN,QZ,QU,QV,QG,QT,QM,h1]
   rfl)
 exact ⟨r',c',hb,hinv⟩
theorem SP {nx:List Nat} (hl:r.length=8) (hr:∀ x∈r,x<4294967296) (hl2:nx.length=8) (hr2:∀ x∈nx,x<4294967296) :
  ∃ nx' b,Q8 T H.length (.block 4 (.loop Yy)) (⟨[(0,s),(3,(.slice (some ⟨H.length,0,none⟩) 8 8)),(4,(.slice (some ⟨H.length+1,0,none⟩) 8 8)),(5,(.slice (some ⟨(H.length+2),0,none⟩) 8 8)),(6,v),(9,.int .u32 (0)),(53,.int .i64 8),(54,.int .i64 (0))],H++[⟨QR (r),true,true,true,1⟩,⟨QR orderW,true,true,true,1⟩,⟨QR (nx),true,true,true,1⟩],[]⟩:St)=some (.normal,(⟨[(0,s),(3,(.slice (some ⟨H.length,0,none⟩) 8 8)),(4,(.slice (some ⟨H.length+1,0,none⟩) 8 8)),(5,(.slice (some ⟨(H.length+2),0,none⟩) 8 8)),(6,v),(9,.int .u32 ((b:Nat))),(53,.int .i64 8),(54,.int .i64 (8)),(55,.bool false)],H++[⟨QR (r),true,true,true,1⟩,⟨QR orderW,true,true,true,1⟩,⟨QR (nx'),true,true,true,1⟩],[]⟩:St))∧SbInv 8 r nx' b:=by
 obtain ⟨s',hb,nx',b,rfl,hinv⟩:=Zc (T:=T) (base:=H.length) (id:=4) (body:=Yy)
  (fun k s1=>∃ nx' b,s1=(⟨[(0,s),(3,(.slice (some ⟨H.length,0,none⟩) 8 8)),(4,(.slice (some ⟨H.length+1,0,none⟩) 8 8)),(5,(.slice (some ⟨(H.length+2),0,none⟩) 8 8)),(6,v),(9,.int .u32 ((b:Nat))),(53,.int .i64 8),(54,.int .i64 ((k:Nat)))],H++[⟨QR (r),true,true,true,1⟩,⟨QR orderW,true,true,true,1⟩,⟨QR (nx'),true,true,true,1⟩],[]⟩:St)∧SbInv k r nx' b)
  (Q:=fun s1=>∃ nx' b,s1=(⟨[(0,s),(3,(.slice (some ⟨H.length,0,none⟩) 8 8)),(4,(.slice (some ⟨H.length+1,0,none⟩) 8 8)),(5,(.slice (some ⟨(H.length+2),0,none⟩) 8 8)),(6,v),(9,.int .u32 ((b:Nat))),(53,.int .i64 8),(54,.int .i64 (8)),(55,.bool false)],H++[⟨QR (r),true,true,true,1⟩,⟨QR orderW,true,true,true,1⟩,⟨QR (nx'),true,true,true,1⟩],[]⟩:St)∧SbInv 8 r nx' b)
  8 (s:=(⟨[(0,s),(3,(.slice (some ⟨H.length,0,none⟩) 8 8)),(4,(.slice (some ⟨H.length+1,0,none⟩) 8 8)),(5,(.slice (some ⟨(H.length+2),0,none⟩) 8 8)),(6,v),(9,.int .u32 (((0:Nat):Int))),(53,.int .i64 8),(54,.int .i64 (((0:Nat):Int)))],H++[⟨QR (r),true,true,true,1⟩,⟨QR orderW,true,true,true,1⟩,⟨QR (nx),true,true,true,1⟩],[]⟩:St)) ⟨_,_,rfl,⟨hl2,hr2,by decide,by simp [num]⟩⟩
  (fun k s1 hk hs=>by
   obtain ⟨nx',b,rfl,hI⟩:=hs
   obtain ⟨x,hx⟩:∃ x,r[k]?=some x:=⟨_,Qh (by omega)⟩
   obtain ⟨l,hlk⟩:∃ l,orderW[k]?=some l:=⟨_,Qh (show k<orderW.length from hk)⟩
   exact ⟨_,SR hk hI.len hx (hr x (Qz hx)) hlk hI.ble,_,_,rfl,hI.step hr hk hx hlk⟩)
  (fun s1 hs=>by
   obtain ⟨nx',b,rfl,hI⟩:=hs
   have h1:¬ (((8:Nat):Int)<(8:Int)):=by omega
   refine ⟨_,?_,nx',b,rfl,hI⟩
   simp only [Yy,Q0,guardOf,Q1,opd,JB,Z7,Zo,Env.get,Env.put,ZR,Qy,Z6,St.after,Env.keep,Jx,ZJ,unV,ZF,Zl,packed,Ob.fresh,ZX,okVar,cS,reduceCtorEq,QL,QH,QN,QZ,QU,QV,QG,QT,QM,h1]
   rfl)
 exact ⟨nx',b,hb,hinv⟩
theorem SK {nx:List Nat} (hk:k<8) (hl:r.length=8) (hx:r[k]?=some x) (hx':x<4294967296) (hc:c≤1) :
  Q8 T H.length Yx (⟨[(0,s),(3,(.slice (some ⟨(H.length+2),0,none⟩) 8 8)),(4,(.slice (some ⟨H.length+1,0,none⟩) 8 8)),(5,(.slice (some ⟨H.length,0,none⟩) 8 8)),(6,v),(7,.int .u32 ((c:Nat))),(32,.int .i64 8),(33,.int .i64 ((k:Nat)))],H++[⟨QR (nx),true,true,true,1⟩,⟨QR orderW,true,true,true,1⟩,⟨QR (r),true,true,true,1⟩],[]⟩:St)=some (.normal,(⟨[(0,s),(3,(.slice (some ⟨(H.length+2),0,none⟩) 8 8)),(4,(.slice (some ⟨H.length+1,0,none⟩) 8 8)),(5,(.slice (some ⟨H.length,0,none⟩) 8 8)),(6,v),(7,.int .u32 (((x/2147483648:Nat):Int))),(32,.int .i64 8),(33,.int .i64 (((k+1:Nat):Int)))],H++[⟨QR (nx),true,true,true,1⟩,⟨QR orderW,true,true,true,1⟩,⟨QR (r.set k ((2*x+c)%4294967296)),true,true,true,1⟩],[]⟩:St)):=by
 have hxc:=XO hx
 have h1:((k:Int)<(8:Int)):=by omega
 have h1':((k:Int)<((8:Nat):Int)):=by omega
 have e1:IntKind.u32.wrap ((x:Int)*2^min 1 IntKind.u32.bits)=((2*x%4294967296:Nat):Int):=by
  rw [wrap_u32,show min 1 IntKind.u32.bits=1 from rfl]; omega
 have e2:Zs .or .u32 ((2*x%4294967296:Nat):Int) (c:Int)=(((2*x+c)%4294967296:Nat):Int):=by
  rw [KA (k := .u32) (a:=2*x%4294967296) (b:=c) rfl (Q4 _ (by decide)) (by show c<2^32; omega)]
  congr 1
  have h2:2*x%4294967296=2^1*(x%2147483648):=by omega
  rw [h2,←Ve (by omega:c<2^1)]
  omega
 have e3:Um (x:Int) (2^min 31 IntKind.u32.bits)=((x/2147483648:Nat):Int):=by
  rw [J5 _ (by decide)]; rfl
 have e10:IntKind.i64.wrap ((k:Int)+1)=((k+1:Nat):Int):=Jf (n:=k+1) (by omega)
 have h5:k+1≤(QR r).length:=by rw [XN,hl]; omega
 simp only [Yx,Q0,guardOf,Q1,opd,JB,Z7,Zo,Env.get,Env.put,ZR,Qy,Z6,St.after,Env.keep,Jx,ZJ,unV,ZF,Zl,packed,Ob.fresh,ZX,okVar,cS,reduceCtorEq,QL,QH,QN,QZ,QU,QV,QG,QT,QM,h1,h1',hxc,e1,e2,e3,e10,h5,CO,Vr]
theorem SQ {nx:List Nat} (hk:k<8) (hl:nx.length=8) (hx:r[k]?=some x) (hx':x<4294967296) (ho:orderW[k]?=some l) (hb:b≤1) :
  Q8 T H.length Yy (⟨[(0,s),(3,(.slice (some ⟨(H.length+2),0,none⟩) 8 8)),(4,(.slice (some ⟨H.length+1,0,none⟩) 8 8)),(5,(.slice (some ⟨H.length,0,none⟩) 8 8)),(6,v),(9,.int .u32 ((b:Nat))),(53,.int .i64 8),(54,.int .i64 ((k:Nat)))],H++[⟨QR (nx),true,true,true,1⟩,⟨QR orderW,true,true,true,1⟩,⟨QR (r),true,true,true,1⟩],[]⟩:St)=some (.normal,(⟨[(0,s),(3,(.slice (some ⟨(H.length+2),0,none⟩) 8 8)),(4,(.slice (some ⟨H.length+1,0,none⟩) 8 8)),(5,(.slice (some ⟨H.length,0,none⟩) 8 8)),(6,v),(9,.int .u32 (((B4 x l b:Nat):Int))),(53,.int .i64 8),(54,.int .i64 (((k+1:Nat):Int)))],H++[⟨QR (nx.set k (B2 x l b)),true,true,true,1⟩,⟨QR orderW,true,true,true,1⟩,⟨QR (r),true,true,true,1⟩],[]⟩:St)):=by
 have hxc:=XO hx
 have hlc:=XO ho
 have h1:((k:Int)<(8:Int)):=by omega
 have h1':((k:Int)<((8:Nat):Int)):=by omega
 have hsub:=MP hx' (Gy l (Qz ho)) hb
 have e10:IntKind.i64.wrap ((k:Int)+1)=((k+1:Nat):Int):=Jf (n:=k+1) (by omega)
 have h5:k+1≤(QR nx).length:=by rw [XN,hl]; omega
 simp only [Yy,Q0,guardOf,Q1,opd,JB,Z7,Zo,Env.get,Env.put,ZR,Qy,Z6,St.after,Env.keep,Jx,ZJ,unV,ZF,Zl,packed,Ob.fresh,ZX,okVar,cS,reduceCtorEq,QL,QH,QN,QZ,QU,QV,QG,QT,QM,h1,h1',hxc,hlc,hsub,e10,h5,Kh,Vr]
theorem SH {nx:List Nat} (hl:r.length=8) (hr:∀ x∈r,x<4294967296) (hc:c≤1) :
  ∃ r' c',Q8 T H.length (.block 2 (.loop Yx)) (⟨[(0,s),(3,(.slice (some ⟨(H.length+2),0,none⟩) 8 8)),(4,(.slice (some ⟨H.length+1,0,none⟩) 8 8)),(5,(.slice (some ⟨H.length,0,none⟩) 8 8)),(6,v),(7,.int .u32 ((c:Nat))),(32,.int .i64 8),(33,.int .i64 (0))],H++[⟨QR (nx),true,true,true,1⟩,⟨QR orderW,true,true,true,1⟩,⟨QR (r),true,true,true,1⟩],[]⟩:St)=some (.normal,(⟨[(0,s),(3,(.slice (some ⟨(H.length+2),0,none⟩) 8 8)),(4,(.slice (some ⟨H.length+1,0,none⟩) 8 8)),(5,(.slice (some ⟨H.length,0,none⟩) 8 8)),(6,v),(7,.int .u32 ((c':Nat))),(32,.int .i64 8),(33,.int .i64 (8)),(34,.bool false)],H++[⟨QR (nx),true,true,true,1⟩,⟨QR orderW,true,true,true,1⟩,⟨QR (r'),true,true,true,1⟩],[]⟩:St))∧ShInv 8 c r r' c':=by
 obtain ⟨s',hb,r',c',rfl,hinv⟩:=Zc (T:=T) (base:=H.length) (id:=2) (body:=Yx)
  (fun k s1=>∃ r' c',s1=(⟨[(0,s),(3,(.slice (some ⟨(H.length+2),0,none⟩) 8 8)),(4,(.slice (some ⟨H.length+1,0,none⟩) 8 8)),(5,(.slice (some ⟨H.length,0,none⟩) 8 8)),(6,v),(7,.int .u32 ((c':Nat))),(32,.int .i64 8),(33,.int .i64 ((k:Nat)))],H++[⟨QR (nx),true,true,true,1⟩,⟨QR orderW,true,true,true,1⟩,⟨QR (r'),true,true,true,1⟩],[]⟩:St)∧ShInv k c r r' c')
  (Q:=fun s1=>∃ r' c',s1=(⟨[(0,s),(3,(.slice (some ⟨(H.length+2),0,none⟩) 8 8)),(4,(.slice (some ⟨H.length+1,0,none⟩) 8 8)),(5,(.slice (some ⟨H.length,0,none⟩) 8 8)),(6,v),(7,.int .u32 ((c':Nat))),(32,.int .i64 8),(33,.int .i64 (8)),(34,.bool false)],H++[⟨QR (nx),true,true,true,1⟩,⟨QR orderW,true,true,true,1⟩,⟨QR (r'),true,true,true,1⟩],[]⟩:St)∧ShInv 8 c r r' c')
  8 (s:=(⟨[(0,s),(3,(.slice (some ⟨(H.length+2),0,none⟩) 8 8)),(4,(.slice (some ⟨H.length+1,0,none⟩) 8 8)),(5,(.slice (some ⟨H.length,0,none⟩) 8 8)),(6,v),(7,.int .u32 ((c:Nat))),(32,.int .i64 8),(33,.int .i64 (((0:Nat):Int)))],H++[⟨QR (nx),true,true,true,1⟩,⟨QR orderW,true,true,true,1⟩,⟨QR (r),true,true,true,1⟩],[]⟩:St)) ⟨_,_,rfl,⟨hl,hr,hc,by simp [num],fun _ _=>rfl⟩⟩
  (fun k s1 hk hs=>by
   obtain ⟨r',c',rfl,hI⟩:=hs
   obtain ⟨x,hx⟩:∃ x,r'[k]?=some x:=⟨_,Qh (by rw [hI.len]; omega)⟩
   exact ⟨_,SK hk hI.len hx (hI.lt x (Qz hx)) hI.cle,_,_,rfl,hI.step hx⟩)
  (fun s1 hs=>by
   obtain ⟨r',c',rfl,hI⟩:=hs
   have h1:¬ (((8:Nat):Int)<(8:Int)):=by omega
   refine ⟨_,?_,r',c',rfl,hI⟩
   simp only [Yx,Q0,guardOf,Q1,opd,JB,Z7,Zo,Env.get,Env.put,ZR,Qy,Z6,St.after,Env.keep,Jx,ZJ,unV,ZF,Zl,packed,Ob.fresh,ZX,okVar,cS,reduceCtorEq,QL,QH,QN,QZ,QU,QV,QG,QT,QM,h1]
   rfl)
 exact ⟨r',c',hb,hinv⟩
theorem SO {nx:List Nat} (hl:r.length=8) (hr:∀ x∈r,x<4294967296) (hl2:nx.length=8) (hr2:∀ x∈nx,x<4294967296) :
  ∃ nx' b,Q8 T H.length (.block 4 (.loop Yy)) (⟨[(0,s),(3,(.slice (some ⟨(H.length+2),0,none⟩) 8 8)),(4,(.slice (some ⟨H.length+1,0,none⟩) 8 8)),(5,(.slice (some ⟨H.length,0,none⟩) 8 8)),(6,v),(9,.int .u32 (0)),(53,.int .i64 8),(54,.int .i64 (0))],H++[⟨QR (nx),true,true,true,1⟩,⟨QR orderW,true,true,true,1⟩,⟨QR (r),true,true,true,1⟩],[]⟩:St)=some (.normal,(⟨[(0,s),(3,(.slice (some ⟨(H.length+2),0,none⟩) 8 8)),(4,(.slice (some ⟨H.length+1,0,none⟩) 8 8)),(5,(.slice (some ⟨H.length,0,none⟩) 8 8)),(6,v),(9,.int .u32 ((b:Nat))),(53,.int .i64 8),(54,.int .i64 (8)),(55,.bool false)],H++[⟨QR (nx'),true,true,true,1⟩,⟨QR orderW,true,true,true,1⟩,⟨QR (r),true,true,true,1⟩],[]⟩:St))∧SbInv 8 r nx' b:=by
 obtain ⟨s',hb,nx',b,rfl,hinv⟩:=Zc (T:=T) (base:=H.length) (id:=4) (body:=Yy)
  (fun k s1=>∃ nx' b,s1=(⟨[(0,s),(3,(.slice (some ⟨(H.length+2),0,none⟩) 8 8)),(4,(.slice (some ⟨H.length+1,0,none⟩) 8 8)),(5,(.slice (some ⟨H.length,0,none⟩) 8 8)),(6,v),(9,.int .u32 ((b:Nat))),(53,.int .i64 8),(54,.int .i64 ((k:Nat)))],H++[⟨QR (nx'),true,true,true,1⟩,⟨QR orderW,true,true,true,1⟩,⟨QR (r),true,true,true,1⟩],[]⟩:St)∧SbInv k r nx' b)
  (Q:=fun s1=>∃ nx' b,s1=(⟨[(0,s),(3,(.slice (some ⟨(H.length+2),0,none⟩) 8 8)),(4,(.slice (some ⟨H.length+1,0,none⟩) 8 8)),(5,(.slice (some ⟨H.length,0,none⟩) 8 8)),(6,v),(9,.int .u32 ((b:Nat))),(53,.int .i64 8),(54,.int .i64 (8)),(55,.bool false)],H++[⟨QR (nx'),true,true,true,1⟩,⟨QR orderW,true,true,true,1⟩,⟨QR (r),true,true,true,1⟩],[]⟩:St)∧SbInv 8 r nx' b)
  8 (s:=(⟨[(0,s),(3,(.slice (some ⟨(H.length+2),0,none⟩) 8 8)),(4,(.slice (some ⟨H.length+1,0,none⟩) 8 8)),(5,(.slice (some ⟨H.length,0,none⟩) 8 8)),(6,v),(9,.int .u32 (((0:Nat):Int))),(53,.int .i64 8),(54,.int .i64 (((0:Nat):Int)))],H++[⟨QR (nx),true,true,true,1⟩,⟨QR orderW,true,true,true,1⟩,⟨QR (r),true,true,true,1⟩],[]⟩:St)) ⟨_,_,rfl,⟨hl2,hr2,by decide,by simp [num]⟩⟩
  (fun k s1 hk hs=>by
   obtain ⟨nx',b,rfl,hI⟩:=hs
   obtain ⟨x,hx⟩:∃ x,r[k]?=some x:=⟨_,Qh (by omega)⟩
   obtain ⟨l,hlk⟩:∃ l,orderW[k]?=some l:=⟨_,Qh (show k<orderW.length from hk)⟩
   exact ⟨_,SQ hk hI.len hx (hr x (Qz hx)) hlk hI.ble,_,_,rfl,hI.step hr hk hx hlk⟩)
  (fun s1 hs=>by
   obtain ⟨nx',b,rfl,hI⟩:=hs
   have h1:¬ (((8:Nat):Int)<(8:Int)):=by omega
   refine ⟨_,?_,nx',b,rfl,hI⟩
   simp only [Yy,Q0,guardOf,Q1,opd,JB,Z7,Zo,Env.get,Env.put,ZR,Qy,Z6,St.after,Env.keep,Jx,ZJ,unV,ZF,Zl,packed,Ob.fresh,ZX,okVar,cS,reduceCtorEq,QL,QH,QN,QZ,QU,QV,QG,QT,QM,h1]
   rfl)
 exact ⟨nx',b,hb,hinv⟩
end Go.Ev.YtomfgcgnepfmjaaGreat
namespace Go.Ev.YtomfgcgnepfmjaaGreat
open Go Go.Ev
attribute [local congr] UM
set_option maxRecDepth 100000
variable {H:List Ob} {id n i off cap w V v x y id1 off1 c1 id2 off2 c2:Nat} {ws a r p bs b c os:List Nat} {ps:List (List Nat)} {s:Value}
structure RInv (V:Nat) (r nx:List Nat):Prop where
 len:r.length=8
 lt:∀ x∈r,x<4294967296
 len2:nx.length=8
 lt2:∀ x∈nx,x<4294967296
 eq:num 4294967296 r=V%ell
theorem iL:2*ell+1<4294967296^8:=by decide
theorem Cs:0<ell:=by decide
theorem RInv.step {V c c' b:Nat} {r nx r' nx':List Nat} (h:RInv V r nx) (hc:c≤1) (h1:ShInv 8 c r r' c') (h2:SbInv 8 r' nx' b):(b=0→RInv (2*V+c) nx' r')∧(b≠0→RInv (2*V+c) r' nx'):=by
 have e1:=h1.eq
 have e2:=h2.eq
 have l1:=h.len
 have l2:=h1.len
 have l3:=h2.len
 rw [Qu (by omega)] at e1
 rw [Qu (by omega),Qu (show orderW.length≤8 from Qk _),Qu (by omega),NH] at e2
 have b1:=num_lt h1.lt
 have b2:=num_lt h2.lt
 rw [l2] at b1
 rw [l3] at b2
 have hp:=iL
 have hr:num 4294967296 r<ell:=by rw [h.eq]; exact Q4 _ Cs
 have hV:(2*V+c)%ell=(2*num 4294967296 r+c)%ell:=by
  rw [h.eq,pA,YY,pA (2*(V%ell)),YY 2 (V%ell),Nat.mod_mod]
 have hle:=h1.cle
 have hbe:=h2.ble
 generalize 4294967296^8=W at *
 have hc0:c'=0:=by
  rcases Zm 0 c' with hh | hh
  ·have:c'=1:=by omega
   subst this
   omega
  ·omega
 subst hc0
 generalize num 4294967296 r=x at *
 generalize hyy:num 4294967296 r'=y at *
 generalize hz:num 4294967296 nx'=z at *
 have hy:y=2*x+c:=by omega
 subst hy
 refine ⟨fun h0=>⟨l3,h2.lt,l2,h1.lt,?_⟩,fun h0=>⟨l2,h1.lt,l3,h2.lt,?_⟩⟩
 ·subst h0
  rw [hV,show 2*x+c=z+ell by omega,Nat.add_mod_right,QF (by omega)]
  exact hz
 ·have:b=1:=by omega
  subst this
  have hlt:2*x+c<ell:=by omega
  rw [hV,QF hlt]
  exact hyy
theorem Lb {nx:List Nat} (hr:Row .u32 H id off ws) (hn:ws.length=n) (hN:n<2^40) (hi:i<32*n) (hw:ws[i/32]?=some w) (hw':w<4294967296) (h:RInv V r nx) :
  ∃ r' nx',RInv (2*V+w/2^(i%32)%2) r' nx'∧(Q8 T H.length Vl (⟨[(0,(.slice (some ⟨id,off,none⟩) n cap)),(3,(.slice (some ⟨H.length,0,none⟩) 8 8)),(4,(.slice (some ⟨H.length+1,0,none⟩) 8 8)),(5,(.slice (some ⟨(H.length+2),0,none⟩) 8 8)),(6,.int .i64 ((i:Nat)))],H++[⟨QR (r),true,true,true,1⟩,⟨QR orderW,true,true,true,1⟩,⟨QR (nx),true,true,true,1⟩],[]⟩:St)=some (.normal,(⟨[(0,(.slice (some ⟨id,off,none⟩) n cap)),(3,(.slice (some ⟨H.length,0,none⟩) 8 8)),(4,(.slice (some ⟨H.length+1,0,none⟩) 8 8)),(5,(.slice (some ⟨(H.length+2),0,none⟩) 8 8)),(6,.int .i64 ((i:Int)-1))],H++[⟨QR (r'),true,true,true,1⟩,⟨QR orderW,true,true,true,1⟩,⟨QR (nx'),true,true,true,1⟩],[]⟩:St))∨Q8 T H.length Vl (⟨[(0,(.slice (some ⟨id,off,none⟩) n cap)),(3,(.slice (some ⟨H.length,0,none⟩) 8 8)),(4,(.slice (some ⟨H.length+1,0,none⟩) 8 8)),(5,(.slice (some ⟨(H.length+2),0,none⟩) 8 8)),(6,.int .i64 ((i:Nat)))],H++[⟨QR (r),true,true,true,1⟩,⟨QR orderW,true,true,true,1⟩,⟨QR (nx),true,true,true,1⟩],[]⟩:St)=some (.normal,(⟨[(0,(.slice (some ⟨id,off,none⟩) n cap)),(3,(.slice (some ⟨(H.length+2),0,none⟩) 8 8)),(4,(.slice (some ⟨H.length+1,0,none⟩) 8 8)),(5,(.slice (some ⟨H.length,0,none⟩) 8 8)),(6,.int .i64 ((i:Int)-1))],H++[⟨QR (nx'),true,true,true,1⟩,⟨QR orderW,true,true,true,1⟩,⟨QR (r'),true,true,true,1⟩],[]⟩:St))):=by
 have hc:w/2^(i%32)%2≤1:=by omega
 obtain ⟨r1,c1,hb1,i1⟩:=SJ (H:=H) (s:=(.slice (some ⟨id,off,none⟩) n cap)) (v := .int .i64 (i:Nat)) (nx:=nx) h.len h.lt hc
 obtain ⟨nx1,b,hb2,i2⟩:=SP (H:=H) (s:=(.slice (some ⟨id,off,none⟩) n cap)) (v := .int .i64 (i:Nat)) (r:=r1) (nx:=nx) i1.len i1.lt h.len2 h.lt2
 obtain ⟨o,ho,ZO⟩:=hr
 have ho':=Kq (l:=[⟨QR (r),true,true,true,1⟩,⟨QR orderW,true,true,true,1⟩,⟨QR (nx),true,true,true,1⟩]) ho
 have hwc:=ZO (i/32) w hw
 have h1:((i:Int)≥0):=by omega
 have h2:((i/32:Nat):Int)<(n:Int):=by omega
 have h4:¬ (((i%32:Nat):Int)<0):=by omega
 have e1:IntKind.i64.wrap ((i:Int).tdiv 32)=((i/32:Nat):Int):=Jf (n:=i/32) (by omega)
 have e2:((i:Int).tmod 32)=((i%32:Nat):Int):=rfl
 have e3:Um (w:Int) (2^min (i%32) IntKind.u32.bits)=((w/2^(i%32):Nat):Int):=by
  rw [Ze (by show _≤32; omega),J5 _ (kM (pC (by decide)))]; simp
 have e4:Zs .and .u32 ((w/2^(i%32):Nat):Int) 1=((w/2^(i%32)%2:Nat):Int):=by
  rw [show (1:Int)=((1:Nat):Int) from rfl,VE (k := .u32) (a:=w/2^(i%32)) (b:=1) rfl (J4 (JQ _ _) hw') (by decide),Nat.and_one_is_mod]
 have e5:IntKind.i64.wrap ((i:Int)-1)=(i:Int)-1:=ZE (by omega) (by omega)
 have e8:((8:Nat):Int)=8:=rfl
 have hst:=h.step hc i1 i2
 generalize w/2^(i%32)%2=c at *
 by_cases hb0:b=0
 ·subst hb0
  have e6:(((0:Nat):Int)==0)=true:=rfl
  refine ⟨nx1,r1,hst.1 rfl,.inr ?_⟩
  simp only [Vl,Q0,guardOf,Q1,opd,JB,Z7,Zo,Env.get,Env.put,ZR,Qy,Z6,St.after,Env.keep,Jx,ZJ,unV,ZF,Zl,packed,Ob.fresh,ZX,okVar,cS,reduceCtorEq,QL,QH,QN,QZ,QU,QV,QG,QT,QM,h1,h2,h4,ho',hwc,e1,e2,e3,e4,e5,e6,e8,hb1,hb2]
 ·have hb1':b=1:=by have:=i2.ble; omega
  subst hb1'
  have e6:(((1:Nat):Int)==0)=false:=rfl
  refine ⟨r1,nx1,hst.2 (by decide),.inl ?_⟩
  simp only [Vl,Q0,guardOf,Q1,opd,JB,Z7,Zo,Env.get,Env.put,ZR,Qy,Z6,St.after,Env.keep,Jx,ZJ,unV,ZF,Zl,packed,Ob.fresh,ZX,okVar,cS,reduceCtorEq,QL,QH,QN,QZ,QU,QV,QG,QT,QM,h1,h2,h4,ho',hwc,e1,e2,e3,e4,e5,e6,e8,hb1,hb2]
theorem La {nx:List Nat} (hr:Row .u32 H id off ws) (hn:ws.length=n) (hN:n<2^40) (hi:i<32*n) (hw:ws[i/32]?=some w) (hw':w<4294967296) (h:RInv V r nx) :
  ∃ r' nx',RInv (2*V+w/2^(i%32)%2) r' nx'∧(Q8 T H.length Vl (⟨[(0,(.slice (some ⟨id,off,none⟩) n cap)),(3,(.slice (some ⟨(H.length+2),0,none⟩) 8 8)),(4,(.slice (some ⟨H.length+1,0,none⟩) 8 8)),(5,(.slice (some ⟨H.length,0,none⟩) 8 8)),(6,.int .i64 ((i:Nat)))],H++[⟨QR (nx),true,true,true,1⟩,⟨QR orderW,true,true,true,1⟩,⟨QR (r),true,true,true,1⟩],[]⟩:St)=some (.normal,(⟨[(0,(.slice (some ⟨id,off,none⟩) n cap)),(3,(.slice (some ⟨(H.length+2),0,none⟩) 8 8)),(4,(.slice (some ⟨H.length+1,0,none⟩) 8 8)),(5,(.slice (some ⟨H.length,0,none⟩) 8 8)),(6,.int .i64 ((i:Int)-1))],H++[⟨QR (nx'),true,true,true,1⟩,⟨QR orderW,true,true,true,1⟩,⟨QR (r'),true,true,true,1⟩],[]⟩:St))∨Q8 T H.length Vl (⟨[(0,(.slice (some ⟨id,off,none⟩) n cap)),(3,(.slice (some ⟨(H.length+2),0,none⟩) 8 8)),(4,(.slice (some ⟨H.length+1,0,none⟩) 8 8)),(5,(.slice (some ⟨H.length,0,none⟩) 8 8)),(6,.int .i64 ((i:Nat)))],H++[⟨QR (nx),true,true,true,1⟩,⟨QR orderW,true,true,true,1⟩,⟨QR (r),true,true,true,1⟩],[]⟩:St)=some (.normal,(⟨[(0,(.slice (some ⟨id,off,none⟩) n cap)),(3,(.slice (some ⟨H.length,0,none⟩) 8 8)),(4,(.slice (some ⟨H.length+1,0,none⟩) 8 8)),(5,(.slice (some ⟨(H.length+2),0,none⟩) 8 8)),(6,.int .i64 ((i:Int)-1))],H++[⟨QR (r'),true,true,true,1⟩,⟨QR orderW,true,true,true,1⟩,⟨QR (nx'),true,true,true,1⟩],[]⟩:St))):=by
 have hc:w/2^(i%32)%2≤1:=by omega
 obtain ⟨r1,c1,hb1,i1⟩:=SH (H:=H) (s:=(.slice (some ⟨id,off,none⟩) n cap)) (v := .int .i64 (i:Nat)) (nx:=nx) h.len h.lt hc
 obtain ⟨nx1,b,hb2,i2⟩:=SO (H:=H) (s:=(.slice (some ⟨id,off,none⟩) n cap)) (v := .int .i64 (i:Nat)) (r:=r1) (nx:=nx) i1.len i1.lt h.len2 h.lt2
 obtain ⟨o,ho,ZO⟩:=hr
 have ho':=Kq (l:=[⟨QR (nx),true,true,true,1⟩,⟨QR orderW,true,true,true,1⟩,⟨QR (r),true,true,true,1⟩]) ho
 have hwc:=ZO (i/32) w hw
 have h1:((i:Int)≥0):=by omega
 have h2:((i/32:Nat):Int)<(n:Int):=by omega
 have h4:¬ (((i%32:Nat):Int)<0):=by omega
 have e1:IntKind.i64.wrap ((i:Int).tdiv 32)=((i/32:Nat):Int):=Jf (n:=i/32) (by omega)
 have e2:((i:Int).tmod 32)=((i%32:Nat):Int):=rfl
 have e3:Um (w:Int) (2^min (i%32) IntKind.u32.bits)=((w/2^(i%32):Nat):Int):=by
  rw [Ze (by show _≤32; omega),J5 _ (kM (pC (by decide)))]; simp
 have e4:Zs .and .u32 ((w/2^(i%32):Nat):Int) 1=((w/2^(i%32)%2:Nat):Int):=by
  rw [show (1:Int)=((1:Nat):Int) from rfl,VE (k := .u32) (a:=w/2^(i%32)) (b:=1) rfl (J4 (JQ _ _) hw') (by decide),Nat.and_one_is_mod]
 have e5:IntKind.i64.wrap ((i:Int)-1)=(i:Int)-1:=ZE (by omega) (by omega)
 have e8:((8:Nat):Int)=8:=rfl
 have hst:=h.step hc i1 i2
 generalize w/2^(i%32)%2=c at *
 by_cases hb0:b=0
 ·subst hb0
  have e6:(((0:Nat):Int)==0)=true:=rfl
  refine ⟨nx1,r1,hst.1 rfl,.inr ?_⟩
  simp only [Vl,Q0,guardOf,Q1,opd,JB,Z7,Zo,Env.get,Env.put,ZR,Qy,Z6,St.after,Env.keep,Jx,ZJ,unV,ZF,Zl,packed,Ob.fresh,ZX,okVar,cS,reduceCtorEq,QL,QH,QN,QZ,QU,QV,QG,QT,QM,h1,h2,h4,ho',hwc,e1,e2,e3,e4,e5,e6,e8,hb1,hb2]
 ·have hb1':b=1:=by have:=i2.ble; omega
  subst hb1'
  have e6:(((1:Nat):Int)==0)=false:=rfl
  refine ⟨r1,nx1,hst.2 (by decide),.inl ?_⟩
  simp only [Vl,Q0,guardOf,Q1,opd,JB,Z7,Zo,Env.get,Env.put,ZR,Qy,Z6,St.after,Env.keep,Jx,ZJ,unV,ZF,Zl,packed,Ob.fresh,ZX,okVar,cS,reduceCtorEq,QL,QH,QN,QZ,QU,QV,QG,QT,QM,h1,h2,h4,ho',hwc,e1,e2,e3,e4,e5,e6,e8,hb1,hb2]
def Rx (H:List Ob) (s:Value) (p:Bool) (v:Int) (r nx:List Nat):St:=match p with
 | false=>(⟨[(0,s),(3,(.slice (some ⟨H.length,0,none⟩) 8 8)),(4,(.slice (some ⟨H.length+1,0,none⟩) 8 8)),(5,(.slice (some ⟨(H.length+2),0,none⟩) 8 8)),(6,.int .i64 (v))],H++[⟨QR (r),true,true,true,1⟩,⟨QR orderW,true,true,true,1⟩,⟨QR (nx),true,true,true,1⟩],[]⟩:St)
 | true=>(⟨[(0,s),(3,(.slice (some ⟨(H.length+2),0,none⟩) 8 8)),(4,(.slice (some ⟨H.length+1,0,none⟩) 8 8)),(5,(.slice (some ⟨H.length,0,none⟩) 8 8)),(6,.int .i64 (v))],H++[⟨QR (nx),true,true,true,1⟩,⟨QR orderW,true,true,true,1⟩,⟨QR (r),true,true,true,1⟩],[]⟩:St)
def Ry (H:List Ob) (s:Value) (p:Bool) (r nx:List Nat):St:=match p with
 | false=>(⟨[(0,s),(3,(.slice (some ⟨H.length,0,none⟩) 8 8)),(4,(.slice (some ⟨H.length+1,0,none⟩) 8 8)),(5,(.slice (some ⟨(H.length+2),0,none⟩) 8 8)),(6,.int .i64 (-1)),(19,.bool false)],H++[⟨QR (r),true,true,true,1⟩,⟨QR orderW,true,true,true,1⟩,⟨QR (nx),true,true,true,1⟩],[]⟩:St)
 | true=>(⟨[(0,s),(3,(.slice (some ⟨(H.length+2),0,none⟩) 8 8)),(4,(.slice (some ⟨H.length+1,0,none⟩) 8 8)),(5,(.slice (some ⟨H.length,0,none⟩) 8 8)),(6,.int .i64 (-1)),(19,.bool false)],H++[⟨QR (nx),true,true,true,1⟩,⟨QR orderW,true,true,true,1⟩,⟨QR (r),true,true,true,1⟩],[]⟩:St)
theorem ON {nx:List Nat} (p:Bool) (hr:Row .u32 H id off ws) (hn:ws.length=n) (hN:n<2^40) (hi:i<32*n) (hw:ws[i/32]?=some w) (hw':w<4294967296) (h:RInv V r nx) :
  ∃ q r' nx',RInv (2*V+w/2^(i%32)%2) r' nx'∧Q8 T H.length Vl (Rx H (.slice (some ⟨id,off,none⟩) n cap) p (i:Nat) r nx)=some (.normal,Rx H (.slice (some ⟨id,off,none⟩) n cap) q ((i:Int)-1) r' nx'):=by
 cases p with
 | false =>
  obtain ⟨r',nx',h1,h2⟩:=Lb (cap:=cap) hr hn hN hi hw hw' h
  rcases h2 with h2 | h2
  ·exact ⟨false,r',nx',h1,h2⟩
  ·exact ⟨true,r',nx',h1,h2⟩
 | true =>
  obtain ⟨r',nx',h1,h2⟩:=La (cap:=cap) hr hn hN hi hw hw' h
  rcases h2 with h2 | h2
  ·exact ⟨true,r',nx',h1,h2⟩
  ·exact ⟨false,r',nx',h1,h2⟩
theorem nR (hws:∀ x∈ws,x<4294967296) (hw:ws[i/32]?=some w):2*(num 4294967296 ws/2^(i+1))+w/2^(i%32)%2=num 4294967296 ws/2^i:=by
 have h1:=VS (B:=4294967296) (by decide) hws hw
 generalize num 4294967296 ws=v at *
 have h2:w/2^(i%32)%2=v/2^i%2:=by
  have e1:(4294967296:Nat)^(i/32)=2^(32*(i/32)):=by rw [show (4294967296:Nat)=2^32 from rfl,←Jj]
  rw [←h1,e1]
  have e2:(2:Nat)^i=2^(32*(i/32))*2^(i%32):=by rw [←JD]; congr 1; omega
  rw [e2,←Jm]
  generalize v/2^(32*(i/32))=u
  have e3:(4294967296:Nat)=2^(i%32)*2^(32-i%32):=by rw [←JD]; rw [show i%32+(32-i%32)=32 by omega]
  rw [e3,Uh,VH]
  exact ⟨2^(31-i%32),by rw [←Ie]; congr 1; omega⟩
 rw [h2,Z4,←Jm]
 omega
theorem Lc (hr:Row .u32 H id off ws) (hn:ws.length=n) (hn0:0<n) (hN:n<2^40) (hws:∀ x∈ws,x<4294967296) :
  ∃ k l,Zd T 148 [.slice (some ⟨id,off,none⟩) n cap] H=some (.slice (some ⟨k,0,none⟩) 8 8,H++l,[])∧Row .u32 (H++l) k 0 (dig 4294967296 8 (num 4294967296 ws%ell)):=by
 have h0:RInv (num 4294967296 ws/2^(32*n)) (dig 4294967296 8 0) (dig 4294967296 8 0):=by
  refine ⟨Zx _ _ _,fun x hx=>KV (by decide) hx,Zx _ _ _,fun x hx=>KV (by decide) hx,?_⟩
  have h1:=num_lt hws
  rw [hn,show (4294967296:Nat)=2^32 from rfl,←Jj] at h1
  rw [XV (by decide),show (4294967296:Nat)=2^32 from rfl,Xw h1]
  simp
 obtain ⟨s',hb,q,r,nx,rfl,hinv⟩:=Zc (T:=T) (base:=H.length) (id:=0) (body:=Vl)
  (fun j s=>∃ p r nx,s=Rx H (.slice (some ⟨id,off,none⟩) n cap) p (((32*n-j:Nat):Int)-1) r nx∧RInv (num 4294967296 ws/2^(32*n-j)) r nx)
  (Q:=fun s=>∃ p r nx,s=Ry H (.slice (some ⟨id,off,none⟩) n cap) p r nx∧RInv (num 4294967296 ws) r nx)
  (32*n) (s:=Rx H (.slice (some ⟨id,off,none⟩) n cap) false (((32*n-0:Nat):Int)-1) (dig 4294967296 8 0) (dig 4294967296 8 0)) ⟨false,_,_,rfl,h0⟩
  (fun j s hj hs=>by
   obtain ⟨p,r,nx,rfl,hI⟩:=hs
   obtain ⟨i,hi⟩:∃ i,32*n-j=i+1:=⟨32*n-j-1,by omega⟩
   obtain ⟨w,hw⟩:∃ w,ws[i/32]?=some w:=⟨_,Qh (by omega)⟩
   rw [hi] at hI
   obtain ⟨q,r',nx',g1,g2⟩:=ON (cap:=cap) p hr hn hN (by omega) hw (hws w (Qz hw)) hI
   rw [nR hws hw] at g1
   refine ⟨_,?_,q,r',nx',rfl,by rw [show 32*n-(j+1)=i by omega]; exact g1⟩
   rw [hi,show 32*n-(j+1)=i by omega,show (((i+1:Nat):Int)-1)=(i:Nat) by omega]
   exact g2)
  (fun s hs=>by
   obtain ⟨p,r,nx,rfl,hI⟩:=hs
   rw [Qq,Xh,XL] at hI
   refine ⟨_,?_,p,r,nx,rfl,hI⟩
   rw [Qq]
   have h1:¬ ((-1:Int)≥0):=by decide
   cases p with
   | false =>
    rw [show Rx H (.slice (some ⟨id,off,none⟩) n cap) false (((0:Nat):Int)-1) r nx=(⟨[(0,.slice (some ⟨id,off,none⟩) n cap),(3,(.slice (some ⟨H.length,0,none⟩) 8 8)),(4,(.slice (some ⟨H.length+1,0,none⟩) 8 8)),(5,(.slice (some ⟨(H.length+2),0,none⟩) 8 8)),(6,.int .i64 (-1))],H++[⟨QR (r),true,true,true,1⟩,⟨QR orderW,true,true,true,1⟩,⟨QR (nx),true,true,true,1⟩],[]⟩:St) from rfl]
    simp only [Vl,Q0,guardOf,Q1,opd,JB,Z7,Zo,Env.get,Env.put,ZR,Qy,Z6,St.after,Env.keep,Jx,ZJ,unV,ZF,Zl,packed,Ob.fresh,ZX,okVar,cS,reduceCtorEq,QL,QH,QN,QZ,QU,QV,QG,QT,QM,h1,Ry]
   | true =>
    rw [show Rx H (.slice (some ⟨id,off,none⟩) n cap) true (((0:Nat):Int)-1) r nx=(⟨[(0,.slice (some ⟨id,off,none⟩) n cap),(3,(.slice (some ⟨(H.length+2),0,none⟩) 8 8)),(4,(.slice (some ⟨H.length+1,0,none⟩) 8 8)),(5,(.slice (some ⟨H.length,0,none⟩) 8 8)),(6,.int .i64 (-1))],H++[⟨QR (nx),true,true,true,1⟩,⟨QR orderW,true,true,true,1⟩,⟨QR (r),true,true,true,1⟩],[]⟩:St) from rfl]
    simp only [Vl,Q0,guardOf,Q1,opd,JB,Z7,Zo,Env.get,Env.put,ZR,Qy,Z6,St.after,Env.keep,Jx,ZJ,unV,ZF,Zl,packed,Ob.fresh,ZX,okVar,cS,reduceCtorEq,QL,QH,QN,QZ,QU,QV,QG,QT,QM,h1,Ry])
 obtain ⟨m,hm⟩:∃ m:Int,m=((32*n-0:Nat):Int)-1:=⟨_,rfl⟩
 rw [←hm,show Rx H (.slice (some ⟨id,off,none⟩) n cap) false m (dig 4294967296 8 0) (dig 4294967296 8 0)=(⟨[(0,.slice (some ⟨id,off,none⟩) n cap),(3,(.slice (some ⟨H.length,0,none⟩) 8 8)),(4,(.slice (some ⟨H.length+1,0,none⟩) 8 8)),(5,(.slice (some ⟨(H.length+2),0,none⟩) 8 8)),(6,.int .i64 (m))],H++[⟨QR (dig 4294967296 8 0),true,true,true,1⟩,⟨QR orderW,true,true,true,1⟩,⟨QR (dig 4294967296 8 0),true,true,true,1⟩],[]⟩:St) from rfl] at hb
 have e1:IntKind.i64.wrap (IntKind.i64.wrap (32*(n:Int))-1)=m:=by rw [ZE (x:=32*(n:Int)) (by omega) (by omega),ZE (by omega) (by omega)]; omega
 have h1:((8:Int)*((4:Nat):Int)≤2^47):=by decide
 have h2:(0:Nat)<4:=by decide
 have h3:((0:Int)≤8):=by decide
 have hz:Qc 8 (Value.int .u32 0)=QR (dig 4294967296 8 0):=rfl
 have horder:=Rt (H++[⟨QR (dig 4294967296 8 0),true,true,true,1⟩])
 simp only [Qg,Zn,Z3,QB,Qv,Qw,Qr,Ob.fresh] at horder
 have hdig:r=dig 4294967296 8 (num 4294967296 ws%ell):=by rw [←hinv.eq,←hinv.len,WQ (by decide) hinv.lt]
 cases q with
 | false =>
  refine ⟨H.length,[⟨QR r,true,true,true,1⟩,⟨QR orderW,true,true,true,1⟩,⟨QR nx,true,true,true,1⟩],?_,?_⟩
  ·rw [QE (fn:=a41) rfl]
   simp only [a41,Q0,guardOf,Q1,opd,JB,Z7,Zo,Env.get,Env.put,ZR,Qy,Z6,St.after,Env.keep,Jx,ZJ,unV,ZF,Zl,packed,Ob.fresh,ZX,okVar,cS,reduceCtorEq,QL,QH,QN,QZ,QU,QV,QG,QT,QM,e1,h1,h2,h3,Wb,Wp,hz,horder,Qg,Qv,hb,Ry]
  ·exact ⟨_,GD,fun i x hx=>by rw [QB]; exact XO (by rw [hdig]; exact hx)⟩
 | true =>
  refine ⟨H.length+2,[⟨QR nx,true,true,true,1⟩,⟨QR orderW,true,true,true,1⟩,⟨QR r,true,true,true,1⟩],?_,?_⟩
  ·rw [QE (fn:=a41) rfl]
   simp only [a41,Q0,guardOf,Q1,opd,JB,Z7,Zo,Env.get,Env.put,ZR,Qy,Z6,St.after,Env.keep,Jx,ZJ,unV,ZF,Zl,packed,Ob.fresh,ZX,okVar,cS,reduceCtorEq,QL,QH,QN,QZ,QU,QV,QG,QT,QM,e1,h1,h2,h3,Wb,Wp,hz,horder,Qg,Qv,hb,Ry]
  ·exact ⟨_,bP,fun i x hx=>by rw [QB]; exact XO (by rw [hdig]; exact hx)⟩
theorem W9 {cs v:List Value} (h:v.length=cs.length):splice cs 0 v=v:=by
 rw [JL _ _ _ (by omega),Xc,Qr,QB,h,List.drop_length,Q9]
theorem iU (hw:v/4294967296^(i/4)%4294967296=w):w/2^(8*(i%4))%256=v/256^i%256:=by
 subst hw
 have e1:(4294967296:Nat)^(i/4)=2^(32*(i/4)):=by rw [show (4294967296:Nat)=2^32 from rfl,←Jj]
 have e2:(256:Nat)^i=2^(32*(i/4))*2^(8*(i%4)):=by
  rw [show (256:Nat)=2^8 from rfl,←Jj,←JD]; congr 1; omega
 rw [e1,e2,←Jm]
 generalize v/2^(32*(i/4))=u
 have e3:(4294967296:Nat)=2^(8*(i%4))*2^(32-8*(i%4)):=by rw [←JD]; rw [show 8*(i%4)+(32-8*(i%4))=32 by omega]
 rw [e3,Uh,VH]
 exact ⟨2^(24-8*(i%4)),by rw [show (256:Nat)=2^8 from rfl,←JD]; congr 1; omega⟩
def byI (H:List Ob) (s:Value) (i:Int) (k:List Nat) (ex:Env):St :=
 ⟨[(0,s),(2,.pointer (some ⟨H.length,0,none⟩)),(3,.pointer (some ⟨H.length+1,0,none⟩)),(5,.int .i64 i)]++ex,H++[⟨u8s (dig 256 32 0),true,true,true,1⟩,⟨u8s k,true,true,true,1⟩],[]⟩
theorem iV {k:List Nat} (hr:Row .u32 H id off ws) (hn:ws.length=8) (hi:i<32) (hw:ws[i/4]?=some w) (hl:k.length=32) :
  Q8 T H.length Td (byI H (.slice (some ⟨id,off,none⟩) 8 cap) (i:Nat) k [])=some (.normal,byI H (.slice (some ⟨id,off,none⟩) 8 cap) ((i+1:Nat):Int) (k.set i (w/2^(8*(i%4))%256)) []):=by
 obtain ⟨o,ho,ZO⟩:=hr
 have ho':=Kq (l:=[⟨u8s (dig 256 32 0),true,true,true,1⟩,⟨u8s k,true,true,true,1⟩]) ho
 have hwc:=ZO (i/4) w hw
 have h1:((i:Int)<32):=by omega
 have h1':((i:Int)<((32:Nat):Int)):=by omega
 have h2:((i/4:Nat):Int)<((8:Nat):Int):=by omega
 have h2':((i/4:Nat):Int)<(8:Int):=by omega
 have h4:¬ (((8*(i%4):Nat):Int)<0):=by omega
 have e1:IntKind.i64.wrap ((i:Int).tdiv 4)=((i/4:Nat):Int):=Jf (n:=i/4) (by omega)
 have e2:((i:Int).tmod 4)=((i%4:Nat):Int):=rfl
 have e3:IntKind.i64.wrap (8*((i%4:Nat):Int))=((8*(i%4):Nat):Int):=Jf (n:=8*(i%4)) (by omega)
 have e4:Um (w:Int) (2^min (8*(i%4)) IntKind.u32.bits)=((w/2^(8*(i%4)):Nat):Int):=by
  rw [Ze (by show _≤32; omega),J5 _ (kM (pC (by decide)))]; simp
 have e5:IntKind.u8.wrap ((w/2^(8*(i%4)):Nat):Int)=((w/2^(8*(i%4))%256:Nat):Int):=by rw [wrap_u8]; rfl
 have e6:IntKind.i64.wrap ((i:Int)+1)=((i+1:Nat):Int):=Jf (n:=i+1) (by omega)
 have h5:i+1≤(u8s k).length:=by rw [Qp,hl]; omega
 simp only [byI,Td,Q0,guardOf,Q1,opd,JB,Z7,Zo,Env.get,Env.put,ZR,Qy,Z6,St.after,Env.keep,Jx,ZJ,unV,ZF,Zl,packed,Ob.fresh,ZX,okVar,cS,reduceCtorEq,QL,QH,QN,QZ,QU,QV,QG,QT,QM,h1,h1',h2,h2',h4,ho',hwc,e1,e2,e3,e4,e5,e6,h5,CP,XE]
theorem Hb (hr:Row .u32 H id off (dig 4294967296 8 v)) :
  ∃ l,Zd T 149 [.slice (some ⟨id,off,none⟩) 8 cap] H=some (.agg (u8s (dig 256 32 v)).toArray,H++l,[]):=by
 obtain ⟨s',hb,k,rfl,hlen,hk⟩:=Zc (T:=T) (base:=H.length) (id:=0) (body:=Td)
  (fun i s=>∃ k,s=byI H (.slice (some ⟨id,off,none⟩) 8 cap) (i:Nat) k []∧k.length=32∧∀ t,t<i→k[t]?=some (v/256^t%256))
  (Q:=fun s=>∃ k,s=byI H (.slice (some ⟨id,off,none⟩) 8 cap) 32 k [(6,.bool false)]∧k.length=32∧∀ t,t<32→k[t]?=some (v/256^t%256))
  32 (s:=byI H (.slice (some ⟨id,off,none⟩) 8 cap) ((0:Nat):Int) (dig 256 32 0) []) ⟨_,rfl,Zx _ _ _,fun t ht=>by omega⟩
  (fun i s hi hs=>by
   obtain ⟨k,rfl,hl,hk⟩:=hs
   refine ⟨_,iV hr (Zx _ _ _) hi (Vx (by omega)) hl,_,rfl,by rw [Qo]; exact hl,fun t ht => ?_⟩
   by_cases h:t=i
   ·subst h
    rw [Qt (by omega),iU rfl]
   ·rw [Qm (by omega)]
    exact hk t (by omega))
  (fun s hs=>by
   obtain ⟨k,rfl,hl,hk⟩:=hs
   have h1:¬ (((32:Nat):Int)<(32:Int)):=by omega
   refine ⟨_,?_,k,rfl,hl,hk⟩
   simp only [byI,Td,Q0,guardOf,Q1,opd,JB,Z7,Zo,Env.get,Env.put,ZR,Qy,Z6,St.after,Env.keep,Jx,ZJ,unV,ZF,Zl,packed,Ob.fresh,ZX,okVar,cS,reduceCtorEq,QL,QH,QN,QZ,QU,QV,QG,QT,QM,h1]
   rfl)
 have hkk:k=dig 256 32 v:=Bf hlen fun i hi=>hk i hi
 subst hkk
 have hz:Qc 32 (Value.int .u8 0)=u8s (dig 256 32 0):=rfl
 have h1:0+32≤(u8s (dig 256 32 v)).length:=by rw [Qp,Zx]; omega
 have h1':32≤(u8s (dig 256 32 v)).length:=by rw [Qp,Zx]; omega
 have h2:((u8s (dig 256 32 v)).drop 0).take 32=u8s (dig 256 32 v):=by rw [JT,Qu (by rw [Qp,Zx]; omega)]
 have h3:(u8s (dig 256 32 v)).length=32:=by rw [Qp,Zx]
 have h4:0+(u8s (dig 256 32 v)).length≤(u8s (dig 256 32 0)).length:=by rw [Qp,Qp,Zx,Zx]; omega
 have h5:splice (u8s (dig 256 32 0)) 0 (u8s (dig 256 32 v))=u8s (dig 256 32 v):=W9 (by rw [Qp,Qp,Zx,Zx])
 have h6:=Kh (H:=H) (r:=[⟨u8s (dig 256 32 v),true,true,true,1⟩]) (e:=true) (s:=1) h4
 rw [h5] at h6
 refine ⟨[⟨u8s (dig 256 32 v),true,true,true,1⟩,⟨u8s (dig 256 32 v),true,true,true,1⟩],?_⟩
 rw [show byI H (.slice (some ⟨id,off,none⟩) 8 cap) ((0:Nat):Int) (dig 256 32 0) []=⟨[(0,.slice (some ⟨id,off,none⟩) 8 cap),(2,.pointer (some ⟨H.length,0,none⟩)),(3,.pointer (some ⟨H.length+1,0,none⟩)),(5,.int .i64 0)],H++[⟨u8s (dig 256 32 0),true,true,true,1⟩,⟨u8s (dig 256 32 0),true,true,true,1⟩],[]⟩ from rfl] at hb
 rw [QE (fn:=a42) rfl]
 simp only [a42,Q0,guardOf,Q1,opd,JB,Z7,Zo,Env.get,Env.put,ZR,Qy,Z6,St.after,Env.keep,Jx,ZJ,unV,ZF,Zl,packed,Ob.fresh,ZX,okVar,cS,reduceCtorEq,QL,QH,QN,QZ,QU,QV,QG,QT,QM,hz,hb,byI,h1,h1',h2,Dz,Yt,h3,h6,Qg,Qv]
theorem Y8:Row .u32 (H++[Ob.fresh (QR ws)]) H.length 0 ws:=⟨_,GD,fun i x hx=>by rw [QB]; exact XO hx⟩
theorem SX {o:Ob}:Row .u32 (H++[⟨QR ws,true,true,true,1⟩,o]) H.length 0 ws:=⟨_,GD,fun i x hx=>by rw [QB]; exact XO hx⟩
def OW (l:List Nat):Value := .agg (u8s l).toArray
theorem lL:ZC 32 32 none none none=some (0,32,32):=rfl
theorem YG:∀ x∈dig 4294967296 n v,x<4294967296:=fun x hx=>KV (by decide) hx
theorem Mp {l:List Nat} (hl:l.length=32) (h:∀ x∈l,x<256):num 256 l<4294967296^8:=by
 have:=num_lt h
 rw [hl] at this
 rw [show (4294967296:Nat)^8=256^32 from by decide]; exact this
theorem IY (ha:Row .u8 H 0 0 a) (hb:Row .u8 H 1 0 b) (hc:Row .u8 H 2 0 c) (la:a.length=32) (lb:b.length=32) (lc:c.length=32)
 (xa:∀ x∈a,x<256) (xb:∀ x∈b,x<256) (xc:∀ x∈c,x<256) :
    ∃ k l l2,Zd T 119 [.slice (some ⟨0,0,none⟩) 32 32] H=some (.slice (some ⟨H.length,0,none⟩) 8 8,H++[Ob.fresh (QR (dig 4294967296 8 (num 256 a)))],[]) ∧
      (let H5:=H++[Ob.fresh (QR (dig 4294967296 8 (num 256 a)))]
       let H6:=H5++[Ob.fresh (QR (dig 4294967296 8 (num 256 b)))]
       let H7:=H6++[Ob.fresh (QR (dig 4294967296 16 (num 256 a*num 256 b)))]
       let H8:=H7++[Ob.fresh (QR (dig 4294967296 8 (num 256 c)))]
       let H10:=H8++[⟨QR (dig 4294967296 17 (num 256 a*num 256 b+num 256 c)),true,true,true,1⟩,⟨[.int .u32 0],true,true,true,1⟩]
       Zd T 119 [.slice (some ⟨1,0,none⟩) 32 32] H5=some (.slice (some ⟨H5.length,0,none⟩) 8 8,H6,[]) ∧
       Zd T 146 [.slice (some ⟨H.length,0,none⟩) 8 8,.slice (some ⟨H5.length,0,none⟩) 8 8] H6=some (.slice (some ⟨H6.length,0,none⟩) 16 16,H7,[]) ∧
       Zd T 119 [.slice (some ⟨2,0,none⟩) 32 32] H7=some (.slice (some ⟨H7.length,0,none⟩) 8 8,H8,[]) ∧
       Zd T 147 [.slice (some ⟨H6.length,0,none⟩) 16 16,.slice (some ⟨H7.length,0,none⟩) 8 8] H8=some (.slice (some ⟨H8.length,0,none⟩) 17 17,H10,[]) ∧
       Zd T 148 [.slice (some ⟨H8.length,0,none⟩) 17 17] H10=some (.slice (some ⟨k,0,none⟩) 8 8,H10++l,[]) ∧
       Zd T 149 [.slice (some ⟨k,0,none⟩) 8 8] (H10++l)=some (OW (dig 256 32 ((num 256 a*num 256 b+num 256 c)%ell)),H10++l++l2,[])):=by
  have na:=Mp la xa
  have nb:=Mp lb xb
  have nc:=Mp lc xc
  have h1:=TY (c:=32) ha la (by decide) xa
  have h2:=TY (c:=32) (hb.app (l:=[Ob.fresh (QR (dig 4294967296 8 (num 256 a)))])) lb (by decide) xb
  have r1:=(Y8 (H:=H) (ws:=dig 4294967296 8 (num 256 a))).app (l:=[Ob.fresh (QR (dig 4294967296 8 (num 256 b)))])
  have r2:=Y8 (H:=H++[Ob.fresh (QR (dig 4294967296 8 (num 256 a)))]) (ws:=dig 4294967296 8 (num 256 b))
  have h3:=S8 (c1:=8) (c2:=8) r1 r2 (Zx _ _ _) (Zx _ _ _) (by decide) YG YG
  rw [XV (by decide),XV (by decide),QF na,QF nb] at h3
  have h4:=TY (c:=32) (((hc.app (l:=[Ob.fresh (QR (dig 4294967296 8 (num 256 a)))])).app (l:=[Ob.fresh (QR (dig 4294967296 8 (num 256 b)))])).app (l:=[Ob.fresh (QR (dig 4294967296 16 (num 256 a*num 256 b)))])) lc (by decide) xc
  have r3:=(Y8 (H:=H++[Ob.fresh (QR (dig 4294967296 8 (num 256 a)))]++[Ob.fresh (QR (dig 4294967296 8 (num 256 b)))]) (ws:=dig 4294967296 16 (num 256 a*num 256 b))).app (l:=[Ob.fresh (QR (dig 4294967296 8 (num 256 c)))])
  have r4:=Y8 (H:=H++[Ob.fresh (QR (dig 4294967296 8 (num 256 a)))]++[Ob.fresh (QR (dig 4294967296 8 (num 256 b)))]++[Ob.fresh (QR (dig 4294967296 16 (num 256 a*num 256 b)))]) (ws:=dig 4294967296 8 (num 256 c))
  have h5:=fO (c1:=16) (c2:=8) r3 r4 (Zx _ _ _) (Zx _ _ _) (by decide) (by decide) (by decide) YG YG
  have nab:num 256 a*num 256 b<4294967296^16:=by
    rw [show (4294967296:Nat)^16=4294967296^8*4294967296^8 from by decide]
    exact Nat.mul_lt_mul'' na nb
  rw [XV (by decide),XV (by decide),QF nab,QF nc] at h5
  have r5:=SX (H:=H++[Ob.fresh (QR (dig 4294967296 8 (num 256 a)))]++[Ob.fresh (QR (dig 4294967296 8 (num 256 b)))]++[Ob.fresh (QR (dig 4294967296 16 (num 256 a*num 256 b)))]++[Ob.fresh (QR (dig 4294967296 8 (num 256 c)))]) (ws:=dig 4294967296 17 (num 256 a*num 256 b+num 256 c)) (o:=⟨[.int .u32 0],true,true,true,1⟩)
  obtain ⟨k,l,h6,r6⟩:=Lc (cap:=17) r5 (Zx _ _ _) (by decide) (by decide) YG
  have nabc:num 256 a*num 256 b+num 256 c<4294967296^17:=by
    have:(4294967296:Nat)^16+4294967296^8≤4294967296^17:=by decide
    omega
  rw [XV (by decide),QF nabc] at r6
  obtain ⟨l2,h7⟩:=Hb (cap:=8) r6
  exact ⟨k,l,l2,h1,h2,h3,h4,h5,h6,h7⟩
theorem OM (la:a.length=32) (lb:b.length=32) (lc:c.length=32) (xa:∀ x∈a,x<256) (xb:∀ x∈b,x<256) (xc:∀ x∈c,x<256) :
  ∃ l,Zd T 85 [OW a,OW b,OW c] []=some (OW (dig 256 32 ((num 256 a*num 256 b+num 256 c)%ell)),l,[]):=by
 have hz:Qc 32 (Value.int .u8 0)=u8s (dig 256 32 0):=rfl
 obtain ⟨H,hH⟩:∃ H:List Ob,H=[⟨u8s a,true,true,true,1⟩,⟨u8s b,true,true,true,1⟩,⟨u8s c,true,true,true,1⟩,⟨u8s (dig 256 32 0),true,true,true,1⟩]:=⟨_,rfl⟩
 have ra:Row .u8 H 0 0 a:=by subst hH; exact ⟨_,rfl,fun i x hx=>by rw [QB]; exact Jt hx⟩
 have rb:Row .u8 H 1 0 b:=by subst hH; exact ⟨_,rfl,fun i x hx=>by rw [QB]; exact Jt hx⟩
 have rc:Row .u8 H 2 0 c:=by subst hH; exact ⟨_,rfl,fun i x hx=>by rw [QB]; exact Jt hx⟩
 obtain ⟨k,l,l2,h1,h2,h3,h4,h5,h6,h7⟩:=IY ra rb rc la lb lc xa xb xc
 generalize hR:dig 256 32 ((num 256 a*num 256 b+num 256 c)%ell)=R at *
 have lR:(u8s R).length=32:=by rw [Qp,←hR,Zx]
 generalize hH5:H++[Ob.fresh (QR (dig 4294967296 8 (num 256 a)))]=H5 at h1 h2 h3 h4 h5 h6 h7
 generalize hH6:H5++[Ob.fresh (QR (dig 4294967296 8 (num 256 b)))]=H6 at h2 h3 h4 h5 h6 h7
 generalize hH7:H6++[Ob.fresh (QR (dig 4294967296 16 (num 256 a*num 256 b)))]=H7 at h3 h4 h5 h6 h7
 generalize hH8:H7++[Ob.fresh (QR (dig 4294967296 8 (num 256 c)))]=H8 at h4 h5 h6 h7
 generalize hH10:H8++[⟨QR (dig 4294967296 17 (num 256 a*num 256 b+num 256 c)),true,true,true,1⟩,⟨[.int .u32 0],true,true,true,1⟩]=H10 at h5 h6 h7
 generalize hH11:H10++l=H11 at h6 h7
 generalize hG:H11++l2=G at h7
 obtain ⟨t,hGt⟩:∃ t,G=⟨u8s a,true,true,true,1⟩::⟨u8s b,true,true,true,1⟩::⟨u8s c,true,true,true,1⟩::⟨u8s (dig 256 32 0),true,true,true,1⟩::t:=by
  rw [←hG,←hH11,←hH10,←hH8,←hH7,←hH6,←hH5,hH]; exact ⟨_,rfl⟩
 have hst:storeAt G ⟨3,0,none⟩ (u8s R)=some (⟨u8s a,true,true,true,1⟩::⟨u8s b,true,true,true,1⟩::⟨u8s c,true,true,true,1⟩::⟨u8s R,true,true,true,1⟩::t):=by
  rw [hGt]
  have h8:=Kh (H:=[⟨u8s a,true,true,true,1⟩,⟨u8s b,true,true,true,1⟩,⟨u8s c,true,true,true,1⟩]) (r:=t) (cs:=u8s (dig 256 32 0)) (e:=true) (s:=1) (off:=0) (v:=u8s R) (by rw [lR,Qp,Zx]; omega)
  rw [W9 (by rw [lR,Qp,Zx])] at h8
  exact h8
 have hlv:liveAt (⟨u8s a,true,true,true,1⟩::⟨u8s b,true,true,true,1⟩::⟨u8s c,true,true,true,1⟩::⟨u8s R,true,true,true,1⟩::t) 3=some ⟨u8s R,true,true,true,1⟩:=rfl
 have h9:((u8s R).drop 0).take 32=u8s R:=by rw [JT,Qu (by omega)]
 refine ⟨⟨u8s a,true,true,true,1⟩::⟨u8s b,true,true,true,1⟩::⟨u8s c,true,true,true,1⟩::⟨u8s R,true,true,true,1⟩::t,?_⟩
 rw [QE (fn:=a19) rfl]
 simp only [OW] at h7 ⊢
 simp only [a19,Q0,guardOf,Q1,opd,JB,Z7,Zo,Env.get,Env.put,ZR,Qy,Z6,St.after,Env.keep,Jx,ZJ,unV,ZF,Zl,packed,Ob.fresh,ZX,okVar,cS,reduceCtorEq,QL,QH,QN,QZ,QU,QV,QG,QT,QM,hz,←hH,lL,h1,h2,h3,h4,h5,h6,h7,lR,hst,hlv,h9]
def k1 (n:Nat):List Nat:=n::Qc 31 0
def K7 (a:List Nat) (x y:Nat):List Nat:=(a.set 0 (x&&&248)).set 31 ((y&&&127)|||64)
theorem kH {a b:Nat} (h:a<256):a&&&b<256:=J4 Nat.and_le_left h
theorem d7 (la:a.length=32) (hx:a[0]?=some x) (hy:a[31]?=some y) (hx':x<256) (hy':y<256) :
  ∃ l,Zd T 145 [.agg (u8s a).toArray] []=some (.agg (u8s (K7 a x y)).toArray,l,[]):=by
 have hz:Qc 32 (Value.int .u8 0)=u8s (dig 256 32 0):=rfl
 have hxc:=Jt hx
 have hyc:=Jt (l:=a.set 0 (x&&&248)) (i:=31) (x:=y) (by rw [Qm (by decide)]; exact hy)
 have e1:Zs .and .u8 (x:Int) 248=((x&&&248:Nat):Int):=VE (k := .u8) (a:=x) (b:=248) rfl hx' (by decide)
 have e2:Zs .and .u8 (y:Int) 127=((y&&&127:Nat):Int):=VE (k := .u8) (a:=y) (b:=127) rfl hy' (by decide)
 have e3:Zs .or .u8 ((y&&&127:Nat):Int) 64=(((y&&&127)|||64:Nat):Int):=KA (k := .u8) (a:=y&&&127) (b:=64) rfl (kH hy') (by decide)
 have l1:(u8s a).length=32:=by rw [Qp,la]
 have l2:(u8s (a.set 0 (x&&&248))).length=32:=by rw [Qp,Qo,la]
 have l3:(u8s (K7 a x y)).length=32:=by rw [Qp,K7,Qo,Qo,la]
 have s1:=Kh (H:=[]) (r:=[⟨u8s (dig 256 32 0),true,true,true,1⟩]) (cs:=u8s a) (e:=true) (s:=1) (off:=0) (v:=[.int .u8 ((x&&&248:Nat):Int)]) (by rw [l1]; simp)
 rw [Xz,XE] at s1
 have s2:=Kh (H:=[]) (r:=[⟨u8s (dig 256 32 0),true,true,true,1⟩]) (cs:=u8s (a.set 0 (x&&&248))) (e:=true) (s:=1) (off:=31) (v:=[.int .u8 (((y&&&127)|||64:Nat):Int)]) (by rw [l2]; simp)
 rw [Xz,XE] at s2
 have s3:=CP (H:=[]) (a:=⟨u8s (K7 a x y),true,true,true,1⟩) (r:=[]) (cs:=u8s (dig 256 32 0)) (e:=true) (s:=1) (off:=0) (v:=u8s (K7 a x y)) (by rw [l3,Qp,Zx]; decide)
 rw [W9 (by rw [l3,Qp,Zx])] at s3
 have t3:((u8s (K7 a x y)).drop 0).take 32=u8s (K7 a x y):=by rw [JT,Qu (by omega)]
 have v0:∀ (p q:List Value),liveAt [⟨p,true,true,true,1⟩,⟨q,true,true,true,1⟩] 0=some ⟨p,true,true,true,1⟩:=fun _ _=>rfl
 have v1:∀ (p q:List Value),liveAt [⟨p,true,true,true,1⟩,⟨q,true,true,true,1⟩] 1=some ⟨q,true,true,true,1⟩:=fun _ _=>rfl
 have i0:((0:Int)<((32:Nat):Int)):=by decide
 have i31:((31:Int)<((32:Nat):Int)):=by decide
 simp only [Qr,Z3] at s1 s2 s3
 rw [show (a.set 0 (x&&&248)).set 31 ((y&&&127)|||64)=K7 a x y from rfl] at s2
 simp only [QB] at s3
 refine ⟨[⟨u8s (K7 a x y),true,true,true,1⟩,⟨u8s (K7 a x y),true,true,true,1⟩],?_⟩
 rw [QE (fn:=a16) rfl]
 simp only [a16,Q0,guardOf,Q1,opd,JB,Z7,Zo,Env.get,Env.put,ZR,Qy,Z6,St.after,Env.keep,Jx,ZJ,unV,ZF,Zl,packed,Ob.fresh,ZX,okVar,cS,reduceCtorEq,QL,QH,QN,QZ,QU,QV,QG,QT,QM,hz,hxc,hyc,e1,e2,e3,i0,i31,v0,v1,s1,s2,l3,t3,s3]
theorem Ng (b:Bool):rf (.bool b)=true:=rfl
theorem v0 (p q:List Value):liveAt [⟨p,true,true,true,1⟩,⟨q,true,true,true,1⟩] 0=some ⟨p,true,true,true,1⟩:=rfl
theorem v1 (p q:List Value):liveAt [⟨p,true,true,true,1⟩,⟨q,true,true,true,1⟩] 1=some ⟨q,true,true,true,1⟩:=rfl
structure LessInv (k:Nat) (ws os:List Nat) (b:Nat):Prop where
 ble:b≤1
 eq:∃ z,z<4294967296^k∧num 4294967296 (ws.take k)+b*4294967296^k=num 4294967296 (os.take k)+z
theorem LessInv.step {k b x y:Nat} {ws os:List Nat} (h:LessInv k ws os b) (hx:ws[k]?=some x) (hy:os[k]?=some y) (hx':x<4294967296) (hy':y<4294967296):LessInv (k+1) ws os (B4 x y b):=by
 have hb:=h.ble
 have hd:B2 x y b<4294967296∧x+4294967296*B4 x y b=y+b+B2 x y b∧B4 x y b≤1:=by
  unfold B2 B4; split<;>omega
 refine ⟨hd.2.2,?_⟩
 obtain ⟨z,hz,h2⟩:=h.eq
 rw [XP hx,XP hy]
 have h3:=hd.2.1
 have h4:=hd.1
 generalize B2 x y b=d,B4 x y b=q at *
 refine ⟨z+d*4294967296^k,?_,?_⟩
 ·have:(d+1)*4294967296^k≤4294967296*4294967296^k:=JM _ h4
  rw [Zy,X9] at this
  rw [Z4,Z2 (4294967296^k)]
  omega
 ·have e2:q*4294967296^(k+1)=4294967296*q*4294967296^k:=by
   rw [Z4]; simp only [Jl,Jy,Z2]
  have e3:(x+4294967296*q)*4294967296^k=(y+b+d)*4294967296^k:=by rw [h3]
  rw [Zy,Zy,Zy] at e3
  rw [e2]
  omega
def GF (H:List Ob) (s1 s2:Value) (n b k:Nat) (ex:Env):St:=⟨[(0,s1),(1,s2),(5,.int .u32 b),(8,.int .i64 n),(9,.int .i64 k)]++ex,H,[]⟩
theorem OT {b k:Nat} (hr1:Row .u32 H id1 off1 ws) (hr2:Row .u32 H id2 off2 os) (hN:n<2^40) (hk:k<n) (hx:ws[k]?=some x) (hy:os[k]?=some y) (hx':x<4294967296) (hy':y<4294967296) (hb:b≤1) :
  Q8 T H.length Ta (GF H (.slice (some ⟨id1,off1,none⟩) n c1) (.slice (some ⟨id2,off2,none⟩) n c2) n b k [])=some (.normal,GF H (.slice (some ⟨id1,off1,none⟩) n c1) (.slice (some ⟨id2,off2,none⟩) n c2) n (B4 x y b) (k+1) []):=by
 obtain ⟨o1,ho1,hc1⟩:=hr1
 obtain ⟨o2,ho2,hc2⟩:=hr2
 have hxc:=hc1 k x hx
 have hyc:=hc2 k y hy
 have h1:((k:Int)<(n:Int)):=by omega
 have hsub:=MP hx' hy' hb
 have e10:IntKind.i64.wrap ((k:Int)+1)=((k+1:Nat):Int):=Jf (n:=k+1) (by omega)
 simp only [GF,Ta,Q0,guardOf,Q1,opd,JB,Z7,Zo,Env.get,Env.put,ZR,Qy,Z6,St.after,Env.keep,Jx,ZJ,unV,ZF,Zl,packed,Ob.fresh,ZX,okVar,cS,reduceCtorEq,QL,QH,QN,QZ,QU,QV,QG,QT,QM,h1,ho1,ho2,hxc,hyc,hsub,e10]
theorem gZ (hr1:Row .u32 H id1 off1 ws) (hr2:Row .u32 H id2 off2 os) (hn:ws.length=n) (hm:os.length=n) (hN:n<2^40) (hws:∀ x∈ws,x<4294967296) (hos:∀ x∈os,x<4294967296) :
  Zd T 120 [.slice (some ⟨id1,off1,none⟩) n c1,.slice (some ⟨id2,off2,none⟩) n c2] H=some (.bool (decide (num 4294967296 ws<num 4294967296 os)),H,[]):=by
 obtain ⟨s',hb,b,rfl,hinv⟩:=Zc (T:=T) (base:=H.length) (id:=0) (body:=Ta)
  (fun k s=>∃ b,s=GF H (.slice (some ⟨id1,off1,none⟩) n c1) (.slice (some ⟨id2,off2,none⟩) n c2) n b k []∧LessInv k ws os b)
  (Q:=fun s=>∃ b,s=GF H (.slice (some ⟨id1,off1,none⟩) n c1) (.slice (some ⟨id2,off2,none⟩) n c2) n b n [(10,.bool false)]∧LessInv n ws os b)
  n (s:=GF H (.slice (some ⟨id1,off1,none⟩) n c1) (.slice (some ⟨id2,off2,none⟩) n c2) n 0 0 []) ⟨_,rfl,⟨by decide,0,by decide,by simp [num]⟩⟩
  (fun k s hk hs=>by
   obtain ⟨b,rfl,hI⟩:=hs
   obtain ⟨x,hx⟩:∃ x,ws[k]?=some x:=⟨_,Qh (by omega)⟩
   obtain ⟨y,hy⟩:∃ y,os[k]?=some y:=⟨_,Qh (by omega)⟩
   have hx':=hws x (Qz hx)
   have hy':=hos y (Qz hy)
   exact ⟨_,OT hr1 hr2 hN hk hx hy hx' hy' hI.ble,_,rfl,hI.step hx hy hx' hy'⟩)
  (fun s hs=>by
   obtain ⟨b,rfl,hI⟩:=hs
   have h1:¬ ((n:Int)<(n:Int)):=by omega
   refine ⟨_,?_,b,rfl,hI⟩
   simp only [GF,Ta,Q0,guardOf,Q1,opd,JB,Z7,Zo,Env.get,Env.put,ZR,Qy,Z6,St.after,Env.keep,Jx,ZJ,unV,ZF,Zl,packed,Ob.fresh,ZX,okVar,cS,reduceCtorEq,QL,QH,QN,QZ,QU,QV,QG,QT,QM,h1])
 rw [show GF H (.slice (some ⟨id1,off1,none⟩) n c1) (.slice (some ⟨id2,off2,none⟩) n c2) n 0 0 []=⟨[(0,.slice (some ⟨id1,off1,none⟩) n c1),(1,.slice (some ⟨id2,off2,none⟩) n c2),(5,.int .u32 0),(8,.int .i64 n),(9,.int .i64 0)],H,[]⟩ from rfl] at hb
 obtain ⟨z,hz,h2⟩:=hinv.eq
 rw [Qu (by omega),Qu (by omega)] at h2
 have h3:=num_lt hws
 rw [hn] at h3
 have hble:=hinv.ble
 have hres:(((b:Nat):Int)==1)=decide (num 4294967296 ws<num 4294967296 os):=by
  rcases Zm 0 b with h | h
  ·have hb1:b=1:=by omega
   subst hb1
   have:num 4294967296 ws<num 4294967296 os:=by omega
   simp [this]
  ·have hb0:b=0:=by omega
   subst hb0
   have:¬ num 4294967296 ws<num 4294967296 os:=by omega
   simp [this]
 rw [QE (fn:=a46) rfl]
 simp only [a46,Q0,guardOf,Q1,opd,JB,Z7,Zo,Env.get,Env.put,ZR,Qy,Z6,St.after,Env.keep,Jx,ZJ,unV,ZF,Zl,packed,Ob.fresh,ZX,okVar,cS,reduceCtorEq,QL,QH,QN,QZ,QU,QV,QG,QT,QM,hb,GF,hres]
theorem Cx (la:a.length=32) (xa:∀ x∈a,x<256):∃ l,Zd T 63 [.agg (u8s a).toArray] []=some (.bool (decide (num 256 a<ell)),l,[]):=by
 obtain ⟨H,hH⟩:∃ H:List Ob,H=[⟨u8s a,true,true,true,1⟩]:=⟨_,rfl⟩
 have ra:Row .u8 H 0 0 a:=by subst hH; exact ⟨_,rfl,fun i x hx=>by rw [QB]; exact Jt hx⟩
 have h1:=TY (c:=32) ra la (by decide) xa
 have r1:=(Y8 (H:=H) (ws:=dig 4294967296 8 (num 256 a))).app (l:=[Ob.fresh (QR orderW)])
 have h2:=Rt (H++[Ob.fresh (QR (dig 4294967296 8 (num 256 a)))])
 have r2:=Y8 (H:=H++[Ob.fresh (QR (dig 4294967296 8 (num 256 a)))]) (ws:=orderW)
 have h3:=gZ (c1:=8) (c2:=8) r1 r2 (Zx _ _ _) rfl (by decide) YG Gy
 rw [XV (by decide),QF (Mp la xa),NH] at h3
 change Zd T 119 _ H=some (.slice (some ⟨H.length,0,none⟩) 8 8,H++[Ob.fresh (QR (dig 4294967296 8 (num 256 a)))],[]) at h1
 generalize hH5:H++[Ob.fresh (QR (dig 4294967296 8 (num 256 a)))]=H5 at h1 h2 h3
 generalize hH6:H5++[Ob.fresh (QR orderW)]=H6 at h2 h3
 refine ⟨H6,?_⟩
 rw [QE (fn:=a21) rfl]
 simp only [a21,Q0,guardOf,Q1,opd,JB,Z7,Zo,Env.get,Env.put,ZR,Qy,Z6,St.after,Env.keep,Jx,ZJ,unV,ZF,Zl,packed,Ob.fresh,ZX,okVar,cS,reduceCtorEq,QL,QH,QN,QZ,QU,QV,QG,QT,QM,←hH,lL,h1,h2,h3]
def eb (k:IntKind) (H:List Ob) (id off:Nat) (ps:List (List Nat)):Prop :=
 ∃ o,liveAt H id=some o∧∀ (i:Nat) (p:List Nat),ps[i]?=some p→∃ v,o.cells[off+i]?=some v∧Sl k H v p
def AL (R s pv:Value) (n i:Nat) (H:List Ob) (ex:Env):St:=⟨[(2,R),(3,s),(6,pv),(7,.int .i64 n),(8,.int .i64 i)]++ex,H,[]⟩
theorem Al (h:ps[i]?=some p):(ps.take (i+1)).flatten=(ps.take i).flatten++p:=by
 rw [ZG,h]; simp
theorem cR (h:ps[i]?=some p):(ps.take i).flatten.length+p.length≤ps.flatten.length:=by
 have h1:=congrArg List.length (Al h)
 rw [Qg] at h1
 rw [←h1]
 conv=>rhs; rw [←List.take_append_drop (i+1) ps,List.flatten_append,Qg]
 omega
theorem aB {Hc:List Ob} {R:Value} {c:Nat} (hp:eb .u8 H id off ps) (hi:i<n) (hN:n<2^40) (hpi:ps[i]?=some p) (hS:ps.flatten.length≤2^40)
 (hB:H.length+1≤Hc.length) (hc:∀ j,j<H.length→Hc[j]?=H[j]?) (hg:Grown .u8 (H.length+1) Hc s ((ps.take i).flatten)) :
    ∃ s' H',Q8 T H.length Tg (AL R s (.slice (some ⟨id,off,none⟩) n c) n i Hc [])=some (.normal,AL R s' (.slice (some ⟨id,off,none⟩) n c) n (i+1) H' []) ∧
      H.length+1≤H'.length∧(∀ j,j<H.length+1→H'[j]?=Hc[j]?)∧Grown .u8 (H.length+1) H' s' ((ps.take (i+1)).flatten):=by
  obtain ⟨o,ho,hps⟩:=hp
  obtain ⟨v,hv,hsl⟩:=hps i p hpi
  have ho':liveAt Hc id=some o:=by rw [GC (hc _ (Ad ho))]; exact ho
  have hsl':=hsl.congr hc
  have hlen:=cR hpi
  obtain ⟨s',H',M,ha,hg',hM,hL,hK⟩:=hg.append (bytes:=1) hB hsl'.lenV hsl'.elems (by omega) (by decide)
  have h1:((i:Int)<(n:Int)):=by omega
  have e10:IntKind.i64.wrap ((i:Int)+1)=((i+1:Nat):Int):=Jf (n:=i+1) (by omega)
  have hm:Qy H.length [] M=[]:=QD fun j hj=>by have:=hM j hj; omega
  refine ⟨s',H',?_,by omega,hK,by rw [Al hpi]; exact hg'⟩
  simp only [AL,Tg,Q0,guardOf,Q1,opd,JB,Z7,Zo,Env.get,Env.put,ZR,Qy,Z6,St.after,Env.keep,Jx,ZJ,unV,ZF,Zl,packed,Ob.fresh,ZX,okVar,cS,reduceCtorEq,QL,QH,QN,QZ,QU,QV,QG,QT,QM,h1,ho',hv,e10,ha,hm]
theorem of_nil (H:List Ob):Zd T 119 [.slice none 0 0] H=some (.slice (some ⟨H.length,0,none⟩) 0 0,H++[Ob.fresh []],[]):=by
 have hl:Q8 T H.length (.loop Gk) ⟨[(3,.slice (some ⟨H.length,0,none⟩) 0 0),(11,.slice none 0 0),(12,.int .i64 0),(13,.int .i64 0)],H++[⟨[],true,true,true,1⟩],[]⟩=some (.exit 0,⟨[(3,.slice (some ⟨H.length,0,none⟩) 0 0),(11,.slice none 0 0),(12,.int .i64 0),(13,.int .i64 0),(14,.bool false)],H++[⟨[],true,true,true,1⟩],[]⟩):=by
  rw [J9]
  simp only [Gk,Q0,guardOf,Q1,opd,JB,Z7,Zo,Env.get,Env.put,ZR,Qy,Z6,St.after,Env.keep,Jx,ZJ,unV,ZF,Zl,packed,Ob.fresh,ZX,okVar,cS,reduceCtorEq,QL,QH,QN,QZ,QU,QV,QG,QT,QM,cL,QV,QU,BF,BE,B9,Uk,Uj,BD,QG,HN,HO,BC,QL,QN,QM,B8,B7,B6,QT,Y3]
 rw [QE (fn:=a40) rfl]
 simp only [a40,Q0,guardOf,Q1,opd,JB,Z7,Zo,Env.get,Env.put,ZR,Qy,Z6,St.after,Env.keep,Jx,ZJ,unV,ZF,Zl,packed,Ob.fresh,ZX,okVar,cS,reduceCtorEq,QL,QH,QN,QZ,QU,QV,QG,QT,QM,cL,QV,QU,BF,BE,B9,Uk,Uj,BD,QG,HN,HO,BC,QL,QN,QM,B8,B7,B6,QT,Y3,List.replicate_zero,List.flatten_nil,hl]
theorem gT (H:List Ob) (id:Nat):Zd T 148 [.slice (some ⟨id,0,none⟩) 0 0] H=some (.slice (some ⟨H.length,0,none⟩) 8 8,H++[⟨QR (dig 4294967296 8 0),true,true,true,1⟩,⟨QR orderW,true,true,true,1⟩,⟨QR (dig 4294967296 8 0),true,true,true,1⟩],[]):=by
 have hz:(Qc 8 [Value.int .u32 0]).flatten=QR (dig 4294967296 8 0):=rfl
 have ho:=Rt (H++[⟨QR (dig 4294967296 8 0),true,true,true,1⟩])
 have hl:Q8 T H.length (.loop Vl) ⟨[(0,.slice (some ⟨id,0,none⟩) 0 0),(3,.slice (some ⟨H.length,0,none⟩) 8 8),(4,.slice (some ⟨H.length+1,0,none⟩) 8 8),(5,.slice (some ⟨H.length+2,0,none⟩) 8 8),(6,.int .i64 (-1))],H++[⟨QR (dig 4294967296 8 0),true,true,true,1⟩,⟨QR orderW,true,true,true,1⟩,⟨QR (dig 4294967296 8 0),true,true,true,1⟩],[]⟩=some (.exit 0,⟨[(0,.slice (some ⟨id,0,none⟩) 0 0),(3,.slice (some ⟨H.length,0,none⟩) 8 8),(4,.slice (some ⟨H.length+1,0,none⟩) 8 8),(5,.slice (some ⟨H.length+2,0,none⟩) 8 8),(6,.int .i64 (-1)),(19,.bool false)],H++[⟨QR (dig 4294967296 8 0),true,true,true,1⟩,⟨QR orderW,true,true,true,1⟩,⟨QR (dig 4294967296 8 0),true,true,true,1⟩],[]⟩):=by
  rw [J9]
  have e:((0:Int) ≤ -1)=False:=by decide
  simp only [Vl,Q0,guardOf,Q1,opd,JB,Z7,Zo,Env.get,Env.put,ZR,Qy,Z6,St.after,Env.keep,Jx,ZJ,unV,ZF,Zl,packed,Ob.fresh,ZX,okVar,cS,reduceCtorEq,QL,QH,QN,QZ,QU,QV,QG,QT,QM,cL,QV,QU,BF,BE,B9,Uk,Uj,BD,QG,HN,HO,BC,QL,QN,QM,B8,B7,B6,QT,Y3,e]
 rw [QE (fn:=a41) rfl]
 simp only [a41,Q0,guardOf,Q1,opd,JB,Z7,Zo,Env.get,Env.put,ZR,Qy,Z6,St.after,Env.keep,Jx,ZJ,unV,ZF,Zl,packed,Ob.fresh,ZX,okVar,cS,reduceCtorEq,QL,QH,QN,QZ,QU,QV,QG,QT,QM,cL,QV,QU,BF,BE,B9,Uk,Uj,BD,QG,HN,HO,BC,QL,QN,QM,B8,B7,B6,QT,Y3,hz,ho,hl,Qg,Qv,Zi,Ob.fresh]
theorem Oq (h:H[id]?=some (Ob.fresh (ns .u8 bs))):Row .u8 H id 0 bs :=
 ⟨_,QW h rfl,fun i x hx=>by rw [QB]; exact Jo hx⟩
theorem Oo (h:H[id]?=some (Ob.grown 1 (ns .u8 bs))):Row .u8 H id 0 bs :=
 ⟨_,QW h rfl,fun i x hx=>by rw [QB]; exact Jo hx⟩
theorem aA {B:Nat} (hg:Grown .u8 B H s bs) (hb:∀ x∈bs,x<256) (hN:bs.length<2^40) :
  ∃ v1 v2 l1 l2 l3,Zd T 119 [s] H=some (v1,H++l1,[])∧Zd T 148 [v1] (H++l1)=some (v2,H++l1++l2,[])∧Zd T 149 [v2] (H++l1++l2)=some (.agg (u8s (dig 256 32 (num 256 bs%ell))).toArray,H++l1++l2++l3,[]):=by
 cases hg with
 | nil =>
  have h1:=of_nil H
  have h2:=gT (H++[Ob.fresh []]) H.length
  have r:Row .u32 (H++[Ob.fresh []]++[⟨QR (dig 4294967296 8 0),true,true,true,1⟩,⟨QR orderW,true,true,true,1⟩,⟨QR (dig 4294967296 8 0),true,true,true,1⟩]) (H++[Ob.fresh []]).length 0 (dig 4294967296 8 0) :=
   ⟨_,GD,fun i x hx=>by rw [QB]; exact XO hx⟩
  obtain ⟨l3,h3⟩:=Hb (cap:=8) r
  exact ⟨_,_,_,_,l3,h1,h2,h3⟩
 | @own id _ g1 g2 g3 =>
  have h1:=TY (c:=bs.length) (Oo g3) rfl hN hb
  have hlt:num 256 bs<4294967296^((bs.length+3)/4):=by
   refine QJ (num_lt hb) ?_
   rw [show (4294967296:Nat)=256^4 from by decide,←Jj]
   exact Zp (by decide) (by omega)
  obtain ⟨k,l2,h2,r2⟩:=Lc (cap:=(bs.length+3)/4) (Y8 (H:=H) (ws:=dig 4294967296 ((bs.length+3)/4) (num 256 bs))) (Zx _ _ _) (by omega) (by omega) YG
  rw [XV (by decide),QF hlt] at r2
  obtain ⟨l3,h3⟩:=Hb (cap:=8) r2
  exact ⟨_,_,_,l2,l3,h1,h2,h3⟩
 | @new id _ g1 g2 g3 =>
  have h1:=TY (c:=bs.length) (Oq g3) rfl hN hb
  have hlt:num 256 bs<4294967296^((bs.length+3)/4):=by
   refine QJ (num_lt hb) ?_
   rw [show (4294967296:Nat)=256^4 from by decide,←Jj]
   exact Zp (by decide) (by omega)
  obtain ⟨k,l2,h2,r2⟩:=Lc (cap:=(bs.length+3)/4) (Y8 (H:=H) (ws:=dig 4294967296 ((bs.length+3)/4) (num 256 bs))) (Zx _ _ _) (by omega) (by omega) YG
  rw [XV (by decide),QF hlt] at r2
  obtain ⟨l3,h3⟩:=Hb (cap:=8) r2
  exact ⟨_,_,_,l2,l3,h1,h2,h3⟩
theorem Ov {c:Nat} (hp:eb .u8 H id off ps) (hn:ps.length=n) (hN:n<2^40) (hS:ps.flatten.length<2^40) (hb:∀ x∈ps.flatten,x<256) :
  ∃ l,Zd T 123 [.slice (some ⟨id,off,none⟩) n c] H=some (.agg (u8s (dig 256 32 (num 256 ps.flatten%ell))).toArray,H++l,[]):=by
 have hz:Qc 32 (Value.int .u8 0)=u8s (dig 256 32 0):=rfl
 obtain ⟨s',hb1,s,Hc,rfl,hL,hK,hg⟩:=Zc (T:=T) (base:=H.length) (id:=0) (body:=Tg)
  (fun i st=>∃ s Hc,st=AL (.pointer (some ⟨H.length,0,none⟩)) s (.slice (some ⟨id,off,none⟩) n c) n i Hc []∧H.length+1≤Hc.length∧(∀ j,j<H.length+1→Hc[j]?=(H++[⟨u8s (dig 256 32 0),true,true,true,1⟩])[j]?)∧Grown .u8 (H.length+1) Hc s ((ps.take i).flatten))
  (Q:=fun st=>∃ s Hc,st=AL (.pointer (some ⟨H.length,0,none⟩)) s (.slice (some ⟨id,off,none⟩) n c) n n Hc [(9,.bool false)]∧H.length+1≤Hc.length∧(∀ j,j<H.length+1→Hc[j]?=(H++[⟨u8s (dig 256 32 0),true,true,true,1⟩])[j]?)∧Grown .u8 (H.length+1) Hc s ps.flatten)
  n (s:=AL (.pointer (some ⟨H.length,0,none⟩)) (.slice none 0 0) (.slice (some ⟨id,off,none⟩) n c) n 0 (H++[⟨u8s (dig 256 32 0),true,true,true,1⟩]) []) ⟨_,_,rfl,by simp,fun _ _=>rfl,.nil⟩
  (fun i st hi hs=>by
   obtain ⟨s,Hc,rfl,hL,hK,hg⟩:=hs
   obtain ⟨p,hpi⟩:∃ p,ps[i]?=some p:=⟨_,Qh (by omega)⟩
   obtain ⟨s2,H2,h1,h2,h3,h4⟩:=aB (R := .pointer (some ⟨H.length,0,none⟩)) (c:=c) hp hi hN hpi (by omega) hL (fun j hj=>by rw [hK j (by omega),Qa hj]) hg
   exact ⟨_,h1,s2,H2,rfl,h2,fun j hj=>by rw [h3 j hj,hK j hj],h4⟩)
  (fun st hs=>by
   obtain ⟨s,Hc,rfl,hL,hK,hg⟩:=hs
   have h1:¬ ((n:Int)<(n:Int)):=by omega
   rw [Qu (by omega)] at hg
   refine ⟨_,?_,s,Hc,rfl,hL,hK,hg⟩
   simp only [AL,Tg,Q0,guardOf,Q1,opd,JB,Z7,Zo,Env.get,Env.put,ZR,Qy,Z6,St.after,Env.keep,Jx,ZJ,unV,ZF,Zl,packed,Ob.fresh,ZX,okVar,cS,reduceCtorEq,QL,QH,QN,QZ,QU,QV,QG,QT,QM,h1])
 obtain ⟨l0,hl0⟩:=XG (H:=H++[⟨u8s (dig 256 32 0),true,true,true,1⟩]) (H':=Hc) (by simpa using hL) (fun i hi=>hK i (by simpa using hi))
 obtain ⟨v1,v2,l1,l2,l3,h1,h2,h3⟩:=aA hg hb hS
 generalize hR:dig 256 32 (num 256 ps.flatten%ell)=R at *
 have lR:(u8s R).length=32:=by rw [Qp,←hR,Zx]
 have hst:storeAt (Hc++l1++l2++l3) ⟨H.length,0,none⟩ (u8s R)=some (H++⟨u8s R,true,true,true,1⟩::(l0++l1++l2++l3)):=by
  have h8:=Kh (H:=H) (r:=l0++l1++l2++l3) (cs:=u8s (dig 256 32 0)) (e:=true) (s:=1) (off:=0) (v:=u8s R) (by rw [lR,Qp,Zx]; omega)
  rw [W9 (by rw [lR,Qp,Zx])] at h8
  rw [hl0]
  simpa using h8
 generalize hH1:Hc++l1=H1 at h1 h2 h3 hst
 generalize hH2:H1++l2=H2 at h2 h3 hst
 generalize hH3:H2++l3=H3 at h3 hst
 have h9:((u8s R).drop 0).take 32=u8s R:=by rw [JT,Qu (by omega)]
 refine ⟨⟨u8s R,true,true,true,1⟩::(l0++l1++l2++l3),?_⟩
 rw [show AL (.pointer (some ⟨H.length,0,none⟩)) (.slice none 0 0) (.slice (some ⟨id,off,none⟩) n c) n 0 (H++[⟨u8s (dig 256 32 0),true,true,true,1⟩]) []=⟨[(2,.pointer (some ⟨H.length,0,none⟩)),(3,.slice none 0 0),(6,.slice (some ⟨id,off,none⟩) n c),(7,.int .i64 n),(8,.int .i64 0)],H++[⟨u8s (dig 256 32 0),true,true,true,1⟩],[]⟩ from rfl] at hb1
 rw [QE (fn:=a17) rfl]
 simp only [a17,Q0,guardOf,Q1,opd,JB,Z7,Zo,Env.get,Env.put,ZR,Qy,Z6,St.after,Env.keep,Jx,ZJ,unV,ZF,Zl,packed,Ob.fresh,ZX,okVar,cS,reduceCtorEq,QL,QH,QN,QZ,QU,QV,QG,QT,QM,cL,QV,QU,BF,BE,B9,Uk,Uj,BD,QG,HN,HO,BC,QL,QN,QM,B8,B7,B6,QT,Y3,hz,hb1,AL,h1,h2,h3,lR,hst,GD,h9]
end Go.Ev.YtomfgcgnepfmjaaGreat
namespace Go.Ev.YtomfgcgnepfmjaaGreat
open Go Go.Ev
attribute [local congr] Jq Jz Jp J2 Jb
set_option maxRecDepth 100000
variable {x y z:List Nat}
def mA (x y z:List Nat):List Nat:=dig 256 32 ((num 256 x*num 256 y+num 256 z)%ell)
def rd (x:List Nat):List Nat:=dig 256 32 (num 256 x%ell)
theorem nk:(mA x y z).length=32:=Zx _ _ _
theorem mB:(rd x).length=32:=Zx _ _ _
theorem mA_lt:∀ t∈mA x y z,t<256:=fun _ h=>KV (by decide) h
theorem rd_lt:∀ t∈rd x,t<256:=fun _ h=>KV (by decide) h
theorem nJ:ell≤256^32:=by decide
theorem EJ (v:Nat):num 256 (dig 256 32 (v%ell))=v%ell:=by
 rw [XV (by decide),QF (QJ (Q4 _ Cs) nJ)]
theorem mR (x y z:List Nat):num 256 (mA x y z)=(num 256 x*num 256 y+num 256 z)%ell:=EJ _
theorem OL {a b c:List Nat} (la:a.length=32) (lb:b.length=32) (lc:c.length=32) (xa:∀ x∈a,x<256) (xb:∀ x∈b,x<256) (xc:∀ x∈c,x<256) :
  ∃ l,Zd T 85 [.agg (u8s a).toArray,.agg (u8s b).toArray,.agg (u8s c).toArray] []=some (.agg (u8s (mA a b c)).toArray,l,[]):=OM la lb lc xa xb xc
def ordL:List Nat:=dig 256 32 ell
theorem fX:∀ x∈ordL,x<256:=fun _ h=>KV (by decide) h
theorem GH {k:IntKind} {B bytes:Nat} {H:List Ob} {s:Value} {bs:List Nat} {x:Nat} (h:Grown k B H s bs) (hB:B≤H.length) (hb:(bs.length+1)*bytes≤2^47) (hb0:0<bytes) :
  ∃ s' H' M,Zu 1 bytes (H++[⟨[.int k (x:Nat)],true,true,true,1⟩]) s (.slice (some ⟨H.length,0,none⟩) 1 1)=some (s',H',none,M)∧Grown k B H' s' (bs++[x])∧(∀ i∈M,B≤i)∧B≤H'.length∧∀ i,i<B→H'[i]?=H[i]? := by
 obtain ⟨s',H',M,h1,h2,h3,h4,h5⟩:=(h.app (l':=[⟨[.int k (x:Nat)],true,true,true,1⟩])).append (bytes:=bytes) (x := .slice (some ⟨H.length,0,none⟩) 1 1) (new:=[x]) (by simp; omega) rfl (by simp [elemsOf,liveAt,ns]) hb hb0
 refine ⟨s',H',M,h1,h2,h3,?_,fun i hi=>by rw [h5 i hi,Qa (by omega)]⟩
 simp at h4
 omega
def ord33:List Nat:=ordL++[0]
theorem bf:∀ x∈ord33,x<256:=by
 intro x hx
 simp only [ord33,QA,List.mem_singleton] at hx
 rcases hx with h | h
 ·exact fX x h
 ·omega
structure SubInv (k q:Nat) (r0 r:List Nat) (b:Nat):Prop where
 len:r.length=33
 lt:∀ x∈r,x<256
 ble:b≤q+1
 eq:num 256 (r0.take k)+b*256^k=num 256 (r.take k)+q*num 256 (ord33.take k)
 rest:r.drop k=r0.drop k
def nx (y q l b:Nat):Nat:=((y:Int)-q*l-b).toNat
def nb (y q l b:Nat):Nat:=(q*l+b-y+255)/256
theorem SubInv.step {k q b y l:Nat} {r0 r:List Nat} (h:SubInv k q r0 r b) (hk:k<33) (hy:r[k]?=some y) (hl:ord33[k]?=some l):SubInv (k+1) q r0 (r.set k (y+256*nb y q l b-(q*l+b))) (nb y q l b)∧y+256*nb y q l b-(q*l+b)<256∧q*l+b≤y+256*nb y q l b:=by
 have hy':=h.lt y (Qz hy)
 have hl':=bf l (Qz hl)
 have hb:=h.ble
 have hlen:=h.len
 have hnb:y+256*nb y q l b-(q*l+b)<256∧q*l+b≤y+256*nb y q l b:=by unfold nb; omega
 have hql:q*l≤q*255:=V0 q (by omega)
 have hnb2:nb y q l b≤q+1:=by unfold nb; omega
 have hy0:r0[k]?=some y:=by
  have h1:(r.drop k)[0]?=(r0.drop k)[0]? := by rw [h.rest]
  rwa [Zt,Zt,ZH,hy,eq_comm] at h1
 refine ⟨⟨by rw [Qo]; exact hlen,WA h.lt hnb.1,hnb2,?_,?_⟩,hnb⟩
 ·generalize nb y q l b=c at *
  obtain ⟨d,hd⟩:∃ d,y+256*c=q*l+b+d:=⟨y+256*c-(q*l+b),by omega⟩
  have hset:(r.set k d).take (k+1)=r.take k++[d]:=by
   rw [ZG,Qt (by omega),List.take_set_of_le (Qk k)]; rfl
  rw [show y+256*c-(q*l+b)=d by omega,hset,XP hy0,XP hl,WG]
  have hln:(r.take k).length=k:=by rw [Q7]; omega
  rw [hln]
  have he:=h.eq
  simp only [num,Nat.mul_zero,ZH]
  have e1:c*256^(k+1)=(256*c)*256^k:=by rw [Z4]; simp only [Jl,Jy,Z2]
  have e2:(y+256*c)*256^k=(q*l+b+d)*256^k:=by rw [hd]
  rw [Zy,Zy,Zy] at e2
  rw [e1,By,←Jl,Z2 (256^k) d]
  omega
 ·rw [List.drop_set_of_lt (by omega)]
  have h1:(r.drop k).drop 1=(r0.drop k).drop 1:=by rw [h.rest]
  rwa [X4,X4] at h1
end Go.Ev.YtomfgcgnepfmjaaGreat
namespace Go.Ev
def DV (bs:List Nat):Value := .string ⟨(bs.map UInt8.ofNat).toArray⟩
theorem FR:∀ (bs:List Nat),X2 (u8s bs)=some (bs.map UInt8.ofNat)
 | []=>rfl
 | x::r=>by
  have:=FR r
  simp only [u8s,Jg,X2,X5] at this ⊢
  rw [this]; rfl
end Go.Ev
namespace Go.Ev.YtomfgcgnepfmjaaGreat
open Go Go.Ev
attribute [local congr] Jq Jz Jp J2 Jb
set_option maxRecDepth 100000
end Go.Ev.YtomfgcgnepfmjaaGreat
namespace Go.Ev.YtomfgcgnepfmjaaGreat
open Go Go.Ev Go.Proofs
set_option maxRecDepth 100000
theorem Jh {n : Nat} {fn : Func} {a : AFun} (h : Tryz.prog.funcs[n]? = some fn) (e : (compFun Tryz.prog fn, fn.name == "runtime.NumGoroutine") = (some a.strip, false)) : ∃ fn, Tryz.prog.funcs[n]? = some fn ∧ compFun Tryz.prog fn = some a.strip ∧ (fn.name == "runtime.NumGoroutine") = false := ⟨fn, h, congrArg Prod.fst e, congrArg Prod.snd e⟩
theorem LA (args:Array Value) (w:World):(callFunc 205 args).run Tryz.prog w=(((do
  let (x, y, c) ← Extern.MathBitsCarry.three "Add64" args
  pure (Extern.MathBitsCarry.pair ((x+y+c)%Extern.MathBitsCarry.m64) ((x+y+c)/Extern.MathBitsCarry.m64))):Sem Value).run Tryz.prog w).andThen fun v w'=>.ok (.value v) w' :=
 run_callFunc_extern (e:=fun args=>do
  let (x, y, c) ← Extern.MathBitsCarry.three "Add64" args
  pure (Extern.MathBitsCarry.pair ((x+y+c)%Extern.MathBitsCarry.m64) ((x+y+c)/Extern.MathBitsCarry.m64))) Tryz.func205 (by kernel_rfl) (by kernel_rfl) (by kernel_rfl) (by kernel_rfl) args w
theorem Om (P:Program) (w:World) (x y c:Int) (hc:c.toNat≤1):(((do
  let (x, y, c) ← Extern.MathBitsCarry.three "Add64" [Value.int .u64 x, .int .u64 y, .int .u64 c].toArray
  pure (Extern.MathBitsCarry.pair ((x+y+c)%Extern.MathBitsCarry.m64) ((x+y+c)/Extern.MathBitsCarry.m64))):Sem Value).run P w)=.ok (.tuple #[.int .u64 ((x.toNat+y.toNat+c.toNat)%18446744073709551616:Nat),.int .u64 ((x.toNat+y.toNat+c.toNat)/18446744073709551616:Nat)]) w:=by
 have hc':¬ c.toNat>1:=by omega
 have e : Extern.MathBitsCarry.three "Add64" [Value.int .u64 x, .int .u64 y, .int .u64 c].toArray = (if c.toNat > 1 then (do unsupported (.noEntry ("extern/math/bits." ++ "Add64" ++ ": a carry that is neither 0 nor 1")); pure (x.toNat, y.toNat, c.toNat)) else pure (x.toNat, y.toNat, c.toNat) : Sem (Nat × Nat × Nat)) := by
  rfl
 rw [e,if_neg hc']
 rfl
theorem mq (f:Nat) (args:List Value) (v:Value) (h:T.ext f args=some v):(∀ ρ,VRel ρ v v)∧∀ w,(callFunc f args.toArray).run Tryz.prog w=.ok (.value v) w:=by
 have h':iG f args=some v:=h
 unfold iG at h'
 split at h'
 ·split at h'
  ·rename_i hc
   cases h'
   refine ⟨fun ρ=>VRel.tuple (.cons (.same rfl) (.cons (.same rfl) .nil)),fun w => ?_⟩
   rw [LA,Om _ _ _ _ _ hc]
   rfl
  ·cases h'
 ·cases h'
theorem kR:TabOk Tryz.prog T:=by
 refine ⟨fun f af h => ?_,fun f args v _ h _=>mq f args v h⟩
 have h':fnS f=some af:=h
 unfold fnS at h'
 split at h'
 ·cases h'; exact Jh Tryz.func145 (by kernel_rfl)
 ·cases h'; exact Jh Tryz.func123 (by kernel_rfl)
 ·cases h'; exact Jh Tryz.func85 (by kernel_rfl)
 ·cases h'; exact Jh Tryz.func63 (by kernel_rfl)
 ·cases h'; exact Jh Tryz.func66 (by kernel_rfl)
 ·cases h'; exact Jh Tryz.func67 (by kernel_rfl)
 ·cases h'; exact Jh Tryz.func65 (by kernel_rfl)
 ·cases h'; exact Jh Tryz.func116 (by kernel_rfl)
 ·cases h'; exact Jh Tryz.func69 (by kernel_rfl)
 ·cases h'; exact Jh Tryz.func118 (by kernel_rfl)
 ·cases h'; exact Jh Tryz.func61 (by kernel_rfl)
 ·cases h'; exact Jh Tryz.func68 (by kernel_rfl)
 ·cases h'; exact Jh Tryz.func62 (by kernel_rfl)
 ·cases h'; exact Jh Tryz.func119 (by kernel_rfl)
 ·cases h'; exact Jh Tryz.func148 (by kernel_rfl)
 ·cases h'; exact Jh Tryz.func149 (by kernel_rfl)
 ·cases h'; exact Jh Tryz.func146 (by kernel_rfl)
 ·cases h'; exact Jh Tryz.func147 (by kernel_rfl)
 ·cases h'; exact Jh Tryz.func120 (by kernel_rfl)
 ·cases h'; exact Jh Tryz.func121 (by kernel_rfl)
 ·cases h'; exact Jh Tryz.func106 (by kernel_rfl)
 ·cases h'; exact Jh Tryz.func111 (by kernel_rfl)
 ·cases h'; exact Jh Tryz.func108 (by kernel_rfl)
 ·cases h'; exact Jh Tryz.func113 (by kernel_rfl)
 ·cases h'; exact Jh Tryz.func117 (by kernel_rfl)
 ·cases h'; exact Jh Tryz.func124 (by kernel_rfl)
 ·cases h'; exact Jh Tryz.func177 (by kernel_rfl)
 ·cases h'; exact Jh Tryz.func125 (by kernel_rfl)
 ·cases h'; exact Jh Tryz.func126 (by kernel_rfl)
 ·cases h'; exact Jh Tryz.func127 (by kernel_rfl)
 ·cases h'; exact Jh Tryz.func107 (by kernel_rfl)
 ·cases h'; exact Jh Tryz.func109 (by kernel_rfl)
 ·cases h'; exact Jh Tryz.func110 (by kernel_rfl)
 ·cases h'; exact Jh Tryz.func112 (by kernel_rfl)
 ·cases h'; exact Jh Tryz.func114 (by kernel_rfl)
 ·cases h'; exact Jh Tryz.func115 (by kernel_rfl)
 ·cases h'; exact Jh Tryz.func178 (by kernel_rfl)
 ·cases h'; exact Jh Tryz.func187 (by kernel_rfl)
 ·cases h'; exact Jh Tryz.func169 (by kernel_rfl)
 ·cases h'; exact Jh Tryz.func170 (by kernel_rfl)
 ·cases h'; exact Jh Tryz.func171 (by kernel_rfl)
 ·cases h'; exact Jh Tryz.func172 (by kernel_rfl)
 ·cases h'; exact Jh Tryz.func173 (by kernel_rfl)
 ·cases h'; exact Jh Tryz.func174 (by kernel_rfl)
 ·cases h'; exact Jh Tryz.func175 (by kernel_rfl)
 ·cases h'; exact Jh Tryz.func176 (by kernel_rfl)
 ·cases h'; exact Jh Tryz.func204 (by kernel_rfl)
 ·cases h'; exact Jh Tryz.func40 (by kernel_rfl)
 ·cases h'; exact Jh Tryz.func25 (by kernel_rfl)
 ·cases h'; exact Jh Tryz.func58 (by kernel_rfl)
 ·cases h'; exact Jh Tryz.func84 (by kernel_rfl)
 ·cases h'; exact Jh Tryz.func64 (by kernel_rfl)
 ·cases h'; exact Jh Tryz.func122 (by kernel_rfl)
 ·cases h'; exact Jh Tryz.func179 (by kernel_rfl)
 ·cases h'; exact Jh Tryz.func180 (by kernel_rfl)
 ·cases h'; exact Jh Tryz.func181 (by kernel_rfl)
 ·cases h'; exact Jh Tryz.func183 (by kernel_rfl)
 ·cases h'; exact Jh Tryz.func206 (by kernel_rfl)
 ·cases h'; exact Jh Tryz.func185 (by kernel_rfl)
 ·cases h'; exact Jh Tryz.func212 (by kernel_rfl)
 ·cases h'; exact Jh Tryz.func208 (by kernel_rfl)
 ·cases h'; exact Jh Tryz.func38 (by kernel_rfl)
 ·cases h'; exact Jh Tryz.func105 (by kernel_rfl)
 ·cases h'; exact Jh Tryz.func77 (by kernel_rfl)
 ·cases h'; exact Jh Tryz.func82 (by kernel_rfl)
 ·cases h'; exact Jh Tryz.func83 (by kernel_rfl)
 ·cases h'; exact Jh Tryz.func97 (by kernel_rfl)
 ·cases h'; exact Jh Tryz.func168 (by kernel_rfl)
 ·cases h'; exact Jh Tryz.func138 (by kernel_rfl)
 ·cases h'; exact Jh Tryz.func139 (by kernel_rfl)
 ·cases h'; exact Jh Tryz.func140 (by kernel_rfl)
 ·cases h'; exact Jh Tryz.func156 (by kernel_rfl)
 ·cases h'; exact Jh Tryz.func157 (by kernel_rfl)
 ·cases h'; exact Jh Tryz.func203 (by kernel_rfl)
 ·cases h'; exact Jh Tryz.func184 (by kernel_rfl)
 ·cases h'; exact Jh Tryz.func207 (by kernel_rfl)
 ·cases h'; exact Jh Tryz.func9 (by kernel_rfl)
 ·cases h'; exact Jh Tryz.func16 (by kernel_rfl)
 ·cases h'; exact Jh Tryz.func18 (by kernel_rfl)
 ·cases h'; exact Jh Tryz.func21 (by kernel_rfl)
 ·cases h'; exact Jh Tryz.func23 (by kernel_rfl)
 ·cases h'; exact Jh Tryz.func24 (by kernel_rfl)
 ·cases h'; exact Jh Tryz.func28 (by kernel_rfl)
 ·cases h'; exact Jh Tryz.func32 (by kernel_rfl)
 ·cases h'; exact Jh Tryz.func48 (by kernel_rfl)
 ·cases h'; exact Jh Tryz.func49 (by kernel_rfl)
 ·cases h'; exact Jh Tryz.func50 (by kernel_rfl)
 ·cases h'; exact Jh Tryz.func51 (by kernel_rfl)
 ·cases h'; exact Jh Tryz.func52 (by kernel_rfl)
 ·cases h'; exact Jh Tryz.func59 (by kernel_rfl)
 ·cases h'; exact Jh Tryz.func60 (by kernel_rfl)
 ·cases h'; exact Jh Tryz.func94 (by kernel_rfl)
 ·cases h'; exact Jh Tryz.func95 (by kernel_rfl)
 ·cases h'; exact Jh Tryz.func98 (by kernel_rfl)
 ·cases h'; exact Jh Tryz.func99 (by kernel_rfl)
 ·cases h'; exact Jh Tryz.func100 (by kernel_rfl)
 ·cases h'; exact Jh Tryz.func101 (by kernel_rfl)
 ·cases h'; exact Jh Tryz.func158 (by kernel_rfl)
 ·cases h'; exact Jh Tryz.func159 (by kernel_rfl)
 ·cases h'; exact Jh Tryz.func160 (by kernel_rfl)
 ·cases h'; exact Jh Tryz.func161 (by kernel_rfl)
 ·cases h'; exact Jh Tryz.func194 (by kernel_rfl)
 ·cases h'; exact Jh Tryz.func195 (by kernel_rfl)
 ·cases h'; exact Jh Tryz.func196 (by kernel_rfl)
 ·cases h'; exact Jh Tryz.func197 (by kernel_rfl)
 ·cases h'; exact Jh Tryz.func198 (by kernel_rfl)
 ·cases h'; exact Jh Tryz.func199 (by kernel_rfl)
 ·cases h'; exact Jh Tryz.func210 (by kernel_rfl)
 ·cases h'; exact Jh Tryz.func96 (by kernel_rfl)
 ·cases h'
theorem mixed:Tryz.prog.follows .mixedOrders=true:=by kernel_rfl
end Go.Ev.YtomfgcgnepfmjaaGreat
namespace Go.Ev
open Go.RowKit Go.WideShapes Go.ChangeShapes
structure Rows8 (w:World) (a:Addr) (len cap:Nat) (A:Nat→Option Addr) (L C:Nat→Nat) (B:Nat→List Nat):Prop where
 spot:a.spot=none
 at_:∃ cs e fr,w.heap[a.block]?=some (.cells cs e fr)∧(cap=0∨a.off+cap≤cs.size)
 le:len≤cap
 max:cap≤maxLen
 cell:∀ r,r<len→w.cell? (a.add r)=some (.slice (A r) (L r) (C r))
 row:∀ r,r<len→L r≤C r∧C r≤maxLen∧(B r).length=L r∧(∀ x∈B r,x<256)∧(A r=none→C r=0) ∧
  ∀ a',A r=some a'→(∀ c,c<C r→∃ v,w.cell? (a'.add c)=some v)∧∀ (c x:Nat),(B r)[c]?=some x→w.cell? (a'.add c)=some (.int .u8 (x:Nat))
section
variable {P:Program}
theorem IL {w:World} {r:Reach} {b0:Nat} {H:Type} {enc:TypeId×Value→H} {t e q:TypeId} {v:Value} {d:DataW H} {ps:List MemPlace} (ht:P.underlying t=some (.slice e)) (he:P.underlying e=some (.slice q)) (hq:P.underlying q=some (.int .u8)) (ce:P.cellsOf e=1) (cq:P.cellsOf q=1)
  (hval:Value.okWide P w r b0 t v) (hd:DataW.Trod enc P w 0 (fun _=>true) true t v d ps) :
  v=.slice none 0 0∨∃ (a:Addr) (len cap:Nat) (A:Nat→Option Addr) (L C:Nat→Nat) (Z:Nat→List Int),v=.slice (some a) len cap∧Rows8 w a len cap A L C (fun r=>((Z r).take (L r)).map Int.toNat) ∧
   ∃ ds,d=.slice ((QX len).map fun r=>Deep.intRow .u8 (A r) (L r) (Z r)) ds:=by
 obtain ⟨a0,len0,cap0,rfl⟩:=okWide_slice ht hval
 obtain ⟨fuel,hf⟩:=hd
 rcases Deep.open_int_rows ht he hq ce cq hf with ⟨h1,h2⟩ | ⟨a,len,cap,A,L,C,Z,h1,h2,h3,h4,h5,h6⟩
 ·left
  simpa [Value.cells] using h1
 ·right
  simp only [Value.cells,HQ,Value.slice.injEq,and_true] at h1
  obtain ⟨rfl,rfl,rfl⟩:=h1
  simp only [Prod.mk.injEq] at h5
  obtain ⟨rfl,-⟩:=h5
  simp only [Value.okWide,ht,Cell.okWide,Cell.ok] at hval
  obtain ⟨_,_,_,hsp,row,cells,hsh,_⟩:=hval
  simp only [World.shape?] at hsh
  cases hb:w.heap[a.block]? with
  | none=>rw [hb] at hsh; cases hsh
  | some ob =>
   rw [hb] at hsh
   cases ob with
   | cells cs el fr =>
    have ZO:∀ i,w.cell? (a.add i)=cs[a.off+i]? := fun i=>by
     have h1:(a.add i)=⟨a.block,a.off+i,none⟩:=by
      obtain ⟨ab,ao,asp⟩:=a
      simp only at hsp
      subst hsp
      exact XX _ _ _
     rw [h1]
     simp [World.cell?,hb]
    have hcap:cap0=0∨a.off+cap0≤cs.size:=by
     rcases Zv cap0 with h0 | h0
     ·exact .inl h0
     ·right
      obtain ⟨hx,-⟩:=h6 (cap0-1) (by omega)
      rw [ZO] at hx
      have:=(Xf.1 hx).1
      omega
    refine ⟨a,len0,cap0,A,L,C,Z,rfl,⟨hsp,⟨cs,el,fr,hb,hcap⟩,h3,h4,(fun r hr=>(h6 r (by omega)).1),(fun r hr => ?_)⟩,⟨_,rfl⟩⟩
    obtain ⟨k1,k2,k3,k4,k5,k6,k7⟩:=h6 r (by omega)
    have hz:∀ n∈Z r,0≤n∧n≤255:=fun n hn=>by
     have hw:=k5 n hn
     simp only [Lit.wf,decide_eq_true_eq,ZS] at hw
     have hw1:(0:Int)≤n:=hw.1
     have hw2:n≤255:=hw.2
     exact ⟨hw1,hw2⟩
    refine ⟨k2,k3,by rw [JF,Q7]; omega,fun x hx => ?_,k6,fun a' ha' => ?_⟩
    ·simp only [Jc] at hx
     obtain ⟨n,hn,rfl⟩:=hx
     have:=hz n (QP hn)
     omega
    ·obtain ⟨-,k8⟩:=k7 a' ha'
     refine ⟨fun c hc=>⟨_,k8 c hc⟩,fun c x hx => ?_⟩
     simp only [Zq,Q5,QS] at hx
     obtain ⟨n,hn,rfl⟩:=hx
     split at hn
     ·rename_i hlt
      have hzn:=hz n (Qz hn)
      rw [k8 c (by omega),Qx,hn,JW,Int.toNat_of_nonneg hzn.1]
     ·cases hn
   | _=>cases hsh
end
section
variable {w:World} {a:Addr}
def MY (A:Nat→Option Addr) (L:Nat→Nat) (r:Nat):Value:=match A r with
 | none=>.slice none 0 0
 | some _=>.slice (some ⟨r+1,0,none⟩) (L r) (L r)
def Yl (len:Nat) (A:Nat→Option Addr) (L:Nat→Nat) (B:Nat→List Nat):List Ob :=
 ⟨(QX len).map (MY A L),true,false,false,1⟩::(QX len).map fun r=>ob8 (B r)
theorem TJ {len:Nat} {A:Nat→Option Addr} {L:Nat→Nat} {B:Nat→List Nat} {r:Nat} (h:r<len):(Yl len A L B)[r+1]?=some (ob8 (B r)):=by
 simp [Yl,h]
theorem TI {len:Nat} {A:Nat→Option Addr} {L:Nat→Nat} {B:Nat→List Nat}:∀ (i:Nat) (o:Ob),(Yl len A L B)[i]?=some o→o.own=false:=by
 intro i o h
 rcases i with _ | i
 ·simp [Yl] at h; subst h; rfl
 ·simp only [Yl,JJ,Zq,Q5] at h
  obtain ⟨_,_,rfl⟩:=h
  rfl
theorem TK {len cap:Nat} {A:Nat→Option Addr} {L C:Nat→Nat} {B:Nat→List Nat} (h:Rows8 w a len cap A L C B) (r:Nat) (hr:r<len) :
  ∃ plr:Option Place,(∀ p,plr=some p→p.block<w.heap.size∧∀ ρ,ObjRel ρ w p (ob8 (B r)))∧∀ ρ:Pl,ρ (r+1)=plr→VRel ρ (MY A L r) (.slice (A r) (L r) (C r)):=by
 obtain ⟨k1,k2,k3,k4,k5,k6⟩:=h.row r hr
 cases hA:A r with
 | none =>
  have hC:=k5 hA
  refine ⟨none,⟨fun p hp=>(by cases hp),fun ρ _ => ?_⟩⟩
  have hL:L r=0:=by omega
  rw [hC,hL]
  unfold MY
  rw [hA]
  exact .same rfl
 | some a' =>
  obtain ⟨k7,k8⟩:=k6 a' hA
  have hv:MY A L r=.slice (some ⟨r+1,0,none⟩) (L r) (L r):=by unfold MY; rw [hA]
  rw [hv]
  rcases Zv (C r) with h0 | h0
  ·obtain ⟨cs,e,fr,g1,g2⟩:=h.at_
   have hlt:a.block<w.heap.size:=(Xf.1 g1).1
   have hL:L r=0:=by omega
   have hB:B r=[]:=Za (by omega)
   refine ⟨some ⟨a.block,0,cs.size,1,.foreign⟩,⟨fun p hp => ?_,fun ρ hρ => ?_⟩⟩
   ·cases hp
    refine ⟨hlt,fun ρ=>⟨rfl,rfl,cs,e,fr,g1,rfl,by simp [ob8,hB,u8s],fun i v hv=>by simp [ob8,hB,u8s] at hv,fun ho=>by simp [ob8] at ho⟩⟩
   ·rw [hL,h0]
    exact .slice hρ rfl (.inr ⟨rfl,rfl⟩) (.inr ⟨rfl,rfl⟩) (.inr rfl) (Qk _) (Qk _) trivial
  ·obtain ⟨v0,hv0⟩:=k7 0 h0
   have hz:a'.add 0=a':=by simp [Addr.add]
   rw [hz] at hv0
   have hcs:∃ cs e fr,w.heap[a'.block]?=some (.cells cs e fr)∧a'.spot=none:=by
    unfold World.cell? at hv0
    split at hv0
    ·rename_i cs e fr hb
     split at hv0
     ·cases hv0
     ·rename_i hs
      exact ⟨cs,e,fr,hb,by simpa using hs⟩
    ·cases hv0
   obtain ⟨cs,e,fr,g1,g2⟩:=hcs
   have ZO:∀ i,w.cell? (a'.add i)=cs[a'.off+i]? := fun i=>by
    have h1:(a'.add i)=⟨a'.block,a'.off+i,none⟩:=by
     obtain ⟨ab,ao,asp⟩:=a'
     simp only at g2
     subst g2
     exact XX _ _ _
    rw [h1]
    simp [World.cell?,g1]
   have hl:Lies8 w a' (L r) (C r) (B r):=by
    refine ⟨g2,⟨cs,e,fr,g1,.inr ?_,fun i x hx=>by rw [←ZO]; exact k8 i x hx⟩,k1,k2,k3,k4⟩
    obtain ⟨v,hv⟩:=k7 (C r-1) (by omega)
    rw [ZO] at hv
    have:=(Xf.1 hv).1
    omega
   obtain ⟨pl,p1,p2,p3,p4⟩:=bQ hl
   exact ⟨some pl,⟨fun p hp=>by cases hp; exact ⟨p2,p3⟩,fun ρ hρ=>p4 ρ (r+1) hρ⟩⟩
theorem SW {len cap:Nat} {A:Nat→Option Addr} {L C:Nat→Nat} {B:Nat→List Nat} (h:Rows8 w a len cap A L C B) :
  ∃ ρ:Pl,VRel ρ (.slice (some ⟨0,0,none⟩) len len) (.slice (some a) len cap)∧RelF ρ (hp (Yl len A L B)) w∧∀ id,(Yl len A L B).length≤id→ρ id=none:=by
 obtain ⟨g,hg⟩:∃ g:Nat→Option Place,∀ r,r<len→(∀ p,g r=some p→p.block<w.heap.size∧∀ ρ,ObjRel ρ w p (ob8 (B r)))∧∀ ρ:Pl,ρ (r+1)=g r→VRel ρ (MY A L r) (.slice (A r) (L r) (C r)) :=
  ⟨fun r=>if hr:r<len then Classical.choose (TK h r hr) else none,fun r hr=>by
   simp only [dif_pos hr]
   exact Classical.choose_spec (TK h r hr)⟩
 obtain ⟨cs,e,fr,g1,g2⟩:=h.at_
 have hlt:a.block<w.heap.size:=(Xf.1 g1).1
 have hle:=h.le
 obtain ⟨ab,ao,asp⟩:=a
 have hsp:=h.spot
 simp only at hsp g1 g2 hlt
 subst hsp
 obtain ⟨o,ho1,ho2⟩:∃ o,(o=ao∨cap=0)∧o+len≤cs.size:=by
  rcases Zv cap with h0 | h0
  ·exact ⟨0,.inr h0,by omega⟩
  ·exact ⟨ao,.inl rfl,by omega⟩
 refine ⟨fun id=>if id=0 then some ⟨ab,o,cs.size,1,.foreign⟩ else if id-1<len then g (id-1) else none,?_,⟨fun id p hp => ?_,fun id ob p hc hp hl => ?_,fun i j oi oj pi pj hi hj hpi hpj hl ho hlj hne => ?_⟩,fun id hid => ?_⟩
 ·exact .slice (pl:=⟨ab,o,cs.size,1,.foreign⟩) (by simp) rfl (.inl rfl) (.inl rfl) (by rcases ho1 with h | h; exact .inl (by simp [h]); exact .inr h) (Qk _) hle trivial
 ·by_cases h0:id=0
  ·simp only [if_pos h0] at hp; cases hp; exact hlt
  ·simp only [if_neg h0] at hp
   split at hp
   ·rename_i hr; exact ((hg _ hr).1 p hp).1
   ·cases hp
 ·by_cases h0:id=0
  ·subst h0
   simp only [if_true] at hp
   cases hp
   simp only [Yl,Js,Ql] at hc
   subst hc
   refine ⟨rfl,rfl,cs,e,fr,g1,rfl,by simpa using ho2,fun i v hv => ?_,fun ho=>by cases ho⟩
   simp only [Zq,Q5] at hv
   obtain ⟨j,hj,rfl⟩:=hv
   obtain ⟨hj1,hj2⟩:=Qf.1 hj
   simp only [Vg] at hj1
   rw [List.getElem_range] at hj2
   subst hj2
   have ZO:=h.cell i hj1
   have hadd:(⟨ab,ao,none⟩:Addr).add i=⟨ab,ao+i,none⟩:=XX _ _ _
   rw [hadd] at ZO
   simp only [World.cell?,g1] at ZO
   have ho:o=ao:=by rcases ho1 with h | h; exact h; omega
   subst ho
   refine ⟨by unfold MY; split<;>rfl,_,by simpa using ZO,(hg i hj1).2 _ (by simp [hj1])⟩
  ·simp only [if_neg h0] at hp
   split at hp
   ·rename_i hr
    obtain ⟨k,rfl⟩:∃ k,id=k+1:=⟨id-1,by omega⟩
    simp only [Nat.add_sub_cancel] at hp hr
    have:=TJ (A:=A) (L:=L) (B:=B) hr
    simp only [Go.Ev.hp] at hc
    rw [this] at hc
    cases hc
    exact ((hg _ hr).1 p hp).2 _
   ·cases hp
 ·have:=TI i oi hi
  rw [ho] at this
  cases this
 ·simp only [Yl,Zn,JF,Vg] at hid
  have h0:¬ id=0:=by omega
  have h1:¬ id-1<len:=by omega
  simp [h0,h1]
end
end Go.Ev
namespace Go.Ev
open Go.RowKit Go.WideShapes Go.ChangeShapes
structure LiesC (w:World) (a:Addr) (len cap es:Nat) (l:List Value):Prop where
 spot:a.spot=none
 at_:∃ cs e fr,w.heap[a.block]?=some (.cells cs e fr)∧(cap=0∨a.off+cap*es≤cs.size)∧∀ (i:Nat) (v:Value),l[i]?=some v→cs[a.off+i]?=some v
 le:len≤cap
 max:cap≤maxLen
 len:l.length=len*es
 sc:∀ v∈l,oneCellB v=true∧scalarRf v=true
section
variable {P:Program}
def ee {H:Type} (enc:TypeId×Value→H) (P:Program) (w:World) (e:TypeId) (es:Nat) (Q:Value→Prop):Prop:=∀ (fuel:Nat) (cs:List Value) (x:DataW H×List MemPlace),DataW.trod enc P w 0 (fun _=>true) true fuel e cs=some x→cs.length=es∧∀ v∈cs,Q v
theorem IK {w:World} {r:Reach} {b0:Nat} {H:Type} {enc:TypeId×Value→H} {t e:TypeId} {v:Value} {es fuel:Nat} {y:DataW H×List MemPlace} {Q:Value→Prop} (ht:P.underlying t=some (.slice e)) (hc:P.cellsOf e=es) (h0:0<es) (hQ:ee enc P w e es Q) (hsc:∀ v,Q v→oneCellB v=true∧scalarRf v=true)
  (hval:Cell.okWide P w r b0 t v) (hf:DataW.trod enc P w 0 (fun _=>true) true fuel t [v]=some y) :
  v=.slice none 0 0∨∃ a len cap l,v=.slice (some a) len cap∧LiesC w a len cap es l∧∀ v∈l,Q v:=by
 rcases DataW.trod_slice ht hf with ⟨h1,h2⟩ | ⟨a,len,cap,elems,rest,n,_,h1,h2,h3,h4,h5,h6,h7,h8,h9⟩
 ·left
  simpa using h1
 ·right
  simp only [HQ,and_true] at h1
  subst h1
  simp only [ht,Cell.okWide,Cell.ok] at hval
  obtain ⟨_,_,_,hsp,row,cells,hsh,_⟩:=hval
  simp only [World.shape?] at hsh
  cases hb:w.heap[a.block]? with
  | none=>rw [hb] at hsh; cases hsh
  | some ob =>
   rw [hb] at hsh
   cases ob with
   | cells cs el fr =>
    have ZO:∀ i,w.cell? (a.add i)=cs[a.off+i]? := fun i=>by
     have h1:(a.add i)=⟨a.block,a.off+i,none⟩:=by
      obtain ⟨ab,ao,asp⟩:=a
      simp only at hsp
      subst hsp
      exact XX _ _ _
     rw [h1]
     simp [World.cell?,hb]
    have hadd:∀ i j,(a.add i).add j=a.add (i+j):=fun i j=>by
     obtain ⟨ab,ao,asp⟩:=a
     simp only at hsp
     subst hsp
     rw [XX,XX,XX,Zi]
    have hone:∀ (i:Nat) (z:DataW H×List MemPlace),(w.cells? 0 (a.add (i*es)) es).bind (DataW.trod enc P w 0 (fun _=>true) true n e)=some z→∀ j,j<es→∃ v,cs[a.off+(i*es+j)]?=some v∧Q v:=fun i z hz j hj=>by
     rw [Qe] at hz
     obtain ⟨c1,hc1,hof⟩:=hz
     obtain ⟨hl,hq⟩:=hQ _ _ _ hof
     obtain ⟨_,_,hcl⟩:=World.cells?_some hc1
     have:=hcl j (by omega)
     rw [hadd,ZO] at this
     refine ⟨c1[j],by rw [this]; exact Qh (by omega),hq _ (Xj _)⟩
    have hel:∀ i,i<len→∀ j,j<es→∃ v,cs[a.off+(i*es+j)]?=some v∧Q v:=fun i hi=>by
     have h10:=h7 i hi
     rw [hc] at h10
     obtain ⟨z,hz⟩:∃ z,elems[i]?=some z:=⟨_,Qh (by omega)⟩
     rw [hz] at h10
     exact hone i z h10
    have hcap:cap=0∨a.off+cap*es≤cs.size:=by
     rcases Zv cap with hz | hz
     ·exact .inl hz
     ·right
      have hlast:∃ v,cs[a.off+((cap-1)*es+(es-1))]?=some v:=by
       rcases Zm len cap with hlt | hge
       ·obtain ⟨hr1,hr2⟩:=h8 rfl
        have h10:=hr2 (cap-len-1) (by omega)
        rw [hc,show len+(cap-len-1)=cap-1 by omega] at h10
        obtain ⟨z,hz'⟩:∃ z,rest[cap-len-1]?=some z:=⟨_,Qh (by omega)⟩
        rw [hz'] at h10
        obtain ⟨v,hv,-⟩:=hone _ z h10 (es-1) (by omega)
        exact ⟨v,hv⟩
       ·obtain ⟨v,hv,-⟩:=hel (cap-1) (by omega) (es-1) (by omega)
        exact ⟨v,hv⟩
      obtain ⟨v,hv⟩:=hlast
      have h11:=(Xf.1 hv).1
      have h12:(cap-1)*es+es=cap*es:=by rw [←Nat.succ_mul]; congr 1; omega
      omega
    have hall:∀ m,m<len*es→∃ v,cs[a.off+m]?=some v∧Q v:=fun m hm=>by
     have:=hel (m/es) (Nat.div_lt_of_lt_mul (by rwa [Z2])) (m%es) (Q4 _ h0)
     rwa [Nat.div_add_mod'] at this
    have hget:∀ (i:Nat) (v:Value),((QX (len*es)).map fun m=>cs[a.off+m]?.getD (.bool false))[i]?=some v→cs[a.off+i]?=some v∧Q v:=fun i v hv=>by
     simp only [Zq,Q5] at hv
     obtain ⟨j,hj,rfl⟩:=hv
     obtain ⟨hj3,hj4⟩:=Qf.1 hj
     simp only [Vg] at hj3
     rw [List.getElem_range] at hj4
     subst hj4
     obtain ⟨v,h1,h2⟩:=hall i hj3
     rw [h1]
     exact ⟨rfl,h2⟩
    have hmem:∀ v∈(QX (len*es)).map fun m=>cs[a.off+m]?.getD (.bool false),Q v:=fun v hv=>by
     obtain ⟨i,hi⟩:=D5.1 hv
     exact (hget i v hi).2
    exact ⟨a,len,cap,_,rfl,⟨hsp,⟨cs,el,fr,hb,hcap,fun i v hv=>(hget i v hv).1⟩,h4,h5,by simp,fun v hv=>hsc v (hmem v hv)⟩,hmem⟩
   | _=>cases hsh
end
def obC (l:List Value):Ob:=⟨l,true,false,false,1⟩
theorem EV {w:World} {a:Addr} {len cap es:Nat} {l:List Value} (h:LiesC w a len cap es l) (h0:0<es):∃ pl:Place,pl.block<w.heap.size∧(∀ ρ,ObjRel ρ w pl (obC l)) ∧
  ∀ (ρ:Pl) (id:Nat),ρ id=some pl→VRel ρ (.slice (some ⟨id,0,none⟩) len len) (.slice (some a) len cap):=by
 obtain ⟨cs,e,fr,h1,h2,h3⟩:=h.at_
 have hlt:a.block<w.heap.size:=(Xf.1 h1).1
 have hle:=h.le
 have hln:=h.len
 rcases Zv cap with hz | hz
 ·subst hz
  have hlen0:len=0:=by omega
  subst hlen0
  have hl0:l=[]:=Za (by omega)
  subst hl0
  refine ⟨⟨a.block,0,cs.size,1,.foreign⟩,hlt,fun ρ=>⟨rfl,rfl,cs,e,fr,h1,rfl,by simp [obC],fun i v hv=>by simp [obC] at hv,fun ho=>by simp [obC] at ho⟩,fun ρ id hρ => ?_⟩
  exact .slice hρ rfl (.inl h.spot) (.inl rfl) (.inr rfl) (Qk _) (Qk _) trivial
 ·have h4:a.off+cap*es≤cs.size:=by
   rcases h2 with h2 | h2
   ·omega
   ·exact h2
  have h5:len*es≤cap*es:=JM _ hle
  refine ⟨⟨a.block,a.off,cs.size,1,.foreign⟩,hlt,fun ρ=>⟨rfl,rfl,cs,e,fr,h1,rfl,by simp only [obC]; omega,fun i v hv => ?_,fun ho=>by simp [obC] at ho⟩,fun ρ id hρ => ?_⟩
  ·have hs:=h.sc v (Qz hv)
   exact ⟨hs.1,v,h3 i v hv,.same hs.2⟩
  ·exact .slice hρ rfl (.inl h.spot) (.inl rfl) (.inl rfl) (Qk _) hle trivial
theorem fE {w:World} {obs:List Ob} {g:Nat→Option Place} (hown:∀ (i:Nat) (o:Ob),obs[i]?=some o→o.own=false) (h:∀ i o p,obs[i]?=some o→g i=some p→p.block<w.heap.size∧∀ ρ,ObjRel ρ w p o) :
  RelF (fun id=>if id<obs.length then g id else none) (hp obs) w:=by
 refine ⟨fun id p hp => ?_,fun id ob p hc hp hl => ?_,fun i j oi oj pi pj hi hj hpi hpj hl ho hlj hne => ?_⟩
 ·split at hp
  ·rename_i hi
   exact (h id _ p (Qh hi) hp).1
  ·cases hp
 ·split at hp
  ·exact (h id ob p hc hp).2 _
  ·cases hp
 ·have:=hown i oi hi
  rw [ho] at this
  cases this
end Go.Ev
namespace Go.Ev
open Go.RowKit Go.WideShapes Go.ChangeShapes
theorem O9 {P:Program} {w:World} {r:Reach} {base:Nat} {t e:TypeId} {v:Value} {n:Nat} (ht:(match P.underlying t with | some (.struct _) | some (.array _ _)=>true | _=>false)=true) (hc:P.cellsOf t=n) (hts:P.cellTypes P.depth t=some (Qc n e)) (he:P.underlying e=some (.int .u8)) (hn:0<n)
  (h:Value.okWide P w r base t v):∃ l:List Nat,v=.agg (u8s l).toArray∧l.length=n∧∀ x∈l,x<256:=by
 have h':∃ cs,v=.agg cs∧cs.size=P.cellsOf t∧Row.okWide P w r base t cs:=by
  unfold Value.okWide at h
  split at ht
  ·rename_i e; rw [e] at h; exact h
  ·rename_i e; rw [e] at h; exact h
  ·cases ht
 obtain ⟨cs,rfl,h1,ts,h2,-,h3⟩:=h'
 rw [hc] at h1
 rw [hts] at h2
 cases h2
 have ZO:∀ (i:Nat) (v:Value),cs[i]?=some v→∃ x:Nat,v=Value.int .u8 (x:Nat)∧x<256:=by
  intro i v hv
  obtain ⟨u,g1,g2⟩:=h3 i v hv
  have hu:u=e:=by
   have:=Qz g1
   exact List.eq_of_mem_replicate this
  subst hu
  simp only [Cell.okWide,Cell.ok,he] at g2
  cases v<;>try (exact g2.elim)
  ·rename_i k x
   obtain ⟨rfl,g3,g4⟩:=g2
   have g3':(0:Int)≤x:=g3
   have g4':x≤255:=g4
   exact ⟨x.toNat,by rw [Int.toNat_of_nonneg g3'],by omega⟩
 refine ⟨cs.toList.map fun v=>match v with | .int _ n=>n.toNat | _=>0,?_,by simp [h1],?_⟩
 ·congr 1
  apply Array.ext_getElem?
  intro i
  simp only [u8s,Vy,List.getElem?_toArray,Zq,Ji]
  cases hv:cs[i]? with
  | none=>rfl
  | some v =>
   obtain ⟨x,rfl,hx⟩:=ZO i v hv
   simp
 ·intro x hx
  simp only [Jc] at hx
  obtain ⟨v,hv,rfl⟩:=hx
  obtain ⟨i,hi⟩:=D5.1 hv
  rw [Ji] at hi
  obtain ⟨x,rfl,hx⟩:=ZO i v hi
  simpa using hx
end Go.Ev

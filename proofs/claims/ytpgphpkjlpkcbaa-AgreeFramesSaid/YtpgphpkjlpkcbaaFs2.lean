/- What the law leans on, part 2. -/
import Derived.Test.YtpgphpkjlpkcbaaFs1
import Derived.SizedLaws
import Derived.ChangeArms
set_option linter.unusedSimpArgs false
set_option linter.unusedVariables false
set_option linter.defProp false
open And renaming intro → Zd
open Bool renaming and_eq_true → Yk, and_self → Xn, and_true → Xt, false_and → Qhk, false_eq_true → Z2, not_false → Jz, not_true → Xr, true_and → Xm
open Int renaming cast_ofNat_Int → Qba, fdiv → Qa9, fdiv_eq_ediv_of_nonneg → Wn, le_of_lt → Q5q, le_refl → Kf, natCast_nonneg → Je, natCast_one → Qsy, natCast_zero → Vx, pow_pos → Q9g, reduceAdd → Qz, reduceEq → Qq, reduceGE → Q6, reduceGT → Q5, reduceLE → Qp, reduceLT → Qo, reduceMul → Qy, reduceNeg → Qx, reducePow → Qw, reduceSub → Qv, reduceTDiv → Qn, reduceTMod → Qm, reduceToNat → Qe, toNat_natCast → Jf
open List renaming all_cons → Xc, all_nil → Ke, append_assoc → Zw, append_nil → Jj, cons_append → Zg, drop_zero → Q2, eq_nil_of_length_eq_zero → Vz, ext_getElem? → Wy, flatten_append → Vh, flatten_cons → J3, flatten_nil → Vu, getD_eq_getElem?_getD → Jh, getElem?_append_left → Qc, getElem?_append_right → Qr, getElem?_cons_succ → Zy, getElem?_cons_zero → Zu, getElem?_drop → V7, getElem?_eq_getElem → Q3, getElem?_eq_none → Kq, getElem?_eq_some_iff → Q1, getElem?_map → Wq, getElem?_set_ne → Z7, getElem?_set_self → Jl, getElem?_take → Vi, getElem_mem → Rq, length_append → Za, length_cons → Zx, length_nil → Z3, length_set → Jp, length_take → Jy, map_append → By, map_cons → Wi, map_map → Q5p, map_set → Q5o, mem_append → Kv, mem_map → Uh, mem_of_getElem? → Zp, mem_of_mem_take → Kr, mem_or_eq_of_mem_set → Qb8, nil_append → Zc, range → Wm, replicate → Qa, replicate_succ → Dp, set_append_right → Yf, set_cons_succ → Ma, set_cons_zero → Qku, take_add_one → V3, take_append_drop → Yr, take_length → Dm, take_of_length_le → Zj, take_zero → Q0
open Nat renaming add_assoc → Vr, add_comm → Bi, add_mod → Q9e, add_mul → Vy, add_mul_div_right → Rk, add_mul_mod_self_right → De, add_zero → Jk, div_add_mod → Yi, div_div_eq_div_mul → Yu, div_eq_of_lt → Un, div_le_self → Gf, div_lt_iff_lt_mul → Qgs, div_one → U8, eq_zero_or_pos → Wl, le_add_right → Qqv, le_of_lt → Um, le_refl → Zf, lt_irrefl → Xh, lt_of_le_of_lt → Be, lt_of_lt_of_le → Xf, lt_or_ge → Yc, min_eq_left → Kx, mod_eq_of_lt → Jd, mod_lt → Jw, mod_mod → Tk, mod_mod_of_dvd → D9, mod_mul_right_div_self → Qa6, mod_one → Q9d, mul_add → Qc9, mul_assoc → Y5, mul_comm → Vt, mul_le_mul → Wx, mul_le_mul_left → Dn, mul_le_mul_right → W4, mul_left_comm → Wk, mul_mod → Tj, mul_one → Xg, not_lt_zero → Jq, one_mul → U7, pow_add → Ww, pow_add_one' → Qqu, pow_le_pow_right → Vl, pow_mul → Y0, pow_pos → Ud, pow_succ → V0, pow_zero → Ug, reduceAdd → Qk, reduceDiv → Qu, reduceEqDiff → Qd, reduceLT → Ql, reduceLeDiff → Qh, reduceMod → Qt, reduceMul → Qj, reducePow → Qs, reduceSub → Qi, sub_self → Jc, sub_zero → X7, two_pow_add_eq_or_of_lt → Hx, zero_add → Zz, zero_le → Qc8, zero_mul → Xq
open Option renaming bind_eq_some_iff → Qb, bind_some → Q4, getD_some → Uc, isNone_none → Z9, isSome_none → Jb, isSome_some → Qa4
open Option.some renaming injEq → Zb
namespace Go.Ev
section
variable {T:Tab}
theorem Qpg {base:Nat} {body:ACode} (I:Nat→St) {r:AExit×St} (hr:r.1≠.normal):∀ (n i:Nat),(∀ j,i≤j→j<i+n→Jv T base body (I j)=some (.normal,I (j+1)))→Jv T base body (I (i+n))=some r →
  Jv T base (.loop body) (I i)=some r
 | 0,i,_,hl=>by
  rw [Uv,show i=i+0 from rfl,hl]
  obtain ⟨x,s⟩:=r
  cases x with
  | normal=>exact absurd rfl hr
  | exit id=>rfl
  | ret=>rfl
 | n+1,i,hs,hl=>by
  rw [Uv,hs i (Zf _) (by omega)]
  exact Qpg I hr n (i+1) (fun j h1 h2=>hs j (by omega) (by omega)) (by rw [show i+1+n=i+(n+1) by omega]; exact hl)
theorem Ub {base id:Nat} {body:ACode} (I:Nat→St) {s':St} (n:Nat) (hs:∀ j,j<n→Jv T base body (I j)=some (.normal,I (j+1))) (hl:Jv T base body (I n)=some (.exit id,s')) :
  Jv T base (.block id (.loop body)) (I 0)=some (.normal,s'):=by
 rw [Jx,Qpg (r:=(.exit id,s')) I (by simp) n 0 (fun j _ h=>hs j (by omega)) (by simpa using hl)]
 simp
end
section
variable {T:Tab}
theorem Qi5 {base:Nat} {body:ACode} {I:Nat→St→Prop} {x:AExit} (hx:x≠.normal) {Q:St→Prop} (n:Nat) (hs:∀ j s,j<n→I j s→∃ s',Jv T base body s=some (.normal,s')∧I (j+1) s') (hl:∀ s,I n s→∃ s',Jv T base body s=some (x,s')∧Q s') :
  ∀ (k i:Nat),i+k=n→∀ s,I i s→∃ s',Jv T base (.loop body) s=some (x,s')∧Q s'
 | 0,i,hi,s,h=>by
  obtain ⟨s',h1,h2⟩:=hl s (by rw [←hi]; exact h)
  refine ⟨s',?_,h2⟩
  rw [Uv,h1]
  cases x with
  | normal=>exact absurd rfl hx
  | exit id=>rfl
  | ret=>rfl
 | k+1,i,hi,s,h=>by
  obtain ⟨s1,h1,h2⟩:=hs i s (by omega) h
  obtain ⟨s',h3,h4⟩:=Qi5 hx n hs hl k (i+1) (by omega) s1 h2
  exact ⟨s',by rw [Uv,h1]; exact h3,h4⟩
theorem Yg {base id:Nat} {body:ACode} (I:Nat→St→Prop) {Q:St→Prop} (n:Nat) {s:St} (h0:I 0 s) (hs:∀ j s,j<n→I j s→∃ s',Jv T base body s=some (.normal,s')∧I (j+1) s') (hl:∀ s,I n s→∃ s',Jv T base body s=some (.exit id,s')∧Q s') :
  ∃ s',Jv T base (.block id (.loop body)) s=some (.normal,s')∧Q s':=by
 obtain ⟨s',h1,h2⟩:=Qi5 (T:=T) (x := .exit id) (by simp) n hs hl n 0 (by omega) s h0
 exact ⟨s',by rw [Jx,h1]; simp,h2⟩
end
theorem Q6o {H r:List Ob} {a b x:Ob}:(H++a::b::r).set (H.length+1) x=H++a::x::r:=by simp
theorem Vj {H:List Ob} {id:Nat} {o:Ob} (h:H[id]?=some o) (hl:o.live=true):liveAt H id=some o:=by simp [liveAt,h,hl]
def Row (k:IntKind) (H:List Ob) (id off:Nat) (xs:List Nat):Prop:=∃ o,liveAt H id=some o∧∀ i x,xs[i]?=some x→o.cells[off+i]?=some (.int k (x:Nat))
theorem Gj {H l:List Ob} {id:Nat} {o:Ob} (h:liveAt H id=some o):liveAt (H++l) id=some o:=by
 simp only [liveAt,Qb] at h ⊢
 obtain ⟨o',h1,h2⟩:=h
 refine ⟨o',?_,h2⟩
 rw [Qc (Q1.1 h1).1]
 exact h1
theorem Row.app {k:IntKind} {H l:List Ob} {id off:Nat} {xs:List Nat} (h:Row k H id off xs):Row k (H++l) id off xs:=by
 obtain ⟨o,h1,h2⟩:=h
 exact ⟨o,Gj h1,h2⟩
theorem Row.load {k:IntKind} {H:List Ob} {id off i x:Nat} {xs:List Nat} {e:Env} {a:Operand} (h:Row k H id off xs) (hi:xs[i]?=some x) (ha:opd e a=some (.pointer (some ⟨id,off+i,none⟩))) :
  Z1 H e (.load none a)=some (.int k (x:Nat),H,some [id],[]):=by
 obtain ⟨o,h1,h2⟩:=h
 simp [Z1,ha,h1,Yq,h2 i x hi]
theorem Wu {H r:List Ob} {cs:List Value} {o e:Bool} {n:Nat}:liveAt (H++⟨cs,true,o,e,n⟩::r) H.length=some ⟨cs,true,o,e,n⟩:=by simp [liveAt]
theorem W6 {H r:List Ob} {a:Ob} {cs:List Value} {o e:Bool} {n:Nat}:liveAt (H++a::⟨cs,true,o,e,n⟩::r) (H.length+1)=some ⟨cs,true,o,e,n⟩:=by simp [liveAt]
theorem W5 {H r:List Ob} {a b:Ob} {cs:List Value} {o e:Bool} {n:Nat}:liveAt (H++a::b::⟨cs,true,o,e,n⟩::r) (H.length+2)=some ⟨cs,true,o,e,n⟩:=by simp [liveAt]
def Xu (l:List Nat):List Value:=l.map fun n=>.int .u32 (n:Nat)
def u8s (l:List Nat):List Value:=l.map fun n=>.int .u8 (n:Nat)
theorem Bo (l:List Nat):(Xu l).length=l.length:=by simp [Xu]
theorem Zv (l:List Nat):(u8s l).length=l.length:=by simp [u8s]
theorem Dh (l:List Nat) (i n:Nat):(Xu l).set i (.int .u32 (n:Nat))=Xu (l.set i n):=by simp [Xu,Q5o]
theorem Hg (l:List Nat) (i n:Nat):(u8s l).set i (.int .u8 (n:Nat))=u8s (l.set i n):=by simp [u8s,Q5o]
theorem Bp {l:List Nat} {i x:Nat} (h:l[i]?=some x):(Xu l)[i]?=some (.int .u32 (x:Nat)):=by simp [Xu,h]
theorem Uk {l:List Nat} {i x:Nat} (h:l[i]?=some x):(u8s l)[i]?=some (.int .u8 (x:Nat)):=by simp [u8s,h]
theorem Vq (k:IntKind) (n:Int):(Value.int k n).cells.toList=[.int k n]:=rfl
theorem J9 (k:IntKind) (n:Int):(Value.int k n).cells.size=1:=rfl
theorem Ga {H r:List Ob} {cs:List Value} {e:Bool} {s off:Nat} {v:List Value} (h:off+v.length≤cs.length):storeAt (H++⟨cs,true,true,e,s⟩::r) ⟨H.length,off,none⟩ v=some (H++⟨splice cs off v,true,true,e,s⟩::r):=by
 simp [storeAt,Wu,h]
theorem Qn9 {H r:List Ob} {a:Ob} {cs:List Value} {e:Bool} {s off:Nat} {v:List Value} (h:off+v.length≤cs.length):storeAt (H++a::⟨cs,true,true,e,s⟩::r) ⟨H.length+1,off,none⟩ v=some (H++a::⟨splice cs off v,true,true,e,s⟩::r):=by
 simp [storeAt,W6,h]
theorem Qn8 {H r:List Ob} {a b:Ob} {cs:List Value} {e:Bool} {s off:Nat} {v:List Value} (h:off+v.length≤cs.length):storeAt (H++a::b::⟨cs,true,true,e,s⟩::r) ⟨H.length+2,off,none⟩ v=some (H++a::b::⟨splice cs off v,true,true,e,s⟩::r):=by
 simp [storeAt,W5,h]
theorem Vn (b o n:Nat):(⟨b,o,none⟩:Addr).add n=⟨b,o+n,none⟩:=by
 unfold Addr.add
 split<;>simp_all
theorem Ym {n:Nat} (h:n<9223372036854775808):IntKind.i64.wrap (n:Int)=n:=Yd (by omega) (by omega)
theorem Xd (cs:List Value) (off:Nat) (x:Value):splice cs off [x]=cs.set off x:=rfl
theorem Vk (l:List Value):(Value.agg l.toArray).cells.toList=l:=rfl
theorem J1 (l:List Value):(Value.agg l.toArray).cells.size=l.length:=rfl
theorem Bu (n:Nat):(n+1<n)=False:=by simp
theorem Bt (n:Nat):(n+2<n)=False:=by simp
theorem Bs (n:Nat):(n+3<n)=False:=by simp
theorem Br (n:Nat):(n+4<n)=False:=by simp
theorem Wf (k:IntKind) (n:Int):rf (.int k n)=true:=rfl
theorem Xi (k j:IntKind) (a b:Int):rf (.tuple #[.int k a,.int j b])=true:=rfl
theorem Yn (a b:Value):(#[a,b]:Array Value).toList=[a,b]:=rfl
theorem Row.elems {k:IntKind} {H:List Ob} {id off n c:Nat} {xs:List Nat} (h:Row k H id off xs) (hx:0<xs.length):elemsOf H 1 xs.length (.slice (some ⟨id,off,none⟩) n c)=some (xs.map fun (x:Nat)=>Value.int k x):=by
 obtain ⟨o,h1,h2⟩:=h
 have hl:off+xs.length≤o.cells.length:=by
  have:=h2 (xs.length-1) _ (Q3 (by omega))
  have:=(Q1.1 this).1
  omega
 simp only [elemsOf,h1,Q4,Z9,Xg,hl,and_self,if_true,Zb]
 apply Wy
 intro i
 rw [Vi]
 by_cases hi:i<xs.length
 ·rw [if_pos hi,V7,h2 i _ (Q3 hi),Wq,Q3 hi]; rfl
 ·rw [if_neg hi,Kq (by simp; omega)]
theorem Gh (cs:List Value) (off:Nat) (v:List Value) (h:off+v.length≤cs.length):splice cs off v=cs.take off++(v++cs.drop (off+v.length)):=by
 unfold splice
 split
 ·rename_i x
  simp only [Zx,Z3,Zz] at h
  rw [List.set_eq_take_append_cons_drop,if_pos (by omega)]
  simp
 ·rfl
theorem Qg9 {H r:List Ob} {es bytes len cap n:Nat} {cs new:List Value} {x:Value} (hl:lenV x=some n) (hx:elemsOf (H++⟨cs,true,true,true,es⟩::r) es n x=some new) (hn:0<n) (hc:len+n≤cap) (hb:(len+n)*bytes≤2^47) (hb0:0<bytes) (he:0<es) (hf:len*es+new.length≤cs.length) :
  Yz es bytes (H++⟨cs,true,true,true,es⟩::r) (.slice (some ⟨H.length,0,none⟩) len cap) x=some (.slice (some ⟨H.length,0,none⟩) (len+n) cap,H++⟨splice cs (len*es) new,true,true,true,es⟩::r,none,[H.length]):=by
 have h1:¬ n=0:=by omega
 have h2:0+len*es≤cs.length:=by omega
 have h3:(len+n)*bytes≤2^47∧0<bytes∧0<es:=⟨hb,hb0,he⟩
 have hold:elemsOf (H++⟨cs,true,true,true,es⟩::r) es len (.slice (some ⟨H.length,0,none⟩) len cap)=some ((cs.drop 0).take (len*es)):=by
  simp only [elemsOf,Wu,Q4,Z9,h2,and_self,if_true]
 simp only [Yz,hl,hx,Q4,if_neg h1,h3,and_self,not_true_eq_false,if_false,Wu,hold,if_true,hc,Vn,Zz,Ga hf]
end Go.Ev
namespace Go.Ev
def num (B:Nat):List Nat→Nat
 | []=>0
 | x::r=>x+B*num B r
def dig (B n v:Nat):List Nat:=(Wm n).map fun i=>v/B^i%B
theorem Vs (B n v:Nat):(dig B n v).length=n:=by simp [dig]
theorem Dl {B n v i:Nat} (h:i<n):(dig B n v)[i]?=some (v/B^i%B):=by simp [dig,h]
theorem Hd {B n v x:Nat} (hB:0<B) (h:x∈dig B n v):x<B:=by
 simp only [dig,Uh] at h
 obtain ⟨i,_,rfl⟩:=h
 exact Jw _ hB
theorem Qcx {B n v:Nat} {l:List Nat} (hl:l.length=n) (h:∀ i,i<n→l[i]?=some (v/B^i%B)):l=dig B n v:=by
 apply Wy
 intro i
 by_cases hi:i<n
 ·rw [h i hi,Dl hi]
 ·rw [Kq (by omega),Kq (by rw [Vs]; omega)]
theorem num_lt {B:Nat}:∀ {l:List Nat},(∀ x∈l,x<B)→num B l<B^l.length
 | [],_=>by simp [num]
 | x::r,h=>by
  have h1:x<B:=h x (by simp)
  have h2:=num_lt (l:=r) fun y hy=>h y (by simp [hy])
  simp only [num,Zx,V0]
  have h3:B*(num B r+1)≤B*B^r.length:=Dn _ h2
  rw [Qc9,Xg] at h3
  rw [Vt (B^r.length) B]
  omega
theorem Qan (B:Nat):∀ (a b:List Nat),num B (a++b)=num B a+B^a.length*num B b
 | [],b=>by simp [num]
 | x::r,b=>by
  simp only [num,Zg,Qan B r b,Zx,V0,Qc9]
  rw [←Y5,Vt B (B^r.length)]
  omega
theorem Bq {B:Nat} {l:List Nat} {j x:Nat} (h:l[j]?=some x):num B (l.take (j+1))=num B (l.take j)+x*B^j:=by
 have hj:j<l.length:=(Q1.1 h).1
 rw [V3,h,Qan]
 simp [num,Kx (Um hj),Vt]
theorem Dz {B:Nat} (hB:0<B):∀ {l:List Nat} {i x:Nat},(∀ x∈l,x<B)→l[i]?=some x→num B l/B^i%B=x
 | [],i,x,_,h=>by simp at h
 | y::r,0,x,hl,h=>by
  simp at h; subst h
  have:=hl y (by simp)
  simp only [num,Ug,U8,Nat.add_mul_mod_self_left]
  exact Jd this
 | y::r,i+1,x,hl,h=>by
  have:=hl y (by simp)
  simp only [num,V0,Vt (B^i) B]
  rw [←Yu,Nat.add_mul_div_left _ _ hB,Un this,Zz]
  exact Dz hB (fun z hz=>hl z (by simp [hz])) (by simpa using h)
theorem Qat {B:Nat} (hB:0<B) {l:List Nat} (h:∀ x∈l,x<B):dig B l.length (num B l)=l:=by
 symm
 exact Qcx rfl fun i hi=>by rw [Dz hB h (Q3 hi)]; exact Q3 hi
theorem Q0z (B n v:Nat):dig B (n+1) v=v%B::dig B n (v/B):=by
 simp only [dig,List.range_succ_eq_map,Wi,Q5p,Ug,U8]
 congr 1
 apply List.map_congr_left
 intro i _
 simp only [Function.comp,Nat.succ_eq_add_one,V0,Yu,Vt (B^i) B]
theorem Bb {B:Nat} (hB:0<B):∀ (n v:Nat),num B (dig B n v)=v%B^n
 | 0,v=>by simp [dig,num,Q9d]
 | n+1,v=>by
  rw [Q0z,num,Bb hB n,V0,Vt (B^n) B,Nat.mod_mul]
theorem Ry {B:Nat}:∀ {l:List Nat} {i x:Nat} (y:Nat),l[i]?=some x→num B (l.set i y)+x*B^i=num B l+y*B^i
 | [],i,x,y,h=>by simp at h
 | z::r,0,x,y,h=>by
  simp at h; subst h
  simp only [Qku,num,Ug]
  omega
 | z::r,i+1,x,y,h=>by
  have:=Ry (B:=B) (l:=r) (i:=i) y (by simpa using h)
  simp only [Ma,num,V0]
  have e:B*(num B (r.set i y)+x*B^i)=B*(num B r+y*B^i):=by rw [this]
  rw [Qc9,Qc9] at e
  rw [show x*(B^i*B)=B*(x*B^i) by simp only [Y5,Wk,Vt],show y*(B^i*B)=B*(y*B^i) by simp only [Y5,Wk,Vt]]
  omega
theorem Mt {B:Nat} {l:List Nat} {i y:Nat} (h:∀ x∈l,x<B) (hy:y<B):∀ x∈l.set i y,x<B:=by
 intro x hx
 rcases Qb8 hx with h1 | h1
 ·exact h x h1
 ·rw [h1]; exact hy
theorem Q00 {m j x N:Nat} (hj:j/4<m) (hN:N<256^j) (hx:x<256) :
  (dig 4294967296 m N).set (j/4) ((dig 4294967296 m N).getD (j/4) 0|||x*2^(8*(j%4)))=dig 4294967296 m (N+x*256^j):=by
 have e256:(256:Nat)=2^8:=rfl
 have eW:(4294967296:Nat)=2^32:=rfl
 have hpow:(256:Nat)^j=2^(8*(j%4))*4294967296^(j/4):=by
  rw [e256,eW,←Y0,←Y0,←Ww]
  congr 1; omega
 have hWq:0<4294967296^(j/4):=Ud (by decide)
 have hdiv:N/4294967296^(j/4)<2^(8*(j%4)):=by
  rw [Qgs hWq,←hpow]; exact hN
 have h24:(2:Nat)^(8*(j%4))≤2^24:=Vl (by decide) (by omega)
 have hx24:(x+1)*2^(8*(j%4))≤256*2^24:=Wx (by omega) h24
 rw [Vy,U7] at hx24
 have hsum:N/4294967296^(j/4)+x*2^(8*(j%4))<4294967296:=by show _<4294967296; omega
 apply Qcx (by rw [Jp,Vs])
 intro i hi
 by_cases hq:i=j/4
 ·subst hq
  rw [Jl (by rw [Vs]; exact hi),Jh,Dl hi]
  rw [hpow,←Y5,Rk _ _ hWq]
  simp only [Uc]
  rw [Jd (a:=N/_) (by omega),Jd hsum,Bi,Vt x,Hx hdiv,Nat.or_comm]
 ·rw [Z7 (Ne.symm hq),Dl hi]
  congr 1
  by_cases hlt:i<j/4
  ·have:4294967296^(j/4)=4294967296*4294967296^(j/4-i-1)*4294967296^i:=by
    rw [Y5,←Ww,←Qqu]; congr 1; omega
   rw [hpow,this]
   rw [show x*(2^(8*(j%4))*(4294967296*4294967296^(j/4-i-1)*4294967296^i))=(x*2^(8*(j%4))*4294967296^(j/4-i-1)*4294967296)*4294967296^i by simp only [Y5,Wk,Vt]]
   rw [Rk _ _ (Ud (by decide)),De]
  ·have hle:4294967296^(j/4+1)≤4294967296^i:=Vl (by decide) (by omega)
   have h1:N+x*256^j<4294967296^i:=by
    refine Xf ?_ hle
    have:(256:Nat)^(j+1)≤4294967296^(j/4+1):=by
     rw [e256,eW,←Y0,←Y0]; exact Vl (by decide) (by omega)
    refine Xf ?_ this
    rw [V0]
    have:x*256^j≤255*256^j:=W4 _ (by omega)
    omega
   rw [Un h1,Un (by omega)]
def ns (k:IntKind) (l:List Nat):List Value:=l.map fun n=>.int k (n:Nat)
theorem Ky (k:IntKind) (l:List Nat):(ns k l).length=l.length:=by simp [ns]
theorem Qao (k:IntKind) (l:List Nat) (i n:Nat):(ns k l).set i (.int k (n:Nat))=ns k (l.set i n):=by simp [ns,Q5o]
theorem U3 {k:IntKind} {l:List Nat} {i x:Nat} (h:l[i]?=some x):(ns k l)[i]?=some (.int k (x:Nat)):=by simp [ns,h]
theorem Qcp (k:IntKind) (a b:List Nat):ns k (a++b)=ns k a++ns k b:=by simp [ns]
theorem Qlp {H:List Ob} {id:Nat} {o:Ob} (h:liveAt H id=some o):id<H.length:=by
 simp only [liveAt,Qb] at h
 obtain ⟨o',h1,_⟩:=h
 exact (Q1.1 h1).1
theorem Qeo {H H':List Ob} {id:Nat} (h:H'[id]?=H[id]?):liveAt H' id=liveAt H id:=by simp only [liveAt,h]
inductive Sl (k:IntKind) (H:List Ob):Value→List Nat→Prop
 | nil:Sl k H (.slice none 0 0) []
 | mk {id off c:Nat} {o:Ob} {l:List Nat}:liveAt H id=some o→off+l.length≤o.cells.length→(∀ (i x:Nat),l[i]?=some x→o.cells[off+i]?=some (.int k (x:Nat)))→Sl k H (.slice (some ⟨id,off,none⟩) l.length c) l
theorem Sl.row {k:IntKind} {H:List Ob} {v:Value} {l:List Nat} (h:Sl k H v l) (hl:0<l.length):∃ id off c,v=.slice (some ⟨id,off,none⟩) l.length c∧Row k H id off l:=by
 cases h with
 | nil=>simp at hl
 | mk h1 h2 h3=>exact ⟨_,_,_,rfl,_,h1,h3⟩
theorem Sl.congr {k:IntKind} {H H':List Ob} {v:Value} {l:List Nat} (h:Sl k H v l) (hH:∀ id,id<H.length→H'[id]?=H[id]?):Sl k H' v l:=by
 cases h with
 | nil=>exact .nil
 | mk h1 h2 h3=>exact .mk (by rw [Qeo (hH _ (Qlp h1))]; exact h1) h2 h3
theorem Sl.app {k:IntKind} {H l':List Ob} {v:Value} {l:List Nat} (h:Sl k H v l):Sl k (H++l') v l :=
 h.congr fun id hid=>Qc hid
theorem Sl.lenV {k:IntKind} {H:List Ob} {v:Value} {l:List Nat} (h:Sl k H v l):lenV v=some l.length:=by
 cases h<;>rfl
theorem Sl.elems {k:IntKind} {H:List Ob} {v:Value} {l:List Nat} (h:Sl k H v l):elemsOf H 1 l.length v=some (ns k l):=by
 cases h with
 | nil=>rfl
 | mk h1 h2 h3 =>
  simp only [elemsOf,h1,Q4,Z9,Xg,h2,and_self,if_true,Zb]
  apply Wy
  intro i
  rw [Vi]
  by_cases hi:i<l.length
  ·rw [if_pos hi,V7,h3 i _ (Q3 hi),U3 (Q3 hi)]
  ·rw [if_neg hi,Kq (by rw [Ky]; omega)]
inductive Grown (k:IntKind) (B:Nat) (H:List Ob):Value→List Nat→Prop
 | nil:Grown k B H (.slice none 0 0) []
 | own {id:Nat} {bs:List Nat}:B≤id→0<bs.length→H[id]?=some (Ob.grown 1 (ns k bs))→Grown k B H (.slice (some ⟨id,0,none⟩) bs.length bs.length) bs
 | new {id:Nat} {bs:List Nat}:B≤id→0<bs.length→H[id]?=some (Ob.fresh (ns k bs))→Grown k B H (.slice (some ⟨id,0,none⟩) bs.length bs.length) bs
theorem Grown.sl {k:IntKind} {B:Nat} {H:List Ob} {v:Value} {l:List Nat} (h:Grown k B H v l):Sl k H v l:=by
 cases h with
 | nil=>exact .nil
 | own h1 h2 h3=>exact .mk (Vj h3 rfl) (by simp [Ob.grown,Ky]) (fun i x hx=>by rw [Zz]; exact U3 hx)
 | new h1 h2 h3=>exact .mk (Vj h3 rfl) (by simp [Ob.fresh,Ky]) (fun i x hx=>by rw [Zz]; exact U3 hx)
theorem Grown.app {k:IntKind} {B:Nat} {H l':List Ob} {v:Value} {l:List Nat} (h:Grown k B H v l):Grown k B (H++l') v l:=by
 cases h with
 | nil=>exact .nil
 | own h1 h2 h3=>exact .own h1 h2 (by rw [Qc (Q1.1 h3).1]; exact h3)
 | new h1 h2 h3=>exact .new h1 h2 (by rw [Qc (Q1.1 h3).1]; exact h3)
theorem Grown.append {k:IntKind} {B bytes:Nat} {H:List Ob} {s x:Value} {bs new:List Nat} (h:Grown k B H s bs) (hB:B≤H.length) (hl:Go.Ev.lenV x=some new.length) (he:elemsOf H 1 new.length x=some (ns k new)) (hb:(bs.length+new.length)*bytes≤2^47) (hb0:0<bytes) :
  ∃ s' H' M,Yz 1 bytes H s x=some (s',H',none,M)∧Grown k B H' s' (bs++new)∧(∀ i∈M,B≤i)∧H.length≤H'.length∧∀ i,i<B→H'[i]?=H[i]? := by
 rcases Wl new.length with hn | hn
 ·have:new=[]:=Vz hn
  subst this
  rw [Jj]
  refine ⟨s,H,[],?_,h,by simp,Zf _,fun _ _=>rfl⟩
  rw [Z3] at hl he
  cases h<;>simp only [Yz,hl,he,Q4,if_true]
 ·cases h with
  | nil =>
   refine ⟨.slice (some ⟨H.length,0,none⟩) new.length new.length,H++[Ob.grown 1 (ns k new)],[],?_,?_,by simp,by simp,?_⟩
   ·have h1:¬ new.length=0:=by omega
    have h2:(0+new.length)*bytes≤2^47∧0<bytes∧0<1:=⟨by simpa using hb,hb0,by decide⟩
    simp only [Yz,hl,he,Q4,if_neg h1,h2,and_self,not_true_eq_false,if_false,if_true]
   ·rw [Zc]
    exact .own hB hn (by simp)
   ·intro i hi
    rw [Qc (by omega)]
  | @own id0 _ h1 h2 h3 =>
   refine ⟨.slice (some ⟨H.length,0,none⟩) (bs.length+new.length) (bs.length+new.length),(H.set id0 Ob.dead)++[Ob.grown 1 (ns k (bs++new))],[id0],?_,?_,by simpa using h1,by simp,?_⟩
   ·have h4:liveAt H id0=some (Ob.grown 1 (ns k bs)):=Vj h3 rfl
    have h5:¬ new.length=0:=by omega
    have h6:(bs.length+new.length)*bytes≤2^47∧0<bytes∧0<1:=⟨hb,hb0,by decide⟩
    have h7:¬ (bs.length+new.length≤bs.length):=by omega
    have h8:elemsOf H 1 bs.length (.slice (some ⟨id0,0,none⟩) bs.length bs.length)=some (ns k bs):=(Grown.own h1 h2 h3).sl.elems
    simp only [Yz,hl,he,Q4,if_neg h5,h6,and_self,not_true_eq_false,if_false,if_true,h4,h8]
    simp only [Ob.grown,not_true_eq_false,if_false,if_neg h7,Z2,Zf,if_true,←Qcp]
   ·have:=Grown.own (k:=k) (B:=B) (H:=(H.set id0 Ob.dead)++[Ob.grown 1 (ns k (bs++new))]) (id:=H.length) (bs:=bs++new) hB (by simp; omega) (by simp)
    rwa [Za] at this
   ·intro i hi
    rw [Qc (by simp; have:=(Q1.1 h3).1; omega),Z7 (by omega)]
  | @new id0 _ h1 h2 h3 =>
   refine ⟨.slice (some ⟨H.length,0,none⟩) (bs.length+new.length) (bs.length+new.length),H++[Ob.grown 1 (ns k (bs++new))],[],?_,?_,by simp,by simp,?_⟩
   ·have h4:liveAt H id0=some (Ob.fresh (ns k bs)):=Vj h3 rfl
    have h5:¬ new.length=0:=by omega
    have h6:(bs.length+new.length)*bytes≤2^47∧0<bytes∧0<1:=⟨hb,hb0,by decide⟩
    have h7:¬ (bs.length+new.length≤bs.length):=by omega
    have h8:elemsOf H 1 bs.length (.slice (some ⟨id0,0,none⟩) bs.length bs.length)=some (ns k bs):=(Grown.new h1 h2 h3).sl.elems
    simp only [Yz,hl,he,Q4,if_neg h5,h6,and_self,not_true_eq_false,if_false,if_true,h4,h8]
    simp only [Ob.fresh,not_true_eq_false,if_false,if_neg h7,Z2,Zf,if_true,←Qcp]
   ·have:=Grown.own (k:=k) (B:=B) (H:=H++[Ob.grown 1 (ns k (bs++new))]) (id:=H.length) (bs:=bs++new) hB (by simp; omega) (by simp)
    rwa [Za] at this
   ·intro i hi
    rw [Qc (by omega)]
theorem Ux {H H':List Ob} (h1:H.length≤H'.length) (h2:∀ i,i<H.length→H'[i]?=H[i]?):∃ l,H'=H++l:=by
 refine ⟨H'.drop H.length,?_⟩
 apply Wy
 intro i
 by_cases hi:i<H.length
 ·rw [Qc hi,h2 i hi]
 ·rw [Qr (by omega),V7]
  congr 1; omega
theorem Xv {base:Nat}:∀ {log M:List Nat},(∀ i∈M,base≤i)→Ja base log M=log
 | log,[],_=>rfl
 | log,i::r,h=>by
  have h1:¬ i<base:=by have:=h i (by simp); omega
  simp only [Ja,h1,false_and,if_false]
  exact Xv fun j hj=>h j (by simp [hj])
end Go.Ev
namespace Go.Ev
def gate {α:Type} (p:Prop) [Decidable p] (x:Option α):Option α:=if p then x else none
theorem W3 {α:Type} {p p':Prop} [Decidable p] [Decidable p'] (x:Option α) (h:∀ _:Unit,p=p'):gate p x=gate p' x:=by
 have h:=h (); subst h; unfold gate; congr
theorem Wp {α β:Type} {x y:Option α} (f:α→Option β) (h:∀ _:Unit,x=y):x.bind f=y.bind f:=by rw [h ()]
theorem W0 {α:Type} {c c':Prop} [Decidable c] [Decidable c'] (x y:α) (h:∀ _:Unit,c=c'):(if c then x else y)=(if c' then x else y):=by
 have h:=h (); subst h; congr
theorem Qes {α:Type} (b:Bool) (x:Option α):(if b=true then none else x)=gate (b=false) x:=by cases b<;>rfl
theorem Qlv {α:Type} [Decidable True] {x:Option α}:gate True x=x:=by simp [gate]
def Mg {α:Type} (v:Value) (w:Bool) (x y:Option α):Option α:=match v with
 | .bool c=>if c=w then x else y
 | _=>none
def gd (w:Bool) (v:Value):Value:=match v with
 | .tuple _=>.bool (!w)
 | v=>v
theorem Q35 {w b:Bool}:gd w (.bool b)=.bool b:=Eq.trans rfl rfl
theorem gd_ut:gd true undef=.bool false:=Eq.trans rfl rfl
theorem gd_uf:gd false undef=.bool true:=Eq.trans rfl rfl
theorem Wh {α:Type} {v v':Value} (w:Bool) (x y:Option α) (h:∀ _:Unit,v=v'):Mg v w x y=Mg v' w x y:=by rw [h ()]
theorem Xw {α:Type} {x y:Option α}:Mg (.bool true) true x y=x:=rfl
theorem Xz {α:Type} {x y:Option α}:Mg (.bool false) false x y=x:=rfl
theorem Xx {α:Type} {x y:Option α}:Mg (.bool true) false x y=y:=rfl
theorem Xy {α:Type} {x y:Option α}:Mg (.bool false) true x y=y:=rfl
def Qzz (t:Nat) (v:Option Value) (l:Env):Env:=match v with
 | some v=>(t,v)::l
 | none=>l
theorem Xb {t:Nat} {v:Value} {l:Env}:Qzz t (some v) l=(t,v)::l:=rfl
theorem Qzy {e:Env}:Env.keep e []=[]:=rfl
theorem Qvs {e:Env} {t:Nat} {r:List Nat}:Env.keep e (t::r)=Qzz t (e.get t) (Env.keep e r):=rfl
theorem Q4d {T:Tab} {base:Nat} {c:Operand} {a b:ACode} {s:St}:Jv T base (.cond c a b) s=(opd s.env c).bind fun v=>Mg v true (Jv T base a s) (Jv T base b s):=by
 rw [Kp]
 cases opd s.env c with
 | none=>rfl
 | some v =>
  cases v<;>try rfl
  rename_i c
  cases c<;>rfl
def steps (T:Tab) (b:Nat) (q:Bool):List AOper→St→Option St
 | [],s=>some s
 | o::r,s=>match guardOf s.env o.guard with
  | some true=>(Yw T o.op s.env s.h).bind fun x=>if (q && !x.2.2.2.isEmpty)=true then none else steps T b q r ⟨s.env.put o.dst x.1,x.2.1,Ja b s.log x.2.2.2⟩
  | some false=>steps T b q r ⟨s.env.put o.dst undef,s.h,s.log⟩
  | none=>none
section
variable {T:Tab} {b:Nat} {q:Bool}
theorem Qbz:∀ (ops:List AOper) (s:St) (recs:List Rec),(evOps T b ops s recs).map (·.1)=steps T b false ops s
 | [],s,recs=>by rw [Ve]; rfl
 | o::r,s,recs=>by
  rw [Kh]
  unfold steps
  cases hg:guardOf s.env o.guard with
  | none=>rfl
  | some g =>
   cases g with
   | false=>exact Qbz r _ _
   | true =>
    cases hx:Yw T o.op s.env s.h with
    | none=>simp [hx]
    | some x =>
     simp only [hx,Q4,Qhk,Z2,if_false]
     exact Qbz r _ _
theorem R2:∀ (ops:List AOper) (s:St) (recs:List Rec) (s':St),steps T b true ops s=some s'→(∀ r∈recs,r.2=[])→∃ recs',evOps T b ops s recs=some (s',recs')∧(∀ r∈recs',r.2=[])∧recs'.length=recs.length+ops.length
 | [],s,recs,s',h,hr=>by
  simp only [steps,Zb] at h
  subst h
  exact ⟨recs,Ve,hr,rfl⟩
 | o::r,s,recs,s',h,hr=>by
  rw [Kh]
  unfold steps at h
  cases hg:guardOf s.env o.guard with
  | none=>simp only [hg] at h; cases h
  | some g =>
   simp only [hg] at h
   cases g with
   | false =>
    obtain ⟨recs',h1,h2,h3⟩:=R2 r _ (recs++[(some [],[])]) s' h (fun x hx=>by
     rcases Kv.1 hx with h | h
     ·exact hr x h
     ·simp at h; subst h; rfl)
    exact ⟨recs',h1,h2,by rw [h3]; simp; omega⟩
   | true =>
    cases hx:Yw T o.op s.env s.h with
    | none=>simp [hx] at h
    | some x =>
     simp only [hx,Q4] at h
     split at h
     ·cases h
     ·rename_i hq
      have hq':x.2.2.2=[]:=by simpa using hq
      obtain ⟨recs',h1,h2,h3⟩:=R2 r _ (recs++[(x.2.2.1,x.2.2.2)]) s' h (fun y hy=>by
       rcases Kv.1 hy with h | h
       ·exact hr y h
       ·simp at h; subst h; exact hq')
      exact ⟨recs',h1,h2,by rw [h3]; simp; omega⟩
theorem Qvw {ops:List AOper} {keep:Option (List Nat)} {s:St}:Jv T b (.region ops keep []) s=(steps T b false ops s).bind fun s'=>some (.normal,s'.after keep):=by
 rw [J2,←Qbz ops s []]
 cases evOps T b ops s []<;>rfl
def Qef {α:Type} (x y:Option α):Option α:=match x with
 | some v=>some v
 | none=>y
theorem Xa {α:Type} {v:α} {y:Option α}:Qef (some v) y=some v:=rfl
theorem Wo {α:Type} {x x':Option α} (y:Option α) (h:∀ _:Unit,x=x'):Qef x y=Qef x' y:=by rw [h ()]
def quiet (T:Tab) (b:Nat) (ops:List AOper) (pairs:List (Nat×Nat)) (s:St):Option St :=
 match (pairs.all fun p=>decide (p.1<ops.length)&&decide (p.2<ops.length)) with
 | true=>steps T b true ops s
 | false=>none
theorem Tf {recs:List Rec} (hr:∀ r∈recs,r.2=[]):∀ {pairs:List (Nat×Nat)},(pairs.all fun p=>decide (p.1<recs.length)&&decide (p.2<recs.length))=true→V2 recs pairs=true
 | [],_=>rfl
 | (i,j)::ps,h=>by
  simp only [Xc,Yk,decide_eq_true_eq] at h
  have ih:=Tf hr (pairs:=ps) h.2
  simp only [V2,Xc,Yk] at ih ⊢
  refine ⟨?_,ih⟩
  rw [Q3 h.1.1,Q3 h.1.2]
  simp only [Qax,hr _ (Rq h.1.1),hr _ (Rq h.1.2),List.isEmpty_nil,Bool.true_or,Xn]
def Qbv (T:Tab) (b:Nat) (c:ACode) (s:St):Option (AExit×St):=Jv T b c s
theorem V9 {ops:List AOper} {keep:Option (List Nat)} {p:Nat×Nat} {ps:List (Nat×Nat)} {s:St}:Jv T b (.region ops keep (p::ps)) s=Qef ((quiet T b ops (p::ps) s).bind fun s'=>some (.normal,s'.after keep)) (Qbv T b (.region ops keep (p::ps)) s):=by
 cases hq:quiet T b ops (p::ps) s with
 | none=>rfl
 | some s' =>
  simp only [Q4,Qef]
  unfold quiet at hq
  split at hq
  ·rename_i hp
   obtain ⟨recs,h1,h2,h3⟩:=R2 ops s [] s' hq (by simp)
   simp only [Z3,Zz] at h3
   rw [J2,h1]
   simp only [Q4]
   rw [if_pos (Tf h2 (by rw [h3]; exact hp))]
  ·cases hq
theorem Q7n {s:St}:steps T b q [] s=some s:=rfl
theorem Q0b {o:AOp} {d:Option Nat} {t:Nat} {w:Bool} {r:List AOper} {e:Env} {H:List Ob} {l:List Nat}:steps T b q (⟨d,o,some (t,w)⟩::r) ⟨e,H,l⟩=(e.get t).bind fun v=>Mg (gd w v) w (steps T b q (⟨d,o,none⟩::r) ⟨e,H,l⟩) (steps T b q r ⟨e.put d undef,H,l⟩):=by
 simp only [steps,guardOf]
 cases e.get t with
 | none=>rfl
 | some v =>
  cases v<;>try rfl
  all_goals first | (cases w<;>rfl) | (rename_i c; cases c<;>cases w<;>rfl)
theorem Ur {o:AOp} {d:Nat} {r:List AOper} {e:Env} {H:List Ob} {l:List Nat} {v:Option Value} (h:Yw T o e H=Yl H v):steps T b q (⟨some d,o,none⟩::r) ⟨e,H,l⟩=v.bind fun v=>steps T b q r ⟨(d,v)::e,H,l⟩:=by
 simp only [steps,guardOf,h,Yl]
 cases v<;>cases q<;>rfl
theorem Qv0 {base id:Nat} {x y:ACode} {s:St}:Jv T base (.block id (.seq x y)) s=(Jv T base (.seq x y) s).bind fun r=>match r.1 with
  | .exit i=>if i=id then some (.normal,r.2) else some (.exit i,r.2)
  | z=>some (z,r.2):=Jx
theorem Qv1 {base id:Nat} {ops:List AOper} {keep:Option (List Nat)} {pairs:List (Nat×Nat)} {s:St}:Jv T base (.block id (.region ops keep pairs)) s=(Jv T base (.region ops keep pairs) s).bind fun r=>match r.1 with
  | .exit i=>if i=id then some (.normal,r.2) else some (.exit i,r.2)
  | z=>some (z,r.2):=Jx
theorem Qv3 {base id:Nat} {c:Operand} {x y:ACode} {s:St}:Jv T base (.block id (.cond c x y)) s=(Jv T base (.cond c x y) s).bind fun r=>match r.1 with
  | .exit i=>if i=id then some (.normal,r.2) else some (.exit i,r.2)
  | z=>some (z,r.2):=Jx
theorem Qv2 {base id:Nat} {s:St}:Jv T base (.block id .skip) s=some (.normal,s):=by rw [Jx,Kg]; rfl
theorem Qv4 {base id id2:Nat} {x:ACode} {s:St}:Jv T base (.block id (.block id2 x)) s=(Jv T base (.block id2 x) s).bind fun r=>match r.1 with
  | .exit i=>if i=id then some (.normal,r.2) else some (.exit i,r.2)
  | z=>some (z,r.2):=Jx
def Qxe:Value→Value→Value→Option Value
 | .bool t,a,b=>some (if t then a else b)
 | _,_,_=>none
def vEq (ks:Option (List Bool)) (neg:Bool) (x y:Value):Option Value :=
 (match ks,x,y with
  | some ks,.agg a,.agg b=>Wj ks a.toList b.toList
  | none,.bool a,.bool b=>some (a==b)
  | _,_,_=>none).bind fun b=>some (.bool (if neg then !b else b))
def Q5u (k:IntKind):Value→Option Value
 | .int _ n=>some (.int k (k.wrap n))
 | _=>none
def vStr:Value→Option Value
 | .string s=>some (.string s)
 | _=>none
def Qxh (n:Option Nat) (off:Nat):Value→Option Value
 | .agg cs=>Yq n cs.toList off
 | _=>none
def Qme (n:Option Nat) (len es:Nat):Value→Value→Option Value
 | .agg cs,.int _ i=>if 0≤i∧i<len then Yq n cs.toList (i.toNat*es) else none
 | _,_=>none
def Qk1:Value→Value→Option Value
 | .string s,.int _ i=>if 0≤i then (s.data.toList[i.toNat]?).bind fun b=>some (.int .u8 b.toNat) else none
 | _,_=>none
def Qh5 (off:Nat):Value→Option Value
 | .pointer (some a)=>some (.pointer (some (a.add off)))
 | _=>none
def Qh4 (len es:Nat):Value→Value→Option Value
 | .pointer (some a),.int _ i=>if 0≤i∧i<len then some (.pointer (some (a.add (i.toNat*es)))) else none
 | _,_=>none
def Qnz (es:Nat):Value→Value→Option Value
 | .slice (some a) len _,.int _ i=>if 0≤i∧i<len then some (.pointer (some (a.add (i.toNat*es)))) else none
 | _,_=>none
def Qfu (n es:Nat) (lo hi mx:Option Value):Value→Option Value
 | .pointer (some a)=>(Y9 n n lo hi mx).bind fun r=>some (.slice (some (a.add (r.1*es))) (r.2.1-r.1) (r.2.2-r.1))
 | _=>none
def vSliceSl (H:List Ob) (es:Nat) (lo hi mx:Option Value):Value→Option Value
 | .slice (some a) len cap=>(Y9 len cap lo hi mx).bind fun r=>(liveAt H a.block).bind fun o =>
    if o.exact∨¬ o.own∨es≤o.es then some (.slice (some (a.add (r.1*es))) (r.2.1-r.1) (r.2.2-r.1)) else none
 | .slice none 0 0=>(Y9 0 0 lo hi mx).bind fun _=>some (.slice none 0 0)
 | _=>none
def Qkz (lo hi:Option Value):Value→Option Value
 | .string s=>(Y9 s.size s.size lo hi none).bind fun r=>some (.string (s.extract r.1 r.2.1))
 | _=>none
def Qn0 (i:Nat):Value→Option Value
 | .tuple vs=>vs.toList[i]?
 | _=>none
def Qk0:Value→Option Value
 | .pointer (some a)=>some (.pointer (some a))
 | _=>none
def Q5t (n:Nat):Value→Option Value
 | .slice (some a) len _=>if n≤len∧0<n then some (.pointer (some a)) else none
 | _=>none
def vLen (str:Bool):Value→Option Value
 | .slice _ n _=>if str then none else some (.int .i64 n)
 | .string s=>if str then some (.int .i64 s.size) else none
 | _=>none
def Qd6 (mx:Bool):Value→Value→Option Value
 | .int k a,.int k' b=>if k=k' then some (.int k (if mx then (if b>a then b else a) else (if b<a then b else a))) else none
 | _,_=>none
def Qnx (H:List Ob) (n:Option Nat):Value→Option Value
 | .pointer (some a)=>(liveAt H a.block).bind fun o=>if a.spot.isNone then Yq n o.cells a.off else none
 | _=>none
def Qmh (H:List Ob) (x:Value):Option Value:=match x with
 | .slice _ n _=>(elemsOf H 1 n x).bind fun cs=>(U2 cs).bind fun l=>some (.string ⟨l.toArray⟩)
 | _=>none
theorem Q38 {x:Operand} {d:Nat} {r:List AOper} {e:Env} {H:List Ob} {l:List Nat}:steps T b q (⟨some d,.move x,none⟩::r) ⟨e,H,l⟩=(opd e x).bind fun v=>steps T b q r ⟨(d,v)::e,H,l⟩:=Ur Kk
theorem Q37 {c x y:Operand} {d:Nat} {r:List AOper} {e:Env} {H:List Ob} {l:List Nat}:steps T b q (⟨some d,.pick c x y,none⟩::r) ⟨e,H,l⟩=(opd e c).bind fun c=>(opd e x).bind fun x=>(opd e y).bind fun y=>(Qxe c x y).bind fun v=>steps T b q r ⟨(d,v)::e,H,l⟩:=by
 rw [Ur Kj]
 cases opd e c with
 | none=>rfl
 | some c =>
  cases opd e x with
  | none=>rfl
  | some x =>
   cases opd e y with
   | none=>rfl
   | some y=>cases c<;>cases q<;>rfl
theorem Q0g {zero:List Value} {d:Nat} {r:List AOper} {e:Env} {H:List Ob} {l:List Nat}:steps T b q (⟨some d,.alloc zero,none⟩::r) ⟨e,H,l⟩=steps T b q r ⟨(d,.pointer (some ⟨H.length,0,none⟩))::e,H++[⟨zero,true,true,true,1⟩],l⟩:=by
 simp only [steps,guardOf,X6,Z1,Q4,Env.put,Ja,Ob.fresh]
 cases q<;>rfl
theorem Q7q {x:Operand} {d:Nat} {r:List AOper} {e:Env} {H:List Ob} {l:List Nat}:steps T b q (⟨some d,.box x,none⟩::r) ⟨e,H,l⟩=(opd e x).bind fun v=>gate (okVar v=true) (steps T b q r ⟨(d,.pointer (some ⟨H.length,0,none⟩))::e,H++[⟨v.cells.toList,true,true,true,1⟩],l⟩):=by
 simp only [steps,guardOf,K9,Z1,Env.put,Ja,Ob.fresh]
 cases opd e x with
 | none=>rfl
 | some v=>simp only [Q4,gate]; split<;>cases q<;>rfl
theorem Q4a {n:Option Nat} {x:Operand} {d:Nat} {r:List AOper} {e:Env} {H:List Ob} {l:List Nat}:steps T b q (⟨some d,.load n x,none⟩::r) ⟨e,H,l⟩=(opd e x).bind fun a=>(Qnx H n a).bind fun v=>steps T b q r ⟨(d,v)::e,H,l⟩:=by
 simp only [steps,guardOf,Kd,Z1,Env.put]
 cases opd e x with
 | none=>rfl
 | some v =>
  cases v<;>try rfl
  rename_i p
  cases p with
  | none=>rfl
  | some a =>
   simp only [Q4,Qnx]
   cases liveAt H a.block with
   | none=>rfl
   | some o =>
    simp only [Q4]
    split
    ·cases Yq n o.cells a.off<;>cases q<;>rfl
    ·rfl
def Qqz (H:List Ob) (n:Nat):Value→Value→Option (List Ob)
 | .pointer (some a),v=>if v.cells.size=n∧okVar v=true then storeAt H a v.cells.toList else none
 | _,_=>none
def Q1d:Value→List Nat
 | .pointer (some a)=>[a.block]
 | _=>[]
theorem Qz8 {n:Nat} {a x:Operand} {r:List AOper} {e:Env} {H:List Ob} {l:List Nat}:steps T b q (⟨none,.store n a x,none⟩::r) ⟨e,H,l⟩=(opd e a).bind fun a=>(opd e x).bind fun v=>(Qqz H n a v).bind fun H'=>gate (q=false) (steps T b q r ⟨e,H',Ja b l (Q1d a)⟩):=by
 simp only [steps,guardOf,Xp,Z1,Env.put]
 cases opd e a with
 | none=>rfl
 | some av =>
  cases opd e x with
  | none=>rfl
  | some v =>
   cases av<;>try rfl
   rename_i p
   cases p with
   | none=>rfl
   | some a =>
    simp only [Q4,Qqz,Q1d]
    split
    ·cases storeAt H a v.cells.toList<;>cases q<;>rfl
    ·rfl
theorem Q7r {op:BinOp} {x y:Operand} {d:Nat} {r:List AOper} {e:Env} {H:List Ob} {l:List Nat}:steps T b q (⟨some d,.bin op x y,none⟩::r) ⟨e,H,l⟩=(opd e x).bind fun x=>(opd e y).bind fun y=>(We op x y).bind fun v=>steps T b q r ⟨(d,v)::e,H,l⟩:=by
 rw [Ur Va]
 cases opd e x<;>cases opd e y<;>cases q<;>rfl
theorem Q7p {ks:Option (List Bool)} {neg:Bool} {x y:Operand} {d:Nat} {r:List AOper} {e:Env} {H:List Ob} {l:List Nat}:steps T b q (⟨some d,.eqv ks neg x y,none⟩::r) ⟨e,H,l⟩=(opd e x).bind fun x=>(opd e y).bind fun y=>(vEq ks neg x y).bind fun v=>steps T b q r ⟨(d,v)::e,H,l⟩:=by
 rw [Ur K8]
 cases opd e x<;>cases opd e y<;>cases q<;>rfl
theorem Qz9 {k:Nat} {neg:Bool} {x:Operand} {d:Nat} {r:List AOper} {e:Env} {H:List Ob} {l:List Nat}:steps T b q (⟨some d,.isNil k neg x,none⟩::r) ⟨e,H,l⟩=(opd e x).bind fun x=>(Mf k x).bind fun c=>steps T b q r ⟨(d,.bool (if neg then !c else c))::e,H,l⟩:=by
 rw [Ur X8]
 cases opd e x with
 | none=>rfl
 | some v=>simp only [Q4]; cases Mf k v<;>cases q<;>rfl
theorem fs_un {op:UnOp} {x:Operand} {d:Nat} {r:List AOper} {e:Env} {H:List Ob} {l:List Nat}:steps T b q (⟨some d,.un op x,none⟩::r) ⟨e,H,l⟩=(opd e x).bind fun x=>(unV op x).bind fun v=>steps T b q r ⟨(d,v)::e,H,l⟩:=by
 rw [Ur Vp]
 cases opd e x<;>cases q<;>rfl
theorem Q4c {k:IntKind} {x:Operand} {d:Nat} {r:List AOper} {e:Env} {H:List Ob} {l:List Nat}:steps T b q (⟨some d,.conv k x,none⟩::r) ⟨e,H,l⟩=(opd e x).bind fun x=>(Q5u k x).bind fun v=>steps T b q r ⟨(d,v)::e,H,l⟩:=by
 rw [Ur Km]
 cases opd e x<;>cases q<;>rfl
def Qhl (H:List Ob):Value→Option Value
 | .slice (some a) n c=>(liveAt H a.block).bind fun o=>if o.own=true∧a.spot.isNone=true then some (.slice (some a) n c) else none
 | _=>none
theorem Qvz {x:Operand} {d:Nat} {r:List AOper} {e:Env} {H:List Ob} {l:List Nat}:steps T b q (⟨some d,.convSl x,none⟩::r) ⟨e,H,l⟩=(opd e x).bind fun x=>(Qhl H x).bind fun v=>steps T b q r ⟨(d,v)::e,H,l⟩:=by
 simp only [steps,guardOf,Qkq,Z1,Env.put]
 cases opd e x with
 | none=>rfl
 | some v =>
  simp only [Q4]
  cases v with
  | slice a n c =>
   cases a with
   | none=>rfl
   | some a =>
    simp only [Qhl]
    cases liveAt H a.block with
    | none=>rfl
    | some o =>
     simp only [Q4]
     split<;>cases q<;>rfl
  | _=>rfl
theorem Qr8 {x:Operand} {d:Nat} {r:List AOper} {e:Env} {H:List Ob} {l:List Nat}:steps T b q (⟨some d,.convStr x,none⟩::r) ⟨e,H,l⟩=(opd e x).bind fun x=>(vStr x).bind fun v=>steps T b q r ⟨(d,v)::e,H,l⟩:=by
 rw [Ur J8]
 cases opd e x<;>cases q<;>rfl
theorem Q0c {n:Option Nat} {off:Nat} {x:Operand} {d:Nat} {r:List AOper} {e:Env} {H:List Ob} {l:List Nat}:steps T b q (⟨some d,.field n off x,none⟩::r) ⟨e,H,l⟩=(opd e x).bind fun x=>(Qxh n off x).bind fun v=>steps T b q r ⟨(d,v)::e,H,l⟩:=by
 rw [Ur Ka]
 cases opd e x<;>cases q<;>rfl
theorem Q0a {n:Option Nat} {len es:Nat} {x i:Operand} {d:Nat} {r:List AOper} {e:Env} {H:List Ob} {l:List Nat}:steps T b q (⟨some d,.index n len es x i,none⟩::r) ⟨e,H,l⟩=(opd e x).bind fun x=>(opd e i).bind fun i=>(Qme n len es x i).bind fun v=>steps T b q r ⟨(d,v)::e,H,l⟩:=by
 rw [Ur X9]
 cases opd e x<;>cases opd e i<;>cases q<;>rfl
theorem Qps {x i:Operand} {d:Nat} {r:List AOper} {e:Env} {H:List Ob} {l:List Nat}:steps T b q (⟨some d,.indexStr x i,none⟩::r) ⟨e,H,l⟩=(opd e x).bind fun x=>(opd e i).bind fun i=>(Qk1 x i).bind fun v=>steps T b q r ⟨(d,v)::e,H,l⟩:=by
 rw [Ur Ju]
 cases opd e x<;>cases opd e i<;>cases q<;>rfl
theorem Q0f {zero:List Value} {ps:List (Nat×Nat×Operand)} {d:Nat} {r:List AOper} {e:Env} {H:List Ob} {l:List Nat}:steps T b q (⟨some d,.build zero ps,none⟩::r) ⟨e,H,l⟩=(Vf e ps).bind fun ps=>(fillL zero ps).bind fun cs=>steps T b q r ⟨(d,.agg cs.toArray)::e,H,l⟩:=by
 rw [Ur X5]
 cases Vf e ps with
 | none=>rfl
 | some v=>simp only [Q4]; cases fillL zero v<;>cases q<;>rfl
theorem Qkm {cells:List Value} {len:Nat} {ps:List (Nat×Nat×Operand)} {d:Nat} {r:List AOper} {e:Env} {H:List Ob} {l:List Nat}:steps T b q (⟨some d,.buildSlice cells len ps,none⟩::r) ⟨e,H,l⟩=(Vf e ps).bind fun ps=>(fillL cells ps).bind fun cs=>steps T b q r ⟨(d,.slice (some ⟨H.length,0,none⟩) len len)::e,H++[⟨cs,true,true,true,1⟩],l⟩:=by
 simp only [steps,guardOf,Jg,Z1,Env.put,Ob.fresh]
 cases Vf e ps with
 | none=>rfl
 | some v=>simp only [Q4]; cases fillL cells v<;>cases q<;>rfl
theorem Qnc {off:Nat} {x:Operand} {d:Nat} {r:List AOper} {e:Env} {H:List Ob} {l:List Nat}:steps T b q (⟨some d,.fieldAddr off x,none⟩::r) ⟨e,H,l⟩=(opd e x).bind fun x=>(Qh5 off x).bind fun v=>steps T b q r ⟨(d,v)::e,H,l⟩:=by
 rw [Ur Jo]
 cases opd e x<;>cases q<;>rfl
theorem Qnb {len es:Nat} {x i:Operand} {d:Nat} {r:List AOper} {e:Env} {H:List Ob} {l:List Nat}:steps T b q (⟨some d,.indexAddr len es x i,none⟩::r) ⟨e,H,l⟩=(opd e x).bind fun x=>(opd e i).bind fun i=>(Qh4 len es x i).bind fun v=>steps T b q r ⟨(d,v)::e,H,l⟩:=by
 rw [Ur Jn]
 cases opd e x<;>cases opd e i<;>cases q<;>rfl
theorem Qr6 {es:Nat} {x i:Operand} {d:Nat} {r:List AOper} {e:Env} {H:List Ob} {l:List Nat}:steps T b q (⟨some d,.indexSl es x i,none⟩::r) ⟨e,H,l⟩=(opd e x).bind fun x=>(opd e i).bind fun i=>(Qnz es x i).bind fun v=>steps T b q r ⟨(d,v)::e,H,l⟩:=by
 rw [Ur J6]
 cases opd e x<;>cases opd e i<;>cases q<;>rfl
theorem Qpq {n es:Nat} {x:Operand} {lo hi mx:Option Operand} {d:Nat} {r:List AOper} {e:Env} {H:List Ob} {l:List Nat}:steps T b q (⟨some d,.sliceArr n es x lo hi mx,none⟩::r) ⟨e,H,l⟩=(opd e x).bind fun x=>(V1 e lo).bind fun lo=>(V1 e hi).bind fun hi=>(V1 e mx).bind fun mx=>(Qfu n es lo hi mx x).bind fun v=>steps T b q r ⟨(d,v)::e,H,l⟩:=by
 rw [Ur Js]
 cases opd e x<;>cases V1 e lo<;>cases V1 e hi<;>cases V1 e mx<;>cases q<;>rfl
theorem Qr4 {es:Nat} {x:Operand} {lo hi mx:Option Operand} {d:Nat} {r:List AOper} {e:Env} {H:List Ob} {l:List Nat}:steps T b q (⟨some d,.sliceSl es x lo hi mx,none⟩::r) ⟨e,H,l⟩=(opd e x).bind fun x=>(V1 e lo).bind fun lo=>(V1 e hi).bind fun hi=>(V1 e mx).bind fun mx=>(vSliceSl H es lo hi mx x).bind fun v=>steps T b q r ⟨(d,v)::e,H,l⟩:=by
 simp only [steps,guardOf,J4,Z1,Env.put]
 cases opd e x with
 | none=>rfl
 | some v =>
  cases V1 e lo with
  | none=>rfl
  | some lo =>
   cases V1 e hi with
   | none=>rfl
   | some hi =>
    cases V1 e mx with
    | none=>rfl
    | some mx =>
     simp only [Q4]
     cases v<;>try rfl
     rename_i base len cap
     cases base with
     | some a =>
      simp only [vSliceSl]
      cases Y9 len cap lo hi mx with
      | none=>rfl
      | some r =>
       simp only [Q4]
       cases liveAt H a.block with
       | none=>rfl
       | some o=>simp only [Q4]; split<;>cases q<;>rfl
     | none =>
      cases len<;>cases cap<;>try rfl
      simp only [vSliceSl]
      cases Y9 0 0 lo hi mx<;>cases q<;>rfl
theorem Qpp {x:Operand} {lo hi:Option Operand} {d:Nat} {r:List AOper} {e:Env} {H:List Ob} {l:List Nat}:steps T b q (⟨some d,.sliceStr x lo hi,none⟩::r) ⟨e,H,l⟩=(opd e x).bind fun x=>(V1 e lo).bind fun lo=>(V1 e hi).bind fun hi=>(Qkz lo hi x).bind fun v=>steps T b q r ⟨(d,v)::e,H,l⟩:=by
 rw [Ur Jr]
 cases opd e x<;>cases V1 e lo<;>cases V1 e hi<;>cases q<;>rfl
def Qxf (zero:List Value) (bytes:Nat) (id:Nat):Value→Value→Option (Value×Ob)
 | .int _ l,.int _ c=>if 0≤l∧l≤c∧c*bytes≤2^47∧0<bytes∧0<zero.length then some (.slice (some ⟨id,0,none⟩) l.toNat c.toNat,⟨(Qa c.toNat zero).flatten,true,true,true,1⟩) else none
 | _,_=>none
theorem Qna {zero:List Value} {bytes:Nat} {x y:Operand} {d:Nat} {r:List AOper} {e:Env} {H:List Ob} {l:List Nat}:steps T b q (⟨some d,.makeSlice zero bytes x y,none⟩::r) ⟨e,H,l⟩=(opd e x).bind fun x=>(opd e y).bind fun y=>(Qxf zero bytes H.length x y).bind fun v=>steps T b q r ⟨(d,v.1)::e,H++[v.2],l⟩:=by
 simp only [steps,guardOf,Jm,Z1,Env.put]
 cases opd e x with
 | none=>rfl
 | some v =>
  cases opd e y with
  | none=>rfl
  | some w =>
   simp only [Q4]
   unfold Qxf
   cases v<;>try rfl
   cases w<;>try rfl
   dsimp only
   split<;>cases q<;>rfl
theorem Qr7 {x:Operand} {i d:Nat} {r:List AOper} {e:Env} {H:List Ob} {l:List Nat}:steps T b q (⟨some d,.extract x i,none⟩::r) ⟨e,H,l⟩=(opd e x).bind fun x=>(Qn0 i x).bind fun v=>steps T b q r ⟨(d,v)::e,H,l⟩:=by
 rw [Ur J7]
 cases opd e x<;>cases q<;>rfl
theorem Qr5 {t:TypeId} {x:Operand} {d:Nat} {r:List AOper} {e:Env} {H:List Ob} {l:List Nat}:steps T b q (⟨some d,.mkIface t x,none⟩::r) ⟨e,H,l⟩=(opd e x).bind fun x=>steps T b q r ⟨(d,.iface t x)::e,H,l⟩:=by
 rw [Ur J5]
 cases opd e x<;>cases q<;>rfl
theorem Qvx {fn:Fn} {fs cs:List Operand} {d:Nat} {r:List AOper} {e:Env} {H:List Ob} {l:List Nat}:steps T b q (⟨some d,.mkFunc fn fs cs,none⟩::r) ⟨e,H,l⟩=(Wt e fs).bind fun fs=>(Wt e cs).bind fun cs=>steps T b q r ⟨(d,.func fn fs.toArray cs.toArray)::e,H,l⟩:=by
 rw [Ur Xj]
 cases Wt e fs<;>cases Wt e cs<;>cases q<;>rfl
theorem Qpr {x:Operand} {d:Nat} {r:List AOper} {e:Env} {H:List Ob} {l:List Nat}:steps T b q (⟨some d,.nilCheck x,none⟩::r) ⟨e,H,l⟩=(opd e x).bind fun x=>(Qk0 x).bind fun v=>steps T b q r ⟨(d,v)::e,H,l⟩:=by
 rw [Ur Jt]
 cases opd e x<;>cases q<;>rfl
theorem Q36 {n:Nat} {x:Operand} {d:Nat} {r:List AOper} {e:Env} {H:List Ob} {l:List Nat}:steps T b q (⟨some d,.s2ap n x,none⟩::r) ⟨e,H,l⟩=(opd e x).bind fun x=>(Q5t n x).bind fun v=>steps T b q r ⟨(d,v)::e,H,l⟩:=by
 rw [Ur Ki]
 cases opd e x<;>cases q<;>rfl
theorem Q7o {str:Bool} {x:Operand} {d:Nat} {r:List AOper} {e:Env} {H:List Ob} {l:List Nat}:steps T b q (⟨some d,.len str x,none⟩::r) ⟨e,H,l⟩=(opd e x).bind fun x=>(vLen str x).bind fun v=>steps T b q r ⟨(d,v)::e,H,l⟩:=by
 rw [Ur K7]
 cases opd e x<;>cases q<;>rfl
theorem Qvy {mx:Bool} {x y:Operand} {d:Nat} {r:List AOper} {e:Env} {H:List Ob} {l:List Nat}:steps T b q (⟨some d,.minmax mx x y,none⟩::r) ⟨e,H,l⟩=(opd e x).bind fun x=>(opd e y).bind fun y=>(Qd6 mx x y).bind fun v=>steps T b q r ⟨(d,v)::e,H,l⟩:=by
 rw [Ur Xk]
 cases opd e x<;>cases opd e y<;>cases q<;>rfl
def Q1y (id:Nat):Value→Option (Value×Ob)
 | .string s=>if s.size≤2^47 then some (.slice (some ⟨id,0,none⟩) s.size s.size,⟨s.data.toList.map fun b=>.int .u8 b.toNat,true,true,false,1⟩) else none
 | _=>none
theorem Q7m {x:Operand} {d:Nat} {r:List AOper} {e:Env} {H:List Ob} {l:List Nat}:steps T b q (⟨some d,.s2b x,none⟩::r) ⟨e,H,l⟩=(opd e x).bind fun x=>(Q1y H.length x).bind fun v=>steps T b q r ⟨(d,v.1)::e,H++[v.2],l⟩:=by
 simp only [steps,guardOf,Kz,Z1,Env.put,Ob.grown]
 cases opd e x with
 | none=>rfl
 | some v =>
  cases v<;>try rfl
  simp only [Q4,Q1y]
  split<;>cases q<;>rfl
theorem Q7s {x:Operand} {d:Nat} {r:List AOper} {e:Env} {H:List Ob} {l:List Nat}:steps T b q (⟨some d,.b2s x,none⟩::r) ⟨e,H,l⟩=(opd e x).bind fun x=>(Qmh H x).bind fun v=>steps T b q r ⟨(d,v)::e,H,l⟩:=by
 simp only [steps,guardOf,Vb,Z1,Env.put]
 cases opd e x with
 | none=>rfl
 | some v =>
  cases v<;>try rfl
  rename_i base n cap
  simp only [Q4,Qmh]
  cases elemsOf H 1 n (.slice base n cap) with
  | none=>rfl
  | some cs =>
   simp only [Q4]
   cases U2 cs<;>cases q<;>rfl
theorem Qv5 {es bytes:Nat} {x y:Operand} {d:Nat} {r:List AOper} {e:Env} {H:List Ob} {l:List Nat}:steps T b q (⟨some d,.append es bytes x y,none⟩::r) ⟨e,H,l⟩=(opd e x).bind fun x=>(opd e y).bind fun y=>(Yz es bytes H x y).bind fun v=>gate ((q && !v.2.2.2.isEmpty)=false) (steps T b q r ⟨(d,v.1)::e,v.2.1,Ja b l v.2.2.2⟩):=by
 simp only [steps,guardOf,Qes,Xl,Z1,Env.put]
 cases opd e x<;>cases opd e y<;>cases q<;>rfl
def Qs3 (H:List Ob) (es:Nat) (d s:Value):Option (Value×List Ob×List Nat):=match d with
 | .slice base dl _=>(lenV s).bind fun sl=>(elemsOf H es (min sl dl) s).bind fun cs=>match base with
   | some a=>(storeAt H a cs).bind fun H'=>some (.int .i64 (min sl dl:Nat),H',[a.block])
   | none=>if dl=0 then some (.int .i64 0,H,[]) else none
 | _=>none
theorem Q4b {es:Nat} {x y:Operand} {d:Option Nat} {r:List AOper} {e:Env} {H:List Ob} {l:List Nat}:steps T b q (⟨d,.copy es x y,none⟩::r) ⟨e,H,l⟩=(opd e x).bind fun x=>(opd e y).bind fun y=>(Qs3 H es x y).bind fun v=>gate ((q && !v.2.2.isEmpty)=false) (steps T b q r ⟨e.put d v.1,v.2.1,Ja b l v.2.2⟩):=by
 simp only [steps,guardOf,Qes,Kl,Z1]
 cases opd e x with
 | none=>rfl
 | some v =>
  cases opd e y with
  | none=>rfl
  | some s =>
   simp only [Q4]
   cases v<;>try rfl
   rename_i base dl cap
   unfold Qs3
   dsimp only
   cases lenV s with
   | none=>rfl
   | some sl =>
    simp only [Q4]
    cases elemsOf H es (min sl dl) s with
    | none=>rfl
    | some cs =>
     simp only [Q4]
     cases base with
     | none=>dsimp only; split<;>cases q<;>rfl
     | some a=>dsimp only; cases storeAt H a cs<;>cases q<;>rfl
theorem M8 {f:Nat} {xs:List Operand} {d:Option Nat} {r:List AOper} {e:Env} {H:List Ob} {l:List Nat}:steps T b q (⟨d,.call f xs true,none⟩::r) ⟨e,H,l⟩=(Wt e xs).bind fun args=>gate (args.all rf=true) ((Vv T f args []).bind fun v=>gate (rf v.1=true) (steps T b q r ⟨e.put d v.1,H,l⟩)):=by
 simp only [steps,guardOf,J0]
 cases Wt e xs with
 | none=>rfl
 | some args =>
  simp only [Q4]
  cases args.all rf with
  | false=>rfl
  | true =>
   simp only [if_true,Qlv]
   cases Vv T f args [] with
   | none=>rfl
   | some v =>
    simp only [Q4]
    cases rf v.1<;>cases q<;>rfl
theorem Q0e {f:Nat} {xs:List Operand} {d:Option Nat} {r:List AOper} {e:Env} {H:List Ob} {l:List Nat}:steps T b q (⟨d,.call f xs false,none⟩::r) ⟨e,H,l⟩=(Wt e xs).bind fun args=>(Vv T f args H).bind fun v=>gate ((q && !v.2.2.isEmpty)=false) (steps T b q r ⟨e.put d v.1,v.2.1,Ja b l v.2.2⟩):=by
 simp only [steps,guardOf,Qes,Kn]
 cases Wt e xs with
 | none=>rfl
 | some args =>
  simp only [Z2,if_false,Q4]
  cases Vv T f args H<;>cases q<;>rfl
def callee:Value→List Value→Option (Nat×List Value)
 | .func (.func f) first captured,args=>some (f,first.toList++args++captured.toList)
 | _,_=>none
theorem Qwi {f:Operand} {xs:List Operand} {e:Env} {H:List Ob}:Yw T (.callv f xs) e H=(opd e f).bind fun f=>(Wt e xs).bind fun args=>(callee f args).bind fun c=>(Vv T c.1 c.2 H).bind fun r=>some (r.1,r.2.1,none,r.2.2):=by
 rw [Yw.eq_def]
 dsimp only
 cases opd e f with
 | none=>rfl
 | some fv =>
  cases Wt e xs with
  | none =>
   cases fv<;>try rfl
   rename_i fn _ _
   cases fn<;>rfl
  | some args =>
   cases fv<;>try rfl
   rename_i fn _ _
   cases fn<;>rfl
theorem Q0d {f:Operand} {xs:List Operand} {d:Option Nat} {r:List AOper} {e:Env} {H:List Ob} {l:List Nat}:steps T b q (⟨d,.callv f xs,none⟩::r) ⟨e,H,l⟩=(opd e f).bind fun f=>(Wt e xs).bind fun args=>(callee f args).bind fun c=>(Vv T c.1 c.2 H).bind fun v=>gate ((q && !v.2.2.isEmpty)=false) (steps T b q r ⟨e.put d v.1,v.2.1,Ja b l v.2.2⟩):=by
 simp only [steps,guardOf,Qes,Qwi]
 cases opd e f with
 | none=>rfl
 | some fv =>
  cases Wt e xs with
  | none=>rfl
  | some args =>
   simp only [Q4]
   cases callee fv args with
   | none=>rfl
   | some c=>simp only [Q4]; cases Vv T c.1 c.2 H<;>cases q<;>rfl
end
theorem hget0 {H l:List Ob}:(H++l)[H.length]?=l[0]? := by rw [Qr (Zf _),Jc]
theorem hgetK {H l:List Ob} {k:Nat}:(H++l)[H.length+k]?=l[k]? := by rw [Qr (by omega)]; congr 1; omega
theorem Qz3 {H l:List Ob} {o:Ob}:(H++l).set H.length o=H++l.set 0 o:=by rw [Yf _ _ (Zf _),Jc]
theorem hsetK {H l:List Ob} {o:Ob} {k:Nat}:(H++l).set (H.length+k) o=H++l.set k o:=by rw [Yf _ _ (by omega)]; congr 2; omega
theorem Kt {cs v:List Value} (h:v.length=cs.length):splice cs 0 v=v:=by
 rw [Gh _ _ _ (by omega),Q0,Zc,Zz,h,List.drop_length,Jj]
theorem Qq7 {cs:List Value} {n:Nat} (h:cs.length=n):(cs.drop 0).take n=cs:=by rw [Q2,Zj (by omega)]
theorem He:∀ {n:Nat} {p q:List Nat},p.length=n→q.length=n→Wj (Qa n true) (u8s p) (u8s q)=some (p==q)
 | 0,[],[],_,_=>rfl
 | n+1,x::p,y::q,hp,hq=>by
  have:=He (n:=n) (p:=p) (q:=q) (by simpa using hp) (by simpa using hq)
  simp only [u8s,Wi,Dp,Wj,Qd2,if_true,Q4] at this ⊢
  rw [this]
  simp only [Q4,List.cons_beq_cons]
  congr 2
  by_cases h:x=y
  ·subst h; simp
  ·have:¬ ((x:Int)=y):=by omega
   rw [beq_eq_false_iff_ne.2 h,beq_eq_false_iff_ne.2 this]
theorem Qyg (l:List Nat):rf (.agg (u8s l).toArray)=true:=by
 show (u8s l).toArray.toList.all scalarRf=true
 rw [show (u8s l).toArray.toList=u8s l from rfl]
 simp [u8s,scalarRf]
theorem Qtd (b:Bool):rf (.bool b)=true:=rfl
theorem Q1f (l:List Value):l.toArray.toList=l:=rfl
theorem Grown.len {k:IntKind} {B:Nat} {H:List Ob} {s:Value} {bs:List Nat} (h:Grown k B H s bs):vLen false s=some (.int .i64 bs.length):=by cases h<;>rfl
theorem Sl.len {k:IntKind} {H:List Ob} {s:Value} {bs:List Nat} (h:Sl k H s bs):vLen false s=some (.int .i64 bs.length):=by cases h<;>rfl
section
variable {e:Env} {H:List Ob}
theorem Q24 {t:Nat}:opd e (.tmp t)=e.get t:=Eq.trans rfl rfl
theorem Qu7 {v:Value}:opd e (.const v)=some v:=Eq.trans rfl rfl
theorem Qy4 {f:FuncId}:opd e (.func f)=some (.func (.func f) #[] #[]):=Eq.trans rfl rfl
theorem Qy3:Wt e []=some []:=Eq.trans rfl rfl
theorem Qu6 {x:Operand} {r:List Operand}:Wt e (x::r)=(opd e x).bind fun v=>(Wt e r).bind fun vs=>some (v::vs):=Eq.trans rfl rfl
theorem Qov:V1 e none=some none:=Eq.trans rfl rfl
theorem Qou {x:Operand}:V1 e (some x)=(opd e x).bind fun v=>some (some v):=Eq.trans rfl rfl
theorem Qmz:Vf e []=some []:=Eq.trans rfl rfl
theorem Qkf {o n:Nat} {x:Operand} {r:List (Nat×Nat×Operand)}:Vf e ((o,n,x)::r)=(opd e x).bind fun v=>(Vf e r).bind fun vs=>some ((o,n,v)::vs):=Eq.trans rfl rfl
theorem Q34 {t:Nat} {v:Value} {r:Env}:Env.get ((t,v)::r) t=some v:=by simp [Env.get]
theorem Qz6 {t u:Nat} {v:Value} {r:Env} (h:(t=u)=False):Env.get ((u,v)::r) t=Env.get r t:=by simp [Env.get,h]
theorem Q10 {a b:Value}:Qxe (.bool true) a b=some a:=Eq.trans rfl rfl
theorem Q11 {a b:Value}:Qxe (.bool false) a b=some b:=Eq.trans rfl rfl
theorem Qs2 {ks:List Bool} {a b:Array Value}:vEq (some ks) false (.agg a) (.agg b)=(Wj ks a.toList b.toList).bind fun c=>some (.bool c):=Eq.trans rfl rfl
theorem Qh6 {ks:List Bool} {a b:Array Value}:vEq (some ks) true (.agg a) (.agg b)=(Wj ks a.toList b.toList).bind fun c=>some (.bool !c):=Eq.trans rfl rfl
theorem Qxi {a b:Bool}:vEq none false (.bool a) (.bool b)=some (.bool (a==b)):=Eq.trans rfl rfl
theorem Quf {a b:Bool}:vEq none true (.bool a) (.bool b)=some (.bool !(a==b)):=Eq.trans rfl rfl
theorem Quh {k j:IntKind} {n:Int}:Q5u k (.int j n)=some (.int k (k.wrap n)):=Eq.trans rfl rfl
theorem Q6c {s:ByteArray}:vStr (.string s)=some (.string s):=Eq.trans rfl rfl
theorem Qq2 {n:Option Nat} {off:Nat} {cs:Array Value}:Qxh n off (.agg cs)=Yq n cs.toList off:=Eq.trans rfl rfl
theorem Qdm {n:Option Nat} {len es:Nat} {cs:Array Value} {k:IntKind} {i:Int}:Qme n len es (.agg cs) (.int k i)=gate (0≤i∧i<len) (Yq n cs.toList (i.toNat*es)):=Eq.trans rfl rfl
theorem Qny {s:ByteArray} {k:IntKind} {i:Int}:Qk1 (.string s) (.int k i)=gate (0≤i) ((s.data.toList[i.toNat]?).bind fun b=>some (.int .u8 b.toNat)):=Eq.trans rfl rfl
theorem Qmf {off b o:Nat}:Qh5 off (.pointer (some ⟨b,o,none⟩))=some (.pointer (some ⟨b,o+off,none⟩)):=by rw [←Vn]; rfl
theorem Qmd {len es b o:Nat} {k:IntKind} {i:Int}:Qh4 len es (.pointer (some ⟨b,o,none⟩)) (.int k i)=gate (0≤i∧i<len) (some (.pointer (some ⟨b,o+i.toNat*es,none⟩))):=by rw [←Vn]; rfl
theorem Qq1 {es b o len cap:Nat} {k:IntKind} {i:Int}:Qnz es (.slice (some ⟨b,o,none⟩) len cap) (.int k i)=gate (0≤i∧i<len) (some (.pointer (some ⟨b,o+i.toNat*es,none⟩))):=by rw [←Vn]; rfl
theorem Qnv {n es b o:Nat} {lo hi mx:Option Value}:Qfu n es lo hi mx (.pointer (some ⟨b,o,none⟩))=(Y9 n n lo hi mx).bind fun r=>some (.slice (some ⟨b,o+r.1*es,none⟩) (r.2.1-r.1) (r.2.2-r.1)):=by
 simp only [Qfu,Vn]
theorem Qui {i o n c:Nat}:Qhl H (.slice (some ⟨i,o,none⟩) n c)=(liveAt H i).bind fun ob=>gate (ob.own=true) (some (.slice (some ⟨i,o,none⟩) n c)):=by
 simp only [Qhl,gate,Z9,and_true]
theorem Qae {es b o len cap:Nat} {lo hi mx:Option Value}:vSliceSl H es lo hi mx (.slice (some ⟨b,o,none⟩) len cap)=(Y9 len cap lo hi mx).bind fun r=>(liveAt H b).bind fun ob=>gate (ob.exact∨¬ ob.own∨es≤ob.es) (some (.slice (some ⟨b,o+r.1*es,none⟩) (r.2.1-r.1) (r.2.2-r.1))):=by
 simp only [vSliceSl,Vn,gate]
theorem Qq0 {es:Nat} {lo hi mx:Option Value}:vSliceSl H es lo hi mx (.slice none 0 0)=(Y9 0 0 lo hi mx).bind fun _=>some (.slice none 0 0):=Eq.trans rfl rfl
theorem Qnu {s:ByteArray} {lo hi:Option Value}:Qkz lo hi (.string s)=(Y9 s.size s.size lo hi none).bind fun r=>some (.string (s.extract r.1 r.2.1)):=Eq.trans rfl rfl
theorem Ms {i:Nat} {vs:Array Value}:Qn0 i (.tuple vs)=vs.toList[i]? := Eq.trans rfl rfl
theorem Qnw {a:Addr}:Qk0 (.pointer (some a))=some (.pointer (some a)):=Eq.trans rfl rfl
theorem Q1z {n:Nat} {a:Addr} {len cap:Nat}:Q5t n (.slice (some a) len cap)=gate (n≤len∧0<n) (some (.pointer (some a))):=Eq.trans rfl rfl
theorem Q6f {a:Option Addr} {n c:Nat}:vLen false (.slice a n c)=some (.int .i64 n):=Eq.trans rfl rfl
theorem Qxg {s:ByteArray}:vLen true (.string s)=some (.int .i64 s.size):=Eq.trans rfl rfl
theorem Q6d {k:IntKind} {a b:Int}:Qd6 false (.int k a) (.int k b)=some (.int k (if b<a then b else a)):=by simp [Qd6]
theorem Q6e {k:IntKind} {a b:Int}:Qd6 true (.int k a) (.int k b)=some (.int k (if b>a then b else a)):=by simp [Qd6]
theorem Q13 {n:Option Nat} {b o:Nat}:Qnx H n (.pointer (some ⟨b,o,none⟩))=(liveAt H b).bind fun ob=>Yq n ob.cells o:=by simp [Qnx]
theorem Qxc {n b o:Nat} {v:Value}:Qqz H n (.pointer (some ⟨b,o,none⟩)) v=gate (v.cells.size=n∧okVar v=true) (storeAt H ⟨b,o,none⟩ v.cells.toList):=Eq.trans rfl rfl
theorem Q5i {b o:Nat}:Q1d (.pointer (some ⟨b,o,none⟩))=[b]:=rfl
theorem Qmg {a:Option Addr} {n c:Nat}:Qmh H (.slice a n c)=(elemsOf H 1 n (.slice a n c)).bind fun cs=>(U2 cs).bind fun l=>some (.string ⟨l.toArray⟩):=Eq.trans rfl rfl
theorem Q12 {zero:List Value} {bytes id:Nat} {k j:IntKind} {l c:Int}:Qxf zero bytes id (.int k l) (.int j c)=gate (0≤l∧l≤c∧c*bytes≤2^47∧0<bytes∧0<zero.length) (some (.slice (some ⟨id,0,none⟩) l.toNat c.toNat,⟨(Qa c.toNat zero).flatten,true,true,true,1⟩)):=Eq.trans rfl rfl
theorem Qxd {id:Nat} {s:ByteArray}:Q1y id (.string s)=gate (s.size≤2^47) (some (.slice (some ⟨id,0,none⟩) s.size s.size,⟨s.data.toList.map fun b=>.int .u8 b.toNat,true,true,false,1⟩)):=Eq.trans rfl rfl
theorem Q06 {f:FuncId} {a b:Array Value} {args:List Value}:callee (.func (.func f) a b) args=some (f,a.toList++args++b.toList):=Eq.trans rfl rfl
theorem Qvp {id:Nat}:liveAt H id=(H[id]?).bind fun o=>gate (o.live=true) (some o):=Eq.trans rfl rfl
theorem Qie {b o:Nat} {v:List Value}:storeAt H ⟨b,o,none⟩ v=(liveAt H b).bind fun ob=>gate (ob.own=true∧o+v.length≤ob.cells.length) (some (H.set b ⟨splice ob.cells o v,ob.live,ob.own,ob.exact,ob.es⟩)):=by simp [storeAt,gate]
theorem Qrh {cs:List Value} {off:Nat}:Yq none cs off=cs[off]? := Eq.trans rfl rfl
theorem Qrg {n:Nat} {cs:List Value} {off:Nat}:Yq (some n) cs off=gate (off+n≤cs.length) (some (.agg ((cs.drop off).take n).toArray)):=Eq.trans rfl rfl
theorem Mz {y d:Nat}:Gn none y d=some d:=Eq.trans rfl rfl
theorem Qvg {k:IntKind} {i:Int} {y d:Nat}:Gn (some (.int k i)) y d=gate (0≤i∧i≤y) (some i.toNat):=Eq.trans rfl rfl
theorem Bj {len cap:Nat} {lo hi:Option Value}:Y9 len cap lo hi none=(Gn hi cap len).bind fun h=>(Gn lo h 0).bind fun l=>some (l,h,cap):=by simp [Y9,Gn]
theorem Q5f {k:IntKind} {a b:Int}:We .add (.int k a) (.int k b)=some (.int k (k.wrap (a+b))):=by simp [We,Yh]
theorem Q41 {k:IntKind} {a b:Int}:We .sub (.int k a) (.int k b)=some (.int k (k.wrap (a-b))):=by simp [We,Yh]
theorem Q48 {k:IntKind} {a b:Int}:We .mul (.int k a) (.int k b)=some (.int k (k.wrap (a*b))):=by simp [We,Yh]
theorem Q46 {k:IntKind} {a b:Int} (h:(b=0)=False):We .quo (.int k a) (.int k b)=some (.int k (k.wrap (a.tdiv b))):=by simp [We,Yh,h]
theorem Q45 {k:IntKind} {a b:Int} (h:(b=0)=False):We .rem (.int k a) (.int k b)=some (.int k (a.tmod b)):=by simp [We,Yh,h]
theorem Q5e {k:IntKind} {a b:Int}:We .and (.int k a) (.int k b)=some (.int k (Vo .and k a b)):=by simp [We,Yh]
theorem Q77 {k:IntKind} {a b:Int}:We .or (.int k a) (.int k b)=some (.int k (Vo .or k a b)):=by simp [We,Yh]
theorem Q40 {k:IntKind} {a b:Int}:We .xor (.int k a) (.int k b)=some (.int k (Vo .xor k a b)):=by simp [We,Yh]
theorem Qso {k:IntKind} {a b:Int}:We .andNot (.int k a) (.int k b)=some (.int k (Vo .andNot k a b)):=by simp [We,Yh]
theorem Q5d {k:IntKind} {a b:Int}:We .eql (.int k a) (.int k b)=some (.bool (a==b)):=by simp [We,Yh]
theorem Q47 {k:IntKind} {a b:Int}:We .neq (.int k a) (.int k b)=some (.bool (a != b)):=by simp [We,Yh]
theorem Q49 {k:IntKind} {a b:Int}:We .lss (.int k a) (.int k b)=some (.bool (decide (a<b))):=by simp [We,Yh]
theorem Q5a {k:IntKind} {a b:Int}:We .leq (.int k a) (.int k b)=some (.bool (decide (a≤b))):=by simp [We,Yh]
theorem Q5b {k:IntKind} {a b:Int}:We .gtr (.int k a) (.int k b)=some (.bool (decide (b<a))):=by simp [We,Yh]
theorem Q5c {k:IntKind} {a b:Int}:We .geq (.int k a) (.int k b)=some (.bool (decide (b≤a))):=by simp [We,Yh]
theorem Q43 {k j:IntKind} {a b:Int} (h:(b<0)=False):We .shl (.int k a) (.int j b)=some (.int k (k.wrap (a*2^(min b.toNat k.bits)))):=by simp [We,Ye,h]
theorem Q42 {k j:IntKind} {a b:Int} (h:(b<0)=False):We .shr (.int k a) (.int j b)=some (.int k (a.fdiv (2^(min b.toNat k.bits)))):=by simp [We,Ye,h]
theorem Qql {a b:ByteArray}:We .add (.string a) (.string b)=gate (a.size+b.size≤2^47) (some (.string (a++b))):=Eq.trans rfl rfl
theorem Q1b {a b:ByteArray}:We .eql (.string a) (.string b)=some (.bool (a.toList==b.toList)):=Eq.trans rfl rfl
theorem Qqk {a b:ByteArray}:We .neq (.string a) (.string b)=some (.bool !(a.toList==b.toList)):=Eq.trans rfl rfl
theorem Q6h {b:Bool}:unV .not (.bool b)=some (.bool !b):=Eq.trans rfl rfl
theorem Q6i {k:IntKind} {n:Int}:unV .neg (.int k n)=some (.int k (k.wrap (0-n))):=Eq.trans rfl rfl
theorem Q6g {k:IntKind} {n:Int}:unV .xor (.int k n)=some (.int k (Vo .xor k (if k.signed then -1 else k.max) n)):=Eq.trans rfl rfl
theorem Qss {l:List Nat} {k:List Nat}:St.after ⟨e,H,l⟩ (some k)=⟨e.keep k,H,l⟩:=rfl
theorem Qyn {d:Nat} {v:Value}:Env.put e (some d) v=(d,v)::e:=rfl
theorem Qyo {v:Value}:Env.put e none v=e:=rfl
theorem Q2k:Vg e H []=some []:=Eq.trans rfl rfl
theorem Q2j {t:Nat} {r:List (Nat×Option (Option Nat))}:Vg e H ((t,none)::r)=(e.get t).bind fun v=>(Vg e H r).bind fun vs=>some (v::vs):=Eq.trans rfl rfl
theorem Q2i {t:Nat} {n:Option Nat} {r:List (Nat×Option (Option Nat))}:Vg e H ((t,some n)::r)=(e.get t).bind fun p=>(Qnx H n p).bind fun v=>(Vg e H r).bind fun vs=>some (v::vs):=Eq.trans rfl rfl
theorem Qrn {v:Value}:packed [v]=v:=rfl
theorem Qrl {v w:Value} {r:List Value}:packed (v::w::r)=.tuple (v::w::r).toArray:=rfl
theorem Qvn {b:Nat} {l:List Nat}:Ja b l []=l:=rfl
theorem Qzs {b i:Nat} {l r:List Nat} (h:b≤i):Ja b l (i::r)=Ja b l r:=by
 have h1:¬ i<b:=by omega
 simp only [Ja,h1,false_and,if_false]
theorem Q3f {k:IntKind} {n:Int}:okVar (.int k n)=true:=rfl
theorem Qzh {b:Bool}:okVar (.bool b)=true:=rfl
theorem Q3d {s:ByteArray}:okVar (.string s)=true:=rfl
theorem Q3g {a:Array Value}:okVar (.agg a)=true:=rfl
theorem Q3e {a:Option Addr}:okVar (.pointer a)=true:=rfl
theorem Qvc {a:Option Addr} {n c:Nat}:okVar (.slice a n c)=true:=rfl
theorem Qzg {f:Fn} {a b:Array Value}:okVar (.func f a b)=true:=rfl
theorem Qo3:okVar .nilFunc=true:=rfl
theorem Qvd {t:TypeId} {v:Value}:okVar (.iface t v)=true:=rfl
theorem Qm3:okVar .nilIface=true:=rfl
theorem Qsk (b:Bool):(Value.bool b).cells.toList=[.bool b]:=rfl
theorem Qhe (b:Bool):(Value.bool b).cells.size=1:=rfl
theorem Qwq (a:Option Addr):(Value.pointer a).cells.toList=[.pointer a]:=rfl
theorem Qjl (a:Option Addr):(Value.pointer a).cells.size=1:=rfl
theorem Qqf (a:Option Addr) (n c:Nat):(Value.slice a n c).cells.toList=[.slice a n c]:=rfl
theorem Qgm (a:Option Addr) (n c:Nat):(Value.slice a n c).cells.size=1:=rfl
theorem Qwp (s:ByteArray):(Value.string s).cells.toList=[.string s]:=rfl
theorem Qjk (s:ByteArray):(Value.string s).cells.size=1:=rfl
theorem Dx {a b:Value} (h1:Qdd a=true) (h2:Qdd b=true):rf (.tuple #[a,b])=true:=by simp [rf,h1,h2]
theorem Qyi {k:IntKind} {n:Int}:Qdd (.int k n)=true:=rfl
theorem Qux {b:Bool}:Qdd (.bool b)=true:=rfl
theorem Qed (l:List Nat):Qdd (.agg (u8s l).toArray)=true:=Qyg l
theorem Q6r {s:ByteArray}:rf (.string s)=true:=rfl
theorem Qyh {s:ByteArray}:Qdd (.string s)=true:=rfl
end
def cF:=Zd (Zd (Zd (Zd (Zd (Zd (Zd (@Kg) (Zd (@Ko) (@Vc))) (Zd (@Qv0) (Zd (@Qv1) (@Qv3)))) (Zd (Zd (@Qv2) (Zd (@Qv4) (@Vd))) (Zd (@Qzy) (Zd (@Qvs) (@Q4d))))) (Zd (Zd (Zd (@Qvw) (Zd (@Q7n) (@Q0b))) (Zd (@Q38) (Zd (@Q37) (@Q0g)))) (Zd (Zd (@Q7q) (Zd (@Q4a) (@Qz8))) (Zd (@Q7r) (Zd (@Q7p) (@Qz9)))))) (Zd (Zd (Zd (Zd (@fs_un) (Zd (@Q4c) (@Qr8))) (Zd (@Qvz) (Zd (@Q0c) (@Q0a)))) (Zd (Zd (@Qps) (Zd (@Q0f) (@Qkm))) (Zd (@Qnc) (Zd (@Qnb) (@Qr6))))) (Zd (Zd (Zd (@Qpq) (Zd (@Qr4) (@Qpp))) (Zd (@Qna) (Zd (@Qr7) (@Qr5)))) (Zd (Zd (@Qvx) (Zd (@Qpr) (@Q36))) (Zd (@Q7o) (Zd (@Qvy) (@Q7m))))))) (Zd (Zd (Zd (Zd (Zd (@Q7s) (Zd (@Qv5) (@Q4b))) (Zd (@Q0e) (Zd (@Q0d) (@Q24)))) (Zd (Zd (@Qu7) (Zd (@Qy4) (@Qy3))) (Zd (@Qu6) (Zd (@Qov) (@Qou))))) (Zd (Zd (Zd (@Qmz) (Zd (@Qkf) (@Qz6))) (Zd (@Q10) (Zd (@Q11) (@Qs2)))) (Zd (Zd (@Qh6) (Zd (@Qxi) (@Quf))) (Zd (@Quh) (Zd (@Q6c) (@Qui)))))) (Zd (Zd (Zd (Zd (@Qq2) (Zd (@Qdm) (@Qny))) (Zd (@Qmf) (Zd (@Qmd) (@Qq1)))) (Zd (Zd (@Qnv) (Zd (@Qae) (@Qq0))) (Zd (@Qnu) (Zd (@Ms) (@Qnw))))) (Zd (Zd (Zd (@Q1z) (Zd (@Q6f) (@Qxg))) (Zd (@Q6d) (Zd (@Q6e) (@Q13)))) (Zd (Zd (@Qxc) (Zd (@Q5i) (@Qmg))) (Zd (@Q12) (Zd (@Qxd) (@Q06)))))))) (Zd (Zd (Zd (Zd (Zd (Zd (@Qvp) (Zd (@Qie) (@Qrh))) (Zd (@Qrg) (Zd (@Mz) (@Qvg)))) (Zd (Zd (@Bj) (Zd (@Q5f) (@Q41))) (Zd (@Q48) (Zd (@Q46) (@Q45))))) (Zd (Zd (Zd (@Q5e) (Zd (@Q77) (@Q40))) (Zd (@Qso) (Zd (@Q5d) (@Q47)))) (Zd (Zd (@Q49) (Zd (@Q5a) (@Q5b))) (Zd (@Q5c) (Zd (@Q43) (@Q42)))))) (Zd (Zd (Zd (Zd (@Qql) (Zd (@Q1b) (@Qqk))) (Zd (@Q6h) (Zd (@Q6i) (@Q6g)))) (Zd (Zd (@Qss) (Zd (@Qyn) (@Qyo))) (Zd (@Q2k) (Zd (@Q2j) (@Q2i))))) (Zd (Zd (Zd (@Qrn) (Zd (@Qrl) (@Qvn))) (Zd (@Qzs) (Zd (@Dx) (@Qyi)))) (Zd (Zd (@Qux) (Zd (@Qed) (@Q6r))) (Zd (@Qyh) (Zd (@Q35) (@gd_ut))))))) (Zd (Zd (Zd (Zd (Zd (@gd_uf) (Zd (@Zc.{0}) (@Zg.{0}))) (Zd (@Ke.{0}) (Zd (@Xc.{0}) (@List.isEmpty_nil.{0})))) (Zd (Zd (@Z2) (Zd (@beq_self_eq_true.{0}) (@bne_self_eq_false.{0}))) (Zd (@Xr) (Zd (@Jz) (@Je))))) (Zd (Zd (Zd (@Xh) (Zd (@false_and) (@Wf))) (Zd (@Qtd) (Zd (@Xi) (@Qyg)))) (Zd (Zd (@Q1f) (Zd (@Yn) (@Xn))) (Zd (@Jq) (Zd (@X7) (@Qc8)))))) (Zd (Zd (Zd (Zd (@Qqv) (Zd (@Vk) (@J1))) (Zd (@Vq) (Zd (@J9) (@Q3f)))) (Zd (Zd (@Qzh) (Zd (@Q3d) (@Q3g))) (Zd (@Q3e) (Zd (@Qvc) (@Qzg))))) (Zd (Zd (Zd (@Qo3) (Zd (@Qvd) (@Qm3))) (Zd (@Qsk) (Zd (@Qhe) (@Qwq)))) (Zd (Zd (@Qjl) (Zd (@Qqf) (@Qgm))) (Zd (@Qwp) (Zd (@Qjk) (@eq_self.{1}))))))))
def pF:=Zd (Zd (@Qlv) (@Q34)) (Zd (@Q4.{0,0}) (Zd (@if_true.{1}) (@if_false.{1})))
def cL:=Zd (Zd (Zd (Zd (Zd (@Yd) (@Vx)) (Zd (@Qsy) (Zd (@Qba) (@Z3.{0})))) (Zd (Zd (@Zx.{0}) (@Zu.{0})) (Zd (@Zy.{0}) (Zd (@Qku.{0}) (@Ma.{0}))))) (Zd (Zd (Zd (@Zz) (@Jk)) (Zd (@Xg) (Zd (@Xq) (@Jf)))) (Zd (Zd (@Int.toNat_zero) (@Int.lt_irrefl)) (Zd (@Kf) (Zd (@Zf) (@and_self)))))) (Zd (Zd (Zd (Zd (@true_and) (@and_true)) (Zd (@decide_true) (Zd (@decide_false) (@Nat.min_self)))) (Zd (Zd (@ge_iff_le.{0}) (@gt_iff_lt.{0})) (Zd (@Z9.{0}) (Zd (@Jb.{0}) (@Option.isNone_some.{0}))))) (Zd (Zd (Zd (@Qa4.{0}) (@Xt)) (Zd (@Xm) (Zd (@Bool.and_false) (@Qhk)))) (Zd (Zd (@not_true_eq_false) (Zd (@not_false_eq_true) (@or_true))) (Zd (@true_or) (Zd (@false_or) (@or_false))))))
def cJ:=Zd (Zd (Zd (@hget0) (@hgetK)) (Zd (@Qz3) (Zd (@hsetK) (@Xd)))) (Zd (Zd (@Kt) (@Qq7)) (Zd (@List.getElem?_nil.{0}) (Zd (@Za.{0}) (@Zw.{0}))))
end Go.Ev
namespace Go.Ev
open Go.RowKit Go.WideShapes Go.ChangeShapes
theorem open_int {P:Program} {w:World} {r:Reach} {base:Nat} {t:TypeId} {v:Value} {k:IntKind} (ht:P.underlying t=some (.int k))
  (h:Value.okWide P w r base t v):∃ x:Int,v=.int k x∧k.min≤x∧x≤k.max:=by
 simp only [Value.okWide,ht,Cell.okWide,Cell.ok] at h
 cases v<;>try (exact h.elim)
 obtain ⟨rfl,h1,h2⟩:=h
 exact ⟨_,rfl,h1,h2⟩
end Go.Ev
namespace Go.Ev
open Go.RowKit Go.WideShapes Go.ChangeShapes
section
variable {P:Program} {T:Tab}
theorem Qws (hm:P.follows .mixedOrders=true) (hT:TabOk P T) {f:Nat} {args args':List Value} {v:Value} {H H':List Ob} {M:List Nat} (h:Vv T f args H=some (v,H',M)) (hn:T.fn f≠none) (hv:rf v=true) {ρ:Pl} {w:World} (hl:LRel ρ args args')
  (hrel:RelF ρ (hp H) w) (hfree:∀ id,H.length≤id→ρ id=none) (hown:∀ (i:Nat) (o:Ob),H[i]?=some o→o.own=false) :
  Calls P f args'.toArray w fun e w'=>e=.returned v∧Below w.heap.size w w':=by
 have h1:=(sound hm hT f args H _ h).1
 have h2:=h1 ρ args' w hl hrel (fun id h _=>hfree id h) { (default:Oper) with dst:=some 0 } { tmps := #[undef],defers:=[] }
  (fun a w'=>∃ v',a.tmps=#[v']∧v'=v∧Below w.heap.size w w') (fun _ _ _=>False) fun v' w' ρ' hp=>⟨v',by simp [Act.put],hp.val.of_rf hv,⟨hp.frm.os,hp.frm.tape,hp.frm.output,hp.frm.size,fun k hk=>hp.frm.blocks k hk fun id ob pl hc _ _ ho=>by rw [hown id ob hc] at ho; cases ho⟩⟩
 obtain ⟨af,haf⟩:=Option.ne_none_iff_exists'.1 hn
 obtain ⟨pf,g1,g2,g3⟩:=hT.fn f af haf
 obtain ⟨code,g4,g5,g6⟩:=Qg7 g2
 have hcf:(callFunc f args'.toArray).run P w=.ok (.enter f args'.toArray) w:=by
  have g3' : ¬ (pf.name = "runtime.NumGoroutine") := by simpa using g3
  simp [callFunc,g1,g3',g4]
 rw [hcf,Oper.upon_enter] at h2
 refine h2.mono fun e w' he => ?_
 cases e with
 | returned v1 =>
  obtain ⟨v',k1,k2,k3⟩:=he
  have:v1=v':=by simpa [Act.put] using k1
  exact ⟨by rw [this,k2],k3⟩
 | panicked c=>exact he.elim
 | outgrown=>obtain ⟨_,_,hx⟩:=he; exact hx.elim
structure Lies8 (w:World) (a:Addr) (len cap:Nat) (l:List Nat):Prop where
 spot:a.spot=none
 at_:∃ cs e fr,w.heap[a.block]?=some (.cells cs e fr)∧(cap=0∨a.off+cap≤cs.size)∧∀ (i x:Nat),l[i]?=some x→cs[a.off+i]?=some (.int .u8 (x:Nat))
 le:len≤cap
 max:cap≤maxLen
 len:l.length=len
 lt:∀ x∈l,x<256
end
end Go.Ev
set_option maxRecDepth 100000
namespace Go.Ev.Ytpgphpkjlpkcbaa
open Go Go.Ev
def Ys:List Value:=Qa 128 (.int .u8 0)++([.int .u32 0,.int .u32 0]++Qa 64 (.int .u8 0))
def zMac:List Value := .pointer none::Qa 64 (.int .u8 0)
abbrev jt (n:Nat):Operand := .tmp n
abbrev ji (n:Int):Operand := .const (.int .i64 n)
abbrev jo (n:Nat) (o:AOp):AOper:=AOper.mk (some n) o none
abbrev jq (o:AOp):AOper:=AOper.mk none o none
abbrev jr (l:List AOper) (k:List Nat):ACode := .region l (some k) []
abbrev js (l:List AOper) (k:List Nat) (c:ACode):ACode := .seq (.region l (some k) []) c
abbrev jx (n m:Nat):ACode := .cond (.tmp n) .skip (.exit m)
abbrev jM (n m:Nat):AOper:=AOper.mk (some n) (.move (.tmp m)) none
abbrev jI (n:Nat) (v:Int):AOper:=AOper.mk (some n) (.move (.const (.int .i64 v))) none
abbrev jL (n k m:Nat):AOper:=AOper.mk (some n) (.load (some k) (.tmp m)) none
abbrev jE (n m:Nat):AOper:=AOper.mk (some n) (.load none (.tmp m)) none
abbrev jS (k a b:Nat):AOper:=AOper.mk none (.store k (.tmp a) (.tmp b)) none
abbrev jF (n k m:Nat):AOper:=AOper.mk (some n) (.fieldAddr k (.tmp m)) none
abbrev jZ (n k:Nat) (i:IntKind):AOper:=AOper.mk (some n) (.alloc (Qa k (.int i 0))) none
abbrev jB (n m:Nat):AOper:=AOper.mk (some n) (.box (.tmp m)) none
abbrev jN (n m:Nat):AOper:=AOper.mk (some n) (.nilCheck (.tmp m)) none
abbrev jO (n:Nat) (o:BinOp) (a b:Nat):AOper:=AOper.mk (some n) (.bin o (.tmp a) (.tmp b)) none
abbrev jP (n:Nat) (o:BinOp) (a:Nat) (v:Int):AOper:=AOper.mk (some n) (.bin o (.tmp a) (.const (.int .i64 v))) none
abbrev jQ (n:Nat) (o:BinOp) (a:Nat) (i:IntKind) (v:Int):AOper:=AOper.mk (some n) (.bin o (.tmp a) (.const (.int i v))) none
abbrev jX (n m i:Nat):AOper:=AOper.mk (some n) (.extract (.tmp m) i) none
abbrev jC (n f a:Nat):AOper:=AOper.mk (some n) (.call f [.tmp a] true) none
abbrev jD (n f a b:Nat):AOper:=AOper.mk (some n) (.call f [.tmp a,.tmp b] true) none
abbrev jG (n f a b c:Nat):AOper:=AOper.mk (some n) (.call f [.tmp a,.tmp b,.tmp c] true) none
abbrev jc (n f a:Nat):AOper:=AOper.mk (some n) (.call f [.tmp a] false) none
abbrev jd (n f a b:Nat):AOper:=AOper.mk (some n) (.call f [.tmp a,.tmp b] false) none
abbrev jA (n l e m:Nat) (v:Int):AOper:=AOper.mk (some n) (.indexAddr l e (.tmp m) (.const (.int .i64 v))) none
abbrev jH (n l e m i:Nat):AOper:=AOper.mk (some n) (.indexAddr l e (.tmp m) (.tmp i)) none
abbrev jJ (n e m i:Nat):AOper:=AOper.mk (some n) (.indexSl e (.tmp m) (.tmp i)) none
abbrev jV (n:Nat) (k:IntKind) (m:Nat):AOper:=AOper.mk (some n) (.conv k (.tmp m)) none
abbrev jY (n m:Nat):AOper:=AOper.mk (some n) (.len false (.tmp m)) none
abbrev jp (o n t:Nat):Nat×Nat×Operand:=(o,n,.tmp t)
abbrev jg (o:Nat) (k:IntKind) (v:Int):Nat×Nat×Operand:=(o,1,.const (.int k v))
abbrev jz (n:Nat):List Value:=Qa n (.int .u8 0)
abbrev jb (n:Nat) (l:List (Nat×Nat×Operand)) (m:Nat):AOper:=AOper.mk (some n) (.build (Qa m (.int .u8 0)) l) none
abbrev jh (n a e t m:Nat):AOper:=AOper.mk (some n) (.append a e (.tmp t) (.tmp m)) none
abbrev jW (n a e m:Nat):AOper:=AOper.mk (some n) (.sliceArr a e (.tmp m) none none none) none
def a16:AFun:=⟨(js [jB 1 0,jZ 2 32 .u8] [1,2] (js [jA 3 32 1 1 0,jE 4 3,jQ 5 .and 4 .u8 248,jA 6 32 1 1 0,jS 1 6 5] [1,2] (js [jA 7 32 1 1 31,jE 8 7,jQ 9 .and 8 .u8 127,jQ 10 .or 9 .u8 64,jA 11 32 1 1 31,jS 1 11 10] [1,2] (js [jL 12 32 1,jS 32 2 12] [2] .ret)))),[(2,(some (some 32)))]⟩
def Qj7:ACode:=(js [jO 9 .lss 8 7] [2,3,6,7,8,9] (.seq (jx 9 0) (.seq (.block 1 (js [jJ 10 1 6 8,jE 11 10,jM 5 11] [2,3,5,6,7,8] (jr [jM 12 3,jM 13 5,jh 14 1 1 12 13,jM 3 14] [2,3,6,7,8]))) (jr [jP 15 .add 8 1,jM 8 15] [2,3,6,7,8]))))
def a17:AFun:=⟨(js [jZ 2 32 .u8] [0,2] (js [jo 3 (.move (.const (.slice none 0 0)))] [0,2,3] (.seq (js [jM 6 0,jY 7 6,jI 8 0] [2,3,6,7,8] (.block 0 (.loop Qj7))) (js [jM 16 3,jc 17 57 16,jc 18 60 17,jc 19 61 18,jS 32 2 19] [2] .ret)))),[(2,(some (some 32)))]⟩
def a19:AFun:=⟨(js [jB 3 0,jB 4 1,jB 5 2,jZ 6 32 .u8] [3,4,5,6] (js [jW 7 32 1 3,jc 8 57 7,jW 9 32 1 4,jc 10 57 9,jd 11 58 8 10,jW 12 32 1 5,jc 13 57 12,jd 14 59 11 13,jc 15 60 14,jc 16 61 15,jS 32 6 16] [6] .ret)),[(6,(some (some 32)))]⟩
def a21:AFun:=⟨(js [jB 1 0,jo 2 (.move (.const (.bool false)))] [1] (js [jW 3 32 1 1,jc 4 57 3,jo 5 (.call 84 [] false),jd 6 83 4 5,jM 2 6] [2] .ret)),[(2,none)]⟩
def a25:AFun:=⟨(js [jZ 0 20 .u64] [0] (js [jb 3 [jg 0 .u8 26,jg 1 .u8 213,jg 2 .u8 37,jg 3 .u8 143,jg 4 .u8 96,jg 5 .u8 45,jg 6 .u8 86,jg 7 .u8 201,jg 8 .u8 178,jg 9 .u8 167,jg 10 .u8 37,jg 11 .u8 149,jg 12 .u8 96,jg 13 .u8 199,jg 14 .u8 44,jg 15 .u8 105,jg 16 .u8 92,jg 17 .u8 220,jg 18 .u8 214,jg 19 .u8 253,jg 20 .u8 49,jg 21 .u8 226,jg 22 .u8 164,jg 23 .u8 192,jg 24 .u8 254,jg 25 .u8 83,jg 26 .u8 110,jg 27 .u8 205,jg 28 .u8 211,jg 29 .u8 54,jg 30 .u8 105,jg 31 .u8 33] 32,jC 4 36 3,jZ 1 5 .u64,jS 5 1 4] [0,1] (js [jb 5 [jg 0 .u8 88,jg 1 .u8 102,jg 2 .u8 102,jg 3 .u8 102,jg 4 .u8 102,jg 5 .u8 102,jg 6 .u8 102,jg 7 .u8 102,jg 8 .u8 102,jg 9 .u8 102,jg 10 .u8 102,jg 11 .u8 102,jg 12 .u8 102,jg 13 .u8 102,jg 14 .u8 102,jg 15 .u8 102,jg 16 .u8 102,jg 17 .u8 102,jg 18 .u8 102,jg 19 .u8 102,jg 20 .u8 102,jg 21 .u8 102,jg 22 .u8 102,jg 23 .u8 102,jg 24 .u8 102,jg 25 .u8 102,jg 26 .u8 102,jg 27 .u8 102,jg 28 .u8 102,jg 29 .u8 102,jg 30 .u8 102,jg 31 .u8 102] 32,jC 6 36 5,jZ 2 5 .u64,jS 5 2 6] [0,1,2] (js [jL 7 5 1,jL 8 5 2,jo 9 (.call 37 [(.const (.int .u32 1))] true),jL 10 5 1,jL 11 5 2,jD 12 40 10 11,jo 13 (.build (Qa 20 (.int .u64 0)) [jp 0 5 7,jp 5 5 8,jp 10 5 9,jp 15 5 12]),jS 20 0 13] [0] .ret)))),[(0,(some (some 20)))]⟩
def Qgq:ACode:=(.seq (js [jM 10 7,jP 11 .geq 10 0] [2,3,4,5,6,7,11] (jx 11 0)) (.seq (.block 1 (js [jL 14 20 5,jC 15 53 14,jS 20 5 15] [2,3,4,5,6,7] (js [jM 16 7,jP 17 .quo 16 8,jH 18 32 1 3 17,jE 19 18,jM 20 7,jP 21 .rem 20 8,jO 22 .shr 19 21,jQ 23 .and 22 .u8 1,jQ 24 .eql 23 .u8 1] [2,3,4,5,6,7,24] (.cond (jt 24) (jr [jL 25 20 5,jL 26 20 2,jL 27 5 6,jG 28 54 25 26 27,jS 20 5 28] [2,3,4,5,6,7]) .skip)))) (jr [jM 12 7,jP 13 .sub 12 1,jM 7 13] [2,3,4,5,6,7])))
def a26:AFun:=⟨(js [jB 2 0,jB 3 1,jZ 4 20 .u64] [2,3,4] (js [jo 8 (.call 51 [] true),jo 9 (.call 52 [] true),jZ 5 20 .u64,jZ 6 5 .u64,jS 20 5 8,jS 5 6 9] [2,3,4,5,6] (.seq (js [jI 7 255] [2,3,4,5,6,7] (.block 0 (.loop Qgq))) (js [jL 29 20 5,jS 20 4 29] [4] .ret)))),[(4,(some (some 20)))]⟩
def Qj6:ACode:=(js [jO 12 .lss 11 10] [2,3,4,9,10,11,12] (.seq (jx 12 0) (.seq (.block 1 (js [jJ 13 20 9 11,jL 14 20 13,jZ 6 20 .u64,jS 20 6 14] [2,3,4,6,9,10,11] (jr [jL 15 20 3,jL 16 20 6,jL 17 5 4,jG 18 54 15 16 17,jS 20 3 18] [2,3,4,9,10,11]))) (jr [jP 19 .add 11 1,jM 11 19] [2,3,4,9,10,11]))))
def a27:AFun:=⟨(js [jZ 2 20 .u64] [0,2] (js [jo 7 (.call 51 [] true),jo 8 (.call 52 [] true),jZ 3 20 .u64,jZ 4 5 .u64,jS 20 3 7,jS 5 4 8] [0,2,3,4] (.seq (js [jM 9 0,jY 10 9,jI 11 0] [2,3,4,9,10,11] (.block 0 (.loop Qj6))) (js [jL 20 20 3,jS 20 2 20] [2] .ret)))),[(2,(some (some 20)))]⟩
def a28:AFun:=⟨(js [jB 2 0,jB 3 1,jo 4 (.move (.const (.bool false)))] [2,3] (js [jF 5 0 2,jL 6 5 5,jF 7 10 3,jL 8 5 7,jD 9 40 6 8,jF 10 0 3,jL 11 5 10,jF 12 10 2,jL 13 5 12,jD 14 40 11 13,jD 15 98 9 14,jM 16 15,.mk (some 17) (.fieldAddr 5 (jt 2)) (some (16,true)),.mk (some 18) (.load (some 5) (jt 17)) (some (16,true)),.mk (some 19) (.fieldAddr 10 (jt 3)) (some (16,true)),.mk (some 20) (.load (some 5) (jt 19)) (some (16,true)),.mk (some 21) (.call 40 [(jt 18),(jt 20)] true) (some (16,true)),.mk (some 22) (.fieldAddr 5 (jt 3)) (some (16,true)),.mk (some 23) (.load (some 5) (jt 22)) (some (16,true)),.mk (some 24) (.fieldAddr 10 (jt 2)) (some (16,true)),.mk (some 25) (.load (some 5) (jt 24)) (some (16,true)),.mk (some 26) (.call 40 [(jt 23),(jt 25)] true) (some (16,true)),.mk (some 27) (.call 98 [(jt 21),(jt 26)] true) (some (16,true)),jo 28 (.pick (jt 16) (jt 27) (.const (.bool false))),jM 4 28] [4] .ret)),[(4,none)]⟩
def a29:AFun:=⟨(js [jB 1 0,jZ 2 32 .u8] [1,2] (js [jF 5 10 1,jL 6 5 5,jC 7 41 6,jZ 3 5 .u64,jS 5 3 7] [1,2,3] (js [jF 8 5 1,jL 9 5 8,jL 10 5 3,jD 11 40 9 10,jC 12 42 11,jZ 4 32 .u8,jS 32 4 12] [1,2,3,4] (.seq (js [jF 13 0 1,jL 14 5 13,jL 15 5 3,jD 16 40 14 15,jC 17 55 16] [2,4,17] (.cond (jt 17) (jr [jA 18 32 1 4 31,jE 19 18,jQ 20 .or 19 .u8 128,jA 21 32 1 4 31,jS 1 21 20] [2,4]) .skip)) (js [jL 22 32 4,jS 32 2 22] [2] .ret))))),[(2,(some (some 32)))]⟩
def a30:AFun:=⟨(js [jZ 0 20 .u64] [0] (js [jo 1 (.call 37 [(.const (.int .u32 1))] true),jo 2 (.call 37 [(.const (.int .u32 1))] true),jo 3 (.build (Qa 20 (.int .u64 0)) [jp 5 5 1,jp 10 5 2]),jS 20 0 3] [0] .ret)),[(0,(some (some 20)))]⟩
def a31:AFun:=⟨(js [jB 1 0,jZ 2 20 .u64,jI 3 0] [1,2] (js [jA 9 32 1 1 31,jE 10 9,jQ 11 .shr 10 .u64 7,jQ 12 .eql 11 .u8 1,jM 4 12] [1,2,4] (js [jA 13 32 1 1 31,jE 14 13,jQ 15 .and 14 .u8 127,jA 16 32 1 1 31,jS 1 16 15] [1,2,4] (js [jL 17 32 1,jC 18 36 17,jZ 5 5 .u64,jS 5 5 18] [1,2,4,5] (.seq (js [jL 19 32 1,jC 20 78 19,jo 21 (.un .not (jt 20))] [2,4,5,21] (.cond (jt 21) (js [jo 22 (.build (Qa 20 (.int .u64 0)) []),jS 20 2 22,jI 3 60] [2,3] .ret) .skip)) (js [jL 23 5 5,jL 24 5 5,jD 25 40 23 24,jZ 6 5 .u64,jS 5 6 25] [2,4,5,6] (js [jL 27 5 6,jo 28 (.call 37 [(.const (.int .u32 1))] true),jD 29 69 27 28,jo 30 (.call 52 [] true),jL 31 5 6,jD 32 40 30 31,jo 33 (.call 37 [(.const (.int .u32 1))] true),jo 34 (.buildSlice (Qa 10 (.int .u64 0)) 2 [jp 0 5 32,jp 5 5 33]),jc 35 68 34,jD 36 79 29 35,jM 26 36,jX 37 26 0,jX 38 26 1,jZ 7 5 .u64,jS 5 7 37,jM 8 38] [2,4,5,7,8] (.seq (js [jM 39 8,jo 40 (.un .not (jt 39)),jM 41 40,.mk (some 42) (.move (jt 4)) (some (41,false)),.mk (some 43) (.move (jt 42)) (some (41,false)),.mk (some 44) (.load (some 5) (jt 7)) (some (43,true)),.mk (some 45) (.call 80 [(jt 44)] true) (some (43,true)),.mk (some 46) (.pick (jt 43) (jt 45) (.const (.bool false))) (some (41,false)),jo 47 (.pick (jt 41) (.const (.bool true)) (jt 46))] [2,4,5,7,47] (.cond (jt 47) (js [jo 48 (.build (Qa 20 (.int .u64 0)) []),jS 20 2 48,jI 3 60] [2,3] .ret) .skip)) (.seq (js [jM 49 4] [2,5,7,49] (.cond (jt 49) (jr [jL 50 5 7,jC 51 81 50,jS 5 7 51] [2,5,7]) .skip)) (js [jL 52 5 7,jL 53 5 5,jo 54 (.call 37 [(.const (.int .u32 1))] true),jL 55 5 7,jL 56 5 5,jD 57 40 55 56,jo 58 (.build (Qa 20 (.int .u64 0)) [jp 0 5 52,jp 5 5 53,jp 10 5 54,jp 15 5 57]),jS 20 2 58,jI 3 0] [2,3] .ret)))))))))),[(2,(some (some 20))),(3,none)]⟩
def a34:AFun:=⟨(js [jB 1 0,jZ 2 20 .u64] [1,2] (js [jF 3 0 1,jL 4 5 3,jC 5 81 4,jF 6 5 1,jL 7 5 6,jF 8 10 1,jL 9 5 8,jF 10 15 1,jL 11 5 10,jC 12 81 11,jo 13 (.build (Qa 20 (.int .u64 0)) [jp 0 5 5,jp 5 5 7,jp 10 5 9,jp 15 5 12]),jS 20 2 13] [2] .ret)),[(2,(some (some 20)))]⟩
def a39:AFun:=⟨(js [jB 1 0,jo 2 (.move (.const (.bool false)))] [1] (js [jL 3 20 1,jC 4 53 3,jC 5 53 4,jC 6 53 5,jo 7 (.call 51 [] true),jD 8 82 6 7,jM 2 8] [2] .ret)),[(2,none)]⟩
def Qd3:ACode:=(js [jO 14 .lss 13 12] [3,11,12,13,14] (.seq (jx 14 0) (.seq (.block 1 (js [jM 15 13,jJ 16 1 11 13,jE 17 16,jM 4 15,jM 5 17] [3,4,5,11,12,13] (jr [jM 18 3,jM 19 4,jP 20 .quo 19 4,jJ 21 1 18 20,jE 22 21,jM 23 5,jV 24 .u32 23,jM 25 4,jP 26 .rem 25 4,jo 27 (.bin .mul (ji 8) (jt 26)),jO 28 .shl 24 27,jO 29 .or 22 28,jJ 30 1 18 20,jS 1 30 29] [3,11,12,13]))) (jr [jP 31 .add 13 1,jM 13 31] [3,11,12,13]))))
def a40:AFun:=⟨(js [jo 2 (.move (.const (.slice none 0 0)))] [0] (js [jM 6 0,jY 7 6,jP 8 .add 7 3,jP 9 .quo 8 4,jo 10 (.makeSlice [(.int .u32 0)] 4 (jt 9) (jt 9)),jM 3 10] [0,3] (.seq (js [jM 11 0,jY 12 11,jI 13 0] [3,11,12,13] (.block 0 (.loop Qd3))) (js [jM 32 3,jM 2 32] [2] .ret)))),[(2,none)]⟩
def Ri:ACode:=(js [jO 55 .lss 54 53] [0,3,4,5,6,9,53,54,55] (.seq (jx 55 4) (.seq (.block 5 (js [jM 56 54,jM 10 56] [0,3,4,5,6,9,10,53,54] (jr [jM 58 5,jM 59 10,jM 60 3,jM 61 10,jJ 62 1 60 61,jE 63 62,jM 64 4,jM 65 10,jJ 66 1 64 65,jE 67 66,jM 68 9,jG 69 89 63 67 68,jM 57 69,jX 70 57 0,jX 71 57 1,jJ 72 1 58 59,jS 1 72 70,jM 9 71] [0,3,4,5,6,9,53,54]))) (jr [jP 73 .add 54 1,jM 54 73] [0,3,4,5,6,9,53,54]))))
def Rh:ACode:=(js [jO 34 .lss 33 32] [0,3,4,5,6,7,32,33,34] (.seq (jx 34 2) (.seq (.block 3 (js [jM 35 33,jM 8 35] [0,3,4,5,6,7,8,32,33] (jr [jM 36 3,jM 37 8,jM 38 3,jM 39 8,jJ 40 1 38 39,jE 41 40,jQ 42 .shl 41 .u64 1,jM 43 7,jO 44 .or 42 43,jM 45 3,jM 46 8,jJ 47 1 45 46,jE 48 47,jQ 49 .shr 48 .u64 31,jJ 50 1 36 37,jS 1 50 44,jM 7 49] [0,3,4,5,6,7,32,33]))) (jr [jP 51 .add 33 1,jM 33 51] [0,3,4,5,6,7,32,33]))))
def Db:ACode:=(.seq (js [jM 18 6,jP 19 .geq 18 0] [0,3,4,5,6,19] (jx 19 0)) (.seq (.block 1 (js [jM 22 0,jM 23 6,jP 24 .quo 23 32,jJ 25 1 22 24,jE 26 25,jM 27 6,jP 28 .rem 27 32,jO 29 .shr 26 28,jQ 30 .and 29 .u32 1,jM 7 30] [0,3,4,5,6,7] (.seq (js [jM 31 3,jY 32 31,jI 33 0] [0,3,4,5,6,7,32,33] (.block 2 (.loop Rh))) (js [jo 9 (.move (.const (.int .u32 0)))] [0,3,4,5,6,9] (.seq (js [jM 52 3,jY 53 52,jI 54 0] [0,3,4,5,6,9,53,54] (.block 4 (.loop Ri))) (js [jM 74 9,jQ 75 .eql 74 .u32 0] [0,3,4,5,6,75] (.cond (jt 75) (jr [jM 76 5,jM 77 3,jM 3 76,jM 5 77] [0,3,4,5,6]) .skip))))))) (jr [jM 20 6,jP 21 .sub 20 1,jM 6 21] [0,3,4,5,6])))
def a41:AFun:=⟨(js [jo 2 (.move (.const (.slice none 0 0)))] [0] (js [jo 11 (.makeSlice [(.int .u32 0)] 4 (ji 8) (ji 8)),jo 12 (.call 84 [] false),jo 13 (.makeSlice [(.int .u32 0)] 4 (ji 8) (ji 8)),jM 3 11,jM 4 12,jM 5 13] [0,3,4,5] (.seq (js [jM 14 0,jY 15 14,jo 16 (.bin .mul (ji 32) (jt 15)),jP 17 .sub 16 1,jM 6 17] [0,3,4,5,6] (.block 0 (.loop Db))) (js [jM 78 3,jM 2 78] [2] .ret)))),[(2,none)]⟩
def Qj5:ACode:=(js [jP 6 .lss 5 32] [0,2,3,5,6] (.seq (jx 6 0) (.seq (.block 1 (js [jM 7 5,jM 4 7] [0,2,3,4,5] (jr [jM 8 4,jM 9 0,jM 10 4,jP 11 .quo 10 4,jJ 12 1 9 11,jE 13 12,jM 14 4,jP 15 .rem 14 4,jo 16 (.bin .mul (ji 8) (jt 15)),jO 17 .shr 13 16,jV 18 .u8 17,jH 19 32 1 3 8,jS 1 19 18] [0,2,3,5]))) (jr [jP 20 .add 5 1,jM 5 20] [0,2,3,5]))))
def a42:AFun:=⟨(js [jZ 2 32 .u8] [0,2] (js [jZ 3 32 .u8] [0,2,3] (.seq (js [jI 5 0] [0,2,3,5] (.block 0 (.loop Qj5))) (js [jL 21 32 3,jS 32 2 21] [2] .ret)))),[(2,(some (some 32)))]⟩
def Qj4:ACode:=(js [jO 27 .lss 26 25] [1,5,6,7,8,17,18,19,24,25,26,27] (.seq (jx 27 2) (.seq (.block 3 (js [jM 28 26,jJ 29 1 24 26,jE 30 29,jM 9 28,jM 10 30] [1,5,6,7,8,9,10,17,18,19,24,25,26] (js [jM 31 8,jM 32 5,jM 33 6,jM 34 9,jO 35 .add 33 34,jJ 36 1 32 35,jE 37 36,jV 38 .u64 37,jM 39 7,jV 40 .u64 39,jM 41 10,jV 42 .u64 41,jO 43 .mul 40 42,jO 44 .add 38 43,jO 45 .add 31 44,jM 8 45] [1,5,6,7,8,9,17,18,19,24,25,26] (js [jM 46 5,jM 47 6,jM 48 9,jO 49 .add 47 48,jM 50 8,jV 51 .u32 50,jJ 52 1 46 49,jS 1 52 51] [1,5,6,7,8,17,18,19,24,25,26] (jr [jM 53 8,jQ 54 .shr 53 .u64 32,jM 8 54] [1,5,6,7,8,17,18,19,24,25,26]))))) (jr [jP 55 .add 26 1,jM 26 55] [1,5,6,7,8,17,18,19,24,25,26]))))
def Qj3:ACode:=(js [jO 20 .lss 19 18] [1,5,17,18,19,20] (.seq (jx 20 0) (.seq (.block 1 (js [jM 21 19,jJ 22 1 17 19,jE 23 22,jM 6 21,jM 7 23] [1,5,6,7,17,18,19] (js [jo 8 (.move (.const (.int .u64 0)))] [1,5,6,7,8,17,18,19] (.seq (js [jM 24 1,jY 25 24,jI 26 0] [1,5,6,7,8,17,18,19,24,25,26] (.block 2 (.loop Qj4))) (jr [jM 56 5,jM 57 6,jM 58 1,jY 59 58,jO 60 .add 57 59,jM 61 8,jV 62 .u32 61,jJ 63 1 56 60,jS 1 63 62] [1,5,17,18,19]))))) (jr [jP 64 .add 19 1,jM 19 64] [1,5,17,18,19]))))
def a44:AFun:=⟨(js [jo 4 (.move (.const (.slice none 0 0)))] [0,1] (js [jM 11 0,jY 12 11,jM 13 1,jY 14 13,jO 15 .add 12 14,jo 16 (.makeSlice [(.int .u32 0)] 4 (jt 15) (jt 15)),jM 5 16] [0,1,5] (.seq (js [jM 17 0,jY 18 17,jI 19 0] [1,5,17,18,19] (.block 0 (.loop Qj3))) (js [jM 65 5,jM 4 65] [4] .ret)))),[(4,none)]⟩
def Qb4:ACode:=(js [jO 21 .lss 20 19] [1,5,6,19,20,21] (.seq (jx 21 0) (.seq (.block 1 (js [jM 22 20,jM 7 22] [1,5,6,7,19,20] (js [jo 8 (.move (.const (.int .u32 0)))] [1,5,6,7,8,19,20] (.seq (js [jM 23 7,jM 24 1,jY 25 24,jO 26 .lss 23 25] [1,5,6,7,8,19,20,26] (.cond (jt 26) (jr [jM 27 1,jM 28 7,jJ 29 1 27 28,jE 30 29,jM 8 30] [1,5,6,7,8,19,20]) .skip)) (jr [jM 32 5,jM 33 7,jM 34 5,jM 35 7,jJ 36 1 34 35,jE 37 36,jM 38 8,jM 39 6,jG 40 88 37 38 39,jM 31 40,jX 41 31 0,jX 42 31 1,jJ 43 1 32 33,jS 1 43 41,jM 6 42] [1,5,6,19,20]))))) (jr [jP 44 .add 20 1,jM 20 44] [1,5,6,19,20]))))
def a45:AFun:=⟨(js [jo 4 (.move (.const (.slice none 0 0)))] [0,1] (js [jM 9 0,jY 10 9,jP 11 .add 10 1,jo 12 (.makeSlice [(.int .u32 0)] 4 (ji 0) (jt 11)),jM 13 0,jh 14 1 4 12 13,jM 5 14] [1,5] (js [jM 15 5,jo 16 (.buildSlice [(.int .u32 0)] 1 [jg 0 .u32 0]),jh 17 1 4 15 16,jM 5 17] [1,5] (js [jo 6 (.move (.const (.int .u32 0)))] [1,5,6] (.seq (js [jM 18 5,jY 19 18,jI 20 0] [1,5,6,19,20] (.block 0 (.loop Qb4))) (js [jM 45 5,jM 4 45] [4] .ret)))))),[(4,none)]⟩
def Qj2:ACode:=(js [jO 10 .lss 9 8] [0,1,5,8,9,10] (.seq (jx 10 0) (.seq (.block 1 (js [jM 11 9,jM 6 11] [0,1,5,6,8,9] (jr [jM 13 0,jM 14 6,jJ 15 1 13 14,jE 16 15,jM 17 1,jM 18 6,jJ 19 1 17 18,jE 20 19,jM 21 5,jG 22 89 16 20 21,jM 12 22,jX 23 12 0,jX 24 12 1,jM 5 24] [0,1,5,8,9]))) (jr [jP 25 .add 9 1,jM 9 25] [0,1,5,8,9]))))
def a46:AFun:=⟨(js [jo 4 (.move (.const (.bool false)))] [0,1] (js [jo 5 (.move (.const (.int .u32 0)))] [0,1,5] (.seq (js [jM 7 0,jY 8 7,jI 9 0] [0,1,5,8,9] (.block 0 (.loop Qj2))) (js [jM 26 5,jQ 27 .eql 26 .u32 1,jM 4 27] [4] .ret)))),[(4,none)]⟩
def a47:AFun:=⟨(js [jo 0 (.move (.const (.slice none 0 0)))] [] (js [jo 1 (.buildSlice (Qa 8 (.int .u32 0)) 8 [jg 0 .u32 1559614445,jg 1 .u32 1477600026,jg 2 .u32 2734136534,jg 3 .u32 350157278,jg 4 .u32 0,jg 5 .u32 0,jg 6 .u32 0,jg 7 .u32 268435456]),jM 0 1] [0] .ret)),[(0,none)]⟩
def Qj1:ACode:=(js [jP 6 .lss 5 255] [1,2,3,5,6] (.seq (jx 6 0) (.seq (.block 1 (js [jM 7 5,jM 4 7] [1,2,3,4,5] (jr [jM 8 4,jP 9 .quo 8 51,jF 10 0 3,jH 11 5 1 10 9,jE 12 11,jM 13 4,jP 14 .quo 13 8,jH 15 32 1 1 14,jE 16 15,jM 17 4,jP 18 .rem 17 8,jO 19 .shr 16 18,jQ 20 .and 19 .u8 1,jV 21 .u64 20,jM 22 4,jP 23 .rem 22 51,jO 24 .shl 21 23,jO 25 .or 12 24,jF 26 0 3,jH 27 5 1 26 9,jS 1 27 25] [1,2,3,5]))) (jr [jP 28 .add 5 1,jM 5 28] [1,2,3,5]))))
def a49:AFun:=⟨(js [jB 1 0,jZ 2 5 .u64] [1,2] (js [jZ 3 5 .u64] [1,2,3] (.seq (js [jI 5 0] [1,2,3,5] (.block 0 (.loop Qj1))) (js [jL 29 5 3,jS 5 2 29] [2] .ret)))),[(2,(some (some 5)))]⟩
def a50:AFun:=⟨(js [jZ 2 5 .u64] [0,2] (js [jM 3 0,jV 4 .u64 3,jo 5 (.build (Qa 5 (.int .u64 0)) [jp 0 1 4]),jo 6 (.build (Qa 5 (.int .u64 0)) [jp 0 5 5]),jS 5 2 6] [2] .ret)),[(2,(some (some 5)))]⟩
def a51:AFun:=⟨(js [jB 2 0,jB 3 1,jZ 4 5 .u64] [2,3,4] (js [jF 29 0 2,jF 30 0 3,jM 5 29,jM 6 30] [4,5,6] (js [jM 31 5,jN 32 31,jA 33 5 1 32 1,jE 34 33,jo 35 (.bin .mul (.const (.int .u64 19)) (jt 34)),jM 36 5,jN 37 36,jA 38 5 1 37 2,jE 39 38,jo 40 (.bin .mul (.const (.int .u64 19)) (jt 39)),jM 41 5,jN 42 41,jA 43 5 1 42 3,jE 44 43,jo 45 (.bin .mul (.const (.int .u64 19)) (jt 44)),jM 46 5,jN 47 46,jA 48 5 1 47 4,jE 49 48,jo 50 (.bin .mul (.const (.int .u64 19)) (jt 49)),jM 7 35,jM 8 40,jM 9 45,jM 10 50] [4,5,6,7,8,9,10] (js [jM 51 5,jN 52 51,jA 53 5 1 52 0,jE 54 53,jM 55 6,jN 56 55,jA 57 5 1 56 0,jE 58 57,jD 59 71 54 58,jM 60 7,jM 61 6,jN 62 61,jA 63 5 1 62 4,jE 64 63,jG 65 72 59 60 64,jM 66 8,jM 67 6,jN 68 67,jA 69 5 1 68 3,jE 70 69,jG 71 72 65 66 70,jM 72 9,jM 73 6,jN 74 73,jA 75 5 1 74 2,jE 76 75,jG 77 72 71 72 76,jM 78 10,jM 79 6,jN 80 79,jA 81 5 1 80 1,jE 82 81,jG 83 72 77 78 82,jo 11 (.alloc [(.int .u64 0),(.int .u64 0)]),jS 2 11 83] [4,5,6,8,9,10,11] (js [jM 84 5,jN 85 84,jA 86 5 1 85 0,jE 87 86,jM 88 6,jN 89 88,jA 90 5 1 89 1,jE 91 90,jD 92 71 87 91,jM 93 5,jN 94 93,jA 95 5 1 94 1,jE 96 95,jM 97 6,jN 98 97,jA 99 5 1 98 0,jE 100 99,jG 101 72 92 96 100,jM 102 8,jM 103 6,jN 104 103,jA 105 5 1 104 4,jE 106 105,jG 107 72 101 102 106,jM 108 9,jM 109 6,jN 110 109,jA 111 5 1 110 3,jE 112 111,jG 113 72 107 108 112,jM 114 10,jM 115 6,jN 116 115,jA 117 5 1 116 2,jE 118 117,jG 119 72 113 114 118,jo 12 (.alloc [(.int .u64 0),(.int .u64 0)]),jS 2 12 119] [4,5,6,9,10,11,12] (js [jM 120 5,jN 121 120,jA 122 5 1 121 0,jE 123 122,jM 124 6,jN 125 124,jA 126 5 1 125 2,jE 127 126,jD 128 71 123 127,jM 129 5,jN 130 129,jA 131 5 1 130 1,jE 132 131,jM 133 6,jN 134 133,jA 135 5 1 134 1,jE 136 135,jG 137 72 128 132 136,jM 138 5,jN 139 138,jA 140 5 1 139 2,jE 141 140,jM 142 6,jN 143 142,jA 144 5 1 143 0,jE 145 144,jG 146 72 137 141 145,jM 147 9,jM 148 6,jN 149 148,jA 150 5 1 149 4,jE 151 150,jG 152 72 146 147 151,jM 153 10,jM 154 6,jN 155 154,jA 156 5 1 155 3,jE 157 156,jG 158 72 152 153 157,jo 13 (.alloc [(.int .u64 0),(.int .u64 0)]),jS 2 13 158] [4,5,6,10,11,12,13] (js [jM 159 5,jN 160 159,jA 161 5 1 160 0,jE 162 161,jM 163 6,jN 164 163,jA 165 5 1 164 3,jE 166 165,jD 167 71 162 166,jM 168 5,jN 169 168,jA 170 5 1 169 1,jE 171 170,jM 172 6,jN 173 172,jA 174 5 1 173 2,jE 175 174,jG 176 72 167 171 175,jM 177 5,jN 178 177,jA 179 5 1 178 2,jE 180 179,jM 181 6,jN 182 181,jA 183 5 1 182 1,jE 184 183,jG 185 72 176 180 184,jM 186 5,jN 187 186,jA 188 5 1 187 3,jE 189 188,jM 190 6,jN 191 190,jA 192 5 1 191 0,jE 193 192,jG 194 72 185 189 193,jM 195 10,jM 196 6,jN 197 196,jA 198 5 1 197 4,jE 199 198,jG 200 72 194 195 199,jo 14 (.alloc [(.int .u64 0),(.int .u64 0)]),jS 2 14 200] [4,5,6,11,12,13,14] (js [jM 201 5,jN 202 201,jA 203 5 1 202 0,jE 204 203,jM 205 6,jN 206 205,jA 207 5 1 206 4,jE 208 207,jD 209 71 204 208,jM 210 5,jN 211 210,jA 212 5 1 211 1,jE 213 212,jM 214 6,jN 215 214,jA 216 5 1 215 3,jE 217 216,jG 218 72 209 213 217,jM 219 5,jN 220 219,jA 221 5 1 220 2,jE 222 221,jM 223 6,jN 224 223,jA 225 5 1 224 2,jE 226 225,jG 227 72 218 222 226,jM 228 5,jN 229 228,jA 230 5 1 229 3,jE 231 230,jM 232 6,jN 233 232,jA 234 5 1 233 1,jE 235 234,jG 236 72 227 231 235,jM 237 5,jN 238 237,jA 239 5 1 238 4,jE 240 239,jM 241 6,jN 242 241,jA 243 5 1 242 0,jE 244 243,jG 245 72 236 240 244,jo 15 (.alloc [(.int .u64 0),(.int .u64 0)]),jS 2 15 245] [4,11,12,13,14,15] (js [jL 247 2 11,jC 248 73 247,jM 246 248,jX 249 246 0,jX 250 246 1,jM 16 249,jM 17 250] [4,12,13,14,15,16,17] (js [jL 252 2 12,jC 253 73 252,jM 251 253,jX 254 251 0,jX 255 251 1,jM 18 254,jM 19 255] [4,13,14,15,16,17,18,19] (js [jL 257 2 13,jC 258 73 257,jM 256 258,jX 259 256 0,jX 260 256 1,jM 20 259,jM 21 260] [4,14,15,16,17,18,19,20,21] (js [jL 262 2 14,jC 263 73 262,jM 261 263,jX 264 261 0,jX 265 261 1,jM 22 264,jM 23 265] [4,15,16,17,18,19,20,21,22,23] (js [jL 267 2 15,jC 268 73 267,jM 266 268,jX 269 266 0,jX 270 266 1,jM 24 269,jM 25 270] [4,16,17,18,19,20,21,22,23,24,25] (js [jM 271 24,jo 272 (.call 71 [(.const (.int .u64 19)),(jt 271)] true),jM 273 17,jD 274 74 272 273,jo 26 (.alloc [(.int .u64 0),(.int .u64 0)]),jS 2 26 274] [4,16,18,19,20,21,22,23,25,26] (js [jL 276 2 26,jC 277 73 276,jM 275 277,jX 278 275 0,jX 279 275 1,jM 27 278,jM 28 279] [4,16,18,19,20,21,22,23,25,27,28] (js [jM 280 28,jM 281 19,jM 282 16,jO 283 .add 281 282,jM 284 27,jO 285 .add 283 284,jM 286 21,jM 287 18,jO 288 .add 286 287,jM 289 23,jM 290 20,jO 291 .add 289 290,jM 292 25,jM 293 22,jO 294 .add 292 293,jo 295 (.build (Qa 5 (.int .u64 0)) [jp 0 1 280,jp 1 1 285,jp 2 1 288,jp 3 1 291,jp 4 1 294]),jo 296 (.build (Qa 5 (.int .u64 0)) [jp 0 5 295]),jC 297 75 296,jS 5 4 297] [4] .ret)))))))))))))))),[(4,(some (some 5)))]⟩
def a52:AFun:=⟨(js [jZ 0 5 .u64] [0] (js [jb 1 [jg 0 .u8 163,jg 1 .u8 120,jg 2 .u8 89,jg 3 .u8 19,jg 4 .u8 202,jg 5 .u8 77,jg 6 .u8 235,jg 7 .u8 117,jg 8 .u8 171,jg 9 .u8 216,jg 10 .u8 65,jg 11 .u8 65,jg 12 .u8 77,jg 13 .u8 10,jg 14 .u8 112,jg 15 .u8 0,jg 16 .u8 152,jg 17 .u8 232,jg 18 .u8 121,jg 19 .u8 119,jg 20 .u8 121,jg 21 .u8 64,jg 22 .u8 199,jg 23 .u8 140,jg 24 .u8 115,jg 25 .u8 254,jg 26 .u8 111,jg 27 .u8 43,jg 28 .u8 238,jg 29 .u8 108,jg 30 .u8 3,jg 31 .u8 82] 32,jC 2 36 1,jS 5 0 2] [0] .ret)),[(0,(some (some 5)))]⟩
def a53:AFun:=⟨(js [jB 1 0,jZ 2 20 .u64] [1,2] (js [jF 11 0 1,jL 12 5 11,jF 13 0 1,jL 14 5 13,jD 15 40 12 14,jF 16 5 1,jL 17 5 16,jF 18 5 1,jL 19 5 18,jD 20 40 17 19,jZ 3 5 .u64,jZ 4 5 .u64,jS 5 3 15,jS 5 4 20] [1,2,3,4] (js [jo 21 (.call 37 [(.const (.int .u32 2))] true),jF 22 10 1,jL 23 5 22,jF 24 10 1,jL 25 5 24,jo 26 (.buildSlice (Qa 15 (.int .u64 0)) 3 [jp 0 5 21,jp 5 5 23,jp 10 5 25]),jc 27 70 26,jZ 5 5 .u64,jS 5 5 27] [1,2,3,4,5] (js [jL 28 5 3,jL 29 5 4,jo 30 (.buildSlice (Qa 10 (.int .u64 0)) 2 [jp 0 5 28,jp 5 5 29]),jc 31 68 30,jZ 6 5 .u64,jS 5 6 31] [1,2,3,4,5,6] (js [jF 32 0 1,jL 33 5 32,jF 34 5 1,jL 35 5 34,jo 36 (.buildSlice (Qa 10 (.int .u64 0)) 2 [jp 0 5 33,jp 5 5 35]),jc 37 68 36,jZ 7 5 .u64,jS 5 7 37] [2,3,4,5,6,7] (js [jL 38 5 6,jL 39 5 7,jL 40 5 7,jD 41 40 39 40,jD 42 69 38 41,jZ 8 5 .u64,jS 5 8 42] [2,3,4,5,6,8] (js [jL 43 5 3,jL 44 5 4,jD 45 69 43 44,jZ 9 5 .u64,jS 5 9 45] [2,5,6,8,9] (js [jL 46 5 5,jL 47 5 9,jo 48 (.buildSlice (Qa 10 (.int .u64 0)) 2 [jp 0 5 46,jp 5 5 47]),jc 49 68 48,jZ 10 5 .u64,jS 5 10 49] [2,6,8,9,10] (js [jL 50 5 8,jL 51 5 10,jD 52 40 50 51,jL 53 5 9,jL 54 5 6,jD 55 40 53 54,jL 56 5 10,jL 57 5 9,jD 58 40 56 57,jL 59 5 8,jL 60 5 6,jD 61 40 59 60,jo 62 (.build (Qa 20 (.int .u64 0)) [jp 0 5 52,jp 5 5 55,jp 10 5 58,jp 15 5 61]),jS 20 2 62] [2] .ret))))))))),[(2,(some (some 20)))]⟩
def a54:AFun:=⟨(js [jB 3 0,jB 4 1,jB 5 2,jZ 6 20 .u64] [3,4,5,6] (js [jF 15 5 3,jL 16 5 15,jF 17 0 3,jL 18 5 17,jD 19 69 16 18,jF 20 5 4,jL 21 5 20,jF 22 0 4,jL 23 5 22,jD 24 69 21 23,jD 25 40 19 24,jZ 7 5 .u64,jS 5 7 25] [3,4,5,6,7] (.seq (.region [jF 26 5 3,jL 27 5 26,jF 28 0 3,jL 29 5 28,jo 30 (.buildSlice (Qa 10 (.int .u64 0)) 2 [jp 0 5 27,jp 5 5 29]),jc 31 68 30,jF 32 5 4,jL 33 5 32,jF 34 0 4,jL 35 5 34,jo 36 (.buildSlice (Qa 10 (.int .u64 0)) 2 [jp 0 5 33,jp 5 5 35]),jc 37 68 36,jD 38 40 31 37,jZ 8 5 .u64,jS 5 8 38] (some [3,4,5,6,7,8]) [(5,7),(5,9)]) (js [jo 39 (.call 37 [(.const (.int .u32 2))] true),jL 40 5 5,jF 41 15 3,jL 42 5 41,jF 43 15 4,jL 44 5 43,jo 45 (.buildSlice (Qa 20 (.int .u64 0)) 4 [jp 0 5 39,jp 5 5 40,jp 10 5 42,jp 15 5 44]),jc 46 70 45,jZ 9 5 .u64,jS 5 9 46] [3,4,6,7,8,9] (js [jo 47 (.call 37 [(.const (.int .u32 2))] true),jF 48 10 3,jL 49 5 48,jF 50 10 4,jL 51 5 50,jo 52 (.buildSlice (Qa 15 (.int .u64 0)) 3 [jp 0 5 47,jp 5 5 49,jp 10 5 51]),jc 53 70 52,jZ 10 5 .u64,jS 5 10 53] [6,7,8,9,10] (.seq (.region [jL 54 5 8,jL 55 5 7,jD 56 69 54 55,jL 57 5 10,jL 58 5 9,jD 59 69 57 58,jL 60 5 10,jL 61 5 9,jo 62 (.buildSlice (Qa 10 (.int .u64 0)) 2 [jp 0 5 60,jp 5 5 61]),jc 63 68 62,jL 64 5 8,jL 65 5 7,jo 66 (.buildSlice (Qa 10 (.int .u64 0)) 2 [jp 0 5 64,jp 5 5 65]),jc 67 68 66,jZ 11 5 .u64,jZ 12 5 .u64,jZ 13 5 .u64,jZ 14 5 .u64,jS 5 11 56,jS 5 12 59,jS 5 13 63,jS 5 14 67] (some [6,11,12,13,14]) [(9,10),(9,11)]) (js [jL 68 5 11,jL 69 5 12,jD 70 40 68 69,jL 71 5 13,jL 72 5 14,jD 73 40 71 72,jL 74 5 12,jL 75 5 13,jD 76 40 74 75,jL 77 5 11,jL 78 5 14,jD 79 40 77 78,jo 80 (.build (Qa 20 (.int .u64 0)) [jp 0 5 70,jp 5 5 73,jp 10 5 76,jp 15 5 79]),jS 20 6 80] [6] .ret))))))),[(6,(some (some 20)))]⟩
def a55:AFun:=⟨(js [jB 2 0,jB 3 1,jo 4 (.move (.const (.bool false)))] [2,3] (js [jL 5 5 2,jC 6 42 5,jL 7 5 3,jC 8 42 7,jo 9 (.eqv (some (Qa 32 true)) false (jt 6) (jt 8)),jM 4 9] [4] .ret)),[(4,none)]⟩
def a56:AFun:=⟨(js [jB 1 0,jZ 2 5 .u64] [1,2] (js [jL 3 5 1,jo 4 (.call 77 [(ji 255),(.const (.int .u8 20))] true),jD 5 76 3 4,jS 5 2 5] [2] .ret)),[(2,(some (some 5)))]⟩
def Qgp:ACode:=(js [jP 55 .lss 54 255] [1,2,6,54,55] (.seq (jx 55 4) (.seq (.block 5 (js [jM 56 54,jM 8 56] [1,2,6,8,54] (jr [jM 57 8,jP 58 .quo 57 8,jH 59 32 1 6 58,jE 60 59,jM 61 8,jP 62 .quo 61 51,jF 63 0 1,jH 64 5 1 63 62,jE 65 64,jM 66 8,jP 67 .rem 66 51,jO 68 .shr 65 67,jQ 69 .and 68 .u64 1,jV 70 .u8 69,jM 71 8,jP 72 .rem 71 8,jO 73 .shl 70 72,jO 74 .or 60 73,jH 75 32 1 6 58,jS 1 75 74] [1,2,6,54]))) (jr [jP 76 .add 54 1,jM 54 76] [1,2,6,54]))))
def Qj0:ACode:=(js [jP 31 .lss 30 5] [1,2,3,6,30,31] (.seq (jx 31 2) (.seq (.block 3 (js [jM 32 30,jM 7 32] [1,2,3,6,7,30] (js [jM 33 7,jF 34 0 1,jH 35 5 1 34 33,jE 36 35,jM 37 3,jO 38 .add 36 37,jF 39 0 1,jH 40 5 1 39 33,jS 1 40 38] [1,2,6,7,30] (js [jM 41 7,jF 42 0 1,jH 43 5 1 42 41,jE 44 43,jQ 45 .shr 44 .u64 51,jM 3 45] [1,2,3,6,7,30] (jr [jM 46 7,jF 47 0 1,jH 48 5 1 47 46,jE 49 48,jQ 50 .and 49 .u64 2251799813685247,jF 51 0 1,jH 52 5 1 51 46,jS 1 52 50] [1,2,3,6,30]))))) (jr [jP 53 .add 30 1,jM 30 53] [1,2,3,6,30]))))
def Qjz:ACode:=(js [jP 15 .lss 14 5] [1,2,3,13,14,15] (.seq (jx 15 0) (.seq (.block 1 (js [jo 16 (.index none 5 1 (jt 13) (jt 14)),jM 5 16] [1,2,3,5,13,14] (jr [jM 17 5,jM 18 3,jO 19 .add 17 18,jQ 20 .shr 19 .u64 51,jM 3 20] [1,2,3,13,14]))) (jr [jP 21 .add 14 1,jM 14 21] [1,2,3,13,14]))))
def a57:AFun:=⟨(js [jB 1 0,jZ 2 32 .u8] [1,2] (js [jL 9 5 1,jC 10 75 9,jC 11 75 10,jS 5 1 11] [1,2] (js [jo 3 (.move (.const (.int .u64 19)))] [1,2,3] (.seq (js [jF 12 0 1,jL 13 5 12,jI 14 0] [1,2,3,13,14] (.block 0 (.loop Qjz))) (js [jF 22 0 1,jA 23 5 1 22 0,jE 24 23,jM 25 3,jo 26 (.bin .mul (.const (.int .u64 19)) (jt 25)),jO 27 .add 24 26,jF 28 0 1,jA 29 5 1 28 0,jS 1 29 27] [1,2] (js [jo 3 (.move (.const (.int .u64 0)))] [1,2,3] (js [jZ 6 32 .u8] [1,2,3,6] (.seq (js [jI 30 0] [1,2,3,6,30] (.block 2 (.loop Qj0))) (.seq (js [jI 54 0] [1,2,6,54] (.block 4 (.loop Qgp))) (js [jL 77 32 6,jS 32 2 77] [2] .ret)))))))))),[(2,(some (some 32)))]⟩
def a58:AFun:=⟨(js [jB 1 0,jo 2 (.move (.const (.bool false)))] [1] (js [jL 3 5 1,jC 4 42 3,jo 5 (.index none 32 1 (jt 4) (ji 0)),jQ 6 .and 5 .u8 1,jQ 7 .eql 6 .u8 1,jM 2 7] [2] .ret)),[(2,none)]⟩
def a59:AFun:=⟨(js [jB 1 0,jo 2 (.move (.const (.bool false)))] [1] (js [jL 3 32 1,jC 4 36 3,jC 5 42 4,jL 6 32 1,jo 7 (.eqv (some (Qa 32 true)) false (jt 5) (jt 6)),jM 2 7] [2] .ret)),[(2,none)]⟩
def a60:AFun:=⟨(js [jB 2 0,jB 3 1,jZ 4 5 .u64,jo 5 (.move (.const (.bool false)))] [2,3,4] (js [jL 9 5 3,jL 10 5 3,jL 11 5 3,jo 12 (.buildSlice (Qa 15 (.int .u64 0)) 3 [jp 0 5 9,jp 5 5 10,jp 10 5 11]),jc 13 70 12,jZ 6 5 .u64,jS 5 6 13] [2,3,4,6] (.seq (.region [jL 14 5 2,jL 15 5 6,jL 16 5 2,jL 17 5 6,jL 18 5 6,jL 19 5 3,jo 20 (.buildSlice (Qa 20 (.int .u64 0)) 4 [jp 0 5 16,jp 5 5 17,jp 10 5 18,jp 15 5 19]),jc 21 70 20,jo 22 (.call 77 [(ji 252),(.const (.int .u8 2))] true),jD 23 76 21 22,jo 24 (.buildSlice (Qa 15 (.int .u64 0)) 3 [jp 0 5 14,jp 5 5 15,jp 10 5 23]),jc 25 70 24,jZ 7 5 .u64,jS 5 7 25] (some [2,3,4,7]) [(0,7),(1,7)]) (.seq (js [jL 26 5 3,jL 27 5 7,jL 28 5 7,jo 29 (.buildSlice (Qa 15 (.int .u64 0)) 3 [jp 0 5 26,jp 5 5 27,jp 10 5 28]),jc 30 70 29,jZ 8 5 .u64,jS 5 8 30] [2,4,7,8] (.block 0 (js [jL 33 5 8,jL 34 5 2,jD 35 98 33 34,jM 32 35] [2,4,7,8,32] (.cond (jt 32) .skip (js [jL 37 5 8,jL 38 5 2,jC 39 81 38,jD 40 98 37 39,jM 36 40] [4,7,36] (.cond (jt 36) (jr [jL 41 5 7,jo 42 (.call 37 [(.const (.int .u32 2))] true),jo 43 (.call 77 [(ji 253),(.const (.int .u8 4))] true),jD 44 76 42 43,jD 45 40 41 44,jS 5 7 45] [4,7]) (js [jo 31 (.build (Qa 5 (.int .u64 0)) []),jS 5 4 31,jo 5 (.move (.const (.bool false)))] [4,5] .ret))))))) (.seq (js [jL 46 5 7,jC 47 55 46] [4,7,47] (.cond (jt 47) (jr [jL 48 5 7,jC 49 81 48,jS 5 7 49] [4,7]) .skip)) (js [jL 50 5 7,jS 5 4 50,jo 5 (.move (.const (.bool true)))] [4,5] .ret)))))),[(4,(some (some 5))),(5,none)]⟩
def Qjy:ACode:=(js [jP 7 .lss 6 5] [2,3,4,6,7] (.seq (jx 7 0) (.seq (.block 1 (js [jM 8 6,jM 5 8] [2,3,4,5,6] (jr [jM 9 5,jF 10 0 2,jH 11 5 1 10 9,jE 12 11,jM 13 5,jF 14 0 3,jH 15 5 1 14 13,jE 16 15,jo 17 (.bin .sub (.const (.int .u64 9007199254740988)) (jt 16)),jO 18 .add 12 17,jF 19 0 2,jH 20 5 1 19 9,jS 1 20 18] [2,3,4,6]))) (jr [jP 21 .add 6 1,jM 6 21] [2,3,4,6]))))
def a61:AFun:=⟨(js [jB 2 0,jB 3 1,jZ 4 5 .u64] [2,3,4] (.seq (js [jI 6 0] [2,3,4,6] (.block 0 (.loop Qjy))) (js [jF 22 0 2,jA 23 5 1 22 0,jE 24 23,jQ 25 .sub 24 .u64 72,jF 26 0 2,jA 27 5 1 26 0,jS 1 27 25] [2,4] (js [jL 28 5 2,jC 29 75 28,jS 5 4 29] [4] .ret)))),[(4,(some (some 5)))]⟩
def Qjx:ACode:=(js [jP 15 .lss 14 5] [2,3,4,5,7,8,9,14,15] (.seq (jx 15 2) (.seq (.block 3 (js [jM 16 14,jM 6 16] [2,3,4,5,6,7,8,9,14] (jr [jM 17 6,jF 18 0 3,jH 19 5 1 18 17,jE 20 19,jM 21 6,jF 22 0 5,jH 23 5 1 22 21,jE 24 23,jO 25 .add 20 24,jF 26 0 3,jH 27 5 1 26 17,jS 1 27 25] [2,3,4,5,7,8,9,14]))) (jr [jP 28 .add 14 1,jM 14 28] [2,3,4,5,7,8,9,14]))))
def Qjw:ACode:=(js [jO 10 .lss 9 8] [2,3,7,8,9,10] (.seq (jx 10 0) (.seq (.block 1 (js [jM 11 9,jJ 12 5 7 9,jL 13 5 12,jZ 5 5 .u64,jM 4 11,jS 5 5 13] [2,3,4,5,7,8,9] (.seq (js [jI 14 0] [2,3,4,5,7,8,9,14] (.block 2 (.loop Qjx))) (js [jM 29 4,jP 30 .rem 29 64,jP 31 .eql 30 63] [2,3,7,8,9,31] (.cond (jt 31) (jr [jL 32 5 3,jC 33 75 32,jS 5 3 33] [2,3,7,8,9]) .skip))))) (jr [jP 34 .add 9 1,jM 9 34] [2,3,7,8,9]))))
def a62:AFun:=⟨(js [jZ 2 5 .u64] [0,2] (js [jZ 3 5 .u64] [0,2,3] (.seq (js [jM 7 0,jY 8 7,jI 9 0] [2,3,7,8,9] (.block 0 (.loop Qjw))) (js [jL 35 5 3,jC 36 75 35,jS 5 2 36] [2] .ret)))),[(2,(some (some 5)))]⟩
def a63:AFun:=⟨(js [jB 1 0,jo 2 (.move (.const (.bool false)))] [1] (js [jL 3 5 1,jC 4 42 3,jb 5 [] 32,jo 6 (.eqv (some (Qa 32 true)) false (jt 4) (jt 5)),jM 2 6] [2] .ret)),[(2,none)]⟩
def a64:AFun:=⟨(js [jB 1 0,jZ 2 5 .u64] [1,2] (js [jo 3 (.build (Qa 5 (.int .u64 0)) []),jL 4 5 1,jD 5 69 3 4,jS 5 2 5] [2] .ret)),[(2,(some (some 5)))]⟩
def a75:AFun:=⟨(js [jo 6 (.move (.const (.int .u32 0))),jo 7 (.move (.const (.int .u32 0)))] [0,1,2] (js [jM 8 0,jM 9 1,jO 10 .sub 8 9,jM 11 2,jO 12 .sub 10 11,jM 6 12] [0,1,6] (js [jM 13 0,jo 14 (.un .xor (jt 13)),jM 15 1,jO 16 .and 14 15,jM 17 0,jM 18 1,jO 19 .xor 17 18,jo 20 (.un .xor (jt 19)),jM 21 6,jO 22 .and 20 21,jO 23 .or 16 22,jQ 24 .shr 23 .u64 31,jM 7 24] [6,7] .ret))),[(6,none),(7,none)]⟩
def a76:AFun:=⟨(js [jo 6 (.move (.const (.int .u32 0))),jo 7 (.move (.const (.int .u32 0)))] [0,1,2] (js [jM 9 0,jV 10 .u64 9,jM 11 1,jV 12 .u64 11,jO 13 .add 10 12,jM 14 2,jV 15 .u64 14,jO 16 .add 13 15,jM 8 16] [8] (js [jM 17 8,jV 18 .u32 17,jM 6 18] [6,8] (js [jM 19 8,jQ 20 .shr 19 .u64 32,jV 21 .u32 20,jM 7 21] [6,7] .ret)))),[(6,none),(7,none)]⟩
def a77:AFun:=⟨(js [jo 4 (.alloc [(.int .u64 0),(.int .u64 0)])] [0,1,4] (js [jM 8 0,jM 9 1,jD 10 96 8 9,jM 7 10,jX 11 7 0,jX 12 7 1,jM 5 11,jM 6 12] [4,5,6] (js [jM 13 5,jM 14 6,jo 15 (.build [(.int .u64 0),(.int .u64 0)] [jp 0 1 13,jp 1 1 14]),jS 2 4 15] [4] .ret))),[(4,(some (some 2)))]⟩
def a78:AFun:=⟨(js [jB 3 0,jo 6 (.alloc [(.int .u64 0),(.int .u64 0)])] [1,2,3,6] (js [jM 11 1,jM 12 2,jD 13 96 11 12,jM 10 13,jX 14 10 0,jX 15 10 1,jM 7 14,jM 8 15] [3,6,7,8] (js [jF 17 1 3,jE 18 17,jM 19 8,jo 20 (.call 97 [(jt 18),(jt 19),(.const (.int .u64 0))] true),jM 16 20,jX 21 16 0,jX 22 16 1,jM 8 21,jM 9 22] [3,6,7,8,9] (js [jF 24 0 3,jE 25 24,jM 26 7,jM 27 9,jG 28 97 25 26 27,jM 23 28,jX 29 23 0,jX 30 23 1,jM 7 29] [6,7,8] (js [jM 31 7,jM 32 8,jo 33 (.build [(.int .u64 0),(.int .u64 0)] [jp 0 1 31,jp 1 1 32]),jS 2 6 33] [6] .ret))))),[(6,(some (some 2)))]⟩
def a79:AFun:=⟨(js [jB 1 0,jo 2 (.move (.const (.int .u64 0))),jo 3 (.move (.const (.int .u64 0)))] [1] (js [jF 4 0 1,jE 5 4,jQ 6 .shl 5 .u64 13,jF 7 1 1,jE 8 7,jQ 9 .shr 8 .u64 51,jO 10 .or 6 9,jF 11 1 1,jE 12 11,jQ 13 .and 12 .u64 2251799813685247,jM 2 10,jM 3 13] [2,3] .ret)),[(2,none),(3,none)]⟩
def a80:AFun:=⟨(js [jB 2 0,jo 4 (.alloc [(.int .u64 0),(.int .u64 0)])] [1,2,4] (js [jF 8 1 2,jE 9 8,jM 10 1,jo 11 (.call 97 [(jt 9),(jt 10),(.const (.int .u64 0))] true),jM 7 11,jX 12 7 0,jX 13 7 1,jM 5 12,jM 6 13] [2,4,5,6] (js [jF 14 0 2,jE 15 14,jM 16 6,jO 17 .add 15 16,jM 18 5,jo 19 (.build [(.int .u64 0),(.int .u64 0)] [jp 0 1 17,jp 1 1 18]),jS 2 4 19] [4] .ret))),[(4,(some (some 2)))]⟩
def Q1h:ACode:=(js [jP 6 .lss 5 5] [1,2,3,5,6] (.seq (jx 6 0) (.seq (.block 1 (js [jM 7 5,jM 4 7] [1,2,3,4,5] (js [jM 8 4,jF 9 0 1,jH 10 5 1 9 8,jE 11 10,jM 12 3,jO 13 .add 11 12,jF 14 0 1,jH 15 5 1 14 8,jS 1 15 13] [1,2,4,5] (js [jM 16 4,jF 17 0 1,jH 18 5 1 17 16,jE 19 18,jQ 20 .shr 19 .u64 51,jM 3 20] [1,2,3,4,5] (jr [jM 21 4,jF 22 0 1,jH 23 5 1 22 21,jE 24 23,jQ 25 .and 24 .u64 2251799813685247,jF 26 0 1,jH 27 5 1 26 21,jS 1 27 25] [1,2,3,5]))))) (jr [jP 28 .add 5 1,jM 5 28] [1,2,3,5]))))
def a81:AFun:=⟨(js [jB 1 0,jZ 2 5 .u64] [1,2] (js [jo 3 (.move (.const (.int .u64 0)))] [1,2,3] (.seq (js [jI 5 0] [1,2,3,5] (.block 0 (.loop Q1h))) (js [jF 29 0 1,jA 30 5 1 29 0,jE 31 30,jM 32 3,jo 33 (.bin .mul (.const (.int .u64 19)) (jt 32)),jO 34 .add 31 33,jF 35 0 1,jA 36 5 1 35 0,jS 1 36 34] [1,2] (js [jL 37 5 1,jS 5 2 37] [2] .ret))))),[(2,(some (some 5)))]⟩
def Qjv:ACode:=(js [jO 10 .lss 9 8] [2,3,7,8,9,10] (.seq (jx 10 0) (.seq (.block 1 (js [jJ 11 5 7 9,jL 12 5 11,jZ 5 5 .u64,jS 5 5 12] [2,3,5,7,8,9] (jr [jL 13 5 3,jL 14 5 5,jD 15 40 13 14,jS 5 3 15] [2,3,7,8,9]))) (jr [jP 16 .add 9 1,jM 9 16] [2,3,7,8,9]))))
def a82:AFun:=⟨(js [jZ 2 5 .u64] [0,2] (js [jo 6 (.call 37 [(.const (.int .u32 1))] true),jZ 3 5 .u64,jS 5 3 6] [0,2,3] (.seq (js [jM 7 0,jY 8 7,jI 9 0] [2,3,7,8,9] (.block 0 (.loop Qjv))) (js [jL 17 5 3,jS 5 2 17] [2] .ret)))),[(2,(some (some 5)))]⟩
def Qgo:ACode:=(.seq (js [jM 8 6,jP 9 .geq 8 0] [2,3,4,5,6,9] (jx 9 0)) (.seq (.block 1 (js [jL 12 5 5,jL 13 5 5,jD 14 40 12 13,jS 5 5 14] [2,3,4,5,6] (js [jM 15 6,jP 16 .quo 15 8,jH 17 32 1 3 16,jE 18 17,jM 19 6,jP 20 .rem 19 8,jO 21 .shr 18 20,jQ 22 .and 21 .u8 1,jQ 23 .eql 22 .u8 1] [2,3,4,5,6,23] (.cond (jt 23) (jr [jL 24 5 5,jL 25 5 2,jD 26 40 24 25,jS 5 5 26] [2,3,4,5,6]) .skip)))) (jr [jM 10 6,jP 11 .sub 10 1,jM 6 11] [2,3,4,5,6])))
def a83:AFun:=⟨(js [jB 2 0,jB 3 1,jZ 4 5 .u64] [2,3,4] (js [jo 7 (.call 37 [(.const (.int .u32 1))] true),jZ 5 5 .u64,jS 5 5 7] [2,3,4,5] (.seq (js [jI 6 255] [2,3,4,5,6] (.block 0 (.loop Qgo))) (js [jL 27 5 5,jS 5 4 27] [4] .ret)))),[(4,(some (some 5)))]⟩
def Qju:ACode:=(js [jO 9 .lss 8 7] [1,4,5,7,8,9] (.seq (jx 9 0) (.seq (.block 1 (js [jM 10 8,jM 6 10] [1,4,5,6,7,8] (jr [jM 11 6,jP 12 .quo 11 8,jH 13 32 1 5 12,jE 14 13,jM 15 6,jP 16 .rem 15 8,jo 17 (.bin .shl (.const (.int .u8 1)) (jt 16)),jO 18 .or 14 17,jH 19 32 1 5 12,jS 1 19 18] [1,4,5,7,8]))) (jr [jP 20 .add 8 1,jM 8 20] [1,4,5,7,8]))))
def a84:AFun:=⟨(js [jZ 4 32 .u8] [0,1,4] (js [jZ 5 32 .u8] [0,1,4,5] (.seq (js [jM 7 0,jI 8 0] [1,4,5,7,8] (.block 0 (.loop Qju))) (js [jA 21 32 1 5 0,jE 22 21,jM 23 1,jO 24 .sub 22 23,jA 25 32 1 5 0,jS 1 25 24] [4,5] (js [jL 26 32 5,jS 32 4 26] [4] .ret))))),[(4,(some (some 32)))]⟩
def a91:AFun:=⟨(js [jo 4 (.move (.const (.int .u64 0))),jo 5 (.move (.const (.int .u64 0)))] [0,1] (js [jM 14 0,jQ 15 .and 14 .u64 4294967295,jM 6 15] [0,1,6] (js [jM 16 0,jQ 17 .shr 16 .u64 32,jM 7 17] [0,1,6,7] (js [jM 18 1,jQ 19 .and 18 .u64 4294967295,jM 8 19] [0,1,6,7,8] (js [jM 20 1,jQ 21 .shr 20 .u64 32,jM 9 21] [0,1,6,7,8,9] (js [jM 22 6,jM 23 8,jO 24 .mul 22 23,jM 10 24] [0,1,6,7,8,9,10] (js [jM 25 7,jM 26 8,jO 27 .mul 25 26,jM 28 10,jQ 29 .shr 28 .u64 32,jO 30 .add 27 29,jM 11 30] [0,1,6,7,9,11] (js [jM 31 11,jQ 32 .and 31 .u64 4294967295,jM 12 32] [0,1,6,7,9,11,12] (js [jM 33 11,jQ 34 .shr 33 .u64 32,jM 13 34] [0,1,6,7,9,12,13] (js [jM 35 12,jM 36 6,jM 37 9,jO 38 .mul 36 37,jO 39 .add 35 38,jM 12 39] [0,1,7,9,12,13] (js [jM 40 7,jM 41 9,jO 42 .mul 40 41,jM 43 13,jO 44 .add 42 43,jM 45 12,jQ 46 .shr 45 .u64 32,jO 47 .add 44 46,jM 4 47] [0,1,4] (js [jM 48 0,jM 49 1,jO 50 .mul 48 49,jM 5 50] [4,5] .ret)))))))))))),[(4,none),(5,none)]⟩
def Q9b:AFun:=⟨(js [jB 2 0,jZ 4 64 .u8] [1,2,4] (js [jL 11 32 2,jC 12 26 11,jZ 5 64 .u8,jS 64 5 12] [1,4,5] (js [jo 13 (.call 27 [] true),jF 14 0 5,jL 15 32 14,jD 16 28 13 15,jC 17 29 16,jZ 6 32 .u8,jS 32 6 17] [1,4,5,6] (js [jF 18 32 5,jW 19 32 1 18,jo 20 (.buildSlice [(.slice none 0 0)] 1 [jp 0 1 19]),jM 21 1,jh 22 1 24 20 21,jc 23 30 22,jZ 7 32 .u8,jS 32 7 23] [1,4,5,6,7] (js [jo 24 (.call 27 [] true),jL 25 32 7,jD 26 28 24 25,jC 27 29 26,jZ 8 32 .u8,jS 32 8 27] [1,4,5,6,7,8] (js [jW 28 32 1 8,jW 29 32 1 6,jo 30 (.buildSlice [(.slice none 0 0),(.slice none 0 0)] 2 [jp 0 1 28,jp 1 1 29]),jM 31 1,jh 32 1 24 30 31,jc 33 30 32,jZ 9 32 .u8,jS 32 9 33] [4,5,7,8,9] (js [jL 34 32 9,jF 35 0 5,jL 36 32 35,jL 37 32 7,jG 38 31 34 36 37,jZ 10 32 .u8,jS 32 10 38] [4,8,10] (js [jW 39 32 1 8,jW 40 32 1 10,jh 41 1 1 39 40,jo 42 (.s2ap 64 (jt 41)),jL 43 64 42,jS 64 4 43] [4] .ret)))))))),[(4,(some (some 64)))]⟩
def Qgr:AFun:=⟨(js [jB 3 0,jB 4 1,jI 6 0] [2,3,4] (js [jL 15 32 3,jC 16 43 15,jM 14 16,jX 17 14 0,jX 18 14 1,jZ 7 20 .u64,jS 20 7 17,jM 8 18] [2,3,4,7,8] (.seq (js [jM 19 8,jP 20 .neq 19 0] [2,3,4,7,8,20] (.cond (jt 20) (js [jM 21 8,jM 6 21] [6] .ret) .skip)) (js [jo 22 (.sliceArr 64 1 (jt 4) none (some (ji 32)) none),jo 23 (.s2ap 32 (jt 22)),jL 24 32 23,jo 25 (.sliceArr 64 1 (jt 4) (some (ji 32)) none none),jo 26 (.s2ap 32 (jt 25)),jL 27 32 26,jZ 9 32 .u8,jZ 10 32 .u8,jS 32 9 24,jS 32 10 27] [2,3,7,9,10] (.seq (js [jL 28 20 7,jC 29 44 28,jM 30 29,.mk (some 31) (.load (some 32) (jt 10)) (some (30,false)),.mk (some 32) (.call 45 [(jt 31)] true) (some (30,false)),.mk (some 33) (.un .not (jt 32)) (some (30,false)),jo 34 (.pick (jt 30) (.const (.bool true)) (jt 33))] [2,3,7,9,10,34] (.cond (jt 34) (js [jI 6 70] [6] .ret) .skip)) (.seq (js [jL 36 32 9,jC 37 43 36,jM 35 37,jX 38 35 0,jX 39 35 1,jZ 11 20 .u64,jS 20 11 38,jM 12 39] [2,3,7,9,10,12] (js [jM 40 12,jP 41 .neq 40 0] [2,3,7,9,10,41] (.cond (jt 41) (js [jI 6 70] [6] .ret) .skip))) (js [jW 42 32 1 9,jW 43 32 1 3,jo 44 (.buildSlice [(.slice none 0 0),(.slice none 0 0)] 2 [jp 0 1 42,jp 1 1 43]),jM 45 2,jh 46 1 24 44 45,jc 47 30 46,jZ 13 32 .u8,jS 32 13 47] [7,9,10,13] (.seq (.seq (.region [jo 48 (.call 27 [] true),jL 49 32 10,jD 50 28 48 49,jL 51 20 7,jC 52 47 51,jL 53 32 13,jD 54 28 52 53,jo 55 (.buildSlice (Qa 40 (.int .u64 0)) 2 [jp 0 20 50,jp 20 20 54]),jc 56 46 55,jC 57 29 56,jL 58 32 9,jo 59 (.eqv (some (Qa 32 true)) true (jt 57) (jt 58))] (some [59]) [(8,10)]) (.cond (jt 59) (js [jI 6 70] [6] .ret) .skip)) (js [jI 6 0] [6] .ret))))))))),[(6,none)]⟩
def Q9a:AFun:=⟨(js [jB 1 0,jZ 2 32 .u8] [1,2] (js [jo 3 (.call 27 [] true),jL 4 32 1,jC 5 26 4,jo 6 (.field (some 32) 0 (jt 5)),jD 7 28 3 6,jC 8 29 7,jS 32 2 8] [2] .ret)),[(2,(some (some 32)))]⟩
def Q89:AFun:=⟨(js [jB 1 0,jZ 2 64 .u8] [1,2] (js [jW 4 32 1 1,jo 5 (.buildSlice [(.slice none 0 0)] 1 [jp 0 1 4]),jc 6 50 5,jZ 3 64 .u8,jS 64 3 6] [2,3] (js [jo 7 (.sliceArr 64 1 (jt 3) none (some (ji 32)) none),jo 8 (.s2ap 32 (jt 7)),jL 9 32 8,jC 10 35 9,jo 11 (.sliceArr 64 1 (jt 3) (some (ji 32)) none none),jo 12 (.s2ap 32 (jt 11)),jL 13 32 12,jb 14 [jp 0 32 10,jp 32 32 13] 64,jS 64 2 14] [2] .ret))),[(2,(some (some 64)))]⟩
def Q88:AFun:=⟨(js [jZ 2 32 .u8] [0,2] (js [jM 4 0,jc 5 50 4,jZ 3 64 .u8,jS 64 3 5] [2,3] (js [jW 6 64 1 3,jo 7 (.buildSlice [(.slice none 0 0)] 1 [jp 0 1 6]),jc 8 56 7,jS 32 2 8] [2] .ret))),[(2,(some (some 32)))]⟩
def Q87:AFun:=⟨(js [jZ 2 64 .u8] [0,2] (js [jo 4 (.call 85 [] false),jM 3 4] [0,2,3] (js [jM 5 3,jM 6 0,jd 7 86 5 6] [2,3] (js [jM 8 3,jc 9 87 8,jS 64 2 9] [2] .ret)))),[(2,(some (some 64)))]⟩
def Q86:AFun:=⟨(js [jo 0 (.move (.const (.pointer none)))] [] (js [jo 1 (.build (Qa 8 (.int .u64 0)) [jg 0 .u64 7640891576956012808,jg 1 .u64 13503953896175478587,jg 2 .u64 4354685564936845355,jg 3 .u64 11912009170470909681,jg 4 .u64 5840696475078001361,jg 5 .u64 11170449401992604703,jg 6 .u64 2270897969802886507,jg 7 .u64 6620516959819538809]),jo 2 (.build [(.slice none 0 0),(.int .u64 0),(.int .u64 0),(.int .u64 0),(.int .u64 0),(.int .u64 0),(.int .u64 0),(.int .u64 0),(.int .u64 0),(.int .u64 0)] [jp 2 8 1]),jB 3 2,jM 0 3] [0] .ret)),[(0,none)]⟩
def Qfk:ACode:=(js [jO 9 .lss 8 7] [0,6,7,8,9] (.seq (jx 9 0) (.seq (.block 1 (js [jJ 10 1 6 8,jE 11 10,jM 5 11] [0,5,6,7,8] (jr [jM 12 0,jN 13 12,jF 14 0 13,jM 15 5,jM 16 0,jo 17 (.mkFunc (.func 99) [(jt 16)] []),jo 18 (.call 93 [(jt 14),(ji 128),(jt 15),(jt 17)] false)] [0,6,7,8]))) (jr [jP 19 .add 8 1,jM 8 19] [0,6,7,8]))))
def Q85:AFun:=⟨(js [jM 6 1,jY 7 6,jI 8 0] [0,6,7,8] (.block 0 (.loop Qfk))),[]⟩
def Qfj:ACode:=(js [jP 33 .lss 32 64] [2,3,4,32,33] (.seq (jx 33 0) (.seq (.block 1 (js [jM 34 32,jM 5 34] [2,3,4,5,32] (jr [jM 35 5,jM 36 3,jM 37 5,jP 38 .quo 37 8,jN 39 36,jF 40 2 39,jH 41 8 1 40 38,jE 42 41,jM 43 5,jP 44 .rem 43 8,jo 45 (.bin .mul (ji 8) (jt 44)),jo 46 (.bin .sub (ji 56) (jt 45)),jO 47 .shr 42 46,jV 48 .u8 47,jH 49 64 1 4 35,jS 1 49 48] [2,3,4,32]))) (jr [jP 50 .add 32 1,jM 32 50] [2,3,4,32]))))
def Q84:AFun:=⟨(js [jZ 2 64 .u8] [0,2] (.seq (.region [jo 6 (.buildSlice [] 0 []),jM 7 0,jN 8 7,jF 9 0 8,jF 10 0 9,jE 11 10,jh 12 1 1 6 11,jM 13 0,jN 14 13,jF 15 0 14,jF 16 1 15,jE 17 16,jo 18 (.build [(.slice none 0 0),(.int .u64 0)] [jp 0 1 12,jp 1 1 17]),jM 19 0,jN 20 19,jF 21 2 20,jL 22 8 21,jo 23 (.build [(.slice none 0 0),(.int .u64 0),(.int .u64 0),(.int .u64 0),(.int .u64 0),(.int .u64 0),(.int .u64 0),(.int .u64 0),(.int .u64 0),(.int .u64 0)] [jp 0 2 18,jp 2 8 22]),jB 24 23,jM 3 24] (some [0,2,3]) [(6,11),(6,16)]) (js [jM 25 3,jM 26 0,jN 27 26,jF 28 0 27,jo 29 (.call 95 [(jt 28),(ji 128),(ji 16)] false),jo 30 (.buildSlice [(.slice none 0 0)] 1 [jp 0 1 29]),jd 31 86 25 30] [2,3] (js [jZ 4 64 .u8] [2,3,4] (.seq (js [jI 32 0] [2,3,4,32] (.block 0 (.loop Qfj))) (js [jL 51 64 4,jS 64 2 51] [2] .ret)))))),[(2,(some (some 64)))]⟩
def Ml:ACode:=(.seq (js [jM 27 0,jN 28 27,jF 29 0 28,jE 30 29,jY 31 30,jM 32 1,jO 33 .geq 31 32] [0,1,3,33] (jx 33 0)) (.block 1 (js [jM 34 3,jM 35 0,jN 36 35,jF 37 0 36,jE 38 37,jM 39 1,jo 40 (.sliceSl 1 (jt 38) none (some (jt 39)) none),jo 41 (.callv (jt 34) [(jt 40)])] [0,1,3] (jr [jM 42 0,jM 43 0,jN 44 43,jF 45 0 44,jE 46 45,jM 47 1,jo 48 (.sliceSl 1 (jt 46) (some (jt 47)) none none),jN 49 42,jF 50 0 49,jS 1 50 48] [0,1,3]))))
def Q1n:AFun:=⟨(js [jM 8 0,jN 9 8,jF 10 1 9,jE 11 10,jM 12 2,jY 13 12,jV 14 .u64 13,jO 15 .add 11 14,jN 16 8,jF 17 1 16,jS 1 17 15] [0,1,2,3] (js [jM 18 0,jM 19 0,jN 20 19,jF 21 0 20,jE 22 21,jM 23 2,jh 24 1 1 22 23,jN 25 18,jF 26 0 25,jS 1 26 24] [0,1,3] (.block 0 (.loop Ml)))),[]⟩
def Qfi:ACode:=(js [jP 176 .lss 175 8] [0,174,175,176] (.seq (jx 176 6) (.seq (.block 7 (js [jM 177 175,jo 178 (.index none 8 1 (jt 174) (jt 175)),jM 15 177,jM 16 178] [0,15,16,174,175] (jr [jM 179 0,jM 180 15,jN 181 179,jF 182 2 181,jH 183 8 1 182 180,jE 184 183,jM 185 16,jO 186 .add 184 185,jN 187 179,jF 188 2 187,jH 189 8 1 188 180,jS 1 189 186] [0,174,175]))) (jr [jP 190 .add 175 1,jM 175 190] [0,174,175]))))
def Qc7:ACode:=(js [jP 88 .lss 87 80] [0,4,10,86,87,88] (.seq (jx 88 4) (.seq (.block 5 (js [jM 89 87,jo 90 (.index none 80 1 (jt 86) (jt 87)),jM 11 89,jM 12 90] [0,4,10,11,12,86,87] (js [jA 91 8 1 10 7,jE 92 91,jA 93 8 1 10 4,jE 94 93,jo 95 (.call 102 [(jt 94),(ji (-14))] true),jA 96 8 1 10 4,jE 97 96,jo 98 (.call 102 [(jt 97),(ji (-18))] true),jO 99 .xor 95 98,jA 100 8 1 10 4,jE 101 100,jo 102 (.call 102 [(jt 101),(ji (-41))] true),jO 103 .xor 99 102,jO 104 .add 92 103,jA 105 8 1 10 4,jE 106 105,jA 107 8 1 10 5,jE 108 107,jO 109 .and 106 108,jA 110 8 1 10 4,jE 111 110,jo 112 (.un .xor (jt 111)),jA 113 8 1 10 6,jE 114 113,jO 115 .and 112 114,jO 116 .xor 109 115,jO 117 .add 104 116,jM 118 12,jO 119 .add 117 118,jM 120 11,jH 121 80 1 4 120,jE 122 121,jO 123 .add 119 122,jM 13 123] [0,4,10,13,86,87] (js [jA 124 8 1 10 0,jE 125 124,jo 126 (.call 102 [(jt 125),(ji (-28))] true),jA 127 8 1 10 0,jE 128 127,jo 129 (.call 102 [(jt 128),(ji (-34))] true),jO 130 .xor 126 129,jA 131 8 1 10 0,jE 132 131,jo 133 (.call 102 [(jt 132),(ji (-39))] true),jO 134 .xor 130 133,jA 135 8 1 10 0,jE 136 135,jA 137 8 1 10 1,jE 138 137,jO 139 .and 136 138,jA 140 8 1 10 0,jE 141 140,jA 142 8 1 10 2,jE 143 142,jO 144 .and 141 143,jO 145 .xor 139 144,jA 146 8 1 10 1,jE 147 146,jA 148 8 1 10 2,jE 149 148,jO 150 .and 147 149,jO 151 .xor 145 150,jO 152 .add 134 151,jM 14 152] [0,4,10,13,14,86,87] (jr [jM 153 13,jM 154 14,jO 155 .add 153 154,jA 156 8 1 10 0,jE 157 156,jA 158 8 1 10 1,jE 159 158,jA 160 8 1 10 2,jE 161 160,jA 162 8 1 10 3,jE 163 162,jM 164 13,jO 165 .add 163 164,jA 166 8 1 10 4,jE 167 166,jA 168 8 1 10 5,jE 169 168,jA 170 8 1 10 6,jE 171 170,jo 172 (.build (Qa 8 (.int .u64 0)) [jp 0 1 155,jp 1 1 157,jp 2 1 159,jp 3 1 161,jp 4 1 165,jp 5 1 167,jp 6 1 169,jp 7 1 171]),jS 8 10 172] [0,4,10,86,87]))))) (jr [jP 173 .add 87 1,jM 87 173] [0,4,10,86,87]))))
def Qfh:ACode:=(js [jO 31 .lss 30 29] [0,1,4,5,17,28,29,30,31] (.seq (jx 31 2) (.seq (.block 3 (js [jJ 32 1 28 30,jE 33 32,jM 7 33] [0,1,4,5,7,17,28,29,30] (jr [jM 34 5,jM 35 5,jH 36 80 1 4 35,jE 37 36,jQ 38 .shl 37 .u64 8,jM 39 7,jV 40 .u64 39,jO 41 .or 38 40,jH 42 80 1 4 34,jS 1 42 41] [0,1,4,5,17,28,29,30]))) (jr [jP 43 .add 30 1,jM 30 43] [0,1,4,5,17,28,29,30]))))
def Ta:ACode:=(js [jP 18 .lss 17 80] [0,1,4,17,18] (.seq (jx 18 0) (.seq (.block 1 (js [jM 19 17,jM 5 19] [0,1,4,5,17] (.seq (js [jM 20 5,jP 21 .lss 20 16] [0,1,4,5,17,21] (.cond (jt 21) (.seq (js [jM 22 1,jM 23 5,jo 24 (.bin .mul (ji 8) (jt 23)),jM 25 5,jo 26 (.bin .mul (ji 8) (jt 25)),jP 27 .add 26 8,jo 28 (.sliceSl 1 (jt 22) (some (jt 24)) (some (jt 27)) none),jY 29 28,jI 30 0] [0,1,4,5,17,28,29,30] (.block 2 (.loop Qfh))) (.exit 1)) .skip)) (js [jM 44 5,jP 45 .sub 44 15,jH 46 80 1 4 45,jE 47 46,jM 48 5,jP 49 .sub 48 2,jH 50 80 1 4 49,jE 51 50,jM 8 47,jM 9 51] [0,1,4,5,8,9,17] (jr [jM 52 5,jM 53 5,jP 54 .sub 53 16,jH 55 80 1 4 54,jE 56 55,jM 57 5,jP 58 .sub 57 7,jH 59 80 1 4 58,jE 60 59,jO 61 .add 56 60,jM 62 8,jo 63 (.call 102 [(jt 62),(ji (-1))] true),jM 64 8,jo 65 (.call 102 [(jt 64),(ji (-8))] true),jO 66 .xor 63 65,jM 67 8,jQ 68 .shr 67 .u64 7,jO 69 .xor 66 68,jO 70 .add 61 69,jM 71 9,jo 72 (.call 102 [(jt 71),(ji (-19))] true),jM 73 9,jo 74 (.call 102 [(jt 73),(ji (-61))] true),jO 75 .xor 72 74,jM 76 9,jQ 77 .shr 76 .u64 6,jO 78 .xor 75 77,jO 79 .add 70 78,jH 80 80 1 4 52,jS 1 80 79] [0,1,4,17]))))) (jr [jP 81 .add 17 1,jM 17 81] [0,1,4,17]))))
def Q83:AFun:=⟨(js [jZ 4 80 .u64] [0,1,4] (.seq (js [jI 17 0] [0,1,4,17] (.block 0 (.loop Ta))) (js [jM 82 0,jN 83 82,jF 84 2 83,jL 85 8 84,jZ 10 8 .u64,jS 8 10 85] [0,4,10] (.seq (js [jo 86 (.call 101 [] true),jI 87 0] [0,4,10,86,87] (.block 4 (.loop Qc7))) (js [jL 174 8 10,jI 175 0] [0,174,175] (.block 6 (.loop Qfi))))))),[]⟩
def Hm:ACode:=(.seq (js [jM 29 8,jP 30 .geq 29 0] [0,7,8,30] (jx 30 2)) (.seq (.block 3 (js [jo 9 (.move (.const (.int .u8 0)))] [0,7,8,9] (.seq (js [jM 33 8,jP 34 .lss 33 9] [0,7,8,9,34] (.cond (jt 34) (jr [jM 35 0,jN 36 35,jF 37 1 36,jE 38 37,jM 39 8,jo 40 (.bin .mul (ji 8) (jt 39)),jO 41 .shr 38 40,jQ 42 .shl 41 .u64 3,jV 43 .u8 42,jM 9 43] [0,7,8,9]) .skip)) (.seq (js [jM 44 8,jP 45 .gtr 44 0,jM 46 45,.mk (some 47) (.move (jt 8)) (some (46,true)),.mk (some 48) (.bin .lss (jt 47) (ji 9)) (some (46,true)),jo 49 (.pick (jt 46) (jt 48) (.const (.bool false)))] [0,7,8,9,49] (.cond (jt 49) (jr [jM 50 9,jM 51 0,jN 52 51,jF 53 1 52,jE 54 53,jM 55 8,jo 56 (.bin .mul (ji 8) (jt 55)),jP 57 .sub 56 8,jO 58 .shr 54 57,jQ 59 .and 58 .u64 255,jQ 60 .shr 59 .u64 5,jV 61 .u8 60,jO 62 .or 50 61,jM 9 62] [0,7,8,9]) .skip)) (jr [jM 63 7,jM 64 9,jo 65 (.buildSlice [(.int .u8 0)] 1 [jp 0 1 64]),jh 66 1 1 63 65,jM 7 66] [0,7,8]))))) (jr [jM 31 8,jP 32 .sub 31 1,jM 8 32] [0,7,8])))
def Mk:ACode:=(.seq (js [jM 11 0,jN 12 11,jF 13 1 12,jE 14 13,jV 15 .i64 14,jM 16 7,jY 17 16,jO 18 .add 15 17,jM 19 2,jO 20 .add 18 19,jM 21 1,jO 22 .rem 20 21,jP 23 .neq 22 0] [0,1,2,7,23] (jx 23 0)) (.block 1 (jr [jM 24 7,jo 25 (.buildSlice [(.int .u8 0)] 1 [jg 0 .u8 0]),jh 26 1 1 24 25,jM 7 26] [0,1,2,7])))
def Q1m:AFun:=⟨(js [jo 6 (.move (.const (.slice none 0 0)))] [0,1,2] (js [jo 10 (.buildSlice [(.int .u8 0)] 1 [jg 0 .u8 128]),jM 7 10] [0,1,2,7] (.seq (.block 0 (.loop Mk)) (.seq (js [jM 27 2,jP 28 .sub 27 1,jM 8 28] [0,7,8] (.block 2 (.loop Hm))) (js [jM 67 7,jM 6 67] [6] .ret))))),[(6,none)]⟩
def Q82:AFun:=⟨(js [jo 4 (.move (.const (.int .u64 0)))] [0,1] (js [jM 6 1,jV 7 .u64 6,jQ 8 .and 7 .u64 63,jM 5 8] [0,5] (js [jM 9 0,jM 10 5,jO 11 .shl 9 10,jM 12 0,jM 13 5,jo 14 (.bin .sub (.const (.int .u64 64)) (jt 13)),jO 15 .shr 12 14,jO 16 .or 11 15,jM 4 16] [4] .ret))),[(4,none)]⟩
def Q81:AFun:=⟨(js [jZ 0 80 .u64] [0] (js [jo 1 (.build (Qa 80 (.int .u64 0)) [jg 0 .u64 4794697086780616226,jg 1 .u64 8158064640168781261,jg 2 .u64 13096744586834688815,jg 3 .u64 16840607885511220156,jg 4 .u64 4131703408338449720,jg 5 .u64 6480981068601479193,jg 6 .u64 10538285296894168987,jg 7 .u64 12329834152419229976,jg 8 .u64 15566598209576043074,jg 9 .u64 1334009975649890238,jg 10 .u64 2608012711638119052,jg 11 .u64 6128411473006802146,jg 12 .u64 8268148722764581231,jg 13 .u64 9286055187155687089,jg 14 .u64 11230858885718282805,jg 15 .u64 13951009754708518548,jg 16 .u64 16472876342353939154,jg 17 .u64 17275323862435702243,jg 18 .u64 1135362057144423861,jg 19 .u64 2597628984639134821,jg 20 .u64 3308224258029322869,jg 21 .u64 5365058923640841347,jg 22 .u64 6679025012923562964,jg 23 .u64 8573033837759648693,jg 24 .u64 10970295158949994411,jg 25 .u64 12119686244451234320,jg 26 .u64 12683024718118986047,jg 27 .u64 13788192230050041572,jg 28 .u64 14330467153632333762,jg 29 .u64 15395433587784984357,jg 30 .u64 489312712824947311,jg 31 .u64 1452737877330783856,jg 32 .u64 2861767655752347644,jg 33 .u64 3322285676063803686,jg 34 .u64 5560940570517711597,jg 35 .u64 5996557281743188959,jg 36 .u64 7280758554555802590,jg 37 .u64 8532644243296465576,jg 38 .u64 9350256976987008742,jg 39 .u64 10552545826968843579,jg 40 .u64 11727347734174303076,jg 41 .u64 12113106623233404929,jg 42 .u64 14000437183269869457,jg 43 .u64 14369950271660146224,jg 44 .u64 15101387698204529176,jg 45 .u64 15463397548674623760,jg 46 .u64 17586052441742319658,jg 47 .u64 1182934255886127544,jg 48 .u64 1847814050463011016,jg 49 .u64 2177327727835720531,jg 50 .u64 2830643537854262169,jg 51 .u64 3796741975233480872,jg 52 .u64 4115178125766777443,jg 53 .u64 5681478168544905931,jg 54 .u64 6601373596472566643,jg 55 .u64 7507060721942968483,jg 56 .u64 8399075790359081724,jg 57 .u64 8693463985226723168,jg 58 .u64 9568029438360202098,jg 59 .u64 10144078919501101548,jg 60 .u64 10430055236837252648,jg 61 .u64 11840083180663258601,jg 62 .u64 13761210420658862357,jg 63 .u64 14299343276471374635,jg 64 .u64 14566680578165727644,jg 65 .u64 15097957966210449927,jg 66 .u64 16922976911328602910,jg 67 .u64 17689382322260857208,jg 68 .u64 500013540394364858,jg 69 .u64 748580250866718886,jg 70 .u64 1242879168328830382,jg 71 .u64 1977374033974150939,jg 72 .u64 2944078676154940804,jg 73 .u64 3659926193048069267,jg 74 .u64 4368137639120453308,jg 75 .u64 4836135668995329356,jg 76 .u64 5532061633213252278,jg 77 .u64 6448918945643986474,jg 78 .u64 6902733635092675308,jg 79 .u64 7801388544844847127]),jS 80 0 1] [0] .ret)),[(0,(some (some 80)))]⟩
def Qsw:AFun:=⟨(js [jB 1 0,jo 2 (.move (.const (.bool false)))] [1] (.seq (js [jo 7 (.call 5 [] true),jo 8 (.un .not (jt 7))] [1,8] (.cond (jt 8) (js [jo 2 (.move (.const (.bool false)))] [2] .ret) .skip)) (js [jL 10 5 1,jc 11 12 10,jM 9 11,jX 12 9 0,jX 13 9 1,jo 3 (.alloc Ys),jS 194 3 12,jM 4 13] [1,3,4] (js [jL 15 5 1,jc 16 13 15,jM 14 16,jX 17 14 0,jX 18 14 1,jM 5 17,jM 6 18] [1,3,4,6] (.seq (js [jM 19 6,jP 20 .neq 19 0,jM 21 20,.mk (some 22) (.fieldAddr 0 (jt 1)) (some (21,false)),.mk (some 23) (.load none (jt 22)) (some (21,false)),.mk (some 24) (.bin .neq (jt 23) (ji 1)) (some (21,false)),jo 25 (.pick (jt 21) (.const (.bool true)) (jt 24))] [1,3,4,25] (.cond (jt 25) (js [jM 26 4,jP 27 .eql 26 110,jM 28 27,.mk (some 29) (.load (some 194) (jt 3)) (some (28,true)),.mk (some 30) (.build Ys []) (some (28,true)),.mk (some 31) (.eqv (some (Qa 194 true)) false (jt 29) (jt 30)) (some (28,true)),jo 32 (.pick (jt 28) (jt 31) (.const (.bool false))),jM 2 32] [2] .ret) .skip)) (.seq (.region [jM 33 4,jP 34 .eql 33 0,jM 35 34,.mk (some 36) (.load (some 194) (jt 3)) (some (35,true)),.mk (some 37) (.call 15 [(jt 36)] false) (some (35,true)),.mk (some 38) (.load (some 5) (jt 1)) (some (35,true)),.mk (some 39) (.call 14 [(jt 37),(jt 38)] false) (some (35,true)),jo 40 (.pick (jt 35) (jt 39) (.const (.bool false))),jM 2 40] (some [2]) [(4,5)]) .ret)))))),[(2,none)]⟩
def Q80:AFun:=⟨(js [jo 0 (.move (.const (.bool false)))] [] (js [jb 8 [jg 0 .u8 1] 32,jb 9 [jg 0 .u8 2] 32,jb 10 [jp 0 32 8,jp 32 32 9] 64,jb 11 [jg 0 .u8 3] 32,jb 12 [jg 0 .u8 4] 32,jb 13 [jp 0 32 11,jp 32 32 12] 64,jZ 1 64 .u8,jZ 2 64 .u8,jS 64 1 10,jS 64 2 13] [1,2] (js [jL 14 64 2,jb 15 [jg 0 .u8 5] 32,jb 16 [jg 0 .u8 6] 32,jo 17 (.call 6 [(jt 14),(jt 15),(jt 16),(.const (.int .u32 7)),(.const (.int .u32 8))] true),jo 3 (.alloc Ys),jS 194 3 17] [1,2,3] (js [jL 19 64 1,jb 20 [jg 0 .u8 9] 32,jL 21 194 3,jG 22 7 19 20 21,jM 18 22,jX 23 18 0,jX 24 18 1,jZ 4 64 .u8,jS 64 4 23,jM 5 24] [1,2,3,4,5] (js [jL 26 64 2,jb 27 [jg 0 .u8 5] 32,jb 28 [jg 0 .u8 6] 32,jL 29 64 1,jC 30 9 29,jb 31 [jg 0 .u8 9] 32,jC 32 10 31,jo 33 (.call 8 [(jt 26),(jt 27),(jt 28),(jt 30),(jt 32)] true),jM 25 33,jX 34 25 0,jX 35 25 1,jZ 6 64 .u8,jS 64 6 34,jM 7 35] [3,4,5,6,7] (js [jM 36 5,jP 37 .eql 36 0,jM 38 37,.mk (some 39) (.move (jt 7)) (some (38,true)),.mk (some 40) (.bin .eql (jt 39) (ji 0)) (some (38,true)),jo 41 (.pick (jt 38) (jt 40) (.const (.bool false))),jM 42 41,.mk (some 43) (.load (some 64) (jt 4)) (some (42,true)),.mk (some 44) (.load (some 64) (jt 6)) (some (42,true)),.mk (some 45) (.eqv (some (Qa 64 true)) false (jt 43) (jt 44)) (some (42,true)),jo 46 (.pick (jt 42) (jt 45) (.const (.bool false))),jM 47 46,.mk (some 48) (.fieldAddr 0 (jt 4)) (some (47,true)),.mk (some 49) (.load (some 32) (jt 48)) (some (47,true)),.mk (some 50) (.build (jz 32) []) (some (47,true)),.mk (some 51) (.eqv (some (Qa 32 true)) true (jt 49) (jt 50)) (some (47,true)),jo 52 (.pick (jt 47) (jt 51) (.const (.bool false))),jM 53 52,.mk (some 54) (.load (some 194) (jt 3)) (some (53,true)),.mk (some 55) (.call 11 [(jt 54)] true) (some (53,true)),.mk (some 56) (.bin .eql (jt 55) (ji 0)) (some (53,true)),jo 57 (.pick (jt 53) (jt 56) (.const (.bool false))),jM 58 57,.mk (some 59) (.fieldAddr 128 (jt 3)) (some (58,true)),.mk (some 60) (.load none (jt 59)) (some (58,true)),.mk (some 61) (.bin .eql (jt 60) (.const (.int .u32 7))) (some (58,true)),jo 62 (.pick (jt 58) (jt 61) (.const (.bool false))),jM 63 62,.mk (some 64) (.fieldAddr 129 (jt 3)) (some (63,true)),.mk (some 65) (.load none (jt 64)) (some (63,true)),.mk (some 66) (.bin .eql (jt 65) (.const (.int .u32 8))) (some (63,true)),jo 67 (.pick (jt 63) (jt 66) (.const (.bool false))),jM 0 67] [0] .ret)))))),[(0,none)]⟩
def Q1l:AFun:=⟨(js [jB 5 0,jB 6 1,jB 7 2,jo 10 (.alloc Ys)] [3,4,5,6,7,10] (js [jL 12 64 5,jC 13 9 12,jL 14 32 6,jC 15 10 14,jM 16 3,jo 17 (.build Ys [jp 0 64 13,jp 64 32 15,jp 128 1 16]),jo 11 (.alloc Ys),jS 194 11 17] [3,4,5,7,10,11] (.seq (js [jL 18 32 7,jb 19 [] 32,jo 20 (.eqv (some (Qa 32 true)) true (jt 18) (jt 19))] [3,4,5,7,10,11,20] (.cond (jt 20) (jr [jL 21 32 7,jC 22 10 21,jM 23 4,jF 24 96 11,jS 32 24 22,jF 25 129 11,jS 1 25 23] [3,5,10,11]) .skip)) (.seq (.region [jF 26 0 5,jL 27 32 26,jF 28 0 11,jF 29 32 28,jL 30 32 29,jF 31 64 11,jL 32 32 31,jM 33 3,jo 34 (.call 17 [(jt 30),(jt 32),(jt 33)] false),jd 35 16 27 34,jF 36 130 11,jS 64 36 35] (some [10,11]) [(1,8)]) (js [jL 37 194 11,jS 194 10 37] [10] .ret))))),[(10,(some (some 194)))]⟩
def Qnm:AFun:=⟨(js [jB 3 0,jB 4 1,jB 5 2,jZ 6 64 .u8,jI 7 0] [3,4,5,6] (.seq (js [jL 12 194 5,jC 13 11 12,jM 8 13] [3,4,5,6,8] (js [jM 14 8,jP 15 .neq 14 0] [3,4,5,6,8,15] (.cond (jt 15) (js [jb 16 [] 64,jM 17 8,jS 64 6 16,jM 7 17] [6,7] .ret) .skip))) (js [jF 18 32 3,jL 19 32 18,jF 20 64 5,jL 21 32 20,jb 22 [jp 0 32 19,jp 32 32 21] 64,jL 23 32 4,jF 24 0 5,jF 25 32 24,jL 26 32 25,jb 27 [jp 0 32 23,jp 32 32 26] 64,jL 28 32 4,jF 29 64 5,jL 30 32 29,jb 31 [jp 0 32 28,jp 32 32 30] 64,jo 32 (.buildSlice (jz 192) 3 [jp 0 64 22,jp 64 64 27,jp 128 64 31]),jM 9 32] [3,4,5,6,9] (.seq (js [jF 33 96 5,jL 34 32 33,jb 35 [] 32,jo 36 (.eqv (some (Qa 32 true)) true (jt 34) (jt 35))] [3,4,5,6,9,36] (.cond (jt 36) (jr [jM 37 9,jL 38 32 4,jF 39 96 5,jL 40 32 39,jb 41 [jp 0 32 38,jp 32 32 40] 64,jo 42 (.buildSlice (jz 64) 1 [jp 0 64 41]),jh 43 64 64 37 42,jM 9 43] [3,5,6,9]) .skip)) (js [jM 45 9,jc 46 18 45,jM 44 46,jX 47 44 0,jX 48 44 1,jZ 10 32 .u8,jS 32 10 47,jM 11 48] [3,5,6,10,11] (.seq (js [jM 49 11,jP 50 .neq 49 0] [3,5,6,10,11,50] (.cond (jt 50) (js [jb 51 [] 64,jM 52 11,jS 64 6 51,jM 7 52] [6,7] .ret) .skip)) (js [jL 53 32 10,jL 54 64 3,jC 55 9 54,jF 56 0 5,jL 57 64 56,jD 58 19 55 57,jb 59 [jp 0 32 53,jp 32 32 58] 64,jS 64 6 59,jI 7 0] [6,7] .ret))))))),[(6,(some (some 64))),(7,none)]⟩
def Qnl:AFun:=⟨(js [jB 5 0,jB 6 1,jB 7 2,jB 8 3,jB 9 4,jZ 10 64 .u8,jI 11 0] [5,6,7,8,9,10] (js [jL 15 32 6,jF 16 32 8,jL 17 32 16,jb 18 [jp 0 32 15,jp 32 32 17] 64,jF 19 32 5,jL 20 32 19,jL 21 32 9,jb 22 [jp 0 32 20,jp 32 32 21] 64,jL 23 32 6,jL 24 32 9,jb 25 [jp 0 32 23,jp 32 32 24] 64,jo 26 (.buildSlice (jz 192) 3 [jp 0 64 18,jp 64 64 22,jp 128 64 25]),jM 12 26] [5,7,8,9,10,12] (.seq (js [jL 27 32 7,jb 28 [] 32,jo 29 (.eqv (some (Qa 32 true)) true (jt 27) (jt 28))] [5,7,8,9,10,12,29] (.cond (jt 29) (jr [jM 30 12,jL 31 32 7,jL 32 32 9,jb 33 [jp 0 32 31,jp 32 32 32] 64,jo 34 (.buildSlice (jz 64) 1 [jp 0 64 33]),jh 35 64 64 30 34,jM 12 35] [5,8,10,12]) .skip)) (js [jM 37 12,jc 38 18 37,jM 36 38,jX 39 36 0,jX 40 36 1,jZ 13 32 .u8,jS 32 13 39,jM 14 40] [5,8,10,13,14] (.seq (js [jM 41 14,jP 42 .neq 41 0] [5,8,10,13,14,42] (.cond (jt 42) (js [jb 43 [] 64,jM 44 14,jS 64 10 43,jM 11 44] [10,11] .ret) .skip)) (js [jL 45 32 13,jL 46 64 8,jL 47 64 5,jC 48 9 47,jD 49 19 46 48,jb 50 [jp 0 32 45,jp 32 32 49] 64,jS 64 10 50,jI 11 0] [10,11] .ret)))))),[(10,(some (some 64))),(11,none)]⟩
def Q8z:AFun:=⟨(js [jB 1 0,jZ 2 64 .u8] [1,2] (js [jF 3 0 1,jL 4 32 3,jC 5 20 4,jF 6 32 1,jL 7 32 6,jC 8 10 7,jb 9 [jp 0 32 5,jp 32 32 8] 64,jS 64 2 9] [2] .ret)),[(2,(some (some 64)))]⟩
def Q8y:AFun:=⟨(js [jB 1 0,jZ 2 32 .u8] [1,2] (js [jL 3 32 1,jb 4 [jg 0 .u8 9] 32,jD 5 21 3 4,jS 32 2 5] [2] .ret)),[(2,(some (some 32)))]⟩
def Q8x:AFun:=⟨(js [jB 1 0,jI 2 0] [1] (.seq (.region [jF 3 0 1,jF 4 0 3,jL 5 32 4,jF 6 130 1,jL 7 64 6,jF 8 0 1,jF 9 32 8,jL 10 32 9,jF 11 64 1,jL 12 32 11,jF 13 128 1,jE 14 13,jo 15 (.call 17 [(jt 10),(jt 12),(jt 14)] false),jo 16 (.call 22 [(jt 5),(jt 7),(jt 15)] false),jM 2 16] (some [2]) [(2,12),(4,12)]) .ret)),[(2,none)]⟩
def Qsv:AFun:=⟨(js [jB 1 0,jo 2 (.alloc Ys),jI 3 0] [1,2] (.seq (js [jL 7 5 1,jc 8 23 7,jM 6 8,jX 9 6 0,jX 10 6 1,jM 4 9,jM 5 10] [1,2,5] (js [jM 11 5,jP 12 .neq 11 0,jM 13 12,.mk (some 14) (.fieldAddr 0 (jt 1)) (some (13,false)),.mk (some 15) (.load none (jt 14)) (some (13,false)),.mk (some 16) (.bin .neq (jt 15) (ji 1)) (some (13,false)),jo 17 (.pick (jt 13) (.const (.bool true)) (jt 16))] [1,2,17] (.cond (jt 17) (js [jo 18 (.build Ys []),jS 194 2 18,jI 3 110] [2,3] .ret) .skip))) (js [jF 19 1 1,jE 20 19,jo 21 (.indexSl 32 (jt 20) (ji 0)),jL 22 32 21,jF 23 1 1,jE 24 23,jo 25 (.indexSl 32 (jt 24) (ji 1)),jL 26 32 25,jb 27 [jp 0 32 22,jp 32 32 26] 64,jF 28 1 1,jE 29 28,jo 30 (.indexSl 32 (jt 29) (ji 2)),jL 31 32 30,jF 32 1 1,jE 33 32,jo 34 (.indexSl 32 (jt 33) (ji 3)),jL 35 32 34,jF 36 2 1,jE 37 36,jo 38 (.indexSl 1 (jt 37) (ji 0)),jE 39 38,jF 40 2 1,jE 41 40,jo 42 (.indexSl 1 (jt 41) (ji 1)),jE 43 42,jF 44 3 1,jE 45 44,jo 46 (.indexSl 64 (jt 45) (ji 0)),jL 47 64 46,jo 48 (.build Ys [jp 0 64 27,jp 64 32 31,jp 96 32 35,jp 128 1 39,jp 129 1 43,jp 130 64 47]),jS 194 2 48,jI 3 0] [2,3] .ret))),[(2,(some (some 194))),(3,none)]⟩
def Qfg:ACode:=(.seq (js [jM 109 11,jP 110 .lss 109 64] [1,4,6,10,11,110] (jx 110 8)) (.seq (.block 9 (jr [jM 113 6,jF 114 3 1,jE 115 114,jM 116 10,jM 117 11,jJ 118 64 115 116,jH 119 64 1 118 117,jE 120 119,jo 121 (.buildSlice [(.int .u8 0)] 1 [jp 0 1 120]),jo 122 (.b2s (jt 121)),jO 123 .add 113 122,jM 6 123] [1,4,6,10,11])) (jr [jM 111 11,jP 112 .add 111 1,jM 11 112] [1,4,6,10,11])))
def Qff:ACode:=(.seq (js [jM 102 10,jF 103 3 1,jE 104 103,jY 105 104,jO 106 .lss 102 105] [1,4,6,10,106] (jx 106 6)) (.seq (.block 7 (js [jI 11 0] [1,4,6,10,11] (.block 8 (.loop Qfg)))) (jr [jM 107 10,jP 108 .add 107 1,jM 10 108] [1,4,6,10])))
def Qfe:ACode:=(.seq (js [jM 86 9,jF 87 2 1,jE 88 87,jY 89 88,jO 90 .lss 86 89] [1,4,6,9,90] (jx 90 4)) (.seq (.block 5 (jr [jM 93 6,jF 94 2 1,jE 95 94,jM 96 9,jJ 97 1 95 96,jE 98 97,jV 99 .i64 98,jC 100 25 99,jO 101 .add 93 100,jM 6 101] [1,4,6,9])) (jr [jM 91 9,jP 92 .add 91 1,jM 9 92] [1,4,6,9])))
def Qfd:ACode:=(.seq (js [jM 71 8,jP 72 .lss 71 32] [1,4,6,7,8,72] (jx 72 2)) (.seq (.block 3 (jr [jM 75 6,jF 76 1 1,jE 77 76,jM 78 7,jM 79 8,jJ 80 32 77 78,jH 81 32 1 80 79,jE 82 81,jo 83 (.buildSlice [(.int .u8 0)] 1 [jp 0 1 82]),jo 84 (.b2s (jt 83)),jO 85 .add 75 84,jM 6 85] [1,4,6,7,8])) (jr [jM 73 8,jP 74 .add 73 1,jM 8 74] [1,4,6,7,8])))
def Qfc:ACode:=(.seq (js [jM 64 7,jF 65 1 1,jE 66 65,jY 67 66,jO 68 .lss 64 67] [1,4,6,7,68] (jx 68 0)) (.seq (.block 1 (js [jI 8 0] [1,4,6,7,8] (.block 2 (.loop Qfd)))) (jr [jM 69 7,jP 70 .add 69 1,jM 7 70] [1,4,6,7])))
def Qb6:AFun:=⟨(js [jB 1 0,jo 2 (.move (.const (.string (ByteArray.mk #[])))),jI 3 0] [1] (js [jF 13 0 1,jE 14 13,jC 15 24 14,jM 12 15,jX 16 12 0,jX 17 12 1,jo 4 (.alloc [(.int .i64 0),(.int .i64 0),(.int .i64 0),(.int .i64 0)]),jS 4 4 16,jM 5 17] [1,4,5] (.seq (js [jM 18 5,jo 19 (.un .not (jt 18)),jM 20 19,.mk (some 21) (.fieldAddr 1 (jt 1)) (some (20,false)),.mk (some 22) (.load none (jt 21)) (some (20,false)),.mk (some 23) (.len false (jt 22)) (some (20,false)),.mk (some 24) (.indexAddr 4 1 (jt 4) (ji 0)) (some (20,false)),.mk (some 25) (.load none (jt 24)) (some (20,false)),.mk (some 26) (.bin .neq (jt 23) (jt 25)) (some (20,false)),jo 27 (.pick (jt 20) (.const (.bool true)) (jt 26)),jM 28 27,.mk (some 29) (.fieldAddr 2 (jt 1)) (some (28,false)),.mk (some 30) (.load none (jt 29)) (some (28,false)),.mk (some 31) (.len false (jt 30)) (some (28,false)),.mk (some 32) (.indexAddr 4 1 (jt 4) (ji 1)) (some (28,false)),.mk (some 33) (.load none (jt 32)) (some (28,false)),.mk (some 34) (.bin .neq (jt 31) (jt 33)) (some (28,false)),jo 35 (.pick (jt 28) (.const (.bool true)) (jt 34)),jM 36 35,.mk (some 37) (.fieldAddr 3 (jt 1)) (some (36,false)),.mk (some 38) (.load none (jt 37)) (some (36,false)),.mk (some 39) (.len false (jt 38)) (some (36,false)),.mk (some 40) (.indexAddr 4 1 (jt 4) (ji 2)) (some (36,false)),.mk (some 41) (.load none (jt 40)) (some (36,false)),.mk (some 42) (.bin .neq (jt 39) (jt 41)) (some (36,false)),jo 43 (.pick (jt 36) (.const (.bool true)) (jt 42)),jM 44 43,.mk (some 45) (.indexAddr 4 1 (jt 4) (ji 3)) (some (44,false)),.mk (some 46) (.load none (jt 45)) (some (44,false)),.mk (some 47) (.bin .eql (jt 46) (ji 0)) (some (44,false)),.mk (some 48) (.move (jt 47)) (some (44,false)),.mk (some 49) (.fieldAddr 4 (jt 1)) (some (48,true)),.mk (some 50) (.load none (jt 49)) (some (48,true)),.mk (some 51) (.len false (jt 50)) (some (48,true)),.mk (some 52) (.bin .gtr (jt 51) (ji 0)) (some (48,true)),.mk (some 53) (.pick (jt 48) (jt 52) (.const (.bool false))) (some (44,false)),jo 54 (.pick (jt 44) (.const (.bool true)) (jt 53))] [1,4,54] (.cond (jt 54) (js [jo 2 (.move (.const (.string (ByteArray.mk #[])))),jI 3 110] [2,3] .ret) .skip)) (.seq (js [jF 55 4 1,jE 56 55,jY 57 56,jP 58 .gtr 57 16384] [1,4,58] (.cond (jt 58) (js [jo 2 (.move (.const (.string (ByteArray.mk #[])))),jI 3 2] [2,3] .ret) .skip)) (js [jF 59 0 1,jE 60 59,jV 61 .u8 60,jo 62 (.buildSlice [(.int .u8 0)] 1 [jp 0 1 61]),jo 63 (.b2s (jt 62)),jM 6 63] [1,4,6] (.seq (js [jI 7 0] [1,4,6,7] (.block 0 (.loop Qfc))) (.seq (js [jI 9 0] [1,4,6,9] (.block 4 (.loop Qfe))) (.seq (js [jI 10 0] [1,4,6,10] (.block 6 (.loop Qff))) (.seq (js [jA 124 4 1 4 3,jE 125 124,jP 126 .eql 125 1] [1,6,126] (.cond (jt 126) (jr [jM 127 6,jF 128 4 1,jE 129 128,jY 130 129,jC 131 25 130,jF 132 4 1,jE 133 132,jo 134 (.b2s (jt 133)),jO 135 .add 131 134,jO 136 .add 127 135,jM 6 136] [6]) .skip)) (js [jM 137 6,jM 2 137,jI 3 0] [2,3] .ret)))))))))),[(2,none),(3,none)]⟩
def Qfb:ACode:=(.seq (js [jM 85 7,jF 86 3 2,jE 87 86,jY 88 87,jO 89 .lss 85 88] [2,3,7,89] (jx 89 4)) (.seq (.block 5 (js [jF 92 3 2,jE 93 92,jM 94 7,jJ 95 64 93 94,jL 96 64 95,jF 97 3 3,jE 98 97,jM 99 7,jJ 100 64 98 99,jL 101 64 100,jo 102 (.eqv (some (Qa 64 true)) true (jt 96) (jt 101))] [2,3,7,102] (.cond (jt 102) (js [jo 4 (.move (.const (.bool false)))] [4] .ret) .skip))) (jr [jM 90 7,jP 91 .add 90 1,jM 7 91] [2,3,7])))
def Qfa:ACode:=(.seq (js [jM 67 6,jF 68 2 2,jE 69 68,jY 70 69,jO 71 .lss 67 70] [2,3,6,71] (jx 71 2)) (.seq (.block 3 (js [jF 74 2 2,jE 75 74,jM 76 6,jJ 77 1 75 76,jE 78 77,jF 79 2 3,jE 80 79,jM 81 6,jJ 82 1 80 81,jE 83 82,jO 84 .neq 78 83] [2,3,6,84] (.cond (jt 84) (js [jo 4 (.move (.const (.bool false)))] [4] .ret) .skip))) (jr [jM 72 6,jP 73 .add 72 1,jM 6 73] [2,3,6])))
def Qe9:ACode:=(.seq (js [jM 49 5,jF 50 1 2,jE 51 50,jY 52 51,jO 53 .lss 49 52] [2,3,5,53] (jx 53 0)) (.seq (.block 1 (js [jF 56 1 2,jE 57 56,jM 58 5,jJ 59 32 57 58,jL 60 32 59,jF 61 1 3,jE 62 61,jM 63 5,jJ 64 32 62 63,jL 65 32 64,jo 66 (.eqv (some (Qa 32 true)) true (jt 60) (jt 65))] [2,3,5,66] (.cond (jt 66) (js [jo 4 (.move (.const (.bool false)))] [4] .ret) .skip))) (jr [jM 54 5,jP 55 .add 54 1,jM 5 55] [2,3,5])))
def Q8w:AFun:=⟨(js [jB 2 0,jB 3 1,jo 4 (.move (.const (.bool false)))] [2,3] (.seq (js [jF 8 0 2,jE 9 8,jF 10 0 3,jE 11 10,jO 12 .neq 9 11,jM 13 12,.mk (some 14) (.fieldAddr 1 (jt 2)) (some (13,false)),.mk (some 15) (.load none (jt 14)) (some (13,false)),.mk (some 16) (.len false (jt 15)) (some (13,false)),.mk (some 17) (.fieldAddr 1 (jt 3)) (some (13,false)),.mk (some 18) (.load none (jt 17)) (some (13,false)),.mk (some 19) (.len false (jt 18)) (some (13,false)),.mk (some 20) (.bin .neq (jt 16) (jt 19)) (some (13,false)),jo 21 (.pick (jt 13) (.const (.bool true)) (jt 20)),jM 22 21,.mk (some 23) (.fieldAddr 2 (jt 2)) (some (22,false)),.mk (some 24) (.load none (jt 23)) (some (22,false)),.mk (some 25) (.len false (jt 24)) (some (22,false)),.mk (some 26) (.fieldAddr 2 (jt 3)) (some (22,false)),.mk (some 27) (.load none (jt 26)) (some (22,false)),.mk (some 28) (.len false (jt 27)) (some (22,false)),.mk (some 29) (.bin .neq (jt 25) (jt 28)) (some (22,false)),jo 30 (.pick (jt 22) (.const (.bool true)) (jt 29)),jM 31 30,.mk (some 32) (.fieldAddr 3 (jt 2)) (some (31,false)),.mk (some 33) (.load none (jt 32)) (some (31,false)),.mk (some 34) (.len false (jt 33)) (some (31,false)),.mk (some 35) (.fieldAddr 3 (jt 3)) (some (31,false)),.mk (some 36) (.load none (jt 35)) (some (31,false)),.mk (some 37) (.len false (jt 36)) (some (31,false)),.mk (some 38) (.bin .neq (jt 34) (jt 37)) (some (31,false)),jo 39 (.pick (jt 31) (.const (.bool true)) (jt 38)),jM 40 39,.mk (some 41) (.fieldAddr 4 (jt 2)) (some (40,false)),.mk (some 42) (.load none (jt 41)) (some (40,false)),.mk (some 43) (.b2s (jt 42)) (some (40,false)),.mk (some 44) (.fieldAddr 4 (jt 3)) (some (40,false)),.mk (some 45) (.load none (jt 44)) (some (40,false)),.mk (some 46) (.b2s (jt 45)) (some (40,false)),.mk (some 47) (.bin .neq (jt 43) (jt 46)) (some (40,false)),jo 48 (.pick (jt 40) (.const (.bool true)) (jt 47))] [2,3,48] (.cond (jt 48) (js [jo 4 (.move (.const (.bool false)))] [4] .ret) .skip)) (.seq (js [jI 5 0] [2,3,5] (.block 0 (.loop Qe9))) (.seq (js [jI 6 0] [2,3,6] (.block 2 (.loop Qfa))) (.seq (js [jI 7 0] [2,3,7] (.block 4 (.loop Qfb))) (js [jo 4 (.move (.const (.bool true)))] [4] .ret)))))),[(4,none)]⟩
def Q8v:AFun:=⟨(js [jB 1 0,jo 2 (.alloc [(.int .i64 0),(.slice none 0 0),(.slice none 0 0),(.slice none 0 0),(.slice none 0 0)])] [1,2] (js [jF 3 0 1,jF 4 0 3,jL 5 32 4,jF 6 0 1,jF 7 32 6,jL 8 32 7,jF 9 64 1,jL 10 32 9,jF 11 96 1,jL 12 32 11,jo 13 (.buildSlice (jz 128) 4 [jp 0 32 5,jp 32 32 8,jp 64 32 10,jp 96 32 12]),jF 14 128 1,jE 15 14,jF 16 129 1,jE 17 16,jo 18 (.buildSlice [(.int .u32 0),(.int .u32 0)] 2 [jp 0 1 15,jp 1 1 17]),jF 19 130 1,jL 20 64 19,jo 21 (.buildSlice (jz 64) 1 [jp 0 64 20]),jo 22 (.build [(.int .i64 0),(.slice none 0 0),(.slice none 0 0),(.slice none 0 0),(.slice none 0 0)] [jg 0 .i64 1,jp 1 1 13,jp 2 1 18,jp 3 1 21]),jS 5 2 22] [2] .ret)),[(2,(some (some 5)))]⟩
def Q8u:AFun:=⟨(js [jB 3 0,jB 4 1,jo 6 (.move (.const (.slice none 0 0)))] [2,3,4] (js [jo 7 (.buildSlice (jz 12) 12 [jg 0 .u8 115,jg 1 .u8 105,jg 2 .u8 103,jg 3 .u8 110,jg 4 .u8 101,jg 5 .u8 116,jg 6 .u8 32,jg 7 .u8 111,jg 8 .u8 102,jg 9 .u8 102,jg 10 .u8 101,jg 11 .u8 114]),jo 8 (.convSl (jt 7)),jW 9 32 1 3,jW 10 32 1 4,jM 11 2,jQ 12 .shr 11 .u64 24,jV 13 .u8 12,jM 14 2,jQ 15 .shr 14 .u64 16,jV 16 .u8 15,jM 17 2,jQ 18 .shr 17 .u64 8,jV 19 .u8 18,jM 20 2,jV 21 .u8 20,jo 22 (.buildSlice [(.int .u8 0),(.int .u8 0),(.int .u8 0),(.int .u8 0)] 4 [jp 0 1 13,jp 1 1 16,jp 2 1 19,jp 3 1 21]),jo 23 (.buildSlice [(.slice none 0 0),(.slice none 0 0),(.slice none 0 0),(.slice none 0 0)] 4 [jp 0 1 8,jp 1 1 9,jp 2 1 10,jp 3 1 22]),jM 6 23] [6] .ret)),[(6,none)]⟩
def R9:ACode:=(js [jO 25 .lss 24 23] [2,4,22,23,24,25] (.seq (jx 25 2) (.seq (.block 3 (js [jJ 26 64 22 24,jL 27 64 26,jZ 7 64 .u8,jS 64 7 27] [2,4,7,22,23,24] (js [jF 29 0 7,jL 30 32 29,jF 31 32 7,jL 32 32 31,jD 33 32 30 32,jM 28 33,jX 34 28 0,jX 35 28 1,jZ 8 32 .u8,jS 32 8 34,jM 9 35] [2,4,8,9,22,23,24] (.seq (js [jM 36 9,jP 37 .neq 36 0] [2,4,8,9,22,23,24,37] (.cond (jt 37) (js [jb 38 [] 32,jM 39 9,jS 32 2 38,jM 3 39] [2,3] .ret) .skip)) (jr [jM 40 4,jW 41 32 1 8,jh 42 1 1 40 41,jM 4 42] [2,4,22,23,24]))))) (jr [jP 43 .add 24 1,jM 24 43] [2,4,22,23,24]))))
def Qe8:ACode:=(js [jO 16 .lss 15 14] [0,2,4,14,15,16] (.seq (jx 16 0) (.seq (.block 1 (js [jM 17 15,jM 5 17] [0,2,4,5,14,15] (jr [jM 18 4,jM 19 5,jJ 20 1 18 19,jq (.store 1 (jt 20) (.const (.int .u8 255)))] [0,2,4,14,15]))) (jr [jP 21 .add 15 1,jM 15 21] [0,2,4,14,15]))))
def Q1k:AFun:=⟨(js [jZ 2 32 .u8,jI 3 0] [0,2] (js [jo 12 (.makeSlice [(.int .u8 0)] 1 (ji 32) (ji 32)),jM 4 12] [0,2,4] (.seq (js [jM 13 4,jY 14 13,jI 15 0] [0,2,4,14,15] (.block 0 (.loop Qe8))) (.seq (js [jM 22 0,jY 23 22,jI 24 0] [2,4,22,23,24] (.block 2 (.loop R9))) (js [jM 45 4,jo 46 (.call 33 [(.const (.slice none 0 0)),(jt 45),(.const (.string (ByteArray.mk #[115,105,103,110,101,116,32,97,103,114,101,101]))),(ji 1)] false),jM 44 46,jX 47 44 0,jX 48 44 1,jM 10 47,jM 11 48] [2,10,11] (.seq (js [jM 49 11,jP 50 .neq 49 0] [2,10,11,50] (.cond (jt 50) (js [jb 51 [] 32,jM 52 11,jS 32 2 51,jM 3 52] [2,3] .ret) .skip)) (js [jM 53 10,jo 54 (.indexSl 32 (jt 53) (ji 0)),jL 55 32 54,jS 32 2 55,jI 3 0] [2,3] .ret))))))),[(2,(some (some 32))),(3,none)]⟩
def Q8t:AFun:=⟨(js [jB 2 0,jB 3 1,jZ 4 32 .u8] [2,3,4] (js [jo 5 (.buildSlice (jz 12) 12 [jg 0 .u8 115,jg 1 .u8 105,jg 2 .u8 103,jg 3 .u8 110,jg 4 .u8 101,jg 5 .u8 116,jg 6 .u8 32,jg 7 .u8 98,jg 8 .u8 111,jg 9 .u8 117,jg 10 .u8 110,jg 11 .u8 100]),jo 6 (.convSl (jt 5)),jF 7 0 2,jW 8 32 1 7,jF 9 32 2,jW 10 32 1 9,jF 11 0 3,jW 12 32 1 11,jF 13 32 3,jW 14 32 1 13,jo 15 (.buildSlice (Qa 5 (.slice none 0 0)) 5 [jp 0 1 6,jp 1 1 8,jp 2 1 10,jp 3 1 12,jp 4 1 14]),jc 16 34 15,jS 32 4 16] [4] .ret)),[(4,(some (some 32)))]⟩
def Qc6:ACode:=(.seq (js [jM 19 8,jP 20 .geq 19 0] [2,4,5,6,7,8,20] (jx 20 0)) (.seq (.block 1 (js [jM 23 8,jP 24 .quo 23 8,jH 25 32 1 2 24,jE 26 25,jM 27 8,jP 28 .rem 27 8,jO 29 .shr 26 28,jQ 30 .and 29 .u8 1,jQ 31 .eql 30 .u8 1,jM 9 31] [2,4,5,6,7,8,9] (js [jM 33 9,jL 34 10 6,jL 35 10 7,jG 36 38 33 34 35,jM 32 36,jX 37 32 0,jX 38 32 1,jS 10 6 37,jS 10 7 38] [2,4,5,6,7,8,9] (js [jL 40 10 6,jL 41 10 7,jL 42 5 5,jG 43 39 40 41 42,jM 39 43,jX 44 39 0,jX 45 39 1,jS 10 6 44,jS 10 7 45] [2,4,5,6,7,8,9] (jr [jM 47 9,jL 48 10 6,jL 49 10 7,jG 50 38 47 48 49,jM 46 50,jX 51 46 0,jX 52 46 1,jS 10 6 51,jS 10 7 52] [2,4,5,6,7,8]))))) (jr [jM 21 8,jP 22 .sub 21 1,jM 8 22] [2,4,5,6,7,8])))
def Q8s:AFun:=⟨(js [jB 2 0,jB 3 1,jZ 4 32 .u8] [2,3,4] (js [jL 10 32 2,jC 11 35 10,jS 32 2 11] [2,3,4] (js [jL 12 32 3,jC 13 36 12,jZ 5 5 .u64,jS 5 5 13] [2,4,5] (.seq (.region [jo 14 (.call 37 [(.const (.int .u32 1))] true),jo 15 (.build (Qa 10 (.int .u64 0)) [jp 0 5 14]),jL 16 5 5,jo 17 (.call 37 [(.const (.int .u32 1))] true),jo 18 (.build (Qa 10 (.int .u64 0)) [jp 0 5 16,jp 5 5 17]),jZ 6 10 .u64,jZ 7 10 .u64,jS 10 6 15,jS 10 7 18] (some [2,4,5,6,7]) [(2,7)]) (.seq (js [jI 8 254] [2,4,5,6,7,8] (.block 0 (.loop Qc6))) (js [jF 53 0 6,jL 54 5 53,jF 55 5 6,jL 56 5 55,jC 57 41 56,jD 58 40 54 57,jC 59 42 58,jS 32 4 59] [4] .ret)))))),[(4,(some (some 32)))]⟩
def Qc5:ACode:=(js [jO 94 .lss 93 92] [1,4,6,91,92,93,94] (.seq (jx 94 5) (.seq (.block 6 (js [jJ 95 64 91 93,jL 96 64 95,jZ 12 64 .u8,jS 64 12 96] [1,4,6,12,91,92,93] (jr [jF 97 0 6,jE 98 97,jW 99 64 1 12,jh 100 1 1 98 99,jF 101 0 6,jS 1 101 100] [1,4,6,91,92,93]))) (jr [jP 102 .add 93 1,jM 93 102] [1,4,6,91,92,93]))))
def Qc4:ACode:=(js [jO 84 .lss 83 82] [1,4,6,81,82,83,84] (.seq (jx 84 3) (.seq (.block 4 (js [jJ 85 1 81 83,jE 86 85,jM 10 86] [1,4,6,10,81,82,83] (jr [jM 87 10,jd 88 49 6 87] [1,4,6,81,82,83]))) (jr [jP 89 .add 83 1,jM 83 89] [1,4,6,81,82,83]))))
def Qc3:ACode:=(js [jO 71 .lss 70 69] [1,4,6,68,69,70,71] (.seq (jx 71 1) (.seq (.block 2 (js [jJ 72 32 68 70,jL 73 32 72,jZ 8 32 .u8,jS 32 8 73] [1,4,6,8,68,69,70] (jr [jF 74 0 6,jE 75 74,jW 76 32 1 8,jh 77 1 1 75 76,jF 78 0 6,jS 1 78 77] [1,4,6,68,69,70]))) (jr [jP 79 .add 70 1,jM 70 79] [1,4,6,68,69,70]))))
def Qb5:AFun:=⟨(js [jB 1 0,jo 2 (.move (.const (.slice none 0 0))),jI 3 0] [1] (js [jF 14 0 1,jE 15 14,jC 16 48 15,jM 13 16,jX 17 13 0,jX 18 13 1,jo 4 (.alloc [(.int .i64 0),(.int .i64 0),(.int .i64 0),(.bool false)]),jS 4 4 17,jM 5 18] [1,4,5] (.seq (.block 0 (js [jM 20 5,jP 21 .neq 20 0,jM 19 21] [1,4,5,19] (.cond (jt 19) (js [jM 22 5,jo 2 (.move (.const (.slice none 0 0))),jM 3 22] [2,3] .ret) (js [jF 24 1 1,jE 25 24,jY 26 25,jF 27 0 4,jE 28 27,jO 29 .neq 26 28,jM 30 29,.mk (some 31) (.fieldAddr 2 (jt 1)) (some (30,false)),.mk (some 32) (.load none (jt 31)) (some (30,false)),.mk (some 33) (.len false (jt 32)) (some (30,false)),.mk (some 34) (.fieldAddr 1 (jt 4)) (some (30,false)),.mk (some 35) (.load none (jt 34)) (some (30,false)),.mk (some 36) (.bin .neq (jt 33) (jt 35)) (some (30,false)),jo 37 (.pick (jt 30) (.const (.bool true)) (jt 36)),jM 38 37,.mk (some 39) (.fieldAddr 3 (jt 1)) (some (38,false)),.mk (some 40) (.load none (jt 39)) (some (38,false)),.mk (some 41) (.len false (jt 40)) (some (38,false)),.mk (some 42) (.fieldAddr 2 (jt 4)) (some (38,false)),.mk (some 43) (.load none (jt 42)) (some (38,false)),.mk (some 44) (.bin .neq (jt 41) (jt 43)) (some (38,false)),jo 45 (.pick (jt 38) (.const (.bool true)) (jt 44)),jM 46 45,.mk (some 47) (.fieldAddr 3 (jt 4)) (some (46,false)),.mk (some 48) (.load none (jt 47)) (some (46,false)),.mk (some 49) (.un .not (jt 48)) (some (46,false)),.mk (some 50) (.move (jt 49)) (some (46,false)),.mk (some 51) (.fieldAddr 4 (jt 1)) (some (50,true)),.mk (some 52) (.load none (jt 51)) (some (50,true)),.mk (some 53) (.len false (jt 52)) (some (50,true)),.mk (some 54) (.bin .gtr (jt 53) (ji 0)) (some (50,true)),.mk (some 55) (.pick (jt 50) (jt 54) (.const (.bool false))) (some (46,false)),jo 56 (.pick (jt 46) (.const (.bool true)) (jt 55)),jM 23 56] [1,4,23] (.cond (jt 23) (js [jo 2 (.move (.const (.slice none 0 0))),jI 3 110] [2,3] .ret) (js [jF 58 4 1,jE 59 58,jY 60 59,jP 61 .gtr 60 16384,jM 57 61] [1,4,57] (.cond (jt 57) (js [jo 2 (.move (.const (.slice none 0 0))),jI 3 2] [2,3] .ret) .skip))))))) (js [jF 62 0 1,jE 63 62,jV 64 .u8 63,jo 65 (.buildSlice [(.int .u8 0)] 1 [jp 0 1 64]),jo 66 (.build [(.slice none 0 0)] [jp 0 1 65]),jo 6 (.alloc [(.slice none 0 0)]),jS 1 6 66] [1,4,6] (.seq (js [jF 67 1 1,jE 68 67,jY 69 68,jI 70 0] [1,4,6,68,69,70] (.block 1 (.loop Qc3))) (.seq (js [jF 80 2 1,jE 81 80,jY 82 81,jI 83 0] [1,4,6,81,82,83] (.block 3 (.loop Qc4))) (.seq (js [jF 90 3 1,jE 91 90,jY 92 91,jI 93 0] [1,4,6,91,92,93] (.block 5 (.loop Qc5))) (.seq (js [jF 103 3 4,jE 104 103] [1,6,104] (.cond (jt 104) (js [jF 105 4 1,jE 106 105,jY 107 106,jV 108 .u32 107,jd 109 49 6 108] [1,6] (jr [jF 110 0 6,jE 111 110,jF 112 4 1,jE 113 112,jh 114 1 1 111 113,jF 115 0 6,jS 1 115 114] [6])) .skip)) (js [jF 116 0 6,jE 117 116,jM 2 117,jI 3 0] [2,3] .ret))))))))),[(2,none),(3,none)]⟩
def Qsu:AFun:=⟨(js [jo 2 (.alloc [(.int .i64 0),(.int .i64 0),(.int .i64 0),(.int .i64 0)]),jo 3 (.move (.const (.bool false)))] [0,2] (js [jo 5 (.build [(.int .i64 0),(.int .i64 0),(.int .i64 0),(.int .i64 0)] []),jo 6 (.build [(.int .i64 0),(.int .i64 0),(.int .i64 0),(.int .i64 0)] [jg 0 .i64 4,jg 1 .i64 2,jg 2 .i64 1,jg 3 .i64 0]),jo 7 (.build [(.int .i64 0),(.int .i64 0),(.int .i64 0),(.int .i64 0)] [jg 0 .i64 3,jg 1 .i64 2,jg 2 .i64 0,jg 3 .i64 1]),jo 8 (.build [(.int .i64 0),(.int .i64 0),(.int .i64 0),(.int .i64 0)] [jg 0 .i64 1,jg 1 .i64 2,jg 2 .i64 0,jg 3 .i64 1]),jo 9 (.build [(.int .i64 0),(.int .i64 0),(.int .i64 0),(.int .i64 0)] [jg 0 .i64 3,jg 1 .i64 2,jg 2 .i64 0,jg 3 .i64 0]),jo 10 (.build [(.int .i64 0),(.int .i64 0),(.int .i64 0),(.int .i64 0)] [jg 0 .i64 1,jg 1 .i64 2,jg 2 .i64 1,jg 3 .i64 1]),jo 11 (.build [(.int .i64 0),(.int .i64 0),(.int .i64 0),(.int .i64 0)] [jg 0 .i64 3,jg 1 .i64 3,jg 2 .i64 1,jg 3 .i64 1]),jo 12 (.build [(.int .i64 0),(.int .i64 0),(.int .i64 0),(.int .i64 0)] [jg 0 .i64 1,jg 1 .i64 1,jg 2 .i64 0,jg 3 .i64 1]),jo 13 (.build (Qa 32 (.int .i64 0)) [jp 0 4 5,jp 4 4 6,jp 8 4 7,jp 12 4 8,jp 16 4 9,jp 20 4 10,jp 24 4 11,jp 28 4 12]),jZ 4 32 .i64,jS 32 4 13] [0,2,4] (.seq (js [jM 14 0,jP 15 .lss 14 1,jM 16 15,.mk (some 17) (.move (jt 0)) (some (16,false)),.mk (some 18) (.bin .gtr (jt 17) (ji 7)) (some (16,false)),jo 19 (.pick (jt 16) (.const (.bool true)) (jt 18))] [0,2,4,19] (.cond (jt 19) (js [jo 20 (.build [(.int .i64 0),(.int .i64 0),(.int .i64 0),(.int .i64 0)] []),jS 4 2 20,jo 3 (.move (.const (.bool false)))] [2,3] .ret) .skip)) (js [jM 21 0,jH 22 8 4 4 21,jL 23 4 22,jS 4 2 23,jo 3 (.move (.const (.bool true)))] [2,3] .ret)))),[(2,(some (some 4))),(3,none)]⟩
def Q8r:AFun:=⟨(js [jo 2 (.move (.const (.string (ByteArray.mk #[]))))] [0] (js [jM 3 0,jP 4 .quo 3 16777216,jP 5 .rem 4 256,jV 6 .u8 5,jM 7 0,jP 8 .quo 7 65536,jP 9 .rem 8 256,jV 10 .u8 9,jM 11 0,jP 12 .quo 11 256,jP 13 .rem 12 256,jV 14 .u8 13,jM 15 0,jP 16 .rem 15 256,jV 17 .u8 16,jo 18 (.buildSlice [(.int .u8 0),(.int .u8 0),(.int .u8 0),(.int .u8 0)] 4 [jp 0 1 6,jp 1 1 10,jp 2 1 14,jp 3 1 17]),jo 19 (.b2s (jt 18)),jM 2 19] [2] .ret)),[(2,none)]⟩
def Q1j:AFun:=⟨(js [jB 2 0,jB 3 1,jZ 4 32 .u8,jI 5 0] [2,3,4] (js [jL 7 32 2,jL 8 32 3,jD 9 21 7 8,jZ 6 32 .u8,jS 32 6 9] [4,6] (.seq (js [jL 10 32 6,jb 11 [] 32,jo 12 (.eqv (some (Qa 32 true)) false (jt 10) (jt 11))] [4,6,12] (.cond (jt 12) (js [jb 13 [] 32,jS 32 4 13,jI 5 50] [4,5] .ret) .skip)) (js [jL 14 32 6,jS 32 4 14,jI 5 0] [4,5] .ret)))),[(4,(some (some 32))),(5,none)]⟩
def Qe7:ACode:=(.seq (js [jM 35 10,jY 36 35,jP 37 .gtr 36 0] [10,12,37] (jx 37 0)) (.seq (.block 1 (jr [jM 40 12,jM 41 10,jo 42 (.sliceSl 1 (jt 41) none (some (ji 32)) none),jo 43 (.s2ap 32 (jt 42)),jL 44 32 43,jo 45 (.buildSlice (jz 32) 1 [jp 0 32 44]),jh 46 32 32 40 45,jM 12 46] [10,12])) (jr [jM 38 10,jo 39 (.sliceSl 1 (jt 38) (some (ji 32)) none none),jM 10 39] [10,12])))
def Q8q:AFun:=⟨(js [jo 8 (.move (.const (.slice none 0 0))),jI 9 0] [0,1,2,3] (.seq (js [jM 13 3,jP 14 .lss 13 0,jM 15 14,.mk (some 16) (.move (jt 3)) (some (15,false)),.mk (some 17) (.bin .gtr (jt 16) (ji 255)) (some (15,false)),jo 18 (.pick (jt 15) (.const (.bool true)) (jt 17))] [0,1,2,3,18] (.cond (jt 18) (js [jo 8 (.move (.const (.slice none 0 0))),jI 9 1] [8,9] .ret) .skip)) (js [jM 20 0,jM 21 1,jo 22 (.buildSlice [(.slice none 0 0)] 1 [jp 0 1 21]),jd 23 63 20 22,jM 24 3,jP 25 .mul 24 32,jM 26 2,jo 27 (.s2b (jt 26)),jo 28 (.buildSlice [(.slice none 0 0)] 1 [jp 0 1 27]),jo 29 (.call 62 [(jt 23),(jt 25),(jt 28)] false),jM 19 29,jX 30 19 0,jX 31 19 1,jM 10 30,jM 11 31] [10,11] (.seq (js [jM 32 11,jP 33 .neq 32 0] [10,11,33] (.cond (jt 33) (js [jM 34 11,jo 8 (.move (.const (.slice none 0 0))),jM 9 34] [8,9] .ret) .skip)) (js [jo 12 (.move (.const (.slice none 0 0)))] [10,12] (.seq (.block 0 (.loop Qe7)) (js [jM 47 12,jM 8 47,jI 9 0] [8,9] .ret))))))),[(8,none),(9,none)]⟩
def Q8p:AFun:=⟨(js [jZ 2 32 .u8] [0,2] (js [jo 4 (.call 64 [] false),jM 3 4] [0,2,3] (js [jM 5 3,jM 6 0,jd 7 65 5 6] [2,3] (js [jM 8 3,jc 9 66 8,jS 32 2 9] [2] .ret)))),[(2,(some (some 32)))]⟩
def Q8o:AFun:=⟨(js [jB 4 1,jB 5 2,jZ 6 10 .u64,jZ 7 10 .u64] [0,4,5,6,7] (js [jM 9 0,jF 10 0 4,jL 11 5 10,jF 12 0 5,jL 13 5 12,jG 14 67 9 11 13,jM 8 14,jX 15 8 0,jX 16 8 1,jF 17 0 4,jS 5 17 15,jF 18 0 5,jS 5 18 16] [0,4,5,6,7] (js [jM 20 0,jF 21 5 4,jL 22 5 21,jF 23 5 5,jL 24 5 23,jG 25 67 20 22 24,jM 19 25,jX 26 19 0,jX 27 19 1,jF 28 5 4,jS 5 28 26,jF 29 5 5,jS 5 29 27] [4,5,6,7] (.seq (.region [jL 30 10 4,jL 31 10 5,jS 10 6 30,jS 10 7 31] (some [6,7]) [(1,2)]) .ret)))),[(6,(some (some 10))),(7,(some (some 10)))]⟩
def Q8n:AFun:=⟨(js [jB 3 0,jB 4 1,jB 5 2,jZ 6 10 .u64,jZ 7 10 .u64] [3,4,5,6,7] (.seq (.region [jF 17 0 3,jL 18 5 17,jF 19 5 3,jL 20 5 19,jo 21 (.buildSlice (Qa 10 (.int .u64 0)) 2 [jp 0 5 18,jp 5 5 20]),jc 22 68 21,jF 23 0 3,jL 24 5 23,jF 25 5 3,jL 26 5 25,jD 27 69 24 26,jZ 8 5 .u64,jZ 9 5 .u64,jS 5 8 22,jS 5 9 27] (some [4,5,6,7,8,9]) [(5,7),(5,9)]) (.seq (.region [jF 28 0 4,jL 29 5 28,jF 30 5 4,jL 31 5 30,jD 32 69 29 31,jL 33 5 8,jD 34 40 32 33,jF 35 0 4,jL 36 5 35,jF 37 5 4,jL 38 5 37,jo 39 (.buildSlice (Qa 10 (.int .u64 0)) 2 [jp 0 5 36,jp 5 5 38]),jc 40 68 39,jL 41 5 9,jD 42 40 40 41,jZ 10 5 .u64,jZ 11 5 .u64,jS 5 10 34,jS 5 11 42] (some [5,6,7,8,9,10,11]) [(12,13)]) (js [jL 43 5 8,jL 44 5 8,jD 45 40 43 44,jL 46 5 9,jL 47 5 9,jD 48 40 46 47,jZ 12 5 .u64,jZ 13 5 .u64,jS 5 12 45,jS 5 13 48] [5,6,7,10,11,12,13] (js [jL 49 5 12,jL 50 5 13,jD 51 69 49 50,jZ 14 5 .u64,jS 5 14 51] [5,6,7,10,11,12,13,14] (.seq (.region [jL 52 5 10,jL 53 5 11,jo 54 (.buildSlice (Qa 10 (.int .u64 0)) 2 [jp 0 5 52,jp 5 5 53]),jc 55 68 54,jL 56 5 10,jL 57 5 11,jD 58 69 56 57,jZ 15 5 .u64,jZ 16 5 .u64,jS 5 15 55,jS 5 16 58] (some [5,6,7,12,13,14,15,16]) [(3,4),(3,5)]) (.seq (.region [jL 59 5 12,jL 60 5 13,jD 61 40 59 60,jL 62 5 14,jL 63 5 12,jo 64 (.call 37 [(.const (.int .u32 121665))] true),jL 65 5 14,jD 66 40 64 65,jo 67 (.buildSlice (Qa 10 (.int .u64 0)) 2 [jp 0 5 63,jp 5 5 66]),jc 68 68 67,jD 69 40 62 68,jo 70 (.build (Qa 10 (.int .u64 0)) [jp 0 5 61,jp 5 5 69]),jL 71 5 15,jL 72 5 15,jD 73 40 71 72,jL 74 5 5,jL 75 5 16,jL 76 5 16,jo 77 (.buildSlice (Qa 15 (.int .u64 0)) 3 [jp 0 5 74,jp 5 5 75,jp 10 5 76]),jc 78 70 77,jo 79 (.build (Qa 10 (.int .u64 0)) [jp 0 5 73,jp 5 5 78]),jS 10 6 70,jS 10 7 79] (some [6,7]) [(3,9),(9,12),(9,13),(9,15),(9,16),(9,17)]) .ret))))))),[(6,(some (some 10))),(7,(some (some 10)))]⟩
def Q1i:AFun:=⟨(js [jo 2 (.alloc [(.int .i64 0),(.int .i64 0),(.int .i64 0),(.bool false)]),jI 3 0] [0,2] (.seq (js [jM 4 0] [2,4] (.block 0 (js [jP 6 .eql 4 1,jM 5 6] [2,4,5] (.cond (jt 5) (js [jo 7 (.build [(.int .i64 0),(.int .i64 0),(.int .i64 0),(.bool false)] [jg 0 .i64 4,jg 1 .i64 2,jg 2 .i64 1,(3,(1,(.const (.bool false))))]),jS 4 2 7,jI 3 0] [2,3] .ret) (js [jP 9 .eql 4 2,jM 8 9] [2,4,8] (.cond (jt 8) (js [jo 10 (.build [(.int .i64 0),(.int .i64 0),(.int .i64 0),(.bool false)] [jg 0 .i64 3,jg 1 .i64 2,jg 2 .i64 0,(3,(1,(.const (.bool true))))]),jS 4 2 10,jI 3 0] [2,3] .ret) (js [jP 12 .eql 4 3,jM 11 12] [2,4,11] (.cond (jt 11) (js [jo 13 (.build [(.int .i64 0),(.int .i64 0),(.int .i64 0),(.bool false)] [jg 0 .i64 1,jg 1 .i64 2,jg 2 .i64 0,(3,(1,(.const (.bool true))))]),jS 4 2 13,jI 3 0] [2,3] .ret) (js [jP 15 .eql 4 4,jM 14 15] [2,4,14] (.cond (jt 14) (js [jo 16 (.build [(.int .i64 0),(.int .i64 0),(.int .i64 0),(.bool false)] [jg 0 .i64 3,jg 1 .i64 2,jg 2 .i64 0,(3,(1,(.const (.bool false))))]),jS 4 2 16,jI 3 0] [2,3] .ret) (js [jP 18 .eql 4 5,jM 17 18] [2,4,17] (.cond (jt 17) (js [jo 19 (.build [(.int .i64 0),(.int .i64 0),(.int .i64 0),(.bool false)] [jg 0 .i64 1,jg 1 .i64 2,jg 2 .i64 1,(3,(1,(.const (.bool true))))]),jS 4 2 19,jI 3 0] [2,3] .ret) (js [jP 21 .eql 4 6,jM 20 21] [2,4,20] (.cond (jt 20) (js [jo 22 (.build [(.int .i64 0),(.int .i64 0),(.int .i64 0),(.bool false)] [jg 0 .i64 3,jg 1 .i64 3,jg 2 .i64 1,(3,(1,(.const (.bool true))))]),jS 4 2 22,jI 3 0] [2,3] .ret) (js [jP 24 .eql 4 7,jM 23 24] [2,23] (.cond (jt 23) (js [jo 25 (.build [(.int .i64 0),(.int .i64 0),(.int .i64 0),(.bool false)] [jg 0 .i64 1,jg 1 .i64 1,jg 2 .i64 0,(3,(1,(.const (.bool true))))]),jS 4 2 25,jI 3 0] [2,3] .ret) .skip)))))))))))))))) (js [jo 26 (.build [(.int .i64 0),(.int .i64 0),(.int .i64 0),(.bool false)] []),jS 4 2 26,jI 3 110] [2,3] .ret))),[(2,(some (some 4))),(3,none)]⟩
def Q8m:AFun:=⟨(jr [jM 4 0,jM 5 0,jN 6 5,jF 7 0 6,jE 8 7,jM 9 1,jQ 10 .shr 9 .u64 24,jV 11 .u8 10,jM 12 1,jQ 13 .shr 12 .u64 16,jV 14 .u8 13,jM 15 1,jQ 16 .shr 15 .u64 8,jV 17 .u8 16,jM 18 1,jV 19 .u8 18,jo 20 (.buildSlice [(.int .u8 0),(.int .u8 0),(.int .u8 0),(.int .u8 0)] 4 [jp 0 1 11,jp 1 1 14,jp 2 1 17,jp 3 1 19]),jh 21 1 1 8 20,jN 22 4,jF 23 0 22,jS 1 23 21] []),[]⟩
def Qe6:ACode:=(.seq (js [jM 19 8,jY 20 19,jM 21 1,jO 22 .lss 20 21] [1,2,3,8,9,10,22] (jx 22 0)) (.seq (.block 1 (js [jW 25 32 1 3,jc 26 90 25,jM 11 26] [1,2,3,8,9,10,11] (js [jM 27 11,jN 28 27,jF 29 0 28,jE 30 29,jM 31 9,jo 32 (.buildSlice [(.slice none 0 0)] 1 [jp 0 1 31]),jd 33 65 30 32] [1,2,3,8,10,11] (js [jM 34 11,jN 35 34,jF 36 0 35,jE 37 36,jM 38 2,jd 39 65 37 38] [1,2,3,8,10,11] (js [jM 40 11,jN 41 40,jF 42 0 41,jE 43 42,jM 44 10,jo 45 (.buildSlice [(.int .u8 0)] 1 [jp 0 1 44]),jo 46 (.buildSlice [(.slice none 0 0)] 1 [jp 0 1 45]),jd 47 65 43 46] [1,2,3,8,10,11] (js [jM 48 11,jc 49 91 48,jZ 12 32 .u8,jS 32 12 49] [1,2,3,8,10,12] (js [jW 50 32 1 12,jM 9 50] [1,2,3,8,9,10] (jr [jM 51 8,jM 52 9,jh 53 1 1 51 52,jM 8 53] [1,2,3,8,9,10])))))))) (jr [jM 23 10,jQ 24 .add 23 .u8 1,jM 10 24] [1,2,3,8,9,10])))
def Q8l:AFun:=⟨(js [jB 3 0,jo 6 (.move (.const (.slice none 0 0))),jI 7 0] [1,2,3] (.seq (js [jM 13 1,jP 14 .lss 13 0,jM 15 14,.mk (some 16) (.move (jt 1)) (some (15,false)),.mk (some 17) (.bin .gtr (jt 16) (ji 8160)) (some (15,false)),jo 18 (.pick (jt 15) (.const (.bool true)) (jt 17))] [1,2,3,18] (.cond (jt 18) (js [jo 6 (.move (.const (.slice none 0 0))),jI 7 1] [6,7] .ret) .skip)) (js [jo 8 (.move (.const (.slice none 0 0))),jo 9 (.move (.const (.slice none 0 0)))] [1,2,3,8,9] (.seq (js [jo 10 (.move (.const (.int .u8 1)))] [1,2,3,8,9,10] (.block 0 (.loop Qe6))) (js [jM 54 8,jM 55 1,jM 56 1,jo 57 (.sliceSl 1 (jt 54) none (some (jt 55)) (some (jt 56))),jM 6 57,jI 7 0] [6,7] .ret))))),[(6,none),(7,none)]⟩
def Q8k:AFun:=⟨(js [jZ 4 32 .u8] [0,1,4] (js [jM 5 0,jM 6 1,jd 7 92 5 6,jS 32 4 7] [4] .ret)),[(4,(some (some 32)))]⟩
def Q8j:AFun:=⟨(js [jo 0 (.move (.const (.pointer none)))] [] (js [jo 1 (.build (Qa 8 (.int .u32 0)) [jg 0 .u32 1779033703,jg 1 .u32 3144134277,jg 2 .u32 1013904242,jg 3 .u32 2773480762,jg 4 .u32 1359893119,jg 5 .u32 2600822924,jg 6 .u32 528734635,jg 7 .u32 1541459225]),jo 2 (.build [(.slice none 0 0),(.int .u64 0),(.int .u32 0),(.int .u32 0),(.int .u32 0),(.int .u32 0),(.int .u32 0),(.int .u32 0),(.int .u32 0),(.int .u32 0)] [jp 2 8 1]),jB 3 2,jM 0 3] [0] .ret)),[(0,none)]⟩
def Qe5:ACode:=(js [jO 9 .lss 8 7] [0,6,7,8,9] (.seq (jx 9 0) (.seq (.block 1 (js [jJ 10 1 6 8,jE 11 10,jM 5 11] [0,5,6,7,8] (jr [jM 12 0,jN 13 12,jF 14 0 13,jM 15 5,jM 16 0,jo 17 (.mkFunc (.func 94) [(jt 16)] []),jo 18 (.call 93 [(jt 14),(ji 64),(jt 15),(jt 17)] false)] [0,6,7,8]))) (jr [jP 19 .add 8 1,jM 8 19] [0,6,7,8]))))
def Q8i:AFun:=⟨(js [jM 6 1,jY 7 6,jI 8 0] [0,6,7,8] (.block 0 (.loop Qe5))),[]⟩
def Qe4:ACode:=(js [jP 33 .lss 32 32] [2,3,4,32,33] (.seq (jx 33 0) (.seq (.block 1 (js [jM 34 32,jM 5 34] [2,3,4,5,32] (jr [jM 35 5,jM 36 3,jM 37 5,jP 38 .quo 37 4,jN 39 36,jF 40 2 39,jH 41 8 1 40 38,jE 42 41,jM 43 5,jP 44 .rem 43 4,jo 45 (.bin .mul (ji 8) (jt 44)),jo 46 (.bin .sub (ji 24) (jt 45)),jO 47 .shr 42 46,jV 48 .u8 47,jH 49 32 1 4 35,jS 1 49 48] [2,3,4,32]))) (jr [jP 50 .add 32 1,jM 32 50] [2,3,4,32]))))
def Q8h:AFun:=⟨(js [jZ 2 32 .u8] [0,2] (.seq (.region [jo 6 (.buildSlice [] 0 []),jM 7 0,jN 8 7,jF 9 0 8,jF 10 0 9,jE 11 10,jh 12 1 1 6 11,jM 13 0,jN 14 13,jF 15 0 14,jF 16 1 15,jE 17 16,jo 18 (.build [(.slice none 0 0),(.int .u64 0)] [jp 0 1 12,jp 1 1 17]),jM 19 0,jN 20 19,jF 21 2 20,jL 22 8 21,jo 23 (.build [(.slice none 0 0),(.int .u64 0),(.int .u32 0),(.int .u32 0),(.int .u32 0),(.int .u32 0),(.int .u32 0),(.int .u32 0),(.int .u32 0),(.int .u32 0)] [jp 0 2 18,jp 2 8 22]),jB 24 23,jM 3 24] (some [0,2,3]) [(6,11),(6,16)]) (js [jM 25 3,jM 26 0,jN 27 26,jF 28 0 27,jo 29 (.call 95 [(jt 28),(ji 64),(ji 8)] false),jo 30 (.buildSlice [(.slice none 0 0)] 1 [jp 0 1 29]),jd 31 65 25 30] [2,3] (js [jZ 4 32 .u8] [2,3,4] (.seq (js [jI 32 0] [2,3,4,32] (.block 0 (.loop Qe4))) (js [jL 51 32 4,jS 32 2 51] [2] .ret)))))),[(2,(some (some 32)))]⟩
def Qe3:ACode:=(js [jP 15 .lss 14 5] [4,5,6,7,8,14,15] (.seq (jx 15 0) (.seq (.block 1 (js [jM 16 14,jM 9 16] [4,5,6,7,8,9,14] (js [jM 17 8,jM 18 9,jF 19 0 4,jH 20 5 1 19 18,jE 21 20,jM 22 9,jF 23 0 5,jH 24 5 1 23 22,jE 25 24,jO 26 .xor 21 25,jO 27 .and 17 26,jM 10 27] [4,5,6,7,8,9,10,14] (js [jM 28 9,jF 29 0 4,jH 30 5 1 29 28,jE 31 30,jM 32 10,jO 33 .xor 31 32,jF 34 0 4,jH 35 5 1 34 28,jS 1 35 33] [4,5,6,7,8,9,10,14] (jr [jM 36 9,jF 37 0 5,jH 38 5 1 37 36,jE 39 38,jM 40 10,jO 41 .xor 39 40,jF 42 0 5,jH 43 5 1 42 36,jS 1 43 41] [4,5,6,7,8,14]))))) (jr [jP 44 .add 14 1,jM 14 44] [4,5,6,7,8,14]))))
def Q5m:AFun:=⟨(js [jB 4 1,jB 5 2,jZ 6 5 .u64,jZ 7 5 .u64] [0,4,5,6,7] (js [jo 8 (.move (.const (.int .u64 0)))] [0,4,5,6,7,8] (.seq (js [jM 11 0] [4,5,6,7,8,11] (.cond (jt 11) (jr [jM 12 8,jQ 13 .sub 12 .u64 1,jM 8 13] [4,5,6,7,8]) .skip)) (.seq (js [jI 14 0] [4,5,6,7,8,14] (.block 0 (.loop Qe3))) (.seq (.region [jL 45 5 4,jL 46 5 5,jS 5 6 45,jS 5 7 46] (some [6,7]) [(1,2)]) .ret))))),[(6,(some (some 5))),(7,(some (some 5)))]⟩
def Qe2:ACode:=(js [jP 23 .lss 22 64] [3,4,21,22,23] (.seq (jx 23 0) (.seq (.block 1 (js [jM 24 22,jo 25 (.index none 64 1 (jt 21) (jt 22)),jM 6 24,jM 7 25] [3,4,6,7,21,22] (jr [jM 26 6,jM 27 4,jM 28 6,jM 29 7,jQ 30 .xor 29 .u8 54,jM 31 7,jQ 32 .xor 31 .u8 92,jH 33 64 1 3 26,jS 1 33 30,jN 34 27,jF 35 1 34,jH 36 64 1 35 28,jS 1 36 32] [3,4,21,22]))) (jr [jP 37 .add 22 1,jM 22 37] [3,4,21,22]))))
def Q8g:AFun:=⟨(js [jo 2 (.move (.const (.pointer none)))] [0] (js [jZ 3 64 .u8] [0,3] (js [jo 8 (.call 64 [] false),jo 9 (.build zMac [jp 0 1 8]),jB 10 9,jM 4 10] [0,3,4] (.seq (js [jM 11 0,jY 12 11,jP 13 .gtr 12 64] [0,3,4,13] (.cond (jt 13) (js [jM 14 0,jo 15 (.buildSlice [(.slice none 0 0)] 1 [jp 0 1 14]),jc 16 34 15,jZ 5 32 .u8,jS 32 5 16] [3,4,5] (jr [jW 17 32 1 5,jM 0 17] [0,3,4])) .skip)) (js [jW 18 64 1 3,jM 19 0,jo 20 (.copy 1 (jt 18) (jt 19))] [3,4] (.seq (js [jL 21 64 3,jI 22 0] [3,4,21,22] (.block 0 (.loop Qe2))) (js [jM 38 4,jN 39 38,jF 40 0 39,jE 41 40,jW 42 64 1 3,jo 43 (.buildSlice [(.slice none 0 0)] 1 [jp 0 1 42]),jd 44 65 41 43] [4] (js [jM 45 4,jM 2 45] [2] .ret)))))))),[(2,none)]⟩
def Q8f:AFun:=⟨(js [jZ 2 32 .u8] [0,2] (js [jM 4 0,jN 5 4,jF 6 0 5,jE 7 6,jc 8 66 7,jZ 3 32 .u8,jS 32 3 8] [0,2,3] (js [jM 9 0,jN 10 9,jF 11 1 10,jW 12 64 1 11,jW 13 32 1 3,jo 14 (.buildSlice [(.slice none 0 0),(.slice none 0 0)] 2 [jp 0 1 12,jp 1 1 13]),jc 15 34 14,jS 32 2 15] [2] .ret))),[(2,(some (some 32)))]⟩
def Q8e:AFun:=⟨(js [jZ 4 32 .u8] [0,1,4] (js [jM 6 0,jc 7 90 6,jM 5 7] [1,4,5] (js [jM 8 5,jN 9 8,jF 10 0 9,jE 11 10,jM 12 1,jd 13 65 11 12] [4,5] (js [jM 14 5,jc 15 91 14,jS 32 4 15] [4] .ret)))),[(4,(some (some 32)))]⟩
def Qe1:ACode:=(js [jP 216 .lss 215 8] [0,214,215,216] (.seq (jx 216 4) (.seq (.block 5 (js [jM 217 215,jo 218 (.index none 8 1 (jt 214) (jt 215)),jM 20 217,jM 21 218] [0,20,21,214,215] (jr [jM 219 0,jM 220 20,jN 221 219,jF 222 2 221,jH 223 8 1 222 220,jE 224 223,jM 225 21,jO 226 .add 224 225,jN 227 219,jF 228 2 227,jH 229 8 1 228 220,jS 1 229 226] [0,214,215]))) (jr [jP 230 .add 215 1,jM 215 230] [0,214,215]))))
def Qc2:ACode:=(js [jP 142 .lss 141 64] [0,4,8,9,10,11,12,13,14,15,16,141,142] (.seq (jx 142 2) (.seq (.block 3 (js [jM 143 141,jM 17 143] [0,4,8,9,10,11,12,13,14,15,16,17,141] (js [jM 144 16,jM 145 13,jo 146 (.call 100 [(jt 145),(ji 26)] true),jM 147 13,jo 148 (.call 100 [(jt 147),(ji 21)] true),jO 149 .xor 146 148,jM 150 13,jo 151 (.call 100 [(jt 150),(ji 7)] true),jO 152 .xor 149 151,jO 153 .add 144 152,jM 154 13,jM 155 14,jO 156 .and 154 155,jM 157 13,jo 158 (.un .xor (jt 157)),jM 159 15,jO 160 .and 158 159,jO 161 .xor 156 160,jO 162 .add 153 161,jM 163 17,jH 164 80 1 8 163,jE 165 164,jQ 166 .shr 165 .u64 32,jV 167 .u32 166,jO 168 .add 162 167,jM 169 17,jH 170 64 1 4 169,jE 171 170,jO 172 .add 168 171,jM 18 172] [0,4,8,9,10,11,12,13,14,15,18,141] (js [jM 173 9,jo 174 (.call 100 [(jt 173),(ji 30)] true),jM 175 9,jo 176 (.call 100 [(jt 175),(ji 19)] true),jO 177 .xor 174 176,jM 178 9,jo 179 (.call 100 [(jt 178),(ji 10)] true),jO 180 .xor 177 179,jM 181 9,jM 182 10,jO 183 .and 181 182,jM 184 9,jM 185 11,jO 186 .and 184 185,jO 187 .xor 183 186,jM 188 10,jM 189 11,jO 190 .and 188 189,jO 191 .xor 187 190,jO 192 .add 180 191,jM 19 192] [0,4,8,9,10,11,12,13,14,15,18,19,141] (jr [jM 193 18,jM 194 19,jO 195 .add 193 194,jM 196 9,jM 197 10,jM 198 11,jM 199 12,jM 200 18,jO 201 .add 199 200,jM 202 13,jM 203 14,jM 204 15,jM 9 195,jM 10 196,jM 11 197,jM 12 198,jM 13 201,jM 14 202,jM 15 203,jM 16 204] [0,4,8,9,10,11,12,13,14,15,16,141]))))) (jr [jP 205 .add 141 1,jM 141 205] [0,4,8,9,10,11,12,13,14,15,16,141]))))
def R8:ACode:=(js [jP 23 .lss 22 64] [0,1,4,22,23] (.seq (jx 23 0) (.seq (.block 1 (js [jM 24 22,jM 5 24] [0,1,4,5,22] (.seq (js [jM 25 5,jP 26 .lss 25 16] [0,1,4,5,22,26] (.cond (jt 26) (js [jM 27 5,jM 28 1,jM 29 5,jo 30 (.bin .mul (ji 4) (jt 29)),jJ 31 1 28 30,jE 32 31,jV 33 .u32 32,jQ 34 .shl 33 .u64 24,jM 35 1,jM 36 5,jo 37 (.bin .mul (ji 4) (jt 36)),jP 38 .add 37 1,jJ 39 1 35 38,jE 40 39,jV 41 .u32 40,jQ 42 .shl 41 .u64 16,jO 43 .or 34 42,jM 44 1,jM 45 5,jo 46 (.bin .mul (ji 4) (jt 45)),jP 47 .add 46 2,jJ 48 1 44 47,jE 49 48,jV 50 .u32 49,jQ 51 .shl 50 .u64 8,jO 52 .or 43 51,jM 53 1,jM 54 5,jo 55 (.bin .mul (ji 4) (jt 54)),jP 56 .add 55 3,jJ 57 1 53 56,jE 58 57,jV 59 .u32 58,jO 60 .or 52 59,jH 61 64 1 4 27,jS 1 61 60] [0,1,4,22] (.exit 1)) .skip)) (js [jM 62 5,jP 63 .sub 62 15,jH 64 64 1 4 63,jE 65 64,jM 66 5,jP 67 .sub 66 2,jH 68 64 1 4 67,jE 69 68,jM 6 65,jM 7 69] [0,1,4,5,6,7,22] (jr [jM 70 5,jM 71 5,jP 72 .sub 71 16,jH 73 64 1 4 72,jE 74 73,jM 75 5,jP 76 .sub 75 7,jH 77 64 1 4 76,jE 78 77,jO 79 .add 74 78,jM 80 6,jo 81 (.call 100 [(jt 80),(ji 25)] true),jM 82 6,jo 83 (.call 100 [(jt 82),(ji 14)] true),jO 84 .xor 81 83,jM 85 6,jQ 86 .shr 85 .u64 3,jO 87 .xor 84 86,jO 88 .add 79 87,jM 89 7,jo 90 (.call 100 [(jt 89),(ji 15)] true),jM 91 7,jo 92 (.call 100 [(jt 91),(ji 13)] true),jO 93 .xor 90 92,jM 94 7,jQ 95 .shr 94 .u64 10,jO 96 .xor 93 95,jO 97 .add 88 96,jH 98 64 1 4 70,jS 1 98 97] [0,1,4,22]))))) (jr [jP 99 .add 22 1,jM 22 99] [0,1,4,22]))))
def Q8d:AFun:=⟨(js [jZ 4 64 .u32] [0,1,4] (.seq (js [jI 22 0] [0,1,4,22] (.block 0 (.loop R8))) (js [jo 100 (.call 101 [] true),jZ 8 80 .u64,jS 80 8 100] [0,4,8] (js [jM 101 0,jN 102 101,jF 103 2 102,jA 104 8 1 103 0,jE 105 104,jM 106 0,jN 107 106,jF 108 2 107,jA 109 8 1 108 1,jE 110 109,jM 111 0,jN 112 111,jF 113 2 112,jA 114 8 1 113 2,jE 115 114,jM 116 0,jN 117 116,jF 118 2 117,jA 119 8 1 118 3,jE 120 119,jM 121 0,jN 122 121,jF 123 2 122,jA 124 8 1 123 4,jE 125 124,jM 126 0,jN 127 126,jF 128 2 127,jA 129 8 1 128 5,jE 130 129,jM 131 0,jN 132 131,jF 133 2 132,jA 134 8 1 133 6,jE 135 134,jM 136 0,jN 137 136,jF 138 2 137,jA 139 8 1 138 7,jE 140 139,jM 9 105,jM 10 110,jM 11 115,jM 12 120,jM 13 125,jM 14 130,jM 15 135,jM 16 140] [0,4,8,9,10,11,12,13,14,15,16] (.seq (js [jI 141 0] [0,4,8,9,10,11,12,13,14,15,16,141] (.block 2 (.loop Qc2))) (js [jM 206 9,jM 207 10,jM 208 11,jM 209 12,jM 210 13,jM 211 14,jM 212 15,jM 213 16,jo 214 (.build (Qa 8 (.int .u32 0)) [jp 0 1 206,jp 1 1 207,jp 2 1 208,jp 3 1 209,jp 4 1 210,jp 5 1 211,jp 6 1 212,jp 7 1 213]),jI 215 0] [0,214,215] (.block 4 (.loop Qe1)))))))),[]⟩
def Q8c:AFun:=⟨(js [jo 4 (.move (.const (.int .u32 0)))] [0,1] (js [jM 6 1,jV 7 .u64 6,jQ 8 .and 7 .u64 31,jM 5 8] [0,5] (js [jM 9 0,jM 10 5,jO 11 .shl 9 10,jM 12 0,jM 13 5,jo 14 (.bin .sub (.const (.int .u64 32)) (jt 13)),jO 15 .shr 12 14,jO 16 .or 11 15,jM 4 16] [4] .ret))),[(4,none)]⟩
def fnS:Nat→Option AFun
 | 35=>some a16
 | 56=>some a17
 | 31=>some a19
 | 45=>some a21
 | 27=>some a25
 | 28=>some a26
 | 46=>some a27
 | 82=>some a28
 | 29=>some a29
 | 51=>some a30
 | 43=>some a31
 | 47=>some a34
 | 44=>some a39
 | 57=>some a40
 | 60=>some a41
 | 61=>some a42
 | 58=>some a44
 | 59=>some a45
 | 83=>some a46
 | 84=>some a47
 | 36=>some a49
 | 37=>some a50
 | 40=>some a51
 | 52=>some a52
 | 53=>some a53
 | 54=>some a54
 | 98=>some a55
 | 41=>some a56
 | 42=>some a57
 | 55=>some a58
 | 78=>some a59
 | 79=>some a60
 | 69=>some a61
 | 68=>some a62
 | 80=>some a63
 | 81=>some a64
 | 89=>some a75
 | 88=>some a76
 | 71=>some a77
 | 72=>some a78
 | 73=>some a79
 | 74=>some a80
 | 75=>some a81
 | 70=>some a82
 | 76=>some a83
 | 77=>some a84
 | 96=>some a91
 | 16=>some Q9b
 | 22=>some Qgr
 | 20=>some Q9a
 | 26=>some Q89
 | 30=>some Q88
 | 50=>some Q87
 | 85=>some Q86
 | 86=>some Q85
 | 87=>some Q84
 | 93=>some Q1n
 | 99=>some Q83
 | 95=>some Q1m
 | 102=>some Q82
 | 101=>some Q81
 | 4=>some Qsw
 | 5=>some Q80
 | 6=>some Q1l
 | 7=>some Qnm
 | 8=>some Qnl
 | 9=>some Q8z
 | 10=>some Q8y
 | 11=>some Q8x
 | 12=>some Qsv
 | 13=>some Qb6
 | 14=>some Q8w
 | 15=>some Q8v
 | 17=>some Q8u
 | 18=>some Q1k
 | 19=>some Q8t
 | 21=>some Q8s
 | 23=>some Qb5
 | 24=>some Qsu
 | 25=>some Q8r
 | 32=>some Q1j
 | 33=>some Q8q
 | 34=>some Q8p
 | 38=>some Q8o
 | 39=>some Q8n
 | 48=>some Q1i
 | 49=>some Q8m
 | 62=>some Q8l
 | 63=>some Q8k
 | 64=>some Q8j
 | 65=>some Q8i
 | 66=>some Q8h
 | 67=>some Q5m
 | 90=>some Q8g
 | 91=>some Q8f
 | 92=>some Q8e
 | 94=>some Q8d
 | 100=>some Q8c
 | _=>none
end Go.Ev.Ytpgphpkjlpkcbaa
namespace Go.Ev.Ytpgphpkjlpkcbaa
open Go Go.Ev
def Q4l (f:Nat) (args:List Value):Option Value :=
 match f,args with
 | 97,[.int .u64 x,.int .u64 y,.int .u64 c]=>if c.toNat≤1 then some (.tuple #[.int .u64 ((x.toNat+y.toNat+c.toNat)%18446744073709551616:Nat),.int .u64 ((x.toNat+y.toNat+c.toNat)/18446744073709551616:Nat)]) else none
 | _,_=>none
def T:Tab:=⟨fnS,Q4l⟩
attribute [local congr] R7
set_option maxRecDepth 100000
def Qdc (x y c:Nat):Nat:=if x<y+c then 1 else 0
def Qdb (x y c:Nat):Nat:=if x<y+c then x+4294967296-(y+c) else x-(y+c)
theorem Qid {x y c:Nat} (hx:x<4294967296) (hy:y<4294967296) (hc:c≤1) :
  Vv T 89 [.int .u32 x,.int .u32 y,.int .u32 c] []=some (.tuple #[.int .u32 (Qdb x y c:Nat),.int .u32 (Qdc x y c:Nat)],[],[]):=by
 have e1:IntKind.u32.wrap (IntKind.u32.wrap ((x:Int)-y)-c)=((x:Int)-y-c)%4294967296:=by rw [wrap_u32,wrap_u32]; omega
 have e2:=Q08 hx hy hc
 have e3:(31:Int).toNat=31:=rfl
 have e4:min 31 IntKind.u32.bits=31:=rfl
 have e5:((x:Int)-y-c)%4294967296=(Qdb x y c:Nat):=by unfold Qdb; split<;>omega
 have e6:(if x<y+c then 1 else 0:Int)=(Qdc x y c:Nat):=by unfold Qdc; split<;>rfl
 rw [Z5 (fn:=a75) rfl]
 simp only [a75,Z6,Kg,Ko,Vc,J2,Kp,Jx,Vd,Kh,Ve,guardOf,Z1,opd,Wt,V1,Vf,Env.get,Env.put,Yl,Q4,Zc,Zg,Ja,V2,Ke,Xc,St.after,Env.keep,if_true,if_false,ite_true,ite_false,We,Yh,unV,Ye,Vg,packed,reduceCtorEq,Z9,Jb,Z2,Qk,Qd,Qj,Zz,Zx,Z3,beq_self_eq_true,Xr,Jz,Kk,Kj,X6,K9,Kd,Xp,Va,K8,X8,Vp,Km,J8,Kz,Vb,Ka,X9,Ju,X5,Jg,Jo,Jn,J6,Js,J4,Jr,Jm,J7,J5,Xj,Jt,Ki,Xl,Kl,K7,Xk,Kn,J0,Ob.fresh,Wu,W6,W5,Je,and_self,true_and,and_true,Jf,Xg,Vn,Yq,Vq,J9,okVar,Xd,Xh,false_and,decide_true,decide_false,Jk,Qq,Qo,Qp,Qe,Ql,Qi,Wf,Xi,Yn,Xt,Xm,Xn,Zu,Zy,Bu,Bt,Bs,Br,Zf,Kf,Jq,X7,Xq,Vk,J1,show (if IntKind.u32.signed=true then (-1:Int) else IntKind.u32.max)=IntKind.u32.max from rfl,e1,e3,e4,show ¬ ((31:Int)<0) by decide,Z3]
 rw [e2,e6,e5]
def Qqr (x y c:Nat):Nat:=(x+y+c)/4294967296
def Qqq (x y c:Nat):Nat:=(x+y+c)%4294967296
theorem Qqs {x y c:Nat} (hx:x<4294967296) (hy:y<4294967296) (hc:c≤1) :
  Vv T 88 [.int .u32 x,.int .u32 y,.int .u32 c] []=some (.tuple #[.int .u32 (Qqq x y c:Nat),.int .u32 (Qqr x y c:Nat)],[],[]):=by
 have e1:IntKind.u64.wrap (IntKind.u64.wrap (IntKind.u64.wrap (x:Int)+IntKind.u64.wrap (y:Int))+IntKind.u64.wrap (c:Int))=((x+y+c:Nat):Int):=by simp only [Tp]; omega
 have e3:(32:Int).toNat=32:=rfl
 have e4:min 32 IntKind.u64.bits=32:=rfl
 have e5:IntKind.u32.wrap ((x+y+c:Nat):Int)=(Qqq x y c:Nat):=by rw [wrap_u32]; unfold Qqq; omega
 have e6:IntKind.u32.wrap (Qa9 ((x+y+c:Nat):Int) (2^32))=(Qqr x y c:Nat):=by
  rw [wrap_u32,Wn _ (by decide)]; unfold Qqr; omega
 rw [Z5 (fn:=a76) rfl]
 simp only [a76,Z6,Kg,Ko,Vc,J2,Kp,Jx,Vd,Kh,Ve,guardOf,Z1,opd,Wt,V1,Vf,Env.get,Env.put,Yl,Q4,Zc,Zg,Ja,V2,Ke,Xc,St.after,Env.keep,if_true,if_false,ite_true,ite_false,We,Yh,unV,Ye,Vg,packed,reduceCtorEq,Z9,Jb,Z2,Qk,Qd,Qj,Zz,Zx,Z3,beq_self_eq_true,Xr,Jz,Kk,Kj,X6,K9,Kd,Xp,Va,K8,X8,Vp,Km,J8,Kz,Vb,Ka,X9,Ju,X5,Jg,Jo,Jn,J6,Js,J4,Jr,Jm,J7,J5,Xj,Jt,Ki,Xl,Kl,K7,Xk,Kn,J0,Ob.fresh,Wu,W6,W5,Je,and_self,true_and,and_true,Jf,Xg,Vn,Yq,Vq,J9,okVar,Xd,Xh,false_and,decide_true,decide_false,Jk,Qq,Qo,Qp,Qe,Ql,Qi,Wf,Xi,Yn,Xt,Xm,Xn,Zu,Zy,Bu,Bt,Bs,Br,Zf,Kf,Jq,X7,Xq,Vk,J1,e1,e3,e4,e5,e6,show ¬ ((32:Int)<0) by decide,Z3]
def orderW:List Nat:=[1559614445,1477600026,2734136534,350157278,0,0,0,268435456]
theorem Qiz (H:List Ob):Vv T 84 [] H=some (.slice (some ⟨H.length,0,none⟩) 8 8,H++[Ob.fresh (Xu orderW)],[]):=by
 rw [Z5 (fn:=a47) rfl]
 simp only [a47,Z6,Kg,Ko,Vc,J2,Kp,Jx,Vd,Kh,Ve,guardOf,Z1,opd,Wt,V1,Vf,Env.get,Env.put,Yl,Q4,Zc,Zg,Ja,V2,Ke,Xc,St.after,Env.keep,if_true,if_false,ite_true,ite_false,We,Yh,unV,Ye,Vg,packed,reduceCtorEq,Z9,Jb,Z2,Qk,Qd,Qj,Zz,Zx,Z3,beq_self_eq_true,Xr,Jz,Kk,Kj,X6,K9,Kd,Xp,Va,K8,X8,Vp,Km,J8,Kz,Vb,Ka,X9,Ju,X5,Jg,Jo,Jn,J6,Js,J4,Jr,Jm,J7,J5,Xj,Jt,Ki,Xl,Kl,K7,Xk,Kn,J0,Ob.fresh,Wu,W6,W5,Je,and_self,true_and,and_true,Jf,Xg,Vn,Yq,Vq,J9,okVar,Xd,Xh,false_and,decide_true,decide_false,Jk,Qq,Qo,Qp,Qe,Ql,Qi,Wf,Xi,Yn,Xt,Xm,Xn,Zu,Zy,Bu,Bt,Bs,Br,Zf,Kf,Jq,X7,Xq,Vk,J1]
 rfl
end Go.Ev.Ytpgphpkjlpkcbaa
namespace Go.Ev.Ytpgphpkjlpkcbaa
open Go Go.Ev
attribute [local congr] R7
set_option maxRecDepth 100000
def Qrw (ws:List Nat) (j x:Nat):List Nat:=ws.set (j/4) (ws.getD (j/4) 0|||x*2^(8*(j%4)))
def ofI (H:List Ob) (id off n c m:Nat) (log:List Nat) (W:Nat→List Nat) (j:Nat):St :=
 ⟨[(3,.slice (some ⟨H.length,0,none⟩) m m),(11,.slice (some ⟨id,off,none⟩) n c),(12,.int .i64 n),(13,.int .i64 j)],H++[Ob.fresh (Xu (W j))],log⟩
theorem Q3i {H:List Ob} {id off n c m:Nat} {bs:List Nat} (hr:Row .u8 H id off bs) (hn:bs.length=n) (hm:m=(n+3)/4) (hN:n<2^40) (hb:∀ x∈bs,x<256)
  (W:Nat→List Nat) (hW:∀ j,(W j).length=m∧∀ x∈W j,x<4294967296) (hstep:∀ j x,bs[j]?=some x→W (j+1)=Qrw (W j) j x) {j:Nat} (hj:j<n) :
  Jv T H.length Qd3 (ofI H id off n c m [] W j)=some (.normal,ofI H id off n c m [] W (j+1)):=by
 obtain ⟨x,hx⟩:∃ x,bs[j]?=some x:=⟨_,Q3 (by omega)⟩
 have h1:((j:Int)<(n:Int)):=by omega
 have hq:j/4<m:=by omega
 obtain ⟨y,hy⟩:∃ y,(W j)[j/4]?=some y:=⟨_,Q3 (by rw [(hW j).1]; exact hq)⟩
 obtain ⟨o,ho,hc⟩:=hr
 have ho':=Gj (l:=[⟨Xu (W j),true,true,true,1⟩]) ho
 have hxc:=hc j x hx
 have hyc:=Bp hy
 have hx256:x<256:=hb x (Zp hx)
 have e1:IntKind.i64.wrap ((j:Int).tdiv 4)=((j/4:Nat):Int):=Ym (n:=j/4) (by omega)
 have e2:((j:Int).tmod 4)=((j%4:Nat):Int):=rfl
 have e3:IntKind.i64.wrap (8*((j%4:Nat):Int))=((8*(j%4):Nat):Int):=Ym (n:=8*(j%4)) (by omega)
 have e4:min (8*(j%4)) IntKind.u32.bits=8*(j%4):=Kx (by show _≤32; omega)
 have e5:IntKind.u32.wrap (x:Int)=(x:Nat):=Ua rfl (by show x<2^32; omega)
 have h3:((j/4:Nat):Int)<(m:Int):=by omega
 have h4:¬ (((8*(j%4):Nat):Int)<0):=by omega
 have hp:x*2^(8*(j%4))<4294967296:=by
  have h5:(2:Nat)^(8*(j%4))≤2^24:=Vl (by decide) (by omega)
  have h6:x*2^(8*(j%4))≤255*2^24:=Wx (by omega) h5
  omega
 have hy32:y<4294967296:=(hW j).2 y (Zp hy)
 have e6:Vo .or .u32 (y:Nat) (IntKind.u32.wrap ((x:Int)*2^(8*(j%4))))=((y|||x*2^(8*(j%4)):Nat):Int):=by
  have:((x:Int)*2^(8*(j%4)))=((x*2^(8*(j%4)):Nat):Int):=by simp
  rw [this,Ua rfl hp,Hl rfl hy32 hp]
 have e7:IntKind.i64.wrap ((j:Int)+1)=((j+1:Nat):Int):=Ym (n:=j+1) (by omega)
 have h5:j/4+1≤(Xu (W j)).length:=by rw [Bo,(hW j).1]; omega
 have hs:W (j+1)=(W j).set (j/4) (y|||x*2^(8*(j%4))):=by rw [hstep j x hx,Qrw,Jh,hy]; rfl
 simp only [ofI,Qd3,Z6,Kg,Ko,Vc,J2,Kp,Jx,Vd,Kh,Ve,guardOf,Z1,opd,Wt,V1,Vf,Env.get,Env.put,Yl,Q4,Zc,Zg,Ja,V2,Ke,Xc,St.after,Env.keep,if_true,if_false,ite_true,ite_false,We,Yh,unV,Ye,Vg,packed,reduceCtorEq,Z9,Jb,Z2,Qk,Qd,Qj,Zz,Zx,Z3,beq_self_eq_true,Xr,Jz,Kk,Kj,X6,K9,Kd,Xp,Va,K8,X8,Vp,Km,J8,Kz,Vb,Ka,X9,Ju,X5,Jg,Jo,Jn,J6,Js,J4,Jr,Jm,J7,J5,Xj,Jt,Ki,Xl,Kl,K7,Xk,Kn,J0,Ob.fresh,Wu,W6,W5,Je,and_self,true_and,and_true,Jf,Xg,Vn,Yq,Vq,J9,okVar,Xd,Xh,false_and,decide_true,decide_false,Jk,Qq,Qo,Qp,Qe,Ql,Qi,Wf,Xi,Yn,Xt,Xm,Xn,Zu,Zy,Bu,Bt,Bs,Br,Zf,Kf,Jq,X7,Xq,Vk,J1,h1,ho',hxc,hyc,e1,e2,e3,e4,e5,h3,h4,e6,e7,h5,Ga,hs,Dh]
theorem T1 (v:Value):∀ n,(Qa n [v]).flatten=Qa n v
 | 0=>rfl
 | n+1=>by rw [Dp,J3,T1 v n]; rfl
theorem Qqa (B n:Nat):dig B n 0=Qa n 0:=by
 symm
 exact Qcx (by simp) fun i hi=>by simp [hi]
theorem Qfv (n:Nat):Qa n (Value.int .u32 0)=Xu (dig 4294967296 n 0):=by simp [Qqa,Xu]
theorem Qlk {H:List Ob} {id off n c:Nat} {bs:List Nat} (hr:Row .u8 H id off bs) (hn:bs.length=n) (hN:n<2^40) (hb:∀ x∈bs,x<256) :
  Vv T 57 [.slice (some ⟨id,off,none⟩) n c] H=some (.slice (some ⟨H.length,0,none⟩) ((n+3)/4) ((n+3)/4),H++[Ob.fresh (Xu (dig 4294967296 ((n+3)/4) (num 256 bs)))],[]):=by
 have hbody:=Ub (T:=T) (base:=H.length) (id:=0) (body:=Qd3) (ofI H id off n c ((n+3)/4) [] fun j=>dig 4294967296 ((n+3)/4) (num 256 (bs.take j))) n
  (s':=⟨[(3,.slice (some ⟨H.length,0,none⟩) ((n+3)/4) ((n+3)/4)),(11,.slice (some ⟨id,off,none⟩) n c),(12,.int .i64 n),(13,.int .i64 n),(14,.bool false)],H++[Ob.fresh (Xu (dig 4294967296 ((n+3)/4) (num 256 bs)))],[]⟩)
  (fun j hj=>Q3i hr hn rfl hN hb _ (fun j=>⟨Vs _ _ _,fun x hx=>Hd (by decide) hx⟩) (fun j x hx=>by
   have hj:j<bs.length:=(Q1.1 hx).1
   have hlt:num 256 (bs.take j)<256^j:=by
    have:=num_lt (B:=256) (l:=bs.take j) fun y hy=>hb y (Kr hy)
    rwa [Jy,Kx (Um hj)] at this
   rw [Bq hx,Qrw,Q00 (by omega) hlt (hb x (Zp hx))]) hj)
  (by
   have h1:¬ ((n:Int)<(n:Int)):=by omega
   have h2:bs.take n=bs:=by rw [←hn]; exact Dm
   simp only [ofI,Qd3,Z6,Kg,Ko,Vc,J2,Kp,Jx,Vd,Kh,Ve,guardOf,Z1,opd,Wt,V1,Vf,Env.get,Env.put,Yl,Q4,Zc,Zg,Ja,V2,Ke,Xc,St.after,Env.keep,if_true,if_false,ite_true,ite_false,We,Yh,unV,Ye,Vg,packed,reduceCtorEq,Z9,Jb,Z2,Qk,Qd,Qj,Zz,Zx,Z3,beq_self_eq_true,Xr,Jz,Kk,Kj,X6,K9,Kd,Xp,Va,K8,X8,Vp,Km,J8,Kz,Vb,Ka,X9,Ju,X5,Jg,Jo,Jn,J6,Js,J4,Jr,Jm,J7,J5,Xj,Jt,Ki,Xl,Kl,K7,Xk,Kn,J0,Ob.fresh,Wu,W6,W5,Je,and_self,true_and,and_true,Jf,Xg,Vn,Yq,Vq,J9,okVar,Xd,Xh,false_and,decide_true,decide_false,Jk,Qq,Qo,Qp,Qe,Ql,Qi,Wf,Xi,Yn,Xt,Xm,Xn,Zu,Zy,Bu,Bt,Bs,Br,Zf,Kf,Jq,X7,Xq,Vk,J1,h1,h2])
 have e1:IntKind.i64.wrap ((n:Int)+3)=((n+3:Nat):Int):=Ym (n:=n+3) (by omega)
 have e2:IntKind.i64.wrap (((n+3:Nat):Int).tdiv 4)=(((n+3)/4:Nat):Int):=Ym (n:=(n+3)/4) (by omega)
 have h1:((((n+3)/4:Nat):Int)*((4:Nat):Int)≤2^47):=by omega
 have h2:(0:Nat)<4:=by decide
 rw [Z5 (fn:=a40) rfl]
 have hz:ofI H id off n c ((n+3)/4) [] (fun j=>dig 4294967296 ((n+3)/4) (num 256 (bs.take j))) 0=⟨[(3,.slice (some ⟨H.length,0,none⟩) ((n+3)/4) ((n+3)/4)),(11,.slice (some ⟨id,off,none⟩) n c),(12,.int .i64 n),(13,.int .i64 0)],H++[Ob.fresh (Xu (dig 4294967296 ((n+3)/4) 0))],[]⟩:=by simp [ofI,num]
 rw [hz] at hbody
 simp only [Ob.fresh] at hbody
 simp only [a40,Z6,Kg,Ko,Vc,J2,Kp,Jx,Vd,Kh,Ve,guardOf,Z1,opd,Wt,V1,Vf,Env.get,Env.put,Yl,Q4,Zc,Zg,Ja,V2,Ke,Xc,St.after,Env.keep,if_true,if_false,ite_true,ite_false,We,Yh,unV,Ye,Vg,packed,reduceCtorEq,Z9,Jb,Z2,Qk,Qd,Qj,Zz,Zx,Z3,beq_self_eq_true,Xr,Jz,Kk,Kj,X6,K9,Kd,Xp,Va,K8,X8,Vp,Km,J8,Kz,Vb,Ka,X9,Ju,X5,Jg,Jo,Jn,J6,Js,J4,Jr,Jm,J7,J5,Xj,Jt,Ki,Xl,Kl,K7,Xk,Kn,J0,Ob.fresh,Wu,W6,W5,Je,and_self,true_and,and_true,Jf,Xg,Vn,Yq,Vq,J9,okVar,Xd,Xh,false_and,decide_true,decide_false,Jk,Qq,Qo,Qp,Qe,Ql,Qi,Wf,Xi,Yn,Xt,Xm,Xn,Zu,Zy,Bu,Bt,Bs,Br,Zf,Kf,Jq,X7,Xq,Vk,J1,e1,e2,h1,h2,Kf,T1,Qfv,hbody]
structure MulInv (n m i k A a:Nat) (os out:List Nat) (c:Nat):Prop where
 len:out.length=n+m
 lt:∀ x∈out,x<4294967296
 clt:c<4294967296
 eq:num 4294967296 out+c*4294967296^(i+k)=A+a*4294967296^i*num 4294967296 (os.take k)
 top:∀ j,i+m≤j→j<n+m→out[j]?=some 0
theorem MulInv.step {n m i k A a b y c:Nat} {os out:List Nat} (h:MulInv n m i k A a os out c) (ha:a<4294967296) (hb:os[k]?=some b) (hb':b<4294967296) (hy:out[i+k]?=some y) (hk:k<m) :
  MulInv n m i (k+1) A a os (out.set (i+k) ((c+(y+a*b))%4294967296)) ((c+(y+a*b))/4294967296):=by
 have hy':y<4294967296:=h.lt y (Zp hy)
 have hc:=h.clt
 refine ⟨by rw [Jp]; exact h.len,Mt h.lt (Jw _ (by decide)),?_,?_,?_⟩
 ·have:a*b≤4294967295*4294967295:=Wx (by omega) (by omega)
  rw [Qgs (by decide)]
  show _<4294967296*4294967296
  omega
 ·have h1:=Ry (B:=4294967296) ((c+(y+a*b))%4294967296) hy
  have h2:=h.eq
  rw [Bq hb]
  have h3:=Yi (c+(y+a*b)) 4294967296
  generalize (c+(y+a*b))/4294967296=q at *
  generalize (c+(y+a*b))%4294967296=r at *
  have e1:a*4294967296^i*(num 4294967296 (os.take k)+b*4294967296^k)=a*4294967296^i*num 4294967296 (os.take k)+a*b*4294967296^(i+k):=by
   rw [Qc9,Ww]; congr 1; simp only [Y5,Wk,Vt]
  have e2:q*4294967296^(i+(k+1))=4294967296*q*4294967296^(i+k):=by
   rw [←Vr,V0]; simp only [Y5,Wk,Vt]
  rw [e1,e2]
  have e3:(4294967296*q+r)*4294967296^(i+k)=(c+(y+a*b))*4294967296^(i+k):=by rw [h3]
  rw [Vy,Vy,Vy] at e3
  omega
 ·intro j h1 h2
  rw [Z7 (by omega)]
  exact h.top j h1 h2
def Qvi (H:List Ob) (s1 s2:Value) (n m i a k c:Nat) (out:List Nat):St :=
 ⟨[(1,s2),(5,.slice (some ⟨H.length,0,none⟩) (n+m) (n+m)),(6,.int .i64 i),(7,.int .u32 a),(8,.int .u64 c),(17,s1),(18,.int .i64 n),(19,.int .i64 i),(24,s2),(25,.int .i64 m),(26,.int .i64 k)],H++[Ob.fresh (Xu out)],[]⟩
theorem Qvh {H:List Ob} {s1:Value} {id2 off2 c2 n m i a k c b y:Nat} {os out:List Nat} (hr:Row .u32 H id2 off2 os) (hN:n+m<2^40) (hi:i<n) (hk:k<m) (ha:a<4294967296) (hb:os[k]?=some b) (hb':b<4294967296) (hl:out.length=n+m) (hy:out[i+k]?=some y) (hy':y<4294967296) (hc:c<4294967296) :
  Jv T H.length Qj4 (Qvi H s1 (.slice (some ⟨id2,off2,none⟩) m c2) n m i a k c out)=some (.normal,Qvi H s1 (.slice (some ⟨id2,off2,none⟩) m c2) n m i a (k+1) ((c+(y+a*b))/4294967296) (out.set (i+k) ((c+(y+a*b))%4294967296))):=by
 obtain ⟨o,ho,hcell⟩:=hr
 have ho':=Gj (l:=[⟨Xu out,true,true,true,1⟩]) ho
 have hxc:=hcell k b hb
 have hyc:=Bp hy
 have hab:a*b≤4294967295*4294967295:=Wx (by omega) (by omega)
 have h1:((k:Int)<(m:Int)):=by omega
 have h2:((i+k:Nat):Int)<((n+m:Nat):Int):=by omega
 have e1:IntKind.i64.wrap ((i:Int)+(k:Int))=((i+k:Nat):Int):=Ym (n:=i+k) (by omega)
 have e2:IntKind.u64.wrap (y:Int)=(y:Nat):=Ua rfl (by show y<2^64; omega)
 have e3:IntKind.u64.wrap (a:Int)=(a:Nat):=Ua rfl (by show a<2^64; omega)
 have e4:IntKind.u64.wrap (b:Int)=(b:Nat):=Ua rfl (by show b<2^64; omega)
 have e5:IntKind.u64.wrap ((a:Int)*(b:Int))=((a*b:Nat):Int):=Ua (n:=a*b) rfl (by show _<2^64; omega)
 have e6:IntKind.u64.wrap ((y:Int)+((a*b:Nat):Int))=((y+a*b:Nat):Int):=Ua (n:=y+a*b) rfl (by show _<2^64; omega)
 have e7:IntKind.u64.wrap ((c:Int)+((y+a*b:Nat):Int))=((c+(y+a*b):Nat):Int):=Ua (n:=c+(y+a*b)) rfl (by show _<2^64; omega)
 have e8:IntKind.u32.wrap ((c+(y+a*b):Nat):Int)=(((c+(y+a*b))%4294967296:Nat):Int):=by rw [wrap_u32]; rfl
 have e9:Qa9 ((c+(y+a*b):Nat):Int) (2^min 32 IntKind.u64.bits)=(((c+(y+a*b))/4294967296:Nat):Int):=by
  rw [Wn _ (by decide)]; rfl
 have e10:IntKind.i64.wrap ((k:Int)+1)=((k+1:Nat):Int):=Ym (n:=k+1) (by omega)
 have h5:i+k+1≤(Xu out).length:=by rw [Bo,hl]; omega
 simp only [Qvi,Qj4,Z6,Kg,Ko,Vc,J2,Kp,Jx,Vd,Kh,Ve,guardOf,Z1,opd,Wt,V1,Vf,Env.get,Env.put,Yl,Q4,Zc,Zg,Ja,V2,Ke,Xc,St.after,Env.keep,if_true,if_false,ite_true,ite_false,We,Yh,unV,Ye,Vg,packed,reduceCtorEq,Z9,Jb,Z2,Qk,Qd,Qj,Zz,Zx,Z3,beq_self_eq_true,Xr,Jz,Kk,Kj,X6,K9,Kd,Xp,Va,K8,X8,Vp,Km,J8,Kz,Vb,Ka,X9,Ju,X5,Jg,Jo,Jn,J6,Js,J4,Jr,Jm,J7,J5,Xj,Jt,Ki,Xl,Kl,K7,Xk,Kn,J0,Ob.fresh,Wu,W6,W5,Je,and_self,true_and,and_true,Jf,Xg,Vn,Yq,Vq,J9,okVar,Xd,Xh,false_and,decide_true,decide_false,Jk,Qq,Qo,Qp,Qe,Ql,Qi,Wf,Xi,Yn,Xt,Xm,Xn,Zu,Zy,Bu,Bt,Bs,Br,Zf,Kf,Jq,X7,Xq,Vk,J1,h1,h2,ho',hxc,hyc,e1,e2,e3,e4,e5,e6,e7,e8,e9,e10,h5,Ga,Dh]
structure TimesInv (n m i:Nat) (ws os out:List Nat):Prop where
 len:out.length=n+m
 lt:∀ x∈out,x<4294967296
 eq:num 4294967296 out=num 4294967296 (ws.take i)*num 4294967296 os
 top:∀ j,i+m≤j→j<n+m→out[j]?=some 0
def Qfw (H:List Ob) (s1 s2:Value) (n m i:Nat) (out:List Nat):St :=
 ⟨[(1,s2),(5,.slice (some ⟨H.length,0,none⟩) (n+m) (n+m)),(17,s1),(18,.int .i64 n),(19,.int .i64 i)],H++[Ob.fresh (Xu out)],[]⟩
theorem Qn5 {H:List Ob} {id1 off1 c1 id2 off2 c2 n m i a:Nat} {ws os out:List Nat} (hr1:Row .u32 H id1 off1 ws) (hr2:Row .u32 H id2 off2 os) (hm:os.length=m) (hN:n+m<2^40) (hi:i<n) (ha:ws[i]?=some a) (ha':a<4294967296) (hos:∀ x∈os,x<4294967296) (h:TimesInv n m i ws os out) :
  ∃ out',Jv T H.length Qj3 (Qfw H (.slice (some ⟨id1,off1,none⟩) n c1) (.slice (some ⟨id2,off2,none⟩) m c2) n m i out)=some (.normal,Qfw H (.slice (some ⟨id1,off1,none⟩) n c1) (.slice (some ⟨id2,off2,none⟩) m c2) n m (i+1) out')∧TimesInv n m (i+1) ws os out':=by
 have h0:MulInv n m i 0 (num 4294967296 out) a os out 0:=⟨h.len,h.lt,by decide,by simp [num],h.top⟩
 obtain ⟨s',hb,out1,c,rfl,hinv⟩:=Yg (T:=T) (base:=H.length) (id:=2) (body:=Qj4)
  (fun k s=>∃ out1 c,s=Qvi H (.slice (some ⟨id1,off1,none⟩) n c1) (.slice (some ⟨id2,off2,none⟩) m c2) n m i a k c out1∧MulInv n m i k (num 4294967296 out) a os out1 c)
  (Q:=fun s=>∃ out1 c,s=⟨[(1,.slice (some ⟨id2,off2,none⟩) m c2),(5,.slice (some ⟨H.length,0,none⟩) (n+m) (n+m)),(6,.int .i64 i),(7,.int .u32 a),(8,.int .u64 (c:Nat)),(17,.slice (some ⟨id1,off1,none⟩) n c1),(18,.int .i64 n),(19,.int .i64 i),(24,.slice (some ⟨id2,off2,none⟩) m c2),(25,.int .i64 m),(26,.int .i64 m),(27,.bool false)],H++[⟨Xu out1,true,true,true,1⟩],[]⟩∧MulInv n m i m (num 4294967296 out) a os out1 c)
  m ⟨out,0,rfl,h0⟩
  (fun k s hk hs=>by
   obtain ⟨out1,c,rfl,hI⟩:=hs
   obtain ⟨b,hbk⟩:∃ b,os[k]?=some b:=⟨_,Q3 (by omega)⟩
   obtain ⟨y,hy⟩:∃ y,out1[i+k]?=some y:=⟨_,Q3 (by rw [hI.len]; omega)⟩
   have hb':=hos b (Zp hbk)
   exact ⟨_,Qvh hr2 hN hi hk ha' hbk hb' hI.len hy (hI.lt y (Zp hy)) hI.clt,_,_,rfl,hI.step ha' hbk hb' hy hk⟩)
  (fun s hs=>by
   obtain ⟨out1,c,rfl,hI⟩:=hs
   have h1:¬ ((m:Int)<(m:Int)):=by omega
   refine ⟨_,?_,out1,c,rfl,hI⟩
   simp only [Qvi,Qj4,Z6,Kg,Ko,Vc,J2,Kp,Jx,Vd,Kh,Ve,guardOf,Z1,opd,Wt,V1,Vf,Env.get,Env.put,Yl,Q4,Zc,Zg,Ja,V2,Ke,Xc,St.after,Env.keep,if_true,if_false,ite_true,ite_false,We,Yh,unV,Ye,Vg,packed,reduceCtorEq,Z9,Jb,Z2,Qk,Qd,Qj,Zz,Zx,Z3,beq_self_eq_true,Xr,Jz,Kk,Kj,X6,K9,Kd,Xp,Va,K8,X8,Vp,Km,J8,Kz,Vb,Ka,X9,Ju,X5,Jg,Jo,Jn,J6,Js,J4,Jr,Jm,J7,J5,Xj,Jt,Ki,Xl,Kl,K7,Xk,Kn,J0,Ob.fresh,Wu,W6,W5,Je,and_self,true_and,and_true,Jf,Xg,Vn,Yq,Vq,J9,okVar,Xd,Xh,false_and,decide_true,decide_false,Jk,Qq,Qo,Qp,Qe,Ql,Qi,Wf,Xi,Yn,Xt,Xm,Xn,Zu,Zy,Bu,Bt,Bs,Br,Zf,Kf,Jq,X7,Xq,Vk,J1,h1])
 rw [show Qvi H (.slice (some ⟨id1,off1,none⟩) n c1) (.slice (some ⟨id2,off2,none⟩) m c2) n m i a 0 0 out=⟨[(1,.slice (some ⟨id2,off2,none⟩) m c2),(5,.slice (some ⟨H.length,0,none⟩) (n+m) (n+m)),(6,.int .i64 i),(7,.int .u32 a),(8,.int .u64 0),(17,.slice (some ⟨id1,off1,none⟩) n c1),(18,.int .i64 n),(19,.int .i64 i),(24,.slice (some ⟨id2,off2,none⟩) m c2),(25,.int .i64 m),(26,.int .i64 0)],H++[⟨Xu out,true,true,true,1⟩],[]⟩ from rfl] at hb
 obtain ⟨o,ho,hcell⟩:=hr1
 have ho':=Gj (l:=[⟨Xu out,true,true,true,1⟩]) ho
 have hxc:=hcell i a ha
 have hz:out1[i+m]?=some 0:=hinv.top (i+m) (Zf _) (by omega)
 have h1:((i:Int)<(n:Int)):=by omega
 have h2:((i+m:Nat):Int)<((n+m:Nat):Int):=by omega
 have e1:IntKind.i64.wrap ((i:Int)+(m:Int))=((i+m:Nat):Int):=Ym (n:=i+m) (by omega)
 have e2:IntKind.u32.wrap (c:Int)=(c:Nat):=Ua rfl hinv.clt
 have e10:IntKind.i64.wrap ((i:Int)+1)=((i+1:Nat):Int):=Ym (n:=i+1) (by omega)
 have h5:i+m+1≤(Xu out1).length:=by rw [Bo,hinv.len]; omega
 refine ⟨out1.set (i+m) c,?_,?_⟩
 ·simp only [Qfw,Qj3,Z6,Kg,Ko,Vc,J2,Kp,Jx,Vd,Kh,Ve,guardOf,Z1,opd,Wt,V1,Vf,Env.get,Env.put,Yl,Q4,Zc,Zg,Ja,V2,Ke,Xc,St.after,Env.keep,if_true,if_false,ite_true,ite_false,We,Yh,unV,Ye,Vg,packed,reduceCtorEq,Z9,Jb,Z2,Qk,Qd,Qj,Zz,Zx,Z3,beq_self_eq_true,Xr,Jz,Kk,Kj,X6,K9,Kd,Xp,Va,K8,X8,Vp,Km,J8,Kz,Vb,Ka,X9,Ju,X5,Jg,Jo,Jn,J6,Js,J4,Jr,Jm,J7,J5,Xj,Jt,Ki,Xl,Kl,K7,Xk,Kn,J0,Ob.fresh,Wu,W6,W5,Je,and_self,true_and,and_true,Jf,Xg,Vn,Yq,Vq,J9,okVar,Xd,Xh,false_and,decide_true,decide_false,Jk,Qq,Qo,Qp,Qe,Ql,Qi,Wf,Xi,Yn,Xt,Xm,Xn,Zu,Zy,Bu,Bt,Bs,Br,Zf,Kf,Jq,X7,Xq,Vk,J1,h1,h2,ho',hxc,hb,e1,e2,e10,h5,Ga,Dh]
 ·refine ⟨by rw [Jp]; exact hinv.len,Mt hinv.lt hinv.clt,?_,?_⟩
  ·have h6:=Ry (B:=4294967296) c hz
   have h7:=hinv.eq
   rw [show os.take m=os by rw [←hm]; exact Dm,h.eq] at h7
   rw [Bq ha,Vy]
   omega
  ·intro j h6 h7
   rw [Z7 (by omega)]
   exact hinv.top j (by omega) h7
theorem Qxr {H:List Ob} {id1 off1 c1 id2 off2 c2 n m:Nat} {ws os:List Nat} (hr1:Row .u32 H id1 off1 ws) (hr2:Row .u32 H id2 off2 os) (hn:ws.length=n) (hm:os.length=m) (hN:n+m<2^40) (hws:∀ x∈ws,x<4294967296) (hos:∀ x∈os,x<4294967296) :
  Vv T 58 [.slice (some ⟨id1,off1,none⟩) n c1,.slice (some ⟨id2,off2,none⟩) m c2] H=some (.slice (some ⟨H.length,0,none⟩) (n+m) (n+m),H++[Ob.fresh (Xu (dig 4294967296 (n+m) (num 4294967296 ws*num 4294967296 os)))],[]):=by
 have h0:TimesInv n m 0 ws os (dig 4294967296 (n+m) 0):=⟨Vs _ _ _,fun x hx=>Hd (by decide) hx,by rw [Bb (by decide)]; simp [num],fun j _ h=>by rw [Dl h]; simp⟩
 obtain ⟨s',hb,out,rfl,hinv⟩:=Yg (T:=T) (base:=H.length) (id:=0) (body:=Qj3)
  (fun i s=>∃ out,s=Qfw H (.slice (some ⟨id1,off1,none⟩) n c1) (.slice (some ⟨id2,off2,none⟩) m c2) n m i out∧TimesInv n m i ws os out)
  (Q:=fun s=>∃ out,s=⟨[(1,.slice (some ⟨id2,off2,none⟩) m c2),(5,.slice (some ⟨H.length,0,none⟩) (n+m) (n+m)),(17,.slice (some ⟨id1,off1,none⟩) n c1),(18,.int .i64 n),(19,.int .i64 n),(20,.bool false)],H++[⟨Xu out,true,true,true,1⟩],[]⟩∧TimesInv n m n ws os out)
  n ⟨_,rfl,h0⟩
  (fun i s hi hs=>by
   obtain ⟨out,rfl,hI⟩:=hs
   obtain ⟨a,ha⟩:∃ a,ws[i]?=some a:=⟨_,Q3 (by omega)⟩
   obtain ⟨out',g1,g2⟩:=Qn5 (c1:=c1) (c2:=c2) hr1 hr2 hm hN hi ha (hws a (Zp ha)) hos hI
   exact ⟨_,g1,_,rfl,g2⟩)
  (fun s hs=>by
   obtain ⟨out,rfl,hI⟩:=hs
   have h1:¬ ((n:Int)<(n:Int)):=by omega
   refine ⟨_,?_,out,rfl,hI⟩
   simp only [Qfw,Qj3,Z6,Kg,Ko,Vc,J2,Kp,Jx,Vd,Kh,Ve,guardOf,Z1,opd,Wt,V1,Vf,Env.get,Env.put,Yl,Q4,Zc,Zg,Ja,V2,Ke,Xc,St.after,Env.keep,if_true,if_false,ite_true,ite_false,We,Yh,unV,Ye,Vg,packed,reduceCtorEq,Z9,Jb,Z2,Qk,Qd,Qj,Zz,Zx,Z3,beq_self_eq_true,Xr,Jz,Kk,Kj,X6,K9,Kd,Xp,Va,K8,X8,Vp,Km,J8,Kz,Vb,Ka,X9,Ju,X5,Jg,Jo,Jn,J6,Js,J4,Jr,Jm,J7,J5,Xj,Jt,Ki,Xl,Kl,K7,Xk,Kn,J0,Ob.fresh,Wu,W6,W5,Je,and_self,true_and,and_true,Jf,Xg,Vn,Yq,Vq,J9,okVar,Xd,Xh,false_and,decide_true,decide_false,Jk,Qq,Qo,Qp,Qe,Ql,Qi,Wf,Xi,Yn,Xt,Xm,Xn,Zu,Zy,Bu,Bt,Bs,Br,Zf,Kf,Jq,X7,Xq,Vk,J1,h1])
 rw [show Qfw H (.slice (some ⟨id1,off1,none⟩) n c1) (.slice (some ⟨id2,off2,none⟩) m c2) n m 0 (dig 4294967296 (n+m) 0)=⟨[(1,.slice (some ⟨id2,off2,none⟩) m c2),(5,.slice (some ⟨H.length,0,none⟩) (n+m) (n+m)),(17,.slice (some ⟨id1,off1,none⟩) n c1),(18,.int .i64 n),(19,.int .i64 0)],H++[⟨Xu (dig 4294967296 (n+m) 0),true,true,true,1⟩],[]⟩ from rfl] at hb
 have hout:dig 4294967296 (n+m) (num 4294967296 ws*num 4294967296 os)=out:=by
  have h1:=hinv.eq
  rw [show ws.take n=ws by rw [←hn]; exact Dm] at h1
  rw [←h1,←hinv.len,Qat (by decide) hinv.lt]
 have e1:IntKind.i64.wrap ((n:Int)+(m:Int))=((n+m:Nat):Int):=Ym (n:=n+m) (by omega)
 have h1:(((n+m:Nat):Int)*((4:Nat):Int)≤2^47):=by omega
 have h2:(0:Nat)<4:=by decide
 rw [Z5 (fn:=a44) rfl,hout]
 simp only [a44,Z6,Kg,Ko,Vc,J2,Kp,Jx,Vd,Kh,Ve,guardOf,Z1,opd,Wt,V1,Vf,Env.get,Env.put,Yl,Q4,Zc,Zg,Ja,V2,Ke,Xc,St.after,Env.keep,if_true,if_false,ite_true,ite_false,We,Yh,unV,Ye,Vg,packed,reduceCtorEq,Z9,Jb,Z2,Qk,Qd,Qj,Zz,Zx,Z3,beq_self_eq_true,Xr,Jz,Kk,Kj,X6,K9,Kd,Xp,Va,K8,X8,Vp,Km,J8,Kz,Vb,Ka,X9,Ju,X5,Jg,Jo,Jn,J6,Js,J4,Jr,Jm,J7,J5,Xj,Jt,Ki,Xl,Kl,K7,Xk,Kn,J0,Ob.fresh,Wu,W6,W5,Je,and_self,true_and,and_true,Jf,Xg,Vn,Yq,Vq,J9,okVar,Xd,Xh,false_and,decide_true,decide_false,Jk,Qq,Qo,Qp,Qe,Ql,Qi,Wf,Xi,Yn,Xt,Xm,Xn,Zu,Zy,Bu,Bt,Bs,Br,Zf,Kf,Jq,X7,Xq,Vk,J1,e1,h1,h2,Kf,T1,Qfv,hb]
structure PlusInv (n i A:Nat) (os out:List Nat) (c:Nat):Prop where
 len:out.length=n+1
 lt:∀ x∈out,x<4294967296
 cle:c≤1
 eq:num 4294967296 out+c*4294967296^i=A+num 4294967296 (os.take i)
theorem Qki {B:Nat} (l:List Nat) (i:Nat):num B (l.take (i+1))=num B (l.take i)+l.getD i 0*B^i:=by
 cases h:l[i]? with
 | some x=>rw [Bq h,Jh,h]; rfl
 | none =>
  have:=List.getElem?_eq_none_iff.1 h
  rw [Jh,h,Zj this,Zj (by omega)]
  simp
theorem PlusInv.step {n i A c y:Nat} {os out:List Nat} (h:PlusInv n i A os out c) (hos:∀ x∈os,x<4294967296) (hy:out[i]?=some y):PlusInv n (i+1) A os (out.set i (Qqq y (os.getD i 0) c)) (Qqr y (os.getD i 0) c):=by
 have hy':y<4294967296:=h.lt y (Zp hy)
 have hc:=h.cle
 have hx:os.getD i 0<4294967296:=by
  rw [Jh]
  cases hh:os[i]? with
  | some x=>exact hos x (Zp hh)
  | none=>decide
 refine ⟨by rw [Jp]; exact h.len,Mt h.lt (Jw _ (by decide)),?_,?_⟩
 ·unfold Qqr; omega
 ·have h1:=Ry (B:=4294967296) (Qqq y (os.getD i 0) c) hy
  have h2:=h.eq
  rw [Qki]
  have h3:4294967296*Qqr y (os.getD i 0) c+Qqq y (os.getD i 0) c=y+os.getD i 0+c:=Yi _ _
  generalize Qqr y (os.getD i 0) c=q at *
  generalize Qqq y (os.getD i 0) c=r at *
  have e2:q*4294967296^(i+1)=4294967296*q*4294967296^i:=by
   rw [V0]; simp only [Y5,Wk,Vt]
  have e3:(4294967296*q+r)*4294967296^i=(y+os.getD i 0+c)*4294967296^i:=by rw [h3]
  rw [Vy,Vy,Vy] at e3
  rw [e2]
  omega
def Qir (H:List Ob) (s2:Value) (n i c:Nat) (out:List Nat):St :=
 ⟨[(1,s2),(5,.slice (some ⟨H.length,0,none⟩) (n+1) (n+1)),(6,.int .u32 c),(19,.int .i64 ((n+1:Nat):Int)),(20,.int .i64 i)],H++[⟨Xu out,true,true,true,1⟩,⟨[.int .u32 0],true,true,true,1⟩],[]⟩
theorem Qu2 {H:List Ob} {id2 off2 c2 n m i c y:Nat} {os out:List Nat} (hr:Row .u32 H id2 off2 os) (hm:os.length=m) (hN:n<2^40) (hmn:m<2^40) (hi:i<n+1) (hos:∀ x∈os,x<4294967296) (hl:out.length=n+1) (hy:out[i]?=some y) (hy':y<4294967296) (hc:c≤1) :
  Jv T H.length Qb4 (Qir H (.slice (some ⟨id2,off2,none⟩) m c2) n i c out)=some (.normal,Qir H (.slice (some ⟨id2,off2,none⟩) m c2) n (i+1) (Qqr y (os.getD i 0) c) (out.set i (Qqq y (os.getD i 0) c))):=by
 obtain ⟨o,ho,hcell⟩:=hr
 have ho':=Gj (l:=[⟨Xu out,true,true,true,1⟩,⟨[.int .u32 0],true,true,true,1⟩]) ho
 have hyc:=Bp hy
 have h1:((i:Int)<((n+1:Nat):Int)):=by omega
 have e10:IntKind.i64.wrap ((i:Int)+1)=((i+1:Nat):Int):=Ym (n:=i+1) (by omega)
 have h5:i+1≤(Xu out).length:=by rw [Bo,hl]; omega
 by_cases him:i<m
 ·obtain ⟨b,hb⟩:∃ b,os[i]?=some b:=⟨_,Q3 (by omega)⟩
  have hd:os.getD i 0=b:=by rw [Jh,hb]; rfl
  have hxc:=hcell i b hb
  have h2:((i:Int)<(m:Int)):=by omega
  have hadd:=Qqs hy' (hos b (Zp hb)) hc
  rw [hd]
  simp only [Qir,Qb4,Z6,Kg,Ko,Vc,J2,Kp,Jx,Vd,Kh,Ve,guardOf,Z1,opd,Wt,V1,Vf,Env.get,Env.put,Yl,Q4,Zc,Zg,Ja,V2,Ke,Xc,St.after,Env.keep,if_true,if_false,ite_true,ite_false,We,Yh,unV,Ye,Vg,packed,reduceCtorEq,Z9,Jb,Z2,Qk,Qd,Qj,Zz,Zx,Z3,beq_self_eq_true,Xr,Jz,Kk,Kj,X6,K9,Kd,Xp,Va,K8,X8,Vp,Km,J8,Kz,Vb,Ka,X9,Ju,X5,Jg,Jo,Jn,J6,Js,J4,Jr,Jm,J7,J5,Xj,Jt,Ki,Xl,Kl,K7,Xk,Kn,J0,Ob.fresh,Wu,W6,W5,Je,and_self,true_and,and_true,Jf,Xg,Vn,Yq,Vq,J9,okVar,Xd,Xh,false_and,decide_true,decide_false,Jk,Qq,Qo,Qp,Qe,Ql,Qi,Wf,Xi,Yn,Xt,Xm,Xn,Zu,Zy,Bu,Bt,Bs,Br,Zf,Kf,Jq,X7,Xq,Vk,J1,h1,h2,ho',hxc,hyc,e10,h5,Ga,Dh,hadd]
 ·have hd:os.getD i 0=0:=by rw [Jh,Kq (by omega)]; rfl
  have h2:¬ ((i:Int)<(m:Int)):=by omega
  have hadd:Vv T 88 [.int .u32 (y:Nat),.int .u32 0,.int .u32 (c:Nat)] []=_:=Qqs hy' (by decide:0<4294967296) hc
  rw [hd]
  simp only [Qir,Qb4,Z6,Kg,Ko,Vc,J2,Kp,Jx,Vd,Kh,Ve,guardOf,Z1,opd,Wt,V1,Vf,Env.get,Env.put,Yl,Q4,Zc,Zg,Ja,V2,Ke,Xc,St.after,Env.keep,if_true,if_false,ite_true,ite_false,We,Yh,unV,Ye,Vg,packed,reduceCtorEq,Z9,Jb,Z2,Qk,Qd,Qj,Zz,Zx,Z3,beq_self_eq_true,Xr,Jz,Kk,Kj,X6,K9,Kd,Xp,Va,K8,X8,Vp,Km,J8,Kz,Vb,Ka,X9,Ju,X5,Jg,Jo,Jn,J6,Js,J4,Jr,Jm,J7,J5,Xj,Jt,Ki,Xl,Kl,K7,Xk,Kn,J0,Ob.fresh,Wu,W6,W5,Je,and_self,true_and,and_true,Jf,Xg,Vn,Yq,Vq,J9,okVar,Xd,Xh,false_and,decide_true,decide_false,Jk,Qq,Qo,Qp,Qe,Ql,Qi,Wf,Xi,Yn,Xt,Xm,Xn,Zu,Zy,Bu,Bt,Bs,Br,Zf,Kf,Jq,X7,Xq,Vk,J1,h1,h2,hyc,e10,h5,Ga,Dh,hadd]
theorem Q2t {ws:List Nat} {n:Nat} (hn:ws.length=n):splice (Xu (dig 4294967296 (n+1) 0)) 0 (Xu ws)=Xu (ws++[0]):=by
 rw [Gh _ _ _ (by rw [Bo,Bo,Vs]; omega),Bo,hn,Qqa]
 simp only [Q0,Zc,Zz,Xu,By,List.map_replicate,List.drop_replicate]
 rw [show n+1-n=1 by omega]; rfl
theorem Q2s {ws:List Nat} {n:Nat} (hn:ws.length=n):splice (Xu (ws++[0])) n [.int .u32 0]=Xu (ws++[0]):=by
 rw [Xd]
 apply Wy
 intro i
 by_cases hi:i=n
 ·subst hi
  rw [Jl (by rw [Bo,Za,hn]; simp),Bp (x:=0) (by rw [Qr (by omega),hn]; simp)]; rfl
 ·rw [Z7 (Ne.symm hi)]
theorem Q2w {H:List Ob} {id1 off1 c1 n:Nat} {ws:List Nat} (hr1:Row .u32 H id1 off1 ws) (hn:ws.length=n) (hn0:0<n) (hN:n<2^40) :
  Yz 1 4 (H++[⟨Xu (dig 4294967296 (n+1) 0),true,true,true,1⟩]) (.slice (some ⟨H.length,0,none⟩) 0 (n+1)) (.slice (some ⟨id1,off1,none⟩) n c1)=some (.slice (some ⟨H.length,0,none⟩) n (n+1),H++[⟨Xu (ws++[0]),true,true,true,1⟩],none,[H.length]):=by
 have h:=Qg9 (H:=H) (r:=[]) (es:=1) (bytes:=4) (len:=0) (cap:=n+1) (cs:=Xu (dig 4294967296 (n+1) 0)) (x := .slice (some ⟨id1,off1,none⟩) n c1) (n:=n) (new:=Xu ws) rfl (by rw [←hn]; exact (hr1.app).elems (by omega)) hn0 (by omega) (by omega) (by decide) (by decide) (by rw [Bo,Bo,Vs]; omega)
 rw [Xq,Q2t hn,Zz] at h
 exact h
theorem Q2v {H:List Ob} {n:Nat} {ws:List Nat} (hn:ws.length=n) (hN:n<2^40) :
  Yz 1 4 (H++[⟨Xu (ws++[0]),true,true,true,1⟩,⟨[.int .u32 0],true,true,true,1⟩]) (.slice (some ⟨H.length,0,none⟩) n (n+1)) (.slice (some ⟨H.length+1,0,none⟩) 1 1)=some (.slice (some ⟨H.length,0,none⟩) (n+1) (n+1),H++[⟨Xu (ws++[0]),true,true,true,1⟩,⟨[.int .u32 0],true,true,true,1⟩],none,[H.length]):=by
 have h:=Qg9 (H:=H) (r:=[⟨[.int .u32 0],true,true,true,1⟩]) (es:=1) (bytes:=4) (len:=n) (cap:=n+1) (cs:=Xu (ws++[0])) (x := .slice (some ⟨H.length+1,0,none⟩) 1 1) (n:=1) (new:=[.int .u32 0]) rfl (by simp [elemsOf,W6]) (by decide) (by omega) (by omega) (by decide) (by decide) (by rw [Bo,Za,hn]; simp)
 rw [Xg,Q2s hn] at h
 exact h
theorem Qyu {n m A:Nat} {os out:List Nat} {c:Nat} (hinv:PlusInv n (n+1) A os out c) (hm:os.length=m) (hmn:m≤n) (hA:A<4294967296^n) (hos:∀ x∈os,x<4294967296):dig 4294967296 (n+1) (A+num 4294967296 os)=out:=by
  have h1:=hinv.eq
  rw [show os.take (n+1)=os from Zj (by omega)] at h1
  have h3:=num_lt hos
  rw [hm] at h3
  have h4:4294967296^m≤4294967296^n:=Vl (by decide) hmn
  have h5:c=0:=by
   have hc:=hinv.cle
   rcases Yc 0 c with h | h
   ·have:c=1:=by omega
    subst this
    rw [V0] at h1
    omega
   ·omega
  subst h5
  rw [Xq,Jk] at h1
  rw [←h1,←hinv.len,Qat (by decide) hinv.lt]
theorem Qu1 {H:List Ob} {id1 off1 id2 off2 c2 n m:Nat} {ws os:List Nat} (hr1:Row .u32 H id1 off1 ws) (hr2:Row .u32 H id2 off2 os) (hn:ws.length=n) (hm:os.length=m) (hn0:0<n) (hmn:m≤n) (hN:n<2^40) (hws:∀ x∈ws,x<4294967296) (hos:∀ x∈os,x<4294967296) :
  ∃ out c,Jv T H.length (.block 0 (.loop Qb4)) ⟨[(1,.slice (some ⟨id2,off2,none⟩) m c2),(5,.slice (some ⟨H.length,0,none⟩) (n+1) (n+1)),(6,.int .u32 0),(19,.int .i64 ((n+1:Nat):Int)),(20,.int .i64 0)],H++[⟨Xu (ws++[0]),true,true,true,1⟩,⟨[.int .u32 0],true,true,true,1⟩],[]⟩=some (.normal,⟨[(1,.slice (some ⟨id2,off2,none⟩) m c2),(5,.slice (some ⟨H.length,0,none⟩) (n+1) (n+1)),(6,.int .u32 (c:Nat)),(19,.int .i64 ((n+1:Nat):Int)),(20,.int .i64 ((n+1:Nat):Int)),(21,.bool false)],H++[⟨Xu out,true,true,true,1⟩,⟨[.int .u32 0],true,true,true,1⟩],[]⟩)∧PlusInv n (n+1) (num 4294967296 ws) os out c:=by
 have h0:PlusInv n 0 (num 4294967296 ws) os (ws++[0]) 0:=⟨by simp [hn],fun x hx=>by
  rcases Kv.1 hx with h | h
  ·exact hws x h
  ·simp at h; omega,by decide,by rw [Qan]; simp [num]⟩
 obtain ⟨s',hb,out,c,rfl,hinv⟩:=Yg (T:=T) (base:=H.length) (id:=0) (body:=Qb4)
  (fun i s=>∃ out c,s=Qir H (.slice (some ⟨id2,off2,none⟩) m c2) n i c out∧PlusInv n i (num 4294967296 ws) os out c)
  (Q:=fun s=>∃ out c,s=⟨[(1,.slice (some ⟨id2,off2,none⟩) m c2),(5,.slice (some ⟨H.length,0,none⟩) (n+1) (n+1)),(6,.int .u32 (c:Nat)),(19,.int .i64 ((n+1:Nat):Int)),(20,.int .i64 ((n+1:Nat):Int)),(21,.bool false)],H++[⟨Xu out,true,true,true,1⟩,⟨[.int .u32 0],true,true,true,1⟩],[]⟩∧PlusInv n (n+1) (num 4294967296 ws) os out c)
  (n+1) ⟨_,_,rfl,h0⟩
  (fun i s hi hs=>by
   obtain ⟨out,c,rfl,hI⟩:=hs
   obtain ⟨y,hy⟩:∃ y,out[i]?=some y:=⟨_,Q3 (by rw [hI.len]; omega)⟩
   exact ⟨_,Qu2 hr2 hm hN (by omega) hi hos hI.len hy (hI.lt y (Zp hy)) hI.cle,_,_,rfl,hI.step hos hy⟩)
  (fun s hs=>by
   obtain ⟨out,c,rfl,hI⟩:=hs
   have h1:¬ (((n+1:Nat):Int)<((n+1:Nat):Int)):=by omega
   refine ⟨_,?_,out,c,rfl,hI⟩
   simp only [Qir,Qb4,Z6,Kg,Ko,Vc,J2,Kp,Jx,Vd,Kh,Ve,guardOf,Z1,opd,Wt,V1,Vf,Env.get,Env.put,Yl,Q4,Zc,Zg,Ja,V2,Ke,Xc,St.after,Env.keep,if_true,if_false,ite_true,ite_false,We,Yh,unV,Ye,Vg,packed,reduceCtorEq,Z9,Jb,Z2,Qk,Qd,Qj,Zz,Zx,Z3,beq_self_eq_true,Xr,Jz,Kk,Kj,X6,K9,Kd,Xp,Va,K8,X8,Vp,Km,J8,Kz,Vb,Ka,X9,Ju,X5,Jg,Jo,Jn,J6,Js,J4,Jr,Jm,J7,J5,Xj,Jt,Ki,Xl,Kl,K7,Xk,Kn,J0,Ob.fresh,Wu,W6,W5,Je,and_self,true_and,and_true,Jf,Xg,Vn,Yq,Vq,J9,okVar,Xd,Xh,false_and,decide_true,decide_false,Jk,Qq,Qo,Qp,Qe,Ql,Qi,Wf,Xi,Yn,Xt,Xm,Xn,Zu,Zy,Bu,Bt,Bs,Br,Zf,Kf,Jq,X7,Xq,Vk,J1,h1])
 rw [show Qir H (.slice (some ⟨id2,off2,none⟩) m c2) n 0 0 (ws++[0])=⟨[(1,.slice (some ⟨id2,off2,none⟩) m c2),(5,.slice (some ⟨H.length,0,none⟩) (n+1) (n+1)),(6,.int .u32 0),(19,.int .i64 ((n+1:Nat):Int)),(20,.int .i64 0)],H++[⟨Xu (ws++[0]),true,true,true,1⟩,⟨[.int .u32 0],true,true,true,1⟩],[]⟩ from rfl] at hb
 exact ⟨out,c,hb,hinv⟩
theorem Q72 {k:Nat} (h:k<2^41):((k:Nat):Int)*((4:Nat):Int)≤2^47:=by omega
theorem Qyv {H:List Ob} {k n m c:Nat} {id1 off1 c1 id2 off2 c2:Nat} {ws out:List Nat} (e1:IntKind.i64.wrap ((n:Int)+1)=((k:Nat):Int)) (h1:((k:Nat):Int)*((4:Nat):Int)≤2^47)
  (ha1:Yz 1 4 (H++[⟨Xu (dig 4294967296 k 0),true,true,true,1⟩]) (.slice (some ⟨H.length,0,none⟩) 0 k) (.slice (some ⟨id1,off1,none⟩) n c1)=some (.slice (some ⟨H.length,0,none⟩) n k,H++[⟨Xu (ws++[0]),true,true,true,1⟩],none,[H.length]))
  (ha2:Yz 1 4 (H++[⟨Xu (ws++[0]),true,true,true,1⟩,⟨[.int .u32 0],true,true,true,1⟩]) (.slice (some ⟨H.length,0,none⟩) n k) (.slice (some ⟨H.length+1,0,none⟩) 1 1)=some (.slice (some ⟨H.length,0,none⟩) k k,H++[⟨Xu (ws++[0]),true,true,true,1⟩,⟨[.int .u32 0],true,true,true,1⟩],none,[H.length]))
  (hb:Jv T H.length (.block 0 (.loop Qb4)) ⟨[(1,.slice (some ⟨id2,off2,none⟩) m c2),(5,.slice (some ⟨H.length,0,none⟩) (k) (k)),(6,.int .u32 0),(19,.int .i64 ((k:Nat):Int)),(20,.int .i64 0)],H++[⟨Xu (ws++[0]),true,true,true,1⟩,⟨[.int .u32 0],true,true,true,1⟩],[]⟩=some (.normal,⟨[(1,.slice (some ⟨id2,off2,none⟩) m c2),(5,.slice (some ⟨H.length,0,none⟩) (k) (k)),(6,.int .u32 (c:Nat)),(19,.int .i64 ((k:Nat):Int)),(20,.int .i64 ((k:Nat):Int)),(21,.bool false)],H++[⟨Xu out,true,true,true,1⟩,⟨[.int .u32 0],true,true,true,1⟩],[]⟩)) :
  Vv T 59 [.slice (some ⟨id1,off1,none⟩) n c1,.slice (some ⟨id2,off2,none⟩) m c2] H=some (.slice (some ⟨H.length,0,none⟩) k k,H++[⟨Xu out,true,true,true,1⟩,⟨[.int .u32 0],true,true,true,1⟩],[]):=by
 have h2:(0:Nat)<4:=by decide
 have hfill:fillL [Value.int .u32 0] [(0,1,.int .u32 0)]=some [.int .u32 0]:=rfl
 rw [Z5 (fn:=a45) rfl]
 simp only [a45,Z6,Kg,Ko,Vc,J2,Kp,Jx,Vd,Kh,Ve,guardOf,Z1,opd,Wt,V1,Vf,Env.get,Env.put,Yl,Q4,Zc,Zg,Ja,V2,Ke,Xc,St.after,Env.keep,if_true,if_false,ite_true,ite_false,We,Yh,unV,Ye,Vg,packed,reduceCtorEq,Z9,Jb,Z2,Qk,Qd,Qj,Zz,Zx,Z3,beq_self_eq_true,Xr,Jz,Kk,Kj,X6,K9,Kd,Xp,Va,K8,X8,Vp,Km,J8,Kz,Vb,Ka,X9,Ju,X5,Jg,Jo,Jn,J6,Js,J4,Jr,Jm,J7,J5,Xj,Jt,Ki,Xl,Kl,K7,Xk,Kn,J0,Ob.fresh,Wu,W6,W5,Je,and_self,true_and,and_true,Jf,Xg,Vn,Yq,Vq,J9,okVar,Xd,Xh,false_and,decide_true,decide_false,Jk,Qq,Qo,Qp,Qe,Ql,Qi,Wf,Xi,Yn,Xt,Xm,Xn,Zu,Zy,Bu,Bt,Bs,Br,Zf,Kf,Jq,X7,Xq,Vk,J1,e1,h1,h2,Kf,T1,Qfv,hfill,Za,Zw,ha1,ha2,hb]
theorem Q2u {H:List Ob} {id1 off1 c1 id2 off2 c2 n m:Nat} {ws os:List Nat} (hr1:Row .u32 H id1 off1 ws) (hr2:Row .u32 H id2 off2 os) (hn:ws.length=n) (hm:os.length=m) (hn0:0<n) (hmn:m≤n) (hN:n<2^40) (hws:∀ x∈ws,x<4294967296) (hos:∀ x∈os,x<4294967296) :
  Vv T 59 [.slice (some ⟨id1,off1,none⟩) n c1,.slice (some ⟨id2,off2,none⟩) m c2] H=some (.slice (some ⟨H.length,0,none⟩) (n+1) (n+1),H++[⟨Xu (dig 4294967296 (n+1) (num 4294967296 ws+num 4294967296 os)),true,true,true,1⟩,⟨[.int .u32 0],true,true,true,1⟩],[]):=by
 obtain ⟨out,c,hb,hinv⟩:=Qu1 (c2:=c2) hr1 hr2 hn hm hn0 hmn hN hws hos
 have hout:=Qyu hinv hm hmn (by rw [←hn]; exact num_lt hws) hos
 rw [hout]
 exact Qyv (Ym (n:=n+1) (by omega)) (Q72 (by omega)) (Q2w hr1 hn hn0 hN) (Q2v hn hN) hb
def ell:Nat:=7237005577332262213973186563042994240857116359379907606001950938285454250989
theorem Qt3:num 4294967296 orderW=ell:=by decide
theorem Qei:∀ x∈orderW,x<4294967296:=by decide
structure ShInv (k c0:Nat) (r0 r:List Nat) (c:Nat):Prop where
 len:r.length=8
 lt:∀ x∈r,x<4294967296
 cle:c≤1
 eq:num 4294967296 r+c*4294967296^k=num 4294967296 r0+num 4294967296 (r0.take k)+c0
 rest:∀ j,k≤j→r[j]?=r0[j]?
theorem ShInv.step {k c0 c x:Nat} {r0 r:List Nat} (h:ShInv k c0 r0 r c) (hx:r[k]?=some x):ShInv (k+1) c0 r0 (r.set k ((2*x+c)%4294967296)) (x/2147483648):=by
 have hx':x<4294967296:=h.lt x (Zp hx)
 have hc:=h.cle
 refine ⟨by rw [Jp]; exact h.len,Mt h.lt (Jw _ (by decide)),by omega,?_,?_⟩
 ·have h1:=Ry (B:=4294967296) ((2*x+c)%4294967296) hx
  have h2:=h.eq
  rw [Bq (by rw [←h.rest k (Zf _)]; exact hx)]
  have h3:4294967296*(x/2147483648)+(2*x+c)%4294967296=2*x+c:=by omega
  generalize (2*x+c)%4294967296=y at *
  generalize x/2147483648=q at *
  have e2:q*4294967296^(k+1)=4294967296*q*4294967296^k:=by
   rw [V0]; simp only [Y5,Wk,Vt]
  have e3:(4294967296*q+y)*4294967296^k=(2*x+c)*4294967296^k:=by rw [h3]
  rw [Vy,Vy,Y5 2] at e3
  rw [e2]
  omega
 ·intro j hj
  rw [Z7 (by omega)]
  exact h.rest j (by omega)
structure SbInv (k:Nat) (r nx:List Nat) (b:Nat):Prop where
 len:nx.length=8
 lt:∀ x∈nx,x<4294967296
 ble:b≤1
 eq:num 4294967296 (r.take k)+b*4294967296^k=num 4294967296 (orderW.take k)+num 4294967296 (nx.take k)
theorem Qkc {l:List Nat} {k y:Nat}:(l.set k y).take k=l.take k:=by
 apply Wy
 intro i
 rw [Vi,Vi]
 by_cases h:i<k
 ·rw [if_pos h,if_pos h,Z7 (by omega)]
 ·rw [if_neg h,if_neg h]
theorem SbInv.step {k b x l:Nat} {r nx:List Nat} (h:SbInv k r nx b) (hr:∀ x∈r,x<4294967296) (hk:k<8) (hx:r[k]?=some x) (hl:orderW[k]?=some l):SbInv (k+1) r (nx.set k (Qdb x l b)) (Qdc x l b):=by
 have hx':x<4294967296:=hr x (Zp hx)
 have hl':l<4294967296:=Qei l (Zp hl)
 have hb:=h.ble
 have hd:Qdb x l b<4294967296∧x+4294967296*Qdc x l b=l+b+Qdb x l b∧Qdc x l b≤1:=by
  unfold Qdb Qdc; split<;>omega
 refine ⟨by rw [Jp]; exact h.len,Mt h.lt hd.1,hd.2.2,?_⟩
 have h2:=h.eq
 have hy:(nx.set k (Qdb x l b))[k]?=some (Qdb x l b):=Jl (by rw [h.len]; exact hk)
 rw [Bq hx,Bq hl,Bq hy,Qkc]
 have h3:=hd.2.1
 generalize Qdb x l b=d at *
 generalize Qdc x l b=q at *
 have e2:q*4294967296^(k+1)=4294967296*q*4294967296^k:=by
  rw [V0]; simp only [Y5,Wk,Vt]
 have e3:(x+4294967296*q)*4294967296^k=(l+b+d)*4294967296^k:=by rw [h3]
 rw [Vy,Vy,Vy] at e3
 rw [e2]
 omega
theorem Qx4 {H:List Ob} {s v:Value} {k c x:Nat} {r nx:List Nat} (hk:k<8) (hl:r.length=8) (hx:r[k]?=some x) (hx':x<4294967296) (hc:c≤1) :
  Jv T H.length Rh (⟨[(0,s),(3,(.slice (some ⟨H.length,0,none⟩) 8 8)),(4,(.slice (some ⟨H.length+1,0,none⟩) 8 8)),(5,(.slice (some ⟨(H.length+2),0,none⟩) 8 8)),(6,v),(7,.int .u32 ((c:Nat))),(32,.int .i64 8),(33,.int .i64 ((k:Nat)))],H++[⟨Xu (r),true,true,true,1⟩,⟨Xu orderW,true,true,true,1⟩,⟨Xu (nx),true,true,true,1⟩],[]⟩:St)=some (.normal,(⟨[(0,s),(3,(.slice (some ⟨H.length,0,none⟩) 8 8)),(4,(.slice (some ⟨H.length+1,0,none⟩) 8 8)),(5,(.slice (some ⟨(H.length+2),0,none⟩) 8 8)),(6,v),(7,.int .u32 (((x/2147483648:Nat):Int))),(32,.int .i64 8),(33,.int .i64 (((k+1:Nat):Int)))],H++[⟨Xu (r.set k ((2*x+c)%4294967296)),true,true,true,1⟩,⟨Xu orderW,true,true,true,1⟩,⟨Xu (nx),true,true,true,1⟩],[]⟩:St)):=by
 have hxc:=Bp hx
 have h1:((k:Int)<(8:Int)):=by omega
 have h1':((k:Int)<((8:Nat):Int)):=by omega
 have e1:IntKind.u32.wrap ((x:Int)*2^min 1 IntKind.u32.bits)=((2*x%4294967296:Nat):Int):=by
  rw [wrap_u32,show min 1 IntKind.u32.bits=1 from rfl]; omega
 have e2:Vo .or .u32 ((2*x%4294967296:Nat):Int) (c:Int)=(((2*x+c)%4294967296:Nat):Int):=by
  rw [Hl (k := .u32) (a:=2*x%4294967296) (b:=c) rfl (Jw _ (by decide)) (by show c<2^32; omega)]
  congr 1
  have h2:2*x%4294967296=2^1*(x%2147483648):=by omega
  rw [h2,←Hx (by omega:c<2^1)]
  omega
 have e3:Qa9 (x:Int) (2^min 31 IntKind.u32.bits)=((x/2147483648:Nat):Int):=by
  rw [Wn _ (by decide)]; rfl
 have e10:IntKind.i64.wrap ((k:Int)+1)=((k+1:Nat):Int):=Ym (n:=k+1) (by omega)
 have h5:k+1≤(Xu r).length:=by rw [Bo,hl]; omega
 simp only [Rh,Z6,Kg,Ko,Vc,J2,Kp,Jx,Vd,Kh,Ve,guardOf,Z1,opd,Wt,V1,Vf,Env.get,Env.put,Yl,Q4,Zc,Zg,Ja,V2,Ke,Xc,St.after,Env.keep,if_true,if_false,ite_true,ite_false,We,Yh,unV,Ye,Vg,packed,reduceCtorEq,Z9,Jb,Z2,Qk,Qd,Qj,Zz,Zx,Z3,beq_self_eq_true,Xr,Jz,Kk,Kj,X6,K9,Kd,Xp,Va,K8,X8,Vp,Km,J8,Kz,Vb,Ka,X9,Ju,X5,Jg,Jo,Jn,J6,Js,J4,Jr,Jm,J7,J5,Xj,Jt,Ki,Xl,Kl,K7,Xk,Kn,J0,Ob.fresh,Wu,W6,W5,Je,and_self,true_and,and_true,Jf,Xg,Vn,Yq,Vq,J9,okVar,Xd,Xh,false_and,decide_true,decide_false,Jk,Qq,Qo,Qp,Qe,Ql,Qi,Wf,Xi,Yn,Xt,Xm,Xn,Zu,Zy,Bu,Bt,Bs,Br,Zf,Kf,Jq,X7,Xq,Vk,J1,h1,h1',hxc,e1,e2,e3,e10,h5,Ga,Dh]
theorem Qya {H:List Ob} {s v:Value} {k b x l:Nat} {r nx:List Nat} (hk:k<8) (hl:nx.length=8) (hx:r[k]?=some x) (hx':x<4294967296) (ho:orderW[k]?=some l) (hb:b≤1) :
  Jv T H.length Ri (⟨[(0,s),(3,(.slice (some ⟨H.length,0,none⟩) 8 8)),(4,(.slice (some ⟨H.length+1,0,none⟩) 8 8)),(5,(.slice (some ⟨(H.length+2),0,none⟩) 8 8)),(6,v),(9,.int .u32 ((b:Nat))),(53,.int .i64 8),(54,.int .i64 ((k:Nat)))],H++[⟨Xu (r),true,true,true,1⟩,⟨Xu orderW,true,true,true,1⟩,⟨Xu (nx),true,true,true,1⟩],[]⟩:St)=some (.normal,(⟨[(0,s),(3,(.slice (some ⟨H.length,0,none⟩) 8 8)),(4,(.slice (some ⟨H.length+1,0,none⟩) 8 8)),(5,(.slice (some ⟨(H.length+2),0,none⟩) 8 8)),(6,v),(9,.int .u32 (((Qdc x l b:Nat):Int))),(53,.int .i64 8),(54,.int .i64 (((k+1:Nat):Int)))],H++[⟨Xu (r),true,true,true,1⟩,⟨Xu orderW,true,true,true,1⟩,⟨Xu (nx.set k (Qdb x l b)),true,true,true,1⟩],[]⟩:St)):=by
 have hxc:=Bp hx
 have hlc:=Bp ho
 have h1:((k:Int)<(8:Int)):=by omega
 have h1':((k:Int)<((8:Nat):Int)):=by omega
 have hsub:=Qid hx' (Qei l (Zp ho)) hb
 have e10:IntKind.i64.wrap ((k:Int)+1)=((k+1:Nat):Int):=Ym (n:=k+1) (by omega)
 have h5:k+1≤(Xu nx).length:=by rw [Bo,hl]; omega
 simp only [Ri,Z6,Kg,Ko,Vc,J2,Kp,Jx,Vd,Kh,Ve,guardOf,Z1,opd,Wt,V1,Vf,Env.get,Env.put,Yl,Q4,Zc,Zg,Ja,V2,Ke,Xc,St.after,Env.keep,if_true,if_false,ite_true,ite_false,We,Yh,unV,Ye,Vg,packed,reduceCtorEq,Z9,Jb,Z2,Qk,Qd,Qj,Zz,Zx,Z3,beq_self_eq_true,Xr,Jz,Kk,Kj,X6,K9,Kd,Xp,Va,K8,X8,Vp,Km,J8,Kz,Vb,Ka,X9,Ju,X5,Jg,Jo,Jn,J6,Js,J4,Jr,Jm,J7,J5,Xj,Jt,Ki,Xl,Kl,K7,Xk,Kn,J0,Ob.fresh,Wu,W6,W5,Je,and_self,true_and,and_true,Jf,Xg,Vn,Yq,Vq,J9,okVar,Xd,Xh,false_and,decide_true,decide_false,Jk,Qq,Qo,Qp,Qe,Ql,Qi,Wf,Xi,Yn,Xt,Xm,Xn,Zu,Zy,Bu,Bt,Bs,Br,Zf,Kf,Jq,X7,Xq,Vk,J1,h1,h1',hxc,hlc,hsub,e10,h5,Qn8,Dh]
theorem Qx2 {H:List Ob} {s v:Value} {c:Nat} {r nx:List Nat} (hl:r.length=8) (hr:∀ x∈r,x<4294967296) (hc:c≤1) :
  ∃ r' c',Jv T H.length (.block 2 (.loop Rh)) (⟨[(0,s),(3,(.slice (some ⟨H.length,0,none⟩) 8 8)),(4,(.slice (some ⟨H.length+1,0,none⟩) 8 8)),(5,(.slice (some ⟨(H.length+2),0,none⟩) 8 8)),(6,v),(7,.int .u32 ((c:Nat))),(32,.int .i64 8),(33,.int .i64 (0))],H++[⟨Xu (r),true,true,true,1⟩,⟨Xu orderW,true,true,true,1⟩,⟨Xu (nx),true,true,true,1⟩],[]⟩:St)=some (.normal,(⟨[(0,s),(3,(.slice (some ⟨H.length,0,none⟩) 8 8)),(4,(.slice (some ⟨H.length+1,0,none⟩) 8 8)),(5,(.slice (some ⟨(H.length+2),0,none⟩) 8 8)),(6,v),(7,.int .u32 ((c':Nat))),(32,.int .i64 8),(33,.int .i64 (8)),(34,.bool false)],H++[⟨Xu (r'),true,true,true,1⟩,⟨Xu orderW,true,true,true,1⟩,⟨Xu (nx),true,true,true,1⟩],[]⟩:St))∧ShInv 8 c r r' c':=by
 obtain ⟨s',hb,r',c',rfl,hinv⟩:=Yg (T:=T) (base:=H.length) (id:=2) (body:=Rh)
  (fun k s1=>∃ r' c',s1=(⟨[(0,s),(3,(.slice (some ⟨H.length,0,none⟩) 8 8)),(4,(.slice (some ⟨H.length+1,0,none⟩) 8 8)),(5,(.slice (some ⟨(H.length+2),0,none⟩) 8 8)),(6,v),(7,.int .u32 ((c':Nat))),(32,.int .i64 8),(33,.int .i64 ((k:Nat)))],H++[⟨Xu (r'),true,true,true,1⟩,⟨Xu orderW,true,true,true,1⟩,⟨Xu (nx),true,true,true,1⟩],[]⟩:St)∧ShInv k c r r' c')
  (Q:=fun s1=>∃ r' c',s1=(⟨[(0,s),(3,(.slice (some ⟨H.length,0,none⟩) 8 8)),(4,(.slice (some ⟨H.length+1,0,none⟩) 8 8)),(5,(.slice (some ⟨(H.length+2),0,none⟩) 8 8)),(6,v),(7,.int .u32 ((c':Nat))),(32,.int .i64 8),(33,.int .i64 (8)),(34,.bool false)],H++[⟨Xu (r'),true,true,true,1⟩,⟨Xu orderW,true,true,true,1⟩,⟨Xu (nx),true,true,true,1⟩],[]⟩:St)∧ShInv 8 c r r' c')
  8 (s:=(⟨[(0,s),(3,(.slice (some ⟨H.length,0,none⟩) 8 8)),(4,(.slice (some ⟨H.length+1,0,none⟩) 8 8)),(5,(.slice (some ⟨(H.length+2),0,none⟩) 8 8)),(6,v),(7,.int .u32 ((c:Nat))),(32,.int .i64 8),(33,.int .i64 (((0:Nat):Int)))],H++[⟨Xu (r),true,true,true,1⟩,⟨Xu orderW,true,true,true,1⟩,⟨Xu (nx),true,true,true,1⟩],[]⟩:St)) ⟨_,_,rfl,⟨hl,hr,hc,by simp [num],fun _ _=>rfl⟩⟩
  (fun k s1 hk hs=>by
   obtain ⟨r',c',rfl,hI⟩:=hs
   obtain ⟨x,hx⟩:∃ x,r'[k]?=some x:=⟨_,Q3 (by rw [hI.len]; omega)⟩
   exact ⟨_,Qx4 hk hI.len hx (hI.lt x (Zp hx)) hI.cle,_,_,rfl,hI.step hx⟩)
  (fun s1 hs=>by
   obtain ⟨r',c',rfl,hI⟩:=hs
   have h1:¬ (((8:Nat):Int)<(8:Int)):=by omega
   refine ⟨_,?_,r',c',rfl,hI⟩
   simp only [Rh,Z6,Kg,Ko,Vc,J2,Kp,Jx,Vd,Kh,Ve,guardOf,Z1,opd,Wt,V1,Vf,Env.get,Env.put,Yl,Q4,Zc,Zg,Ja,V2,Ke,Xc,St.after,Env.keep,if_true,if_false,ite_true,ite_false,We,Yh,unV,Ye,Vg,packed,reduceCtorEq,Z9,Jb,Z2,Qk,Qd,Qj,Zz,Zx,Z3,beq_self_eq_true,Xr,Jz,Kk,Kj,X6,K9,Kd,Xp,Va,K8,X8,Vp,Km,J8,Kz,Vb,Ka,X9,Ju,X5,Jg,Jo,Jn,J6,Js,J4,Jr,Jm,J7,J5,Xj,Jt,Ki,Xl,Kl,K7,Xk,Kn,J0,Ob.fresh,Wu,W6,W5,Je,and_self,true_and,and_true,Jf,Xg,Vn,Yq,Vq,J9,okVar,Xd,Xh,false_and,decide_true,decide_false,Jk,Qq,Qo,Qp,Qe,Ql,Qi,Wf,Xi,Yn,Xt,Xm,Xn,Zu,Zy,Bu,Bt,Bs,Br,Zf,Kf,Jq,X7,Xq,Vk,J1,h1]
   rfl)
 exact ⟨r',c',hb,hinv⟩
theorem Qx8 {H:List Ob} {s v:Value} {r nx:List Nat} (hl:r.length=8) (hr:∀ x∈r,x<4294967296) (hl2:nx.length=8) (hr2:∀ x∈nx,x<4294967296) :
  ∃ nx' b,Jv T H.length (.block 4 (.loop Ri)) (⟨[(0,s),(3,(.slice (some ⟨H.length,0,none⟩) 8 8)),(4,(.slice (some ⟨H.length+1,0,none⟩) 8 8)),(5,(.slice (some ⟨(H.length+2),0,none⟩) 8 8)),(6,v),(9,.int .u32 (0)),(53,.int .i64 8),(54,.int .i64 (0))],H++[⟨Xu (r),true,true,true,1⟩,⟨Xu orderW,true,true,true,1⟩,⟨Xu (nx),true,true,true,1⟩],[]⟩:St)=some (.normal,(⟨[(0,s),(3,(.slice (some ⟨H.length,0,none⟩) 8 8)),(4,(.slice (some ⟨H.length+1,0,none⟩) 8 8)),(5,(.slice (some ⟨(H.length+2),0,none⟩) 8 8)),(6,v),(9,.int .u32 ((b:Nat))),(53,.int .i64 8),(54,.int .i64 (8)),(55,.bool false)],H++[⟨Xu (r),true,true,true,1⟩,⟨Xu orderW,true,true,true,1⟩,⟨Xu (nx'),true,true,true,1⟩],[]⟩:St))∧SbInv 8 r nx' b:=by
 obtain ⟨s',hb,nx',b,rfl,hinv⟩:=Yg (T:=T) (base:=H.length) (id:=4) (body:=Ri)
  (fun k s1=>∃ nx' b,s1=(⟨[(0,s),(3,(.slice (some ⟨H.length,0,none⟩) 8 8)),(4,(.slice (some ⟨H.length+1,0,none⟩) 8 8)),(5,(.slice (some ⟨(H.length+2),0,none⟩) 8 8)),(6,v),(9,.int .u32 ((b:Nat))),(53,.int .i64 8),(54,.int .i64 ((k:Nat)))],H++[⟨Xu (r),true,true,true,1⟩,⟨Xu orderW,true,true,true,1⟩,⟨Xu (nx'),true,true,true,1⟩],[]⟩:St)∧SbInv k r nx' b)
  (Q:=fun s1=>∃ nx' b,s1=(⟨[(0,s),(3,(.slice (some ⟨H.length,0,none⟩) 8 8)),(4,(.slice (some ⟨H.length+1,0,none⟩) 8 8)),(5,(.slice (some ⟨(H.length+2),0,none⟩) 8 8)),(6,v),(9,.int .u32 ((b:Nat))),(53,.int .i64 8),(54,.int .i64 (8)),(55,.bool false)],H++[⟨Xu (r),true,true,true,1⟩,⟨Xu orderW,true,true,true,1⟩,⟨Xu (nx'),true,true,true,1⟩],[]⟩:St)∧SbInv 8 r nx' b)
  8 (s:=(⟨[(0,s),(3,(.slice (some ⟨H.length,0,none⟩) 8 8)),(4,(.slice (some ⟨H.length+1,0,none⟩) 8 8)),(5,(.slice (some ⟨(H.length+2),0,none⟩) 8 8)),(6,v),(9,.int .u32 (((0:Nat):Int))),(53,.int .i64 8),(54,.int .i64 (((0:Nat):Int)))],H++[⟨Xu (r),true,true,true,1⟩,⟨Xu orderW,true,true,true,1⟩,⟨Xu (nx),true,true,true,1⟩],[]⟩:St)) ⟨_,_,rfl,⟨hl2,hr2,by decide,by simp [num]⟩⟩
  (fun k s1 hk hs=>by
   obtain ⟨nx',b,rfl,hI⟩:=hs
   obtain ⟨x,hx⟩:∃ x,r[k]?=some x:=⟨_,Q3 (by omega)⟩
   obtain ⟨l,hlk⟩:∃ l,orderW[k]?=some l:=⟨_,Q3 (show k<orderW.length from hk)⟩
   exact ⟨_,Qya hk hI.len hx (hr x (Zp hx)) hlk hI.ble,_,_,rfl,hI.step hr hk hx hlk⟩)
  (fun s1 hs=>by
   obtain ⟨nx',b,rfl,hI⟩:=hs
   have h1:¬ (((8:Nat):Int)<(8:Int)):=by omega
   refine ⟨_,?_,nx',b,rfl,hI⟩
   simp only [Ri,Z6,Kg,Ko,Vc,J2,Kp,Jx,Vd,Kh,Ve,guardOf,Z1,opd,Wt,V1,Vf,Env.get,Env.put,Yl,Q4,Zc,Zg,Ja,V2,Ke,Xc,St.after,Env.keep,if_true,if_false,ite_true,ite_false,We,Yh,unV,Ye,Vg,packed,reduceCtorEq,Z9,Jb,Z2,Qk,Qd,Qj,Zz,Zx,Z3,beq_self_eq_true,Xr,Jz,Kk,Kj,X6,K9,Kd,Xp,Va,K8,X8,Vp,Km,J8,Kz,Vb,Ka,X9,Ju,X5,Jg,Jo,Jn,J6,Js,J4,Jr,Jm,J7,J5,Xj,Jt,Ki,Xl,Kl,K7,Xk,Kn,J0,Ob.fresh,Wu,W6,W5,Je,and_self,true_and,and_true,Jf,Xg,Vn,Yq,Vq,J9,okVar,Xd,Xh,false_and,decide_true,decide_false,Jk,Qq,Qo,Qp,Qe,Ql,Qi,Wf,Xi,Yn,Xt,Xm,Xn,Zu,Zy,Bu,Bt,Bs,Br,Zf,Kf,Jq,X7,Xq,Vk,J1,h1]
   rfl)
 exact ⟨nx',b,hb,hinv⟩
theorem Qx3 {H:List Ob} {s v:Value} {k c x:Nat} {r nx:List Nat} (hk:k<8) (hl:r.length=8) (hx:r[k]?=some x) (hx':x<4294967296) (hc:c≤1) :
  Jv T H.length Rh (⟨[(0,s),(3,(.slice (some ⟨(H.length+2),0,none⟩) 8 8)),(4,(.slice (some ⟨H.length+1,0,none⟩) 8 8)),(5,(.slice (some ⟨H.length,0,none⟩) 8 8)),(6,v),(7,.int .u32 ((c:Nat))),(32,.int .i64 8),(33,.int .i64 ((k:Nat)))],H++[⟨Xu (nx),true,true,true,1⟩,⟨Xu orderW,true,true,true,1⟩,⟨Xu (r),true,true,true,1⟩],[]⟩:St)=some (.normal,(⟨[(0,s),(3,(.slice (some ⟨(H.length+2),0,none⟩) 8 8)),(4,(.slice (some ⟨H.length+1,0,none⟩) 8 8)),(5,(.slice (some ⟨H.length,0,none⟩) 8 8)),(6,v),(7,.int .u32 (((x/2147483648:Nat):Int))),(32,.int .i64 8),(33,.int .i64 (((k+1:Nat):Int)))],H++[⟨Xu (nx),true,true,true,1⟩,⟨Xu orderW,true,true,true,1⟩,⟨Xu (r.set k ((2*x+c)%4294967296)),true,true,true,1⟩],[]⟩:St)):=by
 have hxc:=Bp hx
 have h1:((k:Int)<(8:Int)):=by omega
 have h1':((k:Int)<((8:Nat):Int)):=by omega
 have e1:IntKind.u32.wrap ((x:Int)*2^min 1 IntKind.u32.bits)=((2*x%4294967296:Nat):Int):=by
  rw [wrap_u32,show min 1 IntKind.u32.bits=1 from rfl]; omega
 have e2:Vo .or .u32 ((2*x%4294967296:Nat):Int) (c:Int)=(((2*x+c)%4294967296:Nat):Int):=by
  rw [Hl (k := .u32) (a:=2*x%4294967296) (b:=c) rfl (Jw _ (by decide)) (by show c<2^32; omega)]
  congr 1
  have h2:2*x%4294967296=2^1*(x%2147483648):=by omega
  rw [h2,←Hx (by omega:c<2^1)]
  omega
 have e3:Qa9 (x:Int) (2^min 31 IntKind.u32.bits)=((x/2147483648:Nat):Int):=by
  rw [Wn _ (by decide)]; rfl
 have e10:IntKind.i64.wrap ((k:Int)+1)=((k+1:Nat):Int):=Ym (n:=k+1) (by omega)
 have h5:k+1≤(Xu r).length:=by rw [Bo,hl]; omega
 simp only [Rh,Z6,Kg,Ko,Vc,J2,Kp,Jx,Vd,Kh,Ve,guardOf,Z1,opd,Wt,V1,Vf,Env.get,Env.put,Yl,Q4,Zc,Zg,Ja,V2,Ke,Xc,St.after,Env.keep,if_true,if_false,ite_true,ite_false,We,Yh,unV,Ye,Vg,packed,reduceCtorEq,Z9,Jb,Z2,Qk,Qd,Qj,Zz,Zx,Z3,beq_self_eq_true,Xr,Jz,Kk,Kj,X6,K9,Kd,Xp,Va,K8,X8,Vp,Km,J8,Kz,Vb,Ka,X9,Ju,X5,Jg,Jo,Jn,J6,Js,J4,Jr,Jm,J7,J5,Xj,Jt,Ki,Xl,Kl,K7,Xk,Kn,J0,Ob.fresh,Wu,W6,W5,Je,and_self,true_and,and_true,Jf,Xg,Vn,Yq,Vq,J9,okVar,Xd,Xh,false_and,decide_true,decide_false,Jk,Qq,Qo,Qp,Qe,Ql,Qi,Wf,Xi,Yn,Xt,Xm,Xn,Zu,Zy,Bu,Bt,Bs,Br,Zf,Kf,Jq,X7,Xq,Vk,J1,h1,h1',hxc,e1,e2,e3,e10,h5,Qn8,Dh]
theorem Qx9 {H:List Ob} {s v:Value} {k b x l:Nat} {r nx:List Nat} (hk:k<8) (hl:nx.length=8) (hx:r[k]?=some x) (hx':x<4294967296) (ho:orderW[k]?=some l) (hb:b≤1) :
  Jv T H.length Ri (⟨[(0,s),(3,(.slice (some ⟨(H.length+2),0,none⟩) 8 8)),(4,(.slice (some ⟨H.length+1,0,none⟩) 8 8)),(5,(.slice (some ⟨H.length,0,none⟩) 8 8)),(6,v),(9,.int .u32 ((b:Nat))),(53,.int .i64 8),(54,.int .i64 ((k:Nat)))],H++[⟨Xu (nx),true,true,true,1⟩,⟨Xu orderW,true,true,true,1⟩,⟨Xu (r),true,true,true,1⟩],[]⟩:St)=some (.normal,(⟨[(0,s),(3,(.slice (some ⟨(H.length+2),0,none⟩) 8 8)),(4,(.slice (some ⟨H.length+1,0,none⟩) 8 8)),(5,(.slice (some ⟨H.length,0,none⟩) 8 8)),(6,v),(9,.int .u32 (((Qdc x l b:Nat):Int))),(53,.int .i64 8),(54,.int .i64 (((k+1:Nat):Int)))],H++[⟨Xu (nx.set k (Qdb x l b)),true,true,true,1⟩,⟨Xu orderW,true,true,true,1⟩,⟨Xu (r),true,true,true,1⟩],[]⟩:St)):=by
 have hxc:=Bp hx
 have hlc:=Bp ho
 have h1:((k:Int)<(8:Int)):=by omega
 have h1':((k:Int)<((8:Nat):Int)):=by omega
 have hsub:=Qid hx' (Qei l (Zp ho)) hb
 have e10:IntKind.i64.wrap ((k:Int)+1)=((k+1:Nat):Int):=Ym (n:=k+1) (by omega)
 have h5:k+1≤(Xu nx).length:=by rw [Bo,hl]; omega
 simp only [Ri,Z6,Kg,Ko,Vc,J2,Kp,Jx,Vd,Kh,Ve,guardOf,Z1,opd,Wt,V1,Vf,Env.get,Env.put,Yl,Q4,Zc,Zg,Ja,V2,Ke,Xc,St.after,Env.keep,if_true,if_false,ite_true,ite_false,We,Yh,unV,Ye,Vg,packed,reduceCtorEq,Z9,Jb,Z2,Qk,Qd,Qj,Zz,Zx,Z3,beq_self_eq_true,Xr,Jz,Kk,Kj,X6,K9,Kd,Xp,Va,K8,X8,Vp,Km,J8,Kz,Vb,Ka,X9,Ju,X5,Jg,Jo,Jn,J6,Js,J4,Jr,Jm,J7,J5,Xj,Jt,Ki,Xl,Kl,K7,Xk,Kn,J0,Ob.fresh,Wu,W6,W5,Je,and_self,true_and,and_true,Jf,Xg,Vn,Yq,Vq,J9,okVar,Xd,Xh,false_and,decide_true,decide_false,Jk,Qq,Qo,Qp,Qe,Ql,Qi,Wf,Xi,Yn,Xt,Xm,Xn,Zu,Zy,Bu,Bt,Bs,Br,Zf,Kf,Jq,X7,Xq,Vk,J1,h1,h1',hxc,hlc,hsub,e10,h5,Ga,Dh]
theorem Qx1 {H:List Ob} {s v:Value} {c:Nat} {r nx:List Nat} (hl:r.length=8) (hr:∀ x∈r,x<4294967296) (hc:c≤1) :
  ∃ r' c',Jv T H.length (.block 2 (.loop Rh)) (⟨[(0,s),(3,(.slice (some ⟨(H.length+2),0,none⟩) 8 8)),(4,(.slice (some ⟨H.length+1,0,none⟩) 8 8)),(5,(.slice (some ⟨H.length,0,none⟩) 8 8)),(6,v),(7,.int .u32 ((c:Nat))),(32,.int .i64 8),(33,.int .i64 (0))],H++[⟨Xu (nx),true,true,true,1⟩,⟨Xu orderW,true,true,true,1⟩,⟨Xu (r),true,true,true,1⟩],[]⟩:St)=some (.normal,(⟨[(0,s),(3,(.slice (some ⟨(H.length+2),0,none⟩) 8 8)),(4,(.slice (some ⟨H.length+1,0,none⟩) 8 8)),(5,(.slice (some ⟨H.length,0,none⟩) 8 8)),(6,v),(7,.int .u32 ((c':Nat))),(32,.int .i64 8),(33,.int .i64 (8)),(34,.bool false)],H++[⟨Xu (nx),true,true,true,1⟩,⟨Xu orderW,true,true,true,1⟩,⟨Xu (r'),true,true,true,1⟩],[]⟩:St))∧ShInv 8 c r r' c':=by
 obtain ⟨s',hb,r',c',rfl,hinv⟩:=Yg (T:=T) (base:=H.length) (id:=2) (body:=Rh)
  (fun k s1=>∃ r' c',s1=(⟨[(0,s),(3,(.slice (some ⟨(H.length+2),0,none⟩) 8 8)),(4,(.slice (some ⟨H.length+1,0,none⟩) 8 8)),(5,(.slice (some ⟨H.length,0,none⟩) 8 8)),(6,v),(7,.int .u32 ((c':Nat))),(32,.int .i64 8),(33,.int .i64 ((k:Nat)))],H++[⟨Xu (nx),true,true,true,1⟩,⟨Xu orderW,true,true,true,1⟩,⟨Xu (r'),true,true,true,1⟩],[]⟩:St)∧ShInv k c r r' c')
  (Q:=fun s1=>∃ r' c',s1=(⟨[(0,s),(3,(.slice (some ⟨(H.length+2),0,none⟩) 8 8)),(4,(.slice (some ⟨H.length+1,0,none⟩) 8 8)),(5,(.slice (some ⟨H.length,0,none⟩) 8 8)),(6,v),(7,.int .u32 ((c':Nat))),(32,.int .i64 8),(33,.int .i64 (8)),(34,.bool false)],H++[⟨Xu (nx),true,true,true,1⟩,⟨Xu orderW,true,true,true,1⟩,⟨Xu (r'),true,true,true,1⟩],[]⟩:St)∧ShInv 8 c r r' c')
  8 (s:=(⟨[(0,s),(3,(.slice (some ⟨(H.length+2),0,none⟩) 8 8)),(4,(.slice (some ⟨H.length+1,0,none⟩) 8 8)),(5,(.slice (some ⟨H.length,0,none⟩) 8 8)),(6,v),(7,.int .u32 ((c:Nat))),(32,.int .i64 8),(33,.int .i64 (((0:Nat):Int)))],H++[⟨Xu (nx),true,true,true,1⟩,⟨Xu orderW,true,true,true,1⟩,⟨Xu (r),true,true,true,1⟩],[]⟩:St)) ⟨_,_,rfl,⟨hl,hr,hc,by simp [num],fun _ _=>rfl⟩⟩
  (fun k s1 hk hs=>by
   obtain ⟨r',c',rfl,hI⟩:=hs
   obtain ⟨x,hx⟩:∃ x,r'[k]?=some x:=⟨_,Q3 (by rw [hI.len]; omega)⟩
   exact ⟨_,Qx3 hk hI.len hx (hI.lt x (Zp hx)) hI.cle,_,_,rfl,hI.step hx⟩)
  (fun s1 hs=>by
   obtain ⟨r',c',rfl,hI⟩:=hs
   have h1:¬ (((8:Nat):Int)<(8:Int)):=by omega
   refine ⟨_,?_,r',c',rfl,hI⟩
   simp only [Rh,Z6,Kg,Ko,Vc,J2,Kp,Jx,Vd,Kh,Ve,guardOf,Z1,opd,Wt,V1,Vf,Env.get,Env.put,Yl,Q4,Zc,Zg,Ja,V2,Ke,Xc,St.after,Env.keep,if_true,if_false,ite_true,ite_false,We,Yh,unV,Ye,Vg,packed,reduceCtorEq,Z9,Jb,Z2,Qk,Qd,Qj,Zz,Zx,Z3,beq_self_eq_true,Xr,Jz,Kk,Kj,X6,K9,Kd,Xp,Va,K8,X8,Vp,Km,J8,Kz,Vb,Ka,X9,Ju,X5,Jg,Jo,Jn,J6,Js,J4,Jr,Jm,J7,J5,Xj,Jt,Ki,Xl,Kl,K7,Xk,Kn,J0,Ob.fresh,Wu,W6,W5,Je,and_self,true_and,and_true,Jf,Xg,Vn,Yq,Vq,J9,okVar,Xd,Xh,false_and,decide_true,decide_false,Jk,Qq,Qo,Qp,Qe,Ql,Qi,Wf,Xi,Yn,Xt,Xm,Xn,Zu,Zy,Bu,Bt,Bs,Br,Zf,Kf,Jq,X7,Xq,Vk,J1,h1]
   rfl)
 exact ⟨r',c',hb,hinv⟩
theorem Qx7 {H:List Ob} {s v:Value} {r nx:List Nat} (hl:r.length=8) (hr:∀ x∈r,x<4294967296) (hl2:nx.length=8) (hr2:∀ x∈nx,x<4294967296) :
  ∃ nx' b,Jv T H.length (.block 4 (.loop Ri)) (⟨[(0,s),(3,(.slice (some ⟨(H.length+2),0,none⟩) 8 8)),(4,(.slice (some ⟨H.length+1,0,none⟩) 8 8)),(5,(.slice (some ⟨H.length,0,none⟩) 8 8)),(6,v),(9,.int .u32 (0)),(53,.int .i64 8),(54,.int .i64 (0))],H++[⟨Xu (nx),true,true,true,1⟩,⟨Xu orderW,true,true,true,1⟩,⟨Xu (r),true,true,true,1⟩],[]⟩:St)=some (.normal,(⟨[(0,s),(3,(.slice (some ⟨(H.length+2),0,none⟩) 8 8)),(4,(.slice (some ⟨H.length+1,0,none⟩) 8 8)),(5,(.slice (some ⟨H.length,0,none⟩) 8 8)),(6,v),(9,.int .u32 ((b:Nat))),(53,.int .i64 8),(54,.int .i64 (8)),(55,.bool false)],H++[⟨Xu (nx'),true,true,true,1⟩,⟨Xu orderW,true,true,true,1⟩,⟨Xu (r),true,true,true,1⟩],[]⟩:St))∧SbInv 8 r nx' b:=by
 obtain ⟨s',hb,nx',b,rfl,hinv⟩:=Yg (T:=T) (base:=H.length) (id:=4) (body:=Ri)
  (fun k s1=>∃ nx' b,s1=(⟨[(0,s),(3,(.slice (some ⟨(H.length+2),0,none⟩) 8 8)),(4,(.slice (some ⟨H.length+1,0,none⟩) 8 8)),(5,(.slice (some ⟨H.length,0,none⟩) 8 8)),(6,v),(9,.int .u32 ((b:Nat))),(53,.int .i64 8),(54,.int .i64 ((k:Nat)))],H++[⟨Xu (nx'),true,true,true,1⟩,⟨Xu orderW,true,true,true,1⟩,⟨Xu (r),true,true,true,1⟩],[]⟩:St)∧SbInv k r nx' b)
  (Q:=fun s1=>∃ nx' b,s1=(⟨[(0,s),(3,(.slice (some ⟨(H.length+2),0,none⟩) 8 8)),(4,(.slice (some ⟨H.length+1,0,none⟩) 8 8)),(5,(.slice (some ⟨H.length,0,none⟩) 8 8)),(6,v),(9,.int .u32 ((b:Nat))),(53,.int .i64 8),(54,.int .i64 (8)),(55,.bool false)],H++[⟨Xu (nx'),true,true,true,1⟩,⟨Xu orderW,true,true,true,1⟩,⟨Xu (r),true,true,true,1⟩],[]⟩:St)∧SbInv 8 r nx' b)
  8 (s:=(⟨[(0,s),(3,(.slice (some ⟨(H.length+2),0,none⟩) 8 8)),(4,(.slice (some ⟨H.length+1,0,none⟩) 8 8)),(5,(.slice (some ⟨H.length,0,none⟩) 8 8)),(6,v),(9,.int .u32 (((0:Nat):Int))),(53,.int .i64 8),(54,.int .i64 (((0:Nat):Int)))],H++[⟨Xu (nx),true,true,true,1⟩,⟨Xu orderW,true,true,true,1⟩,⟨Xu (r),true,true,true,1⟩],[]⟩:St)) ⟨_,_,rfl,⟨hl2,hr2,by decide,by simp [num]⟩⟩
  (fun k s1 hk hs=>by
   obtain ⟨nx',b,rfl,hI⟩:=hs
   obtain ⟨x,hx⟩:∃ x,r[k]?=some x:=⟨_,Q3 (by omega)⟩
   obtain ⟨l,hlk⟩:∃ l,orderW[k]?=some l:=⟨_,Q3 (show k<orderW.length from hk)⟩
   exact ⟨_,Qx9 hk hI.len hx (hr x (Zp hx)) hlk hI.ble,_,_,rfl,hI.step hr hk hx hlk⟩)
  (fun s1 hs=>by
   obtain ⟨nx',b,rfl,hI⟩:=hs
   have h1:¬ (((8:Nat):Int)<(8:Int)):=by omega
   refine ⟨_,?_,nx',b,rfl,hI⟩
   simp only [Ri,Z6,Kg,Ko,Vc,J2,Kp,Jx,Vd,Kh,Ve,guardOf,Z1,opd,Wt,V1,Vf,Env.get,Env.put,Yl,Q4,Zc,Zg,Ja,V2,Ke,Xc,St.after,Env.keep,if_true,if_false,ite_true,ite_false,We,Yh,unV,Ye,Vg,packed,reduceCtorEq,Z9,Jb,Z2,Qk,Qd,Qj,Zz,Zx,Z3,beq_self_eq_true,Xr,Jz,Kk,Kj,X6,K9,Kd,Xp,Va,K8,X8,Vp,Km,J8,Kz,Vb,Ka,X9,Ju,X5,Jg,Jo,Jn,J6,Js,J4,Jr,Jm,J7,J5,Xj,Jt,Ki,Xl,Kl,K7,Xk,Kn,J0,Ob.fresh,Wu,W6,W5,Je,and_self,true_and,and_true,Jf,Xg,Vn,Yq,Vq,J9,okVar,Xd,Xh,false_and,decide_true,decide_false,Jk,Qq,Qo,Qp,Qe,Ql,Qi,Wf,Xi,Yn,Xt,Xm,Xn,Zu,Zy,Bu,Bt,Bs,Br,Zf,Kf,Jq,X7,Xq,Vk,J1,h1]
   rfl)
 exact ⟨nx',b,hb,hinv⟩
end Go.Ev.Ytpgphpkjlpkcbaa
namespace Go.Ev.Ytpgphpkjlpkcbaa
open Go Go.Ev
attribute [local congr] R7
set_option maxRecDepth 100000
structure RInv (V:Nat) (r nx:List Nat):Prop where
 len:r.length=8
 lt:∀ x∈r,x<4294967296
 len2:nx.length=8
 lt2:∀ x∈nx,x<4294967296
 eq:num 4294967296 r=V%ell
theorem Q4q:2*ell+1<4294967296^8:=by decide
theorem Qnf:0<ell:=by decide
theorem RInv.step {V c c' b:Nat} {r nx r' nx':List Nat} (h:RInv V r nx) (hc:c≤1) (h1:ShInv 8 c r r' c') (h2:SbInv 8 r' nx' b):(b=0→RInv (2*V+c) nx' r')∧(b≠0→RInv (2*V+c) r' nx'):=by
 have e1:=h1.eq
 have e2:=h2.eq
 have l1:=h.len
 have l2:=h1.len
 have l3:=h2.len
 rw [Zj (by omega)] at e1
 rw [Zj (by omega),Zj (show orderW.length≤8 from Zf _),Zj (by omega),Qt3] at e2
 have b1:=num_lt h1.lt
 have b2:=num_lt h2.lt
 rw [l2] at b1
 rw [l3] at b2
 have hp:=Q4q
 have hr:num 4294967296 r<ell:=by rw [h.eq]; exact Jw _ Qnf
 have hV:(2*V+c)%ell=(2*num 4294967296 r+c)%ell:=by
  rw [h.eq,Q9e,Tj,Q9e (2*(V%ell)),Tj 2 (V%ell),Tk]
 have hle:=h1.cle
 have hbe:=h2.ble
 generalize 4294967296^8=W at *
 have hc0:c'=0:=by
  rcases Yc 0 c' with hh | hh
  ·have:c'=1:=by omega
   subst this
   omega
  ·omega
 subst hc0
 generalize num 4294967296 r=x at *
 generalize hyy:num 4294967296 r'=y at *
 generalize hz:num 4294967296 nx'=z at *
 have hy:y=2*x+c:=by omega
 subst hy
 refine ⟨fun h0=>⟨l3,h2.lt,l2,h1.lt,?_⟩,fun h0=>⟨l2,h1.lt,l3,h2.lt,?_⟩⟩
 ·subst h0
  rw [hV,show 2*x+c=z+ell by omega,Nat.add_mod_right,Jd (by omega)]
  exact hz
 ·have:b=1:=by omega
  subst this
  have hlt:2*x+c<ell:=by omega
  rw [hV,Jd hlt]
  exact hyy
theorem Qrz {H:List Ob} {id off n cap i w V:Nat} {ws r nx:List Nat} (hr:Row .u32 H id off ws) (hn:ws.length=n) (hN:n<2^40) (hi:i<32*n) (hw:ws[i/32]?=some w) (hw':w<4294967296) (h:RInv V r nx) :
  ∃ r' nx',RInv (2*V+w/2^(i%32)%2) r' nx'∧(Jv T H.length Db (⟨[(0,(.slice (some ⟨id,off,none⟩) n cap)),(3,(.slice (some ⟨H.length,0,none⟩) 8 8)),(4,(.slice (some ⟨H.length+1,0,none⟩) 8 8)),(5,(.slice (some ⟨(H.length+2),0,none⟩) 8 8)),(6,.int .i64 ((i:Nat)))],H++[⟨Xu (r),true,true,true,1⟩,⟨Xu orderW,true,true,true,1⟩,⟨Xu (nx),true,true,true,1⟩],[]⟩:St)=some (.normal,(⟨[(0,(.slice (some ⟨id,off,none⟩) n cap)),(3,(.slice (some ⟨H.length,0,none⟩) 8 8)),(4,(.slice (some ⟨H.length+1,0,none⟩) 8 8)),(5,(.slice (some ⟨(H.length+2),0,none⟩) 8 8)),(6,.int .i64 ((i:Int)-1))],H++[⟨Xu (r'),true,true,true,1⟩,⟨Xu orderW,true,true,true,1⟩,⟨Xu (nx'),true,true,true,1⟩],[]⟩:St))∨Jv T H.length Db (⟨[(0,(.slice (some ⟨id,off,none⟩) n cap)),(3,(.slice (some ⟨H.length,0,none⟩) 8 8)),(4,(.slice (some ⟨H.length+1,0,none⟩) 8 8)),(5,(.slice (some ⟨(H.length+2),0,none⟩) 8 8)),(6,.int .i64 ((i:Nat)))],H++[⟨Xu (r),true,true,true,1⟩,⟨Xu orderW,true,true,true,1⟩,⟨Xu (nx),true,true,true,1⟩],[]⟩:St)=some (.normal,(⟨[(0,(.slice (some ⟨id,off,none⟩) n cap)),(3,(.slice (some ⟨(H.length+2),0,none⟩) 8 8)),(4,(.slice (some ⟨H.length+1,0,none⟩) 8 8)),(5,(.slice (some ⟨H.length,0,none⟩) 8 8)),(6,.int .i64 ((i:Int)-1))],H++[⟨Xu (nx'),true,true,true,1⟩,⟨Xu orderW,true,true,true,1⟩,⟨Xu (r'),true,true,true,1⟩],[]⟩:St))):=by
 have hc:w/2^(i%32)%2≤1:=by omega
 obtain ⟨r1,c1,hb1,i1⟩:=Qx2 (H:=H) (s:=(.slice (some ⟨id,off,none⟩) n cap)) (v := .int .i64 (i:Nat)) (nx:=nx) h.len h.lt hc
 obtain ⟨nx1,b,hb2,i2⟩:=Qx8 (H:=H) (s:=(.slice (some ⟨id,off,none⟩) n cap)) (v := .int .i64 (i:Nat)) (r:=r1) (nx:=nx) i1.len i1.lt h.len2 h.lt2
 obtain ⟨o,ho,hcell⟩:=hr
 have ho':=Gj (l:=[⟨Xu (r),true,true,true,1⟩,⟨Xu orderW,true,true,true,1⟩,⟨Xu (nx),true,true,true,1⟩]) ho
 have hwc:=hcell (i/32) w hw
 have h1:((i:Int)≥0):=by omega
 have h2:((i/32:Nat):Int)<(n:Int):=by omega
 have h4:¬ (((i%32:Nat):Int)<0):=by omega
 have e1:IntKind.i64.wrap ((i:Int).tdiv 32)=((i/32:Nat):Int):=Ym (n:=i/32) (by omega)
 have e2:((i:Int).tmod 32)=((i%32:Nat):Int):=rfl
 have e3:Qa9 (w:Int) (2^min (i%32) IntKind.u32.bits)=((w/2^(i%32):Nat):Int):=by
  rw [Kx (by show _≤32; omega),Wn _ (Q5q (Q9g (by decide)))]; simp
 have e4:Vo .and .u32 ((w/2^(i%32):Nat):Int) 1=((w/2^(i%32)%2:Nat):Int):=by
  rw [show (1:Int)=((1:Nat):Int) from rfl,Rf (k := .u32) (a:=w/2^(i%32)) (b:=1) rfl (Be (Gf _ _) hw') (by decide),Nat.and_one_is_mod]
 have e5:IntKind.i64.wrap ((i:Int)-1)=(i:Int)-1:=Yd (by omega) (by omega)
 have e8:((8:Nat):Int)=8:=rfl
 have hst:=h.step hc i1 i2
 generalize w/2^(i%32)%2=c at *
 by_cases hb0:b=0
 ·subst hb0
  have e6:(((0:Nat):Int)==0)=true:=rfl
  refine ⟨nx1,r1,hst.1 rfl,.inr ?_⟩
  simp only [Db,Z6,Kg,Ko,Vc,J2,Kp,Jx,Vd,Kh,Ve,guardOf,Z1,opd,Wt,V1,Vf,Env.get,Env.put,Yl,Q4,Zc,Zg,Ja,V2,Ke,Xc,St.after,Env.keep,if_true,if_false,ite_true,ite_false,We,Yh,unV,Ye,Vg,packed,reduceCtorEq,Z9,Jb,Z2,Qk,Qd,Qj,Zz,Zx,Z3,beq_self_eq_true,Xr,Jz,Kk,Kj,X6,K9,Kd,Xp,Va,K8,X8,Vp,Km,J8,Kz,Vb,Ka,X9,Ju,X5,Jg,Jo,Jn,J6,Js,J4,Jr,Jm,J7,J5,Xj,Jt,Ki,Xl,Kl,K7,Xk,Kn,J0,Ob.fresh,Wu,W6,W5,Je,and_self,true_and,and_true,Jf,Xg,Vn,Yq,Vq,J9,okVar,Xd,Xh,false_and,decide_true,decide_false,Jk,Qq,Qo,Qp,Qe,Ql,Qi,Wf,Xi,Yn,Xt,Xm,Xn,Zu,Zy,Bu,Bt,Bs,Br,Zf,Kf,Jq,X7,Xq,Vk,J1,h1,h2,h4,ho',hwc,e1,e2,e3,e4,e5,e6,e8,hb1,hb2]
 ·have hb1':b=1:=by have:=i2.ble; omega
  subst hb1'
  have e6:(((1:Nat):Int)==0)=false:=rfl
  refine ⟨r1,nx1,hst.2 (by decide),.inl ?_⟩
  simp only [Db,Z6,Kg,Ko,Vc,J2,Kp,Jx,Vd,Kh,Ve,guardOf,Z1,opd,Wt,V1,Vf,Env.get,Env.put,Yl,Q4,Zc,Zg,Ja,V2,Ke,Xc,St.after,Env.keep,if_true,if_false,ite_true,ite_false,We,Yh,unV,Ye,Vg,packed,reduceCtorEq,Z9,Jb,Z2,Qk,Qd,Qj,Zz,Zx,Z3,beq_self_eq_true,Xr,Jz,Kk,Kj,X6,K9,Kd,Xp,Va,K8,X8,Vp,Km,J8,Kz,Vb,Ka,X9,Ju,X5,Jg,Jo,Jn,J6,Js,J4,Jr,Jm,J7,J5,Xj,Jt,Ki,Xl,Kl,K7,Xk,Kn,J0,Ob.fresh,Wu,W6,W5,Je,and_self,true_and,and_true,Jf,Xg,Vn,Yq,Vq,J9,okVar,Xd,Xh,false_and,decide_true,decide_false,Jk,Qq,Qo,Qp,Qe,Ql,Qi,Wf,Xi,Yn,Xt,Xm,Xn,Zu,Zy,Bu,Bt,Bs,Br,Zf,Kf,Jq,X7,Xq,Vk,J1,h1,h2,h4,ho',hwc,e1,e2,e3,e4,e5,e6,e8,hb1,hb2]
theorem Qry {H:List Ob} {id off n cap i w V:Nat} {ws r nx:List Nat} (hr:Row .u32 H id off ws) (hn:ws.length=n) (hN:n<2^40) (hi:i<32*n) (hw:ws[i/32]?=some w) (hw':w<4294967296) (h:RInv V r nx) :
  ∃ r' nx',RInv (2*V+w/2^(i%32)%2) r' nx'∧(Jv T H.length Db (⟨[(0,(.slice (some ⟨id,off,none⟩) n cap)),(3,(.slice (some ⟨(H.length+2),0,none⟩) 8 8)),(4,(.slice (some ⟨H.length+1,0,none⟩) 8 8)),(5,(.slice (some ⟨H.length,0,none⟩) 8 8)),(6,.int .i64 ((i:Nat)))],H++[⟨Xu (nx),true,true,true,1⟩,⟨Xu orderW,true,true,true,1⟩,⟨Xu (r),true,true,true,1⟩],[]⟩:St)=some (.normal,(⟨[(0,(.slice (some ⟨id,off,none⟩) n cap)),(3,(.slice (some ⟨(H.length+2),0,none⟩) 8 8)),(4,(.slice (some ⟨H.length+1,0,none⟩) 8 8)),(5,(.slice (some ⟨H.length,0,none⟩) 8 8)),(6,.int .i64 ((i:Int)-1))],H++[⟨Xu (nx'),true,true,true,1⟩,⟨Xu orderW,true,true,true,1⟩,⟨Xu (r'),true,true,true,1⟩],[]⟩:St))∨Jv T H.length Db (⟨[(0,(.slice (some ⟨id,off,none⟩) n cap)),(3,(.slice (some ⟨(H.length+2),0,none⟩) 8 8)),(4,(.slice (some ⟨H.length+1,0,none⟩) 8 8)),(5,(.slice (some ⟨H.length,0,none⟩) 8 8)),(6,.int .i64 ((i:Nat)))],H++[⟨Xu (nx),true,true,true,1⟩,⟨Xu orderW,true,true,true,1⟩,⟨Xu (r),true,true,true,1⟩],[]⟩:St)=some (.normal,(⟨[(0,(.slice (some ⟨id,off,none⟩) n cap)),(3,(.slice (some ⟨H.length,0,none⟩) 8 8)),(4,(.slice (some ⟨H.length+1,0,none⟩) 8 8)),(5,(.slice (some ⟨(H.length+2),0,none⟩) 8 8)),(6,.int .i64 ((i:Int)-1))],H++[⟨Xu (r'),true,true,true,1⟩,⟨Xu orderW,true,true,true,1⟩,⟨Xu (nx'),true,true,true,1⟩],[]⟩:St))):=by
 have hc:w/2^(i%32)%2≤1:=by omega
 obtain ⟨r1,c1,hb1,i1⟩:=Qx1 (H:=H) (s:=(.slice (some ⟨id,off,none⟩) n cap)) (v := .int .i64 (i:Nat)) (nx:=nx) h.len h.lt hc
 obtain ⟨nx1,b,hb2,i2⟩:=Qx7 (H:=H) (s:=(.slice (some ⟨id,off,none⟩) n cap)) (v := .int .i64 (i:Nat)) (r:=r1) (nx:=nx) i1.len i1.lt h.len2 h.lt2
 obtain ⟨o,ho,hcell⟩:=hr
 have ho':=Gj (l:=[⟨Xu (nx),true,true,true,1⟩,⟨Xu orderW,true,true,true,1⟩,⟨Xu (r),true,true,true,1⟩]) ho
 have hwc:=hcell (i/32) w hw
 have h1:((i:Int)≥0):=by omega
 have h2:((i/32:Nat):Int)<(n:Int):=by omega
 have h4:¬ (((i%32:Nat):Int)<0):=by omega
 have e1:IntKind.i64.wrap ((i:Int).tdiv 32)=((i/32:Nat):Int):=Ym (n:=i/32) (by omega)
 have e2:((i:Int).tmod 32)=((i%32:Nat):Int):=rfl
 have e3:Qa9 (w:Int) (2^min (i%32) IntKind.u32.bits)=((w/2^(i%32):Nat):Int):=by
  rw [Kx (by show _≤32; omega),Wn _ (Q5q (Q9g (by decide)))]; simp
 have e4:Vo .and .u32 ((w/2^(i%32):Nat):Int) 1=((w/2^(i%32)%2:Nat):Int):=by
  rw [show (1:Int)=((1:Nat):Int) from rfl,Rf (k := .u32) (a:=w/2^(i%32)) (b:=1) rfl (Be (Gf _ _) hw') (by decide),Nat.and_one_is_mod]
 have e5:IntKind.i64.wrap ((i:Int)-1)=(i:Int)-1:=Yd (by omega) (by omega)
 have e8:((8:Nat):Int)=8:=rfl
 have hst:=h.step hc i1 i2
 generalize w/2^(i%32)%2=c at *
 by_cases hb0:b=0
 ·subst hb0
  have e6:(((0:Nat):Int)==0)=true:=rfl
  refine ⟨nx1,r1,hst.1 rfl,.inr ?_⟩
  simp only [Db,Z6,Kg,Ko,Vc,J2,Kp,Jx,Vd,Kh,Ve,guardOf,Z1,opd,Wt,V1,Vf,Env.get,Env.put,Yl,Q4,Zc,Zg,Ja,V2,Ke,Xc,St.after,Env.keep,if_true,if_false,ite_true,ite_false,We,Yh,unV,Ye,Vg,packed,reduceCtorEq,Z9,Jb,Z2,Qk,Qd,Qj,Zz,Zx,Z3,beq_self_eq_true,Xr,Jz,Kk,Kj,X6,K9,Kd,Xp,Va,K8,X8,Vp,Km,J8,Kz,Vb,Ka,X9,Ju,X5,Jg,Jo,Jn,J6,Js,J4,Jr,Jm,J7,J5,Xj,Jt,Ki,Xl,Kl,K7,Xk,Kn,J0,Ob.fresh,Wu,W6,W5,Je,and_self,true_and,and_true,Jf,Xg,Vn,Yq,Vq,J9,okVar,Xd,Xh,false_and,decide_true,decide_false,Jk,Qq,Qo,Qp,Qe,Ql,Qi,Wf,Xi,Yn,Xt,Xm,Xn,Zu,Zy,Bu,Bt,Bs,Br,Zf,Kf,Jq,X7,Xq,Vk,J1,h1,h2,h4,ho',hwc,e1,e2,e3,e4,e5,e6,e8,hb1,hb2]
 ·have hb1':b=1:=by have:=i2.ble; omega
  subst hb1'
  have e6:(((1:Nat):Int)==0)=false:=rfl
  refine ⟨r1,nx1,hst.2 (by decide),.inl ?_⟩
  simp only [Db,Z6,Kg,Ko,Vc,J2,Kp,Jx,Vd,Kh,Ve,guardOf,Z1,opd,Wt,V1,Vf,Env.get,Env.put,Yl,Q4,Zc,Zg,Ja,V2,Ke,Xc,St.after,Env.keep,if_true,if_false,ite_true,ite_false,We,Yh,unV,Ye,Vg,packed,reduceCtorEq,Z9,Jb,Z2,Qk,Qd,Qj,Zz,Zx,Z3,beq_self_eq_true,Xr,Jz,Kk,Kj,X6,K9,Kd,Xp,Va,K8,X8,Vp,Km,J8,Kz,Vb,Ka,X9,Ju,X5,Jg,Jo,Jn,J6,Js,J4,Jr,Jm,J7,J5,Xj,Jt,Ki,Xl,Kl,K7,Xk,Kn,J0,Ob.fresh,Wu,W6,W5,Je,and_self,true_and,and_true,Jf,Xg,Vn,Yq,Vq,J9,okVar,Xd,Xh,false_and,decide_true,decide_false,Jk,Qq,Qo,Qp,Qe,Ql,Qi,Wf,Xi,Yn,Xt,Xm,Xn,Zu,Zy,Bu,Bt,Bs,Br,Zf,Kf,Jq,X7,Xq,Vk,J1,h1,h2,h4,ho',hwc,e1,e2,e3,e4,e5,e6,e8,hb1,hb2]
def Qi3 (H:List Ob) (s:Value) (p:Bool) (v:Int) (r nx:List Nat):St:=match p with
 | false=>(⟨[(0,s),(3,(.slice (some ⟨H.length,0,none⟩) 8 8)),(4,(.slice (some ⟨H.length+1,0,none⟩) 8 8)),(5,(.slice (some ⟨(H.length+2),0,none⟩) 8 8)),(6,.int .i64 (v))],H++[⟨Xu (r),true,true,true,1⟩,⟨Xu orderW,true,true,true,1⟩,⟨Xu (nx),true,true,true,1⟩],[]⟩:St)
 | true=>(⟨[(0,s),(3,(.slice (some ⟨(H.length+2),0,none⟩) 8 8)),(4,(.slice (some ⟨H.length+1,0,none⟩) 8 8)),(5,(.slice (some ⟨H.length,0,none⟩) 8 8)),(6,.int .i64 (v))],H++[⟨Xu (nx),true,true,true,1⟩,⟨Xu orderW,true,true,true,1⟩,⟨Xu (r),true,true,true,1⟩],[]⟩:St)
def Qi4 (H:List Ob) (s:Value) (p:Bool) (r nx:List Nat):St:=match p with
 | false=>(⟨[(0,s),(3,(.slice (some ⟨H.length,0,none⟩) 8 8)),(4,(.slice (some ⟨H.length+1,0,none⟩) 8 8)),(5,(.slice (some ⟨(H.length+2),0,none⟩) 8 8)),(6,.int .i64 (-1)),(19,.bool false)],H++[⟨Xu (r),true,true,true,1⟩,⟨Xu orderW,true,true,true,1⟩,⟨Xu (nx),true,true,true,1⟩],[]⟩:St)
 | true=>(⟨[(0,s),(3,(.slice (some ⟨(H.length+2),0,none⟩) 8 8)),(4,(.slice (some ⟨H.length+1,0,none⟩) 8 8)),(5,(.slice (some ⟨H.length,0,none⟩) 8 8)),(6,.int .i64 (-1)),(19,.bool false)],H++[⟨Xu (nx),true,true,true,1⟩,⟨Xu orderW,true,true,true,1⟩,⟨Xu (r),true,true,true,1⟩],[]⟩:St)
theorem Qvl {H:List Ob} {id off n cap i w V:Nat} {ws r nx:List Nat} (p:Bool) (hr:Row .u32 H id off ws) (hn:ws.length=n) (hN:n<2^40) (hi:i<32*n) (hw:ws[i/32]?=some w) (hw':w<4294967296) (h:RInv V r nx) :
  ∃ q r' nx',RInv (2*V+w/2^(i%32)%2) r' nx'∧Jv T H.length Db (Qi3 H (.slice (some ⟨id,off,none⟩) n cap) p (i:Nat) r nx)=some (.normal,Qi3 H (.slice (some ⟨id,off,none⟩) n cap) q ((i:Int)-1) r' nx'):=by
 cases p with
 | false =>
  obtain ⟨r',nx',h1,h2⟩:=Qrz (cap:=cap) hr hn hN hi hw hw' h
  rcases h2 with h2 | h2
  ·exact ⟨false,r',nx',h1,h2⟩
  ·exact ⟨true,r',nx',h1,h2⟩
 | true =>
  obtain ⟨r',nx',h1,h2⟩:=Qry (cap:=cap) hr hn hN hi hw hw' h
  rcases h2 with h2 | h2
  ·exact ⟨true,r',nx',h1,h2⟩
  ·exact ⟨false,r',nx',h1,h2⟩
theorem Q76 {ws:List Nat} {i w:Nat} (hws:∀ x∈ws,x<4294967296) (hw:ws[i/32]?=some w):2*(num 4294967296 ws/2^(i+1))+w/2^(i%32)%2=num 4294967296 ws/2^i:=by
 have h1:=Dz (B:=4294967296) (by decide) hws hw
 generalize num 4294967296 ws=v at *
 have h2:w/2^(i%32)%2=v/2^i%2:=by
  have e1:(4294967296:Nat)^(i/32)=2^(32*(i/32)):=by rw [show (4294967296:Nat)=2^32 from rfl,←Y0]
  rw [←h1,e1]
  have e2:(2:Nat)^i=2^(32*(i/32))*2^(i%32):=by rw [←Ww]; congr 1; omega
  rw [e2,←Yu]
  generalize v/2^(32*(i/32))=u
  have e3:(4294967296:Nat)=2^(i%32)*2^(32-i%32):=by rw [←Ww]; rw [show i%32+(32-i%32)=32 by omega]
  rw [e3,Qa6,D9]
  exact ⟨2^(31-i%32),by rw [←Qqu]; congr 1; omega⟩
 rw [h2,V0,←Yu]
 omega
theorem Qr0 {H:List Ob} {id off n cap:Nat} {ws:List Nat} (hr:Row .u32 H id off ws) (hn:ws.length=n) (hn0:0<n) (hN:n<2^40) (hws:∀ x∈ws,x<4294967296) :
  ∃ k l,Vv T 60 [.slice (some ⟨id,off,none⟩) n cap] H=some (.slice (some ⟨k,0,none⟩) 8 8,H++l,[])∧Row .u32 (H++l) k 0 (dig 4294967296 8 (num 4294967296 ws%ell)):=by
 have h0:RInv (num 4294967296 ws/2^(32*n)) (dig 4294967296 8 0) (dig 4294967296 8 0):=by
  refine ⟨Vs _ _ _,fun x hx=>Hd (by decide) hx,Vs _ _ _,fun x hx=>Hd (by decide) hx,?_⟩
  have h1:=num_lt hws
  rw [hn,show (4294967296:Nat)=2^32 from rfl,←Y0] at h1
  rw [Bb (by decide),show (4294967296:Nat)=2^32 from rfl,Un h1]
  simp
 obtain ⟨s',hb,q,r,nx,rfl,hinv⟩:=Yg (T:=T) (base:=H.length) (id:=0) (body:=Db)
  (fun j s=>∃ p r nx,s=Qi3 H (.slice (some ⟨id,off,none⟩) n cap) p (((32*n-j:Nat):Int)-1) r nx∧RInv (num 4294967296 ws/2^(32*n-j)) r nx)
  (Q:=fun s=>∃ p r nx,s=Qi4 H (.slice (some ⟨id,off,none⟩) n cap) p r nx∧RInv (num 4294967296 ws) r nx)
  (32*n) (s:=Qi3 H (.slice (some ⟨id,off,none⟩) n cap) false (((32*n-0:Nat):Int)-1) (dig 4294967296 8 0) (dig 4294967296 8 0)) ⟨false,_,_,rfl,h0⟩
  (fun j s hj hs=>by
   obtain ⟨p,r,nx,rfl,hI⟩:=hs
   obtain ⟨i,hi⟩:∃ i,32*n-j=i+1:=⟨32*n-j-1,by omega⟩
   obtain ⟨w,hw⟩:∃ w,ws[i/32]?=some w:=⟨_,Q3 (by omega)⟩
   rw [hi] at hI
   obtain ⟨q,r',nx',g1,g2⟩:=Qvl (cap:=cap) p hr hn hN (by omega) hw (hws w (Zp hw)) hI
   rw [Q76 hws hw] at g1
   refine ⟨_,?_,q,r',nx',rfl,by rw [show 32*n-(j+1)=i by omega]; exact g1⟩
   rw [hi,show 32*n-(j+1)=i by omega,show (((i+1:Nat):Int)-1)=(i:Nat) by omega]
   exact g2)
  (fun s hs=>by
   obtain ⟨p,r,nx,rfl,hI⟩:=hs
   rw [Jc,Ug,U8] at hI
   refine ⟨_,?_,p,r,nx,rfl,hI⟩
   rw [Jc]
   have h1:¬ ((-1:Int)≥0):=by decide
   cases p with
   | false =>
    rw [show Qi3 H (.slice (some ⟨id,off,none⟩) n cap) false (((0:Nat):Int)-1) r nx=(⟨[(0,.slice (some ⟨id,off,none⟩) n cap),(3,(.slice (some ⟨H.length,0,none⟩) 8 8)),(4,(.slice (some ⟨H.length+1,0,none⟩) 8 8)),(5,(.slice (some ⟨(H.length+2),0,none⟩) 8 8)),(6,.int .i64 (-1))],H++[⟨Xu (r),true,true,true,1⟩,⟨Xu orderW,true,true,true,1⟩,⟨Xu (nx),true,true,true,1⟩],[]⟩:St) from rfl]
    simp only [Db,Z6,Kg,Ko,Vc,J2,Kp,Jx,Vd,Kh,Ve,guardOf,Z1,opd,Wt,V1,Vf,Env.get,Env.put,Yl,Q4,Zc,Zg,Ja,V2,Ke,Xc,St.after,Env.keep,if_true,if_false,ite_true,ite_false,We,Yh,unV,Ye,Vg,packed,reduceCtorEq,Z9,Jb,Z2,Qk,Qd,Qj,Zz,Zx,Z3,beq_self_eq_true,Xr,Jz,Kk,Kj,X6,K9,Kd,Xp,Va,K8,X8,Vp,Km,J8,Kz,Vb,Ka,X9,Ju,X5,Jg,Jo,Jn,J6,Js,J4,Jr,Jm,J7,J5,Xj,Jt,Ki,Xl,Kl,K7,Xk,Kn,J0,Ob.fresh,Wu,W6,W5,Je,and_self,true_and,and_true,Jf,Xg,Vn,Yq,Vq,J9,okVar,Xd,Xh,false_and,decide_true,decide_false,Jk,Qq,Qo,Qp,Qe,Ql,Qi,Wf,Xi,Yn,Xt,Xm,Xn,Zu,Zy,Bu,Bt,Bs,Br,Zf,Kf,Jq,X7,Xq,Vk,J1,h1,Qi4]
   | true =>
    rw [show Qi3 H (.slice (some ⟨id,off,none⟩) n cap) true (((0:Nat):Int)-1) r nx=(⟨[(0,.slice (some ⟨id,off,none⟩) n cap),(3,(.slice (some ⟨(H.length+2),0,none⟩) 8 8)),(4,(.slice (some ⟨H.length+1,0,none⟩) 8 8)),(5,(.slice (some ⟨H.length,0,none⟩) 8 8)),(6,.int .i64 (-1))],H++[⟨Xu (nx),true,true,true,1⟩,⟨Xu orderW,true,true,true,1⟩,⟨Xu (r),true,true,true,1⟩],[]⟩:St) from rfl]
    simp only [Db,Z6,Kg,Ko,Vc,J2,Kp,Jx,Vd,Kh,Ve,guardOf,Z1,opd,Wt,V1,Vf,Env.get,Env.put,Yl,Q4,Zc,Zg,Ja,V2,Ke,Xc,St.after,Env.keep,if_true,if_false,ite_true,ite_false,We,Yh,unV,Ye,Vg,packed,reduceCtorEq,Z9,Jb,Z2,Qk,Qd,Qj,Zz,Zx,Z3,beq_self_eq_true,Xr,Jz,Kk,Kj,X6,K9,Kd,Xp,Va,K8,X8,Vp,Km,J8,Kz,Vb,Ka,X9,Ju,X5,Jg,Jo,Jn,J6,Js,J4,Jr,Jm,J7,J5,Xj,Jt,Ki,Xl,Kl,K7,Xk,Kn,J0,Ob.fresh,Wu,W6,W5,Je,and_self,true_and,and_true,Jf,Xg,Vn,Yq,Vq,J9,okVar,Xd,Xh,false_and,decide_true,decide_false,Jk,Qq,Qo,Qp,Qe,Ql,Qi,Wf,Xi,Yn,Xt,Xm,Xn,Zu,Zy,Bu,Bt,Bs,Br,Zf,Kf,Jq,X7,Xq,Vk,J1,h1,Qi4])
 obtain ⟨m,hm⟩:∃ m:Int,m=((32*n-0:Nat):Int)-1:=⟨_,rfl⟩
 rw [←hm,show Qi3 H (.slice (some ⟨id,off,none⟩) n cap) false m (dig 4294967296 8 0) (dig 4294967296 8 0)=(⟨[(0,.slice (some ⟨id,off,none⟩) n cap),(3,(.slice (some ⟨H.length,0,none⟩) 8 8)),(4,(.slice (some ⟨H.length+1,0,none⟩) 8 8)),(5,(.slice (some ⟨(H.length+2),0,none⟩) 8 8)),(6,.int .i64 (m))],H++[⟨Xu (dig 4294967296 8 0),true,true,true,1⟩,⟨Xu orderW,true,true,true,1⟩,⟨Xu (dig 4294967296 8 0),true,true,true,1⟩],[]⟩:St) from rfl] at hb
 have e1:IntKind.i64.wrap (IntKind.i64.wrap (32*(n:Int))-1)=m:=by rw [Yd (x:=32*(n:Int)) (by omega) (by omega),Yd (by omega) (by omega)]; omega
 have h1:((8:Int)*((4:Nat):Int)≤2^47):=by decide
 have h2:(0:Nat)<4:=by decide
 have h3:((0:Int)≤8):=by decide
 have hz:Qa 8 (Value.int .u32 0)=Xu (dig 4294967296 8 0):=rfl
 have horder:=Qiz (H++[⟨Xu (dig 4294967296 8 0),true,true,true,1⟩])
 simp only [Za,Zx,Z3,Zz,Zw,Zg,Zc,Ob.fresh] at horder
 have hdig:r=dig 4294967296 8 (num 4294967296 ws%ell):=by rw [←hinv.eq,←hinv.len,Qat (by decide) hinv.lt]
 cases q with
 | false =>
  refine ⟨H.length,[⟨Xu r,true,true,true,1⟩,⟨Xu orderW,true,true,true,1⟩,⟨Xu nx,true,true,true,1⟩],?_,?_⟩
  ·rw [Z5 (fn:=a41) rfl]
   simp only [a41,Z6,Kg,Ko,Vc,J2,Kp,Jx,Vd,Kh,Ve,guardOf,Z1,opd,Wt,V1,Vf,Env.get,Env.put,Yl,Q4,Zc,Zg,Ja,V2,Ke,Xc,St.after,Env.keep,if_true,if_false,ite_true,ite_false,We,Yh,unV,Ye,Vg,packed,reduceCtorEq,Z9,Jb,Z2,Qk,Qd,Qj,Zz,Zx,Z3,beq_self_eq_true,Xr,Jz,Kk,Kj,X6,K9,Kd,Xp,Va,K8,X8,Vp,Km,J8,Kz,Vb,Ka,X9,Ju,X5,Jg,Jo,Jn,J6,Js,J4,Jr,Jm,J7,J5,Xj,Jt,Ki,Xl,Kl,K7,Xk,Kn,J0,Ob.fresh,Wu,W6,W5,Je,and_self,true_and,and_true,Jf,Xg,Vn,Yq,Vq,J9,okVar,Xd,Xh,false_and,decide_true,decide_false,Jk,Qq,Qo,Qp,Qe,Ql,Qi,Wf,Xi,Yn,Xt,Xm,Xn,Zu,Zy,Bu,Bt,Bs,Br,Zf,Kf,Jq,X7,Xq,Vk,J1,e1,h1,h2,h3,Kf,T1,hz,horder,Za,Zw,hb,Qi4]
  ·exact ⟨_,Wu,fun i x hx=>by rw [Zz]; exact Bp (by rw [hdig]; exact hx)⟩
 | true =>
  refine ⟨H.length+2,[⟨Xu nx,true,true,true,1⟩,⟨Xu orderW,true,true,true,1⟩,⟨Xu r,true,true,true,1⟩],?_,?_⟩
  ·rw [Z5 (fn:=a41) rfl]
   simp only [a41,Z6,Kg,Ko,Vc,J2,Kp,Jx,Vd,Kh,Ve,guardOf,Z1,opd,Wt,V1,Vf,Env.get,Env.put,Yl,Q4,Zc,Zg,Ja,V2,Ke,Xc,St.after,Env.keep,if_true,if_false,ite_true,ite_false,We,Yh,unV,Ye,Vg,packed,reduceCtorEq,Z9,Jb,Z2,Qk,Qd,Qj,Zz,Zx,Z3,beq_self_eq_true,Xr,Jz,Kk,Kj,X6,K9,Kd,Xp,Va,K8,X8,Vp,Km,J8,Kz,Vb,Ka,X9,Ju,X5,Jg,Jo,Jn,J6,Js,J4,Jr,Jm,J7,J5,Xj,Jt,Ki,Xl,Kl,K7,Xk,Kn,J0,Ob.fresh,Wu,W6,W5,Je,and_self,true_and,and_true,Jf,Xg,Vn,Yq,Vq,J9,okVar,Xd,Xh,false_and,decide_true,decide_false,Jk,Qq,Qo,Qp,Qe,Ql,Qi,Wf,Xi,Yn,Xt,Xm,Xn,Zu,Zy,Bu,Bt,Bs,Br,Zf,Kf,Jq,X7,Xq,Vk,J1,e1,h1,h2,h3,Kf,T1,hz,horder,Za,Zw,hb,Qi4]
  ·exact ⟨_,W5,fun i x hx=>by rw [Zz]; exact Bp (by rw [hdig]; exact hx)⟩
theorem Qah {cs v:List Value} (h:v.length=cs.length):splice cs 0 v=v:=by
 rw [Gh _ _ _ (by omega),Q0,Zc,Zz,h,List.drop_length,Jj]
theorem Q4u {v w i:Nat} (hw:v/4294967296^(i/4)%4294967296=w):w/2^(8*(i%4))%256=v/256^i%256:=by
 subst hw
 have e1:(4294967296:Nat)^(i/4)=2^(32*(i/4)):=by rw [show (4294967296:Nat)=2^32 from rfl,←Y0]
 have e2:(256:Nat)^i=2^(32*(i/4))*2^(8*(i%4)):=by
  rw [show (256:Nat)=2^8 from rfl,←Y0,←Ww]; congr 1; omega
 rw [e1,e2,←Yu]
 generalize v/2^(32*(i/4))=u
 have e3:(4294967296:Nat)=2^(8*(i%4))*2^(32-8*(i%4)):=by rw [←Ww]; rw [show 8*(i%4)+(32-8*(i%4))=32 by omega]
 rw [e3,Qa6,D9]
 exact ⟨2^(24-8*(i%4)),by rw [show (256:Nat)=2^8 from rfl,←Ww]; congr 1; omega⟩
def byI (H:List Ob) (s:Value) (i:Int) (k:List Nat) (ex:Env):St :=
 ⟨[(0,s),(2,.pointer (some ⟨H.length,0,none⟩)),(3,.pointer (some ⟨H.length+1,0,none⟩)),(5,.int .i64 i)]++ex,H++[⟨u8s (dig 256 32 0),true,true,true,1⟩,⟨u8s k,true,true,true,1⟩],[]⟩
theorem Q4v {H:List Ob} {id off cap i w:Nat} {ws k:List Nat} (hr:Row .u32 H id off ws) (hn:ws.length=8) (hi:i<32) (hw:ws[i/4]?=some w) (hl:k.length=32) :
  Jv T H.length Qj5 (byI H (.slice (some ⟨id,off,none⟩) 8 cap) (i:Nat) k [])=some (.normal,byI H (.slice (some ⟨id,off,none⟩) 8 cap) ((i+1:Nat):Int) (k.set i (w/2^(8*(i%4))%256)) []):=by
 obtain ⟨o,ho,hcell⟩:=hr
 have ho':=Gj (l:=[⟨u8s (dig 256 32 0),true,true,true,1⟩,⟨u8s k,true,true,true,1⟩]) ho
 have hwc:=hcell (i/4) w hw
 have h1:((i:Int)<32):=by omega
 have h1':((i:Int)<((32:Nat):Int)):=by omega
 have h2:((i/4:Nat):Int)<((8:Nat):Int):=by omega
 have h2':((i/4:Nat):Int)<(8:Int):=by omega
 have h4:¬ (((8*(i%4):Nat):Int)<0):=by omega
 have e1:IntKind.i64.wrap ((i:Int).tdiv 4)=((i/4:Nat):Int):=Ym (n:=i/4) (by omega)
 have e2:((i:Int).tmod 4)=((i%4:Nat):Int):=rfl
 have e3:IntKind.i64.wrap (8*((i%4:Nat):Int))=((8*(i%4):Nat):Int):=Ym (n:=8*(i%4)) (by omega)
 have e4:Qa9 (w:Int) (2^min (8*(i%4)) IntKind.u32.bits)=((w/2^(8*(i%4)):Nat):Int):=by
  rw [Kx (by show _≤32; omega),Wn _ (Q5q (Q9g (by decide)))]; simp
 have e5:IntKind.u8.wrap ((w/2^(8*(i%4)):Nat):Int)=((w/2^(8*(i%4))%256:Nat):Int):=by rw [wrap_u8]; rfl
 have e6:IntKind.i64.wrap ((i:Int)+1)=((i+1:Nat):Int):=Ym (n:=i+1) (by omega)
 have h5:i+1≤(u8s k).length:=by rw [Zv,hl]; omega
 simp only [byI,Qj5,Z6,Kg,Ko,Vc,J2,Kp,Jx,Vd,Kh,Ve,guardOf,Z1,opd,Wt,V1,Vf,Env.get,Env.put,Yl,Q4,Zc,Zg,Ja,V2,Ke,Xc,St.after,Env.keep,if_true,if_false,ite_true,ite_false,We,Yh,unV,Ye,Vg,packed,reduceCtorEq,Z9,Jb,Z2,Qk,Qd,Qj,Zz,Zx,Z3,beq_self_eq_true,Xr,Jz,Kk,Kj,X6,K9,Kd,Xp,Va,K8,X8,Vp,Km,J8,Kz,Vb,Ka,X9,Ju,X5,Jg,Jo,Jn,J6,Js,J4,Jr,Jm,J7,J5,Xj,Jt,Ki,Xl,Kl,K7,Xk,Kn,J0,Ob.fresh,Wu,W6,W5,Je,and_self,true_and,and_true,Jf,Xg,Vn,Yq,Vq,J9,okVar,Xd,Xh,false_and,decide_true,decide_false,Jk,Qq,Qo,Qp,Qe,Ql,Qi,Wf,Xi,Yn,Xt,Xm,Xn,Zu,Zy,Bu,Bt,Bs,Br,Zf,Kf,Jq,X7,Xq,Vk,J1,h1,h1',h2,h2',h4,ho',hwc,e1,e2,e3,e4,e5,e6,h5,Qn9,Hg]
theorem Qey {H:List Ob} {id off cap v:Nat} (hr:Row .u32 H id off (dig 4294967296 8 v)) :
  ∃ l,Vv T 61 [.slice (some ⟨id,off,none⟩) 8 cap] H=some (.agg (u8s (dig 256 32 v)).toArray,H++l,[]):=by
 obtain ⟨s',hb,k,rfl,hlen,hk⟩:=Yg (T:=T) (base:=H.length) (id:=0) (body:=Qj5)
  (fun i s=>∃ k,s=byI H (.slice (some ⟨id,off,none⟩) 8 cap) (i:Nat) k []∧k.length=32∧∀ t,t<i→k[t]?=some (v/256^t%256))
  (Q:=fun s=>∃ k,s=byI H (.slice (some ⟨id,off,none⟩) 8 cap) 32 k [(6,.bool false)]∧k.length=32∧∀ t,t<32→k[t]?=some (v/256^t%256))
  32 (s:=byI H (.slice (some ⟨id,off,none⟩) 8 cap) ((0:Nat):Int) (dig 256 32 0) []) ⟨_,rfl,Vs _ _ _,fun t ht=>by omega⟩
  (fun i s hi hs=>by
   obtain ⟨k,rfl,hl,hk⟩:=hs
   refine ⟨_,Q4v hr (Vs _ _ _) hi (Dl (by omega)) hl,_,rfl,by rw [Jp]; exact hl,fun t ht => ?_⟩
   by_cases h:t=i
   ·subst h
    rw [Jl (by omega),Q4u rfl]
   ·rw [Z7 (by omega)]
    exact hk t (by omega))
  (fun s hs=>by
   obtain ⟨k,rfl,hl,hk⟩:=hs
   have h1:¬ (((32:Nat):Int)<(32:Int)):=by omega
   refine ⟨_,?_,k,rfl,hl,hk⟩
   simp only [byI,Qj5,Z6,Kg,Ko,Vc,J2,Kp,Jx,Vd,Kh,Ve,guardOf,Z1,opd,Wt,V1,Vf,Env.get,Env.put,Yl,Q4,Zc,Zg,Ja,V2,Ke,Xc,St.after,Env.keep,if_true,if_false,ite_true,ite_false,We,Yh,unV,Ye,Vg,packed,reduceCtorEq,Z9,Jb,Z2,Qk,Qd,Qj,Zz,Zx,Z3,beq_self_eq_true,Xr,Jz,Kk,Kj,X6,K9,Kd,Xp,Va,K8,X8,Vp,Km,J8,Kz,Vb,Ka,X9,Ju,X5,Jg,Jo,Jn,J6,Js,J4,Jr,Jm,J7,J5,Xj,Jt,Ki,Xl,Kl,K7,Xk,Kn,J0,Ob.fresh,Wu,W6,W5,Je,and_self,true_and,and_true,Jf,Xg,Vn,Yq,Vq,J9,okVar,Xd,Xh,false_and,decide_true,decide_false,Jk,Qq,Qo,Qp,Qe,Ql,Qi,Wf,Xi,Yn,Xt,Xm,Xn,Zu,Zy,Bu,Bt,Bs,Br,Zf,Kf,Jq,X7,Xq,Vk,J1,h1]
   rfl)
 have hkk:k=dig 256 32 v:=Qcx hlen fun i hi=>hk i hi
 subst hkk
 have hz:Qa 32 (Value.int .u8 0)=u8s (dig 256 32 0):=rfl
 have h1:0+32≤(u8s (dig 256 32 v)).length:=by rw [Zv,Vs]; omega
 have h1':32≤(u8s (dig 256 32 v)).length:=by rw [Zv,Vs]; omega
 have h2:((u8s (dig 256 32 v)).drop 0).take 32=u8s (dig 256 32 v):=by rw [Q2,Zj (by rw [Zv,Vs]; omega)]
 have h3:(u8s (dig 256 32 v)).length=32:=by rw [Zv,Vs]
 have h4:0+(u8s (dig 256 32 v)).length≤(u8s (dig 256 32 0)).length:=by rw [Zv,Zv,Vs,Vs]; omega
 have h5:splice (u8s (dig 256 32 0)) 0 (u8s (dig 256 32 v))=u8s (dig 256 32 v):=Qah (by rw [Zv,Zv,Vs,Vs])
 have h6:=Ga (H:=H) (r:=[⟨u8s (dig 256 32 v),true,true,true,1⟩]) (e:=true) (s:=1) h4
 rw [h5] at h6
 refine ⟨[⟨u8s (dig 256 32 v),true,true,true,1⟩,⟨u8s (dig 256 32 v),true,true,true,1⟩],?_⟩
 rw [show byI H (.slice (some ⟨id,off,none⟩) 8 cap) ((0:Nat):Int) (dig 256 32 0) []=⟨[(0,.slice (some ⟨id,off,none⟩) 8 cap),(2,.pointer (some ⟨H.length,0,none⟩)),(3,.pointer (some ⟨H.length+1,0,none⟩)),(5,.int .i64 0)],H++[⟨u8s (dig 256 32 0),true,true,true,1⟩,⟨u8s (dig 256 32 0),true,true,true,1⟩],[]⟩ from rfl] at hb
 rw [Z5 (fn:=a42) rfl]
 simp only [a42,Z6,Kg,Ko,Vc,J2,Kp,Jx,Vd,Kh,Ve,guardOf,Z1,opd,Wt,V1,Vf,Env.get,Env.put,Yl,Q4,Zc,Zg,Ja,V2,Ke,Xc,St.after,Env.keep,if_true,if_false,ite_true,ite_false,We,Yh,unV,Ye,Vg,packed,reduceCtorEq,Z9,Jb,Z2,Qk,Qd,Qj,Zz,Zx,Z3,beq_self_eq_true,Xr,Jz,Kk,Kj,X6,K9,Kd,Xp,Va,K8,X8,Vp,Km,J8,Kz,Vb,Ka,X9,Ju,X5,Jg,Jo,Jn,J6,Js,J4,Jr,Jm,J7,J5,Xj,Jt,Ki,Xl,Kl,K7,Xk,Kn,J0,Ob.fresh,Wu,W6,W5,Je,and_self,true_and,and_true,Jf,Xg,Vn,Yq,Vq,J9,okVar,Xd,Xh,false_and,decide_true,decide_false,Jk,Qq,Qo,Qp,Qe,Ql,Qi,Wf,Xi,Yn,Xt,Xm,Xn,Zu,Zy,Bu,Bt,Bs,Br,Zf,Kf,Jq,X7,Xq,Vk,J1,hz,hb,byI,h1,h1',h2,Vk,J1,h3,h6,Za,Zw]
theorem Rt {H:List Ob} {ws:List Nat}:Row .u32 (H++[Ob.fresh (Xu ws)]) H.length 0 ws:=⟨_,Wu,fun i x hx=>by rw [Zz]; exact Bp hx⟩
theorem Qyd {H:List Ob} {ws:List Nat} {o:Ob}:Row .u32 (H++[⟨Xu ws,true,true,true,1⟩,o]) H.length 0 ws:=⟨_,Wu,fun i x hx=>by rw [Zz]; exact Bp hx⟩
def Qvr (l:List Nat):Value := .agg (u8s l).toArray
theorem Q55:Y9 32 32 none none none=some (0,32,32):=rfl
theorem R4 {n v:Nat}:∀ x∈dig 4294967296 n v,x<4294967296:=fun x hx=>Hd (by decide) hx
theorem Qhr {l:List Nat} (hl:l.length=32) (h:∀ x∈l,x<256):num 256 l<4294967296^8:=by
 have:=num_lt h
 rw [hl] at this
 rw [show (4294967296:Nat)^8=256^32 from by decide]; exact this
theorem Qrx {H:List Ob} {a b c:List Nat} (ha:Row .u8 H 0 0 a) (hb:Row .u8 H 1 0 b) (hc:Row .u8 H 2 0 c) (la:a.length=32) (lb:b.length=32) (lc:c.length=32)
    (xa:∀ x∈a,x<256) (xb:∀ x∈b,x<256) (xc:∀ x∈c,x<256) :
    ∃ k l l2,Vv T 57 [.slice (some ⟨0,0,none⟩) 32 32] H=some (.slice (some ⟨H.length,0,none⟩) 8 8,H++[Ob.fresh (Xu (dig 4294967296 8 (num 256 a)))],[]) ∧
      (let H5:=H++[Ob.fresh (Xu (dig 4294967296 8 (num 256 a)))]
       let H6:=H5++[Ob.fresh (Xu (dig 4294967296 8 (num 256 b)))]
       let H7:=H6++[Ob.fresh (Xu (dig 4294967296 16 (num 256 a*num 256 b)))]
       let H8:=H7++[Ob.fresh (Xu (dig 4294967296 8 (num 256 c)))]
       let H10:=H8++[⟨Xu (dig 4294967296 17 (num 256 a*num 256 b+num 256 c)),true,true,true,1⟩,⟨[.int .u32 0],true,true,true,1⟩]
       Vv T 57 [.slice (some ⟨1,0,none⟩) 32 32] H5=some (.slice (some ⟨H5.length,0,none⟩) 8 8,H6,[]) ∧
       Vv T 58 [.slice (some ⟨H.length,0,none⟩) 8 8,.slice (some ⟨H5.length,0,none⟩) 8 8] H6=some (.slice (some ⟨H6.length,0,none⟩) 16 16,H7,[]) ∧
       Vv T 57 [.slice (some ⟨2,0,none⟩) 32 32] H7=some (.slice (some ⟨H7.length,0,none⟩) 8 8,H8,[]) ∧
       Vv T 59 [.slice (some ⟨H6.length,0,none⟩) 16 16,.slice (some ⟨H7.length,0,none⟩) 8 8] H8=some (.slice (some ⟨H8.length,0,none⟩) 17 17,H10,[]) ∧
       Vv T 60 [.slice (some ⟨H8.length,0,none⟩) 17 17] H10=some (.slice (some ⟨k,0,none⟩) 8 8,H10++l,[]) ∧
       Vv T 61 [.slice (some ⟨k,0,none⟩) 8 8] (H10++l)=some (Qvr (dig 256 32 ((num 256 a*num 256 b+num 256 c)%ell)),H10++l++l2,[])):=by
  have na:=Qhr la xa
  have nb:=Qhr lb xb
  have nc:=Qhr lc xc
  have h1:=Qlk (c:=32) ha la (by decide) xa
  have h2:=Qlk (c:=32) (hb.app (l:=[Ob.fresh (Xu (dig 4294967296 8 (num 256 a)))])) lb (by decide) xb
  have r1:=(Rt (H:=H) (ws:=dig 4294967296 8 (num 256 a))).app (l:=[Ob.fresh (Xu (dig 4294967296 8 (num 256 b)))])
  have r2:=Rt (H:=H++[Ob.fresh (Xu (dig 4294967296 8 (num 256 a)))]) (ws:=dig 4294967296 8 (num 256 b))
  have h3:=Qxr (c1:=8) (c2:=8) r1 r2 (Vs _ _ _) (Vs _ _ _) (by decide) R4 R4
  rw [Bb (by decide),Bb (by decide),Jd na,Jd nb] at h3
  have h4:=Qlk (c:=32) (((hc.app (l:=[Ob.fresh (Xu (dig 4294967296 8 (num 256 a)))])).app (l:=[Ob.fresh (Xu (dig 4294967296 8 (num 256 b)))])).app (l:=[Ob.fresh (Xu (dig 4294967296 16 (num 256 a*num 256 b)))])) lc (by decide) xc
  have r3:=(Rt (H:=H++[Ob.fresh (Xu (dig 4294967296 8 (num 256 a)))]++[Ob.fresh (Xu (dig 4294967296 8 (num 256 b)))]) (ws:=dig 4294967296 16 (num 256 a*num 256 b))).app (l:=[Ob.fresh (Xu (dig 4294967296 8 (num 256 c)))])
  have r4:=Rt (H:=H++[Ob.fresh (Xu (dig 4294967296 8 (num 256 a)))]++[Ob.fresh (Xu (dig 4294967296 8 (num 256 b)))]++[Ob.fresh (Xu (dig 4294967296 16 (num 256 a*num 256 b)))]) (ws:=dig 4294967296 8 (num 256 c))
  have h5:=Q2u (c1:=16) (c2:=8) r3 r4 (Vs _ _ _) (Vs _ _ _) (by decide) (by decide) (by decide) R4 R4
  have nab:num 256 a*num 256 b<4294967296^16:=by
    rw [show (4294967296:Nat)^16=4294967296^8*4294967296^8 from by decide]
    exact Nat.mul_lt_mul'' na nb
  rw [Bb (by decide),Bb (by decide),Jd nab,Jd nc] at h5
  have r5:=Qyd (H:=H++[Ob.fresh (Xu (dig 4294967296 8 (num 256 a)))]++[Ob.fresh (Xu (dig 4294967296 8 (num 256 b)))]++[Ob.fresh (Xu (dig 4294967296 16 (num 256 a*num 256 b)))]++[Ob.fresh (Xu (dig 4294967296 8 (num 256 c)))]) (ws:=dig 4294967296 17 (num 256 a*num 256 b+num 256 c)) (o:=⟨[.int .u32 0],true,true,true,1⟩)
  obtain ⟨k,l,h6,r6⟩:=Qr0 (cap:=17) r5 (Vs _ _ _) (by decide) (by decide) R4
  have nabc:num 256 a*num 256 b+num 256 c<4294967296^17:=by
    have:(4294967296:Nat)^16+4294967296^8≤4294967296^17:=by decide
    omega
  rw [Bb (by decide),Jd nabc] at r6
  obtain ⟨l2,h7⟩:=Qey (cap:=8) r6
  exact ⟨k,l,l2,h1,h2,h3,h4,h5,h6,h7⟩
theorem Qvk {a b c:List Nat} (la:a.length=32) (lb:b.length=32) (lc:c.length=32) (xa:∀ x∈a,x<256) (xb:∀ x∈b,x<256) (xc:∀ x∈c,x<256) :
  ∃ l,Vv T 31 [Qvr a,Qvr b,Qvr c] []=some (Qvr (dig 256 32 ((num 256 a*num 256 b+num 256 c)%ell)),l,[]):=by
 have hz:Qa 32 (Value.int .u8 0)=u8s (dig 256 32 0):=rfl
 obtain ⟨H,hH⟩:∃ H:List Ob,H=[⟨u8s a,true,true,true,1⟩,⟨u8s b,true,true,true,1⟩,⟨u8s c,true,true,true,1⟩,⟨u8s (dig 256 32 0),true,true,true,1⟩]:=⟨_,rfl⟩
 have ra:Row .u8 H 0 0 a:=by subst hH; exact ⟨_,rfl,fun i x hx=>by rw [Zz]; exact Uk hx⟩
 have rb:Row .u8 H 1 0 b:=by subst hH; exact ⟨_,rfl,fun i x hx=>by rw [Zz]; exact Uk hx⟩
 have rc:Row .u8 H 2 0 c:=by subst hH; exact ⟨_,rfl,fun i x hx=>by rw [Zz]; exact Uk hx⟩
 obtain ⟨k,l,l2,h1,h2,h3,h4,h5,h6,h7⟩:=Qrx ra rb rc la lb lc xa xb xc
 generalize hR:dig 256 32 ((num 256 a*num 256 b+num 256 c)%ell)=R at *
 have lR:(u8s R).length=32:=by rw [Zv,←hR,Vs]
 generalize hH5:H++[Ob.fresh (Xu (dig 4294967296 8 (num 256 a)))]=H5 at h1 h2 h3 h4 h5 h6 h7
 generalize hH6:H5++[Ob.fresh (Xu (dig 4294967296 8 (num 256 b)))]=H6 at h2 h3 h4 h5 h6 h7
 generalize hH7:H6++[Ob.fresh (Xu (dig 4294967296 16 (num 256 a*num 256 b)))]=H7 at h3 h4 h5 h6 h7
 generalize hH8:H7++[Ob.fresh (Xu (dig 4294967296 8 (num 256 c)))]=H8 at h4 h5 h6 h7
 generalize hH10:H8++[⟨Xu (dig 4294967296 17 (num 256 a*num 256 b+num 256 c)),true,true,true,1⟩,⟨[.int .u32 0],true,true,true,1⟩]=H10 at h5 h6 h7
 generalize hH11:H10++l=H11 at h6 h7
 generalize hG:H11++l2=G at h7
 obtain ⟨t,hGt⟩:∃ t,G=⟨u8s a,true,true,true,1⟩::⟨u8s b,true,true,true,1⟩::⟨u8s c,true,true,true,1⟩::⟨u8s (dig 256 32 0),true,true,true,1⟩::t:=by
  rw [←hG,←hH11,←hH10,←hH8,←hH7,←hH6,←hH5,hH]; exact ⟨_,rfl⟩
 have hst:storeAt G ⟨3,0,none⟩ (u8s R)=some (⟨u8s a,true,true,true,1⟩::⟨u8s b,true,true,true,1⟩::⟨u8s c,true,true,true,1⟩::⟨u8s R,true,true,true,1⟩::t):=by
  rw [hGt]
  have h8:=Ga (H:=[⟨u8s a,true,true,true,1⟩,⟨u8s b,true,true,true,1⟩,⟨u8s c,true,true,true,1⟩]) (r:=t) (cs:=u8s (dig 256 32 0)) (e:=true) (s:=1) (off:=0) (v:=u8s R) (by rw [lR,Zv,Vs]; omega)
  rw [Qah (by rw [lR,Zv,Vs])] at h8
  exact h8
 have hlv:liveAt (⟨u8s a,true,true,true,1⟩::⟨u8s b,true,true,true,1⟩::⟨u8s c,true,true,true,1⟩::⟨u8s R,true,true,true,1⟩::t) 3=some ⟨u8s R,true,true,true,1⟩:=rfl
 have h9:((u8s R).drop 0).take 32=u8s R:=by rw [Q2,Zj (by omega)]
 refine ⟨⟨u8s a,true,true,true,1⟩::⟨u8s b,true,true,true,1⟩::⟨u8s c,true,true,true,1⟩::⟨u8s R,true,true,true,1⟩::t,?_⟩
 rw [Z5 (fn:=a19) rfl]
 simp only [Qvr] at h7 ⊢
 simp only [a19,Z6,Kg,Ko,Vc,J2,Kp,Jx,Vd,Kh,Ve,guardOf,Z1,opd,Wt,V1,Vf,Env.get,Env.put,Yl,Q4,Zc,Zg,Ja,V2,Ke,Xc,St.after,Env.keep,if_true,if_false,ite_true,ite_false,We,Yh,unV,Ye,Vg,packed,reduceCtorEq,Z9,Jb,Z2,Qk,Qd,Qj,Zz,Zx,Z3,beq_self_eq_true,Xr,Jz,Kk,Kj,X6,K9,Kd,Xp,Va,K8,X8,Vp,Km,J8,Kz,Vb,Ka,X9,Ju,X5,Jg,Jo,Jn,J6,Js,J4,Jr,Jm,J7,J5,Xj,Jt,Ki,Xl,Kl,K7,Xk,Kn,J0,Ob.fresh,Wu,W6,W5,Je,and_self,true_and,and_true,Jf,Xg,Vn,Yq,Vq,J9,okVar,Xd,Xh,false_and,decide_true,decide_false,Jk,Qq,Qo,Qp,Qe,Ql,Qi,Wf,Xi,Yn,Xt,Xm,Xn,Zu,Zy,Bu,Bt,Bs,Br,Zf,Kf,Jq,X7,Xq,Vk,J1,hz,←hH,Q55,h1,h2,h3,h4,h5,h6,h7,lR,hst,hlv,h9]
def k1 (n:Nat):List Nat:=n::Qa 31 0
def B6 (a:List Nat) (x y:Nat):List Nat:=(a.set 0 (x&&&248)).set 31 ((y&&&127)|||64)
theorem Q5j {a b:Nat} (h:a<256):a&&&b<256:=Be Nat.and_le_left h
theorem Qqd {a:List Nat} {x y:Nat} (la:a.length=32) (hx:a[0]?=some x) (hy:a[31]?=some y) (hx':x<256) (hy':y<256) :
  ∃ l,Vv T 35 [.agg (u8s a).toArray] []=some (.agg (u8s (B6 a x y)).toArray,l,[]):=by
 have hz:Qa 32 (Value.int .u8 0)=u8s (dig 256 32 0):=rfl
 have hxc:=Uk hx
 have hyc:=Uk (l:=a.set 0 (x&&&248)) (i:=31) (x:=y) (by rw [Z7 (by decide)]; exact hy)
 have e1:Vo .and .u8 (x:Int) 248=((x&&&248:Nat):Int):=Rf (k := .u8) (a:=x) (b:=248) rfl hx' (by decide)
 have e2:Vo .and .u8 (y:Int) 127=((y&&&127:Nat):Int):=Rf (k := .u8) (a:=y) (b:=127) rfl hy' (by decide)
 have e3:Vo .or .u8 ((y&&&127:Nat):Int) 64=(((y&&&127)|||64:Nat):Int):=Hl (k := .u8) (a:=y&&&127) (b:=64) rfl (Q5j hy') (by decide)
 have l1:(u8s a).length=32:=by rw [Zv,la]
 have l2:(u8s (a.set 0 (x&&&248))).length=32:=by rw [Zv,Jp,la]
 have l3:(u8s (B6 a x y)).length=32:=by rw [Zv,B6,Jp,Jp,la]
 have s1:=Ga (H:=[]) (r:=[⟨u8s (dig 256 32 0),true,true,true,1⟩]) (cs:=u8s a) (e:=true) (s:=1) (off:=0) (v:=[.int .u8 ((x&&&248:Nat):Int)]) (by rw [l1]; simp)
 rw [Xd,Hg] at s1
 have s2:=Ga (H:=[]) (r:=[⟨u8s (dig 256 32 0),true,true,true,1⟩]) (cs:=u8s (a.set 0 (x&&&248))) (e:=true) (s:=1) (off:=31) (v:=[.int .u8 (((y&&&127)|||64:Nat):Int)]) (by rw [l2]; simp)
 rw [Xd,Hg] at s2
 have s3:=Qn9 (H:=[]) (a:=⟨u8s (B6 a x y),true,true,true,1⟩) (r:=[]) (cs:=u8s (dig 256 32 0)) (e:=true) (s:=1) (off:=0) (v:=u8s (B6 a x y)) (by rw [l3,Zv,Vs]; decide)
 rw [Qah (by rw [l3,Zv,Vs])] at s3
 have t3:((u8s (B6 a x y)).drop 0).take 32=u8s (B6 a x y):=by rw [Q2,Zj (by omega)]
 have v0:∀ (p q:List Value),liveAt [⟨p,true,true,true,1⟩,⟨q,true,true,true,1⟩] 0=some ⟨p,true,true,true,1⟩:=fun _ _=>rfl
 have v1:∀ (p q:List Value),liveAt [⟨p,true,true,true,1⟩,⟨q,true,true,true,1⟩] 1=some ⟨q,true,true,true,1⟩:=fun _ _=>rfl
 have i0:((0:Int)<((32:Nat):Int)):=by decide
 have i31:((31:Int)<((32:Nat):Int)):=by decide
 simp only [Zc,Z3] at s1 s2 s3
 rw [show (a.set 0 (x&&&248)).set 31 ((y&&&127)|||64)=B6 a x y from rfl] at s2
 simp only [Zz] at s3
 refine ⟨[⟨u8s (B6 a x y),true,true,true,1⟩,⟨u8s (B6 a x y),true,true,true,1⟩],?_⟩
 rw [Z5 (fn:=a16) rfl]
 simp only [a16,Z6,Kg,Ko,Vc,J2,Kp,Jx,Vd,Kh,Ve,guardOf,Z1,opd,Wt,V1,Vf,Env.get,Env.put,Yl,Q4,Zc,Zg,Ja,V2,Ke,Xc,St.after,Env.keep,if_true,if_false,ite_true,ite_false,We,Yh,unV,Ye,Vg,packed,reduceCtorEq,Z9,Jb,Z2,Qk,Qd,Qj,Zz,Zx,Z3,beq_self_eq_true,Xr,Jz,Kk,Kj,X6,K9,Kd,Xp,Va,K8,X8,Vp,Km,J8,Kz,Vb,Ka,X9,Ju,X5,Jg,Jo,Jn,J6,Js,J4,Jr,Jm,J7,J5,Xj,Jt,Ki,Xl,Kl,K7,Xk,Kn,J0,Ob.fresh,Wu,W6,W5,Je,and_self,true_and,and_true,Jf,Xg,Vn,Yq,Vq,J9,okVar,Xd,Xh,false_and,decide_true,decide_false,Jk,Qq,Qo,Qp,Qe,Ql,Qi,Wf,Xi,Yn,Xt,Xm,Xn,Zu,Zy,Bu,Bt,Bs,Br,Zf,Kf,Jq,X7,Xq,Vk,J1,hz,hxc,hyc,e1,e2,e3,i0,i31,v0,v1,s1,s2,l3,t3,s3]
theorem Qtd (b:Bool):rf (.bool b)=true:=rfl
theorem v0 (p q:List Value):liveAt [⟨p,true,true,true,1⟩,⟨q,true,true,true,1⟩] 0=some ⟨p,true,true,true,1⟩:=rfl
theorem v1 (p q:List Value):liveAt [⟨p,true,true,true,1⟩,⟨q,true,true,true,1⟩] 1=some ⟨q,true,true,true,1⟩:=rfl
structure LessInv (k:Nat) (ws os:List Nat) (b:Nat):Prop where
 ble:b≤1
 eq:∃ z,z<4294967296^k∧num 4294967296 (ws.take k)+b*4294967296^k=num 4294967296 (os.take k)+z
theorem LessInv.step {k b x y:Nat} {ws os:List Nat} (h:LessInv k ws os b) (hx:ws[k]?=some x) (hy:os[k]?=some y) (hx':x<4294967296) (hy':y<4294967296):LessInv (k+1) ws os (Qdc x y b):=by
 have hb:=h.ble
 have hd:Qdb x y b<4294967296∧x+4294967296*Qdc x y b=y+b+Qdb x y b∧Qdc x y b≤1:=by
  unfold Qdb Qdc; split<;>omega
 refine ⟨hd.2.2,?_⟩
 obtain ⟨z,hz,h2⟩:=h.eq
 rw [Bq hx,Bq hy]
 have h3:=hd.2.1
 have h4:=hd.1
 generalize Qdb x y b=d at *
 generalize Qdc x y b=q at *
 refine ⟨z+d*4294967296^k,?_,?_⟩
 ·have:(d+1)*4294967296^k≤4294967296*4294967296^k:=W4 _ h4
  rw [Vy,U7] at this
  rw [V0,Vt (4294967296^k)]
  omega
 ·have e2:q*4294967296^(k+1)=4294967296*q*4294967296^k:=by
   rw [V0]; simp only [Y5,Wk,Vt]
  have e3:(x+4294967296*q)*4294967296^k=(y+b+d)*4294967296^k:=by rw [h3]
  rw [Vy,Vy,Vy] at e3
  rw [e2]
  omega
def Qep (H:List Ob) (s1 s2:Value) (n b k:Nat) (ex:Env):St:=⟨[(0,s1),(1,s2),(5,.int .u32 b),(8,.int .i64 n),(9,.int .i64 k)]++ex,H,[]⟩
theorem Qvq {H:List Ob} {id1 off1 c1 id2 off2 c2 n b k x y:Nat} {ws os:List Nat} (hr1:Row .u32 H id1 off1 ws) (hr2:Row .u32 H id2 off2 os) (hN:n<2^40) (hk:k<n) (hx:ws[k]?=some x) (hy:os[k]?=some y) (hx':x<4294967296) (hy':y<4294967296) (hb:b≤1) :
  Jv T H.length Qj2 (Qep H (.slice (some ⟨id1,off1,none⟩) n c1) (.slice (some ⟨id2,off2,none⟩) n c2) n b k [])=some (.normal,Qep H (.slice (some ⟨id1,off1,none⟩) n c1) (.slice (some ⟨id2,off2,none⟩) n c2) n (Qdc x y b) (k+1) []):=by
 obtain ⟨o1,ho1,hc1⟩:=hr1
 obtain ⟨o2,ho2,hc2⟩:=hr2
 have hxc:=hc1 k x hx
 have hyc:=hc2 k y hy
 have h1:((k:Int)<(n:Int)):=by omega
 have hsub:=Qid hx' hy' hb
 have e10:IntKind.i64.wrap ((k:Int)+1)=((k+1:Nat):Int):=Ym (n:=k+1) (by omega)
 simp only [Qep,Qj2,Z6,Kg,Ko,Vc,J2,Kp,Jx,Vd,Kh,Ve,guardOf,Z1,opd,Wt,V1,Vf,Env.get,Env.put,Yl,Q4,Zc,Zg,Ja,V2,Ke,Xc,St.after,Env.keep,if_true,if_false,ite_true,ite_false,We,Yh,unV,Ye,Vg,packed,reduceCtorEq,Z9,Jb,Z2,Qk,Qd,Qj,Zz,Zx,Z3,beq_self_eq_true,Xr,Jz,Kk,Kj,X6,K9,Kd,Xp,Va,K8,X8,Vp,Km,J8,Kz,Vb,Ka,X9,Ju,X5,Jg,Jo,Jn,J6,Js,J4,Jr,Jm,J7,J5,Xj,Jt,Ki,Xl,Kl,K7,Xk,Kn,J0,Ob.fresh,Wu,W6,W5,Je,and_self,true_and,and_true,Jf,Xg,Vn,Yq,Vq,J9,okVar,Xd,Xh,false_and,decide_true,decide_false,Jk,Qq,Qo,Qp,Qe,Ql,Qi,Wf,Xi,Yn,Xt,Xm,Xn,Zu,Zy,Bu,Bt,Bs,Br,Zf,Kf,Jq,X7,Xq,Vk,J1,h1,ho1,ho2,hxc,hyc,hsub,e10]
theorem Q3x {H:List Ob} {id1 off1 c1 id2 off2 c2 n:Nat} {ws os:List Nat} (hr1:Row .u32 H id1 off1 ws) (hr2:Row .u32 H id2 off2 os) (hn:ws.length=n) (hm:os.length=n) (hN:n<2^40) (hws:∀ x∈ws,x<4294967296) (hos:∀ x∈os,x<4294967296) :
  Vv T 83 [.slice (some ⟨id1,off1,none⟩) n c1,.slice (some ⟨id2,off2,none⟩) n c2] H=some (.bool (decide (num 4294967296 ws<num 4294967296 os)),H,[]):=by
 obtain ⟨s',hb,b,rfl,hinv⟩:=Yg (T:=T) (base:=H.length) (id:=0) (body:=Qj2)
  (fun k s=>∃ b,s=Qep H (.slice (some ⟨id1,off1,none⟩) n c1) (.slice (some ⟨id2,off2,none⟩) n c2) n b k []∧LessInv k ws os b)
  (Q:=fun s=>∃ b,s=Qep H (.slice (some ⟨id1,off1,none⟩) n c1) (.slice (some ⟨id2,off2,none⟩) n c2) n b n [(10,.bool false)]∧LessInv n ws os b)
  n (s:=Qep H (.slice (some ⟨id1,off1,none⟩) n c1) (.slice (some ⟨id2,off2,none⟩) n c2) n 0 0 []) ⟨_,rfl,⟨by decide,0,by decide,by simp [num]⟩⟩
  (fun k s hk hs=>by
   obtain ⟨b,rfl,hI⟩:=hs
   obtain ⟨x,hx⟩:∃ x,ws[k]?=some x:=⟨_,Q3 (by omega)⟩
   obtain ⟨y,hy⟩:∃ y,os[k]?=some y:=⟨_,Q3 (by omega)⟩
   have hx':=hws x (Zp hx)
   have hy':=hos y (Zp hy)
   exact ⟨_,Qvq hr1 hr2 hN hk hx hy hx' hy' hI.ble,_,rfl,hI.step hx hy hx' hy'⟩)
  (fun s hs=>by
   obtain ⟨b,rfl,hI⟩:=hs
   have h1:¬ ((n:Int)<(n:Int)):=by omega
   refine ⟨_,?_,b,rfl,hI⟩
   simp only [Qep,Qj2,Z6,Kg,Ko,Vc,J2,Kp,Jx,Vd,Kh,Ve,guardOf,Z1,opd,Wt,V1,Vf,Env.get,Env.put,Yl,Q4,Zc,Zg,Ja,V2,Ke,Xc,St.after,Env.keep,if_true,if_false,ite_true,ite_false,We,Yh,unV,Ye,Vg,packed,reduceCtorEq,Z9,Jb,Z2,Qk,Qd,Qj,Zz,Zx,Z3,beq_self_eq_true,Xr,Jz,Kk,Kj,X6,K9,Kd,Xp,Va,K8,X8,Vp,Km,J8,Kz,Vb,Ka,X9,Ju,X5,Jg,Jo,Jn,J6,Js,J4,Jr,Jm,J7,J5,Xj,Jt,Ki,Xl,Kl,K7,Xk,Kn,J0,Ob.fresh,Wu,W6,W5,Je,and_self,true_and,and_true,Jf,Xg,Vn,Yq,Vq,J9,okVar,Xd,Xh,false_and,decide_true,decide_false,Jk,Qq,Qo,Qp,Qe,Ql,Qi,Wf,Xi,Yn,Xt,Xm,Xn,Zu,Zy,Bu,Bt,Bs,Br,Zf,Kf,Jq,X7,Xq,Vk,J1,h1])
 rw [show Qep H (.slice (some ⟨id1,off1,none⟩) n c1) (.slice (some ⟨id2,off2,none⟩) n c2) n 0 0 []=⟨[(0,.slice (some ⟨id1,off1,none⟩) n c1),(1,.slice (some ⟨id2,off2,none⟩) n c2),(5,.int .u32 0),(8,.int .i64 n),(9,.int .i64 0)],H,[]⟩ from rfl] at hb
 obtain ⟨z,hz,h2⟩:=hinv.eq
 rw [Zj (by omega),Zj (by omega)] at h2
 have h3:=num_lt hws
 rw [hn] at h3
 have hble:=hinv.ble
 have hres:(((b:Nat):Int)==1)=decide (num 4294967296 ws<num 4294967296 os):=by
  rcases Yc 0 b with h | h
  ·have hb1:b=1:=by omega
   subst hb1
   have:num 4294967296 ws<num 4294967296 os:=by omega
   simp [this]
  ·have hb0:b=0:=by omega
   subst hb0
   have:¬ num 4294967296 ws<num 4294967296 os:=by omega
   simp [this]
 rw [Z5 (fn:=a46) rfl]
 simp only [a46,Z6,Kg,Ko,Vc,J2,Kp,Jx,Vd,Kh,Ve,guardOf,Z1,opd,Wt,V1,Vf,Env.get,Env.put,Yl,Q4,Zc,Zg,Ja,V2,Ke,Xc,St.after,Env.keep,if_true,if_false,ite_true,ite_false,We,Yh,unV,Ye,Vg,packed,reduceCtorEq,Z9,Jb,Z2,Qk,Qd,Qj,Zz,Zx,Z3,beq_self_eq_true,Xr,Jz,Kk,Kj,X6,K9,Kd,Xp,Va,K8,X8,Vp,Km,J8,Kz,Vb,Ka,X9,Ju,X5,Jg,Jo,Jn,J6,Js,J4,Jr,Jm,J7,J5,Xj,Jt,Ki,Xl,Kl,K7,Xk,Kn,J0,Ob.fresh,Wu,W6,W5,Je,and_self,true_and,and_true,Jf,Xg,Vn,Yq,Vq,J9,okVar,Xd,Xh,false_and,decide_true,decide_false,Jk,Qq,Qo,Qp,Qe,Ql,Qi,Wf,Xi,Yn,Xt,Xm,Xn,Zu,Zy,Bu,Bt,Bs,Br,Zf,Kf,Jq,X7,Xq,Vk,J1,hb,Qep,hres]
end Go.Ev.Ytpgphpkjlpkcbaa
namespace Go.Ev.Ytpgphpkjlpkcbaa
open Go Go.Ev
attribute [local congr] R7
set_option maxRecDepth 100000
theorem Qni {a:List Nat} (la:a.length=32) (xa:∀ x∈a,x<256):∃ l,Vv T 45 [.agg (u8s a).toArray] []=some (.bool (decide (num 256 a<ell)),l,[]):=by
 obtain ⟨H,hH⟩:∃ H:List Ob,H=[⟨u8s a,true,true,true,1⟩]:=⟨_,rfl⟩
 have ra:Row .u8 H 0 0 a:=by subst hH; exact ⟨_,rfl,fun i x hx=>by rw [Zz]; exact Uk hx⟩
 have h1:=Qlk (c:=32) ra la (by decide) xa
 have r1:=(Rt (H:=H) (ws:=dig 4294967296 8 (num 256 a))).app (l:=[Ob.fresh (Xu orderW)])
 have h2:=Qiz (H++[Ob.fresh (Xu (dig 4294967296 8 (num 256 a)))])
 have r2:=Rt (H:=H++[Ob.fresh (Xu (dig 4294967296 8 (num 256 a)))]) (ws:=orderW)
 have h3:=Q3x (c1:=8) (c2:=8) r1 r2 (Vs _ _ _) rfl (by decide) R4 Qei
 rw [Bb (by decide),Jd (Qhr la xa),Qt3] at h3
 change Vv T 57 _ H=some (.slice (some ⟨H.length,0,none⟩) 8 8,H++[Ob.fresh (Xu (dig 4294967296 8 (num 256 a)))],[]) at h1
 generalize hH5:H++[Ob.fresh (Xu (dig 4294967296 8 (num 256 a)))]=H5 at h1 h2 h3
 generalize hH6:H5++[Ob.fresh (Xu orderW)]=H6 at h2 h3
 refine ⟨H6,?_⟩
 rw [Z5 (fn:=a21) rfl]
 simp only [a21,Z6,Kg,Ko,Vc,J2,Kp,Jx,Vd,Kh,Ve,guardOf,Z1,opd,Wt,V1,Vf,Env.get,Env.put,Yl,Q4,Zc,Zg,Ja,V2,Ke,Xc,St.after,Env.keep,if_true,if_false,ite_true,ite_false,We,Yh,unV,Ye,Vg,packed,reduceCtorEq,Z9,Jb,Z2,Qk,Qd,Qj,Zz,Zx,Z3,beq_self_eq_true,Xr,Jz,Kk,Kj,X6,K9,Kd,Xp,Va,K8,X8,Vp,Km,J8,Kz,Vb,Ka,X9,Ju,X5,Jg,Jo,Jn,J6,Js,J4,Jr,Jm,J7,J5,Xj,Jt,Ki,Xl,Kl,K7,Xk,Kn,J0,Ob.fresh,Wu,W6,W5,Je,and_self,true_and,and_true,Jf,Xg,Vn,Yq,Vq,J9,okVar,Xd,Xh,false_and,decide_true,decide_false,Jk,Qq,Qo,Qp,Qe,Ql,Qi,Wf,Xi,Yn,Xt,Xm,Xn,Zu,Zy,Bu,Bt,Bs,Br,Zf,Kf,Jq,X7,Xq,Vk,J1,←hH,Q55,h1,h2,h3]
def Q1p (k:IntKind) (H:List Ob) (id off:Nat) (ps:List (List Nat)):Prop :=
 ∃ o,liveAt H id=some o∧∀ (i:Nat) (p:List Nat),ps[i]?=some p→∃ v,o.cells[off+i]?=some v∧Sl k H v p
def Qmr (R s pv:Value) (n i:Nat) (H:List Ob) (ex:Env):St:=⟨[(2,R),(3,s),(6,pv),(7,.int .i64 n),(8,.int .i64 i)]++ex,H,[]⟩
theorem Qly {ps:List (List Nat)} {i:Nat} {p:List Nat} (h:ps[i]?=some p):(ps.take (i+1)).flatten=(ps.take i).flatten++p:=by
 rw [V3,h]; simp
theorem Q0o {ps:List (List Nat)} {i:Nat} {p:List Nat} (h:ps[i]?=some p):(ps.take i).flatten.length+p.length≤ps.flatten.length:=by
 have h1:=congrArg List.length (Qly h)
 rw [Za] at h1
 rw [←h1]
 conv=>rhs; rw [←Yr (i+1) ps,Vh,Za]
 omega
theorem Qyk {H Hc:List Ob} {R s:Value} {id off c n i:Nat} {ps:List (List Nat)} {p:List Nat} (hp:Q1p .u8 H id off ps) (hi:i<n) (hN:n<2^40) (hpi:ps[i]?=some p) (hS:ps.flatten.length≤2^40)
  (hB:H.length+1≤Hc.length) (hc:∀ j,j<H.length→Hc[j]?=H[j]?) (hg:Grown .u8 (H.length+1) Hc s ((ps.take i).flatten)) :
  ∃ s' H',Jv T H.length Qj7 (Qmr R s (.slice (some ⟨id,off,none⟩) n c) n i Hc [])=some (.normal,Qmr R s' (.slice (some ⟨id,off,none⟩) n c) n (i+1) H' []) ∧
   H.length+1≤H'.length∧(∀ j,j<H.length+1→H'[j]?=Hc[j]?)∧Grown .u8 (H.length+1) H' s' ((ps.take (i+1)).flatten):=by
 obtain ⟨o,ho,hps⟩:=hp
 obtain ⟨v,hv,hsl⟩:=hps i p hpi
 have ho':liveAt Hc id=some o:=by rw [Qeo (hc _ (Qlp ho))]; exact ho
 have hsl':=hsl.congr hc
 have hlen:=Q0o hpi
 obtain ⟨s',H',M,ha,hg',hM,hL,hK⟩:=hg.append (bytes:=1) hB hsl'.lenV hsl'.elems (by omega) (by decide)
 have h1:((i:Int)<(n:Int)):=by omega
 have e10:IntKind.i64.wrap ((i:Int)+1)=((i+1:Nat):Int):=Ym (n:=i+1) (by omega)
 have hm:Ja H.length [] M=[]:=Xv fun j hj=>by have:=hM j hj; omega
 refine ⟨s',H',?_,by omega,hK,by rw [Qly hpi]; exact hg'⟩
 simp only [Qmr,Qj7,Z6,Kg,Ko,Vc,J2,Kp,Jx,Vd,Kh,Ve,guardOf,Z1,opd,Wt,V1,Vf,Env.get,Env.put,Yl,Q4,Zc,Zg,Ja,V2,Ke,Xc,St.after,Env.keep,if_true,if_false,ite_true,ite_false,We,Yh,unV,Ye,Vg,packed,reduceCtorEq,Z9,Jb,Z2,Qk,Qd,Qj,Zz,Zx,Z3,beq_self_eq_true,Xr,Jz,Kk,Kj,X6,K9,Kd,Xp,Va,K8,X8,Vp,Km,J8,Kz,Vb,Ka,X9,Ju,X5,Jg,Jo,Jn,J6,Js,J4,Jr,Jm,J7,J5,Xj,Jt,Ki,Xl,Kl,K7,Xk,Kn,J0,Ob.fresh,Wu,W6,W5,Je,and_self,true_and,and_true,Jf,Xg,Vn,Yq,Vq,J9,okVar,Xd,Xh,false_and,decide_true,decide_false,Jk,Qq,Qo,Qp,Qe,Ql,Qi,Wf,Xi,Yn,Xt,Xm,Xn,Zu,Zy,Bu,Bt,Bs,Br,Zf,Kf,Jq,X7,Xq,Vk,J1,h1,ho',hv,e10,ha,hm]
theorem of_nil (H:List Ob):Vv T 57 [.slice none 0 0] H=some (.slice (some ⟨H.length,0,none⟩) 0 0,H++[Ob.fresh []],[]):=by
 have hl:Jv T H.length (.loop Qd3) ⟨[(3,.slice (some ⟨H.length,0,none⟩) 0 0),(11,.slice none 0 0),(12,.int .i64 0),(13,.int .i64 0)],H++[⟨[],true,true,true,1⟩],[]⟩=some (.exit 0,⟨[(3,.slice (some ⟨H.length,0,none⟩) 0 0),(11,.slice none 0 0),(12,.int .i64 0),(13,.int .i64 0),(14,.bool false)],H++[⟨[],true,true,true,1⟩],[]⟩):=by
  rw [Uv]
  simp only [Qd3,Z6,Kg,Ko,Vc,J2,Kp,Jx,Vd,Kh,Ve,guardOf,Z1,opd,Wt,V1,Vf,Env.get,Env.put,Yl,Q4,Zc,Zg,Ja,V2,Ke,Xc,St.after,Env.keep,if_true,if_false,ite_true,ite_false,We,Yh,unV,Ye,Vg,packed,reduceCtorEq,Z9,Jb,Z2,Qk,Qd,Qj,Zz,Zx,Z3,beq_self_eq_true,Xr,Jz,Kk,Kj,X6,K9,Kd,Xp,Va,K8,X8,Vp,Km,J8,Kz,Vb,Ka,X9,Ju,X5,Jg,Jo,Jn,J6,Js,J4,Jr,Jm,J7,J5,Xj,Jt,Ki,Xl,Kl,K7,Xk,Kn,J0,Ob.fresh,Wu,W6,W5,Je,and_self,true_and,and_true,Jf,Xg,Vn,Yq,Vq,J9,okVar,Xd,Xh,false_and,decide_true,decide_false,Jk,Qq,Qo,Qp,Qe,Ql,Qi,Wf,Xi,Yn,Xt,Xm,Xn,Zu,Zy,Bu,Bt,Bs,Br,Zf,Kf,Jq,X7,Xq,Vk,J1,cL,Qp,Qo,Qz,Qy,Qv,Qn,Qm,Qx,Qe,Q5,Q6,Qw,Qk,Qj,Qi,Qu,Qt,Qs,Ql,Qh]
 rw [Z5 (fn:=a40) rfl]
 simp only [a40,Z6,Kg,Ko,Vc,J2,Kp,Jx,Vd,Kh,Ve,guardOf,Z1,opd,Wt,V1,Vf,Env.get,Env.put,Yl,Q4,Zc,Zg,Ja,V2,Ke,Xc,St.after,Env.keep,if_true,if_false,ite_true,ite_false,We,Yh,unV,Ye,Vg,packed,reduceCtorEq,Z9,Jb,Z2,Qk,Qd,Qj,Zz,Zx,Z3,beq_self_eq_true,Xr,Jz,Kk,Kj,X6,K9,Kd,Xp,Va,K8,X8,Vp,Km,J8,Kz,Vb,Ka,X9,Ju,X5,Jg,Jo,Jn,J6,Js,J4,Jr,Jm,J7,J5,Xj,Jt,Ki,Xl,Kl,K7,Xk,Kn,J0,Ob.fresh,Wu,W6,W5,Je,and_self,true_and,and_true,Jf,Xg,Vn,Yq,Vq,J9,okVar,Xd,Xh,false_and,decide_true,decide_false,Jk,Qq,Qo,Qp,Qe,Ql,Qi,Wf,Xi,Yn,Xt,Xm,Xn,Zu,Zy,Bu,Bt,Bs,Br,Zf,Kf,Jq,X7,Xq,Vk,J1,cL,Qp,Qo,Qz,Qy,Qv,Qn,Qm,Qx,Qe,Q5,Q6,Qw,Qk,Qj,Qi,Qu,Qt,Qs,Ql,Qh,List.replicate_zero,Vu,hl]
theorem Q3r (H:List Ob) (id:Nat):Vv T 60 [.slice (some ⟨id,0,none⟩) 0 0] H=some (.slice (some ⟨H.length,0,none⟩) 8 8,H++[⟨Xu (dig 4294967296 8 0),true,true,true,1⟩,⟨Xu orderW,true,true,true,1⟩,⟨Xu (dig 4294967296 8 0),true,true,true,1⟩],[]):=by
 have hz:(Qa 8 [Value.int .u32 0]).flatten=Xu (dig 4294967296 8 0):=rfl
 have ho:=Qiz (H++[⟨Xu (dig 4294967296 8 0),true,true,true,1⟩])
 have hl:Jv T H.length (.loop Db) ⟨[(0,.slice (some ⟨id,0,none⟩) 0 0),(3,.slice (some ⟨H.length,0,none⟩) 8 8),(4,.slice (some ⟨H.length+1,0,none⟩) 8 8),(5,.slice (some ⟨H.length+2,0,none⟩) 8 8),(6,.int .i64 (-1))],H++[⟨Xu (dig 4294967296 8 0),true,true,true,1⟩,⟨Xu orderW,true,true,true,1⟩,⟨Xu (dig 4294967296 8 0),true,true,true,1⟩],[]⟩=some (.exit 0,⟨[(0,.slice (some ⟨id,0,none⟩) 0 0),(3,.slice (some ⟨H.length,0,none⟩) 8 8),(4,.slice (some ⟨H.length+1,0,none⟩) 8 8),(5,.slice (some ⟨H.length+2,0,none⟩) 8 8),(6,.int .i64 (-1)),(19,.bool false)],H++[⟨Xu (dig 4294967296 8 0),true,true,true,1⟩,⟨Xu orderW,true,true,true,1⟩,⟨Xu (dig 4294967296 8 0),true,true,true,1⟩],[]⟩):=by
  rw [Uv]
  have e:((0:Int) ≤ -1)=False:=by decide
  simp only [Db,Z6,Kg,Ko,Vc,J2,Kp,Jx,Vd,Kh,Ve,guardOf,Z1,opd,Wt,V1,Vf,Env.get,Env.put,Yl,Q4,Zc,Zg,Ja,V2,Ke,Xc,St.after,Env.keep,if_true,if_false,ite_true,ite_false,We,Yh,unV,Ye,Vg,packed,reduceCtorEq,Z9,Jb,Z2,Qk,Qd,Qj,Zz,Zx,Z3,beq_self_eq_true,Xr,Jz,Kk,Kj,X6,K9,Kd,Xp,Va,K8,X8,Vp,Km,J8,Kz,Vb,Ka,X9,Ju,X5,Jg,Jo,Jn,J6,Js,J4,Jr,Jm,J7,J5,Xj,Jt,Ki,Xl,Kl,K7,Xk,Kn,J0,Ob.fresh,Wu,W6,W5,Je,and_self,true_and,and_true,Jf,Xg,Vn,Yq,Vq,J9,okVar,Xd,Xh,false_and,decide_true,decide_false,Jk,Qq,Qo,Qp,Qe,Ql,Qi,Wf,Xi,Yn,Xt,Xm,Xn,Zu,Zy,Bu,Bt,Bs,Br,Zf,Kf,Jq,X7,Xq,Vk,J1,cL,Qp,Qo,Qz,Qy,Qv,Qn,Qm,Qx,Qe,Q5,Q6,Qw,Qk,Qj,Qi,Qu,Qt,Qs,Ql,Qh,e]
 rw [Z5 (fn:=a41) rfl]
 simp only [a41,Z6,Kg,Ko,Vc,J2,Kp,Jx,Vd,Kh,Ve,guardOf,Z1,opd,Wt,V1,Vf,Env.get,Env.put,Yl,Q4,Zc,Zg,Ja,V2,Ke,Xc,St.after,Env.keep,if_true,if_false,ite_true,ite_false,We,Yh,unV,Ye,Vg,packed,reduceCtorEq,Z9,Jb,Z2,Qk,Qd,Qj,Zz,Zx,Z3,beq_self_eq_true,Xr,Jz,Kk,Kj,X6,K9,Kd,Xp,Va,K8,X8,Vp,Km,J8,Kz,Vb,Ka,X9,Ju,X5,Jg,Jo,Jn,J6,Js,J4,Jr,Jm,J7,J5,Xj,Jt,Ki,Xl,Kl,K7,Xk,Kn,J0,Ob.fresh,Wu,W6,W5,Je,and_self,true_and,and_true,Jf,Xg,Vn,Yq,Vq,J9,okVar,Xd,Xh,false_and,decide_true,decide_false,Jk,Qq,Qo,Qp,Qe,Ql,Qi,Wf,Xi,Yn,Xt,Xm,Xn,Zu,Zy,Bu,Bt,Bs,Br,Zf,Kf,Jq,X7,Xq,Vk,J1,cL,Qp,Qo,Qz,Qy,Qv,Qn,Qm,Qx,Qe,Q5,Q6,Qw,Qk,Qj,Qi,Qu,Qt,Qs,Ql,Qh,hz,ho,hl,Za,Zw,Vr,Ob.fresh]
theorem Quw {H:List Ob} {id:Nat} {bs:List Nat} (h:H[id]?=some (Ob.fresh (ns .u8 bs))):Row .u8 H id 0 bs :=
 ⟨_,Vj h rfl,fun i x hx=>by rw [Zz]; exact U3 hx⟩
theorem Quv {H:List Ob} {id:Nat} {bs:List Nat} (h:H[id]?=some (Ob.grown 1 (ns .u8 bs))):Row .u8 H id 0 bs :=
 ⟨_,Vj h rfl,fun i x hx=>by rw [Zz]; exact U3 hx⟩
theorem Qyj {B:Nat} {H:List Ob} {s:Value} {bs:List Nat} (hg:Grown .u8 B H s bs) (hb:∀ x∈bs,x<256) (hN:bs.length<2^40) :
  ∃ v1 v2 l1 l2 l3,Vv T 57 [s] H=some (v1,H++l1,[])∧Vv T 60 [v1] (H++l1)=some (v2,H++l1++l2,[])∧Vv T 61 [v2] (H++l1++l2)=some (.agg (u8s (dig 256 32 (num 256 bs%ell))).toArray,H++l1++l2++l3,[]):=by
 cases hg with
 | nil =>
  have h1:=of_nil H
  have h2:=Q3r (H++[Ob.fresh []]) H.length
  have r:Row .u32 (H++[Ob.fresh []]++[⟨Xu (dig 4294967296 8 0),true,true,true,1⟩,⟨Xu orderW,true,true,true,1⟩,⟨Xu (dig 4294967296 8 0),true,true,true,1⟩]) (H++[Ob.fresh []]).length 0 (dig 4294967296 8 0) :=
   ⟨_,Wu,fun i x hx=>by rw [Zz]; exact Bp hx⟩
  obtain ⟨l3,h3⟩:=Qey (cap:=8) r
  exact ⟨_,_,_,_,l3,h1,h2,h3⟩
 | @own id _ g1 g2 g3 =>
  have h1:=Qlk (c:=bs.length) (Quv g3) rfl hN hb
  have hlt:num 256 bs<4294967296^((bs.length+3)/4):=by
   refine Xf (num_lt hb) ?_
   rw [show (4294967296:Nat)=256^4 from by decide,←Y0]
   exact Vl (by decide) (by omega)
  obtain ⟨k,l2,h2,r2⟩:=Qr0 (cap:=(bs.length+3)/4) (Rt (H:=H) (ws:=dig 4294967296 ((bs.length+3)/4) (num 256 bs))) (Vs _ _ _) (by omega) (by omega) R4
  rw [Bb (by decide),Jd hlt] at r2
  obtain ⟨l3,h3⟩:=Qey (cap:=8) r2
  exact ⟨_,_,_,l2,l3,h1,h2,h3⟩
 | @new id _ g1 g2 g3 =>
  have h1:=Qlk (c:=bs.length) (Quw g3) rfl hN hb
  have hlt:num 256 bs<4294967296^((bs.length+3)/4):=by
   refine Xf (num_lt hb) ?_
   rw [show (4294967296:Nat)=256^4 from by decide,←Y0]
   exact Vl (by decide) (by omega)
  obtain ⟨k,l2,h2,r2⟩:=Qr0 (cap:=(bs.length+3)/4) (Rt (H:=H) (ws:=dig 4294967296 ((bs.length+3)/4) (num 256 bs))) (Vs _ _ _) (by omega) (by omega) R4
  rw [Bb (by decide),Jd hlt] at r2
  obtain ⟨l3,h3⟩:=Qey (cap:=8) r2
  exact ⟨_,_,_,l2,l3,h1,h2,h3⟩
theorem Quz {H:List Ob} {id off c n:Nat} {ps:List (List Nat)} (hp:Q1p .u8 H id off ps) (hn:ps.length=n) (hN:n<2^40) (hS:ps.flatten.length<2^40) (hb:∀ x∈ps.flatten,x<256) :
  ∃ l,Vv T 56 [.slice (some ⟨id,off,none⟩) n c] H=some (.agg (u8s (dig 256 32 (num 256 ps.flatten%ell))).toArray,H++l,[]):=by
 have hz:Qa 32 (Value.int .u8 0)=u8s (dig 256 32 0):=rfl
 obtain ⟨s',hb1,s,Hc,rfl,hL,hK,hg⟩:=Yg (T:=T) (base:=H.length) (id:=0) (body:=Qj7)
  (fun i st=>∃ s Hc,st=Qmr (.pointer (some ⟨H.length,0,none⟩)) s (.slice (some ⟨id,off,none⟩) n c) n i Hc []∧H.length+1≤Hc.length∧(∀ j,j<H.length+1→Hc[j]?=(H++[⟨u8s (dig 256 32 0),true,true,true,1⟩])[j]?)∧Grown .u8 (H.length+1) Hc s ((ps.take i).flatten))
  (Q:=fun st=>∃ s Hc,st=Qmr (.pointer (some ⟨H.length,0,none⟩)) s (.slice (some ⟨id,off,none⟩) n c) n n Hc [(9,.bool false)]∧H.length+1≤Hc.length∧(∀ j,j<H.length+1→Hc[j]?=(H++[⟨u8s (dig 256 32 0),true,true,true,1⟩])[j]?)∧Grown .u8 (H.length+1) Hc s ps.flatten)
  n (s:=Qmr (.pointer (some ⟨H.length,0,none⟩)) (.slice none 0 0) (.slice (some ⟨id,off,none⟩) n c) n 0 (H++[⟨u8s (dig 256 32 0),true,true,true,1⟩]) []) ⟨_,_,rfl,by simp,fun _ _=>rfl,.nil⟩
  (fun i st hi hs=>by
   obtain ⟨s,Hc,rfl,hL,hK,hg⟩:=hs
   obtain ⟨p,hpi⟩:∃ p,ps[i]?=some p:=⟨_,Q3 (by omega)⟩
   obtain ⟨s2,H2,h1,h2,h3,h4⟩:=Qyk (R := .pointer (some ⟨H.length,0,none⟩)) (c:=c) hp hi hN hpi (by omega) hL (fun j hj=>by rw [hK j (by omega),Qc hj]) hg
   exact ⟨_,h1,s2,H2,rfl,h2,fun j hj=>by rw [h3 j hj,hK j hj],h4⟩)
  (fun st hs=>by
   obtain ⟨s,Hc,rfl,hL,hK,hg⟩:=hs
   have h1:¬ ((n:Int)<(n:Int)):=by omega
   rw [Zj (by omega)] at hg
   refine ⟨_,?_,s,Hc,rfl,hL,hK,hg⟩
   simp only [Qmr,Qj7,Z6,Kg,Ko,Vc,J2,Kp,Jx,Vd,Kh,Ve,guardOf,Z1,opd,Wt,V1,Vf,Env.get,Env.put,Yl,Q4,Zc,Zg,Ja,V2,Ke,Xc,St.after,Env.keep,if_true,if_false,ite_true,ite_false,We,Yh,unV,Ye,Vg,packed,reduceCtorEq,Z9,Jb,Z2,Qk,Qd,Qj,Zz,Zx,Z3,beq_self_eq_true,Xr,Jz,Kk,Kj,X6,K9,Kd,Xp,Va,K8,X8,Vp,Km,J8,Kz,Vb,Ka,X9,Ju,X5,Jg,Jo,Jn,J6,Js,J4,Jr,Jm,J7,J5,Xj,Jt,Ki,Xl,Kl,K7,Xk,Kn,J0,Ob.fresh,Wu,W6,W5,Je,and_self,true_and,and_true,Jf,Xg,Vn,Yq,Vq,J9,okVar,Xd,Xh,false_and,decide_true,decide_false,Jk,Qq,Qo,Qp,Qe,Ql,Qi,Wf,Xi,Yn,Xt,Xm,Xn,Zu,Zy,Bu,Bt,Bs,Br,Zf,Kf,Jq,X7,Xq,Vk,J1,h1])
 obtain ⟨l0,hl0⟩:=Ux (H:=H++[⟨u8s (dig 256 32 0),true,true,true,1⟩]) (H':=Hc) (by simpa using hL) (fun i hi=>hK i (by simpa using hi))
 obtain ⟨v1,v2,l1,l2,l3,h1,h2,h3⟩:=Qyj hg hb hS
 generalize hR:dig 256 32 (num 256 ps.flatten%ell)=R at *
 have lR:(u8s R).length=32:=by rw [Zv,←hR,Vs]
 have hst:storeAt (Hc++l1++l2++l3) ⟨H.length,0,none⟩ (u8s R)=some (H++⟨u8s R,true,true,true,1⟩::(l0++l1++l2++l3)):=by
  have h8:=Ga (H:=H) (r:=l0++l1++l2++l3) (cs:=u8s (dig 256 32 0)) (e:=true) (s:=1) (off:=0) (v:=u8s R) (by rw [lR,Zv,Vs]; omega)
  rw [Qah (by rw [lR,Zv,Vs])] at h8
  rw [hl0]
  simpa using h8
 generalize hH1:Hc++l1=H1 at h1 h2 h3 hst
 generalize hH2:H1++l2=H2 at h2 h3 hst
 generalize hH3:H2++l3=H3 at h3 hst
 have h9:((u8s R).drop 0).take 32=u8s R:=by rw [Q2,Zj (by omega)]
 refine ⟨⟨u8s R,true,true,true,1⟩::(l0++l1++l2++l3),?_⟩
 rw [show Qmr (.pointer (some ⟨H.length,0,none⟩)) (.slice none 0 0) (.slice (some ⟨id,off,none⟩) n c) n 0 (H++[⟨u8s (dig 256 32 0),true,true,true,1⟩]) []=⟨[(2,.pointer (some ⟨H.length,0,none⟩)),(3,.slice none 0 0),(6,.slice (some ⟨id,off,none⟩) n c),(7,.int .i64 n),(8,.int .i64 0)],H++[⟨u8s (dig 256 32 0),true,true,true,1⟩],[]⟩ from rfl] at hb1
 rw [Z5 (fn:=a17) rfl]
 simp only [a17,Z6,Kg,Ko,Vc,J2,Kp,Jx,Vd,Kh,Ve,guardOf,Z1,opd,Wt,V1,Vf,Env.get,Env.put,Yl,Q4,Zc,Zg,Ja,V2,Ke,Xc,St.after,Env.keep,if_true,if_false,ite_true,ite_false,We,Yh,unV,Ye,Vg,packed,reduceCtorEq,Z9,Jb,Z2,Qk,Qd,Qj,Zz,Zx,Z3,beq_self_eq_true,Xr,Jz,Kk,Kj,X6,K9,Kd,Xp,Va,K8,X8,Vp,Km,J8,Kz,Vb,Ka,X9,Ju,X5,Jg,Jo,Jn,J6,Js,J4,Jr,Jm,J7,J5,Xj,Jt,Ki,Xl,Kl,K7,Xk,Kn,J0,Ob.fresh,Wu,W6,W5,Je,and_self,true_and,and_true,Jf,Xg,Vn,Yq,Vq,J9,okVar,Xd,Xh,false_and,decide_true,decide_false,Jk,Qq,Qo,Qp,Qe,Ql,Qi,Wf,Xi,Yn,Xt,Xm,Xn,Zu,Zy,Bu,Bt,Bs,Br,Zf,Kf,Jq,X7,Xq,Vk,J1,cL,Qp,Qo,Qz,Qy,Qv,Qn,Qm,Qx,Qe,Q5,Q6,Qw,Qk,Qj,Qi,Qu,Qt,Qs,Ql,Qh,hz,hb1,Qmr,h1,h2,h3,lR,hst,Wu,h9]
end Go.Ev.Ytpgphpkjlpkcbaa

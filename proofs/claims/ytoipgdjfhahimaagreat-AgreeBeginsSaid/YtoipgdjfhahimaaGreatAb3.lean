/- What the law leans on, part 3. -/
import Derived.Test.YtoipgdjfhahimaaGreatAb2
import Derived.Test.YtoipgdjfhahimaaGreatChecked
import Derived.KernelRfl
import Derived.Laws.Externs
set_option linter.unusedSimpArgs false
set_option linter.unusedVariables false
set_option linter.defProp false
open And renaming intro -> Qi
open Array renaming getElem?_eq_some_iff -> GB, getElem?_toList -> ZA
open Bool renaming and_eq_true -> ZY, false_eq_true -> ZM
open Exists renaming intro -> Jg
open Int renaming cast_ofNat_Int -> JP, natCast_add -> Jm, natCast_mul -> JN, natCast_one -> Vd, natCast_pow -> Yr, natCast_zero -> QA, toNat_natCast -> Vr, toNat_of_nonneg -> BT
open List renaming all_cons -> KD, append_assoc -> Qt, append_nil -> QG, cons_append -> Qn, drop -> J2, drop_append_of_le_length -> Jf, drop_eq_getElem_cons -> Jp, drop_of_length_le -> Zu, eq_nil_of_length_eq_zero -> J7, ext_getElem? -> ZW, flatten_append -> Jd, flatten_cons -> QO, foldl_cons -> Xy, foldl_nil -> VD, getD_eq_getElem?_getD -> QD, getElem?_append_left -> Qc, getElem?_append_right -> Qh, getElem?_cons_succ -> JU, getElem?_drop -> Zp, getElem?_eq_getElem -> Qf, getElem?_eq_none -> QI, getElem?_eq_some_iff -> Qg, getElem?_map -> JB, getElem?_of_mem -> Xf, getElem?_replicate -> Kx, getElem?_set -> Kw, getElem?_set_ne -> Qu, getElem?_set_self -> Qw, getElem?_take -> QW, getElem?_zipWith -> KL, length -> zl, length_append -> Qj, length_cons -> Zv, length_drop -> QN, length_nil -> ZT, length_replicate -> Qe, length_set -> Q4, length_take -> Q3, length_zipWith -> V7, map_append -> Vc, map_cons -> JC, map_nil -> Xv, mem_append -> QC, mem_append_left -> Aq, mem_cons -> Jr, mem_cons_of_mem -> Vq, mem_map -> Xo, mem_of_getElem? -> Qo, mem_of_mem_drop -> ZF, mem_of_mem_take -> QP, mem_range'_1 -> No, mem_singleton -> Xn, nil_append -> Ql, not_mem_nil -> JL, range -> ZH, range' -> Ya, reduceReplicate -> Qb, replicate -> Qa, replicate_succ -> XC, set_append_left -> Vp, set_append_right -> ZV, set_cons_zero -> Wt, set_set -> Yh, take -> Zi, take_add_one -> Zx, take_append_drop -> Zn, take_append_of_le_length -> ZO, take_of_length_le -> Qm, take_zero -> Xi, zipWith -> JS
open Nat renaming Coprime -> zk, add_assoc -> Zb, add_comm -> Xu, add_mul -> Zl, add_mul_div_right -> U0, add_mul_mod_self_right -> KJ, add_zero -> Jl, and_lt_two_pow -> Kb, and_two_pow_sub_one_eq_mod -> VC, div_add_mod -> Z5, div_div_eq_div_mul -> QV, div_eq_of_lt -> JK, div_le_self -> Jx, div_lt_of_lt_mul -> Vo, div_one -> J1, dvd_mul_left -> PO, dvd_of_mod_eq_zero -> WL, dvd_trans -> qa, eq_zero_or_pos -> Jo, gcd -> AA, le_of_dvd -> Vv, le_of_lt -> J0, le_refl -> Qs, le_trans -> Xm, lt_of_le_of_lt -> Jc, lt_of_lt_of_le -> QM, lt_or_ge -> ZL, lt_trans -> JR, min_eq_left -> Zw, mod_eq_of_lt -> Qv, mod_eq_zero_of_dvd -> R1, mod_lt -> Q9, mod_mod -> Kl, mod_mod_of_dvd -> Ws, mod_mul_mod -> BQ, mod_one -> PS, mul_assoc -> ZD, mul_comm -> Zm, mul_le_mul -> Xe, mul_le_mul_right -> Z9, mul_left_comm -> JM, mul_mod -> YD, mul_mod_mul_right -> Yx, mul_one -> Vn, one_mul -> Xd, pow_add -> JI, pow_le_pow_right -> Zo, pow_mod -> zj, pow_mul -> Je, pow_pos -> JT, pow_succ -> Zj, pow_zero -> ZN, sub_mod_eq_zero_of_mod_eq -> Bh, sub_self -> Q7, sub_zero -> KC, zero_add -> QL, zero_mul -> Vm
open Option renaming bind_some -> Qp
open Option.some renaming inj -> Xp, injEq -> Qk
namespace Go.Ev
section
variable{bs:List Nat}
def QX(bs:List Nat):Value := .string ⟨(bs.map UInt8.ofNat).toArray⟩
theorem YH:vLen true (QX bs)=some (.int .i64 bs.length):=by simp[QX,vLen,ByteArray.size]
theorem DH{i x:Nat}(h:bs[i]?=some x)(hx:x<256):HD (QX bs) (.int .i64 i)=some (.int .u8 (x:Nat)):=by
 have h1:((bs.map UInt8.ofNat).toArray.toList)[i]?=some (UInt8.ofNat x):=by simp[h]
 have h2:((0:Int)<=(i:Int)):=qr
 have h3:(UInt8.ofNat x).toNat=x:=by rw[UInt8.toNat_ofNat'];omega
 simp only[QX,HD,h2,if_true,Vr,h1,Qp,h3]
theorem Ut:∀(bs:List Nat),XO (u8s bs)=some (bs.map UInt8.ofNat)
 |[]=>rfl
 |x::r=>by
  have:=Ut r
  simp only[u8s,JC,XO,Vr]at this ⊢
  rw[this];rfl
end
end Go.Ev
namespace Go.Ev.YtoipgdjfhahimaaGreat
open Go Go.Ev
attribute [local congr] JE JW JD JX Jz
set_option maxRecDepth 100000
section
variable{bs:List Nat}
def rrI(bs d:List Nat)(n:Nat)(i:Int)(ex:Env):St:=⟨[(0,QX bs),(2,.pointer (0:Nat)),(3,.slice (1:Nat) n n),(4,.int .i64 i)]++ex,[{c:=u8s (dig 256 32 0)},{c:=ns .i64 d}],[]⟩
theorem kG{d:List Nat}{n:Nat}(hn:bs.length=n)(hN:n<2^40)(xb:∀x∈bs,x<256)(hd:d.length=n) :
  Q0 T 0 (.block 0 (.loop Fl)) (rrI bs d n 0 [])=some (.normal,rrI bs bs n n [(11,.bool false)]):=by
 obtain⟨st,h1,d',rfl,h2,h3⟩:=Zh (T:=T) (base:=0) (id:=0) (body:=Fl)
  (fun i st=>∃d':List Nat,st=rrI bs d' n i []/\d'.length=n/\∀t,t<i->d'[t]?=bs[t]?)
  (Q:=fun st=>∃d':List Nat,st=rrI bs d' n n [(11,.bool false)]/\d'.length=n/\∀t,t<n->d'[t]?=bs[t]?)
  n (s:=rrI bs d n 0 []) ⟨d,rfl,hd,fun t ht=>by omega⟩
  (fun i st hi hs=>by
   obtain⟨d',rfl,h2,h3⟩:=hs
   obtain⟨x,hx⟩:∃y,bs[i]?=some y:=⟨_,Qf qr⟩
   have hx':=xb x (Qo hx)
   have hxi:=DH hx hx'
   have hset:=Xt .i64 d' i x
   have hl:=YH (bs:=bs)
   rw[hn]at hl
   have e1:((i:Int)<(n:Int))=True:=wf
   have w1:IntKind.i64.wrap ((i:Int)+1)=((i+1:Nat):Int):=ZB (n:=i+1) qr
   have w3:IntKind.i64.wrap (x:Int)=(x:Int):=ZB qr
   have e8:i+1<=n:=qr
   refine⟨_,?_,d'.set i x,rfl,by rw[Q4];exact h2,fun t ht =>?_⟩
   ·simp only[rrI,Fl,Qr,quiet,cF,Jy,QZ,↓pQ,reduceCtorEq,seval,-Qb,cL,cJ,Zb,hl,hxi,e1,e8,w1,w3,hset,Q8,h2]
   ·by_cases hti:t=i
    ·subst hti
     rw[Qw qr,hx]
    ·rw[Qu qr]
     exact h3 t qr)
  (fun st hs=>by
   obtain⟨d',rfl,h2,h3⟩:=hs
   have hl:=YH (bs:=bs)
   rw[hn]at hl
   refine⟨_,?_,d',rfl,h2,h3⟩
   simp only[rrI,Fl,Qr,quiet,cF,Jy,QZ,↓pQ,reduceCtorEq,seval,-Qb,cL,hl])
 have:d'=bs:=by
  apply ZW
  intro t
  by_cases ht:t<n
  ·exact h3 t ht
  ·rw[QI qr,QI qr]
 rw[this]at h1
 exact h1
theorem PT(n:Nat):(Qa n [Value.int .i64 0]).flatten=ns .i64 (Qa n 0):=by
 induction n with
 |zero=>rfl
 |succ n ih=>rw[XC,QO,ih,XC];rfl
theorem Lt{n:Nat}(hn:bs.length=n)(hN:n<2^40)(xb:∀x∈bs,x<256):∃l,Z6 T 150 [QX bs] []=some (.agg (u8s (rd bs)).toArray,l,[]):=by
 have hz:Qa 32 (Value.int .u8 0)=u8s (dig 256 32 0):=rfl
 have hl:=YH (bs:=bs)
 rw[hn]at hl
 have h1:=kG hn hN xb (d:=Qa n 0) wd
 have hsl:=Sl.mk (k := .i64) (H:=[{c:=u8s (dig 256 32 0)},{c:=ns .i64 bs}]) (id:=1) (off:=0) (c:=n) (o:={c:=ns .i64 bs}) (l:=bs) (by simp[liveAt]) (by simp[Q8]) (fun i x hx=>by rw[QL];exact ZJ hx)
 rw[hn]at hsl
 obtain⟨l,hm⟩:=dU hsl hN xb
 rw[wh]at hm
 have e1:((n:Int)*((8:Nat):Int)<=2^47)=True:=wf
 simp only[JP,Int.reducePow]at e1
 simp only[rrI,Qn,Ql,QA]at h1 hm
 apply Jg
 rw[QY (fn:=a18) rfl]
 simp only[a18,Qr,quiet,cF,Jy,QZ,↓pQ,reduceCtorEq,seval,-Qb,cL,cJ,Zb,hz,hl,e1,PT,h1,hm,Qq,S6,Zg]
 rfl
end
end Go.Ev.YtoipgdjfhahimaaGreat
namespace Go.Ev.YtoipgdjfhahimaaGreat
open Go Go.Ev Go.Proofs
set_option maxRecDepth 100000
theorem ZK {n : Nat} {fn : Func} {a : AFun} (h : Tryz.prog.funcs[n]? = some fn) (e : (compFun Tryz.prog fn, fn.name == "runtime.NumGoroutine") = (some a.strip, false)) : ∃ fn, Tryz.prog.funcs[n]? = some fn ∧ compFun Tryz.prog fn = some a.strip ∧ (fn.name == "runtime.NumGoroutine") = false := ⟨fn, h, congrArg Prod.fst e, congrArg Prod.snd e⟩
theorem aV(args:Array Value)(w:World):(callFunc 207 args).run Tryz.prog w=(((do
  let (x, y, c) ← Extern.MathBitsCarry.three "Add64" args
  pure (Extern.MathBitsCarry.pair ((x+y+c)%Extern.MathBitsCarry.m64) ((x+y+c)/Extern.MathBitsCarry.m64))):Sem Value).run Tryz.prog w).andThen fun v w'=>.ok (.value v) w' :=
 run_callFunc_extern (e:=fun args=>do
  let (x, y, c) ← Extern.MathBitsCarry.three "Add64" args
  pure (Extern.MathBitsCarry.pair ((x+y+c)%Extern.MathBitsCarry.m64) ((x+y+c)/Extern.MathBitsCarry.m64))) Tryz.func207 (by kernel_rfl) (by kernel_rfl) (by kernel_rfl) (by kernel_rfl) args w
theorem dF(P:Program)(w:World)(x y c:Int)(hc:c.toNat<=1):(((do
  let (x, y, c) ← Extern.MathBitsCarry.three "Add64" [Value.int .u64 x, .int .u64 y, .int .u64 c].toArray
  pure (Extern.MathBitsCarry.pair ((x+y+c)%Extern.MathBitsCarry.m64) ((x+y+c)/Extern.MathBitsCarry.m64))):Sem Value).run P w)=.ok (.tuple #[.int .u64 ((x.toNat+y.toNat+c.toNat)%18446744073709551616:Nat),.int .u64 ((x.toNat+y.toNat+c.toNat)/18446744073709551616:Nat)]) w:=by
 have hc':¬c.toNat>1:=qr
 have e : Extern.MathBitsCarry.three "Add64" [Value.int .u64 x, .int .u64 y, .int .u64 c].toArray = (if c.toNat > 1 then (do unsupported (.noEntry ("extern/math/bits." ++ "Add64" ++ ": a carry that is neither 0 nor 1")); pure (x.toNat, y.toNat, c.toNat)) else pure (x.toNat, y.toNat, c.toNat) : Sem (Nat × Nat × Nat)) := by
  rfl
 rw[e,if_neg hc']
 rfl
theorem vO(f:Nat)(args:List Value)(v:Value)(h:T.ext f args=some v):(∀ρ,VRel ρ v v)/\∀w,(callFunc f args.toArray).run Tryz.prog w=.ok (.value v) w:=by
 have h':tE f args=some v:=h
 unfold tE at h'
 split at h'
 ·split at h'
  ·rename_i hc
   cases h'
   refine⟨fun ρ=>VRel.tuple (.cons (.same rfl) (.cons (.same rfl) .nil)),fun w =>?_⟩
   rw[aV,dF _ _ _ _ _ hc]
   rfl
  ·cases h'
 ·cases h'
theorem tabOk:TabOk Tryz.prog T:=by
 refine⟨fun f af h =>?_,fun f args v _ h _=>vO f args v h⟩
 have h':fnS f=some af:=h
 unfold fnS at h'
 split at h'
 ·cases h';exact ZK Tryz.func104 (by kernel_rfl)
 ·cases h';exact ZK Tryz.func134 (by kernel_rfl)
 ·cases h';exact ZK Tryz.func150 (by kernel_rfl)
 ·cases h';exact ZK Tryz.func103 (by kernel_rfl)
 ·cases h';exact ZK Tryz.func65 (by kernel_rfl)
 ·cases h';exact ZK Tryz.func75 (by kernel_rfl)
 ·cases h';exact ZK Tryz.func148 (by kernel_rfl)
 ·cases h';exact ZK Tryz.func68 (by kernel_rfl)
 ·cases h';exact ZK Tryz.func69 (by kernel_rfl)
 ·cases h';exact ZK Tryz.func67 (by kernel_rfl)
 ·cases h';exact ZK Tryz.func127 (by kernel_rfl)
 ·cases h';exact ZK Tryz.func71 (by kernel_rfl)
 ·cases h';exact ZK Tryz.func129 (by kernel_rfl)
 ·cases h';exact ZK Tryz.func63 (by kernel_rfl)
 ·cases h';exact ZK Tryz.func72 (by kernel_rfl)
 ·cases h';exact ZK Tryz.func73 (by kernel_rfl)
 ·cases h';exact ZK Tryz.func70 (by kernel_rfl)
 ·cases h';exact ZK Tryz.func79 (by kernel_rfl)
 ·cases h';exact ZK Tryz.func80 (by kernel_rfl)
 ·cases h';exact ZK Tryz.func78 (by kernel_rfl)
 ·cases h';exact ZK Tryz.func74 (by kernel_rfl)
 ·cases h';exact ZK Tryz.func64 (by kernel_rfl)
 ·cases h';exact ZK Tryz.func130 (by kernel_rfl)
 ·cases h';exact ZK Tryz.func166 (by kernel_rfl)
 ·cases h';exact ZK Tryz.func167 (by kernel_rfl)
 ·cases h';exact ZK Tryz.func196 (by kernel_rfl)
 ·cases h';exact ZK Tryz.func164 (by kernel_rfl)
 ·cases h';exact ZK Tryz.func165 (by kernel_rfl)
 ·cases h';exact ZK Tryz.func131 (by kernel_rfl)
 ·cases h';exact ZK Tryz.func132 (by kernel_rfl)
 ·cases h';exact ZK Tryz.func147 (by kernel_rfl)
 ·cases h';exact ZK Tryz.func105 (by kernel_rfl)
 ·cases h';exact ZK Tryz.func106 (by kernel_rfl)
 ·cases h';exact ZK Tryz.func109 (by kernel_rfl)
 ·cases h';exact ZK Tryz.func124 (by kernel_rfl)
 ·cases h';exact ZK Tryz.func128 (by kernel_rfl)
 ·cases h';exact ZK Tryz.func135 (by kernel_rfl)
 ·cases h';exact ZK Tryz.func185 (by kernel_rfl)
 ·cases h';exact ZK Tryz.func110 (by kernel_rfl)
 ·cases h';exact ZK Tryz.func111 (by kernel_rfl)
 ·cases h';exact ZK Tryz.func136 (by kernel_rfl)
 ·cases h';exact ZK Tryz.func120 (by kernel_rfl)
 ·cases h';exact ZK Tryz.func121 (by kernel_rfl)
 ·cases h';exact ZK Tryz.func122 (by kernel_rfl)
 ·cases h';exact ZK Tryz.func123 (by kernel_rfl)
 ·cases h';exact ZK Tryz.func125 (by kernel_rfl)
 ·cases h';exact ZK Tryz.func126 (by kernel_rfl)
 ·cases h';exact ZK Tryz.func137 (by kernel_rfl)
 ·cases h';exact ZK Tryz.func138 (by kernel_rfl)
 ·cases h';exact ZK Tryz.func139 (by kernel_rfl)
 ·cases h';exact ZK Tryz.func140 (by kernel_rfl)
 ·cases h';exact ZK Tryz.func141 (by kernel_rfl)
 ·cases h';exact ZK Tryz.func142 (by kernel_rfl)
 ·cases h';exact ZK Tryz.func143 (by kernel_rfl)
 ·cases h';exact ZK Tryz.func144 (by kernel_rfl)
 ·cases h';exact ZK Tryz.func145 (by kernel_rfl)
 ·cases h';exact ZK Tryz.func146 (by kernel_rfl)
 ·cases h';exact ZK Tryz.func186 (by kernel_rfl)
 ·cases h';exact ZK Tryz.func205 (by kernel_rfl)
 ·cases h';exact ZK Tryz.func170 (by kernel_rfl)
 ·cases h';exact ZK Tryz.func171 (by kernel_rfl)
 ·cases h';exact ZK Tryz.func172 (by kernel_rfl)
 ·cases h';exact ZK Tryz.func173 (by kernel_rfl)
 ·cases h';exact ZK Tryz.func174 (by kernel_rfl)
 ·cases h';exact ZK Tryz.func169 (by kernel_rfl)
 ·cases h';exact ZK Tryz.func175 (by kernel_rfl)
 ·cases h';exact ZK Tryz.func176 (by kernel_rfl)
 ·cases h';exact ZK Tryz.func190 (by kernel_rfl)
 ·cases h';exact ZK Tryz.func191 (by kernel_rfl)
 ·cases h';exact ZK Tryz.func192 (by kernel_rfl)
 ·cases h';exact ZK Tryz.func193 (by kernel_rfl)
 ·cases h';exact ZK Tryz.func194 (by kernel_rfl)
 ·cases h';exact ZK Tryz.func195 (by kernel_rfl)
 ·cases h';exact ZK Tryz.func206 (by kernel_rfl)
 ·cases h';exact ZK Tryz.func211 (by kernel_rfl)
 ·cases h';exact ZK Tryz.func53 (by kernel_rfl)
 ·cases h';exact ZK Tryz.func31 (by kernel_rfl)
 ·cases h';exact ZK Tryz.func54 (by kernel_rfl)
 ·cases h';exact ZK Tryz.func102 (by kernel_rfl)
 ·cases h';exact ZK Tryz.func66 (by kernel_rfl)
 ·cases h';exact ZK Tryz.func133 (by kernel_rfl)
 ·cases h';exact ZK Tryz.func187 (by kernel_rfl)
 ·cases h';exact ZK Tryz.func188 (by kernel_rfl)
 ·cases h';exact ZK Tryz.func189 (by kernel_rfl)
 ·cases h';exact ZK Tryz.func177 (by kernel_rfl)
 ·cases h';exact ZK Tryz.func210 (by kernel_rfl)
 ·cases h';exact ZK Tryz.func179 (by kernel_rfl)
 ·cases h';exact ZK Tryz.func214 (by kernel_rfl)
 ·cases h';exact ZK Tryz.func209 (by kernel_rfl)
 ·cases h';exact ZK Tryz.func62 (by kernel_rfl)
 ·cases h';exact ZK Tryz.func33 (by kernel_rfl)
 ·cases h';exact ZK Tryz.func119 (by kernel_rfl)
 ·cases h';exact ZK Tryz.func76 (by kernel_rfl)
 ·cases h';exact ZK Tryz.func77 (by kernel_rfl)
 ·cases h';exact ZK Tryz.func149 (by kernel_rfl)
 ·cases h';exact ZK Tryz.func118 (by kernel_rfl)
 ·cases h';exact ZK Tryz.func180 (by kernel_rfl)
 ·cases h';exact ZK Tryz.func181 (by kernel_rfl)
 ·cases h';exact ZK Tryz.func182 (by kernel_rfl)
 ·cases h';exact ZK Tryz.func183 (by kernel_rfl)
 ·cases h';exact ZK Tryz.func184 (by kernel_rfl)
 ·cases h';exact ZK Tryz.func6 (by kernel_rfl)
 ·cases h';exact ZK Tryz.func21 (by kernel_rfl)
 ·cases h';exact ZK Tryz.func7 (by kernel_rfl)
 ·cases h';exact ZK Tryz.func22 (by kernel_rfl)
 ·cases h';exact ZK Tryz.func23 (by kernel_rfl)
 ·cases h';exact ZK Tryz.func24 (by kernel_rfl)
 ·cases h';exact ZK Tryz.func10 (by kernel_rfl)
 ·cases h';exact ZK Tryz.func32 (by kernel_rfl)
 ·cases h';exact ZK Tryz.func25 (by kernel_rfl)
 ·cases h';exact ZK Tryz.func26 (by kernel_rfl)
 ·cases h';exact ZK Tryz.func55 (by kernel_rfl)
 ·cases h';exact ZK Tryz.func56 (by kernel_rfl)
 ·cases h';exact ZK Tryz.func57 (by kernel_rfl)
 ·cases h';exact ZK Tryz.func58 (by kernel_rfl)
 ·cases h';exact ZK Tryz.func107 (by kernel_rfl)
 ·cases h';exact ZK Tryz.func108 (by kernel_rfl)
 ·cases h';exact ZK Tryz.func112 (by kernel_rfl)
 ·cases h';exact ZK Tryz.func113 (by kernel_rfl)
 ·cases h';exact ZK Tryz.func114 (by kernel_rfl)
 ·cases h';exact ZK Tryz.func115 (by kernel_rfl)
 ·cases h';exact ZK Tryz.func116 (by kernel_rfl)
 ·cases h';exact ZK Tryz.func168 (by kernel_rfl)
 ·cases h';exact ZK Tryz.func151 (by kernel_rfl)
 ·cases h';exact ZK Tryz.func152 (by kernel_rfl)
 ·cases h';exact ZK Tryz.func82 (by kernel_rfl)
 ·cases h';exact ZK Tryz.func178 (by kernel_rfl)
 ·cases h';exact ZK Tryz.func208 (by kernel_rfl)
 ·cases h';exact ZK Tryz.func3 (by kernel_rfl)
 ·cases h';exact ZK Tryz.func8 (by kernel_rfl)
 ·cases h';exact ZK Tryz.func9 (by kernel_rfl)
 ·cases h';exact ZK Tryz.func11 (by kernel_rfl)
 ·cases h';exact ZK Tryz.func30 (by kernel_rfl)
 ·cases h';exact ZK Tryz.func29 (by kernel_rfl)
 ·cases h';exact ZK Tryz.func27 (by kernel_rfl)
 ·cases h';exact ZK Tryz.func28 (by kernel_rfl)
 ·cases h';exact ZK Tryz.func34 (by kernel_rfl)
 ·cases h';exact ZK Tryz.func40 (by kernel_rfl)
 ·cases h';exact ZK Tryz.func59 (by kernel_rfl)
 ·cases h';exact ZK Tryz.func43 (by kernel_rfl)
 ·cases h';exact ZK Tryz.func60 (by kernel_rfl)
 ·cases h';exact ZK Tryz.func61 (by kernel_rfl)
 ·cases h';exact ZK Tryz.func81 (by kernel_rfl)
 ·cases h';exact ZK Tryz.func87 (by kernel_rfl)
 ·cases h';exact ZK Tryz.func117 (by kernel_rfl)
 ·cases h';exact ZK Tryz.func86 (by kernel_rfl)
 ·cases h';exact ZK Tryz.func158 (by kernel_rfl)
 ·cases h';exact ZK Tryz.func159 (by kernel_rfl)
 ·cases h';exact ZK Tryz.func157 (by kernel_rfl)
 ·cases h'
theorem mixed:Tryz.prog.follows .mixedOrders=true:=by kernel_rfl
end Go.Ev.YtoipgdjfhahimaaGreat
namespace Go.Ev
open Go.RowKit Go.WideShapes Go.ChangeShapes
variable{w:World}{base:Nat}{t e:TypeId}
theorem eB{P:Program}{r:Reach}{v:Value}{n:Nat}(ht:(match P.underlying t with|some (.struct _)|some (.array _ _)=>true|_=>false)=true)(hc:P.cellsOf t=n)(hts:P.cellTypes P.depth t=some (Qa n e))(he:P.underlying e=some (.int .u8))(hn:0<n)
 (h:Value.okWide P w r base t v):∃l:List Nat,v=.agg (u8s l).toArray/\l.length=n/\∀x∈l,x<256:=by
  have h':∃cs,v=.agg cs/\cs.size=P.cellsOf t/\Row.okWide P w r base t cs:=by
    unfold Value.okWide at h
    split at ht
    · rename_i e;rw[e]at h;exact h
    · rename_i e;rw[e]at h;exact h
    · cases ht
  obtain⟨cs,rfl,h1,ts,h2,-,h3⟩:=h'
  rw[hc]at h1
  rw[hts]at h2
  cases h2
  have hcell:∀(i:Nat) (v:Value),cs[i]?=some v->∃x:Nat,v=Value.int .u8 (x:Nat)/\x<256:=by
    intro i v hv
    obtain⟨u,g1,g2⟩:=h3 i v hv
    have hu:u=e:=by
      have:=Qo g1
      exact List.eq_of_mem_replicate this
    subst hu
    simp only[Cell.okWide,Cell.ok,he]at g2
    cases v<;>try(exact g2.elim)
    · rename_i k x
      obtain⟨rfl,g3,g4⟩:=g2
      have g3':(0:Int)<=x:=g3
      have g4':x<=255:=g4
      exact⟨x.toNat,by rw[BT g3'],by omega⟩
  refine⟨cs.toList.map fun v=>match v with | .int _ n=>n.toNat|_=>0,?_,by simp[h1],?_⟩
  · congr 1
    apply Array.ext_getElem?
    intro i
    simp only[u8s,List.map_map,List.getElem?_toArray,JB,ZA]
    cases hv:cs[i]? with
    |none=>rfl
    |some v =>
      obtain⟨x,rfl,hx⟩:=hcell i v hv
      simp
  · intro x hx
    simp only[Xo]at hx
    obtain⟨v,hv,rfl⟩:=hx
    obtain⟨i,hi⟩:=List.mem_iff_getElem?.1 hv
    rw[ZA]at hi
    obtain⟨x,rfl,hx⟩:=hcell i v hi
    simpa using hx
theorem Tq:∀(l:List Value),(∀v∈l,∃x:Nat,v=Value.int .u8 (x:Nat)/\x<256)->∃a:List Nat,l=u8s a/\∀x∈a,x<256
 |[],_=>⟨[],rfl,by simp⟩
 |v::l,h=>by
  obtain⟨x,rfl,hx⟩:=h v wd
  obtain⟨a,rfl,ha⟩:=Tq l fun v hv=>h v (Vq _ hv)
  exact⟨x::a,rfl,fun y hy=>(Jr.1 hy).elim (fun e=>e▸hx) (ha y)⟩
theorem my{P:Program}{r:Reach}{d:TypeId}{v:Value}{n m:Nat}(ht:(match P.underlying t with|some (.struct _)|some (.array _ _)=>true|_=>false)=true)(hc:P.cellsOf t=n+(2+m))(hts:P.cellTypes P.depth t=some (Qa n e++(d::d::Qa m e)))(he:P.underlying e=some (.int .u8))(hd:P.underlying d=some (.int .u32))
 (h:Value.okWide P w r base t v):∃(a:List Nat) (i j:Nat) (b:List Nat),v=.agg (u8s a++(.int .u32 (i:Nat)::.int .u32 (j:Nat)::u8s b)).toArray/\a.length=n/\b.length=m/\(∀x∈a,x<256)/\(∀x∈b,x<256)/\i<2^32/\j<2^32:=by
  have h':∃cs,v=.agg cs/\cs.size=P.cellsOf t/\Row.okWide P w r base t cs:=by
    unfold Value.okWide at h
    split at ht
    · rename_i e;rw[e]at h;exact h
    · rename_i e;rw[e]at h;exact h
    · cases ht
  obtain⟨cs,rfl,h1,ts,h2,-,h3⟩:=h'
  rw[hc]at h1
  rw[hts]at h2
  cases h2
  have hb:∀(i:Nat) (v:Value),cs[i]?=some v->(Qa n e++(d::d::Qa m e))[i]?=some e->∃x:Nat,v=Value.int .u8 (x:Nat)/\x<256:=by
    intro i v hv hi
    obtain⟨u,g1,g2⟩:=h3 i v hv
    rw[Qv (by have:=(GB.1 hv).1;simp;omega)]at g1
    have hu:u=e:=Xp (g1.symm.trans hi)
    subst hu
    simp only[Cell.okWide,Cell.ok,he]at g2
    cases v<;>try(exact g2.elim)
    · rename_i k x
      obtain⟨rfl,g3,g4⟩:=g2
      have g3':(0:Int)<=x:=g3
      have g4':x<=255:=g4
      exact⟨x.toNat,by rw[BT g3'],by omega⟩
  have hw:∀(i:Nat) (v:Value),cs[i]?=some v->(Qa n e++(d::d::Qa m e))[i]?=some d->∃x:Nat,v=Value.int .u32 (x:Nat)/\x<2^32:=by
    intro i v hv hi
    obtain⟨u,g1,g2⟩:=h3 i v hv
    rw[Qv (by have:=(GB.1 hv).1;simp;omega)]at g1
    have hu:u=d:=Xp (g1.symm.trans hi)
    subst hu
    simp only[Cell.okWide,Cell.ok,hd]at g2
    cases v<;>try(exact g2.elim)
    · rename_i k x
      obtain⟨rfl,g3,g4⟩:=g2
      have g3':(0:Int)<=x:=g3
      have g4':x<=4294967295:=g4
      exact⟨x.toNat,by rw[BT g3'],by omega⟩
  have get:∀i,i<n+(2+m)->∃v,cs[i]?=some v:=fun i hi=>⟨cs[i]'qr,Array.getElem?_eq_getElem qr⟩
  have ll:cs.toList.length=n+(2+m):=by simpa using h1
  obtain⟨v1,hv1⟩:=get n qr
  obtain⟨v2,hv2⟩:=get (n+1) qr
  obtain⟨i,rfl,hi⟩:=hw n v1 hv1 (by rw[Qh wd];simp)
  obtain⟨j,rfl,hj⟩:=hw (n+1) v2 hv2 (by rw[Qh wd];simp)
  obtain⟨a,ha,xa⟩:=Tq (cs.toList.take n) fun v hv=>by
    obtain⟨k,hk⟩:=Xf hv
    rw[QW]at hk
    split at hk
    · rename_i hkn
      rw[ZA]at hk
      exact hb k v hk (by rw[Qc (by simpa using hkn)];simp[hkn])
    · cases hk
  obtain⟨b,hb',xb⟩:=Tq (cs.toList.drop (n+2)) fun v hv=>by
    obtain⟨k,hk⟩:=Xf hv
    rw[Zp,ZA]at hk
    have hlt:=(GB.1 hk).1
    refine hb _ v hk ?_
    rw[Qh (by simp;omega),Qe,show n+2+k-n=k+2 by omega,JU,JU,Kx,if_pos qr]
  refine⟨a,i,j,b,?_,?_,?_,xa,xb,hi,hj⟩
  · congr 1
    rw[<-ha,<-hb']
    apply Array.ext'
    rw[List.toList_toArray]
    conv=>lhs;rw[<-Zn n cs.toList]
    congr 1
    have c1:cs.toList[n]?=some (.int .u32 (i:Nat)):=by rw[ZA];exact hv1
    have c2:cs.toList[n+1]?=some (.int .u32 (j:Nat)):=by rw[ZA];exact hv2
    obtain⟨q1,q2⟩:=Qg.1 c1
    obtain⟨q3,q4⟩:=Qg.1 c2
    rw[Jp q1,q2,Jp q3,q4]
  · have:=congrArg zl ha
    rw[Q3,ll,Qq]at this
    omega
  · have:=congrArg zl hb'
    rw[QN,ll,Qq]at this
    omega
end Go.Ev
namespace Go.Ev
variable{f b:Nat}{args:List Value}{v:Value}
theorem n_add(a b:Nat):(a:Int)+(b:Int)=((a+b:Nat):Int):=(Jm a b).symm
theorem n_mul(a b:Nat):(a:Int)*(b:Int)=((a*b:Nat):Int):=(JN a b).symm
theorem wR(n a:Nat):(no_index (@OfNat.ofNat Int n instOfNat))+(a:Int)=((n+a:Nat):Int):=(Jm n a).symm
theorem wS(n a:Nat):(a:Int)+(no_index (@OfNat.ofNat Int n instOfNat))=((a+n:Nat):Int):=(Jm a n).symm
theorem wQ(n a:Nat):(no_index (@OfNat.ofNat Int n instOfNat))*(a:Int)=((n*a:Nat):Int):=(JN n a).symm
theorem wP(n a:Nat):(a:Int)*(no_index (@OfNat.ofNat Int n instOfNat))=((a*n:Nat):Int):=(JN a n).symm
theorem Tf(a b:Nat):Int.fdiv (a:Int) (b:Int)=((a/b:Nat):Int):=by
 rw[Int.fdiv_eq_ediv_of_nonneg _ (Int.natCast_nonneg _)];rfl
theorem sD(a n:Nat):Int.fdiv (a:Int) (no_index (@OfNat.ofNat Int n instOfNat))=((a/n:Nat):Int):=Tf a n
theorem wO(a n:Nat):Int.tdiv (a:Int) (no_index (@OfNat.ofNat Int n instOfNat))=((a/n:Nat):Int):=rfl
theorem wN(a n:Nat):Int.tmod (a:Int) (no_index (@OfNat.ofNat Int n instOfNat))=((a%n:Nat):Int):=rfl
theorem UC(a:Nat):IntKind.u64.wrap (a:Int)=((a%18446744073709551616:Nat):Int):=by rw[WU];omega
theorem Cw(a:Nat):IntKind.u32.wrap (a:Int)=((a%4294967296:Nat):Int):=by rw[wrap_u32];omega
theorem n_w16(a:Nat):IntKind.u16.wrap (a:Int)=((a%65536:Nat):Int):=by rw[ik];omega
theorem Bb(a:Nat):IntKind.u8.wrap (a:Int)=((a%256:Nat):Int):=by rw[wrap_u8];omega
theorem LG(a b:Nat):IntKind.u64.wrap ((a:Int)-(b:Int))=(((a+(18446744073709551616-b%18446744073709551616))%18446744073709551616:Nat):Int):=by rw[WU];omega
theorem mW(n b:Nat):IntKind.u64.wrap ((no_index (@OfNat.ofNat Int n instOfNat))-(b:Int))=(((n+(18446744073709551616-b%18446744073709551616))%18446744073709551616:Nat):Int):=LG n b
theorem mV(a n:Nat):IntKind.u64.wrap ((a:Int)-(no_index (@OfNat.ofNat Int n instOfNat)))=(((a+(18446744073709551616-n%18446744073709551616))%18446744073709551616:Nat):Int):=LG a n
theorem Cs(w a:Nat):BitVec.ofInt w (a:Int)=BitVec.ofNat w a:=by simp
theorem n_and(k:IntKind)(hk:k.signed=false)(a b:Nat):Zr .and k (a:Int) (b:Int)=(((a%2^k.bits)&&&(b%2^k.bits):Nat):Int):=by
 simp only[Zr,Cs]
 rw[BitVec.toNat_and,BitVec.toNat_ofNat,BitVec.toNat_ofNat,Xj hk (Kb _ (Q9 _ (JT ww)))]
theorem n_or(k:IntKind)(hk:k.signed=false)(a b:Nat):Zr .or k (a:Int) (b:Int)=(((a%2^k.bits)|||(b%2^k.bits):Nat):Int):=by
 simp only[Zr,Cs]
 rw[BitVec.toNat_or,BitVec.toNat_ofNat,BitVec.toNat_ofNat,Xj hk (Nat.or_lt_two_pow (Q9 _ (JT ww)) (Q9 _ (JT ww)))]
theorem Bc(k:IntKind)(hk:k.signed=false)(w a:Nat)(hw:w<=k.bits):Zr .and k (a:Int) ((2^w-1:Nat):Int)=((a%2^w:Nat):Int):=by
 have h1:(2:Nat)^w<=2^k.bits:=Zo ww hw
 have h0:0<(2:Nat)^w:=JT ww
 rw[n_and k hk,Qv (a:=2^w-1) qr,VC,Ws _ (Nat.pow_dvd_pow 2 hw)]
theorem n_m32(a:Nat):Zr .and .u64 (a:Int) 4294967295=((a%4294967296:Nat):Int):=Bc .u64 rfl 32 a ww
theorem n_m51(a:Nat):Zr .and .u64 (a:Int) 2251799813685247=((a%2251799813685248:Nat):Int):=Bc .u64 rfl 51 a ww
theorem n_m1(a:Nat):Zr .and .u64 (a:Int) 1=((a%2:Nat):Int):=Bc .u64 rfl 1 a ww
theorem n_m1b(a:Nat):Zr .and .u8 (a:Int) 1=((a%2:Nat):Int):=Bc .u8 rfl 1 a ww
theorem n_m7b(a:Nat):Zr .and .u8 (a:Int) 127=((a%128:Nat):Int):=Bc .u8 rfl 7 a ww
theorem wA:(2:Int)^min 32 IntKind.u64.bits=((4294967296:Nat):Int):=rfl
theorem wz:(2:Int)^min 51 IntKind.u64.bits=((2251799813685248:Nat):Int):=rfl
theorem wB:(2:Int)^min 13 IntKind.u64.bits=((8192:Nat):Int):=rfl
theorem p8_7:(2:Int)^min 7 IntKind.u8.bits=((128:Nat):Int):=rfl
theorem YK{a n:Nat}(h:a<2^n):(b*2^n)|||a=b*2^n+a:=by
 rw[Zm,Nat.two_pow_add_eq_or_of_lt h]
theorem GW(k:IntKind):ns k []=[]:=rfl
theorem Wi(k:IntKind)(x:Nat)(r:List Nat):ns k (x::r)=.int k (x:Nat)::ns k r:=rfl
theorem A6{w m q s y M:Nat}(hq:q<m)(hs:s<w)(hM:M<2^(w*q+s))(hy:y*2^s<2^w) :
  (dig (2^w) m M).set q ((dig (2^w) m M).getD q 0|||y*2^s)=dig (2^w) m (M+y*2^(w*q+s)):=by
 have hB:(2^w)^q=2^(w*q):=by rw[<-Je]
 have hpos:0<(2^w:Nat)^q:=JT (JT ww)
 have hpow:(2:Nat)^(w*q+s)=2^s*(2^w)^q:=by rw[JI,hB,Zm]
 have hdiv:M/(2^w)^q<2^s:=by rw[Nat.div_lt_iff_lt_mul hpos,<-hpow];exact hM
 have hsw:(2:Nat)^s<=2^w:=Zo ww qr
 have hsum:M/(2^w)^q+y*2^s<2^w:=by
  have h1:(2:Nat)^w=2^(w-s)*2^s:=by rw[<-JI];congr 1;omega
  have h2:y<2^(w-s):=by
   rw[h1]at hy
   exact Nat.lt_of_mul_lt_mul_right hy
  have h3:(y+1)*2^s<=2^(w-s)*2^s:=Z9 _ h2
  rw[Zl,Xd,<-h1]at h3
  omega
 apply HY (by rw[Q4,Zg])
 intro i hi
 by_cases hqi:i=q
 ·subst hqi
  rw[Qw (by rw[Zg];exact hi),QD,XX hi]
  rw[hpow,<-ZD,U0 _ _ hpos]
  simp only[Option.getD_some]
  rw[Qv (a:=M/_) qr,Qv hsum,Nat.or_comm,YK hdiv,Xu]
 ·rw[Qu (Ne.symm hqi),XX hi]
  congr 1
  by_cases hlt:i<q
  ·have h1:(2^w:Nat)^q=2^w*(2^w)^(q-i-1)*(2^w)^i:=by
    rw[ZD,<-JI,<-Nat.pow_add_one'];congr 1;omega
   rw[hpow,h1]
   rw[show y*(2^s*(2^w*(2^w)^(q-i-1)*(2^w)^i))=(y*2^s*(2^w)^(q-i-1)*2^w)*(2^w)^i by simp only[ZD,JM,Zm]]
   rw[U0 _ _ (JT (JT ww)),KJ]
  ·have h1:M+y*2^(w*q+s)<(2^w)^i:=by
    have h2:(2^w:Nat)^(q+1)<=(2^w)^i:=Zo (JT ww) qr
    refine QM ?_ h2
    have h3:(M/(2^w)^q+y*2^s+1)*(2^w)^q<=2^w*(2^w)^q:=Z9 _ hsum
    have h4:=Z5 M ((2^w)^q)
    have h5:=Q9 M hpos
    rw[Zj,Zm ((2^w)^q)]
    refine QM ?_ h3
    rw[hpow,<-ZD,Zl,Zl,Xd,Zm (M/(2^w)^q)]
    omega
   rw[JK h1,JK qr]
def evVal(T:Tab)(f:Nat)(args:List Value):Option Value:=(Z6 T f args []).map (·.1)
theorem Uq{T:Tab}{l:List Ob}{M:List Nat}(h:Z6 T f args []=some (v,l,M)):evVal T f args=some v:=by simp[evVal,h]
theorem XA{T:Tab}(h:∃l,Z6 T f args []=some (v,l,[])):evVal T f args=some v:=by
 obtain⟨l,h⟩:=h
 exact Uq h
theorem QE {T:Tab} {fn:AFun} {v:Value} {l:List Ob} (hf:T.fn f=some fn) (h:((Q0 T ([]:List Ob).length fn.body ⟨Qr 0 args,[],[]⟩).bind fun xs=>match xs.1 with
  |.exit _=>none
  |_=>(Zt xs.2.env xs.2.h fn.results).bind fun vs=>some (packed vs,xs.2.h,xs.2.log))=some (v,l,[])):evVal T f args=some v:=XA ⟨l,by rw[QY hf];exact h⟩
theorem JJ{T:Tab}{q:Bool}{f:Nat}{xs:List Operand}{d:Option Nat}{r:List AOper}{e:Env}{H:List Ob}{l:List Nat}:steps T b q (⟨d,.call f xs true,none⟩::r) ⟨e,H,l⟩=(Xb e xs).bind fun args=>gate (args.all rf=true) ((evVal T f args).bind fun v=>gate (rf v=true) (steps T b q r ⟨e.put d v,H,l⟩)):=by
 rw[Jy]
 cases Xb e xs with
 |none=>rfl
 |some args =>
  simp only[Qp,evVal]
  cases Z6 T f args []<;>rfl
def cU:=Qi (Qi (Qi (Qi (@n_add) (Qi (@n_mul) (@wR))) (Qi (@wS) (Qi (@wQ) (@wP)))) (Qi (Qi (@Tf) (Qi (@sD) (@wO))) (Qi (Qi (@wN) (@UC)) (Qi (@Cw) (@n_w16))))) (Qi (Qi (Qi (@Bb) (Qi (@LG) (@mW))) (Qi (@mV) (Qi (@n_m32) (@n_m51)))) (Qi (Qi (@n_m1) (Qi (@n_m1b) (@n_m7b))) (Qi (Qi (@wA) (@wz)) (Qi (@wB) (@p8_7)))))
end Go.Ev
namespace Go.NT
variable{a n k:Nat}
def Pr(p:Nat):Prop:=2<=p/\∀m,m∣p->m=1\/m=p
theorem Pr.coprime{p a:Nat}(hp:Pr p)(h:¬p∣a):zk p a:=by
 rcases hp.2 (AA p a) (Nat.gcd_dvd_left p a)with h1|h1
 ·exact h1
 ·exact absurd (h1▸Nat.gcd_dvd_right p a) h
theorem Pr.dvd_mul{p a b:Nat}(hp:Pr p)(h:p∣a*b):p∣a\/p∣b:=by
 by_cases ha:p∣a
 ·exact .inl ha
 ·exact .inr ((hp.coprime ha).dvd_of_dvd_mul_left h)
def Bx:List Nat->Nat
 |[]=>1
 |x::r=>x*Bx r
theorem SA{l l':List Nat}(h:l.Perm l'):Bx l=Bx l':=by
 induction h with
 |nil=>rfl
 |cons x _ ih=>simp only[Bx,ih]
 |swap x y l=>simp only[Bx,JM]
 |trans _ _ h1 h2=>rw[h1,h2]
theorem bO:∀ {l1 l2:List Nat},l1.Nodup->(∀x∈l1,x∈l2)->l2.length<=l1.length->l1.Perm l2
 |[],l2,_,_,hl=>by
  have:l2=[]:=by cases l2 with|nil=>rfl|cons _ _=>simp at hl
  subst this;exact .nil
 |a::t,l2,hn,hs,hl=>by
  have ha:=hs a wd
  have hp:=List.perm_cons_erase ha
  have hlen:=hp.length_eq
  rw[List.nodup_cons]at hn
  refine(List.Perm.cons a (bO hn.2 (fun x hx =>?_) ?_)).trans hp.symm
  ·have hxa:x≠a:=fun h=>hn.1 (h▸hx)
   exact(List.mem_erase_of_ne hxa).2 (hs x (by simp[hx]))
  ·simp only[Zv]at hl hlen ⊢
   omega
theorem Ic(a p:Nat):∀l:List Nat,Bx (l.map fun x=>a*x%p)%p=a^l.length*Bx l%p
 |[]=>by simp[Bx]
 |x::r=>by
  have h1:=Ic a p r
  simp only[JC,Bx,Zv,Zj]
  rw[YD,h1,Kl,<-YD]
  congr 1
  simp only[ZD,JM,Zm]
theorem Ce{p:Nat}(hp:Pr p):∀ {l:List Nat},(∀x∈l,¬p∣x)->¬p∣Bx l
 |[],_=>fun h=>by
  have:=Vv (by decide:0<1) h
  have:=hp.1
  omega
 |x::r,h=>fun hd=>by
  rcases hp.dvd_mul hd with h1|h1
  ·exact h x wd h1
  ·exact Ce hp (fun y hy=>h y (by simp[hy])) h1
theorem Tj{p:Nat}(hp:Pr p)(ha:¬p∣a):a^(p-1)%p=1:=by
 have h2:=hp.1
 have hnd:((Ya 1 (p-1)).map fun x=>a*x%p).Nodup:=by
  rw[List.nodup_iff_pairwise_ne,List.pairwise_map]
  refine List.Pairwise.imp_of_mem ?_ (List.pairwise_lt_range' (s:=1) (n:=p-1))
  intro x y hx hy hxy he
  simp only[No]at hx hy
  have h3:(a*y-a*x)%p=0:=Bh he.symm
  rw[<-Nat.mul_sub]at h3
  rcases hp.dvd_mul (WL h3)with h4|h4
  ·exact ha h4
  ·have:=Vv qr h4
   omega
 have hmem:∀x∈(Ya 1 (p-1)).map (fun x=>a*x%p),x∈Ya 1 (p-1):=by
  intro x hx
  simp only[Xo,No]at hx ⊢
  obtain⟨y,hy,rfl⟩:=hx
  have h3:a*y%p<p:=Q9 _ qr
  have h4:a*y%p≠0:=fun h=>by
   rcases hp.dvd_mul (WL h)with h4|h4
   ·exact ha h4
   ·have:=Vv qr h4
    omega
  omega
 have hperm:=SA (bO hnd hmem wd)
 have h5:=Ic a p (Ya 1 (p-1))
 rw[hperm,List.length_range']at h5
 have h6:¬p∣Bx (Ya 1 (p-1)):=Ce hp fun x hx hd=>by
  simp only[No]at hx
  have:=Vv qr hd
  omega
 have h7:(a^(p-1)*Bx (Ya 1 (p-1))-1*Bx (Ya 1 (p-1)))%p=0:=Bh (by rw[<-h5,Xd])
 rw[<-Nat.sub_mul]at h7
 have ha0:0<a:=Nat.pos_of_ne_zero fun h=>ha (h▸Nat.dvd_zero p)
 have h8:0<a^(p-1):=JT ha0
 rcases hp.dvd_mul (WL h7)with h9|h9
 ·obtain⟨k,hk⟩:=h9
  have:a^(p-1)=p*k+1:=qr
  rw[this,Nat.mul_add_mod,Qv qr]
 ·exact absurd h9 h6
theorem Tg{n:Nat}(hn:2<=n):∃r,Pr r/\r∣n/\(Pr n\/r*r<=n):=by
 have ex:∃r,2<=r/\r∣n/\∀m,2<=m->m∣n->r<=m:=by
  have key:∀k,(∃r,2<=r/\r∣n/\r<=k)->∃r,2<=r/\r∣n/\∀m,2<=m->m∣n->r<=m:=by
   intro k
   induction k with
   |zero=>rintro⟨r,h1,_,h3⟩;omega
   |succ k ih =>
    rintro⟨r,h1,h2,h3⟩
    by_cases h:∃r,2<=r/\r∣n/\r<=k
    ·exact ih h
    ·refine⟨r,h1,h2,fun m hm hmd =>?_⟩
     rcases ZL k m with h4|h4
     ·omega
     ·exact absurd ⟨m,hm,hmd,h4⟩ h
  exact key n ⟨n,hn,Nat.dvd_refl n,Qs n⟩
 obtain⟨r,h1,h2,h3⟩:=ex
 have hr:Pr r:=⟨h1,fun m hm=>by
  have hm0:0<m:=Nat.pos_of_dvd_of_pos hm qr
  rcases ZL m 2 with h|h
  ·left;omega
  ·have:=h3 m h (qa hm h2)
   have:=Vv qr hm
   right;omega⟩
 refine⟨r,hr,h2,?_⟩
 obtain⟨k,rfl⟩:=h2
 rcases ZL k 2 with h|h
 ·have:k=1:=by
   rcases Jo k with h0|h0
   ·subst h0;omega
   ·omega
  subst this
  rw[Vn];exact .inl hr
 ·exact .inr (Nat.mul_le_mul_left r (h3 k h (PO k r)))
def pw(m a:Nat):Nat->Nat->Nat
 |0,_=>1%m
 |f+1,e=>if e%2=1 then(pw m a f (e/2))*(pw m a f (e/2))%m*a%m else(pw m a f (e/2))*(pw m a f (e/2))%m
theorem vf(m a:Nat):∀(f e:Nat),e<2^f->pw m a f e=a^e%m
 |0,e,h=>by
  have:e=0:=by simpa using h
  subst this;rfl
 |f+1,e,h=>by
  have ih:=vf m a f (e/2) (by rw[Zj]at h;omega)
  have hs:a^(e/2)%m*(a^(e/2)%m)%m=a^(2*(e/2))%m:=by
   rw[<-YD,<-JI];congr 2;omega
  unfold pw
  rw[ih]
  by_cases he:e%2=1
  ·rw[if_pos he,hs,BQ,<-Zj]
   congr 2;omega
  ·rw[if_neg he,hs]
   congr 2;omega
def pwf(m a:Nat):Nat->Nat->Nat
 |0,_=>1%m
 |f+1,e=>(fun r=>if e%2=1 then r*r%m*a%m else r*r%m) (pwf m a f (e/2))
theorem rC{r:Nat}(hr:2<=r)(b x y:Nat):b^x%r=1->b^y%r=1->b^(AA x y)%r=1:=by
 induction x,y using Nat.gcd.induction with
 |H0 y=>intro _ h;rwa[Nat.gcd_zero_left]
 |H1 x y hx ih =>
  intro h1 h2
  rw[Nat.gcd_rec]
  refine ih ?_ h1
  have h3:b^(x*(y/x)+y%x)%r=1:=by rw[Z5];exact h2
  rw[JI,Je,YD,zj (b^x),h1,Nat.one_pow,Qv (a:=1) qr,Xd,Kl]at h3
  exact h3
theorem wq{n q k a r:Nat}(hq:Pr q)(hk:n=q*k+1)(h1:a^(q*k)%n=1)(h2:AA (a^k%n+n-1) n=1)(hr:Pr r)(hrn:r∣n):q∣r-1:=by
 have hr2:=hr.1
 have hn0:0<n:=qr
 have hn2:r<=n:=Vv hn0 hrn
 have hmodr:∀x,x%n%r=x%r:=fun x=>Ws x hrn
 have hb1:a^(q*k)%r=1:=by rw[<-hmodr,h1,Qv qr]
 have hra:¬r∣a:=fun h=>by
  have hqk:0<q*k:=by
   rcases Jo (q*k)with h0|h0
   ·omega
   ·exact h0
  have:r∣a^(q*k):=by
   obtain⟨m,hm⟩:∃m,q*k=m+1:=⟨q*k-1,by omega⟩
   rw[hm,Zj]
   exact qa h (PO a _)
  have:=R1 this
  omega
 have hf:=Tj hr hra
 by_cases hqd:q∣r-1
 ·exact hqd
 ·exfalso
  have hc:=hq.coprime hqd
  have hpow:∀x:Nat,∀c,c%r=1->c^x%r=1:=fun x c hcx=>by rw[zj,hcx,Nat.one_pow,Qv qr]
  have hk1:(a^k)^q%r=1:=by rw[<-Je,Zm k q];exact hb1
  have hk2:(a^k)^(r-1)%r=1:=by rw[<-Je,Zm k,Je];exact hpow k _ hf
  have hak:a^k%r=1:=by
   have:=rC hr2 (a^k) q (r-1) hk1 hk2
   rwa[hc,Nat.pow_one]at this
  have hdvd:r∣a^k%n+n-1:=by
   have e3:a^k%n%r=1:=by rw[hmodr];exact hak
   have e4:1<=a^k%n:=by
    rcases Jo (a^k%n)with h0|h0
    ·rw[h0,Nat.zero_mod]at e3;omega
    ·exact h0
   have e5:r∣a^k%n-1:=by
    apply WL
    exact Bh (by rw[e3,Qv qr])
   rw[show a^k%n+n-1=(a^k%n-1)+n by omega]
   exact Nat.dvd_add e5 hrn
  have:=Nat.dvd_gcd hdvd hrn
  rw[h2]at this
  have:=Vv ww this
  omega
theorem mi{q:Nat}(hn:2<=n)(hq:Pr q)(hk:n=q*k+1)(hbig:n<q*q)(h1:a^(q*k)%n=1)(h2:AA (a^k%n+n-1) n=1):Pr n:=by
 obtain⟨r,hr,hrn,h|h⟩:=Tg hn
 ·exact h
 ·have h3:=wq hq hk h1 h2 hr hrn
  have:=hr.1
  have h4:=Vv qr h3
  have:q*q<=r*r:=Xe qr qr
  omega
theorem mh{q q' k' a':Nat}(hn:2<=n)(hq:Pr q)(hk:n=q*k+1)(hq':Pr q')(hk':n=q'*k'+1)(hne:q≠q')(hbig:n<(q*q')*(q*q'))(h1:a^(q*k)%n=1)(h2:AA (a^k%n+n-1) n=1)
 (h1':a'^(q'*k')%n=1) (h2':AA (a'^k'%n+n-1) n=1):Pr n:=by
  obtain⟨r,hr,hrn,h|h⟩:=Tg hn
  · exact h
  · have h3:=wq hq hk h1 h2 hr hrn
    have h3':=wq hq' hk' h1' h2' hr hrn
    have hc:zk q q':=hq.coprime fun hd=>by
      rcases hq'.2 q hd with h|h
      · have:=hq.1;omega
      · exact hne h
    have h5:=hc.mul_dvd_of_dvd_of_dvd h3 h3'
    have:=hr.1
    have h4:=Vv qr h5
    have:(q*q')*(q*q')<=r*r:=Xe qr qr
    omega
def bX(n:Nat):Nat->Nat->Bool
 |0,_=>true
 |f+1,m=>(n%m != 0)&&bX n f (m+1)
theorem Cu{n:Nat}:∀(f m:Nat),bX n f m=true->∀x,m<=x->x<m+f->n%x≠0
 |0,m,_,x,h1,h2=>by omega
 |f+1,m,h,x,h1,h2=>by
  simp only[bX,ZY,bne_iff_ne]at h
  rcases Nat.eq_or_lt_of_le h1 with h3|h3
  ·subst h3;exact h.1
  ·exact Cu f (m+1) h.2 x h3 qr
theorem KY{f:Nat}(hn:2<=n)(hf:n<(f+2)*(f+2))(h:bX n f 2=true):Pr n:=by
 obtain⟨r,hr,hrn,h1|h1⟩:=Tg hn
 ·exact h1
 ·have hr2:=hr.1
  have:r<2+f:=by
   rcases ZL r (2+f)with h2|h2
   ·exact h2
   ·have:(f+2)*(f+2)<=r*r:=Xe qr qr
    omega
  exact absurd (R1 hrn) (Cu f 2 h r hr2 this)
end Go.NT
namespace Go.Cv
section
variable{n:Nat}[NeZero n]
structure Fld(n:Nat)[NeZero n](iv:Fin n->Fin n)(d i:Fin n):Prop where
 inv:∀a:Fin n,a≠0->a*iv a=1
 iv0:iv 0=0
 one:(1:Fin n)≠0
 two:(2:Fin n)≠0
 root:i*i = -1
 nosq:∀r:Fin n,r*r≠d
variable{iv:Fin n->Fin n}{d i:Fin n}(F:Fld n iv d i)
include F
theorem Fld.dom{a b:Fin n}(h:a*b=0):a=0\/b=0:=by
 by_cases ha:a=0
 ·exact .inl ha
 ·have:=F.inv a ha
  exact .inr (by grobner)
theorem Fld.mul_ne{a b:Fin n}(ha:a≠0)(hb:b≠0):a*b≠0:=fun h=>by
 rcases F.dom h with h|h
 ·exact ha h
 ·exact hb h
theorem Fld.cancel{a b c:Fin n}(ha:a≠0)(h:a*b=a*c):b=c:=by
 have:=F.inv a ha
 grobner
theorem Fld.noratio{u v:Fin n}(hv:v≠0):u*u≠d*(v*v):=fun h=>by
 have:=F.inv v hv
 apply F.nosq (u*iv v)
 grobner
omit F
def On(d x y:Fin n):Prop := -(x*x)+y*y=1+d*(x*x)*(y*y)
theorem On.sub{d x y:Fin n}(h:On d x y) : -(x*x)+y*y-1-d*(x*x)*(y*y)=0:=by
 unfold On at h;grobner
theorem iK{L R a b c e:Fin n}(h:L-R=a*c+b*e)(hc:c=0)(he:e=0):L=R:=by
 subst hc he;grobner
theorem AK{L R a b c e f g:Fin n}(h:L-R=a*c+b*e+f*g)(hc:c=0)(he:e=0)(hg:g=0):L=R:=by
 subst hc he hg;grobner
theorem pc(d x1 y1 x2 y2:Fin n) : -((x1*y2+x2*y1)*(x1*y2+x2*y1)*((1-d*x1*x2*y1*y2)*(1-d*x1*x2*y1*y2)))+(y1*y2+x1*x2)*(y1*y2+x1*x2)*((1+d*x1*x2*y1*y2)*(1+d*x1*x2*y1*y2)) -
   (((1+d*x1*x2*y1*y2)*(1-d*x1*x2*y1*y2))*((1+d*x1*x2*y1*y2)*(1-d*x1*x2*y1*y2))+d*((x1*y2+x2*y1)*(x1*y2+x2*y1))*((y1*y2+x1*x2)*(y1*y2+x1*x2))) =
   (d*d*d*x1*x1*x2*x2*x2*x2*y1*y1*y2*y2*y2*y2-d*d*x1*x1*x2*x2*x2*x2*y2*y2*y2*y2+d*d*x2*x2*x2*x2*y1*y1*y2*y2*y2*y2-d*d*x2*x2*x2*x2*y2*y2*y2*y2-d*x1*x1*x2*x2*x2*x2*y2*y2+d*x1*x1*x2*x2*y2*y2*y2*y2+d*x2*x2*x2*x2*y1*y1*y2*y2-2*d*x2*x2*x2*x2*y2*y2*y2*y2-d*x2*x2*y1*y1*y2*y2*y2*y2-2*d*x2*x2*y2*y2-2*x2*x2*x2*x2*y2*y2+x2*x2*x2*x2+2*x2*x2*y2*y2*y2*y2-4*x2*x2*y2*y2+y2*y2*y2*y2)*(-(x1*x1)+y1*y1-1-d*(x1*x1)*(y1*y1))+(d*x1*x1*x1*x1*x2*x2*y2*y2+2*d*x1*x1*x2*x2*y2*y2+d*x2*x2*y1*y1*y1*y1*y2*y2-2*d*x2*x2*y1*y1*y2*y2+d*x2*x2*y2*y2+2*x1*x1*x2*x2*y2*y2-x1*x1*x2*x2+x1*x1*y2*y2-2*x2*x2*y1*y1*y2*y2+x2*x2*y1*y1+2*x2*x2*y2*y2-x2*x2-y1*y1*y2*y2+y2*y2+1)*(-(x2*x2)+y2*y2-1-d*(x2*x2)*(y2*y2)):=by grobner
theorem ya(d x1 y1 x2 y2 x3 y3:Fin n):((x1*y2+x2*y1)*(1-d*x1*x2*y1*y2)*y3+x3*(y1*y2+x1*x2)*(1+d*x1*x2*y1*y2))*((1+d*x2*x3*y2*y3)*(1-d*x2*x3*y2*y3)+d*(x2*y3+x3*y2)*(y2*y3+x2*x3)*x1*y1) -
   (x1*(y2*y3+x2*x3)*(1+d*x2*x3*y2*y3)+(x2*y3+x3*y2)*(1-d*x2*x3*y2*y3)*y1)*((1+d*x1*x2*y1*y2)*(1-d*x1*x2*y1*y2)+d*(x1*y2+x2*y1)*(y1*y2+x1*x2)*x3*y3) =
   (-d*d*x1*x2*x2*x2*x2*x3*x3*y2*y2*y2*y3-d*d*x1*x2*x2*x2*x3*y2*y2*y2*y2*y3*y3+d*d*x2*x2*x2*x2*x3*y1*y2*y2*y2*y3*y3+d*d*x2*x2*x2*x3*x3*y1*y2*y2*y2*y2*y3-d*x1*x2*x2*x2*x2*x3*x3*y2*y3-d*x1*x2*x2*x2*x3*x3*x3*y2*y2-d*x1*x2*x2*x2*x3*y2*y2+d*x1*x2*x2*y2*y2*y2*y3*y3*y3-d*x1*x2*x2*y2*y2*y2*y3+d*x1*x2*x3*y2*y2*y2*y2*y3*y3+d*x2*x2*x2*x2*x3*y1*y2*y3*y3+d*x2*x2*x2*y1*y2*y2*y3*y3*y3-d*x2*x2*x2*y1*y2*y2*y3-d*x2*x2*x3*x3*x3*y1*y2*y2*y2-d*x2*x2*x3*y1*y2*y2*y2-d*x2*x3*x3*y1*y2*y2*y2*y2*y3)*(-(x1*x1)+y1*y1-1-d*(x1*x1)*(y1*y1))+(d*d*x1*x1*x2*x2*x3*x3*x3*y1*y2*y3*y3-d*d*x1*x1*x2*x3*x3*y1*y2*y2*y3*y3*y3-d*d*x1*x2*x2*x3*x3*y1*y1*y2*y3*y3*y3+d*d*x1*x2*x3*x3*x3*y1*y1*y2*y2*y3*y3+d*x1*x1*x1*x2*x2*x3*x3*y2*y3+d*x1*x1*x1*x2*x3*x3*x3*y3*y3+d*x1*x1*x1*x2*x3*y2*y2*y3*y3+d*x1*x1*x1*x3*x3*y2*y3*y3*y3-d*x1*x1*x2*x2*x3*y1*y2*y3*y3-d*x1*x1*x2*x3*x3*y1*y2*y2*y3+d*x1*x1*x2*x3*x3*y1*y3*y3*y3+d*x1*x1*x3*x3*x3*y1*y2*y3*y3-d*x1*x2*x2*x3*x3*y1*y1*y2*y3+d*x1*x2*x2*x3*x3*y2*y3-d*x1*x2*x3*x3*x3*y1*y1*y3*y3+d*x1*x2*x3*x3*x3*y3*y3-d*x1*x2*x3*y1*y1*y2*y2*y3*y3+d*x1*x2*x3*y2*y2*y3*y3-d*x1*x3*x3*y1*y1*y2*y3*y3*y3+d*x1*x3*x3*y2*y3*y3*y3+d*x2*x2*x3*y1*y1*y1*y2*y3*y3-d*x2*x2*x3*y1*y2*y3*y3+d*x2*x3*x3*y1*y1*y1*y2*y2*y3-d*x2*x3*x3*y1*y1*y1*y3*y3*y3-d*x2*x3*x3*y1*y2*y2*y3+d*x2*x3*x3*y1*y3*y3*y3-d*x3*x3*x3*y1*y1*y1*y2*y3*y3+d*x3*x3*x3*y1*y2*y3*y3+x1*x1*x1*x2*x3*x3*x3-x1*x1*x1*x2*x3*y3*y3+x1*x1*x1*x2*x3+x1*x1*x1*x3*x3*y2*y3-x1*x1*x1*y2*y3*y3*y3+x1*x1*x1*y2*y3+x1*x1*x2*x3*x3*y1*y3-x1*x1*x2*y1*y3*y3*y3+x1*x1*x2*y1*y3+x1*x1*x3*x3*x3*y1*y2-x1*x1*x3*y1*y2*y3*y3+x1*x1*x3*y1*y2-x1*x2*x3*x3*x3*y1*y1+x1*x2*x3*x3*x3+x1*x2*x3*y1*y1*y3*y3-x1*x2*x3*y1*y1-x1*x2*x3*y3*y3+x1*x2*x3-x1*x3*x3*y1*y1*y2*y3+x1*x3*x3*y2*y3+x1*y1*y1*y2*y3*y3*y3-x1*y1*y1*y2*y3-x1*y2*y3*y3*y3+x1*y2*y3-x2*x3*x3*y1*y1*y1*y3+x2*x3*x3*y1*y3+x2*y1*y1*y1*y3*y3*y3-x2*y1*y1*y1*y3-x2*y1*y3*y3*y3+x2*y1*y3-x3*x3*x3*y1*y1*y1*y2+x3*x3*x3*y1*y2+x3*y1*y1*y1*y2*y3*y3-x3*y1*y1*y1*y2-x3*y1*y2*y3*y3+x3*y1*y2)*(-(x2*x2)+y2*y2-1-d*(x2*x2)*(y2*y2))+(-d*x1*x1*x2*x2*x3*y1*y2+d*x1*x1*x2*y1*y2*y2*y3+d*x1*x2*x2*y1*y1*y2*y3-d*x1*x2*x3*y1*y1*y2*y2-x1*x1*x1*x2*x2*x2*x3-x1*x1*x1*x2*x2*y2*y3+x1*x1*x1*x2*x3*y2*y2-x1*x1*x1*x2*x3+x1*x1*x1*y2*y2*y2*y3-x1*x1*x1*y2*y3-x1*x1*x2*x2*x2*y1*y3-x1*x1*x2*x2*x3*y1*y2+x1*x1*x2*y1*y2*y2*y3-x1*x1*x2*y1*y3+x1*x1*x3*y1*y2*y2*y2-x1*x1*x3*y1*y2+x1*x2*x2*x2*x3*y1*y1-x1*x2*x2*x2*x3+x1*x2*x2*y1*y1*y2*y3-x1*x2*x2*y2*y3-x1*x2*x3*y1*y1*y2*y2+x1*x2*x3*y1*y1+x1*x2*x3*y2*y2-x1*x2*x3-x1*y1*y1*y2*y2*y2*y3+x1*y1*y1*y2*y3+x1*y2*y2*y2*y3-x1*y2*y3+x2*x2*x2*y1*y1*y1*y3-x2*x2*x2*y1*y3+x2*x2*x3*y1*y1*y1*y2-x2*x2*x3*y1*y2-x2*y1*y1*y1*y2*y2*y3+x2*y1*y1*y1*y3+x2*y1*y2*y2*y3-x2*y1*y3-x3*y1*y1*y1*y2*y2*y2+x3*y1*y1*y1*y2+x3*y1*y2*y2*y2-x3*y1*y2)*(-(x3*x3)+y3*y3-1-d*(x3*x3)*(y3*y3)):=by grobner
theorem xZ(d x1 y1 x2 y2 x3 y3:Fin n):((y1*y2+x1*x2)*(1+d*x1*x2*y1*y2)*y3+(x1*y2+x2*y1)*(1-d*x1*x2*y1*y2)*x3)*((1+d*x2*x3*y2*y3)*(1-d*x2*x3*y2*y3)-d*(x2*y3+x3*y2)*(y2*y3+x2*x3)*x1*y1) -
   (y1*(y2*y3+x2*x3)*(1+d*x2*x3*y2*y3)+x1*(x2*y3+x3*y2)*(1-d*x2*x3*y2*y3))*((1+d*x1*x2*y1*y2)*(1-d*x1*x2*y1*y2)-d*(x1*y2+x2*y1)*(y1*y2+x1*x2)*x3*y3) =
   (d*d*x1*x2*x2*x2*x2*x3*y2*y2*y2*y3*y3+d*d*x1*x2*x2*x2*x3*x3*y2*y2*y2*y2*y3-d*d*x2*x2*x2*x2*x3*x3*y1*y2*y2*y2*y3-d*d*x2*x2*x2*x3*y1*y2*y2*y2*y2*y3*y3+d*x1*x2*x2*x2*x2*x3*y2*y3*y3+d*x1*x2*x2*x2*y2*y2*y3*y3*y3-d*x1*x2*x2*x2*y2*y2*y3-d*x1*x2*x2*x3*x3*x3*y2*y2*y2-d*x1*x2*x2*x3*y2*y2*y2-d*x1*x2*x3*x3*y2*y2*y2*y2*y3-d*x2*x2*x2*x2*x3*x3*y1*y2*y3-d*x2*x2*x2*x3*x3*x3*y1*y2*y2-d*x2*x2*x2*x3*y1*y2*y2+d*x2*x2*y1*y2*y2*y2*y3*y3*y3-d*x2*x2*y1*y2*y2*y2*y3+d*x2*x3*y1*y2*y2*y2*y2*y3*y3)*(-(x1*x1)+y1*y1-1-d*(x1*x1)*(y1*y1))+(d*d*x1*x1*x2*x2*x3*x3*y1*y2*y3*y3*y3-d*d*x1*x1*x2*x3*x3*x3*y1*y2*y2*y3*y3-d*d*x1*x2*x2*x3*x3*x3*y1*y1*y2*y3*y3+d*d*x1*x2*x3*x3*y1*y1*y2*y2*y3*y3*y3-d*x1*x1*x1*x2*x2*x3*y2*y3*y3-d*x1*x1*x1*x2*x3*x3*y2*y2*y3+d*x1*x1*x1*x2*x3*x3*y3*y3*y3+d*x1*x1*x1*x3*x3*x3*y2*y3*y3+d*x1*x1*x2*x2*x3*x3*y1*y2*y3+d*x1*x1*x2*x3*x3*x3*y1*y3*y3+d*x1*x1*x2*x3*y1*y2*y2*y3*y3+d*x1*x1*x3*x3*y1*y2*y3*y3*y3+d*x1*x2*x2*x3*y1*y1*y2*y3*y3-d*x1*x2*x2*x3*y2*y3*y3+d*x1*x2*x3*x3*y1*y1*y2*y2*y3-d*x1*x2*x3*x3*y1*y1*y3*y3*y3-d*x1*x2*x3*x3*y2*y2*y3+d*x1*x2*x3*x3*y3*y3*y3-d*x1*x3*x3*x3*y1*y1*y2*y3*y3+d*x1*x3*x3*x3*y2*y3*y3-d*x2*x2*x3*x3*y1*y1*y1*y2*y3+d*x2*x2*x3*x3*y1*y2*y3-d*x2*x3*x3*x3*y1*y1*y1*y3*y3+d*x2*x3*x3*x3*y1*y3*y3-d*x2*x3*y1*y1*y1*y2*y2*y3*y3+d*x2*x3*y1*y2*y2*y3*y3-d*x3*x3*y1*y1*y1*y2*y3*y3*y3+d*x3*x3*y1*y2*y3*y3*y3+x1*x1*x1*x2*x3*x3*y3-x1*x1*x1*x2*y3*y3*y3+x1*x1*x1*x2*y3+x1*x1*x1*x3*x3*x3*y2-x1*x1*x1*x3*y2*y3*y3+x1*x1*x1*x3*y2+x1*x1*x2*x3*x3*x3*y1-x1*x1*x2*x3*y1*y3*y3+x1*x1*x2*x3*y1+x1*x1*x3*x3*y1*y2*y3-x1*x1*y1*y2*y3*y3*y3+x1*x1*y1*y2*y3-x1*x2*x3*x3*y1*y1*y3+x1*x2*x3*x3*y3+x1*x2*y1*y1*y3*y3*y3-x1*x2*y1*y1*y3-x1*x2*y3*y3*y3+x1*x2*y3-x1*x3*x3*x3*y1*y1*y2+x1*x3*x3*x3*y2+x1*x3*y1*y1*y2*y3*y3-x1*x3*y1*y1*y2-x1*x3*y2*y3*y3+x1*x3*y2-x2*x3*x3*x3*y1*y1*y1+x2*x3*x3*x3*y1+x2*x3*y1*y1*y1*y3*y3-x2*x3*y1*y1*y1-x2*x3*y1*y3*y3+x2*x3*y1-x3*x3*y1*y1*y1*y2*y3+x3*x3*y1*y2*y3+y1*y1*y1*y2*y3*y3*y3-y1*y1*y1*y2*y3-y1*y2*y3*y3*y3+y1*y2*y3)*(-(x2*x2)+y2*y2-1-d*(x2*x2)*(y2*y2))+(-d*x1*x1*x2*x2*y1*y2*y3+d*x1*x1*x2*x3*y1*y2*y2+d*x1*x2*x2*x3*y1*y1*y2-d*x1*x2*y1*y1*y2*y2*y3-x1*x1*x1*x2*x2*x2*y3-x1*x1*x1*x2*x2*x3*y2+x1*x1*x1*x2*y2*y2*y3-x1*x1*x1*x2*y3+x1*x1*x1*x3*y2*y2*y2-x1*x1*x1*x3*y2-x1*x1*x2*x2*x2*x3*y1-x1*x1*x2*x2*y1*y2*y3+x1*x1*x2*x3*y1*y2*y2-x1*x1*x2*x3*y1+x1*x1*y1*y2*y2*y2*y3-x1*x1*y1*y2*y3+x1*x2*x2*x2*y1*y1*y3-x1*x2*x2*x2*y3+x1*x2*x2*x3*y1*y1*y2-x1*x2*x2*x3*y2-x1*x2*y1*y1*y2*y2*y3+x1*x2*y1*y1*y3+x1*x2*y2*y2*y3-x1*x2*y3-x1*x3*y1*y1*y2*y2*y2+x1*x3*y1*y1*y2+x1*x3*y2*y2*y2-x1*x3*y2+x2*x2*x2*x3*y1*y1*y1-x2*x2*x2*x3*y1+x2*x2*y1*y1*y1*y2*y3-x2*x2*y1*y2*y3-x2*x3*y1*y1*y1*y2*y2+x2*x3*y1*y1*y1+x2*x3*y1*y2*y2-x2*x3*y1-y1*y1*y1*y2*y2*y2*y3+y1*y1*y1*y2*y3+y1*y2*y2*y2*y3-y1*y2*y3)*(-(x3*x3)+y3*y3-1-d*(x3*x3)*(y3*y3)):=by grobner
include F
theorem Fld.den{x1 y1 x2 y2:Fin n}(h1:On d x1 y1)(h2:On d x2 y2)(e:Fin n)(he:e*e=1):d*x1*x2*y1*y2≠e:=fun hD=>by
 unfold On at h1 h2
 have h10:=F.one
 have hr:=F.root
 have hx1:x1≠0:=fun h=>by subst h;grobner
 have hy1:y1≠0:=fun h=>by subst h;grobner
 have hx2:x2≠0:=fun h=>by subst h;grobner
 have key:d*(x1*x1)*(y1*y1)*(y2*y2-x2*x2)=y1*y1-x1*x1:=by grobner
 have h3:(y1+e*i*x1)*(y1+e*i*x1)=d*((x1*y1*(y2+i*x2))*(x1*y1*(y2+i*x2))):=by grobner
 have h4:(y1-e*i*x1)*(y1-e*i*x1)=d*((x1*y1*(y2-i*x2))*(x1*y1*(y2-i*x2))):=by grobner
 by_cases ha:y2+i*x2=0
 ·by_cases hb:y2-i*x2=0
  ·have hi:i≠0:=fun h=>by subst h;grobner
   have:(2:Fin n)*(i*x2)=0:=by grobner
   exact F.mul_ne F.two (F.mul_ne hi hx2) this
  ·exact F.noratio (F.mul_ne (F.mul_ne hx1 hy1) hb) h4
 ·exact F.noratio (F.mul_ne (F.mul_ne hx1 hy1) ha) h3
theorem Fld.denP{x1 y1 x2 y2:Fin n}(h1:On d x1 y1)(h2:On d x2 y2):1+d*x1*x2*y1*y2≠0:=fun h =>
 F.den h1 h2 (-1) (by grobner) (by grobner)
theorem Fld.denM{x1 y1 x2 y2:Fin n}(h1:On d x1 y1)(h2:On d x2 y2):1-d*x1*x2*y1*y2≠0:=fun h =>
 F.den h1 h2 1 (by grobner) (by grobner)
theorem Hl{x1 y1 x2 y2:Fin n}(h1:On d x1 y1)(h2:On d x2 y2){a b:Fin n}(ha:a*(1+d*x1*x2*y1*y2)=x1*y2+x2*y1)(hb:b*(1-d*x1*x2*y1*y2)=y1*y2+x1*x2):On d a b:=by
 have hp:=F.denP h1 h2
 have hm:=F.denM h1 h2
 have hC : -((x1*y2+x2*y1)*(x1*y2+x2*y1)*((1-d*x1*x2*y1*y2)*(1-d*x1*x2*y1*y2)))+(y1*y2+x1*x2)*(y1*y2+x1*x2)*((1+d*x1*x2*y1*y2)*(1+d*x1*x2*y1*y2)) =
   ((1+d*x1*x2*y1*y2)*(1-d*x1*x2*y1*y2))*((1+d*x1*x2*y1*y2)*(1-d*x1*x2*y1*y2))+d*((x1*y2+x2*y1)*(x1*y2+x2*y1))*((y1*y2+x1*x2)*(y1*y2+x1*x2)):=by
  exact iK (pc d x1 y1 x2 y2) h1.sub h2.sub
 unfold On
 have hp2:=F.mul_ne (F.mul_ne hp hm) (F.mul_ne hp hm)
 refine F.cancel hp2 ?_
 rw[<-ha,<-hb]at hC
 generalize 1+d*x1*x2*y1*y2=p at *
 generalize 1-d*x1*x2*y1*y2=m at *
 clear ha hb hp hm hp2 h1 h2
 grobner
theorem bc{x1 y1 x2 y2 x3 y3 a b a' b' u v u' v':Fin n}(h1:On d x1 y1)(h2:On d x2 y2)(h3:On d x3 y3)
  (ha:a*(1+d*x1*x2*y1*y2)=x1*y2+x2*y1) (hb:b*(1-d*x1*x2*y1*y2)=y1*y2+x1*x2)
  (ha':a'*(1+d*x2*x3*y2*y3)=x2*y3+x3*y2) (hb':b'*(1-d*x2*x3*y2*y3)=y2*y3+x2*x3)
  (hu:u*(1+d*a*x3*b*y3)=a*y3+x3*b) (hv:v*(1-d*a*x3*b*y3)=b*y3+a*x3)
  (hu':u'*(1+d*x1*a'*y1*b')=x1*b'+a'*y1) (hv':v'*(1-d*x1*a'*y1*b')=y1*b'+x1*a'):u=u'/\v=v':=by
 have o12:=Hl F h1 h2 ha hb
 have o23:=Hl F h2 h3 ha' hb'
 have hp:=F.denP h1 h2
 have hm:=F.denM h1 h2
 have hp':=F.denP h2 h3
 have hm':=F.denM h2 h3
 have kp:=F.denP o12 h3
 have km:=F.denM o12 h3
 have kp':=F.denP h1 o23
 have km':=F.denM h1 o23
 have e1:=h1.sub
 have e2:=h2.sub
 have e3:=h3.sub
 clear h1 h2 h3 o12 o23
 have hX:((x1*y2+x2*y1)*(1-d*x1*x2*y1*y2)*y3+x3*(y1*y2+x1*x2)*(1+d*x1*x2*y1*y2))*((1+d*x2*x3*y2*y3)*(1-d*x2*x3*y2*y3)+d*(x2*y3+x3*y2)*(y2*y3+x2*x3)*x1*y1) =
   (x1*(y2*y3+x2*x3)*(1+d*x2*x3*y2*y3)+(x2*y3+x3*y2)*(1-d*x2*x3*y2*y3)*y1)*((1+d*x1*x2*y1*y2)*(1-d*x1*x2*y1*y2)+d*(x1*y2+x2*y1)*(y1*y2+x1*x2)*x3*y3):=by
  exact AK (ya d x1 y1 x2 y2 x3 y3) e1 e2 e3
 have hY:((y1*y2+x1*x2)*(1+d*x1*x2*y1*y2)*y3+(x1*y2+x2*y1)*(1-d*x1*x2*y1*y2)*x3)*((1+d*x2*x3*y2*y3)*(1-d*x2*x3*y2*y3)-d*(x2*y3+x3*y2)*(y2*y3+x2*x3)*x1*y1) =
   (y1*(y2*y3+x2*x3)*(1+d*x2*x3*y2*y3)+x1*(x2*y3+x3*y2)*(1-d*x2*x3*y2*y3))*((1+d*x1*x2*y1*y2)*(1-d*x1*x2*y1*y2)-d*(x1*y2+x2*y1)*(y1*y2+x1*x2)*x3*y3):=by
  exact AK (xZ d x1 y1 x2 y2 x3 y3) e1 e2 e3
 clear e1 e2 e3
 rw[<-ha,<-hb,<-ha',<-hb']at hX hY
 have hp2:=F.mul_ne hp hm
 have hp2':=F.mul_ne hp' hm'
 generalize 1+d*x1*x2*y1*y2=p at *
 generalize 1-d*x1*x2*y1*y2=m at *
 generalize 1+d*x2*x3*y2*y3=p' at *
 generalize 1-d*x2*x3*y2*y3=m' at *
 clear ha hb ha' hb' hp hm hp' hm' x2 y2
 have f1:a*p*m*y3+x3*(b*m)*p=(p*m)*(a*y3+x3*b):=by grobner
 have f2:p'*m'+d*(a'*p')*(b'*m')*x1*y1=(p'*m')*(1+d*x1*a'*y1*b'):=by grobner
 have f3:x1*(b'*m')*p'+a'*p'*m'*y1=(p'*m')*(x1*b'+a'*y1):=by grobner
 have f4:p*m+d*(a*p)*(b*m)*x3*y3=(p*m)*(1+d*a*x3*b*y3):=by grobner
 have f5:b*m*p*y3+a*p*m*x3=(p*m)*(b*y3+a*x3):=by grobner
 have f6:p'*m'-d*(a'*p')*(b'*m')*x1*y1=(p'*m')*(1-d*x1*a'*y1*b'):=by grobner
 have f7:y1*(b'*m')*p'+x1*(a'*p')*m'=(p'*m')*(y1*b'+x1*a'):=by grobner
 have f8:p*m-d*(a*p)*(b*m)*x3*y3=(p*m)*(1-d*a*x3*b*y3):=by grobner
 rw[f1,f2,f3,f4,<-hu,<-hu']at hX
 rw[f5,f6,f7,f8,<-hv,<-hv']at hY
 clear f1 f2 f3 f4 f5 f6 f7 f8 hu hu' hv hv'
 generalize 1+d*x1*a'*y1*b'=k' at *
 generalize 1+d*a*x3*b*y3=k at *
 generalize 1-d*x1*a'*y1*b'=l' at *
 generalize 1-d*a*x3*b*y3=l at *
 generalize p*m=s at *
 generalize p'*m'=s' at *
 constructor
 ·refine F.cancel (a:=s*s'*k*k') (F.mul_ne (F.mul_ne (F.mul_ne hp2 hp2') kp) kp') ?_
  grobner
 ·refine F.cancel (a:=s*s'*l*l') (F.mul_ne (F.mul_ne (F.mul_ne hp2 hp2') km) km') ?_
  grobner
omit F
end
structure Pt(n:Nat)[NeZero n](d:Fin n) where
 x:Fin n
 y:Fin n
 on:On d x y
theorem Pt.ext{n:Nat}[NeZero n]{d:Fin n}{p q:Pt n d}(hx:p.x=q.x)(hy:p.y=q.y):p=q:=by
 cases p;cases q;cases hx;cases hy;rfl
section
variable{n:Nat}[NeZero n]{iv:Fin n->Fin n}{d i:Fin n}(F:Fld n iv d i)
def Pt.zero:Pt n d:=⟨0,1,by unfold On;grobner⟩
def Pt.neg(p:Pt n d):Pt n d:=⟨-p.x,p.y,by have:=p.on;unfold On at *;grobner⟩
def Pt.add(p q:Pt n d):Pt n d :=
 ⟨(p.x*q.y+q.x*p.y)*iv (1+d*p.x*q.x*p.y*q.y),(p.y*q.y+p.x*q.x)*iv (1-d*p.x*q.x*p.y*q.y),
  Hl F p.on q.on (by have:=F.inv _ (F.denP p.on q.on);grobner) (by have:=F.inv _ (F.denM p.on q.on);grobner)⟩
theorem DA(p q:Pt n d):(Pt.add F p q).x*(1+d*p.x*q.x*p.y*q.y)=p.x*q.y+q.x*p.y:=by
 have:=F.inv _ (F.denP p.on q.on)
 simp only[Pt.add]
 generalize 1+d*p.x*q.x*p.y*q.y=k at *
 grobner
theorem BM(p q:Pt n d):(Pt.add F p q).y*(1-d*p.x*q.x*p.y*q.y)=p.y*q.y+p.x*q.x:=by
 have:=F.inv _ (F.denM p.on q.on)
 simp only[Pt.add]
 generalize 1-d*p.x*q.x*p.y*q.y=k at *
 grobner
theorem add_eq{p q r:Pt n d}(hx:r.x*(1+d*p.x*q.x*p.y*q.y)=p.x*q.y+q.x*p.y)(hy:r.y*(1-d*p.x*q.x*p.y*q.y)=p.y*q.y+p.x*q.x):Pt.add F p q=r:=by
 apply Pt.ext
 ·apply F.cancel (F.denP p.on q.on)
  rw[<-DA F]at hx
  grobner
 ·apply F.cancel (F.denM p.on q.on)
  rw[<-BM F]at hy
  grobner
theorem add_comm(p q:Pt n d):Pt.add F p q=Pt.add F q p:=by
 apply add_eq
 ·have:=DA F q p;grobner
 ·have:=BM F q p;grobner
theorem add_zero(p:Pt n d):Pt.add F p Pt.zero=p:=by
 apply add_eq<;>simp only[Pt.zero]<;>grobner
theorem zero_add(p:Pt n d):Pt.add F Pt.zero p=p:=by rw[add_comm,add_zero]
theorem add_neg(p:Pt n d):Pt.add F p p.neg=Pt.zero:=by
 have:=p.on
 unfold On at this
 apply add_eq<;>simp only[Pt.zero,Pt.neg]<;>grobner
theorem add_assoc(p q r:Pt n d):Pt.add F (Pt.add F p q) r=Pt.add F p (Pt.add F q r):=by
 obtain⟨h1,h2⟩:=bc F p.on q.on r.on (DA F p q) (BM F p q) (DA F q r) (BM F q r) (DA F (Pt.add F p q) r) (BM F (Pt.add F p q) r) (DA F p (Pt.add F q r)) (BM F p (Pt.add F q r))
 exact Pt.ext h1 h2
theorem add_left_cancel{p q r:Pt n d}(h:Pt.add F p q=Pt.add F p r):q=r:=by
 have:Pt.add F p.neg (Pt.add F p q)=Pt.add F p.neg (Pt.add F p r):=by rw[h]
 rwa[<-add_assoc,<-add_assoc,add_comm F p.neg p,add_neg,zero_add,zero_add]at this
theorem neg_neg(p:Pt n d):p.neg.neg=p:=by
 apply Pt.ext<;>simp only[Pt.neg]
 grobner
theorem neg_zero:(Pt.zero:Pt n d).neg=Pt.zero:=by
 apply Pt.ext<;>simp only[Pt.neg,Pt.zero]
 grobner
theorem LZ(a b c e:Pt n d):Pt.add F (Pt.add F a b) (Pt.add F c e)=Pt.add F (Pt.add F a c) (Pt.add F b e):=by
 rw[add_assoc,add_assoc,<-add_assoc F b,add_comm F b c,add_assoc F c]
theorem neg_add(p q:Pt n d):(Pt.add F p q).neg=Pt.add F p.neg q.neg:=by
 apply add_left_cancel F (p:=Pt.add F p q)
 rw[add_neg,LZ,add_neg,add_neg,add_zero]
def Pt.mul(k:Nat)(p:Pt n d):Pt n d:=match k with
 |0=>Pt.zero
 |k+1=>Pt.add F (Pt.mul k p) p
theorem mul_add(a b:Nat)(p:Pt n d):Pt.mul F (a+b) p=Pt.add F (Pt.mul F a p) (Pt.mul F b p):=by
 induction b with
 |zero=>rw[Jl,Pt.mul,add_zero]
 |succ b ih=>rw[<-Zb,Pt.mul,ih,Pt.mul,add_assoc]
theorem mul_one(p:Pt n d):Pt.mul F 1 p=p:=by rw[Pt.mul,Pt.mul,zero_add]
theorem mul_two(p:Pt n d):Pt.mul F 2 p=Pt.add F p p:=by rw[Pt.mul,mul_one]
theorem mul_zero(k:Nat):Pt.mul F k (Pt.zero:Pt n d)=Pt.zero:=by
 induction k with
 |zero=>rfl
 |succ k ih=>rw[Pt.mul,ih,zero_add]
theorem Az(a b:Nat)(p:Pt n d):Pt.mul F (a*b) p=Pt.mul F a (Pt.mul F b p):=by
 induction a with
 |zero=>rw[Vm,Pt.mul,Pt.mul]
 |succ a ih=>rw[Nat.succ_mul,mul_add,ih,Pt.mul]
theorem mul_neg(k:Nat)(p:Pt n d):Pt.mul F k p.neg=(Pt.mul F k p).neg:=by
 induction k with
 |zero=>rw[Pt.mul,Pt.mul,neg_zero]
 |succ k ih=>rw[Pt.mul,ih,Pt.mul,neg_add]
theorem mX(a b:Nat)(p:Pt n d):Pt.mul F a (Pt.mul F b p)=Pt.mul F b (Pt.mul F a p):=by
 rw[<-Az,<-Az,Zm]
theorem mul_mod{l:Nat}{p:Pt n d}(hl:Pt.mul F l p=Pt.zero)(k:Nat):Pt.mul F (k%l) p=Pt.mul F k p:=by
 have h:Pt.mul F k p=Pt.mul F (l*(k/l)+k%l) p:=by rw[Z5]
 rw[h,mul_add,Zm,Az,hl,mul_zero,zero_add]
end
end Go.Cv
namespace Go.NT
section
variable{a f n q k:Nat}
theorem mc(m a:Nat):∀(f e:Nat),pwf m a f e=pw m a f e
 |0,_=>rfl
 |f+1,e=>by simp only[pwf,pw,mc m a f]
theorem Ly{m e:Nat}(h:e<2^f):pwf m a f e=a^e%m:=by rw[mc,vf m a f e h]
def Pz(n q k a f:Nat):Bool:=n==q*k+1&&decide (q*k<2^f)&&pwf n a f (q*k)==1&&AA (pwf n a f k+n-1) n==1
theorem DY(hq:Pr q)(h:Pz n q k a f=true):n=q*k+1/\a^(q*k)%n=1/\AA (a^k%n+n-1) n=1:=by
 simp only[Pz,ZY,beq_iff_eq,decide_eq_true_eq]at h
 obtain⟨⟨⟨h1,h2⟩,h3⟩,h4⟩:=h
 have h5:k<2^f:=by
  have:k<=q*k:=Nat.le_mul_of_pos_left k (by have:=hq.1;omega)
  omega
 rw[Ly h2]at h3
 rw[Ly h5]at h4
 exact⟨h1,h3,h4⟩
theorem Wq(hq:Pr q)(h:(Pz n q k a f&&decide (2<=n)&&decide (n<q*q))=true):Pr n:=by
 simp only[ZY,decide_eq_true_eq]at h
 obtain⟨h1,h2,h3⟩:=DY hq h.1.1
 exact mi h.1.2 hq h1 h.2 h2 h3
theorem BK{q2 k2 a2:Nat}(hq:Pr q)(hq2:Pr q2)(h:(Pz n q k a f&&Pz n q2 k2 a2 f&&decide (2<=n)&&decide (q≠q2)&&decide (n<(q*q2)*(q*q2)))=true):Pr n:=by
 simp only[ZY,decide_eq_true_eq]at h
 obtain⟨h1,h2,h3⟩:=DY hq h.1.1.1.1
 obtain⟨h1',h2',h3'⟩:=DY hq2 h.1.1.1.2
 exact mh h.1.1.2 hq h1 hq2 h1' h.1.2 h.2 h2 h3 h2' h3'
theorem pr1:Pr 991:=KY (f:=30) ww ww (by decide +kernel)
theorem pr2:Pr 103:=KY (f:=9) ww ww (by decide +kernel)
theorem pr3:Pr 8574133:=BK (q:=991) (k:=8652) (a:=2) (q2:=103) (k2:=83244) (a2:=2) (f:=25) pr1 pr2 (by decide +kernel)
theorem pr4:Pr 127:=KY (f:=10) ww ww (by decide +kernel)
theorem pr5:Pr 1919519569386763:=BK (q:=8574133) (k:=223873314) (a:=2) (q2:=127) (k2:=15114327318006) (a2:=2) (f:=52) pr3 pr4 (by decide +kernel)
theorem pr6:Pr 569003:=KY (f:=753) ww ww (by decide +kernel)
theorem pr7:Pr 2773320623:=Wq (q:=569003) (k:=4874) (a:=2) (f:=33) pr6 (by decide +kernel)
theorem pr8:Pr 72106336199:=Wq (q:=2773320623) (k:=26) (a:=2) (f:=38) pr7 (by decide +kernel)
theorem pr9:Pr 75445702479781427272750846543864801:=BK (q:=1919519569386763) (k:=39304471641247389600) (a:=2) (q2:=72106336199) (k2:=1046311689884858398375200) (a2:=2) (f:=117) pr5 pr8 (by decide +kernel)
theorem pr10:Pr 430751:=KY (f:=655) ww ww (by decide +kernel)
theorem pr11:Pr 4153:=KY (f:=63) ww ww (by decide +kernel)
theorem pr12:Pr 31757755568855353:=BK (q:=430751) (k:=73726481352) (a:=2) (q2:=4153) (k2:=7646943310584) (a2:=2) (f:=56) pr10 pr11 (by decide +kernel)
theorem pr13:Pr 74058212732561358302231226437062788676166966415465897661863160754340907:=BK (q:=75445702479781427272750846543864801) (k:=981609426360740691344999861639072106) (a:=2) (q2:=31757755568855353) (k2:=2331972502653487852620185443007392165117953542933313402) (a2:=2) (f:=237) pr9 pr12 (by decide +kernel)
theorem pr14:Pr 57896044618658097711785492504343953926634992332820282019728792003956564819949:=Wq (q:=74058212732561358302231226437062788676166966415465897661863160754340907) (k:=781764) (a:=2) (f:=256) pr13 (by decide +kernel)
end
end Go.NT
namespace Go.Fp
open Go.NT Go.Cv
section
variable{a b k:Nat}
def P:Nat:=57896044618658097711785492504343953926634992332820282019728792003956564819949
theorem Hu:P=57896044618658097711785492504343953926634992332820282019728792003956564819949:=rfl
instance:NeZero P:=⟨by decide⟩
theorem uM:Pr P:=pr14
abbrev Fe:=Fin P
def fp(n:Nat):Fe:=Fin.ofNat P n
theorem Wx(n:Nat):(fp n).val=n%P:=rfl
theorem TM:fp a=fp b↔a%P=b%P:=by
 constructor
 ·intro h;exact congrArg Fin.val h
 ·intro h;exact Fin.ext h
theorem gj(a:Fe):fp a.val=a:=Fin.ext (Qv a.isLt)
theorem YO(a:Nat):fp (a%P)=fp a:=TM.2 (Kl _ _)
theorem Vx(a b:Nat):fp (a+b)=fp a+fp b:=Fin.ext (by rw[Wx,Fin.val_add,Wx,Wx,<-Nat.add_mod])
theorem Kg(a b:Nat):fp (a*b)=fp a*fp b:=Fin.ext (by rw[Wx,Fin.val_mul,Wx,Wx,<-YD])
theorem cH:fp 0=0:=rfl
theorem LQ:fp 1=1:=rfl
theorem ov:fp 2=2:=rfl
theorem xC:fp P=0:=Fin.ext (by rw[Wx,Nat.mod_self];rfl)
theorem cI(k:Nat):fp (k*P)=0:=by rw[Kg,xC];grobner
theorem ow(h:b<=a):fp (a-b)=fp a-fp b:=by
 have h1:=Vx (a-b) b
 rw[Nat.sub_add_cancel h]at h1
 grobner
def pow(a:Fe)(k:Nat):Fe:=match k with
 |0=>1
 |k+1=>pow a k*a
theorem Lz(a:Fe):∀k,(pow a k).val=a.val^k%P
 |0=>rfl
 |k+1=>by rw[pow,Fin.val_mul,Lz a k,Zj,BQ]
theorem pow_add(a:Fe)(j:Nat):∀k,pow a (j+k)=pow a j*pow a k
 |0=>by rw[Jl];simp only[pow];grobner
 |k+1=>by rw[<-Zb,pow,pow_add a j k,pow];grobner
theorem pow_mul(a:Fe)(j:Nat):∀k,pow a (j*k)=pow (pow a j) k
 |0=>by rw[Nat.mul_zero];rfl
 |k+1=>by rw[Nat.mul_succ,pow_add,pow_mul a j k,pow]
theorem pow_one(a:Fe):pow a 1=a:=by simp only[pow];grobner
theorem pow_two(a:Fe):pow a 2=a*a:=by simp only[pow];grobner
theorem one_pow:∀k,pow 1 k=1
 |0=>rfl
 |k+1=>by rw[pow,one_pow k];grobner
theorem zero_pow(hk:0<k):pow 0 k=0:=by
 obtain⟨j,rfl⟩:∃j,k=j+1:=⟨k-1,by omega⟩
 rw[pow];grobner
theorem wo(a k:Nat):pow (fp a) k=fp (a^k):=Fin.ext (by rw[Lz,Wx,Wx,<-zj])
theorem ndvd{a:Fe}(h:a≠0):¬P∣a.val:=fun hd=>by
 have h1:=R1 hd
 rw[Qv a.isLt]at h1
 exact h (Fin.ext h1)
theorem Tj{a:Fe}(h:a≠0):pow a (P-1)=1:=Fin.ext (by rw[Lz,Go.NT.Tj uM (ndvd h)];rfl)
def iv(a:Fe):Fe:=pow a (P-2)
theorem KS{a:Fe}(h:a≠0):a*iv a=1:=by
 have h1:=Tj h
 rw[show P-1=(P-2)+1 from rfl,pow]at h1
 unfold iv
 rw[<-h1];grobner
theorem A5:iv 0=0:=zero_pow ww
def dN:Nat:=37095705934669439343138083508754565189542113879843219016388785533085940283555
def iN:Nat:=19681161376707505956807079304988542015446066515923890162744021073123829784752
def d:Fe:=fp dN
def iQ:Fe:=fp iN
theorem Cg{r f:Nat}(hk:k<2^f)(h:pwf P a f k=r):pow (fp a) k=fp r:=by
 rw[wo,<-h,Ly hk,YO]
theorem Ss:iQ*iQ = -1:=by
 have h:iQ*iQ+1=0:=by
  unfold iQ
  rw[<-Kg,<-LQ,<-Vx]
  exact Fin.ext (by rw[Wx];decide +kernel)
 grobner
theorem Y4:(1:Fe)≠0:=fun h=>by
 have:=congrArg Fin.val h
 revert this
 decide +kernel
theorem iL:(2:Fe)≠0:=fun h=>by
 have:=congrArg Fin.val h
 revert this
 decide +kernel
theorem Ch(r:Fe):pow (r*r) ((P-1)/2)=1\/r=0:=by
 by_cases h:r=0
 ·exact .inr h
 ·left
  rw[<-pow_two,<-pow_mul,show 2*((P-1)/2)=P-1 from by decide +kernel,Tj h]
theorem wY:pow d ((P-1)/2)=fp (P-1):=Cg (f:=256) (by decide +kernel) (by decide +kernel)
theorem nosq(r:Fe):r*r≠d:=fun h=>by
 have h1:=wY
 rcases Ch r with h2|h2
 ·rw[h,h1]at h2
  have:=congrArg Fin.val h2
  revert this
  decide +kernel
 ·subst h2
  have h3:d=0:=by rw[<-h];grobner
  have:=congrArg Fin.val h3
  revert this
  decide +kernel
theorem fld:Fld P iv d iQ:=⟨fun _ h=>KS h,A5,Y4,iL,Ss,nosq⟩
end
end Go.Fp
namespace Go.Ev.YtoipgdjfhahimaaGreat
open Go Go.Ev
attribute [local congr] JE JW JD JX Jz
set_option maxRecDepth 100000
variable{x n y x0 x1 x2 x3 x4 V b c a i:Nat}{k:List Nat}{R:Ob}
theorem OF(hx:x<18446744073709551616)(hy:y<18446744073709551616) :
  Z6 T 206 [.int .u64 x,.int .u64 y] []=some (.tuple #[.int .u64 ((x*y/18446744073709551616:Nat):Int),.int .u64 ((x*y%18446744073709551616:Nat):Int)],[],[]):=by
 have key:∀a b:Nat,a=x*y/18446744073709551616->b=x*y%18446744073709551616->(some (.tuple #[.int .u64 (a:Int),.int .u64 (b:Int)],[],[]):Option (Value×List Ob×List Nat))=some (.tuple #[.int .u64 ((x*y/18446744073709551616:Nat):Int),.int .u64 ((x*y%18446744073709551616:Nat):Int)],[],[]):=by
  rintro a b rfl rfl;rfl
 rw[QY (fn:=a91) rfl]
 simp only[a91,Qr,quiet,cF,Jy,QZ,↓pQ,reduceCtorEq,seval,-Qb,cL,cU]
 apply key
 ·have e:x*y=(x/4294967296*(y/4294967296))*18446744073709551616+(x/4294967296*(y%4294967296)+x%4294967296*(y/4294967296))*4294967296+x%4294967296*(y%4294967296):=by
   conv=>lhs;rw[<-Z5 x 4294967296,<-Z5 y 4294967296]
   generalize x/4294967296=x1
   generalize x%4294967296=x0
   generalize y/4294967296=y1
   generalize y%4294967296=y0
   grind
  have b1:x/4294967296<=4294967295:=qr
  have b2:x%4294967296<=4294967295:=qr
  have b3:y/4294967296<=4294967295:=qr
  have b4:y%4294967296<=4294967295:=qr
  have c1:=Xe b1 b3
  have c2:=Xe b1 b4
  have c3:=Xe b2 b3
  have c4:=Xe b2 b4
  rw[e]
  clear e
  generalize x/4294967296*(y/4294967296)=p11 at *
  generalize x/4294967296*(y%4294967296)=p10 at *
  generalize x%4294967296*(y/4294967296)=p01 at *
  generalize x%4294967296*(y%4294967296)=p00 at *
  omega
 ·rfl
def wV(n:Nat):Value := .agg #[.int .u64 ((n/18446744073709551616:Nat):Int),.int .u64 ((n%18446744073709551616:Nat):Int)]
theorem rf_wV(n:Nat):rf (wV n)=true:=rfl
theorem Es(hc:c<=1):Z6 T 207 [.int .u64 x,.int .u64 y,.int .u64 c] []=some (.tuple #[.int .u64 ((x+y+c)%18446744073709551616:Nat),.int .u64 ((x+y+c)/18446744073709551616:Nat)],[],[]):=by
 rw[Z6.eq_def]
 have h1:T.fn 207=none:=rfl
 have h2:([.int .u64 (x:Int),.int .u64 (y:Int),.int .u64 (c:Int)]:List Value).all rf=true:=rfl
 have h3:T.ext 207 [.int .u64 x,.int .u64 y,.int .u64 c]=some (.tuple #[.int .u64 ((x+y+c)%18446744073709551616:Nat),.int .u64 ((x+y+c)/18446744073709551616:Nat)]):=by
  have h4:(c:Int).toNat<=1:=qr
  simp[T,tE,hc]
 rw[h1]
 simp only[h2,if_true,h3,Qp]
theorem dt(hx:x<18446744073709551616)(hy:y<18446744073709551616):∃l,Z6 T 170 [.int .u64 x,.int .u64 y] []=some (wV (x*y),l,[]):=by
 have h:=OF hx hy
 have hf:∀a b:Int,fillL [Value.int .u64 0,Value.int .u64 0] [(0,1,.int .u64 a),(1,1,.int .u64 b)]=some [.int .u64 a,.int .u64 b]:=fun _ _=>rfl
 apply Jg
 rw[QY (fn:=a77) rfl]
 simp only[a77,Qr,quiet,cF,Jy,QZ,↓pQ,reduceCtorEq,seval,-Qb,cL,cJ,Zb,h,hf]
 rfl
theorem ir(hx:x<18446744073709551616)(hy:y<18446744073709551616)(hn:n+x*y<340282366920938463463374607431768211456):∃l,Z6 T 171 [wV n,.int .u64 x,.int .u64 y] []=some (wV (n+x*y),l,[]):=by
 have h:=OF hx hy
 have hf:∀a b:Int,fillL [Value.int .u64 0,Value.int .u64 0] [(0,1,.int .u64 a),(1,1,.int .u64 b)]=some [.int .u64 a,.int .u64 b]:=fun _ _=>rfl
 have a1:=Es (x:=n%18446744073709551616) (y:=x*y%18446744073709551616) (c:=0) ww
 have a2:=Es (x:=n/18446744073709551616) (y:=x*y/18446744073709551616) (c:=(n%18446744073709551616+x*y%18446744073709551616)/18446744073709551616) qr
 simp only[QA,Jl]at a1
 have key:∀(a b:Nat) (l:List Ob),a=(n+x*y)/18446744073709551616->b=(n+x*y)%18446744073709551616->(some (.agg #[.int .u64 (a:Int),.int .u64 (b:Int)],l,[]):Option (Value×List Ob×List Nat))=some (wV (n+x*y),l,[]):=by
  rintro a b l rfl rfl;rfl
 apply Jg
 rw[QY (fn:=a78) rfl]
 simp only[wV,a78,Qr,quiet,cF,Jy,QZ,↓pQ,reduceCtorEq,seval,-Qb,cL,cJ,Zb,h,hf,a1,a2]
 apply key
 ·generalize x*y=p at *
  omega
 ·generalize x*y=p at *
  omega
theorem iZ(hn:n<41538374868278621028243970633760768):∃l,Z6 T 172 [wV n] []=some (.tuple #[.int .u64 ((n/2251799813685248:Nat):Int),.int .u64 ((n%2251799813685248:Nat):Int)],l,[]):=by
 have key:∀(a b:Nat) (l:List Ob),a=n/2251799813685248->b=n%2251799813685248->(some (.tuple #[.int .u64 (a:Int),.int .u64 (b:Int)],l,[]):Option (Value×List Ob×List Nat))=some (.tuple #[.int .u64 ((n/2251799813685248:Nat):Int),.int .u64 ((n%2251799813685248:Nat):Int)],l,[]):=by
  rintro a b l rfl rfl;rfl
 have hor:=fun a b:Nat=>n_or .u64 rfl a b
 apply Jg
 rw[QY (fn:=a79) rfl]
 simp only[wV,a79,Qr,quiet,cF,Jy,QZ,↓pQ,reduceCtorEq,seval,-Qb,cL,cJ,Zb,cU,hor]
 apply key
 ·have h1:n/18446744073709551616<2251799813685248:=qr
  have e1:n/18446744073709551616*8192%18446744073709551616%2^IntKind.u64.bits=n/18446744073709551616*2^13:=by
   rw[show(2:Nat)^IntKind.u64.bits=18446744073709551616 from rfl];omega
  have e2:n%18446744073709551616/2251799813685248%2^IntKind.u64.bits=n%18446744073709551616/2251799813685248:=by
   rw[show(2:Nat)^IntKind.u64.bits=18446744073709551616 from rfl];omega
  rw[e1,e2,YK qr]
  omega
 ·omega
theorem sI(hn:n+x<340282366920938463463374607431768211456)(hx:x<18446744073709551616):∃l,Z6 T 173 [wV n,.int .u64 x] []=some (wV (n+x),l,[]):=by
 have hf:∀a b:Int,fillL [Value.int .u64 0,Value.int .u64 0] [(0,1,.int .u64 a),(1,1,.int .u64 b)]=some [.int .u64 a,.int .u64 b]:=fun _ _=>rfl
 have a1:=Es (x:=n%18446744073709551616) (y:=x) (c:=0) ww
 simp only[QA,Jl]at a1
 have key:∀(a b:Nat) (l:List Ob),a=(n+x)/18446744073709551616->b=(n+x)%18446744073709551616->(some (.agg #[.int .u64 (a:Int),.int .u64 (b:Int)],l,[]):Option (Value×List Ob×List Nat))=some (wV (n+x),l,[]):=by
  rintro a b l rfl rfl;rfl
 apply Jg
 rw[QY (fn:=a80) rfl]
 simp only[wV,a80,Qr,quiet,cF,Jy,QZ,↓pQ,reduceCtorEq,seval,-Qb,cL,cJ,Zb,cU,hf,a1]
 apply key
 ·omega
 ·omega
def eV(l:List Nat):Value := .agg (ns .u64 l).toArray
theorem QR(l:List Nat):rf (eV l)=true:=by
 show(ns .u64 l).toArray.toList.all Z4=true
 rw[show(ns .u64 l).toArray.toList=ns .u64 l from rfl]
 simp[ns,Z4]
theorem bJ(k:IntKind)(l:List Nat):rf (.agg (ns k l).toArray)=true:=by
 show(ns k l).toArray.toList.all Z4=true
 rw[show(ns k l).toArray.toList=ns k l from rfl]
 simp[ns,Z4]
structure El(l:List Nat)(b:Nat):Prop where
 len:l.length=5
 lt:∀x∈l,x<b
theorem El.five{l:List Nat}{b:Nat}(h:El l b):∃x0 x1 x2 x3 x4,l=[x0,x1,x2,x3,x4]/\x0<b/\x1<b/\x2<b/\x3<b/\x4<b:=by
 obtain⟨h1,h2⟩:=h
 match l,h1 with
 |[x0,x1,x2,x3,x4],_=>exact⟨x0,x1,x2,x3,x4,rfl,h2 _ wd,h2 _ wd,h2 _ wd,h2 _ wd,h2 _ wd⟩
theorem El.mk5{x0 x1 x2 x3 x4 b:Nat}(h0:x0<b)(h1:x1<b)(h2:x2<b)(h3:x3<b)(h4:x4<b):El [x0,x1,x2,x3,x4] b:=⟨rfl,by simp;exact⟨h0,h1,h2,h3,h4⟩⟩
def v51(l:List Nat):Nat:=num 2251799813685248 l
def fe(l:List Nat):Go.Fp.Fe:=Go.Fp.fp (v51 l)
def Us(x0 x1 x2 x3 x4:Nat):List Nat :=
 let c0:=x0/2251799813685248
 let c1:=(x1+c0)/2251799813685248
 let c2:=(x2+c1)/2251799813685248
 let c3:=(x3+c2)/2251799813685248
 let c4:=(x4+c3)/2251799813685248
 [x0%2251799813685248+19*c4,(x1+c0)%2251799813685248,(x2+c1)%2251799813685248,(x3+c2)%2251799813685248,(x4+c3)%2251799813685248]
theorem Rb:∃k,v51 (Us x0 x1 x2 x3 x4)+k*Go.Fp.P=v51 [x0,x1,x2,x3,x4]:=by
 refine⟨(x4+(x3+(x2+(x1+x0/2251799813685248)/2251799813685248)/2251799813685248)/2251799813685248)/2251799813685248,?_⟩
 simp only[v51,Us,num,Go.Fp.Hu]
 omega
theorem vy{k:Nat}(h:a+k*Go.Fp.P=b):Go.Fp.fp a=Go.Fp.fp b:=by
 rw[<-h,Go.Fp.Vx,Go.Fp.cI];grobner
theorem aU(h0:x0<9223372036854775808)(h1:x1<9223372036854775808)(h2:x2<9223372036854775808)(h3:x3<9223372036854775808)(h4:x4<9223372036854775808) :
  ∃l,Z6 T 174 [eV [x0,x1,x2,x3,x4]] []=some (eV (Us x0 x1 x2 x3 x4),l,[]):=by
 have key:∀(a b c d e:Nat) (l:List Ob),[a,b,c,d,e]=Us x0 x1 x2 x3 x4->(some (.agg [.int .u64 (a:Int),.int .u64 (b:Int),.int .u64 (c:Int),.int .u64 (d:Int),.int .u64 (e:Int)].toArray,l,[]):Option (Value×List Ob×List Nat))=some (eV (Us x0 x1 x2 x3 x4),l,[]):=by
  intro a b c d e l h
  rw[<-h];rfl
 have hz:Qa 5 (Value.int .u64 0)=[.int .u64 0,.int .u64 0,.int .u64 0,.int .u64 0,.int .u64 0]:=rfl
 apply Jg
 rw[QY (fn:=a81) rfl]
 simp only[eV,Wi,GW,a81,Qr,quiet,cF,Jy,QZ,↓pQ,reduceCtorEq,seval,-Qb,cL,cJ,Zb,cU,hz,Jt,J6,pK]
 apply key
 simp only[Us,List.cons.injEq,and_true]
 rw[show x0%18446744073709551616=x0 by omega]
 have b0:x0/2251799813685248<8192:=qr
 have hx0:x0%2251799813685248<2251799813685248:=qr
 generalize x0/2251799813685248=c0 at *
 generalize x0%2251799813685248=r0 at *
 rw[show(x1+c0)%18446744073709551616=x1+c0 by omega]
 have b1:(x1+c0)/2251799813685248<8192:=qr
 generalize(x1+c0)/2251799813685248=c1 at *
 rw[show(x2+c1)%18446744073709551616=x2+c1 by omega]
 have b2:(x2+c1)/2251799813685248<8192:=qr
 generalize(x2+c1)/2251799813685248=c2 at *
 rw[show(x3+c2)%18446744073709551616=x3+c2 by omega]
 have b3:(x3+c2)/2251799813685248<8192:=qr
 generalize(x3+c2)/2251799813685248=c3 at *
 rw[show(x4+c3)%18446744073709551616=x4+c3 by omega]
 have b4:(x4+c3)/2251799813685248<8192:=qr
 generalize(x4+c3)/2251799813685248=c4 at *
 refine⟨by omega,rfl,rfl,rfl,rfl⟩
theorem sG(B P x0 x1 x2 x3 x4 y0 y1 y2 y3 y4:Nat)(h:B*B*B*B*B=P+19) :
  (x0+B*(x1+B*(x2+B*(x3+B*(x4+B*0)))))*(y0+B*(y1+B*(y2+B*(y3+B*(y4+B*0))))) =
   (x0*y0+19*x1*y4+19*x2*y3+19*x3*y2+19*x4*y1)+B*((x0*y1+x1*y0+19*x2*y4+19*x3*y3+19*x4*y2)+B*((x0*y2+x1*y1+x2*y0+19*x3*y4+19*x4*y3)+B*((x0*y3+x1*y2+x2*y1+x3*y0+19*x4*y4)+B*(x0*y4+x1*y3+x2*y2+x3*y1+x4*y0)))) +
   (x1*y4+x2*y3+x3*y2+x4*y1+B*(x2*y4+x3*y3+x4*y2+B*(x3*y4+x4*y3+B*(x4*y4))))*P:=by grind
theorem HE(hx:x<18446744073709551616)(hy:y<18446744073709551616):evVal T 170 [.int .u64 x,.int .u64 y]=some (wV (x*y)):=XA (dt hx hy)
theorem XV(hx:x<18446744073709551616)(hy:y<18446744073709551616)(hn:n+x*y<340282366920938463463374607431768211456):evVal T 171 [wV n,.int .u64 x,.int .u64 y]=some (wV (n+x*y)):=XA (ir hx hy hn)
theorem HG(hn:n<41538374868278621028243970633760768):evVal T 172 [wV n]=some (.tuple #[.int .u64 ((n/2251799813685248:Nat):Int),.int .u64 ((n%2251799813685248:Nat):Int)]):=XA (iZ hn)
theorem wU(hn:n+x<340282366920938463463374607431768211456)(hx:x<18446744073709551616):evVal T 173 [wV n,.int .u64 x]=some (wV (n+x)):=XA (sI hn hx)
theorem BL(h0:x0<9223372036854775808)(h1:x1<9223372036854775808)(h2:x2<9223372036854775808)(h3:x3<9223372036854775808)(h4:x4<9223372036854775808):evVal T 174 [eV [x0,x1,x2,x3,x4]]=some (eV (Us x0 x1 x2 x3 x4)):=XA (aU h0 h1 h2 h3 h4)
theorem Un{d e:Nat}(ha:a<2^109)(hb:b<2^109)(hc:c<2^109)(hd:d<2^109)(he:e<2^109):a+b+c+d+e<2^112:=qr
theorem J4(hx:x<2^57)(hy:y<2^52):x*y<2^109:=by
 rw[show(2:Nat)^109=2^57*2^52 from rfl]
 exact Nat.mul_lt_mul'' hx hy
theorem sF{s0 s1 s2 s3 s4:Nat}(h0:s0<2^112)(h1:s1<2^112)(h2:s2<2^112)(h3:s3<2^112)(h4:s4<2^112):∃r,El r (2^52)/\(∃k,v51 r+k*Go.Fp.P=s0+2251799813685248*(s1+2251799813685248*(s2+2251799813685248*(s3+2251799813685248*s4)))) /\
  r=Us ((19*(s4/2251799813685248)+s0%2251799813685248)%2251799813685248) (s1%2251799813685248+s0/2251799813685248+(19*(s4/2251799813685248)+s0%2251799813685248)/2251799813685248) (s2%2251799813685248+s1/2251799813685248) (s3%2251799813685248+s2/2251799813685248) (s4%2251799813685248+s3/2251799813685248):=by
 refine⟨_,?_,?_,rfl⟩
 ·simp only[Us]
  apply El.mk5<;>omega
 ·obtain⟨k,hk⟩:=Rb (x0:=(19*(s4/2251799813685248)+s0%2251799813685248)%2251799813685248) (x1:=s1%2251799813685248+s0/2251799813685248+(19*(s4/2251799813685248)+s0%2251799813685248)/2251799813685248) (x2:=s2%2251799813685248+s1/2251799813685248) (x3:=s3%2251799813685248+s2/2251799813685248) (x4:=s4%2251799813685248+s3/2251799813685248)
  refine⟨k+s4/2251799813685248,?_⟩
  rw[Zl,<-Zb,hk]
  simp only[v51,num,Go.Fp.Hu]
  omega
theorem Xk{x y:List Nat}(hx:El x (2^52))(hy:El y (2^52)):∃r,evVal T 109 [eV x,eV y]=some (eV r)/\El r (2^52)/\fe r=fe x*fe y:=by
 obtain⟨x0,x1,x2,x3,x4,rfl,a0,a1,a2,a3,a4⟩:=hx.five
 obtain⟨y0,y1,y2,y3,y4,rfl,b0,b1,b2,b3,b4⟩:=hy.five
 have m1:19*x1%18446744073709551616=19*x1:=qr
 have m2:19*x2%18446744073709551616=19*x2:=qr
 have m3:19*x3%18446744073709551616=19*x3:=qr
 have m4:19*x4%18446744073709551616=19*x4:=qr
 have t00:=HE (x:=x0) (y:=y0) qr qr
 have p00:x0*y0<2^109:=J4 qr qr
 have p01:19*x1*y4<2^109:=J4 qr qr
 have p02:19*x2*y3<2^109:=J4 qr qr
 have p03:19*x3*y2<2^109:=J4 qr qr
 have p04:19*x4*y1<2^109:=J4 qr qr
 have t01:=XV (n:=x0*y0) (x:=19*x1) (y:=y4) qr qr qr
 have t02:=XV (n:=x0*y0+19*x1*y4) (x:=19*x2) (y:=y3) qr qr qr
 have t03:=XV (n:=x0*y0+19*x1*y4+19*x2*y3) (x:=19*x3) (y:=y2) qr qr qr
 have t04:=XV (n:=x0*y0+19*x1*y4+19*x2*y3+19*x3*y2) (x:=19*x4) (y:=y1) qr qr qr
 have q0:=Un p00 p01 p02 p03 p04
 have t10:=HE (x:=x0) (y:=y1) qr qr
 have p10:x0*y1<2^109:=J4 qr qr
 have p11:x1*y0<2^109:=J4 qr qr
 have p12:19*x2*y4<2^109:=J4 qr qr
 have p13:19*x3*y3<2^109:=J4 qr qr
 have p14:19*x4*y2<2^109:=J4 qr qr
 have t11:=XV (n:=x0*y1) (x:=x1) (y:=y0) qr qr qr
 have t12:=XV (n:=x0*y1+x1*y0) (x:=19*x2) (y:=y4) qr qr qr
 have t13:=XV (n:=x0*y1+x1*y0+19*x2*y4) (x:=19*x3) (y:=y3) qr qr qr
 have t14:=XV (n:=x0*y1+x1*y0+19*x2*y4+19*x3*y3) (x:=19*x4) (y:=y2) qr qr qr
 have q1:=Un p10 p11 p12 p13 p14
 have t20:=HE (x:=x0) (y:=y2) qr qr
 have p20:x0*y2<2^109:=J4 qr qr
 have p21:x1*y1<2^109:=J4 qr qr
 have p22:x2*y0<2^109:=J4 qr qr
 have p23:19*x3*y4<2^109:=J4 qr qr
 have p24:19*x4*y3<2^109:=J4 qr qr
 have t21:=XV (n:=x0*y2) (x:=x1) (y:=y1) qr qr qr
 have t22:=XV (n:=x0*y2+x1*y1) (x:=x2) (y:=y0) qr qr qr
 have t23:=XV (n:=x0*y2+x1*y1+x2*y0) (x:=19*x3) (y:=y4) qr qr qr
 have t24:=XV (n:=x0*y2+x1*y1+x2*y0+19*x3*y4) (x:=19*x4) (y:=y3) qr qr qr
 have q2:=Un p20 p21 p22 p23 p24
 have t30:=HE (x:=x0) (y:=y3) qr qr
 have p30:x0*y3<2^109:=J4 qr qr
 have p31:x1*y2<2^109:=J4 qr qr
 have p32:x2*y1<2^109:=J4 qr qr
 have p33:x3*y0<2^109:=J4 qr qr
 have p34:19*x4*y4<2^109:=J4 qr qr
 have t31:=XV (n:=x0*y3) (x:=x1) (y:=y2) qr qr qr
 have t32:=XV (n:=x0*y3+x1*y2) (x:=x2) (y:=y1) qr qr qr
 have t33:=XV (n:=x0*y3+x1*y2+x2*y1) (x:=x3) (y:=y0) qr qr qr
 have t34:=XV (n:=x0*y3+x1*y2+x2*y1+x3*y0) (x:=19*x4) (y:=y4) qr qr qr
 have q3:=Un p30 p31 p32 p33 p34
 have t40:=HE (x:=x0) (y:=y4) qr qr
 have p40:x0*y4<2^109:=J4 qr qr
 have p41:x1*y3<2^109:=J4 qr qr
 have p42:x2*y2<2^109:=J4 qr qr
 have p43:x3*y1<2^109:=J4 qr qr
 have p44:x4*y0<2^109:=J4 qr qr
 have t41:=XV (n:=x0*y4) (x:=x1) (y:=y3) qr qr qr
 have t42:=XV (n:=x0*y4+x1*y3) (x:=x2) (y:=y2) qr qr qr
 have t43:=XV (n:=x0*y4+x1*y3+x2*y2) (x:=x3) (y:=y1) qr qr qr
 have t44:=XV (n:=x0*y4+x1*y3+x2*y2+x3*y1) (x:=x4) (y:=y0) qr qr qr
 have q4:=Un p40 p41 p42 p43 p44
 obtain⟨r,hr1,⟨k,hr2⟩,hr3⟩:=sF q0 q1 q2 q3 q4
 have d0:=HG (n:=x0*y0+19*x1*y4+19*x2*y3+19*x3*y2+19*x4*y1) qr
 have d1:=HG (n:=x0*y1+x1*y0+19*x2*y4+19*x3*y3+19*x4*y2) qr
 have d2:=HG (n:=x0*y2+x1*y1+x2*y0+19*x3*y4+19*x4*y3) qr
 have d3:=HG (n:=x0*y3+x1*y2+x2*y1+x3*y0+19*x4*y4) qr
 have d4:=HG (n:=x0*y4+x1*y3+x2*y2+x3*y1+x4*y0) qr
 refine⟨r,?_,hr1,?_⟩
 ·rw[hr3]
  clear hr2 hr3
  generalize x0*y0+19*x1*y4+19*x2*y3+19*x3*y2+19*x4*y1=s0 at *
  generalize x0*y1+x1*y0+19*x2*y4+19*x3*y3+19*x4*y2=s1 at *
  generalize x0*y2+x1*y1+x2*y0+19*x3*y4+19*x4*y3=s2 at *
  generalize x0*y3+x1*y2+x2*y1+x3*y0+19*x4*y4=s3 at *
  generalize x0*y4+x1*y3+x2*y2+x3*y1+x4*y0=s4 at *
  have u1:=HE (x:=19) (y:=s4/2251799813685248) qr qr
  have u2:=wU (n:=19*(s4/2251799813685248)) (x:=s0%2251799813685248) qr qr
  have u3:=HG (n:=19*(s4/2251799813685248)+s0%2251799813685248) qr
  have w1:(s1%2251799813685248+s0/2251799813685248)%18446744073709551616=s1%2251799813685248+s0/2251799813685248:=qr
  have w2:(s1%2251799813685248+s0/2251799813685248+(19*(s4/2251799813685248)+s0%2251799813685248)/2251799813685248)%18446744073709551616=s1%2251799813685248+s0/2251799813685248+(19*(s4/2251799813685248)+s0%2251799813685248)/2251799813685248:=qr
  have w3:(s2%2251799813685248+s1/2251799813685248)%18446744073709551616=s2%2251799813685248+s1/2251799813685248:=qr
  have w4:(s3%2251799813685248+s2/2251799813685248)%18446744073709551616=s3%2251799813685248+s2/2251799813685248:=qr
  have w5:(s4%2251799813685248+s3/2251799813685248)%18446744073709551616=s4%2251799813685248+s3/2251799813685248:=qr
  have v1:=BL (x0:=(19*(s4/2251799813685248)+s0%2251799813685248)%2251799813685248) (x1:=s1%2251799813685248+s0/2251799813685248+(19*(s4/2251799813685248)+s0%2251799813685248)/2251799813685248) (x2:=s2%2251799813685248+s1/2251799813685248) (x3:=s3%2251799813685248+s2/2251799813685248) (x4:=s4%2251799813685248+s3/2251799813685248) qr qr qr qr qr
  simp only[JP]at u1
  have hz:Qa 5 (Value.int .u64 0)=[.int .u64 0,.int .u64 0,.int .u64 0,.int .u64 0,.int .u64 0]:=rfl
  have hf:∀a b c d e:Int,fillL [Value.int .u64 0,.int .u64 0,.int .u64 0,.int .u64 0,.int .u64 0] [(0,1,.int .u64 a),(1,1,.int .u64 b),(2,1,.int .u64 c),(3,1,.int .u64 d),(4,1,.int .u64 e)]=some [.int .u64 a,.int .u64 b,.int .u64 c,.int .u64 d,.int .u64 e]:=fun _ _ _ _ _=>rfl
  have hf5:∀a b c d e:Int,fillL [Value.int .u64 0,.int .u64 0,.int .u64 0,.int .u64 0,.int .u64 0] [(0,5,.agg [.int .u64 a,.int .u64 b,.int .u64 c,.int .u64 d,.int .u64 e].toArray)]=some [.int .u64 a,.int .u64 b,.int .u64 c,.int .u64 d,.int .u64 e]:=fun _ _ _ _ _=>rfl
  have hr5:∀a b c d e:Int,rf (.agg [.int .u64 a,.int .u64 b,.int .u64 c,.int .u64 d,.int .u64 e].toArray)=true:=fun _ _ _ _ _=>rfl
  have hw:∀n,(wV n).cells.size=2:=fun _=>rfl
  have hw2:∀n,(wV n).cells.toList=[.int .u64 ((n/18446744073709551616:Nat):Int),.int .u64 ((n%18446744073709551616:Nat):Int)]:=fun _=>rfl
  have hw3:∀n,Z7 (wV n)=true:=fun _=>rfl
  have hw4:∀n,Value.agg [.int .u64 ((n/18446744073709551616:Nat):Int),.int .u64 ((n%18446744073709551616:Nat):Int)].toArray=wV n:=fun _=>rfl
  simp only[eV,Wi,GW]at v1 ⊢
  generalize hc:ns .u64 (Us ((19*(s4/2251799813685248)+s0%2251799813685248)%2251799813685248) (s1%2251799813685248+s0/2251799813685248+(19*(s4/2251799813685248)+s0%2251799813685248)/2251799813685248) (s2%2251799813685248+s1/2251799813685248) (s3%2251799813685248+s2/2251799813685248) (s4%2251799813685248+s3/2251799813685248))=C at *
  have hC:C.length=5:=by rw[<-hc];rfl
  have hCr:rf (.agg C.toArray)=true:=by rw[<-hc];exact bJ _ _
  apply QE (fn:=a51) rfl
  simp only[a51,Qr,quiet,cF,JJ,QZ,↓pQ,reduceCtorEq,seval,-Qb,cL,cJ,cU,hz,m1,m2,m3,m4,t00,t01,t02,t03,t04,t10,t11,t12,t13,t14,t20,t21,t22,t23,t24,t30,t31,t32,t33,t34,t40,t41,t42,t43,t44,d0,d1,d2,d3,d4,u1,u2,u3,w1,w2,w3,w4,w5,hf,hf5,hr5,v1,rf_wV,hw,hw2,hw3,hw4,hC,hCr]
  rfl
 ·unfold fe
  rw[<-Go.Fp.Kg]
  have h:=sG 2251799813685248 Go.Fp.P x0 x1 x2 x3 x4 y0 y1 y2 y3 y4 (by rw[Go.Fp.Hu])
  have e:v51 [x0,x1,x2,x3,x4]*v51 [y0,y1,y2,y3,y4]=v51 r+(k+(x1*y4+x2*y3+x3*y2+x4*y1+2251799813685248*(x2*y4+x3*y3+x4*y2+2251799813685248*(x3*y4+x4*y3+2251799813685248*(x4*y4)))))*Go.Fp.P:=by
   simp only[v51,num]at hr2 h ⊢
   rw[h,<-hr2,Zb,<-Zl]
  exact vy e.symm
theorem Ad{w q s:Nat}(hs:s<w):V/(2^w)^q%2^w/2^s%2=V/2^(w*q+s)%2:=by
 have h1:(2:Nat)^w=2^s*2^(w-s):=by rw[<-JI];congr 1;omega
 conv=>lhs;rw[show V/(2^w)^q%2^w=V/(2^w)^q%(2^s*2^(w-s)) from by rw[<-h1]]
 have h2:(2:Nat)∣2^(w-s):=by
  obtain⟨m,hm⟩:∃m,w-s=m+1:=⟨w-s-1,by omega⟩
  rw[hm,Zj]
  exact PO 2 _
 rw[Nat.mod_mul_right_div_self,Ws _ h2,QV,<-Je,<-JI]
theorem P7(V i:Nat):V%2^i+V/2^i%2*2^i=V%2^(i+1):=by
 rw[Nat.mod_pow_succ,Zm (2^i)]
theorem Bg(V i:Nat):V/2^i%2<2:=Q9 _ ww
theorem Ga(h:n<=b):(2:Int)^min n b=((2^n:Nat):Int):=by rw[Zw h];simp
theorem HH(hn:n<4294967296):evVal T 106 [.int .u32 n]=some (eV [n,0,0,0,0]):=by
 have hz:Qa 5 (Value.int .u64 0)=[.int .u64 0,.int .u64 0,.int .u64 0,.int .u64 0,.int .u64 0]:=rfl
 have hf:∀a:Int,fillL [Value.int .u64 0,.int .u64 0,.int .u64 0,.int .u64 0,.int .u64 0] [(0,1,.int .u64 a)]=some [.int .u64 a,.int .u64 0,.int .u64 0,.int .u64 0,.int .u64 0]:=fun _=>rfl
 have hf5:∀a b c d e:Int,fillL [Value.int .u64 0,.int .u64 0,.int .u64 0,.int .u64 0,.int .u64 0] [(0,5,.agg [.int .u64 a,.int .u64 b,.int .u64 c,.int .u64 d,.int .u64 e].toArray)]=some [.int .u64 a,.int .u64 b,.int .u64 c,.int .u64 d,.int .u64 e]:=fun _ _ _ _ _=>rfl
 have hm:n%18446744073709551616=n:=qr
 apply QE (fn:=a50) rfl
 simp only[a50,Qr,quiet,cF,JJ,QZ,↓pQ,reduceCtorEq,seval,-Qb,cL,cJ,cU,hz,hf,hf5,hm,eV,Wi,GW]
 rfl
theorem Bs(hn:n<2^52):El [n,0,0,0,0] (2^52):=El.mk5 hn ww ww ww ww
theorem Br(n:Nat):fe [n,0,0,0,0]=Go.Fp.fp n:=by simp[fe,v51,num]
def ofX(V i:Nat):List Nat:=dig (2^51) 5 (V%2^i)
def O8(k x:List Nat)(i:Nat)(ex:Env):St:=⟨[(1,.pointer (0:Nat)),(2,.pointer (1:Nat)),(3,.pointer (2:Nat)),(5,.int .i64 i)]++ex,[{c:=u8s k},{c:=ns .u64 [0,0,0,0,0]},{c:=ns .u64 x}],[]⟩
theorem mR(lk:k.length=32)(xk:∀x∈k,x<256)(hi:i<255) :
  Q0 T 0 ET (O8 k (ofX (num 256 k) i) i [])=some (.normal,O8 k (ofX (num 256 k) (i+1)) (i+1) []):=by
 obtain⟨b,hb⟩:∃b,k[i/8]?=some b:=⟨_,Qf qr⟩
 have hbv:=Kv (B:=256) ww xk hb
 have hbc:=Js hb
 have hlen:(ofX (num 256 k) i).length=5:=Zg _ _ _
 obtain⟨y,hy⟩:∃b,(ofX (num 256 k) i)[i/51]?=some b:=⟨_,Qf qr⟩
 have hyc:=ZJ (k := .u64) hy
 have hy':y<2^51:=Vy ww (Qo hy)
 have hbit:b/2^(i%8)%2=num 256 k/2^i%2:=by
  rw[<-hbv,show(256:Nat)=2^8 from rfl,Ad (Q9 _ ww),Z5]
 have hput:=A6 (w:=51) (m:=5) (q:=i/51) (s:=i%51) (y:=num 256 k/2^i%2) (M:=num 256 k%2^i) qr (Q9 _ ww) (by rw[Z5];exact Q9 _ (JT ww)) (by
  have h1:=Bg (num 256 k) i
  have h2:(2:Nat)^(i%51)<=2^50:=Zo ww (by have:=Q9 i (by decide:0<51);omega)
  have h3:num 256 k/2^i%2*2^(i%51)<=1*2^50:=Xe qr h2
  omega)
 rw[Z5,P7]at hput
 have hgd:(dig (2^51) 5 (num 256 k%2^i)).getD (i/51) 0=y:=by rw[QD];unfold ofX at hy;rw[hy];rfl
 rw[hgd]at hput
 have hset:=Xt .u64 (ofX (num 256 k) i) (i/51) (y|||num 256 k/2^i%2*2^(i%51))
 rw[show(ofX (num 256 k) i).set (i/51) (y|||num 256 k/2^i%2*2^(i%51))=ofX (num 256 k) (i+1) from hput]at hset
 have hbl:=Bg (num 256 k) i
 have h50:(2:Nat)^(i%51)<=2^50:=Zo ww (by have:=Q9 i (by decide:0<51);omega)
 have hprod:num 256 k/2^i%2*2^(i%51)<=1*2^50:=Xe qr h50
 have s1:(2:Int)^min (i%8) IntKind.u8.bits=((2^(i%8):Nat):Int):=Ga (J0 (Q9 _ ww))
 have s2:(2:Int)^min (i%51) IntKind.u64.bits=((2^(i%51):Nat):Int):=Ga (by have:=Q9 i (by decide:0<51);exact Xm (J0 this) ww)
 have o1:Zr .or .u64 (y:Int) ((num 256 k/2^i%2*2^(i%51):Nat):Int)=((y|||num 256 k/2^i%2*2^(i%51):Nat):Int):=Kh rfl (by show _<18446744073709551616;omega) (by show _<18446744073709551616;omega)
 have n1:(num 256 k/2^i%2*2^(i%51))%18446744073709551616=num 256 k/2^i%2*2^(i%51):=qr
 have n2:(num 256 k/2^i%2)%18446744073709551616=num 256 k/2^i%2:=qr
 have w1:IntKind.i64.wrap ((i/51:Nat):Int)=((i/51:Nat):Int):=ZB qr
 have w2:IntKind.i64.wrap ((i/8:Nat):Int)=((i/8:Nat):Int):=ZB qr
 have w3:IntKind.i64.wrap ((i+1:Nat):Int)=((i+1:Nat):Int):=ZB qr
 have e1:((i:Int)<255)=True:=wf
 have e2:(((i/51:Nat):Int)<5)=True:=wf
 have e3:(((i/8:Nat):Int)<32)=True:=wf
 have e4:(((i%8:Nat):Int)<0)=False:=wr
 have e5:(((i%51:Nat):Int)<0)=False:=wr
 have e6:i/51+1<=5:=qr
 simp only[O8,ET,Qr,quiet,cF,JJ,QZ,↓pQ,reduceCtorEq,seval,-Qb,cL,cJ,cU,hbc,hyc,hbit,s1,s2,o1,n1,n2,w1,w2,w3,e1,e2,e3,e4,e5,e6,hset,Q8,hlen]
theorem eI(lk:k.length=32)(xk:∀x∈k,x<256):evVal T 105 [.agg (u8s k).toArray]=some (eV (dig (2^51) 5 (num 256 k%2^255))):=by
 have hz:Qa 5 (Value.int .u64 0)=ns .u64 [0,0,0,0,0]:=rfl
 have hb:=ZR (T:=T) (base:=0) (id:=0) (body:=ET) (fun i=>O8 k (ofX (num 256 k) i) i []) (s':=O8 k (ofX (num 256 k) 255) 255 [(6,.bool false)]) 255 (fun i hi=>mR lk xk hi) (by
  simp only[O8,ET,Qr,quiet,cF,JJ,QZ,↓pQ,reduceCtorEq,seval,-Qb,cL])
 have h0:ofX (num 256 k) 0=[0,0,0,0,0]:=by unfold ofX;rw[ZN,PS];decide
 rw[h0]at hb
 have hlen:(ofX (num 256 k) 255).length=5:=Zg _ _ _
 rw[show dig (2^51) 5 (num 256 k%2^255)=ofX (num 256 k) 255 from rfl]
 generalize ofX (num 256 k) 255=X at *
 simp only[O8,Qn,Ql,QA]at hb
 apply QE (fn:=a49) rfl
 have hl5:(ns .u64 [0,0,0,0,0]).length=5:=rfl
 simp only[a49,Qr,quiet,cF,JJ,QZ,↓pQ,reduceCtorEq,seval,-Qb,cL,cJ,hz,hb,O8,eV,hl5,Q8,hlen]
 rfl
theorem O9:El (dig (2^51) 5 V) (2^52):=⟨Zg _ _ _,fun x hx=>by have:=Vy ww hx;omega⟩
theorem Td:v51 (dig (2^51) 5 (V%2^255))=V%2^255:=by
 have h:=XJ (B:=2^51) ww 5 (V%2^255)
 rw[show((2:Nat)^51)^5=2^255 from by rw[<-Je],Kl]at h
 exact h
theorem dm(a b:Nat):∃r,a=b*(a/b)+r/\a%b=r/\(0<b->r<b):=⟨a%b,(Z5 a b).symm,rfl,fun h=>Q9 _ h⟩
theorem gM(h0:x0<9223372036854775808)(h1:x1<9223372036854775808)(h2:x2<9223372036854775808)(h3:x3<9223372036854775808)(h4:x4<9223372036854775808) :
  ∃y0 y1 y2 y3 y4 z0 z1 z2 z3 z4,Us x0 x1 x2 x3 x4=[y0,y1,y2,y3,y4]/\y0<9223372036854775808/\y1<9223372036854775808/\y2<9223372036854775808/\y3<9223372036854775808/\y4<9223372036854775808 /\
   Us y0 y1 y2 y3 y4=[z0,z1,z2,z3,z4]/\z0<2251799813685248+19/\z1<2251799813685248/\z2<2251799813685248/\z3<2251799813685248/\z4<2251799813685248/\(∃k,v51 [z0,z1,z2,z3,z4]+k*Go.Fp.P=v51 [x0,x1,x2,x3,x4]):=by
 have key:∀y0 y1 y2 y3 y4:Nat,y0<2251799813685248+19*8192->y1<2251799813685248->y2<2251799813685248->y3<2251799813685248->y4<2251799813685248->Us x0 x1 x2 x3 x4=[y0,y1,y2,y3,y4] ->
   ∃z0 z1 z2 z3 z4,Us y0 y1 y2 y3 y4=[z0,z1,z2,z3,z4]/\z0<2251799813685248+19/\z1<2251799813685248/\z2<2251799813685248/\z3<2251799813685248/\z4<2251799813685248/\(∃k,v51 [z0,z1,z2,z3,z4]+k*Go.Fp.P=v51 [x0,x1,x2,x3,x4]):=by
  intro y0 y1 y2 y3 y4 b0 b1 b2 b3 b4 hy
  refine⟨_,_,_,_,_,rfl,?_,Q9 _ ww,Q9 _ ww,Q9 _ ww,Q9 _ ww,?_⟩
  ·have c0:y0/2251799813685248<=1:=qr
   have c1:(y1+y0/2251799813685248)/2251799813685248<=1:=qr
   have c2:(y2+(y1+y0/2251799813685248)/2251799813685248)/2251799813685248<=1:=qr
   have c3:(y3+(y2+(y1+y0/2251799813685248)/2251799813685248)/2251799813685248)/2251799813685248<=1:=qr
   generalize(y3+(y2+(y1+y0/2251799813685248)/2251799813685248)/2251799813685248)/2251799813685248=c at *
   rcases ZL y0 2251799813685248 with h|h
   ·
    have d0:y0/2251799813685248=0:=qr
    have c4:(y4+c)/2251799813685248<=1:=qr
    have:=Q9 y0 (by decide:0<2251799813685248)
    omega
   ·have c4:(y4+c)/2251799813685248<=1:=qr
    have:=Q9 y0 (by decide:0<2251799813685248)
    omega
  ·obtain⟨k1,e1⟩:=Rb (x0:=y0) (x1:=y1) (x2:=y2) (x3:=y3) (x4:=y4)
   obtain⟨k2,e2⟩:=Rb (x0:=x0) (x1:=x1) (x2:=x2) (x3:=x3) (x4:=x4)
   rw[hy]at e2
   refine⟨k1+k2,?_⟩
   rw[Zl,<-Zb,<-e2,<-e1]
   rfl
 have c0:x0/2251799813685248<8192:=qr
 have c1:(x1+x0/2251799813685248)/2251799813685248<8192:=qr
 have c2:(x2+(x1+x0/2251799813685248)/2251799813685248)/2251799813685248<8192:=qr
 have c3:(x3+(x2+(x1+x0/2251799813685248)/2251799813685248)/2251799813685248)/2251799813685248<8192:=qr
 have c4:(x4+(x3+(x2+(x1+x0/2251799813685248)/2251799813685248)/2251799813685248)/2251799813685248)/2251799813685248<8192:=qr
 have m0:=Q9 x0 (by decide:0<2251799813685248)
 have m1:=Q9 (x1+x0/2251799813685248) (by decide:0<2251799813685248)
 have m2:=Q9 (x2+(x1+x0/2251799813685248)/2251799813685248) (by decide:0<2251799813685248)
 have m3:=Q9 (x3+(x2+(x1+x0/2251799813685248)/2251799813685248)/2251799813685248) (by decide:0<2251799813685248)
 have m4:=Q9 (x4+(x3+(x2+(x1+x0/2251799813685248)/2251799813685248)/2251799813685248)/2251799813685248) (by decide:0<2251799813685248)
 obtain⟨z0,z1,z2,z3,z4,g1,g2⟩:=key _ _ _ _ _ (by
  generalize(x4+(x3+(x2+(x1+x0/2251799813685248)/2251799813685248)/2251799813685248)/2251799813685248)/2251799813685248=c at *
  generalize x0%2251799813685248=r at *
  show r+19*c<_
  omega) m1 m2 m3 m4 rfl
 refine⟨_,_,_,_,_,z0,z1,z2,z3,z4,rfl,?_,JR m1 ww,JR m2 ww,JR m3 ww,JR m4 ww,g1,g2⟩
 generalize(x4+(x3+(x2+(x1+x0/2251799813685248)/2251799813685248)/2251799813685248)/2251799813685248)/2251799813685248=c at *
 generalize x0%2251799813685248=r at *
 show r+19*c<_
 omega
def Lh(z0 z1 z2 z3 z4:Nat):Nat:=(z4+(z3+(z2+(z1+(z0+19)/2251799813685248)/2251799813685248)/2251799813685248)/2251799813685248)/2251799813685248
def gk(z0 z1 z2 z3 z4:Nat):List Nat :=
 let u0:=z0/2251799813685248
 let u1:=(z1+u0)/2251799813685248
 let u2:=(z2+u1)/2251799813685248
 let u3:=(z3+u2)/2251799813685248
 [z0%2251799813685248,(z1+u0)%2251799813685248,(z2+u1)%2251799813685248,(z3+u2)%2251799813685248,(z4+u3)%2251799813685248]
theorem tr{z0 z1 z2 z3 z4:Nat}(h0:z0<2251799813685248+19)(h1:z1<2251799813685248)(h2:z2<2251799813685248)(h3:z3<2251799813685248)(h4:z4<2251799813685248) :
  Lh z0 z1 z2 z3 z4<=1/\gk (z0+19*Lh z0 z1 z2 z3 z4) z1 z2 z3 z4=dig (2^51) 5 (v51 [z0,z1,z2,z3,z4]%Go.Fp.P):=by
 have hc:Lh z0 z1 z2 z3 z4<=1/\((Lh z0 z1 z2 z3 z4=0/\v51 [z0,z1,z2,z3,z4]<Go.Fp.P)\/(Lh z0 z1 z2 z3 z4=1/\Go.Fp.P<=v51 [z0,z1,z2,z3,z4])):=by
  simp only[Lh,v51,num,Go.Fp.Hu]
  obtain⟨r0,e0,-,l0⟩:=dm (z0+19) 2251799813685248
  generalize(z0+19)/2251799813685248=t0 at *
  obtain⟨r1,e1,-,l1⟩:=dm (z1+t0) 2251799813685248
  generalize(z1+t0)/2251799813685248=t1 at *
  obtain⟨r2,e2,-,l2⟩:=dm (z2+t1) 2251799813685248
  generalize(z2+t1)/2251799813685248=t2 at *
  obtain⟨r3,e3,-,l3⟩:=dm (z3+t2) 2251799813685248
  generalize(z3+t2)/2251799813685248=t3 at *
  obtain⟨r4,e4,-,l4⟩:=dm (z4+t3) 2251799813685248
  generalize(z4+t3)/2251799813685248=t4 at *
  have l0:=l0 ww
  have l1:=l1 ww
  have l2:=l2 ww
  have l3:=l3 ww
  have l4:=l4 ww
  omega
 have hP:=Go.Fp.Hu
 obtain⟨hc1,hc2⟩:=hc
 refine⟨hc1,?_⟩
 generalize Lh z0 z1 z2 z3 z4=c at *
 have hlt:∀x∈gk (z0+19*c) z1 z2 z3 z4,x<2251799813685248:=by
  intro x hx
  simp only[gk,Jr,JL,or_false]at hx
  rcases hx with h|h|h|h|h<;>(rw[h];exact Q9 _ ww)
 have hnum:num 2251799813685248 (gk (z0+19*c) z1 z2 z3 z4)=v51 [z0,z1,z2,z3,z4]%Go.Fp.P:=by
  have hV:v51 [z0,z1,z2,z3,z4]%Go.Fp.P=v51 [z0,z1,z2,z3,z4]-c*Go.Fp.P:=by
   rcases hc2 with⟨g1,g2⟩|⟨g1,g2⟩
   ·rw[Qv g2,g1];omega
   ·have g3:v51 [z0,z1,z2,z3,z4]<Go.Fp.P+Go.Fp.P:=by
     simp only[v51,num,Go.Fp.Hu]at *
     omega
    rw[g1,Xd,Nat.mod_eq_sub_mod g2,Qv qr]
  rw[hV]
  simp only[gk,v51,num,Go.Fp.Hu]at hc2 ⊢
  obtain⟨r0,e0,f0,l0⟩:=dm (z0+19*c) 2251799813685248
  rw[f0]
  generalize(z0+19*c)/2251799813685248=t0 at *
  obtain⟨r1,e1,f1,l1⟩:=dm (z1+t0) 2251799813685248
  rw[f1]
  generalize(z1+t0)/2251799813685248=t1 at *
  obtain⟨r2,e2,f2,l2⟩:=dm (z2+t1) 2251799813685248
  rw[f2]
  generalize(z2+t1)/2251799813685248=t2 at *
  obtain⟨r3,e3,f3,l3⟩:=dm (z3+t2) 2251799813685248
  rw[f3]
  generalize(z3+t2)/2251799813685248=t3 at *
  obtain⟨r4,e4,f4,l4⟩:=dm (z4+t3) 2251799813685248
  rw[f4]
  generalize(z4+t3)/2251799813685248=t4 at *
  have l0:=l0 ww
  have l1:=l1 ww
  have l2:=l2 ww
  have l3:=l3 ww
  have l4:=l4 ww
  rcases hc2 with⟨g1,g2⟩|⟨g1,g2⟩<;>subst g1<;>omega
 have h5:=WD (B:=2251799813685248) ww hlt
 rw[hnum]at h5
 exact h5.symm
def byX(V i:Nat):List Nat:=dig (2^8) 32 (V%2^i)
def LY(x k:List Nat)(R:Ob)(i:Nat)(ex:Env):St:=⟨[(1,.pointer (0:Nat)),(2,.pointer (1:Nat)),(6,.pointer (2:Nat)),(54,.int .i64 i)]++ex,[{c:=ns .u64 x},R,{c:=u8s k}],[]⟩
theorem po(hi:i<255) :
  Q0 T 0 Tv (LY (dig (2^51) 5 V) (byX V i) R i [])=some (.normal,LY (dig (2^51) 5 V) (byX V (i+1)) R (i+1) []):=by
 obtain⟨b,hb⟩:∃b,(dig (2^51) 5 V)[i/51]?=some b:=⟨_,Qf (by rw[Zg];omega)⟩
 have hbv:V/(2^51)^(i/51)%2^51=b:=by rw[XX qr]at hb;exact Xp hb
 have hbc:=ZJ (k := .u64) hb
 have hlen:(byX V i).length=32:=Zg _ _ _
 obtain⟨y,hy⟩:∃b,(byX V i)[i/8]?=some b:=⟨_,Qf qr⟩
 have hyc:=Js hy
 have hy':y<2^8:=Vy ww (Qo hy)
 have hbit:b/2^(i%51)%2=V/2^i%2:=by
  rw[<-hbv,Ad (Q9 _ ww),Z5]
 have hsm:(2:Nat)^(i%8)<=2^7:=Zo ww (by have:=Q9 i (by decide:0<8);omega)
 have hbl:=Bg V i
 have hprod:V/2^i%2*2^(i%8)<=1*2^7:=Xe qr hsm
 have hput:=A6 (w:=8) (m:=32) (q:=i/8) (s:=i%8) (y:=V/2^i%2) (M:=V%2^i) qr (Q9 _ ww) (by rw[Z5];exact Q9 _ (JT ww)) qr
 rw[Z5,P7]at hput
 have hgd:(dig (2^8) 32 (V%2^i)).getD (i/8) 0=y:=by rw[QD];unfold byX at hy;rw[hy];rfl
 rw[hgd]at hput
 have hset:=Xc (byX V i) (i/8) (y|||V/2^i%2*2^(i%8))
 rw[show(byX V i).set (i/8) (y|||V/2^i%2*2^(i%8))=byX V (i+1) from hput]at hset
 have s1:(2:Int)^min (i%8) IntKind.u8.bits=((2^(i%8):Nat):Int):=Ga (J0 (Q9 _ ww))
 have s2:(2:Int)^min (i%51) IntKind.u64.bits=((2^(i%51):Nat):Int):=Ga (by have:=Q9 i (by decide:0<51);exact Xm (J0 this) ww)
 have o1:Zr .or .u8 (y:Int) ((V/2^i%2*2^(i%8):Nat):Int)=((y|||V/2^i%2*2^(i%8):Nat):Int):=Kh rfl (by show _<256;omega) (by show _<256;omega)
 have n1:(V/2^i%2*2^(i%8))%256=V/2^i%2*2^(i%8):=qr
 have n2:(V/2^i%2)%256=V/2^i%2:=qr
 have w1:IntKind.i64.wrap ((i/51:Nat):Int)=((i/51:Nat):Int):=ZB qr
 have w2:IntKind.i64.wrap ((i/8:Nat):Int)=((i/8:Nat):Int):=ZB qr
 have w3:IntKind.i64.wrap ((i+1:Nat):Int)=((i+1:Nat):Int):=ZB qr
 have e1:((i:Int)<255)=True:=wf
 have e2:(((i/51:Nat):Int)<5)=True:=wf
 have e3:(((i/8:Nat):Int)<32)=True:=wf
 have e4:(((i%8:Nat):Int)<0)=False:=wr
 have e5:(((i%51:Nat):Int)<0)=False:=wr
 have e6:i/8+1<=32:=qr
 simp only[LY,Tv,Qr,quiet,cF,JJ,QZ,↓pQ,reduceCtorEq,seval,-Qb,cL,cJ,cU,hbc,hyc,hbit,s1,s2,o1,n1,n2,w1,w2,w3,e1,e2,e3,e4,e5,e6,hset,Qq,hlen]
theorem gO(hV:V<2^255):Q0 T 0 (.block 4 (.loop Tv)) (LY (dig (2^51) 5 V) (dig 256 32 0) R 0 [])=some (.normal,LY (dig (2^51) 5 V) (dig 256 32 V) R 255 [(55,.bool false)]):=by
 have hb:=ZR (T:=T) (base:=0) (id:=4) (body:=Tv) (fun i=>LY (dig (2^51) 5 V) (byX V i) R i []) (s':=LY (dig (2^51) 5 V) (byX V 255) R 255 [(55,.bool false)]) 255 (fun i hi=>po hi) (by
  simp only[LY,Tv,Qr,quiet,cF,JJ,QZ,↓pQ,reduceCtorEq,seval,-Qb,cL])
 rw[show byX V 0=dig 256 32 0 from by unfold byX;rw[ZN,PS],show byX V 255=dig 256 32 V from by unfold byX;rw[Qv hV]]at hb
 exact hb
theorem gN(h0:x0<9223372036854775808)(h1:x1<9223372036854775808)(h2:x2<9223372036854775808)(h3:x3<9223372036854775808)(h4:x4<9223372036854775808) :
  evVal T 111 [eV [x0,x1,x2,x3,x4]]=some (.agg (u8s (dig 256 32 (v51 [x0,x1,x2,x3,x4]%Go.Fp.P))).toArray):=by
 obtain⟨y0,y1,y2,y3,y4,z0,z1,z2,z3,z4,hy,a0,a1,a2,a3,a4,hz,b0,b1,b2,b3,b4,⟨kk,hk⟩⟩:=gM h0 h1 h2 h3 h4
 have hV:v51 [x0,x1,x2,x3,x4]%Go.Fp.P=v51 [z0,z1,z2,z3,z4]%Go.Fp.P:=by rw[<-hk,KJ]
 obtain⟨hc,hfin⟩:=tr b0 b1 b2 b3 b4
 have c1:=BL h0 h1 h2 h3 h4
 have c2:=BL a0 a1 a2 a3 a4
 rw[hy]at c1
 rw[hz]at c2
 have hN:v51 [z0,z1,z2,z3,z4]%Go.Fp.P<2^255:=JR (Q9 _ ww) (by rw[Go.Fp.Hu];decide)
 have hb:=gO (R:={c:=u8s (dig 256 32 0)}) hN
 rw[hV]
 generalize v51 [z0,z1,z2,z3,z4]%Go.Fp.P=N at *
 have hz5:Qa 5 (Value.int .u64 0)=[.int .u64 0,.int .u64 0,.int .u64 0,.int .u64 0,.int .u64 0]:=rfl
 have hz32:Qa 32 (Value.int .u8 0)=u8s (dig 256 32 0):=rfl
 have hr5:∀a b c d e:Int,rf (.agg [.int .u64 a,.int .u64 b,.int .u64 c,.int .u64 d,.int .u64 e].toArray)=true:=fun _ _ _ _ _=>rfl
 have hlk:(dig 256 32 N).length=32:=Zg _ _ _
 have hl0:(dig 256 32 0).length=32:=rfl
 have f0:(z0+19)%18446744073709551616=z0+19:=qr
 have f1:(z1+(z0+19)/2251799813685248)%18446744073709551616=z1+(z0+19)/2251799813685248:=qr
 have f2:(z2+(z1+(z0+19)/2251799813685248)/2251799813685248)%18446744073709551616=z2+(z1+(z0+19)/2251799813685248)/2251799813685248:=by
  generalize(z1+(z0+19)/2251799813685248)=t at *;omega
 have f3:(z3+(z2+(z1+(z0+19)/2251799813685248)/2251799813685248)/2251799813685248)%18446744073709551616=z3+(z2+(z1+(z0+19)/2251799813685248)/2251799813685248)/2251799813685248:=by
  have:(z2+(z1+(z0+19)/2251799813685248)/2251799813685248)/2251799813685248<2251799813685248:=qr
  generalize(z2+(z1+(z0+19)/2251799813685248)/2251799813685248)/2251799813685248=t at *;omega
 have f4:(z4+(z3+(z2+(z1+(z0+19)/2251799813685248)/2251799813685248)/2251799813685248)/2251799813685248)%18446744073709551616=z4+(z3+(z2+(z1+(z0+19)/2251799813685248)/2251799813685248)/2251799813685248)/2251799813685248:=by
  have:(z2+(z1+(z0+19)/2251799813685248)/2251799813685248)/2251799813685248<2251799813685248:=qr
  generalize(z2+(z1+(z0+19)/2251799813685248)/2251799813685248)/2251799813685248=t at *;omega
 have ft:(z4+(z3+(z2+(z1+(z0+19)/2251799813685248)/2251799813685248)/2251799813685248)/2251799813685248)/2251799813685248=Lh z0 z1 z2 z3 z4:=rfl
 generalize Lh z0 z1 z2 z3 z4=c at *
 have g0:19*c%18446744073709551616=19*c:=qr
 have g1:(z0+19*c)%18446744073709551616=z0+19*c:=qr
 have g2:(z0+19*c+0)%18446744073709551616=z0+19*c:=qr
 have k0:(z0+19*c)/2251799813685248<8:=qr
 have g3:(z1+(z0+19*c)/2251799813685248)%18446744073709551616=z1+(z0+19*c)/2251799813685248:=qr
 have k1:(z1+(z0+19*c)/2251799813685248)/2251799813685248<8:=qr
 have g4:(z2+(z1+(z0+19*c)/2251799813685248)/2251799813685248)%18446744073709551616=z2+(z1+(z0+19*c)/2251799813685248)/2251799813685248:=by
  generalize(z1+(z0+19*c)/2251799813685248)/2251799813685248=t at *;omega
 have k2:(z2+(z1+(z0+19*c)/2251799813685248)/2251799813685248)/2251799813685248<8:=by
  generalize(z1+(z0+19*c)/2251799813685248)/2251799813685248=t at *;omega
 have g5:(z3+(z2+(z1+(z0+19*c)/2251799813685248)/2251799813685248)/2251799813685248)%18446744073709551616=z3+(z2+(z1+(z0+19*c)/2251799813685248)/2251799813685248)/2251799813685248:=by
  generalize(z2+(z1+(z0+19*c)/2251799813685248)/2251799813685248)/2251799813685248=t at *;omega
 have k3:(z3+(z2+(z1+(z0+19*c)/2251799813685248)/2251799813685248)/2251799813685248)/2251799813685248<8:=by
  generalize(z2+(z1+(z0+19*c)/2251799813685248)/2251799813685248)/2251799813685248=t at *;omega
 have g6:(z4+(z3+(z2+(z1+(z0+19*c)/2251799813685248)/2251799813685248)/2251799813685248)/2251799813685248)%18446744073709551616=z4+(z3+(z2+(z1+(z0+19*c)/2251799813685248)/2251799813685248)/2251799813685248)/2251799813685248:=by
  generalize(z3+(z2+(z1+(z0+19*c)/2251799813685248)/2251799813685248)/2251799813685248)/2251799813685248=t at *;omega
 rw[<-hfin]at hb
 simp only[eV,Wi,GW]at c1 c2 ⊢
 simp only[LY,gk,Wi,GW,Qn,Ql,QA]at hb
 apply QE (fn:=a57) rfl
 have u0:=fun s=>@J6 T 0 EP s
 have u1:=fun s=>@J6 T 0 ER s
 have v0:=fun s=>@Jt T 0 0 (.loop EP) s
 have v1:=fun s=>@Jt T 0 2 (.loop ER) s
 have d0:∀s,Q0 T 0 EP s=Q0 T 0 _ s:=fun s=>congrArg (fun c=>Q0 T 0 c s) EP.eq_1
 have d1:∀s,Q0 T 0 ER s=Q0 T 0 _ s:=fun s=>congrArg (fun c=>Q0 T 0 c s) ER.eq_1
 simp only[a57,Qr,quiet,cF,JJ,QZ,↓pQ,reduceCtorEq,seval,-Qb,cL,cJ,cU,hz5,hz32,c1,c2,hr5,u0,u1,v0,v1,d0,d1,f0,f1,f2,f3,f4,ft,g0,g1,g2,g3,g4,g5,g6,hb,Qq,hlk,hl0]
 rfl
theorem key_inj{a b:Nat}(ha:a<256^32)(hb:b<256^32):(dig 256 32 a==dig 256 32 b)=decide (a=b):=by
 by_cases h:a=b
 ·subst h;simp
 ·have:¬dig 256 32 a=dig 256 32 b:=fun he=>h (by
   have h1:=congrArg (num 256) he
   rwa[XJ ww,XJ ww,Qv ha,Qv hb]at h1)
  rw[decide_eq_false h,beq_eq_false_iff_ne.2 this]
theorem P_lt:Go.Fp.P<256^32:=by rw[Go.Fp.Hu];decide
theorem xH(l:List Nat):(fe l).val=v51 l%Go.Fp.P:=rfl
theorem Gh{l:List Nat}(h:El l (2^52)):evVal T 111 [eV l]=some (.agg (u8s (dig 256 32 (fe l).val)).toArray):=by
 obtain⟨x0,x1,x2,x3,x4,rfl,a0,a1,a2,a3,a4⟩:=h.five
 exact gN qr qr qr qr qr
theorem vz(a:Go.Fp.Fe):a.val<256^32:=JR a.isLt P_lt
theorem oF(a b:Go.Fp.Fe):(dig 256 32 a.val==dig 256 32 b.val)=decide (a=b):=by
 rw[key_inj (vz a) (vz b)]
 by_cases h:a=b
 ·subst h;simp
 ·have:¬a.val=b.val:=fun he=>h (Fin.ext he)
  rw[decide_eq_false h,decide_eq_false this]
theorem Qy(l:List Nat):(eV l).cells.toList=ns .u64 l:=rfl
theorem Q5(l:List Nat):(eV l).cells.size=l.length:=Q8 _ _
theorem Za(l:List Nat):Z7 (eV l)=true:=rfl
theorem Q6(l:List Nat):Value.agg (ns .u64 l).toArray=eV l:=rfl
theorem tG{x y:List Nat}(hx:El x (2^52))(hy:El y (2^52)):evVal T 185 [eV x,eV y]=some (.bool (decide (fe x=fe y))):=by
 have h1:=Gh hx
 have h2:=Gh hy
 have l1:=hx.len
 have l2:=hy.len
 apply QE (fn:=a55) rfl
 simp only[a55,Qr,quiet,cF,JJ,QZ,↓pQ,reduceCtorEq,seval,-Qb,cL,cJ,Qy,Q5,Za,Q6,Q8,l1,l2,h1,h2,XZ,Zg,oF,QR]
 rfl
theorem nN{x:List Nat}(hx:El x (2^52)):evVal T 125 [eV x]=some (.bool (decide (fe x=0))):=by
 have h1:=Gh hx
 have l1:=hx.len
 have f0:fillL (Qa 32 (Value.int .u8 0)) []=some (u8s (dig 256 32 (0:Go.Fp.Fe).val)):=rfl
 apply QE (fn:=a63) rfl
 simp only[a63,Qr,quiet,cF,JJ,QZ,↓pQ,reduceCtorEq,seval,-Qb,cL,cJ,Qy,Q5,Za,Q6,Q8,l1,h1,f0,XZ,Zg,oF,QR]
 rfl
theorem mS{x:List Nat}(hx:El x (2^52)):evVal T 136 [eV x]=some (.bool (decide ((fe x).val%2=1))):=by
 have h1:=Gh hx
 have l1:=hx.len
 have h0:(u8s (dig 256 32 (fe x).val))[0]?=some (.int .u8 (((fe x).val%256:Nat):Int)):=by
  apply Js
  rw[XX ww,ZN,J1]
 have hm:(fe x).val%256%2=(fe x).val%2:=qr
 have hd:((((fe x).val%2:Nat):Int)==1)=decide ((fe x).val%2=1):=by
  by_cases h:(fe x).val%2=1
  ·rw[h];rfl
  ·have:¬((((fe x).val%2:Nat):Int)=1):=qr
   rw[decide_eq_false h,beq_eq_false_iff_ne.2 this]
 apply QE (fn:=a58) rfl
 simp only[a58,Qr,quiet,cF,JJ,QZ,↓pQ,reduceCtorEq,seval,-Qb,cL,cJ,cU,Qy,Q5,Za,Q6,Q8,l1,h1,h0,hm,hd,Qq,Zg,QR]
 rfl
theorem P3{k:List Nat}(lk:k.length=32)(xk:∀x∈k,x<256):evVal T 120 [.agg (u8s k).toArray]=some (.bool (decide (num 256 k<Go.Fp.P))):=by
 have h0:=eI lk xk
 have hel:=O9 (V:=num 256 k%2^255)
 have h1:=Gh hel
 rw[xH,Td]at h1
 have hb:(dig 256 32 (num 256 k%2^255%Go.Fp.P)==k)=decide (num 256 k<Go.Fp.P):=by
  have hk:=WD (B:=256) ww xk
  rw[lk]at hk
  have hkl:=num_lt xk
  rw[lk]at hkl
  rw[show(dig 256 32 (num 256 k%2^255%Go.Fp.P)==k)=(dig 256 32 (num 256 k%2^255%Go.Fp.P)==dig 256 32 (num 256 k)) from by rw[hk]]
  have hP:=Go.Fp.Hu
  rw[key_inj (JR (Q9 _ (by rw[hP];decide)) P_lt) hkl]
  by_cases h:num 256 k<Go.Fp.P
  ·rw[decide_eq_true h,Qv (a:=num 256 k) (by rw[hP]at h;omega),Qv h];simp
  ·rw[decide_eq_false h,decide_eq_false]
   have:=Q9 (num 256 k%2^255) (show 0<Go.Fp.P by rw[hP];decide)
   omega
 apply QE (fn:=a59) rfl
 simp only[a59,Qr,quiet,cF,JJ,QZ,↓pQ,reduceCtorEq,seval,-Qb,cL,cJ,Qy,Q5,Za,Q6,Q8,Qq,lk,h0,h1,XZ,Zg,hb,QR]
 rfl
theorem cX(h0:x0<2^60)(h1:x1<2^60)(h2:x2<2^60)(h3:x3<2^60)(h4:x4<2^60):El (Us x0 x1 x2 x3 x4) (2^52):=by
 simp only[Us]
 have c0:x0/2251799813685248<1024:=qr
 have c1:(x1+x0/2251799813685248)/2251799813685248<1024:=qr
 have c2:(x2+(x1+x0/2251799813685248)/2251799813685248)/2251799813685248<1024:=qr
 have c3:(x3+(x2+(x1+x0/2251799813685248)/2251799813685248)/2251799813685248)/2251799813685248<1024:=qr
 have c4:(x4+(x3+(x2+(x1+x0/2251799813685248)/2251799813685248)/2251799813685248)/2251799813685248)/2251799813685248<1024:=qr
 have m0:=Q9 x0 (by decide:0<2251799813685248)
 apply El.mk5
 ·generalize(x4+(x3+(x2+(x1+x0/2251799813685248)/2251799813685248)/2251799813685248)/2251799813685248)/2251799813685248=c at *
  omega
 all_goals exact JR (Q9 _ ww) ww
theorem cV:fe (Us x0 x1 x2 x3 x4)=fe [x0,x1,x2,x3,x4]:=by
 obtain⟨k,hk⟩:=Rb (x0:=x0) (x1:=x1) (x2:=x2) (x3:=x3) (x4:=x4)
 exact vy hk
theorem Gm{x y:List Nat}(hx:El x (2^52))(hy:El y (2^52)):∃r,evVal T 122 [eV x,eV y]=some (eV r)/\El r (2^52)/\fe r=fe x-fe y:=by
 obtain⟨x0,x1,x2,x3,x4,rfl,a0,a1,a2,a3,a4⟩:=hx.five
 obtain⟨y0,y1,y2,y3,y4,rfl,b0,b1,b2,b3,b4⟩:=hy.five
 refine⟨Us (x0+(9007199254740988-y0)-72) (x1+(9007199254740988-y1)) (x2+(9007199254740988-y2)) (x3+(9007199254740988-y3)) (x4+(9007199254740988-y4)),?_,cX qr qr qr qr qr,?_⟩
 ·have s0:(9007199254740988+(18446744073709551616-y0%18446744073709551616))%18446744073709551616=9007199254740988-y0:=qr
  have s1:(9007199254740988+(18446744073709551616-y1%18446744073709551616))%18446744073709551616=9007199254740988-y1:=qr
  have s2:(9007199254740988+(18446744073709551616-y2%18446744073709551616))%18446744073709551616=9007199254740988-y2:=qr
  have s3:(9007199254740988+(18446744073709551616-y3%18446744073709551616))%18446744073709551616=9007199254740988-y3:=qr
  have s4:(9007199254740988+(18446744073709551616-y4%18446744073709551616))%18446744073709551616=9007199254740988-y4:=qr
  have t0:(x0+(9007199254740988-y0))%18446744073709551616=x0+(9007199254740988-y0):=qr
  have t1:(x1+(9007199254740988-y1))%18446744073709551616=x1+(9007199254740988-y1):=qr
  have t2:(x2+(9007199254740988-y2))%18446744073709551616=x2+(9007199254740988-y2):=qr
  have t3:(x3+(9007199254740988-y3))%18446744073709551616=x3+(9007199254740988-y3):=qr
  have t4:(x4+(9007199254740988-y4))%18446744073709551616=x4+(9007199254740988-y4):=qr
  have r0:(x0+(9007199254740988-y0)+18446744073709551544)%18446744073709551616=x0+(9007199254740988-y0)-72:=qr
  have c1:=BL (x0:=x0+(9007199254740988-y0)-72) (x1:=x1+(9007199254740988-y1)) (x2:=x2+(9007199254740988-y2)) (x3:=x3+(9007199254740988-y3)) (x4:=x4+(9007199254740988-y4)) qr qr qr qr qr
  have hl:(Us (x0+(9007199254740988-y0)-72) (x1+(9007199254740988-y1)) (x2+(9007199254740988-y2)) (x3+(9007199254740988-y3)) (x4+(9007199254740988-y4))).length=5:=rfl
  generalize Us (x0+(9007199254740988-y0)-72) (x1+(9007199254740988-y1)) (x2+(9007199254740988-y2)) (x3+(9007199254740988-y3)) (x4+(9007199254740988-y4))=C at *
  have hz5:Qa 5 (Value.int .u64 0)=[.int .u64 0,.int .u64 0,.int .u64 0,.int .u64 0,.int .u64 0]:=rfl
  have hr5:∀a b c d e:Int,rf (.agg [.int .u64 a,.int .u64 b,.int .u64 c,.int .u64 d,.int .u64 e].toArray)=true:=fun _ _ _ _ _=>rfl
  have u0:=fun s=>@J6 T 0 EO s
  have v0:=fun s=>@Jt T 0 0 (.loop EO) s
  have d0:∀s,Q0 T 0 EO s=Q0 T 0 _ s:=fun s=>congrArg (fun c=>Q0 T 0 c s) EO.eq_1
  have hrC:rf (.agg (ns .u64 C).toArray)=true:=bJ _ _
  simp only[eV,Wi,GW]at c1 ⊢
  apply QE (fn:=a61) rfl
  simp only[a61,Qr,quiet,cF,JJ,QZ,↓pQ,reduceCtorEq,seval,-Qb,cL,cJ,cU,hz5,c1,hr5,u0,v0,d0,s0,s1,s2,s3,s4,t0,t1,t2,t3,t4,r0,Q8,hl,hrC]
  rfl
 ·rw[cV]
  have e:v51 [x0+(9007199254740988-y0)-72,x1+(9007199254740988-y1),x2+(9007199254740988-y2),x3+(9007199254740988-y3),x4+(9007199254740988-y4)]+v51 [y0,y1,y2,y3,y4]=v51 [x0,x1,x2,x3,x4]+4*Go.Fp.P:=by
   simp only[v51,num,Go.Fp.Hu]
   omega
  have h:=congrArg Go.Fp.fp e
  rw[Go.Fp.Vx,Go.Fp.Vx,Go.Fp.cI]at h
  unfold fe
  grobner
theorem Iz{x:List Nat}(hx:El x (2^52)):∃r,evVal T 126 [eV x]=some (eV r)/\El r (2^52)/\fe r = -fe x:=by
 have hz:=Bs (n:=0) ww
 obtain⟨r,h1,h2,h3⟩:=Gm hz hx
 refine⟨r,?_,h2,?_⟩
 ·have f0:fillL (ns .u64 [0,0,0,0,0]) []=some (ns .u64 [0,0,0,0,0]):=rfl
  have hz5:Qa 5 (Value.int .u64 0)=ns .u64 [0,0,0,0,0]:=rfl
  have l1:=hx.len
  have l2:=h2.len
  have l0:(ns .u64 [0,0,0,0,0]).length=5:=rfl
  apply QE (fn:=a64) rfl
  simp only[a64,Qr,quiet,cF,JJ,QZ,↓pQ,reduceCtorEq,seval,-Qb,cL,cJ,f0,hz5,h1,Qy,Q5,Za,Q6,Q8,l0,l1,l2,QR]
  rfl
 ·rw[h3,Br,Go.Fp.cH];grobner
def Sd(x y:List Nat):Ob:={c:=ns .u64 (x++y)}
set_option maxHeartbeats 2000000 in
theorem Y0{H:List Ob}{id:Nat}{x y:List Nat}(hx:El x (2^52))(hy:El y (2^52))(h:H[id]?=some (Sd x y)):∃r s,Z6 T 123 [.slice id 2 2] H=some (eV r,H++[{c:=ns .u64 r},{c:=ns .u64 s},{c:=ns .u64 x},{c:=ns .u64 y}],[])/\El r (2^52)/\fe r=fe x+fe y:=by
 have hid:id<H.length:=(Qg.1 h).1
 have hA:∀l,(H++l)[id]?=some (Sd x y):=fun l=>by rw[Qc hid];exact h
 obtain⟨x0,x1,x2,x3,x4,rfl,a0,a1,a2,a3,a4⟩:=hx.five
 obtain⟨y0,y1,y2,y3,y4,rfl,b0,b1,b2,b3,b4⟩:=hy.five
 refine⟨Us (x0+y0) (x1+y1) (x2+y2) (x3+y3) (x4+y4),[x0+y0,x1+y1,x2+y2,x3+y3,x4+y4],?_,cX qr qr qr qr qr,?_⟩
 ·have s0:(0+x0)%18446744073709551616=x0:=qr
  have s1:(0+x1)%18446744073709551616=x1:=qr
  have s2:(0+x2)%18446744073709551616=x2:=qr
  have s3:(0+x3)%18446744073709551616=x3:=qr
  have s4:(0+x4)%18446744073709551616=x4:=qr
  have q0:x0%18446744073709551616=x0:=qr
  have q1:x1%18446744073709551616=x1:=qr
  have q2:x2%18446744073709551616=x2:=qr
  have q3:x3%18446744073709551616=x3:=qr
  have q4:x4%18446744073709551616=x4:=qr
  have t0:(x0+y0)%18446744073709551616=x0+y0:=qr
  have t1:(x1+y1)%18446744073709551616=x1+y1:=qr
  have t2:(x2+y2)%18446744073709551616=x2+y2:=qr
  have t3:(x3+y3)%18446744073709551616=x3+y3:=qr
  have t4:(x4+y4)%18446744073709551616=x4+y4:=qr
  have c1:=BL (x0:=x0+y0) (x1:=x1+y1) (x2:=x2+y2) (x3:=x3+y3) (x4:=x4+y4) qr qr qr qr qr
  have hl:(Us (x0+y0) (x1+y1) (x2+y2) (x3+y3) (x4+y4)).length=5:=rfl
  generalize Us (x0+y0) (x1+y1) (x2+y2) (x3+y3) (x4+y4)=C at *
  have hz5:Qa 5 (Value.int .u64 0)=[.int .u64 0,.int .u64 0,.int .u64 0,.int .u64 0,.int .u64 0]:=rfl
  have hr5:∀a b c d e:Int,rf (.agg [.int .u64 a,.int .u64 b,.int .u64 c,.int .u64 d,.int .u64 e].toArray)=true:=fun _ _ _ _ _=>rfl
  have u0:=fun s=>@J6 T H.length EN s
  have v0:=fun s=>@Jt T H.length 2 (.loop EN) s
  have d0:∀s,Q0 T H.length EN s=Q0 T H.length _ s:=fun s=>congrArg (fun c=>Q0 T H.length c s) EN.eq_1
  have u1:=fun s=>@J6 T H.length EM s
  have v1:=fun s=>@Jt T H.length 0 (.loop EM) s
  have d1:∀s,Q0 T H.length EM s=Q0 T H.length _ s:=fun s=>congrArg (fun c=>Q0 T H.length c s) EM.eq_1
  have hrC:rf (.agg (ns .u64 C).toArray)=true:=bJ _ _
  have p1:∀a b c d e f g i j k:Value,Zi 5 (J2 0 [a,b,c,d,e,f,g,i,j,k])=[a,b,c,d,e]:=fun _ _ _ _ _ _ _ _ _ _=>rfl
  have p2:∀a b c d e f g i j k:Value,Zi 5 (J2 5 [a,b,c,d,e,f,g,i,j,k])=[f,g,i,j,k]:=fun _ _ _ _ _ _ _ _ _ _=>rfl
  simp only[eV,Wi,GW]at c1 ⊢
  simp only[Sd,Qn,Ql,Wi,GW]at hA h
  rw[QY (fn:=a62) rfl]
  simp only[a62,Int.reduceBEq,Int.reduceBNe,Qr,quiet,cF,JJ,QZ,↓pQ,reduceCtorEq,seval,-Qb,cL,cJ,cU,h,hA,hz5,c1,hr5,u0,v0,d0,u1,v1,d1,p1,p2,s0,s1,s2,s3,s4,q0,q1,q2,q3,q4,t0,t1,t2,t3,t4,Q8,hl,hrC]
 ·rw[cV]
  have e:v51 [x0+y0,x1+y1,x2+y2,x3+y3,x4+y4]=v51 [x0,x1,x2,x3,x4]+v51 [y0,y1,y2,y3,y4]:=by
   simp only[v51,num]
   omega
  unfold fe
  rw[e,Go.Fp.Vx]
end Go.Ev.YtoipgdjfhahimaaGreat
namespace Go.Ev.YtoipgdjfhahimaaGreat
open Go Go.Ev
attribute [local congr] JE JW JD JX Jz
set_option maxRecDepth 100000
variable{n i id less:Nat}{x o k:List Nat}{H:List Ob}
theorem part5{a b c:List Nat}(hb:b.length=5)(ha:a.length=n):Zi 5 (J2 n (ns .u64 (a++(b++c))))=ns .u64 b:=by
 simp only[HQ]
 rw[Jf (by rw[Q8];omega),Zu (by rw[Q8];omega),Ql,ZO (by rw[Q8];omega),Qm (by rw[Q8];omega)]
theorem ef{l:List Ob}{r R:List Nat}{cs:List Value}{g:List Ob}(hi:i<n)(hn:n<100)(hx:El x (2^52))(ho:El o (2^52))(hm:evVal T 109 [eV o,eV x]=some (eV r))(hr:El r (2^52))
 (hA:∀l,(H++l)[id]?=some {c:=cs}) (hcs:(cs.drop (i*5)).take 5=ns .u64 x) (hlen:i*5+5<=cs.length) :
    Q0 T H.length EE ⟨[(2,.pointer H.length),(3,.pointer (H.length+1:Nat)),(7,.slice id n n),(8,.int .i64 n),(9,.int .i64 i)],H++({c:=ns .u64 R}::{c:=ns .u64 o}::g),[]⟩ =
      some (.normal,⟨[(2,.pointer H.length),(3,.pointer (H.length+1:Nat)),(7,.slice id n n),(8,.int .i64 n),(9,.int .i64 ((i+1:Nat):Int))],H++({c:=ns .u64 R}::{c:=ns .u64 r}::(g++[{c:=ns .u64 x}])),[]⟩):=by
  have hz5:Qa 5 (Value.int .u64 0)=ns .u64 [0,0,0,0,0]:=rfl
  have l0:(ns .u64 [0,0,0,0,0]).length=5:=rfl
  have l1:=hx.len
  have l2:=ho.len
  have l3:=hr.len
  have e1:((i:Int)<(n:Int))=True:=wf
  have w3:IntKind.i64.wrap ((i:Int)+1)=((i+1:Nat):Int):=ZB (n:=i+1) qr
  simp only[EE,Qr,quiet,cF,JJ,QZ,↓pQ,reduceCtorEq,seval,-Qb,cL,cJ,Zb,hz5,hA,hcs,hlen,hm,Qy,Q5,Za,Q6,Q8,l0,l1,l2,l3,QR,e1,w3]
theorem DS:fe [1,0,0,0,0]=1:=by rw[Br];rfl
theorem DT:El [1,0,0,0,0] (2^52):=Bs ww
theorem UA{xs:List (List Nat)}(hn:xs.length=n)(hN:n<100)(hx:∀x∈xs,El x (2^52))(h:H[id]?=some {c:=ns .u64 xs.flatten}) :
  ∃r,Z6 T 169 [.slice id n n] H=some (eV r,H++({c:=ns .u64 r}::{c:=ns .u64 r}::xs.map fun x=>({c:=ns .u64 x}:Ob)),[])/\El r (2^52)/\fe r=(xs.map fe).foldl (· * ·) 1:=by
 have hid:id<H.length:=(Qg.1 h).1
 have hA:∀l,(H++l)[id]?=some {c:=ns .u64 xs.flatten}:=fun l=>by rw[Qc hid];exact h
 have hfl:∀(ys:List (List Nat)),(∀x∈ys,El x (2^52))->ys.flatten.length=ys.length*5:=by
  intro ys hy
  induction ys with
  |nil=>rfl
  |cons y ys ih =>
   rw[QO,Qj,ih (fun x hx=>hy x (by simp[hx])),(hy y wd).len,Zv];omega
 obtain⟨st,hb,r,rfl,hr1,hr2⟩:=Zh (T:=T) (base:=H.length) (id:=0) (body:=EE)
  (fun i st=>∃r:List Nat,st=⟨[(2,.pointer H.length),(3,.pointer (H.length+1:Nat)),(7,.slice id n n),(8,.int .i64 n),(9,.int .i64 (i:Nat))],H++({c:=ns .u64 [0,0,0,0,0]}::{c:=ns .u64 r}::((xs.take i).map fun x=>({c:=ns .u64 x}:Ob))),[]⟩/\El r (2^52)/\fe r=((xs.take i).map fe).foldl (· * ·) 1)
  (Q:=fun st=>∃r:List Nat,st=⟨[(2,.pointer H.length),(3,.pointer (H.length+1:Nat)),(7,.slice id n n),(8,.int .i64 n),(9,.int .i64 n),(10,.bool false)],H++({c:=ns .u64 [0,0,0,0,0]}::{c:=ns .u64 r}::(xs.map fun x=>({c:=ns .u64 x}:Ob))),[]⟩/\El r (2^52)/\fe r=(xs.map fe).foldl (· * ·) 1)
  n (s:=⟨[(2,.pointer H.length),(3,.pointer (H.length+1:Nat)),(7,.slice id n n),(8,.int .i64 n),(9,.int .i64 0)],H++[{c:=ns .u64 [0,0,0,0,0]},{c:=ns .u64 [1,0,0,0,0]}],[]⟩) ⟨[1,0,0,0,0],rfl,DT,DS⟩
  (fun i st hi hs=>by
   obtain⟨r,rfl,hr1,hr2⟩:=hs
   obtain⟨x,hxi⟩:∃y,xs[i]?=some y:=⟨_,Qf qr⟩
   have hxe:=hx x (Qo hxi)
   obtain⟨r',hm,g1,g2⟩:=Xk hr1 hxe
   have hsplit:xs=xs.take i++x::xs.drop (i+1):=by
    have h1:=Qg.1 hxi
    conv=>lhs;rw[<-Zn i xs,Jp h1.1,h1.2]
   have htl:(xs.take i).flatten.length=i*5:=by
    rw[hfl _ (fun y hy=>hx y (QP hy)),Q3,Zw qr]
   have hcs:((ns .u64 xs.flatten).drop (i*5)).take 5=ns .u64 x:=by
    conv=>lhs;rw[hsplit,Jd,QO]
    exact part5 hxe.len htl
   have hb:=ef (R:=[0,0,0,0,0]) (g:=(xs.take i).map fun x=>({c:=ns .u64 x}:Ob)) (l:=[]) hi hN hxe hr1 hm g1 hA hcs (by rw[Q8,hfl xs hx,hn];omega)
   have htk:xs.take (i+1)=xs.take i++[x]:=by rw[Zx,hxi];rfl
   refine⟨_,hb,r',?_,g1,?_⟩
   ·rw[htk,Vc];rfl
   ·rw[htk,Vc,List.foldl_append,<-hr2,g2];rfl)
  (fun st hs=>by
   obtain⟨r,rfl,hr1,hr2⟩:=hs
   have e1:((n:Int)<(n:Int))=False:=wr
   have ht:xs.take n=xs:=Qm qr
   rw[ht]at hr2 ⊢
   refine⟨_,?_,r,rfl,hr1,hr2⟩
   simp only[EE,Qr,quiet,cF,JJ,QZ,↓pQ,reduceCtorEq,seval,-Qb,cL,e1])
 refine⟨r,?_,hr1,hr2⟩
 have hz5:Qa 5 (Value.int .u64 0)=ns .u64 [0,0,0,0,0]:=rfl
 have l0:(ns .u64 [0,0,0,0,0]).length=5:=rfl
 have l1:=hr1.len
 have hs:=HH (n:=1) ww
 have l2:([1,0,0,0,0]:List Nat).length=5:=rfl
 simp only[Vd]at hs
 rw[QY (fn:=a82) rfl]
 simp only[a82,Qr,quiet,cF,JJ,QZ,↓pQ,reduceCtorEq,seval,-Qb,cL,cJ,Zb,hz5,hs,hb,Qy,Q5,Za,Q6,Q8,l0,l1,l2,QR]
def pwI(x k o:List Nat)(i:Int)(ex:Env):St:=⟨[(2,.pointer (0:Nat)),(3,.pointer (1:Nat)),(4,.pointer (2:Nat)),(5,.pointer (3:Nat)),(6,.int .i64 i)]++ex,[{c:=ns .u64 x},{c:=u8s k},{c:=ns .u64 [0,0,0,0,0]},{c:=ns .u64 o}],[]⟩
theorem Oc(a:Go.Fp.Fe)(m b:Nat)(hb:b<2):Go.Fp.pow a (2*m+b)=if b=1 then Go.Fp.pow a m*Go.Fp.pow a m*a else Go.Fp.pow a m*Go.Fp.pow a m:=by
 have h1:Go.Fp.pow a (2*m)=Go.Fp.pow a m*Go.Fp.pow a m:=by rw[show 2*m=m+m by omega,Go.Fp.pow_add]
 by_cases h:b=1
 ·subst h
  rw[if_pos rfl,Go.Fp.pow,h1]
 ·have:b=0:=qr
  subst this
  rw[if_neg ww,Jl,h1]
theorem rr{ex:Env}(hx:El x (2^52))(lk:k.length=32)(xk:∀x∈k,x<256)(hi:i<256)(ho:El o (2^52))(hp:fe o=Go.Fp.pow (fe x) (num 256 k/2^(i+1))) :
  ∃r,Q0 T 0 Tu (pwI x k o i ex)=some (.normal,pwI x k r ((i:Int)-1) [])/\El r (2^52)/\fe r=Go.Fp.pow (fe x) (num 256 k/2^i):=by
 obtain⟨b,hb⟩:∃b,k[i/8]?=some b:=⟨_,Qf qr⟩
 have hbv:=Kv (B:=256) ww xk hb
 have hbc:=Js hb
 have hbit:b/2^(i%8)%2=num 256 k/2^i%2:=by
  rw[<-hbv,show(256:Nat)=2^8 from rfl,Ad (Q9 _ ww),Z5]
 obtain⟨r1,m1,g1,g2⟩:=Xk ho ho
 obtain⟨r2,m2,g3,g4⟩:=Xk g1 hx
 have hlt:=Bg (num 256 k) i
 have hnum:num 256 k/2^i=2*(num 256 k/2^(i+1))+num 256 k/2^i%2:=by
  rw[Zj,<-QV]
  omega
 have hstep:=Oc (fe x) (num 256 k/2^(i+1)) (num 256 k/2^i%2) hlt
 rw[<-hnum,<-hp]at hstep
 have s1:(2:Int)^min (i%8) IntKind.u8.bits=((2^(i%8):Nat):Int):=Ga (J0 (Q9 _ ww))
 have w2:IntKind.i64.wrap ((i/8:Nat):Int)=((i/8:Nat):Int):=ZB qr
 have w3:IntKind.i64.wrap ((i:Int)-1)=(i:Int)-1:=QU qr qr
 have e1:((0:Int)<=(i:Int))=True:=wf
 have e3:(((i/8:Nat):Int)<32)=True:=wf
 have e4:(((i%8:Nat):Int)<0)=False:=wr
 have l1:=hx.len
 have l2:=ho.len
 have l3:=g1.len
 have l4:=g3.len
 have l0:([0,0,0,0,0]:List Nat).length=5:=rfl
 generalize hB:num 256 k/2^i%2=B at *
 by_cases hB1:B=1
 ·have hbq:((B:Int)==1)=true:=by rw[hB1];rfl
  rw[if_pos hB1]at hstep
  refine⟨r2,?_,g3,by rw[hstep,g4,g2]⟩
  simp only[pwI,Tu,Qr,quiet,cF,JJ,QZ,↓pQ,reduceCtorEq,seval,-Qb,cL,cJ,cU,hbc,hbit,s1,w2,w3,e1,e3,e4,m1,m2,hbq,Qy,Q5,Za,Q6,Q8,l1,l2,l3,l4,QR]
 ·have hbq:((B:Int)==1)=false:=by
   have:B=0:=qr
   rw[this];rfl
  rw[if_neg hB1]at hstep
  refine⟨r1,?_,g1,by rw[hstep,g2]⟩
  simp only[pwI,Tu,Qr,quiet,cF,JJ,QZ,↓pQ,reduceCtorEq,seval,-Qb,cL,cJ,cU,hbc,hbit,s1,w2,w3,e1,e3,e4,m1,m2,hbq,Qy,Q5,Za,Q6,Q8,l1,l2,l3,l4,QR]
theorem ru(hx:El x (2^52))(lk:k.length=32)(xk:∀x∈k,x<256):∃r,evVal T 175 [eV x,.agg (u8s k).toArray]=some (eV r)/\El r (2^52)/\fe r=Go.Fp.pow (fe x) (num 256 k):=by
 have hK:=num_lt xk
 rw[lk,show(256:Nat)^32=2^256 from by rw[show(256:Nat)=2^8 from rfl,<-Je]]at hK
 obtain⟨st,hb,r,rfl,hr1,hr2⟩:=Zh (T:=T) (base:=0) (id:=0) (body:=Tu)
  (fun j st=>∃r:List Nat,st=pwI x k r ((255:Int)-j) []/\El r (2^52)/\fe r=Go.Fp.pow (fe x) (num 256 k/2^(256-j)))
  (Q:=fun st=>∃r:List Nat,st=pwI x k r (-1) [(9,.bool false)]/\El r (2^52)/\fe r=Go.Fp.pow (fe x) (num 256 k))
  256 (s:=pwI x k [1,0,0,0,0] 255 []) ⟨_,rfl,DT,by rw[DS,KC,JK hK];rfl⟩
  (fun j st hj hs=>by
   obtain⟨r,rfl,h1,h2⟩:=hs
   obtain⟨i,hi⟩:∃i,256-j=i+1:=⟨255-j,by omega⟩
   rw[hi]at h2
   obtain⟨r',g1,g2,g3⟩:=rr (ex:=[]) hx lk xk (i:=i) qr h1 h2
   rw[show(255:Int)-j=(i:Int) by omega]
   refine⟨_,g1,r',?_,g2,?_⟩
   ·rw[show(255:Int)-((j+1:Nat):Int)=(i:Int)-1 by omega]
   ·rw[show 256-(j+1)=i by omega];exact g3)
  (fun st hs=>by
   obtain⟨r,rfl,h1,h2⟩:=hs
   rw[Q7,ZN,J1]at h2
   have e:((0:Int) <= -1)=False:=ww
   refine⟨_,?_,r,rfl,h1,h2⟩
   rw[show(255:Int)-((256:Nat):Int) = -1 by omega]
   simp only[pwI,Tu,Qr,quiet,cF,JJ,QZ,↓pQ,reduceCtorEq,seval,-Qb,cL,e])
 refine⟨r,?_,hr1,hr2⟩
 have hz5:Qa 5 (Value.int .u64 0)=ns .u64 [0,0,0,0,0]:=rfl
 have hs:=HH (n:=1) ww
 have l2:([1,0,0,0,0]:List Nat).length=5:=rfl
 have l0:([0,0,0,0,0]:List Nat).length=5:=rfl
 have l1:=hx.len
 have l3:=hr1.len
 simp only[Vd]at hs
 simp only[pwI,Qn,Ql]at hb
 apply QE (fn:=a83) rfl
 simp only[a83,Qr,quiet,cF,JJ,QZ,↓pQ,reduceCtorEq,seval,-Qb,cL,cJ,hz5,hs,hb,pwI,Qy,Q5,Za,Q6,Q8,l0,l1,l2,l3,QR]
 rfl
def onX(i:Nat):List Nat:=dig (2^8) 32 (2^i-1)
def onI(less:Value)(n:Int)(k:List Nat)(i:Nat)(ex:Env):St:=⟨[(1,less),(4,.pointer (0:Nat)),(5,.pointer (1:Nat)),(7,.int .i64 n),(8,.int .i64 i)]++ex,[{c:=u8s (dig 256 32 0)},{c:=u8s k}],[]⟩
theorem sf{less:Value}(hn:n<=256)(hi:i<n):Q0 T 0 EC (onI less n (onX i) i [])=some (.normal,onI less n (onX (i+1)) (i+1) []):=by
 have hlen:(onX i).length=32:=Zg _ _ _
 obtain⟨y,hy⟩:∃b,(onX i)[i/8]?=some b:=⟨_,Qf qr⟩
 have hyc:=Js hy
 have hy':y<2^8:=Vy ww (Qo hy)
 have hsm:(2:Nat)^(i%8)<=2^7:=Zo ww (by have:=Q9 i (by decide:0<8);omega)
 have hp:0<(2:Nat)^i:=JT ww
 have hput:=A6 (w:=8) (m:=32) (q:=i/8) (s:=i%8) (y:=1) (M:=2^i-1) qr (Q9 _ ww) (by rw[Z5];omega) qr
 rw[Z5,show 2^i-1+1*2^i=2^(i+1)-1 by rw[Zj];omega]at hput
 have hgd:(dig (2^8) 32 (2^i-1)).getD (i/8) 0=y:=by rw[QD];unfold onX at hy;rw[hy];rfl
 rw[hgd,Xd]at hput
 have hset:=Xc (onX i) (i/8) (y|||2^(i%8))
 rw[show(onX i).set (i/8) (y|||2^(i%8))=onX (i+1) from hput]at hset
 have s1:(2:Int)^min (i%8) IntKind.u8.bits=((2^(i%8):Nat):Int):=Ga (J0 (Q9 _ ww))
 have o1:Zr .or .u8 (y:Int) ((2^(i%8):Nat):Int)=((y|||2^(i%8):Nat):Int):=Kh rfl (by show _<256;omega) (by show _<256;omega)
 have n1:(2^(i%8))%256=2^(i%8):=Qv (Jc hsm ww)
 have w2:IntKind.i64.wrap ((i/8:Nat):Int)=((i/8:Nat):Int):=ZB qr
 have w3:IntKind.i64.wrap ((i+1:Nat):Int)=((i+1:Nat):Int):=ZB qr
 have e1:((i:Int)<(n:Int))=True:=wf
 have e3:(((i/8:Nat):Int)<32)=True:=wf
 have e4:(((i%8:Nat):Int)<0)=False:=wr
 have e6:i/8+1<=32:=qr
 have p1:1*2^(i%8)=2^(i%8):=Xd _
 simp only[onI,EC,Qr,quiet,cF,JJ,QZ,↓pQ,reduceCtorEq,seval,-Qb,cL,cJ,cU,hyc,s1,o1,n1,w2,w3,e1,e3,e4,e6,p1,hset,Qq,hlen]
theorem SP(hn:n<=256)(h8:8<=n)(hl:less<256):evVal T 176 [.int .i64 n,.int .u8 less]=some (.agg (u8s (dig 256 32 (2^n-1-less))).toArray):=by
 have hb:=ZR (T:=T) (base:=0) (id:=0) (body:=EC) (fun i=>onI (.int .u8 less) n (onX i) i []) (s':=onI (.int .u8 less) n (onX n) n [(9,.bool false)]) n (fun i hi=>sf hn hi) (by
  have e1:((n:Int)<(n:Int))=False:=wr
  simp only[onI,EC,Qr,quiet,cF,JJ,QZ,↓pQ,reduceCtorEq,seval,-Qb,cL,e1])
 rw[show onX 0=dig 256 32 0 from rfl]at hb
 have hp8:(256:Nat)<=2^n:=by
  have:=Zo (n:=2) ww h8
  exact this
 have hmod:2^n%256=0:=by
  rw[show n=8+(n-8) by omega,JI];exact Nat.mul_mod_right _ _
 have h0:(onX n)[0]?=some 255:=by
  unfold onX
  rw[XX ww,ZN,J1]
  congr 1
  omega
 have h0c:=Js h0
 have w0:IntKind.u8.wrap (255-(less:Int))=((255-less:Nat):Int):=by rw[wrap_u8];omega
 have hset:=Xc (onX n) 0 (255-less)
 have hfin:(onX n).set 0 (255-less)=dig 256 32 (2^n-1-less):=by
  apply HY (by rw[Q4];exact Zg _ _ _)
  intro t ht
  by_cases h0t:t=0
  ·subst h0t
   rw[Qw (by rw[show(onX n).length=32 from Zg _ _ _];decide),ZN,J1]
   congr 1
   omega
  ·rw[Qu (Ne.symm h0t)]
   unfold onX
   rw[XX ht]
   congr 2
   obtain⟨m,rfl⟩:∃m,t=m+1:=⟨t-1,by omega⟩
   rw[show(2:Nat)^8=256 from rfl,Zj,Zm,<-QV,<-QV]
   congr 1
   omega
 rw[hfin]at hset
 simp only[JP]at h0c
 have l1:(dig 256 32 (2^n-1-less)).length=32:=Zg _ _ _
 have l2:(onX n).length=32:=Zg _ _ _
 have l3:(dig 256 32 0).length=32:=rfl
 have hz32:Qa 32 (Value.int .u8 0)=u8s (dig 256 32 0):=rfl
 simp only[onI,Qn,Ql,QA]at hb
 apply QE (fn:=a84) rfl
 simp only[a84,Qr,quiet,cF,JJ,QZ,↓pQ,reduceCtorEq,seval,-Qb,cL,cJ,hz32,hb,onI,h0c,w0,hset,Qq,l1,l2,l3]
 rfl
theorem Yw{v:Nat}:∀x∈dig 256 32 v,x<256:=fun _ h=>Vy ww h
theorem DP(hx:El x (2^52))(hn:n<=256)(h8:8<=n)(hl:less<256):∃r,evVal T 175 [eV x,.agg (u8s (dig 256 32 (2^n-1-less))).toArray]=some (eV r)/\El r (2^52)/\fe r=Go.Fp.pow (fe x) (2^n-1-less):=by
 obtain⟨r,h1,h2,h3⟩:=ru (k:=dig 256 32 (2^n-1-less)) hx (Zg _ _ _) Yw
 refine⟨r,h1,h2,?_⟩
 rw[h3,XJ ww,Qv]
 have h4:(2:Nat)^n<=256^32:=by
  rw[show(256:Nat)^32=2^256 from by rw[show(256:Nat)=2^8 from rfl,<-Je]]
  exact Zo ww hn
 have:0<(2:Nat)^n:=JT ww
 omega
theorem OR(hx:El x (2^52)):∃r,evVal T 110 [eV x]=some (eV r)/\El r (2^52)/\fe r=Go.Fp.iv (fe x):=by
 have h1:=SP (n:=255) (less:=20) ww ww ww
 obtain⟨r,h2,h3,h4⟩:=DP (n:=255) (less:=20) hx ww ww ww
 refine⟨r,?_,h3,?_⟩
 ·have hz5:Qa 5 (Value.int .u64 0)=ns .u64 [0,0,0,0,0]:=rfl
  have l0:([0,0,0,0,0]:List Nat).length=5:=rfl
  have l1:=hx.len
  have l2:=h3.len
  simp only[JP]at h1
  generalize dig 256 32 (2^255-1-20)=K at *
  apply QE (fn:=a56) rfl
  simp only[a56,Qr,quiet,cF,JJ,QZ,↓pQ,reduceCtorEq,seval,-Qb,cL,cJ,hz5,h1,h2,Qy,Q5,Za,Q6,Q8,l0,l1,l2,QR]
  rfl
 ·rw[h4]
  unfold Go.Fp.iv
  rw[Go.Fp.Hu]
end Go.Ev.YtoipgdjfhahimaaGreat
namespace Go.Ev
section
variable{T:Tab}{b:Nat}
theorem Ge:∀(o1 o2:List AOper) (s:St) (recs:List Rec),evOps T b (o1++o2) s recs=(evOps T b o1 s recs).bind fun r=>evOps T b o2 r.1 r.2
 |[],o2,s,recs=>by rw[KU];rfl
 |o::o1,o2,s,recs=>by
  rw[Qn,XY,XY]
  cases hg:guardOf s.env o.guard with
  |none=>rfl
  |some g =>
   cases g with
   |false=>exact Ge o1 o2 _ _
   |true =>
    cases hx:J9 T o.op s.env s.h with
    |none=>simp[hx]
    |some x =>
     simp only[hx,Qp]
     exact Ge o1 o2 _ _
theorem DV:∀(ops:List AOper) (s:St) (recs:List Rec) (s':St),steps T b false ops s=some s'->∃m,evOps T b ops s recs=some (s',recs++m)
 |[],s,recs,s',h=>by
  simp only[steps,Qk]at h
  subst h
  exact⟨[],by rw[KU,QG]⟩
 |o::r,s,recs,s',h=>by
  rw[XY]
  unfold steps at h
  cases hg:guardOf s.env o.guard with
  |none=>simp only[hg]at h;cases h
  |some g =>
   simp only[hg]at h
   cases g with
   |false =>
    obtain⟨m,h1⟩:=DV r _ (recs++[(some [],[])]) s' h
    exact⟨(some [],[])::m,by rw[h1];simp⟩
   |true =>
    cases hx:J9 T o.op s.env s.h with
    |none=>simp[hx]at h
    |some x =>
     simp only[hx,Qp,Bool.false_and,ZM,if_false]at h
     obtain⟨m,h1⟩:=DV r _ (recs++[(x.2.2.1,x.2.2.2)]) s' h
     exact⟨(x.2.2.1,x.2.2.2)::m,by simp only[hx,Qp];rw[h1];simp⟩
theorem TC{r1 r2:List Rec}:∀ {pairs:List (Nat×Nat)},(pairs.all fun p=>decide (p.1<r1.length)&&decide (p.2<r1.length))=true->ZC r1 pairs=true->ZC (r1++r2) pairs=true
 |[],_,_=>rfl
 |(i,j)::ps,h,k=>by
  simp only[KD,ZY,decide_eq_true_eq]at h
  simp only[ZC,KD,ZY]at k ⊢
  have ih:=TC (r1:=r1) (r2:=r2) (pairs:=ps) h.2 k.2
  simp only[ZC]at ih
  refine⟨?_,ih⟩
  rw[Qc h.1.1,Qc h.1.2]
  exact k.1
def VV:List (Nat×Nat)->Nat
 |[]=>0
 |(_,j)::r=>if j+1<=VV r then VV r else j+1
theorem ag:VV []=0:=rfl
theorem OK{i j:Nat}{r:List (Nat×Nat)}:VV ((i,j)::r)=if j+1<=VV r then VV r else j+1:=rfl
def Lx(T:Tab)(b:Nat)(ops:List AOper)(pairs:List (Nat×Nat))(s:St):Option St :=
 gate ((pairs.all fun p=>decide (p.1<VV pairs)&&decide (p.2<VV pairs))=true/\VV pairs<=ops.length)
  ((steps T b true (ops.take (VV pairs)) s).bind fun s1=>steps T b false (ops.drop (VV pairs)) s1)
theorem ee{ops:List AOper}{pairs:List (Nat×Nat)}{s:St}:Lx T b ops pairs s=gate ((pairs.all fun p=>decide (p.1<VV pairs)&&decide (p.2<VV pairs))=true/\VV pairs<=ops.length)
  ((steps T b true (ops.take (VV pairs)) s).bind fun s1=>steps T b false (ops.drop (VV pairs)) s1):=Eq.trans rfl rfl
theorem ay{ops:List AOper}{keep:Option (List Nat)}{p:Nat×Nat}{ps:List (Nat×Nat)}{s:St}:Q0 T b (.region ops keep (p::ps)) s=T8 ((Lx T b ops (p::ps) s).bind fun s'=>some (.normal,s'.after keep)) (YM T b (.region ops keep (p::ps)) s):=by
 cases hq:Lx T b ops (p::ps) s with
 |none=>rfl
 |some s' =>
  simp only[Qp,T8]
  unfold Lx gate at hq
  split at hq
  ·rename_i hp
   simp only[Option.bind_eq_some_iff]at hq
   obtain⟨s1,k1,k2⟩:=hq
   obtain⟨recs,h1,h2,h3⟩:=UF _ s [] s1 k1 wd
   obtain⟨m,h4⟩:=DV _ s1 recs s' k2
   simp only[ZT,QL,Q3,Zw hp.2]at h3
   rw[XE]
   conv=>lhs;rw[<-Zn (VV (p::ps)) ops]
   rw[Ge,h1]
   simp only[Qp,h4]
   have hpk:=hp.1
   rw[<-h3]at hpk
   rw[if_pos (TC hpk (UY h2 hpk))]
  ·cases hq
end
theorem RI{T:Tab}{b:Nat}{q:Bool}:∀(o1 o2:List AOper) (s:St),steps T b q (o1++o2) s=(steps T b q o1 s).bind (steps T b q o2)
 |[],o2,s=>rfl
 |o::o1,o2,s=>by
  rw[Qn]
  unfold steps
  cases hg:guardOf s.env o.guard with
  |none=>rfl
  |some g =>
   cases g with
   |true =>
    simp only
    cases hx:J9 T o.op s.env s.h with
    |none=>rfl
    |some x =>
     simp only[Qp]
     split
     ·rfl
     ·exact RI o1 o2 _
   |false=>exact RI o1 o2 _
theorem GJ{T:Tab}{b:Nat}{q:Bool}{a1 a2 a3 a4 a5 a6 a7:AOper}{r:List AOper}{s:St}:steps T b q (a1::a2::a3::a4::a5::a6::a7::r) s=(steps T b q [a1,a2,a3,a4,a5,a6] s).bind fun s'=>steps T b q (a7::r) s':=by
 rw[<-RI];rfl
def cK:=Qi cF (Qi (@JJ) (Qi (@ay) (Qi (@ee) (Qi (@ag) (Qi (@OK) (Qi (@List.take_succ_cons.{0}) (Qi (@Xi.{0}) (Qi (@List.drop_succ_cons.{0}) (@List.drop_zero.{0})))))))))
def cW:=Qi cK (Qi cL cJ)
def pW:=Qi pQ (@GJ)
end Go.Ev
namespace Go.Ev.YtoipgdjfhahimaaGreat
open Go Go.Ev
attribute [local congr] JE JW JD JX Jz
set_option maxRecDepth 100000
variable{l a b x c y t x1 y1 z1 t1 m o:List Nat}{p q:Go.Cv.Pt Go.Fp.P Go.Fp.d}{n k i id:Nat}{z dd e px py rx ry:Go.Fp.Fe}{cs:List Value}{R:Ob}{H:List Ob}
theorem Qx(h:cs.length=n):cs.take n=cs:=Qm qr
def pL(x y z t:List Nat):List Nat:=x++(y++(z++t))
def pV(x y z t:List Nat):Value := .agg (ns .u64 (pL x y z t)).toArray
theorem vd(x y z t:List Nat):rf (pV x y z t)=true:=bJ _ _
theorem Ok(x y z t:List Nat):(pV x y z t).cells.toList=ns .u64 (pL x y z t):=rfl
theorem bR(x y z t:List Nat):(pV x y z t).cells.size=(pL x y z t).length:=Q8 _ _
theorem vj(x y z t:List Nat):Z7 (pV x y z t)=true:=rfl
theorem bS(x y z t:List Nat):Value.agg (ns .u64 (pL x y z t)).toArray=pV x y z t:=rfl
theorem YJ{z:List Nat}{b:Nat}(hx:El x b)(hy:El y b)(hz:El z b)(ht:El t b):(pL x y z t).length=20:=by
 simp[pL,hx.len,hy.len,hz.len,ht.len]
theorem S9{z:List Nat}{b:Nat}(hx:El x b)(hy:El y b)(hz:El z b)(ht:El t b) :
  Zi 5 (ns .u64 (pL x y z t))=ns .u64 x/\Zi 5 (J2 5 (ns .u64 (pL x y z t)))=ns .u64 y/\Zi 5 (J2 10 (ns .u64 (pL x y z t)))=ns .u64 z/\Zi 5 (J2 15 (ns .u64 (pL x y z t)))=ns .u64 t:=by
 obtain⟨a0,a1,a2,a3,a4,rfl,-⟩:=hx.five
 obtain⟨b0,b1,b2,b3,b4,rfl,-⟩:=hy.five
 obtain⟨c0,c1,c2,c3,c4,rfl,-⟩:=hz.five
 obtain⟨d0,d1,d2,d3,d4,rfl,-⟩:=ht.five
 exact⟨rfl,rfl,rfl,rfl⟩
theorem Uo(ha:El a k)(hb:El b k):fillL (Qa 10 (Value.int .u64 0)) [(0,5,eV a),(5,5,eV b)]=some (ns .u64 (a++b)):=by
 obtain⟨a0,a1,a2,a3,a4,rfl,-⟩:=ha.five
 obtain⟨b0,b1,b2,b3,b4,rfl,-⟩:=hb.five
 rfl
theorem ID(ha:El a k)(hb:El b k)(hc:El c k):fillL (Qa 15 (Value.int .u64 0)) [(0,5,eV a),(5,5,eV b),(10,5,eV c)]=some (ns .u64 [a,b,c].flatten):=by
 obtain⟨a0,a1,a2,a3,a4,rfl,-⟩:=ha.five
 obtain⟨b0,b1,b2,b3,b4,rfl,-⟩:=hb.five
 obtain⟨c0,c1,c2,c3,c4,rfl,-⟩:=hc.five
 rfl
theorem TN{d:List Nat}(ha:El a k)(hb:El b k)(hc:El c k)(hd:El d k):fillL (Qa 20 (Value.int .u64 0)) [(0,5,eV a),(5,5,eV b),(10,5,eV c),(15,5,eV d)]=some (ns .u64 (pL a b c d)):=by
 obtain⟨a0,a1,a2,a3,a4,rfl,-⟩:=ha.five
 obtain⟨b0,b1,b2,b3,b4,rfl,-⟩:=hb.five
 obtain⟨c0,c1,c2,c3,c4,rfl,-⟩:=hc.five
 obtain⟨d0,d1,d2,d3,d4,rfl,-⟩:=hd.five
 rfl
theorem bT(a b c d:List Nat):pL a b c d=[a,b,c,d].flatten:=by simp[pL]
theorem iO:El [2,0,0,0,0] (2^52):=Bs ww
theorem iJ:evVal T 106 [.int .u32 2]=some (eV [2,0,0,0,0]):=HH (n:=2) ww
theorem Sb:fe [2,0,0,0,0]=2:=by rw[Br];rfl
theorem wt{x2 y2 z2 t2 d:List Nat}(Ex1:El x1 (2^52))(Ey1:El y1 (2^52))(Ez1:El z1 (2^52))(Et1:El t1 (2^52))(Ex2:El x2 (2^52))(Ey2:El y2 (2^52))(Ez2:El z2 (2^52))(Et2:El t2 (2^52))(Ed:El d (2^52)) :
  ∃x y z t,evVal T 135 [pV x1 y1 z1 t1,pV x2 y2 z2 t2,eV d]=some (pV x y z t)/\El x (2^52)/\El y (2^52)/\El z (2^52)/\El t (2^52) /\
   ∃a b c e:Go.Fp.Fe,a=(fe y1-fe x1)*(fe y2-fe x2)/\b=(fe y1+fe x1)*(fe y2+fe x2)/\c=1*2*fe d*fe t1*fe t2/\e=1*2*fe z1*fe z2 /\
    fe x=(b-a)*(e-c)/\fe y=(e+c)*(b+a)/\fe z=(e-c)*(e+c)/\fe t=(b-a)*(b+a):=by
 obtain⟨two,htwo⟩:∃two:List Nat,two=[2,0,0,0,0]:=⟨_,rfl⟩
 have Etwo:El two (2^52):=by rw[htwo];exact iO
 have vtwo:evVal T 106 [.int .u32 2]=some (eV two):=by rw[htwo];exact iJ
 have ftwo:fe two=2:=by rw[htwo];exact Sb
 clear htwo
 obtain⟨r1,hr1,Er1,fr1⟩:=Gm Ey1 Ex1
 obtain⟨r2,hr2,Er2,fr2⟩:=Gm Ey2 Ex2
 obtain⟨r3,hr3,Er3,fr3⟩:=Xk Er1 Er2
 obtain⟨r4,sr4,hr4,Er4,fr4⟩:=Y0 (H:=[{c:=ns .u64 (pL x1 y1 z1 t1)},{c:=ns .u64 (pL x2 y2 z2 t2)},{c:=ns .u64 d},{c:=Qa 20 (.int .u64 0)},{c:=ns .u64 r3},{c:=ns .u64 (y1++x1)}]) (id:=5) Ey1 Ex1 rfl
 simp only[Qn,Ql]at hr4
 obtain⟨r5,sr5,hr5,Er5,fr5⟩:=Y0 (H:=[{c:=ns .u64 (pL x1 y1 z1 t1)},{c:=ns .u64 (pL x2 y2 z2 t2)},{c:=ns .u64 d},{c:=Qa 20 (.int .u64 0)},{c:=ns .u64 r3},{c:=ns .u64 (y1++x1)},{c:=ns .u64 r4},{c:=ns .u64 sr4},{c:=ns .u64 y1},{c:=ns .u64 x1},{c:=ns .u64 (y2++x2)}]) (id:=10) Ey2 Ex2 rfl
 simp only[Qn,Ql]at hr5
 obtain⟨r6,hr6,Er6,fr6⟩:=Xk Er4 Er5
 obtain⟨r7,hr7,Er7,fr7⟩:=UA (H:=[{c:=ns .u64 (pL x1 y1 z1 t1)},{c:=ns .u64 (pL x2 y2 z2 t2)},{c:=ns .u64 d},{c:=Qa 20 (.int .u64 0)},{c:=ns .u64 r3},{c:=ns .u64 (y1++x1)},{c:=ns .u64 r4},{c:=ns .u64 sr4},{c:=ns .u64 y1},{c:=ns .u64 x1},{c:=ns .u64 (y2++x2)},{c:=ns .u64 r5},{c:=ns .u64 sr5},{c:=ns .u64 y2},{c:=ns .u64 x2},{c:=ns .u64 r6},{c:=ns .u64 [two,d,t1,t2].flatten}]) (id:=16) (n:=4) (xs:=[two,d,t1,t2]) rfl ww (by intro w hw;simp only[Jr,JL,or_false]at hw;rcases hw with rfl|rfl|rfl|rfl<;>assumption) rfl
 simp only[Qn,Ql,JC,Xv,Xy,VD]at hr7 fr7
 obtain⟨r8,hr8,Er8,fr8⟩:=UA (H:=[{c:=ns .u64 (pL x1 y1 z1 t1)},{c:=ns .u64 (pL x2 y2 z2 t2)},{c:=ns .u64 d},{c:=Qa 20 (.int .u64 0)},{c:=ns .u64 r3},{c:=ns .u64 (y1++x1)},{c:=ns .u64 r4},{c:=ns .u64 sr4},{c:=ns .u64 y1},{c:=ns .u64 x1},{c:=ns .u64 (y2++x2)},{c:=ns .u64 r5},{c:=ns .u64 sr5},{c:=ns .u64 y2},{c:=ns .u64 x2},{c:=ns .u64 r6},{c:=ns .u64 [two,d,t1,t2].flatten},{c:=ns .u64 r7},{c:=ns .u64 r7},{c:=ns .u64 two},{c:=ns .u64 d},{c:=ns .u64 t1},{c:=ns .u64 t2},{c:=ns .u64 r7},{c:=ns .u64 [two,z1,z2].flatten}]) (id:=24) (n:=3) (xs:=[two,z1,z2]) rfl ww (by intro w hw;simp only[Jr,JL,or_false]at hw;rcases hw with rfl|rfl|rfl<;>assumption) rfl
 simp only[Qn,Ql,JC,Xv,Xy,VD]at hr8 fr8
 obtain⟨r9,hr9,Er9,fr9⟩:=Gm Er6 Er3
 obtain⟨r10,hr10,Er10,fr10⟩:=Gm Er8 Er7
 obtain⟨r11,sr11,hr11,Er11,fr11⟩:=Y0 (H:=[{c:=ns .u64 (pL x1 y1 z1 t1)},{c:=ns .u64 (pL x2 y2 z2 t2)},{c:=ns .u64 d},{c:=Qa 20 (.int .u64 0)},{c:=ns .u64 r3},{c:=ns .u64 (y1++x1)},{c:=ns .u64 r4},{c:=ns .u64 sr4},{c:=ns .u64 y1},{c:=ns .u64 x1},{c:=ns .u64 (y2++x2)},{c:=ns .u64 r5},{c:=ns .u64 sr5},{c:=ns .u64 y2},{c:=ns .u64 x2},{c:=ns .u64 r6},{c:=ns .u64 [two,d,t1,t2].flatten},{c:=ns .u64 r7},{c:=ns .u64 r7},{c:=ns .u64 two},{c:=ns .u64 d},{c:=ns .u64 t1},{c:=ns .u64 t2},{c:=ns .u64 r7},{c:=ns .u64 [two,z1,z2].flatten},{c:=ns .u64 r8},{c:=ns .u64 r8},{c:=ns .u64 two},{c:=ns .u64 z1},{c:=ns .u64 z2},{c:=ns .u64 r8},{c:=ns .u64 (r8++r7)}]) (id:=31) Er8 Er7 rfl
 simp only[Qn,Ql]at hr11
 obtain⟨r12,sr12,hr12,Er12,fr12⟩:=Y0 (H:=[{c:=ns .u64 (pL x1 y1 z1 t1)},{c:=ns .u64 (pL x2 y2 z2 t2)},{c:=ns .u64 d},{c:=Qa 20 (.int .u64 0)},{c:=ns .u64 r3},{c:=ns .u64 (y1++x1)},{c:=ns .u64 r4},{c:=ns .u64 sr4},{c:=ns .u64 y1},{c:=ns .u64 x1},{c:=ns .u64 (y2++x2)},{c:=ns .u64 r5},{c:=ns .u64 sr5},{c:=ns .u64 y2},{c:=ns .u64 x2},{c:=ns .u64 r6},{c:=ns .u64 [two,d,t1,t2].flatten},{c:=ns .u64 r7},{c:=ns .u64 r7},{c:=ns .u64 two},{c:=ns .u64 d},{c:=ns .u64 t1},{c:=ns .u64 t2},{c:=ns .u64 r7},{c:=ns .u64 [two,z1,z2].flatten},{c:=ns .u64 r8},{c:=ns .u64 r8},{c:=ns .u64 two},{c:=ns .u64 z1},{c:=ns .u64 z2},{c:=ns .u64 r8},{c:=ns .u64 (r8++r7)},{c:=ns .u64 r11},{c:=ns .u64 sr11},{c:=ns .u64 r8},{c:=ns .u64 r7},{c:=ns .u64 (r6++r3)}]) (id:=36) Er6 Er3 rfl
 simp only[Qn,Ql]at hr12
 obtain⟨r13,hr13,Er13,fr13⟩:=Xk Er9 Er10
 obtain⟨r14,hr14,Er14,fr14⟩:=Xk Er11 Er12
 obtain⟨r15,hr15,Er15,fr15⟩:=Xk Er10 Er11
 obtain⟨r16,hr16,Er16,fr16⟩:=Xk Er9 Er12
 refine⟨r13,r14,r15,r16,?_,Er13,Er14,Er15,Er16,fe r3,fe r6,fe r7,fe r8,?_⟩
 ·obtain⟨q10,q11,q12,q13⟩:=S9 Ex1 Ey1 Ez1 Et1
  obtain⟨q20,q21,q22,q23⟩:=S9 Ex2 Ey2 Ez2 Et2
  have p1:=YJ Ex1 Ey1 Ez1 Et1
  have p2:=YJ Ex2 Ey2 Ez2 Et2
  have p3:=YJ Er13 Er14 Er15 Er16
  have k4:=TN Etwo Ed Et1 Et2
  rw[bT]at k4
  have k3:=ID Etwo Ez1 Ez2
  have kp:=TN Er13 Er14 Er15 Er16
  have m1:=Uo Ey1 Ex1
  have m2:=Uo Ey2 Ex2
  have m3:=Uo Er8 Er7
  have m4:=Uo Er6 Er3
  have Lx1:=Ex1.len
  have Ly1:=Ey1.len
  have Lz1:=Ez1.len
  have Lt1:=Et1.len
  have Lx2:=Ex2.len
  have Ly2:=Ey2.len
  have Lz2:=Ez2.len
  have Lt2:=Et2.len
  have Ld:=Ed.len
  have Ltwo:=Etwo.len
  have Lr1:=Er1.len
  have Lr2:=Er2.len
  have Lr3:=Er3.len
  have Lr4:=Er4.len
  have Lr5:=Er5.len
  have Lr6:=Er6.len
  have Lr7:=Er7.len
  have Lr8:=Er8.len
  have Lr9:=Er9.len
  have Lr10:=Er10.len
  have Lr11:=Er11.len
  have Lr12:=Er12.len
  have Lr13:=Er13.len
  have Lr14:=Er14.len
  have Lr15:=Er15.len
  have Lr16:=Er16.len
  apply QE (fn:=a54) rfl
  simp only[a54,Qr,quiet,cW,↓pW,reduceCtorEq,seval,-Qb,Qe,Qx,Ok,bR,vj,bS,vd,Qy,Q5,Za,Q6,QR,Q8,q10,q11,q12,q13,q20,q21,q22,q23,p1,p2,p3,k4,k3,kp,m1,m2,m3,m4,vtwo,hr1,hr2,hr3,hr4,hr5,hr6,hr7,hr8,hr9,hr10,hr11,hr12,hr13,hr14,hr15,hr16,Lx1,Ly1,Lz1,Lt1,Lx2,Ly2,Lz2,Lt2,Ld,Ltwo,Lr1,Lr2,Lr3,Lr4,Lr5,Lr6,Lr7,Lr8,Lr9,Lr10,Lr11,Lr12,Lr13,Lr14,Lr15,Lr16]
  rfl
 ·refine⟨?_,?_,?_,?_,?_,?_,?_,?_⟩
  ·rw[fr3,fr1,fr2]
  ·rw[fr6,fr4,fr5]
  ·rw[fr7,ftwo]
  ·rw[fr8,ftwo]
  ·rw[fr13,fr9,fr10]
  ·rw[fr14,fr11,fr12]
  ·rw[fr15,fr10,fr11]
  ·rw[fr16,fr9,fr12]
theorem qD(Ex1:El x1 (2^52))(Ey1:El y1 (2^52))(Ez1:El z1 (2^52))(Et1:El t1 (2^52)) :
  ∃x y z t,evVal T 128 [pV x1 y1 z1 t1]=some (pV x y z t)/\El x (2^52)/\El y (2^52)/\El z (2^52)/\El t (2^52) /\
   ∃a b c h e g f:Go.Fp.Fe,a=fe x1*fe x1/\b=fe y1*fe y1/\c=1*2*fe z1*fe z1/\h=a+b/\e=h-(fe x1+fe y1)*(fe x1+fe y1)/\g=a-b/\f=c+g /\
    fe x=e*f/\fe y=g*h/\fe z=f*g/\fe t=e*h:=by
 obtain⟨two,htwo⟩:∃two:List Nat,two=[2,0,0,0,0]:=⟨_,rfl⟩
 have Etwo:El two (2^52):=by rw[htwo];exact iO
 have vtwo:evVal T 106 [.int .u32 2]=some (eV two):=by rw[htwo];exact iJ
 have ftwo:fe two=2:=by rw[htwo];exact Sb
 clear htwo
 obtain⟨r1,hr1,Er1,fr1⟩:=Xk Ex1 Ex1
 obtain⟨r2,hr2,Er2,fr2⟩:=Xk Ey1 Ey1
 obtain⟨r3,hr3,Er3,fr3⟩:=UA (H:=[{c:=ns .u64 (pL x1 y1 z1 t1)},{c:=Qa 20 (.int .u64 0)},{c:=ns .u64 r1},{c:=ns .u64 r2},{c:=ns .u64 [two,z1,z1].flatten}]) (id:=4) (n:=3) (xs:=[two,z1,z1]) rfl ww (by intro w hw;simp only[Jr,JL,or_false]at hw;rcases hw with rfl|rfl|rfl<;>assumption) rfl
 simp only[Qn,Ql,JC,Xv,Xy,VD]at hr3 fr3
 obtain⟨r4,sr4,hr4,Er4,fr4⟩:=Y0 (H:=[{c:=ns .u64 (pL x1 y1 z1 t1)},{c:=Qa 20 (.int .u64 0)},{c:=ns .u64 r1},{c:=ns .u64 r2},{c:=ns .u64 [two,z1,z1].flatten},{c:=ns .u64 r3},{c:=ns .u64 r3},{c:=ns .u64 two},{c:=ns .u64 z1},{c:=ns .u64 z1},{c:=ns .u64 r3},{c:=ns .u64 (r1++r2)}]) (id:=11) Er1 Er2 rfl
 simp only[Qn,Ql]at hr4
 obtain⟨r5,sr5,hr5,Er5,fr5⟩:=Y0 (H:=[{c:=ns .u64 (pL x1 y1 z1 t1)},{c:=Qa 20 (.int .u64 0)},{c:=ns .u64 r1},{c:=ns .u64 r2},{c:=ns .u64 [two,z1,z1].flatten},{c:=ns .u64 r3},{c:=ns .u64 r3},{c:=ns .u64 two},{c:=ns .u64 z1},{c:=ns .u64 z1},{c:=ns .u64 r3},{c:=ns .u64 (r1++r2)},{c:=ns .u64 r4},{c:=ns .u64 sr4},{c:=ns .u64 r1},{c:=ns .u64 r2},{c:=ns .u64 r4},{c:=ns .u64 (x1++y1)}]) (id:=17) Ex1 Ey1 rfl
 simp only[Qn,Ql]at hr5
 obtain⟨r6,hr6,Er6,fr6⟩:=Xk Er5 Er5
 obtain⟨r7,hr7,Er7,fr7⟩:=Gm Er4 Er6
 obtain⟨r8,hr8,Er8,fr8⟩:=Gm Er1 Er2
 obtain⟨r9,sr9,hr9,Er9,fr9⟩:=Y0 (H:=[{c:=ns .u64 (pL x1 y1 z1 t1)},{c:=Qa 20 (.int .u64 0)},{c:=ns .u64 r1},{c:=ns .u64 r2},{c:=ns .u64 [two,z1,z1].flatten},{c:=ns .u64 r3},{c:=ns .u64 r3},{c:=ns .u64 two},{c:=ns .u64 z1},{c:=ns .u64 z1},{c:=ns .u64 r3},{c:=ns .u64 (r1++r2)},{c:=ns .u64 r4},{c:=ns .u64 sr4},{c:=ns .u64 r1},{c:=ns .u64 r2},{c:=ns .u64 r4},{c:=ns .u64 (x1++y1)},{c:=ns .u64 r5},{c:=ns .u64 sr5},{c:=ns .u64 x1},{c:=ns .u64 y1},{c:=ns .u64 r5},{c:=ns .u64 r7},{c:=ns .u64 r8},{c:=ns .u64 (r3++r8)}]) (id:=25) Er3 Er8 rfl
 simp only[Qn,Ql]at hr9
 obtain⟨r10,hr10,Er10,fr10⟩:=Xk Er7 Er9
 obtain⟨r11,hr11,Er11,fr11⟩:=Xk Er8 Er4
 obtain⟨r12,hr12,Er12,fr12⟩:=Xk Er9 Er8
 obtain⟨r13,hr13,Er13,fr13⟩:=Xk Er7 Er4
 refine⟨r10,r11,r12,r13,?_,Er10,Er11,Er12,Er13,fe r1,fe r2,fe r3,fe r4,fe r7,fe r8,fe r9,?_⟩
 ·obtain⟨q10,q11,q12,q13⟩:=S9 Ex1 Ey1 Ez1 Et1
  have p1:=YJ Ex1 Ey1 Ez1 Et1
  have p3:=YJ Er10 Er11 Er12 Er13
  have k3:=ID Etwo Ez1 Ez1
  have kp:=TN Er10 Er11 Er12 Er13
  have m1:=Uo Er1 Er2
  have m2:=Uo Ex1 Ey1
  have m3:=Uo Er3 Er8
  have Lx1:=Ex1.len
  have Ly1:=Ey1.len
  have Lz1:=Ez1.len
  have Lt1:=Et1.len
  have Ltwo:=Etwo.len
  have Lr1:=Er1.len
  have Lr2:=Er2.len
  have Lr3:=Er3.len
  have Lr4:=Er4.len
  have Lr5:=Er5.len
  have Lr6:=Er6.len
  have Lr7:=Er7.len
  have Lr8:=Er8.len
  have Lr9:=Er9.len
  have Lr10:=Er10.len
  have Lr11:=Er11.len
  have Lr12:=Er12.len
  have Lr13:=Er13.len
  apply QE (fn:=a53) rfl
  simp only[a53,Qr,quiet,cW,↓pW,reduceCtorEq,seval,-Qb,Qe,Qx,Ok,bR,vj,bS,vd,Qy,Q5,Za,Q6,QR,Q8,q10,q11,q12,q13,p1,p3,k3,kp,m1,m2,m3,vtwo,hr1,hr2,hr3,hr4,hr5,hr6,hr7,hr8,hr9,hr10,hr11,hr12,hr13,Lx1,Ly1,Lz1,Lt1,Ltwo,Lr1,Lr2,Lr3,Lr4,Lr5,Lr6,Lr7,Lr8,Lr9,Lr10,Lr11,Lr12,Lr13]
  rfl
 ·refine⟨fr1,fr2,by rw[fr3,ftwo],fr4,by rw[fr7,fr6,fr5],fr8,fr9,?_,?_,?_,?_⟩
  ·rw[fr10]
  ·rw[fr11]
  ·rw[fr12]
  ·rw[fr13]
structure Rep(x y z t:List Nat)(p:Go.Cv.Pt Go.Fp.P Go.Fp.d):Prop where
 ex:El x (2^52)
 ey:El y (2^52)
 ez:El z (2^52)
 et:El t (2^52)
 nz:fe z≠0
 x:fe x=p.x*fe z
 y:fe y=p.y*fe z
 t:fe t=p.x*p.y*fe z
abbrev JH(p q:Go.Cv.Pt Go.Fp.P Go.Fp.d):Go.Cv.Pt Go.Fp.P Go.Fp.d:=Go.Cv.Pt.add Go.Fp.fld p q
abbrev ZQ(k:Nat)(p:Go.Cv.Pt Go.Fp.P Go.Fp.d):Go.Cv.Pt Go.Fp.P Go.Fp.d:=Go.Cv.Pt.mul Go.Fp.fld k p
abbrev XM:Go.Cv.Pt Go.Fp.P Go.Fp.d:=Go.Cv.Pt.zero
theorem Il{x1 y1 z1 t1 x2 y2 z2 t2 a b c x y t qx qy:Go.Fp.Fe}(hx1:x1=px*z1)(hy1:y1=py*z1)(ht1:t1=px*py*z1)(hx2:x2=qx*z2)(hy2:y2=qy*z2)(ht2:t2=qx*qy*z2)
 (ha:a=(y1-x1)*(y2-x2)) (hb:b=(y1+x1)*(y2+x2)) (hc:c=1*2*dd*t1*t2) (he:e=1*2*z1*z2) (hx:x=(b-a)*(e-c)) (hy:y=(e+c)*(b+a)) (hz:z=(e-c)*(e+c)) (ht:t=(b-a)*(b+a))
 (hrx:rx*(1+dd*px*qx*py*qy)=px*qy+qx*py) (hry:ry*(1-dd*px*qx*py*qy)=py*qy+px*qx) :
    x=rx*z/\y=ry*z/\t=rx*ry*z/\z=(2*z1*z2)*(2*z1*z2)*((1-dd*px*qx*py*qy)*(1+dd*px*qx*py*qy)):=by
  have e1:b-a=(2*z1*z2)*(px*qy+qx*py):=by rw[hb,ha,hx1,hy1,hx2,hy2];grobner
  have e2:b+a=(2*z1*z2)*(py*qy+px*qx):=by rw[hb,ha,hx1,hy1,hx2,hy2];grobner
  have e3:e-c=(2*z1*z2)*(1-dd*px*qx*py*qy):=by rw[he,hc,ht1,ht2];grobner
  have e4:e+c=(2*z1*z2)*(1+dd*px*qx*py*qy):=by rw[he,hc,ht1,ht2];grobner
  rw[e1,<-hrx,e3]at hx
  rw[e4,e2,<-hry]at hy
  rw[e3,e4]at hz
  rw[e1,e2,<-hrx,<-hry]at ht
  clear hx1 hy1 ht1 hx2 hy2 ht2 ha hb hc he hrx hry e1 e2 e3 e4
  generalize 1+dd*px*qx*py*qy=k at *
  generalize 1-dd*px*qx*py*qy=m at *
  generalize 2*z1*z2=w at *
  subst hx hy hz ht
  refine⟨?_,?_,?_,?_⟩<;>grobner
theorem Rep.plus{x1 y1 z1 t1 x2 y2 z2 t2 d:List Nat}{p q:Go.Cv.Pt Go.Fp.P Go.Fp.d}(h1:Rep x1 y1 z1 t1 p)(h2:Rep x2 y2 z2 t2 q)(Ed:El d (2^52))(hd:fe d=Go.Fp.d) :
  ∃x y z t,evVal T 135 [pV x1 y1 z1 t1,pV x2 y2 z2 t2,eV d]=some (pV x y z t)/\Rep x y z t (JH p q):=by
 obtain⟨x,y,z,t,hv,Ex,Ey,Ez,Et,a,b,c,e,ha,hb,hc,he,hx,hy,hz,ht⟩:=wt h1.ex h1.ey h1.ez h1.et h2.ex h2.ey h2.ez h2.et Ed
 rw[hd]at hc
 obtain⟨g1,g2,g3,g4⟩:=Il h1.x h1.y h1.t h2.x h2.y h2.t ha hb hc he hx hy hz ht (Go.Cv.DA Go.Fp.fld p q) (Go.Cv.BM Go.Fp.fld p q)
 refine⟨x,y,z,t,hv,Ex,Ey,Ez,Et,?_,g1,g2,g3⟩
 rw[g4]
 have F:=Go.Fp.fld
 have w:=F.mul_ne (F.mul_ne F.two h1.nz) h2.nz
 exact F.mul_ne (F.mul_ne w w) (F.mul_ne (F.denM p.on q.on) (F.denP p.on q.on))
theorem Se{x1 y1 z1 a b c h g f x y t:Go.Fp.Fe}(hx1:x1=px*z1)(hy1:y1=py*z1)(on : -(px*px)+py*py=1+dd*(px*px)*(py*py))
 (ha:a=x1*x1) (hb:b=y1*y1) (hc:c=1*2*z1*z1) (hh:h=a+b) (he:e=h-(x1+y1)*(x1+y1)) (hg:g=a-b) (hf:f=c+g) (hx:x=e*f) (hy:y=g*h) (hz:z=f*g) (ht:t=e*h)
 (hrx:rx*(1+dd*px*px*py*py)=px*py+px*py) (hry:ry*(1-dd*px*px*py*py)=py*py+px*px) :
    x=rx*z/\y=ry*z/\t=rx*ry*z/\z = -((z1*z1)*(z1*z1)*((1-dd*px*px*py*py)*(1+dd*px*px*py*py))):=by
  have e1:e = -((z1*z1)*(px*py+px*py)):=by rw[he,hh,ha,hb,hx1,hy1];grobner
  have e2:h=(z1*z1)*(py*py+px*px):=by rw[hh,ha,hb,hx1,hy1];grobner
  have e3:g = -((z1*z1)*(1+dd*px*px*py*py)):=by
    have:1+dd*px*px*py*py=py*py-px*px:=by
      clear hx1 hy1 ha hb hc hh he hg hf hx hy hz ht hrx hry e1 e2
      grobner
    rw[this,hg,ha,hb,hx1,hy1];grobner
  have e4:f=(z1*z1)*(1-dd*px*px*py*py):=by
    rw[hf,e3,hc]
    clear hx1 hy1 on ha hb hc hh he hg hf hx hy hz ht hrx hry e1 e2 e3
    grobner
  rw[<-hrx]at e1
  rw[<-hry]at e2
  clear hx1 hy1 on ha hb hc hh he hg hf hrx hry
  generalize 1+dd*px*px*py*py=k at *
  generalize 1-dd*px*px*py*py=m at *
  generalize z1*z1=w at *
  subst e1 e2 e3 e4 hx hy hz ht
  refine⟨?_,?_,?_,?_⟩<;>grobner
theorem Rep.twice{x1 y1 z1 t1:List Nat}{p:Go.Cv.Pt Go.Fp.P Go.Fp.d}(h1:Rep x1 y1 z1 t1 p):∃x y z t,evVal T 128 [pV x1 y1 z1 t1]=some (pV x y z t)/\Rep x y z t (JH p p):=by
 obtain⟨x,y,z,t,hv,Ex,Ey,Ez,Et,a,b,c,h,e,g,f,ha,hb,hc,hh,he,hg,hf,hx,hy,hz,ht⟩:=qD h1.ex h1.ey h1.ez h1.et
 obtain⟨g1,g2,g3,g4⟩:=Se h1.x h1.y p.on ha hb hc hh he hg hf hx hy hz ht (Go.Cv.DA Go.Fp.fld p p) (Go.Cv.BM Go.Fp.fld p p)
 refine⟨x,y,z,t,hv,Ex,Ey,Ez,Et,?_,g1,g2,g3⟩
 rw[g4]
 have F:=Go.Fp.fld
 have w:=F.mul_ne h1.nz h1.nz
 have n:=F.mul_ne (F.mul_ne w w) (F.mul_ne (F.denM p.on p.on) (F.denP p.on p.on))
 intro h0
 exact n (by grobner)
def RepL(l:List Nat)(p:Go.Cv.Pt Go.Fp.P Go.Fp.d):Prop:=∃x y z t,l=pL x y z t/\Rep x y z t p
theorem RepL.len{l:List Nat}{p:Go.Cv.Pt Go.Fp.P Go.Fp.d}(h:RepL l p):l.length=20:=by
 obtain⟨x,y,z,t,rfl,h⟩:=h
 exact YJ h.ex h.ey h.ez h.et
theorem vh{d:List Nat}(h1:RepL l p)(h2:RepL m q)(Ed:El d (2^52))(hd:fe d=Go.Fp.d):∃r,evVal T 135 [eV l,eV m,eV d]=some (eV r)/\RepL r (JH p q):=by
 obtain⟨x,y,z,t,rfl,h1⟩:=h1
 obtain⟨x2,y2,z2,t2,rfl,h2⟩:=h2
 obtain⟨a,b,c,e,h3,h4⟩:=h1.plus h2 Ed hd
 exact⟨pL a b c e,h3,a,b,c,e,rfl,h4⟩
theorem Lg(h1:RepL l p):∃r,evVal T 128 [eV l]=some (eV r)/\RepL r (JH p p):=by
 obtain⟨x,y,z,t,rfl,h1⟩:=h1
 obtain⟨a,b,c,e,h3,h4⟩:=h1.twice
 exact⟨pL a b c e,h3,a,b,c,e,rfl,h4⟩
def dK:List Nat:=dig 256 32 Go.Fp.dN
theorem xM:num 256 dK=Go.Fp.dN:=by decide +kernel
theorem dK_lt:∀x∈dK,x<256:=fun _ h=>Vy ww h
theorem CL:∃r,evVal T 124 []=some (eV r)/\El r (2^52)/\fe r=Go.Fp.d:=by
 have h:=eI (k:=dK) (Zg _ _ _) dK_lt
 refine⟨dig (2^51) 5 (num 256 dK%2^255),?_,O9,?_⟩
 rotate_left
 ·unfold fe
  rw[Td,xM]
  rfl
 ·have hl:(dig (2^51) 5 (num 256 dK%2^255)).length=5:=Zg _ _ _
  have hf:fillL (Qa 32 (Value.int .u8 0)) [(0,1,.int .u8 163),(1,1,.int .u8 120),(2,1,.int .u8 89),(3,1,.int .u8 19),(4,1,.int .u8 202),(5,1,.int .u8 77),(6,1,.int .u8 235),(7,1,.int .u8 117),(8,1,.int .u8 171),(9,1,.int .u8 216),(10,1,.int .u8 65),(11,1,.int .u8 65),(12,1,.int .u8 77),(13,1,.int .u8 10),(14,1,.int .u8 112),(15,1,.int .u8 0),(16,1,.int .u8 152),(17,1,.int .u8 232),(18,1,.int .u8 121),(19,1,.int .u8 119),(20,1,.int .u8 121),(21,1,.int .u8 64),(22,1,.int .u8 199),(23,1,.int .u8 140),(24,1,.int .u8 115),(25,1,.int .u8 254),(26,1,.int .u8 111),(27,1,.int .u8 43),(28,1,.int .u8 238),(29,1,.int .u8 108),(30,1,.int .u8 3),(31,1,.int .u8 82)]=some (u8s dK):=by
   have:dK=[163,120,89,19,202,77,235,117,171,216,65,65,77,10,112,0,152,232,121,119,121,64,199,140,115,254,111,43,238,108,3,82]:=by decide +kernel
   rw[this];rfl
  generalize dig (2^51) 5 (num 256 dK%2^255)=D at *
  apply QE (fn:=a52) rfl
  simp only[a52,Qr,quiet,cW,↓pW,reduceCtorEq,seval,-Qb,hf,h,Qe,Qx,Qy,Q5,Za,Q6,QR,Q8,hl]
  rfl
theorem mC:evVal T 106 [.int .u32 1]=some (eV [1,0,0,0,0]):=HH (n:=1) ww
theorem AD:El [0,0,0,0,0] (2^52):=Bs ww
theorem bl:fe [0,0,0,0,0]=0:=by rw[Br];rfl
theorem PU:∃r,evVal T 129 []=some (eV r)/\RepL r XM:=by
 refine⟨pL [0,0,0,0,0] [1,0,0,0,0] [1,0,0,0,0] [0,0,0,0,0],?_,_,_,_,_,rfl,AD,DT,DT,AD,?_,?_,?_,?_⟩
 ·have hf:fillL (Qa 20 (Value.int .u64 0)) [(5,5,eV [1,0,0,0,0]),(10,5,eV [1,0,0,0,0])]=some (ns .u64 (pL [0,0,0,0,0] [1,0,0,0,0] [1,0,0,0,0] [0,0,0,0,0])):=rfl
  have hl:(pL [0,0,0,0,0] [1,0,0,0,0] [1,0,0,0,0] [0,0,0,0,0]).length=20:=rfl
  have hv:=mC
  generalize pL [0,0,0,0,0] [1,0,0,0,0] [1,0,0,0,0] [0,0,0,0,0]=Z at *
  generalize([1,0,0,0,0]:List Nat)=O at *
  apply QE (fn:=a30) rfl
  simp only[a30,Qr,quiet,cW,↓pW,reduceCtorEq,seval,-Qb,hf,hv,Qe,Qx,Qy,Q5,Za,Q6,QR,Q8,hl]
  rfl
 ·rw[DS];exact Go.Fp.Y4
 ·rw[bl];simp only[Go.Cv.Pt.zero];grobner
 ·rw[DS];simp only[Go.Cv.Pt.zero];grobner
 ·rw[bl];simp only[Go.Cv.Pt.zero];grobner
theorem Ij(p:Go.Cv.Pt Go.Fp.P Go.Fp.d)(m b:Nat)(hb:b<2):ZQ (2*m+b) p=if b=1 then JH (JH (ZQ m p) (ZQ m p)) p else JH (ZQ m p) (ZQ m p):=by
 have h1:ZQ (2*m) p=JH (ZQ m p) (ZQ m p):=by rw[show 2*m=m+m by omega];exact Go.Cv.mul_add Go.Fp.fld m m p
 by_cases h:b=1
 ·subst h
  rw[if_pos rfl]
  show JH (ZQ (2*m) p) p=_
  rw[h1]
 ·have:b=0:=qr
  subst this
  rw[if_neg ww,Jl,h1]
def muI(l k o d:List Nat)(R:Ob)(i:Int)(ex:Env):St:=⟨[(2,.pointer (0:Nat)),(3,.pointer (1:Nat)),(4,.pointer (2:Nat)),(5,.pointer (3:Nat)),(6,.pointer (4:Nat)),(7,.int .i64 i)]++ex,[{c:=ns .u64 l},{c:=u8s k},R,{c:=ns .u64 o},{c:=ns .u64 d}],[]⟩
theorem sH{k d:List Nat}(hl:RepL l p)(lk:k.length=32)(xk:∀x∈k,x<256)(hi:i<256)(Ed:El d (2^52))(hd:fe d=Go.Fp.d)(ho:RepL o (ZQ (num 256 k/2^(i+1)) p)) :
  ∃r,Q0 T 0 Tx (muI l k o d R i [])=some (.normal,muI l k r d R ((i:Int)-1) [])/\RepL r (ZQ (num 256 k/2^i) p):=by
 obtain⟨b,hb⟩:∃b,k[i/8]?=some b:=⟨_,Qf qr⟩
 have hbv:=Kv (B:=256) ww xk hb
 have hbc:=Js hb
 have hbit:b/2^(i%8)%2=num 256 k/2^i%2:=by
  rw[<-hbv,show(256:Nat)=2^8 from rfl,Ad (Q9 _ ww),Z5]
 obtain⟨r1,m1,g1⟩:=Lg ho
 obtain⟨r2,m2,g3⟩:=vh g1 hl Ed hd
 have hlt:=Bg (num 256 k) i
 have hnum:num 256 k/2^i=2*(num 256 k/2^(i+1))+num 256 k/2^i%2:=by
  rw[Zj,<-QV]
  omega
 have hstep:=Ij p (num 256 k/2^(i+1)) (num 256 k/2^i%2) hlt
 rw[<-hnum]at hstep
 have s1:(2:Int)^min (i%8) IntKind.u8.bits=((2^(i%8):Nat):Int):=Ga (J0 (Q9 _ ww))
 have w2:IntKind.i64.wrap ((i/8:Nat):Int)=((i/8:Nat):Int):=ZB qr
 have w3:IntKind.i64.wrap ((i:Int)-1)=(i:Int)-1:=QU qr qr
 have e1:((0:Int)<=(i:Int))=True:=wf
 have e3:(((i/8:Nat):Int)<32)=True:=wf
 have e4:(((i%8:Nat):Int)<0)=False:=wr
 have l1:=hl.len
 have l2:=ho.len
 have l3:=g1.len
 have l4:=g3.len
 have l5:=Ed.len
 generalize hB:num 256 k/2^i%2=B at *
 by_cases hB1:B=1
 ·have hbq:((B:Int)==1)=true:=by rw[hB1];rfl
  rw[if_pos hB1]at hstep
  refine⟨r2,?_,by rw[hstep];exact g3⟩
  simp only[muI,Tx,Qr,quiet,cW,↓pW,reduceCtorEq,seval,-Qb,cU,hbc,hbit,s1,w2,w3,e1,e3,e4,m1,m2,hbq,Qx,Qy,Q5,Za,Q6,Q8,l1,l2,l3,l4,l5,QR]
 ·have hbq:((B:Int)==1)=false:=by
   have:B=0:=qr
   rw[this];rfl
  rw[if_neg hB1]at hstep
  refine⟨r1,?_,by rw[hstep];exact g1⟩
  simp only[muI,Tx,Qr,quiet,cW,↓pW,reduceCtorEq,seval,-Qb,cU,hbc,hbit,s1,w2,w3,e1,e3,e4,m1,m2,hbq,Qx,Qy,Q5,Za,Q6,Q8,l1,l2,l3,l4,l5,QR]
theorem Uj{k:List Nat}(hl:RepL l p)(lk:k.length=32)(xk:∀x∈k,x<256):∃r,evVal T 69 [eV l,.agg (u8s k).toArray]=some (eV r)/\RepL r (ZQ (num 256 k) p):=by
 have hK:=num_lt xk
 rw[lk,show(256:Nat)^32=2^256 from by rw[show(256:Nat)=2^8 from rfl,<-Je]]at hK
 obtain⟨z,hz,hz2⟩:=PU
 obtain⟨d,hd1,Ed,hd⟩:=CL
 obtain⟨st,hb,r,rfl,hr1⟩:=Zh (T:=T) (base:=0) (id:=0) (body:=Tx)
  (fun j st=>∃r:List Nat,st=muI l k r d {c:=Qa 20 (.int .u64 0)} ((255:Int)-j) []/\RepL r (ZQ (num 256 k/2^(256-j)) p))
  (Q:=fun st=>∃r:List Nat,st=muI l k r d {c:=Qa 20 (.int .u64 0)} (-1) [(11,.bool false)]/\RepL r (ZQ (num 256 k) p))
  256 (s:=muI l k z d {c:=Qa 20 (.int .u64 0)} 255 []) ⟨_,rfl,by rw[KC,JK hK];exact hz2⟩
  (fun j st hj hs=>by
   obtain⟨r,rfl,h2⟩:=hs
   obtain⟨i,hi⟩:∃i,256-j=i+1:=⟨255-j,by omega⟩
   rw[hi]at h2
   obtain⟨r',g1,g3⟩:=sH (R:={c:=Qa 20 (.int .u64 0)}) hl lk xk (i:=i) qr Ed hd h2
   rw[show(255:Int)-j=(i:Int) by omega]
   refine⟨_,g1,r',?_,?_⟩
   ·rw[show(255:Int)-((j+1:Nat):Int)=(i:Int)-1 by omega]
   ·rw[show 256-(j+1)=i by omega];exact g3)
  (fun st hs=>by
   obtain⟨r,rfl,h2⟩:=hs
   rw[Q7,ZN,J1]at h2
   have e:((0:Int) <= -1)=False:=ww
   refine⟨_,?_,r,rfl,h2⟩
   rw[show(255:Int)-((256:Nat):Int) = -1 by omega]
   simp only[muI,Tx,Qr,quiet,cK,↓pQ,reduceCtorEq,seval,-Qb,cL,e])
 refine⟨r,?_,hr1⟩
 have l1:=hl.len
 have l2:=hz2.len
 have l3:=hr1.len
 have l4:=Ed.len
 simp only[muI,Qn,Ql]at hb
 apply QE (fn:=a26) rfl
 simp only[a26,Qr,quiet,cW,↓pW,reduceCtorEq,seval,-Qb,hz,hd1,hb,muI,Qe,Qx,Qy,Q5,Za,Q6,Q8,l1,l2,l3,l4,QR]
 rfl
theorem wM(hl:RepL l p):∃r,evVal T 70 [eV l]=some (eV r)/\RepL r p.neg:=by
 obtain⟨x,y,z,t,rfl,h⟩:=hl
 obtain⟨a,ha,Ea,fa⟩:=Iz h.ex
 obtain⟨b,hb,Eb,fb⟩:=Iz h.et
 obtain⟨q0,q1,q2,q3⟩:=S9 h.ex h.ey h.ez h.et
 have hf:=TN Ea h.ey h.ez Eb
 have p1:=YJ h.ex h.ey h.ez h.et
 have p2:=YJ Ea h.ey h.ez Eb
 refine⟨pL a y z b,?_,a,y,z,b,rfl,Ea,h.ey,h.ez,Eb,h.nz,?_,?_,?_⟩
 ·generalize pL x y z t=L,pL a y z b=M at *
  apply QE (fn:=a34) rfl
  simp only[a34,Qr,quiet,cW,↓pW,reduceCtorEq,seval,-Qb,q0,q1,q2,q3,ha,hb,hf,Qe,Qx,Qy,Q5,Za,Q6,Q8,p1,p2,QR]
  rfl
 ·rw[fa,h.x];simp only[Go.Cv.Pt.neg];grobner
 ·rw[h.y];rfl
 ·rw[fb,h.t];simp only[Go.Cv.Pt.neg];grobner
instance decPt(p q:Go.Cv.Pt Go.Fp.P Go.Fp.d):Decidable (p=q):=if h:p.x=q.x/\p.y=q.y then isTrue (Go.Cv.Pt.ext h.1 h.2)else isFalse (fun e=>h (by rw[e];exact⟨rfl,rfl⟩))
theorem kr{a b w:Go.Fp.Fe}(hz:z≠0)(hw:w≠0):(a*z*w=b*w*z)=(a=b):=by
 apply propext
 constructor
 ·intro h
  have F:=Go.Fp.fld
  refine F.cancel (F.mul_ne hz hw) ?_
  grobner
 ·intro h;subst h;grobner
theorem tF{p q:Go.Cv.Pt Go.Fp.P Go.Fp.d}(h1:RepL l p)(h2:RepL m q):evVal T 127 [eV l,eV m]=some (.bool (decide (p=q))):=by
 obtain⟨x1,y1,z1,t1,rfl,h1⟩:=h1
 obtain⟨x2,y2,z2,t2,rfl,h2⟩:=h2
 obtain⟨a,ha,Ea,fa⟩:=Xk h1.ex h2.ez
 obtain⟨b,hb,Eb,fb⟩:=Xk h2.ex h1.ez
 obtain⟨c,hc,Ec,fc⟩:=Xk h1.ey h2.ez
 obtain⟨e,he,Ee,fe_⟩:=Xk h2.ey h1.ez
 have q1:=tG Ea Eb
 have q2:=tG Ec Ee
 rw[fa,fb,h1.x,h2.x]at q1
 rw[fc,fe_,h1.y,h2.y]at q2
 simp only[kr h1.nz h2.nz]at q1 q2
 obtain⟨u0,u1,u2,u3⟩:=S9 h1.ex h1.ey h1.ez h1.et
 obtain⟨v0,v1,v2,v3⟩:=S9 h2.ex h2.ey h2.ez h2.et
 have p1:=YJ h1.ex h1.ey h1.ez h1.et
 have p2:=YJ h2.ex h2.ey h2.ez h2.et
 generalize pL x1 y1 z1 t1=L,pL x2 y2 z2 t2=M at *
 by_cases hx:p.x=q.x
 ·rw[decide_eq_true hx]at q1
  have hd:decide (p=q)=decide (p.y=q.y):=by
   by_cases hy:p.y=q.y
   ·rw[decide_eq_true hy,decide_eq_true (Go.Cv.Pt.ext hx hy)]
   ·rw[decide_eq_false hy,decide_eq_false (fun h=>hy (by rw[h]))]
  rw[hd]
  apply QE (fn:=a28) rfl
  simp only[a28,Qr,quiet,cW,↓pW,reduceCtorEq,seval,-Qb,u0,u1,u2,v0,v1,v2,ha,hb,hc,he,q1,q2,Qe,Qx,Qy,Q5,Za,Q6,Q8,p1,p2,QR]
  rfl
 ·rw[decide_eq_false hx]at q1
  rw[decide_eq_false (fun h=>hx (by rw[h]))]
  apply QE (fn:=a28) rfl
  simp only[a28,Qr,quiet,cW,↓pW,reduceCtorEq,seval,-Qb,u0,u1,u2,v0,v1,v2,ha,hb,hc,he,q1,q2,Qe,Qx,Qy,Q5,Za,Q6,Q8,p1,p2,QR]
  rfl
theorem oO(p:Go.Cv.Pt Go.Fp.P Go.Fp.d):JH (JH (JH p p) (JH p p)) (JH (JH p p) (JH p p))=ZQ 8 p:=by
 have h2:ZQ 2 p=JH p p:=Go.Cv.mul_two Go.Fp.fld p
 have h4:ZQ 4 p=JH (ZQ 2 p) (ZQ 2 p):=Go.Cv.mul_add Go.Fp.fld 2 2 p
 have h8:ZQ 8 p=JH (ZQ 4 p) (ZQ 4 p):=Go.Cv.mul_add Go.Fp.fld 4 4 p
 rw[h8,h4,h2]
theorem vM(h:RepL l p):evVal T 64 [eV l]=some (.bool (decide (ZQ 8 p=XM))):=by
 obtain⟨a,ha,ra⟩:=Lg h
 obtain⟨b,hb,rb⟩:=Lg ra
 obtain⟨c,hc,rc⟩:=Lg rb
 obtain⟨z,hz,rz⟩:=PU
 have he:=tF rc rz
 rw[oO]at he
 have p1:=h.len
 apply QE (fn:=a39) rfl
 simp only[a39,Qr,quiet,cW,↓pW,reduceCtorEq,seval,-Qb,ha,hb,hc,hz,he,Qx,Qy,Q5,Za,Q6,Q8,p1,QR]
 rfl
def MW(p:Go.Cv.Pt Go.Fp.P Go.Fp.d):Nat:=p.y.val+(p.x.val%2)*2^255
def enc(p:Go.Cv.Pt Go.Fp.P Go.Fp.d):List Nat:=dig 256 32 (MW p)
theorem YP(p:Go.Cv.Pt Go.Fp.P Go.Fp.d):(enc p).length=32:=Zg _ _ _
theorem aK(p:Go.Cv.Pt Go.Fp.P Go.Fp.d):∀x∈enc p,x<256:=Yw
theorem GF(a:Go.Fp.Fe):a.val<2^255:=JR a.isLt (by rw[Go.Fp.Hu];decide)
theorem LS(p:Go.Cv.Pt Go.Fp.P Go.Fp.d):MW p<256^32:=by
 have h1:=GF p.y
 have h2:=Q9 p.x.val (by decide:0<2)
 unfold MW
 have:p.x.val%2*2^255<=1*2^255:=Z9 _ qr
 have e:(256:Nat)^32=2^255+2^255:=ww
 omega
theorem MU{p:Go.Cv.Pt Go.Fp.P Go.Fp.d}(h:RepL l p):evVal T 71 [eV l]=some (.agg (u8s (enc p)).toArray):=by
 obtain⟨x,y,z,t,rfl,h⟩:=h
 obtain⟨i,hi,Ei,fi⟩:=OR h.ez
 obtain⟨a,ha,Ea,fa⟩:=Xk h.ey Ei
 obtain⟨b,hb,Eb,fb⟩:=Xk h.ex Ei
 have hinv:=Go.Fp.KS h.nz
 have fa':fe a=p.y:=by rw[fa,fi,h.y];grobner
 have fb':fe b=p.x:=by rw[fb,fi,h.x];grobner
 have k1:=Gh Ea
 have k2:=mS Eb
 rw[fa']at k1
 rw[fb']at k2
 obtain⟨u0,u1,u2,u3⟩:=S9 h.ex h.ey h.ez h.et
 have p1:=YJ h.ex h.ey h.ez h.et
 have L1:=Ei.len
 have lk:(dig 256 32 p.y.val).length=32:=Zg _ _ _
 have l0:(dig 256 32 0).length=32:=rfl
 have hz32:Qa 32 (Value.int .u8 0)=u8s (dig 256 32 0):=rfl
 generalize pL x y z t=L at *
 by_cases ho:p.x.val%2=1
 ·rw[decide_eq_true ho]at k2
  have hv:=GF p.y
  obtain⟨w,hw⟩:∃w,(dig 256 32 p.y.val)[31]?=some w:=⟨_,Qf (by rw[Zg];decide)⟩
  have hwc:=Js hw
  have hw':w<256:=Vy ww (Qo hw)
  have hput:=A6 (w:=8) (m:=32) (q:=31) (s:=7) (y:=1) (M:=p.y.val) ww ww hv ww
  have hgd:(dig (2^8) 32 p.y.val).getD 31 0=w:=by rw[QD];rw[show(2:Nat)^8=256 from rfl,hw];rfl
  rw[hgd]at hput
  have hset:=Xc (dig 256 32 p.y.val) 31 (w|||128)
  rw[show(dig 256 32 p.y.val).set 31 (w|||128)=enc p from by rw[enc,MW,ho];exact hput]at hset
  have o1:Zr .or .u8 (w:Int) 128=((w|||128:Nat):Int):=Kh (k := .u8) (a:=w) (b:=128) rfl hw' ww
  have le:=YP p
  generalize enc p=E at *
  apply QE (fn:=a29) rfl
  simp only[a29,Qr,quiet,cW,↓pW,reduceCtorEq,seval,-Qb,hz32,u0,u1,u2,hi,ha,hb,k1,k2,hwc,o1,hset,Qe,Qx,Qy,Q5,Za,Q6,Q8,Qq,lk,l0,le,p1,L1,QR]
  rfl
 ·rw[decide_eq_false ho]at k2
  have he:enc p=dig 256 32 p.y.val:=by rw[enc,MW,show p.x.val%2=0 by omega,Vm,Jl]
  rw[he]
  generalize dig 256 32 p.y.val=E at *
  apply QE (fn:=a29) rfl
  simp only[a29,Qr,quiet,cW,↓pW,reduceCtorEq,seval,-Qb,hz32,u0,u1,u2,hi,ha,hb,k1,k2,Qe,Qx,Qy,Q5,Za,Q6,Q8,Qq,lk,l0,p1,L1,QR]
  rfl
def bxN:Nat:=15112221349535400772501151409588531511454012693041857206046113283949847762202
def byN:Nat:=46316835694926478169428394003475163141307993866256225615783033603165251855960
def JZ:Go.Cv.Pt Go.Fp.P Go.Fp.d:=⟨Go.Fp.fp bxN,Go.Fp.fp byN,by
 unfold Go.Cv.On Go.Fp.d
 have h:(Go.Fp.fp byN*Go.Fp.fp byN:Go.Fp.Fe)=Go.Fp.fp bxN*Go.Fp.fp bxN+(1+Go.Fp.fp Go.Fp.dN*(Go.Fp.fp bxN*Go.Fp.fp bxN)*(Go.Fp.fp byN*Go.Fp.fp byN)):=by
  rw[<-Go.Fp.LQ,<-Go.Fp.Kg,<-Go.Fp.Kg,<-Go.Fp.Kg,<-Go.Fp.Kg,<-Go.Fp.Vx,<-Go.Fp.Vx]
  exact Go.Fp.TM.2 (by decide +kernel)
 grobner⟩
def bxK:List Nat:=dig 256 32 bxN
def byK:List Nat:=dig 256 32 byN
theorem tW:num 256 bxK=bxN:=by decide +kernel
theorem tV:num 256 byK=byN:=by decide +kernel
theorem ba:∃r,evVal T 68 []=some (eV r)/\RepL r JZ:=by
 have h1:=eI (k:=bxK) (Zg _ _ _) Yw
 have h2:=eI (k:=byK) (Zg _ _ _) Yw
 have E1:=O9 (V:=num 256 bxK%2^255)
 have E2:=O9 (V:=num 256 byK%2^255)
 have f1:fe (dig (2^51) 5 (num 256 bxK%2^255))=Go.Fp.fp bxN:=by unfold fe;rw[Td,tW];rfl
 have f2:fe (dig (2^51) 5 (num 256 byK%2^255))=Go.Fp.fp byN:=by unfold fe;rw[Td,tV];rfl
 generalize dig (2^51) 5 (num 256 bxK%2^255)=X,dig (2^51) 5 (num 256 byK%2^255)=Y at *
 obtain⟨t,ht,Et,ft⟩:=Xk E1 E2
 have E3:∃O:List Nat,O=[1,0,0,0,0]:=⟨_,rfl⟩
 obtain⟨O,hO⟩:=E3
 have E3:El O (2^52):=by rw[hO];exact DT
 have v1:evVal T 106 [.int .u32 1]=some (eV O):=by rw[hO];exact mC
 have f3:fe O=1:=by rw[hO];exact DS
 clear hO
 have hf:=TN E1 E2 E3 Et
 have p1:=YJ E1 E2 E3 Et
 refine⟨pL X Y O t,?_,X,Y,O,t,rfl,E1,E2,E3,Et,by rw[f3];exact Go.Fp.Y4,by rw[f1,f3];simp only[JZ];grobner,by rw[f2,f3];simp only[JZ];grobner,by rw[ft,f1,f2,f3];simp only[JZ];grobner⟩
 have L1:=E1.len
 have L2:=E2.len
 have g1:fillL (Qa 32 (Value.int .u8 0)) [(0,1,.int .u8 26),(1,1,.int .u8 213),(2,1,.int .u8 37),(3,1,.int .u8 143),(4,1,.int .u8 96),(5,1,.int .u8 45),(6,1,.int .u8 86),(7,1,.int .u8 201),(8,1,.int .u8 178),(9,1,.int .u8 167),(10,1,.int .u8 37),(11,1,.int .u8 149),(12,1,.int .u8 96),(13,1,.int .u8 199),(14,1,.int .u8 44),(15,1,.int .u8 105),(16,1,.int .u8 92),(17,1,.int .u8 220),(18,1,.int .u8 214),(19,1,.int .u8 253),(20,1,.int .u8 49),(21,1,.int .u8 226),(22,1,.int .u8 164),(23,1,.int .u8 192),(24,1,.int .u8 254),(25,1,.int .u8 83),(26,1,.int .u8 110),(27,1,.int .u8 205),(28,1,.int .u8 211),(29,1,.int .u8 54),(30,1,.int .u8 105),(31,1,.int .u8 33)]=some (u8s bxK):=by
  have:bxK=[26,213,37,143,96,45,86,201,178,167,37,149,96,199,44,105,92,220,214,253,49,226,164,192,254,83,110,205,211,54,105,33]:=by decide +kernel
  rw[this];rfl
 have g2:fillL (Qa 32 (Value.int .u8 0)) [(0,1,.int .u8 88),(1,1,.int .u8 102),(2,1,.int .u8 102),(3,1,.int .u8 102),(4,1,.int .u8 102),(5,1,.int .u8 102),(6,1,.int .u8 102),(7,1,.int .u8 102),(8,1,.int .u8 102),(9,1,.int .u8 102),(10,1,.int .u8 102),(11,1,.int .u8 102),(12,1,.int .u8 102),(13,1,.int .u8 102),(14,1,.int .u8 102),(15,1,.int .u8 102),(16,1,.int .u8 102),(17,1,.int .u8 102),(18,1,.int .u8 102),(19,1,.int .u8 102),(20,1,.int .u8 102),(21,1,.int .u8 102),(22,1,.int .u8 102),(23,1,.int .u8 102),(24,1,.int .u8 102),(25,1,.int .u8 102),(26,1,.int .u8 102),(27,1,.int .u8 102),(28,1,.int .u8 102),(29,1,.int .u8 102),(30,1,.int .u8 102),(31,1,.int .u8 102)]=some (u8s byK):=by
  have:byK=[88,102,102,102,102,102,102,102,102,102,102,102,102,102,102,102,102,102,102,102,102,102,102,102,102,102,102,102,102,102,102,102]:=by decide +kernel
  rw[this];rfl
 generalize pL X Y O t=Q at *
 apply QE (fn:=a25) rfl
 simp only[a25,Qr,quiet,cW,↓pW,reduceCtorEq,seval,-Qb,g1,g2,h1,h2,v1,ht,hf,Qe,Qx,Qy,Q5,Za,Q6,Q8,p1,L1,L2,QR]
 rfl
theorem wx(hb:b.length=20)(ha:a.length=n):Zi 20 (J2 n (ns .u64 (a++(b++c))))=ns .u64 b:=by
 simp only[HQ]
 rw[Jf (by rw[Q8];omega),Zu (by rw[Q8];omega),Ql,ZO (by rw[Q8];omega),Qm (by rw[Q8];omega)]
theorem gW{l:List Ob}{r d:List Nat}{g:List Ob}(hi:i<n)(hn:n<100)(l1:x.length=20)(l2:o.length=20)(l4:d.length=5)(hm:evVal T 135 [eV o,eV x,eV d]=some (eV r))(l3:r.length=20)
 (hA:∀l,(H++l)[id]?=some {c:=cs}) (hcs:(cs.drop (i*20)).take 20=ns .u64 x) (hlen:i*20+20<=cs.length) :
    Q0 T H.length Fh ⟨[(2,.pointer H.length),(3,.pointer (H.length+1:Nat)),(4,.pointer (H.length+2:Nat)),(9,.slice id n n),(10,.int .i64 n),(11,.int .i64 i)],H++(R::{c:=ns .u64 o}::{c:=ns .u64 d}::g),[]⟩ =
      some (.normal,⟨[(2,.pointer H.length),(3,.pointer (H.length+1:Nat)),(4,.pointer (H.length+2:Nat)),(9,.slice id n n),(10,.int .i64 n),(11,.int .i64 ((i+1:Nat):Int))],H++(R::{c:=ns .u64 r}::{c:=ns .u64 d}::(g++[{c:=ns .u64 x}])),[]⟩):=by
  have hz:∃Z,Qa 20 (Value.int .u64 0)=ns .u64 Z/\Z.length=20:=⟨Qa 20 0,rfl,rfl⟩
  obtain⟨Z,hz,l0⟩:=hz
  have e1:((i:Int)<(n:Int))=True:=wf
  have w3:IntKind.i64.wrap ((i:Int)+1)=((i+1:Nat):Int):=ZB (n:=i+1) qr
  simp only[Fh,Qr,quiet,cF,JJ,QZ,↓pQ,reduceCtorEq,seval,-Qb,cL,cJ,Zb,hz,hA,hcs,hlen,hm,Qy,Q5,Za,Q6,Q8,l0,l1,l2,l3,l4,QR,e1,w3]
inductive Reps:List (List Nat)->List (Go.Cv.Pt Go.Fp.P Go.Fp.d)->Prop
 |nil:Reps [] []
 |cons {x xs p ps}:RepL x p->Reps xs ps->Reps (x::xs) (p::ps)
theorem Reps.len{xs:List (List Nat)}{ps:List (Go.Cv.Pt Go.Fp.P Go.Fp.d)}(h:Reps xs ps):xs.length=ps.length:=by
 induction h with
 |nil=>rfl
 |cons _ _ ih=>simp[ih]
theorem Reps.all{xs:List (List Nat)}{ps:List (Go.Cv.Pt Go.Fp.P Go.Fp.d)}(h:Reps xs ps):∀x∈xs,x.length=20:=by
 induction h with
 |nil=>simp
 |cons h _ ih=>intro y hy;rcases Jr.1 hy with rfl|hy;exact h.len;exact ih y hy
theorem Reps.get{xs:List (List Nat)}{ps:List (Go.Cv.Pt Go.Fp.P Go.Fp.d)}(h:Reps xs ps):∀ {i:Nat} {x:List Nat},xs[i]?=some x->∃p,ps[i]?=some p/\RepL x p:=by
 induction h with
 |nil=>intro i x h;simp at h
 |cons h _ ih =>
  intro i x hx
  cases i with
  |zero=>simp at hx;subst hx;exact⟨_,rfl,h⟩
  |succ i=>simp at hx;simpa using ih hx
theorem o9:∀(ys:List (List Nat)),(∀x∈ys,x.length=20)->ys.flatten.length=ys.length*20:=by
 intro ys hy
 induction ys with
 |nil=>rfl
 |cons y ys ih =>
  rw[QO,Qj,ih (fun x hx=>hy x (by simp[hx])),(hy y wd),Zv];omega
theorem uI{xs:List (List Nat)}{ps:List (Go.Cv.Pt Go.Fp.P Go.Fp.d)}(hn:xs.length=n)(hN:n<100)(hx:Reps xs ps)(h:H[id]?=some {c:=ns .u64 xs.flatten}) :
  ∃r d,Z6 T 67 [.slice id n n] H=some (eV r,H++({c:=ns .u64 r}::{c:=ns .u64 r}::{c:=ns .u64 d}::xs.map fun x=>({c:=ns .u64 x}:Ob)),[])/\RepL r (ps.foldl JH XM):=by
 have hid:id<H.length:=(Qg.1 h).1
 have hA:∀l,(H++l)[id]?=some {c:=ns .u64 xs.flatten}:=fun l=>by rw[Qc hid];exact h
 obtain⟨d,hd,Ed,fd⟩:=CL
 obtain⟨z,hz,Ez⟩:=PU
 have hZ:∃Z,Qa 20 (Value.int .u64 0)=ns .u64 Z/\Z.length=20:=⟨Qa 20 0,rfl,rfl⟩
 obtain⟨Z,hZ,l0⟩:=hZ
 obtain⟨st,hb,r,rfl,hr1⟩:=Zh (T:=T) (base:=H.length) (id:=0) (body:=Fh)
  (fun i st=>∃r:List Nat,st=⟨[(2,.pointer H.length),(3,.pointer (H.length+1:Nat)),(4,.pointer (H.length+2:Nat)),(9,.slice id n n),(10,.int .i64 n),(11,.int .i64 (i:Nat))],H++({c:=ns .u64 Z}::{c:=ns .u64 r}::{c:=ns .u64 d}::((xs.take i).map fun x=>({c:=ns .u64 x}:Ob))),[]⟩/\RepL r ((ps.take i).foldl JH XM))
  (Q:=fun st=>∃r:List Nat,st=⟨[(2,.pointer H.length),(3,.pointer (H.length+1:Nat)),(4,.pointer (H.length+2:Nat)),(9,.slice id n n),(10,.int .i64 n),(11,.int .i64 n),(12,.bool false)],H++({c:=ns .u64 Z}::{c:=ns .u64 r}::{c:=ns .u64 d}::(xs.map fun x=>({c:=ns .u64 x}:Ob))),[]⟩/\RepL r (ps.foldl JH XM))
  n (s:=⟨[(2,.pointer H.length),(3,.pointer (H.length+1:Nat)),(4,.pointer (H.length+2:Nat)),(9,.slice id n n),(10,.int .i64 n),(11,.int .i64 0)],H++[{c:=ns .u64 Z},{c:=ns .u64 z},{c:=ns .u64 d}],[]⟩) ⟨z,rfl,Ez⟩
  (fun i st hi hs=>by
   obtain⟨r,rfl,hr1⟩:=hs
   obtain⟨x,hxi⟩:∃y,xs[i]?=some y:=⟨_,Qf qr⟩
   obtain⟨p,hpi,hxe⟩:=hx.get hxi
   obtain⟨r',hm,g1⟩:=vh hr1 hxe Ed fd
   have hsplit:xs=xs.take i++x::xs.drop (i+1):=by
    have h1:=Qg.1 hxi
    conv=>lhs;rw[<-Zn i xs,Jp h1.1,h1.2]
   have htl:(xs.take i).flatten.length=i*20:=by
    rw[o9 _ (fun y hy=>hx.all y (QP hy)),Q3,Zw qr]
   have hcs:((ns .u64 xs.flatten).drop (i*20)).take 20=ns .u64 x:=by
    conv=>lhs;rw[hsplit,Jd,QO]
    exact wx hxe.len htl
   have hb:=gW (R:={c:=ns .u64 Z}) (g:=(xs.take i).map fun x=>({c:=ns .u64 x}:Ob)) (l:=[]) hi hN hxe.len hr1.len Ed.len hm g1.len hA hcs (by rw[Q8,o9 xs hx.all,hn];omega)
   have htk:xs.take (i+1)=xs.take i++[x]:=by rw[Zx,hxi];rfl
   have htp:ps.take (i+1)=ps.take i++[p]:=by rw[Zx,hpi];rfl
   refine⟨_,hb,r',?_,?_⟩
   ·rw[htk,Vc];rfl
   ·rw[htp,List.foldl_append];exact g1)
  (fun st hs=>by
   obtain⟨r,rfl,hr1⟩:=hs
   have e1:((n:Int)<(n:Int))=False:=wr
   have ht:xs.take n=xs:=Qm qr
   have ht2:ps.take n=ps:=Qm (by have:=hx.len;omega)
   rw[ht2]at hr1
   rw[ht]
   refine⟨_,?_,r,rfl,hr1⟩
   simp only[Fh,Qr,quiet,cF,JJ,QZ,↓pQ,reduceCtorEq,seval,-Qb,cL,e1])
 refine⟨r,d,?_,hr1⟩
 have l1:=hr1.len
 have l2:=Ez.len
 have l3:=Ed.len
 rw[QY (fn:=a27) rfl]
 have hz5:Qa 5 (Value.int .u64 0)=ns .u64 [0,0,0,0,0]:=rfl
 have l5:([0,0,0,0,0]:List Nat).length=5:=rfl
 simp only[a27,Qr,quiet,cF,JJ,QZ,↓pQ,reduceCtorEq,seval,-Qb,cL,cJ,Zb,hZ,hz5,l5,hd,hz,hb,Qy,Q5,Za,Q6,Q8,l0,l1,l2,l3,QR]
theorem fold2:[p,q].foldl JH XM=JH p q:=by
 show JH (JH XM p) q=_
 rw[show JH XM p=p from Go.Cv.zero_add Go.Fp.fld p]
def U7(u v:Go.Fp.Fe):Go.Fp.Fe:=u*(v*v*v)*Go.Fp.pow (u*(v*v*v)*(v*v*v)*v) (2^252-1-2)
def jj:Go.Fp.Fe:=Go.Fp.pow 2 (2^253-1-4)
theorem jj_eq:jj=Go.Fp.iQ:=by
 show Go.Fp.pow (Go.Fp.fp 2) _=Go.Fp.fp Go.Fp.iN
 exact Go.Fp.Cg (f:=256) (by decide +kernel) (by decide +kernel)
theorem jj_sq:jj*jj = -1:=by rw[jj_eq];exact Go.Fp.Ss
theorem quarter:(2^252-1-2)+(2^252-1-2)+1+((2^252-1-2)+(2^252-1-2)+1)=(Go.Fp.P-1)/2:=by rw[Go.Fp.Hu]
theorem s9{u v s:Go.Fp.Fe}(h1:v*U7 u v*U7 u v≠u)(h2:v*U7 u v*U7 u v ≠ -u):v*(s*s)≠u:=fun hs=>by
 have F:=Go.Fp.fld
 obtain⟨g,hg⟩:∃g,g=v*v*v*v*s:=⟨_,rfl⟩
 have ht:u*(v*v*v)*(v*v*v)*v=g*g:=by subst hg;subst hs;grobner
 rcases Go.Fp.Ch g with h|h
 ·obtain⟨k,hk⟩:∃k,k=2^252-1-2:=⟨_,rfl⟩
  have hq:=quarter
  rw[<-hk]at hq
  rw[<-hq,Go.Fp.pow_add,Go.Fp.pow_add,Go.Fp.pow_add,Go.Fp.pow_one]at h
  have hw:U7 u v=u*(v*v*v)*Go.Fp.pow (g*g) k:=by unfold U7;rw[ht,hk]
  rw[hw]at h1 h2
  generalize Go.Fp.pow (g*g) k=q at *
  have he:(q*q*(g*g)-1)*(q*q*(g*g)+1)=0:=by clear h1 h2 hw ht hg hs;grobner
  have hv:v*(u*(v*v*v)*q)*(u*(v*v*v)*q)=u*(q*q*(g*g)):=by clear h1 h2 hw hg hs he h;grobner
  rcases F.dom he with h|h
  ·exact h1 (by rw[hv];clear h1 h2 hw ht hg hs he hv;grobner)
  ·exact h2 (by rw[hv];clear h1 h2 hw ht hg hs he hv;grobner)
 ·have hu:u*(v*v*v)*(v*v*v)*v=0:=by rw[ht,h];grobner
  have hu0:u=0:=by
   rcases F.dom hu with h0|h0
   ·rcases F.dom h0 with h0|h0
    ·rcases F.dom h0 with h0|h0
     ·exact h0
     ·rcases F.dom h0 with h0|h0
      ·rcases F.dom h0 with h0|h0<;>(rw[<-hs,h0];grobner)
      ·rw[<-hs,h0];grobner
    ·rcases F.dom h0 with h0|h0
     ·rcases F.dom h0 with h0|h0<;>(rw[<-hs,h0];grobner)
     ·rw[<-hs,h0];grobner
   ·rw[<-hs,h0];grobner
  exact h1 (by unfold U7;rw[hu0];grobner)
theorem sd:evVal T 176 [.int .i64 252,.int .u8 2]=some (.agg (u8s (dig 256 32 (2^252-1-2))).toArray):=SP (n:=252) (less:=2) ww ww ww
theorem rZ:evVal T 176 [.int .i64 253,.int .u8 4]=some (.agg (u8s (dig 256 32 (2^253-1-4))).toArray):=SP (n:=253) (less:=4) ww ww ww
def NP(r:List Nat)(ok:Bool):Value := .tuple #[eV r,.bool ok]
theorem vW{u v:List Nat}(Eu:El u (2^52))(Ev:El v (2^52)) :
  ∃r ok,evVal T 121 [eV u,eV v]=some (NP r ok)/\El r (2^52)/\(ok=true->fe v*(fe r*fe r)=fe u/\((fe r).val%2=0\/fe r=0))/\(ok=false->∀s,fe v*(s*s)≠fe u):=by
 obtain⟨r1,hr1,Er1,fr1⟩:=UA (H:=[{c:=ns .u64 u},{c:=ns .u64 v},{c:=ns .u64 [0,0,0,0,0]},{c:=ns .u64 [v,v,v].flatten}]) (id:=3) (n:=3) (xs:=[v,v,v]) rfl ww (by intro w hw;simp only[Jr,JL,or_false]at hw;rcases hw with rfl|rfl|rfl<;>assumption) rfl
 simp only[JC,Xv,Qn,Ql]at hr1
 simp only[JC,Xv,Xy,VD]at fr1
 obtain⟨r2,hr2,Er2,fr2⟩:=UA (H:=[{c:=ns .u64 u},{c:=ns .u64 v},{c:=ns .u64 [0,0,0,0,0]},{c:=ns .u64 [v,v,v].flatten},{c:=ns .u64 r1},{c:=ns .u64 r1},{c:=ns .u64 v},{c:=ns .u64 v},{c:=ns .u64 v},{c:=ns .u64 r1},{c:=ns .u64 [u,r1,r1,v].flatten}]) (id:=10) (n:=4) (xs:=[u,r1,r1,v]) rfl ww (by intro w hw;simp only[Jr,JL,or_false]at hw;rcases hw with rfl|rfl|rfl|rfl<;>assumption) rfl
 simp only[JC,Xv,Qn,Ql]at hr2
 simp only[JC,Xv,Xy,VD]at fr2
 obtain⟨r3,hr3,Er3,fr3⟩:=DP (n:=252) (less:=2) Er2 ww ww ww
 obtain⟨r4,hr4,Er4,fr4⟩:=UA (H:=[{c:=ns .u64 u},{c:=ns .u64 v},{c:=ns .u64 [0,0,0,0,0]},{c:=ns .u64 [v,v,v].flatten},{c:=ns .u64 r1},{c:=ns .u64 r1},{c:=ns .u64 v},{c:=ns .u64 v},{c:=ns .u64 v},{c:=ns .u64 r1},{c:=ns .u64 [u,r1,r1,v].flatten},{c:=ns .u64 r2},{c:=ns .u64 r2},{c:=ns .u64 u},{c:=ns .u64 r1},{c:=ns .u64 r1},{c:=ns .u64 v},{c:=ns .u64 [u,r1,r3].flatten}]) (id:=17) (n:=3) (xs:=[u,r1,r3]) rfl ww (by intro w hw;simp only[Jr,JL,or_false]at hw;rcases hw with rfl|rfl|rfl<;>assumption) rfl
 simp only[JC,Xv,Qn,Ql]at hr4
 simp only[JC,Xv,Xy,VD]at fr4
 obtain⟨r5,hr5,Er5,fr5⟩:=UA (H:=[{c:=ns .u64 u},{c:=ns .u64 v},{c:=ns .u64 [0,0,0,0,0]},{c:=ns .u64 [v,v,v].flatten},{c:=ns .u64 r1},{c:=ns .u64 r1},{c:=ns .u64 v},{c:=ns .u64 v},{c:=ns .u64 v},{c:=ns .u64 r1},{c:=ns .u64 [u,r1,r1,v].flatten},{c:=ns .u64 r2},{c:=ns .u64 r2},{c:=ns .u64 u},{c:=ns .u64 r1},{c:=ns .u64 r1},{c:=ns .u64 v},{c:=ns .u64 [u,r1,r3].flatten},{c:=ns .u64 r4},{c:=ns .u64 r4},{c:=ns .u64 u},{c:=ns .u64 r1},{c:=ns .u64 r3},{c:=ns .u64 r4},{c:=ns .u64 [v,r4,r4].flatten}]) (id:=24) (n:=3) (xs:=[v,r4,r4]) rfl ww (by intro w hw;simp only[Jr,JL,or_false]at hw;rcases hw with rfl|rfl|rfl<;>assumption) rfl
 simp only[JC,Xv,Qn,Ql]at hr5
 simp only[JC,Xv,Xy,VD]at fr5
 have k1:=tG Er5 Eu
 obtain⟨nu,hnu,Enu,fnu⟩:=Iz Eu
 have k2:=tG Er5 Enu
 obtain⟨two,htwo⟩:∃two:List Nat,two=[2,0,0,0,0]:=⟨_,rfl⟩
 have Etwo:El two (2^52):=by rw[htwo];exact iO
 have vtwo:evVal T 106 [.int .u32 2]=some (eV two):=by rw[htwo];exact iJ
 have ftwo:fe two=2:=by rw[htwo];exact Sb
 clear htwo
 obtain⟨j,hj,Ej,fj⟩:=DP (n:=253) (less:=4) Etwo ww ww ww
 obtain⟨q,hq,Eq,fq⟩:=Xk Er4 Ej
 obtain⟨n1,hn1,En1,fn1⟩:=Iz Er4
 obtain⟨n2,hn2,En2,fn2⟩:=Iz Eq
 have o1:=mS Er4
 have o2:=mS Eq
 have c1:=sd
 have c2:=rZ
 have g1:=ID Ev Ev Ev
 have g2:=TN Eu Er1 Er1 Ev
 rw[bT]at g2
 have g3:=ID Eu Er1 Er3
 have g4:=ID Ev Er4 Er4
 have hw:fe r4=U7 (fe u) (fe v):=by
  rw[fr4,fr3,fr1,fr2,fr1];unfold U7
  rw[show(1*fe u*(1*fe v*fe v*fe v)*(1*fe v*fe v*fe v)*fe v)=fe u*(fe v*fe v*fe v)*(fe v*fe v*fe v)*fe v from by grobner]
  generalize Go.Fp.pow _ _=p
  grobner
 have hjj:fe j=jj:=by rw[fj,ftwo];rfl
 have l1:=Eu.len
 have l2:=Ev.len
 have l3:=Er1.len
 have l4:=Er4.len
 have l5:=Er5.len
 have l6:=Eq.len
 have l7:=En1.len
 have l8:=En2.len
 have hz5:Qa 5 (Value.int .u64 0)=ns .u64 [0,0,0,0,0]:=rfl
 have hf5:fillL (ns .u64 [0,0,0,0,0]) []=some (ns .u64 [0,0,0,0,0]):=rfl
 have l0:([0,0,0,0,0]:List Nat).length=5:=rfl
 clear Ej Etwo ftwo fj
 generalize dig 256 32 (2^252-1-2)=K1,dig 256 32 (2^253-1-4)=K2 at *
 have hsq:fe r5=fe v*U7 (fe u) (fe v)*U7 (fe u) (fe v):=by rw[fr5,hw];generalize U7 (fe u) (fe v)=w;grobner
 have evn:∀a:Go.Fp.Fe,a.val%2=1->(-a).val%2=0 \/ -a=0:=by
  intro a ha
  left
  have hlt:=a.isLt
  have h0:(Go.Fp.P-a.val)<Go.Fp.P:=qr
  have h1:(-a).val=(Go.Fp.P-a.val)%Go.Fp.P:=rfl
  rw[h1,Qv h0]
  have hP:Go.Fp.P%2=1:=by rw[Go.Fp.Hu]
  omega
 by_cases hA:fe r5=fe u
 ·rw[decide_eq_true hA]at k1
  have hroot:fe v*(fe r4*fe r4)=fe u:=by rw[<-hA,hsq,hw];generalize U7 (fe u) (fe v)=w;grobner
  by_cases hO:(fe r4).val%2=1
  ·rw[decide_eq_true hO]at o1
   refine⟨n1,true,?_,En1,fun _=>⟨?_,?_⟩,fun h=>by cases h⟩
   ·apply QE (fn:=a60) rfl
    simp only[a60,Qr,quiet,cW,↓pW,reduceCtorEq,seval,-Qb,hz5,hf5,l0,g1,g2,g3,g4,c1,c2,hr1,hr2,hr3,hr4,hr5,k1,o1,hn1,l1,l2,l3,l4,l5,l7,Qe,Qx,Qy,Q5,Za,Q6,Q8,QR]
    rfl
   ·rw[fn1,<-hroot];generalize fe r4=w;grobner
   ·rw[fn1];exact evn _ hO
  ·rw[decide_eq_false hO]at o1
   refine⟨r4,true,?_,Er4,fun _=>⟨hroot,by left;omega⟩,fun h=>by cases h⟩
   apply QE (fn:=a60) rfl
   simp only[a60,Qr,quiet,cW,↓pW,reduceCtorEq,seval,-Qb,hz5,hf5,l0,g1,g2,g3,g4,c1,c2,hr1,hr2,hr3,hr4,hr5,k1,o1,hn1,l1,l2,l3,l4,l5,l7,Qe,Qx,Qy,Q5,Za,Q6,Q8,QR]
   rfl
 ·rw[decide_eq_false hA]at k1
  by_cases hB:fe r5=fe nu
  ·rw[decide_eq_true hB]at k2
   have hroot:fe v*(fe q*fe q)=fe u:=by
    have hs:=jj_sq
    rw[hsq,fnu]at hB
    rw[fq,hw,hjj]
    generalize U7 (fe u) (fe v)=w at *
    clear k1 k2 o1 o2 c1 c2 hA hsq hw fr1 fr2 fr3 fr4 fr5
    grobner
   by_cases hO:(fe q).val%2=1
   ·rw[decide_eq_true hO]at o2
    refine⟨n2,true,?_,En2,fun _=>⟨?_,?_⟩,fun h=>by cases h⟩
    ·apply QE (fn:=a60) rfl
     simp only[a60,Qr,quiet,cW,↓pW,reduceCtorEq,seval,-Qb,hz5,hf5,l0,g1,g2,g3,g4,c1,c2,hr1,hr2,hr3,hr4,hr5,k1,k2,hnu,vtwo,hj,hq,o2,hn2,l1,l2,l3,l4,l5,l6,l8,Qe,Qx,Qy,Q5,Za,Q6,Q8,QR]
     rfl
    ·rw[fn2,<-hroot];generalize fe q=w;grobner
    ·rw[fn2];exact evn _ hO
   ·rw[decide_eq_false hO]at o2
    refine⟨q,true,?_,Eq,fun _=>⟨hroot,by left;omega⟩,fun h=>by cases h⟩
    apply QE (fn:=a60) rfl
    simp only[a60,Qr,quiet,cW,↓pW,reduceCtorEq,seval,-Qb,hz5,hf5,l0,g1,g2,g3,g4,c1,c2,hr1,hr2,hr3,hr4,hr5,k1,k2,hnu,vtwo,hj,hq,o2,hn2,l1,l2,l3,l4,l5,l6,l8,Qe,Qx,Qy,Q5,Za,Q6,Q8,QR]
    rfl
  ·rw[decide_eq_false hB]at k2
   refine⟨[0,0,0,0,0],false,?_,AD,fun h=>(by cases h),fun _ s=>s9 (by rw[<-hsq];exact hA) (by rw[<-hsq,<-fnu];exact hB)⟩
   apply QE (fn:=a60) rfl
   simp only[a60,Qr,quiet,cW,↓pW,reduceCtorEq,seval,-Qb,hz5,hf5,l0,g1,g2,g3,g4,c1,c2,hr1,hr2,hr3,hr4,hr5,k1,k2,hnu,l1,l2,l3,l4,l5,Qe,Qx,Qy,Q5,Za,Q6,Q8,QR]
   rfl
end Go.Ev.YtoipgdjfhahimaaGreat
namespace Go.Ev.YtoipgdjfhahimaaGreat
open Go Go.Ev
attribute [local congr] JE JW JD JX Jz
set_option maxRecDepth 100000
variable{i n x a b r:Nat}{k L o:List Nat}{p q:Go.Cv.Pt Go.Fp.P Go.Fp.d}
structure Jac where
 x:Nat
 y:Nat
 z:Nat
 t:Nat
structure JRep(a:Jac)(p:Go.Cv.Pt Go.Fp.P Go.Fp.d):Prop where
 nz:Go.Fp.fp a.z≠0
 x:Go.Fp.fp a.x=p.x*Go.Fp.fp a.z
 y:Go.Fp.fp a.y=p.y*Go.Fp.fp a.z
 t:Go.Fp.fp a.t=p.x*p.y*Go.Fp.fp a.z
def OC(a b:Nat):Nat:=a+(Go.Fp.P-b%Go.Fp.P)
theorem HW(a b:Nat):Go.Fp.fp (OC a b)=Go.Fp.fp a-Go.Fp.fp b:=by
 unfold OC
 have h:b%Go.Fp.P<=Go.Fp.P:=J0 (Q9 _ (by rw[Go.Fp.Hu];decide))
 rw[Go.Fp.Vx,Go.Fp.ow h,Go.Fp.xC,Go.Fp.YO]
 grobner
def CF(a b:Jac):Nat:=OC a.y a.x*OC b.y b.x%Go.Fp.P
def CE(a b:Jac):Nat:=(a.y+a.x)*(b.y+b.x)%Go.Fp.P
def CC(a b:Jac):Nat:=1*2*Go.Fp.dN*a.t*b.t%Go.Fp.P
def C9(a b:Jac):Nat:=1*2*a.z*b.z%Go.Fp.P
def jfin(a b c e:Nat):Jac:=⟨OC b a*OC e c%Go.Fp.P,(e+c)*(b+a)%Go.Fp.P,OC e c*(e+c)%Go.Fp.P,OC b a*(b+a)%Go.Fp.P⟩
def OQ(a b:Jac):Jac:=jfin (CF a b) (CE a b) (CC a b) (C9 a b)
theorem JRep.add{a b:Jac}{p q:Go.Cv.Pt Go.Fp.P Go.Fp.d}(h1:JRep a p)(h2:JRep b q):JRep (OQ a b) (JH p q):=by
 have ha:Go.Fp.fp (CF a b)=(Go.Fp.fp a.y-Go.Fp.fp a.x)*(Go.Fp.fp b.y-Go.Fp.fp b.x):=by
  unfold CF;rw[Go.Fp.YO,Go.Fp.Kg,HW,HW]
 have hb:Go.Fp.fp (CE a b)=(Go.Fp.fp a.y+Go.Fp.fp a.x)*(Go.Fp.fp b.y+Go.Fp.fp b.x):=by
  unfold CE;rw[Go.Fp.YO,Go.Fp.Kg,Go.Fp.Vx,Go.Fp.Vx]
 have hc:Go.Fp.fp (CC a b)=1*2*Go.Fp.d*Go.Fp.fp a.t*Go.Fp.fp b.t:=by
  unfold CC;rw[Go.Fp.YO,Go.Fp.Kg,Go.Fp.Kg,Go.Fp.Kg,Go.Fp.Kg,Go.Fp.LQ,Go.Fp.ov];rfl
 have hd:Go.Fp.fp (C9 a b)=1*2*Go.Fp.fp a.z*Go.Fp.fp b.z:=by
  unfold C9;rw[Go.Fp.YO,Go.Fp.Kg,Go.Fp.Kg,Go.Fp.Kg,Go.Fp.LQ,Go.Fp.ov]
 have hx:Go.Fp.fp (OQ a b).x=(Go.Fp.fp (CE a b)-Go.Fp.fp (CF a b))*(Go.Fp.fp (C9 a b)-Go.Fp.fp (CC a b)):=by
  show Go.Fp.fp (_%_)=_;rw[Go.Fp.YO,Go.Fp.Kg,HW,HW]
 have hy:Go.Fp.fp (OQ a b).y=(Go.Fp.fp (C9 a b)+Go.Fp.fp (CC a b))*(Go.Fp.fp (CE a b)+Go.Fp.fp (CF a b)):=by
  show Go.Fp.fp (_%_)=_;rw[Go.Fp.YO,Go.Fp.Kg,Go.Fp.Vx,Go.Fp.Vx]
 have hz:Go.Fp.fp (OQ a b).z=(Go.Fp.fp (C9 a b)-Go.Fp.fp (CC a b))*(Go.Fp.fp (C9 a b)+Go.Fp.fp (CC a b)):=by
  show Go.Fp.fp (_%_)=_;rw[Go.Fp.YO,Go.Fp.Kg,Go.Fp.Vx,HW]
 have ht:Go.Fp.fp (OQ a b).t=(Go.Fp.fp (CE a b)-Go.Fp.fp (CF a b))*(Go.Fp.fp (CE a b)+Go.Fp.fp (CF a b)):=by
  show Go.Fp.fp (_%_)=_;rw[Go.Fp.YO,Go.Fp.Kg,Go.Fp.Vx,HW]
 obtain⟨g1,g2,g3,g4⟩:=Il h1.x h1.y h1.t h2.x h2.y h2.t ha hb hc hd hx hy hz ht (Go.Cv.DA Go.Fp.fld p q) (Go.Cv.BM Go.Fp.fld p q)
 refine⟨?_,g1,g2,g3⟩
 rw[g4]
 have F:=Go.Fp.fld
 have w:=F.mul_ne (F.mul_ne F.two h1.nz) h2.nz
 exact F.mul_ne (F.mul_ne w w) (F.mul_ne (F.denM p.on q.on) (F.denP p.on q.on))
def fo(p:Jac):Nat->Nat->Jac
 |0,_=>⟨0,1,1,0⟩
 |f+1,k=>(fun r=>if k%2=1 then OQ (OQ r r) p else OQ r r) (fo p f (k/2))
theorem JRep.mul{a:Jac}{p:Go.Cv.Pt Go.Fp.P Go.Fp.d}(h:JRep a p):∀ {f k:Nat},k<2^f->JRep (fo a f k) (ZQ k p)
 |0,k,hk=>by
  have:k=0:=qr
  subst this
  exact⟨Go.Fp.Y4,by show(0:Go.Fp.Fe)=0*1;grobner,by show(1:Go.Fp.Fe)=1*1;grobner,by show(0:Go.Fp.Fe)=0*1*1;grobner⟩
 |f+1,k,hk=>by
  have ih:=JRep.mul h (f:=f) (k:=k/2) qr
  have hb:=Q9 k (by decide:0<2)
  have e:ZQ k p=ZQ (2*(k/2)+k%2) p:=by rw[Z5]
  rw[e,Ij p (k/2) (k%2) hb]
  simp only[fo]
  split
  ·exact(ih.add ih).add h
  ·exact ih.add ih
def cn:Jac:=⟨bxN,byN,1,bxN*byN%Go.Fp.P⟩
theorem I6:JRep cn JZ:=by
 have h1:Go.Fp.fp 1=(1:Go.Fp.Fe):=rfl
 refine⟨Go.Fp.Y4,?_,?_,?_⟩
 ·show Go.Fp.fp bxN=Go.Fp.fp bxN*Go.Fp.fp 1;rw[h1];grobner
 ·show Go.Fp.fp byN=Go.Fp.fp byN*Go.Fp.fp 1;rw[h1];grobner
 ·show Go.Fp.fp (bxN*byN%Go.Fp.P)=Go.Fp.fp bxN*Go.Fp.fp byN*Go.Fp.fp 1;rw[h1,Go.Fp.YO,Go.Fp.Kg];grobner
theorem aL:ZQ 8 JZ≠XM:=fun h=>by
 have r:=I6.mul (f:=4) (k:=8) ww
 rw[h]at r
 have hx:=r.x
 rw[show(XM:Go.Cv.Pt Go.Fp.P Go.Fp.d).x=0 from rfl]at hx
 have h0:Go.Fp.fp (fo cn 4 8).x=Go.Fp.fp 0:=by rw[hx];show _=(0:Go.Fp.Fe);grobner
 have h1:=Go.Fp.TM.1 h0
 have h2:(fo cn 4 8).x%Go.Fp.P≠0%Go.Fp.P:=by decide +kernel
 exact h2 h1
theorem nL{a:Jac}(r:JRep a q)(c1:a.x%Go.Fp.P=0%Go.Fp.P)(c2:a.y%Go.Fp.P=a.z%Go.Fp.P):q=XM:=by
 have d1:=Go.Fp.TM.2 c1
 have d2:=Go.Fp.TM.2 c2
 have F:=Go.Fp.fld
 have hx:=r.x
 have hy:=r.y
 have hz:=r.nz
 rw[d1]at hx
 rw[d2]at hy
 generalize Go.Fp.fp a.z=z at *
 apply Go.Cv.Pt.ext
 ·show _=(0:Go.Fp.Fe)
  have h0:Go.Fp.fp 0=(0:Go.Fp.Fe):=rfl
  rw[h0]at hx
  refine F.cancel hz ?_
  generalize q.x=w at *
  clear r hy d1 d2
  grobner
 ·show _=(1:Go.Fp.Fe)
  refine F.cancel hz ?_
  generalize q.y=w at *
  clear r hx d1 d2
  grobner
def cQ(a:Jac):Bool:=Nat.beq (a.x%Go.Fp.P) 0&&Nat.beq (a.y%Go.Fp.P) (a.z%Go.Fp.P)
theorem oM:cQ (fo cn 253 ell)=true:=by decide +kernel
theorem Pj:ZQ ell JZ=XM:=by
 have h:=oM
 simp only[cQ,ZY]at h
 exact nL (I6.mul (f:=253) (k:=ell) (by decide +kernel)) (Nat.eq_of_beq_eq_true h.1) (Nat.eq_of_beq_eq_true h.2)
theorem L0{a:Go.Fp.Fe}(h0:a≠0):(-a).val%2≠a.val%2:=by
 have hlt:=a.isLt
 have hne:a.val≠0:=fun h=>h0 (Fin.ext h)
 have h1:(-a).val=(Go.Fp.P-a.val)%Go.Fp.P:=rfl
 have h2:(Go.Fp.P-a.val)<Go.Fp.P:=qr
 rw[h1,Qv h2]
 have hP:Go.Fp.P%2=1:=by rw[Go.Fp.Hu]
 omega
theorem bD{a b:Go.Fp.Fe}(h:a*a=b*b):a=b\/a = -b:=by
 have F:=Go.Fp.fld
 have:(a-b)*(a+b)=0:=by grobner
 rcases F.dom this with h1|h1
 ·left;clear h this;grobner
 ·right;clear h this;grobner
theorem wD(dd z:Go.Fp.Fe)(hz:z=0):dd*(z*z)+1=1:=by grobner
theorem aN(y:Go.Fp.Fe):Go.Fp.d*(y*y)+1≠0:=fun h=>by
 have F:=Go.Fp.fld
 have hy:y≠0:=by
  intro h0
  rw[wD _ _ h0]at h
  exact Go.Fp.Y4 h
 have hi:=Go.Fp.KS hy
 have hr:=Go.Fp.Ss
 apply Go.Fp.nosq (Go.Fp.iQ*Go.Fp.iv y)
 generalize Go.Fp.d=dd at *
 generalize Go.Fp.iQ=ii at *
 generalize Go.Fp.iv y=w at *
 clear F hy
 have e1:dd*(y*w)*(y*w)+w*w=0:=by
  have:dd*(y*w)*(y*w)+w*w=(dd*(y*y)+1)*(w*w):=by clear h hi hr;grobner
  rw[this,h];clear this h hi hr;grobner
 rw[hi]at e1
 have e2:ii*w*(ii*w)=(ii*ii)*(w*w):=by clear h hi hr e1;grobner
 rw[e2,hr]
 clear h hi hr e2
 grobner
theorem qj(p:Go.Cv.Pt Go.Fp.P Go.Fp.d):(Go.Fp.d*(p.y*p.y)+1)*(p.x*p.x)=p.y*p.y-1:=by
 have h:=p.on
 unfold Go.Cv.On at h
 generalize Go.Fp.d=dd at *
 generalize p.x=x at *
 generalize p.y=y at *
 grobner
theorem oL{q:Go.Cv.Pt Go.Fp.P Go.Fp.d}(h:MW p=MW q):p=q:=by
 unfold MW at h
 have h1:=GF p.y
 have h2:=GF q.y
 have h3:=Q9 p.x.val (by decide:0<2)
 have h4:=Q9 q.x.val (by decide:0<2)
 have hy:p.y.val=q.y.val:=qr
 have hx:p.x.val%2=q.x.val%2:=qr
 have hy':p.y=q.y:=Fin.ext hy
 have e1:=qj p
 have e2:=qj q
 rw[hy',<-e2]at e1
 have e3:=Go.Fp.fld.cancel (aN q.y) e1
 refine Go.Cv.Pt.ext ?_ hy'
 rcases bD e3 with h|h
 ·exact h
 ·by_cases h0:q.x=0
  ·rw[h,h0];grobner
  ·exfalso
   have:=L0 h0
   rw[<-h]at this
   exact this hx
theorem MV(p q:Go.Cv.Pt Go.Fp.P Go.Fp.d):(enc p==enc q)=decide (p=q):=by
 unfold enc
 rw[key_inj (LS p) (LS q)]
 by_cases h:p=q
 ·subst h;rw[decide_eq_true rfl,decide_eq_true rfl]
 ·rw[decide_eq_false h,decide_eq_false (fun e=>h (oL e))]
theorem xG{a b:List Nat}(ha:RepL a p)(hb:RepL b q):fillL (Qa 40 (Value.int .u64 0)) [(0,20,eV a),(20,20,eV b)]=some (ns .u64 [a,b].flatten):=by
 obtain⟨x1,y1,z1,t1,rfl,h1⟩:=ha
 obtain⟨x2,y2,z2,t2,rfl,h2⟩:=hb
 obtain⟨a0,a1,a2,a3,a4,rfl,-⟩:=h1.ex.five
 obtain⟨b0,b1,b2,b3,b4,rfl,-⟩:=h1.ey.five
 obtain⟨c0,c1,c2,c3,c4,rfl,-⟩:=h1.ez.five
 obtain⟨d0,d1,d2,d3,d4,rfl,-⟩:=h1.et.five
 obtain⟨e0,e1,e2,e3,e4,rfl,-⟩:=h2.ex.five
 obtain⟨f0,f1,f2,f3,f4,rfl,-⟩:=h2.ey.five
 obtain⟨g0,g1,g2,g3,g4,rfl,-⟩:=h2.ez.five
 obtain⟨i0,i1,i2,i3,i4,rfl,-⟩:=h2.et.five
 rfl
theorem Bz(p q:Go.Cv.Pt Go.Fp.P Go.Fp.d):JH p q=JH q p:=Go.Cv.add_comm Go.Fp.fld p q
theorem Uf(p q r:Go.Cv.Pt Go.Fp.P Go.Fp.d):JH (JH p q) r=JH p (JH q r):=Go.Cv.add_assoc Go.Fp.fld p q r
theorem cN(lk:k.length=32)(xk:∀x∈k,x<256):enc p=k↔MW p=num 256 k:=by
 have h1:=num_lt xk
 rw[lk]at h1
 have h2:=WD (by decide:0<256) xk
 rw[lk]at h2
 constructor
 ·intro h
  have:=XJ (B:=256) ww 32 (MW p)
  rw[Qv (LS p)]at this
  rw[<-this,<-h];rfl
 ·intro h
  unfold enc
  rw[h,h2]
theorem IG{V:Nat}:MW p=V↔p.y.val=V%2^255/\p.x.val%2=V/2^255:=by
 have h1:=GF p.y
 have h3:=Q9 p.x.val (by decide:0<2)
 unfold MW
 constructor
 ·intro h;omega
 ·rintro⟨h,h'⟩;rw[h,h',Zm,Nat.mod_add_div]
theorem mE{u v x y:Go.Fp.Fe}(hu:u=y*y-1)(hv:v=Go.Fp.d*(y*y)+1)(h:v*(x*x)=u):Go.Cv.On Go.Fp.d x y:=by
 unfold Go.Cv.On
 generalize Go.Fp.d=dd at *
 subst hu hv
 grobner
theorem cg(lk:k.length=32)(xk:∀x∈k,x<256):∃w,k[31]?=some w/\w<256/\w/128=num 256 k/2^255/\num 256 (k.set 31 (w&&&127))=num 256 k%2^255/\(∀x∈k.set 31 (w&&&127),x<256)/\(k.set 31 (w&&&127)).length=32:=by
 obtain⟨w,hw⟩:∃w,k[31]?=some w:=⟨_,Qf qr⟩
 have hw':w<256:=xk w (Qo hw)
 have hV:=num_lt xk
 rw[lk]at hV
 have hg:=Kv (by decide:0<256) xk hw
 have hs:=V6 (B:=256) (w&&&127) hw
 have ha:w&&&127=w%128:=VC w 7
 refine⟨w,hw,hw',?_⟩
 rw[ha]at hs ⊢
 have e31:(256:Nat)^31=452312848583266388373324160190187140051835877600158453279131187530910662656:=ww
 have e32:(256:Nat)^32=115792089237316195423570985008687907853269984665640564039457584007913129639936:=ww
 have e255:(2:Nat)^255=57896044618658097711785492504343953926634992332820282019728792003956564819968:=ww
 rw[e31]at hg hs
 rw[e32]at hV
 rw[e255]
 refine⟨by omega,by omega,?_,by rw[Q4];exact lk⟩
 intro x hx
 rcases List.mem_or_eq_of_mem_set hx with h|h
 ·exact xk x h
 ·omega
def Bf(l:List Nat)(c:Int):Value := .tuple #[eV l,.int .i64 c]
theorem Pv(lk:k.length=32)(xk:∀x∈k,x<256) :
  (∃l p,evVal T 63 [.agg (u8s k).toArray]=some (Bf l 0)/\RepL l p/\enc p=k)\/(∃l,evVal T 63 [.agg (u8s k).toArray]=some (Bf l 60)/\l.length=20/\∀p,enc p≠k):=by
 obtain⟨w,hw,hw',ht,hm,xm,lm⟩:=cg lk xk
 have hwc:=Js hw
 have hset:=Xc k 31 (w&&&127)
 have o1:Zr .and .u8 (w:Int) 127=((w&&&127:Nat):Int):=Uu (k := .u8) (a:=w) (b:=127) rfl hw' ww
 have hof:=eI lm xm
 have hcan:=P3 lm xm
 rw[hm]at hof hcan
 rw[Kl]at hof
 have hkey:∀p:Go.Cv.Pt Go.Fp.P Go.Fp.d,enc p=k↔p.y.val=num 256 k%2^255/\p.x.val%2=num 256 k/2^255:=fun p=>by rw[cN lk xk,IG]
 rw[<-ht]at hkey
 have Ey:=O9 (V:=num 256 k%2^255)
 have fy:fe (dig (2^51) 5 (num 256 k%2^255))=Go.Fp.fp (num 256 k%2^255):=by unfold fe;rw[Td]
 generalize k.set 31 (w&&&127)=km at *
 generalize dig (2^51) 5 (num 256 k%2^255)=Y at *
 generalize num 256 k%2^255=V at *
 have hz20:∃O,Qa 20 (Value.int .u64 0)=ns .u64 O/\O.length=20/\fillL (ns .u64 O) []=some (ns .u64 O):=⟨Qa 20 0,rfl,rfl,rfl⟩
 obtain⟨O,hz20,l0,hf0⟩:=hz20
 have l1:=Ey.len
 have hz5:Qa 5 (Value.int .u64 0)=ns .u64 [0,0,0,0,0]:=rfl
 have l5:([0,0,0,0,0]:List Nat).length=5:=rfl
 have hbit:((((w/128:Nat):Int))==1)=decide (w/128=1):=by
  by_cases h:w/128=1
  ·rw[h];rfl
  ·have:¬(((w/128:Nat):Int)=1):=qr
   rw[decide_eq_false h,beq_eq_false_iff_ne.2 this]
 have hshr:((w:Int)/128)=((w/128:Nat):Int):=rfl
 by_cases hV:V<Go.Fp.P
 ·rw[decide_eq_true hV]at hcan
  have hYv:(Go.Fp.fp V).val=V:=Qv hV
  obtain⟨one,hone⟩:∃O:List Nat,O=[1,0,0,0,0]:=⟨_,rfl⟩
  have Eone:El one (2^52):=by rw[hone];exact DT
  have vone:evVal T 106 [.int .u32 1]=some (eV one):=by rw[hone];exact mC
  have fone:fe one=1:=by rw[hone];exact DS
  clear hone
  obtain⟨yy,hyy,Eyy,fyy⟩:=Xk Ey Ey
  obtain⟨D,hD,ED,fD⟩:=CL
  obtain⟨uu,huu,Euu,fuu⟩:=Gm Eyy Eone
  obtain⟨dy,hdy,Edy,fdy⟩:=Xk ED Eyy
  obtain⟨vv,sv,hvv,Evv,fvv⟩:=Y0 (H:=[{c:=u8s km},{c:=ns .u64 O},{c:=ns .u64 Y},{c:=ns .u64 yy},{c:=ns .u64 (dy++one)}]) (id:=4) Edy Eone rfl
  simp only[Qn,Ql]at hvv
  obtain⟨r,ok,hr,Er,hok,hno⟩:=vW Euu Evv
  have hf2:=Uo Edy Eone
  have l6:=Eyy.len
  have l7:=Er.len
  have kz:=nN Er
  obtain⟨nr,hnr,Enr,fnr⟩:=Iz Er
  obtain⟨t1,ht1,Et1,ft1⟩:=Xk Er Ey
  obtain⟨t2,ht2,Et2,ft2⟩:=Xk Enr Ey
  have g1:=TN Er Ey Eone Et1
  have g2:=TN Enr Ey Eone Et2
  rw[hz20]at g1 g2
  have q1:=YJ Er Ey Eone Et1
  have q2:=YJ Enr Ey Eone Et2
  have l8:=Enr.len
  have hu:fe uu=Go.Fp.fp V*Go.Fp.fp V-1:=by rw[fuu,fyy,fy,fone]
  have hv:fe vv=Go.Fp.d*(Go.Fp.fp V*Go.Fp.fp V)+1:=by rw[fvv,fdy,fD,fyy,fy,fone]
  have hyp:∀p:Go.Cv.Pt Go.Fp.P Go.Fp.d,enc p=k->p.y=Go.Fp.fp V:=fun p hp=>Fin.ext (by rw[hYv];exact((hkey p).1 hp).1)
  have hxx:∀p:Go.Cv.Pt Go.Fp.P Go.Fp.d,enc p=k->fe vv*(p.x*p.x)=fe uu:=fun p hp=>by
   have:=qj p
   rw[hyp p hp]at this
   rw[hu,hv];exact this
  have rft:∀b:Bool,rf (Value.tuple #[eV r,.bool b])=true:=fun b=>K9 (a:=eV r) (b := .bool b) (QR r) rfl
  cases ok with
  |false =>
   refine .inr ⟨O,?_,l0,fun p hp=>hno rfl p.x (hxx p hp)⟩
   apply XA
   apply Jg
   rw[QY (fn:=a31) rfl]
   simp only[a31,Qr,quiet,cW,↓pW,reduceCtorEq,seval,-Qb,cU,hz20,hf0,hz5,hwc,hset,o1,hof,hcan,hbit,hshr,vone,hyy,hD,huu,hdy,hf2,hvv,hr,Qe,Qx,Qy,Q5,Za,Q6,Q8,Qq,lk,lm,l0,l1,l5,l6,l7,WX,NP,rft,QR]
   rfl
  |true =>
   obtain⟨hroot,hev⟩:=hok rfl
   have hev':(fe r).val%2=0:=by
    rcases hev with h|h
    ·exact h
    ·rw[h];rfl
   by_cases hb:w/128=1
   ·rw[decide_eq_true hb]at hbit
    by_cases h0:fe r=0
    ·rw[decide_eq_true h0]at kz
     refine .inr ⟨O,?_,l0,fun p hp =>?_⟩
     ·apply XA
      apply Jg
      rw[QY (fn:=a31) rfl]
      simp only[a31,Qr,quiet,cW,↓pW,reduceCtorEq,seval,-Qb,cU,hz20,hf0,hz5,hwc,hset,o1,hof,hcan,hbit,hshr,vone,hyy,hD,huu,hdy,hf2,hvv,hr,Qe,Qx,Qy,Q5,Za,Q6,Q8,Qq,lk,lm,l0,l1,l5,l6,l7,WX,NP,rft,QR,kz]
      rfl
     ·have h2:=((hkey p).1 hp).2
      have h3:=hxx p hp
      rw[<-hroot,h0]at h3
      have h4:p.x*p.x=0*0:=Go.Fp.fld.cancel (by rw[hv];exact aN _) h3
      rcases bD h4 with h5|h5
      ·rw[h5,hb]at h2;exact absurd h2 ww
      ·rw[h5,hb]at h2;exact absurd h2 ww
    ·rw[decide_eq_false h0]at kz
     have hroot':fe vv*(-fe r * -fe r)=fe uu:=by rw[<-hroot];generalize fe r=a;generalize fe vv=b;grobner
     refine .inl ⟨pL nr Y one t2,⟨-fe r,Go.Fp.fp V,mE hu hv hroot'⟩,?_,⟨nr,Y,one,t2,rfl,Enr,Ey,Eone,Et2,by rw[fone];exact Go.Fp.Y4,?_,?_,?_⟩,(hkey _).2 ⟨hYv,?_⟩⟩
     ·generalize pL nr Y one t2=L at *
      apply XA
      apply Jg
      rw[QY (fn:=a31) rfl]
      simp only[a31,Qr,quiet,cW,↓pW,reduceCtorEq,seval,-Qb,cU,hz20,hf0,hz5,hwc,hset,o1,hof,hcan,hbit,hshr,vone,hyy,hD,huu,hdy,hf2,hvv,hr,Qe,Qx,Qy,Q5,Za,Q6,Q8,Qq,lk,lm,l0,l1,l5,l6,l7,WX,NP,rft,QR,kz,hnr,ht2,g2,q2,l8]
      rfl
     ·rw[fnr,fone];show -fe r = -fe r*1;generalize fe r=a;grobner
     ·rw[fy,fone];show Go.Fp.fp V=Go.Fp.fp V*1;generalize Go.Fp.fp V=a;grobner
     ·rw[ft2,fnr,fy,fone];show -fe r*Go.Fp.fp V = -fe r*Go.Fp.fp V*1;generalize Go.Fp.fp V=a;generalize fe r=b;grobner
     ·have:=L0 h0
      rw[hev']at this
      show(-fe r).val%2=_
      rw[hb];omega
   ·rw[decide_eq_false hb]at hbit
    refine .inl ⟨pL r Y one t1,⟨fe r,Go.Fp.fp V,mE hu hv hroot⟩,?_,⟨r,Y,one,t1,rfl,Er,Ey,Eone,Et1,by rw[fone];exact Go.Fp.Y4,?_,?_,?_⟩,(hkey _).2 ⟨hYv,?_⟩⟩
    ·generalize pL r Y one t1=L at *
     apply XA
     apply Jg
     rw[QY (fn:=a31) rfl]
     simp only[a31,Qr,quiet,cW,↓pW,reduceCtorEq,seval,-Qb,cU,hz20,hf0,hz5,hwc,hset,o1,hof,hcan,hbit,hshr,vone,hyy,hD,huu,hdy,hf2,hvv,hr,Qe,Qx,Qy,Q5,Za,Q6,Q8,Qq,lk,lm,l0,l1,l5,l6,l7,WX,NP,rft,QR,ht1,g1,q1]
     rfl
    ·rw[fone];show fe r=fe r*1;generalize fe r=a;grobner
    ·rw[fy,fone];show Go.Fp.fp V=Go.Fp.fp V*1;generalize Go.Fp.fp V=a;grobner
    ·rw[ft1,fy,fone];show fe r*Go.Fp.fp V=fe r*Go.Fp.fp V*1;generalize Go.Fp.fp V=a;generalize fe r=b;grobner
    ·show(fe r).val%2=_
     rw[hev'];omega
 ·rw[decide_eq_false hV]at hcan
  refine .inr ⟨O,?_,l0,fun p hp=>hV ?_⟩
  ·apply XA
   apply Jg
   rw[QY (fn:=a31) rfl]
   simp only[a31,Qr,quiet,cW,↓pW,reduceCtorEq,seval,-Qb,cU,hz20,hf0,hz5,hwc,hset,o1,hof,hcan,hbit,hshr,Qe,Qx,Qy,Q5,Za,Q6,Q8,Qq,lk,lm,l0,l1,l5,QR]
   rfl
  ·rw[<-((hkey p).1 hp).1];exact p.y.isLt
def pf(n:Nat)(L:List Nat)(i:Nat):List Nat:=L.take i++Qa (n-i) 0
theorem Kc(n:Nat)(L:List Nat):pf n L 0=Qa n 0:=by simp[pf]
theorem Ke(h:L.length=n):pf n L n=L:=by simp[pf,<-h]
theorem Kd(h:L.length=n)(hi:i<=n):(pf n L i).length=n:=by simp[pf];omega
theorem XD(h:L.length=n)(hi:i<n)(hx:L[i]?=some x):(pf n L i).set i x=pf n L (i+1):=by
 unfold pf
 rw[ZV _ _ (by simp;omega)]
 have e1:(L.take i).length=i:=by simp;omega
 rw[e1,Q7]
 have e2:n-i=(n-(i+1))+1:=qr
 rw[e2,XC,Wt,Zx,hx]
 simp
structure Nm(l:List Nat):Prop where
 len:l.length=16
 lt:∀x∈l,x<65536
theorem Nm.num_lt{l:List Nat}(h:Nm l):num 65536 l<2^256:=by
 have:=Go.Ev.num_lt h.lt
 rw[h.len]at this
 exact this
theorem Nm.dig(v:Nat):Nm (dig 65536 16 v):=⟨Zg _ _ _,fun x h=>Vy ww h⟩
theorem Nm.eq{l:List Nat}(h:Nm l):l=Go.Ev.dig 65536 16 (num 65536 l):=by
 have:=WD (B:=65536) ww h.lt
 rw[h.len]at this
 exact this.symm
theorem Nm.inj{l m:List Nat}(h:Nm l)(h':Nm m)(e:num 65536 l=num 65536 m):l=m:=by rw[h.eq,h'.eq,e]
theorem VS{v:Nat}(h:v<2^256):num 65536 (dig 65536 16 v)=v:=by
 rw[XJ ww];exact Qv h
def nf(l:List Nat):Go.Fp.Fe:=Go.Fp.fp (num 65536 l)
theorem dr(xk:∀x∈k,x<256){y:Nat}(hx:k[2*i]?=some x)(hy:k[2*i+1]?=some y):num 256 k/65536^i%65536=x+256*y:=by
 have h1:=Kv (B:=256) ww xk hx
 have h2:=Kv (B:=256) ww xk hy
 have e:(65536:Nat)^i=256^(2*i):=by rw[show(65536:Nat)=256^2 from rfl,<-Je]
 rw[e]
 rw[Zj,<-QV]at h2
 omega
def ZP:List Nat:=Qa 16 0
theorem KE:Qa 16 (Value.int .u64 0)=ns .u64 ZP:=rfl
theorem Bn:fillL (ns .u64 ZP) []=some (ns .u64 ZP):=rfl
theorem XI:ZP.length=16:=rfl
theorem wn(h:n<9223372036854775808):IntKind.i64.wrap (n:Int)=n:=ZB h
theorem Kz(h:n<18446744073709551616):IntKind.u64.wrap (n:Int)=n:=by rw[UC,Qv h]
theorem Wf(h:a+b<18446744073709551616):IntKind.u64.wrap ((a:Int)+(b:Int))=((a+b:Nat):Int):=by rw[<-Jm];exact Kz h
theorem U4(h:a*b<18446744073709551616):IntKind.u64.wrap ((a:Int)*(b:Int))=((a*b:Nat):Int):=by rw[<-JN];exact Kz h
theorem Z3(h:a+b<9223372036854775808):IntKind.i64.wrap ((a:Int)+(b:Int))=((a+b:Nat):Int):=by rw[<-Jm];exact wn h
theorem UQ(h:a*b<9223372036854775808):IntKind.i64.wrap ((a:Int)*(b:Int))=((a*b:Nat):Int):=by rw[<-JN];exact wn h
def Su(k o:List Nat)(i:Int)(ex:Env):St:=⟨[(1,.pointer (0:Nat)),(2,.pointer (1:Nat)),(3,.pointer (2:Nat)),(4,.int .i64 i)]++ex,[{c:=u8s k},{c:=ns .u64 ZP},{c:=ns .u64 o}],[]⟩
theorem kL(lk:k.length=32)(xk:∀x∈k,x<256)(hi:i<16) :
  Q0 T 0 EL (Su k (pf 16 (dig 65536 16 (num 256 k)) i) i [])=some (.normal,Su k (pf 16 (dig 65536 16 (num 256 k)) (i+1)) ((i+1:Nat):Int) []):=by
 obtain⟨x,hx⟩:∃x,k[2*i]?=some x:=⟨_,Qf qr⟩
 obtain⟨y,hy⟩:∃y,k[2*i+1]?=some y:=⟨_,Qf qr⟩
 have hx':=xk x (Qo hx)
 have hy':=xk y (Qo hy)
 have hd:=dr xk hx hy
 have hg:(dig 65536 16 (num 256 k))[i]?=some (x+256*y):=by rw[XX hi,hd]
 have hstep:=XD (Zg _ _ _) hi hg
 have hlen:=Kd (Zg 65536 16 (num 256 k)) (J0 hi)
 have hset:=Xt .u64 (pf 16 (dig 65536 16 (num 256 k)) i) i (x+256*y)
 rw[hstep]at hset
 have hxc:=Js hx
 have hyc:=Js hy
 have w1:IntKind.i64.wrap ((i:Int)+1)=((i+1:Nat):Int):=Z3 (b:=1) qr
 have w2:IntKind.i64.wrap (2*(i:Int))=((2*i:Nat):Int):=UQ (a:=2) qr
 have w3:IntKind.i64.wrap (((2*i:Nat):Int)+1)=((2*i+1:Nat):Int):=Z3 (b:=1) qr
 have w4:IntKind.u64.wrap (x:Int)=(x:Int):=Kz qr
 have w5:IntKind.u64.wrap (y:Int)=(y:Int):=Kz qr
 have w6:IntKind.u64.wrap (256*(y:Int))=((256*y:Nat):Int):=U4 (a:=256) qr
 have w7:IntKind.u64.wrap ((x:Int)+((256*y:Nat):Int))=((x+256*y:Nat):Int):=Wf qr
 have e1:((i:Int)<16)=True:=wf
 have e2:(((2*i:Nat):Int)<32)=True:=wf
 have e3:(((2*i+1:Nat):Int)<32)=True:=wf
 have e4:(i<=15)=True:=wf
 generalize pf 16 (dig 65536 16 (num 256 k)) i=o at *
 generalize hj:2*i=j at *
 generalize hj1:j+1=j1 at *
 generalize hv:256*y=v at *
 simp only[Su,EL,Qr,quiet,cW,↓pW,reduceCtorEq,seval,-Qb,hxc,hyc,w1,w2,w3,w4,w5,w6,w7,e1,e2,e3,e4,hset,Q8,hlen]
theorem uZ(lk:k.length=32)(xk:∀x∈k,x<256):evVal T 137 [.agg (u8s k).toArray]=some (eV (dig 65536 16 (num 256 k%2^255))):=by
 have hb:=ZR (T:=T) (base:=0) (id:=0) (body:=EL) (fun i=>Su k (pf 16 (dig 65536 16 (num 256 k)) i) i []) (s':=Su k (dig 65536 16 (num 256 k)) 16 [(7,.bool false)]) 16
  (fun i hi=>kL lk xk hi) (by
   rw[Ke (Zg _ _ _)]
   simp only[Su,EL,Qr,quiet,cK,↓pQ,reduceCtorEq,seval,-Qb,cL])
 rw[Kc]at hb
 have hV:=num_lt xk
 rw[lk]at hV
 have hN:=Nm.dig (num 256 k)
 obtain⟨w,hw⟩:∃w,(dig 65536 16 (num 256 k))[15]?=some w:=⟨_,Qf (by rw[Zg];omega)⟩
 have hw':=hN.lt w (Qo hw)
 have hwv:w=num 256 k/65536^15%65536:=by rw[XX ww]at hw;exact(Xp hw).symm
 have hs:=V6 (B:=65536) (w%32768) hw
 rw[VS hV]at hs
 have hfin:(dig 65536 16 (num 256 k)).set 15 (w%32768)=dig 65536 16 (num 256 k%2^255):=by
  have hNs:Nm ((dig 65536 16 (num 256 k)).set 15 (w%32768)):=⟨by rw[Q4,Zg],VH hN.lt qr⟩
  refine hNs.eq.trans (congrArg (dig 65536 16) ?_)
  have e15:(65536:Nat)^15=1766847064778384329583297500742918515827483896875618958121606201292619776:=ww
  have e255:(2:Nat)^255=57896044618658097711785492504343953926634992332820282019728792003956564819968:=ww
  have e256:(256:Nat)^32=115792089237316195423570985008687907853269984665640564039457584007913129639936:=ww
  have hq:w=num 256 k/65536^15:=by
   rw[e15]at hwv ⊢
   rw[e256]at hV
   omega
  have hq2:num 256 k/2^255=w/32768:=by
   rw[hq,e15,e255]
   omega
  have hdm:=Z5 (num 256 k) (2^255)
  rw[hq2]at hdm
  rw[e15]at hs
  rw[e255]at *
  omega
 have hset:=Xt .u64 (dig 65536 16 (num 256 k)) 15 (w%32768)
 rw[hfin]at hset
 have hwc:=ZJ (k := .u64) hw
 have l1:=Zg 65536 16 (num 256 k)
 have l2:=Zg 65536 16 (num 256 k%2^255)
 have hm:((w:Int).tmod 32768)=((w%32768:Nat):Int):=rfl
 have wm:IntKind.u64.wrap ((w%32768:Nat):Int)=((w%32768:Nat):Int):=Kz qr
 simp only[Su,Qn,Ql,QA]at hb
 have hz:=KE
 have hf:=Bn
 have lz:=XI
 rw[show Qa 16 0=ZP from rfl]at hb
 generalize ZP=Z at *
 generalize dig 65536 16 (num 256 k)=D,dig 65536 16 (num 256 k%2^255)=R at *
 apply QE (fn:=a65) rfl
 simp only[a65,Qr,quiet,cW,↓pW,reduceCtorEq,seval,-Qb,hz,hf,hb,hwc,hm,wm,hset,Qe,Qx,Qy,Q5,Za,Q6,Q8,Qq,lk,l1,l2,lz,QR]
 rfl
theorem Mn(h:b<=a)(ha:a<18446744073709551616):IntKind.u64.wrap ((a:Int)-(b:Int))=((a-b:Nat):Int):=by rw[WU];omega
theorem uX(a n:Nat):Int.tmod (a:Int) (n:Int)=((a%n:Nat):Int):=rfl
theorem Ab{n:Nat}{p q:List Nat}(hp:p.length=n)(hq:q.length=n):JA (Qa n true) (ns .u64 p) (ns .u64 q)=some (p==q):=by
 induction n generalizing p q with
 |zero=>cases p with
  |nil=>cases q with
   |nil=>rfl
   |cons=>cases hq
  |cons=>cases hp
 |succ n ih=>cases p with
  |nil=>cases hp
  |cons a p=>cases q with
   |nil=>cases hq
   |cons b q =>
    have:=ih (p:=p) (q:=q) (by simpa using hp) (by simpa using hq)
    rw[Wi,Wi,XC]
    simp only[JA,this,Hp,if_true,Qp,List.cons_beq_cons]
    congr 2
    by_cases h:a=b
    ·subst h;simp
    ·have h':¬(a:Int)=(b:Int):=qr
     rw[beq_eq_false_iff_ne.2 h,beq_eq_false_iff_ne.2 h']
def KR:List Nat:=dig 65536 16 Go.Fp.P
theorem Y8:Nm KR:=Nm.dig _
theorem Uc:num 65536 KR=Go.Fp.P:=by decide +kernel
def Sr(o:List Nat)(i:Int)(ex:Env):St:=⟨[(0,.pointer (0:Nat)),(1,.pointer (1:Nat)),(2,.int .i64 i)]++ex,[{c:=ns .u64 ZP},{c:=ns .u64 o}],[]⟩
theorem kI(hi:i<16) :
  Q0 T 0 E9 (Sr (pf 16 (Qa 16 65535) i) i [])=some (.normal,Sr (pf 16 (Qa 16 65535) (i+1)) ((i+1:Nat):Int) []):=by
 have hl:(Qa 16 65535).length=16:=rfl
 have hg:(Qa 16 65535)[i]?=some 65535:=by rw[Kx,if_pos hi]
 have hstep:=XD hl hi hg
 have hlen:=Kd hl (J0 hi)
 have hset:=Xt .u64 (pf 16 (Qa 16 65535) i) i 65535
 rw[hstep]at hset
 have hset':(ns .u64 (pf 16 (Qa 16 65535) i)).set i (.int .u64 65535)=ns .u64 (pf 16 (Qa 16 65535) (i+1)):=hset
 clear hset
 have w1:IntKind.i64.wrap ((i:Int)+1)=((i+1:Nat):Int):=Z3 (b:=1) qr
 have e1:((i:Int)<16)=True:=wf
 have e4:(i<=15)=True:=wf
 generalize pf 16 (Qa 16 65535) i=o at *
 simp only[Sr,E9,Qr,quiet,cW,↓pW,reduceCtorEq,seval,-Qb,w1,e1,e4,hset',Q8,hlen]
theorem GM:evVal T 192 []=some (eV KR):=by
 have hb:=ZR (T:=T) (base:=0) (id:=0) (body:=E9) (fun i=>Sr (pf 16 (Qa 16 65535) i) i []) (s':=Sr (Qa 16 65535) 16 [(5,.bool false)]) 16
  (fun i hi=>kI hi) (by
   rw[Ke (n:=16) (L:=Qa 16 65535) rfl]
   simp only[Sr,E9,Qr,quiet,cK,↓pQ,reduceCtorEq,seval,-Qb,cL])
 rw[Kc,show Qa 16 0=ZP from rfl]at hb
 simp only[Sr,Qn,Ql,QA]at hb
 have hz:=KE
 have hf:=Bn
 have lz:=XI
 have s1:(ns .u64 (Qa 16 65535)).set 0 (.int .u64 65517)=ns .u64 (65517::Qa 15 65535):=rfl
 have s2:(ns .u64 (65517::Qa 15 65535)).set 15 (.int .u64 32767)=ns .u64 KR:=by
  have:KR=(65517::Qa 15 65535).set 15 32767:=by decide +kernel
  rw[this];rfl
 have l1:(Qa 16 65535).length=16:=rfl
 have l2:(65517::Qa 15 65535).length=16:=rfl
 have l3:=Y8.len
 generalize ZP=Z at *
 generalize KR=R at *
 generalize 65517::Qa 15 65535=M at *
 generalize Qa 16 65535=L at *
 apply QE (fn:=a87) rfl
 simp only[a87,Qr,quiet,cW,↓pW,reduceCtorEq,seval,-Qb,hz,hf,hb,s1,s2,Qe,Qx,Qy,Q5,Za,Q6,Q8,l1,l2,l3,lz,QR]
 rfl
def JG(n:Nat):List Nat:=n%65536::n/65536%65536::Qa 14 0
theorem X8(n:Nat):Nm (JG n):=⟨rfl,fun x hx=>by
 simp only[JG,Jr,List.mem_replicate]at hx
 omega⟩
theorem Kp(h:n<4294967296):num 65536 (JG n)=n:=by
 have:num 65536 (Qa 14 0)=0:=ww
 simp only[JG,num,this]
 omega
theorem Sm(a b:Nat):fillL (ns .u64 ZP) [(0,1,.int .u64 (a:Int)),(1,1,.int .u64 (b:Int))]=some (ns .u64 (a::b::Qa 14 0)):=rfl
theorem Vs(n:Nat)(hn:n<18446744073709551616):evVal T 142 [.int .u64 (n:Nat)]=some (eV (JG n)):=by
 have hz:=KE
 have lz:=XI
 have hf:=Sm (n%65536) (n/65536%65536)
 have e1:(n:Int).tmod 65536=((n%65536:Nat):Int):=rfl
 have e2:(n:Int).tdiv 65536=((n/65536:Nat):Int):=rfl
 have e3:(((n/65536:Nat):Int)).tmod 65536=((n/65536%65536:Nat):Int):=rfl
 have w1:IntKind.u64.wrap ((n%65536:Nat):Int)=((n%65536:Nat):Int):=Kz qr
 have w2:IntKind.u64.wrap ((n/65536:Nat):Int)=((n/65536:Nat):Int):=Kz qr
 have w3:IntKind.u64.wrap ((n/65536%65536:Nat):Int)=((n/65536%65536:Nat):Int):=Kz qr
 have hl:(n%65536::n/65536%65536::Qa 14 0).length=16:=rfl
 unfold JG
 generalize ZP=Z at *
 generalize n%65536::n/65536%65536::Qa 14 0=R at *
 apply QE (fn:=a70) rfl
 simp only[a70,Qr,quiet,cW,↓pW,reduceCtorEq,seval,-Qb,hz,hf,e1,e2,e3,w1,w2,w3,Qe,Qx,Qy,Q5,Za,Q6,Q8,hl,lz,QR]
 rfl
theorem mn(h:o.length=i)(hi:i<n):(o++Qa (n-i) 0).set i x=(o++[x])++Qa (n-(i+1)) 0:=by
 rw[ZV _ _ qr,h,Q7]
 have e2:n-i=(n-(i+1))+1:=qr
 rw[e2,XC,Wt]
 simp
theorem rK(h:o.length=i)(hi:i<=n):(o++Qa (n-i) 0).length=n:=by simp;omega
theorem OB(B:Nat)(o:List Nat)(x:Nat):num B (o++[x])=num B o+B^o.length*x:=by
 rw[Vj];simp[num]
def rmI(a b o:List Nat)(r:Nat)(i:Int)(ex:Env):St:=⟨[(2,.pointer (0:Nat)),(3,.pointer (1:Nat)),(4,.pointer (2:Nat)),(5,.pointer (3:Nat)),(6,.int .u64 r),(7,.int .i64 i)]++ex,[{c:=ns .u64 a},{c:=ns .u64 b},{c:=ns .u64 ZP},{c:=ns .u64 o}],[]⟩
theorem qY{a b:List Nat}(ha:Nm a)(hb:Nm b)(hi:i<16)(ho:o.length=i)(hr:r<=1)(xo:∀x∈o,x<65536)
 (hn:num 65536 (a.take i)+65536^i*r=num 65536 (b.take i)+num 65536 o) :
    ∃x r',Q0 T 0 E4 (rmI a b (o++Qa (16-i) 0) r i [])=some (.normal,rmI a b ((o++[x])++Qa (16-(i+1)) 0) r' ((i+1:Nat):Int) [])/\x<65536/\r'<=1 /\
      num 65536 (a.take (i+1))+65536^(i+1)*r'=num 65536 (b.take (i+1))+num 65536 (o++[x]):=by
  obtain⟨x,hx⟩:∃x,a[i]?=some x:=⟨_,Qf (by rw[ha.len];omega)⟩
  obtain⟨y,hy⟩:∃y,b[i]?=some y:=⟨_,Qf (by rw[hb.len];omega)⟩
  have hx':=ha.lt x (Qo hx)
  have hy':=hb.lt y (Qo hy)
  refine⟨(x+65536-y-r)%65536,1-(x+65536-y-r)/65536,?_,by omega,by omega,?_⟩
  · have hset:=Xt .u64 (o++Qa (16-i) 0) i ((x+65536-y-r)%65536)
    rw[mn ho hi]at hset
    have hlen:=rK ho (J0 hi)
    have hxc:=ZJ (k := .u64) hx
    have hyc:=ZJ (k := .u64) hy
    have l1:=ha.len
    have l2:=hb.len
    have w1:IntKind.i64.wrap ((i:Int)+1)=((i+1:Nat):Int):=Z3 (b:=1) qr
    have w2:IntKind.u64.wrap ((x:Int)+65536)=((x+65536:Nat):Int):=Wf (b:=65536) qr
    have w3:IntKind.u64.wrap (((x+65536:Nat):Int)-(y:Int))=((x+65536-y:Nat):Int):=Mn qr qr
    have w4:IntKind.u64.wrap (((x+65536-y:Nat):Int)-(r:Int))=((x+65536-y-r:Nat):Int):=Mn qr qr
    have w5:(((x+65536-y-r:Nat):Int)).tmod 65536=(((x+65536-y-r)%65536:Nat):Int):=rfl
    have w6:IntKind.u64.wrap ((((x+65536-y-r:Nat):Int)).tdiv 65536)=(((x+65536-y-r)/65536:Nat):Int):=Kz (n:=(x+65536-y-r)/65536) qr
    have w7:IntKind.u64.wrap (1-(((x+65536-y-r)/65536:Nat):Int))=((1-(x+65536-y-r)/65536:Nat):Int):=Mn (a:=1) qr qr
    have e1:((i:Int)<16)=True:=wf
    have e4:(i<=15)=True:=wf
    generalize(o++Qa (16-i) 0)=O at *
    generalize(o++[(x+65536-y-r)%65536]++Qa (16-(i+1)) 0)=O' at *
    generalize(x+65536-y-r)/65536=q at *
    generalize(x+65536-y-r)%65536=m at *
    generalize x+65536-y-r=v1 at *
    generalize x+65536-y=v2 at *
    generalize x+65536=v3 at *
    generalize 1-q=v4 at *
    generalize i+1=i1 at *
    simp only[rmI,E4,Qr,quiet,cW,↓pW,reduceCtorEq,seval,-Qb,hxc,hyc,w1,w2,w3,w4,w5,w6,w7,e1,e4,hset,Q8,hlen,l1,l2]
  · rw[Xa hx,Xa hy,OB,ho]
    have h:x+65536*(1-(x+65536-y-r)/65536)=y+r+(x+65536-y-r)%65536:=qr
    generalize(x+65536-y-r)%65536=m at *
    generalize 1-(x+65536-y-r)/65536=q at *
    have h2:=congrArg (fun t=>t*65536^i) h
    simp only[Zl]at h2
    rw[Zj]
    generalize 65536^i=p at *
    rw[Zm p r]at hn
    rw[ZD p,Zm p (65536*q),Zm p m]
    omega
theorem AW{a b:List Nat}(ha:Nm a)(hb:Nm b)(h:num 65536 b<=num 65536 a):evVal T 195 [eV a,eV b]=some (eV (dig 65536 16 (num 65536 a-num 65536 b))):=by
 obtain⟨st,hl,o,r,rfl,h1,h2,h3,h4⟩:=Zh (T:=T) (base:=0) (id:=0) (body:=E4)
  (fun i st=>∃(o:List Nat) (r:Nat),st=rmI a b (o++Qa (16-i) 0) r i []/\o.length=i/\r<=1/\(∀x∈o,x<65536)/\num 65536 (a.take i)+65536^i*r=num 65536 (b.take i)+num 65536 o)
  (Q:=fun st=>∃(o:List Nat) (r:Nat),st=rmI a b o r 16 [(11,.bool false)]/\o.length=16/\r<=1/\(∀x∈o,x<65536)/\num 65536 a+65536^16*r=num 65536 b+num 65536 o)
  16 (s:=rmI a b ZP 0 0 []) ⟨[],0,rfl,rfl,by omega,by simp,by simp[num]⟩
  (fun i st hi hs=>by
   obtain⟨o,r,rfl,h1,h2,h3,h4⟩:=hs
   obtain⟨x,r',g1,g2,g3,g4⟩:=qY ha hb hi h1 h2 h3 h4
   refine⟨_,g1,o++[x],r',rfl,by simp[h1],g3,?_,g4⟩
   intro y hy
   rcases QC.1 hy with hy|hy
   ·exact h3 y hy
   ·rw[Xn.1 hy];exact g2)
  (fun st hs=>by
   obtain⟨o,r,rfl,h1,h2,h3,h4⟩:=hs
   rw[Qm (by rw[ha.len];omega),Qm (by rw[hb.len];omega)]at h4
   refine⟨_,?_,o,r,rfl,h1,h2,h3,h4⟩
   rw[Q7,List.replicate_zero,QG]
   simp only[rmI,E4,Qr,quiet,cK,↓pQ,reduceCtorEq,seval,-Qb,cL])
 have hN:Nm o:=⟨h1,h3⟩
 have hlt:=hN.num_lt
 have hr:r=0:=by
  rcases Jo r with h0|h0
  ·exact h0
  ·exfalso
   have:r=1:=qr
   subst this
   rw[show(65536:Nat)^16=2^256 by decide]at h4
   generalize(2:Nat)^256=M at *
   omega
 subst hr
 have ho:o=dig 65536 16 (num 65536 a-num 65536 b):=by
  rw[hN.eq]
  refine congrArg (dig 65536 16) ?_
  generalize(65536:Nat)^16=M at *
  omega
 rw[<-ho]
 have hz:=KE
 have hf:=Bn
 have lz:=XI
 have l1:=ha.len
 have l2:=hb.len
 simp only[rmI,Qn,Ql,QA]at hl
 generalize ZP=Z at *
 apply QE (fn:=a90) rfl
 simp only[a90,Qr,quiet,cW,↓pW,reduceCtorEq,seval,-Qb,hz,hf,hl,Qe,Qx,Qy,Q5,Za,Q6,Q8,l1,l2,h1,lz,QR]
 rfl
def JV(x r:Nat):Nat:=x/2^r+x*2^(64-r)%18446744073709551616
def sg0(x:Nat):Nat:=JV x 1^^^JV x 8^^^(x/2^7)
def sg1(x:Nat):Nat:=JV x 19^^^JV x 61^^^(x/2^6)
def Sg0(x:Nat):Nat:=JV x 28^^^JV x 34^^^JV x 39
def Sg1(x:Nat):Nat:=JV x 14^^^JV x 18^^^JV x 41
def chO(e f g:Nat):Nat:=(e&&&f)^^^((18446744073709551615^^^e)&&&g)
def maO(a b c:Nat):Nat:=(a&&&b)^^^(a&&&c)^^^(b&&&c)
def be(l:List Nat):Nat:=l.foldl (fun a x=>a*256+x) 0
def uU(w:List Nat):Nat:=(w.getD (w.length-16) 0+w.getD (w.length-7) 0+sg0 (w.getD (w.length-15) 0)+sg1 (w.getD (w.length-2) 0))%18446744073709551616
def GD:Nat->List Nat->List Nat
 |0,l=>l
 |n+1,l=>GD n l++[uU (GD n l)]
def FR(b:List Nat):List Nat:=(ZH 16).map fun i=>be ((b.drop (8*i)).take 8)
def JY(b:List Nat):List Nat:=GD 64 (FR b)
def Ky:List Nat:=[4794697086780616226,8158064640168781261,13096744586834688815,16840607885511220156,4131703408338449720,6480981068601479193,10538285296894168987,12329834152419229976,15566598209576043074,1334009975649890238,2608012711638119052,6128411473006802146,8268148722764581231,9286055187155687089,11230858885718282805,13951009754708518548,16472876342353939154,17275323862435702243,1135362057144423861,2597628984639134821,3308224258029322869,5365058923640841347,6679025012923562964,8573033837759648693,10970295158949994411,12119686244451234320,12683024718118986047,13788192230050041572,14330467153632333762,15395433587784984357,489312712824947311,1452737877330783856,2861767655752347644,3322285676063803686,5560940570517711597,5996557281743188959,7280758554555802590,8532644243296465576,9350256976987008742,10552545826968843579,11727347734174303076,12113106623233404929,14000437183269869457,14369950271660146224,15101387698204529176,15463397548674623760,17586052441742319658,1182934255886127544,1847814050463011016,2177327727835720531,2830643537854262169,3796741975233480872,4115178125766777443,5681478168544905931,6601373596472566643,7507060721942968483,8399075790359081724,8693463985226723168,9568029438360202098,10144078919501101548,10430055236837252648,11840083180663258601,13761210420658862357,14299343276471374635,14566680578165727644,15097957966210449927,16922976911328602910,17689382322260857208,500013540394364858,748580250866718886,1242879168328830382,1977374033974150939,2944078676154940804,3659926193048069267,4368137639120453308,4836135668995329356,5532061633213252278,6448918945643986474,6902733635092675308,7801388544844847127]
def t1O(s:List Nat)(k w:Nat):Nat:=(s.getD 7 0+Sg1 (s.getD 4 0)+chO (s.getD 4 0) (s.getD 5 0) (s.getD 6 0)+k+w)%18446744073709551616
def t2O(s:List Nat):Nat:=(Sg0 (s.getD 0 0)+maO (s.getD 0 0) (s.getD 1 0) (s.getD 2 0))%18446744073709551616
def rnd(s:List Nat)(k w:Nat):List Nat:=[(t1O s k w+t2O s)%18446744073709551616,s.getD 0 0,s.getD 1 0,s.getD 2 0,(s.getD 3 0+t1O s k w)%18446744073709551616,s.getD 4 0,s.getD 5 0,s.getD 6 0]
def GN:Nat->List Nat->List Nat->List Nat
 |0,_,s=>s
 |n+1,w,s=>rnd (GN n w s) (Ky.getD n 0) (w.getD n 0)
def blk(s b:List Nat):List Nat:=JS (fun x y=>(x+y)%18446744073709551616) s (GN 80 (JY b) s)
def YX:List Nat:=[7640891576956012808,13503953896175478587,4354685564936845355,11912009170470909681,5840696475078001361,11170449401992604703,2270897969802886507,6620516959819538809]
def stK:Nat->List Nat->List Nat
 |0,_=>YX
 |n+1,b=>blk (stK n b) ((b.drop (128*n)).take 128)
def Vt(n:Nat):Nat:=(239-n%128)%128
def UZ(n:Nat):List Nat:=128::(Qa (Vt n) 0++((ZH 16).map fun i=>8*n/256^(15-i)%256))
def sha(b:List Nat):List Nat:=(ZH 64).map fun i=>(stK ((b++UZ b.length).length/128) (b++UZ b.length)).getD (i/8) 0/256^(7-i%8)%256
theorem Ul:Ky.length=80:=rfl
theorem dB:YX.length=8:=rfl
theorem XN(hx:x<18446744073709551616)(hr:0<r)(hr':r<=63):JV x r<18446744073709551616:=by
 unfold JV
 have e:(18446744073709551616:Nat)=2^r*2^(64-r):=by rw[<-JI,show r+(64-r)=64 by omega]
 have h1:x/2^r<2^(64-r):=Vo (by rw[<-e];exact hx)
 have h2:x*2^(64-r)%18446744073709551616=(x%2^r)*2^(64-r):=by rw[e,Yx]
 rw[h2]
 have h3:x%2^r+1<=2^r:=Q9 _ (JT ww)
 have h4:=Z9 (2^(64-r)) h3
 rw[<-e,Zl,Xd]at h4
 omega
theorem qV(hx:x<18446744073709551616)(hr:0<r)(hr':r<=63):(x*2^(64-r)%18446744073709551616)|||(x/2^r)=JV x r:=by
 have e:(18446744073709551616:Nat)=2^r*2^(64-r):=by rw[<-JI,show r+(64-r)=64 by omega]
 have h1:x/2^r<2^(64-r):=Vo (by rw[<-e];exact hx)
 have h2:x*2^(64-r)%18446744073709551616=(x%2^r)*2^(64-r):=by rw[e,Yx]
 unfold JV
 rw[h2,YK h1,Xu]
theorem D3(hx:x<18446744073709551616)(hr:0<r)(hr':r<=63):evVal T 214 [.int .u64 x,.int .i64 (-(r:Int))]=some (.int .u64 (JV x r:Nat)):=by
 have hw:IntKind.u64.wrap (-(r:Int))=((18446744073709551616-r:Nat):Int):=by rw[WU];omega
 have hm:Zr .and .u64 ((18446744073709551616-r:Nat):Int) 63=((64-r:Nat):Int):=by
  have:=Bc .u64 rfl 6 (18446744073709551616-r) ww
  have e:((2^6-1:Nat):Int)=63:=ww
  rw[e]at this
  rw[this]
  have:(18446744073709551616-r)%2^6=64-r:=qr
  rw[this]
 have n1:(((64-r:Nat):Int)<0)=False:=wr
 have h64:min (64-r) IntKind.u64.bits=64-r:=Zw (by show 64-r<=64;omega)
 have hr64:min r IntKind.u64.bits=r:=Zw (by show r<=64;omega)
 have hs1:IntKind.u64.wrap ((x:Int)*2^(64-r))=((x*2^(64-r)%18446744073709551616:Nat):Int):=by
  rw[<-UC,JN,Yr];rfl
 have hsub:IntKind.u64.wrap (64-((64-r:Nat):Int))=(r:Int):=by rw[WU];omega
 have n2:((r:Int)<0)=False:=wr
 have hs2:(x:Int).fdiv (2^r)=((x/2^r:Nat):Int):=by
  rw[<-Tf,Yr];rfl
 have hlt1:x*2^(64-r)%18446744073709551616<2^IntKind.u64.bits:=Q9 _ ww
 have hlt2:x/2^r<2^IntKind.u64.bits:=Jc (Jx _ _) hx
 have ho:Zr .or .u64 ((x*2^(64-r)%18446744073709551616:Nat):Int) ((x/2^r:Nat):Int)=((JV x r:Nat):Int):=by
  rw[Kh rfl hlt1 hlt2,qV hx hr hr']
 generalize hq:64-r=q at *
 generalize hu:18446744073709551616-r=u at *
 apply QE (fn:=yW) rfl
 simp only[yW,↓GJ,Qr,quiet,cW,↓pW,reduceCtorEq,seval,-Qb,hw,hm,n1,h64,hs1,hsub,n2,hr64,hs2,ho,Vr]
 rfl
theorem I5:fillL (Qa 80 (Value.int .u64 0)) [(0,1,.int .u64 4794697086780616226),(1,1,.int .u64 8158064640168781261),(2,1,.int .u64 13096744586834688815),(3,1,.int .u64 16840607885511220156),(4,1,.int .u64 4131703408338449720),(5,1,.int .u64 6480981068601479193),(6,1,.int .u64 10538285296894168987),(7,1,.int .u64 12329834152419229976),(8,1,.int .u64 15566598209576043074),(9,1,.int .u64 1334009975649890238),(10,1,.int .u64 2608012711638119052),(11,1,.int .u64 6128411473006802146),(12,1,.int .u64 8268148722764581231),(13,1,.int .u64 9286055187155687089),(14,1,.int .u64 11230858885718282805),(15,1,.int .u64 13951009754708518548),(16,1,.int .u64 16472876342353939154),(17,1,.int .u64 17275323862435702243),(18,1,.int .u64 1135362057144423861),(19,1,.int .u64 2597628984639134821),(20,1,.int .u64 3308224258029322869),(21,1,.int .u64 5365058923640841347),(22,1,.int .u64 6679025012923562964),(23,1,.int .u64 8573033837759648693),(24,1,.int .u64 10970295158949994411),(25,1,.int .u64 12119686244451234320),(26,1,.int .u64 12683024718118986047),(27,1,.int .u64 13788192230050041572),(28,1,.int .u64 14330467153632333762),(29,1,.int .u64 15395433587784984357),(30,1,.int .u64 489312712824947311),(31,1,.int .u64 1452737877330783856),(32,1,.int .u64 2861767655752347644),(33,1,.int .u64 3322285676063803686),(34,1,.int .u64 5560940570517711597),(35,1,.int .u64 5996557281743188959),(36,1,.int .u64 7280758554555802590),(37,1,.int .u64 8532644243296465576),(38,1,.int .u64 9350256976987008742),(39,1,.int .u64 10552545826968843579),(40,1,.int .u64 11727347734174303076),(41,1,.int .u64 12113106623233404929),(42,1,.int .u64 14000437183269869457),(43,1,.int .u64 14369950271660146224),(44,1,.int .u64 15101387698204529176),(45,1,.int .u64 15463397548674623760),(46,1,.int .u64 17586052441742319658),(47,1,.int .u64 1182934255886127544),(48,1,.int .u64 1847814050463011016),(49,1,.int .u64 2177327727835720531),(50,1,.int .u64 2830643537854262169),(51,1,.int .u64 3796741975233480872),(52,1,.int .u64 4115178125766777443),(53,1,.int .u64 5681478168544905931),(54,1,.int .u64 6601373596472566643),(55,1,.int .u64 7507060721942968483),(56,1,.int .u64 8399075790359081724),(57,1,.int .u64 8693463985226723168),(58,1,.int .u64 9568029438360202098),(59,1,.int .u64 10144078919501101548),(60,1,.int .u64 10430055236837252648),(61,1,.int .u64 11840083180663258601),(62,1,.int .u64 13761210420658862357),(63,1,.int .u64 14299343276471374635),(64,1,.int .u64 14566680578165727644),(65,1,.int .u64 15097957966210449927),(66,1,.int .u64 16922976911328602910),(67,1,.int .u64 17689382322260857208),(68,1,.int .u64 500013540394364858),(69,1,.int .u64 748580250866718886),(70,1,.int .u64 1242879168328830382),(71,1,.int .u64 1977374033974150939),(72,1,.int .u64 2944078676154940804),(73,1,.int .u64 3659926193048069267),(74,1,.int .u64 4368137639120453308),(75,1,.int .u64 4836135668995329356),(76,1,.int .u64 5532061633213252278),(77,1,.int .u64 6448918945643986474),(78,1,.int .u64 6902733635092675308),(79,1,.int .u64 7801388544844847127)]=some (ns .u64 Ky):=rfl
theorem bw:evVal T 209 []=some (eV Ky):=by
 have hf:=I5
 have lk:=Ul
 generalize Ky=K at *
 apply QE (fn:=yV) rfl
 simp only[yV,Qr,quiet,cW,↓pW,reduceCtorEq,seval,-Qb,hf,Qe,Qx,Qy,Q5,Za,Q6,Q8,lk,QR]
 rfl
theorem HA(l:List Nat):∀n,(GD n l).length=l.length+n
 |0=>rfl
 |n+1=>by rw[GD,Qj,HA l n];rfl
theorem HC(l:List Nat){n j:Nat}(hj:j<l.length+n):∀m,n<=m->(GD m l)[j]?=(GD n l)[j]?
 |0,h=>by rw[show n=0 by omega]
 |m+1,h=>by
  by_cases e:n=m+1
  ·rw[e]
  ·rw[GD,Qc (by rw[HA];omega),HC l hj m qr]
theorem RA(b:List Nat):(FR b).length=16:=by simp[FR]
theorem YF(b:List Nat):(JY b).length=80:=by rw[JY,HA,RA]
theorem RD{b:List Nat}(hi:i<16):(JY b)[i]?=some (be ((b.drop (8*i)).take 8)):=by
 rw[JY,HC _ (n:=0) (by rw[RA];omega) 64 qr]
 simp[GD,FR,hi]
theorem RC{b:List Nat}(hi:16<=i)(hi':i<80):(JY b)[i]?=some (((JY b).getD (i-16) 0+(JY b).getD (i-7) 0+sg0 ((JY b).getD (i-15) 0)+sg1 ((JY b).getD (i-2) 0))%18446744073709551616):=by
 obtain⟨n,rfl⟩:∃n,i=16+n:=⟨i-16,by omega⟩
 have hl:=RA b
 have hn:=HA (FR b) n
 rw[hl]at hn
 have hg:∀j,j<16+n->(JY b).getD j 0=(GD n (FR b)).getD j 0:=fun j hj=>by
  rw[QD,QD,JY,HC _ (n:=n) (by rw[hl];omega) 64 qr]
 rw[hg _ qr,hg _ qr,hg _ qr,hg _ qr]
 rw[JY,HC _ (n:=n+1) (by rw[hl];omega) 64 qr,GD,Qh qr,hn,Q7]
 simp only[uU,hn,List.getElem?_cons_zero]
theorem A9(l:List Nat)(x:Nat):be (l++[x])=be l*256+x:=by simp[be]
theorem IU:∀(n:Nat) (l:List Nat),l.length=n->(∀x∈l,x<256)->be l<256^n
 |0,l,h,_=>by rw[J7 h];decide
 |n+1,l,h,hx=>by
  obtain⟨m,x,rfl⟩:∃m x,l=m++[x]:=⟨l.dropLast,l.getLast (by intro e;rw[e]at h;cases h),(List.dropLast_concat_getLast _).symm⟩
  rw[Qj]at h
  have h1:=IU n m (by simpa using h) (fun y hy=>hx y (Aq _ hy))
  have h2:=hx x wd
  rw[A9,Zj]
  omega
theorem At{b:List Nat}(hb:∀x∈b,x<256){i:Nat}(hx:(JY b)[i]?=some x):x<18446744073709551616:=by
 have hi:i<80:=by have:=(Qg.1 hx).1;rwa[YF]at this
 by_cases h:i<16
 ·rw[RD h]at hx
  cases hx
  have hl:((b.drop (8*i)).take 8).length<=8:=by rw[Q3];omega
  have:=IU _ _ rfl (fun y hy=>hb y (ZF (QP hy)):∀y∈(b.drop (8*i)).take 8,y<256)
  exact QM this (Zo (n:=256) ww hl)
 ·rw[RC qr hi]at hx
  cases hx
  exact Q9 _ ww
theorem Ym{j:Nat}(hj:j<i)(hi:i<=L.length):(pf n L i)[j]?=L[j]? := by
 unfold pf
 rw[Qc (by rw[Q3];omega),QW,if_pos hj]
theorem AR{l:List Nat}{i:Nat}(h:l[i]?=some x):l.set i x=l:=by
 apply ZW
 intro k
 rw[Kw]
 by_cases c:i=k
 ·rw[if_pos c,<-c,h,if_pos (Qg.1 h).1]
 ·rw[if_neg c]
theorem DQ(hi:i<n)(hl:L.length=n):(pf n L i)[i]?=some 0:=by
 unfold pf
 rw[Qh (by rw[Q3];omega),Q3,Zw qr,Q7,Kx,if_pos qr]
theorem W6(a b:Nat):IntKind.u64.wrap ((a:Int)+(b:Int))=(((a+b)%18446744073709551616:Nat):Int):=by rw[<-Jm,UC]
theorem Wm(ha:a<18446744073709551616)(hb:b<18446744073709551616):Zr .xor .u64 (a:Int) (b:Int)=((a^^^b:Nat):Int):=En rfl ha hb
theorem W5(ha:a<18446744073709551616)(hb:b<18446744073709551616):Zr .and .u64 (a:Int) (b:Int)=((a&&&b:Nat):Int):=Uu rfl ha hb
theorem Ys(ha:a<18446744073709551616)(hb:b<18446744073709551616):a^^^b<18446744073709551616:=Nat.xor_lt_two_pow (n:=64) ha hb
theorem Xw(hb:b<18446744073709551616):a&&&b<18446744073709551616:=Kb (n:=64) a hb
theorem D2(hr:r<=64):(x:Int).fdiv (2^min r IntKind.u64.bits)=((x/2^r:Nat):Int):=by
 rw[show min r IntKind.u64.bits=r from Zw hr,<-Tf,Yr];rfl
theorem MZ(hx:x<18446744073709551616):x/2^r<18446744073709551616:=Jc (Jx _ _) hx
structure BB(H:List Ob)(id off:Nat)(b:List Nat):Prop where
 ob:∃all:List Nat,H[id]?=some ⟨u8s all,true,true,false,1⟩/\∀i,i<b.length->all[off+i]?=b[i]?
 lt:∀x∈b,x<256
theorem BB.app{H l:List Ob}{id off:Nat}{b:List Nat}(h:BB H id off b):BB (H++l) id off b:=by
 obtain⟨⟨all,h1,h2⟩,h3⟩:=h
 exact⟨⟨all,by rw[Qc (Qg.1 h1).1];exact h1,h2⟩,h3⟩
def w2I(H:List Ob)(P:Value)(id off cap:Nat)(w:List Nat)(i:Int)(o8 c8:Nat)(j:Int)(ex:Env):St:=⟨[(0,P),(1,.slice (some ⟨id,off,none⟩) 128 cap),(4,.pointer H.length),(5,.int .i64 i),(17,.int .i64 i),(28,.slice (some ⟨id,o8,none⟩) 8 c8),(29,.int .i64 8),(30,.int .i64 j)]++ex,H++[{c:=ns .u64 w}],[]⟩
theorem iz{H:List Ob}{P:Value}{id off cap c8:Nat}{b:List Nat}(hb:BB H id off b)(hl:b.length=128)(hi:i<16) :
  Q0 T H.length (.block 2 (.loop Rx)) (w2I H P id off cap (pf 80 (JY b) i) i (off+8*i) c8 0 [])=some (.normal,w2I H P id off cap (pf 80 (JY b) (i+1)) i (off+8*i) c8 8 [(31,.bool false)]):=by
 obtain⟨⟨all,h1,h2⟩,h3⟩:=hb
 have hWl:=YF b
 have h8:((b.drop (8*i)).take 8).length=8:=by rw[Q3,QN];omega
 have hz:=DQ (L:=JY b) (by omega:i<80) hWl
 have hpl:=Kd hWl (by omega:i<=80)
 have MP:(pf 80 (JY b) i).set i (be [])=pf 80 (JY b) i:=AR hz
 have hW:=RD (b:=b) hi
 have hstep:=XD hWl (by omega:i<80) hW
 have h:=ZR (T:=T) (base:=H.length) (id:=2) (body:=Rx) (fun j=>w2I H P id off cap ((pf 80 (JY b) i).set i (be (((b.drop (8*i)).take 8).take j))) i (off+8*i) c8 j []) (s':=w2I H P id off cap (pf 80 (JY b) (i+1)) i (off+8*i) c8 8 [(31,.bool false)]) 8
  (fun j hj=>by
   obtain⟨x,hx⟩:∃x,((b.drop (8*i)).take 8)[j]?=some x:=⟨_,Qf qr⟩
   have hxb:b[8*i+j]?=some x:=by
    rw[QW,if_pos hj,Zp]at hx;exact hx
   have hx':=h3 x (Qo hxb)
   have hxa:(u8s all)[off+8*i+j]?=some (.int .u8 (x:Nat)):=Js (by rw[show off+8*i+j=off+(8*i+j) by omega,h2 _ qr];exact hxb)
   have hbel:=IU j (((b.drop (8*i)).take 8).take j) (by rw[Q3];omega) (fun y hy=>h3 y (ZF (QP (QP hy))))
   have hbes:be (((b.drop (8*i)).take 8).take (j+1))=be (((b.drop (8*i)).take 8).take j)*256+x:=by rw[Zx,hx];exact A9 _ _
   rw[hbes]
   have h256:(256:Nat)^j<=256^7:=Zo ww qr
   have e7:(256:Nat)^7=72057594037927936:=ww
   rw[e7]at h256
   generalize be (((b.drop (8*i)).take 8).take j)=a at *
   have hg:((pf 80 (JY b) i).set i a)[i]?=some a:=by rw[Qw (by rw[hpl];omega)]
   have hgc:=ZJ (k := .u64) hg
   have hss:=Xt .u64 ((pf 80 (JY b) i).set i a) i (a*256+x)
   rw[Yh]at hss
   have hln:((pf 80 (JY b) i).set i a).length=80:=by rw[Q4];exact hpl
   have w1:IntKind.i64.wrap ((j:Int)+1)=((j+1:Nat):Int):=Z3 (b:=1) qr
   have w2:IntKind.u64.wrap (x:Int)=(x:Int):=Kz qr
   have w3:IntKind.u64.wrap ((a:Int)*2^min 8 IntKind.u64.bits)=((a*256:Nat):Int):=U4 (b:=256) qr
   have w4:Zr .or .u64 ((a*256:Nat):Int) (x:Int)=((a*256+x:Nat):Int):=by
    rw[Kh rfl (show a*256<2^64 by omega) (show x<2^64 by omega)]
    have:=YK (a:=x) (b:=a) (n:=8) qr
    rw[show(2:Nat)^8=256 from rfl]at this
    rw[this]
   have e1:((j:Int)<8)=True:=wf
   have e2:((i:Int)<80)=True:=wf
   have e4:(i<=79)=True:=wf
   have hl1:liveAt (H++[{c:=ns .u64 ((pf 80 (JY b) i).set i a)}]) id=some ⟨u8s all,true,true,false,1⟩:=KF (Zz h1 rfl)
   generalize(pf 80 (JY b) i).set i a=O1,(pf 80 (JY b) i).set i (a*256+x)=O2 at *
   generalize hv:a*256+x=v at *
   generalize a*256=v2 at *
   simp only[liveAt]at hl1
   generalize hoo:off+8*i=oo at *
   have hget:(H++[{c:=ns .u64 O1}])[id]?=some ⟨u8s all,true,true,false,1⟩:=by rw[Qc (Qg.1 h1).1];exact h1
   simp only[w2I,Rx,Qr,quiet,cW,↓pW,reduceCtorEq,seval,-Qb,hget,hxa,hgc,w1,w2,w3,w4,e1,e2,e4,hss,Q8,hln])
  (by
   rw[Qm qr,hstep]
   simp only[w2I,Rx,Qr,quiet,cW,↓pW,reduceCtorEq,seval,-Qb])
 rw[Xi,MP]at h
 exact h
end Go.Ev.YtoipgdjfhahimaaGreat
namespace Go.Ev.YtoipgdjfhahimaaGreat
open Go Go.Ev
attribute [local congr] JE JW JD JX Jz
set_option maxRecDepth 100000
variable{H:List Ob}{hid n i off id cap x b0:Nat}{rv pv:Value}{st s b l w L:List Nat}{K:Nat->Prop}{xs:List Value}{ps:List (List Nat)}
theorem Kk{k:IntKind}{y d:Nat}(h:n<=y):Va (some (.int k (n:Int))) y d=some n:=by
 have e:(0:Int)<=(n:Int)/\(n:Int)<=(y:Int):=⟨by omega,by omega⟩
 simp only[Va,if_pos e,Vr]
def w3I(H:List Ob)(P:Value)(id off cap:Nat)(w:List Nat)(i:Int)(ex:Env):St:=⟨[(0,P),(1,.slice (some ⟨id,off,none⟩) 128 cap),(4,.pointer H.length),(17,.int .i64 i)]++ex,H++[{c:=ns .u64 w}],[]⟩
theorem vE{P:Value}(hb:BB H id off b)(hl:b.length=128)(hc:128<=cap)(hi:i<16) :
  Q0 T H.length UO (w3I H P id off cap (pf 80 (JY b) i) i [])=some (.normal,w3I H P id off cap (pf 80 (JY b) (i+1)) ((i+1:Nat):Int) []):=by
 have h2:=iz (P:=P) (cap:=cap) (c8:=cap-8*i) hb hl hi
 obtain⟨⟨all,h1,-⟩,h3⟩:=hb
 simp only[w2I,Qn,Ql,QA]at h2
 have e1:((i:Int)<80)=True:=wf
 have e2:((i:Int)<16)=True:=wf
 have w1:IntKind.i64.wrap (8*(i:Int))=((8*i:Nat):Int):=UQ (a:=8) qr
 have w2:IntKind.i64.wrap (((8*i:Nat):Int)+8)=((8*i+8:Nat):Int):=Z3 (b:=8) qr
 have w3:IntKind.i64.wrap ((i:Int)+1)=((i+1:Nat):Int):=Z3 (b:=1) qr
 have b1:J8 128 cap (some (.int .i64 ((8*i:Nat):Int))) (some (.int .i64 ((8*i+8:Nat):Int))) none=some (8*i,8*i+8,cap):=by
  have n1:Va (some (.int .i64 ((8*i+8:Nat):Int))) cap 128=some (8*i+8):=Kk qr
  have n2:Va (some (.int .i64 ((8*i:Nat):Int))) (8*i+8) 0=some (8*i):=Kk qr
  rw[Ki,n1,Qp,n2,Qp]
 have hs:8*i+8-8*i=8:=qr
 have hget:∀l:List Ob,(H++l)[id]?=some ⟨u8s all,true,true,false,1⟩:=fun l=>by rw[Qc (Qg.1 h1).1];exact h1
 generalize pf 80 (JY b) i=O1,pf 80 (JY b) (i+1)=O2 at *
 generalize hk8:8*i+8=k8 at *
 generalize hk:8*i=k at *
 generalize i+1=i1 at *
 simp only[w3I,UO,Qr,quiet,cW,↓pW,reduceCtorEq,seval,-Qb,e1,e2,w1,w2,w3,b1,hs,hget,h2]
theorem JQ(h:l[i]?=some x):l.getD i 0=x:=by rw[QD,h];rfl
theorem ql{P:Value}(hb:∀x∈b,x<256)(hi:16<=i)(hi':i<80) :
  Q0 T H.length UO (w3I H P id off cap (pf 80 (JY b) i) i [])=some (.normal,w3I H P id off cap (pf 80 (JY b) (i+1)) ((i+1:Nat):Int) []):=by
 have hWl:=YF b
 have hW:=RC (b:=b) hi hi'
 have hstep:=XD hWl hi' hW
 have hpl:=Kd hWl (J0 hi')
 obtain⟨x,hx⟩:∃x,(JY b)[i-15]?=some x:=⟨_,Qf qr⟩
 obtain⟨y,hy⟩:∃x,(JY b)[i-2]?=some x:=⟨_,Qf qr⟩
 obtain⟨u,hu⟩:∃x,(JY b)[i-16]?=some x:=⟨_,Qf qr⟩
 obtain⟨v,hv⟩:∃x,(JY b)[i-7]?=some x:=⟨_,Qf qr⟩
 have lx:=At hb hx
 have ly:=At hb hy
 have cx:=ZJ (k := .u64) ((Ym (n:=80) (by omega:i-15<i) qr).trans hx)
 have cy:=ZJ (k := .u64) ((Ym (n:=80) (by omega:i-2<i) qr).trans hy)
 have cu:=ZJ (k := .u64) ((Ym (n:=80) (by omega:i-16<i) qr).trans hu)
 have cv:=ZJ (k := .u64) ((Ym (n:=80) (by omega:i-7<i) qr).trans hv)
 rw[JQ hx,JQ hy,JQ hu,JQ hv]at hstep
 have r1:evVal T 214 [.int .u64 x,.int .i64 (-1)]=some (.int .u64 (JV x 1:Nat)):=D3 (r:=1) lx ww ww
 have r8:evVal T 214 [.int .u64 x,.int .i64 (-8)]=some (.int .u64 (JV x 8:Nat)):=D3 (r:=8) lx ww ww
 have r19:evVal T 214 [.int .u64 y,.int .i64 (-19)]=some (.int .u64 (JV y 19:Nat)):=D3 (r:=19) ly ww ww
 have r61:evVal T 214 [.int .u64 y,.int .i64 (-61)]=some (.int .u64 (JV y 61:Nat)):=D3 (r:=61) ly ww ww
 have b1:=XN (r:=1) lx ww ww
 have b8:=XN (r:=8) lx ww ww
 have b19:=XN (r:=19) ly ww ww
 have b61:=XN (r:=61) ly ww ww
 have x1:=Wm b1 b8
 have x2:Zr .xor .u64 ((JV x 1^^^JV x 8:Nat):Int) ((x/2^7:Nat):Int)=((sg0 x:Nat):Int):=Wm (Ys b1 b8) (MZ lx)
 have y1:=Wm b19 b61
 have y2:Zr .xor .u64 ((JV y 19^^^JV y 61:Nat):Int) ((y/2^6:Nat):Int)=((sg1 y:Nat):Int):=Wm (Ys b19 b61) (MZ ly)
 have s7:(x:Int).fdiv (2^min 7 IntKind.u64.bits)=((x/2^7:Nat):Int):=D2 ww
 have s6:(y:Int).fdiv (2^min 6 IntKind.u64.bits)=((y/2^6:Nat):Int):=D2 ww
 have m1:=W6 u v
 have m2:=W6 ((u+v)%18446744073709551616) (sg0 x)
 have m3:=W6 (((u+v)%18446744073709551616+sg0 x)%18446744073709551616) (sg1 y)
 have hsum:(((u+v)%18446744073709551616+sg0 x)%18446744073709551616+sg1 y)%18446744073709551616=(u+v+sg0 x+sg1 y)%18446744073709551616:=qr
 rw[hsum]at m3
 have hset:=Xt .u64 (pf 80 (JY b) i) i ((u+v+sg0 x+sg1 y)%18446744073709551616)
 rw[hstep]at hset
 have e1:((i:Int)<80)=True:=wf
 have e2:((i:Int)<16)=False:=wr
 have i15:IntKind.i64.wrap ((i:Int)-15)=((i-15:Nat):Int):=by rw[QU qr qr];omega
 have i2:IntKind.i64.wrap ((i:Int)-2)=((i-2:Nat):Int):=by rw[QU qr qr];omega
 have i16:IntKind.i64.wrap ((i:Int)-16)=((i-16:Nat):Int):=by rw[QU qr qr];omega
 have i7:IntKind.i64.wrap ((i:Int)-7)=((i-7:Nat):Int):=by rw[QU qr qr];omega
 have j15:(((i-15:Nat):Int)<80)=True:=wf
 have j2:(((i-2:Nat):Int)<80)=True:=wf
 have j16:(((i-16:Nat):Int)<80)=True:=wf
 have j7:(((i-7:Nat):Int)<80)=True:=wf
 have w3:IntKind.i64.wrap ((i:Int)+1)=((i+1:Nat):Int):=Z3 (b:=1) qr
 have e4:(i<=79)=True:=wf
 clear hsum hstep hW hx hy hu hv hWl
 generalize pf 80 (JY b) i=O1,pf 80 (JY b) (i+1)=O2,(u+v+sg0 x+sg1 y)%18446744073709551616=z,((u+v)%18446744073709551616+sg0 x)%18446744073709551616=z2 at *
 generalize(u+v)%18446744073709551616=z3 at *
 generalize sg0 x=gx,sg1 y=gy,JV x 1^^^JV x 8=xx,JV y 19^^^JV y 61=yy at *
 generalize JV x 1=x1v,JV x 8=x8v,JV y 19=y19v,JV y 61=y61v at *
 generalize x/2^7=x7v at *
 generalize y/2^6=y6v at *
 generalize i-15=k15 at *
 generalize i-2=k2 at *
 generalize i-16=k16 at *
 generalize i-7=k7 at *
 generalize i+1=i1 at *
 simp only[w3I,UO,Qr,quiet,cW,↓pW,reduceCtorEq,seval,-Qb,e1,e2,e4,i15,i2,i16,i7,j15,j2,j16,j7,cx,cy,cu,cv,r1,r8,r19,r61,x1,x2,y1,y2,s7,s6,m1,m2,m3,hset,w3,Q8,hpl]
theorem ix{P:Value}(hb:BB H id off b)(hl:b.length=128)(hc:128<=cap) :
  Q0 T H.length (.block 0 (.loop UO)) (w3I H P id off cap (Qa 80 0) 0 [])=some (.normal,w3I H P id off cap (JY b) 80 [(18,.bool false)]):=by
 have hWl:=YF b
 have h:=ZR (T:=T) (base:=H.length) (id:=0) (body:=UO) (fun i=>w3I H P id off cap (pf 80 (JY b) i) i []) (s':=w3I H P id off cap (JY b) 80 [(18,.bool false)]) 80
  (fun i hi=>by
   by_cases h:i<16
   ·exact vE hb hl hc h
   ·exact ql hb.lt qr hi)
  (by
   rw[Ke hWl]
   simp only[w3I,UO,Qr,quiet,cW,↓pW,reduceCtorEq,seval,-Qb])
 rw[Kc]at h
 exact h
theorem eight{l:List Nat}(h:l.length=8):∃a b c d e f g i,l=[a,b,c,d,e,f,g,i]:=by
 match l,h with
 |[a,b,c,d,e,f,g,i],_=>exact⟨a,b,c,d,e,f,g,i,rfl⟩
theorem bF(s:List Nat)(k w:Nat):(rnd s k w).length=8:=rfl
theorem Bu(hs:s.length=8)(w:List Nat):∀n,(GN n w s).length=8
 |0=>hs
 |n+1=>rfl
theorem wb(hs:s.length=8)(hx:∀x∈s,x<18446744073709551616)(k w:Nat):∀x∈rnd s k w,x<18446744073709551616:=by
 obtain⟨a,b,c,d,e,f,g,h,rfl⟩:=eight hs
 intro x hm
 have h1:∀y z:Nat,(y+z)%18446744073709551616<18446744073709551616:=fun _ _=>Q9 _ ww
 simp only[rnd,Jr,JL,or_false]at hm
 rcases hm with rfl|rfl|rfl|rfl|rfl|rfl|rfl|rfl
 ·exact h1 _ _
 ·exact hx _ wd
 ·exact hx _ wd
 ·exact hx _ wd
 ·exact h1 _ _
 ·exact hx _ wd
 ·exact hx _ wd
 ·exact hx _ wd
theorem Lr{s:List Nat}(hs:s.length=8)(hx:∀x∈s,x<18446744073709551616)(w:List Nat):∀n,∀x∈GN n w s,x<18446744073709551616
 |0=>hx
 |n+1=>wb (Bu hs w n) (Lr hs hx w n) _ _
theorem cm:∀x∈Ky,x<18446744073709551616:=by decide +kernel
theorem oC(a b c d e f g h:Nat):fillL (Qa 8 (Value.int .u64 0)) [(0,1,.int .u64 (a:Int)),(1,1,.int .u64 (b:Int)),(2,1,.int .u64 (c:Int)),(3,1,.int .u64 (d:Int)),(4,1,.int .u64 (e:Int)),(5,1,.int .u64 (f:Int)),(6,1,.int .u64 (g:Int)),(7,1,.int .u64 (h:Int))]=some (ns .u64 [a,b,c,d,e,f,g,h]):=rfl
def w1I(H:List Ob)(P:Value)(w s:List Nat)(i:Int)(ex:Env):St:=⟨[(0,P),(4,.pointer H.length),(10,.pointer (H.length+1:Nat)),(86,eV Ky),(87,.int .i64 i)]++ex,H++[{c:=ns .u64 w},{c:=ns .u64 s}],[]⟩
theorem qn{P:Value}(hw:w.length=80)(hs:s.length=8)(hx:∀x∈s,x<18446744073709551616)(hi:i<80) :
  Q0 T H.length Dj (w1I H P w s i [])=some (.normal,w1I H P w (rnd s (Ky.getD i 0) (w.getD i 0)) ((i+1:Nat):Int) []):=by
 obtain⟨a,b,c,d,e,f,g,h,rfl⟩:=eight hs
 obtain⟨k,hk⟩:∃k,Ky[i]?=some k:=⟨_,Qf (by rw[Ul];exact hi)⟩
 obtain⟨v,hv⟩:∃k,w[i]?=some k:=⟨_,Qf qr⟩
 rw[JQ hk,JQ hv]
 have kc:=ZJ (k := .u64) hk
 have vc:=ZJ (k := .u64) hv
 have la:=hx a wd
 have lb:=hx b wd
 have lc:=hx c wd
 have le:=hx e wd
 have lf:=hx f wd
 have lg:=hx g wd
 have r14:evVal T 214 [.int .u64 e,.int .i64 (-14)]=some (.int .u64 (JV e 14:Nat)):=D3 (r:=14) le ww ww
 have r18:evVal T 214 [.int .u64 e,.int .i64 (-18)]=some (.int .u64 (JV e 18:Nat)):=D3 (r:=18) le ww ww
 have r41:evVal T 214 [.int .u64 e,.int .i64 (-41)]=some (.int .u64 (JV e 41:Nat)):=D3 (r:=41) le ww ww
 have r28:evVal T 214 [.int .u64 a,.int .i64 (-28)]=some (.int .u64 (JV a 28:Nat)):=D3 (r:=28) la ww ww
 have r34:evVal T 214 [.int .u64 a,.int .i64 (-34)]=some (.int .u64 (JV a 34:Nat)):=D3 (r:=34) la ww ww
 have r39:evVal T 214 [.int .u64 a,.int .i64 (-39)]=some (.int .u64 (JV a 39:Nat)):=D3 (r:=39) la ww ww
 have b14:=XN (r:=14) le ww ww
 have b18:=XN (r:=18) le ww ww
 have b41:=XN (r:=41) le ww ww
 have b28:=XN (r:=28) la ww ww
 have b34:=XN (r:=34) la ww ww
 have b39:=XN (r:=39) la ww ww
 have x1:=Wm b14 b18
 have x2:Zr .xor .u64 ((JV e 14^^^JV e 18:Nat):Int) ((JV e 41:Nat):Int)=((Sg1 e:Nat):Int):=Wm (Ys b14 b18) b41
 have x3:=Wm b28 b34
 have x4:Zr .xor .u64 ((JV a 28^^^JV a 34:Nat):Int) ((JV a 39:Nat):Int)=((Sg0 a:Nat):Int):=Wm (Ys b28 b34) b39
 have a1:=W5 le lf
 have a2:Zr .xor .u64 (if IntKind.u64.signed=true then -1 else IntKind.u64.max) (e:Int)=((18446744073709551615^^^e:Nat):Int):=Wm (a:=18446744073709551615) ww le
 have lne:18446744073709551615^^^e<18446744073709551616:=Ys ww le
 have a3:=W5 lne lg
 have a4:Zr .xor .u64 ((e&&&f:Nat):Int) (((18446744073709551615^^^e)&&&g:Nat):Int)=((chO e f g:Nat):Int):=Wm (Xw lf) (Xw lg)
 have a5:=W5 la lb
 have a6:=W5 la lc
 have a7:=W5 lb lc
 have a8:=Wm (a:=a&&&b) (b:=a&&&c) (Xw lb) (Xw lc)
 have a9:Zr .xor .u64 (((a&&&b)^^^(a&&&c):Nat):Int) ((b&&&c:Nat):Int)=((maO a b c:Nat):Int):=Wm (Ys (Xw lb) (Xw lc)) (Xw lc)
 have m1:=W6 h (Sg1 e)
 have m2:=W6 ((h+Sg1 e)%18446744073709551616) (chO e f g)
 have m3:=W6 (((h+Sg1 e)%18446744073709551616+chO e f g)%18446744073709551616) k
 have m4:=W6 ((((h+Sg1 e)%18446744073709551616+chO e f g)%18446744073709551616+k)%18446744073709551616) v
 have hT1:((((h+Sg1 e)%18446744073709551616+chO e f g)%18446744073709551616+k)%18446744073709551616+v)%18446744073709551616=t1O [a,b,c,d,e,f,g,h] k v:=by
  show _=(h+Sg1 e+chO e f g+k+v)%18446744073709551616
  omega
 rw[hT1]at m4
 have m5:IntKind.u64.wrap ((Sg0 a:Int)+(maO a b c:Int))=((t2O [a,b,c,d,e,f,g,h]:Nat):Int):=W6 (Sg0 a) (maO a b c)
 have m6:=W6 (t1O [a,b,c,d,e,f,g,h] k v) (t2O [a,b,c,d,e,f,g,h])
 have m7:=W6 d (t1O [a,b,c,d,e,f,g,h] k v)
 have hr:rnd [a,b,c,d,e,f,g,h] k v=[(t1O [a,b,c,d,e,f,g,h] k v+t2O [a,b,c,d,e,f,g,h])%18446744073709551616,a,b,c,(d+t1O [a,b,c,d,e,f,g,h] k v)%18446744073709551616,e,f,g]:=rfl
 have hf:=oC ((t1O [a,b,c,d,e,f,g,h] k v+t2O [a,b,c,d,e,f,g,h])%18446744073709551616) a b c ((d+t1O [a,b,c,d,e,f,g,h] k v)%18446744073709551616) e f g
 rw[<-hr]at hf
 have lR:=bF [a,b,c,d,e,f,g,h] k v
 have e1:((i:Int)<80)=True:=wf
 have w3:IntKind.i64.wrap ((i:Int)+1)=((i+1:Nat):Int):=Z3 (b:=1) qr
 have vi:Lb none 80 1 (eV Ky) (.int .i64 (i:Int))=some (.int .u64 (k:Nat)):=by
  unfold eV
  rw[DF]
  simp only[e1,Qr,quiet,cK,↓pQ,reduceCtorEq,seval,-Qb,cL,kc]
 have g0:(ns .u64 [a,b,c,d,e,f,g,h])[0]?=some (.int .u64 (a:Nat)):=rfl
 have g1:(ns .u64 [a,b,c,d,e,f,g,h])[1]?=some (.int .u64 (b:Nat)):=rfl
 have g2:(ns .u64 [a,b,c,d,e,f,g,h])[2]?=some (.int .u64 (c:Nat)):=rfl
 have g3:(ns .u64 [a,b,c,d,e,f,g,h])[3]?=some (.int .u64 (d:Nat)):=rfl
 have g4:(ns .u64 [a,b,c,d,e,f,g,h])[4]?=some (.int .u64 (e:Nat)):=rfl
 have g5:(ns .u64 [a,b,c,d,e,f,g,h])[5]?=some (.int .u64 (f:Nat)):=rfl
 have g6:(ns .u64 [a,b,c,d,e,f,g,h])[6]?=some (.int .u64 (g:Nat)):=rfl
 have g7:(ns .u64 [a,b,c,d,e,f,g,h])[7]?=some (.int .u64 (h:Nat)):=rfl
 have lS:(ns .u64 [a,b,c,d,e,f,g,h]).length=8:=rfl
 clear hT1 hr hk hv kc hs hx
 generalize rnd [a,b,c,d,e,f,g,h] k v=R at *
 generalize(t1O [a,b,c,d,e,f,g,h] k v+t2O [a,b,c,d,e,f,g,h])%18446744073709551616=z1 at *
 generalize(d+t1O [a,b,c,d,e,f,g,h] k v)%18446744073709551616=z2 at *
 generalize t1O [a,b,c,d,e,f,g,h] k v=t1 at *
 generalize t2O [a,b,c,d,e,f,g,h]=t2 at *
 generalize(((h+Sg1 e)%18446744073709551616+chO e f g)%18446744073709551616+k)%18446744073709551616=z3 at *
 generalize((h+Sg1 e)%18446744073709551616+chO e f g)%18446744073709551616=z4 at *
 generalize(h+Sg1 e)%18446744073709551616=z5 at *
 generalize Sg1 e=se,Sg0 a=sa,chO e f g=cc,maO a b c=mm at *
 generalize(a&&&b)^^^(a&&&c)=q1 at *
 generalize(18446744073709551615^^^e)&&&g=q2 at *
 generalize 18446744073709551615^^^e=q3 at *
 generalize e&&&f=q4 at *
 generalize a&&&b=q5 at *
 generalize a&&&c=q6 at *
 generalize b&&&c=q7 at *
 generalize JV e 14^^^JV e 18=q8,JV a 28^^^JV a 34=q9 at *
 generalize JV e 14=p1,JV e 18=p2,JV e 41=p3,JV a 28=p4,JV a 34=p5,JV a 39=p6 at *
 generalize i+1=i1 at *
 generalize hS:ns .u64 [a,b,c,d,e,f,g,h]=S at *
 simp only[w1I,hS]
 generalize eV Ky=kt at *
 simp only[Dj,Qr,quiet,cW,↓pW,reduceCtorEq,seval,-Qb,e1,vi,vc,r14,r18,r41,r28,r34,r39,x1,x2,x3,x4,a1,a2,a3,a4,a5,a6,a7,a8,a9,m1,m2,m3,m4,m5,m6,m7,hf,w3,g0,g1,g2,g3,g4,g5,g6,g7,lS,Q8,hw,lR,Qx,Qe]
theorem i5{P:Value}(hw:w.length=80)(hs:s.length=8)(hx:∀x∈s,x<18446744073709551616) :
  Q0 T H.length (.block 4 (.loop Dj)) (w1I H P w s 0 [])=some (.normal,w1I H P w (GN 80 w s) 80 [(88,.bool false)]):=by
 have h:=ZR (T:=T) (base:=H.length) (id:=4) (body:=Dj) (fun i=>w1I H P w (GN i w s) i []) (s':=w1I H P w (GN 80 w s) 80 [(88,.bool false)]) 80
  (fun i hi=>qn hw (Bu hs w i) (Lr hs hx w i) hi)
  (by
   generalize GN 80 w s=R
   simp only[w1I]
   generalize eV Ky=kt
   simp only[Dj,Qr,quiet,cW,↓pW,reduceCtorEq,seval,-Qb])
 exact h
def hcl(rv:Value)(n:Nat)(st:List Nat):List Value:=rv::.int .u64 (n:Nat)::ns .u64 st
def hob(rv:Value)(n:Nat)(st:List Nat):Ob:={c:=hcl rv n st}
theorem HU(rv:Value)(n:Nat)(st:List Nat):(hcl rv n st).length=2+st.length:=by simp[hcl,Q8];omega
theorem cE(h:st[i]?=some x):(hcl rv n st)[2+i]?=some (.int .u64 (x:Nat)):=by
 rw[Xu];exact ZJ h
theorem ta(rv:Value)(n i x:Nat)(st:List Nat):(hcl rv n st).set (2+i) (.int .u64 (x:Nat))=hcl rv n (st.set i x):=by
 rw[Xu]
 show rv::.int .u64 (n:Nat)::(ns .u64 st).set i _=_
 rw[Xt];rfl
theorem I7(h:st.length=8):Zi 8 (J2 2 (hcl rv n st))=ns .u64 st:=by
 show Zi 8 (ns .u64 st)=_
 rw[Qm (by rw[Q8];omega)]
theorem tX(hs:s.length=8):(blk s b).length=8:=by unfold blk;rw[V7,Bu hs,hs];rfl
theorem xQ:∀x∈blk s b,x<18446744073709551616:=by
 intro x hx
 unfold blk at hx
 obtain⟨i,hi⟩:=Xf hx
 rw[KL]at hi
 split at hi
 ·cases hi;exact Q9 _ ww
 ·cases hi
theorem J5{b:Nat}:∀ {M L:List Nat} {i:Nat},i∈Q1 b L M->i∈L\/i∈M
 |[],L,i,h=>.inl h
 |m::M,L,i,h=>by
  simp only[Q1]at h
  split at h
  ·rcases J5 h with h1|h1
   ·rcases QC.1 h1 with h2|h2
    ·exact .inl h2
    ·exact .inr (by rw[Xn.1 h2];exact List.mem_cons_self)
   ·exact .inr (Vq _ h1)
  ·rcases J5 h with h1|h1
   ·exact .inl h1
   ·exact .inr (Vq _ h1)
def w0I(H:List Ob)(hid:Nat)(rv:Value)(n:Nat)(st:List Nat)(s L:List Nat)(ob1 ob2:Ob)(i:Int)(ex:Env):St:=⟨[(0,.pointer hid),(174,eV s),(175,.int .i64 i)]++ex,H.set hid (hob rv n st)++[ob1,ob2],L⟩
theorem i9{ob1 ob2:Ob}(hh:hid<H.length)(hs:s.length=8)(hst:st.length=8) :
  ∃L,Q0 T H.length (.block 6 (.loop Ry)) (w0I H hid rv n st s [] ob1 ob2 0 [])=some (.normal,w0I H hid rv n (JS (fun x y=>(x+y)%18446744073709551616) st s) s L ob1 ob2 8 [(176,.bool false)])/\∀i∈L,i=hid:=by
 have hZ:(JS (fun x y=>(x+y)%18446744073709551616) st s).length=8:=by rw[V7,hs,hst];rfl
 obtain⟨Z,hZd⟩:∃Z,Z=JS (fun x y=>(x+y)%18446744073709551616) st s:=⟨_,rfl⟩
 rw[<-hZd]at hZ ⊢
 obtain⟨st',hb,L,rfl,hL⟩:=Zh (T:=T) (base:=H.length) (id:=6) (body:=Ry)
  (fun i x=>∃L,x=w0I H hid rv n (Z.take i++st.drop i) s L ob1 ob2 i []/\∀j∈L,j=hid)
  (Q:=fun x=>∃L,x=w0I H hid rv n Z s L ob1 ob2 8 [(176,.bool false)]/\∀j∈L,j=hid)
  8 (s:=w0I H hid rv n st s [] ob1 ob2 0 []) ⟨[],rfl,by simp⟩
  (fun i x hi hx=>by
   obtain⟨L,rfl,hL⟩:=hx
   obtain⟨u,hu⟩:∃u,st[i]?=some u:=⟨_,Qf qr⟩
   obtain⟨v,hv⟩:∃u,s[i]?=some u:=⟨_,Qf qr⟩
   have hz:Z[i]?=some ((u+v)%18446744073709551616):=by rw[hZd,KL,hu,hv]
   have hlt:(Z.take i).length=i:=by rw[Q3];omega
   have hg:(Z.take i++st.drop i)[i]?=some u:=by
    rw[Qh qr,hlt,Q7,Zp];exact hu
   have hstep:(Z.take i++st.drop i).set i ((u+v)%18446744073709551616)=Z.take (i+1)++st.drop (i+1):=by
    rw[ZV _ _ qr,hlt,Q7,List.drop_eq_getElem?_toList_append (i:=i),hu,Zx,hz]
    simp
   have hlen:(Z.take i++st.drop i).length=8:=by rw[Qj,QN,hlt];omega
   have gc:=cE (rv:=rv) (n:=n) hg
   have sc:=ta rv n i ((u+v)%18446744073709551616) (Z.take i++st.drop i)
   rw[hstep]at sc
   have cl:=HU rv n (Z.take i++st.drop i)
   rw[hlen]at cl
   have vc:=ZJ (k := .u64) hv
   have vi:Lb none 8 1 (eV s) (.int .i64 (i:Int))=some (.int .u64 (v:Nat)):=by
    have e1:((i:Int)<8)=True:=wf
    unfold eV
    rw[DF]
    simp only[e1,Qr,quiet,cK,↓pQ,reduceCtorEq,seval,-Qb,cL,vc]
   have m1:=W6 u v
   have e1:((i:Int)<8)=True:=wf
   have w3:IntKind.i64.wrap ((i:Int)+1)=((i+1:Nat):Int):=Z3 (b:=1) qr
   have hget:∀o:Ob,(H.set hid o++[ob1,ob2])[hid]?=some o:=fun o=>by
    rw[Qc (by rw[Q4];exact hh),Qw hh]
   have hset:∀o o':Ob,(H.set hid o++[ob1,ob2]).set hid o'=H.set hid o'++[ob1,ob2]:=fun o o'=>by
    rw[Vp _ _ (by rw[Q4];exact hh),Yh]
   have e5:(2+i+1<=2+8)=True:=wf
   refine⟨w0I H hid rv n (Z.take (i+1)++st.drop (i+1)) s (Q1 H.length L [hid]) ob1 ob2 ((i+1:Nat):Int) [],?_,_,rfl,?_⟩
   ·generalize Z.take (i+1)++st.drop (i+1)=O2,Z.take i++st.drop i=O1 at *
    generalize(u+v)%18446744073709551616=z at *
    simp only[w0I,hob]
    generalize hcl rv n O1=C1,hcl rv n O2=C2,eV s=sv at *
    generalize i+1=i1 at *
    simp only[Ry,Qr,quiet,cW,↓pW,reduceCtorEq,seval,-Qb,e1,vi,m1,w3,gc,sc,cl,e5,hget,hset]
    done
   ·intro j hj
    rcases J5 hj with h|h
    ·exact hL j h
    ·simpa using h)
  (fun x hx=>by
   obtain⟨L,rfl,hL⟩:=hx
   rw[Qm qr,Zu qr,QG]
   refine⟨_,?_,L,rfl,hL⟩
   simp only[w0I,hob]
   generalize hcl rv n Z=C
   generalize eV s=sv
   simp only[Ry,Qr,quiet,cW,↓pW,reduceCtorEq,seval,-Qb])
 exact⟨L,hb,hL⟩
theorem Wb{α:Type}{l:List α}{i:Nat}{x:α}(h:l[i]?=some x):l.set i x=l:=by
 apply ZW
 intro k
 rw[Kw]
 by_cases c:i=k
 ·rw[if_pos c,<-c,h,if_pos (Qg.1 h).1]
 ·rw[if_neg c]
def IX:List Nat:=Qa 80 0
theorem vB:Qa 80 (Value.int .u64 0)=ns .u64 IX:=rfl
theorem qe:IX.length=80:=rfl
def hJ:List Nat:=Qa 8 0
theorem z8_eq:Qa 8 (Value.int .u64 0)=ns .u64 hJ:=rfl
theorem vA:hJ.length=8:=rfl
theorem pt(hh:H[hid]?=some (hob rv n st))(hs:st.length=8)(hx:∀x∈st,x<18446744073709551616)(hb:BB H id off b)(hl:b.length=128)(hc:128<=cap) :
  ∃w s M,Z6 T 210 [.pointer hid,.slice (some ⟨id,off,none⟩) 128 cap] H=some (.tuple #[],H.set hid (hob rv n (blk st b))++[w,s],M)/\∀i∈M,i=hid:=by
 have hlt:hid<H.length:=(Qg.1 hh).1
 have h3:=ix (P := .pointer hid) (cap:=cap) hb hl hc
 have hWl:=YF b
 have h1:=i5 (H:=H) (P := .pointer hid) hWl hs hx
 have lr:=Bu hs (JY b) 80
 obtain⟨L,h0,hL⟩:=i9 (H:=H) (hid:=hid) (n:=n) (rv:=rv) (ob1:={c:=ns .u64 (JY b)}) (ob2:={c:=ns .u64 (GN 80 (JY b) st)}) hlt lr hs
 rw[show JS (fun x y=>(x+y)%18446744073709551616) st (GN 80 (JY b) st)=blk st b from rfl]at h0
 have hss:H.set hid (hob rv n st)=H:=Wb hh
 refine⟨{c:=ns .u64 (JY b)},{c:=ns .u64 (GN 80 (JY b) st)},L,?_,hL⟩
 simp only[w0I,hss,Qn,Ql,QA]at h0
 have hz:=vB
 have lz:=qe
 have hz8:=z8_eq
 have lz8:=vA
 rw[show Qa 80 0=IX from rfl]at h3
 simp only[w3I,Qn,Ql,QA]at h3
 simp only[w1I,Qn,Ql,QA]at h1
 have ht:=bw
 have hcs:=I7 (rv:=rv) (n:=n) hs
 have hcl8:2+8<=(hcl rv n st).length:=by rw[HU];omega
 have hget:∀l:List Ob,(H++l)[hid]?=some {c:=hcl rv n st}:=fun l=>by rw[Qc hlt];exact hh
 have lk:=Ul
 generalize H.set hid (hob rv n (blk st b))=H' at *
 generalize JY b=W at *
 generalize GN 80 W st=R,hcl rv n st=C at *
 generalize IX=Z at *
 generalize hJ=Z8 at *
 generalize Ky=KT at *
 rw[QY (fn:=yX) rfl]
 simp only[yX,Qr,quiet,cW,↓pW,reduceCtorEq,seval,-Qb,hz,hz8,h3,h1,h0,ht,hget,hcs,hcl8,Qe,Qx,Qy,Q5,Za,Q6,Q8,hWl,hs,lr,lz,lz8,lk,QR]
 rfl
inductive Rst(K:Nat->Prop)(H:List Ob):Value->List Nat->Prop
 |nil:Rst K H (.slice none 0 0) []
 |empty {id:Nat}:¬K id->H[id]?=some {c:=[]}->Rst K H (.slice id 0 0) []
 |own {id off:Nat} {all l:List Nat}:¬K id->H[id]?=some ⟨u8s all,true,true,false,1⟩->off+l.length<=all.length->(∀i,i<l.length->all[off+i]?=l[i]?)->Rst K H (.slice (some ⟨id,off,none⟩) l.length l.length) l
theorem Rst.app{K:Nat->Prop}{H m:List Ob}{v:Value}{l:List Nat}(h:Rst K H v l):Rst K (H++m) v l:=by
 cases h with
 |nil=>exact .nil
 |empty h1 h2=>exact .empty h1 (by rw[Qc (Qg.1 h2).1];exact h2)
 |own h1 h2 h4 h3=>exact .own h1 (by rw[Qc (Qg.1 h2).1];exact h2) h4 h3
theorem Rst.setH{K:Nat->Prop}{H:List Ob}{v:Value}{l:List Nat}{hid n:Nat}{rv:Value}{st:List Nat}(h:Rst K H v l)(hh:H[hid]?=some (hob rv n st))(o:Ob):Rst K (H.set hid o) v l:=by
 cases h with
 |nil=>exact .nil
 |empty h1 h2=>exact .empty h1 (by
   rw[Qu]
   ·exact h2
   ·intro e;subst e
    have:=congrArg Ob.c (Xp (hh.symm.trans h2))
    simp[hob,hcl]at this)
 |own h1 h2 h4 h3=>exact .own h1 (by
   rw[Qu]
   ·exact h2
   ·intro e;subst e
    have:=congrArg Ob.exact (Xp (hh.symm.trans h2))
    simp[hob]at this) h4 h3
theorem AJ{all:List Nat}(h:∀i,i<l.length->all[off+i]?=l[i]?):((u8s all).drop off).take l.length=u8s l:=by
 apply ZW
 intro i
 rw[QW]
 split
 ·rename_i hi
  rw[Zp]
  have:=h i hi
  simp only[u8s,JB,this]
 ·rename_i hi
  rw[QI (by rw[Qq];omega)]
theorem Rst.append{K:Nat->Prop}{H:List Ob}{v x:Value}{l p:List Nat}(h:Rst K H v l)(hK:∀i,K i->i<H.length)(hl:Go.Ev.lenV x=some p.length)(he:elemsOf H 1 p.length x=some (u8s p))(hb:l.length+p.length<=2^47) :
  ∃v' H' M,Jw 1 1 H v x=some (v',H',none,M)/\Rst K H' v' (l++p)/\(∀i∈M,¬K i)/\H.length<=H'.length/\(∀i,K i->H'[i]?=H[i]?)/\∀(i:Nat) (o:Ob),H[i]?=some o->o.exact=true->H'[i]?=some o:=by
 rcases Jo p.length with hn|hn
 ·have:p=[]:=J7 hn
  subst this
  rw[QG]
  refine⟨v,H,[],?_,h,by simp,Qs _,fun _ _=>rfl,fun i o h _=>h⟩
  rw[ZT]at hl he
  cases h<;>simp only[Jw,hl,he,Qp,if_true]
 ·have h1:¬p.length=0:=qr
  have hnew:¬K H.length:=fun h=>absurd (hK _ h) (Nat.lt_irrefl _)
  cases h with
  |nil =>
   refine⟨.slice H.length p.length p.length,H++[Ob.grown 1 (u8s p)],[],?_,?_,by simp,by simp,?_,?_⟩
   ·have h2:(0+p.length)*1<=2^47/\0<1/\0<1:=⟨by simpa using hb,by decide,by decide⟩
    simp only[Jw,hl,he,Qp,if_neg h1,h2,and_self,not_true_eq_false,if_false,if_true]
   ·rw[Ql]
    exact .own (all:=p) hnew (by simp[Ob.grown]) qr (fun i _=>by rw[QL])
   ·intro i hi;rw[Qc (hK i hi)]
   ·intro i o ho _;rw[Qc (Qg.1 ho).1];exact ho
  |@empty id0 k1 k2 =>
   refine⟨.slice H.length (0+p.length) (0+p.length),H++[Ob.grown 1 ([]++u8s p)],[],?_,?_,by simp,by simp,?_,?_⟩
   ·have h2:(0+p.length)*1<=2^47/\0<1/\0<1:=⟨by simpa using hb,by decide,by decide⟩
    have h4:liveAt H id0=some {c:=[]}:=Zz k2 rfl
    have h7:¬(0+p.length<=0):=qr
    have h8:elemsOf H 1 0 (.slice id0 0 0)=some []:=by simp[elemsOf,h4]
    simp only[Jw,hl,he,Qp,if_neg h1,h2,and_self,not_true_eq_false,if_false,if_true,h4,h8,if_neg h7]
   ·rw[Ql,Ql,QL]
    exact .own (all:=p) hnew (by simp[Ob.grown]) qr (fun i _=>by rw[QL])
   ·intro i hi;rw[Qc (hK i hi)]
   ·intro i o ho _;rw[Qc (Qg.1 ho).1];exact ho
  |@own id0 off all _ k1 k2 k4 k3 =>
   have hid:id0<H.length:=(Qg.1 k2).1
   refine⟨.slice H.length (l.length+p.length) (l.length+p.length),(H.set id0 Ob.dead)++[Ob.grown 1 (u8s l++u8s p)],[id0],?_,?_,by simpa using k1,by simp,?_,?_⟩
   ·have h2:(l.length+p.length)*1<=2^47/\0<1/\0<1:=⟨by omega,by decide,by decide⟩
    have h4:liveAt H id0=some ⟨u8s all,true,true,false,1⟩:=Zz k2 rfl
    have h7:¬(l.length+p.length<=l.length):=qr
    have h8:elemsOf H 1 l.length (.slice (some ⟨id0,off,none⟩) l.length l.length)=some (u8s l):=by
     have:=AJ k3
     simp only[elemsOf,h4,Qp,Vn]
     rw[this]
     simp[Qq,k4]
    simp only[Jw,hl,he,Qp,if_neg h1,h2,and_self,not_true_eq_false,if_false,if_true,h4,h8,if_neg h7,ZM,Qs]
   ·have:=Rst.own (K:=K) (H:=(H.set id0 Ob.dead)++[Ob.grown 1 (u8s l++u8s p)]) (id:=H.length) (off:=0) (all:=l++p) (l:=l++p) hnew (by simp[Ob.grown,u8s]) qr (fun i _=>by rw[QL])
    rwa[Qj]at this
   ·intro i hi
    rw[Qc (by rw[Q4];exact hK i hi),Qu (fun e=>k1 (by rw[e];exact hi))]
   ·intro i o ho hex
    rw[Qc (by rw[Q4];exact(Qg.1 ho).1),Qu]
    ·exact ho
    ·intro e;subst e;rw[k2]at ho;cases ho;cases hex
theorem HF(b:List Nat):∀n,(stK n b).length=8
 |0=>rfl
 |n+1=>tX (HF b n)
theorem ku:∀x∈YX,x<18446744073709551616:=ww
theorem Lm(b:List Nat):∀n,∀x∈stK n b,x<18446744073709551616
 |0=>ku
 |n+1=>xQ
theorem bC(a b:List Nat):∀q,128*q<=a.length->stK q (a++b)=stK q a
 |0,_=>rfl
 |q+1,h=>by
  rw[stK,stK,bC a b q qr,Jf qr,ZO (by rw[QN];omega)]
def Hsh(K:Nat->Prop)(H:List Ob)(hid:Nat)(all:List Nat):Prop:=∃rv,H[hid]?=some (hob rv all.length (stK (all.length/128) all))/\Rst K H rv (all.drop (128*(all.length/128)))
def fdF(hid:Nat):Value := .func (.func 210) [Value.pointer hid].toArray [].toArray
def fdI(hid:Nat)(H:List Ob)(L:List Nat)(ex:Env):St:=⟨[(0,.pointer hid),(1,.int .i64 128),(3,fdF hid)]++ex,H,L⟩
theorem tC{rest:List Nat}{ex:Env}(hK:∀i,K i->i<H.length)(hKh:¬K hid)(hh:H[hid]?=some (hob rv n st))(hs:st.length=8)(hx:∀x∈st,x<18446744073709551616)(hr:Rst K H rv rest)(h128:128<=rest.length)(xr:∀x∈rest,x<256)(hL:∀i∈L,¬K i)(hmx:rest.length<2^60) :
  ∃rv' H' L' ex',Q0 T b0 WJ (fdI hid H L ex)=some (.normal,fdI hid H' L' ex')/\H'[hid]?=some (hob rv' n (blk st (rest.take 128)))/\Rst K H' rv' (rest.drop 128)/\(∀i,K i->H'[i]?=H[i]?)/\H.length<=H'.length/\∀i∈L',¬K i:=by
 have hlt:hid<H.length:=(Qg.1 hh).1
 cases hr with
 |nil=>exact absurd h128 ww
 |empty _ _=>exact absurd h128 ww
 |@own id off all _ k1 k2 k4 k3 =>
  have hidne:id≠hid:=fun e=>by
   subst e
   have:=congrArg Ob.exact (Xp (hh.symm.trans k2))
   simp[hob]at this
  have hBB:BB H id off (rest.take 128):=⟨⟨all,k2,fun i hi=>by
   rw[Q3]at hi
   rw[k3 i qr,QW,if_pos qr]⟩,fun x hx=>xr x (QP hx)⟩
  have hl:(rest.take 128).length=128:=by rw[Q3];omega
  obtain⟨w,s,M,hb,hM⟩:=pt (cap:=rest.length) hh hs hx hBB hl h128
  have c0:∀s',(hcl (.slice (some ⟨id,off,none⟩) rest.length rest.length) n s')[0]?=some (.slice (some ⟨id,off,none⟩) rest.length rest.length):=fun _=>rfl
  have cs:∀s' v,(hcl (.slice (some ⟨id,off,none⟩) rest.length rest.length) n s').set 0 v=hcl v n s':=fun _ _=>rfl
  have cl:∀v s',(1<=(hcl v n s').length)=True:=fun v s'=>eq_true (by rw[HU];omega)
  have b1:J8 rest.length rest.length none (some (.int .i64 128)) none=some (0,128,rest.length):=by
   have n1:Va (some (.int .i64 128)) rest.length rest.length=some 128:=Kk (n:=128) h128
   rw[Ki,n1,Qp];rfl
  have b2:J8 rest.length rest.length (some (.int .i64 128)) none none=some (128,rest.length,rest.length):=by
   have n1:Va (some (.int .i64 128)) rest.length 0=some 128:=Kk (n:=128) h128
   rw[Ki,Ui,Qp,n1,Qp]
  have e1:((128:Int)<=(rest.length:Int))=True:=wf
  have g0:H[hid]?=some {c:=hcl (.slice (some ⟨id,off,none⟩) rest.length rest.length) n st}:=hh
  have g1:∀o:Ob,(H.set hid o++[w,s])[hid]?=some o:=fun o=>by
   rw[Qc (by rw[Q4];exact hlt),Qw hlt]
  have g2:∀o:Ob,(H.set hid o++[w,s])[id]?=some ⟨u8s all,true,true,false,1⟩:=fun o=>by
   rw[Qc (by rw[Q4];exact(Qg.1 k2).1),Qu (Ne.symm hidne)];exact k2
  have g3:∀o o':Ob,(H.set hid o++[w,s]).set hid o'=H.set hid o'++[w,s]:=fun o o'=>by
   rw[Vp _ _ (by rw[Q4];exact hlt),Yh]
  refine⟨.slice (some ⟨id,off+128,none⟩) (rest.length-128) (rest.length-128),H.set hid (hob (.slice (some ⟨id,off+128,none⟩) (rest.length-128) (rest.length-128)) n (blk st (rest.take 128)))++[w,s],Q1 b0 (Q1 b0 L M) [hid],[],?_,g1 _,?_,?_,?_,?_⟩
  ·simp only[hob]at hb ⊢
   generalize blk st (rest.take 128)=st' at *
   simp only[fdI,fdF,WJ,Qr,quiet,cW,↓pW,reduceCtorEq,seval,-Qb,e1,b1,b2,hb,c0,cs,cl,g0,k2,g1,g2,g3]
  ·have:=Rst.own (K:=K) (H:=H.set hid (hob (.slice (some ⟨id,off+128,none⟩) (rest.length-128) (rest.length-128)) n (blk st (rest.take 128)))++[w,s]) (id:=id) (off:=off+128) (all:=all) (l:=rest.drop 128) k1 (g2 _) (by rw[QN];omega) (fun i hi=>by
    rw[QN]at hi
    rw[Zp,<-k3 _ qr,Zb])
   rwa[QN]at this
  ·intro i hi
   rw[Qc (by rw[Q4];exact hK i hi),Qu (fun e=>hKh (by rw[e];exact hi))]
  ·simp
  ·intro i hi
   rcases J5 hi with h|h
   ·rcases J5 h with h|h
    ·exact hL i h
    ·rw[hM i h];exact hKh
   ·rw[Xn.1 h];exact hKh
theorem Rst.shape{K:Nat->Prop}{H:List Ob}{v:Value}{l:List Nat}(h:Rst K H v l):∃(a:Option Addr) (c:Nat),v=.slice a l.length c:=by
 cases h with
 |nil=>exact⟨_,_,rfl⟩
 |empty _ _=>exact⟨_,_,rfl⟩
 |own _ _ _ _=>exact⟨_,_,rfl⟩
theorem tv{x:Value}{all p:List Nat}(hK:∀i,K i->i<H.length)(hKh:¬K hid)(hh:Hsh K H hid all)(xa:∀y∈all,y<256)(xp:∀y∈p,y<256)
 (hl:∃(a:Option Addr) (c:Nat),x=.slice a p.length c) (he:∀o,elemsOf (H.set hid o) 1 p.length x=some (u8s p)) (hb:all.length+p.length<2^50) (hb2:p.length<=2^47-128) :
    ∃H' M,Z6 T 177 [.pointer hid,.int .i64 128,x,fdF hid] H=some (.tuple #[],H',M)/\Hsh K H' hid (all++p)/\(∀i,K i->H'[i]?=H[i]?)/\H.length<=H'.length/\∀i∈M,¬K i:=by
  obtain⟨rv,h1,h2⟩:=hh
  have hlt:hid<H.length:=(Qg.1 h1).1
  obtain⟨q0,hq0⟩:∃q,q=all.length/128:=⟨_,rfl⟩
  rw[<-hq0]at h1 h2
  have hq1:128*q0<=all.length:=by rw[hq0];omega
  have hst:stK q0 all=stK q0 (all++p):=(bC all p q0 hq1).symm
  have hN:(all++p).length=all.length+p.length:=Qj
  rw[hst]at h1
  obtain⟨st0,hst0⟩:∃s,s=stK q0 (all++p):=⟨_,rfl⟩
  rw[<-hst0]at h1
  have hrest:all.drop (128*q0)++p=(all++p).drop (128*q0):=(Jf hq1).symm
  have hrl:(all.drop (128*q0)).length<=127:=by rw[QN,hq0];omega
  have hr1:Rst K (H.set hid (hob rv (all.length+p.length) st0)) rv (all.drop (128*q0)):=h2.setH h1 _
  have hK1:∀i,K i->i<(H.set hid (hob rv (all.length+p.length) st0)).length:=fun i hi=>by rw[Q4];exact hK i hi
  have hlen:Go.Ev.lenV x=some p.length:=by obtain⟨a,c,rfl⟩:=hl;rfl
  obtain⟨rv',H2,M2,ha,a1,a2,a3,a4,a5⟩:=hr1.append hK1 hlen (he _) qr
  have hg1:(H.set hid (hob rv (all.length+p.length) st0))[hid]?=some (hob rv (all.length+p.length) st0):=Qw hlt
  have hg2:=a5 hid _ hg1 rfl
  rw[Q4]at a3
  have hlt2:hid<H2.length:=qr
  have hr3:Rst K (H2.set hid (hob rv' (all.length+p.length) st0)) rv' ((all++p).drop (128*q0)):=by
    rw[hrest]at a1
    exact a1.setH hg2 _
  have hg3:(H2.set hid (hob rv' (all.length+p.length) st0))[hid]?=some (hob rv' (all.length+p.length) st0):=Qw hlt2
  obtain⟨H3,hH3⟩:∃X,X=H2.set hid (hob rv' (all.length+p.length) st0):=⟨_,rfl⟩
  have hf3:∀i,K i->H3[i]?=H[i]? := fun i hi=>by
    have hne:hid≠i:=fun e=>hKh (by rw[e];exact hi)
    rw[hH3,Qu hne,a4 i hi,Qu hne]
  have hl3:H.length<=H3.length:=by rw[hH3,Q4];exact a3
  obtain⟨L3,hL3⟩:∃L,L=Q1 H.length (Q1 H.length (Q1 H.length [] [hid]) M2) [hid]:=⟨_,rfl⟩
  have hL3':∀i∈L3,¬K i:=fun i hi=>by
    rw[hL3]at hi
    rcases J5 hi with h|h
    · rcases J5 h with h|h
      · rcases J5 h with h|h
        · simp at h
        · rw[Xn.1 h];exact hKh
      · exact a2 i h
    · rw[Xn.1 h];exact hKh
  rw[<-hH3]at hr3 hg3
  obtain⟨st,hloop,H',L',ex',rvf,rfl,f1,f2,f3,f4,f5⟩:=Zh (T:=T) (base:=H.length) (id:=0) (body:=WJ)
    (fun k st=>∃H' L' ex' rvk,st=fdI hid H' L' ex'/\H'[hid]?=some (hob rvk (all.length+p.length) (stK (q0+k) (all++p)))/\Rst K H' rvk ((all++p).drop (128*(q0+k)))/\(∀i,K i->H'[i]?=H[i]?)/\H.length<=H'.length/\∀i∈L',¬K i)
    (Q:=fun st=>∃H' L' ex' rvk,st=fdI hid H' L' ex'/\H'[hid]?=some (hob rvk (all.length+p.length) (stK ((all++p).length/128) (all++p)))/\Rst K H' rvk ((all++p).drop (128*((all++p).length/128)))/\(∀i,K i->H'[i]?=H[i]?)/\H.length<=H'.length/\∀i∈L',¬K i)
    ((all++p).length/128-q0) (s:=fdI hid H3 L3 []) ⟨H3,L3,[],rv',rfl,by rw[Jl,<-hst0];exact hg3,by rw[Jl];exact hr3,hf3,hl3,hL3'⟩
    (fun k st hk hs=>by
      obtain⟨Hk,Lk,exk,rvk,rfl,k1,k2,k3,k4,k5⟩:=hs
      obtain⟨rv2,Hk2,L2,ex2,j1,j2,j3,j4,j5,j6⟩:=tC (b0:=H.length) (ex:=exk) (fun i hi=>QM (hK i hi) k4) hKh k1 (HF _ _) (Lm _ _) k2 (by rw[QN];omega) (fun y hy=>by
        rcases QC.1 (ZF hy)with h|h
        · exact xa y h
        · exact xp y h) k5 (by rw[QN];omega)
      refine⟨_,j1,Hk2,L2,ex2,rv2,rfl,j2,?_,fun i hi=>(j4 i hi).trans (k3 i hi),Xm k4 j5,j6⟩
      rw[List.drop_drop]at j3
      rw[show 128*(q0+(k+1))=128*(q0+k)+128 by omega]
      exact j3)
    (fun st hs=>by
      obtain⟨Hk,Lk,exk,rvk,rfl,k1,k2,k3,k4,k5⟩:=hs
      have hqq:q0+((all++p).length/128-q0)=(all++p).length/128:=by
        have:q0<=(all++p).length/128:=by rw[hq0,hN];omega
        omega
      rw[hqq]at k1 k2
      have hrl2:((all++p).drop (128*((all++p).length/128))).length<128:=by rw[QN];omega
      obtain⟨v,c,hv⟩:=k2.shape
      refine⟨_,?_,Hk,Lk,[(33,.bool false)],rvk,rfl,k1,k2,k3,k4,k5⟩
      subst hv
      have c0:∀v' s',(hcl v' (all.length+p.length) s')[0]?=some v':=fun _ _=>rfl
      have e1:((128:Int)<=(((all++p).drop (128*((all++p).length/128))).length:Int))=False:=wr
      simp only[hob]at k1
      generalize((all++p).drop (128*((all++p).length/128))).length=rl,stK ((all++p).length/128) (all++p)=sk at *
      simp only[fdI,fdF,WJ,Qr,quiet,cW,↓pW,reduceCtorEq,seval,-Qb,e1,k1,c0])
  refine⟨H',L',?_,⟨rvf,by rw[hN]at f1 ⊢;exact f1,f2⟩,f3,f4,f5⟩
  obtain⟨c1,c2,rfl⟩:=hl
  simp only[fdI,Qn,Ql,hL3]at hloop
  simp only[hob]at h1 ha hg2 hH3
  have w1:IntKind.u64.wrap (p.length:Int)=(p.length:Int):=Kz qr
  have w2:IntKind.u64.wrap ((all.length:Int)+(p.length:Int))=((all.length+p.length:Nat):Int):=Wf qr
  have c0:∀v' n' s',(hcl v' n' s')[0]?=some v':=fun _ _ _=>rfl
  have c1':∀v' (n':Nat) s',(hcl v' n' s')[1]?=some (.int .u64 n'):=fun _ _ _=>rfl
  have s0:∀v' n' s' v,(hcl v' n' s').set 0 v=hcl v n' s':=fun _ _ _ _=>rfl
  have s1:∀v' n' s' (m:Nat),(hcl v' n' s').set 1 (.int .u64 (m:Int))=hcl v' m s':=fun _ _ _ _=>rfl
  have cl:∀v n' s',(1<=(hcl v n' s').length)=True:=fun v n' s'=>eq_true (by rw[HU];omega)
  have cl2:∀v n' s',(2<=(hcl v n' s').length)=True:=fun v n' s'=>eq_true (by rw[HU];omega)
  have hgs:∀o:Ob,(H.set hid o)[hid]?=some o:=fun o=>Qw hlt
  obtain⟨vr,cr,hvr⟩:=a1.shape
  have hok:Z7 rv'=true:=by rw[hvr];rfl
  have hc1:rv'.cells.toList=[rv']:=by rw[hvr];rfl
  have hc2:rv'.cells.size=1:=by rw[hvr];rfl
  clear hvr
  generalize all.length+p.length=NN at *
  rw[QY (fn:=pY) rfl]
  simp only[pY,Qr,quiet,cW,↓pW,reduceCtorEq,seval,-Qb,fdF,h1,c0,c1',s0,s1,cl,cl2,w1,w2,hgs,ha,hg2,<-hH3,hok,hc1,hc2]
  simp only[fdF]at hloop
  simp only[hloop,Qr,quiet,cK,↓pQ,reduceCtorEq,seval,-Qb,cL]
  rfl
structure HPart(K:Nat->Prop)(H:List Ob)(x:Value)(p:List Nat):Prop where
 shape:∃(a:Option Addr) (c:Nat),x=.slice a p.length c
 reads:∀G:List Ob,(∀i,K i->G[i]?=H[i]?)->elemsOf G 1 p.length x=some (u8s p)
 lt:∀y∈p,y<256
 le:p.length<=2^47-128
theorem HPart.of{K:Nat->Prop}{H G:List Ob}{x:Value}{p:List Nat}(h:HPart K H x p)(hg:∀i,K i->G[i]?=H[i]?):HPart K G x p :=
 ⟨h.shape,fun G' hG'=>h.reads G' fun i hi=>(hG' i hi).trans (hg i hi),h.lt,h.le⟩
inductive HParts(K:Nat->Prop)(H:List Ob):List Value->List (List Nat)->Prop
 |nil:HParts K H [] []
 |cons {x:Value} {p:List Nat} {xs:List Value} {ps:List (List Nat)}:HPart K H x p->HParts K H xs ps->HParts K H (x::xs) (p::ps)
theorem HParts.get{K:Nat->Prop}{H:List Ob}:∀ {xs:List Value} {ps:List (List Nat)},HParts K H xs ps->∀ {i:Nat} {x:Value},xs[i]?=some x->∃p,ps[i]?=some p/\HPart K H x p
 |_,_,.nil,i,x,h=>by simp at h
 |_,_,.cons a b,0,x,h=>by simp at h;subst h;exact⟨_,rfl,a⟩
 |_,_,.cons a b,i+1,x,h=>by
  obtain⟨p,h1,h2⟩:=b.get (i:=i) (by simpa using h)
  exact⟨p,by simpa using h1,h2⟩
theorem HParts.len{K:Nat->Prop}{H:List Ob}:∀ {xs:List Value} {ps:List (List Nat)},HParts K H xs ps->ps.length=xs.length
 |_,_,.nil=>rfl
 |_,_,.cons _ b=>by simp[b.len]
theorem HParts.lt{K:Nat->Prop}{H:List Ob}:∀ {xs:List Value} {ps:List (List Nat)},HParts K H xs ps->∀y∈ps.flatten,y<256
 |_,_,.nil=>by simp
 |_,_,.cons a b=>by
  intro y hy
  rw[QO]at hy
  rcases QC.1 hy with h|h
  ·exact a.lt y h
  ·exact b.lt y h
def PV(K:Nat->Prop)(H:List Ob)(pv:Value)(xs:List Value):Prop:=(pv=.slice none 0 0/\xs=[])\/∃pid off cap o,pv=.slice (some ⟨pid,off,none⟩) xs.length cap/\K pid/\H[pid]?=some o/\o.live=true/\∀i,i<xs.length->o.c[off+i]?=xs[i]?
def wrI(hid:Nat)(pv:Value)(n:Nat)(i:Int)(H:List Ob)(L:List Nat)(ex:Env):St:=⟨[(0,.pointer hid),(6,pv),(7,.int .i64 n),(8,.int .i64 i)]++ex,H,L⟩
theorem qk{H0:List Ob}{all:List Nat}(hK:∀i,K i->i<H.length)(hKh:¬K hid)(hh:Hsh K H hid all)(xa:∀y∈all,y<256)(hp:PV K H0 pv xs)(hP:HParts K H0 xs ps)(hF:∀i,K i->H[i]?=H0[i]?)(hL:∀i∈L,¬K i)(hi:i<xs.length)(hn:xs.length<2^50)(hb:all.length+(ps.getD i []).length<2^50) :
  ∃H' L',Q0 T b0 R0 (wrI hid pv xs.length i H L [])=some (.normal,wrI hid pv xs.length ((i+1:Nat):Int) H' L' [])/\Hsh K H' hid (all++ps.getD i [])/\(∀i,K i->H'[i]?=H[i]?)/\H.length<=H'.length/\∀i∈L',¬K i:=by
 obtain⟨x,hx⟩:∃x,xs[i]?=some x:=⟨_,Qf hi⟩
 obtain⟨p,hpi,hpp⟩:=hP.get hx
 have hgd:ps.getD i []=p:=by rw[QD,hpi];rfl
 rw[hgd]at hb ⊢
 obtain⟨H',M,hf,f1,f2,f3,f4⟩:=tv hK hKh hh xa hpp.lt hpp.shape (fun o=>hpp.reads _ (fun j hj=>by
  rw[Qu (fun e=>hKh (by rw[e];exact hj))];exact hF j hj)) hb hpp.le
 rcases hp with⟨-,h0⟩|⟨pid,off,cap,o,rfl,kp,ho,hlv,hc⟩
 ·rw[h0]at hi;exact absurd hi (Nat.not_lt_zero _)
 ·have ho':H[pid]?=some o:=(hF pid kp).trans ho
  have hcx:o.c[off+i]?=some x:=(hc i hi).trans hx
  have e1:((i:Int)<(xs.length:Int))=True:=wf
  have w3:IntKind.i64.wrap ((i:Int)+1)=((i+1:Nat):Int):=Z3 (b:=1) qr
  refine⟨H',Q1 b0 L M,?_,f1,f2,f3,fun j hj =>?_⟩
  ·simp only[fdF]at hf
   generalize i+1=i1 at *
   simp only[wrI,R0,Qr,quiet,cW,↓pW,reduceCtorEq,seval,-Qb,e1,ho',hlv,hcx,w3,hf]
  ·rcases J5 hj with h|h
   ·exact hL j h
   ·exact f4 j h
theorem Nq{all:List Nat}(hK:∀i,K i->i<H.length)(hKh:¬K hid)(hh:Hsh K H hid all)(xa:∀y∈all,y<256)(hp:PV K H pv xs)(hP:HParts K H xs ps)(hn:xs.length<2^50)(hb:(all++ps.flatten).length<2^50) :
  ∃H' M,Z6 T 188 [.pointer hid,pv] H=some (.tuple #[],H',M)/\Hsh K H' hid (all++ps.flatten)/\(∀i,K i->H'[i]?=H[i]?)/\H.length<=H'.length/\∀i∈M,¬K i:=by
 obtain⟨st,hl,H',L',rfl,f1,f2,f3,f4⟩:=Zh (T:=T) (base:=H.length) (id:=0) (body:=R0)
  (fun i st=>∃H' L',st=wrI hid pv xs.length (i:Nat) H' L' []/\Hsh K H' hid (all++(ps.take i).flatten)/\(∀i,K i->H'[i]?=H[i]?)/\H.length<=H'.length/\∀i∈L',¬K i)
  (Q:=fun st=>∃H' L',st=wrI hid pv xs.length (xs.length:Nat) H' L' [(9,.bool false)]/\Hsh K H' hid (all++ps.flatten)/\(∀i,K i->H'[i]?=H[i]?)/\H.length<=H'.length/\∀i∈L',¬K i)
  xs.length (s:=wrI hid pv xs.length 0 H [] []) ⟨H,[],rfl,by simpa using hh,fun _ _=>rfl,Qs _,by simp⟩
  (fun i st hi hs=>by
   obtain⟨H1,L1,rfl,g1,g2,g3,g4⟩:=hs
   have hpl:=hP.len
   have hsp:ps.flatten=(ps.take i).flatten++((ps.getD i [])++(ps.drop (i+1)).flatten):=by
    obtain⟨p,hpi⟩:∃p,ps[i]?=some p:=⟨_,Qf qr⟩
    have hgd:ps.getD i []=p:=by rw[QD,hpi];rfl
    rw[hgd,<-QO,<-Jd]
    congr 1
    have h1:=Qg.1 hpi
    conv=>lhs;rw[<-Zn i ps,Jp h1.1,h1.2]
   have htk:(ps.take (i+1)).flatten=(ps.take i).flatten++ps.getD i []:=by
    obtain⟨p,hpi⟩:∃p,ps[i]?=some p:=⟨_,Qf qr⟩
    have hgd:ps.getD i []=p:=by rw[QD,hpi];rfl
    rw[hgd,Zx,hpi,Jd];simp
   have hlt:=hP.lt
   obtain⟨H2,L2,j1,j2,j3,j4,j5⟩:=qk (b0:=H.length) (fun j hj=>QM (hK j hj) g3) hKh g1 (fun y hy=>by
    rcases QC.1 hy with h|h
    ·exact xa y h
    ·exact hlt y (by rw[hsp];exact Aq _ h)) hp hP g2 g4 hi hn (by
     rw[hsp]at hb
     simp only[Qj]at hb ⊢
     omega)
   refine⟨_,j1,H2,L2,rfl,by rw[htk,<-Qt];exact j2,fun j hj=>(j3 j hj).trans (g2 j hj),Xm g3 j4,j5⟩)
  (fun st hs=>by
   obtain⟨H1,L1,rfl,g1,g2,g3,g4⟩:=hs
   rw[Qm (by rw[hP.len];exact Qs _)]at g1
   refine⟨_,?_,H1,L1,rfl,g1,g2,g3,g4⟩
   have e1:((xs.length:Int)<(xs.length:Int))=False:=wr
   simp only[wrI,R0,Qr,quiet,cK,↓pQ,reduceCtorEq,seval,-Qb,cL,cJ,e1])
 refine⟨H',L',?_,f1,f2,f3,f4⟩
 simp only[wrI,Qn,Ql,QA]at hl
 have hlen:vLen false pv=some (.int .i64 xs.length):=by
  rcases hp with⟨rfl,h0⟩|⟨pid,off,cap,o,rfl,-⟩
  ·rw[h0];rfl
  ·rfl
 rw[QY (fn:=yZ) rfl]
 simp only[yZ,Qr,quiet,cW,↓pW,reduceCtorEq,seval,-Qb,hlen,hl]
 rfl
theorem mU:fillL (Value.slice none 0 0::Qa 9 (.int .u64 0)) [(2,8,.agg (ns .u64 YX).toArray)]=some (hcl (.slice none 0 0) 0 YX):=rfl
theorem wL(H:List Ob):Z6 T 187 [] H=some (.pointer H.length,H++[hob (.slice none 0 0) 0 YX],[]):=by
 have hf:fillL (Qa 8 (Value.int .u64 0)) [(0,1,.int .u64 7640891576956012808),(1,1,.int .u64 13503953896175478587),(2,1,.int .u64 4354685564936845355),(3,1,.int .u64 11912009170470909681),(4,1,.int .u64 5840696475078001361),(5,1,.int .u64 11170449401992604703),(6,1,.int .u64 2270897969802886507),(7,1,.int .u64 6620516959819538809)]=some (ns .u64 YX):=rfl
 have hf2:∀a,fillL [Value.slice none 0 0,.int .u64 0,.int .u64 0,.int .u64 0,.int .u64 0,.int .u64 0,.int .u64 0,.int .u64 0,.int .u64 0,.int .u64 0] [(2,8,.agg (ns .u64 a).toArray)]=fillL (Value.slice none 0 0::Qa 9 (.int .u64 0)) [(2,8,.agg (ns .u64 a).toArray)]:=fun _=>rfl
 have hf3:=mU
 simp only[hob]
 generalize YX=S at *
 generalize hcl (.slice none 0 0) 0 S=C at *
 rw[QY (fn:=za) rfl]
 simp only[za,Qr,quiet,cW,↓pW,reduceCtorEq,seval,-Qb,hf,hf2,hf3]
theorem sC(h:H[hid]?=some (hob (.slice none 0 0) 0 YX)):Hsh K H hid []:=⟨_,h,.nil⟩
def paI(hid:Nat)(s:Value)(Hc:List Ob)(ex:Env):St:=⟨[(0,.pointer hid),(1,.int .i64 128),(2,.int .i64 16),(7,s)]++ex,Hc,[]⟩
def pbI(hid:Nat)(s:Value)(i:Int)(Hc:List Ob)(ex:Env):St:=⟨[(0,.pointer hid),(7,s),(8,.int .i64 i)]++ex,Hc,[]⟩
theorem Io(n i:Nat):((n/256^(i+1)*8%256)|||(n/256^i%256/32))=8*n/256^(i+1)%256:=by
 have h1:n/256^(i+1)=n/256^i/256:=by rw[Zj,QV]
 have h2:8*n/256^(i+1)=n/256^i/32:=by
  rw[QV,Zj,show 256^i*256=8*(256^i*32) by omega,Nat.mul_div_mul_left _ _ ww]
 rw[h1,h2]
 generalize n/256^i=m
 have h3:m/256*8%256=(m/256%32)*2^3:=qr
 rw[h3,YK qr]
 omega
theorem Cm(n:Nat):(n+(1+Vt n)+16)%128=0:=by unfold Vt;omega
theorem TD(n z:Nat)(h:z<Vt n):(n+(1+z)+16)%128≠0:=by unfold Vt at h;omega
theorem MB(n:Nat):Vt n<128:=by unfold Vt;omega
theorem rN(hh:H[hid]?=some (hob rv n st))(hn:n<2^50) :
  ∃s l,Q0 T H.length (.block 0 (.loop WI)) (paI hid (.slice H.length 1 1) (H++[{c:=[.int .u8 128]}]) [])=some (.normal,paI hid s (H++l) [(23,.bool false)])/\Grown .u8 H.length (H++l) s (128::Qa (Vt n) 0):=by
 have hlt:hid<H.length:=(Qg.1 hh).1
 have f0:fillL [Value.int .u8 0] [(0,1,.int .u8 0)]=some [.int .u8 0]:=rfl
 have c1:(hcl rv n st)[1]?=some (.int .u64 n):=rfl
 have hz:=MB n
 obtain⟨x,hb,s,Hc,rfl,hg,hL,hF⟩:=Zh (T:=T) (base:=H.length) (id:=0) (body:=WI)
  (fun j x=>∃s Hc,x=paI hid s Hc []/\Grown .u8 H.length Hc s (128::Qa j 0)/\H.length<=Hc.length/\∀i,i<H.length->Hc[i]?=H[i]?)
  (Q:=fun x=>∃s Hc,x=paI hid s Hc [(23,.bool false)]/\Grown .u8 H.length Hc s (128::Qa (Vt n) 0)/\H.length<=Hc.length/\∀i,i<H.length->Hc[i]?=H[i]?)
  (Vt n) (s:=paI hid (.slice H.length 1 1) (H++[{c:=[.int .u8 128]}]) []) ⟨_,_,rfl,Grown.new (k := .u8) (id:=H.length) (bs:=[128]) (Qs _) ww (by simp[Ob.fresh,ns]),by simp,fun i hi=>Qc hi⟩
  (fun j x hj hx=>by
   obtain⟨s,Hc,rfl,hg,hL,hF⟩:=hx
   have hl:=hg.len
   have e1:(128::Qa j 0).length=1+j:=by simp;omega
   rw[e1]at hl
   obtain⟨s',H',M,h1,h2,h3,h4,h5⟩:=VX (x:=0) (bytes:=1) hg hL (by rw[e1];omega) ww
   have hm:Q1 H.length [] M=[]:=QB h3
   have hget:Hc[hid]?=some {c:=hcl rv n st}:=(hF hid hlt).trans hh
   have w1:IntKind.i64.wrap (n:Int)=(n:Int):=wn qr
   have w2:IntKind.i64.wrap ((n:Int)+((1+j:Nat):Int))=((n+(1+j):Nat):Int):=Z3 qr
   have w3:IntKind.i64.wrap (((n+(1+j):Nat):Int)+16)=((n+(1+j)+16:Nat):Int):=Z3 (b:=16) qr
   have w4:((n+(1+j)+16:Nat):Int).tmod 128=(((n+(1+j)+16)%128:Nat):Int):=rfl
   have w5:((((n+(1+j)+16)%128:Nat):Int) != 0)=true:=bne_iff_ne.2 (by have:=TD n j hj;omega)
   refine⟨paI hid s' H' [],?_,s',H',rfl,by rw[List.replicate_succ',<-Qn];exact h2,h4,fun i hi=>by rw[h5 i hi,hF i hi]⟩
   simp only[QA]at h1
   generalize(n+(1+j)+16)%128=r at *
   generalize n+(1+j)+16=r2 at *
   generalize n+(1+j)=r3 at *
   simp only[paI,WI,Qr,quiet,cW,↓pW,reduceCtorEq,seval,-Qb,hget,c1,hl,w1,w2,w3,w4,w5,f0,h1,hm])
  (fun x hx=>by
   obtain⟨s,Hc,rfl,hg,hL,hF⟩:=hx
   have hl:=hg.len
   have e1:(128::Qa (Vt n) 0).length=1+Vt n:=by simp;omega
   rw[e1]at hl
   have hget:Hc[hid]?=some {c:=hcl rv n st}:=(hF hid hlt).trans hh
   have w1:IntKind.i64.wrap (n:Int)=(n:Int):=wn qr
   have w2:IntKind.i64.wrap ((n:Int)+((1+Vt n:Nat):Int))=((n+(1+Vt n):Nat):Int):=Z3 qr
   have w3:IntKind.i64.wrap (((n+(1+Vt n):Nat):Int)+16)=((n+(1+Vt n)+16:Nat):Int):=Z3 (b:=16) qr
   have w4:((n+(1+Vt n)+16:Nat):Int).tmod 128=0:=by
    have:((n+(1+Vt n)+16:Nat):Int).tmod 128=(((n+(1+Vt n)+16)%128:Nat):Int):=rfl
    rw[this,Cm];rfl
   refine⟨_,?_,s,Hc,rfl,hg,hL,hF⟩
   generalize n+(1+Vt n)+16=r2 at *
   generalize n+(1+Vt n)=r3 at *
   simp only[paI,WI,Qr,quiet,cW,↓pW,reduceCtorEq,seval,-Qb,hget,c1,hl,w1,w2,w3,w4])
 obtain⟨l,rfl⟩:=XG hL hF
 exact⟨s,l,hb,hg⟩
def Ug(n i:Nat):Nat:=8*n/256^(15-i)%256
theorem rM{l0:List Ob}{s0:Value}{bs:List Nat}(hh:H[hid]?=some (hob rv n st))(hn:n<2^50)(hg0:Grown .u8 H.length (H++l0) s0 bs)(hbs:bs.length<=200) :
  ∃s l,Q0 T H.length (.block 2 (.loop Yf)) (pbI hid s0 15 (H++l0) [])=some (.normal,pbI hid s (-1) (H++l) [(30,.bool false)])/\Grown .u8 H.length (H++l) s (bs++(ZH 16).map (Ug n)):=by
 have hlt:hid<H.length:=(Qg.1 hh).1
 have c1:(hcl rv n st)[1]?=some (.int .u64 n):=rfl
 obtain⟨x,hb,s,Hc,rfl,hg,hL,hF⟩:=Zh (T:=T) (base:=H.length) (id:=2) (body:=Yf)
  (fun j x=>∃s Hc,x=pbI hid s ((15:Int)-j) Hc []/\Grown .u8 H.length Hc s (bs++(ZH j).map (Ug n))/\H.length<=Hc.length/\∀i,i<H.length->Hc[i]?=H[i]?)
  (Q:=fun x=>∃s Hc,x=pbI hid s (-1) Hc [(30,.bool false)]/\Grown .u8 H.length Hc s (bs++(ZH 16).map (Ug n))/\H.length<=Hc.length/\∀i,i<H.length->Hc[i]?=H[i]?)
  16 (s:=pbI hid s0 15 (H++l0) []) ⟨_,_,rfl,by simpa using hg0,by simp,fun i hi=>Qc hi⟩
  (fun j x hj hx=>by
   obtain⟨s,Hc,rfl,hg,hL,hF⟩:=hx
   obtain⟨i,hi⟩:∃i,i=15-j:=⟨_,rfl⟩
   rw[show(15:Int)-j=(i:Int) by omega,show(15:Int)-((j+1:Nat):Int)=(i:Int)-1 by omega]
   have hl:=hg.len
   have hpd:Ug n j=8*n/256^i%256:=by rw[hi];rfl
   obtain⟨s',H',M,h1,h2,h3,h4,h5⟩:=VX (x:=Ug n j) (bytes:=1) hg hL (by rw[Qj,List.length_map,List.length_range];omega) ww
   have hm:Q1 H.length [] M=[]:=QB h3
   have hget:Hc[hid]?=some {c:=hcl rv n st}:=(hF hid hlt).trans hh
   have fx:∀a:Int,fillL [Value.int .u8 0] [(0,1,.int .u8 a)]=some [.int .u8 a]:=fun _=>rfl
   have w0:IntKind.i64.wrap ((i:Int)-1)=(i:Int)-1:=QU qr qr
   have e0:((0:Int)<=(i:Int))=True:=wf
   refine⟨pbI hid s' ((i:Int)-1) H' [],?_,s',H',rfl,by rw[List.range_succ,Vc,<-Qt];exact h2,h4,fun k hk=>by rw[h5 k hk,hF k hk]⟩
   rw[hpd]at h1
   by_cases h9:i<9
   ·have e9:((i:Int)<9)=True:=wf
    have w1:IntKind.i64.wrap (8*(i:Int))=((8*i:Nat):Int):=UQ (a:=8) qr
    have w2:(((8*i:Nat):Int)<0)=False:=wr
    have w3:(n:Int).fdiv (2^min (8*i) IntKind.u64.bits)=((n/256^i:Nat):Int):=by
     rw[D2 qr,show(256:Nat)=2^8 from rfl,<-Je]
    have hle:n/256^i<=n:=Jx _ _
    have w4:IntKind.u64.wrap (((n/256^i:Nat):Int)*2^min 3 IntKind.u64.bits)=((n/256^i*8:Nat):Int):=U4 (b:=8) qr
    have w5:IntKind.u8.wrap ((n/256^i*8:Nat):Int)=((n/256^i*8%256:Nat):Int):=Bb _
    by_cases hz:i=0
    ·subst hz
     have e8:n/256^0*8%256=8*n/256^0%256:=by rw[ZN,J1,J1];omega
     rw[e8]at w5
     have ew:(8*0:Nat)=0:=rfl
     simp only[ew,QA]at w1 w2 w3
     generalize 8*n/256^0%256=d at *
     generalize n/256^0*8=v1 at *
     generalize n/256^0=v2 at *
     simp only[pbI,Yf,Qr,quiet,cW,↓pW,reduceCtorEq,seval,-Qb,hget,c1,w0,e0,e9,w1,w2,w3,w4,w5,fx,h1,hm]
    ·obtain⟨k,rfl⟩:∃k,i=k+1:=⟨i-1,by omega⟩
     have hd:=Io n k
     have ep:((0:Int)<((k+1:Nat):Int))=True:=wf
     have v1:IntKind.i64.wrap (((8*(k+1):Nat):Int)-8)=((8*k:Nat):Int):=by rw[QU qr qr];omega
     have v2:(((8*k:Nat):Int)<0)=False:=wr
     have v3:(n:Int).fdiv (2^min (8*k) IntKind.u64.bits)=((n/256^k:Nat):Int):=by
      rw[D2 qr,show(256:Nat)=2^8 from rfl,<-Je]
     have v4:Zr .and .u64 ((n/256^k:Nat):Int) 255=((n/256^k%256:Nat):Int):=Bc .u64 rfl 8 _ ww
     have v5:((n/256^k%256:Nat):Int).fdiv (2^min 5 IntKind.u64.bits)=((n/256^k%256/32:Nat):Int):=D2 (r:=5) ww
     have v6:IntKind.u8.wrap ((n/256^k%256/32:Nat):Int)=((n/256^k%256/32:Nat):Int):=by rw[Bb,Qv qr]
     have v7:Zr .or .u8 ((n/256^(k+1)*8%256:Nat):Int) ((n/256^k%256/32:Nat):Int)=((8*n/256^(k+1)%256:Nat):Int):=by
      rw[Kh rfl (show _<2^8 from Q9 _ ww) (show n/256^k%256/32<2^8 by omega),hd]
     generalize 8*n/256^(k+1)%256=d at *
     generalize n/256^(k+1)*8%256=u1 at *
     generalize n/256^(k+1)*8=u2 at *
     generalize n/256^(k+1)=u3 at *
     generalize n/256^k%256/32=u4 at *
     generalize n/256^k%256=u5 at *
     generalize n/256^k=u6 at *
     generalize 8*(k+1)=u7 at *
     generalize 8*k=u8' at *
     generalize k+1=k1 at *
     simp only[pbI,Yf,Qr,quiet,cW,↓pW,reduceCtorEq,seval,-Qb,hget,c1,w0,e0,e9,ep,w1,w2,w3,w4,w5,v1,v2,v3,v4,v5,v6,v7,fx,h1,hm]
   ·have e9:((i:Int)<9)=False:=wr
    have ep:((0:Int)<(i:Int))=True:=wf
    have hz:8*n/256^i%256=0:=by
     have:(256:Nat)^9<=256^i:=Zo ww qr
     rw[JK (QM qr this)]
    rw[hz]at h1
    simp only[QA]at h1
    simp only[pbI,Yf,Qr,quiet,cW,↓pW,reduceCtorEq,seval,-Qb,hget,c1,w0,e0,e9,ep,fx,h1,hm])
  (fun x hx=>by
   obtain⟨s,Hc,rfl,hg,hL,hF⟩:=hx
   have e:((0:Int) <= -1)=False:=ww
   refine⟨_,?_,s,Hc,rfl,hg,hL,hF⟩
   rw[show(15:Int)-((16:Nat):Int) = -1 by omega]
   simp only[pbI,Yf,Qr,quiet,cK,↓pQ,reduceCtorEq,seval,-Qb,cL,e])
 obtain⟨l,rfl⟩:=XG hL hF
 exact⟨s,l,hb,hg⟩
theorem bQ(n:Nat):UZ n=(128::Qa (Vt n) 0)++(ZH 16).map (Ug n):=by unfold UZ Ug;rw[Qn]
theorem SF(hh:H[hid]?=some (hob rv n st))(hn:n<2^50) :
  ∃s l,Z6 T 179 [.pointer hid,.int .i64 128,.int .i64 16] H=some (s,H++l,[])/\Grown .u8 H.length (H++l) s (UZ n):=by
 obtain⟨s1,l1,h1,g1⟩:=rN hh hn
 have hz:=MB n
 obtain⟨s2,l2,h2,g2⟩:=rM hh hn g1 (by simp;omega)
 rw[<-bQ]at g2
 refine⟨s2,l2,?_,g2⟩
 have f128:fillL [Value.int .u8 0] [(0,1,.int .u8 128)]=some [.int .u8 128]:=rfl
 have w1:IntKind.i64.wrap 15=15:=ww
 simp only[paI,Qn,Ql]at h1
 simp only[pbI,Qn,Ql]at h2
 rw[QY (fn:=pX) rfl]
 simp only[pX,Qr,quiet,cW,↓pW,reduceCtorEq,seval,-Qb,f128,h1,w1,h2]
end Go.Ev.YtoipgdjfhahimaaGreat

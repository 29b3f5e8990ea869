/- What the law leans on, part 3. -/
import Derived.Test.YtpgphpkjlpkcbaaFs2
import Derived.Test.YtpgphpkjlpkcbaaChecked
import Derived.KernelRfl
import Derived.Laws.Externs
import Derived.OpenShut
set_option linter.unusedSimpArgs false
set_option linter.unusedVariables false
set_option linter.defProp false
open And renaming intro → Zd
open Array renaming getElem?_eq_some_iff → Qbb, getElem?_toList → Yy
open Bool renaming and_eq_true → Yk, false_and → Qhk, false_eq_true → Z2
open Exists renaming intro → Z4
open Int renaming cast_ofNat_Int → Qba, fdiv → Qa9, fdiv_eq_ediv_of_nonneg → Wn, natCast_add → Hp, natCast_mul → Gg, natCast_nonneg → Je, natCast_one → Qsy, natCast_pow → Ho, natCast_zero → Vx, reduceAdd → Qz, reduceBEq → Q8, reduceBNe → Q7, reduceEq → Qq, reduceGE → Q6, reduceGT → Q5, reduceLE → Qp, reduceLT → Qo, reduceMul → Qy, reduceNeg → Qx, reducePow → Qw, reduceSub → Qv, reduceTDiv → Qn, reduceTMod → Qm, reduceToNat → Qe, toNat_natCast → Jf
open List renaming all_cons → Xc, all_eq_true → Yo, append_assoc → Zw, append_nil → Jj, cons_append → Zg, drop → Wc, drop_append_of_le_length → Yj, drop_drop → Bn, drop_eq_getElem?_toList_append → B3, drop_eq_getElem_cons → Yx, drop_of_length_le → Y6, drop_succ_cons → Qg, drop_zero → Q2, eq_nil_of_length_eq_zero → Vz, ext_getElem? → Wy, flatten_append → Vh, flatten_cons → J3, foldl_cons → Ui, foldl_nil → Gv, getD_eq_getElem?_getD → Jh, getElem?_append_left → Qc, getElem?_append_right → Qr, getElem?_cons_zero → Zu, getElem?_drop → V7, getElem?_eq_getElem → Q3, getElem?_eq_none → Kq, getElem?_eq_some_iff → Q1, getElem?_map → Wq, getElem?_of_mem → Uw, getElem?_range → Dq, getElem?_set → Bw, getElem?_set_ne → Z7, getElem?_set_self → Jl, getElem?_take → Vi, getElem?_zipWith → Rl, getElem_mem → Rq, length_append → Za, length_cons → Zx, length_drop → Xs, length_nil → Z3, length_range → Qno, length_replicate → Q9, length_set → Jp, length_take → Jy, length_zipWith → T8, map_append → By, map_cons → Wi, map_nil → W8, mem_append → Kv, mem_append_left → Qhi, mem_cons → Yt, mem_cons_of_mem → Gm, mem_map → Uh, mem_of_getElem? → Zp, mem_of_mem_drop → Y8, mem_of_mem_take → Kr, mem_or_eq_of_mem_set → Qb8, mem_range'_1 → Qnn, mem_singleton → W7, nil_append → Zc, not_mem_nil → Wb, range → Wm, range' → Hf, replicate → Qa, replicate_succ → Dp, set_append_left → Tl, set_append_right → Yf, set_cons_zero → Qku, set_set → Qfo, take → Kw, take_add_one → V3, take_append_drop → Yr, take_append_of_le_length → Ya, take_of_length_le → Zj, take_succ_cons → Qf, take_zero → Q0, zipWith → Gl
open List.cons renaming injEq → Qsx
open Nat renaming Coprime → Q9f, add_assoc → Vr, add_comm → Bi, add_mod → Q9e, add_mul → Vy, add_mul_div_right → Rk, add_mul_mod_self_right → De, add_zero → Jk, and_lt_two_pow → Bf, and_two_pow_sub_one_eq_mod → Rp, div_add_mod → Yi, div_div_eq_div_mul → Yu, div_eq_of_lt → Un, div_le_self → Gf, div_lt_iff_lt_mul → Qgs, div_lt_of_lt_mul → Gk, div_one → U8, dvd_mul_left → Qqw, dvd_of_mod_eq_zero → Mm, dvd_trans → Q1q, eq_zero_or_pos → Wl, gcd → Qhy, le_of_dvd → Gp, le_of_lt → Um, le_refl → Zf, le_trans → Ut, lt_irrefl → Xh, lt_of_le_of_lt → Be, lt_of_lt_of_le → Xf, lt_or_ge → Yc, lt_trans → Ul, min_eq_left → Kx, mod_eq_of_lt → Jd, mod_eq_zero_of_dvd → Qfn, mod_lt → Jw, mod_mod → Tk, mod_mod_of_dvd → D9, mod_mul_mod → T6, mod_mul_right_div_self → Qa6, mod_one → Q9d, mul_add → Qc9, mul_assoc → Y5, mul_comm → Vt, mul_le_mul → Wx, mul_le_mul_left → Dn, mul_le_mul_right → W4, mul_left_comm → Wk, mul_mod → Tj, mul_mod_mul_right → Rj, mul_one → Xg, mul_zero → Qfm, not_lt_zero → Jq, one_mul → U7, or_lt_two_pow → Hy, pow_add → Ww, pow_add_one' → Qqu, pow_le_pow_right → Vl, pow_mod → Q9c, pow_mul → Y0, pow_pos → Ud, pow_succ → V0, pow_zero → Ug, reduceAdd → Qk, reduceDiv → Qu, reduceEqDiff → Qd, reduceLT → Ql, reduceLeDiff → Qh, reduceMod → Qt, reduceMul → Qj, reducePow → Qs, reduceSub → Qi, sub_mod_eq_zero_of_mod_eq → Ti, sub_self → Jc, sub_zero → X7, succ_mul → Qfl, two_pow_add_eq_or_of_lt → Hx, xor_lt_two_pow → Qa5, zero_add → Zz, zero_mul → Xq
open Option renaming bind_eq_some_iff → Qb, bind_some → Q4, getD_some → Uc, map_eq_some_iff → Ji, map_some → D0
open Option.some renaming inj → Ge, injEq → Zb
namespace Go.Ev.Ytpgphpkjlpkcbaa
open Go Go.Ev
attribute [local congr] Wp W0 Wo W3 Wh
set_option maxRecDepth 100000
def mA (x y z:List Nat):List Nat:=dig 256 32 ((num 256 x*num 256 y+num 256 z)%ell)
def rd (x:List Nat):List Nat:=dig 256 32 (num 256 x%ell)
theorem Q7j {x y z:List Nat}:(mA x y z).length=32:=Vs _ _ _
theorem Q6s {x:List Nat}:(rd x).length=32:=Vs _ _ _
theorem mA_lt {x y z:List Nat}:∀ t∈mA x y z,t<256:=fun _ h=>Hd (by decide) h
theorem rd_lt {x:List Nat}:∀ t∈rd x,t<256:=fun _ h=>Hd (by decide) h
theorem Q70:ell≤256^32:=by decide
theorem Qo8 (v:Nat):num 256 (dig 256 32 (v%ell))=v%ell:=by
 rw [Bb (by decide),Jd (Xf (Jw _ Qnf) Q70)]
theorem Q69 (x y z:List Nat):num 256 (mA x y z)=(num 256 x*num 256 y+num 256 z)%ell:=Qo8 _
theorem Qvj {a b c:List Nat} (la:a.length=32) (lb:b.length=32) (lc:c.length=32) (xa:∀ x∈a,x<256) (xb:∀ x∈b,x<256) (xc:∀ x∈c,x<256) :
  ∃ l,Vv T 31 [.agg (u8s a).toArray,.agg (u8s b).toArray,.agg (u8s c).toArray] []=some (.agg (u8s (mA a b c)).toArray,l,[]):=Qvk la lb lc xa xb xc
def ordL:List Nat:=dig 256 32 ell
theorem Q22:∀ x∈ordL,x<256:=fun _ h=>Hd (by decide) h
theorem Qer {k:IntKind} {B bytes:Nat} {H:List Ob} {s:Value} {bs:List Nat} {x:Nat} (h:Grown k B H s bs) (hB:B≤H.length) (hb:(bs.length+1)*bytes≤2^47) (hb0:0<bytes) :
  ∃ s' H' M,Yz 1 bytes (H++[⟨[.int k (x:Nat)],true,true,true,1⟩]) s (.slice (some ⟨H.length,0,none⟩) 1 1)=some (s',H',none,M)∧Grown k B H' s' (bs++[x])∧(∀ i∈M,B≤i)∧B≤H'.length∧∀ i,i<B→H'[i]?=H[i]? := by
 obtain ⟨s',H',M,h1,h2,h3,h4,h5⟩:=(h.app (l':=[⟨[.int k (x:Nat)],true,true,true,1⟩])).append (bytes:=bytes) (x := .slice (some ⟨H.length,0,none⟩) 1 1) (new:=[x]) (by simp; omega) rfl (by simp [elemsOf,liveAt,ns]) hb hb0
 refine ⟨s',H',M,h1,h2,h3,?_,fun i hi=>by rw [h5 i hi,Qc (by omega)]⟩
 simp at h4
 omega
def ord33:List Nat:=ordL++[0]
theorem Qy2:∀ x∈ord33,x<256:=by
 intro x hx
 simp only [ord33,Kv,W7] at hx
 rcases hx with h | h
 ·exact Q22 x h
 ·omega
structure SubInv (k q:Nat) (r0 r:List Nat) (b:Nat):Prop where
 len:r.length=33
 lt:∀ x∈r,x<256
 ble:b≤q+1
 eq:num 256 (r0.take k)+b*256^k=num 256 (r.take k)+q*num 256 (ord33.take k)
 rest:r.drop k=r0.drop k
def nx (y q l b:Nat):Nat:=((y:Int)-q*l-b).toNat
def nb (y q l b:Nat):Nat:=(q*l+b-y+255)/256
theorem SubInv.step {k q b y l:Nat} {r0 r:List Nat} (h:SubInv k q r0 r b) (hk:k<33) (hy:r[k]?=some y) (hl:ord33[k]?=some l):SubInv (k+1) q r0 (r.set k (y+256*nb y q l b-(q*l+b))) (nb y q l b)∧y+256*nb y q l b-(q*l+b)<256∧q*l+b≤y+256*nb y q l b:=by
 have hy':=h.lt y (Zp hy)
 have hl':=Qy2 l (Zp hl)
 have hb:=h.ble
 have hlen:=h.len
 have hnb:y+256*nb y q l b-(q*l+b)<256∧q*l+b≤y+256*nb y q l b:=by unfold nb; omega
 have hql:q*l≤q*255:=Dn q (by omega)
 have hnb2:nb y q l b≤q+1:=by unfold nb; omega
 have hy0:r0[k]?=some y:=by
  have h1:(r.drop k)[0]?=(r0.drop k)[0]? := by rw [h.rest]
  rwa [V7,V7,Jk,hy,eq_comm] at h1
 refine ⟨⟨by rw [Jp]; exact hlen,Mt h.lt hnb.1,hnb2,?_,?_⟩,hnb⟩
 ·generalize nb y q l b=c at *
  obtain ⟨d,hd⟩:∃ d,y+256*c=q*l+b+d:=⟨y+256*c-(q*l+b),by omega⟩
  have hset:(r.set k d).take (k+1)=r.take k++[d]:=by
   rw [V3,Jl (by omega),List.take_set_of_le (Zf k)]; rfl
  rw [show y+256*c-(q*l+b)=d by omega,hset,Bq hy0,Bq hl,Qan]
  have hln:(r.take k).length=k:=by rw [Jy]; omega
  rw [hln]
  have he:=h.eq
  simp only [num,Qfm,Jk]
  have e1:c*256^(k+1)=(256*c)*256^k:=by rw [V0]; simp only [Y5,Wk,Vt]
  have e2:(y+256*c)*256^k=(q*l+b+d)*256^k:=by rw [hd]
  rw [Vy,Vy,Vy] at e2
  rw [e1,Qc9,←Y5,Vt (256^k) d]
  omega
 ·rw [List.drop_set_of_lt (by omega)]
  have h1:(r.drop k).drop 1=(r0.drop k).drop 1:=by rw [h.rest]
  rwa [Bn,Bn] at h1
end Go.Ev.Ytpgphpkjlpkcbaa
namespace Go.Ev
def U0 (bs:List Nat):Value := .string ⟨(bs.map UInt8.ofNat).toArray⟩
theorem Re:∀ (bs:List Nat),U2 (u8s bs)=some (bs.map UInt8.ofNat)
 | []=>rfl
 | x::r=>by
  have:=Re r
  simp only [u8s,Wi,U2,Jf] at this ⊢
  rw [this]; rfl
theorem Q1e {H:List Ob} {v:Value} {bs:List Nat} (h:Sl .u8 H v bs):Qmh H v=some (U0 bs):=by
 have h1:=h.elems
 have h2:ns .u8 bs=u8s bs:=rfl
 cases h with
 | nil=>rfl
 | mk a b c=>simp only [Qmh,h1,h2,Q4,Re]; rfl
end Go.Ev
namespace Go.Ev.Ytpgphpkjlpkcbaa
open Go Go.Ev
attribute [local congr] Wp W0 Wo W3 Wh
set_option maxRecDepth 100000
end Go.Ev.Ytpgphpkjlpkcbaa
namespace Go.Ev.Ytpgphpkjlpkcbaa
open Go Go.Ev Go.Proofs
set_option maxRecDepth 100000
theorem Wd {n : Nat} {fn : Func} {a : AFun} (h : Try.prog.funcs[n]? = some fn) (e : (compFun Try.prog fn, fn.name == "runtime.NumGoroutine") = (some a.strip, false)) : ∃ fn, Try.prog.funcs[n]? = some fn ∧ compFun Try.prog fn = some a.strip ∧ (fn.name == "runtime.NumGoroutine") = false := ⟨fn, h, congrArg Prod.fst e, congrArg Prod.snd e⟩
theorem Qsm (args:Array Value) (w:World):(callFunc 97 args).run Try.prog w=(((do
  let (x, y, c) ← Extern.MathBitsCarry.three "Add64" args
  pure (Extern.MathBitsCarry.pair ((x+y+c)%Extern.MathBitsCarry.m64) ((x+y+c)/Extern.MathBitsCarry.m64))):Sem Value).run Try.prog w).andThen fun v w'=>.ok (.value v) w' :=
 run_callFunc_extern (e:=fun args=>do
  let (x, y, c) ← Extern.MathBitsCarry.three "Add64" args
  pure (Extern.MathBitsCarry.pair ((x+y+c)%Extern.MathBitsCarry.m64) ((x+y+c)/Extern.MathBitsCarry.m64))) Try.func97 (by kernel_rfl) (by kernel_rfl) (by kernel_rfl) (by kernel_rfl) args w
theorem Quu (P:Program) (w:World) (x y c:Int) (hc:c.toNat≤1):(((do
  let (x, y, c) ← Extern.MathBitsCarry.three "Add64" [Value.int .u64 x, .int .u64 y, .int .u64 c].toArray
  pure (Extern.MathBitsCarry.pair ((x+y+c)%Extern.MathBitsCarry.m64) ((x+y+c)/Extern.MathBitsCarry.m64))):Sem Value).run P w)=.ok (.tuple #[.int .u64 ((x.toNat+y.toNat+c.toNat)%18446744073709551616:Nat),.int .u64 ((x.toNat+y.toNat+c.toNat)/18446744073709551616:Nat)]) w:=by
 have hc':¬ c.toNat>1:=by omega
 have e : Extern.MathBitsCarry.three "Add64" [Value.int .u64 x, .int .u64 y, .int .u64 c].toArray = (if c.toNat > 1 then (do unsupported (.noEntry ("extern/math/bits." ++ "Add64" ++ ": a carry that is neither 0 nor 1")); pure (x.toNat, y.toNat, c.toNat)) else pure (x.toNat, y.toNat, c.toNat) : Sem (Nat × Nat × Nat)) := by
  rfl
 rw [e,if_neg hc']
 rfl
theorem Q6l (f:Nat) (args:List Value) (v:Value) (h:T.ext f args=some v):(∀ ρ,VRel ρ v v)∧∀ w,(callFunc f args.toArray).run Try.prog w=.ok (.value v) w:=by
 have h':Q4l f args=some v:=h
 unfold Q4l at h'
 split at h'
 ·split at h'
  ·rename_i hc
   cases h'
   refine ⟨fun ρ=>VRel.tuple (.cons (.same rfl) (.cons (.same rfl) .nil)),fun w => ?_⟩
   rw [Qsm,Quu _ _ _ _ _ hc]
   rfl
  ·cases h'
 ·cases h'
theorem tabOk:TabOk Try.prog T:=by
 refine ⟨fun f af h => ?_,fun f args v _ h _=>Q6l f args v h⟩
 have h':fnS f=some af:=h
 unfold fnS at h'
 split at h'
 ·cases h'; exact Wd Try.func35 (by kernel_rfl)
 ·cases h'; exact Wd Try.func56 (by kernel_rfl)
 ·cases h'; exact Wd Try.func31 (by kernel_rfl)
 ·cases h'; exact Wd Try.func45 (by kernel_rfl)
 ·cases h'; exact Wd Try.func27 (by kernel_rfl)
 ·cases h'; exact Wd Try.func28 (by kernel_rfl)
 ·cases h'; exact Wd Try.func46 (by kernel_rfl)
 ·cases h'; exact Wd Try.func82 (by kernel_rfl)
 ·cases h'; exact Wd Try.func29 (by kernel_rfl)
 ·cases h'; exact Wd Try.func51 (by kernel_rfl)
 ·cases h'; exact Wd Try.func43 (by kernel_rfl)
 ·cases h'; exact Wd Try.func47 (by kernel_rfl)
 ·cases h'; exact Wd Try.func44 (by kernel_rfl)
 ·cases h'; exact Wd Try.func57 (by kernel_rfl)
 ·cases h'; exact Wd Try.func60 (by kernel_rfl)
 ·cases h'; exact Wd Try.func61 (by kernel_rfl)
 ·cases h'; exact Wd Try.func58 (by kernel_rfl)
 ·cases h'; exact Wd Try.func59 (by kernel_rfl)
 ·cases h'; exact Wd Try.func83 (by kernel_rfl)
 ·cases h'; exact Wd Try.func84 (by kernel_rfl)
 ·cases h'; exact Wd Try.func36 (by kernel_rfl)
 ·cases h'; exact Wd Try.func37 (by kernel_rfl)
 ·cases h'; exact Wd Try.func40 (by kernel_rfl)
 ·cases h'; exact Wd Try.func52 (by kernel_rfl)
 ·cases h'; exact Wd Try.func53 (by kernel_rfl)
 ·cases h'; exact Wd Try.func54 (by kernel_rfl)
 ·cases h'; exact Wd Try.func98 (by kernel_rfl)
 ·cases h'; exact Wd Try.func41 (by kernel_rfl)
 ·cases h'; exact Wd Try.func42 (by kernel_rfl)
 ·cases h'; exact Wd Try.func55 (by kernel_rfl)
 ·cases h'; exact Wd Try.func78 (by kernel_rfl)
 ·cases h'; exact Wd Try.func79 (by kernel_rfl)
 ·cases h'; exact Wd Try.func69 (by kernel_rfl)
 ·cases h'; exact Wd Try.func68 (by kernel_rfl)
 ·cases h'; exact Wd Try.func80 (by kernel_rfl)
 ·cases h'; exact Wd Try.func81 (by kernel_rfl)
 ·cases h'; exact Wd Try.func89 (by kernel_rfl)
 ·cases h'; exact Wd Try.func88 (by kernel_rfl)
 ·cases h'; exact Wd Try.func71 (by kernel_rfl)
 ·cases h'; exact Wd Try.func72 (by kernel_rfl)
 ·cases h'; exact Wd Try.func73 (by kernel_rfl)
 ·cases h'; exact Wd Try.func74 (by kernel_rfl)
 ·cases h'; exact Wd Try.func75 (by kernel_rfl)
 ·cases h'; exact Wd Try.func70 (by kernel_rfl)
 ·cases h'; exact Wd Try.func76 (by kernel_rfl)
 ·cases h'; exact Wd Try.func77 (by kernel_rfl)
 ·cases h'; exact Wd Try.func96 (by kernel_rfl)
 ·cases h'; exact Wd Try.func16 (by kernel_rfl)
 ·cases h'; exact Wd Try.func22 (by kernel_rfl)
 ·cases h'; exact Wd Try.func20 (by kernel_rfl)
 ·cases h'; exact Wd Try.func26 (by kernel_rfl)
 ·cases h'; exact Wd Try.func30 (by kernel_rfl)
 ·cases h'; exact Wd Try.func50 (by kernel_rfl)
 ·cases h'; exact Wd Try.func85 (by kernel_rfl)
 ·cases h'; exact Wd Try.func86 (by kernel_rfl)
 ·cases h'; exact Wd Try.func87 (by kernel_rfl)
 ·cases h'; exact Wd Try.func93 (by kernel_rfl)
 ·cases h'; exact Wd Try.func99 (by kernel_rfl)
 ·cases h'; exact Wd Try.func95 (by kernel_rfl)
 ·cases h'; exact Wd Try.func102 (by kernel_rfl)
 ·cases h'; exact Wd Try.func101 (by kernel_rfl)
 ·cases h'; exact Wd Try.func4 (by kernel_rfl)
 ·cases h'; exact Wd Try.func5 (by kernel_rfl)
 ·cases h'; exact Wd Try.func6 (by kernel_rfl)
 ·cases h'; exact Wd Try.func7 (by kernel_rfl)
 ·cases h'; exact Wd Try.func8 (by kernel_rfl)
 ·cases h'; exact Wd Try.func9 (by kernel_rfl)
 ·cases h'; exact Wd Try.func10 (by kernel_rfl)
 ·cases h'; exact Wd Try.func11 (by kernel_rfl)
 ·cases h'; exact Wd Try.func12 (by kernel_rfl)
 ·cases h'; exact Wd Try.func13 (by kernel_rfl)
 ·cases h'; exact Wd Try.func14 (by kernel_rfl)
 ·cases h'; exact Wd Try.func15 (by kernel_rfl)
 ·cases h'; exact Wd Try.func17 (by kernel_rfl)
 ·cases h'; exact Wd Try.func18 (by kernel_rfl)
 ·cases h'; exact Wd Try.func19 (by kernel_rfl)
 ·cases h'; exact Wd Try.func21 (by kernel_rfl)
 ·cases h'; exact Wd Try.func23 (by kernel_rfl)
 ·cases h'; exact Wd Try.func24 (by kernel_rfl)
 ·cases h'; exact Wd Try.func25 (by kernel_rfl)
 ·cases h'; exact Wd Try.func32 (by kernel_rfl)
 ·cases h'; exact Wd Try.func33 (by kernel_rfl)
 ·cases h'; exact Wd Try.func34 (by kernel_rfl)
 ·cases h'; exact Wd Try.func38 (by kernel_rfl)
 ·cases h'; exact Wd Try.func39 (by kernel_rfl)
 ·cases h'; exact Wd Try.func48 (by kernel_rfl)
 ·cases h'; exact Wd Try.func49 (by kernel_rfl)
 ·cases h'; exact Wd Try.func62 (by kernel_rfl)
 ·cases h'; exact Wd Try.func63 (by kernel_rfl)
 ·cases h'; exact Wd Try.func64 (by kernel_rfl)
 ·cases h'; exact Wd Try.func65 (by kernel_rfl)
 ·cases h'; exact Wd Try.func66 (by kernel_rfl)
 ·cases h'; exact Wd Try.func67 (by kernel_rfl)
 ·cases h'; exact Wd Try.func90 (by kernel_rfl)
 ·cases h'; exact Wd Try.func91 (by kernel_rfl)
 ·cases h'; exact Wd Try.func92 (by kernel_rfl)
 ·cases h'; exact Wd Try.func94 (by kernel_rfl)
 ·cases h'; exact Wd Try.func100 (by kernel_rfl)
 ·cases h'
theorem mixed:Try.prog.follows .mixedOrders=true:=by kernel_rfl
end Go.Ev.Ytpgphpkjlpkcbaa
namespace Go.Ev
open Go.RowKit Go.WideShapes Go.ChangeShapes
structure LiesC (w:World) (a:Addr) (len cap es:Nat) (l:List Value):Prop where
 spot:a.spot=none
 at_:∃ cs e fr,w.heap[a.block]?=some (.cells cs e fr)∧(cap=0∨a.off+cap*es≤cs.size)∧∀ (i:Nat) (v:Value),l[i]?=some v→cs[a.off+i]?=some v
 le:len≤cap
 max:cap≤maxLen
 len:l.length=len*es
 sc:∀ v∈l,oneCellB v=true∧scalarRf v=true
section
variable {P:Program}
def Qnq {H:Type} (enc:TypeId×Value→H) (P:Program) (w:World) (e:TypeId) (es:Nat) (Q:Value→Prop):Prop:=∀ (fuel:Nat) (cs:List Value) (x:DataW H×List MemPlace),DataW.trod enc P w 0 (fun _=>true) true fuel e cs=some x→cs.length=es∧∀ v∈cs,Q v
theorem Qjm {H:Type} {enc:TypeId×Value→H} {w:World} {e:TypeId} {k:IntKind} (he:P.underlying e=some (.int k)) (hk:k.signed=false):Qnq enc P w e 1 (fun v=>∃ x:Nat,v=.int k (x:Nat)∧x<2^k.bits):=by
 intro fuel cs x h
 obtain ⟨m,rfl,_,hw⟩:=DataW.trod_int he h
 simp only [Lit.wf,decide_eq_true_eq,Yk] at hw
 have h0:k.min=0:=by cases k<;>first | rfl | cases hk
 have h3:k.max=2^k.bits-1:=by cases k<;>first | rfl | cases hk
 rw [h0,h3] at hw
 have h4:((2^k.bits:Nat):Int)=2^k.bits:=by simp
 refine ⟨rfl,fun v hv=>⟨m.toNat,?_,by omega⟩⟩
 rw [W7.1 hv,Int.toNat_of_nonneg hw.1]
theorem Qjn {H:Type} {enc:TypeId×Value→H} {w:World} {t e:TypeId} {n:Nat} {Q:Value→Prop} (ht:P.underlying t=some (.array n e)) (hc:P.cellsOf t=n) (ce:P.cellsOf e=1) (h1:Qnq enc P w e 1 Q):Qnq enc P w t n Q:=by
 intro fuel cs x h
 obtain ⟨xs,m,rfl,-,hl,hn,hi⟩:=DataW.trod_array ht h
 rw [hc] at hl
 refine ⟨hl,fun v hv => ?_⟩
 obtain ⟨i,hi',rfl⟩:=List.mem_iff_getElem.1 hv
 have h2:=hi i (by omega)
 rw [ce,Xg,Q3 (by omega)] at h2
 have h3:=(h1 _ _ _ h2).2 cs[i]
 refine h3 ?_
 rw [Yx hi',Qf]
 simp
theorem Qal {w:World} {r:Reach} {b0:Nat} {H:Type} {enc:TypeId×Value→H} {t e:TypeId} {v:Value} {es fuel:Nat} {y:DataW H×List MemPlace} {Q:Value→Prop} (ht:P.underlying t=some (.slice e)) (hc:P.cellsOf e=es) (h0:0<es) (hQ:Qnq enc P w e es Q) (hsc:∀ v,Q v→oneCellB v=true∧scalarRf v=true)
  (hval:Cell.okWide P w r b0 t v) (hf:DataW.trod enc P w 0 (fun _=>true) true fuel t [v]=some y) :
  v=.slice none 0 0∨∃ a len cap l,v=.slice (some a) len cap∧LiesC w a len cap es l∧∀ v∈l,Q v:=by
 rcases DataW.trod_slice ht hf with ⟨h1,h2⟩ | ⟨a,len,cap,elems,rest,n,_,h1,h2,h3,h4,h5,h6,h7,h8,h9⟩
 ·left
  simpa using h1
 ·right
  simp only [Qsx,and_true] at h1
  subst h1
  simp only [ht,Cell.okWide,Cell.ok] at hval
  obtain ⟨_,_,_,hsp,row,cells,hsh,_⟩:=hval
  simp only [World.shape?] at hsh
  cases hb:w.heap[a.block]? with
  | none=>rw [hb] at hsh; cases hsh
  | some ob =>
   rw [hb] at hsh
   cases ob with
   | cells cs el fr =>
    have hcell:∀ i,w.cell? (a.add i)=cs[a.off+i]? := fun i=>by
     have h1:(a.add i)=⟨a.block,a.off+i,none⟩:=by
      obtain ⟨ab,ao,asp⟩:=a
      simp only at hsp
      subst hsp
      exact Vn _ _ _
     rw [h1]
     simp [World.cell?,hb]
    have hadd:∀ i j,(a.add i).add j=a.add (i+j):=fun i j=>by
     obtain ⟨ab,ao,asp⟩:=a
     simp only at hsp
     subst hsp
     rw [Vn,Vn,Vn,Vr]
    have hone:∀ (i:Nat) (z:DataW H×List MemPlace),(w.cells? 0 (a.add (i*es)) es).bind (DataW.trod enc P w 0 (fun _=>true) true n e)=some z→∀ j,j<es→∃ v,cs[a.off+(i*es+j)]?=some v∧Q v:=fun i z hz j hj=>by
     rw [Qb] at hz
     obtain ⟨c1,hc1,hof⟩:=hz
     obtain ⟨hl,hq⟩:=hQ _ _ _ hof
     obtain ⟨_,_,hcl⟩:=World.cells?_some hc1
     have:=hcl j (by omega)
     rw [hadd,hcell] at this
     refine ⟨c1[j],by rw [this]; exact Q3 (by omega),hq _ (Rq _)⟩
    have hel:∀ i,i<len→∀ j,j<es→∃ v,cs[a.off+(i*es+j)]?=some v∧Q v:=fun i hi=>by
     have h10:=h7 i hi
     rw [hc] at h10
     obtain ⟨z,hz⟩:∃ z,elems[i]?=some z:=⟨_,Q3 (by omega)⟩
     rw [hz] at h10
     exact hone i z h10
    have hcap:cap=0∨a.off+cap*es≤cs.size:=by
     rcases Wl cap with hz | hz
     ·exact .inl hz
     ·right
      have hlast:∃ v,cs[a.off+((cap-1)*es+(es-1))]?=some v:=by
       rcases Yc len cap with hlt | hge
       ·obtain ⟨hr1,hr2⟩:=h8 rfl
        have h10:=hr2 (cap-len-1) (by omega)
        rw [hc,show len+(cap-len-1)=cap-1 by omega] at h10
        obtain ⟨z,hz'⟩:∃ z,rest[cap-len-1]?=some z:=⟨_,Q3 (by omega)⟩
        rw [hz'] at h10
        obtain ⟨v,hv,-⟩:=hone _ z h10 (es-1) (by omega)
        exact ⟨v,hv⟩
       ·obtain ⟨v,hv,-⟩:=hel (cap-1) (by omega) (es-1) (by omega)
        exact ⟨v,hv⟩
      obtain ⟨v,hv⟩:=hlast
      have h11:=(Qbb.1 hv).1
      have h12:(cap-1)*es+es=cap*es:=by rw [←Qfl]; congr 1; omega
      omega
    have hall:∀ m,m<len*es→∃ v,cs[a.off+m]?=some v∧Q v:=fun m hm=>by
     have:=hel (m/es) (Gk (by rwa [Vt])) (m%es) (Jw _ h0)
     rwa [Nat.div_add_mod'] at this
    have hget:∀ (i:Nat) (v:Value),((Wm (len*es)).map fun m=>cs[a.off+m]?.getD (.bool false))[i]?=some v→cs[a.off+i]?=some v∧Q v:=fun i v hv=>by
     simp only [Wq,Ji] at hv
     obtain ⟨j,hj,rfl⟩:=hv
     obtain ⟨hj3,hj4⟩:=Q1.1 hj
     simp only [Qno] at hj3
     rw [List.getElem_range] at hj4
     subst hj4
     obtain ⟨v,h1,h2⟩:=hall i hj3
     rw [h1]
     exact ⟨rfl,h2⟩
    have hmem:∀ v∈(Wm (len*es)).map fun m=>cs[a.off+m]?.getD (.bool false),Q v:=fun v hv=>by
     obtain ⟨i,hi⟩:=List.mem_iff_getElem?.1 hv
     exact (hget i v hi).2
    exact ⟨a,len,cap,_,rfl,⟨hsp,⟨cs,el,fr,hb,hcap,fun i v hv=>(hget i v hv).1⟩,h4,h5,by simp,fun v hv=>hsc v (hmem v hv)⟩,hmem⟩
   | _=>cases hsh
end
theorem Qos {P:Program} {w:World} {r:Reach} {b0:Nat} {H:Type} {enc:TypeId×Value→H} {t:TypeId} {v:Value} {d:DataW H} {ps:List MemPlace} {L:List TypeId} (hu:(match P.underlying t with | some (.struct fs)=>fs.toList.map (fun f=>(f.type,f.offset))==(Wm L.length).map (fun i=>(L.getD i 0,i)) | _=>false)=true)
  (hc:P.cellsOf t=L.length) (h1:L.all (fun u=>P.cellsOf u==1)=true) (hts:P.cellTypes P.depth t=some L) (hval:Value.okWide P w r b0 t v) (hd:DataW.Trod enc P w 0 (fun _=>true) true t v d ps) :
  ∃ cs:List Value,v=.agg cs.toArray∧cs.length=L.length∧∀ (i:Nat) (u:TypeId),L[i]?=some u→∃ (c:Value) (fuel:Nat) (y:DataW H×List MemPlace),cs[i]?=some c∧Cell.okWide P w r b0 u c∧DataW.trod enc P w 0 (fun _=>true) true fuel u [c]=some y:=by
 split at hu
 ·rename_i fs hfs
  rw [beq_iff_eq] at hu
  simp only [Value.okWide,hfs] at hval
  obtain ⟨cs,rfl,hl,ts,k1,-,k3⟩:=hval
  rw [hts] at k1
  cases k1
  obtain ⟨fuel,hf⟩:=hd
  obtain ⟨xs,n,-,-,g1,g2,g3⟩:=DataW.trod_struct hfs hf
  rw [hc] at hl
  refine ⟨cs.toList,by simp,by simpa using hl,fun i u hi => ?_⟩
  have hiL:=(Q1.1 hi).1
  have hi2:(fs.toList.map (fun f=>(f.type,f.offset)))[i]?=some (u,i):=by
   rw [hu,Wq,Dq hiL,D0,Jh,hi,Uc]
  rw [Wq,Ji] at hi2
  obtain ⟨f,hf1,hf2⟩:=hi2
  cases hf2
  rw [Yy] at hf1
  have g4:=g3 _ _ hf1
  have hx:∃ x,xs[f.offset]?=some x:=⟨_,Q3 (by rw [g2]; exact (Qbb.1 hf1).1)⟩
  obtain ⟨x,hx⟩:=hx
  have hci:f.offset<cs.toList.length:=by simpa [hl] using hiL
  have hone:P.cellsOf f.type=1:=by
   have:=Yo.1 h1 f.type (Zp hi)
   simpa using this
  rw [hx,hone] at g4
  have e1:((Value.agg cs).cells.toList.drop f.offset).take 1=[cs.toList[f.offset]]:=by
   show (cs.toList.drop f.offset).take 1=_
   rw [Yx hci,Qf,Q0]
  rw [e1] at g4
  refine ⟨cs.toList[f.offset],n,x,Q3 hci,?_,g4⟩
  obtain ⟨u',j1,j2⟩:=k3 f.offset cs.toList[f.offset] (by rw [←Yy]; exact Q3 hci)
  rw [Jd hiL,hi] at j1
  cases j1
  exact j2
 ·cases hu
theorem Q0q {cs:List Value} {c0 c1 c2 c3 c4:Value} (h:cs.length=5) (g0:cs[0]?=some c0) (g1:cs[1]?=some c1) (g2:cs[2]?=some c2) (g3:cs[3]?=some c3) (g4:cs[4]?=some c4):cs=[c0,c1,c2,c3,c4]:=by
 match cs,h with
 | [a0,a1,a2,a3,a4],_=>cases g0; cases g1; cases g2; cases g3; cases g4; rfl
def obC (l:List Value):Ob:=⟨l,true,false,false,1⟩
theorem Qph {w:World} {a:Addr} {len cap es:Nat} {l:List Value} (h:LiesC w a len cap es l) (h0:0<es):∃ pl:Place,pl.block<w.heap.size∧(∀ ρ,ObjRel ρ w pl (obC l)) ∧
  ∀ (ρ:Pl) (id:Nat),ρ id=some pl→VRel ρ (.slice (some ⟨id,0,none⟩) len len) (.slice (some a) len cap):=by
 obtain ⟨cs,e,fr,h1,h2,h3⟩:=h.at_
 have hlt:a.block<w.heap.size:=(Qbb.1 h1).1
 have hle:=h.le
 have hln:=h.len
 rcases Wl cap with hz | hz
 ·subst hz
  have hlen0:len=0:=by omega
  subst hlen0
  have hl0:l=[]:=Vz (by omega)
  subst hl0
  refine ⟨⟨a.block,0,cs.size,1,.foreign⟩,hlt,fun ρ=>⟨rfl,rfl,cs,e,fr,h1,rfl,by simp [obC],fun i v hv=>by simp [obC] at hv,fun ho=>by simp [obC] at ho⟩,fun ρ id hρ => ?_⟩
  exact .slice hρ rfl (.inl h.spot) (.inl rfl) (.inr rfl) (Zf _) (Zf _) trivial
 ·have h4:a.off+cap*es≤cs.size:=by
   rcases h2 with h2 | h2
   ·omega
   ·exact h2
  have h5:len*es≤cap*es:=W4 _ hle
  refine ⟨⟨a.block,a.off,cs.size,1,.foreign⟩,hlt,fun ρ=>⟨rfl,rfl,cs,e,fr,h1,rfl,by simp only [obC]; omega,fun i v hv => ?_,fun ho=>by simp [obC] at ho⟩,fun ρ id hρ => ?_⟩
  ·have hs:=h.sc v (Zp hv)
   exact ⟨hs.1,v,h3 i v hv,.same hs.2⟩
  ·exact .slice hρ rfl (.inl h.spot) (.inl rfl) (.inl rfl) (Zf _) hle trivial
theorem Q2m {w:World} {obs:List Ob} {g:Nat→Option Place} (hown:∀ (i:Nat) (o:Ob),obs[i]?=some o→o.own=false) (h:∀ i o p,obs[i]?=some o→g i=some p→p.block<w.heap.size∧∀ ρ,ObjRel ρ w p o) :
  RelF (fun id=>if id<obs.length then g id else none) (hp obs) w:=by
 refine ⟨fun id p hp => ?_,fun id ob p hc hp hl => ?_,fun i j oi oj pi pj hi hj hpi hpj hl ho hlj hne => ?_⟩
 ·split at hp
  ·rename_i hi
   exact (h id _ p (Q3 hi) hp).1
  ·cases hp
 ·split at hp
  ·exact (h id ob p hc hp).2 _
  ·cases hp
 ·have:=hown i oi hi
  rw [ho] at this
  cases this
end Go.Ev
namespace Go.Ev
theorem n_add (a b:Nat):(a:Int)+(b:Int)=((a+b:Nat):Int):=(Hp a b).symm
theorem n_mul (a b:Nat):(a:Int)*(b:Int)=((a*b:Nat):Int):=(Gg a b).symm
theorem Q7g (n a:Nat):(no_index (@OfNat.ofNat Int n instOfNat))+(a:Int)=((n+a:Nat):Int):=(Hp n a).symm
theorem Q7h (n a:Nat):(a:Int)+(no_index (@OfNat.ofNat Int n instOfNat))=((a+n:Nat):Int):=(Hp a n).symm
theorem Q7f (n a:Nat):(no_index (@OfNat.ofNat Int n instOfNat))*(a:Int)=((n*a:Nat):Int):=(Gg n a).symm
theorem Q7e (n a:Nat):(a:Int)*(no_index (@OfNat.ofNat Int n instOfNat))=((a*n:Nat):Int):=(Gg a n).symm
theorem Qgc (a b:Nat):Qa9 (a:Int) (b:Int)=((a/b:Nat):Int):=by
 rw [Wn _ (Je _)]; rfl
theorem Q3l (a n:Nat):Qa9 (a:Int) (no_index (@OfNat.ofNat Int n instOfNat))=((a/n:Nat):Int):=Qgc a n
theorem Q7d (a n:Nat):Int.tdiv (a:Int) (no_index (@OfNat.ofNat Int n instOfNat))=((a/n:Nat):Int):=rfl
theorem Q7c (a n:Nat):Int.tmod (a:Int) (no_index (@OfNat.ofNat Int n instOfNat))=((a%n:Nat):Int):=rfl
theorem Qtp (a:Nat):IntKind.u64.wrap (a:Int)=((a%18446744073709551616:Nat):Int):=by rw [Tp]; omega
theorem Qtq (a:Nat):IntKind.u32.wrap (a:Int)=((a%4294967296:Nat):Int):=by rw [wrap_u32]; omega
theorem n_w16 (a:Nat):IntKind.u16.wrap (a:Int)=((a%65536:Nat):Int):=by rw [Qw2]; omega
theorem Qbr (a:Nat):IntKind.u8.wrap (a:Int)=((a%256:Nat):Int):=by rw [wrap_u8]; omega
theorem Qm6 (a b:Nat):IntKind.u64.wrap ((a:Int)-(b:Int))=(((a+(18446744073709551616-b%18446744073709551616))%18446744073709551616:Nat):Int):=by rw [Tp]; omega
theorem Qzo (n b:Nat):IntKind.u64.wrap ((no_index (@OfNat.ofNat Int n instOfNat))-(b:Int))=(((n+(18446744073709551616-b%18446744073709551616))%18446744073709551616:Nat):Int):=Qm6 n b
theorem Qzn (a n:Nat):IntKind.u64.wrap ((a:Int)-(no_index (@OfNat.ofNat Int n instOfNat)))=(((a+(18446744073709551616-n%18446744073709551616))%18446744073709551616:Nat):Int):=Qm6 a n
theorem Qi0 (w a:Nat):BitVec.ofInt w (a:Int)=BitVec.ofNat w a:=by simp
theorem n_and (k:IntKind) (hk:k.signed=false) (a b:Nat):Vo .and k (a:Int) (b:Int)=(((a%2^k.bits)&&&(b%2^k.bits):Nat):Int):=by
 simp only [Vo,Qi0]
 rw [BitVec.toNat_and,BitVec.toNat_ofNat,BitVec.toNat_ofNat,Ua hk (Bf _ (Jw _ (Ud (by decide))))]
theorem n_or (k:IntKind) (hk:k.signed=false) (a b:Nat):Vo .or k (a:Int) (b:Int)=(((a%2^k.bits)|||(b%2^k.bits):Nat):Int):=by
 simp only [Vo,Qi0]
 rw [BitVec.toNat_or,BitVec.toNat_ofNat,BitVec.toNat_ofNat,Ua hk (Hy (Jw _ (Ud (by decide))) (Jw _ (Ud (by decide))))]
theorem Th (k:IntKind) (hk:k.signed=false) (w a:Nat) (hw:w≤k.bits):Vo .and k (a:Int) ((2^w-1:Nat):Int)=((a%2^w:Nat):Int):=by
 have h1:(2:Nat)^w≤2^k.bits:=Vl (by decide) hw
 have h0:0<(2:Nat)^w:=Ud (by decide)
 rw [n_and k hk,Jd (a:=2^w-1) (by omega),Rp,D9 _ (Nat.pow_dvd_pow 2 hw)]
theorem n_m32 (a:Nat):Vo .and .u64 (a:Int) 4294967295=((a%4294967296:Nat):Int):=Th .u64 rfl 32 a (by decide)
theorem n_m51 (a:Nat):Vo .and .u64 (a:Int) 2251799813685247=((a%2251799813685248:Nat):Int):=Th .u64 rfl 51 a (by decide)
theorem n_m1 (a:Nat):Vo .and .u64 (a:Int) 1=((a%2:Nat):Int):=Th .u64 rfl 1 a (by decide)
theorem n_m1b (a:Nat):Vo .and .u8 (a:Int) 1=((a%2:Nat):Int):=Th .u8 rfl 1 a (by decide)
theorem n_m7b (a:Nat):Vo .and .u8 (a:Int) 127=((a%128:Nat):Int):=Th .u8 rfl 7 a (by decide)
theorem Q60:(2:Int)^min 32 IntKind.u64.bits=((4294967296:Nat):Int):=rfl
theorem Q6z:(2:Int)^min 51 IntKind.u64.bits=((2251799813685248:Nat):Int):=rfl
theorem Q61:(2:Int)^min 13 IntKind.u64.bits=((8192:Nat):Int):=rfl
theorem p8_7:(2:Int)^min 7 IntKind.u8.bits=((128:Nat):Int):=rfl
theorem Dj {a b n:Nat} (h:a<2^n):(b*2^n)|||a=b*2^n+a:=by
 rw [Vt,Hx h]
theorem Qbq (k:IntKind):ns k []=[]:=rfl
theorem Rz (k:IntKind) (x:Nat) (r:List Nat):ns k (x::r)=.int k (x:Nat)::ns k r:=rfl
theorem Qhu {w m q s y M:Nat} (hq:q<m) (hs:s<w) (hM:M<2^(w*q+s)) (hy:y*2^s<2^w) :
  (dig (2^w) m M).set q ((dig (2^w) m M).getD q 0|||y*2^s)=dig (2^w) m (M+y*2^(w*q+s)):=by
 have hB:(2^w)^q=2^(w*q):=by rw [←Y0]
 have hpos:0<(2^w:Nat)^q:=Ud (Ud (by decide))
 have hpow:(2:Nat)^(w*q+s)=2^s*(2^w)^q:=by rw [Ww,hB,Vt]
 have hdiv:M/(2^w)^q<2^s:=by rw [Qgs hpos,←hpow]; exact hM
 have hsw:(2:Nat)^s≤2^w:=Vl (by decide) (by omega)
 have hsum:M/(2^w)^q+y*2^s<2^w:=by
  have h1:(2:Nat)^w=2^(w-s)*2^s:=by rw [←Ww]; congr 1; omega
  have h2:y<2^(w-s):=by
   rw [h1] at hy
   exact Nat.lt_of_mul_lt_mul_right hy
  have h3:(y+1)*2^s≤2^(w-s)*2^s:=W4 _ h2
  rw [Vy,U7,←h1] at h3
  omega
 apply Qcx (by rw [Jp,Vs])
 intro i hi
 by_cases hqi:i=q
 ·subst hqi
  rw [Jl (by rw [Vs]; exact hi),Jh,Dl hi]
  rw [hpow,←Y5,Rk _ _ hpos]
  simp only [Uc]
  rw [Jd (a:=M/_) (by omega),Jd hsum,Nat.or_comm,Dj hdiv,Bi]
 ·rw [Z7 (Ne.symm hqi),Dl hi]
  congr 1
  by_cases hlt:i<q
  ·have h1:(2^w:Nat)^q=2^w*(2^w)^(q-i-1)*(2^w)^i:=by
    rw [Y5,←Ww,←Qqu]; congr 1; omega
   rw [hpow,h1]
   rw [show y*(2^s*(2^w*(2^w)^(q-i-1)*(2^w)^i))=(y*2^s*(2^w)^(q-i-1)*2^w)*(2^w)^i by simp only [Y5,Wk,Vt]]
   rw [Rk _ _ (Ud (Ud (by decide))),De]
  ·have h1:M+y*2^(w*q+s)<(2^w)^i:=by
    have h2:(2^w:Nat)^(q+1)≤(2^w)^i:=Vl (Ud (by decide)) (by omega)
    refine Xf ?_ h2
    have h3:(M/(2^w)^q+y*2^s+1)*(2^w)^q≤2^w*(2^w)^q:=W4 _ hsum
    have h4:=Yi M ((2^w)^q)
    have h5:=Jw M hpos
    rw [V0,Vt ((2^w)^q)]
    refine Xf ?_ h3
    rw [hpow,←Y5,Vy,Vy,U7,Vt (M/(2^w)^q)]
    omega
   rw [Un h1,Un (by omega)]
def Vw (T:Tab) (f:Nat) (args:List Value):Option Value:=(Vv T f args []).map (·.1)
theorem Qby {T:Tab} {f:Nat} {args:List Value} {v:Value} {l:List Ob} {M:List Nat} (h:Vv T f args []=some (v,l,M)):Vw T f args=some v:=by simp [Vw,h]
theorem Ks {T:Tab} {f:Nat} {args:List Value} {v:Value} (h:∃ l,Vv T f args []=some (v,l,[])):Vw T f args=some v:=by
 obtain ⟨l,h⟩:=h
 exact Qby h
theorem Zn {T:Tab} {b:Nat} {q:Bool} {f:Nat} {xs:List Operand} {d:Option Nat} {r:List AOper} {e:Env} {H:List Ob} {l:List Nat}:steps T b q (⟨d,.call f xs true,none⟩::r) ⟨e,H,l⟩=(Wt e xs).bind fun args=>gate (args.all rf=true) ((Vw T f args).bind fun v=>gate (rf v=true) (steps T b q r ⟨e.put d v,H,l⟩)):=by
 rw [M8]
 cases Wt e xs with
 | none=>rfl
 | some args =>
  simp only [Q4,Vw]
  cases Vv T f args []<;>rfl
def cU:=Zd (Zd (Zd (Zd (@n_add) (Zd (@n_mul) (@Q7g))) (Zd (@Q7h) (Zd (@Q7f) (@Q7e)))) (Zd (Zd (@Qgc) (Zd (@Q3l) (@Q7d))) (Zd (Zd (@Q7c) (@Qtp)) (Zd (@Qtq) (@n_w16))))) (Zd (Zd (Zd (@Qbr) (Zd (@Qm6) (@Qzo))) (Zd (@Qzn) (Zd (@n_m32) (@n_m51)))) (Zd (Zd (@n_m1) (Zd (@n_m1b) (@n_m7b))) (Zd (Zd (@Q60) (@Q6z)) (Zd (@Q61) (@p8_7)))))
end Go.Ev
namespace Go.NT
def Pr (p:Nat):Prop:=2≤p∧∀ m,m∣p→m=1∨m=p
theorem Pr.coprime {p a:Nat} (hp:Pr p) (h:¬ p∣a):Q9f p a:=by
 rcases hp.2 (Qhy p a) (Nat.gcd_dvd_left p a) with h1 | h1
 ·exact h1
 ·exact absurd (h1▸Nat.gcd_dvd_right p a) h
theorem Pr.dvd_mul {p a b:Nat} (hp:Pr p) (h:p∣a*b):p∣a∨p∣b:=by
 by_cases ha:p∣a
 ·exact .inl ha
 ·exact .inr ((hp.coprime ha).dvd_of_dvd_mul_left h)
def Tw:List Nat→Nat
 | []=>1
 | x::r=>x*Tw r
theorem Qre {l l':List Nat} (h:l.Perm l'):Tw l=Tw l':=by
 induction h with
 | nil=>rfl
 | cons x _ ih=>simp only [Tw,ih]
 | swap x y l=>simp only [Tw,Wk]
 | trans _ _ h1 h2=>rw [h1,h2]
theorem Qtg:∀ {l1 l2:List Nat},l1.Nodup→(∀ x∈l1,x∈l2)→l2.length≤l1.length→l1.Perm l2
 | [],l2,_,_,hl=>by
  have:l2=[]:=by cases l2 with | nil=>rfl | cons _ _=>simp at hl
  subst this; exact .nil
 | a::t,l2,hn,hs,hl=>by
  have ha:=hs a (by simp)
  have hp:=List.perm_cons_erase ha
  have hlen:=hp.length_eq
  rw [List.nodup_cons] at hn
  refine (List.Perm.cons a (Qtg hn.2 (fun x hx => ?_) ?_)).trans hp.symm
  ·have hxa:x≠a:=fun h=>hn.1 (h▸hx)
   exact (List.mem_erase_of_ne hxa).2 (hs x (by simp [hx]))
  ·simp only [Zx] at hl hlen ⊢
   omega
theorem Qk6 (a p:Nat):∀ l:List Nat,Tw (l.map fun x=>a*x%p)%p=a^l.length*Tw l%p
 | []=>by simp [Tw]
 | x::r=>by
  have h1:=Qk6 a p r
  simp only [Wi,Tw,Zx,V0]
  rw [Tj,h1,Tk,←Tj]
  congr 1
  simp only [Y5,Wk,Vt]
theorem Qiq {p:Nat} (hp:Pr p):∀ {l:List Nat},(∀ x∈l,¬ p∣x)→¬ p∣Tw l
 | [],_=>fun h=>by
  have:=Gp (by decide:0<1) h
  have:=hp.1
  omega
 | x::r,h=>fun hd=>by
  rcases hp.dvd_mul hd with h1 | h1
  ·exact h x (by simp) h1
  ·exact Qiq hp (fun y hy=>h y (by simp [hy])) h1
theorem Qgh {p a:Nat} (hp:Pr p) (ha:¬ p∣a):a^(p-1)%p=1:=by
 have h2:=hp.1
 have hnd:((Hf 1 (p-1)).map fun x=>a*x%p).Nodup:=by
  rw [List.nodup_iff_pairwise_ne,List.pairwise_map]
  refine List.Pairwise.imp_of_mem ?_ (List.pairwise_lt_range' (s:=1) (n:=p-1))
  intro x y hx hy hxy he
  simp only [Qnn] at hx hy
  have h3:(a*y-a*x)%p=0:=Ti he.symm
  rw [←Nat.mul_sub] at h3
  rcases hp.dvd_mul (Mm h3) with h4 | h4
  ·exact ha h4
  ·have:=Gp (by omega) h4
   omega
 have hmem:∀ x∈(Hf 1 (p-1)).map (fun x=>a*x%p),x∈Hf 1 (p-1):=by
  intro x hx
  simp only [Uh,Qnn] at hx ⊢
  obtain ⟨y,hy,rfl⟩:=hx
  have h3:a*y%p<p:=Jw _ (by omega)
  have h4:a*y%p≠0:=fun h=>by
   rcases hp.dvd_mul (Mm h) with h4 | h4
   ·exact ha h4
   ·have:=Gp (by omega) h4
    omega
  omega
 have hperm:=Qre (Qtg hnd hmem (by simp))
 have h5:=Qk6 a p (Hf 1 (p-1))
 rw [hperm,List.length_range'] at h5
 have h6:¬ p∣Tw (Hf 1 (p-1)):=Qiq hp fun x hx hd=>by
  simp only [Qnn] at hx
  have:=Gp (by omega) hd
  omega
 have h7:(a^(p-1)*Tw (Hf 1 (p-1))-1*Tw (Hf 1 (p-1)))%p=0:=Ti (by rw [←h5,U7])
 rw [←Nat.sub_mul] at h7
 have ha0:0<a:=Nat.pos_of_ne_zero fun h=>ha (h▸Nat.dvd_zero p)
 have h8:0<a^(p-1):=Ud ha0
 rcases hp.dvd_mul (Mm h7) with h9 | h9
 ·obtain ⟨k,hk⟩:=h9
  have:a^(p-1)=p*k+1:=by omega
  rw [this,Nat.mul_add_mod,Jd (by omega)]
 ·exact absurd h9 h6
theorem Qgf {n:Nat} (hn:2≤n):∃ r,Pr r∧r∣n∧(Pr n∨r*r≤n):=by
 have ex:∃ r,2≤r∧r∣n∧∀ m,2≤m→m∣n→r≤m:=by
  have key:∀ k,(∃ r,2≤r∧r∣n∧r≤k)→∃ r,2≤r∧r∣n∧∀ m,2≤m→m∣n→r≤m:=by
   intro k
   induction k with
   | zero=>rintro ⟨r,h1,_,h3⟩; omega
   | succ k ih =>
    rintro ⟨r,h1,h2,h3⟩
    by_cases h:∃ r,2≤r∧r∣n∧r≤k
    ·exact ih h
    ·refine ⟨r,h1,h2,fun m hm hmd => ?_⟩
     rcases Yc k m with h4 | h4
     ·omega
     ·exact absurd ⟨m,hm,hmd,h4⟩ h
  exact key n ⟨n,hn,Nat.dvd_refl n,Zf n⟩
 obtain ⟨r,h1,h2,h3⟩:=ex
 have hr:Pr r:=⟨h1,fun m hm=>by
  have hm0:0<m:=Nat.pos_of_dvd_of_pos hm (by omega)
  rcases Yc m 2 with h | h
  ·left; omega
  ·have:=h3 m h (Q1q hm h2)
   have:=Gp (by omega) hm
   right; omega⟩
 refine ⟨r,hr,h2,?_⟩
 obtain ⟨k,rfl⟩:=h2
 rcases Yc k 2 with h | h
 ·have:k=1:=by
   rcases Wl k with h0 | h0
   ·subst h0; omega
   ·omega
  subst this
  rw [Xg]; exact .inl hr
 ·exact .inr (Dn r (h3 k h (Qqw k r)))
def pw (m a:Nat):Nat→Nat→Nat
 | 0,_=>1%m
 | f+1,e=>if e%2=1 then (pw m a f (e/2))*(pw m a f (e/2))%m*a%m else (pw m a f (e/2))*(pw m a f (e/2))%m
theorem Q5x (m a:Nat):∀ (f e:Nat),e<2^f→pw m a f e=a^e%m
 | 0,e,h=>by
  have:e=0:=by simpa using h
  subst this; rfl
 | f+1,e,h=>by
  have ih:=Q5x m a f (e/2) (by rw [V0] at h; omega)
  have hs:a^(e/2)%m*(a^(e/2)%m)%m=a^(2*(e/2))%m:=by
   rw [←Tj,←Ww]; congr 2; omega
  unfold pw
  rw [ih]
  by_cases he:e%2=1
  ·rw [if_pos he,hs,T6,←V0]
   congr 2; omega
  ·rw [if_neg he,hs]
   congr 2; omega
def pwf (m a:Nat):Nat→Nat→Nat
 | 0,_=>1%m
 | f+1,e=>(fun r=>if e%2=1 then r*r%m*a%m else r*r%m) (pwf m a f (e/2))
theorem Q2q {r:Nat} (hr:2≤r) (b x y:Nat):b^x%r=1→b^y%r=1→b^(Qhy x y)%r=1:=by
 induction x,y using Nat.gcd.induction with
 | H0 y=>intro _ h; rwa [Nat.gcd_zero_left]
 | H1 x y hx ih =>
  intro h1 h2
  rw [Nat.gcd_rec]
  refine ih ?_ h1
  have h3:b^(x*(y/x)+y%x)%r=1:=by rw [Yi]; exact h2
  rw [Ww,Y0,Tj,Q9c (b^x),h1,Nat.one_pow,Jd (a:=1) (by omega),U7,Tk] at h3
  exact h3
theorem Q6u {n q k a r:Nat} (hq:Pr q) (hk:n=q*k+1) (h1:a^(q*k)%n=1) (h2:Qhy (a^k%n+n-1) n=1) (hr:Pr r) (hrn:r∣n):q∣r-1:=by
 have hr2:=hr.1
 have hn0:0<n:=by omega
 have hn2:r≤n:=Gp hn0 hrn
 have hmodr:∀ x,x%n%r=x%r:=fun x=>D9 x hrn
 have hb1:a^(q*k)%r=1:=by rw [←hmodr,h1,Jd (by omega)]
 have hra:¬ r∣a:=fun h=>by
  have hqk:0<q*k:=by
   rcases Wl (q*k) with h0 | h0
   ·omega
   ·exact h0
  have:r∣a^(q*k):=by
   obtain ⟨m,hm⟩:∃ m,q*k=m+1:=⟨q*k-1,by omega⟩
   rw [hm,V0]
   exact Q1q h (Qqw a _)
  have:=Qfn this
  omega
 have hf:=Qgh hr hra
 by_cases hqd:q∣r-1
 ·exact hqd
 ·exfalso
  have hc:=hq.coprime hqd
  have hpow:∀ x:Nat,∀ c,c%r=1→c^x%r=1:=fun x c hcx=>by rw [Q9c,hcx,Nat.one_pow,Jd (by omega)]
  have hk1:(a^k)^q%r=1:=by rw [←Y0,Vt k q]; exact hb1
  have hk2:(a^k)^(r-1)%r=1:=by rw [←Y0,Vt k,Y0]; exact hpow k _ hf
  have hak:a^k%r=1:=by
   have:=Q2q hr2 (a^k) q (r-1) hk1 hk2
   rwa [hc,Nat.pow_one] at this
  have hdvd:r∣a^k%n+n-1:=by
   have e3:a^k%n%r=1:=by rw [hmodr]; exact hak
   have e4:1≤a^k%n:=by
    rcases Wl (a^k%n) with h0 | h0
    ·rw [h0,Nat.zero_mod] at e3; omega
    ·exact h0
   have e5:r∣a^k%n-1:=by
    apply Mm
    exact Ti (by rw [e3,Jd (by omega)])
   rw [show a^k%n+n-1=(a^k%n-1)+n by omega]
   exact Nat.dvd_add e5 hrn
  have:=Nat.dvd_gcd hdvd hrn
  rw [h2] at this
  have:=Gp (by decide) this
  omega
theorem Qys {n q k a:Nat} (hn:2≤n) (hq:Pr q) (hk:n=q*k+1) (hbig:n<q*q) (h1:a^(q*k)%n=1) (h2:Qhy (a^k%n+n-1) n=1):Pr n:=by
 obtain ⟨r,hr,hrn,h | h⟩:=Qgf hn
 ·exact h
 ·have h3:=Q6u hq hk h1 h2 hr hrn
  have:=hr.1
  have h4:=Gp (by omega) h3
  have:q*q≤r*r:=Wx (by omega) (by omega)
  omega
theorem Qyr {n q k a q' k' a':Nat} (hn:2≤n) (hq:Pr q) (hk:n=q*k+1) (hq':Pr q') (hk':n=q'*k'+1) (hne:q≠q') (hbig:n<(q*q')*(q*q')) (h1:a^(q*k)%n=1) (h2:Qhy (a^k%n+n-1) n=1)
  (h1':a'^(q'*k')%n=1) (h2':Qhy (a'^k'%n+n-1) n=1):Pr n:=by
 obtain ⟨r,hr,hrn,h | h⟩:=Qgf hn
 ·exact h
 ·have h3:=Q6u hq hk h1 h2 hr hrn
  have h3':=Q6u hq' hk' h1' h2' hr hrn
  have hc:Q9f q q':=hq.coprime fun hd=>by
   rcases hq'.2 q hd with h | h
   ·have:=hq.1; omega
   ·exact hne h
  have h5:=hc.mul_dvd_of_dvd_of_dvd h3 h3'
  have:=hr.1
  have h4:=Gp (by omega) h5
  have:(q*q')*(q*q')≤r*r:=Wx (by omega) (by omega)
  omega
def Qtn (n:Nat):Nat→Nat→Bool
 | 0,_=>true
 | f+1,m=>(n%m != 0)&&Qtn n f (m+1)
theorem Qi1 {n:Nat}:∀ (f m:Nat),Qtn n f m=true→∀ x,m≤x→x<m+f→n%x≠0
 | 0,m,_,x,h1,h2=>by omega
 | f+1,m,h,x,h1,h2=>by
  simp only [Qtn,Yk,bne_iff_ne] at h
  rcases Nat.eq_or_lt_of_le h1 with h3 | h3
  ·subst h3; exact h.1
  ·exact Qi1 f (m+1) h.2 x h3 (by omega)
theorem Gc {n f:Nat} (hn:2≤n) (hf:n<(f+2)*(f+2)) (h:Qtn n f 2=true):Pr n:=by
 obtain ⟨r,hr,hrn,h1 | h1⟩:=Qgf hn
 ·exact h1
 ·have hr2:=hr.1
  have:r<2+f:=by
   rcases Yc r (2+f) with h2 | h2
   ·exact h2
   ·have:(f+2)*(f+2)≤r*r:=Wx (by omega) (by omega)
    omega
  exact absurd (Qfn hrn) (Qi1 f 2 h r hr2 this)
end Go.NT
namespace Go.Cv
section
variable {n:Nat} [NeZero n]
structure Fld (n:Nat) [NeZero n] (iv:Fin n→Fin n) (d i:Fin n):Prop where
 inv:∀ a:Fin n,a≠0→a*iv a=1
 iv0:iv 0=0
 one:(1:Fin n)≠0
 two:(2:Fin n)≠0
 root:i*i = -1
 nosq:∀ r:Fin n,r*r≠d
variable {iv:Fin n→Fin n} {d i:Fin n} (F:Fld n iv d i)
include F
theorem Fld.dom {a b:Fin n} (h:a*b=0):a=0∨b=0:=by
 by_cases ha:a=0
 ·exact .inl ha
 ·have:=F.inv a ha
  exact .inr (by grobner)
theorem Fld.mul_ne {a b:Fin n} (ha:a≠0) (hb:b≠0):a*b≠0:=fun h=>by
 rcases F.dom h with h | h
 ·exact ha h
 ·exact hb h
theorem Fld.cancel {a b c:Fin n} (ha:a≠0) (h:a*b=a*c):b=c:=by
 have:=F.inv a ha
 grobner
theorem Fld.noratio {u v:Fin n} (hv:v≠0):u*u≠d*(v*v):=fun h=>by
 have:=F.inv v hv
 apply F.nosq (u*iv v)
 grobner
omit F
def On (d x y:Fin n):Prop := -(x*x)+y*y=1+d*(x*x)*(y*y)
theorem On.sub {d x y:Fin n} (h:On d x y) : -(x*x)+y*y-1-d*(x*x)*(y*y)=0:=by
 unfold On at h; grobner
theorem Qxm {L R a b c e:Fin n} (h:L-R=a*c+b*e) (hc:c=0) (he:e=0):L=R:=by
 subst hc he; grobner
theorem Qia {L R a b c e f g:Fin n} (h:L-R=a*c+b*e+f*g) (hc:c=0) (he:e=0) (hg:g=0):L=R:=by
 subst hc he hg; grobner
theorem Q03 (d x1 y1 x2 y2:Fin n) : -((x1*y2+x2*y1)*(x1*y2+x2*y1)*((1-d*x1*x2*y1*y2)*(1-d*x1*x2*y1*y2)))+(y1*y2+x1*x2)*(y1*y2+x1*x2)*((1+d*x1*x2*y1*y2)*(1+d*x1*x2*y1*y2)) -
   (((1+d*x1*x2*y1*y2)*(1-d*x1*x2*y1*y2))*((1+d*x1*x2*y1*y2)*(1-d*x1*x2*y1*y2))+d*((x1*y2+x2*y1)*(x1*y2+x2*y1))*((y1*y2+x1*x2)*(y1*y2+x1*x2))) =
   (d*d*d*x1*x1*x2*x2*x2*x2*y1*y1*y2*y2*y2*y2-d*d*x1*x1*x2*x2*x2*x2*y2*y2*y2*y2+d*d*x2*x2*x2*x2*y1*y1*y2*y2*y2*y2-d*d*x2*x2*x2*x2*y2*y2*y2*y2-d*x1*x1*x2*x2*x2*x2*y2*y2+d*x1*x1*x2*x2*y2*y2*y2*y2+d*x2*x2*x2*x2*y1*y1*y2*y2-2*d*x2*x2*x2*x2*y2*y2*y2*y2-d*x2*x2*y1*y1*y2*y2*y2*y2-2*d*x2*x2*y2*y2-2*x2*x2*x2*x2*y2*y2+x2*x2*x2*x2+2*x2*x2*y2*y2*y2*y2-4*x2*x2*y2*y2+y2*y2*y2*y2)*(-(x1*x1)+y1*y1-1-d*(x1*x1)*(y1*y1))+(d*x1*x1*x1*x1*x2*x2*y2*y2+2*d*x1*x1*x2*x2*y2*y2+d*x2*x2*y1*y1*y1*y1*y2*y2-2*d*x2*x2*y1*y1*y2*y2+d*x2*x2*y2*y2+2*x1*x1*x2*x2*y2*y2-x1*x1*x2*x2+x1*x1*y2*y2-2*x2*x2*y1*y1*y2*y2+x2*x2*y1*y1+2*x2*x2*y2*y2-x2*x2-y1*y1*y2*y2+y2*y2+1)*(-(x2*x2)+y2*y2-1-d*(x2*x2)*(y2*y2)):=by grobner
theorem Q8b (d x1 y1 x2 y2 x3 y3:Fin n):((x1*y2+x2*y1)*(1-d*x1*x2*y1*y2)*y3+x3*(y1*y2+x1*x2)*(1+d*x1*x2*y1*y2))*((1+d*x2*x3*y2*y3)*(1-d*x2*x3*y2*y3)+d*(x2*y3+x3*y2)*(y2*y3+x2*x3)*x1*y1) -
   (x1*(y2*y3+x2*x3)*(1+d*x2*x3*y2*y3)+(x2*y3+x3*y2)*(1-d*x2*x3*y2*y3)*y1)*((1+d*x1*x2*y1*y2)*(1-d*x1*x2*y1*y2)+d*(x1*y2+x2*y1)*(y1*y2+x1*x2)*x3*y3) =
   (-d*d*x1*x2*x2*x2*x2*x3*x3*y2*y2*y2*y3-d*d*x1*x2*x2*x2*x3*y2*y2*y2*y2*y3*y3+d*d*x2*x2*x2*x2*x3*y1*y2*y2*y2*y3*y3+d*d*x2*x2*x2*x3*x3*y1*y2*y2*y2*y2*y3-d*x1*x2*x2*x2*x2*x3*x3*y2*y3-d*x1*x2*x2*x2*x3*x3*x3*y2*y2-d*x1*x2*x2*x2*x3*y2*y2+d*x1*x2*x2*y2*y2*y2*y3*y3*y3-d*x1*x2*x2*y2*y2*y2*y3+d*x1*x2*x3*y2*y2*y2*y2*y3*y3+d*x2*x2*x2*x2*x3*y1*y2*y3*y3+d*x2*x2*x2*y1*y2*y2*y3*y3*y3-d*x2*x2*x2*y1*y2*y2*y3-d*x2*x2*x3*x3*x3*y1*y2*y2*y2-d*x2*x2*x3*y1*y2*y2*y2-d*x2*x3*x3*y1*y2*y2*y2*y2*y3)*(-(x1*x1)+y1*y1-1-d*(x1*x1)*(y1*y1))+(d*d*x1*x1*x2*x2*x3*x3*x3*y1*y2*y3*y3-d*d*x1*x1*x2*x3*x3*y1*y2*y2*y3*y3*y3-d*d*x1*x2*x2*x3*x3*y1*y1*y2*y3*y3*y3+d*d*x1*x2*x3*x3*x3*y1*y1*y2*y2*y3*y3+d*x1*x1*x1*x2*x2*x3*x3*y2*y3+d*x1*x1*x1*x2*x3*x3*x3*y3*y3+d*x1*x1*x1*x2*x3*y2*y2*y3*y3+d*x1*x1*x1*x3*x3*y2*y3*y3*y3-d*x1*x1*x2*x2*x3*y1*y2*y3*y3-d*x1*x1*x2*x3*x3*y1*y2*y2*y3+d*x1*x1*x2*x3*x3*y1*y3*y3*y3+d*x1*x1*x3*x3*x3*y1*y2*y3*y3-d*x1*x2*x2*x3*x3*y1*y1*y2*y3+d*x1*x2*x2*x3*x3*y2*y3-d*x1*x2*x3*x3*x3*y1*y1*y3*y3+d*x1*x2*x3*x3*x3*y3*y3-d*x1*x2*x3*y1*y1*y2*y2*y3*y3+d*x1*x2*x3*y2*y2*y3*y3-d*x1*x3*x3*y1*y1*y2*y3*y3*y3+d*x1*x3*x3*y2*y3*y3*y3+d*x2*x2*x3*y1*y1*y1*y2*y3*y3-d*x2*x2*x3*y1*y2*y3*y3+d*x2*x3*x3*y1*y1*y1*y2*y2*y3-d*x2*x3*x3*y1*y1*y1*y3*y3*y3-d*x2*x3*x3*y1*y2*y2*y3+d*x2*x3*x3*y1*y3*y3*y3-d*x3*x3*x3*y1*y1*y1*y2*y3*y3+d*x3*x3*x3*y1*y2*y3*y3+x1*x1*x1*x2*x3*x3*x3-x1*x1*x1*x2*x3*y3*y3+x1*x1*x1*x2*x3+x1*x1*x1*x3*x3*y2*y3-x1*x1*x1*y2*y3*y3*y3+x1*x1*x1*y2*y3+x1*x1*x2*x3*x3*y1*y3-x1*x1*x2*y1*y3*y3*y3+x1*x1*x2*y1*y3+x1*x1*x3*x3*x3*y1*y2-x1*x1*x3*y1*y2*y3*y3+x1*x1*x3*y1*y2-x1*x2*x3*x3*x3*y1*y1+x1*x2*x3*x3*x3+x1*x2*x3*y1*y1*y3*y3-x1*x2*x3*y1*y1-x1*x2*x3*y3*y3+x1*x2*x3-x1*x3*x3*y1*y1*y2*y3+x1*x3*x3*y2*y3+x1*y1*y1*y2*y3*y3*y3-x1*y1*y1*y2*y3-x1*y2*y3*y3*y3+x1*y2*y3-x2*x3*x3*y1*y1*y1*y3+x2*x3*x3*y1*y3+x2*y1*y1*y1*y3*y3*y3-x2*y1*y1*y1*y3-x2*y1*y3*y3*y3+x2*y1*y3-x3*x3*x3*y1*y1*y1*y2+x3*x3*x3*y1*y2+x3*y1*y1*y1*y2*y3*y3-x3*y1*y1*y1*y2-x3*y1*y2*y3*y3+x3*y1*y2)*(-(x2*x2)+y2*y2-1-d*(x2*x2)*(y2*y2))+(-d*x1*x1*x2*x2*x3*y1*y2+d*x1*x1*x2*y1*y2*y2*y3+d*x1*x2*x2*y1*y1*y2*y3-d*x1*x2*x3*y1*y1*y2*y2-x1*x1*x1*x2*x2*x2*x3-x1*x1*x1*x2*x2*y2*y3+x1*x1*x1*x2*x3*y2*y2-x1*x1*x1*x2*x3+x1*x1*x1*y2*y2*y2*y3-x1*x1*x1*y2*y3-x1*x1*x2*x2*x2*y1*y3-x1*x1*x2*x2*x3*y1*y2+x1*x1*x2*y1*y2*y2*y3-x1*x1*x2*y1*y3+x1*x1*x3*y1*y2*y2*y2-x1*x1*x3*y1*y2+x1*x2*x2*x2*x3*y1*y1-x1*x2*x2*x2*x3+x1*x2*x2*y1*y1*y2*y3-x1*x2*x2*y2*y3-x1*x2*x3*y1*y1*y2*y2+x1*x2*x3*y1*y1+x1*x2*x3*y2*y2-x1*x2*x3-x1*y1*y1*y2*y2*y2*y3+x1*y1*y1*y2*y3+x1*y2*y2*y2*y3-x1*y2*y3+x2*x2*x2*y1*y1*y1*y3-x2*x2*x2*y1*y3+x2*x2*x3*y1*y1*y1*y2-x2*x2*x3*y1*y2-x2*y1*y1*y1*y2*y2*y3+x2*y1*y1*y1*y3+x2*y1*y2*y2*y3-x2*y1*y3-x3*y1*y1*y1*y2*y2*y2+x3*y1*y1*y1*y2+x3*y1*y2*y2*y2-x3*y1*y2)*(-(x3*x3)+y3*y3-1-d*(x3*x3)*(y3*y3)):=by grobner
theorem Q8a (d x1 y1 x2 y2 x3 y3:Fin n):((y1*y2+x1*x2)*(1+d*x1*x2*y1*y2)*y3+(x1*y2+x2*y1)*(1-d*x1*x2*y1*y2)*x3)*((1+d*x2*x3*y2*y3)*(1-d*x2*x3*y2*y3)-d*(x2*y3+x3*y2)*(y2*y3+x2*x3)*x1*y1) -
   (y1*(y2*y3+x2*x3)*(1+d*x2*x3*y2*y3)+x1*(x2*y3+x3*y2)*(1-d*x2*x3*y2*y3))*((1+d*x1*x2*y1*y2)*(1-d*x1*x2*y1*y2)-d*(x1*y2+x2*y1)*(y1*y2+x1*x2)*x3*y3) =
   (d*d*x1*x2*x2*x2*x2*x3*y2*y2*y2*y3*y3+d*d*x1*x2*x2*x2*x3*x3*y2*y2*y2*y2*y3-d*d*x2*x2*x2*x2*x3*x3*y1*y2*y2*y2*y3-d*d*x2*x2*x2*x3*y1*y2*y2*y2*y2*y3*y3+d*x1*x2*x2*x2*x2*x3*y2*y3*y3+d*x1*x2*x2*x2*y2*y2*y3*y3*y3-d*x1*x2*x2*x2*y2*y2*y3-d*x1*x2*x2*x3*x3*x3*y2*y2*y2-d*x1*x2*x2*x3*y2*y2*y2-d*x1*x2*x3*x3*y2*y2*y2*y2*y3-d*x2*x2*x2*x2*x3*x3*y1*y2*y3-d*x2*x2*x2*x3*x3*x3*y1*y2*y2-d*x2*x2*x2*x3*y1*y2*y2+d*x2*x2*y1*y2*y2*y2*y3*y3*y3-d*x2*x2*y1*y2*y2*y2*y3+d*x2*x3*y1*y2*y2*y2*y2*y3*y3)*(-(x1*x1)+y1*y1-1-d*(x1*x1)*(y1*y1))+(d*d*x1*x1*x2*x2*x3*x3*y1*y2*y3*y3*y3-d*d*x1*x1*x2*x3*x3*x3*y1*y2*y2*y3*y3-d*d*x1*x2*x2*x3*x3*x3*y1*y1*y2*y3*y3+d*d*x1*x2*x3*x3*y1*y1*y2*y2*y3*y3*y3-d*x1*x1*x1*x2*x2*x3*y2*y3*y3-d*x1*x1*x1*x2*x3*x3*y2*y2*y3+d*x1*x1*x1*x2*x3*x3*y3*y3*y3+d*x1*x1*x1*x3*x3*x3*y2*y3*y3+d*x1*x1*x2*x2*x3*x3*y1*y2*y3+d*x1*x1*x2*x3*x3*x3*y1*y3*y3+d*x1*x1*x2*x3*y1*y2*y2*y3*y3+d*x1*x1*x3*x3*y1*y2*y3*y3*y3+d*x1*x2*x2*x3*y1*y1*y2*y3*y3-d*x1*x2*x2*x3*y2*y3*y3+d*x1*x2*x3*x3*y1*y1*y2*y2*y3-d*x1*x2*x3*x3*y1*y1*y3*y3*y3-d*x1*x2*x3*x3*y2*y2*y3+d*x1*x2*x3*x3*y3*y3*y3-d*x1*x3*x3*x3*y1*y1*y2*y3*y3+d*x1*x3*x3*x3*y2*y3*y3-d*x2*x2*x3*x3*y1*y1*y1*y2*y3+d*x2*x2*x3*x3*y1*y2*y3-d*x2*x3*x3*x3*y1*y1*y1*y3*y3+d*x2*x3*x3*x3*y1*y3*y3-d*x2*x3*y1*y1*y1*y2*y2*y3*y3+d*x2*x3*y1*y2*y2*y3*y3-d*x3*x3*y1*y1*y1*y2*y3*y3*y3+d*x3*x3*y1*y2*y3*y3*y3+x1*x1*x1*x2*x3*x3*y3-x1*x1*x1*x2*y3*y3*y3+x1*x1*x1*x2*y3+x1*x1*x1*x3*x3*x3*y2-x1*x1*x1*x3*y2*y3*y3+x1*x1*x1*x3*y2+x1*x1*x2*x3*x3*x3*y1-x1*x1*x2*x3*y1*y3*y3+x1*x1*x2*x3*y1+x1*x1*x3*x3*y1*y2*y3-x1*x1*y1*y2*y3*y3*y3+x1*x1*y1*y2*y3-x1*x2*x3*x3*y1*y1*y3+x1*x2*x3*x3*y3+x1*x2*y1*y1*y3*y3*y3-x1*x2*y1*y1*y3-x1*x2*y3*y3*y3+x1*x2*y3-x1*x3*x3*x3*y1*y1*y2+x1*x3*x3*x3*y2+x1*x3*y1*y1*y2*y3*y3-x1*x3*y1*y1*y2-x1*x3*y2*y3*y3+x1*x3*y2-x2*x3*x3*x3*y1*y1*y1+x2*x3*x3*x3*y1+x2*x3*y1*y1*y1*y3*y3-x2*x3*y1*y1*y1-x2*x3*y1*y3*y3+x2*x3*y1-x3*x3*y1*y1*y1*y2*y3+x3*x3*y1*y2*y3+y1*y1*y1*y2*y3*y3*y3-y1*y1*y1*y2*y3-y1*y2*y3*y3*y3+y1*y2*y3)*(-(x2*x2)+y2*y2-1-d*(x2*x2)*(y2*y2))+(-d*x1*x1*x2*x2*y1*y2*y3+d*x1*x1*x2*x3*y1*y2*y2+d*x1*x2*x2*x3*y1*y1*y2-d*x1*x2*y1*y1*y2*y2*y3-x1*x1*x1*x2*x2*x2*y3-x1*x1*x1*x2*x2*x3*y2+x1*x1*x1*x2*y2*y2*y3-x1*x1*x1*x2*y3+x1*x1*x1*x3*y2*y2*y2-x1*x1*x1*x3*y2-x1*x1*x2*x2*x2*x3*y1-x1*x1*x2*x2*y1*y2*y3+x1*x1*x2*x3*y1*y2*y2-x1*x1*x2*x3*y1+x1*x1*y1*y2*y2*y2*y3-x1*x1*y1*y2*y3+x1*x2*x2*x2*y1*y1*y3-x1*x2*x2*x2*y3+x1*x2*x2*x3*y1*y1*y2-x1*x2*x2*x3*y2-x1*x2*y1*y1*y2*y2*y3+x1*x2*y1*y1*y3+x1*x2*y2*y2*y3-x1*x2*y3-x1*x3*y1*y1*y2*y2*y2+x1*x3*y1*y1*y2+x1*x3*y2*y2*y2-x1*x3*y2+x2*x2*x2*x3*y1*y1*y1-x2*x2*x2*x3*y1+x2*x2*y1*y1*y1*y2*y3-x2*x2*y1*y2*y3-x2*x3*y1*y1*y1*y2*y2+x2*x3*y1*y1*y1+x2*x3*y1*y2*y2-x2*x3*y1-y1*y1*y1*y2*y2*y2*y3+y1*y1*y1*y2*y3+y1*y2*y2*y2*y3-y1*y2*y3)*(-(x3*x3)+y3*y3-1-d*(x3*x3)*(y3*y3)):=by grobner
include F
theorem Fld.den {x1 y1 x2 y2:Fin n} (h1:On d x1 y1) (h2:On d x2 y2) (e:Fin n) (he:e*e=1):d*x1*x2*y1*y2≠e:=fun hD=>by
 unfold On at h1 h2
 have h10:=F.one
 have hr:=F.root
 have hx1:x1≠0:=fun h=>by subst h; grobner
 have hy1:y1≠0:=fun h=>by subst h; grobner
 have hx2:x2≠0:=fun h=>by subst h; grobner
 have key:d*(x1*x1)*(y1*y1)*(y2*y2-x2*x2)=y1*y1-x1*x1:=by grobner
 have h3:(y1+e*i*x1)*(y1+e*i*x1)=d*((x1*y1*(y2+i*x2))*(x1*y1*(y2+i*x2))):=by grobner
 have h4:(y1-e*i*x1)*(y1-e*i*x1)=d*((x1*y1*(y2-i*x2))*(x1*y1*(y2-i*x2))):=by grobner
 by_cases ha:y2+i*x2=0
 ·by_cases hb:y2-i*x2=0
  ·have hi:i≠0:=fun h=>by subst h; grobner
   have:(2:Fin n)*(i*x2)=0:=by grobner
   exact F.mul_ne F.two (F.mul_ne hi hx2) this
  ·exact F.noratio (F.mul_ne (F.mul_ne hx1 hy1) hb) h4
 ·exact F.noratio (F.mul_ne (F.mul_ne hx1 hy1) ha) h3
theorem Fld.denP {x1 y1 x2 y2:Fin n} (h1:On d x1 y1) (h2:On d x2 y2):1+d*x1*x2*y1*y2≠0:=fun h =>
 F.den h1 h2 (-1) (by grobner) (by grobner)
theorem Fld.denM {x1 y1 x2 y2:Fin n} (h1:On d x1 y1) (h2:On d x2 y2):1-d*x1*x2*y1*y2≠0:=fun h =>
 F.den h1 h2 1 (by grobner) (by grobner)
theorem Qb0 {x1 y1 x2 y2:Fin n} (h1:On d x1 y1) (h2:On d x2 y2) {a b:Fin n} (ha:a*(1+d*x1*x2*y1*y2)=x1*y2+x2*y1) (hb:b*(1-d*x1*x2*y1*y2)=y1*y2+x1*x2):On d a b:=by
 have hp:=F.denP h1 h2
 have hm:=F.denM h1 h2
 have hC : -((x1*y2+x2*y1)*(x1*y2+x2*y1)*((1-d*x1*x2*y1*y2)*(1-d*x1*x2*y1*y2)))+(y1*y2+x1*x2)*(y1*y2+x1*x2)*((1+d*x1*x2*y1*y2)*(1+d*x1*x2*y1*y2)) =
   ((1+d*x1*x2*y1*y2)*(1-d*x1*x2*y1*y2))*((1+d*x1*x2*y1*y2)*(1-d*x1*x2*y1*y2))+d*((x1*y2+x2*y1)*(x1*y2+x2*y1))*((y1*y2+x1*x2)*(y1*y2+x1*x2)):=by
  exact Qxm (Q03 d x1 y1 x2 y2) h1.sub h2.sub
 unfold On
 have hp2:=F.mul_ne (F.mul_ne hp hm) (F.mul_ne hp hm)
 refine F.cancel hp2 ?_
 rw [←ha,←hb] at hC
 generalize 1+d*x1*x2*y1*y2=p at *
 generalize 1-d*x1*x2*y1*y2=m at *
 clear ha hb hp hm hp2 h1 h2
 grobner
theorem Qsq {x1 y1 x2 y2 x3 y3 a b a' b' u v u' v':Fin n} (h1:On d x1 y1) (h2:On d x2 y2) (h3:On d x3 y3)
  (ha:a*(1+d*x1*x2*y1*y2)=x1*y2+x2*y1) (hb:b*(1-d*x1*x2*y1*y2)=y1*y2+x1*x2)
  (ha':a'*(1+d*x2*x3*y2*y3)=x2*y3+x3*y2) (hb':b'*(1-d*x2*x3*y2*y3)=y2*y3+x2*x3)
  (hu:u*(1+d*a*x3*b*y3)=a*y3+x3*b) (hv:v*(1-d*a*x3*b*y3)=b*y3+a*x3)
  (hu':u'*(1+d*x1*a'*y1*b')=x1*b'+a'*y1) (hv':v'*(1-d*x1*a'*y1*b')=y1*b'+x1*a'):u=u'∧v=v':=by
 have o12:=Qb0 F h1 h2 ha hb
 have o23:=Qb0 F h2 h3 ha' hb'
 have hp:=F.denP h1 h2
 have hm:=F.denM h1 h2
 have hp':=F.denP h2 h3
 have hm':=F.denM h2 h3
 have kp:=F.denP o12 h3
 have km:=F.denM o12 h3
 have kp':=F.denP h1 o23
 have km':=F.denM h1 o23
 have e1:=h1.sub
 have e2:=h2.sub
 have e3:=h3.sub
 clear h1 h2 h3 o12 o23
 have hX:((x1*y2+x2*y1)*(1-d*x1*x2*y1*y2)*y3+x3*(y1*y2+x1*x2)*(1+d*x1*x2*y1*y2))*((1+d*x2*x3*y2*y3)*(1-d*x2*x3*y2*y3)+d*(x2*y3+x3*y2)*(y2*y3+x2*x3)*x1*y1) =
   (x1*(y2*y3+x2*x3)*(1+d*x2*x3*y2*y3)+(x2*y3+x3*y2)*(1-d*x2*x3*y2*y3)*y1)*((1+d*x1*x2*y1*y2)*(1-d*x1*x2*y1*y2)+d*(x1*y2+x2*y1)*(y1*y2+x1*x2)*x3*y3):=by
  exact Qia (Q8b d x1 y1 x2 y2 x3 y3) e1 e2 e3
 have hY:((y1*y2+x1*x2)*(1+d*x1*x2*y1*y2)*y3+(x1*y2+x2*y1)*(1-d*x1*x2*y1*y2)*x3)*((1+d*x2*x3*y2*y3)*(1-d*x2*x3*y2*y3)-d*(x2*y3+x3*y2)*(y2*y3+x2*x3)*x1*y1) =
   (y1*(y2*y3+x2*x3)*(1+d*x2*x3*y2*y3)+x1*(x2*y3+x3*y2)*(1-d*x2*x3*y2*y3))*((1+d*x1*x2*y1*y2)*(1-d*x1*x2*y1*y2)-d*(x1*y2+x2*y1)*(y1*y2+x1*x2)*x3*y3):=by
  exact Qia (Q8a d x1 y1 x2 y2 x3 y3) e1 e2 e3
 clear e1 e2 e3
 rw [←ha,←hb,←ha',←hb'] at hX hY
 have hp2:=F.mul_ne hp hm
 have hp2':=F.mul_ne hp' hm'
 generalize 1+d*x1*x2*y1*y2=p at *
 generalize 1-d*x1*x2*y1*y2=m at *
 generalize 1+d*x2*x3*y2*y3=p' at *
 generalize 1-d*x2*x3*y2*y3=m' at *
 clear ha hb ha' hb' hp hm hp' hm' x2 y2
 have f1:a*p*m*y3+x3*(b*m)*p=(p*m)*(a*y3+x3*b):=by grobner
 have f2:p'*m'+d*(a'*p')*(b'*m')*x1*y1=(p'*m')*(1+d*x1*a'*y1*b'):=by grobner
 have f3:x1*(b'*m')*p'+a'*p'*m'*y1=(p'*m')*(x1*b'+a'*y1):=by grobner
 have f4:p*m+d*(a*p)*(b*m)*x3*y3=(p*m)*(1+d*a*x3*b*y3):=by grobner
 have f5:b*m*p*y3+a*p*m*x3=(p*m)*(b*y3+a*x3):=by grobner
 have f6:p'*m'-d*(a'*p')*(b'*m')*x1*y1=(p'*m')*(1-d*x1*a'*y1*b'):=by grobner
 have f7:y1*(b'*m')*p'+x1*(a'*p')*m'=(p'*m')*(y1*b'+x1*a'):=by grobner
 have f8:p*m-d*(a*p)*(b*m)*x3*y3=(p*m)*(1-d*a*x3*b*y3):=by grobner
 rw [f1,f2,f3,f4,←hu,←hu'] at hX
 rw [f5,f6,f7,f8,←hv,←hv'] at hY
 clear f1 f2 f3 f4 f5 f6 f7 f8 hu hu' hv hv'
 generalize 1+d*x1*a'*y1*b'=k' at *
 generalize 1+d*a*x3*b*y3=k at *
 generalize 1-d*x1*a'*y1*b'=l' at *
 generalize 1-d*a*x3*b*y3=l at *
 generalize p*m=s at *
 generalize p'*m'=s' at *
 constructor
 ·refine F.cancel (a:=s*s'*k*k') (F.mul_ne (F.mul_ne (F.mul_ne hp2 hp2') kp) kp') ?_
  grobner
 ·refine F.cancel (a:=s*s'*l*l') (F.mul_ne (F.mul_ne (F.mul_ne hp2 hp2') km) km') ?_
  grobner
omit F
end
structure Pt (n:Nat) [NeZero n] (d:Fin n) where
 x:Fin n
 y:Fin n
 on:On d x y
theorem Pt.ext {n:Nat} [NeZero n] {d:Fin n} {p q:Pt n d} (hx:p.x=q.x) (hy:p.y=q.y):p=q:=by
 cases p; cases q; cases hx; cases hy; rfl
section
variable {n:Nat} [NeZero n] {iv:Fin n→Fin n} {d i:Fin n} (F:Fld n iv d i)
def Pt.zero:Pt n d:=⟨0,1,by unfold On; grobner⟩
def Pt.neg (p:Pt n d):Pt n d:=⟨-p.x,p.y,by have:=p.on; unfold On at *; grobner⟩
def Pt.add (p q:Pt n d):Pt n d :=
 ⟨(p.x*q.y+q.x*p.y)*iv (1+d*p.x*q.x*p.y*q.y),(p.y*q.y+p.x*q.x)*iv (1-d*p.x*q.x*p.y*q.y),
  Qb0 F p.on q.on (by have:=F.inv _ (F.denP p.on q.on); grobner) (by have:=F.inv _ (F.denM p.on q.on); grobner)⟩
theorem Qe0 (p q:Pt n d):(Pt.add F p q).x*(1+d*p.x*q.x*p.y*q.y)=p.x*q.y+q.x*p.y:=by
 have:=F.inv _ (F.denP p.on q.on)
 simp only [Pt.add]
 generalize 1+d*p.x*q.x*p.y*q.y=k at *
 grobner
theorem Qa1 (p q:Pt n d):(Pt.add F p q).y*(1-d*p.x*q.x*p.y*q.y)=p.y*q.y+p.x*q.x:=by
 have:=F.inv _ (F.denM p.on q.on)
 simp only [Pt.add]
 generalize 1-d*p.x*q.x*p.y*q.y=k at *
 grobner
theorem add_eq {p q r:Pt n d} (hx:r.x*(1+d*p.x*q.x*p.y*q.y)=p.x*q.y+q.x*p.y) (hy:r.y*(1-d*p.x*q.x*p.y*q.y)=p.y*q.y+p.x*q.x):Pt.add F p q=r:=by
 apply Pt.ext
 ·apply F.cancel (F.denP p.on q.on)
  rw [←Qe0 F] at hx
  grobner
 ·apply F.cancel (F.denM p.on q.on)
  rw [←Qa1 F] at hy
  grobner
theorem add_comm (p q:Pt n d):Pt.add F p q=Pt.add F q p:=by
 apply add_eq
 ·have:=Qe0 F q p; grobner
 ·have:=Qa1 F q p; grobner
theorem add_zero (p:Pt n d):Pt.add F p Pt.zero=p:=by
 apply add_eq<;>simp only [Pt.zero]<;>grobner
theorem zero_add (p:Pt n d):Pt.add F Pt.zero p=p:=by rw [add_comm,add_zero]
theorem add_neg (p:Pt n d):Pt.add F p p.neg=Pt.zero:=by
 have:=p.on
 unfold On at this
 apply add_eq<;>simp only [Pt.zero,Pt.neg]<;>grobner
theorem add_assoc (p q r:Pt n d):Pt.add F (Pt.add F p q) r=Pt.add F p (Pt.add F q r):=by
 obtain ⟨h1,h2⟩:=Qsq F p.on q.on r.on (Qe0 F p q) (Qa1 F p q) (Qe0 F q r) (Qa1 F q r) (Qe0 F (Pt.add F p q) r) (Qa1 F (Pt.add F p q) r) (Qe0 F p (Pt.add F q r)) (Qa1 F p (Pt.add F q r))
 exact Pt.ext h1 h2
theorem add_left_cancel {p q r:Pt n d} (h:Pt.add F p q=Pt.add F p r):q=r:=by
 have:Pt.add F p.neg (Pt.add F p q)=Pt.add F p.neg (Pt.add F p r):=by rw [h]
 rwa [←add_assoc,←add_assoc,add_comm F p.neg p,add_neg,zero_add,zero_add] at this
theorem neg_neg (p:Pt n d):p.neg.neg=p:=by
 apply Pt.ext<;>simp only [Pt.neg]
 grobner
theorem neg_zero:(Pt.zero:Pt n d).neg=Pt.zero:=by
 apply Pt.ext<;>simp only [Pt.neg,Pt.zero]
 grobner
theorem Qnk (a b c e:Pt n d):Pt.add F (Pt.add F a b) (Pt.add F c e)=Pt.add F (Pt.add F a c) (Pt.add F b e):=by
 rw [add_assoc,add_assoc,←add_assoc F b,add_comm F b c,add_assoc F c]
theorem neg_add (p q:Pt n d):(Pt.add F p q).neg=Pt.add F p.neg q.neg:=by
 apply add_left_cancel F (p:=Pt.add F p q)
 rw [add_neg,Qnk,add_neg,add_neg,add_zero]
def Pt.mul (k:Nat) (p:Pt n d):Pt n d:=match k with
 | 0=>Pt.zero
 | k+1=>Pt.add F (Pt.mul k p) p
theorem mul_add (a b:Nat) (p:Pt n d):Pt.mul F (a+b) p=Pt.add F (Pt.mul F a p) (Pt.mul F b p):=by
 induction b with
 | zero=>rw [Jk,Pt.mul,add_zero]
 | succ b ih=>rw [←Vr,Pt.mul,ih,Pt.mul,add_assoc]
theorem mul_one (p:Pt n d):Pt.mul F 1 p=p:=by rw [Pt.mul,Pt.mul,zero_add]
theorem mul_two (p:Pt n d):Pt.mul F 2 p=Pt.add F p p:=by rw [Pt.mul,mul_one]
theorem mul_zero (k:Nat):Pt.mul F k (Pt.zero:Pt n d)=Pt.zero:=by
 induction k with
 | zero=>rfl
 | succ k ih=>rw [Pt.mul,ih,zero_add]
theorem Qhs (a b:Nat) (p:Pt n d):Pt.mul F (a*b) p=Pt.mul F a (Pt.mul F b p):=by
 induction a with
 | zero=>rw [Xq,Pt.mul,Pt.mul]
 | succ a ih=>rw [Qfl,mul_add,ih,Pt.mul]
theorem mul_neg (k:Nat) (p:Pt n d):Pt.mul F k p.neg=(Pt.mul F k p).neg:=by
 induction k with
 | zero=>rw [Pt.mul,Pt.mul,neg_zero]
 | succ k ih=>rw [Pt.mul,ih,Pt.mul,neg_add]
theorem Qzp (a b:Nat) (p:Pt n d):Pt.mul F a (Pt.mul F b p)=Pt.mul F b (Pt.mul F a p):=by
 rw [←Qhs,←Qhs,Vt]
theorem mul_mod {l:Nat} {p:Pt n d} (hl:Pt.mul F l p=Pt.zero) (k:Nat):Pt.mul F (k%l) p=Pt.mul F k p:=by
 have h:Pt.mul F k p=Pt.mul F (l*(k/l)+k%l) p:=by rw [Yi]
 rw [h,mul_add,Vt,Qhs,hl,mul_zero,zero_add]
end
end Go.Cv
namespace Go.NT
theorem Qym (m a:Nat):∀ (f e:Nat),pwf m a f e=pw m a f e
 | 0,_=>rfl
 | f+1,e=>by simp only [pwf,pw,Qym m a f]
theorem Qmt {m a f e:Nat} (h:e<2^f):pwf m a f e=a^e%m:=by rw [Qym,Q5x m a f e h]
def Qqe (n q k a f:Nat):Bool:=n==q*k+1&&decide (q*k<2^f)&&pwf n a f (q*k)==1&&Qhy (pwf n a f k+n-1) n==1
theorem Qd1 {n q k a f:Nat} (hq:Pr q) (h:Qqe n q k a f=true):n=q*k+1∧a^(q*k)%n=1∧Qhy (a^k%n+n-1) n=1:=by
 simp only [Qqe,Yk,beq_iff_eq,decide_eq_true_eq] at h
 obtain ⟨⟨⟨h1,h2⟩,h3⟩,h4⟩:=h
 have h5:k<2^f:=by
  have:k≤q*k:=Nat.le_mul_of_pos_left k (by have:=hq.1; omega)
  omega
 rw [Qmt h2] at h3
 rw [Qmt h5] at h4
 exact ⟨h1,h3,h4⟩
theorem D6 {n q k a f:Nat} (hq:Pr q) (h:(Qqe n q k a f&&decide (2≤n)&&decide (n<q*q))=true):Pr n:=by
 simp only [Yk,decide_eq_true_eq] at h
 obtain ⟨h1,h2,h3⟩:=Qd1 hq h.1.1
 exact Qys h.1.2 hq h1 h.2 h2 h3
theorem T3 {n q k a q2 k2 a2 f:Nat} (hq:Pr q) (hq2:Pr q2) (h:(Qqe n q k a f&&Qqe n q2 k2 a2 f&&decide (2≤n)&&decide (q≠q2)&&decide (n<(q*q2)*(q*q2)))=true):Pr n:=by
 simp only [Yk,decide_eq_true_eq] at h
 obtain ⟨h1,h2,h3⟩:=Qd1 hq h.1.1.1.1
 obtain ⟨h1',h2',h3'⟩:=Qd1 hq2 h.1.1.1.2
 exact Qyr h.1.1.2 hq h1 hq2 h1' h.1.2 h.2 h2 h3 h2' h3'
theorem pr1:Pr 991:=Gc (f:=30) (by decide) (by decide) (by decide +kernel)
theorem pr2:Pr 103:=Gc (f:=9) (by decide) (by decide) (by decide +kernel)
theorem pr3:Pr 8574133:=T3 (q:=991) (k:=8652) (a:=2) (q2:=103) (k2:=83244) (a2:=2) (f:=25) pr1 pr2 (by decide +kernel)
theorem pr4:Pr 127:=Gc (f:=10) (by decide) (by decide) (by decide +kernel)
theorem pr5:Pr 1919519569386763:=T3 (q:=8574133) (k:=223873314) (a:=2) (q2:=127) (k2:=15114327318006) (a2:=2) (f:=52) pr3 pr4 (by decide +kernel)
theorem pr6:Pr 569003:=Gc (f:=753) (by decide) (by decide) (by decide +kernel)
theorem pr7:Pr 2773320623:=D6 (q:=569003) (k:=4874) (a:=2) (f:=33) pr6 (by decide +kernel)
theorem pr8:Pr 72106336199:=D6 (q:=2773320623) (k:=26) (a:=2) (f:=38) pr7 (by decide +kernel)
theorem pr9:Pr 75445702479781427272750846543864801:=T3 (q:=1919519569386763) (k:=39304471641247389600) (a:=2) (q2:=72106336199) (k2:=1046311689884858398375200) (a2:=2) (f:=117) pr5 pr8 (by decide +kernel)
theorem pr10:Pr 430751:=Gc (f:=655) (by decide) (by decide) (by decide +kernel)
theorem pr11:Pr 4153:=Gc (f:=63) (by decide) (by decide) (by decide +kernel)
theorem pr12:Pr 31757755568855353:=T3 (q:=430751) (k:=73726481352) (a:=2) (q2:=4153) (k2:=7646943310584) (a2:=2) (f:=56) pr10 pr11 (by decide +kernel)
theorem pr13:Pr 74058212732561358302231226437062788676166966415465897661863160754340907:=T3 (q:=75445702479781427272750846543864801) (k:=981609426360740691344999861639072106) (a:=2) (q2:=31757755568855353) (k2:=2331972502653487852620185443007392165117953542933313402) (a2:=2) (f:=237) pr9 pr12 (by decide +kernel)
theorem pr14:Pr 57896044618658097711785492504343953926634992332820282019728792003956564819949:=D6 (q:=74058212732561358302231226437062788676166966415465897661863160754340907) (k:=781764) (a:=2) (f:=256) pr13 (by decide +kernel)
end Go.NT
namespace Go.Fp
open Go.NT Go.Cv
def P:Nat:=57896044618658097711785492504343953926634992332820282019728792003956564819949
theorem Qb7:P=57896044618658097711785492504343953926634992332820282019728792003956564819949:=rfl
instance:NeZero P:=⟨by decide⟩
theorem Q5n:Pr P:=pr14
abbrev Fe:=Fin P
def fp (n:Nat):Fe:=Fin.ofNat P n
theorem Mh (n:Nat):(fp n).val=n%P:=rfl
theorem Qpu {a b:Nat}:fp a=fp b↔a%P=b%P:=by
 constructor
 ·intro h; exact congrArg Fin.val h
 ·intro h; exact Fin.ext h
theorem Qwd (a:Fe):fp a.val=a:=Fin.ext (Jd a.isLt)
theorem M9 (a:Nat):fp (a%P)=fp a:=Qpu.2 (Tk _ _)
theorem H9 (a b:Nat):fp (a+b)=fp a+fp b:=Fin.ext (by rw [Mh,Fin.val_add,Mh,Mh,←Q9e])
theorem B5 (a b:Nat):fp (a*b)=fp a*fp b:=Fin.ext (by rw [Mh,Fin.val_mul,Mh,Mh,←Tj])
theorem Q4e:fp 0=0:=rfl
theorem Qnd:fp 1=1:=rfl
theorem Q0n:fp 2=2:=rfl
theorem fp_P:fp P=0:=Fin.ext (by rw [Mh,Nat.mod_self]; rfl)
theorem Qtz (k:Nat):fp (k*P)=0:=by rw [B5,fp_P]; grobner
theorem Q7u {a b:Nat} (h:b≤a):fp (a-b)=fp a-fp b:=by
 have h1:=H9 (a-b) b
 rw [Nat.sub_add_cancel h] at h1
 grobner
def pow (a:Fe) (k:Nat):Fe:=match k with
 | 0=>1
 | k+1=>pow a k*a
theorem Qmu (a:Fe):∀ k,(pow a k).val=a.val^k%P
 | 0=>rfl
 | k+1=>by rw [pow,Fin.val_mul,Qmu a k,V0,T6]
theorem pow_add (a:Fe) (j:Nat):∀ k,pow a (j+k)=pow a j*pow a k
 | 0=>by rw [Jk]; simp only [pow]; grobner
 | k+1=>by rw [←Vr,pow,pow_add a j k,pow]; grobner
theorem pow_mul (a:Fe) (j:Nat):∀ k,pow a (j*k)=pow (pow a j) k
 | 0=>by rw [Qfm]; rfl
 | k+1=>by rw [Nat.mul_succ,pow_add,pow_mul a j k,pow]
theorem pow_one (a:Fe):pow a 1=a:=by simp only [pow]; grobner
theorem pow_two (a:Fe):pow a 2=a*a:=by simp only [pow]; grobner
theorem one_pow:∀ k,pow 1 k=1
 | 0=>rfl
 | k+1=>by rw [pow,one_pow k]; grobner
theorem zero_pow {k:Nat} (hk:0<k):pow 0 k=0:=by
 obtain ⟨j,rfl⟩:∃ j,k=j+1:=⟨k-1,by omega⟩
 rw [pow]; grobner
theorem Q6t (a k:Nat):pow (fp a) k=fp (a^k):=Fin.ext (by rw [Qmu,Mh,Mh,←Q9c])
theorem ndvd {a:Fe} (h:a≠0):¬ P∣a.val:=fun hd=>by
 have h1:=Qfn hd
 rw [Jd a.isLt] at h1
 exact h (Fin.ext h1)
theorem Qgh {a:Fe} (h:a≠0):pow a (P-1)=1:=Fin.ext (by rw [Qmu,Go.NT.Qgh Q5n (ndvd h)]; rfl)
def iv (a:Fe):Fe:=pow a (P-2)
theorem Me {a:Fe} (h:a≠0):a*iv a=1:=by
 have h1:=Qgh h
 rw [show P-1=(P-2)+1 from rfl,pow] at h1
 unfold iv
 rw [←h1]; grobner
theorem Qtu:iv 0=0:=zero_pow (by decide)
def dN:Nat:=37095705934669439343138083508754565189542113879843219016388785533085940283555
def iN:Nat:=19681161376707505956807079304988542015446066515923890162744021073123829784752
def d:Fe:=fp dN
def i:Fe:=fp iN
theorem Qoj {a k r f:Nat} (hk:k<2^f) (h:pwf P a f k=r):pow (fp a) k=fp r:=by
 rw [Q6t,←h,Qmt hk,M9]
theorem Qrb:i*i = -1:=by
 have h:i*i+1=0:=by
  unfold i
  rw [←B5,←Qnd,←H9]
  exact Fin.ext (by rw [Mh]; decide +kernel)
 grobner
theorem Dt:(1:Fe)≠0:=fun h=>by
 have:=congrArg Fin.val h
 revert this
 decide +kernel
theorem Qxn:(2:Fe)≠0:=fun h=>by
 have:=congrArg Fin.val h
 revert this
 decide +kernel
theorem Qok (r:Fe):pow (r*r) ((P-1)/2)=1∨r=0:=by
 by_cases h:r=0
 ·exact .inr h
 ·left
  rw [←pow_two,←pow_mul,show 2*((P-1)/2)=P-1 from by decide +kernel,Qgh h]
theorem Q7l:pow d ((P-1)/2)=fp (P-1):=Qoj (f:=256) (by decide +kernel) (by decide +kernel)
theorem nosq (r:Fe):r*r≠d:=fun h=>by
 have h1:=Q7l
 rcases Qok r with h2 | h2
 ·rw [h,h1] at h2
  have:=congrArg Fin.val h2
  revert this
  decide +kernel
 ·subst h2
  have h3:d=0:=by rw [←h]; grobner
  have:=congrArg Fin.val h3
  revert this
  decide +kernel
theorem fld:Fld P iv d i:=⟨fun _ h=>Me h,Qtu,Dt,Qxn,Qrb,nosq⟩
end Go.Fp
namespace Go.Ev.Ytpgphpkjlpkcbaa
open Go Go.Ev
attribute [local congr] Wp W0 Wo W3 Wh
set_option maxRecDepth 100000
theorem Qpd {x y:Nat} (hx:x<18446744073709551616) (hy:y<18446744073709551616) :
  Vv T 96 [.int .u64 x,.int .u64 y] []=some (.tuple #[.int .u64 ((x*y/18446744073709551616:Nat):Int),.int .u64 ((x*y%18446744073709551616:Nat):Int)],[],[]):=by
 have key:∀ a b:Nat,a=x*y/18446744073709551616→b=x*y%18446744073709551616→(some (.tuple #[.int .u64 (a:Int),.int .u64 (b:Int)],[],[]):Option (Value×List Ob×List Nat))=some (.tuple #[.int .u64 ((x*y/18446744073709551616:Nat):Int),.int .u64 ((x*y%18446744073709551616:Nat):Int)],[],[]):=by
  rintro a b rfl rfl; rfl
 rw [Z5 (fn:=a91) rfl]
 simp only [a91,Z6,quiet,cF,↓pF,reduceCtorEq,Qd,Qq,M8,V9,↓Xb,↓Xa,↓Xw,↓Xz,↓Xx,↓Xy,cL,Qp,Qo,Qz,Qy,Qv,Qn,Qm,Qx,Qe,Q5,Q6,Qw,Qk,Qj,Qi,Qu,Qt,Qs,Ql,Qh,cU]
 apply key
 ·have e:x*y=(x/4294967296*(y/4294967296))*18446744073709551616+(x/4294967296*(y%4294967296)+x%4294967296*(y/4294967296))*4294967296+x%4294967296*(y%4294967296):=by
   conv=>lhs; rw [←Yi x 4294967296,←Yi y 4294967296]
   generalize x/4294967296=x1
   generalize x%4294967296=x0
   generalize y/4294967296=y1
   generalize y%4294967296=y0
   grind
  have b1:x/4294967296≤4294967295:=by omega
  have b2:x%4294967296≤4294967295:=by omega
  have b3:y/4294967296≤4294967295:=by omega
  have b4:y%4294967296≤4294967295:=by omega
  have c1:=Wx b1 b3
  have c2:=Wx b1 b4
  have c3:=Wx b2 b3
  have c4:=Wx b2 b4
  rw [e]
  clear e
  generalize x/4294967296*(y/4294967296)=p11 at *
  generalize x/4294967296*(y%4294967296)=p10 at *
  generalize x%4294967296*(y/4294967296)=p01 at *
  generalize x%4294967296*(y%4294967296)=p00 at *
  omega
 ·rfl
def wV (n:Nat):Value := .agg #[.int .u64 ((n/18446744073709551616:Nat):Int),.int .u64 ((n%18446744073709551616:Nat):Int)]
theorem rf_wV (n:Nat):rf (wV n)=true:=rfl
theorem Qjt {x y c:Nat} (hc:c≤1):Vv T 97 [.int .u64 x,.int .u64 y,.int .u64 c] []=some (.tuple #[.int .u64 ((x+y+c)%18446744073709551616:Nat),.int .u64 ((x+y+c)/18446744073709551616:Nat)],[],[]):=by
 rw [Vv.eq_def]
 have h1:T.fn 97=none:=rfl
 have h2:([.int .u64 (x:Int),.int .u64 (y:Int),.int .u64 (c:Int)]:List Value).all rf=true:=rfl
 have h3:T.ext 97 [.int .u64 x,.int .u64 y,.int .u64 c]=some (.tuple #[.int .u64 ((x+y+c)%18446744073709551616:Nat),.int .u64 ((x+y+c)/18446744073709551616:Nat)]):=by
  have h4:(c:Int).toNat≤1:=by omega
  simp [T,Q4l,hc]
 rw [h1]
 simp only [h2,if_true,h3,Q4]
theorem Qum {x y:Nat} (hx:x<18446744073709551616) (hy:y<18446744073709551616):∃ l,Vv T 71 [.int .u64 x,.int .u64 y] []=some (wV (x*y),l,[]):=by
 have h:=Qpd hx hy
 have hf:∀ a b:Int,fillL [Value.int .u64 0,Value.int .u64 0] [(0,1,.int .u64 a),(1,1,.int .u64 b)]=some [.int .u64 a,.int .u64 b]:=fun _ _=>rfl
 apply Z4
 rw [Z5 (fn:=a77) rfl]
 simp only [a77,Z6,quiet,cF,↓pF,reduceCtorEq,Qd,Qq,M8,V9,↓Xb,↓Xa,↓Xw,↓Xz,↓Xx,↓Xy,cL,Qp,Qo,Qz,Qy,Qv,Qn,Qm,Qx,Qe,Q5,Q6,Qw,Qk,Qj,Qi,Qu,Qt,Qs,Ql,Qh,cJ,Vr,h,hf]
 rfl
theorem Qw4 {n x y:Nat} (hx:x<18446744073709551616) (hy:y<18446744073709551616) (hn:n+x*y<340282366920938463463374607431768211456):∃ l,Vv T 72 [wV n,.int .u64 x,.int .u64 y] []=some (wV (n+x*y),l,[]):=by
 have h:=Qpd hx hy
 have hf:∀ a b:Int,fillL [Value.int .u64 0,Value.int .u64 0] [(0,1,.int .u64 a),(1,1,.int .u64 b)]=some [.int .u64 a,.int .u64 b]:=fun _ _=>rfl
 have a1:=Qjt (x:=n%18446744073709551616) (y:=x*y%18446744073709551616) (c:=0) (by decide)
 have a2:=Qjt (x:=n/18446744073709551616) (y:=x*y/18446744073709551616) (c:=(n%18446744073709551616+x*y%18446744073709551616)/18446744073709551616) (by omega)
 simp only [Vx,Jk] at a1
 have key:∀ (a b:Nat) (l:List Ob),a=(n+x*y)/18446744073709551616→b=(n+x*y)%18446744073709551616→(some (.agg #[.int .u64 (a:Int),.int .u64 (b:Int)],l,[]):Option (Value×List Ob×List Nat))=some (wV (n+x*y),l,[]):=by
  rintro a b l rfl rfl; rfl
 apply Z4
 rw [Z5 (fn:=a78) rfl]
 simp only [wV,a78,Z6,quiet,cF,↓pF,reduceCtorEq,Qd,Qq,M8,V9,↓Xb,↓Xa,↓Xw,↓Xz,↓Xx,↓Xy,cL,Qp,Qo,Qz,Qy,Qv,Qn,Qm,Qx,Qe,Q5,Q6,Qw,Qk,Qj,Qi,Qu,Qt,Qs,Ql,Qh,cJ,Vr,h,hf,a1,a2]
 apply key
 ·generalize x*y=p at *
  omega
 ·generalize x*y=p at *
  omega
theorem Qxx {n:Nat} (hn:n<41538374868278621028243970633760768):∃ l,Vv T 73 [wV n] []=some (.tuple #[.int .u64 ((n/2251799813685248:Nat):Int),.int .u64 ((n%2251799813685248:Nat):Int)],l,[]):=by
 have key:∀ (a b:Nat) (l:List Ob),a=n/2251799813685248→b=n%2251799813685248→(some (.tuple #[.int .u64 (a:Int),.int .u64 (b:Int)],l,[]):Option (Value×List Ob×List Nat))=some (.tuple #[.int .u64 ((n/2251799813685248:Nat):Int),.int .u64 ((n%2251799813685248:Nat):Int)],l,[]):=by
  rintro a b l rfl rfl; rfl
 have hor:=fun a b:Nat=>n_or .u64 rfl a b
 apply Z4
 rw [Z5 (fn:=a79) rfl]
 simp only [wV,a79,Z6,quiet,cF,↓pF,reduceCtorEq,Qd,Qq,M8,V9,↓Xb,↓Xa,↓Xw,↓Xz,↓Xx,↓Xy,cL,Qp,Qo,Qz,Qy,Qv,Qn,Qm,Qx,Qe,Q5,Q6,Qw,Qk,Qj,Qi,Qu,Qt,Qs,Ql,Qh,cJ,Vr,cU,hor]
 apply key
 ·have h1:n/18446744073709551616<2251799813685248:=by omega
  have e1:n/18446744073709551616*8192%18446744073709551616%2^IntKind.u64.bits=n/18446744073709551616*2^13:=by
   rw [show (2:Nat)^IntKind.u64.bits=18446744073709551616 from rfl]; omega
  have e2:n%18446744073709551616/2251799813685248%2^IntKind.u64.bits=n%18446744073709551616/2251799813685248:=by
   rw [show (2:Nat)^IntKind.u64.bits=18446744073709551616 from rfl]; omega
  rw [e1,e2,Dj (by omega)]
  omega
 ·omega
theorem Q3q {n x:Nat} (hn:n+x<340282366920938463463374607431768211456) (hx:x<18446744073709551616):∃ l,Vv T 74 [wV n,.int .u64 x] []=some (wV (n+x),l,[]):=by
 have hf:∀ a b:Int,fillL [Value.int .u64 0,Value.int .u64 0] [(0,1,.int .u64 a),(1,1,.int .u64 b)]=some [.int .u64 a,.int .u64 b]:=fun _ _=>rfl
 have a1:=Qjt (x:=n%18446744073709551616) (y:=x) (c:=0) (by decide)
 simp only [Vx,Jk] at a1
 have key:∀ (a b:Nat) (l:List Ob),a=(n+x)/18446744073709551616→b=(n+x)%18446744073709551616→(some (.agg #[.int .u64 (a:Int),.int .u64 (b:Int)],l,[]):Option (Value×List Ob×List Nat))=some (wV (n+x),l,[]):=by
  rintro a b l rfl rfl; rfl
 apply Z4
 rw [Z5 (fn:=a80) rfl]
 simp only [wV,a80,Z6,quiet,cF,↓pF,reduceCtorEq,Qd,Qq,M8,V9,↓Xb,↓Xa,↓Xw,↓Xz,↓Xx,↓Xy,cL,Qp,Qo,Qz,Qy,Qv,Qn,Qm,Qx,Qe,Q5,Q6,Qw,Qk,Qj,Qi,Qu,Qt,Qs,Ql,Qh,cJ,Vr,cU,hf,a1]
 apply key
 ·omega
 ·omega
def eV (l:List Nat):Value := .agg (ns .u64 l).toArray
theorem V4 (l:List Nat):rf (eV l)=true:=by
 show (ns .u64 l).toArray.toList.all scalarRf=true
 rw [show (ns .u64 l).toArray.toList=ns .u64 l from rfl]
 simp [ns,scalarRf]
theorem Qtc (k:IntKind) (l:List Nat):rf (.agg (ns k l).toArray)=true:=by
 show (ns k l).toArray.toList.all scalarRf=true
 rw [show (ns k l).toArray.toList=ns k l from rfl]
 simp [ns,scalarRf]
structure El (l:List Nat) (b:Nat):Prop where
 len:l.length=5
 lt:∀ x∈l,x<b
theorem El.five {l:List Nat} {b:Nat} (h:El l b):∃ x0 x1 x2 x3 x4,l=[x0,x1,x2,x3,x4]∧x0<b∧x1<b∧x2<b∧x3<b∧x4<b:=by
 obtain ⟨h1,h2⟩:=h
 match l,h1 with
 | [x0,x1,x2,x3,x4],_=>exact ⟨x0,x1,x2,x3,x4,rfl,h2 _ (by simp),h2 _ (by simp),h2 _ (by simp),h2 _ (by simp),h2 _ (by simp)⟩
theorem El.mk5 {x0 x1 x2 x3 x4 b:Nat} (h0:x0<b) (h1:x1<b) (h2:x2<b) (h3:x3<b) (h4:x4<b):El [x0,x1,x2,x3,x4] b:=⟨rfl,by simp; exact ⟨h0,h1,h2,h3,h4⟩⟩
def v51 (l:List Nat):Nat:=num 2251799813685248 l
def fe (l:List Nat):Go.Fp.Fe:=Go.Fp.fp (v51 l)
def Rd (x0 x1 x2 x3 x4:Nat):List Nat :=
 let c0:=x0/2251799813685248
 let c1:=(x1+c0)/2251799813685248
 let c2:=(x2+c1)/2251799813685248
 let c3:=(x3+c2)/2251799813685248
 let c4:=(x4+c3)/2251799813685248
 [x0%2251799813685248+19*c4,(x1+c0)%2251799813685248,(x2+c1)%2251799813685248,(x3+c2)%2251799813685248,(x4+c3)%2251799813685248]
theorem Qew {x0 x1 x2 x3 x4:Nat}:∃ k,v51 (Rd x0 x1 x2 x3 x4)+k*Go.Fp.P=v51 [x0,x1,x2,x3,x4]:=by
 refine ⟨(x4+(x3+(x2+(x1+x0/2251799813685248)/2251799813685248)/2251799813685248)/2251799813685248)/2251799813685248,?_⟩
 simp only [v51,Rd,num,Go.Fp.Qb7]
 omega
theorem Q52 {a b k:Nat} (h:a+k*Go.Fp.P=b):Go.Fp.fp a=Go.Fp.fp b:=by
 rw [←h,Go.Fp.H9,Go.Fp.Qtz]; grobner
theorem Qsl {x0 x1 x2 x3 x4:Nat} (h0:x0<9223372036854775808) (h1:x1<9223372036854775808) (h2:x2<9223372036854775808) (h3:x3<9223372036854775808) (h4:x4<9223372036854775808) :
  ∃ l,Vv T 75 [eV [x0,x1,x2,x3,x4]] []=some (eV (Rd x0 x1 x2 x3 x4),l,[]):=by
 have key:∀ (a b c d e:Nat) (l:List Ob),[a,b,c,d,e]=Rd x0 x1 x2 x3 x4→(some (.agg [.int .u64 (a:Int),.int .u64 (b:Int),.int .u64 (c:Int),.int .u64 (d:Int),.int .u64 (e:Int)].toArray,l,[]):Option (Value×List Ob×List Nat))=some (eV (Rd x0 x1 x2 x3 x4),l,[]):=by
  intro a b c d e l h
  rw [←h]; rfl
 have hz:Qa 5 (Value.int .u64 0)=[.int .u64 0,.int .u64 0,.int .u64 0,.int .u64 0,.int .u64 0]:=rfl
 apply Z4
 rw [Z5 (fn:=a81) rfl]
 simp only [eV,Rz,Qbq,a81,Z6,quiet,cF,↓pF,reduceCtorEq,Qd,Qq,M8,V9,↓Xb,↓Xa,↓Xw,↓Xz,↓Xx,↓Xy,cL,Qp,Qo,Qz,Qy,Qv,Qn,Qm,Qx,Qe,Q5,Q6,Qw,Qk,Qj,Qi,Qu,Qt,Qs,Ql,Qh,cJ,Vr,cU,hz,Jx,Uv,Q1h]
 apply key
 simp only [Rd,Qsx,and_true]
 rw [show x0%18446744073709551616=x0 by omega]
 have b0:x0/2251799813685248<8192:=by omega
 have hx0:x0%2251799813685248<2251799813685248:=by omega
 generalize x0/2251799813685248=c0 at *
 generalize x0%2251799813685248=r0 at *
 rw [show (x1+c0)%18446744073709551616=x1+c0 by omega]
 have b1:(x1+c0)/2251799813685248<8192:=by omega
 generalize (x1+c0)/2251799813685248=c1 at *
 rw [show (x2+c1)%18446744073709551616=x2+c1 by omega]
 have b2:(x2+c1)/2251799813685248<8192:=by omega
 generalize (x2+c1)/2251799813685248=c2 at *
 rw [show (x3+c2)%18446744073709551616=x3+c2 by omega]
 have b3:(x3+c2)/2251799813685248<8192:=by omega
 generalize (x3+c2)/2251799813685248=c3 at *
 rw [show (x4+c3)%18446744073709551616=x4+c3 by omega]
 have b4:(x4+c3)/2251799813685248<8192:=by omega
 generalize (x4+c3)/2251799813685248=c4 at *
 refine ⟨by omega,rfl,rfl,rfl,rfl⟩
theorem Q3o (B P x0 x1 x2 x3 x4 y0 y1 y2 y3 y4:Nat) (h:B*B*B*B*B=P+19) :
  (x0+B*(x1+B*(x2+B*(x3+B*(x4+B*0)))))*(y0+B*(y1+B*(y2+B*(y3+B*(y4+B*0))))) =
   (x0*y0+19*x1*y4+19*x2*y3+19*x3*y2+19*x4*y1)+B*((x0*y1+x1*y0+19*x2*y4+19*x3*y3+19*x4*y2)+B*((x0*y2+x1*y1+x2*y0+19*x3*y4+19*x4*y3)+B*((x0*y3+x1*y2+x2*y1+x3*y0+19*x4*y4)+B*(x0*y4+x1*y3+x2*y2+x3*y1+x4*y0)))) +
   (x1*y4+x2*y3+x3*y2+x4*y1+B*(x2*y4+x3*y3+x4*y2+B*(x3*y4+x4*y3+B*(x4*y4))))*P:=by grind
theorem Qcd {x y:Nat} (hx:x<18446744073709551616) (hy:y<18446744073709551616):Vw T 71 [.int .u64 x,.int .u64 y]=some (wV (x*y)):=Ks (Qum hx hy)
theorem Ba {n x y:Nat} (hx:x<18446744073709551616) (hy:y<18446744073709551616) (hn:n+x*y<340282366920938463463374607431768211456):Vw T 72 [wV n,.int .u64 x,.int .u64 y]=some (wV (n+x*y)):=Ks (Qw4 hx hy hn)
theorem Qce {n:Nat} (hn:n<41538374868278621028243970633760768):Vw T 73 [wV n]=some (.tuple #[.int .u64 ((n/2251799813685248:Nat):Int),.int .u64 ((n%2251799813685248:Nat):Int)]):=Ks (Qxx hn)
theorem Q7i {n x:Nat} (hn:n+x<340282366920938463463374607431768211456) (hx:x<18446744073709551616):Vw T 74 [wV n,.int .u64 x]=some (wV (n+x)):=Ks (Q3q hn hx)
theorem T4 {x0 x1 x2 x3 x4:Nat} (h0:x0<9223372036854775808) (h1:x1<9223372036854775808) (h2:x2<9223372036854775808) (h3:x3<9223372036854775808) (h4:x4<9223372036854775808):Vw T 75 [eV [x0,x1,x2,x3,x4]]=some (eV (Rd x0 x1 x2 x3 x4)):=Ks (Qsl h0 h1 h2 h3 h4)
theorem Ra {a b c d e:Nat} (ha:a<2^109) (hb:b<2^109) (hc:c<2^109) (hd:d<2^109) (he:e<2^109):a+b+c+d+e<2^112:=by omega
theorem Y7 {x y:Nat} (hx:x<2^57) (hy:y<2^52):x*y<2^109:=by
 rw [show (2:Nat)^109=2^57*2^52 from rfl]
 exact Nat.mul_lt_mul'' hx hy
theorem Q3n {s0 s1 s2 s3 s4:Nat} (h0:s0<2^112) (h1:s1<2^112) (h2:s2<2^112) (h3:s3<2^112) (h4:s4<2^112):∃ r,El r (2^52)∧(∃ k,v51 r+k*Go.Fp.P=s0+2251799813685248*(s1+2251799813685248*(s2+2251799813685248*(s3+2251799813685248*s4)))) ∧
  r=Rd ((19*(s4/2251799813685248)+s0%2251799813685248)%2251799813685248) (s1%2251799813685248+s0/2251799813685248+(19*(s4/2251799813685248)+s0%2251799813685248)/2251799813685248) (s2%2251799813685248+s1/2251799813685248) (s3%2251799813685248+s2/2251799813685248) (s4%2251799813685248+s3/2251799813685248):=by
 refine ⟨_,?_,?_,rfl⟩
 ·simp only [Rd]
  apply El.mk5<;>omega
 ·obtain ⟨k,hk⟩:=Qew (x0:=(19*(s4/2251799813685248)+s0%2251799813685248)%2251799813685248) (x1:=s1%2251799813685248+s0/2251799813685248+(19*(s4/2251799813685248)+s0%2251799813685248)/2251799813685248) (x2:=s2%2251799813685248+s1/2251799813685248) (x3:=s3%2251799813685248+s2/2251799813685248) (x4:=s4%2251799813685248+s3/2251799813685248)
  refine ⟨k+s4/2251799813685248,?_⟩
  rw [Vy,←Vr,hk]
  simp only [v51,num,Go.Fp.Qb7]
  omega
theorem Wz {x y:List Nat} (hx:El x (2^52)) (hy:El y (2^52)):∃ r,Vw T 40 [eV x,eV y]=some (eV r)∧El r (2^52)∧fe r=fe x*fe y:=by
 obtain ⟨x0,x1,x2,x3,x4,rfl,a0,a1,a2,a3,a4⟩:=hx.five
 obtain ⟨y0,y1,y2,y3,y4,rfl,b0,b1,b2,b3,b4⟩:=hy.five
 have m1:19*x1%18446744073709551616=19*x1:=by omega
 have m2:19*x2%18446744073709551616=19*x2:=by omega
 have m3:19*x3%18446744073709551616=19*x3:=by omega
 have m4:19*x4%18446744073709551616=19*x4:=by omega
 have t00:=Qcd (x:=x0) (y:=y0) (by omega) (by omega)
 have p00:x0*y0<2^109:=Y7 (by omega) (by omega)
 have p01:19*x1*y4<2^109:=Y7 (by omega) (by omega)
 have p02:19*x2*y3<2^109:=Y7 (by omega) (by omega)
 have p03:19*x3*y2<2^109:=Y7 (by omega) (by omega)
 have p04:19*x4*y1<2^109:=Y7 (by omega) (by omega)
 have t01:=Ba (n:=x0*y0) (x:=19*x1) (y:=y4) (by omega) (by omega) (by omega)
 have t02:=Ba (n:=x0*y0+19*x1*y4) (x:=19*x2) (y:=y3) (by omega) (by omega) (by omega)
 have t03:=Ba (n:=x0*y0+19*x1*y4+19*x2*y3) (x:=19*x3) (y:=y2) (by omega) (by omega) (by omega)
 have t04:=Ba (n:=x0*y0+19*x1*y4+19*x2*y3+19*x3*y2) (x:=19*x4) (y:=y1) (by omega) (by omega) (by omega)
 have q0:=Ra p00 p01 p02 p03 p04
 have t10:=Qcd (x:=x0) (y:=y1) (by omega) (by omega)
 have p10:x0*y1<2^109:=Y7 (by omega) (by omega)
 have p11:x1*y0<2^109:=Y7 (by omega) (by omega)
 have p12:19*x2*y4<2^109:=Y7 (by omega) (by omega)
 have p13:19*x3*y3<2^109:=Y7 (by omega) (by omega)
 have p14:19*x4*y2<2^109:=Y7 (by omega) (by omega)
 have t11:=Ba (n:=x0*y1) (x:=x1) (y:=y0) (by omega) (by omega) (by omega)
 have t12:=Ba (n:=x0*y1+x1*y0) (x:=19*x2) (y:=y4) (by omega) (by omega) (by omega)
 have t13:=Ba (n:=x0*y1+x1*y0+19*x2*y4) (x:=19*x3) (y:=y3) (by omega) (by omega) (by omega)
 have t14:=Ba (n:=x0*y1+x1*y0+19*x2*y4+19*x3*y3) (x:=19*x4) (y:=y2) (by omega) (by omega) (by omega)
 have q1:=Ra p10 p11 p12 p13 p14
 have t20:=Qcd (x:=x0) (y:=y2) (by omega) (by omega)
 have p20:x0*y2<2^109:=Y7 (by omega) (by omega)
 have p21:x1*y1<2^109:=Y7 (by omega) (by omega)
 have p22:x2*y0<2^109:=Y7 (by omega) (by omega)
 have p23:19*x3*y4<2^109:=Y7 (by omega) (by omega)
 have p24:19*x4*y3<2^109:=Y7 (by omega) (by omega)
 have t21:=Ba (n:=x0*y2) (x:=x1) (y:=y1) (by omega) (by omega) (by omega)
 have t22:=Ba (n:=x0*y2+x1*y1) (x:=x2) (y:=y0) (by omega) (by omega) (by omega)
 have t23:=Ba (n:=x0*y2+x1*y1+x2*y0) (x:=19*x3) (y:=y4) (by omega) (by omega) (by omega)
 have t24:=Ba (n:=x0*y2+x1*y1+x2*y0+19*x3*y4) (x:=19*x4) (y:=y3) (by omega) (by omega) (by omega)
 have q2:=Ra p20 p21 p22 p23 p24
 have t30:=Qcd (x:=x0) (y:=y3) (by omega) (by omega)
 have p30:x0*y3<2^109:=Y7 (by omega) (by omega)
 have p31:x1*y2<2^109:=Y7 (by omega) (by omega)
 have p32:x2*y1<2^109:=Y7 (by omega) (by omega)
 have p33:x3*y0<2^109:=Y7 (by omega) (by omega)
 have p34:19*x4*y4<2^109:=Y7 (by omega) (by omega)
 have t31:=Ba (n:=x0*y3) (x:=x1) (y:=y2) (by omega) (by omega) (by omega)
 have t32:=Ba (n:=x0*y3+x1*y2) (x:=x2) (y:=y1) (by omega) (by omega) (by omega)
 have t33:=Ba (n:=x0*y3+x1*y2+x2*y1) (x:=x3) (y:=y0) (by omega) (by omega) (by omega)
 have t34:=Ba (n:=x0*y3+x1*y2+x2*y1+x3*y0) (x:=19*x4) (y:=y4) (by omega) (by omega) (by omega)
 have q3:=Ra p30 p31 p32 p33 p34
 have t40:=Qcd (x:=x0) (y:=y4) (by omega) (by omega)
 have p40:x0*y4<2^109:=Y7 (by omega) (by omega)
 have p41:x1*y3<2^109:=Y7 (by omega) (by omega)
 have p42:x2*y2<2^109:=Y7 (by omega) (by omega)
 have p43:x3*y1<2^109:=Y7 (by omega) (by omega)
 have p44:x4*y0<2^109:=Y7 (by omega) (by omega)
 have t41:=Ba (n:=x0*y4) (x:=x1) (y:=y3) (by omega) (by omega) (by omega)
 have t42:=Ba (n:=x0*y4+x1*y3) (x:=x2) (y:=y2) (by omega) (by omega) (by omega)
 have t43:=Ba (n:=x0*y4+x1*y3+x2*y2) (x:=x3) (y:=y1) (by omega) (by omega) (by omega)
 have t44:=Ba (n:=x0*y4+x1*y3+x2*y2+x3*y1) (x:=x4) (y:=y0) (by omega) (by omega) (by omega)
 have q4:=Ra p40 p41 p42 p43 p44
 obtain ⟨r,hr1,⟨k,hr2⟩,hr3⟩:=Q3n q0 q1 q2 q3 q4
 have d0:=Qce (n:=x0*y0+19*x1*y4+19*x2*y3+19*x3*y2+19*x4*y1) (by omega)
 have d1:=Qce (n:=x0*y1+x1*y0+19*x2*y4+19*x3*y3+19*x4*y2) (by omega)
 have d2:=Qce (n:=x0*y2+x1*y1+x2*y0+19*x3*y4+19*x4*y3) (by omega)
 have d3:=Qce (n:=x0*y3+x1*y2+x2*y1+x3*y0+19*x4*y4) (by omega)
 have d4:=Qce (n:=x0*y4+x1*y3+x2*y2+x3*y1+x4*y0) (by omega)
 refine ⟨r,?_,hr1,?_⟩
 ·rw [hr3]
  clear hr2 hr3
  generalize x0*y0+19*x1*y4+19*x2*y3+19*x3*y2+19*x4*y1=s0 at *
  generalize x0*y1+x1*y0+19*x2*y4+19*x3*y3+19*x4*y2=s1 at *
  generalize x0*y2+x1*y1+x2*y0+19*x3*y4+19*x4*y3=s2 at *
  generalize x0*y3+x1*y2+x2*y1+x3*y0+19*x4*y4=s3 at *
  generalize x0*y4+x1*y3+x2*y2+x3*y1+x4*y0=s4 at *
  have u1:=Qcd (x:=19) (y:=s4/2251799813685248) (by omega) (by omega)
  have u2:=Q7i (n:=19*(s4/2251799813685248)) (x:=s0%2251799813685248) (by omega) (by omega)
  have u3:=Qce (n:=19*(s4/2251799813685248)+s0%2251799813685248) (by omega)
  have w1:(s1%2251799813685248+s0/2251799813685248)%18446744073709551616=s1%2251799813685248+s0/2251799813685248:=by omega
  have w2:(s1%2251799813685248+s0/2251799813685248+(19*(s4/2251799813685248)+s0%2251799813685248)/2251799813685248)%18446744073709551616=s1%2251799813685248+s0/2251799813685248+(19*(s4/2251799813685248)+s0%2251799813685248)/2251799813685248:=by omega
  have w3:(s2%2251799813685248+s1/2251799813685248)%18446744073709551616=s2%2251799813685248+s1/2251799813685248:=by omega
  have w4:(s3%2251799813685248+s2/2251799813685248)%18446744073709551616=s3%2251799813685248+s2/2251799813685248:=by omega
  have w5:(s4%2251799813685248+s3/2251799813685248)%18446744073709551616=s4%2251799813685248+s3/2251799813685248:=by omega
  have v1:=T4 (x0:=(19*(s4/2251799813685248)+s0%2251799813685248)%2251799813685248) (x1:=s1%2251799813685248+s0/2251799813685248+(19*(s4/2251799813685248)+s0%2251799813685248)/2251799813685248) (x2:=s2%2251799813685248+s1/2251799813685248) (x3:=s3%2251799813685248+s2/2251799813685248) (x4:=s4%2251799813685248+s3/2251799813685248) (by omega) (by omega) (by omega) (by omega) (by omega)
  simp only [Qba] at u1
  have hz:Qa 5 (Value.int .u64 0)=[.int .u64 0,.int .u64 0,.int .u64 0,.int .u64 0,.int .u64 0]:=rfl
  have hf:∀ a b c d e:Int,fillL [Value.int .u64 0,.int .u64 0,.int .u64 0,.int .u64 0,.int .u64 0] [(0,1,.int .u64 a),(1,1,.int .u64 b),(2,1,.int .u64 c),(3,1,.int .u64 d),(4,1,.int .u64 e)]=some [.int .u64 a,.int .u64 b,.int .u64 c,.int .u64 d,.int .u64 e]:=fun _ _ _ _ _=>rfl
  have hf5:∀ a b c d e:Int,fillL [Value.int .u64 0,.int .u64 0,.int .u64 0,.int .u64 0,.int .u64 0] [(0,5,.agg [.int .u64 a,.int .u64 b,.int .u64 c,.int .u64 d,.int .u64 e].toArray)]=some [.int .u64 a,.int .u64 b,.int .u64 c,.int .u64 d,.int .u64 e]:=fun _ _ _ _ _=>rfl
  have hr5:∀ a b c d e:Int,rf (.agg [.int .u64 a,.int .u64 b,.int .u64 c,.int .u64 d,.int .u64 e].toArray)=true:=fun _ _ _ _ _=>rfl
  have hw:∀ n,(wV n).cells.size=2:=fun _=>rfl
  have hw2:∀ n,(wV n).cells.toList=[.int .u64 ((n/18446744073709551616:Nat):Int),.int .u64 ((n%18446744073709551616:Nat):Int)]:=fun _=>rfl
  have hw3:∀ n,okVar (wV n)=true:=fun _=>rfl
  have hw4:∀ n,Value.agg [.int .u64 ((n/18446744073709551616:Nat):Int),.int .u64 ((n%18446744073709551616:Nat):Int)].toArray=wV n:=fun _=>rfl
  simp only [eV,Rz,Qbq] at v1 ⊢
  generalize hc:ns .u64 (Rd ((19*(s4/2251799813685248)+s0%2251799813685248)%2251799813685248) (s1%2251799813685248+s0/2251799813685248+(19*(s4/2251799813685248)+s0%2251799813685248)/2251799813685248) (s2%2251799813685248+s1/2251799813685248) (s3%2251799813685248+s2/2251799813685248) (s4%2251799813685248+s3/2251799813685248))=C at *
  have hC:C.length=5:=by rw [←hc]; rfl
  have hCr:rf (.agg C.toArray)=true:=by rw [←hc]; exact Qtc _ _
  apply Ks
  apply Z4
  rw [Z5 (fn:=a51) rfl]
  simp only [a51,Z6,quiet,cF,↓pF,reduceCtorEq,Qd,Qq,Zn,V9,↓Xb,↓Xa,↓Xw,↓Xz,↓Xx,↓Xy,cL,Qp,Qo,Qz,Qy,Qv,Qn,Qm,Qx,Qe,Q5,Q6,Qw,Qk,Qj,Qi,Qu,Qt,Qs,Ql,Qh,cJ,cU,hz,m1,m2,m3,m4,t00,t01,t02,t03,t04,t10,t11,t12,t13,t14,t20,t21,t22,t23,t24,t30,t31,t32,t33,t34,t40,t41,t42,t43,t44,d0,d1,d2,d3,d4,u1,u2,u3,w1,w2,w3,w4,w5,hf,hf5,hr5,v1,rf_wV,hw,hw2,hw3,hw4,hC,hCr]
  rfl
 ·unfold fe
  rw [←Go.Fp.B5]
  have h:=Q3o 2251799813685248 Go.Fp.P x0 x1 x2 x3 x4 y0 y1 y2 y3 y4 (by rw [Go.Fp.Qb7])
  have e:v51 [x0,x1,x2,x3,x4]*v51 [y0,y1,y2,y3,y4]=v51 r+(k+(x1*y4+x2*y3+x3*y2+x4*y1+2251799813685248*(x2*y4+x3*y3+x4*y2+2251799813685248*(x3*y4+x4*y3+2251799813685248*(x4*y4)))))*Go.Fp.P:=by
   simp only [v51,num] at hr2 h ⊢
   rw [h,←hr2,Vr,←Vy]
  exact Q52 e.symm
theorem Qqj {V w q s:Nat} (hs:s<w):V/(2^w)^q%2^w/2^s%2=V/2^(w*q+s)%2:=by
 have h1:(2:Nat)^w=2^s*2^(w-s):=by rw [←Ww]; congr 1; omega
 conv=>lhs; rw [show V/(2^w)^q%2^w=V/(2^w)^q%(2^s*2^(w-s)) from by rw [←h1]]
 have h2:(2:Nat)∣2^(w-s):=by
  obtain ⟨m,hm⟩:∃ m,w-s=m+1:=⟨w-s-1,by omega⟩
  rw [hm,V0]
  exact Qqw 2 _
 rw [Qa6,D9 _ h2,Yu,←Y0,←Ww]
theorem Qqi (V i:Nat):V%2^i+V/2^i%2*2^i=V%2^(i+1):=by
 rw [Nat.mod_pow_succ,Vt (2^i)]
theorem Qgn (V i:Nat):V/2^i%2<2:=Jw _ (by decide)
theorem Qaj {n b:Nat} (h:n≤b):(2:Int)^min n b=((2^n:Nat):Int):=by rw [Kx h]; simp
theorem Qcf {n:Nat} (hn:n<4294967296):Vw T 37 [.int .u32 n]=some (eV [n,0,0,0,0]):=by
 have hz:Qa 5 (Value.int .u64 0)=[.int .u64 0,.int .u64 0,.int .u64 0,.int .u64 0,.int .u64 0]:=rfl
 have hf:∀ a:Int,fillL [Value.int .u64 0,.int .u64 0,.int .u64 0,.int .u64 0,.int .u64 0] [(0,1,.int .u64 a)]=some [.int .u64 a,.int .u64 0,.int .u64 0,.int .u64 0,.int .u64 0]:=fun _=>rfl
 have hf5:∀ a b c d e:Int,fillL [Value.int .u64 0,.int .u64 0,.int .u64 0,.int .u64 0,.int .u64 0] [(0,5,.agg [.int .u64 a,.int .u64 b,.int .u64 c,.int .u64 d,.int .u64 e].toArray)]=some [.int .u64 a,.int .u64 b,.int .u64 c,.int .u64 d,.int .u64 e]:=fun _ _ _ _ _=>rfl
 have hm:n%18446744073709551616=n:=by omega
 apply Ks
 apply Z4
 rw [Z5 (fn:=a50) rfl]
 simp only [a50,Z6,quiet,cF,↓pF,reduceCtorEq,Qd,Qq,Zn,V9,↓Xb,↓Xa,↓Xw,↓Xz,↓Xx,↓Xy,cL,Qp,Qo,Qz,Qy,Qv,Qn,Qm,Qx,Qe,Q5,Q6,Qw,Qk,Qj,Qi,Qu,Qt,Qs,Ql,Qh,cJ,cU,hz,hf,hf5,hm,eV,Rz,Qbq]
 rfl
theorem Tt {n:Nat} (hn:n<2^52):El [n,0,0,0,0] (2^52):=El.mk5 hn (by decide) (by decide) (by decide) (by decide)
theorem Ts (n:Nat):fe [n,0,0,0,0]=Go.Fp.fp n:=by simp [fe,v51,num]
def ofX (V i:Nat):List Nat:=dig (2^51) 5 (V%2^i)
def Qo6 (k x:List Nat) (i:Nat) (ex:Env):St:=⟨[(1,.pointer (some ⟨0,0,none⟩)),(2,.pointer (some ⟨1,0,none⟩)),(3,.pointer (some ⟨2,0,none⟩)),(5,.int .i64 i)]++ex,[⟨u8s k,true,true,true,1⟩,⟨ns .u64 [0,0,0,0,0],true,true,true,1⟩,⟨ns .u64 x,true,true,true,1⟩],[]⟩
theorem Qzj {k:List Nat} (lk:k.length=32) (xk:∀ x∈k,x<256) {i:Nat} (hi:i<255) :
  Jv T 0 Qj1 (Qo6 k (ofX (num 256 k) i) i [])=some (.normal,Qo6 k (ofX (num 256 k) (i+1)) (i+1) []):=by
 obtain ⟨b,hb⟩:∃ b,k[i/8]?=some b:=⟨_,Q3 (by omega)⟩
 have hbv:=Dz (B:=256) (by decide) xk hb
 have hbc:=Uk hb
 have hlen:(ofX (num 256 k) i).length=5:=Vs _ _ _
 obtain ⟨y,hy⟩:∃ b,(ofX (num 256 k) i)[i/51]?=some b:=⟨_,Q3 (by omega)⟩
 have hyc:=U3 (k := .u64) hy
 have hy':y<2^51:=Hd (by decide) (Zp hy)
 have hbit:b/2^(i%8)%2=num 256 k/2^i%2:=by
  rw [←hbv,show (256:Nat)=2^8 from rfl,Qqj (Jw _ (by decide)),Yi]
 have hput:=Qhu (w:=51) (m:=5) (q:=i/51) (s:=i%51) (y:=num 256 k/2^i%2) (M:=num 256 k%2^i) (by omega) (Jw _ (by decide)) (by rw [Yi]; exact Jw _ (Ud (by decide))) (by
  have h1:=Qgn (num 256 k) i
  have h2:(2:Nat)^(i%51)≤2^50:=Vl (by decide) (by have:=Jw i (by decide:0<51); omega)
  have h3:num 256 k/2^i%2*2^(i%51)≤1*2^50:=Wx (by omega) h2
  omega)
 rw [Yi,Qqi] at hput
 have hgd:(dig (2^51) 5 (num 256 k%2^i)).getD (i/51) 0=y:=by rw [Jh]; unfold ofX at hy; rw [hy]; rfl
 rw [hgd] at hput
 have hset:=Qao .u64 (ofX (num 256 k) i) (i/51) (y|||num 256 k/2^i%2*2^(i%51))
 rw [show (ofX (num 256 k) i).set (i/51) (y|||num 256 k/2^i%2*2^(i%51))=ofX (num 256 k) (i+1) from hput] at hset
 have hbl:=Qgn (num 256 k) i
 have h50:(2:Nat)^(i%51)≤2^50:=Vl (by decide) (by have:=Jw i (by decide:0<51); omega)
 have hprod:num 256 k/2^i%2*2^(i%51)≤1*2^50:=Wx (by omega) h50
 have s1:(2:Int)^min (i%8) IntKind.u8.bits=((2^(i%8):Nat):Int):=Qaj (Um (Jw _ (by decide)))
 have s2:(2:Int)^min (i%51) IntKind.u64.bits=((2^(i%51):Nat):Int):=Qaj (by have:=Jw i (by decide:0<51); exact Ut (Um this) (by decide))
 have o1:Vo .or .u64 (y:Int) ((num 256 k/2^i%2*2^(i%51):Nat):Int)=((y|||num 256 k/2^i%2*2^(i%51):Nat):Int):=Hl rfl (by show _<18446744073709551616; omega) (by show _<18446744073709551616; omega)
 have n1:(num 256 k/2^i%2*2^(i%51))%18446744073709551616=num 256 k/2^i%2*2^(i%51):=by omega
 have n2:(num 256 k/2^i%2)%18446744073709551616=num 256 k/2^i%2:=by omega
 have w1:IntKind.i64.wrap ((i/51:Nat):Int)=((i/51:Nat):Int):=Ym (by omega)
 have w2:IntKind.i64.wrap ((i/8:Nat):Int)=((i/8:Nat):Int):=Ym (by omega)
 have w3:IntKind.i64.wrap ((i+1:Nat):Int)=((i+1:Nat):Int):=Ym (by omega)
 have e1:((i:Int)<255)=True:=eq_true (by omega)
 have e2:(((i/51:Nat):Int)<5)=True:=eq_true (by omega)
 have e3:(((i/8:Nat):Int)<32)=True:=eq_true (by omega)
 have e4:(((i%8:Nat):Int)<0)=False:=eq_false (by omega)
 have e5:(((i%51:Nat):Int)<0)=False:=eq_false (by omega)
 have e6:i/51+1≤5:=by omega
 simp only [Qo6,Qj1,Z6,quiet,cF,↓pF,reduceCtorEq,Qd,Qq,Zn,V9,↓Xb,↓Xa,↓Xw,↓Xz,↓Xx,↓Xy,cL,Qp,Qo,Qz,Qy,Qv,Qn,Qm,Qx,Qe,Q5,Q6,Qw,Qk,Qj,Qi,Qu,Qt,Qs,Ql,Qh,cJ,cU,hbc,hyc,hbit,s1,s2,o1,n1,n2,w1,w2,w3,e1,e2,e3,e4,e5,e6,hset,Ky,hlen]
theorem Qve {k:List Nat} (lk:k.length=32) (xk:∀ x∈k,x<256):Vw T 36 [.agg (u8s k).toArray]=some (eV (dig (2^51) 5 (num 256 k%2^255))):=by
 have hz:Qa 5 (Value.int .u64 0)=ns .u64 [0,0,0,0,0]:=rfl
 have hb:=Ub (T:=T) (base:=0) (id:=0) (body:=Qj1) (fun i=>Qo6 k (ofX (num 256 k) i) i []) (s':=Qo6 k (ofX (num 256 k) 255) 255 [(6,.bool false)]) 255 (fun i hi=>Qzj lk xk hi) (by
  simp only [Qo6,Qj1,Z6,quiet,cF,↓pF,reduceCtorEq,Qd,Qq,Zn,V9,↓Xb,↓Xa,↓Xw,↓Xz,↓Xx,↓Xy,cL,Qp,Qo,Qz,Qy,Qv,Qn,Qm,Qx,Qe,Q5,Q6,Qw,Qk,Qj,Qi,Qu,Qt,Qs,Ql,Qh])
 have h0:ofX (num 256 k) 0=[0,0,0,0,0]:=by unfold ofX; rw [Ug,Q9d]; decide
 rw [h0] at hb
 have hlen:(ofX (num 256 k) 255).length=5:=Vs _ _ _
 rw [show dig (2^51) 5 (num 256 k%2^255)=ofX (num 256 k) 255 from rfl]
 generalize ofX (num 256 k) 255=X at *
 simp only [Qo6,Zg,Zc,Vx] at hb
 apply Ks
 apply Z4
 rw [Z5 (fn:=a49) rfl]
 have hl5:(ns .u64 [0,0,0,0,0]).length=5:=rfl
 simp only [a49,Z6,quiet,cF,↓pF,reduceCtorEq,Qd,Qq,Zn,V9,↓Xb,↓Xa,↓Xw,↓Xz,↓Xx,↓Xy,cL,Qp,Qo,Qz,Qy,Qv,Qn,Qm,Qx,Qe,Q5,Q6,Qw,Qk,Qj,Qi,Qu,Qt,Qs,Ql,Qh,cJ,hz,hb,Qo6,eV,hl5,Ky,hlen]
 rfl
theorem Qo7 {V:Nat}:El (dig (2^51) 5 V) (2^52):=⟨Vs _ _ _,fun x hx=>by have:=Hd (by decide) hx; omega⟩
theorem Qga {V:Nat}:v51 (dig (2^51) 5 (V%2^255))=V%2^255:=by
 have h:=Bb (B:=2^51) (by decide) 5 (V%2^255)
 rw [show ((2:Nat)^51)^5=2^255 from by rw [←Y0],Tk] at h
 exact h
theorem dm (a b:Nat):∃ r,a=b*(a/b)+r∧a%b=r∧(0<b→r<b):=⟨a%b,(Yi a b).symm,rfl,fun h=>Jw _ h⟩
theorem Qwr {x0 x1 x2 x3 x4:Nat} (h0:x0<9223372036854775808) (h1:x1<9223372036854775808) (h2:x2<9223372036854775808) (h3:x3<9223372036854775808) (h4:x4<9223372036854775808) :
  ∃ y0 y1 y2 y3 y4 z0 z1 z2 z3 z4,Rd x0 x1 x2 x3 x4=[y0,y1,y2,y3,y4]∧y0<9223372036854775808∧y1<9223372036854775808∧y2<9223372036854775808∧y3<9223372036854775808∧y4<9223372036854775808 ∧
   Rd y0 y1 y2 y3 y4=[z0,z1,z2,z3,z4]∧z0<2251799813685248+19∧z1<2251799813685248∧z2<2251799813685248∧z3<2251799813685248∧z4<2251799813685248∧(∃ k,v51 [z0,z1,z2,z3,z4]+k*Go.Fp.P=v51 [x0,x1,x2,x3,x4]):=by
 have key:∀ y0 y1 y2 y3 y4:Nat,y0<2251799813685248+19*8192→y1<2251799813685248→y2<2251799813685248→y3<2251799813685248→y4<2251799813685248→Rd x0 x1 x2 x3 x4=[y0,y1,y2,y3,y4] →
   ∃ z0 z1 z2 z3 z4,Rd y0 y1 y2 y3 y4=[z0,z1,z2,z3,z4]∧z0<2251799813685248+19∧z1<2251799813685248∧z2<2251799813685248∧z3<2251799813685248∧z4<2251799813685248∧(∃ k,v51 [z0,z1,z2,z3,z4]+k*Go.Fp.P=v51 [x0,x1,x2,x3,x4]):=by
  intro y0 y1 y2 y3 y4 b0 b1 b2 b3 b4 hy
  refine ⟨_,_,_,_,_,rfl,?_,Jw _ (by decide),Jw _ (by decide),Jw _ (by decide),Jw _ (by decide),?_⟩
  ·have c0:y0/2251799813685248≤1:=by omega
   have c1:(y1+y0/2251799813685248)/2251799813685248≤1:=by omega
   have c2:(y2+(y1+y0/2251799813685248)/2251799813685248)/2251799813685248≤1:=by omega
   have c3:(y3+(y2+(y1+y0/2251799813685248)/2251799813685248)/2251799813685248)/2251799813685248≤1:=by omega
   generalize (y3+(y2+(y1+y0/2251799813685248)/2251799813685248)/2251799813685248)/2251799813685248=c at *
   rcases Yc y0 2251799813685248 with h | h
   ·
    have d0:y0/2251799813685248=0:=by omega
    have c4:(y4+c)/2251799813685248≤1:=by omega
    have:=Jw y0 (by decide:0<2251799813685248)
    omega
   ·have c4:(y4+c)/2251799813685248≤1:=by omega
    have:=Jw y0 (by decide:0<2251799813685248)
    omega
  ·obtain ⟨k1,e1⟩:=Qew (x0:=y0) (x1:=y1) (x2:=y2) (x3:=y3) (x4:=y4)
   obtain ⟨k2,e2⟩:=Qew (x0:=x0) (x1:=x1) (x2:=x2) (x3:=x3) (x4:=x4)
   rw [hy] at e2
   refine ⟨k1+k2,?_⟩
   rw [Vy,←Vr,←e2,←e1]
   rfl
 have c0:x0/2251799813685248<8192:=by omega
 have c1:(x1+x0/2251799813685248)/2251799813685248<8192:=by omega
 have c2:(x2+(x1+x0/2251799813685248)/2251799813685248)/2251799813685248<8192:=by omega
 have c3:(x3+(x2+(x1+x0/2251799813685248)/2251799813685248)/2251799813685248)/2251799813685248<8192:=by omega
 have c4:(x4+(x3+(x2+(x1+x0/2251799813685248)/2251799813685248)/2251799813685248)/2251799813685248)/2251799813685248<8192:=by omega
 have m0:=Jw x0 (by decide:0<2251799813685248)
 have m1:=Jw (x1+x0/2251799813685248) (by decide:0<2251799813685248)
 have m2:=Jw (x2+(x1+x0/2251799813685248)/2251799813685248) (by decide:0<2251799813685248)
 have m3:=Jw (x3+(x2+(x1+x0/2251799813685248)/2251799813685248)/2251799813685248) (by decide:0<2251799813685248)
 have m4:=Jw (x4+(x3+(x2+(x1+x0/2251799813685248)/2251799813685248)/2251799813685248)/2251799813685248) (by decide:0<2251799813685248)
 obtain ⟨z0,z1,z2,z3,z4,g1,g2⟩:=key _ _ _ _ _ (by
  generalize (x4+(x3+(x2+(x1+x0/2251799813685248)/2251799813685248)/2251799813685248)/2251799813685248)/2251799813685248=c at *
  generalize x0%2251799813685248=r at *
  show r+19*c<_
  omega) m1 m2 m3 m4 rfl
 refine ⟨_,_,_,_,_,z0,z1,z2,z3,z4,rfl,?_,Ul m1 (by decide),Ul m2 (by decide),Ul m3 (by decide),Ul m4 (by decide),g1,g2⟩
 generalize (x4+(x3+(x2+(x1+x0/2251799813685248)/2251799813685248)/2251799813685248)/2251799813685248)/2251799813685248=c at *
 generalize x0%2251799813685248=r at *
 show r+19*c<_
 omega
def Qmj (z0 z1 z2 z3 z4:Nat):Nat:=(z4+(z3+(z2+(z1+(z0+19)/2251799813685248)/2251799813685248)/2251799813685248)/2251799813685248)/2251799813685248
def Qwe (z0 z1 z2 z3 z4:Nat):List Nat :=
 let u0:=z0/2251799813685248
 let u1:=(z1+u0)/2251799813685248
 let u2:=(z2+u1)/2251799813685248
 let u3:=(z3+u2)/2251799813685248
 [z0%2251799813685248,(z1+u0)%2251799813685248,(z2+u1)%2251799813685248,(z3+u2)%2251799813685248,(z4+u3)%2251799813685248]
theorem Q4f {z0 z1 z2 z3 z4:Nat} (h0:z0<2251799813685248+19) (h1:z1<2251799813685248) (h2:z2<2251799813685248) (h3:z3<2251799813685248) (h4:z4<2251799813685248) :
  Qmj z0 z1 z2 z3 z4≤1∧Qwe (z0+19*Qmj z0 z1 z2 z3 z4) z1 z2 z3 z4=dig (2^51) 5 (v51 [z0,z1,z2,z3,z4]%Go.Fp.P):=by
 have hc:Qmj z0 z1 z2 z3 z4≤1∧((Qmj z0 z1 z2 z3 z4=0∧v51 [z0,z1,z2,z3,z4]<Go.Fp.P)∨(Qmj z0 z1 z2 z3 z4=1∧Go.Fp.P≤v51 [z0,z1,z2,z3,z4])):=by
  simp only [Qmj,v51,num,Go.Fp.Qb7]
  obtain ⟨r0,e0,-,l0⟩:=dm (z0+19) 2251799813685248
  generalize (z0+19)/2251799813685248=t0 at *
  obtain ⟨r1,e1,-,l1⟩:=dm (z1+t0) 2251799813685248
  generalize (z1+t0)/2251799813685248=t1 at *
  obtain ⟨r2,e2,-,l2⟩:=dm (z2+t1) 2251799813685248
  generalize (z2+t1)/2251799813685248=t2 at *
  obtain ⟨r3,e3,-,l3⟩:=dm (z3+t2) 2251799813685248
  generalize (z3+t2)/2251799813685248=t3 at *
  obtain ⟨r4,e4,-,l4⟩:=dm (z4+t3) 2251799813685248
  generalize (z4+t3)/2251799813685248=t4 at *
  have l0:=l0 (by decide)
  have l1:=l1 (by decide)
  have l2:=l2 (by decide)
  have l3:=l3 (by decide)
  have l4:=l4 (by decide)
  omega
 have hP:=Go.Fp.Qb7
 obtain ⟨hc1,hc2⟩:=hc
 refine ⟨hc1,?_⟩
 generalize Qmj z0 z1 z2 z3 z4=c at *
 have hlt:∀ x∈Qwe (z0+19*c) z1 z2 z3 z4,x<2251799813685248:=by
  intro x hx
  simp only [Qwe,Yt,Wb,or_false] at hx
  rcases hx with h | h | h | h | h<;>(rw [h]; exact Jw _ (by decide))
 have hnum:num 2251799813685248 (Qwe (z0+19*c) z1 z2 z3 z4)=v51 [z0,z1,z2,z3,z4]%Go.Fp.P:=by
  have hV:v51 [z0,z1,z2,z3,z4]%Go.Fp.P=v51 [z0,z1,z2,z3,z4]-c*Go.Fp.P:=by
   rcases hc2 with ⟨g1,g2⟩ | ⟨g1,g2⟩
   ·rw [Jd g2,g1]; omega
   ·have g3:v51 [z0,z1,z2,z3,z4]<Go.Fp.P+Go.Fp.P:=by
     simp only [v51,num,Go.Fp.Qb7] at *
     omega
    rw [g1,U7,Nat.mod_eq_sub_mod g2,Jd (by omega)]
  rw [hV]
  simp only [Qwe,v51,num,Go.Fp.Qb7] at hc2 ⊢
  obtain ⟨r0,e0,f0,l0⟩:=dm (z0+19*c) 2251799813685248
  rw [f0]
  generalize (z0+19*c)/2251799813685248=t0 at *
  obtain ⟨r1,e1,f1,l1⟩:=dm (z1+t0) 2251799813685248
  rw [f1]
  generalize (z1+t0)/2251799813685248=t1 at *
  obtain ⟨r2,e2,f2,l2⟩:=dm (z2+t1) 2251799813685248
  rw [f2]
  generalize (z2+t1)/2251799813685248=t2 at *
  obtain ⟨r3,e3,f3,l3⟩:=dm (z3+t2) 2251799813685248
  rw [f3]
  generalize (z3+t2)/2251799813685248=t3 at *
  obtain ⟨r4,e4,f4,l4⟩:=dm (z4+t3) 2251799813685248
  rw [f4]
  generalize (z4+t3)/2251799813685248=t4 at *
  have l0:=l0 (by decide)
  have l1:=l1 (by decide)
  have l2:=l2 (by decide)
  have l3:=l3 (by decide)
  have l4:=l4 (by decide)
  rcases hc2 with ⟨g1,g2⟩ | ⟨g1,g2⟩<;>subst g1<;>omega
 have h5:=Qat (B:=2251799813685248) (by decide) hlt
 rw [hnum] at h5
 exact h5.symm
def byX (V i:Nat):List Nat:=dig (2^8) 32 (V%2^i)
def Qnj (x k:List Nat) (R:Ob) (i:Nat) (ex:Env):St:=⟨[(1,.pointer (some ⟨0,0,none⟩)),(2,.pointer (some ⟨1,0,none⟩)),(6,.pointer (some ⟨2,0,none⟩)),(54,.int .i64 i)]++ex,[⟨ns .u64 x,true,true,true,1⟩,R,⟨u8s k,true,true,true,1⟩],[]⟩
theorem Q07 {V:Nat} {R:Ob} {i:Nat} (hi:i<255) :
  Jv T 0 Qgp (Qnj (dig (2^51) 5 V) (byX V i) R i [])=some (.normal,Qnj (dig (2^51) 5 V) (byX V (i+1)) R (i+1) []):=by
 obtain ⟨b,hb⟩:∃ b,(dig (2^51) 5 V)[i/51]?=some b:=⟨_,Q3 (by rw [Vs]; omega)⟩
 have hbv:V/(2^51)^(i/51)%2^51=b:=by rw [Dl (by omega)] at hb; exact Ge hb
 have hbc:=U3 (k := .u64) hb
 have hlen:(byX V i).length=32:=Vs _ _ _
 obtain ⟨y,hy⟩:∃ b,(byX V i)[i/8]?=some b:=⟨_,Q3 (by omega)⟩
 have hyc:=Uk hy
 have hy':y<2^8:=Hd (by decide) (Zp hy)
 have hbit:b/2^(i%51)%2=V/2^i%2:=by
  rw [←hbv,Qqj (Jw _ (by decide)),Yi]
 have hsm:(2:Nat)^(i%8)≤2^7:=Vl (by decide) (by have:=Jw i (by decide:0<8); omega)
 have hbl:=Qgn V i
 have hprod:V/2^i%2*2^(i%8)≤1*2^7:=Wx (by omega) hsm
 have hput:=Qhu (w:=8) (m:=32) (q:=i/8) (s:=i%8) (y:=V/2^i%2) (M:=V%2^i) (by omega) (Jw _ (by decide)) (by rw [Yi]; exact Jw _ (Ud (by decide))) (by omega)
 rw [Yi,Qqi] at hput
 have hgd:(dig (2^8) 32 (V%2^i)).getD (i/8) 0=y:=by rw [Jh]; unfold byX at hy; rw [hy]; rfl
 rw [hgd] at hput
 have hset:=Hg (byX V i) (i/8) (y|||V/2^i%2*2^(i%8))
 rw [show (byX V i).set (i/8) (y|||V/2^i%2*2^(i%8))=byX V (i+1) from hput] at hset
 have s1:(2:Int)^min (i%8) IntKind.u8.bits=((2^(i%8):Nat):Int):=Qaj (Um (Jw _ (by decide)))
 have s2:(2:Int)^min (i%51) IntKind.u64.bits=((2^(i%51):Nat):Int):=Qaj (by have:=Jw i (by decide:0<51); exact Ut (Um this) (by decide))
 have o1:Vo .or .u8 (y:Int) ((V/2^i%2*2^(i%8):Nat):Int)=((y|||V/2^i%2*2^(i%8):Nat):Int):=Hl rfl (by show _<256; omega) (by show _<256; omega)
 have n1:(V/2^i%2*2^(i%8))%256=V/2^i%2*2^(i%8):=by omega
 have n2:(V/2^i%2)%256=V/2^i%2:=by omega
 have w1:IntKind.i64.wrap ((i/51:Nat):Int)=((i/51:Nat):Int):=Ym (by omega)
 have w2:IntKind.i64.wrap ((i/8:Nat):Int)=((i/8:Nat):Int):=Ym (by omega)
 have w3:IntKind.i64.wrap ((i+1:Nat):Int)=((i+1:Nat):Int):=Ym (by omega)
 have e1:((i:Int)<255)=True:=eq_true (by omega)
 have e2:(((i/51:Nat):Int)<5)=True:=eq_true (by omega)
 have e3:(((i/8:Nat):Int)<32)=True:=eq_true (by omega)
 have e4:(((i%8:Nat):Int)<0)=False:=eq_false (by omega)
 have e5:(((i%51:Nat):Int)<0)=False:=eq_false (by omega)
 have e6:i/8+1≤32:=by omega
 simp only [Qnj,Qgp,Z6,quiet,cF,↓pF,reduceCtorEq,Qd,Qq,Zn,V9,↓Xb,↓Xa,↓Xw,↓Xz,↓Xx,↓Xy,cL,Qp,Qo,Qz,Qy,Qv,Qn,Qm,Qx,Qe,Q5,Q6,Qw,Qk,Qj,Qi,Qu,Qt,Qs,Ql,Qh,cJ,cU,hbc,hyc,hbit,s1,s2,o1,n1,n2,w1,w2,w3,e1,e2,e3,e4,e5,e6,hset,Zv,hlen]
theorem Qwu {V:Nat} {R:Ob} (hV:V<2^255):Jv T 0 (.block 4 (.loop Qgp)) (Qnj (dig (2^51) 5 V) (dig 256 32 0) R 0 [])=some (.normal,Qnj (dig (2^51) 5 V) (dig 256 32 V) R 255 [(55,.bool false)]):=by
 have hb:=Ub (T:=T) (base:=0) (id:=4) (body:=Qgp) (fun i=>Qnj (dig (2^51) 5 V) (byX V i) R i []) (s':=Qnj (dig (2^51) 5 V) (byX V 255) R 255 [(55,.bool false)]) 255 (fun i hi=>Q07 hi) (by
  simp only [Qnj,Qgp,Z6,quiet,cF,↓pF,reduceCtorEq,Qd,Qq,Zn,V9,↓Xb,↓Xa,↓Xw,↓Xz,↓Xx,↓Xy,cL,Qp,Qo,Qz,Qy,Qv,Qn,Qm,Qx,Qe,Q5,Q6,Qw,Qk,Qj,Qi,Qu,Qt,Qs,Ql,Qh])
 rw [show byX V 0=dig 256 32 0 from by unfold byX; rw [Ug,Q9d],show byX V 255=dig 256 32 V from by unfold byX; rw [Jd hV]] at hb
 exact hb
theorem Qwt {x0 x1 x2 x3 x4:Nat} (h0:x0<9223372036854775808) (h1:x1<9223372036854775808) (h2:x2<9223372036854775808) (h3:x3<9223372036854775808) (h4:x4<9223372036854775808) :
  Vw T 42 [eV [x0,x1,x2,x3,x4]]=some (.agg (u8s (dig 256 32 (v51 [x0,x1,x2,x3,x4]%Go.Fp.P))).toArray):=by
 obtain ⟨y0,y1,y2,y3,y4,z0,z1,z2,z3,z4,hy,a0,a1,a2,a3,a4,hz,b0,b1,b2,b3,b4,⟨kk,hk⟩⟩:=Qwr h0 h1 h2 h3 h4
 have hV:v51 [x0,x1,x2,x3,x4]%Go.Fp.P=v51 [z0,z1,z2,z3,z4]%Go.Fp.P:=by rw [←hk,De]
 obtain ⟨hc,hfin⟩:=Q4f b0 b1 b2 b3 b4
 have c1:=T4 h0 h1 h2 h3 h4
 have c2:=T4 a0 a1 a2 a3 a4
 rw [hy] at c1
 rw [hz] at c2
 have hN:v51 [z0,z1,z2,z3,z4]%Go.Fp.P<2^255:=Ul (Jw _ (by decide)) (by rw [Go.Fp.Qb7]; decide)
 have hb:=Qwu (R:=⟨u8s (dig 256 32 0),true,true,true,1⟩) hN
 rw [hV]
 generalize v51 [z0,z1,z2,z3,z4]%Go.Fp.P=N at *
 have hz5:Qa 5 (Value.int .u64 0)=[.int .u64 0,.int .u64 0,.int .u64 0,.int .u64 0,.int .u64 0]:=rfl
 have hz32:Qa 32 (Value.int .u8 0)=u8s (dig 256 32 0):=rfl
 have hr5:∀ a b c d e:Int,rf (.agg [.int .u64 a,.int .u64 b,.int .u64 c,.int .u64 d,.int .u64 e].toArray)=true:=fun _ _ _ _ _=>rfl
 have hlk:(dig 256 32 N).length=32:=Vs _ _ _
 have hl0:(dig 256 32 0).length=32:=rfl
 have f0:(z0+19)%18446744073709551616=z0+19:=by omega
 have f1:(z1+(z0+19)/2251799813685248)%18446744073709551616=z1+(z0+19)/2251799813685248:=by omega
 have f2:(z2+(z1+(z0+19)/2251799813685248)/2251799813685248)%18446744073709551616=z2+(z1+(z0+19)/2251799813685248)/2251799813685248:=by
  generalize (z1+(z0+19)/2251799813685248)=t at *; omega
 have f3:(z3+(z2+(z1+(z0+19)/2251799813685248)/2251799813685248)/2251799813685248)%18446744073709551616=z3+(z2+(z1+(z0+19)/2251799813685248)/2251799813685248)/2251799813685248:=by
  have:(z2+(z1+(z0+19)/2251799813685248)/2251799813685248)/2251799813685248<2251799813685248:=by omega
  generalize (z2+(z1+(z0+19)/2251799813685248)/2251799813685248)/2251799813685248=t at *; omega
 have f4:(z4+(z3+(z2+(z1+(z0+19)/2251799813685248)/2251799813685248)/2251799813685248)/2251799813685248)%18446744073709551616=z4+(z3+(z2+(z1+(z0+19)/2251799813685248)/2251799813685248)/2251799813685248)/2251799813685248:=by
  have:(z2+(z1+(z0+19)/2251799813685248)/2251799813685248)/2251799813685248<2251799813685248:=by omega
  generalize (z2+(z1+(z0+19)/2251799813685248)/2251799813685248)/2251799813685248=t at *; omega
 have ft:(z4+(z3+(z2+(z1+(z0+19)/2251799813685248)/2251799813685248)/2251799813685248)/2251799813685248)/2251799813685248=Qmj z0 z1 z2 z3 z4:=rfl
 generalize Qmj z0 z1 z2 z3 z4=c at *
 have g0:19*c%18446744073709551616=19*c:=by omega
 have g1:(z0+19*c)%18446744073709551616=z0+19*c:=by omega
 have g2:(z0+19*c+0)%18446744073709551616=z0+19*c:=by omega
 have k0:(z0+19*c)/2251799813685248<8:=by omega
 have g3:(z1+(z0+19*c)/2251799813685248)%18446744073709551616=z1+(z0+19*c)/2251799813685248:=by omega
 have k1:(z1+(z0+19*c)/2251799813685248)/2251799813685248<8:=by omega
 have g4:(z2+(z1+(z0+19*c)/2251799813685248)/2251799813685248)%18446744073709551616=z2+(z1+(z0+19*c)/2251799813685248)/2251799813685248:=by
  generalize (z1+(z0+19*c)/2251799813685248)/2251799813685248=t at *; omega
 have k2:(z2+(z1+(z0+19*c)/2251799813685248)/2251799813685248)/2251799813685248<8:=by
  generalize (z1+(z0+19*c)/2251799813685248)/2251799813685248=t at *; omega
 have g5:(z3+(z2+(z1+(z0+19*c)/2251799813685248)/2251799813685248)/2251799813685248)%18446744073709551616=z3+(z2+(z1+(z0+19*c)/2251799813685248)/2251799813685248)/2251799813685248:=by
  generalize (z2+(z1+(z0+19*c)/2251799813685248)/2251799813685248)/2251799813685248=t at *; omega
 have k3:(z3+(z2+(z1+(z0+19*c)/2251799813685248)/2251799813685248)/2251799813685248)/2251799813685248<8:=by
  generalize (z2+(z1+(z0+19*c)/2251799813685248)/2251799813685248)/2251799813685248=t at *; omega
 have g6:(z4+(z3+(z2+(z1+(z0+19*c)/2251799813685248)/2251799813685248)/2251799813685248)/2251799813685248)%18446744073709551616=z4+(z3+(z2+(z1+(z0+19*c)/2251799813685248)/2251799813685248)/2251799813685248)/2251799813685248:=by
  generalize (z3+(z2+(z1+(z0+19*c)/2251799813685248)/2251799813685248)/2251799813685248)/2251799813685248=t at *; omega
 rw [←hfin] at hb
 simp only [eV,Rz,Qbq] at c1 c2 ⊢
 simp only [Qnj,Qwe,Rz,Qbq,Zg,Zc,Vx] at hb
 apply Ks
 apply Z4
 rw [Z5 (fn:=a57) rfl]
 have u0:=fun s=>@Uv T 0 Qjz s
 have u1:=fun s=>@Uv T 0 Qj0 s
 have v0:=fun s=>@Jx T 0 0 (.loop Qjz) s
 have v1:=fun s=>@Jx T 0 2 (.loop Qj0) s
 have d0:∀ s,Jv T 0 Qjz s=Jv T 0 _ s:=fun s=>congrArg (fun c=>Jv T 0 c s) Qjz.eq_1
 have d1:∀ s,Jv T 0 Qj0 s=Jv T 0 _ s:=fun s=>congrArg (fun c=>Jv T 0 c s) Qj0.eq_1
 simp only [a57,Z6,quiet,cF,↓pF,reduceCtorEq,Qd,Qq,Zn,V9,↓Xb,↓Xa,↓Xw,↓Xz,↓Xx,↓Xy,cL,Qp,Qo,Qz,Qy,Qv,Qn,Qm,Qx,Qe,Q5,Q6,Qw,Qk,Qj,Qi,Qu,Qt,Qs,Ql,Qh,cJ,cU,hz5,hz32,c1,c2,hr5,u0,u1,v0,v1,d0,d1,f0,f1,f2,f3,f4,ft,g0,g1,g2,g3,g4,g5,g6,hb,Zv,hlk,hl0]
 rfl
theorem key_inj {a b:Nat} (ha:a<256^32) (hb:b<256^32):(dig 256 32 a==dig 256 32 b)=decide (a=b):=by
 by_cases h:a=b
 ·subst h; simp
 ·have:¬ dig 256 32 a=dig 256 32 b:=fun he=>h (by
   have h1:=congrArg (num 256) he
   rwa [Bb (by decide),Bb (by decide),Jd ha,Jd hb] at h1)
  rw [decide_eq_false h,beq_eq_false_iff_ne.2 this]
theorem P_lt:Go.Fp.P<256^32:=by rw [Go.Fp.Qb7]; decide
theorem Q7w (l:List Nat):(fe l).val=v51 l%Go.Fp.P:=rfl
theorem Qav {l:List Nat} (h:El l (2^52)):Vw T 42 [eV l]=some (.agg (u8s (dig 256 32 (fe l).val)).toArray):=by
 obtain ⟨x0,x1,x2,x3,x4,rfl,a0,a1,a2,a3,a4⟩:=h.five
 exact Qwt (by omega) (by omega) (by omega) (by omega) (by omega)
theorem Q53 (a:Go.Fp.Fe):a.val<256^32:=Ul a.isLt P_lt
theorem Q0s (a b:Go.Fp.Fe):(dig 256 32 a.val==dig 256 32 b.val)=decide (a=b):=by
 rw [key_inj (Q53 a) (Q53 b)]
 by_cases h:a=b
 ·subst h; simp
 ·have:¬ a.val=b.val:=fun he=>h (Fin.ext he)
  rw [decide_eq_false h,decide_eq_false this]
theorem Xe (l:List Nat):(eV l).cells.toList=ns .u64 l:=rfl
theorem Kb (l:List Nat):(eV l).cells.size=l.length:=Ky _ _
theorem Yb (l:List Nat):okVar (eV l)=true:=rfl
theorem Kc (l:List Nat):Value.agg (ns .u64 l).toArray=eV l:=rfl
theorem Q4n {x y:List Nat} (hx:El x (2^52)) (hy:El y (2^52)):Vw T 98 [eV x,eV y]=some (.bool (decide (fe x=fe y))):=by
 have h1:=Qav hx
 have h2:=Qav hy
 have l1:=hx.len
 have l2:=hy.len
 apply Ks
 apply Z4
 rw [Z5 (fn:=a55) rfl]
 simp only [a55,Z6,quiet,cF,↓pF,reduceCtorEq,Qd,Qq,Zn,V9,↓Xb,↓Xa,↓Xw,↓Xz,↓Xx,↓Xy,cL,Qp,Qo,Qz,Qy,Qv,Qn,Qm,Qx,Qe,Q5,Q6,Qw,Qk,Qj,Qi,Qu,Qt,Qs,Ql,Qh,cJ,Xe,Kb,Yb,Kc,Ky,l1,l2,h1,h2,He,Vs,Q0s,V4]
 rfl
theorem Qz2 {x:List Nat} (hx:El x (2^52)):Vw T 80 [eV x]=some (.bool (decide (fe x=0))):=by
 have h1:=Qav hx
 have l1:=hx.len
 have f0:fillL (Qa 32 (Value.int .u8 0)) []=some (u8s (dig 256 32 (0:Go.Fp.Fe).val)):=rfl
 apply Ks
 apply Z4
 rw [Z5 (fn:=a63) rfl]
 simp only [a63,Z6,quiet,cF,↓pF,reduceCtorEq,Qd,Qq,Zn,V9,↓Xb,↓Xa,↓Xw,↓Xz,↓Xx,↓Xy,cL,Qp,Qo,Qz,Qy,Qv,Qn,Qm,Qx,Qe,Q5,Q6,Qw,Qk,Qj,Qi,Qu,Qt,Qs,Ql,Qh,cJ,Xe,Kb,Yb,Kc,Ky,l1,h1,f0,He,Vs,Q0s,V4]
 rfl
theorem Qzk {x:List Nat} (hx:El x (2^52)):Vw T 55 [eV x]=some (.bool (decide ((fe x).val%2=1))):=by
 have h1:=Qav hx
 have l1:=hx.len
 have h0:(u8s (dig 256 32 (fe x).val))[0]?=some (.int .u8 (((fe x).val%256:Nat):Int)):=by
  apply Uk
  rw [Dl (by decide),Ug,U8]
 have hm:(fe x).val%256%2=(fe x).val%2:=by omega
 have hd:((((fe x).val%2:Nat):Int)==1)=decide ((fe x).val%2=1):=by
  by_cases h:(fe x).val%2=1
  ·rw [h]; rfl
  ·have:¬ ((((fe x).val%2:Nat):Int)=1):=by omega
   rw [decide_eq_false h,beq_eq_false_iff_ne.2 this]
 apply Ks
 apply Z4
 rw [Z5 (fn:=a58) rfl]
 simp only [a58,Z6,quiet,cF,↓pF,reduceCtorEq,Qd,Qq,Zn,V9,↓Xb,↓Xa,↓Xw,↓Xz,↓Xx,↓Xy,cL,Qp,Qo,Qz,Qy,Qv,Qn,Qm,Qx,Qe,Q5,Q6,Qw,Qk,Qj,Qi,Qu,Qt,Qs,Ql,Qh,cJ,cU,Xe,Kb,Yb,Kc,Ky,l1,h1,h0,hm,hd,Zv,Vs,V4]
 rfl
theorem Qqg {k:List Nat} (lk:k.length=32) (xk:∀ x∈k,x<256):Vw T 78 [.agg (u8s k).toArray]=some (.bool (decide (num 256 k<Go.Fp.P))):=by
 have h0:=Qve lk xk
 have hel:=Qo7 (V:=num 256 k%2^255)
 have h1:=Qav hel
 rw [Q7w,Qga] at h1
 have hb:(dig 256 32 (num 256 k%2^255%Go.Fp.P)==k)=decide (num 256 k<Go.Fp.P):=by
  have hk:=Qat (B:=256) (by decide) xk
  rw [lk] at hk
  have hkl:=num_lt xk
  rw [lk] at hkl
  rw [show (dig 256 32 (num 256 k%2^255%Go.Fp.P)==k)=(dig 256 32 (num 256 k%2^255%Go.Fp.P)==dig 256 32 (num 256 k)) from by rw [hk]]
  have hP:=Go.Fp.Qb7
  rw [key_inj (Ul (Jw _ (by rw [hP]; decide)) P_lt) hkl]
  by_cases h:num 256 k<Go.Fp.P
  ·rw [decide_eq_true h,Jd (a:=num 256 k) (by rw [hP] at h; omega),Jd h]; simp
  ·rw [decide_eq_false h,decide_eq_false]
   have:=Jw (num 256 k%2^255) (show 0<Go.Fp.P by rw [hP]; decide)
   omega
 apply Ks
 apply Z4
 rw [Z5 (fn:=a59) rfl]
 simp only [a59,Z6,quiet,cF,↓pF,reduceCtorEq,Qd,Qq,Zn,V9,↓Xb,↓Xa,↓Xw,↓Xz,↓Xx,↓Xy,cL,Qp,Qo,Qz,Qy,Qv,Qn,Qm,Qx,Qe,Q5,Q6,Qw,Qk,Qj,Qi,Qu,Qt,Qs,Ql,Qh,cJ,Xe,Kb,Yb,Kc,Ky,Zv,lk,h0,h1,He,Vs,hb,V4]
 rfl
end Go.Ev.Ytpgphpkjlpkcbaa
namespace Go.Ev.Ytpgphpkjlpkcbaa
open Go Go.Ev
attribute [local congr] Wp W0 Wo W3 Wh
set_option maxRecDepth 100000
theorem Qt6 {x0 x1 x2 x3 x4:Nat} (h0:x0<2^60) (h1:x1<2^60) (h2:x2<2^60) (h3:x3<2^60) (h4:x4<2^60):El (Rd x0 x1 x2 x3 x4) (2^52):=by
 simp only [Rd]
 have c0:x0/2251799813685248<1024:=by omega
 have c1:(x1+x0/2251799813685248)/2251799813685248<1024:=by omega
 have c2:(x2+(x1+x0/2251799813685248)/2251799813685248)/2251799813685248<1024:=by omega
 have c3:(x3+(x2+(x1+x0/2251799813685248)/2251799813685248)/2251799813685248)/2251799813685248<1024:=by omega
 have c4:(x4+(x3+(x2+(x1+x0/2251799813685248)/2251799813685248)/2251799813685248)/2251799813685248)/2251799813685248<1024:=by omega
 have m0:=Jw x0 (by decide:0<2251799813685248)
 apply El.mk5
 ·generalize (x4+(x3+(x2+(x1+x0/2251799813685248)/2251799813685248)/2251799813685248)/2251799813685248)/2251799813685248=c at *
  omega
 all_goals exact Ul (Jw _ (by decide)) (by decide)
theorem Qt5 {x0 x1 x2 x3 x4:Nat}:fe (Rd x0 x1 x2 x3 x4)=fe [x0,x1,x2,x3,x4]:=by
 obtain ⟨k,hk⟩:=Qew (x0:=x0) (x1:=x1) (x2:=x2) (x3:=x3) (x4:=x4)
 exact Q52 hk
theorem Qaz {x y:List Nat} (hx:El x (2^52)) (hy:El y (2^52)):∃ r,Vw T 69 [eV x,eV y]=some (eV r)∧El r (2^52)∧fe r=fe x-fe y:=by
 obtain ⟨x0,x1,x2,x3,x4,rfl,a0,a1,a2,a3,a4⟩:=hx.five
 obtain ⟨y0,y1,y2,y3,y4,rfl,b0,b1,b2,b3,b4⟩:=hy.five
 refine ⟨Rd (x0+(9007199254740988-y0)-72) (x1+(9007199254740988-y1)) (x2+(9007199254740988-y2)) (x3+(9007199254740988-y3)) (x4+(9007199254740988-y4)),?_,Qt6 (by omega) (by omega) (by omega) (by omega) (by omega),?_⟩
 ·have s0:(9007199254740988+(18446744073709551616-y0%18446744073709551616))%18446744073709551616=9007199254740988-y0:=by omega
  have s1:(9007199254740988+(18446744073709551616-y1%18446744073709551616))%18446744073709551616=9007199254740988-y1:=by omega
  have s2:(9007199254740988+(18446744073709551616-y2%18446744073709551616))%18446744073709551616=9007199254740988-y2:=by omega
  have s3:(9007199254740988+(18446744073709551616-y3%18446744073709551616))%18446744073709551616=9007199254740988-y3:=by omega
  have s4:(9007199254740988+(18446744073709551616-y4%18446744073709551616))%18446744073709551616=9007199254740988-y4:=by omega
  have t0:(x0+(9007199254740988-y0))%18446744073709551616=x0+(9007199254740988-y0):=by omega
  have t1:(x1+(9007199254740988-y1))%18446744073709551616=x1+(9007199254740988-y1):=by omega
  have t2:(x2+(9007199254740988-y2))%18446744073709551616=x2+(9007199254740988-y2):=by omega
  have t3:(x3+(9007199254740988-y3))%18446744073709551616=x3+(9007199254740988-y3):=by omega
  have t4:(x4+(9007199254740988-y4))%18446744073709551616=x4+(9007199254740988-y4):=by omega
  have r0:(x0+(9007199254740988-y0)+18446744073709551544)%18446744073709551616=x0+(9007199254740988-y0)-72:=by omega
  have c1:=T4 (x0:=x0+(9007199254740988-y0)-72) (x1:=x1+(9007199254740988-y1)) (x2:=x2+(9007199254740988-y2)) (x3:=x3+(9007199254740988-y3)) (x4:=x4+(9007199254740988-y4)) (by omega) (by omega) (by omega) (by omega) (by omega)
  have hl:(Rd (x0+(9007199254740988-y0)-72) (x1+(9007199254740988-y1)) (x2+(9007199254740988-y2)) (x3+(9007199254740988-y3)) (x4+(9007199254740988-y4))).length=5:=rfl
  generalize Rd (x0+(9007199254740988-y0)-72) (x1+(9007199254740988-y1)) (x2+(9007199254740988-y2)) (x3+(9007199254740988-y3)) (x4+(9007199254740988-y4))=C at *
  have hz5:Qa 5 (Value.int .u64 0)=[.int .u64 0,.int .u64 0,.int .u64 0,.int .u64 0,.int .u64 0]:=rfl
  have hr5:∀ a b c d e:Int,rf (.agg [.int .u64 a,.int .u64 b,.int .u64 c,.int .u64 d,.int .u64 e].toArray)=true:=fun _ _ _ _ _=>rfl
  have u0:=fun s=>@Uv T 0 Qjy s
  have v0:=fun s=>@Jx T 0 0 (.loop Qjy) s
  have d0:∀ s,Jv T 0 Qjy s=Jv T 0 _ s:=fun s=>congrArg (fun c=>Jv T 0 c s) Qjy.eq_1
  have hrC:rf (.agg (ns .u64 C).toArray)=true:=Qtc _ _
  simp only [eV,Rz,Qbq] at c1 ⊢
  apply Ks
  apply Z4
  rw [Z5 (fn:=a61) rfl]
  simp only [a61,Z6,quiet,cF,↓pF,reduceCtorEq,Qd,Qq,Zn,V9,↓Xb,↓Xa,↓Xw,↓Xz,↓Xx,↓Xy,cL,Qp,Qo,Qz,Qy,Qv,Qn,Qm,Qx,Qe,Q5,Q6,Qw,Qk,Qj,Qi,Qu,Qt,Qs,Ql,Qh,cJ,cU,hz5,c1,hr5,u0,v0,d0,s0,s1,s2,s3,s4,t0,t1,t2,t3,t4,r0,Ky,hl,hrC]
  rfl
 ·rw [Qt5]
  have e:v51 [x0+(9007199254740988-y0)-72,x1+(9007199254740988-y1),x2+(9007199254740988-y2),x3+(9007199254740988-y3),x4+(9007199254740988-y4)]+v51 [y0,y1,y2,y3,y4]=v51 [x0,x1,x2,x3,x4]+4*Go.Fp.P:=by
   simp only [v51,num,Go.Fp.Qb7]
   omega
  have h:=congrArg Go.Fp.fp e
  rw [Go.Fp.H9,Go.Fp.H9,Go.Fp.Qtz] at h
  unfold fe
  grobner
theorem Qlm {x:List Nat} (hx:El x (2^52)):∃ r,Vw T 81 [eV x]=some (eV r)∧El r (2^52)∧fe r = -fe x:=by
 have hz:=Tt (n:=0) (by decide)
 obtain ⟨r,h1,h2,h3⟩:=Qaz hz hx
 refine ⟨r,?_,h2,?_⟩
 ·have f0:fillL (ns .u64 [0,0,0,0,0]) []=some (ns .u64 [0,0,0,0,0]):=rfl
  have hz5:Qa 5 (Value.int .u64 0)=ns .u64 [0,0,0,0,0]:=rfl
  have l1:=hx.len
  have l2:=h2.len
  have l0:(ns .u64 [0,0,0,0,0]).length=5:=rfl
  apply Ks
  apply Z4
  rw [Z5 (fn:=a64) rfl]
  simp only [a64,Z6,quiet,cF,↓pF,reduceCtorEq,Qd,Qq,Zn,V9,↓Xb,↓Xa,↓Xw,↓Xz,↓Xx,↓Xy,cL,Qp,Qo,Qz,Qy,Qv,Qn,Qm,Qx,Qe,Q5,Q6,Qw,Qk,Qj,Qi,Qu,Qt,Qs,Ql,Qh,cJ,f0,hz5,h1,Xe,Kb,Yb,Kc,Ky,l0,l1,l2,V4]
  rfl
 ·rw [h3,Ts,Go.Fp.Q4e]; grobner
def Qq5 (x y:List Nat):Ob:=⟨ns .u64 (x++y),true,true,true,1⟩
set_option maxHeartbeats 2000000 in
theorem Hw {H:List Ob} {id:Nat} {x y:List Nat} (hx:El x (2^52)) (hy:El y (2^52)) (h:H[id]?=some (Qq5 x y)):∃ r s,Vv T 68 [.slice (some ⟨id,0,none⟩) 2 2] H=some (eV r,H++[⟨ns .u64 r,true,true,true,1⟩,⟨ns .u64 s,true,true,true,1⟩,⟨ns .u64 x,true,true,true,1⟩,⟨ns .u64 y,true,true,true,1⟩],[])∧El r (2^52)∧fe r=fe x+fe y:=by
 have hid:id<H.length:=(Q1.1 h).1
 have hA:∀ l,(H++l)[id]?=some (Qq5 x y):=fun l=>by rw [Qc hid]; exact h
 obtain ⟨x0,x1,x2,x3,x4,rfl,a0,a1,a2,a3,a4⟩:=hx.five
 obtain ⟨y0,y1,y2,y3,y4,rfl,b0,b1,b2,b3,b4⟩:=hy.five
 refine ⟨Rd (x0+y0) (x1+y1) (x2+y2) (x3+y3) (x4+y4),[x0+y0,x1+y1,x2+y2,x3+y3,x4+y4],?_,Qt6 (by omega) (by omega) (by omega) (by omega) (by omega),?_⟩
 ·have s0:(0+x0)%18446744073709551616=x0:=by omega
  have s1:(0+x1)%18446744073709551616=x1:=by omega
  have s2:(0+x2)%18446744073709551616=x2:=by omega
  have s3:(0+x3)%18446744073709551616=x3:=by omega
  have s4:(0+x4)%18446744073709551616=x4:=by omega
  have q0:x0%18446744073709551616=x0:=by omega
  have q1:x1%18446744073709551616=x1:=by omega
  have q2:x2%18446744073709551616=x2:=by omega
  have q3:x3%18446744073709551616=x3:=by omega
  have q4:x4%18446744073709551616=x4:=by omega
  have t0:(x0+y0)%18446744073709551616=x0+y0:=by omega
  have t1:(x1+y1)%18446744073709551616=x1+y1:=by omega
  have t2:(x2+y2)%18446744073709551616=x2+y2:=by omega
  have t3:(x3+y3)%18446744073709551616=x3+y3:=by omega
  have t4:(x4+y4)%18446744073709551616=x4+y4:=by omega
  have c1:=T4 (x0:=x0+y0) (x1:=x1+y1) (x2:=x2+y2) (x3:=x3+y3) (x4:=x4+y4) (by omega) (by omega) (by omega) (by omega) (by omega)
  have hl:(Rd (x0+y0) (x1+y1) (x2+y2) (x3+y3) (x4+y4)).length=5:=rfl
  generalize Rd (x0+y0) (x1+y1) (x2+y2) (x3+y3) (x4+y4)=C at *
  have hz5:Qa 5 (Value.int .u64 0)=[.int .u64 0,.int .u64 0,.int .u64 0,.int .u64 0,.int .u64 0]:=rfl
  have hr5:∀ a b c d e:Int,rf (.agg [.int .u64 a,.int .u64 b,.int .u64 c,.int .u64 d,.int .u64 e].toArray)=true:=fun _ _ _ _ _=>rfl
  have u0:=fun s=>@Uv T H.length Qjx s
  have v0:=fun s=>@Jx T H.length 2 (.loop Qjx) s
  have d0:∀ s,Jv T H.length Qjx s=Jv T H.length _ s:=fun s=>congrArg (fun c=>Jv T H.length c s) Qjx.eq_1
  have u1:=fun s=>@Uv T H.length Qjw s
  have v1:=fun s=>@Jx T H.length 0 (.loop Qjw) s
  have d1:∀ s,Jv T H.length Qjw s=Jv T H.length _ s:=fun s=>congrArg (fun c=>Jv T H.length c s) Qjw.eq_1
  have hrC:rf (.agg (ns .u64 C).toArray)=true:=Qtc _ _
  have p1:∀ a b c d e f g i j k:Value,Kw 5 (Wc 0 [a,b,c,d,e,f,g,i,j,k])=[a,b,c,d,e]:=fun _ _ _ _ _ _ _ _ _ _=>rfl
  have p2:∀ a b c d e f g i j k:Value,Kw 5 (Wc 5 [a,b,c,d,e,f,g,i,j,k])=[f,g,i,j,k]:=fun _ _ _ _ _ _ _ _ _ _=>rfl
  simp only [eV,Rz,Qbq] at c1 ⊢
  simp only [Qq5,Zg,Zc,Rz,Qbq] at hA h
  rw [Z5 (fn:=a62) rfl]
  simp only [a62,Q8,Q7,Z6,quiet,cF,↓pF,reduceCtorEq,Qd,Qq,Zn,V9,↓Xb,↓Xa,↓Xw,↓Xz,↓Xx,↓Xy,cL,Qp,Qo,Qz,Qy,Qv,Qn,Qm,Qx,Qe,Q5,Q6,Qw,Qk,Qj,Qi,Qu,Qt,Qs,Ql,Qh,cJ,cU,h,hA,hz5,c1,hr5,u0,v0,d0,u1,v1,d1,p1,p2,s0,s1,s2,s3,s4,q0,q1,q2,q3,q4,t0,t1,t2,t3,t4,Ky,hl,hrC]
 ·rw [Qt5]
  have e:v51 [x0+y0,x1+y1,x2+y2,x3+y3,x4+y4]=v51 [x0,x1,x2,x3,x4]+v51 [y0,y1,y2,y3,y4]:=by
   simp only [v51,num]
   omega
  unfold fe
  rw [e,Go.Fp.H9]
theorem part5 {a b c:List Nat} {n:Nat} (hb:b.length=5) (ha:a.length=n):Kw 5 (Wc n (ns .u64 (a++(b++c))))=ns .u64 b:=by
 simp only [Qcp]
 rw [Yj (by rw [Ky]; omega),Y6 (by rw [Ky]; omega),Zc,Ya (by rw [Ky]; omega),Zj (by rw [Ky]; omega)]
theorem Qu0 {H:List Ob} {l:List Ob} {id n i:Nat} {o x r R:List Nat} {cs:List Value} {g:List Ob} (hi:i<n) (hn:n<100) (hx:El x (2^52)) (ho:El o (2^52)) (hm:Vw T 40 [eV o,eV x]=some (eV r)) (hr:El r (2^52))
  (hA:∀ l,(H++l)[id]?=some ⟨cs,true,true,true,1⟩) (hcs:(cs.drop (i*5)).take 5=ns .u64 x) (hlen:i*5+5≤cs.length) :
  Jv T H.length Qjv ⟨[(2,.pointer (some ⟨H.length,0,none⟩)),(3,.pointer (some ⟨H.length+1,0,none⟩)),(7,.slice (some ⟨id,0,none⟩) n n),(8,.int .i64 n),(9,.int .i64 i)],H++(⟨ns .u64 R,true,true,true,1⟩::⟨ns .u64 o,true,true,true,1⟩::g),[]⟩ =
   some (.normal,⟨[(2,.pointer (some ⟨H.length,0,none⟩)),(3,.pointer (some ⟨H.length+1,0,none⟩)),(7,.slice (some ⟨id,0,none⟩) n n),(8,.int .i64 n),(9,.int .i64 ((i+1:Nat):Int))],H++(⟨ns .u64 R,true,true,true,1⟩::⟨ns .u64 r,true,true,true,1⟩::(g++[⟨ns .u64 x,true,true,true,1⟩])),[]⟩):=by
 have hz5:Qa 5 (Value.int .u64 0)=ns .u64 [0,0,0,0,0]:=rfl
 have l0:(ns .u64 [0,0,0,0,0]).length=5:=rfl
 have l1:=hx.len
 have l2:=ho.len
 have l3:=hr.len
 have e1:((i:Int)<(n:Int))=True:=eq_true (by omega)
 have w3:IntKind.i64.wrap ((i:Int)+1)=((i+1:Nat):Int):=Ym (n:=i+1) (by omega)
 simp only [Qjv,Z6,quiet,cF,↓pF,reduceCtorEq,Qd,Qq,Zn,V9,↓Xb,↓Xa,↓Xw,↓Xz,↓Xx,↓Xy,cL,Qp,Qo,Qz,Qy,Qv,Qn,Qm,Qx,Qe,Q5,Q6,Qw,Qk,Qj,Qi,Qu,Qt,Qs,Ql,Qh,cJ,Vr,hz5,hA,hcs,hlen,hm,Xe,Kb,Yb,Kc,Ky,l0,l1,l2,l3,V4,e1,w3]
theorem Qdu:fe [1,0,0,0,0]=1:=by rw [Ts]; rfl
theorem Qdv:El [1,0,0,0,0] (2^52):=Tt (by decide)
theorem Rv {H:List Ob} {id n:Nat} {xs:List (List Nat)} (hn:xs.length=n) (hN:n<100) (hx:∀ x∈xs,El x (2^52)) (h:H[id]?=some ⟨ns .u64 xs.flatten,true,true,true,1⟩) :
  ∃ r,Vv T 70 [.slice (some ⟨id,0,none⟩) n n] H=some (eV r,H++(⟨ns .u64 r,true,true,true,1⟩::⟨ns .u64 r,true,true,true,1⟩::xs.map fun x=>(⟨ns .u64 x,true,true,true,1⟩:Ob)),[])∧El r (2^52)∧fe r=(xs.map fe).foldl (· * ·) 1:=by
 have hid:id<H.length:=(Q1.1 h).1
 have hA:∀ l,(H++l)[id]?=some ⟨ns .u64 xs.flatten,true,true,true,1⟩:=fun l=>by rw [Qc hid]; exact h
 have hfl:∀ (ys:List (List Nat)),(∀ x∈ys,El x (2^52))→ys.flatten.length=ys.length*5:=by
  intro ys hy
  induction ys with
  | nil=>rfl
  | cons y ys ih =>
   rw [J3,Za,ih (fun x hx=>hy x (by simp [hx])),(hy y (by simp)).len,Zx]; omega
 obtain ⟨st,hb,r,rfl,hr1,hr2⟩:=Yg (T:=T) (base:=H.length) (id:=0) (body:=Qjv)
  (fun i st=>∃ r:List Nat,st=⟨[(2,.pointer (some ⟨H.length,0,none⟩)),(3,.pointer (some ⟨H.length+1,0,none⟩)),(7,.slice (some ⟨id,0,none⟩) n n),(8,.int .i64 n),(9,.int .i64 (i:Nat))],H++(⟨ns .u64 [0,0,0,0,0],true,true,true,1⟩::⟨ns .u64 r,true,true,true,1⟩::((xs.take i).map fun x=>(⟨ns .u64 x,true,true,true,1⟩:Ob))),[]⟩∧El r (2^52)∧fe r=((xs.take i).map fe).foldl (· * ·) 1)
  (Q:=fun st=>∃ r:List Nat,st=⟨[(2,.pointer (some ⟨H.length,0,none⟩)),(3,.pointer (some ⟨H.length+1,0,none⟩)),(7,.slice (some ⟨id,0,none⟩) n n),(8,.int .i64 n),(9,.int .i64 n),(10,.bool false)],H++(⟨ns .u64 [0,0,0,0,0],true,true,true,1⟩::⟨ns .u64 r,true,true,true,1⟩::(xs.map fun x=>(⟨ns .u64 x,true,true,true,1⟩:Ob))),[]⟩∧El r (2^52)∧fe r=(xs.map fe).foldl (· * ·) 1)
  n (s:=⟨[(2,.pointer (some ⟨H.length,0,none⟩)),(3,.pointer (some ⟨H.length+1,0,none⟩)),(7,.slice (some ⟨id,0,none⟩) n n),(8,.int .i64 n),(9,.int .i64 0)],H++[⟨ns .u64 [0,0,0,0,0],true,true,true,1⟩,⟨ns .u64 [1,0,0,0,0],true,true,true,1⟩],[]⟩) ⟨[1,0,0,0,0],rfl,Qdv,Qdu⟩
  (fun i st hi hs=>by
   obtain ⟨r,rfl,hr1,hr2⟩:=hs
   obtain ⟨x,hxi⟩:∃ y,xs[i]?=some y:=⟨_,Q3 (by omega)⟩
   have hxe:=hx x (Zp hxi)
   obtain ⟨r',hm,g1,g2⟩:=Wz hr1 hxe
   have hsplit:xs=xs.take i++x::xs.drop (i+1):=by
    have h1:=Q1.1 hxi
    conv=>lhs; rw [←Yr i xs,Yx h1.1,h1.2]
   have htl:(xs.take i).flatten.length=i*5:=by
    rw [hfl _ (fun y hy=>hx y (Kr hy)),Jy,Kx (by omega)]
   have hcs:((ns .u64 xs.flatten).drop (i*5)).take 5=ns .u64 x:=by
    conv=>lhs; rw [hsplit,Vh,J3]
    exact part5 hxe.len htl
   have hb:=Qu0 (R:=[0,0,0,0,0]) (g:=(xs.take i).map fun x=>(⟨ns .u64 x,true,true,true,1⟩:Ob)) (l:=[]) hi hN hxe hr1 hm g1 hA hcs (by rw [Ky,hfl xs hx,hn]; omega)
   have htk:xs.take (i+1)=xs.take i++[x]:=by rw [V3,hxi]; rfl
   refine ⟨_,hb,r',?_,g1,?_⟩
   ·rw [htk,By]; rfl
   ·rw [htk,By,List.foldl_append,←hr2,g2]; rfl)
  (fun st hs=>by
   obtain ⟨r,rfl,hr1,hr2⟩:=hs
   have e1:((n:Int)<(n:Int))=False:=eq_false (by omega)
   have ht:xs.take n=xs:=Zj (by omega)
   rw [ht] at hr2 ⊢
   refine ⟨_,?_,r,rfl,hr1,hr2⟩
   simp only [Qjv,Z6,quiet,cF,↓pF,reduceCtorEq,Qd,Qq,Zn,V9,↓Xb,↓Xa,↓Xw,↓Xz,↓Xx,↓Xy,cL,Qp,Qo,Qz,Qy,Qv,Qn,Qm,Qx,Qe,Q5,Q6,Qw,Qk,Qj,Qi,Qu,Qt,Qs,Ql,Qh,e1])
 refine ⟨r,?_,hr1,hr2⟩
 have hz5:Qa 5 (Value.int .u64 0)=ns .u64 [0,0,0,0,0]:=rfl
 have l0:(ns .u64 [0,0,0,0,0]).length=5:=rfl
 have l1:=hr1.len
 have hs:=Qcf (n:=1) (by decide)
 have l2:([1,0,0,0,0]:List Nat).length=5:=rfl
 simp only [Qsy] at hs
 rw [Z5 (fn:=a82) rfl]
 simp only [a82,Z6,quiet,cF,↓pF,reduceCtorEq,Qd,Qq,Zn,V9,↓Xb,↓Xa,↓Xw,↓Xz,↓Xx,↓Xy,cL,Qp,Qo,Qz,Qy,Qv,Qn,Qm,Qx,Qe,Q5,Q6,Qw,Qk,Qj,Qi,Qu,Qt,Qs,Ql,Qh,cJ,Vr,hz5,hs,hb,Xe,Kb,Yb,Kc,Ky,l0,l1,l2,V4]
def pwI (x k o:List Nat) (i:Int) (ex:Env):St:=⟨[(2,.pointer (some ⟨0,0,none⟩)),(3,.pointer (some ⟨1,0,none⟩)),(4,.pointer (some ⟨2,0,none⟩)),(5,.pointer (some ⟨3,0,none⟩)),(6,.int .i64 i)]++ex,[⟨ns .u64 x,true,true,true,1⟩,⟨u8s k,true,true,true,1⟩,⟨ns .u64 [0,0,0,0,0],true,true,true,1⟩,⟨ns .u64 o,true,true,true,1⟩],[]⟩
theorem Qyq (a:Go.Fp.Fe) (m b:Nat) (hb:b<2):Go.Fp.pow a (2*m+b)=if b=1 then Go.Fp.pow a m*Go.Fp.pow a m*a else Go.Fp.pow a m*Go.Fp.pow a m:=by
 have h1:Go.Fp.pow a (2*m)=Go.Fp.pow a m*Go.Fp.pow a m:=by rw [show 2*m=m+m by omega,Go.Fp.pow_add]
 by_cases h:b=1
 ·subst h
  rw [if_pos rfl,Go.Fp.pow,h1]
 ·have:b=0:=by omega
  subst this
  rw [if_neg (by decide),Jk,h1]
theorem Q2o {x k o:List Nat} {i:Nat} {ex:Env} (hx:El x (2^52)) (lk:k.length=32) (xk:∀ x∈k,x<256) (hi:i<256) (ho:El o (2^52)) (hp:fe o=Go.Fp.pow (fe x) (num 256 k/2^(i+1))) :
  ∃ r,Jv T 0 Qgo (pwI x k o i ex)=some (.normal,pwI x k r ((i:Int)-1) [])∧El r (2^52)∧fe r=Go.Fp.pow (fe x) (num 256 k/2^i):=by
 obtain ⟨b,hb⟩:∃ b,k[i/8]?=some b:=⟨_,Q3 (by omega)⟩
 have hbv:=Dz (B:=256) (by decide) xk hb
 have hbc:=Uk hb
 have hbit:b/2^(i%8)%2=num 256 k/2^i%2:=by
  rw [←hbv,show (256:Nat)=2^8 from rfl,Qqj (Jw _ (by decide)),Yi]
 obtain ⟨r1,m1,g1,g2⟩:=Wz ho ho
 obtain ⟨r2,m2,g3,g4⟩:=Wz g1 hx
 have hlt:=Qgn (num 256 k) i
 have hnum:num 256 k/2^i=2*(num 256 k/2^(i+1))+num 256 k/2^i%2:=by
  rw [V0,←Yu]
  omega
 have hstep:=Qyq (fe x) (num 256 k/2^(i+1)) (num 256 k/2^i%2) hlt
 rw [←hnum,←hp] at hstep
 have s1:(2:Int)^min (i%8) IntKind.u8.bits=((2^(i%8):Nat):Int):=Qaj (Um (Jw _ (by decide)))
 have w2:IntKind.i64.wrap ((i/8:Nat):Int)=((i/8:Nat):Int):=Ym (by omega)
 have w3:IntKind.i64.wrap ((i:Int)-1)=(i:Int)-1:=Yd (by omega) (by omega)
 have e1:((0:Int)≤(i:Int))=True:=eq_true (by omega)
 have e3:(((i/8:Nat):Int)<32)=True:=eq_true (by omega)
 have e4:(((i%8:Nat):Int)<0)=False:=eq_false (by omega)
 have l1:=hx.len
 have l2:=ho.len
 have l3:=g1.len
 have l4:=g3.len
 have l0:([0,0,0,0,0]:List Nat).length=5:=rfl
 generalize hB:num 256 k/2^i%2=B at *
 by_cases hB1:B=1
 ·have hbq:((B:Int)==1)=true:=by rw [hB1]; rfl
  rw [if_pos hB1] at hstep
  refine ⟨r2,?_,g3,by rw [hstep,g4,g2]⟩
  simp only [pwI,Qgo,Z6,quiet,cF,↓pF,reduceCtorEq,Qd,Qq,Zn,V9,↓Xb,↓Xa,↓Xw,↓Xz,↓Xx,↓Xy,cL,Qp,Qo,Qz,Qy,Qv,Qn,Qm,Qx,Qe,Q5,Q6,Qw,Qk,Qj,Qi,Qu,Qt,Qs,Ql,Qh,cJ,cU,hbc,hbit,s1,w2,w3,e1,e3,e4,m1,m2,hbq,Xe,Kb,Yb,Kc,Ky,l1,l2,l3,l4,V4]
 ·have hbq:((B:Int)==1)=false:=by
   have:B=0:=by omega
   rw [this]; rfl
  rw [if_neg hB1] at hstep
  refine ⟨r1,?_,g1,by rw [hstep,g2]⟩
  simp only [pwI,Qgo,Z6,quiet,cF,↓pF,reduceCtorEq,Qd,Qq,Zn,V9,↓Xb,↓Xa,↓Xw,↓Xz,↓Xx,↓Xy,cL,Qp,Qo,Qz,Qy,Qv,Qn,Qm,Qx,Qe,Q5,Q6,Qw,Qk,Qj,Qi,Qu,Qt,Qs,Ql,Qh,cJ,cU,hbc,hbit,s1,w2,w3,e1,e3,e4,m1,m2,hbq,Xe,Kb,Yb,Kc,Ky,l1,l2,l3,l4,V4]
theorem Q2p {x k:List Nat} (hx:El x (2^52)) (lk:k.length=32) (xk:∀ x∈k,x<256):∃ r,Vw T 76 [eV x,.agg (u8s k).toArray]=some (eV r)∧El r (2^52)∧fe r=Go.Fp.pow (fe x) (num 256 k):=by
 have hK:=num_lt xk
 rw [lk,show (256:Nat)^32=2^256 from by rw [show (256:Nat)=2^8 from rfl,←Y0]] at hK
 obtain ⟨st,hb,r,rfl,hr1,hr2⟩:=Yg (T:=T) (base:=0) (id:=0) (body:=Qgo)
  (fun j st=>∃ r:List Nat,st=pwI x k r ((255:Int)-j) []∧El r (2^52)∧fe r=Go.Fp.pow (fe x) (num 256 k/2^(256-j)))
  (Q:=fun st=>∃ r:List Nat,st=pwI x k r (-1) [(9,.bool false)]∧El r (2^52)∧fe r=Go.Fp.pow (fe x) (num 256 k))
  256 (s:=pwI x k [1,0,0,0,0] 255 []) ⟨_,rfl,Qdv,by rw [Qdu,X7,Un hK]; rfl⟩
  (fun j st hj hs=>by
   obtain ⟨r,rfl,h1,h2⟩:=hs
   obtain ⟨i,hi⟩:∃ i,256-j=i+1:=⟨255-j,by omega⟩
   rw [hi] at h2
   obtain ⟨r',g1,g2,g3⟩:=Q2o (ex:=[]) hx lk xk (i:=i) (by omega) h1 h2
   rw [show (255:Int)-j=(i:Int) by omega]
   refine ⟨_,g1,r',?_,g2,?_⟩
   ·rw [show (255:Int)-((j+1:Nat):Int)=(i:Int)-1 by omega]
   ·rw [show 256-(j+1)=i by omega]; exact g3)
  (fun st hs=>by
   obtain ⟨r,rfl,h1,h2⟩:=hs
   rw [Jc,Ug,U8] at h2
   have e:((0:Int) ≤ -1)=False:=by decide
   refine ⟨_,?_,r,rfl,h1,h2⟩
   rw [show (255:Int)-((256:Nat):Int) = -1 by omega]
   simp only [pwI,Qgo,Z6,quiet,cF,↓pF,reduceCtorEq,Qd,Qq,Zn,V9,↓Xb,↓Xa,↓Xw,↓Xz,↓Xx,↓Xy,cL,Qp,Qo,Qz,Qy,Qv,Qn,Qm,Qx,Qe,Q5,Q6,Qw,Qk,Qj,Qi,Qu,Qt,Qs,Ql,Qh,e])
 refine ⟨r,?_,hr1,hr2⟩
 have hz5:Qa 5 (Value.int .u64 0)=ns .u64 [0,0,0,0,0]:=rfl
 have hs:=Qcf (n:=1) (by decide)
 have l2:([1,0,0,0,0]:List Nat).length=5:=rfl
 have l0:([0,0,0,0,0]:List Nat).length=5:=rfl
 have l1:=hx.len
 have l3:=hr1.len
 simp only [Qsy] at hs
 simp only [pwI,Zg,Zc] at hb
 apply Ks
 apply Z4
 rw [Z5 (fn:=a83) rfl]
 simp only [a83,Z6,quiet,cF,↓pF,reduceCtorEq,Qd,Qq,Zn,V9,↓Xb,↓Xa,↓Xw,↓Xz,↓Xx,↓Xy,cL,Qp,Qo,Qz,Qy,Qv,Qn,Qm,Qx,Qe,Q5,Q6,Qw,Qk,Qj,Qi,Qu,Qt,Qs,Ql,Qh,cJ,hz5,hs,hb,pwI,Xe,Kb,Yb,Kc,Ky,l0,l1,l2,l3,V4]
 rfl
def onX (i:Nat):List Nat:=dig (2^8) 32 (2^i-1)
def onI (less:Value) (n:Int) (k:List Nat) (i:Nat) (ex:Env):St:=⟨[(1,less),(4,.pointer (some ⟨0,0,none⟩)),(5,.pointer (some ⟨1,0,none⟩)),(7,.int .i64 n),(8,.int .i64 i)]++ex,[⟨u8s (dig 256 32 0),true,true,true,1⟩,⟨u8s k,true,true,true,1⟩],[]⟩
theorem Q27 {less:Value} {n i:Nat} (hn:n≤256) (hi:i<n):Jv T 0 Qju (onI less n (onX i) i [])=some (.normal,onI less n (onX (i+1)) (i+1) []):=by
 have hlen:(onX i).length=32:=Vs _ _ _
 obtain ⟨y,hy⟩:∃ b,(onX i)[i/8]?=some b:=⟨_,Q3 (by omega)⟩
 have hyc:=Uk hy
 have hy':y<2^8:=Hd (by decide) (Zp hy)
 have hsm:(2:Nat)^(i%8)≤2^7:=Vl (by decide) (by have:=Jw i (by decide:0<8); omega)
 have hp:0<(2:Nat)^i:=Ud (by decide)
 have hput:=Qhu (w:=8) (m:=32) (q:=i/8) (s:=i%8) (y:=1) (M:=2^i-1) (by omega) (Jw _ (by decide)) (by rw [Yi]; omega) (by omega)
 rw [Yi,show 2^i-1+1*2^i=2^(i+1)-1 by rw [V0]; omega] at hput
 have hgd:(dig (2^8) 32 (2^i-1)).getD (i/8) 0=y:=by rw [Jh]; unfold onX at hy; rw [hy]; rfl
 rw [hgd,U7] at hput
 have hset:=Hg (onX i) (i/8) (y|||2^(i%8))
 rw [show (onX i).set (i/8) (y|||2^(i%8))=onX (i+1) from hput] at hset
 have s1:(2:Int)^min (i%8) IntKind.u8.bits=((2^(i%8):Nat):Int):=Qaj (Um (Jw _ (by decide)))
 have o1:Vo .or .u8 (y:Int) ((2^(i%8):Nat):Int)=((y|||2^(i%8):Nat):Int):=Hl rfl (by show _<256; omega) (by show _<256; omega)
 have n1:(2^(i%8))%256=2^(i%8):=Jd (Be hsm (by decide))
 have w2:IntKind.i64.wrap ((i/8:Nat):Int)=((i/8:Nat):Int):=Ym (by omega)
 have w3:IntKind.i64.wrap ((i+1:Nat):Int)=((i+1:Nat):Int):=Ym (by omega)
 have e1:((i:Int)<(n:Int))=True:=eq_true (by omega)
 have e3:(((i/8:Nat):Int)<32)=True:=eq_true (by omega)
 have e4:(((i%8:Nat):Int)<0)=False:=eq_false (by omega)
 have e6:i/8+1≤32:=by omega
 have p1:1*2^(i%8)=2^(i%8):=U7 _
 simp only [onI,Qju,Z6,quiet,cF,↓pF,reduceCtorEq,Qd,Qq,Zn,V9,↓Xb,↓Xa,↓Xw,↓Xz,↓Xx,↓Xy,cL,Qp,Qo,Qz,Qy,Qv,Qn,Qm,Qx,Qe,Q5,Q6,Qw,Qk,Qj,Qi,Qu,Qt,Qs,Ql,Qh,cJ,cU,hyc,s1,o1,n1,w2,w3,e1,e3,e4,e6,p1,hset,Zv,hlen]
theorem Qrp {n less:Nat} (hn:n≤256) (h8:8≤n) (hl:less<256):Vw T 77 [.int .i64 n,.int .u8 less]=some (.agg (u8s (dig 256 32 (2^n-1-less))).toArray):=by
 have hb:=Ub (T:=T) (base:=0) (id:=0) (body:=Qju) (fun i=>onI (.int .u8 less) n (onX i) i []) (s':=onI (.int .u8 less) n (onX n) n [(9,.bool false)]) n (fun i hi=>Q27 hn hi) (by
  have e1:((n:Int)<(n:Int))=False:=eq_false (by omega)
  simp only [onI,Qju,Z6,quiet,cF,↓pF,reduceCtorEq,Qd,Qq,Zn,V9,↓Xb,↓Xa,↓Xw,↓Xz,↓Xx,↓Xy,cL,Qp,Qo,Qz,Qy,Qv,Qn,Qm,Qx,Qe,Q5,Q6,Qw,Qk,Qj,Qi,Qu,Qt,Qs,Ql,Qh,e1])
 rw [show onX 0=dig 256 32 0 from rfl] at hb
 have hp8:(256:Nat)≤2^n:=by
  have:=Vl (n:=2) (by decide) h8
  exact this
 have hmod:2^n%256=0:=by
  rw [show n=8+(n-8) by omega,Ww]; exact Nat.mul_mod_right _ _
 have h0:(onX n)[0]?=some 255:=by
  unfold onX
  rw [Dl (by decide),Ug,U8]
  congr 1
  omega
 have h0c:=Uk h0
 have w0:IntKind.u8.wrap (255-(less:Int))=((255-less:Nat):Int):=by rw [wrap_u8]; omega
 have hset:=Hg (onX n) 0 (255-less)
 have hfin:(onX n).set 0 (255-less)=dig 256 32 (2^n-1-less):=by
  apply Qcx (by rw [Jp]; exact Vs _ _ _)
  intro t ht
  by_cases h0t:t=0
  ·subst h0t
   rw [Jl (by rw [show (onX n).length=32 from Vs _ _ _]; decide),Ug,U8]
   congr 1
   omega
  ·rw [Z7 (Ne.symm h0t)]
   unfold onX
   rw [Dl ht]
   congr 2
   obtain ⟨m,rfl⟩:∃ m,t=m+1:=⟨t-1,by omega⟩
   rw [show (2:Nat)^8=256 from rfl,V0,Vt,←Yu,←Yu]
   congr 1
   omega
 rw [hfin] at hset
 simp only [Qba] at h0c
 have l1:(dig 256 32 (2^n-1-less)).length=32:=Vs _ _ _
 have l2:(onX n).length=32:=Vs _ _ _
 have l3:(dig 256 32 0).length=32:=rfl
 have hz32:Qa 32 (Value.int .u8 0)=u8s (dig 256 32 0):=rfl
 simp only [onI,Zg,Zc,Vx] at hb
 apply Ks
 apply Z4
 rw [Z5 (fn:=a84) rfl]
 simp only [a84,Z6,quiet,cF,↓pF,reduceCtorEq,Qd,Qq,Zn,V9,↓Xb,↓Xa,↓Xw,↓Xz,↓Xx,↓Xy,cL,Qp,Qo,Qz,Qy,Qv,Qn,Qm,Qx,Qe,Q5,Q6,Qw,Qk,Qj,Qi,Qu,Qt,Qs,Ql,Qh,cJ,hz32,hb,onI,h0c,w0,hset,Zv,l1,l2,l3]
 rfl
theorem D5 {v:Nat}:∀ x∈dig 256 32 v,x<256:=fun _ h=>Hd (by decide) h
theorem Qdr {x:List Nat} {n less:Nat} (hx:El x (2^52)) (hn:n≤256) (h8:8≤n) (hl:less<256):∃ r,Vw T 76 [eV x,.agg (u8s (dig 256 32 (2^n-1-less))).toArray]=some (eV r)∧El r (2^52)∧fe r=Go.Fp.pow (fe x) (2^n-1-less):=by
 obtain ⟨r,h1,h2,h3⟩:=Q2p (k:=dig 256 32 (2^n-1-less)) hx (Vs _ _ _) D5
 refine ⟨r,h1,h2,?_⟩
 rw [h3,Bb (by decide),Jd]
 have h4:(2:Nat)^n≤256^32:=by
  rw [show (256:Nat)^32=2^256 from by rw [show (256:Nat)=2^8 from rfl,←Y0]]
  exact Vl (by decide) hn
 have:0<(2:Nat)^n:=Ud (by decide)
 omega
theorem Qpl {x:List Nat} (hx:El x (2^52)):∃ r,Vw T 41 [eV x]=some (eV r)∧El r (2^52)∧fe r=Go.Fp.iv (fe x):=by
 have h1:=Qrp (n:=255) (less:=20) (by decide) (by decide) (by decide)
 obtain ⟨r,h2,h3,h4⟩:=Qdr (n:=255) (less:=20) hx (by decide) (by decide) (by decide)
 refine ⟨r,?_,h3,?_⟩
 ·have hz5:Qa 5 (Value.int .u64 0)=ns .u64 [0,0,0,0,0]:=rfl
  have l0:([0,0,0,0,0]:List Nat).length=5:=rfl
  have l1:=hx.len
  have l2:=h3.len
  simp only [Qba] at h1
  generalize dig 256 32 (2^255-1-20)=K at *
  apply Ks
  apply Z4
  rw [Z5 (fn:=a56) rfl]
  simp only [a56,Z6,quiet,cF,↓pF,reduceCtorEq,Qd,Qq,Zn,V9,↓Xb,↓Xa,↓Xw,↓Xz,↓Xx,↓Xy,cL,Qp,Qo,Qz,Qy,Qv,Qn,Qm,Qx,Qe,Q5,Q6,Qw,Qk,Qj,Qi,Qu,Qt,Qs,Ql,Qh,cJ,hz5,h1,h2,Xe,Kb,Yb,Kc,Ky,l0,l1,l2,V4]
  rfl
 ·rw [h4]
  unfold Go.Fp.iv
  rw [Go.Fp.Qb7]
end Go.Ev.Ytpgphpkjlpkcbaa
namespace Go.Ev
section
variable {T:Tab} {b:Nat}
theorem Qas:∀ (o1 o2:List AOper) (s:St) (recs:List Rec),evOps T b (o1++o2) s recs=(evOps T b o1 s recs).bind fun r=>evOps T b o2 r.1 r.2
 | [],o2,s,recs=>by rw [Ve]; rfl
 | o::o1,o2,s,recs=>by
  rw [Zg,Kh,Kh]
  cases hg:guardOf s.env o.guard with
  | none=>rfl
  | some g =>
   cases g with
   | false=>exact Qas o1 o2 _ _
   | true =>
    cases hx:Yw T o.op s.env s.h with
    | none=>simp [hx]
    | some x =>
     simp only [hx,Q4]
     exact Qas o1 o2 _ _
theorem Qdy:∀ (ops:List AOper) (s:St) (recs:List Rec) (s':St),steps T b false ops s=some s'→∃ m,evOps T b ops s recs=some (s',recs++m)
 | [],s,recs,s',h=>by
  simp only [steps,Zb] at h
  subst h
  exact ⟨[],by rw [Ve,Jj]⟩
 | o::r,s,recs,s',h=>by
  rw [Kh]
  unfold steps at h
  cases hg:guardOf s.env o.guard with
  | none=>simp only [hg] at h; cases h
  | some g =>
   simp only [hg] at h
   cases g with
   | false =>
    obtain ⟨m,h1⟩:=Qdy r _ (recs++[(some [],[])]) s' h
    exact ⟨(some [],[])::m,by rw [h1]; simp⟩
   | true =>
    cases hx:Yw T o.op s.env s.h with
    | none=>simp [hx] at h
    | some x =>
     simp only [hx,Q4,Qhk,Z2,if_false] at h
     obtain ⟨m,h1⟩:=Qdy r _ (recs++[(x.2.2.1,x.2.2.2)]) s' h
     exact ⟨(x.2.2.1,x.2.2.2)::m,by simp only [hx,Q4]; rw [h1]; simp⟩
theorem Qgy {r1 r2:List Rec}:∀ {pairs:List (Nat×Nat)},(pairs.all fun p=>decide (p.1<r1.length)&&decide (p.2<r1.length))=true→V2 r1 pairs=true→V2 (r1++r2) pairs=true
 | [],_,_=>rfl
 | (i,j)::ps,h,k=>by
  simp only [Xc,Yk,decide_eq_true_eq] at h
  simp only [V2,Xc,Yk] at k ⊢
  have ih:=Qgy (r1:=r1) (r2:=r2) (pairs:=ps) h.2 k.2
  simp only [V2] at ih
  refine ⟨?_,ih⟩
  rw [Qc h.1.1,Qc h.1.2]
  exact k.1
def Ha:List (Nat×Nat)→Nat
 | []=>0
 | (_,j)::r=>if j+1≤Ha r then Ha r else j+1
theorem Zh:Ha []=0:=rfl
theorem Ze {i j:Nat} {r:List (Nat×Nat)}:Ha ((i,j)::r)=if j+1≤Ha r then Ha r else j+1:=rfl
def Qms (T:Tab) (b:Nat) (ops:List AOper) (pairs:List (Nat×Nat)) (s:St):Option St :=
 gate ((pairs.all fun p=>decide (p.1<Ha pairs)&&decide (p.2<Ha pairs))=true∧Ha pairs≤ops.length)
  ((steps T b true (ops.take (Ha pairs)) s).bind fun s1=>steps T b false (ops.drop (Ha pairs)) s1)
theorem Zm {ops:List AOper} {pairs:List (Nat×Nat)} {s:St}:Qms T b ops pairs s=gate ((pairs.all fun p=>decide (p.1<Ha pairs)&&decide (p.2<Ha pairs))=true∧Ha pairs≤ops.length)
  ((steps T b true (ops.take (Ha pairs)) s).bind fun s1=>steps T b false (ops.drop (Ha pairs)) s1):=Eq.trans rfl rfl
theorem Zi {ops:List AOper} {keep:Option (List Nat)} {p:Nat×Nat} {ps:List (Nat×Nat)} {s:St}:Jv T b (.region ops keep (p::ps)) s=Qef ((Qms T b ops (p::ps) s).bind fun s'=>some (.normal,s'.after keep)) (Qbv T b (.region ops keep (p::ps)) s):=by
 cases hq:Qms T b ops (p::ps) s with
 | none=>rfl
 | some s' =>
  simp only [Q4,Qef]
  unfold Qms gate at hq
  split at hq
  ·rename_i hp
   simp only [Qb] at hq
   obtain ⟨s1,k1,k2⟩:=hq
   obtain ⟨recs,h1,h2,h3⟩:=R2 _ s [] s1 k1 (by simp)
   obtain ⟨m,h4⟩:=Qdy _ s1 recs s' k2
   simp only [Z3,Zz,Jy,Kx hp.2] at h3
   rw [J2]
   conv=>lhs; rw [←Yr (Ha (p::ps)) ops]
   rw [Qas,h1]
   simp only [Q4,h4]
   have hpk:=hp.1
   rw [←h3] at hpk
   rw [if_pos (Qgy hpk (Tf h2 hpk))]
  ·cases hq
end
end Go.Ev
namespace Go.Ev.Ytpgphpkjlpkcbaa
open Go Go.Ev
attribute [local congr] Wp W0 Wo W3 Wh
set_option maxRecDepth 100000
theorem Xo {cs:List Value} {n:Nat} (h:cs.length=n):cs.take n=cs:=Zj (by omega)
def pL (x y z t:List Nat):List Nat:=x++(y++(z++t))
def pV (x y z t:List Nat):Value := .agg (ns .u64 (pL x y z t)).toArray
theorem Q5w (x y z t:List Nat):rf (pV x y z t)=true:=Qtc _ _
theorem Qor (x y z t:List Nat):(pV x y z t).cells.toList=ns .u64 (pL x y z t):=rfl
theorem Qtj (x y z t:List Nat):(pV x y z t).cells.size=(pL x y z t).length:=Ky _ _
theorem Q5z (x y z t:List Nat):okVar (pV x y z t)=true:=rfl
theorem Qtk (x y z t:List Nat):Value.agg (ns .u64 (pL x y z t)).toArray=pV x y z t:=rfl
theorem Di {x y z t:List Nat} {b:Nat} (hx:El x b) (hy:El y b) (hz:El z b) (ht:El t b):(pL x y z t).length=20:=by
 simp [pL,hx.len,hy.len,hz.len,ht.len]
theorem Qrd {x y z t:List Nat} {b:Nat} (hx:El x b) (hy:El y b) (hz:El z b) (ht:El t b) :
  Kw 5 (ns .u64 (pL x y z t))=ns .u64 x∧Kw 5 (Wc 5 (ns .u64 (pL x y z t)))=ns .u64 y∧Kw 5 (Wc 10 (ns .u64 (pL x y z t)))=ns .u64 z∧Kw 5 (Wc 15 (ns .u64 (pL x y z t)))=ns .u64 t:=by
 obtain ⟨a0,a1,a2,a3,a4,rfl,-⟩:=hx.five
 obtain ⟨b0,b1,b2,b3,b4,rfl,-⟩:=hy.five
 obtain ⟨c0,c1,c2,c3,c4,rfl,-⟩:=hz.five
 obtain ⟨d0,d1,d2,d3,d4,rfl,-⟩:=ht.five
 exact ⟨rfl,rfl,rfl,rfl⟩
theorem Rb {a b:List Nat} {k:Nat} (ha:El a k) (hb:El b k):fillL (Qa 10 (Value.int .u64 0)) [(0,5,eV a),(5,5,eV b)]=some (ns .u64 (a++b)):=by
 obtain ⟨a0,a1,a2,a3,a4,rfl,-⟩:=ha.five
 obtain ⟨b0,b1,b2,b3,b4,rfl,-⟩:=hb.five
 rfl
theorem Ql0 {a b c:List Nat} {k:Nat} (ha:El a k) (hb:El b k) (hc:El c k):fillL (Qa 15 (Value.int .u64 0)) [(0,5,eV a),(5,5,eV b),(10,5,eV c)]=some (ns .u64 [a,b,c].flatten):=by
 obtain ⟨a0,a1,a2,a3,a4,rfl,-⟩:=ha.five
 obtain ⟨b0,b1,b2,b3,b4,rfl,-⟩:=hb.five
 obtain ⟨c0,c1,c2,c3,c4,rfl,-⟩:=hc.five
 rfl
theorem Qg5 {a b c d:List Nat} {k:Nat} (ha:El a k) (hb:El b k) (hc:El c k) (hd:El d k):fillL (Qa 20 (Value.int .u64 0)) [(0,5,eV a),(5,5,eV b),(10,5,eV c),(15,5,eV d)]=some (ns .u64 (pL a b c d)):=by
 obtain ⟨a0,a1,a2,a3,a4,rfl,-⟩:=ha.five
 obtain ⟨b0,b1,b2,b3,b4,rfl,-⟩:=hb.five
 obtain ⟨c0,c1,c2,c3,c4,rfl,-⟩:=hc.five
 obtain ⟨d0,d1,d2,d3,d4,rfl,-⟩:=hd.five
 rfl
theorem Qtl (a b c d:List Nat):pL a b c d=[a,b,c,d].flatten:=by simp [pL]
theorem Qxo:El [2,0,0,0,0] (2^52):=Tt (by decide)
theorem Qxl:Vw T 37 [.int .u32 2]=some (eV [2,0,0,0,0]):=Qcf (n:=2) (by decide)
theorem Qq4:fe [2,0,0,0,0]=2:=by rw [Ts]; rfl
theorem Q6v {x1 y1 z1 t1 x2 y2 z2 t2 d:List Nat} (Ex1:El x1 (2^52)) (Ey1:El y1 (2^52)) (Ez1:El z1 (2^52)) (Et1:El t1 (2^52)) (Ex2:El x2 (2^52)) (Ey2:El y2 (2^52)) (Ez2:El z2 (2^52)) (Et2:El t2 (2^52)) (Ed:El d (2^52)) :
  ∃ x y z t,Vw T 54 [pV x1 y1 z1 t1,pV x2 y2 z2 t2,eV d]=some (pV x y z t)∧El x (2^52)∧El y (2^52)∧El z (2^52)∧El t (2^52) ∧
   ∃ a b c e:Go.Fp.Fe,a=(fe y1-fe x1)*(fe y2-fe x2)∧b=(fe y1+fe x1)*(fe y2+fe x2)∧c=1*2*fe d*fe t1*fe t2∧e=1*2*fe z1*fe z2 ∧
    fe x=(b-a)*(e-c)∧fe y=(e+c)*(b+a)∧fe z=(e-c)*(e+c)∧fe t=(b-a)*(b+a):=by
 obtain ⟨two,htwo⟩:∃ two:List Nat,two=[2,0,0,0,0]:=⟨_,rfl⟩
 have Etwo:El two (2^52):=by rw [htwo]; exact Qxo
 have vtwo:Vw T 37 [.int .u32 2]=some (eV two):=by rw [htwo]; exact Qxl
 have ftwo:fe two=2:=by rw [htwo]; exact Qq4
 clear htwo
 obtain ⟨r1,hr1,Er1,fr1⟩:=Qaz Ey1 Ex1
 obtain ⟨r2,hr2,Er2,fr2⟩:=Qaz Ey2 Ex2
 obtain ⟨r3,hr3,Er3,fr3⟩:=Wz Er1 Er2
 obtain ⟨r4,sr4,hr4,Er4,fr4⟩:=Hw (H:=[⟨ns .u64 (pL x1 y1 z1 t1),true,true,true,1⟩,⟨ns .u64 (pL x2 y2 z2 t2),true,true,true,1⟩,⟨ns .u64 d,true,true,true,1⟩,⟨Qa 20 (.int .u64 0),true,true,true,1⟩,⟨ns .u64 r3,true,true,true,1⟩,⟨ns .u64 (y1++x1),true,true,true,1⟩]) (id:=5) Ey1 Ex1 rfl
 simp only [Zg,Zc] at hr4
 obtain ⟨r5,sr5,hr5,Er5,fr5⟩:=Hw (H:=[⟨ns .u64 (pL x1 y1 z1 t1),true,true,true,1⟩,⟨ns .u64 (pL x2 y2 z2 t2),true,true,true,1⟩,⟨ns .u64 d,true,true,true,1⟩,⟨Qa 20 (.int .u64 0),true,true,true,1⟩,⟨ns .u64 r3,true,true,true,1⟩,⟨ns .u64 (y1++x1),true,true,true,1⟩,⟨ns .u64 r4,true,true,true,1⟩,⟨ns .u64 sr4,true,true,true,1⟩,⟨ns .u64 y1,true,true,true,1⟩,⟨ns .u64 x1,true,true,true,1⟩,⟨ns .u64 (y2++x2),true,true,true,1⟩]) (id:=10) Ey2 Ex2 rfl
 simp only [Zg,Zc] at hr5
 obtain ⟨r6,hr6,Er6,fr6⟩:=Wz Er4 Er5
 obtain ⟨r7,hr7,Er7,fr7⟩:=Rv (H:=[⟨ns .u64 (pL x1 y1 z1 t1),true,true,true,1⟩,⟨ns .u64 (pL x2 y2 z2 t2),true,true,true,1⟩,⟨ns .u64 d,true,true,true,1⟩,⟨Qa 20 (.int .u64 0),true,true,true,1⟩,⟨ns .u64 r3,true,true,true,1⟩,⟨ns .u64 (y1++x1),true,true,true,1⟩,⟨ns .u64 r4,true,true,true,1⟩,⟨ns .u64 sr4,true,true,true,1⟩,⟨ns .u64 y1,true,true,true,1⟩,⟨ns .u64 x1,true,true,true,1⟩,⟨ns .u64 (y2++x2),true,true,true,1⟩,⟨ns .u64 r5,true,true,true,1⟩,⟨ns .u64 sr5,true,true,true,1⟩,⟨ns .u64 y2,true,true,true,1⟩,⟨ns .u64 x2,true,true,true,1⟩,⟨ns .u64 r6,true,true,true,1⟩,⟨ns .u64 [two,d,t1,t2].flatten,true,true,true,1⟩]) (id:=16) (n:=4) (xs:=[two,d,t1,t2]) rfl (by decide) (by intro w hw; simp only [Yt,Wb,or_false] at hw; rcases hw with rfl | rfl | rfl | rfl<;>assumption) rfl
 simp only [Zg,Zc,Wi,W8,Ui,Gv] at hr7 fr7
 obtain ⟨r8,hr8,Er8,fr8⟩:=Rv (H:=[⟨ns .u64 (pL x1 y1 z1 t1),true,true,true,1⟩,⟨ns .u64 (pL x2 y2 z2 t2),true,true,true,1⟩,⟨ns .u64 d,true,true,true,1⟩,⟨Qa 20 (.int .u64 0),true,true,true,1⟩,⟨ns .u64 r3,true,true,true,1⟩,⟨ns .u64 (y1++x1),true,true,true,1⟩,⟨ns .u64 r4,true,true,true,1⟩,⟨ns .u64 sr4,true,true,true,1⟩,⟨ns .u64 y1,true,true,true,1⟩,⟨ns .u64 x1,true,true,true,1⟩,⟨ns .u64 (y2++x2),true,true,true,1⟩,⟨ns .u64 r5,true,true,true,1⟩,⟨ns .u64 sr5,true,true,true,1⟩,⟨ns .u64 y2,true,true,true,1⟩,⟨ns .u64 x2,true,true,true,1⟩,⟨ns .u64 r6,true,true,true,1⟩,⟨ns .u64 [two,d,t1,t2].flatten,true,true,true,1⟩,⟨ns .u64 r7,true,true,true,1⟩,⟨ns .u64 r7,true,true,true,1⟩,⟨ns .u64 two,true,true,true,1⟩,⟨ns .u64 d,true,true,true,1⟩,⟨ns .u64 t1,true,true,true,1⟩,⟨ns .u64 t2,true,true,true,1⟩,⟨ns .u64 r7,true,true,true,1⟩,⟨ns .u64 [two,z1,z2].flatten,true,true,true,1⟩]) (id:=24) (n:=3) (xs:=[two,z1,z2]) rfl (by decide) (by intro w hw; simp only [Yt,Wb,or_false] at hw; rcases hw with rfl | rfl | rfl<;>assumption) rfl
 simp only [Zg,Zc,Wi,W8,Ui,Gv] at hr8 fr8
 obtain ⟨r9,hr9,Er9,fr9⟩:=Qaz Er6 Er3
 obtain ⟨r10,hr10,Er10,fr10⟩:=Qaz Er8 Er7
 obtain ⟨r11,sr11,hr11,Er11,fr11⟩:=Hw (H:=[⟨ns .u64 (pL x1 y1 z1 t1),true,true,true,1⟩,⟨ns .u64 (pL x2 y2 z2 t2),true,true,true,1⟩,⟨ns .u64 d,true,true,true,1⟩,⟨Qa 20 (.int .u64 0),true,true,true,1⟩,⟨ns .u64 r3,true,true,true,1⟩,⟨ns .u64 (y1++x1),true,true,true,1⟩,⟨ns .u64 r4,true,true,true,1⟩,⟨ns .u64 sr4,true,true,true,1⟩,⟨ns .u64 y1,true,true,true,1⟩,⟨ns .u64 x1,true,true,true,1⟩,⟨ns .u64 (y2++x2),true,true,true,1⟩,⟨ns .u64 r5,true,true,true,1⟩,⟨ns .u64 sr5,true,true,true,1⟩,⟨ns .u64 y2,true,true,true,1⟩,⟨ns .u64 x2,true,true,true,1⟩,⟨ns .u64 r6,true,true,true,1⟩,⟨ns .u64 [two,d,t1,t2].flatten,true,true,true,1⟩,⟨ns .u64 r7,true,true,true,1⟩,⟨ns .u64 r7,true,true,true,1⟩,⟨ns .u64 two,true,true,true,1⟩,⟨ns .u64 d,true,true,true,1⟩,⟨ns .u64 t1,true,true,true,1⟩,⟨ns .u64 t2,true,true,true,1⟩,⟨ns .u64 r7,true,true,true,1⟩,⟨ns .u64 [two,z1,z2].flatten,true,true,true,1⟩,⟨ns .u64 r8,true,true,true,1⟩,⟨ns .u64 r8,true,true,true,1⟩,⟨ns .u64 two,true,true,true,1⟩,⟨ns .u64 z1,true,true,true,1⟩,⟨ns .u64 z2,true,true,true,1⟩,⟨ns .u64 r8,true,true,true,1⟩,⟨ns .u64 (r8++r7),true,true,true,1⟩]) (id:=31) Er8 Er7 rfl
 simp only [Zg,Zc] at hr11
 obtain ⟨r12,sr12,hr12,Er12,fr12⟩:=Hw (H:=[⟨ns .u64 (pL x1 y1 z1 t1),true,true,true,1⟩,⟨ns .u64 (pL x2 y2 z2 t2),true,true,true,1⟩,⟨ns .u64 d,true,true,true,1⟩,⟨Qa 20 (.int .u64 0),true,true,true,1⟩,⟨ns .u64 r3,true,true,true,1⟩,⟨ns .u64 (y1++x1),true,true,true,1⟩,⟨ns .u64 r4,true,true,true,1⟩,⟨ns .u64 sr4,true,true,true,1⟩,⟨ns .u64 y1,true,true,true,1⟩,⟨ns .u64 x1,true,true,true,1⟩,⟨ns .u64 (y2++x2),true,true,true,1⟩,⟨ns .u64 r5,true,true,true,1⟩,⟨ns .u64 sr5,true,true,true,1⟩,⟨ns .u64 y2,true,true,true,1⟩,⟨ns .u64 x2,true,true,true,1⟩,⟨ns .u64 r6,true,true,true,1⟩,⟨ns .u64 [two,d,t1,t2].flatten,true,true,true,1⟩,⟨ns .u64 r7,true,true,true,1⟩,⟨ns .u64 r7,true,true,true,1⟩,⟨ns .u64 two,true,true,true,1⟩,⟨ns .u64 d,true,true,true,1⟩,⟨ns .u64 t1,true,true,true,1⟩,⟨ns .u64 t2,true,true,true,1⟩,⟨ns .u64 r7,true,true,true,1⟩,⟨ns .u64 [two,z1,z2].flatten,true,true,true,1⟩,⟨ns .u64 r8,true,true,true,1⟩,⟨ns .u64 r8,true,true,true,1⟩,⟨ns .u64 two,true,true,true,1⟩,⟨ns .u64 z1,true,true,true,1⟩,⟨ns .u64 z2,true,true,true,1⟩,⟨ns .u64 r8,true,true,true,1⟩,⟨ns .u64 (r8++r7),true,true,true,1⟩,⟨ns .u64 r11,true,true,true,1⟩,⟨ns .u64 sr11,true,true,true,1⟩,⟨ns .u64 r8,true,true,true,1⟩,⟨ns .u64 r7,true,true,true,1⟩,⟨ns .u64 (r6++r3),true,true,true,1⟩]) (id:=36) Er6 Er3 rfl
 simp only [Zg,Zc] at hr12
 obtain ⟨r13,hr13,Er13,fr13⟩:=Wz Er9 Er10
 obtain ⟨r14,hr14,Er14,fr14⟩:=Wz Er11 Er12
 obtain ⟨r15,hr15,Er15,fr15⟩:=Wz Er10 Er11
 obtain ⟨r16,hr16,Er16,fr16⟩:=Wz Er9 Er12
 refine ⟨r13,r14,r15,r16,?_,Er13,Er14,Er15,Er16,fe r3,fe r6,fe r7,fe r8,?_⟩
 ·obtain ⟨q10,q11,q12,q13⟩:=Qrd Ex1 Ey1 Ez1 Et1
  obtain ⟨q20,q21,q22,q23⟩:=Qrd Ex2 Ey2 Ez2 Et2
  have p1:=Di Ex1 Ey1 Ez1 Et1
  have p2:=Di Ex2 Ey2 Ez2 Et2
  have p3:=Di Er13 Er14 Er15 Er16
  have k4:=Qg5 Etwo Ed Et1 Et2
  rw [Qtl] at k4
  have k3:=Ql0 Etwo Ez1 Ez2
  have kp:=Qg5 Er13 Er14 Er15 Er16
  have m1:=Rb Ey1 Ex1
  have m2:=Rb Ey2 Ex2
  have m3:=Rb Er8 Er7
  have m4:=Rb Er6 Er3
  have Lx1:=Ex1.len
  have Ly1:=Ey1.len
  have Lz1:=Ez1.len
  have Lt1:=Et1.len
  have Lx2:=Ex2.len
  have Ly2:=Ey2.len
  have Lz2:=Ez2.len
  have Lt2:=Et2.len
  have Ld:=Ed.len
  have Ltwo:=Etwo.len
  have Lr1:=Er1.len
  have Lr2:=Er2.len
  have Lr3:=Er3.len
  have Lr4:=Er4.len
  have Lr5:=Er5.len
  have Lr6:=Er6.len
  have Lr7:=Er7.len
  have Lr8:=Er8.len
  have Lr9:=Er9.len
  have Lr10:=Er10.len
  have Lr11:=Er11.len
  have Lr12:=Er12.len
  have Lr13:=Er13.len
  have Lr14:=Er14.len
  have Lr15:=Er15.len
  have Lr16:=Er16.len
  apply Ks
  apply Z4
  rw [Z5 (fn:=a54) rfl]
  simp only [a54,Z6,quiet,cF,↓pF,reduceCtorEq,Qd,Qq,Zn,Zi,Zm,Zh,Ze,Qf,Q0,Qg,Q2,Q8,Q7,↓Xb,↓Xa,↓Xw,↓Xz,↓Xx,↓Xy,cL,Qp,Qo,Qz,Qy,Qv,Qn,Qm,Qx,Qe,Q5,Q6,Qw,Qk,Qj,Qi,Qu,Qt,Qs,Ql,Qh,cJ,Q9,Xo,Qor,Qtj,Q5z,Qtk,Q5w,Xe,Kb,Yb,Kc,V4,Ky,q10,q11,q12,q13,q20,q21,q22,q23,p1,p2,p3,k4,k3,kp,m1,m2,m3,m4,vtwo,hr1,hr2,hr3,hr4,hr5,hr6,hr7,hr8,hr9,hr10,hr11,hr12,hr13,hr14,hr15,hr16,Lx1,Ly1,Lz1,Lt1,Lx2,Ly2,Lz2,Lt2,Ld,Ltwo,Lr1,Lr2,Lr3,Lr4,Lr5,Lr6,Lr7,Lr8,Lr9,Lr10,Lr11,Lr12,Lr13,Lr14,Lr15,Lr16]
  rfl
 ·refine ⟨?_,?_,?_,?_,?_,?_,?_,?_⟩
  ·rw [fr3,fr1,fr2]
  ·rw [fr6,fr4,fr5]
  ·rw [fr7,ftwo]
  ·rw [fr8,ftwo]
  ·rw [fr13,fr9,fr10]
  ·rw [fr14,fr11,fr12]
  ·rw [fr15,fr10,fr11]
  ·rw [fr16,fr9,fr12]
theorem Q16 {x1 y1 z1 t1:List Nat} (Ex1:El x1 (2^52)) (Ey1:El y1 (2^52)) (Ez1:El z1 (2^52)) (Et1:El t1 (2^52)) :
  ∃ x y z t,Vw T 53 [pV x1 y1 z1 t1]=some (pV x y z t)∧El x (2^52)∧El y (2^52)∧El z (2^52)∧El t (2^52) ∧
   ∃ a b c h e g f:Go.Fp.Fe,a=fe x1*fe x1∧b=fe y1*fe y1∧c=1*2*fe z1*fe z1∧h=a+b∧e=h-(fe x1+fe y1)*(fe x1+fe y1)∧g=a-b∧f=c+g ∧
    fe x=e*f∧fe y=g*h∧fe z=f*g∧fe t=e*h:=by
 obtain ⟨two,htwo⟩:∃ two:List Nat,two=[2,0,0,0,0]:=⟨_,rfl⟩
 have Etwo:El two (2^52):=by rw [htwo]; exact Qxo
 have vtwo:Vw T 37 [.int .u32 2]=some (eV two):=by rw [htwo]; exact Qxl
 have ftwo:fe two=2:=by rw [htwo]; exact Qq4
 clear htwo
 obtain ⟨r1,hr1,Er1,fr1⟩:=Wz Ex1 Ex1
 obtain ⟨r2,hr2,Er2,fr2⟩:=Wz Ey1 Ey1
 obtain ⟨r3,hr3,Er3,fr3⟩:=Rv (H:=[⟨ns .u64 (pL x1 y1 z1 t1),true,true,true,1⟩,⟨Qa 20 (.int .u64 0),true,true,true,1⟩,⟨ns .u64 r1,true,true,true,1⟩,⟨ns .u64 r2,true,true,true,1⟩,⟨ns .u64 [two,z1,z1].flatten,true,true,true,1⟩]) (id:=4) (n:=3) (xs:=[two,z1,z1]) rfl (by decide) (by intro w hw; simp only [Yt,Wb,or_false] at hw; rcases hw with rfl | rfl | rfl<;>assumption) rfl
 simp only [Zg,Zc,Wi,W8,Ui,Gv] at hr3 fr3
 obtain ⟨r4,sr4,hr4,Er4,fr4⟩:=Hw (H:=[⟨ns .u64 (pL x1 y1 z1 t1),true,true,true,1⟩,⟨Qa 20 (.int .u64 0),true,true,true,1⟩,⟨ns .u64 r1,true,true,true,1⟩,⟨ns .u64 r2,true,true,true,1⟩,⟨ns .u64 [two,z1,z1].flatten,true,true,true,1⟩,⟨ns .u64 r3,true,true,true,1⟩,⟨ns .u64 r3,true,true,true,1⟩,⟨ns .u64 two,true,true,true,1⟩,⟨ns .u64 z1,true,true,true,1⟩,⟨ns .u64 z1,true,true,true,1⟩,⟨ns .u64 r3,true,true,true,1⟩,⟨ns .u64 (r1++r2),true,true,true,1⟩]) (id:=11) Er1 Er2 rfl
 simp only [Zg,Zc] at hr4
 obtain ⟨r5,sr5,hr5,Er5,fr5⟩:=Hw (H:=[⟨ns .u64 (pL x1 y1 z1 t1),true,true,true,1⟩,⟨Qa 20 (.int .u64 0),true,true,true,1⟩,⟨ns .u64 r1,true,true,true,1⟩,⟨ns .u64 r2,true,true,true,1⟩,⟨ns .u64 [two,z1,z1].flatten,true,true,true,1⟩,⟨ns .u64 r3,true,true,true,1⟩,⟨ns .u64 r3,true,true,true,1⟩,⟨ns .u64 two,true,true,true,1⟩,⟨ns .u64 z1,true,true,true,1⟩,⟨ns .u64 z1,true,true,true,1⟩,⟨ns .u64 r3,true,true,true,1⟩,⟨ns .u64 (r1++r2),true,true,true,1⟩,⟨ns .u64 r4,true,true,true,1⟩,⟨ns .u64 sr4,true,true,true,1⟩,⟨ns .u64 r1,true,true,true,1⟩,⟨ns .u64 r2,true,true,true,1⟩,⟨ns .u64 r4,true,true,true,1⟩,⟨ns .u64 (x1++y1),true,true,true,1⟩]) (id:=17) Ex1 Ey1 rfl
 simp only [Zg,Zc] at hr5
 obtain ⟨r6,hr6,Er6,fr6⟩:=Wz Er5 Er5
 obtain ⟨r7,hr7,Er7,fr7⟩:=Qaz Er4 Er6
 obtain ⟨r8,hr8,Er8,fr8⟩:=Qaz Er1 Er2
 obtain ⟨r9,sr9,hr9,Er9,fr9⟩:=Hw (H:=[⟨ns .u64 (pL x1 y1 z1 t1),true,true,true,1⟩,⟨Qa 20 (.int .u64 0),true,true,true,1⟩,⟨ns .u64 r1,true,true,true,1⟩,⟨ns .u64 r2,true,true,true,1⟩,⟨ns .u64 [two,z1,z1].flatten,true,true,true,1⟩,⟨ns .u64 r3,true,true,true,1⟩,⟨ns .u64 r3,true,true,true,1⟩,⟨ns .u64 two,true,true,true,1⟩,⟨ns .u64 z1,true,true,true,1⟩,⟨ns .u64 z1,true,true,true,1⟩,⟨ns .u64 r3,true,true,true,1⟩,⟨ns .u64 (r1++r2),true,true,true,1⟩,⟨ns .u64 r4,true,true,true,1⟩,⟨ns .u64 sr4,true,true,true,1⟩,⟨ns .u64 r1,true,true,true,1⟩,⟨ns .u64 r2,true,true,true,1⟩,⟨ns .u64 r4,true,true,true,1⟩,⟨ns .u64 (x1++y1),true,true,true,1⟩,⟨ns .u64 r5,true,true,true,1⟩,⟨ns .u64 sr5,true,true,true,1⟩,⟨ns .u64 x1,true,true,true,1⟩,⟨ns .u64 y1,true,true,true,1⟩,⟨ns .u64 r5,true,true,true,1⟩,⟨ns .u64 r7,true,true,true,1⟩,⟨ns .u64 r8,true,true,true,1⟩,⟨ns .u64 (r3++r8),true,true,true,1⟩]) (id:=25) Er3 Er8 rfl
 simp only [Zg,Zc] at hr9
 obtain ⟨r10,hr10,Er10,fr10⟩:=Wz Er7 Er9
 obtain ⟨r11,hr11,Er11,fr11⟩:=Wz Er8 Er4
 obtain ⟨r12,hr12,Er12,fr12⟩:=Wz Er9 Er8
 obtain ⟨r13,hr13,Er13,fr13⟩:=Wz Er7 Er4
 refine ⟨r10,r11,r12,r13,?_,Er10,Er11,Er12,Er13,fe r1,fe r2,fe r3,fe r4,fe r7,fe r8,fe r9,?_⟩
 ·obtain ⟨q10,q11,q12,q13⟩:=Qrd Ex1 Ey1 Ez1 Et1
  have p1:=Di Ex1 Ey1 Ez1 Et1
  have p3:=Di Er10 Er11 Er12 Er13
  have k3:=Ql0 Etwo Ez1 Ez1
  have kp:=Qg5 Er10 Er11 Er12 Er13
  have m1:=Rb Er1 Er2
  have m2:=Rb Ex1 Ey1
  have m3:=Rb Er3 Er8
  have Lx1:=Ex1.len
  have Ly1:=Ey1.len
  have Lz1:=Ez1.len
  have Lt1:=Et1.len
  have Ltwo:=Etwo.len
  have Lr1:=Er1.len
  have Lr2:=Er2.len
  have Lr3:=Er3.len
  have Lr4:=Er4.len
  have Lr5:=Er5.len
  have Lr6:=Er6.len
  have Lr7:=Er7.len
  have Lr8:=Er8.len
  have Lr9:=Er9.len
  have Lr10:=Er10.len
  have Lr11:=Er11.len
  have Lr12:=Er12.len
  have Lr13:=Er13.len
  apply Ks
  apply Z4
  rw [Z5 (fn:=a53) rfl]
  simp only [a53,Z6,quiet,cF,↓pF,reduceCtorEq,Qd,Qq,Zn,Zi,Zm,Zh,Ze,Qf,Q0,Qg,Q2,Q8,Q7,↓Xb,↓Xa,↓Xw,↓Xz,↓Xx,↓Xy,cL,Qp,Qo,Qz,Qy,Qv,Qn,Qm,Qx,Qe,Q5,Q6,Qw,Qk,Qj,Qi,Qu,Qt,Qs,Ql,Qh,cJ,Q9,Xo,Qor,Qtj,Q5z,Qtk,Q5w,Xe,Kb,Yb,Kc,V4,Ky,q10,q11,q12,q13,p1,p3,k3,kp,m1,m2,m3,vtwo,hr1,hr2,hr3,hr4,hr5,hr6,hr7,hr8,hr9,hr10,hr11,hr12,hr13,Lx1,Ly1,Lz1,Lt1,Ltwo,Lr1,Lr2,Lr3,Lr4,Lr5,Lr6,Lr7,Lr8,Lr9,Lr10,Lr11,Lr12,Lr13]
  rfl
 ·refine ⟨fr1,fr2,by rw [fr3,ftwo],fr4,by rw [fr7,fr6,fr5],fr8,fr9,?_,?_,?_,?_⟩
  ·rw [fr10]
  ·rw [fr11]
  ·rw [fr12]
  ·rw [fr13]
structure Rep (x y z t:List Nat) (p:Go.Cv.Pt Go.Fp.P Go.Fp.d):Prop where
 ex:El x (2^52)
 ey:El y (2^52)
 ez:El z (2^52)
 et:El t (2^52)
 nz:fe z≠0
 x:fe x=p.x*fe z
 y:fe y=p.y*fe z
 t:fe t=p.x*p.y*fe z
abbrev Ue (p q:Go.Cv.Pt Go.Fp.P Go.Fp.d):Go.Cv.Pt Go.Fp.P Go.Fp.d:=Go.Cv.Pt.add Go.Fp.fld p q
abbrev Wa (k:Nat) (p:Go.Cv.Pt Go.Fp.P Go.Fp.d):Go.Cv.Pt Go.Fp.P Go.Fp.d:=Go.Cv.Pt.mul Go.Fp.fld k p
abbrev B7:Go.Cv.Pt Go.Fp.P Go.Fp.d:=Go.Cv.Pt.zero
theorem Qk9 {x1 y1 z1 t1 x2 y2 z2 t2 dd a b c e x y z t px py qx qy rx ry:Go.Fp.Fe} (hx1:x1=px*z1) (hy1:y1=py*z1) (ht1:t1=px*py*z1) (hx2:x2=qx*z2) (hy2:y2=qy*z2) (ht2:t2=qx*qy*z2)
  (ha:a=(y1-x1)*(y2-x2)) (hb:b=(y1+x1)*(y2+x2)) (hc:c=1*2*dd*t1*t2) (he:e=1*2*z1*z2) (hx:x=(b-a)*(e-c)) (hy:y=(e+c)*(b+a)) (hz:z=(e-c)*(e+c)) (ht:t=(b-a)*(b+a))
  (hrx:rx*(1+dd*px*qx*py*qy)=px*qy+qx*py) (hry:ry*(1-dd*px*qx*py*qy)=py*qy+px*qx) :
  x=rx*z∧y=ry*z∧t=rx*ry*z∧z=(2*z1*z2)*(2*z1*z2)*((1-dd*px*qx*py*qy)*(1+dd*px*qx*py*qy)):=by
 have e1:b-a=(2*z1*z2)*(px*qy+qx*py):=by rw [hb,ha,hx1,hy1,hx2,hy2]; grobner
 have e2:b+a=(2*z1*z2)*(py*qy+px*qx):=by rw [hb,ha,hx1,hy1,hx2,hy2]; grobner
 have e3:e-c=(2*z1*z2)*(1-dd*px*qx*py*qy):=by rw [he,hc,ht1,ht2]; grobner
 have e4:e+c=(2*z1*z2)*(1+dd*px*qx*py*qy):=by rw [he,hc,ht1,ht2]; grobner
 rw [e1,←hrx,e3] at hx
 rw [e4,e2,←hry] at hy
 rw [e3,e4] at hz
 rw [e1,e2,←hrx,←hry] at ht
 clear hx1 hy1 ht1 hx2 hy2 ht2 ha hb hc he hrx hry e1 e2 e3 e4
 generalize 1+dd*px*qx*py*qy=k at *
 generalize 1-dd*px*qx*py*qy=m at *
 generalize 2*z1*z2=w at *
 subst hx hy hz ht
 refine ⟨?_,?_,?_,?_⟩<;>grobner
theorem Rep.plus {x1 y1 z1 t1 x2 y2 z2 t2 d:List Nat} {p q:Go.Cv.Pt Go.Fp.P Go.Fp.d} (h1:Rep x1 y1 z1 t1 p) (h2:Rep x2 y2 z2 t2 q) (Ed:El d (2^52)) (hd:fe d=Go.Fp.d) :
  ∃ x y z t,Vw T 54 [pV x1 y1 z1 t1,pV x2 y2 z2 t2,eV d]=some (pV x y z t)∧Rep x y z t (Ue p q):=by
 obtain ⟨x,y,z,t,hv,Ex,Ey,Ez,Et,a,b,c,e,ha,hb,hc,he,hx,hy,hz,ht⟩:=Q6v h1.ex h1.ey h1.ez h1.et h2.ex h2.ey h2.ez h2.et Ed
 rw [hd] at hc
 obtain ⟨g1,g2,g3,g4⟩:=Qk9 h1.x h1.y h1.t h2.x h2.y h2.t ha hb hc he hx hy hz ht (Go.Cv.Qe0 Go.Fp.fld p q) (Go.Cv.Qa1 Go.Fp.fld p q)
 refine ⟨x,y,z,t,hv,Ex,Ey,Ez,Et,?_,g1,g2,g3⟩
 rw [g4]
 have F:=Go.Fp.fld
 have w:=F.mul_ne (F.mul_ne F.two h1.nz) h2.nz
 exact F.mul_ne (F.mul_ne w w) (F.mul_ne (F.denM p.on q.on) (F.denP p.on q.on))
theorem Qq6 {x1 y1 z1 dd a b c h e g f x y z t px py rx ry:Go.Fp.Fe} (hx1:x1=px*z1) (hy1:y1=py*z1) (on : -(px*px)+py*py=1+dd*(px*px)*(py*py))
  (ha:a=x1*x1) (hb:b=y1*y1) (hc:c=1*2*z1*z1) (hh:h=a+b) (he:e=h-(x1+y1)*(x1+y1)) (hg:g=a-b) (hf:f=c+g) (hx:x=e*f) (hy:y=g*h) (hz:z=f*g) (ht:t=e*h)
  (hrx:rx*(1+dd*px*px*py*py)=px*py+px*py) (hry:ry*(1-dd*px*px*py*py)=py*py+px*px) :
  x=rx*z∧y=ry*z∧t=rx*ry*z∧z = -((z1*z1)*(z1*z1)*((1-dd*px*px*py*py)*(1+dd*px*px*py*py))):=by
 have e1:e = -((z1*z1)*(px*py+px*py)):=by rw [he,hh,ha,hb,hx1,hy1]; grobner
 have e2:h=(z1*z1)*(py*py+px*px):=by rw [hh,ha,hb,hx1,hy1]; grobner
 have e3:g = -((z1*z1)*(1+dd*px*px*py*py)):=by
  have:1+dd*px*px*py*py=py*py-px*px:=by
   clear hx1 hy1 ha hb hc hh he hg hf hx hy hz ht hrx hry e1 e2
   grobner
  rw [this,hg,ha,hb,hx1,hy1]; grobner
 have e4:f=(z1*z1)*(1-dd*px*px*py*py):=by
  rw [hf,e3,hc]
  clear hx1 hy1 on ha hb hc hh he hg hf hx hy hz ht hrx hry e1 e2 e3
  grobner
 rw [←hrx] at e1
 rw [←hry] at e2
 clear hx1 hy1 on ha hb hc hh he hg hf hrx hry
 generalize 1+dd*px*px*py*py=k at *
 generalize 1-dd*px*px*py*py=m at *
 generalize z1*z1=w at *
 subst e1 e2 e3 e4 hx hy hz ht
 refine ⟨?_,?_,?_,?_⟩<;>grobner
theorem Rep.twice {x1 y1 z1 t1:List Nat} {p:Go.Cv.Pt Go.Fp.P Go.Fp.d} (h1:Rep x1 y1 z1 t1 p):∃ x y z t,Vw T 53 [pV x1 y1 z1 t1]=some (pV x y z t)∧Rep x y z t (Ue p p):=by
 obtain ⟨x,y,z,t,hv,Ex,Ey,Ez,Et,a,b,c,h,e,g,f,ha,hb,hc,hh,he,hg,hf,hx,hy,hz,ht⟩:=Q16 h1.ex h1.ey h1.ez h1.et
 obtain ⟨g1,g2,g3,g4⟩:=Qq6 h1.x h1.y p.on ha hb hc hh he hg hf hx hy hz ht (Go.Cv.Qe0 Go.Fp.fld p p) (Go.Cv.Qa1 Go.Fp.fld p p)
 refine ⟨x,y,z,t,hv,Ex,Ey,Ez,Et,?_,g1,g2,g3⟩
 rw [g4]
 have F:=Go.Fp.fld
 have w:=F.mul_ne h1.nz h1.nz
 have n:=F.mul_ne (F.mul_ne w w) (F.mul_ne (F.denM p.on p.on) (F.denP p.on p.on))
 intro h0
 exact n (by grobner)
def RepL (l:List Nat) (p:Go.Cv.Pt Go.Fp.P Go.Fp.d):Prop:=∃ x y z t,l=pL x y z t∧Rep x y z t p
theorem RepL.len {l:List Nat} {p:Go.Cv.Pt Go.Fp.P Go.Fp.d} (h:RepL l p):l.length=20:=by
 obtain ⟨x,y,z,t,rfl,h⟩:=h
 exact Di h.ex h.ey h.ez h.et
theorem Q5y {l m d:List Nat} {p q:Go.Cv.Pt Go.Fp.P Go.Fp.d} (h1:RepL l p) (h2:RepL m q) (Ed:El d (2^52)) (hd:fe d=Go.Fp.d):∃ r,Vw T 54 [eV l,eV m,eV d]=some (eV r)∧RepL r (Ue p q):=by
 obtain ⟨x,y,z,t,rfl,h1⟩:=h1
 obtain ⟨x2,y2,z2,t2,rfl,h2⟩:=h2
 obtain ⟨a,b,c,e,h3,h4⟩:=h1.plus h2 Ed hd
 exact ⟨pL a b c e,h3,a,b,c,e,rfl,h4⟩
theorem Qmi {l:List Nat} {p:Go.Cv.Pt Go.Fp.P Go.Fp.d} (h1:RepL l p):∃ r,Vw T 53 [eV l]=some (eV r)∧RepL r (Ue p p):=by
 obtain ⟨x,y,z,t,rfl,h1⟩:=h1
 obtain ⟨a,b,c,e,h3,h4⟩:=h1.twice
 exact ⟨pL a b c e,h3,a,b,c,e,rfl,h4⟩
def dK:List Nat:=dig 256 32 Go.Fp.dN
theorem Q71:num 256 dK=Go.Fp.dN:=by decide +kernel
theorem dK_lt:∀ x∈dK,x<256:=fun _ h=>Hd (by decide) h
theorem Qjg:∃ r,Vw T 52 []=some (eV r)∧El r (2^52)∧fe r=Go.Fp.d:=by
 have h:=Qve (k:=dK) (Vs _ _ _) dK_lt
 refine ⟨dig (2^51) 5 (num 256 dK%2^255),?_,Qo7,?_⟩
 rotate_left
 ·unfold fe
  rw [Qga,Q71]
  rfl
 ·have hl:(dig (2^51) 5 (num 256 dK%2^255)).length=5:=Vs _ _ _
  have hf:fillL (Qa 32 (Value.int .u8 0)) [(0,1,.int .u8 163),(1,1,.int .u8 120),(2,1,.int .u8 89),(3,1,.int .u8 19),(4,1,.int .u8 202),(5,1,.int .u8 77),(6,1,.int .u8 235),(7,1,.int .u8 117),(8,1,.int .u8 171),(9,1,.int .u8 216),(10,1,.int .u8 65),(11,1,.int .u8 65),(12,1,.int .u8 77),(13,1,.int .u8 10),(14,1,.int .u8 112),(15,1,.int .u8 0),(16,1,.int .u8 152),(17,1,.int .u8 232),(18,1,.int .u8 121),(19,1,.int .u8 119),(20,1,.int .u8 121),(21,1,.int .u8 64),(22,1,.int .u8 199),(23,1,.int .u8 140),(24,1,.int .u8 115),(25,1,.int .u8 254),(26,1,.int .u8 111),(27,1,.int .u8 43),(28,1,.int .u8 238),(29,1,.int .u8 108),(30,1,.int .u8 3),(31,1,.int .u8 82)]=some (u8s dK):=by
   have:dK=[163,120,89,19,202,77,235,117,171,216,65,65,77,10,112,0,152,232,121,119,121,64,199,140,115,254,111,43,238,108,3,82]:=by decide +kernel
   rw [this]; rfl
  generalize dig (2^51) 5 (num 256 dK%2^255)=D at *
  apply Ks
  apply Z4
  rw [Z5 (fn:=a52) rfl]
  simp only [a52,Z6,quiet,cF,↓pF,reduceCtorEq,Qd,Qq,Zn,Zi,Zm,Zh,Ze,Qf,Q0,Qg,Q2,Q8,Q7,↓Xb,↓Xa,↓Xw,↓Xz,↓Xx,↓Xy,cL,Qp,Qo,Qz,Qy,Qv,Qn,Qm,Qx,Qe,Q5,Q6,Qw,Qk,Qj,Qi,Qu,Qt,Qs,Ql,Qh,cJ,hf,h,Q9,Xo,Xe,Kb,Yb,Kc,V4,Ky,hl]
  rfl
theorem Qy6:Vw T 37 [.int .u32 1]=some (eV [1,0,0,0,0]):=Qcf (n:=1) (by decide)
theorem Qhz:El [0,0,0,0,0] (2^52):=Tt (by decide)
theorem Qsz:fe [0,0,0,0,0]=0:=by rw [Ts]; rfl
theorem Qqx:∃ r,Vw T 51 []=some (eV r)∧RepL r B7:=by
 refine ⟨pL [0,0,0,0,0] [1,0,0,0,0] [1,0,0,0,0] [0,0,0,0,0],?_,_,_,_,_,rfl,Qhz,Qdv,Qdv,Qhz,?_,?_,?_,?_⟩
 ·have hf:fillL (Qa 20 (Value.int .u64 0)) [(5,5,eV [1,0,0,0,0]),(10,5,eV [1,0,0,0,0])]=some (ns .u64 (pL [0,0,0,0,0] [1,0,0,0,0] [1,0,0,0,0] [0,0,0,0,0])):=rfl
  have hl:(pL [0,0,0,0,0] [1,0,0,0,0] [1,0,0,0,0] [0,0,0,0,0]).length=20:=rfl
  have hv:=Qy6
  generalize pL [0,0,0,0,0] [1,0,0,0,0] [1,0,0,0,0] [0,0,0,0,0]=Z at *
  generalize ([1,0,0,0,0]:List Nat)=O at *
  apply Ks
  apply Z4
  rw [Z5 (fn:=a30) rfl]
  simp only [a30,Z6,quiet,cF,↓pF,reduceCtorEq,Qd,Qq,Zn,Zi,Zm,Zh,Ze,Qf,Q0,Qg,Q2,Q8,Q7,↓Xb,↓Xa,↓Xw,↓Xz,↓Xx,↓Xy,cL,Qp,Qo,Qz,Qy,Qv,Qn,Qm,Qx,Qe,Q5,Q6,Qw,Qk,Qj,Qi,Qu,Qt,Qs,Ql,Qh,cJ,hf,hv,Q9,Xo,Xe,Kb,Yb,Kc,V4,Ky,hl]
  rfl
 ·rw [Qdu]; exact Go.Fp.Dt
 ·rw [Qsz]; simp only [Go.Cv.Pt.zero]; grobner
 ·rw [Qdu]; simp only [Go.Cv.Pt.zero]; grobner
 ·rw [Qsz]; simp only [Go.Cv.Pt.zero]; grobner
theorem Qk8 (p:Go.Cv.Pt Go.Fp.P Go.Fp.d) (m b:Nat) (hb:b<2):Wa (2*m+b) p=if b=1 then Ue (Ue (Wa m p) (Wa m p)) p else Ue (Wa m p) (Wa m p):=by
 have h1:Wa (2*m) p=Ue (Wa m p) (Wa m p):=by rw [show 2*m=m+m by omega]; exact Go.Cv.mul_add Go.Fp.fld m m p
 by_cases h:b=1
 ·subst h
  rw [if_pos rfl]
  show Ue (Wa (2*m) p) p=_
  rw [h1]
 ·have:b=0:=by omega
  subst this
  rw [if_neg (by decide),Jk,h1]
def muI (l k o d:List Nat) (R:Ob) (i:Int) (ex:Env):St:=⟨[(2,.pointer (some ⟨0,0,none⟩)),(3,.pointer (some ⟨1,0,none⟩)),(4,.pointer (some ⟨2,0,none⟩)),(5,.pointer (some ⟨3,0,none⟩)),(6,.pointer (some ⟨4,0,none⟩)),(7,.int .i64 i)]++ex,[⟨ns .u64 l,true,true,true,1⟩,⟨u8s k,true,true,true,1⟩,R,⟨ns .u64 o,true,true,true,1⟩,⟨ns .u64 d,true,true,true,1⟩],[]⟩
theorem Q3p {l k o d:List Nat} {R:Ob} {i:Nat} {p:Go.Cv.Pt Go.Fp.P Go.Fp.d} (hl:RepL l p) (lk:k.length=32) (xk:∀ x∈k,x<256) (hi:i<256) (Ed:El d (2^52)) (hd:fe d=Go.Fp.d) (ho:RepL o (Wa (num 256 k/2^(i+1)) p)) :
  ∃ r,Jv T 0 Qgq (muI l k o d R i [])=some (.normal,muI l k r d R ((i:Int)-1) [])∧RepL r (Wa (num 256 k/2^i) p):=by
 obtain ⟨b,hb⟩:∃ b,k[i/8]?=some b:=⟨_,Q3 (by omega)⟩
 have hbv:=Dz (B:=256) (by decide) xk hb
 have hbc:=Uk hb
 have hbit:b/2^(i%8)%2=num 256 k/2^i%2:=by
  rw [←hbv,show (256:Nat)=2^8 from rfl,Qqj (Jw _ (by decide)),Yi]
 obtain ⟨r1,m1,g1⟩:=Qmi ho
 obtain ⟨r2,m2,g3⟩:=Q5y g1 hl Ed hd
 have hlt:=Qgn (num 256 k) i
 have hnum:num 256 k/2^i=2*(num 256 k/2^(i+1))+num 256 k/2^i%2:=by
  rw [V0,←Yu]
  omega
 have hstep:=Qk8 p (num 256 k/2^(i+1)) (num 256 k/2^i%2) hlt
 rw [←hnum] at hstep
 have s1:(2:Int)^min (i%8) IntKind.u8.bits=((2^(i%8):Nat):Int):=Qaj (Um (Jw _ (by decide)))
 have w2:IntKind.i64.wrap ((i/8:Nat):Int)=((i/8:Nat):Int):=Ym (by omega)
 have w3:IntKind.i64.wrap ((i:Int)-1)=(i:Int)-1:=Yd (by omega) (by omega)
 have e1:((0:Int)≤(i:Int))=True:=eq_true (by omega)
 have e3:(((i/8:Nat):Int)<32)=True:=eq_true (by omega)
 have e4:(((i%8:Nat):Int)<0)=False:=eq_false (by omega)
 have l1:=hl.len
 have l2:=ho.len
 have l3:=g1.len
 have l4:=g3.len
 have l5:=Ed.len
 generalize hB:num 256 k/2^i%2=B at *
 by_cases hB1:B=1
 ·have hbq:((B:Int)==1)=true:=by rw [hB1]; rfl
  rw [if_pos hB1] at hstep
  refine ⟨r2,?_,by rw [hstep]; exact g3⟩
  simp only [muI,Qgq,Z6,quiet,cF,↓pF,reduceCtorEq,Qd,Qq,Zn,Zi,Zm,Zh,Ze,Qf,Q0,Qg,Q2,Q8,Q7,↓Xb,↓Xa,↓Xw,↓Xz,↓Xx,↓Xy,cL,Qp,Qo,Qz,Qy,Qv,Qn,Qm,Qx,Qe,Q5,Q6,Qw,Qk,Qj,Qi,Qu,Qt,Qs,Ql,Qh,cJ,cU,hbc,hbit,s1,w2,w3,e1,e3,e4,m1,m2,hbq,Xo,Xe,Kb,Yb,Kc,Ky,l1,l2,l3,l4,l5,V4]
 ·have hbq:((B:Int)==1)=false:=by
   have:B=0:=by omega
   rw [this]; rfl
  rw [if_neg hB1] at hstep
  refine ⟨r1,?_,by rw [hstep]; exact g1⟩
  simp only [muI,Qgq,Z6,quiet,cF,↓pF,reduceCtorEq,Qd,Qq,Zn,Zi,Zm,Zh,Ze,Qf,Q0,Qg,Q2,Q8,Q7,↓Xb,↓Xa,↓Xw,↓Xz,↓Xx,↓Xy,cL,Qp,Qo,Qz,Qy,Qv,Qn,Qm,Qx,Qe,Q5,Q6,Qw,Qk,Qj,Qi,Qu,Qt,Qs,Ql,Qh,cJ,cU,hbc,hbit,s1,w2,w3,e1,e3,e4,m1,m2,hbq,Xo,Xe,Kb,Yb,Kc,Ky,l1,l2,l3,l4,l5,V4]
theorem M0 {l k:List Nat} {p:Go.Cv.Pt Go.Fp.P Go.Fp.d} (hl:RepL l p) (lk:k.length=32) (xk:∀ x∈k,x<256):∃ r,Vw T 28 [eV l,.agg (u8s k).toArray]=some (eV r)∧RepL r (Wa (num 256 k) p):=by
 have hK:=num_lt xk
 rw [lk,show (256:Nat)^32=2^256 from by rw [show (256:Nat)=2^8 from rfl,←Y0]] at hK
 obtain ⟨z,hz,hz2⟩:=Qqx
 obtain ⟨d,hd1,Ed,hd⟩:=Qjg
 obtain ⟨st,hb,r,rfl,hr1⟩:=Yg (T:=T) (base:=0) (id:=0) (body:=Qgq)
  (fun j st=>∃ r:List Nat,st=muI l k r d ⟨Qa 20 (.int .u64 0),true,true,true,1⟩ ((255:Int)-j) []∧RepL r (Wa (num 256 k/2^(256-j)) p))
  (Q:=fun st=>∃ r:List Nat,st=muI l k r d ⟨Qa 20 (.int .u64 0),true,true,true,1⟩ (-1) [(11,.bool false)]∧RepL r (Wa (num 256 k) p))
  256 (s:=muI l k z d ⟨Qa 20 (.int .u64 0),true,true,true,1⟩ 255 []) ⟨_,rfl,by rw [X7,Un hK]; exact hz2⟩
  (fun j st hj hs=>by
   obtain ⟨r,rfl,h2⟩:=hs
   obtain ⟨i,hi⟩:∃ i,256-j=i+1:=⟨255-j,by omega⟩
   rw [hi] at h2
   obtain ⟨r',g1,g3⟩:=Q3p (R:=⟨Qa 20 (.int .u64 0),true,true,true,1⟩) hl lk xk (i:=i) (by omega) Ed hd h2
   rw [show (255:Int)-j=(i:Int) by omega]
   refine ⟨_,g1,r',?_,?_⟩
   ·rw [show (255:Int)-((j+1:Nat):Int)=(i:Int)-1 by omega]
   ·rw [show 256-(j+1)=i by omega]; exact g3)
  (fun st hs=>by
   obtain ⟨r,rfl,h2⟩:=hs
   rw [Jc,Ug,U8] at h2
   have e:((0:Int) ≤ -1)=False:=by decide
   refine ⟨_,?_,r,rfl,h2⟩
   rw [show (255:Int)-((256:Nat):Int) = -1 by omega]
   simp only [muI,Qgq,Z6,quiet,cF,↓pF,reduceCtorEq,Qd,Qq,Zn,Zi,Zm,Zh,Ze,Qf,Q0,Qg,Q2,Q8,Q7,↓Xb,↓Xa,↓Xw,↓Xz,↓Xx,↓Xy,cL,Qp,Qo,Qz,Qy,Qv,Qn,Qm,Qx,Qe,Q5,Q6,Qw,Qk,Qj,Qi,Qu,Qt,Qs,Ql,Qh,e])
 refine ⟨r,?_,hr1⟩
 have l1:=hl.len
 have l2:=hz2.len
 have l3:=hr1.len
 have l4:=Ed.len
 simp only [muI,Zg,Zc] at hb
 apply Ks
 apply Z4
 rw [Z5 (fn:=a26) rfl]
 simp only [a26,Z6,quiet,cF,↓pF,reduceCtorEq,Qd,Qq,Zn,Zi,Zm,Zh,Ze,Qf,Q0,Qg,Q2,Q8,Q7,↓Xb,↓Xa,↓Xw,↓Xz,↓Xx,↓Xy,cL,Qp,Qo,Qz,Qy,Qv,Qn,Qm,Qx,Qe,Q5,Q6,Qw,Qk,Qj,Qi,Qu,Qt,Qs,Ql,Qh,cJ,hz,hd1,hb,muI,Q9,Xo,Xe,Kb,Yb,Kc,Ky,l1,l2,l3,l4,V4]
 rfl
theorem Q7b {l:List Nat} {p:Go.Cv.Pt Go.Fp.P Go.Fp.d} (hl:RepL l p):∃ r,Vw T 47 [eV l]=some (eV r)∧RepL r p.neg:=by
 obtain ⟨x,y,z,t,rfl,h⟩:=hl
 obtain ⟨a,ha,Ea,fa⟩:=Qlm h.ex
 obtain ⟨b,hb,Eb,fb⟩:=Qlm h.et
 obtain ⟨q0,q1,q2,q3⟩:=Qrd h.ex h.ey h.ez h.et
 have hf:=Qg5 Ea h.ey h.ez Eb
 have p1:=Di h.ex h.ey h.ez h.et
 have p2:=Di Ea h.ey h.ez Eb
 refine ⟨pL a y z b,?_,a,y,z,b,rfl,Ea,h.ey,h.ez,Eb,h.nz,?_,?_,?_⟩
 ·generalize pL x y z t=L at *
  generalize pL a y z b=M at *
  apply Ks
  apply Z4
  rw [Z5 (fn:=a34) rfl]
  simp only [a34,Z6,quiet,cF,↓pF,reduceCtorEq,Qd,Qq,Zn,Zi,Zm,Zh,Ze,Qf,Q0,Qg,Q2,Q8,Q7,↓Xb,↓Xa,↓Xw,↓Xz,↓Xx,↓Xy,cL,Qp,Qo,Qz,Qy,Qv,Qn,Qm,Qx,Qe,Q5,Q6,Qw,Qk,Qj,Qi,Qu,Qt,Qs,Ql,Qh,cJ,q0,q1,q2,q3,ha,hb,hf,Q9,Xo,Xe,Kb,Yb,Kc,Ky,p1,p2,V4]
  rfl
 ·rw [fa,h.x]; simp only [Go.Cv.Pt.neg]; grobner
 ·rw [h.y]; rfl
 ·rw [fb,h.t]; simp only [Go.Cv.Pt.neg]; grobner
instance decPt (p q:Go.Cv.Pt Go.Fp.P Go.Fp.d):Decidable (p=q):=if h:p.x=q.x∧p.y=q.y then isTrue (Go.Cv.Pt.ext h.1 h.2) else isFalse (fun e=>h (by rw [e]; exact ⟨rfl,rfl⟩))
theorem Qyb {a b z w:Go.Fp.Fe} (hz:z≠0) (hw:w≠0):(a*z*w=b*w*z)=(a=b):=by
 apply propext
 constructor
 ·intro h
  have F:=Go.Fp.fld
  refine F.cancel (F.mul_ne hz hw) ?_
  grobner
 ·intro h; subst h; grobner
theorem Q4m {l m:List Nat} {p q:Go.Cv.Pt Go.Fp.P Go.Fp.d} (h1:RepL l p) (h2:RepL m q):Vw T 82 [eV l,eV m]=some (.bool (decide (p=q))):=by
 obtain ⟨x1,y1,z1,t1,rfl,h1⟩:=h1
 obtain ⟨x2,y2,z2,t2,rfl,h2⟩:=h2
 obtain ⟨a,ha,Ea,fa⟩:=Wz h1.ex h2.ez
 obtain ⟨b,hb,Eb,fb⟩:=Wz h2.ex h1.ez
 obtain ⟨c,hc,Ec,fc⟩:=Wz h1.ey h2.ez
 obtain ⟨e,he,Ee,fe_⟩:=Wz h2.ey h1.ez
 have q1:=Q4n Ea Eb
 have q2:=Q4n Ec Ee
 rw [fa,fb,h1.x,h2.x] at q1
 rw [fc,fe_,h1.y,h2.y] at q2
 simp only [Qyb h1.nz h2.nz] at q1 q2
 obtain ⟨u0,u1,u2,u3⟩:=Qrd h1.ex h1.ey h1.ez h1.et
 obtain ⟨v0,v1,v2,v3⟩:=Qrd h2.ex h2.ey h2.ez h2.et
 have p1:=Di h1.ex h1.ey h1.ez h1.et
 have p2:=Di h2.ex h2.ey h2.ez h2.et
 generalize pL x1 y1 z1 t1=L at *
 generalize pL x2 y2 z2 t2=M at *
 by_cases hx:p.x=q.x
 ·rw [decide_eq_true hx] at q1
  have hd:decide (p=q)=decide (p.y=q.y):=by
   by_cases hy:p.y=q.y
   ·rw [decide_eq_true hy,decide_eq_true (Go.Cv.Pt.ext hx hy)]
   ·rw [decide_eq_false hy,decide_eq_false (fun h=>hy (by rw [h]))]
  rw [hd]
  apply Ks
  apply Z4
  rw [Z5 (fn:=a28) rfl]
  simp only [a28,Z6,quiet,cF,↓pF,reduceCtorEq,Qd,Qq,Zn,Zi,Zm,Zh,Ze,Qf,Q0,Qg,Q2,Q8,Q7,↓Xb,↓Xa,↓Xw,↓Xz,↓Xx,↓Xy,cL,Qp,Qo,Qz,Qy,Qv,Qn,Qm,Qx,Qe,Q5,Q6,Qw,Qk,Qj,Qi,Qu,Qt,Qs,Ql,Qh,cJ,u0,u1,u2,v0,v1,v2,ha,hb,hc,he,q1,q2,Q9,Xo,Xe,Kb,Yb,Kc,Ky,p1,p2,V4]
  rfl
 ·rw [decide_eq_false hx] at q1
  rw [decide_eq_false (fun h=>hx (by rw [h]))]
  apply Ks
  apply Z4
  rw [Z5 (fn:=a28) rfl]
  simp only [a28,Z6,quiet,cF,↓pF,reduceCtorEq,Qd,Qq,Zn,Zi,Zm,Zh,Ze,Qf,Q0,Qg,Q2,Q8,Q7,↓Xb,↓Xa,↓Xw,↓Xz,↓Xx,↓Xy,cL,Qp,Qo,Qz,Qy,Qv,Qn,Qm,Qx,Qe,Q5,Q6,Qw,Qk,Qj,Qi,Qu,Qt,Qs,Ql,Qh,cJ,u0,u1,u2,v0,v1,v2,ha,hb,hc,he,q1,q2,Q9,Xo,Xe,Kb,Yb,Kc,Ky,p1,p2,V4]
  rfl
theorem Q0x (p:Go.Cv.Pt Go.Fp.P Go.Fp.d):Ue (Ue (Ue p p) (Ue p p)) (Ue (Ue p p) (Ue p p))=Wa 8 p:=by
 have h2:Wa 2 p=Ue p p:=Go.Cv.mul_two Go.Fp.fld p
 have h4:Wa 4 p=Ue (Wa 2 p) (Wa 2 p):=Go.Cv.mul_add Go.Fp.fld 2 2 p
 have h8:Wa 8 p=Ue (Wa 4 p) (Wa 4 p):=Go.Cv.mul_add Go.Fp.fld 4 4 p
 rw [h8,h4,h2]
theorem Q6j {l:List Nat} {p:Go.Cv.Pt Go.Fp.P Go.Fp.d} (h:RepL l p):Vw T 44 [eV l]=some (.bool (decide (Wa 8 p=B7))):=by
 obtain ⟨a,ha,ra⟩:=Qmi h
 obtain ⟨b,hb,rb⟩:=Qmi ra
 obtain ⟨c,hc,rc⟩:=Qmi rb
 obtain ⟨z,hz,rz⟩:=Qqx
 have he:=Q4m rc rz
 rw [Q0x] at he
 have p1:=h.len
 apply Ks
 apply Z4
 rw [Z5 (fn:=a39) rfl]
 simp only [a39,Z6,quiet,cF,↓pF,reduceCtorEq,Qd,Qq,Zn,Zi,Zm,Zh,Ze,Qf,Q0,Qg,Q2,Q8,Q7,↓Xb,↓Xa,↓Xw,↓Xz,↓Xx,↓Xy,cL,Qp,Qo,Qz,Qy,Qv,Qn,Qm,Qx,Qe,Q5,Q6,Qw,Qk,Qj,Qi,Qu,Qt,Qs,Ql,Qh,cJ,ha,hb,hc,hz,he,Xo,Xe,Kb,Yb,Kc,Ky,p1,V4]
 rfl
def Qhd (p:Go.Cv.Pt Go.Fp.P Go.Fp.d):Nat:=p.y.val+(p.x.val%2)*2^255
def enc (p:Go.Cv.Pt Go.Fp.P Go.Fp.d):List Nat:=dig 256 32 (Qhd p)
theorem Qeu (p:Go.Cv.Pt Go.Fp.P Go.Fp.d):(enc p).length=32:=Vs _ _ _
theorem Q0u (p:Go.Cv.Pt Go.Fp.P Go.Fp.d):∀ x∈enc p,x<256:=D5
theorem Qdl (a:Go.Fp.Fe):a.val<2^255:=Ul a.isLt (by rw [Go.Fp.Qb7]; decide)
theorem Qne (p:Go.Cv.Pt Go.Fp.P Go.Fp.d):Qhd p<256^32:=by
 have h1:=Qdl p.y
 have h2:=Jw p.x.val (by decide:0<2)
 unfold Qhd
 have:p.x.val%2*2^255≤1*2^255:=W4 _ (by omega)
 have e:(256:Nat)^32=2^255+2^255:=by decide
 omega
theorem Qet {l:List Nat} {p:Go.Cv.Pt Go.Fp.P Go.Fp.d} (h:RepL l p):Vw T 29 [eV l]=some (.agg (u8s (enc p)).toArray):=by
 obtain ⟨x,y,z,t,rfl,h⟩:=h
 obtain ⟨i,hi,Ei,fi⟩:=Qpl h.ez
 obtain ⟨a,ha,Ea,fa⟩:=Wz h.ey Ei
 obtain ⟨b,hb,Eb,fb⟩:=Wz h.ex Ei
 have hinv:=Go.Fp.Me h.nz
 have fa':fe a=p.y:=by rw [fa,fi,h.y]; grobner
 have fb':fe b=p.x:=by rw [fb,fi,h.x]; grobner
 have k1:=Qav Ea
 have k2:=Qzk Eb
 rw [fa'] at k1
 rw [fb'] at k2
 obtain ⟨u0,u1,u2,u3⟩:=Qrd h.ex h.ey h.ez h.et
 have p1:=Di h.ex h.ey h.ez h.et
 have L1:=Ei.len
 have lk:(dig 256 32 p.y.val).length=32:=Vs _ _ _
 have l0:(dig 256 32 0).length=32:=rfl
 have hz32:Qa 32 (Value.int .u8 0)=u8s (dig 256 32 0):=rfl
 generalize pL x y z t=L at *
 by_cases ho:p.x.val%2=1
 ·rw [decide_eq_true ho] at k2
  have hv:=Qdl p.y
  obtain ⟨w,hw⟩:∃ w,(dig 256 32 p.y.val)[31]?=some w:=⟨_,Q3 (by rw [Vs]; decide)⟩
  have hwc:=Uk hw
  have hw':w<256:=Hd (by decide) (Zp hw)
  have hput:=Qhu (w:=8) (m:=32) (q:=31) (s:=7) (y:=1) (M:=p.y.val) (by decide) (by decide) hv (by decide)
  have hgd:(dig (2^8) 32 p.y.val).getD 31 0=w:=by rw [Jh]; rw [show (2:Nat)^8=256 from rfl,hw]; rfl
  rw [hgd] at hput
  have hset:=Hg (dig 256 32 p.y.val) 31 (w|||128)
  rw [show (dig 256 32 p.y.val).set 31 (w|||128)=enc p from by rw [enc,Qhd,ho]; exact hput] at hset
  have o1:Vo .or .u8 (w:Int) 128=((w|||128:Nat):Int):=Hl (k := .u8) (a:=w) (b:=128) rfl hw' (by decide)
  have le:=Qeu p
  generalize enc p=E at *
  apply Ks
  apply Z4
  rw [Z5 (fn:=a29) rfl]
  simp only [a29,Z6,quiet,cF,↓pF,reduceCtorEq,Qd,Qq,Zn,Zi,Zm,Zh,Ze,Qf,Q0,Qg,Q2,Q8,Q7,↓Xb,↓Xa,↓Xw,↓Xz,↓Xx,↓Xy,cL,Qp,Qo,Qz,Qy,Qv,Qn,Qm,Qx,Qe,Q5,Q6,Qw,Qk,Qj,Qi,Qu,Qt,Qs,Ql,Qh,cJ,hz32,u0,u1,u2,hi,ha,hb,k1,k2,hwc,o1,hset,Q9,Xo,Xe,Kb,Yb,Kc,Ky,Zv,lk,l0,le,p1,L1,V4]
  rfl
 ·rw [decide_eq_false ho] at k2
  have he:enc p=dig 256 32 p.y.val:=by rw [enc,Qhd,show p.x.val%2=0 by omega,Xq,Jk]
  rw [he]
  generalize dig 256 32 p.y.val=E at *
  apply Ks
  apply Z4
  rw [Z5 (fn:=a29) rfl]
  simp only [a29,Z6,quiet,cF,↓pF,reduceCtorEq,Qd,Qq,Zn,Zi,Zm,Zh,Ze,Qf,Q0,Qg,Q2,Q8,Q7,↓Xb,↓Xa,↓Xw,↓Xz,↓Xx,↓Xy,cL,Qp,Qo,Qz,Qy,Qv,Qn,Qm,Qx,Qe,Q5,Q6,Qw,Qk,Qj,Qi,Qu,Qt,Qs,Ql,Qh,cJ,hz32,u0,u1,u2,hi,ha,hb,k1,k2,Q9,Xo,Xe,Kb,Yb,Kc,Ky,Zv,lk,l0,p1,L1,V4]
  rfl
def bxN:Nat:=15112221349535400772501151409588531511454012693041857206046113283949847762202
def byN:Nat:=46316835694926478169428394003475163141307993866256225615783033603165251855960
def Us:Go.Cv.Pt Go.Fp.P Go.Fp.d:=⟨Go.Fp.fp bxN,Go.Fp.fp byN,by
 unfold Go.Cv.On Go.Fp.d
 have h:(Go.Fp.fp byN*Go.Fp.fp byN:Go.Fp.Fe)=Go.Fp.fp bxN*Go.Fp.fp bxN+(1+Go.Fp.fp Go.Fp.dN*(Go.Fp.fp bxN*Go.Fp.fp bxN)*(Go.Fp.fp byN*Go.Fp.fp byN)):=by
  rw [←Go.Fp.Qnd,←Go.Fp.B5,←Go.Fp.B5,←Go.Fp.B5,←Go.Fp.B5,←Go.Fp.H9,←Go.Fp.H9]
  exact Go.Fp.Qpu.2 (by decide +kernel)
 grobner⟩
def bxK:List Nat:=dig 256 32 bxN
def byK:List Nat:=dig 256 32 byN
theorem Q4x:num 256 bxK=bxN:=by decide +kernel
theorem Q4w:num 256 byK=byN:=by decide +kernel
theorem Qsp:∃ r,Vw T 27 []=some (eV r)∧RepL r Us:=by
 have h1:=Qve (k:=bxK) (Vs _ _ _) D5
 have h2:=Qve (k:=byK) (Vs _ _ _) D5
 have E1:=Qo7 (V:=num 256 bxK%2^255)
 have E2:=Qo7 (V:=num 256 byK%2^255)
 have f1:fe (dig (2^51) 5 (num 256 bxK%2^255))=Go.Fp.fp bxN:=by unfold fe; rw [Qga,Q4x]; rfl
 have f2:fe (dig (2^51) 5 (num 256 byK%2^255))=Go.Fp.fp byN:=by unfold fe; rw [Qga,Q4w]; rfl
 generalize dig (2^51) 5 (num 256 bxK%2^255)=X at *
 generalize dig (2^51) 5 (num 256 byK%2^255)=Y at *
 obtain ⟨t,ht,Et,ft⟩:=Wz E1 E2
 have E3:∃ O:List Nat,O=[1,0,0,0,0]:=⟨_,rfl⟩
 obtain ⟨O,hO⟩:=E3
 have E3:El O (2^52):=by rw [hO]; exact Qdv
 have v1:Vw T 37 [.int .u32 1]=some (eV O):=by rw [hO]; exact Qy6
 have f3:fe O=1:=by rw [hO]; exact Qdu
 clear hO
 have hf:=Qg5 E1 E2 E3 Et
 have p1:=Di E1 E2 E3 Et
 refine ⟨pL X Y O t,?_,X,Y,O,t,rfl,E1,E2,E3,Et,by rw [f3]; exact Go.Fp.Dt,by rw [f1,f3]; simp only [Us]; grobner,by rw [f2,f3]; simp only [Us]; grobner,by rw [ft,f1,f2,f3]; simp only [Us]; grobner⟩
 have L1:=E1.len
 have L2:=E2.len
 have g1:fillL (Qa 32 (Value.int .u8 0)) [(0,1,.int .u8 26),(1,1,.int .u8 213),(2,1,.int .u8 37),(3,1,.int .u8 143),(4,1,.int .u8 96),(5,1,.int .u8 45),(6,1,.int .u8 86),(7,1,.int .u8 201),(8,1,.int .u8 178),(9,1,.int .u8 167),(10,1,.int .u8 37),(11,1,.int .u8 149),(12,1,.int .u8 96),(13,1,.int .u8 199),(14,1,.int .u8 44),(15,1,.int .u8 105),(16,1,.int .u8 92),(17,1,.int .u8 220),(18,1,.int .u8 214),(19,1,.int .u8 253),(20,1,.int .u8 49),(21,1,.int .u8 226),(22,1,.int .u8 164),(23,1,.int .u8 192),(24,1,.int .u8 254),(25,1,.int .u8 83),(26,1,.int .u8 110),(27,1,.int .u8 205),(28,1,.int .u8 211),(29,1,.int .u8 54),(30,1,.int .u8 105),(31,1,.int .u8 33)]=some (u8s bxK):=by
  have:bxK=[26,213,37,143,96,45,86,201,178,167,37,149,96,199,44,105,92,220,214,253,49,226,164,192,254,83,110,205,211,54,105,33]:=by decide +kernel
  rw [this]; rfl
 have g2:fillL (Qa 32 (Value.int .u8 0)) [(0,1,.int .u8 88),(1,1,.int .u8 102),(2,1,.int .u8 102),(3,1,.int .u8 102),(4,1,.int .u8 102),(5,1,.int .u8 102),(6,1,.int .u8 102),(7,1,.int .u8 102),(8,1,.int .u8 102),(9,1,.int .u8 102),(10,1,.int .u8 102),(11,1,.int .u8 102),(12,1,.int .u8 102),(13,1,.int .u8 102),(14,1,.int .u8 102),(15,1,.int .u8 102),(16,1,.int .u8 102),(17,1,.int .u8 102),(18,1,.int .u8 102),(19,1,.int .u8 102),(20,1,.int .u8 102),(21,1,.int .u8 102),(22,1,.int .u8 102),(23,1,.int .u8 102),(24,1,.int .u8 102),(25,1,.int .u8 102),(26,1,.int .u8 102),(27,1,.int .u8 102),(28,1,.int .u8 102),(29,1,.int .u8 102),(30,1,.int .u8 102),(31,1,.int .u8 102)]=some (u8s byK):=by
  have:byK=[88,102,102,102,102,102,102,102,102,102,102,102,102,102,102,102,102,102,102,102,102,102,102,102,102,102,102,102,102,102,102,102]:=by decide +kernel
  rw [this]; rfl
 generalize pL X Y O t=Q at *
 apply Ks
 apply Z4
 rw [Z5 (fn:=a25) rfl]
 simp only [a25,Z6,quiet,cF,↓pF,reduceCtorEq,Qd,Qq,Zn,Zi,Zm,Zh,Ze,Qf,Q0,Qg,Q2,Q8,Q7,↓Xb,↓Xa,↓Xw,↓Xz,↓Xx,↓Xy,cL,Qp,Qo,Qz,Qy,Qv,Qn,Qm,Qx,Qe,Q5,Q6,Qw,Qk,Qj,Qi,Qu,Qt,Qs,Ql,Qh,cJ,g1,g2,h1,h2,v1,ht,hf,Q9,Xo,Xe,Kb,Yb,Kc,Ky,p1,L1,L2,V4]
 rfl
theorem Q6x {a b c:List Nat} {n:Nat} (hb:b.length=20) (ha:a.length=n):Kw 20 (Wc n (ns .u64 (a++(b++c))))=ns .u64 b:=by
 simp only [Qcp]
 rw [Yj (by rw [Ky]; omega),Y6 (by rw [Ky]; omega),Zc,Ya (by rw [Ky]; omega),Zj (by rw [Ky]; omega)]
theorem Qwy {H:List Ob} {l:List Ob} {id n i:Nat} {o x r d:List Nat} {R:Ob} {cs:List Value} {g:List Ob} (hi:i<n) (hn:n<100) (l1:x.length=20) (l2:o.length=20) (l4:d.length=5) (hm:Vw T 54 [eV o,eV x,eV d]=some (eV r)) (l3:r.length=20)
  (hA:∀ l,(H++l)[id]?=some ⟨cs,true,true,true,1⟩) (hcs:(cs.drop (i*20)).take 20=ns .u64 x) (hlen:i*20+20≤cs.length) :
  Jv T H.length Qj6 ⟨[(2,.pointer (some ⟨H.length,0,none⟩)),(3,.pointer (some ⟨H.length+1,0,none⟩)),(4,.pointer (some ⟨H.length+2,0,none⟩)),(9,.slice (some ⟨id,0,none⟩) n n),(10,.int .i64 n),(11,.int .i64 i)],H++(R::⟨ns .u64 o,true,true,true,1⟩::⟨ns .u64 d,true,true,true,1⟩::g),[]⟩ =
   some (.normal,⟨[(2,.pointer (some ⟨H.length,0,none⟩)),(3,.pointer (some ⟨H.length+1,0,none⟩)),(4,.pointer (some ⟨H.length+2,0,none⟩)),(9,.slice (some ⟨id,0,none⟩) n n),(10,.int .i64 n),(11,.int .i64 ((i+1:Nat):Int))],H++(R::⟨ns .u64 r,true,true,true,1⟩::⟨ns .u64 d,true,true,true,1⟩::(g++[⟨ns .u64 x,true,true,true,1⟩])),[]⟩):=by
 have hz:∃ Z,Qa 20 (Value.int .u64 0)=ns .u64 Z∧Z.length=20:=⟨Qa 20 0,rfl,rfl⟩
 obtain ⟨Z,hz,l0⟩:=hz
 have e1:((i:Int)<(n:Int))=True:=eq_true (by omega)
 have w3:IntKind.i64.wrap ((i:Int)+1)=((i+1:Nat):Int):=Ym (n:=i+1) (by omega)
 simp only [Qj6,Z6,quiet,cF,↓pF,reduceCtorEq,Qd,Qq,Zn,V9,↓Xb,↓Xa,↓Xw,↓Xz,↓Xx,↓Xy,cL,Qp,Qo,Qz,Qy,Qv,Qn,Qm,Qx,Qe,Q5,Q6,Qw,Qk,Qj,Qi,Qu,Qt,Qs,Ql,Qh,cJ,Vr,hz,hA,hcs,hlen,hm,Xe,Kb,Yb,Kc,Ky,l0,l1,l2,l3,l4,V4,e1,w3]
inductive Reps:List (List Nat)→List (Go.Cv.Pt Go.Fp.P Go.Fp.d)→Prop
 | nil:Reps [] []
 | cons {x xs p ps}:RepL x p→Reps xs ps→Reps (x::xs) (p::ps)
theorem Reps.len {xs:List (List Nat)} {ps:List (Go.Cv.Pt Go.Fp.P Go.Fp.d)} (h:Reps xs ps):xs.length=ps.length:=by
 induction h with
 | nil=>rfl
 | cons _ _ ih=>simp [ih]
theorem Reps.all {xs:List (List Nat)} {ps:List (Go.Cv.Pt Go.Fp.P Go.Fp.d)} (h:Reps xs ps):∀ x∈xs,x.length=20:=by
 induction h with
 | nil=>simp
 | cons h _ ih=>intro y hy; rcases Yt.1 hy with rfl | hy; exact h.len; exact ih y hy
theorem Reps.get {xs:List (List Nat)} {ps:List (Go.Cv.Pt Go.Fp.P Go.Fp.d)} (h:Reps xs ps):∀ {i:Nat} {x:List Nat},xs[i]?=some x→∃ p,ps[i]?=some p∧RepL x p:=by
 induction h with
 | nil=>intro i x h; simp at h
 | cons h _ ih =>
  intro i x hx
  cases i with
  | zero=>simp at hx; subst hx; exact ⟨_,rfl,h⟩
  | succ i=>simp at hx; simpa using ih hx
theorem Q0p:∀ (ys:List (List Nat)),(∀ x∈ys,x.length=20)→ys.flatten.length=ys.length*20:=by
 intro ys hy
 induction ys with
 | nil=>rfl
 | cons y ys ih =>
  rw [J3,Za,ih (fun x hx=>hy x (by simp [hx])),(hy y (by simp)),Zx]; omega
theorem Q5l {H:List Ob} {id n:Nat} {xs:List (List Nat)} {ps:List (Go.Cv.Pt Go.Fp.P Go.Fp.d)} (hn:xs.length=n) (hN:n<100) (hx:Reps xs ps) (h:H[id]?=some ⟨ns .u64 xs.flatten,true,true,true,1⟩) :
  ∃ r d,Vv T 46 [.slice (some ⟨id,0,none⟩) n n] H=some (eV r,H++(⟨ns .u64 r,true,true,true,1⟩::⟨ns .u64 r,true,true,true,1⟩::⟨ns .u64 d,true,true,true,1⟩::xs.map fun x=>(⟨ns .u64 x,true,true,true,1⟩:Ob)),[])∧RepL r (ps.foldl Ue B7):=by
 have hid:id<H.length:=(Q1.1 h).1
 have hA:∀ l,(H++l)[id]?=some ⟨ns .u64 xs.flatten,true,true,true,1⟩:=fun l=>by rw [Qc hid]; exact h
 obtain ⟨d,hd,Ed,fd⟩:=Qjg
 obtain ⟨z,hz,Ez⟩:=Qqx
 have hZ:∃ Z,Qa 20 (Value.int .u64 0)=ns .u64 Z∧Z.length=20:=⟨Qa 20 0,rfl,rfl⟩
 obtain ⟨Z,hZ,l0⟩:=hZ
 obtain ⟨st,hb,r,rfl,hr1⟩:=Yg (T:=T) (base:=H.length) (id:=0) (body:=Qj6)
  (fun i st=>∃ r:List Nat,st=⟨[(2,.pointer (some ⟨H.length,0,none⟩)),(3,.pointer (some ⟨H.length+1,0,none⟩)),(4,.pointer (some ⟨H.length+2,0,none⟩)),(9,.slice (some ⟨id,0,none⟩) n n),(10,.int .i64 n),(11,.int .i64 (i:Nat))],H++(⟨ns .u64 Z,true,true,true,1⟩::⟨ns .u64 r,true,true,true,1⟩::⟨ns .u64 d,true,true,true,1⟩::((xs.take i).map fun x=>(⟨ns .u64 x,true,true,true,1⟩:Ob))),[]⟩∧RepL r ((ps.take i).foldl Ue B7))
  (Q:=fun st=>∃ r:List Nat,st=⟨[(2,.pointer (some ⟨H.length,0,none⟩)),(3,.pointer (some ⟨H.length+1,0,none⟩)),(4,.pointer (some ⟨H.length+2,0,none⟩)),(9,.slice (some ⟨id,0,none⟩) n n),(10,.int .i64 n),(11,.int .i64 n),(12,.bool false)],H++(⟨ns .u64 Z,true,true,true,1⟩::⟨ns .u64 r,true,true,true,1⟩::⟨ns .u64 d,true,true,true,1⟩::(xs.map fun x=>(⟨ns .u64 x,true,true,true,1⟩:Ob))),[]⟩∧RepL r (ps.foldl Ue B7))
  n (s:=⟨[(2,.pointer (some ⟨H.length,0,none⟩)),(3,.pointer (some ⟨H.length+1,0,none⟩)),(4,.pointer (some ⟨H.length+2,0,none⟩)),(9,.slice (some ⟨id,0,none⟩) n n),(10,.int .i64 n),(11,.int .i64 0)],H++[⟨ns .u64 Z,true,true,true,1⟩,⟨ns .u64 z,true,true,true,1⟩,⟨ns .u64 d,true,true,true,1⟩],[]⟩) ⟨z,rfl,Ez⟩
  (fun i st hi hs=>by
   obtain ⟨r,rfl,hr1⟩:=hs
   obtain ⟨x,hxi⟩:∃ y,xs[i]?=some y:=⟨_,Q3 (by omega)⟩
   obtain ⟨p,hpi,hxe⟩:=hx.get hxi
   obtain ⟨r',hm,g1⟩:=Q5y hr1 hxe Ed fd
   have hsplit:xs=xs.take i++x::xs.drop (i+1):=by
    have h1:=Q1.1 hxi
    conv=>lhs; rw [←Yr i xs,Yx h1.1,h1.2]
   have htl:(xs.take i).flatten.length=i*20:=by
    rw [Q0p _ (fun y hy=>hx.all y (Kr hy)),Jy,Kx (by omega)]
   have hcs:((ns .u64 xs.flatten).drop (i*20)).take 20=ns .u64 x:=by
    conv=>lhs; rw [hsplit,Vh,J3]
    exact Q6x hxe.len htl
   have hb:=Qwy (R:=⟨ns .u64 Z,true,true,true,1⟩) (g:=(xs.take i).map fun x=>(⟨ns .u64 x,true,true,true,1⟩:Ob)) (l:=[]) hi hN hxe.len hr1.len Ed.len hm g1.len hA hcs (by rw [Ky,Q0p xs hx.all,hn]; omega)
   have htk:xs.take (i+1)=xs.take i++[x]:=by rw [V3,hxi]; rfl
   have htp:ps.take (i+1)=ps.take i++[p]:=by rw [V3,hpi]; rfl
   refine ⟨_,hb,r',?_,?_⟩
   ·rw [htk,By]; rfl
   ·rw [htp,List.foldl_append]; exact g1)
  (fun st hs=>by
   obtain ⟨r,rfl,hr1⟩:=hs
   have e1:((n:Int)<(n:Int))=False:=eq_false (by omega)
   have ht:xs.take n=xs:=Zj (by omega)
   have ht2:ps.take n=ps:=Zj (by have:=hx.len; omega)
   rw [ht2] at hr1
   rw [ht]
   refine ⟨_,?_,r,rfl,hr1⟩
   simp only [Qj6,Z6,quiet,cF,↓pF,reduceCtorEq,Qd,Qq,Zn,V9,↓Xb,↓Xa,↓Xw,↓Xz,↓Xx,↓Xy,cL,Qp,Qo,Qz,Qy,Qv,Qn,Qm,Qx,Qe,Q5,Q6,Qw,Qk,Qj,Qi,Qu,Qt,Qs,Ql,Qh,e1])
 refine ⟨r,d,?_,hr1⟩
 have l1:=hr1.len
 have l2:=Ez.len
 have l3:=Ed.len
 rw [Z5 (fn:=a27) rfl]
 have hz5:Qa 5 (Value.int .u64 0)=ns .u64 [0,0,0,0,0]:=rfl
 have l5:([0,0,0,0,0]:List Nat).length=5:=rfl
 simp only [a27,Z6,quiet,cF,↓pF,reduceCtorEq,Qd,Qq,Zn,V9,↓Xb,↓Xa,↓Xw,↓Xz,↓Xx,↓Xy,cL,Qp,Qo,Qz,Qy,Qv,Qn,Qm,Qx,Qe,Q5,Q6,Qw,Qk,Qj,Qi,Qu,Qt,Qs,Ql,Qh,cJ,Vr,hZ,hz5,l5,hd,hz,hb,Xe,Kb,Yb,Kc,Ky,l0,l1,l2,l3,V4]
theorem fold2 {p q:Go.Cv.Pt Go.Fp.P Go.Fp.d}:[p,q].foldl Ue B7=Ue p q:=by
 show Ue (Ue B7 p) q=_
 rw [show Ue B7 p=p from Go.Cv.zero_add Go.Fp.fld p]
end Go.Ev.Ytpgphpkjlpkcbaa
namespace Go.Ev.Ytpgphpkjlpkcbaa
open Go Go.Ev
attribute [local congr] Wp W0 Wo W3 Wh
set_option maxRecDepth 100000
def Ru (u v:Go.Fp.Fe):Go.Fp.Fe:=u*(v*v*v)*Go.Fp.pow (u*(v*v*v)*(v*v*v)*v) (2^252-1-2)
def jj:Go.Fp.Fe:=Go.Fp.pow 2 (2^253-1-4)
theorem jj_eq:jj=Go.Fp.i:=by
 show Go.Fp.pow (Go.Fp.fp 2) _=Go.Fp.fp Go.Fp.iN
 exact Go.Fp.Qoj (f:=256) (by decide +kernel) (by decide +kernel)
theorem jj_sq:jj*jj = -1:=by rw [jj_eq]; exact Go.Fp.Qrb
theorem quarter:(2^252-1-2)+(2^252-1-2)+1+((2^252-1-2)+(2^252-1-2)+1)=(Go.Fp.P-1)/2:=by rw [Go.Fp.Qb7]
theorem Q3j {u v s:Go.Fp.Fe} (h1:v*Ru u v*Ru u v≠u) (h2:v*Ru u v*Ru u v ≠ -u):v*(s*s)≠u:=fun hs=>by
 have F:=Go.Fp.fld
 obtain ⟨g,hg⟩:∃ g,g=v*v*v*v*s:=⟨_,rfl⟩
 have ht:u*(v*v*v)*(v*v*v)*v=g*g:=by subst hg; subst hs; grobner
 rcases Go.Fp.Qok g with h | h
 ·obtain ⟨k,hk⟩:∃ k,k=2^252-1-2:=⟨_,rfl⟩
  have hq:=quarter
  rw [←hk] at hq
  rw [←hq,Go.Fp.pow_add,Go.Fp.pow_add,Go.Fp.pow_add,Go.Fp.pow_one] at h
  have hw:Ru u v=u*(v*v*v)*Go.Fp.pow (g*g) k:=by unfold Ru; rw [ht,hk]
  rw [hw] at h1 h2
  generalize Go.Fp.pow (g*g) k=q at *
  have he:(q*q*(g*g)-1)*(q*q*(g*g)+1)=0:=by clear h1 h2 hw ht hg hs; grobner
  have hv:v*(u*(v*v*v)*q)*(u*(v*v*v)*q)=u*(q*q*(g*g)):=by clear h1 h2 hw hg hs he h; grobner
  rcases F.dom he with h | h
  ·exact h1 (by rw [hv]; clear h1 h2 hw ht hg hs he hv; grobner)
  ·exact h2 (by rw [hv]; clear h1 h2 hw ht hg hs he hv; grobner)
 ·have hu:u*(v*v*v)*(v*v*v)*v=0:=by rw [ht,h]; grobner
  have hu0:u=0:=by
   rcases F.dom hu with h0 | h0
   ·rcases F.dom h0 with h0 | h0
    ·rcases F.dom h0 with h0 | h0
     ·exact h0
     ·rcases F.dom h0 with h0 | h0
      ·rcases F.dom h0 with h0 | h0<;>(rw [←hs,h0]; grobner)
      ·rw [←hs,h0]; grobner
    ·rcases F.dom h0 with h0 | h0
     ·rcases F.dom h0 with h0 | h0<;>(rw [←hs,h0]; grobner)
     ·rw [←hs,h0]; grobner
   ·rw [←hs,h0]; grobner
  exact h1 (by unfold Ru; rw [hu0]; grobner)
theorem Q26:Vw T 77 [.int .i64 252,.int .u8 2]=some (.agg (u8s (dig 256 32 (2^252-1-2))).toArray):=Qrp (n:=252) (less:=2) (by decide) (by decide) (by decide)
theorem Q25:Vw T 77 [.int .i64 253,.int .u8 4]=some (.agg (u8s (dig 256 32 (2^253-1-4))).toArray):=Qrp (n:=253) (less:=4) (by decide) (by decide) (by decide)
def Qoe (r:List Nat) (ok:Bool):Value := .tuple #[eV r,.bool ok]
theorem Q6p {u v:List Nat} (Eu:El u (2^52)) (Ev:El v (2^52)) :
  ∃ r ok,Vw T 79 [eV u,eV v]=some (Qoe r ok)∧El r (2^52)∧(ok=true→fe v*(fe r*fe r)=fe u∧((fe r).val%2=0∨fe r=0))∧(ok=false→∀ s,fe v*(s*s)≠fe u):=by
 obtain ⟨r1,hr1,Er1,fr1⟩:=Rv (H:=[⟨ns .u64 u,true,true,true,1⟩,⟨ns .u64 v,true,true,true,1⟩,⟨ns .u64 [0,0,0,0,0],true,true,true,1⟩,⟨ns .u64 [v,v,v].flatten,true,true,true,1⟩]) (id:=3) (n:=3) (xs:=[v,v,v]) rfl (by decide) (by intro w hw; simp only [Yt,Wb,or_false] at hw; rcases hw with rfl | rfl | rfl<;>assumption) rfl
 simp only [Wi,W8,Zg,Zc] at hr1
 simp only [Wi,W8,Ui,Gv] at fr1
 obtain ⟨r2,hr2,Er2,fr2⟩:=Rv (H:=[⟨ns .u64 u,true,true,true,1⟩,⟨ns .u64 v,true,true,true,1⟩,⟨ns .u64 [0,0,0,0,0],true,true,true,1⟩,⟨ns .u64 [v,v,v].flatten,true,true,true,1⟩,⟨ns .u64 r1,true,true,true,1⟩,⟨ns .u64 r1,true,true,true,1⟩,⟨ns .u64 v,true,true,true,1⟩,⟨ns .u64 v,true,true,true,1⟩,⟨ns .u64 v,true,true,true,1⟩,⟨ns .u64 r1,true,true,true,1⟩,⟨ns .u64 [u,r1,r1,v].flatten,true,true,true,1⟩]) (id:=10) (n:=4) (xs:=[u,r1,r1,v]) rfl (by decide) (by intro w hw; simp only [Yt,Wb,or_false] at hw; rcases hw with rfl | rfl | rfl | rfl<;>assumption) rfl
 simp only [Wi,W8,Zg,Zc] at hr2
 simp only [Wi,W8,Ui,Gv] at fr2
 obtain ⟨r3,hr3,Er3,fr3⟩:=Qdr (n:=252) (less:=2) Er2 (by decide) (by decide) (by decide)
 obtain ⟨r4,hr4,Er4,fr4⟩:=Rv (H:=[⟨ns .u64 u,true,true,true,1⟩,⟨ns .u64 v,true,true,true,1⟩,⟨ns .u64 [0,0,0,0,0],true,true,true,1⟩,⟨ns .u64 [v,v,v].flatten,true,true,true,1⟩,⟨ns .u64 r1,true,true,true,1⟩,⟨ns .u64 r1,true,true,true,1⟩,⟨ns .u64 v,true,true,true,1⟩,⟨ns .u64 v,true,true,true,1⟩,⟨ns .u64 v,true,true,true,1⟩,⟨ns .u64 r1,true,true,true,1⟩,⟨ns .u64 [u,r1,r1,v].flatten,true,true,true,1⟩,⟨ns .u64 r2,true,true,true,1⟩,⟨ns .u64 r2,true,true,true,1⟩,⟨ns .u64 u,true,true,true,1⟩,⟨ns .u64 r1,true,true,true,1⟩,⟨ns .u64 r1,true,true,true,1⟩,⟨ns .u64 v,true,true,true,1⟩,⟨ns .u64 [u,r1,r3].flatten,true,true,true,1⟩]) (id:=17) (n:=3) (xs:=[u,r1,r3]) rfl (by decide) (by intro w hw; simp only [Yt,Wb,or_false] at hw; rcases hw with rfl | rfl | rfl<;>assumption) rfl
 simp only [Wi,W8,Zg,Zc] at hr4
 simp only [Wi,W8,Ui,Gv] at fr4
 obtain ⟨r5,hr5,Er5,fr5⟩:=Rv (H:=[⟨ns .u64 u,true,true,true,1⟩,⟨ns .u64 v,true,true,true,1⟩,⟨ns .u64 [0,0,0,0,0],true,true,true,1⟩,⟨ns .u64 [v,v,v].flatten,true,true,true,1⟩,⟨ns .u64 r1,true,true,true,1⟩,⟨ns .u64 r1,true,true,true,1⟩,⟨ns .u64 v,true,true,true,1⟩,⟨ns .u64 v,true,true,true,1⟩,⟨ns .u64 v,true,true,true,1⟩,⟨ns .u64 r1,true,true,true,1⟩,⟨ns .u64 [u,r1,r1,v].flatten,true,true,true,1⟩,⟨ns .u64 r2,true,true,true,1⟩,⟨ns .u64 r2,true,true,true,1⟩,⟨ns .u64 u,true,true,true,1⟩,⟨ns .u64 r1,true,true,true,1⟩,⟨ns .u64 r1,true,true,true,1⟩,⟨ns .u64 v,true,true,true,1⟩,⟨ns .u64 [u,r1,r3].flatten,true,true,true,1⟩,⟨ns .u64 r4,true,true,true,1⟩,⟨ns .u64 r4,true,true,true,1⟩,⟨ns .u64 u,true,true,true,1⟩,⟨ns .u64 r1,true,true,true,1⟩,⟨ns .u64 r3,true,true,true,1⟩,⟨ns .u64 r4,true,true,true,1⟩,⟨ns .u64 [v,r4,r4].flatten,true,true,true,1⟩]) (id:=24) (n:=3) (xs:=[v,r4,r4]) rfl (by decide) (by intro w hw; simp only [Yt,Wb,or_false] at hw; rcases hw with rfl | rfl | rfl<;>assumption) rfl
 simp only [Wi,W8,Zg,Zc] at hr5
 simp only [Wi,W8,Ui,Gv] at fr5
 have k1:=Q4n Er5 Eu
 obtain ⟨nu,hnu,Enu,fnu⟩:=Qlm Eu
 have k2:=Q4n Er5 Enu
 obtain ⟨two,htwo⟩:∃ two:List Nat,two=[2,0,0,0,0]:=⟨_,rfl⟩
 have Etwo:El two (2^52):=by rw [htwo]; exact Qxo
 have vtwo:Vw T 37 [.int .u32 2]=some (eV two):=by rw [htwo]; exact Qxl
 have ftwo:fe two=2:=by rw [htwo]; exact Qq4
 clear htwo
 obtain ⟨j,hj,Ej,fj⟩:=Qdr (n:=253) (less:=4) Etwo (by decide) (by decide) (by decide)
 obtain ⟨q,hq,Eq,fq⟩:=Wz Er4 Ej
 obtain ⟨n1,hn1,En1,fn1⟩:=Qlm Er4
 obtain ⟨n2,hn2,En2,fn2⟩:=Qlm Eq
 have o1:=Qzk Er4
 have o2:=Qzk Eq
 have c1:=Q26
 have c2:=Q25
 have g1:=Ql0 Ev Ev Ev
 have g2:=Qg5 Eu Er1 Er1 Ev
 rw [Qtl] at g2
 have g3:=Ql0 Eu Er1 Er3
 have g4:=Ql0 Ev Er4 Er4
 have hw:fe r4=Ru (fe u) (fe v):=by
  rw [fr4,fr3,fr1,fr2,fr1]; unfold Ru
  rw [show (1*fe u*(1*fe v*fe v*fe v)*(1*fe v*fe v*fe v)*fe v)=fe u*(fe v*fe v*fe v)*(fe v*fe v*fe v)*fe v from by grobner]
  generalize Go.Fp.pow _ _=p
  grobner
 have hjj:fe j=jj:=by rw [fj,ftwo]; rfl
 have l1:=Eu.len
 have l2:=Ev.len
 have l3:=Er1.len
 have l4:=Er4.len
 have l5:=Er5.len
 have l6:=Eq.len
 have l7:=En1.len
 have l8:=En2.len
 have hz5:Qa 5 (Value.int .u64 0)=ns .u64 [0,0,0,0,0]:=rfl
 have hf5:fillL (ns .u64 [0,0,0,0,0]) []=some (ns .u64 [0,0,0,0,0]):=rfl
 have l0:([0,0,0,0,0]:List Nat).length=5:=rfl
 clear Ej Etwo ftwo fj
 generalize dig 256 32 (2^252-1-2)=K1 at *
 generalize dig 256 32 (2^253-1-4)=K2 at *
 have hsq:fe r5=fe v*Ru (fe u) (fe v)*Ru (fe u) (fe v):=by rw [fr5,hw]; generalize Ru (fe u) (fe v)=w; grobner
 have evn:∀ a:Go.Fp.Fe,a.val%2=1→(-a).val%2=0 ∨ -a=0:=by
  intro a ha
  left
  have hlt:=a.isLt
  have h0:(Go.Fp.P-a.val)<Go.Fp.P:=by omega
  have h1:(-a).val=(Go.Fp.P-a.val)%Go.Fp.P:=rfl
  rw [h1,Jd h0]
  have hP:Go.Fp.P%2=1:=by rw [Go.Fp.Qb7]
  omega
 by_cases hA:fe r5=fe u
 ·rw [decide_eq_true hA] at k1
  have hroot:fe v*(fe r4*fe r4)=fe u:=by rw [←hA,hsq,hw]; generalize Ru (fe u) (fe v)=w; grobner
  by_cases hO:(fe r4).val%2=1
  ·rw [decide_eq_true hO] at o1
   refine ⟨n1,true,?_,En1,fun _=>⟨?_,?_⟩,fun h=>by cases h⟩
   ·apply Ks
    apply Z4
    rw [Z5 (fn:=a60) rfl]
    simp only [a60,Z6,quiet,cF,↓pF,reduceCtorEq,Qd,Qq,Zn,Zi,Zm,Zh,Ze,Qf,Q0,Qg,Q2,Q8,Q7,↓Xb,↓Xa,↓Xw,↓Xz,↓Xx,↓Xy,cL,Qp,Qo,Qz,Qy,Qv,Qn,Qm,Qx,Qe,Q5,Q6,Qw,Qk,Qj,Qi,Qu,Qt,Qs,Ql,Qh,cJ,hz5,hf5,l0,g1,g2,g3,g4,c1,c2,hr1,hr2,hr3,hr4,hr5,k1,o1,hn1,l1,l2,l3,l4,l5,l7,Q9,Xo,Xe,Kb,Yb,Kc,Ky,V4]
    rfl
   ·rw [fn1,←hroot]; generalize fe r4=w; grobner
   ·rw [fn1]; exact evn _ hO
  ·rw [decide_eq_false hO] at o1
   refine ⟨r4,true,?_,Er4,fun _=>⟨hroot,by left; omega⟩,fun h=>by cases h⟩
   apply Ks
   apply Z4
   rw [Z5 (fn:=a60) rfl]
   simp only [a60,Z6,quiet,cF,↓pF,reduceCtorEq,Qd,Qq,Zn,Zi,Zm,Zh,Ze,Qf,Q0,Qg,Q2,Q8,Q7,↓Xb,↓Xa,↓Xw,↓Xz,↓Xx,↓Xy,cL,Qp,Qo,Qz,Qy,Qv,Qn,Qm,Qx,Qe,Q5,Q6,Qw,Qk,Qj,Qi,Qu,Qt,Qs,Ql,Qh,cJ,hz5,hf5,l0,g1,g2,g3,g4,c1,c2,hr1,hr2,hr3,hr4,hr5,k1,o1,hn1,l1,l2,l3,l4,l5,l7,Q9,Xo,Xe,Kb,Yb,Kc,Ky,V4]
   rfl
 ·rw [decide_eq_false hA] at k1
  by_cases hB:fe r5=fe nu
  ·rw [decide_eq_true hB] at k2
   have hroot:fe v*(fe q*fe q)=fe u:=by
    have hs:=jj_sq
    rw [hsq,fnu] at hB
    rw [fq,hw,hjj]
    generalize Ru (fe u) (fe v)=w at *
    clear k1 k2 o1 o2 c1 c2 hA hsq hw fr1 fr2 fr3 fr4 fr5
    grobner
   by_cases hO:(fe q).val%2=1
   ·rw [decide_eq_true hO] at o2
    refine ⟨n2,true,?_,En2,fun _=>⟨?_,?_⟩,fun h=>by cases h⟩
    ·apply Ks
     apply Z4
     rw [Z5 (fn:=a60) rfl]
     simp only [a60,Z6,quiet,cF,↓pF,reduceCtorEq,Qd,Qq,Zn,Zi,Zm,Zh,Ze,Qf,Q0,Qg,Q2,Q8,Q7,↓Xb,↓Xa,↓Xw,↓Xz,↓Xx,↓Xy,cL,Qp,Qo,Qz,Qy,Qv,Qn,Qm,Qx,Qe,Q5,Q6,Qw,Qk,Qj,Qi,Qu,Qt,Qs,Ql,Qh,cJ,hz5,hf5,l0,g1,g2,g3,g4,c1,c2,hr1,hr2,hr3,hr4,hr5,k1,k2,hnu,vtwo,hj,hq,o2,hn2,l1,l2,l3,l4,l5,l6,l8,Q9,Xo,Xe,Kb,Yb,Kc,Ky,V4]
     rfl
    ·rw [fn2,←hroot]; generalize fe q=w; grobner
    ·rw [fn2]; exact evn _ hO
   ·rw [decide_eq_false hO] at o2
    refine ⟨q,true,?_,Eq,fun _=>⟨hroot,by left; omega⟩,fun h=>by cases h⟩
    apply Ks
    apply Z4
    rw [Z5 (fn:=a60) rfl]
    simp only [a60,Z6,quiet,cF,↓pF,reduceCtorEq,Qd,Qq,Zn,Zi,Zm,Zh,Ze,Qf,Q0,Qg,Q2,Q8,Q7,↓Xb,↓Xa,↓Xw,↓Xz,↓Xx,↓Xy,cL,Qp,Qo,Qz,Qy,Qv,Qn,Qm,Qx,Qe,Q5,Q6,Qw,Qk,Qj,Qi,Qu,Qt,Qs,Ql,Qh,cJ,hz5,hf5,l0,g1,g2,g3,g4,c1,c2,hr1,hr2,hr3,hr4,hr5,k1,k2,hnu,vtwo,hj,hq,o2,hn2,l1,l2,l3,l4,l5,l6,l8,Q9,Xo,Xe,Kb,Yb,Kc,Ky,V4]
    rfl
  ·rw [decide_eq_false hB] at k2
   refine ⟨[0,0,0,0,0],false,?_,Qhz,fun h=>(by cases h),fun _ s=>Q3j (by rw [←hsq]; exact hA) (by rw [←hsq,←fnu]; exact hB)⟩
   apply Ks
   apply Z4
   rw [Z5 (fn:=a60) rfl]
   simp only [a60,Z6,quiet,cF,↓pF,reduceCtorEq,Qd,Qq,Zn,Zi,Zm,Zh,Ze,Qf,Q0,Qg,Q2,Q8,Q7,↓Xb,↓Xa,↓Xw,↓Xz,↓Xx,↓Xy,cL,Qp,Qo,Qz,Qy,Qv,Qn,Qm,Qx,Qe,Q5,Q6,Qw,Qk,Qj,Qi,Qu,Qt,Qs,Ql,Qh,cJ,hz5,hf5,l0,g1,g2,g3,g4,c1,c2,hr1,hr2,hr3,hr4,hr5,k1,k2,hnu,l1,l2,l3,l4,l5,Q9,Xo,Xe,Kb,Yb,Kc,Ky,V4]
   rfl
structure Jac where
 x:Nat
 y:Nat
 z:Nat
 t:Nat
structure JRep (a:Jac) (p:Go.Cv.Pt Go.Fp.P Go.Fp.d):Prop where
 nz:Go.Fp.fp a.z≠0
 x:Go.Fp.fp a.x=p.x*Go.Fp.fp a.z
 y:Go.Fp.fp a.y=p.y*Go.Fp.fp a.z
 t:Go.Fp.fp a.t=p.x*p.y*Go.Fp.fp a.z
def Qpa (a b:Nat):Nat:=a+(Go.Fp.P-b%Go.Fp.P)
theorem Qcv (a b:Nat):Go.Fp.fp (Qpa a b)=Go.Fp.fp a-Go.Fp.fp b:=by
 unfold Qpa
 have h:b%Go.Fp.P≤Go.Fp.P:=Um (Jw _ (by rw [Go.Fp.Qb7]; decide))
 rw [Go.Fp.H9,Go.Fp.Q7u h,Go.Fp.fp_P,Go.Fp.M9]
 grobner
def Qjb (a b:Jac):Nat:=Qpa a.y a.x*Qpa b.y b.x%Go.Fp.P
def Qja (a b:Jac):Nat:=(a.y+a.x)*(b.y+b.x)%Go.Fp.P
def Qi9 (a b:Jac):Nat:=1*2*Go.Fp.dN*a.t*b.t%Go.Fp.P
def Qi8 (a b:Jac):Nat:=1*2*a.z*b.z%Go.Fp.P
def jfin (a b c e:Nat):Jac:=⟨Qpa b a*Qpa e c%Go.Fp.P,(e+c)*(b+a)%Go.Fp.P,Qpa e c*(e+c)%Go.Fp.P,Qpa b a*(b+a)%Go.Fp.P⟩
def Qpk (a b:Jac):Jac:=jfin (Qjb a b) (Qja a b) (Qi9 a b) (Qi8 a b)
theorem JRep.add {a b:Jac} {p q:Go.Cv.Pt Go.Fp.P Go.Fp.d} (h1:JRep a p) (h2:JRep b q):JRep (Qpk a b) (Ue p q):=by
 have ha:Go.Fp.fp (Qjb a b)=(Go.Fp.fp a.y-Go.Fp.fp a.x)*(Go.Fp.fp b.y-Go.Fp.fp b.x):=by
  unfold Qjb; rw [Go.Fp.M9,Go.Fp.B5,Qcv,Qcv]
 have hb:Go.Fp.fp (Qja a b)=(Go.Fp.fp a.y+Go.Fp.fp a.x)*(Go.Fp.fp b.y+Go.Fp.fp b.x):=by
  unfold Qja; rw [Go.Fp.M9,Go.Fp.B5,Go.Fp.H9,Go.Fp.H9]
 have hc:Go.Fp.fp (Qi9 a b)=1*2*Go.Fp.d*Go.Fp.fp a.t*Go.Fp.fp b.t:=by
  unfold Qi9; rw [Go.Fp.M9,Go.Fp.B5,Go.Fp.B5,Go.Fp.B5,Go.Fp.B5,Go.Fp.Qnd,Go.Fp.Q0n]; rfl
 have hd:Go.Fp.fp (Qi8 a b)=1*2*Go.Fp.fp a.z*Go.Fp.fp b.z:=by
  unfold Qi8; rw [Go.Fp.M9,Go.Fp.B5,Go.Fp.B5,Go.Fp.B5,Go.Fp.Qnd,Go.Fp.Q0n]
 have hx:Go.Fp.fp (Qpk a b).x=(Go.Fp.fp (Qja a b)-Go.Fp.fp (Qjb a b))*(Go.Fp.fp (Qi8 a b)-Go.Fp.fp (Qi9 a b)):=by
  show Go.Fp.fp (_%_)=_; rw [Go.Fp.M9,Go.Fp.B5,Qcv,Qcv]
 have hy:Go.Fp.fp (Qpk a b).y=(Go.Fp.fp (Qi8 a b)+Go.Fp.fp (Qi9 a b))*(Go.Fp.fp (Qja a b)+Go.Fp.fp (Qjb a b)):=by
  show Go.Fp.fp (_%_)=_; rw [Go.Fp.M9,Go.Fp.B5,Go.Fp.H9,Go.Fp.H9]
 have hz:Go.Fp.fp (Qpk a b).z=(Go.Fp.fp (Qi8 a b)-Go.Fp.fp (Qi9 a b))*(Go.Fp.fp (Qi8 a b)+Go.Fp.fp (Qi9 a b)):=by
  show Go.Fp.fp (_%_)=_; rw [Go.Fp.M9,Go.Fp.B5,Go.Fp.H9,Qcv]
 have ht:Go.Fp.fp (Qpk a b).t=(Go.Fp.fp (Qja a b)-Go.Fp.fp (Qjb a b))*(Go.Fp.fp (Qja a b)+Go.Fp.fp (Qjb a b)):=by
  show Go.Fp.fp (_%_)=_; rw [Go.Fp.M9,Go.Fp.B5,Go.Fp.H9,Qcv]
 obtain ⟨g1,g2,g3,g4⟩:=Qk9 h1.x h1.y h1.t h2.x h2.y h2.t ha hb hc hd hx hy hz ht (Go.Cv.Qe0 Go.Fp.fld p q) (Go.Cv.Qa1 Go.Fp.fld p q)
 refine ⟨?_,g1,g2,g3⟩
 rw [g4]
 have F:=Go.Fp.fld
 have w:=F.mul_ne (F.mul_ne F.two h1.nz) h2.nz
 exact F.mul_ne (F.mul_ne w w) (F.mul_ne (F.denM p.on q.on) (F.denP p.on q.on))
def Qvu (p:Jac):Nat→Nat→Jac
 | 0,_=>⟨0,1,1,0⟩
 | f+1,k=>(fun r=>if k%2=1 then Qpk (Qpk r r) p else Qpk r r) (Qvu p f (k/2))
theorem JRep.mul {a:Jac} {p:Go.Cv.Pt Go.Fp.P Go.Fp.d} (h:JRep a p):∀ {f k:Nat},k<2^f→JRep (Qvu a f k) (Wa k p)
 | 0,k,hk=>by
  have:k=0:=by omega
  subst this
  exact ⟨Go.Fp.Dt,by show (0:Go.Fp.Fe)=0*1; grobner,by show (1:Go.Fp.Fe)=1*1; grobner,by show (0:Go.Fp.Fe)=0*1*1; grobner⟩
 | f+1,k,hk=>by
  have ih:=JRep.mul h (f:=f) (k:=k/2) (by omega)
  have hb:=Jw k (by decide:0<2)
  have e:Wa k p=Wa (2*(k/2)+k%2) p:=by rw [Yi]
  rw [e,Qk8 p (k/2) (k%2) hb]
  simp only [Qvu]
  split
  ·exact (ih.add ih).add h
  ·exact ih.add ih
def Qtt:Jac:=⟨bxN,byN,1,bxN*byN%Go.Fp.P⟩
theorem Qlt:JRep Qtt Us:=by
 have h1:Go.Fp.fp 1=(1:Go.Fp.Fe):=rfl
 refine ⟨Go.Fp.Dt,?_,?_,?_⟩
 ·show Go.Fp.fp bxN=Go.Fp.fp bxN*Go.Fp.fp 1; rw [h1]; grobner
 ·show Go.Fp.fp byN=Go.Fp.fp byN*Go.Fp.fp 1; rw [h1]; grobner
 ·show Go.Fp.fp (bxN*byN%Go.Fp.P)=Go.Fp.fp bxN*Go.Fp.fp byN*Go.Fp.fp 1; rw [h1,Go.Fp.M9,Go.Fp.B5]; grobner
theorem Qsf:Wa 8 Us≠B7:=fun h=>by
 have r:=Qlt.mul (f:=4) (k:=8) (by decide)
 rw [h] at r
 have hx:=r.x
 rw [show (B7:Go.Cv.Pt Go.Fp.P Go.Fp.d).x=0 from rfl] at hx
 have h0:Go.Fp.fp (Qvu Qtt 4 8).x=Go.Fp.fp 0:=by rw [hx]; show _=(0:Go.Fp.Fe); grobner
 have h1:=Go.Fp.Qpu.1 h0
 have h2:(Qvu Qtt 4 8).x%Go.Fp.P≠0%Go.Fp.P:=by decide +kernel
 exact h2 h1
theorem Qz1 {a:Jac} {q:Go.Cv.Pt Go.Fp.P Go.Fp.d} (r:JRep a q) (c1:a.x%Go.Fp.P=0%Go.Fp.P) (c2:a.y%Go.Fp.P=a.z%Go.Fp.P):q=B7:=by
 have d1:=Go.Fp.Qpu.2 c1
 have d2:=Go.Fp.Qpu.2 c2
 have F:=Go.Fp.fld
 have hx:=r.x
 have hy:=r.y
 have hz:=r.nz
 rw [d1] at hx
 rw [d2] at hy
 generalize Go.Fp.fp a.z=z at *
 apply Go.Cv.Pt.ext
 ·show _=(0:Go.Fp.Fe)
  have h0:Go.Fp.fp 0=(0:Go.Fp.Fe):=rfl
  rw [h0] at hx
  refine F.cancel hz ?_
  generalize q.x=w at *
  clear r hy d1 d2
  grobner
 ·show _=(1:Go.Fp.Fe)
  refine F.cancel hz ?_
  generalize q.y=w at *
  clear r hx d1 d2
  grobner
def Qt4 (a:Jac):Bool:=Nat.beq (a.x%Go.Fp.P) 0&&Nat.beq (a.y%Go.Fp.P) (a.z%Go.Fp.P)
theorem Q0w:Qt4 (Qvu Qtt 253 ell)=true:=by decide +kernel
theorem Qp7:Wa ell Us=B7:=by
 have h:=Q0w
 simp only [Qt4,Yk] at h
 exact Qz1 (Qlt.mul (f:=253) (k:=ell) (by decide +kernel)) (Nat.eq_of_beq_eq_true h.1) (Nat.eq_of_beq_eq_true h.2)
theorem Zq {α:Type} {x y:Option α}:Mg (.bool true) true x y=x:=Eq.trans rfl rfl
theorem Zt {α:Type} {x y:Option α}:Mg (.bool false) false x y=x:=Eq.trans rfl rfl
theorem Zr {α:Type} {x y:Option α}:Mg (.bool true) false x y=y:=Eq.trans rfl rfl
theorem Zs {α:Type} {x y:Option α}:Mg (.bool false) true x y=y:=Eq.trans rfl rfl
theorem Zo {t:Nat} {v:Value} {l:Env}:Qzz t (some v) l=(t,v)::l:=Eq.trans rfl rfl
theorem Zk {α:Type} {v:α} {y:Option α}:Qef (some v) y=some v:=Eq.trans rfl rfl
theorem Qfx {T:Tab} {b:Nat} {q:Bool}:∀ (o1 o2:List AOper) (s:St),steps T b q (o1++o2) s=(steps T b q o1 s).bind (steps T b q o2)
 | [],o2,s=>rfl
 | o::o1,o2,s=>by
  rw [Zg]
  unfold steps
  cases hg:guardOf s.env o.guard with
  | none=>rfl
  | some g =>
   cases g with
   | true =>
    simp only
    cases hx:Yw T o.op s.env s.h with
    | none=>rfl
    | some x =>
     simp only [Q4]
     split
     ·rfl
     ·exact Qfx o1 o2 _
   | false=>exact Qfx o1 o2 _
theorem Zl {T:Tab} {b:Nat} {q:Bool} {a1 a2 a3 a4 a5 a6 a7:AOper} {r:List AOper} {s:St}:steps T b q (a1::a2::a3::a4::a5::a6::a7::r) s=(steps T b q [a1,a2,a3,a4,a5,a6] s).bind fun s'=>steps T b q (a7::r) s':=by
 rw [←Qfx]; rfl
theorem Qth {a:Go.Fp.Fe} (h0:a≠0):(-a).val%2≠a.val%2:=by
 have hlt:=a.isLt
 have hne:a.val≠0:=fun h=>h0 (Fin.ext h)
 have h1:(-a).val=(Go.Fp.P-a.val)%Go.Fp.P:=rfl
 have h2:(Go.Fp.P-a.val)<Go.Fp.P:=by omega
 rw [h1,Jd h2]
 have hP:Go.Fp.P%2=1:=by rw [Go.Fp.Qb7]
 omega
theorem Q5v {a b:Go.Fp.Fe} (h:a*a=b*b):a=b∨a = -b:=by
 have F:=Go.Fp.fld
 have:(a-b)*(a+b)=0:=by grobner
 rcases F.dom this with h1 | h1
 ·left; clear h this; grobner
 ·right; clear h this; grobner
theorem Q63 (dd z:Go.Fp.Fe) (hz:z=0):dd*(z*z)+1=1:=by grobner
theorem Q01 (y:Go.Fp.Fe):Go.Fp.d*(y*y)+1≠0:=fun h=>by
 have F:=Go.Fp.fld
 have hy:y≠0:=by
  intro h0
  rw [Q63 _ _ h0] at h
  exact Go.Fp.Dt h
 have hi:=Go.Fp.Me hy
 have hr:=Go.Fp.Qrb
 apply Go.Fp.nosq (Go.Fp.i*Go.Fp.iv y)
 generalize Go.Fp.d=dd at *
 generalize Go.Fp.i=ii at *
 generalize Go.Fp.iv y=w at *
 clear F hy
 have e1:dd*(y*w)*(y*w)+w*w=0:=by
  have:dd*(y*w)*(y*w)+w*w=(dd*(y*y)+1)*(w*w):=by clear h hi hr; grobner
  rw [this,h]; clear this h hi hr; grobner
 rw [hi] at e1
 have e2:ii*w*(ii*w)=(ii*ii)*(w*w):=by clear h hi hr e1; grobner
 rw [e2,hr]
 clear h hi hr e2
 grobner
theorem Q6a (p:Go.Cv.Pt Go.Fp.P Go.Fp.d):(Go.Fp.d*(p.y*p.y)+1)*(p.x*p.x)=p.y*p.y-1:=by
 have h:=p.on
 unfold Go.Cv.On at h
 generalize Go.Fp.d=dd at *
 generalize p.x=x at *
 generalize p.y=y at *
 grobner
theorem Q0v {p q:Go.Cv.Pt Go.Fp.P Go.Fp.d} (h:Qhd p=Qhd q):p=q:=by
 unfold Qhd at h
 have h1:=Qdl p.y
 have h2:=Qdl q.y
 have h3:=Jw p.x.val (by decide:0<2)
 have h4:=Jw q.x.val (by decide:0<2)
 have hy:p.y.val=q.y.val:=by omega
 have hx:p.x.val%2=q.x.val%2:=by omega
 have hy':p.y=q.y:=Fin.ext hy
 have e1:=Q6a p
 have e2:=Q6a q
 rw [hy',←e2] at e1
 have e3:=Go.Fp.fld.cancel (Q01 q.y) e1
 refine Go.Cv.Pt.ext ?_ hy'
 rcases Q5v e3 with h | h
 ·exact h
 ·by_cases h0:q.x=0
  ·rw [h,h0]; grobner
  ·exfalso
   have:=Qth h0
   rw [←h] at this
   exact this hx
theorem Qt1 (p q:Go.Cv.Pt Go.Fp.P Go.Fp.d):(enc p==enc q)=decide (p=q):=by
 unfold enc
 rw [key_inj (Qne p) (Qne q)]
 by_cases h:p=q
 ·subst h; rw [decide_eq_true rfl,decide_eq_true rfl]
 ·rw [decide_eq_false h,decide_eq_false (fun e=>h (Q0v e))]
theorem Q7v {a b:List Nat} {p q:Go.Cv.Pt Go.Fp.P Go.Fp.d} (ha:RepL a p) (hb:RepL b q):fillL (Qa 40 (Value.int .u64 0)) [(0,20,eV a),(20,20,eV b)]=some (ns .u64 [a,b].flatten):=by
 obtain ⟨x1,y1,z1,t1,rfl,h1⟩:=ha
 obtain ⟨x2,y2,z2,t2,rfl,h2⟩:=hb
 obtain ⟨a0,a1,a2,a3,a4,rfl,-⟩:=h1.ex.five
 obtain ⟨b0,b1,b2,b3,b4,rfl,-⟩:=h1.ey.five
 obtain ⟨c0,c1,c2,c3,c4,rfl,-⟩:=h1.ez.five
 obtain ⟨d0,d1,d2,d3,d4,rfl,-⟩:=h1.et.five
 obtain ⟨e0,e1,e2,e3,e4,rfl,-⟩:=h2.ex.five
 obtain ⟨f0,f1,f2,f3,f4,rfl,-⟩:=h2.ey.five
 obtain ⟨g0,g1,g2,g3,g4,rfl,-⟩:=h2.ez.five
 obtain ⟨i0,i1,i2,i3,i4,rfl,-⟩:=h2.et.five
 rfl
theorem Qcm (p q:Go.Cv.Pt Go.Fp.P Go.Fp.d):Ue p q=Ue q p:=Go.Cv.add_comm Go.Fp.fld p q
theorem Qdt (p q r:Go.Cv.Pt Go.Fp.P Go.Fp.d):Ue (Ue p q) r=Ue p (Ue q r):=Go.Cv.add_assoc Go.Fp.fld p q r
theorem Q4p {k:List Nat} (lk:k.length=32) (xk:∀ x∈k,x<256) {p:Go.Cv.Pt Go.Fp.P Go.Fp.d}:enc p=k↔Qhd p=num 256 k:=by
 have h1:=num_lt xk
 rw [lk] at h1
 have h2:=Qat (by decide:0<256) xk
 rw [lk] at h2
 constructor
 ·intro h
  have:=Bb (B:=256) (by decide) 32 (Qhd p)
  rw [Jd (Qne p)] at this
  rw [←this,←h]; rfl
 ·intro h
  unfold enc
  rw [h,h2]
theorem Qwk {p:Go.Cv.Pt Go.Fp.P Go.Fp.d} {V:Nat}:Qhd p=V↔p.y.val=V%2^255∧p.x.val%2=V/2^255:=by
 have h1:=Qdl p.y
 have h3:=Jw p.x.val (by decide:0<2)
 unfold Qhd
 constructor
 ·intro h; omega
 ·rintro ⟨h,h'⟩; rw [h,h',Vt,Nat.mod_add_div]
theorem Q50 {u v x y:Go.Fp.Fe} (hu:u=y*y-1) (hv:v=Go.Fp.d*(y*y)+1) (h:v*(x*x)=u):Go.Cv.On Go.Fp.d x y:=by
 unfold Go.Cv.On
 generalize Go.Fp.d=dd at *
 subst hu hv
 grobner
theorem Q30 {k:List Nat} (lk:k.length=32) (xk:∀ x∈k,x<256):∃ w,k[31]?=some w∧w<256∧w/128=num 256 k/2^255∧num 256 (k.set 31 (w&&&127))=num 256 k%2^255∧(∀ x∈k.set 31 (w&&&127),x<256)∧(k.set 31 (w&&&127)).length=32:=by
 obtain ⟨w,hw⟩:∃ w,k[31]?=some w:=⟨_,Q3 (by omega)⟩
 have hw':w<256:=xk w (Zp hw)
 have hV:=num_lt xk
 rw [lk] at hV
 have hg:=Dz (by decide:0<256) xk hw
 have hs:=Ry (B:=256) (w&&&127) hw
 have ha:w&&&127=w%128:=Rp w 7
 refine ⟨w,hw,hw',?_⟩
 rw [ha] at hs ⊢
 have e31:(256:Nat)^31=452312848583266388373324160190187140051835877600158453279131187530910662656:=by decide
 have e32:(256:Nat)^32=115792089237316195423570985008687907853269984665640564039457584007913129639936:=by decide
 have e255:(2:Nat)^255=57896044618658097711785492504343953926634992332820282019728792003956564819968:=by decide
 rw [e31] at hg hs
 rw [e32] at hV
 rw [e255]
 refine ⟨by omega,by omega,?_,by rw [Jp]; exact lk⟩
 intro x hx
 rcases Qb8 hx with h | h
 ·exact xk x h
 ·omega
def Qwm (l:List Nat) (c:Int):Value := .tuple #[eV l,.int .i64 c]
theorem Qqb {k:List Nat} (lk:k.length=32) (xk:∀ x∈k,x<256) :
  (∃ l p,Vw T 43 [.agg (u8s k).toArray]=some (Qwm l 0)∧RepL l p∧enc p=k)∨(∃ l,Vw T 43 [.agg (u8s k).toArray]=some (Qwm l 60)∧l.length=20∧∀ p,enc p≠k):=by
 obtain ⟨w,hw,hw',ht,hm,xm,lm⟩:=Q30 lk xk
 have hwc:=Uk hw
 have hset:=Hg k 31 (w&&&127)
 have o1:Vo .and .u8 (w:Int) 127=((w&&&127:Nat):Int):=Rf (k := .u8) (a:=w) (b:=127) rfl hw' (by decide)
 have hof:=Qve lm xm
 have hcan:=Qqg lm xm
 rw [hm] at hof hcan
 rw [Tk] at hof
 have hkey:∀ p:Go.Cv.Pt Go.Fp.P Go.Fp.d,enc p=k↔p.y.val=num 256 k%2^255∧p.x.val%2=num 256 k/2^255:=fun p=>by rw [Q4p lk xk,Qwk]
 rw [←ht] at hkey
 have Ey:=Qo7 (V:=num 256 k%2^255)
 have fy:fe (dig (2^51) 5 (num 256 k%2^255))=Go.Fp.fp (num 256 k%2^255):=by unfold fe; rw [Qga]
 generalize k.set 31 (w&&&127)=km at *
 generalize dig (2^51) 5 (num 256 k%2^255)=Y at *
 generalize num 256 k%2^255=V at *
 have hz20:∃ O,Qa 20 (Value.int .u64 0)=ns .u64 O∧O.length=20∧fillL (ns .u64 O) []=some (ns .u64 O):=⟨Qa 20 0,rfl,rfl,rfl⟩
 obtain ⟨O,hz20,l0,hf0⟩:=hz20
 have l1:=Ey.len
 have hz5:Qa 5 (Value.int .u64 0)=ns .u64 [0,0,0,0,0]:=rfl
 have l5:([0,0,0,0,0]:List Nat).length=5:=rfl
 have hbit:((((w/128:Nat):Int))==1)=decide (w/128=1):=by
  by_cases h:w/128=1
  ·rw [h]; rfl
  ·have:¬ (((w/128:Nat):Int)=1):=by omega
   rw [decide_eq_false h,beq_eq_false_iff_ne.2 this]
 have hshr:((w:Int)/128)=((w/128:Nat):Int):=rfl
 by_cases hV:V<Go.Fp.P
 ·rw [decide_eq_true hV] at hcan
  have hYv:(Go.Fp.fp V).val=V:=Jd hV
  obtain ⟨one,hone⟩:∃ O:List Nat,O=[1,0,0,0,0]:=⟨_,rfl⟩
  have Eone:El one (2^52):=by rw [hone]; exact Qdv
  have vone:Vw T 37 [.int .u32 1]=some (eV one):=by rw [hone]; exact Qy6
  have fone:fe one=1:=by rw [hone]; exact Qdu
  clear hone
  obtain ⟨yy,hyy,Eyy,fyy⟩:=Wz Ey Ey
  obtain ⟨D,hD,ED,fD⟩:=Qjg
  obtain ⟨uu,huu,Euu,fuu⟩:=Qaz Eyy Eone
  obtain ⟨dy,hdy,Edy,fdy⟩:=Wz ED Eyy
  obtain ⟨vv,sv,hvv,Evv,fvv⟩:=Hw (H:=[⟨u8s km,true,true,true,1⟩,⟨ns .u64 O,true,true,true,1⟩,⟨ns .u64 Y,true,true,true,1⟩,⟨ns .u64 yy,true,true,true,1⟩,⟨ns .u64 (dy++one),true,true,true,1⟩]) (id:=4) Edy Eone rfl
  simp only [Zg,Zc] at hvv
  obtain ⟨r,ok,hr,Er,hok,hno⟩:=Q6p Euu Evv
  have hf2:=Rb Edy Eone
  have l6:=Eyy.len
  have l7:=Er.len
  have kz:=Qz2 Er
  obtain ⟨nr,hnr,Enr,fnr⟩:=Qlm Er
  obtain ⟨t1,ht1,Et1,ft1⟩:=Wz Er Ey
  obtain ⟨t2,ht2,Et2,ft2⟩:=Wz Enr Ey
  have g1:=Qg5 Er Ey Eone Et1
  have g2:=Qg5 Enr Ey Eone Et2
  rw [hz20] at g1 g2
  have q1:=Di Er Ey Eone Et1
  have q2:=Di Enr Ey Eone Et2
  have l8:=Enr.len
  have hu:fe uu=Go.Fp.fp V*Go.Fp.fp V-1:=by rw [fuu,fyy,fy,fone]
  have hv:fe vv=Go.Fp.d*(Go.Fp.fp V*Go.Fp.fp V)+1:=by rw [fvv,fdy,fD,fyy,fy,fone]
  have hyp:∀ p:Go.Cv.Pt Go.Fp.P Go.Fp.d,enc p=k→p.y=Go.Fp.fp V:=fun p hp=>Fin.ext (by rw [hYv]; exact ((hkey p).1 hp).1)
  have hxx:∀ p:Go.Cv.Pt Go.Fp.P Go.Fp.d,enc p=k→fe vv*(p.x*p.x)=fe uu:=fun p hp=>by
   have:=Q6a p
   rw [hyp p hp] at this
   rw [hu,hv]; exact this
  have rft:∀ b:Bool,rf (Value.tuple #[eV r,.bool b])=true:=fun b=>Dx (a:=eV r) (b := .bool b) (V4 r) rfl
  cases ok with
  | false =>
   refine .inr ⟨O,?_,l0,fun p hp=>hno rfl p.x (hxx p hp)⟩
   apply Ks
   apply Z4
   rw [Z5 (fn:=a31) rfl]
   simp only [a31,↓Zl,Z6,quiet,cF,↓pF,reduceCtorEq,Qd,Qq,Zn,Zi,Zm,Zh,Ze,Qf,Q0,Qg,Q2,Q8,Q7,↓Zo,↓Zk,↓Zq,↓Zt,↓Zr,↓Zs,cL,Qp,Qo,Qz,Qy,Qv,Qn,Qm,Qx,Qe,Q5,Q6,Qw,Qk,Qj,Qi,Qu,Qt,Qs,Ql,Qh,cJ,cU,hz20,hf0,hz5,hwc,hset,o1,hof,hcan,hbit,hshr,vone,hyy,hD,huu,hdy,hf2,hvv,hr,Q9,Xo,Xe,Kb,Yb,Kc,Ky,Zv,lk,lm,l0,l1,l5,l6,l7,Ms,Qoe,rft,V4]
   rfl
  | true =>
   obtain ⟨hroot,hev⟩:=hok rfl
   have hev':(fe r).val%2=0:=by
    rcases hev with h | h
    ·exact h
    ·rw [h]; rfl
   by_cases hb:w/128=1
   ·rw [decide_eq_true hb] at hbit
    by_cases h0:fe r=0
    ·rw [decide_eq_true h0] at kz
     refine .inr ⟨O,?_,l0,fun p hp => ?_⟩
     ·apply Ks
      apply Z4
      rw [Z5 (fn:=a31) rfl]
      simp only [a31,↓Zl,Z6,quiet,cF,↓pF,reduceCtorEq,Qd,Qq,Zn,Zi,Zm,Zh,Ze,Qf,Q0,Qg,Q2,Q8,Q7,↓Zo,↓Zk,↓Zq,↓Zt,↓Zr,↓Zs,cL,Qp,Qo,Qz,Qy,Qv,Qn,Qm,Qx,Qe,Q5,Q6,Qw,Qk,Qj,Qi,Qu,Qt,Qs,Ql,Qh,cJ,cU,hz20,hf0,hz5,hwc,hset,o1,hof,hcan,hbit,hshr,vone,hyy,hD,huu,hdy,hf2,hvv,hr,Q9,Xo,Xe,Kb,Yb,Kc,Ky,Zv,lk,lm,l0,l1,l5,l6,l7,Ms,Qoe,rft,V4,kz]
      rfl
     ·have h2:=((hkey p).1 hp).2
      have h3:=hxx p hp
      rw [←hroot,h0] at h3
      have h4:p.x*p.x=0*0:=Go.Fp.fld.cancel (by rw [hv]; exact Q01 _) h3
      rcases Q5v h4 with h5 | h5
      ·rw [h5,hb] at h2; exact absurd h2 (by decide)
      ·rw [h5,hb] at h2; exact absurd h2 (by decide)
    ·rw [decide_eq_false h0] at kz
     have hroot':fe vv*(-fe r * -fe r)=fe uu:=by rw [←hroot]; generalize fe r=a; generalize fe vv=b; grobner
     refine .inl ⟨pL nr Y one t2,⟨-fe r,Go.Fp.fp V,Q50 hu hv hroot'⟩,?_,⟨nr,Y,one,t2,rfl,Enr,Ey,Eone,Et2,by rw [fone]; exact Go.Fp.Dt,?_,?_,?_⟩,(hkey _).2 ⟨hYv,?_⟩⟩
     ·generalize pL nr Y one t2=L at *
      apply Ks
      apply Z4
      rw [Z5 (fn:=a31) rfl]
      simp only [a31,↓Zl,Z6,quiet,cF,↓pF,reduceCtorEq,Qd,Qq,Zn,Zi,Zm,Zh,Ze,Qf,Q0,Qg,Q2,Q8,Q7,↓Zo,↓Zk,↓Zq,↓Zt,↓Zr,↓Zs,cL,Qp,Qo,Qz,Qy,Qv,Qn,Qm,Qx,Qe,Q5,Q6,Qw,Qk,Qj,Qi,Qu,Qt,Qs,Ql,Qh,cJ,cU,hz20,hf0,hz5,hwc,hset,o1,hof,hcan,hbit,hshr,vone,hyy,hD,huu,hdy,hf2,hvv,hr,Q9,Xo,Xe,Kb,Yb,Kc,Ky,Zv,lk,lm,l0,l1,l5,l6,l7,Ms,Qoe,rft,V4,kz,hnr,ht2,g2,q2,l8]
      rfl
     ·rw [fnr,fone]; show -fe r = -fe r*1; generalize fe r=a; grobner
     ·rw [fy,fone]; show Go.Fp.fp V=Go.Fp.fp V*1; generalize Go.Fp.fp V=a; grobner
     ·rw [ft2,fnr,fy,fone]; show -fe r*Go.Fp.fp V = -fe r*Go.Fp.fp V*1; generalize Go.Fp.fp V=a; generalize fe r=b; grobner
     ·have:=Qth h0
      rw [hev'] at this
      show (-fe r).val%2=_
      rw [hb]; omega
   ·rw [decide_eq_false hb] at hbit
    refine .inl ⟨pL r Y one t1,⟨fe r,Go.Fp.fp V,Q50 hu hv hroot⟩,?_,⟨r,Y,one,t1,rfl,Er,Ey,Eone,Et1,by rw [fone]; exact Go.Fp.Dt,?_,?_,?_⟩,(hkey _).2 ⟨hYv,?_⟩⟩
    ·generalize pL r Y one t1=L at *
     apply Ks
     apply Z4
     rw [Z5 (fn:=a31) rfl]
     simp only [a31,↓Zl,Z6,quiet,cF,↓pF,reduceCtorEq,Qd,Qq,Zn,Zi,Zm,Zh,Ze,Qf,Q0,Qg,Q2,Q8,Q7,↓Zo,↓Zk,↓Zq,↓Zt,↓Zr,↓Zs,cL,Qp,Qo,Qz,Qy,Qv,Qn,Qm,Qx,Qe,Q5,Q6,Qw,Qk,Qj,Qi,Qu,Qt,Qs,Ql,Qh,cJ,cU,hz20,hf0,hz5,hwc,hset,o1,hof,hcan,hbit,hshr,vone,hyy,hD,huu,hdy,hf2,hvv,hr,Q9,Xo,Xe,Kb,Yb,Kc,Ky,Zv,lk,lm,l0,l1,l5,l6,l7,Ms,Qoe,rft,V4,ht1,g1,q1]
     rfl
    ·rw [fone]; show fe r=fe r*1; generalize fe r=a; grobner
    ·rw [fy,fone]; show Go.Fp.fp V=Go.Fp.fp V*1; generalize Go.Fp.fp V=a; grobner
    ·rw [ft1,fy,fone]; show fe r*Go.Fp.fp V=fe r*Go.Fp.fp V*1; generalize Go.Fp.fp V=a; generalize fe r=b; grobner
    ·show (fe r).val%2=_
     rw [hev']; omega
 ·rw [decide_eq_false hV] at hcan
  refine .inr ⟨O,?_,l0,fun p hp=>hV ?_⟩
  ·apply Ks
   apply Z4
   rw [Z5 (fn:=a31) rfl]
   simp only [a31,↓Zl,Z6,quiet,cF,↓pF,reduceCtorEq,Qd,Qq,Zn,Zi,Zm,Zh,Ze,Qf,Q0,Qg,Q2,Q8,Q7,↓Zo,↓Zk,↓Zq,↓Zt,↓Zr,↓Zs,cL,Qp,Qo,Qz,Qy,Qv,Qn,Qm,Qx,Qe,Q5,Q6,Qw,Qk,Qj,Qi,Qu,Qt,Qs,Ql,Qh,cJ,cU,hz20,hf0,hz5,hwc,hset,o1,hof,hcan,hbit,hshr,Q9,Xo,Xe,Kb,Yb,Kc,Ky,Zv,lk,lm,l0,l1,l5,V4]
   rfl
  ·rw [←((hkey p).1 hp).1]; exact p.y.isLt
def pf (n:Nat) (L:List Nat) (i:Nat):List Nat:=L.take i++Qa (n-i) 0
theorem Qck (n:Nat) (L:List Nat):pf n L 0=Qa n 0:=by simp [pf]
theorem Qcl {n:Nat} {L:List Nat} (h:L.length=n):pf n L n=L:=by simp [pf,←h]
theorem Qbm {n:Nat} {L:List Nat} (h:L.length=n) {i:Nat} (hi:i≤n):(pf n L i).length=n:=by simp [pf]; omega
theorem Rw {n i x:Nat} {L:List Nat} (h:L.length=n) (hi:i<n) (hx:L[i]?=some x):(pf n L i).set i x=pf n L (i+1):=by
 unfold pf
 rw [Yf _ _ (by simp; omega)]
 have e1:(L.take i).length=i:=by simp; omega
 rw [e1,Jc]
 have e2:n-i=(n-(i+1))+1:=by omega
 rw [e2,Dp,Qku,V3,hx]
 simp
structure Nm (l:List Nat):Prop where
 len:l.length=16
 lt:∀ x∈l,x<65536
theorem Nm.num_lt {l:List Nat} (h:Nm l):num 65536 l<2^256:=by
 have:=Go.Ev.num_lt h.lt
 rw [h.len] at this
 exact this
theorem Nm.dig (v:Nat):Nm (dig 65536 16 v):=⟨Vs _ _ _,fun x h=>Hd (by decide) h⟩
theorem Nm.eq {l:List Nat} (h:Nm l):l=Go.Ev.dig 65536 16 (num 65536 l):=by
 have:=Qat (B:=65536) (by decide) h.lt
 rw [h.len] at this
 exact this.symm
theorem Nm.inj {l m:List Nat} (h:Nm l) (h':Nm m) (e:num 65536 l=num 65536 m):l=m:=by rw [h.eq,h'.eq,e]
def nf (l:List Nat):Go.Fp.Fe:=Go.Fp.fp (num 65536 l)
theorem wn {n:Nat} (h:n<9223372036854775808):IntKind.i64.wrap (n:Int)=n:=Ym h
theorem Qub {n:Nat} (h:n<18446744073709551616):IntKind.u64.wrap (n:Int)=n:=by rw [Qtp,Jd h]
theorem Qs1 {a b:Nat} (h:a+b<18446744073709551616):IntKind.u64.wrap ((a:Int)+(b:Int))=((a+b:Nat):Int):=by rw [←Hp]; exact Qub h
theorem Qma {a b:Nat} (h:a*b<18446744073709551616):IntKind.u64.wrap ((a:Int)*(b:Int))=((a*b:Nat):Int):=by rw [←Gg]; exact Qub h
theorem Ws {a b:Nat} (h:a+b<9223372036854775808):IntKind.i64.wrap ((a:Int)+(b:Int))=((a+b:Nat):Int):=by rw [←Hp]; exact wn h
theorem Qfr {a b:Nat} (h:a*b<9223372036854775808):IntKind.i64.wrap ((a:Int)*(b:Int))=((a*b:Nat):Int):=by rw [←Gg]; exact wn h
def U1 (x r:Nat):Nat:=x/2^r+x*2^(64-r)%18446744073709551616
def sg0 (x:Nat):Nat:=U1 x 1^^^U1 x 8^^^(x/2^7)
def sg1 (x:Nat):Nat:=U1 x 19^^^U1 x 61^^^(x/2^6)
def Sg0 (x:Nat):Nat:=U1 x 28^^^U1 x 34^^^U1 x 39
def Sg1 (x:Nat):Nat:=U1 x 14^^^U1 x 18^^^U1 x 41
def chO (e f g:Nat):Nat:=(e&&&f)^^^((18446744073709551615^^^e)&&&g)
def maO (a b c:Nat):Nat:=(a&&&b)^^^(a&&&c)^^^(b&&&c)
def be (l:List Nat):Nat:=l.foldl (fun a x=>a*256+x) 0
def Q5s (w:List Nat):Nat:=(w.getD (w.length-16) 0+w.getD (w.length-7) 0+sg0 (w.getD (w.length-15) 0)+sg1 (w.getD (w.length-2) 0))%18446744073709551616
def Qbc:Nat→List Nat→List Nat
 | 0,l=>l
 | n+1,l=>Qbc n l++[Q5s (Qbc n l)]
def Qkw (b:List Nat):List Nat:=(Wm 16).map fun i=>be ((b.drop (8*i)).take 8)
def Bc (b:List Nat):List Nat:=Qbc 64 (Qkw b)
def Ro:List Nat:=[4794697086780616226,8158064640168781261,13096744586834688815,16840607885511220156,4131703408338449720,6480981068601479193,10538285296894168987,12329834152419229976,15566598209576043074,1334009975649890238,2608012711638119052,6128411473006802146,8268148722764581231,9286055187155687089,11230858885718282805,13951009754708518548,16472876342353939154,17275323862435702243,1135362057144423861,2597628984639134821,3308224258029322869,5365058923640841347,6679025012923562964,8573033837759648693,10970295158949994411,12119686244451234320,12683024718118986047,13788192230050041572,14330467153632333762,15395433587784984357,489312712824947311,1452737877330783856,2861767655752347644,3322285676063803686,5560940570517711597,5996557281743188959,7280758554555802590,8532644243296465576,9350256976987008742,10552545826968843579,11727347734174303076,12113106623233404929,14000437183269869457,14369950271660146224,15101387698204529176,15463397548674623760,17586052441742319658,1182934255886127544,1847814050463011016,2177327727835720531,2830643537854262169,3796741975233480872,4115178125766777443,5681478168544905931,6601373596472566643,7507060721942968483,8399075790359081724,8693463985226723168,9568029438360202098,10144078919501101548,10430055236837252648,11840083180663258601,13761210420658862357,14299343276471374635,14566680578165727644,15097957966210449927,16922976911328602910,17689382322260857208,500013540394364858,748580250866718886,1242879168328830382,1977374033974150939,2944078676154940804,3659926193048069267,4368137639120453308,4836135668995329356,5532061633213252278,6448918945643986474,6902733635092675308,7801388544844847127]
def t1O (s:List Nat) (k w:Nat):Nat:=(s.getD 7 0+Sg1 (s.getD 4 0)+chO (s.getD 4 0) (s.getD 5 0) (s.getD 6 0)+k+w)%18446744073709551616
def t2O (s:List Nat):Nat:=(Sg0 (s.getD 0 0)+maO (s.getD 0 0) (s.getD 1 0) (s.getD 2 0))%18446744073709551616
def rnd (s:List Nat) (k w:Nat):List Nat:=[(t1O s k w+t2O s)%18446744073709551616,s.getD 0 0,s.getD 1 0,s.getD 2 0,(s.getD 3 0+t1O s k w)%18446744073709551616,s.getD 4 0,s.getD 5 0,s.getD 6 0]
def Qhb:Nat→List Nat→List Nat→List Nat
 | 0,_,s=>s
 | n+1,w,s=>rnd (Qhb n w s) (Ro.getD n 0) (w.getD n 0)
def blk (s b:List Nat):List Nat:=Gl (fun x y=>(x+y)%18446744073709551616) s (Qhb 80 (Bc b) s)
def Qdh:List Nat:=[7640891576956012808,13503953896175478587,4354685564936845355,11912009170470909681,5840696475078001361,11170449401992604703,2270897969802886507,6620516959819538809]
def stK:Nat→List Nat→List Nat
 | 0,_=>Qdh
 | n+1,b=>blk (stK n b) ((b.drop (128*n)).take 128)
def Mx (n:Nat):Nat:=(239-n%128)%128
def Qf3 (n:Nat):List Nat:=128::(Qa (Mx n) 0++((Wm 16).map fun i=>8*n/256^(15-i)%256))
def sha (b:List Nat):List Nat:=(Wm 64).map fun i=>(stK ((b++Qf3 b.length).length/128) (b++Qf3 b.length)).getD (i/8) 0/256^(7-i%8)%256
theorem Qbu:Ro.length=80:=rfl
theorem Dw {x r:Nat} (hx:x<18446744073709551616) (hr:0<r) (hr':r≤63):U1 x r<18446744073709551616:=by
 unfold U1
 have e:(18446744073709551616:Nat)=2^r*2^(64-r):=by rw [←Ww,show r+(64-r)=64 by omega]
 have h1:x/2^r<2^(64-r):=Gk (by rw [←e]; exact hx)
 have h2:x*2^(64-r)%18446744073709551616=(x%2^r)*2^(64-r):=by rw [e,Rj]
 rw [h2]
 have h3:x%2^r+1≤2^r:=Jw _ (Ud (by decide))
 have h4:=W4 (2^(64-r)) h3
 rw [←e,Vy,U7] at h4
 omega
theorem Q2f {x r:Nat} (hx:x<18446744073709551616) (hr:0<r) (hr':r≤63):(x*2^(64-r)%18446744073709551616)|||(x/2^r)=U1 x r:=by
 have e:(18446744073709551616:Nat)=2^r*2^(64-r):=by rw [←Ww,show r+(64-r)=64 by omega]
 have h1:x/2^r<2^(64-r):=Gk (by rw [←e]; exact hx)
 have h2:x*2^(64-r)%18446744073709551616=(x%2^r)*2^(64-r):=by rw [e,Rj]
 unfold U1
 rw [h2,Dj h1,Bi]
theorem Qdi {x r:Nat} (hx:x<18446744073709551616) (hr:0<r) (hr':r≤63):Vw T 102 [.int .u64 x,.int .i64 (-(r:Int))]=some (.int .u64 (U1 x r:Nat)):=by
 have hw:IntKind.u64.wrap (-(r:Int))=((18446744073709551616-r:Nat):Int):=by rw [Tp]; omega
 have hm:Vo .and .u64 ((18446744073709551616-r:Nat):Int) 63=((64-r:Nat):Int):=by
  have:=Th .u64 rfl 6 (18446744073709551616-r) (by decide)
  have e:((2^6-1:Nat):Int)=63:=by decide
  rw [e] at this
  rw [this]
  have:(18446744073709551616-r)%2^6=64-r:=by omega
  rw [this]
 have n1:(((64-r:Nat):Int)<0)=False:=eq_false (by omega)
 have h64:min (64-r) IntKind.u64.bits=64-r:=Kx (by show 64-r≤64; omega)
 have hr64:min r IntKind.u64.bits=r:=Kx (by show r≤64; omega)
 have hs1:IntKind.u64.wrap ((x:Int)*2^(64-r))=((x*2^(64-r)%18446744073709551616:Nat):Int):=by
  rw [←Qtp,Gg,Ho]; rfl
 have hsub:IntKind.u64.wrap (64-((64-r:Nat):Int))=(r:Int):=by rw [Tp]; omega
 have n2:((r:Int)<0)=False:=eq_false (by omega)
 have hs2:(x:Int).fdiv (2^r)=((x/2^r:Nat):Int):=by
  rw [←Qgc,Ho]; rfl
 have hlt1:x*2^(64-r)%18446744073709551616<2^IntKind.u64.bits:=Jw _ (by decide)
 have hlt2:x/2^r<2^IntKind.u64.bits:=Be (Gf _ _) hx
 have ho:Vo .or .u64 ((x*2^(64-r)%18446744073709551616:Nat):Int) ((x/2^r:Nat):Int)=((U1 x r:Nat):Int):=by
  rw [Hl rfl hlt1 hlt2,Q2f hx hr hr']
 generalize hq:64-r=q at *
 generalize hu:18446744073709551616-r=u at *
 apply Ks
 apply Z4
 rw [Z5 (fn:=Q82) rfl]
 simp only [Q82,↓Zl,Z6,quiet,cF,↓pF,reduceCtorEq,Qd,Qq,Zn,Zi,Zm,Zh,Ze,Qf,Q0,Qg,Q2,Q8,Q7,↓Xb,↓Xa,↓Xw,↓Xz,↓Xx,↓Xy,cL,Qp,Qo,Qz,Qy,Qv,Qn,Qm,Qx,Qe,Q5,Q6,Qw,Qk,Qj,Qi,Qu,Qt,Qs,Ql,Qh,cJ,hw,hm,n1,h64,hs1,hsub,n2,hr64,hs2,ho,Jf]
 rfl
theorem Qvt:fillL (Qa 80 (Value.int .u64 0)) [(0,1,.int .u64 4794697086780616226),(1,1,.int .u64 8158064640168781261),(2,1,.int .u64 13096744586834688815),(3,1,.int .u64 16840607885511220156),(4,1,.int .u64 4131703408338449720),(5,1,.int .u64 6480981068601479193),(6,1,.int .u64 10538285296894168987),(7,1,.int .u64 12329834152419229976),(8,1,.int .u64 15566598209576043074),(9,1,.int .u64 1334009975649890238),(10,1,.int .u64 2608012711638119052),(11,1,.int .u64 6128411473006802146),(12,1,.int .u64 8268148722764581231),(13,1,.int .u64 9286055187155687089),(14,1,.int .u64 11230858885718282805),(15,1,.int .u64 13951009754708518548),(16,1,.int .u64 16472876342353939154),(17,1,.int .u64 17275323862435702243),(18,1,.int .u64 1135362057144423861),(19,1,.int .u64 2597628984639134821),(20,1,.int .u64 3308224258029322869),(21,1,.int .u64 5365058923640841347),(22,1,.int .u64 6679025012923562964),(23,1,.int .u64 8573033837759648693),(24,1,.int .u64 10970295158949994411),(25,1,.int .u64 12119686244451234320),(26,1,.int .u64 12683024718118986047),(27,1,.int .u64 13788192230050041572),(28,1,.int .u64 14330467153632333762),(29,1,.int .u64 15395433587784984357),(30,1,.int .u64 489312712824947311),(31,1,.int .u64 1452737877330783856),(32,1,.int .u64 2861767655752347644),(33,1,.int .u64 3322285676063803686),(34,1,.int .u64 5560940570517711597),(35,1,.int .u64 5996557281743188959),(36,1,.int .u64 7280758554555802590),(37,1,.int .u64 8532644243296465576),(38,1,.int .u64 9350256976987008742),(39,1,.int .u64 10552545826968843579),(40,1,.int .u64 11727347734174303076),(41,1,.int .u64 12113106623233404929),(42,1,.int .u64 14000437183269869457),(43,1,.int .u64 14369950271660146224),(44,1,.int .u64 15101387698204529176),(45,1,.int .u64 15463397548674623760),(46,1,.int .u64 17586052441742319658),(47,1,.int .u64 1182934255886127544),(48,1,.int .u64 1847814050463011016),(49,1,.int .u64 2177327727835720531),(50,1,.int .u64 2830643537854262169),(51,1,.int .u64 3796741975233480872),(52,1,.int .u64 4115178125766777443),(53,1,.int .u64 5681478168544905931),(54,1,.int .u64 6601373596472566643),(55,1,.int .u64 7507060721942968483),(56,1,.int .u64 8399075790359081724),(57,1,.int .u64 8693463985226723168),(58,1,.int .u64 9568029438360202098),(59,1,.int .u64 10144078919501101548),(60,1,.int .u64 10430055236837252648),(61,1,.int .u64 11840083180663258601),(62,1,.int .u64 13761210420658862357),(63,1,.int .u64 14299343276471374635),(64,1,.int .u64 14566680578165727644),(65,1,.int .u64 15097957966210449927),(66,1,.int .u64 16922976911328602910),(67,1,.int .u64 17689382322260857208),(68,1,.int .u64 500013540394364858),(69,1,.int .u64 748580250866718886),(70,1,.int .u64 1242879168328830382),(71,1,.int .u64 1977374033974150939),(72,1,.int .u64 2944078676154940804),(73,1,.int .u64 3659926193048069267),(74,1,.int .u64 4368137639120453308),(75,1,.int .u64 4836135668995329356),(76,1,.int .u64 5532061633213252278),(77,1,.int .u64 6448918945643986474),(78,1,.int .u64 6902733635092675308),(79,1,.int .u64 7801388544844847127)]=some (ns .u64 Ro):=rfl
theorem Qs5:Vw T 101 []=some (eV Ro):=by
 have hf:=Qvt
 have lk:=Qbu
 generalize Ro=K at *
 apply Ks
 apply Z4
 rw [Z5 (fn:=Q81) rfl]
 simp only [Q81,Z6,quiet,cF,↓pF,reduceCtorEq,Qd,Qq,Zn,Zi,Zm,Zh,Ze,Qf,Q0,Qg,Q2,Q8,Q7,↓Xb,↓Xa,↓Xw,↓Xz,↓Xx,↓Xy,cL,Qp,Qo,Qz,Qy,Qv,Qn,Qm,Qx,Qe,Q5,Q6,Qw,Qk,Qj,Qi,Qu,Qt,Qs,Ql,Qh,cJ,hf,Q9,Xo,Xe,Kb,Yb,Kc,Ky,lk,V4]
 rfl
theorem Qcb (l:List Nat):∀ n,(Qbc n l).length=l.length+n
 | 0=>rfl
 | n+1=>by rw [Qbc,Za,Qcb l n]; rfl
theorem Qcc (l:List Nat) {n j:Nat} (hj:j<l.length+n):∀ m,n≤m→(Qbc m l)[j]?=(Qbc n l)[j]?
 | 0,h=>by rw [show n=0 by omega]
 | m+1,h=>by
  by_cases e:n=m+1
  ·rw [e]
  ·rw [Qbc,Qc (by rw [Qcb]; omega),Qcc l hj m (by omega)]
theorem Qfs (b:List Nat):(Qkw b).length=16:=by simp [Qkw]
theorem Qbd (b:List Nat):(Bc b).length=80:=by rw [Bc,Qcb,Qfs]
theorem Qky {b:List Nat} {i:Nat} (hi:i<16):(Bc b)[i]?=some (be ((b.drop (8*i)).take 8)):=by
 rw [Bc,Qcc _ (n:=0) (by rw [Qfs]; omega) 64 (by omega)]
 simp [Qbc,Qkw,hi]
theorem Qkx {b:List Nat} {i:Nat} (hi:16≤i) (hi':i<80):(Bc b)[i]?=some (((Bc b).getD (i-16) 0+(Bc b).getD (i-7) 0+sg0 ((Bc b).getD (i-15) 0)+sg1 ((Bc b).getD (i-2) 0))%18446744073709551616):=by
 obtain ⟨n,rfl⟩:∃ n,i=16+n:=⟨i-16,by omega⟩
 have hl:=Qfs b
 have hn:=Qcb (Qkw b) n
 rw [hl] at hn
 have hg:∀ j,j<16+n→(Bc b).getD j 0=(Qbc n (Qkw b)).getD j 0:=fun j hj=>by
  rw [Jh,Jh,Bc,Qcc _ (n:=n) (by rw [hl]; omega) 64 (by omega)]
 rw [hg _ (by omega),hg _ (by omega),hg _ (by omega),hg _ (by omega)]
 rw [Bc,Qcc _ (n:=n+1) (by rw [hl]; omega) 64 (by omega),Qbc,Qr (by omega),hn,Jc]
 simp only [Q5s,hn,Zu]
theorem Qt9 (l:List Nat) (x:Nat):be (l++[x])=be l*256+x:=by simp [be]
theorem Qua:∀ (n:Nat) (l:List Nat),l.length=n→(∀ x∈l,x<256)→be l<256^n
 | 0,l,h,_=>by rw [Vz h]; decide
 | n+1,l,h,hx=>by
  obtain ⟨m,x,rfl⟩:∃ m x,l=m++[x]:=⟨l.dropLast,l.getLast (by intro e; rw [e] at h; cases h),(List.dropLast_concat_getLast _).symm⟩
  rw [Za] at h
  have h1:=Qua n m (by simpa using h) (fun y hy=>hx y (Qhi _ hy))
  have h2:=hx x (by simp)
  rw [Qt9,V0]
  omega
theorem Qs0 {b:List Nat} (hb:∀ x∈b,x<256) {i x:Nat} (hx:(Bc b)[i]?=some x):x<18446744073709551616:=by
 have hi:i<80:=by have:=(Q1.1 hx).1; rwa [Qbd] at this
 by_cases h:i<16
 ·rw [Qky h] at hx
  cases hx
  have hl:((b.drop (8*i)).take 8).length≤8:=by rw [Jy]; omega
  have:=Qua _ _ rfl (fun y hy=>hb y (Y8 (Kr hy)):∀ y∈(b.drop (8*i)).take 8,y<256)
  exact Xf this (Vl (n:=256) (by decide) hl)
 ·rw [Qkx (by omega) hi] at hx
  cases hx
  exact Jw _ (by decide)
theorem Qbn {n i j:Nat} {L:List Nat} (hj:j<i) (hi:i≤L.length):(pf n L i)[j]?=L[j]? := by
 unfold pf
 rw [Qc (by rw [Jy]; omega),Vi,if_pos hj]
theorem Qx5 {l:List Nat} {i x:Nat} (h:l[i]?=some x):l.set i x=l:=by
 apply Wy
 intro k
 rw [Bw]
 by_cases c:i=k
 ·rw [if_pos c,←c,h,if_pos (Q1.1 h).1]
 ·rw [if_neg c]
theorem Qrf {n i:Nat} {L:List Nat} (hi:i<n) (hl:L.length=n):(pf n L i)[i]?=some 0:=by
 unfold pf
 rw [Qr (by rw [Jy]; omega),Jy,Kx (by omega),Jc,List.getElem?_replicate,if_pos (by omega)]
theorem Qh2 (a b:Nat):IntKind.u64.wrap ((a:Int)+(b:Int))=(((a+b)%18446744073709551616:Nat):Int):=by rw [←Hp,Qtp]
theorem Mq {a b:Nat} (ha:a<18446744073709551616) (hb:b<18446744073709551616):Vo .xor .u64 (a:Int) (b:Int)=((a^^^b:Nat):Int):=Qjq rfl ha hb
theorem Ql8 {a b:Nat} (ha:a<18446744073709551616) (hb:b<18446744073709551616):Vo .and .u64 (a:Int) (b:Int)=((a&&&b:Nat):Int):=Rf rfl ha hb
theorem Dg {a b:Nat} (ha:a<18446744073709551616) (hb:b<18446744073709551616):a^^^b<18446744073709551616:=Qa5 (n:=64) ha hb
theorem D7 {a b:Nat} (hb:b<18446744073709551616):a&&&b<18446744073709551616:=Bf (n:=64) a hb
theorem Qdf {x r:Nat} (hr:r≤64):(x:Int).fdiv (2^min r IntKind.u64.bits)=((x/2^r:Nat):Int):=by
 rw [show min r IntKind.u64.bits=r from Kx hr,←Qgc,Ho]; rfl
theorem Qp8 {x r:Nat} (hx:x<18446744073709551616):x/2^r<18446744073709551616:=Be (Gf _ _) hx
structure BB (H:List Ob) (id off:Nat) (b:List Nat):Prop where
 ob:∃ all:List Nat,H[id]?=some ⟨u8s all,true,true,false,1⟩∧∀ i,i<b.length→all[off+i]?=b[i]?
 lt:∀ x∈b,x<256
theorem BB.app {H l:List Ob} {id off:Nat} {b:List Nat} (h:BB H id off b):BB (H++l) id off b:=by
 obtain ⟨⟨all,h1,h2⟩,h3⟩:=h
 exact ⟨⟨all,by rw [Qc (Q1.1 h1).1]; exact h1,h2⟩,h3⟩
def w2I (H:List Ob) (P:Value) (id off cap:Nat) (w:List Nat) (i:Int) (o8 c8:Nat) (j:Int) (ex:Env):St:=⟨[(0,P),(1,.slice (some ⟨id,off,none⟩) 128 cap),(4,.pointer (some ⟨H.length,0,none⟩)),(5,.int .i64 i),(17,.int .i64 i),(28,.slice (some ⟨id,o8,none⟩) 8 c8),(29,.int .i64 8),(30,.int .i64 j)]++ex,H++[⟨ns .u64 w,true,true,true,1⟩],[]⟩
theorem Qw8 {H:List Ob} {P:Value} {id off cap c8 i:Nat} {b:List Nat} (hb:BB H id off b) (hl:b.length=128) (hi:i<16) :
  Jv T H.length (.block 2 (.loop Qfh)) (w2I H P id off cap (pf 80 (Bc b) i) i (off+8*i) c8 0 [])=some (.normal,w2I H P id off cap (pf 80 (Bc b) (i+1)) i (off+8*i) c8 8 [(31,.bool false)]):=by
 obtain ⟨⟨all,h1,h2⟩,h3⟩:=hb
 have hWl:=Qbd b
 have h8:((b.drop (8*i)).take 8).length=8:=by rw [Jy,Xs]; omega
 have hz:=Qrf (L:=Bc b) (by omega:i<80) hWl
 have hpl:=Qbm hWl (by omega:i≤80)
 have Qz3:(pf 80 (Bc b) i).set i (be [])=pf 80 (Bc b) i:=Qx5 hz
 have hW:=Qky (b:=b) hi
 have hstep:=Rw hWl (by omega:i<80) hW
 have h:=Ub (T:=T) (base:=H.length) (id:=2) (body:=Qfh) (fun j=>w2I H P id off cap ((pf 80 (Bc b) i).set i (be (((b.drop (8*i)).take 8).take j))) i (off+8*i) c8 j []) (s':=w2I H P id off cap (pf 80 (Bc b) (i+1)) i (off+8*i) c8 8 [(31,.bool false)]) 8
  (fun j hj=>by
   obtain ⟨x,hx⟩:∃ x,((b.drop (8*i)).take 8)[j]?=some x:=⟨_,Q3 (by omega)⟩
   have hxb:b[8*i+j]?=some x:=by
    rw [Vi,if_pos hj,V7] at hx; exact hx
   have hx':=h3 x (Zp hxb)
   have hxa:(u8s all)[off+8*i+j]?=some (.int .u8 (x:Nat)):=Uk (by rw [show off+8*i+j=off+(8*i+j) by omega,h2 _ (by omega)]; exact hxb)
   have hbel:=Qua j (((b.drop (8*i)).take 8).take j) (by rw [Jy]; omega) (fun y hy=>h3 y (Y8 (Kr (Kr hy))))
   have hbes:be (((b.drop (8*i)).take 8).take (j+1))=be (((b.drop (8*i)).take 8).take j)*256+x:=by rw [V3,hx]; exact Qt9 _ _
   rw [hbes]
   have h256:(256:Nat)^j≤256^7:=Vl (by decide) (by omega)
   have e7:(256:Nat)^7=72057594037927936:=by decide
   rw [e7] at h256
   generalize be (((b.drop (8*i)).take 8).take j)=a at *
   have hg:((pf 80 (Bc b) i).set i a)[i]?=some a:=by rw [Jl (by rw [hpl]; omega)]
   have hgc:=U3 (k := .u64) hg
   have hss:=Qao .u64 ((pf 80 (Bc b) i).set i a) i (a*256+x)
   rw [Qfo] at hss
   have hln:((pf 80 (Bc b) i).set i a).length=80:=by rw [Jp]; exact hpl
   have w1:IntKind.i64.wrap ((j:Int)+1)=((j+1:Nat):Int):=Ws (b:=1) (by omega)
   have w2:IntKind.u64.wrap (x:Int)=(x:Int):=Qub (by omega)
   have w3:IntKind.u64.wrap ((a:Int)*2^min 8 IntKind.u64.bits)=((a*256:Nat):Int):=Qma (b:=256) (by omega)
   have w4:Vo .or .u64 ((a*256:Nat):Int) (x:Int)=((a*256+x:Nat):Int):=by
    rw [Hl rfl (show a*256<2^64 by omega) (show x<2^64 by omega)]
    have:=Dj (a:=x) (b:=a) (n:=8) (by omega)
    rw [show (2:Nat)^8=256 from rfl] at this
    rw [this]
   have e1:((j:Int)<8)=True:=eq_true (by omega)
   have e2:((i:Int)<80)=True:=eq_true (by omega)
   have e4:(i≤79)=True:=eq_true (by omega)
   have hl1:liveAt (H++[⟨ns .u64 ((pf 80 (Bc b) i).set i a),true,true,true,1⟩]) id=some ⟨u8s all,true,true,false,1⟩:=Gj (Vj h1 rfl)
   generalize (pf 80 (Bc b) i).set i a=O1 at *
   generalize (pf 80 (Bc b) i).set i (a*256+x)=O2 at *
   generalize hv:a*256+x=v at *
   generalize a*256=v2 at *
   simp only [liveAt] at hl1
   generalize hoo:off+8*i=oo at *
   have hget:(H++[⟨ns .u64 O1,true,true,true,1⟩])[id]?=some ⟨u8s all,true,true,false,1⟩:=by rw [Qc (Q1.1 h1).1]; exact h1
   simp only [w2I,Qfh,Z6,quiet,cF,↓pF,reduceCtorEq,Qd,Qq,Zn,Zi,Zm,Zh,Ze,Qf,Q0,Qg,Q2,Q8,Q7,↓Xb,↓Xa,↓Xw,↓Xz,↓Xx,↓Xy,cL,Qp,Qo,Qz,Qy,Qv,Qn,Qm,Qx,Qe,Q5,Q6,Qw,Qk,Qj,Qi,Qu,Qt,Qs,Ql,Qh,cJ,hget,hxa,hgc,w1,w2,w3,w4,e1,e2,e4,hss,Ky,hln])
  (by
   rw [Zj (by omega),hstep]
   simp only [w2I,Qfh,Z6,quiet,cF,↓pF,reduceCtorEq,Qd,Qq,Zn,Zi,Zm,Zh,Ze,Qf,Q0,Qg,Q2,Q8,Q7,↓Xb,↓Xa,↓Xw,↓Xz,↓Xx,↓Xy,cL,Qp,Qo,Qz,Qy,Qv,Qn,Qm,Qx,Qe,Q5,Q6,Qw,Qk,Qj,Qi,Qu,Qt,Qs,Ql,Qh,cJ])
 rw [Q0,Qz3] at h
 exact h
end Go.Ev.Ytpgphpkjlpkcbaa
namespace Go.Ev.Ytpgphpkjlpkcbaa
open Go Go.Ev
attribute [local congr] Wp W0 Wo W3 Wh
set_option maxRecDepth 100000
theorem Bm {k:IntKind} {n y d:Nat} (h:n≤y):Gn (some (.int k (n:Int))) y d=some n:=by
 have e:(0:Int)≤(n:Int)∧(n:Int)≤(y:Int):=⟨by omega,by omega⟩
 simp only [Gn,if_pos e,Jf]
def w3I (H:List Ob) (P:Value) (id off cap:Nat) (w:List Nat) (i:Int) (ex:Env):St:=⟨[(0,P),(1,.slice (some ⟨id,off,none⟩) 128 cap),(4,.pointer (some ⟨H.length,0,none⟩)),(17,.int .i64 i)]++ex,H++[⟨ns .u64 w,true,true,true,1⟩],[]⟩
theorem Q6b {H:List Ob} {P:Value} {id off cap i:Nat} {b:List Nat} (hb:BB H id off b) (hl:b.length=128) (hc:128≤cap) (hi:i<16) :
  Jv T H.length Ta (w3I H P id off cap (pf 80 (Bc b) i) i [])=some (.normal,w3I H P id off cap (pf 80 (Bc b) (i+1)) ((i+1:Nat):Int) []):=by
 have h2:=Qw8 (P:=P) (cap:=cap) (c8:=cap-8*i) hb hl hi
 obtain ⟨⟨all,h1,-⟩,h3⟩:=hb
 simp only [w2I,Zg,Zc,Vx] at h2
 have e1:((i:Int)<80)=True:=eq_true (by omega)
 have e2:((i:Int)<16)=True:=eq_true (by omega)
 have w1:IntKind.i64.wrap (8*(i:Int))=((8*i:Nat):Int):=Qfr (a:=8) (by omega)
 have w2:IntKind.i64.wrap (((8*i:Nat):Int)+8)=((8*i+8:Nat):Int):=Ws (b:=8) (by omega)
 have w3:IntKind.i64.wrap ((i:Int)+1)=((i+1:Nat):Int):=Ws (b:=1) (by omega)
 have b1:Y9 128 cap (some (.int .i64 ((8*i:Nat):Int))) (some (.int .i64 ((8*i+8:Nat):Int))) none=some (8*i,8*i+8,cap):=by
  have n1:Gn (some (.int .i64 ((8*i+8:Nat):Int))) cap 128=some (8*i+8):=Bm (by omega)
  have n2:Gn (some (.int .i64 ((8*i:Nat):Int))) (8*i+8) 0=some (8*i):=Bm (by omega)
  rw [Bj,n1,Q4,n2,Q4]
 have hs:8*i+8-8*i=8:=by omega
 have hget:∀ l:List Ob,(H++l)[id]?=some ⟨u8s all,true,true,false,1⟩:=fun l=>by rw [Qc (Q1.1 h1).1]; exact h1
 generalize pf 80 (Bc b) i=O1 at *
 generalize pf 80 (Bc b) (i+1)=O2 at *
 generalize hk8:8*i+8=k8 at *
 generalize hk:8*i=k at *
 generalize i+1=i1 at *
 simp only [w3I,Ta,Z6,quiet,cF,↓pF,reduceCtorEq,Qd,Qq,Zn,Zi,Zm,Zh,Ze,Qf,Q0,Qg,Q2,Q8,Q7,↓Xb,↓Xa,↓Xw,↓Xz,↓Xx,↓Xy,cL,Qp,Qo,Qz,Qy,Qv,Qn,Qm,Qx,Qe,Q5,Q6,Qw,Qk,Qj,Qi,Qu,Qt,Qs,Ql,Qh,cJ,e1,e2,w1,w2,w3,b1,hs,hget,h2]
theorem Bh {l:List Nat} {i x:Nat} (h:l[i]?=some x):l.getD i 0=x:=by rw [Jh,h]; rfl
theorem Q1v {H:List Ob} {P:Value} {id off cap i:Nat} {b:List Nat} (hb:∀ x∈b,x<256) (hi:16≤i) (hi':i<80) :
  Jv T H.length Ta (w3I H P id off cap (pf 80 (Bc b) i) i [])=some (.normal,w3I H P id off cap (pf 80 (Bc b) (i+1)) ((i+1:Nat):Int) []):=by
 have hWl:=Qbd b
 have hW:=Qkx (b:=b) hi hi'
 have hstep:=Rw hWl hi' hW
 have hpl:=Qbm hWl (Um hi')
 obtain ⟨x,hx⟩:∃ x,(Bc b)[i-15]?=some x:=⟨_,Q3 (by omega)⟩
 obtain ⟨y,hy⟩:∃ x,(Bc b)[i-2]?=some x:=⟨_,Q3 (by omega)⟩
 obtain ⟨u,hu⟩:∃ x,(Bc b)[i-16]?=some x:=⟨_,Q3 (by omega)⟩
 obtain ⟨v,hv⟩:∃ x,(Bc b)[i-7]?=some x:=⟨_,Q3 (by omega)⟩
 have lx:=Qs0 hb hx
 have ly:=Qs0 hb hy
 have cx:=U3 (k := .u64) ((Qbn (n:=80) (by omega:i-15<i) (by omega)).trans hx)
 have cy:=U3 (k := .u64) ((Qbn (n:=80) (by omega:i-2<i) (by omega)).trans hy)
 have cu:=U3 (k := .u64) ((Qbn (n:=80) (by omega:i-16<i) (by omega)).trans hu)
 have cv:=U3 (k := .u64) ((Qbn (n:=80) (by omega:i-7<i) (by omega)).trans hv)
 rw [Bh hx,Bh hy,Bh hu,Bh hv] at hstep
 have r1:Vw T 102 [.int .u64 x,.int .i64 (-1)]=some (.int .u64 (U1 x 1:Nat)):=Qdi (r:=1) lx (by decide) (by decide)
 have r8:Vw T 102 [.int .u64 x,.int .i64 (-8)]=some (.int .u64 (U1 x 8:Nat)):=Qdi (r:=8) lx (by decide) (by decide)
 have r19:Vw T 102 [.int .u64 y,.int .i64 (-19)]=some (.int .u64 (U1 y 19:Nat)):=Qdi (r:=19) ly (by decide) (by decide)
 have r61:Vw T 102 [.int .u64 y,.int .i64 (-61)]=some (.int .u64 (U1 y 61:Nat)):=Qdi (r:=61) ly (by decide) (by decide)
 have b1:=Dw (r:=1) lx (by decide) (by decide)
 have b8:=Dw (r:=8) lx (by decide) (by decide)
 have b19:=Dw (r:=19) ly (by decide) (by decide)
 have b61:=Dw (r:=61) ly (by decide) (by decide)
 have x1:=Mq b1 b8
 have x2:Vo .xor .u64 ((U1 x 1^^^U1 x 8:Nat):Int) ((x/2^7:Nat):Int)=((sg0 x:Nat):Int):=Mq (Dg b1 b8) (Qp8 lx)
 have y1:=Mq b19 b61
 have y2:Vo .xor .u64 ((U1 y 19^^^U1 y 61:Nat):Int) ((y/2^6:Nat):Int)=((sg1 y:Nat):Int):=Mq (Dg b19 b61) (Qp8 ly)
 have s7:(x:Int).fdiv (2^min 7 IntKind.u64.bits)=((x/2^7:Nat):Int):=Qdf (by decide)
 have s6:(y:Int).fdiv (2^min 6 IntKind.u64.bits)=((y/2^6:Nat):Int):=Qdf (by decide)
 have m1:=Qh2 u v
 have m2:=Qh2 ((u+v)%18446744073709551616) (sg0 x)
 have m3:=Qh2 (((u+v)%18446744073709551616+sg0 x)%18446744073709551616) (sg1 y)
 have hsum:(((u+v)%18446744073709551616+sg0 x)%18446744073709551616+sg1 y)%18446744073709551616=(u+v+sg0 x+sg1 y)%18446744073709551616:=by omega
 rw [hsum] at m3
 have hset:=Qao .u64 (pf 80 (Bc b) i) i ((u+v+sg0 x+sg1 y)%18446744073709551616)
 rw [hstep] at hset
 have e1:((i:Int)<80)=True:=eq_true (by omega)
 have e2:((i:Int)<16)=False:=eq_false (by omega)
 have i15:IntKind.i64.wrap ((i:Int)-15)=((i-15:Nat):Int):=by rw [Yd (by omega) (by omega)]; omega
 have i2:IntKind.i64.wrap ((i:Int)-2)=((i-2:Nat):Int):=by rw [Yd (by omega) (by omega)]; omega
 have i16:IntKind.i64.wrap ((i:Int)-16)=((i-16:Nat):Int):=by rw [Yd (by omega) (by omega)]; omega
 have i7:IntKind.i64.wrap ((i:Int)-7)=((i-7:Nat):Int):=by rw [Yd (by omega) (by omega)]; omega
 have j15:(((i-15:Nat):Int)<80)=True:=eq_true (by omega)
 have j2:(((i-2:Nat):Int)<80)=True:=eq_true (by omega)
 have j16:(((i-16:Nat):Int)<80)=True:=eq_true (by omega)
 have j7:(((i-7:Nat):Int)<80)=True:=eq_true (by omega)
 have w3:IntKind.i64.wrap ((i:Int)+1)=((i+1:Nat):Int):=Ws (b:=1) (by omega)
 have e4:(i≤79)=True:=eq_true (by omega)
 clear hsum hstep hW hx hy hu hv hWl
 generalize pf 80 (Bc b) i=O1 at *
 generalize pf 80 (Bc b) (i+1)=O2 at *
 generalize (u+v+sg0 x+sg1 y)%18446744073709551616=z at *
 generalize ((u+v)%18446744073709551616+sg0 x)%18446744073709551616=z2 at *
 generalize (u+v)%18446744073709551616=z3 at *
 generalize sg0 x=gx at *
 generalize sg1 y=gy at *
 generalize U1 x 1^^^U1 x 8=xx at *
 generalize U1 y 19^^^U1 y 61=yy at *
 generalize U1 x 1=x1v at *
 generalize U1 x 8=x8v at *
 generalize U1 y 19=y19v at *
 generalize U1 y 61=y61v at *
 generalize x/2^7=x7v at *
 generalize y/2^6=y6v at *
 generalize i-15=k15 at *
 generalize i-2=k2 at *
 generalize i-16=k16 at *
 generalize i-7=k7 at *
 generalize i+1=i1 at *
 simp only [w3I,Ta,↓Zl,Z6,quiet,cF,↓pF,reduceCtorEq,Qd,Qq,Zn,Zi,Zm,Zh,Ze,Qf,Q0,Qg,Q2,Q8,Q7,↓Zo,↓Zk,↓Zq,↓Zt,↓Zr,↓Zs,cL,Qp,Qo,Qz,Qy,Qv,Qn,Qm,Qx,Qe,Q5,Q6,Qw,Qk,Qj,Qi,Qu,Qt,Qs,Ql,Qh,cJ,e1,e2,e4,i15,i2,i16,i7,j15,j2,j16,j7,cx,cy,cu,cv,r1,r8,r19,r61,x1,x2,y1,y2,s7,s6,m1,m2,m3,hset,w3,Ky,hpl]
theorem Qw6 {H:List Ob} {P:Value} {id off cap:Nat} {b:List Nat} (hb:BB H id off b) (hl:b.length=128) (hc:128≤cap) :
  Jv T H.length (.block 0 (.loop Ta)) (w3I H P id off cap (Qa 80 0) 0 [])=some (.normal,w3I H P id off cap (Bc b) 80 [(18,.bool false)]):=by
 have hWl:=Qbd b
 have h:=Ub (T:=T) (base:=H.length) (id:=0) (body:=Ta) (fun i=>w3I H P id off cap (pf 80 (Bc b) i) i []) (s':=w3I H P id off cap (Bc b) 80 [(18,.bool false)]) 80
  (fun i hi=>by
   by_cases h:i<16
   ·exact Q6b hb hl hc h
   ·exact Q1v hb.lt (by omega) hi)
  (by
   rw [Qcl hWl]
   simp only [w3I,Ta,Z6,quiet,cF,↓pF,reduceCtorEq,Qd,Qq,Zn,Zi,Zm,Zh,Ze,Qf,Q0,Qg,Q2,Q8,Q7,↓Xb,↓Xa,↓Xw,↓Xz,↓Xx,↓Xy,cL,Qp,Qo,Qz,Qy,Qv,Qn,Qm,Qx,Qe,Q5,Q6,Qw,Qk,Qj,Qi,Qu,Qt,Qs,Ql,Qh,cJ])
 rw [Qck] at h
 exact h
theorem eight {l:List Nat} (h:l.length=8):∃ a b c d e f g i,l=[a,b,c,d,e,f,g,i]:=by
 match l,h with
 | [a,b,c,d,e,f,g,i],_=>exact ⟨a,b,c,d,e,f,g,i,rfl⟩
theorem Q2g (s:List Nat) (k w:Nat):(rnd s k w).length=8:=rfl
theorem Qec {s:List Nat} (hs:s.length=8) (w:List Nat):∀ n,(Qhb n w s).length=8
 | 0=>hs
 | n+1=>rfl
theorem Q6q {s:List Nat} (hs:s.length=8) (hx:∀ x∈s,x<18446744073709551616) (k w:Nat):∀ x∈rnd s k w,x<18446744073709551616:=by
 obtain ⟨a,b,c,d,e,f,g,h,rfl⟩:=eight hs
 intro x hm
 have h1:∀ y z:Nat,(y+z)%18446744073709551616<18446744073709551616:=fun _ _=>Jw _ (by decide)
 simp only [rnd,Yt,Wb,or_false] at hm
 rcases hm with rfl | rfl | rfl | rfl | rfl | rfl | rfl | rfl
 ·exact h1 _ _
 ·exact hx _ (by simp)
 ·exact hx _ (by simp)
 ·exact hx _ (by simp)
 ·exact h1 _ _
 ·exact hx _ (by simp)
 ·exact hx _ (by simp)
 ·exact hx _ (by simp)
theorem Qtb {s:List Nat} (hs:s.length=8) (hx:∀ x∈s,x<18446744073709551616) (w:List Nat):∀ n,∀ x∈Qhb n w s,x<18446744073709551616
 | 0=>hx
 | n+1=>Q6q (Qec hs w n) (Qtb hs hx w n) _ _
theorem Q31:∀ x∈Ro,x<18446744073709551616:=by decide +kernel
theorem fill8 (a b c d e f g h:Nat):fillL (Qa 8 (Value.int .u64 0)) [(0,1,.int .u64 (a:Int)),(1,1,.int .u64 (b:Int)),(2,1,.int .u64 (c:Int)),(3,1,.int .u64 (d:Int)),(4,1,.int .u64 (e:Int)),(5,1,.int .u64 (f:Int)),(6,1,.int .u64 (g:Int)),(7,1,.int .u64 (h:Int))]=some (ns .u64 [a,b,c,d,e,f,g,h]):=rfl
def w1I (H:List Ob) (P:Value) (w s:List Nat) (i:Int) (ex:Env):St:=⟨[(0,P),(4,.pointer (some ⟨H.length,0,none⟩)),(10,.pointer (some ⟨H.length+1,0,none⟩)),(86,eV Ro),(87,.int .i64 i)]++ex,H++[⟨ns .u64 w,true,true,true,1⟩,⟨ns .u64 s,true,true,true,1⟩],[]⟩
theorem Q1x {H:List Ob} {P:Value} {w s:List Nat} {i:Nat} (hw:w.length=80) (hs:s.length=8) (hx:∀ x∈s,x<18446744073709551616) (hi:i<80) :
  Jv T H.length Qc7 (w1I H P w s i [])=some (.normal,w1I H P w (rnd s (Ro.getD i 0) (w.getD i 0)) ((i+1:Nat):Int) []):=by
 obtain ⟨a,b,c,d,e,f,g,h,rfl⟩:=eight hs
 obtain ⟨k,hk⟩:∃ k,Ro[i]?=some k:=⟨_,Q3 (by rw [Qbu]; exact hi)⟩
 obtain ⟨v,hv⟩:∃ k,w[i]?=some k:=⟨_,Q3 (by omega)⟩
 rw [Bh hk,Bh hv]
 have kc:=U3 (k := .u64) hk
 have vc:=U3 (k := .u64) hv
 have la:=hx a (by simp)
 have lb:=hx b (by simp)
 have lc:=hx c (by simp)
 have le:=hx e (by simp)
 have lf:=hx f (by simp)
 have lg:=hx g (by simp)
 have r14:Vw T 102 [.int .u64 e,.int .i64 (-14)]=some (.int .u64 (U1 e 14:Nat)):=Qdi (r:=14) le (by decide) (by decide)
 have r18:Vw T 102 [.int .u64 e,.int .i64 (-18)]=some (.int .u64 (U1 e 18:Nat)):=Qdi (r:=18) le (by decide) (by decide)
 have r41:Vw T 102 [.int .u64 e,.int .i64 (-41)]=some (.int .u64 (U1 e 41:Nat)):=Qdi (r:=41) le (by decide) (by decide)
 have r28:Vw T 102 [.int .u64 a,.int .i64 (-28)]=some (.int .u64 (U1 a 28:Nat)):=Qdi (r:=28) la (by decide) (by decide)
 have r34:Vw T 102 [.int .u64 a,.int .i64 (-34)]=some (.int .u64 (U1 a 34:Nat)):=Qdi (r:=34) la (by decide) (by decide)
 have r39:Vw T 102 [.int .u64 a,.int .i64 (-39)]=some (.int .u64 (U1 a 39:Nat)):=Qdi (r:=39) la (by decide) (by decide)
 have b14:=Dw (r:=14) le (by decide) (by decide)
 have b18:=Dw (r:=18) le (by decide) (by decide)
 have b41:=Dw (r:=41) le (by decide) (by decide)
 have b28:=Dw (r:=28) la (by decide) (by decide)
 have b34:=Dw (r:=34) la (by decide) (by decide)
 have b39:=Dw (r:=39) la (by decide) (by decide)
 have x1:=Mq b14 b18
 have x2:Vo .xor .u64 ((U1 e 14^^^U1 e 18:Nat):Int) ((U1 e 41:Nat):Int)=((Sg1 e:Nat):Int):=Mq (Dg b14 b18) b41
 have x3:=Mq b28 b34
 have x4:Vo .xor .u64 ((U1 a 28^^^U1 a 34:Nat):Int) ((U1 a 39:Nat):Int)=((Sg0 a:Nat):Int):=Mq (Dg b28 b34) b39
 have a1:=Ql8 le lf
 have a2:Vo .xor .u64 (if IntKind.u64.signed=true then -1 else IntKind.u64.max) (e:Int)=((18446744073709551615^^^e:Nat):Int):=Mq (a:=18446744073709551615) (by decide) le
 have lne:18446744073709551615^^^e<18446744073709551616:=Dg (by decide) le
 have a3:=Ql8 lne lg
 have a4:Vo .xor .u64 ((e&&&f:Nat):Int) (((18446744073709551615^^^e)&&&g:Nat):Int)=((chO e f g:Nat):Int):=Mq (D7 lf) (D7 lg)
 have a5:=Ql8 la lb
 have a6:=Ql8 la lc
 have a7:=Ql8 lb lc
 have a8:=Mq (a:=a&&&b) (b:=a&&&c) (D7 lb) (D7 lc)
 have a9:Vo .xor .u64 (((a&&&b)^^^(a&&&c):Nat):Int) ((b&&&c:Nat):Int)=((maO a b c:Nat):Int):=Mq (Dg (D7 lb) (D7 lc)) (D7 lc)
 have m1:=Qh2 h (Sg1 e)
 have m2:=Qh2 ((h+Sg1 e)%18446744073709551616) (chO e f g)
 have m3:=Qh2 (((h+Sg1 e)%18446744073709551616+chO e f g)%18446744073709551616) k
 have m4:=Qh2 ((((h+Sg1 e)%18446744073709551616+chO e f g)%18446744073709551616+k)%18446744073709551616) v
 have hT1:((((h+Sg1 e)%18446744073709551616+chO e f g)%18446744073709551616+k)%18446744073709551616+v)%18446744073709551616=t1O [a,b,c,d,e,f,g,h] k v:=by
  show _=(h+Sg1 e+chO e f g+k+v)%18446744073709551616
  omega
 rw [hT1] at m4
 have m5:IntKind.u64.wrap ((Sg0 a:Int)+(maO a b c:Int))=((t2O [a,b,c,d,e,f,g,h]:Nat):Int):=Qh2 (Sg0 a) (maO a b c)
 have m6:=Qh2 (t1O [a,b,c,d,e,f,g,h] k v) (t2O [a,b,c,d,e,f,g,h])
 have m7:=Qh2 d (t1O [a,b,c,d,e,f,g,h] k v)
 have hr:rnd [a,b,c,d,e,f,g,h] k v=[(t1O [a,b,c,d,e,f,g,h] k v+t2O [a,b,c,d,e,f,g,h])%18446744073709551616,a,b,c,(d+t1O [a,b,c,d,e,f,g,h] k v)%18446744073709551616,e,f,g]:=rfl
 have hf:=fill8 ((t1O [a,b,c,d,e,f,g,h] k v+t2O [a,b,c,d,e,f,g,h])%18446744073709551616) a b c ((d+t1O [a,b,c,d,e,f,g,h] k v)%18446744073709551616) e f g
 rw [←hr] at hf
 have lR:=Q2g [a,b,c,d,e,f,g,h] k v
 have e1:((i:Int)<80)=True:=eq_true (by omega)
 have w3:IntKind.i64.wrap ((i:Int)+1)=((i+1:Nat):Int):=Ws (b:=1) (by omega)
 have vi:Qme none 80 1 (eV Ro) (.int .i64 (i:Int))=some (.int .u64 (k:Nat)):=by
  unfold eV
  rw [Qdm]
  simp only [e1,Z6,quiet,cF,↓pF,reduceCtorEq,Qd,Qq,Zn,Zi,Zm,Zh,Ze,Qf,Q0,Qg,Q2,Q8,Q7,↓Xb,↓Xa,↓Xw,↓Xz,↓Xx,↓Xy,cL,Qp,Qo,Qz,Qy,Qv,Qn,Qm,Qx,Qe,Q5,Q6,Qw,Qk,Qj,Qi,Qu,Qt,Qs,Ql,Qh,kc]
 have g0:(ns .u64 [a,b,c,d,e,f,g,h])[0]?=some (.int .u64 (a:Nat)):=rfl
 have g1:(ns .u64 [a,b,c,d,e,f,g,h])[1]?=some (.int .u64 (b:Nat)):=rfl
 have g2:(ns .u64 [a,b,c,d,e,f,g,h])[2]?=some (.int .u64 (c:Nat)):=rfl
 have g3:(ns .u64 [a,b,c,d,e,f,g,h])[3]?=some (.int .u64 (d:Nat)):=rfl
 have g4:(ns .u64 [a,b,c,d,e,f,g,h])[4]?=some (.int .u64 (e:Nat)):=rfl
 have g5:(ns .u64 [a,b,c,d,e,f,g,h])[5]?=some (.int .u64 (f:Nat)):=rfl
 have g6:(ns .u64 [a,b,c,d,e,f,g,h])[6]?=some (.int .u64 (g:Nat)):=rfl
 have g7:(ns .u64 [a,b,c,d,e,f,g,h])[7]?=some (.int .u64 (h:Nat)):=rfl
 have lS:(ns .u64 [a,b,c,d,e,f,g,h]).length=8:=rfl
 clear hT1 hr hk hv kc hs hx
 generalize rnd [a,b,c,d,e,f,g,h] k v=R at *
 generalize (t1O [a,b,c,d,e,f,g,h] k v+t2O [a,b,c,d,e,f,g,h])%18446744073709551616=z1 at *
 generalize (d+t1O [a,b,c,d,e,f,g,h] k v)%18446744073709551616=z2 at *
 generalize t1O [a,b,c,d,e,f,g,h] k v=t1 at *
 generalize t2O [a,b,c,d,e,f,g,h]=t2 at *
 generalize (((h+Sg1 e)%18446744073709551616+chO e f g)%18446744073709551616+k)%18446744073709551616=z3 at *
 generalize ((h+Sg1 e)%18446744073709551616+chO e f g)%18446744073709551616=z4 at *
 generalize (h+Sg1 e)%18446744073709551616=z5 at *
 generalize Sg1 e=se at *
 generalize Sg0 a=sa at *
 generalize chO e f g=cc at *
 generalize maO a b c=mm at *
 generalize (a&&&b)^^^(a&&&c)=q1 at *
 generalize (18446744073709551615^^^e)&&&g=q2 at *
 generalize 18446744073709551615^^^e=q3 at *
 generalize e&&&f=q4 at *
 generalize a&&&b=q5 at *
 generalize a&&&c=q6 at *
 generalize b&&&c=q7 at *
 generalize U1 e 14^^^U1 e 18=q8 at *
 generalize U1 a 28^^^U1 a 34=q9 at *
 generalize U1 e 14=p1 at *
 generalize U1 e 18=p2 at *
 generalize U1 e 41=p3 at *
 generalize U1 a 28=p4 at *
 generalize U1 a 34=p5 at *
 generalize U1 a 39=p6 at *
 generalize i+1=i1 at *
 generalize hS:ns .u64 [a,b,c,d,e,f,g,h]=S at *
 simp only [w1I,hS]
 generalize eV Ro=kt at *
 simp only [Qc7,↓Zl,Z6,quiet,cF,↓pF,reduceCtorEq,Qd,Qq,Zn,Zi,Zm,Zh,Ze,Qf,Q0,Qg,Q2,Q8,Q7,↓Zo,↓Zk,↓Zq,↓Zt,↓Zr,↓Zs,cL,Qp,Qo,Qz,Qy,Qv,Qn,Qm,Qx,Qe,Q5,Q6,Qw,Qk,Qj,Qi,Qu,Qt,Qs,Ql,Qh,cJ,e1,vi,vc,r14,r18,r41,r28,r34,r39,x1,x2,x3,x4,a1,a2,a3,a4,a5,a6,a7,a8,a9,m1,m2,m3,m4,m5,m6,m7,hf,w3,g0,g1,g2,g3,g4,g5,g6,g7,lS,Ky,hw,lR,Xo,Q9]
theorem Qw9 {H:List Ob} {P:Value} {w s:List Nat} (hw:w.length=80) (hs:s.length=8) (hx:∀ x∈s,x<18446744073709551616) :
  Jv T H.length (.block 4 (.loop Qc7)) (w1I H P w s 0 [])=some (.normal,w1I H P w (Qhb 80 w s) 80 [(88,.bool false)]):=by
 have h:=Ub (T:=T) (base:=H.length) (id:=4) (body:=Qc7) (fun i=>w1I H P w (Qhb i w s) i []) (s':=w1I H P w (Qhb 80 w s) 80 [(88,.bool false)]) 80
  (fun i hi=>Q1x hw (Qec hs w i) (Qtb hs hx w i) hi)
  (by
   generalize Qhb 80 w s=R
   simp only [w1I]
   generalize eV Ro=kt
   simp only [Qc7,Z6,quiet,cF,↓pF,reduceCtorEq,Qd,Qq,Zn,Zi,Zm,Zh,Ze,Qf,Q0,Qg,Q2,Q8,Q7,↓Xb,↓Xa,↓Xw,↓Xz,↓Xx,↓Xy,cL,Qp,Qo,Qz,Qy,Qv,Qn,Qm,Qx,Qe,Q5,Q6,Qw,Qk,Qj,Qi,Qu,Qt,Qs,Ql,Qh,cJ])
 exact h
def hcl (rv:Value) (n:Nat) (st:List Nat):List Value:=rv::.int .u64 (n:Nat)::ns .u64 st
def hob (rv:Value) (n:Nat) (st:List Nat):Ob:=⟨hcl rv n st,true,true,true,1⟩
theorem Qct (rv:Value) (n:Nat) (st:List Nat):(hcl rv n st).length=2+st.length:=by simp [hcl,Ky]; omega
theorem Qtx {rv:Value} {n i x:Nat} {st:List Nat} (h:st[i]?=some x):(hcl rv n st)[2+i]?=some (.int .u64 (x:Nat)):=by
 rw [Bi]; exact U3 h
theorem Q33 (rv:Value) (n i x:Nat) (st:List Nat):(hcl rv n st).set (2+i) (.int .u64 (x:Nat))=hcl rv n (st.set i x):=by
 rw [Bi]
 show rv::.int .u64 (n:Nat)::(ns .u64 st).set i _=_
 rw [Qao]; rfl
theorem Qlu {rv:Value} {n:Nat} {st:List Nat} (h:st.length=8):Kw 8 (Wc 2 (hcl rv n st))=ns .u64 st:=by
 show Kw 8 (ns .u64 st)=_
 rw [Zj (by rw [Ky]; omega)]
theorem Q4y {s b:List Nat} (hs:s.length=8):(blk s b).length=8:=by unfold blk; rw [T8,Qec hs,hs]; rfl
theorem Q74 {s b:List Nat}:∀ x∈blk s b,x<18446744073709551616:=by
 intro x hx
 unfold blk at hx
 obtain ⟨i,hi⟩:=Uw hx
 rw [Rl] at hi
 split at hi
 ·cases hi; exact Jw _ (by decide)
 ·cases hi
theorem Yv {b:Nat}:∀ {M L:List Nat} {i:Nat},i∈Ja b L M→i∈L∨i∈M
 | [],L,i,h=>.inl h
 | m::M,L,i,h=>by
  simp only [Ja] at h
  split at h
  ·rcases Yv h with h1 | h1
   ·rcases Kv.1 h1 with h2 | h2
    ·exact .inl h2
    ·exact .inr (by rw [W7.1 h2]; exact List.mem_cons_self)
   ·exact .inr (Gm _ h1)
  ·rcases Yv h with h1 | h1
   ·exact .inl h1
   ·exact .inr (Gm _ h1)
def w0I (H:List Ob) (hid:Nat) (rv:Value) (n:Nat) (st:List Nat) (s L:List Nat) (ob1 ob2:Ob) (i:Int) (ex:Env):St:=⟨[(0,.pointer (some ⟨hid,0,none⟩)),(174,eV s),(175,.int .i64 i)]++ex,H.set hid (hob rv n st)++[ob1,ob2],L⟩
theorem Qxb {H:List Ob} {hid n:Nat} {rv:Value} {st s:List Nat} {ob1 ob2:Ob} (hh:hid<H.length) (hs:s.length=8) (hst:st.length=8) :
  ∃ L,Jv T H.length (.block 6 (.loop Qfi)) (w0I H hid rv n st s [] ob1 ob2 0 [])=some (.normal,w0I H hid rv n (Gl (fun x y=>(x+y)%18446744073709551616) st s) s L ob1 ob2 8 [(176,.bool false)])∧∀ i∈L,i=hid:=by
 have hZ:(Gl (fun x y=>(x+y)%18446744073709551616) st s).length=8:=by rw [T8,hs,hst]; rfl
 obtain ⟨Z,hZd⟩:∃ Z,Z=Gl (fun x y=>(x+y)%18446744073709551616) st s:=⟨_,rfl⟩
 rw [←hZd] at hZ ⊢
 obtain ⟨st',hb,L,rfl,hL⟩:=Yg (T:=T) (base:=H.length) (id:=6) (body:=Qfi)
  (fun i x=>∃ L,x=w0I H hid rv n (Z.take i++st.drop i) s L ob1 ob2 i []∧∀ j∈L,j=hid)
  (Q:=fun x=>∃ L,x=w0I H hid rv n Z s L ob1 ob2 8 [(176,.bool false)]∧∀ j∈L,j=hid)
  8 (s:=w0I H hid rv n st s [] ob1 ob2 0 []) ⟨[],rfl,by simp⟩
  (fun i x hi hx=>by
   obtain ⟨L,rfl,hL⟩:=hx
   obtain ⟨u,hu⟩:∃ u,st[i]?=some u:=⟨_,Q3 (by omega)⟩
   obtain ⟨v,hv⟩:∃ u,s[i]?=some u:=⟨_,Q3 (by omega)⟩
   have hz:Z[i]?=some ((u+v)%18446744073709551616):=by rw [hZd,Rl,hu,hv]
   have hlt:(Z.take i).length=i:=by rw [Jy]; omega
   have hg:(Z.take i++st.drop i)[i]?=some u:=by
    rw [Qr (by omega),hlt,Jc,V7]; exact hu
   have hstep:(Z.take i++st.drop i).set i ((u+v)%18446744073709551616)=Z.take (i+1)++st.drop (i+1):=by
    rw [Yf _ _ (by omega),hlt,Jc,B3 (i:=i),hu,V3,hz]
    simp
   have hlen:(Z.take i++st.drop i).length=8:=by rw [Za,Xs,hlt]; omega
   have gc:=Qtx (rv:=rv) (n:=n) hg
   have sc:=Q33 rv n i ((u+v)%18446744073709551616) (Z.take i++st.drop i)
   rw [hstep] at sc
   have cl:=Qct rv n (Z.take i++st.drop i)
   rw [hlen] at cl
   have vc:=U3 (k := .u64) hv
   have vi:Qme none 8 1 (eV s) (.int .i64 (i:Int))=some (.int .u64 (v:Nat)):=by
    have e1:((i:Int)<8)=True:=eq_true (by omega)
    unfold eV
    rw [Qdm]
    simp only [e1,Z6,quiet,cF,↓pF,reduceCtorEq,Qd,Qq,Zn,Zi,Zm,Zh,Ze,Qf,Q0,Qg,Q2,Q8,Q7,↓Xb,↓Xa,↓Xw,↓Xz,↓Xx,↓Xy,cL,Qp,Qo,Qz,Qy,Qv,Qn,Qm,Qx,Qe,Q5,Q6,Qw,Qk,Qj,Qi,Qu,Qt,Qs,Ql,Qh,vc]
   have m1:=Qh2 u v
   have e1:((i:Int)<8)=True:=eq_true (by omega)
   have w3:IntKind.i64.wrap ((i:Int)+1)=((i+1:Nat):Int):=Ws (b:=1) (by omega)
   have hget:∀ o:Ob,(H.set hid o++[ob1,ob2])[hid]?=some o:=fun o=>by
    rw [Qc (by rw [Jp]; exact hh),Jl hh]
   have hset:∀ o o':Ob,(H.set hid o++[ob1,ob2]).set hid o'=H.set hid o'++[ob1,ob2]:=fun o o'=>by
    rw [Tl _ _ (by rw [Jp]; exact hh),Qfo]
   have e5:(2+i+1≤2+8)=True:=eq_true (by omega)
   refine ⟨w0I H hid rv n (Z.take (i+1)++st.drop (i+1)) s (Ja H.length L [hid]) ob1 ob2 ((i+1:Nat):Int) [],?_,_,rfl,?_⟩
   ·generalize Z.take (i+1)++st.drop (i+1)=O2 at *
    generalize Z.take i++st.drop i=O1 at *
    generalize (u+v)%18446744073709551616=z at *
    simp only [w0I,hob]
    generalize hcl rv n O1=C1 at *
    generalize hcl rv n O2=C2 at *
    generalize eV s=sv at *
    generalize i+1=i1 at *
    simp only [Qfi,↓Zl,Z6,quiet,cF,↓pF,reduceCtorEq,Qd,Qq,Zn,Zi,Zm,Zh,Ze,Qf,Q0,Qg,Q2,Q8,Q7,↓Zo,↓Zk,↓Zq,↓Zt,↓Zr,↓Zs,cL,Qp,Qo,Qz,Qy,Qv,Qn,Qm,Qx,Qe,Q5,Q6,Qw,Qk,Qj,Qi,Qu,Qt,Qs,Ql,Qh,cJ,e1,vi,m1,w3,gc,sc,cl,e5,hget,hset]
    done
   ·intro j hj
    rcases Yv hj with h | h
    ·exact hL j h
    ·simpa using h)
  (fun x hx=>by
   obtain ⟨L,rfl,hL⟩:=hx
   rw [Zj (by omega),Y6 (by omega),Jj]
   refine ⟨_,?_,L,rfl,hL⟩
   simp only [w0I,hob]
   generalize hcl rv n Z=C
   generalize eV s=sv
   simp only [Qfi,Z6,quiet,cF,↓pF,reduceCtorEq,Qd,Qq,Zn,Zi,Zm,Zh,Ze,Qf,Q0,Qg,Q2,Q8,Q7,↓Xb,↓Xa,↓Xw,↓Xz,↓Xx,↓Xy,cL,Qp,Qo,Qz,Qy,Qv,Qn,Qm,Qx,Qe,Q5,Q6,Qw,Qk,Qj,Qi,Qu,Qt,Qs,Ql,Qh,cJ])
 exact ⟨L,hb,hL⟩
theorem Qcg {α:Type} {l:List α} {i:Nat} {x:α} (h:l[i]?=some x):l.set i x=l:=by
 apply Wy
 intro k
 rw [Bw]
 by_cases c:i=k
 ·rw [if_pos c,←c,h,if_pos (Q1.1 h).1]
 ·rw [if_neg c]
def Ql9:List Nat:=Qa 80 0
theorem Q57:Qa 80 (Value.int .u64 0)=ns .u64 Ql9:=rfl
theorem Q1s:Ql9.length=80:=rfl
def Qw0:List Nat:=Qa 8 0
theorem z8_eq:Qa 8 (Value.int .u64 0)=ns .u64 Qw0:=rfl
theorem Q56:Qw0.length=8:=rfl
theorem Q09 {H:List Ob} {hid id off cap n:Nat} {rv:Value} {st b:List Nat} (hh:H[hid]?=some (hob rv n st)) (hs:st.length=8) (hx:∀ x∈st,x<18446744073709551616) (hb:BB H id off b) (hl:b.length=128) (hc:128≤cap) :
  ∃ w s M,Vv T 99 [.pointer (some ⟨hid,0,none⟩),.slice (some ⟨id,off,none⟩) 128 cap] H=some (.tuple #[],H.set hid (hob rv n (blk st b))++[w,s],M)∧∀ i∈M,i=hid:=by
 have hlt:hid<H.length:=(Q1.1 hh).1
 have h3:=Qw6 (P := .pointer (some ⟨hid,0,none⟩)) (cap:=cap) hb hl hc
 have hWl:=Qbd b
 have h1:=Qw9 (H:=H) (P := .pointer (some ⟨hid,0,none⟩)) hWl hs hx
 have lr:=Qec hs (Bc b) 80
 obtain ⟨L,h0,hL⟩:=Qxb (H:=H) (hid:=hid) (n:=n) (rv:=rv) (ob1:=⟨ns .u64 (Bc b),true,true,true,1⟩) (ob2:=⟨ns .u64 (Qhb 80 (Bc b) st),true,true,true,1⟩) hlt lr hs
 rw [show Gl (fun x y=>(x+y)%18446744073709551616) st (Qhb 80 (Bc b) st)=blk st b from rfl] at h0
 have hss:H.set hid (hob rv n st)=H:=Qcg hh
 refine ⟨⟨ns .u64 (Bc b),true,true,true,1⟩,⟨ns .u64 (Qhb 80 (Bc b) st),true,true,true,1⟩,L,?_,hL⟩
 simp only [w0I,hss,Zg,Zc,Vx] at h0
 have hz:=Q57
 have lz:=Q1s
 have hz8:=z8_eq
 have lz8:=Q56
 rw [show Qa 80 0=Ql9 from rfl] at h3
 simp only [w3I,Zg,Zc,Vx] at h3
 simp only [w1I,Zg,Zc,Vx] at h1
 have ht:=Qs5
 have hcs:=Qlu (rv:=rv) (n:=n) hs
 have hcl8:2+8≤(hcl rv n st).length:=by rw [Qct]; omega
 have hget:∀ l:List Ob,(H++l)[hid]?=some ⟨hcl rv n st,true,true,true,1⟩:=fun l=>by rw [Qc hlt]; exact hh
 have lk:=Qbu
 generalize H.set hid (hob rv n (blk st b))=H' at *
 generalize Bc b=W at *
 generalize Qhb 80 W st=R at *
 generalize hcl rv n st=C at *
 generalize Ql9=Z at *
 generalize Qw0=Z8 at *
 generalize Ro=KT at *
 rw [Z5 (fn:=Q83) rfl]
 simp only [Q83,↓Zl,Z6,quiet,cF,↓pF,reduceCtorEq,Qd,Qq,Zn,Zi,Zm,Zh,Ze,Qf,Q0,Qg,Q2,Q8,Q7,↓Zo,↓Zk,↓Zq,↓Zt,↓Zr,↓Zs,cL,Qp,Qo,Qz,Qy,Qv,Qn,Qm,Qx,Qe,Q5,Q6,Qw,Qk,Qj,Qi,Qu,Qt,Qs,Ql,Qh,cJ,hz,hz8,h3,h1,h0,ht,hget,hcs,hcl8,Q9,Xo,Xe,Kb,Yb,Kc,Ky,hWl,hs,lr,lz,lz8,lk,V4]
 rfl
inductive Rst (K:Nat→Prop) (H:List Ob):Value→List Nat→Prop
 | nil:Rst K H (.slice none 0 0) []
 | empty {id:Nat}:¬ K id→H[id]?=some ⟨[],true,true,true,1⟩→Rst K H (.slice (some ⟨id,0,none⟩) 0 0) []
 | own {id off:Nat} {all l:List Nat}:¬ K id→H[id]?=some ⟨u8s all,true,true,false,1⟩→off+l.length≤all.length→(∀ i,i<l.length→all[off+i]?=l[i]?)→Rst K H (.slice (some ⟨id,off,none⟩) l.length l.length) l
theorem Rst.app {K:Nat→Prop} {H m:List Ob} {v:Value} {l:List Nat} (h:Rst K H v l):Rst K (H++m) v l:=by
 cases h with
 | nil=>exact .nil
 | empty h1 h2=>exact .empty h1 (by rw [Qc (Q1.1 h2).1]; exact h2)
 | own h1 h2 h4 h3=>exact .own h1 (by rw [Qc (Q1.1 h2).1]; exact h2) h4 h3
theorem Rst.setH {K:Nat→Prop} {H:List Ob} {v:Value} {l:List Nat} {hid n:Nat} {rv:Value} {st:List Nat} (h:Rst K H v l) (hh:H[hid]?=some (hob rv n st)) (o:Ob):Rst K (H.set hid o) v l:=by
 cases h with
 | nil=>exact .nil
 | empty h1 h2=>exact .empty h1 (by
   rw [Z7]
   ·exact h2
   ·intro e; subst e
    have:=congrArg Ob.cells (Ge (hh.symm.trans h2))
    simp [hob,hcl] at this)
 | own h1 h2 h4 h3=>exact .own h1 (by
   rw [Z7]
   ·exact h2
   ·intro e; subst e
    have:=congrArg Ob.exact (Ge (hh.symm.trans h2))
    simp [hob] at this) h4 h3
theorem Qh8 {all l:List Nat} {off:Nat} (h:∀ i,i<l.length→all[off+i]?=l[i]?):((u8s all).drop off).take l.length=u8s l:=by
 apply Wy
 intro i
 rw [Vi]
 split
 ·rename_i hi
  rw [V7]
  have:=h i hi
  simp only [u8s,Wq,this]
 ·rename_i hi
  rw [Kq (by rw [Zv]; omega)]
theorem Rst.append {K:Nat→Prop} {H:List Ob} {v x:Value} {l p:List Nat} (h:Rst K H v l) (hK:∀ i,K i→i<H.length) (hl:Go.Ev.lenV x=some p.length) (he:elemsOf H 1 p.length x=some (u8s p)) (hb:l.length+p.length≤2^47) :
  ∃ v' H' M,Yz 1 1 H v x=some (v',H',none,M)∧Rst K H' v' (l++p)∧(∀ i∈M,¬ K i)∧H.length≤H'.length∧(∀ i,K i→H'[i]?=H[i]?)∧∀ (i:Nat) (o:Ob),H[i]?=some o→o.exact=true→H'[i]?=some o:=by
 rcases Wl p.length with hn | hn
 ·have:p=[]:=Vz hn
  subst this
  rw [Jj]
  refine ⟨v,H,[],?_,h,by simp,Zf _,fun _ _=>rfl,fun i o h _=>h⟩
  rw [Z3] at hl he
  cases h<;>simp only [Yz,hl,he,Q4,if_true]
 ·have h1:¬ p.length=0:=by omega
  have hnew:¬ K H.length:=fun h=>absurd (hK _ h) (Xh _)
  cases h with
  | nil =>
   refine ⟨.slice (some ⟨H.length,0,none⟩) p.length p.length,H++[Ob.grown 1 (u8s p)],[],?_,?_,by simp,by simp,?_,?_⟩
   ·have h2:(0+p.length)*1≤2^47∧0<1∧0<1:=⟨by simpa using hb,by decide,by decide⟩
    simp only [Yz,hl,he,Q4,if_neg h1,h2,and_self,not_true_eq_false,if_false,if_true]
   ·rw [Zc]
    exact .own (all:=p) hnew (by simp [Ob.grown]) (by omega) (fun i _=>by rw [Zz])
   ·intro i hi; rw [Qc (hK i hi)]
   ·intro i o ho _; rw [Qc (Q1.1 ho).1]; exact ho
  | @empty id0 k1 k2 =>
   refine ⟨.slice (some ⟨H.length,0,none⟩) (0+p.length) (0+p.length),H++[Ob.grown 1 ([]++u8s p)],[],?_,?_,by simp,by simp,?_,?_⟩
   ·have h2:(0+p.length)*1≤2^47∧0<1∧0<1:=⟨by simpa using hb,by decide,by decide⟩
    have h4:liveAt H id0=some ⟨[],true,true,true,1⟩:=Vj k2 rfl
    have h7:¬ (0+p.length≤0):=by omega
    have h8:elemsOf H 1 0 (.slice (some ⟨id0,0,none⟩) 0 0)=some []:=by simp [elemsOf,h4]
    simp only [Yz,hl,he,Q4,if_neg h1,h2,and_self,not_true_eq_false,if_false,if_true,h4,h8,if_neg h7]
   ·rw [Zc,Zc,Zz]
    exact .own (all:=p) hnew (by simp [Ob.grown]) (by omega) (fun i _=>by rw [Zz])
   ·intro i hi; rw [Qc (hK i hi)]
   ·intro i o ho _; rw [Qc (Q1.1 ho).1]; exact ho
  | @own id0 off all _ k1 k2 k4 k3 =>
   have hid:id0<H.length:=(Q1.1 k2).1
   refine ⟨.slice (some ⟨H.length,0,none⟩) (l.length+p.length) (l.length+p.length),(H.set id0 Ob.dead)++[Ob.grown 1 (u8s l++u8s p)],[id0],?_,?_,by simpa using k1,by simp,?_,?_⟩
   ·have h2:(l.length+p.length)*1≤2^47∧0<1∧0<1:=⟨by omega,by decide,by decide⟩
    have h4:liveAt H id0=some ⟨u8s all,true,true,false,1⟩:=Vj k2 rfl
    have h7:¬ (l.length+p.length≤l.length):=by omega
    have h8:elemsOf H 1 l.length (.slice (some ⟨id0,off,none⟩) l.length l.length)=some (u8s l):=by
     have:=Qh8 k3
     simp only [elemsOf,h4,Q4,Xg]
     rw [this]
     simp [Zv,k4]
    simp only [Yz,hl,he,Q4,if_neg h1,h2,and_self,not_true_eq_false,if_false,if_true,h4,h8,if_neg h7,Z2,Zf]
   ·have:=Rst.own (K:=K) (H:=(H.set id0 Ob.dead)++[Ob.grown 1 (u8s l++u8s p)]) (id:=H.length) (off:=0) (all:=l++p) (l:=l++p) hnew (by simp [Ob.grown,u8s]) (by omega) (fun i _=>by rw [Zz])
    rwa [Za] at this
   ·intro i hi
    rw [Qc (by rw [Jp]; exact hK i hi),Z7 (fun e=>k1 (by rw [e]; exact hi))]
   ·intro i o ho hex
    rw [Qc (by rw [Jp]; exact (Q1.1 ho).1),Z7]
    ·exact ho
    ·intro e; subst e; rw [k2] at ho; cases ho; cases hex
theorem Qhn (b:List Nat):∀ n,(stK n b).length=8
 | 0=>rfl
 | n+1=>Q4y (Qhn b n)
theorem Qyc:∀ x∈Qdh,x<18446744073709551616:=by decide
theorem Qxw (b:List Nat):∀ n,∀ x∈stK n b,x<18446744073709551616
 | 0=>Qyc
 | n+1=>Q74
theorem Qs8 (a b:List Nat):∀ q,128*q≤a.length→stK q (a++b)=stK q a
 | 0,_=>rfl
 | q+1,h=>by
  rw [stK,stK,Qs8 a b q (by omega),Yj (by omega),Ya (by rw [Xs]; omega)]
def Hsh (K:Nat→Prop) (H:List Ob) (hid:Nat) (all:List Nat):Prop:=∃ rv,H[hid]?=some (hob rv all.length (stK (all.length/128) all))∧Rst K H rv (all.drop (128*(all.length/128)))
def fdF (hid:Nat):Value := .func (.func 99) [Value.pointer (some ⟨hid,0,none⟩)].toArray [].toArray
def fdI (hid:Nat) (H:List Ob) (L:List Nat) (ex:Env):St:=⟨[(0,.pointer (some ⟨hid,0,none⟩)),(1,.int .i64 128),(3,fdF hid)]++ex,H,L⟩
theorem Q4k {K:Nat→Prop} {H:List Ob} {hid b0 n:Nat} {rv:Value} {st rest L:List Nat} {ex:Env} (hK:∀ i,K i→i<H.length) (hKh:¬ K hid) (hh:H[hid]?=some (hob rv n st)) (hs:st.length=8) (hx:∀ x∈st,x<18446744073709551616) (hr:Rst K H rv rest) (h128:128≤rest.length) (xr:∀ x∈rest,x<256) (hL:∀ i∈L,¬ K i) (hmx:rest.length<2^60) :
  ∃ rv' H' L' ex',Jv T b0 Ml (fdI hid H L ex)=some (.normal,fdI hid H' L' ex')∧H'[hid]?=some (hob rv' n (blk st (rest.take 128)))∧Rst K H' rv' (rest.drop 128)∧(∀ i,K i→H'[i]?=H[i]?)∧H.length≤H'.length∧∀ i∈L',¬ K i:=by
 have hlt:hid<H.length:=(Q1.1 hh).1
 cases hr with
 | nil=>exact absurd h128 (by decide)
 | empty _ _=>exact absurd h128 (by decide)
 | @own id off all _ k1 k2 k4 k3 =>
  have hidne:id≠hid:=fun e=>by
   subst e
   have:=congrArg Ob.exact (Ge (hh.symm.trans k2))
   simp [hob] at this
  have hBB:BB H id off (rest.take 128):=⟨⟨all,k2,fun i hi=>by
   rw [Jy] at hi
   rw [k3 i (by omega),Vi,if_pos (by omega)]⟩,fun x hx=>xr x (Kr hx)⟩
  have hl:(rest.take 128).length=128:=by rw [Jy]; omega
  obtain ⟨w,s,M,hb,hM⟩:=Q09 (cap:=rest.length) hh hs hx hBB hl h128
  have c0:∀ s',(hcl (.slice (some ⟨id,off,none⟩) rest.length rest.length) n s')[0]?=some (.slice (some ⟨id,off,none⟩) rest.length rest.length):=fun _=>rfl
  have cs:∀ s' v,(hcl (.slice (some ⟨id,off,none⟩) rest.length rest.length) n s').set 0 v=hcl v n s':=fun _ _=>rfl
  have cl:∀ v s',(1≤(hcl v n s').length)=True:=fun v s'=>eq_true (by rw [Qct]; omega)
  have b1:Y9 rest.length rest.length none (some (.int .i64 128)) none=some (0,128,rest.length):=by
   have n1:Gn (some (.int .i64 128)) rest.length rest.length=some 128:=Bm (n:=128) h128
   rw [Bj,n1,Q4]; rfl
  have b2:Y9 rest.length rest.length (some (.int .i64 128)) none none=some (128,rest.length,rest.length):=by
   have n1:Gn (some (.int .i64 128)) rest.length 0=some 128:=Bm (n:=128) h128
   rw [Bj,Mz,Q4,n1,Q4]
  have e1:((128:Int)≤(rest.length:Int))=True:=eq_true (by omega)
  have g0:H[hid]?=some ⟨hcl (.slice (some ⟨id,off,none⟩) rest.length rest.length) n st,true,true,true,1⟩:=hh
  have g1:∀ o:Ob,(H.set hid o++[w,s])[hid]?=some o:=fun o=>by
   rw [Qc (by rw [Jp]; exact hlt),Jl hlt]
  have g2:∀ o:Ob,(H.set hid o++[w,s])[id]?=some ⟨u8s all,true,true,false,1⟩:=fun o=>by
   rw [Qc (by rw [Jp]; exact (Q1.1 k2).1),Z7 (Ne.symm hidne)]; exact k2
  have g3:∀ o o':Ob,(H.set hid o++[w,s]).set hid o'=H.set hid o'++[w,s]:=fun o o'=>by
   rw [Tl _ _ (by rw [Jp]; exact hlt),Qfo]
  refine ⟨.slice (some ⟨id,off+128,none⟩) (rest.length-128) (rest.length-128),H.set hid (hob (.slice (some ⟨id,off+128,none⟩) (rest.length-128) (rest.length-128)) n (blk st (rest.take 128)))++[w,s],Ja b0 (Ja b0 L M) [hid],[],?_,g1 _,?_,?_,?_,?_⟩
  ·simp only [hob] at hb ⊢
   generalize blk st (rest.take 128)=st' at *
   simp only [fdI,fdF,Ml,↓Zl,Z6,quiet,cF,↓pF,reduceCtorEq,Qd,Qq,Zn,Zi,Zm,Zh,Ze,Qf,Q0,Qg,Q2,Q8,Q7,↓Zo,↓Zk,↓Zq,↓Zt,↓Zr,↓Zs,cL,Qp,Qo,Qz,Qy,Qv,Qn,Qm,Qx,Qe,Q5,Q6,Qw,Qk,Qj,Qi,Qu,Qt,Qs,Ql,Qh,cJ,e1,b1,b2,hb,c0,cs,cl,g0,k2,g1,g2,g3]
  ·have:=Rst.own (K:=K) (H:=H.set hid (hob (.slice (some ⟨id,off+128,none⟩) (rest.length-128) (rest.length-128)) n (blk st (rest.take 128)))++[w,s]) (id:=id) (off:=off+128) (all:=all) (l:=rest.drop 128) k1 (g2 _) (by rw [Xs]; omega) (fun i hi=>by
    rw [Xs] at hi
    rw [V7,←k3 _ (by omega),Vr])
   rwa [Xs] at this
  ·intro i hi
   rw [Qc (by rw [Jp]; exact hK i hi),Z7 (fun e=>hKh (by rw [e]; exact hi))]
  ·simp
  ·intro i hi
   rcases Yv hi with h | h
   ·rcases Yv h with h | h
    ·exact hL i h
    ·rw [hM i h]; exact hKh
   ·rw [W7.1 h]; exact hKh
theorem Rst.shape {K:Nat→Prop} {H:List Ob} {v:Value} {l:List Nat} (h:Rst K H v l):∃ (a:Option Addr) (c:Nat),v=.slice a l.length c:=by
 cases h with
 | nil=>exact ⟨_,_,rfl⟩
 | empty _ _=>exact ⟨_,_,rfl⟩
 | own _ _ _ _=>exact ⟨_,_,rfl⟩
theorem Q4g {K:Nat→Prop} {H:List Ob} {hid:Nat} {x:Value} {all p:List Nat} (hK:∀ i,K i→i<H.length) (hKh:¬ K hid) (hh:Hsh K H hid all) (xa:∀ y∈all,y<256) (xp:∀ y∈p,y<256)
  (hl:∃ (a:Option Addr) (c:Nat),x=.slice a p.length c) (he:∀ o,elemsOf (H.set hid o) 1 p.length x=some (u8s p)) (hb:all.length+p.length<2^50) (hb2:p.length≤2^47-128) :
  ∃ H' M,Vv T 93 [.pointer (some ⟨hid,0,none⟩),.int .i64 128,x,fdF hid] H=some (.tuple #[],H',M)∧Hsh K H' hid (all++p)∧(∀ i,K i→H'[i]?=H[i]?)∧H.length≤H'.length∧∀ i∈M,¬ K i:=by
 obtain ⟨rv,h1,h2⟩:=hh
 have hlt:hid<H.length:=(Q1.1 h1).1
 obtain ⟨q0,hq0⟩:∃ q,q=all.length/128:=⟨_,rfl⟩
 rw [←hq0] at h1 h2
 have hq1:128*q0≤all.length:=by rw [hq0]; omega
 have hst:stK q0 all=stK q0 (all++p):=(Qs8 all p q0 hq1).symm
 have hN:(all++p).length=all.length+p.length:=Za
 rw [hst] at h1
 obtain ⟨st0,hst0⟩:∃ s,s=stK q0 (all++p):=⟨_,rfl⟩
 rw [←hst0] at h1
 have hrest:all.drop (128*q0)++p=(all++p).drop (128*q0):=(Yj hq1).symm
 have hrl:(all.drop (128*q0)).length≤127:=by rw [Xs,hq0]; omega
 have hr1:Rst K (H.set hid (hob rv (all.length+p.length) st0)) rv (all.drop (128*q0)):=h2.setH h1 _
 have hK1:∀ i,K i→i<(H.set hid (hob rv (all.length+p.length) st0)).length:=fun i hi=>by rw [Jp]; exact hK i hi
 have hlen:Go.Ev.lenV x=some p.length:=by obtain ⟨a,c,rfl⟩:=hl; rfl
 obtain ⟨rv',H2,M2,ha,a1,a2,a3,a4,a5⟩:=hr1.append hK1 hlen (he _) (by omega)
 have hg1:(H.set hid (hob rv (all.length+p.length) st0))[hid]?=some (hob rv (all.length+p.length) st0):=Jl hlt
 have hg2:=a5 hid _ hg1 rfl
 rw [Jp] at a3
 have hlt2:hid<H2.length:=by omega
 have hr3:Rst K (H2.set hid (hob rv' (all.length+p.length) st0)) rv' ((all++p).drop (128*q0)):=by
  rw [hrest] at a1
  exact a1.setH hg2 _
 have hg3:(H2.set hid (hob rv' (all.length+p.length) st0))[hid]?=some (hob rv' (all.length+p.length) st0):=Jl hlt2
 obtain ⟨H3,hH3⟩:∃ X,X=H2.set hid (hob rv' (all.length+p.length) st0):=⟨_,rfl⟩
 have hf3:∀ i,K i→H3[i]?=H[i]? := fun i hi=>by
  have hne:hid≠i:=fun e=>hKh (by rw [e]; exact hi)
  rw [hH3,Z7 hne,a4 i hi,Z7 hne]
 have hl3:H.length≤H3.length:=by rw [hH3,Jp]; exact a3
 obtain ⟨L3,hL3⟩:∃ L,L=Ja H.length (Ja H.length (Ja H.length [] [hid]) M2) [hid]:=⟨_,rfl⟩
 have hL3':∀ i∈L3,¬ K i:=fun i hi=>by
  rw [hL3] at hi
  rcases Yv hi with h | h
  ·rcases Yv h with h | h
   ·rcases Yv h with h | h
    ·simp at h
    ·rw [W7.1 h]; exact hKh
   ·exact a2 i h
  ·rw [W7.1 h]; exact hKh
 rw [←hH3] at hr3 hg3
 obtain ⟨st,hloop,H',L',ex',rvf,rfl,f1,f2,f3,f4,f5⟩:=Yg (T:=T) (base:=H.length) (id:=0) (body:=Ml)
  (fun k st=>∃ H' L' ex' rvk,st=fdI hid H' L' ex'∧H'[hid]?=some (hob rvk (all.length+p.length) (stK (q0+k) (all++p)))∧Rst K H' rvk ((all++p).drop (128*(q0+k)))∧(∀ i,K i→H'[i]?=H[i]?)∧H.length≤H'.length∧∀ i∈L',¬ K i)
  (Q:=fun st=>∃ H' L' ex' rvk,st=fdI hid H' L' ex'∧H'[hid]?=some (hob rvk (all.length+p.length) (stK ((all++p).length/128) (all++p)))∧Rst K H' rvk ((all++p).drop (128*((all++p).length/128)))∧(∀ i,K i→H'[i]?=H[i]?)∧H.length≤H'.length∧∀ i∈L',¬ K i)
  ((all++p).length/128-q0) (s:=fdI hid H3 L3 []) ⟨H3,L3,[],rv',rfl,by rw [Jk,←hst0]; exact hg3,by rw [Jk]; exact hr3,hf3,hl3,hL3'⟩
  (fun k st hk hs=>by
   obtain ⟨Hk,Lk,exk,rvk,rfl,k1,k2,k3,k4,k5⟩:=hs
   obtain ⟨rv2,Hk2,L2,ex2,j1,j2,j3,j4,j5,j6⟩:=Q4k (b0:=H.length) (ex:=exk) (fun i hi=>Xf (hK i hi) k4) hKh k1 (Qhn _ _) (Qxw _ _) k2 (by rw [Xs]; omega) (fun y hy=>by
    rcases Kv.1 (Y8 hy) with h | h
    ·exact xa y h
    ·exact xp y h) k5 (by rw [Xs]; omega)
   refine ⟨_,j1,Hk2,L2,ex2,rv2,rfl,j2,?_,fun i hi=>(j4 i hi).trans (k3 i hi),Ut k4 j5,j6⟩
   rw [Bn] at j3
   rw [show 128*(q0+(k+1))=128*(q0+k)+128 by omega]
   exact j3)
  (fun st hs=>by
   obtain ⟨Hk,Lk,exk,rvk,rfl,k1,k2,k3,k4,k5⟩:=hs
   have hqq:q0+((all++p).length/128-q0)=(all++p).length/128:=by
    have:q0≤(all++p).length/128:=by rw [hq0,hN]; omega
    omega
   rw [hqq] at k1 k2
   have hrl2:((all++p).drop (128*((all++p).length/128))).length<128:=by rw [Xs]; omega
   obtain ⟨v,c,hv⟩:=k2.shape
   refine ⟨_,?_,Hk,Lk,[(33,.bool false)],rvk,rfl,k1,k2,k3,k4,k5⟩
   subst hv
   have c0:∀ v' s',(hcl v' (all.length+p.length) s')[0]?=some v':=fun _ _=>rfl
   have e1:((128:Int)≤(((all++p).drop (128*((all++p).length/128))).length:Int))=False:=eq_false (by omega)
   simp only [hob] at k1
   generalize ((all++p).drop (128*((all++p).length/128))).length=rl at *
   generalize stK ((all++p).length/128) (all++p)=sk at *
   simp only [fdI,fdF,Ml,↓Zl,Z6,quiet,cF,↓pF,reduceCtorEq,Qd,Qq,Zn,Zi,Zm,Zh,Ze,Qf,Q0,Qg,Q2,Q8,Q7,↓Zo,↓Zk,↓Zq,↓Zt,↓Zr,↓Zs,cL,Qp,Qo,Qz,Qy,Qv,Qn,Qm,Qx,Qe,Q5,Q6,Qw,Qk,Qj,Qi,Qu,Qt,Qs,Ql,Qh,cJ,e1,k1,c0])
 refine ⟨H',L',?_,⟨rvf,by rw [hN] at f1 ⊢; exact f1,f2⟩,f3,f4,f5⟩
 obtain ⟨c1,c2,rfl⟩:=hl
 simp only [fdI,Zg,Zc,hL3] at hloop
 simp only [hob] at h1 ha hg2 hH3
 have w1:IntKind.u64.wrap (p.length:Int)=(p.length:Int):=Qub (by omega)
 have w2:IntKind.u64.wrap ((all.length:Int)+(p.length:Int))=((all.length+p.length:Nat):Int):=Qs1 (by omega)
 have c0:∀ v' n' s',(hcl v' n' s')[0]?=some v':=fun _ _ _=>rfl
 have c1':∀ v' (n':Nat) s',(hcl v' n' s')[1]?=some (.int .u64 n'):=fun _ _ _=>rfl
 have s0:∀ v' n' s' v,(hcl v' n' s').set 0 v=hcl v n' s':=fun _ _ _ _=>rfl
 have s1:∀ v' n' s' (m:Nat),(hcl v' n' s').set 1 (.int .u64 (m:Int))=hcl v' m s':=fun _ _ _ _=>rfl
 have cl:∀ v n' s',(1≤(hcl v n' s').length)=True:=fun v n' s'=>eq_true (by rw [Qct]; omega)
 have cl2:∀ v n' s',(2≤(hcl v n' s').length)=True:=fun v n' s'=>eq_true (by rw [Qct]; omega)
 have hgs:∀ o:Ob,(H.set hid o)[hid]?=some o:=fun o=>Jl hlt
 obtain ⟨vr,cr,hvr⟩:=a1.shape
 have hok:okVar rv'=true:=by rw [hvr]; rfl
 have hc1:rv'.cells.toList=[rv']:=by rw [hvr]; rfl
 have hc2:rv'.cells.size=1:=by rw [hvr]; rfl
 clear hvr
 generalize all.length+p.length=NN at *
 rw [Z5 (fn:=Q1n) rfl]
 simp only [Q1n,↓Zl,Z6,quiet,cF,↓pF,reduceCtorEq,Qd,Qq,Zn,Zi,Zm,Zh,Ze,Qf,Q0,Qg,Q2,Q8,Q7,↓Zo,↓Zk,↓Zq,↓Zt,↓Zr,↓Zs,cL,Qp,Qo,Qz,Qy,Qv,Qn,Qm,Qx,Qe,Q5,Q6,Qw,Qk,Qj,Qi,Qu,Qt,Qs,Ql,Qh,cJ,fdF,h1,c0,c1',s0,s1,cl,cl2,w1,w2,hgs,ha,hg2,←hH3,hok,hc1,hc2]
 simp only [fdF] at hloop
 simp only [hloop,Z6,quiet,cF,↓pF,reduceCtorEq,Qd,Qq,Zn,Zi,Zm,Zh,Ze,Qf,Q0,Qg,Q2,Q8,Q7,↓Zo,↓Zk,↓Zq,↓Zt,↓Zr,↓Zs,cL,Qp,Qo,Qz,Qy,Qv,Qn,Qm,Qx,Qe,Q5,Q6,Qw,Qk,Qj,Qi,Qu,Qt,Qs,Ql,Qh]
 rfl
structure HPart (K:Nat→Prop) (H:List Ob) (x:Value) (p:List Nat):Prop where
 shape:∃ (a:Option Addr) (c:Nat),x=.slice a p.length c
 reads:∀ G:List Ob,(∀ i,K i→G[i]?=H[i]?)→elemsOf G 1 p.length x=some (u8s p)
 lt:∀ y∈p,y<256
 le:p.length≤2^47-128
theorem HPart.of {K:Nat→Prop} {H G:List Ob} {x:Value} {p:List Nat} (h:HPart K H x p) (hg:∀ i,K i→G[i]?=H[i]?):HPart K G x p :=
 ⟨h.shape,fun G' hG'=>h.reads G' fun i hi=>(hG' i hi).trans (hg i hi),h.lt,h.le⟩
inductive HParts (K:Nat→Prop) (H:List Ob):List Value→List (List Nat)→Prop
 | nil:HParts K H [] []
 | cons {x:Value} {p:List Nat} {xs:List Value} {ps:List (List Nat)}:HPart K H x p→HParts K H xs ps→HParts K H (x::xs) (p::ps)
theorem HParts.get {K:Nat→Prop} {H:List Ob}:∀ {xs:List Value} {ps:List (List Nat)},HParts K H xs ps→∀ {i:Nat} {x:Value},xs[i]?=some x→∃ p,ps[i]?=some p∧HPart K H x p
 | _,_,.nil,i,x,h=>by simp at h
 | _,_,.cons a b,0,x,h=>by simp at h; subst h; exact ⟨_,rfl,a⟩
 | _,_,.cons a b,i+1,x,h=>by
  obtain ⟨p,h1,h2⟩:=b.get (i:=i) (by simpa using h)
  exact ⟨p,by simpa using h1,h2⟩
theorem HParts.len {K:Nat→Prop} {H:List Ob}:∀ {xs:List Value} {ps:List (List Nat)},HParts K H xs ps→ps.length=xs.length
 | _,_,.nil=>rfl
 | _,_,.cons _ b=>by simp [b.len]
theorem HParts.lt {K:Nat→Prop} {H:List Ob}:∀ {xs:List Value} {ps:List (List Nat)},HParts K H xs ps→∀ y∈ps.flatten,y<256
 | _,_,.nil=>by simp
 | _,_,.cons a b=>by
  intro y hy
  rw [J3] at hy
  rcases Kv.1 hy with h | h
  ·exact a.lt y h
  ·exact b.lt y h
def PV (K:Nat→Prop) (H:List Ob) (pv:Value) (xs:List Value):Prop:=(pv=.slice none 0 0∧xs=[])∨∃ pid off cap o,pv=.slice (some ⟨pid,off,none⟩) xs.length cap∧K pid∧H[pid]?=some o∧o.live=true∧∀ i,i<xs.length→o.cells[off+i]?=xs[i]?
def wrI (hid:Nat) (pv:Value) (n:Nat) (i:Int) (H:List Ob) (L:List Nat) (ex:Env):St:=⟨[(0,.pointer (some ⟨hid,0,none⟩)),(6,pv),(7,.int .i64 n),(8,.int .i64 i)]++ex,H,L⟩
theorem Q1u {K:Nat→Prop} {H H0:List Ob} {hid b0 i:Nat} {pv:Value} {xs:List Value} {ps:List (List Nat)} {all L:List Nat} (hK:∀ i,K i→i<H.length) (hKh:¬ K hid) (hh:Hsh K H hid all) (xa:∀ y∈all,y<256) (hp:PV K H0 pv xs) (hP:HParts K H0 xs ps) (hF:∀ i,K i→H[i]?=H0[i]?) (hL:∀ i∈L,¬ K i) (hi:i<xs.length) (hn:xs.length<2^50) (hb:all.length+(ps.getD i []).length<2^50) :
  ∃ H' L',Jv T b0 Qfk (wrI hid pv xs.length i H L [])=some (.normal,wrI hid pv xs.length ((i+1:Nat):Int) H' L' [])∧Hsh K H' hid (all++ps.getD i [])∧(∀ i,K i→H'[i]?=H[i]?)∧H.length≤H'.length∧∀ i∈L',¬ K i:=by
 obtain ⟨x,hx⟩:∃ x,xs[i]?=some x:=⟨_,Q3 hi⟩
 obtain ⟨p,hpi,hpp⟩:=hP.get hx
 have hgd:ps.getD i []=p:=by rw [Jh,hpi]; rfl
 rw [hgd] at hb ⊢
 obtain ⟨H',M,hf,f1,f2,f3,f4⟩:=Q4g hK hKh hh xa hpp.lt hpp.shape (fun o=>hpp.reads _ (fun j hj=>by
  rw [Z7 (fun e=>hKh (by rw [e]; exact hj))]; exact hF j hj)) hb hpp.le
 rcases hp with ⟨-,h0⟩ | ⟨pid,off,cap,o,rfl,kp,ho,hlv,hc⟩
 ·rw [h0] at hi; exact absurd hi (Jq _)
 ·have ho':H[pid]?=some o:=(hF pid kp).trans ho
  have hcx:o.cells[off+i]?=some x:=(hc i hi).trans hx
  have e1:((i:Int)<(xs.length:Int))=True:=eq_true (by omega)
  have w3:IntKind.i64.wrap ((i:Int)+1)=((i+1:Nat):Int):=Ws (b:=1) (by omega)
  refine ⟨H',Ja b0 L M,?_,f1,f2,f3,fun j hj => ?_⟩
  ·simp only [fdF] at hf
   generalize i+1=i1 at *
   simp only [wrI,Qfk,↓Zl,Z6,quiet,cF,↓pF,reduceCtorEq,Qd,Qq,Zn,Zi,Zm,Zh,Ze,Qf,Q0,Qg,Q2,Q8,Q7,↓Zo,↓Zk,↓Zq,↓Zt,↓Zr,↓Zs,cL,Qp,Qo,Qz,Qy,Qv,Qn,Qm,Qx,Qe,Q5,Q6,Qw,Qk,Qj,Qi,Qu,Qt,Qs,Ql,Qh,cJ,e1,ho',hlv,hcx,w3,hf]
  ·rcases Yv hj with h | h
   ·exact hL j h
   ·exact f4 j h
theorem Qnr {K:Nat→Prop} {H:List Ob} {hid:Nat} {pv:Value} {xs:List Value} {ps:List (List Nat)} {all:List Nat} (hK:∀ i,K i→i<H.length) (hKh:¬ K hid) (hh:Hsh K H hid all) (xa:∀ y∈all,y<256) (hp:PV K H pv xs) (hP:HParts K H xs ps) (hn:xs.length<2^50) (hb:(all++ps.flatten).length<2^50) :
  ∃ H' M,Vv T 86 [.pointer (some ⟨hid,0,none⟩),pv] H=some (.tuple #[],H',M)∧Hsh K H' hid (all++ps.flatten)∧(∀ i,K i→H'[i]?=H[i]?)∧H.length≤H'.length∧∀ i∈M,¬ K i:=by
 obtain ⟨st,hl,H',L',rfl,f1,f2,f3,f4⟩:=Yg (T:=T) (base:=H.length) (id:=0) (body:=Qfk)
  (fun i st=>∃ H' L',st=wrI hid pv xs.length (i:Nat) H' L' []∧Hsh K H' hid (all++(ps.take i).flatten)∧(∀ i,K i→H'[i]?=H[i]?)∧H.length≤H'.length∧∀ i∈L',¬ K i)
  (Q:=fun st=>∃ H' L',st=wrI hid pv xs.length (xs.length:Nat) H' L' [(9,.bool false)]∧Hsh K H' hid (all++ps.flatten)∧(∀ i,K i→H'[i]?=H[i]?)∧H.length≤H'.length∧∀ i∈L',¬ K i)
  xs.length (s:=wrI hid pv xs.length 0 H [] []) ⟨H,[],rfl,by simpa using hh,fun _ _=>rfl,Zf _,by simp⟩
  (fun i st hi hs=>by
   obtain ⟨H1,L1,rfl,g1,g2,g3,g4⟩:=hs
   have hpl:=hP.len
   have hsp:ps.flatten=(ps.take i).flatten++((ps.getD i [])++(ps.drop (i+1)).flatten):=by
    obtain ⟨p,hpi⟩:∃ p,ps[i]?=some p:=⟨_,Q3 (by omega)⟩
    have hgd:ps.getD i []=p:=by rw [Jh,hpi]; rfl
    rw [hgd,←J3,←Vh]
    congr 1
    have h1:=Q1.1 hpi
    conv=>lhs; rw [←Yr i ps,Yx h1.1,h1.2]
   have htk:(ps.take (i+1)).flatten=(ps.take i).flatten++ps.getD i []:=by
    obtain ⟨p,hpi⟩:∃ p,ps[i]?=some p:=⟨_,Q3 (by omega)⟩
    have hgd:ps.getD i []=p:=by rw [Jh,hpi]; rfl
    rw [hgd,V3,hpi,Vh]; simp
   have hlt:=hP.lt
   obtain ⟨H2,L2,j1,j2,j3,j4,j5⟩:=Q1u (b0:=H.length) (fun j hj=>Xf (hK j hj) g3) hKh g1 (fun y hy=>by
    rcases Kv.1 hy with h | h
    ·exact xa y h
    ·exact hlt y (by rw [hsp]; exact Qhi _ h)) hp hP g2 g4 hi hn (by
     rw [hsp] at hb
     simp only [Za] at hb ⊢
     omega)
   refine ⟨_,j1,H2,L2,rfl,by rw [htk,←Zw]; exact j2,fun j hj=>(j3 j hj).trans (g2 j hj),Ut g3 j4,j5⟩)
  (fun st hs=>by
   obtain ⟨H1,L1,rfl,g1,g2,g3,g4⟩:=hs
   rw [Zj (by rw [hP.len]; exact Zf _)] at g1
   refine ⟨_,?_,H1,L1,rfl,g1,g2,g3,g4⟩
   have e1:((xs.length:Int)<(xs.length:Int))=False:=eq_false (by omega)
   simp only [wrI,Qfk,Z6,quiet,cF,↓pF,reduceCtorEq,Qd,Qq,Zn,Zi,Zm,Zh,Ze,Qf,Q0,Qg,Q2,Q8,Q7,↓Zo,↓Zk,↓Zq,↓Zt,↓Zr,↓Zs,cL,Qp,Qo,Qz,Qy,Qv,Qn,Qm,Qx,Qe,Q5,Q6,Qw,Qk,Qj,Qi,Qu,Qt,Qs,Ql,Qh,cJ,e1])
 refine ⟨H',L',?_,f1,f2,f3,f4⟩
 simp only [wrI,Zg,Zc,Vx] at hl
 have hlen:vLen false pv=some (.int .i64 xs.length):=by
  rcases hp with ⟨rfl,h0⟩ | ⟨pid,off,cap,o,rfl,-⟩
  ·rw [h0]; rfl
  ·rfl
 rw [Z5 (fn:=Q85) rfl]
 simp only [Q85,↓Zl,Z6,quiet,cF,↓pF,reduceCtorEq,Qd,Qq,Zn,Zi,Zm,Zh,Ze,Qf,Q0,Qg,Q2,Q8,Q7,↓Zo,↓Zk,↓Zq,↓Zt,↓Zr,↓Zs,cL,Qp,Qo,Qz,Qy,Qv,Qn,Qm,Qx,Qe,Q5,Q6,Qw,Qk,Qj,Qi,Qu,Qt,Qs,Ql,Qh,cJ,hlen,hl]
 rfl
theorem Qzm:fillL (Value.slice none 0 0::Qa 9 (.int .u64 0)) [(2,8,.agg (ns .u64 Qdh).toArray)]=some (hcl (.slice none 0 0) 0 Qdh):=rfl
theorem Q7a (H:List Ob):Vv T 85 [] H=some (.pointer (some ⟨H.length,0,none⟩),H++[hob (.slice none 0 0) 0 Qdh],[]):=by
 have hf:fillL (Qa 8 (Value.int .u64 0)) [(0,1,.int .u64 7640891576956012808),(1,1,.int .u64 13503953896175478587),(2,1,.int .u64 4354685564936845355),(3,1,.int .u64 11912009170470909681),(4,1,.int .u64 5840696475078001361),(5,1,.int .u64 11170449401992604703),(6,1,.int .u64 2270897969802886507),(7,1,.int .u64 6620516959819538809)]=some (ns .u64 Qdh):=rfl
 have hf2:∀ a,fillL [Value.slice none 0 0,.int .u64 0,.int .u64 0,.int .u64 0,.int .u64 0,.int .u64 0,.int .u64 0,.int .u64 0,.int .u64 0,.int .u64 0] [(2,8,.agg (ns .u64 a).toArray)]=fillL (Value.slice none 0 0::Qa 9 (.int .u64 0)) [(2,8,.agg (ns .u64 a).toArray)]:=fun _=>rfl
 have hf3:=Qzm
 simp only [hob]
 generalize Qdh=S at *
 generalize hcl (.slice none 0 0) 0 S=C at *
 rw [Z5 (fn:=Q86) rfl]
 simp only [Q86,↓Zl,Z6,quiet,cF,↓pF,reduceCtorEq,Qd,Qq,Zn,Zi,Zm,Zh,Ze,Qf,Q0,Qg,Q2,Q8,Q7,↓Zo,↓Zk,↓Zq,↓Zt,↓Zr,↓Zs,cL,Qp,Qo,Qz,Qy,Qv,Qn,Qm,Qx,Qe,Q5,Q6,Qw,Qk,Qj,Qi,Qu,Qt,Qs,Ql,Qh,cJ,hf,hf2,hf3]
theorem Q3k {K:Nat→Prop} {H:List Ob} {hid:Nat} (h:H[hid]?=some (hob (.slice none 0 0) 0 Qdh)):Hsh K H hid []:=⟨_,h,.nil⟩
end Go.Ev.Ytpgphpkjlpkcbaa

/-
  'agreeOffers' answers true for every input, and each argument reads behind the call as it read before. No conditions.
-/
import Derived.Test.YtpgphpkjlpkcbaaGreatAo6
import Derived.Test.YtpgphpkjlpkcbaaGreatRows
import Derived.ProofKit
open Array renaming replicate → Y9
open List renaming append_assoc → Qu, append_nil → QA, mem_append → QF, replicate → Qa
namespace Go.Proofs.YtpgphpkjlpkcbaaGreat
open Go.ChangeShapes Go.WideShapes Go.ChangeAt Go.RowKit
theorem Tk:ownKnob Tryz.prog.godebug=none:=by kernel_rfl
theorem Yx:laidOutB Tryz.prog=true:=by kernel_rfl
theorem HJ:Tryz.prog.underlying 47=some (.array 2 23):=by kernel_rfl
theorem HQ:Tryz.prog.cellsOf 47=64:=by kernel_rfl
theorem HN:Tryz.prog.cellTypes Tryz.prog.depth 47=some (Qa 64 5):=by kernel_rfl
def Tj:Value := .agg (Y9 64 (.int .u8 0))
theorem HI:(match Tryz.prog.underlying 25 with | some (.struct _) | some (.array _ _)=>true | _=>false)=true:=by kernel_rfl
theorem HP:Tryz.prog.cellsOf 25=64:=by kernel_rfl
theorem HL:Tryz.prog.cellTypes Tryz.prog.depth 25=some (Qa 64 5):=by kernel_rfl
def Ti:Value := .agg (Y9 64 (.int .u8 0))
theorem HH:(match Tryz.prog.underlying 55 with | some (.struct _) | some (.array _ _)=>true | _=>false)=true:=by kernel_rfl
theorem HO:Tryz.prog.cellsOf 55=2:=by kernel_rfl
theorem HK:Tryz.prog.cellTypes Tryz.prog.depth 55=some (Qa 2 27):=by kernel_rfl
theorem R0:Tryz.prog.underlying 27=some (.int .u32):=by kernel_rfl
theorem YS:Tryz.prog.underlying 5=some (.int .u8):=by kernel_rfl
theorem WD:Tryz.prog.underlying 4=some .bool:=by kernel_rfl
set_option maxRecDepth 100000 in
theorem D7 (os:Os) (started:os.Started) (H:Type) (enc:TypeId×Value→H) :
  ReturnsInHanded {} Tryz.checked os 6 .any (Rows.agreeOffersSpec.pre6 enc Tryz.prog Tryz.f6 Rows.agreeOffersRow.domain false) (Rows.agreeOffersSpec.post enc Tryz.prog Tryz.f6 false true false false):=by
 refine returnsInHanded_of_change (C:=Tryz.checked) Tk started (by kernel_rfl) Tryz.func6
  (ChangeSpec.witness6 (enc:=enc) (C:=Tryz.checked) false ⟨#[],#[Ti,Tj,(.agg #[.int .u32 0,.int .u32 0])],[]⟩ 8 (by kernel_rfl) (by kernel_rfl) (by kernel_rfl) (by kernel_rfl)) ?_
 intro W base args ds gs before hval0 hW hcnd _
 have hval:∀ (j:Nat) t v,Tryz.f6.params[j]?=some t→args[j]?=some v→Value.okWide Tryz.prog W .any base t v:=hval0
 have hW':=hW
 obtain ⟨p,q,hA0,hV,rfl,hfz,hnd⟩:=hW
 have hA:DataW.TrodAll enc Tryz.prog W 0 (fun _=>true) true Tryz.f6.params.toList args.toList ds p:=hA0
 rw [Tryz.params6] at hA hval
 obtain ⟨v0,v1,v2,d0,d1,d2,p0,p1,p2,hargs,rfl,rfl,h0,h1,h2⟩:=trodAll_three hA
 subst hargs
 obtain ⟨rfl,rfl⟩:=trodVars_none hV
 have h0k:=h0
 have h1k:=h1
 have h2k:=h2
 have hlt:∀ x∈p0++p1++p2,x.block<W.heap.size:=fun x hx=>by
  have:=hW'.lt x
  simpa using this (by simpa using hx)
 obtain ⟨l0,rfl,ll0,lx0⟩:=Go.Ev.cD HI HP HL YS (by decide) (hval 0 25 v0 rfl rfl)
 obtain ⟨l1,rfl,ll1,lx1⟩:=Go.Ev.cC HJ HQ HN YS (by decide) (hval 1 47 v1 rfl rfl)
 obtain ⟨l2,rfl,ll2,lx2⟩:=Go.Ev.open_ints HH HO HK R0 (hval 2 55 v2 rfl rfl)
 obtain ⟨a2,b2,rfl⟩:=Go.Ev.mg ll2
 clear hA0 hval0
 simp only [QA] at hW'
 obtain ⟨lH,hev⟩:=Go.Ev.YtpgphpkjlpkcbaaGreat.Cg ll0 lx0 ll1 lx1 (lx2 a2 (by simp)) (lx2 b2 (by simp))
 refine (Go.Ev.Oq Go.Ev.YtpgphpkjlpkcbaaGreat.mixed Go.Ev.YtpgphpkjlpkcbaaGreat.tabOk hev (by simp [Go.Ev.YtpgphpkjlpkcbaaGreat.T,Go.Ev.YtpgphpkjlpkcbaaGreat.fnS]) (by simp [Go.Ev.UC,Go.Ev.Pm]) rfl W).mono fun e W' ⟨he,hb⟩ => ?_
 subst he
 exact ⟨_,rfl,Go.Ev.Eo (pa:=p0++p1++p2) (pv:=[]) hW' (fun _ _ _=>trodAll_mk1 (shut_bool WD true)) (fun sp hsp=>by rw [Qu]; exact trodAll_mk3 (WideElems.Trod_stays Yx (by kernel_rfl) (of_decide_eq_true (by kernel_rfl)) h0k (fun x hx=>hb.same (hlt x (QF.2 (.inl (QF.2 (.inl hx)))))) (fun x hx=>hsp x (QF.2 (.inl (QF.2 (.inl hx)))))) (WideElems.Trod_stays Yx (by kernel_rfl) (of_decide_eq_true (by kernel_rfl)) h1k (fun x hx=>hb.same (hlt x (QF.2 (.inl (QF.2 (.inr hx)))))) (fun x hx=>hsp x (QF.2 (.inl (QF.2 (.inr hx)))))) (WideElems.Trod_stays Yx (by kernel_rfl) (of_decide_eq_true (by kernel_rfl)) h2k (fun x hx=>hb.same (hlt x (QF.2 (.inr hx)))) (fun x hx=>hsp x (QF.2 (.inr hx))))) (fun _ _=>rfl) (by simp) hb (ok_one (by kernel_rfl) rfl (okWide_bool_mk WD _))⟩
theorem agreeOffers_holds:Rows.AgreeOffersSaid :=
 OpenClaim.holds_of_wide 6 Tryz.f6 rfl rfl rfl rfl rfl rfl rfl ⟨rfl,rfl,rfl,rfl,rfl⟩ rfl rfl rfl rfl rfl (by kernel_rfl) Tryz.func6 (by kernel_rfl)
  (of_decide_eq_true (by kernel_rfl)) (by unfold Func.isWrapper; first | (rw [if_pos (by decide +kernel)]; kernel_rfl) | (rw [if_neg (by decide +kernel)]; exact ⟨rfl,rfl⟩))
  (fun os started H enc _=>D7 os started H enc)
end Go.Proofs.YtpgphpkjlpkcbaaGreat
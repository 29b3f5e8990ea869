/-
  'agreeAccepts' answers true for every input, and each argument reads behind the call as it read before. No conditions.
-/
import Derived.Test.YtpgphpkjlpkcbaaGreatAa6
import Derived.Test.YtpgphpkjlpkcbaaGreatRows
import Derived.ProofKit
open Array renaming replicate → Yg
open List renaming append_assoc → Qt, append_nil → QF, mem_append → QE, replicate → Qa
namespace Go.Proofs.YtpgphpkjlpkcbaaGreat
open Go.ChangeShapes Go.WideShapes Go.ChangeAt Go.RowKit
theorem RM:ownKnob Tryz.prog.godebug=none:=by kernel_rfl
theorem YI:laidOutB Tryz.prog=true:=by kernel_rfl
theorem Ha:Tryz.prog.underlying 47=some (.array 2 23):=by kernel_rfl
theorem Hh:Tryz.prog.cellsOf 47=64:=by kernel_rfl
theorem He:Tryz.prog.cellTypes Tryz.prog.depth 47=some (Qa 64 5):=by kernel_rfl
def RL:Value := .agg (Yg 64 (.int .u8 0))
theorem GZ:(match Tryz.prog.underlying 48 with | some (.struct _) | some (.array _ _)=>true | _=>false)=true:=by kernel_rfl
theorem Hg:Tryz.prog.cellsOf 48=96:=by kernel_rfl
theorem Hd:Tryz.prog.cellTypes Tryz.prog.depth 48=some (Qa 96 5):=by kernel_rfl
def RK:Value := .agg (Yg 96 (.int .u8 0))
theorem GY:(match Tryz.prog.underlying 25 with | some (.struct _) | some (.array _ _)=>true | _=>false)=true:=by kernel_rfl
theorem Hf:Tryz.prog.cellsOf 25=64:=by kernel_rfl
theorem Hb:Tryz.prog.cellTypes Tryz.prog.depth 25=some (Qa 64 5):=by kernel_rfl
def RJ:Value := .agg (Yg 64 (.int .u8 0))
theorem VH:Tryz.prog.underlying 5=some (.int .u8):=by kernel_rfl
theorem Ww:Tryz.prog.underlying 4=some .bool:=by kernel_rfl
set_option maxRecDepth 100000 in
theorem Dd (os:Os) (started:os.Started) (H:Type) (enc:TypeId×Value→H) :
  ReturnsInHanded {} Tryz.checked os 4 .any (Rows.agreeAcceptsSpec.pre6 enc Tryz.prog Tryz.f4 Rows.agreeAcceptsRow.domain false) (Rows.agreeAcceptsSpec.post enc Tryz.prog Tryz.f4 false true false false):=by
 refine returnsInHanded_of_change (C:=Tryz.checked) RM started (by kernel_rfl) Tryz.func4
  (ChangeSpec.witness6 (enc:=enc) (C:=Tryz.checked) false ⟨#[],#[RJ,RL,RK],[]⟩ 8 (by kernel_rfl) (by kernel_rfl) (by kernel_rfl) (by kernel_rfl)) ?_
 intro W base args ds gs before hval0 hW hcnd _
 have hval:∀ (j:Nat) t v,Tryz.f4.params[j]?=some t→args[j]?=some v→Value.okWide Tryz.prog W .any base t v:=hval0
 have hW':=hW
 obtain ⟨p,q,hA0,hV,rfl,hfz,hnd⟩:=hW
 have hA:DataW.TrodAll enc Tryz.prog W 0 (fun _=>true) true Tryz.f4.params.toList args.toList ds p:=hA0
 rw [Tryz.params4] at hA hval
 obtain ⟨v0,v1,v2,d0,d1,d2,p0,p1,p2,hargs,rfl,rfl,h0,h1,h2⟩:=trodAll_three hA
 subst hargs
 obtain ⟨rfl,rfl⟩:=trodVars_none hV
 have h0k:=h0
 have h1k:=h1
 have h2k:=h2
 have hlt:∀ x∈p0++p1++p2,x.block<W.heap.size:=fun x hx=>by
  have:=hW'.lt x
  simpa using this (by simpa using hx)
 obtain ⟨l0,rfl,ll0,lx0⟩:=Go.Ev.Fl GY Hf Hb VH (by decide) (hval 0 25 v0 rfl rfl)
 obtain ⟨l1,rfl,ll1,lx1⟩:=Go.Ev.cY Ha Hh He VH (by decide) (hval 1 47 v1 rfl rfl)
 obtain ⟨l2,rfl,ll2,lx2⟩:=Go.Ev.Fl GZ Hg Hd VH (by decide) (hval 2 48 v2 rfl rfl)
 clear hA0 hval0
 simp only [QF] at hW'
 obtain ⟨lH,hev⟩:=Go.Ev.YtpgphpkjlpkcbaaGreat.SJ ll0 lx0 ll1 lx1 ll2 lx2
 refine (Go.Ev.O8 Go.Ev.YtpgphpkjlpkcbaaGreat.mixed Go.Ev.YtpgphpkjlpkcbaaGreat.tabOk hev (by simp [Go.Ev.YtpgphpkjlpkcbaaGreat.T,Go.Ev.YtpgphpkjlpkcbaaGreat.fnS]) (by simp [Go.Ev.YA]) rfl W).mono fun e W' ⟨he,hb⟩ => ?_
 subst he
 exact ⟨_,rfl,Go.Ev.E6 (pa:=p0++p1++p2) (pv:=[]) hW' (fun _ _ _=>trodAll_mk1 (shut_bool Ww true)) (fun sp hsp=>by rw [Qt]; exact trodAll_mk3 (WideElems.Trod_stays YI (by kernel_rfl) (of_decide_eq_true (by kernel_rfl)) h0k (fun x hx=>hb.same (hlt x (QE.2 (.inl (QE.2 (.inl hx)))))) (fun x hx=>hsp x (QE.2 (.inl (QE.2 (.inl hx)))))) (WideElems.Trod_stays YI (by kernel_rfl) (of_decide_eq_true (by kernel_rfl)) h1k (fun x hx=>hb.same (hlt x (QE.2 (.inl (QE.2 (.inr hx)))))) (fun x hx=>hsp x (QE.2 (.inl (QE.2 (.inr hx)))))) (WideElems.Trod_stays YI (by kernel_rfl) (of_decide_eq_true (by kernel_rfl)) h2k (fun x hx=>hb.same (hlt x (QE.2 (.inr hx)))) (fun x hx=>hsp x (QE.2 (.inr hx))))) (fun _ _=>rfl) (by simp) hb (ok_one (by kernel_rfl) rfl (okWide_bool_mk Ww _))⟩
theorem agreeAccepts_holds:Rows.AgreeAcceptsSaid :=
 OpenClaim.holds_of_wide 4 Tryz.f4 rfl rfl rfl rfl rfl rfl rfl ⟨rfl,rfl,rfl,rfl,rfl⟩ rfl rfl rfl rfl rfl (by kernel_rfl) Tryz.func4 (by kernel_rfl)
  (of_decide_eq_true (by kernel_rfl)) (by unfold Func.isWrapper; first | (rw [if_pos (by decide +kernel)]; kernel_rfl) | (rw [if_neg (by decide +kernel)]; exact ⟨rfl,rfl⟩))
  (fun os started H enc _=>Dd os started H enc)
end Go.Proofs.YtpgphpkjlpkcbaaGreat
/-
  'agreeBegins' answers true for every input, and each argument reads behind the call as it read before. No conditions.
-/
import Derived.Test.YtoipgdjfhahimaaGreatAb6
import Derived.Test.YtoipgdjfhahimaaGreatRows
import Derived.ProofKit
open Array renaming replicate → Ve
open List renaming append_assoc → Qt, append_nil → QG, mem_append → QC, replicate → Qa
namespace Go.Proofs.YtoipgdjfhahimaaGreat
open Go.ChangeShapes Go.WideShapes Go.ChangeAt Go.RowKit
theorem Am:ownKnob Tryz.prog.godebug=none:=by kernel_rfl
theorem Wd:laidOutB Tryz.prog=true:=by kernel_rfl
theorem Mb:Tryz.prog.underlying 23=some (.array 32 5):=by kernel_rfl
theorem Mg:Tryz.prog.cellsOf 23=32:=by kernel_rfl
theorem Md:Tryz.prog.cellTypes Tryz.prog.depth 23=some (Qa 32 5):=by kernel_rfl
def Ep:Value := .agg (Ve 32 (.int .u8 0))
theorem Ma:(match Tryz.prog.underlying 31 with | some (.struct _) | some (.array _ _)=>true | _=>false)=true:=by kernel_rfl
theorem Mf:Tryz.prog.cellsOf 31=128+(2+64):=by kernel_rfl
theorem Mc:Tryz.prog.cellTypes Tryz.prog.depth 31=some (Qa 128 5++(27::27::Qa 64 5)):=by kernel_rfl
theorem An:Tryz.prog.underlying 27=some (.int .u32):=by kernel_rfl
theorem Dr:(match Tryz.prog.underlying 25 with | some (.struct _) | some (.array _ _)=>true | _=>false)=true:=by kernel_rfl
theorem Dt:Tryz.prog.cellsOf 25=64:=by kernel_rfl
theorem Ds:Tryz.prog.cellTypes Tryz.prog.depth 25=some (Qa 64 5):=by kernel_rfl
def Al:Value := .agg (Ve 64 (.int .u8 0))
theorem Yn:Tryz.prog.underlying 5=some (.int .u8):=by kernel_rfl
theorem Uv:Tryz.prog.underlying 4=some .bool:=by kernel_rfl
set_option maxRecDepth 100000 in
theorem Me (os:Os) (started:os.Started) (H:Type) (enc:TypeId×Value→H) :
  ReturnsInHanded {} Tryz.checked os 3 .any (Rows.agreeBeginsSpec.pre6 enc Tryz.prog Tryz.f3 Rows.agreeBeginsRow.domain false) (Rows.agreeBeginsSpec.post enc Tryz.prog Tryz.f3 false true false false):=by
 refine returnsInHanded_of_change (C:=Tryz.checked) Am started (by kernel_rfl) Tryz.func3
  (ChangeSpec.witness6 (enc:=enc) (C:=Tryz.checked) false ⟨#[],#[Al,Ep,(.agg (Ve 128 (.int .u8 0)++#[.int .u32 0,.int .u32 0]++Ve 64 (.int .u8 0)))],[]⟩ 8 (by kernel_rfl) (by kernel_rfl) (by kernel_rfl) (by kernel_rfl)) ?_
 intro W base args ds gs before hval0 hW hcnd _
 have hval:∀ (j:Nat) t v,Tryz.f3.params[j]?=some t→args[j]?=some v→Value.okWide Tryz.prog W .any base t v:=hval0
 have hW':=hW
 obtain ⟨p,q,hA0,hV,rfl,hfz,hnd⟩:=hW
 have hA:DataW.TrodAll enc Tryz.prog W 0 (fun _=>true) true Tryz.f3.params.toList args.toList ds p:=hA0
 rw [Tryz.params3] at hA hval
 obtain ⟨v0,v1,v2,d0,d1,d2,p0,p1,p2,hargs,rfl,rfl,h0,h1,h2⟩:=trodAll_three hA
 subst hargs
 obtain ⟨rfl,rfl⟩:=trodVars_none hV
 have h0k:=h0
 have h1k:=h1
 have h2k:=h2
 have hlt:∀ x∈p0++p1++p2,x.block<W.heap.size:=fun x hx=>by
  have:=hW'.lt x
  simpa using this (by simpa using hx)
 obtain ⟨l0,rfl,ll0,lx0⟩:=Go.Ev.eB Dr Dt Ds Yn (by decide) (hval 0 25 v0 rfl rfl)
 obtain ⟨l1,rfl,ll1,lx1⟩:=Go.Ev.SO Mb Mg Md Yn (by decide) (hval 1 23 v1 rfl rfl)
 obtain ⟨l2,a2,b2,m2,rfl,ll2,lm2,lx2,ly2,la2,lb2⟩:=Go.Ev.my Ma Mf Mc Yn An (hval 2 31 v2 rfl rfl)
 clear hA0 hval0
 simp only [QG] at hW'
 obtain ⟨lH,hev⟩:=Go.Ev.YtoipgdjfhahimaaGreat.aY ll0 lx0 ll1 lx1 ll2 lm2 lx2 ly2 la2 lb2
 refine (Go.Ev.P5 Go.Ev.YtoipgdjfhahimaaGreat.mixed Go.Ev.YtoipgdjfhahimaaGreat.tabOk hev (by simp [Go.Ev.YtoipgdjfhahimaaGreat.T,Go.Ev.YtoipgdjfhahimaaGreat.fnS]) (by simp [Go.Ev.VL,Go.Ev.YtoipgdjfhahimaaGreat.kT]) rfl W).mono fun e W' ⟨he,hb⟩ => ?_
 subst he
 exact ⟨_,rfl,Go.Ev.FC (pa:=p0++p1++p2) (pv:=[]) hW' (fun _ _ _=>trodAll_mk1 (shut_bool Uv true)) (fun sp hsp=>by rw [Qt]; exact trodAll_mk3 (WideElems.Trod_stays Wd (by kernel_rfl) (of_decide_eq_true (by kernel_rfl)) h0k (fun x hx=>hb.same (hlt x (QC.2 (.inl (QC.2 (.inl hx)))))) (fun x hx=>hsp x (QC.2 (.inl (QC.2 (.inl hx)))))) (WideElems.Trod_stays Wd (by kernel_rfl) (of_decide_eq_true (by kernel_rfl)) h1k (fun x hx=>hb.same (hlt x (QC.2 (.inl (QC.2 (.inr hx)))))) (fun x hx=>hsp x (QC.2 (.inl (QC.2 (.inr hx)))))) (WideElems.Trod_stays Wd (by kernel_rfl) (of_decide_eq_true (by kernel_rfl)) h2k (fun x hx=>hb.same (hlt x (QC.2 (.inr hx)))) (fun x hx=>hsp x (QC.2 (.inr hx))))) (fun _ _=>rfl) (by simp) hb (ok_one (by kernel_rfl) rfl (okWide_bool_mk Uv _))⟩
theorem agreeBegins_holds:Rows.AgreeBeginsSaid :=
 OpenClaim.holds_of_wide 3 Tryz.f3 rfl rfl rfl rfl rfl rfl rfl ⟨rfl,rfl,rfl,rfl,rfl⟩ rfl rfl rfl rfl rfl (by kernel_rfl) Tryz.func3 (by kernel_rfl)
  (of_decide_eq_true (by kernel_rfl)) (by unfold Func.isWrapper; first | (rw [if_pos (by decide +kernel)]; kernel_rfl) | (rw [if_neg (by decide +kernel)]; exact ⟨rfl,rfl⟩))
  (fun os started H enc _=>Me os started H enc)
end Go.Proofs.YtoipgdjfhahimaaGreat
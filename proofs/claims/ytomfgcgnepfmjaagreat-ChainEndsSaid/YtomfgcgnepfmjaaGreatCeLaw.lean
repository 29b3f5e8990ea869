/-
  'chainEnds' answers true for every input, and each argument reads behind the call as it read before. No conditions.
-/
import Derived.Test.YtomfgcgnepfmjaaGreatCe5
import Derived.Test.YtomfgcgnepfmjaaGreatRows
import Derived.ProofKit
open Array renaming replicate → Ws
open List renaming append_assoc → Qv, append_nil → Q6, mem_append → QJ, replicate → Qc
namespace Go.Proofs.YtomfgcgnepfmjaaGreat
open Go.ChangeShapes Go.WideShapes Go.ChangeAt Go.RowKit
theorem To:ownKnob Tryz.prog.godebug=none:=by kernel_rfl
theorem Ym:laidOutB Tryz.prog=true:=by kernel_rfl
theorem Vx:Tryz.prog.underlying 88=some (.slice 3):=by kernel_rfl
theorem chainEnds_cellsu8:Tryz.prog.cellsOf 5=1:=by kernel_rfl
theorem DJ:Tryz.prog.cellsOf 3=1:=by kernel_rfl
theorem GM:(match Tryz.prog.underlying 77 with | some (.struct _) | some (.array _ _)=>true | _=>false)=true:=by kernel_rfl
theorem GO:Tryz.prog.cellsOf 77=96:=by kernel_rfl
theorem GN:Tryz.prog.cellTypes Tryz.prog.depth 77=some (Qc 96 5):=by kernel_rfl
def Tn:Value := .agg (Ws 96 (.int .u8 0))
theorem Yl:Tryz.prog.underlying 3=some (.int .i64):=by kernel_rfl
theorem GL:Tryz.prog.underlying 5=some (.int .u8):=by kernel_rfl
theorem Wl:Tryz.prog.underlying 4=some .bool:=by kernel_rfl
set_option maxRecDepth 100000 in
theorem Di (os:Os) (started:os.Started) (H:Type) (enc:TypeId×Value→H) :
  ReturnsInHanded {} Tryz.checked os 10 .any (Rows.chainEndsSpec.pre6 enc Tryz.prog Tryz.f10 Rows.chainEndsRow.domain false) (Rows.chainEndsSpec.post enc Tryz.prog Tryz.f10 false true false false):=by
 refine returnsInHanded_of_change (C:=Tryz.checked) To started (by kernel_rfl) Tryz.func10
  (ChangeSpec.witness6 (enc:=enc) (C:=Tryz.checked) false ⟨#[],#[Tn,(.int .i64 0),(.slice none 0 0)],[]⟩ 8 (by kernel_rfl) (by kernel_rfl) (by kernel_rfl) (by kernel_rfl)) ?_
 intro W base args ds gs before hval0 hW hcnd _
 have hval:∀ (j:Nat) t v,Tryz.f10.params[j]?=some t→args[j]?=some v→Value.okWide Tryz.prog W .any base t v:=hval0
 have hW':=hW
 obtain ⟨p,q,hA0,hV,rfl,hfz,hnd⟩:=hW
 have hA:DataW.TrodAll enc Tryz.prog W 0 (fun _=>true) true Tryz.f10.params.toList args.toList ds p:=hA0
 rw [Tryz.params10] at hA hval
 obtain ⟨v0,v1,v2,d0,d1,d2,p0,p1,p2,hargs,rfl,rfl,h0,h1,h2⟩:=trodAll_three hA
 subst hargs
 obtain ⟨rfl,rfl⟩:=trodVars_none hV
 have h0k:=h0
 have h1k:=h1
 have h2k:=h2
 have hlt:∀ x∈p0++p1++p2,x.block<W.heap.size:=fun x hx=>by
  have:=hW'.lt x
  simpa using this (by simpa using hx)
 obtain ⟨l0,rfl,ll0,lx0⟩:=Go.Ev.NZ GM GO GN GL (by decide) (hval 0 77 v0 rfl rfl)
 obtain ⟨n1,rfl,ln1,lx1⟩:=Go.Ev.open_int Yl (hval 1 3 v1 rfl rfl)
 have hopen:Go.Ev.YtomfgcgnepfmjaaGreat.Ln W 1 v2 (fun v=>∃ x:Int,v=.int .i64 x):=by
  obtain ⟨fuel2,hf2⟩:=h2
  have hc:v2.cells.toList=[v2]:=by
   obtain ⟨_,_,_,hv⟩:=okWide_slice Vx (hval 2 88 v2 rfl rfl)
   rw [hv]; rfl
  rw [hc] at hf2
  exact Go.Ev.It Vx DJ (by decide) (Go.Ev.Fs (enc:=enc) (w:=W) Yl) (fun v ⟨_,hv⟩=>by rw [hv]; exact ⟨rfl,rfl⟩) (by have:=hval 2 88 v2 rfl rfl; simpa only [Value.okWide,Vx] using this) hf2
 clear hA0 hval0
 simp only [Q6] at hW'
 obtain ⟨H0,ρ,ov,xs,hO,g2,g3,g4,g1⟩:=Go.Ev.YtomfgcgnepfmjaaGreat.ID hopen
 obtain ⟨lH,hev⟩:=Go.Ev.YtomfgcgnepfmjaaGreat.Ca (ci:=n1) ll0 lx0 hO
 refine (Go.Ev.Pp (ρ:=ρ) (args':=[.agg (Go.Ev.u8s l0).toArray,.int .i64 n1,v2]) Go.Ev.YtomfgcgnepfmjaaGreat.mixed Go.Ev.YtomfgcgnepfmjaaGreat.tabOk hev (by simp [Go.Ev.YtomfgcgnepfmjaaGreat.T,Go.Ev.YtomfgcgnepfmjaaGreat.fnS]) rfl (.cons (Go.Ev.PI _ _) (.cons (.same rfl) (.cons g1 .nil))) g2 g3 g4).mono fun e W' ⟨he,hb⟩ => ?_
 subst he
 exact ⟨_,rfl,Go.Ev.RZ (pa:=p0++p1++p2) (pv:=[]) hW' (fun _ _ _=>trodAll_mk1 (shut_bool Wl true)) (fun sp hsp=>by rw [Qv]; exact trodAll_mk3 (WideElems.Trod_stays Ym (by kernel_rfl) (of_decide_eq_true (by kernel_rfl)) h0k (fun x hx=>hb.same (hlt x (QJ.2 (.inl (QJ.2 (.inl hx)))))) (fun x hx=>hsp x (QJ.2 (.inl (QJ.2 (.inl hx)))))) (WideElems.Trod_stays Ym (by kernel_rfl) (of_decide_eq_true (by kernel_rfl)) h1k (fun x hx=>hb.same (hlt x (QJ.2 (.inl (QJ.2 (.inr hx)))))) (fun x hx=>hsp x (QJ.2 (.inl (QJ.2 (.inr hx)))))) (WideElems.Trod_stays Ym (by kernel_rfl) (of_decide_eq_true (by kernel_rfl)) h2k (fun x hx=>hb.same (hlt x (QJ.2 (.inr hx)))) (fun x hx=>hsp x (QJ.2 (.inr hx))))) (fun _ _=>rfl) (by simp) hb (ok_one (by kernel_rfl) rfl (okWide_bool_mk Wl _))⟩
theorem chainEnds_holds:Rows.ChainEndsSaid :=
 OpenClaim.holds_of_wide 10 Tryz.f10 rfl rfl rfl rfl rfl rfl rfl ⟨rfl,rfl,rfl,rfl,rfl⟩ rfl rfl rfl rfl rfl (by kernel_rfl) Tryz.func10 (by kernel_rfl)
  (of_decide_eq_true (by kernel_rfl)) (by unfold Func.isWrapper; first | (rw [if_pos (by decide +kernel)]; kernel_rfl) | (rw [if_neg (by decide +kernel)]; exact ⟨rfl,rfl⟩))
  (fun os started H enc _=>Di os started H enc)
end Go.Proofs.YtomfgcgnepfmjaaGreat
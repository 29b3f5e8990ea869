/-
  'chainOnce' answers true for every input, and each argument reads behind the call as it read before. No conditions.
-/
import Derived.Test.YtomfgcgnepfmjaaGreatCo5
import Derived.Test.YtomfgcgnepfmjaaGreatRows
import Derived.ProofKit
open Array renaming replicate → W2
open List renaming append_assoc → Qv, append_nil → Q9, mem_append → QA, replicate → Qc
open Nat renaming not_lt_zero → Xr
namespace Go.Proofs.YtomfgcgnepfmjaaGreat
open Go.ChangeShapes Go.WideShapes Go.ChangeAt Go.RowKit
theorem T3:ownKnob Tryz.prog.godebug=none:=by kernel_rfl
theorem Kk:laidOutB Tryz.prog=true:=by kernel_rfl
theorem Dv:Tryz.prog.underlying 28=some (.slice 5):=by kernel_rfl
theorem GX:Tryz.prog.cellsOf 5=1:=by kernel_rfl
theorem Du:Tryz.prog.underlying 78=some (.slice 28):=by kernel_rfl
theorem Dx:Tryz.prog.cellsOf 28=1:=by kernel_rfl
theorem V3:Tryz.prog.underlying 88=some (.slice 3):=by kernel_rfl
theorem Ma:Tryz.prog.cellsOf 3=1:=by kernel_rfl
theorem GU:(match Tryz.prog.underlying 77 with | some (.struct _) | some (.array _ _)=>true | _=>false)=true:=by kernel_rfl
theorem GY:Tryz.prog.cellsOf 77=96:=by kernel_rfl
theorem GV:Tryz.prog.cellTypes Tryz.prog.depth 77=some (Qc 96 5):=by kernel_rfl
def T2:Value := .agg (W2 96 (.int .u8 0))
theorem Gh:Tryz.prog.underlying 3=some (.int .i64):=by kernel_rfl
theorem YJ:Tryz.prog.underlying 5=some (.int .u8):=by kernel_rfl
theorem KO:Tryz.prog.underlying 4=some .bool:=by kernel_rfl
set_option maxRecDepth 100000 in
theorem Dw (os:Os) (started:os.Started) (H:Type) (enc:TypeId×Value→H) :
  ReturnsInHanded {} Tryz.checked os 9 .any (Rows.chainOnceSpec.pre6 enc Tryz.prog Tryz.f9 Rows.chainOnceRow.domain false) (Rows.chainOnceSpec.post enc Tryz.prog Tryz.f9 false true false false):=by
 refine returnsInHanded_of_change (C:=Tryz.checked) T3 started (by kernel_rfl) Tryz.func9
  (ChangeSpec.witness6 (enc:=enc) (C:=Tryz.checked) false ⟨#[],#[T2,(.slice none 0 0),(.slice none 0 0)],[]⟩ 8 (by kernel_rfl) (by kernel_rfl) (by kernel_rfl) (by kernel_rfl)) ?_
 intro W base args ds gs before hval0 hW hcnd _
 have hval:∀ (j:Nat) t v,Tryz.f9.params[j]?=some t→args[j]?=some v→Value.okWide Tryz.prog W .any base t v:=hval0
 have hW':=hW
 obtain ⟨p,q,hA0,hV,rfl,hfz,hnd⟩:=hW
 have hA:DataW.TrodAll enc Tryz.prog W 0 (fun _=>true) true Tryz.f9.params.toList args.toList ds p:=hA0
 rw [Tryz.params9] at hA hval
 obtain ⟨v0,v1,v2,d0,d1,d2,p0,p1,p2,hargs,rfl,rfl,h0,h1,h2⟩:=trodAll_three hA
 subst hargs
 obtain ⟨rfl,rfl⟩:=trodVars_none hV
 have h0k:=h0
 have h1k:=h1
 have h2k:=h2
 have hlt:∀ x∈p0++p1++p2,x.block<W.heap.size:=fun x hx=>by
  have:=hW'.lt x
  simpa using this (by simpa using hx)
 obtain ⟨l0,rfl,ll0,lx0⟩:=Go.Ev.O9 GU GY GV YJ (by decide) (hval 0 77 v0 rfl rfl)
 have hopen:=Go.Ev.IL Du Dv YJ Dx GX (hval 1 78 v1 rfl rfl) h1
 have hopen2:Go.Ev.YtomfgcgnepfmjaaGreat.C5 W 1 v2 (fun v=>∃ x:Int,v=.int .i64 x):=by
  obtain ⟨fuel2,hf2⟩:=h2
  have hc:v2.cells.toList=[v2]:=by
   obtain ⟨_,_,_,hv⟩:=okWide_slice V3 (hval 2 88 v2 rfl rfl)
   rw [hv]; rfl
  rw [hc] at hf2
  exact Go.Ev.IK V3 Ma (by decide) (Go.Ev.FO (enc:=enc) (w:=W) Gh) (fun v ⟨_,hv⟩=>by rw [hv]; exact ⟨rfl,rfl⟩) (by have:=hval 2 88 v2 rfl rfl; simpa only [Value.okWide,V3] using this) hf2
 clear hA0 hval0
 simp only [Q9] at hW'
 rcases hopen with rfl | ⟨a,len,cap,A,L,C,Z,rfl,hl,ds1,rfl⟩
 ·obtain ⟨H0,ρ,ov,xs,hO,g2,g3,g4,g1⟩:=Go.Ev.YtomfgcgnepfmjaaGreat.Lm hopen2
  obtain ⟨lH,hev⟩:=Go.Ev.YtomfgcgnepfmjaaGreat.GW (pv := .slice none 0 0) (n:=0) (tx:=fun _=>[]) (Ls:=fun _=>0) ll0 lx0 rfl (fun i hi=>absurd hi (Xr _)) hO
  refine (Go.Ev.Av (ρ:=ρ) (args':=[.agg (Go.Ev.u8s l0).toArray,.slice none 0 0,v2]) Go.Ev.YtomfgcgnepfmjaaGreat.mixed Go.Ev.YtomfgcgnepfmjaaGreat.kR hev (by simp [Go.Ev.YtomfgcgnepfmjaaGreat.T,Go.Ev.YtomfgcgnepfmjaaGreat.fnS]) rfl (.cons (Go.Ev.CC _ _) (.cons (.same rfl) (.cons g1 .nil))) g2 g3 g4).mono fun e W' ⟨he,hb⟩ => ?_
  subst he
  exact ⟨_,rfl,Go.Ev.BL (pa:=p0++p1++p2) (pv:=[]) hW' (fun _ _ _=>trodAll_mk1 (shut_bool KO true)) (fun sp hsp=>by rw [Qv]; exact trodAll_mk3 (WideElems.Trod_stays Kk (by kernel_rfl) (of_decide_eq_true (by kernel_rfl)) h0k (fun x hx=>hb.same (hlt x (QA.2 (.inl (QA.2 (.inl hx)))))) (fun x hx=>hsp x (QA.2 (.inl (QA.2 (.inl hx)))))) (WideElems.Trod_stays Kk (by kernel_rfl) (of_decide_eq_true (by kernel_rfl)) h1k (fun x hx=>hb.same (hlt x (QA.2 (.inl (QA.2 (.inr hx)))))) (fun x hx=>hsp x (QA.2 (.inl (QA.2 (.inr hx)))))) (WideElems.Trod_stays Kk (by kernel_rfl) (of_decide_eq_true (by kernel_rfl)) h2k (fun x hx=>hb.same (hlt x (QA.2 (.inr hx)))) (fun x hx=>hsp x (QA.2 (.inr hx))))) (fun _ _=>rfl) (by simp) hb (ok_one (by kernel_rfl) rfl (okWide_bool_mk KO _))⟩
 ·obtain ⟨ρ,g1,g2,g3⟩:=Go.Ev.SW hl
  have hnone:∀ r,r<len→A r=none→L r=0:=fun r hr hA=>by
   obtain ⟨k1,-,-,-,k5,-⟩:=hl.row r hr
   have:=k5 hA
   omega
  obtain ⟨ρ',X,ov,xs,le,hO,e2,e3,e4,e1⟩:=Go.Ev.YtomfgcgnepfmjaaGreat.Pb g2 g3 Go.Ev.TI hopen2
  obtain ⟨lH,hev⟩:=Go.Ev.YtomfgcgnepfmjaaGreat.GW (pv := .slice (some ⟨0,0,none⟩) len len) (n:=len) (tx:=fun r=>((Z r).take (L r)).map Int.toNat) (Ls:=L) ll0 lx0 rfl (fun i hi=>Go.Ev.YtomfgcgnepfmjaaGreat.SY hnone (fun r hr=>(hl.row r hr).2.2.1) (fun r hr=>(hl.row r hr).2.2.2.1) hi) hO
  refine (Go.Ev.Av (ρ:=ρ') (args':=[.agg (Go.Ev.u8s l0).toArray,.slice (some a) len cap,v2]) Go.Ev.YtomfgcgnepfmjaaGreat.mixed Go.Ev.YtomfgcgnepfmjaaGreat.kR hev (by simp [Go.Ev.YtomfgcgnepfmjaaGreat.T,Go.Ev.YtomfgcgnepfmjaaGreat.fnS]) rfl (.cons (Go.Ev.CC _ _) (.cons (g1.mono le) (.cons e1 .nil))) e2 e3 e4).mono fun e W' ⟨he,hb⟩ => ?_
  subst he
  exact ⟨_,rfl,Go.Ev.BL (pa:=p0++p1++p2) (pv:=[]) hW' (fun _ _ _=>trodAll_mk1 (shut_bool KO true)) (fun sp hsp=>by rw [Qv]; exact trodAll_mk3 (WideElems.Trod_stays Kk (by kernel_rfl) (of_decide_eq_true (by kernel_rfl)) h0k (fun x hx=>hb.same (hlt x (QA.2 (.inl (QA.2 (.inl hx)))))) (fun x hx=>hsp x (QA.2 (.inl (QA.2 (.inl hx)))))) (WideElems.Trod_stays Kk (by kernel_rfl) (of_decide_eq_true (by kernel_rfl)) h1k (fun x hx=>hb.same (hlt x (QA.2 (.inl (QA.2 (.inr hx)))))) (fun x hx=>hsp x (QA.2 (.inl (QA.2 (.inr hx)))))) (WideElems.Trod_stays Kk (by kernel_rfl) (of_decide_eq_true (by kernel_rfl)) h2k (fun x hx=>hb.same (hlt x (QA.2 (.inr hx)))) (fun x hx=>hsp x (QA.2 (.inr hx))))) (fun _ _=>rfl) (by simp) hb (ok_one (by kernel_rfl) rfl (okWide_bool_mk KO _))⟩
theorem chainOnce_holds:Rows.ChainOnceSaid :=
 OpenClaim.holds_of_wide 9 Tryz.f9 rfl rfl rfl rfl rfl rfl rfl ⟨rfl,rfl,rfl,rfl,rfl⟩ rfl rfl rfl rfl rfl (by kernel_rfl) Tryz.func9 (by kernel_rfl)
  (of_decide_eq_true (by kernel_rfl)) (by unfold Func.isWrapper; first | (rw [if_pos (by decide +kernel)]; kernel_rfl) | (rw [if_neg (by decide +kernel)]; exact ⟨rfl,rfl⟩))
  (fun os started H enc _=>Dw os started H enc)
end Go.Proofs.YtomfgcgnepfmjaaGreat
/-
  'chainJoins' answers true for every input, and each argument reads behind the call as it read before. No conditions.
-/
import Derived.Test.YtomfgcgnepfmjaaGreatCj5
import Derived.Test.YtomfgcgnepfmjaaGreatRows
import Derived.ProofKit
open Array renaming replicate → Wi
open List renaming append_assoc → Qy, append_nil → QJ, mem_append → Q8, replicate → Qc
open Nat renaming not_lt_zero → Xi
namespace Go.Proofs.YtomfgcgnepfmjaaGreat
open Go.ChangeShapes Go.WideShapes Go.ChangeAt Go.RowKit
theorem Rr:ownKnob Tryz.prog.godebug=none:=by kernel_rfl
theorem XN:laidOutB Tryz.prog=true:=by kernel_rfl
theorem GF:Tryz.prog.underlying 28=some (.slice 5):=by kernel_rfl
theorem BR:Tryz.prog.cellsOf 5=1:=by kernel_rfl
theorem GD:Tryz.prog.underlying 78=some (.slice 28):=by kernel_rfl
theorem GI:Tryz.prog.cellsOf 28=1:=by kernel_rfl
theorem BP:(match Tryz.prog.underlying 77 with | some (.struct _) | some (.array _ _)=>true | _=>false)=true:=by kernel_rfl
theorem BS:Tryz.prog.cellsOf 77=96:=by kernel_rfl
theorem BQ:Tryz.prog.cellTypes Tryz.prog.depth 77=some (Qc 96 5):=by kernel_rfl
def Rq:Value := .agg (Wi 96 (.int .u8 0))
theorem Bg:Tryz.prog.underlying 3=some (.int .i64):=by kernel_rfl
theorem VZ:Tryz.prog.underlying 5=some (.int .u8):=by kernel_rfl
theorem Kv:Tryz.prog.underlying 4=some .bool:=by kernel_rfl
set_option maxRecDepth 100000 in
theorem GH (os:Os) (started:os.Started) (H:Type) (enc:TypeId×Value→H) :
  ReturnsInHanded {} Tryz.checked os 7 .any (Rows.chainJoinsSpec.pre6 enc Tryz.prog Tryz.f7 Rows.chainJoinsRow.domain false) (Rows.chainJoinsSpec.post enc Tryz.prog Tryz.f7 false true false false):=by
 refine returnsInHanded_of_change (C:=Tryz.checked) Rr started (by kernel_rfl) Tryz.func7
  (ChangeSpec.witness6 (enc:=enc) (C:=Tryz.checked) false ⟨#[],#[Rq,(.slice none 0 0),(.int .i64 0)],[]⟩ 8 (by kernel_rfl) (by kernel_rfl) (by kernel_rfl) (by kernel_rfl)) ?_
 intro W base args ds gs before hval0 hW hcnd _
 have hval:∀ (j:Nat) t v,Tryz.f7.params[j]?=some t→args[j]?=some v→Value.okWide Tryz.prog W .any base t v:=hval0
 have hW':=hW
 obtain ⟨p,q,hA0,hV,rfl,hfz,hnd⟩:=hW
 have hA:DataW.TrodAll enc Tryz.prog W 0 (fun _=>true) true Tryz.f7.params.toList args.toList ds p:=hA0
 rw [Tryz.params7] at hA hval
 obtain ⟨v0,v1,v2,d0,d1,d2,p0,p1,p2,hargs,rfl,rfl,h0,h1,h2⟩:=trodAll_three hA
 subst hargs
 obtain ⟨rfl,rfl⟩:=trodVars_none hV
 have h0k:=h0
 have h1k:=h1
 have h2k:=h2
 have hlt:∀ x∈p0++p1++p2,x.block<W.heap.size:=fun x hx=>by
  have:=hW'.lt x
  simpa using this (by simpa using hx)
 obtain ⟨l0,rfl,ll0,lx0⟩:=Go.Ev.N0 BP BS BQ VZ (by decide) (hval 0 77 v0 rfl rfl)
 have hopen:=Go.Ev.FT GD GF VZ GI BR (hval 1 78 v1 rfl rfl) h1
 obtain ⟨n2,rfl,ln2,lx2⟩:=Go.Ev.open_int Bg (hval 2 3 v2 rfl rfl)
 clear hA0 hval0
 simp only [QJ] at hW'
 rcases hopen with rfl | ⟨a,len,cap,A,L,C,Z,rfl,hl,ds1,rfl⟩
 ·obtain ⟨lH,hev⟩:=Go.Ev.YtomfgcgnepfmjaaGreat.B4 (H0:=[]) (pv := .slice none 0 0) (n:=0) (fi:=n2) (tx:=fun _=>[]) ll0 lx0 rfl (fun i hi=>absurd hi (Xi _))
  refine (Go.Ev.EO Go.Ev.YtomfgcgnepfmjaaGreat.mixed Go.Ev.YtomfgcgnepfmjaaGreat.gP hev (by simp [Go.Ev.YtomfgcgnepfmjaaGreat.T,Go.Ev.YtomfgcgnepfmjaaGreat.fnS]) (by simp [Go.Ev.Cs,Go.Ev.Ct]; first | rfl | skip) rfl W).mono fun e W' ⟨he,hb⟩ => ?_
  subst he
  exact ⟨_,rfl,Go.Ev.By (pa:=p0++p1++p2) (pv:=[]) hW' (fun _ _ _=>trodAll_mk1 (shut_bool Kv true)) (fun sp hsp=>by rw [Qy]; exact trodAll_mk3 (WideElems.Trod_stays XN (by kernel_rfl) (of_decide_eq_true (by kernel_rfl)) h0k (fun x hx=>hb.same (hlt x (Q8.2 (.inl (Q8.2 (.inl hx)))))) (fun x hx=>hsp x (Q8.2 (.inl (Q8.2 (.inl hx)))))) (WideElems.Trod_stays XN (by kernel_rfl) (of_decide_eq_true (by kernel_rfl)) h1k (fun x hx=>hb.same (hlt x (Q8.2 (.inl (Q8.2 (.inr hx)))))) (fun x hx=>hsp x (Q8.2 (.inl (Q8.2 (.inr hx)))))) (WideElems.Trod_stays XN (by kernel_rfl) (of_decide_eq_true (by kernel_rfl)) h2k (fun x hx=>hb.same (hlt x (Q8.2 (.inr hx)))) (fun x hx=>hsp x (Q8.2 (.inr hx))))) (fun _ _=>rfl) (by simp) hb (ok_one (by kernel_rfl) rfl (okWide_bool_mk Kv _))⟩
 ·obtain ⟨ρ,g1,g2,g3⟩:=Go.Ev.PD hl
  have hnone:∀ r,r<len→A r=none→L r=0:=fun r hr hA=>by
   obtain ⟨k1,-,-,-,k5,-⟩:=hl.row r hr
   have:=k5 hA
   omega
  obtain ⟨lH,hev⟩:=Go.Ev.YtomfgcgnepfmjaaGreat.B4 (H0:=Go.Ev.VD len A L fun r=>((Z r).take (L r)).map Int.toNat) (pv := .slice (some ⟨0,0,none⟩) len len) (n:=len) (fi:=n2) (tx:=fun r=>(((Z r).take (L r)).map Int.toNat).take 100) ll0 lx0 rfl (fun i hi=>Go.Ev.YtomfgcgnepfmjaaGreat.iG hnone (fun r hr=>(hl.row r hr).2.2.1) (fun r hr=>(hl.row r hr).2.2.2.1) hi)
  refine (Go.Ev.OA (ρ:=ρ) (args':=[.agg (Go.Ev.u8s l0).toArray,.slice (some a) len cap,.int .i64 n2]) Go.Ev.YtomfgcgnepfmjaaGreat.mixed Go.Ev.YtomfgcgnepfmjaaGreat.gP hev (by simp [Go.Ev.YtomfgcgnepfmjaaGreat.T,Go.Ev.YtomfgcgnepfmjaaGreat.fnS]) rfl (.cons (Go.Ev.Pa _ _) (.cons g1 (.cons (.same rfl) .nil))) g2 g3 Go.Ev.To).mono fun e W' ⟨he,hb⟩ => ?_
  subst he
  exact ⟨_,rfl,Go.Ev.By (pa:=p0++p1++p2) (pv:=[]) hW' (fun _ _ _=>trodAll_mk1 (shut_bool Kv true)) (fun sp hsp=>by rw [Qy]; exact trodAll_mk3 (WideElems.Trod_stays XN (by kernel_rfl) (of_decide_eq_true (by kernel_rfl)) h0k (fun x hx=>hb.same (hlt x (Q8.2 (.inl (Q8.2 (.inl hx)))))) (fun x hx=>hsp x (Q8.2 (.inl (Q8.2 (.inl hx)))))) (WideElems.Trod_stays XN (by kernel_rfl) (of_decide_eq_true (by kernel_rfl)) h1k (fun x hx=>hb.same (hlt x (Q8.2 (.inl (Q8.2 (.inr hx)))))) (fun x hx=>hsp x (Q8.2 (.inl (Q8.2 (.inr hx)))))) (WideElems.Trod_stays XN (by kernel_rfl) (of_decide_eq_true (by kernel_rfl)) h2k (fun x hx=>hb.same (hlt x (Q8.2 (.inr hx)))) (fun x hx=>hsp x (Q8.2 (.inr hx))))) (fun _ _=>rfl) (by simp) hb (ok_one (by kernel_rfl) rfl (okWide_bool_mk Kv _))⟩
theorem chainJoins_holds:Rows.ChainJoinsSaid :=
 OpenClaim.holds_of_wide 7 Tryz.f7 rfl rfl rfl rfl rfl rfl rfl ⟨rfl,rfl,rfl,rfl,rfl⟩ rfl rfl rfl rfl rfl (by kernel_rfl) Tryz.func7 (by kernel_rfl)
  (of_decide_eq_true (by kernel_rfl)) (by unfold Func.isWrapper; first | (rw [if_pos (by decide +kernel)]; kernel_rfl) | (rw [if_neg (by decide +kernel)]; exact ⟨rfl,rfl⟩))
  (fun os started H enc _=>GH os started H enc)
end Go.Proofs.YtomfgcgnepfmjaaGreat
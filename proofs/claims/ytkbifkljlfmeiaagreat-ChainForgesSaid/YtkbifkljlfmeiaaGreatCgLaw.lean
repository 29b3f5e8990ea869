/-
  'chainForges' answers true for every input, and each argument reads behind the call as it read before. No conditions.
-/
import Derived.Test.YtkbifkljlfmeiaaGreatCg6
import Derived.Test.YtkbifkljlfmeiaaGreatRows
import Derived.ProofKit
open Array renaming replicate → Y2
open List renaming append_assoc → Qx, append_nil → QF, mem_append → QB, replicate → Qc
namespace Go.Proofs.YtkbifkljlfmeiaaGreat
open Go.ChangeShapes Go.WideShapes Go.ChangeAt Go.RowKit
theorem Tb:ownKnob Tryz.prog.godebug=none:=by kernel_rfl
theorem Ko:laidOutB Tryz.prog=true:=by kernel_rfl
theorem Wm:Tryz.prog.underlying 33=some (.slice 5):=by kernel_rfl
theorem GZ:Tryz.prog.cellsOf 5=1:=by kernel_rfl
theorem Hb:Tryz.prog.bytesOf 5=1:=by kernel_rfl
theorem GX:(match Tryz.prog.underlying 52 with | some (.struct _) | some (.array _ _)=>true | _=>false)=true:=by kernel_rfl
theorem Ha:Tryz.prog.cellsOf 52=3:=by kernel_rfl
theorem GY:Tryz.prog.cellTypes Tryz.prog.depth 52=some (Qc 3 3):=by kernel_rfl
theorem Rt:Tryz.prog.underlying 3=some (.int .i64):=by kernel_rfl
theorem HX:(match Tryz.prog.underlying 51 with | some (.struct _) | some (.array _ _)=>true | _=>false)=true:=by kernel_rfl
theorem Da:Tryz.prog.cellsOf 51=32+(2+64):=by kernel_rfl
theorem HY:Tryz.prog.cellTypes Tryz.prog.depth 51=some (Qc 32 5++(24::24::Qc 64 5)):=by kernel_rfl
theorem Tc:Tryz.prog.underlying 24=some (.int .u32):=by kernel_rfl
theorem YK:Tryz.prog.underlying 5=some (.int .u8):=by kernel_rfl
theorem KY:Tryz.prog.underlying 4=some .bool:=by kernel_rfl
set_option maxRecDepth 100000 in
theorem HZ (os:Os) (started:os.Started) (H:Type) (enc:TypeId×Value→H) :
  ReturnsInHanded {} Tryz.checked os 4 .any (Rows.chainForgesSpec.pre6 enc Tryz.prog Tryz.f4 Rows.chainForgesRow.domain false) (Rows.chainForgesSpec.post enc Tryz.prog Tryz.f4 false true false false):=by
 refine returnsInHanded_of_change_sized (C:=Tryz.checked) Tb started (by kernel_rfl) Tryz.func4
  (ChangeSpec.witness6 (enc:=enc) (C:=Tryz.checked) false ⟨#[],#[(.agg (Y2 32 (.int .u8 0)++#[.int .u32 0,.int .u32 0]++Y2 64 (.int .u8 0))),(.slice none 0 0),(.agg #[.int .i64 0,.int .i64 0,.int .i64 0])],[]⟩ 8 (by kernel_rfl) (by kernel_rfl) (by kernel_rfl) (by kernel_rfl)) ?_
 intro W base args ds gs before hval0 hW hcnd hsz _
 have hval:∀ (j:Nat) t v,Tryz.f4.params[j]?=some t→args[j]?=some v→Value.okWide Tryz.prog W .any base t v:=hval0
 have hW':=hW
 obtain ⟨p,q,hA0,hV,rfl,hfz,hnd⟩:=hW
 have hA:DataW.TrodAll enc Tryz.prog W 0 (fun _=>true) true Tryz.f4.params.toList args.toList ds p:=hA0
 rw [Tryz.params4] at hA hval
 obtain ⟨v0,v1,v2,d0,d1,d2,p0,p1,p2,hargs,rfl,rfl,h0,h1,h2⟩:=trodAll_three hA
 subst hargs
 obtain ⟨rfl,rfl⟩:=trodVars_none hV
 have h0k:=h0
 have h1k:=h1
 have h2k:=h2
 have hlt:∀ x∈p0++p1++p2,x.block<W.heap.size:=fun x hx=>by
  have:=hW'.lt x
  simpa using this (by simpa using hx)
 obtain ⟨l0,a0,b0,m0,rfl,ll0,lm0,lx0,ly0,la0,lb0⟩:=Go.Ev.mE HX Da HY YK Tc (hval 0 51 v0 rfl rfl)
 have hmax:=fun a len cap hv=>Go.Ev.iE (a:=a) (len:=len) (cap:=cap) hsz (j:=1) (by rw [Tryz.params4]; rfl) rfl Wm Hb h1 hv
 have hopen:=Go.Ev.mD Wm YK GZ (hval 1 33 v1 rfl rfl) h1
 obtain ⟨l2,rfl,ll2,lx2⟩:=Go.Ev.open_ints GX Ha GY Rt (hval 2 52 v2 rfl rfl)
 obtain ⟨a2,b2,c2,rfl⟩:=Go.Ev.SD (k := .i64) ll2
 clear hA0 hval0
 simp only [QF] at hW'
 rcases hopen with rfl | ⟨a,len,cap,l,rfl,hl⟩
 ·obtain ⟨lH,hev⟩:=Go.Ev.YtkbifkljlfmeiaaGreat.AP ll0 lm0 lx0 ly0 la0 lb0 Go.Ev.YtkbifkljlfmeiaaGreat.BA.nil
  refine (Go.Ev.OT Go.Ev.YtkbifkljlfmeiaaGreat.mixed Go.Ev.YtkbifkljlfmeiaaGreat.wa hev (by simp [Go.Ev.YtkbifkljlfmeiaaGreat.T,Go.Ev.YtkbifkljlfmeiaaGreat.fnS]) (by simp [Go.Ev.YtkbifkljlfmeiaaGreat.EY]; exact ⟨rfl,rfl⟩) rfl W).mono fun e W' ⟨he,hb⟩ => ?_
  subst he
  exact ⟨_,rfl,Go.Ev.Hp (pa:=p0++p1++p2) (pv:=[]) hW' (fun _ _ _=>trodAll_mk1 (shut_bool KY true)) (fun sp hsp=>by rw [Qx]; exact trodAll_mk3 (WideElems.Trod_stays Ko (by kernel_rfl) (of_decide_eq_true (by kernel_rfl)) h0k (fun x hx=>hb.same (hlt x (QB.2 (.inl (QB.2 (.inl hx)))))) (fun x hx=>hsp x (QB.2 (.inl (QB.2 (.inl hx)))))) (WideElems.Trod_stays Ko (by kernel_rfl) (of_decide_eq_true (by kernel_rfl)) h1k (fun x hx=>hb.same (hlt x (QB.2 (.inl (QB.2 (.inr hx)))))) (fun x hx=>hsp x (QB.2 (.inl (QB.2 (.inr hx)))))) (WideElems.Trod_stays Ko (by kernel_rfl) (of_decide_eq_true (by kernel_rfl)) h2k (fun x hx=>hb.same (hlt x (QB.2 (.inr hx)))) (fun x hx=>hsp x (QB.2 (.inr hx))))) (fun _ _=>rfl) (by simp) hb (ok_one (by kernel_rfl) rfl (okWide_bool_mk KY _))⟩
 ·obtain ⟨pl,g1,g2,g3,g4⟩:=Go.Ev.nG hl
  obtain ⟨lH,hev⟩:=Go.Ev.YtkbifkljlfmeiaaGreat.AP ll0 lm0 lx0 ly0 la0 lb0 (Go.Ev.YtkbifkljlfmeiaaGreat.BA.some hl.len hl.lt (hmax a len cap rfl))
  refine (Go.Ev.fU (ρ:=Go.Ev.pl1 pl) (args':=[.agg (Go.Ev.u8s l0++(.int .u32 (a0:Nat)::.int .u32 (b0:Nat)::Go.Ev.u8s m0)).toArray,.slice (some a) len cap,.agg #[.int .i64 a2,.int .i64 b2,.int .i64 c2]]) Go.Ev.YtkbifkljlfmeiaaGreat.mixed Go.Ev.YtkbifkljlfmeiaaGreat.wa hev (by simp [Go.Ev.YtkbifkljlfmeiaaGreat.T,Go.Ev.YtkbifkljlfmeiaaGreat.fnS]) rfl (.cons (Go.Ev.aT (Go.Ev.YtkbifkljlfmeiaaGreat.EY _ _ _ _)) (.cons (g4 _ 0 rfl) (.cons (Go.Ev.aT rfl) .nil))) (Go.Ev.rU g2 g3) Go.Ev.oF Go.Ev.sM).mono fun e W' ⟨he,hb⟩ => ?_
  subst he
  exact ⟨_,rfl,Go.Ev.Hp (pa:=p0++p1++p2) (pv:=[]) hW' (fun _ _ _=>trodAll_mk1 (shut_bool KY true)) (fun sp hsp=>by rw [Qx]; exact trodAll_mk3 (WideElems.Trod_stays Ko (by kernel_rfl) (of_decide_eq_true (by kernel_rfl)) h0k (fun x hx=>hb.same (hlt x (QB.2 (.inl (QB.2 (.inl hx)))))) (fun x hx=>hsp x (QB.2 (.inl (QB.2 (.inl hx)))))) (WideElems.Trod_stays Ko (by kernel_rfl) (of_decide_eq_true (by kernel_rfl)) h1k (fun x hx=>hb.same (hlt x (QB.2 (.inl (QB.2 (.inr hx)))))) (fun x hx=>hsp x (QB.2 (.inl (QB.2 (.inr hx)))))) (WideElems.Trod_stays Ko (by kernel_rfl) (of_decide_eq_true (by kernel_rfl)) h2k (fun x hx=>hb.same (hlt x (QB.2 (.inr hx)))) (fun x hx=>hsp x (QB.2 (.inr hx))))) (fun _ _=>rfl) (by simp) hb (ok_one (by kernel_rfl) rfl (okWide_bool_mk KY _))⟩
theorem chainForges_holds:Rows.ChainForgesSaid :=
 OpenClaim.holds_of_wide 4 Tryz.f4 rfl rfl rfl rfl rfl rfl rfl ⟨rfl,rfl,rfl,rfl,rfl⟩ rfl rfl rfl rfl rfl (by kernel_rfl) Tryz.func4 (by kernel_rfl)
  (of_decide_eq_true (by kernel_rfl)) (by unfold Func.isWrapper; first | (rw [if_pos (by decide +kernel)]; kernel_rfl) | (rw [if_neg (by decide +kernel)]; exact ⟨rfl,rfl⟩))
  (fun os started H enc _=>HZ os started H enc)
end Go.Proofs.YtkbifkljlfmeiaaGreat
/-
  'ChainShares' answers true for every input, and each argument reads behind the call as it read before. No conditions.
-/
import Derived.Test.YtomfgcgnepfmjaaGreatCs5
import Derived.Test.YtomfgcgnepfmjaaGreatRows
import Derived.ProofKit
open List renaming append_nil → QD, range → Jx
namespace Go.Proofs.YtomfgcgnepfmjaaGreat
open Go.ChangeShapes Go.WideShapes Go.ChangeAt Go.RowKit
theorem DG:ownKnob Tryz.prog.godebug=none:=by kernel_rfl
theorem De:laidOutB Tryz.prog=true:=by kernel_rfl
theorem DF:(match Tryz.prog.underlying 36 with | some (.struct fs)=>fs.toList.map (fun f=>(f.type,f.offset))==(Jx [3,32,33,34,28].length).map (fun i=>([3,32,33,34,28].getD i 0,i)) | _=>false)=true:=by kernel_rfl
theorem G9:Tryz.prog.cellsOf 36=5:=by kernel_rfl
theorem Dd:([3,32,33,34,28].all fun u=>Tryz.prog.cellsOf u==1)=true:=by kernel_rfl
theorem G8:Tryz.prog.cellTypes Tryz.prog.depth 36=some [3,32,33,34,28]:=by kernel_rfl
theorem Ur:Tryz.prog.underlying 3=some (.int .i64):=by kernel_rfl
theorem Rv:Tryz.prog.underlying 32=some (.slice 24):=by kernel_rfl
theorem Ru:Tryz.prog.underlying 33=some (.slice 22):=by kernel_rfl
theorem Rt:Tryz.prog.underlying 34=some (.slice 41):=by kernel_rfl
theorem Rs:Tryz.prog.underlying 28=some (.slice 5):=by kernel_rfl
theorem Rz:Tryz.prog.underlying 24=some (.array 32 5):=by kernel_rfl
theorem Ry:Tryz.prog.underlying 22=some (.int .u32):=by kernel_rfl
theorem Rx:Tryz.prog.underlying 41=some (.array 64 5):=by kernel_rfl
theorem Rw:Tryz.prog.underlying 5=some (.int .u8):=by kernel_rfl
theorem Ut:Tryz.prog.cellsOf 24=32:=by kernel_rfl
theorem R1:Tryz.prog.cellsOf 22=1:=by kernel_rfl
theorem Us:Tryz.prog.cellsOf 41=64:=by kernel_rfl
theorem VS:Tryz.prog.cellsOf 5=1:=by kernel_rfl
theorem VR:Tryz.prog.underlying 4=some .bool:=by kernel_rfl
set_option maxRecDepth 100000 in
theorem BJ (os:Os) (started:os.Started) (H:Type) (enc:TypeId×Value→H) :
  ReturnsInHanded {} Tryz.checked os 5 .any (Rows.chainSharesSpec.pre6 enc Tryz.prog Tryz.f5 Rows.chainSharesRow.domain false) (Rows.chainSharesSpec.post enc Tryz.prog Tryz.f5 false true false false):=by
 refine returnsInHanded_of_change (C:=Tryz.checked) DG started (by kernel_rfl) Tryz.func5
  (ChangeSpec.witness6 (enc:=enc) (C:=Tryz.checked) false ⟨#[],#[.agg #[.int .i64 0,.slice none 0 0,.slice none 0 0,.slice none 0 0,.slice none 0 0]],[]⟩ 8 (by kernel_rfl) (by kernel_rfl) (by kernel_rfl) (by kernel_rfl)) ?_
 intro W base args ds gs before hval0 hW hcnd _
 have hval:∀ (j:Nat) t v,Tryz.f5.params[j]?=some t→args[j]?=some v→Value.okWide Tryz.prog W .any base t v:=hval0
 have hW':=hW
 obtain ⟨p,q,hA0,hV,rfl,hfz,hnd⟩:=hW
 have hA:DataW.TrodAll enc Tryz.prog W 0 (fun _=>true) true Tryz.f5.params.toList args.toList ds p:=hA0
 rw [Tryz.params5] at hA hval
 obtain ⟨v0,d0,rfl,rfl,h0⟩:=trodAll_one hA
 obtain ⟨rfl,rfl⟩:=trodVars_none hV
 have h0k:=h0
 have hlt:∀ x∈p,x.block<W.heap.size:=fun x hx=>by
  have:=hW'.lt x
  simpa using this (by simpa using hx)
 obtain ⟨cs,rfl,lc,hc⟩:=Go.Ev.CQ DF G9 Dd G8 (hval 0 36 v0 rfl rfl) h0
 obtain ⟨c0,f0,y0,g0,o0,t0⟩:=hc 0 _ rfl
 obtain ⟨c1,f1,y1,g1,o1,t1⟩:=hc 1 _ rfl
 obtain ⟨c2,f2,y2,g2,o2,t2⟩:=hc 2 _ rfl
 obtain ⟨c3,f3,y3,g3,o3,t3⟩:=hc 3 _ rfl
 obtain ⟨c4,f4,y4,g4,o4,t4⟩:=hc 4 _ rfl
 clear hc
 obtain rfl:=Go.Ev.bj lc g0 g1 g2 g3 g4
 obtain ⟨k,rfl,-,-⟩:=Go.Ev.open_int Ur (show Value.okWide Tryz.prog W .any base 3 c0 by simp only [Value.okWide,Ur]; exact o0)
 have sc8:∀ v,Go.Ev.YtomfgcgnepfmjaaGreat.QI .u8 v→Go.Ev.oneCellB v=true∧Go.Ev.scalarRf v=true:=fun v ⟨_,hv,_⟩=>by rw [hv]; exact ⟨rfl,rfl⟩
 have sc32:∀ v,Go.Ev.YtomfgcgnepfmjaaGreat.QI .u32 v→Go.Ev.oneCellB v=true∧Go.Ev.scalarRf v=true:=fun v ⟨_,hv,_⟩=>by rw [hv]; exact ⟨rfl,rfl⟩
 have q8:=Go.Ev.R4 (enc:=enc) (w:=W) Rw rfl
 have e1:=Go.Ev.Wq Rv Ut (by decide) (Go.Ev.R5 Rz Ut VS q8) sc8 o1 t1
 have e2:=Go.Ev.Wq Ru R1 (by decide) (Go.Ev.R4 (enc:=enc) (w:=W) Ry rfl) sc32 o2 t2
 have e3:=Go.Ev.Wq Rt Us (by decide) (Go.Ev.R5 Rx Us VS q8) sc8 o3 t3
 have e4:=Go.Ev.Wq Rs VS (by decide) q8 sc8 o4 t4
 obtain ⟨H0,ρ,ka,na,sa,da,kl,nl,sl,dl,hF,hn,r1,r2,r3,r4⟩:=Go.Ev.YtomfgcgnepfmjaaGreat.EJ (k:=k) e1 e2 e3 e4
 clear hA0 hval0
 simp only [QD] at hW'
 obtain ⟨lH,hev⟩:=Go.Ev.YtomfgcgnepfmjaaGreat.R0 (k:=k) hF hn
 refine (Go.Ev.OU (ρ:=ρ) (args':=[.agg #[.int .i64 k,c1,c2,c3,c4]]) Go.Ev.YtomfgcgnepfmjaaGreat.mixed Go.Ev.YtomfgcgnepfmjaaGreat.tabOk hev (by simp [Go.Ev.YtomfgcgnepfmjaaGreat.T,Go.Ev.YtomfgcgnepfmjaaGreat.fnS]) rfl (.cons r4 .nil) r1 r2 r3).mono fun e W' ⟨he,hb⟩ => ?_
 subst he
 exact ⟨_,rfl,Go.Ev.Ta (pa:=p) (pv:=[]) hW' (fun _ _ _=>trodAll_mk1 (shut_bool VR true)) (fun sp hsp=>trodAll_mk1 (WideElems.Trod_stays De (by kernel_rfl) (of_decide_eq_true (by kernel_rfl)) h0k (fun x hx=>hb.same (hlt x hx)) (fun x hx=>hsp x hx))) (fun _ _=>rfl) (by simp) hb (ok_one (by kernel_rfl) rfl (okWide_bool_mk VR _))⟩
theorem chainShares_holds:Rows.ChainSharesSaid :=
 OpenClaim.holds_of_wide 5 Tryz.f5 rfl rfl rfl rfl rfl rfl rfl ⟨rfl,rfl,rfl,rfl,rfl⟩ rfl rfl rfl rfl rfl (by kernel_rfl) Tryz.func5 (by kernel_rfl)
  (of_decide_eq_true (by kernel_rfl)) (by unfold Func.isWrapper; first | (rw [if_pos (by decide +kernel)]; kernel_rfl) | (rw [if_neg (by decide +kernel)]; exact ⟨rfl,rfl⟩))
  (fun os started H enc _=>BJ os started H enc)
end Go.Proofs.YtomfgcgnepfmjaaGreat
/-
The law GateReads of the given program: for every input the call returns true, and each argument reads afterwards as it read before. No condition.
-/
import Derived.Test.YtnegekppaoedgaaGreatDoorT3
import Derived.Test.YtnegekppaoedgaaGreatDoorWrap
import Derived.Test.YtnegekppaoedgaaGreatDoorCards
import Derived.Test.YtnegekppaoedgaaGreatDoorJA
set_option linter.all false
namespace Go.Proofs.YtnegekppaoedgaaGreatDoor.gateReads
open Go.ChangeShapes Go.WideShapes Go.ChangeAt Go.RowKit
theorem own:ownKnob Tryz.prog.godebug=none:=by kernel_rfl
theorem laidOut:laidOutB Tryz.prog=true:=by kernel_rfl
section
variable {H : Type} {enc : TypeId × Value → H} {W : World}
theorem Bh:jF enc Tryz.prog W 24 aQ.enc aQ.Q:=by
 intro fuel cs x h
 obtain ⟨n,hF,hl⟩:=jG Tryz.underlying24 h
 have hl:cs.length=10:=hl.trans (by kernel_rfl)
 obtain ⟨y0,c0,q0,hF⟩:=aF (aO Tryz.underlying3) hF (z:=1) (by kernel_rfl)
 obtain ⟨y1,c1,q1,hF⟩:=aF (aO Tryz.underlying3) hF (z:=1) (by kernel_rfl)
 obtain ⟨y2,c2,q2,hF⟩:=aF (aO Tryz.underlying3) hF (z:=1) (by kernel_rfl)
 obtain ⟨y3,c3,q3,hF⟩:=aF (aO Tryz.underlying3) hF (z:=1) (by kernel_rfl)
 obtain ⟨y4,c4,q4,hF⟩:=aF (aO Tryz.underlying3) hF (z:=1) (by kernel_rfl)
 obtain ⟨y5,c5,q5,hF⟩:=aF (aO Tryz.underlying3) hF (z:=1) (by kernel_rfl)
 obtain ⟨y6,c6,q6,hF⟩:=aF (aO Tryz.underlying3) hF (z:=1) (by kernel_rfl)
 obtain ⟨y7,c7,q7,hF⟩:=aF (aO Tryz.underlying3) hF (z:=1) (by kernel_rfl)
 obtain ⟨y8,c8,q8,hF⟩:=aF (uq Tryz.underlying9) hF (z:=1) (by kernel_rfl)
 obtain ⟨y9,c9,q9,hF⟩:=aF (vP Tryz.underlying22 (sz:=1) (by kernel_rfl) (by decide) (fun _=> rfl) (aO Tryz.underlying3)) hF (z:=1) (by kernel_rfl)
 exact ⟨⟨y0,y1,y2,y3,y4,y5,y6,y7,y8,y9⟩,(aG c0 rfl (aG c1 rfl (aG c2 rfl (aG c3 rfl (aG c4 rfl (aG c5 rfl (aG c6 rfl (aG c7 rfl (aG c8 rfl (aG c9 rfl (jH hl))))))))))),⟨q0,q1,q2,q3,q4,q5,q6,q7,q8,q9⟩⟩
theorem Aj:jF enc Tryz.prog W 26 dI.enc dI.Q:=by
 intro fuel cs x h
 obtain ⟨n,hF,hl⟩:=jG Tryz.underlying26 h
 have hl:cs.length=5:=hl.trans (by kernel_rfl)
 obtain ⟨y0,c0,q0,hF⟩:=aF (aO Tryz.underlying3) hF (z:=1) (by kernel_rfl)
 obtain ⟨y1,c1,q1,hF⟩:=aF (aO Tryz.underlying3) hF (z:=1) (by kernel_rfl)
 obtain ⟨y2,c2,q2,hF⟩:=aF (aO Tryz.underlying3) hF (z:=1) (by kernel_rfl)
 obtain ⟨y3,c3,q3,hF⟩:=aF (aO Tryz.underlying3) hF (z:=1) (by kernel_rfl)
 obtain ⟨y4,c4,q4,hF⟩:=aF (qO Tryz.underlying4) hF (z:=1) (by kernel_rfl)
 exact ⟨⟨y0,y1,y2,y3,y4⟩,(aG c0 rfl (aG c1 rfl (aG c2 rfl (aG c3 rfl (aG c4 rfl (jH hl)))))),⟨q0,q1,q2,q3,q4⟩⟩
theorem yw:jF enc Tryz.prog W 28 dh.enc dh.Q:=by
 intro fuel cs x h
 obtain ⟨n,hF,hl⟩:=jG Tryz.underlying28 h
 have hl:cs.length=3:=hl.trans (by kernel_rfl)
 obtain ⟨y0,c0,q0,hF⟩:=aF (aO Tryz.underlying3) hF (z:=1) (by kernel_rfl)
 obtain ⟨y1,c1,q1,hF⟩:=aF (aO Tryz.underlying3) hF (z:=1) (by kernel_rfl)
 obtain ⟨y2,c2,q2,hF⟩:=aF (aO Tryz.underlying3) hF (z:=1) (by kernel_rfl)
 exact ⟨⟨y0,y1,y2⟩,(aG c0 rfl (aG c1 rfl (aG c2 rfl (jH hl)))),⟨q0,q1,q2⟩⟩
theorem uI:jF enc Tryz.prog W 30 bD.enc bD.Q:=by
 intro fuel cs x h
 obtain ⟨n,hF,hl⟩:=jG Tryz.underlying30 h
 have hl:cs.length=3:=hl.trans (by kernel_rfl)
 obtain ⟨y0,c0,q0,hF⟩:=aF (aO Tryz.underlying3) hF (z:=1) (by kernel_rfl)
 obtain ⟨y1,c1,q1,hF⟩:=aF (aO Tryz.underlying3) hF (z:=1) (by kernel_rfl)
 obtain ⟨y2,c2,q2,hF⟩:=aF (qO Tryz.underlying4) hF (z:=1) (by kernel_rfl)
 exact ⟨⟨y0,y1,y2⟩,(aG c0 rfl (aG c1 rfl (aG c2 rfl (jH hl)))),⟨q0,q1,q2⟩⟩
theorem Ak:jF enc Tryz.prog W 32 dJ.enc dJ.Q:=by
 intro fuel cs x h
 obtain ⟨n,hF,hl⟩:=jG Tryz.underlying32 h
 have hl:cs.length=4:=hl.trans (by kernel_rfl)
 obtain ⟨y0,c0,q0,hF⟩:=aF (aO Tryz.underlying3) hF (z:=1) (by kernel_rfl)
 obtain ⟨y1,c1,q1,hF⟩:=aF (aO Tryz.underlying3) hF (z:=1) (by kernel_rfl)
 obtain ⟨y2,c2,q2,hF⟩:=aF (aO Tryz.underlying3) hF (z:=1) (by kernel_rfl)
 obtain ⟨y3,c3,q3,hF⟩:=aF (aO Tryz.underlying3) hF (z:=1) (by kernel_rfl)
 exact ⟨⟨y0,y1,y2,y3⟩,(aG c0 rfl (aG c1 rfl (aG c2 rfl (aG c3 rfl (jH hl))))),⟨q0,q1,q2,q3⟩⟩
theorem yA:jF enc Tryz.prog W 34 dn.enc dn.Q:=by
 intro fuel cs x h
 obtain ⟨n,hF,hl⟩:=jG Tryz.underlying34 h
 have hl:cs.length=4:=hl.trans (by kernel_rfl)
 obtain ⟨y0,c0,q0,hF⟩:=aF (aO Tryz.underlying3) hF (z:=1) (by kernel_rfl)
 obtain ⟨y1,c1,q1,hF⟩:=aF (aO Tryz.underlying3) hF (z:=1) (by kernel_rfl)
 obtain ⟨y2,c2,q2,hF⟩:=aF (aO Tryz.underlying3) hF (z:=1) (by kernel_rfl)
 obtain ⟨y3,c3,q3,hF⟩:=aF (aO Tryz.underlying3) hF (z:=1) (by kernel_rfl)
 exact ⟨⟨y0,y1,y2,y3⟩,(aG c0 rfl (aG c1 rfl (aG c2 rfl (aG c3 rfl (jH hl))))),⟨q0,q1,q2,q3⟩⟩
theorem yB:jF enc Tryz.prog W 37 ak.enc ak.Q:=by
 intro fuel cs x h
 obtain ⟨n,hF,hl⟩:=jG Tryz.underlying37 h
 have hl:cs.length=35:=hl.trans (by kernel_rfl)
 obtain ⟨y0,c0,q0,hF⟩:=aF (aO Tryz.underlying3) hF (z:=1) (by kernel_rfl)
 obtain ⟨y1,c1,q1,hF⟩:=aF (aO Tryz.underlying3) hF (z:=1) (by kernel_rfl)
 obtain ⟨y2,c2,q2,hF⟩:=aF (aO Tryz.underlying3) hF (z:=1) (by kernel_rfl)
 obtain ⟨y3,c3,q3,hF⟩:=aF (aO Tryz.underlying3) hF (z:=1) (by kernel_rfl)
 obtain ⟨y4,c4,q4,hF⟩:=aF (aO Tryz.underlying3) hF (z:=1) (by kernel_rfl)
 obtain ⟨y5,c5,q5,hF⟩:=aF Bh hF (z:=10) (by kernel_rfl)
 obtain ⟨y6,c6,q6,hF⟩:=aF Aj hF (z:=5) (by kernel_rfl)
 obtain ⟨y7,c7,q7,hF⟩:=aF yw hF (z:=3) (by kernel_rfl)
 obtain ⟨y8,c8,q8,hF⟩:=aF uI hF (z:=3) (by kernel_rfl)
 obtain ⟨y9,c9,q9,hF⟩:=aF Ak hF (z:=4) (by kernel_rfl)
 obtain ⟨y10,c10,q10,hF⟩:=aF yA hF (z:=4) (by kernel_rfl)
 obtain ⟨y11,c11,q11,hF⟩:=aF (vP Tryz.underlying35 (sz:=1) (by kernel_rfl) (by decide) (fun _=> rfl) (qO Tryz.underlying4)) hF (z:=1) (by kernel_rfl)
 exact ⟨⟨y0,y1,y2,y3,y4,y5,y6,y7,y8,y9,y10,y11⟩,(aG c0 rfl (aG c1 rfl (aG c2 rfl (aG c3 rfl (aG c4 rfl (aG c5 rfl (aG c6 rfl (aG c7 rfl (aG c8 rfl (aG c9 rfl (aG c10 rfl (aG c11 rfl (jH hl))))))))))))),⟨q0,q1,q2,q3,q4,q5,q6,q7,q8,q9,q10,q11⟩⟩
end
set_option maxRecDepth 100000 in
theorem lifted (os:Os) (started:os.Started) (H:Type) (enc:TypeId×Value→H):
  ReturnsInHanded {} Tryz.checked os 3 .any (fun w args=> (Rows.gateReadsSpec.pre enc Tryz.prog Tryz.f3 [] false w args∧laidMetH Tryz.prog OL w)∧sizedMet enc Tryz.prog Tryz.f3 (OpenSpec.ofChange Rows.gateReadsSpec) false w args) (Rows.gateReadsSpec.post enc Tryz.prog Tryz.f3 false true false false):=by
 refine Bj (C:=Tryz.checked) (X:=fun w _=> laidMetH Tryz.prog OL w) (fun _ _ _ hh h=> h.of_heap hh) own started (by kernel_rfl) Tryz.func3
  (ChangeSpec.witness_shaped (enc:=enc) (C:=Tryz.checked) (os:=os) (X:=fun w _=> laidMetH Tryz.prog OL w) false (World.doorLaid Tryz.prog 400 os) #[.agg #[.int .i64 0,.int .i64 0,.int .i64 0,.int .i64 0,.int .i64 0,.int .i64 0,.int .i64 0,.int .i64 0,.int .i64 0,.int .i64 0,.int .i64 0,.int .i64 0,.int .i64 0,.string ByteArray.empty,.slice none 0 0,.int .i64 0,.int .i64 0,.int .i64 0,.int .i64 0,.bool false,.int .i64 0,.int .i64 0,.int .i64 0,.int .i64 0,.int .i64 0,.bool false,.int .i64 0,.int .i64 0,.int .i64 0,.int .i64 0,.int .i64 0,.int .i64 0,.int .i64 0,.int .i64 0,.slice none 0 0],.string ByteArray.empty] 8 rfl (World.shaped_of_RefB (by kernel_rfl) (by kernel_rfl)) (by kernel_rfl) (by kernel_rfl) (by kernel_rfl) (door_met os _)) ?_
 intro W base args ds gs before hval0 hW hcnd hL hsh
 have hI:=inv_of hL hsh
 have hval:∀(j:Nat) t v,Tryz.f3.params[j]? =some t→args[j]? =some v→Value.okWide Tryz.prog W .any base t v:=hval0
 have hW':=hW
 obtain ⟨p,q,hA0,hV,rfl,hfz,hnd⟩:=hW
 have hA:DataW.TrodAll enc Tryz.prog W 0 (fun _=> true) true Tryz.f3.params.toList args.toList ds p:=hA0
 have hA1:=hA
 rw [Tryz.params3] at hA hval
 obtain ⟨args⟩:=args
 have hA:DataW.TrodAll enc Tryz.prog W 0 (fun _=> true) true [37,9] args ds p:=hA
 obtain ⟨v0,vs0,d0,ds0,p0,ps0,rfl,rfl,rfl,h0,hA⟩:=trodAll_cons hA
 obtain ⟨v1,vs1,d1,ds1,p1,ps1,rfl,rfl,rfl,h1,hA⟩:=trodAll_cons hA
 obtain ⟨rfl,rfl,rfl⟩:=trodAll_nil hA
 obtain ⟨rfl,rfl⟩:=trodVars_none hV
 obtain ⟨xs0,rfl,_⟩:=okWide_struct Tryz.underlying37 (hval 0 37 v0 rfl rfl)
 obtain ⟨a0,r0,w0⟩:=aaG yB h0
 obtain ⟨_,rfl⟩:=okWide_string Tryz.underlying9 (hval 1 9 v1 rfl rfl)
 obtain ⟨a1,r1,w1⟩:=aaH (f:=fun y=> .v (.string y)) (uq Tryz.underlying9) rfl h1
 refine (Xq a0 w0 a1 hI (bT.cons r0 (bT.cons (.d r1) (bT.nil (G6 (Old W) W))))).mono fun e W' ⟨he,hg⟩=> ?_
 subst he
 exact ⟨_,rfl,aaI laidOut (by rw [Tryz.params3];intro t ht;simp only [List.mem_cons,List.not_mem_nil,or_false] at ht;rcases ht with rfl | rfl <;> exact ⟨by kernel_rfl,of_decide_eq_true (by kernel_rfl)⟩) hW' hA1 (by simp) rfl rfl Tryz.underlying4 rfl rfl rfl hg (ok_one (by kernel_rfl) rfl (okWide_bool_mk Tryz.underlying4 _))⟩
theorem over:Rows.GateReadsSaid:=
 OpenClaim.holds_of_wide 3 Tryz.f3 rfl rfl rfl rfl rfl rfl rfl ⟨rfl,rfl,rfl,rfl,rfl⟩ rfl rfl rfl rfl rfl (by kernel_rfl) Tryz.func3 aaA
  (of_decide_eq_true (by kernel_rfl)) (by unfold Func.isWrapper;first | (rw [if_pos (by decide +kernel)];kernel_rfl) | (rw [if_neg (by decide +kernel)];exact ⟨rfl,rfl⟩))
  (fun os started H enc _=> lifted os started H enc)
theorem proved:Rows.GateReadsCardSaid:=
 Claim7.holds_tied_plain_at .later [] [.data,.data,.data,.sentinel,.sentinel] true (true, "683f42383bfec7bed1e346fd9e75a91d4bc4132ab0ef3303ab5f8eed792a171c") true
  over (fun _ h=> by cases h) (by kernel_rfl) (fun _ h=> by cases h) OM rfl ⟨rfl,rfl⟩ (by kernel_rfl) rfl
  (fun f fn hf hfn=> by
   obtain rfl:f=3:=Option.some.inj ((show Tryz.prog.funcNamed "lingua/lingualaw48.GateReads" =some 3 by kernel_rfl).symm.trans hf) |>.symm
   obtain rfl:fn=Tryz.f3:=(Option.some.inj (Tryz.func3.symm.trans hfn)).symm
   exact ⟨by kernel_rfl,fun j t ht=> by
    rw [Tryz.params3] at ht
    have hm:t∈ [37,9]:=by simpa using Array.mem_of_getElem? ht
    have hall:([37,9].all fun u=> !Tryz.prog.wantsStandIn u)=true:=by kernel_rfl
    exact (show Tryz.prog.wantsStandIn t=false by simpa using List.all_eq_true.1 hall t hm)⟩)
  ajv.symm
end Go.Proofs.YtnegekppaoedgaaGreatDoor.gateReads

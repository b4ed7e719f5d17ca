/-
The law TopTenants of the given program: for every input the call returns true, and each argument reads afterwards as it read before. No condition.
-/
import Derived.Test.YtmgcnoigihdhpaaGreatDoorRows
import Derived.Test.YtmgcnoigihdhpaaGreatDoorQ20
import Derived.WalkKit
import Derived.ProofKit
import Derived.OpenShut
import Derived.SevenTiedAt
import Derived.Test.YtmgcnoigihdhpaaGreatDoorWrap
import Derived.Test.YtmgcnoigihdhpaaGreatDoorCards
import Derived.Test.YtmgcnoigihdhpaaGreatDoorQ21
import Derived.Test.YtmgcnoigihdhpaaGreatDoorJA
namespace Go.Proofs.YtmgcnoigihdhpaaGreatDoor.topTenants
open Go.ChangeShapes Go.WideShapes Go.ChangeAt Go.RowKit
theorem own:ownKnob Tryz.prog.godebug=none:=by kernel_rfl
theorem laidOut:laidOutB Tryz.prog=true:=by kernel_rfl
section
variable {H : Type} {enc : TypeId × Value → H} {W : World}
theorem readsD_linguaref38_Op:ReadsD enc Tryz.prog W 34 linguaref38_Op.enc linguaref38_Op.Q:=by
 intro fuel cs x h
 obtain ⟨n,hF,hl⟩:=fieldsD_of Tryz.underlying34 h
 have hl:cs.length=4:=hl.trans (by kernel_rfl)
 obtain ⟨y0,c0,q0,hF⟩:=fieldsD_cons (readsD_int Tryz.underlying3) hF (z:=1) (by kernel_rfl)
 obtain ⟨y1,c1,q1,hF⟩:=fieldsD_cons (readsD_int Tryz.underlying3) hF (z:=1) (by kernel_rfl)
 obtain ⟨y2,c2,q2,hF⟩:=fieldsD_cons (readsD_int Tryz.underlying3) hF (z:=1) (by kernel_rfl)
 obtain ⟨y3,c3,q3,hF⟩:=fieldsD_cons (readsD_string Tryz.underlying9) hF (z:=1) (by kernel_rfl)
 exact ⟨⟨y0,y1,y2,y3⟩,(cellsD_step c0 rfl (cellsD_step c1 rfl (cellsD_step c2 rfl (cellsD_step c3 rfl (cellsD_end hl))))),⟨q0,q1,q2,q3⟩⟩
theorem readsD_api_Change:ReadsD enc Tryz.prog W 93 api_Change.enc api_Change.Q:=by
 intro fuel cs x h
 obtain ⟨n,hF,hl⟩:=fieldsD_of Tryz.underlying93 h
 have hl:cs.length=3:=hl.trans (by kernel_rfl)
 obtain ⟨y0,c0,q0,hF⟩:=fieldsD_cons (readsD_string Tryz.underlying9) hF (z:=1) (by kernel_rfl)
 obtain ⟨y1,c1,q1,hF⟩:=fieldsD_cons (readsD_string Tryz.underlying9) hF (z:=1) (by kernel_rfl)
 obtain ⟨y2,c2,q2,hF⟩:=fieldsD_cons (readsD_int Tryz.underlying3) hF (z:=1) (by kernel_rfl)
 exact ⟨⟨y0,y1,y2⟩,(cellsD_step c0 rfl (cellsD_step c1 rfl (cellsD_step c2 rfl (cellsD_end hl)))),⟨q0,q1,q2⟩⟩
theorem readsD_api_Profile:ReadsD enc Tryz.prog W 26 api_Profile.enc api_Profile.Q:=by
 intro fuel cs x h
 obtain ⟨n,hF,hl⟩:=fieldsD_of Tryz.underlying26 h
 have hl:cs.length=22:=hl.trans (by kernel_rfl)
 obtain ⟨y0,c0,q0,hF⟩:=fieldsD_cons (readsD_string Tryz.underlying9) hF (z:=1) (by kernel_rfl)
 obtain ⟨y1,c1,q1,hF⟩:=fieldsD_cons (readsD_int Tryz.underlying3) hF (z:=1) (by kernel_rfl)
 obtain ⟨y2,c2,q2,hF⟩:=fieldsD_cons (readsD_int Tryz.underlying3) hF (z:=1) (by kernel_rfl)
 obtain ⟨y3,c3,q3,hF⟩:=fieldsD_cons (readsD_int Tryz.underlying3) hF (z:=1) (by kernel_rfl)
 obtain ⟨y4,c4,q4,hF⟩:=fieldsD_cons (readsD_bool Tryz.underlying4) hF (z:=1) (by kernel_rfl)
 obtain ⟨y5,c5,q5,hF⟩:=fieldsD_cons (readsD_int Tryz.underlying3) hF (z:=1) (by kernel_rfl)
 obtain ⟨y6,c6,q6,hF⟩:=fieldsD_cons (readsD_bool Tryz.underlying4) hF (z:=1) (by kernel_rfl)
 obtain ⟨y7,c7,q7,hF⟩:=fieldsD_cons (readsD_bool Tryz.underlying4) hF (z:=1) (by kernel_rfl)
 obtain ⟨y8,c8,q8,hF⟩:=fieldsD_cons (readsD_int Tryz.underlying3) hF (z:=1) (by kernel_rfl)
 obtain ⟨y9,c9,q9,hF⟩:=fieldsD_cons (readsD_int Tryz.underlying3) hF (z:=1) (by kernel_rfl)
 obtain ⟨y10,c10,q10,hF⟩:=fieldsD_cons (readsD_int Tryz.underlying3) hF (z:=1) (by kernel_rfl)
 obtain ⟨y11,c11,q11,hF⟩:=fieldsD_cons (readsD_int Tryz.underlying3) hF (z:=1) (by kernel_rfl)
 obtain ⟨y12,c12,q12,hF⟩:=fieldsD_cons (readsD_slice Tryz.underlying24 (sz:=1) (by kernel_rfl) (by decide) (fun _=> rfl) (readsD_string Tryz.underlying9)) hF (z:=1) (by kernel_rfl)
 obtain ⟨y13,c13,q13,hF⟩:=fieldsD_cons (readsD_int Tryz.underlying3) hF (z:=1) (by kernel_rfl)
 obtain ⟨y14,c14,q14,hF⟩:=fieldsD_cons (readsD_int Tryz.underlying3) hF (z:=1) (by kernel_rfl)
 obtain ⟨y15,c15,q15,hF⟩:=fieldsD_cons (readsD_int Tryz.underlying3) hF (z:=1) (by kernel_rfl)
 obtain ⟨y16,c16,q16,hF⟩:=fieldsD_cons (readsD_int Tryz.underlying3) hF (z:=1) (by kernel_rfl)
 obtain ⟨y17,c17,q17,hF⟩:=fieldsD_cons (readsD_bool Tryz.underlying4) hF (z:=1) (by kernel_rfl)
 obtain ⟨y18,c18,q18,hF⟩:=fieldsD_cons (readsD_int Tryz.underlying3) hF (z:=1) (by kernel_rfl)
 obtain ⟨y19,c19,q19,hF⟩:=fieldsD_cons (readsD_int Tryz.underlying3) hF (z:=1) (by kernel_rfl)
 obtain ⟨y20,c20,q20,hF⟩:=fieldsD_cons (readsD_int Tryz.underlying3) hF (z:=1) (by kernel_rfl)
 obtain ⟨y21,c21,q21,hF⟩:=fieldsD_cons (readsD_int Tryz.underlying3) hF (z:=1) (by kernel_rfl)
 exact ⟨⟨y0,y1,y2,y3,y4,y5,y6,y7,y8,y9,y10,y11,y12,y13,y14,y15,y16,y17,y18,y19,y20,y21⟩,(cellsD_step c0 rfl (cellsD_step c1 rfl (cellsD_step c2 rfl (cellsD_step c3 rfl (cellsD_step c4 rfl (cellsD_step c5 rfl (cellsD_step c6 rfl (cellsD_step c7 rfl (cellsD_step c8 rfl (cellsD_step c9 rfl (cellsD_step c10 rfl (cellsD_step c11 rfl (cellsD_step c12 rfl (cellsD_step c13 rfl (cellsD_step c14 rfl (cellsD_step c15 rfl (cellsD_step c16 rfl (cellsD_step c17 rfl (cellsD_step c18 rfl (cellsD_step c19 rfl (cellsD_step c20 rfl (cellsD_step c21 rfl (cellsD_end hl))))))))))))))))))))))),⟨q0,q1,q2,q3,q4,q5,q6,q7,q8,q9,q10,q11,q12,q13,q14,q15,q16,q17,q18,q19,q20,q21⟩⟩
end
set_option maxRecDepth 100000 in
theorem lifted (os:Os) (started:os.Started) (H:Type) (enc:TypeId×Value→H):
  ReturnsInHanded {} Tryz.checked os 3 .any (fun w args=> (Rows.topTenantsSpec.pre enc Tryz.prog Tryz.f3 [] false w args∧laidMetH Tryz.prog laidL w)∧sizedMet enc Tryz.prog Tryz.f3 (OpenSpec.ofChange Rows.topTenantsSpec) false w args) (Rows.topTenantsSpec.post enc Tryz.prog Tryz.f3 false true false false):=by
 refine returns_shaped (C:=Tryz.checked) (X:=fun w _=> laidMetH Tryz.prog laidL w) (fun _ _ _ hh h=> h.of_heap hh) own started (by kernel_rfl) Tryz.func3
  (ChangeSpec.witness_shaped (enc:=enc) (C:=Tryz.checked) (os:=os) (X:=fun w _=> laidMetH Tryz.prog laidL w) false (World.doorLaid Tryz.prog 400 os) #[.slice none 0 0,.slice none 0 0,.string ByteArray.empty,.agg #[.string ByteArray.empty,.int .i64 0,.int .i64 0,.int .i64 0,.bool false,.int .i64 0,.bool false,.bool false,.int .i64 0,.int .i64 0,.int .i64 0,.int .i64 0,.slice none 0 0,.int .i64 0,.int .i64 0,.int .i64 0,.int .i64 0,.bool false,.int .i64 0,.int .i64 0,.int .i64 0,.int .i64 0],.int .i64 0] 8 rfl (World.shaped_of_RefB (by kernel_rfl) (by kernel_rfl)) (by kernel_rfl) (by kernel_rfl) (by kernel_rfl) (door_met os _)) ?_
 intro W base args ds gs before hval0 hW hcnd hL hsh
 have hI:=inv_of hL hsh
 have hval:∀(j:Nat) t v,Tryz.f3.params[j]? =some t→args[j]? =some v→Value.okWide Tryz.prog W .any base t v:=hval0
 have hW':=hW
 obtain ⟨p,q,hA0,hV,rfl,hfz,hnd⟩:=hW
 have hA:DataW.TrodAll enc Tryz.prog W 0 (fun _=> true) true Tryz.f3.params.toList args.toList ds p:=hA0
 have hA1:=hA
 rw [Tryz.params3] at hA hval
 obtain ⟨args⟩:=args
 have hA:DataW.TrodAll enc Tryz.prog W 0 (fun _=> true) true [22,23,9,26,3] args ds p:=hA
 obtain ⟨v0,vs0,d0,ds0,p0,ps0,rfl,rfl,rfl,h0,hA⟩:=trodAll_cons hA
 obtain ⟨v1,vs1,d1,ds1,p1,ps1,rfl,rfl,rfl,h1,hA⟩:=trodAll_cons hA
 obtain ⟨v2,vs2,d2,ds2,p2,ps2,rfl,rfl,rfl,h2,hA⟩:=trodAll_cons hA
 obtain ⟨v3,vs3,d3,ds3,p3,ps3,rfl,rfl,rfl,h3,hA⟩:=trodAll_cons hA
 obtain ⟨v4,vs4,d4,ds4,p4,ps4,rfl,rfl,rfl,h4,hA⟩:=trodAll_cons hA
 obtain ⟨rfl,rfl,rfl⟩:=trodAll_nil hA
 obtain ⟨rfl,rfl⟩:=trodVars_none hV
 obtain ⟨_,_,_,rfl⟩:=okWide_slice Tryz.underlying22 (hval 0 22 v0 rfl rfl)
 obtain ⟨a0,r0,w0⟩:=argD_one (f:=fun y=> .fz (List.map linguaref38_Op.enc y)) (readsD_slice Tryz.underlying22 (sz:=4) (by kernel_rfl) (by decide) (fun _=> rfl) readsD_linguaref38_Op) rfl h0
 obtain ⟨_,_,_,rfl⟩:=okWide_slice Tryz.underlying23 (hval 1 23 v1 rfl rfl)
 obtain ⟨a1,r1,w1⟩:=argD_one (f:=fun y=> .fz (List.map api_Change.enc y)) (readsD_slice Tryz.underlying23 (sz:=3) (by kernel_rfl) (by decide) (fun _=> rfl) readsD_api_Change) rfl h1
 obtain ⟨_,rfl⟩:=okWide_string Tryz.underlying9 (hval 2 9 v2 rfl rfl)
 obtain ⟨a2,r2,w2⟩:=argD_one (f:=fun y=> .v (.string y)) (readsD_string Tryz.underlying9) rfl h2
 obtain ⟨xs3,rfl,_⟩:=okWide_struct Tryz.underlying26 (hval 3 26 v3 rfl rfl)
 obtain ⟨a3,r3,w3⟩:=argD_agg readsD_api_Profile h3
 obtain ⟨_,rfl⟩:=okWide_int Tryz.underlying3 (hval 4 3 v4 rfl rfl)
 obtain ⟨a4,r4,w4⟩:=argD_one (f:=fun y=> .v (.int .i64 y)) (readsD_int Tryz.underlying3) rfl h4
 refine (law_calls a0 w0 a1 a2 a3 a4 hI (RelL.cons (.d r0) (RelL.cons (.d r1) (RelL.cons (.d r2) (RelL.cons r3 (RelL.cons (.d r4) (RelL.nil (cx0 (Old W) W)))))))).mono fun e W' ⟨he,hg⟩=> ?_
 subst he
 exact ⟨_,rfl,post_law laidOut (by rw [Tryz.params3];intro t ht;simp only [List.mem_cons,List.not_mem_nil,or_false] at ht;rcases ht with rfl | rfl | rfl | rfl | rfl <;> exact ⟨by kernel_rfl,of_decide_eq_true (by kernel_rfl)⟩) hW' hA1 (by simp) rfl rfl Tryz.underlying4 rfl rfl rfl hg (ok_one (by kernel_rfl) rfl (okWide_bool_mk Tryz.underlying4 _))⟩
theorem over:Rows.TopTenantsSaid:=
 OpenClaim.holds_of_wide 3 Tryz.f3 rfl rfl rfl rfl rfl rfl rfl ⟨rfl,rfl,rfl,rfl,rfl⟩ rfl rfl rfl rfl rfl (by kernel_rfl) Tryz.func3 rowFacts
  (of_decide_eq_true (by kernel_rfl)) (by unfold Func.isWrapper;first | (rw [if_pos (by decide +kernel)];kernel_rfl) | (rw [if_neg (by decide +kernel)];exact ⟨rfl,rfl⟩))
  (fun os started H enc _=> lifted os started H enc)
theorem proved:Rows.TopTenantsCardSaid:=
 Claim7.holds_tied_plain_at .later [] [.data,.data,.data,.sentinel,.sentinel] true (true, "7fe936261651e4311d225fff2ce38f2e162fde45d44fc59fcae112742642fd3e") true
  over (fun _ h=> by cases h) (by kernel_rfl) (fun _ h=> by cases h) own_row_tie rfl ⟨rfl,rfl⟩ (by kernel_rfl) rfl
  (fun f fn hf hfn=> by
   obtain rfl:f=3:=Option.some.inj ((show Tryz.prog.funcNamed "lingua/linguatop.TopTenants" =some 3 by kernel_rfl).symm.trans hf) |>.symm
   obtain rfl:fn=Tryz.f3:=(Option.some.inj (Tryz.func3.symm.trans hfn)).symm
   exact ⟨by kernel_rfl,fun j t ht=> by
    rw [Tryz.params3] at ht
    have hm:t∈ [22,23,9,26,3]:=by simpa using Array.mem_of_getElem? ht
    have hall:([22,23,9,26,3].all fun u=> !Tryz.prog.wantsStandIn u)=true:=by kernel_rfl
    exact (show Tryz.prog.wantsStandIn t=false by simpa using List.all_eq_true.1 hall t hm)⟩)
  goesNo.symm
end Go.Proofs.YtmgcnoigihdhpaaGreatDoor.topTenants

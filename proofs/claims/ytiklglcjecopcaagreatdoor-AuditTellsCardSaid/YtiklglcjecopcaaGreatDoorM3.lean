/-
  The law AuditTells of the given program: for every input the call returns true, and each argument reads afterwards as it read before. No condition.
-/
import Derived.Test.YtiklglcjecopcaaGreatDoorRows
import Derived.Test.YtiklglcjecopcaaGreatDoorQ26
import Derived.Test.YtiklglcjecopcaaGreatDoorQ16
import Derived.WalkKit
import Derived.ProofKit
import Derived.OpenShut
import Derived.SevenTiedAt
import Derived.Test.YtiklglcjecopcaaGreatDoorWrap
import Derived.Test.YtiklglcjecopcaaGreatDoorCards
import Derived.Test.YtiklglcjecopcaaGreatDoorQ27
import Derived.Test.YtiklglcjecopcaaGreatDoorJA
namespace Go.Proofs.YtiklglcjecopcaaGreatDoor.auditTells
open Go.ChangeShapes Go.WideShapes Go.ChangeAt Go.RowKit
theorem own:ownKnob Tryz.prog.godebug=none:=by kernel_rfl
theorem laidOut:laidOutB Tryz.prog=true:=laidP
section
variable {H : Type} {enc : TypeId × Value → H} {W : World}
theorem readsD_api_Raw:ReadsD enc Tryz.prog W 51 api_Raw.enc api_Raw.Q:=by
 intro fuel cs x h
 obtain ⟨n,hF,hl⟩:=fieldsD_of Tryz.underlying51 h
 have hl:cs.length=10:=hl.trans (by kernel_rfl)
 obtain ⟨y0,c0,q0,hF⟩:=fieldsD_cons (readsD_int Tryz.underlying3) hF (z:=1) (by kernel_rfl)
 obtain ⟨y1,c1,q1,hF⟩:=fieldsD_cons (readsD_int Tryz.underlying3) hF (z:=1) (by kernel_rfl)
 obtain ⟨y2,c2,q2,hF⟩:=fieldsD_cons (readsD_int Tryz.underlying3) hF (z:=1) (by kernel_rfl)
 obtain ⟨y3,c3,q3,hF⟩:=fieldsD_cons (readsD_int Tryz.underlying3) hF (z:=1) (by kernel_rfl)
 obtain ⟨y4,c4,q4,hF⟩:=fieldsD_cons (readsD_int Tryz.underlying3) hF (z:=1) (by kernel_rfl)
 obtain ⟨y5,c5,q5,hF⟩:=fieldsD_cons (readsD_int Tryz.underlying3) hF (z:=1) (by kernel_rfl)
 obtain ⟨y6,c6,q6,hF⟩:=fieldsD_cons (readsD_int Tryz.underlying3) hF (z:=1) (by kernel_rfl)
 obtain ⟨y7,c7,q7,hF⟩:=fieldsD_cons (readsD_int Tryz.underlying3) hF (z:=1) (by kernel_rfl)
 obtain ⟨y8,c8,q8,hF⟩:=fieldsD_cons (readsD_string Tryz.underlying9) hF (z:=1) (by kernel_rfl)
 obtain ⟨y9,c9,q9,hF⟩:=fieldsD_cons (readsD_slice Tryz.underlying44 (sz:=1) (by kernel_rfl) (by decide) (fun _=> rfl) (readsD_int Tryz.underlying3)) hF (z:=1) (by kernel_rfl)
 exact ⟨⟨y0,y1,y2,y3,y4,y5,y6,y7,y8,y9⟩,(cellsD_step c0 rfl (cellsD_step c1 rfl (cellsD_step c2 rfl (cellsD_step c3 rfl (cellsD_step c4 rfl (cellsD_step c5 rfl (cellsD_step c6 rfl (cellsD_step c7 rfl (cellsD_step c8 rfl (cellsD_step c9 rfl (cellsD_end hl))))))))))),⟨q0,q1,q2,q3,q4,q5,q6,q7,q8,q9⟩⟩
theorem readsD_api_Note:ReadsD enc Tryz.prog W 53 api_Note.enc api_Note.Q:=by
 intro fuel cs x h
 obtain ⟨n,hF,hl⟩:=fieldsD_of Tryz.underlying53 h
 have hl:cs.length=5:=hl.trans (by kernel_rfl)
 obtain ⟨y0,c0,q0,hF⟩:=fieldsD_cons (readsD_int Tryz.underlying3) hF (z:=1) (by kernel_rfl)
 obtain ⟨y1,c1,q1,hF⟩:=fieldsD_cons (readsD_int Tryz.underlying3) hF (z:=1) (by kernel_rfl)
 obtain ⟨y2,c2,q2,hF⟩:=fieldsD_cons (readsD_int Tryz.underlying3) hF (z:=1) (by kernel_rfl)
 obtain ⟨y3,c3,q3,hF⟩:=fieldsD_cons (readsD_int Tryz.underlying3) hF (z:=1) (by kernel_rfl)
 obtain ⟨y4,c4,q4,hF⟩:=fieldsD_cons (readsD_bool Tryz.underlying4) hF (z:=1) (by kernel_rfl)
 exact ⟨⟨y0,y1,y2,y3,y4⟩,(cellsD_step c0 rfl (cellsD_step c1 rfl (cellsD_step c2 rfl (cellsD_step c3 rfl (cellsD_step c4 rfl (cellsD_end hl)))))),⟨q0,q1,q2,q3,q4⟩⟩
theorem readsD_api_Proof:ReadsD enc Tryz.prog W 55 api_Proof.enc api_Proof.Q:=by
 intro fuel cs x h
 obtain ⟨n,hF,hl⟩:=fieldsD_of Tryz.underlying55 h
 have hl:cs.length=3:=hl.trans (by kernel_rfl)
 obtain ⟨y0,c0,q0,hF⟩:=fieldsD_cons (readsD_int Tryz.underlying3) hF (z:=1) (by kernel_rfl)
 obtain ⟨y1,c1,q1,hF⟩:=fieldsD_cons (readsD_int Tryz.underlying3) hF (z:=1) (by kernel_rfl)
 obtain ⟨y2,c2,q2,hF⟩:=fieldsD_cons (readsD_int Tryz.underlying3) hF (z:=1) (by kernel_rfl)
 exact ⟨⟨y0,y1,y2⟩,(cellsD_step c0 rfl (cellsD_step c1 rfl (cellsD_step c2 rfl (cellsD_end hl)))),⟨q0,q1,q2⟩⟩
theorem readsD_api_Verdict:ReadsD enc Tryz.prog W 57 api_Verdict.enc api_Verdict.Q:=by
 intro fuel cs x h
 obtain ⟨n,hF,hl⟩:=fieldsD_of Tryz.underlying57 h
 have hl:cs.length=3:=hl.trans (by kernel_rfl)
 obtain ⟨y0,c0,q0,hF⟩:=fieldsD_cons (readsD_int Tryz.underlying3) hF (z:=1) (by kernel_rfl)
 obtain ⟨y1,c1,q1,hF⟩:=fieldsD_cons (readsD_int Tryz.underlying3) hF (z:=1) (by kernel_rfl)
 obtain ⟨y2,c2,q2,hF⟩:=fieldsD_cons (readsD_bool Tryz.underlying4) hF (z:=1) (by kernel_rfl)
 exact ⟨⟨y0,y1,y2⟩,(cellsD_step c0 rfl (cellsD_step c1 rfl (cellsD_step c2 rfl (cellsD_end hl)))),⟨q0,q1,q2⟩⟩
theorem readsD_api_Hold:ReadsD enc Tryz.prog W 59 api_Hold.enc api_Hold.Q:=by
 intro fuel cs x h
 obtain ⟨n,hF,hl⟩:=fieldsD_of Tryz.underlying59 h
 have hl:cs.length=4:=hl.trans (by kernel_rfl)
 obtain ⟨y0,c0,q0,hF⟩:=fieldsD_cons (readsD_int Tryz.underlying3) hF (z:=1) (by kernel_rfl)
 obtain ⟨y1,c1,q1,hF⟩:=fieldsD_cons (readsD_int Tryz.underlying3) hF (z:=1) (by kernel_rfl)
 obtain ⟨y2,c2,q2,hF⟩:=fieldsD_cons (readsD_int Tryz.underlying3) hF (z:=1) (by kernel_rfl)
 obtain ⟨y3,c3,q3,hF⟩:=fieldsD_cons (readsD_int Tryz.underlying3) hF (z:=1) (by kernel_rfl)
 exact ⟨⟨y0,y1,y2,y3⟩,(cellsD_step c0 rfl (cellsD_step c1 rfl (cellsD_step c2 rfl (cellsD_step c3 rfl (cellsD_end hl))))),⟨q0,q1,q2,q3⟩⟩
theorem readsD_api_Order:ReadsD enc Tryz.prog W 61 api_Order.enc api_Order.Q:=by
 intro fuel cs x h
 obtain ⟨n,hF,hl⟩:=fieldsD_of Tryz.underlying61 h
 have hl:cs.length=4:=hl.trans (by kernel_rfl)
 obtain ⟨y0,c0,q0,hF⟩:=fieldsD_cons (readsD_int Tryz.underlying3) hF (z:=1) (by kernel_rfl)
 obtain ⟨y1,c1,q1,hF⟩:=fieldsD_cons (readsD_int Tryz.underlying3) hF (z:=1) (by kernel_rfl)
 obtain ⟨y2,c2,q2,hF⟩:=fieldsD_cons (readsD_int Tryz.underlying3) hF (z:=1) (by kernel_rfl)
 obtain ⟨y3,c3,q3,hF⟩:=fieldsD_cons (readsD_int Tryz.underlying3) hF (z:=1) (by kernel_rfl)
 exact ⟨⟨y0,y1,y2,y3⟩,(cellsD_step c0 rfl (cellsD_step c1 rfl (cellsD_step c2 rfl (cellsD_step c3 rfl (cellsD_end hl))))),⟨q0,q1,q2,q3⟩⟩
theorem readsD_api_Input:ReadsD enc Tryz.prog W 64 api_Input.enc api_Input.Q:=by
 intro fuel cs x h
 obtain ⟨n,hF,hl⟩:=fieldsD_of Tryz.underlying64 h
 have hl:cs.length=35:=hl.trans (by kernel_rfl)
 obtain ⟨y0,c0,q0,hF⟩:=fieldsD_cons (readsD_int Tryz.underlying3) hF (z:=1) (by kernel_rfl)
 obtain ⟨y1,c1,q1,hF⟩:=fieldsD_cons (readsD_int Tryz.underlying3) hF (z:=1) (by kernel_rfl)
 obtain ⟨y2,c2,q2,hF⟩:=fieldsD_cons (readsD_int Tryz.underlying3) hF (z:=1) (by kernel_rfl)
 obtain ⟨y3,c3,q3,hF⟩:=fieldsD_cons (readsD_int Tryz.underlying3) hF (z:=1) (by kernel_rfl)
 obtain ⟨y4,c4,q4,hF⟩:=fieldsD_cons (readsD_int Tryz.underlying3) hF (z:=1) (by kernel_rfl)
 obtain ⟨y5,c5,q5,hF⟩:=fieldsD_cons readsD_api_Raw hF (z:=10) (by kernel_rfl)
 obtain ⟨y6,c6,q6,hF⟩:=fieldsD_cons readsD_api_Note hF (z:=5) (by kernel_rfl)
 obtain ⟨y7,c7,q7,hF⟩:=fieldsD_cons readsD_api_Proof hF (z:=3) (by kernel_rfl)
 obtain ⟨y8,c8,q8,hF⟩:=fieldsD_cons readsD_api_Verdict hF (z:=3) (by kernel_rfl)
 obtain ⟨y9,c9,q9,hF⟩:=fieldsD_cons readsD_api_Hold hF (z:=4) (by kernel_rfl)
 obtain ⟨y10,c10,q10,hF⟩:=fieldsD_cons readsD_api_Order hF (z:=4) (by kernel_rfl)
 obtain ⟨y11,c11,q11,hF⟩:=fieldsD_cons (readsD_slice Tryz.underlying62 (sz:=1) (by kernel_rfl) (by decide) (fun _=> rfl) (readsD_bool Tryz.underlying4)) hF (z:=1) (by kernel_rfl)
 exact ⟨⟨y0,y1,y2,y3,y4,y5,y6,y7,y8,y9,y10,y11⟩,(cellsD_step c0 rfl (cellsD_step c1 rfl (cellsD_step c2 rfl (cellsD_step c3 rfl (cellsD_step c4 rfl (cellsD_step c5 rfl (cellsD_step c6 rfl (cellsD_step c7 rfl (cellsD_step c8 rfl (cellsD_step c9 rfl (cellsD_step c10 rfl (cellsD_step c11 rfl (cellsD_end hl))))))))))))),⟨q0,q1,q2,q3,q4,q5,q6,q7,q8,q9,q10,q11⟩⟩
theorem readsD_api_Item:ReadsD enc Tryz.prog W 46 api_Item.enc api_Item.Q:=by
 intro fuel cs x h
 obtain ⟨n,hF,hl⟩:=fieldsD_of Tryz.underlying46 h
 have hl:cs.length=11:=hl.trans (by kernel_rfl)
 obtain ⟨y0,c0,q0,hF⟩:=fieldsD_cons (readsD_int Tryz.underlying3) hF (z:=1) (by kernel_rfl)
 obtain ⟨y1,c1,q1,hF⟩:=fieldsD_cons (readsD_int Tryz.underlying3) hF (z:=1) (by kernel_rfl)
 obtain ⟨y2,c2,q2,hF⟩:=fieldsD_cons (readsD_int Tryz.underlying3) hF (z:=1) (by kernel_rfl)
 obtain ⟨y3,c3,q3,hF⟩:=fieldsD_cons (readsD_int Tryz.underlying3) hF (z:=1) (by kernel_rfl)
 obtain ⟨y4,c4,q4,hF⟩:=fieldsD_cons (readsD_int Tryz.underlying3) hF (z:=1) (by kernel_rfl)
 obtain ⟨y5,c5,q5,hF⟩:=fieldsD_cons (readsD_int Tryz.underlying3) hF (z:=1) (by kernel_rfl)
 obtain ⟨y6,c6,q6,hF⟩:=fieldsD_cons (readsD_int Tryz.underlying3) hF (z:=1) (by kernel_rfl)
 obtain ⟨y7,c7,q7,hF⟩:=fieldsD_cons (readsD_int Tryz.underlying3) hF (z:=1) (by kernel_rfl)
 obtain ⟨y8,c8,q8,hF⟩:=fieldsD_cons (readsD_int Tryz.underlying3) hF (z:=1) (by kernel_rfl)
 obtain ⟨y9,c9,q9,hF⟩:=fieldsD_cons (readsD_string Tryz.underlying9) hF (z:=1) (by kernel_rfl)
 obtain ⟨y10,c10,q10,hF⟩:=fieldsD_cons (readsD_slice Tryz.underlying44 (sz:=1) (by kernel_rfl) (by decide) (fun _=> rfl) (readsD_int Tryz.underlying3)) hF (z:=1) (by kernel_rfl)
 exact ⟨⟨y0,y1,y2,y3,y4,y5,y6,y7,y8,y9,y10⟩,(cellsD_step c0 rfl (cellsD_step c1 rfl (cellsD_step c2 rfl (cellsD_step c3 rfl (cellsD_step c4 rfl (cellsD_step c5 rfl (cellsD_step c6 rfl (cellsD_step c7 rfl (cellsD_step c8 rfl (cellsD_step c9 rfl (cellsD_step c10 rfl (cellsD_end hl)))))))))))),⟨q0,q1,q2,q3,q4,q5,q6,q7,q8,q9,q10⟩⟩
theorem readsD_api_Out:ReadsD enc Tryz.prog W 48 api_Out.enc api_Out.Q:=by
 intro fuel cs x h
 obtain ⟨n,hF,hl⟩:=fieldsD_of Tryz.underlying48 h
 have hl:cs.length=14:=hl.trans (by kernel_rfl)
 obtain ⟨y0,c0,q0,hF⟩:=fieldsD_cons (readsD_int Tryz.underlying3) hF (z:=1) (by kernel_rfl)
 obtain ⟨y1,c1,q1,hF⟩:=fieldsD_cons (readsD_int Tryz.underlying3) hF (z:=1) (by kernel_rfl)
 obtain ⟨y2,c2,q2,hF⟩:=fieldsD_cons (readsD_int Tryz.underlying3) hF (z:=1) (by kernel_rfl)
 obtain ⟨y3,c3,q3,hF⟩:=fieldsD_cons readsD_api_Item hF (z:=11) (by kernel_rfl)
 exact ⟨⟨y0,y1,y2,y3⟩,(cellsD_step c0 rfl (cellsD_step c1 rfl (cellsD_step c2 rfl (cellsD_step c3 rfl (cellsD_end hl))))),⟨q0,q1,q2,q3⟩⟩
theorem readsD_api_Event:ReadsD enc Tryz.prog W 69 api_Event.enc api_Event.Q:=by
 intro fuel cs x h
 obtain ⟨n,hF,hl⟩:=fieldsD_of Tryz.underlying69 h
 have hl:cs.length=12:=hl.trans (by kernel_rfl)
 obtain ⟨y0,c0,q0,hF⟩:=fieldsD_cons (readsD_int Tryz.underlying3) hF (z:=1) (by kernel_rfl)
 obtain ⟨y1,c1,q1,hF⟩:=fieldsD_cons (readsD_int Tryz.underlying3) hF (z:=1) (by kernel_rfl)
 obtain ⟨y2,c2,q2,hF⟩:=fieldsD_cons (readsD_slice Tryz.underlying44 (sz:=1) (by kernel_rfl) (by decide) (fun _=> rfl) (readsD_int Tryz.underlying3)) hF (z:=1) (by kernel_rfl)
 obtain ⟨y3,c3,q3,hF⟩:=fieldsD_cons (readsD_int Tryz.underlying3) hF (z:=1) (by kernel_rfl)
 obtain ⟨y4,c4,q4,hF⟩:=fieldsD_cons (readsD_int Tryz.underlying3) hF (z:=1) (by kernel_rfl)
 obtain ⟨y5,c5,q5,hF⟩:=fieldsD_cons (readsD_int Tryz.underlying3) hF (z:=1) (by kernel_rfl)
 obtain ⟨y6,c6,q6,hF⟩:=fieldsD_cons (readsD_int Tryz.underlying3) hF (z:=1) (by kernel_rfl)
 obtain ⟨y7,c7,q7,hF⟩:=fieldsD_cons (readsD_int Tryz.underlying3) hF (z:=1) (by kernel_rfl)
 obtain ⟨y8,c8,q8,hF⟩:=fieldsD_cons (readsD_int Tryz.underlying3) hF (z:=1) (by kernel_rfl)
 obtain ⟨y9,c9,q9,hF⟩:=fieldsD_cons (readsD_string Tryz.underlying9) hF (z:=1) (by kernel_rfl)
 obtain ⟨y10,c10,q10,hF⟩:=fieldsD_cons (readsD_slice Tryz.underlying44 (sz:=1) (by kernel_rfl) (by decide) (fun _=> rfl) (readsD_int Tryz.underlying3)) hF (z:=1) (by kernel_rfl)
 obtain ⟨y11,c11,q11,hF⟩:=fieldsD_cons (readsD_int Tryz.underlying3) hF (z:=1) (by kernel_rfl)
 exact ⟨⟨y0,y1,y2,y3,y4,y5,y6,y7,y8,y9,y10,y11⟩,(cellsD_step c0 rfl (cellsD_step c1 rfl (cellsD_step c2 rfl (cellsD_step c3 rfl (cellsD_step c4 rfl (cellsD_step c5 rfl (cellsD_step c6 rfl (cellsD_step c7 rfl (cellsD_step c8 rfl (cellsD_step c9 rfl (cellsD_step c10 rfl (cellsD_step c11 rfl (cellsD_end hl))))))))))))),⟨q0,q1,q2,q3,q4,q5,q6,q7,q8,q9,q10,q11⟩⟩
theorem readsD_api_Debt:ReadsD enc Tryz.prog W 67 api_Debt.enc api_Debt.Q:=by
 intro fuel cs x h
 obtain ⟨n,hF,hl⟩:=fieldsD_of Tryz.underlying67 h
 have hl:cs.length=2:=hl.trans (by kernel_rfl)
 obtain ⟨y0,c0,q0,hF⟩:=fieldsD_cons (readsD_int Tryz.underlying3) hF (z:=1) (by kernel_rfl)
 obtain ⟨y1,c1,q1,hF⟩:=fieldsD_cons (readsD_int Tryz.underlying3) hF (z:=1) (by kernel_rfl)
 exact ⟨⟨y0,y1⟩,(cellsD_step c0 rfl (cellsD_step c1 rfl (cellsD_end hl))),⟨q0,q1⟩⟩
end
set_option maxRecDepth 100000 in
theorem lifted (os:Os) (started:os.Started) (H:Type) (enc:TypeId×Value→H):
  ReturnsInHanded {} Tryz.checked os 3 .any (fun w args=> (Rows.auditTellsSpec.pre enc Tryz.prog Tryz.f3 [] false w args∧laidMetH Tryz.prog laidL w)∧sizedMet enc Tryz.prog Tryz.f3 (OpenSpec.ofChange Rows.auditTellsSpec) false w args) (Rows.auditTellsSpec.post enc Tryz.prog Tryz.f3 false true false false):=by
 refine returns_shaped (C:=Tryz.checked) (X:=fun w _=> laidMetH Tryz.prog laidL w) (fun _ _ _ hh h=> h.of_heap hh) own started (by kernel_rfl) Tryz.func3
  (ChangeSpec.witness_shaped (enc:=enc) (C:=Tryz.checked) (os:=os) (X:=fun w _=> laidMetH Tryz.prog laidL w) false (World.doorLaid Tryz.prog 400 os) #[.slice none 0 0,.slice none 0 0,.slice none 0 0,.slice none 0 0] 8 rfl (World.shaped_of_RefB (by kernel_rfl) (by kernel_rfl)) (by kernel_rfl) (by kernel_rfl) (by kernel_rfl) (door_met os _)) ?_
 intro W base args ds gs before hval0 hW hcnd hL hsh
 have hI:=inv_of hL
 have hval:∀(j:Nat) t v,Tryz.f3.params[j]? =some t→args[j]? =some v→Value.okWide Tryz.prog W .any base t v:=hval0
 have hW':=hW
 obtain ⟨p,q,hA0,hV,rfl,hfz,hnd⟩:=hW
 have hA:DataW.TrodAll enc Tryz.prog W 0 (fun _=> true) true Tryz.f3.params.toList args.toList ds p:=hA0
 have hA1:=hA
 rw [Tryz.params3] at hA hval
 obtain ⟨args⟩:=args
 have hA:DataW.TrodAll enc Tryz.prog W 0 (fun _=> true) true [22,23,24,25] args ds p:=hA
 obtain ⟨v0,vs0,d0,ds0,p0,ps0,rfl,rfl,rfl,h0,hA⟩:=trodAll_cons hA
 obtain ⟨v1,vs1,d1,ds1,p1,ps1,rfl,rfl,rfl,h1,hA⟩:=trodAll_cons hA
 obtain ⟨v2,vs2,d2,ds2,p2,ps2,rfl,rfl,rfl,h2,hA⟩:=trodAll_cons hA
 obtain ⟨v3,vs3,d3,ds3,p3,ps3,rfl,rfl,rfl,h3,hA⟩:=trodAll_cons hA
 obtain ⟨rfl,rfl,rfl⟩:=trodAll_nil hA
 obtain ⟨rfl,rfl⟩:=trodVars_none hV
 obtain ⟨_,_,_,rfl⟩:=okWide_slice Tryz.underlying22 (hval 0 22 v0 rfl rfl)
 obtain ⟨a0,r0,w0⟩:=argD_one (f:=fun y=> .fz (List.map api_Input.enc y)) (readsD_slice Tryz.underlying22 (sz:=35) (by kernel_rfl) (by decide) (fun _=> rfl) readsD_api_Input) rfl h0
 obtain ⟨_,_,_,rfl⟩:=okWide_slice Tryz.underlying23 (hval 1 23 v1 rfl rfl)
 obtain ⟨a1,r1,w1⟩:=argD_one (f:=fun y=> .fz (List.map (encL api_Out.enc) y)) (readsD_slice Tryz.underlying23 (sz:=1) (by kernel_rfl) (by decide) (fun _=> rfl) (readsD_slice Tryz.underlying49 (sz:=14) (by kernel_rfl) (by decide) (fun _=> rfl) readsD_api_Out)) rfl h1
 obtain ⟨_,_,_,rfl⟩:=okWide_slice Tryz.underlying24 (hval 2 24 v2 rfl rfl)
 obtain ⟨a2,r2,w2⟩:=argD_one (f:=fun y=> .fz (List.map api_Event.enc y)) (readsD_slice Tryz.underlying24 (sz:=12) (by kernel_rfl) (by decide) (fun _=> rfl) readsD_api_Event) rfl h2
 obtain ⟨_,_,_,rfl⟩:=okWide_slice Tryz.underlying25 (hval 3 25 v3 rfl rfl)
 obtain ⟨a3,r3,w3⟩:=argD_one (f:=fun y=> .fz (List.map api_Debt.enc y)) (readsD_slice Tryz.underlying25 (sz:=2) (by kernel_rfl) (by decide) (fun _=> rfl) readsD_api_Debt) rfl h3
 refine (law_end (dr:=False) (law49_AuditTells_fn (law49_AuditTells_true a0 w0 a1 w1 a2 w2 a3 w3)) hI (RelL.cons (.d r0) (RelL.cons (.d r1) (RelL.cons (.d r2) (RelL.cons (.d r3) (RelL.nil (cx0 (Old W) W))))))).mono fun e W' ⟨he,hg⟩=> ?_
 subst he
 exact ⟨_,rfl,post_law laidOut (by rw [Tryz.params3];intro t ht;simp only [List.mem_cons,List.not_mem_nil,or_false] at ht;rcases ht with rfl | rfl | rfl | rfl <;> exact ⟨by kernel_rfl,of_decide_eq_true (by kernel_rfl)⟩) hW' hA1 (by simp) rfl rfl Tryz.underlying4 rfl rfl rfl hg (ok_one (by kernel_rfl) rfl (okWide_bool_mk Tryz.underlying4 _))⟩
theorem over:Rows.AuditTellsSaid:=
 OpenClaim.holds_of_wide 3 Tryz.f3 rfl rfl rfl rfl rfl rfl rfl ⟨rfl,rfl,rfl,rfl,rfl⟩ rfl rfl rfl rfl rfl (by kernel_rfl) Tryz.func3 rowFacts
  (of_decide_eq_true (by kernel_rfl)) (by unfold Func.isWrapper;first | (rw [if_pos (by decide +kernel)];kernel_rfl) | (rw [if_neg (by decide +kernel)];exact ⟨rfl,rfl⟩))
  (fun os started H enc _=> lifted os started H enc)
theorem proved:Rows.AuditTellsCardSaid:=
 Claim7.holds_tied_plain_at .later [] [.data,.data,.data,.sentinel,.sentinel] true (true, "ec326e3c80a67129e920ff26b48f8d41d829e813d45128f236a3ba9687a1b6c3") true
  over (fun _ h=> by cases h) (by kernel_rfl) (fun _ h=> by cases h) own_row_tie rfl ⟨rfl,rfl⟩ (by kernel_rfl) rfl
  (fun f fn hf hfn=> by
   obtain rfl:f=3:=Option.some.inj ((show Tryz.prog.funcNamed "lingua/lingualaw49.AuditTells" =some 3 by kernel_rfl).symm.trans hf) |>.symm
   obtain rfl:fn=Tryz.f3:=(Option.some.inj (Tryz.func3.symm.trans hfn)).symm
   exact ⟨by kernel_rfl,fun j t ht=> by
    rw [Tryz.params3] at ht
    have hm:t∈ [22,23,24,25]:=by simpa using Array.mem_of_getElem? ht
    have hall:([22,23,24,25].all fun u=> !Tryz.prog.wantsStandIn u)=true:=by kernel_rfl
    exact (show Tryz.prog.wantsStandIn t=false by simpa using List.all_eq_true.1 hall t hm)⟩)
  goesNo.symm
end Go.Proofs.YtiklglcjecopcaaGreatDoor.auditTells

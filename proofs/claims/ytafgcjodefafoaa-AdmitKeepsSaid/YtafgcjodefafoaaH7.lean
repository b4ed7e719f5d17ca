/-
  Plain programs of functions, and that the functions do what they say. Printed by wip/tools/gen.py.
-/
import Derived.Test.YtafgcjodefafoaaG3
namespace Go.Proofs.Ytafgcjodefafoaa
open Go.RowKit
attribute [local irreducible] IntKind.wrap
set_option linter.unusedVariables false
set_option maxHeartbeats 4000000
set_option maxRecDepth 100000
noncomputable def law29_AdmitKeeps_L1 (y11 : (List api_Job)) (p2_ : Int) (p3_ : (List Bool)) (p_ : api_Profile) (y6 : (List Int) × Int × Int) (s3 : Int × Int) : Option ((Int × Int) ⊕ ((Unit) ⊕ (Bool))) :=
  (bif (decide (s3.2 < ((y11.length : Nat) : Int))) then
    (chkO (decide (0 ≤ s3.2) && decide (s3.2 < ((y11.length : Nat) : Int)))).bind fun _ =>
    (getI y11 s3.2).bind fun x178 =>
    (bif (decide ((IntKind.i64.wrap (x178.Due - p2_)) < (0 : Int))) then
      some (.inr (.inr false))
    else
      (bif (decide ((p3_.length : Int) < (IntKind.i64.wrap (x178.Due - p2_)))) then
        some (.inl ((IntKind.i64.wrap (s3.1 + x178.Size)), (IntKind.i64.wrap (s3.2 + (1 : Int)))))
      else
        (chkO (cutO (0 : Int) (IntKind.i64.wrap (x178.Due - p2_)) (p3_.length : Int))).bind fun _ =>
        (supply_Allowed p_ (List.drop (0 : Int).toNat (List.take (IntKind.i64.wrap (x178.Due - p2_)).toNat p3_))).bind fun y183 =>
        (bif (!y183) then
          some (.inl ((IntKind.i64.wrap (s3.1 + x178.Size)), (IntKind.i64.wrap (s3.2 + (1 : Int)))))
        else
          (supply_Given p_ (List.drop (0 : Int).toNat (List.take (IntKind.i64.wrap (x178.Due - p2_)).toNat p3_))).bind fun y185 =>
          (bif (y185.2 != (0 : Int)) then
            some (.inr (.inr false))
          else
            (bif (decide (y185.1 < (IntKind.i64.wrap (s3.1 + x178.Size)))) then
              some (.inr (.inr false))
            else
              (chkO (decide (0 ≤ s3.2) && decide (s3.2 < ((y6.1.length : Nat) : Int)))).bind fun _ =>
              (getI y6.1 s3.2).bind fun x190 =>
              (bif (decide (x190 < (0 : Int))) then
                some (.inr (.inr false))
              else
                (bif (decide (y185.1 < (IntKind.i64.wrap ((IntKind.i64.wrap (s3.1 + x178.Size)) + x190)))) then
                  some (.inr (.inr false))
                else
                  some (.inl ((IntKind.i64.wrap (s3.1 + x178.Size)), (IntKind.i64.wrap (s3.2 + (1 : Int))))))))))))
  else
    some (.inr (.inl ())))
noncomputable def law29_AdmitKeeps (p_ : api_Profile) (p1_ : (List api_Job)) (p2_ : Int) (p3_ : (List Bool)) : Option (Bool) :=
  (law29_small).bind fun y1 =>
  (law29_few p_ p1_).bind fun y5 =>
  (bif (!y5) then
    some y1
  else
    (bif (decide ((60 : Int) < (p3_.length : Int))) then
      some y1
    else
      (admit_Plan p_ p1_ p2_).bind fun y6 =>
      (bif (y6.2.2 != (0 : Int)) then
        (bif y1 then
          some (((y6.1.length : Nat) : Int) == (0 : Int))
        else
          some false)
      else
        (bif (((y6.1.length : Nat) : Int) != (p1_.length : Int)) then
          some false
        else
          (profile_Check p_).bind fun y10 =>
          (bif (y10 != (0 : Int)) then
            some false
          else
            (ref29_Order p1_).bind fun y11 =>
            (seqF (A := Unit) (
              loopF (law29_AdmitKeeps_L1 y11 p2_ p3_ p_ y6) ((0 : Int), (0 : Int)))
            fun s2 =>
              some y1))))))
theorem law29_AdmitKeeps_fn {p_ : api_Profile} {p1_ : (List api_Job)} {p2_ : Int} {p3_ : (List Bool)} {r : Bool} (h : law29_AdmitKeeps p_ p1_ p2_ p3_ = some r) : Fn Try.prog 7 [.agg [.d (.v (.string p_.Name)), .d (.v (.int .i64 p_.Edit)), .d (.v (.int .i64 p_.Within)), .d (.v (.int .i64 p_.Delete)), .d (.v (.bool p_.React)), .d (.v (.int .i64 p_.Thread)), .d (.v (.bool p_.Quote)), .d (.v (.bool p_.Mention)), .d (.v (.int .i64 p_.Size)), .d (.v (.int .i64 p_.Parts)), .d (.v (.int .i64 p_.Files)), .d (.v (.int .i64 p_.Bytes)), .d (.fz (List.map encS p_.Types)), .d (.v (.int .i64 p_.Join)), .d (.v (.int .i64 p_.History)), .d (.v (.int .i64 p_.Remove)), .d (.v (.int .i64 p_.Level)), .d (.v (.bool p_.Batch)), .d (.v (.int .i64 p_.Rate)), .d (.v (.int .i64 p_.Down)), .d (.v (.int .i64 p_.Window)), .d (.v (.int .i64 p_.Keep))], .d (.fz (List.map api_Job.enc p1_)), .d (.v (.int .i64 p2_)), .d (.fz (List.map encB p3_))] (.d (.v (.bool r))) := by
  refine Fn.of_AW (F := FnX Try.prog) (base := 0) (js := [23]) mixed tok noeqs (fun _ _ _ h => h) Try.call7 Try.func7 rfl Try.ntmps7 (by rw [Try.results7]) (by simp) ?_
  have hG : (fun x => x = r) r := rfl
  unfold law29_AdmitKeeps at h
  refine A.seq rfl ?_
  refine A.region ?_
  refine R.one rfl ?_
  refine W.det (.lp 4 1 0) (Mem.add _ 4 (.box [.d (.v (.string p_.Name)), .d (.v (.int .i64 p_.Edit)), .d (.v (.int .i64 p_.Within)), .d (.v (.int .i64 p_.Delete)), .d (.v (.bool p_.React)), .d (.v (.int .i64 p_.Thread)), .d (.v (.bool p_.Quote)), .d (.v (.bool p_.Mention)), .d (.v (.int .i64 p_.Size)), .d (.v (.int .i64 p_.Parts)), .d (.v (.int .i64 p_.Files)), .d (.v (.int .i64 p_.Bytes)), .d (.fz (List.map encS p_.Types)), .d (.v (.int .i64 p_.Join)), .d (.v (.int .i64 p_.History)), .d (.v (.int .i64 p_.Remove)), .d (.v (.int .i64 p_.Level)), .d (.v (.bool p_.Batch)), .d (.v (.int .i64 p_.Rate)), .d (.v (.int .i64 p_.Down)), .d (.v (.int .i64 p_.Window)), .d (.v (.int .i64 p_.Keep))])) rfl ?_
  refine R.one rfl ?_
  refine W.det (.kb false) _ rfl ?_
  refine R.nil ?_
  refine seqK.n ?_
  refine A.seq rfl ?_
  refine A.region ?_
  refine R.one rfl ?_
  refine bindK h fun y1 hy1 h => ?_
  refine W.call rfl (law29_small_fn hy1) ?_
  refine W.det (.d (.v (.bool y1))) _ rfl ?_
  refine R.one rfl ?_
  refine W.det (.d (.v (.bool y1))) _ rfl ?_
  refine R.nil ?_
  refine seqK.n ?_
  refine A.seq rfl ?_
  refine A.seq rfl ?_
  refine A.region ?_
  refine R.one rfl ?_
  refine W.det (.agg [.d (.v (.string p_.Name)), .d (.v (.int .i64 p_.Edit)), .d (.v (.int .i64 p_.Within)), .d (.v (.int .i64 p_.Delete)), .d (.v (.bool p_.React)), .d (.v (.int .i64 p_.Thread)), .d (.v (.bool p_.Quote)), .d (.v (.bool p_.Mention)), .d (.v (.int .i64 p_.Size)), .d (.v (.int .i64 p_.Parts)), .d (.v (.int .i64 p_.Files)), .d (.v (.int .i64 p_.Bytes)), .d (.fz (List.map encS p_.Types)), .d (.v (.int .i64 p_.Join)), .d (.v (.int .i64 p_.History)), .d (.v (.int .i64 p_.Remove)), .d (.v (.int .i64 p_.Level)), .d (.v (.bool p_.Batch)), .d (.v (.int .i64 p_.Rate)), .d (.v (.int .i64 p_.Down)), .d (.v (.int .i64 p_.Window)), .d (.v (.int .i64 p_.Keep))]) _ rfl ?_
  refine R.one rfl ?_
  refine W.det (.d (.fz (List.map api_Job.enc p1_))) _ rfl ?_
  refine R.one rfl ?_
  refine bindK h fun y5 hy5 h => ?_
  refine W.call rfl (law29_few_fn hy5) ?_
  refine W.det (.d (.v (.bool y5))) _ rfl ?_
  refine R.one rfl ?_
  refine W.det (.d (.v (.bool (!y5)))) _ rfl ?_
  refine R.one rfl ?_
  refine W.det (.d (.v (.bool (!y5)))) _ rfl ?_
  refine R.gF rfl rfl rfl h (fun _ h => ?_) (fun _ h => ?_)
  · refine R.skip rfl rfl rfl ?_
    refine R.skip rfl rfl rfl ?_
    refine R.one rfl ?_
    refine W.det (.kb true) _ rfl ?_
    refine R.nil ?_
    refine seqK.n ?_
    refine A.condT rfl ?_
    refine A.seq rfl ?_
    refine A.region ?_
    refine R.one rfl ?_
    refine W.det (.d (.v (.bool y1))) _ rfl ?_
    refine R.one rfl ?_
    refine W.det (.d (.v (.bool y1))) _ rfl ?_
    refine R.nil ?_
    refine seqK.n ?_
    refine A.ret ?_
    refine seqK.r ?_
    injection h with h
    subst h
    cases hG
    exact ⟨rfl, trivial⟩
  · refine W.det (.d (.fz (List.map encB p3_))) _ rfl ?_
    refine R.run rfl rfl rfl ?_
    refine W.len rfl ?_
    refine R.run rfl rfl rfl ?_
    refine W.det (.d (.v (.bool (decide ((60 : Int) < (p3_.length : Int)))))) _ rfl ?_
    refine R.one rfl ?_
    refine W.det (.d (.v (.bool (decide ((60 : Int) < (p3_.length : Int)))))) _ rfl ?_
    refine R.nil ?_
    refine seqK.n ?_
    refine A.condB rfl h (fun _ h => ?_) (fun _ h => ?_)
    · refine A.seq rfl ?_
      refine A.region ?_
      refine R.one rfl ?_
      refine W.det (.d (.v (.bool y1))) _ rfl ?_
      refine R.one rfl ?_
      refine W.det (.d (.v (.bool y1))) _ rfl ?_
      refine R.nil ?_
      refine seqK.n ?_
      refine A.ret ?_
      refine seqK.r ?_
      injection h with h
      subst h
      cases hG
      exact ⟨rfl, trivial⟩
    · refine A.skip ?_
      refine seqK.n ?_
      refine A.seq rfl ?_
      refine A.region ?_
      refine R.one rfl ?_
      refine W.det (.agg [.d (.v (.string p_.Name)), .d (.v (.int .i64 p_.Edit)), .d (.v (.int .i64 p_.Within)), .d (.v (.int .i64 p_.Delete)), .d (.v (.bool p_.React)), .d (.v (.int .i64 p_.Thread)), .d (.v (.bool p_.Quote)), .d (.v (.bool p_.Mention)), .d (.v (.int .i64 p_.Size)), .d (.v (.int .i64 p_.Parts)), .d (.v (.int .i64 p_.Files)), .d (.v (.int .i64 p_.Bytes)), .d (.fz (List.map encS p_.Types)), .d (.v (.int .i64 p_.Join)), .d (.v (.int .i64 p_.History)), .d (.v (.int .i64 p_.Remove)), .d (.v (.int .i64 p_.Level)), .d (.v (.bool p_.Batch)), .d (.v (.int .i64 p_.Rate)), .d (.v (.int .i64 p_.Down)), .d (.v (.int .i64 p_.Window)), .d (.v (.int .i64 p_.Keep))]) _ rfl ?_
      refine R.one rfl ?_
      refine W.det (.d (.fz (List.map api_Job.enc p1_))) _ rfl ?_
      refine R.one rfl ?_
      refine W.det (.d (.v (.int .i64 p2_))) _ rfl ?_
      refine R.one rfl ?_
      refine bindK h fun y6 hy6 h => ?_
      refine W.call rfl (admit_Plan_fn hy6) ?_
      refine W.v (.tup [.row 1048610 1 (List.map (encI .i64) y6.1).length, .d (.v (.int .i64 y6.2.1)), .d (.v (.int .i64 y6.2.2))]) (.tup [.row 1048610 1 y6.1.length, .d (.v (.int .i64 y6.2.1)), .d (.v (.int .i64 y6.2.2))]) (Mem.add _ 1048610 (.rows 1 (List.map (encI .i64) y6.1) false)) rfl (by simp only [List.length_map]) ?_
      refine R.one rfl ?_
      refine W.det (.tup [.row 1048610 1 y6.1.length, .d (.v (.int .i64 y6.2.1)), .d (.v (.int .i64 y6.2.2))]) _ rfl ?_
      refine R.one rfl ?_
      refine W.det (.row 1048610 1 y6.1.length) _ rfl ?_
      refine R.one rfl ?_
      refine W.det (.d (.v (.int .i64 y6.2.1))) _ rfl ?_
      refine R.one rfl ?_
      refine W.det (.d (.v (.int .i64 y6.2.2))) _ rfl ?_
      refine R.one rfl ?_
      refine W.det (.row 1048610 1 y6.1.length) _ rfl ?_
      refine R.one rfl ?_
      refine W.det (.d (.v (.int .i64 y6.2.1))) _ rfl ?_
      refine R.one rfl ?_
      refine W.det (.d (.v (.int .i64 y6.2.2))) _ rfl ?_
      refine R.nil ?_
      refine seqK.n ?_
      refine A.seq rfl ?_
      refine A.seq rfl ?_
      refine A.region ?_
      refine R.one rfl ?_
      refine W.det (.d (.v (.int .i64 y6.2.2))) _ rfl ?_
      refine R.one rfl ?_
      refine W.det (.d (.v (.bool (y6.2.2 != (0 : Int))))) _ rfl ?_
      refine R.nil ?_
      refine seqK.n ?_
      refine A.condB rfl h (fun _ h => ?_) (fun _ h => ?_)
      · refine A.seq rfl ?_
        refine A.region ?_
        refine R.one rfl ?_
        refine W.det (.d (.v (.bool y1))) _ rfl ?_
        refine R.one rfl ?_
        refine W.det (.d (.v (.bool y1))) _ rfl ?_
        refine R.gT rfl rfl rfl h (fun _ h => ?_) (fun _ h => ?_)
        · refine W.det (.row 1048610 1 y6.1.length) _ rfl ?_
          refine R.run rfl rfl rfl ?_
          refine W.det (.d (.v (.int .i64 ((y6.1.length : Nat) : Int)))) _ rfl ?_
          refine R.run rfl rfl rfl ?_
          refine W.det (.d (.v (.bool (((y6.1.length : Nat) : Int) == (0 : Int))))) _ rfl ?_
          refine R.one rfl ?_
          refine W.det (.d (.v (.bool (((y6.1.length : Nat) : Int) == (0 : Int))))) _ rfl ?_
          refine R.one rfl ?_
          refine W.det (.d (.v (.bool (((y6.1.length : Nat) : Int) == (0 : Int))))) _ rfl ?_
          refine R.nil ?_
          refine seqK.n ?_
          refine A.ret ?_
          refine seqK.r ?_
          injection h with h
          subst h
          cases hG
          exact ⟨rfl, trivial⟩
        · refine R.skip rfl rfl rfl ?_
          refine R.skip rfl rfl rfl ?_
          refine R.one rfl ?_
          refine W.det (.kb false) _ rfl ?_
          refine R.one rfl ?_
          refine W.det (.kb false) _ rfl ?_
          refine R.nil ?_
          refine seqK.n ?_
          refine A.ret ?_
          refine seqK.r ?_
          injection h with h
          subst h
          cases hG
          exact ⟨rfl, trivial⟩
      · refine A.skip ?_
        refine seqK.n ?_
        refine A.seq rfl ?_
        refine A.seq rfl ?_
        refine A.region ?_
        refine R.one rfl ?_
        refine W.det (.row 1048610 1 y6.1.length) _ rfl ?_
        refine R.one rfl ?_
        refine W.det (.d (.v (.int .i64 ((y6.1.length : Nat) : Int)))) _ rfl ?_
        refine R.one rfl ?_
        refine W.det (.d (.fz (List.map api_Job.enc p1_))) _ rfl ?_
        refine R.one rfl ?_
        refine W.len rfl ?_
        refine R.one rfl ?_
        refine W.det (.d (.v (.bool (((y6.1.length : Nat) : Int) != (p1_.length : Int))))) _ rfl ?_
        refine R.one rfl ?_
        refine W.det (.d (.v (.bool (((y6.1.length : Nat) : Int) != (p1_.length : Int))))) _ rfl ?_
        refine R.gF rfl rfl rfl h (fun _ h => ?_) (fun _ h => ?_)
        · refine R.skip rfl rfl rfl ?_
          refine R.skip rfl rfl rfl ?_
          refine R.one rfl ?_
          refine W.det (.kb true) _ rfl ?_
          refine R.nil ?_
          refine seqK.n ?_
          refine A.condT rfl ?_
          refine A.seq rfl ?_
          refine A.region ?_
          refine R.one rfl ?_
          refine W.det (.kb false) _ rfl ?_
          refine R.nil ?_
          refine seqK.n ?_
          refine A.ret ?_
          refine seqK.r ?_
          injection h with h
          subst h
          cases hG
          exact ⟨rfl, trivial⟩
        · refine W.det (.agg [.d (.v (.string p_.Name)), .d (.v (.int .i64 p_.Edit)), .d (.v (.int .i64 p_.Within)), .d (.v (.int .i64 p_.Delete)), .d (.v (.bool p_.React)), .d (.v (.int .i64 p_.Thread)), .d (.v (.bool p_.Quote)), .d (.v (.bool p_.Mention)), .d (.v (.int .i64 p_.Size)), .d (.v (.int .i64 p_.Parts)), .d (.v (.int .i64 p_.Files)), .d (.v (.int .i64 p_.Bytes)), .d (.fz (List.map encS p_.Types)), .d (.v (.int .i64 p_.Join)), .d (.v (.int .i64 p_.History)), .d (.v (.int .i64 p_.Remove)), .d (.v (.int .i64 p_.Level)), .d (.v (.bool p_.Batch)), .d (.v (.int .i64 p_.Rate)), .d (.v (.int .i64 p_.Down)), .d (.v (.int .i64 p_.Window)), .d (.v (.int .i64 p_.Keep))]) _ rfl ?_
          refine R.run rfl rfl rfl ?_
          refine bindK h fun y10 hy10 h => ?_
          refine W.call rfl (profile_Check_fn hy10) ?_
          refine W.det (.d (.v (.int .i64 y10))) _ rfl ?_
          refine R.run rfl rfl rfl ?_
          refine W.det (.d (.v (.bool (y10 != (0 : Int))))) _ rfl ?_
          refine R.one rfl ?_
          refine W.det (.d (.v (.bool (y10 != (0 : Int))))) _ rfl ?_
          refine R.nil ?_
          refine seqK.n ?_
          refine A.condB rfl h (fun _ h => ?_) (fun _ h => ?_)
          · refine A.seq rfl ?_
            refine A.region ?_
            refine R.one rfl ?_
            refine W.det (.kb false) _ rfl ?_
            refine R.nil ?_
            refine seqK.n ?_
            refine A.ret ?_
            refine seqK.r ?_
            injection h with h
            subst h
            cases hG
            exact ⟨rfl, trivial⟩
          · refine A.skip ?_
            refine seqK.n ?_
            refine A.seq rfl ?_
            refine A.region ?_
            refine R.one rfl ?_
            refine W.det (.d (.fz (List.map api_Job.enc p1_))) _ rfl ?_
            refine R.one rfl ?_
            refine bindK h fun y11 hy11 h => ?_
            refine W.call rfl (ref29_Order_fn hy11) ?_
            refine W.v (.row 57 1 (List.map api_Job.enc y11).length) (.row 57 1 y11.length) (Mem.add _ 57 (.rows 3 (List.map api_Job.enc y11) false)) rfl (by simp only [List.length_map]) ?_
            refine R.one rfl ?_
            refine W.det (.row 57 1 y11.length) _ rfl ?_
            refine R.nil ?_
            refine seqK.n ?_
            refine A.seq rfl ?_
            refine A.region ?_
            refine R.one rfl ?_
            refine W.det (.d (.v (.int .i64 (0 : Int)))) _ rfl ?_
            refine R.nil ?_
            refine seqK.n ?_
            refine A.join (fun (s2 : Unit) => [(9, .d (.v (.bool y1)))]) (fun s2 => []) _ h hG rfl ?_ ?_
            · intro J f h hG
              refine A.seq rfl ?_
              refine A.region ?_
              refine R.one rfl ?_
              refine W.det (.d (.v (.int .i64 (0 : Int)))) _ rfl ?_
              refine R.nil ?_
              refine seqK.n ?_
              refine A.block ?_
              refine A.loop (fun (s3 : Int × Int) => [(2, .d (.v (.int .i64 p2_))), (3, .d (.fz (List.map encB p3_))), (4, .lp 900000 1 0), (9, .d (.v (.bool y1))), (10, .row 900001 1 y6.1.length), (13, .row 900002 1 y11.length), (14, .d (.v (.int .i64 s3.1))), (15, .d (.v (.int .i64 s3.2)))]) (fun s3 => [(900000, .box [.d (.v (.string p_.Name)), .d (.v (.int .i64 p_.Edit)), .d (.v (.int .i64 p_.Within)), .d (.v (.int .i64 p_.Delete)), .d (.v (.bool p_.React)), .d (.v (.int .i64 p_.Thread)), .d (.v (.bool p_.Quote)), .d (.v (.bool p_.Mention)), .d (.v (.int .i64 p_.Size)), .d (.v (.int .i64 p_.Parts)), .d (.v (.int .i64 p_.Files)), .d (.v (.int .i64 p_.Bytes)), .d (.fz (List.map encS p_.Types)), .d (.v (.int .i64 p_.Join)), .d (.v (.int .i64 p_.History)), .d (.v (.int .i64 p_.Remove)), .d (.v (.int .i64 p_.Level)), .d (.v (.bool p_.Batch)), .d (.v (.int .i64 p_.Rate)), .d (.v (.int .i64 p_.Down)), .d (.v (.int .i64 p_.Window)), .d (.v (.int .i64 p_.Keep))]), (900001, .rows 1 (List.map (encI .i64) y6.1) false), (900002, .rows 3 (List.map api_Job.enc y11) false)]) _ h hG (Enters.of [] [(900000, (4, 1)), (900001, (1048610, 1)), (900002, (57, 1))] _ rfl rfl (chkE.c rfl rfl (chkE.c rfl rfl (chkE.c rfl rfl (chkE.c rfl rfl (chkE.c rfl rfl (chkE.c rfl rfl (chkE.c rfl rfl (chkE.c rfl rfl trivial)))))))) (chkM.c rfl rfl (chkM.c rfl rfl (chkM.c rfl rfl trivial)))) ?_
              intro J s3 f h hG
              unfold law29_AdmitKeeps_L1 at h
              refine A.seq rfl ?_
              refine A.seq rfl ?_
              refine A.region ?_
              refine R.one rfl ?_
              refine W.det (.d (.v (.int .i64 s3.2))) _ rfl ?_
              refine R.one rfl ?_
              refine W.det (.row 900002 1 y11.length) _ rfl ?_
              refine R.one rfl ?_
              refine W.det (.d (.v (.int .i64 ((y11.length : Nat) : Int)))) _ rfl ?_
              refine R.one rfl ?_
              refine W.det (.d (.v (.bool (decide (s3.2 < ((y11.length : Nat) : Int)))))) _ rfl ?_
              refine R.nil ?_
              refine seqK.n ?_
              refine A.condB rfl h (fun _ h => ?_) (fun _ h => ?_)
              · refine A.skip ?_
                refine seqK.n ?_
                refine A.seq rfl ?_
                refine A.block ?_
                refine A.seq rfl ?_
                refine A.region ?_
                refine R.one rfl ?_
                refine W.det (.d (.v (.int .i64 s3.1))) _ rfl ?_
                refine R.one rfl ?_
                refine W.det (.row 900002 1 y11.length) _ rfl ?_
                refine R.one rfl ?_
                refine W.det (.d (.v (.int .i64 s3.2))) _ rfl ?_
                refine R.one rfl ?_
                refine chkK h fun g177 h => ?_
                refine W.chk rfl (by simpa using g177) ?_
                refine W.det (.rp 900002 1 s3.2.toNat 0) _ rfl ?_
                refine R.one rfl ?_
                refine W.det (.rp 900002 1 s3.2.toNat 1) _ rfl ?_
                refine R.one rfl ?_
                refine bindK h fun x178 hx178 h => ?_
                refine W.elem rfl (elemG hx178) ?_
                refine W.det (.d (.v (.int .i64 x178.Size))) _ rfl ?_
                refine R.one rfl ?_
                refine W.det (.d (.v (.int .i64 (IntKind.i64.wrap (s3.1 + x178.Size))))) _ rfl ?_
                refine R.one rfl ?_
                refine W.det (.d (.v (.int .i64 (IntKind.i64.wrap (s3.1 + x178.Size))))) _ rfl ?_
                refine R.nil ?_
                refine seqK.n ?_
                refine A.seq rfl ?_
                refine A.region ?_
                refine R.one rfl ?_
                refine W.det (.row 900002 1 y11.length) _ rfl ?_
                refine R.one rfl ?_
                refine W.det (.d (.v (.int .i64 s3.2))) _ rfl ?_
                refine R.one rfl ?_
                refine W.chk rfl (by simpa using g177) ?_
                refine W.det (.rp 900002 1 s3.2.toNat 0) _ rfl ?_
                refine R.one rfl ?_
                refine W.det (.rp 900002 1 s3.2.toNat 2) _ rfl ?_
                refine R.one rfl ?_
                refine W.elem rfl (elemG hx178) ?_
                refine W.det (.d (.v (.int .i64 x178.Due))) _ rfl ?_
                refine R.one rfl ?_
                refine W.det (.d (.v (.int .i64 p2_))) _ rfl ?_
                refine R.one rfl ?_
                refine W.det (.d (.v (.int .i64 (IntKind.i64.wrap (x178.Due - p2_))))) _ rfl ?_
                refine R.one rfl ?_
                refine W.det (.d (.v (.int .i64 (IntKind.i64.wrap (x178.Due - p2_))))) _ rfl ?_
                refine R.nil ?_
                refine seqK.n ?_
                refine A.seq rfl ?_
                refine A.seq rfl ?_
                refine A.region ?_
                refine R.one rfl ?_
                refine W.det (.d (.v (.int .i64 (IntKind.i64.wrap (x178.Due - p2_))))) _ rfl ?_
                refine R.one rfl ?_
                refine W.det (.d (.v (.bool (decide ((IntKind.i64.wrap (x178.Due - p2_)) < (0 : Int)))))) _ rfl ?_
                refine R.nil ?_
                refine seqK.n ?_
                refine A.condB rfl h (fun _ h => ?_) (fun _ h => ?_)
                · refine A.seq rfl ?_
                  refine A.region ?_
                  refine R.one rfl ?_
                  refine W.det (.kb false) _ rfl ?_
                  refine R.nil ?_
                  refine seqK.n ?_
                  refine A.ret ?_
                  refine seqK.r ?_
                  refine blockK.r ?_
                  refine seqK.r ?_
                  refine headK.r ?_
                  refine blockK.r ?_
                  refine headK.r ?_
                  injection h with h
                  subst h
                  cases hG
                  exact ⟨rfl, trivial⟩
                · refine A.skip ?_
                  refine seqK.n ?_
                  refine A.seq rfl ?_
                  refine A.seq rfl ?_
                  refine A.region ?_
                  refine R.one rfl ?_
                  refine W.det (.d (.v (.int .i64 (IntKind.i64.wrap (x178.Due - p2_))))) _ rfl ?_
                  refine R.one rfl ?_
                  refine W.det (.d (.fz (List.map encB p3_))) _ rfl ?_
                  refine R.one rfl ?_
                  refine W.len rfl ?_
                  refine R.one rfl ?_
                  refine W.det (.d (.v (.bool (decide ((p3_.length : Int) < (IntKind.i64.wrap (x178.Due - p2_))))))) _ rfl ?_
                  refine R.nil ?_
                  refine seqK.n ?_
                  refine A.condB rfl h (fun _ h => ?_) (fun _ h => ?_)
                  · refine A.exit ?_
                    refine seqK.e ?_
                    refine blockK.x ?_
                    refine seqK.n ?_
                    refine A.region ?_
                    refine R.one rfl ?_
                    refine W.det (.d (.v (.int .i64 s3.2))) _ rfl ?_
                    refine R.one rfl ?_
                    refine W.det (.d (.v (.int .i64 (IntKind.i64.wrap (s3.2 + (1 : Int)))))) _ rfl ?_
                    refine R.one rfl ?_
                    refine W.det (.d (.v (.int .i64 (IntKind.i64.wrap (s3.2 + (1 : Int)))))) _ rfl ?_
                    refine R.nil ?_
                    injection h with h
                    subst h
                    exact headK.n hG (Enters.of [] [(900000, (900000, 1)), (900001, (900001, 1)), (900002, (900002, 1))] _ rfl rfl (chkE.c rfl rfl (chkE.c rfl rfl (chkE.c rfl rfl (chkE.c rfl rfl (chkE.c rfl rfl (chkE.c rfl rfl (chkE.c rfl rfl (chkE.c rfl rfl trivial)))))))) (chkM.c rfl rfl (chkM.c rfl rfl (chkM.c rfl rfl trivial))))
                  · refine A.skip ?_
                    refine seqK.n ?_
                    refine A.seq rfl ?_
                    refine A.seq rfl ?_
                    refine A.regionD (by kernel_rfl) ?_
                    refine R.one rfl ?_
                    refine W.det (.agg [.d (.v (.string p_.Name)), .d (.v (.int .i64 p_.Edit)), .d (.v (.int .i64 p_.Within)), .d (.v (.int .i64 p_.Delete)), .d (.v (.bool p_.React)), .d (.v (.int .i64 p_.Thread)), .d (.v (.bool p_.Quote)), .d (.v (.bool p_.Mention)), .d (.v (.int .i64 p_.Size)), .d (.v (.int .i64 p_.Parts)), .d (.v (.int .i64 p_.Files)), .d (.v (.int .i64 p_.Bytes)), .d (.fz (List.map encS p_.Types)), .d (.v (.int .i64 p_.Join)), .d (.v (.int .i64 p_.History)), .d (.v (.int .i64 p_.Remove)), .d (.v (.int .i64 p_.Level)), .d (.v (.bool p_.Batch)), .d (.v (.int .i64 p_.Rate)), .d (.v (.int .i64 p_.Down)), .d (.v (.int .i64 p_.Window)), .d (.v (.int .i64 p_.Keep))]) _ rfl ?_
                    refine R.one rfl ?_
                    refine W.det (.d (.fz (List.map encB p3_))) _ rfl ?_
                    refine R.one rfl ?_
                    refine W.det (.d (.v (.int .i64 (IntKind.i64.wrap (x178.Due - p2_))))) _ rfl ?_
                    refine R.one rfl ?_
                    refine chkK h fun g182 h => ?_
                    refine W.chk rfl (cutO_map (fun _ => rfl) g182) ?_
                    refine W.cut rfl ?_
                    refine R.one rfl ?_
                    refine bindK h fun y183 hy183 h => ?_
                    refine W.call rfl (supply_Allowed_fn hy183) ?_
                    refine W.det (.d (.v (.bool y183))) _ rfl ?_
                    refine R.one rfl ?_
                    refine W.det (.d (.v (.bool (!y183)))) _ rfl ?_
                    refine R.nil ?_
                    refine seqK.n ?_
                    refine A.condB rfl h (fun _ h => ?_) (fun _ h => ?_)
                    · refine A.exit ?_
                      refine seqK.e ?_
                      refine blockK.x ?_
                      refine seqK.n ?_
                      refine A.region ?_
                      refine R.one rfl ?_
                      refine W.det (.d (.v (.int .i64 s3.2))) _ rfl ?_
                      refine R.one rfl ?_
                      refine W.det (.d (.v (.int .i64 (IntKind.i64.wrap (s3.2 + (1 : Int)))))) _ rfl ?_
                      refine R.one rfl ?_
                      refine W.det (.d (.v (.int .i64 (IntKind.i64.wrap (s3.2 + (1 : Int)))))) _ rfl ?_
                      refine R.nil ?_
                      injection h with h
                      subst h
                      exact headK.n hG (Enters.of [] [(900000, (900000, 1)), (900001, (900001, 1)), (900002, (900002, 1))] _ rfl rfl (chkE.c rfl rfl (chkE.c rfl rfl (chkE.c rfl rfl (chkE.c rfl rfl (chkE.c rfl rfl (chkE.c rfl rfl (chkE.c rfl rfl (chkE.c rfl rfl trivial)))))))) (chkM.c rfl rfl (chkM.c rfl rfl (chkM.c rfl rfl trivial))))
                    · refine A.skip ?_
                      refine seqK.n ?_
                      refine A.seq rfl ?_
                      refine A.regionD (by kernel_rfl) ?_
                      refine R.one rfl ?_
                      refine W.det (.agg [.d (.v (.string p_.Name)), .d (.v (.int .i64 p_.Edit)), .d (.v (.int .i64 p_.Within)), .d (.v (.int .i64 p_.Delete)), .d (.v (.bool p_.React)), .d (.v (.int .i64 p_.Thread)), .d (.v (.bool p_.Quote)), .d (.v (.bool p_.Mention)), .d (.v (.int .i64 p_.Size)), .d (.v (.int .i64 p_.Parts)), .d (.v (.int .i64 p_.Files)), .d (.v (.int .i64 p_.Bytes)), .d (.fz (List.map encS p_.Types)), .d (.v (.int .i64 p_.Join)), .d (.v (.int .i64 p_.History)), .d (.v (.int .i64 p_.Remove)), .d (.v (.int .i64 p_.Level)), .d (.v (.bool p_.Batch)), .d (.v (.int .i64 p_.Rate)), .d (.v (.int .i64 p_.Down)), .d (.v (.int .i64 p_.Window)), .d (.v (.int .i64 p_.Keep))]) _ rfl ?_
                      refine R.one rfl ?_
                      refine W.det (.d (.fz (List.map encB p3_))) _ rfl ?_
                      refine R.one rfl ?_
                      refine W.det (.d (.v (.int .i64 (IntKind.i64.wrap (x178.Due - p2_))))) _ rfl ?_
                      refine R.one rfl ?_
                      refine W.chk rfl (cutO_map (fun _ => rfl) g182) ?_
                      refine W.cut rfl ?_
                      refine R.one rfl ?_
                      refine bindK h fun y185 hy185 h => ?_
                      refine W.call rfl (supply_Given_fn hy185) ?_
                      refine W.det (.tup [.d (.v (.int .i64 y185.1)), .d (.v (.int .i64 y185.2))]) _ rfl ?_
                      refine R.one rfl ?_
                      refine W.det (.tup [.d (.v (.int .i64 y185.1)), .d (.v (.int .i64 y185.2))]) _ rfl ?_
                      refine R.one rfl ?_
                      refine W.det (.d (.v (.int .i64 y185.1))) _ rfl ?_
                      refine R.one rfl ?_
                      refine W.det (.d (.v (.int .i64 y185.2))) _ rfl ?_
                      refine R.one rfl ?_
                      refine W.det (.d (.v (.int .i64 y185.1))) _ rfl ?_
                      refine R.one rfl ?_
                      refine W.det (.d (.v (.int .i64 y185.2))) _ rfl ?_
                      refine R.nil ?_
                      refine seqK.n ?_
                      refine A.seq rfl ?_
                      refine A.region ?_
                      refine R.one rfl ?_
                      refine W.det (.d (.v (.int .i64 y185.2))) _ rfl ?_
                      refine R.one rfl ?_
                      refine W.det (.d (.v (.bool (y185.2 != (0 : Int))))) _ rfl ?_
                      refine R.one rfl ?_
                      refine W.det (.d (.v (.bool (y185.2 != (0 : Int))))) _ rfl ?_
                      refine R.gF rfl rfl rfl h (fun _ h => ?_) (fun _ h => ?_)
                      · refine R.skip rfl rfl rfl ?_
                        refine R.skip rfl rfl rfl ?_
                        refine R.one rfl ?_
                        refine W.det (.kb true) _ rfl ?_
                        refine R.one rfl ?_
                        refine W.det (.kb true) _ rfl ?_
                        refine R.skip rfl rfl rfl ?_
                        refine R.skip rfl rfl rfl ?_
                        refine R.skip rfl rfl rfl ?_
                        refine R.skip rfl rfl rfl ?_
                        refine R.skip rfl rfl rfl ?_
                        refine R.one rfl ?_
                        refine W.det (.kb true) _ rfl ?_
                        refine R.one rfl ?_
                        refine W.det (.kb true) _ rfl ?_
                        refine R.skip rfl rfl rfl ?_
                        refine R.skip rfl rfl rfl ?_
                        refine R.skip rfl rfl rfl ?_
                        refine R.skip rfl rfl rfl ?_
                        refine R.skip rfl rfl rfl ?_
                        refine R.skip rfl rfl rfl ?_
                        refine R.skip rfl rfl rfl ?_
                        refine R.skip rfl rfl rfl ?_
                        refine R.one rfl ?_
                        refine W.det (.kb true) _ rfl ?_
                        refine R.nil ?_
                        refine seqK.n ?_
                        refine A.condT rfl ?_
                        refine A.seq rfl ?_
                        refine A.region ?_
                        refine R.one rfl ?_
                        refine W.det (.kb false) _ rfl ?_
                        refine R.nil ?_
                        refine seqK.n ?_
                        refine A.ret ?_
                        refine blockK.r ?_
                        refine seqK.r ?_
                        refine headK.r ?_
                        refine blockK.r ?_
                        refine headK.r ?_
                        injection h with h
                        subst h
                        cases hG
                        exact ⟨rfl, trivial⟩
                      · refine W.det (.d (.v (.int .i64 y185.1))) _ rfl ?_
                        refine R.run rfl rfl rfl ?_
                        refine W.det (.d (.v (.int .i64 (IntKind.i64.wrap (s3.1 + x178.Size))))) _ rfl ?_
                        refine R.run rfl rfl rfl ?_
                        refine W.det (.d (.v (.bool (decide (y185.1 < (IntKind.i64.wrap (s3.1 + x178.Size))))))) _ rfl ?_
                        refine R.one rfl ?_
                        refine W.det (.d (.v (.bool (decide (y185.1 < (IntKind.i64.wrap (s3.1 + x178.Size))))))) _ rfl ?_
                        refine R.one rfl ?_
                        refine W.det (.d (.v (.bool (decide (y185.1 < (IntKind.i64.wrap (s3.1 + x178.Size))))))) _ rfl ?_
                        refine R.gF rfl rfl rfl h (fun _ h => ?_) (fun _ h => ?_)
                        · refine R.skip rfl rfl rfl ?_
                          refine R.skip rfl rfl rfl ?_
                          refine R.skip rfl rfl rfl ?_
                          refine R.skip rfl rfl rfl ?_
                          refine R.one rfl ?_
                          refine W.det (.kb true) _ rfl ?_
                          refine R.one rfl ?_
                          refine W.det (.kb true) _ rfl ?_
                          refine R.skip rfl rfl rfl ?_
                          refine R.skip rfl rfl rfl ?_
                          refine R.skip rfl rfl rfl ?_
                          refine R.skip rfl rfl rfl ?_
                          refine R.skip rfl rfl rfl ?_
                          refine R.skip rfl rfl rfl ?_
                          refine R.skip rfl rfl rfl ?_
                          refine R.skip rfl rfl rfl ?_
                          refine R.one rfl ?_
                          refine W.det (.kb true) _ rfl ?_
                          refine R.nil ?_
                          refine seqK.n ?_
                          refine A.condT rfl ?_
                          refine A.seq rfl ?_
                          refine A.region ?_
                          refine R.one rfl ?_
                          refine W.det (.kb false) _ rfl ?_
                          refine R.nil ?_
                          refine seqK.n ?_
                          refine A.ret ?_
                          refine blockK.r ?_
                          refine seqK.r ?_
                          refine headK.r ?_
                          refine blockK.r ?_
                          refine headK.r ?_
                          injection h with h
                          subst h
                          cases hG
                          exact ⟨rfl, trivial⟩
                        · refine W.det (.row 900001 1 y6.1.length) _ rfl ?_
                          refine R.run rfl rfl rfl ?_
                          refine W.det (.d (.v (.int .i64 s3.2))) _ rfl ?_
                          refine R.run rfl rfl rfl ?_
                          refine chkK h fun g189 h => ?_
                          refine W.chk rfl (by simpa using g189) ?_
                          refine W.det (.rp 900001 1 s3.2.toNat 0) _ rfl ?_
                          refine R.run rfl rfl rfl ?_
                          refine bindK h fun x190 hx190 h => ?_
                          refine W.elem rfl (elemG hx190) ?_
                          refine W.det (.d (.v (.int .i64 x190))) _ rfl ?_
                          refine R.run rfl rfl rfl ?_
                          refine W.det (.d (.v (.bool (decide (x190 < (0 : Int)))))) _ rfl ?_
                          refine R.one rfl ?_
                          refine W.det (.d (.v (.bool (decide (x190 < (0 : Int)))))) _ rfl ?_
                          refine R.one rfl ?_
                          refine W.det (.d (.v (.bool (decide (x190 < (0 : Int)))))) _ rfl ?_
                          refine R.gF rfl rfl rfl h (fun _ h => ?_) (fun _ h => ?_)
                          · refine R.skip rfl rfl rfl ?_
                            refine R.skip rfl rfl rfl ?_
                            refine R.skip rfl rfl rfl ?_
                            refine R.skip rfl rfl rfl ?_
                            refine R.skip rfl rfl rfl ?_
                            refine R.skip rfl rfl rfl ?_
                            refine R.skip rfl rfl rfl ?_
                            refine R.one rfl ?_
                            refine W.det (.kb true) _ rfl ?_
                            refine R.nil ?_
                            refine seqK.n ?_
                            refine A.condT rfl ?_
                            refine A.seq rfl ?_
                            refine A.region ?_
                            refine R.one rfl ?_
                            refine W.det (.kb false) _ rfl ?_
                            refine R.nil ?_
                            refine seqK.n ?_
                            refine A.ret ?_
                            refine blockK.r ?_
                            refine seqK.r ?_
                            refine headK.r ?_
                            refine blockK.r ?_
                            refine headK.r ?_
                            injection h with h
                            subst h
                            cases hG
                            exact ⟨rfl, trivial⟩
                          · refine W.det (.d (.v (.int .i64 y185.1))) _ rfl ?_
                            refine R.run rfl rfl rfl ?_
                            refine W.det (.d (.v (.int .i64 (IntKind.i64.wrap (s3.1 + x178.Size))))) _ rfl ?_
                            refine R.run rfl rfl rfl ?_
                            refine W.det (.row 900001 1 y6.1.length) _ rfl ?_
                            refine R.run rfl rfl rfl ?_
                            refine W.det (.d (.v (.int .i64 s3.2))) _ rfl ?_
                            refine R.run rfl rfl rfl ?_
                            refine W.chk rfl (by simpa using g189) ?_
                            refine W.det (.rp 900001 1 s3.2.toNat 0) _ rfl ?_
                            refine R.run rfl rfl rfl ?_
                            refine W.elem rfl (elemG hx190) ?_
                            refine W.det (.d (.v (.int .i64 x190))) _ rfl ?_
                            refine R.run rfl rfl rfl ?_
                            refine W.det (.d (.v (.int .i64 (IntKind.i64.wrap ((IntKind.i64.wrap (s3.1 + x178.Size)) + x190))))) _ rfl ?_
                            refine R.run rfl rfl rfl ?_
                            refine W.det (.d (.v (.bool (decide (y185.1 < (IntKind.i64.wrap ((IntKind.i64.wrap (s3.1 + x178.Size)) + x190))))))) _ rfl ?_
                            refine R.one rfl ?_
                            refine W.det (.d (.v (.bool (decide (y185.1 < (IntKind.i64.wrap ((IntKind.i64.wrap (s3.1 + x178.Size)) + x190))))))) _ rfl ?_
                            refine R.nil ?_
                            refine seqK.n ?_
                            refine A.condB rfl h (fun _ h => ?_) (fun _ h => ?_)
                            · refine A.seq rfl ?_
                              refine A.region ?_
                              refine R.one rfl ?_
                              refine W.det (.kb false) _ rfl ?_
                              refine R.nil ?_
                              refine seqK.n ?_
                              refine A.ret ?_
                              refine blockK.r ?_
                              refine seqK.r ?_
                              refine headK.r ?_
                              refine blockK.r ?_
                              refine headK.r ?_
                              injection h with h
                              subst h
                              cases hG
                              exact ⟨rfl, trivial⟩
                            · refine A.skip ?_
                              refine blockK.n ?_
                              refine seqK.n ?_
                              refine A.region ?_
                              refine R.one rfl ?_
                              refine W.det (.d (.v (.int .i64 s3.2))) _ rfl ?_
                              refine R.one rfl ?_
                              refine W.det (.d (.v (.int .i64 (IntKind.i64.wrap (s3.2 + (1 : Int)))))) _ rfl ?_
                              refine R.one rfl ?_
                              refine W.det (.d (.v (.int .i64 (IntKind.i64.wrap (s3.2 + (1 : Int)))))) _ rfl ?_
                              refine R.nil ?_
                              injection h with h
                              subst h
                              exact headK.n hG (Enters.of [] [(900000, (900000, 1)), (900001, (900001, 1)), (900002, (900002, 1))] _ rfl rfl (chkE.c rfl rfl (chkE.c rfl rfl (chkE.c rfl rfl (chkE.c rfl rfl (chkE.c rfl rfl (chkE.c rfl rfl (chkE.c rfl rfl (chkE.c rfl rfl trivial)))))))) (chkM.c rfl rfl (chkM.c rfl rfl (chkM.c rfl rfl trivial))))
              · refine A.exit ?_
                refine seqK.e ?_
                refine headK.e ?_
                refine blockK.x ?_
                injection h with h
                subst h
                exact headK.n hG (Enters.of [] [] _ rfl rfl (chkE.c rfl rfl trivial) trivial)
            · intro s2 r2 h hG
              refine A.seq rfl ?_
              refine A.region ?_
              refine R.one rfl ?_
              refine W.det (.d (.v (.bool y1))) _ rfl ?_
              refine R.one rfl ?_
              refine W.det (.d (.v (.bool y1))) _ rfl ?_
              refine R.nil ?_
              refine seqK.n ?_
              refine A.ret ?_
              injection h with h
              subst h
              cases hG
              exact ⟨rfl, trivial⟩
end Go.Proofs.Ytafgcjodefafoaa

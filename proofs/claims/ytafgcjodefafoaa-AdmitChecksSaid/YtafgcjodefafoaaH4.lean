/-
  Plain programs of functions, and that the functions do what they say. Printed by wip/tools/gen.py.
-/
import Derived.Test.YtafgcjodefafoaaG3
namespace Go.Proofs.Ytafgcjodefafoaa
open Go.RowKit
attribute [local irreducible] IntKind.wrap
set_option linter.unusedVariables false
set_option maxHeartbeats 4000000
set_option maxRecDepth 100000
noncomputable def law29_AdmitChecks (p_ : api_Profile) (p1_ : (List api_Job)) (p2_ : Int) (p3_ : Int) (p4_ : Int) : Option (Bool) :=
  (law29_small).bind fun y1 =>
  (law29_few p_ p1_).bind fun y3 =>
  (bif (!y3) then
    some y1
  else
    (admit_Plan p_ p1_ p2_).bind fun y4 =>
    (bif (y4.2.2 != (0 : Int)) then
      (bif y1 then
        (admit_Check p_ p1_ p2_ ([] : List Int)).bind fun y6 =>
        some ((y4.2.2 == (1 : Int)) == (y6 == (1 : Int)))
      else
        some false)
    else
      (bif (((y4.1.length : Nat) : Int) != (p1_.length : Int)) then
        some false
      else
        (admit_Check p_ p1_ p2_ y4.1).bind fun y10 =>
        (bif (y10 != (0 : Int)) then
          some false
        else
          (bif ((p1_.length : Int) == (0 : Int)) then
            some y1
          else
            (chkO ((p1_.length : Int) != 0)).bind fun _ =>
            (chkO (decide (0 + y4.1.length ≤ 1000000))).bind fun _ =>
            (chkO (decide (0 ≤ (Int.tmod (IntKind.i64.wrap p3_) (p1_.length : Int))) && decide ((Int.tmod (IntKind.i64.wrap p3_) (p1_.length : Int)) < (((([] : List Int) ++ y4.1).length : Nat) : Int)))).bind fun _ =>
            (getI (([] : List Int) ++ y4.1) (Int.tmod (IntKind.i64.wrap p3_) (p1_.length : Int))).bind fun x14 =>
            (chkO (cutO (0 : Int) (Int.tmod (IntKind.i64.wrap p3_) (p1_.length : Int)) (p1_.length : Int))).bind fun _ =>
            (chkO (decide (0 + (List.drop (0 : Int).toNat (List.take (Int.tmod (IntKind.i64.wrap p3_) (p1_.length : Int)).toNat p1_)).length ≤ 1000000))).bind fun _ =>
            (chkO (cutO (IntKind.i64.wrap ((Int.tmod (IntKind.i64.wrap p3_) (p1_.length : Int)) + (1 : Int))) (p1_.length : Int) (p1_.length : Int))).bind fun _ =>
            (chkO (decide ((([] : List api_Job) ++ (List.drop (0 : Int).toNat (List.take (Int.tmod (IntKind.i64.wrap p3_) (p1_.length : Int)).toNat p1_))).length + (List.drop (IntKind.i64.wrap ((Int.tmod (IntKind.i64.wrap p3_) (p1_.length : Int)) + (1 : Int))).toNat (List.take (p1_.length : Int).toNat p1_)).length ≤ 1000000))).bind fun _ =>
            (admit_Plan p_ ((([] : List api_Job) ++ (List.drop (0 : Int).toNat (List.take (Int.tmod (IntKind.i64.wrap p3_) (p1_.length : Int)).toNat p1_))) ++ (List.drop (IntKind.i64.wrap ((Int.tmod (IntKind.i64.wrap p3_) (p1_.length : Int)) + (1 : Int))).toNat (List.take (p1_.length : Int).toNat p1_))) p2_).bind fun y23 =>
            (bif y1 then
              (admit_Check p_ p1_ p2_ (List.set (([] : List Int) ++ y4.1) (Int.tmod (IntKind.i64.wrap p3_) (p1_.length : Int)).toNat (IntKind.i64.wrap (x14 + (1 : Int))))).bind fun y24 =>
              (bif (y24 == (18 : Int)) then
                (admit_Check p_ p1_ p2_ (List.set (([] : List Int) ++ y4.1) (Int.tmod (IntKind.i64.wrap p3_) (p1_.length : Int)).toNat (if (0 : Int) < (if x14 < p4_ then x14 else p4_) then (if x14 < p4_ then x14 else p4_) else (0 : Int)))).bind fun y25 =>
                (bif (y25 == (0 : Int)) then
                  (chkO (cutO (0 : Int) (Int.tmod (IntKind.i64.wrap p3_) (p1_.length : Int)) ((y4.1.length : Nat) : Int))).bind fun _ =>
                  (admit_Check p_ p1_ p2_ (List.take ((Int.tmod (IntKind.i64.wrap p3_) (p1_.length : Int)) - (0 : Int)).toNat (List.drop (0 : Int).toNat y4.1))).bind fun y27 =>
                  (bif (y27 == (18 : Int)) then
                    some (y23.2.2 == (0 : Int))
                  else
                    some false)
                else
                  some false)
              else
                some false)
            else
              some false))))))
theorem law29_AdmitChecks_fn {p_ : api_Profile} {p1_ : (List api_Job)} {p2_ : Int} {p3_ : Int} {p4_ : Int} {r : Bool} (h : law29_AdmitChecks p_ p1_ p2_ p3_ p4_ = some r) : Fn Try.prog 4 [.agg [.d (.v (.string p_.Name)), .d (.v (.int .i64 p_.Edit)), .d (.v (.int .i64 p_.Within)), .d (.v (.int .i64 p_.Delete)), .d (.v (.bool p_.React)), .d (.v (.int .i64 p_.Thread)), .d (.v (.bool p_.Quote)), .d (.v (.bool p_.Mention)), .d (.v (.int .i64 p_.Size)), .d (.v (.int .i64 p_.Parts)), .d (.v (.int .i64 p_.Files)), .d (.v (.int .i64 p_.Bytes)), .d (.fz (List.map encS p_.Types)), .d (.v (.int .i64 p_.Join)), .d (.v (.int .i64 p_.History)), .d (.v (.int .i64 p_.Remove)), .d (.v (.int .i64 p_.Level)), .d (.v (.bool p_.Batch)), .d (.v (.int .i64 p_.Rate)), .d (.v (.int .i64 p_.Down)), .d (.v (.int .i64 p_.Window)), .d (.v (.int .i64 p_.Keep))], .d (.fz (List.map api_Job.enc p1_)), .d (.v (.int .i64 p2_)), .d (.v (.int .u8 p3_)), .d (.v (.int .i64 p4_))] (.d (.v (.bool r))) := by
  refine Fn.of_AW (F := FnX Try.prog) (base := 0) (js := []) mixed tok noeqs (fun _ _ _ h => h) Try.call4 Try.func4 rfl Try.ntmps4 (by rw [Try.results4]) (by simp) ?_
  have hG : (fun x => x = r) r := rfl
  unfold law29_AdmitChecks at h
  refine A.seq rfl ?_
  refine A.region ?_
  refine R.one rfl ?_
  refine W.det (.lp 5 1 0) (Mem.add _ 5 (.box [.d (.v (.string p_.Name)), .d (.v (.int .i64 p_.Edit)), .d (.v (.int .i64 p_.Within)), .d (.v (.int .i64 p_.Delete)), .d (.v (.bool p_.React)), .d (.v (.int .i64 p_.Thread)), .d (.v (.bool p_.Quote)), .d (.v (.bool p_.Mention)), .d (.v (.int .i64 p_.Size)), .d (.v (.int .i64 p_.Parts)), .d (.v (.int .i64 p_.Files)), .d (.v (.int .i64 p_.Bytes)), .d (.fz (List.map encS p_.Types)), .d (.v (.int .i64 p_.Join)), .d (.v (.int .i64 p_.History)), .d (.v (.int .i64 p_.Remove)), .d (.v (.int .i64 p_.Level)), .d (.v (.bool p_.Batch)), .d (.v (.int .i64 p_.Rate)), .d (.v (.int .i64 p_.Down)), .d (.v (.int .i64 p_.Window)), .d (.v (.int .i64 p_.Keep))])) rfl ?_
  refine R.one rfl ?_
  refine W.det (.kb false) _ rfl ?_
  refine R.nil ?_
  refine seqK.n ?_
  refine A.seq rfl ?_
  refine A.region ?_
  refine R.one rfl ?_
  refine bindK h fun y1 hy1 h => ?_
  refine W.call rfl (law29_small_fn hy1) ?_
  refine W.det (.d (.v (.bool y1))) _ rfl ?_
  refine R.one rfl ?_
  refine W.det (.d (.v (.bool y1))) _ rfl ?_
  refine R.nil ?_
  refine seqK.n ?_
  refine A.seq rfl ?_
  refine A.seq rfl ?_
  refine A.region ?_
  refine R.one rfl ?_
  refine W.det (.agg [.d (.v (.string p_.Name)), .d (.v (.int .i64 p_.Edit)), .d (.v (.int .i64 p_.Within)), .d (.v (.int .i64 p_.Delete)), .d (.v (.bool p_.React)), .d (.v (.int .i64 p_.Thread)), .d (.v (.bool p_.Quote)), .d (.v (.bool p_.Mention)), .d (.v (.int .i64 p_.Size)), .d (.v (.int .i64 p_.Parts)), .d (.v (.int .i64 p_.Files)), .d (.v (.int .i64 p_.Bytes)), .d (.fz (List.map encS p_.Types)), .d (.v (.int .i64 p_.Join)), .d (.v (.int .i64 p_.History)), .d (.v (.int .i64 p_.Remove)), .d (.v (.int .i64 p_.Level)), .d (.v (.bool p_.Batch)), .d (.v (.int .i64 p_.Rate)), .d (.v (.int .i64 p_.Down)), .d (.v (.int .i64 p_.Window)), .d (.v (.int .i64 p_.Keep))]) _ rfl ?_
  refine R.one rfl ?_
  refine W.det (.d (.fz (List.map api_Job.enc p1_))) _ rfl ?_
  refine R.one rfl ?_
  refine bindK h fun y3 hy3 h => ?_
  refine W.call rfl (law29_few_fn hy3) ?_
  refine W.det (.d (.v (.bool y3))) _ rfl ?_
  refine R.one rfl ?_
  refine W.det (.d (.v (.bool (!y3)))) _ rfl ?_
  refine R.nil ?_
  refine seqK.n ?_
  refine A.condB rfl h (fun _ h => ?_) (fun _ h => ?_)
  · refine A.seq rfl ?_
    refine A.region ?_
    refine R.one rfl ?_
    refine W.det (.d (.v (.bool y1))) _ rfl ?_
    refine R.one rfl ?_
    refine W.det (.d (.v (.bool y1))) _ rfl ?_
    refine R.nil ?_
    refine seqK.n ?_
    refine A.ret ?_
    refine seqK.r ?_
    injection h with h
    subst h
    cases hG
    exact ⟨rfl, trivial⟩
  · refine A.skip ?_
    refine seqK.n ?_
    refine A.seq rfl ?_
    refine A.region ?_
    refine R.one rfl ?_
    refine W.det (.agg [.d (.v (.string p_.Name)), .d (.v (.int .i64 p_.Edit)), .d (.v (.int .i64 p_.Within)), .d (.v (.int .i64 p_.Delete)), .d (.v (.bool p_.React)), .d (.v (.int .i64 p_.Thread)), .d (.v (.bool p_.Quote)), .d (.v (.bool p_.Mention)), .d (.v (.int .i64 p_.Size)), .d (.v (.int .i64 p_.Parts)), .d (.v (.int .i64 p_.Files)), .d (.v (.int .i64 p_.Bytes)), .d (.fz (List.map encS p_.Types)), .d (.v (.int .i64 p_.Join)), .d (.v (.int .i64 p_.History)), .d (.v (.int .i64 p_.Remove)), .d (.v (.int .i64 p_.Level)), .d (.v (.bool p_.Batch)), .d (.v (.int .i64 p_.Rate)), .d (.v (.int .i64 p_.Down)), .d (.v (.int .i64 p_.Window)), .d (.v (.int .i64 p_.Keep))]) _ rfl ?_
    refine R.one rfl ?_
    refine W.det (.d (.fz (List.map api_Job.enc p1_))) _ rfl ?_
    refine R.one rfl ?_
    refine W.det (.d (.v (.int .i64 p2_))) _ rfl ?_
    refine R.one rfl ?_
    refine bindK h fun y4 hy4 h => ?_
    refine W.call rfl (admit_Plan_fn hy4) ?_
    refine W.v (.tup [.row 1048607 1 (List.map (encI .i64) y4.1).length, .d (.v (.int .i64 y4.2.1)), .d (.v (.int .i64 y4.2.2))]) (.tup [.row 1048607 1 y4.1.length, .d (.v (.int .i64 y4.2.1)), .d (.v (.int .i64 y4.2.2))]) (Mem.add _ 1048607 (.rows 1 (List.map (encI .i64) y4.1) false)) rfl (by simp only [List.length_map]) ?_
    refine R.one rfl ?_
    refine W.det (.tup [.row 1048607 1 y4.1.length, .d (.v (.int .i64 y4.2.1)), .d (.v (.int .i64 y4.2.2))]) _ rfl ?_
    refine R.one rfl ?_
    refine W.det (.row 1048607 1 y4.1.length) _ rfl ?_
    refine R.one rfl ?_
    refine W.det (.d (.v (.int .i64 y4.2.1))) _ rfl ?_
    refine R.one rfl ?_
    refine W.det (.d (.v (.int .i64 y4.2.2))) _ rfl ?_
    refine R.one rfl ?_
    refine W.det (.row 1048607 1 y4.1.length) _ rfl ?_
    refine R.one rfl ?_
    refine W.det (.d (.v (.int .i64 y4.2.1))) _ rfl ?_
    refine R.one rfl ?_
    refine W.det (.d (.v (.int .i64 y4.2.2))) _ rfl ?_
    refine R.nil ?_
    refine seqK.n ?_
    refine A.seq rfl ?_
    refine A.seq rfl ?_
    refine A.region ?_
    refine R.one rfl ?_
    refine W.det (.d (.v (.int .i64 y4.2.2))) _ rfl ?_
    refine R.one rfl ?_
    refine W.det (.d (.v (.bool (y4.2.2 != (0 : Int))))) _ rfl ?_
    refine R.nil ?_
    refine seqK.n ?_
    refine A.condB rfl h (fun _ h => ?_) (fun _ h => ?_)
    · refine A.seq rfl ?_
      refine A.region ?_
      refine R.one rfl ?_
      refine W.det (.d (.v (.bool y1))) _ rfl ?_
      refine R.one rfl ?_
      refine W.det (.d (.v (.bool y1))) _ rfl ?_
      refine R.gT rfl rfl rfl h (fun _ h => ?_) (fun _ h => ?_)
      · refine W.det (.d (.v (.int .i64 y4.2.2))) _ rfl ?_
        refine R.run rfl rfl rfl ?_
        refine W.det (.d (.v (.bool (y4.2.2 == (1 : Int))))) _ rfl ?_
        refine R.run rfl rfl rfl ?_
        refine W.det (.agg [.d (.v (.string p_.Name)), .d (.v (.int .i64 p_.Edit)), .d (.v (.int .i64 p_.Within)), .d (.v (.int .i64 p_.Delete)), .d (.v (.bool p_.React)), .d (.v (.int .i64 p_.Thread)), .d (.v (.bool p_.Quote)), .d (.v (.bool p_.Mention)), .d (.v (.int .i64 p_.Size)), .d (.v (.int .i64 p_.Parts)), .d (.v (.int .i64 p_.Files)), .d (.v (.int .i64 p_.Bytes)), .d (.fz (List.map encS p_.Types)), .d (.v (.int .i64 p_.Join)), .d (.v (.int .i64 p_.History)), .d (.v (.int .i64 p_.Remove)), .d (.v (.int .i64 p_.Level)), .d (.v (.bool p_.Batch)), .d (.v (.int .i64 p_.Rate)), .d (.v (.int .i64 p_.Down)), .d (.v (.int .i64 p_.Window)), .d (.v (.int .i64 p_.Keep))]) _ rfl ?_
        refine R.run rfl rfl rfl ?_
        refine W.det (.d (.fz (List.map api_Job.enc p1_))) _ rfl ?_
        refine R.run rfl rfl rfl ?_
        refine W.det (.d (.v (.int .i64 p2_))) _ rfl ?_
        refine R.run rfl rfl rfl ?_
        refine bindK h fun y6 hy6 h => ?_
        refine W.call rfl (admit_Check_fn hy6) ?_
        refine W.det (.d (.v (.int .i64 y6))) _ rfl ?_
        refine R.run rfl rfl rfl ?_
        refine W.det (.d (.v (.bool (y6 == (1 : Int))))) _ rfl ?_
        refine R.run rfl rfl rfl ?_
        refine W.det (.d (.v (.bool ((y4.2.2 == (1 : Int)) == (y6 == (1 : Int)))))) _ rfl ?_
        refine R.one rfl ?_
        refine W.det (.d (.v (.bool ((y4.2.2 == (1 : Int)) == (y6 == (1 : Int)))))) _ rfl ?_
        refine R.one rfl ?_
        refine W.det (.d (.v (.bool ((y4.2.2 == (1 : Int)) == (y6 == (1 : Int)))))) _ rfl ?_
        refine R.nil ?_
        refine seqK.n ?_
        refine A.ret ?_
        refine seqK.r ?_
        injection h with h
        subst h
        cases hG
        exact ⟨rfl, trivial⟩
      · refine R.skip rfl rfl rfl ?_
        refine R.skip rfl rfl rfl ?_
        refine R.skip rfl rfl rfl ?_
        refine R.skip rfl rfl rfl ?_
        refine R.skip rfl rfl rfl ?_
        refine R.skip rfl rfl rfl ?_
        refine R.skip rfl rfl rfl ?_
        refine R.one rfl ?_
        refine W.det (.kb false) _ rfl ?_
        refine R.one rfl ?_
        refine W.det (.kb false) _ rfl ?_
        refine R.nil ?_
        refine seqK.n ?_
        refine A.ret ?_
        refine seqK.r ?_
        injection h with h
        subst h
        cases hG
        exact ⟨rfl, trivial⟩
    · refine A.skip ?_
      refine seqK.n ?_
      refine A.seq rfl ?_
      refine A.seq rfl ?_
      refine A.region ?_
      refine R.one rfl ?_
      refine W.det (.row 1048607 1 y4.1.length) _ rfl ?_
      refine R.one rfl ?_
      refine W.det (.d (.v (.int .i64 ((y4.1.length : Nat) : Int)))) _ rfl ?_
      refine R.one rfl ?_
      refine W.det (.d (.fz (List.map api_Job.enc p1_))) _ rfl ?_
      refine R.one rfl ?_
      refine W.len rfl ?_
      refine R.one rfl ?_
      refine W.det (.d (.v (.bool (((y4.1.length : Nat) : Int) != (p1_.length : Int))))) _ rfl ?_
      refine R.one rfl ?_
      refine W.det (.d (.v (.bool (((y4.1.length : Nat) : Int) != (p1_.length : Int))))) _ rfl ?_
      refine R.gF rfl rfl rfl h (fun _ h => ?_) (fun _ h => ?_)
      · refine R.skip rfl rfl rfl ?_
        refine R.skip rfl rfl rfl ?_
        refine R.skip rfl rfl rfl ?_
        refine R.skip rfl rfl rfl ?_
        refine R.skip rfl rfl rfl ?_
        refine R.one rfl ?_
        refine W.det (.kb true) _ rfl ?_
        refine R.nil ?_
        refine seqK.n ?_
        refine A.condT rfl ?_
        refine A.seq rfl ?_
        refine A.region ?_
        refine R.one rfl ?_
        refine W.det (.kb false) _ rfl ?_
        refine R.nil ?_
        refine seqK.n ?_
        refine A.ret ?_
        refine seqK.r ?_
        injection h with h
        subst h
        cases hG
        exact ⟨rfl, trivial⟩
      · refine W.det (.agg [.d (.v (.string p_.Name)), .d (.v (.int .i64 p_.Edit)), .d (.v (.int .i64 p_.Within)), .d (.v (.int .i64 p_.Delete)), .d (.v (.bool p_.React)), .d (.v (.int .i64 p_.Thread)), .d (.v (.bool p_.Quote)), .d (.v (.bool p_.Mention)), .d (.v (.int .i64 p_.Size)), .d (.v (.int .i64 p_.Parts)), .d (.v (.int .i64 p_.Files)), .d (.v (.int .i64 p_.Bytes)), .d (.fz (List.map encS p_.Types)), .d (.v (.int .i64 p_.Join)), .d (.v (.int .i64 p_.History)), .d (.v (.int .i64 p_.Remove)), .d (.v (.int .i64 p_.Level)), .d (.v (.bool p_.Batch)), .d (.v (.int .i64 p_.Rate)), .d (.v (.int .i64 p_.Down)), .d (.v (.int .i64 p_.Window)), .d (.v (.int .i64 p_.Keep))]) _ rfl ?_
        refine R.run rfl rfl rfl ?_
        refine W.det (.d (.fz (List.map api_Job.enc p1_))) _ rfl ?_
        refine R.run rfl rfl rfl ?_
        refine W.det (.d (.v (.int .i64 p2_))) _ rfl ?_
        refine R.run rfl rfl rfl ?_
        refine W.det (.row 1048607 1 y4.1.length) _ rfl ?_
        refine R.run rfl rfl rfl ?_
        refine bindK h fun y10 hy10 h => ?_
        refine W.call rfl (admit_Check_fn hy10) ?_
        refine W.det (.d (.v (.int .i64 y10))) _ rfl ?_
        refine R.run rfl rfl rfl ?_
        refine W.det (.d (.v (.bool (y10 != (0 : Int))))) _ rfl ?_
        refine R.one rfl ?_
        refine W.det (.d (.v (.bool (y10 != (0 : Int))))) _ rfl ?_
        refine R.nil ?_
        refine seqK.n ?_
        refine A.condB rfl h (fun _ h => ?_) (fun _ h => ?_)
        · refine A.seq rfl ?_
          refine A.region ?_
          refine R.one rfl ?_
          refine W.det (.kb false) _ rfl ?_
          refine R.nil ?_
          refine seqK.n ?_
          refine A.ret ?_
          refine seqK.r ?_
          injection h with h
          subst h
          cases hG
          exact ⟨rfl, trivial⟩
        · refine A.skip ?_
          refine seqK.n ?_
          refine A.seq rfl ?_
          refine A.seq rfl ?_
          refine A.region ?_
          refine R.one rfl ?_
          refine W.det (.d (.fz (List.map api_Job.enc p1_))) _ rfl ?_
          refine R.one rfl ?_
          refine W.len rfl ?_
          refine R.one rfl ?_
          refine W.det (.d (.v (.bool ((p1_.length : Int) == (0 : Int))))) _ rfl ?_
          refine R.nil ?_
          refine seqK.n ?_
          refine A.condB rfl h (fun _ h => ?_) (fun _ h => ?_)
          · refine A.seq rfl ?_
            refine A.region ?_
            refine R.one rfl ?_
            refine W.det (.d (.v (.bool y1))) _ rfl ?_
            refine R.one rfl ?_
            refine W.det (.d (.v (.bool y1))) _ rfl ?_
            refine R.nil ?_
            refine seqK.n ?_
            refine A.ret ?_
            refine seqK.r ?_
            injection h with h
            subst h
            cases hG
            exact ⟨rfl, trivial⟩
          · refine A.skip ?_
            refine seqK.n ?_
            refine A.seq rfl ?_
            refine A.region ?_
            refine R.one rfl ?_
            refine W.det (.d (.v (.int .u8 p3_))) _ rfl ?_
            refine R.one rfl ?_
            refine W.det (.d (.v (.int .i64 (IntKind.i64.wrap p3_)))) _ rfl ?_
            refine R.one rfl ?_
            refine W.det (.d (.fz (List.map api_Job.enc p1_))) _ rfl ?_
            refine R.one rfl ?_
            refine W.len rfl ?_
            refine R.one rfl ?_
            refine chkK h fun g11 h => ?_
            refine W.chk rfl (by simpa using g11) ?_
            refine W.det (.d (.v (.int .i64 (Int.tmod (IntKind.i64.wrap p3_) (p1_.length : Int))))) _ rfl ?_
            refine R.one rfl ?_
            refine W.det (.d (.v (.int .i64 (Int.tmod (IntKind.i64.wrap p3_) (p1_.length : Int))))) _ rfl ?_
            refine R.nil ?_
            refine seqK.n ?_
            refine A.seq rfl ?_
            refine A.region ?_
            refine R.one rfl ?_
            refine W.det (.row 70 1 0) (Mem.add _ 70 (.rows 1 (List.map (encI .i64) ([] : List Int)) false)) rfl ?_
            refine R.one rfl ?_
            refine W.det (.row 1048607 1 y4.1.length) _ rfl ?_
            refine R.one rfl ?_
            refine chkK h fun g12 h => ?_
            refine W.chk rfl (appChk (fun _ => rfl) g12) ?_
            refine W.rows (0 + (List.map (encI .i64) y4.1).length) (([] : List Int) ++ y4.1).length ([] ++ (List.map (encI .i64) y4.1)) (List.map (encI .i64) (([] : List Int) ++ y4.1)) rfl (by first | rfl | (simp; done) | simp only [partMap, List.length_map, List.length_append, List.nil_append, Nat.zero_add, List.length_nil]) (by first | rfl | (simp; done) | simp only [partMap, List.map_append, List.nil_append, List.map_nil]) ?_
            refine R.one rfl ?_
            refine W.det (.row 70 2 (([] : List Int) ++ y4.1).length) _ rfl ?_
            refine R.nil ?_
            refine seqK.n ?_
            refine A.seq rfl ?_
            refine A.region ?_
            refine R.one rfl ?_
            refine W.det (.row 70 2 (([] : List Int) ++ y4.1).length) _ rfl ?_
            refine R.one rfl ?_
            refine W.det (.d (.v (.int .i64 (Int.tmod (IntKind.i64.wrap p3_) (p1_.length : Int))))) _ rfl ?_
            refine R.one rfl ?_
            refine W.det (.row 70 2 (([] : List Int) ++ y4.1).length) _ rfl ?_
            refine R.one rfl ?_
            refine W.det (.d (.v (.int .i64 (Int.tmod (IntKind.i64.wrap p3_) (p1_.length : Int))))) _ rfl ?_
            refine R.one rfl ?_
            refine chkK h fun g13 h => ?_
            refine W.chk rfl (by simpa using g13) ?_
            refine W.det (.rp 70 2 (Int.tmod (IntKind.i64.wrap p3_) (p1_.length : Int)).toNat 0) _ rfl ?_
            refine R.one rfl ?_
            refine bindK h fun x14 hx14 h => ?_
            refine W.elem rfl (elemG hx14) ?_
            refine W.det (.d (.v (.int .i64 x14))) _ rfl ?_
            refine R.one rfl ?_
            refine W.det (.d (.v (.int .i64 (IntKind.i64.wrap (x14 + (1 : Int)))))) _ rfl ?_
            refine R.one rfl ?_
            refine W.chk rfl (by simpa using g13) ?_
            refine W.det (.rp 70 2 (Int.tmod (IntKind.i64.wrap p3_) (p1_.length : Int)).toNat 0) _ rfl ?_
            refine R.one rfl ?_
            refine W.elem rfl (elemG hx14) ?_
            refine W.set (IntKind.i64.wrap (x14 + (1 : Int))) rfl rfl ?_
            refine R.nil ?_
            refine seqK.n ?_
            refine A.seq rfl ?_
            refine A.region ?_
            refine R.one rfl ?_
            refine W.det (.row 81 1 0) (Mem.add _ 81 (.rows 1 (List.map (encI .i64) ([] : List Int)) false)) rfl ?_
            refine R.one rfl ?_
            refine W.det (.row 1048607 1 y4.1.length) _ rfl ?_
            refine R.one rfl ?_
            refine W.chk rfl (appChk (fun _ => rfl) g12) ?_
            refine W.rows (0 + (List.map (encI .i64) y4.1).length) (([] : List Int) ++ y4.1).length ([] ++ (List.map (encI .i64) y4.1)) (List.map (encI .i64) (([] : List Int) ++ y4.1)) rfl (by first | rfl | (simp; done) | simp only [partMap, List.length_map, List.length_append, List.nil_append, Nat.zero_add, List.length_nil]) (by first | rfl | (simp; done) | simp only [partMap, List.map_append, List.nil_append, List.map_nil]) ?_
            refine R.one rfl ?_
            refine W.det (.row 81 2 (([] : List Int) ++ y4.1).length) _ rfl ?_
            refine R.nil ?_
            refine seqK.n ?_
            refine A.seq rfl ?_
            refine A.region ?_
            refine R.one rfl ?_
            refine W.det (.row 81 2 (([] : List Int) ++ y4.1).length) _ rfl ?_
            refine R.one rfl ?_
            refine W.det (.d (.v (.int .i64 (Int.tmod (IntKind.i64.wrap p3_) (p1_.length : Int))))) _ rfl ?_
            refine R.one rfl ?_
            refine W.det (.d (.v (.int .i64 p4_))) _ rfl ?_
            refine R.one rfl ?_
            refine W.det (.row 81 2 (([] : List Int) ++ y4.1).length) _ rfl ?_
            refine R.one rfl ?_
            refine W.det (.d (.v (.int .i64 (Int.tmod (IntKind.i64.wrap p3_) (p1_.length : Int))))) _ rfl ?_
            refine R.one rfl ?_
            refine W.chk rfl (by simpa using g13) ?_
            refine W.det (.rp 81 2 (Int.tmod (IntKind.i64.wrap p3_) (p1_.length : Int)).toNat 0) _ rfl ?_
            refine R.one rfl ?_
            refine W.elem rfl (elemG hx14) ?_
            refine W.det (.d (.v (.int .i64 x14))) _ rfl ?_
            refine R.one rfl ?_
            refine W.det (.d (.v (.int .i64 (if x14 < p4_ then x14 else p4_)))) _ rfl ?_
            refine R.one rfl ?_
            refine W.det (.d (.v (.int .i64 (if (0 : Int) < (if x14 < p4_ then x14 else p4_) then (if x14 < p4_ then x14 else p4_) else (0 : Int))))) _ rfl ?_
            refine R.one rfl ?_
            refine W.chk rfl (by simpa using g13) ?_
            refine W.det (.rp 81 2 (Int.tmod (IntKind.i64.wrap p3_) (p1_.length : Int)).toNat 0) _ rfl ?_
            refine R.one rfl ?_
            refine W.elem rfl (elemG hx14) ?_
            refine W.set (if (0 : Int) < (if x14 < p4_ then x14 else p4_) then (if x14 < p4_ then x14 else p4_) else (0 : Int)) rfl rfl ?_
            refine R.nil ?_
            refine seqK.n ?_
            refine A.seq rfl ?_
            refine A.regionC [1, 2, 3, 4, 5, 6, 7, 8, 9, 10, 0, 11, 12, 13, 14, 15, 16, 17, 18, 19] (by kernel_rfl) ?_
            refine R.at_ rfl rfl ?_
            refine R.one rfl ?_
            refine W.det (.row 96 1 0) (Mem.add _ 96 (.rows 3 (List.map api_Job.enc ([] : List api_Job)) false)) rfl ?_
            refine R.nil ?_
            refine R.at_ rfl rfl ?_
            refine R.one rfl ?_
            refine W.det (.d (.fz (List.map api_Job.enc p1_))) _ rfl ?_
            refine R.nil ?_
            refine R.at_ rfl rfl ?_
            refine R.one rfl ?_
            refine W.det (.d (.v (.int .i64 (Int.tmod (IntKind.i64.wrap p3_) (p1_.length : Int))))) _ rfl ?_
            refine R.nil ?_
            refine R.at_ rfl rfl ?_
            refine R.one rfl ?_
            refine chkK h fun g19 h => ?_
            refine W.chk rfl (cutO_map (fun _ => rfl) g19) ?_
            refine W.cut rfl ?_
            refine R.nil ?_
            refine R.at_ rfl rfl ?_
            refine R.one rfl ?_
            refine chkK h fun g20 h => ?_
            refine W.chk rfl (appChk (fun _ => rfl) g20) ?_
            refine W.rows (0 + (List.map api_Job.enc (List.drop (0 : Int).toNat (List.take (Int.tmod (IntKind.i64.wrap p3_) (p1_.length : Int)).toNat p1_))).length) (([] : List api_Job) ++ (List.drop (0 : Int).toNat (List.take (Int.tmod (IntKind.i64.wrap p3_) (p1_.length : Int)).toNat p1_))).length ([] ++ (List.map api_Job.enc (List.drop (0 : Int).toNat (List.take (Int.tmod (IntKind.i64.wrap p3_) (p1_.length : Int)).toNat p1_)))) (List.map api_Job.enc (([] : List api_Job) ++ (List.drop (0 : Int).toNat (List.take (Int.tmod (IntKind.i64.wrap p3_) (p1_.length : Int)).toNat p1_)))) rfl (by first | rfl | (simp; done) | simp only [partMap, List.length_map, List.length_append, List.nil_append, Nat.zero_add, List.length_nil]) (by first | rfl | (simp; done) | simp only [partMap, List.map_append, List.nil_append, List.map_nil]) ?_
            refine R.nil ?_
            refine R.at_ rfl rfl ?_
            refine R.one rfl ?_
            refine W.det (.d (.fz (List.map api_Job.enc p1_))) _ rfl ?_
            refine R.nil ?_
            refine R.at_ rfl rfl ?_
            refine R.one rfl ?_
            refine W.det (.d (.v (.int .i64 (Int.tmod (IntKind.i64.wrap p3_) (p1_.length : Int))))) _ rfl ?_
            refine R.nil ?_
            refine R.at_ rfl rfl ?_
            refine R.one rfl ?_
            refine W.det (.d (.v (.int .i64 (IntKind.i64.wrap ((Int.tmod (IntKind.i64.wrap p3_) (p1_.length : Int)) + (1 : Int)))))) _ rfl ?_
            refine R.nil ?_
            refine R.at_ rfl rfl ?_
            refine R.one rfl ?_
            refine chkK h fun g21 h => ?_
            refine W.chk rfl (cutO_map0 (fun _ => rfl) g21) ?_
            refine W.cutE rfl ?_
            refine R.nil ?_
            refine R.at_ rfl rfl ?_
            refine R.one rfl ?_
            refine chkK h fun g22 h => ?_
            refine W.chk rfl (appChk (fun _ => rfl) g22) ?_
            refine W.app rfl rfl ?_
            refine R.nil ?_
            refine R.at_ rfl rfl ?_
            refine R.one rfl ?_
            refine W.det (.agg [.d (.v (.string p_.Name)), .d (.v (.int .i64 p_.Edit)), .d (.v (.int .i64 p_.Within)), .d (.v (.int .i64 p_.Delete)), .d (.v (.bool p_.React)), .d (.v (.int .i64 p_.Thread)), .d (.v (.bool p_.Quote)), .d (.v (.bool p_.Mention)), .d (.v (.int .i64 p_.Size)), .d (.v (.int .i64 p_.Parts)), .d (.v (.int .i64 p_.Files)), .d (.v (.int .i64 p_.Bytes)), .d (.fz (List.map encS p_.Types)), .d (.v (.int .i64 p_.Join)), .d (.v (.int .i64 p_.History)), .d (.v (.int .i64 p_.Remove)), .d (.v (.int .i64 p_.Level)), .d (.v (.bool p_.Batch)), .d (.v (.int .i64 p_.Rate)), .d (.v (.int .i64 p_.Down)), .d (.v (.int .i64 p_.Window)), .d (.v (.int .i64 p_.Keep))]) _ rfl ?_
            refine R.nil ?_
            refine R.at_ rfl rfl ?_
            refine R.one rfl ?_
            refine W.det (.d (.v (.int .i64 p2_))) _ rfl ?_
            refine R.nil ?_
            refine R.at_ rfl rfl ?_
            refine R.one rfl ?_
            refine bindK h fun y23 hy23 h => ?_
            refine W.call rfl (admit_Plan_fn hy23) ?_
            refine W.v (.tup [.row 1048683 1 (List.map (encI .i64) y23.1).length, .d (.v (.int .i64 y23.2.1)), .d (.v (.int .i64 y23.2.2))]) (.tup [.row 1048683 1 y23.1.length, .d (.v (.int .i64 y23.2.1)), .d (.v (.int .i64 y23.2.2))]) (Mem.add (Mem.set _ 96 3 (some (.rows 3 (List.map api_Job.enc ((([] : List api_Job) ++ (List.drop (0 : Int).toNat (List.take (Int.tmod (IntKind.i64.wrap p3_) (p1_.length : Int)).toNat p1_))) ++ (List.drop (IntKind.i64.wrap ((Int.tmod (IntKind.i64.wrap p3_) (p1_.length : Int)) + (1 : Int))).toNat (List.take (p1_.length : Int).toNat p1_)))) true))) 1048683 (.rows 1 (List.map (encI .i64) y23.1) false)) rfl (by simp only [List.length_map]) ?_
            refine R.nil ?_
            refine R.at_ rfl rfl ?_
            refine R.one rfl ?_
            refine W.det (.tup [.row 1048683 1 y23.1.length, .d (.v (.int .i64 y23.2.1)), .d (.v (.int .i64 y23.2.2))]) _ rfl ?_
            refine R.nil ?_
            refine R.at_ rfl rfl ?_
            refine R.one rfl ?_
            refine W.det (.row 1048683 1 y23.1.length) _ rfl ?_
            refine R.nil ?_
            refine R.at_ rfl rfl ?_
            refine R.one rfl ?_
            refine W.det (.d (.v (.int .i64 y23.2.1))) _ rfl ?_
            refine R.nil ?_
            refine R.at_ rfl rfl ?_
            refine R.one rfl ?_
            refine W.det (.d (.v (.int .i64 y23.2.2))) _ rfl ?_
            refine R.nil ?_
            refine R.at_ rfl rfl ?_
            refine R.one rfl ?_
            refine W.det (.row 1048683 1 y23.1.length) _ rfl ?_
            refine R.nil ?_
            refine R.at_ rfl rfl ?_
            refine R.one rfl ?_
            refine W.det (.d (.v (.int .i64 y23.2.1))) _ rfl ?_
            refine R.nil ?_
            refine R.at_ rfl rfl ?_
            refine R.one rfl ?_
            refine W.det (.d (.v (.int .i64 y23.2.2))) _ rfl ?_
            refine R.nil ?_
            refine R.end_ ?_
            refine seqK.n ?_
            refine A.seq rfl ?_
            refine A.regionD (by kernel_rfl) ?_
            refine R.one rfl ?_
            refine W.det (.d (.v (.bool y1))) _ rfl ?_
            refine R.one rfl ?_
            refine W.det (.d (.v (.bool y1))) _ rfl ?_
            refine R.gT rfl rfl rfl h (fun _ h => ?_) (fun _ h => ?_)
            · refine W.det (.agg [.d (.v (.string p_.Name)), .d (.v (.int .i64 p_.Edit)), .d (.v (.int .i64 p_.Within)), .d (.v (.int .i64 p_.Delete)), .d (.v (.bool p_.React)), .d (.v (.int .i64 p_.Thread)), .d (.v (.bool p_.Quote)), .d (.v (.bool p_.Mention)), .d (.v (.int .i64 p_.Size)), .d (.v (.int .i64 p_.Parts)), .d (.v (.int .i64 p_.Files)), .d (.v (.int .i64 p_.Bytes)), .d (.fz (List.map encS p_.Types)), .d (.v (.int .i64 p_.Join)), .d (.v (.int .i64 p_.History)), .d (.v (.int .i64 p_.Remove)), .d (.v (.int .i64 p_.Level)), .d (.v (.bool p_.Batch)), .d (.v (.int .i64 p_.Rate)), .d (.v (.int .i64 p_.Down)), .d (.v (.int .i64 p_.Window)), .d (.v (.int .i64 p_.Keep))]) _ rfl ?_
              refine R.run rfl rfl rfl ?_
              refine W.det (.d (.fz (List.map api_Job.enc p1_))) _ rfl ?_
              refine R.run rfl rfl rfl ?_
              refine W.det (.d (.v (.int .i64 p2_))) _ rfl ?_
              refine R.run rfl rfl rfl ?_
              refine W.det (.row 70 2 (([] : List Int) ++ y4.1).length) _ rfl ?_
              refine R.run rfl rfl rfl ?_
              refine bindK h fun y24 hy24 h => ?_
              refine W.call rfl (admit_Check_fn hy24) ?_
              refine W.det (.d (.v (.int .i64 y24))) _ rfl ?_
              refine R.run rfl rfl rfl ?_
              refine W.det (.d (.v (.bool (y24 == (18 : Int))))) _ rfl ?_
              refine R.one rfl ?_
              refine W.det (.d (.v (.bool (y24 == (18 : Int))))) _ rfl ?_
              refine R.one rfl ?_
              refine W.det (.d (.v (.bool (y24 == (18 : Int))))) _ rfl ?_
              refine R.gT rfl rfl rfl h (fun _ h => ?_) (fun _ h => ?_)
              · refine W.det (.agg [.d (.v (.string p_.Name)), .d (.v (.int .i64 p_.Edit)), .d (.v (.int .i64 p_.Within)), .d (.v (.int .i64 p_.Delete)), .d (.v (.bool p_.React)), .d (.v (.int .i64 p_.Thread)), .d (.v (.bool p_.Quote)), .d (.v (.bool p_.Mention)), .d (.v (.int .i64 p_.Size)), .d (.v (.int .i64 p_.Parts)), .d (.v (.int .i64 p_.Files)), .d (.v (.int .i64 p_.Bytes)), .d (.fz (List.map encS p_.Types)), .d (.v (.int .i64 p_.Join)), .d (.v (.int .i64 p_.History)), .d (.v (.int .i64 p_.Remove)), .d (.v (.int .i64 p_.Level)), .d (.v (.bool p_.Batch)), .d (.v (.int .i64 p_.Rate)), .d (.v (.int .i64 p_.Down)), .d (.v (.int .i64 p_.Window)), .d (.v (.int .i64 p_.Keep))]) _ rfl ?_
                refine R.run rfl rfl rfl ?_
                refine W.det (.d (.fz (List.map api_Job.enc p1_))) _ rfl ?_
                refine R.run rfl rfl rfl ?_
                refine W.det (.d (.v (.int .i64 p2_))) _ rfl ?_
                refine R.run rfl rfl rfl ?_
                refine W.det (.row 81 2 (([] : List Int) ++ y4.1).length) _ rfl ?_
                refine R.run rfl rfl rfl ?_
                refine bindK h fun y25 hy25 h => ?_
                refine W.call rfl (admit_Check_fn hy25) ?_
                refine W.det (.d (.v (.int .i64 y25))) _ rfl ?_
                refine R.run rfl rfl rfl ?_
                refine W.det (.d (.v (.bool (y25 == (0 : Int))))) _ rfl ?_
                refine R.one rfl ?_
                refine W.det (.d (.v (.bool (y25 == (0 : Int))))) _ rfl ?_
                refine R.one rfl ?_
                refine W.det (.d (.v (.bool (y25 == (0 : Int))))) _ rfl ?_
                refine R.gT rfl rfl rfl h (fun _ h => ?_) (fun _ h => ?_)
                · refine W.det (.agg [.d (.v (.string p_.Name)), .d (.v (.int .i64 p_.Edit)), .d (.v (.int .i64 p_.Within)), .d (.v (.int .i64 p_.Delete)), .d (.v (.bool p_.React)), .d (.v (.int .i64 p_.Thread)), .d (.v (.bool p_.Quote)), .d (.v (.bool p_.Mention)), .d (.v (.int .i64 p_.Size)), .d (.v (.int .i64 p_.Parts)), .d (.v (.int .i64 p_.Files)), .d (.v (.int .i64 p_.Bytes)), .d (.fz (List.map encS p_.Types)), .d (.v (.int .i64 p_.Join)), .d (.v (.int .i64 p_.History)), .d (.v (.int .i64 p_.Remove)), .d (.v (.int .i64 p_.Level)), .d (.v (.bool p_.Batch)), .d (.v (.int .i64 p_.Rate)), .d (.v (.int .i64 p_.Down)), .d (.v (.int .i64 p_.Window)), .d (.v (.int .i64 p_.Keep))]) _ rfl ?_
                  refine R.run rfl rfl rfl ?_
                  refine W.det (.d (.fz (List.map api_Job.enc p1_))) _ rfl ?_
                  refine R.run rfl rfl rfl ?_
                  refine W.det (.d (.v (.int .i64 p2_))) _ rfl ?_
                  refine R.run rfl rfl rfl ?_
                  refine W.det (.row 1048607 1 y4.1.length) _ rfl ?_
                  refine R.run rfl rfl rfl ?_
                  refine W.det (.d (.v (.int .i64 (Int.tmod (IntKind.i64.wrap p3_) (p1_.length : Int))))) _ rfl ?_
                  refine R.run rfl rfl rfl ?_
                  refine chkK h fun g26 h => ?_
                  refine W.chk rfl (cutO_all g26) ?_
                  refine W.det (.sub 1048607 1 (0 : Int).toNat ((Int.tmod (IntKind.i64.wrap p3_) (p1_.length : Int)) - (0 : Int)).toNat) _ rfl ?_
                  refine R.run rfl rfl rfl ?_
                  refine bindK h fun y27 hy27 h => ?_
                  refine W.call rfl (Fn.cast (admit_Check_fn hy27) (by simp only [partMap])) ?_
                  refine W.det (.d (.v (.int .i64 y27))) _ rfl ?_
                  refine R.run rfl rfl rfl ?_
                  refine W.det (.d (.v (.bool (y27 == (18 : Int))))) _ rfl ?_
                  refine R.one rfl ?_
                  refine W.det (.d (.v (.bool (y27 == (18 : Int))))) _ rfl ?_
                  refine R.one rfl ?_
                  refine W.det (.d (.v (.bool (y27 == (18 : Int))))) _ rfl ?_
                  refine R.gT rfl rfl rfl h (fun _ h => ?_) (fun _ h => ?_)
                  · refine W.det (.d (.v (.int .i64 y23.2.2))) _ rfl ?_
                    refine R.run rfl rfl rfl ?_
                    refine W.det (.d (.v (.bool (y23.2.2 == (0 : Int))))) _ rfl ?_
                    refine R.one rfl ?_
                    refine W.det (.d (.v (.bool (y23.2.2 == (0 : Int))))) _ rfl ?_
                    refine R.one rfl ?_
                    refine W.det (.d (.v (.bool (y23.2.2 == (0 : Int))))) _ rfl ?_
                    refine R.nil ?_
                    refine seqK.n ?_
                    refine A.ret ?_
                    injection h with h
                    subst h
                    cases hG
                    exact ⟨rfl, trivial⟩
                  · refine R.skip rfl rfl rfl ?_
                    refine R.one rfl ?_
                    refine W.det (.kb false) _ rfl ?_
                    refine R.one rfl ?_
                    refine W.det (.kb false) _ rfl ?_
                    refine R.nil ?_
                    refine seqK.n ?_
                    refine A.ret ?_
                    injection h with h
                    subst h
                    cases hG
                    exact ⟨rfl, trivial⟩
                · refine R.skip rfl rfl rfl ?_
                  refine R.skip rfl rfl rfl ?_
                  refine R.skip rfl rfl rfl ?_
                  refine R.skip rfl rfl rfl ?_
                  refine R.skip rfl rfl rfl ?_
                  refine R.skip rfl rfl rfl ?_
                  refine R.skip rfl rfl rfl ?_
                  refine R.one rfl ?_
                  refine W.det (.kb false) _ rfl ?_
                  refine R.one rfl ?_
                  refine W.det (.kb false) _ rfl ?_
                  refine R.skip rfl rfl rfl ?_
                  refine R.skip rfl rfl rfl ?_
                  refine R.one rfl ?_
                  refine W.det (.kb false) _ rfl ?_
                  refine R.one rfl ?_
                  refine W.det (.kb false) _ rfl ?_
                  refine R.nil ?_
                  refine seqK.n ?_
                  refine A.ret ?_
                  injection h with h
                  subst h
                  cases hG
                  exact ⟨rfl, trivial⟩
              · refine R.skip rfl rfl rfl ?_
                refine R.skip rfl rfl rfl ?_
                refine R.skip rfl rfl rfl ?_
                refine R.skip rfl rfl rfl ?_
                refine R.skip rfl rfl rfl ?_
                refine R.one rfl ?_
                refine W.det (.kb false) _ rfl ?_
                refine R.one rfl ?_
                refine W.det (.kb false) _ rfl ?_
                refine R.skip rfl rfl rfl ?_
                refine R.skip rfl rfl rfl ?_
                refine R.skip rfl rfl rfl ?_
                refine R.skip rfl rfl rfl ?_
                refine R.skip rfl rfl rfl ?_
                refine R.skip rfl rfl rfl ?_
                refine R.skip rfl rfl rfl ?_
                refine R.skip rfl rfl rfl ?_
                refine R.one rfl ?_
                refine W.det (.kb false) _ rfl ?_
                refine R.one rfl ?_
                refine W.det (.kb false) _ rfl ?_
                refine R.skip rfl rfl rfl ?_
                refine R.skip rfl rfl rfl ?_
                refine R.one rfl ?_
                refine W.det (.kb false) _ rfl ?_
                refine R.one rfl ?_
                refine W.det (.kb false) _ rfl ?_
                refine R.nil ?_
                refine seqK.n ?_
                refine A.ret ?_
                injection h with h
                subst h
                cases hG
                exact ⟨rfl, trivial⟩
            · refine R.skip rfl rfl rfl ?_
              refine R.skip rfl rfl rfl ?_
              refine R.skip rfl rfl rfl ?_
              refine R.skip rfl rfl rfl ?_
              refine R.skip rfl rfl rfl ?_
              refine R.one rfl ?_
              refine W.det (.kb false) _ rfl ?_
              refine R.one rfl ?_
              refine W.det (.kb false) _ rfl ?_
              refine R.skip rfl rfl rfl ?_
              refine R.skip rfl rfl rfl ?_
              refine R.skip rfl rfl rfl ?_
              refine R.skip rfl rfl rfl ?_
              refine R.skip rfl rfl rfl ?_
              refine R.skip rfl rfl rfl ?_
              refine R.one rfl ?_
              refine W.det (.kb false) _ rfl ?_
              refine R.one rfl ?_
              refine W.det (.kb false) _ rfl ?_
              refine R.skip rfl rfl rfl ?_
              refine R.skip rfl rfl rfl ?_
              refine R.skip rfl rfl rfl ?_
              refine R.skip rfl rfl rfl ?_
              refine R.skip rfl rfl rfl ?_
              refine R.skip rfl rfl rfl ?_
              refine R.skip rfl rfl rfl ?_
              refine R.skip rfl rfl rfl ?_
              refine R.one rfl ?_
              refine W.det (.kb false) _ rfl ?_
              refine R.one rfl ?_
              refine W.det (.kb false) _ rfl ?_
              refine R.skip rfl rfl rfl ?_
              refine R.skip rfl rfl rfl ?_
              refine R.one rfl ?_
              refine W.det (.kb false) _ rfl ?_
              refine R.one rfl ?_
              refine W.det (.kb false) _ rfl ?_
              refine R.nil ?_
              refine seqK.n ?_
              refine A.ret ?_
              injection h with h
              subst h
              cases hG
              exact ⟨rfl, trivial⟩
end Go.Proofs.Ytafgcjodefafoaa

/-
  Plain programs of functions, and that the functions do what they say. Printed by wip/tools/gen.py.
-/
import Derived.Test.YtafgcjodefafoaaG3
namespace Go.Proofs.Ytafgcjodefafoaa
open Go.RowKit
attribute [local irreducible] IntKind.wrap
set_option linter.unusedVariables false
set_option maxHeartbeats 4000000
set_option maxRecDepth 100000
noncomputable def law29_AdmitRoom (p_ : api_Profile) (p1_ : (List api_Job)) (p2_ : Int) (p3_ : Int) (p4_ : Int) : Option (Bool) :=
  (law29_small).bind fun y1 =>
  (law29_few p_ p1_).bind fun y5 =>
  (bif (!y5) then
    some y1
  else
    (bif (decide (p3_ < (0 : Int))) then
      some y1
    else
      (bif (decide ((1073676288 : Int) < p3_)) then
        some y1
      else
        (admit_Plan p_ p1_ p2_).bind fun y6 =>
        (admit_Room p_ p1_ p2_ p3_).bind fun y7 =>
        (bif (y6.2.2 != (0 : Int)) then
          (bif y1 then
            some (y7 == (0 : Int))
          else
            some false)
        else
          (ref29_New p1_).bind fun y8 =>
          (chkO (decide (0 + p1_.length ≤ 1000000))).bind fun _ =>
          (chkO (decide ((([] : List api_Job) ++ p1_).length + [(api_Job.mk y8 (IntKind.i64.wrap (y7 + (1 : Int))) p3_)].length ≤ 1000000))).bind fun _ =>
          (admit_Plan p_ ((([] : List api_Job) ++ p1_) ++ [(api_Job.mk y8 (IntKind.i64.wrap (y7 + (1 : Int))) p3_)]) p2_).bind fun y11 =>
          (bif (decide (y7 < (0 : Int))) then
            some false
          else
            (bif (decide ((1099511627776 : Int) < y7)) then
              some false
            else
              (bif (y11.2.2 == (0 : Int)) then
                some false
              else
                (admit_Room p_ p1_ p2_ (IntKind.i64.wrap (p3_ + (IntKind.i64.wrap p4_)))).bind fun y15 =>
                (bif (decide (y15 < y7)) then
                  some false
                else
                  (bif (y7 == (0 : Int)) then
                    some y1
                  else
                    (chkO (decide ((([] : List api_Job) ++ p1_).length + [(api_Job.mk y8 y7 p3_)].length ≤ 1000000))).bind fun _ =>
                    (admit_Plan p_ ((([] : List api_Job) ++ p1_) ++ [(api_Job.mk y8 y7 p3_)]) p2_).bind fun y18 =>
                    (bif y1 then
                      (bif (y18.2.2 == (0 : Int)) then
                        (bif (y7 == (1099511627776 : Int)) then
                          some true
                        else
                          (admit_Room p_ ((([] : List api_Job) ++ p1_) ++ [(api_Job.mk y8 y7 p3_)]) p2_ p3_).bind fun y19 =>
                          some (y19 == (0 : Int)))
                      else
                        some false)
                    else
                      some false))))))))))
theorem law29_AdmitRoom_fn {p_ : api_Profile} {p1_ : (List api_Job)} {p2_ : Int} {p3_ : Int} {p4_ : Int} {r : Bool} (h : law29_AdmitRoom p_ p1_ p2_ p3_ p4_ = some r) : Fn Try.prog 5 [.agg [.d (.v (.string p_.Name)), .d (.v (.int .i64 p_.Edit)), .d (.v (.int .i64 p_.Within)), .d (.v (.int .i64 p_.Delete)), .d (.v (.bool p_.React)), .d (.v (.int .i64 p_.Thread)), .d (.v (.bool p_.Quote)), .d (.v (.bool p_.Mention)), .d (.v (.int .i64 p_.Size)), .d (.v (.int .i64 p_.Parts)), .d (.v (.int .i64 p_.Files)), .d (.v (.int .i64 p_.Bytes)), .d (.fz (List.map encS p_.Types)), .d (.v (.int .i64 p_.Join)), .d (.v (.int .i64 p_.History)), .d (.v (.int .i64 p_.Remove)), .d (.v (.int .i64 p_.Level)), .d (.v (.bool p_.Batch)), .d (.v (.int .i64 p_.Rate)), .d (.v (.int .i64 p_.Down)), .d (.v (.int .i64 p_.Window)), .d (.v (.int .i64 p_.Keep))], .d (.fz (List.map api_Job.enc p1_)), .d (.v (.int .i64 p2_)), .d (.v (.int .i64 p3_)), .d (.v (.int .u16 p4_))] (.d (.v (.bool r))) := by
  refine Fn.of_AW (F := FnX Try.prog) (base := 0) (js := []) mixed tok noeqs (fun _ _ _ h => h) Try.call5 Try.func5 rfl Try.ntmps5 (by rw [Try.results5]) (by simp) ?_
  have hG : (fun x => x = r) r := rfl
  unfold law29_AdmitRoom at h
  refine A.seq rfl ?_
  refine A.region ?_
  refine R.one rfl ?_
  refine W.det (.lp 5 1 0) (Mem.add _ 5 (.box [.d (.v (.string p_.Name)), .d (.v (.int .i64 p_.Edit)), .d (.v (.int .i64 p_.Within)), .d (.v (.int .i64 p_.Delete)), .d (.v (.bool p_.React)), .d (.v (.int .i64 p_.Thread)), .d (.v (.bool p_.Quote)), .d (.v (.bool p_.Mention)), .d (.v (.int .i64 p_.Size)), .d (.v (.int .i64 p_.Parts)), .d (.v (.int .i64 p_.Files)), .d (.v (.int .i64 p_.Bytes)), .d (.fz (List.map encS p_.Types)), .d (.v (.int .i64 p_.Join)), .d (.v (.int .i64 p_.History)), .d (.v (.int .i64 p_.Remove)), .d (.v (.int .i64 p_.Level)), .d (.v (.bool p_.Batch)), .d (.v (.int .i64 p_.Rate)), .d (.v (.int .i64 p_.Down)), .d (.v (.int .i64 p_.Window)), .d (.v (.int .i64 p_.Keep))])) rfl ?_
  refine R.one rfl ?_
  refine W.det (.kb false) _ rfl ?_
  refine R.nil ?_
  refine seqK.n ?_
  refine A.seq rfl ?_
  refine A.region ?_
  refine R.one rfl ?_
  refine bindK h fun y1 hy1 h => ?_
  refine W.call rfl (law29_small_fn hy1) ?_
  refine W.det (.d (.v (.bool y1))) _ rfl ?_
  refine R.one rfl ?_
  refine W.det (.d (.v (.bool y1))) _ rfl ?_
  refine R.nil ?_
  refine seqK.n ?_
  refine A.seq rfl ?_
  refine A.seq rfl ?_
  refine A.region ?_
  refine R.one rfl ?_
  refine W.det (.agg [.d (.v (.string p_.Name)), .d (.v (.int .i64 p_.Edit)), .d (.v (.int .i64 p_.Within)), .d (.v (.int .i64 p_.Delete)), .d (.v (.bool p_.React)), .d (.v (.int .i64 p_.Thread)), .d (.v (.bool p_.Quote)), .d (.v (.bool p_.Mention)), .d (.v (.int .i64 p_.Size)), .d (.v (.int .i64 p_.Parts)), .d (.v (.int .i64 p_.Files)), .d (.v (.int .i64 p_.Bytes)), .d (.fz (List.map encS p_.Types)), .d (.v (.int .i64 p_.Join)), .d (.v (.int .i64 p_.History)), .d (.v (.int .i64 p_.Remove)), .d (.v (.int .i64 p_.Level)), .d (.v (.bool p_.Batch)), .d (.v (.int .i64 p_.Rate)), .d (.v (.int .i64 p_.Down)), .d (.v (.int .i64 p_.Window)), .d (.v (.int .i64 p_.Keep))]) _ rfl ?_
  refine R.one rfl ?_
  refine W.det (.d (.fz (List.map api_Job.enc p1_))) _ rfl ?_
  refine R.one rfl ?_
  refine bindK h fun y5 hy5 h => ?_
  refine W.call rfl (law29_few_fn hy5) ?_
  refine W.det (.d (.v (.bool y5))) _ rfl ?_
  refine R.one rfl ?_
  refine W.det (.d (.v (.bool (!y5)))) _ rfl ?_
  refine R.one rfl ?_
  refine W.det (.d (.v (.bool (!y5)))) _ rfl ?_
  refine R.gF rfl rfl rfl h (fun _ h => ?_) (fun _ h => ?_)
  · refine R.skip rfl rfl rfl ?_
    refine R.one rfl ?_
    refine W.det (.kb true) _ rfl ?_
    refine R.one rfl ?_
    refine W.det (.kb true) _ rfl ?_
    refine R.skip rfl rfl rfl ?_
    refine R.skip rfl rfl rfl ?_
    refine R.one rfl ?_
    refine W.det (.kb true) _ rfl ?_
    refine R.nil ?_
    refine seqK.n ?_
    refine A.condT rfl ?_
    refine A.seq rfl ?_
    refine A.region ?_
    refine R.one rfl ?_
    refine W.det (.d (.v (.bool y1))) _ rfl ?_
    refine R.one rfl ?_
    refine W.det (.d (.v (.bool y1))) _ rfl ?_
    refine R.nil ?_
    refine seqK.n ?_
    refine A.ret ?_
    refine seqK.r ?_
    injection h with h
    subst h
    cases hG
    exact ⟨rfl, trivial⟩
  · refine W.det (.d (.v (.int .i64 p3_))) _ rfl ?_
    refine R.run rfl rfl rfl ?_
    refine W.det (.d (.v (.bool (decide (p3_ < (0 : Int)))))) _ rfl ?_
    refine R.one rfl ?_
    refine W.det (.d (.v (.bool (decide (p3_ < (0 : Int)))))) _ rfl ?_
    refine R.one rfl ?_
    refine W.det (.d (.v (.bool (decide (p3_ < (0 : Int)))))) _ rfl ?_
    refine R.gF rfl rfl rfl h (fun _ h => ?_) (fun _ h => ?_)
    · refine R.skip rfl rfl rfl ?_
      refine R.one rfl ?_
      refine W.det (.kb true) _ rfl ?_
      refine R.nil ?_
      refine seqK.n ?_
      refine A.condT rfl ?_
      refine A.seq rfl ?_
      refine A.region ?_
      refine R.one rfl ?_
      refine W.det (.d (.v (.bool y1))) _ rfl ?_
      refine R.one rfl ?_
      refine W.det (.d (.v (.bool y1))) _ rfl ?_
      refine R.nil ?_
      refine seqK.n ?_
      refine A.ret ?_
      refine seqK.r ?_
      injection h with h
      subst h
      cases hG
      exact ⟨rfl, trivial⟩
    · refine W.det (.d (.v (.int .i64 p3_))) _ rfl ?_
      refine R.run rfl rfl rfl ?_
      refine W.det (.d (.v (.bool (decide ((1073676288 : Int) < p3_))))) _ rfl ?_
      refine R.one rfl ?_
      refine W.det (.d (.v (.bool (decide ((1073676288 : Int) < p3_))))) _ rfl ?_
      refine R.nil ?_
      refine seqK.n ?_
      refine A.condB rfl h (fun _ h => ?_) (fun _ h => ?_)
      · refine A.seq rfl ?_
        refine A.region ?_
        refine R.one rfl ?_
        refine W.det (.d (.v (.bool y1))) _ rfl ?_
        refine R.one rfl ?_
        refine W.det (.d (.v (.bool y1))) _ rfl ?_
        refine R.nil ?_
        refine seqK.n ?_
        refine A.ret ?_
        refine seqK.r ?_
        injection h with h
        subst h
        cases hG
        exact ⟨rfl, trivial⟩
      · refine A.skip ?_
        refine seqK.n ?_
        refine A.seq rfl ?_
        refine A.region ?_
        refine R.one rfl ?_
        refine W.det (.agg [.d (.v (.string p_.Name)), .d (.v (.int .i64 p_.Edit)), .d (.v (.int .i64 p_.Within)), .d (.v (.int .i64 p_.Delete)), .d (.v (.bool p_.React)), .d (.v (.int .i64 p_.Thread)), .d (.v (.bool p_.Quote)), .d (.v (.bool p_.Mention)), .d (.v (.int .i64 p_.Size)), .d (.v (.int .i64 p_.Parts)), .d (.v (.int .i64 p_.Files)), .d (.v (.int .i64 p_.Bytes)), .d (.fz (List.map encS p_.Types)), .d (.v (.int .i64 p_.Join)), .d (.v (.int .i64 p_.History)), .d (.v (.int .i64 p_.Remove)), .d (.v (.int .i64 p_.Level)), .d (.v (.bool p_.Batch)), .d (.v (.int .i64 p_.Rate)), .d (.v (.int .i64 p_.Down)), .d (.v (.int .i64 p_.Window)), .d (.v (.int .i64 p_.Keep))]) _ rfl ?_
        refine R.one rfl ?_
        refine W.det (.d (.fz (List.map api_Job.enc p1_))) _ rfl ?_
        refine R.one rfl ?_
        refine W.det (.d (.v (.int .i64 p2_))) _ rfl ?_
        refine R.one rfl ?_
        refine bindK h fun y6 hy6 h => ?_
        refine W.call rfl (admit_Plan_fn hy6) ?_
        refine W.v (.tup [.row 1048618 1 (List.map (encI .i64) y6.1).length, .d (.v (.int .i64 y6.2.1)), .d (.v (.int .i64 y6.2.2))]) (.tup [.row 1048618 1 y6.1.length, .d (.v (.int .i64 y6.2.1)), .d (.v (.int .i64 y6.2.2))]) (Mem.add _ 1048618 (.rows 1 (List.map (encI .i64) y6.1) false)) rfl (by simp only [List.length_map]) ?_
        refine R.one rfl ?_
        refine W.det (.tup [.row 1048618 1 y6.1.length, .d (.v (.int .i64 y6.2.1)), .d (.v (.int .i64 y6.2.2))]) _ rfl ?_
        refine R.one rfl ?_
        refine W.det (.row 1048618 1 y6.1.length) _ rfl ?_
        refine R.one rfl ?_
        refine W.det (.d (.v (.int .i64 y6.2.1))) _ rfl ?_
        refine R.one rfl ?_
        refine W.det (.d (.v (.int .i64 y6.2.2))) _ rfl ?_
        refine R.one rfl ?_
        refine W.det (.row 1048618 1 y6.1.length) _ rfl ?_
        refine R.one rfl ?_
        refine W.det (.d (.v (.int .i64 y6.2.1))) _ rfl ?_
        refine R.one rfl ?_
        refine W.det (.d (.v (.int .i64 y6.2.2))) _ rfl ?_
        refine R.nil ?_
        refine seqK.n ?_
        refine A.seq rfl ?_
        refine A.region ?_
        refine R.one rfl ?_
        refine W.det (.agg [.d (.v (.string p_.Name)), .d (.v (.int .i64 p_.Edit)), .d (.v (.int .i64 p_.Within)), .d (.v (.int .i64 p_.Delete)), .d (.v (.bool p_.React)), .d (.v (.int .i64 p_.Thread)), .d (.v (.bool p_.Quote)), .d (.v (.bool p_.Mention)), .d (.v (.int .i64 p_.Size)), .d (.v (.int .i64 p_.Parts)), .d (.v (.int .i64 p_.Files)), .d (.v (.int .i64 p_.Bytes)), .d (.fz (List.map encS p_.Types)), .d (.v (.int .i64 p_.Join)), .d (.v (.int .i64 p_.History)), .d (.v (.int .i64 p_.Remove)), .d (.v (.int .i64 p_.Level)), .d (.v (.bool p_.Batch)), .d (.v (.int .i64 p_.Rate)), .d (.v (.int .i64 p_.Down)), .d (.v (.int .i64 p_.Window)), .d (.v (.int .i64 p_.Keep))]) _ rfl ?_
        refine R.one rfl ?_
        refine W.det (.d (.fz (List.map api_Job.enc p1_))) _ rfl ?_
        refine R.one rfl ?_
        refine W.det (.d (.v (.int .i64 p2_))) _ rfl ?_
        refine R.one rfl ?_
        refine W.det (.d (.v (.int .i64 p3_))) _ rfl ?_
        refine R.one rfl ?_
        refine bindK h fun y7 hy7 h => ?_
        refine W.call rfl (admit_Room_fn hy7) ?_
        refine W.det (.d (.v (.int .i64 y7))) _ rfl ?_
        refine R.one rfl ?_
        refine W.det (.d (.v (.int .i64 y7))) _ rfl ?_
        refine R.nil ?_
        refine seqK.n ?_
        refine A.seq rfl ?_
        refine A.seq rfl ?_
        refine A.region ?_
        refine R.one rfl ?_
        refine W.det (.d (.v (.int .i64 y6.2.2))) _ rfl ?_
        refine R.one rfl ?_
        refine W.det (.d (.v (.bool (y6.2.2 != (0 : Int))))) _ rfl ?_
        refine R.nil ?_
        refine seqK.n ?_
        refine A.condB rfl h (fun _ h => ?_) (fun _ h => ?_)
        · refine A.seq rfl ?_
          refine A.region ?_
          refine R.one rfl ?_
          refine W.det (.d (.v (.bool y1))) _ rfl ?_
          refine R.one rfl ?_
          refine W.det (.d (.v (.bool y1))) _ rfl ?_
          refine R.gT rfl rfl rfl h (fun _ h => ?_) (fun _ h => ?_)
          · refine W.det (.d (.v (.int .i64 y7))) _ rfl ?_
            refine R.run rfl rfl rfl ?_
            refine W.det (.d (.v (.bool (y7 == (0 : Int))))) _ rfl ?_
            refine R.one rfl ?_
            refine W.det (.d (.v (.bool (y7 == (0 : Int))))) _ rfl ?_
            refine R.one rfl ?_
            refine W.det (.d (.v (.bool (y7 == (0 : Int))))) _ rfl ?_
            refine R.nil ?_
            refine seqK.n ?_
            refine A.ret ?_
            refine seqK.r ?_
            injection h with h
            subst h
            cases hG
            exact ⟨rfl, trivial⟩
          · refine R.skip rfl rfl rfl ?_
            refine R.one rfl ?_
            refine W.det (.kb false) _ rfl ?_
            refine R.one rfl ?_
            refine W.det (.kb false) _ rfl ?_
            refine R.nil ?_
            refine seqK.n ?_
            refine A.ret ?_
            refine seqK.r ?_
            injection h with h
            subst h
            cases hG
            exact ⟨rfl, trivial⟩
        · refine A.skip ?_
          refine seqK.n ?_
          refine A.seq rfl ?_
          refine A.region ?_
          refine R.one rfl ?_
          refine W.det (.d (.fz (List.map api_Job.enc p1_))) _ rfl ?_
          refine R.one rfl ?_
          refine bindK h fun y8 hy8 h => ?_
          refine W.call rfl (ref29_New_fn hy8) ?_
          refine W.det (.d (.v (.int .i64 y8))) _ rfl ?_
          refine R.one rfl ?_
          refine W.det (.d (.v (.int .i64 y7))) _ rfl ?_
          refine R.one rfl ?_
          refine W.det (.d (.v (.int .i64 (IntKind.i64.wrap (y7 + (1 : Int)))))) _ rfl ?_
          refine R.one rfl ?_
          refine W.det (.d (.v (.int .i64 p3_))) _ rfl ?_
          refine R.one rfl ?_
          refine W.det (.agg [.d (.v (.int .i64 y8)), .d (.v (.int .i64 (IntKind.i64.wrap (y7 + (1 : Int))))), .d (.v (.int .i64 p3_))]) _ rfl ?_
          refine R.one rfl ?_
          refine W.det (.lp 16 1 0) (Mem.add _ 16 (.box [.d (.v (.int .i64 (0 : Int))), .d (.v (.int .i64 (0 : Int))), .d (.v (.int .i64 (0 : Int)))])) rfl ?_
          refine R.one rfl ?_
          refine W.det (.tup []) (Mem.set _ 16 1 (some (.box [.d (.v (.int .i64 y8)), .d (.v (.int .i64 (IntKind.i64.wrap (y7 + (1 : Int))))), .d (.v (.int .i64 p3_))]))) rfl ?_
          refine R.nil ?_
          refine seqK.n ?_
          refine A.seq rfl ?_
          refine A.regionC [1, 2, 3, 4, 5, 6, 0, 7, 8, 9, 10, 11, 12, 13, 14, 15] (by kernel_rfl) ?_
          refine R.at_ rfl rfl ?_
          refine R.one rfl ?_
          refine W.det (.row 66 1 0) (Mem.add _ 66 (.rows 3 (List.map api_Job.enc ([] : List api_Job)) false)) rfl ?_
          refine R.nil ?_
          refine R.at_ rfl rfl ?_
          refine R.one rfl ?_
          refine W.det (.d (.fz (List.map api_Job.enc p1_))) _ rfl ?_
          refine R.nil ?_
          refine R.at_ rfl rfl ?_
          refine R.one rfl ?_
          refine chkK h fun g9 h => ?_
          refine W.chk rfl (appChk (fun _ => rfl) g9) ?_
          refine W.rows (0 + (List.map api_Job.enc p1_).length) (([] : List api_Job) ++ p1_).length ([] ++ (List.map api_Job.enc p1_)) (List.map api_Job.enc (([] : List api_Job) ++ p1_)) rfl (by first | rfl | (simp; done) | simp only [partMap, List.length_map, List.length_append, List.nil_append, Nat.zero_add, List.length_nil]) (by first | rfl | (simp; done) | simp only [partMap, List.map_append, List.nil_append, List.map_nil]) ?_
          refine R.nil ?_
          refine R.at_ rfl rfl ?_
          refine R.one rfl ?_
          refine W.det (.agg [.d (.v (.int .i64 y8)), .d (.v (.int .i64 (IntKind.i64.wrap (y7 + (1 : Int))))), .d (.v (.int .i64 p3_))]) _ rfl ?_
          refine R.nil ?_
          refine R.at_ rfl rfl ?_
          refine R.one rfl ?_
          refine W.det (.row 70 1 1) (Mem.add _ 70 (.rows 3 (List.map api_Job.enc [(api_Job.mk y8 (IntKind.i64.wrap (y7 + (1 : Int))) p3_)]) false)) rfl ?_
          refine R.nil ?_
          refine R.at_ rfl rfl ?_
          refine R.one rfl ?_
          refine chkK h fun g10 h => ?_
          refine W.chk rfl (appChk (fun _ => rfl) g10) ?_
          refine W.app rfl rfl ?_
          refine R.nil ?_
          refine R.at_ rfl rfl ?_
          refine R.one rfl ?_
          refine W.det (.agg [.d (.v (.string p_.Name)), .d (.v (.int .i64 p_.Edit)), .d (.v (.int .i64 p_.Within)), .d (.v (.int .i64 p_.Delete)), .d (.v (.bool p_.React)), .d (.v (.int .i64 p_.Thread)), .d (.v (.bool p_.Quote)), .d (.v (.bool p_.Mention)), .d (.v (.int .i64 p_.Size)), .d (.v (.int .i64 p_.Parts)), .d (.v (.int .i64 p_.Files)), .d (.v (.int .i64 p_.Bytes)), .d (.fz (List.map encS p_.Types)), .d (.v (.int .i64 p_.Join)), .d (.v (.int .i64 p_.History)), .d (.v (.int .i64 p_.Remove)), .d (.v (.int .i64 p_.Level)), .d (.v (.bool p_.Batch)), .d (.v (.int .i64 p_.Rate)), .d (.v (.int .i64 p_.Down)), .d (.v (.int .i64 p_.Window)), .d (.v (.int .i64 p_.Keep))]) _ rfl ?_
          refine R.nil ?_
          refine R.at_ rfl rfl ?_
          refine R.one rfl ?_
          refine W.det (.d (.v (.int .i64 p2_))) _ rfl ?_
          refine R.nil ?_
          refine R.at_ rfl rfl ?_
          refine R.one rfl ?_
          refine bindK h fun y11 hy11 h => ?_
          refine W.call rfl (admit_Plan_fn hy11) ?_
          refine W.v (.tup [.row 1048649 1 (List.map (encI .i64) y11.1).length, .d (.v (.int .i64 y11.2.1)), .d (.v (.int .i64 y11.2.2))]) (.tup [.row 1048649 1 y11.1.length, .d (.v (.int .i64 y11.2.1)), .d (.v (.int .i64 y11.2.2))]) (Mem.add (Mem.set _ 66 3 (some (.rows 3 (List.map api_Job.enc ((([] : List api_Job) ++ p1_) ++ [(api_Job.mk y8 (IntKind.i64.wrap (y7 + (1 : Int))) p3_)])) true))) 1048649 (.rows 1 (List.map (encI .i64) y11.1) false)) rfl (by simp only [List.length_map]) ?_
          refine R.nil ?_
          refine R.at_ rfl rfl ?_
          refine R.one rfl ?_
          refine W.det (.tup [.row 1048649 1 y11.1.length, .d (.v (.int .i64 y11.2.1)), .d (.v (.int .i64 y11.2.2))]) _ rfl ?_
          refine R.nil ?_
          refine R.at_ rfl rfl ?_
          refine R.one rfl ?_
          refine W.det (.row 1048649 1 y11.1.length) _ rfl ?_
          refine R.nil ?_
          refine R.at_ rfl rfl ?_
          refine R.one rfl ?_
          refine W.det (.d (.v (.int .i64 y11.2.1))) _ rfl ?_
          refine R.nil ?_
          refine R.at_ rfl rfl ?_
          refine R.one rfl ?_
          refine W.det (.d (.v (.int .i64 y11.2.2))) _ rfl ?_
          refine R.nil ?_
          refine R.at_ rfl rfl ?_
          refine R.one rfl ?_
          refine W.det (.row 1048649 1 y11.1.length) _ rfl ?_
          refine R.nil ?_
          refine R.at_ rfl rfl ?_
          refine R.one rfl ?_
          refine W.det (.d (.v (.int .i64 y11.2.1))) _ rfl ?_
          refine R.nil ?_
          refine R.at_ rfl rfl ?_
          refine R.one rfl ?_
          refine W.det (.d (.v (.int .i64 y11.2.2))) _ rfl ?_
          refine R.nil ?_
          refine R.end_ ?_
          refine seqK.n ?_
          refine A.seq rfl ?_
          refine A.seq rfl ?_
          refine A.region ?_
          refine R.one rfl ?_
          refine W.det (.d (.v (.int .i64 y7))) _ rfl ?_
          refine R.one rfl ?_
          refine W.det (.d (.v (.bool (decide (y7 < (0 : Int)))))) _ rfl ?_
          refine R.one rfl ?_
          refine W.det (.d (.v (.bool (decide (y7 < (0 : Int)))))) _ rfl ?_
          refine R.gF rfl rfl rfl h (fun _ h => ?_) (fun _ h => ?_)
          · refine R.skip rfl rfl rfl ?_
            refine R.one rfl ?_
            refine W.det (.kb true) _ rfl ?_
            refine R.one rfl ?_
            refine W.det (.kb true) _ rfl ?_
            refine R.skip rfl rfl rfl ?_
            refine R.skip rfl rfl rfl ?_
            refine R.one rfl ?_
            refine W.det (.kb true) _ rfl ?_
            refine R.one rfl ?_
            refine W.det (.kb true) _ rfl ?_
            refine R.skip rfl rfl rfl ?_
            refine R.skip rfl rfl rfl ?_
            refine R.skip rfl rfl rfl ?_
            refine R.skip rfl rfl rfl ?_
            refine R.skip rfl rfl rfl ?_
            refine R.skip rfl rfl rfl ?_
            refine R.skip rfl rfl rfl ?_
            refine R.skip rfl rfl rfl ?_
            refine R.skip rfl rfl rfl ?_
            refine R.skip rfl rfl rfl ?_
            refine R.one rfl ?_
            refine W.det (.kb true) _ rfl ?_
            refine R.nil ?_
            refine seqK.n ?_
            refine A.condT rfl ?_
            refine A.seq rfl ?_
            refine A.region ?_
            refine R.one rfl ?_
            refine W.det (.kb false) _ rfl ?_
            refine R.nil ?_
            refine seqK.n ?_
            refine A.ret ?_
            refine seqK.r ?_
            injection h with h
            subst h
            cases hG
            exact ⟨rfl, trivial⟩
          · refine W.det (.d (.v (.int .i64 y7))) _ rfl ?_
            refine R.run rfl rfl rfl ?_
            refine W.det (.d (.v (.bool (decide ((1099511627776 : Int) < y7))))) _ rfl ?_
            refine R.one rfl ?_
            refine W.det (.d (.v (.bool (decide ((1099511627776 : Int) < y7))))) _ rfl ?_
            refine R.one rfl ?_
            refine W.det (.d (.v (.bool (decide ((1099511627776 : Int) < y7))))) _ rfl ?_
            refine R.gF rfl rfl rfl h (fun _ h => ?_) (fun _ h => ?_)
            · refine R.skip rfl rfl rfl ?_
              refine R.one rfl ?_
              refine W.det (.kb true) _ rfl ?_
              refine R.one rfl ?_
              refine W.det (.kb true) _ rfl ?_
              refine R.skip rfl rfl rfl ?_
              refine R.skip rfl rfl rfl ?_
              refine R.skip rfl rfl rfl ?_
              refine R.skip rfl rfl rfl ?_
              refine R.skip rfl rfl rfl ?_
              refine R.skip rfl rfl rfl ?_
              refine R.skip rfl rfl rfl ?_
              refine R.skip rfl rfl rfl ?_
              refine R.skip rfl rfl rfl ?_
              refine R.skip rfl rfl rfl ?_
              refine R.one rfl ?_
              refine W.det (.kb true) _ rfl ?_
              refine R.nil ?_
              refine seqK.n ?_
              refine A.condT rfl ?_
              refine A.seq rfl ?_
              refine A.region ?_
              refine R.one rfl ?_
              refine W.det (.kb false) _ rfl ?_
              refine R.nil ?_
              refine seqK.n ?_
              refine A.ret ?_
              refine seqK.r ?_
              injection h with h
              subst h
              cases hG
              exact ⟨rfl, trivial⟩
            · refine W.det (.d (.v (.int .i64 y11.2.2))) _ rfl ?_
              refine R.run rfl rfl rfl ?_
              refine W.det (.d (.v (.bool (y11.2.2 == (0 : Int))))) _ rfl ?_
              refine R.one rfl ?_
              refine W.det (.d (.v (.bool (y11.2.2 == (0 : Int))))) _ rfl ?_
              refine R.one rfl ?_
              refine W.det (.d (.v (.bool (y11.2.2 == (0 : Int))))) _ rfl ?_
              refine R.gF rfl rfl rfl h (fun _ h => ?_) (fun _ h => ?_)
              · refine R.skip rfl rfl rfl ?_
                refine R.skip rfl rfl rfl ?_
                refine R.skip rfl rfl rfl ?_
                refine R.skip rfl rfl rfl ?_
                refine R.skip rfl rfl rfl ?_
                refine R.skip rfl rfl rfl ?_
                refine R.skip rfl rfl rfl ?_
                refine R.skip rfl rfl rfl ?_
                refine R.skip rfl rfl rfl ?_
                refine R.one rfl ?_
                refine W.det (.kb true) _ rfl ?_
                refine R.nil ?_
                refine seqK.n ?_
                refine A.condT rfl ?_
                refine A.seq rfl ?_
                refine A.region ?_
                refine R.one rfl ?_
                refine W.det (.kb false) _ rfl ?_
                refine R.nil ?_
                refine seqK.n ?_
                refine A.ret ?_
                refine seqK.r ?_
                injection h with h
                subst h
                cases hG
                exact ⟨rfl, trivial⟩
              · refine W.det (.agg [.d (.v (.string p_.Name)), .d (.v (.int .i64 p_.Edit)), .d (.v (.int .i64 p_.Within)), .d (.v (.int .i64 p_.Delete)), .d (.v (.bool p_.React)), .d (.v (.int .i64 p_.Thread)), .d (.v (.bool p_.Quote)), .d (.v (.bool p_.Mention)), .d (.v (.int .i64 p_.Size)), .d (.v (.int .i64 p_.Parts)), .d (.v (.int .i64 p_.Files)), .d (.v (.int .i64 p_.Bytes)), .d (.fz (List.map encS p_.Types)), .d (.v (.int .i64 p_.Join)), .d (.v (.int .i64 p_.History)), .d (.v (.int .i64 p_.Remove)), .d (.v (.int .i64 p_.Level)), .d (.v (.bool p_.Batch)), .d (.v (.int .i64 p_.Rate)), .d (.v (.int .i64 p_.Down)), .d (.v (.int .i64 p_.Window)), .d (.v (.int .i64 p_.Keep))]) _ rfl ?_
                refine R.run rfl rfl rfl ?_
                refine W.det (.d (.fz (List.map api_Job.enc p1_))) _ rfl ?_
                refine R.run rfl rfl rfl ?_
                refine W.det (.d (.v (.int .i64 p2_))) _ rfl ?_
                refine R.run rfl rfl rfl ?_
                refine W.det (.d (.v (.int .i64 p3_))) _ rfl ?_
                refine R.run rfl rfl rfl ?_
                refine W.det (.d (.v (.int .u16 p4_))) _ rfl ?_
                refine R.run rfl rfl rfl ?_
                refine W.det (.d (.v (.int .i64 (IntKind.i64.wrap p4_)))) _ rfl ?_
                refine R.run rfl rfl rfl ?_
                refine W.det (.d (.v (.int .i64 (IntKind.i64.wrap (p3_ + (IntKind.i64.wrap p4_)))))) _ rfl ?_
                refine R.run rfl rfl rfl ?_
                refine bindK h fun y15 hy15 h => ?_
                refine W.call rfl (admit_Room_fn hy15) ?_
                refine W.det (.d (.v (.int .i64 y15))) _ rfl ?_
                refine R.run rfl rfl rfl ?_
                refine W.det (.d (.v (.int .i64 y7))) _ rfl ?_
                refine R.run rfl rfl rfl ?_
                refine W.det (.d (.v (.bool (decide (y15 < y7))))) _ rfl ?_
                refine R.one rfl ?_
                refine W.det (.d (.v (.bool (decide (y15 < y7))))) _ rfl ?_
                refine R.nil ?_
                refine seqK.n ?_
                refine A.condB rfl h (fun _ h => ?_) (fun _ h => ?_)
                · refine A.seq rfl ?_
                  refine A.region ?_
                  refine R.one rfl ?_
                  refine W.det (.kb false) _ rfl ?_
                  refine R.nil ?_
                  refine seqK.n ?_
                  refine A.ret ?_
                  refine seqK.r ?_
                  injection h with h
                  subst h
                  cases hG
                  exact ⟨rfl, trivial⟩
                · refine A.skip ?_
                  refine seqK.n ?_
                  refine A.seq rfl ?_
                  refine A.seq rfl ?_
                  refine A.region ?_
                  refine R.one rfl ?_
                  refine W.det (.d (.v (.int .i64 y7))) _ rfl ?_
                  refine R.one rfl ?_
                  refine W.det (.d (.v (.bool (y7 == (0 : Int))))) _ rfl ?_
                  refine R.nil ?_
                  refine seqK.n ?_
                  refine A.condB rfl h (fun _ h => ?_) (fun _ h => ?_)
                  · refine A.seq rfl ?_
                    refine A.region ?_
                    refine R.one rfl ?_
                    refine W.det (.d (.v (.bool y1))) _ rfl ?_
                    refine R.one rfl ?_
                    refine W.det (.d (.v (.bool y1))) _ rfl ?_
                    refine R.nil ?_
                    refine seqK.n ?_
                    refine A.ret ?_
                    refine seqK.r ?_
                    injection h with h
                    subst h
                    cases hG
                    exact ⟨rfl, trivial⟩
                  · refine A.skip ?_
                    refine seqK.n ?_
                    refine A.seq rfl ?_
                    refine A.region ?_
                    refine R.one rfl ?_
                    refine W.det (.d (.v (.int .i64 y7))) _ rfl ?_
                    refine R.one rfl ?_
                    refine W.det (.lp 16 1 1) _ rfl ?_
                    refine R.one rfl ?_
                    refine W.det (.tup []) (Mem.set _ 16 1 (some (.box [.d (.v (.int .i64 y8)), .d (.v (.int .i64 y7)), .d (.v (.int .i64 p3_))]))) rfl ?_
                    refine R.nil ?_
                    refine seqK.n ?_
                    refine A.seq rfl ?_
                    refine A.regionC [0, 1, 2, 3, 4, 5, 6] (by kernel_rfl) ?_
                    refine R.at_ rfl rfl ?_
                    refine R.one rfl ?_
                    refine W.det (.row 104 1 0) (Mem.add _ 104 (.rows 3 (List.map api_Job.enc ([] : List api_Job)) false)) rfl ?_
                    refine R.nil ?_
                    refine R.at_ rfl rfl ?_
                    refine R.one rfl ?_
                    refine W.det (.d (.fz (List.map api_Job.enc p1_))) _ rfl ?_
                    refine R.nil ?_
                    refine R.at_ rfl rfl ?_
                    refine R.one rfl ?_
                    refine W.chk rfl (appChk (fun _ => rfl) g9) ?_
                    refine W.rows (0 + (List.map api_Job.enc p1_).length) (([] : List api_Job) ++ p1_).length ([] ++ (List.map api_Job.enc p1_)) (List.map api_Job.enc (([] : List api_Job) ++ p1_)) rfl (by first | rfl | (simp; done) | simp only [partMap, List.length_map, List.length_append, List.nil_append, Nat.zero_add, List.length_nil]) (by first | rfl | (simp; done) | simp only [partMap, List.map_append, List.nil_append, List.map_nil]) ?_
                    refine R.nil ?_
                    refine R.at_ rfl rfl ?_
                    refine R.one rfl ?_
                    refine W.det (.agg [.d (.v (.int .i64 y8)), .d (.v (.int .i64 y7)), .d (.v (.int .i64 p3_))]) _ rfl ?_
                    refine R.nil ?_
                    refine R.at_ rfl rfl ?_
                    refine R.one rfl ?_
                    refine W.det (.row 108 1 1) (Mem.add _ 108 (.rows 3 (List.map api_Job.enc [(api_Job.mk y8 y7 p3_)]) false)) rfl ?_
                    refine R.nil ?_
                    refine R.at_ rfl rfl ?_
                    refine R.one rfl ?_
                    refine chkK h fun g17 h => ?_
                    refine W.chk rfl (appChk (fun _ => rfl) g17) ?_
                    refine W.app rfl rfl ?_
                    refine R.nil ?_
                    refine R.at_ rfl rfl ?_
                    refine R.one rfl ?_
                    refine W.det (.row 104 3 ((([] : List api_Job) ++ p1_) ++ [(api_Job.mk y8 y7 p3_)]).length) _ rfl ?_
                    refine R.nil ?_
                    refine R.end_ ?_
                    refine seqK.n ?_
                    refine A.seq rfl ?_
                    refine A.region ?_
                    refine R.one rfl ?_
                    refine W.det (.agg [.d (.v (.string p_.Name)), .d (.v (.int .i64 p_.Edit)), .d (.v (.int .i64 p_.Within)), .d (.v (.int .i64 p_.Delete)), .d (.v (.bool p_.React)), .d (.v (.int .i64 p_.Thread)), .d (.v (.bool p_.Quote)), .d (.v (.bool p_.Mention)), .d (.v (.int .i64 p_.Size)), .d (.v (.int .i64 p_.Parts)), .d (.v (.int .i64 p_.Files)), .d (.v (.int .i64 p_.Bytes)), .d (.fz (List.map encS p_.Types)), .d (.v (.int .i64 p_.Join)), .d (.v (.int .i64 p_.History)), .d (.v (.int .i64 p_.Remove)), .d (.v (.int .i64 p_.Level)), .d (.v (.bool p_.Batch)), .d (.v (.int .i64 p_.Rate)), .d (.v (.int .i64 p_.Down)), .d (.v (.int .i64 p_.Window)), .d (.v (.int .i64 p_.Keep))]) _ rfl ?_
                    refine R.one rfl ?_
                    refine W.det (.row 104 3 ((([] : List api_Job) ++ p1_) ++ [(api_Job.mk y8 y7 p3_)]).length) _ rfl ?_
                    refine R.one rfl ?_
                    refine W.det (.d (.v (.int .i64 p2_))) _ rfl ?_
                    refine R.one rfl ?_
                    refine bindK h fun y18 hy18 h => ?_
                    refine W.call rfl (admit_Plan_fn hy18) ?_
                    refine W.v (.tup [.row 1048690 1 (List.map (encI .i64) y18.1).length, .d (.v (.int .i64 y18.2.1)), .d (.v (.int .i64 y18.2.2))]) (.tup [.row 1048690 1 y18.1.length, .d (.v (.int .i64 y18.2.1)), .d (.v (.int .i64 y18.2.2))]) (Mem.add (Mem.set _ 104 3 (some (.rows 3 (List.map api_Job.enc ((([] : List api_Job) ++ p1_) ++ [(api_Job.mk y8 y7 p3_)])) true))) 1048690 (.rows 1 (List.map (encI .i64) y18.1) false)) rfl (by simp only [List.length_map]) ?_
                    refine R.one rfl ?_
                    refine W.det (.tup [.row 1048690 1 y18.1.length, .d (.v (.int .i64 y18.2.1)), .d (.v (.int .i64 y18.2.2))]) _ rfl ?_
                    refine R.one rfl ?_
                    refine W.det (.row 1048690 1 y18.1.length) _ rfl ?_
                    refine R.one rfl ?_
                    refine W.det (.d (.v (.int .i64 y18.2.1))) _ rfl ?_
                    refine R.one rfl ?_
                    refine W.det (.d (.v (.int .i64 y18.2.2))) _ rfl ?_
                    refine R.one rfl ?_
                    refine W.det (.row 1048690 1 y18.1.length) _ rfl ?_
                    refine R.one rfl ?_
                    refine W.det (.d (.v (.int .i64 y18.2.1))) _ rfl ?_
                    refine R.one rfl ?_
                    refine W.det (.d (.v (.int .i64 y18.2.2))) _ rfl ?_
                    refine R.nil ?_
                    refine seqK.n ?_
                    refine A.seq rfl ?_
                    refine A.region ?_
                    refine R.one rfl ?_
                    refine W.det (.d (.v (.bool y1))) _ rfl ?_
                    refine R.one rfl ?_
                    refine W.det (.d (.v (.bool y1))) _ rfl ?_
                    refine R.gT rfl rfl rfl h (fun _ h => ?_) (fun _ h => ?_)
                    · refine W.det (.d (.v (.int .i64 y18.2.2))) _ rfl ?_
                      refine R.run rfl rfl rfl ?_
                      refine W.det (.d (.v (.bool (y18.2.2 == (0 : Int))))) _ rfl ?_
                      refine R.one rfl ?_
                      refine W.det (.d (.v (.bool (y18.2.2 == (0 : Int))))) _ rfl ?_
                      refine R.one rfl ?_
                      refine W.det (.d (.v (.bool (y18.2.2 == (0 : Int))))) _ rfl ?_
                      refine R.gT rfl rfl rfl h (fun _ h => ?_) (fun _ h => ?_)
                      · refine W.det (.d (.v (.int .i64 y7))) _ rfl ?_
                        refine R.run rfl rfl rfl ?_
                        refine W.det (.d (.v (.bool (y7 == (1099511627776 : Int))))) _ rfl ?_
                        refine R.run rfl rfl rfl ?_
                        refine W.det (.d (.v (.bool (y7 == (1099511627776 : Int))))) _ rfl ?_
                        refine R.gF rfl rfl rfl h (fun _ h => ?_) (fun _ h => ?_)
                        · refine R.skip rfl rfl rfl ?_
                          refine R.skip rfl rfl rfl ?_
                          refine R.skip rfl rfl rfl ?_
                          refine R.skip rfl rfl rfl ?_
                          refine R.skip rfl rfl rfl ?_
                          refine R.run rfl rfl rfl ?_
                          refine W.det (.kb true) _ rfl ?_
                          refine R.one rfl ?_
                          refine W.det (.kb true) _ rfl ?_
                          refine R.one rfl ?_
                          refine W.det (.kb true) _ rfl ?_
                          refine R.nil ?_
                          refine seqK.n ?_
                          refine A.ret ?_
                          injection h with h
                          subst h
                          cases hG
                          exact ⟨rfl, trivial⟩
                        · refine W.det (.agg [.d (.v (.string p_.Name)), .d (.v (.int .i64 p_.Edit)), .d (.v (.int .i64 p_.Within)), .d (.v (.int .i64 p_.Delete)), .d (.v (.bool p_.React)), .d (.v (.int .i64 p_.Thread)), .d (.v (.bool p_.Quote)), .d (.v (.bool p_.Mention)), .d (.v (.int .i64 p_.Size)), .d (.v (.int .i64 p_.Parts)), .d (.v (.int .i64 p_.Files)), .d (.v (.int .i64 p_.Bytes)), .d (.fz (List.map encS p_.Types)), .d (.v (.int .i64 p_.Join)), .d (.v (.int .i64 p_.History)), .d (.v (.int .i64 p_.Remove)), .d (.v (.int .i64 p_.Level)), .d (.v (.bool p_.Batch)), .d (.v (.int .i64 p_.Rate)), .d (.v (.int .i64 p_.Down)), .d (.v (.int .i64 p_.Window)), .d (.v (.int .i64 p_.Keep))]) _ rfl ?_
                          refine R.run rfl rfl rfl ?_
                          refine W.det (.row 104 3 ((([] : List api_Job) ++ p1_) ++ [(api_Job.mk y8 y7 p3_)]).length) _ rfl ?_
                          refine R.run rfl rfl rfl ?_
                          refine W.det (.d (.v (.int .i64 p2_))) _ rfl ?_
                          refine R.run rfl rfl rfl ?_
                          refine W.det (.d (.v (.int .i64 p3_))) _ rfl ?_
                          refine R.run rfl rfl rfl ?_
                          refine bindK h fun y19 hy19 h => ?_
                          refine W.call rfl (admit_Room_fn hy19) ?_
                          refine W.det (.d (.v (.int .i64 y19))) _ rfl ?_
                          refine R.run rfl rfl rfl ?_
                          refine W.det (.d (.v (.bool (y19 == (0 : Int))))) _ rfl ?_
                          refine R.run rfl rfl rfl ?_
                          refine W.det (.d (.v (.bool (y19 == (0 : Int))))) _ rfl ?_
                          refine R.one rfl ?_
                          refine W.det (.d (.v (.bool (y19 == (0 : Int))))) _ rfl ?_
                          refine R.one rfl ?_
                          refine W.det (.d (.v (.bool (y19 == (0 : Int))))) _ rfl ?_
                          refine R.nil ?_
                          refine seqK.n ?_
                          refine A.ret ?_
                          injection h with h
                          subst h
                          cases hG
                          exact ⟨rfl, trivial⟩
                      · refine R.skip rfl rfl rfl ?_
                        refine R.skip rfl rfl rfl ?_
                        refine R.none_ rfl rfl rfl ?_
                        refine R.none_ rfl rfl rfl ?_
                        refine R.none_ rfl rfl rfl ?_
                        refine R.none_ rfl rfl rfl ?_
                        refine R.none_ rfl rfl rfl ?_
                        refine R.none_ rfl rfl rfl ?_
                        refine R.skip rfl rfl rfl ?_
                        refine R.one rfl ?_
                        refine W.det (.kb false) _ rfl ?_
                        refine R.one rfl ?_
                        refine W.det (.kb false) _ rfl ?_
                        refine R.nil ?_
                        refine seqK.n ?_
                        refine A.ret ?_
                        injection h with h
                        subst h
                        cases hG
                        exact ⟨rfl, trivial⟩
                    · refine R.skip rfl rfl rfl ?_
                      refine R.one rfl ?_
                      refine W.det (.kb false) _ rfl ?_
                      refine R.one rfl ?_
                      refine W.det (.kb false) _ rfl ?_
                      refine R.skip rfl rfl rfl ?_
                      refine R.skip rfl rfl rfl ?_
                      refine R.skip rfl rfl rfl ?_
                      refine R.none_ rfl rfl rfl ?_
                      refine R.none_ rfl rfl rfl ?_
                      refine R.none_ rfl rfl rfl ?_
                      refine R.none_ rfl rfl rfl ?_
                      refine R.none_ rfl rfl rfl ?_
                      refine R.none_ rfl rfl rfl ?_
                      refine R.skip rfl rfl rfl ?_
                      refine R.one rfl ?_
                      refine W.det (.kb false) _ rfl ?_
                      refine R.one rfl ?_
                      refine W.det (.kb false) _ rfl ?_
                      refine R.nil ?_
                      refine seqK.n ?_
                      refine A.ret ?_
                      injection h with h
                      subst h
                      cases hG
                      exact ⟨rfl, trivial⟩
end Go.Proofs.Ytafgcjodefafoaa

/-
  Plain programs of functions, and that the functions do what they say. Printed by wip/tools/gen.py.
-/
import Derived.Test.YtafgcjodefafoaaG3
namespace Go.Proofs.Ytafgcjodefafoaa
open Go.RowKit
attribute [local irreducible] IntKind.wrap
set_option linter.unusedVariables false
set_option maxHeartbeats 4000000
set_option maxRecDepth 100000
noncomputable def law29_AdmitEases (p_ : api_Profile) (p1_ : (List api_Job)) (p2_ : Int) (p3_ : Int) (p4_ : Int) : Option (Bool) :=
  (law29_small).bind fun y1 =>
  (law29_few p_ p1_).bind fun y5 =>
  (bif (!y5) then
    some y1
  else
    (bif ((p1_.length : Int) == (0 : Int)) then
      some y1
    else
      (admit_Plan p_ p1_ p2_).bind fun y6 =>
      (bif (y6.2.2 != (0 : Int)) then
        some y1
      else
        (chkO ((p1_.length : Int) != 0)).bind fun _ =>
        (chkO (decide (0 + p1_.length ≤ 1000000))).bind fun _ =>
        (chkO (decide (0 ≤ (Int.tmod (IntKind.i64.wrap p3_) (p1_.length : Int))) && decide ((Int.tmod (IntKind.i64.wrap p3_) (p1_.length : Int)) < (((([] : List api_Job) ++ p1_).length : Nat) : Int)))).bind fun _ =>
        (getI (([] : List api_Job) ++ p1_) (Int.tmod (IntKind.i64.wrap p3_) (p1_.length : Int))).bind fun x10 =>
        (admit_Plan p_ (List.set (([] : List api_Job) ++ p1_) (Int.tmod (IntKind.i64.wrap p3_) (p1_.length : Int)).toNat (api_Job.mk x10.Id (if (1 : Int) < (IntKind.i64.wrap (x10.Size - (IntKind.i64.wrap p4_))) then (IntKind.i64.wrap (x10.Size - (IntKind.i64.wrap p4_))) else (1 : Int)) x10.Due)) p2_).bind fun y15 =>
        (admit_Plan p_ (List.set (([] : List api_Job) ++ p1_) (Int.tmod (IntKind.i64.wrap p3_) (p1_.length : Int)).toNat (api_Job.mk x10.Id x10.Size (if (IntKind.i64.wrap (x10.Due + (IntKind.i64.wrap p4_))) < (1073741824 : Int) then (IntKind.i64.wrap (x10.Due + (IntKind.i64.wrap p4_))) else (1073741824 : Int)))) p2_).bind fun y16 =>
        (admit_Plan p_ p1_ (if (0 : Int) < (IntKind.i64.wrap (p2_ - (IntKind.i64.wrap p4_))) then (IntKind.i64.wrap (p2_ - (IntKind.i64.wrap p4_))) else (0 : Int))).bind fun y17 =>
        (bif y1 then
          (bif (y15.2.2 == (0 : Int)) then
            (bif (y16.2.2 == (0 : Int)) then
              some (y17.2.2 == (0 : Int))
            else
              some false)
          else
            some false)
        else
          some false))))
theorem law29_AdmitEases_fn {p_ : api_Profile} {p1_ : (List api_Job)} {p2_ : Int} {p3_ : Int} {p4_ : Int} {r : Bool} (h : law29_AdmitEases p_ p1_ p2_ p3_ p4_ = some r) : Fn Try.prog 6 [.agg [.d (.v (.string p_.Name)), .d (.v (.int .i64 p_.Edit)), .d (.v (.int .i64 p_.Within)), .d (.v (.int .i64 p_.Delete)), .d (.v (.bool p_.React)), .d (.v (.int .i64 p_.Thread)), .d (.v (.bool p_.Quote)), .d (.v (.bool p_.Mention)), .d (.v (.int .i64 p_.Size)), .d (.v (.int .i64 p_.Parts)), .d (.v (.int .i64 p_.Files)), .d (.v (.int .i64 p_.Bytes)), .d (.fz (List.map encS p_.Types)), .d (.v (.int .i64 p_.Join)), .d (.v (.int .i64 p_.History)), .d (.v (.int .i64 p_.Remove)), .d (.v (.int .i64 p_.Level)), .d (.v (.bool p_.Batch)), .d (.v (.int .i64 p_.Rate)), .d (.v (.int .i64 p_.Down)), .d (.v (.int .i64 p_.Window)), .d (.v (.int .i64 p_.Keep))], .d (.fz (List.map api_Job.enc p1_)), .d (.v (.int .i64 p2_)), .d (.v (.int .u8 p3_)), .d (.v (.int .u16 p4_))] (.d (.v (.bool r))) := by
  refine Fn.of_AW (F := FnX Try.prog) (base := 0) (js := []) mixed tok noeqs (fun _ _ _ h => h) Try.call6 Try.func6 rfl Try.ntmps6 (by rw [Try.results6]) (by simp) ?_
  have hG : (fun x => x = r) r := rfl
  unfold law29_AdmitEases at h
  refine A.seq rfl ?_
  refine A.region ?_
  refine R.one rfl ?_
  refine W.det (.lp 5 1 0) (Mem.add _ 5 (.box [.d (.v (.string p_.Name)), .d (.v (.int .i64 p_.Edit)), .d (.v (.int .i64 p_.Within)), .d (.v (.int .i64 p_.Delete)), .d (.v (.bool p_.React)), .d (.v (.int .i64 p_.Thread)), .d (.v (.bool p_.Quote)), .d (.v (.bool p_.Mention)), .d (.v (.int .i64 p_.Size)), .d (.v (.int .i64 p_.Parts)), .d (.v (.int .i64 p_.Files)), .d (.v (.int .i64 p_.Bytes)), .d (.fz (List.map encS p_.Types)), .d (.v (.int .i64 p_.Join)), .d (.v (.int .i64 p_.History)), .d (.v (.int .i64 p_.Remove)), .d (.v (.int .i64 p_.Level)), .d (.v (.bool p_.Batch)), .d (.v (.int .i64 p_.Rate)), .d (.v (.int .i64 p_.Down)), .d (.v (.int .i64 p_.Window)), .d (.v (.int .i64 p_.Keep))])) rfl ?_
  refine R.one rfl ?_
  refine W.det (.kb false) _ rfl ?_
  refine R.nil ?_
  refine seqK.n ?_
  refine A.seq rfl ?_
  refine A.region ?_
  refine R.one rfl ?_
  refine bindK h fun y1 hy1 h => ?_
  refine W.call rfl (law29_small_fn hy1) ?_
  refine W.det (.d (.v (.bool y1))) _ rfl ?_
  refine R.one rfl ?_
  refine W.det (.d (.v (.bool y1))) _ rfl ?_
  refine R.nil ?_
  refine seqK.n ?_
  refine A.seq rfl ?_
  refine A.seq rfl ?_
  refine A.region ?_
  refine R.one rfl ?_
  refine W.det (.agg [.d (.v (.string p_.Name)), .d (.v (.int .i64 p_.Edit)), .d (.v (.int .i64 p_.Within)), .d (.v (.int .i64 p_.Delete)), .d (.v (.bool p_.React)), .d (.v (.int .i64 p_.Thread)), .d (.v (.bool p_.Quote)), .d (.v (.bool p_.Mention)), .d (.v (.int .i64 p_.Size)), .d (.v (.int .i64 p_.Parts)), .d (.v (.int .i64 p_.Files)), .d (.v (.int .i64 p_.Bytes)), .d (.fz (List.map encS p_.Types)), .d (.v (.int .i64 p_.Join)), .d (.v (.int .i64 p_.History)), .d (.v (.int .i64 p_.Remove)), .d (.v (.int .i64 p_.Level)), .d (.v (.bool p_.Batch)), .d (.v (.int .i64 p_.Rate)), .d (.v (.int .i64 p_.Down)), .d (.v (.int .i64 p_.Window)), .d (.v (.int .i64 p_.Keep))]) _ rfl ?_
  refine R.one rfl ?_
  refine W.det (.d (.fz (List.map api_Job.enc p1_))) _ rfl ?_
  refine R.one rfl ?_
  refine bindK h fun y5 hy5 h => ?_
  refine W.call rfl (law29_few_fn hy5) ?_
  refine W.det (.d (.v (.bool y5))) _ rfl ?_
  refine R.one rfl ?_
  refine W.det (.d (.v (.bool (!y5)))) _ rfl ?_
  refine R.one rfl ?_
  refine W.det (.d (.v (.bool (!y5)))) _ rfl ?_
  refine R.gF rfl rfl rfl h (fun _ h => ?_) (fun _ h => ?_)
  · refine R.skip rfl rfl rfl ?_
    refine R.skip rfl rfl rfl ?_
    refine R.one rfl ?_
    refine W.det (.kb true) _ rfl ?_
    refine R.nil ?_
    refine seqK.n ?_
    refine A.condT rfl ?_
    refine A.seq rfl ?_
    refine A.region ?_
    refine R.one rfl ?_
    refine W.det (.d (.v (.bool y1))) _ rfl ?_
    refine R.one rfl ?_
    refine W.det (.d (.v (.bool y1))) _ rfl ?_
    refine R.nil ?_
    refine seqK.n ?_
    refine A.ret ?_
    refine seqK.r ?_
    injection h with h
    subst h
    cases hG
    exact ⟨rfl, trivial⟩
  · refine W.det (.d (.fz (List.map api_Job.enc p1_))) _ rfl ?_
    refine R.run rfl rfl rfl ?_
    refine W.len rfl ?_
    refine R.run rfl rfl rfl ?_
    refine W.det (.d (.v (.bool ((p1_.length : Int) == (0 : Int))))) _ rfl ?_
    refine R.one rfl ?_
    refine W.det (.d (.v (.bool ((p1_.length : Int) == (0 : Int))))) _ rfl ?_
    refine R.nil ?_
    refine seqK.n ?_
    refine A.condB rfl h (fun _ h => ?_) (fun _ h => ?_)
    · refine A.seq rfl ?_
      refine A.region ?_
      refine R.one rfl ?_
      refine W.det (.d (.v (.bool y1))) _ rfl ?_
      refine R.one rfl ?_
      refine W.det (.d (.v (.bool y1))) _ rfl ?_
      refine R.nil ?_
      refine seqK.n ?_
      refine A.ret ?_
      refine seqK.r ?_
      injection h with h
      subst h
      cases hG
      exact ⟨rfl, trivial⟩
    · refine A.skip ?_
      refine seqK.n ?_
      refine A.seq rfl ?_
      refine A.region ?_
      refine R.one rfl ?_
      refine W.det (.agg [.d (.v (.string p_.Name)), .d (.v (.int .i64 p_.Edit)), .d (.v (.int .i64 p_.Within)), .d (.v (.int .i64 p_.Delete)), .d (.v (.bool p_.React)), .d (.v (.int .i64 p_.Thread)), .d (.v (.bool p_.Quote)), .d (.v (.bool p_.Mention)), .d (.v (.int .i64 p_.Size)), .d (.v (.int .i64 p_.Parts)), .d (.v (.int .i64 p_.Files)), .d (.v (.int .i64 p_.Bytes)), .d (.fz (List.map encS p_.Types)), .d (.v (.int .i64 p_.Join)), .d (.v (.int .i64 p_.History)), .d (.v (.int .i64 p_.Remove)), .d (.v (.int .i64 p_.Level)), .d (.v (.bool p_.Batch)), .d (.v (.int .i64 p_.Rate)), .d (.v (.int .i64 p_.Down)), .d (.v (.int .i64 p_.Window)), .d (.v (.int .i64 p_.Keep))]) _ rfl ?_
      refine R.one rfl ?_
      refine W.det (.d (.fz (List.map api_Job.enc p1_))) _ rfl ?_
      refine R.one rfl ?_
      refine W.det (.d (.v (.int .i64 p2_))) _ rfl ?_
      refine R.one rfl ?_
      refine bindK h fun y6 hy6 h => ?_
      refine W.call rfl (admit_Plan_fn hy6) ?_
      refine W.v (.tup [.row 1048618 1 (List.map (encI .i64) y6.1).length, .d (.v (.int .i64 y6.2.1)), .d (.v (.int .i64 y6.2.2))]) (.tup [.row 1048618 1 y6.1.length, .d (.v (.int .i64 y6.2.1)), .d (.v (.int .i64 y6.2.2))]) (Mem.add _ 1048618 (.rows 1 (List.map (encI .i64) y6.1) false)) rfl (by simp only [List.length_map]) ?_
      refine R.one rfl ?_
      refine W.det (.tup [.row 1048618 1 y6.1.length, .d (.v (.int .i64 y6.2.1)), .d (.v (.int .i64 y6.2.2))]) _ rfl ?_
      refine R.one rfl ?_
      refine W.det (.row 1048618 1 y6.1.length) _ rfl ?_
      refine R.one rfl ?_
      refine W.det (.d (.v (.int .i64 y6.2.1))) _ rfl ?_
      refine R.one rfl ?_
      refine W.det (.d (.v (.int .i64 y6.2.2))) _ rfl ?_
      refine R.one rfl ?_
      refine W.det (.row 1048618 1 y6.1.length) _ rfl ?_
      refine R.one rfl ?_
      refine W.det (.d (.v (.int .i64 y6.2.1))) _ rfl ?_
      refine R.one rfl ?_
      refine W.det (.d (.v (.int .i64 y6.2.2))) _ rfl ?_
      refine R.nil ?_
      refine seqK.n ?_
      refine A.seq rfl ?_
      refine A.seq rfl ?_
      refine A.region ?_
      refine R.one rfl ?_
      refine W.det (.d (.v (.int .i64 y6.2.2))) _ rfl ?_
      refine R.one rfl ?_
      refine W.det (.d (.v (.bool (y6.2.2 != (0 : Int))))) _ rfl ?_
      refine R.nil ?_
      refine seqK.n ?_
      refine A.condB rfl h (fun _ h => ?_) (fun _ h => ?_)
      · refine A.seq rfl ?_
        refine A.region ?_
        refine R.one rfl ?_
        refine W.det (.d (.v (.bool y1))) _ rfl ?_
        refine R.one rfl ?_
        refine W.det (.d (.v (.bool y1))) _ rfl ?_
        refine R.nil ?_
        refine seqK.n ?_
        refine A.ret ?_
        refine seqK.r ?_
        injection h with h
        subst h
        cases hG
        exact ⟨rfl, trivial⟩
      · refine A.skip ?_
        refine seqK.n ?_
        refine A.seq rfl ?_
        refine A.region ?_
        refine R.one rfl ?_
        refine W.det (.d (.v (.int .u8 p3_))) _ rfl ?_
        refine R.one rfl ?_
        refine W.det (.d (.v (.int .i64 (IntKind.i64.wrap p3_)))) _ rfl ?_
        refine R.one rfl ?_
        refine W.det (.d (.fz (List.map api_Job.enc p1_))) _ rfl ?_
        refine R.one rfl ?_
        refine W.len rfl ?_
        refine R.one rfl ?_
        refine chkK h fun g7 h => ?_
        refine W.chk rfl (by simpa using g7) ?_
        refine W.det (.d (.v (.int .i64 (Int.tmod (IntKind.i64.wrap p3_) (p1_.length : Int))))) _ rfl ?_
        refine R.one rfl ?_
        refine W.det (.d (.v (.int .i64 (Int.tmod (IntKind.i64.wrap p3_) (p1_.length : Int))))) _ rfl ?_
        refine R.nil ?_
        refine seqK.n ?_
        refine A.seq rfl ?_
        refine A.region ?_
        refine R.one rfl ?_
        refine W.det (.row 54 1 0) (Mem.add _ 54 (.rows 3 (List.map api_Job.enc ([] : List api_Job)) false)) rfl ?_
        refine R.one rfl ?_
        refine W.det (.d (.fz (List.map api_Job.enc p1_))) _ rfl ?_
        refine R.one rfl ?_
        refine chkK h fun g8 h => ?_
        refine W.chk rfl (appChk (fun _ => rfl) g8) ?_
        refine W.rows (0 + (List.map api_Job.enc p1_).length) (([] : List api_Job) ++ p1_).length ([] ++ (List.map api_Job.enc p1_)) (List.map api_Job.enc (([] : List api_Job) ++ p1_)) rfl (by first | rfl | (simp; done) | simp only [partMap, List.length_map, List.length_append, List.nil_append, Nat.zero_add, List.length_nil]) (by first | rfl | (simp; done) | simp only [partMap, List.map_append, List.nil_append, List.map_nil]) ?_
        refine R.one rfl ?_
        refine W.det (.row 54 2 (([] : List api_Job) ++ p1_).length) _ rfl ?_
        refine R.nil ?_
        refine seqK.n ?_
        refine A.seq rfl ?_
        refine A.region ?_
        refine R.one rfl ?_
        refine W.det (.row 54 2 (([] : List api_Job) ++ p1_).length) _ rfl ?_
        refine R.one rfl ?_
        refine W.det (.d (.v (.int .i64 (Int.tmod (IntKind.i64.wrap p3_) (p1_.length : Int))))) _ rfl ?_
        refine R.one rfl ?_
        refine W.det (.row 54 2 (([] : List api_Job) ++ p1_).length) _ rfl ?_
        refine R.one rfl ?_
        refine W.det (.d (.v (.int .i64 (Int.tmod (IntKind.i64.wrap p3_) (p1_.length : Int))))) _ rfl ?_
        refine R.one rfl ?_
        refine chkK h fun g9 h => ?_
        refine W.chk rfl (by simpa using g9) ?_
        refine W.det (.rp 54 2 (Int.tmod (IntKind.i64.wrap p3_) (p1_.length : Int)).toNat 0) _ rfl ?_
        refine R.one rfl ?_
        refine W.det (.rp 54 2 (Int.tmod (IntKind.i64.wrap p3_) (p1_.length : Int)).toNat 1) _ rfl ?_
        refine R.one rfl ?_
        refine bindK h fun x10 hx10 h => ?_
        refine W.elem rfl (elemG hx10) ?_
        refine W.det (.d (.v (.int .i64 x10.Size))) _ rfl ?_
        refine R.one rfl ?_
        refine W.det (.d (.v (.int .u16 p4_))) _ rfl ?_
        refine R.one rfl ?_
        refine W.det (.d (.v (.int .i64 (IntKind.i64.wrap p4_)))) _ rfl ?_
        refine R.one rfl ?_
        refine W.det (.d (.v (.int .i64 (IntKind.i64.wrap (x10.Size - (IntKind.i64.wrap p4_)))))) _ rfl ?_
        refine R.one rfl ?_
        refine W.det (.d (.v (.int .i64 (if (1 : Int) < (IntKind.i64.wrap (x10.Size - (IntKind.i64.wrap p4_))) then (IntKind.i64.wrap (x10.Size - (IntKind.i64.wrap p4_))) else (1 : Int))))) _ rfl ?_
        refine R.one rfl ?_
        refine W.chk rfl (by simpa using g9) ?_
        refine W.det (.rp 54 2 (Int.tmod (IntKind.i64.wrap p3_) (p1_.length : Int)).toNat 0) _ rfl ?_
        refine R.one rfl ?_
        refine W.det (.rp 54 2 (Int.tmod (IntKind.i64.wrap p3_) (p1_.length : Int)).toNat 1) _ rfl ?_
        refine R.one rfl ?_
        refine W.elem rfl (elemG hx10) ?_
        refine W.set (api_Job.mk x10.Id (if (1 : Int) < (IntKind.i64.wrap (x10.Size - (IntKind.i64.wrap p4_))) then (IntKind.i64.wrap (x10.Size - (IntKind.i64.wrap p4_))) else (1 : Int)) x10.Due) rfl rfl ?_
        refine R.nil ?_
        refine seqK.n ?_
        refine A.seq rfl ?_
        refine A.region ?_
        refine R.one rfl ?_
        refine W.det (.row 70 1 0) (Mem.add _ 70 (.rows 3 (List.map api_Job.enc ([] : List api_Job)) false)) rfl ?_
        refine R.one rfl ?_
        refine W.det (.d (.fz (List.map api_Job.enc p1_))) _ rfl ?_
        refine R.one rfl ?_
        refine W.chk rfl (appChk (fun _ => rfl) g8) ?_
        refine W.rows (0 + (List.map api_Job.enc p1_).length) (([] : List api_Job) ++ p1_).length ([] ++ (List.map api_Job.enc p1_)) (List.map api_Job.enc (([] : List api_Job) ++ p1_)) rfl (by first | rfl | (simp; done) | simp only [partMap, List.length_map, List.length_append, List.nil_append, Nat.zero_add, List.length_nil]) (by first | rfl | (simp; done) | simp only [partMap, List.map_append, List.nil_append, List.map_nil]) ?_
        refine R.one rfl ?_
        refine W.det (.row 70 2 (([] : List api_Job) ++ p1_).length) _ rfl ?_
        refine R.nil ?_
        refine seqK.n ?_
        refine A.seq rfl ?_
        refine A.region ?_
        refine R.one rfl ?_
        refine W.det (.row 70 2 (([] : List api_Job) ++ p1_).length) _ rfl ?_
        refine R.one rfl ?_
        refine W.det (.d (.v (.int .i64 (Int.tmod (IntKind.i64.wrap p3_) (p1_.length : Int))))) _ rfl ?_
        refine R.one rfl ?_
        refine W.det (.row 70 2 (([] : List api_Job) ++ p1_).length) _ rfl ?_
        refine R.one rfl ?_
        refine W.det (.d (.v (.int .i64 (Int.tmod (IntKind.i64.wrap p3_) (p1_.length : Int))))) _ rfl ?_
        refine R.one rfl ?_
        refine W.chk rfl (by simpa using g9) ?_
        refine W.det (.rp 70 2 (Int.tmod (IntKind.i64.wrap p3_) (p1_.length : Int)).toNat 0) _ rfl ?_
        refine R.one rfl ?_
        refine W.det (.rp 70 2 (Int.tmod (IntKind.i64.wrap p3_) (p1_.length : Int)).toNat 2) _ rfl ?_
        refine R.one rfl ?_
        refine W.elem rfl (elemG hx10) ?_
        refine W.det (.d (.v (.int .i64 x10.Due))) _ rfl ?_
        refine R.one rfl ?_
        refine W.det (.d (.v (.int .u16 p4_))) _ rfl ?_
        refine R.one rfl ?_
        refine W.det (.d (.v (.int .i64 (IntKind.i64.wrap p4_)))) _ rfl ?_
        refine R.one rfl ?_
        refine W.det (.d (.v (.int .i64 (IntKind.i64.wrap (x10.Due + (IntKind.i64.wrap p4_)))))) _ rfl ?_
        refine R.one rfl ?_
        refine W.det (.d (.v (.int .i64 (if (IntKind.i64.wrap (x10.Due + (IntKind.i64.wrap p4_))) < (1073741824 : Int) then (IntKind.i64.wrap (x10.Due + (IntKind.i64.wrap p4_))) else (1073741824 : Int))))) _ rfl ?_
        refine R.one rfl ?_
        refine W.chk rfl (by simpa using g9) ?_
        refine W.det (.rp 70 2 (Int.tmod (IntKind.i64.wrap p3_) (p1_.length : Int)).toNat 0) _ rfl ?_
        refine R.one rfl ?_
        refine W.det (.rp 70 2 (Int.tmod (IntKind.i64.wrap p3_) (p1_.length : Int)).toNat 2) _ rfl ?_
        refine R.one rfl ?_
        refine W.elem rfl (elemG hx10) ?_
        refine W.set (api_Job.mk x10.Id x10.Size (if (IntKind.i64.wrap (x10.Due + (IntKind.i64.wrap p4_))) < (1073741824 : Int) then (IntKind.i64.wrap (x10.Due + (IntKind.i64.wrap p4_))) else (1073741824 : Int))) rfl rfl ?_
        refine R.nil ?_
        refine seqK.n ?_
        refine A.seq rfl ?_
        refine A.region ?_
        refine R.one rfl ?_
        refine W.det (.agg [.d (.v (.string p_.Name)), .d (.v (.int .i64 p_.Edit)), .d (.v (.int .i64 p_.Within)), .d (.v (.int .i64 p_.Delete)), .d (.v (.bool p_.React)), .d (.v (.int .i64 p_.Thread)), .d (.v (.bool p_.Quote)), .d (.v (.bool p_.Mention)), .d (.v (.int .i64 p_.Size)), .d (.v (.int .i64 p_.Parts)), .d (.v (.int .i64 p_.Files)), .d (.v (.int .i64 p_.Bytes)), .d (.fz (List.map encS p_.Types)), .d (.v (.int .i64 p_.Join)), .d (.v (.int .i64 p_.History)), .d (.v (.int .i64 p_.Remove)), .d (.v (.int .i64 p_.Level)), .d (.v (.bool p_.Batch)), .d (.v (.int .i64 p_.Rate)), .d (.v (.int .i64 p_.Down)), .d (.v (.int .i64 p_.Window)), .d (.v (.int .i64 p_.Keep))]) _ rfl ?_
        refine R.one rfl ?_
        refine W.det (.row 54 2 (([] : List api_Job) ++ p1_).length) _ rfl ?_
        refine R.one rfl ?_
        refine W.det (.d (.v (.int .i64 p2_))) _ rfl ?_
        refine R.one rfl ?_
        refine bindK h fun y15 hy15 h => ?_
        refine W.call rfl (admit_Plan_fn hy15) ?_
        refine W.v (.tup [.row 1048666 1 (List.map (encI .i64) y15.1).length, .d (.v (.int .i64 y15.2.1)), .d (.v (.int .i64 y15.2.2))]) (.tup [.row 1048666 1 y15.1.length, .d (.v (.int .i64 y15.2.1)), .d (.v (.int .i64 y15.2.2))]) (Mem.add (Mem.set _ 54 2 (some (.rows 3 (List.map api_Job.enc (List.set (([] : List api_Job) ++ p1_) (Int.tmod (IntKind.i64.wrap p3_) (p1_.length : Int)).toNat (api_Job.mk x10.Id (if (1 : Int) < (IntKind.i64.wrap (x10.Size - (IntKind.i64.wrap p4_))) then (IntKind.i64.wrap (x10.Size - (IntKind.i64.wrap p4_))) else (1 : Int)) x10.Due))) true))) 1048666 (.rows 1 (List.map (encI .i64) y15.1) false)) rfl (by simp only [List.length_map]) ?_
        refine R.one rfl ?_
        refine W.det (.tup [.row 1048666 1 y15.1.length, .d (.v (.int .i64 y15.2.1)), .d (.v (.int .i64 y15.2.2))]) _ rfl ?_
        refine R.one rfl ?_
        refine W.det (.row 1048666 1 y15.1.length) _ rfl ?_
        refine R.one rfl ?_
        refine W.det (.d (.v (.int .i64 y15.2.1))) _ rfl ?_
        refine R.one rfl ?_
        refine W.det (.d (.v (.int .i64 y15.2.2))) _ rfl ?_
        refine R.one rfl ?_
        refine W.det (.row 1048666 1 y15.1.length) _ rfl ?_
        refine R.one rfl ?_
        refine W.det (.d (.v (.int .i64 y15.2.1))) _ rfl ?_
        refine R.one rfl ?_
        refine W.det (.d (.v (.int .i64 y15.2.2))) _ rfl ?_
        refine R.nil ?_
        refine seqK.n ?_
        refine A.seq rfl ?_
        refine A.region ?_
        refine R.one rfl ?_
        refine W.det (.agg [.d (.v (.string p_.Name)), .d (.v (.int .i64 p_.Edit)), .d (.v (.int .i64 p_.Within)), .d (.v (.int .i64 p_.Delete)), .d (.v (.bool p_.React)), .d (.v (.int .i64 p_.Thread)), .d (.v (.bool p_.Quote)), .d (.v (.bool p_.Mention)), .d (.v (.int .i64 p_.Size)), .d (.v (.int .i64 p_.Parts)), .d (.v (.int .i64 p_.Files)), .d (.v (.int .i64 p_.Bytes)), .d (.fz (List.map encS p_.Types)), .d (.v (.int .i64 p_.Join)), .d (.v (.int .i64 p_.History)), .d (.v (.int .i64 p_.Remove)), .d (.v (.int .i64 p_.Level)), .d (.v (.bool p_.Batch)), .d (.v (.int .i64 p_.Rate)), .d (.v (.int .i64 p_.Down)), .d (.v (.int .i64 p_.Window)), .d (.v (.int .i64 p_.Keep))]) _ rfl ?_
        refine R.one rfl ?_
        refine W.det (.row 70 2 (([] : List api_Job) ++ p1_).length) _ rfl ?_
        refine R.one rfl ?_
        refine W.det (.d (.v (.int .i64 p2_))) _ rfl ?_
        refine R.one rfl ?_
        refine bindK h fun y16 hy16 h => ?_
        refine W.call rfl (admit_Plan_fn hy16) ?_
        refine W.v (.tup [.row 1048674 1 (List.map (encI .i64) y16.1).length, .d (.v (.int .i64 y16.2.1)), .d (.v (.int .i64 y16.2.2))]) (.tup [.row 1048674 1 y16.1.length, .d (.v (.int .i64 y16.2.1)), .d (.v (.int .i64 y16.2.2))]) (Mem.add (Mem.set _ 70 2 (some (.rows 3 (List.map api_Job.enc (List.set (([] : List api_Job) ++ p1_) (Int.tmod (IntKind.i64.wrap p3_) (p1_.length : Int)).toNat (api_Job.mk x10.Id x10.Size (if (IntKind.i64.wrap (x10.Due + (IntKind.i64.wrap p4_))) < (1073741824 : Int) then (IntKind.i64.wrap (x10.Due + (IntKind.i64.wrap p4_))) else (1073741824 : Int))))) true))) 1048674 (.rows 1 (List.map (encI .i64) y16.1) false)) rfl (by simp only [List.length_map]) ?_
        refine R.one rfl ?_
        refine W.det (.tup [.row 1048674 1 y16.1.length, .d (.v (.int .i64 y16.2.1)), .d (.v (.int .i64 y16.2.2))]) _ rfl ?_
        refine R.one rfl ?_
        refine W.det (.row 1048674 1 y16.1.length) _ rfl ?_
        refine R.one rfl ?_
        refine W.det (.d (.v (.int .i64 y16.2.1))) _ rfl ?_
        refine R.one rfl ?_
        refine W.det (.d (.v (.int .i64 y16.2.2))) _ rfl ?_
        refine R.one rfl ?_
        refine W.det (.row 1048674 1 y16.1.length) _ rfl ?_
        refine R.one rfl ?_
        refine W.det (.d (.v (.int .i64 y16.2.1))) _ rfl ?_
        refine R.one rfl ?_
        refine W.det (.d (.v (.int .i64 y16.2.2))) _ rfl ?_
        refine R.nil ?_
        refine seqK.n ?_
        refine A.seq rfl ?_
        refine A.region ?_
        refine R.one rfl ?_
        refine W.det (.agg [.d (.v (.string p_.Name)), .d (.v (.int .i64 p_.Edit)), .d (.v (.int .i64 p_.Within)), .d (.v (.int .i64 p_.Delete)), .d (.v (.bool p_.React)), .d (.v (.int .i64 p_.Thread)), .d (.v (.bool p_.Quote)), .d (.v (.bool p_.Mention)), .d (.v (.int .i64 p_.Size)), .d (.v (.int .i64 p_.Parts)), .d (.v (.int .i64 p_.Files)), .d (.v (.int .i64 p_.Bytes)), .d (.fz (List.map encS p_.Types)), .d (.v (.int .i64 p_.Join)), .d (.v (.int .i64 p_.History)), .d (.v (.int .i64 p_.Remove)), .d (.v (.int .i64 p_.Level)), .d (.v (.bool p_.Batch)), .d (.v (.int .i64 p_.Rate)), .d (.v (.int .i64 p_.Down)), .d (.v (.int .i64 p_.Window)), .d (.v (.int .i64 p_.Keep))]) _ rfl ?_
        refine R.one rfl ?_
        refine W.det (.d (.fz (List.map api_Job.enc p1_))) _ rfl ?_
        refine R.one rfl ?_
        refine W.det (.d (.v (.int .i64 p2_))) _ rfl ?_
        refine R.one rfl ?_
        refine W.det (.d (.v (.int .u16 p4_))) _ rfl ?_
        refine R.one rfl ?_
        refine W.det (.d (.v (.int .i64 (IntKind.i64.wrap p4_)))) _ rfl ?_
        refine R.one rfl ?_
        refine W.det (.d (.v (.int .i64 (IntKind.i64.wrap (p2_ - (IntKind.i64.wrap p4_)))))) _ rfl ?_
        refine R.one rfl ?_
        refine W.det (.d (.v (.int .i64 (if (0 : Int) < (IntKind.i64.wrap (p2_ - (IntKind.i64.wrap p4_))) then (IntKind.i64.wrap (p2_ - (IntKind.i64.wrap p4_))) else (0 : Int))))) _ rfl ?_
        refine R.one rfl ?_
        refine bindK h fun y17 hy17 h => ?_
        refine W.call rfl (admit_Plan_fn hy17) ?_
        refine W.v (.tup [.row 1048686 1 (List.map (encI .i64) y17.1).length, .d (.v (.int .i64 y17.2.1)), .d (.v (.int .i64 y17.2.2))]) (.tup [.row 1048686 1 y17.1.length, .d (.v (.int .i64 y17.2.1)), .d (.v (.int .i64 y17.2.2))]) (Mem.add _ 1048686 (.rows 1 (List.map (encI .i64) y17.1) false)) rfl (by simp only [List.length_map]) ?_
        refine R.one rfl ?_
        refine W.det (.tup [.row 1048686 1 y17.1.length, .d (.v (.int .i64 y17.2.1)), .d (.v (.int .i64 y17.2.2))]) _ rfl ?_
        refine R.one rfl ?_
        refine W.det (.row 1048686 1 y17.1.length) _ rfl ?_
        refine R.one rfl ?_
        refine W.det (.d (.v (.int .i64 y17.2.1))) _ rfl ?_
        refine R.one rfl ?_
        refine W.det (.d (.v (.int .i64 y17.2.2))) _ rfl ?_
        refine R.one rfl ?_
        refine W.det (.row 1048686 1 y17.1.length) _ rfl ?_
        refine R.one rfl ?_
        refine W.det (.d (.v (.int .i64 y17.2.1))) _ rfl ?_
        refine R.one rfl ?_
        refine W.det (.d (.v (.int .i64 y17.2.2))) _ rfl ?_
        refine R.nil ?_
        refine seqK.n ?_
        refine A.seq rfl ?_
        refine A.region ?_
        refine R.one rfl ?_
        refine W.det (.d (.v (.bool y1))) _ rfl ?_
        refine R.one rfl ?_
        refine W.det (.d (.v (.bool y1))) _ rfl ?_
        refine R.gT rfl rfl rfl h (fun _ h => ?_) (fun _ h => ?_)
        · refine W.det (.d (.v (.int .i64 y15.2.2))) _ rfl ?_
          refine R.run rfl rfl rfl ?_
          refine W.det (.d (.v (.bool (y15.2.2 == (0 : Int))))) _ rfl ?_
          refine R.one rfl ?_
          refine W.det (.d (.v (.bool (y15.2.2 == (0 : Int))))) _ rfl ?_
          refine R.one rfl ?_
          refine W.det (.d (.v (.bool (y15.2.2 == (0 : Int))))) _ rfl ?_
          refine R.gT rfl rfl rfl h (fun _ h => ?_) (fun _ h => ?_)
          · refine W.det (.d (.v (.int .i64 y16.2.2))) _ rfl ?_
            refine R.run rfl rfl rfl ?_
            refine W.det (.d (.v (.bool (y16.2.2 == (0 : Int))))) _ rfl ?_
            refine R.one rfl ?_
            refine W.det (.d (.v (.bool (y16.2.2 == (0 : Int))))) _ rfl ?_
            refine R.one rfl ?_
            refine W.det (.d (.v (.bool (y16.2.2 == (0 : Int))))) _ rfl ?_
            refine R.gT rfl rfl rfl h (fun _ h => ?_) (fun _ h => ?_)
            · refine W.det (.d (.v (.int .i64 y17.2.2))) _ rfl ?_
              refine R.run rfl rfl rfl ?_
              refine W.det (.d (.v (.bool (y17.2.2 == (0 : Int))))) _ rfl ?_
              refine R.one rfl ?_
              refine W.det (.d (.v (.bool (y17.2.2 == (0 : Int))))) _ rfl ?_
              refine R.one rfl ?_
              refine W.det (.d (.v (.bool (y17.2.2 == (0 : Int))))) _ rfl ?_
              refine R.nil ?_
              refine seqK.n ?_
              refine A.ret ?_
              injection h with h
              subst h
              cases hG
              exact ⟨rfl, trivial⟩
            · refine R.skip rfl rfl rfl ?_
              refine R.one rfl ?_
              refine W.det (.kb false) _ rfl ?_
              refine R.one rfl ?_
              refine W.det (.kb false) _ rfl ?_
              refine R.nil ?_
              refine seqK.n ?_
              refine A.ret ?_
              injection h with h
              subst h
              cases hG
              exact ⟨rfl, trivial⟩
          · refine R.skip rfl rfl rfl ?_
            refine R.one rfl ?_
            refine W.det (.kb false) _ rfl ?_
            refine R.one rfl ?_
            refine W.det (.kb false) _ rfl ?_
            refine R.skip rfl rfl rfl ?_
            refine R.skip rfl rfl rfl ?_
            refine R.one rfl ?_
            refine W.det (.kb false) _ rfl ?_
            refine R.one rfl ?_
            refine W.det (.kb false) _ rfl ?_
            refine R.nil ?_
            refine seqK.n ?_
            refine A.ret ?_
            injection h with h
            subst h
            cases hG
            exact ⟨rfl, trivial⟩
        · refine R.skip rfl rfl rfl ?_
          refine R.one rfl ?_
          refine W.det (.kb false) _ rfl ?_
          refine R.one rfl ?_
          refine W.det (.kb false) _ rfl ?_
          refine R.skip rfl rfl rfl ?_
          refine R.skip rfl rfl rfl ?_
          refine R.one rfl ?_
          refine W.det (.kb false) _ rfl ?_
          refine R.one rfl ?_
          refine W.det (.kb false) _ rfl ?_
          refine R.skip rfl rfl rfl ?_
          refine R.skip rfl rfl rfl ?_
          refine R.one rfl ?_
          refine W.det (.kb false) _ rfl ?_
          refine R.one rfl ?_
          refine W.det (.kb false) _ rfl ?_
          refine R.nil ?_
          refine seqK.n ?_
          refine A.ret ?_
          injection h with h
          subst h
          cases hG
          exact ⟨rfl, trivial⟩
end Go.Proofs.Ytafgcjodefafoaa

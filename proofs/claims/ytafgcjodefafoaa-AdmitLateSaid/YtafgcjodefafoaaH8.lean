/-
  Plain programs of functions, and that the functions do what they say. Printed by wip/tools/gen.py.
-/
import Derived.Test.YtafgcjodefafoaaG3
namespace Go.Proofs.Ytafgcjodefafoaa
open Go.RowKit
attribute [local irreducible] IntKind.wrap
set_option linter.unusedVariables false
set_option maxHeartbeats 4000000
set_option maxRecDepth 100000
noncomputable def law29_AdmitLate_L1 (y5 : (List api_Job)) (y4 : (List Int) × Int × Int) (p_ : api_Profile) (p2_ : Int) (y1 : Bool) (s3 : Int × Int) : Option ((Int × Int) ⊕ ((Unit) ⊕ (Bool))) :=
  (bif (decide (s3.2 < ((y5.length : Nat) : Int))) then
    (chkO (decide (0 ≤ s3.2) && decide (s3.2 < ((y5.length : Nat) : Int)))).bind fun _ =>
    (getI y5 s3.2).bind fun x117 =>
    (bif (x117.Id != y4.2.1) then
      some (.inl ((IntKind.i64.wrap (s3.1 + x117.Size)), (IntKind.i64.wrap (s3.2 + (1 : Int)))))
    else
      (chkO (cutO (0 : Int) s3.2 ((y5.length : Nat) : Int))).bind fun _ =>
      (admit_Plan p_ (List.take (s3.2 - (0 : Int)).toNat (List.drop (0 : Int).toNat y5)) p2_).bind fun y121 =>
      (bif (y121.2.2 != (0 : Int)) then
        some (.inr (.inr false))
      else
        (bif (decide ((IntKind.i64.wrap (x117.Due - p2_)) < (0 : Int))) then
          some (.inr (.inr y1))
        else
          (bif (decide ((60 : Int) < (IntKind.i64.wrap (x117.Due - p2_)))) then
            some (.inr (.inr y1))
          else
            (supply_Worst p_ (IntKind.i64.wrap (x117.Due - p2_))).bind fun y123 =>
            (supply_Given p_ y123).bind fun y124 =>
            (bif y1 then
              (bif (((y123.length : Nat) : Int) == (IntKind.i64.wrap (x117.Due - p2_))) then
                (supply_Allowed p_ y123).bind fun y125 =>
                (bif y125 then
                  (bif (y124.2 == (0 : Int)) then
                    some (.inr (.inr (decide (y124.1 < (IntKind.i64.wrap (s3.1 + x117.Size))))))
                  else
                    some (.inr (.inr false)))
                else
                  some (.inr (.inr false)))
              else
                some (.inr (.inr false)))
            else
              some (.inr (.inr false)))))))
  else
    some (.inr (.inl ())))
noncomputable def law29_AdmitLate (p_ : api_Profile) (p1_ : (List api_Job)) (p2_ : Int) : Option (Bool) :=
  (law29_small).bind fun y1 =>
  (law29_few p_ p1_).bind fun y3 =>
  (bif (!y3) then
    some y1
  else
    (admit_Plan p_ p1_ p2_).bind fun y4 =>
    (bif (y4.2.2 != (16 : Int)) then
      (bif y1 then
        some (y4.2.1 == (-1 : Int))
      else
        some false)
    else
      (ref29_Order p1_).bind fun y5 =>
      (seqF (A := Unit) (
        loopF (law29_AdmitLate_L1 y5 y4 p_ p2_ y1) ((0 : Int), (0 : Int)))
      fun s2 =>
        some false)))
theorem law29_AdmitLate_fn {p_ : api_Profile} {p1_ : (List api_Job)} {p2_ : Int} {r : Bool} (h : law29_AdmitLate p_ p1_ p2_ = some r) : Fn Try.prog 8 [.agg [.d (.v (.string p_.Name)), .d (.v (.int .i64 p_.Edit)), .d (.v (.int .i64 p_.Within)), .d (.v (.int .i64 p_.Delete)), .d (.v (.bool p_.React)), .d (.v (.int .i64 p_.Thread)), .d (.v (.bool p_.Quote)), .d (.v (.bool p_.Mention)), .d (.v (.int .i64 p_.Size)), .d (.v (.int .i64 p_.Parts)), .d (.v (.int .i64 p_.Files)), .d (.v (.int .i64 p_.Bytes)), .d (.fz (List.map encS p_.Types)), .d (.v (.int .i64 p_.Join)), .d (.v (.int .i64 p_.History)), .d (.v (.int .i64 p_.Remove)), .d (.v (.int .i64 p_.Level)), .d (.v (.bool p_.Batch)), .d (.v (.int .i64 p_.Rate)), .d (.v (.int .i64 p_.Down)), .d (.v (.int .i64 p_.Window)), .d (.v (.int .i64 p_.Keep))], .d (.fz (List.map api_Job.enc p1_)), .d (.v (.int .i64 p2_))] (.d (.v (.bool r))) := by
  refine Fn.of_AW (F := FnX Try.prog) (base := 0) (js := [23]) mixed tok noeqs (fun _ _ _ h => h) Try.call8 Try.func8 rfl Try.ntmps8 (by rw [Try.results8]) (by simp) ?_
  have hG : (fun x => x = r) r := rfl
  unfold law29_AdmitLate at h
  refine A.seq rfl ?_
  refine A.region ?_
  refine R.one rfl ?_
  refine W.det (.lp 3 1 0) (Mem.add _ 3 (.box [.d (.v (.string p_.Name)), .d (.v (.int .i64 p_.Edit)), .d (.v (.int .i64 p_.Within)), .d (.v (.int .i64 p_.Delete)), .d (.v (.bool p_.React)), .d (.v (.int .i64 p_.Thread)), .d (.v (.bool p_.Quote)), .d (.v (.bool p_.Mention)), .d (.v (.int .i64 p_.Size)), .d (.v (.int .i64 p_.Parts)), .d (.v (.int .i64 p_.Files)), .d (.v (.int .i64 p_.Bytes)), .d (.fz (List.map encS p_.Types)), .d (.v (.int .i64 p_.Join)), .d (.v (.int .i64 p_.History)), .d (.v (.int .i64 p_.Remove)), .d (.v (.int .i64 p_.Level)), .d (.v (.bool p_.Batch)), .d (.v (.int .i64 p_.Rate)), .d (.v (.int .i64 p_.Down)), .d (.v (.int .i64 p_.Window)), .d (.v (.int .i64 p_.Keep))])) rfl ?_
  refine R.one rfl ?_
  refine W.det (.kb false) _ rfl ?_
  refine R.nil ?_
  refine seqK.n ?_
  refine A.seq rfl ?_
  refine A.region ?_
  refine R.one rfl ?_
  refine bindK h fun y1 hy1 h => ?_
  refine W.call rfl (law29_small_fn hy1) ?_
  refine W.det (.d (.v (.bool y1))) _ rfl ?_
  refine R.one rfl ?_
  refine W.det (.d (.v (.bool y1))) _ rfl ?_
  refine R.nil ?_
  refine seqK.n ?_
  refine A.seq rfl ?_
  refine A.seq rfl ?_
  refine A.region ?_
  refine R.one rfl ?_
  refine W.det (.agg [.d (.v (.string p_.Name)), .d (.v (.int .i64 p_.Edit)), .d (.v (.int .i64 p_.Within)), .d (.v (.int .i64 p_.Delete)), .d (.v (.bool p_.React)), .d (.v (.int .i64 p_.Thread)), .d (.v (.bool p_.Quote)), .d (.v (.bool p_.Mention)), .d (.v (.int .i64 p_.Size)), .d (.v (.int .i64 p_.Parts)), .d (.v (.int .i64 p_.Files)), .d (.v (.int .i64 p_.Bytes)), .d (.fz (List.map encS p_.Types)), .d (.v (.int .i64 p_.Join)), .d (.v (.int .i64 p_.History)), .d (.v (.int .i64 p_.Remove)), .d (.v (.int .i64 p_.Level)), .d (.v (.bool p_.Batch)), .d (.v (.int .i64 p_.Rate)), .d (.v (.int .i64 p_.Down)), .d (.v (.int .i64 p_.Window)), .d (.v (.int .i64 p_.Keep))]) _ rfl ?_
  refine R.one rfl ?_
  refine W.det (.d (.fz (List.map api_Job.enc p1_))) _ rfl ?_
  refine R.one rfl ?_
  refine bindK h fun y3 hy3 h => ?_
  refine W.call rfl (law29_few_fn hy3) ?_
  refine W.det (.d (.v (.bool y3))) _ rfl ?_
  refine R.one rfl ?_
  refine W.det (.d (.v (.bool (!y3)))) _ rfl ?_
  refine R.nil ?_
  refine seqK.n ?_
  refine A.condB rfl h (fun _ h => ?_) (fun _ h => ?_)
  · refine A.seq rfl ?_
    refine A.region ?_
    refine R.one rfl ?_
    refine W.det (.d (.v (.bool y1))) _ rfl ?_
    refine R.one rfl ?_
    refine W.det (.d (.v (.bool y1))) _ rfl ?_
    refine R.nil ?_
    refine seqK.n ?_
    refine A.ret ?_
    refine seqK.r ?_
    injection h with h
    subst h
    cases hG
    exact ⟨rfl, trivial⟩
  · refine A.skip ?_
    refine seqK.n ?_
    refine A.seq rfl ?_
    refine A.region ?_
    refine R.one rfl ?_
    refine W.det (.agg [.d (.v (.string p_.Name)), .d (.v (.int .i64 p_.Edit)), .d (.v (.int .i64 p_.Within)), .d (.v (.int .i64 p_.Delete)), .d (.v (.bool p_.React)), .d (.v (.int .i64 p_.Thread)), .d (.v (.bool p_.Quote)), .d (.v (.bool p_.Mention)), .d (.v (.int .i64 p_.Size)), .d (.v (.int .i64 p_.Parts)), .d (.v (.int .i64 p_.Files)), .d (.v (.int .i64 p_.Bytes)), .d (.fz (List.map encS p_.Types)), .d (.v (.int .i64 p_.Join)), .d (.v (.int .i64 p_.History)), .d (.v (.int .i64 p_.Remove)), .d (.v (.int .i64 p_.Level)), .d (.v (.bool p_.Batch)), .d (.v (.int .i64 p_.Rate)), .d (.v (.int .i64 p_.Down)), .d (.v (.int .i64 p_.Window)), .d (.v (.int .i64 p_.Keep))]) _ rfl ?_
    refine R.one rfl ?_
    refine W.det (.d (.fz (List.map api_Job.enc p1_))) _ rfl ?_
    refine R.one rfl ?_
    refine W.det (.d (.v (.int .i64 p2_))) _ rfl ?_
    refine R.one rfl ?_
    refine bindK h fun y4 hy4 h => ?_
    refine W.call rfl (admit_Plan_fn hy4) ?_
    refine W.v (.tup [.row 1048607 1 (List.map (encI .i64) y4.1).length, .d (.v (.int .i64 y4.2.1)), .d (.v (.int .i64 y4.2.2))]) (.tup [.row 1048607 1 y4.1.length, .d (.v (.int .i64 y4.2.1)), .d (.v (.int .i64 y4.2.2))]) (Mem.add _ 1048607 (.rows 1 (List.map (encI .i64) y4.1) false)) rfl (by simp only [List.length_map]) ?_
    refine R.one rfl ?_
    refine W.det (.tup [.row 1048607 1 y4.1.length, .d (.v (.int .i64 y4.2.1)), .d (.v (.int .i64 y4.2.2))]) _ rfl ?_
    refine R.one rfl ?_
    refine W.det (.row 1048607 1 y4.1.length) _ rfl ?_
    refine R.one rfl ?_
    refine W.det (.d (.v (.int .i64 y4.2.1))) _ rfl ?_
    refine R.one rfl ?_
    refine W.det (.d (.v (.int .i64 y4.2.2))) _ rfl ?_
    refine R.one rfl ?_
    refine W.det (.row 1048607 1 y4.1.length) _ rfl ?_
    refine R.one rfl ?_
    refine W.det (.d (.v (.int .i64 y4.2.1))) _ rfl ?_
    refine R.one rfl ?_
    refine W.det (.d (.v (.int .i64 y4.2.2))) _ rfl ?_
    refine R.nil ?_
    refine seqK.n ?_
    refine A.seq rfl ?_
    refine A.seq rfl ?_
    refine A.region ?_
    refine R.one rfl ?_
    refine W.det (.d (.v (.int .i64 y4.2.2))) _ rfl ?_
    refine R.one rfl ?_
    refine W.det (.d (.v (.bool (y4.2.2 != (16 : Int))))) _ rfl ?_
    refine R.nil ?_
    refine seqK.n ?_
    refine A.condB rfl h (fun _ h => ?_) (fun _ h => ?_)
    · refine A.seq rfl ?_
      refine A.region ?_
      refine R.one rfl ?_
      refine W.det (.d (.v (.bool y1))) _ rfl ?_
      refine R.one rfl ?_
      refine W.det (.d (.v (.bool y1))) _ rfl ?_
      refine R.gT rfl rfl rfl h (fun _ h => ?_) (fun _ h => ?_)
      · refine W.det (.d (.v (.int .i64 y4.2.1))) _ rfl ?_
        refine R.run rfl rfl rfl ?_
        refine W.det (.d (.v (.bool (y4.2.1 == (-1 : Int))))) _ rfl ?_
        refine R.one rfl ?_
        refine W.det (.d (.v (.bool (y4.2.1 == (-1 : Int))))) _ rfl ?_
        refine R.one rfl ?_
        refine W.det (.d (.v (.bool (y4.2.1 == (-1 : Int))))) _ rfl ?_
        refine R.nil ?_
        refine seqK.n ?_
        refine A.ret ?_
        refine seqK.r ?_
        injection h with h
        subst h
        cases hG
        exact ⟨rfl, trivial⟩
      · refine R.skip rfl rfl rfl ?_
        refine R.one rfl ?_
        refine W.det (.kb false) _ rfl ?_
        refine R.one rfl ?_
        refine W.det (.kb false) _ rfl ?_
        refine R.nil ?_
        refine seqK.n ?_
        refine A.ret ?_
        refine seqK.r ?_
        injection h with h
        subst h
        cases hG
        exact ⟨rfl, trivial⟩
    · refine A.skip ?_
      refine seqK.n ?_
      refine A.seq rfl ?_
      refine A.region ?_
      refine R.one rfl ?_
      refine W.det (.d (.fz (List.map api_Job.enc p1_))) _ rfl ?_
      refine R.one rfl ?_
      refine bindK h fun y5 hy5 h => ?_
      refine W.call rfl (ref29_Order_fn hy5) ?_
      refine W.v (.row 43 1 (List.map api_Job.enc y5).length) (.row 43 1 y5.length) (Mem.add _ 43 (.rows 3 (List.map api_Job.enc y5) false)) rfl (by simp only [List.length_map]) ?_
      refine R.one rfl ?_
      refine W.det (.row 43 1 y5.length) _ rfl ?_
      refine R.nil ?_
      refine seqK.n ?_
      refine A.seq rfl ?_
      refine A.region ?_
      refine R.one rfl ?_
      refine W.det (.d (.v (.int .i64 (0 : Int)))) _ rfl ?_
      refine R.nil ?_
      refine seqK.n ?_
      refine A.join (fun (s2 : Unit) => []) (fun s2 => []) _ h hG rfl ?_ ?_
      · intro J f h hG
        refine A.seq rfl ?_
        refine A.region ?_
        refine R.one rfl ?_
        refine W.det (.d (.v (.int .i64 (0 : Int)))) _ rfl ?_
        refine R.nil ?_
        refine seqK.n ?_
        refine A.block ?_
        refine A.loop (fun (s3 : Int × Int) => [(2, .d (.v (.int .i64 p2_))), (3, .lp 900000 1 0), (7, .d (.v (.bool y1))), (9, .d (.v (.int .i64 y4.2.1))), (11, .row 900001 1 y5.length), (12, .d (.v (.int .i64 s3.1))), (13, .d (.v (.int .i64 s3.2)))]) (fun s3 => [(900000, .box [.d (.v (.string p_.Name)), .d (.v (.int .i64 p_.Edit)), .d (.v (.int .i64 p_.Within)), .d (.v (.int .i64 p_.Delete)), .d (.v (.bool p_.React)), .d (.v (.int .i64 p_.Thread)), .d (.v (.bool p_.Quote)), .d (.v (.bool p_.Mention)), .d (.v (.int .i64 p_.Size)), .d (.v (.int .i64 p_.Parts)), .d (.v (.int .i64 p_.Files)), .d (.v (.int .i64 p_.Bytes)), .d (.fz (List.map encS p_.Types)), .d (.v (.int .i64 p_.Join)), .d (.v (.int .i64 p_.History)), .d (.v (.int .i64 p_.Remove)), .d (.v (.int .i64 p_.Level)), .d (.v (.bool p_.Batch)), .d (.v (.int .i64 p_.Rate)), .d (.v (.int .i64 p_.Down)), .d (.v (.int .i64 p_.Window)), .d (.v (.int .i64 p_.Keep))]), (900001, .rows 3 (List.map api_Job.enc y5) false)]) _ h hG (Enters.of [] [(900000, (3, 1)), (900001, (43, 1))] _ rfl rfl (chkE.c rfl rfl (chkE.c rfl rfl (chkE.c rfl rfl (chkE.c rfl rfl (chkE.c rfl rfl (chkE.c rfl rfl (chkE.c rfl rfl trivial))))))) (chkM.c rfl rfl (chkM.c rfl rfl trivial))) ?_
        intro J s3 f h hG
        unfold law29_AdmitLate_L1 at h
        refine A.seq rfl ?_
        refine A.seq rfl ?_
        refine A.region ?_
        refine R.one rfl ?_
        refine W.det (.d (.v (.int .i64 s3.2))) _ rfl ?_
        refine R.one rfl ?_
        refine W.det (.row 900001 1 y5.length) _ rfl ?_
        refine R.one rfl ?_
        refine W.det (.d (.v (.int .i64 ((y5.length : Nat) : Int)))) _ rfl ?_
        refine R.one rfl ?_
        refine W.det (.d (.v (.bool (decide (s3.2 < ((y5.length : Nat) : Int)))))) _ rfl ?_
        refine R.nil ?_
        refine seqK.n ?_
        refine A.condB rfl h (fun _ h => ?_) (fun _ h => ?_)
        · refine A.skip ?_
          refine seqK.n ?_
          refine A.seq rfl ?_
          refine A.block ?_
          refine A.seq rfl ?_
          refine A.region ?_
          refine R.one rfl ?_
          refine W.det (.d (.v (.int .i64 s3.1))) _ rfl ?_
          refine R.one rfl ?_
          refine W.det (.row 900001 1 y5.length) _ rfl ?_
          refine R.one rfl ?_
          refine W.det (.d (.v (.int .i64 s3.2))) _ rfl ?_
          refine R.one rfl ?_
          refine chkK h fun g116 h => ?_
          refine W.chk rfl (by simpa using g116) ?_
          refine W.det (.rp 900001 1 s3.2.toNat 0) _ rfl ?_
          refine R.one rfl ?_
          refine W.det (.rp 900001 1 s3.2.toNat 1) _ rfl ?_
          refine R.one rfl ?_
          refine bindK h fun x117 hx117 h => ?_
          refine W.elem rfl (elemG hx117) ?_
          refine W.det (.d (.v (.int .i64 x117.Size))) _ rfl ?_
          refine R.one rfl ?_
          refine W.det (.d (.v (.int .i64 (IntKind.i64.wrap (s3.1 + x117.Size))))) _ rfl ?_
          refine R.one rfl ?_
          refine W.det (.d (.v (.int .i64 (IntKind.i64.wrap (s3.1 + x117.Size))))) _ rfl ?_
          refine R.nil ?_
          refine seqK.n ?_
          refine A.seq rfl ?_
          refine A.seq rfl ?_
          refine A.region ?_
          refine R.one rfl ?_
          refine W.det (.row 900001 1 y5.length) _ rfl ?_
          refine R.one rfl ?_
          refine W.det (.d (.v (.int .i64 s3.2))) _ rfl ?_
          refine R.one rfl ?_
          refine W.chk rfl (by simpa using g116) ?_
          refine W.det (.rp 900001 1 s3.2.toNat 0) _ rfl ?_
          refine R.one rfl ?_
          refine W.det (.rp 900001 1 s3.2.toNat 0) _ rfl ?_
          refine R.one rfl ?_
          refine W.elem rfl (elemG hx117) ?_
          refine W.det (.d (.v (.int .i64 x117.Id))) _ rfl ?_
          refine R.one rfl ?_
          refine W.det (.d (.v (.int .i64 y4.2.1))) _ rfl ?_
          refine R.one rfl ?_
          refine W.det (.d (.v (.bool (x117.Id != y4.2.1)))) _ rfl ?_
          refine R.nil ?_
          refine seqK.n ?_
          refine A.condB rfl h (fun _ h => ?_) (fun _ h => ?_)
          · refine A.exit ?_
            refine seqK.e ?_
            refine blockK.x ?_
            refine seqK.n ?_
            refine A.region ?_
            refine R.one rfl ?_
            refine W.det (.d (.v (.int .i64 s3.2))) _ rfl ?_
            refine R.one rfl ?_
            refine W.det (.d (.v (.int .i64 (IntKind.i64.wrap (s3.2 + (1 : Int)))))) _ rfl ?_
            refine R.one rfl ?_
            refine W.det (.d (.v (.int .i64 (IntKind.i64.wrap (s3.2 + (1 : Int)))))) _ rfl ?_
            refine R.nil ?_
            injection h with h
            subst h
            exact headK.n hG (Enters.of [] [(900000, (900000, 1)), (900001, (900001, 1))] _ rfl rfl (chkE.c rfl rfl (chkE.c rfl rfl (chkE.c rfl rfl (chkE.c rfl rfl (chkE.c rfl rfl (chkE.c rfl rfl (chkE.c rfl rfl trivial))))))) (chkM.c rfl rfl (chkM.c rfl rfl trivial)))
          · refine A.skip ?_
            refine seqK.n ?_
            refine A.seq rfl ?_
            refine A.regionD (by kernel_rfl) ?_
            refine R.one rfl ?_
            refine W.det (.agg [.d (.v (.string p_.Name)), .d (.v (.int .i64 p_.Edit)), .d (.v (.int .i64 p_.Within)), .d (.v (.int .i64 p_.Delete)), .d (.v (.bool p_.React)), .d (.v (.int .i64 p_.Thread)), .d (.v (.bool p_.Quote)), .d (.v (.bool p_.Mention)), .d (.v (.int .i64 p_.Size)), .d (.v (.int .i64 p_.Parts)), .d (.v (.int .i64 p_.Files)), .d (.v (.int .i64 p_.Bytes)), .d (.fz (List.map encS p_.Types)), .d (.v (.int .i64 p_.Join)), .d (.v (.int .i64 p_.History)), .d (.v (.int .i64 p_.Remove)), .d (.v (.int .i64 p_.Level)), .d (.v (.bool p_.Batch)), .d (.v (.int .i64 p_.Rate)), .d (.v (.int .i64 p_.Down)), .d (.v (.int .i64 p_.Window)), .d (.v (.int .i64 p_.Keep))]) _ rfl ?_
            refine R.one rfl ?_
            refine W.det (.row 900001 1 y5.length) _ rfl ?_
            refine R.one rfl ?_
            refine W.det (.d (.v (.int .i64 s3.2))) _ rfl ?_
            refine R.one rfl ?_
            refine chkK h fun g120 h => ?_
            refine W.chk rfl (cutO_all g120) ?_
            refine W.det (.sub 900001 1 (0 : Int).toNat (s3.2 - (0 : Int)).toNat) _ rfl ?_
            refine R.one rfl ?_
            refine W.det (.d (.v (.int .i64 p2_))) _ rfl ?_
            refine R.one rfl ?_
            refine bindK h fun y121 hy121 h => ?_
            refine W.call rfl (Fn.cast (admit_Plan_fn hy121) (by simp only [partMap])) ?_
            refine W.v (.tup [.row 1048646 2 (List.map (encI .i64) y121.1).length, .d (.v (.int .i64 y121.2.1)), .d (.v (.int .i64 y121.2.2))]) (.tup [.row 1048646 2 y121.1.length, .d (.v (.int .i64 y121.2.1)), .d (.v (.int .i64 y121.2.2))]) (Mem.add (Mem.set _ 900001 1 (some (.rows 3 (List.map api_Job.enc y5) true))) 1048646 (.rows 1 (List.map (encI .i64) y121.1) false)) rfl (by simp only [List.length_map]) ?_
            refine R.one rfl ?_
            refine W.det (.tup [.row 1048646 2 y121.1.length, .d (.v (.int .i64 y121.2.1)), .d (.v (.int .i64 y121.2.2))]) _ rfl ?_
            refine R.one rfl ?_
            refine W.det (.row 1048646 2 y121.1.length) _ rfl ?_
            refine R.one rfl ?_
            refine W.det (.d (.v (.int .i64 y121.2.1))) _ rfl ?_
            refine R.one rfl ?_
            refine W.det (.d (.v (.int .i64 y121.2.2))) _ rfl ?_
            refine R.one rfl ?_
            refine W.det (.row 1048646 2 y121.1.length) _ rfl ?_
            refine R.one rfl ?_
            refine W.det (.d (.v (.int .i64 y121.2.1))) _ rfl ?_
            refine R.one rfl ?_
            refine W.det (.d (.v (.int .i64 y121.2.2))) _ rfl ?_
            refine R.nil ?_
            refine seqK.n ?_
            refine A.seq rfl ?_
            refine A.region ?_
            refine R.one rfl ?_
            refine W.det (.row 900001 1 y5.length) _ rfl ?_
            refine R.one rfl ?_
            refine W.det (.d (.v (.int .i64 s3.2))) _ rfl ?_
            refine R.one rfl ?_
            refine W.chk rfl (by simpa using g116) ?_
            refine W.det (.rp 900001 1 s3.2.toNat 0) _ rfl ?_
            refine R.one rfl ?_
            refine W.det (.rp 900001 1 s3.2.toNat 2) _ rfl ?_
            refine R.one rfl ?_
            refine W.elem rfl (elemG hx117) ?_
            refine W.det (.d (.v (.int .i64 x117.Due))) _ rfl ?_
            refine R.one rfl ?_
            refine W.det (.d (.v (.int .i64 p2_))) _ rfl ?_
            refine R.one rfl ?_
            refine W.det (.d (.v (.int .i64 (IntKind.i64.wrap (x117.Due - p2_))))) _ rfl ?_
            refine R.one rfl ?_
            refine W.det (.d (.v (.int .i64 (IntKind.i64.wrap (x117.Due - p2_))))) _ rfl ?_
            refine R.nil ?_
            refine seqK.n ?_
            refine A.seq rfl ?_
            refine A.seq rfl ?_
            refine A.region ?_
            refine R.one rfl ?_
            refine W.det (.d (.v (.int .i64 y121.2.2))) _ rfl ?_
            refine R.one rfl ?_
            refine W.det (.d (.v (.bool (y121.2.2 != (0 : Int))))) _ rfl ?_
            refine R.nil ?_
            refine seqK.n ?_
            refine A.condB rfl h (fun _ h => ?_) (fun _ h => ?_)
            · refine A.seq rfl ?_
              refine A.region ?_
              refine R.one rfl ?_
              refine W.det (.kb false) _ rfl ?_
              refine R.nil ?_
              refine seqK.n ?_
              refine A.ret ?_
              refine seqK.r ?_
              refine blockK.r ?_
              refine seqK.r ?_
              refine headK.r ?_
              refine blockK.r ?_
              refine headK.r ?_
              injection h with h
              subst h
              cases hG
              exact ⟨rfl, trivial⟩
            · refine A.skip ?_
              refine seqK.n ?_
              refine A.seq rfl ?_
              refine A.seq rfl ?_
              refine A.region ?_
              refine R.one rfl ?_
              refine W.det (.d (.v (.int .i64 (IntKind.i64.wrap (x117.Due - p2_))))) _ rfl ?_
              refine R.one rfl ?_
              refine W.det (.d (.v (.bool (decide ((IntKind.i64.wrap (x117.Due - p2_)) < (0 : Int)))))) _ rfl ?_
              refine R.one rfl ?_
              refine W.det (.d (.v (.bool (decide ((IntKind.i64.wrap (x117.Due - p2_)) < (0 : Int)))))) _ rfl ?_
              refine R.gF rfl rfl rfl h (fun _ h => ?_) (fun _ h => ?_)
              · refine R.skip rfl rfl rfl ?_
                refine R.one rfl ?_
                refine W.det (.kb true) _ rfl ?_
                refine R.nil ?_
                refine seqK.n ?_
                refine A.condT rfl ?_
                refine A.seq rfl ?_
                refine A.region ?_
                refine R.one rfl ?_
                refine W.det (.d (.v (.bool y1))) _ rfl ?_
                refine R.one rfl ?_
                refine W.det (.d (.v (.bool y1))) _ rfl ?_
                refine R.nil ?_
                refine seqK.n ?_
                refine A.ret ?_
                refine seqK.r ?_
                refine blockK.r ?_
                refine seqK.r ?_
                refine headK.r ?_
                refine blockK.r ?_
                refine headK.r ?_
                injection h with h
                subst h
                cases hG
                exact ⟨rfl, trivial⟩
              · refine W.det (.d (.v (.int .i64 (IntKind.i64.wrap (x117.Due - p2_))))) _ rfl ?_
                refine R.run rfl rfl rfl ?_
                refine W.det (.d (.v (.bool (decide ((60 : Int) < (IntKind.i64.wrap (x117.Due - p2_))))))) _ rfl ?_
                refine R.one rfl ?_
                refine W.det (.d (.v (.bool (decide ((60 : Int) < (IntKind.i64.wrap (x117.Due - p2_))))))) _ rfl ?_
                refine R.nil ?_
                refine seqK.n ?_
                refine A.condB rfl h (fun _ h => ?_) (fun _ h => ?_)
                · refine A.seq rfl ?_
                  refine A.region ?_
                  refine R.one rfl ?_
                  refine W.det (.d (.v (.bool y1))) _ rfl ?_
                  refine R.one rfl ?_
                  refine W.det (.d (.v (.bool y1))) _ rfl ?_
                  refine R.nil ?_
                  refine seqK.n ?_
                  refine A.ret ?_
                  refine seqK.r ?_
                  refine blockK.r ?_
                  refine seqK.r ?_
                  refine headK.r ?_
                  refine blockK.r ?_
                  refine headK.r ?_
                  injection h with h
                  subst h
                  cases hG
                  exact ⟨rfl, trivial⟩
                · refine A.skip ?_
                  refine seqK.n ?_
                  refine A.seq rfl ?_
                  refine A.region ?_
                  refine R.one rfl ?_
                  refine W.det (.agg [.d (.v (.string p_.Name)), .d (.v (.int .i64 p_.Edit)), .d (.v (.int .i64 p_.Within)), .d (.v (.int .i64 p_.Delete)), .d (.v (.bool p_.React)), .d (.v (.int .i64 p_.Thread)), .d (.v (.bool p_.Quote)), .d (.v (.bool p_.Mention)), .d (.v (.int .i64 p_.Size)), .d (.v (.int .i64 p_.Parts)), .d (.v (.int .i64 p_.Files)), .d (.v (.int .i64 p_.Bytes)), .d (.fz (List.map encS p_.Types)), .d (.v (.int .i64 p_.Join)), .d (.v (.int .i64 p_.History)), .d (.v (.int .i64 p_.Remove)), .d (.v (.int .i64 p_.Level)), .d (.v (.bool p_.Batch)), .d (.v (.int .i64 p_.Rate)), .d (.v (.int .i64 p_.Down)), .d (.v (.int .i64 p_.Window)), .d (.v (.int .i64 p_.Keep))]) _ rfl ?_
                  refine R.one rfl ?_
                  refine W.det (.d (.v (.int .i64 (IntKind.i64.wrap (x117.Due - p2_))))) _ rfl ?_
                  refine R.one rfl ?_
                  refine bindK h fun y123 hy123 h => ?_
                  refine W.call rfl (supply_Worst_fn hy123) ?_
                  refine W.v (.row 92 2 (List.map encB y123).length) (.row 92 2 y123.length) (Mem.add _ 92 (.rows 1 (List.map encB y123) false)) rfl (by simp only [List.length_map]) ?_
                  refine R.one rfl ?_
                  refine W.det (.row 92 2 y123.length) _ rfl ?_
                  refine R.nil ?_
                  refine seqK.n ?_
                  refine A.seq rfl ?_
                  refine A.region ?_
                  refine R.one rfl ?_
                  refine W.det (.agg [.d (.v (.string p_.Name)), .d (.v (.int .i64 p_.Edit)), .d (.v (.int .i64 p_.Within)), .d (.v (.int .i64 p_.Delete)), .d (.v (.bool p_.React)), .d (.v (.int .i64 p_.Thread)), .d (.v (.bool p_.Quote)), .d (.v (.bool p_.Mention)), .d (.v (.int .i64 p_.Size)), .d (.v (.int .i64 p_.Parts)), .d (.v (.int .i64 p_.Files)), .d (.v (.int .i64 p_.Bytes)), .d (.fz (List.map encS p_.Types)), .d (.v (.int .i64 p_.Join)), .d (.v (.int .i64 p_.History)), .d (.v (.int .i64 p_.Remove)), .d (.v (.int .i64 p_.Level)), .d (.v (.bool p_.Batch)), .d (.v (.int .i64 p_.Rate)), .d (.v (.int .i64 p_.Down)), .d (.v (.int .i64 p_.Window)), .d (.v (.int .i64 p_.Keep))]) _ rfl ?_
                  refine R.one rfl ?_
                  refine W.det (.row 92 2 y123.length) _ rfl ?_
                  refine R.one rfl ?_
                  refine bindK h fun y124 hy124 h => ?_
                  refine W.call rfl (supply_Given_fn hy124) ?_
                  refine W.det (.tup [.d (.v (.int .i64 y124.1)), .d (.v (.int .i64 y124.2))]) _ rfl ?_
                  refine R.one rfl ?_
                  refine W.det (.tup [.d (.v (.int .i64 y124.1)), .d (.v (.int .i64 y124.2))]) _ rfl ?_
                  refine R.one rfl ?_
                  refine W.det (.d (.v (.int .i64 y124.1))) _ rfl ?_
                  refine R.one rfl ?_
                  refine W.det (.d (.v (.int .i64 y124.2))) _ rfl ?_
                  refine R.one rfl ?_
                  refine W.det (.d (.v (.int .i64 y124.1))) _ rfl ?_
                  refine R.one rfl ?_
                  refine W.det (.d (.v (.int .i64 y124.2))) _ rfl ?_
                  refine R.nil ?_
                  refine seqK.n ?_
                  refine A.seq rfl ?_
                  refine A.region ?_
                  refine R.one rfl ?_
                  refine W.det (.d (.v (.bool y1))) _ rfl ?_
                  refine R.one rfl ?_
                  refine W.det (.d (.v (.bool y1))) _ rfl ?_
                  refine R.gT rfl rfl rfl h (fun _ h => ?_) (fun _ h => ?_)
                  · refine W.det (.row 92 2 y123.length) _ rfl ?_
                    refine R.run rfl rfl rfl ?_
                    refine W.det (.d (.v (.int .i64 ((y123.length : Nat) : Int)))) _ rfl ?_
                    refine R.run rfl rfl rfl ?_
                    refine W.det (.d (.v (.int .i64 (IntKind.i64.wrap (x117.Due - p2_))))) _ rfl ?_
                    refine R.run rfl rfl rfl ?_
                    refine W.det (.d (.v (.bool (((y123.length : Nat) : Int) == (IntKind.i64.wrap (x117.Due - p2_)))))) _ rfl ?_
                    refine R.one rfl ?_
                    refine W.det (.d (.v (.bool (((y123.length : Nat) : Int) == (IntKind.i64.wrap (x117.Due - p2_)))))) _ rfl ?_
                    refine R.one rfl ?_
                    refine W.det (.d (.v (.bool (((y123.length : Nat) : Int) == (IntKind.i64.wrap (x117.Due - p2_)))))) _ rfl ?_
                    refine R.gT rfl rfl rfl h (fun _ h => ?_) (fun _ h => ?_)
                    · refine W.det (.agg [.d (.v (.string p_.Name)), .d (.v (.int .i64 p_.Edit)), .d (.v (.int .i64 p_.Within)), .d (.v (.int .i64 p_.Delete)), .d (.v (.bool p_.React)), .d (.v (.int .i64 p_.Thread)), .d (.v (.bool p_.Quote)), .d (.v (.bool p_.Mention)), .d (.v (.int .i64 p_.Size)), .d (.v (.int .i64 p_.Parts)), .d (.v (.int .i64 p_.Files)), .d (.v (.int .i64 p_.Bytes)), .d (.fz (List.map encS p_.Types)), .d (.v (.int .i64 p_.Join)), .d (.v (.int .i64 p_.History)), .d (.v (.int .i64 p_.Remove)), .d (.v (.int .i64 p_.Level)), .d (.v (.bool p_.Batch)), .d (.v (.int .i64 p_.Rate)), .d (.v (.int .i64 p_.Down)), .d (.v (.int .i64 p_.Window)), .d (.v (.int .i64 p_.Keep))]) _ rfl ?_
                      refine R.run rfl rfl rfl ?_
                      refine W.det (.row 92 2 y123.length) _ rfl ?_
                      refine R.run rfl rfl rfl ?_
                      refine bindK h fun y125 hy125 h => ?_
                      refine W.call rfl (supply_Allowed_fn hy125) ?_
                      refine W.det (.d (.v (.bool y125))) _ rfl ?_
                      refine R.one rfl ?_
                      refine W.det (.d (.v (.bool y125))) _ rfl ?_
                      refine R.one rfl ?_
                      refine W.det (.d (.v (.bool y125))) _ rfl ?_
                      refine R.gT rfl rfl rfl h (fun _ h => ?_) (fun _ h => ?_)
                      · refine W.det (.d (.v (.int .i64 y124.2))) _ rfl ?_
                        refine R.run rfl rfl rfl ?_
                        refine W.det (.d (.v (.bool (y124.2 == (0 : Int))))) _ rfl ?_
                        refine R.one rfl ?_
                        refine W.det (.d (.v (.bool (y124.2 == (0 : Int))))) _ rfl ?_
                        refine R.one rfl ?_
                        refine W.det (.d (.v (.bool (y124.2 == (0 : Int))))) _ rfl ?_
                        refine R.gT rfl rfl rfl h (fun _ h => ?_) (fun _ h => ?_)
                        · refine W.det (.d (.v (.int .i64 y124.1))) _ rfl ?_
                          refine R.run rfl rfl rfl ?_
                          refine W.det (.d (.v (.int .i64 (IntKind.i64.wrap (s3.1 + x117.Size))))) _ rfl ?_
                          refine R.run rfl rfl rfl ?_
                          refine W.det (.d (.v (.bool (decide (y124.1 < (IntKind.i64.wrap (s3.1 + x117.Size))))))) _ rfl ?_
                          refine R.one rfl ?_
                          refine W.det (.d (.v (.bool (decide (y124.1 < (IntKind.i64.wrap (s3.1 + x117.Size))))))) _ rfl ?_
                          refine R.one rfl ?_
                          refine W.det (.d (.v (.bool (decide (y124.1 < (IntKind.i64.wrap (s3.1 + x117.Size))))))) _ rfl ?_
                          refine R.nil ?_
                          refine seqK.n ?_
                          refine A.ret ?_
                          refine blockK.r ?_
                          refine seqK.r ?_
                          refine headK.r ?_
                          refine blockK.r ?_
                          refine headK.r ?_
                          injection h with h
                          subst h
                          cases hG
                          exact ⟨rfl, trivial⟩
                        · refine R.skip rfl rfl rfl ?_
                          refine R.skip rfl rfl rfl ?_
                          refine R.one rfl ?_
                          refine W.det (.kb false) _ rfl ?_
                          refine R.one rfl ?_
                          refine W.det (.kb false) _ rfl ?_
                          refine R.nil ?_
                          refine seqK.n ?_
                          refine A.ret ?_
                          refine blockK.r ?_
                          refine seqK.r ?_
                          refine headK.r ?_
                          refine blockK.r ?_
                          refine headK.r ?_
                          injection h with h
                          subst h
                          cases hG
                          exact ⟨rfl, trivial⟩
                      · refine R.skip rfl rfl rfl ?_
                        refine R.one rfl ?_
                        refine W.det (.kb false) _ rfl ?_
                        refine R.one rfl ?_
                        refine W.det (.kb false) _ rfl ?_
                        refine R.skip rfl rfl rfl ?_
                        refine R.skip rfl rfl rfl ?_
                        refine R.skip rfl rfl rfl ?_
                        refine R.one rfl ?_
                        refine W.det (.kb false) _ rfl ?_
                        refine R.one rfl ?_
                        refine W.det (.kb false) _ rfl ?_
                        refine R.nil ?_
                        refine seqK.n ?_
                        refine A.ret ?_
                        refine blockK.r ?_
                        refine seqK.r ?_
                        refine headK.r ?_
                        refine blockK.r ?_
                        refine headK.r ?_
                        injection h with h
                        subst h
                        cases hG
                        exact ⟨rfl, trivial⟩
                    · refine R.skip rfl rfl rfl ?_
                      refine R.skip rfl rfl rfl ?_
                      refine R.one rfl ?_
                      refine W.det (.kb false) _ rfl ?_
                      refine R.one rfl ?_
                      refine W.det (.kb false) _ rfl ?_
                      refine R.skip rfl rfl rfl ?_
                      refine R.skip rfl rfl rfl ?_
                      refine R.one rfl ?_
                      refine W.det (.kb false) _ rfl ?_
                      refine R.one rfl ?_
                      refine W.det (.kb false) _ rfl ?_
                      refine R.skip rfl rfl rfl ?_
                      refine R.skip rfl rfl rfl ?_
                      refine R.skip rfl rfl rfl ?_
                      refine R.one rfl ?_
                      refine W.det (.kb false) _ rfl ?_
                      refine R.one rfl ?_
                      refine W.det (.kb false) _ rfl ?_
                      refine R.nil ?_
                      refine seqK.n ?_
                      refine A.ret ?_
                      refine blockK.r ?_
                      refine seqK.r ?_
                      refine headK.r ?_
                      refine blockK.r ?_
                      refine headK.r ?_
                      injection h with h
                      subst h
                      cases hG
                      exact ⟨rfl, trivial⟩
                  · refine R.skip rfl rfl rfl ?_
                    refine R.skip rfl rfl rfl ?_
                    refine R.skip rfl rfl rfl ?_
                    refine R.one rfl ?_
                    refine W.det (.kb false) _ rfl ?_
                    refine R.one rfl ?_
                    refine W.det (.kb false) _ rfl ?_
                    refine R.skip rfl rfl rfl ?_
                    refine R.skip rfl rfl rfl ?_
                    refine R.skip rfl rfl rfl ?_
                    refine R.one rfl ?_
                    refine W.det (.kb false) _ rfl ?_
                    refine R.one rfl ?_
                    refine W.det (.kb false) _ rfl ?_
                    refine R.skip rfl rfl rfl ?_
                    refine R.skip rfl rfl rfl ?_
                    refine R.one rfl ?_
                    refine W.det (.kb false) _ rfl ?_
                    refine R.one rfl ?_
                    refine W.det (.kb false) _ rfl ?_
                    refine R.skip rfl rfl rfl ?_
                    refine R.skip rfl rfl rfl ?_
                    refine R.skip rfl rfl rfl ?_
                    refine R.one rfl ?_
                    refine W.det (.kb false) _ rfl ?_
                    refine R.one rfl ?_
                    refine W.det (.kb false) _ rfl ?_
                    refine R.nil ?_
                    refine seqK.n ?_
                    refine A.ret ?_
                    refine blockK.r ?_
                    refine seqK.r ?_
                    refine headK.r ?_
                    refine blockK.r ?_
                    refine headK.r ?_
                    injection h with h
                    subst h
                    cases hG
                    exact ⟨rfl, trivial⟩
        · refine A.exit ?_
          refine seqK.e ?_
          refine headK.e ?_
          refine blockK.x ?_
          injection h with h
          subst h
          exact headK.n hG (Enters.of [] [] _ rfl rfl trivial trivial)
      · intro s2 r2 h hG
        refine A.seq rfl ?_
        refine A.region ?_
        refine R.one rfl ?_
        refine W.det (.kb false) _ rfl ?_
        refine R.nil ?_
        refine seqK.n ?_
        refine A.ret ?_
        injection h with h
        subst h
        cases hG
        exact ⟨rfl, trivial⟩
end Go.Proofs.Ytafgcjodefafoaa

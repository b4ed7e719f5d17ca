/-
  Plain programs of functions, and that the functions do what they say. Printed by wip/tools/gen.py.
-/
import Derived.Test.YtafgcjodefafoaaG1
namespace Go.Proofs.Ytafgcjodefafoaa
open Go.RowKit
attribute [local irreducible] IntKind.wrap
set_option linter.unusedVariables false
set_option maxHeartbeats 4000000
set_option maxRecDepth 100000
noncomputable def admit_Room_L1 (y1 : (List admit_demand) × Bool) (p3_ : Int) (s3 : Int × Int × Int) : Option ((Int × Int × Int) ⊕ ((Int × Int) ⊕ (Int))) :=
  (bif (decide (s3.2.2 < ((y1.1.length : Nat) : Int))) then
    (chkO (decide (0 ≤ s3.2.2) && decide (s3.2.2 < ((y1.1.length : Nat) : Int)))).bind fun _ =>
    (getI y1.1 s3.2.2).bind fun x25 =>
    (bif (decide (x25.gives < x25.needs)) then
      some (.inr (.inr (0 : Int)))
    else
      (bif (decide (x25.job.Due ≤ p3_)) then
        some (.inl (s3.1, x25.needs, (IntKind.i64.wrap (s3.2.2 + (1 : Int)))))
      else
        some (.inl ((if (IntKind.i64.wrap (x25.gives - x25.needs)) < s3.1 then (IntKind.i64.wrap (x25.gives - x25.needs)) else s3.1), s3.2.1, (IntKind.i64.wrap (s3.2.2 + (1 : Int)))))))
  else
    some (.inr (.inl (s3.1, s3.2.1))))
noncomputable def admit_Room (p_ : api_Profile) (p1_ : (List api_Job)) (p2_ : Int) (p3_ : Int) : Option (Int) :=
  (admit_demands p_ p1_ p2_).bind fun y1 =>
  (bif (!y1.2) then
    some (0 : Int)
  else
    (bif (decide (p3_ < (0 : Int))) then
      some (0 : Int)
    else
      (bif (decide ((1073741824 : Int) < p3_)) then
        some (0 : Int)
      else
        (bif ((p1_.length : Int) == (1000 : Int)) then
          some (0 : Int)
        else
          (seqF (A := Int × Int) (
            loopF (admit_Room_L1 y1 p3_) ((1099511627776 : Int), (0 : Int), (0 : Int)))
          fun s2 =>
            (admit_gives p_ p2_ p3_).bind fun y26 =>
            some (if (0 : Int) < (if (IntKind.i64.wrap (y26 - s2.2)) < s2.1 then (IntKind.i64.wrap (y26 - s2.2)) else s2.1) then (if (IntKind.i64.wrap (y26 - s2.2)) < s2.1 then (IntKind.i64.wrap (y26 - s2.2)) else s2.1) else (0 : Int)))))))
theorem admit_Room_fn {p_ : api_Profile} {p1_ : (List api_Job)} {p2_ : Int} {p3_ : Int} {r : Int} (h : admit_Room p_ p1_ p2_ p3_ = some r) : Fn Try.prog 16 [.agg [.d (.v (.string p_.Name)), .d (.v (.int .i64 p_.Edit)), .d (.v (.int .i64 p_.Within)), .d (.v (.int .i64 p_.Delete)), .d (.v (.bool p_.React)), .d (.v (.int .i64 p_.Thread)), .d (.v (.bool p_.Quote)), .d (.v (.bool p_.Mention)), .d (.v (.int .i64 p_.Size)), .d (.v (.int .i64 p_.Parts)), .d (.v (.int .i64 p_.Files)), .d (.v (.int .i64 p_.Bytes)), .d (.fz (List.map encS p_.Types)), .d (.v (.int .i64 p_.Join)), .d (.v (.int .i64 p_.History)), .d (.v (.int .i64 p_.Remove)), .d (.v (.int .i64 p_.Level)), .d (.v (.bool p_.Batch)), .d (.v (.int .i64 p_.Rate)), .d (.v (.int .i64 p_.Down)), .d (.v (.int .i64 p_.Window)), .d (.v (.int .i64 p_.Keep))], .d (.fz (List.map api_Job.enc p1_)), .d (.v (.int .i64 p2_)), .d (.v (.int .i64 p3_))] (.d (.v (.int .i64 r))) := by
  refine Fn.of_AW (F := FnX Try.prog) (base := 0) (js := [14]) mixed tok noeqs (fun _ _ _ h => h) Try.call16 Try.func16 rfl Try.ntmps16 (by rw [Try.results16]) (by simp) ?_
  have hG : (fun x => x = r) r := rfl
  unfold admit_Room at h
  refine A.seq rfl ?_
  refine A.region ?_
  refine R.one rfl ?_
  refine W.det (.lp 4 1 0) (Mem.add _ 4 (.box [.d (.v (.string p_.Name)), .d (.v (.int .i64 p_.Edit)), .d (.v (.int .i64 p_.Within)), .d (.v (.int .i64 p_.Delete)), .d (.v (.bool p_.React)), .d (.v (.int .i64 p_.Thread)), .d (.v (.bool p_.Quote)), .d (.v (.bool p_.Mention)), .d (.v (.int .i64 p_.Size)), .d (.v (.int .i64 p_.Parts)), .d (.v (.int .i64 p_.Files)), .d (.v (.int .i64 p_.Bytes)), .d (.fz (List.map encS p_.Types)), .d (.v (.int .i64 p_.Join)), .d (.v (.int .i64 p_.History)), .d (.v (.int .i64 p_.Remove)), .d (.v (.int .i64 p_.Level)), .d (.v (.bool p_.Batch)), .d (.v (.int .i64 p_.Rate)), .d (.v (.int .i64 p_.Down)), .d (.v (.int .i64 p_.Window)), .d (.v (.int .i64 p_.Keep))])) rfl ?_
  refine R.one rfl ?_
  refine W.det (.d (.v (.int .i64 (0 : Int)))) _ rfl ?_
  refine R.nil ?_
  refine seqK.n ?_
  refine A.seq rfl ?_
  refine A.region ?_
  refine R.one rfl ?_
  refine W.det (.agg [.d (.v (.string p_.Name)), .d (.v (.int .i64 p_.Edit)), .d (.v (.int .i64 p_.Within)), .d (.v (.int .i64 p_.Delete)), .d (.v (.bool p_.React)), .d (.v (.int .i64 p_.Thread)), .d (.v (.bool p_.Quote)), .d (.v (.bool p_.Mention)), .d (.v (.int .i64 p_.Size)), .d (.v (.int .i64 p_.Parts)), .d (.v (.int .i64 p_.Files)), .d (.v (.int .i64 p_.Bytes)), .d (.fz (List.map encS p_.Types)), .d (.v (.int .i64 p_.Join)), .d (.v (.int .i64 p_.History)), .d (.v (.int .i64 p_.Remove)), .d (.v (.int .i64 p_.Level)), .d (.v (.bool p_.Batch)), .d (.v (.int .i64 p_.Rate)), .d (.v (.int .i64 p_.Down)), .d (.v (.int .i64 p_.Window)), .d (.v (.int .i64 p_.Keep))]) _ rfl ?_
  refine R.one rfl ?_
  refine W.det (.d (.fz (List.map api_Job.enc p1_))) _ rfl ?_
  refine R.one rfl ?_
  refine W.det (.d (.v (.int .i64 p2_))) _ rfl ?_
  refine R.one rfl ?_
  refine bindK h fun y1 hy1 h => ?_
  refine W.call rfl (admit_demands_fn hy1) ?_
  refine W.v (.tup [.row 1048595 1 (List.map admit_demand.enc y1.1).length, .d (.v (.bool y1.2))]) (.tup [.row 1048595 1 y1.1.length, .d (.v (.bool y1.2))]) (Mem.add _ 1048595 (.rows 5 (List.map admit_demand.enc y1.1) false)) rfl (by simp only [List.length_map]) ?_
  refine R.one rfl ?_
  refine W.det (.tup [.row 1048595 1 y1.1.length, .d (.v (.bool y1.2))]) _ rfl ?_
  refine R.one rfl ?_
  refine W.det (.row 1048595 1 y1.1.length) _ rfl ?_
  refine R.one rfl ?_
  refine W.det (.d (.v (.bool y1.2))) _ rfl ?_
  refine R.one rfl ?_
  refine W.det (.row 1048595 1 y1.1.length) _ rfl ?_
  refine R.one rfl ?_
  refine W.det (.d (.v (.bool y1.2))) _ rfl ?_
  refine R.nil ?_
  refine seqK.n ?_
  refine A.seq rfl ?_
  refine A.seq rfl ?_
  refine A.region ?_
  refine R.one rfl ?_
  refine W.det (.d (.v (.bool y1.2))) _ rfl ?_
  refine R.one rfl ?_
  refine W.det (.d (.v (.bool (!y1.2)))) _ rfl ?_
  refine R.one rfl ?_
  refine W.det (.d (.v (.bool (!y1.2)))) _ rfl ?_
  refine R.gF rfl rfl rfl h (fun _ h => ?_) (fun _ h => ?_)
  · refine R.skip rfl rfl rfl ?_
    refine R.one rfl ?_
    refine W.det (.kb true) _ rfl ?_
    refine R.one rfl ?_
    refine W.det (.kb true) _ rfl ?_
    refine R.skip rfl rfl rfl ?_
    refine R.skip rfl rfl rfl ?_
    refine R.one rfl ?_
    refine W.det (.kb true) _ rfl ?_
    refine R.one rfl ?_
    refine W.det (.kb true) _ rfl ?_
    refine R.skip rfl rfl rfl ?_
    refine R.skip rfl rfl rfl ?_
    refine R.skip rfl rfl rfl ?_
    refine R.one rfl ?_
    refine W.det (.kb true) _ rfl ?_
    refine R.nil ?_
    refine seqK.n ?_
    refine A.condT rfl ?_
    refine A.seq rfl ?_
    refine A.region ?_
    refine R.one rfl ?_
    refine W.det (.d (.v (.int .i64 (0 : Int)))) _ rfl ?_
    refine R.nil ?_
    refine seqK.n ?_
    refine A.ret ?_
    refine seqK.r ?_
    injection h with h
    subst h
    cases hG
    exact ⟨rfl, trivial⟩
  · refine W.det (.d (.v (.int .i64 p3_))) _ rfl ?_
    refine R.run rfl rfl rfl ?_
    refine W.det (.d (.v (.bool (decide (p3_ < (0 : Int)))))) _ rfl ?_
    refine R.one rfl ?_
    refine W.det (.d (.v (.bool (decide (p3_ < (0 : Int)))))) _ rfl ?_
    refine R.one rfl ?_
    refine W.det (.d (.v (.bool (decide (p3_ < (0 : Int)))))) _ rfl ?_
    refine R.gF rfl rfl rfl h (fun _ h => ?_) (fun _ h => ?_)
    · refine R.skip rfl rfl rfl ?_
      refine R.one rfl ?_
      refine W.det (.kb true) _ rfl ?_
      refine R.one rfl ?_
      refine W.det (.kb true) _ rfl ?_
      refine R.skip rfl rfl rfl ?_
      refine R.skip rfl rfl rfl ?_
      refine R.skip rfl rfl rfl ?_
      refine R.one rfl ?_
      refine W.det (.kb true) _ rfl ?_
      refine R.nil ?_
      refine seqK.n ?_
      refine A.condT rfl ?_
      refine A.seq rfl ?_
      refine A.region ?_
      refine R.one rfl ?_
      refine W.det (.d (.v (.int .i64 (0 : Int)))) _ rfl ?_
      refine R.nil ?_
      refine seqK.n ?_
      refine A.ret ?_
      refine seqK.r ?_
      injection h with h
      subst h
      cases hG
      exact ⟨rfl, trivial⟩
    · refine W.det (.d (.v (.int .i64 p3_))) _ rfl ?_
      refine R.run rfl rfl rfl ?_
      refine W.det (.d (.v (.bool (decide ((1073741824 : Int) < p3_))))) _ rfl ?_
      refine R.one rfl ?_
      refine W.det (.d (.v (.bool (decide ((1073741824 : Int) < p3_))))) _ rfl ?_
      refine R.one rfl ?_
      refine W.det (.d (.v (.bool (decide ((1073741824 : Int) < p3_))))) _ rfl ?_
      refine R.gF rfl rfl rfl h (fun _ h => ?_) (fun _ h => ?_)
      · refine R.skip rfl rfl rfl ?_
        refine R.skip rfl rfl rfl ?_
        refine R.one rfl ?_
        refine W.det (.kb true) _ rfl ?_
        refine R.nil ?_
        refine seqK.n ?_
        refine A.condT rfl ?_
        refine A.seq rfl ?_
        refine A.region ?_
        refine R.one rfl ?_
        refine W.det (.d (.v (.int .i64 (0 : Int)))) _ rfl ?_
        refine R.nil ?_
        refine seqK.n ?_
        refine A.ret ?_
        refine seqK.r ?_
        injection h with h
        subst h
        cases hG
        exact ⟨rfl, trivial⟩
      · refine W.det (.d (.fz (List.map api_Job.enc p1_))) _ rfl ?_
        refine R.run rfl rfl rfl ?_
        refine W.len rfl ?_
        refine R.run rfl rfl rfl ?_
        refine W.det (.d (.v (.bool ((p1_.length : Int) == (1000 : Int))))) _ rfl ?_
        refine R.one rfl ?_
        refine W.det (.d (.v (.bool ((p1_.length : Int) == (1000 : Int))))) _ rfl ?_
        refine R.nil ?_
        refine seqK.n ?_
        refine A.condB rfl h (fun _ h => ?_) (fun _ h => ?_)
        · refine A.seq rfl ?_
          refine A.region ?_
          refine R.one rfl ?_
          refine W.det (.d (.v (.int .i64 (0 : Int)))) _ rfl ?_
          refine R.nil ?_
          refine seqK.n ?_
          refine A.ret ?_
          refine seqK.r ?_
          injection h with h
          subst h
          cases hG
          exact ⟨rfl, trivial⟩
        · refine A.skip ?_
          refine seqK.n ?_
          refine A.seq rfl ?_
          refine A.region ?_
          refine R.one rfl ?_
          refine W.det (.d (.v (.int .i64 (1099511627776 : Int)))) _ rfl ?_
          refine R.one rfl ?_
          refine W.det (.d (.v (.int .i64 (0 : Int)))) _ rfl ?_
          refine R.nil ?_
          refine seqK.n ?_
          refine A.join (fun (s2 : Int × Int) => [(2, .d (.v (.int .i64 p2_))), (3, .d (.v (.int .i64 p3_))), (4, .lp 900000 1 0), (11, .d (.v (.int .i64 s2.1))), (12, .d (.v (.int .i64 s2.2)))]) (fun s2 => [(900000, .box [.d (.v (.string p_.Name)), .d (.v (.int .i64 p_.Edit)), .d (.v (.int .i64 p_.Within)), .d (.v (.int .i64 p_.Delete)), .d (.v (.bool p_.React)), .d (.v (.int .i64 p_.Thread)), .d (.v (.bool p_.Quote)), .d (.v (.bool p_.Mention)), .d (.v (.int .i64 p_.Size)), .d (.v (.int .i64 p_.Parts)), .d (.v (.int .i64 p_.Files)), .d (.v (.int .i64 p_.Bytes)), .d (.fz (List.map encS p_.Types)), .d (.v (.int .i64 p_.Join)), .d (.v (.int .i64 p_.History)), .d (.v (.int .i64 p_.Remove)), .d (.v (.int .i64 p_.Level)), .d (.v (.bool p_.Batch)), .d (.v (.int .i64 p_.Rate)), .d (.v (.int .i64 p_.Down)), .d (.v (.int .i64 p_.Window)), .d (.v (.int .i64 p_.Keep))])]) _ h hG rfl ?_ ?_
          · intro J f h hG
            refine A.seq rfl ?_
            refine A.region ?_
            refine R.one rfl ?_
            refine W.det (.row 1048595 1 y1.1.length) _ rfl ?_
            refine R.one rfl ?_
            refine W.det (.d (.v (.int .i64 ((y1.1.length : Nat) : Int)))) _ rfl ?_
            refine R.one rfl ?_
            refine W.det (.d (.v (.int .i64 (0 : Int)))) _ rfl ?_
            refine R.nil ?_
            refine seqK.n ?_
            refine A.block ?_
            refine A.loop (fun (s3 : Int × Int × Int) => [(2, .d (.v (.int .i64 p2_))), (3, .d (.v (.int .i64 p3_))), (4, .lp 900000 1 0), (11, .d (.v (.int .i64 s3.1))), (12, .d (.v (.int .i64 s3.2.1))), (37, .row 900001 1 y1.1.length), (38, .d (.v (.int .i64 ((y1.1.length : Nat) : Int)))), (39, .d (.v (.int .i64 s3.2.2)))]) (fun s3 => [(900000, .box [.d (.v (.string p_.Name)), .d (.v (.int .i64 p_.Edit)), .d (.v (.int .i64 p_.Within)), .d (.v (.int .i64 p_.Delete)), .d (.v (.bool p_.React)), .d (.v (.int .i64 p_.Thread)), .d (.v (.bool p_.Quote)), .d (.v (.bool p_.Mention)), .d (.v (.int .i64 p_.Size)), .d (.v (.int .i64 p_.Parts)), .d (.v (.int .i64 p_.Files)), .d (.v (.int .i64 p_.Bytes)), .d (.fz (List.map encS p_.Types)), .d (.v (.int .i64 p_.Join)), .d (.v (.int .i64 p_.History)), .d (.v (.int .i64 p_.Remove)), .d (.v (.int .i64 p_.Level)), .d (.v (.bool p_.Batch)), .d (.v (.int .i64 p_.Rate)), .d (.v (.int .i64 p_.Down)), .d (.v (.int .i64 p_.Window)), .d (.v (.int .i64 p_.Keep))]), (900001, .rows 5 (List.map admit_demand.enc y1.1) false)]) _ h hG (Enters.of [] [(900000, (4, 1)), (900001, (1048595, 1))] _ rfl rfl (chkE.c rfl rfl (chkE.c rfl rfl (chkE.c rfl rfl (chkE.c rfl rfl (chkE.c rfl rfl (chkE.c rfl rfl (chkE.c rfl rfl (chkE.c rfl rfl trivial)))))))) (chkM.c rfl rfl (chkM.c rfl rfl trivial))) ?_
            intro J s3 f h hG
            unfold admit_Room_L1 at h
            refine A.seq rfl ?_
            refine A.region ?_
            refine R.one rfl ?_
            refine W.det (.d (.v (.bool (decide (s3.2.2 < ((y1.1.length : Nat) : Int)))))) _ rfl ?_
            refine R.nil ?_
            refine seqK.n ?_
            refine A.seq rfl ?_
            refine A.condB rfl h (fun _ h => ?_) (fun _ h => ?_)
            · refine A.skip ?_
              refine seqK.n ?_
              refine A.seq rfl ?_
              refine A.block ?_
              refine A.seq rfl ?_
              refine A.region ?_
              refine R.one rfl ?_
              refine chkK h fun g24 h => ?_
              refine W.chk rfl (by simpa using g24) ?_
              refine W.det (.rp 900001 1 s3.2.2.toNat 0) _ rfl ?_
              refine R.one rfl ?_
              refine bindK h fun x25 hx25 h => ?_
              refine W.elem rfl (elemG hx25) ?_
              refine W.det (.agg [.d (.v (.int .i64 x25.job.Id)), .d (.v (.int .i64 x25.job.Size)), .d (.v (.int .i64 x25.job.Due)), .d (.v (.int .i64 x25.needs)), .d (.v (.int .i64 x25.gives))]) _ rfl ?_
              refine R.one rfl ?_
              refine W.det (.lp 14 2 0) (Mem.add _ 14 (.box [.d (.v (.int .i64 (0 : Int))), .d (.v (.int .i64 (0 : Int))), .d (.v (.int .i64 (0 : Int))), .d (.v (.int .i64 (0 : Int))), .d (.v (.int .i64 (0 : Int)))])) rfl ?_
              refine R.one rfl ?_
              refine W.det (.tup []) (Mem.set _ 14 2 (some (.box [.d (.v (.int .i64 x25.job.Id)), .d (.v (.int .i64 x25.job.Size)), .d (.v (.int .i64 x25.job.Due)), .d (.v (.int .i64 x25.needs)), .d (.v (.int .i64 x25.gives))]))) rfl ?_
              refine R.nil ?_
              refine seqK.n ?_
              refine A.seq rfl ?_
              refine A.seq rfl ?_
              refine A.region ?_
              refine R.one rfl ?_
              refine W.det (.lp 14 2 3) _ rfl ?_
              refine R.one rfl ?_
              refine W.det (.d (.v (.int .i64 x25.needs))) _ rfl ?_
              refine R.one rfl ?_
              refine W.det (.lp 14 2 4) _ rfl ?_
              refine R.one rfl ?_
              refine W.det (.d (.v (.int .i64 x25.gives))) _ rfl ?_
              refine R.one rfl ?_
              refine W.det (.d (.v (.bool (decide (x25.gives < x25.needs))))) _ rfl ?_
              refine R.nil ?_
              refine seqK.n ?_
              refine A.condB rfl h (fun _ h => ?_) (fun _ h => ?_)
              · refine A.seq rfl ?_
                refine A.region ?_
                refine R.one rfl ?_
                refine W.det (.d (.v (.int .i64 (0 : Int)))) _ rfl ?_
                refine R.nil ?_
                refine seqK.n ?_
                refine A.ret ?_
                refine seqK.r ?_
                refine blockK.r ?_
                refine seqK.r ?_
                refine headK.r ?_
                refine blockK.r ?_
                refine headK.r ?_
                injection h with h
                subst h
                cases hG
                exact ⟨rfl, trivial⟩
              · refine A.skip ?_
                refine seqK.n ?_
                refine A.seq rfl ?_
                refine A.region ?_
                refine R.one rfl ?_
                refine W.det (.lp 14 2 0) _ rfl ?_
                refine R.one rfl ?_
                refine W.det (.lp 14 2 2) _ rfl ?_
                refine R.one rfl ?_
                refine W.det (.d (.v (.int .i64 x25.job.Due))) _ rfl ?_
                refine R.one rfl ?_
                refine W.det (.d (.v (.int .i64 p3_))) _ rfl ?_
                refine R.one rfl ?_
                refine W.det (.d (.v (.bool (decide (x25.job.Due ≤ p3_))))) _ rfl ?_
                refine R.nil ?_
                refine seqK.n ?_
                refine A.condB rfl h (fun _ h => ?_) (fun _ h => ?_)
                · refine A.region ?_
                  refine R.one rfl ?_
                  refine W.det (.lp 14 2 3) _ rfl ?_
                  refine R.one rfl ?_
                  refine W.det (.d (.v (.int .i64 x25.needs))) _ rfl ?_
                  refine R.one rfl ?_
                  refine W.det (.d (.v (.int .i64 x25.needs))) _ rfl ?_
                  refine R.nil ?_
                  refine blockK.n ?_
                  refine seqK.n ?_
                  refine A.region ?_
                  refine R.one rfl ?_
                  refine W.det (.d (.v (.int .i64 (IntKind.i64.wrap (s3.2.2 + (1 : Int)))))) _ rfl ?_
                  refine R.one rfl ?_
                  refine W.det (.d (.v (.int .i64 (IntKind.i64.wrap (s3.2.2 + (1 : Int)))))) _ rfl ?_
                  refine R.nil ?_
                  injection h with h
                  subst h
                  exact headK.n hG (Enters.of [] [(900000, (900000, 1)), (900001, (900001, 1))] _ rfl rfl (chkE.c rfl rfl (chkE.c rfl rfl (chkE.c rfl rfl (chkE.c rfl rfl (chkE.c rfl rfl (chkE.c rfl rfl (chkE.c rfl rfl (chkE.c rfl rfl trivial)))))))) (chkM.c rfl rfl (chkM.c rfl rfl trivial)))
                · refine A.region ?_
                  refine R.one rfl ?_
                  refine W.det (.d (.v (.int .i64 s3.1))) _ rfl ?_
                  refine R.one rfl ?_
                  refine W.det (.lp 14 2 4) _ rfl ?_
                  refine R.one rfl ?_
                  refine W.det (.d (.v (.int .i64 x25.gives))) _ rfl ?_
                  refine R.one rfl ?_
                  refine W.det (.lp 14 2 3) _ rfl ?_
                  refine R.one rfl ?_
                  refine W.det (.d (.v (.int .i64 x25.needs))) _ rfl ?_
                  refine R.one rfl ?_
                  refine W.det (.d (.v (.int .i64 (IntKind.i64.wrap (x25.gives - x25.needs))))) _ rfl ?_
                  refine R.one rfl ?_
                  refine W.det (.d (.v (.int .i64 (if (IntKind.i64.wrap (x25.gives - x25.needs)) < s3.1 then (IntKind.i64.wrap (x25.gives - x25.needs)) else s3.1)))) _ rfl ?_
                  refine R.one rfl ?_
                  refine W.det (.d (.v (.int .i64 (if (IntKind.i64.wrap (x25.gives - x25.needs)) < s3.1 then (IntKind.i64.wrap (x25.gives - x25.needs)) else s3.1)))) _ rfl ?_
                  refine R.nil ?_
                  refine blockK.n ?_
                  refine seqK.n ?_
                  refine A.region ?_
                  refine R.one rfl ?_
                  refine W.det (.d (.v (.int .i64 (IntKind.i64.wrap (s3.2.2 + (1 : Int)))))) _ rfl ?_
                  refine R.one rfl ?_
                  refine W.det (.d (.v (.int .i64 (IntKind.i64.wrap (s3.2.2 + (1 : Int)))))) _ rfl ?_
                  refine R.nil ?_
                  injection h with h
                  subst h
                  exact headK.n hG (Enters.of [] [(900000, (900000, 1)), (900001, (900001, 1))] _ rfl rfl (chkE.c rfl rfl (chkE.c rfl rfl (chkE.c rfl rfl (chkE.c rfl rfl (chkE.c rfl rfl (chkE.c rfl rfl (chkE.c rfl rfl (chkE.c rfl rfl trivial)))))))) (chkM.c rfl rfl (chkM.c rfl rfl trivial)))
            · refine A.exit ?_
              refine seqK.e ?_
              refine headK.e ?_
              refine blockK.x ?_
              injection h with h
              subst h
              exact headK.n hG (Enters.of [] [(900000, (900000, 1))] _ rfl rfl (chkE.c rfl rfl (chkE.c rfl rfl (chkE.c rfl rfl (chkE.c rfl rfl (chkE.c rfl rfl trivial))))) (chkM.c rfl rfl trivial))
          · intro s2 r2 h hG
            refine A.seq rfl ?_
            refine A.region ?_
            refine R.one rfl ?_
            refine W.det (.d (.v (.int .i64 s2.1))) _ rfl ?_
            refine R.one rfl ?_
            refine W.det (.agg [.d (.v (.string p_.Name)), .d (.v (.int .i64 p_.Edit)), .d (.v (.int .i64 p_.Within)), .d (.v (.int .i64 p_.Delete)), .d (.v (.bool p_.React)), .d (.v (.int .i64 p_.Thread)), .d (.v (.bool p_.Quote)), .d (.v (.bool p_.Mention)), .d (.v (.int .i64 p_.Size)), .d (.v (.int .i64 p_.Parts)), .d (.v (.int .i64 p_.Files)), .d (.v (.int .i64 p_.Bytes)), .d (.fz (List.map encS p_.Types)), .d (.v (.int .i64 p_.Join)), .d (.v (.int .i64 p_.History)), .d (.v (.int .i64 p_.Remove)), .d (.v (.int .i64 p_.Level)), .d (.v (.bool p_.Batch)), .d (.v (.int .i64 p_.Rate)), .d (.v (.int .i64 p_.Down)), .d (.v (.int .i64 p_.Window)), .d (.v (.int .i64 p_.Keep))]) _ rfl ?_
            refine R.one rfl ?_
            refine W.det (.d (.v (.int .i64 p2_))) _ rfl ?_
            refine R.one rfl ?_
            refine W.det (.d (.v (.int .i64 p3_))) _ rfl ?_
            refine R.one rfl ?_
            refine bindK h fun y26 hy26 h => ?_
            refine W.call rfl (admit_gives_fn hy26) ?_
            refine W.det (.d (.v (.int .i64 y26))) _ rfl ?_
            refine R.one rfl ?_
            refine W.det (.d (.v (.int .i64 s2.2))) _ rfl ?_
            refine R.one rfl ?_
            refine W.det (.d (.v (.int .i64 (IntKind.i64.wrap (y26 - s2.2))))) _ rfl ?_
            refine R.one rfl ?_
            refine W.det (.d (.v (.int .i64 (if (IntKind.i64.wrap (y26 - s2.2)) < s2.1 then (IntKind.i64.wrap (y26 - s2.2)) else s2.1)))) _ rfl ?_
            refine R.one rfl ?_
            refine W.det (.d (.v (.int .i64 (if (0 : Int) < (if (IntKind.i64.wrap (y26 - s2.2)) < s2.1 then (IntKind.i64.wrap (y26 - s2.2)) else s2.1) then (if (IntKind.i64.wrap (y26 - s2.2)) < s2.1 then (IntKind.i64.wrap (y26 - s2.2)) else s2.1) else (0 : Int))))) _ rfl ?_
            refine R.one rfl ?_
            refine W.det (.d (.v (.int .i64 (if (0 : Int) < (if (IntKind.i64.wrap (y26 - s2.2)) < s2.1 then (IntKind.i64.wrap (y26 - s2.2)) else s2.1) then (if (IntKind.i64.wrap (y26 - s2.2)) < s2.1 then (IntKind.i64.wrap (y26 - s2.2)) else s2.1) else (0 : Int))))) _ rfl ?_
            refine R.nil ?_
            refine seqK.n ?_
            refine A.ret ?_
            injection h with h
            subst h
            cases hG
            exact ⟨rfl, trivial⟩
noncomputable def admit_Check_L1 (y1 : (List admit_demand) × Bool) (slack_ : (List Int)) (s3 : Int) : Option ((Int) ⊕ ((Unit) ⊕ (Int))) :=
  (bif (decide (s3 < ((y1.1.length : Nat) : Int))) then
    (chkO (decide (0 ≤ s3) && decide (s3 < ((y1.1.length : Nat) : Int)))).bind fun _ =>
    (getI y1.1 s3).bind fun x47 =>
    (getI slack_ s3).bind fun x49 =>
    (bif (decide (x49 < (0 : Int))) then
      some (.inr (.inr (18 : Int)))
    else
      (bif (decide ((IntKind.i64.wrap (x47.gives - x47.needs)) < x49)) then
        some (.inr (.inr (18 : Int)))
      else
        some (.inl (IntKind.i64.wrap (s3 + (1 : Int))))))
  else
    some (.inr (.inl ())))
noncomputable def admit_Check (p_ : api_Profile) (jobs_ : (List api_Job)) (now_ : Int) (slack_ : (List Int)) : Option (Int) :=
  (admit_demands p_ jobs_ now_).bind fun y1 =>
  (bif (!y1.2) then
    some (1 : Int)
  else
    (bif ((slack_.length : Int) != ((y1.1.length : Nat) : Int)) then
      some (18 : Int)
    else
      (seqF (A := Unit) (
        loopF (admit_Check_L1 y1 slack_) (0 : Int))
      fun s2 =>
        some (0 : Int))))
theorem admit_Check_fn {p_ : api_Profile} {jobs_ : (List api_Job)} {now_ : Int} {slack_ : (List Int)} {r : Int} (h : admit_Check p_ jobs_ now_ slack_ = some r) : Fn Try.prog 14 [.agg [.d (.v (.string p_.Name)), .d (.v (.int .i64 p_.Edit)), .d (.v (.int .i64 p_.Within)), .d (.v (.int .i64 p_.Delete)), .d (.v (.bool p_.React)), .d (.v (.int .i64 p_.Thread)), .d (.v (.bool p_.Quote)), .d (.v (.bool p_.Mention)), .d (.v (.int .i64 p_.Size)), .d (.v (.int .i64 p_.Parts)), .d (.v (.int .i64 p_.Files)), .d (.v (.int .i64 p_.Bytes)), .d (.fz (List.map encS p_.Types)), .d (.v (.int .i64 p_.Join)), .d (.v (.int .i64 p_.History)), .d (.v (.int .i64 p_.Remove)), .d (.v (.int .i64 p_.Level)), .d (.v (.bool p_.Batch)), .d (.v (.int .i64 p_.Rate)), .d (.v (.int .i64 p_.Down)), .d (.v (.int .i64 p_.Window)), .d (.v (.int .i64 p_.Keep))], .d (.fz (List.map api_Job.enc jobs_)), .d (.v (.int .i64 now_)), .d (.fz (List.map (encI .i64) slack_))] (.d (.v (.int .i64 r))) := by
  refine Fn.of_AW (F := FnX Try.prog) (base := 0) (js := [12]) mixed tok noeqs (fun _ _ _ h => h) Try.call14 Try.func14 rfl Try.ntmps14 (by rw [Try.results14]) (by simp) ?_
  have hG : (fun x => x = r) r := rfl
  unfold admit_Check at h
  refine A.seq rfl ?_
  refine A.region ?_
  refine R.one rfl ?_
  refine W.det (.lp 4 1 0) (Mem.add _ 4 (.box [.d (.v (.string p_.Name)), .d (.v (.int .i64 p_.Edit)), .d (.v (.int .i64 p_.Within)), .d (.v (.int .i64 p_.Delete)), .d (.v (.bool p_.React)), .d (.v (.int .i64 p_.Thread)), .d (.v (.bool p_.Quote)), .d (.v (.bool p_.Mention)), .d (.v (.int .i64 p_.Size)), .d (.v (.int .i64 p_.Parts)), .d (.v (.int .i64 p_.Files)), .d (.v (.int .i64 p_.Bytes)), .d (.fz (List.map encS p_.Types)), .d (.v (.int .i64 p_.Join)), .d (.v (.int .i64 p_.History)), .d (.v (.int .i64 p_.Remove)), .d (.v (.int .i64 p_.Level)), .d (.v (.bool p_.Batch)), .d (.v (.int .i64 p_.Rate)), .d (.v (.int .i64 p_.Down)), .d (.v (.int .i64 p_.Window)), .d (.v (.int .i64 p_.Keep))])) rfl ?_
  refine R.one rfl ?_
  refine W.det (.d (.v (.int .i64 (0 : Int)))) _ rfl ?_
  refine R.nil ?_
  refine seqK.n ?_
  refine A.seq rfl ?_
  refine A.region ?_
  refine R.one rfl ?_
  refine W.det (.agg [.d (.v (.string p_.Name)), .d (.v (.int .i64 p_.Edit)), .d (.v (.int .i64 p_.Within)), .d (.v (.int .i64 p_.Delete)), .d (.v (.bool p_.React)), .d (.v (.int .i64 p_.Thread)), .d (.v (.bool p_.Quote)), .d (.v (.bool p_.Mention)), .d (.v (.int .i64 p_.Size)), .d (.v (.int .i64 p_.Parts)), .d (.v (.int .i64 p_.Files)), .d (.v (.int .i64 p_.Bytes)), .d (.fz (List.map encS p_.Types)), .d (.v (.int .i64 p_.Join)), .d (.v (.int .i64 p_.History)), .d (.v (.int .i64 p_.Remove)), .d (.v (.int .i64 p_.Level)), .d (.v (.bool p_.Batch)), .d (.v (.int .i64 p_.Rate)), .d (.v (.int .i64 p_.Down)), .d (.v (.int .i64 p_.Window)), .d (.v (.int .i64 p_.Keep))]) _ rfl ?_
  refine R.one rfl ?_
  refine W.det (.d (.fz (List.map api_Job.enc jobs_))) _ rfl ?_
  refine R.one rfl ?_
  refine W.det (.d (.v (.int .i64 now_))) _ rfl ?_
  refine R.one rfl ?_
  refine bindK h fun y1 hy1 h => ?_
  refine W.call rfl (admit_demands_fn hy1) ?_
  refine W.v (.tup [.row 1048593 1 (List.map admit_demand.enc y1.1).length, .d (.v (.bool y1.2))]) (.tup [.row 1048593 1 y1.1.length, .d (.v (.bool y1.2))]) (Mem.add _ 1048593 (.rows 5 (List.map admit_demand.enc y1.1) false)) rfl (by simp only [List.length_map]) ?_
  refine R.one rfl ?_
  refine W.det (.tup [.row 1048593 1 y1.1.length, .d (.v (.bool y1.2))]) _ rfl ?_
  refine R.one rfl ?_
  refine W.det (.row 1048593 1 y1.1.length) _ rfl ?_
  refine R.one rfl ?_
  refine W.det (.d (.v (.bool y1.2))) _ rfl ?_
  refine R.one rfl ?_
  refine W.det (.row 1048593 1 y1.1.length) _ rfl ?_
  refine R.one rfl ?_
  refine W.det (.d (.v (.bool y1.2))) _ rfl ?_
  refine R.nil ?_
  refine seqK.n ?_
  refine A.seq rfl ?_
  refine A.block ?_
  refine A.seq rfl ?_
  refine A.region ?_
  refine R.one rfl ?_
  refine W.det (.d (.v (.bool y1.2))) _ rfl ?_
  refine R.one rfl ?_
  refine W.det (.d (.v (.bool (!y1.2)))) _ rfl ?_
  refine R.one rfl ?_
  refine W.det (.d (.v (.bool (!y1.2)))) _ rfl ?_
  refine R.nil ?_
  refine seqK.n ?_
  refine A.condB rfl h (fun _ h => ?_) (fun _ h => ?_)
  · refine A.seq rfl ?_
    refine A.region ?_
    refine R.one rfl ?_
    refine W.det (.d (.v (.int .i64 (1 : Int)))) _ rfl ?_
    refine R.nil ?_
    refine seqK.n ?_
    refine A.ret ?_
    refine blockK.r ?_
    refine seqK.r ?_
    injection h with h
    subst h
    cases hG
    exact ⟨rfl, trivial⟩
  · refine A.seq rfl ?_
    refine A.region ?_
    refine R.one rfl ?_
    refine W.det (.d (.fz (List.map (encI .i64) slack_))) _ rfl ?_
    refine R.one rfl ?_
    refine W.len rfl ?_
    refine R.one rfl ?_
    refine W.det (.row 1048593 1 y1.1.length) _ rfl ?_
    refine R.one rfl ?_
    refine W.det (.d (.v (.int .i64 ((y1.1.length : Nat) : Int)))) _ rfl ?_
    refine R.one rfl ?_
    refine W.det (.d (.v (.bool ((slack_.length : Int) != ((y1.1.length : Nat) : Int))))) _ rfl ?_
    refine R.one rfl ?_
    refine W.det (.d (.v (.bool ((slack_.length : Int) != ((y1.1.length : Nat) : Int))))) _ rfl ?_
    refine R.nil ?_
    refine seqK.n ?_
    refine A.condB rfl h (fun _ h => ?_) (fun _ h => ?_)
    · refine A.seq rfl ?_
      refine A.region ?_
      refine R.one rfl ?_
      refine W.det (.d (.v (.int .i64 (18 : Int)))) _ rfl ?_
      refine R.nil ?_
      refine seqK.n ?_
      refine A.ret ?_
      refine blockK.r ?_
      refine seqK.r ?_
      injection h with h
      subst h
      cases hG
      exact ⟨rfl, trivial⟩
    · refine A.skip ?_
      refine blockK.n ?_
      refine seqK.n ?_
      refine A.join (fun (s2 : Unit) => []) (fun s2 => []) _ h hG rfl ?_ ?_
      · intro J f h hG
        refine A.seq rfl ?_
        refine A.region ?_
        refine R.one rfl ?_
        refine W.det (.row 1048593 1 y1.1.length) _ rfl ?_
        refine R.one rfl ?_
        refine W.det (.d (.v (.int .i64 ((y1.1.length : Nat) : Int)))) _ rfl ?_
        refine R.one rfl ?_
        refine W.det (.d (.v (.int .i64 (0 : Int)))) _ rfl ?_
        refine R.nil ?_
        refine seqK.n ?_
        refine A.block ?_
        refine A.loop (fun (s3 : Int) => [(3, .d (.fz (List.map (encI .i64) slack_))), (29, .row 900000 1 y1.1.length), (30, .d (.v (.int .i64 ((y1.1.length : Nat) : Int)))), (31, .d (.v (.int .i64 s3)))]) (fun s3 => [(900000, .rows 5 (List.map admit_demand.enc y1.1) false)]) _ h hG (Enters.of [] [(900000, (1048593, 1))] _ rfl rfl (chkE.c rfl rfl (chkE.c rfl rfl (chkE.c rfl rfl (chkE.c rfl rfl trivial)))) (chkM.c rfl rfl trivial)) ?_
        intro J s3 f h hG
        unfold admit_Check_L1 at h
        refine A.seq rfl ?_
        refine A.region ?_
        refine R.one rfl ?_
        refine W.det (.d (.v (.bool (decide (s3 < ((y1.1.length : Nat) : Int)))))) _ rfl ?_
        refine R.nil ?_
        refine seqK.n ?_
        refine A.seq rfl ?_
        refine A.condB rfl h (fun _ h => ?_) (fun _ h => ?_)
        · refine A.skip ?_
          refine seqK.n ?_
          refine A.seq rfl ?_
          refine A.block ?_
          refine A.seq rfl ?_
          refine A.region ?_
          refine R.one rfl ?_
          refine W.det (.d (.v (.int .i64 s3))) _ rfl ?_
          refine R.one rfl ?_
          refine chkK h fun g46 h => ?_
          refine W.chk rfl (by simpa using g46) ?_
          refine W.det (.rp 900000 1 s3.toNat 0) _ rfl ?_
          refine R.one rfl ?_
          refine bindK h fun x47 hx47 h => ?_
          refine W.elem rfl (elemG hx47) ?_
          refine W.det (.agg [.d (.v (.int .i64 x47.job.Id)), .d (.v (.int .i64 x47.job.Size)), .d (.v (.int .i64 x47.job.Due)), .d (.v (.int .i64 x47.needs)), .d (.v (.int .i64 x47.gives))]) _ rfl ?_
          refine R.one rfl ?_
          refine W.det (.lp 12 2 0) (Mem.add _ 12 (.box [.d (.v (.int .i64 (0 : Int))), .d (.v (.int .i64 (0 : Int))), .d (.v (.int .i64 (0 : Int))), .d (.v (.int .i64 (0 : Int))), .d (.v (.int .i64 (0 : Int)))])) rfl ?_
          refine R.one rfl ?_
          refine W.det (.d (.v (.int .i64 s3))) _ rfl ?_
          refine R.one rfl ?_
          refine W.det (.tup []) (Mem.set _ 12 2 (some (.box [.d (.v (.int .i64 x47.job.Id)), .d (.v (.int .i64 x47.job.Size)), .d (.v (.int .i64 x47.job.Due)), .d (.v (.int .i64 x47.needs)), .d (.v (.int .i64 x47.gives))]))) rfl ?_
          refine R.nil ?_
          refine seqK.n ?_
          refine A.seq rfl ?_
          refine A.regionD (by kernel_rfl) ?_
          refine R.one rfl ?_
          refine W.det (.d (.fz (List.map (encI .i64) slack_))) _ rfl ?_
          refine R.one rfl ?_
          refine W.det (.d (.v (.int .i64 s3))) _ rfl ?_
          refine R.one rfl ?_
          refine bindK h fun x49 hx49 h => ?_
          refine W.chk rfl (elemB hx49) ?_
          refine W.elem rfl (elemG hx49) ?_
          refine W.chk rfl rfl ?_
          refine W.det (.fp [.v (.int .i64 x49)]) _ rfl ?_
          refine R.one rfl ?_
          refine W.det (.d (.v (.int .i64 x49))) _ rfl ?_
          refine R.one rfl ?_
          refine W.det (.d (.v (.bool (decide (x49 < (0 : Int)))))) _ rfl ?_
          refine R.one rfl ?_
          refine W.det (.d (.v (.bool (decide (x49 < (0 : Int)))))) _ rfl ?_
          refine R.gF rfl rfl rfl h (fun _ h => ?_) (fun _ h => ?_)
          · refine R.skip rfl rfl rfl ?_
            refine R.skip rfl rfl rfl ?_
            refine R.skip rfl rfl rfl ?_
            refine R.skip rfl rfl rfl ?_
            refine R.skip rfl rfl rfl ?_
            refine R.skip rfl rfl rfl ?_
            refine R.skip rfl rfl rfl ?_
            refine R.skip rfl rfl rfl ?_
            refine R.skip rfl rfl rfl ?_
            refine R.one rfl ?_
            refine W.det (.kb true) _ rfl ?_
            refine R.nil ?_
            refine seqK.n ?_
            refine A.condT rfl ?_
            refine A.seq rfl ?_
            refine A.region ?_
            refine R.one rfl ?_
            refine W.det (.d (.v (.int .i64 (18 : Int)))) _ rfl ?_
            refine R.nil ?_
            refine seqK.n ?_
            refine A.ret ?_
            refine blockK.r ?_
            refine seqK.r ?_
            refine headK.r ?_
            refine blockK.r ?_
            refine headK.r ?_
            injection h with h
            subst h
            cases hG
            exact ⟨rfl, trivial⟩
          · refine W.det (.d (.fz (List.map (encI .i64) slack_))) _ rfl ?_
            refine R.run rfl rfl rfl ?_
            refine W.det (.d (.v (.int .i64 s3))) _ rfl ?_
            refine R.run rfl rfl rfl ?_
            refine W.chk rfl (elemB hx49) ?_
            refine W.elem rfl (elemG hx49) ?_
            refine W.chk rfl rfl ?_
            refine W.det (.fp [.v (.int .i64 x49)]) _ rfl ?_
            refine R.run rfl rfl rfl ?_
            refine W.det (.d (.v (.int .i64 x49))) _ rfl ?_
            refine R.run rfl rfl rfl ?_
            refine W.det (.lp 12 2 4) _ rfl ?_
            refine R.run rfl rfl rfl ?_
            refine W.det (.d (.v (.int .i64 x47.gives))) _ rfl ?_
            refine R.run rfl rfl rfl ?_
            refine W.det (.lp 12 2 3) _ rfl ?_
            refine R.run rfl rfl rfl ?_
            refine W.det (.d (.v (.int .i64 x47.needs))) _ rfl ?_
            refine R.run rfl rfl rfl ?_
            refine W.det (.d (.v (.int .i64 (IntKind.i64.wrap (x47.gives - x47.needs))))) _ rfl ?_
            refine R.run rfl rfl rfl ?_
            refine W.det (.d (.v (.bool (decide ((IntKind.i64.wrap (x47.gives - x47.needs)) < x49))))) _ rfl ?_
            refine R.one rfl ?_
            refine W.det (.d (.v (.bool (decide ((IntKind.i64.wrap (x47.gives - x47.needs)) < x49))))) _ rfl ?_
            refine R.nil ?_
            refine seqK.n ?_
            refine A.condB rfl h (fun _ h => ?_) (fun _ h => ?_)
            · refine A.seq rfl ?_
              refine A.region ?_
              refine R.one rfl ?_
              refine W.det (.d (.v (.int .i64 (18 : Int)))) _ rfl ?_
              refine R.nil ?_
              refine seqK.n ?_
              refine A.ret ?_
              refine blockK.r ?_
              refine seqK.r ?_
              refine headK.r ?_
              refine blockK.r ?_
              refine headK.r ?_
              injection h with h
              subst h
              cases hG
              exact ⟨rfl, trivial⟩
            · refine A.skip ?_
              refine blockK.n ?_
              refine seqK.n ?_
              refine A.region ?_
              refine R.one rfl ?_
              refine W.det (.d (.v (.int .i64 (IntKind.i64.wrap (s3 + (1 : Int)))))) _ rfl ?_
              refine R.one rfl ?_
              refine W.det (.d (.v (.int .i64 (IntKind.i64.wrap (s3 + (1 : Int)))))) _ rfl ?_
              refine R.nil ?_
              injection h with h
              subst h
              exact headK.n hG (Enters.of [] [(900000, (900000, 1))] _ rfl rfl (chkE.c rfl rfl (chkE.c rfl rfl (chkE.c rfl rfl (chkE.c rfl rfl trivial)))) (chkM.c rfl rfl trivial))
        · refine A.exit ?_
          refine seqK.e ?_
          refine headK.e ?_
          refine blockK.x ?_
          injection h with h
          subst h
          exact headK.n hG (Enters.of [] [] _ rfl rfl trivial trivial)
      · intro s2 r2 h hG
        refine A.seq rfl ?_
        refine A.region ?_
        refine R.one rfl ?_
        refine W.det (.d (.v (.int .i64 (0 : Int)))) _ rfl ?_
        refine R.nil ?_
        refine seqK.n ?_
        refine A.ret ?_
        injection h with h
        subst h
        cases hG
        exact ⟨rfl, trivial⟩
noncomputable def law29_small : Option (Bool) :=
  (law29_link).bind fun y1 =>
  (admit_Plan y1 [(api_Job.mk (1 : Int) (10 : Int) (2 : Int)), (api_Job.mk (2 : Int) (15 : Int) (4 : Int))] (0 : Int)).bind fun y2 =>
  (law29_link).bind fun y3 =>
  (admit_Plan y3 [(api_Job.mk (1 : Int) (10 : Int) (1 : Int))] (0 : Int)).bind fun y4 =>
  (law29_link).bind fun y5 =>
  (admit_Plan y5 [(api_Job.mk (2 : Int) (10 : Int) (4 : Int)), (api_Job.mk (1 : Int) (10 : Int) (2 : Int))] (0 : Int)).bind fun y6 =>
  (ref29_Same y2.1 [(0 : Int), (5 : Int)]).bind fun y7 =>
  (bif y7 then
    (bif (y2.2.2 == (0 : Int)) then
      (bif (y4.2.1 == (1 : Int)) then
        (bif (y4.2.2 == (16 : Int)) then
          (ref29_Same y6.1 [(0 : Int), (10 : Int)]).bind fun y8 =>
          (bif y8 then
            (bif (y6.2.2 == (0 : Int)) then
              (law29_link).bind fun y9 =>
              (admit_Room y9 [(api_Job.mk (2 : Int) (10 : Int) (4 : Int)), (api_Job.mk (1 : Int) (10 : Int) (2 : Int))] (0 : Int) (4 : Int)).bind fun y10 =>
              (bif (y10 == (10 : Int)) then
                (law29_link).bind fun y11 =>
                (admit_Check y11 [(api_Job.mk (2 : Int) (10 : Int) (4 : Int)), (api_Job.mk (1 : Int) (10 : Int) (2 : Int))] (0 : Int) [(0 : Int), (11 : Int)]).bind fun y12 =>
                some (y12 == (18 : Int))
              else
                some false)
            else
              some false)
          else
            some false)
        else
          some false)
      else
        some false)
    else
      some false)
  else
    some false)
theorem law29_small_fn {r : Bool} (h : law29_small = some r) : Fn Try.prog 9 [] (.d (.v (.bool r))) := by
  refine Fn.of_AW (F := FnX Try.prog) (base := 0) (js := []) mixed tok noeqs (fun _ _ _ h => h) Try.call9 Try.func9 rfl Try.ntmps9 (by rw [Try.results9]) (by simp) ?_
  have hG : (fun x => x = r) r := rfl
  unfold law29_small at h
  refine A.seq rfl ?_
  refine A.region ?_
  refine R.one rfl ?_
  refine W.det (.kb false) _ rfl ?_
  refine R.nil ?_
  refine seqK.n ?_
  refine A.seq rfl ?_
  refine A.region ?_
  refine R.one rfl ?_
  refine bindK h fun y1 hy1 h => ?_
  refine W.call rfl (law29_link_fn hy1) ?_
  refine W.v (.agg [.d (.v (.string y1.Name)), .d (.v (.int .i64 y1.Edit)), .d (.v (.int .i64 y1.Within)), .d (.v (.int .i64 y1.Delete)), .d (.v (.bool y1.React)), .d (.v (.int .i64 y1.Thread)), .d (.v (.bool y1.Quote)), .d (.v (.bool y1.Mention)), .d (.v (.int .i64 y1.Size)), .d (.v (.int .i64 y1.Parts)), .d (.v (.int .i64 y1.Files)), .d (.v (.int .i64 y1.Bytes)), .row 851980 1 (List.map encS y1.Types).length, .d (.v (.int .i64 y1.Join)), .d (.v (.int .i64 y1.History)), .d (.v (.int .i64 y1.Remove)), .d (.v (.int .i64 y1.Level)), .d (.v (.bool y1.Batch)), .d (.v (.int .i64 y1.Rate)), .d (.v (.int .i64 y1.Down)), .d (.v (.int .i64 y1.Window)), .d (.v (.int .i64 y1.Keep))]) (.agg [.d (.v (.string y1.Name)), .d (.v (.int .i64 y1.Edit)), .d (.v (.int .i64 y1.Within)), .d (.v (.int .i64 y1.Delete)), .d (.v (.bool y1.React)), .d (.v (.int .i64 y1.Thread)), .d (.v (.bool y1.Quote)), .d (.v (.bool y1.Mention)), .d (.v (.int .i64 y1.Size)), .d (.v (.int .i64 y1.Parts)), .d (.v (.int .i64 y1.Files)), .d (.v (.int .i64 y1.Bytes)), .row 851980 1 y1.Types.length, .d (.v (.int .i64 y1.Join)), .d (.v (.int .i64 y1.History)), .d (.v (.int .i64 y1.Remove)), .d (.v (.int .i64 y1.Level)), .d (.v (.bool y1.Batch)), .d (.v (.int .i64 y1.Rate)), .d (.v (.int .i64 y1.Down)), .d (.v (.int .i64 y1.Window)), .d (.v (.int .i64 y1.Keep))]) (Mem.add _ 851980 (.rows 1 (List.map encS y1.Types) false)) rfl (by simp only [List.length_map]) ?_
  refine R.one rfl ?_
  refine W.det (.agg [.d (.v (.int .i64 (1 : Int))), .d (.v (.int .i64 (10 : Int))), .d (.v (.int .i64 (2 : Int)))]) _ rfl ?_
  refine R.one rfl ?_
  refine W.det (.agg [.d (.v (.int .i64 (2 : Int))), .d (.v (.int .i64 (15 : Int))), .d (.v (.int .i64 (4 : Int)))]) _ rfl ?_
  refine R.one rfl ?_
  refine W.det (.row 15 1 2) (Mem.add _ 15 (.rows 3 (List.map api_Job.enc [(api_Job.mk (1 : Int) (10 : Int) (2 : Int)), (api_Job.mk (2 : Int) (15 : Int) (4 : Int))]) false)) rfl ?_
  refine R.one rfl ?_
  refine bindK h fun y2 hy2 h => ?_
  refine W.call rfl (admit_Plan_fn hy2) ?_
  refine W.v (.tup [.row 1048592 1 (List.map (encI .i64) y2.1).length, .d (.v (.int .i64 y2.2.1)), .d (.v (.int .i64 y2.2.2))]) (.tup [.row 1048592 1 y2.1.length, .d (.v (.int .i64 y2.2.1)), .d (.v (.int .i64 y2.2.2))]) (Mem.add (Mem.set (Mem.set _ 851980 1 (some (.rows 1 (List.map encS y1.Types) true))) 15 1 (some (.rows 3 (List.map api_Job.enc [(api_Job.mk (1 : Int) (10 : Int) (2 : Int)), (api_Job.mk (2 : Int) (15 : Int) (4 : Int))]) true))) 1048592 (.rows 1 (List.map (encI .i64) y2.1) false)) rfl (by simp only [List.length_map]) ?_
  refine R.one rfl ?_
  refine W.det (.tup [.row 1048592 1 y2.1.length, .d (.v (.int .i64 y2.2.1)), .d (.v (.int .i64 y2.2.2))]) _ rfl ?_
  refine R.one rfl ?_
  refine W.det (.row 1048592 1 y2.1.length) _ rfl ?_
  refine R.one rfl ?_
  refine W.det (.d (.v (.int .i64 y2.2.1))) _ rfl ?_
  refine R.one rfl ?_
  refine W.det (.d (.v (.int .i64 y2.2.2))) _ rfl ?_
  refine R.one rfl ?_
  refine W.det (.row 1048592 1 y2.1.length) _ rfl ?_
  refine R.one rfl ?_
  refine W.det (.d (.v (.int .i64 y2.2.1))) _ rfl ?_
  refine R.one rfl ?_
  refine W.det (.d (.v (.int .i64 y2.2.2))) _ rfl ?_
  refine R.nil ?_
  refine seqK.n ?_
  refine A.seq rfl ?_
  refine A.region ?_
  refine R.one rfl ?_
  refine bindK h fun y3 hy3 h => ?_
  refine W.call rfl (law29_link_fn hy3) ?_
  refine W.v (.agg [.d (.v (.string y3.Name)), .d (.v (.int .i64 y3.Edit)), .d (.v (.int .i64 y3.Within)), .d (.v (.int .i64 y3.Delete)), .d (.v (.bool y3.React)), .d (.v (.int .i64 y3.Thread)), .d (.v (.bool y3.Quote)), .d (.v (.bool y3.Mention)), .d (.v (.int .i64 y3.Size)), .d (.v (.int .i64 y3.Parts)), .d (.v (.int .i64 y3.Files)), .d (.v (.int .i64 y3.Bytes)), .row 851989 1 (List.map encS y3.Types).length, .d (.v (.int .i64 y3.Join)), .d (.v (.int .i64 y3.History)), .d (.v (.int .i64 y3.Remove)), .d (.v (.int .i64 y3.Level)), .d (.v (.bool y3.Batch)), .d (.v (.int .i64 y3.Rate)), .d (.v (.int .i64 y3.Down)), .d (.v (.int .i64 y3.Window)), .d (.v (.int .i64 y3.Keep))]) (.agg [.d (.v (.string y3.Name)), .d (.v (.int .i64 y3.Edit)), .d (.v (.int .i64 y3.Within)), .d (.v (.int .i64 y3.Delete)), .d (.v (.bool y3.React)), .d (.v (.int .i64 y3.Thread)), .d (.v (.bool y3.Quote)), .d (.v (.bool y3.Mention)), .d (.v (.int .i64 y3.Size)), .d (.v (.int .i64 y3.Parts)), .d (.v (.int .i64 y3.Files)), .d (.v (.int .i64 y3.Bytes)), .row 851989 1 y3.Types.length, .d (.v (.int .i64 y3.Join)), .d (.v (.int .i64 y3.History)), .d (.v (.int .i64 y3.Remove)), .d (.v (.int .i64 y3.Level)), .d (.v (.bool y3.Batch)), .d (.v (.int .i64 y3.Rate)), .d (.v (.int .i64 y3.Down)), .d (.v (.int .i64 y3.Window)), .d (.v (.int .i64 y3.Keep))]) (Mem.add _ 851989 (.rows 1 (List.map encS y3.Types) false)) rfl (by simp only [List.length_map]) ?_
  refine R.one rfl ?_
  refine W.det (.agg [.d (.v (.int .i64 (1 : Int))), .d (.v (.int .i64 (10 : Int))), .d (.v (.int .i64 (1 : Int)))]) _ rfl ?_
  refine R.one rfl ?_
  refine W.det (.row 23 1 1) (Mem.add _ 23 (.rows 3 (List.map api_Job.enc [(api_Job.mk (1 : Int) (10 : Int) (1 : Int))]) false)) rfl ?_
  refine R.one rfl ?_
  refine bindK h fun y4 hy4 h => ?_
  refine W.call rfl (admit_Plan_fn hy4) ?_
  refine W.v (.tup [.row 1048600 1 (List.map (encI .i64) y4.1).length, .d (.v (.int .i64 y4.2.1)), .d (.v (.int .i64 y4.2.2))]) (.tup [.row 1048600 1 y4.1.length, .d (.v (.int .i64 y4.2.1)), .d (.v (.int .i64 y4.2.2))]) (Mem.add (Mem.set (Mem.set _ 851989 1 (some (.rows 1 (List.map encS y3.Types) true))) 23 1 (some (.rows 3 (List.map api_Job.enc [(api_Job.mk (1 : Int) (10 : Int) (1 : Int))]) true))) 1048600 (.rows 1 (List.map (encI .i64) y4.1) false)) rfl (by simp only [List.length_map]) ?_
  refine R.one rfl ?_
  refine W.det (.tup [.row 1048600 1 y4.1.length, .d (.v (.int .i64 y4.2.1)), .d (.v (.int .i64 y4.2.2))]) _ rfl ?_
  refine R.one rfl ?_
  refine W.det (.row 1048600 1 y4.1.length) _ rfl ?_
  refine R.one rfl ?_
  refine W.det (.d (.v (.int .i64 y4.2.1))) _ rfl ?_
  refine R.one rfl ?_
  refine W.det (.d (.v (.int .i64 y4.2.2))) _ rfl ?_
  refine R.one rfl ?_
  refine W.det (.row 1048600 1 y4.1.length) _ rfl ?_
  refine R.one rfl ?_
  refine W.det (.d (.v (.int .i64 y4.2.1))) _ rfl ?_
  refine R.one rfl ?_
  refine W.det (.d (.v (.int .i64 y4.2.2))) _ rfl ?_
  refine R.nil ?_
  refine seqK.n ?_
  refine A.seq rfl ?_
  refine A.region ?_
  refine R.one rfl ?_
  refine W.det (.agg [.d (.v (.int .i64 (2 : Int))), .d (.v (.int .i64 (10 : Int))), .d (.v (.int .i64 (4 : Int)))]) _ rfl ?_
  refine R.one rfl ?_
  refine W.det (.agg [.d (.v (.int .i64 (1 : Int))), .d (.v (.int .i64 (10 : Int))), .d (.v (.int .i64 (2 : Int)))]) _ rfl ?_
  refine R.one rfl ?_
  refine W.det (.row 30 1 2) (Mem.add _ 30 (.rows 3 (List.map api_Job.enc [(api_Job.mk (2 : Int) (10 : Int) (4 : Int)), (api_Job.mk (1 : Int) (10 : Int) (2 : Int))]) false)) rfl ?_
  refine R.one rfl ?_
  refine W.det (.row 30 1 2) _ rfl ?_
  refine R.nil ?_
  refine seqK.n ?_
  refine A.seq rfl ?_
  refine A.region ?_
  refine R.one rfl ?_
  refine bindK h fun y5 hy5 h => ?_
  refine W.call rfl (law29_link_fn hy5) ?_
  refine W.v (.agg [.d (.v (.string y5.Name)), .d (.v (.int .i64 y5.Edit)), .d (.v (.int .i64 y5.Within)), .d (.v (.int .i64 y5.Delete)), .d (.v (.bool y5.React)), .d (.v (.int .i64 y5.Thread)), .d (.v (.bool y5.Quote)), .d (.v (.bool y5.Mention)), .d (.v (.int .i64 y5.Size)), .d (.v (.int .i64 y5.Parts)), .d (.v (.int .i64 y5.Files)), .d (.v (.int .i64 y5.Bytes)), .row 852000 1 (List.map encS y5.Types).length, .d (.v (.int .i64 y5.Join)), .d (.v (.int .i64 y5.History)), .d (.v (.int .i64 y5.Remove)), .d (.v (.int .i64 y5.Level)), .d (.v (.bool y5.Batch)), .d (.v (.int .i64 y5.Rate)), .d (.v (.int .i64 y5.Down)), .d (.v (.int .i64 y5.Window)), .d (.v (.int .i64 y5.Keep))]) (.agg [.d (.v (.string y5.Name)), .d (.v (.int .i64 y5.Edit)), .d (.v (.int .i64 y5.Within)), .d (.v (.int .i64 y5.Delete)), .d (.v (.bool y5.React)), .d (.v (.int .i64 y5.Thread)), .d (.v (.bool y5.Quote)), .d (.v (.bool y5.Mention)), .d (.v (.int .i64 y5.Size)), .d (.v (.int .i64 y5.Parts)), .d (.v (.int .i64 y5.Files)), .d (.v (.int .i64 y5.Bytes)), .row 852000 1 y5.Types.length, .d (.v (.int .i64 y5.Join)), .d (.v (.int .i64 y5.History)), .d (.v (.int .i64 y5.Remove)), .d (.v (.int .i64 y5.Level)), .d (.v (.bool y5.Batch)), .d (.v (.int .i64 y5.Rate)), .d (.v (.int .i64 y5.Down)), .d (.v (.int .i64 y5.Window)), .d (.v (.int .i64 y5.Keep))]) (Mem.add _ 852000 (.rows 1 (List.map encS y5.Types) false)) rfl (by simp only [List.length_map]) ?_
  refine R.one rfl ?_
  refine W.det (.row 30 1 2) _ rfl ?_
  refine R.one rfl ?_
  refine bindK h fun y6 hy6 h => ?_
  refine W.call rfl (admit_Plan_fn hy6) ?_
  refine W.v (.tup [.row 1048610 1 (List.map (encI .i64) y6.1).length, .d (.v (.int .i64 y6.2.1)), .d (.v (.int .i64 y6.2.2))]) (.tup [.row 1048610 1 y6.1.length, .d (.v (.int .i64 y6.2.1)), .d (.v (.int .i64 y6.2.2))]) (Mem.add (Mem.set (Mem.set _ 852000 1 (some (.rows 1 (List.map encS y5.Types) true))) 30 1 (some (.rows 3 (List.map api_Job.enc [(api_Job.mk (2 : Int) (10 : Int) (4 : Int)), (api_Job.mk (1 : Int) (10 : Int) (2 : Int))]) true))) 1048610 (.rows 1 (List.map (encI .i64) y6.1) false)) rfl (by simp only [List.length_map]) ?_
  refine R.one rfl ?_
  refine W.det (.tup [.row 1048610 1 y6.1.length, .d (.v (.int .i64 y6.2.1)), .d (.v (.int .i64 y6.2.2))]) _ rfl ?_
  refine R.one rfl ?_
  refine W.det (.row 1048610 1 y6.1.length) _ rfl ?_
  refine R.one rfl ?_
  refine W.det (.d (.v (.int .i64 y6.2.1))) _ rfl ?_
  refine R.one rfl ?_
  refine W.det (.d (.v (.int .i64 y6.2.2))) _ rfl ?_
  refine R.one rfl ?_
  refine W.det (.row 1048610 1 y6.1.length) _ rfl ?_
  refine R.one rfl ?_
  refine W.det (.d (.v (.int .i64 y6.2.1))) _ rfl ?_
  refine R.one rfl ?_
  refine W.det (.d (.v (.int .i64 y6.2.2))) _ rfl ?_
  refine R.nil ?_
  refine seqK.n ?_
  refine A.seq rfl ?_
  refine A.region ?_
  refine R.one rfl ?_
  refine W.det (.row 1048592 1 y2.1.length) _ rfl ?_
  refine R.one rfl ?_
  refine W.det (.row 39 1 2) (Mem.add _ 39 (.rows 1 (List.map (encI .i64) [(0 : Int), (5 : Int)]) false)) rfl ?_
  refine R.one rfl ?_
  refine bindK h fun y7 hy7 h => ?_
  refine W.call rfl (ref29_Same_fn hy7) ?_
  refine W.det (.d (.v (.bool y7))) _ rfl ?_
  refine R.one rfl ?_
  refine W.det (.d (.v (.bool y7))) _ rfl ?_
  refine R.gT rfl rfl rfl h (fun _ h => ?_) (fun _ h => ?_)
  · refine W.det (.d (.v (.int .i64 y2.2.2))) _ rfl ?_
    refine R.run rfl rfl rfl ?_
    refine W.det (.d (.v (.bool (y2.2.2 == (0 : Int))))) _ rfl ?_
    refine R.one rfl ?_
    refine W.det (.d (.v (.bool (y2.2.2 == (0 : Int))))) _ rfl ?_
    refine R.one rfl ?_
    refine W.det (.d (.v (.bool (y2.2.2 == (0 : Int))))) _ rfl ?_
    refine R.gT rfl rfl rfl h (fun _ h => ?_) (fun _ h => ?_)
    · refine W.det (.d (.v (.int .i64 y4.2.1))) _ rfl ?_
      refine R.run rfl rfl rfl ?_
      refine W.det (.d (.v (.bool (y4.2.1 == (1 : Int))))) _ rfl ?_
      refine R.one rfl ?_
      refine W.det (.d (.v (.bool (y4.2.1 == (1 : Int))))) _ rfl ?_
      refine R.one rfl ?_
      refine W.det (.d (.v (.bool (y4.2.1 == (1 : Int))))) _ rfl ?_
      refine R.gT rfl rfl rfl h (fun _ h => ?_) (fun _ h => ?_)
      · refine W.det (.d (.v (.int .i64 y4.2.2))) _ rfl ?_
        refine R.run rfl rfl rfl ?_
        refine W.det (.d (.v (.bool (y4.2.2 == (16 : Int))))) _ rfl ?_
        refine R.one rfl ?_
        refine W.det (.d (.v (.bool (y4.2.2 == (16 : Int))))) _ rfl ?_
        refine R.one rfl ?_
        refine W.det (.d (.v (.bool (y4.2.2 == (16 : Int))))) _ rfl ?_
        refine R.gT rfl rfl rfl h (fun _ h => ?_) (fun _ h => ?_)
        · refine W.det (.row 1048610 1 y6.1.length) _ rfl ?_
          refine R.run rfl rfl rfl ?_
          refine W.det (.row 55 1 2) (Mem.add _ 55 (.rows 1 (List.map (encI .i64) [(0 : Int), (10 : Int)]) false)) rfl ?_
          refine R.run rfl rfl rfl ?_
          refine bindK h fun y8 hy8 h => ?_
          refine W.call rfl (ref29_Same_fn hy8) ?_
          refine W.det (.d (.v (.bool y8))) _ rfl ?_
          refine R.one rfl ?_
          refine W.det (.d (.v (.bool y8))) _ rfl ?_
          refine R.one rfl ?_
          refine W.det (.d (.v (.bool y8))) _ rfl ?_
          refine R.gT rfl rfl rfl h (fun _ h => ?_) (fun _ h => ?_)
          · refine W.det (.d (.v (.int .i64 y6.2.2))) _ rfl ?_
            refine R.run rfl rfl rfl ?_
            refine W.det (.d (.v (.bool (y6.2.2 == (0 : Int))))) _ rfl ?_
            refine R.one rfl ?_
            refine W.det (.d (.v (.bool (y6.2.2 == (0 : Int))))) _ rfl ?_
            refine R.one rfl ?_
            refine W.det (.d (.v (.bool (y6.2.2 == (0 : Int))))) _ rfl ?_
            refine R.gT rfl rfl rfl h (fun _ h => ?_) (fun _ h => ?_)
            · refine bindK h fun y9 hy9 h => ?_
              refine W.call rfl (law29_link_fn hy9) ?_
              refine W.v (.agg [.d (.v (.string y9.Name)), .d (.v (.int .i64 y9.Edit)), .d (.v (.int .i64 y9.Within)), .d (.v (.int .i64 y9.Delete)), .d (.v (.bool y9.React)), .d (.v (.int .i64 y9.Thread)), .d (.v (.bool y9.Quote)), .d (.v (.bool y9.Mention)), .d (.v (.int .i64 y9.Size)), .d (.v (.int .i64 y9.Parts)), .d (.v (.int .i64 y9.Files)), .d (.v (.int .i64 y9.Bytes)), .row 852031 1 (List.map encS y9.Types).length, .d (.v (.int .i64 y9.Join)), .d (.v (.int .i64 y9.History)), .d (.v (.int .i64 y9.Remove)), .d (.v (.int .i64 y9.Level)), .d (.v (.bool y9.Batch)), .d (.v (.int .i64 y9.Rate)), .d (.v (.int .i64 y9.Down)), .d (.v (.int .i64 y9.Window)), .d (.v (.int .i64 y9.Keep))]) (.agg [.d (.v (.string y9.Name)), .d (.v (.int .i64 y9.Edit)), .d (.v (.int .i64 y9.Within)), .d (.v (.int .i64 y9.Delete)), .d (.v (.bool y9.React)), .d (.v (.int .i64 y9.Thread)), .d (.v (.bool y9.Quote)), .d (.v (.bool y9.Mention)), .d (.v (.int .i64 y9.Size)), .d (.v (.int .i64 y9.Parts)), .d (.v (.int .i64 y9.Files)), .d (.v (.int .i64 y9.Bytes)), .row 852031 1 y9.Types.length, .d (.v (.int .i64 y9.Join)), .d (.v (.int .i64 y9.History)), .d (.v (.int .i64 y9.Remove)), .d (.v (.int .i64 y9.Level)), .d (.v (.bool y9.Batch)), .d (.v (.int .i64 y9.Rate)), .d (.v (.int .i64 y9.Down)), .d (.v (.int .i64 y9.Window)), .d (.v (.int .i64 y9.Keep))]) (Mem.add _ 852031 (.rows 1 (List.map encS y9.Types) false)) rfl (by simp only [List.length_map]) ?_
              refine R.run rfl rfl rfl ?_
              refine W.det (.row 30 1 2) _ rfl ?_
              refine R.run rfl rfl rfl ?_
              refine bindK h fun y10 hy10 h => ?_
              refine W.call rfl (admit_Room_fn hy10) ?_
              refine W.det (.d (.v (.int .i64 y10))) _ rfl ?_
              refine R.run rfl rfl rfl ?_
              refine W.det (.d (.v (.bool (y10 == (10 : Int))))) _ rfl ?_
              refine R.one rfl ?_
              refine W.det (.d (.v (.bool (y10 == (10 : Int))))) _ rfl ?_
              refine R.one rfl ?_
              refine W.det (.d (.v (.bool (y10 == (10 : Int))))) _ rfl ?_
              refine R.gT rfl rfl rfl h (fun _ h => ?_) (fun _ h => ?_)
              · refine bindK h fun y11 hy11 h => ?_
                refine W.call rfl (law29_link_fn hy11) ?_
                refine W.v (.agg [.d (.v (.string y11.Name)), .d (.v (.int .i64 y11.Edit)), .d (.v (.int .i64 y11.Within)), .d (.v (.int .i64 y11.Delete)), .d (.v (.bool y11.React)), .d (.v (.int .i64 y11.Thread)), .d (.v (.bool y11.Quote)), .d (.v (.bool y11.Mention)), .d (.v (.int .i64 y11.Size)), .d (.v (.int .i64 y11.Parts)), .d (.v (.int .i64 y11.Files)), .d (.v (.int .i64 y11.Bytes)), .row 852037 1 (List.map encS y11.Types).length, .d (.v (.int .i64 y11.Join)), .d (.v (.int .i64 y11.History)), .d (.v (.int .i64 y11.Remove)), .d (.v (.int .i64 y11.Level)), .d (.v (.bool y11.Batch)), .d (.v (.int .i64 y11.Rate)), .d (.v (.int .i64 y11.Down)), .d (.v (.int .i64 y11.Window)), .d (.v (.int .i64 y11.Keep))]) (.agg [.d (.v (.string y11.Name)), .d (.v (.int .i64 y11.Edit)), .d (.v (.int .i64 y11.Within)), .d (.v (.int .i64 y11.Delete)), .d (.v (.bool y11.React)), .d (.v (.int .i64 y11.Thread)), .d (.v (.bool y11.Quote)), .d (.v (.bool y11.Mention)), .d (.v (.int .i64 y11.Size)), .d (.v (.int .i64 y11.Parts)), .d (.v (.int .i64 y11.Files)), .d (.v (.int .i64 y11.Bytes)), .row 852037 1 y11.Types.length, .d (.v (.int .i64 y11.Join)), .d (.v (.int .i64 y11.History)), .d (.v (.int .i64 y11.Remove)), .d (.v (.int .i64 y11.Level)), .d (.v (.bool y11.Batch)), .d (.v (.int .i64 y11.Rate)), .d (.v (.int .i64 y11.Down)), .d (.v (.int .i64 y11.Window)), .d (.v (.int .i64 y11.Keep))]) (Mem.add _ 852037 (.rows 1 (List.map encS y11.Types) false)) rfl (by simp only [List.length_map]) ?_
                refine R.run rfl rfl rfl ?_
                refine W.det (.row 30 1 2) _ rfl ?_
                refine R.run rfl rfl rfl ?_
                refine W.det (.row 71 1 2) (Mem.add _ 71 (.rows 1 (List.map (encI .i64) [(0 : Int), (11 : Int)]) false)) rfl ?_
                refine R.run rfl rfl rfl ?_
                refine bindK h fun y12 hy12 h => ?_
                refine W.call rfl (admit_Check_fn hy12) ?_
                refine W.det (.d (.v (.int .i64 y12))) _ rfl ?_
                refine R.run rfl rfl rfl ?_
                refine W.det (.d (.v (.bool (y12 == (18 : Int))))) _ rfl ?_
                refine R.one rfl ?_
                refine W.det (.d (.v (.bool (y12 == (18 : Int))))) _ rfl ?_
                refine R.one rfl ?_
                refine W.det (.d (.v (.bool (y12 == (18 : Int))))) _ rfl ?_
                refine R.nil ?_
                refine seqK.n ?_
                refine A.ret ?_
                injection h with h
                subst h
                cases hG
                exact ⟨rfl, trivial⟩
              · refine R.skip rfl rfl rfl ?_
                refine R.skip rfl rfl rfl ?_
                refine R.skip rfl rfl rfl ?_
                refine R.skip rfl rfl rfl ?_
                refine R.one rfl ?_
                refine W.det (.kb false) _ rfl ?_
                refine R.one rfl ?_
                refine W.det (.kb false) _ rfl ?_
                refine R.nil ?_
                refine seqK.n ?_
                refine A.ret ?_
                injection h with h
                subst h
                cases hG
                exact ⟨rfl, trivial⟩
            · refine R.skip rfl rfl rfl ?_
              refine R.skip rfl rfl rfl ?_
              refine R.skip rfl rfl rfl ?_
              refine R.one rfl ?_
              refine W.det (.kb false) _ rfl ?_
              refine R.one rfl ?_
              refine W.det (.kb false) _ rfl ?_
              refine R.skip rfl rfl rfl ?_
              refine R.skip rfl rfl rfl ?_
              refine R.skip rfl rfl rfl ?_
              refine R.skip rfl rfl rfl ?_
              refine R.skip rfl rfl rfl ?_
              refine R.one rfl ?_
              refine W.det (.kb false) _ rfl ?_
              refine R.one rfl ?_
              refine W.det (.kb false) _ rfl ?_
              refine R.nil ?_
              refine seqK.n ?_
              refine A.ret ?_
              injection h with h
              subst h
              cases hG
              exact ⟨rfl, trivial⟩
          · refine R.skip rfl rfl rfl ?_
            refine R.one rfl ?_
            refine W.det (.kb false) _ rfl ?_
            refine R.one rfl ?_
            refine W.det (.kb false) _ rfl ?_
            refine R.skip rfl rfl rfl ?_
            refine R.skip rfl rfl rfl ?_
            refine R.skip rfl rfl rfl ?_
            refine R.skip rfl rfl rfl ?_
            refine R.one rfl ?_
            refine W.det (.kb false) _ rfl ?_
            refine R.one rfl ?_
            refine W.det (.kb false) _ rfl ?_
            refine R.skip rfl rfl rfl ?_
            refine R.skip rfl rfl rfl ?_
            refine R.skip rfl rfl rfl ?_
            refine R.skip rfl rfl rfl ?_
            refine R.skip rfl rfl rfl ?_
            refine R.one rfl ?_
            refine W.det (.kb false) _ rfl ?_
            refine R.one rfl ?_
            refine W.det (.kb false) _ rfl ?_
            refine R.nil ?_
            refine seqK.n ?_
            refine A.ret ?_
            injection h with h
            subst h
            cases hG
            exact ⟨rfl, trivial⟩
        · refine R.skip rfl rfl rfl ?_
          refine R.skip rfl rfl rfl ?_
          refine R.one rfl ?_
          refine W.det (.kb false) _ rfl ?_
          refine R.one rfl ?_
          refine W.det (.kb false) _ rfl ?_
          refine R.skip rfl rfl rfl ?_
          refine R.skip rfl rfl rfl ?_
          refine R.one rfl ?_
          refine W.det (.kb false) _ rfl ?_
          refine R.one rfl ?_
          refine W.det (.kb false) _ rfl ?_
          refine R.skip rfl rfl rfl ?_
          refine R.skip rfl rfl rfl ?_
          refine R.skip rfl rfl rfl ?_
          refine R.skip rfl rfl rfl ?_
          refine R.one rfl ?_
          refine W.det (.kb false) _ rfl ?_
          refine R.one rfl ?_
          refine W.det (.kb false) _ rfl ?_
          refine R.skip rfl rfl rfl ?_
          refine R.skip rfl rfl rfl ?_
          refine R.skip rfl rfl rfl ?_
          refine R.skip rfl rfl rfl ?_
          refine R.skip rfl rfl rfl ?_
          refine R.one rfl ?_
          refine W.det (.kb false) _ rfl ?_
          refine R.one rfl ?_
          refine W.det (.kb false) _ rfl ?_
          refine R.nil ?_
          refine seqK.n ?_
          refine A.ret ?_
          injection h with h
          subst h
          cases hG
          exact ⟨rfl, trivial⟩
      · refine R.skip rfl rfl rfl ?_
        refine R.one rfl ?_
        refine W.det (.kb false) _ rfl ?_
        refine R.one rfl ?_
        refine W.det (.kb false) _ rfl ?_
        refine R.skip rfl rfl rfl ?_
        refine R.skip rfl rfl rfl ?_
        refine R.skip rfl rfl rfl ?_
        refine R.one rfl ?_
        refine W.det (.kb false) _ rfl ?_
        refine R.one rfl ?_
        refine W.det (.kb false) _ rfl ?_
        refine R.skip rfl rfl rfl ?_
        refine R.skip rfl rfl rfl ?_
        refine R.one rfl ?_
        refine W.det (.kb false) _ rfl ?_
        refine R.one rfl ?_
        refine W.det (.kb false) _ rfl ?_
        refine R.skip rfl rfl rfl ?_
        refine R.skip rfl rfl rfl ?_
        refine R.skip rfl rfl rfl ?_
        refine R.skip rfl rfl rfl ?_
        refine R.one rfl ?_
        refine W.det (.kb false) _ rfl ?_
        refine R.one rfl ?_
        refine W.det (.kb false) _ rfl ?_
        refine R.skip rfl rfl rfl ?_
        refine R.skip rfl rfl rfl ?_
        refine R.skip rfl rfl rfl ?_
        refine R.skip rfl rfl rfl ?_
        refine R.skip rfl rfl rfl ?_
        refine R.one rfl ?_
        refine W.det (.kb false) _ rfl ?_
        refine R.one rfl ?_
        refine W.det (.kb false) _ rfl ?_
        refine R.nil ?_
        refine seqK.n ?_
        refine A.ret ?_
        injection h with h
        subst h
        cases hG
        exact ⟨rfl, trivial⟩
    · refine R.skip rfl rfl rfl ?_
      refine R.one rfl ?_
      refine W.det (.kb false) _ rfl ?_
      refine R.one rfl ?_
      refine W.det (.kb false) _ rfl ?_
      refine R.skip rfl rfl rfl ?_
      refine R.skip rfl rfl rfl ?_
      refine R.one rfl ?_
      refine W.det (.kb false) _ rfl ?_
      refine R.one rfl ?_
      refine W.det (.kb false) _ rfl ?_
      refine R.skip rfl rfl rfl ?_
      refine R.skip rfl rfl rfl ?_
      refine R.skip rfl rfl rfl ?_
      refine R.one rfl ?_
      refine W.det (.kb false) _ rfl ?_
      refine R.one rfl ?_
      refine W.det (.kb false) _ rfl ?_
      refine R.skip rfl rfl rfl ?_
      refine R.skip rfl rfl rfl ?_
      refine R.one rfl ?_
      refine W.det (.kb false) _ rfl ?_
      refine R.one rfl ?_
      refine W.det (.kb false) _ rfl ?_
      refine R.skip rfl rfl rfl ?_
      refine R.skip rfl rfl rfl ?_
      refine R.skip rfl rfl rfl ?_
      refine R.skip rfl rfl rfl ?_
      refine R.one rfl ?_
      refine W.det (.kb false) _ rfl ?_
      refine R.one rfl ?_
      refine W.det (.kb false) _ rfl ?_
      refine R.skip rfl rfl rfl ?_
      refine R.skip rfl rfl rfl ?_
      refine R.skip rfl rfl rfl ?_
      refine R.skip rfl rfl rfl ?_
      refine R.skip rfl rfl rfl ?_
      refine R.one rfl ?_
      refine W.det (.kb false) _ rfl ?_
      refine R.one rfl ?_
      refine W.det (.kb false) _ rfl ?_
      refine R.nil ?_
      refine seqK.n ?_
      refine A.ret ?_
      injection h with h
      subst h
      cases hG
      exact ⟨rfl, trivial⟩
  · refine R.skip rfl rfl rfl ?_
    refine R.one rfl ?_
    refine W.det (.kb false) _ rfl ?_
    refine R.one rfl ?_
    refine W.det (.kb false) _ rfl ?_
    refine R.skip rfl rfl rfl ?_
    refine R.skip rfl rfl rfl ?_
    refine R.one rfl ?_
    refine W.det (.kb false) _ rfl ?_
    refine R.one rfl ?_
    refine W.det (.kb false) _ rfl ?_
    refine R.skip rfl rfl rfl ?_
    refine R.skip rfl rfl rfl ?_
    refine R.one rfl ?_
    refine W.det (.kb false) _ rfl ?_
    refine R.one rfl ?_
    refine W.det (.kb false) _ rfl ?_
    refine R.skip rfl rfl rfl ?_
    refine R.skip rfl rfl rfl ?_
    refine R.skip rfl rfl rfl ?_
    refine R.one rfl ?_
    refine W.det (.kb false) _ rfl ?_
    refine R.one rfl ?_
    refine W.det (.kb false) _ rfl ?_
    refine R.skip rfl rfl rfl ?_
    refine R.skip rfl rfl rfl ?_
    refine R.one rfl ?_
    refine W.det (.kb false) _ rfl ?_
    refine R.one rfl ?_
    refine W.det (.kb false) _ rfl ?_
    refine R.skip rfl rfl rfl ?_
    refine R.skip rfl rfl rfl ?_
    refine R.skip rfl rfl rfl ?_
    refine R.skip rfl rfl rfl ?_
    refine R.one rfl ?_
    refine W.det (.kb false) _ rfl ?_
    refine R.one rfl ?_
    refine W.det (.kb false) _ rfl ?_
    refine R.skip rfl rfl rfl ?_
    refine R.skip rfl rfl rfl ?_
    refine R.skip rfl rfl rfl ?_
    refine R.skip rfl rfl rfl ?_
    refine R.skip rfl rfl rfl ?_
    refine R.one rfl ?_
    refine W.det (.kb false) _ rfl ?_
    refine R.one rfl ?_
    refine W.det (.kb false) _ rfl ?_
    refine R.nil ?_
    refine seqK.n ?_
    refine A.ret ?_
    injection h with h
    subst h
    cases hG
    exact ⟨rfl, trivial⟩
noncomputable def law29_few (p_ : api_Profile) (jobs_ : (List api_Job)) : Option (Bool) :=
  (bif (decide ((jobs_.length : Int) ≤ (30 : Int))) then
    (bif (decide ((p_.Types.length : Int) ≤ (20 : Int))) then
      some (decide ((p_.Name.size : Int) ≤ (100 : Int)))
    else
      some false)
  else
    some false)
theorem law29_few_fn {p_ : api_Profile} {jobs_ : (List api_Job)} {r : Bool} (h : law29_few p_ jobs_ = some r) : Fn Try.prog 10 [.agg [.d (.v (.string p_.Name)), .d (.v (.int .i64 p_.Edit)), .d (.v (.int .i64 p_.Within)), .d (.v (.int .i64 p_.Delete)), .d (.v (.bool p_.React)), .d (.v (.int .i64 p_.Thread)), .d (.v (.bool p_.Quote)), .d (.v (.bool p_.Mention)), .d (.v (.int .i64 p_.Size)), .d (.v (.int .i64 p_.Parts)), .d (.v (.int .i64 p_.Files)), .d (.v (.int .i64 p_.Bytes)), .d (.fz (List.map encS p_.Types)), .d (.v (.int .i64 p_.Join)), .d (.v (.int .i64 p_.History)), .d (.v (.int .i64 p_.Remove)), .d (.v (.int .i64 p_.Level)), .d (.v (.bool p_.Batch)), .d (.v (.int .i64 p_.Rate)), .d (.v (.int .i64 p_.Down)), .d (.v (.int .i64 p_.Window)), .d (.v (.int .i64 p_.Keep))], .d (.fz (List.map api_Job.enc jobs_))] (.d (.v (.bool r))) := by
  refine Fn.of_AW (F := FnX Try.prog) (base := 0) (js := []) mixed tok noeqs (fun _ _ _ h => h) Try.call10 Try.func10 rfl Try.ntmps10 (by rw [Try.results10]) (by simp) ?_
  have hG : (fun x => x = r) r := rfl
  unfold law29_few at h
  refine A.seq rfl ?_
  refine A.region ?_
  refine R.one rfl ?_
  refine W.det (.lp 2 1 0) (Mem.add _ 2 (.box [.d (.v (.string p_.Name)), .d (.v (.int .i64 p_.Edit)), .d (.v (.int .i64 p_.Within)), .d (.v (.int .i64 p_.Delete)), .d (.v (.bool p_.React)), .d (.v (.int .i64 p_.Thread)), .d (.v (.bool p_.Quote)), .d (.v (.bool p_.Mention)), .d (.v (.int .i64 p_.Size)), .d (.v (.int .i64 p_.Parts)), .d (.v (.int .i64 p_.Files)), .d (.v (.int .i64 p_.Bytes)), .d (.fz (List.map encS p_.Types)), .d (.v (.int .i64 p_.Join)), .d (.v (.int .i64 p_.History)), .d (.v (.int .i64 p_.Remove)), .d (.v (.int .i64 p_.Level)), .d (.v (.bool p_.Batch)), .d (.v (.int .i64 p_.Rate)), .d (.v (.int .i64 p_.Down)), .d (.v (.int .i64 p_.Window)), .d (.v (.int .i64 p_.Keep))])) rfl ?_
  refine R.one rfl ?_
  refine W.det (.kb false) _ rfl ?_
  refine R.nil ?_
  refine seqK.n ?_
  refine A.seq rfl ?_
  refine A.region ?_
  refine R.one rfl ?_
  refine W.det (.d (.fz (List.map api_Job.enc jobs_))) _ rfl ?_
  refine R.one rfl ?_
  refine W.len rfl ?_
  refine R.one rfl ?_
  refine W.det (.d (.v (.bool (decide ((jobs_.length : Int) ≤ (30 : Int)))))) _ rfl ?_
  refine R.one rfl ?_
  refine W.det (.d (.v (.bool (decide ((jobs_.length : Int) ≤ (30 : Int)))))) _ rfl ?_
  refine R.gT rfl rfl rfl h (fun _ h => ?_) (fun _ h => ?_)
  · refine W.det (.lp 2 1 12) _ rfl ?_
    refine R.run rfl rfl rfl ?_
    refine W.det (.d (.fz (List.map encS p_.Types))) _ rfl ?_
    refine R.run rfl rfl rfl ?_
    refine W.len rfl ?_
    refine R.run rfl rfl rfl ?_
    refine W.det (.d (.v (.bool (decide ((p_.Types.length : Int) ≤ (20 : Int)))))) _ rfl ?_
    refine R.one rfl ?_
    refine W.det (.d (.v (.bool (decide ((p_.Types.length : Int) ≤ (20 : Int)))))) _ rfl ?_
    refine R.one rfl ?_
    refine W.det (.d (.v (.bool (decide ((p_.Types.length : Int) ≤ (20 : Int)))))) _ rfl ?_
    refine R.gT rfl rfl rfl h (fun _ h => ?_) (fun _ h => ?_)
    · refine W.det (.lp 2 1 0) _ rfl ?_
      refine R.run rfl rfl rfl ?_
      refine W.det (.d (.v (.string p_.Name))) _ rfl ?_
      refine R.run rfl rfl rfl ?_
      refine W.det (.d (.v (.int .i64 (p_.Name.size : Int)))) _ rfl ?_
      refine R.run rfl rfl rfl ?_
      refine W.det (.d (.v (.bool (decide ((p_.Name.size : Int) ≤ (100 : Int)))))) _ rfl ?_
      refine R.one rfl ?_
      refine W.det (.d (.v (.bool (decide ((p_.Name.size : Int) ≤ (100 : Int)))))) _ rfl ?_
      refine R.one rfl ?_
      refine W.det (.d (.v (.bool (decide ((p_.Name.size : Int) ≤ (100 : Int)))))) _ rfl ?_
      refine R.nil ?_
      refine seqK.n ?_
      refine A.ret ?_
      injection h with h
      subst h
      cases hG
      exact ⟨rfl, trivial⟩
    · refine R.skip rfl rfl rfl ?_
      refine R.skip rfl rfl rfl ?_
      refine R.skip rfl rfl rfl ?_
      refine R.one rfl ?_
      refine W.det (.kb false) _ rfl ?_
      refine R.one rfl ?_
      refine W.det (.kb false) _ rfl ?_
      refine R.nil ?_
      refine seqK.n ?_
      refine A.ret ?_
      injection h with h
      subst h
      cases hG
      exact ⟨rfl, trivial⟩
  · refine R.skip rfl rfl rfl ?_
    refine R.skip rfl rfl rfl ?_
    refine R.skip rfl rfl rfl ?_
    refine R.one rfl ?_
    refine W.det (.kb false) _ rfl ?_
    refine R.one rfl ?_
    refine W.det (.kb false) _ rfl ?_
    refine R.skip rfl rfl rfl ?_
    refine R.skip rfl rfl rfl ?_
    refine R.skip rfl rfl rfl ?_
    refine R.skip rfl rfl rfl ?_
    refine R.one rfl ?_
    refine W.det (.kb false) _ rfl ?_
    refine R.one rfl ?_
    refine W.det (.kb false) _ rfl ?_
    refine R.nil ?_
    refine seqK.n ?_
    refine A.ret ?_
    injection h with h
    subst h
    cases hG
    exact ⟨rfl, trivial⟩
noncomputable def ref12_within (n_ : Int) (from_ : Int) (to_ : Int) : Option (Bool) :=
  (bif (decide (from_ ≤ n_)) then
    some (decide (n_ ≤ to_))
  else
    some false)
theorem ref12_within_fn {n_ : Int} {from_ : Int} {to_ : Int} {r : Bool} (h : ref12_within n_ from_ to_ = some r) : Fn Try.prog 68 [.d (.v (.int .i64 n_)), .d (.v (.int .i64 from_)), .d (.v (.int .i64 to_))] (.d (.v (.bool r))) := by
  refine Fn.of_AW (F := FnX Try.prog) (base := 0) (js := []) mixed tok noeqs (fun _ _ _ h => h) Try.call68 Try.func68 rfl Try.ntmps68 (by rw [Try.results68]) (by simp) ?_
  have hG : (fun x => x = r) r := rfl
  unfold ref12_within at h
  refine A.seq rfl ?_
  refine A.region ?_
  refine R.one rfl ?_
  refine W.det (.kb false) _ rfl ?_
  refine R.nil ?_
  refine seqK.n ?_
  refine A.seq rfl ?_
  refine A.region ?_
  refine R.one rfl ?_
  refine W.det (.d (.v (.int .i64 n_))) _ rfl ?_
  refine R.one rfl ?_
  refine W.det (.d (.v (.int .i64 from_))) _ rfl ?_
  refine R.one rfl ?_
  refine W.det (.d (.v (.bool (decide (from_ ≤ n_))))) _ rfl ?_
  refine R.one rfl ?_
  refine W.det (.d (.v (.bool (decide (from_ ≤ n_))))) _ rfl ?_
  refine R.gT rfl rfl rfl h (fun _ h => ?_) (fun _ h => ?_)
  · refine W.det (.d (.v (.int .i64 n_))) _ rfl ?_
    refine R.run rfl rfl rfl ?_
    refine W.det (.d (.v (.int .i64 to_))) _ rfl ?_
    refine R.run rfl rfl rfl ?_
    refine W.det (.d (.v (.bool (decide (n_ ≤ to_))))) _ rfl ?_
    refine R.one rfl ?_
    refine W.det (.d (.v (.bool (decide (n_ ≤ to_))))) _ rfl ?_
    refine R.one rfl ?_
    refine W.det (.d (.v (.bool (decide (n_ ≤ to_))))) _ rfl ?_
    refine R.nil ?_
    refine seqK.n ?_
    refine A.ret ?_
    injection h with h
    subst h
    cases hG
    exact ⟨rfl, trivial⟩
  · refine R.skip rfl rfl rfl ?_
    refine R.skip rfl rfl rfl ?_
    refine R.one rfl ?_
    refine W.det (.kb false) _ rfl ?_
    refine R.one rfl ?_
    refine W.det (.kb false) _ rfl ?_
    refine R.nil ?_
    refine seqK.n ?_
    refine A.ret ?_
    injection h with h
    subst h
    cases hG
    exact ⟨rfl, trivial⟩
noncomputable def ref11_letter (c_ : Int) : Option (Bool) :=
  (bif (decide ((97 : Int) ≤ c_)) then
    some (decide (c_ ≤ (122 : Int)))
  else
    some false)
theorem ref11_letter_fn {c_ : Int} {r : Bool} (h : ref11_letter c_ = some r) : Fn Try.prog 75 [.d (.v (.int .u8 c_))] (.d (.v (.bool r))) := by
  refine Fn.of_AW (F := FnX Try.prog) (base := 0) (js := []) mixed tok noeqs (fun _ _ _ h => h) Try.call75 Try.func75 rfl Try.ntmps75 (by rw [Try.results75]) (by simp) ?_
  have hG : (fun x => x = r) r := rfl
  unfold ref11_letter at h
  refine A.seq rfl ?_
  refine A.region ?_
  refine R.one rfl ?_
  refine W.det (.kb false) _ rfl ?_
  refine R.nil ?_
  refine seqK.n ?_
  refine A.seq rfl ?_
  refine A.region ?_
  refine R.one rfl ?_
  refine W.det (.d (.v (.int .u8 c_))) _ rfl ?_
  refine R.one rfl ?_
  refine W.det (.d (.v (.bool (decide ((97 : Int) ≤ c_))))) _ rfl ?_
  refine R.one rfl ?_
  refine W.det (.d (.v (.bool (decide ((97 : Int) ≤ c_))))) _ rfl ?_
  refine R.gT rfl rfl rfl h (fun _ h => ?_) (fun _ h => ?_)
  · refine W.det (.d (.v (.int .u8 c_))) _ rfl ?_
    refine R.run rfl rfl rfl ?_
    refine W.det (.d (.v (.bool (decide (c_ ≤ (122 : Int)))))) _ rfl ?_
    refine R.one rfl ?_
    refine W.det (.d (.v (.bool (decide (c_ ≤ (122 : Int)))))) _ rfl ?_
    refine R.one rfl ?_
    refine W.det (.d (.v (.bool (decide (c_ ≤ (122 : Int)))))) _ rfl ?_
    refine R.nil ?_
    refine seqK.n ?_
    refine A.ret ?_
    injection h with h
    subst h
    cases hG
    exact ⟨rfl, trivial⟩
  · refine R.skip rfl rfl rfl ?_
    refine R.one rfl ?_
    refine W.det (.kb false) _ rfl ?_
    refine R.one rfl ?_
    refine W.det (.kb false) _ rfl ?_
    refine R.nil ?_
    refine seqK.n ?_
    refine A.ret ?_
    injection h with h
    subst h
    cases hG
    exact ⟨rfl, trivial⟩
noncomputable def ref11_digit (c_ : Int) : Option (Bool) :=
  (bif (decide ((48 : Int) ≤ c_)) then
    some (decide (c_ ≤ (57 : Int)))
  else
    some false)
theorem ref11_digit_fn {c_ : Int} {r : Bool} (h : ref11_digit c_ = some r) : Fn Try.prog 76 [.d (.v (.int .u8 c_))] (.d (.v (.bool r))) := by
  refine Fn.of_AW (F := FnX Try.prog) (base := 0) (js := []) mixed tok noeqs (fun _ _ _ h => h) Try.call76 Try.func76 rfl Try.ntmps76 (by rw [Try.results76]) (by simp) ?_
  have hG : (fun x => x = r) r := rfl
  unfold ref11_digit at h
  refine A.seq rfl ?_
  refine A.region ?_
  refine R.one rfl ?_
  refine W.det (.kb false) _ rfl ?_
  refine R.nil ?_
  refine seqK.n ?_
  refine A.seq rfl ?_
  refine A.region ?_
  refine R.one rfl ?_
  refine W.det (.d (.v (.int .u8 c_))) _ rfl ?_
  refine R.one rfl ?_
  refine W.det (.d (.v (.bool (decide ((48 : Int) ≤ c_))))) _ rfl ?_
  refine R.one rfl ?_
  refine W.det (.d (.v (.bool (decide ((48 : Int) ≤ c_))))) _ rfl ?_
  refine R.gT rfl rfl rfl h (fun _ h => ?_) (fun _ h => ?_)
  · refine W.det (.d (.v (.int .u8 c_))) _ rfl ?_
    refine R.run rfl rfl rfl ?_
    refine W.det (.d (.v (.bool (decide (c_ ≤ (57 : Int)))))) _ rfl ?_
    refine R.one rfl ?_
    refine W.det (.d (.v (.bool (decide (c_ ≤ (57 : Int)))))) _ rfl ?_
    refine R.one rfl ?_
    refine W.det (.d (.v (.bool (decide (c_ ≤ (57 : Int)))))) _ rfl ?_
    refine R.nil ?_
    refine seqK.n ?_
    refine A.ret ?_
    injection h with h
    subst h
    cases hG
    exact ⟨rfl, trivial⟩
  · refine R.skip rfl rfl rfl ?_
    refine R.one rfl ?_
    refine W.det (.kb false) _ rfl ?_
    refine R.one rfl ?_
    refine W.det (.kb false) _ rfl ?_
    refine R.nil ?_
    refine seqK.n ?_
    refine A.ret ?_
    injection h with h
    subst h
    cases hG
    exact ⟨rfl, trivial⟩
noncomputable def ref11_Word_L1 (s_ : ByteArray) (s3 : Int) : Option ((Int) ⊕ ((Unit) ⊕ (Bool))) :=
  (bif (decide (s3 < (s_.size : Int))) then
    (chkO (decide (0 ≤ s3) && decide (s3 < (s_.size : Int)))).bind fun _ =>
    (ref11_letter ((s_.data.toList.getD s3.toNat 0).toNat : Int)).bind fun y102 =>
    (bif (!y102) then
      (ref11_digit ((s_.data.toList.getD s3.toNat 0).toNat : Int)).bind fun y104 =>
      (bif (!y104) then
        some (.inr (.inr false))
      else
        some (.inl (IntKind.i64.wrap (s3 + (1 : Int)))))
    else
      some (.inl (IntKind.i64.wrap (s3 + (1 : Int)))))
  else
    some (.inr (.inl ())))
noncomputable def ref11_Word (s_ : ByteArray) : Option (Bool) :=
  (bif (decide ((s_.size : Int) < (1 : Int))) then
    some false
  else
    (bif (decide ((20 : Int) < (s_.size : Int))) then
      some false
    else
      (chkO (decide (0 ≤ (0 : Int)) && decide ((0 : Int) < (s_.size : Int)))).bind fun _ =>
      (ref11_letter ((s_.data.toList.getD (0 : Int).toNat 0).toNat : Int)).bind fun y8 =>
      (bif (!y8) then
        some false
      else
        (seqF (A := Unit) (
          loopF (ref11_Word_L1 s_) (1 : Int))
        fun s2 =>
          some true))))
theorem ref11_Word_fn {s_ : ByteArray} {r : Bool} (h : ref11_Word s_ = some r) : Fn Try.prog 69 [.d (.v (.string s_))] (.d (.v (.bool r))) := by
  refine Fn.of_AW (F := FnX Try.prog) (base := 0) (js := [8]) mixed tok noeqs (fun _ _ _ h => h) Try.call69 Try.func69 rfl Try.ntmps69 (by rw [Try.results69]) (by simp) ?_
  have hG : (fun x => x = r) r := rfl
  unfold ref11_Word at h
  refine A.seq rfl ?_
  refine A.region ?_
  refine R.one rfl ?_
  refine W.det (.kb false) _ rfl ?_
  refine R.nil ?_
  refine seqK.n ?_
  refine A.seq rfl ?_
  refine A.seq rfl ?_
  refine A.region ?_
  refine R.one rfl ?_
  refine W.det (.d (.v (.string s_))) _ rfl ?_
  refine R.one rfl ?_
  refine W.det (.d (.v (.int .i64 (s_.size : Int)))) _ rfl ?_
  refine R.one rfl ?_
  refine W.det (.d (.v (.bool (decide ((s_.size : Int) < (1 : Int)))))) _ rfl ?_
  refine R.one rfl ?_
  refine W.det (.d (.v (.bool (decide ((s_.size : Int) < (1 : Int)))))) _ rfl ?_
  refine R.gF rfl rfl rfl h (fun _ h => ?_) (fun _ h => ?_)
  · refine R.skip rfl rfl rfl ?_
    refine R.skip rfl rfl rfl ?_
    refine R.one rfl ?_
    refine W.det (.kb true) _ rfl ?_
    refine R.one rfl ?_
    refine W.det (.kb true) _ rfl ?_
    refine R.skip rfl rfl rfl ?_
    refine R.skip rfl rfl rfl ?_
    refine R.skip rfl rfl rfl ?_
    refine R.skip rfl rfl rfl ?_
    refine R.one rfl ?_
    refine W.det (.kb true) _ rfl ?_
    refine R.nil ?_
    refine seqK.n ?_
    refine A.condT rfl ?_
    refine A.seq rfl ?_
    refine A.region ?_
    refine R.one rfl ?_
    refine W.det (.kb false) _ rfl ?_
    refine R.nil ?_
    refine seqK.n ?_
    refine A.ret ?_
    refine seqK.r ?_
    injection h with h
    subst h
    cases hG
    exact ⟨rfl, trivial⟩
  · refine W.det (.d (.v (.string s_))) _ rfl ?_
    refine R.run rfl rfl rfl ?_
    refine W.det (.d (.v (.int .i64 (s_.size : Int)))) _ rfl ?_
    refine R.run rfl rfl rfl ?_
    refine W.det (.d (.v (.bool (decide ((20 : Int) < (s_.size : Int)))))) _ rfl ?_
    refine R.one rfl ?_
    refine W.det (.d (.v (.bool (decide ((20 : Int) < (s_.size : Int)))))) _ rfl ?_
    refine R.one rfl ?_
    refine W.det (.d (.v (.bool (decide ((20 : Int) < (s_.size : Int)))))) _ rfl ?_
    refine R.gF rfl rfl rfl h (fun _ h => ?_) (fun _ h => ?_)
    · refine R.skip rfl rfl rfl ?_
      refine R.skip rfl rfl rfl ?_
      refine R.skip rfl rfl rfl ?_
      refine R.one rfl ?_
      refine W.det (.kb true) _ rfl ?_
      refine R.nil ?_
      refine seqK.n ?_
      refine A.condT rfl ?_
      refine A.seq rfl ?_
      refine A.region ?_
      refine R.one rfl ?_
      refine W.det (.kb false) _ rfl ?_
      refine R.nil ?_
      refine seqK.n ?_
      refine A.ret ?_
      refine seqK.r ?_
      injection h with h
      subst h
      cases hG
      exact ⟨rfl, trivial⟩
    · refine W.det (.d (.v (.string s_))) _ rfl ?_
      refine R.run rfl rfl rfl ?_
      refine chkK h fun g7 h => ?_
      refine W.chk rfl (by simpa using g7) ?_
      refine W.det (.d (.v (.int .u8 ((s_.data.toList.getD (0 : Int).toNat 0).toNat : Int)))) _ rfl ?_
      refine R.run rfl rfl rfl ?_
      refine bindK h fun y8 hy8 h => ?_
      refine W.call rfl (ref11_letter_fn hy8) ?_
      refine W.det (.d (.v (.bool y8))) _ rfl ?_
      refine R.run rfl rfl rfl ?_
      refine W.det (.d (.v (.bool (!y8)))) _ rfl ?_
      refine R.one rfl ?_
      refine W.det (.d (.v (.bool (!y8)))) _ rfl ?_
      refine R.nil ?_
      refine seqK.n ?_
      refine A.condB rfl h (fun _ h => ?_) (fun _ h => ?_)
      · refine A.seq rfl ?_
        refine A.region ?_
        refine R.one rfl ?_
        refine W.det (.kb false) _ rfl ?_
        refine R.nil ?_
        refine seqK.n ?_
        refine A.ret ?_
        refine seqK.r ?_
        injection h with h
        subst h
        cases hG
        exact ⟨rfl, trivial⟩
      · refine A.skip ?_
        refine seqK.n ?_
        refine A.join (fun (s2 : Unit) => []) (fun s2 => []) _ h hG rfl ?_ ?_
        · intro J f h hG
          refine A.seq rfl ?_
          refine A.region ?_
          refine R.one rfl ?_
          refine W.det (.d (.v (.int .i64 (1 : Int)))) _ rfl ?_
          refine R.nil ?_
          refine seqK.n ?_
          refine A.block ?_
          refine A.loop (fun (s3 : Int) => [(0, .d (.v (.string s_))), (3, .d (.v (.int .i64 s3)))]) (fun s3 => []) _ h hG (Enters.of [] [] _ rfl rfl (chkE.c rfl rfl (chkE.c rfl rfl trivial)) trivial) ?_
          intro J s3 f h hG
          unfold ref11_Word_L1 at h
          refine A.seq rfl ?_
          refine A.seq rfl ?_
          refine A.region ?_
          refine R.one rfl ?_
          refine W.det (.d (.v (.int .i64 s3))) _ rfl ?_
          refine R.one rfl ?_
          refine W.det (.d (.v (.string s_))) _ rfl ?_
          refine R.one rfl ?_
          refine W.det (.d (.v (.int .i64 (s_.size : Int)))) _ rfl ?_
          refine R.one rfl ?_
          refine W.det (.d (.v (.bool (decide (s3 < (s_.size : Int)))))) _ rfl ?_
          refine R.nil ?_
          refine seqK.n ?_
          refine A.condB rfl h (fun _ h => ?_) (fun _ h => ?_)
          · refine A.skip ?_
            refine seqK.n ?_
            refine A.seq rfl ?_
            refine A.block ?_
            refine A.seq rfl ?_
            refine A.region ?_
            refine R.one rfl ?_
            refine W.det (.d (.v (.string s_))) _ rfl ?_
            refine R.one rfl ?_
            refine W.det (.d (.v (.int .i64 s3))) _ rfl ?_
            refine R.one rfl ?_
            refine chkK h fun g101 h => ?_
            refine W.chk rfl (by simpa using g101) ?_
            refine W.det (.d (.v (.int .u8 ((s_.data.toList.getD s3.toNat 0).toNat : Int)))) _ rfl ?_
            refine R.one rfl ?_
            refine bindK h fun y102 hy102 h => ?_
            refine W.call rfl (ref11_letter_fn hy102) ?_
            refine W.det (.d (.v (.bool y102))) _ rfl ?_
            refine R.one rfl ?_
            refine W.det (.d (.v (.bool (!y102)))) _ rfl ?_
            refine R.one rfl ?_
            refine W.det (.d (.v (.bool (!y102)))) _ rfl ?_
            refine R.gT rfl rfl rfl h (fun _ h => ?_) (fun _ h => ?_)
            · refine W.det (.d (.v (.string s_))) _ rfl ?_
              refine R.run rfl rfl rfl ?_
              refine W.det (.d (.v (.int .i64 s3))) _ rfl ?_
              refine R.run rfl rfl rfl ?_
              refine W.chk rfl (by simpa using g101) ?_
              refine W.det (.d (.v (.int .u8 ((s_.data.toList.getD s3.toNat 0).toNat : Int)))) _ rfl ?_
              refine R.run rfl rfl rfl ?_
              refine bindK h fun y104 hy104 h => ?_
              refine W.call rfl (ref11_digit_fn hy104) ?_
              refine W.det (.d (.v (.bool y104))) _ rfl ?_
              refine R.run rfl rfl rfl ?_
              refine W.det (.d (.v (.bool (!y104)))) _ rfl ?_
              refine R.one rfl ?_
              refine W.det (.d (.v (.bool (!y104)))) _ rfl ?_
              refine R.nil ?_
              refine seqK.n ?_
              refine A.condB rfl h (fun _ h => ?_) (fun _ h => ?_)
              · refine A.seq rfl ?_
                refine A.region ?_
                refine R.one rfl ?_
                refine W.det (.kb false) _ rfl ?_
                refine R.nil ?_
                refine seqK.n ?_
                refine A.ret ?_
                refine blockK.r ?_
                refine seqK.r ?_
                refine headK.r ?_
                refine blockK.r ?_
                refine headK.r ?_
                injection h with h
                subst h
                cases hG
                exact ⟨rfl, trivial⟩
              · refine A.skip ?_
                refine blockK.n ?_
                refine seqK.n ?_
                refine A.region ?_
                refine R.one rfl ?_
                refine W.det (.d (.v (.int .i64 s3))) _ rfl ?_
                refine R.one rfl ?_
                refine W.det (.d (.v (.int .i64 (IntKind.i64.wrap (s3 + (1 : Int)))))) _ rfl ?_
                refine R.one rfl ?_
                refine W.det (.d (.v (.int .i64 (IntKind.i64.wrap (s3 + (1 : Int)))))) _ rfl ?_
                refine R.nil ?_
                injection h with h
                subst h
                exact headK.n hG (Enters.of [] [] _ rfl rfl (chkE.c rfl rfl (chkE.c rfl rfl trivial)) trivial)
            · refine R.skip rfl rfl rfl ?_
              refine R.skip rfl rfl rfl ?_
              refine R.skip rfl rfl rfl ?_
              refine R.skip rfl rfl rfl ?_
              refine R.one rfl ?_
              refine W.det (.kb false) _ rfl ?_
              refine R.nil ?_
              refine seqK.n ?_
              refine A.condF rfl ?_
              refine A.skip ?_
              refine blockK.n ?_
              refine seqK.n ?_
              refine A.region ?_
              refine R.one rfl ?_
              refine W.det (.d (.v (.int .i64 s3))) _ rfl ?_
              refine R.one rfl ?_
              refine W.det (.d (.v (.int .i64 (IntKind.i64.wrap (s3 + (1 : Int)))))) _ rfl ?_
              refine R.one rfl ?_
              refine W.det (.d (.v (.int .i64 (IntKind.i64.wrap (s3 + (1 : Int)))))) _ rfl ?_
              refine R.nil ?_
              injection h with h
              subst h
              exact headK.n hG (Enters.of [] [] _ rfl rfl (chkE.c rfl rfl (chkE.c rfl rfl trivial)) trivial)
          · refine A.exit ?_
            refine seqK.e ?_
            refine headK.e ?_
            refine blockK.x ?_
            injection h with h
            subst h
            exact headK.n hG (Enters.of [] [] _ rfl rfl trivial trivial)
        · intro s2 r2 h hG
          refine A.seq rfl ?_
          refine A.region ?_
          refine R.one rfl ?_
          refine W.det (.kb true) _ rfl ?_
          refine R.nil ?_
          refine seqK.n ?_
          refine A.ret ?_
          injection h with h
          subst h
          cases hG
          exact ⟨rfl, trivial⟩
noncomputable def ref12_Right_L1 (p_ : api_Profile) (s6 : Int) : Option ((Int) ⊕ ((Unit) ⊕ (Bool))) :=
  (bif (decide (s6 < (p_.Types.length : Int))) then
    (getI p_.Types s6).bind fun x69 =>
    (ref11_Word x69).bind fun y70 =>
    (bif (!y70) then
      some (.inr (.inr false))
    else
      some (.inl (IntKind.i64.wrap (s6 + (1 : Int)))))
  else
    some (.inr (.inl ())))
noncomputable def ref12_Right (p_ : api_Profile) : Option (Bool) :=
  (seqF (A := Bool) (
    (bif (p_.Edit == (0 : Int)) then
      (ref12_within p_.Delete (0 : Int) (2 : Int)).bind fun y13 =>
      (bif y13 then
        (ref12_within p_.Thread (0 : Int) (2 : Int)).bind fun y14 =>
        (bif y14 then
          (ref12_within p_.Join (0 : Int) (2 : Int)).bind fun y15 =>
          (bif y15 then
            (ref12_within p_.History (0 : Int) (1 : Int)).bind fun y16 =>
            (bif y16 then
              (ref12_within p_.Remove (0 : Int) (1 : Int)).bind fun y17 =>
              (bif y17 then
                (ref12_within p_.Level (0 : Int) (4 : Int)).bind fun y18 =>
                some (.inl y18)
              else
                some (.inl false))
            else
              some (.inl false))
          else
            some (.inl false))
        else
          some (.inl false))
      else
        some (.inl false))
    else
      (bif (p_.Edit == (2 : Int)) then
        (ref12_within p_.Delete (0 : Int) (2 : Int)).bind fun y19 =>
        (bif y19 then
          (ref12_within p_.Thread (0 : Int) (2 : Int)).bind fun y20 =>
          (bif y20 then
            (ref12_within p_.Join (0 : Int) (2 : Int)).bind fun y21 =>
            (bif y21 then
              (ref12_within p_.History (0 : Int) (1 : Int)).bind fun y22 =>
              (bif y22 then
                (ref12_within p_.Remove (0 : Int) (1 : Int)).bind fun y23 =>
                (bif y23 then
                  (ref12_within p_.Level (0 : Int) (4 : Int)).bind fun y24 =>
                  some (.inl y24)
                else
                  some (.inl false))
              else
                some (.inl false))
            else
              some (.inl false))
          else
            some (.inl false))
        else
          some (.inl false))
      else
        some (.inl false))))
  fun s1 =>
    (seqF (A := Bool) (
      (ref12_within p_.Within (0 : Int) (1073741824 : Int)).bind fun y34 =>
      (bif y34 then
        (ref12_within p_.Size (0 : Int) (1073741824 : Int)).bind fun y35 =>
        (bif y35 then
          (ref12_within p_.Parts (0 : Int) (1073741824 : Int)).bind fun y36 =>
          (bif y36 then
            (ref12_within p_.Files (0 : Int) (1073741824 : Int)).bind fun y37 =>
            (bif y37 then
              (ref12_within p_.Bytes (0 : Int) (1073741824 : Int)).bind fun y38 =>
              (bif y38 then
                (ref12_within p_.Rate (0 : Int) (1073741824 : Int)).bind fun y39 =>
                (bif y39 then
                  (ref12_within p_.Down (0 : Int) (1073741824 : Int)).bind fun y40 =>
                  (bif y40 then
                    (ref12_within p_.Window (0 : Int) (1073741824 : Int)).bind fun y41 =>
                    (bif y41 then
                      (ref12_within p_.Keep (0 : Int) (1073741824 : Int)).bind fun y42 =>
                      some (.inl y42)
                    else
                      some (.inl false))
                  else
                    some (.inl false))
                else
                  some (.inl false))
              else
                some (.inl false))
            else
              some (.inl false))
          else
            some (.inl false))
        else
          some (.inl false))
      else
        some (.inl false)))
    fun s2 =>
      (seqF (A := Unit) (
        (bif (!s1) then
          some (.inr false)
        else
          (bif (!s2) then
            some (.inr false)
          else
            (ref11_Word p_.Name).bind fun y46 =>
            (bif (!y46) then
              some (.inr false)
            else
              (bif (p_.Edit == (0 : Int)) then
                (bif (p_.Within != (0 : Int)) then
                  some (.inr false)
                else
                  some (.inl ()))
              else
                some (.inl ()))))))
      fun s3 =>
        (bif (p_.Files == (0 : Int)) then
          (bif (p_.Bytes == (0 : Int)) then
            some ((p_.Types.length : Int) == (0 : Int))
          else
            some false)
        else
          (bif (decide ((p_.Types.length : Int) < (1 : Int))) then
            some false
          else
            (bif (decide ((20 : Int) < (p_.Types.length : Int))) then
              some false
            else
              (seqF (A := Unit) (
                loopF (ref12_Right_L1 p_) (0 : Int))
              fun s5 =>
                some true)))))))
theorem ref12_Right_fn {p_ : api_Profile} {r : Bool} (h : ref12_Right p_ = some r) : Fn Try.prog 51 [.agg [.d (.v (.string p_.Name)), .d (.v (.int .i64 p_.Edit)), .d (.v (.int .i64 p_.Within)), .d (.v (.int .i64 p_.Delete)), .d (.v (.bool p_.React)), .d (.v (.int .i64 p_.Thread)), .d (.v (.bool p_.Quote)), .d (.v (.bool p_.Mention)), .d (.v (.int .i64 p_.Size)), .d (.v (.int .i64 p_.Parts)), .d (.v (.int .i64 p_.Files)), .d (.v (.int .i64 p_.Bytes)), .d (.fz (List.map encS p_.Types)), .d (.v (.int .i64 p_.Join)), .d (.v (.int .i64 p_.History)), .d (.v (.int .i64 p_.Remove)), .d (.v (.int .i64 p_.Level)), .d (.v (.bool p_.Batch)), .d (.v (.int .i64 p_.Rate)), .d (.v (.int .i64 p_.Down)), .d (.v (.int .i64 p_.Window)), .d (.v (.int .i64 p_.Keep))]] (.d (.v (.bool r))) := by
  refine Fn.of_AW (F := FnX Try.prog) (base := 0) (js := [2, 3, 5, 14]) mixed tok noeqs (fun _ _ _ h => h) Try.call51 Try.func51 rfl Try.ntmps51 (by rw [Try.results51]) (by simp) ?_
  have hG : (fun x => x = r) r := rfl
  unfold ref12_Right at h
  refine A.seq rfl ?_
  refine A.region ?_
  refine R.one rfl ?_
  refine W.det (.lp 1 1 0) (Mem.add _ 1 (.box [.d (.v (.string p_.Name)), .d (.v (.int .i64 p_.Edit)), .d (.v (.int .i64 p_.Within)), .d (.v (.int .i64 p_.Delete)), .d (.v (.bool p_.React)), .d (.v (.int .i64 p_.Thread)), .d (.v (.bool p_.Quote)), .d (.v (.bool p_.Mention)), .d (.v (.int .i64 p_.Size)), .d (.v (.int .i64 p_.Parts)), .d (.v (.int .i64 p_.Files)), .d (.v (.int .i64 p_.Bytes)), .d (.fz (List.map encS p_.Types)), .d (.v (.int .i64 p_.Join)), .d (.v (.int .i64 p_.History)), .d (.v (.int .i64 p_.Remove)), .d (.v (.int .i64 p_.Level)), .d (.v (.bool p_.Batch)), .d (.v (.int .i64 p_.Rate)), .d (.v (.int .i64 p_.Down)), .d (.v (.int .i64 p_.Window)), .d (.v (.int .i64 p_.Keep))])) rfl ?_
  refine R.one rfl ?_
  refine W.det (.kb false) _ rfl ?_
  refine R.nil ?_
  refine seqK.n ?_
  refine A.join (fun (s1 : Bool) => [(1, .lp 900000 1 0), (3, .d (.v (.bool s1)))]) (fun s1 => [(900000, .box [.d (.v (.string p_.Name)), .d (.v (.int .i64 p_.Edit)), .d (.v (.int .i64 p_.Within)), .d (.v (.int .i64 p_.Delete)), .d (.v (.bool p_.React)), .d (.v (.int .i64 p_.Thread)), .d (.v (.bool p_.Quote)), .d (.v (.bool p_.Mention)), .d (.v (.int .i64 p_.Size)), .d (.v (.int .i64 p_.Parts)), .d (.v (.int .i64 p_.Files)), .d (.v (.int .i64 p_.Bytes)), .d (.fz (List.map encS p_.Types)), .d (.v (.int .i64 p_.Join)), .d (.v (.int .i64 p_.History)), .d (.v (.int .i64 p_.Remove)), .d (.v (.int .i64 p_.Level)), .d (.v (.bool p_.Batch)), .d (.v (.int .i64 p_.Rate)), .d (.v (.int .i64 p_.Down)), .d (.v (.int .i64 p_.Window)), .d (.v (.int .i64 p_.Keep))])]) _ h hG rfl ?_ ?_
  · intro J f h hG
    refine A.region ?_
    refine R.one rfl ?_
    refine W.det (.lp 1 1 1) _ rfl ?_
    refine R.one rfl ?_
    refine W.det (.d (.v (.int .i64 p_.Edit))) _ rfl ?_
    refine R.one rfl ?_
    refine W.det (.d (.v (.bool (p_.Edit == (0 : Int))))) _ rfl ?_
    refine R.one rfl ?_
    refine W.det (.d (.v (.bool (p_.Edit == (0 : Int))))) _ rfl ?_
    refine R.gF rfl rfl rfl h (fun _ h => ?_) (fun _ h => ?_)
    · refine R.skip rfl rfl rfl ?_
      refine R.skip rfl rfl rfl ?_
      refine R.one rfl ?_
      refine W.det (.kb true) _ rfl ?_
      refine R.one rfl ?_
      refine W.det (.kb true) _ rfl ?_
      refine R.run rfl rfl rfl ?_
      refine W.det (.lp 1 1 3) _ rfl ?_
      refine R.run rfl rfl rfl ?_
      refine W.det (.d (.v (.int .i64 p_.Delete))) _ rfl ?_
      refine R.run rfl rfl rfl ?_
      refine bindK h fun y13 hy13 h => ?_
      refine W.call rfl (ref12_within_fn hy13) ?_
      refine W.det (.d (.v (.bool y13))) _ rfl ?_
      refine R.one rfl ?_
      refine W.det (.d (.v (.bool y13))) _ rfl ?_
      refine R.one rfl ?_
      refine W.det (.d (.v (.bool y13))) _ rfl ?_
      refine R.gT rfl rfl rfl h (fun _ h => ?_) (fun _ h => ?_)
      · refine W.det (.lp 1 1 5) _ rfl ?_
        refine R.run rfl rfl rfl ?_
        refine W.det (.d (.v (.int .i64 p_.Thread))) _ rfl ?_
        refine R.run rfl rfl rfl ?_
        refine bindK h fun y14 hy14 h => ?_
        refine W.call rfl (ref12_within_fn hy14) ?_
        refine W.det (.d (.v (.bool y14))) _ rfl ?_
        refine R.one rfl ?_
        refine W.det (.d (.v (.bool y14))) _ rfl ?_
        refine R.one rfl ?_
        refine W.det (.d (.v (.bool y14))) _ rfl ?_
        refine R.gT rfl rfl rfl h (fun _ h => ?_) (fun _ h => ?_)
        · refine W.det (.lp 1 1 13) _ rfl ?_
          refine R.run rfl rfl rfl ?_
          refine W.det (.d (.v (.int .i64 p_.Join))) _ rfl ?_
          refine R.run rfl rfl rfl ?_
          refine bindK h fun y15 hy15 h => ?_
          refine W.call rfl (ref12_within_fn hy15) ?_
          refine W.det (.d (.v (.bool y15))) _ rfl ?_
          refine R.one rfl ?_
          refine W.det (.d (.v (.bool y15))) _ rfl ?_
          refine R.one rfl ?_
          refine W.det (.d (.v (.bool y15))) _ rfl ?_
          refine R.gT rfl rfl rfl h (fun _ h => ?_) (fun _ h => ?_)
          · refine W.det (.lp 1 1 14) _ rfl ?_
            refine R.run rfl rfl rfl ?_
            refine W.det (.d (.v (.int .i64 p_.History))) _ rfl ?_
            refine R.run rfl rfl rfl ?_
            refine bindK h fun y16 hy16 h => ?_
            refine W.call rfl (ref12_within_fn hy16) ?_
            refine W.det (.d (.v (.bool y16))) _ rfl ?_
            refine R.one rfl ?_
            refine W.det (.d (.v (.bool y16))) _ rfl ?_
            refine R.one rfl ?_
            refine W.det (.d (.v (.bool y16))) _ rfl ?_
            refine R.gT rfl rfl rfl h (fun _ h => ?_) (fun _ h => ?_)
            · refine W.det (.lp 1 1 15) _ rfl ?_
              refine R.run rfl rfl rfl ?_
              refine W.det (.d (.v (.int .i64 p_.Remove))) _ rfl ?_
              refine R.run rfl rfl rfl ?_
              refine bindK h fun y17 hy17 h => ?_
              refine W.call rfl (ref12_within_fn hy17) ?_
              refine W.det (.d (.v (.bool y17))) _ rfl ?_
              refine R.one rfl ?_
              refine W.det (.d (.v (.bool y17))) _ rfl ?_
              refine R.one rfl ?_
              refine W.det (.d (.v (.bool y17))) _ rfl ?_
              refine R.gT rfl rfl rfl h (fun _ h => ?_) (fun _ h => ?_)
              · refine W.det (.lp 1 1 16) _ rfl ?_
                refine R.run rfl rfl rfl ?_
                refine W.det (.d (.v (.int .i64 p_.Level))) _ rfl ?_
                refine R.run rfl rfl rfl ?_
                refine bindK h fun y18 hy18 h => ?_
                refine W.call rfl (ref12_within_fn hy18) ?_
                refine W.det (.d (.v (.bool y18))) _ rfl ?_
                refine R.one rfl ?_
                refine W.det (.d (.v (.bool y18))) _ rfl ?_
                refine R.one rfl ?_
                refine W.det (.d (.v (.bool y18))) _ rfl ?_
                refine R.nil ?_
                injection h with h
                subst h
                exact headK.n hG (Enters.of [] [(900000, (1, 1))] _ rfl rfl (chkE.c rfl rfl (chkE.c rfl rfl trivial)) (chkM.c rfl rfl trivial))
              · refine R.skip rfl rfl rfl ?_
                refine R.skip rfl rfl rfl ?_
                refine R.one rfl ?_
                refine W.det (.kb false) _ rfl ?_
                refine R.one rfl ?_
                refine W.det (.kb false) _ rfl ?_
                refine R.nil ?_
                injection h with h
                subst h
                exact headK.n hG (Enters.of [] [(900000, (1, 1))] _ rfl rfl (chkE.c rfl rfl (chkE.c rfl rfl trivial)) (chkM.c rfl rfl trivial))
            · refine R.skip rfl rfl rfl ?_
              refine R.skip rfl rfl rfl ?_
              refine R.one rfl ?_
              refine W.det (.kb false) _ rfl ?_
              refine R.one rfl ?_
              refine W.det (.kb false) _ rfl ?_
              refine R.skip rfl rfl rfl ?_
              refine R.skip rfl rfl rfl ?_
              refine R.skip rfl rfl rfl ?_
              refine R.one rfl ?_
              refine W.det (.kb false) _ rfl ?_
              refine R.one rfl ?_
              refine W.det (.kb false) _ rfl ?_
              refine R.nil ?_
              injection h with h
              subst h
              exact headK.n hG (Enters.of [] [(900000, (1, 1))] _ rfl rfl (chkE.c rfl rfl (chkE.c rfl rfl trivial)) (chkM.c rfl rfl trivial))
          · refine R.skip rfl rfl rfl ?_
            refine R.skip rfl rfl rfl ?_
            refine R.one rfl ?_
            refine W.det (.kb false) _ rfl ?_
            refine R.one rfl ?_
            refine W.det (.kb false) _ rfl ?_
            refine R.skip rfl rfl rfl ?_
            refine R.skip rfl rfl rfl ?_
            refine R.skip rfl rfl rfl ?_
            refine R.one rfl ?_
            refine W.det (.kb false) _ rfl ?_
            refine R.one rfl ?_
            refine W.det (.kb false) _ rfl ?_
            refine R.skip rfl rfl rfl ?_
            refine R.skip rfl rfl rfl ?_
            refine R.skip rfl rfl rfl ?_
            refine R.one rfl ?_
            refine W.det (.kb false) _ rfl ?_
            refine R.one rfl ?_
            refine W.det (.kb false) _ rfl ?_
            refine R.nil ?_
            injection h with h
            subst h
            exact headK.n hG (Enters.of [] [(900000, (1, 1))] _ rfl rfl (chkE.c rfl rfl (chkE.c rfl rfl trivial)) (chkM.c rfl rfl trivial))
        · refine R.skip rfl rfl rfl ?_
          refine R.skip rfl rfl rfl ?_
          refine R.one rfl ?_
          refine W.det (.kb false) _ rfl ?_
          refine R.one rfl ?_
          refine W.det (.kb false) _ rfl ?_
          refine R.skip rfl rfl rfl ?_
          refine R.skip rfl rfl rfl ?_
          refine R.skip rfl rfl rfl ?_
          refine R.one rfl ?_
          refine W.det (.kb false) _ rfl ?_
          refine R.one rfl ?_
          refine W.det (.kb false) _ rfl ?_
          refine R.skip rfl rfl rfl ?_
          refine R.skip rfl rfl rfl ?_
          refine R.skip rfl rfl rfl ?_
          refine R.one rfl ?_
          refine W.det (.kb false) _ rfl ?_
          refine R.one rfl ?_
          refine W.det (.kb false) _ rfl ?_
          refine R.skip rfl rfl rfl ?_
          refine R.skip rfl rfl rfl ?_
          refine R.skip rfl rfl rfl ?_
          refine R.one rfl ?_
          refine W.det (.kb false) _ rfl ?_
          refine R.one rfl ?_
          refine W.det (.kb false) _ rfl ?_
          refine R.nil ?_
          injection h with h
          subst h
          exact headK.n hG (Enters.of [] [(900000, (1, 1))] _ rfl rfl (chkE.c rfl rfl (chkE.c rfl rfl trivial)) (chkM.c rfl rfl trivial))
      · refine R.skip rfl rfl rfl ?_
        refine R.skip rfl rfl rfl ?_
        refine R.one rfl ?_
        refine W.det (.kb false) _ rfl ?_
        refine R.one rfl ?_
        refine W.det (.kb false) _ rfl ?_
        refine R.skip rfl rfl rfl ?_
        refine R.skip rfl rfl rfl ?_
        refine R.skip rfl rfl rfl ?_
        refine R.one rfl ?_
        refine W.det (.kb false) _ rfl ?_
        refine R.one rfl ?_
        refine W.det (.kb false) _ rfl ?_
        refine R.skip rfl rfl rfl ?_
        refine R.skip rfl rfl rfl ?_
        refine R.skip rfl rfl rfl ?_
        refine R.one rfl ?_
        refine W.det (.kb false) _ rfl ?_
        refine R.one rfl ?_
        refine W.det (.kb false) _ rfl ?_
        refine R.skip rfl rfl rfl ?_
        refine R.skip rfl rfl rfl ?_
        refine R.skip rfl rfl rfl ?_
        refine R.one rfl ?_
        refine W.det (.kb false) _ rfl ?_
        refine R.one rfl ?_
        refine W.det (.kb false) _ rfl ?_
        refine R.skip rfl rfl rfl ?_
        refine R.skip rfl rfl rfl ?_
        refine R.skip rfl rfl rfl ?_
        refine R.one rfl ?_
        refine W.det (.kb false) _ rfl ?_
        refine R.one rfl ?_
        refine W.det (.kb false) _ rfl ?_
        refine R.nil ?_
        injection h with h
        subst h
        exact headK.n hG (Enters.of [] [(900000, (1, 1))] _ rfl rfl (chkE.c rfl rfl (chkE.c rfl rfl trivial)) (chkM.c rfl rfl trivial))
    · refine W.det (.lp 1 1 1) _ rfl ?_
      refine R.run rfl rfl rfl ?_
      refine W.det (.d (.v (.int .i64 p_.Edit))) _ rfl ?_
      refine R.run rfl rfl rfl ?_
      refine W.det (.d (.v (.bool (p_.Edit == (2 : Int))))) _ rfl ?_
      refine R.one rfl ?_
      refine W.det (.d (.v (.bool (p_.Edit == (2 : Int))))) _ rfl ?_
      refine R.one rfl ?_
      refine W.det (.d (.v (.bool (p_.Edit == (2 : Int))))) _ rfl ?_
      refine R.gT rfl rfl rfl h (fun _ h => ?_) (fun _ h => ?_)
      · refine W.det (.lp 1 1 3) _ rfl ?_
        refine R.run rfl rfl rfl ?_
        refine W.det (.d (.v (.int .i64 p_.Delete))) _ rfl ?_
        refine R.run rfl rfl rfl ?_
        refine bindK h fun y19 hy19 h => ?_
        refine W.call rfl (ref12_within_fn hy19) ?_
        refine W.det (.d (.v (.bool y19))) _ rfl ?_
        refine R.one rfl ?_
        refine W.det (.d (.v (.bool y19))) _ rfl ?_
        refine R.one rfl ?_
        refine W.det (.d (.v (.bool y19))) _ rfl ?_
        refine R.gT rfl rfl rfl h (fun _ h => ?_) (fun _ h => ?_)
        · refine W.det (.lp 1 1 5) _ rfl ?_
          refine R.run rfl rfl rfl ?_
          refine W.det (.d (.v (.int .i64 p_.Thread))) _ rfl ?_
          refine R.run rfl rfl rfl ?_
          refine bindK h fun y20 hy20 h => ?_
          refine W.call rfl (ref12_within_fn hy20) ?_
          refine W.det (.d (.v (.bool y20))) _ rfl ?_
          refine R.one rfl ?_
          refine W.det (.d (.v (.bool y20))) _ rfl ?_
          refine R.one rfl ?_
          refine W.det (.d (.v (.bool y20))) _ rfl ?_
          refine R.gT rfl rfl rfl h (fun _ h => ?_) (fun _ h => ?_)
          · refine W.det (.lp 1 1 13) _ rfl ?_
            refine R.run rfl rfl rfl ?_
            refine W.det (.d (.v (.int .i64 p_.Join))) _ rfl ?_
            refine R.run rfl rfl rfl ?_
            refine bindK h fun y21 hy21 h => ?_
            refine W.call rfl (ref12_within_fn hy21) ?_
            refine W.det (.d (.v (.bool y21))) _ rfl ?_
            refine R.one rfl ?_
            refine W.det (.d (.v (.bool y21))) _ rfl ?_
            refine R.one rfl ?_
            refine W.det (.d (.v (.bool y21))) _ rfl ?_
            refine R.gT rfl rfl rfl h (fun _ h => ?_) (fun _ h => ?_)
            · refine W.det (.lp 1 1 14) _ rfl ?_
              refine R.run rfl rfl rfl ?_
              refine W.det (.d (.v (.int .i64 p_.History))) _ rfl ?_
              refine R.run rfl rfl rfl ?_
              refine bindK h fun y22 hy22 h => ?_
              refine W.call rfl (ref12_within_fn hy22) ?_
              refine W.det (.d (.v (.bool y22))) _ rfl ?_
              refine R.one rfl ?_
              refine W.det (.d (.v (.bool y22))) _ rfl ?_
              refine R.one rfl ?_
              refine W.det (.d (.v (.bool y22))) _ rfl ?_
              refine R.gT rfl rfl rfl h (fun _ h => ?_) (fun _ h => ?_)
              · refine W.det (.lp 1 1 15) _ rfl ?_
                refine R.run rfl rfl rfl ?_
                refine W.det (.d (.v (.int .i64 p_.Remove))) _ rfl ?_
                refine R.run rfl rfl rfl ?_
                refine bindK h fun y23 hy23 h => ?_
                refine W.call rfl (ref12_within_fn hy23) ?_
                refine W.det (.d (.v (.bool y23))) _ rfl ?_
                refine R.one rfl ?_
                refine W.det (.d (.v (.bool y23))) _ rfl ?_
                refine R.one rfl ?_
                refine W.det (.d (.v (.bool y23))) _ rfl ?_
                refine R.gT rfl rfl rfl h (fun _ h => ?_) (fun _ h => ?_)
                · refine W.det (.lp 1 1 16) _ rfl ?_
                  refine R.run rfl rfl rfl ?_
                  refine W.det (.d (.v (.int .i64 p_.Level))) _ rfl ?_
                  refine R.run rfl rfl rfl ?_
                  refine bindK h fun y24 hy24 h => ?_
                  refine W.call rfl (ref12_within_fn hy24) ?_
                  refine W.det (.d (.v (.bool y24))) _ rfl ?_
                  refine R.one rfl ?_
                  refine W.det (.d (.v (.bool y24))) _ rfl ?_
                  refine R.one rfl ?_
                  refine W.det (.d (.v (.bool y24))) _ rfl ?_
                  refine R.nil ?_
                  injection h with h
                  subst h
                  exact headK.n hG (Enters.of [] [(900000, (1, 1))] _ rfl rfl (chkE.c rfl rfl (chkE.c rfl rfl trivial)) (chkM.c rfl rfl trivial))
                · refine R.skip rfl rfl rfl ?_
                  refine R.skip rfl rfl rfl ?_
                  refine R.one rfl ?_
                  refine W.det (.kb false) _ rfl ?_
                  refine R.one rfl ?_
                  refine W.det (.kb false) _ rfl ?_
                  refine R.nil ?_
                  injection h with h
                  subst h
                  exact headK.n hG (Enters.of [] [(900000, (1, 1))] _ rfl rfl (chkE.c rfl rfl (chkE.c rfl rfl trivial)) (chkM.c rfl rfl trivial))
              · refine R.skip rfl rfl rfl ?_
                refine R.skip rfl rfl rfl ?_
                refine R.one rfl ?_
                refine W.det (.kb false) _ rfl ?_
                refine R.one rfl ?_
                refine W.det (.kb false) _ rfl ?_
                refine R.skip rfl rfl rfl ?_
                refine R.skip rfl rfl rfl ?_
                refine R.skip rfl rfl rfl ?_
                refine R.one rfl ?_
                refine W.det (.kb false) _ rfl ?_
                refine R.one rfl ?_
                refine W.det (.kb false) _ rfl ?_
                refine R.nil ?_
                injection h with h
                subst h
                exact headK.n hG (Enters.of [] [(900000, (1, 1))] _ rfl rfl (chkE.c rfl rfl (chkE.c rfl rfl trivial)) (chkM.c rfl rfl trivial))
            · refine R.skip rfl rfl rfl ?_
              refine R.skip rfl rfl rfl ?_
              refine R.one rfl ?_
              refine W.det (.kb false) _ rfl ?_
              refine R.one rfl ?_
              refine W.det (.kb false) _ rfl ?_
              refine R.skip rfl rfl rfl ?_
              refine R.skip rfl rfl rfl ?_
              refine R.skip rfl rfl rfl ?_
              refine R.one rfl ?_
              refine W.det (.kb false) _ rfl ?_
              refine R.one rfl ?_
              refine W.det (.kb false) _ rfl ?_
              refine R.skip rfl rfl rfl ?_
              refine R.skip rfl rfl rfl ?_
              refine R.skip rfl rfl rfl ?_
              refine R.one rfl ?_
              refine W.det (.kb false) _ rfl ?_
              refine R.one rfl ?_
              refine W.det (.kb false) _ rfl ?_
              refine R.nil ?_
              injection h with h
              subst h
              exact headK.n hG (Enters.of [] [(900000, (1, 1))] _ rfl rfl (chkE.c rfl rfl (chkE.c rfl rfl trivial)) (chkM.c rfl rfl trivial))
          · refine R.skip rfl rfl rfl ?_
            refine R.skip rfl rfl rfl ?_
            refine R.one rfl ?_
            refine W.det (.kb false) _ rfl ?_
            refine R.one rfl ?_
            refine W.det (.kb false) _ rfl ?_
            refine R.skip rfl rfl rfl ?_
            refine R.skip rfl rfl rfl ?_
            refine R.skip rfl rfl rfl ?_
            refine R.one rfl ?_
            refine W.det (.kb false) _ rfl ?_
            refine R.one rfl ?_
            refine W.det (.kb false) _ rfl ?_
            refine R.skip rfl rfl rfl ?_
            refine R.skip rfl rfl rfl ?_
            refine R.skip rfl rfl rfl ?_
            refine R.one rfl ?_
            refine W.det (.kb false) _ rfl ?_
            refine R.one rfl ?_
            refine W.det (.kb false) _ rfl ?_
            refine R.skip rfl rfl rfl ?_
            refine R.skip rfl rfl rfl ?_
            refine R.skip rfl rfl rfl ?_
            refine R.one rfl ?_
            refine W.det (.kb false) _ rfl ?_
            refine R.one rfl ?_
            refine W.det (.kb false) _ rfl ?_
            refine R.nil ?_
            injection h with h
            subst h
            exact headK.n hG (Enters.of [] [(900000, (1, 1))] _ rfl rfl (chkE.c rfl rfl (chkE.c rfl rfl trivial)) (chkM.c rfl rfl trivial))
        · refine R.skip rfl rfl rfl ?_
          refine R.skip rfl rfl rfl ?_
          refine R.one rfl ?_
          refine W.det (.kb false) _ rfl ?_
          refine R.one rfl ?_
          refine W.det (.kb false) _ rfl ?_
          refine R.skip rfl rfl rfl ?_
          refine R.skip rfl rfl rfl ?_
          refine R.skip rfl rfl rfl ?_
          refine R.one rfl ?_
          refine W.det (.kb false) _ rfl ?_
          refine R.one rfl ?_
          refine W.det (.kb false) _ rfl ?_
          refine R.skip rfl rfl rfl ?_
          refine R.skip rfl rfl rfl ?_
          refine R.skip rfl rfl rfl ?_
          refine R.one rfl ?_
          refine W.det (.kb false) _ rfl ?_
          refine R.one rfl ?_
          refine W.det (.kb false) _ rfl ?_
          refine R.skip rfl rfl rfl ?_
          refine R.skip rfl rfl rfl ?_
          refine R.skip rfl rfl rfl ?_
          refine R.one rfl ?_
          refine W.det (.kb false) _ rfl ?_
          refine R.one rfl ?_
          refine W.det (.kb false) _ rfl ?_
          refine R.skip rfl rfl rfl ?_
          refine R.skip rfl rfl rfl ?_
          refine R.skip rfl rfl rfl ?_
          refine R.one rfl ?_
          refine W.det (.kb false) _ rfl ?_
          refine R.one rfl ?_
          refine W.det (.kb false) _ rfl ?_
          refine R.nil ?_
          injection h with h
          subst h
          exact headK.n hG (Enters.of [] [(900000, (1, 1))] _ rfl rfl (chkE.c rfl rfl (chkE.c rfl rfl trivial)) (chkM.c rfl rfl trivial))
      · refine R.skip rfl rfl rfl ?_
        refine R.skip rfl rfl rfl ?_
        refine R.one rfl ?_
        refine W.det (.kb false) _ rfl ?_
        refine R.one rfl ?_
        refine W.det (.kb false) _ rfl ?_
        refine R.skip rfl rfl rfl ?_
        refine R.skip rfl rfl rfl ?_
        refine R.skip rfl rfl rfl ?_
        refine R.one rfl ?_
        refine W.det (.kb false) _ rfl ?_
        refine R.one rfl ?_
        refine W.det (.kb false) _ rfl ?_
        refine R.skip rfl rfl rfl ?_
        refine R.skip rfl rfl rfl ?_
        refine R.skip rfl rfl rfl ?_
        refine R.one rfl ?_
        refine W.det (.kb false) _ rfl ?_
        refine R.one rfl ?_
        refine W.det (.kb false) _ rfl ?_
        refine R.skip rfl rfl rfl ?_
        refine R.skip rfl rfl rfl ?_
        refine R.skip rfl rfl rfl ?_
        refine R.one rfl ?_
        refine W.det (.kb false) _ rfl ?_
        refine R.one rfl ?_
        refine W.det (.kb false) _ rfl ?_
        refine R.skip rfl rfl rfl ?_
        refine R.skip rfl rfl rfl ?_
        refine R.skip rfl rfl rfl ?_
        refine R.one rfl ?_
        refine W.det (.kb false) _ rfl ?_
        refine R.one rfl ?_
        refine W.det (.kb false) _ rfl ?_
        refine R.skip rfl rfl rfl ?_
        refine R.skip rfl rfl rfl ?_
        refine R.skip rfl rfl rfl ?_
        refine R.one rfl ?_
        refine W.det (.kb false) _ rfl ?_
        refine R.one rfl ?_
        refine W.det (.kb false) _ rfl ?_
        refine R.nil ?_
        injection h with h
        subst h
        exact headK.n hG (Enters.of [] [(900000, (1, 1))] _ rfl rfl (chkE.c rfl rfl (chkE.c rfl rfl trivial)) (chkM.c rfl rfl trivial))
  · intro s1 r2 h hG
    refine A.join (fun (s2 : Bool) => [(1, .lp 900000 1 0), (3, .d (.v (.bool s1))), (4, .d (.v (.bool s2)))]) (fun s2 => [(900000, .box [.d (.v (.string p_.Name)), .d (.v (.int .i64 p_.Edit)), .d (.v (.int .i64 p_.Within)), .d (.v (.int .i64 p_.Delete)), .d (.v (.bool p_.React)), .d (.v (.int .i64 p_.Thread)), .d (.v (.bool p_.Quote)), .d (.v (.bool p_.Mention)), .d (.v (.int .i64 p_.Size)), .d (.v (.int .i64 p_.Parts)), .d (.v (.int .i64 p_.Files)), .d (.v (.int .i64 p_.Bytes)), .d (.fz (List.map encS p_.Types)), .d (.v (.int .i64 p_.Join)), .d (.v (.int .i64 p_.History)), .d (.v (.int .i64 p_.Remove)), .d (.v (.int .i64 p_.Level)), .d (.v (.bool p_.Batch)), .d (.v (.int .i64 p_.Rate)), .d (.v (.int .i64 p_.Down)), .d (.v (.int .i64 p_.Window)), .d (.v (.int .i64 p_.Keep))])]) _ h hG rfl ?_ ?_
    · intro J f h hG
      refine A.region ?_
      refine R.one rfl ?_
      refine W.det (.lp 900000 1 2) _ rfl ?_
      refine R.one rfl ?_
      refine W.det (.d (.v (.int .i64 p_.Within))) _ rfl ?_
      refine R.one rfl ?_
      refine bindK h fun y34 hy34 h => ?_
      refine W.call rfl (ref12_within_fn hy34) ?_
      refine W.det (.d (.v (.bool y34))) _ rfl ?_
      refine R.one rfl ?_
      refine W.det (.d (.v (.bool y34))) _ rfl ?_
      refine R.gT rfl rfl rfl h (fun _ h => ?_) (fun _ h => ?_)
      · refine W.det (.lp 900000 1 8) _ rfl ?_
        refine R.run rfl rfl rfl ?_
        refine W.det (.d (.v (.int .i64 p_.Size))) _ rfl ?_
        refine R.run rfl rfl rfl ?_
        refine bindK h fun y35 hy35 h => ?_
        refine W.call rfl (ref12_within_fn hy35) ?_
        refine W.det (.d (.v (.bool y35))) _ rfl ?_
        refine R.one rfl ?_
        refine W.det (.d (.v (.bool y35))) _ rfl ?_
        refine R.one rfl ?_
        refine W.det (.d (.v (.bool y35))) _ rfl ?_
        refine R.gT rfl rfl rfl h (fun _ h => ?_) (fun _ h => ?_)
        · refine W.det (.lp 900000 1 9) _ rfl ?_
          refine R.run rfl rfl rfl ?_
          refine W.det (.d (.v (.int .i64 p_.Parts))) _ rfl ?_
          refine R.run rfl rfl rfl ?_
          refine bindK h fun y36 hy36 h => ?_
          refine W.call rfl (ref12_within_fn hy36) ?_
          refine W.det (.d (.v (.bool y36))) _ rfl ?_
          refine R.one rfl ?_
          refine W.det (.d (.v (.bool y36))) _ rfl ?_
          refine R.one rfl ?_
          refine W.det (.d (.v (.bool y36))) _ rfl ?_
          refine R.gT rfl rfl rfl h (fun _ h => ?_) (fun _ h => ?_)
          · refine W.det (.lp 900000 1 10) _ rfl ?_
            refine R.run rfl rfl rfl ?_
            refine W.det (.d (.v (.int .i64 p_.Files))) _ rfl ?_
            refine R.run rfl rfl rfl ?_
            refine bindK h fun y37 hy37 h => ?_
            refine W.call rfl (ref12_within_fn hy37) ?_
            refine W.det (.d (.v (.bool y37))) _ rfl ?_
            refine R.one rfl ?_
            refine W.det (.d (.v (.bool y37))) _ rfl ?_
            refine R.one rfl ?_
            refine W.det (.d (.v (.bool y37))) _ rfl ?_
            refine R.gT rfl rfl rfl h (fun _ h => ?_) (fun _ h => ?_)
            · refine W.det (.lp 900000 1 11) _ rfl ?_
              refine R.run rfl rfl rfl ?_
              refine W.det (.d (.v (.int .i64 p_.Bytes))) _ rfl ?_
              refine R.run rfl rfl rfl ?_
              refine bindK h fun y38 hy38 h => ?_
              refine W.call rfl (ref12_within_fn hy38) ?_
              refine W.det (.d (.v (.bool y38))) _ rfl ?_
              refine R.one rfl ?_
              refine W.det (.d (.v (.bool y38))) _ rfl ?_
              refine R.one rfl ?_
              refine W.det (.d (.v (.bool y38))) _ rfl ?_
              refine R.gT rfl rfl rfl h (fun _ h => ?_) (fun _ h => ?_)
              · refine W.det (.lp 900000 1 18) _ rfl ?_
                refine R.run rfl rfl rfl ?_
                refine W.det (.d (.v (.int .i64 p_.Rate))) _ rfl ?_
                refine R.run rfl rfl rfl ?_
                refine bindK h fun y39 hy39 h => ?_
                refine W.call rfl (ref12_within_fn hy39) ?_
                refine W.det (.d (.v (.bool y39))) _ rfl ?_
                refine R.one rfl ?_
                refine W.det (.d (.v (.bool y39))) _ rfl ?_
                refine R.one rfl ?_
                refine W.det (.d (.v (.bool y39))) _ rfl ?_
                refine R.gT rfl rfl rfl h (fun _ h => ?_) (fun _ h => ?_)
                · refine W.det (.lp 900000 1 19) _ rfl ?_
                  refine R.run rfl rfl rfl ?_
                  refine W.det (.d (.v (.int .i64 p_.Down))) _ rfl ?_
                  refine R.run rfl rfl rfl ?_
                  refine bindK h fun y40 hy40 h => ?_
                  refine W.call rfl (ref12_within_fn hy40) ?_
                  refine W.det (.d (.v (.bool y40))) _ rfl ?_
                  refine R.one rfl ?_
                  refine W.det (.d (.v (.bool y40))) _ rfl ?_
                  refine R.one rfl ?_
                  refine W.det (.d (.v (.bool y40))) _ rfl ?_
                  refine R.gT rfl rfl rfl h (fun _ h => ?_) (fun _ h => ?_)
                  · refine W.det (.lp 900000 1 20) _ rfl ?_
                    refine R.run rfl rfl rfl ?_
                    refine W.det (.d (.v (.int .i64 p_.Window))) _ rfl ?_
                    refine R.run rfl rfl rfl ?_
                    refine bindK h fun y41 hy41 h => ?_
                    refine W.call rfl (ref12_within_fn hy41) ?_
                    refine W.det (.d (.v (.bool y41))) _ rfl ?_
                    refine R.one rfl ?_
                    refine W.det (.d (.v (.bool y41))) _ rfl ?_
                    refine R.one rfl ?_
                    refine W.det (.d (.v (.bool y41))) _ rfl ?_
                    refine R.gT rfl rfl rfl h (fun _ h => ?_) (fun _ h => ?_)
                    · refine W.det (.lp 900000 1 21) _ rfl ?_
                      refine R.run rfl rfl rfl ?_
                      refine W.det (.d (.v (.int .i64 p_.Keep))) _ rfl ?_
                      refine R.run rfl rfl rfl ?_
                      refine bindK h fun y42 hy42 h => ?_
                      refine W.call rfl (ref12_within_fn hy42) ?_
                      refine W.det (.d (.v (.bool y42))) _ rfl ?_
                      refine R.one rfl ?_
                      refine W.det (.d (.v (.bool y42))) _ rfl ?_
                      refine R.one rfl ?_
                      refine W.det (.d (.v (.bool y42))) _ rfl ?_
                      refine R.nil ?_
                      injection h with h
                      subst h
                      exact headK.n hG (Enters.of [] [(900000, (900000, 1))] _ rfl rfl (chkE.c rfl rfl (chkE.c rfl rfl (chkE.c rfl rfl trivial))) (chkM.c rfl rfl trivial))
                    · refine R.skip rfl rfl rfl ?_
                      refine R.skip rfl rfl rfl ?_
                      refine R.one rfl ?_
                      refine W.det (.kb false) _ rfl ?_
                      refine R.one rfl ?_
                      refine W.det (.kb false) _ rfl ?_
                      refine R.nil ?_
                      injection h with h
                      subst h
                      exact headK.n hG (Enters.of [] [(900000, (900000, 1))] _ rfl rfl (chkE.c rfl rfl (chkE.c rfl rfl (chkE.c rfl rfl trivial))) (chkM.c rfl rfl trivial))
                  · refine R.skip rfl rfl rfl ?_
                    refine R.skip rfl rfl rfl ?_
                    refine R.one rfl ?_
                    refine W.det (.kb false) _ rfl ?_
                    refine R.one rfl ?_
                    refine W.det (.kb false) _ rfl ?_
                    refine R.skip rfl rfl rfl ?_
                    refine R.skip rfl rfl rfl ?_
                    refine R.skip rfl rfl rfl ?_
                    refine R.one rfl ?_
                    refine W.det (.kb false) _ rfl ?_
                    refine R.one rfl ?_
                    refine W.det (.kb false) _ rfl ?_
                    refine R.nil ?_
                    injection h with h
                    subst h
                    exact headK.n hG (Enters.of [] [(900000, (900000, 1))] _ rfl rfl (chkE.c rfl rfl (chkE.c rfl rfl (chkE.c rfl rfl trivial))) (chkM.c rfl rfl trivial))
                · refine R.skip rfl rfl rfl ?_
                  refine R.skip rfl rfl rfl ?_
                  refine R.one rfl ?_
                  refine W.det (.kb false) _ rfl ?_
                  refine R.one rfl ?_
                  refine W.det (.kb false) _ rfl ?_
                  refine R.skip rfl rfl rfl ?_
                  refine R.skip rfl rfl rfl ?_
                  refine R.skip rfl rfl rfl ?_
                  refine R.one rfl ?_
                  refine W.det (.kb false) _ rfl ?_
                  refine R.one rfl ?_
                  refine W.det (.kb false) _ rfl ?_
                  refine R.skip rfl rfl rfl ?_
                  refine R.skip rfl rfl rfl ?_
                  refine R.skip rfl rfl rfl ?_
                  refine R.one rfl ?_
                  refine W.det (.kb false) _ rfl ?_
                  refine R.one rfl ?_
                  refine W.det (.kb false) _ rfl ?_
                  refine R.nil ?_
                  injection h with h
                  subst h
                  exact headK.n hG (Enters.of [] [(900000, (900000, 1))] _ rfl rfl (chkE.c rfl rfl (chkE.c rfl rfl (chkE.c rfl rfl trivial))) (chkM.c rfl rfl trivial))
              · refine R.skip rfl rfl rfl ?_
                refine R.skip rfl rfl rfl ?_
                refine R.one rfl ?_
                refine W.det (.kb false) _ rfl ?_
                refine R.one rfl ?_
                refine W.det (.kb false) _ rfl ?_
                refine R.skip rfl rfl rfl ?_
                refine R.skip rfl rfl rfl ?_
                refine R.skip rfl rfl rfl ?_
                refine R.one rfl ?_
                refine W.det (.kb false) _ rfl ?_
                refine R.one rfl ?_
                refine W.det (.kb false) _ rfl ?_
                refine R.skip rfl rfl rfl ?_
                refine R.skip rfl rfl rfl ?_
                refine R.skip rfl rfl rfl ?_
                refine R.one rfl ?_
                refine W.det (.kb false) _ rfl ?_
                refine R.one rfl ?_
                refine W.det (.kb false) _ rfl ?_
                refine R.skip rfl rfl rfl ?_
                refine R.skip rfl rfl rfl ?_
                refine R.skip rfl rfl rfl ?_
                refine R.one rfl ?_
                refine W.det (.kb false) _ rfl ?_
                refine R.one rfl ?_
                refine W.det (.kb false) _ rfl ?_
                refine R.nil ?_
                injection h with h
                subst h
                exact headK.n hG (Enters.of [] [(900000, (900000, 1))] _ rfl rfl (chkE.c rfl rfl (chkE.c rfl rfl (chkE.c rfl rfl trivial))) (chkM.c rfl rfl trivial))
            · refine R.skip rfl rfl rfl ?_
              refine R.skip rfl rfl rfl ?_
              refine R.one rfl ?_
              refine W.det (.kb false) _ rfl ?_
              refine R.one rfl ?_
              refine W.det (.kb false) _ rfl ?_
              refine R.skip rfl rfl rfl ?_
              refine R.skip rfl rfl rfl ?_
              refine R.skip rfl rfl rfl ?_
              refine R.one rfl ?_
              refine W.det (.kb false) _ rfl ?_
              refine R.one rfl ?_
              refine W.det (.kb false) _ rfl ?_
              refine R.skip rfl rfl rfl ?_
              refine R.skip rfl rfl rfl ?_
              refine R.skip rfl rfl rfl ?_
              refine R.one rfl ?_
              refine W.det (.kb false) _ rfl ?_
              refine R.one rfl ?_
              refine W.det (.kb false) _ rfl ?_
              refine R.skip rfl rfl rfl ?_
              refine R.skip rfl rfl rfl ?_
              refine R.skip rfl rfl rfl ?_
              refine R.one rfl ?_
              refine W.det (.kb false) _ rfl ?_
              refine R.one rfl ?_
              refine W.det (.kb false) _ rfl ?_
              refine R.skip rfl rfl rfl ?_
              refine R.skip rfl rfl rfl ?_
              refine R.skip rfl rfl rfl ?_
              refine R.one rfl ?_
              refine W.det (.kb false) _ rfl ?_
              refine R.one rfl ?_
              refine W.det (.kb false) _ rfl ?_
              refine R.nil ?_
              injection h with h
              subst h
              exact headK.n hG (Enters.of [] [(900000, (900000, 1))] _ rfl rfl (chkE.c rfl rfl (chkE.c rfl rfl (chkE.c rfl rfl trivial))) (chkM.c rfl rfl trivial))
          · refine R.skip rfl rfl rfl ?_
            refine R.skip rfl rfl rfl ?_
            refine R.one rfl ?_
            refine W.det (.kb false) _ rfl ?_
            refine R.one rfl ?_
            refine W.det (.kb false) _ rfl ?_
            refine R.skip rfl rfl rfl ?_
            refine R.skip rfl rfl rfl ?_
            refine R.skip rfl rfl rfl ?_
            refine R.one rfl ?_
            refine W.det (.kb false) _ rfl ?_
            refine R.one rfl ?_
            refine W.det (.kb false) _ rfl ?_
            refine R.skip rfl rfl rfl ?_
            refine R.skip rfl rfl rfl ?_
            refine R.skip rfl rfl rfl ?_
            refine R.one rfl ?_
            refine W.det (.kb false) _ rfl ?_
            refine R.one rfl ?_
            refine W.det (.kb false) _ rfl ?_
            refine R.skip rfl rfl rfl ?_
            refine R.skip rfl rfl rfl ?_
            refine R.skip rfl rfl rfl ?_
            refine R.one rfl ?_
            refine W.det (.kb false) _ rfl ?_
            refine R.one rfl ?_
            refine W.det (.kb false) _ rfl ?_
            refine R.skip rfl rfl rfl ?_
            refine R.skip rfl rfl rfl ?_
            refine R.skip rfl rfl rfl ?_
            refine R.one rfl ?_
            refine W.det (.kb false) _ rfl ?_
            refine R.one rfl ?_
            refine W.det (.kb false) _ rfl ?_
            refine R.skip rfl rfl rfl ?_
            refine R.skip rfl rfl rfl ?_
            refine R.skip rfl rfl rfl ?_
            refine R.one rfl ?_
            refine W.det (.kb false) _ rfl ?_
            refine R.one rfl ?_
            refine W.det (.kb false) _ rfl ?_
            refine R.nil ?_
            injection h with h
            subst h
            exact headK.n hG (Enters.of [] [(900000, (900000, 1))] _ rfl rfl (chkE.c rfl rfl (chkE.c rfl rfl (chkE.c rfl rfl trivial))) (chkM.c rfl rfl trivial))
        · refine R.skip rfl rfl rfl ?_
          refine R.skip rfl rfl rfl ?_
          refine R.one rfl ?_
          refine W.det (.kb false) _ rfl ?_
          refine R.one rfl ?_
          refine W.det (.kb false) _ rfl ?_
          refine R.skip rfl rfl rfl ?_
          refine R.skip rfl rfl rfl ?_
          refine R.skip rfl rfl rfl ?_
          refine R.one rfl ?_
          refine W.det (.kb false) _ rfl ?_
          refine R.one rfl ?_
          refine W.det (.kb false) _ rfl ?_
          refine R.skip rfl rfl rfl ?_
          refine R.skip rfl rfl rfl ?_
          refine R.skip rfl rfl rfl ?_
          refine R.one rfl ?_
          refine W.det (.kb false) _ rfl ?_
          refine R.one rfl ?_
          refine W.det (.kb false) _ rfl ?_
          refine R.skip rfl rfl rfl ?_
          refine R.skip rfl rfl rfl ?_
          refine R.skip rfl rfl rfl ?_
          refine R.one rfl ?_
          refine W.det (.kb false) _ rfl ?_
          refine R.one rfl ?_
          refine W.det (.kb false) _ rfl ?_
          refine R.skip rfl rfl rfl ?_
          refine R.skip rfl rfl rfl ?_
          refine R.skip rfl rfl rfl ?_
          refine R.one rfl ?_
          refine W.det (.kb false) _ rfl ?_
          refine R.one rfl ?_
          refine W.det (.kb false) _ rfl ?_
          refine R.skip rfl rfl rfl ?_
          refine R.skip rfl rfl rfl ?_
          refine R.skip rfl rfl rfl ?_
          refine R.one rfl ?_
          refine W.det (.kb false) _ rfl ?_
          refine R.one rfl ?_
          refine W.det (.kb false) _ rfl ?_
          refine R.skip rfl rfl rfl ?_
          refine R.skip rfl rfl rfl ?_
          refine R.skip rfl rfl rfl ?_
          refine R.one rfl ?_
          refine W.det (.kb false) _ rfl ?_
          refine R.one rfl ?_
          refine W.det (.kb false) _ rfl ?_
          refine R.nil ?_
          injection h with h
          subst h
          exact headK.n hG (Enters.of [] [(900000, (900000, 1))] _ rfl rfl (chkE.c rfl rfl (chkE.c rfl rfl (chkE.c rfl rfl trivial))) (chkM.c rfl rfl trivial))
      · refine R.skip rfl rfl rfl ?_
        refine R.skip rfl rfl rfl ?_
        refine R.one rfl ?_
        refine W.det (.kb false) _ rfl ?_
        refine R.one rfl ?_
        refine W.det (.kb false) _ rfl ?_
        refine R.skip rfl rfl rfl ?_
        refine R.skip rfl rfl rfl ?_
        refine R.skip rfl rfl rfl ?_
        refine R.one rfl ?_
        refine W.det (.kb false) _ rfl ?_
        refine R.one rfl ?_
        refine W.det (.kb false) _ rfl ?_
        refine R.skip rfl rfl rfl ?_
        refine R.skip rfl rfl rfl ?_
        refine R.skip rfl rfl rfl ?_
        refine R.one rfl ?_
        refine W.det (.kb false) _ rfl ?_
        refine R.one rfl ?_
        refine W.det (.kb false) _ rfl ?_
        refine R.skip rfl rfl rfl ?_
        refine R.skip rfl rfl rfl ?_
        refine R.skip rfl rfl rfl ?_
        refine R.one rfl ?_
        refine W.det (.kb false) _ rfl ?_
        refine R.one rfl ?_
        refine W.det (.kb false) _ rfl ?_
        refine R.skip rfl rfl rfl ?_
        refine R.skip rfl rfl rfl ?_
        refine R.skip rfl rfl rfl ?_
        refine R.one rfl ?_
        refine W.det (.kb false) _ rfl ?_
        refine R.one rfl ?_
        refine W.det (.kb false) _ rfl ?_
        refine R.skip rfl rfl rfl ?_
        refine R.skip rfl rfl rfl ?_
        refine R.skip rfl rfl rfl ?_
        refine R.one rfl ?_
        refine W.det (.kb false) _ rfl ?_
        refine R.one rfl ?_
        refine W.det (.kb false) _ rfl ?_
        refine R.skip rfl rfl rfl ?_
        refine R.skip rfl rfl rfl ?_
        refine R.skip rfl rfl rfl ?_
        refine R.one rfl ?_
        refine W.det (.kb false) _ rfl ?_
        refine R.one rfl ?_
        refine W.det (.kb false) _ rfl ?_
        refine R.skip rfl rfl rfl ?_
        refine R.skip rfl rfl rfl ?_
        refine R.skip rfl rfl rfl ?_
        refine R.one rfl ?_
        refine W.det (.kb false) _ rfl ?_
        refine R.one rfl ?_
        refine W.det (.kb false) _ rfl ?_
        refine R.nil ?_
        injection h with h
        subst h
        exact headK.n hG (Enters.of [] [(900000, (900000, 1))] _ rfl rfl (chkE.c rfl rfl (chkE.c rfl rfl (chkE.c rfl rfl trivial))) (chkM.c rfl rfl trivial))
    · intro s2 r2 h hG
      refine A.join (fun (s3 : Unit) => [(1, .lp 900000 1 0)]) (fun s3 => [(900000, .box [.d (.v (.string p_.Name)), .d (.v (.int .i64 p_.Edit)), .d (.v (.int .i64 p_.Within)), .d (.v (.int .i64 p_.Delete)), .d (.v (.bool p_.React)), .d (.v (.int .i64 p_.Thread)), .d (.v (.bool p_.Quote)), .d (.v (.bool p_.Mention)), .d (.v (.int .i64 p_.Size)), .d (.v (.int .i64 p_.Parts)), .d (.v (.int .i64 p_.Files)), .d (.v (.int .i64 p_.Bytes)), .d (.fz (List.map encS p_.Types)), .d (.v (.int .i64 p_.Join)), .d (.v (.int .i64 p_.History)), .d (.v (.int .i64 p_.Remove)), .d (.v (.int .i64 p_.Level)), .d (.v (.bool p_.Batch)), .d (.v (.int .i64 p_.Rate)), .d (.v (.int .i64 p_.Down)), .d (.v (.int .i64 p_.Window)), .d (.v (.int .i64 p_.Keep))])]) _ h hG rfl ?_ ?_
      · intro J f h hG
        refine A.seq rfl ?_
        refine A.region ?_
        refine R.one rfl ?_
        refine W.det (.d (.v (.bool s1))) _ rfl ?_
        refine R.one rfl ?_
        refine W.det (.d (.v (.bool (!s1)))) _ rfl ?_
        refine R.one rfl ?_
        refine W.det (.d (.v (.bool (!s1)))) _ rfl ?_
        refine R.gF rfl rfl rfl h (fun _ h => ?_) (fun _ h => ?_)
        · refine R.skip rfl rfl rfl ?_
          refine R.one rfl ?_
          refine W.det (.kb true) _ rfl ?_
          refine R.one rfl ?_
          refine W.det (.kb true) _ rfl ?_
          refine R.skip rfl rfl rfl ?_
          refine R.skip rfl rfl rfl ?_
          refine R.skip rfl rfl rfl ?_
          refine R.skip rfl rfl rfl ?_
          refine R.one rfl ?_
          refine W.det (.kb true) _ rfl ?_
          refine R.one rfl ?_
          refine W.det (.kb true) _ rfl ?_
          refine R.skip rfl rfl rfl ?_
          refine R.skip rfl rfl rfl ?_
          refine R.skip rfl rfl rfl ?_
          refine R.skip rfl rfl rfl ?_
          refine R.none_ rfl rfl rfl ?_
          refine R.none_ rfl rfl rfl ?_
          refine R.none_ rfl rfl rfl ?_
          refine R.skip rfl rfl rfl ?_
          refine R.one rfl ?_
          refine W.det (.kb true) _ rfl ?_
          refine R.nil ?_
          refine seqK.n ?_
          refine A.condT rfl ?_
          refine A.seq rfl ?_
          refine A.region ?_
          refine R.one rfl ?_
          refine W.det (.kb false) _ rfl ?_
          refine R.nil ?_
          refine seqK.n ?_
          refine A.ret ?_
          refine headK.r ?_
          injection h with h
          subst h
          cases hG
          exact ⟨rfl, trivial⟩
        · refine W.det (.d (.v (.bool s2))) _ rfl ?_
          refine R.run rfl rfl rfl ?_
          refine W.det (.d (.v (.bool (!s2)))) _ rfl ?_
          refine R.one rfl ?_
          refine W.det (.d (.v (.bool (!s2)))) _ rfl ?_
          refine R.one rfl ?_
          refine W.det (.d (.v (.bool (!s2)))) _ rfl ?_
          refine R.gF rfl rfl rfl h (fun _ h => ?_) (fun _ h => ?_)
          · refine R.skip rfl rfl rfl ?_
            refine R.skip rfl rfl rfl ?_
            refine R.skip rfl rfl rfl ?_
            refine R.one rfl ?_
            refine W.det (.kb true) _ rfl ?_
            refine R.one rfl ?_
            refine W.det (.kb true) _ rfl ?_
            refine R.skip rfl rfl rfl ?_
            refine R.skip rfl rfl rfl ?_
            refine R.skip rfl rfl rfl ?_
            refine R.skip rfl rfl rfl ?_
            refine R.none_ rfl rfl rfl ?_
            refine R.none_ rfl rfl rfl ?_
            refine R.none_ rfl rfl rfl ?_
            refine R.skip rfl rfl rfl ?_
            refine R.one rfl ?_
            refine W.det (.kb true) _ rfl ?_
            refine R.nil ?_
            refine seqK.n ?_
            refine A.condT rfl ?_
            refine A.seq rfl ?_
            refine A.region ?_
            refine R.one rfl ?_
            refine W.det (.kb false) _ rfl ?_
            refine R.nil ?_
            refine seqK.n ?_
            refine A.ret ?_
            refine headK.r ?_
            injection h with h
            subst h
            cases hG
            exact ⟨rfl, trivial⟩
          · refine W.det (.lp 900000 1 0) _ rfl ?_
            refine R.run rfl rfl rfl ?_
            refine W.det (.d (.v (.string p_.Name))) _ rfl ?_
            refine R.run rfl rfl rfl ?_
            refine bindK h fun y46 hy46 h => ?_
            refine W.call rfl (ref11_Word_fn hy46) ?_
            refine W.det (.d (.v (.bool y46))) _ rfl ?_
            refine R.run rfl rfl rfl ?_
            refine W.det (.d (.v (.bool (!y46)))) _ rfl ?_
            refine R.one rfl ?_
            refine W.det (.d (.v (.bool (!y46)))) _ rfl ?_
            refine R.one rfl ?_
            refine W.det (.d (.v (.bool (!y46)))) _ rfl ?_
            refine R.gF rfl rfl rfl h (fun _ h => ?_) (fun _ h => ?_)
            · refine R.skip rfl rfl rfl ?_
              refine R.skip rfl rfl rfl ?_
              refine R.skip rfl rfl rfl ?_
              refine R.none_ rfl rfl rfl ?_
              refine R.none_ rfl rfl rfl ?_
              refine R.none_ rfl rfl rfl ?_
              refine R.skip rfl rfl rfl ?_
              refine R.one rfl ?_
              refine W.det (.kb true) _ rfl ?_
              refine R.nil ?_
              refine seqK.n ?_
              refine A.condT rfl ?_
              refine A.seq rfl ?_
              refine A.region ?_
              refine R.one rfl ?_
              refine W.det (.kb false) _ rfl ?_
              refine R.nil ?_
              refine seqK.n ?_
              refine A.ret ?_
              refine headK.r ?_
              injection h with h
              subst h
              cases hG
              exact ⟨rfl, trivial⟩
            · refine W.det (.lp 900000 1 1) _ rfl ?_
              refine R.run rfl rfl rfl ?_
              refine W.det (.d (.v (.int .i64 p_.Edit))) _ rfl ?_
              refine R.run rfl rfl rfl ?_
              refine W.det (.d (.v (.bool (p_.Edit == (0 : Int))))) _ rfl ?_
              refine R.run rfl rfl rfl ?_
              refine W.det (.d (.v (.bool (p_.Edit == (0 : Int))))) _ rfl ?_
              refine R.gT rfl rfl rfl h (fun _ h => ?_) (fun _ h => ?_)
              · refine W.det (.lp 900000 1 2) _ rfl ?_
                refine R.run rfl rfl rfl ?_
                refine W.det (.d (.v (.int .i64 p_.Within))) _ rfl ?_
                refine R.run rfl rfl rfl ?_
                refine W.det (.d (.v (.bool (p_.Within != (0 : Int))))) _ rfl ?_
                refine R.run rfl rfl rfl ?_
                refine W.det (.d (.v (.bool (p_.Within != (0 : Int))))) _ rfl ?_
                refine R.one rfl ?_
                refine W.det (.d (.v (.bool (p_.Within != (0 : Int))))) _ rfl ?_
                refine R.nil ?_
                refine seqK.n ?_
                refine A.condB rfl h (fun _ h => ?_) (fun _ h => ?_)
                · refine A.seq rfl ?_
                  refine A.region ?_
                  refine R.one rfl ?_
                  refine W.det (.kb false) _ rfl ?_
                  refine R.nil ?_
                  refine seqK.n ?_
                  refine A.ret ?_
                  refine headK.r ?_
                  injection h with h
                  subst h
                  cases hG
                  exact ⟨rfl, trivial⟩
                · refine A.skip ?_
                  injection h with h
                  subst h
                  exact headK.n hG (Enters.of [] [(900000, (900000, 1))] _ rfl rfl (chkE.c rfl rfl trivial) (chkM.c rfl rfl trivial))
              · refine R.skip rfl rfl rfl ?_
                refine R.skip rfl rfl rfl ?_
                refine R.run rfl rfl rfl ?_
                refine W.det (.kb false) _ rfl ?_
                refine R.one rfl ?_
                refine W.det (.kb false) _ rfl ?_
                refine R.nil ?_
                refine seqK.n ?_
                refine A.condF rfl ?_
                refine A.skip ?_
                injection h with h
                subst h
                exact headK.n hG (Enters.of [] [(900000, (900000, 1))] _ rfl rfl (chkE.c rfl rfl trivial) (chkM.c rfl rfl trivial))
      · intro s3 r2 h hG
        refine A.seq rfl ?_
        refine A.seq rfl ?_
        refine A.region ?_
        refine R.one rfl ?_
        refine W.det (.lp 900000 1 10) _ rfl ?_
        refine R.one rfl ?_
        refine W.det (.d (.v (.int .i64 p_.Files))) _ rfl ?_
        refine R.one rfl ?_
        refine W.det (.d (.v (.bool (p_.Files == (0 : Int))))) _ rfl ?_
        refine R.nil ?_
        refine seqK.n ?_
        refine A.condB rfl h (fun _ h => ?_) (fun _ h => ?_)
        · refine A.seq rfl ?_
          refine A.region ?_
          refine R.one rfl ?_
          refine W.det (.lp 900000 1 11) _ rfl ?_
          refine R.one rfl ?_
          refine W.det (.d (.v (.int .i64 p_.Bytes))) _ rfl ?_
          refine R.one rfl ?_
          refine W.det (.d (.v (.bool (p_.Bytes == (0 : Int))))) _ rfl ?_
          refine R.one rfl ?_
          refine W.det (.d (.v (.bool (p_.Bytes == (0 : Int))))) _ rfl ?_
          refine R.gT rfl rfl rfl h (fun _ h => ?_) (fun _ h => ?_)
          · refine W.det (.lp 900000 1 12) _ rfl ?_
            refine R.run rfl rfl rfl ?_
            refine W.det (.d (.fz (List.map encS p_.Types))) _ rfl ?_
            refine R.run rfl rfl rfl ?_
            refine W.len rfl ?_
            refine R.run rfl rfl rfl ?_
            refine W.det (.d (.v (.bool ((p_.Types.length : Int) == (0 : Int))))) _ rfl ?_
            refine R.one rfl ?_
            refine W.det (.d (.v (.bool ((p_.Types.length : Int) == (0 : Int))))) _ rfl ?_
            refine R.one rfl ?_
            refine W.det (.d (.v (.bool ((p_.Types.length : Int) == (0 : Int))))) _ rfl ?_
            refine R.nil ?_
            refine seqK.n ?_
            refine A.ret ?_
            refine seqK.r ?_
            injection h with h
            subst h
            cases hG
            exact ⟨rfl, trivial⟩
          · refine R.skip rfl rfl rfl ?_
            refine R.skip rfl rfl rfl ?_
            refine R.skip rfl rfl rfl ?_
            refine R.one rfl ?_
            refine W.det (.kb false) _ rfl ?_
            refine R.one rfl ?_
            refine W.det (.kb false) _ rfl ?_
            refine R.nil ?_
            refine seqK.n ?_
            refine A.ret ?_
            refine seqK.r ?_
            injection h with h
            subst h
            cases hG
            exact ⟨rfl, trivial⟩
        · refine A.skip ?_
          refine seqK.n ?_
          refine A.seq rfl ?_
          refine A.seq rfl ?_
          refine A.region ?_
          refine R.one rfl ?_
          refine W.det (.lp 900000 1 12) _ rfl ?_
          refine R.one rfl ?_
          refine W.det (.d (.fz (List.map encS p_.Types))) _ rfl ?_
          refine R.one rfl ?_
          refine W.len rfl ?_
          refine R.one rfl ?_
          refine W.det (.d (.v (.bool (decide ((p_.Types.length : Int) < (1 : Int)))))) _ rfl ?_
          refine R.one rfl ?_
          refine W.det (.d (.v (.bool (decide ((p_.Types.length : Int) < (1 : Int)))))) _ rfl ?_
          refine R.gF rfl rfl rfl h (fun _ h => ?_) (fun _ h => ?_)
          · refine R.skip rfl rfl rfl ?_
            refine R.skip rfl rfl rfl ?_
            refine R.skip rfl rfl rfl ?_
            refine R.one rfl ?_
            refine W.det (.kb true) _ rfl ?_
            refine R.nil ?_
            refine seqK.n ?_
            refine A.condT rfl ?_
            refine A.seq rfl ?_
            refine A.region ?_
            refine R.one rfl ?_
            refine W.det (.kb false) _ rfl ?_
            refine R.nil ?_
            refine seqK.n ?_
            refine A.ret ?_
            refine seqK.r ?_
            injection h with h
            subst h
            cases hG
            exact ⟨rfl, trivial⟩
          · refine W.det (.lp 900000 1 12) _ rfl ?_
            refine R.run rfl rfl rfl ?_
            refine W.det (.d (.fz (List.map encS p_.Types))) _ rfl ?_
            refine R.run rfl rfl rfl ?_
            refine W.len rfl ?_
            refine R.run rfl rfl rfl ?_
            refine W.det (.d (.v (.bool (decide ((20 : Int) < (p_.Types.length : Int)))))) _ rfl ?_
            refine R.one rfl ?_
            refine W.det (.d (.v (.bool (decide ((20 : Int) < (p_.Types.length : Int)))))) _ rfl ?_
            refine R.nil ?_
            refine seqK.n ?_
            refine A.condB rfl h (fun _ h => ?_) (fun _ h => ?_)
            · refine A.seq rfl ?_
              refine A.region ?_
              refine R.one rfl ?_
              refine W.det (.kb false) _ rfl ?_
              refine R.nil ?_
              refine seqK.n ?_
              refine A.ret ?_
              refine seqK.r ?_
              injection h with h
              subst h
              cases hG
              exact ⟨rfl, trivial⟩
            · refine A.skip ?_
              refine seqK.n ?_
              refine A.join (fun (s5 : Unit) => []) (fun s5 => []) _ h hG rfl ?_ ?_
              · intro J f h hG
                refine A.seq rfl ?_
                refine A.region ?_
                refine R.one rfl ?_
                refine W.det (.d (.v (.int .i64 (0 : Int)))) _ rfl ?_
                refine R.nil ?_
                refine seqK.n ?_
                refine A.block ?_
                refine A.loop (fun (s6 : Int) => [(1, .lp 900000 1 0), (5, .d (.v (.int .i64 s6)))]) (fun s6 => [(900000, .box [.d (.v (.string p_.Name)), .d (.v (.int .i64 p_.Edit)), .d (.v (.int .i64 p_.Within)), .d (.v (.int .i64 p_.Delete)), .d (.v (.bool p_.React)), .d (.v (.int .i64 p_.Thread)), .d (.v (.bool p_.Quote)), .d (.v (.bool p_.Mention)), .d (.v (.int .i64 p_.Size)), .d (.v (.int .i64 p_.Parts)), .d (.v (.int .i64 p_.Files)), .d (.v (.int .i64 p_.Bytes)), .d (.fz (List.map encS p_.Types)), .d (.v (.int .i64 p_.Join)), .d (.v (.int .i64 p_.History)), .d (.v (.int .i64 p_.Remove)), .d (.v (.int .i64 p_.Level)), .d (.v (.bool p_.Batch)), .d (.v (.int .i64 p_.Rate)), .d (.v (.int .i64 p_.Down)), .d (.v (.int .i64 p_.Window)), .d (.v (.int .i64 p_.Keep))])]) _ h hG (Enters.of [] [(900000, (900000, 1))] _ rfl rfl (chkE.c rfl rfl (chkE.c rfl rfl trivial)) (chkM.c rfl rfl trivial)) ?_
                intro J s6 f h hG
                unfold ref12_Right_L1 at h
                refine A.seq rfl ?_
                refine A.seq rfl ?_
                refine A.region ?_
                refine R.one rfl ?_
                refine W.det (.d (.v (.int .i64 s6))) _ rfl ?_
                refine R.one rfl ?_
                refine W.det (.lp 900000 1 12) _ rfl ?_
                refine R.one rfl ?_
                refine W.det (.d (.fz (List.map encS p_.Types))) _ rfl ?_
                refine R.one rfl ?_
                refine W.len rfl ?_
                refine R.one rfl ?_
                refine W.det (.d (.v (.bool (decide (s6 < (p_.Types.length : Int)))))) _ rfl ?_
                refine R.nil ?_
                refine seqK.n ?_
                refine A.condB rfl h (fun _ h => ?_) (fun _ h => ?_)
                · refine A.skip ?_
                  refine seqK.n ?_
                  refine A.seq rfl ?_
                  refine A.block ?_
                  refine A.seq rfl ?_
                  refine A.region ?_
                  refine R.one rfl ?_
                  refine W.det (.lp 900000 1 12) _ rfl ?_
                  refine R.one rfl ?_
                  refine W.det (.d (.fz (List.map encS p_.Types))) _ rfl ?_
                  refine R.one rfl ?_
                  refine W.det (.d (.v (.int .i64 s6))) _ rfl ?_
                  refine R.one rfl ?_
                  refine bindK h fun x69 hx69 h => ?_
                  refine W.chk rfl (elemB hx69) ?_
                  refine W.elem rfl (elemG hx69) ?_
                  refine W.chk rfl rfl ?_
                  refine W.det (.fp [.v (.string x69)]) _ rfl ?_
                  refine R.one rfl ?_
                  refine W.det (.d (.v (.string x69))) _ rfl ?_
                  refine R.one rfl ?_
                  refine bindK h fun y70 hy70 h => ?_
                  refine W.call rfl (ref11_Word_fn hy70) ?_
                  refine W.det (.d (.v (.bool y70))) _ rfl ?_
                  refine R.one rfl ?_
                  refine W.det (.d (.v (.bool (!y70)))) _ rfl ?_
                  refine R.nil ?_
                  refine seqK.n ?_
                  refine A.condB rfl h (fun _ h => ?_) (fun _ h => ?_)
                  · refine A.seq rfl ?_
                    refine A.region ?_
                    refine R.one rfl ?_
                    refine W.det (.kb false) _ rfl ?_
                    refine R.nil ?_
                    refine seqK.n ?_
                    refine A.ret ?_
                    refine blockK.r ?_
                    refine seqK.r ?_
                    refine headK.r ?_
                    refine blockK.r ?_
                    refine headK.r ?_
                    injection h with h
                    subst h
                    cases hG
                    exact ⟨rfl, trivial⟩
                  · refine A.skip ?_
                    refine blockK.n ?_
                    refine seqK.n ?_
                    refine A.region ?_
                    refine R.one rfl ?_
                    refine W.det (.d (.v (.int .i64 s6))) _ rfl ?_
                    refine R.one rfl ?_
                    refine W.det (.d (.v (.int .i64 (IntKind.i64.wrap (s6 + (1 : Int)))))) _ rfl ?_
                    refine R.one rfl ?_
                    refine W.det (.d (.v (.int .i64 (IntKind.i64.wrap (s6 + (1 : Int)))))) _ rfl ?_
                    refine R.nil ?_
                    injection h with h
                    subst h
                    exact headK.n hG (Enters.of [] [(900000, (900000, 1))] _ rfl rfl (chkE.c rfl rfl (chkE.c rfl rfl trivial)) (chkM.c rfl rfl trivial))
                · refine A.exit ?_
                  refine seqK.e ?_
                  refine headK.e ?_
                  refine blockK.x ?_
                  injection h with h
                  subst h
                  exact headK.n hG (Enters.of [] [] _ rfl rfl trivial trivial)
              · intro s5 r2 h hG
                refine A.seq rfl ?_
                refine A.region ?_
                refine R.one rfl ?_
                refine W.det (.kb true) _ rfl ?_
                refine R.nil ?_
                refine seqK.n ?_
                refine A.ret ?_
                injection h with h
                subst h
                cases hG
                exact ⟨rfl, trivial⟩
noncomputable def ref13_Check_L1 (s15 : (Int)) (p_ : api_Profile) (s24 : Int) : Option ((Int) ⊕ ((Unit) ⊕ ((Int) ⊕ ((Unit) ⊕ (Int))))) :=
  (bif (decide (s24 < s15)) then
    (getI p_.Types s15).bind fun x137 =>
    (getI p_.Types s24).bind fun x138 =>
    (bif (x137.toList == x138.toList) then
      some (.inr (.inr (.inr (.inr (5 : Int)))))
    else
      some (.inl (IntKind.i64.wrap (s24 + (1 : Int)))))
  else
    some (.inr (.inl ())))
noncomputable def ref13_Check_L2 (p_ : api_Profile) (s15 : Int) : Option ((Int) ⊕ ((Unit) ⊕ (Int))) :=
  (bif (decide (s15 < (p_.Types.length : Int))) then
    (seqF (A := Unit) (
      loopF (ref13_Check_L1 s15 p_) (0 : Int))
    fun s23 =>
      some (.inl (IntKind.i64.wrap (s15 + (1 : Int)))))
  else
    some (.inr (.inl ())))
noncomputable def ref13_Check (p_ : api_Profile) : Option (Int) :=
  (ref12_Right p_).bind fun y2 =>
  (bif (!y2) then
    some (1 : Int)
  else
    (bif (decide (p_.Size < (40 : Int))) then
      some (3 : Int)
    else
      (bif (decide ((4000 : Int) < p_.Size)) then
        some (3 : Int)
      else
        (bif (decide (p_.Parts < (1 : Int))) then
          some (3 : Int)
        else
          (bif (decide ((20 : Int) < p_.Parts)) then
            some (3 : Int)
          else
            (bif (decide ((4 : Int) < p_.Files)) then
              some (3 : Int)
            else
              (bif (decide ((65536 : Int) < p_.Bytes)) then
                some (3 : Int)
              else
                (seqF (A := Unit) (
                  (bif (decide (p_.Rate < (1 : Int))) then
                    some (.inr (3 : Int))
                  else
                    (bif (p_.Down != (0 : Int)) then
                      (bif (decide (p_.Window ≤ p_.Down)) then
                        some (.inr (3 : Int))
                      else
                        some (.inl ()))
                    else
                      some (.inl ()))))
                fun s1 =>
                  (seqF (A := Bool) (
                    (bif (p_.Files == (0 : Int)) then
                      (bif (p_.Bytes == (0 : Int)) then
                        some (.inl ((p_.Types.length : Int) == (0 : Int)))
                      else
                        some (.inl false))
                    else
                      some (.inl false)))
                  fun s2 =>
                    (seqF (A := Unit) (
                      (bif (!s2) then
                        (bif (p_.Files == (0 : Int)) then
                          some (.inr (3 : Int))
                        else
                          (bif (p_.Bytes == (0 : Int)) then
                            some (.inr (3 : Int))
                          else
                            (bif ((p_.Types.length : Int) == (0 : Int)) then
                              some (.inr (3 : Int))
                            else
                              some (.inl ()))))
                      else
                        some (.inl ())))
                    fun s3 =>
                      (seqF (A := Unit) (
                        loopF (ref13_Check_L2 p_) (0 : Int))
                      fun s14 =>
                        some (0 : Int))))))))))))
theorem ref13_Check_fn {p_ : api_Profile} {r : Int} (h : ref13_Check p_ = some r) : Fn Try.prog 40 [.agg [.d (.v (.string p_.Name)), .d (.v (.int .i64 p_.Edit)), .d (.v (.int .i64 p_.Within)), .d (.v (.int .i64 p_.Delete)), .d (.v (.bool p_.React)), .d (.v (.int .i64 p_.Thread)), .d (.v (.bool p_.Quote)), .d (.v (.bool p_.Mention)), .d (.v (.int .i64 p_.Size)), .d (.v (.int .i64 p_.Parts)), .d (.v (.int .i64 p_.Files)), .d (.v (.int .i64 p_.Bytes)), .d (.fz (List.map encS p_.Types)), .d (.v (.int .i64 p_.Join)), .d (.v (.int .i64 p_.History)), .d (.v (.int .i64 p_.Remove)), .d (.v (.int .i64 p_.Level)), .d (.v (.bool p_.Batch)), .d (.v (.int .i64 p_.Rate)), .d (.v (.int .i64 p_.Down)), .d (.v (.int .i64 p_.Window)), .d (.v (.int .i64 p_.Keep))]] (.d (.v (.int .i64 r))) := by
  refine Fn.of_AW (F := FnX Try.prog) (base := 0) (js := [7, 8, 10, 12, 18]) mixed tok noeqs (fun _ _ _ h => h) Try.call40 Try.func40 rfl Try.ntmps40 (by rw [Try.results40]) (by simp) ?_
  have hG : (fun x => x = r) r := rfl
  unfold ref13_Check at h
  refine A.seq rfl ?_
  refine A.region ?_
  refine R.one rfl ?_
  refine W.det (.lp 1 1 0) (Mem.add _ 1 (.box [.d (.v (.string p_.Name)), .d (.v (.int .i64 p_.Edit)), .d (.v (.int .i64 p_.Within)), .d (.v (.int .i64 p_.Delete)), .d (.v (.bool p_.React)), .d (.v (.int .i64 p_.Thread)), .d (.v (.bool p_.Quote)), .d (.v (.bool p_.Mention)), .d (.v (.int .i64 p_.Size)), .d (.v (.int .i64 p_.Parts)), .d (.v (.int .i64 p_.Files)), .d (.v (.int .i64 p_.Bytes)), .d (.fz (List.map encS p_.Types)), .d (.v (.int .i64 p_.Join)), .d (.v (.int .i64 p_.History)), .d (.v (.int .i64 p_.Remove)), .d (.v (.int .i64 p_.Level)), .d (.v (.bool p_.Batch)), .d (.v (.int .i64 p_.Rate)), .d (.v (.int .i64 p_.Down)), .d (.v (.int .i64 p_.Window)), .d (.v (.int .i64 p_.Keep))])) rfl ?_
  refine R.one rfl ?_
  refine W.det (.d (.v (.int .i64 (0 : Int)))) _ rfl ?_
  refine R.nil ?_
  refine seqK.n ?_
  refine A.seq rfl ?_
  refine A.seq rfl ?_
  refine A.region ?_
  refine R.one rfl ?_
  refine W.det (.agg [.d (.v (.string p_.Name)), .d (.v (.int .i64 p_.Edit)), .d (.v (.int .i64 p_.Within)), .d (.v (.int .i64 p_.Delete)), .d (.v (.bool p_.React)), .d (.v (.int .i64 p_.Thread)), .d (.v (.bool p_.Quote)), .d (.v (.bool p_.Mention)), .d (.v (.int .i64 p_.Size)), .d (.v (.int .i64 p_.Parts)), .d (.v (.int .i64 p_.Files)), .d (.v (.int .i64 p_.Bytes)), .d (.fz (List.map encS p_.Types)), .d (.v (.int .i64 p_.Join)), .d (.v (.int .i64 p_.History)), .d (.v (.int .i64 p_.Remove)), .d (.v (.int .i64 p_.Level)), .d (.v (.bool p_.Batch)), .d (.v (.int .i64 p_.Rate)), .d (.v (.int .i64 p_.Down)), .d (.v (.int .i64 p_.Window)), .d (.v (.int .i64 p_.Keep))]) _ rfl ?_
  refine R.one rfl ?_
  refine bindK h fun y2 hy2 h => ?_
  refine W.call rfl (ref12_Right_fn hy2) ?_
  refine W.det (.d (.v (.bool y2))) _ rfl ?_
  refine R.one rfl ?_
  refine W.det (.d (.v (.bool (!y2)))) _ rfl ?_
  refine R.nil ?_
  refine seqK.n ?_
  refine A.condB rfl h (fun _ h => ?_) (fun _ h => ?_)
  · refine A.seq rfl ?_
    refine A.region ?_
    refine R.one rfl ?_
    refine W.det (.d (.v (.int .i64 (1 : Int)))) _ rfl ?_
    refine R.nil ?_
    refine seqK.n ?_
    refine A.ret ?_
    refine seqK.r ?_
    injection h with h
    subst h
    cases hG
    exact ⟨rfl, trivial⟩
  · refine A.skip ?_
    refine seqK.n ?_
    refine A.seq rfl ?_
    refine A.seq rfl ?_
    refine A.region ?_
    refine R.one rfl ?_
    refine W.det (.lp 1 1 8) _ rfl ?_
    refine R.one rfl ?_
    refine W.det (.d (.v (.int .i64 p_.Size))) _ rfl ?_
    refine R.one rfl ?_
    refine W.det (.d (.v (.bool (decide (p_.Size < (40 : Int)))))) _ rfl ?_
    refine R.one rfl ?_
    refine W.det (.d (.v (.bool (decide (p_.Size < (40 : Int)))))) _ rfl ?_
    refine R.gF rfl rfl rfl h (fun _ h => ?_) (fun _ h => ?_)
    · refine R.skip rfl rfl rfl ?_
      refine R.skip rfl rfl rfl ?_
      refine R.one rfl ?_
      refine W.det (.kb true) _ rfl ?_
      refine R.one rfl ?_
      refine W.det (.kb true) _ rfl ?_
      refine R.skip rfl rfl rfl ?_
      refine R.skip rfl rfl rfl ?_
      refine R.skip rfl rfl rfl ?_
      refine R.one rfl ?_
      refine W.det (.kb true) _ rfl ?_
      refine R.one rfl ?_
      refine W.det (.kb true) _ rfl ?_
      refine R.skip rfl rfl rfl ?_
      refine R.skip rfl rfl rfl ?_
      refine R.skip rfl rfl rfl ?_
      refine R.one rfl ?_
      refine W.det (.kb true) _ rfl ?_
      refine R.one rfl ?_
      refine W.det (.kb true) _ rfl ?_
      refine R.skip rfl rfl rfl ?_
      refine R.skip rfl rfl rfl ?_
      refine R.skip rfl rfl rfl ?_
      refine R.one rfl ?_
      refine W.det (.kb true) _ rfl ?_
      refine R.one rfl ?_
      refine W.det (.kb true) _ rfl ?_
      refine R.skip rfl rfl rfl ?_
      refine R.skip rfl rfl rfl ?_
      refine R.skip rfl rfl rfl ?_
      refine R.one rfl ?_
      refine W.det (.kb true) _ rfl ?_
      refine R.nil ?_
      refine seqK.n ?_
      refine A.condT rfl ?_
      refine A.seq rfl ?_
      refine A.region ?_
      refine R.one rfl ?_
      refine W.det (.d (.v (.int .i64 (3 : Int)))) _ rfl ?_
      refine R.nil ?_
      refine seqK.n ?_
      refine A.ret ?_
      refine seqK.r ?_
      injection h with h
      subst h
      cases hG
      exact ⟨rfl, trivial⟩
    · refine W.det (.lp 1 1 8) _ rfl ?_
      refine R.run rfl rfl rfl ?_
      refine W.det (.d (.v (.int .i64 p_.Size))) _ rfl ?_
      refine R.run rfl rfl rfl ?_
      refine W.det (.d (.v (.bool (decide ((4000 : Int) < p_.Size))))) _ rfl ?_
      refine R.one rfl ?_
      refine W.det (.d (.v (.bool (decide ((4000 : Int) < p_.Size))))) _ rfl ?_
      refine R.one rfl ?_
      refine W.det (.d (.v (.bool (decide ((4000 : Int) < p_.Size))))) _ rfl ?_
      refine R.gF rfl rfl rfl h (fun _ h => ?_) (fun _ h => ?_)
      · refine R.skip rfl rfl rfl ?_
        refine R.skip rfl rfl rfl ?_
        refine R.one rfl ?_
        refine W.det (.kb true) _ rfl ?_
        refine R.one rfl ?_
        refine W.det (.kb true) _ rfl ?_
        refine R.skip rfl rfl rfl ?_
        refine R.skip rfl rfl rfl ?_
        refine R.skip rfl rfl rfl ?_
        refine R.one rfl ?_
        refine W.det (.kb true) _ rfl ?_
        refine R.one rfl ?_
        refine W.det (.kb true) _ rfl ?_
        refine R.skip rfl rfl rfl ?_
        refine R.skip rfl rfl rfl ?_
        refine R.skip rfl rfl rfl ?_
        refine R.one rfl ?_
        refine W.det (.kb true) _ rfl ?_
        refine R.one rfl ?_
        refine W.det (.kb true) _ rfl ?_
        refine R.skip rfl rfl rfl ?_
        refine R.skip rfl rfl rfl ?_
        refine R.skip rfl rfl rfl ?_
        refine R.one rfl ?_
        refine W.det (.kb true) _ rfl ?_
        refine R.nil ?_
        refine seqK.n ?_
        refine A.condT rfl ?_
        refine A.seq rfl ?_
        refine A.region ?_
        refine R.one rfl ?_
        refine W.det (.d (.v (.int .i64 (3 : Int)))) _ rfl ?_
        refine R.nil ?_
        refine seqK.n ?_
        refine A.ret ?_
        refine seqK.r ?_
        injection h with h
        subst h
        cases hG
        exact ⟨rfl, trivial⟩
      · refine W.det (.lp 1 1 9) _ rfl ?_
        refine R.run rfl rfl rfl ?_
        refine W.det (.d (.v (.int .i64 p_.Parts))) _ rfl ?_
        refine R.run rfl rfl rfl ?_
        refine W.det (.d (.v (.bool (decide (p_.Parts < (1 : Int)))))) _ rfl ?_
        refine R.one rfl ?_
        refine W.det (.d (.v (.bool (decide (p_.Parts < (1 : Int)))))) _ rfl ?_
        refine R.one rfl ?_
        refine W.det (.d (.v (.bool (decide (p_.Parts < (1 : Int)))))) _ rfl ?_
        refine R.gF rfl rfl rfl h (fun _ h => ?_) (fun _ h => ?_)
        · refine R.skip rfl rfl rfl ?_
          refine R.skip rfl rfl rfl ?_
          refine R.one rfl ?_
          refine W.det (.kb true) _ rfl ?_
          refine R.one rfl ?_
          refine W.det (.kb true) _ rfl ?_
          refine R.skip rfl rfl rfl ?_
          refine R.skip rfl rfl rfl ?_
          refine R.skip rfl rfl rfl ?_
          refine R.one rfl ?_
          refine W.det (.kb true) _ rfl ?_
          refine R.one rfl ?_
          refine W.det (.kb true) _ rfl ?_
          refine R.skip rfl rfl rfl ?_
          refine R.skip rfl rfl rfl ?_
          refine R.skip rfl rfl rfl ?_
          refine R.one rfl ?_
          refine W.det (.kb true) _ rfl ?_
          refine R.nil ?_
          refine seqK.n ?_
          refine A.condT rfl ?_
          refine A.seq rfl ?_
          refine A.region ?_
          refine R.one rfl ?_
          refine W.det (.d (.v (.int .i64 (3 : Int)))) _ rfl ?_
          refine R.nil ?_
          refine seqK.n ?_
          refine A.ret ?_
          refine seqK.r ?_
          injection h with h
          subst h
          cases hG
          exact ⟨rfl, trivial⟩
        · refine W.det (.lp 1 1 9) _ rfl ?_
          refine R.run rfl rfl rfl ?_
          refine W.det (.d (.v (.int .i64 p_.Parts))) _ rfl ?_
          refine R.run rfl rfl rfl ?_
          refine W.det (.d (.v (.bool (decide ((20 : Int) < p_.Parts))))) _ rfl ?_
          refine R.one rfl ?_
          refine W.det (.d (.v (.bool (decide ((20 : Int) < p_.Parts))))) _ rfl ?_
          refine R.one rfl ?_
          refine W.det (.d (.v (.bool (decide ((20 : Int) < p_.Parts))))) _ rfl ?_
          refine R.gF rfl rfl rfl h (fun _ h => ?_) (fun _ h => ?_)
          · refine R.skip rfl rfl rfl ?_
            refine R.skip rfl rfl rfl ?_
            refine R.one rfl ?_
            refine W.det (.kb true) _ rfl ?_
            refine R.one rfl ?_
            refine W.det (.kb true) _ rfl ?_
            refine R.skip rfl rfl rfl ?_
            refine R.skip rfl rfl rfl ?_
            refine R.skip rfl rfl rfl ?_
            refine R.one rfl ?_
            refine W.det (.kb true) _ rfl ?_
            refine R.nil ?_
            refine seqK.n ?_
            refine A.condT rfl ?_
            refine A.seq rfl ?_
            refine A.region ?_
            refine R.one rfl ?_
            refine W.det (.d (.v (.int .i64 (3 : Int)))) _ rfl ?_
            refine R.nil ?_
            refine seqK.n ?_
            refine A.ret ?_
            refine seqK.r ?_
            injection h with h
            subst h
            cases hG
            exact ⟨rfl, trivial⟩
          · refine W.det (.lp 1 1 10) _ rfl ?_
            refine R.run rfl rfl rfl ?_
            refine W.det (.d (.v (.int .i64 p_.Files))) _ rfl ?_
            refine R.run rfl rfl rfl ?_
            refine W.det (.d (.v (.bool (decide ((4 : Int) < p_.Files))))) _ rfl ?_
            refine R.one rfl ?_
            refine W.det (.d (.v (.bool (decide ((4 : Int) < p_.Files))))) _ rfl ?_
            refine R.one rfl ?_
            refine W.det (.d (.v (.bool (decide ((4 : Int) < p_.Files))))) _ rfl ?_
            refine R.gF rfl rfl rfl h (fun _ h => ?_) (fun _ h => ?_)
            · refine R.skip rfl rfl rfl ?_
              refine R.skip rfl rfl rfl ?_
              refine R.one rfl ?_
              refine W.det (.kb true) _ rfl ?_
              refine R.nil ?_
              refine seqK.n ?_
              refine A.condT rfl ?_
              refine A.seq rfl ?_
              refine A.region ?_
              refine R.one rfl ?_
              refine W.det (.d (.v (.int .i64 (3 : Int)))) _ rfl ?_
              refine R.nil ?_
              refine seqK.n ?_
              refine A.ret ?_
              refine seqK.r ?_
              injection h with h
              subst h
              cases hG
              exact ⟨rfl, trivial⟩
            · refine W.det (.lp 1 1 11) _ rfl ?_
              refine R.run rfl rfl rfl ?_
              refine W.det (.d (.v (.int .i64 p_.Bytes))) _ rfl ?_
              refine R.run rfl rfl rfl ?_
              refine W.det (.d (.v (.bool (decide ((65536 : Int) < p_.Bytes))))) _ rfl ?_
              refine R.one rfl ?_
              refine W.det (.d (.v (.bool (decide ((65536 : Int) < p_.Bytes))))) _ rfl ?_
              refine R.nil ?_
              refine seqK.n ?_
              refine A.condB rfl h (fun _ h => ?_) (fun _ h => ?_)
              · refine A.seq rfl ?_
                refine A.region ?_
                refine R.one rfl ?_
                refine W.det (.d (.v (.int .i64 (3 : Int)))) _ rfl ?_
                refine R.nil ?_
                refine seqK.n ?_
                refine A.ret ?_
                refine seqK.r ?_
                injection h with h
                subst h
                cases hG
                exact ⟨rfl, trivial⟩
              · refine A.skip ?_
                refine seqK.n ?_
                refine A.join (fun (s1 : Unit) => [(1, .lp 900000 1 0)]) (fun s1 => [(900000, .box [.d (.v (.string p_.Name)), .d (.v (.int .i64 p_.Edit)), .d (.v (.int .i64 p_.Within)), .d (.v (.int .i64 p_.Delete)), .d (.v (.bool p_.React)), .d (.v (.int .i64 p_.Thread)), .d (.v (.bool p_.Quote)), .d (.v (.bool p_.Mention)), .d (.v (.int .i64 p_.Size)), .d (.v (.int .i64 p_.Parts)), .d (.v (.int .i64 p_.Files)), .d (.v (.int .i64 p_.Bytes)), .d (.fz (List.map encS p_.Types)), .d (.v (.int .i64 p_.Join)), .d (.v (.int .i64 p_.History)), .d (.v (.int .i64 p_.Remove)), .d (.v (.int .i64 p_.Level)), .d (.v (.bool p_.Batch)), .d (.v (.int .i64 p_.Rate)), .d (.v (.int .i64 p_.Down)), .d (.v (.int .i64 p_.Window)), .d (.v (.int .i64 p_.Keep))])]) _ h hG rfl ?_ ?_
                · intro J f h hG
                  refine A.seq rfl ?_
                  refine A.region ?_
                  refine R.one rfl ?_
                  refine W.det (.lp 1 1 18) _ rfl ?_
                  refine R.one rfl ?_
                  refine W.det (.d (.v (.int .i64 p_.Rate))) _ rfl ?_
                  refine R.one rfl ?_
                  refine W.det (.d (.v (.bool (decide (p_.Rate < (1 : Int)))))) _ rfl ?_
                  refine R.one rfl ?_
                  refine W.det (.d (.v (.bool (decide (p_.Rate < (1 : Int)))))) _ rfl ?_
                  refine R.gF rfl rfl rfl h (fun _ h => ?_) (fun _ h => ?_)
                  · refine R.skip rfl rfl rfl ?_
                    refine R.skip rfl rfl rfl ?_
                    refine R.skip rfl rfl rfl ?_
                    refine R.none_ rfl rfl rfl ?_
                    refine R.none_ rfl rfl rfl ?_
                    refine R.none_ rfl rfl rfl ?_
                    refine R.none_ rfl rfl rfl ?_
                    refine R.none_ rfl rfl rfl ?_
                    refine R.skip rfl rfl rfl ?_
                    refine R.one rfl ?_
                    refine W.det (.kb true) _ rfl ?_
                    refine R.nil ?_
                    refine seqK.n ?_
                    refine A.condT rfl ?_
                    refine A.seq rfl ?_
                    refine A.region ?_
                    refine R.one rfl ?_
                    refine W.det (.d (.v (.int .i64 (3 : Int)))) _ rfl ?_
                    refine R.nil ?_
                    refine seqK.n ?_
                    refine A.ret ?_
                    refine headK.r ?_
                    injection h with h
                    subst h
                    cases hG
                    exact ⟨rfl, trivial⟩
                  · refine W.det (.lp 1 1 19) _ rfl ?_
                    refine R.run rfl rfl rfl ?_
                    refine W.det (.d (.v (.int .i64 p_.Down))) _ rfl ?_
                    refine R.run rfl rfl rfl ?_
                    refine W.det (.d (.v (.bool (p_.Down != (0 : Int))))) _ rfl ?_
                    refine R.run rfl rfl rfl ?_
                    refine W.det (.d (.v (.bool (p_.Down != (0 : Int))))) _ rfl ?_
                    refine R.gT rfl rfl rfl h (fun _ h => ?_) (fun _ h => ?_)
                    · refine W.det (.lp 1 1 19) _ rfl ?_
                      refine R.run rfl rfl rfl ?_
                      refine W.det (.d (.v (.int .i64 p_.Down))) _ rfl ?_
                      refine R.run rfl rfl rfl ?_
                      refine W.det (.lp 1 1 20) _ rfl ?_
                      refine R.run rfl rfl rfl ?_
                      refine W.det (.d (.v (.int .i64 p_.Window))) _ rfl ?_
                      refine R.run rfl rfl rfl ?_
                      refine W.det (.d (.v (.bool (decide (p_.Window ≤ p_.Down))))) _ rfl ?_
                      refine R.run rfl rfl rfl ?_
                      refine W.det (.d (.v (.bool (decide (p_.Window ≤ p_.Down))))) _ rfl ?_
                      refine R.one rfl ?_
                      refine W.det (.d (.v (.bool (decide (p_.Window ≤ p_.Down))))) _ rfl ?_
                      refine R.nil ?_
                      refine seqK.n ?_
                      refine A.condB rfl h (fun _ h => ?_) (fun _ h => ?_)
                      · refine A.seq rfl ?_
                        refine A.region ?_
                        refine R.one rfl ?_
                        refine W.det (.d (.v (.int .i64 (3 : Int)))) _ rfl ?_
                        refine R.nil ?_
                        refine seqK.n ?_
                        refine A.ret ?_
                        refine headK.r ?_
                        injection h with h
                        subst h
                        cases hG
                        exact ⟨rfl, trivial⟩
                      · refine A.skip ?_
                        injection h with h
                        subst h
                        exact headK.n hG (Enters.of [] [(900000, (1, 1))] _ rfl rfl (chkE.c rfl rfl trivial) (chkM.c rfl rfl trivial))
                    · refine R.skip rfl rfl rfl ?_
                      refine R.skip rfl rfl rfl ?_
                      refine R.skip rfl rfl rfl ?_
                      refine R.skip rfl rfl rfl ?_
                      refine R.run rfl rfl rfl ?_
                      refine W.det (.kb false) _ rfl ?_
                      refine R.one rfl ?_
                      refine W.det (.kb false) _ rfl ?_
                      refine R.nil ?_
                      refine seqK.n ?_
                      refine A.condF rfl ?_
                      refine A.skip ?_
                      injection h with h
                      subst h
                      exact headK.n hG (Enters.of [] [(900000, (1, 1))] _ rfl rfl (chkE.c rfl rfl trivial) (chkM.c rfl rfl trivial))
                · intro s1 r2 h hG
                  refine A.join (fun (s2 : Bool) => [(1, .lp 900000 1 0), (3, .d (.v (.bool s2)))]) (fun s2 => [(900000, .box [.d (.v (.string p_.Name)), .d (.v (.int .i64 p_.Edit)), .d (.v (.int .i64 p_.Within)), .d (.v (.int .i64 p_.Delete)), .d (.v (.bool p_.React)), .d (.v (.int .i64 p_.Thread)), .d (.v (.bool p_.Quote)), .d (.v (.bool p_.Mention)), .d (.v (.int .i64 p_.Size)), .d (.v (.int .i64 p_.Parts)), .d (.v (.int .i64 p_.Files)), .d (.v (.int .i64 p_.Bytes)), .d (.fz (List.map encS p_.Types)), .d (.v (.int .i64 p_.Join)), .d (.v (.int .i64 p_.History)), .d (.v (.int .i64 p_.Remove)), .d (.v (.int .i64 p_.Level)), .d (.v (.bool p_.Batch)), .d (.v (.int .i64 p_.Rate)), .d (.v (.int .i64 p_.Down)), .d (.v (.int .i64 p_.Window)), .d (.v (.int .i64 p_.Keep))])]) _ h hG rfl ?_ ?_
                  · intro J f h hG
                    refine A.region ?_
                    refine R.one rfl ?_
                    refine W.det (.lp 900000 1 10) _ rfl ?_
                    refine R.one rfl ?_
                    refine W.det (.d (.v (.int .i64 p_.Files))) _ rfl ?_
                    refine R.one rfl ?_
                    refine W.det (.d (.v (.bool (p_.Files == (0 : Int))))) _ rfl ?_
                    refine R.one rfl ?_
                    refine W.det (.d (.v (.bool (p_.Files == (0 : Int))))) _ rfl ?_
                    refine R.gT rfl rfl rfl h (fun _ h => ?_) (fun _ h => ?_)
                    · refine W.det (.lp 900000 1 11) _ rfl ?_
                      refine R.run rfl rfl rfl ?_
                      refine W.det (.d (.v (.int .i64 p_.Bytes))) _ rfl ?_
                      refine R.run rfl rfl rfl ?_
                      refine W.det (.d (.v (.bool (p_.Bytes == (0 : Int))))) _ rfl ?_
                      refine R.one rfl ?_
                      refine W.det (.d (.v (.bool (p_.Bytes == (0 : Int))))) _ rfl ?_
                      refine R.one rfl ?_
                      refine W.det (.d (.v (.bool (p_.Bytes == (0 : Int))))) _ rfl ?_
                      refine R.gT rfl rfl rfl h (fun _ h => ?_) (fun _ h => ?_)
                      · refine W.det (.lp 900000 1 12) _ rfl ?_
                        refine R.run rfl rfl rfl ?_
                        refine W.det (.d (.fz (List.map encS p_.Types))) _ rfl ?_
                        refine R.run rfl rfl rfl ?_
                        refine W.len rfl ?_
                        refine R.run rfl rfl rfl ?_
                        refine W.det (.d (.v (.bool ((p_.Types.length : Int) == (0 : Int))))) _ rfl ?_
                        refine R.one rfl ?_
                        refine W.det (.d (.v (.bool ((p_.Types.length : Int) == (0 : Int))))) _ rfl ?_
                        refine R.one rfl ?_
                        refine W.det (.d (.v (.bool ((p_.Types.length : Int) == (0 : Int))))) _ rfl ?_
                        refine R.nil ?_
                        injection h with h
                        subst h
                        exact headK.n hG (Enters.of [] [(900000, (900000, 1))] _ rfl rfl (chkE.c rfl rfl (chkE.c rfl rfl trivial)) (chkM.c rfl rfl trivial))
                      · refine R.skip rfl rfl rfl ?_
                        refine R.skip rfl rfl rfl ?_
                        refine R.skip rfl rfl rfl ?_
                        refine R.one rfl ?_
                        refine W.det (.kb false) _ rfl ?_
                        refine R.one rfl ?_
                        refine W.det (.kb false) _ rfl ?_
                        refine R.nil ?_
                        injection h with h
                        subst h
                        exact headK.n hG (Enters.of [] [(900000, (900000, 1))] _ rfl rfl (chkE.c rfl rfl (chkE.c rfl rfl trivial)) (chkM.c rfl rfl trivial))
                    · refine R.skip rfl rfl rfl ?_
                      refine R.skip rfl rfl rfl ?_
                      refine R.one rfl ?_
                      refine W.det (.kb false) _ rfl ?_
                      refine R.one rfl ?_
                      refine W.det (.kb false) _ rfl ?_
                      refine R.skip rfl rfl rfl ?_
                      refine R.skip rfl rfl rfl ?_
                      refine R.skip rfl rfl rfl ?_
                      refine R.skip rfl rfl rfl ?_
                      refine R.one rfl ?_
                      refine W.det (.kb false) _ rfl ?_
                      refine R.one rfl ?_
                      refine W.det (.kb false) _ rfl ?_
                      refine R.nil ?_
                      injection h with h
                      subst h
                      exact headK.n hG (Enters.of [] [(900000, (900000, 1))] _ rfl rfl (chkE.c rfl rfl (chkE.c rfl rfl trivial)) (chkM.c rfl rfl trivial))
                  · intro s2 r2 h hG
                    refine A.join (fun (s3 : Unit) => [(1, .lp 900000 1 0)]) (fun s3 => [(900000, .box [.d (.v (.string p_.Name)), .d (.v (.int .i64 p_.Edit)), .d (.v (.int .i64 p_.Within)), .d (.v (.int .i64 p_.Delete)), .d (.v (.bool p_.React)), .d (.v (.int .i64 p_.Thread)), .d (.v (.bool p_.Quote)), .d (.v (.bool p_.Mention)), .d (.v (.int .i64 p_.Size)), .d (.v (.int .i64 p_.Parts)), .d (.v (.int .i64 p_.Files)), .d (.v (.int .i64 p_.Bytes)), .d (.fz (List.map encS p_.Types)), .d (.v (.int .i64 p_.Join)), .d (.v (.int .i64 p_.History)), .d (.v (.int .i64 p_.Remove)), .d (.v (.int .i64 p_.Level)), .d (.v (.bool p_.Batch)), .d (.v (.int .i64 p_.Rate)), .d (.v (.int .i64 p_.Down)), .d (.v (.int .i64 p_.Window)), .d (.v (.int .i64 p_.Keep))])]) _ h hG rfl ?_ ?_
                    · intro J f h hG
                      refine A.seq rfl ?_
                      refine A.region ?_
                      refine R.one rfl ?_
                      refine W.det (.d (.v (.bool s2))) _ rfl ?_
                      refine R.one rfl ?_
                      refine W.det (.d (.v (.bool (!s2)))) _ rfl ?_
                      refine R.one rfl ?_
                      refine W.det (.d (.v (.bool (!s2)))) _ rfl ?_
                      refine R.gT rfl rfl rfl h (fun _ h => ?_) (fun _ h => ?_)
                      · refine W.det (.lp 900000 1 10) _ rfl ?_
                        refine R.run rfl rfl rfl ?_
                        refine W.det (.d (.v (.int .i64 p_.Files))) _ rfl ?_
                        refine R.run rfl rfl rfl ?_
                        refine W.det (.d (.v (.bool (p_.Files == (0 : Int))))) _ rfl ?_
                        refine R.run rfl rfl rfl ?_
                        refine W.det (.d (.v (.bool (p_.Files == (0 : Int))))) _ rfl ?_
                        refine R.gF rfl rfl rfl h (fun _ h => ?_) (fun _ h => ?_)
                        · refine R.skip rfl rfl rfl ?_
                          refine R.skip rfl rfl rfl ?_
                          refine R.run rfl rfl rfl ?_
                          refine W.det (.kb true) _ rfl ?_
                          refine R.run rfl rfl rfl ?_
                          refine W.det (.kb true) _ rfl ?_
                          refine R.skip rfl rfl rfl ?_
                          refine R.skip rfl rfl rfl ?_
                          refine R.skip rfl rfl rfl ?_
                          refine R.skip rfl rfl rfl ?_
                          refine R.run rfl rfl rfl ?_
                          refine W.det (.kb true) _ rfl ?_
                          refine R.one rfl ?_
                          refine W.det (.kb true) _ rfl ?_
                          refine R.nil ?_
                          refine seqK.n ?_
                          refine A.condT rfl ?_
                          refine A.seq rfl ?_
                          refine A.region ?_
                          refine R.one rfl ?_
                          refine W.det (.d (.v (.int .i64 (3 : Int)))) _ rfl ?_
                          refine R.nil ?_
                          refine seqK.n ?_
                          refine A.ret ?_
                          refine headK.r ?_
                          injection h with h
                          subst h
                          cases hG
                          exact ⟨rfl, trivial⟩
                        · refine W.det (.lp 900000 1 11) _ rfl ?_
                          refine R.run rfl rfl rfl ?_
                          refine W.det (.d (.v (.int .i64 p_.Bytes))) _ rfl ?_
                          refine R.run rfl rfl rfl ?_
                          refine W.det (.d (.v (.bool (p_.Bytes == (0 : Int))))) _ rfl ?_
                          refine R.run rfl rfl rfl ?_
                          refine W.det (.d (.v (.bool (p_.Bytes == (0 : Int))))) _ rfl ?_
                          refine R.run rfl rfl rfl ?_
                          refine W.det (.d (.v (.bool (p_.Bytes == (0 : Int))))) _ rfl ?_
                          refine R.gF rfl rfl rfl h (fun _ h => ?_) (fun _ h => ?_)
                          · refine R.skip rfl rfl rfl ?_
                            refine R.skip rfl rfl rfl ?_
                            refine R.skip rfl rfl rfl ?_
                            refine R.run rfl rfl rfl ?_
                            refine W.det (.kb true) _ rfl ?_
                            refine R.one rfl ?_
                            refine W.det (.kb true) _ rfl ?_
                            refine R.nil ?_
                            refine seqK.n ?_
                            refine A.condT rfl ?_
                            refine A.seq rfl ?_
                            refine A.region ?_
                            refine R.one rfl ?_
                            refine W.det (.d (.v (.int .i64 (3 : Int)))) _ rfl ?_
                            refine R.nil ?_
                            refine seqK.n ?_
                            refine A.ret ?_
                            refine headK.r ?_
                            injection h with h
                            subst h
                            cases hG
                            exact ⟨rfl, trivial⟩
                          · refine W.det (.lp 900000 1 12) _ rfl ?_
                            refine R.run rfl rfl rfl ?_
                            refine W.det (.d (.fz (List.map encS p_.Types))) _ rfl ?_
                            refine R.run rfl rfl rfl ?_
                            refine W.len rfl ?_
                            refine R.run rfl rfl rfl ?_
                            refine W.det (.d (.v (.bool ((p_.Types.length : Int) == (0 : Int))))) _ rfl ?_
                            refine R.run rfl rfl rfl ?_
                            refine W.det (.d (.v (.bool ((p_.Types.length : Int) == (0 : Int))))) _ rfl ?_
                            refine R.one rfl ?_
                            refine W.det (.d (.v (.bool ((p_.Types.length : Int) == (0 : Int))))) _ rfl ?_
                            refine R.nil ?_
                            refine seqK.n ?_
                            refine A.condB rfl h (fun _ h => ?_) (fun _ h => ?_)
                            · refine A.seq rfl ?_
                              refine A.region ?_
                              refine R.one rfl ?_
                              refine W.det (.d (.v (.int .i64 (3 : Int)))) _ rfl ?_
                              refine R.nil ?_
                              refine seqK.n ?_
                              refine A.ret ?_
                              refine headK.r ?_
                              injection h with h
                              subst h
                              cases hG
                              exact ⟨rfl, trivial⟩
                            · refine A.skip ?_
                              injection h with h
                              subst h
                              exact headK.n hG (Enters.of [] [(900000, (900000, 1))] _ rfl rfl (chkE.c rfl rfl trivial) (chkM.c rfl rfl trivial))
                      · refine R.skip rfl rfl rfl ?_
                        refine R.skip rfl rfl rfl ?_
                        refine R.skip rfl rfl rfl ?_
                        refine R.none_ rfl rfl rfl ?_
                        refine R.none_ rfl rfl rfl ?_
                        refine R.none_ rfl rfl rfl ?_
                        refine R.skip rfl rfl rfl ?_
                        refine R.skip rfl rfl rfl ?_
                        refine R.none_ rfl rfl rfl ?_
                        refine R.none_ rfl rfl rfl ?_
                        refine R.none_ rfl rfl rfl ?_
                        refine R.none_ rfl rfl rfl ?_
                        refine R.skip rfl rfl rfl ?_
                        refine R.one rfl ?_
                        refine W.det (.kb false) _ rfl ?_
                        refine R.nil ?_
                        refine seqK.n ?_
                        refine A.condF rfl ?_
                        refine A.skip ?_
                        injection h with h
                        subst h
                        exact headK.n hG (Enters.of [] [(900000, (900000, 1))] _ rfl rfl (chkE.c rfl rfl trivial) (chkM.c rfl rfl trivial))
                    · intro s3 r2 h hG
                      refine A.join (fun (s14 : Unit) => []) (fun s14 => []) _ h hG rfl ?_ ?_
                      · intro J f h hG
                        refine A.seq rfl ?_
                        refine A.region ?_
                        refine R.one rfl ?_
                        refine W.det (.d (.v (.int .i64 (0 : Int)))) _ rfl ?_
                        refine R.nil ?_
                        refine seqK.n ?_
                        refine A.block ?_
                        refine A.loop (fun (s15 : Int) => [(1, .lp 900000 1 0), (4, .d (.v (.int .i64 s15)))]) (fun s15 => [(900000, .box [.d (.v (.string p_.Name)), .d (.v (.int .i64 p_.Edit)), .d (.v (.int .i64 p_.Within)), .d (.v (.int .i64 p_.Delete)), .d (.v (.bool p_.React)), .d (.v (.int .i64 p_.Thread)), .d (.v (.bool p_.Quote)), .d (.v (.bool p_.Mention)), .d (.v (.int .i64 p_.Size)), .d (.v (.int .i64 p_.Parts)), .d (.v (.int .i64 p_.Files)), .d (.v (.int .i64 p_.Bytes)), .d (.fz (List.map encS p_.Types)), .d (.v (.int .i64 p_.Join)), .d (.v (.int .i64 p_.History)), .d (.v (.int .i64 p_.Remove)), .d (.v (.int .i64 p_.Level)), .d (.v (.bool p_.Batch)), .d (.v (.int .i64 p_.Rate)), .d (.v (.int .i64 p_.Down)), .d (.v (.int .i64 p_.Window)), .d (.v (.int .i64 p_.Keep))])]) _ h hG (Enters.of [] [(900000, (900000, 1))] _ rfl rfl (chkE.c rfl rfl (chkE.c rfl rfl trivial)) (chkM.c rfl rfl trivial)) ?_
                        intro J s15 f h hG
                        unfold ref13_Check_L2 at h
                        refine A.seq rfl ?_
                        refine A.seq rfl ?_
                        refine A.region ?_
                        refine R.one rfl ?_
                        refine W.det (.d (.v (.int .i64 s15))) _ rfl ?_
                        refine R.one rfl ?_
                        refine W.det (.lp 900000 1 12) _ rfl ?_
                        refine R.one rfl ?_
                        refine W.det (.d (.fz (List.map encS p_.Types))) _ rfl ?_
                        refine R.one rfl ?_
                        refine W.len rfl ?_
                        refine R.one rfl ?_
                        refine W.det (.d (.v (.bool (decide (s15 < (p_.Types.length : Int)))))) _ rfl ?_
                        refine R.nil ?_
                        refine seqK.n ?_
                        refine A.condB rfl h (fun _ h => ?_) (fun _ h => ?_)
                        · refine A.skip ?_
                          refine seqK.n ?_
                          refine A.join (fun (s23 : Unit) => [(1, .lp 900000 1 0), (4, .d (.v (.int .i64 s15)))]) (fun s23 => [(900000, .box [.d (.v (.string p_.Name)), .d (.v (.int .i64 p_.Edit)), .d (.v (.int .i64 p_.Within)), .d (.v (.int .i64 p_.Delete)), .d (.v (.bool p_.React)), .d (.v (.int .i64 p_.Thread)), .d (.v (.bool p_.Quote)), .d (.v (.bool p_.Mention)), .d (.v (.int .i64 p_.Size)), .d (.v (.int .i64 p_.Parts)), .d (.v (.int .i64 p_.Files)), .d (.v (.int .i64 p_.Bytes)), .d (.fz (List.map encS p_.Types)), .d (.v (.int .i64 p_.Join)), .d (.v (.int .i64 p_.History)), .d (.v (.int .i64 p_.Remove)), .d (.v (.int .i64 p_.Level)), .d (.v (.bool p_.Batch)), .d (.v (.int .i64 p_.Rate)), .d (.v (.int .i64 p_.Down)), .d (.v (.int .i64 p_.Window)), .d (.v (.int .i64 p_.Keep))])]) _ h hG rfl ?_ ?_
                          · intro J f h hG
                            refine A.block ?_
                            refine A.seq rfl ?_
                            refine A.region ?_
                            refine R.one rfl ?_
                            refine W.det (.d (.v (.int .i64 (0 : Int)))) _ rfl ?_
                            refine R.nil ?_
                            refine seqK.n ?_
                            refine A.block ?_
                            refine A.loop (fun (s24 : Int) => [(1, .lp 900000 1 0), (4, .d (.v (.int .i64 s15))), (5, .d (.v (.int .i64 s24)))]) (fun s24 => [(900000, .box [.d (.v (.string p_.Name)), .d (.v (.int .i64 p_.Edit)), .d (.v (.int .i64 p_.Within)), .d (.v (.int .i64 p_.Delete)), .d (.v (.bool p_.React)), .d (.v (.int .i64 p_.Thread)), .d (.v (.bool p_.Quote)), .d (.v (.bool p_.Mention)), .d (.v (.int .i64 p_.Size)), .d (.v (.int .i64 p_.Parts)), .d (.v (.int .i64 p_.Files)), .d (.v (.int .i64 p_.Bytes)), .d (.fz (List.map encS p_.Types)), .d (.v (.int .i64 p_.Join)), .d (.v (.int .i64 p_.History)), .d (.v (.int .i64 p_.Remove)), .d (.v (.int .i64 p_.Level)), .d (.v (.bool p_.Batch)), .d (.v (.int .i64 p_.Rate)), .d (.v (.int .i64 p_.Down)), .d (.v (.int .i64 p_.Window)), .d (.v (.int .i64 p_.Keep))])]) _ h hG (Enters.of [] [(900000, (900000, 1))] _ rfl rfl (chkE.c rfl rfl (chkE.c rfl rfl (chkE.c rfl rfl trivial))) (chkM.c rfl rfl trivial)) ?_
                            intro J s24 f h hG
                            unfold ref13_Check_L1 at h
                            refine A.seq rfl ?_
                            refine A.seq rfl ?_
                            refine A.region ?_
                            refine R.one rfl ?_
                            refine W.det (.d (.v (.int .i64 s24))) _ rfl ?_
                            refine R.one rfl ?_
                            refine W.det (.d (.v (.int .i64 s15))) _ rfl ?_
                            refine R.one rfl ?_
                            refine W.det (.d (.v (.bool (decide (s24 < s15))))) _ rfl ?_
                            refine R.nil ?_
                            refine seqK.n ?_
                            refine A.condB rfl h (fun _ h => ?_) (fun _ h => ?_)
                            · refine A.skip ?_
                              refine seqK.n ?_
                              refine A.seq rfl ?_
                              refine A.block ?_
                              refine A.seq rfl ?_
                              refine A.regionD (by kernel_rfl) ?_
                              refine R.one rfl ?_
                              refine W.det (.lp 900000 1 12) _ rfl ?_
                              refine R.one rfl ?_
                              refine W.det (.d (.fz (List.map encS p_.Types))) _ rfl ?_
                              refine R.one rfl ?_
                              refine W.det (.d (.v (.int .i64 s15))) _ rfl ?_
                              refine R.one rfl ?_
                              refine bindK h fun x137 hx137 h => ?_
                              refine W.chk rfl (elemB hx137) ?_
                              refine W.elem rfl (elemG hx137) ?_
                              refine W.chk rfl rfl ?_
                              refine W.det (.fp [.v (.string x137)]) _ rfl ?_
                              refine R.one rfl ?_
                              refine W.det (.d (.v (.string x137))) _ rfl ?_
                              refine R.one rfl ?_
                              refine W.det (.lp 900000 1 12) _ rfl ?_
                              refine R.one rfl ?_
                              refine W.det (.d (.fz (List.map encS p_.Types))) _ rfl ?_
                              refine R.one rfl ?_
                              refine W.det (.d (.v (.int .i64 s24))) _ rfl ?_
                              refine R.one rfl ?_
                              refine bindK h fun x138 hx138 h => ?_
                              refine W.chk rfl (elemB hx138) ?_
                              refine W.elem rfl (elemG hx138) ?_
                              refine W.chk rfl rfl ?_
                              refine W.det (.fp [.v (.string x138)]) _ rfl ?_
                              refine R.one rfl ?_
                              refine W.det (.d (.v (.string x138))) _ rfl ?_
                              refine R.one rfl ?_
                              refine W.det (.d (.v (.bool (x137.toList == x138.toList)))) _ rfl ?_
                              refine R.nil ?_
                              refine seqK.n ?_
                              refine A.condB rfl h (fun _ h => ?_) (fun _ h => ?_)
                              · refine A.seq rfl ?_
                                refine A.region ?_
                                refine R.one rfl ?_
                                refine W.det (.d (.v (.int .i64 (5 : Int)))) _ rfl ?_
                                refine R.nil ?_
                                refine seqK.n ?_
                                refine A.ret ?_
                                refine blockK.r ?_
                                refine seqK.r ?_
                                refine headK.r ?_
                                refine blockK.r ?_
                                refine blockK.r ?_
                                refine headK.r ?_
                                refine headK.r ?_
                                refine blockK.r ?_
                                refine headK.r ?_
                                injection h with h
                                subst h
                                cases hG
                                exact ⟨rfl, trivial⟩
                              · refine A.skip ?_
                                refine blockK.n ?_
                                refine seqK.n ?_
                                refine A.region ?_
                                refine R.one rfl ?_
                                refine W.det (.d (.v (.int .i64 s24))) _ rfl ?_
                                refine R.one rfl ?_
                                refine W.det (.d (.v (.int .i64 (IntKind.i64.wrap (s24 + (1 : Int)))))) _ rfl ?_
                                refine R.one rfl ?_
                                refine W.det (.d (.v (.int .i64 (IntKind.i64.wrap (s24 + (1 : Int)))))) _ rfl ?_
                                refine R.nil ?_
                                injection h with h
                                subst h
                                exact headK.n hG (Enters.of [] [(900000, (900000, 1))] _ rfl rfl (chkE.c rfl rfl (chkE.c rfl rfl (chkE.c rfl rfl trivial))) (chkM.c rfl rfl trivial))
                            · refine A.exit ?_
                              refine seqK.e ?_
                              refine headK.e ?_
                              refine blockK.x ?_
                              refine blockK.n ?_
                              injection h with h
                              subst h
                              exact headK.n hG (Enters.of [] [(900000, (900000, 1))] _ rfl rfl (chkE.c rfl rfl (chkE.c rfl rfl trivial)) (chkM.c rfl rfl trivial))
                          · intro s23 r2 h hG
                            refine A.region ?_
                            refine R.one rfl ?_
                            refine W.det (.d (.v (.int .i64 s15))) _ rfl ?_
                            refine R.one rfl ?_
                            refine W.det (.d (.v (.int .i64 (IntKind.i64.wrap (s15 + (1 : Int)))))) _ rfl ?_
                            refine R.one rfl ?_
                            refine W.det (.d (.v (.int .i64 (IntKind.i64.wrap (s15 + (1 : Int)))))) _ rfl ?_
                            refine R.nil ?_
                            injection h with h
                            subst h
                            exact headK.n hG (Enters.of [] [(900000, (900000, 1))] _ rfl rfl (chkE.c rfl rfl (chkE.c rfl rfl trivial)) (chkM.c rfl rfl trivial))
                        · refine A.exit ?_
                          refine seqK.e ?_
                          refine headK.e ?_
                          refine blockK.x ?_
                          injection h with h
                          subst h
                          exact headK.n hG (Enters.of [] [] _ rfl rfl trivial trivial)
                      · intro s14 r2 h hG
                        refine A.seq rfl ?_
                        refine A.region ?_
                        refine R.one rfl ?_
                        refine W.det (.d (.v (.int .i64 (0 : Int)))) _ rfl ?_
                        refine R.nil ?_
                        refine seqK.n ?_
                        refine A.ret ?_
                        injection h with h
                        subst h
                        cases hG
                        exact ⟨rfl, trivial⟩
noncomputable def ref29_Right_L1 (s12 : (Int)) (jobs_ : (List api_Job)) (x78 : api_Job) (s21 : Int) : Option ((Int) ⊕ ((Unit) ⊕ ((Int) ⊕ ((Unit) ⊕ (Bool))))) :=
  (bif (decide (s21 < s12)) then
    (getI jobs_ s21).bind fun x84 =>
    (bif (x84.Id == x78.Id) then
      some (.inr (.inr (.inr (.inr false))))
    else
      some (.inl (IntKind.i64.wrap (s21 + (1 : Int)))))
  else
    some (.inr (.inl ())))
noncomputable def ref29_Right_L2 (jobs_ : (List api_Job)) (s12 : Int) : Option ((Int) ⊕ ((Unit) ⊕ (Bool))) :=
  (bif (decide (s12 < (jobs_.length : Int))) then
    (seqF (A := Unit) (
      (getI jobs_ s12).bind fun x78 =>
      (bif (decide (x78.Id < (0 : Int))) then
        some (.inr (.inr (.inr false)))
      else
        (bif (decide (x78.Size < (1 : Int))) then
          some (.inr (.inr (.inr false)))
        else
          (bif (decide ((1099511627776 : Int) < x78.Size)) then
            some (.inr (.inr (.inr false)))
          else
            (bif (decide (x78.Due < (0 : Int))) then
              some (.inr (.inr (.inr false)))
            else
              (bif (decide ((1073741824 : Int) < x78.Due)) then
                some (.inr (.inr (.inr false)))
              else
                loopF (ref29_Right_L1 s12 jobs_ x78) (0 : Int)))))))
    fun s20 =>
      some (.inl (IntKind.i64.wrap (s12 + (1 : Int)))))
  else
    some (.inr (.inl ())))
noncomputable def ref29_Right (jobs_ : (List api_Job)) : Option (Bool) :=
  (seqF (A := Unit) (
    loopF (ref29_Right_L2 jobs_) (0 : Int))
  fun s11 =>
    some (decide ((jobs_.length : Int) ≤ (1000 : Int))))
theorem ref29_Right_fn {jobs_ : (List api_Job)} {r : Bool} (h : ref29_Right jobs_ = some r) : Fn Try.prog 41 [.d (.fz (List.map api_Job.enc jobs_))] (.d (.v (.bool r))) := by
  refine Fn.of_AW (F := FnX Try.prog) (base := 0) (js := [3, 12]) mixed tok noeqs (fun _ _ _ h => h) Try.call41 Try.func41 rfl Try.ntmps41 (by rw [Try.results41]) (by simp) ?_
  have hG : (fun x => x = r) r := rfl
  unfold ref29_Right at h
  refine A.seq rfl ?_
  refine A.region ?_
  refine R.one rfl ?_
  refine W.det (.kb false) _ rfl ?_
  refine R.nil ?_
  refine seqK.n ?_
  refine A.join (fun (s11 : Unit) => [(0, .d (.fz (List.map api_Job.enc jobs_)))]) (fun s11 => []) _ h hG rfl ?_ ?_
  · intro J f h hG
    refine A.seq rfl ?_
    refine A.region ?_
    refine R.one rfl ?_
    refine W.det (.d (.v (.int .i64 (0 : Int)))) _ rfl ?_
    refine R.nil ?_
    refine seqK.n ?_
    refine A.block ?_
    refine A.loop (fun (s12 : Int) => [(0, .d (.fz (List.map api_Job.enc jobs_))), (3, .d (.v (.int .i64 s12)))]) (fun s12 => []) _ h hG (Enters.of [] [] _ rfl rfl (chkE.c rfl rfl (chkE.c rfl rfl trivial)) trivial) ?_
    intro J s12 f h hG
    unfold ref29_Right_L2 at h
    refine A.seq rfl ?_
    refine A.seq rfl ?_
    refine A.region ?_
    refine R.one rfl ?_
    refine W.det (.d (.v (.int .i64 s12))) _ rfl ?_
    refine R.one rfl ?_
    refine W.det (.d (.fz (List.map api_Job.enc jobs_))) _ rfl ?_
    refine R.one rfl ?_
    refine W.len rfl ?_
    refine R.one rfl ?_
    refine W.det (.d (.v (.bool (decide (s12 < (jobs_.length : Int)))))) _ rfl ?_
    refine R.nil ?_
    refine seqK.n ?_
    refine A.condB rfl h (fun _ h => ?_) (fun _ h => ?_)
    · refine A.skip ?_
      refine seqK.n ?_
      refine A.join (fun (s20 : Unit) => [(0, .d (.fz (List.map api_Job.enc jobs_))), (3, .d (.v (.int .i64 s12)))]) (fun s20 => []) _ h hG rfl ?_ ?_
      · intro J f h hG
        refine A.block ?_
        refine A.seq rfl ?_
        refine A.region ?_
        refine R.one rfl ?_
        refine W.det (.d (.fz (List.map api_Job.enc jobs_))) _ rfl ?_
        refine R.one rfl ?_
        refine W.det (.d (.v (.int .i64 s12))) _ rfl ?_
        refine R.one rfl ?_
        refine bindK h fun x78 hx78 h => ?_
        refine W.chk rfl (elemB hx78) ?_
        refine W.elem rfl (elemG hx78) ?_
        refine W.chk rfl rfl ?_
        refine W.det (.fp [.v (.int .i64 x78.Id), .v (.int .i64 x78.Size), .v (.int .i64 x78.Due)]) _ rfl ?_
        refine R.one rfl ?_
        refine W.det (.agg [.d (.v (.int .i64 x78.Id)), .d (.v (.int .i64 x78.Size)), .d (.v (.int .i64 x78.Due))]) _ rfl ?_
        refine R.one rfl ?_
        refine W.det (.lp 4 2 0) (Mem.add _ 4 (.box [.d (.v (.int .i64 (0 : Int))), .d (.v (.int .i64 (0 : Int))), .d (.v (.int .i64 (0 : Int)))])) rfl ?_
        refine R.one rfl ?_
        refine W.det (.tup []) (Mem.set _ 4 2 (some (.box [.d (.v (.int .i64 x78.Id)), .d (.v (.int .i64 x78.Size)), .d (.v (.int .i64 x78.Due))]))) rfl ?_
        refine R.nil ?_
        refine seqK.n ?_
        refine A.seq rfl ?_
        refine A.seq rfl ?_
        refine A.region ?_
        refine R.one rfl ?_
        refine W.det (.lp 4 2 0) _ rfl ?_
        refine R.one rfl ?_
        refine W.det (.d (.v (.int .i64 x78.Id))) _ rfl ?_
        refine R.one rfl ?_
        refine W.det (.d (.v (.bool (decide (x78.Id < (0 : Int)))))) _ rfl ?_
        refine R.one rfl ?_
        refine W.det (.d (.v (.bool (decide (x78.Id < (0 : Int)))))) _ rfl ?_
        refine R.gF rfl rfl rfl h (fun _ h => ?_) (fun _ h => ?_)
        · refine R.skip rfl rfl rfl ?_
          refine R.skip rfl rfl rfl ?_
          refine R.one rfl ?_
          refine W.det (.kb true) _ rfl ?_
          refine R.one rfl ?_
          refine W.det (.kb true) _ rfl ?_
          refine R.skip rfl rfl rfl ?_
          refine R.skip rfl rfl rfl ?_
          refine R.skip rfl rfl rfl ?_
          refine R.one rfl ?_
          refine W.det (.kb true) _ rfl ?_
          refine R.one rfl ?_
          refine W.det (.kb true) _ rfl ?_
          refine R.skip rfl rfl rfl ?_
          refine R.skip rfl rfl rfl ?_
          refine R.skip rfl rfl rfl ?_
          refine R.one rfl ?_
          refine W.det (.kb true) _ rfl ?_
          refine R.one rfl ?_
          refine W.det (.kb true) _ rfl ?_
          refine R.skip rfl rfl rfl ?_
          refine R.skip rfl rfl rfl ?_
          refine R.skip rfl rfl rfl ?_
          refine R.one rfl ?_
          refine W.det (.kb true) _ rfl ?_
          refine R.nil ?_
          refine seqK.n ?_
          refine A.condT rfl ?_
          refine A.seq rfl ?_
          refine A.region ?_
          refine R.one rfl ?_
          refine W.det (.kb false) _ rfl ?_
          refine R.nil ?_
          refine seqK.n ?_
          refine A.ret ?_
          refine seqK.r ?_
          refine blockK.r ?_
          refine headK.r ?_
          refine headK.r ?_
          refine blockK.r ?_
          refine headK.r ?_
          injection h with h
          subst h
          cases hG
          exact ⟨rfl, trivial⟩
        · refine W.det (.lp 4 2 1) _ rfl ?_
          refine R.run rfl rfl rfl ?_
          refine W.det (.d (.v (.int .i64 x78.Size))) _ rfl ?_
          refine R.run rfl rfl rfl ?_
          refine W.det (.d (.v (.bool (decide (x78.Size < (1 : Int)))))) _ rfl ?_
          refine R.one rfl ?_
          refine W.det (.d (.v (.bool (decide (x78.Size < (1 : Int)))))) _ rfl ?_
          refine R.one rfl ?_
          refine W.det (.d (.v (.bool (decide (x78.Size < (1 : Int)))))) _ rfl ?_
          refine R.gF rfl rfl rfl h (fun _ h => ?_) (fun _ h => ?_)
          · refine R.skip rfl rfl rfl ?_
            refine R.skip rfl rfl rfl ?_
            refine R.one rfl ?_
            refine W.det (.kb true) _ rfl ?_
            refine R.one rfl ?_
            refine W.det (.kb true) _ rfl ?_
            refine R.skip rfl rfl rfl ?_
            refine R.skip rfl rfl rfl ?_
            refine R.skip rfl rfl rfl ?_
            refine R.one rfl ?_
            refine W.det (.kb true) _ rfl ?_
            refine R.one rfl ?_
            refine W.det (.kb true) _ rfl ?_
            refine R.skip rfl rfl rfl ?_
            refine R.skip rfl rfl rfl ?_
            refine R.skip rfl rfl rfl ?_
            refine R.one rfl ?_
            refine W.det (.kb true) _ rfl ?_
            refine R.nil ?_
            refine seqK.n ?_
            refine A.condT rfl ?_
            refine A.seq rfl ?_
            refine A.region ?_
            refine R.one rfl ?_
            refine W.det (.kb false) _ rfl ?_
            refine R.nil ?_
            refine seqK.n ?_
            refine A.ret ?_
            refine seqK.r ?_
            refine blockK.r ?_
            refine headK.r ?_
            refine headK.r ?_
            refine blockK.r ?_
            refine headK.r ?_
            injection h with h
            subst h
            cases hG
            exact ⟨rfl, trivial⟩
          · refine W.det (.lp 4 2 1) _ rfl ?_
            refine R.run rfl rfl rfl ?_
            refine W.det (.d (.v (.int .i64 x78.Size))) _ rfl ?_
            refine R.run rfl rfl rfl ?_
            refine W.det (.d (.v (.bool (decide ((1099511627776 : Int) < x78.Size))))) _ rfl ?_
            refine R.one rfl ?_
            refine W.det (.d (.v (.bool (decide ((1099511627776 : Int) < x78.Size))))) _ rfl ?_
            refine R.one rfl ?_
            refine W.det (.d (.v (.bool (decide ((1099511627776 : Int) < x78.Size))))) _ rfl ?_
            refine R.gF rfl rfl rfl h (fun _ h => ?_) (fun _ h => ?_)
            · refine R.skip rfl rfl rfl ?_
              refine R.skip rfl rfl rfl ?_
              refine R.one rfl ?_
              refine W.det (.kb true) _ rfl ?_
              refine R.one rfl ?_
              refine W.det (.kb true) _ rfl ?_
              refine R.skip rfl rfl rfl ?_
              refine R.skip rfl rfl rfl ?_
              refine R.skip rfl rfl rfl ?_
              refine R.one rfl ?_
              refine W.det (.kb true) _ rfl ?_
              refine R.nil ?_
              refine seqK.n ?_
              refine A.condT rfl ?_
              refine A.seq rfl ?_
              refine A.region ?_
              refine R.one rfl ?_
              refine W.det (.kb false) _ rfl ?_
              refine R.nil ?_
              refine seqK.n ?_
              refine A.ret ?_
              refine seqK.r ?_
              refine blockK.r ?_
              refine headK.r ?_
              refine headK.r ?_
              refine blockK.r ?_
              refine headK.r ?_
              injection h with h
              subst h
              cases hG
              exact ⟨rfl, trivial⟩
            · refine W.det (.lp 4 2 2) _ rfl ?_
              refine R.run rfl rfl rfl ?_
              refine W.det (.d (.v (.int .i64 x78.Due))) _ rfl ?_
              refine R.run rfl rfl rfl ?_
              refine W.det (.d (.v (.bool (decide (x78.Due < (0 : Int)))))) _ rfl ?_
              refine R.one rfl ?_
              refine W.det (.d (.v (.bool (decide (x78.Due < (0 : Int)))))) _ rfl ?_
              refine R.one rfl ?_
              refine W.det (.d (.v (.bool (decide (x78.Due < (0 : Int)))))) _ rfl ?_
              refine R.gF rfl rfl rfl h (fun _ h => ?_) (fun _ h => ?_)
              · refine R.skip rfl rfl rfl ?_
                refine R.skip rfl rfl rfl ?_
                refine R.one rfl ?_
                refine W.det (.kb true) _ rfl ?_
                refine R.nil ?_
                refine seqK.n ?_
                refine A.condT rfl ?_
                refine A.seq rfl ?_
                refine A.region ?_
                refine R.one rfl ?_
                refine W.det (.kb false) _ rfl ?_
                refine R.nil ?_
                refine seqK.n ?_
                refine A.ret ?_
                refine seqK.r ?_
                refine blockK.r ?_
                refine headK.r ?_
                refine headK.r ?_
                refine blockK.r ?_
                refine headK.r ?_
                injection h with h
                subst h
                cases hG
                exact ⟨rfl, trivial⟩
              · refine W.det (.lp 4 2 2) _ rfl ?_
                refine R.run rfl rfl rfl ?_
                refine W.det (.d (.v (.int .i64 x78.Due))) _ rfl ?_
                refine R.run rfl rfl rfl ?_
                refine W.det (.d (.v (.bool (decide ((1073741824 : Int) < x78.Due))))) _ rfl ?_
                refine R.one rfl ?_
                refine W.det (.d (.v (.bool (decide ((1073741824 : Int) < x78.Due))))) _ rfl ?_
                refine R.nil ?_
                refine seqK.n ?_
                refine A.condB rfl h (fun _ h => ?_) (fun _ h => ?_)
                · refine A.seq rfl ?_
                  refine A.region ?_
                  refine R.one rfl ?_
                  refine W.det (.kb false) _ rfl ?_
                  refine R.nil ?_
                  refine seqK.n ?_
                  refine A.ret ?_
                  refine seqK.r ?_
                  refine blockK.r ?_
                  refine headK.r ?_
                  refine headK.r ?_
                  refine blockK.r ?_
                  refine headK.r ?_
                  injection h with h
                  subst h
                  cases hG
                  exact ⟨rfl, trivial⟩
                · refine A.skip ?_
                  refine seqK.n ?_
                  refine A.seq rfl ?_
                  refine A.region ?_
                  refine R.one rfl ?_
                  refine W.det (.d (.v (.int .i64 (0 : Int)))) _ rfl ?_
                  refine R.nil ?_
                  refine seqK.n ?_
                  refine A.block ?_
                  refine A.loop (fun (s21 : Int) => [(0, .d (.fz (List.map api_Job.enc jobs_))), (3, .d (.v (.int .i64 s12))), (4, .lp 900000 1 0), (5, .d (.v (.int .i64 s21)))]) (fun s21 => [(900000, .box [.d (.v (.int .i64 x78.Id)), .d (.v (.int .i64 x78.Size)), .d (.v (.int .i64 x78.Due))])]) _ h hG (Enters.of [] [(900000, (4, 2))] _ rfl rfl (chkE.c rfl rfl (chkE.c rfl rfl (chkE.c rfl rfl (chkE.c rfl rfl trivial)))) (chkM.c rfl rfl trivial)) ?_
                  intro J s21 f h hG
                  unfold ref29_Right_L1 at h
                  refine A.seq rfl ?_
                  refine A.seq rfl ?_
                  refine A.region ?_
                  refine R.one rfl ?_
                  refine W.det (.d (.v (.int .i64 s21))) _ rfl ?_
                  refine R.one rfl ?_
                  refine W.det (.d (.v (.int .i64 s12))) _ rfl ?_
                  refine R.one rfl ?_
                  refine W.det (.d (.v (.bool (decide (s21 < s12))))) _ rfl ?_
                  refine R.nil ?_
                  refine seqK.n ?_
                  refine A.condB rfl h (fun _ h => ?_) (fun _ h => ?_)
                  · refine A.skip ?_
                    refine seqK.n ?_
                    refine A.seq rfl ?_
                    refine A.block ?_
                    refine A.seq rfl ?_
                    refine A.regionD (by kernel_rfl) ?_
                    refine R.one rfl ?_
                    refine W.det (.d (.fz (List.map api_Job.enc jobs_))) _ rfl ?_
                    refine R.one rfl ?_
                    refine W.det (.d (.v (.int .i64 s21))) _ rfl ?_
                    refine R.one rfl ?_
                    refine bindK h fun x84 hx84 h => ?_
                    refine W.chk rfl (elemB hx84) ?_
                    refine W.elem rfl (elemG hx84) ?_
                    refine W.chk rfl rfl ?_
                    refine W.det (.fp [.v (.int .i64 x84.Id), .v (.int .i64 x84.Size), .v (.int .i64 x84.Due)]) _ rfl ?_
                    refine R.one rfl ?_
                    refine W.det (.fp [.v (.int .i64 x84.Id), .v (.int .i64 x84.Size), .v (.int .i64 x84.Due)]) _ rfl ?_
                    refine R.one rfl ?_
                    refine W.det (.d (.v (.int .i64 x84.Id))) _ rfl ?_
                    refine R.one rfl ?_
                    refine W.det (.lp 900000 1 0) _ rfl ?_
                    refine R.one rfl ?_
                    refine W.det (.d (.v (.int .i64 x78.Id))) _ rfl ?_
                    refine R.one rfl ?_
                    refine W.det (.d (.v (.bool (x84.Id == x78.Id)))) _ rfl ?_
                    refine R.nil ?_
                    refine seqK.n ?_
                    refine A.condB rfl h (fun _ h => ?_) (fun _ h => ?_)
                    · refine A.seq rfl ?_
                      refine A.region ?_
                      refine R.one rfl ?_
                      refine W.det (.kb false) _ rfl ?_
                      refine R.nil ?_
                      refine seqK.n ?_
                      refine A.ret ?_
                      refine blockK.r ?_
                      refine seqK.r ?_
                      refine headK.r ?_
                      refine blockK.r ?_
                      refine blockK.r ?_
                      refine headK.r ?_
                      refine headK.r ?_
                      refine blockK.r ?_
                      refine headK.r ?_
                      injection h with h
                      subst h
                      cases hG
                      exact ⟨rfl, trivial⟩
                    · refine A.skip ?_
                      refine blockK.n ?_
                      refine seqK.n ?_
                      refine A.region ?_
                      refine R.one rfl ?_
                      refine W.det (.d (.v (.int .i64 s21))) _ rfl ?_
                      refine R.one rfl ?_
                      refine W.det (.d (.v (.int .i64 (IntKind.i64.wrap (s21 + (1 : Int)))))) _ rfl ?_
                      refine R.one rfl ?_
                      refine W.det (.d (.v (.int .i64 (IntKind.i64.wrap (s21 + (1 : Int)))))) _ rfl ?_
                      refine R.nil ?_
                      injection h with h
                      subst h
                      exact headK.n hG (Enters.of [] [(900000, (900000, 1))] _ rfl rfl (chkE.c rfl rfl (chkE.c rfl rfl (chkE.c rfl rfl (chkE.c rfl rfl trivial)))) (chkM.c rfl rfl trivial))
                  · refine A.exit ?_
                    refine seqK.e ?_
                    refine headK.e ?_
                    refine blockK.x ?_
                    refine blockK.n ?_
                    injection h with h
                    subst h
                    exact headK.n hG (Enters.of [] [] _ rfl rfl (chkE.c rfl rfl (chkE.c rfl rfl trivial)) trivial)
      · intro s20 r2 h hG
        refine A.region ?_
        refine R.one rfl ?_
        refine W.det (.d (.v (.int .i64 s12))) _ rfl ?_
        refine R.one rfl ?_
        refine W.det (.d (.v (.int .i64 (IntKind.i64.wrap (s12 + (1 : Int)))))) _ rfl ?_
        refine R.one rfl ?_
        refine W.det (.d (.v (.int .i64 (IntKind.i64.wrap (s12 + (1 : Int)))))) _ rfl ?_
        refine R.nil ?_
        injection h with h
        subst h
        exact headK.n hG (Enters.of [] [] _ rfl rfl (chkE.c rfl rfl (chkE.c rfl rfl trivial)) trivial)
    · refine A.exit ?_
      refine seqK.e ?_
      refine headK.e ?_
      refine blockK.x ?_
      injection h with h
      subst h
      exact headK.n hG (Enters.of [] [] _ rfl rfl (chkE.c rfl rfl trivial) trivial)
  · intro s11 r2 h hG
    refine A.seq rfl ?_
    refine A.region ?_
    refine R.one rfl ?_
    refine W.det (.d (.fz (List.map api_Job.enc jobs_))) _ rfl ?_
    refine R.one rfl ?_
    refine W.len rfl ?_
    refine R.one rfl ?_
    refine W.det (.d (.v (.bool (decide ((jobs_.length : Int) ≤ (1000 : Int)))))) _ rfl ?_
    refine R.one rfl ?_
    refine W.det (.d (.v (.bool (decide ((jobs_.length : Int) ≤ (1000 : Int)))))) _ rfl ?_
    refine R.nil ?_
    refine seqK.n ?_
    refine A.ret ?_
    injection h with h
    subst h
    cases hG
    exact ⟨rfl, trivial⟩
noncomputable def ref29_valid (p_ : api_Profile) (jobs_ : (List api_Job)) (now_ : Int) : Option (Bool) :=
  (ref13_Check p_).bind fun y1 =>
  (bif (y1 == (0 : Int)) then
    (ref29_Right jobs_).bind fun y2 =>
    (bif y2 then
      (bif (decide ((0 : Int) ≤ now_)) then
        some (decide (now_ ≤ (1073741824 : Int)))
      else
        some false)
    else
      some false)
  else
    some false)
theorem ref29_valid_fn {p_ : api_Profile} {jobs_ : (List api_Job)} {now_ : Int} {r : Bool} (h : ref29_valid p_ jobs_ now_ = some r) : Fn Try.prog 26 [.agg [.d (.v (.string p_.Name)), .d (.v (.int .i64 p_.Edit)), .d (.v (.int .i64 p_.Within)), .d (.v (.int .i64 p_.Delete)), .d (.v (.bool p_.React)), .d (.v (.int .i64 p_.Thread)), .d (.v (.bool p_.Quote)), .d (.v (.bool p_.Mention)), .d (.v (.int .i64 p_.Size)), .d (.v (.int .i64 p_.Parts)), .d (.v (.int .i64 p_.Files)), .d (.v (.int .i64 p_.Bytes)), .d (.fz (List.map encS p_.Types)), .d (.v (.int .i64 p_.Join)), .d (.v (.int .i64 p_.History)), .d (.v (.int .i64 p_.Remove)), .d (.v (.int .i64 p_.Level)), .d (.v (.bool p_.Batch)), .d (.v (.int .i64 p_.Rate)), .d (.v (.int .i64 p_.Down)), .d (.v (.int .i64 p_.Window)), .d (.v (.int .i64 p_.Keep))], .d (.fz (List.map api_Job.enc jobs_)), .d (.v (.int .i64 now_))] (.d (.v (.bool r))) := by
  refine Fn.of_AW (F := FnX Try.prog) (base := 0) (js := []) mixed tok noeqs (fun _ _ _ h => h) Try.call26 Try.func26 rfl Try.ntmps26 (by rw [Try.results26]) (by simp) ?_
  have hG : (fun x => x = r) r := rfl
  unfold ref29_valid at h
  refine A.seq rfl ?_
  refine A.region ?_
  refine R.one rfl ?_
  refine W.det (.lp 3 1 0) (Mem.add _ 3 (.box [.d (.v (.string p_.Name)), .d (.v (.int .i64 p_.Edit)), .d (.v (.int .i64 p_.Within)), .d (.v (.int .i64 p_.Delete)), .d (.v (.bool p_.React)), .d (.v (.int .i64 p_.Thread)), .d (.v (.bool p_.Quote)), .d (.v (.bool p_.Mention)), .d (.v (.int .i64 p_.Size)), .d (.v (.int .i64 p_.Parts)), .d (.v (.int .i64 p_.Files)), .d (.v (.int .i64 p_.Bytes)), .d (.fz (List.map encS p_.Types)), .d (.v (.int .i64 p_.Join)), .d (.v (.int .i64 p_.History)), .d (.v (.int .i64 p_.Remove)), .d (.v (.int .i64 p_.Level)), .d (.v (.bool p_.Batch)), .d (.v (.int .i64 p_.Rate)), .d (.v (.int .i64 p_.Down)), .d (.v (.int .i64 p_.Window)), .d (.v (.int .i64 p_.Keep))])) rfl ?_
  refine R.one rfl ?_
  refine W.det (.kb false) _ rfl ?_
  refine R.nil ?_
  refine seqK.n ?_
  refine A.seq rfl ?_
  refine A.region ?_
  refine R.one rfl ?_
  refine W.det (.agg [.d (.v (.string p_.Name)), .d (.v (.int .i64 p_.Edit)), .d (.v (.int .i64 p_.Within)), .d (.v (.int .i64 p_.Delete)), .d (.v (.bool p_.React)), .d (.v (.int .i64 p_.Thread)), .d (.v (.bool p_.Quote)), .d (.v (.bool p_.Mention)), .d (.v (.int .i64 p_.Size)), .d (.v (.int .i64 p_.Parts)), .d (.v (.int .i64 p_.Files)), .d (.v (.int .i64 p_.Bytes)), .d (.fz (List.map encS p_.Types)), .d (.v (.int .i64 p_.Join)), .d (.v (.int .i64 p_.History)), .d (.v (.int .i64 p_.Remove)), .d (.v (.int .i64 p_.Level)), .d (.v (.bool p_.Batch)), .d (.v (.int .i64 p_.Rate)), .d (.v (.int .i64 p_.Down)), .d (.v (.int .i64 p_.Window)), .d (.v (.int .i64 p_.Keep))]) _ rfl ?_
  refine R.one rfl ?_
  refine bindK h fun y1 hy1 h => ?_
  refine W.call rfl (ref13_Check_fn hy1) ?_
  refine W.det (.d (.v (.int .i64 y1))) _ rfl ?_
  refine R.one rfl ?_
  refine W.det (.d (.v (.int .i64 y1))) _ rfl ?_
  refine R.nil ?_
  refine seqK.n ?_
  refine A.seq rfl ?_
  refine A.region ?_
  refine R.one rfl ?_
  refine W.det (.d (.v (.int .i64 y1))) _ rfl ?_
  refine R.one rfl ?_
  refine W.det (.d (.v (.bool (y1 == (0 : Int))))) _ rfl ?_
  refine R.one rfl ?_
  refine W.det (.d (.v (.bool (y1 == (0 : Int))))) _ rfl ?_
  refine R.gT rfl rfl rfl h (fun _ h => ?_) (fun _ h => ?_)
  · refine W.det (.d (.fz (List.map api_Job.enc jobs_))) _ rfl ?_
    refine R.run rfl rfl rfl ?_
    refine bindK h fun y2 hy2 h => ?_
    refine W.call rfl (ref29_Right_fn hy2) ?_
    refine W.det (.d (.v (.bool y2))) _ rfl ?_
    refine R.one rfl ?_
    refine W.det (.d (.v (.bool y2))) _ rfl ?_
    refine R.one rfl ?_
    refine W.det (.d (.v (.bool y2))) _ rfl ?_
    refine R.gT rfl rfl rfl h (fun _ h => ?_) (fun _ h => ?_)
    · refine W.det (.d (.v (.int .i64 now_))) _ rfl ?_
      refine R.run rfl rfl rfl ?_
      refine W.det (.d (.v (.bool (decide ((0 : Int) ≤ now_))))) _ rfl ?_
      refine R.one rfl ?_
      refine W.det (.d (.v (.bool (decide ((0 : Int) ≤ now_))))) _ rfl ?_
      refine R.one rfl ?_
      refine W.det (.d (.v (.bool (decide ((0 : Int) ≤ now_))))) _ rfl ?_
      refine R.gT rfl rfl rfl h (fun _ h => ?_) (fun _ h => ?_)
      · refine W.det (.d (.v (.int .i64 now_))) _ rfl ?_
        refine R.run rfl rfl rfl ?_
        refine W.det (.d (.v (.bool (decide (now_ ≤ (1073741824 : Int)))))) _ rfl ?_
        refine R.one rfl ?_
        refine W.det (.d (.v (.bool (decide (now_ ≤ (1073741824 : Int)))))) _ rfl ?_
        refine R.one rfl ?_
        refine W.det (.d (.v (.bool (decide (now_ ≤ (1073741824 : Int)))))) _ rfl ?_
        refine R.nil ?_
        refine seqK.n ?_
        refine A.ret ?_
        injection h with h
        subst h
        cases hG
        exact ⟨rfl, trivial⟩
      · refine R.skip rfl rfl rfl ?_
        refine R.one rfl ?_
        refine W.det (.kb false) _ rfl ?_
        refine R.one rfl ?_
        refine W.det (.kb false) _ rfl ?_
        refine R.nil ?_
        refine seqK.n ?_
        refine A.ret ?_
        injection h with h
        subst h
        cases hG
        exact ⟨rfl, trivial⟩
    · refine R.skip rfl rfl rfl ?_
      refine R.one rfl ?_
      refine W.det (.kb false) _ rfl ?_
      refine R.one rfl ?_
      refine W.det (.kb false) _ rfl ?_
      refine R.skip rfl rfl rfl ?_
      refine R.skip rfl rfl rfl ?_
      refine R.one rfl ?_
      refine W.det (.kb false) _ rfl ?_
      refine R.one rfl ?_
      refine W.det (.kb false) _ rfl ?_
      refine R.nil ?_
      refine seqK.n ?_
      refine A.ret ?_
      injection h with h
      subst h
      cases hG
      exact ⟨rfl, trivial⟩
  · refine R.skip rfl rfl rfl ?_
    refine R.one rfl ?_
    refine W.det (.kb false) _ rfl ?_
    refine R.one rfl ?_
    refine W.det (.kb false) _ rfl ?_
    refine R.skip rfl rfl rfl ?_
    refine R.skip rfl rfl rfl ?_
    refine R.one rfl ?_
    refine W.det (.kb false) _ rfl ?_
    refine R.one rfl ?_
    refine W.det (.kb false) _ rfl ?_
    refine R.skip rfl rfl rfl ?_
    refine R.skip rfl rfl rfl ?_
    refine R.one rfl ?_
    refine W.det (.kb false) _ rfl ?_
    refine R.one rfl ?_
    refine W.det (.kb false) _ rfl ?_
    refine R.nil ?_
    refine seqK.n ?_
    refine A.ret ?_
    injection h with h
    subst h
    cases hG
    exact ⟨rfl, trivial⟩
end Go.Proofs.Ytafgcjodefafoaa

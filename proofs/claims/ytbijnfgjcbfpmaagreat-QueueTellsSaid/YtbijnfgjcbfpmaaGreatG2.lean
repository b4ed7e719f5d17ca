/-
  Plain programs of functions, and that the functions do what they say. Printed by wip/tools/gen.py.
-/
import Derived.Test.YtbijnfgjcbfpmaaGreatG1
namespace Go.Proofs.YtbijnfgjcbfpmaaGreat
open Go.RowKit
attribute [local irreducible] IntKind.wrap AW runL Step.wp
set_option linter.unusedVariables false
set_option maxHeartbeats 4000000
set_option maxRecDepth 100000
structure admit_demand where
  job : api_Job
  needs : Int
  gives : Int
def admit_demand.enc (x : admit_demand) : List D := [.v (.int .i64 x.job.Id), .v (.int .i64 x.job.Size), .v (.int .i64 x.job.Due), .v (.int .i64 x.needs), .v (.int .i64 x.gives)]
abbrev admit_demand.av (x : admit_demand) : List AV := [VI x.job.Id, VI x.job.Size, VI x.job.Due, VI x.needs, VI x.gives]
noncomputable def admit_demands_L1 (y9 : (List api_Job)) (y10 : (List api_Job)) (p_ : api_Profile) (now_ : Int) (s3 : Int × Int × (List admit_demand)) : Option ((Int × Int × (List admit_demand)) ⊕ (((List admit_demand)) ⊕ ((List admit_demand) × Bool))) :=
  (bif (decide (s3.2.1 < ((y9.length : Nat) : Int))) then
    (chkO (decide (0 ≤ s3.2.1) && decide (s3.2.1 < ((y10.length : Nat) : Int)))).bind fun _ =>
    (getI y10 s3.2.1).bind fun x56 =>
    (admit_gives p_ now_ x56.Due).bind fun y57 =>
    (chkO (decide (s3.2.2.length + [(admit_demand.mk x56 (IntKind.i64.wrap (s3.1 + x56.Size)) y57)].length ≤ 1000000))).bind fun _ =>
    some (.inl ((IntKind.i64.wrap (s3.1 + x56.Size)), (IntKind.i64.wrap (s3.2.1 + (1 : Int))), (s3.2.2 ++ [(admit_demand.mk x56 (IntKind.i64.wrap (s3.1 + x56.Size)) y57)])))
  else
    some (.inr (.inl s3.2.2)))
noncomputable def admit_demands (p_ : api_Profile) (jobs_ : (List api_Job)) (now_ : Int) : Option ((List admit_demand) × Bool) :=
  (profile_Check p_).bind fun y7 =>
  (bif (y7 != (0 : Int)) then
    some (([] : List admit_demand), false)
  else
    (admit_valid jobs_).bind fun y8 =>
    (bif (!y8) then
      some (([] : List admit_demand), false)
    else
      (bif (decide (now_ < (0 : Int))) then
        some (([] : List admit_demand), false)
      else
        (bif (decide ((1073741824 : Int) < now_)) then
          some (([] : List admit_demand), false)
        else
          (slices_Clone_api_Job_api_Job jobs_).bind fun y9 =>
          (sortF admit_demands_1 y9).bind fun y10 =>
          (seqF (A := (List admit_demand)) (
            loopF (admit_demands_L1 y9 y10 p_ now_) ((0 : Int), (0 : Int), ([] : List admit_demand)))
          fun s2 =>
            some (s2, true))))))
theorem admit_demands_fn {p_ : api_Profile} {jobs_ : (List api_Job)} {now_ : Int} {r : (List admit_demand) × Bool} (h : admit_demands p_ jobs_ now_ = some r) : Fn Tryz.prog 39 [.agg (api_Profile.av p_), VF (List.map api_Job.enc jobs_), VI now_] (.tup [.ow 5 (List.map admit_demand.enc r.1), VB r.2]) := by
  refine Fn.of_AW (F := FnX Tryz.prog) (base := 0) (js := [13]) mixed tok noeqs (fun _ _ _ h => h) Tryz.call39 Tryz.func39 rfl Tryz.ntmps39 (by rw [Tryz.results39]) (by simp) ?_; have hG : (fun x => x = r) r := rfl; unfold admit_demands at h; refine Zap 2 rfl ?_; refine Zm (.lp 3 1 0) (Mem.add _ 3 (.box (api_Profile.av p_))) rfl rfl ?_; refine Zm (.row 6 1 0) (Mem.add _ 6 (.rows 5 (List.map admit_demand.enc ([] : List admit_demand)) false)) rfl rfl ?_; refine Zpp 6 rfl ?_; refine Zo (.agg (api_Profile.av p_)) rfl rfl ?_; refine Y1 rfl ?_; refine bindK h fun y7 hy7 h => ?_; refine W.call rfl (profile_Check_fn hy7) ?_; refine Zwp 3 rfl ?_; refine YF rfl rfl rfl h (fun _ h => ?_) (fun _ h => ?_)
  · refine Zpp 16 rfl ?_; refine Zm (.row 6 2 0) (Mem.add _ 6 (.rows 5 (List.map admit_demand.enc ([] : List admit_demand)) false)) rfl rfl ?_; refine Zpb 5 rfl ?_; cases h; cases hG; exact ⟨rfl, rfl, rfl, trivial⟩
  · refine Zwp 1 rfl ?_; refine Y2 rfl rfl rfl ?_; refine bindK h fun y8 hy8 h => ?_; refine W.call rfl (admit_valid_fn hy8) ?_; refine Zwp 4 rfl ?_; refine YF rfl rfl rfl h (fun _ h => ?_) (fun _ h => ?_)
    · refine Zpp 11 rfl ?_; refine Zm (.row 6 2 0) (Mem.add _ 6 (.rows 5 (List.map admit_demand.enc ([] : List admit_demand)) false)) rfl rfl ?_; refine Zpb 5 rfl ?_; cases h; cases hG; exact ⟨rfl, rfl, rfl, trivial⟩
    · refine Zwp 4 rfl ?_; refine YF rfl rfl rfl h (fun _ h => ?_) (fun _ h => ?_)
      · refine Zpp 7 rfl ?_; refine Zm (.row 6 2 0) (Mem.add _ 6 (.rows 5 (List.map admit_demand.enc ([] : List admit_demand)) false)) rfl rfl ?_; refine Zpb 5 rfl ?_; cases h; cases hG; exact ⟨rfl, rfl, rfl, trivial⟩
      · refine Zwc 5 rfl ?_; refine A.condB rfl h (fun _ h => ?_) (fun _ h => ?_)
        · refine Zcp 2 rfl ?_; refine Zm (.row 6 2 0) (Mem.add _ 6 (.rows 5 (List.map admit_demand.enc ([] : List admit_demand)) false)) rfl rfl ?_; refine Zpb 5 rfl ?_; cases h; cases hG; exact ⟨rfl, rfl, rfl, trivial⟩
        · refine Zcp 5 rfl ?_; refine Y1 rfl ?_; refine bindK h fun y9 hy9 h => ?_; refine W.call rfl (slices_Clone_api_Job_api_Job_fn hy9) ?_; refine W.v (.row 30 1 (List.map api_Job.enc y9).length) (.row 30 1 y9.length) (Mem.add _ 30 (.rows 3 (List.map api_Job.enc y9) false)) rfl (by simp only [List.length_map]) ?_; refine Zo (.row 30 1 y9.length) rfl rfl ?_; refine Zpp 4 rfl ?_; refine Zo (.row 30 1 y9.length) rfl rfl ?_; refine Y1 rfl ?_; refine bindK h fun y10 hy10 h => ?_; refine W.call rfl (slices_SortFunc_api_Job_api_Job_fn (cF := 56) (cC := []) rfl (fun _ _ _ h => admit_demands_1_fn h) hy10) ?_; refine W.chk rfl (by simp only [List.length_map]; exact sortF_len hy10) ?_; refine W.det (.tup []) (Mem.set _ 30 1 (some (.rows 3 (List.map api_Job.enc y10) false))) rfl ?_; refine Zpp 4 rfl ?_; refine Zm (.row 9 1 0) (Mem.add _ 9 (.rows 5 (List.map admit_demand.enc ([] : List admit_demand)) false)) rfl rfl ?_; refine Zpc 7 rfl ?_; refine A.join (fun (s2 : (List admit_demand)) => [(9, .row 900000 1 s2.length)]) (fun s2 => [(900000, .rows 5 (List.map admit_demand.enc s2) false)]) _ h hG rfl ?_ ?_
          · intro J f h hG; refine Zap 2 rfl ?_; refine Zo (.row 30 1 y9.length) rfl rfl ?_; refine Zpc 5 rfl ?_; refine A.loop (fun (s3 : Int × Int × (List admit_demand)) => [(2, VI now_), (3, .lp 900000 1 0), (9, .row 900001 1 s3.2.2.length), (10, VI s3.1), (33, .row 900002 1 y10.length), (34, VI ((y9.length : Nat) : Int)), (35, VI s3.2.1)]) (fun s3 => [(900000, .box (api_Profile.av p_)), (900001, .rows 5 (List.map admit_demand.enc s3.2.2) false), (900002, .rows 3 (List.map api_Job.enc y10) false)]) _ h hG (Zf [] [(900000, (3, 1)), (900001, (9, 1)), (900002, (30, 1))] rfl rfl (Ze rfl rfl (Ze rfl rfl (Ze rfl rfl (Ze rfl rfl (chkE.c rfl (by simp only [sortF_len hy10]; rfl) (Ze rfl rfl (Ze rfl rfl trivial))))))) (Zc rfl rfl (Zc rfl rfl (Zc rfl rfl trivial)))) ?_; intro J s3 f h hG; unfold admit_demands_L1 at h; refine Zac 6 rfl ?_; refine A.condB rfl h (fun _ h => ?_) (fun _ h => ?_)
            · refine Zcp 6 rfl ?_; refine Y1 rfl ?_; refine chkK h fun g55 h => ?_; refine W.chk rfl (by simpa using g55) ?_; refine W.det (.rp 900002 1 s3.2.1.toNat 0) _ rfl ?_; refine Y1 rfl ?_; refine bindK h fun x56 hx56 h => ?_; refine W.elem rfl (elemG hx56) ?_; refine W.det (.agg (api_Job.av x56)) _ rfl ?_; refine Zm (.lp 12 2 0) (Mem.add _ 12 (.box [VI 0, VI 0, VI 0])) rfl rfl ?_; refine Zm (.tup []) (Mem.set _ 12 2 (some (.box (api_Job.av x56)))) rfl rfl ?_; refine Zpc 11 rfl ?_; refine A.regionD (by kernel_rfl) ?_; refine Zo (.row 900001 1 s3.2.2.length) rfl rfl ?_; refine Zo (.agg (api_Job.av x56)) rfl rfl ?_; refine Zpp 1 rfl ?_; refine Zo (.agg (api_Profile.av p_)) rfl rfl ?_; refine Zpp 3 rfl ?_; refine Y1 rfl ?_; refine bindK h fun y57 hy57 h => ?_; refine W.call rfl (admit_gives_fn hy57) ?_; refine Zwp 1 rfl ?_; refine Zo (.agg [VI x56.Id, VI x56.Size, VI x56.Due, VI (IntKind.i64.wrap (s3.1 + x56.Size)), VI y57]) rfl rfl ?_; refine Zm (.row 52 2 1) (Mem.add _ 52 (.rows 5 (List.map admit_demand.enc [(admit_demand.mk x56 (IntKind.i64.wrap (s3.1 + x56.Size)) y57)]) false)) rfl rfl ?_; refine Y1 rfl ?_; refine chkK h fun g58 h => ?_; refine W.chk rfl (appChk (fun _ => rfl) g58) ?_; refine W.app rfl rfl ?_; refine Zo (.row 900001 2 (s3.2.2 ++ [(admit_demand.mk x56 (IntKind.i64.wrap (s3.1 + x56.Size)) y57)]).length) rfl rfl ?_; refine Zpb 7 rfl ?_; cases h; exact Zh hG [] [(900000, (900000, 1)), (900001, (900001, 2)), (900002, (900002, 1))] rfl rfl (Ze rfl rfl (Ze rfl rfl (Ze rfl rfl (Ze rfl rfl (Ze rfl rfl (Ze rfl rfl (Ze rfl rfl trivial))))))) (Zc rfl rfl (Zc rfl rfl (Zc rfl rfl trivial)))
            · refine Zcb 2 rfl ?_; refine headK.e ?_; refine Zob 1 rfl ?_; cases h; exact Zh hG [] [(900000, (900001, 1))] rfl rfl (Ze rfl rfl trivial) (Zc rfl rfl trivial)
          · intro s2 r2 h hG; refine Zcp 2 rfl ?_; refine Zo (.row 900000 1 s2.length) rfl rfl ?_; refine Zo (.row 900000 1 s2.length) rfl rfl ?_; refine Zpb 4 rfl ?_; cases h; cases hG; exact ⟨rfl, rfl, rfl, trivial⟩
noncomputable def admit_Plan_L1 (y1 : (List admit_demand) × Bool) (s3 : Int × (List Int)) : Option ((Int × (List Int)) ⊕ (((List Int)) ⊕ ((List Int) × Int × Int))) :=
  (bif (decide (s3.1 < ((y1.1.length : Nat) : Int))) then
    (chkO (decide (0 ≤ s3.1) && decide (s3.1 < ((y1.1.length : Nat) : Int)))).bind fun _ =>
    (getI y1.1 s3.1).bind fun x36 =>
    (bif (decide (x36.gives < x36.needs)) then
      some (.inr (.inr (([] : List Int), x36.job.Id, (16 : Int))))
    else
      (chkO (decide (s3.2.length + [(IntKind.i64.wrap (x36.gives - x36.needs))].length ≤ 1000000))).bind fun _ =>
      some (.inl ((IntKind.i64.wrap (s3.1 + (1 : Int))), (s3.2 ++ [(IntKind.i64.wrap (x36.gives - x36.needs))]))))
  else
    some (.inr (.inl s3.2)))
noncomputable def admit_Plan (p_ : api_Profile) (jobs_ : (List api_Job)) (now_ : Int) : Option ((List Int) × Int × Int) :=
  (admit_demands p_ jobs_ now_).bind fun y1 =>
  (bif (!y1.2) then
    some (([] : List Int), (-1 : Int), (1 : Int))
  else
    (seqF (A := (List Int)) (
      loopF (admit_Plan_L1 y1) ((0 : Int), ([] : List Int)))
    fun s2 =>
      some (s2, (-1 : Int), (0 : Int))))
theorem admit_Plan_fn {p_ : api_Profile} {jobs_ : (List api_Job)} {now_ : Int} {r : (List Int) × Int × Int} (h : admit_Plan p_ jobs_ now_ = some r) : Fn Tryz.prog 19 [.agg (api_Profile.av p_), VF (List.map api_Job.enc jobs_), VI now_] (.tup [.ow 1 (List.map (encI .i64) r.1), VI r.2.1, VI r.2.2]) := by
  refine Fn.of_AW (F := FnX Tryz.prog) (base := 0) (js := [12]) mixed tok noeqs (fun _ _ _ h => h) Tryz.call19 Tryz.func19 rfl Tryz.ntmps19 (by rw [Tryz.results19]) (by simp) ?_; have hG : (fun x => x = r) r := rfl; unfold admit_Plan at h; refine Zap 2 rfl ?_; refine Zm (.lp 3 1 0) (Mem.add _ 3 (.box (api_Profile.av p_))) rfl rfl ?_; refine Zm (.row 6 1 0) (Mem.add _ 6 (.rows 1 (List.map (encI .i64) ([] : List Int)) false)) rfl rfl ?_; refine Zpp 6 rfl ?_; refine Zo (.agg (api_Profile.av p_)) rfl rfl ?_; refine Zpp 2 rfl ?_; refine Y1 rfl ?_; refine bindK h fun y1 hy1 h => ?_; refine W.call rfl (admit_demands_fn hy1) ?_; refine W.v (.tup [.row 1048594 1 (List.map admit_demand.enc y1.1).length, VB y1.2]) (.tup [.row 1048594 1 y1.1.length, VB y1.2]) (Mem.add _ 1048594 (.rows 5 (List.map admit_demand.enc y1.1) false)) rfl (by simp only [List.length_map]) ?_; refine Zo (.tup [.row 1048594 1 y1.1.length, VB y1.2]) rfl rfl ?_; refine Zo (.row 1048594 1 y1.1.length) rfl rfl ?_; refine Zpp 1 rfl ?_; refine Zo (.row 1048594 1 y1.1.length) rfl rfl ?_; refine Zpc 10 rfl ?_; refine A.condB rfl h (fun _ h => ?_) (fun _ h => ?_)
  · refine Zcp 2 rfl ?_; refine Zm (.row 6 2 0) (Mem.add _ 6 (.rows 1 (List.map (encI .i64) ([] : List Int)) false)) rfl rfl ?_; refine Zpb 6 rfl ?_; cases h; cases hG; exact ⟨rfl, rfl, rfl, rfl, trivial⟩
  · refine Zcp 4 rfl ?_; refine Zm (.row 11 1 0) (Mem.add _ 11 (.rows 1 (List.map (encI .i64) ([] : List Int)) false)) rfl rfl ?_; refine Zpc 2 rfl ?_; refine A.join (fun (s2 : (List Int)) => [(11, .row 900000 1 s2.length)]) (fun s2 => [(900000, .rows 1 (List.map (encI .i64) s2) false)]) _ h hG rfl ?_ ?_
    · intro J f h hG; refine Zap 2 rfl ?_; refine Zo (.row 1048594 1 y1.1.length) rfl rfl ?_; refine Zpc 5 rfl ?_; refine A.loop (fun (s3 : Int × (List Int)) => [(11, .row 900000 1 s3.2.length), (23, .row 900001 1 y1.1.length), (24, VI ((y1.1.length : Nat) : Int)), (25, VI s3.1)]) (fun s3 => [(900000, .rows 1 (List.map (encI .i64) s3.2) false), (900001, .rows 5 (List.map admit_demand.enc y1.1) false)]) _ h hG (Zf [] [(900000, (11, 1)), (900001, (1048594, 1))] rfl rfl (Ze rfl rfl (Ze rfl rfl (Ze rfl rfl (Ze rfl rfl trivial)))) (Zc rfl rfl (Zc rfl rfl trivial))) ?_; intro J s3 f h hG; unfold admit_Plan_L1 at h; refine Zac 6 rfl ?_; refine A.condB rfl h (fun _ h => ?_) (fun _ h => ?_)
      · refine Zcp 6 rfl ?_; refine Y1 rfl ?_; refine chkK h fun g35 h => ?_; refine W.chk rfl (by simpa using g35) ?_; refine W.det (.rp 900001 1 s3.1.toNat 0) _ rfl ?_; refine Y1 rfl ?_; refine bindK h fun x36 hx36 h => ?_; refine W.elem rfl (elemG hx36) ?_; refine W.det (.agg (admit_demand.av x36)) _ rfl ?_; refine Zm (.lp 13 2 0) (Mem.add _ 13 (.box [VI 0, VI 0, VI 0, VI 0, VI 0])) rfl rfl ?_; refine Zm (.tup []) (Mem.set _ 13 2 (some (.box (admit_demand.av x36)))) rfl rfl ?_; refine Zpc 12 rfl ?_; refine A.condB rfl h (fun _ h => ?_) (fun _ h => ?_)
        · refine Zcc 1 rfl ?_; refine A.regionD (by kernel_rfl) ?_; refine Zpp 3 rfl ?_; refine Zm (.row 6 2 0) (Mem.add _ 6 (.rows 1 (List.map (encI .i64) ([] : List Int)) false)) rfl rfl ?_; refine Zpb 8 rfl ?_; refine headK.r ?_; refine Zob 1 rfl ?_; refine headK.r ?_; cases h; cases hG; exact ⟨rfl, rfl, rfl, rfl, trivial⟩
        · refine Zcp 3 rfl ?_; refine Zo (.row 900000 1 s3.2.length) rfl rfl ?_; refine Zpp 5 rfl ?_; refine Zm (.row 43 2 1) (Mem.add _ 43 (.rows 1 (List.map (encI .i64) [(IntKind.i64.wrap (x36.gives - x36.needs))]) false)) rfl rfl ?_; refine Y1 rfl ?_; refine chkK h fun g37 h => ?_; refine W.chk rfl (appChk (fun _ => rfl) g37) ?_; refine W.app rfl rfl ?_; refine Zo (.row 900000 2 (s3.2 ++ [(IntKind.i64.wrap (x36.gives - x36.needs))]).length) rfl rfl ?_; refine Zpb 7 rfl ?_; cases h; exact Zh hG [] [(900000, (900000, 2)), (900001, (900001, 1))] rfl rfl (Ze rfl rfl (Ze rfl rfl (Ze rfl rfl (Ze rfl rfl trivial)))) (Zc rfl rfl (Zc rfl rfl trivial))
      · refine Zcb 2 rfl ?_; refine headK.e ?_; refine Zob 1 rfl ?_; cases h; exact Zh hG [] [(900000, (900000, 1))] rfl rfl (Ze rfl rfl trivial) (Zc rfl rfl trivial)
    · intro s2 r2 h hG; refine Zcp 2 rfl ?_; refine Zo (.row 900000 1 s2.length) rfl rfl ?_; refine Zo (.row 900000 1 s2.length) rfl rfl ?_; refine Zpb 5 rfl ?_; cases h; cases hG; exact ⟨rfl, rfl, rfl, rfl, trivial⟩
noncomputable def queue_Put_L1 (y12 : (List api_Waiting)) (p2_ : api_Waiting) (s3 : Int × (List api_Job)) : Option ((Int × (List api_Job)) ⊕ (((List api_Job)) ⊕ ((List api_Waiting) × Int))) :=
  (bif (decide (s3.1 < (((y12 ++ [p2_]).length : Nat) : Int))) then
    (chkO (decide (0 ≤ s3.1) && decide (s3.1 < (((y12 ++ [p2_]).length : Nat) : Int)))).bind fun _ =>
    (getI (y12 ++ [p2_]) s3.1).bind fun x48 =>
    (bif (x48.Net == p2_.Net) then
      (chkO (decide (s3.2.length + [(api_Job.mk x48.Event x48.Left x48.Due)].length ≤ 1000000))).bind fun _ =>
      some (.inl ((IntKind.i64.wrap (s3.1 + (1 : Int))), (s3.2 ++ [(api_Job.mk x48.Event x48.Left x48.Due)])))
    else
      some (.inl ((IntKind.i64.wrap (s3.1 + (1 : Int))), s3.2)))
  else
    some (.inr (.inl s3.2)))
noncomputable def queue_Put (p_ : api_Profile) (p1_ : (List api_Waiting)) (p2_ : api_Waiting) (p3_ : Int) : Option ((List api_Waiting) × Int) :=
  (slices_Clone_api_Waiting_api_Waiting p1_).bind fun y1 =>
  (queue_queue p1_).bind fun y9 =>
  (bif (!y9) then
    some (y1, (1 : Int))
  else
    (queue_right p2_).bind fun y10 =>
    (bif (!y10) then
      some (y1, (1 : Int))
    else
      (queue_has p1_ p2_.Event p2_.Net).bind fun y11 =>
      (bif y11 then
        some (y1, (5 : Int))
      else
        (slices_Clone_api_Waiting_api_Waiting p1_).bind fun y12 =>
        (chkO (decide (y12.length + [p2_].length ≤ 1000000))).bind fun _ =>
        (seqF (A := (List api_Job)) (
          loopF (queue_Put_L1 y12 p2_) ((0 : Int), ([] : List api_Job)))
        fun s2 =>
          (admit_Plan p_ s2 p3_).bind fun y51 =>
          (bif (y51.2.2 != (0 : Int)) then
            some (y1, y51.2.2)
          else
            some ((y12 ++ [p2_]), (0 : Int)))))))
theorem queue_Put_fn {p_ : api_Profile} {p1_ : (List api_Waiting)} {p2_ : api_Waiting} {p3_ : Int} {r : (List api_Waiting) × Int} (h : queue_Put p_ p1_ p2_ p3_ = some r) : Fn Tryz.prog 6 [.agg (api_Profile.av p_), VF (List.map api_Waiting.enc p1_), .agg (api_Waiting.av p2_), VI p3_] (.tup [.ow 4 (List.map api_Waiting.enc r.1), VI r.2]) := by
  refine Fn.of_AW (F := FnX Tryz.prog) (base := 0) (js := [14]) mixed tok noeqs (fun _ _ _ h => h) Tryz.call6 Tryz.func6 rfl Tryz.ntmps6 (by rw [Tryz.results6]) (by simp) ?_; have hG : (fun x => x = r) r := rfl; unfold queue_Put at h; refine Zap 2 rfl ?_; refine Zm (.lp 4 1 0) (Mem.add _ 4 (.box (api_Profile.av p_))) rfl rfl ?_; refine Zm (.lp 6 1 0) (Mem.add _ 6 (.box (api_Waiting.av p2_))) rfl rfl ?_; refine Zm (.row 8 1 0) (Mem.add _ 8 (.rows 4 (List.map api_Waiting.enc ([] : List api_Waiting)) false)) rfl rfl ?_; refine Zpp 6 rfl ?_; refine Y1 rfl ?_; refine bindK h fun y1 hy1 h => ?_; refine W.call rfl (slices_Clone_api_Waiting_api_Waiting_fn hy1) ?_; refine W.v (.row 19 1 (List.map api_Waiting.enc y1).length) (.row 19 1 y1.length) (Mem.add _ 19 (.rows 4 (List.map api_Waiting.enc y1) false)) rfl (by simp only [List.length_map]) ?_; refine Zo (.row 19 1 y1.length) rfl rfl ?_; refine Zpp 7 rfl ?_; refine Y1 rfl ?_; refine bindK h fun y9 hy9 h => ?_; refine W.call rfl (queue_queue_fn hy9) ?_; refine Zwp 3 rfl ?_; refine YF rfl rfl rfl h (fun _ h => ?_) (fun _ h => ?_)
  · refine Zpp 9 rfl ?_; refine Zo (.row 19 1 y1.length) rfl rfl ?_; refine Zo (.row 19 1 y1.length) rfl rfl ?_; refine Zpb 6 rfl ?_; cases h; cases hG; exact ⟨rfl, rfl, rfl, trivial⟩
  · refine W.det (.agg (api_Waiting.av p2_)) _ rfl ?_; refine Y2 rfl rfl rfl ?_; refine bindK h fun y10 hy10 h => ?_; refine W.call rfl (queue_right_fn hy10) ?_; refine Zwc 6 rfl ?_; refine A.condB rfl h (fun _ h => ?_) (fun _ h => ?_)
    · refine Zcp 2 rfl ?_; refine Zo (.row 19 1 y1.length) rfl rfl ?_; refine Zo (.row 19 1 y1.length) rfl rfl ?_; refine Zpb 6 rfl ?_; cases h; cases hG; exact ⟨rfl, rfl, rfl, trivial⟩
    · refine Zcp 7 rfl ?_; refine Y1 rfl ?_; refine bindK h fun y11 hy11 h => ?_; refine W.call rfl (queue_has_fn hy11) ?_; refine Zwc 4 rfl ?_; refine A.condB rfl h (fun _ h => ?_) (fun _ h => ?_)
      · refine Zcp 2 rfl ?_; refine Zo (.row 19 1 y1.length) rfl rfl ?_; refine Zo (.row 19 1 y1.length) rfl rfl ?_; refine Zpb 6 rfl ?_; cases h; cases hG; exact ⟨rfl, rfl, rfl, trivial⟩
      · refine Zcc 4 rfl ?_; refine A.regionD (by kernel_rfl) ?_; refine Zpp 1 rfl ?_; refine Y1 rfl ?_; refine bindK h fun y12 hy12 h => ?_; refine W.call rfl (slices_Clone_api_Waiting_api_Waiting_fn hy12) ?_; refine W.v (.row 39 1 (List.map api_Waiting.enc y12).length) (.row 39 1 y12.length) (Mem.add _ 39 (.rows 4 (List.map api_Waiting.enc y12) false)) rfl (by simp only [List.length_map]) ?_; refine Zo (.agg (api_Waiting.av p2_)) rfl rfl ?_; refine Zm (.row 41 1 1) (Mem.add _ 41 (.rows 4 (List.map api_Waiting.enc [p2_]) false)) rfl rfl ?_; refine Y1 rfl ?_; refine chkK h fun g13 h => ?_; refine W.chk rfl (appChk (fun _ => rfl) g13) ?_; refine W.app rfl rfl ?_; refine Zo (.row 39 2 (y12 ++ [p2_]).length) rfl rfl ?_; refine Zpp 4 rfl ?_; refine Zm (.row 12 1 0) (Mem.add _ 12 (.rows 3 (List.map api_Job.enc ([] : List api_Job)) false)) rfl rfl ?_; refine Zpc 2 rfl ?_; refine A.join (fun (s2 : (List api_Job)) => [(3, VI p3_), (4, .lp 900000 1 0), (10, .row 900001 1 y1.length), (11, .row 900002 1 (y12 ++ [p2_]).length), (12, .row 900003 1 s2.length)]) (fun s2 => [(900000, .box (api_Profile.av p_)), (900001, .rows 4 (List.map api_Waiting.enc y1) false), (900002, .rows 4 (List.map api_Waiting.enc (y12 ++ [p2_])) false), (900003, .rows 3 (List.map api_Job.enc s2) false)]) _ h hG rfl ?_ ?_
        · intro J f h hG; refine Zap 2 rfl ?_; refine Zo (.row 39 2 (y12 ++ [p2_]).length) rfl rfl ?_; refine Zpc 5 rfl ?_; refine A.loop (fun (s3 : Int × (List api_Job)) => [(3, VI p3_), (4, .lp 900000 1 0), (6, .lp 900001 1 0), (10, .row 900002 1 y1.length), (11, .row 900003 1 (y12 ++ [p2_]).length), (12, .row 900004 1 s3.2.length), (43, .row 900003 1 (y12 ++ [p2_]).length), (44, VI (((y12 ++ [p2_]).length : Nat) : Int)), (45, VI s3.1)]) (fun s3 => [(900000, .box (api_Profile.av p_)), (900001, .box (api_Waiting.av p2_)), (900002, .rows 4 (List.map api_Waiting.enc y1) false), (900003, .rows 4 (List.map api_Waiting.enc (y12 ++ [p2_])) false), (900004, .rows 3 (List.map api_Job.enc s3.2) false)]) _ h hG (Zf [] [(900000, (4, 1)), (900001, (6, 1)), (900002, (19, 1)), (900003, (39, 2)), (900004, (12, 1))] rfl rfl (Ze rfl rfl (Ze rfl rfl (Ze rfl rfl (Ze rfl rfl (Ze rfl rfl (Ze rfl rfl (Ze rfl rfl (Ze rfl rfl (Ze rfl rfl trivial))))))))) (Zc rfl rfl (Zc rfl rfl (Zc rfl rfl (Zc rfl rfl (Zc rfl rfl trivial)))))) ?_; intro J s3 f h hG; unfold queue_Put_L1 at h; refine Zac 6 rfl ?_; refine A.condB rfl h (fun _ h => ?_) (fun _ h => ?_)
          · refine Zcp 6 rfl ?_; refine Y1 rfl ?_; refine chkK h fun g47 h => ?_; refine W.chk rfl (by simpa using g47) ?_; refine W.det (.rp 900003 1 s3.1.toNat 0) _ rfl ?_; refine Y1 rfl ?_; refine bindK h fun x48 hx48 h => ?_; refine W.elem rfl (elemG hx48) ?_; refine W.det (.agg (api_Waiting.av x48)) _ rfl ?_; refine Zm (.lp 14 2 0) (Mem.add _ 14 (.box [VI 0, VI 0, VI 0, VI 0])) rfl rfl ?_; refine Zm (.tup []) (Mem.set _ 14 2 (some (.box (api_Waiting.av x48)))) rfl rfl ?_; refine Zpc 11 rfl ?_; refine A.condB rfl h (fun _ h => ?_) (fun _ h => ?_)
            · refine Zcp 1 rfl ?_; refine Zo (.row 900004 1 s3.2.length) rfl rfl ?_; refine Zpp 6 rfl ?_; refine Zo (.agg [VI x48.Event, VI x48.Left, VI x48.Due]) rfl rfl ?_; refine Zm (.row 62 2 1) (Mem.add _ 62 (.rows 3 (List.map api_Job.enc [(api_Job.mk x48.Event x48.Left x48.Due)]) false)) rfl rfl ?_; refine Y1 rfl ?_; refine chkK h fun g49 h => ?_; refine W.chk rfl (appChk (fun _ => rfl) g49) ?_; refine W.app rfl rfl ?_; refine Zo (.row 900004 2 (s3.2 ++ [(api_Job.mk x48.Event x48.Left x48.Due)]).length) rfl rfl ?_; refine Zpb 7 rfl ?_; cases h; exact Zh hG [] [(900000, (900000, 1)), (900001, (900001, 1)), (900002, (900002, 1)), (900003, (900003, 1)), (900004, (900004, 2))] rfl rfl (Ze rfl rfl (Ze rfl rfl (Ze rfl rfl (Ze rfl rfl (Ze rfl rfl (Ze rfl rfl (Ze rfl rfl (Ze rfl rfl (Ze rfl rfl trivial))))))))) (Zc rfl rfl (Zc rfl rfl (Zc rfl rfl (Zc rfl rfl (Zc rfl rfl trivial)))))
            · refine Zcb 7 rfl ?_; cases h; exact Zh hG [] [(900000, (900000, 1)), (900001, (900001, 1)), (900002, (900002, 1)), (900003, (900003, 1)), (900004, (900004, 1))] rfl rfl (Ze rfl rfl (Ze rfl rfl (Ze rfl rfl (Ze rfl rfl (Ze rfl rfl (Ze rfl rfl (Ze rfl rfl (Ze rfl rfl (Ze rfl rfl trivial))))))))) (Zc rfl rfl (Zc rfl rfl (Zc rfl rfl (Zc rfl rfl (Zc rfl rfl trivial)))))
          · refine Zcb 2 rfl ?_; refine headK.e ?_; refine Zob 1 rfl ?_; cases h; exact Zh hG [] [(900000, (900000, 1)), (900001, (900002, 1)), (900002, (900003, 1)), (900003, (900004, 1))] rfl rfl (Ze rfl rfl (Ze rfl rfl (Ze rfl rfl (Ze rfl rfl (Ze rfl rfl trivial))))) (Zc rfl rfl (Zc rfl rfl (Zc rfl rfl (Zc rfl rfl trivial))))
        · intro s2 r2 h hG; refine Zcp 3 rfl ?_; refine Zo (.agg (api_Profile.av p_)) rfl rfl ?_; refine Zo (.row 900003 1 s2.length) rfl rfl ?_; refine Zpp 1 rfl ?_; refine Y1 rfl ?_; refine bindK h fun y51 hy51 h => ?_; refine W.call rfl (admit_Plan_fn hy51) ?_; refine W.v (.tup [.row 1048645 2 (List.map (encI .i64) y51.1).length, VI y51.2.1, VI y51.2.2]) (.tup [.row 1048645 2 y51.1.length, VI y51.2.1, VI y51.2.2]) (Mem.add (Mem.set _ 900003 1 (some (.rows 3 (List.map api_Job.enc s2) true))) 1048645 (.rows 1 (List.map (encI .i64) y51.1) false)) rfl (by simp only [List.length_map]) ?_; refine Zo (.tup [.row 1048645 2 y51.1.length, VI y51.2.1, VI y51.2.2]) rfl rfl ?_; refine Zo (.row 1048645 2 y51.1.length) rfl rfl ?_; refine Zpp 2 rfl ?_; refine Zo (.row 1048645 2 y51.1.length) rfl rfl ?_; refine Zpc 10 rfl ?_; refine A.condB rfl h (fun _ h => ?_) (fun _ h => ?_)
          · refine Zcp 2 rfl ?_; refine Zo (.row 900001 1 y1.length) rfl rfl ?_; refine Zpp 1 rfl ?_; refine Zo (.row 900001 1 y1.length) rfl rfl ?_; refine Zpb 5 rfl ?_; cases h; cases hG; exact ⟨rfl, rfl, rfl, trivial⟩
          · refine Zcp 4 rfl ?_; refine Zo (.row 900002 1 (y12 ++ [p2_]).length) rfl rfl ?_; refine Zo (.row 900002 1 (y12 ++ [p2_]).length) rfl rfl ?_; refine Zpb 4 rfl ?_; cases h; cases hG; exact ⟨rfl, rfl, rfl, trivial⟩
noncomputable def queue_Step_1 (a_ : Int) (b_ : Int) (c0_ : (List api_Waiting)) : Option (Int) :=
  (getI c0_ a_).bind fun x1 =>
  (getI c0_ b_).bind fun x2 =>
  (cmp_Compare_int x1.Due x2.Due).bind fun y3 =>
  (cmp_Compare_int x1.Event x2.Event).bind fun y4 =>
  (cmp_Or_int [y3, y4]).bind fun y5 =>
  some y5
theorem queue_Step_1_fn {a_ : Int} {b_ : Int} {c0_ : (List api_Waiting)} {r : Int} (h : queue_Step_1 a_ b_ c0_ = some r) : Fn Tryz.prog 27 [VI a_, VI b_, .fp [.fz (List.map api_Waiting.enc c0_)]] (VI r) := by
  refine Fn.of_AW (F := FnX Tryz.prog) (base := 0) (js := []) mixed tok noeqs (fun _ _ _ h => h) Tryz.call27 Tryz.func27 rfl Tryz.ntmps27 (by rw [Tryz.results27]) (by simp) ?_; have hG : (fun x => x = r) r := rfl; unfold queue_Step_1 at h; refine Zac 6 rfl ?_; refine A.regionD (by kernel_rfl) ?_; refine Zpp 2 rfl ?_; refine Y1 rfl ?_; refine bindK h fun x1 hx1 h => ?_; refine W.chk rfl (elemB hx1) ?_; refine W.elem rfl (elemG hx1) ?_; refine W.chk rfl rfl ?_; refine W.det (.fp [.v (.int .i64 x1.Event), .v (.int .i64 x1.Net), .v (.int .i64 x1.Left), .v (.int .i64 x1.Due)]) _ rfl ?_; refine Zo (.fp [.v (.int .i64 x1.Due)]) rfl rfl ?_; refine Zpp 3 rfl ?_; refine Y1 rfl ?_; refine bindK h fun x2 hx2 h => ?_; refine W.chk rfl (elemB hx2) ?_; refine W.elem rfl (elemG hx2) ?_; refine W.chk rfl rfl ?_; refine W.det (.fp [.v (.int .i64 x2.Event), .v (.int .i64 x2.Net), .v (.int .i64 x2.Left), .v (.int .i64 x2.Due)]) _ rfl ?_; refine Zo (.fp [.v (.int .i64 x2.Due)]) rfl rfl ?_; refine Zpp 1 rfl ?_; refine Y1 rfl ?_; refine bindK h fun y3 hy3 h => ?_; refine W.call rfl (cmp_Compare_int_fn hy3) ?_; refine Zwp 3 rfl ?_; refine Y1 rfl ?_; refine W.chk rfl (elemB hx1) ?_; refine W.elem rfl (elemG hx1) ?_; refine W.chk rfl rfl ?_; refine W.det (.fp [.v (.int .i64 x1.Event), .v (.int .i64 x1.Net), .v (.int .i64 x1.Left), .v (.int .i64 x1.Due)]) _ rfl ?_; refine Zo (.fp [.v (.int .i64 x1.Event), .v (.int .i64 x1.Net), .v (.int .i64 x1.Left), .v (.int .i64 x1.Due)]) rfl rfl ?_; refine Zpp 3 rfl ?_; refine Y1 rfl ?_; refine W.chk rfl (elemB hx2) ?_; refine W.elem rfl (elemG hx2) ?_; refine W.chk rfl rfl ?_; refine W.det (.fp [.v (.int .i64 x2.Event), .v (.int .i64 x2.Net), .v (.int .i64 x2.Left), .v (.int .i64 x2.Due)]) _ rfl ?_; refine Zo (.fp [.v (.int .i64 x2.Event), .v (.int .i64 x2.Net), .v (.int .i64 x2.Left), .v (.int .i64 x2.Due)]) rfl rfl ?_; refine Zpp 1 rfl ?_; refine Y1 rfl ?_; refine bindK h fun y4 hy4 h => ?_; refine W.call rfl (cmp_Compare_int_fn hy4) ?_; refine Zwp 1 rfl ?_; refine Zm (.row 28 1 2) (Mem.add _ 28 (.rows 1 (List.map (encI .i64) [y3, y4]) false)) rfl rfl ?_; refine Y1 rfl ?_; refine bindK h fun y5 hy5 h => ?_; refine W.call rfl (cmp_Or_int_fn hy5) ?_; refine Zwb 5 rfl ?_; cases h; cases hG; exact ⟨rfl, trivial⟩
theorem slices_SortFunc_int_int_fn {c : Int → Int → Option Int} {cF : FuncId} {cC : List AV} (cH : cC.all capd = true) (cP : ∀ (q0 q1 : Int) (z : Int), c q0 q1 = some z → Fn Tryz.prog cF ([VI q0, VI q1] ++ cC) (VI z)) {l r : List Int} (h : sortI c l = some r) : FnW Tryz.prog 26 1 (List.map (encI .i64) l) [.fn cF cC] (.ow 1 (List.map (encI .i64) r)) :=
  sortI_fnw Tryz.call26 (fun α _ enc h1 cf hO g cb blk off cap d w eg hcmp hH hblk hsz => Any.slices_SortFunc Tryz.sort26 enc h1 cf hO g cb blk off cap d w eg hcmp hH hblk hsz) (fun p cap fv w => AnyF.slices_SortFunc_none Tryz.sort26n p cap fv w) cH cP h
theorem api_Waiting_plain (x : api_Waiting) : ∀ d ∈ api_Waiting.enc x, ∃ v : Value, d = .v v := by
  intro d hd
  simp only [api_Waiting.enc, List.mem_cons, List.not_mem_nil, or_false] at hd
  rcases hd with rfl | rfl | rfl | rfl <;> exact ⟨_, rfl⟩
noncomputable def slices_DeleteFunc_api_Waiting_api_Waiting_L1 (del_ : (api_Waiting → Option (Bool))) (s3 : Int × Int × (List api_Waiting)) : Option ((Int × Int × (List api_Waiting)) ⊕ ((Int × (List api_Waiting)) ⊕ ((List api_Waiting)))) :=
  (bif (decide (s3.2.1 < ((s3.2.2.length : Nat) : Int))) then
    (chkO (decide (0 ≤ s3.2.1) && decide (s3.2.1 < ((s3.2.2.length : Nat) : Int)))).bind fun _ =>
    (getI s3.2.2 s3.2.1).bind fun x58 =>
    (del_ x58).bind fun y59 =>
    (bif (!y59) then
      (chkO (decide (0 ≤ s3.1) && decide (s3.1 < ((s3.2.2.length : Nat) : Int)))).bind fun _ =>
      (getI s3.2.2 s3.1).bind fun x61 =>
      some (.inl ((IntKind.i64.wrap (s3.1 + (1 : Int))), (IntKind.i64.wrap (s3.2.1 + (1 : Int))), (List.set s3.2.2 s3.1.toNat x58)))
    else
      some (.inl (s3.1, (IntKind.i64.wrap (s3.2.1 + (1 : Int))), s3.2.2)))
  else
    some (.inr (.inl (s3.1, s3.2.2))))
noncomputable def slices_DeleteFunc_api_Waiting_api_Waiting (s_ : (List api_Waiting)) (del_ : (api_Waiting → Option (Bool))) : Option ((List api_Waiting)) :=
  (slices_IndexFunc_api_Waiting_api_Waiting s_ del_).bind fun y1 =>
  (bif (y1 == (-1 : Int)) then
    some s_
  else
    (seqF (A := Int × (List api_Waiting)) (
      loopF (slices_DeleteFunc_api_Waiting_api_Waiting_L1 del_) (y1, (IntKind.i64.wrap (y1 + (1 : Int))), s_))
    fun s2 =>
      (chkO (cutO s2.1 ((s2.2.length : Nat) : Int) ((s2.2.length : Nat) : Int))).bind fun _ =>
      (chkO (cutO (0 : Int) s2.1 ((s2.2.length : Nat) : Int))).bind fun _ =>
      some (List.take (s2.1 - (0 : Int)).toNat (List.take s2.1.toNat s2.2 ++ List.replicate (((s2.2.length : Nat) : Int) - s2.1).toNat (api_Waiting.mk (0 : Int) (0 : Int) (0 : Int) (0 : Int)) ++ List.drop (s2.1.toNat + (((s2.2.length : Nat) : Int) - s2.1).toNat) s2.2))))
theorem slices_DeleteFunc_api_Waiting_api_Waiting_fn {s_ : (List api_Waiting)} {del_ : (api_Waiting → Option (Bool))} {del_F : FuncId} {del_C : List AV} (del_H : del_C.all capd = true) (del_P : ∀ (q0 : api_Waiting) (z : Bool), del_ q0 = some z → Fn Tryz.prog del_F ([.agg (api_Waiting.av q0)] ++ del_C) (VB z)) {r : (List api_Waiting)} (h : slices_DeleteFunc_api_Waiting_api_Waiting s_ del_ = some r) : FnW Tryz.prog 30 4 (List.map api_Waiting.enc s_) [.fn del_F del_C] (.tup [.ow 4 (List.map api_Waiting.enc r)]) := by
  refine FnW.of_AW (n := s_.length) (F := FnX Tryz.prog) (base := 0) (js := [11]) mixed tok noeqs (fun _ _ _ h => h) Tryz.call30 Tryz.func30 rfl Tryz.ntmps30 (by rw [Tryz.results30]) (by simp) (by simp) ?_; have hG : (fun x => x = r) r := rfl; unfold slices_DeleteFunc_api_Waiting_api_Waiting at h; refine Zap 2 rfl ?_; refine Zm (.row 4 1 0) (Mem.add _ 4 (.rows 4 (List.map api_Waiting.enc ([] : List api_Waiting)) false)) rfl rfl ?_; refine Zpp 4 rfl ?_; refine Zo (.row 1000000 1 s_.length) rfl rfl ?_; refine Zo (.fn del_F del_C) rfl rfl ?_; refine Y1 rfl ?_; refine bindK h fun y1 hy1 h => ?_; refine callZ [some (.row 1000000 1 s_.length)] rfl rfl rfl rfl del_H ?_; refine W.call rfl (slices_IndexFunc_api_Waiting_api_Waiting_fn (f_F := del_F) (f_C := del_C) del_H del_P hy1) ?_; refine Zwc 11 rfl ?_; refine A.condB rfl h (fun _ h => ?_) (fun _ h => ?_)
  · refine Zcp 2 rfl ?_; refine Zo (.row 1000000 1 s_.length) rfl rfl ?_; refine Zo (.row 1000000 1 s_.length) rfl rfl ?_; refine Zpb 4 rfl ?_; cases h; cases hG; exact ⟨(Plain.map api_Waiting_plain _), rfl⟩
  · refine Zcc 2 rfl ?_; refine A.join (fun (s2 : Int × (List api_Waiting)) => [(0, .row 900000 1 s2.2.length), (5, VI s2.1)]) (fun s2 => [(900000, .rows 4 (List.map api_Waiting.enc s2.2) false)]) _ h hG rfl ?_ ?_
    · intro J f h hG; refine Zac 8 rfl ?_; refine A.loop (fun (s3 : Int × Int × (List api_Waiting)) => [(0, .row 900000 1 s3.2.2.length), (1, .fn del_F del_C), (5, VI s3.1), (6, VI s3.2.1)]) (fun s3 => [(900000, .rows 4 (List.map api_Waiting.enc s3.2.2) false)]) _ h hG (Zf [] [(900000, (1000000, 1))] rfl rfl (Ze rfl rfl (chkE.g del_H rfl (Ze rfl rfl (Ze rfl rfl trivial)))) (Zc rfl rfl trivial)) ?_; intro J s3 f h hG; unfold slices_DeleteFunc_api_Waiting_api_Waiting_L1 at h; refine Zap 4 rfl ?_; refine Zo (.row 900000 1 s3.2.2.length) rfl rfl ?_; refine Zpc 4 rfl ?_; refine A.condB rfl h (fun _ h => ?_) (fun _ h => ?_)
      · refine Zcp 6 rfl ?_; refine Zo (.row 900000 1 s3.2.2.length) rfl rfl ?_; refine Zpp 1 rfl ?_; refine Y1 rfl ?_; refine chkK h fun g57 h => ?_; refine W.chk rfl (by simpa using g57) ?_; refine W.det (.rp 900000 1 s3.2.1.toNat 0) _ rfl ?_; refine Y1 rfl ?_; refine bindK h fun x58 hx58 h => ?_; refine W.elem rfl (elemG hx58) ?_; refine W.det (.agg (api_Waiting.av x58)) _ rfl ?_; refine Zm (.lp 7 2 0) (Mem.add _ 7 (.box [VI 0, VI 0, VI 0, VI 0])) rfl rfl ?_; refine Zm (.tup []) (Mem.set _ 7 2 (some (.box (api_Waiting.av x58)))) rfl rfl ?_; refine Zpp 4 rfl ?_; refine Zo (.fn del_F del_C) rfl rfl ?_; refine Zo (.agg (api_Waiting.av x58)) rfl rfl ?_; refine Y1 rfl ?_; refine bindK h fun y59 hy59 h => ?_; refine callG rfl rfl rfl del_H ?_; refine W.call rfl (del_P _ _ hy59) ?_; refine Zwc 4 rfl ?_; refine A.condB rfl h (fun _ h => ?_) (fun _ h => ?_)
        · refine Zcp 2 rfl ?_; refine Zo (.row 900000 1 s3.2.2.length) rfl rfl ?_; refine Zpp 1 rfl ?_; refine Zo (.agg (api_Waiting.av x58)) rfl rfl ?_; refine Y1 rfl ?_; refine chkK h fun g60 h => ?_; refine W.chk rfl (by simpa using g60) ?_; refine W.det (.rp 900000 1 s3.1.toNat 0) _ rfl ?_; refine Y1 rfl ?_; refine bindK h fun x61 hx61 h => ?_; refine W.elem rfl (elemG hx61) ?_; refine W.set x58 rfl rfl ?_; refine Zpb 14 rfl ?_; cases h; exact Zh hG [] [(900000, (900000, 1))] rfl rfl (chkE.c rfl (by simp only [List.length_set]; rfl) (chkE.g del_H rfl (Ze rfl rfl (Ze rfl rfl trivial)))) (Zc rfl rfl trivial)
        · refine Zcb 8 rfl ?_; cases h; exact Zh hG [] [(900000, (900000, 1))] rfl rfl (Ze rfl rfl (chkE.g del_H rfl (Ze rfl rfl (Ze rfl rfl trivial)))) (Zc rfl rfl trivial)
      · refine Zcb 2 rfl ?_; refine headK.e ?_; refine Zob 1 rfl ?_; cases h; exact Zh hG [] [(900000, (900000, 1))] rfl rfl (Ze rfl rfl (Ze rfl rfl trivial)) (Zc rfl rfl trivial)
    · intro s2 r2 h hG; refine Zcp 2 rfl ?_; refine Zo (.row 900000 1 s2.2.length) rfl rfl ?_; refine Zpp 1 rfl ?_; refine Y1 rfl ?_; refine chkK h fun g62 h => ?_; refine W.chk rfl (cutO_all g62) ?_; refine W.det (.sub 900000 1 s2.1.toNat (((s2.2.length : Nat) : Int) - s2.1).toNat) _ rfl ?_; refine Y1 rfl ?_; refine W.to (v2 := (.tup [])) (m2 := (Mem.set _ 900000 1 (some (.rows 4 (List.map api_Waiting.enc (List.take s2.1.toNat s2.2 ++ List.replicate (((s2.2.length : Nat) : Int) - s2.1).toNat (api_Waiting.mk (0 : Int) (0 : Int) (0 : Int) (0 : Int)) ++ List.drop (s2.1.toNat + (((s2.2.length : Nat) : Int) - s2.1).toNat) s2.2)) false)))) rfl rfl (congrArg (fun q => Mem.set _ 900000 1 (some (Inst.rows 4 q false))) (clrMap api_Waiting.enc (api_Waiting.mk (0 : Int) (0 : Int) (0 : Int) (0 : Int)) s2.2 s2.1.toNat (((s2.2.length : Nat) : Int) - s2.1).toNat)) ?_; refine Zpp 4 rfl ?_; refine Zo (.row 900000 1 s2.2.length) rfl rfl ?_; refine Zpp 1 rfl ?_; refine Y1 rfl ?_; refine chkK h fun g63 h => ?_; refine W.chk rfl (cutO_all g63) ?_; refine W.det (.sub 900000 1 (0 : Int).toNat (s2.1 - (0 : Int)).toNat) _ rfl ?_; refine Zo (.sub 900000 1 (0 : Int).toNat (s2.1 - (0 : Int)).toNat) rfl rfl ?_; refine Zpb 3 rfl ?_; cases h; cases hG
      exact ⟨(Plain.map api_Waiting_plain _), _, rfl, by simp only [List.map_take]⟩
noncomputable def queue_Step_2 (w_ : api_Waiting) : Option (Bool) :=
  some (w_.Left == (0 : Int))
theorem queue_Step_2_fn {w_ : api_Waiting} {r : Bool} (h : queue_Step_2 w_ = some r) : Fn Tryz.prog 31 [.agg (api_Waiting.av w_)] (VB r) := by
  refine Fn.of_AW (F := FnX Tryz.prog) (base := 0) (js := []) mixed tok noeqs (fun _ _ _ h => h) Tryz.call31 Tryz.func31 rfl Tryz.ntmps31 (by rw [Tryz.results31]) (by simp) ?_; have hG : (fun x => x = r) r := rfl; unfold queue_Step_2 at h; refine Zap 2 rfl ?_; refine Zm (.lp 1 1 0) (Mem.add _ 1 (.box (api_Waiting.av w_))) rfl rfl ?_; refine Zpb 12 rfl ?_; cases h; cases hG; exact ⟨rfl, trivial⟩
noncomputable def queue_Step_L1 (y1 : (List api_Waiting)) (p1_ : Int) (s3 : Int × (List Int)) : Option ((Int × (List Int)) ⊕ (((List Int)) ⊕ ((List Int) × (List api_Waiting)))) :=
  (bif (decide (s3.1 < ((y1.length : Nat) : Int))) then
    (chkO (decide (0 ≤ s3.1) && decide (s3.1 < ((y1.length : Nat) : Int)))).bind fun _ =>
    (getI y1 s3.1).bind fun x44 =>
    (bif (x44.Net == p1_) then
      (chkO (decide (s3.2.length + [s3.1].length ≤ 1000000))).bind fun _ =>
      some (.inl ((IntKind.i64.wrap (s3.1 + (1 : Int))), (s3.2 ++ [s3.1])))
    else
      some (.inl ((IntKind.i64.wrap (s3.1 + (1 : Int))), s3.2)))
  else
    some (.inr (.inl s3.2)))
noncomputable def queue_Step_L2 (s2 : ((List Int))) (y46 : (List Int)) (s6 : Int × Int × (List Int) × (List api_Waiting)) : Option ((Int × Int × (List Int) × (List api_Waiting)) ⊕ (((List Int) × (List api_Waiting)) ⊕ ((List Int) × (List api_Waiting)))) :=
  (bif (decide (s6.2.1 < ((s2.length : Nat) : Int))) then
    (chkO (decide (0 ≤ s6.2.1) && decide (s6.2.1 < ((y46.length : Nat) : Int)))).bind fun _ =>
    (getI y46 s6.2.1).bind fun x158 =>
    (chkO (decide (0 ≤ x158) && decide (x158 < ((s6.2.2.2.length : Nat) : Int)))).bind fun _ =>
    (getI s6.2.2.2 x158).bind fun x160 =>
    (getI (List.set s6.2.2.2 x158.toNat (api_Waiting.mk x160.Event x160.Net (IntKind.i64.wrap (x160.Left - (if x160.Left < s6.1 then x160.Left else s6.1))) x160.Due)) x158).bind fun x164 =>
    (bif (x164.Left == (0 : Int)) then
      (chkO (decide (s6.2.2.1.length + [x164.Event].length ≤ 1000000))).bind fun _ =>
      some (.inl ((IntKind.i64.wrap (s6.1 - (if x160.Left < s6.1 then x160.Left else s6.1))), (IntKind.i64.wrap (s6.2.1 + (1 : Int))), (s6.2.2.1 ++ [x164.Event]), (List.set s6.2.2.2 x158.toNat (api_Waiting.mk x160.Event x160.Net (IntKind.i64.wrap (x160.Left - (if x160.Left < s6.1 then x160.Left else s6.1))) x160.Due))))
    else
      some (.inl ((IntKind.i64.wrap (s6.1 - (if x160.Left < s6.1 then x160.Left else s6.1))), (IntKind.i64.wrap (s6.2.1 + (1 : Int))), s6.2.2.1, (List.set s6.2.2.2 x158.toNat (api_Waiting.mk x160.Event x160.Net (IntKind.i64.wrap (x160.Left - (if x160.Left < s6.1 then x160.Left else s6.1))) x160.Due)))))
  else
    some (.inr (.inl (s6.2.2.1, s6.2.2.2))))
noncomputable def queue_Step (p_ : api_Profile) (p1_ : Int) (p2_ : (List api_Waiting)) (p3_ : Bool) : Option ((List Int) × (List api_Waiting)) :=
  (slices_Clone_api_Waiting_api_Waiting p2_).bind fun y1 =>
  (bif (!p3_) then
    some (([] : List Int), y1)
  else
    (profile_Check p_).bind fun y8 =>
    (bif (y8 != (0 : Int)) then
      some (([] : List Int), y1)
    else
      (queue_queue p2_).bind fun y9 =>
      (bif (!y9) then
        some (([] : List Int), y1)
      else
        (seqF (A := (List Int)) (
          loopF (queue_Step_L1 y1 p1_) ((0 : Int), ([] : List Int)))
        fun s2 =>
          (sortI (fun a0 a1 => queue_Step_1 a0 a1 y1) s2).bind fun y46 =>
          (seqF (A := (List Int) × (List api_Waiting)) (
            loopF (queue_Step_L2 s2 y46) (p_.Rate, (0 : Int), ([] : List Int), y1))
          fun s5 =>
            (slices_DeleteFunc_api_Waiting_api_Waiting s5.2 queue_Step_2).bind fun y167 =>
            some (s5.1, y167))))))
theorem queue_Step_fn {p_ : api_Profile} {p1_ : Int} {p2_ : (List api_Waiting)} {p3_ : Bool} {r : (List Int) × (List api_Waiting)} (h : queue_Step p_ p1_ p2_ p3_ = some r) : Fn Tryz.prog 8 [.agg (api_Profile.av p_), VI p1_, VF (List.map api_Waiting.enc p2_), VB p3_] (.tup [.ow 1 (List.map (encI .i64) r.1), .ow 4 (List.map api_Waiting.enc r.2)]) := by
  refine Fn.of_AW (F := FnX Tryz.prog) (base := 0) (js := [11, 23]) mixed tok noeqs (fun _ _ _ h => h) Tryz.call8 Tryz.func8 rfl Tryz.ntmps8 (by rw [Tryz.results8]) (by simp) ?_; have hG : (fun x => x = r) r := rfl; unfold queue_Step at h; refine Zap 2 rfl ?_; refine Zm (.lp 4 1 0) (Mem.add _ 4 (.box (api_Profile.av p_))) rfl rfl ?_; refine Zm (.row 8 1 0) (Mem.add _ 8 (.rows 1 (List.map (encI .i64) ([] : List Int)) false)) rfl rfl ?_; refine Zm (.row 9 1 0) (Mem.add _ 9 (.rows 4 (List.map api_Waiting.enc ([] : List api_Waiting)) false)) rfl rfl ?_; refine Zpp 5 rfl ?_; refine Y1 rfl ?_; refine bindK h fun y1 hy1 h => ?_; refine W.call rfl (slices_Clone_api_Waiting_api_Waiting_fn hy1) ?_; refine W.v (.row 20 1 (List.map api_Waiting.enc y1).length) (.row 20 1 y1.length) (Mem.add _ 20 (.rows 4 (List.map api_Waiting.enc y1) false)) rfl (by simp only [List.length_map]) ?_; refine Zm (.lp 10 1 0) (Mem.add (Mem.add _ 65546 (.rows 4 (List.map api_Waiting.enc ([] : List api_Waiting)) false)) 10 (.box [.row 65546 1 0])) rfl rfl ?_; refine Zm (.tup []) (Mem.set _ 10 1 (some (.box [.row 20 1 y1.length]))) rfl rfl ?_; refine Zpp 8 rfl ?_; refine YF rfl rfl rfl h (fun _ h => ?_) (fun _ h => ?_)
  · refine Zpc 12 rfl ?_; refine A.regionD (by kernel_rfl) ?_; refine Zo (.row 20 1 y1.length) rfl rfl ?_; refine Zm (.row 8 2 0) (Mem.add _ 8 (.rows 1 (List.map (encI .i64) ([] : List Int)) false)) rfl rfl ?_; refine Zo (.row 20 1 y1.length) rfl rfl ?_; refine Zpb 4 rfl ?_; cases h; cases hG; exact ⟨rfl, rfl, rfl, rfl, trivial⟩
  · refine W.det (.agg (api_Profile.av p_)) _ rfl ?_; refine Y2 rfl rfl rfl ?_; refine bindK h fun y8 hy8 h => ?_; refine W.call rfl (profile_Check_fn hy8) ?_; refine Zwp 4 rfl ?_; refine YF rfl rfl rfl h (fun _ h => ?_) (fun _ h => ?_)
    · refine Zpc 7 rfl ?_; refine A.regionD (by kernel_rfl) ?_; refine Zo (.row 20 1 y1.length) rfl rfl ?_; refine Zm (.row 8 2 0) (Mem.add _ 8 (.rows 1 (List.map (encI .i64) ([] : List Int)) false)) rfl rfl ?_; refine Zo (.row 20 1 y1.length) rfl rfl ?_; refine Zpb 4 rfl ?_; cases h; cases hG; exact ⟨rfl, rfl, rfl, rfl, trivial⟩
    · refine Zwp 1 rfl ?_; refine Y2 rfl rfl rfl ?_; refine bindK h fun y9 hy9 h => ?_; refine W.call rfl (queue_queue_fn hy9) ?_; refine Zwc 5 rfl ?_; refine A.condB rfl h (fun _ h => ?_) (fun _ h => ?_)
      · refine Zcc 1 rfl ?_; refine A.regionD (by kernel_rfl) ?_; refine Zo (.row 20 1 y1.length) rfl rfl ?_; refine Zm (.row 8 2 0) (Mem.add _ 8 (.rows 1 (List.map (encI .i64) ([] : List Int)) false)) rfl rfl ?_; refine Zo (.row 20 1 y1.length) rfl rfl ?_; refine Zpb 4 rfl ?_; cases h; cases hG; exact ⟨rfl, rfl, rfl, rfl, trivial⟩
      · refine Zcp 4 rfl ?_; refine Zm (.row 11 1 0) (Mem.add _ 11 (.rows 1 (List.map (encI .i64) ([] : List Int)) false)) rfl rfl ?_; refine Zpc 2 rfl ?_; refine A.join (fun (s2 : (List Int)) => [(4, .lp 900000 1 0), (10, .lp 900001 1 0), (11, .row 900002 1 s2.length)]) (fun s2 => [(900000, .box (api_Profile.av p_)), (900001, .box [.row 900003 1 y1.length]), (900002, .rows 1 (List.map (encI .i64) s2) false), (900003, .rows 4 (List.map api_Waiting.enc y1) false)]) _ h hG rfl ?_ ?_
        · intro J f h hG; refine Zap 2 rfl ?_; refine Zo (.row 20 1 y1.length) rfl rfl ?_; refine Zpc 5 rfl ?_; refine A.loop (fun (s3 : Int × (List Int)) => [(1, VI p1_), (4, .lp 900000 1 0), (10, .lp 900001 1 0), (11, .row 900002 1 s3.2.length), (34, .row 900003 1 y1.length), (35, VI ((y1.length : Nat) : Int)), (36, VI s3.1)]) (fun s3 => [(900000, .box (api_Profile.av p_)), (900001, .box [.row 900003 1 y1.length]), (900002, .rows 1 (List.map (encI .i64) s3.2) false), (900003, .rows 4 (List.map api_Waiting.enc y1) false)]) _ h hG (Zf [] [(900000, (4, 1)), (900001, (10, 1)), (900002, (11, 1)), (900003, (20, 1))] rfl rfl (Ze rfl rfl (Ze rfl rfl (Ze rfl rfl (Ze rfl rfl (Ze rfl rfl (Ze rfl rfl (Ze rfl rfl trivial))))))) (Zc rfl rfl (Zc rfl rfl (Zc rfl rfl (Zc rfl rfl trivial))))) ?_; intro J s3 f h hG; unfold queue_Step_L1 at h; refine Zac 6 rfl ?_; refine A.condB rfl h (fun _ h => ?_) (fun _ h => ?_)
          · refine Zcp 7 rfl ?_; refine Y1 rfl ?_; refine chkK h fun g43 h => ?_; refine W.chk rfl (by simpa using g43) ?_; refine W.det (.rp 900003 1 s3.1.toNat 0) _ rfl ?_; refine Y1 rfl ?_; refine bindK h fun x44 hx44 h => ?_; refine W.elem rfl (elemG hx44) ?_; refine W.det (.agg (api_Waiting.av x44)) _ rfl ?_; refine Zm (.lp 13 2 0) (Mem.add _ 13 (.box [VI 0, VI 0, VI 0, VI 0])) rfl rfl ?_; refine Zpp 1 rfl ?_; refine Zm (.tup []) (Mem.set _ 13 2 (some (.box (api_Waiting.av x44)))) rfl rfl ?_; refine Zpc 10 rfl ?_; refine A.condB rfl h (fun _ h => ?_) (fun _ h => ?_)
            · refine Zcp 1 rfl ?_; refine Zo (.row 900002 1 s3.2.length) rfl rfl ?_; refine Zpp 1 rfl ?_; refine Zm (.row 47 2 1) (Mem.add _ 47 (.rows 1 (List.map (encI .i64) [s3.1]) false)) rfl rfl ?_; refine Y1 rfl ?_; refine chkK h fun g45 h => ?_; refine W.chk rfl (appChk (fun _ => rfl) g45) ?_; refine W.app rfl rfl ?_; refine Zo (.row 900002 2 (s3.2 ++ [s3.1]).length) rfl rfl ?_; refine Zpb 7 rfl ?_; cases h; exact Zh hG [] [(900000, (900000, 1)), (900001, (900001, 1)), (900002, (900002, 2)), (900003, (900003, 1))] rfl rfl (Ze rfl rfl (Ze rfl rfl (Ze rfl rfl (Ze rfl rfl (Ze rfl rfl (Ze rfl rfl (Ze rfl rfl trivial))))))) (Zc rfl rfl (Zc rfl rfl (Zc rfl rfl (Zc rfl rfl trivial))))
            · refine Zcb 7 rfl ?_; cases h; exact Zh hG [] [(900000, (900000, 1)), (900001, (900001, 1)), (900002, (900002, 1)), (900003, (900003, 1))] rfl rfl (Ze rfl rfl (Ze rfl rfl (Ze rfl rfl (Ze rfl rfl (Ze rfl rfl (Ze rfl rfl (Ze rfl rfl trivial))))))) (Zc rfl rfl (Zc rfl rfl (Zc rfl rfl (Zc rfl rfl trivial))))
          · refine Zcb 2 rfl ?_; refine headK.e ?_; refine Zob 1 rfl ?_; cases h; exact Zh hG [] [(900000, (900000, 1)), (900001, (900001, 1)), (900002, (900002, 1)), (900003, (900003, 1))] rfl rfl (Ze rfl rfl (Ze rfl rfl (Ze rfl rfl trivial))) (Zc rfl rfl (Zc rfl rfl (Zc rfl rfl (Zc rfl rfl trivial))))
        · intro s2 r2 h hG; refine Zcp 2 rfl ?_; refine Zo (.row 900002 1 s2.length) rfl rfl ?_; refine Zo (.fn 27 [.lp 900001 1 0]) rfl rfl ?_; refine Y1 rfl ?_; refine bindK h fun y46 hy46 h => ?_; refine W.call rfl (slices_SortFunc_int_int_fn (cF := 27) (cC := [.fp [.fz (List.map api_Waiting.enc y1)]]) rfl (fun _ _ _ h => queue_Step_1_fn h) hy46) ?_; refine W.chk rfl (by simp only [List.length_map]; exact sortI_len hy46) ?_; refine W.det (.tup []) (Mem.set _ 900002 1 (some (.rows 1 (List.map (encI .i64) y46) false))) rfl ?_; refine Zpp 4 rfl ?_; refine Zm (.row 14 2 0) (Mem.add _ 14 (.rows 1 (List.map (encI .i64) ([] : List Int)) false)) rfl rfl ?_; refine Zpc 9 rfl ?_; refine A.join (fun (s5 : (List Int) × (List api_Waiting)) => [(10, .lp 900000 1 0), (14, .row 900001 1 s5.1.length)]) (fun s5 => [(900000, .box [.row 900002 1 s5.2.length]), (900001, .rows 1 (List.map (encI .i64) s5.1) false), (900002, .rows 4 (List.map api_Waiting.enc s5.2) false)]) _ h hG rfl ?_ ?_
          · intro J f h hG; refine Zap 2 rfl ?_; refine Zo (.row 900002 1 s2.length) rfl rfl ?_; refine Zpc 5 rfl ?_; refine A.loop (fun (s6 : Int × Int × (List Int) × (List api_Waiting)) => [(10, .lp 900000 1 0), (14, .row 900001 1 s6.2.2.1.length), (15, VI s6.1), (55, .row 900002 1 y46.length), (56, VI ((s2.length : Nat) : Int)), (57, VI s6.2.1)]) (fun s6 => [(900000, .box [.row 900003 1 s6.2.2.2.length]), (900001, .rows 1 (List.map (encI .i64) s6.2.2.1) false), (900002, .rows 1 (List.map (encI .i64) y46) false), (900003, .rows 4 (List.map api_Waiting.enc s6.2.2.2) false)]) _ h hG (Zf [] [(900000, (900001, 1)), (900001, (14, 2)), (900002, (900002, 1)), (900003, (900003, 1))] rfl rfl (Ze rfl rfl (Ze rfl rfl (Ze rfl rfl (chkE.c rfl (by simp only [sortI_len hy46]; rfl) (Ze rfl rfl (Ze rfl rfl trivial)))))) (Zc rfl rfl (Zc rfl rfl (Zc rfl rfl (Zc rfl rfl trivial))))) ?_; intro J s6 f h hG; unfold queue_Step_L2 at h; refine Zac 6 rfl ?_; refine A.condB rfl h (fun _ h => ?_) (fun _ h => ?_)
            · refine Zcp 6 rfl ?_; refine Y1 rfl ?_; refine chkK h fun g157 h => ?_; refine W.chk rfl (by simpa using g157) ?_; refine W.det (.rp 900002 1 s6.2.1.toNat 0) _ rfl ?_; refine Y1 rfl ?_; refine bindK h fun x158 hx158 h => ?_; refine W.elem rfl (elemG hx158) ?_; refine Zwp 7 rfl ?_; refine Zo (.row 900003 1 s6.2.2.2.length) rfl rfl ?_; refine Zpp 1 rfl ?_; refine Y1 rfl ?_; refine chkK h fun g159 h => ?_; refine W.chk rfl (by simpa using g159) ?_; refine W.det (.rp 900003 1 x158.toNat 0) _ rfl ?_; refine Zo (.rp 900003 1 x158.toNat 2) rfl rfl ?_; refine Y1 rfl ?_; refine bindK h fun x160 hx160 h => ?_; refine W.elem rfl (elemG hx160) ?_; refine Zwp 7 rfl ?_; refine Zo (.row 900003 1 s6.2.2.2.length) rfl rfl ?_; refine Zpp 1 rfl ?_; refine Y1 rfl ?_; refine W.chk rfl (by simpa using g159) ?_; refine W.det (.rp 900003 1 x158.toNat 0) _ rfl ?_; refine Zo (.rp 900003 1 x158.toNat 2) rfl rfl ?_; refine Y1 rfl ?_; refine W.elem rfl (elemG hx160) ?_; refine Zwp 3 rfl ?_; refine Y1 rfl ?_; refine W.chk rfl (by simpa using g159) ?_; refine W.det (.rp 900003 1 x158.toNat 0) _ rfl ?_; refine Zo (.rp 900003 1 x158.toNat 2) rfl rfl ?_; refine Y1 rfl ?_; refine W.elem rfl (elemG hx160) ?_; refine W.set (api_Waiting.mk x160.Event x160.Net (IntKind.i64.wrap (x160.Left - (if x160.Left < s6.1 then x160.Left else s6.1))) x160.Due) rfl rfl ?_; refine Zpp 12 rfl ?_; refine Zo (.row 900003 1 s6.2.2.2.length) rfl rfl ?_; refine Zpp 1 rfl ?_; refine Y1 rfl ?_; refine W.chk rfl (by simpa using g159) ?_; refine W.det (.rp 900003 1 x158.toNat 0) _ rfl ?_; refine Zo (.rp 900003 1 x158.toNat 2) rfl rfl ?_; refine Y1 rfl ?_; refine bindK h fun x164 hx164 h => ?_; refine W.elem rfl (elemG hx164) ?_; refine Zwc 4 rfl ?_; refine A.condB rfl h (fun _ h => ?_) (fun _ h => ?_)
              · refine Zcp 1 rfl ?_; refine Zo (.row 900001 1 s6.2.2.1.length) rfl rfl ?_; refine Zo (.row 900003 1 s6.2.2.2.length) rfl rfl ?_; refine Zpp 1 rfl ?_; refine Y1 rfl ?_; refine W.chk rfl (by simpa using g159) ?_; refine W.det (.rp 900003 1 x158.toNat 0) _ rfl ?_; refine Zo (.rp 900003 1 x158.toNat 0) rfl rfl ?_; refine Y1 rfl ?_; refine W.elem rfl (elemG hx164) ?_; refine Zwp 1 rfl ?_; refine Zm (.row 92 2 1) (Mem.add _ 92 (.rows 1 (List.map (encI .i64) [x164.Event]) false)) rfl rfl ?_; refine Y1 rfl ?_; refine chkK h fun g166 h => ?_; refine W.chk rfl (appChk (fun _ => rfl) g166) ?_; refine W.app rfl rfl ?_; refine Zo (.row 900001 2 (s6.2.2.1 ++ [x164.Event]).length) rfl rfl ?_; refine Zpb 7 rfl ?_; cases h; exact Zh hG [] [(900000, (900000, 1)), (900001, (900001, 2)), (900002, (900002, 1)), (900003, (900003, 1))] rfl rfl (Ze rfl rfl (Ze rfl rfl (Ze rfl rfl (Ze rfl rfl (Ze rfl rfl (Ze rfl rfl trivial)))))) (chkM.c rfl (by simp only [List.length_set]; rfl) (Zc rfl rfl (Zc rfl rfl (Zc rfl rfl trivial))))
              · refine Zcb 7 rfl ?_; cases h; exact Zh hG [] [(900000, (900000, 1)), (900001, (900001, 1)), (900002, (900002, 1)), (900003, (900003, 1))] rfl rfl (Ze rfl rfl (Ze rfl rfl (Ze rfl rfl (Ze rfl rfl (Ze rfl rfl (Ze rfl rfl trivial)))))) (chkM.c rfl (by simp only [List.length_set]; rfl) (Zc rfl rfl (Zc rfl rfl (Zc rfl rfl trivial))))
            · refine Zcb 2 rfl ?_; refine headK.e ?_; refine Zob 1 rfl ?_; cases h; exact Zh hG [] [(900000, (900000, 1)), (900001, (900001, 1)), (900002, (900003, 1))] rfl rfl (Ze rfl rfl (Ze rfl rfl trivial)) (Zc rfl rfl (Zc rfl rfl (Zc rfl rfl trivial)))
          · intro s5 r2 h hG; refine Zcp 2 rfl ?_; refine Zo (.row 900001 1 s5.1.length) rfl rfl ?_; refine Zo (.row 900002 1 s5.2.length) rfl rfl ?_; refine Y1 rfl ?_; refine bindK h fun y167 hy167 h => ?_; refine W.call rfl (slices_DeleteFunc_api_Waiting_api_Waiting_fn (del_F := 31) (del_C := []) rfl (fun _ _ h => queue_Step_2_fn h) hy167) ?_; refine W.rows (List.map api_Waiting.enc y167).length y167.length ((List.map api_Waiting.enc y167) ++ []) (List.map api_Waiting.enc y167) rfl (by first | rfl | (simp; done) | simp only [partMap, List.length_map, List.length_append, List.nil_append, Nat.zero_add, List.length_nil]) (by first | rfl | (simp; done) | simp only [partMap, List.map_append, List.nil_append, List.map_nil]) ?_; refine Zo (.row 900001 1 s5.1.length) rfl rfl ?_; refine Zo (.row 900002 2 y167.length) rfl rfl ?_; refine Zpb 3 rfl ?_; cases h; cases hG; exact ⟨rfl, rfl, rfl, rfl, trivial⟩
noncomputable def ref30_Same_L1 (a_ : (List api_Waiting)) (b_ : (List api_Waiting)) (s3 : Int) : Option ((Int) ⊕ ((Unit) ⊕ (Bool))) :=
  (bif (decide (s3 < (a_.length : Int))) then
    (getI a_ s3).bind fun x23 =>
    (getI b_ s3).bind fun x24 =>
    (bif (!((x23.Event == x24.Event) && ((x23.Net == x24.Net) && ((x23.Left == x24.Left) && ((x23.Due == x24.Due) && true))))) then
      some (.inr (.inr false))
    else
      some (.inl (IntKind.i64.wrap (s3 + (1 : Int)))))
  else
    some (.inr (.inl ())))
noncomputable def ref30_Same (a_ : (List api_Waiting)) (b_ : (List api_Waiting)) : Option (Bool) :=
  (bif ((a_.length : Int) != (b_.length : Int)) then
    some false
  else
    (seqF (A := Unit) (
      loopF (ref30_Same_L1 a_ b_) (0 : Int))
    fun s2 =>
      some true))
theorem ref30_Same_fn {a_ : (List api_Waiting)} {b_ : (List api_Waiting)} {r : Bool} (h : ref30_Same a_ b_ = some r) : Fn Tryz.prog 10 [VF (List.map api_Waiting.enc a_), VF (List.map api_Waiting.enc b_)] (VB r) := by
  refine Fn.of_AW (F := FnX Tryz.prog) (base := 0) (js := [8]) mixed tok noeqs (fun _ _ _ h => h) Tryz.call10 Tryz.func10 rfl Tryz.ntmps10 (by rw [Tryz.results10]) (by simp) ?_; have hG : (fun x => x = r) r := rfl; unfold ref30_Same at h; refine Zap 9 rfl ?_; refine Y1 rfl ?_; refine W.len rfl ?_; refine Zpp 1 rfl ?_; refine Y1 rfl ?_; refine W.len rfl ?_; refine Zpc 3 rfl ?_; refine A.condB rfl h (fun _ h => ?_) (fun _ h => ?_)
  · refine Zcb 7 rfl ?_; cases h; cases hG; exact ⟨rfl, trivial⟩
  · refine Zcc 2 rfl ?_; refine A.join (fun (s2 : Unit) => []) (fun s2 => []) _ h hG rfl ?_ ?_
    · intro J f h hG; refine Zac 6 rfl ?_; refine A.loop (fun (s3 : Int) => [(0, VF (List.map api_Waiting.enc a_)), (1, VF (List.map api_Waiting.enc b_)), (5, VI s3)]) (fun s3 => []) _ h hG (Zf [] [] rfl rfl (Ze rfl rfl (Ze rfl rfl (Ze rfl rfl trivial))) trivial) ?_; intro J s3 f h hG; unfold ref30_Same_L1 at h; refine Zap 5 rfl ?_; refine Y1 rfl ?_; refine W.len rfl ?_; refine Zpc 3 rfl ?_; refine A.condB rfl h (fun _ h => ?_) (fun _ h => ?_)
      · refine Zcc 5 rfl ?_; refine A.regionD (by kernel_rfl) ?_; refine Zpp 2 rfl ?_; refine Y1 rfl ?_; refine bindK h fun x23 hx23 h => ?_; refine W.chk rfl (elemB hx23) ?_; refine W.elem rfl (elemG hx23) ?_; refine W.chk rfl rfl ?_; refine W.det (.fp [.v (.int .i64 x23.Event), .v (.int .i64 x23.Net), .v (.int .i64 x23.Left), .v (.int .i64 x23.Due)]) _ rfl ?_; refine Zo (.agg (api_Waiting.av x23)) rfl rfl ?_; refine Zpp 2 rfl ?_; refine Y1 rfl ?_; refine bindK h fun x24 hx24 h => ?_; refine W.chk rfl (elemB hx24) ?_; refine W.elem rfl (elemG hx24) ?_; refine W.chk rfl rfl ?_; refine W.det (.fp [.v (.int .i64 x24.Event), .v (.int .i64 x24.Net), .v (.int .i64 x24.Left), .v (.int .i64 x24.Due)]) _ rfl ?_; refine Zo (.agg (api_Waiting.av x24)) rfl rfl ?_; refine Zpc 3 rfl ?_; refine A.condB rfl h (fun _ h => ?_) (fun _ h => ?_)
        · refine Zcb 8 rfl ?_; refine headK.r ?_; refine Zob 1 rfl ?_; refine headK.r ?_; cases h; cases hG; exact ⟨rfl, trivial⟩
        · refine Zcb 8 rfl ?_; cases h; exact Zh hG [] [] rfl rfl (Ze rfl rfl (Ze rfl rfl (Ze rfl rfl trivial))) trivial
      · refine Zcb 2 rfl ?_; refine headK.e ?_; refine Zob 1 rfl ?_; cases h; exact Zh hG [] [] rfl rfl trivial trivial
    · intro s2 r2 h hG; refine Zcb 6 rfl ?_; cases h; cases hG; exact ⟨rfl, trivial⟩
theorem slices_Sort_int_int_fn {l r : List Int} (h : sortL l = some r) : FnW Tryz.prog 34 1 (List.map (encI .i64) l) [] (.ow 1 (List.map (encI .i64) r)) :=
  sortL_fnw Tryz.call34 (fun blk off cap zs w hH hblk hsz => Any.slices_Sort_int Tryz.sort34 blk off cap zs w hH hblk hsz) (fun p cap w => Any.slices_Sort_int_none Tryz.sort34 p cap w) h
noncomputable def slices_Compact_int_int_L1 (s_ : (List Int)) (s24 : (Int)) (s45 : Int × Int × (List Int)) : Option ((Int × Int × (List Int)) ⊕ ((Int × (List Int)) ⊕ ((Unit) ⊕ ((Int) ⊕ ((Unit) ⊕ ((List Int))))))) :=
  (bif (decide (s45.2.1 < (((((s_.length : Nat) : Int) - s24).toNat : Nat) : Int))) then
    (chkO (decide (0 ≤ s45.2.1) && decide (s45.2.1 < (((((s_.length : Nat) : Int) - s24).toNat : Nat) : Int)))).bind fun _ =>
    (getI s45.2.2 (((s24.toNat + s45.2.1.toNat) : Nat) : Int)).bind fun x1085 =>
    (chkO (decide (0 ≤ (IntKind.i64.wrap (s45.2.1 - (1 : Int)))) && decide ((IntKind.i64.wrap (s45.2.1 - (1 : Int))) < (((((s_.length : Nat) : Int) - s24).toNat : Nat) : Int)))).bind fun _ =>
    (getI s45.2.2 (((s24.toNat + (IntKind.i64.wrap (s45.2.1 - (1 : Int))).toNat) : Nat) : Int)).bind fun x1087 =>
    (bif (x1085 != x1087) then
      (chkO (decide (0 ≤ s45.1) && decide (s45.1 < ((s45.2.2.length : Nat) : Int)))).bind fun _ =>
      (getI s45.2.2 s45.1).bind fun x1090 =>
      some (.inl ((IntKind.i64.wrap (s45.1 + (1 : Int))), (IntKind.i64.wrap (s45.2.1 + (1 : Int))), (List.set s45.2.2 s45.1.toNat x1085)))
    else
      some (.inl (s45.1, (IntKind.i64.wrap (s45.2.1 + (1 : Int))), s45.2.2)))
  else
    some (.inr (.inl (s45.1, s45.2.2))))
noncomputable def slices_Compact_int_int_L2 (s_ : (List Int)) (s24 : Int) : Option ((Int) ⊕ ((Unit) ⊕ ((List Int)))) :=
  (bif (decide (s24 < ((s_.length : Nat) : Int))) then
    (seqF (A := Unit) (
      (chkO (decide (0 ≤ s24) && decide (s24 < ((s_.length : Nat) : Int)))).bind fun _ =>
      (getI s_ s24).bind fun x1003 =>
      (chkO (decide (0 ≤ (IntKind.i64.wrap (s24 - (1 : Int)))) && decide ((IntKind.i64.wrap (s24 - (1 : Int))) < ((s_.length : Nat) : Int)))).bind fun _ =>
      (getI s_ (IntKind.i64.wrap (s24 - (1 : Int)))).bind fun x1005 =>
      (bif (x1003 == x1005) then
        (chkO (cutO s24 ((s_.length : Nat) : Int) ((s_.length : Nat) : Int))).bind fun _ =>
        (seqF (A := Int × (List Int)) (
          loopF (slices_Compact_int_int_L1 s_ s24) (s24, (1 : Int), s_))
        fun s44 =>
          (chkO (cutO s44.1 ((s44.2.length : Nat) : Int) ((s44.2.length : Nat) : Int))).bind fun _ =>
          (chkO (cutO (0 : Int) s44.1 ((s44.2.length : Nat) : Int))).bind fun _ =>
          some (.inr (.inr (.inr (List.take (s44.1 - (0 : Int)).toNat (List.take s44.1.toNat s44.2 ++ List.replicate (((s44.2.length : Nat) : Int) - s44.1).toNat (0 : Int) ++ List.drop (s44.1.toNat + (((s44.2.length : Nat) : Int) - s44.1).toNat) s44.2))))))
      else
        some (.inl ())))
    fun s42 =>
      some (.inl (IntKind.i64.wrap (s24 + (1 : Int)))))
  else
    some (.inr (.inl ())))
noncomputable def slices_Compact_int_int (s_ : (List Int)) : Option ((List Int)) :=
  (bif (decide (((s_.length : Nat) : Int) < (2 : Int))) then
    some s_
  else
    (seqF (A := Unit) (
      loopF (slices_Compact_int_int_L2 s_) (1 : Int))
    fun s23 =>
      some s_))
theorem slices_Compact_int_int_fn {s_ : (List Int)} {r : (List Int)} (h : slices_Compact_int_int s_ = some r) : FnW Tryz.prog 35 1 (List.map (encI .i64) s_) [] (.tup [.ow 1 (List.map (encI .i64) r)]) := by
  refine FnW.of_AW (n := s_.length) (F := FnX Tryz.prog) (base := 0) (js := [5, 14, 16]) mixed tok noeqs (fun _ _ _ h => h) Tryz.call35 Tryz.func35 rfl Tryz.ntmps35 (by rw [Tryz.results35]) (by simp) (by simp) ?_; have hG : (fun x => x = r) r := rfl; unfold slices_Compact_int_int at h; refine Zap 2 rfl ?_; refine Zm (.row 2 1 0) (Mem.add _ 2 (.rows 1 (List.map (encI .i64) ([] : List Int)) false)) rfl rfl ?_; refine Zpp 5 rfl ?_; refine Zo (.row 1000000 1 s_.length) rfl rfl ?_; refine Zpc 4 rfl ?_; refine A.condB rfl h (fun _ h => ?_) (fun _ h => ?_)
  · refine Zcp 2 rfl ?_; refine Zo (.row 1000000 1 s_.length) rfl rfl ?_; refine Zo (.row 1000000 1 s_.length) rfl rfl ?_; refine Zpb 4 rfl ?_; cases h; cases hG; exact ⟨(Plain.map encI_plain _), rfl⟩
  · refine Zcc 2 rfl ?_; refine A.join (fun (s23 : Unit) => [(0, .row 900000 1 s_.length)]) (fun s23 => [(900000, .rows 1 (List.map (encI .i64) s_) false)]) _ h hG rfl ?_ ?_
    · intro J f h hG; refine Zac 6 rfl ?_; refine A.loop (fun (s24 : Int) => [(0, .row 900000 1 s_.length), (3, VI s24)]) (fun s24 => [(900000, .rows 1 (List.map (encI .i64) s_) false)]) _ h hG (Zf [] [(900000, (1000000, 1))] rfl rfl (Ze rfl rfl (Ze rfl rfl trivial)) (Zc rfl rfl trivial)) ?_; intro J s24 f h hG; unfold slices_Compact_int_int_L2 at h; refine Zap 4 rfl ?_; refine Zo (.row 900000 1 s_.length) rfl rfl ?_; refine Zpc 4 rfl ?_; refine A.condB rfl h (fun _ h => ?_) (fun _ h => ?_)
      · refine Zcc 2 rfl ?_; refine A.join (fun (s42 : Unit) => [(0, .row 900000 1 s_.length), (3, VI s24)]) (fun s42 => [(900000, .rows 1 (List.map (encI .i64) s_) false)]) _ h hG rfl ?_ ?_
        · intro J f h hG; refine Zac 2 rfl ?_; refine A.regionD (by kernel_rfl) ?_; refine Zo (.row 900000 1 s_.length) rfl rfl ?_; refine Zpp 1 rfl ?_; refine Y1 rfl ?_; refine chkK h fun g1002 h => ?_; refine W.chk rfl (by simpa using g1002) ?_; refine W.det (.rp 900000 1 s24.toNat 0) _ rfl ?_; refine Y1 rfl ?_; refine bindK h fun x1003 hx1003 h => ?_; refine W.elem rfl (elemG hx1003) ?_; refine Zwp 1 rfl ?_; refine Zo (.row 900000 1 s_.length) rfl rfl ?_; refine Zpp 2 rfl ?_; refine Y1 rfl ?_; refine chkK h fun g1004 h => ?_; refine W.chk rfl (by simpa using g1004) ?_; refine W.det (.rp 900000 1 (IntKind.i64.wrap (s24 - (1 : Int))).toNat 0) _ rfl ?_; refine Y1 rfl ?_; refine bindK h fun x1005 hx1005 h => ?_; refine W.elem rfl (elemG hx1005) ?_; refine Zwc 4 rfl ?_; refine A.condB rfl h (fun _ h => ?_) (fun _ h => ?_)
          · refine Zcp 2 rfl ?_; refine Zo (.row 900000 1 s_.length) rfl rfl ?_; refine Zpp 1 rfl ?_; refine Y1 rfl ?_; refine chkK h fun g1006 h => ?_; refine W.chk rfl (cutO_all g1006) ?_; refine W.det (.sub 900000 1 s24.toNat (((s_.length : Nat) : Int) - s24).toNat) _ rfl ?_; refine Zo (.sub 900000 1 s24.toNat (((s_.length : Nat) : Int) - s24).toNat) rfl rfl ?_; refine Zpc 2 rfl ?_; refine A.join (fun (s44 : Int × (List Int)) => [(0, .row 900000 1 s44.2.length), (3, VI s44.1)]) (fun s44 => [(900000, .rows 1 (List.map (encI .i64) s44.2) false)]) _ h hG rfl ?_ ?_
            · intro J f h hG; refine Zac 6 rfl ?_; refine A.loop (fun (s45 : Int × Int × (List Int)) => [(0, .row 900000 1 s45.2.2.length), (3, VI s45.1), (4, .sub 900000 1 s24.toNat (((s_.length : Nat) : Int) - s24).toNat), (5, VI s45.2.1)]) (fun s45 => [(900000, .rows 1 (List.map (encI .i64) s45.2.2) false)]) _ h hG (Zf [] [(900000, (900000, 1))] rfl rfl (Ze rfl rfl (Ze rfl rfl (Ze rfl rfl (Ze rfl rfl trivial)))) (Zc rfl rfl trivial)) ?_; intro J s45 f h hG; unfold slices_Compact_int_int_L1 at h; refine Zap 4 rfl ?_; refine Zo (.sub 900000 1 s24.toNat (((s_.length : Nat) : Int) - s24).toNat) rfl rfl ?_; refine Zpc 4 rfl ?_; refine A.condB rfl h (fun _ h => ?_) (fun _ h => ?_)
              · refine Zcc 5 rfl ?_; refine A.regionD (by kernel_rfl) ?_; refine Zo (.sub 900000 1 s24.toNat (((s_.length : Nat) : Int) - s24).toNat) rfl rfl ?_; refine Zpp 1 rfl ?_; refine Y1 rfl ?_; refine chkK h fun g1084 h => ?_; refine W.chk rfl (by simpa using g1084) ?_; refine W.det (.rp 900000 1 (s24.toNat + s45.2.1.toNat) 0) _ rfl ?_; refine Y1 rfl ?_; refine bindK h fun x1085 hx1085 h => ?_; refine W.elem rfl (elemG hx1085) ?_; refine Zwp 1 rfl ?_; refine Zo (.sub 900000 1 s24.toNat (((s_.length : Nat) : Int) - s24).toNat) rfl rfl ?_; refine Zpp 2 rfl ?_; refine Y1 rfl ?_; refine chkK h fun g1086 h => ?_; refine W.chk rfl (by simpa using g1086) ?_; refine W.det (.rp 900000 1 (s24.toNat + (IntKind.i64.wrap (s45.2.1 - (1 : Int))).toNat) 0) _ rfl ?_; refine Y1 rfl ?_; refine bindK h fun x1087 hx1087 h => ?_; refine W.elem rfl (elemG hx1087) ?_; refine Zwc 4 rfl ?_; refine A.condB rfl h (fun _ h => ?_) (fun _ h => ?_)
                · refine Zcp 2 rfl ?_; refine Zo (.row 900000 1 s45.2.2.length) rfl rfl ?_; refine Zpp 1 rfl ?_; refine Zo (.sub 900000 1 s24.toNat (((s_.length : Nat) : Int) - s24).toNat) rfl rfl ?_; refine Zpp 1 rfl ?_; refine Y1 rfl ?_; refine W.chk rfl (by simpa using g1084) ?_; refine W.det (.rp 900000 1 (s24.toNat + s45.2.1.toNat) 0) _ rfl ?_; refine Y1 rfl ?_; refine W.elem rfl (elemG hx1085) ?_; refine Zwp 1 rfl ?_; refine Y1 rfl ?_; refine chkK h fun g1089 h => ?_; refine W.chk rfl (by simpa using g1089) ?_; refine W.det (.rp 900000 1 s45.1.toNat 0) _ rfl ?_; refine Y1 rfl ?_; refine bindK h fun x1090 hx1090 h => ?_; refine W.elem rfl (elemG hx1090) ?_; refine W.set x1085 rfl rfl ?_; refine Zpb 14 rfl ?_; cases h; exact Zh hG [] [(900000, (900000, 1))] rfl rfl (chkE.c rfl (by simp only [List.length_set]; rfl) (Ze rfl rfl (Ze rfl rfl (Ze rfl rfl trivial)))) (Zc rfl rfl trivial)
                · refine Zcb 8 rfl ?_; cases h; exact Zh hG [] [(900000, (900000, 1))] rfl rfl (Ze rfl rfl (Ze rfl rfl (Ze rfl rfl (Ze rfl rfl trivial)))) (Zc rfl rfl trivial)
              · refine Zcb 2 rfl ?_; refine headK.e ?_; refine Zob 1 rfl ?_; cases h; exact Zh hG [] [(900000, (900000, 1))] rfl rfl (Ze rfl rfl (Ze rfl rfl trivial)) (Zc rfl rfl trivial)
            · intro s44 r2 h hG; refine Zcp 2 rfl ?_; refine Zo (.row 900000 1 s44.2.length) rfl rfl ?_; refine Zpp 1 rfl ?_; refine Y1 rfl ?_; refine chkK h fun g1091 h => ?_; refine W.chk rfl (cutO_all g1091) ?_; refine W.det (.sub 900000 1 s44.1.toNat (((s44.2.length : Nat) : Int) - s44.1).toNat) _ rfl ?_; refine Y1 rfl ?_; refine W.to (v2 := (.tup [])) (m2 := (Mem.set _ 900000 1 (some (.rows 1 (List.map (encI .i64) (List.take s44.1.toNat s44.2 ++ List.replicate (((s44.2.length : Nat) : Int) - s44.1).toNat (0 : Int) ++ List.drop (s44.1.toNat + (((s44.2.length : Nat) : Int) - s44.1).toNat) s44.2)) false)))) rfl rfl (congrArg (fun q => Mem.set _ 900000 1 (some (Inst.rows 1 q false))) (clrMap (encI .i64) (0 : Int) s44.2 s44.1.toNat (((s44.2.length : Nat) : Int) - s44.1).toNat)) ?_; refine Zpp 4 rfl ?_; refine Zo (.row 900000 1 s44.2.length) rfl rfl ?_; refine Zpp 1 rfl ?_; refine Y1 rfl ?_; refine chkK h fun g1092 h => ?_; refine W.chk rfl (cutO_all g1092) ?_; refine W.det (.sub 900000 1 (0 : Int).toNat (s44.1 - (0 : Int)).toNat) _ rfl ?_; refine Zo (.sub 900000 1 (0 : Int).toNat (s44.1 - (0 : Int)).toNat) rfl rfl ?_; refine Zpb 4 rfl ?_; refine headK.r ?_; refine headK.r ?_; refine Zob 1 rfl ?_; refine headK.r ?_; cases h; cases hG
              exact ⟨(Plain.map encI_plain _), _, rfl, by simp only [List.map_take]⟩
          · refine Zcb 2 rfl ?_; cases h; exact Zh hG [] [(900000, (900000, 1))] rfl rfl (Ze rfl rfl (Ze rfl rfl trivial)) (Zc rfl rfl trivial)
        · intro s42 r2 h hG; refine Zcb 5 rfl ?_; cases h; exact Zh hG [] [(900000, (900000, 1))] rfl rfl (Ze rfl rfl (Ze rfl rfl trivial)) (Zc rfl rfl trivial)
      · refine Zcb 2 rfl ?_; refine headK.e ?_; refine Zob 1 rfl ?_; cases h; exact Zh hG [] [(900000, (900000, 1))] rfl rfl (Ze rfl rfl trivial) (Zc rfl rfl trivial)
    · intro s23 r2 h hG; refine Zcp 2 rfl ?_; refine Zo (.row 900000 1 s_.length) rfl rfl ?_; refine Zo (.row 900000 1 s_.length) rfl rfl ?_; refine Zpb 3 rfl ?_; cases h; cases hG; exact ⟨(Plain.map encI_plain _), rfl⟩
noncomputable def queue_Late_L1 (l_ : (List api_Waiting)) (now_ : Int) (s3 : Int × (List Int)) : Option ((Int × (List Int)) ⊕ (((List Int)) ⊕ ((List Int)))) :=
  (bif (decide (s3.1 < (l_.length : Int))) then
    (getI l_ s3.1).bind fun x25 =>
    (bif (decide (x25.Due ≤ now_)) then
      (chkO (decide (s3.2.length + [x25.Event].length ≤ 1000000))).bind fun _ =>
      some (.inl ((IntKind.i64.wrap (s3.1 + (1 : Int))), (s3.2 ++ [x25.Event])))
    else
      some (.inl ((IntKind.i64.wrap (s3.1 + (1 : Int))), s3.2)))
  else
    some (.inr (.inl s3.2)))
noncomputable def queue_Late (l_ : (List api_Waiting)) (now_ : Int) : Option ((List Int)) :=
  (queue_queue l_).bind fun y2 =>
  (bif (!y2) then
    some ([] : List Int)
  else
    (seqF (A := (List Int)) (
      loopF (queue_Late_L1 l_ now_) ((0 : Int), ([] : List Int)))
    fun s2 =>
      (sortL s2).bind fun y27 =>
      (slices_Compact_int_int y27).bind fun y28 =>
      some y28))
theorem queue_Late_fn {l_ : (List api_Waiting)} {now_ : Int} {r : (List Int)} (h : queue_Late l_ now_ = some r) : Fn Tryz.prog 12 [VF (List.map api_Waiting.enc l_), VI now_] (.ow 1 (List.map (encI .i64) r)) := by
  refine Fn.of_AW (F := FnX Tryz.prog) (base := 0) (js := [10]) mixed tok noeqs (fun _ _ _ h => h) Tryz.call12 Tryz.func12 rfl Tryz.ntmps12 (by rw [Tryz.results12]) (by simp) ?_; have hG : (fun x => x = r) r := rfl; unfold queue_Late at h; refine Zap 2 rfl ?_; refine Zm (.row 4 1 0) (Mem.add _ 4 (.rows 1 (List.map (encI .i64) ([] : List Int)) false)) rfl rfl ?_; refine Zpp 6 rfl ?_; refine Y1 rfl ?_; refine bindK h fun y2 hy2 h => ?_; refine W.call rfl (queue_queue_fn hy2) ?_; refine Zwc 4 rfl ?_; refine A.condB rfl h (fun _ h => ?_) (fun _ h => ?_)
  · refine Zcp 2 rfl ?_; refine Zm (.row 4 2 0) (Mem.add _ 4 (.rows 1 (List.map (encI .i64) ([] : List Int)) false)) rfl rfl ?_; refine Zpb 4 rfl ?_; cases h; cases hG; exact ⟨rfl, rfl, trivial⟩
  · refine Zcp 4 rfl ?_; refine Zm (.row 5 1 0) (Mem.add _ 5 (.rows 1 (List.map (encI .i64) ([] : List Int)) false)) rfl rfl ?_; refine Zpc 2 rfl ?_; refine A.join (fun (s2 : (List Int)) => [(5, .row 900000 1 s2.length)]) (fun s2 => [(900000, .rows 1 (List.map (encI .i64) s2) false)]) _ h hG rfl ?_ ?_
    · intro J f h hG; refine Zap 3 rfl ?_; refine Y1 rfl ?_; refine W.len rfl ?_; refine Zpc 4 rfl ?_; refine A.loop (fun (s3 : Int × (List Int)) => [(1, VI now_), (5, .row 900000 1 s3.2.length), (11, VF (List.map api_Waiting.enc l_)), (12, VI (l_.length : Int)), (13, VI s3.1)]) (fun s3 => [(900000, .rows 1 (List.map (encI .i64) s3.2) false)]) _ h hG (Zf [] [(900000, (5, 1))] rfl rfl (Ze rfl rfl (Ze rfl rfl (Ze rfl rfl (Ze rfl rfl (Ze rfl rfl trivial))))) (Zc rfl rfl trivial)) ?_; intro J s3 f h hG; unfold queue_Late_L1 at h; refine Zac 6 rfl ?_; refine A.condB rfl h (fun _ h => ?_) (fun _ h => ?_)
      · refine Zcp 6 rfl ?_; refine Y1 rfl ?_; refine bindK h fun x25 hx25 h => ?_; refine W.chk rfl (elemB hx25) ?_; refine W.elem rfl (elemG hx25) ?_; refine W.chk rfl rfl ?_; refine W.det (.fp [.v (.int .i64 x25.Event), .v (.int .i64 x25.Net), .v (.int .i64 x25.Left), .v (.int .i64 x25.Due)]) _ rfl ?_; refine Zo (.agg (api_Waiting.av x25)) rfl rfl ?_; refine Zm (.lp 7 2 0) (Mem.add _ 7 (.box [VI 0, VI 0, VI 0, VI 0])) rfl rfl ?_; refine Zm (.tup []) (Mem.set _ 7 2 (some (.box (api_Waiting.av x25)))) rfl rfl ?_; refine Zpc 10 rfl ?_; refine A.condB rfl h (fun _ h => ?_) (fun _ h => ?_)
        · refine Zcp 1 rfl ?_; refine Zo (.row 900000 1 s3.2.length) rfl rfl ?_; refine Zpp 2 rfl ?_; refine Zm (.row 24 2 1) (Mem.add _ 24 (.rows 1 (List.map (encI .i64) [x25.Event]) false)) rfl rfl ?_; refine Y1 rfl ?_; refine chkK h fun g26 h => ?_; refine W.chk rfl (appChk (fun _ => rfl) g26) ?_; refine W.app rfl rfl ?_; refine Zo (.row 900000 2 (s3.2 ++ [x25.Event]).length) rfl rfl ?_; refine Zpb 7 rfl ?_; cases h; exact Zh hG [] [(900000, (900000, 2))] rfl rfl (Ze rfl rfl (Ze rfl rfl (Ze rfl rfl (Ze rfl rfl (Ze rfl rfl trivial))))) (Zc rfl rfl trivial)
        · refine Zcb 7 rfl ?_; cases h; exact Zh hG [] [(900000, (900000, 1))] rfl rfl (Ze rfl rfl (Ze rfl rfl (Ze rfl rfl (Ze rfl rfl (Ze rfl rfl trivial))))) (Zc rfl rfl trivial)
      · refine Zcb 2 rfl ?_; refine headK.e ?_; refine Zob 1 rfl ?_; cases h; exact Zh hG [] [(900000, (900000, 1))] rfl rfl (Ze rfl rfl trivial) (Zc rfl rfl trivial)
    · intro s2 r2 h hG; refine Zcp 2 rfl ?_; refine Zo (.row 900000 1 s2.length) rfl rfl ?_; refine Y1 rfl ?_; refine bindK h fun y27 hy27 h => ?_; refine W.call rfl (slices_Sort_int_int_fn hy27) ?_; refine W.chk rfl (by simp only [List.length_map]; exact sortL_len hy27) ?_; refine W.det (.tup []) (Mem.set _ 900000 1 (some (.rows 1 (List.map (encI .i64) y27) false))) rfl ?_; refine Zpp 4 rfl ?_; refine Zo (.row 900000 1 s2.length) rfl rfl ?_; refine Y1 rfl ?_; refine bindK h fun y28 hy28 h => ?_; refine W.call rfl (slices_Compact_int_int_fn hy28) ?_; refine W.rows (List.map (encI .i64) y28).length y28.length ((List.map (encI .i64) y28) ++ []) (List.map (encI .i64) y28) rfl (by first | rfl | (simp; done) | simp only [partMap, List.length_map, List.length_append, List.nil_append, Nat.zero_add, List.length_nil]) (by first | rfl | (simp; done) | simp only [partMap, List.map_append, List.nil_append, List.map_nil]) ?_; refine Zo (.row 900000 2 y28.length) rfl rfl ?_; refine Zpb 3 rfl ?_; cases h; cases hG; exact ⟨rfl, rfl, trivial⟩
noncomputable def ref10_Ints_L1 (a_ : (List Int)) (b_ : (List Int)) (s3 : Int) : Option ((Int) ⊕ ((Unit) ⊕ (Bool))) :=
  (bif (decide (s3 < (a_.length : Int))) then
    (getI a_ s3).bind fun x23 =>
    (getI b_ s3).bind fun x24 =>
    (bif (x23 != x24) then
      some (.inr (.inr false))
    else
      some (.inl (IntKind.i64.wrap (s3 + (1 : Int)))))
  else
    some (.inr (.inl ())))
noncomputable def ref10_Ints (a_ : (List Int)) (b_ : (List Int)) : Option (Bool) :=
  (bif ((a_.length : Int) != (b_.length : Int)) then
    some false
  else
    (seqF (A := Unit) (
      loopF (ref10_Ints_L1 a_ b_) (0 : Int))
    fun s2 =>
      some true))
theorem ref10_Ints_fn {a_ : (List Int)} {b_ : (List Int)} {r : Bool} (h : ref10_Ints a_ b_ = some r) : Fn Tryz.prog 11 [VF (List.map (encI .i64) a_), VF (List.map (encI .i64) b_)] (VB r) := by
  refine Fn.of_AW (F := FnX Tryz.prog) (base := 0) (js := [8]) mixed tok noeqs (fun _ _ _ h => h) Tryz.call11 Tryz.func11 rfl Tryz.ntmps11 (by rw [Tryz.results11]) (by simp) ?_; have hG : (fun x => x = r) r := rfl; unfold ref10_Ints at h; refine Zap 9 rfl ?_; refine Y1 rfl ?_; refine W.len rfl ?_; refine Zpp 1 rfl ?_; refine Y1 rfl ?_; refine W.len rfl ?_; refine Zpc 3 rfl ?_; refine A.condB rfl h (fun _ h => ?_) (fun _ h => ?_)
  · refine Zcb 7 rfl ?_; cases h; cases hG; exact ⟨rfl, trivial⟩
  · refine Zcc 2 rfl ?_; refine A.join (fun (s2 : Unit) => []) (fun s2 => []) _ h hG rfl ?_ ?_
    · intro J f h hG; refine Zac 6 rfl ?_; refine A.loop (fun (s3 : Int) => [(0, VF (List.map (encI .i64) a_)), (1, VF (List.map (encI .i64) b_)), (5, VI s3)]) (fun s3 => []) _ h hG (Zf [] [] rfl rfl (Ze rfl rfl (Ze rfl rfl (Ze rfl rfl trivial))) trivial) ?_; intro J s3 f h hG; unfold ref10_Ints_L1 at h; refine Zap 5 rfl ?_; refine Y1 rfl ?_; refine W.len rfl ?_; refine Zpc 3 rfl ?_; refine A.condB rfl h (fun _ h => ?_) (fun _ h => ?_)
      · refine Zcc 5 rfl ?_; refine A.regionD (by kernel_rfl) ?_; refine Zpp 2 rfl ?_; refine Y1 rfl ?_; refine bindK h fun x23 hx23 h => ?_; refine W.chk rfl (elemB hx23) ?_; refine W.elem rfl (elemG hx23) ?_; refine W.chk rfl rfl ?_; refine W.det (.fp [.v (.int .i64 x23)]) _ rfl ?_; refine Zpp 3 rfl ?_; refine Y1 rfl ?_; refine bindK h fun x24 hx24 h => ?_; refine W.chk rfl (elemB hx24) ?_; refine W.elem rfl (elemG hx24) ?_; refine W.chk rfl rfl ?_; refine W.det (.fp [.v (.int .i64 x24)]) _ rfl ?_; refine Zpc 4 rfl ?_; refine A.condB rfl h (fun _ h => ?_) (fun _ h => ?_)
        · refine Zcb 8 rfl ?_; refine headK.r ?_; refine Zob 1 rfl ?_; refine headK.r ?_; cases h; cases hG; exact ⟨rfl, trivial⟩
        · refine Zcb 8 rfl ?_; cases h; exact Zh hG [] [] rfl rfl (Ze rfl rfl (Ze rfl rfl (Ze rfl rfl trivial))) trivial
      · refine Zcb 2 rfl ?_; refine headK.e ?_; refine Zob 1 rfl ?_; cases h; exact Zh hG [] [] rfl rfl trivial trivial
    · intro s2 r2 h hG; refine Zcb 6 rfl ?_; cases h; cases hG; exact ⟨rfl, trivial⟩
noncomputable def law30_small : Option (Bool) :=
  (law30_link).bind fun y1 =>
  (queue_Put y1 ([] : List api_Waiting) (api_Waiting.mk (7 : Int) (0 : Int) (4 : Int) (3 : Int)) (0 : Int)).bind fun y2 =>
  (law30_link).bind fun y3 =>
  (queue_Put y3 y2.1 (api_Waiting.mk (8 : Int) (0 : Int) (1 : Int) (3 : Int)) (0 : Int)).bind fun y4 =>
  (law30_link).bind fun y5 =>
  (queue_Put y5 y2.1 (api_Waiting.mk (8 : Int) (0 : Int) (2 : Int) (4 : Int)) (0 : Int)).bind fun y6 =>
  (law30_link).bind fun y7 =>
  (queue_Step y7 (0 : Int) y2.1 true).bind fun y8 =>
  (seqF (A := Bool) (
    (bif (y2.2 == (0 : Int)) then
      (ref30_Same y2.1 [(api_Waiting.mk (7 : Int) (0 : Int) (4 : Int) (3 : Int))]).bind fun y12 =>
      (bif y12 then
        (bif (y4.2 == (16 : Int)) then
          (ref30_Same y4.1 y2.1).bind fun y13 =>
          (bif y13 then
            (bif (y6.2 == (16 : Int)) then
              (ref30_Same y6.1 y2.1).bind fun y14 =>
              some (.inl y14)
            else
              some (.inl false))
          else
            some (.inl false))
        else
          some (.inl false))
      else
        some (.inl false))
    else
      some (.inl false)))
  fun s1 =>
    (bif s1 then
      (bif (((y8.1.length : Nat) : Int) == (0 : Int)) then
        (ref30_Same y8.2 [(api_Waiting.mk (7 : Int) (0 : Int) (2 : Int) (3 : Int))]).bind fun y15 =>
        (bif y15 then
          (queue_Late y2.1 (3 : Int)).bind fun y16 =>
          (ref10_Ints y16 [(7 : Int)]).bind fun y17 =>
          (bif y17 then
            (queue_Late y2.1 (2 : Int)).bind fun y18 =>
            some (((y18.length : Nat) : Int) == (0 : Int))
          else
            some false)
        else
          some false)
      else
        some false)
    else
      some false))
theorem law30_small_fn {r : Bool} (h : law30_small = some r) : Fn Tryz.prog 4 [] (VB r) := by
  refine Fn.of_AW (F := FnX Tryz.prog) (base := 0) (js := [7]) mixed tok noeqs (fun _ _ _ h => h) Tryz.call4 Tryz.func4 rfl Tryz.ntmps4 (by rw [Tryz.results4]) (by simp) ?_; have hG : (fun x => x = r) r := rfl; unfold law30_small at h; refine Zap 7 rfl ?_; refine Y1 rfl ?_; refine bindK h fun y1 hy1 h => ?_; refine W.call rfl (law30_link_fn hy1) ?_; refine W.v (.agg [VS y1.Name, VI y1.Edit, VI y1.Within, VI y1.Delete, VB y1.React, VI y1.Thread, VB y1.Quote, VB y1.Mention, VI y1.Size, VI y1.Parts, VI y1.Files, VI y1.Bytes, .row 851980 1 (List.map encS y1.Types).length, VI y1.Join, VI y1.History, VI y1.Remove, VI y1.Level, VB y1.Batch, VI y1.Rate, VI y1.Down, VI y1.Window, VI y1.Keep]) (.agg [VS y1.Name, VI y1.Edit, VI y1.Within, VI y1.Delete, VB y1.React, VI y1.Thread, VB y1.Quote, VB y1.Mention, VI y1.Size, VI y1.Parts, VI y1.Files, VI y1.Bytes, .row 851980 1 y1.Types.length, VI y1.Join, VI y1.History, VI y1.Remove, VI y1.Level, VB y1.Batch, VI y1.Rate, VI y1.Down, VI y1.Window, VI y1.Keep]) (Mem.add _ 851980 (.rows 1 (List.map encS y1.Types) false)) rfl (by simp only [List.length_map]) ?_; refine Zo (.agg [VI 7, VI 0, VI 4, VI 3]) rfl rfl ?_; refine Y1 rfl ?_; refine bindK h fun y2 hy2 h => ?_; refine W.call rfl (queue_Put_fn hy2) ?_; refine W.v (.tup [.row 1048590 1 (List.map api_Waiting.enc y2.1).length, VI y2.2]) (.tup [.row 1048590 1 y2.1.length, VI y2.2]) (Mem.add (Mem.set _ 851980 1 (some (.rows 1 (List.map encS y1.Types) true))) 1048590 (.rows 4 (List.map api_Waiting.enc y2.1) false)) rfl (by simp only [List.length_map]) ?_; refine Zo (.tup [.row 1048590 1 y2.1.length, VI y2.2]) rfl rfl ?_; refine Zo (.row 1048590 1 y2.1.length) rfl rfl ?_; refine Zpp 1 rfl ?_; refine Zo (.row 1048590 1 y2.1.length) rfl rfl ?_; refine Zpp 5 rfl ?_; refine Y1 rfl ?_; refine bindK h fun y3 hy3 h => ?_; refine W.call rfl (law30_link_fn hy3) ?_; refine W.v (.agg [VS y3.Name, VI y3.Edit, VI y3.Within, VI y3.Delete, VB y3.React, VI y3.Thread, VB y3.Quote, VB y3.Mention, VI y3.Size, VI y3.Parts, VI y3.Files, VI y3.Bytes, .row 851986 1 (List.map encS y3.Types).length, VI y3.Join, VI y3.History, VI y3.Remove, VI y3.Level, VB y3.Batch, VI y3.Rate, VI y3.Down, VI y3.Window, VI y3.Keep]) (.agg [VS y3.Name, VI y3.Edit, VI y3.Within, VI y3.Delete, VB y3.React, VI y3.Thread, VB y3.Quote, VB y3.Mention, VI y3.Size, VI y3.Parts, VI y3.Files, VI y3.Bytes, .row 851986 1 y3.Types.length, VI y3.Join, VI y3.History, VI y3.Remove, VI y3.Level, VB y3.Batch, VI y3.Rate, VI y3.Down, VI y3.Window, VI y3.Keep]) (Mem.add _ 851986 (.rows 1 (List.map encS y3.Types) false)) rfl (by simp only [List.length_map]) ?_; refine Zo (.row 1048590 1 y2.1.length) rfl rfl ?_; refine Zo (.agg [VI 8, VI 0, VI 1, VI 3]) rfl rfl ?_; refine Y1 rfl ?_; refine bindK h fun y4 hy4 h => ?_; refine W.call rfl (queue_Put_fn hy4) ?_; refine W.v (.tup [.row 1048597 1 (List.map api_Waiting.enc y4.1).length, VI y4.2]) (.tup [.row 1048597 1 y4.1.length, VI y4.2]) (Mem.add (Mem.set (Mem.set _ 851986 1 (some (.rows 1 (List.map encS y3.Types) true))) 1048590 1 (some (.rows 4 (List.map api_Waiting.enc y2.1) true))) 1048597 (.rows 4 (List.map api_Waiting.enc y4.1) false)) rfl (by simp only [List.length_map]) ?_
  refine Zo (.tup [.row 1048597 1 y4.1.length, VI y4.2]) rfl rfl ?_; refine Zo (.row 1048597 1 y4.1.length) rfl rfl ?_; refine Zpp 1 rfl ?_; refine Zo (.row 1048597 1 y4.1.length) rfl rfl ?_; refine Zpp 5 rfl ?_; refine Y1 rfl ?_; refine bindK h fun y5 hy5 h => ?_; refine W.call rfl (law30_link_fn hy5) ?_; refine W.v (.agg [VS y5.Name, VI y5.Edit, VI y5.Within, VI y5.Delete, VB y5.React, VI y5.Thread, VB y5.Quote, VB y5.Mention, VI y5.Size, VI y5.Parts, VI y5.Files, VI y5.Bytes, .row 851993 1 (List.map encS y5.Types).length, VI y5.Join, VI y5.History, VI y5.Remove, VI y5.Level, VB y5.Batch, VI y5.Rate, VI y5.Down, VI y5.Window, VI y5.Keep]) (.agg [VS y5.Name, VI y5.Edit, VI y5.Within, VI y5.Delete, VB y5.React, VI y5.Thread, VB y5.Quote, VB y5.Mention, VI y5.Size, VI y5.Parts, VI y5.Files, VI y5.Bytes, .row 851993 1 y5.Types.length, VI y5.Join, VI y5.History, VI y5.Remove, VI y5.Level, VB y5.Batch, VI y5.Rate, VI y5.Down, VI y5.Window, VI y5.Keep]) (Mem.add _ 851993 (.rows 1 (List.map encS y5.Types) false)) rfl (by simp only [List.length_map]) ?_; refine Zo (.row 1048590 1 y2.1.length) rfl rfl ?_; refine Zo (.agg [VI 8, VI 0, VI 2, VI 4]) rfl rfl ?_; refine Y1 rfl ?_; refine bindK h fun y6 hy6 h => ?_; refine W.call rfl (queue_Put_fn hy6) ?_; refine W.v (.tup [.row 1048604 1 (List.map api_Waiting.enc y6.1).length, VI y6.2]) (.tup [.row 1048604 1 y6.1.length, VI y6.2]) (Mem.add (Mem.set (Mem.set _ 851993 1 (some (.rows 1 (List.map encS y5.Types) true))) 1048590 1 (some (.rows 4 (List.map api_Waiting.enc y2.1) true))) 1048604 (.rows 4 (List.map api_Waiting.enc y6.1) false)) rfl (by simp only [List.length_map]) ?_; refine Zo (.tup [.row 1048604 1 y6.1.length, VI y6.2]) rfl rfl ?_; refine Zo (.row 1048604 1 y6.1.length) rfl rfl ?_; refine Zpp 1 rfl ?_; refine Zo (.row 1048604 1 y6.1.length) rfl rfl ?_; refine Zpp 5 rfl ?_; refine Y1 rfl ?_; refine bindK h fun y7 hy7 h => ?_; refine W.call rfl (law30_link_fn hy7) ?_; refine W.v (.agg [VS y7.Name, VI y7.Edit, VI y7.Within, VI y7.Delete, VB y7.React, VI y7.Thread, VB y7.Quote, VB y7.Mention, VI y7.Size, VI y7.Parts, VI y7.Files, VI y7.Bytes, .row 852000 1 (List.map encS y7.Types).length, VI y7.Join, VI y7.History, VI y7.Remove, VI y7.Level, VB y7.Batch, VI y7.Rate, VI y7.Down, VI y7.Window, VI y7.Keep]) (.agg [VS y7.Name, VI y7.Edit, VI y7.Within, VI y7.Delete, VB y7.React, VI y7.Thread, VB y7.Quote, VB y7.Mention, VI y7.Size, VI y7.Parts, VI y7.Files, VI y7.Bytes, .row 852000 1 y7.Types.length, VI y7.Join, VI y7.History, VI y7.Remove, VI y7.Level, VB y7.Batch, VI y7.Rate, VI y7.Down, VI y7.Window, VI y7.Keep]) (Mem.add _ 852000 (.rows 1 (List.map encS y7.Types) false)) rfl (by simp only [List.length_map]) ?_; refine Zo (.row 1048590 1 y2.1.length) rfl rfl ?_; refine Y1 rfl ?_; refine bindK h fun y8 hy8 h => ?_; refine W.call rfl (queue_Step_fn hy8) ?_; refine W.v (.tup [.row 1048610 1 (List.map (encI .i64) y8.1).length, .row 2097186 1 (List.map api_Waiting.enc y8.2).length]) (.tup [.row 1048610 1 y8.1.length, .row 2097186 1 y8.2.length]) (Mem.add (Mem.add (Mem.set (Mem.set _ 852000 1 (some (.rows 1 (List.map encS y7.Types) true))) 1048590 1 (some (.rows 4 (List.map api_Waiting.enc y2.1) true))) 1048610 (.rows 1 (List.map (encI .i64) y8.1) false)) 2097186 (.rows 4 (List.map api_Waiting.enc y8.2) false)) rfl (by simp only [List.length_map]) ?_
  refine Zo (.tup [.row 1048610 1 y8.1.length, .row 2097186 1 y8.2.length]) rfl rfl ?_; refine Zo (.row 1048610 1 y8.1.length) rfl rfl ?_; refine Zo (.row 2097186 1 y8.2.length) rfl rfl ?_; refine Zo (.row 1048610 1 y8.1.length) rfl rfl ?_; refine Zo (.row 2097186 1 y8.2.length) rfl rfl ?_; refine Zpp 4 rfl ?_; refine Zo (.agg [VI 7, VI 0, VI 4, VI 3]) rfl rfl ?_; refine Zm (.row 38 1 1) (Mem.add _ 38 (.rows 4 (List.map api_Waiting.enc [(api_Waiting.mk (7 : Int) (0 : Int) (4 : Int) (3 : Int))]) false)) rfl rfl ?_; refine Zo (.row 38 1 1) rfl rfl ?_; refine Zpc 2 rfl ?_; refine A.join (fun (s1 : Bool) => [(1, .row 900000 1 y2.1.length), (7, .row 900001 1 y8.1.length), (8, .row 900002 1 y8.2.length), (10, VB s1)]) (fun s1 => [(900000, .rows 4 (List.map api_Waiting.enc y2.1) true), (900001, .rows 1 (List.map (encI .i64) y8.1) false), (900002, .rows 4 (List.map api_Waiting.enc y8.2) false)]) _ h hG rfl ?_ ?_
  · intro J f h hG; refine Zap 4 rfl ?_; refine YT rfl rfl rfl h (fun _ h => ?_) (fun _ h => ?_)
    · refine W.det (.row 1048590 1 y2.1.length) _ rfl ?_; refine Zu (.row 38 1 1) rfl rfl rfl rfl ?_; refine Y2 rfl rfl rfl ?_; refine bindK h fun y12 hy12 h => ?_; refine W.call rfl (ref30_Same_fn hy12) ?_; refine Zwp 3 rfl ?_; refine YT rfl rfl rfl h (fun _ h => ?_) (fun _ h => ?_)
      · refine Zwp 4 rfl ?_; refine YT rfl rfl rfl h (fun _ h => ?_) (fun _ h => ?_)
        · refine W.det (.row 1048597 1 y4.1.length) _ rfl ?_; refine Zu (.row 1048590 1 y2.1.length) rfl rfl rfl rfl ?_; refine Y2 rfl rfl rfl ?_; refine bindK h fun y13 hy13 h => ?_; refine W.call rfl (ref30_Same_fn hy13) ?_; refine Zwp 3 rfl ?_; refine YT rfl rfl rfl h (fun _ h => ?_) (fun _ h => ?_)
          · refine Zwp 4 rfl ?_; refine YT rfl rfl rfl h (fun _ h => ?_) (fun _ h => ?_)
            · refine W.det (.row 1048604 1 y6.1.length) _ rfl ?_; refine Zu (.row 1048590 1 y2.1.length) rfl rfl rfl rfl ?_; refine Y2 rfl rfl rfl ?_; refine bindK h fun y14 hy14 h => ?_; refine W.call rfl (ref30_Same_fn hy14) ?_; refine Zwb 4 rfl ?_; cases h; exact Zh hG [] [(900000, (1048590, 1)), (900001, (1048610, 1)), (900002, (2097186, 1))] rfl rfl (Ze rfl rfl (Ze rfl rfl (Ze rfl rfl (Ze rfl rfl trivial)))) (Zc rfl rfl (Zc rfl rfl (Zc rfl rfl trivial)))
            · refine Zpb 5 rfl ?_; cases h; exact Zh hG [] [(900000, (1048590, 1)), (900001, (1048610, 1)), (900002, (2097186, 1))] rfl rfl (Ze rfl rfl (Ze rfl rfl (Ze rfl rfl (Ze rfl rfl trivial)))) (Zc rfl rfl (Zc rfl rfl (Zc rfl rfl trivial)))
          · refine Zpb 9 rfl ?_; cases h; exact Zh hG [] [(900000, (1048590, 1)), (900001, (1048610, 1)), (900002, (2097186, 1))] rfl rfl (Ze rfl rfl (Ze rfl rfl (Ze rfl rfl (Ze rfl rfl trivial)))) (Zc rfl rfl (Zc rfl rfl (Zc rfl rfl trivial)))
        · refine Zpb 14 rfl ?_; cases h; exact Zh hG [] [(900000, (1048590, 1)), (900001, (1048610, 1)), (900002, (2097186, 1))] rfl rfl (Ze rfl rfl (Ze rfl rfl (Ze rfl rfl (Ze rfl rfl trivial)))) (Zc rfl rfl (Zc rfl rfl (Zc rfl rfl trivial)))
      · refine Zpb 18 rfl ?_; cases h; exact Zh hG [] [(900000, (1048590, 1)), (900001, (1048610, 1)), (900002, (2097186, 1))] rfl rfl (Ze rfl rfl (Ze rfl rfl (Ze rfl rfl (Ze rfl rfl trivial)))) (Zc rfl rfl (Zc rfl rfl (Zc rfl rfl trivial)))
    · refine Zpb 23 rfl ?_; cases h; exact Zh hG [] [(900000, (1048590, 1)), (900001, (1048610, 1)), (900002, (2097186, 1))] rfl rfl (Ze rfl rfl (Ze rfl rfl (Ze rfl rfl (Ze rfl rfl trivial)))) (Zc rfl rfl (Zc rfl rfl (Zc rfl rfl trivial)))
  · intro s1 r2 h hG; refine Zcp 4 rfl ?_; refine YT rfl rfl rfl h (fun _ h => ?_) (fun _ h => ?_)
    · refine W.det (.row 900001 1 y8.1.length) _ rfl ?_; refine Zpp 4 rfl ?_; refine YT rfl rfl rfl h (fun _ h => ?_) (fun _ h => ?_)
      · refine W.det (.row 900002 1 y8.2.length) _ rfl ?_; refine Zu (.agg [VI 7, VI 0, VI 2, VI 3]) rfl rfl rfl rfl ?_; refine Zv (.row 73 2 1) (Mem.add _ 73 (.rows 4 (List.map api_Waiting.enc [(api_Waiting.mk (7 : Int) (0 : Int) (2 : Int) (3 : Int))]) false)) rfl rfl rfl rfl ?_; refine Y2 rfl rfl rfl ?_; refine bindK h fun y15 hy15 h => ?_; refine W.call rfl (ref30_Same_fn hy15) ?_; refine Zwp 3 rfl ?_; refine YT rfl rfl rfl h (fun _ h => ?_) (fun _ h => ?_)
        · refine W.det (.row 900000 1 y2.1.length) _ rfl ?_; refine Y2 rfl rfl rfl ?_; refine bindK h fun y16 hy16 h => ?_; refine W.call rfl (queue_Late_fn hy16) ?_; refine W.v (.row 78 2 (List.map (encI .i64) y16).length) (.row 78 2 y16.length) (Mem.add (Mem.set _ 900000 1 (some (.rows 4 (List.map api_Waiting.enc y2.1) true))) 78 (.rows 1 (List.map (encI .i64) y16) false)) rfl (by simp only [List.length_map]) ?_; refine Zv (.row 79 2 1) (Mem.add _ 79 (.rows 1 (List.map (encI .i64) [(7 : Int)]) false)) rfl rfl rfl rfl ?_; refine Y2 rfl rfl rfl ?_; refine bindK h fun y17 hy17 h => ?_; refine W.call rfl (ref10_Ints_fn hy17) ?_; refine Zwp 3 rfl ?_; refine YT rfl rfl rfl h (fun _ h => ?_) (fun _ h => ?_)
          · refine W.det (.row 900000 1 y2.1.length) _ rfl ?_; refine Y2 rfl rfl rfl ?_; refine bindK h fun y18 hy18 h => ?_; refine W.call rfl (queue_Late_fn hy18) ?_; refine W.v (.row 84 2 (List.map (encI .i64) y18).length) (.row 84 2 y18.length) (Mem.add (Mem.set _ 900000 1 (some (.rows 4 (List.map api_Waiting.enc y2.1) true))) 84 (.rows 1 (List.map (encI .i64) y18) false)) rfl (by simp only [List.length_map]) ?_; refine Zpb 7 rfl ?_; cases h; cases hG; exact ⟨rfl, trivial⟩
          · refine Zpb 8 rfl ?_; cases h; cases hG; exact ⟨rfl, trivial⟩
        · refine Zpb 14 rfl ?_; cases h; cases hG; exact ⟨rfl, trivial⟩
      · refine Zpb 20 rfl ?_; cases h; cases hG; exact ⟨rfl, trivial⟩
    · refine Zpb 25 rfl ?_; cases h; cases hG; exact ⟨rfl, trivial⟩
noncomputable def ref30_Few (p_ : api_Profile) (l_ : (List api_Waiting)) (n_ : Int) : Option (Bool) :=
  (bif (decide ((l_.length : Int) ≤ n_)) then
    (bif (decide (p_.Window ≤ (1000 : Int))) then
      some (decide ((p_.Types.length : Int) ≤ (20 : Int)))
    else
      some false)
  else
    some false)
theorem ref30_Few_fn {p_ : api_Profile} {l_ : (List api_Waiting)} {n_ : Int} {r : Bool} (h : ref30_Few p_ l_ n_ = some r) : Fn Tryz.prog 5 [.agg (api_Profile.av p_), VF (List.map api_Waiting.enc l_), VI n_] (VB r) := by
  refine Fn.of_AW (F := FnX Tryz.prog) (base := 0) (js := []) mixed tok noeqs (fun _ _ _ h => h) Tryz.call5 Tryz.func5 rfl Tryz.ntmps5 (by rw [Tryz.results5]) (by simp) ?_; have hG : (fun x => x = r) r := rfl; unfold ref30_Few at h; refine Zap 2 rfl ?_; refine Zm (.lp 3 1 0) (Mem.add _ 3 (.box (api_Profile.av p_))) rfl rfl ?_; refine Zpp 6 rfl ?_; refine Y1 rfl ?_; refine W.len rfl ?_; refine Zpp 3 rfl ?_; refine YT rfl rfl rfl h (fun _ h => ?_) (fun _ h => ?_)
  · refine Zwp 5 rfl ?_; refine YT rfl rfl rfl h (fun _ h => ?_) (fun _ h => ?_)
    · refine Zwp 2 rfl ?_; refine Y2 rfl rfl rfl ?_; refine W.len rfl ?_; refine Zpb 6 rfl ?_; cases h; cases hG; exact ⟨rfl, trivial⟩
    · refine Zpb 8 rfl ?_; cases h; cases hG; exact ⟨rfl, trivial⟩
  · refine Zpb 13 rfl ?_; cases h; cases hG; exact ⟨rfl, trivial⟩
noncomputable def ref30_Entry (w_ : api_Waiting) : Option (Bool) :=
  (bif (decide ((0 : Int) ≤ w_.Event)) then
    (bif (decide (w_.Event ≤ (99999 : Int))) then
      (bif (decide ((0 : Int) ≤ w_.Net)) then
        (bif (decide (w_.Net ≤ (11 : Int))) then
          (bif (decide ((1 : Int) ≤ w_.Left)) then
            (bif (decide (w_.Left ≤ (1099511627776 : Int))) then
              (bif (decide ((0 : Int) ≤ w_.Due)) then
                some (decide (w_.Due ≤ (1073741824 : Int)))
              else
                some false)
            else
              some false)
          else
            some false)
        else
          some false)
      else
        some false)
    else
      some false)
  else
    some false)
theorem ref30_Entry_fn {w_ : api_Waiting} {r : Bool} (h : ref30_Entry w_ = some r) : Fn Tryz.prog 21 [.agg (api_Waiting.av w_)] (VB r) := by
  refine Fn.of_AW (F := FnX Tryz.prog) (base := 0) (js := []) mixed tok noeqs (fun _ _ _ h => h) Tryz.call21 Tryz.func21 rfl Tryz.ntmps21 (by rw [Tryz.results21]) (by simp) ?_; have hG : (fun x => x = r) r := rfl; unfold ref30_Entry at h; refine Zap 2 rfl ?_; refine Zm (.lp 1 1 0) (Mem.add _ 1 (.box (api_Waiting.av w_))) rfl rfl ?_; refine Zpp 9 rfl ?_; refine YT rfl rfl rfl h (fun _ h => ?_) (fun _ h => ?_)
  · refine Zwp 5 rfl ?_; refine YT rfl rfl rfl h (fun _ h => ?_) (fun _ h => ?_)
    · refine Zwp 5 rfl ?_; refine YT rfl rfl rfl h (fun _ h => ?_) (fun _ h => ?_)
      · refine Zwp 5 rfl ?_; refine YT rfl rfl rfl h (fun _ h => ?_) (fun _ h => ?_)
        · refine Zwp 5 rfl ?_; refine YT rfl rfl rfl h (fun _ h => ?_) (fun _ h => ?_)
          · refine Zwp 5 rfl ?_; refine YT rfl rfl rfl h (fun _ h => ?_) (fun _ h => ?_)
            · refine Zwp 5 rfl ?_; refine YT rfl rfl rfl h (fun _ h => ?_) (fun _ h => ?_)
              · refine Zwb 8 rfl ?_; cases h; cases hG; exact ⟨rfl, trivial⟩
              · refine Zpb 7 rfl ?_; cases h; cases hG; exact ⟨rfl, trivial⟩
            · refine Zpb 12 rfl ?_; cases h; cases hG; exact ⟨rfl, trivial⟩
          · refine Zpb 17 rfl ?_; cases h; cases hG; exact ⟨rfl, trivial⟩
        · refine Zpb 22 rfl ?_; cases h; cases hG; exact ⟨rfl, trivial⟩
      · refine Zpb 27 rfl ?_; cases h; cases hG; exact ⟨rfl, trivial⟩
    · refine Zpb 32 rfl ?_; cases h; cases hG; exact ⟨rfl, trivial⟩
  · refine Zpb 37 rfl ?_; cases h; cases hG; exact ⟨rfl, trivial⟩
noncomputable def ref30_At_L1 (l_ : (List api_Waiting)) (event_ : Int) (net_ : Int) (s3 : Int) : Option ((Int) ⊕ ((Unit) ⊕ (Int))) :=
  (bif (decide (s3 < (l_.length : Int))) then
    (getI l_ s3).bind fun x24 =>
    (bif (x24.Event == event_) then
      (bif (x24.Net == net_) then
        some (.inr (.inr s3))
      else
        some (.inl (IntKind.i64.wrap (s3 + (1 : Int)))))
    else
      some (.inl (IntKind.i64.wrap (s3 + (1 : Int)))))
  else
    some (.inr (.inl ())))
noncomputable def ref30_At (l_ : (List api_Waiting)) (event_ : Int) (net_ : Int) : Option (Int) :=
  (seqF (A := Unit) (
    loopF (ref30_At_L1 l_ event_ net_) (0 : Int))
  fun s2 =>
    some (-1 : Int))
theorem ref30_At_fn {l_ : (List api_Waiting)} {event_ : Int} {net_ : Int} {r : Int} (h : ref30_At l_ event_ net_ = some r) : Fn Tryz.prog 22 [VF (List.map api_Waiting.enc l_), VI event_, VI net_] (VI r) := by
  refine Fn.of_AW (F := FnX Tryz.prog) (base := 0) (js := [6]) mixed tok noeqs (fun _ _ _ h => h) Tryz.call22 Tryz.func22 rfl Tryz.ntmps22 (by rw [Tryz.results22]) (by simp) ?_; have hG : (fun x => x = r) r := rfl; unfold ref30_At at h; refine Zac 5 rfl ?_; refine A.join (fun (s2 : Unit) => []) (fun s2 => []) _ h hG rfl ?_ ?_
  · intro J f h hG; refine Zac 6 rfl ?_; refine A.loop (fun (s3 : Int) => [(0, VF (List.map api_Waiting.enc l_)), (1, VI event_), (2, VI net_), (7, VI s3)]) (fun s3 => []) _ h hG (Zf [] [] rfl rfl (Ze rfl rfl (Ze rfl rfl (Ze rfl rfl (Ze rfl rfl trivial)))) trivial) ?_; intro J s3 f h hG; unfold ref30_At_L1 at h; refine Zap 5 rfl ?_; refine Y1 rfl ?_; refine W.len rfl ?_; refine Zpc 3 rfl ?_; refine A.condB rfl h (fun _ h => ?_) (fun _ h => ?_)
    · refine Zcp 8 rfl ?_; refine Y1 rfl ?_; refine bindK h fun x24 hx24 h => ?_; refine W.chk rfl (elemB hx24) ?_; refine W.elem rfl (elemG hx24) ?_; refine W.chk rfl rfl ?_; refine W.det (.fp [.v (.int .i64 x24.Event), .v (.int .i64 x24.Net), .v (.int .i64 x24.Left), .v (.int .i64 x24.Due)]) _ rfl ?_; refine Zo (.fp [.v (.int .i64 x24.Event), .v (.int .i64 x24.Net), .v (.int .i64 x24.Left), .v (.int .i64 x24.Due)]) rfl rfl ?_; refine Zpp 4 rfl ?_; refine YT rfl rfl rfl h (fun _ h => ?_) (fun _ h => ?_)
      · refine Zwp 2 rfl ?_; refine Y2 rfl rfl rfl ?_; refine W.chk rfl (elemB hx24) ?_; refine W.elem rfl (elemG hx24) ?_; refine W.chk rfl rfl ?_; refine W.det (.fp [.v (.int .i64 x24.Event), .v (.int .i64 x24.Net), .v (.int .i64 x24.Left), .v (.int .i64 x24.Due)]) _ rfl ?_; refine Zu (.fp [.v (.int .i64 x24.Net), .v (.int .i64 x24.Left), .v (.int .i64 x24.Due)]) rfl rfl rfl rfl ?_; refine Zpc 6 rfl ?_; refine A.condB rfl h (fun _ h => ?_) (fun _ h => ?_)
        · refine Zcb 9 rfl ?_; refine headK.r ?_; refine Zob 1 rfl ?_; refine headK.r ?_; cases h; cases hG; exact ⟨rfl, trivial⟩
        · refine Zcb 8 rfl ?_; cases h; exact Zh hG [] [] rfl rfl (Ze rfl rfl (Ze rfl rfl (Ze rfl rfl (Ze rfl rfl trivial)))) trivial
      · refine Zpb 18 rfl ?_; cases h; exact Zh hG [] [] rfl rfl (Ze rfl rfl (Ze rfl rfl (Ze rfl rfl (Ze rfl rfl trivial)))) trivial
    · refine Zcb 2 rfl ?_; refine headK.e ?_; refine Zob 1 rfl ?_; cases h; exact Zh hG [] [] rfl rfl trivial trivial
  · intro s2 r2 h hG; refine Zcb 6 rfl ?_; cases h; cases hG; exact ⟨rfl, trivial⟩
noncomputable def ref30_Right_L1 (l_ : (List api_Waiting)) (s3 : Int) : Option ((Int) ⊕ ((Unit) ⊕ (Bool))) :=
  (bif (decide (s3 < (l_.length : Int))) then
    (getI l_ s3).bind fun x70 =>
    (ref30_Entry x70).bind fun y71 =>
    (bif (!y71) then
      some (.inr (.inr false))
    else
      (ref30_At l_ x70.Event x70.Net).bind fun y72 =>
      (bif (y72 != s3) then
        some (.inr (.inr false))
      else
        some (.inl (IntKind.i64.wrap (s3 + (1 : Int))))))
  else
    some (.inr (.inl ())))
noncomputable def ref30_Right (l_ : (List api_Waiting)) : Option (Bool) :=
  (seqF (A := Unit) (
    loopF (ref30_Right_L1 l_) (0 : Int))
  fun s2 =>
    some true)
theorem ref30_Right_fn {l_ : (List api_Waiting)} {r : Bool} (h : ref30_Right l_ = some r) : Fn Tryz.prog 20 [VF (List.map api_Waiting.enc l_)] (VB r) := by
  refine Fn.of_AW (F := FnX Tryz.prog) (base := 0) (js := [6]) mixed tok noeqs (fun _ _ _ h => h) Tryz.call20 Tryz.func20 rfl Tryz.ntmps20 (by rw [Tryz.results20]) (by simp) ?_; have hG : (fun x => x = r) r := rfl; unfold ref30_Right at h; refine Zac 5 rfl ?_; refine A.join (fun (s2 : Unit) => []) (fun s2 => []) _ h hG rfl ?_ ?_
  · intro J f h hG; refine Zac 6 rfl ?_; refine A.loop (fun (s3 : Int) => [(0, VF (List.map api_Waiting.enc l_)), (3, VI s3)]) (fun s3 => []) _ h hG (Zf [] [] rfl rfl (Ze rfl rfl (Ze rfl rfl trivial)) trivial) ?_; intro J s3 f h hG; unfold ref30_Right_L1 at h; refine Zap 5 rfl ?_; refine Y1 rfl ?_; refine W.len rfl ?_; refine Zpc 3 rfl ?_; refine A.condB rfl h (fun _ h => ?_) (fun _ h => ?_)
    · refine Zcc 5 rfl ?_; refine A.regionD (by kernel_rfl) ?_; refine Zpp 2 rfl ?_; refine Y1 rfl ?_; refine bindK h fun x70 hx70 h => ?_; refine W.chk rfl (elemB hx70) ?_; refine W.elem rfl (elemG hx70) ?_; refine W.chk rfl rfl ?_; refine W.det (.fp [.v (.int .i64 x70.Event), .v (.int .i64 x70.Net), .v (.int .i64 x70.Left), .v (.int .i64 x70.Due)]) _ rfl ?_; refine Zo (.agg (api_Waiting.av x70)) rfl rfl ?_; refine Y1 rfl ?_; refine bindK h fun y71 hy71 h => ?_; refine W.call rfl (ref30_Entry_fn hy71) ?_; refine Zwp 3 rfl ?_; refine YF rfl rfl rfl h (fun _ h => ?_) (fun _ h => ?_)
      · refine Zpb 25 rfl ?_; refine headK.r ?_; refine Zob 1 rfl ?_; refine headK.r ?_; cases h; cases hG; exact ⟨rfl, trivial⟩
      · refine Zwp 3 rfl ?_; refine Y2 rfl rfl rfl ?_; refine W.chk rfl (elemB hx70) ?_; refine W.elem rfl (elemG hx70) ?_; refine W.chk rfl rfl ?_; refine W.det (.fp [.v (.int .i64 x70.Event), .v (.int .i64 x70.Net), .v (.int .i64 x70.Left), .v (.int .i64 x70.Due)]) _ rfl ?_; refine Zu (.fp [.v (.int .i64 x70.Event), .v (.int .i64 x70.Net), .v (.int .i64 x70.Left), .v (.int .i64 x70.Due)]) rfl rfl rfl rfl ?_; refine Zpp 3 rfl ?_; refine Y2 rfl rfl rfl ?_; refine W.chk rfl (elemB hx70) ?_; refine W.elem rfl (elemG hx70) ?_; refine W.chk rfl rfl ?_; refine W.det (.fp [.v (.int .i64 x70.Event), .v (.int .i64 x70.Net), .v (.int .i64 x70.Left), .v (.int .i64 x70.Due)]) _ rfl ?_; refine Zu (.fp [.v (.int .i64 x70.Net), .v (.int .i64 x70.Left), .v (.int .i64 x70.Due)]) rfl rfl rfl rfl ?_; refine Zpp 1 rfl ?_; refine Y2 rfl rfl rfl ?_; refine bindK h fun y72 hy72 h => ?_; refine W.call rfl (ref30_At_fn hy72) ?_; refine Zwc 6 rfl ?_; refine A.condB rfl h (fun _ h => ?_) (fun _ h => ?_)
        · refine Zcb 8 rfl ?_; refine headK.r ?_; refine Zob 1 rfl ?_; refine headK.r ?_; cases h; cases hG; exact ⟨rfl, trivial⟩
        · refine Zcb 8 rfl ?_; cases h; exact Zh hG [] [] rfl rfl (Ze rfl rfl (Ze rfl rfl trivial)) trivial
    · refine Zcb 2 rfl ?_; refine headK.e ?_; refine Zob 1 rfl ?_; cases h; exact Zh hG [] [] rfl rfl trivial trivial
  · intro s2 r2 h hG; refine Zcb 6 rfl ?_; cases h; cases hG; exact ⟨rfl, trivial⟩
noncomputable def ref30_Jobs_L1 (l_ : (List api_Waiting)) (net_ : Int) (s3 : Int × (List api_Job)) : Option ((Int × (List api_Job)) ⊕ (((List api_Job)) ⊕ ((List api_Job)))) :=
  (bif (decide (s3.1 < (l_.length : Int))) then
    (getI l_ s3.1).bind fun x23 =>
    (bif (x23.Net == net_) then
      (chkO (decide (s3.2.length + [(api_Job.mk x23.Event x23.Left x23.Due)].length ≤ 1000000))).bind fun _ =>
      some (.inl ((IntKind.i64.wrap (s3.1 + (1 : Int))), (s3.2 ++ [(api_Job.mk x23.Event x23.Left x23.Due)])))
    else
      some (.inl ((IntKind.i64.wrap (s3.1 + (1 : Int))), s3.2)))
  else
    some (.inr (.inl s3.2)))
noncomputable def ref30_Jobs (l_ : (List api_Waiting)) (net_ : Int) : Option ((List api_Job)) :=
  (seqF (A := (List api_Job)) (
    loopF (ref30_Jobs_L1 l_ net_) ((0 : Int), ([] : List api_Job)))
  fun s2 =>
    some s2)
theorem ref30_Jobs_fn {l_ : (List api_Waiting)} {net_ : Int} {r : (List api_Job)} (h : ref30_Jobs l_ net_ = some r) : Fn Tryz.prog 24 [VF (List.map api_Waiting.enc l_), VI net_] (.ow 3 (List.map api_Job.enc r)) := by
  refine Fn.of_AW (F := FnX Tryz.prog) (base := 0) (js := [7]) mixed tok noeqs (fun _ _ _ h => h) Tryz.call24 Tryz.func24 rfl Tryz.ntmps24 (by rw [Tryz.results24]) (by simp) ?_; have hG : (fun x => x = r) r := rfl; unfold ref30_Jobs at h; refine Zap 2 rfl ?_; refine Zm (.row 4 1 0) (Mem.add _ 4 (.rows 3 (List.map api_Job.enc ([] : List api_Job)) false)) rfl rfl ?_; refine Zpp 4 rfl ?_; refine Zm (.row 5 1 0) (Mem.add _ 5 (.rows 3 (List.map api_Job.enc ([] : List api_Job)) false)) rfl rfl ?_; refine Zpc 2 rfl ?_; refine A.join (fun (s2 : (List api_Job)) => [(5, .row 900000 1 s2.length)]) (fun s2 => [(900000, .rows 3 (List.map api_Job.enc s2) false)]) _ h hG rfl ?_ ?_
  · intro J f h hG; refine Zac 6 rfl ?_; refine A.loop (fun (s3 : Int × (List api_Job)) => [(0, VF (List.map api_Waiting.enc l_)), (1, VI net_), (5, .row 900000 1 s3.2.length), (6, VI s3.1)]) (fun s3 => [(900000, .rows 3 (List.map api_Job.enc s3.2) false)]) _ h hG (Zf [] [(900000, (5, 1))] rfl rfl (Ze rfl rfl (Ze rfl rfl (Ze rfl rfl (Ze rfl rfl trivial)))) (Zc rfl rfl trivial)) ?_; intro J s3 f h hG; unfold ref30_Jobs_L1 at h; refine Zap 5 rfl ?_; refine Y1 rfl ?_; refine W.len rfl ?_; refine Zpc 3 rfl ?_; refine A.condB rfl h (fun _ h => ?_) (fun _ h => ?_)
    · refine Zcp 8 rfl ?_; refine Y1 rfl ?_; refine bindK h fun x23 hx23 h => ?_; refine W.chk rfl (elemB hx23) ?_; refine W.elem rfl (elemG hx23) ?_; refine W.chk rfl rfl ?_; refine W.det (.fp [.v (.int .i64 x23.Event), .v (.int .i64 x23.Net), .v (.int .i64 x23.Left), .v (.int .i64 x23.Due)]) _ rfl ?_; refine Zo (.fp [.v (.int .i64 x23.Net), .v (.int .i64 x23.Left), .v (.int .i64 x23.Due)]) rfl rfl ?_; refine Zpc 5 rfl ?_; refine A.condB rfl h (fun _ h => ?_) (fun _ h => ?_)
      · refine A.regionD (by kernel_rfl) ?_; refine Zo (.row 900000 1 s3.2.length) rfl rfl ?_; refine Zpp 2 rfl ?_; refine Y1 rfl ?_; refine W.chk rfl (elemB hx23) ?_; refine W.elem rfl (elemG hx23) ?_; refine W.chk rfl rfl ?_; refine W.det (.fp [.v (.int .i64 x23.Event), .v (.int .i64 x23.Net), .v (.int .i64 x23.Left), .v (.int .i64 x23.Due)]) _ rfl ?_; refine Zo (.fp [.v (.int .i64 x23.Event), .v (.int .i64 x23.Net), .v (.int .i64 x23.Left), .v (.int .i64 x23.Due)]) rfl rfl ?_; refine Zpp 3 rfl ?_; refine Y1 rfl ?_; refine W.chk rfl (elemB hx23) ?_; refine W.elem rfl (elemG hx23) ?_; refine W.chk rfl rfl ?_; refine W.det (.fp [.v (.int .i64 x23.Event), .v (.int .i64 x23.Net), .v (.int .i64 x23.Left), .v (.int .i64 x23.Due)]) _ rfl ?_; refine Zo (.fp [.v (.int .i64 x23.Left), .v (.int .i64 x23.Due)]) rfl rfl ?_; refine Zpp 3 rfl ?_; refine Y1 rfl ?_; refine W.chk rfl (elemB hx23) ?_; refine W.elem rfl (elemG hx23) ?_; refine W.chk rfl rfl ?_; refine W.det (.fp [.v (.int .i64 x23.Event), .v (.int .i64 x23.Net), .v (.int .i64 x23.Left), .v (.int .i64 x23.Due)]) _ rfl ?_; refine Zo (.fp [.v (.int .i64 x23.Due)]) rfl rfl ?_; refine Zpp 1 rfl ?_; refine Zo (.agg [VI x23.Event, VI x23.Left, VI x23.Due]) rfl rfl ?_; refine Zm (.row 37 2 1) (Mem.add _ 37 (.rows 3 (List.map api_Job.enc [(api_Job.mk x23.Event x23.Left x23.Due)]) false)) rfl rfl ?_; refine Y1 rfl ?_; refine chkK h fun g24 h => ?_; refine W.chk rfl (appChk (fun _ => rfl) g24) ?_; refine W.app rfl rfl ?_; refine Zo (.row 900000 2 (s3.2 ++ [(api_Job.mk x23.Event x23.Left x23.Due)]).length) rfl rfl ?_; refine Zpb 8 rfl ?_; cases h; exact Zh hG [] [(900000, (900000, 2))] rfl rfl (Ze rfl rfl (Ze rfl rfl (Ze rfl rfl (Ze rfl rfl trivial)))) (Zc rfl rfl trivial)
      · refine Zcb 8 rfl ?_; cases h; exact Zh hG [] [(900000, (900000, 1))] rfl rfl (Ze rfl rfl (Ze rfl rfl (Ze rfl rfl (Ze rfl rfl trivial)))) (Zc rfl rfl trivial)
    · refine Zcb 2 rfl ?_; refine headK.e ?_; refine Zob 1 rfl ?_; cases h; exact Zh hG [] [(900000, (900000, 1))] rfl rfl (Ze rfl rfl trivial) (Zc rfl rfl trivial)
  · intro s2 r2 h hG; refine Zcp 2 rfl ?_; refine Zo (.row 900000 1 s2.length) rfl rfl ?_; refine Zo (.row 900000 1 s2.length) rfl rfl ?_; refine Zpb 3 rfl ?_; cases h; cases hG; exact ⟨rfl, rfl, trivial⟩
noncomputable def ref12_within (n_ : Int) (from_ : Int) (to_ : Int) : Option (Bool) :=
  (bif (decide (from_ ≤ n_)) then
    some (decide (n_ ≤ to_))
  else
    some false)
theorem ref12_within_fn {n_ : Int} {from_ : Int} {to_ : Int} {r : Bool} (h : ref12_within n_ from_ to_ = some r) : Fn Tryz.prog 74 [VI n_, VI from_, VI to_] (VB r) := by
  refine Fn.of_AW (F := FnX Tryz.prog) (base := 0) (js := []) mixed tok noeqs (fun _ _ _ h => h) Tryz.call74 Tryz.func74 rfl Tryz.ntmps74 (by rw [Tryz.results74]) (by simp) ?_; have hG : (fun x => x = r) r := rfl; unfold ref12_within at h; refine Zap 11 rfl ?_; refine YT rfl rfl rfl h (fun _ h => ?_) (fun _ h => ?_)
  · refine Zwb 8 rfl ?_; cases h; cases hG; exact ⟨rfl, trivial⟩
  · refine Zpb 7 rfl ?_; cases h; cases hG; exact ⟨rfl, trivial⟩
noncomputable def ref11_letter (c_ : Int) : Option (Bool) :=
  (bif (decide ((97 : Int) ≤ c_)) then
    some (decide (c_ ≤ (122 : Int)))
  else
    some false)
theorem ref11_letter_fn {c_ : Int} {r : Bool} (h : ref11_letter c_ = some r) : Fn Tryz.prog 98 [.d (.v (.int .u8 c_))] (VB r) := by
  refine Fn.of_AW (F := FnX Tryz.prog) (base := 0) (js := []) mixed tok noeqs (fun _ _ _ h => h) Tryz.call98 Tryz.func98 rfl Tryz.ntmps98 (by rw [Tryz.results98]) (by simp) ?_; have hG : (fun x => x = r) r := rfl; unfold ref11_letter at h; refine Zap 10 rfl ?_; refine YT rfl rfl rfl h (fun _ h => ?_) (fun _ h => ?_)
  · refine Zwb 7 rfl ?_; cases h; cases hG; exact ⟨rfl, trivial⟩
  · refine Zpb 6 rfl ?_; cases h; cases hG; exact ⟨rfl, trivial⟩
end Go.Proofs.YtbijnfgjcbfpmaaGreat

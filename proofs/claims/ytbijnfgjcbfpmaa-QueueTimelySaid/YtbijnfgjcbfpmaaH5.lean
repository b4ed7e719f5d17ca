/-
  Plain programs of functions, and that the functions do what they say. Printed by wip/tools/gen.py.
-/
import Derived.Test.YtbijnfgjcbfpmaaG3
namespace Go.Proofs.Ytbijnfgjcbfpmaa
open Go.RowKit
attribute [local irreducible] IntKind.wrap AW runL Step.wp
set_option linter.unusedVariables false
set_option maxHeartbeats 4000000
set_option maxRecDepth 100000
structure linguaref30_Act where
  Do : Int
  Event : Int
  Left : Int
  After : Int
def linguaref30_Act.enc (x : linguaref30_Act) : List D := [.v (.int .i64 x.Do), .v (.int .i64 x.Event), .v (.int .i64 x.Left), .v (.int .i64 x.After)]
abbrev linguaref30_Act.av (x : linguaref30_Act) : List AV := [VI x.Do, VI x.Event, VI x.Left, VI x.After]
noncomputable def law30_QueueTimely_L1 (p1_ : (List linguaref30_Act)) (s3 : Int × (List Bool)) : Option ((Int × (List Bool)) ⊕ (((List Bool)) ⊕ (Bool))) :=
  (bif (decide (s3.1 < (p1_.length : Int))) then
    (getI p1_ s3.1).bind fun x55 =>
    (bif (x55.Do == (1 : Int)) then
      (chkO (decide (s3.2.length + [(x55.Do == (1 : Int))].length ≤ 1000000))).bind fun _ =>
      some (.inl ((IntKind.i64.wrap (s3.1 + (1 : Int))), (s3.2 ++ [(x55.Do == (1 : Int))])))
    else
      (bif (x55.Do == (2 : Int)) then
        (chkO (decide (s3.2.length + [(x55.Do == (1 : Int))].length ≤ 1000000))).bind fun _ =>
        some (.inl ((IntKind.i64.wrap (s3.1 + (1 : Int))), (s3.2 ++ [(x55.Do == (1 : Int))])))
      else
        some (.inl ((IntKind.i64.wrap (s3.1 + (1 : Int))), s3.2))))
  else
    some (.inr (.inl s3.2)))
noncomputable def law30_QueueTimely_L2 (s51 : ((List api_Waiting) × Int × Int × (List api_Waiting) × (List Int))) (x769 : linguaref30_Act) (s96 : Bool × Int) : Option ((Bool × Int) ⊕ ((Bool) ⊕ ((Unit) ⊕ (((List api_Waiting) × Int × (List api_Waiting) × (List Int)) ⊕ (((List api_Waiting) × Int × Int × (List api_Waiting) × (List Int)) ⊕ (((List api_Waiting) × Int × (List api_Waiting) × (List Int)) ⊕ (Bool))))))) :=
  (bif (decide (s96.2 < ((s51.2.2.2.1.length : Nat) : Int))) then
    (bif s96.1 then
      some (.inl (true, (IntKind.i64.wrap (s96.2 + (1 : Int)))))
    else
      (chkO (decide (0 ≤ s96.2) && decide (s96.2 < ((s51.2.2.2.1.length : Nat) : Int)))).bind fun _ =>
      (getI s51.2.2.2.1 s96.2).bind fun x793 =>
      some (.inl ((x793.Event == x769.Event), (IntKind.i64.wrap (s96.2 + (1 : Int))))))
  else
    some (.inr (.inl s96.1)))
noncomputable def law30_QueueTimely_L3 (p1_ : (List linguaref30_Act)) (p_ : api_Profile) (s51 : (List api_Waiting) × Int × Int × (List api_Waiting) × (List Int)) : Option (((List api_Waiting) × Int × Int × (List api_Waiting) × (List Int)) ⊕ (((List api_Waiting) × Int × (List api_Waiting) × (List Int)) ⊕ (Bool))) :=
  (bif (decide (s51.2.2.1 < (p1_.length : Int))) then
    (seqF (A := (List api_Waiting) × Int × (List api_Waiting) × (List Int)) (
      (seqF (A := Unit) (
        (getI p1_ s51.2.2.1).bind fun x769 =>
        (bif (x769.Do == (0 : Int)) then
          (bif (decide (x769.After < (0 : Int))) then
            some (.inr (.inl (s51.1, s51.2.1, s51.2.2.2.1, s51.2.2.2.2)))
          else
            (bif (decide ((1000 : Int) < x769.After)) then
              some (.inr (.inl (s51.1, s51.2.1, s51.2.2.2.1, s51.2.2.2.2)))
            else
              (seqF (A := Bool) (
                loopF (law30_QueueTimely_L2 s51 x769) (false, (0 : Int)))
              fun s95 =>
                (bif s95 then
                  some (.inr (.inl (s51.1, s51.2.1, s51.2.2.2.1, s51.2.2.2.2)))
                else
                  (queue_Put p_ s51.1 (api_Waiting.mk x769.Event (1 : Int) x769.Left (IntKind.i64.wrap (s51.2.1 + x769.After))) s51.2.1).bind fun y794 =>
                  (bif (y794.2 == (0 : Int)) then
                    (chkO (decide (s51.2.2.2.1.length + [(api_Waiting.mk x769.Event (1 : Int) x769.Left (IntKind.i64.wrap (s51.2.1 + x769.After)))].length ≤ 1000000))).bind fun _ =>
                    some (.inr (.inl (y794.1, s51.2.1, (s51.2.2.2.1 ++ [(api_Waiting.mk x769.Event (1 : Int) x769.Left (IntKind.i64.wrap (s51.2.1 + x769.After)))]), s51.2.2.2.2)))
                  else
                    some (.inr (.inl (y794.1, s51.2.1, s51.2.2.2.1, s51.2.2.2.2))))))))
        else
          some (.inl ())))
      fun s93 =>
        (getI p1_ s51.2.2.1).bind fun x797 =>
        (bif (x797.Do != (1 : Int)) then
          (bif (x797.Do != (2 : Int)) then
            some (.inl (s51.1, s51.2.1, s51.2.2.2.1, s51.2.2.2.2))
          else
            (queue_Step p_ (1 : Int) s51.1 (x797.Do == (1 : Int))).bind fun y798 =>
            (chkO (decide (s51.2.2.2.2.length + y798.1.length ≤ 1000000))).bind fun _ =>
            (queue_Late y798.2 (IntKind.i64.wrap (s51.2.1 + (1 : Int)))).bind fun y800 =>
            (bif (decide ((0 : Int) < ((y800.length : Nat) : Int))) then
              some (.inr (.inr (.inr false)))
            else
              some (.inl (y798.2, (IntKind.i64.wrap (s51.2.1 + (1 : Int))), s51.2.2.2.1, (s51.2.2.2.2 ++ y798.1)))))
        else
          (queue_Step p_ (1 : Int) s51.1 (x797.Do == (1 : Int))).bind fun y801 =>
          (chkO (decide (s51.2.2.2.2.length + y801.1.length ≤ 1000000))).bind fun _ =>
          (queue_Late y801.2 (IntKind.i64.wrap (s51.2.1 + (1 : Int)))).bind fun y803 =>
          (bif (decide ((0 : Int) < ((y803.length : Nat) : Int))) then
            some (.inr (.inr (.inr false)))
          else
            some (.inl (y801.2, (IntKind.i64.wrap (s51.2.1 + (1 : Int))), s51.2.2.2.1, (s51.2.2.2.2 ++ y801.1)))))))
    fun s89 =>
      some (.inl (s89.1, s89.2.1, (IntKind.i64.wrap (s51.2.2.1 + (1 : Int))), s89.2.2.1, s89.2.2.2)))
  else
    some (.inr (.inl (s51.1, s51.2.1, s51.2.2.2.1, s51.2.2.2.2))))
noncomputable def law30_QueueTimely_L4 (s50 : ((List api_Waiting) × Int × (List api_Waiting) × (List Int))) (s120 : (Int)) (s141 : Int × Int) : Option ((Int × Int) ⊕ ((Int) ⊕ ((Unit) ⊕ ((Int) ⊕ ((Unit) ⊕ (Bool)))))) :=
  (bif (decide (s141.2 < ((s50.2.2.2.length : Nat) : Int))) then
    (chkO (decide (0 ≤ s141.2) && decide (s141.2 < ((s50.2.2.2.length : Nat) : Int)))).bind fun _ =>
    (getI s50.2.2.2 s141.2).bind fun x1465 =>
    (chkO (decide (0 ≤ s120) && decide (s120 < ((s50.2.2.1.length : Nat) : Int)))).bind fun _ =>
    (getI s50.2.2.1 s120).bind fun x1467 =>
    (bif (x1465 == x1467.Event) then
      some (.inl ((IntKind.i64.wrap (s141.1 + (1 : Int))), (IntKind.i64.wrap (s141.2 + (1 : Int)))))
    else
      some (.inl (s141.1, (IntKind.i64.wrap (s141.2 + (1 : Int))))))
  else
    some (.inr (.inl s141.1)))
noncomputable def law30_QueueTimely_L5 (s50 : ((List api_Waiting) × Int × (List api_Waiting) × (List Int))) (s120 : Int) : Option ((Int) ⊕ ((Unit) ⊕ (Bool))) :=
  (bif (decide (s120 < ((s50.2.2.1.length : Nat) : Int))) then
    (seqF (A := Unit) (
      (seqF (A := Int) (
        loopF (law30_QueueTimely_L4 s50 s120) ((0 : Int), (0 : Int)))
      fun s140 =>
        (bif (decide ((1 : Int) < s140)) then
          some (.inr (.inr (.inr false)))
        else
          (chkO (decide (0 ≤ s120) && decide (s120 < ((s50.2.2.1.length : Nat) : Int)))).bind fun _ =>
          (getI s50.2.2.1 s120).bind fun x1473 =>
          (law30_gone s50.1 x1473.Event).bind fun y1474 =>
          (bif (!((s140 == (1 : Int)) == y1474)) then
            some (.inr (.inr (.inr false)))
          else
            (bif (decide (x1473.Due ≤ s50.2.1)) then
              (bif (s140 != (1 : Int)) then
                some (.inr (.inr (.inr false)))
              else
                some (.inl ()))
            else
              some (.inl ()))))))
    fun s138 =>
      some (.inl (IntKind.i64.wrap (s120 + (1 : Int)))))
  else
    some (.inr (.inl ())))
noncomputable def law30_QueueTimely (p_ : api_Profile) (p1_ : (List linguaref30_Act)) : Option (Bool) :=
  (law30_small).bind fun y1 =>
  (ref30_Few p_ ([] : List api_Waiting) (0 : Int)).bind fun y8 =>
  (bif (!y8) then
    some y1
  else
    (bif (decide ((40 : Int) < (p1_.length : Int))) then
      some y1
    else
      (profile_Check p_).bind fun y9 =>
      (bif (y9 != (0 : Int)) then
        some y1
      else
        (seqF (A := (List Bool)) (
          loopF (law30_QueueTimely_L1 p1_) ((0 : Int), ([] : List Bool)))
        fun s2 =>
          (supply_Allowed p_ s2).bind fun y59 =>
          (bif (!y59) then
            some y1
          else
            (seqF (A := (List api_Waiting) × Int × (List api_Waiting) × (List Int)) (
              loopF (law30_QueueTimely_L3 p1_ p_) (([] : List api_Waiting), (0 : Int), (0 : Int), ([] : List api_Waiting), ([] : List Int)))
            fun s50 =>
              (seqF (A := Unit) (
                loopF (law30_QueueTimely_L5 s50) (0 : Int))
              fun s119 =>
                (bif y1 then
                  some ((IntKind.i64.wrap (((s50.2.2.2.length : Nat) : Int) + (s50.1.length : Int))) == ((s50.2.2.1.length : Nat) : Int))
                else
                  some false))))))))
theorem law30_QueueTimely_fn {p_ : api_Profile} {p1_ : (List linguaref30_Act)} {r : Bool} (h : law30_QueueTimely p_ p1_ = some r) : Fn Try.prog 5 [.agg (api_Profile.av p_), VF (List.map linguaref30_Act.enc p1_)] (VB r) := by
  refine Fn.of_AW (F := FnX Try.prog) (base := 0) (js := [10, 18, 27, 32, 39, 41, 48, 50]) mixed tok noeqs (fun _ _ _ h => h) Try.call5 Try.func5 rfl Try.ntmps5 (by rw [Try.results5]) (by simp) ?_; have hG : (fun x => x = r) r := rfl; unfold law30_QueueTimely at h; refine Zap 2 rfl ?_; refine Zm (.lp 2 1 0) (Mem.add _ 2 (.box (api_Profile.av p_))) rfl rfl ?_; refine Zpp 5 rfl ?_; refine Y1 rfl ?_; refine bindK h fun y1 hy1 h => ?_; refine W.call rfl (law30_small_fn hy1) ?_; refine Zwp 7 rfl ?_; refine Zo (.agg (api_Profile.av p_)) rfl rfl ?_; refine Y1 rfl ?_; refine bindK h fun y8 hy8 h => ?_; refine W.call rfl (ref30_Few_fn hy8) ?_; refine Zwp 3 rfl ?_; refine YF rfl rfl rfl h (fun _ h => ?_) (fun _ h => ?_)
  · refine Zpb 19 rfl ?_; cases h; cases hG; exact ⟨rfl, trivial⟩
  · refine Zwp 1 rfl ?_; refine Y2 rfl rfl rfl ?_; refine W.len rfl ?_; refine Zpp 3 rfl ?_; refine YF rfl rfl rfl h (fun _ h => ?_) (fun _ h => ?_)
    · refine Zpb 14 rfl ?_; cases h; cases hG; exact ⟨rfl, trivial⟩
    · refine W.det (.agg (api_Profile.av p_)) _ rfl ?_; refine Y2 rfl rfl rfl ?_; refine bindK h fun y9 hy9 h => ?_; refine W.call rfl (profile_Check_fn hy9) ?_; refine Zwc 5 rfl ?_; refine A.condB rfl h (fun _ h => ?_) (fun _ h => ?_)
      · refine Zcb 8 rfl ?_; cases h; cases hG; exact ⟨rfl, trivial⟩
      · refine Zcp 4 rfl ?_; refine Zm (.row 6 1 0) (Mem.add _ 6 (.rows 1 (List.map encB ([] : List Bool)) false)) rfl rfl ?_; refine Zpc 2 rfl ?_; refine A.join (fun (s2 : (List Bool)) => [(1, VF (List.map linguaref30_Act.enc p1_)), (2, .lp 900000 1 0), (5, VB y1), (6, .row 900001 1 s2.length)]) (fun s2 => [(900000, .box (api_Profile.av p_)), (900001, .rows 1 (List.map encB s2) false)]) _ h hG rfl ?_ ?_
        · intro J f h hG; refine Zac 6 rfl ?_; refine A.loop (fun (s3 : Int × (List Bool)) => [(1, VF (List.map linguaref30_Act.enc p1_)), (2, .lp 900000 1 0), (5, VB y1), (6, .row 900001 1 s3.2.length), (7, VI s3.1)]) (fun s3 => [(900000, .box (api_Profile.av p_)), (900001, .rows 1 (List.map encB s3.2) false)]) _ h hG (Zf [] [(900000, (2, 1)), (900001, (6, 1))] rfl rfl (Ze rfl rfl (Ze rfl rfl (Ze rfl rfl (Ze rfl rfl (Ze rfl rfl trivial))))) (Zc rfl rfl (Zc rfl rfl trivial))) ?_; intro J s3 f h hG; unfold law30_QueueTimely_L1 at h; refine Zap 5 rfl ?_; refine Y1 rfl ?_; refine W.len rfl ?_; refine Zpc 3 rfl ?_; refine A.condB rfl h (fun _ h => ?_) (fun _ h => ?_)
          · refine Zcp 8 rfl ?_; refine Y1 rfl ?_; refine bindK h fun x55 hx55 h => ?_; refine W.chk rfl (elemB hx55) ?_; refine W.elem rfl (elemG hx55) ?_; refine W.chk rfl rfl ?_; refine W.det (.fp [.v (.int .i64 x55.Do), .v (.int .i64 x55.Event), .v (.int .i64 x55.Left), .v (.int .i64 x55.After)]) _ rfl ?_; refine Zo (.fp [.v (.int .i64 x55.Do), .v (.int .i64 x55.Event), .v (.int .i64 x55.Left), .v (.int .i64 x55.After)]) rfl rfl ?_; refine Zpp 3 rfl ?_; refine YF rfl rfl rfl h (fun _ h => ?_) (fun _ h => ?_)
            · refine Zpp 10 rfl ?_; refine Zo (.row 900001 1 s3.2.length) rfl rfl ?_; refine Zpp 2 rfl ?_; refine Y1 rfl ?_; refine W.chk rfl (elemB hx55) ?_; refine W.elem rfl (elemG hx55) ?_; refine W.chk rfl rfl ?_; refine W.det (.fp [.v (.int .i64 x55.Do), .v (.int .i64 x55.Event), .v (.int .i64 x55.Left), .v (.int .i64 x55.After)]) _ rfl ?_; refine Zo (.fp [.v (.int .i64 x55.Do), .v (.int .i64 x55.Event), .v (.int .i64 x55.Left), .v (.int .i64 x55.After)]) rfl rfl ?_; refine Zpp 2 rfl ?_; refine Zm (.row 65 2 1) (Mem.add _ 65 (.rows 1 (List.map encB [(x55.Do == (1 : Int))]) false)) rfl rfl ?_; refine Y1 rfl ?_; refine chkK h fun g56 h => ?_; refine W.chk rfl (appChk (fun _ => rfl) g56) ?_; refine W.app rfl rfl ?_; refine Zo (.row 900001 2 (s3.2 ++ [(x55.Do == (1 : Int))]).length) rfl rfl ?_; refine Zpb 8 rfl ?_; cases h; exact Zh hG [] [(900000, (900000, 1)), (900001, (900001, 2))] rfl rfl (Ze rfl rfl (Ze rfl rfl (Ze rfl rfl (Ze rfl rfl (Ze rfl rfl trivial))))) (Zc rfl rfl (Zc rfl rfl trivial))
            · refine Zwp 2 rfl ?_; refine Y2 rfl rfl rfl ?_; refine W.chk rfl (elemB hx55) ?_; refine W.elem rfl (elemG hx55) ?_; refine W.chk rfl rfl ?_; refine W.det (.fp [.v (.int .i64 x55.Do), .v (.int .i64 x55.Event), .v (.int .i64 x55.Left), .v (.int .i64 x55.After)]) _ rfl ?_; refine Zu (.fp [.v (.int .i64 x55.Do), .v (.int .i64 x55.Event), .v (.int .i64 x55.Left), .v (.int .i64 x55.After)]) rfl rfl rfl rfl ?_; refine Zpc 5 rfl ?_; refine A.condB rfl h (fun _ h => ?_) (fun _ h => ?_)
              · refine Zcp 1 rfl ?_; refine Zo (.row 900001 1 s3.2.length) rfl rfl ?_; refine Zpp 2 rfl ?_; refine Y1 rfl ?_; refine W.chk rfl (elemB hx55) ?_; refine W.elem rfl (elemG hx55) ?_; refine W.chk rfl rfl ?_; refine W.det (.fp [.v (.int .i64 x55.Do), .v (.int .i64 x55.Event), .v (.int .i64 x55.Left), .v (.int .i64 x55.After)]) _ rfl ?_; refine Zo (.fp [.v (.int .i64 x55.Do), .v (.int .i64 x55.Event), .v (.int .i64 x55.Left), .v (.int .i64 x55.After)]) rfl rfl ?_; refine Zpp 2 rfl ?_; refine Zm (.row 65 2 1) (Mem.add _ 65 (.rows 1 (List.map encB [(x55.Do == (1 : Int))]) false)) rfl rfl ?_; refine Y1 rfl ?_; refine chkK h fun g57 h => ?_; refine W.chk rfl (appChk (fun _ => rfl) g57) ?_; refine W.app rfl rfl ?_; refine Zo (.row 900001 2 (s3.2 ++ [(x55.Do == (1 : Int))]).length) rfl rfl ?_; refine Zpb 8 rfl ?_; cases h; exact Zh hG [] [(900000, (900000, 1)), (900001, (900001, 2))] rfl rfl (Ze rfl rfl (Ze rfl rfl (Ze rfl rfl (Ze rfl rfl (Ze rfl rfl trivial))))) (Zc rfl rfl (Zc rfl rfl trivial))
              · refine Zcb 8 rfl ?_; cases h; exact Zh hG [] [(900000, (900000, 1)), (900001, (900001, 1))] rfl rfl (Ze rfl rfl (Ze rfl rfl (Ze rfl rfl (Ze rfl rfl (Ze rfl rfl trivial))))) (Zc rfl rfl (Zc rfl rfl trivial))
          · refine Zcb 2 rfl ?_; refine headK.e ?_; refine Zob 1 rfl ?_; cases h; exact Zh hG [] [(900000, (900000, 1)), (900001, (900001, 1))] rfl rfl (Ze rfl rfl (Ze rfl rfl (Ze rfl rfl (Ze rfl rfl trivial)))) (Zc rfl rfl (Zc rfl rfl trivial))
        · intro s2 r2 h hG; refine Zcp 3 rfl ?_; refine Zo (.agg (api_Profile.av p_)) rfl rfl ?_; refine Zo (.row 900001 1 s2.length) rfl rfl ?_; refine Y1 rfl ?_; refine bindK h fun y59 hy59 h => ?_; refine W.call rfl (supply_Allowed_fn hy59) ?_; refine Zwc 4 rfl ?_; refine A.condB rfl h (fun _ h => ?_) (fun _ h => ?_)
          · refine Zcb 8 rfl ?_; cases h; cases hG; exact ⟨rfl, trivial⟩
          · refine Zcp 4 rfl ?_; refine Zm (.row 8 2 0) (Mem.add _ 8 (.rows 4 (List.map api_Waiting.enc ([] : List api_Waiting)) false)) rfl rfl ?_; refine Zpp 4 rfl ?_; refine Zm (.row 9 2 0) (Mem.add _ 9 (.rows 4 (List.map api_Waiting.enc ([] : List api_Waiting)) false)) rfl rfl ?_; refine Zpp 4 rfl ?_; refine Zm (.row 10 2 0) (Mem.add _ 10 (.rows 1 (List.map (encI .i64) ([] : List Int)) false)) rfl rfl ?_; refine Zpc 7 rfl ?_; refine A.join (fun (s50 : (List api_Waiting) × Int × (List api_Waiting) × (List Int)) => [(5, VB y1), (8, VF (List.map api_Waiting.enc s50.1)), (9, .row 900000 1 s50.2.2.1.length), (10, .row 900001 1 s50.2.2.2.length), (11, VI s50.2.1)]) (fun s50 => [(900000, .rows 4 (List.map api_Waiting.enc s50.2.2.1) false), (900001, .rows 1 (List.map (encI .i64) s50.2.2.2) false)]) _ h hG rfl ?_ ?_
            · intro J f h hG; refine Zac 6 rfl ?_; refine A.loop (fun (s51 : (List api_Waiting) × Int × Int × (List api_Waiting) × (List Int)) => [(1, VF (List.map linguaref30_Act.enc p1_)), (2, .lp 900000 1 0), (5, VB y1), (8, VF (List.map api_Waiting.enc s51.1)), (9, .row 900001 1 s51.2.2.2.1.length), (10, .row 900002 1 s51.2.2.2.2.length), (11, VI s51.2.1), (12, VI s51.2.2.1)]) (fun s51 => [(900000, .box (api_Profile.av p_)), (900001, .rows 4 (List.map api_Waiting.enc s51.2.2.2.1) false), (900002, .rows 1 (List.map (encI .i64) s51.2.2.2.2) false)]) _ h hG (Zf [(8, 2)] [(900000, (900000, 1)), (900001, (9, 2)), (900002, (10, 2))] rfl rfl (Ze rfl rfl (Ze rfl rfl (Ze rfl rfl (Ze rfl rfl (Ze rfl rfl (Ze rfl rfl (Ze rfl rfl (Ze rfl rfl trivial)))))))) (Zc rfl rfl (Zc rfl rfl (Zc rfl rfl trivial)))) ?_; intro J s51 f h hG; unfold law30_QueueTimely_L3 at h; refine Zap 5 rfl ?_; refine Y1 rfl ?_; refine W.len rfl ?_; refine Zpc 3 rfl ?_; refine A.condB rfl h (fun _ h => ?_) (fun _ h => ?_)
              · refine Zcc 2 rfl ?_; refine A.join (fun (s89 : (List api_Waiting) × Int × (List api_Waiting) × (List Int)) => [(1, VF (List.map linguaref30_Act.enc p1_)), (2, .lp 900000 1 0), (5, VB y1), (8, VF (List.map api_Waiting.enc s89.1)), (9, .row 900001 1 s89.2.2.1.length), (10, .row 900002 1 s89.2.2.2.length), (11, VI s89.2.1), (12, VI s51.2.2.1)]) (fun s89 => [(900000, .box (api_Profile.av p_)), (900001, .rows 4 (List.map api_Waiting.enc s89.2.2.1) false), (900002, .rows 1 (List.map (encI .i64) s89.2.2.2) false)]) _ h hG rfl ?_ ?_
                · intro J f h hG; refine Zac 1 rfl ?_; refine A.join (fun (s93 : Unit) => [(1, VF (List.map linguaref30_Act.enc p1_)), (2, .lp 900000 1 0), (5, VB y1), (8, VF (List.map api_Waiting.enc s51.1)), (9, .row 900001 1 s51.2.2.2.1.length), (10, .row 900002 1 s51.2.2.2.2.length), (11, VI s51.2.1), (12, VI s51.2.2.1)]) (fun s93 => [(900000, .box (api_Profile.av p_)), (900001, .rows 4 (List.map api_Waiting.enc s51.2.2.2.1) false), (900002, .rows 1 (List.map (encI .i64) s51.2.2.2.2) false)]) _ h hG rfl ?_ ?_
                  · intro J f h hG; refine Zap 4 rfl ?_; refine Y1 rfl ?_; refine bindK h fun x769 hx769 h => ?_; refine W.chk rfl (elemB hx769) ?_; refine W.elem rfl (elemG hx769) ?_; refine W.chk rfl rfl ?_; refine W.det (.fp [.v (.int .i64 x769.Do), .v (.int .i64 x769.Event), .v (.int .i64 x769.Left), .v (.int .i64 x769.After)]) _ rfl ?_; refine Zo (.fp [.v (.int .i64 x769.Do), .v (.int .i64 x769.Event), .v (.int .i64 x769.Left), .v (.int .i64 x769.After)]) rfl rfl ?_; refine Zpc 4 rfl ?_; refine A.condB rfl h (fun _ h => ?_) (fun _ h => ?_)
                    · refine Zcp 5 rfl ?_; refine Y1 rfl ?_; refine W.chk rfl (elemB hx769) ?_; refine W.elem rfl (elemG hx769) ?_; refine W.chk rfl rfl ?_; refine W.det (.fp [.v (.int .i64 x769.Do), .v (.int .i64 x769.Event), .v (.int .i64 x769.Left), .v (.int .i64 x769.After)]) _ rfl ?_; refine Zo (.fp [.v (.int .i64 x769.After)]) rfl rfl ?_; refine Zpp 3 rfl ?_; refine YF rfl rfl rfl h (fun _ h => ?_) (fun _ h => ?_)
                      · refine Zpb 11 rfl ?_; refine headK.e ?_; refine Zob 1 rfl ?_; cases h; exact Zh hG [] [(900000, (900000, 1)), (900001, (900001, 1)), (900002, (900002, 1))] rfl rfl (Ze rfl rfl (Ze rfl rfl (Ze rfl rfl (Ze rfl rfl (Ze rfl rfl (Ze rfl rfl (Ze rfl rfl (Ze rfl rfl trivial)))))))) (Zc rfl rfl (Zc rfl rfl (Zc rfl rfl trivial)))
                      · refine Zwp 2 rfl ?_; refine Y2 rfl rfl rfl ?_; refine W.chk rfl (elemB hx769) ?_; refine W.elem rfl (elemG hx769) ?_; refine W.chk rfl rfl ?_; refine W.det (.fp [.v (.int .i64 x769.Do), .v (.int .i64 x769.Event), .v (.int .i64 x769.Left), .v (.int .i64 x769.After)]) _ rfl ?_; refine Zu (.fp [.v (.int .i64 x769.After)]) rfl rfl rfl rfl ?_; refine Zpc 5 rfl ?_; refine A.condB rfl h (fun _ h => ?_) (fun _ h => ?_)
                        · refine Zcb 2 rfl ?_; refine headK.e ?_; refine Zob 1 rfl ?_; cases h; exact Zh hG [] [(900000, (900000, 1)), (900001, (900001, 1)), (900002, (900002, 1))] rfl rfl (Ze rfl rfl (Ze rfl rfl (Ze rfl rfl (Ze rfl rfl (Ze rfl rfl (Ze rfl rfl (Ze rfl rfl (Ze rfl rfl trivial)))))))) (Zc rfl rfl (Zc rfl rfl (Zc rfl rfl trivial)))
                        · refine Zcc 3 rfl ?_; refine A.regionD (by kernel_rfl) ?_; refine Zpp 2 rfl ?_; refine Y1 rfl ?_; refine W.chk rfl (elemB hx769) ?_; refine W.elem rfl (elemG hx769) ?_; refine W.chk rfl rfl ?_; refine W.det (.fp [.v (.int .i64 x769.Do), .v (.int .i64 x769.Event), .v (.int .i64 x769.Left), .v (.int .i64 x769.After)]) _ rfl ?_; refine Zo (.fp [.v (.int .i64 x769.Event), .v (.int .i64 x769.Left), .v (.int .i64 x769.After)]) rfl rfl ?_; refine Zpp 3 rfl ?_; refine Y1 rfl ?_; refine W.chk rfl (elemB hx769) ?_; refine W.elem rfl (elemG hx769) ?_; refine W.chk rfl rfl ?_; refine W.det (.fp [.v (.int .i64 x769.Do), .v (.int .i64 x769.Event), .v (.int .i64 x769.Left), .v (.int .i64 x769.After)]) _ rfl ?_; refine Zo (.fp [.v (.int .i64 x769.Left), .v (.int .i64 x769.After)]) rfl rfl ?_; refine Zpp 4 rfl ?_; refine Y1 rfl ?_; refine W.chk rfl (elemB hx769) ?_; refine W.elem rfl (elemG hx769) ?_; refine W.chk rfl rfl ?_; refine W.det (.fp [.v (.int .i64 x769.Do), .v (.int .i64 x769.Event), .v (.int .i64 x769.Left), .v (.int .i64 x769.After)]) _ rfl ?_; refine Zo (.fp [.v (.int .i64 x769.After)]) rfl rfl ?_; refine Zpp 2 rfl ?_; refine Zo (.agg [VI x769.Event, VI 1, VI x769.Left, VI (IntKind.i64.wrap (s51.2.1 + x769.After))]) rfl rfl ?_; refine Zm (.lp 13 2 0) (Mem.add _ 13 (.box [VI 0, VI 0, VI 0, VI 0])) rfl rfl ?_; refine Zm (.tup []) (Mem.set _ 13 2 (some (.box [VI x769.Event, VI 1, VI x769.Left, VI (IntKind.i64.wrap (s51.2.1 + x769.After))]))) rfl rfl ?_; refine Zpc 7 rfl ?_; refine A.join (fun (s95 : Bool) => [(1, VF (List.map linguaref30_Act.enc p1_)), (2, .lp 900000 1 0), (5, VB y1), (8, VF (List.map api_Waiting.enc s51.1)), (9, .row 900001 1 s51.2.2.2.1.length), (10, .row 900002 1 s51.2.2.2.2.length), (11, VI s51.2.1), (12, VI s51.2.2.1), (13, .lp 900003 1 0), (14, VB s95)]) (fun s95 => [(900000, .box (api_Profile.av p_)), (900001, .rows 4 (List.map api_Waiting.enc s51.2.2.2.1) false), (900002, .rows 1 (List.map (encI .i64) s51.2.2.2.2) false), (900003, .box [VI x769.Event, VI 1, VI x769.Left, VI (IntKind.i64.wrap (s51.2.1 + x769.After))])]) _ h hG rfl ?_ ?_
                          · intro J f h hG; refine Zac 6 rfl ?_; refine A.loop (fun (s96 : Bool × Int) => [(1, VF (List.map linguaref30_Act.enc p1_)), (2, .lp 900000 1 0), (5, VB y1), (8, VF (List.map api_Waiting.enc s51.1)), (9, .row 900001 1 s51.2.2.2.1.length), (10, .row 900002 1 s51.2.2.2.2.length), (11, VI s51.2.1), (12, VI s51.2.2.1), (13, .lp 900003 1 0), (14, VB s96.1), (15, VI s96.2)]) (fun s96 => [(900000, .box (api_Profile.av p_)), (900001, .rows 4 (List.map api_Waiting.enc s51.2.2.2.1) false), (900002, .rows 1 (List.map (encI .i64) s51.2.2.2.2) false), (900003, .box [VI x769.Event, VI 1, VI x769.Left, VI (IntKind.i64.wrap (s51.2.1 + x769.After))])]) _ h hG (Zf [] [(900000, (900000, 1)), (900001, (900001, 1)), (900002, (900002, 1)), (900003, (13, 2))] rfl rfl (Ze rfl rfl (Ze rfl rfl (Ze rfl rfl (Ze rfl rfl (Ze rfl rfl (Ze rfl rfl (Ze rfl rfl (Ze rfl rfl (Ze rfl rfl (Ze rfl rfl (Ze rfl rfl trivial))))))))))) (Zc rfl rfl (Zc rfl rfl (Zc rfl rfl (Zc rfl rfl trivial))))) ?_; intro J s96 f h hG; unfold law30_QueueTimely_L2 at h; refine Zap 4 rfl ?_; refine Zo (.row 900001 1 s51.2.2.2.1.length) rfl rfl ?_; refine Zpc 4 rfl ?_; refine A.condB rfl h (fun _ h => ?_) (fun _ h => ?_)
                            · refine Zcc 4 rfl ?_; refine A.regionD (by kernel_rfl) ?_; refine Zpp 2 rfl ?_; refine YF rfl rfl rfl h (fun _ h => ?_) (fun _ h => ?_)
                              · refine Zpb 17 rfl ?_; cases h; exact Zh hG [] [(900000, (900000, 1)), (900001, (900001, 1)), (900002, (900002, 1)), (900003, (900003, 1))] rfl rfl (Ze rfl rfl (Ze rfl rfl (Ze rfl rfl (Ze rfl rfl (Ze rfl rfl (Ze rfl rfl (Ze rfl rfl (Ze rfl rfl (Ze rfl rfl (Ze rfl rfl (Ze rfl rfl trivial))))))))))) (Zc rfl rfl (Zc rfl rfl (Zc rfl rfl (Zc rfl rfl trivial))))
                              · refine W.det (.row 900001 1 s51.2.2.2.1.length) _ rfl ?_; refine Zpp 1 rfl ?_; refine Y2 rfl rfl rfl ?_; refine chkK h fun g792 h => ?_; refine W.chk rfl (by simpa using g792) ?_; refine W.det (.rp 900001 1 s96.2.toNat 0) _ rfl ?_; refine Zu (.rp 900001 1 s96.2.toNat 0) rfl rfl rfl rfl ?_; refine Y2 rfl rfl rfl ?_; refine bindK h fun x793 hx793 h => ?_; refine W.elem rfl (elemG hx793) ?_; refine Zwb 14 rfl ?_; cases h; exact Zh hG [] [(900000, (900000, 1)), (900001, (900001, 1)), (900002, (900002, 1)), (900003, (900003, 1))] rfl rfl (Ze rfl rfl (Ze rfl rfl (Ze rfl rfl (Ze rfl rfl (Ze rfl rfl (Ze rfl rfl (Ze rfl rfl (Ze rfl rfl (Ze rfl rfl (Ze rfl rfl (Ze rfl rfl trivial))))))))))) (Zc rfl rfl (Zc rfl rfl (Zc rfl rfl (Zc rfl rfl trivial))))
                            · refine Zcb 2 rfl ?_; refine headK.e ?_; refine Zob 1 rfl ?_; cases h; exact Zh hG [] [(900000, (900000, 1)), (900001, (900001, 1)), (900002, (900002, 1)), (900003, (900003, 1))] rfl rfl (Ze rfl rfl (Ze rfl rfl (Ze rfl rfl (Ze rfl rfl (Ze rfl rfl (Ze rfl rfl (Ze rfl rfl (Ze rfl rfl (Ze rfl rfl (Ze rfl rfl trivial)))))))))) (Zc rfl rfl (Zc rfl rfl (Zc rfl rfl (Zc rfl rfl trivial))))
                          · intro s95 r2 h hG; refine Zcc 6 rfl ?_; refine A.condB rfl h (fun _ h => ?_) (fun _ h => ?_)
                            · refine Zcb 2 rfl ?_; refine headK.e ?_; refine Zob 1 rfl ?_; cases h; exact Zh hG [] [(900000, (900000, 1)), (900001, (900001, 1)), (900002, (900002, 1))] rfl rfl (Ze rfl rfl (Ze rfl rfl (Ze rfl rfl (Ze rfl rfl (Ze rfl rfl (Ze rfl rfl (Ze rfl rfl (Ze rfl rfl trivial)))))))) (Zc rfl rfl (Zc rfl rfl (Zc rfl rfl trivial)))
                            · refine Zcp 4 rfl ?_; refine Zo (.agg (api_Profile.av p_)) rfl rfl ?_; refine Zpp 1 rfl ?_; refine Zo (.agg [VI x769.Event, VI 1, VI x769.Left, VI (IntKind.i64.wrap (s51.2.1 + x769.After))]) rfl rfl ?_; refine Zpp 1 rfl ?_; refine Y1 rfl ?_; refine bindK h fun y794 hy794 h => ?_; refine W.call rfl (queue_Put_fn hy794) ?_; refine W.v (.tup [.row 1048715 2 (List.map api_Waiting.enc y794.1).length, VI y794.2]) (.tup [.row 1048715 2 y794.1.length, VI y794.2]) (Mem.add _ 1048715 (.rows 4 (List.map api_Waiting.enc y794.1) false)) rfl (by simp only [List.length_map]) ?_; refine Zo (.tup [.row 1048715 2 y794.1.length, VI y794.2]) rfl rfl ?_; refine Zo (.row 1048715 2 y794.1.length) rfl rfl ?_; refine Zpp 1 rfl ?_; refine Zo (.row 1048715 2 y794.1.length) rfl rfl ?_; refine Zpp 5 rfl ?_; refine Zo (.row 1048715 2 y794.1.length) rfl rfl ?_; refine Zo (.row 1048715 2 y794.1.length) rfl rfl ?_; refine Zpc 9 rfl ?_; refine A.condB rfl h (fun _ h => ?_) (fun _ h => ?_)
                              · refine Zcp 1 rfl ?_; refine Zo (.row 900001 1 s51.2.2.2.1.length) rfl rfl ?_; refine Zo (.agg [VI x769.Event, VI 1, VI x769.Left, VI (IntKind.i64.wrap (s51.2.1 + x769.After))]) rfl rfl ?_; refine Zm (.row 147 2 1) (Mem.add _ 147 (.rows 4 (List.map api_Waiting.enc [(api_Waiting.mk x769.Event (1 : Int) x769.Left (IntKind.i64.wrap (s51.2.1 + x769.After)))]) false)) rfl rfl ?_; refine Y1 rfl ?_; refine chkK h fun g795 h => ?_; refine W.chk rfl (appChk (fun _ => rfl) g795) ?_; refine W.app rfl rfl ?_; refine Zo (.row 900001 2 (s51.2.2.2.1 ++ [(api_Waiting.mk x769.Event (1 : Int) x769.Left (IntKind.i64.wrap (s51.2.1 + x769.After)))]).length) rfl rfl ?_; refine Zpb 3 rfl ?_; refine headK.e ?_; refine Zob 1 rfl ?_; cases h; exact Zh hG [(1048715, 2)] [(900000, (900000, 1)), (900001, (900001, 2)), (900002, (900002, 1))] rfl rfl (Ze rfl rfl (Ze rfl rfl (Ze rfl rfl (Ze rfl rfl (Ze rfl rfl (Ze rfl rfl (Ze rfl rfl (Ze rfl rfl trivial)))))))) (Zc rfl rfl (Zc rfl rfl (Zc rfl rfl trivial)))
                              · refine Zcb 3 rfl ?_; refine headK.e ?_; refine Zob 1 rfl ?_; cases h; exact Zh hG [(1048715, 2)] [(900000, (900000, 1)), (900001, (900001, 1)), (900002, (900002, 1))] rfl rfl (Ze rfl rfl (Ze rfl rfl (Ze rfl rfl (Ze rfl rfl (Ze rfl rfl (Ze rfl rfl (Ze rfl rfl (Ze rfl rfl trivial)))))))) (Zc rfl rfl (Zc rfl rfl (Zc rfl rfl trivial)))
                    · refine Zcb 1 rfl ?_; cases h; exact Zh hG [] [(900000, (900000, 1)), (900001, (900001, 1)), (900002, (900002, 1))] rfl rfl (Ze rfl rfl (Ze rfl rfl (Ze rfl rfl (Ze rfl rfl (Ze rfl rfl (Ze rfl rfl (Ze rfl rfl (Ze rfl rfl trivial)))))))) (Zc rfl rfl (Zc rfl rfl (Zc rfl rfl trivial)))
                  · intro s93 r2 h hG; refine Zcp 5 rfl ?_; refine Y1 rfl ?_; refine bindK h fun x797 hx797 h => ?_; refine W.chk rfl (elemB hx797) ?_; refine W.elem rfl (elemG hx797) ?_; refine W.chk rfl rfl ?_; refine W.det (.fp [.v (.int .i64 x797.Do), .v (.int .i64 x797.Event), .v (.int .i64 x797.Left), .v (.int .i64 x797.After)]) _ rfl ?_; refine Zo (.fp [.v (.int .i64 x797.Do), .v (.int .i64 x797.Event), .v (.int .i64 x797.Left), .v (.int .i64 x797.After)]) rfl rfl ?_; refine Zpp 3 rfl ?_; refine YT rfl rfl rfl h (fun _ h => ?_) (fun _ h => ?_)
                    · refine Zwp 2 rfl ?_; refine Y2 rfl rfl rfl ?_; refine W.chk rfl (elemB hx797) ?_; refine W.elem rfl (elemG hx797) ?_; refine W.chk rfl rfl ?_; refine W.det (.fp [.v (.int .i64 x797.Do), .v (.int .i64 x797.Event), .v (.int .i64 x797.Left), .v (.int .i64 x797.After)]) _ rfl ?_; refine Zu (.fp [.v (.int .i64 x797.Do), .v (.int .i64 x797.Event), .v (.int .i64 x797.Left), .v (.int .i64 x797.After)]) rfl rfl rfl rfl ?_; refine Zpc 5 rfl ?_; refine A.condB rfl h (fun _ h => ?_) (fun _ h => ?_)
                      · refine Zcb 3 rfl ?_; cases h; exact Zh hG [] [(900000, (900000, 1)), (900001, (900001, 1)), (900002, (900002, 1))] rfl rfl (Ze rfl rfl (Ze rfl rfl (Ze rfl rfl (Ze rfl rfl (Ze rfl rfl (Ze rfl rfl (Ze rfl rfl (Ze rfl rfl trivial)))))))) (Zc rfl rfl (Zc rfl rfl (Zc rfl rfl trivial)))
                      · refine Zcc 3 rfl ?_; refine A.regionD (by kernel_rfl) ?_; refine Zo (.agg (api_Profile.av p_)) rfl rfl ?_; refine Zpp 3 rfl ?_; refine Y1 rfl ?_; refine W.chk rfl (elemB hx797) ?_; refine W.elem rfl (elemG hx797) ?_; refine W.chk rfl rfl ?_; refine W.det (.fp [.v (.int .i64 x797.Do), .v (.int .i64 x797.Event), .v (.int .i64 x797.Left), .v (.int .i64 x797.After)]) _ rfl ?_; refine Zo (.fp [.v (.int .i64 x797.Do), .v (.int .i64 x797.Event), .v (.int .i64 x797.Left), .v (.int .i64 x797.After)]) rfl rfl ?_; refine Zpp 2 rfl ?_; refine Y1 rfl ?_; refine bindK h fun y798 hy798 h => ?_; refine W.call rfl (queue_Step_fn hy798) ?_; refine W.v (.tup [.row 1048748 2 (List.map (encI .i64) y798.1).length, .row 2097324 2 (List.map api_Waiting.enc y798.2).length]) (.tup [.row 1048748 2 y798.1.length, .row 2097324 2 y798.2.length]) (Mem.add (Mem.add _ 1048748 (.rows 1 (List.map (encI .i64) y798.1) false)) 2097324 (.rows 4 (List.map api_Waiting.enc y798.2) false)) rfl (by simp only [List.length_map]) ?_; refine Zo (.tup [.row 1048748 2 y798.1.length, .row 2097324 2 y798.2.length]) rfl rfl ?_; refine Zo (.row 1048748 2 y798.1.length) rfl rfl ?_; refine Zo (.row 2097324 2 y798.2.length) rfl rfl ?_; refine Zo (.row 1048748 2 y798.1.length) rfl rfl ?_; refine Zo (.row 2097324 2 y798.2.length) rfl rfl ?_; refine Zpp 4 rfl ?_; refine Zo (.row 2097324 2 y798.2.length) rfl rfl ?_; refine Zo (.row 2097324 2 y798.2.length) rfl rfl ?_; refine Zpp 4 rfl ?_; refine Zo (.row 900002 1 s51.2.2.2.2.length) rfl rfl ?_; refine Zo (.row 1048748 2 y798.1.length) rfl rfl ?_; refine Y1 rfl ?_; refine chkK h fun g799 h => ?_; refine W.chk rfl (appChk (fun _ => rfl) g799) ?_; refine W.app rfl rfl ?_; refine Zo (.row 900002 2 (s51.2.2.2.2 ++ y798.1).length) rfl rfl ?_; refine Zpp 11 rfl ?_; refine Zo (.row 2097324 2 y798.2.length) rfl rfl ?_; refine Zpp 1 rfl ?_; refine Y1 rfl ?_; refine bindK h fun y800 hy800 h => ?_; refine W.call rfl (queue_Late_fn hy800) ?_; refine W.v (.row 183 2 (List.map (encI .i64) y800).length) (.row 183 2 y800.length) (Mem.add (Mem.set _ 2097324 2 (some (.rows 4 (List.map api_Waiting.enc y798.2) true))) 183 (.rows 1 (List.map (encI .i64) y800) false)) rfl (by simp only [List.length_map]) ?_; refine Zpc 4 rfl ?_; refine A.condB rfl h (fun _ h => ?_) (fun _ h => ?_)
                        · refine Zcb 7 rfl ?_; refine headK.r ?_; refine headK.r ?_; refine Zob 1 rfl ?_; refine headK.r ?_; cases h; cases hG; exact ⟨rfl, trivial⟩
                        · refine Zcb 2 rfl ?_; cases h; exact Zh hG [(2097324, 2)] [(900000, (900000, 1)), (900001, (900001, 1)), (900002, (900002, 2))] rfl rfl (Ze rfl rfl (Ze rfl rfl (Ze rfl rfl (Ze rfl rfl (Ze rfl rfl (Ze rfl rfl (Ze rfl rfl (Ze rfl rfl trivial)))))))) (Zc rfl rfl (Zc rfl rfl (Zc rfl rfl trivial)))
                    · refine Zpc 12 rfl ?_; refine A.regionD (by kernel_rfl) ?_; refine Zo (.agg (api_Profile.av p_)) rfl rfl ?_; refine Zpp 3 rfl ?_; refine Y1 rfl ?_; refine W.chk rfl (elemB hx797) ?_; refine W.elem rfl (elemG hx797) ?_; refine W.chk rfl rfl ?_; refine W.det (.fp [.v (.int .i64 x797.Do), .v (.int .i64 x797.Event), .v (.int .i64 x797.Left), .v (.int .i64 x797.After)]) _ rfl ?_; refine Zo (.fp [.v (.int .i64 x797.Do), .v (.int .i64 x797.Event), .v (.int .i64 x797.Left), .v (.int .i64 x797.After)]) rfl rfl ?_; refine Zpp 2 rfl ?_; refine Y1 rfl ?_; refine bindK h fun y801 hy801 h => ?_; refine W.call rfl (queue_Step_fn hy801) ?_; refine W.v (.tup [.row 1048748 2 (List.map (encI .i64) y801.1).length, .row 2097324 2 (List.map api_Waiting.enc y801.2).length]) (.tup [.row 1048748 2 y801.1.length, .row 2097324 2 y801.2.length]) (Mem.add (Mem.add _ 1048748 (.rows 1 (List.map (encI .i64) y801.1) false)) 2097324 (.rows 4 (List.map api_Waiting.enc y801.2) false)) rfl (by simp only [List.length_map]) ?_; refine Zo (.tup [.row 1048748 2 y801.1.length, .row 2097324 2 y801.2.length]) rfl rfl ?_; refine Zo (.row 1048748 2 y801.1.length) rfl rfl ?_; refine Zo (.row 2097324 2 y801.2.length) rfl rfl ?_; refine Zo (.row 1048748 2 y801.1.length) rfl rfl ?_; refine Zo (.row 2097324 2 y801.2.length) rfl rfl ?_; refine Zpp 4 rfl ?_; refine Zo (.row 2097324 2 y801.2.length) rfl rfl ?_; refine Zo (.row 2097324 2 y801.2.length) rfl rfl ?_; refine Zpp 4 rfl ?_; refine Zo (.row 900002 1 s51.2.2.2.2.length) rfl rfl ?_; refine Zo (.row 1048748 2 y801.1.length) rfl rfl ?_; refine Y1 rfl ?_; refine chkK h fun g802 h => ?_; refine W.chk rfl (appChk (fun _ => rfl) g802) ?_; refine W.app rfl rfl ?_; refine Zo (.row 900002 2 (s51.2.2.2.2 ++ y801.1).length) rfl rfl ?_; refine Zpp 11 rfl ?_; refine Zo (.row 2097324 2 y801.2.length) rfl rfl ?_; refine Zpp 1 rfl ?_; refine Y1 rfl ?_; refine bindK h fun y803 hy803 h => ?_; refine W.call rfl (queue_Late_fn hy803) ?_; refine W.v (.row 183 2 (List.map (encI .i64) y803).length) (.row 183 2 y803.length) (Mem.add (Mem.set _ 2097324 2 (some (.rows 4 (List.map api_Waiting.enc y801.2) true))) 183 (.rows 1 (List.map (encI .i64) y803) false)) rfl (by simp only [List.length_map]) ?_; refine Zpc 4 rfl ?_; refine A.condB rfl h (fun _ h => ?_) (fun _ h => ?_)
                      · refine Zcb 7 rfl ?_; refine headK.r ?_; refine headK.r ?_; refine Zob 1 rfl ?_; refine headK.r ?_; cases h; cases hG; exact ⟨rfl, trivial⟩
                      · refine Zcb 2 rfl ?_; cases h; exact Zh hG [(2097324, 2)] [(900000, (900000, 1)), (900001, (900001, 1)), (900002, (900002, 2))] rfl rfl (Ze rfl rfl (Ze rfl rfl (Ze rfl rfl (Ze rfl rfl (Ze rfl rfl (Ze rfl rfl (Ze rfl rfl (Ze rfl rfl trivial)))))))) (Zc rfl rfl (Zc rfl rfl (Zc rfl rfl trivial)))
                · intro s89 r2 h hG; refine Zcb 5 rfl ?_; cases h; exact Zh hG [] [(900000, (900000, 1)), (900001, (900001, 1)), (900002, (900002, 1))] rfl rfl (Ze rfl rfl (Ze rfl rfl (Ze rfl rfl (Ze rfl rfl (Ze rfl rfl (Ze rfl rfl (Ze rfl rfl (Ze rfl rfl trivial)))))))) (Zc rfl rfl (Zc rfl rfl (Zc rfl rfl trivial)))
              · refine Zcb 2 rfl ?_; refine headK.e ?_; refine Zob 1 rfl ?_; cases h; exact Zh hG [] [(900000, (900001, 1)), (900001, (900002, 1))] rfl rfl (Ze rfl rfl (Ze rfl rfl (Ze rfl rfl (Ze rfl rfl (Ze rfl rfl trivial))))) (Zc rfl rfl (Zc rfl rfl trivial))
            · intro s50 r2 h hG; refine A.join (fun (s119 : Unit) => [(5, VB y1), (8, VF (List.map api_Waiting.enc s50.1)), (9, .row 900000 1 s50.2.2.1.length), (10, .row 900001 1 s50.2.2.2.length)]) (fun s119 => [(900000, .rows 4 (List.map api_Waiting.enc s50.2.2.1) false), (900001, .rows 1 (List.map (encI .i64) s50.2.2.2) false)]) _ h hG rfl ?_ ?_
              · intro J f h hG; refine Zac 6 rfl ?_; refine A.loop (fun (s120 : Int) => [(5, VB y1), (8, VF (List.map api_Waiting.enc s50.1)), (9, .row 900000 1 s50.2.2.1.length), (10, .row 900001 1 s50.2.2.2.length), (11, VI s50.2.1), (20, VI s120)]) (fun s120 => [(900000, .rows 4 (List.map api_Waiting.enc s50.2.2.1) false), (900001, .rows 1 (List.map (encI .i64) s50.2.2.2) false)]) _ h hG (Zf [] [(900000, (900000, 1)), (900001, (900001, 1))] rfl rfl (Ze rfl rfl (Ze rfl rfl (Ze rfl rfl (Ze rfl rfl (Ze rfl rfl (Ze rfl rfl trivial)))))) (Zc rfl rfl (Zc rfl rfl trivial))) ?_; intro J s120 f h hG; unfold law30_QueueTimely_L5 at h; refine Zap 4 rfl ?_; refine Zo (.row 900000 1 s50.2.2.1.length) rfl rfl ?_; refine Zpc 4 rfl ?_; refine A.condB rfl h (fun _ h => ?_) (fun _ h => ?_)
                · refine Zcc 2 rfl ?_; refine A.join (fun (s138 : Unit) => [(5, VB y1), (8, VF (List.map api_Waiting.enc s50.1)), (9, .row 900000 1 s50.2.2.1.length), (10, .row 900001 1 s50.2.2.2.length), (11, VI s50.2.1), (20, VI s120)]) (fun s138 => [(900000, .rows 4 (List.map api_Waiting.enc s50.2.2.1) false), (900001, .rows 1 (List.map (encI .i64) s50.2.2.2) false)]) _ h hG rfl ?_ ?_
                  · intro J f h hG; refine Zac 6 rfl ?_; refine A.join (fun (s140 : Int) => [(5, VB y1), (8, VF (List.map api_Waiting.enc s50.1)), (9, .row 900000 1 s50.2.2.1.length), (10, .row 900001 1 s50.2.2.2.length), (11, VI s50.2.1), (20, VI s120), (21, VI s140)]) (fun s140 => [(900000, .rows 4 (List.map api_Waiting.enc s50.2.2.1) false), (900001, .rows 1 (List.map (encI .i64) s50.2.2.2) false)]) _ h hG rfl ?_ ?_
                    · intro J f h hG; refine Zac 6 rfl ?_; refine A.loop (fun (s141 : Int × Int) => [(5, VB y1), (8, VF (List.map api_Waiting.enc s50.1)), (9, .row 900000 1 s50.2.2.1.length), (10, .row 900001 1 s50.2.2.2.length), (11, VI s50.2.1), (20, VI s120), (21, VI s141.1), (22, VI s141.2)]) (fun s141 => [(900000, .rows 4 (List.map api_Waiting.enc s50.2.2.1) false), (900001, .rows 1 (List.map (encI .i64) s50.2.2.2) false)]) _ h hG (Zf [] [(900000, (900000, 1)), (900001, (900001, 1))] rfl rfl (Ze rfl rfl (Ze rfl rfl (Ze rfl rfl (Ze rfl rfl (Ze rfl rfl (Ze rfl rfl (Ze rfl rfl (Ze rfl rfl trivial)))))))) (Zc rfl rfl (Zc rfl rfl trivial))) ?_; intro J s141 f h hG; unfold law30_QueueTimely_L4 at h; refine Zap 4 rfl ?_; refine Zo (.row 900001 1 s50.2.2.2.length) rfl rfl ?_; refine Zpc 4 rfl ?_; refine A.condB rfl h (fun _ h => ?_) (fun _ h => ?_)
                      · refine Zcc 5 rfl ?_; refine A.regionD (by kernel_rfl) ?_; refine Zo (.row 900001 1 s50.2.2.2.length) rfl rfl ?_; refine Zpp 1 rfl ?_; refine Y1 rfl ?_; refine chkK h fun g1464 h => ?_; refine W.chk rfl (by simpa using g1464) ?_; refine W.det (.rp 900001 1 s141.2.toNat 0) _ rfl ?_; refine Y1 rfl ?_; refine bindK h fun x1465 hx1465 h => ?_; refine W.elem rfl (elemG hx1465) ?_; refine Zwp 1 rfl ?_; refine Zo (.row 900000 1 s50.2.2.1.length) rfl rfl ?_; refine Zpp 1 rfl ?_; refine Y1 rfl ?_; refine chkK h fun g1466 h => ?_; refine W.chk rfl (by simpa using g1466) ?_; refine W.det (.rp 900000 1 s120.toNat 0) _ rfl ?_; refine Zo (.rp 900000 1 s120.toNat 0) rfl rfl ?_; refine Y1 rfl ?_; refine bindK h fun x1467 hx1467 h => ?_; refine W.elem rfl (elemG hx1467) ?_; refine Zwc 4 rfl ?_; refine A.condB rfl h (fun _ h => ?_) (fun _ h => ?_)
                        · refine Zcb 12 rfl ?_; cases h; exact Zh hG [] [(900000, (900000, 1)), (900001, (900001, 1))] rfl rfl (Ze rfl rfl (Ze rfl rfl (Ze rfl rfl (Ze rfl rfl (Ze rfl rfl (Ze rfl rfl (Ze rfl rfl (Ze rfl rfl trivial)))))))) (Zc rfl rfl (Zc rfl rfl trivial))
                        · refine Zcb 8 rfl ?_; cases h; exact Zh hG [] [(900000, (900000, 1)), (900001, (900001, 1))] rfl rfl (Ze rfl rfl (Ze rfl rfl (Ze rfl rfl (Ze rfl rfl (Ze rfl rfl (Ze rfl rfl (Ze rfl rfl (Ze rfl rfl trivial)))))))) (Zc rfl rfl (Zc rfl rfl trivial))
                      · refine Zcb 2 rfl ?_; refine headK.e ?_; refine Zob 1 rfl ?_; cases h; exact Zh hG [] [(900000, (900000, 1)), (900001, (900001, 1))] rfl rfl (Ze rfl rfl (Ze rfl rfl (Ze rfl rfl (Ze rfl rfl (Ze rfl rfl (Ze rfl rfl (Ze rfl rfl trivial))))))) (Zc rfl rfl (Zc rfl rfl trivial))
                    · intro s140 r2 h hG; refine Zcp 5 rfl ?_; refine YF rfl rfl rfl h (fun _ h => ?_) (fun _ h => ?_)
                      · refine Zpb 33 rfl ?_; refine headK.r ?_; refine headK.r ?_; refine Zob 1 rfl ?_; refine headK.r ?_; cases h; cases hG; exact ⟨rfl, trivial⟩
                      · refine Zwp 3 rfl ?_; refine Zu (.row 900000 1 s50.2.2.1.length) rfl rfl rfl rfl ?_; refine Zpp 1 rfl ?_; refine Y2 rfl rfl rfl ?_; refine chkK h fun g1472 h => ?_; refine W.chk rfl (by simpa using g1472) ?_; refine W.det (.rp 900000 1 s120.toNat 0) _ rfl ?_; refine Zu (.rp 900000 1 s120.toNat 0) rfl rfl rfl rfl ?_; refine Y2 rfl rfl rfl ?_; refine bindK h fun x1473 hx1473 h => ?_; refine W.elem rfl (elemG hx1473) ?_; refine Zwp 1 rfl ?_; refine Y2 rfl rfl rfl ?_; refine bindK h fun y1474 hy1474 h => ?_; refine W.call rfl (law30_gone_fn hy1474) ?_; refine Zwp 4 rfl ?_; refine YF rfl rfl rfl h (fun _ h => ?_) (fun _ h => ?_)
                        · refine Zpb 21 rfl ?_; refine headK.r ?_; refine headK.r ?_; refine Zob 1 rfl ?_; refine headK.r ?_; cases h; cases hG; exact ⟨rfl, trivial⟩
                        · refine W.det (.row 900000 1 s50.2.2.1.length) _ rfl ?_; refine Zpp 1 rfl ?_; refine Y2 rfl rfl rfl ?_; refine W.chk rfl (by simpa using g1472) ?_; refine W.det (.rp 900000 1 s120.toNat 0) _ rfl ?_; refine Zu (.rp 900000 1 s120.toNat 3) rfl rfl rfl rfl ?_; refine Y2 rfl rfl rfl ?_; refine W.elem rfl (elemG hx1473) ?_; refine Zwp 4 rfl ?_; refine YT rfl rfl rfl h (fun _ h => ?_) (fun _ h => ?_)
                          · refine Zwc 6 rfl ?_; refine A.condB rfl h (fun _ h => ?_) (fun _ h => ?_)
                            · refine Zcb 7 rfl ?_; refine headK.r ?_; refine headK.r ?_; refine Zob 1 rfl ?_; refine headK.r ?_; cases h; cases hG; exact ⟨rfl, trivial⟩
                            · refine Zcb 2 rfl ?_; cases h; exact Zh hG [] [(900000, (900000, 1)), (900001, (900001, 1))] rfl rfl (Ze rfl rfl (Ze rfl rfl (Ze rfl rfl (Ze rfl rfl (Ze rfl rfl (Ze rfl rfl trivial)))))) (Zc rfl rfl (Zc rfl rfl trivial))
                          · refine Zpb 8 rfl ?_; cases h; exact Zh hG [] [(900000, (900000, 1)), (900001, (900001, 1))] rfl rfl (Ze rfl rfl (Ze rfl rfl (Ze rfl rfl (Ze rfl rfl (Ze rfl rfl (Ze rfl rfl trivial)))))) (Zc rfl rfl (Zc rfl rfl trivial))
                  · intro s138 r2 h hG; refine Zcb 5 rfl ?_; cases h; exact Zh hG [] [(900000, (900000, 1)), (900001, (900001, 1))] rfl rfl (Ze rfl rfl (Ze rfl rfl (Ze rfl rfl (Ze rfl rfl (Ze rfl rfl (Ze rfl rfl trivial)))))) (Zc rfl rfl (Zc rfl rfl trivial))
                · refine Zcb 2 rfl ?_; refine headK.e ?_; refine Zob 1 rfl ?_; cases h; exact Zh hG [] [(900000, (900000, 1)), (900001, (900001, 1))] rfl rfl (Ze rfl rfl (Ze rfl rfl (Ze rfl rfl (Ze rfl rfl trivial)))) (Zc rfl rfl (Zc rfl rfl trivial))
              · intro s119 r2 h hG; refine Zcp 4 rfl ?_; refine YT rfl rfl rfl h (fun _ h => ?_) (fun _ h => ?_)
                · refine W.det (.row 900001 1 s50.2.2.2.length) _ rfl ?_; refine Zpp 2 rfl ?_; refine Y2 rfl rfl rfl ?_; refine W.len rfl ?_; refine Zpp 1 rfl ?_; refine Zu (.row 900000 1 s50.2.2.1.length) rfl rfl rfl rfl ?_; refine Zpb 7 rfl ?_; cases h; cases hG; exact ⟨rfl, trivial⟩
                · refine Zpb 12 rfl ?_; cases h; cases hG; exact ⟨rfl, trivial⟩
end Go.Proofs.Ytbijnfgjcbfpmaa

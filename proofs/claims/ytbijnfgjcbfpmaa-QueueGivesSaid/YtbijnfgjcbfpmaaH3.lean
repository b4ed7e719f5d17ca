/-
  Plain programs of functions, and that the functions do what they say. Printed by wip/tools/gen.py.
-/
import Derived.Test.YtbijnfgjcbfpmaaG3
namespace Go.Proofs.Ytbijnfgjcbfpmaa
open Go.RowKit
attribute [local irreducible] IntKind.wrap AW runL Step.wp
set_option linter.unusedVariables false
set_option maxHeartbeats 4000000
set_option maxRecDepth 100000
noncomputable def law30_QueueGives_L1 (p1_ : (List api_Waiting)) (p2_ : Int) (s42 : (Int × Int)) (y14 : (List Int) × (List api_Waiting)) (s77 : (Int × Int)) (s81 : Int) : Option ((Int) ⊕ ((Int) ⊕ ((Int × Int) ⊕ ((Int) ⊕ (Bool))))) :=
  (bif (decide (s81 < (p1_.length : Int))) then
    (getI p1_ s81).bind fun x1092 =>
    (bif (x1092.Net == p2_) then
      (getI p1_ s42.2).bind fun x1093 =>
      (law30_first x1092 x1093).bind fun y1094 =>
      (bif y1094 then
        (law30_has y14.1 x1092 p2_).bind fun y1095 =>
        (bif (!y1095) then
          some (.inr (.inr (.inr (.inr false))))
        else
          some (.inl (IntKind.i64.wrap (s81 + (1 : Int)))))
      else
        some (.inl (IntKind.i64.wrap (s81 + (1 : Int)))))
    else
      some (.inl (IntKind.i64.wrap (s81 + (1 : Int)))))
  else
    some (.inr (.inl s77.1)))
noncomputable def law30_QueueGives_L2 (p1_ : (List api_Waiting)) (y14 : (List Int) × (List api_Waiting)) (p2_ : Int) (s42 : Int × Int) : Option ((Int × Int) ⊕ ((Int) ⊕ (Bool))) :=
  (bif (decide (s42.2 < (p1_.length : Int))) then
    (seqF (A := Int) (
      (seqF (A := Int × Int) (
        (seqF (A := Bool) (
          (bif (decide (s42.1 < ((y14.2.length : Nat) : Int))) then
            (chkO (decide (0 ≤ s42.1) && decide (s42.1 < ((y14.2.length : Nat) : Int)))).bind fun _ =>
            (getI y14.2 s42.1).bind fun x1025 =>
            (getI p1_ s42.2).bind fun x1026 =>
            (bif (x1025.Event == x1026.Event) then
              some (.inl (x1025.Net == x1026.Net))
            else
              some (.inl false))
          else
            some (.inl false)))
        fun s78 =>
          (bif s78 then
            (chkO (decide (0 ≤ s42.1) && decide (s42.1 < ((y14.2.length : Nat) : Int)))).bind fun _ =>
            (getI y14.2 s42.1).bind fun x1029 =>
            (getI p1_ s42.2).bind fun x1033 =>
            (bif (x1029.Due != x1033.Due) then
              some (.inr (.inr (.inr (.inr false))))
            else
              some (.inl ((IntKind.i64.wrap (s42.1 + (1 : Int))), x1029.Left)))
          else
            some (.inl (s42.1, (0 : Int))))))
      fun s77 =>
        (seqF (A := Unit) (
          (getI p1_ s42.2).bind fun x1043 =>
          (bif (x1043.Net != p2_) then
            (bif (s77.2 != x1043.Left) then
              some (.inr (.inr (.inr (.inr false))))
            else
              (bif (decide (s77.2 < (0 : Int))) then
                some (.inr (.inr (.inr (.inr false))))
              else
                (bif (decide (x1043.Left < s77.2)) then
                  some (.inr (.inr (.inr (.inr false))))
                else
                  (law30_has y14.1 x1043 p2_).bind fun y1044 =>
                  (bif (!((s77.2 == (0 : Int)) == y1044)) then
                    some (.inr (.inr (.inr (.inr false))))
                  else
                    some (.inl ())))))
          else
            (bif (decide (s77.2 < (0 : Int))) then
              some (.inr (.inr (.inr (.inr false))))
            else
              (bif (decide (x1043.Left < s77.2)) then
                some (.inr (.inr (.inr (.inr false))))
              else
                (law30_has y14.1 x1043 p2_).bind fun y1045 =>
                (bif (!((s77.2 == (0 : Int)) == y1045)) then
                  some (.inr (.inr (.inr (.inr false))))
                else
                  some (.inl ()))))))
        fun s79 =>
          (seqF (A := Bool) (
            (getI p1_ s42.2).bind fun x1047 =>
            (bif (x1047.Net == p2_) then
              some (.inl (decide (s77.2 < x1047.Left)))
            else
              some (.inl false)))
          fun s80 =>
            (bif s80 then
              loopF (law30_QueueGives_L1 p1_ p2_ s42 y14 s77) (0 : Int)
            else
              some (.inl s77.1))))))
    fun s75 =>
      some (.inl (s75, (IntKind.i64.wrap (s42.2 + (1 : Int))))))
  else
    some (.inr (.inl s42.1)))
noncomputable def law30_QueueGives (p_ : api_Profile) (p1_ : (List api_Waiting)) (p2_ : Int) : Option (Bool) :=
  (law30_small).bind fun y1 =>
  (ref30_Few p_ p1_ (30 : Int)).bind fun y11 =>
  (bif (!y11) then
    some y1
  else
    (profile_Check p_).bind fun y12 =>
    (bif (y12 != (0 : Int)) then
      some y1
    else
      (ref30_Right p1_).bind fun y13 =>
      (bif (!y13) then
        some y1
      else
        (queue_Step p_ p2_ p1_ true).bind fun y14 =>
        (queue_Step p_ p2_ p1_ false).bind fun y15 =>
        (bif (decide ((0 : Int) < ((y15.1.length : Nat) : Int))) then
          some false
        else
          (ref30_Same y15.2 p1_).bind fun y28 =>
          (bif (!y28) then
            some false
          else
            (law30_total p1_ p2_).bind fun y29 =>
            (law30_total y14.2 p2_).bind fun y30 =>
            (law30_total p1_ p2_).bind fun y31 =>
            (bif ((IntKind.i64.wrap (y29 - y30)) != (if y31 < p_.Rate then y31 else p_.Rate)) then
              some false
            else
              (bif ((IntKind.i64.wrap (((y14.1.length : Nat) : Int) + ((y14.2.length : Nat) : Int))) != (p1_.length : Int)) then
                some false
              else
                (seqF (A := Int) (
                  loopF (law30_QueueGives_L2 p1_ y14 p2_) ((0 : Int), (0 : Int)))
                fun s41 =>
                  (bif y1 then
                    some (s41 == ((y14.2.length : Nat) : Int))
                  else
                    some false)))))))))
theorem law30_QueueGives_fn {p_ : api_Profile} {p1_ : (List api_Waiting)} {p2_ : Int} {r : Bool} (h : law30_QueueGives p_ p1_ p2_ = some r) : Fn Try.prog 3 [.agg (api_Profile.av p_), VF (List.map api_Waiting.enc p1_), VI p2_] (VB r) := by
  refine Fn.of_AW (F := FnX Try.prog) (base := 0) (js := [11, 14, 18, 20, 21, 26]) mixed tok noeqs (fun _ _ _ h => h) Try.call3 Try.func3 rfl Try.ntmps3 (by rw [Try.results3]) (by simp) ?_; have hG : (fun x => x = r) r := rfl; unfold law30_QueueGives at h; refine Zap 2 rfl ?_; refine Zm (.lp 3 1 0) (Mem.add _ 3 (.box (api_Profile.av p_))) rfl rfl ?_; refine Zpp 5 rfl ?_; refine Y1 rfl ?_; refine bindK h fun y1 hy1 h => ?_; refine W.call rfl (law30_small_fn hy1) ?_; refine Zwp 7 rfl ?_; refine Zo (.agg (api_Profile.av p_)) rfl rfl ?_; refine Zpp 1 rfl ?_; refine Y1 rfl ?_; refine bindK h fun y11 hy11 h => ?_; refine W.call rfl (ref30_Few_fn hy11) ?_; refine Zwp 3 rfl ?_; refine YF rfl rfl rfl h (fun _ h => ?_) (fun _ h => ?_)
  · refine Zpb 19 rfl ?_; cases h; cases hG; exact ⟨rfl, trivial⟩
  · refine W.det (.agg (api_Profile.av p_)) _ rfl ?_; refine Y2 rfl rfl rfl ?_; refine bindK h fun y12 hy12 h => ?_; refine W.call rfl (profile_Check_fn hy12) ?_; refine Zwp 4 rfl ?_; refine YF rfl rfl rfl h (fun _ h => ?_) (fun _ h => ?_)
    · refine Zpb 14 rfl ?_; cases h; cases hG; exact ⟨rfl, trivial⟩
    · refine Zwp 1 rfl ?_; refine Y2 rfl rfl rfl ?_; refine bindK h fun y13 hy13 h => ?_; refine W.call rfl (ref30_Right_fn hy13) ?_; refine Zwc 5 rfl ?_; refine A.condB rfl h (fun _ h => ?_) (fun _ h => ?_)
      · refine Zcb 8 rfl ?_; cases h; cases hG; exact ⟨rfl, trivial⟩
      · refine Zcp 4 rfl ?_; refine Zo (.agg (api_Profile.av p_)) rfl rfl ?_; refine Zpp 2 rfl ?_; refine Y1 rfl ?_; refine bindK h fun y14 hy14 h => ?_; refine W.call rfl (queue_Step_fn hy14) ?_; refine W.v (.tup [.row 1048612 1 (List.map (encI .i64) y14.1).length, .row 2097188 1 (List.map api_Waiting.enc y14.2).length]) (.tup [.row 1048612 1 y14.1.length, .row 2097188 1 y14.2.length]) (Mem.add (Mem.add _ 1048612 (.rows 1 (List.map (encI .i64) y14.1) false)) 2097188 (.rows 4 (List.map api_Waiting.enc y14.2) false)) rfl (by simp only [List.length_map]) ?_; refine Zo (.tup [.row 1048612 1 y14.1.length, .row 2097188 1 y14.2.length]) rfl rfl ?_; refine Zo (.row 1048612 1 y14.1.length) rfl rfl ?_; refine Zo (.row 2097188 1 y14.2.length) rfl rfl ?_; refine Zo (.row 1048612 1 y14.1.length) rfl rfl ?_; refine Zo (.row 2097188 1 y14.2.length) rfl rfl ?_; refine Zpp 4 rfl ?_; refine Zo (.agg (api_Profile.av p_)) rfl rfl ?_; refine Zpp 2 rfl ?_; refine Y1 rfl ?_; refine bindK h fun y15 hy15 h => ?_; refine W.call rfl (queue_Step_fn hy15) ?_; refine W.v (.tup [.row 1048619 1 (List.map (encI .i64) y15.1).length, .row 2097195 1 (List.map api_Waiting.enc y15.2).length]) (.tup [.row 1048619 1 y15.1.length, .row 2097195 1 y15.2.length]) (Mem.add (Mem.add _ 1048619 (.rows 1 (List.map (encI .i64) y15.1) false)) 2097195 (.rows 4 (List.map api_Waiting.enc y15.2) false)) rfl (by simp only [List.length_map]) ?_; refine Zo (.tup [.row 1048619 1 y15.1.length, .row 2097195 1 y15.2.length]) rfl rfl ?_; refine Zo (.row 1048619 1 y15.1.length) rfl rfl ?_; refine Zo (.row 2097195 1 y15.2.length) rfl rfl ?_; refine Zo (.row 1048619 1 y15.1.length) rfl rfl ?_; refine Zo (.row 2097195 1 y15.2.length) rfl rfl ?_; refine Zpc 4 rfl ?_; refine A.regionD (by kernel_rfl) ?_; refine Zo (.row 1048619 1 y15.1.length) rfl rfl ?_; refine Zpp 3 rfl ?_; refine YF rfl rfl rfl h (fun _ h => ?_) (fun _ h => ?_)
        · refine Zpb 40 rfl ?_; cases h; cases hG; exact ⟨rfl, trivial⟩
        · refine W.det (.row 2097195 1 y15.2.length) _ rfl ?_; refine Zpp 1 rfl ?_; refine Y2 rfl rfl rfl ?_; refine bindK h fun y28 hy28 h => ?_; refine W.call rfl (ref30_Same_fn hy28) ?_; refine Zwp 4 rfl ?_; refine YF rfl rfl rfl h (fun _ h => ?_) (fun _ h => ?_)
          · refine Zpb 34 rfl ?_; cases h; cases hG; exact ⟨rfl, trivial⟩
          · refine Zwp 2 rfl ?_; refine Y2 rfl rfl rfl ?_; refine bindK h fun y29 hy29 h => ?_; refine W.call rfl (law30_total_fn hy29) ?_; refine Zwp 1 rfl ?_; refine Zu (.row 2097188 1 y14.2.length) rfl rfl rfl rfl ?_; refine Zpp 1 rfl ?_; refine Y2 rfl rfl rfl ?_; refine bindK h fun y30 hy30 h => ?_; refine W.call rfl (law30_total_fn hy30) ?_; refine Zwp 6 rfl ?_; refine Y2 rfl rfl rfl ?_; refine bindK h fun y31 hy31 h => ?_; refine W.call rfl (law30_total_fn hy31) ?_; refine Zwp 5 rfl ?_; refine YF rfl rfl rfl h (fun _ h => ?_) (fun _ h => ?_)
            · refine Zpb 18 rfl ?_; cases h; cases hG; exact ⟨rfl, trivial⟩
            · refine W.det (.row 1048612 1 y14.1.length) _ rfl ?_; refine Zpp 1 rfl ?_; refine Zu (.row 2097188 1 y14.2.length) rfl rfl rfl rfl ?_; refine Zpp 3 rfl ?_; refine Y2 rfl rfl rfl ?_; refine W.len rfl ?_; refine Zpc 4 rfl ?_; refine A.condB rfl h (fun _ h => ?_) (fun _ h => ?_)
              · refine Zcb 7 rfl ?_; cases h; cases hG; exact ⟨rfl, trivial⟩
              · refine Zcc 7 rfl ?_; refine A.join (fun (s41 : Int) => [(7, VB y1), (9, .row 900000 1 y14.2.length), (12, VI s41)]) (fun s41 => [(900000, .rows 4 (List.map api_Waiting.enc y14.2) false)]) _ h hG rfl ?_ ?_
                · intro J f h hG; refine Zac 6 rfl ?_; refine A.loop (fun (s42 : Int × Int) => [(1, VF (List.map api_Waiting.enc p1_)), (2, VI p2_), (7, VB y1), (8, .row 900000 1 y14.1.length), (9, .row 900001 1 y14.2.length), (12, VI s42.1), (13, VI s42.2)]) (fun s42 => [(900000, .rows 1 (List.map (encI .i64) y14.1) false), (900001, .rows 4 (List.map api_Waiting.enc y14.2) false)]) _ h hG (Zf [] [(900000, (1048612, 1)), (900001, (2097188, 1))] rfl rfl (Ze rfl rfl (Ze rfl rfl (Ze rfl rfl (Ze rfl rfl (Ze rfl rfl (Ze rfl rfl (Ze rfl rfl trivial))))))) (Zc rfl rfl (Zc rfl rfl trivial))) ?_; intro J s42 f h hG; unfold law30_QueueGives_L2 at h; refine Zap 5 rfl ?_; refine Y1 rfl ?_; refine W.len rfl ?_; refine Zpc 3 rfl ?_; refine A.condB rfl h (fun _ h => ?_) (fun _ h => ?_)
                  · refine Zcc 2 rfl ?_; refine A.join (fun (s75 : Int) => [(1, VF (List.map api_Waiting.enc p1_)), (2, VI p2_), (7, VB y1), (8, .row 900000 1 y14.1.length), (9, .row 900001 1 y14.2.length), (12, VI s75), (13, VI s42.2)]) (fun s75 => [(900000, .rows 1 (List.map (encI .i64) y14.1) false), (900001, .rows 4 (List.map api_Waiting.enc y14.2) false)]) _ h hG rfl ?_ ?_
                    · intro J f h hG; refine Zac 6 rfl ?_; refine A.join (fun (s77 : Int × Int) => [(1, VF (List.map api_Waiting.enc p1_)), (2, VI p2_), (7, VB y1), (8, .row 900000 1 y14.1.length), (9, .row 900001 1 y14.2.length), (12, VI s77.1), (13, VI s42.2), (14, VI s77.2)]) (fun s77 => [(900000, .rows 1 (List.map (encI .i64) y14.1) false), (900001, .rows 4 (List.map api_Waiting.enc y14.2) false)]) _ h hG rfl ?_ ?_
                      · intro J f h hG; refine Za ?_; refine A.join (fun (s78 : Bool) => [(1, VF (List.map api_Waiting.enc p1_)), (2, VI p2_), (7, VB y1), (8, .row 900000 1 y14.1.length), (9, .row 900001 1 y14.2.length), (12, VI s42.1), (13, VI s42.2), (14, VI 0), (116, VB s78)]) (fun s78 => [(900000, .rows 1 (List.map (encI .i64) y14.1) false), (900001, .rows 4 (List.map api_Waiting.enc y14.2) false)]) _ h hG rfl ?_ ?_
                        · intro J f h hG; refine Za ?_; refine A.regionD (by kernel_rfl) ?_; refine Zpp 1 rfl ?_; refine Zo (.row 900001 1 y14.2.length) rfl rfl ?_; refine Zpp 3 rfl ?_; refine YT rfl rfl rfl h (fun _ h => ?_) (fun _ h => ?_)
                          · refine W.det (.row 900001 1 y14.2.length) _ rfl ?_; refine Zpp 1 rfl ?_; refine Y2 rfl rfl rfl ?_; refine chkK h fun g1024 h => ?_; refine W.chk rfl (by simpa using g1024) ?_; refine W.det (.rp 900001 1 s42.1.toNat 0) _ rfl ?_; refine Zu (.rp 900001 1 s42.1.toNat 0) rfl rfl rfl rfl ?_; refine Y2 rfl rfl rfl ?_; refine bindK h fun x1025 hx1025 h => ?_; refine W.elem rfl (elemG hx1025) ?_; refine Zwp 3 rfl ?_; refine Y2 rfl rfl rfl ?_; refine bindK h fun x1026 hx1026 h => ?_; refine W.chk rfl (elemB hx1026) ?_; refine W.elem rfl (elemG hx1026) ?_; refine W.chk rfl rfl ?_; refine W.det (.fp [.v (.int .i64 x1026.Event), .v (.int .i64 x1026.Net), .v (.int .i64 x1026.Left), .v (.int .i64 x1026.Due)]) _ rfl ?_; refine Zu (.fp [.v (.int .i64 x1026.Event), .v (.int .i64 x1026.Net), .v (.int .i64 x1026.Left), .v (.int .i64 x1026.Due)]) rfl rfl rfl rfl ?_; refine Zpp 4 rfl ?_; refine YT rfl rfl rfl h (fun _ h => ?_) (fun _ h => ?_)
                            · refine W.det (.row 900001 1 y14.2.length) _ rfl ?_; refine Zpp 1 rfl ?_; refine Y2 rfl rfl rfl ?_; refine W.chk rfl (by simpa using g1024) ?_; refine W.det (.rp 900001 1 s42.1.toNat 0) _ rfl ?_; refine Zu (.rp 900001 1 s42.1.toNat 1) rfl rfl rfl rfl ?_; refine Y2 rfl rfl rfl ?_; refine W.elem rfl (elemG hx1025) ?_; refine Zwp 3 rfl ?_; refine Y2 rfl rfl rfl ?_; refine W.chk rfl (elemB hx1026) ?_; refine W.elem rfl (elemG hx1026) ?_; refine W.chk rfl rfl ?_; refine W.det (.fp [.v (.int .i64 x1026.Event), .v (.int .i64 x1026.Net), .v (.int .i64 x1026.Left), .v (.int .i64 x1026.Due)]) _ rfl ?_; refine Zu (.fp [.v (.int .i64 x1026.Net), .v (.int .i64 x1026.Left), .v (.int .i64 x1026.Due)]) rfl rfl rfl rfl ?_; refine Zpb 4 rfl ?_; cases h; exact Zh hG [] [(900000, (900000, 1)), (900001, (900001, 1))] rfl rfl (Ze rfl rfl (Ze rfl rfl (Ze rfl rfl (Ze rfl rfl (Ze rfl rfl (Ze rfl rfl (Ze rfl rfl (Ze rfl rfl (Ze rfl rfl trivial))))))))) (Zc rfl rfl (Zc rfl rfl trivial))
                            · refine Zpb 12 rfl ?_; cases h; exact Zh hG [] [(900000, (900000, 1)), (900001, (900001, 1))] rfl rfl (Ze rfl rfl (Ze rfl rfl (Ze rfl rfl (Ze rfl rfl (Ze rfl rfl (Ze rfl rfl (Ze rfl rfl (Ze rfl rfl (Ze rfl rfl trivial))))))))) (Zc rfl rfl (Zc rfl rfl trivial))
                          · refine Zpb 25 rfl ?_; cases h; exact Zh hG [] [(900000, (900000, 1)), (900001, (900001, 1))] rfl rfl (Ze rfl rfl (Ze rfl rfl (Ze rfl rfl (Ze rfl rfl (Ze rfl rfl (Ze rfl rfl (Ze rfl rfl (Ze rfl rfl (Ze rfl rfl trivial))))))))) (Zc rfl rfl (Zc rfl rfl trivial))
                        · intro s78 r2 h hG; refine A.condB rfl h (fun _ h => ?_) (fun _ h => ?_)
                          · refine Zcp 2 rfl ?_; refine Zo (.row 900001 1 y14.2.length) rfl rfl ?_; refine Zpp 1 rfl ?_; refine Y1 rfl ?_; refine chkK h fun g1028 h => ?_; refine W.chk rfl (by simpa using g1028) ?_; refine W.det (.rp 900001 1 s42.1.toNat 0) _ rfl ?_; refine Zo (.rp 900001 1 s42.1.toNat 2) rfl rfl ?_; refine Y1 rfl ?_; refine bindK h fun x1029 hx1029 h => ?_; refine W.elem rfl (elemG hx1029) ?_; refine Zwc 6 rfl ?_; refine A.regionD (by kernel_rfl) ?_; refine Zo (.row 900001 1 y14.2.length) rfl rfl ?_; refine Zpp 1 rfl ?_; refine Y1 rfl ?_; refine W.chk rfl (by simpa using g1028) ?_; refine W.det (.rp 900001 1 s42.1.toNat 0) _ rfl ?_; refine Zo (.rp 900001 1 s42.1.toNat 3) rfl rfl ?_; refine Y1 rfl ?_; refine W.elem rfl (elemG hx1029) ?_; refine Zwp 3 rfl ?_; refine Y1 rfl ?_; refine bindK h fun x1033 hx1033 h => ?_; refine W.chk rfl (elemB hx1033) ?_; refine W.elem rfl (elemG hx1033) ?_; refine W.chk rfl rfl ?_; refine W.det (.fp [.v (.int .i64 x1033.Event), .v (.int .i64 x1033.Net), .v (.int .i64 x1033.Left), .v (.int .i64 x1033.Due)]) _ rfl ?_; refine Zo (.fp [.v (.int .i64 x1033.Due)]) rfl rfl ?_; refine Zpc 4 rfl ?_; refine A.condB rfl h (fun _ h => ?_) (fun _ h => ?_)
                            · refine Zcb 7 rfl ?_; refine headK.r ?_; refine Zob 1 rfl ?_; refine headK.r ?_; refine headK.r ?_; refine Zob 1 rfl ?_; refine headK.r ?_; cases h; cases hG; exact ⟨rfl, trivial⟩
                            · refine Zcb 7 rfl ?_; cases h; exact Zh hG [] [(900000, (900000, 1)), (900001, (900001, 1))] rfl rfl (Ze rfl rfl (Ze rfl rfl (Ze rfl rfl (Ze rfl rfl (Ze rfl rfl (Ze rfl rfl (Ze rfl rfl (Ze rfl rfl trivial)))))))) (Zc rfl rfl (Zc rfl rfl trivial))
                          · refine Zcb 1 rfl ?_; cases h; exact Zh hG [] [(900000, (900000, 1)), (900001, (900001, 1))] rfl rfl (Ze rfl rfl (Ze rfl rfl (Ze rfl rfl (Ze rfl rfl (Ze rfl rfl (Ze rfl rfl (Ze rfl rfl (Ze rfl rfl trivial)))))))) (Zc rfl rfl (Zc rfl rfl trivial))
                      · intro s77 r2 h hG; refine A.join (fun (s79 : Unit) => [(1, VF (List.map api_Waiting.enc p1_)), (2, VI p2_), (7, VB y1), (8, .row 900000 1 y14.1.length), (9, .row 900001 1 y14.2.length), (12, VI s77.1), (13, VI s42.2), (14, VI s77.2)]) (fun s79 => [(900000, .rows 1 (List.map (encI .i64) y14.1) false), (900001, .rows 4 (List.map api_Waiting.enc y14.2) false)]) _ h hG rfl ?_ ?_
                        · intro J f h hG; refine Zap 4 rfl ?_; refine Y1 rfl ?_; refine bindK h fun x1043 hx1043 h => ?_; refine W.chk rfl (elemB hx1043) ?_; refine W.elem rfl (elemG hx1043) ?_; refine W.chk rfl rfl ?_; refine W.det (.fp [.v (.int .i64 x1043.Event), .v (.int .i64 x1043.Net), .v (.int .i64 x1043.Left), .v (.int .i64 x1043.Due)]) _ rfl ?_; refine Zo (.fp [.v (.int .i64 x1043.Net), .v (.int .i64 x1043.Left), .v (.int .i64 x1043.Due)]) rfl rfl ?_; refine Zpp 4 rfl ?_; refine YT rfl rfl rfl h (fun _ h => ?_) (fun _ h => ?_)
                          · refine Zwp 3 rfl ?_; refine Y2 rfl rfl rfl ?_; refine W.chk rfl (elemB hx1043) ?_; refine W.elem rfl (elemG hx1043) ?_; refine W.chk rfl rfl ?_; refine W.det (.fp [.v (.int .i64 x1043.Event), .v (.int .i64 x1043.Net), .v (.int .i64 x1043.Left), .v (.int .i64 x1043.Due)]) _ rfl ?_; refine Zu (.fp [.v (.int .i64 x1043.Left), .v (.int .i64 x1043.Due)]) rfl rfl rfl rfl ?_; refine Zpp 4 rfl ?_; refine YF rfl rfl rfl h (fun _ h => ?_) (fun _ h => ?_)
                            · refine Zpb 32 rfl ?_; refine headK.r ?_; refine Zob 1 rfl ?_; refine headK.r ?_; refine headK.r ?_; refine Zob 1 rfl ?_; refine headK.r ?_; cases h; cases hG; exact ⟨rfl, trivial⟩
                            · refine Zwp 4 rfl ?_; refine YF rfl rfl rfl h (fun _ h => ?_) (fun _ h => ?_)
                              · refine Zpb 28 rfl ?_; refine headK.r ?_; refine Zob 1 rfl ?_; refine headK.r ?_; refine headK.r ?_; refine Zob 1 rfl ?_; refine headK.r ?_; cases h; cases hG; exact ⟨rfl, trivial⟩
                              · refine Zwp 3 rfl ?_; refine Y2 rfl rfl rfl ?_; refine W.chk rfl (elemB hx1043) ?_; refine W.elem rfl (elemG hx1043) ?_; refine W.chk rfl rfl ?_; refine W.det (.fp [.v (.int .i64 x1043.Event), .v (.int .i64 x1043.Net), .v (.int .i64 x1043.Left), .v (.int .i64 x1043.Due)]) _ rfl ?_; refine Zu (.fp [.v (.int .i64 x1043.Left), .v (.int .i64 x1043.Due)]) rfl rfl rfl rfl ?_; refine Zpp 4 rfl ?_; refine YF rfl rfl rfl h (fun _ h => ?_) (fun _ h => ?_)
                                · refine Zpb 19 rfl ?_; refine headK.r ?_; refine Zob 1 rfl ?_; refine headK.r ?_; refine headK.r ?_; refine Zob 1 rfl ?_; refine headK.r ?_; cases h; cases hG; exact ⟨rfl, trivial⟩
                                · refine Zwp 2 rfl ?_; refine Zu (.row 900000 1 y14.1.length) rfl rfl rfl rfl ?_; refine Zpp 2 rfl ?_; refine Y2 rfl rfl rfl ?_; refine W.chk rfl (elemB hx1043) ?_; refine W.elem rfl (elemG hx1043) ?_; refine W.chk rfl rfl ?_; refine W.det (.fp [.v (.int .i64 x1043.Event), .v (.int .i64 x1043.Net), .v (.int .i64 x1043.Left), .v (.int .i64 x1043.Due)]) _ rfl ?_; refine Zu (.agg (api_Waiting.av x1043)) rfl rfl rfl rfl ?_; refine Zpp 1 rfl ?_; refine Y2 rfl rfl rfl ?_; refine bindK h fun y1044 hy1044 h => ?_; refine W.call rfl (law30_has_fn hy1044) ?_; refine Zwc 5 rfl ?_; refine A.condB rfl h (fun _ h => ?_) (fun _ h => ?_)
                                  · refine Zcb 6 rfl ?_; refine headK.r ?_; refine Zob 1 rfl ?_; refine headK.r ?_; refine headK.r ?_; refine Zob 1 rfl ?_; refine headK.r ?_; cases h; cases hG; exact ⟨rfl, trivial⟩
                                  · refine Zcb 1 rfl ?_; cases h; exact Zh hG [] [(900000, (900000, 1)), (900001, (900001, 1))] rfl rfl (Ze rfl rfl (Ze rfl rfl (Ze rfl rfl (Ze rfl rfl (Ze rfl rfl (Ze rfl rfl (Ze rfl rfl (Ze rfl rfl trivial)))))))) (Zc rfl rfl (Zc rfl rfl trivial))
                          · refine Zpp 12 rfl ?_; refine YF rfl rfl rfl h (fun _ h => ?_) (fun _ h => ?_)
                            · refine Zpb 28 rfl ?_; refine headK.r ?_; refine Zob 1 rfl ?_; refine headK.r ?_; refine headK.r ?_; refine Zob 1 rfl ?_; refine headK.r ?_; cases h; cases hG; exact ⟨rfl, trivial⟩
                            · refine Zwp 3 rfl ?_; refine Y2 rfl rfl rfl ?_; refine W.chk rfl (elemB hx1043) ?_; refine W.elem rfl (elemG hx1043) ?_; refine W.chk rfl rfl ?_; refine W.det (.fp [.v (.int .i64 x1043.Event), .v (.int .i64 x1043.Net), .v (.int .i64 x1043.Left), .v (.int .i64 x1043.Due)]) _ rfl ?_; refine Zu (.fp [.v (.int .i64 x1043.Left), .v (.int .i64 x1043.Due)]) rfl rfl rfl rfl ?_; refine Zpp 4 rfl ?_; refine YF rfl rfl rfl h (fun _ h => ?_) (fun _ h => ?_)
                              · refine Zpb 19 rfl ?_; refine headK.r ?_; refine Zob 1 rfl ?_; refine headK.r ?_; refine headK.r ?_; refine Zob 1 rfl ?_; refine headK.r ?_; cases h; cases hG; exact ⟨rfl, trivial⟩
                              · refine Zwp 2 rfl ?_; refine Zu (.row 900000 1 y14.1.length) rfl rfl rfl rfl ?_; refine Zpp 2 rfl ?_; refine Y2 rfl rfl rfl ?_; refine W.chk rfl (elemB hx1043) ?_; refine W.elem rfl (elemG hx1043) ?_; refine W.chk rfl rfl ?_; refine W.det (.fp [.v (.int .i64 x1043.Event), .v (.int .i64 x1043.Net), .v (.int .i64 x1043.Left), .v (.int .i64 x1043.Due)]) _ rfl ?_; refine Zu (.agg (api_Waiting.av x1043)) rfl rfl rfl rfl ?_; refine Zpp 1 rfl ?_; refine Y2 rfl rfl rfl ?_; refine bindK h fun y1045 hy1045 h => ?_; refine W.call rfl (law30_has_fn hy1045) ?_; refine Zwc 5 rfl ?_; refine A.condB rfl h (fun _ h => ?_) (fun _ h => ?_)
                                · refine Zcb 6 rfl ?_; refine headK.r ?_; refine Zob 1 rfl ?_; refine headK.r ?_; refine headK.r ?_; refine Zob 1 rfl ?_; refine headK.r ?_; cases h; cases hG; exact ⟨rfl, trivial⟩
                                · refine Zcb 1 rfl ?_; cases h; exact Zh hG [] [(900000, (900000, 1)), (900001, (900001, 1))] rfl rfl (Ze rfl rfl (Ze rfl rfl (Ze rfl rfl (Ze rfl rfl (Ze rfl rfl (Ze rfl rfl (Ze rfl rfl (Ze rfl rfl trivial)))))))) (Zc rfl rfl (Zc rfl rfl trivial))
                        · intro s79 r2 h hG; refine A.join (fun (s80 : Bool) => [(1, VF (List.map api_Waiting.enc p1_)), (2, VI p2_), (7, VB y1), (8, .row 900000 1 y14.1.length), (9, .row 900001 1 y14.2.length), (12, VI s77.1), (13, VI s42.2), (191, VB s80)]) (fun s80 => [(900000, .rows 1 (List.map (encI .i64) y14.1) false), (900001, .rows 4 (List.map api_Waiting.enc y14.2) false)]) _ h hG rfl ?_ ?_
                          · intro J f h hG; refine Zap 3 rfl ?_; refine Y1 rfl ?_; refine bindK h fun x1047 hx1047 h => ?_; refine W.chk rfl (elemB hx1047) ?_; refine W.elem rfl (elemG hx1047) ?_; refine W.chk rfl rfl ?_; refine W.det (.fp [.v (.int .i64 x1047.Event), .v (.int .i64 x1047.Net), .v (.int .i64 x1047.Left), .v (.int .i64 x1047.Due)]) _ rfl ?_; refine Zo (.fp [.v (.int .i64 x1047.Net), .v (.int .i64 x1047.Left), .v (.int .i64 x1047.Due)]) rfl rfl ?_; refine Zpp 4 rfl ?_; refine YT rfl rfl rfl h (fun _ h => ?_) (fun _ h => ?_)
                            · refine Zwp 3 rfl ?_; refine Y2 rfl rfl rfl ?_; refine W.chk rfl (elemB hx1047) ?_; refine W.elem rfl (elemG hx1047) ?_; refine W.chk rfl rfl ?_; refine W.det (.fp [.v (.int .i64 x1047.Event), .v (.int .i64 x1047.Net), .v (.int .i64 x1047.Left), .v (.int .i64 x1047.Due)]) _ rfl ?_; refine Zu (.fp [.v (.int .i64 x1047.Left), .v (.int .i64 x1047.Due)]) rfl rfl rfl rfl ?_; refine Zpb 4 rfl ?_; cases h; exact Zh hG [] [(900000, (900000, 1)), (900001, (900001, 1))] rfl rfl (Ze rfl rfl (Ze rfl rfl (Ze rfl rfl (Ze rfl rfl (Ze rfl rfl (Ze rfl rfl (Ze rfl rfl (Ze rfl rfl trivial)))))))) (Zc rfl rfl (Zc rfl rfl trivial))
                            · refine Zpb 8 rfl ?_; cases h; exact Zh hG [] [(900000, (900000, 1)), (900001, (900001, 1))] rfl rfl (Ze rfl rfl (Ze rfl rfl (Ze rfl rfl (Ze rfl rfl (Ze rfl rfl (Ze rfl rfl (Ze rfl rfl (Ze rfl rfl trivial)))))))) (Zc rfl rfl (Zc rfl rfl trivial))
                          · intro s80 r2 h hG; refine A.condB rfl h (fun _ h => ?_) (fun _ h => ?_)
                            · refine Zcc 6 rfl ?_; refine A.loop (fun (s81 : Int) => [(1, VF (List.map api_Waiting.enc p1_)), (2, VI p2_), (7, VB y1), (8, .row 900000 1 y14.1.length), (9, .row 900001 1 y14.2.length), (12, VI s77.1), (13, VI s42.2), (15, VI s81)]) (fun s81 => [(900000, .rows 1 (List.map (encI .i64) y14.1) false), (900001, .rows 4 (List.map api_Waiting.enc y14.2) false)]) _ h hG (Zf [] [(900000, (900000, 1)), (900001, (900001, 1))] rfl rfl (Ze rfl rfl (Ze rfl rfl (Ze rfl rfl (Ze rfl rfl (Ze rfl rfl (Ze rfl rfl (Ze rfl rfl (Ze rfl rfl trivial)))))))) (Zc rfl rfl (Zc rfl rfl trivial))) ?_; intro J s81 f h hG; unfold law30_QueueGives_L1 at h; refine Zap 5 rfl ?_; refine Y1 rfl ?_; refine W.len rfl ?_; refine Zpc 3 rfl ?_; refine A.condB rfl h (fun _ h => ?_) (fun _ h => ?_)
                              · refine Zcc 5 rfl ?_; refine A.regionD (by kernel_rfl) ?_; refine Zpp 2 rfl ?_; refine Y1 rfl ?_; refine bindK h fun x1092 hx1092 h => ?_; refine W.chk rfl (elemB hx1092) ?_; refine W.elem rfl (elemG hx1092) ?_; refine W.chk rfl rfl ?_; refine W.det (.fp [.v (.int .i64 x1092.Event), .v (.int .i64 x1092.Net), .v (.int .i64 x1092.Left), .v (.int .i64 x1092.Due)]) _ rfl ?_; refine Zo (.fp [.v (.int .i64 x1092.Net), .v (.int .i64 x1092.Left), .v (.int .i64 x1092.Due)]) rfl rfl ?_; refine Zpp 4 rfl ?_; refine YT rfl rfl rfl h (fun _ h => ?_) (fun _ h => ?_)
                                · refine Zwp 2 rfl ?_; refine Y2 rfl rfl rfl ?_; refine W.chk rfl (elemB hx1092) ?_; refine W.elem rfl (elemG hx1092) ?_; refine W.chk rfl rfl ?_; refine W.det (.fp [.v (.int .i64 x1092.Event), .v (.int .i64 x1092.Net), .v (.int .i64 x1092.Left), .v (.int .i64 x1092.Due)]) _ rfl ?_; refine Zu (.agg (api_Waiting.av x1092)) rfl rfl rfl rfl ?_; refine Zpp 2 rfl ?_; refine Y2 rfl rfl rfl ?_; refine bindK h fun x1093 hx1093 h => ?_; refine W.chk rfl (elemB hx1093) ?_; refine W.elem rfl (elemG hx1093) ?_; refine W.chk rfl rfl ?_; refine W.det (.fp [.v (.int .i64 x1093.Event), .v (.int .i64 x1093.Net), .v (.int .i64 x1093.Left), .v (.int .i64 x1093.Due)]) _ rfl ?_; refine Zu (.agg (api_Waiting.av x1093)) rfl rfl rfl rfl ?_; refine Y2 rfl rfl rfl ?_; refine bindK h fun y1094 hy1094 h => ?_; refine W.call rfl (law30_first_fn hy1094) ?_; refine Zwp 3 rfl ?_; refine YT rfl rfl rfl h (fun _ h => ?_) (fun _ h => ?_)
                                  · refine W.det (.row 900000 1 y14.1.length) _ rfl ?_; refine Zpp 2 rfl ?_; refine Y2 rfl rfl rfl ?_; refine W.chk rfl (elemB hx1092) ?_; refine W.elem rfl (elemG hx1092) ?_; refine W.chk rfl rfl ?_; refine W.det (.fp [.v (.int .i64 x1092.Event), .v (.int .i64 x1092.Net), .v (.int .i64 x1092.Left), .v (.int .i64 x1092.Due)]) _ rfl ?_; refine Zu (.agg (api_Waiting.av x1092)) rfl rfl rfl rfl ?_; refine Zpp 1 rfl ?_; refine Y2 rfl rfl rfl ?_; refine bindK h fun y1095 hy1095 h => ?_; refine W.call rfl (law30_has_fn hy1095) ?_; refine Zwc 5 rfl ?_; refine A.condB rfl h (fun _ h => ?_) (fun _ h => ?_)
                                    · refine Zcb 8 rfl ?_; refine headK.r ?_; refine Zob 2 rfl ?_; refine headK.r ?_; refine headK.r ?_; refine Zob 1 rfl ?_; refine headK.r ?_; cases h; cases hG; exact ⟨rfl, trivial⟩
                                    · refine Zcb 8 rfl ?_; cases h; exact Zh hG [] [(900000, (900000, 1)), (900001, (900001, 1))] rfl rfl (Ze rfl rfl (Ze rfl rfl (Ze rfl rfl (Ze rfl rfl (Ze rfl rfl (Ze rfl rfl (Ze rfl rfl (Ze rfl rfl trivial)))))))) (Zc rfl rfl (Zc rfl rfl trivial))
                                  · refine Zpb 19 rfl ?_; cases h; exact Zh hG [] [(900000, (900000, 1)), (900001, (900001, 1))] rfl rfl (Ze rfl rfl (Ze rfl rfl (Ze rfl rfl (Ze rfl rfl (Ze rfl rfl (Ze rfl rfl (Ze rfl rfl (Ze rfl rfl trivial)))))))) (Zc rfl rfl (Zc rfl rfl trivial))
                                · refine Zpb 30 rfl ?_; cases h; exact Zh hG [] [(900000, (900000, 1)), (900001, (900001, 1))] rfl rfl (Ze rfl rfl (Ze rfl rfl (Ze rfl rfl (Ze rfl rfl (Ze rfl rfl (Ze rfl rfl (Ze rfl rfl (Ze rfl rfl trivial)))))))) (Zc rfl rfl (Zc rfl rfl trivial))
                              · refine Zcb 2 rfl ?_; refine headK.e ?_; refine Zob 2 rfl ?_; cases h; exact Zh hG [] [(900000, (900000, 1)), (900001, (900001, 1))] rfl rfl (Ze rfl rfl (Ze rfl rfl (Ze rfl rfl (Ze rfl rfl (Ze rfl rfl (Ze rfl rfl (Ze rfl rfl trivial))))))) (Zc rfl rfl (Zc rfl rfl trivial))
                            · refine Zcb 2 rfl ?_; cases h; exact Zh hG [] [(900000, (900000, 1)), (900001, (900001, 1))] rfl rfl (Ze rfl rfl (Ze rfl rfl (Ze rfl rfl (Ze rfl rfl (Ze rfl rfl (Ze rfl rfl (Ze rfl rfl trivial))))))) (Zc rfl rfl (Zc rfl rfl trivial))
                    · intro s75 r2 h hG; refine Zcb 5 rfl ?_; cases h; exact Zh hG [] [(900000, (900000, 1)), (900001, (900001, 1))] rfl rfl (Ze rfl rfl (Ze rfl rfl (Ze rfl rfl (Ze rfl rfl (Ze rfl rfl (Ze rfl rfl (Ze rfl rfl trivial))))))) (Zc rfl rfl (Zc rfl rfl trivial))
                  · refine Zcb 2 rfl ?_; refine headK.e ?_; refine Zob 1 rfl ?_; cases h; exact Zh hG [] [(900000, (900001, 1))] rfl rfl (Ze rfl rfl (Ze rfl rfl (Ze rfl rfl trivial))) (Zc rfl rfl trivial)
                · intro s41 r2 h hG; refine Zcp 4 rfl ?_; refine YT rfl rfl rfl h (fun _ h => ?_) (fun _ h => ?_)
                  · refine Zwp 1 rfl ?_; refine Zu (.row 900000 1 y14.2.length) rfl rfl rfl rfl ?_; refine Zpb 7 rfl ?_; cases h; cases hG; exact ⟨rfl, trivial⟩
                  · refine Zpb 8 rfl ?_; cases h; cases hG; exact ⟨rfl, trivial⟩
end Go.Proofs.Ytbijnfgjcbfpmaa

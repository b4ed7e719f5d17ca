/-
  Plain programs of functions, and that the functions do what they say. Printed by wip/tools/gen.py.
-/
import Derived.Test.YtomfmjejoocmmaaG2
namespace Go.Proofs.Ytomfmjejoocmmaa
open Go.RowKit
attribute [local irreducible] IntKind.wrap AW runL Step.wp
set_option linter.unusedVariables false
set_option maxHeartbeats 4000000
set_option maxRecDepth 100000
noncomputable def law44_DebtPlays_L1 (y4 : (List api_Debt)) (s3 : (List api_Debt) × Int) : Option (((List api_Debt) × Int) ⊕ (((List api_Debt)) ⊕ (Bool))) :=
  (bif (decide ((0 : Int) ≤ s3.2)) then
    (chkO (decide (0 ≤ s3.2) && decide (s3.2 < ((y4.length : Nat) : Int)))).bind fun _ =>
    (getI y4 s3.2).bind fun x62 =>
    (debt_Add s3.1 x62).bind fun y63 =>
    (debt_Add y63.1 x62).bind fun y65 =>
    (bif (y63.2 != (0 : Int)) then
      some (.inr (.inr false))
    else
      (bif (y65.2 != (5 : Int)) then
        some (.inr (.inr false))
      else
        some (.inl (y63.1, (IntKind.i64.wrap (s3.2 - (1 : Int)))))))
  else
    some (.inr (.inl s3.1)))
noncomputable def law44_DebtPlays_L2 (p3_ : (List api_Debt)) (s6 : (List api_Debt) × Int) : Option (((List api_Debt) × Int) ⊕ (((List api_Debt)) ⊕ (Bool))) :=
  (bif (decide (s6.2 < (p3_.length : Int))) then
    (getI p3_ s6.2).bind fun x90 =>
    (debt_Confirm s6.1 x90).bind fun y91 =>
    (bif (y91.2 == (0 : Int)) then
      some (.inl (y91.1, (IntKind.i64.wrap (s6.2 + (1 : Int)))))
    else
      some (.inl (s6.1, (IntKind.i64.wrap (s6.2 + (1 : Int))))))
  else
    some (.inr (.inl s6.1)))
noncomputable def law44_DebtPlays_L3 (p1_ : (List api_Sent)) (p_ : (List api_Event)) (p2_ : (List api_Order)) (s24 : (Int)) (x1722 : api_Order) (y5 : (List api_Debt)) (p3_ : (List api_Debt)) (s39 : Int) : Option ((Int) ⊕ ((Unit) ⊕ ((Int) ⊕ ((Unit) ⊕ (Bool))))) :=
  (bif (decide (s39 < (p1_.length : Int))) then
    (getI p1_ s39).bind fun x1848 =>
    (bif (decide (x1848.Event < (0 : Int))) then
      some (.inl (IntKind.i64.wrap (s39 + (1 : Int))))
    else
      (bif (decide ((p_.length : Int) ≤ x1848.Event)) then
        some (.inl (IntKind.i64.wrap (s39 + (1 : Int))))
      else
        (bif (decide (x1848.Net < (0 : Int))) then
          some (.inl (IntKind.i64.wrap (s39 + (1 : Int))))
        else
          (bif (decide ((12 : Int) ≤ x1848.Net)) then
            some (.inl (IntKind.i64.wrap (s39 + (1 : Int))))
          else
            (getI p2_ s24).bind fun x1850 =>
            (bif (decide (x1850.Step < x1848.Step)) then
              some (.inl (IntKind.i64.wrap (s39 + (1 : Int))))
            else
              (getI p_ x1848.Event).bind fun x1851 =>
              (bif (x1848.Event == x1722.Event) then
                (chkO (decide (0 + y5.length ≤ 1000000))).bind fun _ =>
                (chkO (decide ((([] : List api_Debt) ++ y5).length + p3_.length ≤ 1000000))).bind fun _ =>
                (ref44_Has ((([] : List api_Debt) ++ y5) ++ p3_) (api_Debt.mk x1722.Event x1848.Net)).bind fun y1857 =>
                (bif (!y1857) then
                  some (.inr (.inr (.inr (.inr false))))
                else
                  some (.inl (IntKind.i64.wrap (s39 + (1 : Int)))))
              else
                (bif (x1851.Target == x1722.Event) then
                  (chkO (decide (0 + y5.length ≤ 1000000))).bind fun _ =>
                  (chkO (decide ((([] : List api_Debt) ++ y5).length + p3_.length ≤ 1000000))).bind fun _ =>
                  (ref44_Has ((([] : List api_Debt) ++ y5) ++ p3_) (api_Debt.mk x1722.Event x1848.Net)).bind fun y1863 =>
                  (bif (!y1863) then
                    some (.inr (.inr (.inr (.inr false))))
                  else
                    some (.inl (IntKind.i64.wrap (s39 + (1 : Int)))))
                else
                  (bif (x1851.Quote == x1722.Event) then
                    (chkO (decide (0 + y5.length ≤ 1000000))).bind fun _ =>
                    (chkO (decide ((([] : List api_Debt) ++ y5).length + p3_.length ≤ 1000000))).bind fun _ =>
                    (ref44_Has ((([] : List api_Debt) ++ y5) ++ p3_) (api_Debt.mk x1722.Event x1848.Net)).bind fun y1869 =>
                    (bif (!y1869) then
                      some (.inr (.inr (.inr (.inr false))))
                    else
                      some (.inl (IntKind.i64.wrap (s39 + (1 : Int)))))
                  else
                    some (.inl (IntKind.i64.wrap (s39 + (1 : Int))))))))))))
  else
    some (.inr (.inl ())))
noncomputable def law44_DebtPlays_L4 (p2_ : (List api_Order)) (p_ : (List api_Event)) (y5 : (List api_Debt)) (p3_ : (List api_Debt)) (p1_ : (List api_Sent)) (s24 : Int) : Option ((Int) ⊕ ((Unit) ⊕ (Bool))) :=
  (bif (decide (s24 < (p2_.length : Int))) then
    (seqF (A := Unit) (
      (getI p2_ s24).bind fun x1722 =>
      (bif (decide (x1722.Event < (0 : Int))) then
        some (.inl ())
      else
        (bif (decide ((p_.length : Int) ≤ x1722.Event)) then
          some (.inl ())
        else
          (getI p_ x1722.Event).bind fun x1724 =>
          (bif (x1724.Kind != (0 : Int)) then
            some (.inl ())
          else
            (event_Net x1724.Author).bind fun y1725 =>
            (seqF (A := Unit) (
              (bif (decide ((0 : Int) ≤ y1725)) then
                (chkO (decide (0 + y5.length ≤ 1000000))).bind fun _ =>
                (chkO (decide ((([] : List api_Debt) ++ y5).length + p3_.length ≤ 1000000))).bind fun _ =>
                (ref44_Has ((([] : List api_Debt) ++ y5) ++ p3_) (api_Debt.mk x1722.Event y1725)).bind fun y1737 =>
                (bif (!y1737) then
                  some (.inr (.inr (.inr (.inr false))))
                else
                  some (.inl ()))
              else
                some (.inl ())))
            fun s38 =>
              loopF (law44_DebtPlays_L3 p1_ p_ p2_ s24 x1722 y5 p3_) (0 : Int))))))
    fun s37 =>
      some (.inl (IntKind.i64.wrap (s24 + (1 : Int)))))
  else
    some (.inr (.inl ())))
noncomputable def law44_DebtPlays (p_ : (List api_Event)) (p1_ : (List api_Sent)) (p2_ : (List api_Order)) (p3_ : (List api_Debt)) : Option (Bool) :=
  (law44_small).bind fun y1 =>
  (ref44_Few p_ p1_ p2_ p3_).bind fun y3 =>
  (bif (!y3) then
    some y1
  else
    (debt_Open p_ p1_ p2_ ([] : List api_Debt)).bind fun y4 =>
    (debt_Open p_ p1_ p2_ p3_).bind fun y5 =>
    (seqF (A := (List api_Debt)) (
      loopF (law44_DebtPlays_L1 y4) (([] : List api_Debt), (IntKind.i64.wrap (((y4.length : Nat) : Int) - (1 : Int)))))
    fun s2 =>
      (ref44_Same s2 y4).bind fun y67 =>
      (bif (!y67) then
        some false
      else
        (seqF (A := (List api_Debt)) (
          loopF (law44_DebtPlays_L2 p3_) (s2, (0 : Int)))
        fun s5 =>
          (ref44_Same s5 y5).bind fun y93 =>
          (bif (!y93) then
            some false
          else
            (seqF (A := Unit) (
              loopF (law44_DebtPlays_L4 p2_ p_ y5 p3_ p1_) (0 : Int))
            fun s23 =>
              some y1))))))
theorem law44_DebtPlays_fn {p_ : (List api_Event)} {p1_ : (List api_Sent)} {p2_ : (List api_Order)} {p3_ : (List api_Debt)} {r : Bool} (h : law44_DebtPlays p_ p1_ p2_ p3_ = some r) : Fn False Try.prog 4 [VF (List.map api_Event.enc p_), VF (List.map api_Sent.enc p1_), VF (List.map api_Order.enc p2_), VF (List.map api_Debt.enc p3_)] (VB r) := by
  refine Fn.of_AW (dr := False) (F := FnX False Try.prog) (base := 0) (js := [15, 23, 27, 34, 43]) mixed tok noeqs (fun _ _ _ h => h) Try.call4 Try.func4 rfl Try.ntmps4 (by rw [Try.results4]) (by simp) ?_; have hG : (fun x => x = r) r := rfl; unfold law44_DebtPlays at h; refine Zap 7 rfl ?_; refine Y1 rfl ?_; refine bindK h fun y1 hy1 h => ?_; refine W.call rfl (law44_small_fn hy1) ?_; refine Zwp 11 rfl ?_; refine Y1 rfl ?_; refine bindK h fun y3 hy3 h => ?_; refine W.call rfl (ref44_Few_fn hy3) ?_; refine Zwc 4 rfl ?_; refine A.condB rfl h (fun _ h => ?_) (fun _ h => ?_)
  · refine Zcb 8 rfl ?_; cases h; cases hG; exact ⟨rfl, trivial⟩
  · refine Zcp 7 rfl ?_; refine Y1 rfl ?_; refine bindK h fun y4 hy4 h => ?_; refine W.call rfl (debt_Open_fn hy4) ?_; refine W.v (.row 39 1 (List.map api_Debt.enc y4).length) (.row 39 1 y4.length) (Mem.add _ 39 (.rows 2 (List.map api_Debt.enc y4) false)) rfl (by simp only [List.length_map]) ?_; refine Zo (.row 39 1 y4.length) rfl rfl ?_; refine Zpp 8 rfl ?_; refine Y1 rfl ?_; refine bindK h fun y5 hy5 h => ?_; refine W.call rfl (debt_Open_fn hy5) ?_; refine W.v (.row 44 1 (List.map api_Debt.enc y5).length) (.row 44 1 y5.length) (Mem.add _ 44 (.rows 2 (List.map api_Debt.enc y5) false)) rfl (by simp only [List.length_map]) ?_; refine Zo (.row 44 1 y5.length) rfl rfl ?_; refine Zpp 4 rfl ?_; refine Zm (.row 12 1 0) (Mem.add _ 12 (.rows 2 (List.map api_Debt.enc ([] : List api_Debt)) false)) rfl rfl ?_; refine Zpc 2 rfl ?_; refine A.join (fun (s2 : (List api_Debt)) => [(0, VF (List.map api_Event.enc p_)), (1, VF (List.map api_Sent.enc p1_)), (2, VF (List.map api_Order.enc p2_)), (3, VF (List.map api_Debt.enc p3_)), (9, VB y1), (10, .row 900000 1 y4.length), (11, .row 900001 1 y5.length), (12, VF (List.map api_Debt.enc s2))]) (fun s2 => [(900000, .rows 2 (List.map api_Debt.enc y4) false), (900001, .rows 2 (List.map api_Debt.enc y5) false)]) _ h hG rfl ?_ ?_
    · intro J f h hG; refine Zap 2 rfl ?_; refine Zo (.row 39 1 y4.length) rfl rfl ?_; refine Zpc 6 rfl ?_; refine A.loop (fun (s3 : (List api_Debt) × Int) => [(0, VF (List.map api_Event.enc p_)), (1, VF (List.map api_Sent.enc p1_)), (2, VF (List.map api_Order.enc p2_)), (3, VF (List.map api_Debt.enc p3_)), (9, VB y1), (10, .row 900000 1 y4.length), (11, .row 900001 1 y5.length), (12, VF (List.map api_Debt.enc s3.1)), (13, VI s3.2)]) (fun s3 => [(900000, .rows 2 (List.map api_Debt.enc y4) false), (900001, .rows 2 (List.map api_Debt.enc y5) false)]) _ h hG (Zf [(12, 1)] [(900000, (39, 1)), (900001, (44, 1))] rfl rfl (Ze rfl rfl (Ze rfl rfl (Ze rfl rfl (Ze rfl rfl (Ze rfl rfl (Ze rfl rfl (Ze rfl rfl (Ze rfl rfl (Ze rfl rfl trivial))))))))) (Zc rfl rfl (Zc rfl rfl trivial))) ?_; intro J s3 f h hG; unfold law44_DebtPlays_L1 at h; refine Zac 7 rfl ?_; refine A.condB rfl h (fun _ h => ?_) (fun _ h => ?_)
      · refine Zcp 7 rfl ?_; refine Zo (.row 900000 1 y4.length) rfl rfl ?_; refine Zpp 1 rfl ?_; refine Y1 rfl ?_; refine chkK h fun g61 h => ?_; refine W.chk rfl (by simpa using g61) ?_; refine W.det (.rp 900000 1 s3.2.toNat 0) _ rfl ?_; refine Y1 rfl ?_; refine bindK h fun x62 hx62 h => ?_; refine W.elem rfl (elemG hx62) ?_; refine W.det (.agg (api_Debt.av x62)) _ rfl ?_; refine Y1 rfl ?_; refine bindK h fun y63 hy63 h => ?_; refine W.call rfl (debt_Add_fn hy63) ?_; refine W.v (.tup [.row 1048634 2 (List.map api_Debt.enc y63.1).length, VI y63.2]) (.tup [.row 1048634 2 y63.1.length, VI y63.2]) (Mem.add _ 1048634 (.rows 2 (List.map api_Debt.enc y63.1) false)) rfl (by simp only [List.length_map]) ?_; refine Zo (.tup [.row 1048634 2 y63.1.length, VI y63.2]) rfl rfl ?_; refine Zo (.row 1048634 2 y63.1.length) rfl rfl ?_; refine Zpp 1 rfl ?_; refine Zo (.row 1048634 2 y63.1.length) rfl rfl ?_; refine Zpp 5 rfl ?_; refine Zo (.row 1048634 2 y63.1.length) rfl rfl ?_; refine Zo (.row 900000 1 y4.length) rfl rfl ?_; refine Zpp 1 rfl ?_; refine Y1 rfl ?_; refine W.chk rfl (by simpa using g61) ?_; refine W.det (.rp 900000 1 s3.2.toNat 0) _ rfl ?_; refine Y1 rfl ?_; refine W.elem rfl (elemG hx62) ?_; refine W.det (.agg (api_Debt.av x62)) _ rfl ?_; refine Y1 rfl ?_; refine bindK h fun y65 hy65 h => ?_; refine W.call rfl (debt_Add_fn hy65) ?_; refine W.v (.tup [.row 1048643 2 (List.map api_Debt.enc y65.1).length, VI y65.2]) (.tup [.row 1048643 2 y65.1.length, VI y65.2]) (Mem.add (Mem.set _ 1048634 2 (some (.rows 2 (List.map api_Debt.enc y63.1) true))) 1048643 (.rows 2 (List.map api_Debt.enc y65.1) false)) rfl (by simp only [List.length_map]) ?_; refine Zo (.tup [.row 1048643 2 y65.1.length, VI y65.2]) rfl rfl ?_; refine Zo (.row 1048643 2 y65.1.length) rfl rfl ?_; refine Zpp 1 rfl ?_; refine Zo (.row 1048643 2 y65.1.length) rfl rfl ?_; refine Zpp 9 rfl ?_; refine YF rfl rfl rfl h (fun _ h => ?_) (fun _ h => ?_)
        · refine Zpb 14 rfl ?_; refine headK.r ?_; refine Zob 1 rfl ?_; refine headK.r ?_; cases h; cases hG; exact ⟨rfl, trivial⟩
        · refine Zwc 5 rfl ?_; refine A.condB rfl h (fun _ h => ?_) (fun _ h => ?_)
          · refine Zcb 9 rfl ?_; refine headK.r ?_; refine Zob 1 rfl ?_; refine headK.r ?_; cases h; cases hG; exact ⟨rfl, trivial⟩
          · refine Zcp 3 rfl ?_; refine Zo (.row 1048634 2 y63.1.length) rfl rfl ?_; refine Zo (.row 1048634 2 y63.1.length) rfl rfl ?_; refine Zpb 8 rfl ?_; cases h; exact Zh hG [(1048634, 2)] [(900000, (900000, 1)), (900001, (900001, 1))] rfl rfl (Ze rfl rfl (Ze rfl rfl (Ze rfl rfl (Ze rfl rfl (Ze rfl rfl (Ze rfl rfl (Ze rfl rfl (Ze rfl rfl (Ze rfl rfl trivial))))))))) (Zc rfl rfl (Zc rfl rfl trivial))
      · refine Zcb 2 rfl ?_; refine headK.e ?_; refine Zob 1 rfl ?_; cases h; exact Zh hG [] [(900000, (900000, 1)), (900001, (900001, 1))] rfl rfl (Ze rfl rfl (Ze rfl rfl (Ze rfl rfl (Ze rfl rfl (Ze rfl rfl (Ze rfl rfl (Ze rfl rfl (Ze rfl rfl trivial)))))))) (Zc rfl rfl (Zc rfl rfl trivial))
    · intro s2 r2 h hG; refine Zcp 4 rfl ?_; refine Zo (.row 900000 1 y4.length) rfl rfl ?_; refine Y1 rfl ?_; refine bindK h fun y67 hy67 h => ?_; refine W.call rfl (ref44_Same_fn hy67) ?_; refine Zwc 4 rfl ?_; refine A.condB rfl h (fun _ h => ?_) (fun _ h => ?_)
      · refine Zcb 7 rfl ?_; cases h; cases hG; exact ⟨rfl, trivial⟩
      · refine Zcc 2 rfl ?_; refine A.join (fun (s5 : (List api_Debt)) => [(0, VF (List.map api_Event.enc p_)), (1, VF (List.map api_Sent.enc p1_)), (2, VF (List.map api_Order.enc p2_)), (3, VF (List.map api_Debt.enc p3_)), (9, VB y1), (11, .row 900000 1 y5.length), (12, VF (List.map api_Debt.enc s5))]) (fun s5 => [(900000, .rows 2 (List.map api_Debt.enc y5) false)]) _ h hG rfl ?_ ?_
        · intro J f h hG; refine Zac 6 rfl ?_; refine A.loop (fun (s6 : (List api_Debt) × Int) => [(0, VF (List.map api_Event.enc p_)), (1, VF (List.map api_Sent.enc p1_)), (2, VF (List.map api_Order.enc p2_)), (3, VF (List.map api_Debt.enc p3_)), (9, VB y1), (11, .row 900000 1 y5.length), (12, VF (List.map api_Debt.enc s6.1)), (18, VI s6.2)]) (fun s6 => [(900000, .rows 2 (List.map api_Debt.enc y5) false)]) _ h hG (Zf [] [(900000, (900001, 1))] rfl rfl (Ze rfl rfl (Ze rfl rfl (Ze rfl rfl (Ze rfl rfl (Ze rfl rfl (Ze rfl rfl (Ze rfl rfl (Ze rfl rfl trivial)))))))) (Zc rfl rfl trivial)) ?_; intro J s6 f h hG; unfold law44_DebtPlays_L2 at h; refine Zap 5 rfl ?_; refine Y1 rfl ?_; refine W.len rfl ?_; refine Zpc 3 rfl ?_; refine A.condB rfl h (fun _ h => ?_) (fun _ h => ?_)
          · refine Zcp 9 rfl ?_; refine Y1 rfl ?_; refine bindK h fun x90 hx90 h => ?_; refine W.chk rfl (elemB hx90) ?_; refine W.elem rfl (elemG hx90) ?_; refine W.chk rfl rfl ?_; refine W.det (.fp [.v (.int .i64 x90.Event), .v (.int .i64 x90.Net)]) _ rfl ?_; refine Zo (.agg (api_Debt.av x90)) rfl rfl ?_; refine Y1 rfl ?_; refine bindK h fun y91 hy91 h => ?_; refine W.call rfl (debt_Confirm_fn hy91) ?_; refine W.v (.tup [.row 1048669 2 (List.map api_Debt.enc y91.1).length, VI y91.2]) (.tup [.row 1048669 2 y91.1.length, VI y91.2]) (Mem.add _ 1048669 (.rows 2 (List.map api_Debt.enc y91.1) false)) rfl (by simp only [List.length_map]) ?_; refine Zo (.tup [.row 1048669 2 y91.1.length, VI y91.2]) rfl rfl ?_; refine Zo (.row 1048669 2 y91.1.length) rfl rfl ?_; refine Zpp 1 rfl ?_; refine Zo (.row 1048669 2 y91.1.length) rfl rfl ?_; refine Zpc 9 rfl ?_; refine A.condB rfl h (fun _ h => ?_) (fun _ h => ?_)
            · refine Zcp 1 rfl ?_; refine Zo (.row 1048669 2 y91.1.length) rfl rfl ?_; refine Zo (.row 1048669 2 y91.1.length) rfl rfl ?_; refine Zpb 8 rfl ?_; cases h; exact Zh hG [(1048669, 2)] [(900000, (900000, 1))] rfl rfl (Ze rfl rfl (Ze rfl rfl (Ze rfl rfl (Ze rfl rfl (Ze rfl rfl (Ze rfl rfl (Ze rfl rfl (Ze rfl rfl trivial)))))))) (Zc rfl rfl trivial)
            · refine Zcb 8 rfl ?_; cases h; exact Zh hG [] [(900000, (900000, 1))] rfl rfl (Ze rfl rfl (Ze rfl rfl (Ze rfl rfl (Ze rfl rfl (Ze rfl rfl (Ze rfl rfl (Ze rfl rfl (Ze rfl rfl trivial)))))))) (Zc rfl rfl trivial)
          · refine Zcb 2 rfl ?_; refine headK.e ?_; refine Zob 1 rfl ?_; cases h; exact Zh hG [] [(900000, (900000, 1))] rfl rfl (Ze rfl rfl (Ze rfl rfl (Ze rfl rfl (Ze rfl rfl (Ze rfl rfl (Ze rfl rfl (Ze rfl rfl trivial))))))) (Zc rfl rfl trivial)
        · intro s5 r2 h hG; refine Zcp 4 rfl ?_; refine Zo (.row 900000 1 y5.length) rfl rfl ?_; refine Y1 rfl ?_; refine bindK h fun y93 hy93 h => ?_; refine W.call rfl (ref44_Same_fn hy93) ?_; refine Zwc 4 rfl ?_; refine A.condB rfl h (fun _ h => ?_) (fun _ h => ?_)
          · refine Zcb 7 rfl ?_; cases h; cases hG; exact ⟨rfl, trivial⟩
          · refine Zcc 2 rfl ?_; refine A.join (fun (s23 : Unit) => [(9, VB y1)]) (fun s23 => []) _ h hG rfl ?_ ?_
            · intro J f h hG; refine Zac 6 rfl ?_; refine A.loop (fun (s24 : Int) => [(0, VF (List.map api_Event.enc p_)), (1, VF (List.map api_Sent.enc p1_)), (2, VF (List.map api_Order.enc p2_)), (3, VF (List.map api_Debt.enc p3_)), (9, VB y1), (11, .row 900000 1 y5.length), (21, VI s24)]) (fun s24 => [(900000, .rows 2 (List.map api_Debt.enc y5) false)]) _ h hG (Zf [] [(900000, (900000, 1))] rfl rfl (Ze rfl rfl (Ze rfl rfl (Ze rfl rfl (Ze rfl rfl (Ze rfl rfl (Ze rfl rfl (Ze rfl rfl trivial))))))) (Zc rfl rfl trivial)) ?_; intro J s24 f h hG; unfold law44_DebtPlays_L4 at h; refine Zap 5 rfl ?_; refine Y1 rfl ?_; refine W.len rfl ?_; refine Zpc 3 rfl ?_; refine A.condB rfl h (fun _ h => ?_) (fun _ h => ?_)
              · refine Zcc 2 rfl ?_; refine A.join (fun (s37 : Unit) => [(0, VF (List.map api_Event.enc p_)), (1, VF (List.map api_Sent.enc p1_)), (2, VF (List.map api_Order.enc p2_)), (3, VF (List.map api_Debt.enc p3_)), (9, VB y1), (11, .row 900000 1 y5.length), (21, VI s24)]) (fun s37 => [(900000, .rows 2 (List.map api_Debt.enc y5) false)]) _ h hG rfl ?_ ?_
                · intro J f h hG; refine Zap 5 rfl ?_; refine Y1 rfl ?_; refine bindK h fun x1722 hx1722 h => ?_; refine W.chk rfl (elemB hx1722) ?_; refine W.elem rfl (elemG hx1722) ?_; refine W.chk rfl rfl ?_; refine W.det (.fp [.v (.int .i64 x1722.Kind), .v (.int .i64 x1722.Event), .v (.int .i64 x1722.By), .v (.int .i64 x1722.Step)]) _ rfl ?_; refine Zo (.fp [.v (.int .i64 x1722.Event), .v (.int .i64 x1722.By), .v (.int .i64 x1722.Step)]) rfl rfl ?_; refine Zpp 10 rfl ?_; refine YF rfl rfl rfl h (fun _ h => ?_) (fun _ h => ?_)
                  · refine Zpb 10 rfl ?_; cases h; exact Zh hG [] [(900000, (900000, 1))] rfl rfl (Ze rfl rfl (Ze rfl rfl (Ze rfl rfl (Ze rfl rfl (Ze rfl rfl (Ze rfl rfl (Ze rfl rfl trivial))))))) (Zc rfl rfl trivial)
                  · refine Zwp 2 rfl ?_; refine Y2 rfl rfl rfl ?_; refine W.len rfl ?_; refine Zpc 4 rfl ?_; refine A.condB rfl h (fun _ h => ?_) (fun _ h => ?_)
                    · refine Zcb 3 rfl ?_; cases h; exact Zh hG [] [(900000, (900000, 1))] rfl rfl (Ze rfl rfl (Ze rfl rfl (Ze rfl rfl (Ze rfl rfl (Ze rfl rfl (Ze rfl rfl (Ze rfl rfl trivial))))))) (Zc rfl rfl trivial)
                    · refine Zcp 7 rfl ?_; refine Y1 rfl ?_; refine bindK h fun x1724 hx1724 h => ?_; refine W.chk rfl (elemB hx1724) ?_; refine W.elem rfl (elemG hx1724) ?_; refine W.chk rfl rfl ?_; refine W.det (.fp [.v (.int .i64 x1724.Author), .v (.int .i64 x1724.Seq), .fz (List.map (encI .i64) x1724.Causes), .v (.int .i64 x1724.Kind), .v (.int .i64 x1724.Group), .v (.int .i64 x1724.Target), .v (.int .i64 x1724.Quote), .v (.int .i64 x1724.Who), .v (.int .i64 x1724.N), .v (.string x1724.Text), .fz (List.map (encI .i64) x1724.Files), .v (.int .i64 x1724.Step)]) _ rfl ?_; refine Zo (.fp [.v (.int .i64 x1724.Kind), .v (.int .i64 x1724.Group), .v (.int .i64 x1724.Target), .v (.int .i64 x1724.Quote), .v (.int .i64 x1724.Who), .v (.int .i64 x1724.N), .v (.string x1724.Text), .fz (List.map (encI .i64) x1724.Files), .v (.int .i64 x1724.Step)]) rfl rfl ?_; refine Zpc 4 rfl ?_; refine A.condB rfl h (fun _ h => ?_) (fun _ h => ?_)
                      · refine Zcb 3 rfl ?_; cases h; exact Zh hG [] [(900000, (900000, 1))] rfl rfl (Ze rfl rfl (Ze rfl rfl (Ze rfl rfl (Ze rfl rfl (Ze rfl rfl (Ze rfl rfl (Ze rfl rfl trivial))))))) (Zc rfl rfl trivial)
                      · refine Zcp 6 rfl ?_; refine Y1 rfl ?_; refine W.chk rfl (elemB hx1724) ?_; refine W.elem rfl (elemG hx1724) ?_; refine W.chk rfl rfl ?_; refine W.det (.fp [.v (.int .i64 x1724.Author), .v (.int .i64 x1724.Seq), .fz (List.map (encI .i64) x1724.Causes), .v (.int .i64 x1724.Kind), .v (.int .i64 x1724.Group), .v (.int .i64 x1724.Target), .v (.int .i64 x1724.Quote), .v (.int .i64 x1724.Who), .v (.int .i64 x1724.N), .v (.string x1724.Text), .fz (List.map (encI .i64) x1724.Files), .v (.int .i64 x1724.Step)]) _ rfl ?_; refine Zo (.fp [.v (.int .i64 x1724.Author), .v (.int .i64 x1724.Seq), .fz (List.map (encI .i64) x1724.Causes), .v (.int .i64 x1724.Kind), .v (.int .i64 x1724.Group), .v (.int .i64 x1724.Target), .v (.int .i64 x1724.Quote), .v (.int .i64 x1724.Who), .v (.int .i64 x1724.N), .v (.string x1724.Text), .fz (List.map (encI .i64) x1724.Files), .v (.int .i64 x1724.Step)]) rfl rfl ?_; refine Zpp 1 rfl ?_; refine Y1 rfl ?_; refine bindK h fun y1725 hy1725 h => ?_; refine W.call rfl (event_Net_fn hy1725) ?_; refine Zwc 4 rfl ?_; refine A.join (fun (s38 : Unit) => [(0, VF (List.map api_Event.enc p_)), (1, VF (List.map api_Sent.enc p1_)), (2, VF (List.map api_Order.enc p2_)), (3, VF (List.map api_Debt.enc p3_)), (9, VB y1), (11, .row 900000 1 y5.length), (21, VI s24), (22, VI x1722.Event)]) (fun s38 => [(900000, .rows 2 (List.map api_Debt.enc y5) false)]) _ h hG rfl ?_ ?_
                        · intro J f h hG; refine Zap 5 rfl ?_; refine YT rfl rfl rfl h (fun _ h => ?_) (fun _ h => ?_)
                          · refine W.det (.row 137 2 0) (Mem.add _ 137 (.rows 2 (List.map api_Debt.enc ([] : List api_Debt)) false)) rfl ?_; refine Zu (.row 900000 1 y5.length) rfl rfl rfl rfl ?_; refine Y2 rfl rfl rfl ?_; refine chkK h fun g1735 h => ?_; refine W.chk rfl (appChk (fun _ => rfl) g1735) ?_; refine W.rows (0 + (List.map api_Debt.enc y5).length) (([] : List api_Debt) ++ y5).length ([] ++ (List.map api_Debt.enc y5)) (List.map api_Debt.enc (([] : List api_Debt) ++ y5)) rfl (by first | rfl | (simp; done) | simp only [partMap, List.length_map, List.length_append, List.nil_append, Nat.zero_add, List.length_nil]) (by first | rfl | (simp; done) | simp only [partMap, List.map_append, List.nil_append, List.map_nil]) ?_; refine Zpp 1 rfl ?_; refine Y2 rfl rfl rfl ?_; refine chkK h fun g1736 h => ?_; refine W.chk rfl (appChk (fun _ => rfl) g1736) ?_; refine W.app rfl rfl ?_; refine Zpp 2 rfl ?_; refine Zu (.agg [VI x1722.Event, VI y1725]) rfl rfl rfl rfl ?_; refine Y2 rfl rfl rfl ?_; refine bindK h fun y1737 hy1737 h => ?_; refine W.call rfl (ref44_Has_fn hy1737) ?_; refine Zwc 5 rfl ?_; refine A.condB rfl h (fun _ h => ?_) (fun _ h => ?_)
                            · refine Zcb 6 rfl ?_; refine headK.r ?_; refine Zob 1 rfl ?_; refine headK.r ?_; refine headK.r ?_; refine Zob 1 rfl ?_; refine headK.r ?_; cases h; cases hG; exact ⟨rfl, trivial⟩
                            · refine Zcb 1 rfl ?_; cases h; exact Zh hG [] [(900000, (900000, 1))] rfl rfl (Ze rfl rfl (Ze rfl rfl (Ze rfl rfl (Ze rfl rfl (Ze rfl rfl (Ze rfl rfl (Ze rfl rfl (Ze rfl rfl trivial)))))))) (Zc rfl rfl trivial)
                          · refine Zpb 14 rfl ?_; cases h; exact Zh hG [] [(900000, (900000, 1))] rfl rfl (Ze rfl rfl (Ze rfl rfl (Ze rfl rfl (Ze rfl rfl (Ze rfl rfl (Ze rfl rfl (Ze rfl rfl (Ze rfl rfl trivial)))))))) (Zc rfl rfl trivial)
                        · intro s38 r2 h hG; refine Zcc 6 rfl ?_; refine A.loop (fun (s39 : Int) => [(0, VF (List.map api_Event.enc p_)), (1, VF (List.map api_Sent.enc p1_)), (2, VF (List.map api_Order.enc p2_)), (3, VF (List.map api_Debt.enc p3_)), (9, VB y1), (11, .row 900000 1 y5.length), (21, VI s24), (22, VI x1722.Event), (24, VI s39)]) (fun s39 => [(900000, .rows 2 (List.map api_Debt.enc y5) false)]) _ h hG (Zf [] [(900000, (900000, 1))] rfl rfl (Ze rfl rfl (Ze rfl rfl (Ze rfl rfl (Ze rfl rfl (Ze rfl rfl (Ze rfl rfl (Ze rfl rfl (Ze rfl rfl (Ze rfl rfl trivial))))))))) (Zc rfl rfl trivial)) ?_; intro J s39 f h hG; unfold law44_DebtPlays_L3 at h; refine Zap 5 rfl ?_; refine Y1 rfl ?_; refine W.len rfl ?_; refine Zpc 3 rfl ?_; refine A.condB rfl h (fun _ h => ?_) (fun _ h => ?_)
                          · refine Zcp 8 rfl ?_; refine Y1 rfl ?_; refine bindK h fun x1848 hx1848 h => ?_; refine W.chk rfl (elemB hx1848) ?_; refine W.elem rfl (elemG hx1848) ?_; refine W.chk rfl rfl ?_; refine W.det (.fp [.v (.int .i64 x1848.Event), .v (.int .i64 x1848.Net), .v (.int .i64 x1848.Step)]) _ rfl ?_; refine Zo (.agg (api_Sent.av x1848)) rfl rfl ?_; refine Zm (.lp 25 2 0) (Mem.add _ 25 (.box [VI 0, VI 0, VI 0])) rfl rfl ?_; refine Zm (.tup []) (Mem.set _ 25 2 (some (.box (api_Sent.av x1848)))) rfl rfl ?_; refine Zpc 4 rfl ?_; refine A.regionD (by kernel_rfl) ?_; refine Zpp 4 rfl ?_; refine YF rfl rfl rfl h (fun _ h => ?_) (fun _ h => ?_)
                            · refine Zpb 37 rfl ?_; cases h; exact Zh hG [] [(900000, (900000, 1))] rfl rfl (Ze rfl rfl (Ze rfl rfl (Ze rfl rfl (Ze rfl rfl (Ze rfl rfl (Ze rfl rfl (Ze rfl rfl (Ze rfl rfl (Ze rfl rfl trivial))))))))) (Zc rfl rfl trivial)
                            · refine Zwp 3 rfl ?_; refine Y2 rfl rfl rfl ?_; refine W.len rfl ?_; refine Zpp 3 rfl ?_; refine YF rfl rfl rfl h (fun _ h => ?_) (fun _ h => ?_)
                              · refine Zpb 30 rfl ?_; cases h; exact Zh hG [] [(900000, (900000, 1))] rfl rfl (Ze rfl rfl (Ze rfl rfl (Ze rfl rfl (Ze rfl rfl (Ze rfl rfl (Ze rfl rfl (Ze rfl rfl (Ze rfl rfl (Ze rfl rfl trivial))))))))) (Zc rfl rfl trivial)
                              · refine Zwp 5 rfl ?_; refine YF rfl rfl rfl h (fun _ h => ?_) (fun _ h => ?_)
                                · refine Zpb 25 rfl ?_; cases h; exact Zh hG [] [(900000, (900000, 1))] rfl rfl (Ze rfl rfl (Ze rfl rfl (Ze rfl rfl (Ze rfl rfl (Ze rfl rfl (Ze rfl rfl (Ze rfl rfl (Ze rfl rfl (Ze rfl rfl trivial))))))))) (Zc rfl rfl trivial)
                                · refine Zwp 5 rfl ?_; refine YF rfl rfl rfl h (fun _ h => ?_) (fun _ h => ?_)
                                  · refine Zpb 20 rfl ?_; cases h; exact Zh hG [] [(900000, (900000, 1))] rfl rfl (Ze rfl rfl (Ze rfl rfl (Ze rfl rfl (Ze rfl rfl (Ze rfl rfl (Ze rfl rfl (Ze rfl rfl (Ze rfl rfl (Ze rfl rfl trivial))))))))) (Zc rfl rfl trivial)
                                  · refine Zwp 4 rfl ?_; refine Y2 rfl rfl rfl ?_; refine bindK h fun x1850 hx1850 h => ?_; refine W.chk rfl (elemB hx1850) ?_; refine W.elem rfl (elemG hx1850) ?_; refine W.chk rfl rfl ?_; refine W.det (.fp [.v (.int .i64 x1850.Kind), .v (.int .i64 x1850.Event), .v (.int .i64 x1850.By), .v (.int .i64 x1850.Step)]) _ rfl ?_; refine Zu (.fp [.v (.int .i64 x1850.Step)]) rfl rfl rfl rfl ?_; refine Zpc 5 rfl ?_; refine A.condB rfl h (fun _ h => ?_) (fun _ h => ?_)
                                    · refine Zcb 9 rfl ?_; cases h; exact Zh hG [] [(900000, (900000, 1))] rfl rfl (Ze rfl rfl (Ze rfl rfl (Ze rfl rfl (Ze rfl rfl (Ze rfl rfl (Ze rfl rfl (Ze rfl rfl (Ze rfl rfl (Ze rfl rfl trivial))))))))) (Zc rfl rfl trivial)
                                    · refine Zcp 7 rfl ?_; refine Y1 rfl ?_; refine bindK h fun x1851 hx1851 h => ?_; refine W.chk rfl (elemB hx1851) ?_; refine W.elem rfl (elemG hx1851) ?_; refine W.chk rfl rfl ?_; refine W.det (.fp [.v (.int .i64 x1851.Author), .v (.int .i64 x1851.Seq), .fz (List.map (encI .i64) x1851.Causes), .v (.int .i64 x1851.Kind), .v (.int .i64 x1851.Group), .v (.int .i64 x1851.Target), .v (.int .i64 x1851.Quote), .v (.int .i64 x1851.Who), .v (.int .i64 x1851.N), .v (.string x1851.Text), .fz (List.map (encI .i64) x1851.Files), .v (.int .i64 x1851.Step)]) _ rfl ?_; refine Zo (.agg (api_Event.av x1851)) rfl rfl ?_; refine Zm (.lp 26 2 0) (Mem.add (Mem.add (Mem.add _ 196634 (.rows 1 (List.map (encI .i64) ([] : List Int)) false)) 720922 (.rows 1 (List.map (encI .i64) ([] : List Int)) false)) 26 (.box [VI 0, VI 0, .row 196634 2 0, VI 0, VI 0, VI 0, VI 0, VI 0, VI 0, VS (ByteArray.mk #[]), .row 720922 2 0, VI 0])) rfl rfl ?_; refine Zm (.tup []) (Mem.set _ 26 2 (some (.box (api_Event.av x1851)))) rfl rfl ?_; refine Zpp 9 rfl ?_; refine YF rfl rfl rfl h (fun _ h => ?_) (fun _ h => ?_)
                                      · refine Zpc 14 rfl ?_; refine A.regionC [0, 1, 2, 3, 4, 5, 6, 7, 8, 9, 10, 11, 12, 13] (by kernel_rfl) ?_; refine R.at_ rfl rfl ?_; refine Zo (.kb true) rfl rfl ?_; refine R.nil ?_; refine R.at_ rfl rfl ?_; refine Zo (.kb true) rfl rfl ?_; refine R.nil ?_; refine R.at_ rfl rfl ?_; refine Zv (.row 211 2 0) (Mem.add _ 211 (.rows 2 (List.map api_Debt.enc ([] : List api_Debt)) false)) rfl rfl rfl rfl ?_; refine R.nil ?_; refine R.at_ rfl rfl ?_; refine Zu (.row 900000 1 y5.length) rfl rfl rfl rfl ?_; refine R.nil ?_; refine R.at_ rfl rfl ?_; refine Y2 rfl rfl rfl ?_; refine chkK h fun g1855 h => ?_; refine W.chk rfl (appChk (fun _ => rfl) g1855) ?_; refine W.rows (0 + (List.map api_Debt.enc y5).length) (([] : List api_Debt) ++ y5).length ([] ++ (List.map api_Debt.enc y5)) (List.map api_Debt.enc (([] : List api_Debt) ++ y5)) rfl (by first | rfl | (simp; done) | simp only [partMap, List.length_map, List.length_append, List.nil_append, Nat.zero_add, List.length_nil]) (by first | rfl | (simp; done) | simp only [partMap, List.map_append, List.nil_append, List.map_nil]) ?_; refine R.nil ?_; refine R.at_ rfl rfl ?_; refine Zu (VF (List.map api_Debt.enc p3_)) rfl rfl rfl rfl ?_; refine R.nil ?_; refine R.at_ rfl rfl ?_; refine Y2 rfl rfl rfl ?_; refine chkK h fun g1856 h => ?_; refine W.chk rfl (appChk (fun _ => rfl) g1856) ?_; refine W.app rfl rfl ?_; refine R.nil ?_; refine R.at_ rfl rfl ?_; refine Zu (VI x1722.Event) rfl rfl rfl rfl ?_; refine R.nil ?_; refine R.at_ rfl rfl ?_; refine Zu (.lp 25 2 1) rfl rfl rfl rfl ?_; refine R.nil ?_; refine R.at_ rfl rfl ?_; refine Zu (VI x1848.Net) rfl rfl rfl rfl ?_; refine R.nil ?_; refine R.at_ rfl rfl ?_; refine Zu (.agg [VI x1722.Event, VI x1848.Net]) rfl rfl rfl rfl ?_; refine R.nil ?_; refine R.at_ rfl rfl ?_; refine Y2 rfl rfl rfl ?_; refine bindK h fun y1857 hy1857 h => ?_; refine W.call rfl (ref44_Has_fn hy1857) ?_; refine W.det (VB y1857) _ rfl ?_; refine R.nil ?_; refine R.at_ rfl rfl ?_; refine Zu (VB (!y1857)) rfl rfl rfl rfl ?_; refine R.nil ?_; refine R.at_ rfl rfl ?_; refine Zo (VB (!y1857)) rfl rfl ?_; refine R.nil ?_; refine R.end_ ?_; refine Zoc 1 rfl ?_; refine A.condB rfl h (fun _ h => ?_) (fun _ h => ?_)
                                        · refine Zcb 8 rfl ?_; refine headK.r ?_; refine Zob 2 rfl ?_; refine headK.r ?_; refine headK.r ?_; refine Zob 1 rfl ?_; refine headK.r ?_; cases h; cases hG; exact ⟨rfl, trivial⟩
                                        · refine Zcb 8 rfl ?_; cases h; exact Zh hG [] [(900000, (900000, 1))] rfl rfl (Ze rfl rfl (Ze rfl rfl (Ze rfl rfl (Ze rfl rfl (Ze rfl rfl (Ze rfl rfl (Ze rfl rfl (Ze rfl rfl (Ze rfl rfl trivial))))))))) (Zc rfl rfl trivial)
                                      · refine Zwp 6 rfl ?_; refine YF rfl rfl rfl h (fun _ h => ?_) (fun _ h => ?_)
                                        · refine Zpc 8 rfl ?_; refine A.regionC [0, 1, 2, 3, 4, 5, 6, 7, 8, 9, 10, 11, 12, 13] (by kernel_rfl) ?_; refine R.at_ rfl rfl ?_; refine Zo (.kb true) rfl rfl ?_; refine R.nil ?_; refine R.at_ rfl rfl ?_; refine Zo (.kb true) rfl rfl ?_; refine R.nil ?_; refine R.at_ rfl rfl ?_; refine Zv (.row 211 2 0) (Mem.add _ 211 (.rows 2 (List.map api_Debt.enc ([] : List api_Debt)) false)) rfl rfl rfl rfl ?_; refine R.nil ?_; refine R.at_ rfl rfl ?_; refine Zu (.row 900000 1 y5.length) rfl rfl rfl rfl ?_; refine R.nil ?_; refine R.at_ rfl rfl ?_; refine Y2 rfl rfl rfl ?_; refine chkK h fun g1861 h => ?_; refine W.chk rfl (appChk (fun _ => rfl) g1861) ?_; refine W.rows (0 + (List.map api_Debt.enc y5).length) (([] : List api_Debt) ++ y5).length ([] ++ (List.map api_Debt.enc y5)) (List.map api_Debt.enc (([] : List api_Debt) ++ y5)) rfl (by first | rfl | (simp; done) | simp only [partMap, List.length_map, List.length_append, List.nil_append, Nat.zero_add, List.length_nil]) (by first | rfl | (simp; done) | simp only [partMap, List.map_append, List.nil_append, List.map_nil]) ?_; refine R.nil ?_; refine R.at_ rfl rfl ?_; refine Zu (VF (List.map api_Debt.enc p3_)) rfl rfl rfl rfl ?_; refine R.nil ?_; refine R.at_ rfl rfl ?_; refine Y2 rfl rfl rfl ?_; refine chkK h fun g1862 h => ?_; refine W.chk rfl (appChk (fun _ => rfl) g1862) ?_; refine W.app rfl rfl ?_; refine R.nil ?_; refine R.at_ rfl rfl ?_; refine Zu (VI x1722.Event) rfl rfl rfl rfl ?_; refine R.nil ?_; refine R.at_ rfl rfl ?_; refine Zu (.lp 25 2 1) rfl rfl rfl rfl ?_; refine R.nil ?_; refine R.at_ rfl rfl ?_; refine Zu (VI x1848.Net) rfl rfl rfl rfl ?_; refine R.nil ?_; refine R.at_ rfl rfl ?_; refine Zu (.agg [VI x1722.Event, VI x1848.Net]) rfl rfl rfl rfl ?_; refine R.nil ?_; refine R.at_ rfl rfl ?_; refine Y2 rfl rfl rfl ?_; refine bindK h fun y1863 hy1863 h => ?_; refine W.call rfl (ref44_Has_fn hy1863) ?_; refine W.det (VB y1863) _ rfl ?_; refine R.nil ?_; refine R.at_ rfl rfl ?_; refine Zu (VB (!y1863)) rfl rfl rfl rfl ?_; refine R.nil ?_; refine R.at_ rfl rfl ?_; refine Zo (VB (!y1863)) rfl rfl ?_; refine R.nil ?_; refine R.end_ ?_; refine Zoc 1 rfl ?_; refine A.condB rfl h (fun _ h => ?_) (fun _ h => ?_)
                                          · refine Zcb 8 rfl ?_; refine headK.r ?_; refine Zob 2 rfl ?_; refine headK.r ?_; refine headK.r ?_; refine Zob 1 rfl ?_; refine headK.r ?_; cases h; cases hG; exact ⟨rfl, trivial⟩
                                          · refine Zcb 8 rfl ?_; cases h; exact Zh hG [] [(900000, (900000, 1))] rfl rfl (Ze rfl rfl (Ze rfl rfl (Ze rfl rfl (Ze rfl rfl (Ze rfl rfl (Ze rfl rfl (Ze rfl rfl (Ze rfl rfl (Ze rfl rfl trivial))))))))) (Zc rfl rfl trivial)
                                        · refine Zwc 9 rfl ?_; refine A.regionC [0, 1, 2, 3, 4, 5, 6, 7, 8, 9, 10, 11, 12, 13] (by kernel_rfl) ?_; refine R.at_ rfl rfl ?_; refine Zo (VB (x1851.Quote == x1722.Event)) rfl rfl ?_; refine R.nil ?_; refine R.at_ rfl rfl ?_; refine Zo (VB (x1851.Quote == x1722.Event)) rfl rfl ?_; refine R.nil ?_; refine R.at_ rfl rfl ?_; refine YT rfl rfl rfl h (fun _ h => ?_) (fun _ h => ?_)
                                          · refine W.det (.row 211 2 0) (Mem.add _ 211 (.rows 2 (List.map api_Debt.enc ([] : List api_Debt)) false)) rfl ?_; refine R.nil ?_; refine R.at_ rfl rfl ?_; refine Zu (.row 900000 1 y5.length) rfl rfl rfl rfl ?_; refine R.nil ?_; refine R.at_ rfl rfl ?_; refine Y2 rfl rfl rfl ?_; refine chkK h fun g1867 h => ?_; refine W.chk rfl (appChk (fun _ => rfl) g1867) ?_; refine W.rows (0 + (List.map api_Debt.enc y5).length) (([] : List api_Debt) ++ y5).length ([] ++ (List.map api_Debt.enc y5)) (List.map api_Debt.enc (([] : List api_Debt) ++ y5)) rfl (by first | rfl | (simp; done) | simp only [partMap, List.length_map, List.length_append, List.nil_append, Nat.zero_add, List.length_nil]) (by first | rfl | (simp; done) | simp only [partMap, List.map_append, List.nil_append, List.map_nil]) ?_; refine R.nil ?_; refine R.at_ rfl rfl ?_; refine Zu (VF (List.map api_Debt.enc p3_)) rfl rfl rfl rfl ?_; refine R.nil ?_; refine R.at_ rfl rfl ?_; refine Y2 rfl rfl rfl ?_; refine chkK h fun g1868 h => ?_; refine W.chk rfl (appChk (fun _ => rfl) g1868) ?_; refine W.app rfl rfl ?_; refine R.nil ?_; refine R.at_ rfl rfl ?_; refine Zu (VI x1722.Event) rfl rfl rfl rfl ?_; refine R.nil ?_; refine R.at_ rfl rfl ?_; refine Zu (.lp 25 2 1) rfl rfl rfl rfl ?_; refine R.nil ?_; refine R.at_ rfl rfl ?_; refine Zu (VI x1848.Net) rfl rfl rfl rfl ?_; refine R.nil ?_; refine R.at_ rfl rfl ?_; refine Zu (.agg [VI x1722.Event, VI x1848.Net]) rfl rfl rfl rfl ?_; refine R.nil ?_; refine R.at_ rfl rfl ?_; refine Y2 rfl rfl rfl ?_; refine bindK h fun y1869 hy1869 h => ?_; refine W.call rfl (ref44_Has_fn hy1869) ?_; refine W.det (VB y1869) _ rfl ?_; refine R.nil ?_; refine R.at_ rfl rfl ?_; refine Zu (VB (!y1869)) rfl rfl rfl rfl ?_; refine R.nil ?_; refine R.at_ rfl rfl ?_; refine Zo (VB (!y1869)) rfl rfl ?_; refine R.nil ?_; refine R.end_ ?_; refine Zoc 1 rfl ?_; refine A.condB rfl h (fun _ h => ?_) (fun _ h => ?_)
                                            · refine Zcb 8 rfl ?_; refine headK.r ?_; refine Zob 2 rfl ?_; refine headK.r ?_; refine headK.r ?_; refine Zob 1 rfl ?_; refine headK.r ?_; cases h; cases hG; exact ⟨rfl, trivial⟩
                                            · refine Zcb 8 rfl ?_; cases h; exact Zh hG [] [(900000, (900000, 1))] rfl rfl (Ze rfl rfl (Ze rfl rfl (Ze rfl rfl (Ze rfl rfl (Ze rfl rfl (Ze rfl rfl (Ze rfl rfl (Ze rfl rfl (Ze rfl rfl trivial))))))))) (Zc rfl rfl trivial)
                                          · refine R.nil ?_; refine R.at_ rfl rfl ?_; refine Y3 rfl rfl rfl ?_; refine R.nil ?_; refine R.at_ rfl rfl ?_; refine Y3 rfl rfl rfl ?_; refine R.nil ?_; refine R.at_ rfl rfl ?_; refine Y3 rfl rfl rfl ?_; refine R.nil ?_; refine R.at_ rfl rfl ?_; refine Y3 rfl rfl rfl ?_; refine R.nil ?_; refine R.at_ rfl rfl ?_; refine Y3 rfl rfl rfl ?_; refine R.nil ?_; refine R.at_ rfl rfl ?_; refine Y3 rfl rfl rfl ?_; refine R.nil ?_; refine R.at_ rfl rfl ?_; refine Y3 rfl rfl rfl ?_; refine R.nil ?_; refine R.at_ rfl rfl ?_; refine Y3 rfl rfl rfl ?_; refine R.nil ?_; refine R.at_ rfl rfl ?_; refine Y3 rfl rfl rfl ?_; refine R.nil ?_; refine R.at_ rfl rfl ?_; refine Y3 rfl rfl rfl ?_; refine R.nil ?_; refine R.at_ rfl rfl ?_; refine Zo (.kb false) rfl rfl ?_; refine R.nil ?_; refine R.end_ ?_; refine Zob 10 rfl ?_; cases h; exact Zh hG [] [(900000, (900000, 1))] rfl rfl (Ze rfl rfl (Ze rfl rfl (Ze rfl rfl (Ze rfl rfl (Ze rfl rfl (Ze rfl rfl (Ze rfl rfl (Ze rfl rfl (Ze rfl rfl trivial))))))))) (Zc rfl rfl trivial)
                          · refine Zcb 2 rfl ?_; refine headK.e ?_; refine Zob 2 rfl ?_; cases h; exact Zh hG [] [(900000, (900000, 1))] rfl rfl (Ze rfl rfl (Ze rfl rfl (Ze rfl rfl (Ze rfl rfl (Ze rfl rfl (Ze rfl rfl (Ze rfl rfl trivial))))))) (Zc rfl rfl trivial)
                · intro s37 r2 h hG; refine Zcb 5 rfl ?_; cases h; exact Zh hG [] [(900000, (900000, 1))] rfl rfl (Ze rfl rfl (Ze rfl rfl (Ze rfl rfl (Ze rfl rfl (Ze rfl rfl (Ze rfl rfl (Ze rfl rfl trivial))))))) (Zc rfl rfl trivial)
              · refine Zcb 2 rfl ?_; refine headK.e ?_; refine Zob 1 rfl ?_; cases h; exact Zh hG [] [] rfl rfl (Ze rfl rfl trivial) trivial
            · intro s23 r2 h hG; refine Zcb 7 rfl ?_; cases h; cases hG; exact ⟨rfl, trivial⟩
end Go.Proofs.Ytomfmjejoocmmaa

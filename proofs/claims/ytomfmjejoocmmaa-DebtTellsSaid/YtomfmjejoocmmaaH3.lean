/-
  Plain programs of functions, and that the functions do what they say. Printed by wip/tools/gen.py.
-/
import Derived.Test.YtomfmjejoocmmaaG2
namespace Go.Proofs.Ytomfmjejoocmmaa
open Go.RowKit
attribute [local irreducible] IntKind.wrap AW runL Step.wp
set_option linter.unusedVariables false
set_option maxHeartbeats 4000000
set_option maxRecDepth 100000
noncomputable def law44_DebtTells (p_ : (List api_Event)) (p1_ : (List api_Sent)) (p2_ : (List api_Order)) (p3_ : (List api_Debt)) (p4_ : api_Debt) (p5_ : Int) (p6_ : Int) : Option (Bool) :=
  (law44_small).bind fun y1 =>
  (ref44_Few p_ p1_ p2_ p3_).bind fun y3 =>
  (bif (!y3) then
    some y1
  else
    (debt_Add p3_ p4_).bind fun y4 =>
    (ref44_Add p3_ p4_).bind fun y5 =>
    (debt_Confirm p3_ p4_).bind fun y6 =>
    (ref44_Confirm p3_ p4_).bind fun y7 =>
    (bif (y4.2 != y5.2) then
      some false
    else
      (bif (y6.2 != y7.2) then
        some false
      else
        (ref44_Same y4.1 y5.1).bind fun y14 =>
        (bif (!y14) then
          some false
        else
          (ref44_Same y6.1 y7.1).bind fun y15 =>
          (bif (!y15) then
            some false
          else
            (bif y1 then
              (debt_Asked p_ p1_ p5_ p6_).bind fun y16 =>
              (ref44_Asked p_ p1_ p5_ p6_).bind fun y17 =>
              (ref44_Ints y16 y17).bind fun y18 =>
              (bif y18 then
                (debt_Open p_ p1_ p2_ p3_).bind fun y19 =>
                (ref44_Open p_ p1_ p2_ p3_).bind fun y20 =>
                (ref44_Same y19 y20).bind fun y21 =>
                some y21
              else
                some false)
            else
              some false))))))
theorem law44_DebtTells_fn {p_ : (List api_Event)} {p1_ : (List api_Sent)} {p2_ : (List api_Order)} {p3_ : (List api_Debt)} {p4_ : api_Debt} {p5_ : Int} {p6_ : Int} {r : Bool} (h : law44_DebtTells p_ p1_ p2_ p3_ p4_ p5_ p6_ = some r) : Fn False Try.prog 3 [VF (List.map api_Event.enc p_), VF (List.map api_Sent.enc p1_), VF (List.map api_Order.enc p2_), VF (List.map api_Debt.enc p3_), .agg (api_Debt.av p4_), VI p5_, VI p6_] (VB r) := by
  refine Fn.of_AW (dr := False) (F := FnX False Try.prog) (base := 0) (js := []) mixed tok noeqs (fun _ _ _ h => h) Try.call3 Try.func3 rfl Try.ntmps3 (by rw [Try.results3]) (by simp) ?_; have hG : (fun x => x = r) r := rfl; unfold law44_DebtTells at h; refine Zap 2 rfl ?_; refine Zm (.lp 11 1 0) (Mem.add _ 11 (.box (api_Debt.av p4_))) rfl rfl ?_; refine Zpp 5 rfl ?_; refine Y1 rfl ?_; refine bindK h fun y1 hy1 h => ?_; refine W.call rfl (law44_small_fn hy1) ?_; refine Zwp 11 rfl ?_; refine Y1 rfl ?_; refine bindK h fun y3 hy3 h => ?_; refine W.call rfl (ref44_Few_fn hy3) ?_; refine Zwc 4 rfl ?_; refine A.condB rfl h (fun _ h => ?_) (fun _ h => ?_)
  · refine Zcb 8 rfl ?_; cases h; cases hG; exact ⟨rfl, trivial⟩
  · refine Zcp 5 rfl ?_; refine Zo (.agg (api_Debt.av p4_)) rfl rfl ?_; refine Y1 rfl ?_; refine bindK h fun y4 hy4 h => ?_; refine W.call rfl (debt_Add_fn hy4) ?_; refine W.v (.tup [.row 1048611 1 (List.map api_Debt.enc y4.1).length, VI y4.2]) (.tup [.row 1048611 1 y4.1.length, VI y4.2]) (Mem.add _ 1048611 (.rows 2 (List.map api_Debt.enc y4.1) false)) rfl (by simp only [List.length_map]) ?_; refine Zo (.tup [.row 1048611 1 y4.1.length, VI y4.2]) rfl rfl ?_; refine Zo (.row 1048611 1 y4.1.length) rfl rfl ?_; refine Zpp 1 rfl ?_; refine Zo (.row 1048611 1 y4.1.length) rfl rfl ?_; refine Zpp 6 rfl ?_; refine Zo (.agg (api_Debt.av p4_)) rfl rfl ?_; refine Y1 rfl ?_; refine bindK h fun y5 hy5 h => ?_; refine W.call rfl (ref44_Add_fn hy5) ?_; refine W.v (.tup [.row 1048617 1 (List.map api_Debt.enc y5.1).length, VI y5.2]) (.tup [.row 1048617 1 y5.1.length, VI y5.2]) (Mem.add _ 1048617 (.rows 2 (List.map api_Debt.enc y5.1) false)) rfl (by simp only [List.length_map]) ?_; refine Zo (.tup [.row 1048617 1 y5.1.length, VI y5.2]) rfl rfl ?_; refine Zo (.row 1048617 1 y5.1.length) rfl rfl ?_; refine Zpp 1 rfl ?_; refine Zo (.row 1048617 1 y5.1.length) rfl rfl ?_; refine Zpp 6 rfl ?_; refine Zo (.agg (api_Debt.av p4_)) rfl rfl ?_; refine Y1 rfl ?_; refine bindK h fun y6 hy6 h => ?_; refine W.call rfl (debt_Confirm_fn hy6) ?_; refine W.v (.tup [.row 1048623 1 (List.map api_Debt.enc y6.1).length, VI y6.2]) (.tup [.row 1048623 1 y6.1.length, VI y6.2]) (Mem.add _ 1048623 (.rows 2 (List.map api_Debt.enc y6.1) false)) rfl (by simp only [List.length_map]) ?_; refine Zo (.tup [.row 1048623 1 y6.1.length, VI y6.2]) rfl rfl ?_; refine Zo (.row 1048623 1 y6.1.length) rfl rfl ?_; refine Zpp 1 rfl ?_; refine Zo (.row 1048623 1 y6.1.length) rfl rfl ?_; refine Zpp 6 rfl ?_; refine Zo (.agg (api_Debt.av p4_)) rfl rfl ?_; refine Y1 rfl ?_; refine bindK h fun y7 hy7 h => ?_; refine W.call rfl (ref44_Confirm_fn hy7) ?_; refine W.v (.tup [.row 1048629 1 (List.map api_Debt.enc y7.1).length, VI y7.2]) (.tup [.row 1048629 1 y7.1.length, VI y7.2]) (Mem.add _ 1048629 (.rows 2 (List.map api_Debt.enc y7.1) false)) rfl (by simp only [List.length_map]) ?_; refine Zo (.tup [.row 1048629 1 y7.1.length, VI y7.2]) rfl rfl ?_; refine Zo (.row 1048629 1 y7.1.length) rfl rfl ?_; refine Zpp 1 rfl ?_; refine Zo (.row 1048629 1 y7.1.length) rfl rfl ?_; refine Zpp 10 rfl ?_; refine YF rfl rfl rfl h (fun _ h => ?_) (fun _ h => ?_)
    · refine Zpb 25 rfl ?_; cases h; cases hG; exact ⟨rfl, trivial⟩
    · refine Zwp 5 rfl ?_; refine YF rfl rfl rfl h (fun _ h => ?_) (fun _ h => ?_)
      · refine Zpb 20 rfl ?_; cases h; cases hG; exact ⟨rfl, trivial⟩
      · refine W.det (.row 1048611 1 y4.1.length) _ rfl ?_; refine Zu (.row 1048617 1 y5.1.length) rfl rfl rfl rfl ?_; refine Y2 rfl rfl rfl ?_; refine bindK h fun y14 hy14 h => ?_; refine W.call rfl (ref44_Same_fn hy14) ?_; refine Zwp 4 rfl ?_; refine YF rfl rfl rfl h (fun _ h => ?_) (fun _ h => ?_)
        · refine Zpb 14 rfl ?_; cases h; cases hG; exact ⟨rfl, trivial⟩
        · refine W.det (.row 1048623 1 y6.1.length) _ rfl ?_; refine Zu (.row 1048629 1 y7.1.length) rfl rfl rfl rfl ?_; refine Y2 rfl rfl rfl ?_; refine bindK h fun y15 hy15 h => ?_; refine W.call rfl (ref44_Same_fn hy15) ?_; refine Zwc 5 rfl ?_; refine A.condB rfl h (fun _ h => ?_) (fun _ h => ?_)
          · refine Zcb 7 rfl ?_; cases h; cases hG; exact ⟨rfl, trivial⟩
          · refine Zcp 6 rfl ?_; refine YT rfl rfl rfl h (fun _ h => ?_) (fun _ h => ?_)
            · refine Zwp 4 rfl ?_; refine Y2 rfl rfl rfl ?_; refine bindK h fun y16 hy16 h => ?_; refine W.call rfl (debt_Asked_fn hy16) ?_; refine W.v (.row 82 1 (List.map (encI .i64) y16).length) (.row 82 1 y16.length) (Mem.add _ 82 (.rows 1 (List.map (encI .i64) y16) false)) rfl (by simp only [List.length_map]) ?_; refine Zpp 4 rfl ?_; refine Y2 rfl rfl rfl ?_; refine bindK h fun y17 hy17 h => ?_; refine W.call rfl (ref44_Asked_fn hy17) ?_; refine W.v (.row 87 1 (List.map (encI .i64) y17).length) (.row 87 1 y17.length) (Mem.add _ 87 (.rows 1 (List.map (encI .i64) y17) false)) rfl (by simp only [List.length_map]) ?_; refine Y2 rfl rfl rfl ?_; refine bindK h fun y18 hy18 h => ?_; refine W.call rfl (ref44_Ints_fn hy18) ?_; refine Zwp 3 rfl ?_; refine YT rfl rfl rfl h (fun _ h => ?_) (fun _ h => ?_)
              · refine Zwp 4 rfl ?_; refine Y2 rfl rfl rfl ?_; refine bindK h fun y19 hy19 h => ?_; refine W.call rfl (debt_Open_fn hy19) ?_; refine W.v (.row 95 1 (List.map api_Debt.enc y19).length) (.row 95 1 y19.length) (Mem.add _ 95 (.rows 2 (List.map api_Debt.enc y19) false)) rfl (by simp only [List.length_map]) ?_; refine Zpp 4 rfl ?_; refine Y2 rfl rfl rfl ?_; refine bindK h fun y20 hy20 h => ?_; refine W.call rfl (ref44_Open_fn hy20) ?_; refine W.v (.row 100 1 (List.map api_Debt.enc y20).length) (.row 100 1 y20.length) (Mem.add _ 100 (.rows 2 (List.map api_Debt.enc y20) false)) rfl (by simp only [List.length_map]) ?_; refine Y2 rfl rfl rfl ?_; refine bindK h fun y21 hy21 h => ?_; refine W.call rfl (ref44_Same_fn hy21) ?_; refine Zwb 6 rfl ?_; cases h; cases hG; exact ⟨rfl, trivial⟩
              · refine Zpb 15 rfl ?_; cases h; cases hG; exact ⟨rfl, trivial⟩
            · refine Zpb 28 rfl ?_; cases h; cases hG; exact ⟨rfl, trivial⟩
end Go.Proofs.Ytomfmjejoocmmaa

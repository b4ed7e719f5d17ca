/-
  Plain programs of functions, and that the functions do what they say. Printed by wip/tools/gen.py.
-/
import Derived.Test.YtomfmjejoocmmaaG2
namespace Go.Proofs.Ytomfmjejoocmmaa
open Go.RowKit
attribute [local irreducible] IntKind.wrap AW runL Step.wp
set_option linter.unusedVariables false
set_option maxHeartbeats 4000000
set_option maxRecDepth 100000
noncomputable def law44_DebtGrows_L1 (y6 : (List api_Debt)) (y11 : (List api_Debt)) (s3 : Int) : Option ((Int) ⊕ ((Unit) ⊕ (Bool))) :=
  (bif (decide (s3 < ((y6.length : Nat) : Int))) then
    (chkO (decide (0 ≤ s3) && decide (s3 < ((y6.length : Nat) : Int)))).bind fun _ =>
    (getI y6 s3).bind fun x46 =>
    (ref44_Has y11 x46).bind fun y47 =>
    (bif (!y47) then
      some (.inr (.inr false))
    else
      some (.inl (IntKind.i64.wrap (s3 + (1 : Int)))))
  else
    some (.inr (.inl ())))
noncomputable def law44_DebtGrows_L2 (p4_ : (List api_Sent)) (p_ : (List api_Event)) (p5_ : api_Order) (s12 : Int × (List api_Sent)) : Option ((Int × (List api_Sent)) ⊕ (((List api_Sent)) ⊕ (Bool))) :=
  (bif (decide (s12.1 < (p4_.length : Int))) then
    (getI p4_ s12.1).bind fun x136 =>
    (seqF (A := Bool) (
      (bif (decide ((0 : Int) ≤ x136.Event)) then
        (bif (decide (x136.Event < (p_.length : Int))) then
          some (.inl (x136.Event != p5_.Event))
        else
          some (.inl false))
      else
        some (.inl false)))
    fun s18 =>
      (bif s18 then
        (getI p_ x136.Event).bind fun x138 =>
        (bif (x138.Target != p5_.Event) then
          (bif (decide (p5_.Step < x136.Step)) then
            (chkO (decide (s12.2.length + [x136].length ≤ 1000000))).bind fun _ =>
            some (.inl ((IntKind.i64.wrap (s12.1 + (1 : Int))), (s12.2 ++ [x136])))
          else
            (bif (x138.Quote != p5_.Event) then
              (chkO (decide (s12.2.length + [x136].length ≤ 1000000))).bind fun _ =>
              some (.inl ((IntKind.i64.wrap (s12.1 + (1 : Int))), (s12.2 ++ [x136])))
            else
              some (.inl ((IntKind.i64.wrap (s12.1 + (1 : Int))), s12.2))))
        else
          (bif (decide (p5_.Step < x136.Step)) then
            (chkO (decide (s12.2.length + [x136].length ≤ 1000000))).bind fun _ =>
            some (.inl ((IntKind.i64.wrap (s12.1 + (1 : Int))), (s12.2 ++ [x136])))
          else
            some (.inl ((IntKind.i64.wrap (s12.1 + (1 : Int))), s12.2))))
      else
        (bif (decide (p5_.Step < x136.Step)) then
          (chkO (decide (s12.2.length + [x136].length ≤ 1000000))).bind fun _ =>
          some (.inl ((IntKind.i64.wrap (s12.1 + (1 : Int))), (s12.2 ++ [x136])))
        else
          (bif s18 then
            (chkO (decide (s12.2.length + [x136].length ≤ 1000000))).bind fun _ =>
            some (.inl ((IntKind.i64.wrap (s12.1 + (1 : Int))), (s12.2 ++ [x136])))
          else
            some (.inl ((IntKind.i64.wrap (s12.1 + (1 : Int))), s12.2))))))
  else
    some (.inr (.inl s12.2)))
noncomputable def law44_DebtGrows (p_ : (List api_Event)) (p1_ : (List api_Sent)) (p2_ : (List api_Order)) (p3_ : (List api_Debt)) (p4_ : (List api_Sent)) (p5_ : api_Order) : Option (Bool) :=
  (law44_small).bind fun y1 =>
  (ref44_Few p_ p1_ p2_ p3_).bind fun y5 =>
  (bif (!y5) then
    some y1
  else
    (bif (decide ((20 : Int) < (p4_.length : Int))) then
      some y1
    else
      (debt_Open p_ p1_ p2_ p3_).bind fun y6 =>
      (chkO (decide (0 + p1_.length ≤ 1000000))).bind fun _ =>
      (chkO (decide ((([] : List api_Sent) ++ p1_).length + p4_.length ≤ 1000000))).bind fun _ =>
      (chkO (decide (0 + p2_.length ≤ 1000000))).bind fun _ =>
      (chkO (decide ((([] : List api_Order) ++ p2_).length + [p5_].length ≤ 1000000))).bind fun _ =>
      (debt_Open p_ ((([] : List api_Sent) ++ p1_) ++ p4_) ((([] : List api_Order) ++ p2_) ++ [p5_]) p3_).bind fun y11 =>
      (seqF (A := Unit) (
        loopF (law44_DebtGrows_L1 y6 y11) (0 : Int))
      fun s2 =>
        (seqF (A := (List api_Sent)) (
          loopF (law44_DebtGrows_L2 p4_ p_ p5_) ((0 : Int), ([] : List api_Sent)))
        fun s11 =>
          (debt_Asked p_ p1_ p5_.Event p5_.Step).bind fun y144 =>
          (chkO (decide (0 + p1_.length ≤ 1000000))).bind fun _ =>
          (chkO (decide ((([] : List api_Sent) ++ p1_).length + s11.length ≤ 1000000))).bind fun _ =>
          (debt_Asked p_ ((([] : List api_Sent) ++ p1_) ++ s11) p5_.Event p5_.Step).bind fun y147 =>
          (bif y1 then
            (ref44_Ints y144 y147).bind fun y148 =>
            (bif y148 then
              (chkO (decide (0 + p2_.length ≤ 1000000))).bind fun _ =>
              (chkO (decide ((([] : List api_Order) ++ p2_).length + p2_.length ≤ 1000000))).bind fun _ =>
              (debt_Open p_ p1_ ((([] : List api_Order) ++ p2_) ++ p2_) p3_).bind fun y151 =>
              (ref44_Same y6 y151).bind fun y152 =>
              some y152
            else
              some false)
          else
            some false)))))
theorem law44_DebtGrows_fn {p_ : (List api_Event)} {p1_ : (List api_Sent)} {p2_ : (List api_Order)} {p3_ : (List api_Debt)} {p4_ : (List api_Sent)} {p5_ : api_Order} {r : Bool} (h : law44_DebtGrows p_ p1_ p2_ p3_ p4_ p5_ = some r) : Fn False Try.prog 5 [VF (List.map api_Event.enc p_), VF (List.map api_Sent.enc p1_), VF (List.map api_Order.enc p2_), VF (List.map api_Debt.enc p3_), VF (List.map api_Sent.enc p4_), .agg (api_Order.av p5_)] (VB r) := by
  refine Fn.of_AW (dr := False) (F := FnX False Try.prog) (base := 0) (js := [11, 17, 22]) mixed tok noeqs (fun _ _ _ h => h) Try.call5 Try.func5 rfl Try.ntmps5 (by rw [Try.results5]) (by simp) ?_; have hG : (fun x => x = r) r := rfl; unfold law44_DebtGrows at h; refine Zap 2 rfl ?_; refine Zm (.lp 11 1 0) (Mem.add _ 11 (.box (api_Order.av p5_))) rfl rfl ?_; refine Zpp 5 rfl ?_; refine Y1 rfl ?_; refine bindK h fun y1 hy1 h => ?_; refine W.call rfl (law44_small_fn hy1) ?_; refine Zwp 11 rfl ?_; refine Y1 rfl ?_; refine bindK h fun y5 hy5 h => ?_; refine W.call rfl (ref44_Few_fn hy5) ?_; refine Zwp 3 rfl ?_; refine YF rfl rfl rfl h (fun _ h => ?_) (fun _ h => ?_)
  · refine Zpb 14 rfl ?_; cases h; cases hG; exact ⟨rfl, trivial⟩
  · refine Zwp 1 rfl ?_; refine Y2 rfl rfl rfl ?_; refine W.len rfl ?_; refine Zpc 4 rfl ?_; refine A.condB rfl h (fun _ h => ?_) (fun _ h => ?_)
    · refine Zcb 8 rfl ?_; cases h; cases hG; exact ⟨rfl, trivial⟩
    · refine Zcp 8 rfl ?_; refine Y1 rfl ?_; refine bindK h fun y6 hy6 h => ?_; refine W.call rfl (debt_Open_fn hy6) ?_; refine W.v (.row 41 1 (List.map api_Debt.enc y6).length) (.row 41 1 y6.length) (Mem.add _ 41 (.rows 2 (List.map api_Debt.enc y6) false)) rfl (by simp only [List.length_map]) ?_; refine Zo (.row 41 1 y6.length) rfl rfl ?_; refine Zpc 3 rfl ?_; refine A.regionC [1, 2, 3, 4, 5, 6, 7, 8, 9, 10, 11, 0, 12, 13, 14] (by kernel_rfl) ?_; refine R.at_ rfl rfl ?_; refine Zm (.row 43 1 0) (Mem.add _ 43 (.rows 3 (List.map api_Sent.enc ([] : List api_Sent)) false)) rfl rfl ?_; refine R.nil ?_; refine R.at_ rfl rfl ?_; refine Zo (VF (List.map api_Sent.enc p1_)) rfl rfl ?_; refine R.nil ?_; refine R.at_ rfl rfl ?_; refine Y1 rfl ?_; refine chkK h fun g7 h => ?_; refine W.chk rfl (appChk (fun _ => rfl) g7) ?_; refine W.rows (0 + (List.map api_Sent.enc p1_).length) (([] : List api_Sent) ++ p1_).length ([] ++ (List.map api_Sent.enc p1_)) (List.map api_Sent.enc (([] : List api_Sent) ++ p1_)) rfl (by first | rfl | (simp; done) | simp only [partMap, List.length_map, List.length_append, List.nil_append, Nat.zero_add, List.length_nil]) (by first | rfl | (simp; done) | simp only [partMap, List.map_append, List.nil_append, List.map_nil]) ?_; refine R.nil ?_; refine R.at_ rfl rfl ?_; refine Zo (VF (List.map api_Sent.enc p4_)) rfl rfl ?_; refine R.nil ?_; refine R.at_ rfl rfl ?_; refine Y1 rfl ?_; refine chkK h fun g8 h => ?_; refine W.chk rfl (appChk (fun _ => rfl) g8) ?_; refine W.app rfl rfl ?_; refine R.nil ?_; refine R.at_ rfl rfl ?_; refine Zm (.row 48 1 0) (Mem.add _ 48 (.rows 4 (List.map api_Order.enc ([] : List api_Order)) false)) rfl rfl ?_; refine R.nil ?_; refine R.at_ rfl rfl ?_; refine Zo (VF (List.map api_Order.enc p2_)) rfl rfl ?_; refine R.nil ?_; refine R.at_ rfl rfl ?_; refine Y1 rfl ?_; refine chkK h fun g9 h => ?_; refine W.chk rfl (appChk (fun _ => rfl) g9) ?_; refine W.rows (0 + (List.map api_Order.enc p2_).length) (([] : List api_Order) ++ p2_).length ([] ++ (List.map api_Order.enc p2_)) (List.map api_Order.enc (([] : List api_Order) ++ p2_)) rfl (by first | rfl | (simp; done) | simp only [partMap, List.length_map, List.length_append, List.nil_append, Nat.zero_add, List.length_nil]) (by first | rfl | (simp; done) | simp only [partMap, List.map_append, List.nil_append, List.map_nil]) ?_; refine R.nil ?_; refine R.at_ rfl rfl ?_; refine Zo (.agg (api_Order.av p5_)) rfl rfl ?_; refine R.nil ?_; refine R.at_ rfl rfl ?_; refine Zm (.row 52 1 1) (Mem.add _ 52 (.rows 4 (List.map api_Order.enc [p5_]) false)) rfl rfl ?_; refine R.nil ?_; refine R.at_ rfl rfl ?_; refine Y1 rfl ?_; refine chkK h fun g10 h => ?_; refine W.chk rfl (appChk (fun _ => rfl) g10) ?_; refine W.app rfl rfl ?_; refine R.nil ?_; refine R.at_ rfl rfl ?_; refine Zo (VF (List.map api_Event.enc p_)) rfl rfl ?_; refine R.nil ?_; refine R.at_ rfl rfl ?_; refine Zo (VF (List.map api_Debt.enc p3_)) rfl rfl ?_; refine R.nil ?_; refine R.at_ rfl rfl ?_; refine Y1 rfl ?_; refine bindK h fun y11 hy11 h => ?_
      refine W.call rfl (debt_Open_fn hy11) ?_; refine W.v (.row 55 1 (List.map api_Debt.enc y11).length) (.row 55 1 y11.length) (Mem.add (Mem.set (Mem.set _ 43 3 (some (.rows 3 (List.map api_Sent.enc ((([] : List api_Sent) ++ p1_) ++ p4_)) true))) 48 3 (some (.rows 4 (List.map api_Order.enc ((([] : List api_Order) ++ p2_) ++ [p5_])) true))) 55 (.rows 2 (List.map api_Debt.enc y11) false)) rfl (by simp only [List.length_map]) ?_; refine R.nil ?_; refine R.at_ rfl rfl ?_; refine Zo (.row 55 1 y11.length) rfl rfl ?_; refine R.nil ?_; refine R.end_ ?_; refine Zoc 1 rfl ?_; refine A.join (fun (s2 : Unit) => [(0, VF (List.map api_Event.enc p_)), (1, VF (List.map api_Sent.enc p1_)), (2, VF (List.map api_Order.enc p2_)), (3, VF (List.map api_Debt.enc p3_)), (4, VF (List.map api_Sent.enc p4_)), (11, .lp 900000 1 0), (13, VB y1), (14, .row 900001 1 y6.length)]) (fun s2 => [(900000, .box (api_Order.av p5_)), (900001, .rows 2 (List.map api_Debt.enc y6) false)]) _ h hG rfl ?_ ?_
      · intro J f h hG; refine Zac 6 rfl ?_; refine A.loop (fun (s3 : Int) => [(0, VF (List.map api_Event.enc p_)), (1, VF (List.map api_Sent.enc p1_)), (2, VF (List.map api_Order.enc p2_)), (3, VF (List.map api_Debt.enc p3_)), (4, VF (List.map api_Sent.enc p4_)), (11, .lp 900000 1 0), (13, VB y1), (14, .row 900001 1 y6.length), (15, .row 900002 1 y11.length), (16, VI s3)]) (fun s3 => [(900000, .box (api_Order.av p5_)), (900001, .rows 2 (List.map api_Debt.enc y6) false), (900002, .rows 2 (List.map api_Debt.enc y11) false)]) _ h hG (Zf [] [(900000, (11, 1)), (900001, (41, 1)), (900002, (55, 1))] rfl rfl (Ze rfl rfl (Ze rfl rfl (Ze rfl rfl (Ze rfl rfl (Ze rfl rfl (Ze rfl rfl (Ze rfl rfl (Ze rfl rfl (Ze rfl rfl (Ze rfl rfl trivial)))))))))) (Zc rfl rfl (Zc rfl rfl (Zc rfl rfl trivial)))) ?_; intro J s3 f h hG; unfold law44_DebtGrows_L1 at h; refine Zap 4 rfl ?_; refine Zo (.row 900001 1 y6.length) rfl rfl ?_; refine Zpc 4 rfl ?_; refine A.condB rfl h (fun _ h => ?_) (fun _ h => ?_)
        · refine Zcp 6 rfl ?_; refine Zo (.row 900002 1 y11.length) rfl rfl ?_; refine Zo (.row 900001 1 y6.length) rfl rfl ?_; refine Zpp 1 rfl ?_; refine Y1 rfl ?_; refine chkK h fun g45 h => ?_; refine W.chk rfl (by simpa using g45) ?_; refine W.det (.rp 900001 1 s3.toNat 0) _ rfl ?_; refine Y1 rfl ?_; refine bindK h fun x46 hx46 h => ?_; refine W.elem rfl (elemG hx46) ?_; refine W.det (.agg (api_Debt.av x46)) _ rfl ?_; refine Y1 rfl ?_; refine bindK h fun y47 hy47 h => ?_; refine W.call rfl (ref44_Has_fn hy47) ?_; refine Zwc 4 rfl ?_; refine A.condB rfl h (fun _ h => ?_) (fun _ h => ?_)
          · refine Zcb 8 rfl ?_; refine headK.r ?_; refine Zob 1 rfl ?_; refine headK.r ?_; cases h; cases hG; exact ⟨rfl, trivial⟩
          · refine Zcb 8 rfl ?_; cases h; exact Zh hG [] [(900000, (900000, 1)), (900001, (900001, 1)), (900002, (900002, 1))] rfl rfl (Ze rfl rfl (Ze rfl rfl (Ze rfl rfl (Ze rfl rfl (Ze rfl rfl (Ze rfl rfl (Ze rfl rfl (Ze rfl rfl (Ze rfl rfl (Ze rfl rfl trivial)))))))))) (Zc rfl rfl (Zc rfl rfl (Zc rfl rfl trivial)))
        · refine Zcb 2 rfl ?_; refine headK.e ?_; refine Zob 1 rfl ?_; cases h; exact Zh hG [] [(900000, (900000, 1)), (900001, (900001, 1))] rfl rfl (Ze rfl rfl (Ze rfl rfl (Ze rfl rfl (Ze rfl rfl (Ze rfl rfl (Ze rfl rfl (Ze rfl rfl (Ze rfl rfl trivial)))))))) (Zc rfl rfl (Zc rfl rfl trivial))
      · intro s2 r2 h hG; refine Zcp 2 rfl ?_; refine Zm (.row 17 2 0) (Mem.add _ 17 (.rows 3 (List.map api_Sent.enc ([] : List api_Sent)) false)) rfl rfl ?_; refine Zpc 2 rfl ?_; refine A.join (fun (s11 : (List api_Sent)) => [(0, VF (List.map api_Event.enc p_)), (1, VF (List.map api_Sent.enc p1_)), (2, VF (List.map api_Order.enc p2_)), (3, VF (List.map api_Debt.enc p3_)), (11, .lp 900000 1 0), (13, VB y1), (14, .row 900001 1 y6.length), (17, .row 900002 1 s11.length)]) (fun s11 => [(900000, .box (api_Order.av p5_)), (900001, .rows 2 (List.map api_Debt.enc y6) false), (900002, .rows 3 (List.map api_Sent.enc s11) false)]) _ h hG rfl ?_ ?_
        · intro J f h hG; refine Zac 6 rfl ?_; refine A.loop (fun (s12 : Int × (List api_Sent)) => [(0, VF (List.map api_Event.enc p_)), (1, VF (List.map api_Sent.enc p1_)), (2, VF (List.map api_Order.enc p2_)), (3, VF (List.map api_Debt.enc p3_)), (4, VF (List.map api_Sent.enc p4_)), (11, .lp 900000 1 0), (13, VB y1), (14, .row 900001 1 y6.length), (17, .row 900002 1 s12.2.length), (18, VI s12.1)]) (fun s12 => [(900000, .box (api_Order.av p5_)), (900001, .rows 2 (List.map api_Debt.enc y6) false), (900002, .rows 3 (List.map api_Sent.enc s12.2) false)]) _ h hG (Zf [] [(900000, (900000, 1)), (900001, (900001, 1)), (900002, (17, 2))] rfl rfl (Ze rfl rfl (Ze rfl rfl (Ze rfl rfl (Ze rfl rfl (Ze rfl rfl (Ze rfl rfl (Ze rfl rfl (Ze rfl rfl (Ze rfl rfl (Ze rfl rfl trivial)))))))))) (Zc rfl rfl (Zc rfl rfl (Zc rfl rfl trivial)))) ?_; intro J s12 f h hG; unfold law44_DebtGrows_L2 at h; refine Zap 5 rfl ?_; refine Y1 rfl ?_; refine W.len rfl ?_; refine Zpc 3 rfl ?_; refine A.condB rfl h (fun _ h => ?_) (fun _ h => ?_)
          · refine Zcp 8 rfl ?_; refine Y1 rfl ?_; refine bindK h fun x136 hx136 h => ?_; refine W.chk rfl (elemB hx136) ?_; refine W.elem rfl (elemG hx136) ?_; refine W.chk rfl rfl ?_; refine W.det (.fp [.v (.int .i64 x136.Event), .v (.int .i64 x136.Net), .v (.int .i64 x136.Step)]) _ rfl ?_; refine Zo (.agg (api_Sent.av x136)) rfl rfl ?_; refine Zm (.lp 19 2 0) (Mem.add _ 19 (.box [VI 0, VI 0, VI 0])) rfl rfl ?_; refine Zm (.tup []) (Mem.set _ 19 2 (some (.box (api_Sent.av x136)))) rfl rfl ?_; refine Zpc 2 rfl ?_; refine A.join (fun (s18 : Bool) => [(0, VF (List.map api_Event.enc p_)), (1, VF (List.map api_Sent.enc p1_)), (2, VF (List.map api_Order.enc p2_)), (3, VF (List.map api_Debt.enc p3_)), (4, VF (List.map api_Sent.enc p4_)), (11, .lp 900000 1 0), (13, VB y1), (14, .row 900001 1 y6.length), (17, .row 900002 1 s12.2.length), (18, VI s12.1), (19, .lp 900003 1 0), (20, VB s18)]) (fun s18 => [(900000, .box (api_Order.av p5_)), (900001, .rows 2 (List.map api_Debt.enc y6) false), (900002, .rows 3 (List.map api_Sent.enc s12.2) false), (900003, .box (api_Sent.av x136))]) _ h hG rfl ?_ ?_
            · intro J f h hG; refine Zap 5 rfl ?_; refine YT rfl rfl rfl h (fun _ h => ?_) (fun _ h => ?_)
              · refine Zwp 3 rfl ?_; refine Y2 rfl rfl rfl ?_; refine W.len rfl ?_; refine Zpp 3 rfl ?_; refine YT rfl rfl rfl h (fun _ h => ?_) (fun _ h => ?_)
                · refine Zwb 8 rfl ?_; cases h; exact Zh hG [] [(900000, (900000, 1)), (900001, (900001, 1)), (900002, (900002, 1)), (900003, (19, 2))] rfl rfl (Ze rfl rfl (Ze rfl rfl (Ze rfl rfl (Ze rfl rfl (Ze rfl rfl (Ze rfl rfl (Ze rfl rfl (Ze rfl rfl (Ze rfl rfl (Ze rfl rfl (Ze rfl rfl (Ze rfl rfl trivial)))))))))))) (Zc rfl rfl (Zc rfl rfl (Zc rfl rfl (Zc rfl rfl trivial))))
                · refine Zpb 7 rfl ?_; cases h; exact Zh hG [] [(900000, (900000, 1)), (900001, (900001, 1)), (900002, (900002, 1)), (900003, (19, 2))] rfl rfl (Ze rfl rfl (Ze rfl rfl (Ze rfl rfl (Ze rfl rfl (Ze rfl rfl (Ze rfl rfl (Ze rfl rfl (Ze rfl rfl (Ze rfl rfl (Ze rfl rfl (Ze rfl rfl (Ze rfl rfl trivial)))))))))))) (Zc rfl rfl (Zc rfl rfl (Zc rfl rfl (Zc rfl rfl trivial))))
              · refine Zpb 14 rfl ?_; cases h; exact Zh hG [] [(900000, (900000, 1)), (900001, (900001, 1)), (900002, (900002, 1)), (900003, (19, 2))] rfl rfl (Ze rfl rfl (Ze rfl rfl (Ze rfl rfl (Ze rfl rfl (Ze rfl rfl (Ze rfl rfl (Ze rfl rfl (Ze rfl rfl (Ze rfl rfl (Ze rfl rfl (Ze rfl rfl (Ze rfl rfl trivial)))))))))))) (Zc rfl rfl (Zc rfl rfl (Zc rfl rfl (Zc rfl rfl trivial))))
            · intro s18 r2 h hG; refine Zcc 6 rfl ?_; refine A.condB rfl h (fun _ h => ?_) (fun _ h => ?_)
              · refine Zcp 5 rfl ?_; refine Y1 rfl ?_; refine bindK h fun x138 hx138 h => ?_; refine W.chk rfl (elemB hx138) ?_; refine W.elem rfl (elemG hx138) ?_; refine W.chk rfl rfl ?_; refine W.det (.fp [.v (.int .i64 x138.Author), .v (.int .i64 x138.Seq), .fz (List.map (encI .i64) x138.Causes), .v (.int .i64 x138.Kind), .v (.int .i64 x138.Group), .v (.int .i64 x138.Target), .v (.int .i64 x138.Quote), .v (.int .i64 x138.Who), .v (.int .i64 x138.N), .v (.string x138.Text), .fz (List.map (encI .i64) x138.Files), .v (.int .i64 x138.Step)]) _ rfl ?_; refine Zo (.agg (api_Event.av x138)) rfl rfl ?_; refine Zm (.lp 21 2 0) (Mem.add (Mem.add (Mem.add _ 196629 (.rows 1 (List.map (encI .i64) ([] : List Int)) false)) 720917 (.rows 1 (List.map (encI .i64) ([] : List Int)) false)) 21 (.box [VI 0, VI 0, .row 196629 2 0, VI 0, VI 0, VI 0, VI 0, VI 0, VI 0, VS (ByteArray.mk #[]), .row 720917 2 0, VI 0])) rfl rfl ?_; refine Zm (.tup []) (Mem.set _ 21 2 (some (.box (api_Event.av x138)))) rfl rfl ?_; refine Zpp 9 rfl ?_; refine YT rfl rfl rfl h (fun _ h => ?_) (fun _ h => ?_)
                · refine Zwp 17 rfl ?_; refine YF rfl rfl rfl h (fun _ h => ?_) (fun _ h => ?_)
                  · refine Zpp 5 rfl ?_; refine Zo (.row 900002 1 s12.2.length) rfl rfl ?_; refine Zo (.agg (api_Sent.av x136)) rfl rfl ?_; refine Zm (.row 124 2 1) (Mem.add _ 124 (.rows 3 (List.map api_Sent.enc [x136]) false)) rfl rfl ?_; refine Y1 rfl ?_; refine chkK h fun g139 h => ?_; refine W.chk rfl (appChk (fun _ => rfl) g139) ?_; refine W.app rfl rfl ?_; refine Zo (.row 900002 2 (s12.2 ++ [x136]).length) rfl rfl ?_; refine Zpb 8 rfl ?_; cases h; exact Zh hG [] [(900000, (900000, 1)), (900001, (900001, 1)), (900002, (900002, 2))] rfl rfl (Ze rfl rfl (Ze rfl rfl (Ze rfl rfl (Ze rfl rfl (Ze rfl rfl (Ze rfl rfl (Ze rfl rfl (Ze rfl rfl (Ze rfl rfl (Ze rfl rfl trivial)))))))))) (Zc rfl rfl (Zc rfl rfl (Zc rfl rfl trivial)))
                  · refine Zwc 4 rfl ?_; refine A.condB rfl h (fun _ h => ?_) (fun _ h => ?_)
                    · refine Zcp 1 rfl ?_; refine Zo (.row 900002 1 s12.2.length) rfl rfl ?_; refine Zo (.agg (api_Sent.av x136)) rfl rfl ?_; refine Zm (.row 124 2 1) (Mem.add _ 124 (.rows 3 (List.map api_Sent.enc [x136]) false)) rfl rfl ?_; refine Y1 rfl ?_; refine chkK h fun g140 h => ?_; refine W.chk rfl (appChk (fun _ => rfl) g140) ?_; refine W.app rfl rfl ?_; refine Zo (.row 900002 2 (s12.2 ++ [x136]).length) rfl rfl ?_; refine Zpb 8 rfl ?_; cases h; exact Zh hG [] [(900000, (900000, 1)), (900001, (900001, 1)), (900002, (900002, 2))] rfl rfl (Ze rfl rfl (Ze rfl rfl (Ze rfl rfl (Ze rfl rfl (Ze rfl rfl (Ze rfl rfl (Ze rfl rfl (Ze rfl rfl (Ze rfl rfl (Ze rfl rfl trivial)))))))))) (Zc rfl rfl (Zc rfl rfl (Zc rfl rfl trivial)))
                    · refine Zcb 8 rfl ?_; cases h; exact Zh hG [] [(900000, (900000, 1)), (900001, (900001, 1)), (900002, (900002, 1))] rfl rfl (Ze rfl rfl (Ze rfl rfl (Ze rfl rfl (Ze rfl rfl (Ze rfl rfl (Ze rfl rfl (Ze rfl rfl (Ze rfl rfl (Ze rfl rfl (Ze rfl rfl trivial)))))))))) (Zc rfl rfl (Zc rfl rfl (Zc rfl rfl trivial)))
                · refine Zpp 16 rfl ?_; refine YF rfl rfl rfl h (fun _ h => ?_) (fun _ h => ?_)
                  · refine Zpp 5 rfl ?_; refine Zo (.row 900002 1 s12.2.length) rfl rfl ?_; refine Zo (.agg (api_Sent.av x136)) rfl rfl ?_; refine Zm (.row 124 2 1) (Mem.add _ 124 (.rows 3 (List.map api_Sent.enc [x136]) false)) rfl rfl ?_; refine Y1 rfl ?_; refine chkK h fun g141 h => ?_; refine W.chk rfl (appChk (fun _ => rfl) g141) ?_; refine W.app rfl rfl ?_; refine Zo (.row 900002 2 (s12.2 ++ [x136]).length) rfl rfl ?_; refine Zpb 8 rfl ?_; cases h; exact Zh hG [] [(900000, (900000, 1)), (900001, (900001, 1)), (900002, (900002, 2))] rfl rfl (Ze rfl rfl (Ze rfl rfl (Ze rfl rfl (Ze rfl rfl (Ze rfl rfl (Ze rfl rfl (Ze rfl rfl (Ze rfl rfl (Ze rfl rfl (Ze rfl rfl trivial)))))))))) (Zc rfl rfl (Zc rfl rfl (Zc rfl rfl trivial)))
                  · refine Zwb 13 rfl ?_; cases h; exact Zh hG [] [(900000, (900000, 1)), (900001, (900001, 1)), (900002, (900002, 1))] rfl rfl (Ze rfl rfl (Ze rfl rfl (Ze rfl rfl (Ze rfl rfl (Ze rfl rfl (Ze rfl rfl (Ze rfl rfl (Ze rfl rfl (Ze rfl rfl (Ze rfl rfl trivial)))))))))) (Zc rfl rfl (Zc rfl rfl (Zc rfl rfl trivial)))
              · refine Zcp 10 rfl ?_; refine YF rfl rfl rfl h (fun _ h => ?_) (fun _ h => ?_)
                · refine Zpp 5 rfl ?_; refine Zo (.row 900002 1 s12.2.length) rfl rfl ?_; refine Zo (.agg (api_Sent.av x136)) rfl rfl ?_; refine Zm (.row 124 2 1) (Mem.add _ 124 (.rows 3 (List.map api_Sent.enc [x136]) false)) rfl rfl ?_; refine Y1 rfl ?_; refine chkK h fun g142 h => ?_; refine W.chk rfl (appChk (fun _ => rfl) g142) ?_; refine W.app rfl rfl ?_; refine Zo (.row 900002 2 (s12.2 ++ [x136]).length) rfl rfl ?_; refine Zpb 8 rfl ?_; cases h; exact Zh hG [] [(900000, (900000, 1)), (900001, (900001, 1)), (900002, (900002, 2))] rfl rfl (Ze rfl rfl (Ze rfl rfl (Ze rfl rfl (Ze rfl rfl (Ze rfl rfl (Ze rfl rfl (Ze rfl rfl (Ze rfl rfl (Ze rfl rfl (Ze rfl rfl trivial)))))))))) (Zc rfl rfl (Zc rfl rfl (Zc rfl rfl trivial)))
                · refine Zwc 4 rfl ?_; refine A.condB rfl h (fun _ h => ?_) (fun _ h => ?_)
                  · refine Zcp 1 rfl ?_; refine Zo (.row 900002 1 s12.2.length) rfl rfl ?_; refine Zo (.agg (api_Sent.av x136)) rfl rfl ?_; refine Zm (.row 124 2 1) (Mem.add _ 124 (.rows 3 (List.map api_Sent.enc [x136]) false)) rfl rfl ?_; refine Y1 rfl ?_; refine chkK h fun g143 h => ?_; refine W.chk rfl (appChk (fun _ => rfl) g143) ?_; refine W.app rfl rfl ?_; refine Zo (.row 900002 2 (s12.2 ++ [x136]).length) rfl rfl ?_; refine Zpb 8 rfl ?_; cases h; exact Zh hG [] [(900000, (900000, 1)), (900001, (900001, 1)), (900002, (900002, 2))] rfl rfl (Ze rfl rfl (Ze rfl rfl (Ze rfl rfl (Ze rfl rfl (Ze rfl rfl (Ze rfl rfl (Ze rfl rfl (Ze rfl rfl (Ze rfl rfl (Ze rfl rfl trivial)))))))))) (Zc rfl rfl (Zc rfl rfl (Zc rfl rfl trivial)))
                  · refine Zcb 8 rfl ?_; cases h; exact Zh hG [] [(900000, (900000, 1)), (900001, (900001, 1)), (900002, (900002, 1))] rfl rfl (Ze rfl rfl (Ze rfl rfl (Ze rfl rfl (Ze rfl rfl (Ze rfl rfl (Ze rfl rfl (Ze rfl rfl (Ze rfl rfl (Ze rfl rfl (Ze rfl rfl trivial)))))))))) (Zc rfl rfl (Zc rfl rfl (Zc rfl rfl trivial)))
          · refine Zcb 2 rfl ?_; refine headK.e ?_; refine Zob 1 rfl ?_; cases h; exact Zh hG [] [(900000, (900000, 1)), (900001, (900001, 1)), (900002, (900002, 1))] rfl rfl (Ze rfl rfl (Ze rfl rfl (Ze rfl rfl (Ze rfl rfl (Ze rfl rfl (Ze rfl rfl (Ze rfl rfl (Ze rfl rfl trivial)))))))) (Zc rfl rfl (Zc rfl rfl (Zc rfl rfl trivial)))
        · intro s11 r2 h hG; refine Zcp 8 rfl ?_; refine Y1 rfl ?_; refine bindK h fun y144 hy144 h => ?_; refine W.call rfl (debt_Asked_fn hy144) ?_; refine W.v (.row 132 2 (List.map (encI .i64) y144).length) (.row 132 2 y144.length) (Mem.add _ 132 (.rows 1 (List.map (encI .i64) y144) false)) rfl (by simp only [List.length_map]) ?_; refine Zo (.row 132 2 y144.length) rfl rfl ?_; refine Zpc 3 rfl ?_; refine A.regionC [1, 2, 3, 4, 5, 0, 6, 7, 8, 9, 10, 11] (by kernel_rfl) ?_; refine R.at_ rfl rfl ?_; refine Zm (.row 134 2 0) (Mem.add _ 134 (.rows 3 (List.map api_Sent.enc ([] : List api_Sent)) false)) rfl rfl ?_; refine R.nil ?_; refine R.at_ rfl rfl ?_; refine Zo (VF (List.map api_Sent.enc p1_)) rfl rfl ?_; refine R.nil ?_; refine R.at_ rfl rfl ?_; refine Y1 rfl ?_; refine chkK h fun g145 h => ?_; refine W.chk rfl (appChk (fun _ => rfl) g145) ?_; refine W.rows (0 + (List.map api_Sent.enc p1_).length) (([] : List api_Sent) ++ p1_).length ([] ++ (List.map api_Sent.enc p1_)) (List.map api_Sent.enc (([] : List api_Sent) ++ p1_)) rfl (by first | rfl | (simp; done) | simp only [partMap, List.length_map, List.length_append, List.nil_append, Nat.zero_add, List.length_nil]) (by first | rfl | (simp; done) | simp only [partMap, List.map_append, List.nil_append, List.map_nil]) ?_; refine R.nil ?_; refine R.at_ rfl rfl ?_; refine Zo (.row 900002 1 s11.length) rfl rfl ?_; refine R.nil ?_; refine R.at_ rfl rfl ?_; refine Y1 rfl ?_; refine chkK h fun g146 h => ?_; refine W.chk rfl (appChk (fun _ => rfl) g146) ?_; refine W.app rfl rfl ?_; refine R.nil ?_; refine R.at_ rfl rfl ?_; refine Zo (VF (List.map api_Event.enc p_)) rfl rfl ?_; refine R.nil ?_; refine R.at_ rfl rfl ?_; refine Zo (.lp 900000 1 1) rfl rfl ?_; refine R.nil ?_; refine R.at_ rfl rfl ?_; refine Zo (VI p5_.Event) rfl rfl ?_; refine R.nil ?_; refine R.at_ rfl rfl ?_; refine Zo (.lp 900000 1 3) rfl rfl ?_; refine R.nil ?_; refine R.at_ rfl rfl ?_; refine Zo (VI p5_.Step) rfl rfl ?_; refine R.nil ?_; refine R.at_ rfl rfl ?_; refine Y1 rfl ?_; refine bindK h fun y147 hy147 h => ?_; refine W.call rfl (debt_Asked_fn hy147) ?_; refine W.v (.row 143 2 (List.map (encI .i64) y147).length) (.row 143 2 y147.length) (Mem.add (Mem.set _ 134 4 (some (.rows 3 (List.map api_Sent.enc ((([] : List api_Sent) ++ p1_) ++ s11)) true))) 143 (.rows 1 (List.map (encI .i64) y147) false)) rfl (by simp only [List.length_map]) ?_; refine R.nil ?_; refine R.at_ rfl rfl ?_; refine Zo (.row 143 2 y147.length) rfl rfl ?_; refine R.nil ?_; refine R.end_ ?_; refine Zop 5 rfl ?_; refine YT rfl rfl rfl h (fun _ h => ?_) (fun _ h => ?_)
          · refine W.det (.row 132 2 y144.length) _ rfl ?_; refine Zu (.row 143 2 y147.length) rfl rfl rfl rfl ?_; refine Y2 rfl rfl rfl ?_; refine bindK h fun y148 hy148 h => ?_; refine W.call rfl (ref44_Ints_fn hy148) ?_; refine Zwp 3 rfl ?_; refine YT rfl rfl rfl h (fun _ h => ?_) (fun _ h => ?_)
            · refine W.det (.row 900001 1 y6.length) _ rfl ?_; refine Zpp 2 rfl ?_; refine Zv (.row 154 2 0) (Mem.add _ 154 (.rows 4 (List.map api_Order.enc ([] : List api_Order)) false)) rfl rfl rfl rfl ?_; refine Zpp 1 rfl ?_; refine Y2 rfl rfl rfl ?_; refine chkK h fun g149 h => ?_; refine W.chk rfl (appChk (fun _ => rfl) g149) ?_; refine W.rows (0 + (List.map api_Order.enc p2_).length) (([] : List api_Order) ++ p2_).length ([] ++ (List.map api_Order.enc p2_)) (List.map api_Order.enc (([] : List api_Order) ++ p2_)) rfl (by first | rfl | (simp; done) | simp only [partMap, List.length_map, List.length_append, List.nil_append, Nat.zero_add, List.length_nil]) (by first | rfl | (simp; done) | simp only [partMap, List.map_append, List.nil_append, List.map_nil]) ?_; refine Zpp 1 rfl ?_; refine Y2 rfl rfl rfl ?_; refine chkK h fun g150 h => ?_; refine W.chk rfl (appChk (fun _ => rfl) g150) ?_; refine W.app rfl rfl ?_; refine Zpp 1 rfl ?_; refine Y2 rfl rfl rfl ?_; refine bindK h fun y151 hy151 h => ?_; refine W.call rfl (debt_Open_fn hy151) ?_; refine W.v (.row 160 2 (List.map api_Debt.enc y151).length) (.row 160 2 y151.length) (Mem.add (Mem.set _ 154 4 (some (.rows 4 (List.map api_Order.enc ((([] : List api_Order) ++ p2_) ++ p2_)) true))) 160 (.rows 2 (List.map api_Debt.enc y151) false)) rfl (by simp only [List.length_map]) ?_; refine Y2 rfl rfl rfl ?_; refine bindK h fun y152 hy152 h => ?_; refine W.call rfl (ref44_Same_fn hy152) ?_; refine Zwb 6 rfl ?_; cases h; cases hG; exact ⟨rfl, trivial⟩
            · refine Zpb 15 rfl ?_; cases h; cases hG; exact ⟨rfl, trivial⟩
          · refine Zpb 20 rfl ?_; cases h; cases hG; exact ⟨rfl, trivial⟩
end Go.Proofs.Ytomfmjejoocmmaa

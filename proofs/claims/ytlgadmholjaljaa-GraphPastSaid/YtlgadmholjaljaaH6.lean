/-
  Plain programs of functions, and that the functions do what they say. Printed by wip/tools/gen.py.
-/
import Derived.Test.YtlgadmholjaljaaG3
namespace Go.Proofs.Ytlgadmholjaljaa
open Go.RowKit
attribute [local irreducible] IntKind.wrap AW runL Step.wp
set_option linter.unusedVariables false
set_option maxHeartbeats 4000000
set_option maxRecDepth 100000
noncomputable def law07_GraphPast_L1 (y11946 : (List Int)) (s666 : (Int × Int)) (y5 : (List Int)) (y4 : graph_Graph) (s693 : Bool × Int) : Option ((Bool × Int) ⊕ ((Bool) ⊕ ((Int) ⊕ ((Int × Int) ⊕ ((Int) ⊕ ((Unit) ⊕ ((Int) ⊕ ((Unit) ⊕ (Bool))))))))) :=
  (bif (decide (s693.2 < ((y11946.length : Nat) : Int))) then
    (bif s693.1 then
      some (.inl (true, (IntKind.i64.wrap (s693.2 + (1 : Int)))))
    else
      (chkO (decide (0 ≤ s666.2) && decide (s666.2 < ((y5.length : Nat) : Int)))).bind fun _ =>
      (getI y5 s666.2).bind fun x13000 =>
      (chkO (decide (0 ≤ s693.2) && decide (s693.2 < ((y11946.length : Nat) : Int)))).bind fun _ =>
      (getI y11946 s693.2).bind fun x13002 =>
      (graph_Graph_Before y4 x13000 x13002).bind fun y13003 =>
      some (.inl (y13003, (IntKind.i64.wrap (s693.2 + (1 : Int))))))
  else
    some (.inr (.inl s693.1)))
noncomputable def law07_GraphPast_L2 (y5 : (List Int)) (y11946 : (List Int)) (y4 : graph_Graph) (y11944 : (List Int)) (s348 : (Int)) (s666 : Int × Int) : Option ((Int × Int) ⊕ ((Int) ⊕ ((Unit) ⊕ ((Int) ⊕ ((Unit) ⊕ (Bool)))))) :=
  (bif (decide (s666.2 < ((y5.length : Nat) : Int))) then
    (seqF (A := Int) (
      (chkO (decide (0 ≤ s666.2) && decide (s666.2 < ((y5.length : Nat) : Int)))).bind fun _ =>
      (getI y5 s666.2).bind fun x12938 =>
      (ref07_Has y11946 x12938).bind fun y12939 =>
      (seqF (A := Int) (
        (bif y12939 then
          (graph_Graph_Level y4 x12938).bind fun y12943 =>
          some (.inl (if s666.1 < (IntKind.i64.wrap (y12943 + (1 : Int))) then (IntKind.i64.wrap (y12943 + (1 : Int))) else s666.1))
        else
          some (.inl s666.1)))
      fun s690 =>
        (seqF (A := Bool) (
          loopF (law07_GraphPast_L1 y11946 s666 y5 y4) (y12939, (0 : Int)))
        fun s692 =>
          (chkO (decide (0 ≤ s666.2) && decide (s666.2 < ((y5.length : Nat) : Int)))).bind fun _ =>
          (getI y5 s666.2).bind fun x13005 =>
          (ref07_Has y11944 x13005).bind fun y13006 =>
          (bif (!(y13006 == s692)) then
            some (.inr (.inr (.inr (.inr (.inr (.inr false))))))
          else
            (chkO (decide (0 ≤ s348) && decide (s348 < ((y5.length : Nat) : Int)))).bind fun _ =>
            (getI y5 s348).bind fun x13019 =>
            (graph_Graph_Before y4 x13005 x13019).bind fun y13020 =>
            (bif (!(y13006 == y13020)) then
              some (.inr (.inr (.inr (.inr (.inr (.inr false))))))
            else
              (bif y13006 then
                (bif (decide (x13019 ≤ x13005)) then
                  some (.inr (.inr (.inr (.inr (.inr (.inr false))))))
                else
                  (graph_Graph_Level y4 x13005).bind fun y13024 =>
                  (graph_Graph_Level y4 x13019).bind fun y13026 =>
                  (bif (decide (y13026 ≤ y13024)) then
                    some (.inr (.inr (.inr (.inr (.inr (.inr false))))))
                  else
                    some (.inl s690)))
              else
                some (.inl s690)))))))
    fun s689 =>
      some (.inl (s689, (IntKind.i64.wrap (s666.2 + (1 : Int))))))
  else
    some (.inr (.inl s666.1)))
noncomputable def law07_GraphPast_L3 (y5 : (List Int)) (y4 : graph_Graph) (s348 : Int) : Option ((Int) ⊕ ((Unit) ⊕ (Bool))) :=
  (bif (decide (s348 < ((y5.length : Nat) : Int))) then
    (seqF (A := Unit) (
      (chkO (decide (0 ≤ s348) && decide (s348 < ((y5.length : Nat) : Int)))).bind fun _ =>
      (getI y5 s348).bind fun x11943 =>
      (graph_Graph_Past y4 x11943).bind fun y11944 =>
      (graph_Graph_Parents y4 x11943).bind fun y11946 =>
      (seqF (A := Int) (
        loopF (law07_GraphPast_L2 y5 y11946 y4 y11944 s348) ((0 : Int), (0 : Int)))
      fun s665 =>
        (chkO (decide (0 ≤ s348) && decide (s348 < ((y5.length : Nat) : Int)))).bind fun _ =>
        (getI y5 s348).bind fun x13028 =>
        (graph_Graph_Level y4 x13028).bind fun y13029 =>
        (bif (y13029 != s665) then
          some (.inr (.inr (.inr false)))
        else
          some (.inl ()))))
    fun s636 =>
      some (.inl (IntKind.i64.wrap (s348 + (1 : Int)))))
  else
    some (.inr (.inl ())))
noncomputable def law07_GraphPast (l_ : (List api_Node)) : Option (Bool) :=
  (law07_small).bind fun y1 =>
  (ref07_Few l_ (20 : Int)).bind fun y3 =>
  (bif (!y3) then
    some y1
  else
    (law07_known l_).bind fun y4 =>
    (law07_all y4 l_).bind fun y5 =>
    (seqF (A := Unit) (
      loopF (law07_GraphPast_L3 y5 y4) (0 : Int))
    fun s347 =>
      some y1))
theorem law07_GraphPast_fn {l_ : (List api_Node)} {r : Bool} (h : law07_GraphPast l_ = some r) : Fn False Try.prog 6 [VF (List.map api_Node.enc l_)] (VB r) := by
  refine Fn.of_AW (dr := False) (F := FnX False Try.prog) (base := 0) (js := [10, 16, 20, 24, 27, 29]) mixed tok noeqs (fun _ _ _ h => h) Try.call6 Try.func6 rfl Try.ntmps6 (by rw [Try.results6]) (by simp) ?_; have hG : (fun x => x = r) r := rfl; unfold law07_GraphPast at h; refine Zap 7 rfl ?_; refine Y1 rfl ?_; refine bindK h fun y1 hy1 h => ?_; refine W.call rfl (law07_small_fn hy1) ?_; refine Zwp 8 rfl ?_; refine Y1 rfl ?_; refine bindK h fun y3 hy3 h => ?_; refine W.call rfl (ref07_Few_fn hy3) ?_; refine Zwc 4 rfl ?_; refine A.condB rfl h (fun _ h => ?_) (fun _ h => ?_)
  · refine Zcb 8 rfl ?_; cases h; cases hG; exact ⟨rfl, trivial⟩
  · refine Zcp 5 rfl ?_; refine Y1 rfl ?_; refine bindK h fun y4 hy4 h => ?_; refine W.call rfl (law07_known_fn hy4) ?_; refine W.det (.lp 536870932 1 0) (Mem.add (Mem.add _ 268435476 (.mapi (.i .i64) (mapE (Value.int .i64) (fun x => D.ag (graph_entry.enc x)) y4.nodes))) 536870932 (.box [.mp 268435476 1])) rfl ?_; refine Zpp 17 rfl ?_; refine Y1 rfl ?_; refine bindK h fun y5 hy5 h => ?_; refine W.call rfl (Fn.toO (law07_all_fn hy5) (PlainR.ints _) rfl) ?_; refine W.v (.row 25 1 (List.map (encI .i64) y5).length) (.row 25 1 y5.length) (Mem.add _ 25 (.rows 1 (List.map (encI .i64) y5) false)) rfl (by simp only [List.length_map]) ?_; refine Zo (.row 25 1 y5.length) rfl rfl ?_; refine Zpc 2 rfl ?_; refine A.join (fun (s347 : Unit) => [(3, VB y1)]) (fun s347 => []) _ h hG rfl ?_ ?_
    · intro J f h hG; refine Zac 6 rfl ?_; refine A.loop (fun (s348 : Int) => [(3, VB y1), (4, .lp 900000 1 0), (5, .row 900001 1 y5.length), (6, VI s348)]) (fun s348 => [(900000, .box [.mp 900002 1]), (900001, .rows 1 (List.map (encI .i64) y5) false), (900002, .mapi (.i .i64) (mapE (Value.int .i64) (fun x => D.ag (graph_entry.enc x)) y4.nodes))]) _ h hG (Zf [] [(900000, (536870932, 1)), (900001, (25, 1)), (900002, (268435476, 1))] rfl rfl (Ze rfl rfl (Ze rfl rfl (Ze rfl rfl (Ze rfl rfl trivial)))) (Zc rfl rfl (Zc rfl rfl (Zc rfl rfl trivial)))) ?_; intro J s348 f h hG; unfold law07_GraphPast_L3 at h; refine Zap 4 rfl ?_; refine Zo (.row 900001 1 y5.length) rfl rfl ?_; refine Zpc 4 rfl ?_; refine A.condB rfl h (fun _ h => ?_) (fun _ h => ?_)
      · refine Zcc 2 rfl ?_; refine A.join (fun (s636 : Unit) => [(3, VB y1), (4, .lp 900000 1 0), (5, .row 900001 1 y5.length), (6, VI s348)]) (fun s636 => [(900000, .box [.mp 900002 1]), (900001, .rows 1 (List.map (encI .i64) y5) false), (900002, .mapi (.i .i64) (mapE (Value.int .i64) (fun x => D.ag (graph_entry.enc x)) y4.nodes))]) _ h hG rfl ?_ ?_
        · intro J f h hG; refine Zap 4 rfl ?_; refine Zo (.row 900001 1 y5.length) rfl rfl ?_; refine Zpp 1 rfl ?_; refine Y1 rfl ?_; refine chkK h fun g11942 h => ?_; refine W.chk rfl (by simpa using g11942) ?_; refine W.det (.rp 900001 1 s348.toNat 0) _ rfl ?_; refine Y1 rfl ?_; refine bindK h fun x11943 hx11943 h => ?_; refine W.elem rfl (elemG hx11943) ?_; refine Zwp 1 rfl ?_; refine Y1 rfl ?_; refine bindK h fun y11944 hy11944 h => ?_; refine W.call rfl (Fn.toO (graph_Graph_Past_fn hy11944) (PlainR.ints _) rfl) ?_; refine W.v (.row 37 2 (List.map (encI .i64) y11944).length) (.row 37 2 y11944.length) (Mem.add _ 37 (.rows 1 (List.map (encI .i64) y11944) false)) rfl (by simp only [List.length_map]) ?_; refine Zo (.row 37 2 y11944.length) rfl rfl ?_; refine Zpp 5 rfl ?_; refine Zo (.row 900001 1 y5.length) rfl rfl ?_; refine Zpp 1 rfl ?_; refine Y1 rfl ?_; refine W.chk rfl (by simpa using g11942) ?_; refine W.det (.rp 900001 1 s348.toNat 0) _ rfl ?_; refine Y1 rfl ?_; refine W.elem rfl (elemG hx11943) ?_; refine Zwp 1 rfl ?_; refine Y1 rfl ?_; refine bindK h fun y11946 hy11946 h => ?_; refine W.call rfl (Fn.toO (graph_Graph_Parents_fn hy11946) (PlainR.ints _) rfl) ?_; refine W.v (.row 43 2 (List.map (encI .i64) y11946).length) (.row 43 2 y11946.length) (Mem.add _ 43 (.rows 1 (List.map (encI .i64) y11946) false)) rfl (by simp only [List.length_map]) ?_; refine Zo (.row 43 2 y11946.length) rfl rfl ?_; refine Zpc 7 rfl ?_; refine A.join (fun (s665 : Int) => [(3, VB y1), (4, .lp 900000 1 0), (5, .row 900001 1 y5.length), (6, VI s348), (9, VI s665)]) (fun s665 => [(900000, .box [.mp 900002 1]), (900001, .rows 1 (List.map (encI .i64) y5) false), (900002, .mapi (.i .i64) (mapE (Value.int .i64) (fun x => D.ag (graph_entry.enc x)) y4.nodes))]) _ h hG rfl ?_ ?_
          · intro J f h hG; refine Zac 6 rfl ?_; refine A.loop (fun (s666 : Int × Int) => [(3, VB y1), (4, .lp 900000 1 0), (5, .row 900001 1 y5.length), (6, VI s348), (7, .row 900002 1 y11944.length), (8, .row 900003 1 y11946.length), (9, VI s666.1), (10, VI s666.2)]) (fun s666 => [(900000, .box [.mp 900004 1]), (900001, .rows 1 (List.map (encI .i64) y5) false), (900002, .rows 1 (List.map (encI .i64) y11944) false), (900003, .rows 1 (List.map (encI .i64) y11946) false), (900004, .mapi (.i .i64) (mapE (Value.int .i64) (fun x => D.ag (graph_entry.enc x)) y4.nodes))]) _ h hG (Zf [] [(900000, (900000, 1)), (900001, (900001, 1)), (900002, (37, 2)), (900003, (43, 2)), (900004, (900002, 1))] rfl rfl (Ze rfl rfl (Ze rfl rfl (Ze rfl rfl (Ze rfl rfl (Ze rfl rfl (Ze rfl rfl (Ze rfl rfl (Ze rfl rfl trivial)))))))) (Zc rfl rfl (Zc rfl rfl (Zc rfl rfl (Zc rfl rfl (Zc rfl rfl trivial)))))) ?_; intro J s666 f h hG; unfold law07_GraphPast_L2 at h; refine Zap 4 rfl ?_; refine Zo (.row 900001 1 y5.length) rfl rfl ?_; refine Zpc 4 rfl ?_; refine A.condB rfl h (fun _ h => ?_) (fun _ h => ?_)
            · refine Zcc 2 rfl ?_; refine A.join (fun (s689 : Int) => [(3, VB y1), (4, .lp 900000 1 0), (5, .row 900001 1 y5.length), (6, VI s348), (7, .row 900002 1 y11944.length), (8, .row 900003 1 y11946.length), (9, VI s689), (10, VI s666.2)]) (fun s689 => [(900000, .box [.mp 900004 1]), (900001, .rows 1 (List.map (encI .i64) y5) false), (900002, .rows 1 (List.map (encI .i64) y11944) false), (900003, .rows 1 (List.map (encI .i64) y11946) false), (900004, .mapi (.i .i64) (mapE (Value.int .i64) (fun x => D.ag (graph_entry.enc x)) y4.nodes))]) _ h hG rfl ?_ ?_
              · intro J f h hG; refine Zap 3 rfl ?_; refine Zo (.row 900003 1 y11946.length) rfl rfl ?_; refine Zo (.row 900001 1 y5.length) rfl rfl ?_; refine Zpp 1 rfl ?_; refine Y1 rfl ?_; refine chkK h fun g12937 h => ?_; refine W.chk rfl (by simpa using g12937) ?_; refine W.det (.rp 900001 1 s666.2.toNat 0) _ rfl ?_; refine Y1 rfl ?_; refine bindK h fun x12938 hx12938 h => ?_; refine W.elem rfl (elemG hx12938) ?_; refine Zwp 1 rfl ?_; refine Y1 rfl ?_; refine bindK h fun y12939 hy12939 h => ?_; refine W.call rfl (ref07_Has_fn hy12939) ?_; refine Zwc 4 rfl ?_; refine A.join (fun (s690 : Int) => [(3, VB y1), (4, .lp 900000 1 0), (5, .row 900001 1 y5.length), (6, VI s348), (7, .row 900002 1 y11944.length), (8, .row 900003 1 y11946.length), (9, VI s690), (10, VI s666.2), (11, VB y12939)]) (fun s690 => [(900000, .box [.mp 900004 1]), (900001, .rows 1 (List.map (encI .i64) y5) false), (900002, .rows 1 (List.map (encI .i64) y11944) false), (900003, .rows 1 (List.map (encI .i64) y11946) false), (900004, .mapi (.i .i64) (mapE (Value.int .i64) (fun x => D.ag (graph_entry.enc x)) y4.nodes))]) _ h hG rfl ?_ ?_
                · intro J f h hG; refine Zac 5 rfl ?_; refine A.condB rfl h (fun _ h => ?_) (fun _ h => ?_)
                  · refine Zcp 3 rfl ?_; refine Zo (.row 900001 1 y5.length) rfl rfl ?_; refine Zpp 1 rfl ?_; refine Y1 rfl ?_; refine W.chk rfl (by simpa using g12937) ?_; refine W.det (.rp 900001 1 s666.2.toNat 0) _ rfl ?_; refine Y1 rfl ?_; refine W.elem rfl (elemG hx12938) ?_; refine Zwp 1 rfl ?_; refine Y1 rfl ?_; refine bindK h fun y12943 hy12943 h => ?_; refine W.call rfl (Fn.toO (graph_Graph_Level_fn hy12943) trivial rfl) ?_; refine Zwb 5 rfl ?_; cases h; exact Zh hG [] [(900000, (900000, 1)), (900001, (900001, 1)), (900002, (900002, 1)), (900003, (900003, 1)), (900004, (900004, 1))] rfl rfl (Ze rfl rfl (Ze rfl rfl (Ze rfl rfl (Ze rfl rfl (Ze rfl rfl (Ze rfl rfl (Ze rfl rfl (Ze rfl rfl (Ze rfl rfl trivial))))))))) (Zc rfl rfl (Zc rfl rfl (Zc rfl rfl (Zc rfl rfl (Zc rfl rfl trivial)))))
                  · refine Zcb 1 rfl ?_; cases h; exact Zh hG [] [(900000, (900000, 1)), (900001, (900001, 1)), (900002, (900002, 1)), (900003, (900003, 1)), (900004, (900004, 1))] rfl rfl (Ze rfl rfl (Ze rfl rfl (Ze rfl rfl (Ze rfl rfl (Ze rfl rfl (Ze rfl rfl (Ze rfl rfl (Ze rfl rfl (Ze rfl rfl trivial))))))))) (Zc rfl rfl (Zc rfl rfl (Zc rfl rfl (Zc rfl rfl (Zc rfl rfl trivial)))))
                · intro s690 r2 h hG; refine A.join (fun (s692 : Bool) => [(3, VB y1), (4, .lp 900000 1 0), (5, .row 900001 1 y5.length), (6, VI s348), (7, .row 900002 1 y11944.length), (8, .row 900003 1 y11946.length), (9, VI s690), (10, VI s666.2), (11, VB s692)]) (fun s692 => [(900000, .box [.mp 900004 1]), (900001, .rows 1 (List.map (encI .i64) y5) false), (900002, .rows 1 (List.map (encI .i64) y11944) false), (900003, .rows 1 (List.map (encI .i64) y11946) false), (900004, .mapi (.i .i64) (mapE (Value.int .i64) (fun x => D.ag (graph_entry.enc x)) y4.nodes))]) _ h hG rfl ?_ ?_
                  · intro J f h hG; refine Zac 6 rfl ?_; refine A.loop (fun (s693 : Bool × Int) => [(3, VB y1), (4, .lp 900000 1 0), (5, .row 900001 1 y5.length), (6, VI s348), (7, .row 900002 1 y11944.length), (8, .row 900003 1 y11946.length), (9, VI s690), (10, VI s666.2), (11, VB s693.1), (12, VI s693.2)]) (fun s693 => [(900000, .box [.mp 900004 1]), (900001, .rows 1 (List.map (encI .i64) y5) false), (900002, .rows 1 (List.map (encI .i64) y11944) false), (900003, .rows 1 (List.map (encI .i64) y11946) false), (900004, .mapi (.i .i64) (mapE (Value.int .i64) (fun x => D.ag (graph_entry.enc x)) y4.nodes))]) _ h hG (Zf [] [(900000, (900000, 1)), (900001, (900001, 1)), (900002, (900002, 1)), (900003, (900003, 1)), (900004, (900004, 1))] rfl rfl (Ze rfl rfl (Ze rfl rfl (Ze rfl rfl (Ze rfl rfl (Ze rfl rfl (Ze rfl rfl (Ze rfl rfl (Ze rfl rfl (Ze rfl rfl (Ze rfl rfl trivial)))))))))) (Zc rfl rfl (Zc rfl rfl (Zc rfl rfl (Zc rfl rfl (Zc rfl rfl trivial)))))) ?_; intro J s693 f h hG; unfold law07_GraphPast_L1 at h; refine Zap 4 rfl ?_; refine Zo (.row 900003 1 y11946.length) rfl rfl ?_; refine Zpc 4 rfl ?_; refine A.condB rfl h (fun _ h => ?_) (fun _ h => ?_)
                    · refine Zcc 4 rfl ?_; refine A.regionD (by kernel_rfl) ?_; refine Zpp 2 rfl ?_; refine YF rfl rfl rfl h (fun _ h => ?_) (fun _ h => ?_)
                      · refine Zpb 19 rfl ?_; cases h; exact Zh hG [] [(900000, (900000, 1)), (900001, (900001, 1)), (900002, (900002, 1)), (900003, (900003, 1)), (900004, (900004, 1))] rfl rfl (Ze rfl rfl (Ze rfl rfl (Ze rfl rfl (Ze rfl rfl (Ze rfl rfl (Ze rfl rfl (Ze rfl rfl (Ze rfl rfl (Ze rfl rfl (Ze rfl rfl trivial)))))))))) (Zc rfl rfl (Zc rfl rfl (Zc rfl rfl (Zc rfl rfl (Zc rfl rfl trivial)))))
                      · refine Zwp 1 rfl ?_; refine Zu (.row 900001 1 y5.length) rfl rfl rfl rfl ?_; refine Zpp 1 rfl ?_; refine Y2 rfl rfl rfl ?_; refine chkK h fun g12999 h => ?_; refine W.chk rfl (by simpa using g12999) ?_; refine W.det (.rp 900001 1 s666.2.toNat 0) _ rfl ?_; refine Y2 rfl rfl rfl ?_; refine bindK h fun x13000 hx13000 h => ?_; refine W.elem rfl (elemG hx13000) ?_; refine Zwp 1 rfl ?_; refine Zu (.row 900003 1 y11946.length) rfl rfl rfl rfl ?_; refine Zpp 1 rfl ?_; refine Y2 rfl rfl rfl ?_; refine chkK h fun g13001 h => ?_; refine W.chk rfl (by simpa using g13001) ?_; refine W.det (.rp 900003 1 s693.2.toNat 0) _ rfl ?_; refine Y2 rfl rfl rfl ?_; refine bindK h fun x13002 hx13002 h => ?_; refine W.elem rfl (elemG hx13002) ?_; refine Zwp 1 rfl ?_; refine Y2 rfl rfl rfl ?_; refine bindK h fun y13003 hy13003 h => ?_; refine W.call rfl (Fn.toO (graph_Graph_Before_fn hy13003) trivial rfl) ?_; refine Zwb 11 rfl ?_; cases h; exact Zh hG [] [(900000, (900000, 1)), (900001, (900001, 1)), (900002, (900002, 1)), (900003, (900003, 1)), (900004, (900004, 1))] rfl rfl (Ze rfl rfl (Ze rfl rfl (Ze rfl rfl (Ze rfl rfl (Ze rfl rfl (Ze rfl rfl (Ze rfl rfl (Ze rfl rfl (Ze rfl rfl (Ze rfl rfl trivial)))))))))) (Zc rfl rfl (Zc rfl rfl (Zc rfl rfl (Zc rfl rfl (Zc rfl rfl trivial)))))
                    · refine Zcb 2 rfl ?_; refine headK.e ?_; refine Zob 1 rfl ?_; cases h; exact Zh hG [] [(900000, (900000, 1)), (900001, (900001, 1)), (900002, (900002, 1)), (900003, (900003, 1)), (900004, (900004, 1))] rfl rfl (Ze rfl rfl (Ze rfl rfl (Ze rfl rfl (Ze rfl rfl (Ze rfl rfl (Ze rfl rfl (Ze rfl rfl (Ze rfl rfl (Ze rfl rfl trivial))))))))) (Zc rfl rfl (Zc rfl rfl (Zc rfl rfl (Zc rfl rfl (Zc rfl rfl trivial)))))
                  · intro s692 r2 h hG; refine Zcp 2 rfl ?_; refine Zo (.row 900002 1 y11944.length) rfl rfl ?_; refine Zo (.row 900001 1 y5.length) rfl rfl ?_; refine Zpp 1 rfl ?_; refine Y1 rfl ?_; refine chkK h fun g13004 h => ?_; refine W.chk rfl (by simpa using g13004) ?_; refine W.det (.rp 900001 1 s666.2.toNat 0) _ rfl ?_; refine Y1 rfl ?_; refine bindK h fun x13005 hx13005 h => ?_; refine W.elem rfl (elemG hx13005) ?_; refine Zwp 1 rfl ?_; refine Y1 rfl ?_; refine bindK h fun y13006 hy13006 h => ?_; refine W.call rfl (ref07_Has_fn hy13006) ?_; refine Zwc 5 rfl ?_; refine A.regionD (by kernel_rfl) ?_; refine Zpp 4 rfl ?_; refine YF rfl rfl rfl h (fun _ h => ?_) (fun _ h => ?_)
                    · refine Zpb 51 rfl ?_; refine headK.r ?_; refine headK.r ?_; refine Zob 1 rfl ?_; refine headK.r ?_; refine Zob 1 rfl ?_; refine headK.r ?_; refine headK.r ?_; refine Zob 1 rfl ?_; refine headK.r ?_; cases h; cases hG; exact ⟨rfl, trivial⟩
                    · refine Zwp 2 rfl ?_; refine Zu (.row 900001 1 y5.length) rfl rfl rfl rfl ?_; refine Zpp 1 rfl ?_; refine Y2 rfl rfl rfl ?_; refine W.chk rfl (by simpa using g13004) ?_; refine W.det (.rp 900001 1 s666.2.toNat 0) _ rfl ?_; refine Y2 rfl rfl rfl ?_; refine W.elem rfl (elemG hx13005) ?_; refine Zwp 1 rfl ?_; refine Zu (.row 900001 1 y5.length) rfl rfl rfl rfl ?_; refine Zpp 1 rfl ?_; refine Y2 rfl rfl rfl ?_; refine chkK h fun g13018 h => ?_; refine W.chk rfl (by simpa using g13018) ?_; refine W.det (.rp 900001 1 s348.toNat 0) _ rfl ?_; refine Y2 rfl rfl rfl ?_; refine bindK h fun x13019 hx13019 h => ?_; refine W.elem rfl (elemG hx13019) ?_; refine Zwp 1 rfl ?_; refine Y2 rfl rfl rfl ?_; refine bindK h fun y13020 hy13020 h => ?_; refine W.call rfl (Fn.toO (graph_Graph_Before_fn hy13020) trivial rfl) ?_; refine Zwp 4 rfl ?_; refine YF rfl rfl rfl h (fun _ h => ?_) (fun _ h => ?_)
                      · refine Zpb 37 rfl ?_; refine headK.r ?_; refine headK.r ?_; refine Zob 1 rfl ?_; refine headK.r ?_; refine Zob 1 rfl ?_; refine headK.r ?_; refine headK.r ?_; refine Zob 1 rfl ?_; refine headK.r ?_; cases h; cases hG; exact ⟨rfl, trivial⟩
                      · refine Zwp 2 rfl ?_; refine YT rfl rfl rfl h (fun _ h => ?_) (fun _ h => ?_)
                        · refine W.det (.row 900001 1 y5.length) _ rfl ?_; refine Zpp 1 rfl ?_; refine Y2 rfl rfl rfl ?_; refine W.chk rfl (by simpa using g13004) ?_; refine W.det (.rp 900001 1 s666.2.toNat 0) _ rfl ?_; refine Y2 rfl rfl rfl ?_; refine W.elem rfl (elemG hx13005) ?_; refine Zwp 1 rfl ?_; refine Zu (.row 900001 1 y5.length) rfl rfl rfl rfl ?_; refine Zpp 1 rfl ?_; refine Y2 rfl rfl rfl ?_; refine W.chk rfl (by simpa using g13018) ?_; refine W.det (.rp 900001 1 s348.toNat 0) _ rfl ?_; refine Y2 rfl rfl rfl ?_; refine W.elem rfl (elemG hx13019) ?_; refine Zwp 3 rfl ?_; refine YF rfl rfl rfl h (fun _ h => ?_) (fun _ h => ?_)
                          · refine Zpb 25 rfl ?_; refine headK.r ?_; refine headK.r ?_; refine Zob 1 rfl ?_; refine headK.r ?_; refine Zob 1 rfl ?_; refine headK.r ?_; refine headK.r ?_; refine Zob 1 rfl ?_; refine headK.r ?_; cases h; cases hG; exact ⟨rfl, trivial⟩
                          · refine Zwp 1 rfl ?_; refine Zu (.row 900001 1 y5.length) rfl rfl rfl rfl ?_; refine Zpp 1 rfl ?_; refine Y2 rfl rfl rfl ?_; refine W.chk rfl (by simpa using g13004) ?_; refine W.det (.rp 900001 1 s666.2.toNat 0) _ rfl ?_; refine Y2 rfl rfl rfl ?_; refine W.elem rfl (elemG hx13005) ?_; refine Zwp 1 rfl ?_; refine Y2 rfl rfl rfl ?_; refine bindK h fun y13024 hy13024 h => ?_; refine W.call rfl (Fn.toO (graph_Graph_Level_fn hy13024) trivial rfl) ?_; refine Zwp 2 rfl ?_; refine Zu (.row 900001 1 y5.length) rfl rfl rfl rfl ?_; refine Zpp 1 rfl ?_; refine Y2 rfl rfl rfl ?_; refine W.chk rfl (by simpa using g13018) ?_; refine W.det (.rp 900001 1 s348.toNat 0) _ rfl ?_; refine Y2 rfl rfl rfl ?_; refine W.elem rfl (elemG hx13019) ?_; refine Zwp 1 rfl ?_; refine Y2 rfl rfl rfl ?_; refine bindK h fun y13026 hy13026 h => ?_; refine W.call rfl (Fn.toO (graph_Graph_Level_fn hy13026) trivial rfl) ?_; refine Zwc 7 rfl ?_; refine A.condB rfl h (fun _ h => ?_) (fun _ h => ?_)
                            · refine Zcb 7 rfl ?_; refine headK.r ?_; refine headK.r ?_; refine Zob 1 rfl ?_; refine headK.r ?_; refine Zob 1 rfl ?_; refine headK.r ?_; refine headK.r ?_; refine Zob 1 rfl ?_; refine headK.r ?_; cases h; cases hG; exact ⟨rfl, trivial⟩
                            · refine Zcb 2 rfl ?_; cases h; exact Zh hG [] [(900000, (900000, 1)), (900001, (900001, 1)), (900002, (900002, 1)), (900003, (900003, 1)), (900004, (900004, 1))] rfl rfl (Ze rfl rfl (Ze rfl rfl (Ze rfl rfl (Ze rfl rfl (Ze rfl rfl (Ze rfl rfl (Ze rfl rfl (Ze rfl rfl trivial)))))))) (Zc rfl rfl (Zc rfl rfl (Zc rfl rfl (Zc rfl rfl (Zc rfl rfl trivial)))))
                        · refine Zpb 30 rfl ?_; cases h; exact Zh hG [] [(900000, (900000, 1)), (900001, (900001, 1)), (900002, (900002, 1)), (900003, (900003, 1)), (900004, (900004, 1))] rfl rfl (Ze rfl rfl (Ze rfl rfl (Ze rfl rfl (Ze rfl rfl (Ze rfl rfl (Ze rfl rfl (Ze rfl rfl (Ze rfl rfl trivial)))))))) (Zc rfl rfl (Zc rfl rfl (Zc rfl rfl (Zc rfl rfl (Zc rfl rfl trivial)))))
              · intro s689 r2 h hG; refine Zcb 5 rfl ?_; cases h; exact Zh hG [] [(900000, (900000, 1)), (900001, (900001, 1)), (900002, (900002, 1)), (900003, (900003, 1)), (900004, (900004, 1))] rfl rfl (Ze rfl rfl (Ze rfl rfl (Ze rfl rfl (Ze rfl rfl (Ze rfl rfl (Ze rfl rfl (Ze rfl rfl (Ze rfl rfl trivial)))))))) (Zc rfl rfl (Zc rfl rfl (Zc rfl rfl (Zc rfl rfl (Zc rfl rfl trivial)))))
            · refine Zcb 2 rfl ?_; refine headK.e ?_; refine Zob 1 rfl ?_; cases h; exact Zh hG [] [(900000, (900000, 1)), (900001, (900001, 1)), (900002, (900004, 1))] rfl rfl (Ze rfl rfl (Ze rfl rfl (Ze rfl rfl (Ze rfl rfl (Ze rfl rfl trivial))))) (Zc rfl rfl (Zc rfl rfl (Zc rfl rfl trivial)))
          · intro s665 r2 h hG; refine Zcp 3 rfl ?_; refine Zo (.row 900001 1 y5.length) rfl rfl ?_; refine Zpp 1 rfl ?_; refine Y1 rfl ?_; refine chkK h fun g13027 h => ?_; refine W.chk rfl (by simpa using g13027) ?_; refine W.det (.rp 900001 1 s348.toNat 0) _ rfl ?_; refine Y1 rfl ?_; refine bindK h fun x13028 hx13028 h => ?_; refine W.elem rfl (elemG hx13028) ?_; refine Zwp 1 rfl ?_; refine Y1 rfl ?_; refine bindK h fun y13029 hy13029 h => ?_; refine W.call rfl (Fn.toO (graph_Graph_Level_fn hy13029) trivial rfl) ?_; refine Zwc 5 rfl ?_; refine A.condB rfl h (fun _ h => ?_) (fun _ h => ?_)
            · refine Zcb 7 rfl ?_; refine headK.r ?_; refine headK.r ?_; refine Zob 1 rfl ?_; refine headK.r ?_; cases h; cases hG; exact ⟨rfl, trivial⟩
            · refine Zcb 2 rfl ?_; cases h; exact Zh hG [] [(900000, (900000, 1)), (900001, (900001, 1)), (900002, (900002, 1))] rfl rfl (Ze rfl rfl (Ze rfl rfl (Ze rfl rfl (Ze rfl rfl trivial)))) (Zc rfl rfl (Zc rfl rfl (Zc rfl rfl trivial)))
        · intro s636 r2 h hG; refine Zcb 5 rfl ?_; cases h; exact Zh hG [] [(900000, (900000, 1)), (900001, (900001, 1)), (900002, (900002, 1))] rfl rfl (Ze rfl rfl (Ze rfl rfl (Ze rfl rfl (Ze rfl rfl trivial)))) (Zc rfl rfl (Zc rfl rfl (Zc rfl rfl trivial)))
      · refine Zcb 2 rfl ?_; refine headK.e ?_; refine Zob 1 rfl ?_; cases h; exact Zh hG [] [] rfl rfl (Ze rfl rfl trivial) trivial
    · intro s347 r2 h hG; refine Zcb 7 rfl ?_; cases h; cases hG; exact ⟨rfl, trivial⟩
end Go.Proofs.Ytlgadmholjaljaa

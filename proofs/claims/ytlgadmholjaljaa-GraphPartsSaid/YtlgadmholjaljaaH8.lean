/-
  Plain programs of functions, and that the functions do what they say. Printed by wip/tools/gen.py.
-/
import Derived.Test.YtlgadmholjaljaaG3
namespace Go.Proofs.Ytlgadmholjaljaa
open Go.RowKit
attribute [local irreducible] IntKind.wrap AW runL Step.wp
set_option linter.unusedVariables false
set_option maxHeartbeats 4000000
set_option maxRecDepth 100000
noncomputable def law07_GraphParts_L1 (some_ : (List Int)) (s30 : (Int × Int)) (y7 : (List Int)) (y6 : graph_Graph) (s56 : Bool × Int) : Option ((Bool × Int) ⊕ ((Bool) ⊕ ((Int) ⊕ ((Int × Int) ⊕ ((Int) ⊕ (Bool)))))) :=
  (bif (decide (s56.2 < (some_.length : Int))) then
    (bif s56.1 then
      some (.inl (true, (IntKind.i64.wrap (s56.2 + (1 : Int)))))
    else
      (chkO (decide (0 ≤ s30.2) && decide (s30.2 < ((y7.length : Nat) : Int)))).bind fun _ =>
      (getI y7 s30.2).bind fun x883 =>
      (getI some_ s56.2).bind fun x884 =>
      (graph_Graph_Before y6 x883 x884).bind fun y885 =>
      some (.inl (y885, (IntKind.i64.wrap (s56.2 + (1 : Int))))))
  else
    some (.inr (.inl s56.1)))
noncomputable def law07_GraphParts_L2 (y7 : (List Int)) (some_ : (List Int)) (y6 : graph_Graph) (y8 : graph_Graph) (s30 : Int × Int) : Option ((Int × Int) ⊕ ((Int) ⊕ (Bool))) :=
  (bif (decide (s30.2 < ((y7.length : Nat) : Int))) then
    (seqF (A := Int) (
      (chkO (decide (0 ≤ s30.2) && decide (s30.2 < ((y7.length : Nat) : Int)))).bind fun _ =>
      (getI y7 s30.2).bind fun x836 =>
      (ref07_Has some_ x836).bind fun y837 =>
      (seqF (A := Bool) (
        loopF (law07_GraphParts_L1 some_ s30 y7 y6) (y837, (0 : Int)))
      fun s55 =>
        (seqF (A := Int) (
          (bif s55 then
            some (.inl (IntKind.i64.wrap (s30.1 + (1 : Int))))
          else
            some (.inl s30.1)))
        fun s57 =>
          (chkO (decide (0 ≤ s30.2) && decide (s30.2 < ((y7.length : Nat) : Int)))).bind fun _ =>
          (getI y7 s30.2).bind fun x899 =>
          (graph_Graph_Has y8 x899).bind fun y900 =>
          (bif (!(y900 == s55)) then
            some (.inr (.inr (.inr false)))
          else
            (bif s55 then
              (graph_Graph_Level y8 x899).bind fun y902 =>
              (graph_Graph_Level y6 x899).bind fun y904 =>
              (bif (y902 != y904) then
                some (.inr (.inr (.inr false)))
              else
                (graph_Graph_Past y8 x899).bind fun y906 =>
                (graph_Graph_Past y6 x899).bind fun y908 =>
                (ref07_Same y906 y908).bind fun y909 =>
                (bif (!y909) then
                  some (.inr (.inr (.inr false)))
                else
                  some (.inl s57)))
            else
              some (.inl s57))))))
    fun s53 =>
      some (.inl (s53, (IntKind.i64.wrap (s30.2 + (1 : Int))))))
  else
    some (.inr (.inl s30.1)))
noncomputable def law07_GraphParts (l_ : (List api_Node)) (some_ : (List Int)) (more_ : api_Node) : Option (Bool) :=
  (law07_small).bind fun y1 =>
  (ref07_Few l_ (20 : Int)).bind fun y5 =>
  (bif (!y5) then
    some y1
  else
    (bif (decide ((20 : Int) < (some_.length : Int))) then
      some y1
    else
      (bif (decide ((30 : Int) < (more_.Parents.length : Int))) then
        some y1
      else
        (law07_known l_).bind fun y6 =>
        (law07_all y6 l_).bind fun y7 =>
        (graph_Graph_Restrict y6 some_).bind fun y8 =>
        (graph_Graph_Copy y6).bind fun y9 =>
        (seqF (A := Int) (
          loopF (law07_GraphParts_L2 y7 some_ y6 y8) ((0 : Int), (0 : Int)))
        fun s29 =>
          (graph_Graph_Restrict y8 some_).bind fun y910 =>
          (graph_Graph_Len y8).bind fun y914 =>
          (bif (y914 != s29) then
            some false
          else
            (graph_Graph_Same y910 y8).bind fun y915 =>
            (graph_Graph_Add y8 more_).bind fun y916 =>
            (bif y1 then
              (bif y915 then
                (graph_Graph_Same y9 y6).bind fun y917 =>
                some y917
              else
                some false)
            else
              some false))))))
theorem law07_GraphParts_fn {l_ : (List api_Node)} {some_ : (List Int)} {more_ : api_Node} {r : Bool} (h : law07_GraphParts l_ some_ more_ = some r) : Fn False Try.prog 8 [VF (List.map api_Node.enc l_), VF (List.map (encI .i64) some_), .agg (api_Node.av more_)] (VB r) := by
  refine Fn.of_AW (dr := False) (F := FnX False Try.prog) (base := 0) (js := [15, 21, 23, 25]) mixed tok noeqs (fun _ _ _ h => h) Try.call8 Try.func8 rfl Try.ntmps8 (by rw [Try.results8]) (by simp) ?_; have hG : (fun x => x = r) r := rfl; unfold law07_GraphParts at h; refine Zap 2 rfl ?_; refine Zm (.lp 5 1 0) (Mem.add _ 5 (.box (api_Node.av more_))) rfl rfl ?_; refine Zpp 5 rfl ?_; refine Y1 rfl ?_; refine bindK h fun y1 hy1 h => ?_; refine W.call rfl (law07_small_fn hy1) ?_; refine Zwp 8 rfl ?_; refine Y1 rfl ?_; refine bindK h fun y5 hy5 h => ?_; refine W.call rfl (ref07_Few_fn hy5) ?_; refine Zwp 3 rfl ?_; refine YF rfl rfl rfl h (fun _ h => ?_) (fun _ h => ?_)
  · refine Zpb 20 rfl ?_; cases h; cases hG; exact ⟨rfl, trivial⟩
  · refine Zwp 1 rfl ?_; refine Y2 rfl rfl rfl ?_; refine W.len rfl ?_; refine Zpp 3 rfl ?_; refine YF rfl rfl rfl h (fun _ h => ?_) (fun _ h => ?_)
    · refine Zpb 15 rfl ?_; cases h; cases hG; exact ⟨rfl, trivial⟩
    · refine Zwp 2 rfl ?_; refine Y2 rfl rfl rfl ?_; refine W.len rfl ?_; refine Zpc 4 rfl ?_; refine A.condB rfl h (fun _ h => ?_) (fun _ h => ?_)
      · refine Zcb 8 rfl ?_; cases h; cases hG; exact ⟨rfl, trivial⟩
      · refine Zcp 5 rfl ?_; refine Y1 rfl ?_; refine bindK h fun y6 hy6 h => ?_; refine W.call rfl (law07_known_fn hy6) ?_; refine W.det (.lp 536870947 1 0) (Mem.add (Mem.add _ 268435491 (.mapi (.i .i64) (mapE (Value.int .i64) (fun x => D.ag (graph_entry.enc x)) y6.nodes))) 536870947 (.box [.mp 268435491 1])) rfl ?_; refine Zpp 17 rfl ?_; refine Y1 rfl ?_; refine bindK h fun y7 hy7 h => ?_; refine W.call rfl (Fn.toO (law07_all_fn hy7) (PlainR.ints _) rfl) ?_; refine W.v (.row 40 1 (List.map (encI .i64) y7).length) (.row 40 1 y7.length) (Mem.add _ 40 (.rows 1 (List.map (encI .i64) y7) false)) rfl (by simp only [List.length_map]) ?_; refine Zo (.row 40 1 y7.length) rfl rfl ?_; refine Zpp 6 rfl ?_; refine Y1 rfl ?_; refine bindK h fun y8 hy8 h => ?_; refine W.call rfl (graph_Graph_Restrict_fn hy8) ?_; refine W.det (.lp 536870955 1 0) (Mem.add (Mem.add _ 268435499 (.mapi (.i .i64) (mapE (Value.int .i64) (fun x => D.ag (graph_entry.enc x)) y8.nodes))) 536870955 (.box [.mp 268435499 1])) rfl ?_; refine Zpp 6 rfl ?_; refine Y1 rfl ?_; refine bindK h fun y9 hy9 h => ?_; refine W.call rfl (graph_Graph_Copy_fn hy9) ?_; refine W.det (.lp 536870957 1 0) (Mem.add (Mem.add _ 268435501 (.mapi (.i .i64) (mapE (Value.int .i64) (fun x => D.ag (graph_entry.enc x)) y9.nodes))) 536870957 (.box [.mp 268435501 1])) rfl ?_; refine Zpp 9 rfl ?_; refine R.litY rfl rfl rfl ?_; refine Zwc 13 rfl ?_; refine A.join (fun (s29 : Int) => [(1, VF (List.map (encI .i64) some_)), (5, .lp 900000 1 0), (7, VB y1), (8, .lp 900001 1 0), (10, .lp 900002 1 0), (11, .lp 900003 1 0), (12, VI s29)]) (fun s29 => [(900000, .box (api_Node.av more_)), (900001, .box [.mp 900004 1]), (900002, .box [.mp 900005 1]), (900003, .box [.mp 900006 1]), (900004, .mapi (.i .i64) (mapE (Value.int .i64) (fun x => D.ag (graph_entry.enc x)) y6.nodes)), (900005, .mapi (.i .i64) (mapE (Value.int .i64) (fun x => D.ag (graph_entry.enc x)) y8.nodes)), (900006, .mapi (.i .i64) (mapE (Value.int .i64) (fun x => D.ag (graph_entry.enc x)) y9.nodes))]) _ h hG rfl ?_ ?_
        · intro J f h hG; refine Zac 6 rfl ?_; refine A.loop (fun (s30 : Int × Int) => [(1, VF (List.map (encI .i64) some_)), (5, .lp 900000 1 0), (7, VB y1), (8, .lp 900001 1 0), (9, .row 900002 1 y7.length), (10, .lp 900003 1 0), (11, .lp 900004 1 0), (12, VI s30.1), (13, VI s30.2)]) (fun s30 => [(900000, .box (api_Node.av more_)), (900001, .box [.mp 900005 1]), (900002, .rows 1 (List.map (encI .i64) y7) false), (900003, .box [.mp 900006 1]), (900004, .box [.mp 900007 1]), (900005, .mapi (.i .i64) (mapE (Value.int .i64) (fun x => D.ag (graph_entry.enc x)) y6.nodes)), (900006, .mapi (.i .i64) (mapE (Value.int .i64) (fun x => D.ag (graph_entry.enc x)) y8.nodes)), (900007, .mapi (.i .i64) (mapE (Value.int .i64) (fun x => D.ag (graph_entry.enc x)) y9.nodes))]) _ h hG (Zf [] [(900000, (5, 1)), (900001, (536870947, 1)), (900002, (40, 1)), (900003, (536870955, 1)), (900004, (536870957, 1)), (900005, (268435491, 1)), (900006, (268435499, 1)), (900007, (268435501, 1))] rfl rfl (Ze rfl rfl (Ze rfl rfl (Ze rfl rfl (Ze rfl rfl (Ze rfl rfl (Ze rfl rfl (Ze rfl rfl (Ze rfl rfl (Ze rfl rfl trivial))))))))) (Zc rfl rfl (Zc rfl rfl (Zc rfl rfl (Zc rfl rfl (Zc rfl rfl (Zc rfl rfl (Zc rfl rfl (Zc rfl rfl trivial))))))))) ?_; intro J s30 f h hG; unfold law07_GraphParts_L2 at h; refine Zap 4 rfl ?_; refine Zo (.row 900002 1 y7.length) rfl rfl ?_; refine Zpc 4 rfl ?_; refine A.condB rfl h (fun _ h => ?_) (fun _ h => ?_)
          · refine Zcc 2 rfl ?_; refine A.join (fun (s53 : Int) => [(1, VF (List.map (encI .i64) some_)), (5, .lp 900000 1 0), (7, VB y1), (8, .lp 900001 1 0), (9, .row 900002 1 y7.length), (10, .lp 900003 1 0), (11, .lp 900004 1 0), (12, VI s53), (13, VI s30.2)]) (fun s53 => [(900000, .box (api_Node.av more_)), (900001, .box [.mp 900005 1]), (900002, .rows 1 (List.map (encI .i64) y7) false), (900003, .box [.mp 900006 1]), (900004, .box [.mp 900007 1]), (900005, .mapi (.i .i64) (mapE (Value.int .i64) (fun x => D.ag (graph_entry.enc x)) y6.nodes)), (900006, .mapi (.i .i64) (mapE (Value.int .i64) (fun x => D.ag (graph_entry.enc x)) y8.nodes)), (900007, .mapi (.i .i64) (mapE (Value.int .i64) (fun x => D.ag (graph_entry.enc x)) y9.nodes))]) _ h hG rfl ?_ ?_
            · intro J f h hG; refine Zap 4 rfl ?_; refine Zo (.row 900002 1 y7.length) rfl rfl ?_; refine Zpp 1 rfl ?_; refine Y1 rfl ?_; refine chkK h fun g835 h => ?_; refine W.chk rfl (by simpa using g835) ?_; refine W.det (.rp 900002 1 s30.2.toNat 0) _ rfl ?_; refine Y1 rfl ?_; refine bindK h fun x836 hx836 h => ?_; refine W.elem rfl (elemG hx836) ?_; refine Zwp 1 rfl ?_; refine Y1 rfl ?_; refine bindK h fun y837 hy837 h => ?_; refine W.call rfl (ref07_Has_fn hy837) ?_; refine Zwc 4 rfl ?_; refine A.join (fun (s55 : Bool) => [(1, VF (List.map (encI .i64) some_)), (5, .lp 900000 1 0), (7, VB y1), (8, .lp 900001 1 0), (9, .row 900002 1 y7.length), (10, .lp 900003 1 0), (11, .lp 900004 1 0), (12, VI s30.1), (13, VI s30.2), (14, VB s55)]) (fun s55 => [(900000, .box (api_Node.av more_)), (900001, .box [.mp 900005 1]), (900002, .rows 1 (List.map (encI .i64) y7) false), (900003, .box [.mp 900006 1]), (900004, .box [.mp 900007 1]), (900005, .mapi (.i .i64) (mapE (Value.int .i64) (fun x => D.ag (graph_entry.enc x)) y6.nodes)), (900006, .mapi (.i .i64) (mapE (Value.int .i64) (fun x => D.ag (graph_entry.enc x)) y8.nodes)), (900007, .mapi (.i .i64) (mapE (Value.int .i64) (fun x => D.ag (graph_entry.enc x)) y9.nodes))]) _ h hG rfl ?_ ?_
              · intro J f h hG; refine Zac 6 rfl ?_; refine A.loop (fun (s56 : Bool × Int) => [(1, VF (List.map (encI .i64) some_)), (5, .lp 900000 1 0), (7, VB y1), (8, .lp 900001 1 0), (9, .row 900002 1 y7.length), (10, .lp 900003 1 0), (11, .lp 900004 1 0), (12, VI s30.1), (13, VI s30.2), (14, VB s56.1), (15, VI s56.2)]) (fun s56 => [(900000, .box (api_Node.av more_)), (900001, .box [.mp 900005 1]), (900002, .rows 1 (List.map (encI .i64) y7) false), (900003, .box [.mp 900006 1]), (900004, .box [.mp 900007 1]), (900005, .mapi (.i .i64) (mapE (Value.int .i64) (fun x => D.ag (graph_entry.enc x)) y6.nodes)), (900006, .mapi (.i .i64) (mapE (Value.int .i64) (fun x => D.ag (graph_entry.enc x)) y8.nodes)), (900007, .mapi (.i .i64) (mapE (Value.int .i64) (fun x => D.ag (graph_entry.enc x)) y9.nodes))]) _ h hG (Zf [] [(900000, (900000, 1)), (900001, (900001, 1)), (900002, (900002, 1)), (900003, (900003, 1)), (900004, (900004, 1)), (900005, (900005, 1)), (900006, (900006, 1)), (900007, (900007, 1))] rfl rfl (Ze rfl rfl (Ze rfl rfl (Ze rfl rfl (Ze rfl rfl (Ze rfl rfl (Ze rfl rfl (Ze rfl rfl (Ze rfl rfl (Ze rfl rfl (Ze rfl rfl (Ze rfl rfl trivial))))))))))) (Zc rfl rfl (Zc rfl rfl (Zc rfl rfl (Zc rfl rfl (Zc rfl rfl (Zc rfl rfl (Zc rfl rfl (Zc rfl rfl trivial))))))))) ?_; intro J s56 f h hG; unfold law07_GraphParts_L1 at h; refine Zap 5 rfl ?_; refine Y1 rfl ?_; refine W.len rfl ?_; refine Zpc 3 rfl ?_; refine A.condB rfl h (fun _ h => ?_) (fun _ h => ?_)
                · refine Zcc 4 rfl ?_; refine A.regionD (by kernel_rfl) ?_; refine Zpp 2 rfl ?_; refine YF rfl rfl rfl h (fun _ h => ?_) (fun _ h => ?_)
                  · refine Zpb 19 rfl ?_; cases h; exact Zh hG [] [(900000, (900000, 1)), (900001, (900001, 1)), (900002, (900002, 1)), (900003, (900003, 1)), (900004, (900004, 1)), (900005, (900005, 1)), (900006, (900006, 1)), (900007, (900007, 1))] rfl rfl (Ze rfl rfl (Ze rfl rfl (Ze rfl rfl (Ze rfl rfl (Ze rfl rfl (Ze rfl rfl (Ze rfl rfl (Ze rfl rfl (Ze rfl rfl (Ze rfl rfl (Ze rfl rfl trivial))))))))))) (Zc rfl rfl (Zc rfl rfl (Zc rfl rfl (Zc rfl rfl (Zc rfl rfl (Zc rfl rfl (Zc rfl rfl (Zc rfl rfl trivial))))))))
                  · refine Zwp 1 rfl ?_; refine Zu (.row 900002 1 y7.length) rfl rfl rfl rfl ?_; refine Zpp 1 rfl ?_; refine Y2 rfl rfl rfl ?_; refine chkK h fun g882 h => ?_; refine W.chk rfl (by simpa using g882) ?_; refine W.det (.rp 900002 1 s30.2.toNat 0) _ rfl ?_; refine Y2 rfl rfl rfl ?_; refine bindK h fun x883 hx883 h => ?_; refine W.elem rfl (elemG hx883) ?_; refine Zwp 3 rfl ?_; refine Y2 rfl rfl rfl ?_; refine bindK h fun x884 hx884 h => ?_; refine W.chk rfl (elemB hx884) ?_; refine W.elem rfl (elemG hx884) ?_; refine W.chk rfl rfl ?_; refine W.det (.fp [.v (.int .i64 x884)]) _ rfl ?_; refine Zpp 1 rfl ?_; refine Y2 rfl rfl rfl ?_; refine bindK h fun y885 hy885 h => ?_; refine W.call rfl (Fn.toO (graph_Graph_Before_fn hy885) trivial rfl) ?_; refine Zwb 11 rfl ?_; cases h; exact Zh hG [] [(900000, (900000, 1)), (900001, (900001, 1)), (900002, (900002, 1)), (900003, (900003, 1)), (900004, (900004, 1)), (900005, (900005, 1)), (900006, (900006, 1)), (900007, (900007, 1))] rfl rfl (Ze rfl rfl (Ze rfl rfl (Ze rfl rfl (Ze rfl rfl (Ze rfl rfl (Ze rfl rfl (Ze rfl rfl (Ze rfl rfl (Ze rfl rfl (Ze rfl rfl (Ze rfl rfl trivial))))))))))) (Zc rfl rfl (Zc rfl rfl (Zc rfl rfl (Zc rfl rfl (Zc rfl rfl (Zc rfl rfl (Zc rfl rfl (Zc rfl rfl trivial))))))))
                · refine Zcb 2 rfl ?_; refine headK.e ?_; refine Zob 1 rfl ?_; cases h; exact Zh hG [] [(900000, (900000, 1)), (900001, (900001, 1)), (900002, (900002, 1)), (900003, (900003, 1)), (900004, (900004, 1)), (900005, (900005, 1)), (900006, (900006, 1)), (900007, (900007, 1))] rfl rfl (Ze rfl rfl (Ze rfl rfl (Ze rfl rfl (Ze rfl rfl (Ze rfl rfl (Ze rfl rfl (Ze rfl rfl (Ze rfl rfl (Ze rfl rfl (Ze rfl rfl trivial)))))))))) (Zc rfl rfl (Zc rfl rfl (Zc rfl rfl (Zc rfl rfl (Zc rfl rfl (Zc rfl rfl (Zc rfl rfl (Zc rfl rfl trivial))))))))
              · intro s55 r2 h hG; refine A.join (fun (s57 : Int) => [(1, VF (List.map (encI .i64) some_)), (5, .lp 900000 1 0), (7, VB y1), (8, .lp 900001 1 0), (9, .row 900002 1 y7.length), (10, .lp 900003 1 0), (11, .lp 900004 1 0), (12, VI s57), (13, VI s30.2), (14, VB s55)]) (fun s57 => [(900000, .box (api_Node.av more_)), (900001, .box [.mp 900005 1]), (900002, .rows 1 (List.map (encI .i64) y7) false), (900003, .box [.mp 900006 1]), (900004, .box [.mp 900007 1]), (900005, .mapi (.i .i64) (mapE (Value.int .i64) (fun x => D.ag (graph_entry.enc x)) y6.nodes)), (900006, .mapi (.i .i64) (mapE (Value.int .i64) (fun x => D.ag (graph_entry.enc x)) y8.nodes)), (900007, .mapi (.i .i64) (mapE (Value.int .i64) (fun x => D.ag (graph_entry.enc x)) y9.nodes))]) _ h hG rfl ?_ ?_
                · intro J f h hG; refine Zac 5 rfl ?_; refine A.condB rfl h (fun _ h => ?_) (fun _ h => ?_)
                  · refine Zcb 5 rfl ?_; cases h; exact Zh hG [] [(900000, (900000, 1)), (900001, (900001, 1)), (900002, (900002, 1)), (900003, (900003, 1)), (900004, (900004, 1)), (900005, (900005, 1)), (900006, (900006, 1)), (900007, (900007, 1))] rfl rfl (Ze rfl rfl (Ze rfl rfl (Ze rfl rfl (Ze rfl rfl (Ze rfl rfl (Ze rfl rfl (Ze rfl rfl (Ze rfl rfl (Ze rfl rfl (Ze rfl rfl trivial)))))))))) (Zc rfl rfl (Zc rfl rfl (Zc rfl rfl (Zc rfl rfl (Zc rfl rfl (Zc rfl rfl (Zc rfl rfl (Zc rfl rfl trivial))))))))
                  · refine Zcb 1 rfl ?_; cases h; exact Zh hG [] [(900000, (900000, 1)), (900001, (900001, 1)), (900002, (900002, 1)), (900003, (900003, 1)), (900004, (900004, 1)), (900005, (900005, 1)), (900006, (900006, 1)), (900007, (900007, 1))] rfl rfl (Ze rfl rfl (Ze rfl rfl (Ze rfl rfl (Ze rfl rfl (Ze rfl rfl (Ze rfl rfl (Ze rfl rfl (Ze rfl rfl (Ze rfl rfl (Ze rfl rfl trivial)))))))))) (Zc rfl rfl (Zc rfl rfl (Zc rfl rfl (Zc rfl rfl (Zc rfl rfl (Zc rfl rfl (Zc rfl rfl (Zc rfl rfl trivial))))))))
                · intro s57 r2 h hG; refine Zcc 1 rfl ?_; refine A.regionD (by kernel_rfl) ?_; refine Zpp 1 rfl ?_; refine Zo (.row 900002 1 y7.length) rfl rfl ?_; refine Zpp 1 rfl ?_; refine Y1 rfl ?_; refine chkK h fun g898 h => ?_; refine W.chk rfl (by simpa using g898) ?_; refine W.det (.rp 900002 1 s30.2.toNat 0) _ rfl ?_; refine Y1 rfl ?_; refine bindK h fun x899 hx899 h => ?_; refine W.elem rfl (elemG hx899) ?_; refine Zwp 1 rfl ?_; refine Y1 rfl ?_; refine bindK h fun y900 hy900 h => ?_; refine W.call rfl (Fn.toO (graph_Graph_Has_fn hy900) trivial rfl) ?_; refine Zwp 4 rfl ?_; refine YF rfl rfl rfl h (fun _ h => ?_) (fun _ h => ?_)
                  · refine Zpb 42 rfl ?_; refine headK.r ?_; refine headK.r ?_; refine Zob 1 rfl ?_; refine headK.r ?_; cases h; cases hG; exact ⟨rfl, trivial⟩
                  · refine Zwp 2 rfl ?_; refine YT rfl rfl rfl h (fun _ h => ?_) (fun _ h => ?_)
                    · refine Zwp 1 rfl ?_; refine Zu (.row 900002 1 y7.length) rfl rfl rfl rfl ?_; refine Zpp 1 rfl ?_; refine Y2 rfl rfl rfl ?_; refine W.chk rfl (by simpa using g898) ?_; refine W.det (.rp 900002 1 s30.2.toNat 0) _ rfl ?_; refine Y2 rfl rfl rfl ?_; refine W.elem rfl (elemG hx899) ?_; refine Zwp 1 rfl ?_; refine Y2 rfl rfl rfl ?_; refine bindK h fun y902 hy902 h => ?_; refine W.call rfl (Fn.toO (graph_Graph_Level_fn hy902) trivial rfl) ?_; refine Zwp 2 rfl ?_; refine Zu (.row 900002 1 y7.length) rfl rfl rfl rfl ?_; refine Zpp 1 rfl ?_; refine Y2 rfl rfl rfl ?_; refine W.chk rfl (by simpa using g898) ?_; refine W.det (.rp 900002 1 s30.2.toNat 0) _ rfl ?_; refine Y2 rfl rfl rfl ?_; refine W.elem rfl (elemG hx899) ?_; refine Zwp 1 rfl ?_; refine Y2 rfl rfl rfl ?_; refine bindK h fun y904 hy904 h => ?_; refine W.call rfl (Fn.toO (graph_Graph_Level_fn hy904) trivial rfl) ?_; refine Zwp 3 rfl ?_; refine YF rfl rfl rfl h (fun _ h => ?_) (fun _ h => ?_)
                      · refine Zpb 26 rfl ?_; refine headK.r ?_; refine headK.r ?_; refine Zob 1 rfl ?_; refine headK.r ?_; cases h; cases hG; exact ⟨rfl, trivial⟩
                      · refine Zwp 1 rfl ?_; refine Zu (.row 900002 1 y7.length) rfl rfl rfl rfl ?_; refine Zpp 1 rfl ?_; refine Y2 rfl rfl rfl ?_; refine W.chk rfl (by simpa using g898) ?_; refine W.det (.rp 900002 1 s30.2.toNat 0) _ rfl ?_; refine Y2 rfl rfl rfl ?_; refine W.elem rfl (elemG hx899) ?_; refine Zwp 1 rfl ?_; refine Y2 rfl rfl rfl ?_; refine bindK h fun y906 hy906 h => ?_; refine W.call rfl (Fn.toO (graph_Graph_Past_fn hy906) (PlainR.ints _) rfl) ?_; refine W.v (.row 116 2 (List.map (encI .i64) y906).length) (.row 116 2 y906.length) (Mem.add _ 116 (.rows 1 (List.map (encI .i64) y906) false)) rfl (by simp only [List.length_map]) ?_; refine Zpp 1 rfl ?_; refine Zu (.row 900002 1 y7.length) rfl rfl rfl rfl ?_; refine Zpp 1 rfl ?_; refine Y2 rfl rfl rfl ?_; refine W.chk rfl (by simpa using g898) ?_; refine W.det (.rp 900002 1 s30.2.toNat 0) _ rfl ?_; refine Y2 rfl rfl rfl ?_; refine W.elem rfl (elemG hx899) ?_; refine Zwp 1 rfl ?_; refine Y2 rfl rfl rfl ?_; refine bindK h fun y908 hy908 h => ?_; refine W.call rfl (Fn.toO (graph_Graph_Past_fn hy908) (PlainR.ints _) rfl) ?_; refine W.v (.row 122 2 (List.map (encI .i64) y908).length) (.row 122 2 y908.length) (Mem.add _ 122 (.rows 1 (List.map (encI .i64) y908) false)) rfl (by simp only [List.length_map]) ?_; refine Y2 rfl rfl rfl ?_; refine bindK h fun y909 hy909 h => ?_; refine W.call rfl (ref07_Same_fn hy909) ?_; refine Zwc 7 rfl ?_; refine A.condB rfl h (fun _ h => ?_) (fun _ h => ?_)
                        · refine Zcb 7 rfl ?_; refine headK.r ?_; refine headK.r ?_; refine Zob 1 rfl ?_; refine headK.r ?_; cases h; cases hG; exact ⟨rfl, trivial⟩
                        · refine Zcb 2 rfl ?_; cases h; exact Zh hG [] [(900000, (900000, 1)), (900001, (900001, 1)), (900002, (900002, 1)), (900003, (900003, 1)), (900004, (900004, 1)), (900005, (900005, 1)), (900006, (900006, 1)), (900007, (900007, 1))] rfl rfl (Ze rfl rfl (Ze rfl rfl (Ze rfl rfl (Ze rfl rfl (Ze rfl rfl (Ze rfl rfl (Ze rfl rfl (Ze rfl rfl (Ze rfl rfl trivial))))))))) (Zc rfl rfl (Zc rfl rfl (Zc rfl rfl (Zc rfl rfl (Zc rfl rfl (Zc rfl rfl (Zc rfl rfl (Zc rfl rfl trivial))))))))
                    · refine Zpb 35 rfl ?_; cases h; exact Zh hG [] [(900000, (900000, 1)), (900001, (900001, 1)), (900002, (900002, 1)), (900003, (900003, 1)), (900004, (900004, 1)), (900005, (900005, 1)), (900006, (900006, 1)), (900007, (900007, 1))] rfl rfl (Ze rfl rfl (Ze rfl rfl (Ze rfl rfl (Ze rfl rfl (Ze rfl rfl (Ze rfl rfl (Ze rfl rfl (Ze rfl rfl (Ze rfl rfl trivial))))))))) (Zc rfl rfl (Zc rfl rfl (Zc rfl rfl (Zc rfl rfl (Zc rfl rfl (Zc rfl rfl (Zc rfl rfl (Zc rfl rfl trivial))))))))
            · intro s53 r2 h hG; refine Zcb 5 rfl ?_; cases h; exact Zh hG [] [(900000, (900000, 1)), (900001, (900001, 1)), (900002, (900002, 1)), (900003, (900003, 1)), (900004, (900004, 1)), (900005, (900005, 1)), (900006, (900006, 1)), (900007, (900007, 1))] rfl rfl (Ze rfl rfl (Ze rfl rfl (Ze rfl rfl (Ze rfl rfl (Ze rfl rfl (Ze rfl rfl (Ze rfl rfl (Ze rfl rfl (Ze rfl rfl trivial))))))))) (Zc rfl rfl (Zc rfl rfl (Zc rfl rfl (Zc rfl rfl (Zc rfl rfl (Zc rfl rfl (Zc rfl rfl (Zc rfl rfl trivial))))))))
          · refine Zcb 2 rfl ?_; refine headK.e ?_; refine Zob 1 rfl ?_; cases h; exact Zh hG [] [(900000, (900000, 1)), (900001, (900001, 1)), (900002, (900003, 1)), (900003, (900004, 1)), (900004, (900005, 1)), (900005, (900006, 1)), (900006, (900007, 1))] rfl rfl (Ze rfl rfl (Ze rfl rfl (Ze rfl rfl (Ze rfl rfl (Ze rfl rfl (Ze rfl rfl (Ze rfl rfl trivial))))))) (Zc rfl rfl (Zc rfl rfl (Zc rfl rfl (Zc rfl rfl (Zc rfl rfl (Zc rfl rfl (Zc rfl rfl trivial)))))))
        · intro s29 r2 h hG; refine Zcp 4 rfl ?_; refine Y1 rfl ?_; refine bindK h fun y910 hy910 h => ?_; refine W.call rfl (graph_Graph_Restrict_fn hy910) ?_; refine W.det (.lp 536871042 2 0) (Mem.add (Mem.add _ 268435586 (.mapi (.i .i64) (mapE (Value.int .i64) (fun x => D.ag (graph_entry.enc x)) y910.nodes))) 536871042 (.box [.mp 268435586 2])) rfl ?_; refine Zpp 9 rfl ?_; refine R.litY rfl rfl rfl ?_; refine Zwp 1 rfl ?_; refine Y2 rfl rfl rfl ?_; refine bindK h fun y914 hy914 h => ?_; refine W.call rfl (Fn.toO (graph_Graph_Len_fn hy914) trivial rfl) ?_; refine Zwc 6 rfl ?_; refine A.condB rfl h (fun _ h => ?_) (fun _ h => ?_)
          · refine Zcb 7 rfl ?_; cases h; cases hG; exact ⟨rfl, trivial⟩
          · refine Zcp 6 rfl ?_; refine Y1 rfl ?_; refine bindK h fun y915 hy915 h => ?_; refine W.call rfl (Fn.toO (graph_Graph_Same_fn hy915) trivial rfl) ?_; refine Zwp 7 rfl ?_; refine Zo (.agg (api_Node.av more_)) rfl rfl ?_; refine Y1 rfl ?_; refine bindK h fun y916 hy916 h => ?_; refine W.call rfl (graph_Graph_Add_fn hy916) ?_; refine W.det (VI y916.1) (Mem.set (Mem.set _ 900002 1 (some (.box [.mp 900005 1]))) 900005 1 (some (.mapi (.i .i64) (mapE (Value.int .i64) (fun x => D.ag (graph_entry.enc x)) y916.2.nodes)))) rfl ?_; refine Zpp 6 rfl ?_; refine YT rfl rfl rfl h (fun _ h => ?_) (fun _ h => ?_)
            · refine Zwp 3 rfl ?_; refine YT rfl rfl rfl h (fun _ h => ?_) (fun _ h => ?_)
              · refine Zwp 2 rfl ?_; refine Y2 rfl rfl rfl ?_; refine bindK h fun y917 hy917 h => ?_; refine W.call rfl (Fn.toO (graph_Graph_Same_fn hy917) trivial rfl) ?_; refine Zwb 6 rfl ?_; cases h; cases hG; exact ⟨rfl, trivial⟩
              · refine Zpb 7 rfl ?_; cases h; cases hG; exact ⟨rfl, trivial⟩
            · refine Zpb 10 rfl ?_; cases h; cases hG; exact ⟨rfl, trivial⟩
end Go.Proofs.Ytlgadmholjaljaa

/-
  Plain programs of functions, and that the functions do what they say. Printed by wip/tools/gen.py.
-/
import Derived.Test.YtlgadmholjaljaaG3
namespace Go.Proofs.Ytlgadmholjaljaa
open Go.RowKit
attribute [local irreducible] IntKind.wrap AW runL Step.wp
set_option linter.unusedVariables false
set_option maxHeartbeats 4000000
set_option maxRecDepth 100000
noncomputable def law07_GraphSorted_L1 (y10 : (List Int)) (y6 : graph_Graph) (s168 : (Int × (List Int))) (s321 : Bool × Int) : Option ((Bool × Int) ⊕ ((Bool) ⊕ (((List Int)) ⊕ ((Int × (List Int)) ⊕ (((List Int)) ⊕ (Bool)))))) :=
  (bif (decide (s321.2 < ((y10.length : Nat) : Int))) then
    (chkO (decide (0 ≤ s321.2) && decide (s321.2 < ((y10.length : Nat) : Int)))).bind fun _ =>
    (getI y10 s321.2).bind fun x7982 =>
    (graph_Graph_Level y6 x7982).bind fun y7983 =>
    (chkO (decide (0 ≤ s168.1) && decide (s168.1 < ((y10.length : Nat) : Int)))).bind fun _ =>
    (getI y10 s168.1).bind fun x7985 =>
    (graph_Graph_Level y6 x7985).bind fun y7986 =>
    (seqF (A := Bool) (
      (bif (decide (y7983 < y7986)) then
        some (.inl true)
      else
        (bif (y7983 == y7986) then
          some (.inl (decide (x7982 < x7985)))
        else
          some (.inl false))))
    fun s332 =>
      (seqF (A := Unit) (
        (bif (decide (s321.2 < s168.1)) then
          (bif (!s332) then
            some (.inr (.inr (.inr (.inr (.inr (.inr false))))))
          else
            (bif (decide (s321.2 < s168.1)) then
              (chkO (decide (0 ≤ s168.1) && decide (s168.1 < ((y10.length : Nat) : Int)))).bind fun _ =>
              (getI y10 s168.1).bind fun x8022 =>
              (chkO (decide (0 ≤ s321.2) && decide (s321.2 < ((y10.length : Nat) : Int)))).bind fun _ =>
              (getI y10 s321.2).bind fun x8024 =>
              (graph_Graph_Before y6 x8022 x8024).bind fun y8025 =>
              (bif y8025 then
                some (.inr (.inr (.inr (.inr (.inr (.inr false))))))
              else
                some (.inl ()))
            else
              some (.inl ())))
        else
          (bif (decide (s321.2 < s168.1)) then
            (chkO (decide (0 ≤ s168.1) && decide (s168.1 < ((y10.length : Nat) : Int)))).bind fun _ =>
            (getI y10 s168.1).bind fun x8027 =>
            (chkO (decide (0 ≤ s321.2) && decide (s321.2 < ((y10.length : Nat) : Int)))).bind fun _ =>
            (getI y10 s321.2).bind fun x8029 =>
            (graph_Graph_Before y6 x8027 x8029).bind fun y8030 =>
            (bif y8030 then
              some (.inr (.inr (.inr (.inr (.inr (.inr false))))))
            else
              some (.inl ()))
          else
            some (.inl ()))))
      fun s333 =>
        (bif s321.1 then
          (chkO (decide (0 ≤ s168.1) && decide (s168.1 < ((y10.length : Nat) : Int)))).bind fun _ =>
          (getI y10 s168.1).bind fun x8032 =>
          (chkO (decide (0 ≤ s321.2) && decide (s321.2 < ((y10.length : Nat) : Int)))).bind fun _ =>
          (getI y10 s321.2).bind fun x8034 =>
          (graph_Graph_Before y6 x8032 x8034).bind fun y8035 =>
          some (.inl ((!y8035), (IntKind.i64.wrap (s321.2 + (1 : Int)))))
        else
          some (.inl (false, (IntKind.i64.wrap (s321.2 + (1 : Int))))))))
  else
    some (.inr (.inl s321.1)))
noncomputable def law07_GraphSorted_L2 (y10 : (List Int)) (y6 : graph_Graph) (y7 : (List Int)) (y11 : (List Int)) (some_ : (List Int)) (s168 : Int × (List Int)) : Option ((Int × (List Int)) ⊕ (((List Int)) ⊕ (Bool))) :=
  (bif (decide (s168.1 < ((y10.length : Nat) : Int))) then
    (seqF (A := (List Int)) (
      (seqF (A := Bool) (
        loopF (law07_GraphSorted_L1 y10 y6 s168) (true, (0 : Int)))
      fun s320 =>
        (chkO (decide (0 ≤ s168.1) && decide (s168.1 < ((y10.length : Nat) : Int)))).bind fun _ =>
        (getI y10 s168.1).bind fun x8052 =>
        (ref07_Has y7 x8052).bind fun y8053 =>
        (bif (!y8053) then
          some (.inr (.inr (.inr false)))
        else
          (ref07_Has y11 x8052).bind fun y8055 =>
          (bif (!(y8055 == s320)) then
            some (.inr (.inr (.inr false)))
          else
            (ref07_Has some_ x8052).bind fun y8057 =>
            (bif y8057 then
              (chkO (decide (s168.2.length + [x8052].length ≤ 1000000))).bind fun _ =>
              some (.inl (s168.2 ++ [x8052]))
            else
              some (.inl s168.2))))))
    fun s306 =>
      some (.inl ((IntKind.i64.wrap (s168.1 + (1 : Int))), s306)))
  else
    some (.inr (.inl s168.2)))
noncomputable def law07_GraphSorted (l_ : (List api_Node)) (some_ : (List Int)) : Option (Bool) :=
  (law07_small).bind fun y1 =>
  (ref07_Few l_ (20 : Int)).bind fun y5 =>
  (bif (!y5) then
    some y1
  else
    (bif (decide ((20 : Int) < (some_.length : Int))) then
      some y1
    else
      (law07_known l_).bind fun y6 =>
      (law07_all y6 l_).bind fun y7 =>
      (chkO (decide (0 + y7.length ≤ 1000000))).bind fun _ =>
      (chkO (decide ((([] : List Int) ++ y7).length + y7.length ≤ 1000000))).bind fun _ =>
      (graph_Graph_Sorted y6 ((([] : List Int) ++ y7) ++ y7)).bind fun y10 =>
      (bif (((y10.length : Nat) : Int) != ((y7.length : Nat) : Int)) then
        some false
      else
        (graph_Graph_Heads y6).bind fun y11 =>
        (seqF (A := (List Int)) (
          loopF (law07_GraphSorted_L2 y10 y6 y7 y11 some_) ((0 : Int), ([] : List Int)))
        fun s167 =>
          (bif y1 then
            (graph_Graph_Sorted y6 some_).bind fun y8060 =>
            (ref07_Same y8060 s167).bind fun y8061 =>
            some y8061
          else
            some false)))))
theorem law07_GraphSorted_fn {l_ : (List api_Node)} {some_ : (List Int)} {r : Bool} (h : law07_GraphSorted l_ some_ = some r) : Fn False Try.prog 5 [VF (List.map api_Node.enc l_), VF (List.map (encI .i64) some_)] (VB r) := by
  refine Fn.of_AW (dr := False) (F := FnX False Try.prog) (base := 0) (js := [15, 23, 25, 26, 30]) mixed tok noeqs (fun _ _ _ h => h) Try.call5 Try.func5 rfl Try.ntmps5 (by rw [Try.results5]) (by simp) ?_; have hG : (fun x => x = r) r := rfl; unfold law07_GraphSorted at h; refine Zap 7 rfl ?_; refine Y1 rfl ?_; refine bindK h fun y1 hy1 h => ?_; refine W.call rfl (law07_small_fn hy1) ?_; refine Zwp 8 rfl ?_; refine Y1 rfl ?_; refine bindK h fun y5 hy5 h => ?_; refine W.call rfl (ref07_Few_fn hy5) ?_; refine Zwp 3 rfl ?_; refine YF rfl rfl rfl h (fun _ h => ?_) (fun _ h => ?_)
  · refine Zpb 14 rfl ?_; cases h; cases hG; exact ⟨rfl, trivial⟩
  · refine Zwp 1 rfl ?_; refine Y2 rfl rfl rfl ?_; refine W.len rfl ?_; refine Zpc 4 rfl ?_; refine A.condB rfl h (fun _ h => ?_) (fun _ h => ?_)
    · refine Zcb 8 rfl ?_; cases h; cases hG; exact ⟨rfl, trivial⟩
    · refine Zcp 5 rfl ?_; refine Y1 rfl ?_; refine bindK h fun y6 hy6 h => ?_; refine W.call rfl (law07_known_fn hy6) ?_; refine W.det (.lp 536870940 1 0) (Mem.add (Mem.add _ 268435484 (.mapi (.i .i64) (mapE (Value.int .i64) (fun x => D.ag (graph_entry.enc x)) y6.nodes))) 536870940 (.box [.mp 268435484 1])) rfl ?_; refine Zpp 17 rfl ?_; refine Y1 rfl ?_; refine bindK h fun y7 hy7 h => ?_; refine W.call rfl (Fn.toO (law07_all_fn hy7) (PlainR.ints _) rfl) ?_; refine W.v (.row 33 1 (List.map (encI .i64) y7).length) (.row 33 1 y7.length) (Mem.add _ 33 (.rows 1 (List.map (encI .i64) y7) false)) rfl (by simp only [List.length_map]) ?_; refine Zo (.row 33 1 y7.length) rfl rfl ?_; refine Zpp 5 rfl ?_; refine Zm (.row 35 1 0) (Mem.add _ 35 (.rows 1 (List.map (encI .i64) ([] : List Int)) false)) rfl rfl ?_; refine Zo (.row 33 1 y7.length) rfl rfl ?_; refine Y1 rfl ?_; refine chkK h fun g8 h => ?_; refine W.chk rfl (appChk (fun _ => rfl) g8) ?_; refine W.rows (0 + (List.map (encI .i64) y7).length) (([] : List Int) ++ y7).length ([] ++ (List.map (encI .i64) y7)) (List.map (encI .i64) (([] : List Int) ++ y7)) rfl (by first | rfl | (simp; done) | simp only [partMap, List.length_map, List.length_append, List.nil_append, Nat.zero_add, List.length_nil]) (by first | rfl | (simp; done) | simp only [partMap, List.map_append, List.nil_append, List.map_nil]) ?_; refine Zo (.row 33 1 y7.length) rfl rfl ?_; refine Y1 rfl ?_; refine chkK h fun g9 h => ?_; refine W.chk rfl (appChk (fun _ => rfl) g9) ?_; refine W.app rfl rfl ?_; refine Y1 rfl ?_; refine bindK h fun y10 hy10 h => ?_; refine W.call rfl (Fn.toO (graph_Graph_Sorted_fn hy10) (PlainR.ints _) rfl) ?_; refine W.v (.row 40 1 (List.map (encI .i64) y10).length) (.row 40 1 y10.length) (Mem.add (Mem.set _ 35 3 (some (.rows 1 (List.map (encI .i64) ((([] : List Int) ++ y7) ++ y7)) true))) 40 (.rows 1 (List.map (encI .i64) y10) false)) rfl (by simp only [List.length_map]) ?_; refine Zo (.row 40 1 y10.length) rfl rfl ?_; refine Zpp 5 rfl ?_; refine Zo (.row 40 1 y10.length) rfl rfl ?_; refine Zpp 1 rfl ?_; refine Zo (.row 33 1 y7.length) rfl rfl ?_; refine Zpc 4 rfl ?_; refine A.condB rfl h (fun _ h => ?_) (fun _ h => ?_)
      · refine Zcb 7 rfl ?_; cases h; cases hG; exact ⟨rfl, trivial⟩
      · refine Zcp 4 rfl ?_; refine Zm (.row 9 1 0) (Mem.add _ 9 (.rows 1 (List.map (encI .i64) ([] : List Int)) false)) rfl rfl ?_; refine Zpp 5 rfl ?_; refine Y1 rfl ?_; refine bindK h fun y11 hy11 h => ?_; refine W.call rfl (Fn.toO (graph_Graph_Heads_fn hy11) (PlainR.ints _) rfl) ?_; refine W.v (.row 47 1 (List.map (encI .i64) y11).length) (.row 47 1 y11.length) (Mem.add _ 47 (.rows 1 (List.map (encI .i64) y11) false)) rfl (by simp only [List.length_map]) ?_; refine Zo (.row 47 1 y11.length) rfl rfl ?_; refine Zpc 2 rfl ?_; refine A.join (fun (s167 : (List Int)) => [(1, VF (List.map (encI .i64) some_)), (5, VB y1), (6, .lp 900000 1 0), (9, .row 900001 1 s167.length)]) (fun s167 => [(900000, .box [.mp 900002 1]), (900001, .rows 1 (List.map (encI .i64) s167) false), (900002, .mapi (.i .i64) (mapE (Value.int .i64) (fun x => D.ag (graph_entry.enc x)) y6.nodes))]) _ h hG rfl ?_ ?_
        · intro J f h hG; refine Zac 6 rfl ?_; refine A.loop (fun (s168 : Int × (List Int)) => [(1, VF (List.map (encI .i64) some_)), (5, VB y1), (6, .lp 900000 1 0), (7, .row 900001 1 y7.length), (8, .row 900002 1 y10.length), (9, .row 900003 1 s168.2.length), (10, .row 900004 1 y11.length), (11, VI s168.1)]) (fun s168 => [(900000, .box [.mp 900005 1]), (900001, .rows 1 (List.map (encI .i64) y7) false), (900002, .rows 1 (List.map (encI .i64) y10) false), (900003, .rows 1 (List.map (encI .i64) s168.2) false), (900004, .rows 1 (List.map (encI .i64) y11) false), (900005, .mapi (.i .i64) (mapE (Value.int .i64) (fun x => D.ag (graph_entry.enc x)) y6.nodes))]) _ h hG (Zf [] [(900000, (536870940, 1)), (900001, (33, 1)), (900002, (40, 1)), (900003, (9, 1)), (900004, (47, 1)), (900005, (268435484, 1))] rfl rfl (Ze rfl rfl (Ze rfl rfl (Ze rfl rfl (Ze rfl rfl (Ze rfl rfl (Ze rfl rfl (Ze rfl rfl (Ze rfl rfl trivial)))))))) (Zc rfl rfl (Zc rfl rfl (Zc rfl rfl (Zc rfl rfl (Zc rfl rfl (Zc rfl rfl trivial))))))) ?_; intro J s168 f h hG; unfold law07_GraphSorted_L2 at h; refine Zap 4 rfl ?_; refine Zo (.row 900002 1 y10.length) rfl rfl ?_; refine Zpc 4 rfl ?_; refine A.condB rfl h (fun _ h => ?_) (fun _ h => ?_)
          · refine Zcc 2 rfl ?_; refine A.join (fun (s306 : (List Int)) => [(1, VF (List.map (encI .i64) some_)), (5, VB y1), (6, .lp 900000 1 0), (7, .row 900001 1 y7.length), (8, .row 900002 1 y10.length), (9, .row 900003 1 s306.length), (10, .row 900004 1 y11.length), (11, VI s168.1)]) (fun s306 => [(900000, .box [.mp 900005 1]), (900001, .rows 1 (List.map (encI .i64) y7) false), (900002, .rows 1 (List.map (encI .i64) y10) false), (900003, .rows 1 (List.map (encI .i64) s306) false), (900004, .rows 1 (List.map (encI .i64) y11) false), (900005, .mapi (.i .i64) (mapE (Value.int .i64) (fun x => D.ag (graph_entry.enc x)) y6.nodes))]) _ h hG rfl ?_ ?_
            · intro J f h hG; refine Zac 6 rfl ?_; refine A.join (fun (s320 : Bool) => [(1, VF (List.map (encI .i64) some_)), (5, VB y1), (6, .lp 900000 1 0), (7, .row 900001 1 y7.length), (8, .row 900002 1 y10.length), (9, .row 900003 1 s168.2.length), (10, .row 900004 1 y11.length), (11, VI s168.1), (12, VB s320)]) (fun s320 => [(900000, .box [.mp 900005 1]), (900001, .rows 1 (List.map (encI .i64) y7) false), (900002, .rows 1 (List.map (encI .i64) y10) false), (900003, .rows 1 (List.map (encI .i64) s168.2) false), (900004, .rows 1 (List.map (encI .i64) y11) false), (900005, .mapi (.i .i64) (mapE (Value.int .i64) (fun x => D.ag (graph_entry.enc x)) y6.nodes))]) _ h hG rfl ?_ ?_
              · intro J f h hG; refine Zac 6 rfl ?_; refine A.loop (fun (s321 : Bool × Int) => [(1, VF (List.map (encI .i64) some_)), (5, VB y1), (6, .lp 900000 1 0), (7, .row 900001 1 y7.length), (8, .row 900002 1 y10.length), (9, .row 900003 1 s168.2.length), (10, .row 900004 1 y11.length), (11, VI s168.1), (12, VB s321.1), (13, VI s321.2)]) (fun s321 => [(900000, .box [.mp 900005 1]), (900001, .rows 1 (List.map (encI .i64) y7) false), (900002, .rows 1 (List.map (encI .i64) y10) false), (900003, .rows 1 (List.map (encI .i64) s168.2) false), (900004, .rows 1 (List.map (encI .i64) y11) false), (900005, .mapi (.i .i64) (mapE (Value.int .i64) (fun x => D.ag (graph_entry.enc x)) y6.nodes))]) _ h hG (Zf [] [(900000, (900000, 1)), (900001, (900001, 1)), (900002, (900002, 1)), (900003, (900003, 1)), (900004, (900004, 1)), (900005, (900005, 1))] rfl rfl (Ze rfl rfl (Ze rfl rfl (Ze rfl rfl (Ze rfl rfl (Ze rfl rfl (Ze rfl rfl (Ze rfl rfl (Ze rfl rfl (Ze rfl rfl (Ze rfl rfl trivial)))))))))) (Zc rfl rfl (Zc rfl rfl (Zc rfl rfl (Zc rfl rfl (Zc rfl rfl (Zc rfl rfl trivial))))))) ?_; intro J s321 f h hG; unfold law07_GraphSorted_L1 at h; refine Zap 4 rfl ?_; refine Zo (.row 900002 1 y10.length) rfl rfl ?_; refine Zpc 4 rfl ?_; refine A.condB rfl h (fun _ h => ?_) (fun _ h => ?_)
                · refine Zcp 7 rfl ?_; refine Zo (.row 900002 1 y10.length) rfl rfl ?_; refine Zpp 1 rfl ?_; refine Y1 rfl ?_; refine chkK h fun g7981 h => ?_; refine W.chk rfl (by simpa using g7981) ?_; refine W.det (.rp 900002 1 s321.2.toNat 0) _ rfl ?_; refine Y1 rfl ?_; refine bindK h fun x7982 hx7982 h => ?_; refine W.elem rfl (elemG hx7982) ?_; refine Zwp 1 rfl ?_; refine Y1 rfl ?_; refine bindK h fun y7983 hy7983 h => ?_; refine W.call rfl (Fn.toO (graph_Graph_Level_fn hy7983) trivial rfl) ?_; refine Zwp 7 rfl ?_; refine Zo (.row 900002 1 y10.length) rfl rfl ?_; refine Zpp 1 rfl ?_; refine Y1 rfl ?_; refine chkK h fun g7984 h => ?_; refine W.chk rfl (by simpa using g7984) ?_; refine W.det (.rp 900002 1 s168.1.toNat 0) _ rfl ?_; refine Y1 rfl ?_; refine bindK h fun x7985 hx7985 h => ?_; refine W.elem rfl (elemG hx7985) ?_; refine Zwp 1 rfl ?_; refine Y1 rfl ?_; refine bindK h fun y7986 hy7986 h => ?_; refine W.call rfl (Fn.toO (graph_Graph_Level_fn hy7986) trivial rfl) ?_; refine Zwc 4 rfl ?_; refine A.join (fun (s332 : Bool) => [(1, VF (List.map (encI .i64) some_)), (5, VB y1), (6, .lp 900000 1 0), (7, .row 900001 1 y7.length), (8, .row 900002 1 y10.length), (9, .row 900003 1 s168.2.length), (10, .row 900004 1 y11.length), (11, VI s168.1), (12, VB s321.1), (13, VI s321.2), (16, VB s332)]) (fun s332 => [(900000, .box [.mp 900005 1]), (900001, .rows 1 (List.map (encI .i64) y7) false), (900002, .rows 1 (List.map (encI .i64) y10) false), (900003, .rows 1 (List.map (encI .i64) s168.2) false), (900004, .rows 1 (List.map (encI .i64) y11) false), (900005, .mapi (.i .i64) (mapE (Value.int .i64) (fun x => D.ag (graph_entry.enc x)) y6.nodes))]) _ h hG rfl ?_ ?_
                  · intro J f h hG; refine Za ?_; refine A.regionD (by kernel_rfl) ?_; refine Zpp 4 rfl ?_; refine YF rfl rfl rfl h (fun _ h => ?_) (fun _ h => ?_)
                    · refine Zpb 16 rfl ?_; cases h; exact Zh hG [] [(900000, (900000, 1)), (900001, (900001, 1)), (900002, (900002, 1)), (900003, (900003, 1)), (900004, (900004, 1)), (900005, (900005, 1))] rfl rfl (Ze rfl rfl (Ze rfl rfl (Ze rfl rfl (Ze rfl rfl (Ze rfl rfl (Ze rfl rfl (Ze rfl rfl (Ze rfl rfl (Ze rfl rfl (Ze rfl rfl (Ze rfl rfl trivial))))))))))) (Zc rfl rfl (Zc rfl rfl (Zc rfl rfl (Zc rfl rfl (Zc rfl rfl (Zc rfl rfl trivial))))))
                    · refine Zwp 4 rfl ?_; refine YT rfl rfl rfl h (fun _ h => ?_) (fun _ h => ?_)
                      · refine W.det (.row 900002 1 y10.length) _ rfl ?_; refine Zpp 1 rfl ?_; refine Y2 rfl rfl rfl ?_; refine W.chk rfl (by simpa using g7981) ?_; refine W.det (.rp 900002 1 s321.2.toNat 0) _ rfl ?_; refine Y2 rfl rfl rfl ?_; refine W.elem rfl (elemG hx7982) ?_; refine Zwp 1 rfl ?_; refine Zu (.row 900002 1 y10.length) rfl rfl rfl rfl ?_; refine Zpp 1 rfl ?_; refine Y2 rfl rfl rfl ?_; refine W.chk rfl (by simpa using g7984) ?_; refine W.det (.rp 900002 1 s168.1.toNat 0) _ rfl ?_; refine Y2 rfl rfl rfl ?_; refine W.elem rfl (elemG hx7985) ?_; refine Zwb 6 rfl ?_; cases h; exact Zh hG [] [(900000, (900000, 1)), (900001, (900001, 1)), (900002, (900002, 1)), (900003, (900003, 1)), (900004, (900004, 1)), (900005, (900005, 1))] rfl rfl (Ze rfl rfl (Ze rfl rfl (Ze rfl rfl (Ze rfl rfl (Ze rfl rfl (Ze rfl rfl (Ze rfl rfl (Ze rfl rfl (Ze rfl rfl (Ze rfl rfl (Ze rfl rfl trivial))))))))))) (Zc rfl rfl (Zc rfl rfl (Zc rfl rfl (Zc rfl rfl (Zc rfl rfl (Zc rfl rfl trivial))))))
                      · refine Zpb 12 rfl ?_; cases h; exact Zh hG [] [(900000, (900000, 1)), (900001, (900001, 1)), (900002, (900002, 1)), (900003, (900003, 1)), (900004, (900004, 1)), (900005, (900005, 1))] rfl rfl (Ze rfl rfl (Ze rfl rfl (Ze rfl rfl (Ze rfl rfl (Ze rfl rfl (Ze rfl rfl (Ze rfl rfl (Ze rfl rfl (Ze rfl rfl (Ze rfl rfl (Ze rfl rfl trivial))))))))))) (Zc rfl rfl (Zc rfl rfl (Zc rfl rfl (Zc rfl rfl (Zc rfl rfl (Zc rfl rfl trivial))))))
                  · intro s332 r2 h hG; refine A.join (fun (s333 : Unit) => [(1, VF (List.map (encI .i64) some_)), (5, VB y1), (6, .lp 900000 1 0), (7, .row 900001 1 y7.length), (8, .row 900002 1 y10.length), (9, .row 900003 1 s168.2.length), (10, .row 900004 1 y11.length), (11, VI s168.1), (12, VB s321.1), (13, VI s321.2)]) (fun s333 => [(900000, .box [.mp 900005 1]), (900001, .rows 1 (List.map (encI .i64) y7) false), (900002, .rows 1 (List.map (encI .i64) y10) false), (900003, .rows 1 (List.map (encI .i64) s168.2) false), (900004, .rows 1 (List.map (encI .i64) y11) false), (900005, .mapi (.i .i64) (mapE (Value.int .i64) (fun x => D.ag (graph_entry.enc x)) y6.nodes))]) _ h hG rfl ?_ ?_
                    · intro J f h hG; refine Zac 1 rfl ?_; refine A.regionD (by kernel_rfl) ?_; refine Zpp 4 rfl ?_; refine YT rfl rfl rfl h (fun _ h => ?_) (fun _ h => ?_)
                      · refine Zwp 4 rfl ?_; refine YF rfl rfl rfl h (fun _ h => ?_) (fun _ h => ?_)
                        · refine Zpb 24 rfl ?_; refine headK.r ?_; refine Zob 2 rfl ?_; refine headK.r ?_; refine Zob 1 rfl ?_; refine headK.r ?_; refine Zob 1 rfl ?_; refine headK.r ?_; refine headK.r ?_; refine Zob 1 rfl ?_; refine headK.r ?_; cases h; cases hG; exact ⟨rfl, trivial⟩
                        · refine Zwp 4 rfl ?_; refine YT rfl rfl rfl h (fun _ h => ?_) (fun _ h => ?_)
                          · refine Zwp 1 rfl ?_; refine Zu (.row 900002 1 y10.length) rfl rfl rfl rfl ?_; refine Zpp 1 rfl ?_; refine Y2 rfl rfl rfl ?_; refine chkK h fun g8021 h => ?_; refine W.chk rfl (by simpa using g8021) ?_; refine W.det (.rp 900002 1 s168.1.toNat 0) _ rfl ?_; refine Y2 rfl rfl rfl ?_; refine bindK h fun x8022 hx8022 h => ?_; refine W.elem rfl (elemG hx8022) ?_; refine Zwp 1 rfl ?_; refine Zu (.row 900002 1 y10.length) rfl rfl rfl rfl ?_; refine Zpp 1 rfl ?_; refine Y2 rfl rfl rfl ?_; refine chkK h fun g8023 h => ?_; refine W.chk rfl (by simpa using g8023) ?_; refine W.det (.rp 900002 1 s321.2.toNat 0) _ rfl ?_; refine Y2 rfl rfl rfl ?_; refine bindK h fun x8024 hx8024 h => ?_; refine W.elem rfl (elemG hx8024) ?_; refine Zwp 1 rfl ?_; refine Y2 rfl rfl rfl ?_; refine bindK h fun y8025 hy8025 h => ?_; refine W.call rfl (Fn.toO (graph_Graph_Before_fn hy8025) trivial rfl) ?_; refine Zwc 5 rfl ?_; refine A.condB rfl h (fun _ h => ?_) (fun _ h => ?_)
                            · refine Zcb 6 rfl ?_; refine headK.r ?_; refine Zob 2 rfl ?_; refine headK.r ?_; refine Zob 1 rfl ?_; refine headK.r ?_; refine Zob 1 rfl ?_; refine headK.r ?_; refine headK.r ?_; refine Zob 1 rfl ?_; refine headK.r ?_; cases h; cases hG; exact ⟨rfl, trivial⟩
                            · refine Zcb 1 rfl ?_; cases h; exact Zh hG [] [(900000, (900000, 1)), (900001, (900001, 1)), (900002, (900002, 1)), (900003, (900003, 1)), (900004, (900004, 1)), (900005, (900005, 1))] rfl rfl (Ze rfl rfl (Ze rfl rfl (Ze rfl rfl (Ze rfl rfl (Ze rfl rfl (Ze rfl rfl (Ze rfl rfl (Ze rfl rfl (Ze rfl rfl (Ze rfl rfl trivial)))))))))) (Zc rfl rfl (Zc rfl rfl (Zc rfl rfl (Zc rfl rfl (Zc rfl rfl (Zc rfl rfl trivial))))))
                          · refine Zpb 15 rfl ?_; cases h; exact Zh hG [] [(900000, (900000, 1)), (900001, (900001, 1)), (900002, (900002, 1)), (900003, (900003, 1)), (900004, (900004, 1)), (900005, (900005, 1))] rfl rfl (Ze rfl rfl (Ze rfl rfl (Ze rfl rfl (Ze rfl rfl (Ze rfl rfl (Ze rfl rfl (Ze rfl rfl (Ze rfl rfl (Ze rfl rfl (Ze rfl rfl trivial)))))))))) (Zc rfl rfl (Zc rfl rfl (Zc rfl rfl (Zc rfl rfl (Zc rfl rfl (Zc rfl rfl trivial))))))
                      · refine Zpp 7 rfl ?_; refine YT rfl rfl rfl h (fun _ h => ?_) (fun _ h => ?_)
                        · refine Zwp 1 rfl ?_; refine Zu (.row 900002 1 y10.length) rfl rfl rfl rfl ?_; refine Zpp 1 rfl ?_; refine Y2 rfl rfl rfl ?_; refine chkK h fun g8026 h => ?_; refine W.chk rfl (by simpa using g8026) ?_; refine W.det (.rp 900002 1 s168.1.toNat 0) _ rfl ?_; refine Y2 rfl rfl rfl ?_; refine bindK h fun x8027 hx8027 h => ?_; refine W.elem rfl (elemG hx8027) ?_; refine Zwp 1 rfl ?_; refine Zu (.row 900002 1 y10.length) rfl rfl rfl rfl ?_; refine Zpp 1 rfl ?_; refine Y2 rfl rfl rfl ?_; refine chkK h fun g8028 h => ?_; refine W.chk rfl (by simpa using g8028) ?_; refine W.det (.rp 900002 1 s321.2.toNat 0) _ rfl ?_; refine Y2 rfl rfl rfl ?_; refine bindK h fun x8029 hx8029 h => ?_; refine W.elem rfl (elemG hx8029) ?_; refine Zwp 1 rfl ?_; refine Y2 rfl rfl rfl ?_; refine bindK h fun y8030 hy8030 h => ?_; refine W.call rfl (Fn.toO (graph_Graph_Before_fn hy8030) trivial rfl) ?_; refine Zwc 5 rfl ?_; refine A.condB rfl h (fun _ h => ?_) (fun _ h => ?_)
                          · refine Zcb 6 rfl ?_; refine headK.r ?_; refine Zob 2 rfl ?_; refine headK.r ?_; refine Zob 1 rfl ?_; refine headK.r ?_; refine Zob 1 rfl ?_; refine headK.r ?_; refine headK.r ?_; refine Zob 1 rfl ?_; refine headK.r ?_; cases h; cases hG; exact ⟨rfl, trivial⟩
                          · refine Zcb 1 rfl ?_; cases h; exact Zh hG [] [(900000, (900000, 1)), (900001, (900001, 1)), (900002, (900002, 1)), (900003, (900003, 1)), (900004, (900004, 1)), (900005, (900005, 1))] rfl rfl (Ze rfl rfl (Ze rfl rfl (Ze rfl rfl (Ze rfl rfl (Ze rfl rfl (Ze rfl rfl (Ze rfl rfl (Ze rfl rfl (Ze rfl rfl (Ze rfl rfl trivial)))))))))) (Zc rfl rfl (Zc rfl rfl (Zc rfl rfl (Zc rfl rfl (Zc rfl rfl (Zc rfl rfl trivial))))))
                        · refine Zpb 15 rfl ?_; cases h; exact Zh hG [] [(900000, (900000, 1)), (900001, (900001, 1)), (900002, (900002, 1)), (900003, (900003, 1)), (900004, (900004, 1)), (900005, (900005, 1))] rfl rfl (Ze rfl rfl (Ze rfl rfl (Ze rfl rfl (Ze rfl rfl (Ze rfl rfl (Ze rfl rfl (Ze rfl rfl (Ze rfl rfl (Ze rfl rfl (Ze rfl rfl trivial)))))))))) (Zc rfl rfl (Zc rfl rfl (Zc rfl rfl (Zc rfl rfl (Zc rfl rfl (Zc rfl rfl trivial))))))
                    · intro s333 r2 h hG; refine A.regionD (by kernel_rfl) ?_; refine Zpp 2 rfl ?_; refine YT rfl rfl rfl h (fun _ h => ?_) (fun _ h => ?_)
                      · refine Zwp 1 rfl ?_; refine Zu (.row 900002 1 y10.length) rfl rfl rfl rfl ?_; refine Zpp 1 rfl ?_; refine Y2 rfl rfl rfl ?_; refine chkK h fun g8031 h => ?_; refine W.chk rfl (by simpa using g8031) ?_; refine W.det (.rp 900002 1 s168.1.toNat 0) _ rfl ?_; refine Y2 rfl rfl rfl ?_; refine bindK h fun x8032 hx8032 h => ?_; refine W.elem rfl (elemG hx8032) ?_; refine Zwp 1 rfl ?_; refine Zu (.row 900002 1 y10.length) rfl rfl rfl rfl ?_; refine Zpp 1 rfl ?_; refine Y2 rfl rfl rfl ?_; refine chkK h fun g8033 h => ?_; refine W.chk rfl (by simpa using g8033) ?_; refine W.det (.rp 900002 1 s321.2.toNat 0) _ rfl ?_; refine Y2 rfl rfl rfl ?_; refine bindK h fun x8034 hx8034 h => ?_; refine W.elem rfl (elemG hx8034) ?_; refine Zwp 1 rfl ?_; refine Y2 rfl rfl rfl ?_; refine bindK h fun y8035 hy8035 h => ?_; refine W.call rfl (Fn.toO (graph_Graph_Before_fn hy8035) trivial rfl) ?_; refine Zwb 12 rfl ?_; cases h; exact Zh hG [] [(900000, (900000, 1)), (900001, (900001, 1)), (900002, (900002, 1)), (900003, (900003, 1)), (900004, (900004, 1)), (900005, (900005, 1))] rfl rfl (Ze rfl rfl (Ze rfl rfl (Ze rfl rfl (Ze rfl rfl (Ze rfl rfl (Ze rfl rfl (Ze rfl rfl (Ze rfl rfl (Ze rfl rfl (Ze rfl rfl trivial)))))))))) (Zc rfl rfl (Zc rfl rfl (Zc rfl rfl (Zc rfl rfl (Zc rfl rfl (Zc rfl rfl trivial))))))
                      · refine Zpb 20 rfl ?_; cases h; exact Zh hG [] [(900000, (900000, 1)), (900001, (900001, 1)), (900002, (900002, 1)), (900003, (900003, 1)), (900004, (900004, 1)), (900005, (900005, 1))] rfl rfl (Ze rfl rfl (Ze rfl rfl (Ze rfl rfl (Ze rfl rfl (Ze rfl rfl (Ze rfl rfl (Ze rfl rfl (Ze rfl rfl (Ze rfl rfl (Ze rfl rfl trivial)))))))))) (Zc rfl rfl (Zc rfl rfl (Zc rfl rfl (Zc rfl rfl (Zc rfl rfl (Zc rfl rfl trivial))))))
                · refine Zcb 2 rfl ?_; refine headK.e ?_; refine Zob 1 rfl ?_; cases h; exact Zh hG [] [(900000, (900000, 1)), (900001, (900001, 1)), (900002, (900002, 1)), (900003, (900003, 1)), (900004, (900004, 1)), (900005, (900005, 1))] rfl rfl (Ze rfl rfl (Ze rfl rfl (Ze rfl rfl (Ze rfl rfl (Ze rfl rfl (Ze rfl rfl (Ze rfl rfl (Ze rfl rfl (Ze rfl rfl trivial))))))))) (Zc rfl rfl (Zc rfl rfl (Zc rfl rfl (Zc rfl rfl (Zc rfl rfl (Zc rfl rfl trivial))))))
              · intro s320 r2 h hG; refine Zcp 3 rfl ?_; refine Zo (.row 900001 1 y7.length) rfl rfl ?_; refine Zo (.row 900002 1 y10.length) rfl rfl ?_; refine Zpp 1 rfl ?_; refine Y1 rfl ?_; refine chkK h fun g8051 h => ?_; refine W.chk rfl (by simpa using g8051) ?_; refine W.det (.rp 900002 1 s168.1.toNat 0) _ rfl ?_; refine Y1 rfl ?_; refine bindK h fun x8052 hx8052 h => ?_; refine W.elem rfl (elemG hx8052) ?_; refine Zwp 1 rfl ?_; refine Y1 rfl ?_; refine bindK h fun y8053 hy8053 h => ?_; refine W.call rfl (ref07_Has_fn hy8053) ?_; refine Zwp 3 rfl ?_; refine YF rfl rfl rfl h (fun _ h => ?_) (fun _ h => ?_)
                · refine Zpb 19 rfl ?_; refine headK.r ?_; refine headK.r ?_; refine Zob 1 rfl ?_; refine headK.r ?_; cases h; cases hG; exact ⟨rfl, trivial⟩
                · refine W.det (.row 900004 1 y11.length) _ rfl ?_; refine Zu (.row 900002 1 y10.length) rfl rfl rfl rfl ?_; refine Zpp 1 rfl ?_; refine Y2 rfl rfl rfl ?_; refine W.chk rfl (by simpa using g8051) ?_; refine W.det (.rp 900002 1 s168.1.toNat 0) _ rfl ?_; refine Y2 rfl rfl rfl ?_; refine W.elem rfl (elemG hx8052) ?_; refine Zwp 1 rfl ?_; refine Y2 rfl rfl rfl ?_; refine bindK h fun y8055 hy8055 h => ?_; refine W.call rfl (ref07_Has_fn hy8055) ?_; refine Zwc 6 rfl ?_; refine A.condB rfl h (fun _ h => ?_) (fun _ h => ?_)
                  · refine Zcb 8 rfl ?_; refine headK.r ?_; refine headK.r ?_; refine Zob 1 rfl ?_; refine headK.r ?_; cases h; cases hG; exact ⟨rfl, trivial⟩
                  · refine Zcp 5 rfl ?_; refine Zo (.row 900002 1 y10.length) rfl rfl ?_; refine Zpp 1 rfl ?_; refine Y1 rfl ?_; refine W.chk rfl (by simpa using g8051) ?_; refine W.det (.rp 900002 1 s168.1.toNat 0) _ rfl ?_; refine Y1 rfl ?_; refine W.elem rfl (elemG hx8052) ?_; refine Zwp 1 rfl ?_; refine Y1 rfl ?_; refine bindK h fun y8057 hy8057 h => ?_; refine W.call rfl (ref07_Has_fn hy8057) ?_; refine Zwc 3 rfl ?_; refine A.condB rfl h (fun _ h => ?_) (fun _ h => ?_)
                    · refine Zcp 1 rfl ?_; refine Zo (.row 900003 1 s168.2.length) rfl rfl ?_; refine Zo (.row 900002 1 y10.length) rfl rfl ?_; refine Zpp 1 rfl ?_; refine Y1 rfl ?_; refine W.chk rfl (by simpa using g8051) ?_; refine W.det (.rp 900002 1 s168.1.toNat 0) _ rfl ?_; refine Y1 rfl ?_; refine W.elem rfl (elemG hx8052) ?_; refine Zwp 1 rfl ?_; refine Zm (.row 157 2 1) (Mem.add _ 157 (.rows 1 (List.map (encI .i64) [x8052]) false)) rfl rfl ?_; refine Y1 rfl ?_; refine chkK h fun g8059 h => ?_; refine W.chk rfl (appChk (fun _ => rfl) g8059) ?_; refine W.app rfl rfl ?_; refine Zo (.row 900003 2 (s168.2 ++ [x8052]).length) rfl rfl ?_; refine Zpb 2 rfl ?_; cases h; exact Zh hG [] [(900000, (900000, 1)), (900001, (900001, 1)), (900002, (900002, 1)), (900003, (900003, 2)), (900004, (900004, 1)), (900005, (900005, 1))] rfl rfl (Ze rfl rfl (Ze rfl rfl (Ze rfl rfl (Ze rfl rfl (Ze rfl rfl (Ze rfl rfl (Ze rfl rfl (Ze rfl rfl trivial)))))))) (Zc rfl rfl (Zc rfl rfl (Zc rfl rfl (Zc rfl rfl (Zc rfl rfl (Zc rfl rfl trivial))))))
                    · refine Zcb 2 rfl ?_; cases h; exact Zh hG [] [(900000, (900000, 1)), (900001, (900001, 1)), (900002, (900002, 1)), (900003, (900003, 1)), (900004, (900004, 1)), (900005, (900005, 1))] rfl rfl (Ze rfl rfl (Ze rfl rfl (Ze rfl rfl (Ze rfl rfl (Ze rfl rfl (Ze rfl rfl (Ze rfl rfl (Ze rfl rfl trivial)))))))) (Zc rfl rfl (Zc rfl rfl (Zc rfl rfl (Zc rfl rfl (Zc rfl rfl (Zc rfl rfl trivial))))))
            · intro s306 r2 h hG; refine Zcb 5 rfl ?_; cases h; exact Zh hG [] [(900000, (900000, 1)), (900001, (900001, 1)), (900002, (900002, 1)), (900003, (900003, 1)), (900004, (900004, 1)), (900005, (900005, 1))] rfl rfl (Ze rfl rfl (Ze rfl rfl (Ze rfl rfl (Ze rfl rfl (Ze rfl rfl (Ze rfl rfl (Ze rfl rfl (Ze rfl rfl trivial)))))))) (Zc rfl rfl (Zc rfl rfl (Zc rfl rfl (Zc rfl rfl (Zc rfl rfl (Zc rfl rfl trivial))))))
          · refine Zcb 2 rfl ?_; refine headK.e ?_; refine Zob 1 rfl ?_; cases h; exact Zh hG [] [(900000, (900000, 1)), (900001, (900003, 1)), (900002, (900005, 1))] rfl rfl (Ze rfl rfl (Ze rfl rfl (Ze rfl rfl (Ze rfl rfl trivial)))) (Zc rfl rfl (Zc rfl rfl (Zc rfl rfl trivial)))
        · intro s167 r2 h hG; refine Zcp 4 rfl ?_; refine YT rfl rfl rfl h (fun _ h => ?_) (fun _ h => ?_)
          · refine Zwp 2 rfl ?_; refine Y2 rfl rfl rfl ?_; refine bindK h fun y8060 hy8060 h => ?_; refine W.call rfl (Fn.toO (graph_Graph_Sorted_fn hy8060) (PlainR.ints _) rfl) ?_; refine W.v (.row 163 2 (List.map (encI .i64) y8060).length) (.row 163 2 y8060.length) (Mem.add _ 163 (.rows 1 (List.map (encI .i64) y8060) false)) rfl (by simp only [List.length_map]) ?_; refine Zu (.row 900001 1 s167.length) rfl rfl rfl rfl ?_; refine Y2 rfl rfl rfl ?_; refine bindK h fun y8061 hy8061 h => ?_; refine W.call rfl (ref07_Same_fn hy8061) ?_; refine Zwb 6 rfl ?_; cases h; cases hG; exact ⟨rfl, trivial⟩
          · refine Zpb 9 rfl ?_; cases h; cases hG; exact ⟨rfl, trivial⟩
end Go.Proofs.Ytlgadmholjaljaa

/-
  Plain programs of functions, and that the functions do what they say. Printed by wip/tools/gen.py.
-/
import Derived.Test.YtlgadmholjaljaaG3
namespace Go.Proofs.Ytlgadmholjaljaa
open Go.RowKit
attribute [local irreducible] IntKind.wrap AW runL Step.wp
set_option linter.unusedVariables false
set_option maxHeartbeats 4000000
set_option maxRecDepth 100000
noncomputable def law07_GraphRefuses_L1 (l_ : (List api_Node)) (s48 : (Int × (List (Int × graph_entry)))) (y874 : graph_Graph) (s91 : Bool × Int) : Option ((Bool × Int) ⊕ ((Bool) ⊕ (((List (Int × graph_entry))) ⊕ ((Int × (List (Int × graph_entry))) ⊕ ((Unit) ⊕ (Bool)))))) :=
  (getI l_ s48.1).bind fun x916 =>
  (bif (decide (s91.2 < (x916.Parents.length : Int))) then
    (bif s91.1 then
      some (.inl (true, (IntKind.i64.wrap (s91.2 + (1 : Int)))))
    else
      (getI x916.Parents s91.2).bind fun x919 =>
      (graph_Graph_Has y874 x919).bind fun y920 =>
      some (.inl ((!y920), (IntKind.i64.wrap (s91.2 + (1 : Int))))))
  else
    some (.inr (.inl s91.1)))
noncomputable def law07_GraphRefuses_L2 (l_ : (List api_Node)) (s48 : Int × (List (Int × graph_entry))) : Option ((Int × (List (Int × graph_entry))) ⊕ ((Unit) ⊕ (Bool))) :=
  (bif (decide (s48.1 < (l_.length : Int))) then
    (seqF (A := (List (Int × graph_entry))) (
      (graph_Graph_Copy (graph_Graph.mk s48.2)).bind fun y874 =>
      (getI l_ s48.1).bind fun x875 =>
      (ref07_Right x875).bind fun y876 =>
      (seqF (A := Bool) (
        (bif y876 then
          (graph_Graph_Has y874 x875.Id).bind fun y878 =>
          some (.inl y878)
        else
          some (.inl false)))
      fun s87 =>
        (seqF (A := Bool) (
          (bif s87 then
            (getI l_ s48.1).bind fun x882 =>
            (graph_Graph_Parents y874 x882.Id).bind fun y883 =>
            (ref07_Same y883 x882.Parents).bind fun y884 =>
            some (.inl (!y884))
          else
            some (.inl false)))
        fun s88 =>
          (seqF (A := Bool) (
            loopF (law07_GraphRefuses_L1 l_ s48 y874) (false, (0 : Int)))
          fun s90 =>
            (seqF (A := Int) (
              (bif (!y876) then
                some (.inl (1 : Int))
              else
                (bif s88 then
                  some (.inl (5 : Int))
                else
                  (bif s90 then
                    some (.inl (14 : Int))
                  else
                    some (.inl (0 : Int))))))
            fun s92 =>
              (getI l_ s48.1).bind fun x921 =>
              (graph_Graph_Add (graph_Graph.mk s48.2) x921).bind fun y922 =>
              (seqF (A := Bool × (List (Int × graph_entry))) (
                (bif (y922.1 != s92) then
                  some (.inl (true, y922.2.nodes))
                else
                  (bif (y922.1 != (0 : Int)) then
                    (graph_Graph_Same y874 (graph_Graph.mk y922.2.nodes)).bind fun y938 =>
                    (bif (!y938) then
                      some (.inl (true, y922.2.nodes))
                    else
                      (bif (y922.1 == (0 : Int)) then
                        (graph_Graph_Has (graph_Graph.mk y922.2.nodes) x921.Id).bind fun y939 =>
                        (bif (!y939) then
                          some (.inl (true, y922.2.nodes))
                        else
                          (graph_Graph_Add (graph_Graph.mk y922.2.nodes) x921).bind fun y940 =>
                          (bif (y940.1 != (0 : Int)) then
                            some (.inl (true, y940.2.nodes))
                          else
                            (bif s87 then
                              (graph_Graph_Same y874 (graph_Graph.mk y940.2.nodes)).bind fun y941 =>
                              (bif (!y941) then
                                some (.inl (true, y940.2.nodes))
                              else
                                (bif (!s87) then
                                  (graph_Graph_Len (graph_Graph.mk y940.2.nodes)).bind fun y942 =>
                                  (graph_Graph_Len y874).bind fun y943 =>
                                  some (.inl ((y942 != (IntKind.i64.wrap (y943 + (1 : Int)))), y940.2.nodes))
                                else
                                  some (.inl (false, y940.2.nodes))))
                            else
                              (bif (!s87) then
                                (graph_Graph_Len (graph_Graph.mk y940.2.nodes)).bind fun y944 =>
                                (graph_Graph_Len y874).bind fun y945 =>
                                some (.inl ((y944 != (IntKind.i64.wrap (y945 + (1 : Int)))), y940.2.nodes))
                              else
                                some (.inl (false, y940.2.nodes))))))
                      else
                        some (.inl (false, y922.2.nodes))))
                  else
                    (bif (y922.1 == (0 : Int)) then
                      (graph_Graph_Has (graph_Graph.mk y922.2.nodes) x921.Id).bind fun y946 =>
                      (bif (!y946) then
                        some (.inl (true, y922.2.nodes))
                      else
                        (graph_Graph_Add (graph_Graph.mk y922.2.nodes) x921).bind fun y947 =>
                        (bif (y947.1 != (0 : Int)) then
                          some (.inl (true, y947.2.nodes))
                        else
                          (bif s87 then
                            (graph_Graph_Same y874 (graph_Graph.mk y947.2.nodes)).bind fun y948 =>
                            (bif (!y948) then
                              some (.inl (true, y947.2.nodes))
                            else
                              (bif (!s87) then
                                (graph_Graph_Len (graph_Graph.mk y947.2.nodes)).bind fun y949 =>
                                (graph_Graph_Len y874).bind fun y950 =>
                                some (.inl ((y949 != (IntKind.i64.wrap (y950 + (1 : Int)))), y947.2.nodes))
                              else
                                some (.inl (false, y947.2.nodes))))
                          else
                            (bif (!s87) then
                              (graph_Graph_Len (graph_Graph.mk y947.2.nodes)).bind fun y951 =>
                              (graph_Graph_Len y874).bind fun y952 =>
                              some (.inl ((y951 != (IntKind.i64.wrap (y952 + (1 : Int)))), y947.2.nodes))
                            else
                              some (.inl (false, y947.2.nodes))))))
                    else
                      some (.inl (false, y922.2.nodes))))))
              fun s93 =>
                (bif s93.1 then
                  some (.inr (.inr (.inr false)))
                else
                  some (.inl s93.2))))))))
    fun s86 =>
      some (.inl ((IntKind.i64.wrap (s48.1 + (1 : Int))), s86)))
  else
    some (.inr (.inl ())))
noncomputable def law07_GraphRefuses (l_ : (List api_Node)) : Option (Bool) :=
  (law07_small).bind fun y1 =>
  (ref07_Few l_ (20 : Int)).bind fun y3 =>
  (bif (!y3) then
    some y1
  else
    (graph_New).bind fun y4 =>
    (seqF (A := Unit) (
      loopF (law07_GraphRefuses_L2 l_) ((0 : Int), y4.nodes))
    fun s47 =>
      some y1))
theorem law07_GraphRefuses_fn {l_ : (List api_Node)} {r : Bool} (h : law07_GraphRefuses l_ = some r) : Fn False Try.prog 4 [VF (List.map api_Node.enc l_)] (VB r) := by
  refine Fn.of_AW (dr := False) (F := FnX False Try.prog) (base := 0) (js := [9, 15, 16, 21, 28, 30, 31]) mixed tok noeqs (fun _ _ _ h => h) Try.call4 Try.func4 rfl Try.ntmps4 (by rw [Try.results4]) (by simp) ?_; have hG : (fun x => x = r) r := rfl; unfold law07_GraphRefuses at h; refine Zap 7 rfl ?_; refine Y1 rfl ?_; refine bindK h fun y1 hy1 h => ?_; refine W.call rfl (law07_small_fn hy1) ?_; refine Zwp 8 rfl ?_; refine Y1 rfl ?_; refine bindK h fun y3 hy3 h => ?_; refine W.call rfl (ref07_Few_fn hy3) ?_; refine Zwc 4 rfl ?_; refine A.condB rfl h (fun _ h => ?_) (fun _ h => ?_)
  · refine Zcb 8 rfl ?_; cases h; cases hG; exact ⟨rfl, trivial⟩
  · refine Zcp 4 rfl ?_; refine Y1 rfl ?_; refine bindK h fun y4 hy4 h => ?_; refine W.call rfl (graph_New_fn hy4) ?_; refine W.det (.lp 536870931 1 0) (Mem.add (Mem.add _ 268435475 (.mapi (.i .i64) (mapE (Value.int .i64) (fun x => D.ag (graph_entry.enc x)) y4.nodes))) 536870931 (.box [.mp 268435475 1])) rfl ?_; refine Zpc 13 rfl ?_; refine A.join (fun (s47 : Unit) => [(3, VB y1)]) (fun s47 => []) _ h hG rfl ?_ ?_
    · intro J f h hG; refine Zac 6 rfl ?_; refine A.loop (fun (s48 : Int × (List (Int × graph_entry))) => [(0, VF (List.map api_Node.enc l_)), (3, VB y1), (4, .lp 900000 1 0), (5, VI s48.1)]) (fun s48 => [(900000, .box [.mp 900001 1]), (900001, .mapi (.i .i64) (mapE (Value.int .i64) (fun x => D.ag (graph_entry.enc x)) s48.2))]) _ h hG (Zf [] [(900000, (536870931, 1)), (900001, (268435475, 1))] rfl rfl (Ze rfl rfl (Ze rfl rfl (Ze rfl rfl (Ze rfl rfl trivial)))) (Zc rfl rfl (Zc rfl rfl trivial))) ?_; intro J s48 f h hG; unfold law07_GraphRefuses_L2 at h; refine Zap 5 rfl ?_; refine Y1 rfl ?_; refine W.len rfl ?_; refine Zpc 3 rfl ?_; refine A.condB rfl h (fun _ h => ?_) (fun _ h => ?_)
      · refine Zcc 2 rfl ?_; refine A.join (fun (s86 : (List (Int × graph_entry))) => [(0, VF (List.map api_Node.enc l_)), (3, VB y1), (4, .lp 900000 1 0), (5, VI s48.1)]) (fun s86 => [(900000, .box [.mp 900001 1]), (900001, .mapi (.i .i64) (mapE (Value.int .i64) (fun x => D.ag (graph_entry.enc x)) s86))]) _ h hG rfl ?_ ?_
        · intro J f h hG; refine Zap 4 rfl ?_; refine Y1 rfl ?_; refine bindK h fun y874 hy874 h => ?_; refine W.call rfl (graph_Graph_Copy_fn hy874) ?_; refine W.det (.lp 536870941 2 0) (Mem.add (Mem.add _ 268435485 (.mapi (.i .i64) (mapE (Value.int .i64) (fun x => D.ag (graph_entry.enc x)) y874.nodes))) 536870941 (.box [.mp 268435485 2])) rfl ?_; refine Zpp 17 rfl ?_; refine Y1 rfl ?_; refine bindK h fun x875 hx875 h => ?_; refine W.chk rfl (elemB hx875) ?_; refine W.elem rfl (elemG hx875) ?_; refine W.chk rfl rfl ?_; refine W.det (.fp [.v (.int .i64 x875.Id), .fz (List.map (encI .i64) x875.Parents)]) _ rfl ?_; refine Zo (.agg (api_Node.av x875)) rfl rfl ?_; refine Y1 rfl ?_; refine bindK h fun y876 hy876 h => ?_; refine W.call rfl (ref07_Right_fn hy876) ?_; refine Zwc 4 rfl ?_; refine A.join (fun (s87 : Bool) => [(0, VF (List.map api_Node.enc l_)), (3, VB y1), (4, .lp 900000 1 0), (5, VI s48.1), (6, .lp 900001 1 0), (7, VB y876), (8, VB s87)]) (fun s87 => [(900000, .box [.mp 900002 1]), (900001, .box [.mp 900003 1]), (900002, .mapi (.i .i64) (mapE (Value.int .i64) (fun x => D.ag (graph_entry.enc x)) s48.2)), (900003, .mapi (.i .i64) (mapE (Value.int .i64) (fun x => D.ag (graph_entry.enc x)) y874.nodes))]) _ h hG rfl ?_ ?_
          · intro J f h hG; refine Zap 3 rfl ?_; refine YT rfl rfl rfl h (fun _ h => ?_) (fun _ h => ?_)
            · refine Zwp 3 rfl ?_; refine Y2 rfl rfl rfl ?_; refine W.chk rfl (elemB hx875) ?_; refine W.elem rfl (elemG hx875) ?_; refine W.chk rfl rfl ?_; refine W.det (.fp [.v (.int .i64 x875.Id), .fz (List.map (encI .i64) x875.Parents)]) _ rfl ?_; refine Zu (.fp [.v (.int .i64 x875.Id), .fz (List.map (encI .i64) x875.Parents)]) rfl rfl rfl rfl ?_; refine Zpp 1 rfl ?_; refine Y2 rfl rfl rfl ?_; refine bindK h fun y878 hy878 h => ?_; refine W.call rfl (Fn.toO (graph_Graph_Has_fn hy878) trivial rfl) ?_; refine Zwb 4 rfl ?_; cases h; exact Zh hG [] [(900000, (900000, 1)), (900001, (536870941, 2)), (900002, (900001, 1)), (900003, (268435485, 2))] rfl rfl (Ze rfl rfl (Ze rfl rfl (Ze rfl rfl (Ze rfl rfl (Ze rfl rfl (Ze rfl rfl (Ze rfl rfl trivial))))))) (Zc rfl rfl (Zc rfl rfl (Zc rfl rfl (Zc rfl rfl trivial))))
            · refine Zpb 9 rfl ?_; cases h; exact Zh hG [] [(900000, (900000, 1)), (900001, (536870941, 2)), (900002, (900001, 1)), (900003, (268435485, 2))] rfl rfl (Ze rfl rfl (Ze rfl rfl (Ze rfl rfl (Ze rfl rfl (Ze rfl rfl (Ze rfl rfl (Ze rfl rfl trivial))))))) (Zc rfl rfl (Zc rfl rfl (Zc rfl rfl (Zc rfl rfl trivial))))
          · intro s87 r2 h hG; refine A.join (fun (s88 : Bool) => [(0, VF (List.map api_Node.enc l_)), (3, VB y1), (4, .lp 900000 1 0), (5, VI s48.1), (6, .lp 900001 1 0), (7, VB y876), (8, VB s87), (9, VB s88)]) (fun s88 => [(900000, .box [.mp 900002 1]), (900001, .box [.mp 900003 1]), (900002, .mapi (.i .i64) (mapE (Value.int .i64) (fun x => D.ag (graph_entry.enc x)) s48.2)), (900003, .mapi (.i .i64) (mapE (Value.int .i64) (fun x => D.ag (graph_entry.enc x)) y874.nodes))]) _ h hG rfl ?_ ?_
            · intro J f h hG; refine Za ?_; refine A.regionD (by kernel_rfl) ?_; refine Zpp 2 rfl ?_; refine YT rfl rfl rfl h (fun _ h => ?_) (fun _ h => ?_)
              · refine Zwp 3 rfl ?_; refine Y2 rfl rfl rfl ?_; refine bindK h fun x882 hx882 h => ?_; refine W.chk rfl (elemB hx882) ?_; refine W.elem rfl (elemG hx882) ?_; refine W.chk rfl rfl ?_; refine W.det (.fp [.v (.int .i64 x882.Id), .fz (List.map (encI .i64) x882.Parents)]) _ rfl ?_; refine Zu (.fp [.v (.int .i64 x882.Id), .fz (List.map (encI .i64) x882.Parents)]) rfl rfl rfl rfl ?_; refine Zpp 1 rfl ?_; refine Y2 rfl rfl rfl ?_; refine bindK h fun y883 hy883 h => ?_; refine W.call rfl (Fn.toO (graph_Graph_Parents_fn hy883) (PlainR.ints _) rfl) ?_; refine W.v (.row 55 2 (List.map (encI .i64) y883).length) (.row 55 2 y883.length) (Mem.add _ 55 (.rows 1 (List.map (encI .i64) y883) false)) rfl (by simp only [List.length_map]) ?_; refine Zpp 2 rfl ?_; refine Y2 rfl rfl rfl ?_; refine W.chk rfl (elemB hx882) ?_; refine W.elem rfl (elemG hx882) ?_; refine W.chk rfl rfl ?_; refine W.det (.fp [.v (.int .i64 x882.Id), .fz (List.map (encI .i64) x882.Parents)]) _ rfl ?_; refine Zu (.fp [.fz (List.map (encI .i64) x882.Parents)]) rfl rfl rfl rfl ?_; refine Zpp 1 rfl ?_; refine Y2 rfl rfl rfl ?_; refine bindK h fun y884 hy884 h => ?_; refine W.call rfl (ref07_Same_fn hy884) ?_; refine Zwb 5 rfl ?_; cases h; exact Zh hG [] [(900000, (900000, 1)), (900001, (900001, 1)), (900002, (900002, 1)), (900003, (900003, 1))] rfl rfl (Ze rfl rfl (Ze rfl rfl (Ze rfl rfl (Ze rfl rfl (Ze rfl rfl (Ze rfl rfl (Ze rfl rfl (Ze rfl rfl trivial)))))))) (Zc rfl rfl (Zc rfl rfl (Zc rfl rfl (Zc rfl rfl trivial))))
              · refine Zpb 16 rfl ?_; cases h; exact Zh hG [] [(900000, (900000, 1)), (900001, (900001, 1)), (900002, (900002, 1)), (900003, (900003, 1))] rfl rfl (Ze rfl rfl (Ze rfl rfl (Ze rfl rfl (Ze rfl rfl (Ze rfl rfl (Ze rfl rfl (Ze rfl rfl (Ze rfl rfl trivial)))))))) (Zc rfl rfl (Zc rfl rfl (Zc rfl rfl (Zc rfl rfl trivial))))
            · intro s88 r2 h hG; refine Zcc 5 rfl ?_; refine A.join (fun (s90 : Bool) => [(0, VF (List.map api_Node.enc l_)), (3, VB y1), (4, .lp 900000 1 0), (5, VI s48.1), (6, .lp 900001 1 0), (7, VB y876), (8, VB s87), (9, VB s88), (10, VB s90)]) (fun s90 => [(900000, .box [.mp 900002 1]), (900001, .box [.mp 900003 1]), (900002, .mapi (.i .i64) (mapE (Value.int .i64) (fun x => D.ag (graph_entry.enc x)) s48.2)), (900003, .mapi (.i .i64) (mapE (Value.int .i64) (fun x => D.ag (graph_entry.enc x)) y874.nodes))]) _ h hG rfl ?_ ?_
              · intro J f h hG; refine Zac 6 rfl ?_; refine A.loop (fun (s91 : Bool × Int) => [(0, VF (List.map api_Node.enc l_)), (3, VB y1), (4, .lp 900000 1 0), (5, VI s48.1), (6, .lp 900001 1 0), (7, VB y876), (8, VB s87), (9, VB s88), (10, VB s91.1), (11, VI s91.2)]) (fun s91 => [(900000, .box [.mp 900002 1]), (900001, .box [.mp 900003 1]), (900002, .mapi (.i .i64) (mapE (Value.int .i64) (fun x => D.ag (graph_entry.enc x)) s48.2)), (900003, .mapi (.i .i64) (mapE (Value.int .i64) (fun x => D.ag (graph_entry.enc x)) y874.nodes))]) _ h hG (Zf [] [(900000, (900000, 1)), (900001, (900001, 1)), (900002, (900002, 1)), (900003, (900003, 1))] rfl rfl (Ze rfl rfl (Ze rfl rfl (Ze rfl rfl (Ze rfl rfl (Ze rfl rfl (Ze rfl rfl (Ze rfl rfl (Ze rfl rfl (Ze rfl rfl (Ze rfl rfl trivial)))))))))) (Zc rfl rfl (Zc rfl rfl (Zc rfl rfl (Zc rfl rfl trivial))))) ?_; intro J s91 f h hG; unfold law07_GraphRefuses_L1 at h; refine Zap 6 rfl ?_; refine Y1 rfl ?_; refine bindK h fun x916 hx916 h => ?_; refine W.chk rfl (elemB hx916) ?_; refine W.elem rfl (elemG hx916) ?_; refine W.chk rfl rfl ?_; refine W.det (.fp [.v (.int .i64 x916.Id), .fz (List.map (encI .i64) x916.Parents)]) _ rfl ?_; refine Zo (.fp [.fz (List.map (encI .i64) x916.Parents)]) rfl rfl ?_; refine Zpp 1 rfl ?_; refine Y1 rfl ?_; refine W.len rfl ?_; refine Zpc 3 rfl ?_; refine A.condB rfl h (fun _ h => ?_) (fun _ h => ?_)
                · refine Zcp 7 rfl ?_; refine YF rfl rfl rfl h (fun _ h => ?_) (fun _ h => ?_)
                  · refine Zpb 20 rfl ?_; cases h; exact Zh hG [] [(900000, (900000, 1)), (900001, (900001, 1)), (900002, (900002, 1)), (900003, (900003, 1))] rfl rfl (Ze rfl rfl (Ze rfl rfl (Ze rfl rfl (Ze rfl rfl (Ze rfl rfl (Ze rfl rfl (Ze rfl rfl (Ze rfl rfl (Ze rfl rfl (Ze rfl rfl trivial)))))))))) (Zc rfl rfl (Zc rfl rfl (Zc rfl rfl (Zc rfl rfl trivial))))
                  · refine Zwp 3 rfl ?_; refine Y2 rfl rfl rfl ?_; refine W.chk rfl (elemB hx916) ?_; refine W.elem rfl (elemG hx916) ?_; refine W.chk rfl rfl ?_; refine W.det (.fp [.v (.int .i64 x916.Id), .fz (List.map (encI .i64) x916.Parents)]) _ rfl ?_; refine Zu (.fp [.fz (List.map (encI .i64) x916.Parents)]) rfl rfl rfl rfl ?_; refine Zpp 2 rfl ?_; refine Y2 rfl rfl rfl ?_; refine bindK h fun x919 hx919 h => ?_; refine W.chk rfl (elemB hx919) ?_; refine W.elem rfl (elemG hx919) ?_; refine W.chk rfl rfl ?_; refine W.det (.fp [.v (.int .i64 x919)]) _ rfl ?_; refine Zpp 1 rfl ?_; refine Y2 rfl rfl rfl ?_; refine bindK h fun y920 hy920 h => ?_; refine W.call rfl (Fn.toO (graph_Graph_Has_fn hy920) trivial rfl) ?_; refine Zwb 12 rfl ?_; cases h; exact Zh hG [] [(900000, (900000, 1)), (900001, (900001, 1)), (900002, (900002, 1)), (900003, (900003, 1))] rfl rfl (Ze rfl rfl (Ze rfl rfl (Ze rfl rfl (Ze rfl rfl (Ze rfl rfl (Ze rfl rfl (Ze rfl rfl (Ze rfl rfl (Ze rfl rfl (Ze rfl rfl trivial)))))))))) (Zc rfl rfl (Zc rfl rfl (Zc rfl rfl (Zc rfl rfl trivial))))
                · refine Zcb 2 rfl ?_; refine headK.e ?_; refine Zob 1 rfl ?_; cases h; exact Zh hG [] [(900000, (900000, 1)), (900001, (900001, 1)), (900002, (900002, 1)), (900003, (900003, 1))] rfl rfl (Ze rfl rfl (Ze rfl rfl (Ze rfl rfl (Ze rfl rfl (Ze rfl rfl (Ze rfl rfl (Ze rfl rfl (Ze rfl rfl (Ze rfl rfl trivial))))))))) (Zc rfl rfl (Zc rfl rfl (Zc rfl rfl (Zc rfl rfl trivial))))
              · intro s90 r2 h hG; refine Zcc 5 rfl ?_; refine A.join (fun (s92 : Int) => [(0, VF (List.map api_Node.enc l_)), (3, VB y1), (4, .lp 900000 1 0), (5, VI s48.1), (6, .lp 900001 1 0), (8, VB s87), (12, VI s92)]) (fun s92 => [(900000, .box [.mp 900002 1]), (900001, .box [.mp 900003 1]), (900002, .mapi (.i .i64) (mapE (Value.int .i64) (fun x => D.ag (graph_entry.enc x)) s48.2)), (900003, .mapi (.i .i64) (mapE (Value.int .i64) (fun x => D.ag (graph_entry.enc x)) y874.nodes))]) _ h hG rfl ?_ ?_
                · intro J f h hG; refine Zac 6 rfl ?_; refine A.condB rfl h (fun _ h => ?_) (fun _ h => ?_)
                  · refine Zcb 3 rfl ?_; cases h; exact Zh hG [] [(900000, (900000, 1)), (900001, (900001, 1)), (900002, (900002, 1)), (900003, (900003, 1))] rfl rfl (Ze rfl rfl (Ze rfl rfl (Ze rfl rfl (Ze rfl rfl (Ze rfl rfl (Ze rfl rfl (Ze rfl rfl trivial))))))) (Zc rfl rfl (Zc rfl rfl (Zc rfl rfl (Zc rfl rfl trivial))))
                  · refine Zcc 5 rfl ?_; refine A.condB rfl h (fun _ h => ?_) (fun _ h => ?_)
                    · refine Zcb 3 rfl ?_; cases h; exact Zh hG [] [(900000, (900000, 1)), (900001, (900001, 1)), (900002, (900002, 1)), (900003, (900003, 1))] rfl rfl (Ze rfl rfl (Ze rfl rfl (Ze rfl rfl (Ze rfl rfl (Ze rfl rfl (Ze rfl rfl (Ze rfl rfl trivial))))))) (Zc rfl rfl (Zc rfl rfl (Zc rfl rfl (Zc rfl rfl trivial))))
                    · refine Zcc 5 rfl ?_; refine A.condB rfl h (fun _ h => ?_) (fun _ h => ?_)
                      · refine Zcb 3 rfl ?_; cases h; exact Zh hG [] [(900000, (900000, 1)), (900001, (900001, 1)), (900002, (900002, 1)), (900003, (900003, 1))] rfl rfl (Ze rfl rfl (Ze rfl rfl (Ze rfl rfl (Ze rfl rfl (Ze rfl rfl (Ze rfl rfl (Ze rfl rfl trivial))))))) (Zc rfl rfl (Zc rfl rfl (Zc rfl rfl (Zc rfl rfl trivial))))
                      · refine Zcb 1 rfl ?_; cases h; exact Zh hG [] [(900000, (900000, 1)), (900001, (900001, 1)), (900002, (900002, 1)), (900003, (900003, 1))] rfl rfl (Ze rfl rfl (Ze rfl rfl (Ze rfl rfl (Ze rfl rfl (Ze rfl rfl (Ze rfl rfl (Ze rfl rfl trivial))))))) (Zc rfl rfl (Zc rfl rfl (Zc rfl rfl (Zc rfl rfl trivial))))
                · intro s92 r2 h hG; refine Zcp 5 rfl ?_; refine Y1 rfl ?_; refine bindK h fun x921 hx921 h => ?_; refine W.chk rfl (elemB hx921) ?_; refine W.elem rfl (elemG hx921) ?_; refine W.chk rfl rfl ?_; refine W.det (.fp [.v (.int .i64 x921.Id), .fz (List.map (encI .i64) x921.Parents)]) _ rfl ?_; refine Zo (.agg (api_Node.av x921)) rfl rfl ?_; refine Y1 rfl ?_; refine bindK h fun y922 hy922 h => ?_; refine W.call rfl (graph_Graph_Add_fn hy922) ?_; refine W.det (VI y922.1) (Mem.set (Mem.set _ 900000 1 (some (.box [.mp 900002 1]))) 900002 1 (some (.mapi (.i .i64) (mapE (Value.int .i64) (fun x => D.ag (graph_entry.enc x)) y922.2.nodes)))) rfl ?_; refine Zpc 3 rfl ?_; refine A.join (fun (s93 : Bool × (List (Int × graph_entry))) => [(0, VF (List.map api_Node.enc l_)), (3, VB y1), (4, .lp 900000 1 0), (5, VI s48.1), (154, VB s93.1)]) (fun s93 => [(900000, .box [.mp 900001 1]), (900001, .mapi (.i .i64) (mapE (Value.int .i64) (fun x => D.ag (graph_entry.enc x)) s93.2))]) _ h hG rfl ?_ ?_
                  · intro J f h hG; refine Zap 5 rfl ?_; refine YF rfl rfl rfl h (fun _ h => ?_) (fun _ h => ?_)
                    · refine Zpb 53 rfl ?_; cases h; exact Zh hG [] [(900000, (900000, 1)), (900001, (900002, 1))] rfl rfl (Ze rfl rfl (Ze rfl rfl (Ze rfl rfl (Ze rfl rfl (Ze rfl rfl trivial))))) (Zc rfl rfl (Zc rfl rfl trivial))
                    · refine Zwp 3 rfl ?_; refine YT rfl rfl rfl h (fun _ h => ?_) (fun _ h => ?_)
                      · refine Zwp 2 rfl ?_; refine Y2 rfl rfl rfl ?_; refine bindK h fun y938 hy938 h => ?_; refine W.call rfl (Fn.toO (graph_Graph_Same_fn hy938) trivial rfl) ?_; refine Zwp 5 rfl ?_; refine YF rfl rfl rfl h (fun _ h => ?_) (fun _ h => ?_)
                        · refine Zpb 43 rfl ?_; cases h; exact Zh hG [] [(900000, (900000, 1)), (900001, (900002, 1))] rfl rfl (Ze rfl rfl (Ze rfl rfl (Ze rfl rfl (Ze rfl rfl (Ze rfl rfl trivial))))) (Zc rfl rfl (Zc rfl rfl trivial))
                        · refine Zwp 3 rfl ?_; refine YT rfl rfl rfl h (fun _ h => ?_) (fun _ h => ?_)
                          · refine Zwp 3 rfl ?_; refine Y2 rfl rfl rfl ?_; refine W.chk rfl (elemB hx921) ?_; refine W.elem rfl (elemG hx921) ?_; refine W.chk rfl rfl ?_; refine W.det (.fp [.v (.int .i64 x921.Id), .fz (List.map (encI .i64) x921.Parents)]) _ rfl ?_; refine Zu (.fp [.v (.int .i64 x921.Id), .fz (List.map (encI .i64) x921.Parents)]) rfl rfl rfl rfl ?_; refine Zpp 1 rfl ?_; refine Y2 rfl rfl rfl ?_; refine bindK h fun y939 hy939 h => ?_; refine W.call rfl (Fn.toO (graph_Graph_Has_fn hy939) trivial rfl) ?_; refine Zwp 3 rfl ?_; refine YF rfl rfl rfl h (fun _ h => ?_) (fun _ h => ?_)
                            · refine Zpb 31 rfl ?_; cases h; exact Zh hG [] [(900000, (900000, 1)), (900001, (900002, 1))] rfl rfl (Ze rfl rfl (Ze rfl rfl (Ze rfl rfl (Ze rfl rfl (Ze rfl rfl trivial))))) (Zc rfl rfl (Zc rfl rfl trivial))
                            · refine Zwp 3 rfl ?_; refine Y2 rfl rfl rfl ?_; refine W.chk rfl (elemB hx921) ?_; refine W.elem rfl (elemG hx921) ?_; refine W.chk rfl rfl ?_; refine W.det (.fp [.v (.int .i64 x921.Id), .fz (List.map (encI .i64) x921.Parents)]) _ rfl ?_; refine Zu (.agg (api_Node.av x921)) rfl rfl rfl rfl ?_; refine Y2 rfl rfl rfl ?_; refine bindK h fun y940 hy940 h => ?_; refine W.call rfl (graph_Graph_Add_fn hy940) ?_; refine W.det (VI y940.1) (Mem.set (Mem.set _ 900000 1 (some (.box [.mp 900002 1]))) 900002 1 (some (.mapi (.i .i64) (mapE (Value.int .i64) (fun x => D.ag (graph_entry.enc x)) y940.2.nodes)))) rfl ?_; refine Zpp 3 rfl ?_; refine YF rfl rfl rfl h (fun _ h => ?_) (fun _ h => ?_)
                              · refine Zpb 22 rfl ?_; cases h; exact Zh hG [] [(900000, (900000, 1)), (900001, (900002, 1))] rfl rfl (Ze rfl rfl (Ze rfl rfl (Ze rfl rfl (Ze rfl rfl (Ze rfl rfl trivial))))) (Zc rfl rfl (Zc rfl rfl trivial))
                              · refine Zwp 2 rfl ?_; refine YT rfl rfl rfl h (fun _ h => ?_) (fun _ h => ?_)
                                · refine Zwp 2 rfl ?_; refine Y2 rfl rfl rfl ?_; refine bindK h fun y941 hy941 h => ?_; refine W.call rfl (Fn.toO (graph_Graph_Same_fn hy941) trivial rfl) ?_; refine Zwp 5 rfl ?_; refine YF rfl rfl rfl h (fun _ h => ?_) (fun _ h => ?_)
                                  · refine Zpb 13 rfl ?_; cases h; exact Zh hG [] [(900000, (900000, 1)), (900001, (900002, 1))] rfl rfl (Ze rfl rfl (Ze rfl rfl (Ze rfl rfl (Ze rfl rfl (Ze rfl rfl trivial))))) (Zc rfl rfl (Zc rfl rfl trivial))
                                  · refine Zwp 3 rfl ?_; refine YT rfl rfl rfl h (fun _ h => ?_) (fun _ h => ?_)
                                    · refine Zwp 1 rfl ?_; refine Y2 rfl rfl rfl ?_; refine bindK h fun y942 hy942 h => ?_; refine W.call rfl (Fn.toO (graph_Graph_Len_fn hy942) trivial rfl) ?_; refine Zwp 2 rfl ?_; refine Y2 rfl rfl rfl ?_; refine bindK h fun y943 hy943 h => ?_; refine W.call rfl (Fn.toO (graph_Graph_Len_fn hy943) trivial rfl) ?_; refine Zwb 8 rfl ?_; cases h; exact Zh hG [] [(900000, (900000, 1)), (900001, (900002, 1))] rfl rfl (Ze rfl rfl (Ze rfl rfl (Ze rfl rfl (Ze rfl rfl (Ze rfl rfl trivial))))) (Zc rfl rfl (Zc rfl rfl trivial))
                                    · refine Zpb 10 rfl ?_; cases h; exact Zh hG [] [(900000, (900000, 1)), (900001, (900002, 1))] rfl rfl (Ze rfl rfl (Ze rfl rfl (Ze rfl rfl (Ze rfl rfl (Ze rfl rfl trivial))))) (Zc rfl rfl (Zc rfl rfl trivial))
                                · refine Zpp 9 rfl ?_; refine YT rfl rfl rfl h (fun _ h => ?_) (fun _ h => ?_)
                                  · refine Zwp 1 rfl ?_; refine Y2 rfl rfl rfl ?_; refine bindK h fun y944 hy944 h => ?_; refine W.call rfl (Fn.toO (graph_Graph_Len_fn hy944) trivial rfl) ?_; refine Zwp 2 rfl ?_; refine Y2 rfl rfl rfl ?_; refine bindK h fun y945 hy945 h => ?_; refine W.call rfl (Fn.toO (graph_Graph_Len_fn hy945) trivial rfl) ?_; refine Zwb 8 rfl ?_; cases h; exact Zh hG [] [(900000, (900000, 1)), (900001, (900002, 1))] rfl rfl (Ze rfl rfl (Ze rfl rfl (Ze rfl rfl (Ze rfl rfl (Ze rfl rfl trivial))))) (Zc rfl rfl (Zc rfl rfl trivial))
                                  · refine Zpb 10 rfl ?_; cases h; exact Zh hG [] [(900000, (900000, 1)), (900001, (900002, 1))] rfl rfl (Ze rfl rfl (Ze rfl rfl (Ze rfl rfl (Ze rfl rfl (Ze rfl rfl trivial))))) (Zc rfl rfl (Zc rfl rfl trivial))
                          · refine Zpb 40 rfl ?_; cases h; exact Zh hG [] [(900000, (900000, 1)), (900001, (900002, 1))] rfl rfl (Ze rfl rfl (Ze rfl rfl (Ze rfl rfl (Ze rfl rfl (Ze rfl rfl trivial))))) (Zc rfl rfl (Zc rfl rfl trivial))
                      · refine Zpp 9 rfl ?_; refine YT rfl rfl rfl h (fun _ h => ?_) (fun _ h => ?_)
                        · refine Zwp 3 rfl ?_; refine Y2 rfl rfl rfl ?_; refine W.chk rfl (elemB hx921) ?_; refine W.elem rfl (elemG hx921) ?_; refine W.chk rfl rfl ?_; refine W.det (.fp [.v (.int .i64 x921.Id), .fz (List.map (encI .i64) x921.Parents)]) _ rfl ?_; refine Zu (.fp [.v (.int .i64 x921.Id), .fz (List.map (encI .i64) x921.Parents)]) rfl rfl rfl rfl ?_; refine Zpp 1 rfl ?_; refine Y2 rfl rfl rfl ?_; refine bindK h fun y946 hy946 h => ?_; refine W.call rfl (Fn.toO (graph_Graph_Has_fn hy946) trivial rfl) ?_; refine Zwp 3 rfl ?_; refine YF rfl rfl rfl h (fun _ h => ?_) (fun _ h => ?_)
                          · refine Zpb 31 rfl ?_; cases h; exact Zh hG [] [(900000, (900000, 1)), (900001, (900002, 1))] rfl rfl (Ze rfl rfl (Ze rfl rfl (Ze rfl rfl (Ze rfl rfl (Ze rfl rfl trivial))))) (Zc rfl rfl (Zc rfl rfl trivial))
                          · refine Zwp 3 rfl ?_; refine Y2 rfl rfl rfl ?_; refine W.chk rfl (elemB hx921) ?_; refine W.elem rfl (elemG hx921) ?_; refine W.chk rfl rfl ?_; refine W.det (.fp [.v (.int .i64 x921.Id), .fz (List.map (encI .i64) x921.Parents)]) _ rfl ?_; refine Zu (.agg (api_Node.av x921)) rfl rfl rfl rfl ?_; refine Y2 rfl rfl rfl ?_; refine bindK h fun y947 hy947 h => ?_; refine W.call rfl (graph_Graph_Add_fn hy947) ?_; refine W.det (VI y947.1) (Mem.set (Mem.set _ 900000 1 (some (.box [.mp 900002 1]))) 900002 1 (some (.mapi (.i .i64) (mapE (Value.int .i64) (fun x => D.ag (graph_entry.enc x)) y947.2.nodes)))) rfl ?_; refine Zpp 3 rfl ?_; refine YF rfl rfl rfl h (fun _ h => ?_) (fun _ h => ?_)
                            · refine Zpb 22 rfl ?_; cases h; exact Zh hG [] [(900000, (900000, 1)), (900001, (900002, 1))] rfl rfl (Ze rfl rfl (Ze rfl rfl (Ze rfl rfl (Ze rfl rfl (Ze rfl rfl trivial))))) (Zc rfl rfl (Zc rfl rfl trivial))
                            · refine Zwp 2 rfl ?_; refine YT rfl rfl rfl h (fun _ h => ?_) (fun _ h => ?_)
                              · refine Zwp 2 rfl ?_; refine Y2 rfl rfl rfl ?_; refine bindK h fun y948 hy948 h => ?_; refine W.call rfl (Fn.toO (graph_Graph_Same_fn hy948) trivial rfl) ?_; refine Zwp 5 rfl ?_; refine YF rfl rfl rfl h (fun _ h => ?_) (fun _ h => ?_)
                                · refine Zpb 13 rfl ?_; cases h; exact Zh hG [] [(900000, (900000, 1)), (900001, (900002, 1))] rfl rfl (Ze rfl rfl (Ze rfl rfl (Ze rfl rfl (Ze rfl rfl (Ze rfl rfl trivial))))) (Zc rfl rfl (Zc rfl rfl trivial))
                                · refine Zwp 3 rfl ?_; refine YT rfl rfl rfl h (fun _ h => ?_) (fun _ h => ?_)
                                  · refine Zwp 1 rfl ?_; refine Y2 rfl rfl rfl ?_; refine bindK h fun y949 hy949 h => ?_; refine W.call rfl (Fn.toO (graph_Graph_Len_fn hy949) trivial rfl) ?_; refine Zwp 2 rfl ?_; refine Y2 rfl rfl rfl ?_; refine bindK h fun y950 hy950 h => ?_; refine W.call rfl (Fn.toO (graph_Graph_Len_fn hy950) trivial rfl) ?_; refine Zwb 8 rfl ?_; cases h; exact Zh hG [] [(900000, (900000, 1)), (900001, (900002, 1))] rfl rfl (Ze rfl rfl (Ze rfl rfl (Ze rfl rfl (Ze rfl rfl (Ze rfl rfl trivial))))) (Zc rfl rfl (Zc rfl rfl trivial))
                                  · refine Zpb 10 rfl ?_; cases h; exact Zh hG [] [(900000, (900000, 1)), (900001, (900002, 1))] rfl rfl (Ze rfl rfl (Ze rfl rfl (Ze rfl rfl (Ze rfl rfl (Ze rfl rfl trivial))))) (Zc rfl rfl (Zc rfl rfl trivial))
                              · refine Zpp 9 rfl ?_; refine YT rfl rfl rfl h (fun _ h => ?_) (fun _ h => ?_)
                                · refine Zwp 1 rfl ?_; refine Y2 rfl rfl rfl ?_; refine bindK h fun y951 hy951 h => ?_; refine W.call rfl (Fn.toO (graph_Graph_Len_fn hy951) trivial rfl) ?_; refine Zwp 2 rfl ?_; refine Y2 rfl rfl rfl ?_; refine bindK h fun y952 hy952 h => ?_; refine W.call rfl (Fn.toO (graph_Graph_Len_fn hy952) trivial rfl) ?_; refine Zwb 8 rfl ?_; cases h; exact Zh hG [] [(900000, (900000, 1)), (900001, (900002, 1))] rfl rfl (Ze rfl rfl (Ze rfl rfl (Ze rfl rfl (Ze rfl rfl (Ze rfl rfl trivial))))) (Zc rfl rfl (Zc rfl rfl trivial))
                                · refine Zpb 10 rfl ?_; cases h; exact Zh hG [] [(900000, (900000, 1)), (900001, (900002, 1))] rfl rfl (Ze rfl rfl (Ze rfl rfl (Ze rfl rfl (Ze rfl rfl (Ze rfl rfl trivial))))) (Zc rfl rfl (Zc rfl rfl trivial))
                        · refine Zpb 40 rfl ?_; cases h; exact Zh hG [] [(900000, (900000, 1)), (900001, (900002, 1))] rfl rfl (Ze rfl rfl (Ze rfl rfl (Ze rfl rfl (Ze rfl rfl (Ze rfl rfl trivial))))) (Zc rfl rfl (Zc rfl rfl trivial))
                  · intro s93 r2 h hG; refine A.condB rfl h (fun _ h => ?_) (fun _ h => ?_)
                    · refine Zcb 7 rfl ?_; refine headK.r ?_; refine headK.r ?_; refine Zob 1 rfl ?_; refine headK.r ?_; cases h; cases hG; exact ⟨rfl, trivial⟩
                    · refine Zcb 2 rfl ?_; cases h; exact Zh hG [] [(900000, (900000, 1)), (900001, (900001, 1))] rfl rfl (Ze rfl rfl (Ze rfl rfl (Ze rfl rfl (Ze rfl rfl trivial)))) (Zc rfl rfl (Zc rfl rfl trivial))
        · intro s86 r2 h hG; refine Zcb 5 rfl ?_; cases h; exact Zh hG [] [(900000, (900000, 1)), (900001, (900001, 1))] rfl rfl (Ze rfl rfl (Ze rfl rfl (Ze rfl rfl (Ze rfl rfl trivial)))) (Zc rfl rfl (Zc rfl rfl trivial))
      · refine Zcb 2 rfl ?_; refine headK.e ?_; refine Zob 1 rfl ?_; cases h; exact Zh hG [] [] rfl rfl (Ze rfl rfl trivial) trivial
    · intro s47 r2 h hG; refine Zcb 7 rfl ?_; cases h; cases hG; exact ⟨rfl, trivial⟩
end Go.Proofs.Ytlgadmholjaljaa

/-
  Plain programs of functions, and that the functions do what they say. Printed by wip/tools/gen.py.
-/
import Derived.Test.YtlgadmholjaljaaG3
namespace Go.Proofs.Ytlgadmholjaljaa
open Go.RowKit
attribute [local irreducible] IntKind.wrap AW runL Step.wp
set_option linter.unusedVariables false
set_option maxHeartbeats 4000000
set_option maxRecDepth 100000
noncomputable def law07_GraphOrders_L1 (s12 : (Int × (List api_Node))) (l_ : (List api_Node)) (y1 : Bool) (x152 : api_Node) (s21 : Int) : Option ((Int) ⊕ (((List api_Node)) ⊕ ((Int × (List api_Node)) ⊕ (((List api_Node)) ⊕ (Bool))))) :=
  (bif (decide (s21 < s12.1)) then
    (getI l_ s21).bind fun x164 =>
    (getI l_ s12.1).bind fun x165 =>
    (bif (x164.Id == x165.Id) then
      some (.inr (.inr (.inr (.inr y1))))
    else
      some (.inl (IntKind.i64.wrap (s21 + (1 : Int)))))
  else
    some (.inr (.inl (s12.2 ++ [x152]))))
noncomputable def law07_GraphOrders_L2 (l_ : (List api_Node)) (y1 : Bool) (s12 : Int × (List api_Node)) : Option ((Int × (List api_Node)) ⊕ (((List api_Node)) ⊕ (Bool))) :=
  (bif (decide (s12.1 < (l_.length : Int))) then
    (seqF (A := (List api_Node)) (
      (getI l_ (IntKind.i64.wrap ((IntKind.i64.wrap ((l_.length : Int) - (1 : Int))) - s12.1))).bind fun x152 =>
      (chkO (decide (s12.2.length + [x152].length ≤ 1000000))).bind fun _ =>
      loopF (law07_GraphOrders_L1 s12 l_ y1 x152) (0 : Int))
    fun s20 =>
      some (.inl ((IntKind.i64.wrap (s12.1 + (1 : Int))), s20)))
  else
    some (.inr (.inl s12.2)))
noncomputable def law07_GraphOrders (l_ : (List api_Node)) (more_ : api_Node) : Option (Bool) :=
  (law07_small).bind fun y1 =>
  (ref07_Few l_ (20 : Int)).bind fun y5 =>
  (bif (!y5) then
    some y1
  else
    (bif (decide ((30 : Int) < (more_.Parents.length : Int))) then
      some y1
    else
      (seqF (A := (List api_Node)) (
        loopF (law07_GraphOrders_L2 l_ y1) ((0 : Int), ([] : List api_Node)))
      fun s11 =>
        (law07_known l_).bind fun y166 =>
        (law07_known s11).bind fun y167 =>
        (law07_all y166 l_).bind fun y168 =>
        (graph_Graph_Copy y166).bind fun y169 =>
        (graph_Graph_Len y166).bind fun y179 =>
        (bif (((y168.length : Nat) : Int) != y179) then
          some false
        else
          (law07_alike y166 y167 y168).bind fun y180 =>
          (bif (!y180) then
            some false
          else
            (law07_alike y166 y169 y168).bind fun y181 =>
            (bif (!y181) then
              some false
            else
              (graph_Graph_Add y166 more_).bind fun y182 =>
              (bif y1 then
                (law07_alike y167 y169 y168).bind fun y183 =>
                some y183
              else
                some false)))))))
theorem law07_GraphOrders_fn {l_ : (List api_Node)} {more_ : api_Node} {r : Bool} (h : law07_GraphOrders l_ more_ = some r) : Fn False Try.prog 3 [VF (List.map api_Node.enc l_), .agg (api_Node.av more_)] (VB r) := by
  refine Fn.of_AW (dr := False) (F := FnX False Try.prog) (base := 0) (js := [7, 14]) mixed tok noeqs (fun _ _ _ h => h) Try.call3 Try.func3 rfl Try.ntmps3 (by rw [Try.results3]) (by simp) ?_; have hG : (fun x => x = r) r := rfl; unfold law07_GraphOrders at h; refine Zap 2 rfl ?_; refine Zm (.lp 3 1 0) (Mem.add _ 3 (.box (api_Node.av more_))) rfl rfl ?_; refine Zpp 5 rfl ?_; refine Y1 rfl ?_; refine bindK h fun y1 hy1 h => ?_; refine W.call rfl (law07_small_fn hy1) ?_; refine Zwp 8 rfl ?_; refine Y1 rfl ?_; refine bindK h fun y5 hy5 h => ?_; refine W.call rfl (ref07_Few_fn hy5) ?_; refine Zwp 3 rfl ?_; refine YF rfl rfl rfl h (fun _ h => ?_) (fun _ h => ?_)
  · refine Zpb 15 rfl ?_; cases h; cases hG; exact ⟨rfl, trivial⟩
  · refine Zwp 2 rfl ?_; refine Y2 rfl rfl rfl ?_; refine W.len rfl ?_; refine Zpc 4 rfl ?_; refine A.condB rfl h (fun _ h => ?_) (fun _ h => ?_)
    · refine Zcb 8 rfl ?_; cases h; cases hG; exact ⟨rfl, trivial⟩
    · refine Zcp 4 rfl ?_; refine Zm (.row 6 1 0) (Mem.add _ 6 (.rows 2 (List.map api_Node.enc ([] : List api_Node)) false)) rfl rfl ?_; refine Zpc 2 rfl ?_; refine A.join (fun (s11 : (List api_Node)) => [(0, VF (List.map api_Node.enc l_)), (3, .lp 900000 1 0), (5, VB y1), (6, .row 900001 1 s11.length)]) (fun s11 => [(900000, .box (api_Node.av more_)), (900001, .rows 2 (List.map api_Node.enc s11) false)]) _ h hG rfl ?_ ?_
      · intro J f h hG; refine Zac 6 rfl ?_; refine A.loop (fun (s12 : Int × (List api_Node)) => [(0, VF (List.map api_Node.enc l_)), (3, .lp 900000 1 0), (5, VB y1), (6, .row 900001 1 s12.2.length), (7, VI s12.1)]) (fun s12 => [(900000, .box (api_Node.av more_)), (900001, .rows 2 (List.map api_Node.enc s12.2) false)]) _ h hG (Zf [] [(900000, (3, 1)), (900001, (6, 1))] rfl rfl (Ze rfl rfl (Ze rfl rfl (Ze rfl rfl (Ze rfl rfl (Ze rfl rfl trivial))))) (Zc rfl rfl (Zc rfl rfl trivial))) ?_; intro J s12 f h hG; unfold law07_GraphOrders_L2 at h; refine Zap 5 rfl ?_; refine Y1 rfl ?_; refine W.len rfl ?_; refine Zpc 3 rfl ?_; refine A.condB rfl h (fun _ h => ?_) (fun _ h => ?_)
        · refine Zcc 2 rfl ?_; refine A.join (fun (s20 : (List api_Node)) => [(0, VF (List.map api_Node.enc l_)), (3, .lp 900000 1 0), (5, VB y1), (6, .row 900001 1 s20.length), (7, VI s12.1)]) (fun s20 => [(900000, .box (api_Node.av more_)), (900001, .rows 2 (List.map api_Node.enc s20) false)]) _ h hG rfl ?_ ?_
          · intro J f h hG; refine Zap 3 rfl ?_; refine Zo (.row 900001 1 s12.2.length) rfl rfl ?_; refine Zpp 2 rfl ?_; refine Y1 rfl ?_; refine W.len rfl ?_; refine Zpp 3 rfl ?_; refine Y1 rfl ?_; refine bindK h fun x152 hx152 h => ?_; refine W.chk rfl (elemB hx152) ?_; refine W.elem rfl (elemG hx152) ?_; refine W.chk rfl rfl ?_; refine W.det (.fp [.v (.int .i64 x152.Id), .fz (List.map (encI .i64) x152.Parents)]) _ rfl ?_; refine Zo (.agg (api_Node.av x152)) rfl rfl ?_; refine Zm (.row 39 2 1) (Mem.add _ 39 (.rows 2 (List.map api_Node.enc [x152]) false)) rfl rfl ?_; refine Y1 rfl ?_; refine chkK h fun g153 h => ?_; refine W.chk rfl (appChk (fun _ => rfl) g153) ?_; refine W.app rfl rfl ?_; refine Zo (.row 900001 2 (s12.2 ++ [x152]).length) rfl rfl ?_; refine Zpc 8 rfl ?_; refine A.loop (fun (s21 : Int) => [(0, VF (List.map api_Node.enc l_)), (3, .lp 900000 1 0), (5, VB y1), (6, .row 900001 1 (s12.2 ++ [x152]).length), (7, VI s12.1), (8, VI s21)]) (fun s21 => [(900000, .box (api_Node.av more_)), (900001, .rows 2 (List.map api_Node.enc (s12.2 ++ [x152])) false)]) _ h hG (Zf [] [(900000, (900000, 1)), (900001, (900001, 2))] rfl rfl (Ze rfl rfl (Ze rfl rfl (Ze rfl rfl (Ze rfl rfl (Ze rfl rfl (Ze rfl rfl trivial)))))) (Zc rfl rfl (Zc rfl rfl trivial))) ?_; intro J s21 f h hG; unfold law07_GraphOrders_L1 at h; refine Zac 8 rfl ?_; refine A.condB rfl h (fun _ h => ?_) (fun _ h => ?_)
            · refine Zcc 5 rfl ?_; refine A.regionD (by kernel_rfl) ?_; refine Zpp 2 rfl ?_; refine Y1 rfl ?_; refine bindK h fun x164 hx164 h => ?_; refine W.chk rfl (elemB hx164) ?_; refine W.elem rfl (elemG hx164) ?_; refine W.chk rfl rfl ?_; refine W.det (.fp [.v (.int .i64 x164.Id), .fz (List.map (encI .i64) x164.Parents)]) _ rfl ?_; refine Zo (.fp [.v (.int .i64 x164.Id), .fz (List.map (encI .i64) x164.Parents)]) rfl rfl ?_; refine Zpp 3 rfl ?_; refine Y1 rfl ?_; refine bindK h fun x165 hx165 h => ?_; refine W.chk rfl (elemB hx165) ?_; refine W.elem rfl (elemG hx165) ?_; refine W.chk rfl rfl ?_; refine W.det (.fp [.v (.int .i64 x165.Id), .fz (List.map (encI .i64) x165.Parents)]) _ rfl ?_; refine Zo (.fp [.v (.int .i64 x165.Id), .fz (List.map (encI .i64) x165.Parents)]) rfl rfl ?_; refine Zpc 4 rfl ?_; refine A.condB rfl h (fun _ h => ?_) (fun _ h => ?_)
              · refine Zcb 9 rfl ?_; refine headK.r ?_; refine Zob 2 rfl ?_; refine headK.r ?_; refine headK.r ?_; refine Zob 1 rfl ?_; refine headK.r ?_; cases h; cases hG; exact ⟨rfl, trivial⟩
              · refine Zcb 8 rfl ?_; cases h; exact Zh hG [] [(900000, (900000, 1)), (900001, (900001, 1))] rfl rfl (Ze rfl rfl (Ze rfl rfl (Ze rfl rfl (Ze rfl rfl (Ze rfl rfl (Ze rfl rfl trivial)))))) (Zc rfl rfl (Zc rfl rfl trivial))
            · refine Zcb 2 rfl ?_; refine headK.e ?_; refine Zob 2 rfl ?_; cases h; exact Zh hG [] [(900000, (900000, 1)), (900001, (900001, 1))] rfl rfl (Ze rfl rfl (Ze rfl rfl (Ze rfl rfl (Ze rfl rfl (Ze rfl rfl trivial))))) (Zc rfl rfl (Zc rfl rfl trivial))
          · intro s20 r2 h hG; refine Zcb 5 rfl ?_; cases h; exact Zh hG [] [(900000, (900000, 1)), (900001, (900001, 1))] rfl rfl (Ze rfl rfl (Ze rfl rfl (Ze rfl rfl (Ze rfl rfl (Ze rfl rfl trivial))))) (Zc rfl rfl (Zc rfl rfl trivial))
        · refine Zcb 2 rfl ?_; refine headK.e ?_; refine Zob 1 rfl ?_; cases h; exact Zh hG [] [(900000, (900000, 1)), (900001, (900001, 1))] rfl rfl (Ze rfl rfl (Ze rfl rfl (Ze rfl rfl (Ze rfl rfl trivial)))) (Zc rfl rfl (Zc rfl rfl trivial))
      · intro s11 r2 h hG; refine Zcp 3 rfl ?_; refine Y1 rfl ?_; refine bindK h fun y166 hy166 h => ?_; refine W.call rfl (law07_known_fn hy166) ?_; refine W.det (.lp 536870971 2 0) (Mem.add (Mem.add _ 268435515 (.mapi (.i .i64) (mapE (Value.int .i64) (fun x => D.ag (graph_entry.enc x)) y166.nodes))) 536870971 (.box [.mp 268435515 2])) rfl ?_; refine Zpp 5 rfl ?_; refine Zo (.row 900001 1 s11.length) rfl rfl ?_; refine Y1 rfl ?_; refine bindK h fun y167 hy167 h => ?_; refine W.call rfl (law07_known_fn hy167) ?_; refine W.det (.lp 536870973 2 0) (Mem.add (Mem.add (Mem.set _ 900001 1 (some (.rows 2 (List.map api_Node.enc s11) true))) 268435517 (.mapi (.i .i64) (mapE (Value.int .i64) (fun x => D.ag (graph_entry.enc x)) y167.nodes))) 536870973 (.box [.mp 268435517 2])) rfl ?_; refine Zpp 9 rfl ?_; refine R.litY rfl rfl rfl ?_; refine Zwp 12 rfl ?_; refine Y1 rfl ?_; refine bindK h fun y168 hy168 h => ?_; refine W.call rfl (Fn.toO (law07_all_fn hy168) (PlainR.ints _) rfl) ?_; refine W.v (.row 70 2 (List.map (encI .i64) y168).length) (.row 70 2 y168.length) (Mem.add _ 70 (.rows 1 (List.map (encI .i64) y168) false)) rfl (by simp only [List.length_map]) ?_; refine Zo (.row 70 2 y168.length) rfl rfl ?_; refine Zpp 5 rfl ?_; refine Y1 rfl ?_; refine bindK h fun y169 hy169 h => ?_; refine W.call rfl (graph_Graph_Copy_fn hy169) ?_; refine W.det (.lp 536870984 2 0) (Mem.add (Mem.add _ 268435528 (.mapi (.i .i64) (mapE (Value.int .i64) (fun x => D.ag (graph_entry.enc x)) y169.nodes))) 536870984 (.box [.mp 268435528 2])) rfl ?_; refine Zpp 9 rfl ?_; refine R.litY rfl rfl rfl ?_; refine W.det (.row 70 2 y168.length) _ rfl ?_; refine Zpp 2 rfl ?_; refine Y2 rfl rfl rfl ?_; refine bindK h fun y179 hy179 h => ?_; refine W.call rfl (Fn.toO (graph_Graph_Len_fn hy179) trivial rfl) ?_; refine Zwp 4 rfl ?_; refine YF rfl rfl rfl h (fun _ h => ?_) (fun _ h => ?_)
        · refine Zpb 22 rfl ?_; cases h; cases hG; exact ⟨rfl, trivial⟩
        · refine Zwp 2 rfl ?_; refine Zu (.row 70 2 y168.length) rfl rfl rfl rfl ?_; refine Y2 rfl rfl rfl ?_; refine bindK h fun y180 hy180 h => ?_; refine W.call rfl (Fn.toO (law07_alike_fn hy180) trivial rfl) ?_; refine W.det (VB y180) (Mem.set _ 70 2 (some (.rows 1 (List.map (encI .i64) y168) true))) rfl ?_; refine Zpp 3 rfl ?_; refine YF rfl rfl rfl h (fun _ h => ?_) (fun _ h => ?_)
          · refine Zpb 15 rfl ?_; cases h; cases hG; exact ⟨rfl, trivial⟩
          · refine Zwp 2 rfl ?_; refine Zu (.row 70 2 y168.length) rfl rfl rfl rfl ?_; refine Y2 rfl rfl rfl ?_; refine bindK h fun y181 hy181 h => ?_; refine W.call rfl (Fn.toO (law07_alike_fn hy181) trivial rfl) ?_; refine W.det (VB y181) (Mem.set _ 70 2 (some (.rows 1 (List.map (encI .i64) y168) true))) rfl ?_; refine Zpc 4 rfl ?_; refine A.condB rfl h (fun _ h => ?_) (fun _ h => ?_)
            · refine Zcb 7 rfl ?_; cases h; cases hG; exact ⟨rfl, trivial⟩
            · refine Zcp 5 rfl ?_; refine Zo (.agg (api_Node.av more_)) rfl rfl ?_; refine Y1 rfl ?_; refine bindK h fun y182 hy182 h => ?_; refine W.call rfl (graph_Graph_Add_fn hy182) ?_; refine W.det (VI y182.1) (Mem.set (Mem.set _ 536870971 2 (some (.box [.mp 268435515 2]))) 268435515 2 (some (.mapi (.i .i64) (mapE (Value.int .i64) (fun x => D.ag (graph_entry.enc x)) y182.2.nodes)))) rfl ?_; refine Zpp 6 rfl ?_; refine YT rfl rfl rfl h (fun _ h => ?_) (fun _ h => ?_)
              · refine Zwp 2 rfl ?_; refine Zu (.row 70 2 y168.length) rfl rfl rfl rfl ?_; refine Y2 rfl rfl rfl ?_; refine bindK h fun y183 hy183 h => ?_; refine W.call rfl (Fn.toO (law07_alike_fn hy183) trivial rfl) ?_; refine W.det (VB y183) (Mem.set _ 70 2 (some (.rows 1 (List.map (encI .i64) y168) true))) rfl ?_; refine Zpb 5 rfl ?_; cases h; cases hG; exact ⟨rfl, trivial⟩
              · refine Zpb 8 rfl ?_; cases h; cases hG; exact ⟨rfl, trivial⟩
end Go.Proofs.Ytlgadmholjaljaa

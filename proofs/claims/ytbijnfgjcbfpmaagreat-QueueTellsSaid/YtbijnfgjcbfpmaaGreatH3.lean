/-
  Plain programs of functions, and that the functions do what they say. Printed by wip/tools/gen.py.
-/
import Derived.Test.YtbijnfgjcbfpmaaGreatG4
namespace Go.Proofs.YtbijnfgjcbfpmaaGreat
open Go.RowKit
attribute [local irreducible] IntKind.wrap AW runL Step.wp
set_option linter.unusedVariables false
set_option maxHeartbeats 4000000
set_option maxRecDepth 100000
noncomputable def law30_QueueTells (p_ : api_Profile) (p1_ : (List api_Waiting)) (p2_ : api_Waiting) (p3_ : Int) (p4_ : Int) (p5_ : Bool) : Option (Bool) :=
  (law30_small).bind fun y1 =>
  (ref30_Few p_ p1_ (30 : Int)).bind fun y3 =>
  (bif (!y3) then
    some y1
  else
    (queue_Put p_ p1_ p2_ p4_).bind fun y4 =>
    (ref30_Put p_ p1_ p2_ p4_).bind fun y5 =>
    (queue_Step p_ p3_ p1_ p5_).bind fun y6 =>
    (ref30_Step p_ p3_ p1_ p5_).bind fun y7 =>
    (bif y1 then
      (bif (y4.2 == y5.2) then
        (ref30_Same y4.1 y5.1).bind fun y8 =>
        (bif y8 then
          (ref10_Ints y6.1 y7.1).bind fun y9 =>
          (bif y9 then
            (ref30_Same y6.2 y7.2).bind fun y10 =>
            (bif y10 then
              (queue_Late p1_ p4_).bind fun y11 =>
              (ref30_Late p1_ p4_).bind fun y12 =>
              (ref10_Ints y11 y12).bind fun y13 =>
              some y13
            else
              some false)
          else
            some false)
        else
          some false)
      else
        some false)
    else
      some false))
theorem law30_QueueTells_fn {p_ : api_Profile} {p1_ : (List api_Waiting)} {p2_ : api_Waiting} {p3_ : Int} {p4_ : Int} {p5_ : Bool} {r : Bool} (h : law30_QueueTells p_ p1_ p2_ p3_ p4_ p5_ = some r) : Fn Tryz.prog 3 [.agg (api_Profile.av p_), VF (List.map api_Waiting.enc p1_), .agg (api_Waiting.av p2_), VI p3_, VI p4_, VB p5_] (VB r) := by
  refine Fn.of_AW (F := FnX Tryz.prog) (base := 0) (js := []) mixed tok noeqs (fun _ _ _ h => h) Tryz.call3 Tryz.func3 rfl Tryz.ntmps3 (by rw [Tryz.results3]) (by simp) ?_; have hG : (fun x => x = r) r := rfl; unfold law30_QueueTells at h; refine Zap 2 rfl ?_; refine Zm (.lp 6 1 0) (Mem.add _ 6 (.box (api_Profile.av p_))) rfl rfl ?_; refine Zm (.lp 8 1 0) (Mem.add _ 8 (.box (api_Waiting.av p2_))) rfl rfl ?_; refine Zpp 5 rfl ?_; refine Y1 rfl ?_; refine bindK h fun y1 hy1 h => ?_; refine W.call rfl (law30_small_fn hy1) ?_; refine Zwp 7 rfl ?_; refine Zo (.agg (api_Profile.av p_)) rfl rfl ?_; refine Zpp 1 rfl ?_; refine Y1 rfl ?_; refine bindK h fun y3 hy3 h => ?_; refine W.call rfl (ref30_Few_fn hy3) ?_; refine Zwc 4 rfl ?_; refine A.condB rfl h (fun _ h => ?_) (fun _ h => ?_)
  · refine Zcb 8 rfl ?_; cases h; cases hG; exact ⟨rfl, trivial⟩
  · refine Zcp 4 rfl ?_; refine Zo (.agg (api_Profile.av p_)) rfl rfl ?_; refine Zpp 1 rfl ?_; refine Zo (.agg (api_Waiting.av p2_)) rfl rfl ?_; refine Zpp 1 rfl ?_; refine Y1 rfl ?_; refine bindK h fun y4 hy4 h => ?_; refine W.call rfl (queue_Put_fn hy4) ?_; refine W.v (.tup [.row 1048609 1 (List.map api_Waiting.enc y4.1).length, VI y4.2]) (.tup [.row 1048609 1 y4.1.length, VI y4.2]) (Mem.add _ 1048609 (.rows 4 (List.map api_Waiting.enc y4.1) false)) rfl (by simp only [List.length_map]) ?_; refine Zo (.tup [.row 1048609 1 y4.1.length, VI y4.2]) rfl rfl ?_; refine Zo (.row 1048609 1 y4.1.length) rfl rfl ?_; refine Zpp 1 rfl ?_; refine Zo (.row 1048609 1 y4.1.length) rfl rfl ?_; refine Zpp 5 rfl ?_; refine Zo (.agg (api_Profile.av p_)) rfl rfl ?_; refine Zpp 1 rfl ?_; refine Zo (.agg (api_Waiting.av p2_)) rfl rfl ?_; refine Zpp 1 rfl ?_; refine Y1 rfl ?_; refine bindK h fun y5 hy5 h => ?_; refine W.call rfl (ref30_Put_fn hy5) ?_; refine W.det (.tup [VF (List.map api_Waiting.enc y5.1), VI y5.2]) _ rfl ?_; refine Zo (.tup [VF (List.map api_Waiting.enc y5.1), VI y5.2]) rfl rfl ?_; refine Zpp 8 rfl ?_; refine Zo (.agg (api_Profile.av p_)) rfl rfl ?_; refine Zpp 3 rfl ?_; refine Y1 rfl ?_; refine bindK h fun y6 hy6 h => ?_; refine W.call rfl (queue_Step_fn hy6) ?_; refine W.v (.tup [.row 1048625 1 (List.map (encI .i64) y6.1).length, .row 2097201 1 (List.map api_Waiting.enc y6.2).length]) (.tup [.row 1048625 1 y6.1.length, .row 2097201 1 y6.2.length]) (Mem.add (Mem.add _ 1048625 (.rows 1 (List.map (encI .i64) y6.1) false)) 2097201 (.rows 4 (List.map api_Waiting.enc y6.2) false)) rfl (by simp only [List.length_map]) ?_; refine Zo (.tup [.row 1048625 1 y6.1.length, .row 2097201 1 y6.2.length]) rfl rfl ?_; refine Zo (.row 1048625 1 y6.1.length) rfl rfl ?_; refine Zo (.row 2097201 1 y6.2.length) rfl rfl ?_; refine Zo (.row 1048625 1 y6.1.length) rfl rfl ?_; refine Zo (.row 2097201 1 y6.2.length) rfl rfl ?_; refine Zpp 4 rfl ?_; refine Zo (.agg (api_Profile.av p_)) rfl rfl ?_; refine Zpp 3 rfl ?_; refine Y1 rfl ?_; refine bindK h fun y7 hy7 h => ?_; refine W.call rfl (ref30_Step_fn hy7) ?_; refine W.v (.tup [.row 1048633 1 (List.map (encI .i64) y7.1).length, .row 2097209 1 (List.map api_Waiting.enc y7.2).length]) (.tup [.row 1048633 1 y7.1.length, .row 2097209 1 y7.2.length]) (Mem.add (Mem.add _ 1048633 (.rows 1 (List.map (encI .i64) y7.1) false)) 2097209 (.rows 4 (List.map api_Waiting.enc y7.2) false)) rfl (by simp only [List.length_map]) ?_; refine Zo (.tup [.row 1048633 1 y7.1.length, .row 2097209 1 y7.2.length]) rfl rfl ?_; refine Zo (.row 1048633 1 y7.1.length) rfl rfl ?_; refine Zo (.row 2097209 1 y7.2.length) rfl rfl ?_; refine Zo (.row 1048633 1 y7.1.length) rfl rfl ?_; refine Zo (.row 2097209 1 y7.2.length) rfl rfl ?_; refine Zpp 6 rfl ?_; refine YT rfl rfl rfl h (fun _ h => ?_) (fun _ h => ?_)
    · refine Zwp 5 rfl ?_; refine YT rfl rfl rfl h (fun _ h => ?_) (fun _ h => ?_)
      · refine W.det (.row 1048609 1 y4.1.length) _ rfl ?_; refine Zpp 1 rfl ?_; refine Y2 rfl rfl rfl ?_; refine bindK h fun y8 hy8 h => ?_; refine W.call rfl (ref30_Same_fn hy8) ?_; refine Zwp 3 rfl ?_; refine YT rfl rfl rfl h (fun _ h => ?_) (fun _ h => ?_)
        · refine W.det (.row 1048625 1 y6.1.length) _ rfl ?_; refine Zu (.row 1048633 1 y7.1.length) rfl rfl rfl rfl ?_; refine Y2 rfl rfl rfl ?_; refine bindK h fun y9 hy9 h => ?_; refine W.call rfl (ref10_Ints_fn hy9) ?_; refine Zwp 3 rfl ?_; refine YT rfl rfl rfl h (fun _ h => ?_) (fun _ h => ?_)
          · refine W.det (.row 2097201 1 y6.2.length) _ rfl ?_; refine Zu (.row 2097209 1 y7.2.length) rfl rfl rfl rfl ?_; refine Y2 rfl rfl rfl ?_; refine bindK h fun y10 hy10 h => ?_; refine W.call rfl (ref30_Same_fn hy10) ?_; refine Zwp 3 rfl ?_; refine YT rfl rfl rfl h (fun _ h => ?_) (fun _ h => ?_)
            · refine Zwp 2 rfl ?_; refine Y2 rfl rfl rfl ?_; refine bindK h fun y11 hy11 h => ?_; refine W.call rfl (queue_Late_fn hy11) ?_; refine W.v (.row 84 1 (List.map (encI .i64) y11).length) (.row 84 1 y11.length) (Mem.add _ 84 (.rows 1 (List.map (encI .i64) y11) false)) rfl (by simp only [List.length_map]) ?_; refine Zpp 2 rfl ?_; refine Y2 rfl rfl rfl ?_; refine bindK h fun y12 hy12 h => ?_; refine W.call rfl (ref30_Late_fn hy12) ?_; refine W.v (.row 87 1 (List.map (encI .i64) y12).length) (.row 87 1 y12.length) (Mem.add _ 87 (.rows 1 (List.map (encI .i64) y12) false)) rfl (by simp only [List.length_map]) ?_; refine Y2 rfl rfl rfl ?_; refine bindK h fun y13 hy13 h => ?_; refine W.call rfl (ref10_Ints_fn hy13) ?_; refine Zwb 6 rfl ?_; cases h; cases hG; exact ⟨rfl, trivial⟩
            · refine Zpb 11 rfl ?_; cases h; cases hG; exact ⟨rfl, trivial⟩
          · refine Zpb 16 rfl ?_; cases h; cases hG; exact ⟨rfl, trivial⟩
        · refine Zpb 21 rfl ?_; cases h; cases hG; exact ⟨rfl, trivial⟩
      · refine Zpb 26 rfl ?_; cases h; cases hG; exact ⟨rfl, trivial⟩
    · refine Zpb 31 rfl ?_; cases h; cases hG; exact ⟨rfl, trivial⟩
end Go.Proofs.YtbijnfgjcbfpmaaGreat

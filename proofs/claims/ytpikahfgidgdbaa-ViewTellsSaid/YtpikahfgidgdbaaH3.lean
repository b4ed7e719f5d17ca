/-
  Plain programs of functions, and that the functions do what they say. Printed by wip/tools/gen.py.
-/
import Derived.Test.YtpikahfgidgdbaaG2
namespace Go.Proofs.Ytpikahfgidgdbaa
open Go.RowKit
attribute [local irreducible] IntKind.wrap AW runL Step.wp
set_option linter.unusedVariables false
set_option maxHeartbeats 4000000
set_option maxRecDepth 100000
noncomputable def law16_ViewTells (l_ : (List api_Event)) (id_ : Int) : Option (Bool) :=
  (law16_small).bind fun y1 =>
  (ref16_Few l_ (30 : Int)).bind fun y3 =>
  (bif (!y3) then
    some y1
  else
    (bif y1 then
      (view_View l_).bind fun y4 =>
      (ref16_View l_).bind fun y5 =>
      (ref16_SameAll y4 y5).bind fun y6 =>
      (bif y6 then
        (view_Root l_ id_).bind fun y7 =>
        (ref16_Root l_ id_).bind fun y8 =>
        (bif (y7 == y8) then
          (view_Answers l_ id_).bind fun y9 =>
          (ref16_Answers l_ id_).bind fun y10 =>
          (ref16_Ints y9 y10).bind fun y11 =>
          some y11
        else
          some false)
      else
        some false)
    else
      some false))
theorem law16_ViewTells_fn {l_ : (List api_Event)} {id_ : Int} {r : Bool} (h : law16_ViewTells l_ id_ = some r) : Fn False Try.prog 3 [VF (List.map api_Event.enc l_), VI id_] (VB r) := by
  refine Fn.of_AW (dr := False) (F := FnX False Try.prog) (base := 0) (js := []) mixed tok noeqs (fun _ _ _ h => h) Try.call3 Try.func3 rfl Try.ntmps3 (by rw [Try.results3]) (by simp) ?_; have hG : (fun x => x = r) r := rfl; unfold law16_ViewTells at h; refine Zap 7 rfl ?_; refine Y1 rfl ?_; refine bindK h fun y1 hy1 h => ?_; refine W.call rfl (law16_small_fn hy1) ?_; refine Zwp 8 rfl ?_; refine Y1 rfl ?_; refine bindK h fun y3 hy3 h => ?_; refine W.call rfl (ref16_Few_fn hy3) ?_; refine Zwc 4 rfl ?_; refine A.condB rfl h (fun _ h => ?_) (fun _ h => ?_)
  · refine Zcb 8 rfl ?_; cases h; cases hG; exact ⟨rfl, trivial⟩
  · refine Zcp 6 rfl ?_; refine YT rfl rfl rfl h (fun _ h => ?_) (fun _ h => ?_)
    · refine Zwp 1 rfl ?_; refine Y2 rfl rfl rfl ?_; refine bindK h fun y4 hy4 h => ?_; refine W.call rfl (view_View_fn hy4) ?_; refine Zwp 2 rfl ?_; refine Y2 rfl rfl rfl ?_; refine bindK h fun y5 hy5 h => ?_; refine W.call rfl (ref16_View_fn hy5) ?_; refine W.v (.row 16 1 (List.map api_Msg.enc y5).length) (.row 16 1 y5.length) (Mem.add _ 16 (.rows 11 (List.map api_Msg.enc y5) false)) rfl (by simp only [List.length_map]) ?_; refine Y2 rfl rfl rfl ?_; refine bindK h fun y6 hy6 h => ?_; refine W.call rfl (ref16_SameAll_fn hy6) ?_; refine Zwp 3 rfl ?_; refine YT rfl rfl rfl h (fun _ h => ?_) (fun _ h => ?_)
      · refine Zwp 2 rfl ?_; refine Y2 rfl rfl rfl ?_; refine bindK h fun y7 hy7 h => ?_; refine W.call rfl (view_Root_fn hy7) ?_; refine Zwp 3 rfl ?_; refine Y2 rfl rfl rfl ?_; refine bindK h fun y8 hy8 h => ?_; refine W.call rfl (ref16_Root_fn hy8) ?_; refine Zwp 4 rfl ?_; refine YT rfl rfl rfl h (fun _ h => ?_) (fun _ h => ?_)
        · refine Zwp 2 rfl ?_; refine Y2 rfl rfl rfl ?_; refine bindK h fun y9 hy9 h => ?_; refine W.call rfl (view_Answers_fn hy9) ?_; refine W.v (.row 31 1 (List.map (encI .i64) y9).length) (.row 31 1 y9.length) (Mem.add _ 31 (.rows 1 (List.map (encI .i64) y9) false)) rfl (by simp only [List.length_map]) ?_; refine Zpp 2 rfl ?_; refine Y2 rfl rfl rfl ?_; refine bindK h fun y10 hy10 h => ?_; refine W.call rfl (ref16_Answers_fn hy10) ?_; refine W.v (.row 34 1 (List.map (encI .i64) y10).length) (.row 34 1 y10.length) (Mem.add _ 34 (.rows 1 (List.map (encI .i64) y10) false)) rfl (by simp only [List.length_map]) ?_; refine Y2 rfl rfl rfl ?_; refine bindK h fun y11 hy11 h => ?_; refine W.call rfl (ref16_Ints_fn hy11) ?_; refine Zwb 6 rfl ?_; cases h; cases hG; exact ⟨rfl, trivial⟩
        · refine Zpb 11 rfl ?_; cases h; cases hG; exact ⟨rfl, trivial⟩
      · refine Zpb 20 rfl ?_; cases h; cases hG; exact ⟨rfl, trivial⟩
    · refine Zpb 27 rfl ?_; cases h; cases hG; exact ⟨rfl, trivial⟩
end Go.Proofs.Ytpikahfgidgdbaa

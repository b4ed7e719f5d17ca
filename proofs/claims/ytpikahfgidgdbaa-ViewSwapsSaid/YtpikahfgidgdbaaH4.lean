/-
  Plain programs of functions, and that the functions do what they say. Printed by wip/tools/gen.py.
-/
import Derived.Test.YtpikahfgidgdbaaG2
namespace Go.Proofs.Ytpikahfgidgdbaa
open Go.RowKit
attribute [local irreducible] IntKind.wrap AW runL Step.wp
set_option linter.unusedVariables false
set_option maxHeartbeats 4000000
set_option maxRecDepth 100000
noncomputable def law16_ViewSwaps_L1 (y23 : (List api_Msg)) (at_ : Int) (y24 : (List api_Msg)) (y22 : (List api_Event)) (l_ : (List api_Event)) (s3 : Int) : Option ((Int) ⊕ ((Unit) ⊕ (Bool))) :=
  (bif (decide (s3 < (y23.length : Int))) then
    (getI y23 s3).bind fun x267 =>
    (law16_other x267.Id at_).bind fun y268 =>
    (law16_find y24 y268).bind fun y269 =>
    (bif (!y269.2) then
      some (.inr (.inr false))
    else
      (law16_other y269.1.Id at_).bind fun y270 =>
      (law16_other y269.1.Parent at_).bind fun y271 =>
      (law16_other y269.1.Quote at_).bind fun y272 =>
      (ref16_Same (api_Msg.mk y270 y269.1.Author y269.1.Group y271 y272 y269.1.Who y269.1.Text y269.1.Files y269.1.Edits y269.1.Reacts y269.1.Gone) x267).bind fun y281 =>
      (bif (!y281) then
        some (.inr (.inr false))
      else
        (law16_other x267.Id at_).bind fun y282 =>
        (view_Root y22 y282).bind fun y283 =>
        (law16_other y283 at_).bind fun y284 =>
        (view_Root l_ x267.Id).bind fun y285 =>
        (bif (y284 != y285) then
          some (.inr (.inr false))
        else
          (law16_other x267.Id at_).bind fun y286 =>
          (view_Answers y22 y286).bind fun y287 =>
          (view_Answers l_ x267.Id).bind fun y288 =>
          (bif (((y287.length : Nat) : Int) != ((y288.length : Nat) : Int)) then
            some (.inr (.inr false))
          else
            some (.inl (IntKind.i64.wrap (s3 + (1 : Int))))))))
  else
    some (.inr (.inl ())))
noncomputable def law16_ViewSwaps (l_ : (List api_Event)) (at_ : Int) : Option (Bool) :=
  (law16_small).bind fun y1 =>
  (ref16_Few l_ (30 : Int)).bind fun y5 =>
  (bif (!y5) then
    some y1
  else
    (bif (decide (at_ < (0 : Int))) then
      some y1
    else
      (bif (decide ((IntKind.i64.wrap ((l_.length : Int) - (1 : Int))) ≤ at_)) then
        some y1
      else
        (getI l_ at_).bind fun x18 =>
        (getI l_ (IntKind.i64.wrap (at_ + (1 : Int)))).bind fun x19 =>
        (bif (x18.Author == x19.Author) then
          some y1
        else
          (law16_names x18 (IntKind.i64.wrap (at_ + (1 : Int)))).bind fun y20 =>
          (bif y20 then
            some y1
          else
            (law16_names x19 at_).bind fun y21 =>
            (bif y21 then
              some y1
            else
              (law16_exchanged l_ at_).bind fun y22 =>
              (view_View l_).bind fun y23 =>
              (view_View y22).bind fun y24 =>
              (bif ((y23.length : Int) != (y24.length : Int)) then
                some false
              else
                (seqF (A := Unit) (
                  loopF (law16_ViewSwaps_L1 y23 at_ y24 y22 l_) (0 : Int))
                fun s2 =>
                  some y1))))))))
theorem law16_ViewSwaps_fn {l_ : (List api_Event)} {at_ : Int} {r : Bool} (h : law16_ViewSwaps l_ at_ = some r) : Fn False Try.prog 4 [VF (List.map api_Event.enc l_), VI at_] (VB r) := by
  refine Fn.of_AW (dr := False) (F := FnX False Try.prog) (base := 0) (js := [22]) mixed tok noeqs (fun _ _ _ h => h) Try.call4 Try.func4 rfl Try.ntmps4 (by rw [Try.results4]) (by simp) ?_; have hG : (fun x => x = r) r := rfl; unfold law16_ViewSwaps at h; refine Zap 7 rfl ?_; refine Y1 rfl ?_; refine bindK h fun y1 hy1 h => ?_; refine W.call rfl (law16_small_fn hy1) ?_; refine Zwp 8 rfl ?_; refine Y1 rfl ?_; refine bindK h fun y5 hy5 h => ?_; refine W.call rfl (ref16_Few_fn hy5) ?_; refine Zwp 3 rfl ?_; refine YF rfl rfl rfl h (fun _ h => ?_) (fun _ h => ?_)
  · refine Zpb 20 rfl ?_; cases h; cases hG; exact ⟨rfl, trivial⟩
  · refine Zwp 4 rfl ?_; refine YF rfl rfl rfl h (fun _ h => ?_) (fun _ h => ?_)
    · refine Zpb 16 rfl ?_; cases h; cases hG; exact ⟨rfl, trivial⟩
    · refine Zwp 2 rfl ?_; refine Y2 rfl rfl rfl ?_; refine W.len rfl ?_; refine Zpc 5 rfl ?_; refine A.condB rfl h (fun _ h => ?_) (fun _ h => ?_)
      · refine Zcb 8 rfl ?_; cases h; cases hG; exact ⟨rfl, trivial⟩
      · refine Zcc 4 rfl ?_; refine A.regionD (by kernel_rfl) ?_; refine Zpp 2 rfl ?_; refine Y1 rfl ?_; refine bindK h fun x18 hx18 h => ?_; refine W.chk rfl (elemB hx18) ?_; refine W.elem rfl (elemG hx18) ?_; refine W.chk rfl rfl ?_; refine W.det (.fp [.v (.int .i64 x18.Author), .v (.int .i64 x18.Seq), .fz (List.map (encI .i64) x18.Causes), .v (.int .i64 x18.Kind), .v (.int .i64 x18.Group), .v (.int .i64 x18.Target), .v (.int .i64 x18.Quote), .v (.int .i64 x18.Who), .v (.int .i64 x18.N), .v (.string x18.Text), .fz (List.map (encI .i64) x18.Files), .v (.int .i64 x18.Step)]) _ rfl ?_; refine Zo (.fp [.v (.int .i64 x18.Author), .v (.int .i64 x18.Seq), .fz (List.map (encI .i64) x18.Causes), .v (.int .i64 x18.Kind), .v (.int .i64 x18.Group), .v (.int .i64 x18.Target), .v (.int .i64 x18.Quote), .v (.int .i64 x18.Who), .v (.int .i64 x18.N), .v (.string x18.Text), .fz (List.map (encI .i64) x18.Files), .v (.int .i64 x18.Step)]) rfl rfl ?_; refine Zpp 4 rfl ?_; refine Y1 rfl ?_; refine bindK h fun x19 hx19 h => ?_; refine W.chk rfl (elemB hx19) ?_; refine W.elem rfl (elemG hx19) ?_; refine W.chk rfl rfl ?_; refine W.det (.fp [.v (.int .i64 x19.Author), .v (.int .i64 x19.Seq), .fz (List.map (encI .i64) x19.Causes), .v (.int .i64 x19.Kind), .v (.int .i64 x19.Group), .v (.int .i64 x19.Target), .v (.int .i64 x19.Quote), .v (.int .i64 x19.Who), .v (.int .i64 x19.N), .v (.string x19.Text), .fz (List.map (encI .i64) x19.Files), .v (.int .i64 x19.Step)]) _ rfl ?_; refine Zo (.fp [.v (.int .i64 x19.Author), .v (.int .i64 x19.Seq), .fz (List.map (encI .i64) x19.Causes), .v (.int .i64 x19.Kind), .v (.int .i64 x19.Group), .v (.int .i64 x19.Target), .v (.int .i64 x19.Quote), .v (.int .i64 x19.Who), .v (.int .i64 x19.N), .v (.string x19.Text), .fz (List.map (encI .i64) x19.Files), .v (.int .i64 x19.Step)]) rfl rfl ?_; refine Zpp 3 rfl ?_; refine YF rfl rfl rfl h (fun _ h => ?_) (fun _ h => ?_)
        · refine Zpb 27 rfl ?_; cases h; cases hG; exact ⟨rfl, trivial⟩
        · refine Zwp 2 rfl ?_; refine Y2 rfl rfl rfl ?_; refine W.chk rfl (elemB hx18) ?_; refine W.elem rfl (elemG hx18) ?_; refine W.chk rfl rfl ?_; refine W.det (.fp [.v (.int .i64 x18.Author), .v (.int .i64 x18.Seq), .fz (List.map (encI .i64) x18.Causes), .v (.int .i64 x18.Kind), .v (.int .i64 x18.Group), .v (.int .i64 x18.Target), .v (.int .i64 x18.Quote), .v (.int .i64 x18.Who), .v (.int .i64 x18.N), .v (.string x18.Text), .fz (List.map (encI .i64) x18.Files), .v (.int .i64 x18.Step)]) _ rfl ?_; refine Zu (.agg (api_Event.av x18)) rfl rfl rfl rfl ?_; refine Zpp 2 rfl ?_; refine Y2 rfl rfl rfl ?_; refine bindK h fun y20 hy20 h => ?_; refine W.call rfl (law16_names_fn hy20) ?_; refine Zwp 3 rfl ?_; refine YF rfl rfl rfl h (fun _ h => ?_) (fun _ h => ?_)
          · refine Zpb 18 rfl ?_; cases h; cases hG; exact ⟨rfl, trivial⟩
          · refine Zwp 3 rfl ?_; refine Y2 rfl rfl rfl ?_; refine W.chk rfl (elemB hx19) ?_; refine W.elem rfl (elemG hx19) ?_; refine W.chk rfl rfl ?_; refine W.det (.fp [.v (.int .i64 x19.Author), .v (.int .i64 x19.Seq), .fz (List.map (encI .i64) x19.Causes), .v (.int .i64 x19.Kind), .v (.int .i64 x19.Group), .v (.int .i64 x19.Target), .v (.int .i64 x19.Quote), .v (.int .i64 x19.Who), .v (.int .i64 x19.N), .v (.string x19.Text), .fz (List.map (encI .i64) x19.Files), .v (.int .i64 x19.Step)]) _ rfl ?_; refine Zu (.agg (api_Event.av x19)) rfl rfl rfl rfl ?_; refine Zpp 1 rfl ?_; refine Y2 rfl rfl rfl ?_; refine bindK h fun y21 hy21 h => ?_; refine W.call rfl (law16_names_fn hy21) ?_; refine Zwc 4 rfl ?_; refine A.condB rfl h (fun _ h => ?_) (fun _ h => ?_)
            · refine Zcb 8 rfl ?_; cases h; cases hG; exact ⟨rfl, trivial⟩
            · refine Zcp 6 rfl ?_; refine Y1 rfl ?_; refine bindK h fun y22 hy22 h => ?_; refine W.call rfl (law16_exchanged_fn hy22) ?_; refine W.v (.row 61 1 (List.map api_Event.enc y22).length) (.row 61 1 y22.length) (Mem.add _ 61 (.rows 12 (List.map api_Event.enc y22) false)) rfl (by simp only [List.length_map]) ?_; refine Zo (.row 61 1 y22.length) rfl rfl ?_; refine Zpp 5 rfl ?_; refine Y1 rfl ?_; refine bindK h fun y23 hy23 h => ?_; refine W.call rfl (view_View_fn hy23) ?_; refine Zwp 6 rfl ?_; refine Zo (.row 61 1 y22.length) rfl rfl ?_; refine Y1 rfl ?_; refine bindK h fun y24 hy24 h => ?_; refine W.call rfl (view_View_fn hy24) ?_; refine W.det (VF (List.map api_Msg.enc y24)) (Mem.set _ 61 1 (some (.rows 12 (List.map api_Event.enc y22) true))) rfl ?_; refine Zpp 7 rfl ?_; refine Y1 rfl ?_; refine W.len rfl ?_; refine Zpp 1 rfl ?_; refine Y1 rfl ?_; refine W.len rfl ?_; refine Zpc 3 rfl ?_; refine A.condB rfl h (fun _ h => ?_) (fun _ h => ?_)
              · refine Zcb 7 rfl ?_; cases h; cases hG; exact ⟨rfl, trivial⟩
              · refine Zcc 2 rfl ?_; refine A.join (fun (s2 : Unit) => [(5, VB y1)]) (fun s2 => []) _ h hG rfl ?_ ?_
                · intro J f h hG; refine Zac 6 rfl ?_; refine A.loop (fun (s3 : Int) => [(0, VF (List.map api_Event.enc l_)), (1, VI at_), (5, VB y1), (6, .row 900000 1 y22.length), (7, VF (List.map api_Msg.enc y23)), (8, VF (List.map api_Msg.enc y24)), (9, VI s3)]) (fun s3 => [(900000, .rows 12 (List.map api_Event.enc y22) true)]) _ h hG (Zf [] [(900000, (61, 1))] rfl rfl (Ze rfl rfl (Ze rfl rfl (Ze rfl rfl (Ze rfl rfl (Ze rfl rfl (Ze rfl rfl (Ze rfl rfl trivial))))))) (Zc rfl rfl trivial)) ?_; intro J s3 f h hG; unfold law16_ViewSwaps_L1 at h; refine Zap 5 rfl ?_; refine Y1 rfl ?_; refine W.len rfl ?_; refine Zpc 3 rfl ?_; refine A.condB rfl h (fun _ h => ?_) (fun _ h => ?_)
                  · refine Zcp 9 rfl ?_; refine Y1 rfl ?_; refine bindK h fun x267 hx267 h => ?_; refine W.chk rfl (elemB hx267) ?_; refine W.elem rfl (elemG hx267) ?_; refine W.chk rfl rfl ?_; refine W.det (.fp [.v (.int .i64 x267.Id), .v (.int .i64 x267.Author), .v (.int .i64 x267.Group), .v (.int .i64 x267.Parent), .v (.int .i64 x267.Quote), .v (.int .i64 x267.Who), .v (.string x267.Text), .fz (List.map (encI .i64) x267.Files), .v (.int .i64 x267.Edits), .fz (List.map Arr2_Int.enc x267.Reacts), .v (.bool x267.Gone)]) _ rfl ?_; refine Zo (.fp [.v (.int .i64 x267.Id), .v (.int .i64 x267.Author), .v (.int .i64 x267.Group), .v (.int .i64 x267.Parent), .v (.int .i64 x267.Quote), .v (.int .i64 x267.Who), .v (.string x267.Text), .fz (List.map (encI .i64) x267.Files), .v (.int .i64 x267.Edits), .fz (List.map Arr2_Int.enc x267.Reacts), .v (.bool x267.Gone)]) rfl rfl ?_; refine Zpp 2 rfl ?_; refine Y1 rfl ?_; refine bindK h fun y268 hy268 h => ?_; refine W.call rfl (law16_other_fn hy268) ?_; refine Zwp 1 rfl ?_; refine Y1 rfl ?_; refine bindK h fun y269 hy269 h => ?_; refine W.call rfl (law16_find_fn hy269) ?_; refine W.det (.tup [.agg (api_Msg.av y269.1), VB y269.2]) _ rfl ?_; refine Zo (.tup [.agg (api_Msg.av y269.1), VB y269.2]) rfl rfl ?_; refine Zo (.agg (api_Msg.av y269.1)) rfl rfl ?_; refine Zpp 1 rfl ?_; refine Zm (.lp 10 2 0) (Mem.add (Mem.add (Mem.add _ 524298 (.rows 1 (List.map (encI .i64) ([] : List Int)) false)) 655370 (.rows 2 (List.map Arr2_Int.enc ([] : List Arr2_Int)) false)) 10 (.box [VI 0, VI 0, VI 0, VI 0, VI 0, VI 0, VS (ByteArray.mk #[]), .row 524298 2 0, VI 0, .row 655370 2 0, VB false])) rfl rfl ?_; refine Zm (.tup []) (Mem.set _ 10 2 (some (.box (api_Msg.av y269.1)))) rfl rfl ?_; refine Zpc 10 rfl ?_; refine A.condB rfl h (fun _ h => ?_) (fun _ h => ?_)
                    · refine Zcb 9 rfl ?_; refine headK.r ?_; refine Zob 1 rfl ?_; refine headK.r ?_; cases h; cases hG; exact ⟨rfl, trivial⟩
                    · refine Zcp 7 rfl ?_; refine Y1 rfl ?_; refine bindK h fun y270 hy270 h => ?_; refine W.call rfl (law16_other_fn hy270) ?_; refine Zwp 2 rfl ?_; refine Zm (.tup []) (Mem.set _ 10 2 (some (.box [VI y270, VI y269.1.Author, VI y269.1.Group, VI y269.1.Parent, VI y269.1.Quote, VI y269.1.Who, VS y269.1.Text, VF (List.map (encI .i64) y269.1.Files), VI y269.1.Edits, VF (List.map Arr2_Int.enc y269.1.Reacts), VB y269.1.Gone]))) rfl rfl ?_; refine Zpp 7 rfl ?_; refine Y1 rfl ?_; refine bindK h fun y271 hy271 h => ?_; refine W.call rfl (law16_other_fn hy271) ?_; refine Zwp 2 rfl ?_; refine Zm (.tup []) (Mem.set _ 10 2 (some (.box [VI y270, VI y269.1.Author, VI y269.1.Group, VI y271, VI y269.1.Quote, VI y269.1.Who, VS y269.1.Text, VF (List.map (encI .i64) y269.1.Files), VI y269.1.Edits, VF (List.map Arr2_Int.enc y269.1.Reacts), VB y269.1.Gone]))) rfl rfl ?_; refine Zpp 7 rfl ?_; refine Y1 rfl ?_; refine bindK h fun y272 hy272 h => ?_; refine W.call rfl (law16_other_fn hy272) ?_; refine Zwp 2 rfl ?_; refine Zm (.tup []) (Mem.set _ 10 2 (some (.box [VI y270, VI y269.1.Author, VI y269.1.Group, VI y271, VI y272, VI y269.1.Who, VS y269.1.Text, VF (List.map (encI .i64) y269.1.Files), VI y269.1.Edits, VF (List.map Arr2_Int.enc y269.1.Reacts), VB y269.1.Gone]))) rfl rfl ?_; refine Zpc 3 rfl ?_; refine A.regionD (by kernel_rfl) ?_; refine Zo (.agg [VI y270, VI y269.1.Author, VI y269.1.Group, VI y271, VI y272, VI y269.1.Who, VS y269.1.Text, VF (List.map (encI .i64) y269.1.Files), VI y269.1.Edits, VF (List.map Arr2_Int.enc y269.1.Reacts), VB y269.1.Gone]) rfl rfl ?_; refine Zpp 2 rfl ?_; refine Y1 rfl ?_; refine W.chk rfl (elemB hx267) ?_; refine W.elem rfl (elemG hx267) ?_; refine W.chk rfl rfl ?_; refine W.det (.fp [.v (.int .i64 x267.Id), .v (.int .i64 x267.Author), .v (.int .i64 x267.Group), .v (.int .i64 x267.Parent), .v (.int .i64 x267.Quote), .v (.int .i64 x267.Who), .v (.string x267.Text), .fz (List.map (encI .i64) x267.Files), .v (.int .i64 x267.Edits), .fz (List.map Arr2_Int.enc x267.Reacts), .v (.bool x267.Gone)]) _ rfl ?_; refine Zo (.agg (api_Msg.av x267)) rfl rfl ?_; refine Y1 rfl ?_; refine bindK h fun y281 hy281 h => ?_; refine W.call rfl (ref16_Same_fn hy281) ?_; refine Zwp 3 rfl ?_; refine YF rfl rfl rfl h (fun _ h => ?_) (fun _ h => ?_)
                      · refine Zpb 51 rfl ?_; refine headK.r ?_; refine Zob 1 rfl ?_; refine headK.r ?_; cases h; cases hG; exact ⟨rfl, trivial⟩
                      · refine W.det (.row 900000 1 y22.length) _ rfl ?_; refine Zpp 2 rfl ?_; refine Y2 rfl rfl rfl ?_; refine W.chk rfl (elemB hx267) ?_; refine W.elem rfl (elemG hx267) ?_; refine W.chk rfl rfl ?_; refine W.det (.fp [.v (.int .i64 x267.Id), .v (.int .i64 x267.Author), .v (.int .i64 x267.Group), .v (.int .i64 x267.Parent), .v (.int .i64 x267.Quote), .v (.int .i64 x267.Who), .v (.string x267.Text), .fz (List.map (encI .i64) x267.Files), .v (.int .i64 x267.Edits), .fz (List.map Arr2_Int.enc x267.Reacts), .v (.bool x267.Gone)]) _ rfl ?_; refine Zu (.fp [.v (.int .i64 x267.Id), .v (.int .i64 x267.Author), .v (.int .i64 x267.Group), .v (.int .i64 x267.Parent), .v (.int .i64 x267.Quote), .v (.int .i64 x267.Who), .v (.string x267.Text), .fz (List.map (encI .i64) x267.Files), .v (.int .i64 x267.Edits), .fz (List.map Arr2_Int.enc x267.Reacts), .v (.bool x267.Gone)]) rfl rfl rfl rfl ?_; refine Zpp 2 rfl ?_; refine Y2 rfl rfl rfl ?_; refine bindK h fun y282 hy282 h => ?_; refine W.call rfl (law16_other_fn hy282) ?_; refine Zwp 1 rfl ?_; refine Y2 rfl rfl rfl ?_; refine bindK h fun y283 hy283 h => ?_; refine W.call rfl (view_Root_fn hy283) ?_; refine Zwp 2 rfl ?_; refine Y2 rfl rfl rfl ?_; refine bindK h fun y284 hy284 h => ?_; refine W.call rfl (law16_other_fn hy284) ?_; refine Zwp 4 rfl ?_; refine Y2 rfl rfl rfl ?_; refine W.chk rfl (elemB hx267) ?_; refine W.elem rfl (elemG hx267) ?_; refine W.chk rfl rfl ?_; refine W.det (.fp [.v (.int .i64 x267.Id), .v (.int .i64 x267.Author), .v (.int .i64 x267.Group), .v (.int .i64 x267.Parent), .v (.int .i64 x267.Quote), .v (.int .i64 x267.Who), .v (.string x267.Text), .fz (List.map (encI .i64) x267.Files), .v (.int .i64 x267.Edits), .fz (List.map Arr2_Int.enc x267.Reacts), .v (.bool x267.Gone)]) _ rfl ?_; refine Zu (.fp [.v (.int .i64 x267.Id), .v (.int .i64 x267.Author), .v (.int .i64 x267.Group), .v (.int .i64 x267.Parent), .v (.int .i64 x267.Quote), .v (.int .i64 x267.Who), .v (.string x267.Text), .fz (List.map (encI .i64) x267.Files), .v (.int .i64 x267.Edits), .fz (List.map Arr2_Int.enc x267.Reacts), .v (.bool x267.Gone)]) rfl rfl rfl rfl ?_; refine Zpp 1 rfl ?_; refine Y2 rfl rfl rfl ?_; refine bindK h fun y285 hy285 h => ?_; refine W.call rfl (view_Root_fn hy285) ?_; refine Zwp 4 rfl ?_; refine YF rfl rfl rfl h (fun _ h => ?_) (fun _ h => ?_)
                        · refine Zpb 30 rfl ?_; refine headK.r ?_; refine Zob 1 rfl ?_; refine headK.r ?_; cases h; cases hG; exact ⟨rfl, trivial⟩
                        · refine W.det (.row 900000 1 y22.length) _ rfl ?_; refine Zpp 2 rfl ?_; refine Y2 rfl rfl rfl ?_; refine W.chk rfl (elemB hx267) ?_; refine W.elem rfl (elemG hx267) ?_; refine W.chk rfl rfl ?_; refine W.det (.fp [.v (.int .i64 x267.Id), .v (.int .i64 x267.Author), .v (.int .i64 x267.Group), .v (.int .i64 x267.Parent), .v (.int .i64 x267.Quote), .v (.int .i64 x267.Who), .v (.string x267.Text), .fz (List.map (encI .i64) x267.Files), .v (.int .i64 x267.Edits), .fz (List.map Arr2_Int.enc x267.Reacts), .v (.bool x267.Gone)]) _ rfl ?_; refine Zu (.fp [.v (.int .i64 x267.Id), .v (.int .i64 x267.Author), .v (.int .i64 x267.Group), .v (.int .i64 x267.Parent), .v (.int .i64 x267.Quote), .v (.int .i64 x267.Who), .v (.string x267.Text), .fz (List.map (encI .i64) x267.Files), .v (.int .i64 x267.Edits), .fz (List.map Arr2_Int.enc x267.Reacts), .v (.bool x267.Gone)]) rfl rfl rfl rfl ?_; refine Zpp 2 rfl ?_; refine Y2 rfl rfl rfl ?_; refine bindK h fun y286 hy286 h => ?_; refine W.call rfl (law16_other_fn hy286) ?_; refine Zwp 1 rfl ?_; refine Y2 rfl rfl rfl ?_; refine bindK h fun y287 hy287 h => ?_; refine W.call rfl (view_Answers_fn hy287) ?_; refine W.v (.row 143 2 (List.map (encI .i64) y287).length) (.row 143 2 y287.length) (Mem.add (Mem.set _ 900000 1 (some (.rows 12 (List.map api_Event.enc y22) true))) 143 (.rows 1 (List.map (encI .i64) y287) false)) rfl (by simp only [List.length_map]) ?_; refine Zpp 4 rfl ?_; refine Y2 rfl rfl rfl ?_; refine W.chk rfl (elemB hx267) ?_; refine W.elem rfl (elemG hx267) ?_; refine W.chk rfl rfl ?_; refine W.det (.fp [.v (.int .i64 x267.Id), .v (.int .i64 x267.Author), .v (.int .i64 x267.Group), .v (.int .i64 x267.Parent), .v (.int .i64 x267.Quote), .v (.int .i64 x267.Who), .v (.string x267.Text), .fz (List.map (encI .i64) x267.Files), .v (.int .i64 x267.Edits), .fz (List.map Arr2_Int.enc x267.Reacts), .v (.bool x267.Gone)]) _ rfl ?_; refine Zu (.fp [.v (.int .i64 x267.Id), .v (.int .i64 x267.Author), .v (.int .i64 x267.Group), .v (.int .i64 x267.Parent), .v (.int .i64 x267.Quote), .v (.int .i64 x267.Who), .v (.string x267.Text), .fz (List.map (encI .i64) x267.Files), .v (.int .i64 x267.Edits), .fz (List.map Arr2_Int.enc x267.Reacts), .v (.bool x267.Gone)]) rfl rfl rfl rfl ?_; refine Zpp 1 rfl ?_; refine Y2 rfl rfl rfl ?_; refine bindK h fun y288 hy288 h => ?_; refine W.call rfl (view_Answers_fn hy288) ?_; refine W.v (.row 151 2 (List.map (encI .i64) y288).length) (.row 151 2 y288.length) (Mem.add _ 151 (.rows 1 (List.map (encI .i64) y288) false)) rfl (by simp only [List.length_map]) ?_; refine Zpc 5 rfl ?_; refine A.condB rfl h (fun _ h => ?_) (fun _ h => ?_)
                          · refine Zcb 8 rfl ?_; refine headK.r ?_; refine Zob 1 rfl ?_; refine headK.r ?_; cases h; cases hG; exact ⟨rfl, trivial⟩
                          · refine Zcb 8 rfl ?_; cases h; exact Zh hG [] [(900000, (900000, 1))] rfl rfl (Ze rfl rfl (Ze rfl rfl (Ze rfl rfl (Ze rfl rfl (Ze rfl rfl (Ze rfl rfl (Ze rfl rfl trivial))))))) (Zc rfl rfl trivial)
                  · refine Zcb 2 rfl ?_; refine headK.e ?_; refine Zob 1 rfl ?_; cases h; exact Zh hG [] [] rfl rfl (Ze rfl rfl trivial) trivial
                · intro s2 r2 h hG; refine Zcb 7 rfl ?_; cases h; cases hG; exact ⟨rfl, trivial⟩
end Go.Proofs.Ytpikahfgidgdbaa

/-
  Plain programs of functions, and that the functions do what they say. Printed by wip/tools/gen.py.
-/
import Derived.Test.YtpikahfgidgdbaaG2
namespace Go.Proofs.Ytpikahfgidgdbaa
open Go.RowKit
attribute [local irreducible] IntKind.wrap AW runL Step.wp
set_option linter.unusedVariables false
set_option maxHeartbeats 4000000
set_option maxRecDepth 100000
noncomputable def law16_ViewThreads_L1 (y718 : (List Int)) (y4 : (List api_Msg)) (x709 : api_Msg) (s18 : (Int × Int × Int)) (s32 : (Int)) (s33 : Int) : Option ((Int) ⊕ ((Int × Int) ⊕ ((Int × Int × Int) ⊕ ((Int × Int) ⊕ (Bool))))) :=
  (bif (decide (s33 < ((y718.length : Nat) : Int))) then
    (chkO (decide (0 ≤ s33) && decide (s33 < ((y718.length : Nat) : Int)))).bind fun _ =>
    (getI y718 s33).bind fun x765 =>
    (law16_find y4 x765).bind fun y766 =>
    (bif (!y766.2) then
      some (.inr (.inr (.inr (.inr false))))
    else
      (bif (y766.1.Parent != x709.Id) then
        some (.inr (.inr (.inr (.inr false))))
      else
        (bif (decide ((0 : Int) < s33)) then
          (chkO (decide (0 ≤ (IntKind.i64.wrap (s33 - (1 : Int)))) && decide ((IntKind.i64.wrap (s33 - (1 : Int))) < ((y718.length : Nat) : Int)))).bind fun _ =>
          (getI y718 (IntKind.i64.wrap (s33 - (1 : Int)))).bind fun x771 =>
          (bif (decide (x765 ≤ x771)) then
            some (.inr (.inr (.inr (.inr false))))
          else
            some (.inl (IntKind.i64.wrap (s33 + (1 : Int)))))
        else
          some (.inl (IntKind.i64.wrap (s33 + (1 : Int)))))))
  else
    some (.inr (.inl ((IntKind.i64.wrap (s18.1 + ((y718.length : Nat) : Int))), s32))))
noncomputable def law16_ViewThreads_L2 (y4 : (List api_Msg)) (l_ : (List api_Event)) (s18 : Int × Int × Int) : Option ((Int × Int × Int) ⊕ ((Int × Int) ⊕ (Bool))) :=
  (bif (decide (s18.2.2 < (y4.length : Int))) then
    (seqF (A := Int × Int) (
      (getI y4 s18.2.2).bind fun x709 =>
      (view_Root l_ x709.Id).bind fun y710 =>
      (law16_find y4 y710).bind fun y711 =>
      (bif (!y711.2) then
        some (.inr (.inr (.inr false)))
      else
        (bif (decide (x709.Id < y710)) then
          some (.inr (.inr (.inr false)))
        else
          (bif (y711.1.Parent != (-1 : Int)) then
            some (.inr (.inr (.inr false)))
          else
            (seqF (A := Int) (
              (bif (decide ((0 : Int) ≤ x709.Parent)) then
                (law16_find y4 x709.Parent).bind fun y715 =>
                (bif (!y715.2) then
                  some (.inr (.inr (.inr (.inr false))))
                else
                  (bif (decide (x709.Id ≤ y715.1.Id)) then
                    some (.inr (.inr (.inr (.inr false))))
                  else
                    (view_Root l_ y715.1.Id).bind fun y717 =>
                    (bif (y717 != y710) then
                      some (.inr (.inr (.inr (.inr false))))
                    else
                      some (.inl (IntKind.i64.wrap (s18.2.1 + (1 : Int)))))))
              else
                some (.inl s18.2.1)))
            fun s32 =>
              (view_Answers l_ x709.Id).bind fun y718 =>
              loopF (law16_ViewThreads_L1 y718 y4 x709 s18 s32) (0 : Int))))))
    fun s31 =>
      some (.inl (s31.1, s31.2, (IntKind.i64.wrap (s18.2.2 + (1 : Int))))))
  else
    some (.inr (.inl (s18.1, s18.2.1))))
noncomputable def law16_ViewThreads (l_ : (List api_Event)) : Option (Bool) :=
  (law16_small).bind fun y1 =>
  (ref16_Few l_ (30 : Int)).bind fun y3 =>
  (bif (!y3) then
    some y1
  else
    (view_View l_).bind fun y4 =>
    (seqF (A := Int × Int) (
      loopF (law16_ViewThreads_L2 y4 l_) ((0 : Int), (0 : Int), (0 : Int)))
    fun s17 =>
      (bif y1 then
        (bif (s17.1 == s17.2) then
          (view_Root l_ (-1 : Int)).bind fun y773 =>
          (bif (y773 == (-1 : Int)) then
            (view_Root l_ (l_.length : Int)).bind fun y774 =>
            (bif (y774 == (-1 : Int)) then
              (view_Answers l_ (l_.length : Int)).bind fun y775 =>
              some (((y775.length : Nat) : Int) == (0 : Int))
            else
              some false)
          else
            some false)
        else
          some false)
      else
        some false)))
theorem law16_ViewThreads_fn {l_ : (List api_Event)} {r : Bool} (h : law16_ViewThreads l_ = some r) : Fn False Try.prog 7 [VF (List.map api_Event.enc l_)] (VB r) := by
  refine Fn.of_AW (dr := False) (F := FnX False Try.prog) (base := 0) (js := [9, 20, 28]) mixed tok noeqs (fun _ _ _ h => h) Try.call7 Try.func7 rfl Try.ntmps7 (by rw [Try.results7]) (by simp) ?_; have hG : (fun x => x = r) r := rfl; unfold law16_ViewThreads at h; refine Zap 7 rfl ?_; refine Y1 rfl ?_; refine bindK h fun y1 hy1 h => ?_; refine W.call rfl (law16_small_fn hy1) ?_; refine Zwp 8 rfl ?_; refine Y1 rfl ?_; refine bindK h fun y3 hy3 h => ?_; refine W.call rfl (ref16_Few_fn hy3) ?_; refine Zwc 4 rfl ?_; refine A.condB rfl h (fun _ h => ?_) (fun _ h => ?_)
  · refine Zcb 8 rfl ?_; cases h; cases hG; exact ⟨rfl, trivial⟩
  · refine Zcp 5 rfl ?_; refine Y1 rfl ?_; refine bindK h fun y4 hy4 h => ?_; refine W.call rfl (view_View_fn hy4) ?_; refine Zwc 14 rfl ?_; refine A.join (fun (s17 : Int × Int) => [(0, VF (List.map api_Event.enc l_)), (3, VB y1), (5, VI s17.1), (6, VI s17.2)]) (fun s17 => []) _ h hG rfl ?_ ?_
    · intro J f h hG; refine Zac 6 rfl ?_; refine A.loop (fun (s18 : Int × Int × Int) => [(0, VF (List.map api_Event.enc l_)), (3, VB y1), (4, VF (List.map api_Msg.enc y4)), (5, VI s18.1), (6, VI s18.2.1), (7, VI s18.2.2)]) (fun s18 => []) _ h hG (Zf [] [] rfl rfl (Ze rfl rfl (Ze rfl rfl (Ze rfl rfl (Ze rfl rfl (Ze rfl rfl (Ze rfl rfl trivial)))))) trivial) ?_; intro J s18 f h hG; unfold law16_ViewThreads_L2 at h; refine Zap 5 rfl ?_; refine Y1 rfl ?_; refine W.len rfl ?_; refine Zpc 3 rfl ?_; refine A.condB rfl h (fun _ h => ?_) (fun _ h => ?_)
      · refine Zcc 2 rfl ?_; refine A.join (fun (s31 : Int × Int) => [(0, VF (List.map api_Event.enc l_)), (3, VB y1), (4, VF (List.map api_Msg.enc y4)), (5, VI s31.1), (6, VI s31.2), (7, VI s18.2.2)]) (fun s31 => []) _ h hG rfl ?_ ?_
        · intro J f h hG; refine Zap 5 rfl ?_; refine Y1 rfl ?_; refine bindK h fun x709 hx709 h => ?_; refine W.chk rfl (elemB hx709) ?_; refine W.elem rfl (elemG hx709) ?_; refine W.chk rfl rfl ?_; refine W.det (.fp [.v (.int .i64 x709.Id), .v (.int .i64 x709.Author), .v (.int .i64 x709.Group), .v (.int .i64 x709.Parent), .v (.int .i64 x709.Quote), .v (.int .i64 x709.Who), .v (.string x709.Text), .fz (List.map (encI .i64) x709.Files), .v (.int .i64 x709.Edits), .fz (List.map Arr2_Int.enc x709.Reacts), .v (.bool x709.Gone)]) _ rfl ?_; refine Zo (.fp [.v (.int .i64 x709.Id), .v (.int .i64 x709.Author), .v (.int .i64 x709.Group), .v (.int .i64 x709.Parent), .v (.int .i64 x709.Quote), .v (.int .i64 x709.Who), .v (.string x709.Text), .fz (List.map (encI .i64) x709.Files), .v (.int .i64 x709.Edits), .fz (List.map Arr2_Int.enc x709.Reacts), .v (.bool x709.Gone)]) rfl rfl ?_; refine Zpp 8 rfl ?_; refine Y1 rfl ?_; refine bindK h fun y710 hy710 h => ?_; refine W.call rfl (view_Root_fn hy710) ?_; refine Zwp 8 rfl ?_; refine Y1 rfl ?_; refine bindK h fun y711 hy711 h => ?_; refine W.call rfl (law16_find_fn hy711) ?_; refine W.det (.tup [.agg (api_Msg.av y711.1), VB y711.2]) _ rfl ?_; refine Zo (.tup [.agg (api_Msg.av y711.1), VB y711.2]) rfl rfl ?_; refine Zo (.agg (api_Msg.av y711.1)) rfl rfl ?_; refine Zpp 1 rfl ?_; refine Zm (.lp 10 2 0) (Mem.add (Mem.add (Mem.add _ 524298 (.rows 1 (List.map (encI .i64) ([] : List Int)) false)) 655370 (.rows 2 (List.map Arr2_Int.enc ([] : List Arr2_Int)) false)) 10 (.box [VI 0, VI 0, VI 0, VI 0, VI 0, VI 0, VS (ByteArray.mk #[]), .row 524298 2 0, VI 0, .row 655370 2 0, VB false])) rfl rfl ?_; refine Zm (.tup []) (Mem.set _ 10 2 (some (.box (api_Msg.av y711.1)))) rfl rfl ?_; refine Zpp 9 rfl ?_; refine YF rfl rfl rfl h (fun _ h => ?_) (fun _ h => ?_)
          · refine Zpb 19 rfl ?_; refine headK.r ?_; refine headK.r ?_; refine Zob 1 rfl ?_; refine headK.r ?_; cases h; cases hG; exact ⟨rfl, trivial⟩
          · refine Zwp 5 rfl ?_; refine YF rfl rfl rfl h (fun _ h => ?_) (fun _ h => ?_)
            · refine Zpb 14 rfl ?_; refine headK.r ?_; refine headK.r ?_; refine Zob 1 rfl ?_; refine headK.r ?_; cases h; cases hG; exact ⟨rfl, trivial⟩
            · refine Zwc 6 rfl ?_; refine A.condB rfl h (fun _ h => ?_) (fun _ h => ?_)
              · refine Zcb 8 rfl ?_; refine headK.r ?_; refine headK.r ?_; refine Zob 1 rfl ?_; refine headK.r ?_; cases h; cases hG; exact ⟨rfl, trivial⟩
              · refine Zcc 2 rfl ?_; refine A.join (fun (s32 : Int) => [(0, VF (List.map api_Event.enc l_)), (3, VB y1), (4, VF (List.map api_Msg.enc y4)), (5, VI s18.1), (6, VI s32), (7, VI s18.2.2), (8, VI x709.Id)]) (fun s32 => []) _ h hG rfl ?_ ?_
                · intro J f h hG; refine Zap 4 rfl ?_; refine Y1 rfl ?_; refine W.chk rfl (elemB hx709) ?_; refine W.elem rfl (elemG hx709) ?_; refine W.chk rfl rfl ?_; refine W.det (.fp [.v (.int .i64 x709.Id), .v (.int .i64 x709.Author), .v (.int .i64 x709.Group), .v (.int .i64 x709.Parent), .v (.int .i64 x709.Quote), .v (.int .i64 x709.Who), .v (.string x709.Text), .fz (List.map (encI .i64) x709.Files), .v (.int .i64 x709.Edits), .fz (List.map Arr2_Int.enc x709.Reacts), .v (.bool x709.Gone)]) _ rfl ?_; refine Zo (.fp [.v (.int .i64 x709.Parent), .v (.int .i64 x709.Quote), .v (.int .i64 x709.Who), .v (.string x709.Text), .fz (List.map (encI .i64) x709.Files), .v (.int .i64 x709.Edits), .fz (List.map Arr2_Int.enc x709.Reacts), .v (.bool x709.Gone)]) rfl rfl ?_; refine Zpc 4 rfl ?_; refine A.condB rfl h (fun _ h => ?_) (fun _ h => ?_)
                  · refine Zcp 12 rfl ?_; refine Y1 rfl ?_; refine W.chk rfl (elemB hx709) ?_; refine W.elem rfl (elemG hx709) ?_; refine W.chk rfl rfl ?_; refine W.det (.fp [.v (.int .i64 x709.Id), .v (.int .i64 x709.Author), .v (.int .i64 x709.Group), .v (.int .i64 x709.Parent), .v (.int .i64 x709.Quote), .v (.int .i64 x709.Who), .v (.string x709.Text), .fz (List.map (encI .i64) x709.Files), .v (.int .i64 x709.Edits), .fz (List.map Arr2_Int.enc x709.Reacts), .v (.bool x709.Gone)]) _ rfl ?_; refine Zo (.fp [.v (.int .i64 x709.Parent), .v (.int .i64 x709.Quote), .v (.int .i64 x709.Who), .v (.string x709.Text), .fz (List.map (encI .i64) x709.Files), .v (.int .i64 x709.Edits), .fz (List.map Arr2_Int.enc x709.Reacts), .v (.bool x709.Gone)]) rfl rfl ?_; refine Zpp 1 rfl ?_; refine Y1 rfl ?_; refine bindK h fun y715 hy715 h => ?_; refine W.call rfl (law16_find_fn hy715) ?_; refine W.det (.tup [.agg (api_Msg.av y715.1), VB y715.2]) _ rfl ?_; refine Zo (.tup [.agg (api_Msg.av y715.1), VB y715.2]) rfl rfl ?_; refine Zo (.agg (api_Msg.av y715.1)) rfl rfl ?_; refine Zpp 1 rfl ?_; refine Zm (.lp 12 2 0) (Mem.add (Mem.add (Mem.add _ 524300 (.rows 1 (List.map (encI .i64) ([] : List Int)) false)) 655372 (.rows 2 (List.map Arr2_Int.enc ([] : List Arr2_Int)) false)) 12 (.box [VI 0, VI 0, VI 0, VI 0, VI 0, VI 0, VS (ByteArray.mk #[]), .row 524300 2 0, VI 0, .row 655372 2 0, VB false])) rfl rfl ?_; refine Zm (.tup []) (Mem.set _ 12 2 (some (.box (api_Msg.av y715.1)))) rfl rfl ?_; refine Zpp 8 rfl ?_; refine YF rfl rfl rfl h (fun _ h => ?_) (fun _ h => ?_)
                    · refine Zpb 21 rfl ?_; refine headK.r ?_; refine Zob 1 rfl ?_; refine headK.r ?_; refine headK.r ?_; refine Zob 1 rfl ?_; refine headK.r ?_; cases h; cases hG; exact ⟨rfl, trivial⟩
                    · refine Zwp 6 rfl ?_; refine YF rfl rfl rfl h (fun _ h => ?_) (fun _ h => ?_)
                      · refine Zpb 15 rfl ?_; refine headK.r ?_; refine Zob 1 rfl ?_; refine headK.r ?_; refine headK.r ?_; refine Zob 1 rfl ?_; refine headK.r ?_; cases h; cases hG; exact ⟨rfl, trivial⟩
                      · refine Zwp 3 rfl ?_; refine Y2 rfl rfl rfl ?_; refine bindK h fun y717 hy717 h => ?_; refine W.call rfl (view_Root_fn hy717) ?_; refine Zwc 6 rfl ?_; refine A.condB rfl h (fun _ h => ?_) (fun _ h => ?_)
                        · refine Zcb 6 rfl ?_; refine headK.r ?_; refine Zob 1 rfl ?_; refine headK.r ?_; refine headK.r ?_; refine Zob 1 rfl ?_; refine headK.r ?_; cases h; cases hG; exact ⟨rfl, trivial⟩
                        · refine Zcb 1 rfl ?_; cases h; exact Zh hG [] [] rfl rfl (Ze rfl rfl (Ze rfl rfl (Ze rfl rfl (Ze rfl rfl (Ze rfl rfl (Ze rfl rfl (Ze rfl rfl trivial))))))) trivial
                  · refine Zcb 1 rfl ?_; cases h; exact Zh hG [] [] rfl rfl (Ze rfl rfl (Ze rfl rfl (Ze rfl rfl (Ze rfl rfl (Ze rfl rfl (Ze rfl rfl (Ze rfl rfl trivial))))))) trivial
                · intro s32 r2 h hG; refine Zcp 4 rfl ?_; refine Y1 rfl ?_; refine bindK h fun y718 hy718 h => ?_; refine W.call rfl (view_Answers_fn hy718) ?_; refine W.v (.row 93 2 (List.map (encI .i64) y718).length) (.row 93 2 y718.length) (Mem.add _ 93 (.rows 1 (List.map (encI .i64) y718) false)) rfl (by simp only [List.length_map]) ?_; refine Zo (.row 93 2 y718.length) rfl rfl ?_; refine Zpp 5 rfl ?_; refine Zo (.row 93 2 y718.length) rfl rfl ?_; refine Zpc 11 rfl ?_; refine A.loop (fun (s33 : Int) => [(0, VF (List.map api_Event.enc l_)), (3, VB y1), (4, VF (List.map api_Msg.enc y4)), (5, VI (IntKind.i64.wrap (s18.1 + ((y718.length : Nat) : Int)))), (6, VI s32), (7, VI s18.2.2), (8, VI x709.Id), (14, .row 900000 1 y718.length), (15, VI s33)]) (fun s33 => [(900000, .rows 1 (List.map (encI .i64) y718) false)]) _ h hG (Zf [] [(900000, (93, 2))] rfl rfl (Ze rfl rfl (Ze rfl rfl (Ze rfl rfl (Ze rfl rfl (Ze rfl rfl (Ze rfl rfl (Ze rfl rfl (Ze rfl rfl (Ze rfl rfl trivial))))))))) (Zc rfl rfl trivial)) ?_; intro J s33 f h hG; unfold law16_ViewThreads_L1 at h; refine Zap 4 rfl ?_; refine Zo (.row 900000 1 y718.length) rfl rfl ?_; refine Zpc 4 rfl ?_; refine A.condB rfl h (fun _ h => ?_) (fun _ h => ?_)
                  · refine Zcp 7 rfl ?_; refine Zo (.row 900000 1 y718.length) rfl rfl ?_; refine Zpp 1 rfl ?_; refine Y1 rfl ?_; refine chkK h fun g764 h => ?_; refine W.chk rfl (by simpa using g764) ?_; refine W.det (.rp 900000 1 s33.toNat 0) _ rfl ?_; refine Y1 rfl ?_; refine bindK h fun x765 hx765 h => ?_; refine W.elem rfl (elemG hx765) ?_; refine Zwp 1 rfl ?_; refine Y1 rfl ?_; refine bindK h fun y766 hy766 h => ?_; refine W.call rfl (law16_find_fn hy766) ?_; refine W.det (.tup [.agg (api_Msg.av y766.1), VB y766.2]) _ rfl ?_; refine Zo (.tup [.agg (api_Msg.av y766.1), VB y766.2]) rfl rfl ?_; refine Zo (.agg (api_Msg.av y766.1)) rfl rfl ?_; refine Zpp 1 rfl ?_; refine Zm (.lp 16 2 0) (Mem.add (Mem.add (Mem.add _ 524304 (.rows 1 (List.map (encI .i64) ([] : List Int)) false)) 655376 (.rows 2 (List.map Arr2_Int.enc ([] : List Arr2_Int)) false)) 16 (.box [VI 0, VI 0, VI 0, VI 0, VI 0, VI 0, VS (ByteArray.mk #[]), .row 524304 2 0, VI 0, .row 655376 2 0, VB false])) rfl rfl ?_; refine Zm (.tup []) (Mem.set _ 16 2 (some (.box (api_Msg.av y766.1)))) rfl rfl ?_; refine Zpc 4 rfl ?_; refine A.regionD (by kernel_rfl) ?_; refine Zpp 3 rfl ?_; refine YF rfl rfl rfl h (fun _ h => ?_) (fun _ h => ?_)
                    · refine Zpb 31 rfl ?_; refine headK.r ?_; refine Zob 2 rfl ?_; refine headK.r ?_; refine headK.r ?_; refine Zob 1 rfl ?_; refine headK.r ?_; cases h; cases hG; exact ⟨rfl, trivial⟩
                    · refine Zwp 6 rfl ?_; refine YF rfl rfl rfl h (fun _ h => ?_) (fun _ h => ?_)
                      · refine Zpb 25 rfl ?_; refine headK.r ?_; refine Zob 2 rfl ?_; refine headK.r ?_; refine headK.r ?_; refine Zob 1 rfl ?_; refine headK.r ?_; cases h; cases hG; exact ⟨rfl, trivial⟩
                      · refine Zwp 3 rfl ?_; refine YT rfl rfl rfl h (fun _ h => ?_) (fun _ h => ?_)
                        · refine W.det (.row 900000 1 y718.length) _ rfl ?_; refine Zpp 2 rfl ?_; refine Y2 rfl rfl rfl ?_; refine chkK h fun g770 h => ?_; refine W.chk rfl (by simpa using g770) ?_; refine W.det (.rp 900000 1 (IntKind.i64.wrap (s33 - (1 : Int))).toNat 0) _ rfl ?_; refine Y2 rfl rfl rfl ?_; refine bindK h fun x771 hx771 h => ?_; refine W.elem rfl (elemG hx771) ?_; refine Zwp 1 rfl ?_; refine Zu (.row 900000 1 y718.length) rfl rfl rfl rfl ?_; refine Zpp 1 rfl ?_; refine Y2 rfl rfl rfl ?_; refine W.chk rfl (by simpa using g764) ?_; refine W.det (.rp 900000 1 s33.toNat 0) _ rfl ?_; refine Y2 rfl rfl rfl ?_; refine W.elem rfl (elemG hx765) ?_; refine Zwc 6 rfl ?_; refine A.condB rfl h (fun _ h => ?_) (fun _ h => ?_)
                          · refine Zcb 8 rfl ?_; refine headK.r ?_; refine Zob 2 rfl ?_; refine headK.r ?_; refine headK.r ?_; refine Zob 1 rfl ?_; refine headK.r ?_; cases h; cases hG; exact ⟨rfl, trivial⟩
                          · refine Zcb 8 rfl ?_; cases h; exact Zh hG [] [(900000, (900000, 1))] rfl rfl (Ze rfl rfl (Ze rfl rfl (Ze rfl rfl (Ze rfl rfl (Ze rfl rfl (Ze rfl rfl (Ze rfl rfl (Ze rfl rfl (Ze rfl rfl trivial))))))))) (Zc rfl rfl trivial)
                        · refine Zpb 22 rfl ?_; cases h; exact Zh hG [] [(900000, (900000, 1))] rfl rfl (Ze rfl rfl (Ze rfl rfl (Ze rfl rfl (Ze rfl rfl (Ze rfl rfl (Ze rfl rfl (Ze rfl rfl (Ze rfl rfl (Ze rfl rfl trivial))))))))) (Zc rfl rfl trivial)
                  · refine Zcb 2 rfl ?_; refine headK.e ?_; refine Zob 2 rfl ?_; cases h; exact Zh hG [] [] rfl rfl (Ze rfl rfl (Ze rfl rfl (Ze rfl rfl (Ze rfl rfl (Ze rfl rfl (Ze rfl rfl trivial)))))) trivial
        · intro s31 r2 h hG; refine Zcb 5 rfl ?_; cases h; exact Zh hG [] [] rfl rfl (Ze rfl rfl (Ze rfl rfl (Ze rfl rfl (Ze rfl rfl (Ze rfl rfl (Ze rfl rfl trivial)))))) trivial
      · refine Zcb 2 rfl ?_; refine headK.e ?_; refine Zob 1 rfl ?_; cases h; exact Zh hG [] [] rfl rfl (Ze rfl rfl (Ze rfl rfl (Ze rfl rfl (Ze rfl rfl trivial)))) trivial
    · intro s17 r2 h hG; refine Zcp 4 rfl ?_; refine YT rfl rfl rfl h (fun _ h => ?_) (fun _ h => ?_)
      · refine Zwp 5 rfl ?_; refine YT rfl rfl rfl h (fun _ h => ?_) (fun _ h => ?_)
        · refine Zwp 1 rfl ?_; refine Y2 rfl rfl rfl ?_; refine bindK h fun y773 hy773 h => ?_; refine W.call rfl (view_Root_fn hy773) ?_; refine Zwp 4 rfl ?_; refine YT rfl rfl rfl h (fun _ h => ?_) (fun _ h => ?_)
          · refine Zwp 2 rfl ?_; refine Y2 rfl rfl rfl ?_; refine W.len rfl ?_; refine Y2 rfl rfl rfl ?_; refine bindK h fun y774 hy774 h => ?_; refine W.call rfl (view_Root_fn hy774) ?_; refine Zwp 4 rfl ?_; refine YT rfl rfl rfl h (fun _ h => ?_) (fun _ h => ?_)
            · refine Zwp 2 rfl ?_; refine Y2 rfl rfl rfl ?_; refine W.len rfl ?_; refine Y2 rfl rfl rfl ?_; refine bindK h fun y775 hy775 h => ?_; refine W.call rfl (view_Answers_fn hy775) ?_; refine W.v (.row 159 2 (List.map (encI .i64) y775).length) (.row 159 2 y775.length) (Mem.add _ 159 (.rows 1 (List.map (encI .i64) y775) false)) rfl (by simp only [List.length_map]) ?_; refine Zpb 7 rfl ?_; cases h; cases hG; exact ⟨rfl, trivial⟩
            · refine Zpb 10 rfl ?_; cases h; cases hG; exact ⟨rfl, trivial⟩
          · refine Zpb 17 rfl ?_; cases h; cases hG; exact ⟨rfl, trivial⟩
        · refine Zpb 22 rfl ?_; cases h; cases hG; exact ⟨rfl, trivial⟩
      · refine Zpb 27 rfl ?_; cases h; cases hG; exact ⟨rfl, trivial⟩
end Go.Proofs.Ytpikahfgidgdbaa

/-
  Plain programs of functions, and that the functions do what they say. Printed by wip/tools/gen.py.
-/
import Derived.Test.YtpikahfgidgdbaaXV
namespace Go.Proofs.Ytpikahfgidgdbaa
open Go.RowKit
attribute [local irreducible] IntKind.wrap AW runL Step.wp
set_option linter.unusedVariables false
set_option maxHeartbeats 4000000
set_option maxRecDepth 100000
noncomputable def ref16_SameAll_L1 (a_ : (List api_Msg)) (b_ : (List api_Msg)) (s3 : Int) : Option ((Int) ⊕ ((Unit) ⊕ (Bool))) :=
  (bif (decide (s3 < (a_.length : Int))) then
    (getI a_ s3).bind fun x34 =>
    (getI b_ s3).bind fun x35 =>
    (ref16_Same x34 x35).bind fun y36 =>
    (bif (!y36) then
      some (.inr (.inr false))
    else
      some (.inl (IntKind.i64.wrap (s3 + (1 : Int)))))
  else
    some (.inr (.inl ())))
noncomputable def ref16_SameAll (a_ : (List api_Msg)) (b_ : (List api_Msg)) : Option (Bool) :=
  (bif ((a_.length : Int) != (b_.length : Int)) then
    some false
  else
    (seqF (A := Unit) (
      loopF (ref16_SameAll_L1 a_ b_) (0 : Int))
    fun s2 =>
      some true))
theorem ref16_SameAll_fn {dr : Prop} {a_ : (List api_Msg)} {b_ : (List api_Msg)} {r : Bool} (h : ref16_SameAll a_ b_ = some r) : Fn dr Try.prog 10 [VF (List.map api_Msg.enc a_), VF (List.map api_Msg.enc b_)] (VB r) := by
  refine Fn.of_AW (dr := dr) (F := FnX dr Try.prog) (base := 0) (js := [8]) mixed tok noeqs (fun _ _ _ h => h) Try.call10 Try.func10 rfl Try.ntmps10 (by rw [Try.results10]) (by simp) ?_; have hG : (fun x => x = r) r := rfl; unfold ref16_SameAll at h; refine Zap 9 rfl ?_; refine Y1 rfl ?_; refine W.len rfl ?_; refine Zpp 1 rfl ?_; refine Y1 rfl ?_; refine W.len rfl ?_; refine Zpc 3 rfl ?_; refine A.condB rfl h (fun _ h => ?_) (fun _ h => ?_)
  · refine Zcb 7 rfl ?_; cases h; cases hG; exact ⟨rfl, trivial⟩
  · refine Zcc 2 rfl ?_; refine A.join (fun (s2 : Unit) => []) (fun s2 => []) _ h hG rfl ?_ ?_
    · intro J f h hG; refine Zac 6 rfl ?_; refine A.loop (fun (s3 : Int) => [(0, VF (List.map api_Msg.enc a_)), (1, VF (List.map api_Msg.enc b_)), (5, VI s3)]) (fun s3 => []) _ h hG (Zf [] [] rfl rfl (Ze rfl rfl (Ze rfl rfl (Ze rfl rfl trivial))) trivial) ?_; intro J s3 f h hG; unfold ref16_SameAll_L1 at h; refine Zap 5 rfl ?_; refine Y1 rfl ?_; refine W.len rfl ?_; refine Zpc 3 rfl ?_; refine A.condB rfl h (fun _ h => ?_) (fun _ h => ?_)
      · refine Zcc 5 rfl ?_; refine A.regionD (by kernel_rfl) ?_; refine Zpp 2 rfl ?_; refine Y1 rfl ?_; refine bindK h fun x34 hx34 h => ?_; refine W.chk rfl (elemB hx34) ?_; refine W.elem rfl (elemG hx34) ?_; refine W.chk rfl rfl ?_; refine W.det (.fp [.v (.int .i64 x34.Id), .v (.int .i64 x34.Author), .v (.int .i64 x34.Group), .v (.int .i64 x34.Parent), .v (.int .i64 x34.Quote), .v (.int .i64 x34.Who), .v (.string x34.Text), .fz (List.map (encI .i64) x34.Files), .v (.int .i64 x34.Edits), .fz (List.map Arr2_Int.enc x34.Reacts), .v (.bool x34.Gone)]) _ rfl ?_; refine Zo (.agg (api_Msg.av x34)) rfl rfl ?_; refine Zpp 2 rfl ?_; refine Y1 rfl ?_; refine bindK h fun x35 hx35 h => ?_; refine W.chk rfl (elemB hx35) ?_; refine W.elem rfl (elemG hx35) ?_; refine W.chk rfl rfl ?_; refine W.det (.fp [.v (.int .i64 x35.Id), .v (.int .i64 x35.Author), .v (.int .i64 x35.Group), .v (.int .i64 x35.Parent), .v (.int .i64 x35.Quote), .v (.int .i64 x35.Who), .v (.string x35.Text), .fz (List.map (encI .i64) x35.Files), .v (.int .i64 x35.Edits), .fz (List.map Arr2_Int.enc x35.Reacts), .v (.bool x35.Gone)]) _ rfl ?_; refine Zo (.agg (api_Msg.av x35)) rfl rfl ?_; refine Y1 rfl ?_; refine bindK h fun y36 hy36 h => ?_; refine W.call rfl (ref16_Same_fn hy36) ?_; refine Zwc 4 rfl ?_; refine A.condB rfl h (fun _ h => ?_) (fun _ h => ?_)
        · refine Zcb 8 rfl ?_; refine headK.r ?_; refine Zob 1 rfl ?_; refine headK.r ?_; cases h; cases hG; exact ⟨rfl, trivial⟩
        · refine Zcb 8 rfl ?_; cases h; exact Zh hG [] [] rfl rfl (Ze rfl rfl (Ze rfl rfl (Ze rfl rfl trivial))) trivial
      · refine Zcb 2 rfl ?_; refine headK.e ?_; refine Zob 1 rfl ?_; cases h; exact Zh hG [] [] rfl rfl trivial trivial
    · intro s2 r2 h hG; refine Zcb 6 rfl ?_; cases h; cases hG; exact ⟨rfl, trivial⟩
noncomputable def view_Root_L1 (events_ : (List api_Event)) (s3 : Int × Int) : Option ((Int × Int) ⊕ ((Int) ⊕ (Int))) :=
  (bif (decide ((0 : Int) ≤ s3.2)) then
    (view_parent events_ s3.2).bind fun y10 =>
    some (.inl (s3.2, y10))
  else
    some (.inr (.inl s3.1)))
noncomputable def view_Root (events_ : (List api_Event)) (id_ : Int) : Option (Int) :=
  (view_message events_ id_).bind fun y2 =>
  (bif (!y2) then
    some (-1 : Int)
  else
    (seqF (A := Int) (
      (view_parent events_ id_).bind fun y7 =>
      loopF (view_Root_L1 events_) (id_, y7))
    fun s2 =>
      some s2))
theorem view_Root_fn {dr : Prop} {events_ : (List api_Event)} {id_ : Int} {r : Int} (h : view_Root events_ id_ = some r) : Fn dr Try.prog 13 [VF (List.map api_Event.enc events_), VI id_] (VI r) := by
  refine Fn.of_AW (dr := dr) (F := FnX dr Try.prog) (base := 0) (js := [7]) mixed tok noeqs (fun _ _ _ h => h) Try.call13 Try.func13 rfl Try.ntmps13 (by rw [Try.results13]) (by simp) ?_; have hG : (fun x => x = r) r := rfl; unfold view_Root at h; refine Zap 10 rfl ?_; refine Y1 rfl ?_; refine bindK h fun y2 hy2 h => ?_; refine W.call rfl (view_message_fn hy2) ?_; refine Zwc 4 rfl ?_; refine A.condB rfl h (fun _ h => ?_) (fun _ h => ?_)
  · refine Zcb 7 rfl ?_; cases h; cases hG; exact ⟨rfl, trivial⟩
  · refine Zcc 2 rfl ?_; refine A.join (fun (s2 : Int) => [(1, VI s2)]) (fun s2 => []) _ h hG rfl ?_ ?_
    · intro J f h hG; refine Zap 4 rfl ?_; refine Y1 rfl ?_; refine bindK h fun y7 hy7 h => ?_; refine W.call rfl (view_parent_fn hy7) ?_; refine Zwc 5 rfl ?_; refine A.loop (fun (s3 : Int × Int) => [(0, VF (List.map api_Event.enc events_)), (1, VI s3.1), (5, VI s3.2)]) (fun s3 => []) _ h hG (Zf [] [] rfl rfl (Ze rfl rfl (Ze rfl rfl (Ze rfl rfl trivial))) trivial) ?_; intro J s3 f h hG; unfold view_Root_L1 at h; refine Zac 7 rfl ?_; refine A.condB rfl h (fun _ h => ?_) (fun _ h => ?_)
      · refine Zcp 13 rfl ?_; refine Y1 rfl ?_; refine bindK h fun y10 hy10 h => ?_; refine W.call rfl (view_parent_fn hy10) ?_; refine Zwb 3 rfl ?_; cases h; exact Zh hG [] [] rfl rfl (Ze rfl rfl (Ze rfl rfl (Ze rfl rfl trivial))) trivial
      · refine Zcb 2 rfl ?_; refine headK.e ?_; refine Zob 1 rfl ?_; cases h; exact Zh hG [] [] rfl rfl (Ze rfl rfl trivial) trivial
    · intro s2 r2 h hG; refine Zcb 7 rfl ?_; cases h; cases hG; exact ⟨rfl, trivial⟩
noncomputable def view_Answers_L1 (events_ : (List api_Event)) (id_ : Int) (s3 : Int × (List Int)) : Option ((Int × (List Int)) ⊕ (((List Int)) ⊕ ((List Int)))) :=
  (bif (decide (s3.1 < (events_.length : Int))) then
    (getI events_ s3.1).bind fun x25 =>
    (bif (decide (id_ < s3.1)) then
      (bif (x25.Kind == (0 : Int)) then
        (bif (x25.Target == id_) then
          (chkO (decide (s3.2.length + [s3.1].length ≤ 1000000))).bind fun _ =>
          some (.inl ((IntKind.i64.wrap (s3.1 + (1 : Int))), (s3.2 ++ [s3.1])))
        else
          some (.inl ((IntKind.i64.wrap (s3.1 + (1 : Int))), s3.2)))
      else
        some (.inl ((IntKind.i64.wrap (s3.1 + (1 : Int))), s3.2)))
    else
      some (.inl ((IntKind.i64.wrap (s3.1 + (1 : Int))), s3.2)))
  else
    some (.inr (.inl s3.2)))
noncomputable def view_Answers (events_ : (List api_Event)) (id_ : Int) : Option ((List Int)) :=
  (view_message events_ id_).bind fun y2 =>
  (bif (!y2) then
    some ([] : List Int)
  else
    (seqF (A := (List Int)) (
      loopF (view_Answers_L1 events_ id_) ((0 : Int), ([] : List Int)))
    fun s2 =>
      some s2))
theorem view_Answers_fn {dr : Prop} {events_ : (List api_Event)} {id_ : Int} {r : (List Int)} (h : view_Answers events_ id_ = some r) : Fn dr Try.prog 16 [VF (List.map api_Event.enc events_), VI id_] (.ow 1 (List.map (encI .i64) r)) := by
  refine Fn.of_AW (dr := dr) (F := FnX dr Try.prog) (base := 0) (js := [10]) mixed tok noeqs (fun _ _ _ h => h) Try.call16 Try.func16 rfl Try.ntmps16 (by rw [Try.results16]) (by simp) ?_; have hG : (fun x => x = r) r := rfl; unfold view_Answers at h; refine Zap 2 rfl ?_; refine Zm (.row 4 1 0) (Mem.add _ 4 (.rows 1 (List.map (encI .i64) ([] : List Int)) false)) rfl rfl ?_; refine Zpp 4 rfl ?_; refine Zm (.row 5 1 0) (Mem.add _ 5 (.rows 1 (List.map (encI .i64) ([] : List Int)) false)) rfl rfl ?_; refine Zpp 7 rfl ?_; refine Y1 rfl ?_; refine bindK h fun y2 hy2 h => ?_; refine W.call rfl (view_message_fn hy2) ?_; refine Zwc 4 rfl ?_; refine A.condB rfl h (fun _ h => ?_) (fun _ h => ?_)
  · refine Zcp 2 rfl ?_; refine Zm (.row 4 2 0) (Mem.add _ 4 (.rows 1 (List.map (encI .i64) ([] : List Int)) false)) rfl rfl ?_; refine Zpb 4 rfl ?_; cases h; cases hG; exact ⟨rfl, rfl, trivial⟩
  · refine Zcc 2 rfl ?_; refine A.join (fun (s2 : (List Int)) => [(5, .row 900000 1 s2.length)]) (fun s2 => [(900000, .rows 1 (List.map (encI .i64) s2) false)]) _ h hG rfl ?_ ?_
    · intro J f h hG; refine Zap 3 rfl ?_; refine Y1 rfl ?_; refine W.len rfl ?_; refine Zpc 4 rfl ?_; refine A.loop (fun (s3 : Int × (List Int)) => [(1, VI id_), (5, .row 900000 1 s3.2.length), (12, VF (List.map api_Event.enc events_)), (13, VI (events_.length : Int)), (14, VI s3.1)]) (fun s3 => [(900000, .rows 1 (List.map (encI .i64) s3.2) false)]) _ h hG (Zf [] [(900000, (5, 1))] rfl rfl (Ze rfl rfl (Ze rfl rfl (Ze rfl rfl (Ze rfl rfl (Ze rfl rfl trivial))))) (Zc rfl rfl trivial)) ?_; intro J s3 f h hG; unfold view_Answers_L1 at h; refine Zac 6 rfl ?_; refine A.condB rfl h (fun _ h => ?_) (fun _ h => ?_)
      · refine Zcp 7 rfl ?_; refine Y1 rfl ?_; refine bindK h fun x25 hx25 h => ?_; refine W.chk rfl (elemB hx25) ?_; refine W.elem rfl (elemG hx25) ?_; refine W.chk rfl rfl ?_; refine W.det (.fp [.v (.int .i64 x25.Author), .v (.int .i64 x25.Seq), .fz (List.map (encI .i64) x25.Causes), .v (.int .i64 x25.Kind), .v (.int .i64 x25.Group), .v (.int .i64 x25.Target), .v (.int .i64 x25.Quote), .v (.int .i64 x25.Who), .v (.int .i64 x25.N), .v (.string x25.Text), .fz (List.map (encI .i64) x25.Files), .v (.int .i64 x25.Step)]) _ rfl ?_; refine Zo (.agg (api_Event.av x25)) rfl rfl ?_; refine Zm (.lp 7 2 0) (Mem.add (Mem.add (Mem.add _ 196615 (.rows 1 (List.map (encI .i64) ([] : List Int)) false)) 720903 (.rows 1 (List.map (encI .i64) ([] : List Int)) false)) 7 (.box [VI 0, VI 0, .row 196615 2 0, VI 0, VI 0, VI 0, VI 0, VI 0, VI 0, VS (ByteArray.mk #[]), .row 720903 2 0, VI 0])) rfl rfl ?_; refine Zpp 1 rfl ?_; refine Zm (.tup []) (Mem.set _ 7 2 (some (.box (api_Event.av x25)))) rfl rfl ?_; refine Zpp 8 rfl ?_; refine YT rfl rfl rfl h (fun _ h => ?_) (fun _ h => ?_)
        · refine Zwp 5 rfl ?_; refine YT rfl rfl rfl h (fun _ h => ?_) (fun _ h => ?_)
          · refine Zwc 7 rfl ?_; refine A.condB rfl h (fun _ h => ?_) (fun _ h => ?_)
            · refine Zcp 1 rfl ?_; refine Zo (.row 900000 1 s3.2.length) rfl rfl ?_; refine Zpp 1 rfl ?_; refine Zm (.row 35 2 1) (Mem.add _ 35 (.rows 1 (List.map (encI .i64) [s3.1]) false)) rfl rfl ?_; refine Y1 rfl ?_; refine chkK h fun g26 h => ?_; refine W.chk rfl (appChk (fun _ => rfl) g26) ?_; refine W.app rfl rfl ?_; refine Zo (.row 900000 2 (s3.2 ++ [s3.1]).length) rfl rfl ?_; refine Zpb 7 rfl ?_; cases h; exact Zh hG [] [(900000, (900000, 2))] rfl rfl (Ze rfl rfl (Ze rfl rfl (Ze rfl rfl (Ze rfl rfl (Ze rfl rfl trivial))))) (Zc rfl rfl trivial)
            · refine Zcb 7 rfl ?_; cases h; exact Zh hG [] [(900000, (900000, 1))] rfl rfl (Ze rfl rfl (Ze rfl rfl (Ze rfl rfl (Ze rfl rfl (Ze rfl rfl trivial))))) (Zc rfl rfl trivial)
          · refine Zpb 14 rfl ?_; cases h; exact Zh hG [] [(900000, (900000, 1))] rfl rfl (Ze rfl rfl (Ze rfl rfl (Ze rfl rfl (Ze rfl rfl (Ze rfl rfl trivial))))) (Zc rfl rfl trivial)
        · refine Zpb 19 rfl ?_; cases h; exact Zh hG [] [(900000, (900000, 1))] rfl rfl (Ze rfl rfl (Ze rfl rfl (Ze rfl rfl (Ze rfl rfl (Ze rfl rfl trivial))))) (Zc rfl rfl trivial)
      · refine Zcb 2 rfl ?_; refine headK.e ?_; refine Zob 1 rfl ?_; cases h; exact Zh hG [] [(900000, (900000, 1))] rfl rfl (Ze rfl rfl trivial) (Zc rfl rfl trivial)
    · intro s2 r2 h hG; refine Zcp 2 rfl ?_; refine Zo (.row 900000 1 s2.length) rfl rfl ?_; refine Zo (.row 900000 1 s2.length) rfl rfl ?_; refine Zpb 3 rfl ?_; cases h; cases hG; exact ⟨rfl, rfl, trivial⟩
noncomputable def law16_small : Option (Bool) :=
  (law16_story).bind fun y1 =>
  (view_View y1).bind fun y2 =>
  (ref16_SameAll y2 [(api_Msg.mk (0 : Int) (1 : Int) (0 : Int) (-1 : Int) (-1 : Int) (-1 : Int) (ByteArray.mk #[99]) ([] : List Int) (1 : Int) [(Arr2_Int.mk (13 : Int) (7 : Int))] false), (api_Msg.mk (1 : Int) (13 : Int) (0 : Int) (0 : Int) (-1 : Int) (-1 : Int) (ByteArray.mk #[]) ([] : List Int) (0 : Int) ([] : List Arr2_Int) true)]).bind fun y3 =>
  (bif y3 then
    (law16_story).bind fun y4 =>
    (view_Root y4 (1 : Int)).bind fun y5 =>
    (bif (y5 == (0 : Int)) then
      (law16_story).bind fun y6 =>
      (view_Answers y6 (0 : Int)).bind fun y7 =>
      (ref16_Ints y7 [(1 : Int)]).bind fun y8 =>
      (bif y8 then
        (law16_story).bind fun y9 =>
        (view_Root y9 (2 : Int)).bind fun y10 =>
        some (y10 == (-1 : Int))
      else
        some false)
    else
      some false)
  else
    some false)
theorem law16_small_fn {r : Bool} (h : law16_small = some r) : Fn False Try.prog 8 [] (VB r) := by
  refine Fn.of_AW (dr := False) (F := FnX False Try.prog) (base := 0) (js := []) mixed tok noeqs (fun _ _ _ h => h) Try.call8 Try.func8 rfl Try.ntmps8 (by rw [Try.results8]) (by simp) ?_; have hG : (fun x => x = r) r := rfl; unfold law16_small at h; refine Zap 7 rfl ?_; refine Y1 rfl ?_; refine bindK h fun y1 hy1 h => ?_; refine W.call rfl (law16_story_fn hy1) ?_; refine W.v (.row 3 1 (List.map api_Event.enc y1).length) (.row 3 1 y1.length) (Mem.add _ 3 (.rows 12 (List.map api_Event.enc y1) false)) rfl (by simp only [List.length_map]) ?_; refine Y1 rfl ?_; refine bindK h fun y2 hy2 h => ?_; refine W.call rfl (view_View_fn hy2) ?_; refine W.det (VF (List.map api_Msg.enc y2)) (Mem.set _ 3 1 (some (.rows 12 (List.map api_Event.enc y1) true))) rfl ?_; refine Zpp 5 rfl ?_; refine Zo (.agg [VI 13, VI 7]) rfl rfl ?_; refine Zm (.row 6 1 1) (Mem.add _ 6 (.rows 2 (List.map Arr2_Int.enc [(Arr2_Int.mk (13 : Int) (7 : Int))]) false)) rfl rfl ?_; refine Zo (.agg [VI 0, VI 1, VI 0, VI (-1), VI (-1), VI (-1), VS (ByteArray.mk #[99]), .nl, VI 1, .row 6 1 1, VB false]) rfl rfl ?_; refine Zo (.agg [VI 1, VI 13, VI 0, VI 0, VI (-1), VI (-1), VS (ByteArray.mk #[]), .nl, VI 0, .nl, VB true]) rfl rfl ?_; refine Zm (.row 9 1 2) (Mem.add (Mem.set _ 6 1 (some (.rows 2 (List.map Arr2_Int.enc [(Arr2_Int.mk (13 : Int) (7 : Int))]) true))) 9 (.rows 11 (List.map api_Msg.enc [(api_Msg.mk (0 : Int) (1 : Int) (0 : Int) (-1 : Int) (-1 : Int) (-1 : Int) (ByteArray.mk #[99]) ([] : List Int) (1 : Int) [(Arr2_Int.mk (13 : Int) (7 : Int))] false), (api_Msg.mk (1 : Int) (13 : Int) (0 : Int) (0 : Int) (-1 : Int) (-1 : Int) (ByteArray.mk #[]) ([] : List Int) (0 : Int) ([] : List Arr2_Int) true)]) false)) rfl rfl ?_; refine Zo (.row 9 1 2) rfl rfl ?_; refine Zpp 5 rfl ?_; refine Zo (.row 9 1 2) rfl rfl ?_; refine Y1 rfl ?_; refine bindK h fun y3 hy3 h => ?_; refine W.call rfl (ref16_SameAll_fn hy3) ?_; refine Zwp 2 rfl ?_; refine YT rfl rfl rfl h (fun _ h => ?_) (fun _ h => ?_)
  · refine bindK h fun y4 hy4 h => ?_; refine W.call rfl (law16_story_fn hy4) ?_; refine W.v (.row 14 1 (List.map api_Event.enc y4).length) (.row 14 1 y4.length) (Mem.add _ 14 (.rows 12 (List.map api_Event.enc y4) false)) rfl (by simp only [List.length_map]) ?_; refine Y2 rfl rfl rfl ?_; refine bindK h fun y5 hy5 h => ?_; refine W.call rfl (view_Root_fn hy5) ?_; refine Zwp 4 rfl ?_; refine YT rfl rfl rfl h (fun _ h => ?_) (fun _ h => ?_)
    · refine bindK h fun y6 hy6 h => ?_; refine W.call rfl (law16_story_fn hy6) ?_; refine W.v (.row 19 1 (List.map api_Event.enc y6).length) (.row 19 1 y6.length) (Mem.add _ 19 (.rows 12 (List.map api_Event.enc y6) false)) rfl (by simp only [List.length_map]) ?_; refine Y2 rfl rfl rfl ?_; refine bindK h fun y7 hy7 h => ?_; refine W.call rfl (view_Answers_fn hy7) ?_; refine W.v (.row 20 1 (List.map (encI .i64) y7).length) (.row 20 1 y7.length) (Mem.add (Mem.set _ 19 1 (some (.rows 12 (List.map api_Event.enc y6) true))) 20 (.rows 1 (List.map (encI .i64) y7) false)) rfl (by simp only [List.length_map]) ?_; refine Zv (.row 21 1 1) (Mem.add _ 21 (.rows 1 (List.map (encI .i64) [(1 : Int)]) false)) rfl rfl rfl rfl ?_; refine Y2 rfl rfl rfl ?_; refine bindK h fun y8 hy8 h => ?_; refine W.call rfl (ref16_Ints_fn hy8) ?_; refine Zwp 3 rfl ?_; refine YT rfl rfl rfl h (fun _ h => ?_) (fun _ h => ?_)
      · refine bindK h fun y9 hy9 h => ?_; refine W.call rfl (law16_story_fn hy9) ?_; refine W.v (.row 25 1 (List.map api_Event.enc y9).length) (.row 25 1 y9.length) (Mem.add _ 25 (.rows 12 (List.map api_Event.enc y9) false)) rfl (by simp only [List.length_map]) ?_; refine Y2 rfl rfl rfl ?_; refine bindK h fun y10 hy10 h => ?_; refine W.call rfl (view_Root_fn hy10) ?_; refine Zwb 7 rfl ?_; cases h; cases hG; exact ⟨rfl, trivial⟩
      · refine Zpb 7 rfl ?_; cases h; cases hG; exact ⟨rfl, trivial⟩
    · refine Zpb 13 rfl ?_; cases h; cases hG; exact ⟨rfl, trivial⟩
  · refine Zpb 18 rfl ?_; cases h; cases hG; exact ⟨rfl, trivial⟩
noncomputable def ref16_Few_L1 (l_ : (List api_Event)) (n_ : Int) (s3 : Int) : Option ((Int) ⊕ ((Unit) ⊕ (Bool))) :=
  (bif (decide (s3 < (l_.length : Int))) then
    (bif (decide (s3 ≤ n_)) then
      (getI l_ s3).bind fun x24 =>
      (bif (decide ((20 : Int) < (x24.Causes.length : Int))) then
        some (.inr (.inr false))
      else
        (bif (decide ((10 : Int) < (x24.Files.length : Int))) then
          some (.inr (.inr false))
        else
          (bif (decide ((200 : Int) < (x24.Text.size : Int))) then
            some (.inr (.inr false))
          else
            some (.inl (IntKind.i64.wrap (s3 + (1 : Int)))))))
    else
      some (.inr (.inl ())))
  else
    some (.inr (.inl ())))
noncomputable def ref16_Few (l_ : (List api_Event)) (n_ : Int) : Option (Bool) :=
  (seqF (A := Unit) (
    loopF (ref16_Few_L1 l_ n_) (0 : Int))
  fun s2 =>
    some (decide ((l_.length : Int) ≤ n_)))
theorem ref16_Few_fn {dr : Prop} {l_ : (List api_Event)} {n_ : Int} {r : Bool} (h : ref16_Few l_ n_ = some r) : Fn dr Try.prog 9 [VF (List.map api_Event.enc l_), VI n_] (VB r) := by
  refine Fn.of_AW (dr := dr) (F := FnX dr Try.prog) (base := 0) (js := [6]) mixed tok noeqs (fun _ _ _ h => h) Try.call9 Try.func9 rfl Try.ntmps9 (by rw [Try.results9]) (by simp) ?_; have hG : (fun x => x = r) r := rfl; unfold ref16_Few at h; refine Zac 5 rfl ?_; refine A.join (fun (s2 : Unit) => [(0, VF (List.map api_Event.enc l_)), (1, VI n_)]) (fun s2 => []) _ h hG rfl ?_ ?_
  · intro J f h hG; refine Zac 6 rfl ?_; refine A.loop (fun (s3 : Int) => [(0, VF (List.map api_Event.enc l_)), (1, VI n_), (5, VI s3)]) (fun s3 => []) _ h hG (Zf [] [] rfl rfl (Ze rfl rfl (Ze rfl rfl (Ze rfl rfl trivial))) trivial) ?_; intro J s3 f h hG; unfold ref16_Few_L1 at h; refine Zap 5 rfl ?_; refine Y1 rfl ?_; refine W.len rfl ?_; refine Zpp 2 rfl ?_; refine YT rfl rfl rfl h (fun _ h => ?_) (fun _ h => ?_)
    · refine Zwc 6 rfl ?_; refine A.condB rfl h (fun _ h => ?_) (fun _ h => ?_)
      · refine Zcp 8 rfl ?_; refine Y1 rfl ?_; refine bindK h fun x24 hx24 h => ?_; refine W.chk rfl (elemB hx24) ?_; refine W.elem rfl (elemG hx24) ?_; refine W.chk rfl rfl ?_; refine W.det (.fp [.v (.int .i64 x24.Author), .v (.int .i64 x24.Seq), .fz (List.map (encI .i64) x24.Causes), .v (.int .i64 x24.Kind), .v (.int .i64 x24.Group), .v (.int .i64 x24.Target), .v (.int .i64 x24.Quote), .v (.int .i64 x24.Who), .v (.int .i64 x24.N), .v (.string x24.Text), .fz (List.map (encI .i64) x24.Files), .v (.int .i64 x24.Step)]) _ rfl ?_; refine Zo (.fp [.fz (List.map (encI .i64) x24.Causes), .v (.int .i64 x24.Kind), .v (.int .i64 x24.Group), .v (.int .i64 x24.Target), .v (.int .i64 x24.Quote), .v (.int .i64 x24.Who), .v (.int .i64 x24.N), .v (.string x24.Text), .fz (List.map (encI .i64) x24.Files), .v (.int .i64 x24.Step)]) rfl rfl ?_; refine Zpp 1 rfl ?_; refine Y1 rfl ?_; refine W.len rfl ?_; refine Zpp 2 rfl ?_; refine YF rfl rfl rfl h (fun _ h => ?_) (fun _ h => ?_)
        · refine Zpb 27 rfl ?_; refine headK.r ?_; refine Zob 1 rfl ?_; refine headK.r ?_; cases h; cases hG; exact ⟨rfl, trivial⟩
        · refine Zwp 2 rfl ?_; refine Y2 rfl rfl rfl ?_; refine W.chk rfl (elemB hx24) ?_; refine W.elem rfl (elemG hx24) ?_; refine W.chk rfl rfl ?_; refine W.det (.fp [.v (.int .i64 x24.Author), .v (.int .i64 x24.Seq), .fz (List.map (encI .i64) x24.Causes), .v (.int .i64 x24.Kind), .v (.int .i64 x24.Group), .v (.int .i64 x24.Target), .v (.int .i64 x24.Quote), .v (.int .i64 x24.Who), .v (.int .i64 x24.N), .v (.string x24.Text), .fz (List.map (encI .i64) x24.Files), .v (.int .i64 x24.Step)]) _ rfl ?_; refine Zu (.fp [.fz (List.map (encI .i64) x24.Files), .v (.int .i64 x24.Step)]) rfl rfl rfl rfl ?_; refine Zpp 1 rfl ?_; refine Y2 rfl rfl rfl ?_; refine W.len rfl ?_; refine Zpp 3 rfl ?_; refine YF rfl rfl rfl h (fun _ h => ?_) (fun _ h => ?_)
          · refine Zpb 18 rfl ?_; refine headK.r ?_; refine Zob 1 rfl ?_; refine headK.r ?_; cases h; cases hG; exact ⟨rfl, trivial⟩
          · refine Zwp 2 rfl ?_; refine Y2 rfl rfl rfl ?_; refine W.chk rfl (elemB hx24) ?_; refine W.elem rfl (elemG hx24) ?_; refine W.chk rfl rfl ?_; refine W.det (.fp [.v (.int .i64 x24.Author), .v (.int .i64 x24.Seq), .fz (List.map (encI .i64) x24.Causes), .v (.int .i64 x24.Kind), .v (.int .i64 x24.Group), .v (.int .i64 x24.Target), .v (.int .i64 x24.Quote), .v (.int .i64 x24.Who), .v (.int .i64 x24.N), .v (.string x24.Text), .fz (List.map (encI .i64) x24.Files), .v (.int .i64 x24.Step)]) _ rfl ?_; refine Zu (.fp [.v (.string x24.Text), .fz (List.map (encI .i64) x24.Files), .v (.int .i64 x24.Step)]) rfl rfl rfl rfl ?_; refine Zpc 6 rfl ?_; refine A.condB rfl h (fun _ h => ?_) (fun _ h => ?_)
            · refine Zcb 8 rfl ?_; refine headK.r ?_; refine Zob 1 rfl ?_; refine headK.r ?_; cases h; cases hG; exact ⟨rfl, trivial⟩
            · refine Zcb 8 rfl ?_; cases h; exact Zh hG [] [] rfl rfl (Ze rfl rfl (Ze rfl rfl (Ze rfl rfl trivial))) trivial
      · refine Zcb 2 rfl ?_; refine headK.e ?_; refine Zob 1 rfl ?_; cases h; exact Zh hG [] [] rfl rfl (Ze rfl rfl (Ze rfl rfl trivial)) trivial
    · refine Zpb 8 rfl ?_; refine headK.e ?_; refine Zob 1 rfl ?_; cases h; exact Zh hG [] [] rfl rfl (Ze rfl rfl (Ze rfl rfl trivial)) trivial
  · intro s2 r2 h hG; refine Zcp 3 rfl ?_; refine Y1 rfl ?_; refine W.len rfl ?_; refine Zpb 6 rfl ?_; cases h; cases hG; exact ⟨rfl, trivial⟩
noncomputable def ref16_post (events_ : (List api_Event)) (id_ : Int) : Option (Bool) :=
  (bif (decide (id_ < (0 : Int))) then
    some false
  else
    (bif (decide ((events_.length : Int) ≤ id_)) then
      some false
    else
      (getI events_ id_).bind fun x1 =>
      some (x1.Kind == (0 : Int))))
theorem ref16_post_fn {dr : Prop} {events_ : (List api_Event)} {id_ : Int} {r : Bool} (h : ref16_post events_ id_ = some r) : Fn dr Try.prog 37 [VF (List.map api_Event.enc events_), VI id_] (VB r) := by
  refine Fn.of_AW (dr := dr) (F := FnX dr Try.prog) (base := 0) (js := []) mixed tok noeqs (fun _ _ _ h => h) Try.call37 Try.func37 rfl Try.ntmps37 (by rw [Try.results37]) (by simp) ?_; have hG : (fun x => x = r) r := rfl; unfold ref16_post at h; refine Zap 11 rfl ?_; refine YF rfl rfl rfl h (fun _ h => ?_) (fun _ h => ?_)
  · refine Zpb 14 rfl ?_; cases h; cases hG; exact ⟨rfl, trivial⟩
  · refine Zwp 2 rfl ?_; refine Y2 rfl rfl rfl ?_; refine W.len rfl ?_; refine Zpc 4 rfl ?_; refine A.condB rfl h (fun _ h => ?_) (fun _ h => ?_)
    · refine Zcb 7 rfl ?_; cases h; cases hG; exact ⟨rfl, trivial⟩
    · refine Zcp 6 rfl ?_; refine Y1 rfl ?_; refine bindK h fun x1 hx1 h => ?_; refine W.chk rfl (elemB hx1) ?_; refine W.elem rfl (elemG hx1) ?_; refine W.chk rfl rfl ?_; refine W.det (.fp [.v (.int .i64 x1.Author), .v (.int .i64 x1.Seq), .fz (List.map (encI .i64) x1.Causes), .v (.int .i64 x1.Kind), .v (.int .i64 x1.Group), .v (.int .i64 x1.Target), .v (.int .i64 x1.Quote), .v (.int .i64 x1.Who), .v (.int .i64 x1.N), .v (.string x1.Text), .fz (List.map (encI .i64) x1.Files), .v (.int .i64 x1.Step)]) _ rfl ?_; refine Zo (.fp [.v (.int .i64 x1.Kind), .v (.int .i64 x1.Group), .v (.int .i64 x1.Target), .v (.int .i64 x1.Quote), .v (.int .i64 x1.Who), .v (.int .i64 x1.N), .v (.string x1.Text), .fz (List.map (encI .i64) x1.Files), .v (.int .i64 x1.Step)]) rfl rfl ?_; refine Zpb 6 rfl ?_; cases h; cases hG; exact ⟨rfl, trivial⟩
noncomputable def ref16_Parent (events_ : (List api_Event)) (id_ : Int) : Option (Int) :=
  (getI events_ id_).bind fun x1 =>
  (bif (decide (x1.Target < id_)) then
    (ref16_post events_ x1.Target).bind fun y5 =>
    (bif y5 then
      some x1.Target
    else
      some (-1 : Int))
  else
    some (-1 : Int))
theorem ref16_Parent_fn {dr : Prop} {events_ : (List api_Event)} {id_ : Int} {r : Int} (h : ref16_Parent events_ id_ = some r) : Fn dr Try.prog 38 [VF (List.map api_Event.enc events_), VI id_] (VI r) := by
  refine Fn.of_AW (dr := dr) (F := FnX dr Try.prog) (base := 0) (js := []) mixed tok noeqs (fun _ _ _ h => h) Try.call38 Try.func38 rfl Try.ntmps38 (by rw [Try.results38]) (by simp) ?_; have hG : (fun x => x = r) r := rfl; unfold ref16_Parent at h; refine Zap 9 rfl ?_; refine Y1 rfl ?_; refine bindK h fun x1 hx1 h => ?_; refine W.chk rfl (elemB hx1) ?_; refine W.elem rfl (elemG hx1) ?_; refine W.chk rfl rfl ?_; refine W.det (.fp [.v (.int .i64 x1.Author), .v (.int .i64 x1.Seq), .fz (List.map (encI .i64) x1.Causes), .v (.int .i64 x1.Kind), .v (.int .i64 x1.Group), .v (.int .i64 x1.Target), .v (.int .i64 x1.Quote), .v (.int .i64 x1.Who), .v (.int .i64 x1.N), .v (.string x1.Text), .fz (List.map (encI .i64) x1.Files), .v (.int .i64 x1.Step)]) _ rfl ?_; refine Zo (.fp [.v (.int .i64 x1.Target), .v (.int .i64 x1.Quote), .v (.int .i64 x1.Who), .v (.int .i64 x1.N), .v (.string x1.Text), .fz (List.map (encI .i64) x1.Files), .v (.int .i64 x1.Step)]) rfl rfl ?_; refine Zpp 11 rfl ?_; refine YT rfl rfl rfl h (fun _ h => ?_) (fun _ h => ?_)
  · refine Zwp 2 rfl ?_; refine Y2 rfl rfl rfl ?_; refine bindK h fun y5 hy5 h => ?_; refine W.call rfl (ref16_post_fn hy5) ?_; refine Zwc 4 rfl ?_; refine A.condB rfl h (fun _ h => ?_) (fun _ h => ?_)
    · refine Zcb 8 rfl ?_; cases h; cases hG; exact ⟨rfl, trivial⟩
    · refine Zcb 8 rfl ?_; cases h; cases hG; exact ⟨rfl, trivial⟩
  · refine Zpb 14 rfl ?_; cases h; cases hG; exact ⟨rfl, trivial⟩
noncomputable def ref16_Act (events_ : (List api_Event)) (id_ : Int) (i_ : Int) : Option (Bool) :=
  (getI events_ i_).bind fun x1 =>
  (bif (decide (i_ ≤ id_)) then
    some false
  else
    (bif (x1.Target != id_) then
      some false
    else
      (getI events_ id_).bind fun x5 =>
      (bif (x1.Group != x5.Group) then
        some false
      else
        (bif (x1.Kind == (1 : Int)) then
          some (x1.Author == x5.Author)
        else
          (bif (x1.Kind == (2 : Int)) then
            (bif (x1.Kind == (2 : Int)) then
              some true
            else
              some false)
          else
            (bif (x1.Kind == (3 : Int)) then
              (bif (x1.Kind == (3 : Int)) then
                some true
              else
                some false)
            else
              (bif (x1.Kind == (4 : Int)) then
                some true
              else
                some false)))))))
theorem ref16_Act_fn {dr : Prop} {events_ : (List api_Event)} {id_ : Int} {i_ : Int} {r : Bool} (h : ref16_Act events_ id_ i_ = some r) : Fn dr Try.prog 46 [VF (List.map api_Event.enc events_), VI id_, VI i_] (VB r) := by
  refine Fn.of_AW (dr := dr) (F := FnX dr Try.prog) (base := 0) (js := []) mixed tok noeqs (fun _ _ _ h => h) Try.call46 Try.func46 rfl Try.ntmps46 (by rw [Try.results46]) (by simp) ?_; have hG : (fun x => x = r) r := rfl; unfold ref16_Act at h; refine Zap 9 rfl ?_; refine Y1 rfl ?_; refine bindK h fun x1 hx1 h => ?_; refine W.chk rfl (elemB hx1) ?_; refine W.elem rfl (elemG hx1) ?_; refine W.chk rfl rfl ?_; refine W.det (.fp [.v (.int .i64 x1.Author), .v (.int .i64 x1.Seq), .fz (List.map (encI .i64) x1.Causes), .v (.int .i64 x1.Kind), .v (.int .i64 x1.Group), .v (.int .i64 x1.Target), .v (.int .i64 x1.Quote), .v (.int .i64 x1.Who), .v (.int .i64 x1.N), .v (.string x1.Text), .fz (List.map (encI .i64) x1.Files), .v (.int .i64 x1.Step)]) _ rfl ?_; refine Zo (.agg (api_Event.av x1)) rfl rfl ?_; refine Zm (.lp 7 1 0) (Mem.add (Mem.add (Mem.add _ 196615 (.rows 1 (List.map (encI .i64) ([] : List Int)) false)) 720903 (.rows 1 (List.map (encI .i64) ([] : List Int)) false)) 7 (.box [VI 0, VI 0, .row 196615 1 0, VI 0, VI 0, VI 0, VI 0, VI 0, VI 0, VS (ByteArray.mk #[]), .row 720903 1 0, VI 0])) rfl rfl ?_; refine Zm (.tup []) (Mem.set _ 7 1 (some (.box (api_Event.av x1)))) rfl rfl ?_; refine Zpc 4 rfl ?_; refine A.regionD (by kernel_rfl) ?_; refine Zpp 4 rfl ?_; refine YF rfl rfl rfl h (fun _ h => ?_) (fun _ h => ?_)
  · refine Zpb 24 rfl ?_; cases h; cases hG; exact ⟨rfl, trivial⟩
  · refine Zwp 6 rfl ?_; refine YF rfl rfl rfl h (fun _ h => ?_) (fun _ h => ?_)
    · refine Zpb 18 rfl ?_; cases h; cases hG; exact ⟨rfl, trivial⟩
    · refine Zwp 4 rfl ?_; refine Y2 rfl rfl rfl ?_; refine bindK h fun x5 hx5 h => ?_; refine W.chk rfl (elemB hx5) ?_; refine W.elem rfl (elemG hx5) ?_; refine W.chk rfl rfl ?_; refine W.det (.fp [.v (.int .i64 x5.Author), .v (.int .i64 x5.Seq), .fz (List.map (encI .i64) x5.Causes), .v (.int .i64 x5.Kind), .v (.int .i64 x5.Group), .v (.int .i64 x5.Target), .v (.int .i64 x5.Quote), .v (.int .i64 x5.Who), .v (.int .i64 x5.N), .v (.string x5.Text), .fz (List.map (encI .i64) x5.Files), .v (.int .i64 x5.Step)]) _ rfl ?_; refine Zu (.fp [.v (.int .i64 x5.Group), .v (.int .i64 x5.Target), .v (.int .i64 x5.Quote), .v (.int .i64 x5.Who), .v (.int .i64 x5.N), .v (.string x5.Text), .fz (List.map (encI .i64) x5.Files), .v (.int .i64 x5.Step)]) rfl rfl rfl rfl ?_; refine Zpc 5 rfl ?_; refine A.condB rfl h (fun _ h => ?_) (fun _ h => ?_)
      · refine Zcb 7 rfl ?_; cases h; cases hG; exact ⟨rfl, trivial⟩
      · refine Zcc 16 rfl ?_; refine A.condB rfl h (fun _ h => ?_) (fun _ h => ?_)
        · refine Zcc 1 rfl ?_; refine A.regionD (by kernel_rfl) ?_; refine Zpp 4 rfl ?_; refine Y1 rfl ?_; refine W.chk rfl (elemB hx5) ?_; refine W.elem rfl (elemG hx5) ?_; refine W.chk rfl rfl ?_; refine W.det (.fp [.v (.int .i64 x5.Author), .v (.int .i64 x5.Seq), .fz (List.map (encI .i64) x5.Causes), .v (.int .i64 x5.Kind), .v (.int .i64 x5.Group), .v (.int .i64 x5.Target), .v (.int .i64 x5.Quote), .v (.int .i64 x5.Who), .v (.int .i64 x5.N), .v (.string x5.Text), .fz (List.map (encI .i64) x5.Files), .v (.int .i64 x5.Step)]) _ rfl ?_; refine Zo (.fp [.v (.int .i64 x5.Author), .v (.int .i64 x5.Seq), .fz (List.map (encI .i64) x5.Causes), .v (.int .i64 x5.Kind), .v (.int .i64 x5.Group), .v (.int .i64 x5.Target), .v (.int .i64 x5.Quote), .v (.int .i64 x5.Who), .v (.int .i64 x5.N), .v (.string x5.Text), .fz (List.map (encI .i64) x5.Files), .v (.int .i64 x5.Step)]) rfl rfl ?_; refine Zpb 8 rfl ?_; cases h; cases hG; exact ⟨rfl, trivial⟩
        · refine Zcc 7 rfl ?_; refine A.condB rfl h (fun _ h => ?_) (fun _ h => ?_)
          · refine Zcc 2 rfl ?_; refine A.condB rfl h (fun _ h => ?_) (fun _ h => ?_)
            · refine Zcb 8 rfl ?_; cases h; cases hG; exact ⟨rfl, trivial⟩
            · refine Zcb 9 rfl ?_; cases h; cases hG; exact ⟨rfl, trivial⟩
          · refine Zcc 6 rfl ?_; refine A.condB rfl h (fun _ h => ?_) (fun _ h => ?_)
            · refine Zcc 2 rfl ?_; refine A.condB rfl h (fun _ h => ?_) (fun _ h => ?_)
              · refine Zcb 8 rfl ?_; cases h; cases hG; exact ⟨rfl, trivial⟩
              · refine Zcb 9 rfl ?_; cases h; cases hG; exact ⟨rfl, trivial⟩
            · refine Zcc 5 rfl ?_; refine A.condB rfl h (fun _ h => ?_) (fun _ h => ?_)
              · refine Zcb 8 rfl ?_; cases h; cases hG; exact ⟨rfl, trivial⟩
              · refine Zcb 9 rfl ?_; cases h; cases hG; exact ⟨rfl, trivial⟩
noncomputable def ref16_put_L1 (l_ : (List Arr2_Int)) (a_ : Int) (n_ : Int) (s9 : Bool × Int × (List Arr2_Int)) : Option ((Bool × Int × (List Arr2_Int)) ⊕ ((Bool × (List Arr2_Int)) ⊕ ((List Arr2_Int)))) :=
  (bif (decide (s9.2.1 < (l_.length : Int))) then
    (seqF (A := Unit) (
      (getI l_ s9.2.1).bind fun x178 =>
      (bif (x178.a0 == a_) then
        (bif (x178.a1 == n_) then
          some (.inr (.inl (s9.1, (IntKind.i64.wrap (s9.2.1 + (1 : Int))), s9.2.2)))
        else
          some (.inl ()))
      else
        some (.inl ())))
    fun s15 =>
      (bif (!s9.1) then
        (getI l_ s9.2.1).bind fun x184 =>
        (bif (decide (a_ < x184.a0)) then
          (chkO (decide (s9.2.2.length + [(Arr2_Int.mk a_ n_)].length ≤ 1000000))).bind fun _ =>
          (chkO (decide ((s9.2.2 ++ [(Arr2_Int.mk a_ n_)]).length + [x184].length ≤ 1000000))).bind fun _ =>
          some (.inl (true, (IntKind.i64.wrap (s9.2.1 + (1 : Int))), ((s9.2.2 ++ [(Arr2_Int.mk a_ n_)]) ++ [x184])))
        else
          (bif (x184.a0 == a_) then
            (bif (decide (n_ < x184.a1)) then
              (chkO (decide (s9.2.2.length + [(Arr2_Int.mk a_ n_)].length ≤ 1000000))).bind fun _ =>
              (chkO (decide ((s9.2.2 ++ [(Arr2_Int.mk a_ n_)]).length + [x184].length ≤ 1000000))).bind fun _ =>
              some (.inl (true, (IntKind.i64.wrap (s9.2.1 + (1 : Int))), ((s9.2.2 ++ [(Arr2_Int.mk a_ n_)]) ++ [x184])))
            else
              (chkO (decide (s9.2.2.length + [x184].length ≤ 1000000))).bind fun _ =>
              some (.inl (s9.1, (IntKind.i64.wrap (s9.2.1 + (1 : Int))), (s9.2.2 ++ [x184]))))
          else
            (chkO (decide (s9.2.2.length + [x184].length ≤ 1000000))).bind fun _ =>
            some (.inl (s9.1, (IntKind.i64.wrap (s9.2.1 + (1 : Int))), (s9.2.2 ++ [x184])))))
      else
        (getI l_ s9.2.1).bind fun x191 =>
        (chkO (decide (s9.2.2.length + [x191].length ≤ 1000000))).bind fun _ =>
        some (.inl (s9.1, (IntKind.i64.wrap (s9.2.1 + (1 : Int))), (s9.2.2 ++ [x191])))))
  else
    some (.inr (.inl (s9.1, s9.2.2))))
noncomputable def ref16_put (l_ : (List Arr2_Int)) (a_ : Int) (n_ : Int) (in_ : Bool) : Option ((List Arr2_Int)) :=
  (seqF (A := Bool × (List Arr2_Int)) (
    loopF (ref16_put_L1 l_ a_ n_) ((!in_), (0 : Int), ([] : List Arr2_Int)))
  fun s8 =>
    (bif (!s8.1) then
      (chkO (decide (s8.2.length + [(Arr2_Int.mk a_ n_)].length ≤ 1000000))).bind fun _ =>
      some (s8.2 ++ [(Arr2_Int.mk a_ n_)])
    else
      some s8.2))
theorem ref16_put_fn {dr : Prop} {l_ : (List Arr2_Int)} {a_ : Int} {n_ : Int} {in_ : Bool} {r : (List Arr2_Int)} (h : ref16_put l_ a_ n_ in_ = some r) : Fn dr Try.prog 47 [VF (List.map Arr2_Int.enc l_), VI a_, VI n_, VB in_] (.ow 2 (List.map Arr2_Int.enc r)) := by
  refine Fn.of_AW (dr := dr) (F := FnX dr Try.prog) (base := 0) (js := [7, 11]) mixed tok noeqs (fun _ _ _ h => h) Try.call47 Try.func47 rfl Try.ntmps47 (by rw [Try.results47]) (by simp) ?_; have hG : (fun x => x = r) r := rfl; unfold ref16_put at h; refine Zap 2 rfl ?_; refine Zm (.row 8 1 0) (Mem.add _ 8 (.rows 2 (List.map Arr2_Int.enc ([] : List Arr2_Int)) false)) rfl rfl ?_; refine Zpp 4 rfl ?_; refine Zm (.row 9 1 0) (Mem.add _ 9 (.rows 2 (List.map Arr2_Int.enc ([] : List Arr2_Int)) false)) rfl rfl ?_; refine Zpc 9 rfl ?_; refine A.join (fun (s8 : Bool × (List Arr2_Int)) => [(1, VI a_), (2, VI n_), (9, .row 900000 1 s8.2.length), (10, VB s8.1)]) (fun s8 => [(900000, .rows 2 (List.map Arr2_Int.enc s8.2) false)]) _ h hG rfl ?_ ?_
  · intro J f h hG; refine Zac 6 rfl ?_; refine A.loop (fun (s9 : Bool × Int × (List Arr2_Int)) => [(0, VF (List.map Arr2_Int.enc l_)), (1, VI a_), (2, VI n_), (9, .row 900000 1 s9.2.2.length), (10, VB s9.1), (11, VI s9.2.1)]) (fun s9 => [(900000, .rows 2 (List.map Arr2_Int.enc s9.2.2) false)]) _ h hG (Zf [] [(900000, (9, 1))] rfl rfl (Ze rfl rfl (Ze rfl rfl (Ze rfl rfl (Ze rfl rfl (Ze rfl rfl (Ze rfl rfl trivial)))))) (Zc rfl rfl trivial)) ?_; intro J s9 f h hG; unfold ref16_put_L1 at h; refine Zap 5 rfl ?_; refine Y1 rfl ?_; refine W.len rfl ?_; refine Zpc 3 rfl ?_; refine A.condB rfl h (fun _ h => ?_) (fun _ h => ?_)
    · refine Zcc 4 rfl ?_; refine A.join (fun (s15 : Unit) => [(0, VF (List.map Arr2_Int.enc l_)), (1, VI a_), (2, VI n_), (9, .row 900000 1 s9.2.2.length), (10, VB s9.1), (11, VI s9.2.1)]) (fun s15 => [(900000, .rows 2 (List.map Arr2_Int.enc s9.2.2) false)]) _ h hG rfl ?_ ?_
      · intro J f h hG; refine Zap 4 rfl ?_; refine Y1 rfl ?_; refine bindK h fun x178 hx178 h => ?_; refine W.chk rfl (elemB hx178) ?_; refine W.elem rfl (elemG hx178) ?_; refine W.chk rfl rfl ?_; refine W.det (.fp [.v (.int .i64 x178.a0), .v (.int .i64 x178.a1)]) _ rfl ?_; refine Y1 rfl ?_; refine W.chk rfl (by decide) ?_; refine W.det (.fp [.v (.int .i64 x178.a0), .v (.int .i64 x178.a1)]) _ rfl ?_; refine Zpp 4 rfl ?_; refine YT rfl rfl rfl h (fun _ h => ?_) (fun _ h => ?_)
        · refine Zwp 2 rfl ?_; refine Y2 rfl rfl rfl ?_; refine W.chk rfl (elemB hx178) ?_; refine W.elem rfl (elemG hx178) ?_; refine W.chk rfl rfl ?_; refine W.det (.fp [.v (.int .i64 x178.a0), .v (.int .i64 x178.a1)]) _ rfl ?_; refine Y2 rfl rfl rfl ?_; refine W.chk rfl (by decide) ?_; refine W.det (.fp [.v (.int .i64 x178.a1)]) _ rfl ?_; refine Zpc 6 rfl ?_; refine A.condB rfl h (fun _ h => ?_) (fun _ h => ?_)
          · refine Zcb 1 rfl ?_; refine headK.e ?_; refine Zob 7 rfl ?_; cases h; exact Zh hG [] [(900000, (900000, 1))] rfl rfl (Ze rfl rfl (Ze rfl rfl (Ze rfl rfl (Ze rfl rfl (Ze rfl rfl (Ze rfl rfl trivial)))))) (Zc rfl rfl trivial)
          · refine Zcb 1 rfl ?_; cases h; exact Zh hG [] [(900000, (900000, 1))] rfl rfl (Ze rfl rfl (Ze rfl rfl (Ze rfl rfl (Ze rfl rfl (Ze rfl rfl (Ze rfl rfl trivial)))))) (Zc rfl rfl trivial)
        · refine Zpb 11 rfl ?_; cases h; exact Zh hG [] [(900000, (900000, 1))] rfl rfl (Ze rfl rfl (Ze rfl rfl (Ze rfl rfl (Ze rfl rfl (Ze rfl rfl (Ze rfl rfl trivial)))))) (Zc rfl rfl trivial)
      · intro s15 r2 h hG; refine Zcp 6 rfl ?_; refine YT rfl rfl rfl h (fun _ h => ?_) (fun _ h => ?_)
        · refine Zwp 2 rfl ?_; refine Y2 rfl rfl rfl ?_; refine bindK h fun x184 hx184 h => ?_; refine W.chk rfl (elemB hx184) ?_; refine W.elem rfl (elemG hx184) ?_; refine W.chk rfl rfl ?_; refine W.det (.fp [.v (.int .i64 x184.a0), .v (.int .i64 x184.a1)]) _ rfl ?_; refine Y2 rfl rfl rfl ?_; refine W.chk rfl (by decide) ?_; refine W.det (.fp [.v (.int .i64 x184.a0), .v (.int .i64 x184.a1)]) _ rfl ?_; refine Zpp 4 rfl ?_; refine YF rfl rfl rfl h (fun _ h => ?_) (fun _ h => ?_)
          · refine Zpp 22 rfl ?_; refine Zo (.row 900000 1 s9.2.2.length) rfl rfl ?_; refine Zpp 2 rfl ?_; refine Zo (.agg [VI a_, VI n_]) rfl rfl ?_; refine Zm (.row 69 2 1) (Mem.add _ 69 (.rows 2 (List.map Arr2_Int.enc [(Arr2_Int.mk a_ n_)]) false)) rfl rfl ?_; refine Y1 rfl ?_; refine chkK h fun g185 h => ?_; refine W.chk rfl (appChk (fun _ => rfl) g185) ?_; refine W.app rfl rfl ?_; refine Zo (.row 900000 2 (s9.2.2 ++ [(Arr2_Int.mk a_ n_)]).length) rfl rfl ?_; refine Zpp 7 rfl ?_; refine Zo (.row 900000 2 (s9.2.2 ++ [(Arr2_Int.mk a_ n_)]).length) rfl rfl ?_; refine Zpp 2 rfl ?_; refine Y1 rfl ?_; refine W.chk rfl (elemB hx184) ?_; refine W.elem rfl (elemG hx184) ?_; refine W.chk rfl rfl ?_; refine W.det (.fp [.v (.int .i64 x184.a0), .v (.int .i64 x184.a1)]) _ rfl ?_; refine Zo (.agg (Arr2_Int.av x184)) rfl rfl ?_; refine Zm (.row 76 2 1) (Mem.add _ 76 (.rows 2 (List.map Arr2_Int.enc [x184]) false)) rfl rfl ?_; refine Y1 rfl ?_; refine chkK h fun g186 h => ?_; refine W.chk rfl (appChk (fun _ => rfl) g186) ?_; refine W.app rfl rfl ?_; refine Zo (.row 900000 3 ((s9.2.2 ++ [(Arr2_Int.mk a_ n_)]) ++ [x184]).length) rfl rfl ?_; refine Zpb 8 rfl ?_; cases h; exact Zh hG [] [(900000, (900000, 3))] rfl rfl (Ze rfl rfl (Ze rfl rfl (Ze rfl rfl (Ze rfl rfl (Ze rfl rfl (Ze rfl rfl trivial)))))) (Zc rfl rfl trivial)
          · refine Zwp 2 rfl ?_; refine Y2 rfl rfl rfl ?_; refine W.chk rfl (elemB hx184) ?_; refine W.elem rfl (elemG hx184) ?_; refine W.chk rfl rfl ?_; refine W.det (.fp [.v (.int .i64 x184.a0), .v (.int .i64 x184.a1)]) _ rfl ?_; refine Y2 rfl rfl rfl ?_; refine W.chk rfl (by decide) ?_; refine W.det (.fp [.v (.int .i64 x184.a0), .v (.int .i64 x184.a1)]) _ rfl ?_; refine Zpp 4 rfl ?_; refine YT rfl rfl rfl h (fun _ h => ?_) (fun _ h => ?_)
            · refine Zwp 2 rfl ?_; refine Y2 rfl rfl rfl ?_; refine W.chk rfl (elemB hx184) ?_; refine W.elem rfl (elemG hx184) ?_; refine W.chk rfl rfl ?_; refine W.det (.fp [.v (.int .i64 x184.a0), .v (.int .i64 x184.a1)]) _ rfl ?_; refine Y2 rfl rfl rfl ?_; refine W.chk rfl (by decide) ?_; refine W.det (.fp [.v (.int .i64 x184.a1)]) _ rfl ?_; refine Zpc 8 rfl ?_; refine A.condB rfl h (fun _ h => ?_) (fun _ h => ?_)
              · refine Zcp 2 rfl ?_; refine Zo (.row 900000 1 s9.2.2.length) rfl rfl ?_; refine Zpp 2 rfl ?_; refine Zo (.agg [VI a_, VI n_]) rfl rfl ?_; refine Zm (.row 69 2 1) (Mem.add _ 69 (.rows 2 (List.map Arr2_Int.enc [(Arr2_Int.mk a_ n_)]) false)) rfl rfl ?_; refine Y1 rfl ?_; refine chkK h fun g187 h => ?_; refine W.chk rfl (appChk (fun _ => rfl) g187) ?_; refine W.app rfl rfl ?_; refine Zo (.row 900000 2 (s9.2.2 ++ [(Arr2_Int.mk a_ n_)]).length) rfl rfl ?_; refine Zpp 7 rfl ?_; refine Zo (.row 900000 2 (s9.2.2 ++ [(Arr2_Int.mk a_ n_)]).length) rfl rfl ?_; refine Zpp 2 rfl ?_; refine Y1 rfl ?_; refine W.chk rfl (elemB hx184) ?_; refine W.elem rfl (elemG hx184) ?_; refine W.chk rfl rfl ?_; refine W.det (.fp [.v (.int .i64 x184.a0), .v (.int .i64 x184.a1)]) _ rfl ?_; refine Zo (.agg (Arr2_Int.av x184)) rfl rfl ?_; refine Zm (.row 76 2 1) (Mem.add _ 76 (.rows 2 (List.map Arr2_Int.enc [x184]) false)) rfl rfl ?_; refine Y1 rfl ?_; refine chkK h fun g188 h => ?_; refine W.chk rfl (appChk (fun _ => rfl) g188) ?_; refine W.app rfl rfl ?_; refine Zo (.row 900000 3 ((s9.2.2 ++ [(Arr2_Int.mk a_ n_)]) ++ [x184]).length) rfl rfl ?_; refine Zpb 8 rfl ?_; cases h; exact Zh hG [] [(900000, (900000, 3))] rfl rfl (Ze rfl rfl (Ze rfl rfl (Ze rfl rfl (Ze rfl rfl (Ze rfl rfl (Ze rfl rfl trivial)))))) (Zc rfl rfl trivial)
              · refine Zcp 3 rfl ?_; refine Zo (.row 900000 1 s9.2.2.length) rfl rfl ?_; refine Zpp 2 rfl ?_; refine Y1 rfl ?_; refine W.chk rfl (elemB hx184) ?_; refine W.elem rfl (elemG hx184) ?_; refine W.chk rfl rfl ?_; refine W.det (.fp [.v (.int .i64 x184.a0), .v (.int .i64 x184.a1)]) _ rfl ?_; refine Zo (.agg (Arr2_Int.av x184)) rfl rfl ?_; refine Zm (.row 76 2 1) (Mem.add _ 76 (.rows 2 (List.map Arr2_Int.enc [x184]) false)) rfl rfl ?_; refine Y1 rfl ?_; refine chkK h fun g189 h => ?_; refine W.chk rfl (appChk (fun _ => rfl) g189) ?_; refine W.app rfl rfl ?_; refine Zo (.row 900000 2 (s9.2.2 ++ [x184]).length) rfl rfl ?_; refine Zpb 8 rfl ?_; cases h; exact Zh hG [] [(900000, (900000, 2))] rfl rfl (Ze rfl rfl (Ze rfl rfl (Ze rfl rfl (Ze rfl rfl (Ze rfl rfl (Ze rfl rfl trivial)))))) (Zc rfl rfl trivial)
            · refine Zpp 15 rfl ?_; refine Zo (.row 900000 1 s9.2.2.length) rfl rfl ?_; refine Zpp 2 rfl ?_; refine Y1 rfl ?_; refine W.chk rfl (elemB hx184) ?_; refine W.elem rfl (elemG hx184) ?_; refine W.chk rfl rfl ?_; refine W.det (.fp [.v (.int .i64 x184.a0), .v (.int .i64 x184.a1)]) _ rfl ?_; refine Zo (.agg (Arr2_Int.av x184)) rfl rfl ?_; refine Zm (.row 76 2 1) (Mem.add _ 76 (.rows 2 (List.map Arr2_Int.enc [x184]) false)) rfl rfl ?_; refine Y1 rfl ?_; refine chkK h fun g190 h => ?_; refine W.chk rfl (appChk (fun _ => rfl) g190) ?_; refine W.app rfl rfl ?_; refine Zo (.row 900000 2 (s9.2.2 ++ [x184]).length) rfl rfl ?_; refine Zpb 8 rfl ?_; cases h; exact Zh hG [] [(900000, (900000, 2))] rfl rfl (Ze rfl rfl (Ze rfl rfl (Ze rfl rfl (Ze rfl rfl (Ze rfl rfl (Ze rfl rfl trivial)))))) (Zc rfl rfl trivial)
        · refine Zpp 31 rfl ?_; refine Zo (.row 900000 1 s9.2.2.length) rfl rfl ?_; refine Zpp 2 rfl ?_; refine Y1 rfl ?_; refine bindK h fun x191 hx191 h => ?_; refine W.chk rfl (elemB hx191) ?_; refine W.elem rfl (elemG hx191) ?_; refine W.chk rfl rfl ?_; refine W.det (.fp [.v (.int .i64 x191.a0), .v (.int .i64 x191.a1)]) _ rfl ?_; refine Zo (.agg (Arr2_Int.av x191)) rfl rfl ?_; refine Zm (.row 76 2 1) (Mem.add _ 76 (.rows 2 (List.map Arr2_Int.enc [x191]) false)) rfl rfl ?_; refine Y1 rfl ?_; refine chkK h fun g192 h => ?_; refine W.chk rfl (appChk (fun _ => rfl) g192) ?_; refine W.app rfl rfl ?_; refine Zo (.row 900000 2 (s9.2.2 ++ [x191]).length) rfl rfl ?_; refine Zpb 8 rfl ?_; cases h; exact Zh hG [] [(900000, (900000, 2))] rfl rfl (Ze rfl rfl (Ze rfl rfl (Ze rfl rfl (Ze rfl rfl (Ze rfl rfl (Ze rfl rfl trivial)))))) (Zc rfl rfl trivial)
    · refine Zcb 2 rfl ?_; refine headK.e ?_; refine Zob 1 rfl ?_; cases h; exact Zh hG [] [(900000, (900000, 1))] rfl rfl (Ze rfl rfl (Ze rfl rfl (Ze rfl rfl (Ze rfl rfl trivial)))) (Zc rfl rfl trivial)
  · intro s8 r2 h hG; refine Zcc 7 rfl ?_; refine A.condB rfl h (fun _ h => ?_) (fun _ h => ?_)
    · refine Zcp 1 rfl ?_; refine Zo (.row 900000 1 s8.2.length) rfl rfl ?_; refine Zpp 2 rfl ?_; refine Zo (.agg [VI a_, VI n_]) rfl rfl ?_; refine Zm (.row 84 2 1) (Mem.add _ 84 (.rows 2 (List.map Arr2_Int.enc [(Arr2_Int.mk a_ n_)]) false)) rfl rfl ?_; refine Y1 rfl ?_; refine chkK h fun g194 h => ?_; refine W.chk rfl (appChk (fun _ => rfl) g194) ?_; refine W.app rfl rfl ?_; refine Zo (.row 900000 2 (s8.2 ++ [(Arr2_Int.mk a_ n_)]).length) rfl rfl ?_; refine Zpp 4 rfl ?_; refine Zo (.row 900000 2 (s8.2 ++ [(Arr2_Int.mk a_ n_)]).length) rfl rfl ?_; refine Zo (.row 900000 2 (s8.2 ++ [(Arr2_Int.mk a_ n_)]).length) rfl rfl ?_; refine Zpb 3 rfl ?_; cases h; cases hG; exact ⟨rfl, rfl, trivial⟩
    · refine Zcp 4 rfl ?_; refine Zo (.row 900000 1 s8.2.length) rfl rfl ?_; refine Zo (.row 900000 1 s8.2.length) rfl rfl ?_; refine Zpb 3 rfl ?_; cases h; cases hG; exact ⟨rfl, rfl, trivial⟩
noncomputable def ref16_one_L1 (events_ : (List api_Event)) (id_ : Int) (s3 : (List Int) × Int × ByteArray × Int × Bool × (List Arr2_Int)) : Option (((List Int) × Int × ByteArray × Int × Bool × (List Arr2_Int)) ⊕ (((List Int) × ByteArray × Int × Bool × (List Arr2_Int)) ⊕ (api_Msg))) :=
  (bif (decide (s3.2.1 < (events_.length : Int))) then
    (ref16_Act events_ id_ s3.2.1).bind fun y48 =>
    (bif (!y48) then
      some (.inl (s3.1, (IntKind.i64.wrap (s3.2.1 + (1 : Int))), s3.2.2.1, s3.2.2.2.1, s3.2.2.2.2.1, s3.2.2.2.2.2))
    else
      (getI events_ s3.2.1).bind fun x49 =>
      (bif (x49.Kind == (1 : Int)) then
        some (.inl (x49.Files, (IntKind.i64.wrap (s3.2.1 + (1 : Int))), x49.Text, (IntKind.i64.wrap (s3.2.2.2.1 + (1 : Int))), s3.2.2.2.2.1, s3.2.2.2.2.2))
      else
        (bif (x49.Kind == (2 : Int)) then
          some (.inl (s3.1, (IntKind.i64.wrap (s3.2.1 + (1 : Int))), s3.2.2.1, s3.2.2.2.1, true, s3.2.2.2.2.2))
        else
          (ref16_put s3.2.2.2.2.2 x49.Author x49.N (x49.Kind == (3 : Int))).bind fun y50 =>
          some (.inl (s3.1, (IntKind.i64.wrap (s3.2.1 + (1 : Int))), s3.2.2.1, s3.2.2.2.1, s3.2.2.2.2.1, y50)))))
  else
    some (.inr (.inl (s3.1, s3.2.2.1, s3.2.2.2.1, s3.2.2.2.2.1, s3.2.2.2.2.2))))
noncomputable def ref16_one (events_ : (List api_Event)) (id_ : Int) : Option (api_Msg) :=
  (getI events_ id_).bind fun x1 =>
  (ref16_Parent events_ id_).bind fun y2 =>
  (seqF (A := (List Int) × ByteArray × Int × Bool × (List Arr2_Int)) (
    loopF (ref16_one_L1 events_ id_) (x1.Files, (IntKind.i64.wrap (id_ + (1 : Int))), x1.Text, (0 : Int), false, ([] : List Arr2_Int)))
  fun s2 =>
    (bif s2.2.2.2.1 then
      some (api_Msg.mk id_ x1.Author x1.Group y2 x1.Quote x1.Who (ByteArray.mk #[]) ([] : List Int) (0 : Int) ([] : List Arr2_Int) s2.2.2.2.1)
    else
      (chkO (decide (0 + s2.1.length ≤ 1000000))).bind fun _ =>
      some (api_Msg.mk id_ x1.Author x1.Group y2 x1.Quote x1.Who s2.2.1 (([] : List Int) ++ s2.1) s2.2.2.1 s2.2.2.2.2 s2.2.2.2.1)))
theorem ref16_one_fn {dr : Prop} {events_ : (List api_Event)} {id_ : Int} {r : api_Msg} (h : ref16_one events_ id_ = some r) : Fn dr Try.prog 35 [VF (List.map api_Event.enc events_), VI id_] (.agg [VI r.Id, VI r.Author, VI r.Group, VI r.Parent, VI r.Quote, VI r.Who, VS r.Text, .ow 1 (List.map (encI .i64) r.Files), VI r.Edits, .ow 2 (List.map Arr2_Int.enc r.Reacts), VB r.Gone]) := by
  refine Fn.of_AW (dr := dr) (F := FnX dr Try.prog) (base := 0) (js := [17]) mixed tok noeqs (fun _ _ _ h => h) Try.call35 Try.func35 rfl Try.ntmps35 (by rw [Try.results35]) (by simp) ?_; have hG : (fun x => x = r) r := rfl; unfold ref16_one at h; refine Zap 2 rfl ?_; refine Zm (.lp 4 1 0) (Mem.add (Mem.add (Mem.add _ 524292 (.rows 1 (List.map (encI .i64) ([] : List Int)) false)) 655364 (.rows 2 (List.map Arr2_Int.enc ([] : List Arr2_Int)) false)) 4 (.box [VI 0, VI 0, VI 0, VI 0, VI 0, VI 0, VS (ByteArray.mk #[]), .row 524292 1 0, VI 0, .row 655364 1 0, VB false])) rfl rfl ?_; refine Zpp 6 rfl ?_; refine Y1 rfl ?_; refine bindK h fun x1 hx1 h => ?_; refine W.chk rfl (elemB hx1) ?_; refine W.elem rfl (elemG hx1) ?_; refine W.chk rfl rfl ?_; refine W.det (.fp [.v (.int .i64 x1.Author), .v (.int .i64 x1.Seq), .fz (List.map (encI .i64) x1.Causes), .v (.int .i64 x1.Kind), .v (.int .i64 x1.Group), .v (.int .i64 x1.Target), .v (.int .i64 x1.Quote), .v (.int .i64 x1.Who), .v (.int .i64 x1.N), .v (.string x1.Text), .fz (List.map (encI .i64) x1.Files), .v (.int .i64 x1.Step)]) _ rfl ?_; refine Zo (.agg (api_Event.av x1)) rfl rfl ?_; refine Zm (.lp 5 1 0) (Mem.add (Mem.add (Mem.add _ 196613 (.rows 1 (List.map (encI .i64) ([] : List Int)) false)) 720901 (.rows 1 (List.map (encI .i64) ([] : List Int)) false)) 5 (.box [VI 0, VI 0, .row 196613 1 0, VI 0, VI 0, VI 0, VI 0, VI 0, VI 0, VS (ByteArray.mk #[]), .row 720901 1 0, VI 0])) rfl rfl ?_; refine Zm (.tup []) (Mem.set _ 5 1 (some (.box (api_Event.av x1)))) rfl rfl ?_; refine Zpc 3 rfl ?_; refine A.regionD (by kernel_rfl) ?_; refine Zpp 7 rfl ?_; refine Y1 rfl ?_; refine bindK h fun y2 hy2 h => ?_; refine W.call rfl (ref16_Parent_fn hy2) ?_; refine Zwp 7 rfl ?_; refine Zo (.agg [VI id_, VI x1.Author, VI x1.Group, VI y2, VI x1.Quote, VI x1.Who, VS x1.Text, .nl, VI 0, .nl, VB false]) rfl rfl ?_; refine Zm (.lp 6 1 0) (Mem.add (Mem.add (Mem.add _ 524294 (.rows 1 (List.map (encI .i64) ([] : List Int)) false)) 655366 (.rows 2 (List.map Arr2_Int.enc ([] : List Arr2_Int)) false)) 6 (.box [VI 0, VI 0, VI 0, VI 0, VI 0, VI 0, VS (ByteArray.mk #[]), .row 524294 1 0, VI 0, .row 655366 1 0, VB false])) rfl rfl ?_; refine Zm (.tup []) (Mem.set (Mem.add (Mem.add _ 1572870 (.rows 1 (List.map (encI .i64) ([] : List Int)) false)) 1703942 (.rows 2 (List.map Arr2_Int.enc ([] : List Arr2_Int)) false)) 6 1 (some (.box [VI id_, VI x1.Author, VI x1.Group, VI y2, VI x1.Quote, VI x1.Who, VS x1.Text, .row 1572870 1 0, VI 0, .row 1703942 1 0, VB false]))) rfl rfl ?_; refine Zpc 9 rfl ?_; refine A.join (fun (s2 : (List Int) × ByteArray × Int × Bool × (List Arr2_Int)) => [(4, .lp 900000 1 0), (6, .lp 900001 1 0), (7, VF (List.map (encI .i64) s2.1))]) (fun s2 => [(900000, .box [VI 0, VI 0, VI 0, VI 0, VI 0, VI 0, VS (ByteArray.mk #[]), .row 900002 1 ([] : List Int).length, VI 0, .row 900003 1 ([] : List Arr2_Int).length, VB false]), (900001, .box [VI id_, VI x1.Author, VI x1.Group, VI y2, VI x1.Quote, VI x1.Who, VS s2.2.1, .row 900004 1 ([] : List Int).length, VI s2.2.2.1, .row 900005 1 s2.2.2.2.2.length, VB s2.2.2.2.1]), (900002, .rows 1 (List.map (encI .i64) ([] : List Int)) false), (900003, .rows 2 (List.map Arr2_Int.enc ([] : List Arr2_Int)) false), (900004, .rows 1 (List.map (encI .i64) ([] : List Int)) false), (900005, .rows 2 (List.map Arr2_Int.enc s2.2.2.2.2) false)]) _ h hG rfl ?_ ?_
  · intro J f h hG; refine Zac 8 rfl ?_; refine A.loop (fun (s3 : (List Int) × Int × ByteArray × Int × Bool × (List Arr2_Int)) => [(0, VF (List.map api_Event.enc events_)), (1, VI id_), (4, .lp 900000 1 0), (6, .lp 900001 1 0), (7, VF (List.map (encI .i64) s3.1)), (8, VI s3.2.1)]) (fun s3 => [(900000, .box [VI 0, VI 0, VI 0, VI 0, VI 0, VI 0, VS (ByteArray.mk #[]), .row 900002 1 ([] : List Int).length, VI 0, .row 900003 1 ([] : List Arr2_Int).length, VB false]), (900001, .box [VI id_, VI x1.Author, VI x1.Group, VI y2, VI x1.Quote, VI x1.Who, VS s3.2.2.1, .row 900004 1 ([] : List Int).length, VI s3.2.2.2.1, .row 900005 1 s3.2.2.2.2.2.length, VB s3.2.2.2.2.1]), (900002, .rows 1 (List.map (encI .i64) ([] : List Int)) false), (900003, .rows 2 (List.map Arr2_Int.enc ([] : List Arr2_Int)) false), (900004, .rows 1 (List.map (encI .i64) ([] : List Int)) false), (900005, .rows 2 (List.map Arr2_Int.enc s3.2.2.2.2.2) false)]) _ h hG (Zf [] [(900000, (4, 1)), (900001, (6, 1)), (900002, (524292, 1)), (900003, (655364, 1)), (900004, (1572870, 1)), (900005, (1703942, 1))] rfl rfl (Ze rfl rfl (Ze rfl rfl (Ze rfl rfl (Ze rfl rfl (Ze rfl rfl (Ze rfl rfl trivial)))))) (Zc rfl rfl (Zc rfl rfl (Zc rfl rfl (Zc rfl rfl (Zc rfl rfl (Zc rfl rfl trivial))))))) ?_; intro J s3 f h hG; unfold ref16_one_L1 at h; refine Zap 5 rfl ?_; refine Y1 rfl ?_; refine W.len rfl ?_; refine Zpc 3 rfl ?_; refine A.condB rfl h (fun _ h => ?_) (fun _ h => ?_)
    · refine Zcp 10 rfl ?_; refine Y1 rfl ?_; refine bindK h fun y48 hy48 h => ?_; refine W.call rfl (ref16_Act_fn hy48) ?_; refine Zwc 4 rfl ?_; refine A.condB rfl h (fun _ h => ?_) (fun _ h => ?_)
      · refine Zcb 9 rfl ?_; cases h; exact Zh hG [] [(900000, (900000, 1)), (900001, (900001, 1)), (900002, (900002, 1)), (900003, (900003, 1)), (900004, (900004, 1)), (900005, (900005, 1))] rfl rfl (Ze rfl rfl (Ze rfl rfl (Ze rfl rfl (Ze rfl rfl (Ze rfl rfl (Ze rfl rfl trivial)))))) (Zc rfl rfl (Zc rfl rfl (Zc rfl rfl (Zc rfl rfl (Zc rfl rfl (Zc rfl rfl trivial))))))
      · refine Zcp 6 rfl ?_; refine Y1 rfl ?_; refine bindK h fun x49 hx49 h => ?_; refine W.chk rfl (elemB hx49) ?_; refine W.elem rfl (elemG hx49) ?_; refine W.chk rfl rfl ?_; refine W.det (.fp [.v (.int .i64 x49.Author), .v (.int .i64 x49.Seq), .fz (List.map (encI .i64) x49.Causes), .v (.int .i64 x49.Kind), .v (.int .i64 x49.Group), .v (.int .i64 x49.Target), .v (.int .i64 x49.Quote), .v (.int .i64 x49.Who), .v (.int .i64 x49.N), .v (.string x49.Text), .fz (List.map (encI .i64) x49.Files), .v (.int .i64 x49.Step)]) _ rfl ?_; refine Zo (.agg (api_Event.av x49)) rfl rfl ?_; refine Zm (.lp 9 2 0) (Mem.add (Mem.add (Mem.add _ 196617 (.rows 1 (List.map (encI .i64) ([] : List Int)) false)) 720905 (.rows 1 (List.map (encI .i64) ([] : List Int)) false)) 9 (.box [VI 0, VI 0, .row 196617 2 0, VI 0, VI 0, VI 0, VI 0, VI 0, VI 0, VS (ByteArray.mk #[]), .row 720905 2 0, VI 0])) rfl rfl ?_; refine Zm (.tup []) (Mem.set _ 9 2 (some (.box (api_Event.av x49)))) rfl rfl ?_; refine Zpc 15 rfl ?_; refine A.condB rfl h (fun _ h => ?_) (fun _ h => ?_)
        · refine Zcp 6 rfl ?_; refine Zm (.tup []) (Mem.set _ 900001 1 (some (.box [VI id_, VI x1.Author, VI x1.Group, VI y2, VI x1.Quote, VI x1.Who, VS s3.2.2.1, .row 900004 1 ([] : List Int).length, VI (IntKind.i64.wrap (s3.2.2.2.1 + (1 : Int))), .row 900005 1 s3.2.2.2.2.2.length, VB s3.2.2.2.2.1]))) rfl rfl ?_; refine Zpp 7 rfl ?_; refine Zm (.tup []) (Mem.set _ 900001 1 (some (.box [VI id_, VI x1.Author, VI x1.Group, VI y2, VI x1.Quote, VI x1.Who, VS x49.Text, .row 900004 1 ([] : List Int).length, VI (IntKind.i64.wrap (s3.2.2.2.1 + (1 : Int))), .row 900005 1 s3.2.2.2.2.2.length, VB s3.2.2.2.2.1]))) rfl rfl ?_; refine Zpb 15 rfl ?_; cases h; exact Zh hG [] [(900000, (900000, 1)), (900001, (900001, 1)), (900002, (900002, 1)), (900003, (900003, 1)), (900004, (900004, 1)), (900005, (900005, 1))] rfl rfl (Ze rfl rfl (Ze rfl rfl (Ze rfl rfl (Ze rfl rfl (Ze rfl rfl (Ze rfl rfl trivial)))))) (Zc rfl rfl (Zc rfl rfl (Zc rfl rfl (Zc rfl rfl (Zc rfl rfl (Zc rfl rfl trivial))))))
        · refine Zcc 6 rfl ?_; refine A.condB rfl h (fun _ h => ?_) (fun _ h => ?_)
          · refine Zcp 2 rfl ?_; refine Zm (.tup []) (Mem.set _ 900001 1 (some (.box [VI id_, VI x1.Author, VI x1.Group, VI y2, VI x1.Quote, VI x1.Who, VS s3.2.2.1, .row 900004 1 ([] : List Int).length, VI s3.2.2.2.1, .row 900005 1 s3.2.2.2.2.2.length, VB true]))) rfl rfl ?_; refine Zpb 9 rfl ?_; cases h; exact Zh hG [] [(900000, (900000, 1)), (900001, (900001, 1)), (900002, (900002, 1)), (900003, (900003, 1)), (900004, (900004, 1)), (900005, (900005, 1))] rfl rfl (Ze rfl rfl (Ze rfl rfl (Ze rfl rfl (Ze rfl rfl (Ze rfl rfl (Ze rfl rfl trivial)))))) (Zc rfl rfl (Zc rfl rfl (Zc rfl rfl (Zc rfl rfl (Zc rfl rfl (Zc rfl rfl trivial))))))
          · refine Zcp 2 rfl ?_; refine Zo (.row 900005 1 s3.2.2.2.2.2.length) rfl rfl ?_; refine Zpp 7 rfl ?_; refine Y1 rfl ?_; refine bindK h fun y50 hy50 h => ?_; refine W.call rfl (ref16_put_fn hy50) ?_; refine W.v (.row 59 2 (List.map Arr2_Int.enc y50).length) (.row 59 2 y50.length) (Mem.add (Mem.set _ 900005 1 (some (.rows 2 (List.map Arr2_Int.enc s3.2.2.2.2.2) true))) 59 (.rows 2 (List.map Arr2_Int.enc y50) false)) rfl (by simp only [List.length_map]) ?_; refine Zpp 1 rfl ?_; refine Zm (.tup []) (Mem.set _ 900001 1 (some (.box [VI id_, VI x1.Author, VI x1.Group, VI y2, VI x1.Quote, VI x1.Who, VS s3.2.2.1, .row 900004 1 ([] : List Int).length, VI s3.2.2.2.1, .row 59 2 y50.length, VB s3.2.2.2.2.1]))) rfl rfl ?_; refine Zpb 9 rfl ?_; cases h; exact Zh hG [] [(900000, (900000, 1)), (900001, (900001, 1)), (900002, (900002, 1)), (900003, (900003, 1)), (900004, (900004, 1)), (900005, (59, 2))] rfl rfl (Ze rfl rfl (Ze rfl rfl (Ze rfl rfl (Ze rfl rfl (Ze rfl rfl (Ze rfl rfl trivial)))))) (Zc rfl rfl (Zc rfl rfl (Zc rfl rfl (Zc rfl rfl (Zc rfl rfl (Zc rfl rfl trivial))))))
    · refine Zcb 2 rfl ?_; refine headK.e ?_; refine Zob 1 rfl ?_; cases h; exact Zh hG [] [(900000, (900000, 1)), (900001, (900001, 1)), (900002, (900002, 1)), (900003, (900003, 1)), (900004, (900004, 1)), (900005, (900005, 1))] rfl rfl (Ze rfl rfl (Ze rfl rfl (Ze rfl rfl trivial))) (Zc rfl rfl (Zc rfl rfl (Zc rfl rfl (Zc rfl rfl (Zc rfl rfl (Zc rfl rfl trivial))))))
  · intro s2 r2 h hG; refine Zcc 7 rfl ?_; refine A.condB rfl h (fun _ h => ?_) (fun _ h => ?_)
    · refine Zcp 3 rfl ?_; refine Zm (.tup []) (Mem.set _ 900001 1 (some (.box [VI id_, VI x1.Author, VI x1.Group, VI y2, VI x1.Quote, VI x1.Who, VS s2.2.1, .row 900004 1 ([] : List Int).length, VI 0, .row 900005 1 s2.2.2.2.2.length, VB s2.2.2.2.1]))) rfl rfl ?_; refine Zpp 5 rfl ?_; refine Zm (.tup []) (Mem.set _ 900001 1 (some (.box [VI id_, VI x1.Author, VI x1.Group, VI y2, VI x1.Quote, VI x1.Who, VS (ByteArray.mk #[]), .row 900004 1 ([] : List Int).length, VI 0, .row 900005 1 s2.2.2.2.2.length, VB s2.2.2.2.1]))) rfl rfl ?_; refine Zpp 5 rfl ?_; refine Zm (.tup []) (Mem.set (Mem.add _ 11451297 (.rows 2 (List.map Arr2_Int.enc ([] : List Arr2_Int)) false)) 900001 1 (some (.box [VI id_, VI x1.Author, VI x1.Group, VI y2, VI x1.Quote, VI x1.Who, VS (ByteArray.mk #[]), .row 900004 1 ([] : List Int).length, VI 0, .row 11451297 2 0, VB s2.2.2.2.1]))) rfl rfl ?_; refine Zpp 4 rfl ?_; refine Zo (.agg [VI id_, VI x1.Author, VI x1.Group, VI y2, VI x1.Quote, VI x1.Who, VS (ByteArray.mk #[]), .row 900004 1 ([] : List Int).length, VI 0, .row 11451297 2 0, VB s2.2.2.2.1]) rfl rfl ?_; refine Zm (.tup []) (Mem.set _ 900000 1 (some (.box [VI id_, VI x1.Author, VI x1.Group, VI y2, VI x1.Quote, VI x1.Who, VS (ByteArray.mk #[]), .row 900004 1 ([] : List Int).length, VI 0, .row 11451297 2 0, VB s2.2.2.2.1]))) rfl rfl ?_; refine Zpb 4 rfl ?_; cases h; cases hG; exact ⟨rfl, rfl, rfl, rfl, rfl, rfl, rfl, rfl, rfl, rfl, rfl, rfl, rfl, trivial⟩
    · refine Zcp 4 rfl ?_; refine Zm (.row 81 2 0) (Mem.add _ 81 (.rows 1 (List.map (encI .i64) ([] : List Int)) false)) rfl rfl ?_; refine Zpp 1 rfl ?_; refine Y1 rfl ?_; refine chkK h fun g51 h => ?_; refine W.chk rfl (appChk (fun _ => rfl) g51) ?_; refine W.rows (0 + (List.map (encI .i64) s2.1).length) (([] : List Int) ++ s2.1).length ([] ++ (List.map (encI .i64) s2.1)) (List.map (encI .i64) (([] : List Int) ++ s2.1)) rfl (by first | rfl | (simp; done) | simp only [partMap, List.length_map, List.length_append, List.nil_append, Nat.zero_add, List.length_nil]) (by first | rfl | (simp; done) | simp only [partMap, List.map_append, List.nil_append, List.map_nil]) ?_; refine Zpp 1 rfl ?_; refine Zm (.tup []) (Mem.set _ 900001 1 (some (.box [VI id_, VI x1.Author, VI x1.Group, VI y2, VI x1.Quote, VI x1.Who, VS s2.2.1, .row 81 3 (([] : List Int) ++ s2.1).length, VI s2.2.2.1, .row 900005 1 s2.2.2.2.2.length, VB s2.2.2.2.1]))) rfl rfl ?_; refine Zpp 4 rfl ?_; refine Zo (.agg [VI id_, VI x1.Author, VI x1.Group, VI y2, VI x1.Quote, VI x1.Who, VS s2.2.1, .row 81 3 (([] : List Int) ++ s2.1).length, VI s2.2.2.1, .row 900005 1 s2.2.2.2.2.length, VB s2.2.2.2.1]) rfl rfl ?_; refine Zm (.tup []) (Mem.set _ 900000 1 (some (.box [VI id_, VI x1.Author, VI x1.Group, VI y2, VI x1.Quote, VI x1.Who, VS s2.2.1, .row 81 3 (([] : List Int) ++ s2.1).length, VI s2.2.2.1, .row 900005 1 s2.2.2.2.2.length, VB s2.2.2.2.1]))) rfl rfl ?_; refine Zpb 3 rfl ?_; cases h; cases hG; exact ⟨rfl, rfl, rfl, rfl, rfl, rfl, rfl, rfl, rfl, rfl, rfl, rfl, rfl, trivial⟩
noncomputable def ref16_View_L1 (events_ : (List api_Event)) (s3 : Int × (List api_Msg)) : Option ((Int × (List api_Msg)) ⊕ (((List api_Msg)) ⊕ ((List api_Msg)))) :=
  (bif (decide (s3.1 < (events_.length : Int))) then
    (getI events_ s3.1).bind fun x34 =>
    (bif (x34.Kind == (0 : Int)) then
      (ref16_one events_ s3.1).bind fun y35 =>
      (chkO (decide (s3.2.length + [y35].length ≤ 1000000))).bind fun _ =>
      some (.inl ((IntKind.i64.wrap (s3.1 + (1 : Int))), (s3.2 ++ [y35])))
    else
      some (.inl ((IntKind.i64.wrap (s3.1 + (1 : Int))), s3.2)))
  else
    some (.inr (.inl s3.2)))
noncomputable def ref16_View (events_ : (List api_Event)) : Option ((List api_Msg)) :=
  (seqF (A := (List api_Msg)) (
    loopF (ref16_View_L1 events_) ((0 : Int), ([] : List api_Msg)))
  fun s2 =>
    some s2)
theorem ref16_View_fn {dr : Prop} {events_ : (List api_Event)} {r : (List api_Msg)} (h : ref16_View events_ = some r) : Fn dr Try.prog 12 [VF (List.map api_Event.enc events_)] (.ow 11 (List.map api_Msg.enc r)) := by
  refine Fn.of_AW (dr := dr) (F := FnX dr Try.prog) (base := 0) (js := [7]) mixed tok noeqs (fun _ _ _ h => h) Try.call12 Try.func12 rfl Try.ntmps12 (by rw [Try.results12]) (by simp) ?_; have hG : (fun x => x = r) r := rfl; unfold ref16_View at h; refine Zap 2 rfl ?_; refine Zm (.row 2 1 0) (Mem.add _ 2 (.rows 11 (List.map api_Msg.enc ([] : List api_Msg)) false)) rfl rfl ?_; refine Zpp 4 rfl ?_; refine Zm (.row 3 1 0) (Mem.add _ 3 (.rows 11 (List.map api_Msg.enc ([] : List api_Msg)) false)) rfl rfl ?_; refine Zpc 2 rfl ?_; refine A.join (fun (s2 : (List api_Msg)) => [(3, .row 900000 1 s2.length)]) (fun s2 => [(900000, .rows 11 (List.map api_Msg.enc s2) false)]) _ h hG rfl ?_ ?_
  · intro J f h hG; refine Zac 6 rfl ?_; refine A.loop (fun (s3 : Int × (List api_Msg)) => [(0, VF (List.map api_Event.enc events_)), (3, .row 900000 1 s3.2.length), (4, VI s3.1)]) (fun s3 => [(900000, .rows 11 (List.map api_Msg.enc s3.2) false)]) _ h hG (Zf [] [(900000, (3, 1))] rfl rfl (Ze rfl rfl (Ze rfl rfl (Ze rfl rfl trivial))) (Zc rfl rfl trivial)) ?_; intro J s3 f h hG; unfold ref16_View_L1 at h; refine Zap 5 rfl ?_; refine Y1 rfl ?_; refine W.len rfl ?_; refine Zpc 3 rfl ?_; refine A.condB rfl h (fun _ h => ?_) (fun _ h => ?_)
    · refine Zcp 8 rfl ?_; refine Y1 rfl ?_; refine bindK h fun x34 hx34 h => ?_; refine W.chk rfl (elemB hx34) ?_; refine W.elem rfl (elemG hx34) ?_; refine W.chk rfl rfl ?_; refine W.det (.fp [.v (.int .i64 x34.Author), .v (.int .i64 x34.Seq), .fz (List.map (encI .i64) x34.Causes), .v (.int .i64 x34.Kind), .v (.int .i64 x34.Group), .v (.int .i64 x34.Target), .v (.int .i64 x34.Quote), .v (.int .i64 x34.Who), .v (.int .i64 x34.N), .v (.string x34.Text), .fz (List.map (encI .i64) x34.Files), .v (.int .i64 x34.Step)]) _ rfl ?_; refine Zo (.fp [.v (.int .i64 x34.Kind), .v (.int .i64 x34.Group), .v (.int .i64 x34.Target), .v (.int .i64 x34.Quote), .v (.int .i64 x34.Who), .v (.int .i64 x34.N), .v (.string x34.Text), .fz (List.map (encI .i64) x34.Files), .v (.int .i64 x34.Step)]) rfl rfl ?_; refine Zpc 4 rfl ?_; refine A.condB rfl h (fun _ h => ?_) (fun _ h => ?_)
      · refine Zcp 1 rfl ?_; refine Zo (.row 900000 1 s3.2.length) rfl rfl ?_; refine Zpp 2 rfl ?_; refine Y1 rfl ?_; refine bindK h fun y35 hy35 h => ?_; refine W.call rfl (ref16_one_fn hy35) ?_; refine W.v (.agg [VI y35.Id, VI y35.Author, VI y35.Group, VI y35.Parent, VI y35.Quote, VI y35.Who, VS y35.Text, .row 524308 2 (List.map (encI .i64) y35.Files).length, VI y35.Edits, .row 655380 2 (List.map Arr2_Int.enc y35.Reacts).length, VB y35.Gone]) (.agg [VI y35.Id, VI y35.Author, VI y35.Group, VI y35.Parent, VI y35.Quote, VI y35.Who, VS y35.Text, .row 524308 2 y35.Files.length, VI y35.Edits, .row 655380 2 y35.Reacts.length, VB y35.Gone]) (Mem.add (Mem.add _ 524308 (.rows 1 (List.map (encI .i64) y35.Files) false)) 655380 (.rows 2 (List.map Arr2_Int.enc y35.Reacts) false)) rfl (by simp only [List.length_map]) ?_; refine Zm (.row 21 2 1) (Mem.add (Mem.set (Mem.set _ 524308 2 (some (.rows 1 (List.map (encI .i64) y35.Files) true))) 655380 2 (some (.rows 2 (List.map Arr2_Int.enc y35.Reacts) true))) 21 (.rows 11 (List.map api_Msg.enc [y35]) false)) rfl rfl ?_; refine Y1 rfl ?_; refine chkK h fun g36 h => ?_; refine W.chk rfl (appChk (fun _ => rfl) g36) ?_; refine W.app rfl rfl ?_; refine Zo (.row 900000 2 (s3.2 ++ [y35]).length) rfl rfl ?_; refine Zpb 8 rfl ?_; cases h; exact Zh hG [] [(900000, (900000, 2))] rfl rfl (Ze rfl rfl (Ze rfl rfl (Ze rfl rfl trivial))) (Zc rfl rfl trivial)
      · refine Zcb 8 rfl ?_; cases h; exact Zh hG [] [(900000, (900000, 1))] rfl rfl (Ze rfl rfl (Ze rfl rfl (Ze rfl rfl trivial))) (Zc rfl rfl trivial)
    · refine Zcb 2 rfl ?_; refine headK.e ?_; refine Zob 1 rfl ?_; cases h; exact Zh hG [] [(900000, (900000, 1))] rfl rfl (Ze rfl rfl trivial) (Zc rfl rfl trivial)
  · intro s2 r2 h hG; refine Zcp 2 rfl ?_; refine Zo (.row 900000 1 s2.length) rfl rfl ?_; refine Zo (.row 900000 1 s2.length) rfl rfl ?_; refine Zpb 3 rfl ?_; cases h; cases hG; exact ⟨rfl, rfl, trivial⟩
noncomputable def ref16_Root_L1 (events_ : (List api_Event)) (s3 : Int × Int) : Option ((Int × Int) ⊕ ((Int) ⊕ (Int))) :=
  (bif (decide ((0 : Int) ≤ s3.2)) then
    (ref16_Parent events_ s3.2).bind fun y9 =>
    some (.inl (s3.2, y9))
  else
    some (.inr (.inl s3.1)))
noncomputable def ref16_Root (events_ : (List api_Event)) (id_ : Int) : Option (Int) :=
  (ref16_post events_ id_).bind fun y2 =>
  (bif (!y2) then
    some (-1 : Int)
  else
    (ref16_Parent events_ id_).bind fun y3 =>
    (seqF (A := Int) (
      loopF (ref16_Root_L1 events_) (id_, y3))
    fun s2 =>
      some s2))
theorem ref16_Root_fn {dr : Prop} {events_ : (List api_Event)} {id_ : Int} {r : Int} (h : ref16_Root events_ id_ = some r) : Fn dr Try.prog 14 [VF (List.map api_Event.enc events_), VI id_] (VI r) := by
  refine Fn.of_AW (dr := dr) (F := FnX dr Try.prog) (base := 0) (js := [7]) mixed tok noeqs (fun _ _ _ h => h) Try.call14 Try.func14 rfl Try.ntmps14 (by rw [Try.results14]) (by simp) ?_; have hG : (fun x => x = r) r := rfl; unfold ref16_Root at h; refine Zap 10 rfl ?_; refine Y1 rfl ?_; refine bindK h fun y2 hy2 h => ?_; refine W.call rfl (ref16_post_fn hy2) ?_; refine Zwc 4 rfl ?_; refine A.condB rfl h (fun _ h => ?_) (fun _ h => ?_)
  · refine Zcb 7 rfl ?_; cases h; cases hG; exact ⟨rfl, trivial⟩
  · refine Zcp 6 rfl ?_; refine Y1 rfl ?_; refine bindK h fun y3 hy3 h => ?_; refine W.call rfl (ref16_Parent_fn hy3) ?_; refine Zwc 4 rfl ?_; refine A.join (fun (s2 : Int) => [(1, VI s2)]) (fun s2 => []) _ h hG rfl ?_ ?_
    · intro J f h hG; refine Zac 1 rfl ?_; refine A.loop (fun (s3 : Int × Int) => [(0, VF (List.map api_Event.enc events_)), (1, VI s3.1), (5, VI s3.2)]) (fun s3 => []) _ h hG (Zf [] [] rfl rfl (Ze rfl rfl (Ze rfl rfl (Ze rfl rfl trivial))) trivial) ?_; intro J s3 f h hG; unfold ref16_Root_L1 at h; refine Zac 7 rfl ?_; refine A.condB rfl h (fun _ h => ?_) (fun _ h => ?_)
      · refine Zcp 12 rfl ?_; refine Y1 rfl ?_; refine bindK h fun y9 hy9 h => ?_; refine W.call rfl (ref16_Parent_fn hy9) ?_; refine Zwb 4 rfl ?_; cases h; exact Zh hG [] [] rfl rfl (Ze rfl rfl (Ze rfl rfl (Ze rfl rfl trivial))) trivial
      · refine Zcb 2 rfl ?_; refine headK.e ?_; refine Zob 1 rfl ?_; cases h; exact Zh hG [] [] rfl rfl (Ze rfl rfl trivial) trivial
    · intro s2 r2 h hG; refine Zcb 7 rfl ?_; cases h; cases hG; exact ⟨rfl, trivial⟩
noncomputable def ref16_Answers_L1 (events_ : (List api_Event)) (id_ : Int) (s3 : Int × (List Int)) : Option ((Int × (List Int)) ⊕ (((List Int)) ⊕ ((List Int)))) :=
  (bif (decide (s3.1 < (events_.length : Int))) then
    (getI events_ s3.1).bind fun x37 =>
    (bif (x37.Kind == (0 : Int)) then
      (bif (x37.Target == id_) then
        (chkO (decide (s3.2.length + [s3.1].length ≤ 1000000))).bind fun _ =>
        some (.inl ((IntKind.i64.wrap (s3.1 + (1 : Int))), (s3.2 ++ [s3.1])))
      else
        some (.inl ((IntKind.i64.wrap (s3.1 + (1 : Int))), s3.2)))
    else
      some (.inl ((IntKind.i64.wrap (s3.1 + (1 : Int))), s3.2)))
  else
    some (.inr (.inl s3.2)))
noncomputable def ref16_Answers (events_ : (List api_Event)) (id_ : Int) : Option ((List Int)) :=
  (ref16_post events_ id_).bind fun y2 =>
  (bif (!y2) then
    some ([] : List Int)
  else
    (seqF (A := (List Int)) (
      loopF (ref16_Answers_L1 events_ id_) ((IntKind.i64.wrap (id_ + (1 : Int))), ([] : List Int)))
    fun s2 =>
      some s2))
theorem ref16_Answers_fn {dr : Prop} {events_ : (List api_Event)} {id_ : Int} {r : (List Int)} (h : ref16_Answers events_ id_ = some r) : Fn dr Try.prog 17 [VF (List.map api_Event.enc events_), VI id_] (.ow 1 (List.map (encI .i64) r)) := by
  refine Fn.of_AW (dr := dr) (F := FnX dr Try.prog) (base := 0) (js := [9]) mixed tok noeqs (fun _ _ _ h => h) Try.call17 Try.func17 rfl Try.ntmps17 (by rw [Try.results17]) (by simp) ?_; have hG : (fun x => x = r) r := rfl; unfold ref16_Answers at h; refine Zap 2 rfl ?_; refine Zm (.row 4 1 0) (Mem.add _ 4 (.rows 1 (List.map (encI .i64) ([] : List Int)) false)) rfl rfl ?_; refine Zpp 4 rfl ?_; refine Zm (.row 5 1 0) (Mem.add _ 5 (.rows 1 (List.map (encI .i64) ([] : List Int)) false)) rfl rfl ?_; refine Zpp 7 rfl ?_; refine Y1 rfl ?_; refine bindK h fun y2 hy2 h => ?_; refine W.call rfl (ref16_post_fn hy2) ?_; refine Zwc 4 rfl ?_; refine A.condB rfl h (fun _ h => ?_) (fun _ h => ?_)
  · refine Zcp 2 rfl ?_; refine Zm (.row 4 2 0) (Mem.add _ 4 (.rows 1 (List.map (encI .i64) ([] : List Int)) false)) rfl rfl ?_; refine Zpb 4 rfl ?_; cases h; cases hG; exact ⟨rfl, rfl, trivial⟩
  · refine Zcc 2 rfl ?_; refine A.join (fun (s2 : (List Int)) => [(5, .row 900000 1 s2.length)]) (fun s2 => [(900000, .rows 1 (List.map (encI .i64) s2) false)]) _ h hG rfl ?_ ?_
    · intro J f h hG; refine Zac 8 rfl ?_; refine A.loop (fun (s3 : Int × (List Int)) => [(0, VF (List.map api_Event.enc events_)), (1, VI id_), (5, .row 900000 1 s3.2.length), (6, VI s3.1)]) (fun s3 => [(900000, .rows 1 (List.map (encI .i64) s3.2) false)]) _ h hG (Zf [] [(900000, (5, 1))] rfl rfl (Ze rfl rfl (Ze rfl rfl (Ze rfl rfl (Ze rfl rfl trivial)))) (Zc rfl rfl trivial)) ?_; intro J s3 f h hG; unfold ref16_Answers_L1 at h; refine Zap 5 rfl ?_; refine Y1 rfl ?_; refine W.len rfl ?_; refine Zpc 3 rfl ?_; refine A.condB rfl h (fun _ h => ?_) (fun _ h => ?_)
      · refine Zcp 8 rfl ?_; refine Y1 rfl ?_; refine bindK h fun x37 hx37 h => ?_; refine W.chk rfl (elemB hx37) ?_; refine W.elem rfl (elemG hx37) ?_; refine W.chk rfl rfl ?_; refine W.det (.fp [.v (.int .i64 x37.Author), .v (.int .i64 x37.Seq), .fz (List.map (encI .i64) x37.Causes), .v (.int .i64 x37.Kind), .v (.int .i64 x37.Group), .v (.int .i64 x37.Target), .v (.int .i64 x37.Quote), .v (.int .i64 x37.Who), .v (.int .i64 x37.N), .v (.string x37.Text), .fz (List.map (encI .i64) x37.Files), .v (.int .i64 x37.Step)]) _ rfl ?_; refine Zo (.fp [.v (.int .i64 x37.Kind), .v (.int .i64 x37.Group), .v (.int .i64 x37.Target), .v (.int .i64 x37.Quote), .v (.int .i64 x37.Who), .v (.int .i64 x37.N), .v (.string x37.Text), .fz (List.map (encI .i64) x37.Files), .v (.int .i64 x37.Step)]) rfl rfl ?_; refine Zpp 3 rfl ?_; refine YT rfl rfl rfl h (fun _ h => ?_) (fun _ h => ?_)
        · refine Zwp 2 rfl ?_; refine Y2 rfl rfl rfl ?_; refine W.chk rfl (elemB hx37) ?_; refine W.elem rfl (elemG hx37) ?_; refine W.chk rfl rfl ?_; refine W.det (.fp [.v (.int .i64 x37.Author), .v (.int .i64 x37.Seq), .fz (List.map (encI .i64) x37.Causes), .v (.int .i64 x37.Kind), .v (.int .i64 x37.Group), .v (.int .i64 x37.Target), .v (.int .i64 x37.Quote), .v (.int .i64 x37.Who), .v (.int .i64 x37.N), .v (.string x37.Text), .fz (List.map (encI .i64) x37.Files), .v (.int .i64 x37.Step)]) _ rfl ?_; refine Zu (.fp [.v (.int .i64 x37.Target), .v (.int .i64 x37.Quote), .v (.int .i64 x37.Who), .v (.int .i64 x37.N), .v (.string x37.Text), .fz (List.map (encI .i64) x37.Files), .v (.int .i64 x37.Step)]) rfl rfl rfl rfl ?_; refine Zpc 6 rfl ?_; refine A.condB rfl h (fun _ h => ?_) (fun _ h => ?_)
          · refine Zcp 1 rfl ?_; refine Zo (.row 900000 1 s3.2.length) rfl rfl ?_; refine Zpp 1 rfl ?_; refine Zm (.row 36 2 1) (Mem.add _ 36 (.rows 1 (List.map (encI .i64) [s3.1]) false)) rfl rfl ?_; refine Y1 rfl ?_; refine chkK h fun g38 h => ?_; refine W.chk rfl (appChk (fun _ => rfl) g38) ?_; refine W.app rfl rfl ?_; refine Zo (.row 900000 2 (s3.2 ++ [s3.1]).length) rfl rfl ?_; refine Zpb 8 rfl ?_; cases h; exact Zh hG [] [(900000, (900000, 2))] rfl rfl (Ze rfl rfl (Ze rfl rfl (Ze rfl rfl (Ze rfl rfl trivial)))) (Zc rfl rfl trivial)
          · refine Zcb 8 rfl ?_; cases h; exact Zh hG [] [(900000, (900000, 1))] rfl rfl (Ze rfl rfl (Ze rfl rfl (Ze rfl rfl (Ze rfl rfl trivial)))) (Zc rfl rfl trivial)
        · refine Zpb 18 rfl ?_; cases h; exact Zh hG [] [(900000, (900000, 1))] rfl rfl (Ze rfl rfl (Ze rfl rfl (Ze rfl rfl (Ze rfl rfl trivial)))) (Zc rfl rfl trivial)
      · refine Zcb 2 rfl ?_; refine headK.e ?_; refine Zob 1 rfl ?_; cases h; exact Zh hG [] [(900000, (900000, 1))] rfl rfl (Ze rfl rfl trivial) (Zc rfl rfl trivial)
    · intro s2 r2 h hG; refine Zcp 2 rfl ?_; refine Zo (.row 900000 1 s2.length) rfl rfl ?_; refine Zo (.row 900000 1 s2.length) rfl rfl ?_; refine Zpb 3 rfl ?_; cases h; cases hG; exact ⟨rfl, rfl, trivial⟩
noncomputable def law16_names_L1 (e_ : api_Event) (id_ : Int) (s3 : Int) : Option ((Int) ⊕ ((Unit) ⊕ (Bool))) :=
  (bif (decide (s3 < (e_.Causes.length : Int))) then
    (getI e_.Causes s3).bind fun x12 =>
    (bif (x12 == id_) then
      some (.inr (.inr true))
    else
      some (.inl (IntKind.i64.wrap (s3 + (1 : Int)))))
  else
    some (.inr (.inl ())))
noncomputable def law16_names (e_ : api_Event) (id_ : Int) : Option (Bool) :=
  (seqF (A := Unit) (
    loopF (law16_names_L1 e_ id_) (0 : Int))
  fun s2 =>
    (bif (e_.Target == id_) then
      some true
    else
      some (e_.Quote == id_)))
theorem law16_names_fn {dr : Prop} {e_ : api_Event} {id_ : Int} {r : Bool} (h : law16_names e_ id_ = some r) : Fn dr Try.prog 18 [.agg (api_Event.av e_), VI id_] (VB r) := by
  refine Fn.of_AW (dr := dr) (F := FnX dr Try.prog) (base := 0) (js := [6]) mixed tok noeqs (fun _ _ _ h => h) Try.call18 Try.func18 rfl Try.ntmps18 (by rw [Try.results18]) (by simp) ?_; have hG : (fun x => x = r) r := rfl; unfold law16_names at h; refine Zap 2 rfl ?_; refine Zm (.lp 2 1 0) (Mem.add _ 2 (.box (api_Event.av e_))) rfl rfl ?_; refine Zpc 3 rfl ?_; refine A.join (fun (s2 : Unit) => [(1, VI id_), (2, .lp 900000 1 0)]) (fun s2 => [(900000, .box (api_Event.av e_))]) _ h hG rfl ?_ ?_
  · intro J f h hG; refine Zac 6 rfl ?_; refine A.loop (fun (s3 : Int) => [(1, VI id_), (2, .lp 900000 1 0), (5, VI s3)]) (fun s3 => [(900000, .box (api_Event.av e_))]) _ h hG (Zf [] [(900000, (2, 1))] rfl rfl (Ze rfl rfl (Ze rfl rfl (Ze rfl rfl trivial))) (Zc rfl rfl trivial)) ?_; intro J s3 f h hG; unfold law16_names_L1 at h; refine Zap 6 rfl ?_; refine Y1 rfl ?_; refine W.len rfl ?_; refine Zpc 3 rfl ?_; refine A.condB rfl h (fun _ h => ?_) (fun _ h => ?_)
    · refine Zcp 9 rfl ?_; refine Y1 rfl ?_; refine bindK h fun x12 hx12 h => ?_; refine W.chk rfl (elemB hx12) ?_; refine W.elem rfl (elemG hx12) ?_; refine W.chk rfl rfl ?_; refine W.det (.fp [.v (.int .i64 x12)]) _ rfl ?_; refine Zpc 5 rfl ?_; refine A.condB rfl h (fun _ h => ?_) (fun _ h => ?_)
      · refine Zcb 8 rfl ?_; refine headK.r ?_; refine Zob 1 rfl ?_; refine headK.r ?_; cases h; cases hG; exact ⟨rfl, trivial⟩
      · refine Zcb 8 rfl ?_; cases h; exact Zh hG [] [(900000, (900000, 1))] rfl rfl (Ze rfl rfl (Ze rfl rfl (Ze rfl rfl trivial))) (Zc rfl rfl trivial)
    · refine Zcb 2 rfl ?_; refine headK.e ?_; refine Zob 1 rfl ?_; cases h; exact Zh hG [] [(900000, (900000, 1))] rfl rfl (Ze rfl rfl (Ze rfl rfl trivial)) (Zc rfl rfl trivial)
  · intro s2 r2 h hG; refine Zcp 7 rfl ?_; refine YF rfl rfl rfl h (fun _ h => ?_) (fun _ h => ?_)
    · refine Zpb 8 rfl ?_; cases h; cases hG; exact ⟨rfl, trivial⟩
    · refine Zwb 9 rfl ?_; cases h; cases hG; exact ⟨rfl, trivial⟩
noncomputable def law16_other (id_ : Int) (k_ : Int) : Option (Int) :=
  (bif (id_ == k_) then
    some (IntKind.i64.wrap (k_ + (1 : Int)))
  else
    (bif (id_ == (IntKind.i64.wrap (k_ + (1 : Int)))) then
      some k_
    else
      some id_))
theorem law16_other_fn {dr : Prop} {id_ : Int} {k_ : Int} {r : Int} (h : law16_other id_ k_ = some r) : Fn dr Try.prog 21 [VI id_, VI k_] (VI r) := by
  refine Fn.of_AW (dr := dr) (F := FnX dr Try.prog) (base := 0) (js := []) mixed tok noeqs (fun _ _ _ h => h) Try.call21 Try.func21 rfl Try.ntmps21 (by rw [Try.results21]) (by simp) ?_; have hG : (fun x => x = r) r := rfl; unfold law16_other at h; refine Zac 13 rfl ?_; refine A.condB rfl h (fun _ h => ?_) (fun _ h => ?_)
  · refine Zcb 9 rfl ?_; cases h; cases hG; exact ⟨rfl, trivial⟩
  · refine Zcc 11 rfl ?_; refine A.condB rfl h (fun _ h => ?_) (fun _ h => ?_)
    · refine Zcb 8 rfl ?_; cases h; cases hG; exact ⟨rfl, trivial⟩
    · refine Zcb 9 rfl ?_; cases h; cases hG; exact ⟨rfl, trivial⟩
noncomputable def law16_exchanged_L1 (x453 : api_Event) (k_ : Int) (s45 : Int × (List Int)) : Option ((Int × (List Int)) ⊕ (((List Int)) ⊕ (((List api_Event)) ⊕ ((Int × (List api_Event)) ⊕ (((List api_Event)) ⊕ ((List api_Event))))))) :=
  (bif (decide (s45.1 < (x453.Causes.length : Int))) then
    (getI x453.Causes s45.1).bind fun x489 =>
    (law16_other x489 k_).bind fun y490 =>
    (chkO (decide (s45.2.length + [y490].length ≤ 1000000))).bind fun _ =>
    some (.inl ((IntKind.i64.wrap (s45.1 + (1 : Int))), (s45.2 ++ [y490])))
  else
    some (.inr (.inl s45.2)))
noncomputable def law16_exchanged_L2 (l_ : (List api_Event)) (k_ : Int) (s24 : Int × (List api_Event)) : Option ((Int × (List api_Event)) ⊕ (((List api_Event)) ⊕ ((List api_Event)))) :=
  (bif (decide (s24.1 < (l_.length : Int))) then
    (seqF (A := (List api_Event)) (
      (law16_other s24.1 k_).bind fun y452 =>
      (getI l_ y452).bind fun x453 =>
      (law16_other x453.Target k_).bind fun y454 =>
      (law16_other x453.Quote k_).bind fun y455 =>
      (seqF (A := (List Int)) (
        loopF (law16_exchanged_L1 x453 k_) ((0 : Int), ([] : List Int)))
      fun s44 =>
        (chkO (decide (s24.2.length + [(api_Event.mk x453.Author x453.Seq s44 x453.Kind x453.Group y454 y455 x453.Who x453.N x453.Text x453.Files x453.Step)].length ≤ 1000000))).bind fun _ =>
        some (.inl (s24.2 ++ [(api_Event.mk x453.Author x453.Seq s44 x453.Kind x453.Group y454 y455 x453.Who x453.N x453.Text x453.Files x453.Step)]))))
    fun s42 =>
      some (.inl ((IntKind.i64.wrap (s24.1 + (1 : Int))), s42)))
  else
    some (.inr (.inl s24.2)))
noncomputable def law16_exchanged (l_ : (List api_Event)) (k_ : Int) : Option ((List api_Event)) :=
  (seqF (A := (List api_Event)) (
    loopF (law16_exchanged_L2 l_ k_) ((0 : Int), ([] : List api_Event)))
  fun s23 =>
    some s23)
theorem law16_exchanged_fn {dr : Prop} {l_ : (List api_Event)} {k_ : Int} {r : (List api_Event)} (h : law16_exchanged l_ k_ = some r) : Fn dr Try.prog 19 [VF (List.map api_Event.enc l_), VI k_] (.ow 12 (List.map api_Event.enc r)) := by
  refine Fn.of_AW (dr := dr) (F := FnX dr Try.prog) (base := 0) (js := [4, 13, 15]) mixed tok noeqs (fun _ _ _ h => h) Try.call19 Try.func19 rfl Try.ntmps19 (by rw [Try.results19]) (by simp) ?_; have hG : (fun x => x = r) r := rfl; unfold law16_exchanged at h; refine Zap 2 rfl ?_; refine Zm (.row 4 1 0) (Mem.add _ 4 (.rows 12 (List.map api_Event.enc ([] : List api_Event)) false)) rfl rfl ?_; refine Zpp 4 rfl ?_; refine Zm (.row 5 1 0) (Mem.add _ 5 (.rows 12 (List.map api_Event.enc ([] : List api_Event)) false)) rfl rfl ?_; refine Zpc 2 rfl ?_; refine A.join (fun (s23 : (List api_Event)) => [(5, .row 900000 1 s23.length)]) (fun s23 => [(900000, .rows 12 (List.map api_Event.enc s23) false)]) _ h hG rfl ?_ ?_
  · intro J f h hG; refine Zac 6 rfl ?_; refine A.loop (fun (s24 : Int × (List api_Event)) => [(0, VF (List.map api_Event.enc l_)), (1, VI k_), (5, .row 900000 1 s24.2.length), (6, VI s24.1)]) (fun s24 => [(900000, .rows 12 (List.map api_Event.enc s24.2) false)]) _ h hG (Zf [] [(900000, (5, 1))] rfl rfl (Ze rfl rfl (Ze rfl rfl (Ze rfl rfl (Ze rfl rfl trivial)))) (Zc rfl rfl trivial)) ?_; intro J s24 f h hG; unfold law16_exchanged_L2 at h; refine Zap 5 rfl ?_; refine Y1 rfl ?_; refine W.len rfl ?_; refine Zpc 3 rfl ?_; refine A.condB rfl h (fun _ h => ?_) (fun _ h => ?_)
    · refine Zcc 2 rfl ?_; refine A.join (fun (s42 : (List api_Event)) => [(0, VF (List.map api_Event.enc l_)), (1, VI k_), (5, .row 900000 1 s42.length), (6, VI s24.1)]) (fun s42 => [(900000, .rows 12 (List.map api_Event.enc s42) false)]) _ h hG rfl ?_ ?_
      · intro J f h hG; refine Zap 6 rfl ?_; refine Y1 rfl ?_; refine bindK h fun y452 hy452 h => ?_; refine W.call rfl (law16_other_fn hy452) ?_; refine Zwp 1 rfl ?_; refine Y1 rfl ?_; refine bindK h fun x453 hx453 h => ?_; refine W.chk rfl (elemB hx453) ?_; refine W.elem rfl (elemG hx453) ?_; refine W.chk rfl rfl ?_; refine W.det (.fp [.v (.int .i64 x453.Author), .v (.int .i64 x453.Seq), .fz (List.map (encI .i64) x453.Causes), .v (.int .i64 x453.Kind), .v (.int .i64 x453.Group), .v (.int .i64 x453.Target), .v (.int .i64 x453.Quote), .v (.int .i64 x453.Who), .v (.int .i64 x453.N), .v (.string x453.Text), .fz (List.map (encI .i64) x453.Files), .v (.int .i64 x453.Step)]) _ rfl ?_; refine Zo (.agg (api_Event.av x453)) rfl rfl ?_; refine Zm (.lp 7 2 0) (Mem.add (Mem.add (Mem.add _ 196615 (.rows 1 (List.map (encI .i64) ([] : List Int)) false)) 720903 (.rows 1 (List.map (encI .i64) ([] : List Int)) false)) 7 (.box [VI 0, VI 0, .row 196615 2 0, VI 0, VI 0, VI 0, VI 0, VI 0, VI 0, VS (ByteArray.mk #[]), .row 720903 2 0, VI 0])) rfl rfl ?_; refine Zm (.tup []) (Mem.set _ 7 2 (some (.box (api_Event.av x453)))) rfl rfl ?_; refine Zpp 7 rfl ?_; refine Y1 rfl ?_; refine bindK h fun y454 hy454 h => ?_; refine W.call rfl (law16_other_fn hy454) ?_; refine Zwp 2 rfl ?_; refine Zm (.tup []) (Mem.set _ 7 2 (some (.box [VI x453.Author, VI x453.Seq, VF (List.map (encI .i64) x453.Causes), VI x453.Kind, VI x453.Group, VI y454, VI x453.Quote, VI x453.Who, VI x453.N, VS x453.Text, VF (List.map (encI .i64) x453.Files), VI x453.Step]))) rfl rfl ?_; refine Zpp 7 rfl ?_; refine Y1 rfl ?_; refine bindK h fun y455 hy455 h => ?_; refine W.call rfl (law16_other_fn hy455) ?_; refine Zwp 2 rfl ?_; refine Zm (.tup []) (Mem.set _ 7 2 (some (.box [VI x453.Author, VI x453.Seq, VF (List.map (encI .i64) x453.Causes), VI x453.Kind, VI x453.Group, VI y454, VI y455, VI x453.Who, VI x453.N, VS x453.Text, VF (List.map (encI .i64) x453.Files), VI x453.Step]))) rfl rfl ?_; refine Zpp 4 rfl ?_; refine Zm (.row 8 2 0) (Mem.add _ 8 (.rows 1 (List.map (encI .i64) ([] : List Int)) false)) rfl rfl ?_; refine Zpc 2 rfl ?_; refine A.join (fun (s44 : (List Int)) => [(0, VF (List.map api_Event.enc l_)), (1, VI k_), (5, .row 900000 1 s24.2.length), (6, VI s24.1), (7, .lp 900001 1 0), (8, .row 900002 1 s44.length)]) (fun s44 => [(900000, .rows 12 (List.map api_Event.enc s24.2) false), (900001, .box [VI x453.Author, VI x453.Seq, VF (List.map (encI .i64) x453.Causes), VI x453.Kind, VI x453.Group, VI y454, VI y455, VI x453.Who, VI x453.N, VS x453.Text, VF (List.map (encI .i64) x453.Files), VI x453.Step]), (900002, .rows 1 (List.map (encI .i64) s44) false)]) _ h hG rfl ?_ ?_
        · intro J f h hG; refine Zac 6 rfl ?_; refine A.loop (fun (s45 : Int × (List Int)) => [(0, VF (List.map api_Event.enc l_)), (1, VI k_), (5, .row 900000 1 s24.2.length), (6, VI s24.1), (7, .lp 900001 1 0), (8, .row 900002 1 s45.2.length), (9, VI s45.1)]) (fun s45 => [(900000, .rows 12 (List.map api_Event.enc s24.2) false), (900001, .box [VI x453.Author, VI x453.Seq, VF (List.map (encI .i64) x453.Causes), VI x453.Kind, VI x453.Group, VI y454, VI y455, VI x453.Who, VI x453.N, VS x453.Text, VF (List.map (encI .i64) x453.Files), VI x453.Step]), (900002, .rows 1 (List.map (encI .i64) s45.2) false)]) _ h hG (Zf [] [(900000, (900000, 1)), (900001, (7, 2)), (900002, (8, 2))] rfl rfl (Ze rfl rfl (Ze rfl rfl (Ze rfl rfl (Ze rfl rfl (Ze rfl rfl (Ze rfl rfl (Ze rfl rfl trivial))))))) (Zc rfl rfl (Zc rfl rfl (Zc rfl rfl trivial)))) ?_; intro J s45 f h hG; unfold law16_exchanged_L1 at h; refine Zap 6 rfl ?_; refine Y1 rfl ?_; refine W.len rfl ?_; refine Zpc 3 rfl ?_; refine A.condB rfl h (fun _ h => ?_) (fun _ h => ?_)
          · refine Zcp 5 rfl ?_; refine Zo (.row 900002 1 s45.2.length) rfl rfl ?_; refine Zpp 3 rfl ?_; refine Y1 rfl ?_; refine bindK h fun x489 hx489 h => ?_; refine W.chk rfl (elemB hx489) ?_; refine W.elem rfl (elemG hx489) ?_; refine W.chk rfl rfl ?_; refine W.det (.fp [.v (.int .i64 x489)]) _ rfl ?_; refine Zpp 2 rfl ?_; refine Y1 rfl ?_; refine bindK h fun y490 hy490 h => ?_; refine W.call rfl (law16_other_fn hy490) ?_; refine Zwp 1 rfl ?_; refine Zm (.row 47 2 1) (Mem.add _ 47 (.rows 1 (List.map (encI .i64) [y490]) false)) rfl rfl ?_; refine Y1 rfl ?_; refine chkK h fun g491 h => ?_; refine W.chk rfl (appChk (fun _ => rfl) g491) ?_; refine W.app rfl rfl ?_; refine Zo (.row 900002 2 (s45.2 ++ [y490]).length) rfl rfl ?_; refine Zpb 8 rfl ?_; cases h; exact Zh hG [] [(900000, (900000, 1)), (900001, (900001, 1)), (900002, (900002, 2))] rfl rfl (Ze rfl rfl (Ze rfl rfl (Ze rfl rfl (Ze rfl rfl (Ze rfl rfl (Ze rfl rfl (Ze rfl rfl trivial))))))) (Zc rfl rfl (Zc rfl rfl (Zc rfl rfl trivial)))
          · refine Zcb 2 rfl ?_; refine headK.e ?_; refine Zob 1 rfl ?_; cases h; exact Zh hG [] [(900000, (900000, 1)), (900001, (900001, 1)), (900002, (900002, 1))] rfl rfl (Ze rfl rfl (Ze rfl rfl (Ze rfl rfl (Ze rfl rfl (Ze rfl rfl (Ze rfl rfl trivial)))))) (Zc rfl rfl (Zc rfl rfl (Zc rfl rfl trivial)))
        · intro s44 r2 h hG; refine Zcp 2 rfl ?_; refine Zo (.row 900002 1 s44.length) rfl rfl ?_; refine Zpp 1 rfl ?_; refine Zm (.tup []) (Mem.set _ 900001 1 (some (.box [VI x453.Author, VI x453.Seq, .row 900002 1 s44.length, VI x453.Kind, VI x453.Group, VI y454, VI y455, VI x453.Who, VI x453.N, VS x453.Text, VF (List.map (encI .i64) x453.Files), VI x453.Step]))) rfl rfl ?_; refine Zpp 3 rfl ?_; refine Zo (.row 900000 1 s24.2.length) rfl rfl ?_; refine Zo (.agg [VI x453.Author, VI x453.Seq, .row 900002 1 s44.length, VI x453.Kind, VI x453.Group, VI y454, VI y455, VI x453.Who, VI x453.N, VS x453.Text, VF (List.map (encI .i64) x453.Files), VI x453.Step]) rfl rfl ?_; refine Zm (.row 53 2 1) (Mem.add (Mem.set _ 900002 1 (some (.rows 1 (List.map (encI .i64) s44) true))) 53 (.rows 12 (List.map api_Event.enc [(api_Event.mk x453.Author x453.Seq s44 x453.Kind x453.Group y454 y455 x453.Who x453.N x453.Text x453.Files x453.Step)]) false)) rfl rfl ?_; refine Y1 rfl ?_; refine chkK h fun g492 h => ?_; refine W.chk rfl (appChk (fun _ => rfl) g492) ?_; refine W.app rfl rfl ?_; refine Zo (.row 900000 2 (s24.2 ++ [(api_Event.mk x453.Author x453.Seq s44 x453.Kind x453.Group y454 y455 x453.Who x453.N x453.Text x453.Files x453.Step)]).length) rfl rfl ?_; refine Zpb 2 rfl ?_; cases h; exact Zh hG [] [(900000, (900000, 2))] rfl rfl (Ze rfl rfl (Ze rfl rfl (Ze rfl rfl (Ze rfl rfl trivial)))) (Zc rfl rfl trivial)
      · intro s42 r2 h hG; refine Zcb 5 rfl ?_; cases h; exact Zh hG [] [(900000, (900000, 1))] rfl rfl (Ze rfl rfl (Ze rfl rfl (Ze rfl rfl (Ze rfl rfl trivial)))) (Zc rfl rfl trivial)
    · refine Zcb 2 rfl ?_; refine headK.e ?_; refine Zob 1 rfl ?_; cases h; exact Zh hG [] [(900000, (900000, 1))] rfl rfl (Ze rfl rfl trivial) (Zc rfl rfl trivial)
  · intro s23 r2 h hG; refine Zcp 2 rfl ?_; refine Zo (.row 900000 1 s23.length) rfl rfl ?_; refine Zo (.row 900000 1 s23.length) rfl rfl ?_; refine Zpb 3 rfl ?_; cases h; cases hG; exact ⟨rfl, rfl, trivial⟩
noncomputable def law16_find_L1 (l_ : (List api_Msg)) (id_ : Int) (s3 : Int) : Option ((Int) ⊕ ((Unit) ⊕ (api_Msg × Bool))) :=
  (bif (decide (s3 < (l_.length : Int))) then
    (getI l_ s3).bind fun x12 =>
    (bif (x12.Id == id_) then
      some (.inr (.inr (x12, true)))
    else
      some (.inl (IntKind.i64.wrap (s3 + (1 : Int)))))
  else
    some (.inr (.inl ())))
noncomputable def law16_find (l_ : (List api_Msg)) (id_ : Int) : Option (api_Msg × Bool) :=
  (seqF (A := Unit) (
    loopF (law16_find_L1 l_ id_) (0 : Int))
  fun s2 =>
    some ((api_Msg.mk (0 : Int) (0 : Int) (0 : Int) (0 : Int) (0 : Int) (0 : Int) (ByteArray.mk #[]) ([] : List Int) (0 : Int) ([] : List Arr2_Int) false), false))
theorem law16_find_fn {dr : Prop} {l_ : (List api_Msg)} {id_ : Int} {r : api_Msg × Bool} (h : law16_find l_ id_ = some r) : Fn dr Try.prog 20 [VF (List.map api_Msg.enc l_), VI id_] (.tup [.agg (api_Msg.av r.1), VB r.2]) := by
  refine Fn.of_AW (dr := dr) (F := FnX dr Try.prog) (base := 0) (js := [6]) mixed tok noeqs (fun _ _ _ h => h) Try.call20 Try.func20 rfl Try.ntmps20 (by rw [Try.results20]) (by simp) ?_; have hG : (fun x => x = r) r := rfl; unfold law16_find at h; refine Zap 2 rfl ?_; refine Zm (.lp 4 1 0) (Mem.add (Mem.add (Mem.add _ 524292 (.rows 1 (List.map (encI .i64) ([] : List Int)) false)) 655364 (.rows 2 (List.map Arr2_Int.enc ([] : List Arr2_Int)) false)) 4 (.box [VI 0, VI 0, VI 0, VI 0, VI 0, VI 0, VS (ByteArray.mk #[]), .row 524292 1 0, VI 0, .row 655364 1 0, VB false])) rfl rfl ?_; refine Zpc 3 rfl ?_; refine A.join (fun (s2 : Unit) => [(4, .lp 900000 1 0)]) (fun s2 => [(900000, .box [VI 0, VI 0, VI 0, VI 0, VI 0, VI 0, VS (ByteArray.mk #[]), .row 900001 1 ([] : List Int).length, VI 0, .row 900002 1 ([] : List Arr2_Int).length, VB false]), (900001, .rows 1 (List.map (encI .i64) ([] : List Int)) false), (900002, .rows 2 (List.map Arr2_Int.enc ([] : List Arr2_Int)) false)]) _ h hG rfl ?_ ?_
  · intro J f h hG; refine Zac 6 rfl ?_; refine A.loop (fun (s3 : Int) => [(0, VF (List.map api_Msg.enc l_)), (1, VI id_), (4, .lp 900000 1 0), (6, VI s3)]) (fun s3 => [(900000, .box [VI 0, VI 0, VI 0, VI 0, VI 0, VI 0, VS (ByteArray.mk #[]), .row 900001 1 ([] : List Int).length, VI 0, .row 900002 1 ([] : List Arr2_Int).length, VB false]), (900001, .rows 1 (List.map (encI .i64) ([] : List Int)) false), (900002, .rows 2 (List.map Arr2_Int.enc ([] : List Arr2_Int)) false)]) _ h hG (Zf [] [(900000, (4, 1)), (900001, (524292, 1)), (900002, (655364, 1))] rfl rfl (Ze rfl rfl (Ze rfl rfl (Ze rfl rfl (Ze rfl rfl trivial)))) (Zc rfl rfl (Zc rfl rfl (Zc rfl rfl trivial)))) ?_; intro J s3 f h hG; unfold law16_find_L1 at h; refine Zap 5 rfl ?_; refine Y1 rfl ?_; refine W.len rfl ?_; refine Zpc 3 rfl ?_; refine A.condB rfl h (fun _ h => ?_) (fun _ h => ?_)
    · refine Zcp 8 rfl ?_; refine Y1 rfl ?_; refine bindK h fun x12 hx12 h => ?_; refine W.chk rfl (elemB hx12) ?_; refine W.elem rfl (elemG hx12) ?_; refine W.chk rfl rfl ?_; refine W.det (.fp [.v (.int .i64 x12.Id), .v (.int .i64 x12.Author), .v (.int .i64 x12.Group), .v (.int .i64 x12.Parent), .v (.int .i64 x12.Quote), .v (.int .i64 x12.Who), .v (.string x12.Text), .fz (List.map (encI .i64) x12.Files), .v (.int .i64 x12.Edits), .fz (List.map Arr2_Int.enc x12.Reacts), .v (.bool x12.Gone)]) _ rfl ?_; refine Zo (.fp [.v (.int .i64 x12.Id), .v (.int .i64 x12.Author), .v (.int .i64 x12.Group), .v (.int .i64 x12.Parent), .v (.int .i64 x12.Quote), .v (.int .i64 x12.Who), .v (.string x12.Text), .fz (List.map (encI .i64) x12.Files), .v (.int .i64 x12.Edits), .fz (List.map Arr2_Int.enc x12.Reacts), .v (.bool x12.Gone)]) rfl rfl ?_; refine Zpc 5 rfl ?_; refine A.condB rfl h (fun _ h => ?_) (fun _ h => ?_)
      · refine Zcp 4 rfl ?_; refine Y1 rfl ?_; refine W.chk rfl (elemB hx12) ?_; refine W.elem rfl (elemG hx12) ?_; refine W.chk rfl rfl ?_; refine W.det (.fp [.v (.int .i64 x12.Id), .v (.int .i64 x12.Author), .v (.int .i64 x12.Group), .v (.int .i64 x12.Parent), .v (.int .i64 x12.Quote), .v (.int .i64 x12.Who), .v (.string x12.Text), .fz (List.map (encI .i64) x12.Files), .v (.int .i64 x12.Edits), .fz (List.map Arr2_Int.enc x12.Reacts), .v (.bool x12.Gone)]) _ rfl ?_; refine Zo (.agg (api_Msg.av x12)) rfl rfl ?_; refine Zm (.tup []) (Mem.set _ 900000 1 (some (.box (api_Msg.av x12)))) rfl rfl ?_; refine Zpb 6 rfl ?_; refine headK.r ?_; refine Zob 1 rfl ?_; refine headK.r ?_; cases h; cases hG; exact ⟨rfl, rfl, rfl, rfl, rfl, rfl, rfl, rfl, rfl, rfl, rfl, rfl, trivial⟩
      · refine Zcb 8 rfl ?_; cases h; exact Zh hG [] [(900000, (900000, 1)), (900001, (900001, 1)), (900002, (900002, 1))] rfl rfl (Ze rfl rfl (Ze rfl rfl (Ze rfl rfl (Ze rfl rfl trivial)))) (Zc rfl rfl (Zc rfl rfl (Zc rfl rfl trivial)))
    · refine Zcb 2 rfl ?_; refine headK.e ?_; refine Zob 1 rfl ?_; cases h; exact Zh hG [] [(900000, (900000, 1)), (900001, (900001, 1)), (900002, (900002, 1))] rfl rfl (Ze rfl rfl trivial) (Zc rfl rfl (Zc rfl rfl (Zc rfl rfl trivial)))
  · intro s2 r2 h hG; refine Zcp 2 rfl ?_; refine Zo (.agg [VI 0, VI 0, VI 0, VI 0, VI 0, VI 0, VS (ByteArray.mk #[]), .nl, VI 0, .nl, VB false]) rfl rfl ?_; refine Zm (.tup []) (Mem.set (Mem.add (Mem.add _ 2472864 (.rows 1 (List.map (encI .i64) ([] : List Int)) false)) 2603936 (.rows 2 (List.map Arr2_Int.enc ([] : List Arr2_Int)) false)) 900000 1 (some (.box [VI 0, VI 0, VI 0, VI 0, VI 0, VI 0, VS (ByteArray.mk #[]), .row 2472864 2 0, VI 0, .row 2603936 2 0, VB false]))) rfl rfl ?_; refine Zpb 4 rfl ?_; cases h; cases hG; exact ⟨rfl, rfl, rfl, rfl, rfl, rfl, rfl, rfl, rfl, rfl, rfl, rfl, trivial⟩
noncomputable def law16_has_L1 (l_ : (List Arr2_Int)) (a_ : Int) (n_ : Int) (s3 : Int) : Option ((Int) ⊕ ((Unit) ⊕ (Bool))) :=
  (bif (decide (s3 < (l_.length : Int))) then
    (getI l_ s3).bind fun x24 =>
    (bif (x24.a0 == a_) then
      (bif (x24.a1 == n_) then
        some (.inr (.inr true))
      else
        some (.inl (IntKind.i64.wrap (s3 + (1 : Int)))))
    else
      some (.inl (IntKind.i64.wrap (s3 + (1 : Int)))))
  else
    some (.inr (.inl ())))
noncomputable def law16_has (l_ : (List Arr2_Int)) (a_ : Int) (n_ : Int) : Option (Bool) :=
  (seqF (A := Unit) (
    loopF (law16_has_L1 l_ a_ n_) (0 : Int))
  fun s2 =>
    some false)
theorem law16_has_fn {dr : Prop} {l_ : (List Arr2_Int)} {a_ : Int} {n_ : Int} {r : Bool} (h : law16_has l_ a_ n_ = some r) : Fn dr Try.prog 23 [VF (List.map Arr2_Int.enc l_), VI a_, VI n_] (VB r) := by
  refine Fn.of_AW (dr := dr) (F := FnX dr Try.prog) (base := 0) (js := [6]) mixed tok noeqs (fun _ _ _ h => h) Try.call23 Try.func23 rfl Try.ntmps23 (by rw [Try.results23]) (by simp) ?_; have hG : (fun x => x = r) r := rfl; unfold law16_has at h; refine Zac 5 rfl ?_; refine A.join (fun (s2 : Unit) => []) (fun s2 => []) _ h hG rfl ?_ ?_
  · intro J f h hG; refine Zac 6 rfl ?_; refine A.loop (fun (s3 : Int) => [(0, VF (List.map Arr2_Int.enc l_)), (1, VI a_), (2, VI n_), (7, VI s3)]) (fun s3 => []) _ h hG (Zf [] [] rfl rfl (Ze rfl rfl (Ze rfl rfl (Ze rfl rfl (Ze rfl rfl trivial)))) trivial) ?_; intro J s3 f h hG; unfold law16_has_L1 at h; refine Zap 5 rfl ?_; refine Y1 rfl ?_; refine W.len rfl ?_; refine Zpc 3 rfl ?_; refine A.condB rfl h (fun _ h => ?_) (fun _ h => ?_)
    · refine Zcp 8 rfl ?_; refine Y1 rfl ?_; refine bindK h fun x24 hx24 h => ?_; refine W.chk rfl (elemB hx24) ?_; refine W.elem rfl (elemG hx24) ?_; refine W.chk rfl rfl ?_; refine W.det (.fp [.v (.int .i64 x24.a0), .v (.int .i64 x24.a1)]) _ rfl ?_; refine Y1 rfl ?_; refine W.chk rfl (by decide) ?_; refine W.det (.fp [.v (.int .i64 x24.a0), .v (.int .i64 x24.a1)]) _ rfl ?_; refine Zpp 4 rfl ?_; refine YT rfl rfl rfl h (fun _ h => ?_) (fun _ h => ?_)
      · refine Zwp 2 rfl ?_; refine Y2 rfl rfl rfl ?_; refine W.chk rfl (elemB hx24) ?_; refine W.elem rfl (elemG hx24) ?_; refine W.chk rfl rfl ?_; refine W.det (.fp [.v (.int .i64 x24.a0), .v (.int .i64 x24.a1)]) _ rfl ?_; refine Y2 rfl rfl rfl ?_; refine W.chk rfl (by decide) ?_; refine W.det (.fp [.v (.int .i64 x24.a1)]) _ rfl ?_; refine Zpc 6 rfl ?_; refine A.condB rfl h (fun _ h => ?_) (fun _ h => ?_)
        · refine Zcb 8 rfl ?_; refine headK.r ?_; refine Zob 1 rfl ?_; refine headK.r ?_; cases h; cases hG; exact ⟨rfl, trivial⟩
        · refine Zcb 8 rfl ?_; cases h; exact Zh hG [] [] rfl rfl (Ze rfl rfl (Ze rfl rfl (Ze rfl rfl (Ze rfl rfl trivial)))) trivial
      · refine Zpb 18 rfl ?_; cases h; exact Zh hG [] [] rfl rfl (Ze rfl rfl (Ze rfl rfl (Ze rfl rfl (Ze rfl rfl trivial)))) trivial
    · refine Zcb 2 rfl ?_; refine headK.e ?_; refine Zob 1 rfl ?_; cases h; exact Zh hG [] [] rfl rfl trivial trivial
  · intro s2 r2 h hG; refine Zcb 6 rfl ?_; cases h; cases hG; exact ⟨rfl, trivial⟩
end Go.Proofs.Ytpikahfgidgdbaa

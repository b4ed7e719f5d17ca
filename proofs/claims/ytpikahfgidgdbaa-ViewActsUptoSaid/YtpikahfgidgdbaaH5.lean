/-
  Plain programs of functions, and that the functions do what they say. Printed by wip/tools/gen.py.
-/
import Derived.Test.YtpikahfgidgdbaaG2
namespace Go.Proofs.Ytpikahfgidgdbaa
open Go.RowKit
attribute [local irreducible] IntKind.wrap AW runL Step.wp
set_option linter.unusedVariables false
set_option maxHeartbeats 4000000
set_option maxRecDepth 100000
noncomputable def law16_ViewActs_L1 (y8 : (List api_Msg)) (e_ : api_Event) (y11 : (List api_Msg)) (s21 : Int) : Option ((Int) ⊕ ((Unit) ⊕ (Bool))) :=
  (bif (decide (s21 < (y8.length : Int))) then
    (getI y8 s21).bind fun x141 =>
    (seqF (A := Bool) (
      (bif (e_.Target == x141.Id) then
        (bif (e_.Group == x141.Group) then
          some (.inl (!x141.Gone))
        else
          some (.inl false))
      else
        some (.inl false)))
    fun s37 =>
      (seqF (A := ByteArray × (List Int) × Int) (
        (bif s37 then
          (bif (e_.Kind == (1 : Int)) then
            (bif (e_.Author == x141.Author) then
              some (.inl (e_.Text, e_.Files, (IntKind.i64.wrap (x141.Edits + (1 : Int)))))
            else
              some (.inl (x141.Text, x141.Files, x141.Edits)))
          else
            some (.inl (x141.Text, x141.Files, x141.Edits)))
        else
          some (.inl (x141.Text, x141.Files, x141.Edits))))
      fun s38 =>
        (seqF (A := ByteArray × (List Int) × Int × (List Arr2_Int) × Bool) (
          (bif s37 then
            (bif (e_.Kind == (2 : Int)) then
              some (.inl ((ByteArray.mk #[]), ([] : List Int), (0 : Int), ([] : List Arr2_Int), true))
            else
              some (.inl (s38.1, s38.2.1, s38.2.2, x141.Reacts, x141.Gone)))
          else
            some (.inl (s38.1, s38.2.1, s38.2.2, x141.Reacts, x141.Gone))))
        fun s39 =>
          (bif s37 then
            (bif (e_.Kind == (3 : Int)) then
              (getI y11 s21).bind fun x144 =>
              (ref16_Same (api_Msg.mk x141.Id x141.Author x141.Group x141.Parent x141.Quote x141.Who s39.1 s39.2.1 s39.2.2.1 x144.Reacts s39.2.2.2.2) x144).bind fun y145 =>
              (bif (!y145) then
                some (.inr (.inr false))
              else
                some (.inl (IntKind.i64.wrap (s21 + (1 : Int)))))
            else
              (bif (e_.Kind == (4 : Int)) then
                (getI y11 s21).bind fun x146 =>
                (ref16_Same (api_Msg.mk x141.Id x141.Author x141.Group x141.Parent x141.Quote x141.Who s39.1 s39.2.1 s39.2.2.1 x146.Reacts s39.2.2.2.2) x146).bind fun y147 =>
                (bif (!y147) then
                  some (.inr (.inr false))
                else
                  some (.inl (IntKind.i64.wrap (s21 + (1 : Int)))))
              else
                (getI y11 s21).bind fun x148 =>
                (ref16_Same (api_Msg.mk x141.Id x141.Author x141.Group x141.Parent x141.Quote x141.Who s39.1 s39.2.1 s39.2.2.1 s39.2.2.2.1 s39.2.2.2.2) x148).bind fun y149 =>
                (bif (!y149) then
                  some (.inr (.inr false))
                else
                  some (.inl (IntKind.i64.wrap (s21 + (1 : Int)))))))
          else
            (getI y11 s21).bind fun x150 =>
            (ref16_Same (api_Msg.mk x141.Id x141.Author x141.Group x141.Parent x141.Quote x141.Who s39.1 s39.2.1 s39.2.2.1 s39.2.2.2.1 s39.2.2.2.2) x150).bind fun y151 =>
            (bif (!y151) then
              some (.inr (.inr false))
            else
              some (.inl (IntKind.i64.wrap (s21 + (1 : Int)))))))))
  else
    some (.inr (.inl ())))
noncomputable def law16_ViewActs (l_ : (List api_Event)) (e_ : api_Event) : Option (Bool) :=
  (law16_small).bind fun y1 =>
  (chkO (decide (0 + l_.length ≤ 1000000))).bind fun _ =>
  (chkO (decide ((([] : List api_Event) ++ l_).length + [e_].length ≤ 1000000))).bind fun _ =>
  (ref16_Few ((([] : List api_Event) ++ l_) ++ [e_]) (30 : Int)).bind fun y7 =>
  (bif (!y7) then
    some y1
  else
    (view_View l_).bind fun y8 =>
    (view_View ((([] : List api_Event) ++ l_) ++ [e_])).bind fun y11 =>
    (bif (e_.Kind == (0 : Int)) then
      (bif ((y11.length : Int) != (IntKind.i64.wrap ((y8.length : Int) + (1 : Int)))) then
        some false
      else
        (getI y11 (IntKind.i64.wrap ((y11.length : Int) - (1 : Int)))).bind fun x16 =>
        (bif y1 then
          (chkO (cutO (0 : Int) (y8.length : Int) (y11.length : Int))).bind fun _ =>
          (ref16_SameAll (List.drop (0 : Int).toNat (List.take (y8.length : Int).toNat y11)) y8).bind fun y18 =>
          (bif y18 then
            (bif (x16.Id == (l_.length : Int)) then
              (bif (x16.Text.toList == e_.Text.toList) then
                (ref16_Ints x16.Files e_.Files).bind fun y19 =>
                (bif y19 then
                  (bif (x16.Edits == (0 : Int)) then
                    (bif ((x16.Reacts.length : Int) == (0 : Int)) then
                      some (!x16.Gone)
                    else
                      some false)
                  else
                    some false)
                else
                  some false)
              else
                some false)
            else
              some false)
          else
            some false)
        else
          some false))
    else
      (bif ((y11.length : Int) != (y8.length : Int)) then
        some false
      else
        (seqF (A := Unit) (
          loopF (law16_ViewActs_L1 y8 e_ y11) (0 : Int))
        fun s20 =>
          some y1))))
theorem law16_ViewActs_fn {l_ : (List api_Event)} {e_ : api_Event} {r : Bool} (h : law16_ViewActs l_ e_ = some r) : Fn False Try.prog 5 [VF (List.map api_Event.enc l_), .agg (api_Event.av e_)] (VB r) := by
  refine Fn.of_AW (dr := False) (F := FnX False Try.prog) (base := 0) (js := [18, 22, 28, 32]) mixed tok noeqs (fun _ _ _ h => h) Try.call5 Try.func5 rfl Try.ntmps5 (by rw [Try.results5]) (by simp) ?_; have hG : (fun x => x = r) r := rfl; unfold law16_ViewActs at h; refine Zap 2 rfl ?_; refine Zm (.lp 3 1 0) (Mem.add _ 3 (.box (api_Event.av e_))) rfl rfl ?_; refine Zpp 5 rfl ?_; refine Y1 rfl ?_; refine bindK h fun y1 hy1 h => ?_; refine W.call rfl (law16_small_fn hy1) ?_; refine Zwc 6 rfl ?_; refine A.regionC [0, 1, 2, 3, 4, 5, 6, 7] (by kernel_rfl) ?_; refine R.at_ rfl rfl ?_; refine Zm (.row 13 1 0) (Mem.add _ 13 (.rows 12 (List.map api_Event.enc ([] : List api_Event)) false)) rfl rfl ?_; refine R.nil ?_; refine R.at_ rfl rfl ?_; refine Zo (VF (List.map api_Event.enc l_)) rfl rfl ?_; refine R.nil ?_; refine R.at_ rfl rfl ?_; refine Y1 rfl ?_; refine chkK h fun g5 h => ?_; refine W.chk rfl (appChk (fun _ => rfl) g5) ?_; refine W.rows (0 + (List.map api_Event.enc l_).length) (([] : List api_Event) ++ l_).length ([] ++ (List.map api_Event.enc l_)) (List.map api_Event.enc (([] : List api_Event) ++ l_)) rfl (by first | rfl | (simp; done) | simp only [partMap, List.length_map, List.length_append, List.nil_append, Nat.zero_add, List.length_nil]) (by first | rfl | (simp; done) | simp only [partMap, List.map_append, List.nil_append, List.map_nil]) ?_; refine R.nil ?_; refine R.at_ rfl rfl ?_; refine Zo (.agg (api_Event.av e_)) rfl rfl ?_; refine R.nil ?_; refine R.at_ rfl rfl ?_; refine Zm (.row 17 1 1) (Mem.add _ 17 (.rows 12 (List.map api_Event.enc [e_]) false)) rfl rfl ?_; refine R.nil ?_; refine R.at_ rfl rfl ?_; refine Y1 rfl ?_; refine chkK h fun g6 h => ?_; refine W.chk rfl (appChk (fun _ => rfl) g6) ?_; refine W.app rfl rfl ?_; refine R.nil ?_; refine R.at_ rfl rfl ?_; refine Y1 rfl ?_; refine bindK h fun y7 hy7 h => ?_; refine W.call rfl (ref16_Few_fn hy7) ?_; refine W.det (VB y7) _ rfl ?_; refine R.nil ?_; refine R.at_ rfl rfl ?_; refine Zo (VB (!y7)) rfl rfl ?_; refine R.nil ?_; refine R.end_ ?_; refine Zoc 1 rfl ?_; refine A.condB rfl h (fun _ h => ?_) (fun _ h => ?_)
  · refine Zcb 8 rfl ?_; cases h; cases hG; exact ⟨rfl, trivial⟩
  · refine Zcp 5 rfl ?_; refine Y1 rfl ?_; refine bindK h fun y8 hy8 h => ?_; refine W.call rfl (view_View_fn hy8) ?_; refine Zwc 5 rfl ?_; refine A.regionC [0, 1, 2, 3, 4, 5, 6, 7] (by kernel_rfl) ?_; refine R.at_ rfl rfl ?_; refine Zm (.row 24 1 0) (Mem.add _ 24 (.rows 12 (List.map api_Event.enc ([] : List api_Event)) false)) rfl rfl ?_; refine R.nil ?_; refine R.at_ rfl rfl ?_; refine Zo (VF (List.map api_Event.enc l_)) rfl rfl ?_; refine R.nil ?_; refine R.at_ rfl rfl ?_; refine Y1 rfl ?_; refine W.chk rfl (appChk (fun _ => rfl) g5) ?_; refine W.rows (0 + (List.map api_Event.enc l_).length) (([] : List api_Event) ++ l_).length ([] ++ (List.map api_Event.enc l_)) (List.map api_Event.enc (([] : List api_Event) ++ l_)) rfl (by first | rfl | (simp; done) | simp only [partMap, List.length_map, List.length_append, List.nil_append, Nat.zero_add, List.length_nil]) (by first | rfl | (simp; done) | simp only [partMap, List.map_append, List.nil_append, List.map_nil]) ?_; refine R.nil ?_; refine R.at_ rfl rfl ?_; refine Zo (.agg (api_Event.av e_)) rfl rfl ?_; refine R.nil ?_; refine R.at_ rfl rfl ?_; refine Zm (.row 28 1 1) (Mem.add _ 28 (.rows 12 (List.map api_Event.enc [e_]) false)) rfl rfl ?_; refine R.nil ?_; refine R.at_ rfl rfl ?_; refine Y1 rfl ?_; refine W.chk rfl (appChk (fun _ => rfl) g6) ?_; refine W.app rfl rfl ?_; refine R.nil ?_; refine R.at_ rfl rfl ?_; refine Y1 rfl ?_; refine bindK h fun y11 hy11 h => ?_; refine W.call rfl (view_View_fn hy11) ?_; refine W.det (VF (List.map api_Msg.enc y11)) (Mem.set _ 24 3 (some (.rows 12 (List.map api_Event.enc ((([] : List api_Event) ++ l_) ++ [e_])) true))) rfl ?_; refine R.nil ?_; refine R.at_ rfl rfl ?_; refine Zo (VF (List.map api_Msg.enc y11)) rfl rfl ?_; refine R.nil ?_; refine R.end_ ?_; refine Zoc 9 rfl ?_; refine A.condB rfl h (fun _ h => ?_) (fun _ h => ?_)
    · refine Zcp 4 rfl ?_; refine Y1 rfl ?_; refine W.len rfl ?_; refine Zpp 1 rfl ?_; refine Y1 rfl ?_; refine W.len rfl ?_; refine Zpc 4 rfl ?_; refine A.condB rfl h (fun _ h => ?_) (fun _ h => ?_)
      · refine Zcb 8 rfl ?_; cases h; cases hG; exact ⟨rfl, trivial⟩
      · refine Zcp 6 rfl ?_; refine Y1 rfl ?_; refine W.len rfl ?_; refine Zpp 1 rfl ?_; refine Y1 rfl ?_; refine bindK h fun x16 hx16 h => ?_; refine W.chk rfl (elemB hx16) ?_; refine W.elem rfl (elemG hx16) ?_; refine W.chk rfl rfl ?_; refine W.det (.fp [.v (.int .i64 x16.Id), .v (.int .i64 x16.Author), .v (.int .i64 x16.Group), .v (.int .i64 x16.Parent), .v (.int .i64 x16.Quote), .v (.int .i64 x16.Who), .v (.string x16.Text), .fz (List.map (encI .i64) x16.Files), .v (.int .i64 x16.Edits), .fz (List.map Arr2_Int.enc x16.Reacts), .v (.bool x16.Gone)]) _ rfl ?_; refine Zo (.agg (api_Msg.av x16)) rfl rfl ?_; refine Zm (.lp 8 1 0) (Mem.add (Mem.add (Mem.add _ 524296 (.rows 1 (List.map (encI .i64) ([] : List Int)) false)) 655368 (.rows 2 (List.map Arr2_Int.enc ([] : List Arr2_Int)) false)) 8 (.box [VI 0, VI 0, VI 0, VI 0, VI 0, VI 0, VS (ByteArray.mk #[]), .row 524296 1 0, VI 0, .row 655368 1 0, VB false])) rfl rfl ?_; refine Zm (.tup []) (Mem.set _ 8 1 (some (.box (api_Msg.av x16)))) rfl rfl ?_; refine Zpp 6 rfl ?_; refine YT rfl rfl rfl h (fun _ h => ?_) (fun _ h => ?_)
        · refine Zwp 2 rfl ?_; refine Y2 rfl rfl rfl ?_; refine W.len rfl ?_; refine Y2 rfl rfl rfl ?_; refine chkK h fun g17 h => ?_; refine W.chk rfl (cutO_map (fun _ => rfl) g17) ?_; refine W.cut rfl ?_; refine Zpp 1 rfl ?_; refine Y2 rfl rfl rfl ?_; refine bindK h fun y18 hy18 h => ?_; refine W.call rfl (ref16_SameAll_fn hy18) ?_; refine Zwp 3 rfl ?_; refine YT rfl rfl rfl h (fun _ h => ?_) (fun _ h => ?_)
          · refine Zwp 3 rfl ?_; refine Y2 rfl rfl rfl ?_; refine W.len rfl ?_; refine Zpp 3 rfl ?_; refine YT rfl rfl rfl h (fun _ h => ?_) (fun _ h => ?_)
            · refine Zwp 7 rfl ?_; refine YT rfl rfl rfl h (fun _ h => ?_) (fun _ h => ?_)
              · refine Zwp 4 rfl ?_; refine Y2 rfl rfl rfl ?_; refine bindK h fun y19 hy19 h => ?_; refine W.call rfl (ref16_Ints_fn hy19) ?_; refine Zwp 3 rfl ?_; refine YT rfl rfl rfl h (fun _ h => ?_) (fun _ h => ?_)
                · refine Zwp 5 rfl ?_; refine YT rfl rfl rfl h (fun _ h => ?_) (fun _ h => ?_)
                  · refine Zwp 2 rfl ?_; refine Y2 rfl rfl rfl ?_; refine W.len rfl ?_; refine Zpp 3 rfl ?_; refine YT rfl rfl rfl h (fun _ h => ?_) (fun _ h => ?_)
                    · refine Zwb 9 rfl ?_; cases h; cases hG; exact ⟨rfl, trivial⟩
                    · refine Zpb 8 rfl ?_; cases h; cases hG; exact ⟨rfl, trivial⟩
                  · refine Zpb 14 rfl ?_; cases h; cases hG; exact ⟨rfl, trivial⟩
                · refine Zpb 19 rfl ?_; cases h; cases hG; exact ⟨rfl, trivial⟩
              · refine Zpb 26 rfl ?_; cases h; cases hG; exact ⟨rfl, trivial⟩
            · refine Zpb 33 rfl ?_; cases h; cases hG; exact ⟨rfl, trivial⟩
          · refine Zpb 40 rfl ?_; cases h; cases hG; exact ⟨rfl, trivial⟩
        · refine Zpb 48 rfl ?_; cases h; cases hG; exact ⟨rfl, trivial⟩
    · refine Zcp 6 rfl ?_; refine Y1 rfl ?_; refine W.len rfl ?_; refine Zpp 1 rfl ?_; refine Y1 rfl ?_; refine W.len rfl ?_; refine Zpc 3 rfl ?_; refine A.condB rfl h (fun _ h => ?_) (fun _ h => ?_)
      · refine Zcb 7 rfl ?_; cases h; cases hG; exact ⟨rfl, trivial⟩
      · refine Zcc 2 rfl ?_; refine A.join (fun (s20 : Unit) => [(5, VB y1)]) (fun s20 => []) _ h hG rfl ?_ ?_
        · intro J f h hG; refine Zac 6 rfl ?_; refine A.loop (fun (s21 : Int) => [(3, .lp 900000 1 0), (5, VB y1), (6, VF (List.map api_Msg.enc y8)), (7, VF (List.map api_Msg.enc y11)), (9, VI s21)]) (fun s21 => [(900000, .box (api_Event.av e_))]) _ h hG (Zf [] [(900000, (3, 1))] rfl rfl (Ze rfl rfl (Ze rfl rfl (Ze rfl rfl (Ze rfl rfl (Ze rfl rfl trivial))))) (Zc rfl rfl trivial)) ?_; intro J s21 f h hG; unfold law16_ViewActs_L1 at h; refine Zap 5 rfl ?_; refine Y1 rfl ?_; refine W.len rfl ?_; refine Zpc 3 rfl ?_; refine A.condB rfl h (fun _ h => ?_) (fun _ h => ?_)
          · refine Zcp 8 rfl ?_; refine Y1 rfl ?_; refine bindK h fun x141 hx141 h => ?_; refine W.chk rfl (elemB hx141) ?_; refine W.elem rfl (elemG hx141) ?_; refine W.chk rfl rfl ?_; refine W.det (.fp [.v (.int .i64 x141.Id), .v (.int .i64 x141.Author), .v (.int .i64 x141.Group), .v (.int .i64 x141.Parent), .v (.int .i64 x141.Quote), .v (.int .i64 x141.Who), .v (.string x141.Text), .fz (List.map (encI .i64) x141.Files), .v (.int .i64 x141.Edits), .fz (List.map Arr2_Int.enc x141.Reacts), .v (.bool x141.Gone)]) _ rfl ?_; refine Zo (.agg (api_Msg.av x141)) rfl rfl ?_; refine Zm (.lp 10 2 0) (Mem.add (Mem.add (Mem.add _ 524298 (.rows 1 (List.map (encI .i64) ([] : List Int)) false)) 655370 (.rows 2 (List.map Arr2_Int.enc ([] : List Arr2_Int)) false)) 10 (.box [VI 0, VI 0, VI 0, VI 0, VI 0, VI 0, VS (ByteArray.mk #[]), .row 524298 2 0, VI 0, .row 655370 2 0, VB false])) rfl rfl ?_; refine Zm (.tup []) (Mem.set _ 10 2 (some (.box (api_Msg.av x141)))) rfl rfl ?_; refine Zpc 2 rfl ?_; refine A.join (fun (s37 : Bool) => [(3, .lp 900000 1 0), (5, VB y1), (6, VF (List.map api_Msg.enc y8)), (7, VF (List.map api_Msg.enc y11)), (9, VI s21), (10, .lp 900001 1 0), (11, VB s37)]) (fun s37 => [(900000, .box (api_Event.av e_)), (900001, .box (api_Msg.av x141))]) _ h hG rfl ?_ ?_
            · intro J f h hG; refine Zap 7 rfl ?_; refine YT rfl rfl rfl h (fun _ h => ?_) (fun _ h => ?_)
              · refine Zwp 7 rfl ?_; refine YT rfl rfl rfl h (fun _ h => ?_) (fun _ h => ?_)
                · refine Zwb 6 rfl ?_; cases h; exact Zh hG [] [(900000, (900000, 1)), (900001, (10, 2))] rfl rfl (Ze rfl rfl (Ze rfl rfl (Ze rfl rfl (Ze rfl rfl (Ze rfl rfl (Ze rfl rfl (Ze rfl rfl trivial))))))) (Zc rfl rfl (Zc rfl rfl trivial))
                · refine Zpb 5 rfl ?_; cases h; exact Zh hG [] [(900000, (900000, 1)), (900001, (10, 2))] rfl rfl (Ze rfl rfl (Ze rfl rfl (Ze rfl rfl (Ze rfl rfl (Ze rfl rfl (Ze rfl rfl (Ze rfl rfl trivial))))))) (Zc rfl rfl (Zc rfl rfl trivial))
              · refine Zpb 12 rfl ?_; cases h; exact Zh hG [] [(900000, (900000, 1)), (900001, (10, 2))] rfl rfl (Ze rfl rfl (Ze rfl rfl (Ze rfl rfl (Ze rfl rfl (Ze rfl rfl (Ze rfl rfl (Ze rfl rfl trivial))))))) (Zc rfl rfl (Zc rfl rfl trivial))
            · intro s37 r2 h hG; refine A.join (fun (s38 : ByteArray × (List Int) × Int) => [(3, .lp 900000 1 0), (5, VB y1), (6, VF (List.map api_Msg.enc y8)), (7, VF (List.map api_Msg.enc y11)), (9, VI s21), (10, .lp 900001 1 0), (11, VB s37)]) (fun s38 => [(900000, .box (api_Event.av e_)), (900001, .box [VI x141.Id, VI x141.Author, VI x141.Group, VI x141.Parent, VI x141.Quote, VI x141.Who, VS s38.1, VF (List.map (encI .i64) s38.2.1), VI s38.2.2, VF (List.map Arr2_Int.enc x141.Reacts), VB x141.Gone])]) _ h hG rfl ?_ ?_
              · intro J f h hG; refine Zap 4 rfl ?_; refine YT rfl rfl rfl h (fun _ h => ?_) (fun _ h => ?_)
                · refine Zwp 5 rfl ?_; refine YT rfl rfl rfl h (fun _ h => ?_) (fun _ h => ?_)
                  · refine Zwc 8 rfl ?_; refine A.condB rfl h (fun _ h => ?_) (fun _ h => ?_)
                    · refine Zcp 5 rfl ?_; refine Zm (.tup []) (Mem.set _ 900001 1 (some (.box [VI x141.Id, VI x141.Author, VI x141.Group, VI x141.Parent, VI x141.Quote, VI x141.Who, VS e_.Text, VF (List.map (encI .i64) x141.Files), VI x141.Edits, VF (List.map Arr2_Int.enc x141.Reacts), VB x141.Gone]))) rfl rfl ?_; refine Zpp 7 rfl ?_; refine Zm (.tup []) (Mem.set _ 900001 1 (some (.box [VI x141.Id, VI x141.Author, VI x141.Group, VI x141.Parent, VI x141.Quote, VI x141.Who, VS e_.Text, VF (List.map (encI .i64) e_.Files), VI x141.Edits, VF (List.map Arr2_Int.enc x141.Reacts), VB x141.Gone]))) rfl rfl ?_; refine Zpp 7 rfl ?_; refine Zm (.tup []) (Mem.set _ 900001 1 (some (.box [VI x141.Id, VI x141.Author, VI x141.Group, VI x141.Parent, VI x141.Quote, VI x141.Who, VS e_.Text, VF (List.map (encI .i64) e_.Files), VI (IntKind.i64.wrap (x141.Edits + (1 : Int))), VF (List.map Arr2_Int.enc x141.Reacts), VB x141.Gone]))) rfl rfl ?_; refine Zpb 1 rfl ?_; cases h; exact Zh hG [] [(900000, (900000, 1)), (900001, (900001, 1))] rfl rfl (Ze rfl rfl (Ze rfl rfl (Ze rfl rfl (Ze rfl rfl (Ze rfl rfl (Ze rfl rfl (Ze rfl rfl trivial))))))) (Zc rfl rfl (Zc rfl rfl trivial))
                    · refine Zcb 1 rfl ?_; cases h; exact Zh hG [] [(900000, (900000, 1)), (900001, (900001, 1))] rfl rfl (Ze rfl rfl (Ze rfl rfl (Ze rfl rfl (Ze rfl rfl (Ze rfl rfl (Ze rfl rfl (Ze rfl rfl trivial))))))) (Zc rfl rfl (Zc rfl rfl trivial))
                  · refine Zpb 9 rfl ?_; cases h; exact Zh hG [] [(900000, (900000, 1)), (900001, (900001, 1))] rfl rfl (Ze rfl rfl (Ze rfl rfl (Ze rfl rfl (Ze rfl rfl (Ze rfl rfl (Ze rfl rfl (Ze rfl rfl trivial))))))) (Zc rfl rfl (Zc rfl rfl trivial))
                · refine Zpb 14 rfl ?_; cases h; exact Zh hG [] [(900000, (900000, 1)), (900001, (900001, 1))] rfl rfl (Ze rfl rfl (Ze rfl rfl (Ze rfl rfl (Ze rfl rfl (Ze rfl rfl (Ze rfl rfl (Ze rfl rfl trivial))))))) (Zc rfl rfl (Zc rfl rfl trivial))
              · intro s38 r2 h hG; refine A.join (fun (s39 : ByteArray × (List Int) × Int × (List Arr2_Int) × Bool) => [(3, .lp 900000 1 0), (5, VB y1), (6, VF (List.map api_Msg.enc y8)), (7, VF (List.map api_Msg.enc y11)), (9, VI s21), (10, .lp 900001 1 0), (11, VB s37)]) (fun s39 => [(900000, .box (api_Event.av e_)), (900001, .box [VI x141.Id, VI x141.Author, VI x141.Group, VI x141.Parent, VI x141.Quote, VI x141.Who, VS s39.1, VF (List.map (encI .i64) s39.2.1), VI s39.2.2.1, VF (List.map Arr2_Int.enc s39.2.2.2.1), VB s39.2.2.2.2])]) _ h hG rfl ?_ ?_
                · intro J f h hG; refine Zap 4 rfl ?_; refine YT rfl rfl rfl h (fun _ h => ?_) (fun _ h => ?_)
                  · refine Zwc 6 rfl ?_; refine A.condB rfl h (fun _ h => ?_) (fun _ h => ?_)
                    · refine Zcp 3 rfl ?_; refine Zm (.tup []) (Mem.set _ 900001 1 (some (.box [VI x141.Id, VI x141.Author, VI x141.Group, VI x141.Parent, VI x141.Quote, VI x141.Who, VS (ByteArray.mk #[]), VF (List.map (encI .i64) s38.2.1), VI s38.2.2, VF (List.map Arr2_Int.enc x141.Reacts), VB x141.Gone]))) rfl rfl ?_; refine Zpp 5 rfl ?_; refine Zm (.tup []) (Mem.set (Mem.add _ 9354145 (.rows 1 (List.map (encI .i64) ([] : List Int)) false)) 900001 1 (some (.box [VI x141.Id, VI x141.Author, VI x141.Group, VI x141.Parent, VI x141.Quote, VI x141.Who, VS (ByteArray.mk #[]), .row 9354145 2 0, VI s38.2.2, VF (List.map Arr2_Int.enc x141.Reacts), VB x141.Gone]))) rfl rfl ?_; refine Zpp 5 rfl ?_; refine Zm (.tup []) (Mem.set _ 900001 1 (some (.box [VI x141.Id, VI x141.Author, VI x141.Group, VI x141.Parent, VI x141.Quote, VI x141.Who, VS (ByteArray.mk #[]), .row 9354145 2 0, VI 0, VF (List.map Arr2_Int.enc x141.Reacts), VB x141.Gone]))) rfl rfl ?_; refine Zpp 5 rfl ?_; refine Zm (.tup []) (Mem.set (Mem.add _ 11451297 (.rows 2 (List.map Arr2_Int.enc ([] : List Arr2_Int)) false)) 900001 1 (some (.box [VI x141.Id, VI x141.Author, VI x141.Group, VI x141.Parent, VI x141.Quote, VI x141.Who, VS (ByteArray.mk #[]), .row 9354145 2 0, VI 0, .row 11451297 2 0, VB x141.Gone]))) rfl rfl ?_; refine Zpp 4 rfl ?_; refine Zm (.tup []) (Mem.set _ 900001 1 (some (.box [VI x141.Id, VI x141.Author, VI x141.Group, VI x141.Parent, VI x141.Quote, VI x141.Who, VS (ByteArray.mk #[]), .row 9354145 2 0, VI 0, .row 11451297 2 0, VB true]))) rfl rfl ?_; refine Zpb 1 rfl ?_; cases h; exact Zh hG [(9354145, 2), (11451297, 2)] [(900000, (900000, 1)), (900001, (900001, 1))] rfl rfl (Ze rfl rfl (Ze rfl rfl (Ze rfl rfl (Ze rfl rfl (Ze rfl rfl (Ze rfl rfl (Ze rfl rfl trivial))))))) (Zc rfl rfl (Zc rfl rfl trivial))
                    · refine Zcb 1 rfl ?_; cases h; exact Zh hG [] [(900000, (900000, 1)), (900001, (900001, 1))] rfl rfl (Ze rfl rfl (Ze rfl rfl (Ze rfl rfl (Ze rfl rfl (Ze rfl rfl (Ze rfl rfl (Ze rfl rfl trivial))))))) (Zc rfl rfl (Zc rfl rfl trivial))
                  · refine Zpb 7 rfl ?_; cases h; exact Zh hG [] [(900000, (900000, 1)), (900001, (900001, 1))] rfl rfl (Ze rfl rfl (Ze rfl rfl (Ze rfl rfl (Ze rfl rfl (Ze rfl rfl (Ze rfl rfl (Ze rfl rfl trivial))))))) (Zc rfl rfl (Zc rfl rfl trivial))
                · intro s39 r2 h hG; refine Zcp 5 rfl ?_; refine YT rfl rfl rfl h (fun _ h => ?_) (fun _ h => ?_)
                  · refine Zwp 4 rfl ?_; refine YF rfl rfl rfl h (fun _ h => ?_) (fun _ h => ?_)
                    · refine Zpp 10 rfl ?_; refine Y1 rfl ?_; refine bindK h fun x144 hx144 h => ?_; refine W.chk rfl (elemB hx144) ?_; refine W.elem rfl (elemG hx144) ?_; refine W.chk rfl rfl ?_; refine W.det (.fp [.v (.int .i64 x144.Id), .v (.int .i64 x144.Author), .v (.int .i64 x144.Group), .v (.int .i64 x144.Parent), .v (.int .i64 x144.Quote), .v (.int .i64 x144.Who), .v (.string x144.Text), .fz (List.map (encI .i64) x144.Files), .v (.int .i64 x144.Edits), .fz (List.map Arr2_Int.enc x144.Reacts), .v (.bool x144.Gone)]) _ rfl ?_; refine Zo (.fp [.fz (List.map Arr2_Int.enc x144.Reacts), .v (.bool x144.Gone)]) rfl rfl ?_; refine Zpp 2 rfl ?_; refine Zm (.tup []) (Mem.set _ 900001 1 (some (.box [VI x141.Id, VI x141.Author, VI x141.Group, VI x141.Parent, VI x141.Quote, VI x141.Who, VS s39.1, VF (List.map (encI .i64) s39.2.1), VI s39.2.2.1, VF (List.map Arr2_Int.enc x144.Reacts), VB s39.2.2.2.2]))) rfl rfl ?_; refine Zpc 3 rfl ?_; refine A.regionD (by kernel_rfl) ?_; refine Zo (.agg [VI x141.Id, VI x141.Author, VI x141.Group, VI x141.Parent, VI x141.Quote, VI x141.Who, VS s39.1, VF (List.map (encI .i64) s39.2.1), VI s39.2.2.1, VF (List.map Arr2_Int.enc x144.Reacts), VB s39.2.2.2.2]) rfl rfl ?_; refine Zpp 2 rfl ?_; refine Y1 rfl ?_; refine W.chk rfl (elemB hx144) ?_; refine W.elem rfl (elemG hx144) ?_; refine W.chk rfl rfl ?_; refine W.det (.fp [.v (.int .i64 x144.Id), .v (.int .i64 x144.Author), .v (.int .i64 x144.Group), .v (.int .i64 x144.Parent), .v (.int .i64 x144.Quote), .v (.int .i64 x144.Who), .v (.string x144.Text), .fz (List.map (encI .i64) x144.Files), .v (.int .i64 x144.Edits), .fz (List.map Arr2_Int.enc x144.Reacts), .v (.bool x144.Gone)]) _ rfl ?_; refine Zo (.agg (api_Msg.av x144)) rfl rfl ?_; refine Y1 rfl ?_; refine bindK h fun y145 hy145 h => ?_; refine W.call rfl (ref16_Same_fn hy145) ?_; refine Zwc 4 rfl ?_; refine A.condB rfl h (fun _ h => ?_) (fun _ h => ?_)
                      · refine Zcb 8 rfl ?_; refine headK.r ?_; refine Zob 1 rfl ?_; refine headK.r ?_; cases h; cases hG; exact ⟨rfl, trivial⟩
                      · refine Zcb 8 rfl ?_; cases h; exact Zh hG [] [(900000, (900000, 1))] rfl rfl (Ze rfl rfl (Ze rfl rfl (Ze rfl rfl (Ze rfl rfl (Ze rfl rfl trivial))))) (Zc rfl rfl trivial)
                    · refine Zwc 7 rfl ?_; refine A.condB rfl h (fun _ h => ?_) (fun _ h => ?_)
                      · refine Zcp 3 rfl ?_; refine Y1 rfl ?_; refine bindK h fun x146 hx146 h => ?_; refine W.chk rfl (elemB hx146) ?_; refine W.elem rfl (elemG hx146) ?_; refine W.chk rfl rfl ?_; refine W.det (.fp [.v (.int .i64 x146.Id), .v (.int .i64 x146.Author), .v (.int .i64 x146.Group), .v (.int .i64 x146.Parent), .v (.int .i64 x146.Quote), .v (.int .i64 x146.Who), .v (.string x146.Text), .fz (List.map (encI .i64) x146.Files), .v (.int .i64 x146.Edits), .fz (List.map Arr2_Int.enc x146.Reacts), .v (.bool x146.Gone)]) _ rfl ?_; refine Zo (.fp [.fz (List.map Arr2_Int.enc x146.Reacts), .v (.bool x146.Gone)]) rfl rfl ?_; refine Zpp 2 rfl ?_; refine Zm (.tup []) (Mem.set _ 900001 1 (some (.box [VI x141.Id, VI x141.Author, VI x141.Group, VI x141.Parent, VI x141.Quote, VI x141.Who, VS s39.1, VF (List.map (encI .i64) s39.2.1), VI s39.2.2.1, VF (List.map Arr2_Int.enc x146.Reacts), VB s39.2.2.2.2]))) rfl rfl ?_; refine Zpc 3 rfl ?_; refine A.regionD (by kernel_rfl) ?_; refine Zo (.agg [VI x141.Id, VI x141.Author, VI x141.Group, VI x141.Parent, VI x141.Quote, VI x141.Who, VS s39.1, VF (List.map (encI .i64) s39.2.1), VI s39.2.2.1, VF (List.map Arr2_Int.enc x146.Reacts), VB s39.2.2.2.2]) rfl rfl ?_; refine Zpp 2 rfl ?_; refine Y1 rfl ?_; refine W.chk rfl (elemB hx146) ?_; refine W.elem rfl (elemG hx146) ?_; refine W.chk rfl rfl ?_; refine W.det (.fp [.v (.int .i64 x146.Id), .v (.int .i64 x146.Author), .v (.int .i64 x146.Group), .v (.int .i64 x146.Parent), .v (.int .i64 x146.Quote), .v (.int .i64 x146.Who), .v (.string x146.Text), .fz (List.map (encI .i64) x146.Files), .v (.int .i64 x146.Edits), .fz (List.map Arr2_Int.enc x146.Reacts), .v (.bool x146.Gone)]) _ rfl ?_; refine Zo (.agg (api_Msg.av x146)) rfl rfl ?_; refine Y1 rfl ?_; refine bindK h fun y147 hy147 h => ?_; refine W.call rfl (ref16_Same_fn hy147) ?_; refine Zwc 4 rfl ?_; refine A.condB rfl h (fun _ h => ?_) (fun _ h => ?_)
                        · refine Zcb 8 rfl ?_; refine headK.r ?_; refine Zob 1 rfl ?_; refine headK.r ?_; cases h; cases hG; exact ⟨rfl, trivial⟩
                        · refine Zcb 8 rfl ?_; cases h; exact Zh hG [] [(900000, (900000, 1))] rfl rfl (Ze rfl rfl (Ze rfl rfl (Ze rfl rfl (Ze rfl rfl (Ze rfl rfl trivial))))) (Zc rfl rfl trivial)
                      · refine Zcc 3 rfl ?_; refine A.regionD (by kernel_rfl) ?_; refine Zo (.agg [VI x141.Id, VI x141.Author, VI x141.Group, VI x141.Parent, VI x141.Quote, VI x141.Who, VS s39.1, VF (List.map (encI .i64) s39.2.1), VI s39.2.2.1, VF (List.map Arr2_Int.enc s39.2.2.2.1), VB s39.2.2.2.2]) rfl rfl ?_; refine Zpp 2 rfl ?_; refine Y1 rfl ?_; refine bindK h fun x148 hx148 h => ?_; refine W.chk rfl (elemB hx148) ?_; refine W.elem rfl (elemG hx148) ?_; refine W.chk rfl rfl ?_; refine W.det (.fp [.v (.int .i64 x148.Id), .v (.int .i64 x148.Author), .v (.int .i64 x148.Group), .v (.int .i64 x148.Parent), .v (.int .i64 x148.Quote), .v (.int .i64 x148.Who), .v (.string x148.Text), .fz (List.map (encI .i64) x148.Files), .v (.int .i64 x148.Edits), .fz (List.map Arr2_Int.enc x148.Reacts), .v (.bool x148.Gone)]) _ rfl ?_; refine Zo (.agg (api_Msg.av x148)) rfl rfl ?_; refine Y1 rfl ?_; refine bindK h fun y149 hy149 h => ?_; refine W.call rfl (ref16_Same_fn hy149) ?_; refine Zwc 4 rfl ?_; refine A.condB rfl h (fun _ h => ?_) (fun _ h => ?_)
                        · refine Zcb 8 rfl ?_; refine headK.r ?_; refine Zob 1 rfl ?_; refine headK.r ?_; cases h; cases hG; exact ⟨rfl, trivial⟩
                        · refine Zcb 8 rfl ?_; cases h; exact Zh hG [] [(900000, (900000, 1))] rfl rfl (Ze rfl rfl (Ze rfl rfl (Ze rfl rfl (Ze rfl rfl (Ze rfl rfl trivial))))) (Zc rfl rfl trivial)
                  · refine Zpc 14 rfl ?_; refine A.regionD (by kernel_rfl) ?_; refine Zo (.agg [VI x141.Id, VI x141.Author, VI x141.Group, VI x141.Parent, VI x141.Quote, VI x141.Who, VS s39.1, VF (List.map (encI .i64) s39.2.1), VI s39.2.2.1, VF (List.map Arr2_Int.enc s39.2.2.2.1), VB s39.2.2.2.2]) rfl rfl ?_; refine Zpp 2 rfl ?_; refine Y1 rfl ?_; refine bindK h fun x150 hx150 h => ?_; refine W.chk rfl (elemB hx150) ?_; refine W.elem rfl (elemG hx150) ?_; refine W.chk rfl rfl ?_; refine W.det (.fp [.v (.int .i64 x150.Id), .v (.int .i64 x150.Author), .v (.int .i64 x150.Group), .v (.int .i64 x150.Parent), .v (.int .i64 x150.Quote), .v (.int .i64 x150.Who), .v (.string x150.Text), .fz (List.map (encI .i64) x150.Files), .v (.int .i64 x150.Edits), .fz (List.map Arr2_Int.enc x150.Reacts), .v (.bool x150.Gone)]) _ rfl ?_; refine Zo (.agg (api_Msg.av x150)) rfl rfl ?_; refine Y1 rfl ?_; refine bindK h fun y151 hy151 h => ?_; refine W.call rfl (ref16_Same_fn hy151) ?_; refine Zwc 4 rfl ?_; refine A.condB rfl h (fun _ h => ?_) (fun _ h => ?_)
                    · refine Zcb 8 rfl ?_; refine headK.r ?_; refine Zob 1 rfl ?_; refine headK.r ?_; cases h; cases hG; exact ⟨rfl, trivial⟩
                    · refine Zcb 8 rfl ?_; cases h; exact Zh hG [] [(900000, (900000, 1))] rfl rfl (Ze rfl rfl (Ze rfl rfl (Ze rfl rfl (Ze rfl rfl (Ze rfl rfl trivial))))) (Zc rfl rfl trivial)
          · refine Zcb 2 rfl ?_; refine headK.e ?_; refine Zob 1 rfl ?_; cases h; exact Zh hG [] [] rfl rfl (Ze rfl rfl trivial) trivial
        · intro s20 r2 h hG; refine Zcb 7 rfl ?_; cases h; cases hG; exact ⟨rfl, trivial⟩
end Go.Proofs.Ytpikahfgidgdbaa

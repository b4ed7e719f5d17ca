/-
  Plain programs of functions, and that the functions do what they say. Printed by wip/tools/gen.py.
-/
import Derived.Test.YtljdbikodogeiaaDoorG4
namespace Go.Proofs.YtljdbikodogeiaaDoor
open Go.RowKit
attribute [local irreducible] IntKind.wrap AW runL Step.wp
set_option linter.unusedVariables false
set_option maxHeartbeats 4000000
set_option maxRecDepth 100000
noncomputable def law21_ForthLocal (p_ : api_Profile) (events_ : (List api_Event)) (bad_ : (List Int)) (at_ : Int) (id_ : Int) (text_ : ByteArray) (files_ : (List Int)) : Option (Bool) :=
  (law21_small).bind fun y1 =>
  (ways_Compile p_).bind fun y2 =>
  (ref21_Few events_ bad_ (14 : Int)).bind fun y6 =>
  (bif (!y6) then
    some y1
  else
    (bif (y2.2 != (0 : Int)) then
      some y1
    else
      (bif ((events_.length : Int) == (0 : Int)) then
        some y1
      else
        (bif (decide ((300 : Int) < (text_.size : Int))) then
          some y1
        else
          (bif (decide ((10 : Int) < (files_.length : Int))) then
            some y1
          else
            (chkO ((events_.length : Int) != 0)).bind fun _ =>
            (getI events_ (Int.tmod (IntKind.i64.wrap id_) (events_.length : Int))).bind fun x9 =>
            (seqF (A := Bool) (
              (bif ((Int.tmod (IntKind.i64.wrap at_) (events_.length : Int)) == (Int.tmod (IntKind.i64.wrap id_) (events_.length : Int))) then
                some (.inl true)
              else
                (bif (x9.Target == (Int.tmod (IntKind.i64.wrap at_) (events_.length : Int))) then
                  some (.inl true)
                else
                  some (.inl (x9.Quote == (Int.tmod (IntKind.i64.wrap at_) (events_.length : Int)))))))
            fun s1 =>
              (seqF (A := Bool) (
                (seqF (A := Bool) (
                  (bif (x9.Kind != (0 : Int)) then
                    (bif (decide ((0 : Int) ≤ x9.Target)) then
                      some (.inl (decide (x9.Target < (events_.length : Int))))
                    else
                      some (.inl false))
                  else
                    some (.inl false)))
                fun s4 =>
                  (bif s4 then
                    (getI events_ x9.Target).bind fun x11 =>
                    (bif s1 then
                      some (.inl true)
                    else
                      (bif (x11.Target == (Int.tmod (IntKind.i64.wrap at_) (events_.length : Int))) then
                        some (.inl true)
                      else
                        some (.inl (x11.Quote == (Int.tmod (IntKind.i64.wrap at_) (events_.length : Int))))))
                  else
                    some (.inl s1))))
              fun s3 =>
                (bif s3 then
                  some y1
                else
                  (chkO (decide (0 + events_.length ≤ 1000000))).bind fun _ =>
                  (chkO (decide (0 ≤ (Int.tmod (IntKind.i64.wrap at_) (events_.length : Int))) && decide ((Int.tmod (IntKind.i64.wrap at_) (events_.length : Int)) < (((([] : List api_Event) ++ events_).length : Nat) : Int)))).bind fun _ =>
                  (getI (([] : List api_Event) ++ events_) (Int.tmod (IntKind.i64.wrap at_) (events_.length : Int))).bind fun x14 =>
                  (getI (List.set (([] : List api_Event) ++ events_) (Int.tmod (IntKind.i64.wrap at_) (events_.length : Int)).toNat (api_Event.mk x14.Author x14.Seq x14.Causes x14.Kind x14.Group x14.Target x14.Quote x14.Who x14.N text_ x14.Files x14.Step)) (Int.tmod (IntKind.i64.wrap at_) (events_.length : Int))).bind fun x16 =>
                  (forth_Forth p_ y2.1 events_ bad_ (Int.tmod (IntKind.i64.wrap id_) (events_.length : Int))).bind fun y17 =>
                  (forth_Forth p_ y2.1 (List.set (List.set (([] : List api_Event) ++ events_) (Int.tmod (IntKind.i64.wrap at_) (events_.length : Int)).toNat (api_Event.mk x14.Author x14.Seq x14.Causes x14.Kind x14.Group x14.Target x14.Quote x14.Who x14.N text_ x14.Files x14.Step)) (Int.tmod (IntKind.i64.wrap at_) (events_.length : Int)).toNat (api_Event.mk x16.Author x16.Seq x16.Causes x16.Kind x16.Group x16.Target x16.Quote x16.Who x16.N x16.Text files_ x16.Step)) bad_ (Int.tmod (IntKind.i64.wrap id_) (events_.length : Int))).bind fun y18 =>
                  (bif y1 then
                    (bif (y17.2 == y18.2) then
                      (ref21_SameItems y17.1 y18.1).bind fun y19 =>
                      some y19
                    else
                      some false)
                  else
                    some false)))))))))
theorem law21_ForthLocal_fn {dr : Prop} {p_ : api_Profile} {events_ : (List api_Event)} {bad_ : (List Int)} {at_ : Int} {id_ : Int} {text_ : ByteArray} {files_ : (List Int)} {r : Bool} (h : law21_ForthLocal p_ events_ bad_ at_ id_ text_ files_ = some r) : Fn dr Tryd.prog 3 [.agg (api_Profile.av p_), VF (List.map api_Event.enc events_), VF (List.map (encI .i64) bad_), .d (.v (.int .u8 at_)), .d (.v (.int .u8 id_)), VS text_, VF (List.map (encI .i64) files_)] (VB r) := by
  refine Fn.of_AW (dr := dr) (F := FnX dr Tryd.prog) (base := 0) (js := [9, 10, 12]) mixed tok noeqs (fun _ _ _ h => h) Tryd.call3 Tryd.func3 rfl Tryd.ntmps3 (by rw [Tryd.results3]) (by simp) ?_; have hG : (fun x => x = r) r := rfl; unfold law21_ForthLocal at h; refine Zap 2 rfl ?_; refine Zm (.lp 7 1 0) (Mem.add _ 7 (.box (api_Profile.av p_))) rfl rfl ?_; refine Zpp 5 rfl ?_; refine Y1 rfl ?_; refine bindK h fun y1 hy1 h => ?_; refine W.call rfl (law21_small_fn hy1) ?_; refine Zwp 6 rfl ?_; refine Zo (.agg (api_Profile.av p_)) rfl rfl ?_; refine Y1 rfl ?_; refine bindK h fun y2 hy2 h => ?_; refine W.call rfl (ways_Compile_fn hy2) ?_; refine W.v (.tup [.row 1048607 1 (List.map api_Way.enc y2.1).length, VI y2.2]) (.tup [.row 1048607 1 y2.1.length, VI y2.2]) (Mem.add _ 1048607 (.rows 2 (List.map api_Way.enc y2.1) false)) rfl (by simp only [List.length_map]) ?_; refine Zo (.tup [.row 1048607 1 y2.1.length, VI y2.2]) rfl rfl ?_; refine Zo (.row 1048607 1 y2.1.length) rfl rfl ?_; refine Zpp 1 rfl ?_; refine Zo (.row 1048607 1 y2.1.length) rfl rfl ?_; refine Zpp 8 rfl ?_; refine Y1 rfl ?_; refine bindK h fun y6 hy6 h => ?_; refine W.call rfl (ref21_Few_fn hy6) ?_; refine Zwp 3 rfl ?_; refine YF rfl rfl rfl h (fun _ h => ?_) (fun _ h => ?_)
  · refine Zpb 28 rfl ?_; cases h; cases hG; exact ⟨rfl, trivial⟩
  · refine Zwp 4 rfl ?_; refine YF rfl rfl rfl h (fun _ h => ?_) (fun _ h => ?_)
    · refine Zpb 24 rfl ?_; cases h; cases hG; exact ⟨rfl, trivial⟩
    · refine Zwp 1 rfl ?_; refine Y2 rfl rfl rfl ?_; refine W.len rfl ?_; refine Zpp 3 rfl ?_; refine YF rfl rfl rfl h (fun _ h => ?_) (fun _ h => ?_)
      · refine Zpb 19 rfl ?_; cases h; cases hG; exact ⟨rfl, trivial⟩
      · refine Zwp 5 rfl ?_; refine YF rfl rfl rfl h (fun _ h => ?_) (fun _ h => ?_)
        · refine Zpb 14 rfl ?_; cases h; cases hG; exact ⟨rfl, trivial⟩
        · refine Zwp 1 rfl ?_; refine Y2 rfl rfl rfl ?_; refine W.len rfl ?_; refine Zpc 4 rfl ?_; refine A.condB rfl h (fun _ h => ?_) (fun _ h => ?_)
          · refine Zcb 8 rfl ?_; cases h; cases hG; exact ⟨rfl, trivial⟩
          · refine Zcp 7 rfl ?_; refine Y1 rfl ?_; refine W.len rfl ?_; refine Y1 rfl ?_; refine chkK h fun g7 h => ?_; refine W.chk rfl (by simpa using g7) ?_; refine Zwp 9 rfl ?_; refine Y1 rfl ?_; refine W.len rfl ?_; refine Y1 rfl ?_; refine W.chk rfl (by simpa using g7) ?_; refine Zwp 8 rfl ?_; refine Y1 rfl ?_; refine bindK h fun x9 hx9 h => ?_; refine W.chk rfl (elemB hx9) ?_; refine W.elem rfl (elemG hx9) ?_; refine W.chk rfl rfl ?_; refine W.det (.fp [.v (.int .i64 x9.Author), .v (.int .i64 x9.Seq), .fz (List.map (encI .i64) x9.Causes), .v (.int .i64 x9.Kind), .v (.int .i64 x9.Group), .v (.int .i64 x9.Target), .v (.int .i64 x9.Quote), .v (.int .i64 x9.Who), .v (.int .i64 x9.N), .v (.string x9.Text), .fz (List.map (encI .i64) x9.Files), .v (.int .i64 x9.Step)]) _ rfl ?_; refine Zo (.agg (api_Event.av x9)) rfl rfl ?_; refine Zm (.lp 20 1 0) (Mem.add (Mem.add (Mem.add _ 196628 (.rows 1 (List.map (encI .i64) ([] : List Int)) false)) 720916 (.rows 1 (List.map (encI .i64) ([] : List Int)) false)) 20 (.box [VI 0, VI 0, .row 196628 1 0, VI 0, VI 0, VI 0, VI 0, VI 0, VI 0, VS (ByteArray.mk #[]), .row 720916 1 0, VI 0])) rfl rfl ?_; refine Zm (.tup []) (Mem.set _ 20 1 (some (.box (api_Event.av x9)))) rfl rfl ?_; refine Zpc 2 rfl ?_; refine A.join (fun (s1 : Bool) => [(1, VF (List.map api_Event.enc events_)), (2, VF (List.map (encI .i64) bad_)), (5, VS text_), (6, VF (List.map (encI .i64) files_)), (7, .lp 900000 1 0), (15, VB y1), (16, .row 900001 1 y2.1.length), (18, VI (Int.tmod (IntKind.i64.wrap at_) (events_.length : Int))), (19, VI (Int.tmod (IntKind.i64.wrap id_) (events_.length : Int))), (20, .lp 900002 1 0), (21, VB s1)]) (fun s1 => [(900000, .box (api_Profile.av p_)), (900001, .rows 2 (List.map api_Way.enc y2.1) false), (900002, .box (api_Event.av x9))]) _ h hG rfl ?_ ?_
            · intro J f h hG; refine Zap 5 rfl ?_; refine YF rfl rfl rfl h (fun _ h => ?_) (fun _ h => ?_)
              · refine Zpb 12 rfl ?_; cases h; exact Zh hG [] [(900000, (7, 1)), (900001, (1048607, 1)), (900002, (20, 1))] rfl rfl (Ze rfl rfl (Ze rfl rfl (Ze rfl rfl (Ze rfl rfl (Ze rfl rfl (Ze rfl rfl (Ze rfl rfl (Ze rfl rfl (Ze rfl rfl (Ze rfl rfl (Ze rfl rfl trivial))))))))))) (Zc rfl rfl (Zc rfl rfl (Zc rfl rfl trivial)))
              · refine Zwp 6 rfl ?_; refine YF rfl rfl rfl h (fun _ h => ?_) (fun _ h => ?_)
                · refine Zpb 6 rfl ?_; cases h; exact Zh hG [] [(900000, (7, 1)), (900001, (1048607, 1)), (900002, (20, 1))] rfl rfl (Ze rfl rfl (Ze rfl rfl (Ze rfl rfl (Ze rfl rfl (Ze rfl rfl (Ze rfl rfl (Ze rfl rfl (Ze rfl rfl (Ze rfl rfl (Ze rfl rfl (Ze rfl rfl trivial))))))))))) (Zc rfl rfl (Zc rfl rfl (Zc rfl rfl trivial)))
                · refine Zwb 7 rfl ?_; cases h; exact Zh hG [] [(900000, (7, 1)), (900001, (1048607, 1)), (900002, (20, 1))] rfl rfl (Ze rfl rfl (Ze rfl rfl (Ze rfl rfl (Ze rfl rfl (Ze rfl rfl (Ze rfl rfl (Ze rfl rfl (Ze rfl rfl (Ze rfl rfl (Ze rfl rfl (Ze rfl rfl trivial))))))))))) (Zc rfl rfl (Zc rfl rfl (Zc rfl rfl trivial)))
            · intro s1 r2 h hG; refine A.join (fun (s3 : Bool) => [(1, VF (List.map api_Event.enc events_)), (2, VF (List.map (encI .i64) bad_)), (5, VS text_), (6, VF (List.map (encI .i64) files_)), (7, .lp 900000 1 0), (15, VB y1), (16, .row 900001 1 y2.1.length), (18, VI (Int.tmod (IntKind.i64.wrap at_) (events_.length : Int))), (19, VI (Int.tmod (IntKind.i64.wrap id_) (events_.length : Int))), (21, VB s3)]) (fun s3 => [(900000, .box (api_Profile.av p_)), (900001, .rows 2 (List.map api_Way.enc y2.1) false)]) _ h hG rfl ?_ ?_
              · intro J f h hG; refine Za ?_; refine A.join (fun (s4 : Bool) => [(1, VF (List.map api_Event.enc events_)), (2, VF (List.map (encI .i64) bad_)), (5, VS text_), (6, VF (List.map (encI .i64) files_)), (7, .lp 900000 1 0), (15, VB y1), (16, .row 900001 1 y2.1.length), (18, VI (Int.tmod (IntKind.i64.wrap at_) (events_.length : Int))), (19, VI (Int.tmod (IntKind.i64.wrap id_) (events_.length : Int))), (20, .lp 900002 1 0), (21, VB s1), (101, VB s4)]) (fun s4 => [(900000, .box (api_Profile.av p_)), (900001, .rows 2 (List.map api_Way.enc y2.1) false), (900002, .box (api_Event.av x9))]) _ h hG rfl ?_ ?_
                · intro J f h hG; refine Zap 5 rfl ?_; refine YT rfl rfl rfl h (fun _ h => ?_) (fun _ h => ?_)
                  · refine Zwp 5 rfl ?_; refine YT rfl rfl rfl h (fun _ h => ?_) (fun _ h => ?_)
                    · refine Zwp 3 rfl ?_; refine Y2 rfl rfl rfl ?_; refine W.len rfl ?_; refine Zpb 3 rfl ?_; cases h; exact Zh hG [] [(900000, (900000, 1)), (900001, (900001, 1)), (900002, (900002, 1))] rfl rfl (Ze rfl rfl (Ze rfl rfl (Ze rfl rfl (Ze rfl rfl (Ze rfl rfl (Ze rfl rfl (Ze rfl rfl (Ze rfl rfl (Ze rfl rfl (Ze rfl rfl (Ze rfl rfl (Ze rfl rfl trivial)))))))))))) (Zc rfl rfl (Zc rfl rfl (Zc rfl rfl trivial)))
                    · refine Zpb 6 rfl ?_; cases h; exact Zh hG [] [(900000, (900000, 1)), (900001, (900001, 1)), (900002, (900002, 1))] rfl rfl (Ze rfl rfl (Ze rfl rfl (Ze rfl rfl (Ze rfl rfl (Ze rfl rfl (Ze rfl rfl (Ze rfl rfl (Ze rfl rfl (Ze rfl rfl (Ze rfl rfl (Ze rfl rfl (Ze rfl rfl trivial)))))))))))) (Zc rfl rfl (Zc rfl rfl (Zc rfl rfl trivial)))
                  · refine Zpb 11 rfl ?_; cases h; exact Zh hG [] [(900000, (900000, 1)), (900001, (900001, 1)), (900002, (900002, 1))] rfl rfl (Ze rfl rfl (Ze rfl rfl (Ze rfl rfl (Ze rfl rfl (Ze rfl rfl (Ze rfl rfl (Ze rfl rfl (Ze rfl rfl (Ze rfl rfl (Ze rfl rfl (Ze rfl rfl (Ze rfl rfl trivial)))))))))))) (Zc rfl rfl (Zc rfl rfl (Zc rfl rfl trivial)))
                · intro s4 r2 h hG; refine A.condB rfl h (fun _ h => ?_) (fun _ h => ?_)
                  · refine Zcp 5 rfl ?_; refine Y1 rfl ?_; refine bindK h fun x11 hx11 h => ?_; refine W.chk rfl (elemB hx11) ?_; refine W.elem rfl (elemG hx11) ?_; refine W.chk rfl rfl ?_; refine W.det (.fp [.v (.int .i64 x11.Author), .v (.int .i64 x11.Seq), .fz (List.map (encI .i64) x11.Causes), .v (.int .i64 x11.Kind), .v (.int .i64 x11.Group), .v (.int .i64 x11.Target), .v (.int .i64 x11.Quote), .v (.int .i64 x11.Who), .v (.int .i64 x11.N), .v (.string x11.Text), .fz (List.map (encI .i64) x11.Files), .v (.int .i64 x11.Step)]) _ rfl ?_; refine Zo (.agg (api_Event.av x11)) rfl rfl ?_; refine Zm (.lp 22 2 0) (Mem.add (Mem.add (Mem.add _ 196630 (.rows 1 (List.map (encI .i64) ([] : List Int)) false)) 720918 (.rows 1 (List.map (encI .i64) ([] : List Int)) false)) 22 (.box [VI 0, VI 0, .row 196630 2 0, VI 0, VI 0, VI 0, VI 0, VI 0, VI 0, VS (ByteArray.mk #[]), .row 720918 2 0, VI 0])) rfl rfl ?_; refine Zm (.tup []) (Mem.set _ 22 2 (some (.box (api_Event.av x11)))) rfl rfl ?_; refine Zpp 5 rfl ?_; refine YF rfl rfl rfl h (fun _ h => ?_) (fun _ h => ?_)
                    · refine Zpb 12 rfl ?_; cases h; exact Zh hG [] [(900000, (900000, 1)), (900001, (900001, 1))] rfl rfl (Ze rfl rfl (Ze rfl rfl (Ze rfl rfl (Ze rfl rfl (Ze rfl rfl (Ze rfl rfl (Ze rfl rfl (Ze rfl rfl (Ze rfl rfl (Ze rfl rfl trivial)))))))))) (Zc rfl rfl (Zc rfl rfl trivial))
                    · refine Zwp 6 rfl ?_; refine YF rfl rfl rfl h (fun _ h => ?_) (fun _ h => ?_)
                      · refine Zpb 6 rfl ?_; cases h; exact Zh hG [] [(900000, (900000, 1)), (900001, (900001, 1))] rfl rfl (Ze rfl rfl (Ze rfl rfl (Ze rfl rfl (Ze rfl rfl (Ze rfl rfl (Ze rfl rfl (Ze rfl rfl (Ze rfl rfl (Ze rfl rfl (Ze rfl rfl trivial)))))))))) (Zc rfl rfl (Zc rfl rfl trivial))
                      · refine Zwb 7 rfl ?_; cases h; exact Zh hG [] [(900000, (900000, 1)), (900001, (900001, 1))] rfl rfl (Ze rfl rfl (Ze rfl rfl (Ze rfl rfl (Ze rfl rfl (Ze rfl rfl (Ze rfl rfl (Ze rfl rfl (Ze rfl rfl (Ze rfl rfl (Ze rfl rfl trivial)))))))))) (Zc rfl rfl (Zc rfl rfl trivial))
                  · refine Zcb 1 rfl ?_; cases h; exact Zh hG [] [(900000, (900000, 1)), (900001, (900001, 1))] rfl rfl (Ze rfl rfl (Ze rfl rfl (Ze rfl rfl (Ze rfl rfl (Ze rfl rfl (Ze rfl rfl (Ze rfl rfl (Ze rfl rfl (Ze rfl rfl (Ze rfl rfl trivial)))))))))) (Zc rfl rfl (Zc rfl rfl trivial))
              · intro s3 r2 h hG; refine Zcc 6 rfl ?_; refine A.condB rfl h (fun _ h => ?_) (fun _ h => ?_)
                · refine Zcb 8 rfl ?_; cases h; cases hG; exact ⟨rfl, trivial⟩
                · refine Zcp 4 rfl ?_; refine Zm (.row 122 2 0) (Mem.add _ 122 (.rows 12 (List.map api_Event.enc ([] : List api_Event)) false)) rfl rfl ?_; refine Zpp 1 rfl ?_; refine Y1 rfl ?_; refine chkK h fun g12 h => ?_; refine W.chk rfl (appChk (fun _ => rfl) g12) ?_; refine W.rows (0 + (List.map api_Event.enc events_).length) (([] : List api_Event) ++ events_).length ([] ++ (List.map api_Event.enc events_)) (List.map api_Event.enc (([] : List api_Event) ++ events_)) rfl (by first | rfl | (simp; done) | simp only [partMap, List.length_map, List.length_append, List.nil_append, Nat.zero_add, List.length_nil]) (by first | rfl | (simp; done) | simp only [partMap, List.map_append, List.nil_append, List.map_nil]) ?_; refine Zo (.row 122 3 (([] : List api_Event) ++ events_).length) rfl rfl ?_; refine Zpp 4 rfl ?_; refine Zo (.row 122 3 (([] : List api_Event) ++ events_).length) rfl rfl ?_; refine Zpp 2 rfl ?_; refine Y1 rfl ?_; refine chkK h fun g13 h => ?_; refine W.chk rfl (by simpa using g13) ?_; refine W.det (.rp 122 3 (Int.tmod (IntKind.i64.wrap at_) (events_.length : Int)).toNat 0) _ rfl ?_; refine Zo (.rp 122 3 (Int.tmod (IntKind.i64.wrap at_) (events_.length : Int)).toNat 9) rfl rfl ?_; refine Y1 rfl ?_; refine bindK h fun x14 hx14 h => ?_; refine W.elem rfl (elemG hx14) ?_; refine W.set (api_Event.mk x14.Author x14.Seq x14.Causes x14.Kind x14.Group x14.Target x14.Quote x14.Who x14.N text_ x14.Files x14.Step) rfl rfl ?_; refine Zpp 4 rfl ?_; refine Zo (.row 122 3 (([] : List api_Event) ++ events_).length) rfl rfl ?_; refine Zpp 2 rfl ?_; refine Y1 rfl ?_; refine W.chk rfl (by simpa using g13) ?_; refine W.det (.rp 122 3 (Int.tmod (IntKind.i64.wrap at_) (events_.length : Int)).toNat 0) _ rfl ?_; refine Zo (.rp 122 3 (Int.tmod (IntKind.i64.wrap at_) (events_.length : Int)).toNat 10) rfl rfl ?_; refine Y1 rfl ?_; refine bindK h fun x16 hx16 h => ?_; refine W.elem rfl (elemG hx16) ?_; refine W.set (api_Event.mk x16.Author x16.Seq x16.Causes x16.Kind x16.Group x16.Target x16.Quote x16.Who x16.N x16.Text files_ x16.Step) rfl rfl ?_; refine Zpp 4 rfl ?_; refine Zo (.agg (api_Profile.av p_)) rfl rfl ?_; refine Zo (.row 900001 1 y2.1.length) rfl rfl ?_; refine Zpp 3 rfl ?_; refine Y1 rfl ?_; refine bindK h fun y17 hy17 h => ?_; refine W.call rfl (forth_Forth_fn hy17) ?_; refine W.v (.tup [.row 1048717 2 (List.map api_Item.enc y17.1).length, VI y17.2]) (.tup [.row 1048717 2 y17.1.length, VI y17.2]) (Mem.add (Mem.set _ 900001 1 (some (.rows 2 (List.map api_Way.enc y2.1) true))) 1048717 (.rows 11 (List.map api_Item.enc y17.1) false)) rfl (by simp only [List.length_map]) ?_; refine Zo (.tup [.row 1048717 2 y17.1.length, VI y17.2]) rfl rfl ?_; refine Zo (.row 1048717 2 y17.1.length) rfl rfl ?_; refine Zpp 1 rfl ?_; refine Zo (.row 1048717 2 y17.1.length) rfl rfl ?_; refine Zpp 5 rfl ?_; refine Zo (.agg (api_Profile.av p_)) rfl rfl ?_; refine Zo (.row 900001 1 y2.1.length) rfl rfl ?_; refine Zo (.row 122 3 (([] : List api_Event) ++ events_).length) rfl rfl ?_; refine Zpp 2 rfl ?_
                  refine Y1 rfl ?_; refine bindK h fun y18 hy18 h => ?_; refine W.call rfl (forth_Forth_fn hy18) ?_; refine W.v (.tup [.row 1048726 2 (List.map api_Item.enc y18.1).length, VI y18.2]) (.tup [.row 1048726 2 y18.1.length, VI y18.2]) (Mem.add (Mem.set (Mem.set _ 900001 1 (some (.rows 2 (List.map api_Way.enc y2.1) true))) 122 3 (some (.rows 12 (List.map api_Event.enc (List.set (List.set (([] : List api_Event) ++ events_) (Int.tmod (IntKind.i64.wrap at_) (events_.length : Int)).toNat (api_Event.mk x14.Author x14.Seq x14.Causes x14.Kind x14.Group x14.Target x14.Quote x14.Who x14.N text_ x14.Files x14.Step)) (Int.tmod (IntKind.i64.wrap at_) (events_.length : Int)).toNat (api_Event.mk x16.Author x16.Seq x16.Causes x16.Kind x16.Group x16.Target x16.Quote x16.Who x16.N x16.Text files_ x16.Step))) true))) 1048726 (.rows 11 (List.map api_Item.enc y18.1) false)) rfl (by simp only [List.length_map]) ?_; refine Zo (.tup [.row 1048726 2 y18.1.length, VI y18.2]) rfl rfl ?_; refine Zo (.row 1048726 2 y18.1.length) rfl rfl ?_; refine Zpp 1 rfl ?_; refine Zo (.row 1048726 2 y18.1.length) rfl rfl ?_; refine Zpp 7 rfl ?_; refine YT rfl rfl rfl h (fun _ h => ?_) (fun _ h => ?_)
                  · refine Zwp 5 rfl ?_; refine YT rfl rfl rfl h (fun _ h => ?_) (fun _ h => ?_)
                    · refine W.det (.row 1048717 2 y17.1.length) _ rfl ?_; refine Zu (.row 1048726 2 y18.1.length) rfl rfl rfl rfl ?_; refine Y2 rfl rfl rfl ?_; refine bindK h fun y19 hy19 h => ?_; refine W.call rfl (ref21_SameItems_fn hy19) ?_; refine Zwb 6 rfl ?_; cases h; cases hG; exact ⟨rfl, trivial⟩
                    · refine Zpb 7 rfl ?_; cases h; cases hG; exact ⟨rfl, trivial⟩
                  · refine Zpb 12 rfl ?_; cases h; cases hG; exact ⟨rfl, trivial⟩
end Go.Proofs.YtljdbikodogeiaaDoor

/-
  Plain programs of functions, and that the functions do what they say. Printed by wip/tools/gen.py.
-/
import Derived.Test.YtljdbikodogeiaaGreatDoorG6
namespace Go.Proofs.YtljdbikodogeiaaGreatDoor
open Go.RowKit
attribute [local irreducible] IntKind.wrap AW runL Step.wp
set_option linter.unusedVariables false
set_option maxHeartbeats 4000000
set_option maxRecDepth 100000
noncomputable def law21_ForthWhole_L1 (y7 : (List api_Msg)) (events_ : (List api_Event)) (p_ : api_Profile) (y2 : (List api_Way) × Int) (s33 : Int) : Option ((Int) ⊕ ((Unit) ⊕ (Bool))) :=
  (bif (decide (s33 < (y7.length : Int))) then
    (getI y7 s33).bind fun x206 =>
    (bif (decide (x206.Id < (0 : Int))) then
      some (.inr (.inr false))
    else
      (bif (decide ((events_.length : Int) ≤ x206.Id)) then
        some (.inr (.inr false))
      else
        (getI events_ x206.Id).bind fun x207 =>
        (forth_Forth p_ y2.1 events_ ([] : List Int) x206.Id).bind fun y208 =>
        (bif (y208.2 != (0 : Int)) then
          some (.inr (.inr false))
        else
          (bif (decide (((y208.1.length : Nat) : Int) < (1 : Int))) then
            some (.inr (.inr false))
          else
            (law21_joined y208.1).bind fun y209 =>
            (seqF (A := Bool) (
              (bif (((y208.1.length : Nat) : Int) == p_.Parts) then
                (bif ((y209.size : Int) == (IntKind.i64.wrap (p_.Size * p_.Parts))) then
                  (law21_ends y209 (ByteArray.mk #[43])).bind fun y211 =>
                  some (.inl y211)
                else
                  some (.inl false))
              else
                some (.inl false)))
            fun s59 =>
              (seqF (A := Unit) (
                (bif ((x207.Files.length : Int) == (0 : Int)) then
                  (law21_ends y209 x207.Text).bind fun y215 =>
                  (bif (!y215) then
                    (bif (!s59) then
                      some (.inr (.inr (.inr false)))
                    else
                      some (.inl ()))
                  else
                    some (.inl ()))
                else
                  some (.inl ())))
              fun s60 =>
                (seqF (A := Bool) (
                  (bif (x206.Parent == (-1 : Int)) then
                    (bif (x207.Quote == (-1 : Int)) then
                      (bif (x207.Who == (-1 : Int)) then
                        some (.inl true)
                      else
                        some (.inl p_.Mention))
                    else
                      (bif p_.Quote then
                        (bif (x207.Who == (-1 : Int)) then
                          some (.inl true)
                        else
                          some (.inl p_.Mention))
                      else
                        some (.inl false)))
                  else
                    (bif (p_.Thread == (2 : Int)) then
                      (bif (x207.Quote == (-1 : Int)) then
                        (bif (x207.Who == (-1 : Int)) then
                          some (.inl true)
                        else
                          some (.inl p_.Mention))
                      else
                        (bif p_.Quote then
                          (bif (x207.Who == (-1 : Int)) then
                            some (.inl true)
                          else
                            some (.inl p_.Mention))
                        else
                          some (.inl false)))
                    else
                      some (.inl false))))
                fun s61 =>
                  (seqF (A := Unit) (
                    (bif s61 then
                      (bif ((x207.Files.length : Int) == (0 : Int)) then
                        (bif (!(y209.toList == x207.Text.toList)) then
                          (bif (!s59) then
                            some (.inr (.inr (.inr false)))
                          else
                            some (.inl ()))
                        else
                          some (.inl ()))
                      else
                        some (.inl ()))
                    else
                      some (.inl ())))
                  fun s62 =>
                    (seqF (A := Int) (
                      (bif (decide ((0 : Int) ≤ x206.Parent)) then
                        (bif (p_.Thread == (2 : Int)) then
                          some (.inl x206.Parent)
                        else
                          some (.inl (-1 : Int)))
                      else
                        some (.inl (-1 : Int))))
                    fun s63 =>
                      (bif (decide ((0 : Int) ≤ x206.Parent)) then
                        (bif (p_.Thread == (1 : Int)) then
                          (view_Root events_ x206.Id).bind fun y217 =>
                          (chkO (decide (0 ≤ (0 : Int)) && decide ((0 : Int) < ((y208.1.length : Nat) : Int)))).bind fun _ =>
                          (getI y208.1 (0 : Int)).bind fun x219 =>
                          (bif (x219.On != y217) then
                            some (.inr (.inr false))
                          else
                            some (.inl (IntKind.i64.wrap (s33 + (1 : Int)))))
                        else
                          (chkO (decide (0 ≤ (0 : Int)) && decide ((0 : Int) < ((y208.1.length : Nat) : Int)))).bind fun _ =>
                          (getI y208.1 (0 : Int)).bind fun x221 =>
                          (bif (x221.On != s63) then
                            some (.inr (.inr false))
                          else
                            some (.inl (IntKind.i64.wrap (s33 + (1 : Int))))))
                      else
                        (chkO (decide (0 ≤ (0 : Int)) && decide ((0 : Int) < ((y208.1.length : Nat) : Int)))).bind fun _ =>
                        (getI y208.1 (0 : Int)).bind fun x223 =>
                        (bif (x223.On != s63) then
                          some (.inr (.inr false))
                        else
                          some (.inl (IntKind.i64.wrap (s33 + (1 : Int)))))))))))))))
  else
    some (.inr (.inl ())))
noncomputable def law21_ForthWhole (p_ : api_Profile) (events_ : (List api_Event)) : Option (Bool) :=
  (law21_small).bind fun y1 =>
  (ways_Compile p_).bind fun y2 =>
  (ref21_Few events_ ([] : List Int) (14 : Int)).bind fun y6 =>
  (bif (!y6) then
    some y1
  else
    (bif (y2.2 != (0 : Int)) then
      some y1
    else
      (view_View events_).bind fun y7 =>
      (seqF (A := Unit) (
        loopF (law21_ForthWhole_L1 y7 events_ p_ y2) (0 : Int))
      fun s32 =>
        some y1)))
theorem law21_ForthWhole_fn {p_ : api_Profile} {events_ : (List api_Event)} {r : Bool} (h : law21_ForthWhole p_ events_ = some r) : Fn False Tryz.prog 4 [.agg (api_Profile.av p_), VF (List.map api_Event.enc events_)] (VB r) := by
  refine Fn.of_AW (dr := False) (F := FnX False Tryz.prog) (base := 0) (js := [18, 20, 21, 23, 26, 30]) mixed tok noeqs (fun _ _ _ h => h) Tryz.call4 Tryz.func4 rfl Tryz.ntmps4 (by rw [Tryz.results4]) (by simp) ?_; have hG : (fun x => x = r) r := rfl; unfold law21_ForthWhole at h; refine Zap 2 rfl ?_; refine Zm (.lp 2 1 0) (Mem.add _ 2 (.box (api_Profile.av p_))) rfl rfl ?_; refine Zpp 5 rfl ?_; refine Y1 rfl ?_; refine bindK h fun y1 hy1 h => ?_; refine W.call rfl (law21_small_fn hy1) ?_; refine Zwp 6 rfl ?_; refine Zo (.agg (api_Profile.av p_)) rfl rfl ?_; refine Y1 rfl ?_; refine bindK h fun y2 hy2 h => ?_; refine W.call rfl (ways_Compile_fn hy2) ?_; refine W.v (.tup [.row 1048597 1 (List.map api_Way.enc y2.1).length, VI y2.2]) (.tup [.row 1048597 1 y2.1.length, VI y2.2]) (Mem.add _ 1048597 (.rows 2 (List.map api_Way.enc y2.1) false)) rfl (by simp only [List.length_map]) ?_; refine Zo (.tup [.row 1048597 1 y2.1.length, VI y2.2]) rfl rfl ?_; refine Zo (.row 1048597 1 y2.1.length) rfl rfl ?_; refine Zpp 1 rfl ?_; refine Zo (.row 1048597 1 y2.1.length) rfl rfl ?_; refine Zpp 7 rfl ?_; refine Y1 rfl ?_; refine bindK h fun y6 hy6 h => ?_; refine W.call rfl (ref21_Few_fn hy6) ?_; refine Zwp 3 rfl ?_; refine YF rfl rfl rfl h (fun _ h => ?_) (fun _ h => ?_)
  · refine Zpb 13 rfl ?_; cases h; cases hG; exact ⟨rfl, trivial⟩
  · refine Zwc 5 rfl ?_; refine A.condB rfl h (fun _ h => ?_) (fun _ h => ?_)
    · refine Zcb 8 rfl ?_; cases h; cases hG; exact ⟨rfl, trivial⟩
    · refine Zcp 5 rfl ?_; refine Y1 rfl ?_; refine bindK h fun y7 hy7 h => ?_; refine W.call rfl (view_View_fn hy7) ?_; refine Zwc 4 rfl ?_; refine A.join (fun (s32 : Unit) => [(5, VB y1)]) (fun s32 => []) _ h hG rfl ?_ ?_
      · intro J f h hG; refine Zac 6 rfl ?_; refine A.loop (fun (s33 : Int) => [(1, VF (List.map api_Event.enc events_)), (2, .lp 900000 1 0), (5, VB y1), (6, VF (List.map api_Way.enc y2.1)), (8, VF (List.map api_Msg.enc y7)), (9, VI s33)]) (fun s33 => [(900000, .box (api_Profile.av p_))]) _ h hG (Zf [(1048597, 1)] [(900000, (2, 1))] rfl rfl (Ze rfl rfl (Ze rfl rfl (Ze rfl rfl (Ze rfl rfl (Ze rfl rfl (Ze rfl rfl trivial)))))) (Zc rfl rfl trivial)) ?_; intro J s33 f h hG; unfold law21_ForthWhole_L1 at h; refine Zap 5 rfl ?_; refine Y1 rfl ?_; refine W.len rfl ?_; refine Zpc 3 rfl ?_; refine A.condB rfl h (fun _ h => ?_) (fun _ h => ?_)
        · refine Zcp 8 rfl ?_; refine Y1 rfl ?_; refine bindK h fun x206 hx206 h => ?_; refine W.chk rfl (elemB hx206) ?_; refine W.elem rfl (elemG hx206) ?_; refine W.chk rfl rfl ?_; refine W.det (.fp [.v (.int .i64 x206.Id), .v (.int .i64 x206.Author), .v (.int .i64 x206.Group), .v (.int .i64 x206.Parent), .v (.int .i64 x206.Quote), .v (.int .i64 x206.Who), .v (.string x206.Text), .fz (List.map (encI .i64) x206.Files), .v (.int .i64 x206.Edits), .fz (List.map Arr2_Int.enc x206.Reacts), .v (.bool x206.Gone)]) _ rfl ?_; refine Zo (.agg (api_Msg.av x206)) rfl rfl ?_; refine Zm (.lp 10 2 0) (Mem.add (Mem.add (Mem.add _ 524298 (.rows 1 (List.map (encI .i64) ([] : List Int)) false)) 655370 (.rows 2 (List.map Arr2_Int.enc ([] : List Arr2_Int)) false)) 10 (.box [VI 0, VI 0, VI 0, VI 0, VI 0, VI 0, VS (ByteArray.mk #[]), .row 524298 2 0, VI 0, .row 655370 2 0, VB false])) rfl rfl ?_; refine Zm (.tup []) (Mem.set _ 10 2 (some (.box (api_Msg.av x206)))) rfl rfl ?_; refine Zpp 9 rfl ?_; refine YF rfl rfl rfl h (fun _ h => ?_) (fun _ h => ?_)
          · refine Zpb 17 rfl ?_; refine headK.r ?_; refine Zob 1 rfl ?_; refine headK.r ?_; cases h; cases hG; exact ⟨rfl, trivial⟩
          · refine Zwp 3 rfl ?_; refine Y2 rfl rfl rfl ?_; refine W.len rfl ?_; refine Zpc 4 rfl ?_; refine A.condB rfl h (fun _ h => ?_) (fun _ h => ?_)
            · refine Zcb 9 rfl ?_; refine headK.r ?_; refine Zob 1 rfl ?_; refine headK.r ?_; cases h; cases hG; exact ⟨rfl, trivial⟩
            · refine Zcp 7 rfl ?_; refine Y1 rfl ?_; refine bindK h fun x207 hx207 h => ?_; refine W.chk rfl (elemB hx207) ?_; refine W.elem rfl (elemG hx207) ?_; refine W.chk rfl rfl ?_; refine W.det (.fp [.v (.int .i64 x207.Author), .v (.int .i64 x207.Seq), .fz (List.map (encI .i64) x207.Causes), .v (.int .i64 x207.Kind), .v (.int .i64 x207.Group), .v (.int .i64 x207.Target), .v (.int .i64 x207.Quote), .v (.int .i64 x207.Who), .v (.int .i64 x207.N), .v (.string x207.Text), .fz (List.map (encI .i64) x207.Files), .v (.int .i64 x207.Step)]) _ rfl ?_; refine Zo (.agg (api_Event.av x207)) rfl rfl ?_; refine Zm (.lp 11 2 0) (Mem.add (Mem.add (Mem.add _ 196619 (.rows 1 (List.map (encI .i64) ([] : List Int)) false)) 720907 (.rows 1 (List.map (encI .i64) ([] : List Int)) false)) 11 (.box [VI 0, VI 0, .row 196619 2 0, VI 0, VI 0, VI 0, VI 0, VI 0, VI 0, VS (ByteArray.mk #[]), .row 720907 2 0, VI 0])) rfl rfl ?_; refine Zm (.tup []) (Mem.set _ 11 2 (some (.box (api_Event.av x207)))) rfl rfl ?_; refine Zpp 4 rfl ?_; refine Zo (.agg (api_Profile.av p_)) rfl rfl ?_; refine Zpp 4 rfl ?_; refine Y1 rfl ?_; refine bindK h fun y208 hy208 h => ?_; refine W.call rfl (forth_Forth_fn hy208) ?_; refine W.v (.tup [.row 1048641 2 (List.map api_Item.enc y208.1).length, VI y208.2]) (.tup [.row 1048641 2 y208.1.length, VI y208.2]) (Mem.add _ 1048641 (.rows 11 (List.map api_Item.enc y208.1) false)) rfl (by simp only [List.length_map]) ?_; refine Zo (.tup [.row 1048641 2 y208.1.length, VI y208.2]) rfl rfl ?_; refine Zo (.row 1048641 2 y208.1.length) rfl rfl ?_; refine Zpp 1 rfl ?_; refine Zo (.row 1048641 2 y208.1.length) rfl rfl ?_; refine Zpp 9 rfl ?_; refine YF rfl rfl rfl h (fun _ h => ?_) (fun _ h => ?_)
              · refine Zpb 15 rfl ?_; refine headK.r ?_; refine Zob 1 rfl ?_; refine headK.r ?_; cases h; cases hG; exact ⟨rfl, trivial⟩
              · refine W.det (.row 1048641 2 y208.1.length) _ rfl ?_; refine Zpc 5 rfl ?_; refine A.condB rfl h (fun _ h => ?_) (fun _ h => ?_)
                · refine Zcb 9 rfl ?_; refine headK.r ?_; refine Zob 1 rfl ?_; refine headK.r ?_; cases h; cases hG; exact ⟨rfl, trivial⟩
                · refine Zcp 4 rfl ?_; refine Zo (.row 1048641 2 y208.1.length) rfl rfl ?_; refine Y1 rfl ?_; refine bindK h fun y209 hy209 h => ?_; refine W.call rfl (law21_joined_fn hy209) ?_; refine Zwc 4 rfl ?_; refine A.join (fun (s59 : Bool) => [(1, VF (List.map api_Event.enc events_)), (2, .lp 900000 1 0), (5, VB y1), (6, VF (List.map api_Way.enc y2.1)), (8, VF (List.map api_Msg.enc y7)), (9, VI s33), (10, .lp 900001 1 0), (11, .lp 900002 1 0), (12, .row 900003 1 y208.1.length), (14, VS y209), (15, VB s59)]) (fun s59 => [(900000, .box (api_Profile.av p_)), (900001, .box (api_Msg.av x206)), (900002, .box (api_Event.av x207)), (900003, .rows 11 (List.map api_Item.enc y208.1) false)]) _ h hG rfl ?_ ?_
                  · intro J f h hG; refine Zap 1 rfl ?_; refine Zo (.row 1048641 2 y208.1.length) rfl rfl ?_; refine Zpp 5 rfl ?_; refine YT rfl rfl rfl h (fun _ h => ?_) (fun _ h => ?_)
                    · refine Zwp 10 rfl ?_; refine YT rfl rfl rfl h (fun _ h => ?_) (fun _ h => ?_)
                      · refine Zwp 1 rfl ?_; refine Y2 rfl rfl rfl ?_; refine bindK h fun y211 hy211 h => ?_; refine W.call rfl (law21_ends_fn hy211) ?_; refine Zwb 4 rfl ?_; cases h; exact Zh hG [] [(900000, (900000, 1)), (900001, (10, 2)), (900002, (11, 2)), (900003, (1048641, 2))] rfl rfl (Ze rfl rfl (Ze rfl rfl (Ze rfl rfl (Ze rfl rfl (Ze rfl rfl (Ze rfl rfl (Ze rfl rfl (Ze rfl rfl (Ze rfl rfl (Ze rfl rfl (Ze rfl rfl trivial))))))))))) (Zc rfl rfl (Zc rfl rfl (Zc rfl rfl (Zc rfl rfl trivial))))
                      · refine Zpb 4 rfl ?_; cases h; exact Zh hG [] [(900000, (900000, 1)), (900001, (10, 2)), (900002, (11, 2)), (900003, (1048641, 2))] rfl rfl (Ze rfl rfl (Ze rfl rfl (Ze rfl rfl (Ze rfl rfl (Ze rfl rfl (Ze rfl rfl (Ze rfl rfl (Ze rfl rfl (Ze rfl rfl (Ze rfl rfl (Ze rfl rfl trivial))))))))))) (Zc rfl rfl (Zc rfl rfl (Zc rfl rfl (Zc rfl rfl trivial))))
                    · refine Zpb 14 rfl ?_; cases h; exact Zh hG [] [(900000, (900000, 1)), (900001, (10, 2)), (900002, (11, 2)), (900003, (1048641, 2))] rfl rfl (Ze rfl rfl (Ze rfl rfl (Ze rfl rfl (Ze rfl rfl (Ze rfl rfl (Ze rfl rfl (Ze rfl rfl (Ze rfl rfl (Ze rfl rfl (Ze rfl rfl (Ze rfl rfl trivial))))))))))) (Zc rfl rfl (Zc rfl rfl (Zc rfl rfl (Zc rfl rfl trivial))))
                  · intro s59 r2 h hG; refine A.join (fun (s60 : Unit) => [(1, VF (List.map api_Event.enc events_)), (2, .lp 900000 1 0), (5, VB y1), (6, VF (List.map api_Way.enc y2.1)), (8, VF (List.map api_Msg.enc y7)), (9, VI s33), (10, .lp 900001 1 0), (11, .lp 900002 1 0), (12, .row 900003 1 y208.1.length), (14, VS y209), (15, VB s59)]) (fun s60 => [(900000, .box (api_Profile.av p_)), (900001, .box (api_Msg.av x206)), (900002, .box (api_Event.av x207)), (900003, .rows 11 (List.map api_Item.enc y208.1) false)]) _ h hG rfl ?_ ?_
                    · intro J f h hG; refine Zap 4 rfl ?_; refine Y1 rfl ?_; refine W.len rfl ?_; refine Zpp 2 rfl ?_; refine YT rfl rfl rfl h (fun _ h => ?_) (fun _ h => ?_)
                      · refine Zwp 3 rfl ?_; refine Y2 rfl rfl rfl ?_; refine bindK h fun y215 hy215 h => ?_; refine W.call rfl (law21_ends_fn hy215) ?_; refine Zwp 4 rfl ?_; refine YT rfl rfl rfl h (fun _ h => ?_) (fun _ h => ?_)
                        · refine Zwc 5 rfl ?_; refine A.condB rfl h (fun _ h => ?_) (fun _ h => ?_)
                          · refine Zcb 6 rfl ?_; refine headK.r ?_; refine Zob 2 rfl ?_; refine headK.r ?_; refine Zob 1 rfl ?_; refine headK.r ?_; cases h; cases hG; exact ⟨rfl, trivial⟩
                          · refine Zcb 1 rfl ?_; cases h; exact Zh hG [] [(900000, (900000, 1)), (900001, (900001, 1)), (900002, (900002, 1)), (900003, (900003, 1))] rfl rfl (Ze rfl rfl (Ze rfl rfl (Ze rfl rfl (Ze rfl rfl (Ze rfl rfl (Ze rfl rfl (Ze rfl rfl (Ze rfl rfl (Ze rfl rfl (Ze rfl rfl (Ze rfl rfl trivial))))))))))) (Zc rfl rfl (Zc rfl rfl (Zc rfl rfl (Zc rfl rfl trivial))))
                        · refine Zpb 6 rfl ?_; cases h; exact Zh hG [] [(900000, (900000, 1)), (900001, (900001, 1)), (900002, (900002, 1)), (900003, (900003, 1))] rfl rfl (Ze rfl rfl (Ze rfl rfl (Ze rfl rfl (Ze rfl rfl (Ze rfl rfl (Ze rfl rfl (Ze rfl rfl (Ze rfl rfl (Ze rfl rfl (Ze rfl rfl (Ze rfl rfl trivial))))))))))) (Zc rfl rfl (Zc rfl rfl (Zc rfl rfl (Zc rfl rfl trivial))))
                      · refine Zpb 13 rfl ?_; cases h; exact Zh hG [] [(900000, (900000, 1)), (900001, (900001, 1)), (900002, (900002, 1)), (900003, (900003, 1))] rfl rfl (Ze rfl rfl (Ze rfl rfl (Ze rfl rfl (Ze rfl rfl (Ze rfl rfl (Ze rfl rfl (Ze rfl rfl (Ze rfl rfl (Ze rfl rfl (Ze rfl rfl (Ze rfl rfl trivial))))))))))) (Zc rfl rfl (Zc rfl rfl (Zc rfl rfl (Zc rfl rfl trivial))))
                    · intro s60 r2 h hG; refine A.join (fun (s61 : Bool) => [(1, VF (List.map api_Event.enc events_)), (2, .lp 900000 1 0), (5, VB y1), (6, VF (List.map api_Way.enc y2.1)), (8, VF (List.map api_Msg.enc y7)), (9, VI s33), (10, .lp 900001 1 0), (11, .lp 900002 1 0), (12, .row 900003 1 y208.1.length), (14, VS y209), (15, VB s59), (16, VB s61)]) (fun s61 => [(900000, .box (api_Profile.av p_)), (900001, .box (api_Msg.av x206)), (900002, .box (api_Event.av x207)), (900003, .rows 11 (List.map api_Item.enc y208.1) false)]) _ h hG rfl ?_ ?_
                      · intro J f h hG; refine Zap 5 rfl ?_; refine YF rfl rfl rfl h (fun _ h => ?_) (fun _ h => ?_)
                        · refine Zpp 8 rfl ?_; refine YF rfl rfl rfl h (fun _ h => ?_) (fun _ h => ?_)
                          · refine Zpp 8 rfl ?_; refine YF rfl rfl rfl h (fun _ h => ?_) (fun _ h => ?_)
                            · refine Zpb 5 rfl ?_; cases h; exact Zh hG [] [(900000, (900000, 1)), (900001, (900001, 1)), (900002, (900002, 1)), (900003, (900003, 1))] rfl rfl (Ze rfl rfl (Ze rfl rfl (Ze rfl rfl (Ze rfl rfl (Ze rfl rfl (Ze rfl rfl (Ze rfl rfl (Ze rfl rfl (Ze rfl rfl (Ze rfl rfl (Ze rfl rfl (Ze rfl rfl trivial)))))))))))) (Zc rfl rfl (Zc rfl rfl (Zc rfl rfl (Zc rfl rfl trivial))))
                            · refine Zwb 6 rfl ?_; cases h; exact Zh hG [] [(900000, (900000, 1)), (900001, (900001, 1)), (900002, (900002, 1)), (900003, (900003, 1))] rfl rfl (Ze rfl rfl (Ze rfl rfl (Ze rfl rfl (Ze rfl rfl (Ze rfl rfl (Ze rfl rfl (Ze rfl rfl (Ze rfl rfl (Ze rfl rfl (Ze rfl rfl (Ze rfl rfl (Ze rfl rfl trivial)))))))))))) (Zc rfl rfl (Zc rfl rfl (Zc rfl rfl (Zc rfl rfl trivial))))
                          · refine Zwp 5 rfl ?_; refine YT rfl rfl rfl h (fun _ h => ?_) (fun _ h => ?_)
                            · refine Zwp 4 rfl ?_; refine YF rfl rfl rfl h (fun _ h => ?_) (fun _ h => ?_)
                              · refine Zpb 5 rfl ?_; cases h; exact Zh hG [] [(900000, (900000, 1)), (900001, (900001, 1)), (900002, (900002, 1)), (900003, (900003, 1))] rfl rfl (Ze rfl rfl (Ze rfl rfl (Ze rfl rfl (Ze rfl rfl (Ze rfl rfl (Ze rfl rfl (Ze rfl rfl (Ze rfl rfl (Ze rfl rfl (Ze rfl rfl (Ze rfl rfl (Ze rfl rfl trivial)))))))))))) (Zc rfl rfl (Zc rfl rfl (Zc rfl rfl (Zc rfl rfl trivial))))
                              · refine Zwb 6 rfl ?_; cases h; exact Zh hG [] [(900000, (900000, 1)), (900001, (900001, 1)), (900002, (900002, 1)), (900003, (900003, 1))] rfl rfl (Ze rfl rfl (Ze rfl rfl (Ze rfl rfl (Ze rfl rfl (Ze rfl rfl (Ze rfl rfl (Ze rfl rfl (Ze rfl rfl (Ze rfl rfl (Ze rfl rfl (Ze rfl rfl (Ze rfl rfl trivial)))))))))))) (Zc rfl rfl (Zc rfl rfl (Zc rfl rfl (Zc rfl rfl trivial))))
                            · refine Zpb 9 rfl ?_; cases h; exact Zh hG [] [(900000, (900000, 1)), (900001, (900001, 1)), (900002, (900002, 1)), (900003, (900003, 1))] rfl rfl (Ze rfl rfl (Ze rfl rfl (Ze rfl rfl (Ze rfl rfl (Ze rfl rfl (Ze rfl rfl (Ze rfl rfl (Ze rfl rfl (Ze rfl rfl (Ze rfl rfl (Ze rfl rfl (Ze rfl rfl trivial)))))))))))) (Zc rfl rfl (Zc rfl rfl (Zc rfl rfl (Zc rfl rfl trivial))))
                        · refine Zwp 5 rfl ?_; refine YT rfl rfl rfl h (fun _ h => ?_) (fun _ h => ?_)
                          · refine Zwp 4 rfl ?_; refine YF rfl rfl rfl h (fun _ h => ?_) (fun _ h => ?_)
                            · refine Zpp 8 rfl ?_; refine YF rfl rfl rfl h (fun _ h => ?_) (fun _ h => ?_)
                              · refine Zpb 5 rfl ?_; cases h; exact Zh hG [] [(900000, (900000, 1)), (900001, (900001, 1)), (900002, (900002, 1)), (900003, (900003, 1))] rfl rfl (Ze rfl rfl (Ze rfl rfl (Ze rfl rfl (Ze rfl rfl (Ze rfl rfl (Ze rfl rfl (Ze rfl rfl (Ze rfl rfl (Ze rfl rfl (Ze rfl rfl (Ze rfl rfl (Ze rfl rfl trivial)))))))))))) (Zc rfl rfl (Zc rfl rfl (Zc rfl rfl (Zc rfl rfl trivial))))
                              · refine Zwb 6 rfl ?_; cases h; exact Zh hG [] [(900000, (900000, 1)), (900001, (900001, 1)), (900002, (900002, 1)), (900003, (900003, 1))] rfl rfl (Ze rfl rfl (Ze rfl rfl (Ze rfl rfl (Ze rfl rfl (Ze rfl rfl (Ze rfl rfl (Ze rfl rfl (Ze rfl rfl (Ze rfl rfl (Ze rfl rfl (Ze rfl rfl (Ze rfl rfl trivial)))))))))))) (Zc rfl rfl (Zc rfl rfl (Zc rfl rfl (Zc rfl rfl trivial))))
                            · refine Zwp 5 rfl ?_; refine YT rfl rfl rfl h (fun _ h => ?_) (fun _ h => ?_)
                              · refine Zwp 4 rfl ?_; refine YF rfl rfl rfl h (fun _ h => ?_) (fun _ h => ?_)
                                · refine Zpb 5 rfl ?_; cases h; exact Zh hG [] [(900000, (900000, 1)), (900001, (900001, 1)), (900002, (900002, 1)), (900003, (900003, 1))] rfl rfl (Ze rfl rfl (Ze rfl rfl (Ze rfl rfl (Ze rfl rfl (Ze rfl rfl (Ze rfl rfl (Ze rfl rfl (Ze rfl rfl (Ze rfl rfl (Ze rfl rfl (Ze rfl rfl (Ze rfl rfl trivial)))))))))))) (Zc rfl rfl (Zc rfl rfl (Zc rfl rfl (Zc rfl rfl trivial))))
                                · refine Zwb 6 rfl ?_; cases h; exact Zh hG [] [(900000, (900000, 1)), (900001, (900001, 1)), (900002, (900002, 1)), (900003, (900003, 1))] rfl rfl (Ze rfl rfl (Ze rfl rfl (Ze rfl rfl (Ze rfl rfl (Ze rfl rfl (Ze rfl rfl (Ze rfl rfl (Ze rfl rfl (Ze rfl rfl (Ze rfl rfl (Ze rfl rfl (Ze rfl rfl trivial)))))))))))) (Zc rfl rfl (Zc rfl rfl (Zc rfl rfl (Zc rfl rfl trivial))))
                              · refine Zpb 9 rfl ?_; cases h; exact Zh hG [] [(900000, (900000, 1)), (900001, (900001, 1)), (900002, (900002, 1)), (900003, (900003, 1))] rfl rfl (Ze rfl rfl (Ze rfl rfl (Ze rfl rfl (Ze rfl rfl (Ze rfl rfl (Ze rfl rfl (Ze rfl rfl (Ze rfl rfl (Ze rfl rfl (Ze rfl rfl (Ze rfl rfl (Ze rfl rfl trivial)))))))))))) (Zc rfl rfl (Zc rfl rfl (Zc rfl rfl (Zc rfl rfl trivial))))
                          · refine Zpb 18 rfl ?_; cases h; exact Zh hG [] [(900000, (900000, 1)), (900001, (900001, 1)), (900002, (900002, 1)), (900003, (900003, 1))] rfl rfl (Ze rfl rfl (Ze rfl rfl (Ze rfl rfl (Ze rfl rfl (Ze rfl rfl (Ze rfl rfl (Ze rfl rfl (Ze rfl rfl (Ze rfl rfl (Ze rfl rfl (Ze rfl rfl (Ze rfl rfl trivial)))))))))))) (Zc rfl rfl (Zc rfl rfl (Zc rfl rfl (Zc rfl rfl trivial))))
                      · intro s61 r2 h hG; refine A.join (fun (s62 : Unit) => [(1, VF (List.map api_Event.enc events_)), (2, .lp 900000 1 0), (5, VB y1), (6, VF (List.map api_Way.enc y2.1)), (8, VF (List.map api_Msg.enc y7)), (9, VI s33), (10, .lp 900001 1 0), (12, .row 900002 1 y208.1.length)]) (fun s62 => [(900000, .box (api_Profile.av p_)), (900001, .box (api_Msg.av x206)), (900002, .rows 11 (List.map api_Item.enc y208.1) false)]) _ h hG rfl ?_ ?_
                        · intro J f h hG; refine Zap 4 rfl ?_; refine YT rfl rfl rfl h (fun _ h => ?_) (fun _ h => ?_)
                          · refine Zwp 2 rfl ?_; refine Y2 rfl rfl rfl ?_; refine W.len rfl ?_; refine Zpp 3 rfl ?_; refine YT rfl rfl rfl h (fun _ h => ?_) (fun _ h => ?_)
                            · refine Zwp 6 rfl ?_; refine YT rfl rfl rfl h (fun _ h => ?_) (fun _ h => ?_)
                              · refine Zwc 5 rfl ?_; refine A.condB rfl h (fun _ h => ?_) (fun _ h => ?_)
                                · refine Zcb 6 rfl ?_; refine headK.r ?_; refine Zob 2 rfl ?_; refine headK.r ?_; refine Zob 1 rfl ?_; refine headK.r ?_; cases h; cases hG; exact ⟨rfl, trivial⟩
                                · refine Zcb 1 rfl ?_; cases h; exact Zh hG [] [(900000, (900000, 1)), (900001, (900001, 1)), (900002, (900003, 1))] rfl rfl (Ze rfl rfl (Ze rfl rfl (Ze rfl rfl (Ze rfl rfl (Ze rfl rfl (Ze rfl rfl (Ze rfl rfl (Ze rfl rfl trivial)))))))) (Zc rfl rfl (Zc rfl rfl (Zc rfl rfl trivial)))
                              · refine Zpb 6 rfl ?_; cases h; exact Zh hG [] [(900000, (900000, 1)), (900001, (900001, 1)), (900002, (900003, 1))] rfl rfl (Ze rfl rfl (Ze rfl rfl (Ze rfl rfl (Ze rfl rfl (Ze rfl rfl (Ze rfl rfl (Ze rfl rfl (Ze rfl rfl trivial)))))))) (Zc rfl rfl (Zc rfl rfl (Zc rfl rfl trivial)))
                            · refine Zpb 12 rfl ?_; cases h; exact Zh hG [] [(900000, (900000, 1)), (900001, (900001, 1)), (900002, (900003, 1))] rfl rfl (Ze rfl rfl (Ze rfl rfl (Ze rfl rfl (Ze rfl rfl (Ze rfl rfl (Ze rfl rfl (Ze rfl rfl (Ze rfl rfl trivial)))))))) (Zc rfl rfl (Zc rfl rfl (Zc rfl rfl trivial)))
                          · refine Zpb 18 rfl ?_; cases h; exact Zh hG [] [(900000, (900000, 1)), (900001, (900001, 1)), (900002, (900003, 1))] rfl rfl (Ze rfl rfl (Ze rfl rfl (Ze rfl rfl (Ze rfl rfl (Ze rfl rfl (Ze rfl rfl (Ze rfl rfl (Ze rfl rfl trivial)))))))) (Zc rfl rfl (Zc rfl rfl (Zc rfl rfl trivial)))
                        · intro s62 r2 h hG; refine Zcc 5 rfl ?_; refine A.join (fun (s63 : Int) => [(1, VF (List.map api_Event.enc events_)), (2, .lp 900000 1 0), (5, VB y1), (6, VF (List.map api_Way.enc y2.1)), (8, VF (List.map api_Msg.enc y7)), (9, VI s33), (10, .lp 900001 1 0), (12, .row 900002 1 y208.1.length), (17, VI s63)]) (fun s63 => [(900000, .box (api_Profile.av p_)), (900001, .box (api_Msg.av x206)), (900002, .rows 11 (List.map api_Item.enc y208.1) false)]) _ h hG rfl ?_ ?_
                          · intro J f h hG; refine Zap 6 rfl ?_; refine YT rfl rfl rfl h (fun _ h => ?_) (fun _ h => ?_)
                            · refine Zwc 6 rfl ?_; refine A.condB rfl h (fun _ h => ?_) (fun _ h => ?_)
                              · refine Zcb 5 rfl ?_; cases h; exact Zh hG [] [(900000, (900000, 1)), (900001, (900001, 1)), (900002, (900002, 1))] rfl rfl (Ze rfl rfl (Ze rfl rfl (Ze rfl rfl (Ze rfl rfl (Ze rfl rfl (Ze rfl rfl (Ze rfl rfl (Ze rfl rfl (Ze rfl rfl trivial))))))))) (Zc rfl rfl (Zc rfl rfl (Zc rfl rfl trivial)))
                              · refine Zcb 1 rfl ?_; cases h; exact Zh hG [] [(900000, (900000, 1)), (900001, (900001, 1)), (900002, (900002, 1))] rfl rfl (Ze rfl rfl (Ze rfl rfl (Ze rfl rfl (Ze rfl rfl (Ze rfl rfl (Ze rfl rfl (Ze rfl rfl (Ze rfl rfl (Ze rfl rfl trivial))))))))) (Zc rfl rfl (Zc rfl rfl (Zc rfl rfl trivial)))
                            · refine Zpb 7 rfl ?_; cases h; exact Zh hG [] [(900000, (900000, 1)), (900001, (900001, 1)), (900002, (900002, 1))] rfl rfl (Ze rfl rfl (Ze rfl rfl (Ze rfl rfl (Ze rfl rfl (Ze rfl rfl (Ze rfl rfl (Ze rfl rfl (Ze rfl rfl (Ze rfl rfl trivial))))))))) (Zc rfl rfl (Zc rfl rfl (Zc rfl rfl trivial)))
                          · intro s63 r2 h hG; refine Zcp 7 rfl ?_; refine YT rfl rfl rfl h (fun _ h => ?_) (fun _ h => ?_)
                            · refine Zwc 6 rfl ?_; refine A.condB rfl h (fun _ h => ?_) (fun _ h => ?_)
                              · refine Zcp 4 rfl ?_; refine Y1 rfl ?_; refine bindK h fun y217 hy217 h => ?_; refine W.call rfl (view_Root_fn hy217) ?_; refine Zwp 6 rfl ?_; refine Zo (.row 900002 1 y208.1.length) rfl rfl ?_; refine Y1 rfl ?_; refine chkK h fun g218 h => ?_; refine W.chk rfl (by first | (simp; done) | simpa using g218) ?_; refine W.det (.rp 900002 1 (0 : Int).toNat 0) _ rfl ?_; refine Zo (.rp 900002 1 (0 : Int).toNat 4) rfl rfl ?_; refine Y1 rfl ?_; refine bindK h fun x219 hx219 h => ?_; refine W.elem rfl (elemG hx219) ?_; refine Zwc 5 rfl ?_; refine A.condB rfl h (fun _ h => ?_) (fun _ h => ?_)
                                · refine Zcb 8 rfl ?_; refine headK.r ?_; refine Zob 1 rfl ?_; refine headK.r ?_; cases h; cases hG; exact ⟨rfl, trivial⟩
                                · refine Zcb 8 rfl ?_; cases h; exact Zh hG [] [(900000, (900000, 1))] rfl rfl (Ze rfl rfl (Ze rfl rfl (Ze rfl rfl (Ze rfl rfl (Ze rfl rfl (Ze rfl rfl trivial)))))) (Zc rfl rfl trivial)
                              · refine Zcp 4 rfl ?_; refine Zo (.row 900002 1 y208.1.length) rfl rfl ?_; refine Y1 rfl ?_; refine chkK h fun g220 h => ?_; refine W.chk rfl (by first | (simp; done) | simpa using g220) ?_; refine W.det (.rp 900002 1 (0 : Int).toNat 0) _ rfl ?_; refine Zo (.rp 900002 1 (0 : Int).toNat 4) rfl rfl ?_; refine Y1 rfl ?_; refine bindK h fun x221 hx221 h => ?_; refine W.elem rfl (elemG hx221) ?_; refine Zwc 5 rfl ?_; refine A.condB rfl h (fun _ h => ?_) (fun _ h => ?_)
                                · refine Zcb 8 rfl ?_; refine headK.r ?_; refine Zob 1 rfl ?_; refine headK.r ?_; cases h; cases hG; exact ⟨rfl, trivial⟩
                                · refine Zcb 8 rfl ?_; cases h; exact Zh hG [] [(900000, (900000, 1))] rfl rfl (Ze rfl rfl (Ze rfl rfl (Ze rfl rfl (Ze rfl rfl (Ze rfl rfl (Ze rfl rfl trivial)))))) (Zc rfl rfl trivial)
                            · refine Zpp 10 rfl ?_; refine Zo (.row 900002 1 y208.1.length) rfl rfl ?_; refine Y1 rfl ?_; refine chkK h fun g222 h => ?_; refine W.chk rfl (by first | (simp; done) | simpa using g222) ?_; refine W.det (.rp 900002 1 (0 : Int).toNat 0) _ rfl ?_; refine Zo (.rp 900002 1 (0 : Int).toNat 4) rfl rfl ?_; refine Y1 rfl ?_; refine bindK h fun x223 hx223 h => ?_; refine W.elem rfl (elemG hx223) ?_; refine Zwc 5 rfl ?_; refine A.condB rfl h (fun _ h => ?_) (fun _ h => ?_)
                              · refine Zcb 8 rfl ?_; refine headK.r ?_; refine Zob 1 rfl ?_; refine headK.r ?_; cases h; cases hG; exact ⟨rfl, trivial⟩
                              · refine Zcb 8 rfl ?_; cases h; exact Zh hG [] [(900000, (900000, 1))] rfl rfl (Ze rfl rfl (Ze rfl rfl (Ze rfl rfl (Ze rfl rfl (Ze rfl rfl (Ze rfl rfl trivial)))))) (Zc rfl rfl trivial)
        · refine Zcb 2 rfl ?_; refine headK.e ?_; refine Zob 1 rfl ?_; cases h; exact Zh hG [] [] rfl rfl (Ze rfl rfl trivial) trivial
      · intro s32 r2 h hG; refine Zcb 7 rfl ?_; cases h; cases hG; exact ⟨rfl, trivial⟩
end Go.Proofs.YtljdbikodogeiaaGreatDoor

/-
  Plain programs of functions, and that the functions do what they say. Printed by wip/tools/gen.py.
-/
import Derived.Test.YtljdbikodogeiaaDoorG4
namespace Go.Proofs.YtljdbikodogeiaaDoor
open Go.RowKit
attribute [local irreducible] IntKind.wrap AW runL Step.wp
set_option linter.unusedVariables false
set_option maxHeartbeats 4000000
set_option maxRecDepth 100000
noncomputable def law21_ForthFits_L1 (events_ : (List api_Event)) (y1 : Bool) (s3 : Int) : Option ((Int) ⊕ ((Unit) ⊕ (Bool))) :=
  (bif (decide (s3 < (events_.length : Int))) then
    (getI events_ s3).bind fun x18 =>
    (bif (x18.Kind == (3 : Int)) then
      (bif (decide (x18.N < (1 : Int))) then
        some (.inr (.inr y1))
      else
        some (.inl (IntKind.i64.wrap (s3 + (1 : Int)))))
    else
      (bif (x18.Kind == (4 : Int)) then
        (bif (decide (x18.N < (1 : Int))) then
          some (.inr (.inr y1))
        else
          some (.inl (IntKind.i64.wrap (s3 + (1 : Int)))))
      else
        some (.inl (IntKind.i64.wrap (s3 + (1 : Int))))))
  else
    some (.inr (.inl ())))
noncomputable def law21_ForthFits_L2 (y734 : (List api_Item) × Int) (s57 : (Int)) (p_ : api_Profile) (bad_ : (List Int)) (events_ : (List api_Event)) (y2 : (List api_Way) × Int) (s102 : Int) : Option ((Int) ⊕ ((Unit) ⊕ ((Int) ⊕ ((Unit) ⊕ (Bool))))) :=
  (bif (decide (s102 < ((y734.1.length : Nat) : Int))) then
    (chkO (decide (0 ≤ s102) && decide (s102 < ((y734.1.length : Nat) : Int)))).bind fun _ =>
    (getI y734.1 s102).bind fun x790 =>
    (bif (x790.Event != s57) then
      some (.inr (.inr (.inr (.inr false))))
    else
      (bif (x790.Part != s102) then
        some (.inr (.inr (.inr (.inr false))))
      else
        (bif (x790.Of != ((y734.1.length : Nat) : Int)) then
          some (.inr (.inr (.inr (.inr false))))
        else
          (law21_fits p_ x790 bad_).bind fun y794 =>
          (bif (!y794) then
            some (.inr (.inr (.inr (.inr false))))
          else
            (seqF (A := Bool) (
              (bif (x790.Kind == (1 : Int)) then
                some (.inl true)
              else
                some (.inl (x790.Kind == (2 : Int)))))
            fun s108 =>
              (bif s108 then
                (getI events_ s57).bind fun x797 =>
                (bif (x790.On != x797.Target) then
                  some (.inr (.inr (.inr (.inr false))))
                else
                  (bif (x790.OnPart != s102) then
                    some (.inr (.inr (.inr (.inr false))))
                  else
                    (forth_Many p_ y2.1 events_ bad_ x790.On).bind fun y798 =>
                    (bif (((y734.1.length : Nat) : Int) != y798) then
                      some (.inr (.inr (.inr (.inr false))))
                    else
                      some (.inl (IntKind.i64.wrap (s102 + (1 : Int)))))))
              else
                (bif (x790.Kind == (0 : Int)) then
                  (bif (decide ((0 : Int) < s102)) then
                    (bif (x790.On != (-1 : Int)) then
                      some (.inr (.inr (.inr (.inr false))))
                    else
                      (bif (x790.Quote != (-1 : Int)) then
                        some (.inr (.inr (.inr (.inr false))))
                      else
                        (bif (x790.Who != (-1 : Int)) then
                          some (.inr (.inr (.inr (.inr false))))
                        else
                          (bif (decide ((0 : Int) < (x790.Files.length : Int))) then
                            some (.inr (.inr (.inr (.inr false))))
                          else
                            some (.inl (IntKind.i64.wrap (s102 + (1 : Int))))))))
                  else
                    some (.inl (IntKind.i64.wrap (s102 + (1 : Int)))))
                else
                  some (.inl (IntKind.i64.wrap (s102 + (1 : Int)))))))))))
  else
    some (.inr (.inl ())))
noncomputable def law21_ForthFits_L3 (events_ : (List api_Event)) (p_ : api_Profile) (y2 : (List api_Way) × Int) (bad_ : (List Int)) (s57 : Int) : Option ((Int) ⊕ ((Unit) ⊕ (Bool))) :=
  (bif (decide (s57 < (events_.length : Int))) then
    (seqF (A := Unit) (
      (forth_Forth p_ y2.1 events_ bad_ s57).bind fun y734 =>
      (seqF (A := Unit) (
        (bif (y734.2 != (0 : Int)) then
          some (.inr (.inr (.inr (.inr false))))
        else
          (getI events_ s57).bind fun x738 =>
          (bif (x738.Kind == (0 : Int)) then
            (bif (decide (((y734.1.length : Nat) : Int) < (1 : Int))) then
              some (.inr (.inr (.inr (.inr false))))
            else
              (bif (decide (p_.Parts < ((y734.1.length : Nat) : Int))) then
                some (.inr (.inr (.inr (.inr false))))
              else
                some (.inl ())))
          else
            some (.inl ()))))
      fun s101 =>
        loopF (law21_ForthFits_L2 y734 s57 p_ bad_ events_ y2) (0 : Int)))
    fun s100 =>
      some (.inl (IntKind.i64.wrap (s57 + (1 : Int)))))
  else
    some (.inr (.inl ())))
noncomputable def law21_ForthFits (p_ : api_Profile) (events_ : (List api_Event)) (bad_ : (List Int)) : Option (Bool) :=
  (law21_small).bind fun y1 =>
  (ways_Compile p_).bind fun y2 =>
  (ref21_Few events_ bad_ (14 : Int)).bind fun y6 =>
  (bif (!y6) then
    some y1
  else
    (bif (y2.2 != (0 : Int)) then
      some y1
    else
      (seqF (A := Unit) (
        loopF (law21_ForthFits_L1 events_ y1) (0 : Int))
      fun s2 =>
        (seqF (A := Unit) (
          loopF (law21_ForthFits_L3 events_ p_ y2 bad_) (0 : Int))
        fun s56 =>
          some y1))))
theorem law21_ForthFits_fn {dr : Prop} {p_ : api_Profile} {events_ : (List api_Event)} {bad_ : (List Int)} {r : Bool} (h : law21_ForthFits p_ events_ bad_ = some r) : Fn dr Tryd.prog 4 [.agg (api_Profile.av p_), VF (List.map api_Event.enc events_), VF (List.map (encI .i64) bad_)] (VB r) := by
  refine Fn.of_AW (dr := dr) (F := FnX dr Tryd.prog) (base := 0) (js := [11, 13, 17, 24, 28]) mixed tok noeqs (fun _ _ _ h => h) Tryd.call4 Tryd.func4 rfl Tryd.ntmps4 (by rw [Tryd.results4]) (by simp) ?_; have hG : (fun x => x = r) r := rfl; unfold law21_ForthFits at h; refine Zap 2 rfl ?_; refine Zm (.lp 3 1 0) (Mem.add _ 3 (.box (api_Profile.av p_))) rfl rfl ?_; refine Zpp 5 rfl ?_; refine Y1 rfl ?_; refine bindK h fun y1 hy1 h => ?_; refine W.call rfl (law21_small_fn hy1) ?_; refine Zwp 6 rfl ?_; refine Zo (.agg (api_Profile.av p_)) rfl rfl ?_; refine Y1 rfl ?_; refine bindK h fun y2 hy2 h => ?_; refine W.call rfl (ways_Compile_fn hy2) ?_; refine W.v (.tup [.row 1048596 1 (List.map api_Way.enc y2.1).length, VI y2.2]) (.tup [.row 1048596 1 y2.1.length, VI y2.2]) (Mem.add _ 1048596 (.rows 2 (List.map api_Way.enc y2.1) false)) rfl (by simp only [List.length_map]) ?_; refine Zo (.tup [.row 1048596 1 y2.1.length, VI y2.2]) rfl rfl ?_; refine Zo (.row 1048596 1 y2.1.length) rfl rfl ?_; refine Zpp 1 rfl ?_; refine Zo (.row 1048596 1 y2.1.length) rfl rfl ?_; refine Zpp 8 rfl ?_; refine Y1 rfl ?_; refine bindK h fun y6 hy6 h => ?_; refine W.call rfl (ref21_Few_fn hy6) ?_; refine Zwp 3 rfl ?_; refine YF rfl rfl rfl h (fun _ h => ?_) (fun _ h => ?_)
  · refine Zpb 13 rfl ?_; cases h; cases hG; exact ⟨rfl, trivial⟩
  · refine Zwc 5 rfl ?_; refine A.condB rfl h (fun _ h => ?_) (fun _ h => ?_)
    · refine Zcb 8 rfl ?_; cases h; cases hG; exact ⟨rfl, trivial⟩
    · refine Zcc 2 rfl ?_; refine A.join (fun (s2 : Unit) => [(1, VF (List.map api_Event.enc events_)), (2, VF (List.map (encI .i64) bad_)), (3, .lp 900000 1 0), (7, VB y1), (8, .row 900001 1 y2.1.length)]) (fun s2 => [(900000, .box (api_Profile.av p_)), (900001, .rows 2 (List.map api_Way.enc y2.1) false)]) _ h hG rfl ?_ ?_
      · intro J f h hG; refine Zac 6 rfl ?_; refine A.loop (fun (s3 : Int) => [(1, VF (List.map api_Event.enc events_)), (2, VF (List.map (encI .i64) bad_)), (3, .lp 900000 1 0), (7, VB y1), (8, .row 900001 1 y2.1.length), (10, VI s3)]) (fun s3 => [(900000, .box (api_Profile.av p_)), (900001, .rows 2 (List.map api_Way.enc y2.1) false)]) _ h hG (Zf [] [(900000, (3, 1)), (900001, (1048596, 1))] rfl rfl (Ze rfl rfl (Ze rfl rfl (Ze rfl rfl (Ze rfl rfl (Ze rfl rfl (Ze rfl rfl trivial)))))) (Zc rfl rfl (Zc rfl rfl trivial))) ?_; intro J s3 f h hG; unfold law21_ForthFits_L1 at h; refine Zap 5 rfl ?_; refine Y1 rfl ?_; refine W.len rfl ?_; refine Zpc 3 rfl ?_; refine A.condB rfl h (fun _ h => ?_) (fun _ h => ?_)
        · refine Zcp 8 rfl ?_; refine Y1 rfl ?_; refine bindK h fun x18 hx18 h => ?_; refine W.chk rfl (elemB hx18) ?_; refine W.elem rfl (elemG hx18) ?_; refine W.chk rfl rfl ?_; refine W.det (.fp [.v (.int .i64 x18.Author), .v (.int .i64 x18.Seq), .fz (List.map (encI .i64) x18.Causes), .v (.int .i64 x18.Kind), .v (.int .i64 x18.Group), .v (.int .i64 x18.Target), .v (.int .i64 x18.Quote), .v (.int .i64 x18.Who), .v (.int .i64 x18.N), .v (.string x18.Text), .fz (List.map (encI .i64) x18.Files), .v (.int .i64 x18.Step)]) _ rfl ?_; refine Zo (.fp [.v (.int .i64 x18.Kind), .v (.int .i64 x18.Group), .v (.int .i64 x18.Target), .v (.int .i64 x18.Quote), .v (.int .i64 x18.Who), .v (.int .i64 x18.N), .v (.string x18.Text), .fz (List.map (encI .i64) x18.Files), .v (.int .i64 x18.Step)]) rfl rfl ?_; refine Zpp 9 rfl ?_; refine YF rfl rfl rfl h (fun _ h => ?_) (fun _ h => ?_)
          · refine Zpp 5 rfl ?_; refine Y2 rfl rfl rfl ?_; refine W.chk rfl (elemB hx18) ?_; refine W.elem rfl (elemG hx18) ?_; refine W.chk rfl rfl ?_; refine W.det (.fp [.v (.int .i64 x18.Author), .v (.int .i64 x18.Seq), .fz (List.map (encI .i64) x18.Causes), .v (.int .i64 x18.Kind), .v (.int .i64 x18.Group), .v (.int .i64 x18.Target), .v (.int .i64 x18.Quote), .v (.int .i64 x18.Who), .v (.int .i64 x18.N), .v (.string x18.Text), .fz (List.map (encI .i64) x18.Files), .v (.int .i64 x18.Step)]) _ rfl ?_; refine Zu (.fp [.v (.int .i64 x18.N), .v (.string x18.Text), .fz (List.map (encI .i64) x18.Files), .v (.int .i64 x18.Step)]) rfl rfl rfl rfl ?_; refine Zpc 5 rfl ?_; refine A.condB rfl h (fun _ h => ?_) (fun _ h => ?_)
            · refine Zcb 9 rfl ?_; refine headK.r ?_; refine Zob 1 rfl ?_; refine headK.r ?_; cases h; cases hG; exact ⟨rfl, trivial⟩
            · refine Zcb 8 rfl ?_; cases h; exact Zh hG [] [(900000, (900000, 1)), (900001, (900001, 1))] rfl rfl (Ze rfl rfl (Ze rfl rfl (Ze rfl rfl (Ze rfl rfl (Ze rfl rfl (Ze rfl rfl trivial)))))) (Zc rfl rfl (Zc rfl rfl trivial))
          · refine Zwp 4 rfl ?_; refine YT rfl rfl rfl h (fun _ h => ?_) (fun _ h => ?_)
            · refine Zwp 2 rfl ?_; refine Y2 rfl rfl rfl ?_; refine W.chk rfl (elemB hx18) ?_; refine W.elem rfl (elemG hx18) ?_; refine W.chk rfl rfl ?_; refine W.det (.fp [.v (.int .i64 x18.Author), .v (.int .i64 x18.Seq), .fz (List.map (encI .i64) x18.Causes), .v (.int .i64 x18.Kind), .v (.int .i64 x18.Group), .v (.int .i64 x18.Target), .v (.int .i64 x18.Quote), .v (.int .i64 x18.Who), .v (.int .i64 x18.N), .v (.string x18.Text), .fz (List.map (encI .i64) x18.Files), .v (.int .i64 x18.Step)]) _ rfl ?_; refine Zu (.fp [.v (.int .i64 x18.N), .v (.string x18.Text), .fz (List.map (encI .i64) x18.Files), .v (.int .i64 x18.Step)]) rfl rfl rfl rfl ?_; refine Zpc 5 rfl ?_; refine A.condB rfl h (fun _ h => ?_) (fun _ h => ?_)
              · refine Zcb 9 rfl ?_; refine headK.r ?_; refine Zob 1 rfl ?_; refine headK.r ?_; cases h; cases hG; exact ⟨rfl, trivial⟩
              · refine Zcb 8 rfl ?_; cases h; exact Zh hG [] [(900000, (900000, 1)), (900001, (900001, 1))] rfl rfl (Ze rfl rfl (Ze rfl rfl (Ze rfl rfl (Ze rfl rfl (Ze rfl rfl (Ze rfl rfl trivial)))))) (Zc rfl rfl (Zc rfl rfl trivial))
            · refine Zpb 17 rfl ?_; cases h; exact Zh hG [] [(900000, (900000, 1)), (900001, (900001, 1))] rfl rfl (Ze rfl rfl (Ze rfl rfl (Ze rfl rfl (Ze rfl rfl (Ze rfl rfl (Ze rfl rfl trivial)))))) (Zc rfl rfl (Zc rfl rfl trivial))
        · refine Zcb 2 rfl ?_; refine headK.e ?_; refine Zob 1 rfl ?_; cases h; exact Zh hG [] [(900000, (900000, 1)), (900001, (900001, 1))] rfl rfl (Ze rfl rfl (Ze rfl rfl (Ze rfl rfl (Ze rfl rfl (Ze rfl rfl trivial))))) (Zc rfl rfl (Zc rfl rfl trivial))
      · intro s2 r2 h hG; refine A.join (fun (s56 : Unit) => [(7, VB y1)]) (fun s56 => []) _ h hG rfl ?_ ?_
        · intro J f h hG; refine Zac 6 rfl ?_; refine A.loop (fun (s57 : Int) => [(1, VF (List.map api_Event.enc events_)), (2, VF (List.map (encI .i64) bad_)), (3, .lp 900000 1 0), (7, VB y1), (8, VF (List.map api_Way.enc y2.1)), (12, VI s57)]) (fun s57 => [(900000, .box (api_Profile.av p_))]) _ h hG (Zf [(900001, 1)] [(900000, (900000, 1))] rfl rfl (Ze rfl rfl (Ze rfl rfl (Ze rfl rfl (Ze rfl rfl (Ze rfl rfl (Ze rfl rfl trivial)))))) (Zc rfl rfl trivial)) ?_; intro J s57 f h hG; unfold law21_ForthFits_L3 at h; refine Zap 5 rfl ?_; refine Y1 rfl ?_; refine W.len rfl ?_; refine Zpc 3 rfl ?_; refine A.condB rfl h (fun _ h => ?_) (fun _ h => ?_)
          · refine Zcc 2 rfl ?_; refine A.join (fun (s100 : Unit) => [(1, VF (List.map api_Event.enc events_)), (2, VF (List.map (encI .i64) bad_)), (3, .lp 900000 1 0), (7, VB y1), (8, VF (List.map api_Way.enc y2.1)), (12, VI s57)]) (fun s100 => [(900000, .box (api_Profile.av p_))]) _ h hG rfl ?_ ?_
            · intro J f h hG; refine Zap 3 rfl ?_; refine Zo (.agg (api_Profile.av p_)) rfl rfl ?_; refine Zpp 4 rfl ?_; refine Y1 rfl ?_; refine bindK h fun y734 hy734 h => ?_; refine W.call rfl (forth_Forth_fn hy734) ?_; refine W.v (.tup [.row 1048646 2 (List.map api_Item.enc y734.1).length, VI y734.2]) (.tup [.row 1048646 2 y734.1.length, VI y734.2]) (Mem.add _ 1048646 (.rows 11 (List.map api_Item.enc y734.1) false)) rfl (by simp only [List.length_map]) ?_; refine Zo (.tup [.row 1048646 2 y734.1.length, VI y734.2]) rfl rfl ?_; refine Zo (.row 1048646 2 y734.1.length) rfl rfl ?_; refine Zpp 1 rfl ?_; refine Zo (.row 1048646 2 y734.1.length) rfl rfl ?_; refine Zpc 3 rfl ?_; refine A.join (fun (s101 : Unit) => [(1, VF (List.map api_Event.enc events_)), (2, VF (List.map (encI .i64) bad_)), (3, .lp 900000 1 0), (7, VB y1), (8, VF (List.map api_Way.enc y2.1)), (12, VI s57), (13, .row 900001 1 y734.1.length)]) (fun s101 => [(900000, .box (api_Profile.av p_)), (900001, .rows 11 (List.map api_Item.enc y734.1) false)]) _ h hG rfl ?_ ?_
              · intro J f h hG; refine Zap 5 rfl ?_; refine YF rfl rfl rfl h (fun _ h => ?_) (fun _ h => ?_)
                · refine Zpb 27 rfl ?_; refine headK.r ?_; refine Zob 1 rfl ?_; refine headK.r ?_; refine headK.r ?_; refine Zob 1 rfl ?_; refine headK.r ?_; cases h; cases hG; exact ⟨rfl, trivial⟩
                · refine Zwp 2 rfl ?_; refine Y2 rfl rfl rfl ?_; refine bindK h fun x738 hx738 h => ?_; refine W.chk rfl (elemB hx738) ?_; refine W.elem rfl (elemG hx738) ?_; refine W.chk rfl rfl ?_; refine W.det (.fp [.v (.int .i64 x738.Author), .v (.int .i64 x738.Seq), .fz (List.map (encI .i64) x738.Causes), .v (.int .i64 x738.Kind), .v (.int .i64 x738.Group), .v (.int .i64 x738.Target), .v (.int .i64 x738.Quote), .v (.int .i64 x738.Who), .v (.int .i64 x738.N), .v (.string x738.Text), .fz (List.map (encI .i64) x738.Files), .v (.int .i64 x738.Step)]) _ rfl ?_; refine Zu (.fp [.v (.int .i64 x738.Kind), .v (.int .i64 x738.Group), .v (.int .i64 x738.Target), .v (.int .i64 x738.Quote), .v (.int .i64 x738.Who), .v (.int .i64 x738.N), .v (.string x738.Text), .fz (List.map (encI .i64) x738.Files), .v (.int .i64 x738.Step)]) rfl rfl rfl rfl ?_; refine Zpp 3 rfl ?_; refine YT rfl rfl rfl h (fun _ h => ?_) (fun _ h => ?_)
                  · refine W.det (.row 1048646 2 y734.1.length) _ rfl ?_; refine Zpp 3 rfl ?_; refine YF rfl rfl rfl h (fun _ h => ?_) (fun _ h => ?_)
                    · refine Zpb 16 rfl ?_; refine headK.r ?_; refine Zob 1 rfl ?_; refine headK.r ?_; refine headK.r ?_; refine Zob 1 rfl ?_; refine headK.r ?_; cases h; cases hG; exact ⟨rfl, trivial⟩
                    · refine W.det (.row 1048646 2 y734.1.length) _ rfl ?_; refine Zpc 9 rfl ?_; refine A.condB rfl h (fun _ h => ?_) (fun _ h => ?_)
                      · refine Zcb 6 rfl ?_; refine headK.r ?_; refine Zob 1 rfl ?_; refine headK.r ?_; refine headK.r ?_; refine Zob 1 rfl ?_; refine headK.r ?_; cases h; cases hG; exact ⟨rfl, trivial⟩
                      · refine Zcb 1 rfl ?_; cases h; exact Zh hG [] [(900000, (900000, 1)), (900001, (1048646, 2))] rfl rfl (Ze rfl rfl (Ze rfl rfl (Ze rfl rfl (Ze rfl rfl (Ze rfl rfl (Ze rfl rfl (Ze rfl rfl trivial))))))) (Zc rfl rfl (Zc rfl rfl trivial))
                  · refine Zpb 15 rfl ?_; cases h; exact Zh hG [] [(900000, (900000, 1)), (900001, (1048646, 2))] rfl rfl (Ze rfl rfl (Ze rfl rfl (Ze rfl rfl (Ze rfl rfl (Ze rfl rfl (Ze rfl rfl (Ze rfl rfl trivial))))))) (Zc rfl rfl (Zc rfl rfl trivial))
              · intro s101 r2 h hG; refine Zcc 6 rfl ?_; refine A.loop (fun (s102 : Int) => [(1, VF (List.map api_Event.enc events_)), (2, VF (List.map (encI .i64) bad_)), (3, .lp 900000 1 0), (7, VB y1), (8, VF (List.map api_Way.enc y2.1)), (12, VI s57), (13, .row 900001 1 y734.1.length), (15, VI s102)]) (fun s102 => [(900000, .box (api_Profile.av p_)), (900001, .rows 11 (List.map api_Item.enc y734.1) false)]) _ h hG (Zf [] [(900000, (900000, 1)), (900001, (900001, 1))] rfl rfl (Ze rfl rfl (Ze rfl rfl (Ze rfl rfl (Ze rfl rfl (Ze rfl rfl (Ze rfl rfl (Ze rfl rfl (Ze rfl rfl trivial)))))))) (Zc rfl rfl (Zc rfl rfl trivial))) ?_; intro J s102 f h hG; unfold law21_ForthFits_L2 at h; refine Zap 4 rfl ?_; refine Zo (.row 900001 1 y734.1.length) rfl rfl ?_; refine Zpc 4 rfl ?_; refine A.condB rfl h (fun _ h => ?_) (fun _ h => ?_)
                · refine Zcp 6 rfl ?_; refine Zo (.row 900001 1 y734.1.length) rfl rfl ?_; refine Zpp 1 rfl ?_; refine Y1 rfl ?_; refine chkK h fun g789 h => ?_; refine W.chk rfl (by simpa using g789) ?_; refine W.det (.rp 900001 1 s102.toNat 0) _ rfl ?_; refine Y1 rfl ?_; refine bindK h fun x790 hx790 h => ?_; refine W.elem rfl (elemG hx790) ?_; refine W.det (.agg (api_Item.av x790)) _ rfl ?_; refine Zm (.lp 16 2 0) (Mem.add (Mem.add _ 720912 (.rows 1 (List.map (encI .i64) ([] : List Int)) false)) 16 (.box [VI 0, VI 0, VI 0, VI 0, VI 0, VI 0, VI 0, VI 0, VI 0, VS (ByteArray.mk #[]), .row 720912 2 0])) rfl rfl ?_; refine Zm (.tup []) (Mem.set _ 16 2 (some (.box (api_Item.av x790)))) rfl rfl ?_; refine Zpp 10 rfl ?_; refine YF rfl rfl rfl h (fun _ h => ?_) (fun _ h => ?_)
                  · refine Zpb 30 rfl ?_; refine headK.r ?_; refine Zob 2 rfl ?_; refine headK.r ?_; refine headK.r ?_; refine Zob 1 rfl ?_; refine headK.r ?_; cases h; cases hG; exact ⟨rfl, trivial⟩
                  · refine Zwp 6 rfl ?_; refine YF rfl rfl rfl h (fun _ h => ?_) (fun _ h => ?_)
                    · refine Zpb 24 rfl ?_; refine headK.r ?_; refine Zob 2 rfl ?_; refine headK.r ?_; refine headK.r ?_; refine Zob 1 rfl ?_; refine headK.r ?_; cases h; cases hG; exact ⟨rfl, trivial⟩
                    · refine Zwp 2 rfl ?_; refine Zu (.row 900001 1 y734.1.length) rfl rfl rfl rfl ?_; refine Zpp 4 rfl ?_; refine YF rfl rfl rfl h (fun _ h => ?_) (fun _ h => ?_)
                      · refine Zpb 17 rfl ?_; refine headK.r ?_; refine Zob 2 rfl ?_; refine headK.r ?_; refine headK.r ?_; refine Zob 1 rfl ?_; refine headK.r ?_; cases h; cases hG; exact ⟨rfl, trivial⟩
                      · refine W.det (.agg (api_Profile.av p_)) _ rfl ?_; refine Zu (.agg (api_Item.av x790)) rfl rfl rfl rfl ?_; refine Zpp 1 rfl ?_; refine Y2 rfl rfl rfl ?_; refine bindK h fun y794 hy794 h => ?_; refine W.call rfl (law21_fits_fn hy794) ?_; refine Zwc 5 rfl ?_; refine A.condB rfl h (fun _ h => ?_) (fun _ h => ?_)
                        · refine Zcb 9 rfl ?_; refine headK.r ?_; refine Zob 2 rfl ?_; refine headK.r ?_; refine headK.r ?_; refine Zob 1 rfl ?_; refine headK.r ?_; cases h; cases hG; exact ⟨rfl, trivial⟩
                        · refine Zcc 2 rfl ?_; refine A.join (fun (s108 : Bool) => [(1, VF (List.map api_Event.enc events_)), (2, VF (List.map (encI .i64) bad_)), (3, .lp 900000 1 0), (7, VB y1), (8, VF (List.map api_Way.enc y2.1)), (12, VI s57), (13, .row 900001 1 y734.1.length), (15, VI s102), (16, .lp 900002 1 0), (136, VB s108)]) (fun s108 => [(900000, .box (api_Profile.av p_)), (900001, .rows 11 (List.map api_Item.enc y734.1) false), (900002, .box (api_Item.av x790))]) _ h hG rfl ?_ ?_
                          · intro J f h hG; refine Zap 5 rfl ?_; refine YF rfl rfl rfl h (fun _ h => ?_) (fun _ h => ?_)
                            · refine Zpb 4 rfl ?_; cases h; exact Zh hG [] [(900000, (900000, 1)), (900001, (900001, 1)), (900002, (16, 2))] rfl rfl (Ze rfl rfl (Ze rfl rfl (Ze rfl rfl (Ze rfl rfl (Ze rfl rfl (Ze rfl rfl (Ze rfl rfl (Ze rfl rfl (Ze rfl rfl (Ze rfl rfl trivial)))))))))) (Zc rfl rfl (Zc rfl rfl (Zc rfl rfl trivial)))
                            · refine Zwb 5 rfl ?_; cases h; exact Zh hG [] [(900000, (900000, 1)), (900001, (900001, 1)), (900002, (16, 2))] rfl rfl (Ze rfl rfl (Ze rfl rfl (Ze rfl rfl (Ze rfl rfl (Ze rfl rfl (Ze rfl rfl (Ze rfl rfl (Ze rfl rfl (Ze rfl rfl (Ze rfl rfl trivial)))))))))) (Zc rfl rfl (Zc rfl rfl (Zc rfl rfl trivial)))
                          · intro s108 r2 h hG; refine A.condB rfl h (fun _ h => ?_) (fun _ h => ?_)
                            · refine Zcc 1 rfl ?_; refine A.regionD (by kernel_rfl) ?_; refine Zpp 4 rfl ?_; refine Y1 rfl ?_; refine bindK h fun x797 hx797 h => ?_; refine W.chk rfl (elemB hx797) ?_; refine W.elem rfl (elemG hx797) ?_; refine W.chk rfl rfl ?_; refine W.det (.fp [.v (.int .i64 x797.Author), .v (.int .i64 x797.Seq), .fz (List.map (encI .i64) x797.Causes), .v (.int .i64 x797.Kind), .v (.int .i64 x797.Group), .v (.int .i64 x797.Target), .v (.int .i64 x797.Quote), .v (.int .i64 x797.Who), .v (.int .i64 x797.N), .v (.string x797.Text), .fz (List.map (encI .i64) x797.Files), .v (.int .i64 x797.Step)]) _ rfl ?_; refine Zo (.fp [.v (.int .i64 x797.Target), .v (.int .i64 x797.Quote), .v (.int .i64 x797.Who), .v (.int .i64 x797.N), .v (.string x797.Text), .fz (List.map (encI .i64) x797.Files), .v (.int .i64 x797.Step)]) rfl rfl ?_; refine Zpp 3 rfl ?_; refine YF rfl rfl rfl h (fun _ h => ?_) (fun _ h => ?_)
                              · refine Zpb 27 rfl ?_; refine headK.r ?_; refine Zob 2 rfl ?_; refine headK.r ?_; refine headK.r ?_; refine Zob 1 rfl ?_; refine headK.r ?_; cases h; cases hG; exact ⟨rfl, trivial⟩
                              · refine Zwp 6 rfl ?_; refine YF rfl rfl rfl h (fun _ h => ?_) (fun _ h => ?_)
                                · refine Zpb 21 rfl ?_; refine headK.r ?_; refine Zob 2 rfl ?_; refine headK.r ?_; refine headK.r ?_; refine Zob 1 rfl ?_; refine headK.r ?_; cases h; cases hG; exact ⟨rfl, trivial⟩
                                · refine W.det (.row 900001 1 y734.1.length) _ rfl ?_; refine Zpp 1 rfl ?_; refine Zu (.agg (api_Profile.av p_)) rfl rfl rfl rfl ?_; refine Zpp 5 rfl ?_; refine Y2 rfl rfl rfl ?_; refine bindK h fun y798 hy798 h => ?_; refine W.call rfl (forth_Many_fn hy798) ?_; refine Zwc 5 rfl ?_; refine A.condB rfl h (fun _ h => ?_) (fun _ h => ?_)
                                  · refine Zcb 8 rfl ?_; refine headK.r ?_; refine Zob 2 rfl ?_; refine headK.r ?_; refine headK.r ?_; refine Zob 1 rfl ?_; refine headK.r ?_; cases h; cases hG; exact ⟨rfl, trivial⟩
                                  · refine Zcb 8 rfl ?_; cases h; exact Zh hG [] [(900000, (900000, 1)), (900001, (900001, 1))] rfl rfl (Ze rfl rfl (Ze rfl rfl (Ze rfl rfl (Ze rfl rfl (Ze rfl rfl (Ze rfl rfl (Ze rfl rfl (Ze rfl rfl trivial)))))))) (Zc rfl rfl (Zc rfl rfl trivial))
                            · refine Zcp 6 rfl ?_; refine YT rfl rfl rfl h (fun _ h => ?_) (fun _ h => ?_)
                              · refine Zwp 4 rfl ?_; refine YT rfl rfl rfl h (fun _ h => ?_) (fun _ h => ?_)
                                · refine Zwp 4 rfl ?_; refine YF rfl rfl rfl h (fun _ h => ?_) (fun _ h => ?_)
                                  · refine Zpb 26 rfl ?_; refine headK.r ?_; refine Zob 2 rfl ?_; refine headK.r ?_; refine headK.r ?_; refine Zob 1 rfl ?_; refine headK.r ?_; cases h; cases hG; exact ⟨rfl, trivial⟩
                                  · refine Zwp 5 rfl ?_; refine YF rfl rfl rfl h (fun _ h => ?_) (fun _ h => ?_)
                                    · refine Zpb 21 rfl ?_; refine headK.r ?_; refine Zob 2 rfl ?_; refine headK.r ?_; refine headK.r ?_; refine Zob 1 rfl ?_; refine headK.r ?_; cases h; cases hG; exact ⟨rfl, trivial⟩
                                    · refine Zwp 5 rfl ?_; refine YF rfl rfl rfl h (fun _ h => ?_) (fun _ h => ?_)
                                      · refine Zpb 16 rfl ?_; refine headK.r ?_; refine Zob 2 rfl ?_; refine headK.r ?_; refine headK.r ?_; refine Zob 1 rfl ?_; refine headK.r ?_; cases h; cases hG; exact ⟨rfl, trivial⟩
                                      · refine Zwp 2 rfl ?_; refine Y2 rfl rfl rfl ?_; refine W.len rfl ?_; refine Zpc 5 rfl ?_; refine A.condB rfl h (fun _ h => ?_) (fun _ h => ?_)
                                        · refine Zcb 8 rfl ?_; refine headK.r ?_; refine Zob 2 rfl ?_; refine headK.r ?_; refine headK.r ?_; refine Zob 1 rfl ?_; refine headK.r ?_; cases h; cases hG; exact ⟨rfl, trivial⟩
                                        · refine Zcb 8 rfl ?_; cases h; exact Zh hG [] [(900000, (900000, 1)), (900001, (900001, 1))] rfl rfl (Ze rfl rfl (Ze rfl rfl (Ze rfl rfl (Ze rfl rfl (Ze rfl rfl (Ze rfl rfl (Ze rfl rfl (Ze rfl rfl trivial)))))))) (Zc rfl rfl (Zc rfl rfl trivial))
                                · refine Zpb 30 rfl ?_; cases h; exact Zh hG [] [(900000, (900000, 1)), (900001, (900001, 1))] rfl rfl (Ze rfl rfl (Ze rfl rfl (Ze rfl rfl (Ze rfl rfl (Ze rfl rfl (Ze rfl rfl (Ze rfl rfl (Ze rfl rfl trivial)))))))) (Zc rfl rfl (Zc rfl rfl trivial))
                              · refine Zpb 34 rfl ?_; cases h; exact Zh hG [] [(900000, (900000, 1)), (900001, (900001, 1))] rfl rfl (Ze rfl rfl (Ze rfl rfl (Ze rfl rfl (Ze rfl rfl (Ze rfl rfl (Ze rfl rfl (Ze rfl rfl (Ze rfl rfl trivial)))))))) (Zc rfl rfl (Zc rfl rfl trivial))
                · refine Zcb 2 rfl ?_; refine headK.e ?_; refine Zob 2 rfl ?_; cases h; exact Zh hG [] [(900000, (900000, 1))] rfl rfl (Ze rfl rfl (Ze rfl rfl (Ze rfl rfl (Ze rfl rfl (Ze rfl rfl (Ze rfl rfl trivial)))))) (Zc rfl rfl trivial)
            · intro s100 r2 h hG; refine Zcb 5 rfl ?_; cases h; exact Zh hG [] [(900000, (900000, 1))] rfl rfl (Ze rfl rfl (Ze rfl rfl (Ze rfl rfl (Ze rfl rfl (Ze rfl rfl (Ze rfl rfl trivial)))))) (Zc rfl rfl trivial)
          · refine Zcb 2 rfl ?_; refine headK.e ?_; refine Zob 1 rfl ?_; cases h; exact Zh hG [] [] rfl rfl (Ze rfl rfl trivial) trivial
        · intro s56 r2 h hG; refine Zcb 7 rfl ?_; cases h; cases hG; exact ⟨rfl, trivial⟩
end Go.Proofs.YtljdbikodogeiaaDoor

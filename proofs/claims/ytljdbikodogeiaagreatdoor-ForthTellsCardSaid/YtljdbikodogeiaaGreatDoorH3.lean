/-
  Plain programs of functions, and that the functions do what they say. Printed by wip/tools/gen.py.
-/
import Derived.Test.YtljdbikodogeiaaGreatDoorG6
namespace Go.Proofs.YtljdbikodogeiaaGreatDoor
open Go.RowKit
attribute [local irreducible] IntKind.wrap AW runL Step.wp
set_option linter.unusedVariables false
set_option maxHeartbeats 4000000
set_option maxRecDepth 100000
noncomputable def law21_ForthTells (p_ : api_Profile) (w_ : (List api_Way)) (events_ : (List api_Event)) (bad_ : (List Int)) (id_ : Int) : Option (Bool) :=
  (law21_small).bind fun y1 =>
  (ref21_Few events_ bad_ (14 : Int)).bind fun y5 =>
  (bif (!y5) then
    some y1
  else
    (bif (decide ((14 : Int) < (w_.length : Int))) then
      some y1
    else
      (ways_Compile p_).bind fun y6 =>
      (forth_Forth p_ y6.1 events_ bad_ id_).bind fun y7 =>
      (ref21_Forth p_ y6.1 events_ bad_ id_).bind fun y8 =>
      (forth_Forth p_ w_ events_ bad_ id_).bind fun y9 =>
      (ref21_Forth p_ w_ events_ bad_ id_).bind fun y10 =>
      (bif y1 then
        (bif (y7.2 == y8.2) then
          (ref21_SameItems y7.1 y8.1).bind fun y11 =>
          (bif y11 then
            (bif (y9.2 == y10.2) then
              (ref21_SameItems y9.1 y10.1).bind fun y12 =>
              (bif y12 then
                (forth_Many p_ y6.1 events_ bad_ id_).bind fun y13 =>
                some (y13 == ((y8.1.length : Nat) : Int))
              else
                some false)
            else
              some false)
          else
            some false)
        else
          some false)
      else
        some false)))
theorem law21_ForthTells_fn {dr : Prop} {p_ : api_Profile} {w_ : (List api_Way)} {events_ : (List api_Event)} {bad_ : (List Int)} {id_ : Int} {r : Bool} (h : law21_ForthTells p_ w_ events_ bad_ id_ = some r) : Fn dr Tryz.prog 3 [.agg (api_Profile.av p_), VF (List.map api_Way.enc w_), VF (List.map api_Event.enc events_), VF (List.map (encI .i64) bad_), VI id_] (VB r) := by
  refine Fn.of_AW (dr := dr) (F := FnX dr Tryz.prog) (base := 0) (js := []) mixed tok noeqs (fun _ _ _ h => h) Tryz.call3 Tryz.func3 rfl Tryz.ntmps3 (by rw [Tryz.results3]) (by simp) ?_; have hG : (fun x => x = r) r := rfl; unfold law21_ForthTells at h; refine Zap 2 rfl ?_; refine Zm (.lp 5 1 0) (Mem.add _ 5 (.box (api_Profile.av p_))) rfl rfl ?_; refine Zpp 5 rfl ?_; refine Y1 rfl ?_; refine bindK h fun y1 hy1 h => ?_; refine W.call rfl (law21_small_fn hy1) ?_; refine Zwp 9 rfl ?_; refine Y1 rfl ?_; refine bindK h fun y5 hy5 h => ?_; refine W.call rfl (ref21_Few_fn hy5) ?_; refine Zwp 3 rfl ?_; refine YF rfl rfl rfl h (fun _ h => ?_) (fun _ h => ?_)
  · refine Zpb 14 rfl ?_; cases h; cases hG; exact ⟨rfl, trivial⟩
  · refine Zwp 1 rfl ?_; refine Y2 rfl rfl rfl ?_; refine W.len rfl ?_; refine Zpc 4 rfl ?_; refine A.condB rfl h (fun _ h => ?_) (fun _ h => ?_)
    · refine Zcb 8 rfl ?_; cases h; cases hG; exact ⟨rfl, trivial⟩
    · refine Zcp 4 rfl ?_; refine Zo (.agg (api_Profile.av p_)) rfl rfl ?_; refine Y1 rfl ?_; refine bindK h fun y6 hy6 h => ?_; refine W.call rfl (ways_Compile_fn hy6) ?_; refine W.v (.tup [.row 1048611 1 (List.map api_Way.enc y6.1).length, VI y6.2]) (.tup [.row 1048611 1 y6.1.length, VI y6.2]) (Mem.add _ 1048611 (.rows 2 (List.map api_Way.enc y6.1) false)) rfl (by simp only [List.length_map]) ?_; refine Zo (.tup [.row 1048611 1 y6.1.length, VI y6.2]) rfl rfl ?_; refine Zo (.row 1048611 1 y6.1.length) rfl rfl ?_; refine Zpp 1 rfl ?_; refine Zo (.row 1048611 1 y6.1.length) rfl rfl ?_; refine Zpp 5 rfl ?_; refine Zo (.agg (api_Profile.av p_)) rfl rfl ?_; refine Zo (.row 1048611 1 y6.1.length) rfl rfl ?_; refine Zpp 3 rfl ?_; refine Y1 rfl ?_; refine bindK h fun y7 hy7 h => ?_; refine W.call rfl (forth_Forth_fn hy7) ?_; refine W.v (.tup [.row 1048620 1 (List.map api_Item.enc y7.1).length, VI y7.2]) (.tup [.row 1048620 1 y7.1.length, VI y7.2]) (Mem.add (Mem.set _ 1048611 1 (some (.rows 2 (List.map api_Way.enc y6.1) true))) 1048620 (.rows 11 (List.map api_Item.enc y7.1) false)) rfl (by simp only [List.length_map]) ?_; refine Zo (.tup [.row 1048620 1 y7.1.length, VI y7.2]) rfl rfl ?_; refine Zo (.row 1048620 1 y7.1.length) rfl rfl ?_; refine Zpp 1 rfl ?_; refine Zo (.row 1048620 1 y7.1.length) rfl rfl ?_; refine Zpp 5 rfl ?_; refine Zo (.agg (api_Profile.av p_)) rfl rfl ?_; refine Zo (.row 1048611 1 y6.1.length) rfl rfl ?_; refine Zpp 3 rfl ?_; refine Y1 rfl ?_; refine bindK h fun y8 hy8 h => ?_; refine W.call rfl (ref21_Forth_fn hy8) ?_; refine W.v (.tup [.row 1048629 1 (List.map api_Item.enc y8.1).length, VI y8.2]) (.tup [.row 1048629 1 y8.1.length, VI y8.2]) (Mem.add (Mem.set _ 1048611 1 (some (.rows 2 (List.map api_Way.enc y6.1) true))) 1048629 (.rows 11 (List.map api_Item.enc y8.1) false)) rfl (by simp only [List.length_map]) ?_; refine Zo (.tup [.row 1048629 1 y8.1.length, VI y8.2]) rfl rfl ?_; refine Zo (.row 1048629 1 y8.1.length) rfl rfl ?_; refine Zpp 1 rfl ?_; refine Zo (.row 1048629 1 y8.1.length) rfl rfl ?_; refine Zpp 5 rfl ?_; refine Zo (.agg (api_Profile.av p_)) rfl rfl ?_; refine Zpp 4 rfl ?_; refine Y1 rfl ?_; refine bindK h fun y9 hy9 h => ?_; refine W.call rfl (forth_Forth_fn hy9) ?_; refine W.v (.tup [.row 1048638 1 (List.map api_Item.enc y9.1).length, VI y9.2]) (.tup [.row 1048638 1 y9.1.length, VI y9.2]) (Mem.add _ 1048638 (.rows 11 (List.map api_Item.enc y9.1) false)) rfl (by simp only [List.length_map]) ?_; refine Zo (.tup [.row 1048638 1 y9.1.length, VI y9.2]) rfl rfl ?_; refine Zo (.row 1048638 1 y9.1.length) rfl rfl ?_; refine Zpp 1 rfl ?_; refine Zo (.row 1048638 1 y9.1.length) rfl rfl ?_; refine Zpp 5 rfl ?_; refine Zo (.agg (api_Profile.av p_)) rfl rfl ?_; refine Zpp 4 rfl ?_; refine Y1 rfl ?_; refine bindK h fun y10 hy10 h => ?_; refine W.call rfl (ref21_Forth_fn hy10) ?_; refine W.v (.tup [.row 1048647 1 (List.map api_Item.enc y10.1).length, VI y10.2]) (.tup [.row 1048647 1 y10.1.length, VI y10.2]) (Mem.add _ 1048647 (.rows 11 (List.map api_Item.enc y10.1) false)) rfl (by simp only [List.length_map]) ?_
      refine Zo (.tup [.row 1048647 1 y10.1.length, VI y10.2]) rfl rfl ?_; refine Zo (.row 1048647 1 y10.1.length) rfl rfl ?_; refine Zpp 1 rfl ?_; refine Zo (.row 1048647 1 y10.1.length) rfl rfl ?_; refine Zpp 7 rfl ?_; refine YT rfl rfl rfl h (fun _ h => ?_) (fun _ h => ?_)
      · refine Zwp 5 rfl ?_; refine YT rfl rfl rfl h (fun _ h => ?_) (fun _ h => ?_)
        · refine W.det (.row 1048620 1 y7.1.length) _ rfl ?_; refine Zu (.row 1048629 1 y8.1.length) rfl rfl rfl rfl ?_; refine Y2 rfl rfl rfl ?_; refine bindK h fun y11 hy11 h => ?_; refine W.call rfl (ref21_SameItems_fn hy11) ?_; refine Zwp 3 rfl ?_; refine YT rfl rfl rfl h (fun _ h => ?_) (fun _ h => ?_)
          · refine Zwp 5 rfl ?_; refine YT rfl rfl rfl h (fun _ h => ?_) (fun _ h => ?_)
            · refine W.det (.row 1048638 1 y9.1.length) _ rfl ?_; refine Zu (.row 1048647 1 y10.1.length) rfl rfl rfl rfl ?_; refine Y2 rfl rfl rfl ?_; refine bindK h fun y12 hy12 h => ?_; refine W.call rfl (ref21_SameItems_fn hy12) ?_; refine Zwp 3 rfl ?_; refine YT rfl rfl rfl h (fun _ h => ?_) (fun _ h => ?_)
              · refine W.det (.agg (api_Profile.av p_)) _ rfl ?_; refine Zu (.row 1048611 1 y6.1.length) rfl rfl rfl rfl ?_; refine Zpp 3 rfl ?_; refine Y2 rfl rfl rfl ?_; refine bindK h fun y13 hy13 h => ?_; refine W.call rfl (forth_Many_fn hy13) ?_; refine Zwp 1 rfl ?_; refine Zu (.row 1048629 1 y8.1.length) rfl rfl rfl rfl ?_; refine Zpb 7 rfl ?_; cases h; cases hG; exact ⟨rfl, trivial⟩
              · refine Zpb 13 rfl ?_; cases h; cases hG; exact ⟨rfl, trivial⟩
            · refine Zpb 18 rfl ?_; cases h; cases hG; exact ⟨rfl, trivial⟩
          · refine Zpb 23 rfl ?_; cases h; cases hG; exact ⟨rfl, trivial⟩
        · refine Zpb 28 rfl ?_; cases h; cases hG; exact ⟨rfl, trivial⟩
      · refine Zpb 33 rfl ?_; cases h; cases hG; exact ⟨rfl, trivial⟩
end Go.Proofs.YtljdbikodogeiaaGreatDoor

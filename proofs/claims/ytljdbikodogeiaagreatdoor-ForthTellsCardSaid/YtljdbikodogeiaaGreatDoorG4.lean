/-
  Plain programs of functions, and that the functions do what they say. Printed by wip/tools/gen.py.
-/
import Derived.Test.YtljdbikodogeiaaGreatDoorG3
namespace Go.Proofs.YtljdbikodogeiaaGreatDoor
open Go.RowKit
attribute [local irreducible] IntKind.wrap AW runL Step.wp
set_option linter.unusedVariables false
set_option maxHeartbeats 4000000
set_option maxRecDepth 100000
noncomputable def forth_network_all (n_ : forth_network) (id_ : Int) : Option ((List api_Item)) :=
  (getI n_.events id_).bind fun x8 =>
  (bif (x8.Kind == (0 : Int)) then
    (forth_network_first (forth_network.mk (api_Profile.mk n_.p.Name n_.p.Edit n_.p.Within n_.p.Delete n_.p.React n_.p.Thread n_.p.Quote n_.p.Mention n_.p.Size n_.p.Parts n_.p.Files n_.p.Bytes n_.p.Types n_.p.Join n_.p.History n_.p.Remove n_.p.Level n_.p.Batch n_.p.Rate n_.p.Down n_.p.Window n_.p.Keep) n_.ways n_.events n_.bad) id_).bind fun y9 =>
    some y9
  else
    (forth_network_act (forth_network.mk (api_Profile.mk n_.p.Name n_.p.Edit n_.p.Within n_.p.Delete n_.p.React n_.p.Thread n_.p.Quote n_.p.Mention n_.p.Size n_.p.Parts n_.p.Files n_.p.Bytes n_.p.Types n_.p.Join n_.p.History n_.p.Remove n_.p.Level n_.p.Batch n_.p.Rate n_.p.Down n_.p.Window n_.p.Keep) n_.ways n_.events n_.bad) id_).bind fun y10 =>
    (bif (!y10) then
      some ([] : List api_Item)
    else
      (bif (x8.Kind == (1 : Int)) then
        (forth_network_edit (forth_network.mk (api_Profile.mk n_.p.Name n_.p.Edit n_.p.Within n_.p.Delete n_.p.React n_.p.Thread n_.p.Quote n_.p.Mention n_.p.Size n_.p.Parts n_.p.Files n_.p.Bytes n_.p.Types n_.p.Join n_.p.History n_.p.Remove n_.p.Level n_.p.Batch n_.p.Rate n_.p.Down n_.p.Window n_.p.Keep) n_.ways n_.events n_.bad) id_).bind fun y11 =>
        some y11
      else
        (bif (x8.Kind == (2 : Int)) then
          (forth_network_remove (forth_network.mk (api_Profile.mk n_.p.Name n_.p.Edit n_.p.Within n_.p.Delete n_.p.React n_.p.Thread n_.p.Quote n_.p.Mention n_.p.Size n_.p.Parts n_.p.Files n_.p.Bytes n_.p.Types n_.p.Join n_.p.History n_.p.Remove n_.p.Level n_.p.Batch n_.p.Rate n_.p.Down n_.p.Window n_.p.Keep) n_.ways n_.events n_.bad) id_).bind fun y12 =>
          some y12
        else
          (bif (x8.Kind == (3 : Int)) then
            (forth_network_react (forth_network.mk (api_Profile.mk n_.p.Name n_.p.Edit n_.p.Within n_.p.Delete n_.p.React n_.p.Thread n_.p.Quote n_.p.Mention n_.p.Size n_.p.Parts n_.p.Files n_.p.Bytes n_.p.Types n_.p.Join n_.p.History n_.p.Remove n_.p.Level n_.p.Batch n_.p.Rate n_.p.Down n_.p.Window n_.p.Keep) n_.ways n_.events n_.bad) id_).bind fun y13 =>
            some y13
          else
            (bif (x8.Kind == (4 : Int)) then
              (forth_network_react (forth_network.mk (api_Profile.mk n_.p.Name n_.p.Edit n_.p.Within n_.p.Delete n_.p.React n_.p.Thread n_.p.Quote n_.p.Mention n_.p.Size n_.p.Parts n_.p.Files n_.p.Bytes n_.p.Types n_.p.Join n_.p.History n_.p.Remove n_.p.Level n_.p.Batch n_.p.Rate n_.p.Down n_.p.Window n_.p.Keep) n_.ways n_.events n_.bad) id_).bind fun y14 =>
              some y14
            else
              some ([] : List api_Item)))))))
theorem forth_network_all_fn {dr : Prop} {n_ : forth_network} {id_ : Int} {r : (List api_Item)} (h : forth_network_all n_ id_ = some r) : Fn dr Tryz.prog 23 [.agg (forth_network.av n_), VI id_] (.ow 11 (List.map api_Item.enc r)) := by
  refine Fn.of_AW (dr := dr) (F := FnX dr Tryz.prog) (base := 0) (js := []) mixed tok noeqs (fun _ _ _ h => h) Tryz.call23 Tryz.func23 rfl Tryz.ntmps23 (by rw [Tryz.results23]) (by simp) ?_; have hG : (fun x => x = r) r := rfl; unfold forth_network_all at h; refine Zap 2 rfl ?_; refine Zm (.lp 2 1 0) (Mem.add _ 2 (.box (forth_network.av n_))) rfl rfl ?_; refine Zm (.row 4 1 0) (Mem.add _ 4 (.rows 11 (List.map api_Item.enc ([] : List api_Item)) false)) rfl rfl ?_; refine Zpp 8 rfl ?_; refine Y1 rfl ?_; refine bindK h fun x8 hx8 h => ?_; refine W.chk rfl (elemB hx8) ?_; refine W.elem rfl (elemG hx8) ?_; refine W.chk rfl rfl ?_; refine W.det (.fp [.v (.int .i64 x8.Author), .v (.int .i64 x8.Seq), .fz (List.map (encI .i64) x8.Causes), .v (.int .i64 x8.Kind), .v (.int .i64 x8.Group), .v (.int .i64 x8.Target), .v (.int .i64 x8.Quote), .v (.int .i64 x8.Who), .v (.int .i64 x8.N), .v (.string x8.Text), .fz (List.map (encI .i64) x8.Files), .v (.int .i64 x8.Step)]) _ rfl ?_; refine Zo (.fp [.v (.int .i64 x8.Kind), .v (.int .i64 x8.Group), .v (.int .i64 x8.Target), .v (.int .i64 x8.Quote), .v (.int .i64 x8.Who), .v (.int .i64 x8.N), .v (.string x8.Text), .fz (List.map (encI .i64) x8.Files), .v (.int .i64 x8.Step)]) rfl rfl ?_; refine Zpc 12 rfl ?_; refine A.condB rfl h (fun _ h => ?_) (fun _ h => ?_)
  · refine Zcp 2 rfl ?_; refine Zo (.agg (forth_network.av n_)) rfl rfl ?_; refine Zpp 1 rfl ?_; refine Y1 rfl ?_; refine bindK h fun y9 hy9 h => ?_; refine W.call rfl (forth_network_first_fn hy9) ?_; refine W.v (.row 17 1 (List.map api_Item.enc y9).length) (.row 17 1 y9.length) (Mem.add _ 17 (.rows 11 (List.map api_Item.enc y9) false)) rfl (by simp only [List.length_map]) ?_; refine Zo (.row 17 1 y9.length) rfl rfl ?_; refine Zpb 5 rfl ?_; cases h; cases hG; exact ⟨rfl, rfl, trivial⟩
  · refine Zcp 2 rfl ?_; refine Zo (.agg (forth_network.av n_)) rfl rfl ?_; refine Zpp 1 rfl ?_; refine Y1 rfl ?_; refine bindK h fun y10 hy10 h => ?_; refine W.call rfl (forth_network_act_fn hy10) ?_; refine Zwc 5 rfl ?_; refine A.condB rfl h (fun _ h => ?_) (fun _ h => ?_)
    · refine Zcp 2 rfl ?_; refine Zm (.row 4 2 0) (Mem.add _ 4 (.rows 11 (List.map api_Item.enc ([] : List api_Item)) false)) rfl rfl ?_; refine Zpb 5 rfl ?_; cases h; cases hG; exact ⟨rfl, rfl, trivial⟩
    · refine Zcc 7 rfl ?_; refine A.condB rfl h (fun _ h => ?_) (fun _ h => ?_)
      · refine Zcp 2 rfl ?_; refine Zo (.agg (forth_network.av n_)) rfl rfl ?_; refine Zpp 1 rfl ?_; refine Y1 rfl ?_; refine bindK h fun y11 hy11 h => ?_; refine W.call rfl (forth_network_edit_fn hy11) ?_; refine W.v (.row 28 1 (List.map api_Item.enc y11).length) (.row 28 1 y11.length) (Mem.add _ 28 (.rows 11 (List.map api_Item.enc y11) false)) rfl (by simp only [List.length_map]) ?_; refine Zo (.row 28 1 y11.length) rfl rfl ?_; refine Zpb 5 rfl ?_; cases h; cases hG; exact ⟨rfl, rfl, trivial⟩
      · refine Zcc 7 rfl ?_; refine A.condB rfl h (fun _ h => ?_) (fun _ h => ?_)
        · refine Zcp 2 rfl ?_; refine Zo (.agg (forth_network.av n_)) rfl rfl ?_; refine Zpp 1 rfl ?_; refine Y1 rfl ?_; refine bindK h fun y12 hy12 h => ?_; refine W.call rfl (forth_network_remove_fn hy12) ?_; refine W.v (.row 34 1 (List.map api_Item.enc y12).length) (.row 34 1 y12.length) (Mem.add _ 34 (.rows 11 (List.map api_Item.enc y12) false)) rfl (by simp only [List.length_map]) ?_; refine Zo (.row 34 1 y12.length) rfl rfl ?_; refine Zpb 5 rfl ?_; cases h; cases hG; exact ⟨rfl, rfl, trivial⟩
        · refine Zcp 5 rfl ?_; refine YF rfl rfl rfl h (fun _ h => ?_) (fun _ h => ?_)
          · refine Zpp 8 rfl ?_; refine Zo (.agg (forth_network.av n_)) rfl rfl ?_; refine Zpp 1 rfl ?_; refine Y1 rfl ?_; refine bindK h fun y13 hy13 h => ?_; refine W.call rfl (forth_network_react_fn hy13) ?_; refine W.v (.row 44 1 (List.map api_Item.enc y13).length) (.row 44 1 y13.length) (Mem.add _ 44 (.rows 11 (List.map api_Item.enc y13) false)) rfl (by simp only [List.length_map]) ?_; refine Zo (.row 44 1 y13.length) rfl rfl ?_; refine Zpb 5 rfl ?_; cases h; cases hG; exact ⟨rfl, rfl, trivial⟩
          · refine Zwc 6 rfl ?_; refine A.condB rfl h (fun _ h => ?_) (fun _ h => ?_)
            · refine Zcp 2 rfl ?_; refine Zo (.agg (forth_network.av n_)) rfl rfl ?_; refine Zpp 1 rfl ?_; refine Y1 rfl ?_; refine bindK h fun y14 hy14 h => ?_; refine W.call rfl (forth_network_react_fn hy14) ?_; refine W.v (.row 44 1 (List.map api_Item.enc y14).length) (.row 44 1 y14.length) (Mem.add _ 44 (.rows 11 (List.map api_Item.enc y14) false)) rfl (by simp only [List.length_map]) ?_; refine Zo (.row 44 1 y14.length) rfl rfl ?_; refine Zpb 5 rfl ?_; cases h; cases hG; exact ⟨rfl, rfl, trivial⟩
            · refine Zcp 5 rfl ?_; refine Zm (.row 4 2 0) (Mem.add _ 4 (.rows 11 (List.map api_Item.enc ([] : List api_Item)) false)) rfl rfl ?_; refine Zpb 3 rfl ?_; cases h; cases hG; exact ⟨rfl, rfl, trivial⟩
noncomputable def forth_Forth (p_ : api_Profile) (l_ : (List api_Way)) (events_ : (List api_Event)) (bad_ : (List Int)) (id_ : Int) : Option ((List api_Item) × Int) :=
  (ways_Compile p_).bind fun y1 =>
  (bif (y1.2 != (0 : Int)) then
    some (([] : List api_Item), (1 : Int))
  else
    (slices_Equal_api_Way_api_Way y1.1 l_).bind fun y5 =>
    (bif (!y5) then
      some (([] : List api_Item), (1 : Int))
    else
      (bif (decide (id_ < (0 : Int))) then
        some (([] : List api_Item), (4 : Int))
      else
        (bif (decide ((events_.length : Int) ≤ id_)) then
          some (([] : List api_Item), (4 : Int))
        else
          (forth_network_all (forth_network.mk p_ l_ events_ bad_) id_).bind fun y6 =>
          some (y6, (0 : Int))))))
theorem forth_Forth_fn {dr : Prop} {p_ : api_Profile} {l_ : (List api_Way)} {events_ : (List api_Event)} {bad_ : (List Int)} {id_ : Int} {r : (List api_Item) × Int} (h : forth_Forth p_ l_ events_ bad_ id_ = some r) : Fn dr Tryz.prog 8 [.agg (api_Profile.av p_), VF (List.map api_Way.enc l_), VF (List.map api_Event.enc events_), VF (List.map (encI .i64) bad_), VI id_] (.tup [.ow 11 (List.map api_Item.enc r.1), VI r.2]) := by
  refine Fn.of_AW (dr := dr) (F := FnX dr Tryz.prog) (base := 0) (js := []) mixed tok noeqs (fun _ _ _ h => h) Tryz.call8 Tryz.func8 rfl Tryz.ntmps8 (by rw [Tryz.results8]) (by simp) ?_; have hG : (fun x => x = r) r := rfl; unfold forth_Forth at h; refine Zap 2 rfl ?_; refine Zm (.lp 5 1 0) (Mem.add _ 5 (.box (api_Profile.av p_))) rfl rfl ?_; refine Zm (.row 10 1 0) (Mem.add _ 10 (.rows 11 (List.map api_Item.enc ([] : List api_Item)) false)) rfl rfl ?_; refine Zpp 5 rfl ?_; refine Zo (.agg (api_Profile.av p_)) rfl rfl ?_; refine Y1 rfl ?_; refine bindK h fun y1 hy1 h => ?_; refine W.call rfl (ways_Compile_fn hy1) ?_; refine W.v (.tup [.row 1048592 1 (List.map api_Way.enc y1.1).length, VI y1.2]) (.tup [.row 1048592 1 y1.1.length, VI y1.2]) (Mem.add _ 1048592 (.rows 2 (List.map api_Way.enc y1.1) false)) rfl (by simp only [List.length_map]) ?_; refine Zo (.tup [.row 1048592 1 y1.1.length, VI y1.2]) rfl rfl ?_; refine Zo (.row 1048592 1 y1.1.length) rfl rfl ?_; refine Zpp 1 rfl ?_; refine Zo (.row 1048592 1 y1.1.length) rfl rfl ?_; refine Zpp 10 rfl ?_; refine YF rfl rfl rfl h (fun _ h => ?_) (fun _ h => ?_)
  · refine Zpp 10 rfl ?_; refine Zm (.row 10 2 0) (Mem.add _ 10 (.rows 11 (List.map api_Item.enc ([] : List api_Item)) false)) rfl rfl ?_; refine Zpb 6 rfl ?_; cases h; cases hG; exact ⟨rfl, rfl, rfl, trivial⟩
  · refine W.det (.row 1048592 1 y1.1.length) _ rfl ?_; refine Zpp 1 rfl ?_; refine Y2 rfl rfl rfl ?_; refine bindK h fun y5 hy5 h => ?_; refine W.call rfl (slices_Equal_api_Way_api_Way_fn hy5) ?_; refine Zwc 6 rfl ?_; refine A.condB rfl h (fun _ h => ?_) (fun _ h => ?_)
    · refine Zcp 2 rfl ?_; refine Zm (.row 10 2 0) (Mem.add _ 10 (.rows 11 (List.map api_Item.enc ([] : List api_Item)) false)) rfl rfl ?_; refine Zpb 6 rfl ?_; cases h; cases hG; exact ⟨rfl, rfl, rfl, trivial⟩
    · refine Zcp 5 rfl ?_; refine YF rfl rfl rfl h (fun _ h => ?_) (fun _ h => ?_)
      · refine Zpp 10 rfl ?_; refine Zm (.row 10 2 0) (Mem.add _ 10 (.rows 11 (List.map api_Item.enc ([] : List api_Item)) false)) rfl rfl ?_; refine Zpb 6 rfl ?_; cases h; cases hG; exact ⟨rfl, rfl, rfl, trivial⟩
      · refine Zwp 2 rfl ?_; refine Y2 rfl rfl rfl ?_; refine W.len rfl ?_; refine Zpc 5 rfl ?_; refine A.condB rfl h (fun _ h => ?_) (fun _ h => ?_)
        · refine Zcp 2 rfl ?_; refine Zm (.row 10 2 0) (Mem.add _ 10 (.rows 11 (List.map api_Item.enc ([] : List api_Item)) false)) rfl rfl ?_; refine Zpb 6 rfl ?_; cases h; cases hG; exact ⟨rfl, rfl, rfl, trivial⟩
        · refine Zcp 5 rfl ?_; refine Zo (.agg (api_Profile.av p_)) rfl rfl ?_; refine Zpp 3 rfl ?_; refine Zo (.agg [VS p_.Name, VI p_.Edit, VI p_.Within, VI p_.Delete, VB p_.React, VI p_.Thread, VB p_.Quote, VB p_.Mention, VI p_.Size, VI p_.Parts, VI p_.Files, VI p_.Bytes, VF (List.map encS p_.Types), VI p_.Join, VI p_.History, VI p_.Remove, VI p_.Level, VB p_.Batch, VI p_.Rate, VI p_.Down, VI p_.Window, VI p_.Keep, VF (List.map api_Way.enc l_), VF (List.map api_Event.enc events_), VF (List.map (encI .i64) bad_)]) rfl rfl ?_; refine Zpp 1 rfl ?_; refine Y1 rfl ?_; refine bindK h fun y6 hy6 h => ?_; refine W.call rfl (forth_network_all_fn hy6) ?_; refine W.v (.row 43 1 (List.map api_Item.enc y6).length) (.row 43 1 y6.length) (Mem.add _ 43 (.rows 11 (List.map api_Item.enc y6) false)) rfl (by simp only [List.length_map]) ?_; refine Zo (.row 43 1 y6.length) rfl rfl ?_; refine Zpb 4 rfl ?_; cases h; cases hG; exact ⟨rfl, rfl, rfl, trivial⟩
noncomputable def ref10_Ints_L1 (a_ : (List Int)) (b_ : (List Int)) (s3 : Int) : Option ((Int) ⊕ ((Unit) ⊕ (Bool))) :=
  (bif (decide (s3 < (a_.length : Int))) then
    (getI a_ s3).bind fun x23 =>
    (getI b_ s3).bind fun x24 =>
    (bif (x23 != x24) then
      some (.inr (.inr false))
    else
      some (.inl (IntKind.i64.wrap (s3 + (1 : Int)))))
  else
    some (.inr (.inl ())))
noncomputable def ref10_Ints (a_ : (List Int)) (b_ : (List Int)) : Option (Bool) :=
  (bif ((a_.length : Int) != (b_.length : Int)) then
    some false
  else
    (seqF (A := Unit) (
      loopF (ref10_Ints_L1 a_ b_) (0 : Int))
    fun s2 =>
      some true))
theorem ref10_Ints_fn {dr : Prop} {a_ : (List Int)} {b_ : (List Int)} {r : Bool} (h : ref10_Ints a_ b_ = some r) : Fn dr Tryz.prog 65 [VF (List.map (encI .i64) a_), VF (List.map (encI .i64) b_)] (VB r) := by
  refine Fn.of_AW (dr := dr) (F := FnX dr Tryz.prog) (base := 0) (js := [8]) mixed tok noeqs (fun _ _ _ h => h) Tryz.call65 Tryz.func65 rfl Tryz.ntmps65 (by rw [Tryz.results65]) (by simp) ?_; have hG : (fun x => x = r) r := rfl; unfold ref10_Ints at h; refine Zap 9 rfl ?_; refine Y1 rfl ?_; refine W.len rfl ?_; refine Zpp 1 rfl ?_; refine Y1 rfl ?_; refine W.len rfl ?_; refine Zpc 3 rfl ?_; refine A.condB rfl h (fun _ h => ?_) (fun _ h => ?_)
  · refine Zcb 7 rfl ?_; cases h; cases hG; exact ⟨rfl, trivial⟩
  · refine Zcc 2 rfl ?_; refine A.join (fun (s2 : Unit) => []) (fun s2 => []) _ h hG rfl ?_ ?_
    · intro J f h hG; refine Zac 6 rfl ?_; refine A.loop (fun (s3 : Int) => [(0, VF (List.map (encI .i64) a_)), (1, VF (List.map (encI .i64) b_)), (5, VI s3)]) (fun s3 => []) _ h hG (Zf [] [] rfl rfl (Ze rfl rfl (Ze rfl rfl (Ze rfl rfl trivial))) trivial) ?_; intro J s3 f h hG; unfold ref10_Ints_L1 at h; refine Zap 5 rfl ?_; refine Y1 rfl ?_; refine W.len rfl ?_; refine Zpc 3 rfl ?_; refine A.condB rfl h (fun _ h => ?_) (fun _ h => ?_)
      · refine Zcc 5 rfl ?_; refine A.regionD (by kernel_rfl) ?_; refine Zpp 2 rfl ?_; refine Y1 rfl ?_; refine bindK h fun x23 hx23 h => ?_; refine W.chk rfl (elemB hx23) ?_; refine W.elem rfl (elemG hx23) ?_; refine W.chk rfl rfl ?_; refine W.det (.fp [.v (.int .i64 x23)]) _ rfl ?_; refine Zpp 3 rfl ?_; refine Y1 rfl ?_; refine bindK h fun x24 hx24 h => ?_; refine W.chk rfl (elemB hx24) ?_; refine W.elem rfl (elemG hx24) ?_; refine W.chk rfl rfl ?_; refine W.det (.fp [.v (.int .i64 x24)]) _ rfl ?_; refine Zpc 4 rfl ?_; refine A.condB rfl h (fun _ h => ?_) (fun _ h => ?_)
        · refine Zcb 8 rfl ?_; refine headK.r ?_; refine Zob 1 rfl ?_; refine headK.r ?_; cases h; cases hG; exact ⟨rfl, trivial⟩
        · refine Zcb 8 rfl ?_; cases h; exact Zh hG [] [] rfl rfl (Ze rfl rfl (Ze rfl rfl (Ze rfl rfl trivial))) trivial
      · refine Zcb 2 rfl ?_; refine headK.e ?_; refine Zob 1 rfl ?_; cases h; exact Zh hG [] [] rfl rfl trivial trivial
    · intro s2 r2 h hG; refine Zcb 6 rfl ?_; cases h; cases hG; exact ⟨rfl, trivial⟩
noncomputable def ref21_SameItem (a_ : api_Item) (b_ : api_Item) : Option (Bool) :=
  (seqF (A := Bool) (
    (bif (a_.Event == b_.Event) then
      (bif (a_.Part == b_.Part) then
        (bif (a_.Of == b_.Of) then
          (bif (a_.Kind == b_.Kind) then
            (bif (a_.On == b_.On) then
              some (.inl (a_.OnPart == b_.OnPart))
            else
              some (.inl false))
          else
            some (.inl false))
        else
          some (.inl false))
      else
        some (.inl false))
    else
      some (.inl false)))
  fun s1 =>
    (bif s1 then
      (bif (a_.Quote == b_.Quote) then
        (bif (a_.Who == b_.Who) then
          (bif (a_.N == b_.N) then
            (bif (a_.Text.toList == b_.Text.toList) then
              (ref10_Ints a_.Files b_.Files).bind fun y1 =>
              some y1
            else
              some false)
          else
            some false)
        else
          some false)
      else
        some false)
    else
      some false))
theorem ref21_SameItem_fn {dr : Prop} {a_ : api_Item} {b_ : api_Item} {r : Bool} (h : ref21_SameItem a_ b_ = some r) : Fn dr Tryz.prog 36 [.agg (api_Item.av a_), .agg (api_Item.av b_)] (VB r) := by
  refine Fn.of_AW (dr := dr) (F := FnX dr Tryz.prog) (base := 0) (js := [2]) mixed tok noeqs (fun _ _ _ h => h) Tryz.call36 Tryz.func36 rfl Tryz.ntmps36 (by rw [Tryz.results36]) (by simp) ?_; have hG : (fun x => x = r) r := rfl; unfold ref21_SameItem at h; refine Zap 2 rfl ?_; refine Zm (.lp 2 1 0) (Mem.add _ 2 (.box (api_Item.av a_))) rfl rfl ?_; refine Zm (.lp 3 1 0) (Mem.add _ 3 (.box (api_Item.av b_))) rfl rfl ?_; refine Zpc 3 rfl ?_; refine A.join (fun (s1 : Bool) => [(2, .lp 900000 1 0), (3, .lp 900001 1 0), (5, VB s1)]) (fun s1 => [(900000, .box (api_Item.av a_)), (900001, .box (api_Item.av b_))]) _ h hG rfl ?_ ?_
  · intro J f h hG; refine Zap 7 rfl ?_; refine YT rfl rfl rfl h (fun _ h => ?_) (fun _ h => ?_)
    · refine Zwp 7 rfl ?_; refine YT rfl rfl rfl h (fun _ h => ?_) (fun _ h => ?_)
      · refine Zwp 7 rfl ?_; refine YT rfl rfl rfl h (fun _ h => ?_) (fun _ h => ?_)
        · refine Zwp 7 rfl ?_; refine YT rfl rfl rfl h (fun _ h => ?_) (fun _ h => ?_)
          · refine Zwp 7 rfl ?_; refine YT rfl rfl rfl h (fun _ h => ?_) (fun _ h => ?_)
            · refine Zwb 8 rfl ?_; cases h; exact Zh hG [] [(900000, (2, 1)), (900001, (3, 1))] rfl rfl (Ze rfl rfl (Ze rfl rfl (Ze rfl rfl trivial))) (Zc rfl rfl (Zc rfl rfl trivial))
            · refine Zpb 7 rfl ?_; cases h; exact Zh hG [] [(900000, (2, 1)), (900001, (3, 1))] rfl rfl (Ze rfl rfl (Ze rfl rfl (Ze rfl rfl trivial))) (Zc rfl rfl (Zc rfl rfl trivial))
          · refine Zpb 14 rfl ?_; cases h; exact Zh hG [] [(900000, (2, 1)), (900001, (3, 1))] rfl rfl (Ze rfl rfl (Ze rfl rfl (Ze rfl rfl trivial))) (Zc rfl rfl (Zc rfl rfl trivial))
        · refine Zpb 21 rfl ?_; cases h; exact Zh hG [] [(900000, (2, 1)), (900001, (3, 1))] rfl rfl (Ze rfl rfl (Ze rfl rfl (Ze rfl rfl trivial))) (Zc rfl rfl (Zc rfl rfl trivial))
      · refine Zpb 28 rfl ?_; cases h; exact Zh hG [] [(900000, (2, 1)), (900001, (3, 1))] rfl rfl (Ze rfl rfl (Ze rfl rfl (Ze rfl rfl trivial))) (Zc rfl rfl (Zc rfl rfl trivial))
    · refine Zpb 35 rfl ?_; cases h; exact Zh hG [] [(900000, (2, 1)), (900001, (3, 1))] rfl rfl (Ze rfl rfl (Ze rfl rfl (Ze rfl rfl trivial))) (Zc rfl rfl (Zc rfl rfl trivial))
  · intro s1 r2 h hG; refine Zcp 4 rfl ?_; refine YT rfl rfl rfl h (fun _ h => ?_) (fun _ h => ?_)
    · refine Zwp 7 rfl ?_; refine YT rfl rfl rfl h (fun _ h => ?_) (fun _ h => ?_)
      · refine Zwp 7 rfl ?_; refine YT rfl rfl rfl h (fun _ h => ?_) (fun _ h => ?_)
        · refine Zwp 7 rfl ?_; refine YT rfl rfl rfl h (fun _ h => ?_) (fun _ h => ?_)
          · refine Zwp 7 rfl ?_; refine YT rfl rfl rfl h (fun _ h => ?_) (fun _ h => ?_)
            · refine Zwp 4 rfl ?_; refine Y2 rfl rfl rfl ?_; refine bindK h fun y1 hy1 h => ?_; refine W.call rfl (ref10_Ints_fn hy1) ?_; refine Zwb 6 rfl ?_; cases h; cases hG; exact ⟨rfl, trivial⟩
            · refine Zpb 9 rfl ?_; cases h; cases hG; exact ⟨rfl, trivial⟩
          · refine Zpb 16 rfl ?_; cases h; cases hG; exact ⟨rfl, trivial⟩
        · refine Zpb 23 rfl ?_; cases h; cases hG; exact ⟨rfl, trivial⟩
      · refine Zpb 30 rfl ?_; cases h; cases hG; exact ⟨rfl, trivial⟩
    · refine Zpb 37 rfl ?_; cases h; cases hG; exact ⟨rfl, trivial⟩
noncomputable def law21_says (id_ : Int) (kind_ : Int) (on_ : Int) (text_ : ByteArray) : Option (Bool) :=
  (law21_plain).bind fun y1 =>
  (ways_Compile y1).bind fun y2 =>
  (law21_plain).bind fun y3 =>
  (law21_story).bind fun y4 =>
  (forth_Forth y3 y2.1 y4 ([] : List Int) id_).bind fun y5 =>
  (bif (y2.2 != (0 : Int)) then
    some false
  else
    (bif (y5.2 != (0 : Int)) then
      some false
    else
      (bif (((y5.1.length : Nat) : Int) != (1 : Int)) then
        some false
      else
        (chkO (decide (0 ≤ (0 : Int)) && decide ((0 : Int) < ((y5.1.length : Nat) : Int)))).bind fun _ =>
        (getI y5.1 (0 : Int)).bind fun x7 =>
        (ref21_SameItem x7 (api_Item.mk id_ (0 : Int) (1 : Int) kind_ on_ (0 : Int) (-1 : Int) (-1 : Int) (0 : Int) text_ ([] : List Int))).bind fun y8 =>
        some y8)))
theorem law21_says_fn {dr : Prop} {id_ : Int} {kind_ : Int} {on_ : Int} {text_ : ByteArray} {r : Bool} (h : law21_says id_ kind_ on_ text_ = some r) : Fn dr Tryz.prog 18 [VI id_, VI kind_, VI on_, VS text_] (VB r) := by
  refine Fn.of_AW (dr := dr) (F := FnX dr Tryz.prog) (base := 0) (js := []) mixed tok noeqs (fun _ _ _ h => h) Tryz.call18 Tryz.func18 rfl Tryz.ntmps18 (by rw [Tryz.results18]) (by simp) ?_; have hG : (fun x => x = r) r := rfl; unfold law21_says at h; refine Zap 7 rfl ?_; refine Y1 rfl ?_; refine bindK h fun y1 hy1 h => ?_; refine W.call rfl (law21_plain_fn hy1) ?_; refine W.v (.agg [VS y1.Name, VI y1.Edit, VI y1.Within, VI y1.Delete, VB y1.React, VI y1.Thread, VB y1.Quote, VB y1.Mention, VI y1.Size, VI y1.Parts, VI y1.Files, VI y1.Bytes, .row 851982 1 (List.map encS y1.Types).length, VI y1.Join, VI y1.History, VI y1.Remove, VI y1.Level, VB y1.Batch, VI y1.Rate, VI y1.Down, VI y1.Window, VI y1.Keep]) (.agg [VS y1.Name, VI y1.Edit, VI y1.Within, VI y1.Delete, VB y1.React, VI y1.Thread, VB y1.Quote, VB y1.Mention, VI y1.Size, VI y1.Parts, VI y1.Files, VI y1.Bytes, .row 851982 1 y1.Types.length, VI y1.Join, VI y1.History, VI y1.Remove, VI y1.Level, VB y1.Batch, VI y1.Rate, VI y1.Down, VI y1.Window, VI y1.Keep]) (Mem.add _ 851982 (.rows 1 (List.map encS y1.Types) false)) rfl (by simp only [List.length_map]) ?_; refine Y1 rfl ?_; refine bindK h fun y2 hy2 h => ?_; refine W.call rfl (ways_Compile_fn hy2) ?_; refine W.v (.tup [.row 1048591 1 (List.map api_Way.enc y2.1).length, VI y2.2]) (.tup [.row 1048591 1 y2.1.length, VI y2.2]) (Mem.add (Mem.set _ 851982 1 (some (.rows 1 (List.map encS y1.Types) true))) 1048591 (.rows 2 (List.map api_Way.enc y2.1) false)) rfl (by simp only [List.length_map]) ?_; refine Zo (.tup [.row 1048591 1 y2.1.length, VI y2.2]) rfl rfl ?_; refine Zo (.row 1048591 1 y2.1.length) rfl rfl ?_; refine Zpp 1 rfl ?_; refine Zo (.row 1048591 1 y2.1.length) rfl rfl ?_; refine Zpp 5 rfl ?_; refine Y1 rfl ?_; refine bindK h fun y3 hy3 h => ?_; refine W.call rfl (law21_plain_fn hy3) ?_; refine W.v (.agg [VS y3.Name, VI y3.Edit, VI y3.Within, VI y3.Delete, VB y3.React, VI y3.Thread, VB y3.Quote, VB y3.Mention, VI y3.Size, VI y3.Parts, VI y3.Files, VI y3.Bytes, .row 851987 1 (List.map encS y3.Types).length, VI y3.Join, VI y3.History, VI y3.Remove, VI y3.Level, VB y3.Batch, VI y3.Rate, VI y3.Down, VI y3.Window, VI y3.Keep]) (.agg [VS y3.Name, VI y3.Edit, VI y3.Within, VI y3.Delete, VB y3.React, VI y3.Thread, VB y3.Quote, VB y3.Mention, VI y3.Size, VI y3.Parts, VI y3.Files, VI y3.Bytes, .row 851987 1 y3.Types.length, VI y3.Join, VI y3.History, VI y3.Remove, VI y3.Level, VB y3.Batch, VI y3.Rate, VI y3.Down, VI y3.Window, VI y3.Keep]) (Mem.add _ 851987 (.rows 1 (List.map encS y3.Types) false)) rfl (by simp only [List.length_map]) ?_; refine Zo (.row 1048591 1 y2.1.length) rfl rfl ?_; refine Y1 rfl ?_; refine bindK h fun y4 hy4 h => ?_; refine W.call rfl (law21_story_fn hy4) ?_; refine W.v (.row 21 1 (List.map api_Event.enc y4).length) (.row 21 1 y4.length) (Mem.add _ 21 (.rows 12 (List.map api_Event.enc y4) false)) rfl (by simp only [List.length_map]) ?_; refine Zpp 1 rfl ?_; refine Y1 rfl ?_; refine bindK h fun y5 hy5 h => ?_; refine W.call rfl (forth_Forth_fn hy5) ?_
  refine W.v (.tup [.row 1048599 1 (List.map api_Item.enc y5.1).length, VI y5.2]) (.tup [.row 1048599 1 y5.1.length, VI y5.2]) (Mem.add (Mem.set (Mem.set (Mem.set _ 851987 1 (some (.rows 1 (List.map encS y3.Types) true))) 1048591 1 (some (.rows 2 (List.map api_Way.enc y2.1) true))) 21 1 (some (.rows 12 (List.map api_Event.enc y4) true))) 1048599 (.rows 11 (List.map api_Item.enc y5.1) false)) rfl (by simp only [List.length_map]) ?_; refine Zo (.tup [.row 1048599 1 y5.1.length, VI y5.2]) rfl rfl ?_; refine Zo (.row 1048599 1 y5.1.length) rfl rfl ?_; refine Zpp 1 rfl ?_; refine Zo (.row 1048599 1 y5.1.length) rfl rfl ?_; refine Zpp 9 rfl ?_; refine YF rfl rfl rfl h (fun _ h => ?_) (fun _ h => ?_)
  · refine Zpb 17 rfl ?_; cases h; cases hG; exact ⟨rfl, trivial⟩
  · refine Zwp 4 rfl ?_; refine YF rfl rfl rfl h (fun _ h => ?_) (fun _ h => ?_)
    · refine Zpb 13 rfl ?_; cases h; cases hG; exact ⟨rfl, trivial⟩
    · refine W.det (.row 1048599 1 y5.1.length) _ rfl ?_; refine Zpc 5 rfl ?_; refine A.condB rfl h (fun _ h => ?_) (fun _ h => ?_)
      · refine Zcb 7 rfl ?_; cases h; cases hG; exact ⟨rfl, trivial⟩
      · refine Zcp 4 rfl ?_; refine Zo (.row 1048599 1 y5.1.length) rfl rfl ?_; refine Y1 rfl ?_; refine chkK h fun g6 h => ?_; refine W.chk rfl (by first | (simp; done) | simpa using g6) ?_; refine W.det (.rp 1048599 1 (0 : Int).toNat 0) _ rfl ?_; refine Y1 rfl ?_; refine bindK h fun x7 hx7 h => ?_; refine W.elem rfl (elemG hx7) ?_; refine W.det (.agg (api_Item.av x7)) _ rfl ?_; refine Zpp 4 rfl ?_; refine Zo (.agg [VI id_, VI 0, VI 1, VI kind_, VI on_, VI 0, VI (-1), VI (-1), VI 0, VS text_, .nl]) rfl rfl ?_; refine Y1 rfl ?_; refine bindK h fun y8 hy8 h => ?_; refine W.call rfl (ref21_SameItem_fn hy8) ?_; refine Zwb 5 rfl ?_; cases h; cases hG; exact ⟨rfl, trivial⟩
noncomputable def law21_small : Option (Bool) :=
  (law21_plain).bind fun y1 =>
  (law21_story).bind fun y2 =>
  (forth_Forth y1 ([] : List api_Way) y2 ([] : List Int) (0 : Int)).bind fun y3 =>
  (law21_says (0 : Int) (0 : Int) (-1 : Int) (ByteArray.mk #[104, 101, 108, 108, 111])).bind fun y7 =>
  (bif y7 then
    (law21_says (1 : Int) (0 : Int) (-1 : Int) (ByteArray.mk #[114, 101, 58, 32, 104, 101, 108, 108, 111, 10, 121, 101, 115])).bind fun y8 =>
    (bif y8 then
      (law21_says (2 : Int) (0 : Int) (-1 : Int) (ByteArray.mk #[101, 100, 105, 116, 58, 32, 104, 101, 108, 108, 111, 10, 104, 117, 108, 108, 111])).bind fun y9 =>
      (bif y9 then
        (law21_says (3 : Int) (0 : Int) (-1 : Int) (ByteArray.mk #[114, 101, 97, 99, 116, 105, 111, 110, 32, 55])).bind fun y10 =>
        (bif y10 then
          (law21_says (4 : Int) (2 : Int) (0 : Int) (ByteArray.mk #[])).bind fun y11 =>
          (bif y11 then
            some (y3.2 == (1 : Int))
          else
            some false)
        else
          some false)
      else
        some false)
    else
      some false)
  else
    some false)
theorem law21_small_fn {dr : Prop} {r : Bool} (h : law21_small = some r) : Fn dr Tryz.prog 5 [] (VB r) := by
  refine Fn.of_AW (dr := dr) (F := FnX dr Tryz.prog) (base := 0) (js := []) mixed tok noeqs (fun _ _ _ h => h) Tryz.call5 Tryz.func5 rfl Tryz.ntmps5 (by rw [Tryz.results5]) (by simp) ?_; have hG : (fun x => x = r) r := rfl; unfold law21_small at h; refine Zap 7 rfl ?_; refine Y1 rfl ?_; refine bindK h fun y1 hy1 h => ?_; refine W.call rfl (law21_plain_fn hy1) ?_; refine W.v (.agg [VS y1.Name, VI y1.Edit, VI y1.Within, VI y1.Delete, VB y1.React, VI y1.Thread, VB y1.Quote, VB y1.Mention, VI y1.Size, VI y1.Parts, VI y1.Files, VI y1.Bytes, .row 851973 1 (List.map encS y1.Types).length, VI y1.Join, VI y1.History, VI y1.Remove, VI y1.Level, VB y1.Batch, VI y1.Rate, VI y1.Down, VI y1.Window, VI y1.Keep]) (.agg [VS y1.Name, VI y1.Edit, VI y1.Within, VI y1.Delete, VB y1.React, VI y1.Thread, VB y1.Quote, VB y1.Mention, VI y1.Size, VI y1.Parts, VI y1.Files, VI y1.Bytes, .row 851973 1 y1.Types.length, VI y1.Join, VI y1.History, VI y1.Remove, VI y1.Level, VB y1.Batch, VI y1.Rate, VI y1.Down, VI y1.Window, VI y1.Keep]) (Mem.add _ 851973 (.rows 1 (List.map encS y1.Types) false)) rfl (by simp only [List.length_map]) ?_; refine Y1 rfl ?_; refine bindK h fun y2 hy2 h => ?_; refine W.call rfl (law21_story_fn hy2) ?_; refine W.v (.row 6 1 (List.map api_Event.enc y2).length) (.row 6 1 y2.length) (Mem.add _ 6 (.rows 12 (List.map api_Event.enc y2) false)) rfl (by simp only [List.length_map]) ?_; refine Y1 rfl ?_; refine bindK h fun y3 hy3 h => ?_; refine W.call rfl (forth_Forth_fn hy3) ?_; refine W.v (.tup [.row 1048583 1 (List.map api_Item.enc y3.1).length, VI y3.2]) (.tup [.row 1048583 1 y3.1.length, VI y3.2]) (Mem.add (Mem.set (Mem.set _ 851973 1 (some (.rows 1 (List.map encS y1.Types) true))) 6 1 (some (.rows 12 (List.map api_Event.enc y2) true))) 1048583 (.rows 11 (List.map api_Item.enc y3.1) false)) rfl (by simp only [List.length_map]) ?_; refine Zo (.tup [.row 1048583 1 y3.1.length, VI y3.2]) rfl rfl ?_; refine Zo (.row 1048583 1 y3.1.length) rfl rfl ?_; refine Zpp 1 rfl ?_; refine Zo (.row 1048583 1 y3.1.length) rfl rfl ?_; refine Zpp 5 rfl ?_; refine Y1 rfl ?_; refine bindK h fun y7 hy7 h => ?_; refine W.call rfl (law21_says_fn hy7) ?_; refine Zwp 2 rfl ?_; refine YT rfl rfl rfl h (fun _ h => ?_) (fun _ h => ?_)
  · refine bindK h fun y8 hy8 h => ?_; refine W.call rfl (law21_says_fn hy8) ?_; refine Zwp 3 rfl ?_; refine YT rfl rfl rfl h (fun _ h => ?_) (fun _ h => ?_)
    · refine bindK h fun y9 hy9 h => ?_; refine W.call rfl (law21_says_fn hy9) ?_; refine Zwp 9 rfl ?_; refine YT rfl rfl rfl h (fun _ h => ?_) (fun _ h => ?_)
      · refine bindK h fun y10 hy10 h => ?_; refine W.call rfl (law21_says_fn hy10) ?_; refine Zwp 3 rfl ?_; refine YT rfl rfl rfl h (fun _ h => ?_) (fun _ h => ?_)
        · refine bindK h fun y11 hy11 h => ?_; refine W.call rfl (law21_says_fn hy11) ?_; refine Zwp 3 rfl ?_; refine YT rfl rfl rfl h (fun _ h => ?_) (fun _ h => ?_)
          · refine Zwb 7 rfl ?_; cases h; cases hG; exact ⟨rfl, trivial⟩
          · refine Zpb 6 rfl ?_; cases h; cases hG; exact ⟨rfl, trivial⟩
        · refine Zpb 9 rfl ?_; cases h; cases hG; exact ⟨rfl, trivial⟩
      · refine Zpb 12 rfl ?_; cases h; cases hG; exact ⟨rfl, trivial⟩
    · refine Zpb 21 rfl ?_; cases h; cases hG; exact ⟨rfl, trivial⟩
  · refine Zpb 24 rfl ?_; cases h; cases hG; exact ⟨rfl, trivial⟩
noncomputable def ref14_Few (e_ : api_Event) : Option (Bool) :=
  (bif (decide ((e_.Causes.length : Int) ≤ (10 : Int))) then
    (bif (decide ((e_.Files.length : Int) ≤ (10 : Int))) then
      some (decide ((e_.Text.size : Int) ≤ (300 : Int)))
    else
      some false)
  else
    some false)
theorem ref14_Few_fn {dr : Prop} {e_ : api_Event} {r : Bool} (h : ref14_Few e_ = some r) : Fn dr Tryz.prog 49 [.agg (api_Event.av e_)] (VB r) := by
  refine Fn.of_AW (dr := dr) (F := FnX dr Tryz.prog) (base := 0) (js := []) mixed tok noeqs (fun _ _ _ h => h) Tryz.call49 Tryz.func49 rfl Tryz.ntmps49 (by rw [Tryz.results49]) (by simp) ?_; have hG : (fun x => x = r) r := rfl; unfold ref14_Few at h; refine Zap 2 rfl ?_; refine Zm (.lp 1 1 0) (Mem.add _ 1 (.box (api_Event.av e_))) rfl rfl ?_; refine Zpp 7 rfl ?_; refine Y1 rfl ?_; refine W.len rfl ?_; refine Zpp 2 rfl ?_; refine YT rfl rfl rfl h (fun _ h => ?_) (fun _ h => ?_)
  · refine Zwp 2 rfl ?_; refine Y2 rfl rfl rfl ?_; refine W.len rfl ?_; refine Zpp 3 rfl ?_; refine YT rfl rfl rfl h (fun _ h => ?_) (fun _ h => ?_)
    · refine Zwb 9 rfl ?_; cases h; cases hG; exact ⟨rfl, trivial⟩
    · refine Zpb 8 rfl ?_; cases h; cases hG; exact ⟨rfl, trivial⟩
  · refine Zpb 14 rfl ?_; cases h; cases hG; exact ⟨rfl, trivial⟩
noncomputable def ref14_FewAll_L1 (l_ : (List api_Event)) (n_ : Int) (s3 : Int) : Option ((Int) ⊕ ((Unit) ⊕ (Bool))) :=
  (bif (decide (s3 < (l_.length : Int))) then
    (bif (decide (s3 ≤ n_)) then
      (getI l_ s3).bind fun x23 =>
      (ref14_Few x23).bind fun y24 =>
      (bif (!y24) then
        some (.inr (.inr false))
      else
        some (.inl (IntKind.i64.wrap (s3 + (1 : Int)))))
    else
      some (.inr (.inl ())))
  else
    some (.inr (.inl ())))
noncomputable def ref14_FewAll (l_ : (List api_Event)) (n_ : Int) : Option (Bool) :=
  (seqF (A := Unit) (
    loopF (ref14_FewAll_L1 l_ n_) (0 : Int))
  fun s2 =>
    some (decide ((l_.length : Int) ≤ n_)))
theorem ref14_FewAll_fn {dr : Prop} {l_ : (List api_Event)} {n_ : Int} {r : Bool} (h : ref14_FewAll l_ n_ = some r) : Fn dr Tryz.prog 19 [VF (List.map api_Event.enc l_), VI n_] (VB r) := by
  refine Fn.of_AW (dr := dr) (F := FnX dr Tryz.prog) (base := 0) (js := [6]) mixed tok noeqs (fun _ _ _ h => h) Tryz.call19 Tryz.func19 rfl Tryz.ntmps19 (by rw [Tryz.results19]) (by simp) ?_; have hG : (fun x => x = r) r := rfl; unfold ref14_FewAll at h; refine Zac 5 rfl ?_; refine A.join (fun (s2 : Unit) => [(0, VF (List.map api_Event.enc l_)), (1, VI n_)]) (fun s2 => []) _ h hG rfl ?_ ?_
  · intro J f h hG; refine Zac 6 rfl ?_; refine A.loop (fun (s3 : Int) => [(0, VF (List.map api_Event.enc l_)), (1, VI n_), (5, VI s3)]) (fun s3 => []) _ h hG (Zf [] [] rfl rfl (Ze rfl rfl (Ze rfl rfl (Ze rfl rfl trivial))) trivial) ?_; intro J s3 f h hG; unfold ref14_FewAll_L1 at h; refine Zap 5 rfl ?_; refine Y1 rfl ?_; refine W.len rfl ?_; refine Zpp 2 rfl ?_; refine YT rfl rfl rfl h (fun _ h => ?_) (fun _ h => ?_)
    · refine Zwc 6 rfl ?_; refine A.condB rfl h (fun _ h => ?_) (fun _ h => ?_)
      · refine Zcp 8 rfl ?_; refine Y1 rfl ?_; refine bindK h fun x23 hx23 h => ?_; refine W.chk rfl (elemB hx23) ?_; refine W.elem rfl (elemG hx23) ?_; refine W.chk rfl rfl ?_; refine W.det (.fp [.v (.int .i64 x23.Author), .v (.int .i64 x23.Seq), .fz (List.map (encI .i64) x23.Causes), .v (.int .i64 x23.Kind), .v (.int .i64 x23.Group), .v (.int .i64 x23.Target), .v (.int .i64 x23.Quote), .v (.int .i64 x23.Who), .v (.int .i64 x23.N), .v (.string x23.Text), .fz (List.map (encI .i64) x23.Files), .v (.int .i64 x23.Step)]) _ rfl ?_; refine Zo (.agg (api_Event.av x23)) rfl rfl ?_; refine Y1 rfl ?_; refine bindK h fun y24 hy24 h => ?_; refine W.call rfl (ref14_Few_fn hy24) ?_; refine Zwc 4 rfl ?_; refine A.condB rfl h (fun _ h => ?_) (fun _ h => ?_)
        · refine Zcb 8 rfl ?_; refine headK.r ?_; refine Zob 1 rfl ?_; refine headK.r ?_; cases h; cases hG; exact ⟨rfl, trivial⟩
        · refine Zcb 8 rfl ?_; cases h; exact Zh hG [] [] rfl rfl (Ze rfl rfl (Ze rfl rfl (Ze rfl rfl trivial))) trivial
      · refine Zcb 2 rfl ?_; refine headK.e ?_; refine Zob 1 rfl ?_; cases h; exact Zh hG [] [] rfl rfl (Ze rfl rfl (Ze rfl rfl trivial)) trivial
    · refine Zpb 8 rfl ?_; refine headK.e ?_; refine Zob 1 rfl ?_; cases h; exact Zh hG [] [] rfl rfl (Ze rfl rfl (Ze rfl rfl trivial)) trivial
  · intro s2 r2 h hG; refine Zcp 3 rfl ?_; refine Y1 rfl ?_; refine W.len rfl ?_; refine Zpb 6 rfl ?_; cases h; cases hG; exact ⟨rfl, trivial⟩
noncomputable def ref21_Few (events_ : (List api_Event)) (bad_ : (List Int)) (n_ : Int) : Option (Bool) :=
  (ref14_FewAll events_ n_).bind fun y1 =>
  (bif y1 then
    some (decide ((bad_.length : Int) ≤ (12 : Int)))
  else
    some false)
theorem ref21_Few_fn {dr : Prop} {events_ : (List api_Event)} {bad_ : (List Int)} {n_ : Int} {r : Bool} (h : ref21_Few events_ bad_ n_ = some r) : Fn dr Tryz.prog 6 [VF (List.map api_Event.enc events_), VF (List.map (encI .i64) bad_), VI n_] (VB r) := by
  refine Fn.of_AW (dr := dr) (F := FnX dr Tryz.prog) (base := 0) (js := []) mixed tok noeqs (fun _ _ _ h => h) Tryz.call6 Tryz.func6 rfl Tryz.ntmps6 (by rw [Tryz.results6]) (by simp) ?_; have hG : (fun x => x = r) r := rfl; unfold ref21_Few at h; refine Zap 9 rfl ?_; refine Y1 rfl ?_; refine bindK h fun y1 hy1 h => ?_; refine W.call rfl (ref14_FewAll_fn hy1) ?_; refine Zwp 2 rfl ?_; refine YT rfl rfl rfl h (fun _ h => ?_) (fun _ h => ?_)
  · refine Zwp 1 rfl ?_; refine Y2 rfl rfl rfl ?_; refine W.len rfl ?_; refine Zpb 6 rfl ?_; cases h; cases hG; exact ⟨rfl, trivial⟩
  · refine Zpb 7 rfl ?_; cases h; cases hG; exact ⟨rfl, trivial⟩
noncomputable def ref12_within (n_ : Int) (from_ : Int) (to_ : Int) : Option (Bool) :=
  (bif (decide (from_ ≤ n_)) then
    some (decide (n_ ≤ to_))
  else
    some false)
theorem ref12_within_fn {dr : Prop} {n_ : Int} {from_ : Int} {to_ : Int} {r : Bool} (h : ref12_within n_ from_ to_ = some r) : Fn dr Tryz.prog 137 [VI n_, VI from_, VI to_] (VB r) := by
  refine Fn.of_AW (dr := dr) (F := FnX dr Tryz.prog) (base := 0) (js := []) mixed tok noeqs (fun _ _ _ h => h) Tryz.call137 Tryz.func137 rfl Tryz.ntmps137 (by rw [Tryz.results137]) (by simp) ?_; have hG : (fun x => x = r) r := rfl; unfold ref12_within at h; refine Zap 11 rfl ?_; refine YT rfl rfl rfl h (fun _ h => ?_) (fun _ h => ?_)
  · refine Zwb 8 rfl ?_; cases h; cases hG; exact ⟨rfl, trivial⟩
  · refine Zpb 7 rfl ?_; cases h; cases hG; exact ⟨rfl, trivial⟩
noncomputable def ref11_letter (c_ : Int) : Option (Bool) :=
  (bif (decide ((97 : Int) ≤ c_)) then
    some (decide (c_ ≤ (122 : Int)))
  else
    some false)
theorem ref11_letter_fn {dr : Prop} {c_ : Int} {r : Bool} (h : ref11_letter c_ = some r) : Fn dr Tryz.prog 152 [.d (.v (.int .u8 c_))] (VB r) := by
  refine Fn.of_AW (dr := dr) (F := FnX dr Tryz.prog) (base := 0) (js := []) mixed tok noeqs (fun _ _ _ h => h) Tryz.call152 Tryz.func152 rfl Tryz.ntmps152 (by rw [Tryz.results152]) (by simp) ?_; have hG : (fun x => x = r) r := rfl; unfold ref11_letter at h; refine Zap 10 rfl ?_; refine YT rfl rfl rfl h (fun _ h => ?_) (fun _ h => ?_)
  · refine Zwb 7 rfl ?_; cases h; cases hG; exact ⟨rfl, trivial⟩
  · refine Zpb 6 rfl ?_; cases h; cases hG; exact ⟨rfl, trivial⟩
noncomputable def ref11_digit (c_ : Int) : Option (Bool) :=
  (bif (decide ((48 : Int) ≤ c_)) then
    some (decide (c_ ≤ (57 : Int)))
  else
    some false)
theorem ref11_digit_fn {dr : Prop} {c_ : Int} {r : Bool} (h : ref11_digit c_ = some r) : Fn dr Tryz.prog 153 [.d (.v (.int .u8 c_))] (VB r) := by
  refine Fn.of_AW (dr := dr) (F := FnX dr Tryz.prog) (base := 0) (js := []) mixed tok noeqs (fun _ _ _ h => h) Tryz.call153 Tryz.func153 rfl Tryz.ntmps153 (by rw [Tryz.results153]) (by simp) ?_; have hG : (fun x => x = r) r := rfl; unfold ref11_digit at h; refine Zap 10 rfl ?_; refine YT rfl rfl rfl h (fun _ h => ?_) (fun _ h => ?_)
  · refine Zwb 7 rfl ?_; cases h; cases hG; exact ⟨rfl, trivial⟩
  · refine Zpb 6 rfl ?_; cases h; cases hG; exact ⟨rfl, trivial⟩
noncomputable def ref11_Word_L1 (s_ : ByteArray) (s3 : Int) : Option ((Int) ⊕ ((Unit) ⊕ (Bool))) :=
  (bif (decide (s3 < (s_.size : Int))) then
    (chkO (decide (0 ≤ s3) && decide (s3 < (s_.size : Int)))).bind fun _ =>
    (ref11_letter ((s_.data.toList.getD s3.toNat 0).toNat : Int)).bind fun y102 =>
    (bif (!y102) then
      (ref11_digit ((s_.data.toList.getD s3.toNat 0).toNat : Int)).bind fun y104 =>
      (bif (!y104) then
        some (.inr (.inr false))
      else
        some (.inl (IntKind.i64.wrap (s3 + (1 : Int)))))
    else
      some (.inl (IntKind.i64.wrap (s3 + (1 : Int)))))
  else
    some (.inr (.inl ())))
noncomputable def ref11_Word (s_ : ByteArray) : Option (Bool) :=
  (bif (decide ((s_.size : Int) < (1 : Int))) then
    some false
  else
    (bif (decide ((20 : Int) < (s_.size : Int))) then
      some false
    else
      (chkO (decide (0 ≤ (0 : Int)) && decide ((0 : Int) < (s_.size : Int)))).bind fun _ =>
      (ref11_letter ((s_.data.toList.getD (0 : Int).toNat 0).toNat : Int)).bind fun y8 =>
      (bif (!y8) then
        some false
      else
        (seqF (A := Unit) (
          loopF (ref11_Word_L1 s_) (1 : Int))
        fun s2 =>
          some true))))
theorem ref11_Word_fn {dr : Prop} {s_ : ByteArray} {r : Bool} (h : ref11_Word s_ = some r) : Fn dr Tryz.prog 138 [VS s_] (VB r) := by
  refine Fn.of_AW (dr := dr) (F := FnX dr Tryz.prog) (base := 0) (js := [8]) mixed tok noeqs (fun _ _ _ h => h) Tryz.call138 Tryz.func138 rfl Tryz.ntmps138 (by rw [Tryz.results138]) (by simp) ?_; have hG : (fun x => x = r) r := rfl; unfold ref11_Word at h; refine Zap 12 rfl ?_; refine YF rfl rfl rfl h (fun _ h => ?_) (fun _ h => ?_)
  · refine Zpb 19 rfl ?_; cases h; cases hG; exact ⟨rfl, trivial⟩
  · refine Zwp 5 rfl ?_; refine YF rfl rfl rfl h (fun _ h => ?_) (fun _ h => ?_)
    · refine Zpb 14 rfl ?_; cases h; cases hG; exact ⟨rfl, trivial⟩
    · refine Zwp 1 rfl ?_; refine Y2 rfl rfl rfl ?_; refine chkK h fun g7 h => ?_; refine W.chk rfl (by simpa using g7) ?_; refine W.det (.d (.v (.int .u8 ((s_.data.toList.getD (0 : Int).toNat 0).toNat : Int)))) _ rfl ?_; refine Y2 rfl rfl rfl ?_; refine bindK h fun y8 hy8 h => ?_; refine W.call rfl (ref11_letter_fn hy8) ?_; refine Zwc 5 rfl ?_; refine A.condB rfl h (fun _ h => ?_) (fun _ h => ?_)
      · refine Zcb 7 rfl ?_; cases h; cases hG; exact ⟨rfl, trivial⟩
      · refine Zcc 2 rfl ?_; refine A.join (fun (s2 : Unit) => []) (fun s2 => []) _ h hG rfl ?_ ?_
        · intro J f h hG; refine Zac 6 rfl ?_; refine A.loop (fun (s3 : Int) => [(0, VS s_), (3, VI s3)]) (fun s3 => []) _ h hG (Zf [] [] rfl rfl (Ze rfl rfl (Ze rfl rfl trivial)) trivial) ?_; intro J s3 f h hG; unfold ref11_Word_L1 at h; refine Zac 9 rfl ?_; refine A.condB rfl h (fun _ h => ?_) (fun _ h => ?_)
          · refine Zcp 8 rfl ?_; refine Y1 rfl ?_; refine chkK h fun g101 h => ?_; refine W.chk rfl (by simpa using g101) ?_; refine W.det (.d (.v (.int .u8 ((s_.data.toList.getD s3.toNat 0).toNat : Int)))) _ rfl ?_; refine Y1 rfl ?_; refine bindK h fun y102 hy102 h => ?_; refine W.call rfl (ref11_letter_fn hy102) ?_; refine Zwp 3 rfl ?_; refine YT rfl rfl rfl h (fun _ h => ?_) (fun _ h => ?_)
            · refine Zwp 2 rfl ?_; refine Y2 rfl rfl rfl ?_; refine W.chk rfl (by simpa using g101) ?_; refine W.det (.d (.v (.int .u8 ((s_.data.toList.getD s3.toNat 0).toNat : Int)))) _ rfl ?_; refine Y2 rfl rfl rfl ?_; refine bindK h fun y104 hy104 h => ?_; refine W.call rfl (ref11_digit_fn hy104) ?_; refine Zwc 5 rfl ?_; refine A.condB rfl h (fun _ h => ?_) (fun _ h => ?_)
              · refine Zcb 8 rfl ?_; refine headK.r ?_; refine Zob 1 rfl ?_; refine headK.r ?_; cases h; cases hG; exact ⟨rfl, trivial⟩
              · refine Zcb 8 rfl ?_; cases h; exact Zh hG [] [] rfl rfl (Ze rfl rfl (Ze rfl rfl trivial)) trivial
            · refine Zpb 16 rfl ?_; cases h; exact Zh hG [] [] rfl rfl (Ze rfl rfl (Ze rfl rfl trivial)) trivial
          · refine Zcb 2 rfl ?_; refine headK.e ?_; refine Zob 1 rfl ?_; cases h; exact Zh hG [] [] rfl rfl trivial trivial
        · intro s2 r2 h hG; refine Zcb 6 rfl ?_; cases h; cases hG; exact ⟨rfl, trivial⟩
noncomputable def ref12_Right_L1 (p_ : api_Profile) (s6 : Int) : Option ((Int) ⊕ ((Unit) ⊕ (Bool))) :=
  (bif (decide (s6 < (p_.Types.length : Int))) then
    (getI p_.Types s6).bind fun x69 =>
    (ref11_Word x69).bind fun y70 =>
    (bif (!y70) then
      some (.inr (.inr false))
    else
      some (.inl (IntKind.i64.wrap (s6 + (1 : Int)))))
  else
    some (.inr (.inl ())))
noncomputable def ref12_Right (p_ : api_Profile) : Option (Bool) :=
  (seqF (A := Bool) (
    (bif (p_.Edit == (0 : Int)) then
      (ref12_within p_.Delete (0 : Int) (2 : Int)).bind fun y13 =>
      (bif y13 then
        (ref12_within p_.Thread (0 : Int) (2 : Int)).bind fun y14 =>
        (bif y14 then
          (ref12_within p_.Join (0 : Int) (2 : Int)).bind fun y15 =>
          (bif y15 then
            (ref12_within p_.History (0 : Int) (1 : Int)).bind fun y16 =>
            (bif y16 then
              (ref12_within p_.Remove (0 : Int) (1 : Int)).bind fun y17 =>
              (bif y17 then
                (ref12_within p_.Level (0 : Int) (4 : Int)).bind fun y18 =>
                some (.inl y18)
              else
                some (.inl false))
            else
              some (.inl false))
          else
            some (.inl false))
        else
          some (.inl false))
      else
        some (.inl false))
    else
      (bif (p_.Edit == (2 : Int)) then
        (ref12_within p_.Delete (0 : Int) (2 : Int)).bind fun y19 =>
        (bif y19 then
          (ref12_within p_.Thread (0 : Int) (2 : Int)).bind fun y20 =>
          (bif y20 then
            (ref12_within p_.Join (0 : Int) (2 : Int)).bind fun y21 =>
            (bif y21 then
              (ref12_within p_.History (0 : Int) (1 : Int)).bind fun y22 =>
              (bif y22 then
                (ref12_within p_.Remove (0 : Int) (1 : Int)).bind fun y23 =>
                (bif y23 then
                  (ref12_within p_.Level (0 : Int) (4 : Int)).bind fun y24 =>
                  some (.inl y24)
                else
                  some (.inl false))
              else
                some (.inl false))
            else
              some (.inl false))
          else
            some (.inl false))
        else
          some (.inl false))
      else
        some (.inl false))))
  fun s1 =>
    (seqF (A := Bool) (
      (ref12_within p_.Within (0 : Int) (1073741824 : Int)).bind fun y34 =>
      (bif y34 then
        (ref12_within p_.Size (0 : Int) (1073741824 : Int)).bind fun y35 =>
        (bif y35 then
          (ref12_within p_.Parts (0 : Int) (1073741824 : Int)).bind fun y36 =>
          (bif y36 then
            (ref12_within p_.Files (0 : Int) (1073741824 : Int)).bind fun y37 =>
            (bif y37 then
              (ref12_within p_.Bytes (0 : Int) (1073741824 : Int)).bind fun y38 =>
              (bif y38 then
                (ref12_within p_.Rate (0 : Int) (1073741824 : Int)).bind fun y39 =>
                (bif y39 then
                  (ref12_within p_.Down (0 : Int) (1073741824 : Int)).bind fun y40 =>
                  (bif y40 then
                    (ref12_within p_.Window (0 : Int) (1073741824 : Int)).bind fun y41 =>
                    (bif y41 then
                      (ref12_within p_.Keep (0 : Int) (1073741824 : Int)).bind fun y42 =>
                      some (.inl y42)
                    else
                      some (.inl false))
                  else
                    some (.inl false))
                else
                  some (.inl false))
              else
                some (.inl false))
            else
              some (.inl false))
          else
            some (.inl false))
        else
          some (.inl false))
      else
        some (.inl false)))
    fun s2 =>
      (seqF (A := Unit) (
        (bif (!s1) then
          some (.inr false)
        else
          (bif (!s2) then
            some (.inr false)
          else
            (ref11_Word p_.Name).bind fun y46 =>
            (bif (!y46) then
              some (.inr false)
            else
              (bif (p_.Edit == (0 : Int)) then
                (bif (p_.Within != (0 : Int)) then
                  some (.inr false)
                else
                  some (.inl ()))
              else
                some (.inl ()))))))
      fun s3 =>
        (bif (p_.Files == (0 : Int)) then
          (bif (p_.Bytes == (0 : Int)) then
            some ((p_.Types.length : Int) == (0 : Int))
          else
            some false)
        else
          (bif (decide ((p_.Types.length : Int) < (1 : Int))) then
            some false
          else
            (bif (decide ((20 : Int) < (p_.Types.length : Int))) then
              some false
            else
              (seqF (A := Unit) (
                loopF (ref12_Right_L1 p_) (0 : Int))
              fun s5 =>
                some true)))))))
theorem ref12_Right_fn {dr : Prop} {p_ : api_Profile} {r : Bool} (h : ref12_Right p_ = some r) : Fn dr Tryz.prog 114 [.agg (api_Profile.av p_)] (VB r) := by
  refine Fn.of_AW (dr := dr) (F := FnX dr Tryz.prog) (base := 0) (js := [2, 3, 5, 14]) mixed tok noeqs (fun _ _ _ h => h) Tryz.call114 Tryz.func114 rfl Tryz.ntmps114 (by rw [Tryz.results114]) (by simp) ?_; have hG : (fun x => x = r) r := rfl; unfold ref12_Right at h; refine Zap 2 rfl ?_; refine Zm (.lp 1 1 0) (Mem.add _ 1 (.box (api_Profile.av p_))) rfl rfl ?_; refine Zpc 3 rfl ?_; refine A.join (fun (s1 : Bool) => [(1, .lp 900000 1 0), (3, VB s1)]) (fun s1 => [(900000, .box (api_Profile.av p_))]) _ h hG rfl ?_ ?_
  · intro J f h hG; refine Zap 5 rfl ?_; refine YF rfl rfl rfl h (fun _ h => ?_) (fun _ h => ?_)
    · refine Zpp 6 rfl ?_; refine Y2 rfl rfl rfl ?_; refine bindK h fun y13 hy13 h => ?_; refine W.call rfl (ref12_within_fn hy13) ?_; refine Zwp 3 rfl ?_; refine YT rfl rfl rfl h (fun _ h => ?_) (fun _ h => ?_)
      · refine Zwp 2 rfl ?_; refine Y2 rfl rfl rfl ?_; refine bindK h fun y14 hy14 h => ?_; refine W.call rfl (ref12_within_fn hy14) ?_; refine Zwp 3 rfl ?_; refine YT rfl rfl rfl h (fun _ h => ?_) (fun _ h => ?_)
        · refine Zwp 2 rfl ?_; refine Y2 rfl rfl rfl ?_; refine bindK h fun y15 hy15 h => ?_; refine W.call rfl (ref12_within_fn hy15) ?_; refine Zwp 3 rfl ?_; refine YT rfl rfl rfl h (fun _ h => ?_) (fun _ h => ?_)
          · refine Zwp 2 rfl ?_; refine Y2 rfl rfl rfl ?_; refine bindK h fun y16 hy16 h => ?_; refine W.call rfl (ref12_within_fn hy16) ?_; refine Zwp 3 rfl ?_; refine YT rfl rfl rfl h (fun _ h => ?_) (fun _ h => ?_)
            · refine Zwp 2 rfl ?_; refine Y2 rfl rfl rfl ?_; refine bindK h fun y17 hy17 h => ?_; refine W.call rfl (ref12_within_fn hy17) ?_; refine Zwp 3 rfl ?_; refine YT rfl rfl rfl h (fun _ h => ?_) (fun _ h => ?_)
              · refine Zwp 2 rfl ?_; refine Y2 rfl rfl rfl ?_; refine bindK h fun y18 hy18 h => ?_; refine W.call rfl (ref12_within_fn hy18) ?_; refine Zwb 4 rfl ?_; cases h; exact Zh hG [] [(900000, (1, 1))] rfl rfl (Ze rfl rfl (Ze rfl rfl trivial)) (Zc rfl rfl trivial)
              · refine Zpb 5 rfl ?_; cases h; exact Zh hG [] [(900000, (1, 1))] rfl rfl (Ze rfl rfl (Ze rfl rfl trivial)) (Zc rfl rfl trivial)
            · refine Zpb 10 rfl ?_; cases h; exact Zh hG [] [(900000, (1, 1))] rfl rfl (Ze rfl rfl (Ze rfl rfl trivial)) (Zc rfl rfl trivial)
          · refine Zpb 15 rfl ?_; cases h; exact Zh hG [] [(900000, (1, 1))] rfl rfl (Ze rfl rfl (Ze rfl rfl trivial)) (Zc rfl rfl trivial)
        · refine Zpb 20 rfl ?_; cases h; exact Zh hG [] [(900000, (1, 1))] rfl rfl (Ze rfl rfl (Ze rfl rfl trivial)) (Zc rfl rfl trivial)
      · refine Zpb 25 rfl ?_; cases h; exact Zh hG [] [(900000, (1, 1))] rfl rfl (Ze rfl rfl (Ze rfl rfl trivial)) (Zc rfl rfl trivial)
    · refine Zwp 5 rfl ?_; refine YT rfl rfl rfl h (fun _ h => ?_) (fun _ h => ?_)
      · refine Zwp 2 rfl ?_; refine Y2 rfl rfl rfl ?_; refine bindK h fun y19 hy19 h => ?_; refine W.call rfl (ref12_within_fn hy19) ?_; refine Zwp 3 rfl ?_; refine YT rfl rfl rfl h (fun _ h => ?_) (fun _ h => ?_)
        · refine Zwp 2 rfl ?_; refine Y2 rfl rfl rfl ?_; refine bindK h fun y20 hy20 h => ?_; refine W.call rfl (ref12_within_fn hy20) ?_; refine Zwp 3 rfl ?_; refine YT rfl rfl rfl h (fun _ h => ?_) (fun _ h => ?_)
          · refine Zwp 2 rfl ?_; refine Y2 rfl rfl rfl ?_; refine bindK h fun y21 hy21 h => ?_; refine W.call rfl (ref12_within_fn hy21) ?_; refine Zwp 3 rfl ?_; refine YT rfl rfl rfl h (fun _ h => ?_) (fun _ h => ?_)
            · refine Zwp 2 rfl ?_; refine Y2 rfl rfl rfl ?_; refine bindK h fun y22 hy22 h => ?_; refine W.call rfl (ref12_within_fn hy22) ?_; refine Zwp 3 rfl ?_; refine YT rfl rfl rfl h (fun _ h => ?_) (fun _ h => ?_)
              · refine Zwp 2 rfl ?_; refine Y2 rfl rfl rfl ?_; refine bindK h fun y23 hy23 h => ?_; refine W.call rfl (ref12_within_fn hy23) ?_; refine Zwp 3 rfl ?_; refine YT rfl rfl rfl h (fun _ h => ?_) (fun _ h => ?_)
                · refine Zwp 2 rfl ?_; refine Y2 rfl rfl rfl ?_; refine bindK h fun y24 hy24 h => ?_; refine W.call rfl (ref12_within_fn hy24) ?_; refine Zwb 4 rfl ?_; cases h; exact Zh hG [] [(900000, (1, 1))] rfl rfl (Ze rfl rfl (Ze rfl rfl trivial)) (Zc rfl rfl trivial)
                · refine Zpb 5 rfl ?_; cases h; exact Zh hG [] [(900000, (1, 1))] rfl rfl (Ze rfl rfl (Ze rfl rfl trivial)) (Zc rfl rfl trivial)
              · refine Zpb 10 rfl ?_; cases h; exact Zh hG [] [(900000, (1, 1))] rfl rfl (Ze rfl rfl (Ze rfl rfl trivial)) (Zc rfl rfl trivial)
            · refine Zpb 15 rfl ?_; cases h; exact Zh hG [] [(900000, (1, 1))] rfl rfl (Ze rfl rfl (Ze rfl rfl trivial)) (Zc rfl rfl trivial)
          · refine Zpb 20 rfl ?_; cases h; exact Zh hG [] [(900000, (1, 1))] rfl rfl (Ze rfl rfl (Ze rfl rfl trivial)) (Zc rfl rfl trivial)
        · refine Zpb 25 rfl ?_; cases h; exact Zh hG [] [(900000, (1, 1))] rfl rfl (Ze rfl rfl (Ze rfl rfl trivial)) (Zc rfl rfl trivial)
      · refine Zpb 30 rfl ?_; cases h; exact Zh hG [] [(900000, (1, 1))] rfl rfl (Ze rfl rfl (Ze rfl rfl trivial)) (Zc rfl rfl trivial)
  · intro s1 r2 h hG; refine A.join (fun (s2 : Bool) => [(1, .lp 900000 1 0), (3, VB s1), (4, VB s2)]) (fun s2 => [(900000, .box (api_Profile.av p_))]) _ h hG rfl ?_ ?_
    · intro J f h hG; refine Zap 3 rfl ?_; refine Y1 rfl ?_; refine bindK h fun y34 hy34 h => ?_; refine W.call rfl (ref12_within_fn hy34) ?_; refine Zwp 2 rfl ?_; refine YT rfl rfl rfl h (fun _ h => ?_) (fun _ h => ?_)
      · refine Zwp 2 rfl ?_; refine Y2 rfl rfl rfl ?_; refine bindK h fun y35 hy35 h => ?_; refine W.call rfl (ref12_within_fn hy35) ?_; refine Zwp 3 rfl ?_; refine YT rfl rfl rfl h (fun _ h => ?_) (fun _ h => ?_)
        · refine Zwp 2 rfl ?_; refine Y2 rfl rfl rfl ?_; refine bindK h fun y36 hy36 h => ?_; refine W.call rfl (ref12_within_fn hy36) ?_; refine Zwp 3 rfl ?_; refine YT rfl rfl rfl h (fun _ h => ?_) (fun _ h => ?_)
          · refine Zwp 2 rfl ?_; refine Y2 rfl rfl rfl ?_; refine bindK h fun y37 hy37 h => ?_; refine W.call rfl (ref12_within_fn hy37) ?_; refine Zwp 3 rfl ?_; refine YT rfl rfl rfl h (fun _ h => ?_) (fun _ h => ?_)
            · refine Zwp 2 rfl ?_; refine Y2 rfl rfl rfl ?_; refine bindK h fun y38 hy38 h => ?_; refine W.call rfl (ref12_within_fn hy38) ?_; refine Zwp 3 rfl ?_; refine YT rfl rfl rfl h (fun _ h => ?_) (fun _ h => ?_)
              · refine Zwp 2 rfl ?_; refine Y2 rfl rfl rfl ?_; refine bindK h fun y39 hy39 h => ?_; refine W.call rfl (ref12_within_fn hy39) ?_; refine Zwp 3 rfl ?_; refine YT rfl rfl rfl h (fun _ h => ?_) (fun _ h => ?_)
                · refine Zwp 2 rfl ?_; refine Y2 rfl rfl rfl ?_; refine bindK h fun y40 hy40 h => ?_; refine W.call rfl (ref12_within_fn hy40) ?_; refine Zwp 3 rfl ?_; refine YT rfl rfl rfl h (fun _ h => ?_) (fun _ h => ?_)
                  · refine Zwp 2 rfl ?_; refine Y2 rfl rfl rfl ?_; refine bindK h fun y41 hy41 h => ?_; refine W.call rfl (ref12_within_fn hy41) ?_; refine Zwp 3 rfl ?_; refine YT rfl rfl rfl h (fun _ h => ?_) (fun _ h => ?_)
                    · refine Zwp 2 rfl ?_; refine Y2 rfl rfl rfl ?_; refine bindK h fun y42 hy42 h => ?_; refine W.call rfl (ref12_within_fn hy42) ?_; refine Zwb 4 rfl ?_; cases h; exact Zh hG [] [(900000, (900000, 1))] rfl rfl (Ze rfl rfl (Ze rfl rfl (Ze rfl rfl trivial))) (Zc rfl rfl trivial)
                    · refine Zpb 5 rfl ?_; cases h; exact Zh hG [] [(900000, (900000, 1))] rfl rfl (Ze rfl rfl (Ze rfl rfl (Ze rfl rfl trivial))) (Zc rfl rfl trivial)
                  · refine Zpb 10 rfl ?_; cases h; exact Zh hG [] [(900000, (900000, 1))] rfl rfl (Ze rfl rfl (Ze rfl rfl (Ze rfl rfl trivial))) (Zc rfl rfl trivial)
                · refine Zpb 15 rfl ?_; cases h; exact Zh hG [] [(900000, (900000, 1))] rfl rfl (Ze rfl rfl (Ze rfl rfl (Ze rfl rfl trivial))) (Zc rfl rfl trivial)
              · refine Zpb 20 rfl ?_; cases h; exact Zh hG [] [(900000, (900000, 1))] rfl rfl (Ze rfl rfl (Ze rfl rfl (Ze rfl rfl trivial))) (Zc rfl rfl trivial)
            · refine Zpb 25 rfl ?_; cases h; exact Zh hG [] [(900000, (900000, 1))] rfl rfl (Ze rfl rfl (Ze rfl rfl (Ze rfl rfl trivial))) (Zc rfl rfl trivial)
          · refine Zpb 30 rfl ?_; cases h; exact Zh hG [] [(900000, (900000, 1))] rfl rfl (Ze rfl rfl (Ze rfl rfl (Ze rfl rfl trivial))) (Zc rfl rfl trivial)
        · refine Zpb 35 rfl ?_; cases h; exact Zh hG [] [(900000, (900000, 1))] rfl rfl (Ze rfl rfl (Ze rfl rfl (Ze rfl rfl trivial))) (Zc rfl rfl trivial)
      · refine Zpb 40 rfl ?_; cases h; exact Zh hG [] [(900000, (900000, 1))] rfl rfl (Ze rfl rfl (Ze rfl rfl (Ze rfl rfl trivial))) (Zc rfl rfl trivial)
    · intro s2 r2 h hG; refine A.join (fun (s3 : Unit) => [(1, .lp 900000 1 0)]) (fun s3 => [(900000, .box (api_Profile.av p_))]) _ h hG rfl ?_ ?_
      · intro J f h hG; refine Zap 5 rfl ?_; refine YF rfl rfl rfl h (fun _ h => ?_) (fun _ h => ?_)
        · refine Zpb 27 rfl ?_; refine headK.r ?_; cases h; cases hG; exact ⟨rfl, trivial⟩
        · refine Zwp 4 rfl ?_; refine YF rfl rfl rfl h (fun _ h => ?_) (fun _ h => ?_)
          · refine Zpb 23 rfl ?_; refine headK.r ?_; cases h; cases hG; exact ⟨rfl, trivial⟩
          · refine Zwp 2 rfl ?_; refine Y2 rfl rfl rfl ?_; refine bindK h fun y46 hy46 h => ?_; refine W.call rfl (ref11_Word_fn hy46) ?_; refine Zwp 4 rfl ?_; refine YF rfl rfl rfl h (fun _ h => ?_) (fun _ h => ?_)
            · refine Zpb 17 rfl ?_; refine headK.r ?_; cases h; cases hG; exact ⟨rfl, trivial⟩
            · refine Zwp 4 rfl ?_; refine YT rfl rfl rfl h (fun _ h => ?_) (fun _ h => ?_)
              · refine Zwc 7 rfl ?_; refine A.condB rfl h (fun _ h => ?_) (fun _ h => ?_)
                · refine Zcb 6 rfl ?_; refine headK.r ?_; cases h; cases hG; exact ⟨rfl, trivial⟩
                · refine Zcb 1 rfl ?_; cases h; exact Zh hG [] [(900000, (900000, 1))] rfl rfl (Ze rfl rfl trivial) (Zc rfl rfl trivial)
              · refine Zpb 8 rfl ?_; cases h; exact Zh hG [] [(900000, (900000, 1))] rfl rfl (Ze rfl rfl trivial) (Zc rfl rfl trivial)
      · intro s3 r2 h hG; refine Zcc 8 rfl ?_; refine A.condB rfl h (fun _ h => ?_) (fun _ h => ?_)
        · refine Zcp 6 rfl ?_; refine YT rfl rfl rfl h (fun _ h => ?_) (fun _ h => ?_)
          · refine Zwp 2 rfl ?_; refine Y2 rfl rfl rfl ?_; refine W.len rfl ?_; refine Zpb 7 rfl ?_; cases h; cases hG; exact ⟨rfl, trivial⟩
          · refine Zpb 9 rfl ?_; cases h; cases hG; exact ⟨rfl, trivial⟩
        · refine Zcp 7 rfl ?_; refine Y1 rfl ?_; refine W.len rfl ?_; refine Zpp 2 rfl ?_; refine YF rfl rfl rfl h (fun _ h => ?_) (fun _ h => ?_)
          · refine Zpb 14 rfl ?_; cases h; cases hG; exact ⟨rfl, trivial⟩
          · refine Zwp 2 rfl ?_; refine Y2 rfl rfl rfl ?_; refine W.len rfl ?_; refine Zpc 4 rfl ?_; refine A.condB rfl h (fun _ h => ?_) (fun _ h => ?_)
            · refine Zcb 7 rfl ?_; cases h; cases hG; exact ⟨rfl, trivial⟩
            · refine Zcc 2 rfl ?_; refine A.join (fun (s5 : Unit) => []) (fun s5 => []) _ h hG rfl ?_ ?_
              · intro J f h hG; refine Zac 6 rfl ?_; refine A.loop (fun (s6 : Int) => [(1, .lp 900000 1 0), (5, VI s6)]) (fun s6 => [(900000, .box (api_Profile.av p_))]) _ h hG (Zf [] [(900000, (900000, 1))] rfl rfl (Ze rfl rfl (Ze rfl rfl trivial)) (Zc rfl rfl trivial)) ?_; intro J s6 f h hG; unfold ref12_Right_L1 at h; refine Zap 6 rfl ?_; refine Y1 rfl ?_; refine W.len rfl ?_; refine Zpc 3 rfl ?_; refine A.condB rfl h (fun _ h => ?_) (fun _ h => ?_)
                · refine Zcp 9 rfl ?_; refine Y1 rfl ?_; refine bindK h fun x69 hx69 h => ?_; refine W.chk rfl (elemB hx69) ?_; refine W.elem rfl (elemG hx69) ?_; refine W.chk rfl rfl ?_; refine W.det (.fp [.v (.string x69)]) _ rfl ?_; refine Zpp 1 rfl ?_; refine Y1 rfl ?_; refine bindK h fun y70 hy70 h => ?_; refine W.call rfl (ref11_Word_fn hy70) ?_; refine Zwc 4 rfl ?_; refine A.condB rfl h (fun _ h => ?_) (fun _ h => ?_)
                  · refine Zcb 8 rfl ?_; refine headK.r ?_; refine Zob 1 rfl ?_; refine headK.r ?_; cases h; cases hG; exact ⟨rfl, trivial⟩
                  · refine Zcb 8 rfl ?_; cases h; exact Zh hG [] [(900000, (900000, 1))] rfl rfl (Ze rfl rfl (Ze rfl rfl trivial)) (Zc rfl rfl trivial)
                · refine Zcb 2 rfl ?_; refine headK.e ?_; refine Zob 1 rfl ?_; cases h; exact Zh hG [] [] rfl rfl trivial trivial
              · intro s5 r2 h hG; refine Zcb 6 rfl ?_; cases h; cases hG; exact ⟨rfl, trivial⟩
end Go.Proofs.YtljdbikodogeiaaGreatDoor

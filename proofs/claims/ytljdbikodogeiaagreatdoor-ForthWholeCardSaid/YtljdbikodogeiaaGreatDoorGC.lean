/-
  Plain programs of functions, and that the functions do what they say. Printed by wip/tools/gen.py.
  A message as data.
-/
import Derived.Test.YtljdbikodogeiaaGreatDoorGB
namespace Go.Proofs.YtljdbikodogeiaaGreatDoor
open Go.RowKit
attribute [local irreducible] IntKind.wrap AW runL Step.wp
set_option linter.unusedVariables false
set_option maxHeartbeats 4000000
set_option maxRecDepth 100000
noncomputable def forth_network_all (n_ : forth_network) (id_ : Int) : Option ((List api_Item)) :=
  (getI n_.events id_).bind fun x8 =>
  (bif (x8.Kind == (0 : Int)) then
    (forth_network_first (forth_network.mk (api_Profile.mk n_.p.Name n_.p.Edit n_.p.Within n_.p.Delete n_.p.React n_.p.Thread n_.p.Quote n_.p.Mention n_.p.Size n_.p.Parts n_.p.Files n_.p.Bytes n_.p.Types n_.p.Join n_.p.History n_.p.Remove n_.p.Level n_.p.Batch n_.p.Rate n_.p.Down n_.p.Window n_.p.Keep) n_.ways n_.events n_.bad) id_).bind fun y9 =>
    some y9
  else
    (forth_network_act (forth_network.mk (api_Profile.mk n_.p.Name n_.p.Edit n_.p.Within n_.p.Delete n_.p.React n_.p.Thread n_.p.Quote n_.p.Mention n_.p.Size n_.p.Parts n_.p.Files n_.p.Bytes n_.p.Types n_.p.Join n_.p.History n_.p.Remove n_.p.Level n_.p.Batch n_.p.Rate n_.p.Down n_.p.Window n_.p.Keep) n_.ways n_.events n_.bad) id_).bind fun y10 =>
    (bif (!y10) then
      some ([] : List api_Item)
    else
      (bif (x8.Kind == (1 : Int)) then
        (forth_network_edit (forth_network.mk (api_Profile.mk n_.p.Name n_.p.Edit n_.p.Within n_.p.Delete n_.p.React n_.p.Thread n_.p.Quote n_.p.Mention n_.p.Size n_.p.Parts n_.p.Files n_.p.Bytes n_.p.Types n_.p.Join n_.p.History n_.p.Remove n_.p.Level n_.p.Batch n_.p.Rate n_.p.Down n_.p.Window n_.p.Keep) n_.ways n_.events n_.bad) id_).bind fun y11 =>
        some y11
      else
        (bif (x8.Kind == (2 : Int)) then
          (forth_network_remove (forth_network.mk (api_Profile.mk n_.p.Name n_.p.Edit n_.p.Within n_.p.Delete n_.p.React n_.p.Thread n_.p.Quote n_.p.Mention n_.p.Size n_.p.Parts n_.p.Files n_.p.Bytes n_.p.Types n_.p.Join n_.p.History n_.p.Remove n_.p.Level n_.p.Batch n_.p.Rate n_.p.Down n_.p.Window n_.p.Keep) n_.ways n_.events n_.bad) id_).bind fun y12 =>
          some y12
        else
          (bif (x8.Kind == (3 : Int)) then
            (forth_network_react (forth_network.mk (api_Profile.mk n_.p.Name n_.p.Edit n_.p.Within n_.p.Delete n_.p.React n_.p.Thread n_.p.Quote n_.p.Mention n_.p.Size n_.p.Parts n_.p.Files n_.p.Bytes n_.p.Types n_.p.Join n_.p.History n_.p.Remove n_.p.Level n_.p.Batch n_.p.Rate n_.p.Down n_.p.Window n_.p.Keep) n_.ways n_.events n_.bad) id_).bind fun y13 =>
            some y13
          else
            (bif (x8.Kind == (4 : Int)) then
              (forth_network_react (forth_network.mk (api_Profile.mk n_.p.Name n_.p.Edit n_.p.Within n_.p.Delete n_.p.React n_.p.Thread n_.p.Quote n_.p.Mention n_.p.Size n_.p.Parts n_.p.Files n_.p.Bytes n_.p.Types n_.p.Join n_.p.History n_.p.Remove n_.p.Level n_.p.Batch n_.p.Rate n_.p.Down n_.p.Window n_.p.Keep) n_.ways n_.events n_.bad) id_).bind fun y14 =>
              some y14
            else
              some ([] : List api_Item)))))))
theorem forth_network_all_fn {dr : Prop} {n_ : forth_network} {id_ : Int} {r : (List api_Item)} (h : forth_network_all n_ id_ = some r) : Fn dr Tryz.prog 23 [.agg (forth_network.av n_), VI id_] (.ow 11 (List.map api_Item.enc r)) := by
  refine Fn.of_AW (dr := dr) (F := FnX dr Tryz.prog) (base := 0) (js := []) mixed tok noeqs (fun _ _ _ h => h) Tryz.call23 Tryz.func23 rfl Tryz.ntmps23 (by rw [Tryz.results23]) (by simp) ?_; have hG : (fun x => x = r) r := rfl; unfold forth_network_all at h; refine Zap 2 rfl ?_; refine Zm (.lp 2 1 0) (Mem.add _ 2 (.box (forth_network.av n_))) rfl rfl ?_; refine Zm (.row 4 1 0) (Mem.add _ 4 (.rows 11 (List.map api_Item.enc ([] : List api_Item)) false)) rfl rfl ?_; refine Zpp 8 rfl ?_; refine Y1 rfl ?_; refine bindK h fun x8 hx8 h => ?_; refine W.chk rfl (elemB hx8) ?_; refine W.elem rfl (elemG hx8) ?_; refine W.chk rfl rfl ?_; refine W.det (.fp [.v (.int .i64 x8.Author), .v (.int .i64 x8.Seq), .fz (List.map (encI .i64) x8.Causes), .v (.int .i64 x8.Kind), .v (.int .i64 x8.Group), .v (.int .i64 x8.Target), .v (.int .i64 x8.Quote), .v (.int .i64 x8.Who), .v (.int .i64 x8.N), .v (.string x8.Text), .fz (List.map (encI .i64) x8.Files), .v (.int .i64 x8.Step)]) _ rfl ?_; refine Zo (.fp [.v (.int .i64 x8.Kind), .v (.int .i64 x8.Group), .v (.int .i64 x8.Target), .v (.int .i64 x8.Quote), .v (.int .i64 x8.Who), .v (.int .i64 x8.N), .v (.string x8.Text), .fz (List.map (encI .i64) x8.Files), .v (.int .i64 x8.Step)]) rfl rfl ?_; refine Zpc 12 rfl ?_; refine A.condB rfl h (fun _ h => ?_) (fun _ h => ?_)
  · refine Zcp 2 rfl ?_; refine Zo (.agg (forth_network.av n_)) rfl rfl ?_; refine Zpp 1 rfl ?_; refine Y1 rfl ?_; refine bindK h fun y9 hy9 h => ?_; refine W.call rfl (forth_network_first_fn hy9) ?_; refine W.v (.row 17 1 (List.map api_Item.enc y9).length) (.row 17 1 y9.length) (Mem.add _ 17 (.rows 11 (List.map api_Item.enc y9) false)) rfl (by simp only [List.length_map]) ?_; refine Zo (.row 17 1 y9.length) rfl rfl ?_; refine Zpb 5 rfl ?_; cases h; cases hG; exact ⟨rfl, rfl, trivial⟩
  · refine Zcp 2 rfl ?_; refine Zo (.agg (forth_network.av n_)) rfl rfl ?_; refine Zpp 1 rfl ?_; refine Y1 rfl ?_; refine bindK h fun y10 hy10 h => ?_; refine W.call rfl (forth_network_act_fn hy10) ?_; refine Zwc 5 rfl ?_; refine A.condB rfl h (fun _ h => ?_) (fun _ h => ?_)
    · refine Zcp 2 rfl ?_; refine Zm (.row 4 2 0) (Mem.add _ 4 (.rows 11 (List.map api_Item.enc ([] : List api_Item)) false)) rfl rfl ?_; refine Zpb 5 rfl ?_; cases h; cases hG; exact ⟨rfl, rfl, trivial⟩
    · refine Zcc 7 rfl ?_; refine A.condB rfl h (fun _ h => ?_) (fun _ h => ?_)
      · refine Zcp 2 rfl ?_; refine Zo (.agg (forth_network.av n_)) rfl rfl ?_; refine Zpp 1 rfl ?_; refine Y1 rfl ?_; refine bindK h fun y11 hy11 h => ?_; refine W.call rfl (forth_network_edit_fn hy11) ?_; refine W.v (.row 28 1 (List.map api_Item.enc y11).length) (.row 28 1 y11.length) (Mem.add _ 28 (.rows 11 (List.map api_Item.enc y11) false)) rfl (by simp only [List.length_map]) ?_; refine Zo (.row 28 1 y11.length) rfl rfl ?_; refine Zpb 5 rfl ?_; cases h; cases hG; exact ⟨rfl, rfl, trivial⟩
      · refine Zcc 7 rfl ?_; refine A.condB rfl h (fun _ h => ?_) (fun _ h => ?_)
        · refine Zcp 2 rfl ?_; refine Zo (.agg (forth_network.av n_)) rfl rfl ?_; refine Zpp 1 rfl ?_; refine Y1 rfl ?_; refine bindK h fun y12 hy12 h => ?_; refine W.call rfl (forth_network_remove_fn hy12) ?_; refine W.v (.row 34 1 (List.map api_Item.enc y12).length) (.row 34 1 y12.length) (Mem.add _ 34 (.rows 11 (List.map api_Item.enc y12) false)) rfl (by simp only [List.length_map]) ?_; refine Zo (.row 34 1 y12.length) rfl rfl ?_; refine Zpb 5 rfl ?_; cases h; cases hG; exact ⟨rfl, rfl, trivial⟩
        · refine Zcp 5 rfl ?_; refine YF rfl rfl rfl h (fun _ h => ?_) (fun _ h => ?_)
          · refine Zpp 8 rfl ?_; refine Zo (.agg (forth_network.av n_)) rfl rfl ?_; refine Zpp 1 rfl ?_; refine Y1 rfl ?_; refine bindK h fun y13 hy13 h => ?_; refine W.call rfl (forth_network_react_fn hy13) ?_; refine W.v (.row 44 1 (List.map api_Item.enc y13).length) (.row 44 1 y13.length) (Mem.add _ 44 (.rows 11 (List.map api_Item.enc y13) false)) rfl (by simp only [List.length_map]) ?_; refine Zo (.row 44 1 y13.length) rfl rfl ?_; refine Zpb 5 rfl ?_; cases h; cases hG; exact ⟨rfl, rfl, trivial⟩
          · refine Zwc 6 rfl ?_; refine A.condB rfl h (fun _ h => ?_) (fun _ h => ?_)
            · refine Zcp 2 rfl ?_; refine Zo (.agg (forth_network.av n_)) rfl rfl ?_; refine Zpp 1 rfl ?_; refine Y1 rfl ?_; refine bindK h fun y14 hy14 h => ?_; refine W.call rfl (forth_network_react_fn hy14) ?_; refine W.v (.row 44 1 (List.map api_Item.enc y14).length) (.row 44 1 y14.length) (Mem.add _ 44 (.rows 11 (List.map api_Item.enc y14) false)) rfl (by simp only [List.length_map]) ?_; refine Zo (.row 44 1 y14.length) rfl rfl ?_; refine Zpb 5 rfl ?_; cases h; cases hG; exact ⟨rfl, rfl, trivial⟩
            · refine Zcp 5 rfl ?_; refine Zm (.row 4 2 0) (Mem.add _ 4 (.rows 11 (List.map api_Item.enc ([] : List api_Item)) false)) rfl rfl ?_; refine Zpb 3 rfl ?_; cases h; cases hG; exact ⟨rfl, rfl, trivial⟩
noncomputable def forth_Forth (p_ : api_Profile) (l_ : (List api_Way)) (events_ : (List api_Event)) (bad_ : (List Int)) (id_ : Int) : Option ((List api_Item) × Int) :=
  (ways_Compile p_).bind fun y1 =>
  (bif (y1.2 != (0 : Int)) then
    some (([] : List api_Item), (1 : Int))
  else
    (slices_Equal_api_Way_api_Way y1.1 l_).bind fun y5 =>
    (bif (!y5) then
      some (([] : List api_Item), (1 : Int))
    else
      (bif (decide (id_ < (0 : Int))) then
        some (([] : List api_Item), (4 : Int))
      else
        (bif (decide ((events_.length : Int) ≤ id_)) then
          some (([] : List api_Item), (4 : Int))
        else
          (forth_network_all (forth_network.mk p_ l_ events_ bad_) id_).bind fun y6 =>
          some (y6, (0 : Int))))))
theorem forth_Forth_fn {dr : Prop} {p_ : api_Profile} {l_ : (List api_Way)} {events_ : (List api_Event)} {bad_ : (List Int)} {id_ : Int} {r : (List api_Item) × Int} (h : forth_Forth p_ l_ events_ bad_ id_ = some r) : Fn dr Tryz.prog 8 [.agg (api_Profile.av p_), VF (List.map api_Way.enc l_), VF (List.map api_Event.enc events_), VF (List.map (encI .i64) bad_), VI id_] (.tup [.ow 11 (List.map api_Item.enc r.1), VI r.2]) := by
  refine Fn.of_AW (dr := dr) (F := FnX dr Tryz.prog) (base := 0) (js := []) mixed tok noeqs (fun _ _ _ h => h) Tryz.call8 Tryz.func8 rfl Tryz.ntmps8 (by rw [Tryz.results8]) (by simp) ?_; have hG : (fun x => x = r) r := rfl; unfold forth_Forth at h; refine Zap 2 rfl ?_; refine Zm (.lp 5 1 0) (Mem.add _ 5 (.box (api_Profile.av p_))) rfl rfl ?_; refine Zm (.row 10 1 0) (Mem.add _ 10 (.rows 11 (List.map api_Item.enc ([] : List api_Item)) false)) rfl rfl ?_; refine Zpp 5 rfl ?_; refine Zo (.agg (api_Profile.av p_)) rfl rfl ?_; refine Y1 rfl ?_; refine bindK h fun y1 hy1 h => ?_; refine W.call rfl (ways_Compile_fn hy1) ?_; refine W.v (.tup [.row 1048592 1 (List.map api_Way.enc y1.1).length, VI y1.2]) (.tup [.row 1048592 1 y1.1.length, VI y1.2]) (Mem.add _ 1048592 (.rows 2 (List.map api_Way.enc y1.1) false)) rfl (by simp only [List.length_map]) ?_; refine Zo (.tup [.row 1048592 1 y1.1.length, VI y1.2]) rfl rfl ?_; refine Zo (.row 1048592 1 y1.1.length) rfl rfl ?_; refine Zpp 1 rfl ?_; refine Zo (.row 1048592 1 y1.1.length) rfl rfl ?_; refine Zpp 10 rfl ?_; refine YF rfl rfl rfl h (fun _ h => ?_) (fun _ h => ?_)
  · refine Zpp 10 rfl ?_; refine Zm (.row 10 2 0) (Mem.add _ 10 (.rows 11 (List.map api_Item.enc ([] : List api_Item)) false)) rfl rfl ?_; refine Zpb 6 rfl ?_; cases h; cases hG; exact ⟨rfl, rfl, rfl, trivial⟩
  · refine W.det (.row 1048592 1 y1.1.length) _ rfl ?_; refine Zpp 1 rfl ?_; refine Y2 rfl rfl rfl ?_; refine bindK h fun y5 hy5 h => ?_; refine W.call rfl (slices_Equal_api_Way_api_Way_fn hy5) ?_; refine Zwc 6 rfl ?_; refine A.condB rfl h (fun _ h => ?_) (fun _ h => ?_)
    · refine Zcp 2 rfl ?_; refine Zm (.row 10 2 0) (Mem.add _ 10 (.rows 11 (List.map api_Item.enc ([] : List api_Item)) false)) rfl rfl ?_; refine Zpb 6 rfl ?_; cases h; cases hG; exact ⟨rfl, rfl, rfl, trivial⟩
    · refine Zcp 5 rfl ?_; refine YF rfl rfl rfl h (fun _ h => ?_) (fun _ h => ?_)
      · refine Zpp 10 rfl ?_; refine Zm (.row 10 2 0) (Mem.add _ 10 (.rows 11 (List.map api_Item.enc ([] : List api_Item)) false)) rfl rfl ?_; refine Zpb 6 rfl ?_; cases h; cases hG; exact ⟨rfl, rfl, rfl, trivial⟩
      · refine Zwp 2 rfl ?_; refine Y2 rfl rfl rfl ?_; refine W.len rfl ?_; refine Zpc 5 rfl ?_; refine A.condB rfl h (fun _ h => ?_) (fun _ h => ?_)
        · refine Zcp 2 rfl ?_; refine Zm (.row 10 2 0) (Mem.add _ 10 (.rows 11 (List.map api_Item.enc ([] : List api_Item)) false)) rfl rfl ?_; refine Zpb 6 rfl ?_; cases h; cases hG; exact ⟨rfl, rfl, rfl, trivial⟩
        · refine Zcp 5 rfl ?_; refine Zo (.agg (api_Profile.av p_)) rfl rfl ?_; refine Zpp 3 rfl ?_; refine Zo (.agg [VS p_.Name, VI p_.Edit, VI p_.Within, VI p_.Delete, VB p_.React, VI p_.Thread, VB p_.Quote, VB p_.Mention, VI p_.Size, VI p_.Parts, VI p_.Files, VI p_.Bytes, VF (List.map encS p_.Types), VI p_.Join, VI p_.History, VI p_.Remove, VI p_.Level, VB p_.Batch, VI p_.Rate, VI p_.Down, VI p_.Window, VI p_.Keep, VF (List.map api_Way.enc l_), VF (List.map api_Event.enc events_), VF (List.map (encI .i64) bad_)]) rfl rfl ?_; refine Zpp 1 rfl ?_; refine Y1 rfl ?_; refine bindK h fun y6 hy6 h => ?_; refine W.call rfl (forth_network_all_fn hy6) ?_; refine W.v (.row 43 1 (List.map api_Item.enc y6).length) (.row 43 1 y6.length) (Mem.add _ 43 (.rows 11 (List.map api_Item.enc y6) false)) rfl (by simp only [List.length_map]) ?_; refine Zo (.row 43 1 y6.length) rfl rfl ?_; refine Zpb 4 rfl ?_; cases h; cases hG; exact ⟨rfl, rfl, rfl, trivial⟩
noncomputable def ref10_Ints_L1 (a_ : (List Int)) (b_ : (List Int)) (s3 : Int) : Option ((Int) ⊕ ((Unit) ⊕ (Bool))) :=
  (bif (decide (s3 < (a_.length : Int))) then
    (getI a_ s3).bind fun x23 =>
    (getI b_ s3).bind fun x24 =>
    (bif (x23 != x24) then
      some (.inr (.inr false))
    else
      some (.inl (IntKind.i64.wrap (s3 + (1 : Int)))))
  else
    some (.inr (.inl ())))
noncomputable def ref10_Ints (a_ : (List Int)) (b_ : (List Int)) : Option (Bool) :=
  (bif ((a_.length : Int) != (b_.length : Int)) then
    some false
  else
    (seqF (A := Unit) (
      loopF (ref10_Ints_L1 a_ b_) (0 : Int))
    fun s2 =>
      some true))
theorem ref10_Ints_fn {dr : Prop} {a_ : (List Int)} {b_ : (List Int)} {r : Bool} (h : ref10_Ints a_ b_ = some r) : Fn dr Tryz.prog 65 [VF (List.map (encI .i64) a_), VF (List.map (encI .i64) b_)] (VB r) := by
  refine Fn.of_AW (dr := dr) (F := FnX dr Tryz.prog) (base := 0) (js := [8]) mixed tok noeqs (fun _ _ _ h => h) Tryz.call65 Tryz.func65 rfl Tryz.ntmps65 (by rw [Tryz.results65]) (by simp) ?_; have hG : (fun x => x = r) r := rfl; unfold ref10_Ints at h; refine Zap 9 rfl ?_; refine Y1 rfl ?_; refine W.len rfl ?_; refine Zpp 1 rfl ?_; refine Y1 rfl ?_; refine W.len rfl ?_; refine Zpc 3 rfl ?_; refine A.condB rfl h (fun _ h => ?_) (fun _ h => ?_)
  · refine Zcb 7 rfl ?_; cases h; cases hG; exact ⟨rfl, trivial⟩
  · refine Zcc 2 rfl ?_; refine A.join (fun (s2 : Unit) => []) (fun s2 => []) _ h hG rfl ?_ ?_
    · intro J f h hG; refine Zac 6 rfl ?_; refine A.loop (fun (s3 : Int) => [(0, VF (List.map (encI .i64) a_)), (1, VF (List.map (encI .i64) b_)), (5, VI s3)]) (fun s3 => []) _ h hG (Zf [] [] rfl rfl (Ze rfl rfl (Ze rfl rfl (Ze rfl rfl trivial))) trivial) ?_; intro J s3 f h hG; unfold ref10_Ints_L1 at h; refine Zap 5 rfl ?_; refine Y1 rfl ?_; refine W.len rfl ?_; refine Zpc 3 rfl ?_; refine A.condB rfl h (fun _ h => ?_) (fun _ h => ?_)
      · refine Zcc 5 rfl ?_; refine A.regionD (by kernel_rfl) ?_; refine Zpp 2 rfl ?_; refine Y1 rfl ?_; refine bindK h fun x23 hx23 h => ?_; refine W.chk rfl (elemB hx23) ?_; refine W.elem rfl (elemG hx23) ?_; refine W.chk rfl rfl ?_; refine W.det (.fp [.v (.int .i64 x23)]) _ rfl ?_; refine Zpp 3 rfl ?_; refine Y1 rfl ?_; refine bindK h fun x24 hx24 h => ?_; refine W.chk rfl (elemB hx24) ?_; refine W.elem rfl (elemG hx24) ?_; refine W.chk rfl rfl ?_; refine W.det (.fp [.v (.int .i64 x24)]) _ rfl ?_; refine Zpc 4 rfl ?_; refine A.condB rfl h (fun _ h => ?_) (fun _ h => ?_)
        · refine Zcb 8 rfl ?_; refine headK.r ?_; refine Zob 1 rfl ?_; refine headK.r ?_; cases h; cases hG; exact ⟨rfl, trivial⟩
        · refine Zcb 8 rfl ?_; cases h; exact Zh hG [] [] rfl rfl (Ze rfl rfl (Ze rfl rfl (Ze rfl rfl trivial))) trivial
      · refine Zcb 2 rfl ?_; refine headK.e ?_; refine Zob 1 rfl ?_; cases h; exact Zh hG [] [] rfl rfl trivial trivial
    · intro s2 r2 h hG; refine Zcb 6 rfl ?_; cases h; cases hG; exact ⟨rfl, trivial⟩
noncomputable def ref21_SameItem (a_ : api_Item) (b_ : api_Item) : Option (Bool) :=
  (seqF (A := Bool) (
    (bif (a_.Event == b_.Event) then
      (bif (a_.Part == b_.Part) then
        (bif (a_.Of == b_.Of) then
          (bif (a_.Kind == b_.Kind) then
            (bif (a_.On == b_.On) then
              some (.inl (a_.OnPart == b_.OnPart))
            else
              some (.inl false))
          else
            some (.inl false))
        else
          some (.inl false))
      else
        some (.inl false))
    else
      some (.inl false)))
  fun s1 =>
    (bif s1 then
      (bif (a_.Quote == b_.Quote) then
        (bif (a_.Who == b_.Who) then
          (bif (a_.N == b_.N) then
            (bif (a_.Text.toList == b_.Text.toList) then
              (ref10_Ints a_.Files b_.Files).bind fun y1 =>
              some y1
            else
              some false)
          else
            some false)
        else
          some false)
      else
        some false)
    else
      some false))
theorem ref21_SameItem_fn {dr : Prop} {a_ : api_Item} {b_ : api_Item} {r : Bool} (h : ref21_SameItem a_ b_ = some r) : Fn dr Tryz.prog 36 [.agg (api_Item.av a_), .agg (api_Item.av b_)] (VB r) := by
  refine Fn.of_AW (dr := dr) (F := FnX dr Tryz.prog) (base := 0) (js := [2]) mixed tok noeqs (fun _ _ _ h => h) Tryz.call36 Tryz.func36 rfl Tryz.ntmps36 (by rw [Tryz.results36]) (by simp) ?_; have hG : (fun x => x = r) r := rfl; unfold ref21_SameItem at h; refine Zap 2 rfl ?_; refine Zm (.lp 2 1 0) (Mem.add _ 2 (.box (api_Item.av a_))) rfl rfl ?_; refine Zm (.lp 3 1 0) (Mem.add _ 3 (.box (api_Item.av b_))) rfl rfl ?_; refine Zpc 3 rfl ?_; refine A.join (fun (s1 : Bool) => [(2, .lp 900000 1 0), (3, .lp 900001 1 0), (5, VB s1)]) (fun s1 => [(900000, .box (api_Item.av a_)), (900001, .box (api_Item.av b_))]) _ h hG rfl ?_ ?_
  · intro J f h hG; refine Zap 7 rfl ?_; refine YT rfl rfl rfl h (fun _ h => ?_) (fun _ h => ?_)
    · refine Zwp 7 rfl ?_; refine YT rfl rfl rfl h (fun _ h => ?_) (fun _ h => ?_)
      · refine Zwp 7 rfl ?_; refine YT rfl rfl rfl h (fun _ h => ?_) (fun _ h => ?_)
        · refine Zwp 7 rfl ?_; refine YT rfl rfl rfl h (fun _ h => ?_) (fun _ h => ?_)
          · refine Zwp 7 rfl ?_; refine YT rfl rfl rfl h (fun _ h => ?_) (fun _ h => ?_)
            · refine Zwb 8 rfl ?_; cases h; exact Zh hG [] [(900000, (2, 1)), (900001, (3, 1))] rfl rfl (Ze rfl rfl (Ze rfl rfl (Ze rfl rfl trivial))) (Zc rfl rfl (Zc rfl rfl trivial))
            · refine Zpb 7 rfl ?_; cases h; exact Zh hG [] [(900000, (2, 1)), (900001, (3, 1))] rfl rfl (Ze rfl rfl (Ze rfl rfl (Ze rfl rfl trivial))) (Zc rfl rfl (Zc rfl rfl trivial))
          · refine Zpb 14 rfl ?_; cases h; exact Zh hG [] [(900000, (2, 1)), (900001, (3, 1))] rfl rfl (Ze rfl rfl (Ze rfl rfl (Ze rfl rfl trivial))) (Zc rfl rfl (Zc rfl rfl trivial))
        · refine Zpb 21 rfl ?_; cases h; exact Zh hG [] [(900000, (2, 1)), (900001, (3, 1))] rfl rfl (Ze rfl rfl (Ze rfl rfl (Ze rfl rfl trivial))) (Zc rfl rfl (Zc rfl rfl trivial))
      · refine Zpb 28 rfl ?_; cases h; exact Zh hG [] [(900000, (2, 1)), (900001, (3, 1))] rfl rfl (Ze rfl rfl (Ze rfl rfl (Ze rfl rfl trivial))) (Zc rfl rfl (Zc rfl rfl trivial))
    · refine Zpb 35 rfl ?_; cases h; exact Zh hG [] [(900000, (2, 1)), (900001, (3, 1))] rfl rfl (Ze rfl rfl (Ze rfl rfl (Ze rfl rfl trivial))) (Zc rfl rfl (Zc rfl rfl trivial))
  · intro s1 r2 h hG; refine Zcp 4 rfl ?_; refine YT rfl rfl rfl h (fun _ h => ?_) (fun _ h => ?_)
    · refine Zwp 7 rfl ?_; refine YT rfl rfl rfl h (fun _ h => ?_) (fun _ h => ?_)
      · refine Zwp 7 rfl ?_; refine YT rfl rfl rfl h (fun _ h => ?_) (fun _ h => ?_)
        · refine Zwp 7 rfl ?_; refine YT rfl rfl rfl h (fun _ h => ?_) (fun _ h => ?_)
          · refine Zwp 7 rfl ?_; refine YT rfl rfl rfl h (fun _ h => ?_) (fun _ h => ?_)
            · refine Zwp 4 rfl ?_; refine Y2 rfl rfl rfl ?_; refine bindK h fun y1 hy1 h => ?_; refine W.call rfl (ref10_Ints_fn hy1) ?_; refine Zwb 6 rfl ?_; cases h; cases hG; exact ⟨rfl, trivial⟩
            · refine Zpb 9 rfl ?_; cases h; cases hG; exact ⟨rfl, trivial⟩
          · refine Zpb 16 rfl ?_; cases h; cases hG; exact ⟨rfl, trivial⟩
        · refine Zpb 23 rfl ?_; cases h; cases hG; exact ⟨rfl, trivial⟩
      · refine Zpb 30 rfl ?_; cases h; cases hG; exact ⟨rfl, trivial⟩
    · refine Zpb 37 rfl ?_; cases h; cases hG; exact ⟨rfl, trivial⟩
noncomputable def law21_says (id_ : Int) (kind_ : Int) (on_ : Int) (text_ : ByteArray) : Option (Bool) :=
  (law21_plain).bind fun y1 =>
  (ways_Compile y1).bind fun y2 =>
  (law21_plain).bind fun y3 =>
  (law21_story).bind fun y4 =>
  (forth_Forth y3 y2.1 y4 ([] : List Int) id_).bind fun y5 =>
  (bif (y2.2 != (0 : Int)) then
    some false
  else
    (bif (y5.2 != (0 : Int)) then
      some false
    else
      (bif (((y5.1.length : Nat) : Int) != (1 : Int)) then
        some false
      else
        (chkO (decide (0 ≤ (0 : Int)) && decide ((0 : Int) < ((y5.1.length : Nat) : Int)))).bind fun _ =>
        (getI y5.1 (0 : Int)).bind fun x7 =>
        (ref21_SameItem x7 (api_Item.mk id_ (0 : Int) (1 : Int) kind_ on_ (0 : Int) (-1 : Int) (-1 : Int) (0 : Int) text_ ([] : List Int))).bind fun y8 =>
        some y8)))
theorem law21_says_fn {dr : Prop} {id_ : Int} {kind_ : Int} {on_ : Int} {text_ : ByteArray} {r : Bool} (h : law21_says id_ kind_ on_ text_ = some r) : Fn dr Tryz.prog 18 [VI id_, VI kind_, VI on_, VS text_] (VB r) := by
  refine Fn.of_AW (dr := dr) (F := FnX dr Tryz.prog) (base := 0) (js := []) mixed tok noeqs (fun _ _ _ h => h) Tryz.call18 Tryz.func18 rfl Tryz.ntmps18 (by rw [Tryz.results18]) (by simp) ?_; have hG : (fun x => x = r) r := rfl; unfold law21_says at h; refine Zap 7 rfl ?_; refine Y1 rfl ?_; refine bindK h fun y1 hy1 h => ?_; refine W.call rfl (law21_plain_fn hy1) ?_; refine W.v (.agg [VS y1.Name, VI y1.Edit, VI y1.Within, VI y1.Delete, VB y1.React, VI y1.Thread, VB y1.Quote, VB y1.Mention, VI y1.Size, VI y1.Parts, VI y1.Files, VI y1.Bytes, .row 851982 1 (List.map encS y1.Types).length, VI y1.Join, VI y1.History, VI y1.Remove, VI y1.Level, VB y1.Batch, VI y1.Rate, VI y1.Down, VI y1.Window, VI y1.Keep]) (.agg [VS y1.Name, VI y1.Edit, VI y1.Within, VI y1.Delete, VB y1.React, VI y1.Thread, VB y1.Quote, VB y1.Mention, VI y1.Size, VI y1.Parts, VI y1.Files, VI y1.Bytes, .row 851982 1 y1.Types.length, VI y1.Join, VI y1.History, VI y1.Remove, VI y1.Level, VB y1.Batch, VI y1.Rate, VI y1.Down, VI y1.Window, VI y1.Keep]) (Mem.add _ 851982 (.rows 1 (List.map encS y1.Types) false)) rfl (by simp only [List.length_map]) ?_; refine Y1 rfl ?_; refine bindK h fun y2 hy2 h => ?_; refine W.call rfl (ways_Compile_fn hy2) ?_; refine W.v (.tup [.row 1048591 1 (List.map api_Way.enc y2.1).length, VI y2.2]) (.tup [.row 1048591 1 y2.1.length, VI y2.2]) (Mem.add (Mem.set _ 851982 1 (some (.rows 1 (List.map encS y1.Types) true))) 1048591 (.rows 2 (List.map api_Way.enc y2.1) false)) rfl (by simp only [List.length_map]) ?_; refine Zo (.tup [.row 1048591 1 y2.1.length, VI y2.2]) rfl rfl ?_; refine Zo (.row 1048591 1 y2.1.length) rfl rfl ?_; refine Zpp 1 rfl ?_; refine Zo (.row 1048591 1 y2.1.length) rfl rfl ?_; refine Zpp 5 rfl ?_; refine Y1 rfl ?_; refine bindK h fun y3 hy3 h => ?_; refine W.call rfl (law21_plain_fn hy3) ?_; refine W.v (.agg [VS y3.Name, VI y3.Edit, VI y3.Within, VI y3.Delete, VB y3.React, VI y3.Thread, VB y3.Quote, VB y3.Mention, VI y3.Size, VI y3.Parts, VI y3.Files, VI y3.Bytes, .row 851987 1 (List.map encS y3.Types).length, VI y3.Join, VI y3.History, VI y3.Remove, VI y3.Level, VB y3.Batch, VI y3.Rate, VI y3.Down, VI y3.Window, VI y3.Keep]) (.agg [VS y3.Name, VI y3.Edit, VI y3.Within, VI y3.Delete, VB y3.React, VI y3.Thread, VB y3.Quote, VB y3.Mention, VI y3.Size, VI y3.Parts, VI y3.Files, VI y3.Bytes, .row 851987 1 y3.Types.length, VI y3.Join, VI y3.History, VI y3.Remove, VI y3.Level, VB y3.Batch, VI y3.Rate, VI y3.Down, VI y3.Window, VI y3.Keep]) (Mem.add _ 851987 (.rows 1 (List.map encS y3.Types) false)) rfl (by simp only [List.length_map]) ?_; refine Zo (.row 1048591 1 y2.1.length) rfl rfl ?_; refine Y1 rfl ?_; refine bindK h fun y4 hy4 h => ?_; refine W.call rfl (law21_story_fn hy4) ?_; refine W.v (.row 21 1 (List.map api_Event.enc y4).length) (.row 21 1 y4.length) (Mem.add _ 21 (.rows 12 (List.map api_Event.enc y4) false)) rfl (by simp only [List.length_map]) ?_; refine Zpp 1 rfl ?_; refine Y1 rfl ?_; refine bindK h fun y5 hy5 h => ?_; refine W.call rfl (forth_Forth_fn hy5) ?_
  refine W.v (.tup [.row 1048599 1 (List.map api_Item.enc y5.1).length, VI y5.2]) (.tup [.row 1048599 1 y5.1.length, VI y5.2]) (Mem.add (Mem.set (Mem.set (Mem.set _ 851987 1 (some (.rows 1 (List.map encS y3.Types) true))) 1048591 1 (some (.rows 2 (List.map api_Way.enc y2.1) true))) 21 1 (some (.rows 12 (List.map api_Event.enc y4) true))) 1048599 (.rows 11 (List.map api_Item.enc y5.1) false)) rfl (by simp only [List.length_map]) ?_; refine Zo (.tup [.row 1048599 1 y5.1.length, VI y5.2]) rfl rfl ?_; refine Zo (.row 1048599 1 y5.1.length) rfl rfl ?_; refine Zpp 1 rfl ?_; refine Zo (.row 1048599 1 y5.1.length) rfl rfl ?_; refine Zpp 9 rfl ?_; refine YF rfl rfl rfl h (fun _ h => ?_) (fun _ h => ?_)
  · refine Zpb 17 rfl ?_; cases h; cases hG; exact ⟨rfl, trivial⟩
  · refine Zwp 4 rfl ?_; refine YF rfl rfl rfl h (fun _ h => ?_) (fun _ h => ?_)
    · refine Zpb 13 rfl ?_; cases h; cases hG; exact ⟨rfl, trivial⟩
    · refine W.det (.row 1048599 1 y5.1.length) _ rfl ?_; refine Zpc 5 rfl ?_; refine A.condB rfl h (fun _ h => ?_) (fun _ h => ?_)
      · refine Zcb 7 rfl ?_; cases h; cases hG; exact ⟨rfl, trivial⟩
      · refine Zcp 4 rfl ?_; refine Zo (.row 1048599 1 y5.1.length) rfl rfl ?_; refine Y1 rfl ?_; refine chkK h fun g6 h => ?_; refine W.chk rfl (by first | (simp; done) | simpa using g6) ?_; refine W.det (.rp 1048599 1 (0 : Int).toNat 0) _ rfl ?_; refine Y1 rfl ?_; refine bindK h fun x7 hx7 h => ?_; refine W.elem rfl (elemG hx7) ?_; refine W.det (.agg (api_Item.av x7)) _ rfl ?_; refine Zpp 4 rfl ?_; refine Zo (.agg [VI id_, VI 0, VI 1, VI kind_, VI on_, VI 0, VI (-1), VI (-1), VI 0, VS text_, .nl]) rfl rfl ?_; refine Y1 rfl ?_; refine bindK h fun y8 hy8 h => ?_; refine W.call rfl (ref21_SameItem_fn hy8) ?_; refine Zwb 5 rfl ?_; cases h; cases hG; exact ⟨rfl, trivial⟩
noncomputable def law21_small : Option (Bool) :=
  (law21_plain).bind fun y1 =>
  (law21_story).bind fun y2 =>
  (forth_Forth y1 ([] : List api_Way) y2 ([] : List Int) (0 : Int)).bind fun y3 =>
  (law21_says (0 : Int) (0 : Int) (-1 : Int) (ByteArray.mk #[104, 101, 108, 108, 111])).bind fun y7 =>
  (bif y7 then
    (law21_says (1 : Int) (0 : Int) (-1 : Int) (ByteArray.mk #[114, 101, 58, 32, 104, 101, 108, 108, 111, 10, 121, 101, 115])).bind fun y8 =>
    (bif y8 then
      (law21_says (2 : Int) (0 : Int) (-1 : Int) (ByteArray.mk #[101, 100, 105, 116, 58, 32, 104, 101, 108, 108, 111, 10, 104, 117, 108, 108, 111])).bind fun y9 =>
      (bif y9 then
        (law21_says (3 : Int) (0 : Int) (-1 : Int) (ByteArray.mk #[114, 101, 97, 99, 116, 105, 111, 110, 32, 55])).bind fun y10 =>
        (bif y10 then
          (law21_says (4 : Int) (2 : Int) (0 : Int) (ByteArray.mk #[])).bind fun y11 =>
          (bif y11 then
            some (y3.2 == (1 : Int))
          else
            some false)
        else
          some false)
      else
        some false)
    else
      some false)
  else
    some false)
theorem law21_small_fn {dr : Prop} {r : Bool} (h : law21_small = some r) : Fn dr Tryz.prog 5 [] (VB r) := by
  refine Fn.of_AW (dr := dr) (F := FnX dr Tryz.prog) (base := 0) (js := []) mixed tok noeqs (fun _ _ _ h => h) Tryz.call5 Tryz.func5 rfl Tryz.ntmps5 (by rw [Tryz.results5]) (by simp) ?_; have hG : (fun x => x = r) r := rfl; unfold law21_small at h; refine Zap 7 rfl ?_; refine Y1 rfl ?_; refine bindK h fun y1 hy1 h => ?_; refine W.call rfl (law21_plain_fn hy1) ?_; refine W.v (.agg [VS y1.Name, VI y1.Edit, VI y1.Within, VI y1.Delete, VB y1.React, VI y1.Thread, VB y1.Quote, VB y1.Mention, VI y1.Size, VI y1.Parts, VI y1.Files, VI y1.Bytes, .row 851973 1 (List.map encS y1.Types).length, VI y1.Join, VI y1.History, VI y1.Remove, VI y1.Level, VB y1.Batch, VI y1.Rate, VI y1.Down, VI y1.Window, VI y1.Keep]) (.agg [VS y1.Name, VI y1.Edit, VI y1.Within, VI y1.Delete, VB y1.React, VI y1.Thread, VB y1.Quote, VB y1.Mention, VI y1.Size, VI y1.Parts, VI y1.Files, VI y1.Bytes, .row 851973 1 y1.Types.length, VI y1.Join, VI y1.History, VI y1.Remove, VI y1.Level, VB y1.Batch, VI y1.Rate, VI y1.Down, VI y1.Window, VI y1.Keep]) (Mem.add _ 851973 (.rows 1 (List.map encS y1.Types) false)) rfl (by simp only [List.length_map]) ?_; refine Y1 rfl ?_; refine bindK h fun y2 hy2 h => ?_; refine W.call rfl (law21_story_fn hy2) ?_; refine W.v (.row 6 1 (List.map api_Event.enc y2).length) (.row 6 1 y2.length) (Mem.add _ 6 (.rows 12 (List.map api_Event.enc y2) false)) rfl (by simp only [List.length_map]) ?_; refine Y1 rfl ?_; refine bindK h fun y3 hy3 h => ?_; refine W.call rfl (forth_Forth_fn hy3) ?_; refine W.v (.tup [.row 1048583 1 (List.map api_Item.enc y3.1).length, VI y3.2]) (.tup [.row 1048583 1 y3.1.length, VI y3.2]) (Mem.add (Mem.set (Mem.set _ 851973 1 (some (.rows 1 (List.map encS y1.Types) true))) 6 1 (some (.rows 12 (List.map api_Event.enc y2) true))) 1048583 (.rows 11 (List.map api_Item.enc y3.1) false)) rfl (by simp only [List.length_map]) ?_; refine Zo (.tup [.row 1048583 1 y3.1.length, VI y3.2]) rfl rfl ?_; refine Zo (.row 1048583 1 y3.1.length) rfl rfl ?_; refine Zpp 1 rfl ?_; refine Zo (.row 1048583 1 y3.1.length) rfl rfl ?_; refine Zpp 5 rfl ?_; refine Y1 rfl ?_; refine bindK h fun y7 hy7 h => ?_; refine W.call rfl (law21_says_fn hy7) ?_; refine Zwp 2 rfl ?_; refine YT rfl rfl rfl h (fun _ h => ?_) (fun _ h => ?_)
  · refine bindK h fun y8 hy8 h => ?_; refine W.call rfl (law21_says_fn hy8) ?_; refine Zwp 3 rfl ?_; refine YT rfl rfl rfl h (fun _ h => ?_) (fun _ h => ?_)
    · refine bindK h fun y9 hy9 h => ?_; refine W.call rfl (law21_says_fn hy9) ?_; refine Zwp 9 rfl ?_; refine YT rfl rfl rfl h (fun _ h => ?_) (fun _ h => ?_)
      · refine bindK h fun y10 hy10 h => ?_; refine W.call rfl (law21_says_fn hy10) ?_; refine Zwp 3 rfl ?_; refine YT rfl rfl rfl h (fun _ h => ?_) (fun _ h => ?_)
        · refine bindK h fun y11 hy11 h => ?_; refine W.call rfl (law21_says_fn hy11) ?_; refine Zwp 3 rfl ?_; refine YT rfl rfl rfl h (fun _ h => ?_) (fun _ h => ?_)
          · refine Zwb 7 rfl ?_; cases h; cases hG; exact ⟨rfl, trivial⟩
          · refine Zpb 6 rfl ?_; cases h; cases hG; exact ⟨rfl, trivial⟩
        · refine Zpb 9 rfl ?_; cases h; cases hG; exact ⟨rfl, trivial⟩
      · refine Zpb 12 rfl ?_; cases h; cases hG; exact ⟨rfl, trivial⟩
    · refine Zpb 21 rfl ?_; cases h; cases hG; exact ⟨rfl, trivial⟩
  · refine Zpb 24 rfl ?_; cases h; cases hG; exact ⟨rfl, trivial⟩
noncomputable def ref14_Few (e_ : api_Event) : Option (Bool) :=
  (bif (decide ((e_.Causes.length : Int) ≤ (10 : Int))) then
    (bif (decide ((e_.Files.length : Int) ≤ (10 : Int))) then
      some (decide ((e_.Text.size : Int) ≤ (300 : Int)))
    else
      some false)
  else
    some false)
theorem ref14_Few_fn {dr : Prop} {e_ : api_Event} {r : Bool} (h : ref14_Few e_ = some r) : Fn dr Tryz.prog 49 [.agg (api_Event.av e_)] (VB r) := by
  refine Fn.of_AW (dr := dr) (F := FnX dr Tryz.prog) (base := 0) (js := []) mixed tok noeqs (fun _ _ _ h => h) Tryz.call49 Tryz.func49 rfl Tryz.ntmps49 (by rw [Tryz.results49]) (by simp) ?_; have hG : (fun x => x = r) r := rfl; unfold ref14_Few at h; refine Zap 2 rfl ?_; refine Zm (.lp 1 1 0) (Mem.add _ 1 (.box (api_Event.av e_))) rfl rfl ?_; refine Zpp 7 rfl ?_; refine Y1 rfl ?_; refine W.len rfl ?_; refine Zpp 2 rfl ?_; refine YT rfl rfl rfl h (fun _ h => ?_) (fun _ h => ?_)
  · refine Zwp 2 rfl ?_; refine Y2 rfl rfl rfl ?_; refine W.len rfl ?_; refine Zpp 3 rfl ?_; refine YT rfl rfl rfl h (fun _ h => ?_) (fun _ h => ?_)
    · refine Zwb 9 rfl ?_; cases h; cases hG; exact ⟨rfl, trivial⟩
    · refine Zpb 8 rfl ?_; cases h; cases hG; exact ⟨rfl, trivial⟩
  · refine Zpb 14 rfl ?_; cases h; cases hG; exact ⟨rfl, trivial⟩
noncomputable def ref14_FewAll_L1 (l_ : (List api_Event)) (n_ : Int) (s3 : Int) : Option ((Int) ⊕ ((Unit) ⊕ (Bool))) :=
  (bif (decide (s3 < (l_.length : Int))) then
    (bif (decide (s3 ≤ n_)) then
      (getI l_ s3).bind fun x23 =>
      (ref14_Few x23).bind fun y24 =>
      (bif (!y24) then
        some (.inr (.inr false))
      else
        some (.inl (IntKind.i64.wrap (s3 + (1 : Int)))))
    else
      some (.inr (.inl ())))
  else
    some (.inr (.inl ())))
noncomputable def ref14_FewAll (l_ : (List api_Event)) (n_ : Int) : Option (Bool) :=
  (seqF (A := Unit) (
    loopF (ref14_FewAll_L1 l_ n_) (0 : Int))
  fun s2 =>
    some (decide ((l_.length : Int) ≤ n_)))
theorem ref14_FewAll_fn {dr : Prop} {l_ : (List api_Event)} {n_ : Int} {r : Bool} (h : ref14_FewAll l_ n_ = some r) : Fn dr Tryz.prog 19 [VF (List.map api_Event.enc l_), VI n_] (VB r) := by
  refine Fn.of_AW (dr := dr) (F := FnX dr Tryz.prog) (base := 0) (js := [6]) mixed tok noeqs (fun _ _ _ h => h) Tryz.call19 Tryz.func19 rfl Tryz.ntmps19 (by rw [Tryz.results19]) (by simp) ?_; have hG : (fun x => x = r) r := rfl; unfold ref14_FewAll at h; refine Zac 5 rfl ?_; refine A.join (fun (s2 : Unit) => [(0, VF (List.map api_Event.enc l_)), (1, VI n_)]) (fun s2 => []) _ h hG rfl ?_ ?_
  · intro J f h hG; refine Zac 6 rfl ?_; refine A.loop (fun (s3 : Int) => [(0, VF (List.map api_Event.enc l_)), (1, VI n_), (5, VI s3)]) (fun s3 => []) _ h hG (Zf [] [] rfl rfl (Ze rfl rfl (Ze rfl rfl (Ze rfl rfl trivial))) trivial) ?_; intro J s3 f h hG; unfold ref14_FewAll_L1 at h; refine Zap 5 rfl ?_; refine Y1 rfl ?_; refine W.len rfl ?_; refine Zpp 2 rfl ?_; refine YT rfl rfl rfl h (fun _ h => ?_) (fun _ h => ?_)
    · refine Zwc 6 rfl ?_; refine A.condB rfl h (fun _ h => ?_) (fun _ h => ?_)
      · refine Zcp 8 rfl ?_; refine Y1 rfl ?_; refine bindK h fun x23 hx23 h => ?_; refine W.chk rfl (elemB hx23) ?_; refine W.elem rfl (elemG hx23) ?_; refine W.chk rfl rfl ?_; refine W.det (.fp [.v (.int .i64 x23.Author), .v (.int .i64 x23.Seq), .fz (List.map (encI .i64) x23.Causes), .v (.int .i64 x23.Kind), .v (.int .i64 x23.Group), .v (.int .i64 x23.Target), .v (.int .i64 x23.Quote), .v (.int .i64 x23.Who), .v (.int .i64 x23.N), .v (.string x23.Text), .fz (List.map (encI .i64) x23.Files), .v (.int .i64 x23.Step)]) _ rfl ?_; refine Zo (.agg (api_Event.av x23)) rfl rfl ?_; refine Y1 rfl ?_; refine bindK h fun y24 hy24 h => ?_; refine W.call rfl (ref14_Few_fn hy24) ?_; refine Zwc 4 rfl ?_; refine A.condB rfl h (fun _ h => ?_) (fun _ h => ?_)
        · refine Zcb 8 rfl ?_; refine headK.r ?_; refine Zob 1 rfl ?_; refine headK.r ?_; cases h; cases hG; exact ⟨rfl, trivial⟩
        · refine Zcb 8 rfl ?_; cases h; exact Zh hG [] [] rfl rfl (Ze rfl rfl (Ze rfl rfl (Ze rfl rfl trivial))) trivial
      · refine Zcb 2 rfl ?_; refine headK.e ?_; refine Zob 1 rfl ?_; cases h; exact Zh hG [] [] rfl rfl (Ze rfl rfl (Ze rfl rfl trivial)) trivial
    · refine Zpb 8 rfl ?_; refine headK.e ?_; refine Zob 1 rfl ?_; cases h; exact Zh hG [] [] rfl rfl (Ze rfl rfl (Ze rfl rfl trivial)) trivial
  · intro s2 r2 h hG; refine Zcp 3 rfl ?_; refine Y1 rfl ?_; refine W.len rfl ?_; refine Zpb 6 rfl ?_; cases h; cases hG; exact ⟨rfl, trivial⟩
noncomputable def ref21_Few (events_ : (List api_Event)) (bad_ : (List Int)) (n_ : Int) : Option (Bool) :=
  (ref14_FewAll events_ n_).bind fun y1 =>
  (bif y1 then
    some (decide ((bad_.length : Int) ≤ (12 : Int)))
  else
    some false)
theorem ref21_Few_fn {dr : Prop} {events_ : (List api_Event)} {bad_ : (List Int)} {n_ : Int} {r : Bool} (h : ref21_Few events_ bad_ n_ = some r) : Fn dr Tryz.prog 6 [VF (List.map api_Event.enc events_), VF (List.map (encI .i64) bad_), VI n_] (VB r) := by
  refine Fn.of_AW (dr := dr) (F := FnX dr Tryz.prog) (base := 0) (js := []) mixed tok noeqs (fun _ _ _ h => h) Tryz.call6 Tryz.func6 rfl Tryz.ntmps6 (by rw [Tryz.results6]) (by simp) ?_; have hG : (fun x => x = r) r := rfl; unfold ref21_Few at h; refine Zap 9 rfl ?_; refine Y1 rfl ?_; refine bindK h fun y1 hy1 h => ?_; refine W.call rfl (ref14_FewAll_fn hy1) ?_; refine Zwp 2 rfl ?_; refine YT rfl rfl rfl h (fun _ h => ?_) (fun _ h => ?_)
  · refine Zwp 1 rfl ?_; refine Y2 rfl rfl rfl ?_; refine W.len rfl ?_; refine Zpb 6 rfl ?_; cases h; cases hG; exact ⟨rfl, trivial⟩
  · refine Zpb 7 rfl ?_; cases h; cases hG; exact ⟨rfl, trivial⟩
end Go.Proofs.YtljdbikodogeiaaGreatDoor
namespace Go.Proofs.YtljdbikodogeiaaGreatDoor
open Go.RowKit
structure api_Msg where
  Id : Int
  Author : Int
  Group : Int
  Parent : Int
  Quote : Int
  Who : Int
  Text : ByteArray
  Files : (List Int)
  Edits : Int
  Reacts : (List Arr2_Int)
  Gone : Bool
def api_Msg.enc (x : api_Msg) : List D := [.v (.int .i64 x.Id), .v (.int .i64 x.Author), .v (.int .i64 x.Group), .v (.int .i64 x.Parent), .v (.int .i64 x.Quote), .v (.int .i64 x.Who), .v (.string x.Text), .fz (List.map (encI .i64) x.Files), .v (.int .i64 x.Edits), .fz (List.map Arr2_Int.enc x.Reacts), .v (.bool x.Gone)]
abbrev api_Msg.av (x : api_Msg) : List AV := [VI x.Id, VI x.Author, VI x.Group, VI x.Parent, VI x.Quote, VI x.Who, VS x.Text, VF (List.map (encI .i64) x.Files), VI x.Edits, VF (List.map Arr2_Int.enc x.Reacts), VB x.Gone]
end Go.Proofs.YtljdbikodogeiaaGreatDoor

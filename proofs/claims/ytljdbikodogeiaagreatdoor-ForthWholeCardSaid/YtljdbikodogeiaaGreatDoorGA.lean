/-
  Plain programs of functions, and that the functions do what they say. Printed by wip/tools/gen.py.
  Plain programs of functions, and that the functions do what they say. Printed by wip/tools/gen.py.
-/
import Derived.Test.YtljdbikodogeiaaGreatDoorTy
import Derived.Test.YtljdbikodogeiaaGreatDoorEvS
import Derived.Test.YtljdbikodogeiaaGreatDoorEvZ
namespace Go.Proofs.YtljdbikodogeiaaGreatDoor
open Go.RowKit
attribute [local irreducible] IntKind.wrap AW runL Step.wp
set_option linter.unusedVariables false
set_option maxHeartbeats 4000000
set_option maxRecDepth 100000
noncomputable def cmp_isNaN_int (x_ : Int) : Option (Bool) :=
  some (x_ != x_)
theorem cmp_isNaN_int_fn {dr : Prop} {x_ : Int} {r : Bool} (h : cmp_isNaN_int x_ = some r) : Fn dr Tryz.prog 72 [VI x_] (VB r) := by
  refine Fn.of_AW (dr := dr) (F := FnX dr Tryz.prog) (base := 0) (js := []) mixed tok noeqs (fun _ _ _ h => h) Tryz.call72 Tryz.func72 rfl Tryz.ntmps72 (by rw [Tryz.results72]) (by simp) ?_; have hG : (fun x => x = r) r := rfl; unfold cmp_isNaN_int at h; refine Zab 14 rfl ?_; cases h; cases hG; exact ⟨rfl, trivial⟩
noncomputable def cmp_Compare_int (x_ : Int) (y_ : Int) : Option (Int) :=
  (cmp_isNaN_int x_).bind fun y1 =>
  (cmp_isNaN_int y_).bind fun y2 =>
  (bif y1 then
    (bif y2 then
      some (0 : Int)
    else
      some (-1 : Int))
  else
    (bif y2 then
      some (1 : Int)
    else
      (bif (decide (x_ < y_)) then
        some (-1 : Int)
      else
        (bif (decide (y_ < x_)) then
          some (1 : Int)
        else
          some (0 : Int)))))
theorem cmp_Compare_int_fn {dr : Prop} {x_ : Int} {y_ : Int} {r : Int} (h : cmp_Compare_int x_ y_ = some r) : Fn dr Tryz.prog 46 [VI x_, VI y_] (VI r) := by
  refine Fn.of_AW (dr := dr) (F := FnX dr Tryz.prog) (base := 0) (js := []) mixed tok noeqs (fun _ _ _ h => h) Tryz.call46 Tryz.func46 rfl Tryz.ntmps46 (by rw [Tryz.results46]) (by simp) ?_; have hG : (fun x => x = r) r := rfl; unfold cmp_Compare_int at h; refine Zap 8 rfl ?_; refine Y1 rfl ?_; refine bindK h fun y1 hy1 h => ?_; refine W.call rfl (cmp_isNaN_int_fn hy1) ?_; refine Zwp 7 rfl ?_; refine Y1 rfl ?_; refine bindK h fun y2 hy2 h => ?_; refine W.call rfl (cmp_isNaN_int_fn hy2) ?_; refine Zwc 10 rfl ?_; refine A.condB rfl h (fun _ h => ?_) (fun _ h => ?_)
  · refine Zcc 6 rfl ?_; refine A.condB rfl h (fun _ h => ?_) (fun _ h => ?_)
    · refine Zcb 8 rfl ?_; cases h; cases hG; exact ⟨rfl, trivial⟩
    · refine Zcb 9 rfl ?_; cases h; cases hG; exact ⟨rfl, trivial⟩
  · refine Zcc 8 rfl ?_; refine A.condB rfl h (fun _ h => ?_) (fun _ h => ?_)
    · refine Zcb 7 rfl ?_; cases h; cases hG; exact ⟨rfl, trivial⟩
    · refine Zcc 10 rfl ?_; refine A.condB rfl h (fun _ h => ?_) (fun _ h => ?_)
      · refine Zcb 7 rfl ?_; cases h; cases hG; exact ⟨rfl, trivial⟩
      · refine Zcc 10 rfl ?_; refine A.condB rfl h (fun _ h => ?_) (fun _ h => ?_)
        · refine Zcb 7 rfl ?_; cases h; cases hG; exact ⟨rfl, trivial⟩
        · refine Zcb 8 rfl ?_; cases h; cases hG; exact ⟨rfl, trivial⟩
noncomputable def cmp_Or_int_L1 (vals_ : (List Int)) (s3 : Int) : Option ((Int) ⊕ ((Unit) ⊕ (Int))) :=
  (bif (decide (s3 < (vals_.length : Int))) then
    (getI vals_ s3).bind fun x12 =>
    (bif (x12 != (0 : Int)) then
      some (.inr (.inr x12))
    else
      some (.inl (IntKind.i64.wrap (s3 + (1 : Int)))))
  else
    some (.inr (.inl ())))
noncomputable def cmp_Or_int (vals_ : (List Int)) : Option (Int) :=
  (seqF (A := Unit) (
    loopF (cmp_Or_int_L1 vals_) (0 : Int))
  fun s2 =>
    some (0 : Int))
theorem cmp_Or_int_fn {dr : Prop} {vals_ : (List Int)} {r : Int} (h : cmp_Or_int vals_ = some r) : Fn dr Tryz.prog 45 [VF (List.map (encI .i64) vals_)] (VI r) := by
  refine Fn.of_AW (dr := dr) (F := FnX dr Tryz.prog) (base := 0) (js := [8]) mixed tok noeqs (fun _ _ _ h => h) Tryz.call45 Tryz.func45 rfl Tryz.ntmps45 (by rw [Tryz.results45]) (by simp) ?_; have hG : (fun x => x = r) r := rfl; unfold cmp_Or_int at h; refine Zac 10 rfl ?_; refine A.join (fun (s2 : Unit) => [(3, VI 0)]) (fun s2 => []) _ h hG rfl ?_ ?_
  · intro J f h hG; refine Zap 3 rfl ?_; refine Y1 rfl ?_; refine W.len rfl ?_; refine Zpc 4 rfl ?_; refine A.loop (fun (s3 : Int) => [(3, VI 0), (6, VF (List.map (encI .i64) vals_)), (7, VI (vals_.length : Int)), (8, VI s3)]) (fun s3 => []) _ h hG (Zf [] [] rfl rfl (Ze rfl rfl (Ze rfl rfl (Ze rfl rfl (Ze rfl rfl trivial)))) trivial) ?_; intro J s3 f h hG; unfold cmp_Or_int_L1 at h; refine Zac 6 rfl ?_; refine A.condB rfl h (fun _ h => ?_) (fun _ h => ?_)
    · refine Zcp 6 rfl ?_; refine Y1 rfl ?_; refine bindK h fun x12 hx12 h => ?_; refine W.chk rfl (elemB hx12) ?_; refine W.elem rfl (elemG hx12) ?_; refine W.chk rfl rfl ?_; refine W.det (.fp [.v (.int .i64 x12)]) _ rfl ?_; refine Zpc 11 rfl ?_; refine A.condB rfl h (fun _ h => ?_) (fun _ h => ?_)
      · refine Zcb 9 rfl ?_; refine headK.r ?_; refine Zob 1 rfl ?_; refine headK.r ?_; cases h; cases hG; exact ⟨rfl, trivial⟩
      · refine Zcb 7 rfl ?_; cases h; exact Zh hG [] [] rfl rfl (Ze rfl rfl (Ze rfl rfl (Ze rfl rfl (Ze rfl rfl trivial)))) trivial
    · refine Zcb 2 rfl ?_; refine headK.e ?_; refine Zob 1 rfl ?_; cases h; exact Zh hG [] [] rfl rfl (Ze rfl rfl trivial) trivial
  · intro s2 r2 h hG; refine Zcb 7 rfl ?_; cases h; cases hG; exact ⟨rfl, trivial⟩
structure Arr2_Int where
  a0 : Int
  a1 : Int
def Arr2_Int.enc (x : Arr2_Int) : List D := [.v (.int .i64 x.a0), .v (.int .i64 x.a1)]
abbrev Arr2_Int.av (x : Arr2_Int) : List AV := [VI x.a0, VI x.a1]
noncomputable def view_View_1 (a_ : Arr2_Int) (b_ : Arr2_Int) : Option (Int) :=
  (cmp_Compare_int a_.a0 b_.a0).bind fun y1 =>
  (cmp_Compare_int a_.a1 b_.a1).bind fun y2 =>
  (cmp_Or_int [y1, y2]).bind fun y3 =>
  some y3
theorem view_View_1_fn {dr : Prop} {a_ : Arr2_Int} {b_ : Arr2_Int} {r : Int} (h : view_View_1 a_ b_ = some r) : Fn dr Tryz.prog 44 [.agg (Arr2_Int.av a_), .agg (Arr2_Int.av b_)] (VI r) := by
  refine Fn.of_AW (dr := dr) (F := FnX dr Tryz.prog) (base := 0) (js := []) mixed tok noeqs (fun _ _ _ h => h) Tryz.call44 Tryz.func44 rfl Tryz.ntmps44 (by rw [Tryz.results44]) (by simp) ?_; have hG : (fun x => x = r) r := rfl; unfold view_View_1 at h; refine Zap 2 rfl ?_; refine Zm (.lp 2 1 0) (Mem.add _ 2 (.box (Arr2_Int.av a_))) rfl rfl ?_; refine Zm (.lp 3 1 0) (Mem.add _ 3 (.box (Arr2_Int.av b_))) rfl rfl ?_; refine Zpc 4 rfl ?_; refine A.regionD (by kernel_rfl) ?_; refine Y1 rfl ?_; refine W.chk rfl (by decide) ?_; refine W.det (.lp 2 1 0) _ rfl ?_; refine Zpp 1 rfl ?_; refine Y1 rfl ?_; refine W.chk rfl (by decide) ?_; refine W.det (.lp 3 1 0) _ rfl ?_; refine Zpp 1 rfl ?_; refine Y1 rfl ?_; refine bindK h fun y1 hy1 h => ?_; refine W.call rfl (cmp_Compare_int_fn hy1) ?_; refine Zwp 1 rfl ?_; refine Y1 rfl ?_; refine W.chk rfl (by decide) ?_; refine W.det (.lp 2 1 1) _ rfl ?_; refine Zpp 1 rfl ?_; refine Y1 rfl ?_; refine W.chk rfl (by decide) ?_; refine W.det (.lp 3 1 1) _ rfl ?_; refine Zpp 1 rfl ?_; refine Y1 rfl ?_; refine bindK h fun y2 hy2 h => ?_; refine W.call rfl (cmp_Compare_int_fn hy2) ?_; refine Zwp 1 rfl ?_; refine Zm (.row 15 1 2) (Mem.add _ 15 (.rows 1 (List.map (encI .i64) [y1, y2]) false)) rfl rfl ?_; refine Y1 rfl ?_; refine bindK h fun y3 hy3 h => ?_; refine W.call rfl (cmp_Or_int_fn hy3) ?_; refine Zwb 5 rfl ?_; cases h; cases hG; exact ⟨rfl, trivial⟩
structure api_Event where
  Author : Int
  Seq : Int
  Causes : (List Int)
  Kind : Int
  Group : Int
  Target : Int
  Quote : Int
  Who : Int
  N : Int
  Text : ByteArray
  Files : (List Int)
  Step : Int
def api_Event.enc (x : api_Event) : List D := [.v (.int .i64 x.Author), .v (.int .i64 x.Seq), .fz (List.map (encI .i64) x.Causes), .v (.int .i64 x.Kind), .v (.int .i64 x.Group), .v (.int .i64 x.Target), .v (.int .i64 x.Quote), .v (.int .i64 x.Who), .v (.int .i64 x.N), .v (.string x.Text), .fz (List.map (encI .i64) x.Files), .v (.int .i64 x.Step)]
abbrev api_Event.av (x : api_Event) : List AV := [VI x.Author, VI x.Seq, VF (List.map (encI .i64) x.Causes), VI x.Kind, VI x.Group, VI x.Target, VI x.Quote, VI x.Who, VI x.N, VS x.Text, VF (List.map (encI .i64) x.Files), VI x.Step]
noncomputable def view_message (events_ : (List api_Event)) (id_ : Int) : Option (Bool) :=
  (bif (decide ((0 : Int) ≤ id_)) then
    (bif (decide (id_ < (events_.length : Int))) then
      (getI events_ id_).bind fun x1 =>
      some (x1.Kind == (0 : Int))
    else
      some false)
  else
    some false)
theorem view_message_fn {dr : Prop} {events_ : (List api_Event)} {id_ : Int} {r : Bool} (h : view_message events_ id_ = some r) : Fn dr Tryz.prog 47 [VF (List.map api_Event.enc events_), VI id_] (VB r) := by
  refine Fn.of_AW (dr := dr) (F := FnX dr Tryz.prog) (base := 0) (js := []) mixed tok noeqs (fun _ _ _ h => h) Tryz.call47 Tryz.func47 rfl Tryz.ntmps47 (by rw [Tryz.results47]) (by simp) ?_; have hG : (fun x => x = r) r := rfl; unfold view_message at h; refine Zap 10 rfl ?_; refine YT rfl rfl rfl h (fun _ h => ?_) (fun _ h => ?_)
  · refine Zwp 2 rfl ?_; refine Y2 rfl rfl rfl ?_; refine W.len rfl ?_; refine Zpp 3 rfl ?_; refine YT rfl rfl rfl h (fun _ h => ?_) (fun _ h => ?_)
    · refine Zwp 2 rfl ?_; refine Y2 rfl rfl rfl ?_; refine bindK h fun x1 hx1 h => ?_; refine W.chk rfl (elemB hx1) ?_; refine W.elem rfl (elemG hx1) ?_; refine W.chk rfl rfl ?_; refine W.det (.fp [.v (.int .i64 x1.Author), .v (.int .i64 x1.Seq), .fz (List.map (encI .i64) x1.Causes), .v (.int .i64 x1.Kind), .v (.int .i64 x1.Group), .v (.int .i64 x1.Target), .v (.int .i64 x1.Quote), .v (.int .i64 x1.Who), .v (.int .i64 x1.N), .v (.string x1.Text), .fz (List.map (encI .i64) x1.Files), .v (.int .i64 x1.Step)]) _ rfl ?_; refine Zu (.fp [.v (.int .i64 x1.Kind), .v (.int .i64 x1.Group), .v (.int .i64 x1.Target), .v (.int .i64 x1.Quote), .v (.int .i64 x1.Who), .v (.int .i64 x1.N), .v (.string x1.Text), .fz (List.map (encI .i64) x1.Files), .v (.int .i64 x1.Step)]) rfl rfl rfl rfl ?_; refine Zpb 7 rfl ?_; cases h; cases hG; exact ⟨rfl, trivial⟩
    · refine Zpb 10 rfl ?_; cases h; cases hG; exact ⟨rfl, trivial⟩
  · refine Zpb 16 rfl ?_; cases h; cases hG; exact ⟨rfl, trivial⟩
noncomputable def view_parent (events_ : (List api_Event)) (id_ : Int) : Option (Int) :=
  (getI events_ id_).bind fun x4 =>
  (bif (decide (x4.Target < id_)) then
    (view_message events_ x4.Target).bind fun y6 =>
    (bif y6 then
      some x4.Target
    else
      some (-1 : Int))
  else
    some (-1 : Int))
theorem view_parent_fn {dr : Prop} {events_ : (List api_Event)} {id_ : Int} {r : Int} (h : view_parent events_ id_ = some r) : Fn dr Tryz.prog 37 [VF (List.map api_Event.enc events_), VI id_] (VI r) := by
  refine Fn.of_AW (dr := dr) (F := FnX dr Tryz.prog) (base := 0) (js := []) mixed tok noeqs (fun _ _ _ h => h) Tryz.call37 Tryz.func37 rfl Tryz.ntmps37 (by rw [Tryz.results37]) (by simp) ?_; have hG : (fun x => x = r) r := rfl; unfold view_parent at h; refine Zap 10 rfl ?_; refine Y1 rfl ?_; refine bindK h fun x4 hx4 h => ?_; refine W.chk rfl (elemB hx4) ?_; refine W.elem rfl (elemG hx4) ?_; refine W.chk rfl rfl ?_; refine W.det (.fp [.v (.int .i64 x4.Author), .v (.int .i64 x4.Seq), .fz (List.map (encI .i64) x4.Causes), .v (.int .i64 x4.Kind), .v (.int .i64 x4.Group), .v (.int .i64 x4.Target), .v (.int .i64 x4.Quote), .v (.int .i64 x4.Who), .v (.int .i64 x4.N), .v (.string x4.Text), .fz (List.map (encI .i64) x4.Files), .v (.int .i64 x4.Step)]) _ rfl ?_; refine Zo (.fp [.v (.int .i64 x4.Target), .v (.int .i64 x4.Quote), .v (.int .i64 x4.Who), .v (.int .i64 x4.N), .v (.string x4.Text), .fz (List.map (encI .i64) x4.Files), .v (.int .i64 x4.Step)]) rfl rfl ?_; refine Zpp 10 rfl ?_; refine YT rfl rfl rfl h (fun _ h => ?_) (fun _ h => ?_)
  · refine Zwp 2 rfl ?_; refine Y2 rfl rfl rfl ?_; refine bindK h fun y6 hy6 h => ?_; refine W.call rfl (view_message_fn hy6) ?_; refine Zwc 4 rfl ?_; refine A.condB rfl h (fun _ h => ?_) (fun _ h => ?_)
    · refine Zcb 8 rfl ?_; cases h; cases hG; exact ⟨rfl, trivial⟩
    · refine Zcb 8 rfl ?_; cases h; cases hG; exact ⟨rfl, trivial⟩
  · refine Zpb 14 rfl ?_; cases h; cases hG; exact ⟨rfl, trivial⟩
noncomputable def slices_Clone_int_int_a : Option ((List Int)) :=
  some ([] : List Int)
theorem slices_Clone_int_int_a_fn {dr : Prop} {r : (List Int)} (h : slices_Clone_int_int_a = some r) : Fn dr Tryz.prog 41 [.d (.v (.slice none 0 0))] (.ow 1 (List.map (encI .i64) r)) := by
  refine Fn.of_AW (dr := dr) (F := FnX dr Tryz.prog) (base := 0) (js := []) mixed tok noeqs (fun _ _ _ h => h) Tryz.call41 Tryz.func41 rfl Tryz.ntmps41 (by rw [Tryz.results41]) (by simp) ?_; have hG : (fun x => x = r) r := rfl; unfold slices_Clone_int_int_a at h; refine Zap 2 rfl ?_; refine Zm (.row 2 1 0) (Mem.add _ 2 (.rows 1 (List.map (encI .i64) ([] : List Int)) false)) rfl rfl ?_; refine Zpp 5 rfl ?_; refine Zo (.d (.v (.slice none 0 0))) rfl rfl ?_; refine Zpp 6 rfl ?_; refine Zm (.row 2 2 0) (Mem.add _ 2 (.rows 1 (List.map (encI .i64) ([] : List Int)) false)) rfl rfl ?_; refine Zpb 4 rfl ?_; cases h; cases hG; exact ⟨rfl, rfl, trivial⟩
noncomputable def slices_Clone_int_int_b (a_ : Addr) (c_ : Nat) : Option ((List Int)) :=
  (chkO (decide (0 + ([] : List Int).length ≤ 1000000))).bind fun _ =>
  some (([] : List Int) ++ ([] : List Int))
theorem slices_Clone_int_int_b_fn {dr : Prop} {a_ : Addr} {c_ : Nat} {r : (List Int)} (h : slices_Clone_int_int_b a_ c_ = some r) : Fn dr Tryz.prog 41 [.d (.v (.slice (some a_) 0 c_))] (.ow 1 (List.map (encI .i64) r)) := by
  refine Fn.of_AW (dr := dr) (F := FnX dr Tryz.prog) (base := 0) (js := []) mixed tok noeqs (fun _ _ _ h => h) Tryz.call41 Tryz.func41 rfl Tryz.ntmps41 (by rw [Tryz.results41]) (by simp) ?_; have hG : (fun x => x = r) r := rfl; unfold slices_Clone_int_int_b at h; refine Zap 2 rfl ?_; refine Zm (.row 2 1 0) (Mem.add _ 2 (.rows 1 (List.map (encI .i64) ([] : List Int)) false)) rfl rfl ?_; refine Zpp 5 rfl ?_; refine Zo (.d (.v (.slice (some a_) 0 c_))) rfl rfl ?_; refine Zpp 8 rfl ?_; refine Zm (.row 5 1 0) (Mem.add _ 5 (.rows 1 (List.map (encI .i64) ([] : List Int)) false)) rfl rfl ?_; refine Zo (.d (.v (.slice (some a_) 0 c_))) rfl rfl ?_; refine Y1 rfl ?_; refine chkK h fun g1 h => ?_; refine W.chk rfl ⟨fun _ hc => (by cases hc), of_decide_eq_true g1⟩ ?_; refine W.rows (0 + (List.map (encI .i64) ([] : List Int)).length) (([] : List Int) ++ ([] : List Int)).length ([] ++ (List.map (encI .i64) ([] : List Int))) (List.map (encI .i64) (([] : List Int) ++ ([] : List Int))) rfl (by first | rfl | (simp; done) | simp only [partMap, List.length_map, List.length_append, List.nil_append, Nat.zero_add, List.length_nil]) (by first | rfl | (simp; done) | simp only [partMap, List.map_append, List.nil_append, List.map_nil]) ?_; refine Zo (.row 5 2 (([] : List Int) ++ ([] : List Int)).length) rfl rfl ?_; refine Zpb 3 rfl ?_; cases h; cases hG; exact ⟨rfl, rfl, trivial⟩
noncomputable def slices_Clone_int_int_c (x_ : Int) (s_ : (List Int)) : Option ((List Int)) :=
  (chkO (decide (0 + (x_ :: s_).length ≤ 1000000))).bind fun _ =>
  some (([] : List Int) ++ (x_ :: s_))
theorem slices_Clone_int_int_c_fn {dr : Prop} {x_ : Int} {s_ : (List Int)} {r : (List Int)} (h : slices_Clone_int_int_c x_ s_ = some r) : Fn dr Tryz.prog 41 [VF (List.map (encI .i64) (x_ :: s_))] (.ow 1 (List.map (encI .i64) r)) := by
  refine Fn.of_AW (dr := dr) (F := FnX dr Tryz.prog) (base := 0) (js := []) mixed tok noeqs (fun _ _ _ h => h) Tryz.call41 Tryz.func41 rfl Tryz.ntmps41 (by rw [Tryz.results41]) (by simp) ?_; have hG : (fun x => x = r) r := rfl; unfold slices_Clone_int_int_c at h; refine Zap 2 rfl ?_; refine Zm (.row 2 1 0) (Mem.add _ 2 (.rows 1 (List.map (encI .i64) ([] : List Int)) false)) rfl rfl ?_; refine Zpp 14 rfl ?_; refine Zm (.row 5 1 0) (Mem.add _ 5 (.rows 1 (List.map (encI .i64) ([] : List Int)) false)) rfl rfl ?_; refine Zpp 1 rfl ?_; refine Y1 rfl ?_; refine chkK h fun g1 h => ?_; refine W.chk rfl (appChk (fun _ => rfl) g1) ?_; refine W.rows (0 + (List.map (encI .i64) (x_ :: s_)).length) (([] : List Int) ++ (x_ :: s_)).length ([] ++ (List.map (encI .i64) (x_ :: s_))) (List.map (encI .i64) (([] : List Int) ++ (x_ :: s_))) rfl (by first | rfl | (simp; done) | simp only [partMap, List.length_map, List.length_append, List.nil_append, Nat.zero_add, List.length_nil]) (by first | rfl | (simp; done) | simp only [partMap, List.map_append, List.nil_append, List.map_nil]) ?_; refine Zo (.row 5 2 (([] : List Int) ++ (x_ :: s_)).length) rfl rfl ?_; refine Zpb 3 rfl ?_; cases h; cases hG; exact ⟨rfl, rfl, trivial⟩
noncomputable def slices_Clone_int_int (s_ : List Int) : Option (List Int) := (chkO (decide (s_.length ≤ 1000000))).bind fun _ => some s_
theorem slices_Clone_int_int_fn {dr : Prop} {s_ r : List Int} (h : slices_Clone_int_int s_ = some r) : Fn dr Tryz.prog 41 [VF (List.map (encI .i64) s_)] (.ow 1 (List.map (encI .i64) r)) := by
  have e : s_ = r := cloneE h
  subst e
  cases s_ with
  | nil => exact Fn.slice0 (slices_Clone_int_int_a_fn rfl) fun a c => slices_Clone_int_int_b_fn (a_ := a) (c_ := c) rfl
  | cons x s =>
    refine slices_Clone_int_int_c_fn ?_; unfold slices_Clone_int_int at h; unfold slices_Clone_int_int_c
    simpa only [List.nil_append, Nat.zero_add] using h
structure api_Profile where
  Name : ByteArray
  Edit : Int
  Within : Int
  Delete : Int
  React : Bool
  Thread : Int
  Quote : Bool
  Mention : Bool
  Size : Int
  Parts : Int
  Files : Int
  Bytes : Int
  Types : (List ByteArray)
  Join : Int
  History : Int
  Remove : Int
  Level : Int
  Batch : Bool
  Rate : Int
  Down : Int
  Window : Int
  Keep : Int
def api_Profile.enc (x : api_Profile) : List D := [.v (.string x.Name), .v (.int .i64 x.Edit), .v (.int .i64 x.Within), .v (.int .i64 x.Delete), .v (.bool x.React), .v (.int .i64 x.Thread), .v (.bool x.Quote), .v (.bool x.Mention), .v (.int .i64 x.Size), .v (.int .i64 x.Parts), .v (.int .i64 x.Files), .v (.int .i64 x.Bytes), .fz (List.map encS x.Types), .v (.int .i64 x.Join), .v (.int .i64 x.History), .v (.int .i64 x.Remove), .v (.int .i64 x.Level), .v (.bool x.Batch), .v (.int .i64 x.Rate), .v (.int .i64 x.Down), .v (.int .i64 x.Window), .v (.int .i64 x.Keep)]
abbrev api_Profile.av (x : api_Profile) : List AV := [VS x.Name, VI x.Edit, VI x.Within, VI x.Delete, VB x.React, VI x.Thread, VB x.Quote, VB x.Mention, VI x.Size, VI x.Parts, VI x.Files, VI x.Bytes, VF (List.map encS x.Types), VI x.Join, VI x.History, VI x.Remove, VI x.Level, VB x.Batch, VI x.Rate, VI x.Down, VI x.Window, VI x.Keep]
noncomputable def law21_plain : Option (api_Profile) :=
  some (api_Profile.mk (ByteArray.mk #[110]) (0 : Int) (0 : Int) (2 : Int) false (0 : Int) false false (40 : Int) (3 : Int) (0 : Int) (0 : Int) ([] : List ByteArray) (0 : Int) (0 : Int) (0 : Int) (0 : Int) false (1 : Int) (0 : Int) (1 : Int) (0 : Int))
theorem law21_plain_fn {dr : Prop} {r : api_Profile} (h : law21_plain = some r) : Fn dr Tryz.prog 16 [] (.agg [VS r.Name, VI r.Edit, VI r.Within, VI r.Delete, VB r.React, VI r.Thread, VB r.Quote, VB r.Mention, VI r.Size, VI r.Parts, VI r.Files, VI r.Bytes, .ow 1 (List.map encS r.Types), VI r.Join, VI r.History, VI r.Remove, VI r.Level, VB r.Batch, VI r.Rate, VI r.Down, VI r.Window, VI r.Keep]) := by
  refine Fn.of_AW (dr := dr) (F := FnX dr Tryz.prog) (base := 0) (js := []) mixed tok noeqs (fun _ _ _ h => h) Tryz.call16 Tryz.func16 rfl Tryz.ntmps16 (by rw [Tryz.results16]) (by simp) ?_; have hG : (fun x => x = r) r := rfl; unfold law21_plain at h; refine Zap 2 rfl ?_; refine Zm (.lp 0 1 0) (Mem.add (Mem.add _ 851968 (.rows 1 (List.map encS ([] : List ByteArray)) false)) 0 (.box [VS (ByteArray.mk #[]), VI 0, VI 0, VI 0, VB false, VI 0, VB false, VB false, VI 0, VI 0, VI 0, VI 0, .row 851968 1 0, VI 0, VI 0, VI 0, VI 0, VB false, VI 0, VI 0, VI 0, VI 0])) rfl rfl ?_; refine Zpp 4 rfl ?_; refine Zo (.agg [VS (ByteArray.mk #[110]), VI 0, VI 0, VI 2, VB false, VI 0, VB false, VB false, VI 40, VI 3, VI 0, VI 0, .nl, VI 0, VI 0, VI 0, VI 0, VB false, VI 1, VI 0, VI 1, VI 0]) rfl rfl ?_; refine Zm (.tup []) (Mem.set (Mem.add _ 1900544 (.rows 1 (List.map encS ([] : List ByteArray)) false)) 0 1 (some (.box [VS (ByteArray.mk #[110]), VI 0, VI 0, VI 2, VB false, VI 0, VB false, VB false, VI 40, VI 3, VI 0, VI 0, .row 1900544 1 0, VI 0, VI 0, VI 0, VI 0, VB false, VI 1, VI 0, VI 1, VI 0]))) rfl rfl ?_; refine Zpb 3 rfl ?_; cases h; cases hG; exact ⟨rfl, rfl, rfl, rfl, rfl, rfl, rfl, rfl, rfl, rfl, rfl, rfl, rfl, rfl, rfl, rfl, rfl, rfl, rfl, rfl, rfl, rfl, rfl, trivial⟩
noncomputable def law21_act (kind_ : Int) (target_ : Int) (n_ : Int) (text_ : ByteArray) : Option (api_Event) :=
  some (api_Event.mk (1 : Int) (0 : Int) ([] : List Int) kind_ (0 : Int) target_ (-1 : Int) (-1 : Int) n_ text_ ([] : List Int) (0 : Int))
theorem law21_act_fn {dr : Prop} {kind_ : Int} {target_ : Int} {n_ : Int} {text_ : ByteArray} {r : api_Event} (h : law21_act kind_ target_ n_ text_ = some r) : Fn dr Tryz.prog 48 [VI kind_, VI target_, VI n_, VS text_] (.agg [VI r.Author, VI r.Seq, .ow 1 (List.map (encI .i64) r.Causes), VI r.Kind, VI r.Group, VI r.Target, VI r.Quote, VI r.Who, VI r.N, VS r.Text, .ow 1 (List.map (encI .i64) r.Files), VI r.Step]) := by
  refine Fn.of_AW (dr := dr) (F := FnX dr Tryz.prog) (base := 0) (js := []) mixed tok noeqs (fun _ _ _ h => h) Tryz.call48 Tryz.func48 rfl Tryz.ntmps48 (by rw [Tryz.results48]) (by simp) ?_; have hG : (fun x => x = r) r := rfl; unfold law21_act at h; refine Zap 2 rfl ?_; refine Zm (.lp 8 1 0) (Mem.add (Mem.add (Mem.add _ 196616 (.rows 1 (List.map (encI .i64) ([] : List Int)) false)) 720904 (.rows 1 (List.map (encI .i64) ([] : List Int)) false)) 8 (.box [VI 0, VI 0, .row 196616 1 0, VI 0, VI 0, VI 0, VI 0, VI 0, VI 0, VS (ByteArray.mk #[]), .row 720904 1 0, VI 0])) rfl rfl ?_; refine Zpp 8 rfl ?_; refine Zo (.agg [VI 1, VI 0, .nl, VI kind_, VI 0, VI target_, VI (-1), VI (-1), VI n_, VS text_, .nl, VI 0]) rfl rfl ?_; refine Zm (.tup []) (Mem.set (Mem.add (Mem.add _ 1245192 (.rows 1 (List.map (encI .i64) ([] : List Int)) false)) 1769480 (.rows 1 (List.map (encI .i64) ([] : List Int)) false)) 8 1 (some (.box [VI 1, VI 0, .row 1245192 1 0, VI kind_, VI 0, VI target_, VI (-1), VI (-1), VI n_, VS text_, .row 1769480 1 0, VI 0]))) rfl rfl ?_; refine Zpb 3 rfl ?_; cases h; cases hG; exact ⟨rfl, rfl, rfl, rfl, rfl, rfl, rfl, rfl, rfl, rfl, rfl, rfl, rfl, rfl, trivial⟩
noncomputable def law21_story : Option ((List api_Event)) :=
  (law21_act (0 : Int) (-1 : Int) (0 : Int) (ByteArray.mk #[104, 101, 108, 108, 111])).bind fun y1 =>
  (law21_act (0 : Int) (0 : Int) (0 : Int) (ByteArray.mk #[121, 101, 115])).bind fun y2 =>
  (law21_act (1 : Int) (0 : Int) (0 : Int) (ByteArray.mk #[104, 117, 108, 108, 111])).bind fun y3 =>
  (law21_act (3 : Int) (0 : Int) (7 : Int) (ByteArray.mk #[])).bind fun y4 =>
  (law21_act (2 : Int) (0 : Int) (0 : Int) (ByteArray.mk #[])).bind fun y5 =>
  some [y1, y2, y3, y4, y5]
theorem law21_story_fn {dr : Prop} {r : (List api_Event)} (h : law21_story = some r) : Fn dr Tryz.prog 17 [] (.ow 12 (List.map api_Event.enc r)) := by
  refine Fn.of_AW (dr := dr) (F := FnX dr Tryz.prog) (base := 0) (js := []) mixed tok noeqs (fun _ _ _ h => h) Tryz.call17 Tryz.func17 rfl Tryz.ntmps17 (by rw [Tryz.results17]) (by simp) ?_; have hG : (fun x => x = r) r := rfl; unfold law21_story at h; refine Zap 2 rfl ?_; refine Zm (.row 0 1 0) (Mem.add _ 0 (.rows 12 (List.map api_Event.enc ([] : List api_Event)) false)) rfl rfl ?_; refine Zpp 4 rfl ?_; refine Y1 rfl ?_; refine bindK h fun y1 hy1 h => ?_; refine W.call rfl (law21_act_fn hy1) ?_; refine W.v (.agg [VI y1.Author, VI y1.Seq, .row 196609 1 (List.map (encI .i64) y1.Causes).length, VI y1.Kind, VI y1.Group, VI y1.Target, VI y1.Quote, VI y1.Who, VI y1.N, VS y1.Text, .row 720897 1 (List.map (encI .i64) y1.Files).length, VI y1.Step]) (.agg [VI y1.Author, VI y1.Seq, .row 196609 1 y1.Causes.length, VI y1.Kind, VI y1.Group, VI y1.Target, VI y1.Quote, VI y1.Who, VI y1.N, VS y1.Text, .row 720897 1 y1.Files.length, VI y1.Step]) (Mem.add (Mem.add _ 196609 (.rows 1 (List.map (encI .i64) y1.Causes) false)) 720897 (.rows 1 (List.map (encI .i64) y1.Files) false)) rfl (by simp only [List.length_map]) ?_; refine Y1 rfl ?_; refine bindK h fun y2 hy2 h => ?_; refine W.call rfl (law21_act_fn hy2) ?_; refine W.v (.agg [VI y2.Author, VI y2.Seq, .row 196610 1 (List.map (encI .i64) y2.Causes).length, VI y2.Kind, VI y2.Group, VI y2.Target, VI y2.Quote, VI y2.Who, VI y2.N, VS y2.Text, .row 720898 1 (List.map (encI .i64) y2.Files).length, VI y2.Step]) (.agg [VI y2.Author, VI y2.Seq, .row 196610 1 y2.Causes.length, VI y2.Kind, VI y2.Group, VI y2.Target, VI y2.Quote, VI y2.Who, VI y2.N, VS y2.Text, .row 720898 1 y2.Files.length, VI y2.Step]) (Mem.add (Mem.add _ 196610 (.rows 1 (List.map (encI .i64) y2.Causes) false)) 720898 (.rows 1 (List.map (encI .i64) y2.Files) false)) rfl (by simp only [List.length_map]) ?_; refine Y1 rfl ?_; refine bindK h fun y3 hy3 h => ?_; refine W.call rfl (law21_act_fn hy3) ?_; refine W.v (.agg [VI y3.Author, VI y3.Seq, .row 196611 1 (List.map (encI .i64) y3.Causes).length, VI y3.Kind, VI y3.Group, VI y3.Target, VI y3.Quote, VI y3.Who, VI y3.N, VS y3.Text, .row 720899 1 (List.map (encI .i64) y3.Files).length, VI y3.Step]) (.agg [VI y3.Author, VI y3.Seq, .row 196611 1 y3.Causes.length, VI y3.Kind, VI y3.Group, VI y3.Target, VI y3.Quote, VI y3.Who, VI y3.N, VS y3.Text, .row 720899 1 y3.Files.length, VI y3.Step]) (Mem.add (Mem.add _ 196611 (.rows 1 (List.map (encI .i64) y3.Causes) false)) 720899 (.rows 1 (List.map (encI .i64) y3.Files) false)) rfl (by simp only [List.length_map]) ?_; refine Y1 rfl ?_; refine bindK h fun y4 hy4 h => ?_; refine W.call rfl (law21_act_fn hy4) ?_; refine W.v (.agg [VI y4.Author, VI y4.Seq, .row 196612 1 (List.map (encI .i64) y4.Causes).length, VI y4.Kind, VI y4.Group, VI y4.Target, VI y4.Quote, VI y4.Who, VI y4.N, VS y4.Text, .row 720900 1 (List.map (encI .i64) y4.Files).length, VI y4.Step]) (.agg [VI y4.Author, VI y4.Seq, .row 196612 1 y4.Causes.length, VI y4.Kind, VI y4.Group, VI y4.Target, VI y4.Quote, VI y4.Who, VI y4.N, VS y4.Text, .row 720900 1 y4.Files.length, VI y4.Step]) (Mem.add (Mem.add _ 196612 (.rows 1 (List.map (encI .i64) y4.Causes) false)) 720900 (.rows 1 (List.map (encI .i64) y4.Files) false)) rfl (by simp only [List.length_map]) ?_
  refine Y1 rfl ?_; refine bindK h fun y5 hy5 h => ?_; refine W.call rfl (law21_act_fn hy5) ?_; refine W.v (.agg [VI y5.Author, VI y5.Seq, .row 196613 1 (List.map (encI .i64) y5.Causes).length, VI y5.Kind, VI y5.Group, VI y5.Target, VI y5.Quote, VI y5.Who, VI y5.N, VS y5.Text, .row 720901 1 (List.map (encI .i64) y5.Files).length, VI y5.Step]) (.agg [VI y5.Author, VI y5.Seq, .row 196613 1 y5.Causes.length, VI y5.Kind, VI y5.Group, VI y5.Target, VI y5.Quote, VI y5.Who, VI y5.N, VS y5.Text, .row 720901 1 y5.Files.length, VI y5.Step]) (Mem.add (Mem.add _ 196613 (.rows 1 (List.map (encI .i64) y5.Causes) false)) 720901 (.rows 1 (List.map (encI .i64) y5.Files) false)) rfl (by simp only [List.length_map]) ?_; refine Zm (.row 6 1 5) (Mem.add (Mem.set (Mem.set (Mem.set (Mem.set (Mem.set (Mem.set (Mem.set (Mem.set (Mem.set (Mem.set _ 196609 1 (some (.rows 1 (List.map (encI .i64) y1.Causes) true))) 720897 1 (some (.rows 1 (List.map (encI .i64) y1.Files) true))) 196610 1 (some (.rows 1 (List.map (encI .i64) y2.Causes) true))) 720898 1 (some (.rows 1 (List.map (encI .i64) y2.Files) true))) 196611 1 (some (.rows 1 (List.map (encI .i64) y3.Causes) true))) 720899 1 (some (.rows 1 (List.map (encI .i64) y3.Files) true))) 196612 1 (some (.rows 1 (List.map (encI .i64) y4.Causes) true))) 720900 1 (some (.rows 1 (List.map (encI .i64) y4.Files) true))) 196613 1 (some (.rows 1 (List.map (encI .i64) y5.Causes) true))) 720901 1 (some (.rows 1 (List.map (encI .i64) y5.Files) true))) 6 (.rows 12 (List.map api_Event.enc [y1, y2, y3, y4, y5]) false)) rfl rfl ?_; refine Zo (.row 6 1 5) rfl rfl ?_; refine Zpb 3 rfl ?_; cases h; cases hG; exact ⟨rfl, rfl, trivial⟩
noncomputable def lex_letter (c_ : Int) : Option (Bool) :=
  (bif (decide ((97 : Int) ≤ c_)) then
    some (decide (c_ ≤ (122 : Int)))
  else
    some false)
theorem lex_letter_fn {dr : Prop} {c_ : Int} {r : Bool} (h : lex_letter c_ = some r) : Fn dr Tryz.prog 106 [.d (.v (.int .u8 c_))] (VB r) := by
  refine Fn.of_AW (dr := dr) (F := FnX dr Tryz.prog) (base := 0) (js := []) mixed tok noeqs (fun _ _ _ h => h) Tryz.call106 Tryz.func106 rfl Tryz.ntmps106 (by rw [Tryz.results106]) (by simp) ?_; have hG : (fun x => x = r) r := rfl; unfold lex_letter at h; refine Zap 10 rfl ?_; refine YT rfl rfl rfl h (fun _ h => ?_) (fun _ h => ?_)
  · refine Zwb 7 rfl ?_; cases h; cases hG; exact ⟨rfl, trivial⟩
  · refine Zpb 6 rfl ?_; cases h; cases hG; exact ⟨rfl, trivial⟩
noncomputable def lex_span_L1 (s_ : ByteArray) (is_ : (Int → Option (Bool))) (s3 : Int) : Option ((Int) ⊕ ((Int) ⊕ (Int))) :=
  (bif (decide (s3 < (s_.size : Int))) then
    (chkO (decide (0 ≤ s3) && decide (s3 < (s_.size : Int)))).bind fun _ =>
    (is_ ((s_.data.toList.getD s3.toNat 0).toNat : Int)).bind fun y24 =>
    (bif y24 then
      some (.inl (IntKind.i64.wrap (s3 + (1 : Int))))
    else
      some (.inr (.inl s3)))
  else
    some (.inr (.inl s3)))
noncomputable def lex_span (s_ : ByteArray) (is_ : (Int → Option (Bool))) : Option (Int) :=
  (seqF (A := Int) (
    loopF (lex_span_L1 s_ is_) (0 : Int))
  fun s2 =>
    some s2)
theorem lex_span_fn {dr : Prop} {s_ : ByteArray} {is_ : (Int → Option (Bool))} {is_F : FuncId} {is_C : List AV} (is_H : is_C.all capd = true) (is_P : ∀ (q0 : Int) (z : Bool), is_ q0 = some z → Fn dr Tryz.prog is_F ([.d (.v (.int .u8 q0))] ++ is_C) (VB z)) {r : Int} (h : lex_span s_ is_ = some r) : Fn dr Tryz.prog 107 [VS s_, .fn is_F is_C] (VI r) := by
  refine Fn.of_AW (dr := dr) (F := FnX dr Tryz.prog) (base := 0) (js := [4]) mixed tok noeqs (fun _ _ _ h => h) Tryz.call107 Tryz.func107 rfl Tryz.ntmps107 (by rw [Tryz.results107]) (by simp) ?_; have hG : (fun x => x = r) r := rfl; unfold lex_span at h; refine Zac 10 rfl ?_; refine A.join (fun (s2 : Int) => [(5, VI s2)]) (fun s2 => []) _ h hG rfl ?_ ?_
  · intro J f h hG; refine Zac 1 rfl ?_; refine A.loop (fun (s3 : Int) => [(0, VS s_), (1, .fn is_F is_C), (5, VI s3)]) (fun s3 => []) _ h hG (Zf [] [] rfl rfl (Ze rfl rfl (chkE.g is_H rfl (Ze rfl rfl trivial))) trivial) ?_; intro J s3 f h hG; unfold lex_span_L1 at h; refine Zap 8 rfl ?_; refine YT rfl rfl rfl h (fun _ h => ?_) (fun _ h => ?_)
    · refine W.det (.fn is_F is_C) _ rfl ?_; refine Zpp 2 rfl ?_; refine Y2 rfl rfl rfl ?_; refine chkK h fun g23 h => ?_; refine W.chk rfl (by simpa using g23) ?_; refine W.det (.d (.v (.int .u8 ((s_.data.toList.getD s3.toNat 0).toNat : Int)))) _ rfl ?_; refine Y2 rfl rfl rfl ?_; refine bindK h fun y24 hy24 h => ?_; refine callG rfl rfl rfl is_H ?_; refine W.call rfl (is_P _ _ hy24) ?_; refine Zwc 4 rfl ?_; refine A.condB rfl h (fun _ h => ?_) (fun _ h => ?_)
      · refine Zcb 9 rfl ?_; cases h; exact Zh hG [] [] rfl rfl (Ze rfl rfl (chkE.g is_H rfl (Ze rfl rfl trivial))) trivial
      · refine Zcb 2 rfl ?_; refine headK.e ?_; refine Zob 1 rfl ?_; cases h; exact Zh hG [] [] rfl rfl (Ze rfl rfl trivial) trivial
    · refine Zpb 10 rfl ?_; refine headK.e ?_; refine Zob 1 rfl ?_; cases h; exact Zh hG [] [] rfl rfl (Ze rfl rfl trivial) trivial
  · intro s2 r2 h hG; refine Zcb 7 rfl ?_; cases h; cases hG; exact ⟨rfl, trivial⟩
noncomputable def lex_digit (c_ : Int) : Option (Bool) :=
  (bif (decide ((48 : Int) ≤ c_)) then
    some (decide (c_ ≤ (57 : Int)))
  else
    some false)
theorem lex_digit_fn {dr : Prop} {c_ : Int} {r : Bool} (h : lex_digit c_ = some r) : Fn dr Tryz.prog 109 [.d (.v (.int .u8 c_))] (VB r) := by
  refine Fn.of_AW (dr := dr) (F := FnX dr Tryz.prog) (base := 0) (js := []) mixed tok noeqs (fun _ _ _ h => h) Tryz.call109 Tryz.func109 rfl Tryz.ntmps109 (by rw [Tryz.results109]) (by simp) ?_; have hG : (fun x => x = r) r := rfl; unfold lex_digit at h; refine Zap 10 rfl ?_; refine YT rfl rfl rfl h (fun _ h => ?_) (fun _ h => ?_)
  · refine Zwb 7 rfl ?_; cases h; cases hG; exact ⟨rfl, trivial⟩
  · refine Zpb 6 rfl ?_; cases h; cases hG; exact ⟨rfl, trivial⟩
noncomputable def lex_Word_1 (c_ : Int) : Option (Bool) :=
  (lex_letter c_).bind fun y1 =>
  (bif y1 then
    some true
  else
    (lex_digit c_).bind fun y2 =>
    some y2)
theorem lex_Word_1_fn {dr : Prop} {c_ : Int} {r : Bool} (h : lex_Word_1 c_ = some r) : Fn dr Tryz.prog 108 [.d (.v (.int .u8 c_))] (VB r) := by
  refine Fn.of_AW (dr := dr) (F := FnX dr Tryz.prog) (base := 0) (js := []) mixed tok noeqs (fun _ _ _ h => h) Tryz.call108 Tryz.func108 rfl Tryz.ntmps108 (by rw [Tryz.results108]) (by simp) ?_; have hG : (fun x => x = r) r := rfl; unfold lex_Word_1 at h; refine Zap 8 rfl ?_; refine Y1 rfl ?_; refine bindK h fun y1 hy1 h => ?_; refine W.call rfl (lex_letter_fn hy1) ?_; refine Zwp 2 rfl ?_; refine YF rfl rfl rfl h (fun _ h => ?_) (fun _ h => ?_)
  · refine Zpb 6 rfl ?_; cases h; cases hG; exact ⟨rfl, trivial⟩
  · refine Zwp 1 rfl ?_; refine Y2 rfl rfl rfl ?_; refine bindK h fun y2 hy2 h => ?_; refine W.call rfl (lex_digit_fn hy2) ?_; refine Zwb 6 rfl ?_; cases h; cases hG; exact ⟨rfl, trivial⟩
noncomputable def lex_Word (s_ : ByteArray) : Option (Bool) :=
  (bif (s_.toList == (ByteArray.mk #[]).toList) then
    some false
  else
    (chkO (decide (0 ≤ (0 : Int)) && decide ((0 : Int) < (s_.size : Int)))).bind fun _ =>
    (lex_letter ((s_.data.toList.getD (0 : Int).toNat 0).toNat : Int)).bind fun y8 =>
    (bif (!y8) then
      some false
    else
      (bif (decide ((20 : Int) < (s_.size : Int))) then
        some false
      else
        (lex_span s_ lex_Word_1).bind fun y9 =>
        some (y9 == (s_.size : Int)))))
theorem lex_Word_fn {dr : Prop} {s_ : ByteArray} {r : Bool} (h : lex_Word s_ = some r) : Fn dr Tryz.prog 73 [VS s_] (VB r) := by
  refine Fn.of_AW (dr := dr) (F := FnX dr Tryz.prog) (base := 0) (js := []) mixed tok noeqs (fun _ _ _ h => h) Tryz.call73 Tryz.func73 rfl Tryz.ntmps73 (by rw [Tryz.results73]) (by simp) ?_; have hG : (fun x => x = r) r := rfl; unfold lex_Word at h; refine Zap 11 rfl ?_; refine YF rfl rfl rfl h (fun _ h => ?_) (fun _ h => ?_)
  · refine Zpb 19 rfl ?_; cases h; cases hG; exact ⟨rfl, trivial⟩
  · refine Zwp 1 rfl ?_; refine Y2 rfl rfl rfl ?_; refine chkK h fun g7 h => ?_; refine W.chk rfl (by simpa using g7) ?_; refine W.det (.d (.v (.int .u8 ((s_.data.toList.getD (0 : Int).toNat 0).toNat : Int)))) _ rfl ?_; refine Y2 rfl rfl rfl ?_; refine bindK h fun y8 hy8 h => ?_; refine W.call rfl (lex_letter_fn hy8) ?_; refine Zwp 4 rfl ?_; refine YF rfl rfl rfl h (fun _ h => ?_) (fun _ h => ?_)
    · refine Zpb 13 rfl ?_; cases h; cases hG; exact ⟨rfl, trivial⟩
    · refine Zwc 6 rfl ?_; refine A.condB rfl h (fun _ h => ?_) (fun _ h => ?_)
      · refine Zcb 7 rfl ?_; cases h; cases hG; exact ⟨rfl, trivial⟩
      · refine Zcp 5 rfl ?_; refine Y1 rfl ?_; refine bindK h fun y9 hy9 h => ?_; refine W.call rfl (lex_span_fn (is_F := 108) (is_C := []) rfl (fun _ _ h => lex_Word_1_fn h) hy9) ?_; refine Zwb 8 rfl ?_; cases h; cases hG; exact ⟨rfl, trivial⟩
noncomputable def slices_IndexFunc_string_string_L1 (s_ : (List ByteArray)) (f_ : (ByteArray → Option (Bool))) (s3 : Int) : Option ((Int) ⊕ ((Unit) ⊕ (Int))) :=
  (bif (decide (s3 < (s_.length : Int))) then
    (getI s_ s3).bind fun x23 =>
    (f_ x23).bind fun y24 =>
    (bif y24 then
      some (.inr (.inr s3))
    else
      some (.inl (IntKind.i64.wrap (s3 + (1 : Int)))))
  else
    some (.inr (.inl ())))
noncomputable def slices_IndexFunc_string_string (s_ : (List ByteArray)) (f_ : (ByteArray → Option (Bool))) : Option (Int) :=
  (seqF (A := Unit) (
    loopF (slices_IndexFunc_string_string_L1 s_ f_) (0 : Int))
  fun s2 =>
    some (-1 : Int))
theorem slices_IndexFunc_string_string_fn {dr : Prop} {s_ : (List ByteArray)} {f_ : (ByteArray → Option (Bool))} {f_F : FuncId} {f_C : List AV} (f_H : f_C.all capd = true) (f_P : ∀ (q0 : ByteArray) (z : Bool), f_ q0 = some z → Fn dr Tryz.prog f_F ([VS q0] ++ f_C) (VB z)) {r : Int} (h : slices_IndexFunc_string_string s_ f_ = some r) : Fn dr Tryz.prog 110 [VF (List.map encS s_), .fn f_F f_C] (VI r) := by
  refine Fn.of_AW (dr := dr) (F := FnX dr Tryz.prog) (base := 0) (js := [7]) mixed tok noeqs (fun _ _ _ h => h) Tryz.call110 Tryz.func110 rfl Tryz.ntmps110 (by rw [Tryz.results110]) (by simp) ?_; have hG : (fun x => x = r) r := rfl; unfold slices_IndexFunc_string_string at h; refine Zac 5 rfl ?_; refine A.join (fun (s2 : Unit) => []) (fun s2 => []) _ h hG rfl ?_ ?_
  · intro J f h hG; refine Zap 3 rfl ?_; refine Y1 rfl ?_; refine W.len rfl ?_; refine Zpc 4 rfl ?_; refine A.loop (fun (s3 : Int) => [(0, VF (List.map encS s_)), (1, .fn f_F f_C), (7, VI (s_.length : Int)), (8, VI s3)]) (fun s3 => []) _ h hG (Zf [] [] rfl rfl (Ze rfl rfl (chkE.g f_H rfl (Ze rfl rfl (Ze rfl rfl trivial)))) trivial) ?_; intro J s3 f h hG; unfold slices_IndexFunc_string_string_L1 at h; refine Zac 6 rfl ?_; refine A.condB rfl h (fun _ h => ?_) (fun _ h => ?_)
    · refine Zcp 12 rfl ?_; refine Zo (.fn f_F f_C) rfl rfl ?_; refine Zpp 2 rfl ?_; refine Y1 rfl ?_; refine bindK h fun x23 hx23 h => ?_; refine W.chk rfl (elemB hx23) ?_; refine W.elem rfl (elemG hx23) ?_; refine W.chk rfl rfl ?_; refine W.det (.fp [.v (.string x23)]) _ rfl ?_; refine Zpp 1 rfl ?_; refine Y1 rfl ?_; refine bindK h fun y24 hy24 h => ?_; refine callG rfl rfl rfl f_H ?_; refine W.call rfl (f_P _ _ hy24) ?_; refine Zwc 3 rfl ?_; refine A.condB rfl h (fun _ h => ?_) (fun _ h => ?_)
      · refine Zcb 9 rfl ?_; refine headK.r ?_; refine Zob 1 rfl ?_; refine headK.r ?_; cases h; cases hG; exact ⟨rfl, trivial⟩
      · refine Zcb 7 rfl ?_; cases h; exact Zh hG [] [] rfl rfl (Ze rfl rfl (chkE.g f_H rfl (Ze rfl rfl (Ze rfl rfl trivial)))) trivial
    · refine Zcb 2 rfl ?_; refine headK.e ?_; refine Zob 1 rfl ?_; cases h; exact Zh hG [] [] rfl rfl trivial trivial
  · intro s2 r2 h hG; refine Zcb 6 rfl ?_; cases h; cases hG; exact ⟨rfl, trivial⟩
noncomputable def slices_ContainsFunc_string_string (s_ : (List ByteArray)) (f_ : (ByteArray → Option (Bool))) : Option (Bool) :=
  (slices_IndexFunc_string_string s_ f_).bind fun y1 =>
  some (decide ((0 : Int) ≤ y1))
theorem slices_ContainsFunc_string_string_fn {dr : Prop} {s_ : (List ByteArray)} {f_ : (ByteArray → Option (Bool))} {f_F : FuncId} {f_C : List AV} (f_H : f_C.all capd = true) (f_P : ∀ (q0 : ByteArray) (z : Bool), f_ q0 = some z → Fn dr Tryz.prog f_F ([VS q0] ++ f_C) (VB z)) {r : Bool} (h : slices_ContainsFunc_string_string s_ f_ = some r) : Fn dr Tryz.prog 74 [VF (List.map encS s_), .fn f_F f_C] (VB r) := by
  refine Fn.of_AW (dr := dr) (F := FnX dr Tryz.prog) (base := 0) (js := []) mixed tok noeqs (fun _ _ _ h => h) Tryz.call74 Tryz.func74 rfl Tryz.ntmps74 (by rw [Tryz.results74]) (by simp) ?_; have hG : (fun x => x = r) r := rfl; unfold slices_ContainsFunc_string_string at h; refine Zap 8 rfl ?_; refine Zo (.fn f_F f_C) rfl rfl ?_; refine Y1 rfl ?_; refine bindK h fun y1 hy1 h => ?_; refine callZ [some (VF (List.map encS s_))] rfl rfl rfl rfl f_H ?_; refine W.call rfl (slices_IndexFunc_string_string_fn (f_F := f_F) (f_C := f_C) f_H f_P hy1) ?_; refine Zwb 6 rfl ?_; cases h; cases hG; exact ⟨rfl, trivial⟩
noncomputable def syntax_Right_1 (s_ : ByteArray) : Option (Bool) :=
  (lex_Word s_).bind fun y1 =>
  some (!y1)
theorem syntax_Right_1_fn {dr : Prop} {s_ : ByteArray} {r : Bool} (h : syntax_Right_1 s_ = some r) : Fn dr Tryz.prog 75 [VS s_] (VB r) := by
  refine Fn.of_AW (dr := dr) (F := FnX dr Tryz.prog) (base := 0) (js := []) mixed tok noeqs (fun _ _ _ h => h) Tryz.call75 Tryz.func75 rfl Tryz.ntmps75 (by rw [Tryz.results75]) (by simp) ?_; have hG : (fun x => x = r) r := rfl; unfold syntax_Right_1 at h; refine Zap 8 rfl ?_; refine Y1 rfl ?_; refine bindK h fun y1 hy1 h => ?_; refine W.call rfl (lex_Word_fn hy1) ?_; refine Zwb 6 rfl ?_; cases h; cases hG; exact ⟨rfl, trivial⟩
noncomputable def syntax_Right_L1 (p_ : api_Profile) (s3 : Int) : Option ((Int) ⊕ ((Unit) ⊕ (Bool))) :=
  (bif (decide (s3 < ((9 : Nat) : Int))) then
    (chkO (decide (0 ≤ s3) && decide (s3 < (([p_.Within, p_.Size, p_.Parts, p_.Files, p_.Bytes, p_.Rate, p_.Down, p_.Window, p_.Keep].length : Nat) : Int)))).bind fun _ =>
    (getI [p_.Within, p_.Size, p_.Parts, p_.Files, p_.Bytes, p_.Rate, p_.Down, p_.Window, p_.Keep] s3).bind fun x24 =>
    (bif (decide (x24 < (0 : Int))) then
      some (.inr (.inr false))
    else
      (bif (decide ((1073741824 : Int) < x24)) then
        some (.inr (.inr false))
      else
        some (.inl (IntKind.i64.wrap (s3 + (1 : Int))))))
  else
    some (.inr (.inl ())))
noncomputable def syntax_Right_L2 (p_ : api_Profile) (s6 : Int) : Option ((Int) ⊕ ((Unit) ⊕ (Bool))) :=
  (bif (decide (s6 < ((6 : Nat) : Int))) then
    (chkO (decide (0 ≤ s6) && decide (s6 < (([(Arr2_Int.mk p_.Delete (3 : Int)), (Arr2_Int.mk p_.Thread (3 : Int)), (Arr2_Int.mk p_.Join (3 : Int)), (Arr2_Int.mk p_.History (2 : Int)), (Arr2_Int.mk p_.Remove (2 : Int)), (Arr2_Int.mk p_.Level (5 : Int))].length : Nat) : Int)))).bind fun _ =>
    (getI [(Arr2_Int.mk p_.Delete (3 : Int)), (Arr2_Int.mk p_.Thread (3 : Int)), (Arr2_Int.mk p_.Join (3 : Int)), (Arr2_Int.mk p_.History (2 : Int)), (Arr2_Int.mk p_.Remove (2 : Int)), (Arr2_Int.mk p_.Level (5 : Int))] s6).bind fun x48 =>
    (bif (decide (x48.a0 < (0 : Int))) then
      some (.inr (.inr false))
    else
      (bif (decide (x48.a1 ≤ x48.a0)) then
        some (.inr (.inr false))
      else
        some (.inl (IntKind.i64.wrap (s6 + (1 : Int))))))
  else
    some (.inr (.inl ())))
noncomputable def syntax_Right (p_ : api_Profile) : Option (Bool) :=
  (seqF (A := Unit) (
    loopF (syntax_Right_L1 p_) (0 : Int))
  fun s2 =>
    (seqF (A := Unit) (
      loopF (syntax_Right_L2 p_) (0 : Int))
    fun s5 =>
      (seqF (A := Bool) (
        (lex_Word p_.Name).bind fun y52 =>
        (bif (!y52) then
          some (.inl (!y52))
        else
          (bif (p_.Edit != (0 : Int)) then
            (bif (p_.Edit != (2 : Int)) then
              some (.inl (p_.Edit != (2 : Int)))
            else
              (bif (p_.Edit == (0 : Int)) then
                some (.inl (decide ((0 : Int) < p_.Within)))
              else
                some (.inl false)))
          else
            (bif (p_.Edit == (0 : Int)) then
              some (.inl (decide ((0 : Int) < p_.Within)))
            else
              some (.inl false)))))
      fun s8 =>
        (bif s8 then
          some false
        else
          (bif (p_.Files == (0 : Int)) then
            (bif (p_.Bytes == (0 : Int)) then
              some ((p_.Types.length : Int) == (0 : Int))
            else
              some false)
          else
            (bif (decide ((1 : Int) ≤ (p_.Types.length : Int))) then
              (bif (decide ((p_.Types.length : Int) ≤ (20 : Int))) then
                (slices_ContainsFunc_string_string p_.Types syntax_Right_1).bind fun y53 =>
                some (!y53)
              else
                some false)
            else
              some false))))))
theorem syntax_Right_fn {dr : Prop} {p_ : api_Profile} {r : Bool} (h : syntax_Right p_ = some r) : Fn dr Tryz.prog 50 [.agg (api_Profile.av p_)] (VB r) := by
  refine Fn.of_AW (dr := dr) (F := FnX dr Tryz.prog) (base := 0) (js := [7, 13, 16]) mixed tok noeqs (fun _ _ _ h => h) Tryz.call50 Tryz.func50 rfl Tryz.ntmps50 (by rw [Tryz.results50]) (by simp) ?_; have hG : (fun x => x = r) r := rfl; unfold syntax_Right at h; refine Zap 2 rfl ?_; refine Zm (.lp 1 1 0) (Mem.add _ 1 (.box (api_Profile.av p_))) rfl rfl ?_; refine Zpc 3 rfl ?_; refine A.join (fun (s2 : Unit) => [(1, .lp 900000 1 0)]) (fun s2 => [(900000, .box (api_Profile.av p_))]) _ h hG rfl ?_ ?_
  · intro J f h hG; refine Zap 20 rfl ?_; refine Zm (.row 25 1 9) (Mem.add _ 25 (.rows 1 (List.map (encI .i64) [p_.Within, p_.Size, p_.Parts, p_.Files, p_.Bytes, p_.Rate, p_.Down, p_.Window, p_.Keep]) false)) rfl rfl ?_; refine Zpc 5 rfl ?_; refine A.loop (fun (s3 : Int) => [(1, .lp 900000 1 0), (25, .row 900001 1 [p_.Within, p_.Size, p_.Parts, p_.Files, p_.Bytes, p_.Rate, p_.Down, p_.Window, p_.Keep].length), (26, VI ((9 : Nat) : Int)), (27, VI s3)]) (fun s3 => [(900000, .box (api_Profile.av p_)), (900001, .rows 1 (List.map (encI .i64) [p_.Within, p_.Size, p_.Parts, p_.Files, p_.Bytes, p_.Rate, p_.Down, p_.Window, p_.Keep]) false)]) _ h hG (Zf [] [(900000, (1, 1)), (900001, (25, 1))] rfl rfl (Ze rfl rfl (Ze rfl rfl (Ze rfl rfl (Ze rfl rfl trivial)))) (Zc rfl rfl (Zc rfl rfl trivial))) ?_; intro J s3 f h hG; unfold syntax_Right_L1 at h; refine Zac 6 rfl ?_; refine A.condB rfl h (fun _ h => ?_) (fun _ h => ?_)
    · refine Zcp 6 rfl ?_; refine Y1 rfl ?_; refine chkK h fun g23 h => ?_; refine W.chk rfl (by simpa using g23) ?_; refine W.det (.rp 900001 1 s3.toNat 0) _ rfl ?_; refine Y1 rfl ?_; refine bindK h fun x24 hx24 h => ?_; refine W.elem rfl (elemG hx24) ?_; refine Zwp 9 rfl ?_; refine YF rfl rfl rfl h (fun _ h => ?_) (fun _ h => ?_)
      · refine Zpb 13 rfl ?_; refine headK.r ?_; refine Zob 1 rfl ?_; refine headK.r ?_; cases h; cases hG; exact ⟨rfl, trivial⟩
      · refine Zwc 5 rfl ?_; refine A.condB rfl h (fun _ h => ?_) (fun _ h => ?_)
        · refine Zcb 8 rfl ?_; refine headK.r ?_; refine Zob 1 rfl ?_; refine headK.r ?_; cases h; cases hG; exact ⟨rfl, trivial⟩
        · refine Zcb 7 rfl ?_; cases h; exact Zh hG [] [(900000, (900000, 1)), (900001, (900001, 1))] rfl rfl (Ze rfl rfl (Ze rfl rfl (Ze rfl rfl (Ze rfl rfl trivial)))) (Zc rfl rfl (Zc rfl rfl trivial))
    · refine Zcb 2 rfl ?_; refine headK.e ?_; refine Zob 1 rfl ?_; cases h; exact Zh hG [] [(900000, (900000, 1))] rfl rfl (Ze rfl rfl trivial) (Zc rfl rfl trivial)
  · intro s2 r2 h hG; refine A.join (fun (s5 : Unit) => [(1, .lp 900000 1 0)]) (fun s5 => [(900000, .box (api_Profile.av p_))]) _ h hG rfl ?_ ?_
    · intro J f h hG; refine Zap 4 rfl ?_; refine Zo (.agg [VI p_.Delete, VI 3]) rfl rfl ?_; refine Zpp 2 rfl ?_; refine Zo (.agg [VI p_.Thread, VI 3]) rfl rfl ?_; refine Zpp 2 rfl ?_; refine Zo (.agg [VI p_.Join, VI 3]) rfl rfl ?_; refine Zpp 2 rfl ?_; refine Zo (.agg [VI p_.History, VI 2]) rfl rfl ?_; refine Zpp 2 rfl ?_; refine Zo (.agg [VI p_.Remove, VI 2]) rfl rfl ?_; refine Zpp 2 rfl ?_; refine Zo (.agg [VI p_.Level, VI 5]) rfl rfl ?_; refine Zm (.row 56 2 6) (Mem.add _ 56 (.rows 2 (List.map Arr2_Int.enc [(Arr2_Int.mk p_.Delete (3 : Int)), (Arr2_Int.mk p_.Thread (3 : Int)), (Arr2_Int.mk p_.Join (3 : Int)), (Arr2_Int.mk p_.History (2 : Int)), (Arr2_Int.mk p_.Remove (2 : Int)), (Arr2_Int.mk p_.Level (5 : Int))]) false)) rfl rfl ?_; refine Zpc 5 rfl ?_; refine A.loop (fun (s6 : Int) => [(1, .lp 900000 1 0), (56, .row 900001 1 [(Arr2_Int.mk p_.Delete (3 : Int)), (Arr2_Int.mk p_.Thread (3 : Int)), (Arr2_Int.mk p_.Join (3 : Int)), (Arr2_Int.mk p_.History (2 : Int)), (Arr2_Int.mk p_.Remove (2 : Int)), (Arr2_Int.mk p_.Level (5 : Int))].length), (57, VI ((6 : Nat) : Int)), (58, VI s6)]) (fun s6 => [(900000, .box (api_Profile.av p_)), (900001, .rows 2 (List.map Arr2_Int.enc [(Arr2_Int.mk p_.Delete (3 : Int)), (Arr2_Int.mk p_.Thread (3 : Int)), (Arr2_Int.mk p_.Join (3 : Int)), (Arr2_Int.mk p_.History (2 : Int)), (Arr2_Int.mk p_.Remove (2 : Int)), (Arr2_Int.mk p_.Level (5 : Int))]) false)]) _ h hG (Zf [] [(900000, (900000, 1)), (900001, (56, 2))] rfl rfl (Ze rfl rfl (Ze rfl rfl (Ze rfl rfl (Ze rfl rfl trivial)))) (Zc rfl rfl (Zc rfl rfl trivial))) ?_; intro J s6 f h hG; unfold syntax_Right_L2 at h; refine Zac 6 rfl ?_; refine A.condB rfl h (fun _ h => ?_) (fun _ h => ?_)
      · refine Zcp 6 rfl ?_; refine Y1 rfl ?_; refine chkK h fun g47 h => ?_; refine W.chk rfl (by simpa using g47) ?_; refine W.det (.rp 900001 1 s6.toNat 0) _ rfl ?_; refine Y1 rfl ?_; refine bindK h fun x48 hx48 h => ?_; refine W.elem rfl (elemG hx48) ?_; refine W.det (.agg (Arr2_Int.av x48)) _ rfl ?_; refine Zm (.lp 6 2 0) (Mem.add _ 6 (.box [VI 0, VI 0])) rfl rfl ?_; refine Zm (.tup []) (Mem.set _ 6 2 (some (.box (Arr2_Int.av x48)))) rfl rfl ?_; refine Zpp 4 rfl ?_; refine Y1 rfl ?_; refine W.chk rfl (by decide) ?_; refine W.det (.lp 6 2 0) _ rfl ?_; refine Zpp 3 rfl ?_; refine YF rfl rfl rfl h (fun _ h => ?_) (fun _ h => ?_)
        · refine Zpb 16 rfl ?_; refine headK.r ?_; refine Zob 1 rfl ?_; refine headK.r ?_; cases h; cases hG; exact ⟨rfl, trivial⟩
        · refine W.chk rfl (by decide) ?_; refine W.det (.lp 6 2 0) _ rfl ?_; refine Zpp 1 rfl ?_; refine Y2 rfl rfl rfl ?_; refine W.chk rfl (by decide) ?_; refine W.det (.lp 6 2 1) _ rfl ?_; refine Zpc 5 rfl ?_; refine A.condB rfl h (fun _ h => ?_) (fun _ h => ?_)
          · refine Zcb 8 rfl ?_; refine headK.r ?_; refine Zob 1 rfl ?_; refine headK.r ?_; cases h; cases hG; exact ⟨rfl, trivial⟩
          · refine Zcb 7 rfl ?_; cases h; exact Zh hG [] [(900000, (900000, 1)), (900001, (900001, 1))] rfl rfl (Ze rfl rfl (Ze rfl rfl (Ze rfl rfl (Ze rfl rfl trivial)))) (Zc rfl rfl (Zc rfl rfl trivial))
      · refine Zcb 2 rfl ?_; refine headK.e ?_; refine Zob 1 rfl ?_; cases h; exact Zh hG [] [(900000, (900000, 1))] rfl rfl (Ze rfl rfl trivial) (Zc rfl rfl trivial)
    · intro s5 r2 h hG; refine Zcc 2 rfl ?_; refine A.join (fun (s8 : Bool) => [(1, .lp 900000 1 0), (73, VB s8)]) (fun s8 => [(900000, .box (api_Profile.av p_))]) _ h hG rfl ?_ ?_
      · intro J f h hG; refine Zap 4 rfl ?_; refine Y1 rfl ?_; refine bindK h fun y52 hy52 h => ?_; refine W.call rfl (lex_Word_fn hy52) ?_; refine Zwc 5 rfl ?_; refine A.condB rfl h (fun _ h => ?_) (fun _ h => ?_)
        · refine Zcb 1 rfl ?_; cases h; exact Zh hG [] [(900000, (900000, 1))] rfl rfl (Ze rfl rfl (Ze rfl rfl trivial)) (Zc rfl rfl trivial)
        · refine Zcp 6 rfl ?_; refine YT rfl rfl rfl h (fun _ h => ?_) (fun _ h => ?_)
          · refine Zwc 7 rfl ?_; refine A.condB rfl h (fun _ h => ?_) (fun _ h => ?_)
            · refine Zcb 1 rfl ?_; cases h; exact Zh hG [] [(900000, (900000, 1))] rfl rfl (Ze rfl rfl (Ze rfl rfl trivial)) (Zc rfl rfl trivial)
            · refine Zcp 5 rfl ?_; refine YT rfl rfl rfl h (fun _ h => ?_) (fun _ h => ?_)
              · refine Zwb 6 rfl ?_; cases h; exact Zh hG [] [(900000, (900000, 1))] rfl rfl (Ze rfl rfl (Ze rfl rfl trivial)) (Zc rfl rfl trivial)
              · refine Zpb 5 rfl ?_; cases h; exact Zh hG [] [(900000, (900000, 1))] rfl rfl (Ze rfl rfl (Ze rfl rfl trivial)) (Zc rfl rfl trivial)
          · refine Zpp 12 rfl ?_; refine YT rfl rfl rfl h (fun _ h => ?_) (fun _ h => ?_)
            · refine Zwb 6 rfl ?_; cases h; exact Zh hG [] [(900000, (900000, 1))] rfl rfl (Ze rfl rfl (Ze rfl rfl trivial)) (Zc rfl rfl trivial)
            · refine Zpb 5 rfl ?_; cases h; exact Zh hG [] [(900000, (900000, 1))] rfl rfl (Ze rfl rfl (Ze rfl rfl trivial)) (Zc rfl rfl trivial)
      · intro s8 r2 h hG; refine A.condB rfl h (fun _ h => ?_) (fun _ h => ?_)
        · refine Zcb 8 rfl ?_; cases h; cases hG; exact ⟨rfl, trivial⟩
        · refine Zcc 8 rfl ?_; refine A.condB rfl h (fun _ h => ?_) (fun _ h => ?_)
          · refine Zcp 6 rfl ?_; refine YT rfl rfl rfl h (fun _ h => ?_) (fun _ h => ?_)
            · refine Zwp 2 rfl ?_; refine Y2 rfl rfl rfl ?_; refine W.len rfl ?_; refine Zpb 8 rfl ?_; cases h; cases hG; exact ⟨rfl, trivial⟩
            · refine Zpb 10 rfl ?_; cases h; cases hG; exact ⟨rfl, trivial⟩
          · refine Zcp 7 rfl ?_; refine Y1 rfl ?_; refine W.len rfl ?_; refine Zpp 2 rfl ?_; refine YT rfl rfl rfl h (fun _ h => ?_) (fun _ h => ?_)
            · refine Zwp 2 rfl ?_; refine Y2 rfl rfl rfl ?_; refine W.len rfl ?_; refine Zpp 3 rfl ?_; refine YT rfl rfl rfl h (fun _ h => ?_) (fun _ h => ?_)
              · refine Zwp 2 rfl ?_; refine Y2 rfl rfl rfl ?_; refine bindK h fun y53 hy53 h => ?_; refine W.call rfl (slices_ContainsFunc_string_string_fn (f_F := 75) (f_C := []) rfl (fun _ _ h => syntax_Right_1_fn h) hy53) ?_; refine Zwb 7 rfl ?_; cases h; cases hG; exact ⟨rfl, trivial⟩
              · refine Zpb 8 rfl ?_; cases h; cases hG; exact ⟨rfl, trivial⟩
            · refine Zpb 14 rfl ?_; cases h; cases hG; exact ⟨rfl, trivial⟩
noncomputable def profile_within (n_ : Int) (from_ : Int) (to_ : Int) : Option (Bool) :=
  (bif (decide (from_ ≤ n_)) then
    some (decide (n_ ≤ to_))
  else
    some false)
theorem profile_within_fn {dr : Prop} {n_ : Int} {from_ : Int} {to_ : Int} {r : Bool} (h : profile_within n_ from_ to_ = some r) : Fn dr Tryz.prog 51 [VI n_, VI from_, VI to_] (VB r) := by
  refine Fn.of_AW (dr := dr) (F := FnX dr Tryz.prog) (base := 0) (js := []) mixed tok noeqs (fun _ _ _ h => h) Tryz.call51 Tryz.func51 rfl Tryz.ntmps51 (by rw [Tryz.results51]) (by simp) ?_; have hG : (fun x => x = r) r := rfl; unfold profile_within at h; refine Zap 11 rfl ?_; refine YT rfl rfl rfl h (fun _ h => ?_) (fun _ h => ?_)
  · refine Zwb 8 rfl ?_; cases h; cases hG; exact ⟨rfl, trivial⟩
  · refine Zpb 7 rfl ?_; cases h; cases hG; exact ⟨rfl, trivial⟩
noncomputable def profile_together (p_ : api_Profile) : Option (Bool) :=
  (bif ((p_.Files == (0 : Int)) == (p_.Bytes == (0 : Int))) then
    some ((p_.Files == (0 : Int)) == ((p_.Types.length : Int) == (0 : Int)))
  else
    some false)
theorem profile_together_fn {dr : Prop} {p_ : api_Profile} {r : Bool} (h : profile_together p_ = some r) : Fn dr Tryz.prog 52 [.agg (api_Profile.av p_)] (VB r) := by
  refine Fn.of_AW (dr := dr) (F := FnX dr Tryz.prog) (base := 0) (js := []) mixed tok noeqs (fun _ _ _ h => h) Tryz.call52 Tryz.func52 rfl Tryz.ntmps52 (by rw [Tryz.results52]) (by simp) ?_; have hG : (fun x => x = r) r := rfl; unfold profile_together at h; refine Zap 2 rfl ?_; refine Zm (.lp 1 1 0) (Mem.add _ 1 (.box (api_Profile.av p_))) rfl rfl ?_; refine Zpp 13 rfl ?_; refine YT rfl rfl rfl h (fun _ h => ?_) (fun _ h => ?_)
  · refine Zwp 5 rfl ?_; refine Y2 rfl rfl rfl ?_; refine W.len rfl ?_; refine Zpb 7 rfl ?_; cases h; cases hG; exact ⟨rfl, trivial⟩
  · refine Zpb 12 rfl ?_; cases h; cases hG; exact ⟨rfl, trivial⟩
noncomputable def slices_Index_string_string_L1 (s_ : (List ByteArray)) (v_ : ByteArray) (s3 : Int) : Option ((Int) ⊕ ((Unit) ⊕ (Int))) :=
  (bif (decide (s3 < (s_.length : Int))) then
    (getI s_ s3).bind fun x12 =>
    (bif (v_.toList == x12.toList) then
      some (.inr (.inr s3))
    else
      some (.inl (IntKind.i64.wrap (s3 + (1 : Int)))))
  else
    some (.inr (.inl ())))
noncomputable def slices_Index_string_string (s_ : (List ByteArray)) (v_ : ByteArray) : Option (Int) :=
  (seqF (A := Unit) (
    loopF (slices_Index_string_string_L1 s_ v_) (0 : Int))
  fun s2 =>
    some (-1 : Int))
theorem slices_Index_string_string_fn {dr : Prop} {s_ : (List ByteArray)} {v_ : ByteArray} {r : Int} (h : slices_Index_string_string s_ v_ = some r) : Fn dr Tryz.prog 76 [VF (List.map encS s_), VS v_] (VI r) := by
  refine Fn.of_AW (dr := dr) (F := FnX dr Tryz.prog) (base := 0) (js := [7]) mixed tok noeqs (fun _ _ _ h => h) Tryz.call76 Tryz.func76 rfl Tryz.ntmps76 (by rw [Tryz.results76]) (by simp) ?_; have hG : (fun x => x = r) r := rfl; unfold slices_Index_string_string at h; refine Zac 5 rfl ?_; refine A.join (fun (s2 : Unit) => []) (fun s2 => []) _ h hG rfl ?_ ?_
  · intro J f h hG; refine Zap 3 rfl ?_; refine Y1 rfl ?_; refine W.len rfl ?_; refine Zpc 4 rfl ?_; refine A.loop (fun (s3 : Int) => [(0, VF (List.map encS s_)), (1, VS v_), (7, VI (s_.length : Int)), (8, VI s3)]) (fun s3 => []) _ h hG (Zf [] [] rfl rfl (Ze rfl rfl (Ze rfl rfl (Ze rfl rfl (Ze rfl rfl trivial)))) trivial) ?_; intro J s3 f h hG; unfold slices_Index_string_string_L1 at h; refine Zac 6 rfl ?_; refine A.condB rfl h (fun _ h => ?_) (fun _ h => ?_)
    · refine Zcp 15 rfl ?_; refine Y1 rfl ?_; refine bindK h fun x12 hx12 h => ?_; refine W.chk rfl (elemB hx12) ?_; refine W.elem rfl (elemG hx12) ?_; refine W.chk rfl rfl ?_; refine W.det (.fp [.v (.string x12)]) _ rfl ?_; refine Zpc 4 rfl ?_; refine A.condB rfl h (fun _ h => ?_) (fun _ h => ?_)
      · refine Zcb 9 rfl ?_; refine headK.r ?_; refine Zob 1 rfl ?_; refine headK.r ?_; cases h; cases hG; exact ⟨rfl, trivial⟩
      · refine Zcb 7 rfl ?_; cases h; exact Zh hG [] [] rfl rfl (Ze rfl rfl (Ze rfl rfl (Ze rfl rfl (Ze rfl rfl trivial)))) trivial
    · refine Zcb 2 rfl ?_; refine headK.e ?_; refine Zob 1 rfl ?_; cases h; exact Zh hG [] [] rfl rfl trivial trivial
  · intro s2 r2 h hG; refine Zcb 6 rfl ?_; cases h; cases hG; exact ⟨rfl, trivial⟩
noncomputable def slices_Contains_string_string (s_ : (List ByteArray)) (v_ : ByteArray) : Option (Bool) :=
  (slices_Index_string_string s_ v_).bind fun y1 =>
  some (decide ((0 : Int) ≤ y1))
theorem slices_Contains_string_string_fn {dr : Prop} {s_ : (List ByteArray)} {v_ : ByteArray} {r : Bool} (h : slices_Contains_string_string s_ v_ = some r) : Fn dr Tryz.prog 53 [VF (List.map encS s_), VS v_] (VB r) := by
  refine Fn.of_AW (dr := dr) (F := FnX dr Tryz.prog) (base := 0) (js := []) mixed tok noeqs (fun _ _ _ h => h) Tryz.call53 Tryz.func53 rfl Tryz.ntmps53 (by rw [Tryz.results53]) (by simp) ?_; have hG : (fun x => x = r) r := rfl; unfold slices_Contains_string_string at h; refine Zap 9 rfl ?_; refine Y1 rfl ?_; refine bindK h fun y1 hy1 h => ?_; refine W.call rfl (slices_Index_string_string_fn hy1) ?_; refine Zwb 6 rfl ?_; cases h; cases hG; exact ⟨rfl, trivial⟩
noncomputable def profile_Check_L1 (p_ : api_Profile) (s3 : Int) : Option ((Int) ⊕ ((Unit) ⊕ (Int))) :=
  (bif (decide (s3 < (p_.Types.length : Int))) then
    (getI p_.Types s3).bind fun x51 =>
    (chkO (cutO (0 : Int) s3 (p_.Types.length : Int))).bind fun _ =>
    (slices_Contains_string_string (List.drop (0 : Int).toNat (List.take s3.toNat p_.Types)) x51).bind fun y53 =>
    (bif y53 then
      some (.inr (.inr (5 : Int)))
    else
      some (.inl (IntKind.i64.wrap (s3 + (1 : Int)))))
  else
    some (.inr (.inl ())))
noncomputable def profile_Check_L2 (p_ : api_Profile) (s6 : Int) : Option ((Int) ⊕ ((Unit) ⊕ (Int))) :=
  (bif (decide (s6 < (p_.Types.length : Int))) then
    (getI p_.Types s6).bind fun x88 =>
    (chkO (cutO (0 : Int) s6 (p_.Types.length : Int))).bind fun _ =>
    (slices_Contains_string_string (List.drop (0 : Int).toNat (List.take s6.toNat p_.Types)) x88).bind fun y90 =>
    (bif y90 then
      some (.inr (.inr (5 : Int)))
    else
      some (.inl (IntKind.i64.wrap (s6 + (1 : Int)))))
  else
    some (.inr (.inl ())))
noncomputable def profile_Check (p_ : api_Profile) : Option (Int) :=
  (syntax_Right p_).bind fun y2 =>
  (bif (!y2) then
    some (1 : Int)
  else
    (profile_within p_.Size (40 : Int) (4000 : Int)).bind fun y15 =>
    (bif (!y15) then
      some (3 : Int)
    else
      (profile_within p_.Parts (1 : Int) (20 : Int)).bind fun y16 =>
      (bif (!y16) then
        some (3 : Int)
      else
        (bif (decide ((4 : Int) < p_.Files)) then
          some (3 : Int)
        else
          (bif (decide ((65536 : Int) < p_.Bytes)) then
            some (3 : Int)
          else
            (bif (decide (p_.Rate < (1 : Int))) then
              some (3 : Int)
            else
              (bif (p_.Down != (0 : Int)) then
                (bif (decide (p_.Window ≤ p_.Down)) then
                  some (3 : Int)
                else
                  (profile_together p_).bind fun y17 =>
                  (bif (!y17) then
                    some (3 : Int)
                  else
                    (seqF (A := Unit) (
                      loopF (profile_Check_L1 p_) (0 : Int))
                    fun s2 =>
                      some (0 : Int))))
              else
                (profile_together p_).bind fun y54 =>
                (bif (!y54) then
                  some (3 : Int)
                else
                  (seqF (A := Unit) (
                    loopF (profile_Check_L2 p_) (0 : Int))
                  fun s5 =>
                    some (0 : Int))))))))))
theorem profile_Check_fn {dr : Prop} {p_ : api_Profile} {r : Int} (h : profile_Check p_ = some r) : Fn dr Tryz.prog 20 [.agg (api_Profile.av p_)] (VI r) := by
  refine Fn.of_AW (dr := dr) (F := FnX dr Tryz.prog) (base := 0) (js := [11]) mixed tok noeqs (fun _ _ _ h => h) Tryz.call20 Tryz.func20 rfl Tryz.ntmps20 (by rw [Tryz.results20]) (by simp) ?_; have hG : (fun x => x = r) r := rfl; unfold profile_Check at h; refine Zap 2 rfl ?_; refine Zm (.lp 1 1 0) (Mem.add _ 1 (.box (api_Profile.av p_))) rfl rfl ?_; refine Zpp 6 rfl ?_; refine Zo (.agg (api_Profile.av p_)) rfl rfl ?_; refine Y1 rfl ?_; refine bindK h fun y2 hy2 h => ?_; refine W.call rfl (syntax_Right_fn hy2) ?_; refine Zwc 4 rfl ?_; refine A.condB rfl h (fun _ h => ?_) (fun _ h => ?_)
  · refine Zcb 7 rfl ?_; cases h; cases hG; exact ⟨rfl, trivial⟩
  · refine Zcp 7 rfl ?_; refine Y1 rfl ?_; refine bindK h fun y15 hy15 h => ?_; refine W.call rfl (profile_within_fn hy15) ?_; refine Zwp 3 rfl ?_; refine YF rfl rfl rfl h (fun _ h => ?_) (fun _ h => ?_)
    · refine Zpb 46 rfl ?_; cases h; cases hG; exact ⟨rfl, trivial⟩
    · refine Zwp 2 rfl ?_; refine Y2 rfl rfl rfl ?_; refine bindK h fun y16 hy16 h => ?_; refine W.call rfl (profile_within_fn hy16) ?_; refine Zwp 4 rfl ?_; refine YF rfl rfl rfl h (fun _ h => ?_) (fun _ h => ?_)
      · refine Zpb 40 rfl ?_; cases h; cases hG; exact ⟨rfl, trivial⟩
      · refine Zwp 5 rfl ?_; refine YF rfl rfl rfl h (fun _ h => ?_) (fun _ h => ?_)
        · refine Zpb 35 rfl ?_; cases h; cases hG; exact ⟨rfl, trivial⟩
        · refine Zwp 5 rfl ?_; refine YF rfl rfl rfl h (fun _ h => ?_) (fun _ h => ?_)
          · refine Zpb 30 rfl ?_; cases h; cases hG; exact ⟨rfl, trivial⟩
          · refine Zwp 5 rfl ?_; refine YF rfl rfl rfl h (fun _ h => ?_) (fun _ h => ?_)
            · refine Zpb 25 rfl ?_; cases h; cases hG; exact ⟨rfl, trivial⟩
            · refine Zwp 4 rfl ?_; refine YT rfl rfl rfl h (fun _ h => ?_) (fun _ h => ?_)
              · refine Zwp 8 rfl ?_; refine YF rfl rfl rfl h (fun _ h => ?_) (fun _ h => ?_)
                · refine Zpb 13 rfl ?_; cases h; cases hG; exact ⟨rfl, trivial⟩
                · refine W.det (.agg (api_Profile.av p_)) _ rfl ?_; refine Y2 rfl rfl rfl ?_; refine bindK h fun y17 hy17 h => ?_; refine W.call rfl (profile_together_fn hy17) ?_; refine Zwc 5 rfl ?_; refine A.condB rfl h (fun _ h => ?_) (fun _ h => ?_)
                  · refine Zcb 7 rfl ?_; cases h; cases hG; exact ⟨rfl, trivial⟩
                  · refine Zcc 2 rfl ?_; refine A.join (fun (s2 : Unit) => []) (fun s2 => []) _ h hG rfl ?_ ?_
                    · intro J f h hG; refine Zap 4 rfl ?_; refine Y1 rfl ?_; refine W.len rfl ?_; refine Zpc 4 rfl ?_; refine A.loop (fun (s3 : Int) => [(1, .lp 900000 1 0), (51, VF (List.map encS p_.Types)), (52, VI (p_.Types.length : Int)), (53, VI s3)]) (fun s3 => [(900000, .box (api_Profile.av p_))]) _ h hG (Zf [] [(900000, (1, 1))] rfl rfl (Ze rfl rfl (Ze rfl rfl (Ze rfl rfl (Ze rfl rfl trivial)))) (Zc rfl rfl trivial)) ?_; intro J s3 f h hG; unfold profile_Check_L1 at h; refine Zac 6 rfl ?_; refine A.condB rfl h (fun _ h => ?_) (fun _ h => ?_)
                      · refine Zcp 7 rfl ?_; refine Y1 rfl ?_; refine bindK h fun x51 hx51 h => ?_; refine W.chk rfl (elemB hx51) ?_; refine W.elem rfl (elemG hx51) ?_; refine W.chk rfl rfl ?_; refine W.det (.fp [.v (.string x51)]) _ rfl ?_; refine Zpp 10 rfl ?_; refine Y1 rfl ?_; refine chkK h fun g52 h => ?_; refine W.chk rfl (cutO_map (fun _ => rfl) g52) ?_; refine W.cut rfl ?_; refine Zpp 1 rfl ?_; refine Y1 rfl ?_; refine bindK h fun y53 hy53 h => ?_; refine W.call rfl (slices_Contains_string_string_fn hy53) ?_; refine Zwc 3 rfl ?_; refine A.condB rfl h (fun _ h => ?_) (fun _ h => ?_)
                        · refine Zcb 8 rfl ?_; refine headK.r ?_; refine Zob 1 rfl ?_; refine headK.r ?_; cases h; cases hG; exact ⟨rfl, trivial⟩
                        · refine Zcb 7 rfl ?_; cases h; exact Zh hG [] [(900000, (900000, 1))] rfl rfl (Ze rfl rfl (Ze rfl rfl (Ze rfl rfl (Ze rfl rfl trivial)))) (Zc rfl rfl trivial)
                      · refine Zcb 2 rfl ?_; refine headK.e ?_; refine Zob 1 rfl ?_; cases h; exact Zh hG [] [] rfl rfl trivial trivial
                    · intro s2 r2 h hG; refine Zcb 6 rfl ?_; cases h; cases hG; exact ⟨rfl, trivial⟩
              · refine Zpp 7 rfl ?_; refine Zu (.agg (api_Profile.av p_)) rfl rfl rfl rfl ?_; refine Y2 rfl rfl rfl ?_; refine bindK h fun y54 hy54 h => ?_; refine W.call rfl (profile_together_fn hy54) ?_; refine Zwc 5 rfl ?_; refine A.condB rfl h (fun _ h => ?_) (fun _ h => ?_)
                · refine Zcb 7 rfl ?_; cases h; cases hG; exact ⟨rfl, trivial⟩
                · refine Zcc 2 rfl ?_; refine A.join (fun (s5 : Unit) => []) (fun s5 => []) _ h hG rfl ?_ ?_
                  · intro J f h hG; refine Zap 4 rfl ?_; refine Y1 rfl ?_; refine W.len rfl ?_; refine Zpc 4 rfl ?_; refine A.loop (fun (s6 : Int) => [(1, .lp 900000 1 0), (51, VF (List.map encS p_.Types)), (52, VI (p_.Types.length : Int)), (53, VI s6)]) (fun s6 => [(900000, .box (api_Profile.av p_))]) _ h hG (Zf [] [(900000, (1, 1))] rfl rfl (Ze rfl rfl (Ze rfl rfl (Ze rfl rfl (Ze rfl rfl trivial)))) (Zc rfl rfl trivial)) ?_; intro J s6 f h hG; unfold profile_Check_L2 at h; refine Zac 6 rfl ?_; refine A.condB rfl h (fun _ h => ?_) (fun _ h => ?_)
                    · refine Zcp 7 rfl ?_; refine Y1 rfl ?_; refine bindK h fun x88 hx88 h => ?_; refine W.chk rfl (elemB hx88) ?_; refine W.elem rfl (elemG hx88) ?_; refine W.chk rfl rfl ?_; refine W.det (.fp [.v (.string x88)]) _ rfl ?_; refine Zpp 10 rfl ?_; refine Y1 rfl ?_; refine chkK h fun g89 h => ?_; refine W.chk rfl (cutO_map (fun _ => rfl) g89) ?_; refine W.cut rfl ?_; refine Zpp 1 rfl ?_; refine Y1 rfl ?_; refine bindK h fun y90 hy90 h => ?_; refine W.call rfl (slices_Contains_string_string_fn hy90) ?_; refine Zwc 3 rfl ?_; refine A.condB rfl h (fun _ h => ?_) (fun _ h => ?_)
                      · refine Zcb 8 rfl ?_; refine headK.r ?_; refine Zob 1 rfl ?_; refine headK.r ?_; cases h; cases hG; exact ⟨rfl, trivial⟩
                      · refine Zcb 7 rfl ?_; cases h; exact Zh hG [] [(900000, (900000, 1))] rfl rfl (Ze rfl rfl (Ze rfl rfl (Ze rfl rfl (Ze rfl rfl trivial)))) (Zc rfl rfl trivial)
                    · refine Zcb 2 rfl ?_; refine headK.e ?_; refine Zob 1 rfl ?_; cases h; exact Zh hG [] [] rfl rfl trivial trivial
                  · intro s5 r2 h hG; refine Zcb 6 rfl ?_; cases h; cases hG; exact ⟨rfl, trivial⟩
structure api_Way where
  How : Int
  Finds : Int
def api_Way.enc (x : api_Way) : List D := [.v (.int .i64 x.How), .v (.int .i64 x.Finds)]
abbrev api_Way.av (x : api_Way) : List AV := [VI x.How, VI x.Finds]
structure ways_choice where
  is : Bool
  way : api_Way
def ways_choice.enc (x : ways_choice) : List D := [.v (.bool x.is), .v (.int .i64 x.way.How), .v (.int .i64 x.way.Finds)]
abbrev ways_choice.av (x : ways_choice) : List AV := [VB x.is, VI x.way.How, VI x.way.Finds]
noncomputable def ways_first_L1 (l_ : (List ways_choice)) (s3 : Int) : Option ((Int) ⊕ ((Unit) ⊕ (api_Way))) :=
  (bif (decide (s3 < (l_.length : Int))) then
    (getI l_ s3).bind fun x12 =>
    (bif x12.is then
      some (.inr (.inr (api_Way.mk x12.way.How x12.way.Finds)))
    else
      some (.inl (IntKind.i64.wrap (s3 + (1 : Int)))))
  else
    some (.inr (.inl ())))
noncomputable def ways_first (l_ : (List ways_choice)) : Option (api_Way) :=
  (seqF (A := Unit) (
    loopF (ways_first_L1 l_) (0 : Int))
  fun s2 =>
    some (api_Way.mk (5 : Int) (2 : Int)))
theorem ways_first_fn {dr : Prop} {l_ : (List ways_choice)} {r : api_Way} (h : ways_first l_ = some r) : Fn dr Tryz.prog 21 [VF (List.map ways_choice.enc l_)] (.agg (api_Way.av r)) := by
  refine Fn.of_AW (dr := dr) (F := FnX dr Tryz.prog) (base := 0) (js := [7]) mixed tok noeqs (fun _ _ _ h => h) Tryz.call21 Tryz.func21 rfl Tryz.ntmps21 (by rw [Tryz.results21]) (by simp) ?_; have hG : (fun x => x = r) r := rfl; unfold ways_first at h; refine Zap 2 rfl ?_; refine Zm (.lp 2 1 0) (Mem.add _ 2 (.box [VI 0, VI 0])) rfl rfl ?_; refine Zpc 2 rfl ?_; refine A.join (fun (s2 : Unit) => [(2, .lp 900000 1 0)]) (fun s2 => [(900000, .box [VI 0, VI 0])]) _ h hG rfl ?_ ?_
  · intro J f h hG; refine Zap 3 rfl ?_; refine Y1 rfl ?_; refine W.len rfl ?_; refine Zpc 4 rfl ?_; refine A.loop (fun (s3 : Int) => [(2, .lp 900000 1 0), (5, VF (List.map ways_choice.enc l_)), (6, VI (l_.length : Int)), (7, VI s3)]) (fun s3 => [(900000, .box [VI 0, VI 0])]) _ h hG (Zf [] [(900000, (2, 1))] rfl rfl (Ze rfl rfl (Ze rfl rfl (Ze rfl rfl (Ze rfl rfl trivial)))) (Zc rfl rfl trivial)) ?_; intro J s3 f h hG; unfold ways_first_L1 at h; refine Zac 6 rfl ?_; refine A.condB rfl h (fun _ h => ?_) (fun _ h => ?_)
    · refine Zcp 6 rfl ?_; refine Y1 rfl ?_; refine bindK h fun x12 hx12 h => ?_; refine W.chk rfl (elemB hx12) ?_; refine W.elem rfl (elemG hx12) ?_; refine W.chk rfl rfl ?_; refine W.det (.fp [.v (.bool x12.is), .v (.int .i64 x12.way.How), .v (.int .i64 x12.way.Finds)]) _ rfl ?_; refine Zo (.agg (ways_choice.av x12)) rfl rfl ?_; refine Zm (.lp 4 2 0) (Mem.add _ 4 (.box [VB false, VI 0, VI 0])) rfl rfl ?_; refine Zm (.tup []) (Mem.set _ 4 2 (some (.box (ways_choice.av x12)))) rfl rfl ?_; refine Zpc 8 rfl ?_; refine A.condB rfl h (fun _ h => ?_) (fun _ h => ?_)
      · refine Zcp 3 rfl ?_; refine Zo (.agg (api_Way.av x12.way)) rfl rfl ?_; refine Zm (.tup []) (Mem.set _ 900000 1 (some (.box (api_Way.av x12.way)))) rfl rfl ?_; refine Zpb 5 rfl ?_; refine headK.r ?_; refine Zob 1 rfl ?_; refine headK.r ?_; cases h; cases hG; exact ⟨rfl, rfl, trivial⟩
      · refine Zcb 7 rfl ?_; cases h; exact Zh hG [] [(900000, (900000, 1))] rfl rfl (Ze rfl rfl (Ze rfl rfl (Ze rfl rfl (Ze rfl rfl trivial)))) (Zc rfl rfl trivial)
    · refine Zcb 2 rfl ?_; refine headK.e ?_; refine Zob 1 rfl ?_; cases h; exact Zh hG [] [(900000, (900000, 1))] rfl rfl (Ze rfl rfl trivial) (Zc rfl rfl trivial)
  · intro s2 r2 h hG; refine Zcp 2 rfl ?_; refine Zo (.agg [VI 5, VI 2]) rfl rfl ?_; refine Zm (.tup []) (Mem.set _ 900000 1 (some (.box [VI 5, VI 2]))) rfl rfl ?_; refine Zpb 3 rfl ?_; cases h; cases hG; exact ⟨rfl, rfl, trivial⟩
noncomputable def ways_Compile (p_ : api_Profile) : Option ((List api_Way) × Int) :=
  (profile_Check p_).bind fun y2 =>
  (bif (y2 != (0 : Int)) then
    some (([] : List api_Way), y2)
  else
    (seqF (A := Bool) (
      (bif (p_.Edit == (2 : Int)) then
        some (.inl (p_.Within == (0 : Int)))
      else
        some (.inl false)))
    fun s1 =>
      (chkO (decide (0 ≤ (0 : Int)) && decide ((0 : Int) < (((List.replicate (9 : Int).toNat (api_Way.mk (0 : Int) (0 : Int))).length : Nat) : Int)))).bind fun _ =>
      (getI (List.replicate (9 : Int).toNat (api_Way.mk (0 : Int) (0 : Int))) (0 : Int)).bind fun x4 =>
      (seqF (A := (List api_Way)) (
        (bif (decide ((1 : Int) < p_.Parts)) then
          (ways_first [(ways_choice.mk (decide ((4400 : Int) ≤ (IntKind.i64.wrap (p_.Size * p_.Parts)))) (api_Way.mk (1 : Int) (1 : Int))), (ways_choice.mk (decide ((1 : Int) < p_.Parts)) (api_Way.mk (4 : Int) (1 : Int))), (ways_choice.mk true (api_Way.mk (4 : Int) (0 : Int)))]).bind fun y11 =>
          (chkO (decide (0 ≤ (1 : Int)) && decide ((1 : Int) < (((List.replicate (9 : Int).toNat (api_Way.mk (0 : Int) (0 : Int))).length : Nat) : Int)))).bind fun _ =>
          (getI (List.set (List.replicate (9 : Int).toNat (api_Way.mk (0 : Int) (0 : Int))) (0 : Int).toNat (api_Way.mk (0 : Int) (0 : Int))) (1 : Int)).bind fun x13 =>
          some (.inl (List.set (List.set (List.replicate (9 : Int).toNat (api_Way.mk (0 : Int) (0 : Int))) (0 : Int).toNat (api_Way.mk (0 : Int) (0 : Int))) (1 : Int).toNat y11))
        else
          (ways_first [(ways_choice.mk false (api_Way.mk (1 : Int) (1 : Int))), (ways_choice.mk (decide ((1 : Int) < p_.Parts)) (api_Way.mk (4 : Int) (1 : Int))), (ways_choice.mk true (api_Way.mk (4 : Int) (0 : Int)))]).bind fun y14 =>
          (chkO (decide (0 ≤ (1 : Int)) && decide ((1 : Int) < (((List.replicate (9 : Int).toNat (api_Way.mk (0 : Int) (0 : Int))).length : Nat) : Int)))).bind fun _ =>
          (getI (List.set (List.replicate (9 : Int).toNat (api_Way.mk (0 : Int) (0 : Int))) (0 : Int).toNat (api_Way.mk (0 : Int) (0 : Int))) (1 : Int)).bind fun x16 =>
          some (.inl (List.set (List.set (List.replicate (9 : Int).toNat (api_Way.mk (0 : Int) (0 : Int))) (0 : Int).toNat (api_Way.mk (0 : Int) (0 : Int))) (1 : Int).toNat y14))))
      fun s2 =>
        (ways_first [(ways_choice.mk s1 (api_Way.mk (0 : Int) (0 : Int))), (ways_choice.mk true (api_Way.mk (3 : Int) (2 : Int)))]).bind fun y17 =>
        (chkO (decide (0 ≤ (2 : Int)) && decide ((2 : Int) < ((s2.length : Nat) : Int)))).bind fun _ =>
        (getI s2 (2 : Int)).bind fun x19 =>
        (ways_first [(ways_choice.mk (p_.Delete != (0 : Int)) (api_Way.mk (0 : Int) (0 : Int))), (ways_choice.mk s1 (api_Way.mk (2 : Int) (0 : Int))), (ways_choice.mk true (api_Way.mk (3 : Int) (2 : Int)))]).bind fun y20 =>
        (chkO (decide (0 ≤ (3 : Int)) && decide ((3 : Int) < ((s2.length : Nat) : Int)))).bind fun _ =>
        (getI (List.set s2 (2 : Int).toNat y17) (3 : Int)).bind fun x22 =>
        (seqF (A := (List api_Way)) (
          (bif p_.React then
            (ways_first [(ways_choice.mk (!(decide ((1 : Int) < p_.Parts))) (api_Way.mk (0 : Int) (0 : Int))), (ways_choice.mk p_.React (api_Way.mk (0 : Int) (1 : Int))), (ways_choice.mk true (api_Way.mk (3 : Int) (2 : Int)))]).bind fun y29 =>
            (chkO (decide (0 ≤ (4 : Int)) && decide ((4 : Int) < ((s2.length : Nat) : Int)))).bind fun _ =>
            (getI (List.set (List.set s2 (2 : Int).toNat y17) (3 : Int).toNat y20) (4 : Int)).bind fun x31 =>
            some (.inl (List.set (List.set (List.set s2 (2 : Int).toNat y17) (3 : Int).toNat y20) (4 : Int).toNat y29))
          else
            (ways_first [(ways_choice.mk false (api_Way.mk (0 : Int) (0 : Int))), (ways_choice.mk p_.React (api_Way.mk (0 : Int) (1 : Int))), (ways_choice.mk true (api_Way.mk (3 : Int) (2 : Int)))]).bind fun y32 =>
            (chkO (decide (0 ≤ (4 : Int)) && decide ((4 : Int) < ((s2.length : Nat) : Int)))).bind fun _ =>
            (getI (List.set (List.set s2 (2 : Int).toNat y17) (3 : Int).toNat y20) (4 : Int)).bind fun x34 =>
            some (.inl (List.set (List.set (List.set s2 (2 : Int).toNat y17) (3 : Int).toNat y20) (4 : Int).toNat y32))))
        fun s3 =>
          (ways_first [(ways_choice.mk (p_.Thread == (2 : Int)) (api_Way.mk (0 : Int) (0 : Int))), (ways_choice.mk (p_.Thread == (1 : Int)) (api_Way.mk (2 : Int) (1 : Int))), (ways_choice.mk true (api_Way.mk (2 : Int) (2 : Int)))]).bind fun y35 =>
          (chkO (decide (0 ≤ (5 : Int)) && decide ((5 : Int) < ((s3.length : Nat) : Int)))).bind fun _ =>
          (getI s3 (5 : Int)).bind fun x37 =>
          (ways_first [(ways_choice.mk p_.Quote (api_Way.mk (0 : Int) (0 : Int))), (ways_choice.mk true (api_Way.mk (2 : Int) (2 : Int)))]).bind fun y38 =>
          (chkO (decide (0 ≤ (6 : Int)) && decide ((6 : Int) < ((s3.length : Nat) : Int)))).bind fun _ =>
          (getI (List.set s3 (5 : Int).toNat y35) (6 : Int)).bind fun x40 =>
          (ways_first [(ways_choice.mk p_.Mention (api_Way.mk (0 : Int) (0 : Int))), (ways_choice.mk true (api_Way.mk (2 : Int) (2 : Int)))]).bind fun y41 =>
          (chkO (decide (0 ≤ (7 : Int)) && decide ((7 : Int) < ((s3.length : Nat) : Int)))).bind fun _ =>
          (getI (List.set (List.set s3 (5 : Int).toNat y35) (6 : Int).toNat y38) (7 : Int)).bind fun x43 =>
          (ways_first [(ways_choice.mk (p_.Files == (4 : Int)) (api_Way.mk (0 : Int) (0 : Int))), (ways_choice.mk (decide ((0 : Int) < p_.Files)) (api_Way.mk (4 : Int) (1 : Int))), (ways_choice.mk true (api_Way.mk (2 : Int) (2 : Int)))]).bind fun y44 =>
          (chkO (decide (0 ≤ (8 : Int)) && decide ((8 : Int) < ((s3.length : Nat) : Int)))).bind fun _ =>
          (getI (List.set (List.set (List.set s3 (5 : Int).toNat y35) (6 : Int).toNat y38) (7 : Int).toNat y41) (8 : Int)).bind fun x46 =>
          some ((List.set (List.set (List.set (List.set s3 (5 : Int).toNat y35) (6 : Int).toNat y38) (7 : Int).toNat y41) (8 : Int).toNat y44), (0 : Int))))))
theorem ways_Compile_fn {dr : Prop} {p_ : api_Profile} {r : (List api_Way) × Int} (h : ways_Compile p_ = some r) : Fn dr Tryz.prog 7 [.agg (api_Profile.av p_)] (.tup [.ow 2 (List.map api_Way.enc r.1), VI r.2]) := by
  refine Fn.of_AW (dr := dr) (F := FnX dr Tryz.prog) (base := 0) (js := [6, 9, 12]) mixed tok noeqs (fun _ _ _ h => h) Tryz.call7 Tryz.func7 rfl Tryz.ntmps7 (by rw [Tryz.results7]) (by simp) ?_; have hG : (fun x => x = r) r := rfl; unfold ways_Compile at h; refine Zap 2 rfl ?_; refine Zm (.lp 1 1 0) (Mem.add _ 1 (.box (api_Profile.av p_))) rfl rfl ?_; refine Zm (.row 2 1 0) (Mem.add _ 2 (.rows 2 (List.map api_Way.enc ([] : List api_Way)) false)) rfl rfl ?_; refine Zpp 6 rfl ?_; refine Zo (.agg (api_Profile.av p_)) rfl rfl ?_; refine Y1 rfl ?_; refine bindK h fun y2 hy2 h => ?_; refine W.call rfl (profile_Check_fn hy2) ?_; refine Zwc 10 rfl ?_; refine A.condB rfl h (fun _ h => ?_) (fun _ h => ?_)
  · refine Zcp 3 rfl ?_; refine Zm (.row 2 2 0) (Mem.add _ 2 (.rows 2 (List.map api_Way.enc ([] : List api_Way)) false)) rfl rfl ?_; refine Zpb 5 rfl ?_; cases h; cases hG; exact ⟨rfl, rfl, rfl, trivial⟩
  · refine Zcp 4 rfl ?_; refine Zo (.agg [VI 0, VI 0]) rfl rfl ?_; refine Zo (.agg [VI 2, VI 2]) rfl rfl ?_; refine Zo (.agg [VI 3, VI 2]) rfl rfl ?_; refine Zm (.lp 5 1 0) (Mem.add _ 5 (.box [VI 0, VI 0])) rfl rfl ?_; refine Zm (.lp 6 1 0) (Mem.add _ 6 (.box [VI 0, VI 0])) rfl rfl ?_; refine Zm (.lp 7 1 0) (Mem.add _ 7 (.box [VI 0, VI 0])) rfl rfl ?_; refine Zm (.tup []) (Mem.set _ 5 1 (some (.box [VI 0, VI 0]))) rfl rfl ?_; refine Zm (.tup []) (Mem.set _ 6 1 (some (.box [VI 2, VI 2]))) rfl rfl ?_; refine Zm (.tup []) (Mem.set _ 7 1 (some (.box [VI 3, VI 2]))) rfl rfl ?_; refine Zpc 2 rfl ?_; refine A.join (fun (s1 : Bool) => [(1, .lp 900000 1 0), (5, .lp 900001 1 0), (6, .lp 900002 1 0), (7, .lp 900003 1 0), (8, VB (decide ((1 : Int) < p_.Parts))), (9, VB s1)]) (fun s1 => [(900000, .box (api_Profile.av p_)), (900001, .box [VI 0, VI 0]), (900002, .box [VI 2, VI 2]), (900003, .box [VI 3, VI 2])]) _ h hG rfl ?_ ?_
    · intro J f h hG; refine Za ?_; refine A.regionD (by kernel_rfl) ?_; refine Zpp 7 rfl ?_; refine YT rfl rfl rfl h (fun _ h => ?_) (fun _ h => ?_)
      · refine Zwb 7 rfl ?_; cases h; exact Zh hG [] [(900000, (1, 1)), (900001, (5, 1)), (900002, (6, 1)), (900003, (7, 1))] rfl rfl (Ze rfl rfl (Ze rfl rfl (Ze rfl rfl (Ze rfl rfl (Ze rfl rfl (Ze rfl rfl trivial)))))) (Zc rfl rfl (Zc rfl rfl (Zc rfl rfl (Zc rfl rfl trivial))))
      · refine Zpb 6 rfl ?_; cases h; exact Zh hG [] [(900000, (1, 1)), (900001, (5, 1)), (900002, (6, 1)), (900003, (7, 1))] rfl rfl (Ze rfl rfl (Ze rfl rfl (Ze rfl rfl (Ze rfl rfl (Ze rfl rfl (Ze rfl rfl trivial)))))) (Zc rfl rfl (Zc rfl rfl (Zc rfl rfl (Zc rfl rfl trivial))))
    · intro s1 r2 h hG; refine Zcp 2 rfl ?_; refine Y1 rfl ?_; refine W.chk rfl (by decide) ?_; refine W.rows (9 : Int).toNat (List.replicate (9 : Int).toNat (api_Way.mk (0 : Int) (0 : Int))).length (List.replicate (9 : Int).toNat (api_Way.enc (api_Way.mk (0 : Int) (0 : Int)))) (List.map api_Way.enc (List.replicate (9 : Int).toNat (api_Way.mk (0 : Int) (0 : Int)))) rfl List.length_replicate.symm List.map_replicate.symm ?_; refine Zo (.row 30 2 (List.replicate (9 : Int).toNat (api_Way.mk (0 : Int) (0 : Int))).length) rfl rfl ?_; refine Zpp 4 rfl ?_; refine Zo (.row 30 2 (List.replicate (9 : Int).toNat (api_Way.mk (0 : Int) (0 : Int))).length) rfl rfl ?_; refine Zo (.agg [VI 0, VI 0]) rfl rfl ?_; refine Y1 rfl ?_; refine chkK h fun g3 h => ?_; refine W.chk rfl (by first | (simp; done) | simpa using g3) ?_; refine W.det (.rp 30 2 (0 : Int).toNat 0) _ rfl ?_; refine Y1 rfl ?_; refine bindK h fun x4 hx4 h => ?_; refine W.elem rfl (elemG hx4) ?_; refine W.set (api_Way.mk (0 : Int) (0 : Int)) rfl rfl ?_; refine Zpc 2 rfl ?_; refine A.join (fun (s2 : (List api_Way)) => [(1, .lp 900000 1 0), (5, .lp 900001 1 0), (6, .lp 900002 1 0), (7, .lp 900003 1 0), (8, VB (decide ((1 : Int) < p_.Parts))), (9, VB s1), (10, .row 900004 1 s2.length)]) (fun s2 => [(900000, .box (api_Profile.av p_)), (900001, .box [VI 0, VI 0]), (900002, .box [VI 2, VI 2]), (900003, .box [VI 3, VI 2]), (900004, .rows 2 (List.map api_Way.enc s2) false)]) _ h hG rfl ?_ ?_
      · intro J f h hG; refine Zap 1 rfl ?_; refine Zo (.row 30 2 (List.replicate (9 : Int).toNat (api_Way.mk (0 : Int) (0 : Int))).length) rfl rfl ?_; refine Zpp 2 rfl ?_; refine YT rfl rfl rfl h (fun _ h => ?_) (fun _ h => ?_)
        · refine Zwp 7 rfl ?_; refine Zo (.agg [VI 1, VI 1]) rfl rfl ?_; refine Zo (.agg [VB (decide ((4400 : Int) ≤ (IntKind.i64.wrap (p_.Size * p_.Parts)))), VI 1, VI 1]) rfl rfl ?_; refine Zpp 1 rfl ?_; refine Zo (.agg [VI 4, VI 1]) rfl rfl ?_; refine Zo (.agg [VB (decide ((1 : Int) < p_.Parts)), VI 4, VI 1]) rfl rfl ?_; refine Zo (.agg [VI 4, VI 0]) rfl rfl ?_; refine Zo (.agg [VB true, VI 4, VI 0]) rfl rfl ?_; refine Zm (.row 51 2 3) (Mem.add _ 51 (.rows 3 (List.map ways_choice.enc [(ways_choice.mk (decide ((4400 : Int) ≤ (IntKind.i64.wrap (p_.Size * p_.Parts)))) (api_Way.mk (1 : Int) (1 : Int))), (ways_choice.mk (decide ((1 : Int) < p_.Parts)) (api_Way.mk (4 : Int) (1 : Int))), (ways_choice.mk true (api_Way.mk (4 : Int) (0 : Int)))]) false)) rfl rfl ?_; refine Y1 rfl ?_; refine bindK h fun y11 hy11 h => ?_; refine W.call rfl (ways_first_fn hy11) ?_; refine W.det (.agg (api_Way.av y11)) _ rfl ?_; refine Y1 rfl ?_; refine chkK h fun g12 h => ?_; refine W.chk rfl (by first | (simp; done) | simpa using g12) ?_; refine W.det (.rp 30 2 (1 : Int).toNat 0) _ rfl ?_; refine Y1 rfl ?_; refine bindK h fun x13 hx13 h => ?_; refine W.elem rfl (elemG hx13) ?_; refine W.set y11 rfl rfl ?_; refine Zpb 1 rfl ?_; cases h; exact Zh hG [] [(900000, (900000, 1)), (900001, (900001, 1)), (900002, (900002, 1)), (900003, (900003, 1)), (900004, (30, 2))] rfl rfl (Ze rfl rfl (Ze rfl rfl (Ze rfl rfl (Ze rfl rfl (Ze rfl rfl (Ze rfl rfl (chkE.c rfl (by simp only [List.length_set]; rfl) trivial))))))) (Zc rfl rfl (Zc rfl rfl (Zc rfl rfl (Zc rfl rfl (Zc rfl rfl trivial)))))
        · refine Zpp 6 rfl ?_; refine Zo (.agg [VI 1, VI 1]) rfl rfl ?_; refine Zo (.agg [VB false, VI 1, VI 1]) rfl rfl ?_; refine Zpp 1 rfl ?_; refine Zo (.agg [VI 4, VI 1]) rfl rfl ?_; refine Zo (.agg [VB (decide ((1 : Int) < p_.Parts)), VI 4, VI 1]) rfl rfl ?_; refine Zo (.agg [VI 4, VI 0]) rfl rfl ?_; refine Zo (.agg [VB true, VI 4, VI 0]) rfl rfl ?_; refine Zm (.row 51 2 3) (Mem.add _ 51 (.rows 3 (List.map ways_choice.enc [(ways_choice.mk false (api_Way.mk (1 : Int) (1 : Int))), (ways_choice.mk (decide ((1 : Int) < p_.Parts)) (api_Way.mk (4 : Int) (1 : Int))), (ways_choice.mk true (api_Way.mk (4 : Int) (0 : Int)))]) false)) rfl rfl ?_; refine Y1 rfl ?_; refine bindK h fun y14 hy14 h => ?_; refine W.call rfl (ways_first_fn hy14) ?_; refine W.det (.agg (api_Way.av y14)) _ rfl ?_; refine Y1 rfl ?_; refine chkK h fun g15 h => ?_; refine W.chk rfl (by first | (simp; done) | simpa using g15) ?_; refine W.det (.rp 30 2 (1 : Int).toNat 0) _ rfl ?_; refine Y1 rfl ?_; refine bindK h fun x16 hx16 h => ?_; refine W.elem rfl (elemG hx16) ?_; refine W.set y14 rfl rfl ?_; refine Zpb 1 rfl ?_; cases h; exact Zh hG [] [(900000, (900000, 1)), (900001, (900001, 1)), (900002, (900002, 1)), (900003, (900003, 1)), (900004, (30, 2))] rfl rfl (Ze rfl rfl (Ze rfl rfl (Ze rfl rfl (Ze rfl rfl (Ze rfl rfl (Ze rfl rfl (chkE.c rfl (by simp only [List.length_set]; rfl) trivial))))))) (Zc rfl rfl (Zc rfl rfl (Zc rfl rfl (Zc rfl rfl (Zc rfl rfl trivial)))))
      · intro s2 r2 h hG; refine Zcp 2 rfl ?_; refine Zo (.row 900004 1 s2.length) rfl rfl ?_; refine Zpp 1 rfl ?_; refine Zo (.agg [VI 0, VI 0]) rfl rfl ?_; refine Zo (.agg [VB s1, VI 0, VI 0]) rfl rfl ?_; refine Zo (.agg [VI 3, VI 2]) rfl rfl ?_; refine Zo (.agg [VB true, VI 3, VI 2]) rfl rfl ?_; refine Zm (.row 60 2 2) (Mem.add _ 60 (.rows 3 (List.map ways_choice.enc [(ways_choice.mk s1 (api_Way.mk (0 : Int) (0 : Int))), (ways_choice.mk true (api_Way.mk (3 : Int) (2 : Int)))]) false)) rfl rfl ?_; refine Y1 rfl ?_; refine bindK h fun y17 hy17 h => ?_; refine W.call rfl (ways_first_fn hy17) ?_; refine W.det (.agg (api_Way.av y17)) _ rfl ?_; refine Y1 rfl ?_; refine chkK h fun g18 h => ?_; refine W.chk rfl (by first | (simp; done) | simpa using g18) ?_; refine W.det (.rp 900004 1 (2 : Int).toNat 0) _ rfl ?_; refine Y1 rfl ?_; refine bindK h fun x19 hx19 h => ?_; refine W.elem rfl (elemG hx19) ?_; refine W.set y17 rfl rfl ?_; refine Zpp 4 rfl ?_; refine Zo (.row 900004 1 s2.length) rfl rfl ?_; refine Zpp 3 rfl ?_; refine Zo (.agg [VI 0, VI 0]) rfl rfl ?_; refine Zo (.agg [VB (p_.Delete != (0 : Int)), VI 0, VI 0]) rfl rfl ?_; refine Zpp 1 rfl ?_; refine Zo (.agg [VI 2, VI 0]) rfl rfl ?_; refine Zo (.agg [VB s1, VI 2, VI 0]) rfl rfl ?_; refine Zo (.agg [VI 3, VI 2]) rfl rfl ?_; refine Zo (.agg [VB true, VI 3, VI 2]) rfl rfl ?_; refine Zm (.row 74 2 3) (Mem.add _ 74 (.rows 3 (List.map ways_choice.enc [(ways_choice.mk (p_.Delete != (0 : Int)) (api_Way.mk (0 : Int) (0 : Int))), (ways_choice.mk s1 (api_Way.mk (2 : Int) (0 : Int))), (ways_choice.mk true (api_Way.mk (3 : Int) (2 : Int)))]) false)) rfl rfl ?_; refine Y1 rfl ?_; refine bindK h fun y20 hy20 h => ?_; refine W.call rfl (ways_first_fn hy20) ?_; refine W.det (.agg (api_Way.av y20)) _ rfl ?_; refine Y1 rfl ?_; refine chkK h fun g21 h => ?_; refine W.chk rfl (by first | (simp; done) | simpa using g21) ?_; refine W.det (.rp 900004 1 (3 : Int).toNat 0) _ rfl ?_; refine Y1 rfl ?_; refine bindK h fun x22 hx22 h => ?_; refine W.elem rfl (elemG hx22) ?_; refine W.set y20 rfl rfl ?_; refine Zpc 2 rfl ?_; refine A.join (fun (s3 : (List api_Way)) => [(1, .lp 900000 1 0), (5, .lp 900001 1 0), (6, .lp 900002 1 0), (10, .row 900003 1 s3.length)]) (fun s3 => [(900000, .box (api_Profile.av p_)), (900001, .box [VI 0, VI 0]), (900002, .box [VI 2, VI 2]), (900003, .rows 2 (List.map api_Way.enc s3) false)]) _ h hG rfl ?_ ?_
        · intro J f h hG; refine Zap 1 rfl ?_; refine Zo (.row 900004 1 s2.length) rfl rfl ?_; refine Zpp 3 rfl ?_; refine YT rfl rfl rfl h (fun _ h => ?_) (fun _ h => ?_)
          · refine Zwp 3 rfl ?_; refine Zo (.agg [VI 0, VI 0]) rfl rfl ?_; refine Zo (.agg [VB (!(decide ((1 : Int) < p_.Parts))), VI 0, VI 0]) rfl rfl ?_; refine Zpp 2 rfl ?_; refine Zo (.agg [VI 0, VI 1]) rfl rfl ?_; refine Zo (.agg [VB p_.React, VI 0, VI 1]) rfl rfl ?_; refine Zo (.agg [VI 3, VI 2]) rfl rfl ?_; refine Zo (.agg [VB true, VI 3, VI 2]) rfl rfl ?_; refine Zm (.row 92 2 3) (Mem.add _ 92 (.rows 3 (List.map ways_choice.enc [(ways_choice.mk (!(decide ((1 : Int) < p_.Parts))) (api_Way.mk (0 : Int) (0 : Int))), (ways_choice.mk p_.React (api_Way.mk (0 : Int) (1 : Int))), (ways_choice.mk true (api_Way.mk (3 : Int) (2 : Int)))]) false)) rfl rfl ?_; refine Y1 rfl ?_; refine bindK h fun y29 hy29 h => ?_; refine W.call rfl (ways_first_fn hy29) ?_; refine W.det (.agg (api_Way.av y29)) _ rfl ?_; refine Y1 rfl ?_; refine chkK h fun g30 h => ?_; refine W.chk rfl (by first | (simp; done) | simpa using g30) ?_; refine W.det (.rp 900004 1 (4 : Int).toNat 0) _ rfl ?_; refine Y1 rfl ?_; refine bindK h fun x31 hx31 h => ?_; refine W.elem rfl (elemG hx31) ?_; refine W.set y29 rfl rfl ?_; refine Zpb 1 rfl ?_; cases h; exact Zh hG [] [(900000, (900000, 1)), (900001, (900001, 1)), (900002, (900002, 1)), (900003, (900004, 1))] rfl rfl (Ze rfl rfl (Ze rfl rfl (Ze rfl rfl (chkE.c rfl (by simp only [List.length_set]; rfl) trivial)))) (Zc rfl rfl (Zc rfl rfl (Zc rfl rfl (Zc rfl rfl trivial))))
          · refine Zpp 2 rfl ?_; refine Zo (.agg [VI 0, VI 0]) rfl rfl ?_; refine Zo (.agg [VB false, VI 0, VI 0]) rfl rfl ?_; refine Zpp 2 rfl ?_; refine Zo (.agg [VI 0, VI 1]) rfl rfl ?_; refine Zo (.agg [VB p_.React, VI 0, VI 1]) rfl rfl ?_; refine Zo (.agg [VI 3, VI 2]) rfl rfl ?_; refine Zo (.agg [VB true, VI 3, VI 2]) rfl rfl ?_; refine Zm (.row 92 2 3) (Mem.add _ 92 (.rows 3 (List.map ways_choice.enc [(ways_choice.mk false (api_Way.mk (0 : Int) (0 : Int))), (ways_choice.mk p_.React (api_Way.mk (0 : Int) (1 : Int))), (ways_choice.mk true (api_Way.mk (3 : Int) (2 : Int)))]) false)) rfl rfl ?_; refine Y1 rfl ?_; refine bindK h fun y32 hy32 h => ?_; refine W.call rfl (ways_first_fn hy32) ?_; refine W.det (.agg (api_Way.av y32)) _ rfl ?_; refine Y1 rfl ?_; refine chkK h fun g33 h => ?_; refine W.chk rfl (by first | (simp; done) | simpa using g33) ?_; refine W.det (.rp 900004 1 (4 : Int).toNat 0) _ rfl ?_; refine Y1 rfl ?_; refine bindK h fun x34 hx34 h => ?_; refine W.elem rfl (elemG hx34) ?_; refine W.set y32 rfl rfl ?_; refine Zpb 1 rfl ?_; cases h; exact Zh hG [] [(900000, (900000, 1)), (900001, (900001, 1)), (900002, (900002, 1)), (900003, (900004, 1))] rfl rfl (Ze rfl rfl (Ze rfl rfl (Ze rfl rfl (chkE.c rfl (by simp only [List.length_set]; rfl) trivial)))) (Zc rfl rfl (Zc rfl rfl (Zc rfl rfl (Zc rfl rfl trivial))))
        · intro s3 r2 h hG; refine Zcp 2 rfl ?_; refine Zo (.row 900003 1 s3.length) rfl rfl ?_; refine Zpp 3 rfl ?_; refine Zo (.agg [VI 0, VI 0]) rfl rfl ?_; refine Zo (.agg [VB (p_.Thread == (2 : Int)), VI 0, VI 0]) rfl rfl ?_; refine Zpp 3 rfl ?_; refine Zo (.agg [VI 2, VI 1]) rfl rfl ?_; refine Zo (.agg [VB (p_.Thread == (1 : Int)), VI 2, VI 1]) rfl rfl ?_; refine Zo (.agg [VI 2, VI 2]) rfl rfl ?_; refine Zo (.agg [VB true, VI 2, VI 2]) rfl rfl ?_; refine Zm (.row 108 2 3) (Mem.add _ 108 (.rows 3 (List.map ways_choice.enc [(ways_choice.mk (p_.Thread == (2 : Int)) (api_Way.mk (0 : Int) (0 : Int))), (ways_choice.mk (p_.Thread == (1 : Int)) (api_Way.mk (2 : Int) (1 : Int))), (ways_choice.mk true (api_Way.mk (2 : Int) (2 : Int)))]) false)) rfl rfl ?_; refine Y1 rfl ?_; refine bindK h fun y35 hy35 h => ?_; refine W.call rfl (ways_first_fn hy35) ?_; refine W.det (.agg (api_Way.av y35)) _ rfl ?_; refine Y1 rfl ?_; refine chkK h fun g36 h => ?_; refine W.chk rfl (by first | (simp; done) | simpa using g36) ?_; refine W.det (.rp 900003 1 (5 : Int).toNat 0) _ rfl ?_; refine Y1 rfl ?_; refine bindK h fun x37 hx37 h => ?_; refine W.elem rfl (elemG hx37) ?_; refine W.set y35 rfl rfl ?_; refine Zpp 4 rfl ?_; refine Zo (.row 900003 1 s3.length) rfl rfl ?_; refine Zpp 2 rfl ?_; refine Zo (.agg [VI 0, VI 0]) rfl rfl ?_; refine Zo (.agg [VB p_.Quote, VI 0, VI 0]) rfl rfl ?_; refine Zo (.agg [VI 2, VI 2]) rfl rfl ?_; refine Zo (.agg [VB true, VI 2, VI 2]) rfl rfl ?_; refine Zm (.row 118 2 2) (Mem.add _ 118 (.rows 3 (List.map ways_choice.enc [(ways_choice.mk p_.Quote (api_Way.mk (0 : Int) (0 : Int))), (ways_choice.mk true (api_Way.mk (2 : Int) (2 : Int)))]) false)) rfl rfl ?_; refine Y1 rfl ?_; refine bindK h fun y38 hy38 h => ?_; refine W.call rfl (ways_first_fn hy38) ?_; refine W.det (.agg (api_Way.av y38)) _ rfl ?_; refine Y1 rfl ?_; refine chkK h fun g39 h => ?_; refine W.chk rfl (by first | (simp; done) | simpa using g39) ?_; refine W.det (.rp 900003 1 (6 : Int).toNat 0) _ rfl ?_; refine Y1 rfl ?_; refine bindK h fun x40 hx40 h => ?_; refine W.elem rfl (elemG hx40) ?_; refine W.set y38 rfl rfl ?_; refine Zpp 4 rfl ?_; refine Zo (.row 900003 1 s3.length) rfl rfl ?_; refine Zpp 2 rfl ?_; refine Zo (.agg [VI 0, VI 0]) rfl rfl ?_; refine Zo (.agg [VB p_.Mention, VI 0, VI 0]) rfl rfl ?_; refine Zo (.agg [VI 2, VI 2]) rfl rfl ?_; refine Zo (.agg [VB true, VI 2, VI 2]) rfl rfl ?_; refine Zm (.row 128 2 2) (Mem.add _ 128 (.rows 3 (List.map ways_choice.enc [(ways_choice.mk p_.Mention (api_Way.mk (0 : Int) (0 : Int))), (ways_choice.mk true (api_Way.mk (2 : Int) (2 : Int)))]) false)) rfl rfl ?_; refine Y1 rfl ?_; refine bindK h fun y41 hy41 h => ?_; refine W.call rfl (ways_first_fn hy41) ?_; refine W.det (.agg (api_Way.av y41)) _ rfl ?_; refine Y1 rfl ?_; refine chkK h fun g42 h => ?_; refine W.chk rfl (by first | (simp; done) | simpa using g42) ?_; refine W.det (.rp 900003 1 (7 : Int).toNat 0) _ rfl ?_; refine Y1 rfl ?_; refine bindK h fun x43 hx43 h => ?_; refine W.elem rfl (elemG hx43) ?_
          refine W.set y41 rfl rfl ?_; refine Zpp 4 rfl ?_; refine Zo (.row 900003 1 s3.length) rfl rfl ?_; refine Zpp 3 rfl ?_; refine Zo (.agg [VI 0, VI 0]) rfl rfl ?_; refine Zo (.agg [VB (p_.Files == (4 : Int)), VI 0, VI 0]) rfl rfl ?_; refine Zpp 3 rfl ?_; refine Zo (.agg [VI 4, VI 1]) rfl rfl ?_; refine Zo (.agg [VB (decide ((0 : Int) < p_.Files)), VI 4, VI 1]) rfl rfl ?_; refine Zo (.agg [VI 2, VI 2]) rfl rfl ?_; refine Zo (.agg [VB true, VI 2, VI 2]) rfl rfl ?_; refine Zm (.row 144 2 3) (Mem.add _ 144 (.rows 3 (List.map ways_choice.enc [(ways_choice.mk (p_.Files == (4 : Int)) (api_Way.mk (0 : Int) (0 : Int))), (ways_choice.mk (decide ((0 : Int) < p_.Files)) (api_Way.mk (4 : Int) (1 : Int))), (ways_choice.mk true (api_Way.mk (2 : Int) (2 : Int)))]) false)) rfl rfl ?_; refine Y1 rfl ?_; refine bindK h fun y44 hy44 h => ?_; refine W.call rfl (ways_first_fn hy44) ?_; refine W.det (.agg (api_Way.av y44)) _ rfl ?_; refine Y1 rfl ?_; refine chkK h fun g45 h => ?_; refine W.chk rfl (by first | (simp; done) | simpa using g45) ?_; refine W.det (.rp 900003 1 (8 : Int).toNat 0) _ rfl ?_; refine Y1 rfl ?_; refine bindK h fun x46 hx46 h => ?_; refine W.elem rfl (elemG hx46) ?_; refine W.set y44 rfl rfl ?_; refine Zpp 4 rfl ?_; refine Zo (.row 900003 1 s3.length) rfl rfl ?_; refine Zo (.row 900003 1 s3.length) rfl rfl ?_; refine Zpb 4 rfl ?_; cases h; cases hG; exact ⟨rfl, rfl, rfl, trivial⟩
noncomputable def slices_Equal_api_Way_api_Way_L1 (s1_ : (List api_Way)) (s2_ : (List api_Way)) (s3 : Int) : Option ((Int) ⊕ ((Unit) ⊕ (Bool))) :=
  (bif (decide (s3 < (s1_.length : Int))) then
    (getI s1_ s3).bind fun x23 =>
    (getI s2_ s3).bind fun x24 =>
    (bif (!((x23.How == x24.How) && ((x23.Finds == x24.Finds) && true))) then
      some (.inr (.inr false))
    else
      some (.inl (IntKind.i64.wrap (s3 + (1 : Int)))))
  else
    some (.inr (.inl ())))
noncomputable def slices_Equal_api_Way_api_Way (s1_ : (List api_Way)) (s2_ : (List api_Way)) : Option (Bool) :=
  (bif ((s1_.length : Int) != (s2_.length : Int)) then
    some false
  else
    (seqF (A := Unit) (
      loopF (slices_Equal_api_Way_api_Way_L1 s1_ s2_) (0 : Int))
    fun s2 =>
      some true))
theorem slices_Equal_api_Way_api_Way_fn {dr : Prop} {s1_ : (List api_Way)} {s2_ : (List api_Way)} {r : Bool} (h : slices_Equal_api_Way_api_Way s1_ s2_ = some r) : Fn dr Tryz.prog 22 [VF (List.map api_Way.enc s1_), VF (List.map api_Way.enc s2_)] (VB r) := by
  refine Fn.of_AW (dr := dr) (F := FnX dr Tryz.prog) (base := 0) (js := [9]) mixed tok noeqs (fun _ _ _ h => h) Tryz.call22 Tryz.func22 rfl Tryz.ntmps22 (by rw [Tryz.results22]) (by simp) ?_; have hG : (fun x => x = r) r := rfl; unfold slices_Equal_api_Way_api_Way at h; refine Zap 9 rfl ?_; refine Y1 rfl ?_; refine W.len rfl ?_; refine Zpp 1 rfl ?_; refine Y1 rfl ?_; refine W.len rfl ?_; refine Zpc 3 rfl ?_; refine A.condB rfl h (fun _ h => ?_) (fun _ h => ?_)
  · refine Zcb 7 rfl ?_; cases h; cases hG; exact ⟨rfl, trivial⟩
  · refine Zcc 2 rfl ?_; refine A.join (fun (s2 : Unit) => []) (fun s2 => []) _ h hG rfl ?_ ?_
    · intro J f h hG; refine Zap 3 rfl ?_; refine Y1 rfl ?_; refine W.len rfl ?_; refine Zpc 4 rfl ?_; refine A.loop (fun (s3 : Int) => [(0, VF (List.map api_Way.enc s1_)), (1, VF (List.map api_Way.enc s2_)), (12, VI (s1_.length : Int)), (13, VI s3)]) (fun s3 => []) _ h hG (Zf [] [] rfl rfl (Ze rfl rfl (Ze rfl rfl (Ze rfl rfl (Ze rfl rfl trivial)))) trivial) ?_; intro J s3 f h hG; unfold slices_Equal_api_Way_api_Way_L1 at h; refine Zac 6 rfl ?_; refine A.condB rfl h (fun _ h => ?_) (fun _ h => ?_)
      · refine Zcc 11 rfl ?_; refine A.regionD (by kernel_rfl) ?_; refine Zpp 2 rfl ?_; refine Y1 rfl ?_; refine bindK h fun x23 hx23 h => ?_; refine W.chk rfl (elemB hx23) ?_; refine W.elem rfl (elemG hx23) ?_; refine W.chk rfl rfl ?_; refine W.det (.fp [.v (.int .i64 x23.How), .v (.int .i64 x23.Finds)]) _ rfl ?_; refine Zo (.agg (api_Way.av x23)) rfl rfl ?_; refine Zpp 2 rfl ?_; refine Y1 rfl ?_; refine bindK h fun x24 hx24 h => ?_; refine W.chk rfl (elemB hx24) ?_; refine W.elem rfl (elemG hx24) ?_; refine W.chk rfl rfl ?_; refine W.det (.fp [.v (.int .i64 x24.How), .v (.int .i64 x24.Finds)]) _ rfl ?_; refine Zo (.agg (api_Way.av x24)) rfl rfl ?_; refine Zpc 3 rfl ?_; refine A.condB rfl h (fun _ h => ?_) (fun _ h => ?_)
        · refine Zcb 8 rfl ?_; refine headK.r ?_; refine Zob 1 rfl ?_; refine headK.r ?_; cases h; cases hG; exact ⟨rfl, trivial⟩
        · refine Zcb 7 rfl ?_; cases h; exact Zh hG [] [] rfl rfl (Ze rfl rfl (Ze rfl rfl (Ze rfl rfl (Ze rfl rfl trivial)))) trivial
      · refine Zcb 2 rfl ?_; refine headK.e ?_; refine Zob 1 rfl ?_; cases h; exact Zh hG [] [] rfl rfl trivial trivial
    · intro s2 r2 h hG; refine Zcb 6 rfl ?_; cases h; cases hG; exact ⟨rfl, trivial⟩
structure forth_network where
  p : api_Profile
  ways : (List api_Way)
  events : (List api_Event)
  bad : (List Int)
def forth_network.enc (x : forth_network) : List D := [.v (.string x.p.Name), .v (.int .i64 x.p.Edit), .v (.int .i64 x.p.Within), .v (.int .i64 x.p.Delete), .v (.bool x.p.React), .v (.int .i64 x.p.Thread), .v (.bool x.p.Quote), .v (.bool x.p.Mention), .v (.int .i64 x.p.Size), .v (.int .i64 x.p.Parts), .v (.int .i64 x.p.Files), .v (.int .i64 x.p.Bytes), .fz (List.map encS x.p.Types), .v (.int .i64 x.p.Join), .v (.int .i64 x.p.History), .v (.int .i64 x.p.Remove), .v (.int .i64 x.p.Level), .v (.bool x.p.Batch), .v (.int .i64 x.p.Rate), .v (.int .i64 x.p.Down), .v (.int .i64 x.p.Window), .v (.int .i64 x.p.Keep), .fz (List.map api_Way.enc x.ways), .fz (List.map api_Event.enc x.events), .fz (List.map (encI .i64) x.bad)]
abbrev forth_network.av (x : forth_network) : List AV := [VS x.p.Name, VI x.p.Edit, VI x.p.Within, VI x.p.Delete, VB x.p.React, VI x.p.Thread, VB x.p.Quote, VB x.p.Mention, VI x.p.Size, VI x.p.Parts, VI x.p.Files, VI x.p.Bytes, VF (List.map encS x.p.Types), VI x.p.Join, VI x.p.History, VI x.p.Remove, VI x.p.Level, VB x.p.Batch, VI x.p.Rate, VI x.p.Down, VI x.p.Window, VI x.p.Keep, VF (List.map api_Way.enc x.ways), VF (List.map api_Event.enc x.events), VF (List.map (encI .i64) x.bad)]
noncomputable def forth_network_message (n_ : forth_network) (id_ : Int) (than_ : Int) : Option (Bool) :=
  (bif (decide ((0 : Int) ≤ id_)) then
    (bif (decide (id_ < than_)) then
      (bif (decide (id_ < (n_.events.length : Int))) then
        (getI n_.events id_).bind fun x1 =>
        some (x1.Kind == (0 : Int))
      else
        some false)
    else
      some false)
  else
    some false)
theorem forth_network_message_fn {dr : Prop} {n_ : forth_network} {id_ : Int} {than_ : Int} {r : Bool} (h : forth_network_message n_ id_ than_ = some r) : Fn dr Tryz.prog 77 [.agg (forth_network.av n_), VI id_, VI than_] (VB r) := by
  refine Fn.of_AW (dr := dr) (F := FnX dr Tryz.prog) (base := 0) (js := []) mixed tok noeqs (fun _ _ _ h => h) Tryz.call77 Tryz.func77 rfl Tryz.ntmps77 (by rw [Tryz.results77]) (by simp) ?_; have hG : (fun x => x = r) r := rfl; unfold forth_network_message at h; refine Zap 2 rfl ?_; refine Zm (.lp 3 1 0) (Mem.add _ 3 (.box (forth_network.av n_))) rfl rfl ?_; refine Zpp 8 rfl ?_; refine YT rfl rfl rfl h (fun _ h => ?_) (fun _ h => ?_)
  · refine Zwp 5 rfl ?_; refine YT rfl rfl rfl h (fun _ h => ?_) (fun _ h => ?_)
    · refine Zwp 3 rfl ?_; refine Y2 rfl rfl rfl ?_; refine W.len rfl ?_; refine Zpp 3 rfl ?_; refine YT rfl rfl rfl h (fun _ h => ?_) (fun _ h => ?_)
      · refine Zwp 3 rfl ?_; refine Y2 rfl rfl rfl ?_; refine bindK h fun x1 hx1 h => ?_; refine W.chk rfl (elemB hx1) ?_; refine W.elem rfl (elemG hx1) ?_; refine W.chk rfl rfl ?_; refine W.det (.fp [.v (.int .i64 x1.Author), .v (.int .i64 x1.Seq), .fz (List.map (encI .i64) x1.Causes), .v (.int .i64 x1.Kind), .v (.int .i64 x1.Group), .v (.int .i64 x1.Target), .v (.int .i64 x1.Quote), .v (.int .i64 x1.Who), .v (.int .i64 x1.N), .v (.string x1.Text), .fz (List.map (encI .i64) x1.Files), .v (.int .i64 x1.Step)]) _ rfl ?_; refine Zu (.fp [.v (.int .i64 x1.Kind), .v (.int .i64 x1.Group), .v (.int .i64 x1.Target), .v (.int .i64 x1.Quote), .v (.int .i64 x1.Who), .v (.int .i64 x1.N), .v (.string x1.Text), .fz (List.map (encI .i64) x1.Files), .v (.int .i64 x1.Step)]) rfl rfl rfl rfl ?_; refine Zpb 7 rfl ?_; cases h; cases hG; exact ⟨rfl, trivial⟩
      · refine Zpb 11 rfl ?_; cases h; cases hG; exact ⟨rfl, trivial⟩
    · refine Zpb 18 rfl ?_; cases h; cases hG; exact ⟨rfl, trivial⟩
  · refine Zpb 23 rfl ?_; cases h; cases hG; exact ⟨rfl, trivial⟩
end Go.Proofs.YtljdbikodogeiaaGreatDoor
namespace Go.Proofs.YtljdbikodogeiaaGreatDoor
open Go.RowKit
attribute [local irreducible] IntKind.wrap AW runL Step.wp
set_option linter.unusedVariables false
set_option maxHeartbeats 4000000
set_option maxRecDepth 100000
noncomputable def view_Root_L1 (events_ : (List api_Event)) (s3 : Int × Int) : Option ((Int × Int) ⊕ ((Int) ⊕ (Int))) :=
  (bif (decide ((0 : Int) ≤ s3.2)) then
    (view_parent events_ s3.2).bind fun y10 =>
    some (.inl (s3.2, y10))
  else
    some (.inr (.inl s3.1)))
noncomputable def view_Root (events_ : (List api_Event)) (id_ : Int) : Option (Int) :=
  (view_message events_ id_).bind fun y2 =>
  (bif (!y2) then
    some (-1 : Int)
  else
    (seqF (A := Int) (
      (view_parent events_ id_).bind fun y7 =>
      loopF (view_Root_L1 events_) (id_, y7))
    fun s2 =>
      some s2))
theorem view_Root_fn {dr : Prop} {events_ : (List api_Event)} {id_ : Int} {r : Int} (h : view_Root events_ id_ = some r) : Fn dr Tryz.prog 15 [VF (List.map api_Event.enc events_), VI id_] (VI r) := by
  refine Fn.of_AW (dr := dr) (F := FnX dr Tryz.prog) (base := 0) (js := [7]) mixed tok noeqs (fun _ _ _ h => h) Tryz.call15 Tryz.func15 rfl Tryz.ntmps15 (by rw [Tryz.results15]) (by simp) ?_; have hG : (fun x => x = r) r := rfl; unfold view_Root at h; refine Zap 10 rfl ?_; refine Y1 rfl ?_; refine bindK h fun y2 hy2 h => ?_; refine W.call rfl (view_message_fn hy2) ?_; refine Zwc 4 rfl ?_; refine A.condB rfl h (fun _ h => ?_) (fun _ h => ?_)
  · refine Zcb 7 rfl ?_; cases h; cases hG; exact ⟨rfl, trivial⟩
  · refine Zcc 2 rfl ?_; refine A.join (fun (s2 : Int) => [(1, VI s2)]) (fun s2 => []) _ h hG rfl ?_ ?_
    · intro J f h hG; refine Zap 4 rfl ?_; refine Y1 rfl ?_; refine bindK h fun y7 hy7 h => ?_; refine W.call rfl (view_parent_fn hy7) ?_; refine Zwc 5 rfl ?_; refine A.loop (fun (s3 : Int × Int) => [(0, VF (List.map api_Event.enc events_)), (1, VI s3.1), (5, VI s3.2)]) (fun s3 => []) _ h hG (Zf [] [] rfl rfl (Ze rfl rfl (Ze rfl rfl (Ze rfl rfl trivial))) trivial) ?_; intro J s3 f h hG; unfold view_Root_L1 at h; refine Zac 7 rfl ?_; refine A.condB rfl h (fun _ h => ?_) (fun _ h => ?_)
      · refine Zcp 13 rfl ?_; refine Y1 rfl ?_; refine bindK h fun y10 hy10 h => ?_; refine W.call rfl (view_parent_fn hy10) ?_; refine Zwb 3 rfl ?_; cases h; exact Zh hG [] [] rfl rfl (Ze rfl rfl (Ze rfl rfl (Ze rfl rfl trivial))) trivial
      · refine Zcb 2 rfl ?_; refine headK.e ?_; refine Zob 1 rfl ?_; cases h; exact Zh hG [] [] rfl rfl (Ze rfl rfl trivial) trivial
    · intro s2 r2 h hG; refine Zcb 7 rfl ?_; cases h; cases hG; exact ⟨rfl, trivial⟩
noncomputable def forth_network_place (n_ : forth_network) (id_ : Int) : Option (Int) :=
  (bif (n_.p.Thread == (2 : Int)) then
    some id_
  else
    (bif (n_.p.Thread == (1 : Int)) then
      (view_Root n_.events id_).bind fun y2 =>
      some y2
    else
      some (-1 : Int)))
theorem forth_network_place_fn {dr : Prop} {n_ : forth_network} {id_ : Int} {r : Int} (h : forth_network_place n_ id_ = some r) : Fn dr Tryz.prog 78 [.agg (forth_network.av n_), VI id_] (VI r) := by
  refine Fn.of_AW (dr := dr) (F := FnX dr Tryz.prog) (base := 0) (js := []) mixed tok noeqs (fun _ _ _ h => h) Tryz.call78 Tryz.func78 rfl Tryz.ntmps78 (by rw [Tryz.results78]) (by simp) ?_; have hG : (fun x => x = r) r := rfl; unfold forth_network_place at h; refine Zap 2 rfl ?_; refine Zm (.lp 2 1 0) (Mem.add _ 2 (.box (forth_network.av n_))) rfl rfl ?_; refine Zpc 18 rfl ?_; refine A.condB rfl h (fun _ h => ?_) (fun _ h => ?_)
  · refine Zcb 9 rfl ?_; cases h; cases hG; exact ⟨rfl, trivial⟩
  · refine Zcc 6 rfl ?_; refine A.condB rfl h (fun _ h => ?_) (fun _ h => ?_)
    · refine Zcp 5 rfl ?_; refine Y1 rfl ?_; refine bindK h fun y2 hy2 h => ?_; refine W.call rfl (view_Root_fn hy2) ?_; refine Zwb 7 rfl ?_; cases h; cases hG; exact ⟨rfl, trivial⟩
    · refine Zcb 9 rfl ?_; cases h; cases hG; exact ⟨rfl, trivial⟩
noncomputable def forth_network_same (n_ : forth_network) (construct_ : Int) : Option (Bool) :=
  (getI n_.ways construct_).bind fun x1 =>
  some (x1.How == (0 : Int))
theorem forth_network_same_fn {dr : Prop} {n_ : forth_network} {construct_ : Int} {r : Bool} (h : forth_network_same n_ construct_ = some r) : Fn dr Tryz.prog 81 [.agg (forth_network.av n_), VI construct_] (VB r) := by
  refine Fn.of_AW (dr := dr) (F := FnX dr Tryz.prog) (base := 0) (js := []) mixed tok noeqs (fun _ _ _ h => h) Tryz.call81 Tryz.func81 rfl Tryz.ntmps81 (by rw [Tryz.results81]) (by simp) ?_; have hG : (fun x => x = r) r := rfl; unfold forth_network_same at h; refine Zap 2 rfl ?_; refine Zm (.lp 2 1 0) (Mem.add _ 2 (.box (forth_network.av n_))) rfl rfl ?_; refine Zpp 8 rfl ?_; refine Y1 rfl ?_; refine bindK h fun x1 hx1 h => ?_; refine W.chk rfl (elemB hx1) ?_; refine W.elem rfl (elemG hx1) ?_; refine W.chk rfl rfl ?_; refine W.det (.fp [.v (.int .i64 x1.How), .v (.int .i64 x1.Finds)]) _ rfl ?_; refine Zo (.fp [.v (.int .i64 x1.How), .v (.int .i64 x1.Finds)]) rfl rfl ?_; refine Zpb 6 rfl ?_; cases h; cases hG; exact ⟨rfl, trivial⟩
end Go.Proofs.YtljdbikodogeiaaGreatDoor

/-
  Plain programs of functions, and that the functions do what they say. Printed by wip/tools/gen.py.
-/
import Derived.Test.YtljdbikodogeiaaGreatDoorXV
namespace Go.Proofs.YtljdbikodogeiaaGreatDoor
open Go.RowKit
attribute [local irreducible] IntKind.wrap AW runL Step.wp
set_option linter.unusedVariables false
set_option maxHeartbeats 4000000
set_option maxRecDepth 100000
noncomputable def law21_joined_L1 (l_ : (List api_Item)) (s3 : ByteArray × Int) : Option ((ByteArray × Int) ⊕ ((ByteArray) ⊕ (ByteArray))) :=
  (bif (decide (s3.2 < (l_.length : Int))) then
    (getI l_ s3.2).bind fun x23 =>
    (chkO (decide (s3.1.size + x23.Text.size ≤ 1000000000))).bind fun _ =>
    some (.inl ((s3.1 ++ x23.Text), (IntKind.i64.wrap (s3.2 + (1 : Int)))))
  else
    some (.inr (.inl s3.1)))
noncomputable def law21_joined (l_ : (List api_Item)) : Option (ByteArray) :=
  (seqF (A := ByteArray) (
    loopF (law21_joined_L1 l_) ((ByteArray.mk #[]), (0 : Int)))
  fun s2 =>
    some s2)
theorem law21_joined_fn {dr : Prop} {l_ : (List api_Item)} {r : ByteArray} (h : law21_joined l_ = some r) : Fn dr Tryz.prog 13 [VF (List.map api_Item.enc l_)] (VS r) := by
  refine Fn.of_AW (dr := dr) (F := FnX dr Tryz.prog) (base := 0) (js := [6]) mixed tok noeqs (fun _ _ _ h => h) Tryz.call13 Tryz.func13 rfl Tryz.ntmps13 (by rw [Tryz.results13]) (by simp) ?_; have hG : (fun x => x = r) r := rfl; unfold law21_joined at h; refine Zac 10 rfl ?_; refine A.join (fun (s2 : ByteArray) => [(3, VS s2)]) (fun s2 => []) _ h hG rfl ?_ ?_
  · intro J f h hG; refine Zac 6 rfl ?_; refine A.loop (fun (s3 : ByteArray × Int) => [(0, VF (List.map api_Item.enc l_)), (3, VS s3.1), (4, VI s3.2)]) (fun s3 => []) _ h hG (Zf [] [] rfl rfl (Ze rfl rfl (Ze rfl rfl (Ze rfl rfl trivial))) trivial) ?_; intro J s3 f h hG; unfold law21_joined_L1 at h; refine Zap 5 rfl ?_; refine Y1 rfl ?_; refine W.len rfl ?_; refine Zpc 3 rfl ?_; refine A.condB rfl h (fun _ h => ?_) (fun _ h => ?_)
    · refine Zcp 8 rfl ?_; refine Y1 rfl ?_; refine bindK h fun x23 hx23 h => ?_; refine W.chk rfl (elemB hx23) ?_; refine W.elem rfl (elemG hx23) ?_; refine W.chk rfl rfl ?_; refine W.det (.fp [.v (.int .i64 x23.Event), .v (.int .i64 x23.Part), .v (.int .i64 x23.Of), .v (.int .i64 x23.Kind), .v (.int .i64 x23.On), .v (.int .i64 x23.OnPart), .v (.int .i64 x23.Quote), .v (.int .i64 x23.Who), .v (.int .i64 x23.N), .v (.string x23.Text), .fz (List.map (encI .i64) x23.Files)]) _ rfl ?_; refine Zo (.fp [.v (.string x23.Text), .fz (List.map (encI .i64) x23.Files)]) rfl rfl ?_; refine Zpp 1 rfl ?_; refine Y1 rfl ?_; refine chkK h fun g24 h => ?_; refine W.chk rfl (of_decide_eq_true g24) ?_; refine Zwb 10 rfl ?_; cases h; exact Zh hG [] [] rfl rfl (Ze rfl rfl (Ze rfl rfl (Ze rfl rfl trivial))) trivial
    · refine Zcb 2 rfl ?_; refine headK.e ?_; refine Zob 1 rfl ?_; cases h; exact Zh hG [] [] rfl rfl (Ze rfl rfl trivial) trivial
  · intro s2 r2 h hG; refine Zcb 7 rfl ?_; cases h; cases hG; exact ⟨rfl, trivial⟩
noncomputable def law21_ends (s_ : ByteArray) (t_ : ByteArray) : Option (Bool) :=
  (bif (decide ((t_.size : Int) ≤ (s_.size : Int))) then
    (chkO (cutO (IntKind.i64.wrap ((s_.size : Int) - (if (s_.size : Int) < (t_.size : Int) then (s_.size : Int) else (t_.size : Int)))) (s_.size : Int) (s_.size : Int))).bind fun _ =>
    some ((s_.extract (IntKind.i64.wrap ((s_.size : Int) - (if (s_.size : Int) < (t_.size : Int) then (s_.size : Int) else (t_.size : Int)))).toNat (s_.size : Int).toNat).toList == t_.toList)
  else
    some false)
theorem law21_ends_fn {dr : Prop} {s_ : ByteArray} {t_ : ByteArray} {r : Bool} (h : law21_ends s_ t_ = some r) : Fn dr Tryz.prog 14 [VS s_, VS t_] (VB r) := by
  refine Fn.of_AW (dr := dr) (F := FnX dr Tryz.prog) (base := 0) (js := []) mixed tok noeqs (fun _ _ _ h => h) Tryz.call14 Tryz.func14 rfl Tryz.ntmps14 (by rw [Tryz.results14]) (by simp) ?_; have hG : (fun x => x = r) r := rfl; unfold law21_ends at h; refine Zap 13 rfl ?_; refine YT rfl rfl rfl h (fun _ h => ?_) (fun _ h => ?_)
  · refine Zwp 9 rfl ?_; refine Y2 rfl rfl rfl ?_; refine chkK h fun g1 h => ?_; refine W.chk rfl (cutO_all g1) ?_; refine W.det (VS (s_.extract (IntKind.i64.wrap ((s_.size : Int) - (if (s_.size : Int) < (t_.size : Int) then (s_.size : Int) else (t_.size : Int)))).toNat (s_.size : Int).toNat)) _ rfl ?_; refine Zpb 7 rfl ?_; cases h; cases hG; exact ⟨rfl, trivial⟩
  · refine Zpb 16 rfl ?_; cases h; cases hG; exact ⟨rfl, trivial⟩
end Go.Proofs.YtljdbikodogeiaaGreatDoor

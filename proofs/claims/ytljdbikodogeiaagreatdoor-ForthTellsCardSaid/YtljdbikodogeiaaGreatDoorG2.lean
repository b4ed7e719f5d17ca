/-
  Plain programs of functions, and that the functions do what they say. Printed by wip/tools/gen.py.
-/
import Derived.Test.YtljdbikodogeiaaGreatDoorG1
import Derived.Test.YtljdbikodogeiaaGreatDoorX1
namespace Go.Proofs.YtljdbikodogeiaaGreatDoor
open Go.RowKit
attribute [local irreducible] IntKind.wrap AW runL Step.wp
set_option linter.unusedVariables false
set_option maxHeartbeats 4000000
set_option maxRecDepth 100000
noncomputable def words_Line (s_ : ByteArray) (most_ : Int) : Option (ByteArray) :=
  (strings_Cut s_ (ByteArray.mk #[10])).bind fun y1 =>
  (chkO (cutO (0 : Int) (if (if most_ < (0 : Int) then (0 : Int) else most_) < (y1.1.size : Int) then (if most_ < (0 : Int) then (0 : Int) else most_) else (y1.1.size : Int)) (y1.1.size : Int))).bind fun _ =>
  some (y1.1.extract (0 : Int).toNat (if (if most_ < (0 : Int) then (0 : Int) else most_) < (y1.1.size : Int) then (if most_ < (0 : Int) then (0 : Int) else most_) else (y1.1.size : Int)).toNat)
theorem words_Line_fn {dr : Prop} {s_ : ByteArray} {most_ : Int} {r : ByteArray} (h : words_Line s_ most_ = some r) : Fn dr Tryz.prog 112 [VS s_, VI most_] (VS r) := by
  refine Fn.of_AW (dr := dr) (F := FnX dr Tryz.prog) (base := 0) (js := []) mixed tok noeqs (fun _ _ _ h => h) Tryz.call112 Tryz.func112 rfl Tryz.ntmps112 (by rw [Tryz.results112]) (by simp) ?_; have hG : (fun x => x = r) r := rfl; unfold words_Line at h; refine Zap 8 rfl ?_; refine Y1 rfl ?_; refine bindK h fun y1 hy1 h => ?_; refine W.call rfl (strings_Cut_fn hy1) ?_; refine W.det (.tup [VS y1.1, VS y1.2.1, VB y1.2.2]) _ rfl ?_; refine Zo (.tup [VS y1.1, VS y1.2.1, VB y1.2.2]) rfl rfl ?_; refine Zpp 16 rfl ?_; refine Y1 rfl ?_; refine chkK h fun g2 h => ?_; refine W.chk rfl (cutO_all g2) ?_; refine W.det (VS (y1.1.extract (0 : Int).toNat (if (if most_ < (0 : Int) then (0 : Int) else most_) < (y1.1.size : Int) then (if most_ < (0 : Int) then (0 : Int) else most_) else (y1.1.size : Int)).toNat)) _ rfl ?_; refine Zpb 4 rfl ?_; cases h; cases hG; exact ⟨rfl, trivial⟩
noncomputable def forth_network_line (n_ : forth_network) (id_ : Int) : Option (ByteArray) :=
  (getI n_.events id_).bind fun x1 =>
  (words_Line x1.Text (20 : Int)).bind fun y2 =>
  some y2
theorem forth_network_line_fn {dr : Prop} {n_ : forth_network} {id_ : Int} {r : ByteArray} (h : forth_network_line n_ id_ = some r) : Fn dr Tryz.prog 83 [.agg (forth_network.av n_), VI id_] (VS r) := by
  refine Fn.of_AW (dr := dr) (F := FnX dr Tryz.prog) (base := 0) (js := []) mixed tok noeqs (fun _ _ _ h => h) Tryz.call83 Tryz.func83 rfl Tryz.ntmps83 (by rw [Tryz.results83]) (by simp) ?_; have hG : (fun x => x = r) r := rfl; unfold forth_network_line at h; refine Zap 2 rfl ?_; refine Zm (.lp 2 1 0) (Mem.add _ 2 (.box (forth_network.av n_))) rfl rfl ?_; refine Zpp 8 rfl ?_; refine Y1 rfl ?_; refine bindK h fun x1 hx1 h => ?_; refine W.chk rfl (elemB hx1) ?_; refine W.elem rfl (elemG hx1) ?_; refine W.chk rfl rfl ?_; refine W.det (.fp [.v (.int .i64 x1.Author), .v (.int .i64 x1.Seq), .fz (List.map (encI .i64) x1.Causes), .v (.int .i64 x1.Kind), .v (.int .i64 x1.Group), .v (.int .i64 x1.Target), .v (.int .i64 x1.Quote), .v (.int .i64 x1.Who), .v (.int .i64 x1.N), .v (.string x1.Text), .fz (List.map (encI .i64) x1.Files), .v (.int .i64 x1.Step)]) _ rfl ?_; refine Zo (.fp [.v (.string x1.Text), .fz (List.map (encI .i64) x1.Files), .v (.int .i64 x1.Step)]) rfl rfl ?_; refine Zpp 1 rfl ?_; refine Y1 rfl ?_; refine bindK h fun y2 hy2 h => ?_; refine W.call rfl (words_Line_fn hy2) ?_; refine Zwb 5 rfl ?_; cases h; cases hG; exact ⟨rfl, trivial⟩
end Go.Proofs.YtljdbikodogeiaaGreatDoor

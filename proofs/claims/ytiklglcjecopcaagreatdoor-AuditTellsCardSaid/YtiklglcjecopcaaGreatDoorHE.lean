/-
  The head of the law, run by the kernel.
-/
import Derived.Test.YtiklglcjecopcaaGreatDoorQ25
namespace Go.Proofs.YtiklglcjecopcaaGreatDoor
open Go.RowKit
theorem small_run:Ci.saysTrue (Ci.rc Tryz.prog (Ci.extL (Ci.xK xTbl)) 100000 60 4 [] .e 0)=true:=by kernel_rfl
theorem law49_small_true:Fn False Tryz.prog 4 [] (.d (.v (.bool true))):=Ci.head_fn xTbl_ok Tryz.call4 small_run
noncomputable def law49_small:Option Bool:=some true
theorem law49_small_fn {r:Bool} (h:law49_small=some r):Fn False Tryz.prog 4 [] (VB r):=by
 injection h with h
 subst h
 exact law49_small_true
end Go.Proofs.YtiklglcjecopcaaGreatDoor

/-
The closed facts of the row.
-/
import Derived.Test.YtnegekppaoedgaaGreatDoorQ19
import Derived.KernelRfl
namespace Go.Proofs.YtnegekppaoedgaaGreatDoor
open Go
set_option maxRecDepth 100000
theorem jf1:jd1 Rows.gateReadsSpec Rows.gateReadsRow=true:=by kernel_rfl
theorem jf2:jd2 Tryz.pinned.checked.prog=true:=by kernel_rfl
theorem jf3:jd3 Tryz.pinned.checked.prog=true:=by kernel_rfl
theorem jf4:jd4 Tryz.pinned.checked.prog Tryz.f3=true:=by kernel_rfl
theorem jf5:jd5 Tryz.pinned.checked.prog Rows.gateReadsSpec Rows.gateReadsRow=true:=by kernel_rfl
theorem jf6:jd6 Rows.gateReadsRow=true:=by kernel_rfl
theorem jf7:jd7 Tryz.pinned.checked.prog=true:=by kernel_rfl
theorem jf8:jd8 Rows.gateReadsRow=true:=by kernel_rfl
theorem jf9:jd9 Tryz.pinned.checked.prog=true:=by kernel_rfl
theorem apQ:amE Tryz.pinned.checked.prog 3 Rows.gateReadsRow=true:=by kernel_rfl
theorem apR:amF Tryz.pinned.checked.prog 3 Rows.gateReadsRow=true:=by kernel_rfl
end Go.Proofs.YtnegekppaoedgaaGreatDoor

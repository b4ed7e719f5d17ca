/-
The closed facts of the row.
-/
import Derived.Test.YtnegekppaoedgaaGreatDoorQ19
import Derived.KernelRfl
namespace Go.Proofs.YtnegekppaoedgaaGreatDoor
open Go
set_option maxRecDepth 100000
theorem apS:amG Tryz.pinned.checked.prog 3 Rows.gateReadsRow=true:=by kernel_rfl
theorem apT:amH Tryz.pinned.checked.prog 3 Rows.gateReadsRow=true:=by kernel_rfl
theorem apU:amI Tryz.pinned.checked.prog Tryz.f3 Rows.gateReadsSpec Rows.gateReadsRow=true:=by kernel_rfl
theorem apV:amJ Tryz.pinned.checked.prog Tryz.f3 Rows.gateReadsSpec Rows.gateReadsRow=true:=by kernel_rfl
theorem apW:amK Tryz.pinned.checked.prog Tryz.f3 Rows.gateReadsRow=true:=by kernel_rfl
theorem apX:amL Tryz.pinned.checked.prog Tryz.f3 Rows.gateReadsSpec Rows.gateReadsRow=true:=by kernel_rfl
theorem apY:amM Tryz.pinned.checked.prog Tryz.f3 Rows.gateReadsSpec Rows.gateReadsRow=true:=by kernel_rfl
end Go.Proofs.YtnegekppaoedgaaGreatDoor

/-
The closed facts of the row.
-/
import Derived.Test.YtnegekppaoedgaaGreatDoorQ19
import Derived.KernelRfl
namespace Go.Proofs.YtnegekppaoedgaaGreatDoor
open Go
set_option maxRecDepth 100000
theorem apZ:amN Tryz.pinned.checked.prog Rows.gateReadsSpec=true:=by kernel_rfl
theorem ap0:amO Tryz.pinned.checked.prog Tryz.f3=true:=by kernel_rfl
theorem ap1:amP Tryz.pinned.checked.prog Tryz.f3 Rows.gateReadsRow=true:=by kernel_rfl
theorem ap2:amQ Tryz.pinned.checked.prog Tryz.f3 Rows.gateReadsRow=true:=by kernel_rfl
theorem ap3:amR Tryz.pinned.checked.prog Rows.gateReadsRow=true:=by kernel_rfl
theorem ap4:amS Rows.gateReadsRow=true:=by kernel_rfl
theorem ap5:amT Tryz.pinned.checked.prog=true:=by kernel_rfl
theorem ap6:amU Tryz.pinned.checked.prog=true:=by kernel_rfl
theorem ap7:amV Tryz.pinned.checked.prog Rows.gateReadsRow=true:=by kernel_rfl
theorem ap8:amW Tryz.pinned.checked.prog Rows.gateReadsRow=true:=by kernel_rfl
theorem ap9:amX Tryz.pinned.checked.prog Tryz.f3 Rows.gateReadsRow=true:=by kernel_rfl
theorem aqa:amY Rows.gateReadsRow=true:=by kernel_rfl
theorem aqb:amZ Tryz.pinned.checked.prog Tryz.f3 Rows.gateReadsSpec Rows.gateReadsRow=true:=by kernel_rfl
theorem aqc:am0 Tryz.pinned.checked.prog Tryz.f3 Rows.gateReadsSpec Rows.gateReadsRow=true:=by kernel_rfl
end Go.Proofs.YtnegekppaoedgaaGreatDoor

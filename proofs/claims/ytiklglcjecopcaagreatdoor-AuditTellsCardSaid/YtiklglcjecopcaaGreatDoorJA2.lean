/-
  The closed facts of the row.
-/
import Derived.Test.YtiklglcjecopcaaGreatDoorQ27
import Derived.KernelRfl
namespace Go.Proofs.YtiklglcjecopcaaGreatDoor
open Go
set_option maxRecDepth 100000
theorem jf12:jd12 Tryz.pinned.checked.prog 3 Rows.auditTellsRow=true:=by kernel_rfl
theorem jf13:jd13 Tryz.pinned.checked.prog 3 Rows.auditTellsRow=true:=by kernel_rfl
theorem jf14:jd14 Tryz.pinned.checked.prog Tryz.f3 Rows.auditTellsSpec Rows.auditTellsRow=true:=by kernel_rfl
theorem jf15:jd15 Tryz.pinned.checked.prog Tryz.f3 Rows.auditTellsSpec Rows.auditTellsRow=true:=by kernel_rfl
theorem jf16:jd16 Tryz.pinned.checked.prog Tryz.f3 Rows.auditTellsRow=true:=by kernel_rfl
theorem jf17:jd17 Tryz.pinned.checked.prog Tryz.f3 Rows.auditTellsSpec Rows.auditTellsRow=true:=by kernel_rfl
theorem jf18:jd18 Tryz.pinned.checked.prog Tryz.f3 Rows.auditTellsSpec Rows.auditTellsRow=true:=by kernel_rfl
end Go.Proofs.YtiklglcjecopcaaGreatDoor

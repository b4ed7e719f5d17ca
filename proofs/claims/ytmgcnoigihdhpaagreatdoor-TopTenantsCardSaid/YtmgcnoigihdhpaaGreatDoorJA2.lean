/-
The closed facts of the row.
-/
import Derived.Test.YtmgcnoigihdhpaaGreatDoorQ21
import Derived.KernelRfl
namespace Go.Proofs.YtmgcnoigihdhpaaGreatDoor
open Go
set_option maxRecDepth 100000
theorem jf12:jd12 Tryz.pinned.checked.prog 3 Rows.topTenantsRow=true:=by kernel_rfl
theorem jf13:jd13 Tryz.pinned.checked.prog 3 Rows.topTenantsRow=true:=by kernel_rfl
theorem jf14:jd14 Tryz.pinned.checked.prog Tryz.f3 Rows.topTenantsSpec Rows.topTenantsRow=true:=by kernel_rfl
theorem jf15:jd15 Tryz.pinned.checked.prog Tryz.f3 Rows.topTenantsSpec Rows.topTenantsRow=true:=by kernel_rfl
theorem jf16:jd16 Tryz.pinned.checked.prog Tryz.f3 Rows.topTenantsRow=true:=by kernel_rfl
theorem jf17:jd17 Tryz.pinned.checked.prog Tryz.f3 Rows.topTenantsSpec Rows.topTenantsRow=true:=by kernel_rfl
theorem jf18:jd18 Tryz.pinned.checked.prog Tryz.f3 Rows.topTenantsSpec Rows.topTenantsRow=true:=by kernel_rfl
end Go.Proofs.YtmgcnoigihdhpaaGreatDoor

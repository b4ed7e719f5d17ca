/-
The closed facts of the row.
-/
import Derived.Test.YtmgcnoigihdhpaaGreatDoorQ21
import Derived.KernelRfl
namespace Go.Proofs.YtmgcnoigihdhpaaGreatDoor
open Go
set_option maxRecDepth 100000
theorem jf19:jd19 Tryz.pinned.checked.prog Rows.topTenantsSpec=true:=by kernel_rfl
theorem jf20:jd20 Tryz.pinned.checked.prog Tryz.f3=true:=by kernel_rfl
theorem jf21:jd21 Tryz.pinned.checked.prog Tryz.f3 Rows.topTenantsRow=true:=by kernel_rfl
theorem jf22:jd22 Tryz.pinned.checked.prog Tryz.f3 Rows.topTenantsRow=true:=by kernel_rfl
theorem jf23:jd23 Tryz.pinned.checked.prog Rows.topTenantsRow=true:=by kernel_rfl
theorem jf24:jd24 Rows.topTenantsRow=true:=by kernel_rfl
theorem jf25:jd25 Tryz.pinned.checked.prog=true:=by kernel_rfl
theorem jf26:jd26 Tryz.pinned.checked.prog=true:=by kernel_rfl
theorem jf27:jd27 Tryz.pinned.checked.prog Rows.topTenantsRow=true:=by kernel_rfl
theorem jf28:jd28 Tryz.pinned.checked.prog Rows.topTenantsRow=true:=by kernel_rfl
theorem jf29:jd29 Tryz.pinned.checked.prog Tryz.f3 Rows.topTenantsRow=true:=by kernel_rfl
theorem jf30:jd30 Rows.topTenantsRow=true:=by kernel_rfl
theorem jf31:jd31 Tryz.pinned.checked.prog Tryz.f3 Rows.topTenantsSpec Rows.topTenantsRow=true:=by kernel_rfl
theorem jf32:jd32 Tryz.pinned.checked.prog Tryz.f3 Rows.topTenantsSpec Rows.topTenantsRow=true:=by kernel_rfl
end Go.Proofs.YtmgcnoigihdhpaaGreatDoor

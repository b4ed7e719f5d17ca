/-
  The closed facts of the row.
-/
import Derived.Test.YtiklglcjecopcaaGreatDoorQ27
import Derived.KernelRfl
namespace Go.Proofs.YtiklglcjecopcaaGreatDoor
open Go
set_option maxRecDepth 100000
theorem jf19:jd19 Tryz.pinned.checked.prog Rows.auditTellsSpec=true:=by kernel_rfl
theorem jf20:jd20 Tryz.pinned.checked.prog Tryz.f3=true:=by kernel_rfl
theorem jf21:jd21 Tryz.pinned.checked.prog Tryz.f3 Rows.auditTellsRow=true:=by kernel_rfl
theorem jf22:jd22 Tryz.pinned.checked.prog Tryz.f3 Rows.auditTellsRow=true:=by kernel_rfl
theorem jf23:jd23 Tryz.pinned.checked.prog Rows.auditTellsRow=true:=by kernel_rfl
theorem jf24:jd24 Rows.auditTellsRow=true:=by kernel_rfl
theorem jf25:jd25 Tryz.pinned.checked.prog=true:=by kernel_rfl
theorem jf26:jd26 Tryz.pinned.checked.prog=true:=by kernel_rfl
theorem jf27:jd27 Tryz.pinned.checked.prog Rows.auditTellsRow=true:=by kernel_rfl
theorem jf28:jd28 Tryz.pinned.checked.prog Rows.auditTellsRow=true:=by kernel_rfl
theorem jf29:jd29 Tryz.pinned.checked.prog Tryz.f3 Rows.auditTellsRow=true:=by kernel_rfl
theorem jf30:jd30 Rows.auditTellsRow=true:=by kernel_rfl
theorem jf31:jd31 Tryz.pinned.checked.prog Tryz.f3 Rows.auditTellsSpec Rows.auditTellsRow=true:=by kernel_rfl
theorem jf32:jd32 Tryz.pinned.checked.prog Tryz.f3 Rows.auditTellsSpec Rows.auditTellsRow=true:=by kernel_rfl
end Go.Proofs.YtiklglcjecopcaaGreatDoor

/-
The tie of the law's row: a part.
-/
import Derived.Test.YtnegekppaoedgaaGreatDoorRows
import Derived.LaidByTextLater
import Derived.SevenTiedAt
import Derived.LaidSub
import Derived.LaidOnce
namespace Go.Proofs.YtnegekppaoedgaaGreatDoor
open Go
set_option maxRecDepth 100000
theorem aoW:Tryz.prog.worded (varsWordLater true)=true:=by kernel_rfl
theorem aoX:Tryz.prog.worded (varsWordLater !true)=false:=by kernel_rfl
theorem aoY:Tryz.prog.worded rootWordLater=true:=by kernel_rfl
theorem aoZ:([("math/bits.deBruijn32tab",Rows.laid_math_bits_deBruijn32tab),("math/bits.deBruijn64tab",Rows.laid_math_bits_deBruijn64tab),("internal/strconv.uint64pow10",Rows.laid_internal_strconv_uint64pow10),("strconv.ErrRange",Rows.laid_strconv_ErrRange),("strconv.ErrSyntax",Rows.laid_strconv_ErrSyntax)]:List (String×DataW Unit)).map (fun x=> Tryz.prog.kindOfLater x.1)=([.data,.data,.data,.sentinel,.sentinel]:List LaidKind).map some:=by kernel_rfl
theorem ao0:(Tryz.prog.funcNamed "gosem.cut.vars").isSome=true:=by kernel_rfl
theorem ao1:Tryz.pinned.checked.prog.headLifts.contains "ownunsafe" =false:=by kernel_rfl
end Go.Proofs.YtnegekppaoedgaaGreatDoor

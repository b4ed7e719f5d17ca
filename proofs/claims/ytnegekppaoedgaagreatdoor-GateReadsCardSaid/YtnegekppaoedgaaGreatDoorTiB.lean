/-
The tie of the law's row: a part.
-/
import Derived.Test.YtnegekppaoedgaaGreatDoorRows
import Derived.LaidByTextLater
import Derived.SevenTiedAt
import Derived.LaidSub
import Derived.LaidOnce
namespace Go.Proofs.YtnegekppaoedgaaGreatDoor
open Go
set_option maxRecDepth 100000
theorem asH:varsNamedLaterB Tryz.prog (varsId Tryz.prog) [("math/bits.deBruijn32tab",Rows.laid_math_bits_deBruijn32tab),("math/bits.deBruijn64tab",Rows.laid_math_bits_deBruijn64tab),("internal/strconv.uint64pow10",Rows.laid_internal_strconv_uint64pow10),("strconv.ErrRange",Rows.laid_strconv_ErrRange),("strconv.ErrSyntax",Rows.laid_strconv_ErrSyntax)]=true:=by kernel_rfl
end Go.Proofs.YtnegekppaoedgaaGreatDoor

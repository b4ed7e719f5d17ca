/-
The closed facts of the row.
-/
import Derived.Test.YtnegekppaoedgaaGreatDoorJA1
import Derived.Test.YtnegekppaoedgaaGreatDoorJA2
import Derived.Test.YtnegekppaoedgaaGreatDoorJA3
namespace Go.Proofs.YtnegekppaoedgaaGreatDoor
open Go
set_option maxRecDepth 100000
theorem aaA:joinedFacts Tryz.pinned.checked.prog 3 Tryz.f3 Rows.gateReadsSpec Rows.gateReadsRow=true:=aaB jf1 jf2 jf3 jf4 jf5 jf6 jf7 jf8 jf9 apQ apR apS apT apU apV apW apX apY apZ ap0 ap1 ap2 ap3 ap4 ap5 ap6 ap7 ap8 ap9 aqa aqb aqc
end Go.Proofs.YtnegekppaoedgaaGreatDoor

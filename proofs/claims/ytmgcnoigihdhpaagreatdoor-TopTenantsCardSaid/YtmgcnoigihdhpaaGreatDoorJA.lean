/-
The closed facts of the row.
-/
import Derived.Test.YtmgcnoigihdhpaaGreatDoorJA1
import Derived.Test.YtmgcnoigihdhpaaGreatDoorJA2
import Derived.Test.YtmgcnoigihdhpaaGreatDoorJA3
namespace Go.Proofs.YtmgcnoigihdhpaaGreatDoor
open Go
set_option maxRecDepth 100000
theorem rowFacts:joinedFacts Tryz.pinned.checked.prog 3 Tryz.f3 Rows.topTenantsSpec Rows.topTenantsRow=true:=facts_of jf1 jf2 jf3 jf4 jf5 jf6 jf7 jf8 jf9 jf10 jf11 jf12 jf13 jf14 jf15 jf16 jf17 jf18 jf19 jf20 jf21 jf22 jf23 jf24 jf25 jf26 jf27 jf28 jf29 jf30 jf31 jf32
end Go.Proofs.YtmgcnoigihdhpaaGreatDoor

/-
  DERIVED. GIVEN WITH THE SEED: THE CARDS: each row of YtnegekppaoedgaaGreatDoorRows.lean that lists a variable, with what it lists TIED to the program's text (the seventh form; the later family's looks); each row that meets fmt, with fmt's text TOLD by the authors' own Lean function (tested against real Go, not proved from fmt's source: count such statements apart). THE CARD IS WHAT COUNTS. Prove the row's statement (the work); the ties are given (YtnegekppaoedgaaGreatDoorTie.lean); close each card by the builder's one call (the guide's Derived/Test/ToyasCard.lean, 'card_holds'). Laid BY PROGRAM, IN A SANDBOX (cutbox-door.mjs). By AI agents, Wed Nov 11 2026. No macro, syntax, notation, axiom, sorry.
-/
import Derived.Test.YtnegekppaoedgaaGreatDoorRows
import GoSem.ClaimSeven
namespace Go.Proofs.YtnegekppaoedgaaGreatDoor
namespace Rows

/-- THE TIED CARD OF 'lingualaw48.GateReads'. -/
def gateReadsCard : Claim7 := { stood := { row := gateReadsRow, standIns := [], harness := (true, "683f42383bfec7bed1e346fd9e75a91d4bc4132ab0ef3303ab5f8eed792a171c"), looks := true }, kinds := [], alts := [], laidByText := true, laidKinds := [.data, .data, .data, .sentinel, .sentinel], laidTests := true, laidLooks := .later }
def GateReadsCardSaid : Prop := Claim7.holds Tryz.pinned (.plain (OpenSpec.ofChange gateReadsSpec)) gateReadsCard

/-- THE SECOND FORM's CARD OF 'lingualaw48.GateReads'. -/
def gateReadsUptoCard : Claim7 := { stood := { row := gateReadsUptoRow, standIns := [], harness := (true, "683f42383bfec7bed1e346fd9e75a91d4bc4132ab0ef3303ab5f8eed792a171c"), looks := true }, kinds := [], alts := [], laidByText := true, laidKinds := [.data, .data, .data, .sentinel, .sentinel], laidTests := true, laidLooks := .later }
def GateReadsUptoCardSaid : Prop := Claim7.holds Tryz.pinned (.plain (OpenSpec.upto gateReadsSpec)) gateReadsUptoCard
end Rows
end Go.Proofs.YtnegekppaoedgaaGreatDoor

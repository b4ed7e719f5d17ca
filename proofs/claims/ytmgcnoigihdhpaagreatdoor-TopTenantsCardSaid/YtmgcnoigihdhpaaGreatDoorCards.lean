/-
  DERIVED. GIVEN WITH THE SEED: THE CARDS: each row of YtmgcnoigihdhpaaGreatDoorRows.lean that lists a variable, with what it lists TIED to the program's text (the seventh form; the later family's looks); each row that meets fmt, with fmt's text TOLD by the authors' own Lean function (tested against real Go, not proved from fmt's source: count such statements apart). THE CARD IS WHAT COUNTS. Prove the row's statement (the work); the ties are given (YtmgcnoigihdhpaaGreatDoorTie.lean); close each card by the builder's one call (the guide's Derived/Test/ToyasCard.lean, 'card_holds'). Laid BY PROGRAM, IN A SANDBOX (cutbox-door.mjs). By AI agents, Wed Nov 11 2026. No macro, syntax, notation, axiom, sorry.
-/
import Derived.Test.YtmgcnoigihdhpaaGreatDoorRows
import GoSem.ClaimSeven
namespace Go.Proofs.YtmgcnoigihdhpaaGreatDoor
namespace Rows

/-- THE TIED CARD OF 'linguatop.TopTenants'. -/
def topTenantsCard : Claim7 := { stood := { row := topTenantsRow, standIns := [], harness := (true, "7fe936261651e4311d225fff2ce38f2e162fde45d44fc59fcae112742642fd3e"), looks := true }, kinds := [], alts := [], laidByText := true, laidKinds := [.data, .data, .data, .sentinel, .sentinel], laidTests := true, laidLooks := .later }
def TopTenantsCardSaid : Prop := Claim7.holds Tryz.pinned (.plain (OpenSpec.ofChange topTenantsSpec)) topTenantsCard

/-- THE SECOND FORM's CARD OF 'linguatop.TopTenants'. -/
def topTenantsUptoCard : Claim7 := { stood := { row := topTenantsUptoRow, standIns := [], harness := (true, "7fe936261651e4311d225fff2ce38f2e162fde45d44fc59fcae112742642fd3e"), looks := true }, kinds := [], alts := [], laidByText := true, laidKinds := [.data, .data, .data, .sentinel, .sentinel], laidTests := true, laidLooks := .later }
def TopTenantsUptoCardSaid : Prop := Claim7.holds Tryz.pinned (.plain (OpenSpec.upto topTenantsSpec)) topTenantsUptoCard
end Rows
end Go.Proofs.YtmgcnoigihdhpaaGreatDoor

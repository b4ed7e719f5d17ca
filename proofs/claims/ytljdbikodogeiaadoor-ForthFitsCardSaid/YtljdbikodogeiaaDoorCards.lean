/-
  DERIVED. GIVEN WITH THE SEED: THE CARDS: each row of YtljdbikodogeiaaDoorRows.lean that lists a variable, with what it lists TIED to the program's text (the seventh form; the later family's looks); each row that meets fmt, with fmt's text TOLD by the authors' own Lean function (tested against real Go, not proved from fmt's source: count such statements apart). THE CARD IS WHAT COUNTS. Prove the row's statement (the work); the ties are given (YtljdbikodogeiaaDoorTie.lean); close each card by the builder's one call (the guide's Derived/Test/ToyasCard.lean, 'card_holds'). Laid BY PROGRAM, IN A SANDBOX (cutbox-door.mjs). By AI agents, Wed Nov 11 2026. No macro, syntax, notation, axiom, sorry.
-/
import Derived.Test.YtljdbikodogeiaaDoorRows
import GoSem.ClaimSeven
namespace Go.Proofs.YtljdbikodogeiaaDoor
namespace Rows

/-- THE TIED CARD OF 'lingualaw21.ForthLocal'. -/
def forthLocalCard : Claim7 := { stood := { row := forthLocalRow, standIns := [], harness := (true, "802174875106f0af32f13c70ac3b017c4fcc750c2f02aeb58f6f9ec60862f18d"), looks := false }, kinds := [], alts := [], laidByText := true, laidKinds := [.data, .data, .data], laidTests := true, laidLooks := .later }
def ForthLocalCardSaid : Prop := Claim7.holds Tryd.pinned (.plain (OpenSpec.ofChange forthLocalSpec)) forthLocalCard

/-- THE TIED CARD OF 'lingualaw21.ForthFits'. -/
def forthFitsCard : Claim7 := { stood := { row := forthFitsRow, standIns := [], harness := (true, "802174875106f0af32f13c70ac3b017c4fcc750c2f02aeb58f6f9ec60862f18d"), looks := false }, kinds := [], alts := [], laidByText := true, laidKinds := [.data, .data, .data], laidTests := true, laidLooks := .later }
def ForthFitsCardSaid : Prop := Claim7.holds Tryd.pinned (.plain (OpenSpec.ofChange forthFitsSpec)) forthFitsCard

/-- THE SECOND FORM's CARD OF 'lingualaw21.ForthLocal'. -/
def forthLocalUptoCard : Claim7 := { stood := { row := forthLocalUptoRow, standIns := [], harness := (true, "802174875106f0af32f13c70ac3b017c4fcc750c2f02aeb58f6f9ec60862f18d"), looks := false }, kinds := [], alts := [], laidByText := true, laidKinds := [.data, .data, .data], laidTests := true, laidLooks := .later }
def ForthLocalUptoCardSaid : Prop := Claim7.holds Tryd.pinned (.plain (OpenSpec.upto forthLocalSpec)) forthLocalUptoCard

/-- THE SECOND FORM's CARD OF 'lingualaw21.ForthFits'. -/
def forthFitsUptoCard : Claim7 := { stood := { row := forthFitsUptoRow, standIns := [], harness := (true, "802174875106f0af32f13c70ac3b017c4fcc750c2f02aeb58f6f9ec60862f18d"), looks := false }, kinds := [], alts := [], laidByText := true, laidKinds := [.data, .data, .data], laidTests := true, laidLooks := .later }
def ForthFitsUptoCardSaid : Prop := Claim7.holds Tryd.pinned (.plain (OpenSpec.upto forthFitsSpec)) forthFitsUptoCard
end Rows
end Go.Proofs.YtljdbikodogeiaaDoor

/-
  DERIVED. GIVEN WITH THE SEED: THE CARDS: each row of YtljdbikodogeiaaGreatDoorRows.lean that lists a variable, with what it lists TIED to the program's text (the seventh form; the later family's looks); each row that meets fmt, with fmt's text TOLD by the authors' own Lean function (tested against real Go, not proved from fmt's source: count such statements apart). THE CARD IS WHAT COUNTS. Prove the row's statement (the work); the ties are given (YtljdbikodogeiaaGreatDoorTie.lean); close each card by the builder's one call (the guide's Derived/Test/ToyasCard.lean, 'card_holds'). Laid BY PROGRAM, IN A SANDBOX (cutbox-door.mjs). By AI agents, Wed Nov 11 2026. No macro, syntax, notation, axiom, sorry.
-/
import Derived.Test.YtljdbikodogeiaaGreatDoorRows
import GoSem.ClaimSeven
namespace Go.Proofs.YtljdbikodogeiaaGreatDoor
namespace Rows

/-- THE TIED CARD OF 'lingualaw21.ForthTells'. -/
def forthTellsCard : Claim7 := { stood := { row := forthTellsRow, standIns := [], harness := (true, "a4bd8c5331cb6e3dc444464f1bbcfc230310a22fb0c4851d554dc93ce1ae2dc5"), looks := false }, kinds := [], alts := [], laidByText := true, laidKinds := [.data, .data, .data], laidTests := true, laidLooks := .later }
def ForthTellsCardSaid : Prop := Claim7.holds Tryz.pinned (.plain (OpenSpec.ofChange forthTellsSpec)) forthTellsCard

/-- THE TIED CARD OF 'lingualaw21.ForthWhole'. -/
def forthWholeCard : Claim7 := { stood := { row := forthWholeRow, standIns := [], harness := (true, "a4bd8c5331cb6e3dc444464f1bbcfc230310a22fb0c4851d554dc93ce1ae2dc5"), looks := false }, kinds := [], alts := [], laidByText := true, laidKinds := [.data, .data, .data], laidTests := true, laidLooks := .later }
def ForthWholeCardSaid : Prop := Claim7.holds Tryz.pinned (.plain (OpenSpec.ofChange forthWholeSpec)) forthWholeCard

/-- THE SECOND FORM's CARD OF 'lingualaw21.ForthTells'. -/
def forthTellsUptoCard : Claim7 := { stood := { row := forthTellsUptoRow, standIns := [], harness := (true, "a4bd8c5331cb6e3dc444464f1bbcfc230310a22fb0c4851d554dc93ce1ae2dc5"), looks := false }, kinds := [], alts := [], laidByText := true, laidKinds := [.data, .data, .data], laidTests := true, laidLooks := .later }
def ForthTellsUptoCardSaid : Prop := Claim7.holds Tryz.pinned (.plain (OpenSpec.upto forthTellsSpec)) forthTellsUptoCard

/-- THE SECOND FORM's CARD OF 'lingualaw21.ForthWhole'. -/
def forthWholeUptoCard : Claim7 := { stood := { row := forthWholeUptoRow, standIns := [], harness := (true, "a4bd8c5331cb6e3dc444464f1bbcfc230310a22fb0c4851d554dc93ce1ae2dc5"), looks := false }, kinds := [], alts := [], laidByText := true, laidKinds := [.data, .data, .data], laidTests := true, laidLooks := .later }
def ForthWholeUptoCardSaid : Prop := Claim7.holds Tryz.pinned (.plain (OpenSpec.upto forthWholeSpec)) forthWholeUptoCard
end Rows
end Go.Proofs.YtljdbikodogeiaaGreatDoor

/-
  No cell of these rows narrows 'for every input' (looked for: loops, veiled, ifaces, maps, wideKeys, modest, calm, conditions, laid).
  DERIVED. THE GIVEN ROWS OF THIS SEAT. 4 by the template 'for every input the law returns true; each argument reads behind the call as it read before'; 0 by the template 'total and deterministic' (their statements: YtomfmjejoocmmaaTotals.lean).
  GIVEN WITH THE SEED: the statements are not yours to turn. If you find one false, say at which input.
  Laid BY PROGRAM, IN A SANDBOX (cutbox-rows.mjs): the forced cells as the released guide's own fill.sh prints them over the translation acda19a629f9076c… (all of the seat's roots in one cut). By AI agents, Wed Nov 11 2026. No macro, syntax, notation, axiom, sorry.
-/
import Derived.Test.YtomfmjejoocmmaaChecked
import GoSem.Claim
import GoSem.ClaimJoined
import GoSem.ClaimMapViews
import Derived.JoinedTies
import Derived.KernelRfl
namespace Go.Proofs.Ytomfmjejoocmmaa
/- THE CELL 'sum', in the pinned program and in every row, IS THE sha256 OF THE DUMP (.gsa) THAT YtomfmjejoocmmaaProg.lean LOADS. Nothing in Lean hashes anything: it is a label: what it is worth is what the hold of that sum in a sandbox is worth. -/
noncomputable def Try.pinned : Pinned := { name := "ytomfmjejoocmmaa", sum := "acda19a629f9076c89a084d575388ffe652f7e36a1152c04788404bb4e8db289", checked := Try.checked }
namespace Rows
def none {H : Type} : Left H := { results := [], args := [] }

/-- 'lingualaw44.DebtTells': WHATEVER THE INPUT: true; the input reads as it did. -/
def debtTellsSpec : ChangeSpec := { name := "debtTells", fn := fun _ => fun
  | [d1, d2, d3, d4, d5, d6, d7] => { results := [.lit (.bool true)], args := [d1, d2, d3, d4, d5, d6, d7] }
  | _ => none }
def debtTellsRow : OpenClaim := { program := "ytomfmjejoocmmaa", sum := "acda19a629f9076c89a084d575388ffe652f7e36a1152c04788404bb4e8db289", func := "lingua/lingualaw44.DebtTells", spec := "debtTells", inPlace := ["slices.overlaps[lingua/api.Debt]"], unfollowed := true, recurses := true, apart := false }
def DebtTellsSaid : Prop := debtTellsRow.holds Try.pinned (OpenSpec.ofChange debtTellsSpec)

/-- ITS FALSE NEIGHBOUR: 'it returns false'. Refute it at one input. -/
def debtTellsWrong : ChangeSpec := { name := "debtTells", fn := fun _ => fun
  | [d1, d2, d3, d4, d5, d6, d7] => { results := [.lit (.bool false)], args := [d1, d2, d3, d4, d5, d6, d7] }
  | _ => none }
def DebtTellsWrongFalsely : Prop := debtTellsRow.holds Try.pinned (OpenSpec.ofChange debtTellsWrong)

/-- 'lingualaw44.DebtPlays': WHATEVER THE INPUT: true; the input reads as it did. -/
def debtPlaysSpec : ChangeSpec := { name := "debtPlays", fn := fun _ => fun
  | [d1, d2, d3, d4] => { results := [.lit (.bool true)], args := [d1, d2, d3, d4] }
  | _ => none }
def debtPlaysRow : OpenClaim := { program := "ytomfmjejoocmmaa", sum := "acda19a629f9076c89a084d575388ffe652f7e36a1152c04788404bb4e8db289", func := "lingua/lingualaw44.DebtPlays", spec := "debtPlays", inPlace := ["slices.overlaps[lingua/api.Debt]"], unfollowed := true, recurses := true, apart := false }
def DebtPlaysSaid : Prop := debtPlaysRow.holds Try.pinned (OpenSpec.ofChange debtPlaysSpec)

/-- ITS FALSE NEIGHBOUR: 'it returns false'. Refute it at one input. -/
def debtPlaysWrong : ChangeSpec := { name := "debtPlays", fn := fun _ => fun
  | [d1, d2, d3, d4] => { results := [.lit (.bool false)], args := [d1, d2, d3, d4] }
  | _ => none }
def DebtPlaysWrongFalsely : Prop := debtPlaysRow.holds Try.pinned (OpenSpec.ofChange debtPlaysWrong)

/-- 'lingualaw44.DebtGrows': WHATEVER THE INPUT: true; the input reads as it did. -/
def debtGrowsSpec : ChangeSpec := { name := "debtGrows", fn := fun _ => fun
  | [d1, d2, d3, d4, d5, d6] => { results := [.lit (.bool true)], args := [d1, d2, d3, d4, d5, d6] }
  | _ => none }
def debtGrowsRow : OpenClaim := { program := "ytomfmjejoocmmaa", sum := "acda19a629f9076c89a084d575388ffe652f7e36a1152c04788404bb4e8db289", func := "lingua/lingualaw44.DebtGrows", spec := "debtGrows", inPlace := ["slices.overlaps[lingua/api.Debt]"], unfollowed := true, recurses := true, apart := false }
def DebtGrowsSaid : Prop := debtGrowsRow.holds Try.pinned (OpenSpec.ofChange debtGrowsSpec)

/-- ITS FALSE NEIGHBOUR: 'it returns false'. Refute it at one input. -/
def debtGrowsWrong : ChangeSpec := { name := "debtGrows", fn := fun _ => fun
  | [d1, d2, d3, d4, d5, d6] => { results := [.lit (.bool false)], args := [d1, d2, d3, d4, d5, d6] }
  | _ => none }
def DebtGrowsWrongFalsely : Prop := debtGrowsRow.holds Try.pinned (OpenSpec.ofChange debtGrowsWrong)

/-- 'lingualaw44.DebtUndoes': WHATEVER THE INPUT: true; the input reads as it did. -/
def debtUndoesSpec : ChangeSpec := { name := "debtUndoes", fn := fun _ => fun
  | [d1, d2] => { results := [.lit (.bool true)], args := [d1, d2] }
  | _ => none }
def debtUndoesRow : OpenClaim := { program := "ytomfmjejoocmmaa", sum := "acda19a629f9076c89a084d575388ffe652f7e36a1152c04788404bb4e8db289", func := "lingua/lingualaw44.DebtUndoes", spec := "debtUndoes", inPlace := ["slices.overlaps[lingua/api.Debt]"], unfollowed := true, recurses := true, apart := false }
def DebtUndoesSaid : Prop := debtUndoesRow.holds Try.pinned (OpenSpec.ofChange debtUndoesSpec)

/-- ITS FALSE NEIGHBOUR: 'it returns false'. Refute it at one input. -/
def debtUndoesWrong : ChangeSpec := { name := "debtUndoes", fn := fun _ => fun
  | [d1, d2] => { results := [.lit (.bool false)], args := [d1, d2] }
  | _ => none }
def DebtUndoesWrongFalsely : Prop := debtUndoesRow.holds Try.pinned (OpenSpec.ofChange debtUndoesWrong)

/- THE SECOND FORM. 'bulk': how many values and letters a reading holds, each counted each time it is reached (what is shared counts as often as it is met; a slice's spare places count too). A statement '..UptoSaid' is the law's where the arguments, and the package variables that the reading takes, are together of bulk at most 1048576: NARROWER than '..Said'. Prove '..Said' where nothing that the law and all that it calls make is longer than what came in: it says more and counts as full. Else prove '..UptoSaid'. A law counts once. -/
mutual
def uptoBulk {H : Type} : DataW H → Nat
  | .lit (.string bytes) => bytes.length + 1
  | .lit _ => 1
  | .nil => 1
  | .ptr d => uptoBulk d + 1
  | .slice elems spare => uptoBulkAll elems + uptoBulkAll spare + 1
  | .agg parts => uptoBulkAll parts + 1
  | .iface _ d => uptoBulk d + 1
  | .map entries => uptoBulkEntries entries + 1
  | .held _ => 1
def uptoBulkAll {H : Type} : List (DataW H) → Nat
  | [] => 0
  | d :: r => uptoBulk d + uptoBulkAll r
def uptoBulkEntries {H : Type} : List (Lit × DataW H) → Nat
  | [] => 0
  | x :: r => uptoBulkEntry x + uptoBulkEntries r
def uptoBulkEntry {H : Type} : Lit × DataW H → Nat
  | (.string bytes, d) => bytes.length + uptoBulk d + 1
  | (_, d) => uptoBulk d + 1
 end
def uptoSmall : (H : Type) → List (DataW H) → Bool := fun _ ds => decide (uptoBulkAll ds ≤ 1048576)
def OpenSpec.upto (s : _root_.Go.ChangeSpec) : _root_.Go.OpenSpec := { _root_.Go.OpenSpec.ofChange s with cond := some uptoSmall }

/-- 'lingualaw44.DebtTells', WHERE WHAT IT READS IS OF BULK AT MOST 1048576: true; the input reads as it did. -/
def debtTellsUptoRow : OpenClaim := { program := "ytomfmjejoocmmaa", sum := "acda19a629f9076c89a084d575388ffe652f7e36a1152c04788404bb4e8db289", func := "lingua/lingualaw44.DebtTells", spec := "debtTells", inPlace := ["slices.overlaps[lingua/api.Debt]"], unfollowed := true, recurses := true, apart := false, narrowed := true }
def DebtTellsUptoSaid : Prop := debtTellsUptoRow.holds Try.pinned (OpenSpec.upto debtTellsSpec)

/-- 'lingualaw44.DebtPlays', WHERE WHAT IT READS IS OF BULK AT MOST 1048576: true; the input reads as it did. -/
def debtPlaysUptoRow : OpenClaim := { program := "ytomfmjejoocmmaa", sum := "acda19a629f9076c89a084d575388ffe652f7e36a1152c04788404bb4e8db289", func := "lingua/lingualaw44.DebtPlays", spec := "debtPlays", inPlace := ["slices.overlaps[lingua/api.Debt]"], unfollowed := true, recurses := true, apart := false, narrowed := true }
def DebtPlaysUptoSaid : Prop := debtPlaysUptoRow.holds Try.pinned (OpenSpec.upto debtPlaysSpec)

/-- 'lingualaw44.DebtGrows', WHERE WHAT IT READS IS OF BULK AT MOST 1048576: true; the input reads as it did. -/
def debtGrowsUptoRow : OpenClaim := { program := "ytomfmjejoocmmaa", sum := "acda19a629f9076c89a084d575388ffe652f7e36a1152c04788404bb4e8db289", func := "lingua/lingualaw44.DebtGrows", spec := "debtGrows", inPlace := ["slices.overlaps[lingua/api.Debt]"], unfollowed := true, recurses := true, apart := false, narrowed := true }
def DebtGrowsUptoSaid : Prop := debtGrowsUptoRow.holds Try.pinned (OpenSpec.upto debtGrowsSpec)

/-- 'lingualaw44.DebtUndoes', WHERE WHAT IT READS IS OF BULK AT MOST 1048576: true; the input reads as it did. -/
def debtUndoesUptoRow : OpenClaim := { program := "ytomfmjejoocmmaa", sum := "acda19a629f9076c89a084d575388ffe652f7e36a1152c04788404bb4e8db289", func := "lingua/lingualaw44.DebtUndoes", spec := "debtUndoes", inPlace := ["slices.overlaps[lingua/api.Debt]"], unfollowed := true, recurses := true, apart := false, narrowed := true }
def DebtUndoesUptoSaid : Prop := debtUndoesUptoRow.holds Try.pinned (OpenSpec.upto debtUndoesSpec)

end Rows
end Go.Proofs.Ytomfmjejoocmmaa

/-
  No cell of these rows narrows 'for every input' (looked for: loops, veiled, ifaces, maps, wideKeys, modest, calm, conditions, laid).
  DERIVED. THE GIVEN ROWS OF THIS SEAT. 6 by the template 'for every input the law returns true; each argument reads behind the call as it read before'; 0 by the template 'total and deterministic' (their statements: YtlgadmholjaljaaTotals.lean).
  GIVEN WITH THE SEED: the statements are not yours to turn. If you find one false, say at which input.
  Laid BY PROGRAM, IN A SANDBOX (cutbox-rows.mjs): the forced cells as the released guide's own fill.sh prints them over the translation 89e79b751b702c96… (all of the seat's roots in one cut). By AI agents, Wed Nov 11 2026. No macro, syntax, notation, axiom, sorry.
-/
import Derived.Test.YtlgadmholjaljaaChecked
import GoSem.Claim
import GoSem.ClaimJoined
import GoSem.ClaimMapViews
import Derived.JoinedTies
import Derived.KernelRfl
namespace Go.Proofs.Ytlgadmholjaljaa
/- THE CELL 'sum', in the pinned program and in every row, IS THE sha256 OF THE DUMP (.gsa) THAT YtlgadmholjaljaaProg.lean LOADS. Nothing in Lean hashes anything: it is a label: what it is worth is what the hold of that sum in a sandbox is worth. -/
noncomputable def Try.pinned : Pinned := { name := "ytlgadmholjaljaa", sum := "89e79b751b702c96095b2a006f544d3d3e02a38fa632ad7edf5887f0d037739e", checked := Try.checked }
namespace Rows
def none {H : Type} : Left H := { results := [], args := [] }

/-- 'lingualaw07.GraphOrders': WHATEVER THE INPUT: true; the input reads as it did. -/
def graphOrdersSpec : ChangeSpec := { name := "graphOrders", fn := fun _ => fun
  | [d1, d2] => { results := [.lit (.bool true)], args := [d1, d2] }
  | _ => none }
def graphOrdersRow : OpenClaim := { program := "ytlgadmholjaljaa", sum := "89e79b751b702c96095b2a006f544d3d3e02a38fa632ad7edf5887f0d037739e", func := "lingua/lingualaw07.GraphOrders", spec := "graphOrders", inPlace := ["maps.clone"], unfollowed := true, recurses := true, apart := false }
def GraphOrdersSaid : Prop := graphOrdersRow.holds Try.pinned (OpenSpec.ofChange graphOrdersSpec)

/-- ITS FALSE NEIGHBOUR: 'it returns false'. Refute it at one input. -/
def graphOrdersWrong : ChangeSpec := { name := "graphOrders", fn := fun _ => fun
  | [d1, d2] => { results := [.lit (.bool false)], args := [d1, d2] }
  | _ => none }
def GraphOrdersWrongFalsely : Prop := graphOrdersRow.holds Try.pinned (OpenSpec.ofChange graphOrdersWrong)

/-- 'lingualaw07.GraphRefuses': WHATEVER THE INPUT: true; the input reads as it did. -/
def graphRefusesSpec : ChangeSpec := { name := "graphRefuses", fn := fun _ => fun
  | [d] => { results := [.lit (.bool true)], args := [d] }
  | _ => none }
def graphRefusesRow : OpenClaim := { program := "ytlgadmholjaljaa", sum := "89e79b751b702c96095b2a006f544d3d3e02a38fa632ad7edf5887f0d037739e", func := "lingua/lingualaw07.GraphRefuses", spec := "graphRefuses", inPlace := ["maps.clone"], unfollowed := true, recurses := true, apart := false }
def GraphRefusesSaid : Prop := graphRefusesRow.holds Try.pinned (OpenSpec.ofChange graphRefusesSpec)

/-- ITS FALSE NEIGHBOUR: 'it returns false'. Refute it at one input. -/
def graphRefusesWrong : ChangeSpec := { name := "graphRefuses", fn := fun _ => fun
  | [d] => { results := [.lit (.bool false)], args := [d] }
  | _ => none }
def GraphRefusesWrongFalsely : Prop := graphRefusesRow.holds Try.pinned (OpenSpec.ofChange graphRefusesWrong)

/-- 'lingualaw07.GraphSorted': WHATEVER THE INPUT: true; the input reads as it did. -/
def graphSortedSpec : ChangeSpec := { name := "graphSorted", fn := fun _ => fun
  | [d1, d2] => { results := [.lit (.bool true)], args := [d1, d2] }
  | _ => none }
def graphSortedRow : OpenClaim := { program := "ytlgadmholjaljaa", sum := "89e79b751b702c96095b2a006f544d3d3e02a38fa632ad7edf5887f0d037739e", func := "lingua/lingualaw07.GraphSorted", spec := "graphSorted", unfollowed := true, recurses := true, apart := false }
def GraphSortedSaid : Prop := graphSortedRow.holds Try.pinned (OpenSpec.ofChange graphSortedSpec)

/-- ITS FALSE NEIGHBOUR: 'it returns false'. Refute it at one input. -/
def graphSortedWrong : ChangeSpec := { name := "graphSorted", fn := fun _ => fun
  | [d1, d2] => { results := [.lit (.bool false)], args := [d1, d2] }
  | _ => none }
def GraphSortedWrongFalsely : Prop := graphSortedRow.holds Try.pinned (OpenSpec.ofChange graphSortedWrong)

/-- 'lingualaw07.GraphPast': WHATEVER THE INPUT: true; the input reads as it did. -/
def graphPastSpec : ChangeSpec := { name := "graphPast", fn := fun _ => fun
  | [d] => { results := [.lit (.bool true)], args := [d] }
  | _ => none }
def graphPastRow : OpenClaim := { program := "ytlgadmholjaljaa", sum := "89e79b751b702c96095b2a006f544d3d3e02a38fa632ad7edf5887f0d037739e", func := "lingua/lingualaw07.GraphPast", spec := "graphPast", unfollowed := true, recurses := true, apart := false }
def GraphPastSaid : Prop := graphPastRow.holds Try.pinned (OpenSpec.ofChange graphPastSpec)

/-- ITS FALSE NEIGHBOUR: 'it returns false'. Refute it at one input. -/
def graphPastWrong : ChangeSpec := { name := "graphPast", fn := fun _ => fun
  | [d] => { results := [.lit (.bool false)], args := [d] }
  | _ => none }
def GraphPastWrongFalsely : Prop := graphPastRow.holds Try.pinned (OpenSpec.ofChange graphPastWrong)

/-- 'lingualaw07.GraphTells': WHATEVER THE INPUT: true; the input reads as it did. -/
def graphTellsSpec : ChangeSpec := { name := "graphTells", fn := fun _ => fun
  | [d1, d2, d3, d4] => { results := [.lit (.bool true)], args := [d1, d2, d3, d4] }
  | _ => none }
def graphTellsRow : OpenClaim := { program := "ytlgadmholjaljaa", sum := "89e79b751b702c96095b2a006f544d3d3e02a38fa632ad7edf5887f0d037739e", func := "lingua/lingualaw07.GraphTells", spec := "graphTells", unfollowed := true, recurses := true, apart := false }
def GraphTellsSaid : Prop := graphTellsRow.holds Try.pinned (OpenSpec.ofChange graphTellsSpec)

/-- ITS FALSE NEIGHBOUR: 'it returns false'. Refute it at one input. -/
def graphTellsWrong : ChangeSpec := { name := "graphTells", fn := fun _ => fun
  | [d1, d2, d3, d4] => { results := [.lit (.bool false)], args := [d1, d2, d3, d4] }
  | _ => none }
def GraphTellsWrongFalsely : Prop := graphTellsRow.holds Try.pinned (OpenSpec.ofChange graphTellsWrong)

/-- 'lingualaw07.GraphParts': WHATEVER THE INPUT: true; the input reads as it did. -/
def graphPartsSpec : ChangeSpec := { name := "graphParts", fn := fun _ => fun
  | [d1, d2, d3] => { results := [.lit (.bool true)], args := [d1, d2, d3] }
  | _ => none }
def graphPartsRow : OpenClaim := { program := "ytlgadmholjaljaa", sum := "89e79b751b702c96095b2a006f544d3d3e02a38fa632ad7edf5887f0d037739e", func := "lingua/lingualaw07.GraphParts", spec := "graphParts", inPlace := ["maps.clone"], unfollowed := true, recurses := true, apart := false }
def GraphPartsSaid : Prop := graphPartsRow.holds Try.pinned (OpenSpec.ofChange graphPartsSpec)

/-- ITS FALSE NEIGHBOUR: 'it returns false'. Refute it at one input. -/
def graphPartsWrong : ChangeSpec := { name := "graphParts", fn := fun _ => fun
  | [d1, d2, d3] => { results := [.lit (.bool false)], args := [d1, d2, d3] }
  | _ => none }
def GraphPartsWrongFalsely : Prop := graphPartsRow.holds Try.pinned (OpenSpec.ofChange graphPartsWrong)

/- THE SECOND FORM. 'bulk': how many values and letters a reading holds, each counted each time it is reached (what is shared counts as often as it is met; a slice's spare places count too). A statement '..UptoSaid' is the law's where the arguments, and the package variables that the reading takes, are together of bulk at most 1048576: NARROWER than '..Said'. Prove '..Said' where nothing that the law and all that it calls make is longer than what came in: it says more and counts as full. Else prove '..UptoSaid'. A law counts once. -/
mutual
def uptoBulk {H : Type} : DataW H → Nat
  | .lit (.string bytes) => bytes.length + 1
  | .lit _ => 1
  | .nil => 1
  | .ptr d => uptoBulk d + 1
  | .slice elems spare => uptoBulkAll elems + uptoBulkAll spare + 1
  | .agg parts => uptoBulkAll parts + 1
  | .iface _ d => uptoBulk d + 1
  | .map entries => uptoBulkEntries entries + 1
  | .held _ => 1
def uptoBulkAll {H : Type} : List (DataW H) → Nat
  | [] => 0
  | d :: r => uptoBulk d + uptoBulkAll r
def uptoBulkEntries {H : Type} : List (Lit × DataW H) → Nat
  | [] => 0
  | x :: r => uptoBulkEntry x + uptoBulkEntries r
def uptoBulkEntry {H : Type} : Lit × DataW H → Nat
  | (.string bytes, d) => bytes.length + uptoBulk d + 1
  | (_, d) => uptoBulk d + 1
 end
def uptoSmall : (H : Type) → List (DataW H) → Bool := fun _ ds => decide (uptoBulkAll ds ≤ 1048576)
def OpenSpec.upto (s : _root_.Go.ChangeSpec) : _root_.Go.OpenSpec := { _root_.Go.OpenSpec.ofChange s with cond := some uptoSmall }

/-- 'lingualaw07.GraphOrders', WHERE WHAT IT READS IS OF BULK AT MOST 1048576: true; the input reads as it did. -/
def graphOrdersUptoRow : OpenClaim := { program := "ytlgadmholjaljaa", sum := "89e79b751b702c96095b2a006f544d3d3e02a38fa632ad7edf5887f0d037739e", func := "lingua/lingualaw07.GraphOrders", spec := "graphOrders", inPlace := ["maps.clone"], unfollowed := true, recurses := true, apart := false, narrowed := true }
def GraphOrdersUptoSaid : Prop := graphOrdersUptoRow.holds Try.pinned (OpenSpec.upto graphOrdersSpec)

/-- 'lingualaw07.GraphRefuses', WHERE WHAT IT READS IS OF BULK AT MOST 1048576: true; the input reads as it did. -/
def graphRefusesUptoRow : OpenClaim := { program := "ytlgadmholjaljaa", sum := "89e79b751b702c96095b2a006f544d3d3e02a38fa632ad7edf5887f0d037739e", func := "lingua/lingualaw07.GraphRefuses", spec := "graphRefuses", inPlace := ["maps.clone"], unfollowed := true, recurses := true, apart := false, narrowed := true }
def GraphRefusesUptoSaid : Prop := graphRefusesUptoRow.holds Try.pinned (OpenSpec.upto graphRefusesSpec)

/-- 'lingualaw07.GraphSorted', WHERE WHAT IT READS IS OF BULK AT MOST 1048576: true; the input reads as it did. -/
def graphSortedUptoRow : OpenClaim := { program := "ytlgadmholjaljaa", sum := "89e79b751b702c96095b2a006f544d3d3e02a38fa632ad7edf5887f0d037739e", func := "lingua/lingualaw07.GraphSorted", spec := "graphSorted", unfollowed := true, recurses := true, apart := false, narrowed := true }
def GraphSortedUptoSaid : Prop := graphSortedUptoRow.holds Try.pinned (OpenSpec.upto graphSortedSpec)

/-- 'lingualaw07.GraphPast', WHERE WHAT IT READS IS OF BULK AT MOST 1048576: true; the input reads as it did. -/
def graphPastUptoRow : OpenClaim := { program := "ytlgadmholjaljaa", sum := "89e79b751b702c96095b2a006f544d3d3e02a38fa632ad7edf5887f0d037739e", func := "lingua/lingualaw07.GraphPast", spec := "graphPast", unfollowed := true, recurses := true, apart := false, narrowed := true }
def GraphPastUptoSaid : Prop := graphPastUptoRow.holds Try.pinned (OpenSpec.upto graphPastSpec)

/-- 'lingualaw07.GraphTells', WHERE WHAT IT READS IS OF BULK AT MOST 1048576: true; the input reads as it did. -/
def graphTellsUptoRow : OpenClaim := { program := "ytlgadmholjaljaa", sum := "89e79b751b702c96095b2a006f544d3d3e02a38fa632ad7edf5887f0d037739e", func := "lingua/lingualaw07.GraphTells", spec := "graphTells", unfollowed := true, recurses := true, apart := false, narrowed := true }
def GraphTellsUptoSaid : Prop := graphTellsUptoRow.holds Try.pinned (OpenSpec.upto graphTellsSpec)

/-- 'lingualaw07.GraphParts', WHERE WHAT IT READS IS OF BULK AT MOST 1048576: true; the input reads as it did. -/
def graphPartsUptoRow : OpenClaim := { program := "ytlgadmholjaljaa", sum := "89e79b751b702c96095b2a006f544d3d3e02a38fa632ad7edf5887f0d037739e", func := "lingua/lingualaw07.GraphParts", spec := "graphParts", inPlace := ["maps.clone"], unfollowed := true, recurses := true, apart := false, narrowed := true }
def GraphPartsUptoSaid : Prop := graphPartsUptoRow.holds Try.pinned (OpenSpec.upto graphPartsSpec)

end Rows
end Go.Proofs.Ytlgadmholjaljaa

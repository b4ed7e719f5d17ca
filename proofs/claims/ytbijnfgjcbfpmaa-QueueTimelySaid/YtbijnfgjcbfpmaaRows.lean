/-
  No cell of these rows narrows 'for every input' (looked for: loops, veiled, ifaces, maps, wideKeys, modest, calm, conditions, laid).
  DERIVED. THE GIVEN ROWS OF THIS SEAT. 3 by the template 'for every input the law returns true; each argument reads behind the call as it read before'; 0 by the template 'total and deterministic' (their statements: YtbijnfgjcbfpmaaTotals.lean).
  GIVEN WITH THE SEED: the statements are not yours to turn. If you find one false, say at which input.
  Laid BY PROGRAM, IN A SANDBOX (cutbox-rows.mjs): the forced cells as the released guide's own fill.sh prints them over the translation 32bef7ba05cea063… (all of the seat's roots in one cut). By AI agents, Wed Nov 11 2026. No macro, syntax, notation, axiom, sorry.
-/
import Derived.Test.YtbijnfgjcbfpmaaChecked
import GoSem.Claim
import GoSem.ClaimJoined
import GoSem.ClaimMapViews
import Derived.JoinedTies
import Derived.KernelRfl
namespace Go.Proofs.Ytbijnfgjcbfpmaa
/- THE CELL 'sum', in the pinned program and in every row, IS THE sha256 OF THE DUMP (.gsa) THAT YtbijnfgjcbfpmaaProg.lean LOADS. Nothing in Lean hashes anything: it is a label: what it is worth is what the hold of that sum in a sandbox is worth. -/
noncomputable def Try.pinned : Pinned := { name := "ytbijnfgjcbfpmaa", sum := "32bef7ba05cea063c7a75de01b185da352441f80cf45c1777ebed65b92d6071f", checked := Try.checked }
namespace Rows
def none {H : Type} : Left H := { results := [], args := [] }

/-- 'lingualaw30.QueueGives': WHATEVER THE INPUT: true; the input reads as it did. -/
def queueGivesSpec : ChangeSpec := { name := "queueGives", fn := fun _ => fun
  | [d1, d2, d3] => { results := [.lit (.bool true)], args := [d1, d2, d3] }
  | _ => none }
def queueGivesRow : OpenClaim := { program := "ytbijnfgjcbfpmaa", sum := "32bef7ba05cea063c7a75de01b185da352441f80cf45c1777ebed65b92d6071f", func := "lingua/lingualaw30.QueueGives", spec := "queueGives", unfollowed := true, recurses := true, apart := false }
def QueueGivesSaid : Prop := queueGivesRow.holds Try.pinned (OpenSpec.ofChange queueGivesSpec)

/-- ITS FALSE NEIGHBOUR: 'it returns false'. Refute it at one input. -/
def queueGivesWrong : ChangeSpec := { name := "queueGives", fn := fun _ => fun
  | [d1, d2, d3] => { results := [.lit (.bool false)], args := [d1, d2, d3] }
  | _ => none }
def QueueGivesWrongFalsely : Prop := queueGivesRow.holds Try.pinned (OpenSpec.ofChange queueGivesWrong)

/-- 'lingualaw30.QueueLess': WHATEVER THE INPUT: true; the input reads as it did. -/
def queueLessSpec : ChangeSpec := { name := "queueLess", fn := fun _ => fun
  | [d1, d2, d3, d4, d5, d6] => { results := [.lit (.bool true)], args := [d1, d2, d3, d4, d5, d6] }
  | _ => none }
def queueLessRow : OpenClaim := { program := "ytbijnfgjcbfpmaa", sum := "32bef7ba05cea063c7a75de01b185da352441f80cf45c1777ebed65b92d6071f", func := "lingua/lingualaw30.QueueLess", spec := "queueLess", unfollowed := true, recurses := true, apart := false }
def QueueLessSaid : Prop := queueLessRow.holds Try.pinned (OpenSpec.ofChange queueLessSpec)

/-- ITS FALSE NEIGHBOUR: 'it returns false'. Refute it at one input. -/
def queueLessWrong : ChangeSpec := { name := "queueLess", fn := fun _ => fun
  | [d1, d2, d3, d4, d5, d6] => { results := [.lit (.bool false)], args := [d1, d2, d3, d4, d5, d6] }
  | _ => none }
def QueueLessWrongFalsely : Prop := queueLessRow.holds Try.pinned (OpenSpec.ofChange queueLessWrong)

/-- 'lingualaw30.QueueTimely': WHATEVER THE INPUT: true; the input reads as it did. -/
def queueTimelySpec : ChangeSpec := { name := "queueTimely", fn := fun _ => fun
  | [d1, d2] => { results := [.lit (.bool true)], args := [d1, d2] }
  | _ => none }
def queueTimelyRow : OpenClaim := { program := "ytbijnfgjcbfpmaa", sum := "32bef7ba05cea063c7a75de01b185da352441f80cf45c1777ebed65b92d6071f", func := "lingua/lingualaw30.QueueTimely", spec := "queueTimely", unfollowed := true, recurses := true, apart := false }
def QueueTimelySaid : Prop := queueTimelyRow.holds Try.pinned (OpenSpec.ofChange queueTimelySpec)

/-- ITS FALSE NEIGHBOUR: 'it returns false'. Refute it at one input. -/
def queueTimelyWrong : ChangeSpec := { name := "queueTimely", fn := fun _ => fun
  | [d1, d2] => { results := [.lit (.bool false)], args := [d1, d2] }
  | _ => none }
def QueueTimelyWrongFalsely : Prop := queueTimelyRow.holds Try.pinned (OpenSpec.ofChange queueTimelyWrong)

/- THE SECOND FORM. 'bulk': how many values and letters a reading holds, each counted each time it is reached (what is shared counts as often as it is met; a slice's spare places count too). A statement '..UptoSaid' is the law's where the arguments, and the package variables that the reading takes, are together of bulk at most 1048576: NARROWER than '..Said'. Prove '..Said' where nothing that the law and all that it calls make is longer than what came in: it says more and counts as full. Else prove '..UptoSaid'. A law counts once. -/
mutual
def uptoBulk {H : Type} : DataW H → Nat
  | .lit (.string bytes) => bytes.length + 1
  | .lit _ => 1
  | .nil => 1
  | .ptr d => uptoBulk d + 1
  | .slice elems spare => uptoBulkAll elems + uptoBulkAll spare + 1
  | .agg parts => uptoBulkAll parts + 1
  | .iface _ d => uptoBulk d + 1
  | .map entries => uptoBulkEntries entries + 1
  | .held _ => 1
def uptoBulkAll {H : Type} : List (DataW H) → Nat
  | [] => 0
  | d :: r => uptoBulk d + uptoBulkAll r
def uptoBulkEntries {H : Type} : List (Lit × DataW H) → Nat
  | [] => 0
  | x :: r => uptoBulkEntry x + uptoBulkEntries r
def uptoBulkEntry {H : Type} : Lit × DataW H → Nat
  | (.string bytes, d) => bytes.length + uptoBulk d + 1
  | (_, d) => uptoBulk d + 1
 end
def uptoSmall : (H : Type) → List (DataW H) → Bool := fun _ ds => decide (uptoBulkAll ds ≤ 1048576)
def OpenSpec.upto (s : _root_.Go.ChangeSpec) : _root_.Go.OpenSpec := { _root_.Go.OpenSpec.ofChange s with cond := some uptoSmall }

/-- 'lingualaw30.QueueGives', WHERE WHAT IT READS IS OF BULK AT MOST 1048576: true; the input reads as it did. -/
def queueGivesUptoRow : OpenClaim := { program := "ytbijnfgjcbfpmaa", sum := "32bef7ba05cea063c7a75de01b185da352441f80cf45c1777ebed65b92d6071f", func := "lingua/lingualaw30.QueueGives", spec := "queueGives", unfollowed := true, recurses := true, apart := false, narrowed := true }
def QueueGivesUptoSaid : Prop := queueGivesUptoRow.holds Try.pinned (OpenSpec.upto queueGivesSpec)

/-- 'lingualaw30.QueueLess', WHERE WHAT IT READS IS OF BULK AT MOST 1048576: true; the input reads as it did. -/
def queueLessUptoRow : OpenClaim := { program := "ytbijnfgjcbfpmaa", sum := "32bef7ba05cea063c7a75de01b185da352441f80cf45c1777ebed65b92d6071f", func := "lingua/lingualaw30.QueueLess", spec := "queueLess", unfollowed := true, recurses := true, apart := false, narrowed := true }
def QueueLessUptoSaid : Prop := queueLessUptoRow.holds Try.pinned (OpenSpec.upto queueLessSpec)

/-- 'lingualaw30.QueueTimely', WHERE WHAT IT READS IS OF BULK AT MOST 1048576: true; the input reads as it did. -/
def queueTimelyUptoRow : OpenClaim := { program := "ytbijnfgjcbfpmaa", sum := "32bef7ba05cea063c7a75de01b185da352441f80cf45c1777ebed65b92d6071f", func := "lingua/lingualaw30.QueueTimely", spec := "queueTimely", unfollowed := true, recurses := true, apart := false, narrowed := true }
def QueueTimelyUptoSaid : Prop := queueTimelyUptoRow.holds Try.pinned (OpenSpec.upto queueTimelySpec)

end Rows
end Go.Proofs.Ytbijnfgjcbfpmaa

/-
  No cell of these rows narrows 'for every input' (looked for: loops, veiled, ifaces, maps, wideKeys, modest, calm, conditions, laid).
  DERIVED. THE GIVEN ROWS OF THIS SEAT. 4 by the template 'for every input the law returns true; each argument reads behind the call as it read before'; 0 by the template 'total and deterministic' (their statements: YtikfbgbfjipceaaTotals.lean).
  GIVEN WITH THE SEED: the statements are not yours to turn. If you find one false, say at which input.
  Laid BY PROGRAM, IN A SANDBOX (cutbox-rows.mjs): the forced cells as the released guide's own fill.sh prints them over the translation 6d0da199705f29d1… (all of the seat's roots in one cut). By AI agents, Wed Nov 11 2026. No macro, syntax, notation, axiom, sorry.
-/
import Derived.Test.YtikfbgbfjipceaaChecked
import GoSem.Claim
import GoSem.ClaimJoined
import GoSem.ClaimMapViews
import Derived.JoinedTies
import Derived.KernelRfl
namespace Go.Proofs.Ytikfbgbfjipceaa
/- THE CELL 'sum', in the pinned program and in every row, IS THE sha256 OF THE DUMP (.gsa) THAT YtikfbgbfjipceaaProg.lean LOADS. Nothing in Lean hashes anything: it is a label: what it is worth is what the hold of that sum in a sandbox is worth. -/
noncomputable def Try.pinned : Pinned := { name := "ytikfbgbfjipceaa", sum := "6d0da199705f29d1ec6e07153e792706e2d4c8158160153b42786857fba8b1db", checked := Try.checked }
namespace Rows
def none {H : Type} : Left H := { results := [], args := [] }

/-- 'lingualaw32.OnceTells': WHATEVER THE INPUT: true; the input reads as it did. -/
def onceTellsSpec : ChangeSpec := { name := "onceTells", fn := fun _ => fun
  | [d1, d2, d3, d4] => { results := [.lit (.bool true)], args := [d1, d2, d3, d4] }
  | _ => none }
def onceTellsRow : OpenClaim := { program := "ytikfbgbfjipceaa", sum := "6d0da199705f29d1ec6e07153e792706e2d4c8158160153b42786857fba8b1db", func := "lingua/lingualaw32.OnceTells", spec := "onceTells", inPlace := ["slices.overlaps[[2]int]"], unfollowed := true, recurses := true, apart := false }
def OnceTellsSaid : Prop := onceTellsRow.holds Try.pinned (OpenSpec.ofChange onceTellsSpec)

/-- ITS FALSE NEIGHBOUR: 'it returns false'. Refute it at one input. -/
def onceTellsWrong : ChangeSpec := { name := "onceTells", fn := fun _ => fun
  | [d1, d2, d3, d4] => { results := [.lit (.bool false)], args := [d1, d2, d3, d4] }
  | _ => none }
def OnceTellsWrongFalsely : Prop := onceTellsRow.holds Try.pinned (OpenSpec.ofChange onceTellsWrong)

/-- 'lingualaw32.OnceTakes': WHATEVER THE INPUT: true; the input reads as it did. -/
def onceTakesSpec : ChangeSpec := { name := "onceTakes", fn := fun _ => fun
  | [d1, d2] => { results := [.lit (.bool true)], args := [d1, d2] }
  | _ => none }
def onceTakesRow : OpenClaim := { program := "ytikfbgbfjipceaa", sum := "6d0da199705f29d1ec6e07153e792706e2d4c8158160153b42786857fba8b1db", func := "lingua/lingualaw32.OnceTakes", spec := "onceTakes", inPlace := ["slices.overlaps[[2]int]"], unfollowed := true, recurses := true, apart := false }
def OnceTakesSaid : Prop := onceTakesRow.holds Try.pinned (OpenSpec.ofChange onceTakesSpec)

/-- ITS FALSE NEIGHBOUR: 'it returns false'. Refute it at one input. -/
def onceTakesWrong : ChangeSpec := { name := "onceTakes", fn := fun _ => fun
  | [d1, d2] => { results := [.lit (.bool false)], args := [d1, d2] }
  | _ => none }
def OnceTakesWrongFalsely : Prop := onceTakesRow.holds Try.pinned (OpenSpec.ofChange onceTakesWrong)

/-- 'lingualaw32.OnceOrder': WHATEVER THE INPUT: true; the input reads as it did. -/
def onceOrderSpec : ChangeSpec := { name := "onceOrder", fn := fun _ => fun
  | [d1, d2, d3] => { results := [.lit (.bool true)], args := [d1, d2, d3] }
  | _ => none }
def onceOrderRow : OpenClaim := { program := "ytikfbgbfjipceaa", sum := "6d0da199705f29d1ec6e07153e792706e2d4c8158160153b42786857fba8b1db", func := "lingua/lingualaw32.OnceOrder", spec := "onceOrder", inPlace := ["slices.overlaps[[2]int]"], unfollowed := true, recurses := true, apart := false }
def OnceOrderSaid : Prop := onceOrderRow.holds Try.pinned (OpenSpec.ofChange onceOrderSpec)

/-- ITS FALSE NEIGHBOUR: 'it returns false'. Refute it at one input. -/
def onceOrderWrong : ChangeSpec := { name := "onceOrder", fn := fun _ => fun
  | [d1, d2, d3] => { results := [.lit (.bool false)], args := [d1, d2, d3] }
  | _ => none }
def OnceOrderWrongFalsely : Prop := onceOrderRow.holds Try.pinned (OpenSpec.ofChange onceOrderWrong)

/-- 'lingualaw32.OnceDrops': WHATEVER THE INPUT: true; the input reads as it did. -/
def onceDropsSpec : ChangeSpec := { name := "onceDrops", fn := fun _ => fun
  | [d1, d2, d3, d4, d5, d6] => { results := [.lit (.bool true)], args := [d1, d2, d3, d4, d5, d6] }
  | _ => none }
def onceDropsRow : OpenClaim := { program := "ytikfbgbfjipceaa", sum := "6d0da199705f29d1ec6e07153e792706e2d4c8158160153b42786857fba8b1db", func := "lingua/lingualaw32.OnceDrops", spec := "onceDrops", inPlace := ["slices.overlaps[[2]int]"], unfollowed := true, recurses := true, apart := false }
def OnceDropsSaid : Prop := onceDropsRow.holds Try.pinned (OpenSpec.ofChange onceDropsSpec)

/-- ITS FALSE NEIGHBOUR: 'it returns false'. Refute it at one input. -/
def onceDropsWrong : ChangeSpec := { name := "onceDrops", fn := fun _ => fun
  | [d1, d2, d3, d4, d5, d6] => { results := [.lit (.bool false)], args := [d1, d2, d3, d4, d5, d6] }
  | _ => none }
def OnceDropsWrongFalsely : Prop := onceDropsRow.holds Try.pinned (OpenSpec.ofChange onceDropsWrong)

/- THE SECOND FORM. 'bulk': how many values and letters a reading holds, each counted each time it is reached (what is shared counts as often as it is met; a slice's spare places count too). A statement '..UptoSaid' is the law's where the arguments, and the package variables that the reading takes, are together of bulk at most 1048576: NARROWER than '..Said'. Prove '..Said' where nothing that the law and all that it calls make is longer than what came in: it says more and counts as full. Else prove '..UptoSaid'. A law counts once. -/
mutual
def uptoBulk {H : Type} : DataW H → Nat
  | .lit (.string bytes) => bytes.length + 1
  | .lit _ => 1
  | .nil => 1
  | .ptr d => uptoBulk d + 1
  | .slice elems spare => uptoBulkAll elems + uptoBulkAll spare + 1
  | .agg parts => uptoBulkAll parts + 1
  | .iface _ d => uptoBulk d + 1
  | .map entries => uptoBulkEntries entries + 1
  | .held _ => 1
def uptoBulkAll {H : Type} : List (DataW H) → Nat
  | [] => 0
  | d :: r => uptoBulk d + uptoBulkAll r
def uptoBulkEntries {H : Type} : List (Lit × DataW H) → Nat
  | [] => 0
  | x :: r => uptoBulkEntry x + uptoBulkEntries r
def uptoBulkEntry {H : Type} : Lit × DataW H → Nat
  | (.string bytes, d) => bytes.length + uptoBulk d + 1
  | (_, d) => uptoBulk d + 1
 end
def uptoSmall : (H : Type) → List (DataW H) → Bool := fun _ ds => decide (uptoBulkAll ds ≤ 1048576)
def OpenSpec.upto (s : _root_.Go.ChangeSpec) : _root_.Go.OpenSpec := { _root_.Go.OpenSpec.ofChange s with cond := some uptoSmall }

/-- 'lingualaw32.OnceTells', WHERE WHAT IT READS IS OF BULK AT MOST 1048576: true; the input reads as it did. -/
def onceTellsUptoRow : OpenClaim := { program := "ytikfbgbfjipceaa", sum := "6d0da199705f29d1ec6e07153e792706e2d4c8158160153b42786857fba8b1db", func := "lingua/lingualaw32.OnceTells", spec := "onceTells", inPlace := ["slices.overlaps[[2]int]"], unfollowed := true, recurses := true, apart := false, narrowed := true }
def OnceTellsUptoSaid : Prop := onceTellsUptoRow.holds Try.pinned (OpenSpec.upto onceTellsSpec)

/-- 'lingualaw32.OnceTakes', WHERE WHAT IT READS IS OF BULK AT MOST 1048576: true; the input reads as it did. -/
def onceTakesUptoRow : OpenClaim := { program := "ytikfbgbfjipceaa", sum := "6d0da199705f29d1ec6e07153e792706e2d4c8158160153b42786857fba8b1db", func := "lingua/lingualaw32.OnceTakes", spec := "onceTakes", inPlace := ["slices.overlaps[[2]int]"], unfollowed := true, recurses := true, apart := false, narrowed := true }
def OnceTakesUptoSaid : Prop := onceTakesUptoRow.holds Try.pinned (OpenSpec.upto onceTakesSpec)

/-- 'lingualaw32.OnceOrder', WHERE WHAT IT READS IS OF BULK AT MOST 1048576: true; the input reads as it did. -/
def onceOrderUptoRow : OpenClaim := { program := "ytikfbgbfjipceaa", sum := "6d0da199705f29d1ec6e07153e792706e2d4c8158160153b42786857fba8b1db", func := "lingua/lingualaw32.OnceOrder", spec := "onceOrder", inPlace := ["slices.overlaps[[2]int]"], unfollowed := true, recurses := true, apart := false, narrowed := true }
def OnceOrderUptoSaid : Prop := onceOrderUptoRow.holds Try.pinned (OpenSpec.upto onceOrderSpec)

/-- 'lingualaw32.OnceDrops', WHERE WHAT IT READS IS OF BULK AT MOST 1048576: true; the input reads as it did. -/
def onceDropsUptoRow : OpenClaim := { program := "ytikfbgbfjipceaa", sum := "6d0da199705f29d1ec6e07153e792706e2d4c8158160153b42786857fba8b1db", func := "lingua/lingualaw32.OnceDrops", spec := "onceDrops", inPlace := ["slices.overlaps[[2]int]"], unfollowed := true, recurses := true, apart := false, narrowed := true }
def OnceDropsUptoSaid : Prop := onceDropsUptoRow.holds Try.pinned (OpenSpec.upto onceDropsSpec)

end Rows
end Go.Proofs.Ytikfbgbfjipceaa

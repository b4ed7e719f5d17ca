/-
  No cell of these rows narrows 'for every input' (looked for: loops, veiled, ifaces, maps, wideKeys, modest, calm, conditions, laid).
  DERIVED. THE GIVEN ROWS OF THIS SEAT. 5 by the template 'for every input the law returns true; each argument reads behind the call as it read before'; 0 by the template 'total and deterministic' (their statements: YtpikahfgidgdbaaTotals.lean).
  GIVEN WITH THE SEED: the statements are not yours to turn. If you find one false, say at which input.
  Laid BY PROGRAM, IN A SANDBOX (cutbox-rows.mjs): the forced cells as the released guide's own fill.sh prints them over the translation fe9c632365178209… (all of the seat's roots in one cut). By AI agents, Wed Nov 11 2026. No macro, syntax, notation, axiom, sorry.
-/
import Derived.Test.YtpikahfgidgdbaaChecked
import GoSem.Claim
import GoSem.ClaimJoined
import GoSem.ClaimMapViews
import Derived.JoinedTies
import Derived.KernelRfl
namespace Go.Proofs.Ytpikahfgidgdbaa
/- THE CELL 'sum', in the pinned program and in every row, IS THE sha256 OF THE DUMP (.gsa) THAT YtpikahfgidgdbaaProg.lean LOADS. Nothing in Lean hashes anything: it is a label: what it is worth is what the hold of that sum in a sandbox is worth. -/
noncomputable def Try.pinned : Pinned := { name := "ytpikahfgidgdbaa", sum := "fe9c63236517820959f403bd2c646f8903577bde05b2498afdce9a3e5672031f", checked := Try.checked }
namespace Rows
def none {H : Type} : Left H := { results := [], args := [] }

/-- 'lingualaw16.ViewTells': WHATEVER THE INPUT: true; the input reads as it did. -/
def viewTellsSpec : ChangeSpec := { name := "viewTells", fn := fun _ => fun
  | [d1, d2] => { results := [.lit (.bool true)], args := [d1, d2] }
  | _ => none }
def viewTellsRow : OpenClaim := { program := "ytpikahfgidgdbaa", sum := "fe9c63236517820959f403bd2c646f8903577bde05b2498afdce9a3e5672031f", func := "lingua/lingualaw16.ViewTells", spec := "viewTells", unfollowed := true, recurses := true, plainKeys := false, apart := false }
def ViewTellsSaid : Prop := viewTellsRow.holds Try.pinned (OpenSpec.ofChange viewTellsSpec)

/-- ITS FALSE NEIGHBOUR: 'it returns false'. Refute it at one input. -/
def viewTellsWrong : ChangeSpec := { name := "viewTells", fn := fun _ => fun
  | [d1, d2] => { results := [.lit (.bool false)], args := [d1, d2] }
  | _ => none }
def ViewTellsWrongFalsely : Prop := viewTellsRow.holds Try.pinned (OpenSpec.ofChange viewTellsWrong)

/-- 'lingualaw16.ViewSwaps': WHATEVER THE INPUT: true; the input reads as it did. -/
def viewSwapsSpec : ChangeSpec := { name := "viewSwaps", fn := fun _ => fun
  | [d1, d2] => { results := [.lit (.bool true)], args := [d1, d2] }
  | _ => none }
def viewSwapsRow : OpenClaim := { program := "ytpikahfgidgdbaa", sum := "fe9c63236517820959f403bd2c646f8903577bde05b2498afdce9a3e5672031f", func := "lingua/lingualaw16.ViewSwaps", spec := "viewSwaps", unfollowed := true, recurses := true, plainKeys := false, apart := false }
def ViewSwapsSaid : Prop := viewSwapsRow.holds Try.pinned (OpenSpec.ofChange viewSwapsSpec)

/-- ITS FALSE NEIGHBOUR: 'it returns false'. Refute it at one input. -/
def viewSwapsWrong : ChangeSpec := { name := "viewSwaps", fn := fun _ => fun
  | [d1, d2] => { results := [.lit (.bool false)], args := [d1, d2] }
  | _ => none }
def ViewSwapsWrongFalsely : Prop := viewSwapsRow.holds Try.pinned (OpenSpec.ofChange viewSwapsWrong)

/-- 'lingualaw16.ViewActs': WHATEVER THE INPUT: true; the input reads as it did. -/
def viewActsSpec : ChangeSpec := { name := "viewActs", fn := fun _ => fun
  | [d1, d2] => { results := [.lit (.bool true)], args := [d1, d2] }
  | _ => none }
def viewActsRow : OpenClaim := { program := "ytpikahfgidgdbaa", sum := "fe9c63236517820959f403bd2c646f8903577bde05b2498afdce9a3e5672031f", func := "lingua/lingualaw16.ViewActs", spec := "viewActs", unfollowed := true, recurses := true, plainKeys := false, apart := false }
def ViewActsSaid : Prop := viewActsRow.holds Try.pinned (OpenSpec.ofChange viewActsSpec)

/-- ITS FALSE NEIGHBOUR: 'it returns false'. Refute it at one input. -/
def viewActsWrong : ChangeSpec := { name := "viewActs", fn := fun _ => fun
  | [d1, d2] => { results := [.lit (.bool false)], args := [d1, d2] }
  | _ => none }
def ViewActsWrongFalsely : Prop := viewActsRow.holds Try.pinned (OpenSpec.ofChange viewActsWrong)

/-- 'lingualaw16.ViewReacts': WHATEVER THE INPUT: true; the input reads as it did. -/
def viewReactsSpec : ChangeSpec := { name := "viewReacts", fn := fun _ => fun
  | [d1, d2, d3, d4] => { results := [.lit (.bool true)], args := [d1, d2, d3, d4] }
  | _ => none }
def viewReactsRow : OpenClaim := { program := "ytpikahfgidgdbaa", sum := "fe9c63236517820959f403bd2c646f8903577bde05b2498afdce9a3e5672031f", func := "lingua/lingualaw16.ViewReacts", spec := "viewReacts", unfollowed := true, recurses := true, plainKeys := false, apart := false }
def ViewReactsSaid : Prop := viewReactsRow.holds Try.pinned (OpenSpec.ofChange viewReactsSpec)

/-- ITS FALSE NEIGHBOUR: 'it returns false'. Refute it at one input. -/
def viewReactsWrong : ChangeSpec := { name := "viewReacts", fn := fun _ => fun
  | [d1, d2, d3, d4] => { results := [.lit (.bool false)], args := [d1, d2, d3, d4] }
  | _ => none }
def ViewReactsWrongFalsely : Prop := viewReactsRow.holds Try.pinned (OpenSpec.ofChange viewReactsWrong)

/-- 'lingualaw16.ViewThreads': WHATEVER THE INPUT: true; the input reads as it did. -/
def viewThreadsSpec : ChangeSpec := { name := "viewThreads", fn := fun _ => fun
  | [d] => { results := [.lit (.bool true)], args := [d] }
  | _ => none }
def viewThreadsRow : OpenClaim := { program := "ytpikahfgidgdbaa", sum := "fe9c63236517820959f403bd2c646f8903577bde05b2498afdce9a3e5672031f", func := "lingua/lingualaw16.ViewThreads", spec := "viewThreads", unfollowed := true, recurses := true, plainKeys := false, apart := false }
def ViewThreadsSaid : Prop := viewThreadsRow.holds Try.pinned (OpenSpec.ofChange viewThreadsSpec)

/-- ITS FALSE NEIGHBOUR: 'it returns false'. Refute it at one input. -/
def viewThreadsWrong : ChangeSpec := { name := "viewThreads", fn := fun _ => fun
  | [d] => { results := [.lit (.bool false)], args := [d] }
  | _ => none }
def ViewThreadsWrongFalsely : Prop := viewThreadsRow.holds Try.pinned (OpenSpec.ofChange viewThreadsWrong)

/- THE SECOND FORM. 'bulk': how many values and letters a reading holds, each counted each time it is reached (what is shared counts as often as it is met; a slice's spare places count too). A statement '..UptoSaid' is the law's where the arguments, and the package variables that the reading takes, are together of bulk at most 1048576: NARROWER than '..Said'. Prove '..Said' where nothing that the law and all that it calls make is longer than what came in: it says more and counts as full. Else prove '..UptoSaid'. A law counts once. -/
mutual
def uptoBulk {H : Type} : DataW H → Nat
  | .lit (.string bytes) => bytes.length + 1
  | .lit _ => 1
  | .nil => 1
  | .ptr d => uptoBulk d + 1
  | .slice elems spare => uptoBulkAll elems + uptoBulkAll spare + 1
  | .agg parts => uptoBulkAll parts + 1
  | .iface _ d => uptoBulk d + 1
  | .map entries => uptoBulkEntries entries + 1
  | .held _ => 1
def uptoBulkAll {H : Type} : List (DataW H) → Nat
  | [] => 0
  | d :: r => uptoBulk d + uptoBulkAll r
def uptoBulkEntries {H : Type} : List (Lit × DataW H) → Nat
  | [] => 0
  | x :: r => uptoBulkEntry x + uptoBulkEntries r
def uptoBulkEntry {H : Type} : Lit × DataW H → Nat
  | (.string bytes, d) => bytes.length + uptoBulk d + 1
  | (_, d) => uptoBulk d + 1
 end
def uptoSmall : (H : Type) → List (DataW H) → Bool := fun _ ds => decide (uptoBulkAll ds ≤ 1048576)
def OpenSpec.upto (s : _root_.Go.ChangeSpec) : _root_.Go.OpenSpec := { _root_.Go.OpenSpec.ofChange s with cond := some uptoSmall }

/-- 'lingualaw16.ViewTells', WHERE WHAT IT READS IS OF BULK AT MOST 1048576: true; the input reads as it did. -/
def viewTellsUptoRow : OpenClaim := { program := "ytpikahfgidgdbaa", sum := "fe9c63236517820959f403bd2c646f8903577bde05b2498afdce9a3e5672031f", func := "lingua/lingualaw16.ViewTells", spec := "viewTells", unfollowed := true, recurses := true, plainKeys := false, apart := false, narrowed := true }
def ViewTellsUptoSaid : Prop := viewTellsUptoRow.holds Try.pinned (OpenSpec.upto viewTellsSpec)

/-- 'lingualaw16.ViewSwaps', WHERE WHAT IT READS IS OF BULK AT MOST 1048576: true; the input reads as it did. -/
def viewSwapsUptoRow : OpenClaim := { program := "ytpikahfgidgdbaa", sum := "fe9c63236517820959f403bd2c646f8903577bde05b2498afdce9a3e5672031f", func := "lingua/lingualaw16.ViewSwaps", spec := "viewSwaps", unfollowed := true, recurses := true, plainKeys := false, apart := false, narrowed := true }
def ViewSwapsUptoSaid : Prop := viewSwapsUptoRow.holds Try.pinned (OpenSpec.upto viewSwapsSpec)

/-- 'lingualaw16.ViewActs', WHERE WHAT IT READS IS OF BULK AT MOST 1048576: true; the input reads as it did. -/
def viewActsUptoRow : OpenClaim := { program := "ytpikahfgidgdbaa", sum := "fe9c63236517820959f403bd2c646f8903577bde05b2498afdce9a3e5672031f", func := "lingua/lingualaw16.ViewActs", spec := "viewActs", unfollowed := true, recurses := true, plainKeys := false, apart := false, narrowed := true }
def ViewActsUptoSaid : Prop := viewActsUptoRow.holds Try.pinned (OpenSpec.upto viewActsSpec)

/-- 'lingualaw16.ViewReacts', WHERE WHAT IT READS IS OF BULK AT MOST 1048576: true; the input reads as it did. -/
def viewReactsUptoRow : OpenClaim := { program := "ytpikahfgidgdbaa", sum := "fe9c63236517820959f403bd2c646f8903577bde05b2498afdce9a3e5672031f", func := "lingua/lingualaw16.ViewReacts", spec := "viewReacts", unfollowed := true, recurses := true, plainKeys := false, apart := false, narrowed := true }
def ViewReactsUptoSaid : Prop := viewReactsUptoRow.holds Try.pinned (OpenSpec.upto viewReactsSpec)

/-- 'lingualaw16.ViewThreads', WHERE WHAT IT READS IS OF BULK AT MOST 1048576: true; the input reads as it did. -/
def viewThreadsUptoRow : OpenClaim := { program := "ytpikahfgidgdbaa", sum := "fe9c63236517820959f403bd2c646f8903577bde05b2498afdce9a3e5672031f", func := "lingua/lingualaw16.ViewThreads", spec := "viewThreads", unfollowed := true, recurses := true, plainKeys := false, apart := false, narrowed := true }
def ViewThreadsUptoSaid : Prop := viewThreadsUptoRow.holds Try.pinned (OpenSpec.upto viewThreadsSpec)

end Rows
end Go.Proofs.Ytpikahfgidgdbaa

/-
  No cell of these rows narrows 'for every input' (looked for: loops, veiled, ifaces, maps, wideKeys, modest, calm, conditions, laid).
  DERIVED. THE GIVEN ROWS OF THIS SEAT. 6 by the template 'for every input the law returns true; each argument reads behind the call as it read before'; 0 by the template 'total and deterministic' (their statements: YtafgcjodefafoaaTotals.lean).
  GIVEN WITH THE SEED: the statements are not yours to turn. If you find one false, say at which input.
  Laid BY PROGRAM, IN A SANDBOX (cutbox-rows.mjs): the forced cells as the released guide's own fill.sh prints them over the translation 43733c18d1c14e5b… (all of the seat's roots in one cut). By AI agents, Wed Nov 11 2026. No macro, syntax, notation, axiom, sorry.
-/
import Derived.Test.YtafgcjodefafoaaChecked
import GoSem.Claim
import GoSem.ClaimJoined
import GoSem.ClaimMapViews
import Derived.JoinedTies
import Derived.KernelRfl
namespace Go.Proofs.Ytafgcjodefafoaa
/- THE CELL 'sum', in the pinned program and in every row, IS THE sha256 OF THE DUMP (.gsa) THAT YtafgcjodefafoaaProg.lean LOADS. Nothing in Lean hashes anything: it is a label: what it is worth is what the hold of that sum in a sandbox is worth. -/
noncomputable def Try.pinned : Pinned := { name := "ytafgcjodefafoaa", sum := "43733c18d1c14e5bfe2498c58b5f8f0e39a2795ba32cfad027cf97c0a99aa3d2", checked := Try.checked }
namespace Rows
def none {H : Type} : Left H := { results := [], args := [] }

/-- 'lingualaw29.AdmitTells': WHATEVER THE INPUT: true; the input reads as it did. -/
def admitTellsSpec : ChangeSpec := { name := "admitTells", fn := fun _ => fun
  | [d1, d2, d3, d4, d5] => { results := [.lit (.bool true)], args := [d1, d2, d3, d4, d5] }
  | _ => none }
def admitTellsRow : OpenClaim := { program := "ytafgcjodefafoaa", sum := "43733c18d1c14e5bfe2498c58b5f8f0e39a2795ba32cfad027cf97c0a99aa3d2", func := "lingua/lingualaw29.AdmitTells", spec := "admitTells", unfollowed := true, recurses := true, apart := false }
def AdmitTellsSaid : Prop := admitTellsRow.holds Try.pinned (OpenSpec.ofChange admitTellsSpec)

/-- ITS FALSE NEIGHBOUR: 'it returns false'. Refute it at one input. -/
def admitTellsWrong : ChangeSpec := { name := "admitTells", fn := fun _ => fun
  | [d1, d2, d3, d4, d5] => { results := [.lit (.bool false)], args := [d1, d2, d3, d4, d5] }
  | _ => none }
def AdmitTellsWrongFalsely : Prop := admitTellsRow.holds Try.pinned (OpenSpec.ofChange admitTellsWrong)

/-- 'lingualaw29.AdmitChecks': WHATEVER THE INPUT: true; the input reads as it did. -/
def admitChecksSpec : ChangeSpec := { name := "admitChecks", fn := fun _ => fun
  | [d1, d2, d3, d4, d5] => { results := [.lit (.bool true)], args := [d1, d2, d3, d4, d5] }
  | _ => none }
def admitChecksRow : OpenClaim := { program := "ytafgcjodefafoaa", sum := "43733c18d1c14e5bfe2498c58b5f8f0e39a2795ba32cfad027cf97c0a99aa3d2", func := "lingua/lingualaw29.AdmitChecks", spec := "admitChecks", unfollowed := true, recurses := true, apart := false }
def AdmitChecksSaid : Prop := admitChecksRow.holds Try.pinned (OpenSpec.ofChange admitChecksSpec)

/-- ITS FALSE NEIGHBOUR: 'it returns false'. Refute it at one input. -/
def admitChecksWrong : ChangeSpec := { name := "admitChecks", fn := fun _ => fun
  | [d1, d2, d3, d4, d5] => { results := [.lit (.bool false)], args := [d1, d2, d3, d4, d5] }
  | _ => none }
def AdmitChecksWrongFalsely : Prop := admitChecksRow.holds Try.pinned (OpenSpec.ofChange admitChecksWrong)

/-- 'lingualaw29.AdmitRoom': WHATEVER THE INPUT: true; the input reads as it did. -/
def admitRoomSpec : ChangeSpec := { name := "admitRoom", fn := fun _ => fun
  | [d1, d2, d3, d4, d5] => { results := [.lit (.bool true)], args := [d1, d2, d3, d4, d5] }
  | _ => none }
def admitRoomRow : OpenClaim := { program := "ytafgcjodefafoaa", sum := "43733c18d1c14e5bfe2498c58b5f8f0e39a2795ba32cfad027cf97c0a99aa3d2", func := "lingua/lingualaw29.AdmitRoom", spec := "admitRoom", unfollowed := true, recurses := true, apart := false }
def AdmitRoomSaid : Prop := admitRoomRow.holds Try.pinned (OpenSpec.ofChange admitRoomSpec)

/-- ITS FALSE NEIGHBOUR: 'it returns false'. Refute it at one input. -/
def admitRoomWrong : ChangeSpec := { name := "admitRoom", fn := fun _ => fun
  | [d1, d2, d3, d4, d5] => { results := [.lit (.bool false)], args := [d1, d2, d3, d4, d5] }
  | _ => none }
def AdmitRoomWrongFalsely : Prop := admitRoomRow.holds Try.pinned (OpenSpec.ofChange admitRoomWrong)

/-- 'lingualaw29.AdmitEases': WHATEVER THE INPUT: true; the input reads as it did. -/
def admitEasesSpec : ChangeSpec := { name := "admitEases", fn := fun _ => fun
  | [d1, d2, d3, d4, d5] => { results := [.lit (.bool true)], args := [d1, d2, d3, d4, d5] }
  | _ => none }
def admitEasesRow : OpenClaim := { program := "ytafgcjodefafoaa", sum := "43733c18d1c14e5bfe2498c58b5f8f0e39a2795ba32cfad027cf97c0a99aa3d2", func := "lingua/lingualaw29.AdmitEases", spec := "admitEases", unfollowed := true, recurses := true, apart := false }
def AdmitEasesSaid : Prop := admitEasesRow.holds Try.pinned (OpenSpec.ofChange admitEasesSpec)

/-- ITS FALSE NEIGHBOUR: 'it returns false'. Refute it at one input. -/
def admitEasesWrong : ChangeSpec := { name := "admitEases", fn := fun _ => fun
  | [d1, d2, d3, d4, d5] => { results := [.lit (.bool false)], args := [d1, d2, d3, d4, d5] }
  | _ => none }
def AdmitEasesWrongFalsely : Prop := admitEasesRow.holds Try.pinned (OpenSpec.ofChange admitEasesWrong)

/-- 'lingualaw29.AdmitKeeps': WHATEVER THE INPUT: true; the input reads as it did. -/
def admitKeepsSpec : ChangeSpec := { name := "admitKeeps", fn := fun _ => fun
  | [d1, d2, d3, d4] => { results := [.lit (.bool true)], args := [d1, d2, d3, d4] }
  | _ => none }
def admitKeepsRow : OpenClaim := { program := "ytafgcjodefafoaa", sum := "43733c18d1c14e5bfe2498c58b5f8f0e39a2795ba32cfad027cf97c0a99aa3d2", func := "lingua/lingualaw29.AdmitKeeps", spec := "admitKeeps", unfollowed := true, recurses := true, apart := false }
def AdmitKeepsSaid : Prop := admitKeepsRow.holds Try.pinned (OpenSpec.ofChange admitKeepsSpec)

/-- ITS FALSE NEIGHBOUR: 'it returns false'. Refute it at one input. -/
def admitKeepsWrong : ChangeSpec := { name := "admitKeeps", fn := fun _ => fun
  | [d1, d2, d3, d4] => { results := [.lit (.bool false)], args := [d1, d2, d3, d4] }
  | _ => none }
def AdmitKeepsWrongFalsely : Prop := admitKeepsRow.holds Try.pinned (OpenSpec.ofChange admitKeepsWrong)

/-- 'lingualaw29.AdmitLate': WHATEVER THE INPUT: true; the input reads as it did. -/
def admitLateSpec : ChangeSpec := { name := "admitLate", fn := fun _ => fun
  | [d1, d2, d3] => { results := [.lit (.bool true)], args := [d1, d2, d3] }
  | _ => none }
def admitLateRow : OpenClaim := { program := "ytafgcjodefafoaa", sum := "43733c18d1c14e5bfe2498c58b5f8f0e39a2795ba32cfad027cf97c0a99aa3d2", func := "lingua/lingualaw29.AdmitLate", spec := "admitLate", unfollowed := true, recurses := true, apart := false }
def AdmitLateSaid : Prop := admitLateRow.holds Try.pinned (OpenSpec.ofChange admitLateSpec)

/-- ITS FALSE NEIGHBOUR: 'it returns false'. Refute it at one input. -/
def admitLateWrong : ChangeSpec := { name := "admitLate", fn := fun _ => fun
  | [d1, d2, d3] => { results := [.lit (.bool false)], args := [d1, d2, d3] }
  | _ => none }
def AdmitLateWrongFalsely : Prop := admitLateRow.holds Try.pinned (OpenSpec.ofChange admitLateWrong)

/- THE SECOND FORM. 'bulk': how many values and letters a reading holds, each counted each time it is reached (what is shared counts as often as it is met; a slice's spare places count too). A statement '..UptoSaid' is the law's where the arguments, and the package variables that the reading takes, are together of bulk at most 1048576: NARROWER than '..Said'. Prove '..Said' where nothing that the law and all that it calls make is longer than what came in: it says more and counts as full. Else prove '..UptoSaid'. A law counts once. -/
mutual
def uptoBulk {H : Type} : DataW H → Nat
  | .lit (.string bytes) => bytes.length + 1
  | .lit _ => 1
  | .nil => 1
  | .ptr d => uptoBulk d + 1
  | .slice elems spare => uptoBulkAll elems + uptoBulkAll spare + 1
  | .agg parts => uptoBulkAll parts + 1
  | .iface _ d => uptoBulk d + 1
  | .map entries => uptoBulkEntries entries + 1
  | .held _ => 1
def uptoBulkAll {H : Type} : List (DataW H) → Nat
  | [] => 0
  | d :: r => uptoBulk d + uptoBulkAll r
def uptoBulkEntries {H : Type} : List (Lit × DataW H) → Nat
  | [] => 0
  | x :: r => uptoBulkEntry x + uptoBulkEntries r
def uptoBulkEntry {H : Type} : Lit × DataW H → Nat
  | (.string bytes, d) => bytes.length + uptoBulk d + 1
  | (_, d) => uptoBulk d + 1
 end
def uptoSmall : (H : Type) → List (DataW H) → Bool := fun _ ds => decide (uptoBulkAll ds ≤ 1048576)
def OpenSpec.upto (s : _root_.Go.ChangeSpec) : _root_.Go.OpenSpec := { _root_.Go.OpenSpec.ofChange s with cond := some uptoSmall }

/-- 'lingualaw29.AdmitTells', WHERE WHAT IT READS IS OF BULK AT MOST 1048576: true; the input reads as it did. -/
def admitTellsUptoRow : OpenClaim := { program := "ytafgcjodefafoaa", sum := "43733c18d1c14e5bfe2498c58b5f8f0e39a2795ba32cfad027cf97c0a99aa3d2", func := "lingua/lingualaw29.AdmitTells", spec := "admitTells", unfollowed := true, recurses := true, apart := false, narrowed := true }
def AdmitTellsUptoSaid : Prop := admitTellsUptoRow.holds Try.pinned (OpenSpec.upto admitTellsSpec)

/-- 'lingualaw29.AdmitChecks', WHERE WHAT IT READS IS OF BULK AT MOST 1048576: true; the input reads as it did. -/
def admitChecksUptoRow : OpenClaim := { program := "ytafgcjodefafoaa", sum := "43733c18d1c14e5bfe2498c58b5f8f0e39a2795ba32cfad027cf97c0a99aa3d2", func := "lingua/lingualaw29.AdmitChecks", spec := "admitChecks", unfollowed := true, recurses := true, apart := false, narrowed := true }
def AdmitChecksUptoSaid : Prop := admitChecksUptoRow.holds Try.pinned (OpenSpec.upto admitChecksSpec)

/-- 'lingualaw29.AdmitRoom', WHERE WHAT IT READS IS OF BULK AT MOST 1048576: true; the input reads as it did. -/
def admitRoomUptoRow : OpenClaim := { program := "ytafgcjodefafoaa", sum := "43733c18d1c14e5bfe2498c58b5f8f0e39a2795ba32cfad027cf97c0a99aa3d2", func := "lingua/lingualaw29.AdmitRoom", spec := "admitRoom", unfollowed := true, recurses := true, apart := false, narrowed := true }
def AdmitRoomUptoSaid : Prop := admitRoomUptoRow.holds Try.pinned (OpenSpec.upto admitRoomSpec)

/-- 'lingualaw29.AdmitEases', WHERE WHAT IT READS IS OF BULK AT MOST 1048576: true; the input reads as it did. -/
def admitEasesUptoRow : OpenClaim := { program := "ytafgcjodefafoaa", sum := "43733c18d1c14e5bfe2498c58b5f8f0e39a2795ba32cfad027cf97c0a99aa3d2", func := "lingua/lingualaw29.AdmitEases", spec := "admitEases", unfollowed := true, recurses := true, apart := false, narrowed := true }
def AdmitEasesUptoSaid : Prop := admitEasesUptoRow.holds Try.pinned (OpenSpec.upto admitEasesSpec)

/-- 'lingualaw29.AdmitKeeps', WHERE WHAT IT READS IS OF BULK AT MOST 1048576: true; the input reads as it did. -/
def admitKeepsUptoRow : OpenClaim := { program := "ytafgcjodefafoaa", sum := "43733c18d1c14e5bfe2498c58b5f8f0e39a2795ba32cfad027cf97c0a99aa3d2", func := "lingua/lingualaw29.AdmitKeeps", spec := "admitKeeps", unfollowed := true, recurses := true, apart := false, narrowed := true }
def AdmitKeepsUptoSaid : Prop := admitKeepsUptoRow.holds Try.pinned (OpenSpec.upto admitKeepsSpec)

/-- 'lingualaw29.AdmitLate', WHERE WHAT IT READS IS OF BULK AT MOST 1048576: true; the input reads as it did. -/
def admitLateUptoRow : OpenClaim := { program := "ytafgcjodefafoaa", sum := "43733c18d1c14e5bfe2498c58b5f8f0e39a2795ba32cfad027cf97c0a99aa3d2", func := "lingua/lingualaw29.AdmitLate", spec := "admitLate", unfollowed := true, recurses := true, apart := false, narrowed := true }
def AdmitLateUptoSaid : Prop := admitLateUptoRow.holds Try.pinned (OpenSpec.upto admitLateSpec)

end Rows
end Go.Proofs.Ytafgcjodefafoaa

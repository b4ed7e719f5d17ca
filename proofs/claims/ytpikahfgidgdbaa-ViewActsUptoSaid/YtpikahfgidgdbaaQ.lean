/-
  What comes in as an argument: an event's numbers are in range.
-/
import Derived.Test.YtpikahfgidgdbaaPA
namespace Go.Proofs.Ytpikahfgidgdbaa
open Go.RowKit
def api_Event.Q (x : api_Event) : Prop := (IntKind.i64.min ≤ x.Author ∧ x.Author ≤ IntKind.i64.max) ∧ (IntKind.i64.min ≤ x.Seq ∧ x.Seq ≤ IntKind.i64.max) ∧ (x.Causes.length ≤ maxLen ∧ ∀ u1 ∈ x.Causes, (IntKind.i64.min ≤ u1 ∧ u1 ≤ IntKind.i64.max)) ∧ (IntKind.i64.min ≤ x.Kind ∧ x.Kind ≤ IntKind.i64.max) ∧ (IntKind.i64.min ≤ x.Group ∧ x.Group ≤ IntKind.i64.max) ∧ (IntKind.i64.min ≤ x.Target ∧ x.Target ≤ IntKind.i64.max) ∧ (IntKind.i64.min ≤ x.Quote ∧ x.Quote ≤ IntKind.i64.max) ∧ (IntKind.i64.min ≤ x.Who ∧ x.Who ≤ IntKind.i64.max) ∧ (IntKind.i64.min ≤ x.N ∧ x.N ≤ IntKind.i64.max) ∧ (x.Text.size ≤ maxLen) ∧ (x.Files.length ≤ maxLen ∧ ∀ u2 ∈ x.Files, (IntKind.i64.min ≤ u2 ∧ u2 ≤ IntKind.i64.max)) ∧ (IntKind.i64.min ≤ x.Step ∧ x.Step ≤ IntKind.i64.max)
theorem Q_view {l : List api_Event} (h1 : l.length ≤ 1000) (h2 : ∀ e ∈ l, fewE e) (h3 : ∀ e ∈ l, api_Event.Q e) : view_View l = some (viewS l) :=
  view_eq h1 fun e he => ⟨by have := (h2 e he).2.1; omega, (h3 e he).1, (h3 e he).2.2.2.2.2.2.2.2.1⟩
theorem Q_small {l : List api_Event} (h1 : l.length ≤ 1000) (h2 : ∀ e ∈ l, fewE e) : (viewS l).length ≤ 1000 ∧ ∀ m ∈ viewS l, SmallM m := viewS_small h1 fun e he => by have := (h2 e he).2.1; omega
end Go.Proofs.Ytpikahfgidgdbaa

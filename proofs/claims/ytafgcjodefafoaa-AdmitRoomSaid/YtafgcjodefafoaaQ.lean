/-
  What is known of the values that come in.
-/
import Derived.Test.YtafgcjodefafoaaP8
namespace Go.Proofs.Ytafgcjodefafoaa
open Go.RowKit
def api_Profile.Q (x : api_Profile) : Prop := (x.Name.size ≤ maxLen) ∧ (IntKind.i64.min ≤ x.Edit ∧ x.Edit ≤ IntKind.i64.max) ∧ (IntKind.i64.min ≤ x.Within ∧ x.Within ≤ IntKind.i64.max) ∧ (IntKind.i64.min ≤ x.Delete ∧ x.Delete ≤ IntKind.i64.max) ∧ True ∧ (IntKind.i64.min ≤ x.Thread ∧ x.Thread ≤ IntKind.i64.max) ∧ True ∧ True ∧ (IntKind.i64.min ≤ x.Size ∧ x.Size ≤ IntKind.i64.max) ∧ (IntKind.i64.min ≤ x.Parts ∧ x.Parts ≤ IntKind.i64.max) ∧ (IntKind.i64.min ≤ x.Files ∧ x.Files ≤ IntKind.i64.max) ∧ (IntKind.i64.min ≤ x.Bytes ∧ x.Bytes ≤ IntKind.i64.max) ∧ (x.Types.length ≤ maxLen ∧ ∀ u1 ∈ x.Types, (u1.size ≤ maxLen)) ∧ (IntKind.i64.min ≤ x.Join ∧ x.Join ≤ IntKind.i64.max) ∧ (IntKind.i64.min ≤ x.History ∧ x.History ≤ IntKind.i64.max) ∧ (IntKind.i64.min ≤ x.Remove ∧ x.Remove ≤ IntKind.i64.max) ∧ (IntKind.i64.min ≤ x.Level ∧ x.Level ≤ IntKind.i64.max) ∧ True ∧ (IntKind.i64.min ≤ x.Rate ∧ x.Rate ≤ IntKind.i64.max) ∧ (IntKind.i64.min ≤ x.Down ∧ x.Down ≤ IntKind.i64.max) ∧ (IntKind.i64.min ≤ x.Window ∧ x.Window ≤ IntKind.i64.max) ∧ (IntKind.i64.min ≤ x.Keep ∧ x.Keep ≤ IntKind.i64.max)
def api_Job.Q (x : api_Job) : Prop := (IntKind.i64.min ≤ x.Id ∧ x.Id ≤ IntKind.i64.max) ∧ (IntKind.i64.min ≤ x.Size ∧ x.Size ≤ IntKind.i64.max) ∧ (IntKind.i64.min ≤ x.Due ∧ x.Due ≤ IntKind.i64.max)
theorem prof_of {p : api_Profile} (h : api_Profile.Q p) : ProfOk p := by
  obtain ⟨h1, _, _, _, _, _, _, _, _, _, _, _, h2, _⟩ := h
  exact ⟨h1, h2.1, h2.2⟩
theorem planS_len (p : api_Profile) (jobs : List api_Job) (now : Int) : (planS p jobs now).1.length ≤ jobs.length := by
  unfold planS
  cases okA p jobs now
  · simp
  · simp only [cond_true]
    split <;> simp
theorem few_eq (p : api_Profile) (jobs : List api_Job) : ∃ b, law29_few p jobs = some b ∧ (b = true → jobs.length ≤ 30) := by
  unfold law29_few
  by_cases h : ((jobs.length : Int) ≤ 30)
  · simp only [h, decide_true, cond_true]
    cases decide ((p.Types.length : Int) ≤ 20)
    · exact ⟨_, rfl, fun _ => by omega⟩
    · exact ⟨_, rfl, fun _ => by omega⟩
  · simp only [h, decide_false, cond_false]
    exact ⟨_, rfl, fun h => by cases h⟩
end Go.Proofs.Ytafgcjodefafoaa

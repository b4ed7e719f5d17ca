/-
  What checks of slack say (plain law of layer 29).
-/
import Derived.Test.YtafgcjodefafoaaP9
namespace Go.Proofs.Ytafgcjodefafoaa
open Go.RowKit
theorem checkS_len {p : api_Profile} {jobs : List api_Job} {now : Int} {slack : List Int} (h : okA p jobs now = true) (hl : slack.length ≠ jobs.length) : checkS p jobs now slack = 18 := by
  unfold checkS
  simp [h, hl]
theorem checkS_good {p : api_Profile} {jobs : List api_Job} {now : Int} {slack : List Int} (h : okA p jobs now = true) (hl : slack.length = jobs.length) (hg : ∀ i, i < jobs.length → 0 ≤ slack.getD i 0 ∧ slack.getD i 0 ≤ slackS p now (ordR jobs) i) : checkS p jobs now slack = 0 := by
  unfold checkS
  have : (List.range jobs.length).all (goodS p now (ordR jobs) slack) = true := List.all_eq_true.2 fun i hi => by
    have := hg i (List.mem_range.1 hi)
    simp only [goodS, Bool.and_eq_true, decide_eq_true_eq]
    exact this
  rw [h, this]
  simp [hl]
theorem checkS_bad {p : api_Profile} {jobs : List api_Job} {now : Int} {slack : List Int} (h : okA p jobs now = true) (hl : slack.length = jobs.length) {i : Nat} (hi : i < jobs.length) (hg : slackS p now (ordR jobs) i < slack.getD i 0) : checkS p jobs now slack = 18 := by
  unfold checkS
  have : (List.range jobs.length).all (goodS p now (ordR jobs) slack) = false := all_false hi (by
    simp only [goodS, Bool.and_eq_false_iff, decide_eq_false_iff_not]
    right
    omega)
  rw [h, this]
  simp [hl]
def slacks (p : api_Profile) (jobs : List api_Job) (now : Int) : List Int := (List.range jobs.length).map (slackS p now (ordR jobs))
theorem slacks_len (p : api_Profile) (jobs : List api_Job) (now : Int) : (slacks p jobs now).length = jobs.length := by simp [slacks]
theorem slacks_get (p : api_Profile) (jobs : List api_Job) (now : Int) {i : Nat} (hi : i < jobs.length) : (slacks p jobs now).getD i 0 = slackS p now (ordR jobs) i := by
  unfold slacks
  rw [List.getD_eq_getElem?_getD, List.getElem?_map, List.getElem?_range hi]
  rfl
theorem slack_range {p : api_Profile} (hp : ProfOk p) {jobs : List api_Job} {now : Int} (h : PlanOk p jobs now) {i : Nat} (hi : i < jobs.length) : 0 ≤ slackS p now (ordR jobs) i ∧ slackS p now (ordR jobs) i ≤ 4503599627370496 := by
  refine ⟨slack_ok h hi, ?_⟩
  obtain ⟨b1, b2, b3, b4, b5, b6, _⟩ := (okA_fine hp h.ok).at_ (i := i) (by rw [ordR_len]; exact hi)
  unfold slackS
  omega
theorem notok {p : api_Profile} {jobs : List api_Job} {now : Int} (h : ¬ PlanOk p jobs now) : ((planS p jobs now).2.2 = 1 ∧ okA p jobs now = false) ∨ ((planS p jobs now).2.2 = 16 ∧ okA p jobs now = true) := by
  cases ho : okA p jobs now
  · left
    unfold planS
    rw [ho]
    exact ⟨rfl, rfl⟩
  · right
    refine ⟨?_, rfl⟩
    rw [← nolate_iff ho] at h
    unfold planS
    rw [ho]
    simp only [cond_true]
    split
    · rfl
    · rename_i hn
      exact absurd hn h
theorem at_index (n : Nat) (hn : 0 < n) (a : Int) (h0 : 0 ≤ a) (h1 : a ≤ 255) : ∃ k : Nat, k < n ∧ Int.tmod (IntKind.i64.wrap a) (n : Int) = (k : Int) := by
  rw [wrap64 (by omega) (by omega), Int.tmod_eq_emod_of_nonneg h0]
  have h2 := Int.emod_nonneg a (show (n : Int) ≠ 0 by omega)
  have h3 := Int.emod_lt_of_pos a (show (0 : Int) < n by omega)
  exact ⟨(a % n).toNat, by omega, by omega⟩
theorem getD_set_self {l : List Int} {k : Nat} {x : Int} (hk : k < l.length) : (l.set k x).getD k 0 = x := by
  rw [List.getD_eq_getElem?_getD, List.getElem?_set_self hk]
  rfl
theorem getD_set_ne {l : List Int} {k i : Nat} {x : Int} (hk : k ≠ i) : (l.set k x).getD i 0 = l.getD i 0 := by
  rw [List.getD_eq_getElem?_getD, List.getElem?_set_ne hk, List.getD_eq_getElem?_getD]
end Go.Proofs.Ytafgcjodefafoaa

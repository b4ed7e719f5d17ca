/-
  AdmitTells, as plain law: every function returns what the reference returns.
-/
import Derived.Test.YtafgcjodefafoaaQ
import Derived.Test.YtafgcjodefafoaaH3
namespace Go.Proofs.Ytafgcjodefafoaa
open Go.RowKit
theorem law29_AdmitTells_true (a0 : api_Profile) (w0 : (api_Profile.Q a0)) (a1 : (List api_Job)) (w1 : (a1.length ≤ maxLen ∧ ∀ u2 ∈ a1, (api_Job.Q u2))) (a2 : Int) (w2 : (IntKind.i64.min ≤ a2 ∧ a2 ≤ IntKind.i64.max)) (a3 : Int) (w3 : (IntKind.i64.min ≤ a3 ∧ a3 ≤ IntKind.i64.max)) (a4 : (List Int)) (w4 : (a4.length ≤ maxLen ∧ ∀ u3 ∈ a4, (IntKind.i64.min ≤ u3 ∧ u3 ≤ IntKind.i64.max))) : law29_AdmitTells a0 a1 a2 a3 a4 = some true := by
  have hp := prof_of w0
  obtain ⟨b, hb, hlen⟩ := few_eq a0 a1
  unfold law29_AdmitTells
  rw [small_true, bind_some_of rfl, hb, bind_some_of rfl]
  cases b
  · rfl
  · have hl := hlen rfl
    simp only [Bool.not_true, cond_false]
    cases decide ((40 : Int) < (a4.length : Int))
    · simp only [cond_false, cond_true]
      rw [plan_eq a0 hp a1 (by omega), ref_plan_eq a0 hp a1 (by omega), bind_some_of rfl, bind_some_of rfl]
      rw [same_eq _ _ (by have := planS_len a0 a1 a2; unfold maxLen; omega), bind_some_of rfl]
      simp only [decide_true, cond_true, beq_self_eq_true]
      rw [check_eq a0 hp a1 (by omega), ref_check_eq a0 hp a1 (by omega), bind_some_of rfl, bind_some_of rfl]
      simp only [beq_self_eq_true, cond_true]
      rw [check_eq a0 hp a1 (by omega), ref_check_eq a0 hp a1 (by omega), bind_some_of rfl, bind_some_of rfl]
      simp only [beq_self_eq_true, cond_true]
      rw [room_eq a0 hp a1 (by omega), ref_room_eq a0 hp a1 (by omega), bind_some_of rfl, bind_some_of rfl]
      simp only [beq_self_eq_true]
    · rfl
end Go.Proofs.Ytafgcjodefafoaa

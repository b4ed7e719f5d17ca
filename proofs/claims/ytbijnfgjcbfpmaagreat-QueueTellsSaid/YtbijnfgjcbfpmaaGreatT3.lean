/-
  The law QueueTells, as plain law.
-/
import Derived.Test.YtbijnfgjcbfpmaaGreatR2
import Derived.Test.YtbijnfgjcbfpmaaGreatH3
namespace Go.Proofs.YtbijnfgjcbfpmaaGreat
open Go.RowKit
theorem putS_len (p : api_Profile) (l : List api_Waiting) (w : api_Waiting) (now : Int) : (putS p l w now).1.length ≤ l.length + 1 := by
  unfold putS
  cases queueB l
  · simp
  · cases okW w
    · simp
    · cases hasW l w.Event w.Net
      · cases (planS p (jobsS w.Net (l ++ [w])) now).2.2 != 0 <;> simp
      · simp
theorem law30_QueueTells_true (a0 : api_Profile) (w0 : (api_Profile.Q a0)) (a1 : (List api_Waiting)) (_w1 : (a1.length ≤ maxLen ∧ ∀ u2 ∈ a1, (api_Waiting.Q u2))) (a2 : api_Waiting) (_w2 : (api_Waiting.Q a2)) (a3 : Int) (_w3 : (IntKind.i64.min ≤ a3 ∧ a3 ≤ IntKind.i64.max)) (a4 : Int) (_w4 : (IntKind.i64.min ≤ a4 ∧ a4 ≤ IntKind.i64.max)) (a5 : Bool) (_w5 : True) : law30_QueueTells a0 a1 a2 a3 a4 a5 = some true := by
  have hp := prof_of w0
  unfold law30_QueueTells
  rw [small_true, bind_s, ref30_Few_eq, bind_s]
  cases hf : (decide ((a1.length : Int) ≤ 30) && decide (a0.Window ≤ 1000) && decide ((a0.Types.length : Int) ≤ 20))
  · rfl
  · have hl : a1.length ≤ 30 := by
      simp only [Bool.and_eq_true, decide_eq_true_eq] at hf
      omega
    obtain ⟨a, b, h1, h2, h3, h4⟩ := steps_same a0 hp a3 a1 (by omega) a5
    have hpl := putS_len a0 a1 a2 a4
    have hll : (lateS a1 a4).length ≤ 1000 := by
      cases hq : queueB a1
      · unfold lateS
        rw [hq]
        simp
      · have := (lateS_facts (now := a4) hq).2.2
        omega
    simp only [Bool.not_true, cond_false, cond_true]
    rw [put_eq a0 hp a1 (by omega), ref30_Put_eq a0 hp a1 (by omega), bind_s, bind_s, h1, h2, bind_s, bind_s]
    simp only [beq_self_eq_true, cond_true]
    rw [ref30_Same_refl _ (by omega), bind_s]
    simp only [cond_true]
    rw [ints_refl a (by omega), bind_s]
    simp only [cond_true]
    rw [ref30_Same_refl b (by omega), bind_s]
    simp only [cond_true]
    rw [queue_Late_eq a1 (by omega), ref30_Late_eq a1 (by omega), bind_s, bind_s, ints_refl _ (by omega)]
    rfl
end Go.Proofs.YtbijnfgjcbfpmaaGreat

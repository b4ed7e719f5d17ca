/-
  A law of layer 29, as plain law.
-/
import Derived.Test.YtafgcjodefafoaaP10
import Derived.Test.YtafgcjodefafoaaH4
namespace Go.Proofs.Ytafgcjodefafoaa
open Go.RowKit
theorem law29_AdmitChecks_true (a0 : api_Profile) (w0 : (api_Profile.Q a0)) (a1 : (List api_Job)) (w1 : (a1.length ≤ maxLen ∧ ∀ u2 ∈ a1, (api_Job.Q u2))) (a2 : Int) (w2 : (IntKind.i64.min ≤ a2 ∧ a2 ≤ IntKind.i64.max)) (a3 : Int) (w3 : (IntKind.u8.min ≤ a3 ∧ a3 ≤ IntKind.u8.max)) (a4 : Int) (w4 : (IntKind.i64.min ≤ a4 ∧ a4 ≤ IntKind.i64.max)) : law29_AdmitChecks a0 a1 a2 a3 a4 = some true := by
  have hp := prof_of w0
  obtain ⟨b, hb, hlen⟩ := few_eq a0 a1
  unfold law29_AdmitChecks
  rw [small_true, bind_some_of rfl, hb, bind_some_of rfl]
  cases b
  · rfl
  have hl := hlen rfl
  simp only [Bool.not_true, cond_false]
  rw [plan_eq a0 hp a1 (by omega), bind_some_of rfl]
  by_cases hpl : PlanOk a0 a1 a2
  · have hok := hpl.ok
    rw [plan_ok_val hpl]
    have hsl : (List.range a1.length).map (slackS a0 a2 (ordR a1)) = slacks a0 a1 a2 := rfl
    have hn := slacks_len a0 a1 a2
    have own0 : checkS a0 a1 a2 (slacks a0 a1 a2) = 0 := checkS_good hok hn fun i hi => by
      rw [slacks_get a0 a1 a2 hi]
      exact ⟨slack_ok hpl hi, Int.le_refl _⟩
    simp only [hsl, bne_self_eq_false, cond_false, len_ne, hn, decide_true, Bool.not_true]
    rw [check_eq a0 hp a1 (by omega), bind_some_of rfl, own0]
    simp only [bne_self_eq_false, cond_false]
    by_cases h0 : a1.length = 0
    · simp [h0]
    · obtain ⟨k, hk, hke⟩ := at_index a1.length (by omega) a3 (show (0 : Int) ≤ a3 from w3.1) (show a3 ≤ (255 : Int) from w3.2)
      have e0 : ((a1.length : Int) == 0) = false := by rw [beq_eq_false_iff_ne]; omega
      have e1 : ((a1.length : Int) != 0) = true := by rw [bne_iff_ne]; omega
      have hw : IntKind.i64.wrap ((k : Int) + 1) = (k : Int) + 1 := wrap64 (by omega) (by omega)
      have ht : ((k : Int) + 1).toNat = k + 1 := by omega
      have hx := slack_range hp hpl hk
      have hg : getI (slacks a0 a1 a2) (k : Int) = some (slackS a0 a2 (ordR a1) k) := by
        rw [getI_in 0 (by rw [hn]; exact hk), slacks_get a0 a1 a2 hk]
      have c1 : decide (a1.length ≤ 1000000) = true := by simp; omega
      have c2 : (decide (0 ≤ (k : Int)) && decide ((k : Int) < ((a1.length : Nat) : Int))) = true := by simp; omega
      have c3 : cutO (0 : Int) (k : Int) (a1.length : Int) = true := by simp only [cutO, Bool.and_eq_true, decide_eq_true_eq]; omega
      have c4 : decide ((List.take k a1).length ≤ 1000000) = true := by simp; omega
      have c5 : cutO ((k : Int) + 1) (a1.length : Int) (a1.length : Int) = true := by simp only [cutO, Bool.and_eq_true, decide_eq_true_eq]; omega
      have c6 : decide ((List.take k a1).length + (List.drop (k + 1) a1).length ≤ 1000000) = true := by simp; omega
      simp only [e0, e1, cond_false, chkO_true, List.nil_append, Nat.zero_add, hn, c1, hke, c2, c3, hw, ht, Int.toNat_zero, List.drop_zero, Int.toNat_natCast, List.take_length, c4, c5, c6, Int.sub_zero]
      rw [bind_some_of hg, plan_eq a0 hp _ (by simp; omega), bind_some_of rfl]
      have hw2 : IntKind.i64.wrap (slackS a0 a2 (ordR a1) k + 1) = slackS a0 a2 (ordR a1) k + 1 := wrap64 (by omega) (by omega)
      have more : checkS a0 a1 a2 ((slacks a0 a1 a2).set k (slackS a0 a2 (ordR a1) k + 1)) = 18 := checkS_bad hok (by simp [hn]) hk (by rw [getD_set_self (by rw [hn]; exact hk)]; omega)
      have less : checkS a0 a1 a2 ((slacks a0 a1 a2).set k (if (0 : Int) < (if slackS a0 a2 (ordR a1) k < a4 then slackS a0 a2 (ordR a1) k else a4) then (if slackS a0 a2 (ordR a1) k < a4 then slackS a0 a2 (ordR a1) k else a4) else (0 : Int))) = 0 := checkS_good hok (by simp [hn]) fun i hi => by
        by_cases hik : k = i
        · subst hik
          rw [getD_set_self (by rw [hn]; exact hk)]
          split <;> split <;> omega
        · rw [getD_set_ne hik, slacks_get a0 a1 a2 hi]
          exact ⟨slack_ok hpl hi, Int.le_refl _⟩
      have few2 : checkS a0 a1 a2 (List.take k (slacks a0 a1 a2)) = 18 := checkS_len hok (by simp [hn]; omega)
      have sub : PlanOk a0 (List.take k a1 ++ List.drop (k + 1) a1) a2 := plan_sub hpl (by
        have h1 : (List.take k a1 ++ List.drop (k + 1) a1).Sublist (List.take k a1 ++ List.drop k a1) := List.Sublist.append_left (by
          rw [← List.drop_drop]
          exact List.drop_sublist _ _) _
        rw [List.take_append_drop] at h1
        exact h1)
      simp only [cond_true, hw2]
      rw [check_eq a0 hp a1 (by omega), bind_some_of rfl, more]
      simp only [beq_self_eq_true, cond_true]
      rw [check_eq a0 hp a1 (by omega), bind_some_of rfl, less]
      simp only [beq_self_eq_true, cond_true]
      rw [check_eq a0 hp a1 (by omega), bind_some_of rfl, few2]
      simp only [beq_self_eq_true, cond_true, plan_ok.2 sub]
  · rcases notok hpl with ⟨h1, h2⟩ | ⟨h1, h2⟩
    · have h3 : checkS a0 a1 a2 [] = 1 := by
        unfold checkS
        rw [h2]
        rfl
      rw [h1, check_eq a0 hp a1 (by omega)]
      simp [h3]
    · have h3 : (checkS a0 a1 a2 [] == 1) = false := by
        unfold checkS
        rw [h2]
        simp only [cond_true]
        cases decide (([] : List Int).length = a1.length)
        · rfl
        · simp only [cond_true]
          cases (List.range a1.length).all (goodS a0 a2 (ordR a1) []) <;> rfl
      rw [h1, check_eq a0 hp a1 (by omega), bind_some_of rfl, h3]
      rfl
end Go.Proofs.Ytafgcjodefafoaa

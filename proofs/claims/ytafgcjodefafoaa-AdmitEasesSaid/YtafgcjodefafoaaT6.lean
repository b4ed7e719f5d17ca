/-
  A law of layer 29, as plain law.
-/
import Derived.Test.YtafgcjodefafoaaP10
import Derived.Test.YtafgcjodefafoaaH6
namespace Go.Proofs.Ytafgcjodefafoaa
open Go.RowKit
theorem law29_AdmitEases_true (a0 : api_Profile) (w0 : (api_Profile.Q a0)) (a1 : (List api_Job)) (w1 : (a1.length ≤ maxLen ∧ ∀ u2 ∈ a1, (api_Job.Q u2))) (a2 : Int) (w2 : (IntKind.i64.min ≤ a2 ∧ a2 ≤ IntKind.i64.max)) (a3 : Int) (w3 : (IntKind.u8.min ≤ a3 ∧ a3 ≤ IntKind.u8.max)) (a4 : Int) (w4 : (IntKind.u16.min ≤ a4 ∧ a4 ≤ IntKind.u16.max)) : law29_AdmitEases a0 a1 a2 a3 a4 = some true := by
  have hp := prof_of w0
  obtain ⟨b, hb, hlen⟩ := few_eq a0 a1
  unfold law29_AdmitEases
  rw [small_true, bind_some_of rfl, hb, bind_some_of rfl]
  cases b
  · rfl
  have hl := hlen rfl
  simp only [Bool.not_true, cond_false]
  by_cases h0 : a1.length = 0
  · simp [h0]
  have e0 : ((a1.length : Int) == 0) = false := by rw [beq_eq_false_iff_ne]; omega
  simp only [e0, cond_false]
  rw [plan_eq a0 hp a1 (by omega), bind_some_of rfl]
  by_cases hpl : PlanOk a0 a1 a2
  · obtain ⟨k, hk, hke⟩ := at_index a1.length (by omega) a3 (show (0 : Int) ≤ a3 from w3.1) (show a3 ≤ (255 : Int) from w3.2)
    have by0 : (0 : Int) ≤ a4 := w4.1
    have by1 : a4 ≤ (65535 : Int) := w4.2
    have e1 : ((a1.length : Int) != 0) = true := by rw [bne_iff_ne]; omega
    have c1 : decide (a1.length ≤ 1000000) = true := by simp; omega
    have c2 : (decide (0 ≤ (k : Int)) && decide ((k : Int) < ((a1.length : Nat) : Int))) = true := by simp; omega
    have hx := (valid_ok (okA_iff.1 hpl.ok).2.1).1 _ (getD_mem hk)
    obtain ⟨_, _, n0, n1⟩ := okA_iff.1 hpl.ok
    simp only [okJ, Bool.and_eq_true, decide_eq_true_eq] at hx
    have hw4 : IntKind.i64.wrap a4 = a4 := wrap64 (by omega) (by omega)
    rw [plan_ok.2 hpl]
    simp only [bne_self_eq_false, cond_false, e1, chkO_true, List.nil_append, Nat.zero_add, c1, hke, c2, Int.toNat_natCast, hw4]
    rw [bind_some_of (getI_in j0 hk)]
    have l1 := plan_less hpl hk (s := if (1 : Int) < (a1.getD k j0).Size - a4 then (a1.getD k j0).Size - a4 else 1) (by split <;> omega) (by split <;> omega)
    have l2 := plan_late hpl hk (d := if (a1.getD k j0).Due + a4 < (1073741824 : Int) then (a1.getD k j0).Due + a4 else 1073741824) (by split <;> omega) (by split <;> omega)
    have l3 := plan_early hpl (now' := if (0 : Int) < a2 - a4 then a2 - a4 else 0) (by split <;> omega) (by split <;> omega)
    rw [wrap64 (n := (a1.getD k j0).Size - a4) (by omega) (by omega), wrap64 (n := (a1.getD k j0).Due + a4) (by omega) (by omega), wrap64 (n := a2 - a4) (by omega) (by omega)]
    rw [plan_eq a0 hp _ (by simp; omega), plan_eq a0 hp _ (by simp; omega), plan_eq a0 hp a1 (by omega)]
    simp only [Option.bind_some, plan_ok.2 l1, plan_ok.2 l2, plan_ok.2 l3, beq_self_eq_true, cond_true]
  · have : ((planS a0 a1 a2).2.2 != 0) = true := by
      rcases notok hpl with ⟨h1, _⟩ | ⟨h1, _⟩ <;> rw [h1] <;> rfl
    rw [this]
    rfl
end Go.Proofs.Ytafgcjodefafoaa

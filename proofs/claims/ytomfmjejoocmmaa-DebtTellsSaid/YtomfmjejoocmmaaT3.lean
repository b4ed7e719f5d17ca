/-
  The law DebtTells answers true, as plain Lean.
-/
import Derived.Test.YtomfmjejoocmmaaP7
import Derived.Test.YtomfmjejoocmmaaH3
namespace Go.Proofs.Ytomfmjejoocmmaa
open Go.RowKit
theorem law44_DebtTells_true (a0 : (List api_Event)) (_w0 : (a0.length ≤ maxLen ∧ ∀ u3 ∈ a0, (api_Event.Q u3))) (a1 : (List api_Sent)) (_w1 : (a1.length ≤ maxLen ∧ ∀ u4 ∈ a1, (api_Sent.Q u4))) (a2 : (List api_Order)) (_w2 : (a2.length ≤ maxLen ∧ ∀ u5 ∈ a2, (api_Order.Q u5))) (a3 : (List api_Debt)) (_w3 : (a3.length ≤ maxLen ∧ ∀ u6 ∈ a3, (api_Debt.Q u6))) (a4 : api_Debt) (_w4 : (api_Debt.Q a4)) (a5 : Int) (_w5 : (IntKind.i64.min ≤ a5 ∧ a5 ≤ IntKind.i64.max)) (a6 : Int) (_w6 : (IntKind.i64.min ≤ a6 ∧ a6 ≤ IntKind.i64.max)) : law44_DebtTells a0 a1 a2 a3 a4 a5 a6 = some true := by
  unfold law44_DebtTells
  rw [small_true, bind_s, few_eq, bind_s]
  cases hf : fewB a0 a1 a2 a3
  · rfl
  · obtain ⟨h0, h1, h2, h3⟩ := few_iff hf
    obtain ⟨r, o1, o2, o3, o4⟩ := open_spec a0 a1 (by omega) (by omega) a2 (by omega) a3 (by omega)
    obtain ⟨q, p1, p2, p3⟩ := ref_open_spec a0 a1 (by omega) (by omega) a2 (by omega) a3 (by omega)
    have e : q = r := sd_uniq p2 o2 fun d => by rw [p3, o4]
    subst e
    have n1 : ((addS a3 a4).2 != (addS a3 a4).2) = false := by simp
    have n2 : ((confS a3 a4).2 != (confS a3 a4).2) = false := by simp
    have l1 := addS_len a3 a4
    have l2 := confS_len a3 a4
    have l3 := (askS_L a0 a1 a5 a6).len
    simp only [Bool.not_true, cond_false]
    rw [add_eq' a3 (by omega), bind_s, ref_add_eq a3 (by omega), bind_s, conf_eq a3 (by omega), bind_s, ref_conf_eq a3 (by omega), bind_s, n1, cond_false, n2, cond_false, same_refl _ (by omega), bind_s, same_refl _ (by omega), bind_s]
    simp only [Bool.not_true, cond_false, cond_true]
    rw [asked_S a0 a1 (by omega) (by omega), bind_s, ref_asked_S a0 a1 (by omega) (by omega), bind_s, ints_refl _ (by omega), bind_s, cond_true, o1, bind_s, p1, bind_s, same_refl _ (by omega), bind_s]
end Go.Proofs.Ytomfmjejoocmmaa

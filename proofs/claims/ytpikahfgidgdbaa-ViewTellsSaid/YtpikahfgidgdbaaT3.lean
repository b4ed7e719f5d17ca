/-
  ViewTells, as plain law.
-/
import Derived.Test.YtpikahfgidgdbaaQ
import Derived.Test.YtpikahfgidgdbaaP8
import Derived.Test.YtpikahfgidgdbaaH3
namespace Go.Proofs.Ytpikahfgidgdbaa
open Go.RowKit
theorem law16_ViewTells_true (a0 : (List api_Event)) (w0 : (a0.length ≤ maxLen ∧ ∀ u3 ∈ a0, (api_Event.Q u3))) (a1 : Int) (_w1 : (IntKind.i64.min ≤ a1 ∧ a1 ≤ IntKind.i64.max)) : law16_ViewTells a0 a1 = some true := by
  obtain ⟨hlen, hq⟩ := w0
  unfold law16_ViewTells
  rw [small_true, bind_some_of rfl]
  obtain ⟨b, hfew, hf⟩ := few_eq a0 hlen
  rw [bind_some_of hfew]
  cases b
  · rfl
  obtain ⟨h30, hfe⟩ := hf rfl
  simp only [Bool.not_true, cond_false, cond_true]
  have hs1 := Q_small (l := a0) (by omega) hfe
  rw [bind_some_of (Q_view (by omega) hfe hq), bind_some_of (ref_view_eq (by omega) fun e he => by have := (hfe e he).2.1; omega), bind_some_of (sameall_refl _ (by omega) hs1.2), cond_true]
  rw [view_root_eq, bind_some_of rfl, ref_root_eq, bind_some_of rfl, beq_self_eq_true, cond_true, view_answers_eq (by omega), bind_some_of rfl, ref_answers_eq (by omega), bind_some_of rfl]
  have hal : (ansS a0 a1).length ≤ 1000000 := by
    unfold ansS
    cases msgB a0 a1
    · exact Nat.zero_le _
    · have := ansT_len a0 a1 a0.length
      simp only [cond_true]
      omega
  rw [ints_refl _ hal]
  rfl
end Go.Proofs.Ytpikahfgidgdbaa

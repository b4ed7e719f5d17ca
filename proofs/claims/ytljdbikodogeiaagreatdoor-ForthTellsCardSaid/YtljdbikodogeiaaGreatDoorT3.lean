/-
  The law ForthTells as a plain program returns true (plain law of layer 21).
-/
import Derived.Test.YtljdbikodogeiaaGreatDoorB8
import Derived.Test.YtljdbikodogeiaaGreatDoorH3
namespace Go.Proofs.YtljdbikodogeiaaGreatDoor
open Go.RowKit
theorem law21_ForthTells_true (a0 : api_Profile) (w0 : (api_Profile.Q a0)) (a1 : (List api_Way)) (_w1 : (a1.length ≤ maxLen ∧ ∀ u4 ∈ a1, (api_Way.Q u4))) (a2 : (List api_Event)) (w2 : (a2.length ≤ maxLen ∧ ∀ u5 ∈ a2, (api_Event.Q u5))) (a3 : (List Int)) (_w3 : (a3.length ≤ maxLen ∧ ∀ u6 ∈ a3, (IntKind.i64.min ≤ u6 ∧ u6 ≤ IntKind.i64.max))) (a4 : Int) (_w4 : (IntKind.i64.min ≤ a4 ∧ a4 ≤ IntKind.i64.max)) : law21_ForthTells a0 a1 a2 a3 a4 = some true := by
  have hp := prof_ok w0
  have nil : ref21_SameItems [] [] = some true := items_refl [] (by simp) (by simp)
  unfold law21_ForthTells forth_Many
  rw [small_true, bind_s, few_eq, bind_s]
  cases hf : fewB a2 a3
  · rfl
  simp only [Bool.not_true, cond_false]
  by_cases hw : (14 : Int) < (a1.length : Int)
  · rw [decide_eq_true hw]
    rfl
  rw [decide_eq_false hw, cond_false, compile_eq _ hp, bind_s]
  cases hc : chk a0 != 0
  case true =>
    obtain ⟨f1, f2⟩ := forth_none hp [] (Or.inl hc) a2 a3 a4
    obtain ⟨g1, g2⟩ := forth_none hp a1 (Or.inl hc) a2 a3 a4
    simp only [cond_true]
    rw [f1, bind_s, f2, bind_s, g1, bind_s, g2, bind_s]
    simp only [beq_self_eq_true, cond_true, nil, bind_s]
  have hc' : chk a0 = 0 := by simpa using hc
  have hnet := net_ok (bad := a3) hc' hf (ev_ints w2.2)
  have F := forth_eq hp hc' hnet a4
  have R := ref21_Forth_eq hp hc' hnet a4
  have S : ref21_SameItems (forthS a0 a2 a3 a4).1 (forthS a0 a2 a3 a4).1 = some true := by
    unfold forthS
    by_cases h1 : a4 < 0
    · rw [decide_eq_true h1]
      exact nil
    · by_cases h2 : (a2.length : Int) ≤ a4
      · rw [decide_eq_false h1, decide_eq_true h2]
        exact nil
      · rw [decide_eq_false h1, decide_eq_false h2]
        have := files_len hnet (id := a4) (by omega) (by show a4 < (a2.length : Int); omega)
        exact items_refl _ this.1 this.2
  simp only [cond_false]
  cases hq : eqW (compS a0) a1
  · obtain ⟨g1, g2⟩ := forth_none hp a1 (Or.inr hq) a2 a3 a4
    rw [F, bind_s, R, bind_s, g1, bind_s, g2, bind_s]
    simp only [beq_self_eq_true, cond_true, S, nil, bind_s]
  · have e := eqW_true hq
    subst e
    rw [F, bind_s, R, bind_s]
    simp only [bind_s, beq_self_eq_true, cond_true, S]
end Go.Proofs.YtljdbikodogeiaaGreatDoor

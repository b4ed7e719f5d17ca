/-
  A law of layer 32 (OnceTells), as plain law.
-/
import Derived.Test.YtikfbgbfjipceaaU2
import Derived.Test.YtikfbgbfjipceaaH3
namespace Go.Proofs.Ytikfbgbfjipceaa
open Go.RowKit
def Arr2_Int.Q (x : Arr2_Int) : Prop := (IntKind.i64.min ≤ x.a0 ∧ x.a0 ≤ IntKind.i64.max) ∧ (IntKind.i64.min ≤ x.a1 ∧ x.a1 ≤ IntKind.i64.max)
theorem list_eq (low : Int) (rs : List Arr2_Int) : law32_list low rs = some ⟨low, rs⟩ := rfl
theorem tk1 : once_Take ⟨3, [⟨5, 7⟩]⟩ 4 9 = some (⟨3, [⟨4, 7⟩]⟩, true) := by rfl
theorem tk2 : once_Take ⟨3, [⟨5, 7⟩]⟩ 3 9 = some (⟨4, [⟨5, 7⟩]⟩, true) := by rfl
theorem tk3 : once_Take ⟨3, [⟨5, 7⟩]⟩ 6 9 = some (⟨3, [⟨5, 7⟩]⟩, false) := by rfl
theorem tk4 : once_Take ⟨3, [⟨5, 7⟩]⟩ 9 9 = some (⟨3, [⟨5, 7⟩, ⟨9, 10⟩]⟩, true) := by rfl
theorem tk5 : once_Take ⟨3, [⟨5, 7⟩]⟩ 9 1 = some (⟨7, [⟨9, 10⟩]⟩, true) := by rfl
theorem tk6 : once_Take ⟨4, [⟨5, 7⟩]⟩ 4 9 = some (⟨7, []⟩, true) := by rfl
theorem small_eq : law32_small = some true := by
  unfold law32_small
  simp only [list_eq, Option.bind_some]
  rw [bind_some_of tk1, bind_some_of tk2, bind_some_of tk3, bind_some_of tk4, bind_some_of tk5, bind_some_of tk6]
  simp only
  rw [bind_some_of (lsame_eq ⟨3, [⟨4, 7⟩]⟩ (by simp)), bind_some_of (lsame_eq ⟨4, [⟨5, 7⟩]⟩ (by simp)), bind_some_of (lsame_eq ⟨3, [⟨5, 7⟩]⟩ (by simp)), bind_some_of (lsame_eq ⟨3, [⟨5, 7⟩, ⟨9, 10⟩]⟩ (by simp)), bind_some_of (lsame_eq ⟨7, [⟨9, 10⟩]⟩ (by simp)), bind_some_of (lsame_eq ⟨7, []⟩ (by simp))]
  simp only [cond_true]
  rw [seqF_inl rfl, ohas_eq _ _ (by simp), ohas_eq _ _ (by simp), ohas_eq _ _ (by simp), ohas_eq _ _ (by simp), ofloor_eq _ (by simp), oright_eq _ (by simp), oright_eq _ (by simp)]
  rfl
theorem takeP_len (low : Int) (rs : List Rg) (n most : Int) : (takeP low rs n most).rs.length ≤ rs.length + 1 := by
  cases hr : rightB low rs
  · have : badT low rs n most = true := by simp [badT, hr]
    unfold takeP
    rw [if_pos this]
    exact Nat.le_succ _
  · exact take_len low rs n most hr
theorem law32_OnceTells_true (a0 : Int) (w0 : (IntKind.i64.min ≤ a0 ∧ a0 ≤ IntKind.i64.max)) (a1 : (List Arr2_Int)) (w1 : (a1.length ≤ maxLen ∧ ∀ u1 ∈ a1, (Arr2_Int.Q u1))) (a2 : Int) (w2 : (IntKind.i64.min ≤ a2 ∧ a2 ≤ IntKind.i64.max)) (a3 : Int) (w3 : (IntKind.i64.min ≤ a3 ∧ a3 ≤ IntKind.i64.max)) : law32_OnceTells a0 a1 a2 a3 = some true := by
  clear w0 w1 w2 w3
  unfold law32_OnceTells
  rw [bind_some_of small_eq]
  by_cases hl : 40 < (a1.length : Int)
  · simp only [hl, decide_true, cond_true]
  · simp only [hl, decide_false, cond_false, cond_true]
    have hl : a1.length ≤ 40 := by omega
    have ht : once_Take ⟨a0, a1⟩ a2 a3 = some (⟨(takeP a0 (a1.map rgOf) a2 a3).low, (takeP a0 (a1.map rgOf) a2 a3).rs.map ofRg⟩, (takeP a0 (a1.map rgOf) a2 a3).ok) := by
      unfold once_Take
      rw [chk_true (by simp; omega)]
    rw [bind_some_of ht, bind_some_of (rtake32_eq a0 a1 a2 a3 (by omega)), rright_eq a0 a1 (by omega), oright_eq ⟨a0, a1⟩ (by simp; omega), ohas_eq ⟨a0, a1⟩ a2 (by simp; omega), rhas_eq a0 a1 a2 (by omega), ofloor_eq ⟨a0, a1⟩ (by simp; omega)]
    have hlen : ((takeP a0 (a1.map rgOf) a2 a3).rs.map ofRg).length ≤ 1000 := by
      rw [List.length_map]
      have := takeP_len a0 (a1.map rgOf) a2 a3
      simp only [List.length_map] at this
      omega
    simp only [Option.bind_some, beq_self_eq_true, cond_true]
    rw [rsame_eq _ hlen]
    cases rightB a0 (a1.map rgOf)
    · simp only [cond_false]
      rw [seqF_inl rfl]
      simp
    · simp only [cond_true]
      rw [seqF_inl rfl]
      simp
end Go.Proofs.Ytikfbgbfjipceaa

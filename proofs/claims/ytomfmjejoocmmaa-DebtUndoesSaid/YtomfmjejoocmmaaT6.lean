/-
  The law DebtUndoes answers true, as plain Lean.
-/
import Derived.Test.YtomfmjejoocmmaaP7
import Derived.Test.YtomfmjejoocmmaaH6
namespace Go.Proofs.Ytomfmjejoocmmaa
open Go.RowKit
/-- the places taken, in order, are all of them -/
theorem sevens : ∀ n, n ≤ 40 → n % 7 ≠ 0 → ∀ k, k < n → ∃ j, j < n ∧ (j * 7) % n = k := by
  have h : ∀ n, n < 41 → n % 7 ≠ 0 → ∀ k, k < n → ∃ j, j < n ∧ (j * 7) % n = k := by decide +kernel
  exact fun n hn => h n (by omega)
def takenD (l : List api_Debt) (i : Nat) : List api_Debt := (List.range i).map fun j => l.getD ((j * 7) % l.length) d0
theorem undoes_L1 (l : List api_Debt) (hr : rightB l = true) (hl : l.length ≤ 40) : loopF (law44_DebtUndoes_L1 l) (l, (0 : Int)) = some (.inl (l.filter fun x => !(memD (takenD l l.length) x))) := by
  refine loopF_inv (body := law44_DebtUndoes_L1 l) l.length (fun i s => s = (l.filter (fun x => !(memD (takenD l i) x)), (i : Int))) (fun r => r = some (.inl (l.filter fun x => !(memD (takenD l l.length) x)))) (fun i s hi hs => ?_) (fun s hs => ?_) ?_
  · subst hs
    left
    have hlt : decide ((i : Int) < (l.length : Int)) = true := decide_eq_true (by omega)
    have hw : IntKind.i64.wrap ((i : Int) + 1) = ((i + 1 : Nat) : Int) := by rw [wrap64 (by omega) (by omega)]; omega
    have hw7 : IntKind.i64.wrap ((i : Int) * 7) = ((i * 7 : Nat) : Int) := by rw [wrap64 (by omega) (by omega)]; omega
    have hk : (i * 7) % l.length < l.length := Nat.mod_lt _ (by omega)
    have hmod : Int.tmod ((i * 7 : Nat) : Int) (l.length : Int) = (((i * 7) % l.length : Nat) : Int) := by
      rw [Int.tmod_eq_emod_of_nonneg (by omega)]
      omega
    have hne : ((l.length : Int) != 0) = true := by
      rw [bne_iff_ne]
      omega
    have hsub : (l.filter fun x => !(memD (takenD l i) x)).Sublist l := List.filter_sublist
    have hlen := hsub.length_le
    have hrq := right_sub hr hsub
    have e : l.filter (fun x => !(memD (takenD l (i + 1)) x)) = (l.filter fun x => !(memD (takenD l i) x)).filter fun x => !(eqD x (l.getD ((i * 7) % l.length) d0)) := by
      rw [List.filter_filter]
      congr 1
      funext x
      apply bool_ext
      have et : takenD l (i + 1) = takenD l i ++ [l.getD ((i * 7) % l.length) d0] := by
        unfold takenD
        rw [List.range_succ, List.map_append]
        rfl
      rw [Bool.not_eq_true', Bool.and_eq_true, Bool.not_eq_true', Bool.not_eq_true', memD_false, memD_false, eqD_false, et, List.mem_append, List.mem_singleton]
      constructor
      · intro h
        exact ⟨fun h2 => h (Or.inr h2), fun h2 => h (Or.inl h2)⟩
      · rintro ⟨h1, h2⟩ (h3 | h3)
        · exact h2 h3
        · exact h1 h3
    unfold law44_DebtUndoes_L1
    simp only [hlt, hne, chkO_true, cond_true, bind_s, hw, hw7, hmod, getI_in d0 hk]
    rw [conf_eq _ (by omega), bind_s, e]
    generalize l.filter (fun x => !(memD (takenD l i) x)) = q at hrq hlen ⊢
    by_cases hm : l.getD ((i * 7) % l.length) d0 ∈ q
    · have hq := putD_len (q.filter fun x => !(eqD x (l.getD ((i * 7) % l.length) d0))) (l.getD ((i * 7) % l.length) d0)
      rw [put_filter (rightB_iff.1 hrq).2 hm] at hq
      have hwl : IntKind.i64.wrap ((q.length : Int) - 1) = (q.length : Int) - 1 := wrap64 (by omega) (by omega)
      rw [conf_there hrq hm]
      have hb : ((((q.filter fun x => !(eqD x (l.getD ((i * 7) % l.length) d0))).length : Nat) : Int) == IntKind.i64.wrap ((q.length : Int) - 1)) = true := by
        rw [hwl, beq_iff_eq]
        omega
      simp only [hb, cond_true]
      exact ⟨_, rfl, rfl⟩
    · rw [conf_not hm, cond_false, filter_not hm]
      exact ⟨_, rfl, rfl⟩
  · subst hs
    refine ⟨_, ?_, rfl⟩
    unfold law44_DebtUndoes_L1
    simp only [Int.lt_irrefl, decide_false, cond_false]
  · have : l.filter (fun x => !(memD (takenD l 0) x)) = l := by
      rw [List.filter_eq_self]
      intro x _
      rfl
    rw [this]
    rfl
theorem undoes_none (l : List api_Debt) (hl : l.length ≤ 40) (h7 : l.length % 7 ≠ 0) : l.filter (fun x => !(memD (takenD l l.length) x)) = [] := by
  rw [List.filter_eq_nil_iff]
  intro x hx
  obtain ⟨k, hk, rfl⟩ := List.getElem_of_mem hx
  obtain ⟨j, hj, e⟩ := sevens l.length hl h7 k hk
  rw [Bool.not_eq_true', memD_false, Classical.not_not]
  unfold takenD
  rw [List.mem_map]
  exact ⟨j, List.mem_range.2 hj, by rw [e, List.getD_eq_getElem?_getD, List.getElem?_eq_getElem hk]; rfl⟩
theorem law44_DebtUndoes_true (a0 : (List api_Debt)) (_w0 : (a0.length ≤ maxLen ∧ ∀ u1 ∈ a0, (api_Debt.Q u1))) (a1 : api_Debt) (_w1 : (api_Debt.Q a1)) : law44_DebtUndoes a0 a1 = some true := by
  unfold law44_DebtUndoes
  rw [small_true, bind_s]
  by_cases hl : (40 : Int) < (a0.length : Int)
  · rw [decide_eq_true hl]
    rfl
  · rw [decide_eq_false hl, cond_false, add_eq' _ (by omega), bind_s, conf_eq _ (by omega), bind_s]
    cases hr : rightB a0 && fineD a1
    · have e1 : addS a0 a1 = ([], 1) := by
        unfold addS
        rw [hr]
        rfl
      have e2 : confS a0 a1 = ([], 1) := by
        unfold confS
        rw [hr]
        rfl
      rw [e1, e2]
      rfl
    · rw [Bool.and_eq_true] at hr
      obtain ⟨hr, hf⟩ := hr
      have hs := (rightB_iff.1 hr).2
      have fin : ((seqF (A := (List api_Debt)) (loopF (law44_DebtUndoes_L1 a0) (a0, (0 : Int))) fun s5 => (bif true then (bif ((Int.tmod (a0.length : Int) (7 : Int)) == (0 : Int)) then some true else some ((s5.length : Int) == (0 : Int))) else some false)) : Option Bool) = some true := by
        rw [undoes_L1 a0 hr (by omega), seqF_l, cond_true]
        cases h7 : Int.tmod (a0.length : Int) (7 : Int) == (0 : Int)
        · rw [beq_eq_false_iff_ne, Int.tmod_eq_emod_of_nonneg (by omega)] at h7
          rw [undoes_none a0 (by omega) (by omega)]
          rfl
        · rfl
      by_cases hm : a1 ∈ a0
      · have hn : a1 ∉ a0.filter fun x => !(eqD x a1) := fun h => (mem_filter_ne.1 h).2 rfl
        have hlf := List.length_filter_le (fun x => !(eqD x a1)) a0
        rw [add_twice hr hf hm, conf_there hr hm]
        have e3 : debt_Add (a0.filter fun x => !(eqD x a1)) a1 = some (a0, 0) := by
          rw [add_eq' _ (by omega), add_new (right_sub hr List.filter_sublist) hf hn, put_filter hs hm]
        simp only [show ((5 : Int) == 0) = false from rfl, cond_false, seqF_l, show ((0 : Int) == 0) = true from rfl, cond_true, show ((0 : Int) != 0) = false from rfl, show ((5 : Int) != 0) = true from rfl, show ((5 : Int) != 5) = false from rfl, e3, bind_s, same_refl a0 (by omega), Bool.not_true]
        exact fin
      · have hlp := putD_len a0 a1
        have hw : IntKind.i64.wrap ((a0.length : Int) + 1) = (a0.length : Int) + 1 := wrap64 (by omega) (by omega)
        have e2 : confS a0 a1 = ([], 4) := by
          unfold confS
          rw [hr, hf, memD_false.2 hm]
          rfl
        have e3 : debt_Confirm (putD a0 a1) a1 = some (a0, 0) := by
          rw [conf_eq _ (by omega), conf_there (right_put hr hf hm) (mem_putD.2 (Or.inl rfl)), filter_put hs hm]
        have e4 : ((((putD a0 a1).length : Nat) : Int) != IntKind.i64.wrap ((a0.length : Int) + 1)) = false := by
          rw [hw, hlp, bne_eq_false_iff_eq]
          omega
        rw [add_new hr hf hm, e2]
        simp only [cond_false, seqF_l, show ((0 : Int) == 0) = true from rfl, cond_true, show ((0 : Int) != 0) = false from rfl, show ((4 : Int) == 0) = false from rfl, show ((4 : Int) != 4) = false from rfl, e3, e4, bind_s, same_refl a0 (by omega), Bool.not_true]
        exact fin
end Go.Proofs.Ytomfmjejoocmmaa

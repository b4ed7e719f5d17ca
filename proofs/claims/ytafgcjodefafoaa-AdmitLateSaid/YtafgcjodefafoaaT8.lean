/-
  A law of layer 29, as plain law.
-/
import Derived.Test.YtafgcjodefafoaaP13
import Derived.Test.YtafgcjodefafoaaH8
namespace Go.Proofs.Ytafgcjodefafoaa
open Go.RowKit
theorem law29_AdmitLate_true (a0 : api_Profile) (w0 : (api_Profile.Q a0)) (a1 : (List api_Job)) (w1 : (a1.length ≤ maxLen ∧ ∀ u2 ∈ a1, (api_Job.Q u2))) (a2 : Int) (w2 : (IntKind.i64.min ≤ a2 ∧ a2 ≤ IntKind.i64.max)) : law29_AdmitLate a0 a1 a2 = some true := by
  have hp := prof_of w0
  obtain ⟨b, hb, hlen⟩ := few_eq a0 a1
  unfold law29_AdmitLate
  rw [small_true, bind_some_of rfl, hb, bind_some_of rfl]
  cases b
  · rfl
  have hl := hlen rfl
  simp only [Bool.not_true, cond_false]
  rw [plan_eq a0 hp a1 (by omega), bind_some_of rfl]
  cases ho : okA a0 a1 a2
  · have : planS a0 a1 a2 = ([], -1, 1) := by unfold planS; rw [ho]; rfl
    rw [this]
    rfl
  cases hfi : (List.range a1.length).find? (late a0 a2 (ordR a1)) with
  | none =>
    have : planS a0 a1 a2 = ((List.range a1.length).map (slackS a0 a2 (ordR a1)), -1, 0) := by unfold planS; rw [ho, hfi]; rfl
    rw [this]
    rfl
  | some i =>
    have hpv : planS a0 a1 a2 = ([], ((ordR a1).getD i j0).Id, 16) := by unfold planS; rw [ho, hfi]; rfl
    obtain ⟨hlate, him, hbef⟩ := List.find?_range_eq_some.1 hfi
    have hi' : i < a1.length := List.mem_range.1 him
    have hlr := ordR_len a1
    have hi : i < (ordR a1).length := by omega
    obtain ⟨c0, v, n0, n1⟩ := okA_iff.1 ho
    have hok := chk_ok c0
    have hf := okA_fine hp ho
    have hids := ord_ids v
    have hpre := take_load ho hi' (fun k hk => by have := hbef k hk; simpa using this)
    rw [hpv]
    simp only [bne_self_eq_false, cond_false]
    rw [ref29_Order_eq a1 (by omega), bind_some_of rfl]
    have loop := loopF_inv (body := law29_AdmitLate_L1 (ordR a1) ([], ((ordR a1).getD i j0).Id, 16) a0 a2 true) i (fun k s => s = (sumS ((ordR a1).take k), (k : Int))) (fun r => r = some (.inr true))
      (fun k s hk hs => by
        left
        subst hs
        have hkl : k < (ordR a1).length := by omega
        obtain ⟨b1, b2, b3, b4, b5, b6, b7, b8, b9⟩ := hf.at_ hkl
        have hw : IntKind.i64.wrap ((k : Int) + 1) = (k : Int) + 1 := wrap64 (by omega) (by omega)
        have hlt : ((k : Int) < (((ordR a1).length : Nat) : Int)) := by omega
        have h0 : (0 : Int) ≤ (k : Int) := by omega
        have hs1 : IntKind.i64.wrap (sumS ((ordR a1).take k) + ((ordR a1).getD k j0).Size) = need (ordR a1) k := by
          rw [← need_succ hkl]
          exact wrap64 (by omega) (by omega)
        have hne : (((ordR a1).getD k j0).Id != ((ordR a1).getD i j0).Id) = true := by
          rw [List.pairwise_iff_getElem] at hids
          have := hids k i hkl hi hk
          rw [List.getD_eq_getElem?_getD, List.getElem?_eq_getElem hkl, List.getD_eq_getElem?_getD, List.getElem?_eq_getElem hi]
          simpa using this
        refine ⟨(need (ordR a1) k, (k : Int) + 1), ?_, by simp only [Prod.mk.injEq]; exact ⟨rfl, by omega⟩⟩
        unfold law29_AdmitLate_L1
        simp only [hlt, h0, decide_true, cond_true, Bool.and_self, chkO_true, hw]
        rw [bind_some_of (getI_in j0 hkl), hs1]
        simp only [hne, cond_true])
      (fun s hs => by
        subst hs
        refine ⟨.inr true, ?_, rfl⟩
        obtain ⟨b1, b2, b3, b4, b5, b6, b7, b8, b9⟩ := hf.at_ hi
        have hlt : ((i : Int) < (((ordR a1).length : Nat) : Int)) := by omega
        have h0 : (0 : Int) ≤ (i : Int) := by omega
        have hs1 : IntKind.i64.wrap (sumS ((ordR a1).take i) + ((ordR a1).getD i j0).Size) = need (ordR a1) i := by
          rw [← need_succ hi]
          exact wrap64 (by omega) (by omega)
        have hcut : cutO (0 : Int) (i : Int) (((ordR a1).length : Nat) : Int) = true := by simp only [cutO, Bool.and_eq_true, decide_eq_true_eq]; omega
        have hlt2 : give a0 a2 (ordR a1) i < need (ordR a1) i := by
          unfold late at hlate
          simpa using hlate
        have hgive : give a0 a2 (ordR a1) i = givesS a0 a2 ((ordR a1).getD i j0).Due := rfl
        have hj := b7
        simp only [okJ, Bool.and_eq_true, decide_eq_true_eq] at hj
        unfold law29_AdmitLate_L1
        simp only [hlt, h0, decide_true, cond_true, Bool.and_self, chkO_true]
        rw [bind_some_of (getI_in j0 hi), hs1]
        simp only [bne_self_eq_false, cond_false, hcut, chkO_true, Int.sub_zero, Int.toNat_natCast, Int.toNat_zero, List.drop_zero]
        rw [plan_eq a0 hp _ (by rw [List.length_take]; omega), bind_some_of rfl, plan_ok.2 hpre, wrap64 (n := ((ordR a1).getD i j0).Due - a2) (by omega) (by omega)]
        simp only [bne_self_eq_false, cond_false]
        generalize ((ordR a1).getD i j0).Due = due at *
        by_cases ht0 : due - a2 < 0
        · simp only [ht0, decide_true, cond_true]
        · by_cases ht1 : 60 < due - a2
          · simp only [ht0, ht1, decide_true, decide_false, cond_true, cond_false]
          · simp only [ht0, ht1, decide_false, cond_false]
            have ht : due - a2 = ((due - a2).toNat : Int) := by omega
            have hlw : (worstL a0 (due - a2).toNat).length = (due - a2).toNat := by simp [worstL]
            have hwst : supply_Worst a0 (due - a2) = some (worstL a0 (due - a2).toNat) := by
              have := Worst_eq a0 hp c0 (due - a2).toNat (by omega)
              rw [← ht] at this
              exact this
            rw [hwst, bind_some_of rfl, Given_eq a0 hp c0 _ (by rw [hlw]; omega), bind_some_of rfl, Allowed_eq a0 hp c0 _ (by rw [hlw]; omega), worst_allowed hok]
            have hsum := cnt_sum (worstL a0 (due - a2).toNat)
            have hcr := cntF_range (worstL a0 (due - a2).toNat)
            have hoff := off_worst hok (due - a2).toNat (due - a2).toNat (Nat.le_refl _)
            unfold offN at hoff
            rw [List.take_of_length_le (by rw [hlw]; exact Nat.le_refl _), ← ht] at hoff
            rw [hlw] at hsum hcr
            have hcnt : cntT (worstL a0 (due - a2).toNat) = stepsS a0 (due - a2) := by omega
            have hstep := stepsS_range hok (t := due - a2) (by omega)
            have hgs := gives_small c0 (now := a2) (due := due) (by omega) (by omega)
            rw [hcnt, times_small hok hstep.1 (by omega), hlw, ← ht]
            have : decide (a0.Rate * stepsS a0 (due - a2) < need (ordR a1) i) = true := by
              rw [decide_eq_true_eq, ← hgs, ← hgive]
              exact hlt2
            simp only [beq_self_eq_true, cond_true, Option.bind_some, this])
      (s0 := (0, 0)) rfl
    rw [loop]
    rfl
end Go.Proofs.Ytafgcjodefafoaa

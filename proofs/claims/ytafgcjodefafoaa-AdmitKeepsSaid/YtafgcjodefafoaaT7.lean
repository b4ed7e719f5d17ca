/-
  A law of layer 29, as plain law.
-/
import Derived.Test.YtafgcjodefafoaaP13
import Derived.Test.YtafgcjodefafoaaH7
namespace Go.Proofs.Ytafgcjodefafoaa
open Go.RowKit
theorem law29_AdmitKeeps_true (a0 : api_Profile) (w0 : (api_Profile.Q a0)) (a1 : (List api_Job)) (w1 : (a1.length ≤ maxLen ∧ ∀ u2 ∈ a1, (api_Job.Q u2))) (a2 : Int) (w2 : (IntKind.i64.min ≤ a2 ∧ a2 ≤ IntKind.i64.max)) (a3 : (List Bool)) (w3 : (a3.length ≤ maxLen ∧ ∀ u3 ∈ a3, True)) : law29_AdmitKeeps a0 a1 a2 a3 = some true := by
  have hp := prof_of w0
  obtain ⟨b, hb, hlen⟩ := few_eq a0 a1
  unfold law29_AdmitKeeps
  rw [small_true, bind_some_of rfl, hb, bind_some_of rfl]
  cases b
  · rfl
  have hl := hlen rfl
  simp only [Bool.not_true, cond_false]
  by_cases hup : (60 : Int) < (a3.length : Int)
  · simp [hup]
  simp only [hup, decide_false, cond_false]
  rw [plan_eq a0 hp a1 (by omega), bind_some_of rfl]
  by_cases hpl : PlanOk a0 a1 a2
  · obtain ⟨c0, v, n0, n1⟩ := okA_iff.1 hpl.ok
    have hok := chk_ok c0
    have hf := okA_fine hp hpl.ok
    rw [plan_ok_val hpl]
    have hsl : (List.range a1.length).map (slackS a0 a2 (ordR a1)) = slacks a0 a1 a2 := rfl
    have hn := slacks_len a0 a1 a2
    simp only [hsl, bne_self_eq_false, cond_false, len_ne, hn, decide_true, Bool.not_true]
    rw [profile_Check_eq a0 hp, bind_some_of rfl, c0]
    simp only [bne_self_eq_false, cond_false]
    rw [ref29_Order_eq a1 (by omega), bind_some_of rfl]
    have loop := loopF_inv (body := law29_AdmitKeeps_L1 (ordR a1) a2 a3 a0 (slacks a0 a1 a2, -1, 0)) (ordR a1).length (fun i s => s = (sumS ((ordR a1).take i), (i : Int))) (fun r => r = some (.inl ()))
      (fun i s hi hs => by
        left
        subst hs
        obtain ⟨b1, b2, b3, b4, b5, b6, b7, b8, b9⟩ := hf.at_ hi
        have hi' : i < a1.length := by rw [← ordR_len]; exact hi
        have hlr := ordR_len a1
        have hw : IntKind.i64.wrap ((i : Int) + 1) = (i : Int) + 1 := wrap64 (by omega) (by omega)
        have hlt : ((i : Int) < (((ordR a1).length : Nat) : Int)) := by omega
        have h0 : (0 : Int) ≤ (i : Int) := by omega
        have hs1 : IntKind.i64.wrap (sumS ((ordR a1).take i) + ((ordR a1).getD i j0).Size) = need (ordR a1) i := by
          rw [← need_succ hi]
          exact wrap64 (by omega) (by omega)
        have hsk := slack_range hp hpl hi'
        have hj := b7
        simp only [okJ, Bool.and_eq_true, decide_eq_true_eq] at hj
        have hgv : need (ordR a1) i ≤ give a0 a2 (ordR a1) i := by
          have := slack_ok hpl hi'
          unfold slackS at this
          omega
        have hneed : 1 ≤ need (ordR a1) i := by
          rw [need_succ hi]
          omega
        have ht0 : 0 ≤ ((ordR a1).getD i j0).Due - a2 := by
          apply Int.not_lt.1
          intro hneg
          have : give a0 a2 (ordR a1) i = 0 := by
            have h1 : ((ordR a1).getD i j0).Due < a2 := by omega
            unfold give givesS
            simp only [h1, decide_true, cond_true]
          omega
        refine ⟨(need (ordR a1) i, (i : Int) + 1), ?_, by simp only [Prod.mk.injEq]; exact ⟨rfl, by omega⟩⟩
        unfold law29_AdmitKeeps_L1
        simp only [hlt, h0, decide_true, cond_true, Bool.and_self, chkO_true, hw]
        rw [bind_some_of (getI_in j0 hi), hs1, wrap64 (n := ((ordR a1).getD i j0).Due - a2) (by omega) (by omega)]
        have hgive : give a0 a2 (ordR a1) i = givesS a0 a2 ((ordR a1).getD i j0).Due := rfl
        have hslk : slackS a0 a2 (ordR a1) i = give a0 a2 (ordR a1) i - need (ordR a1) i := rfl
        have hgs := fun h => gives_small c0 (now := a2) (due := ((ordR a1).getD i j0).Due) ht0 h
        generalize ((ordR a1).getD i j0).Due = due at *
        have e1 : decide (due - a2 < 0) = false := by simp; omega
        simp only [e1, cond_false]
        by_cases hbig : (a3.length : Int) < due - a2
        · simp only [hbig, decide_true, cond_true]
        · have hcut : cutO (0 : Int) (due - a2) (a3.length : Int) = true := by simp only [cutO, Bool.and_eq_true, decide_eq_true_eq]; omega
          have htl : (a3.take (due - a2).toNat).length = (due - a2).toNat := by rw [List.length_take]; omega
          simp only [hbig, decide_false, cond_false, hcut, chkO_true, Int.toNat_zero, List.drop_zero]
          rw [Allowed_eq a0 hp c0 _ (by rw [htl]; omega), bind_some_of rfl]
          cases hal : allowB a0 (a3.take (due - a2).toNat)
          · simp only [Bool.not_false, cond_true]
          · simp only [Bool.not_true, cond_false]
            rw [Given_eq a0 hp c0 _ (by rw [htl]; omega), bind_some_of rfl]
            have hsum := cnt_sum (a3.take (due - a2).toNat)
            have hcr := cntF_range (a3.take (due - a2).toNat)
            rw [htl] at hsum hcr
            have hoff := off_bound hok (up := a3.take (due - a2).toNat) (t := (due - a2).toNat) (by rw [htl]; exact Nat.le_refl _) (fun j hj => by
              unfold allowB at hal
              rw [htl] at hal
              have := List.all_eq_true.1 hal j (List.mem_range.2 hj)
              simpa using this)
            have eoff : offN (a3.take (due - a2).toNat) (due - a2).toNat = cntF (a3.take (due - a2).toNat) := by
              unfold offN
              rw [List.take_of_length_le (by rw [htl]; exact Nat.le_refl _)]
            rw [eoff, show ((due - a2).toNat : Int) = due - a2 by omega] at hoff
            have hge : give a0 a2 (ordR a1) i ≤ a0.Rate * cntT (a3.take (due - a2).toNat) := by
              rw [hgive, hgs (by omega)]
              exact Int.mul_le_mul_of_nonneg_left (by omega) (by have := hok.rate; omega)
            rw [times_small hok (s := cntT (a3.take (due - a2).toNat)) (by omega) (by omega)]
            generalize a0.Rate * cntT (a3.take (due - a2).toNat) = n at *
            have e2 : decide (n < need (ordR a1) i) = false := by simp; omega
            have c2 : (true && decide ((i : Int) < (((slacks a0 a1 a2).length : Nat) : Int))) = true := by simp [hn]; omega
            simp only [bne_self_eq_false, cond_false, e2, c2, chkO_true]
            rw [bind_some_of (show getI (slacks a0 a1 a2) (i : Int) = some (slackS a0 a2 (ordR a1) i) by rw [getI_in 0 (by rw [hn]; exact hi'), slacks_get a0 a1 a2 hi'])]
            have e3 : decide (slackS a0 a2 (ordR a1) i < 0) = false := by simp; omega
            rw [wrap64 (n := need (ordR a1) i + slackS a0 a2 (ordR a1) i) (by omega) (by omega)]
            have e4 : decide (n < need (ordR a1) i + slackS a0 a2 (ordR a1) i) = false := by
              rw [hslk]
              simp
              omega
            simp only [e3, e4, cond_false])
      (fun s hs => by
        subst hs
        refine ⟨.inl (), ?_, rfl⟩
        unfold law29_AdmitKeeps_L1
        simp only [Int.lt_irrefl, decide_false, cond_false])
      (s0 := (0, 0)) rfl
    rw [loop]
    rfl
  · have hnil : (planS a0 a1 a2).1 = [] := by
      unfold planS
      cases ho : okA a0 a1 a2
      · rfl
      · rw [← nolate_iff ho] at hpl
        simp only [cond_true]
        split
        · rfl
        · rename_i hnn
          exact absurd hnn hpl
    have : ((planS a0 a1 a2).2.2 != 0) = true := by
      rcases notok hpl with ⟨h1, _⟩ | ⟨h1, _⟩ <;> rw [h1] <;> rfl
    rw [this, hnil]
    rfl
end Go.Proofs.Ytafgcjodefafoaa

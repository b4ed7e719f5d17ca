/-
  A law of layer 29, as plain law.
-/
import Derived.Test.YtafgcjodefafoaaP11
import Derived.Test.YtafgcjodefafoaaH5
namespace Go.Proofs.Ytafgcjodefafoaa
open Go.RowKit
theorem law29_AdmitRoom_true (a0 : api_Profile) (w0 : (api_Profile.Q a0)) (a1 : (List api_Job)) (w1 : (a1.length ≤ maxLen ∧ ∀ u2 ∈ a1, (api_Job.Q u2))) (a2 : Int) (w2 : (IntKind.i64.min ≤ a2 ∧ a2 ≤ IntKind.i64.max)) (a3 : Int) (w3 : (IntKind.i64.min ≤ a3 ∧ a3 ≤ IntKind.i64.max)) (a4 : Int) (w4 : (IntKind.u16.min ≤ a4 ∧ a4 ≤ IntKind.u16.max)) : law29_AdmitRoom a0 a1 a2 a3 a4 = some true := by
  have hp := prof_of w0
  obtain ⟨b, hb, hlen⟩ := few_eq a0 a1
  unfold law29_AdmitRoom
  rw [small_true, bind_some_of rfl, hb, bind_some_of rfl]
  cases b
  · rfl
  have hl := hlen rfl
  simp only [Bool.not_true, cond_false]
  by_cases hd0 : a3 < 0
  · simp [hd0]
  by_cases hd1 : 1073676288 < a3
  · simp [hd0, hd1]
  simp only [hd0, hd1, decide_false, cond_false]
  rw [plan_eq a0 hp a1 (by omega), room_eq a0 hp a1 (by omega), bind_some_of rfl, bind_some_of rfl]
  by_cases hpl : PlanOk a0 a1 a2
  · obtain ⟨r0, r1, r2, r3⟩ := room_fits hpl (due := a3) (by omega) (by omega) (by omega)
    obtain ⟨id, hid, i0, i1, hnew⟩ := New_eq a1 (by omega)
    have by0 : (0 : Int) ≤ a4 := w4.1
    have by1 : a4 ≤ (65535 : Int) := w4.2
    rw [plan_ok.2 hpl]
    simp only [bne_self_eq_false, cond_false]
    rw [hid, bind_some_of rfl]
    have c1 : decide (a1.length ≤ 1000000) = true := by simp; omega
    have c2 : ∀ x : api_Job, decide (a1.length + [x].length ≤ 1000000) = true := fun x => by simp; omega
    have hw4 : IntKind.i64.wrap a4 = a4 := wrap64 (by omega) (by omega)
    generalize hn : roomS a0 a1 a2 a3 = n at *
    rw [wrap64 (n := n + 1) (by omega) (by omega)]
    simp only [List.nil_append, Nat.zero_add, c1, c2, chkO_true, hw4]
    rw [wrap64 (n := a3 + a4) (by omega) (by omega), plan_eq a0 hp _ (by simp; omega), bind_some_of rfl]
    have n0 : decide (n < 0) = false := by simp; omega
    have n1 : decide ((1099511627776 : Int) < n) = false := by simp; omega
    have bad : ((planS a0 (a1 ++ [⟨id, n + 1, a3⟩]) a2).2.2 == 0) = false := by
      rw [beq_eq_false_iff_ne, ne_eq, plan_ok, plan_add i0 hnew (by omega) (by omega) (by omega)]
      exact fun h => r3 h.2.2
    simp only [n0, n1, bad, cond_false]
    rw [room_eq a0 hp a1 (by omega), bind_some_of rfl]
    obtain ⟨q0, q1, q2, q3⟩ := room_fits hpl (due := a3 + a4) (by omega) (by omega) (by omega)
    have later : decide (roomS a0 a1 a2 (a3 + a4) < n) = false := by
      rw [decide_eq_false_iff_not]
      intro hlt
      exact q3 (fits_down (fits_later hpl (r2 (by omega)) (by omega) (by omega)) (by omega))
    simp only [later, cond_false]
    by_cases hz : n = 0
    · simp [hz]
    · have hz' : (n == 0) = false := by simpa using hz
      have good : PlanOk a0 (a1 ++ [⟨id, n, a3⟩]) a2 := (plan_add i0 hnew (by omega) (by omega) (by omega)).2 ⟨hpl, by omega, r2 (by omega)⟩
      simp only [hz', cond_false]
      rw [plan_eq a0 hp _ (by simp; omega), bind_some_of rfl, plan_ok.2 good]
      simp only [beq_self_eq_true, cond_true]
      by_cases hmax : n = 1099511627776
      · simp [hmax]
      · have hmax' : (n == 1099511627776) = false := by simpa using hmax
        simp only [hmax', cond_false]
        rw [room_eq a0 hp _ (by simp; omega), bind_some_of rfl]
        obtain ⟨t0, t1, t2, t3⟩ := room_fits good (due := a3) (by omega) (by omega) (by simp; omega)
        have : roomS a0 (a1 ++ [⟨id, n, a3⟩]) a2 a3 = 0 := by
          apply Classical.byContradiction
          intro hne
          have h1 := fits_down (t2 (by omega)) (y := 1) (by omega)
          have h2 := fits_add (by omega) h1 (by omega)
          rw [Int.add_comm] at h2
          exact r3 h2
        rw [this]
        rfl
  · have : ((planS a0 a1 a2).2.2 != 0) = true := by
      rcases notok hpl with ⟨h1, _⟩ | ⟨h1, _⟩ <;> rw [h1] <;> rfl
    rw [this, room_zero hpl]
    rfl
end Go.Proofs.Ytafgcjodefafoaa

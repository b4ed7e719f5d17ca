/-
  What a link gives at least (plain law of layer 28).
-/
import Derived.Test.YtafgcjodefafoaaP4
namespace Go.Proofs.Ytafgcjodefafoaa
open Go.RowKit
structure ChkOk (p : api_Profile) : Prop where
  rate : 1 ≤ p.Rate
  rateM : p.Rate ≤ 1073741824
  down : 0 ≤ p.Down
  downM : p.Down ≤ 1073741824
  win : p.Down ≠ 0 → p.Down < p.Window
  winM : p.Window ≤ 1073741824
  winN : 0 ≤ p.Window
theorem chk_ok {p : api_Profile} (h : chk p = 0) : ChkOk p := by
  unfold chk at h
  cases h1 : profB p
  · rw [h1] at h; cases h
  cases h2 : rngP p
  · rw [h1, h2] at h; cases h
  have h3 : (numsOf p).all (rangeB 0 1073741824) = true := by
    unfold profB at h1
    simp only [Bool.and_eq_true] at h1
    exact h1.1.1.1.1.1
  have g : ∀ x ∈ numsOf p, 0 ≤ x ∧ x ≤ 1073741824 := fun x hx => by
    have := List.all_eq_true.1 h3 x hx
    simpa [rangeB] using this
  have a1 := g p.Rate (by simp [numsOf])
  have a2 := g p.Down (by simp [numsOf])
  have a3 := g p.Window (by simp [numsOf])
  unfold rngP at h2
  simp only [Bool.and_eq_true, Bool.or_eq_true, decide_eq_true_eq, beq_iff_eq] at h2
  refine ⟨h2.1.1.1.2, a1.2, a2.1, a2.2, fun hd => ?_, a3.2, a3.1⟩
  rcases h2.1.1.2 with h | h
  · exact absurd h hd
  · exact h
/-- the steps with service that are left of t steps -/
def stepsS (p : api_Profile) (t : Int) : Int := if 0 < p.Down then t - (t / p.Window * p.Down + min (t % p.Window) p.Down) else t
def timesS (p : api_Profile) (s : Int) : Int × Int := bif decide (0 < s) && decide (4503599627370496 / s < p.Rate) then (0, 3) else (p.Rate * s, 0)
def leastS (p : api_Profile) (t : Int) : Int × Int := bif chk p == 0 && decide (0 ≤ t) && decide (t ≤ 1073741824) then timesS p (stepsS p t) else (0, 1)
theorem stepsS_range {p : api_Profile} (h : ChkOk p) {t : Int} (h0 : 0 ≤ t) : 0 ≤ stepsS p t ∧ stepsS p t ≤ t ∧ (0 < p.Down → 0 ≤ t / p.Window * p.Down ∧ t / p.Window * p.Down ≤ t ∧ t / p.Window * p.Down + min (t % p.Window) p.Down ≤ t ∧ 0 ≤ t % p.Window ∧ t % p.Window < p.Window ∧ 0 ≤ t / p.Window ∧ t / p.Window ≤ t) := by
  unfold stepsS
  by_cases hd : 0 < p.Down
  · have hw := h.win (by omega)
    have hwp : 0 < p.Window := by omega
    have q0 : 0 ≤ t / p.Window := Int.ediv_nonneg h0 (by omega)
    have r0 := Int.emod_nonneg t (show p.Window ≠ 0 by omega)
    have r1 := Int.emod_lt_of_pos t hwp
    have e := Int.mul_ediv_add_emod t p.Window
    have m1 : t / p.Window * p.Down ≤ t / p.Window * p.Window := Int.mul_le_mul_of_nonneg_left (by omega) q0
    have m0 : 0 ≤ t / p.Window * p.Down := Int.mul_nonneg q0 (by omega)
    have m2 : t / p.Window ≤ t := Int.ediv_le_self _ h0
    rw [Int.mul_comm p.Window] at e
    have hmin : min (t % p.Window) p.Down ≤ t % p.Window := Int.min_le_left _ _
    have hmin0 : 0 ≤ min (t % p.Window) p.Down := by
      rw [Int.min_def]; split <;> omega
    rw [if_pos hd]
    refine ⟨by omega, by omega, fun _ => ⟨m0, by omega, by omega, r0, r1, q0, m2⟩⟩
  · rw [if_neg hd]
    exact ⟨h0, Int.le_refl _, fun h => absurd h hd⟩
theorem times_eq (p : api_Profile) (h : ChkOk p) {s : Int} (h0 : 0 ≤ s) (h1 : s ≤ 1073741824) : supply_places p s = some (timesS p s) ∧ ref28_times p s = some (timesS p s) := by
  have hq : ∀ s : Int, 0 < s → IntKind.i64.wrap (Int.tdiv 4503599627370496 s) = 4503599627370496 / s := by
    intro s hs
    rw [Int.tdiv_eq_ediv_of_nonneg (by omega)]
    have a := Int.ediv_nonneg (a := 4503599627370496) (b := s) (by omega) (by omega)
    have b := Int.ediv_le_self (a := 4503599627370496) s (by omega)
    exact wrap64 (by omega) (by omega)
  have hm : IntKind.i64.wrap (p.Rate * s) = p.Rate * s := by
    have a : 0 ≤ p.Rate * s := Int.mul_nonneg (by have := h.rate; omega) h0
    have b : p.Rate * s ≤ 1073741824 * 1073741824 := Int.mul_le_mul h.rateM h1 h0 (by omega)
    exact wrap64 (by omega) (by omega)
  unfold supply_places ref28_times timesS
  rw [hm]
  by_cases hs : 0 < s
  · have hne : (s != 0) = true := by simp; omega
    simp only [hs, decide_true, cond_true, hne, chkO_true, hq s hs, Bool.true_and]
    cases decide (4503599627370496 / s < p.Rate) <;> exact ⟨rfl, rfl⟩
  · simp only [hs, decide_false, cond_false, Bool.false_and]
    exact ⟨trivial, trivial⟩
theorem ne_zero (n : Int) : (n != 0) = !(n == 0) := rfl
theorem supply_Least_eq (p : api_Profile) (hp : ProfOk p) (t : Int) : supply_Least p t = some (leastS p t) := by
  unfold supply_Least leastS
  rw [profile_Check_eq p hp, bind_some_of rfl, ne_zero]
  cases hc : chk p == 0
  · rfl
  · have hok := chk_ok (by simpa using hc)
    by_cases h0 : 0 ≤ t
    · by_cases h1 : t ≤ 1073741824
      · obtain ⟨s0, s1, s2⟩ := stepsS_range hok h0
        have n0 : ¬ t < 0 := by omega
        have n1 : ¬ (1073741824 < t) := by omega
        simp only [Bool.not_true, cond_false, n0, n1, decide_false, h0, h1, decide_true, Bool.and_self, Bool.true_and, cond_true]
        have ht := (times_eq p hok s0 (by omega)).1
        by_cases hd : 0 < p.Down
        · obtain ⟨m0, m1, m2, r0, r1, q0, q1⟩ := s2 hd
          have hwn : (p.Window != 0) = true := by simp; omega
          have e1 : IntKind.i64.wrap (Int.tdiv t p.Window) = t / p.Window := by
            rw [Int.tdiv_eq_ediv_of_nonneg h0]
            exact wrap64 (by omega) (by omega)
          have e2 : Int.tmod t p.Window = t % p.Window := Int.tmod_eq_emod_of_nonneg h0
          have e3 : (if p.Down < t % p.Window then p.Down else t % p.Window) = min (t % p.Window) p.Down := by
            rw [Int.min_def]; split <;> split <;> omega
          have hmin0 : 0 ≤ min (t % p.Window) p.Down := by
            rw [Int.min_def]; split <;> omega
          have hsteps : stepsS p t = t - (t / p.Window * p.Down + min (t % p.Window) p.Down) := by unfold stepsS; rw [if_pos hd]
          simp only [hd, decide_true, cond_true, hwn, chkO_true, e1, e2, e3]
          rw [wrap64 (n := t / p.Window * p.Down) (by omega) (by omega), wrap64 (n := t / p.Window * p.Down + min (t % p.Window) p.Down) (by omega) (by omega), wrap64 (by omega) (by omega), ← hsteps, ht]
          rfl
        · have hsteps : stepsS p t = t := by unfold stepsS; rw [if_neg hd]
          simp only [hd, decide_false, cond_false, Int.sub_zero]
          rw [wrap64 (n := t) (by omega) (by omega)]
          rw [hsteps] at ht ⊢
          rw [ht]
          rfl
      · have n0 : ¬ t < 0 := by omega
        have n1 : (1073741824 < t) := by omega
        simp [h0, h1, n0, n1]
    · have n0 : t < 0 := by omega
      simp [h0, n0]
theorem ref28_Least_eq (p : api_Profile) (hp : ProfOk p) (t : Int) : ref28_Least p t = some (leastS p t) := by
  unfold ref28_Least leastS
  rw [ref13_Check_eq p hp, bind_some_of rfl, ne_zero]
  cases hc : chk p == 0
  · rfl
  · have hok := chk_ok (by simpa using hc)
    by_cases h0 : 0 ≤ t
    · by_cases h1 : t ≤ 1073741824
      · obtain ⟨s0, s1, s2⟩ := stepsS_range hok h0
        have n0 : ¬ t < 0 := by omega
        have n1 : ¬ (1073741824 < t) := by omega
        simp only [Bool.not_true, cond_false, n0, n1, decide_false, h0, h1, decide_true, Bool.and_self, Bool.true_and, cond_true]
        have ht := (times_eq p hok s0 (by omega)).2
        by_cases hd : 0 < p.Down
        · obtain ⟨m0, m1, m2, r0, r1, q0, q1⟩ := s2 hd
          have hd0 : (p.Down == 0) = false := by simp; omega
          have hwn : (p.Window != 0) = true := by simp; omega
          have hww := hok.win (by omega)
          have e1 : IntKind.i64.wrap (Int.tdiv t p.Window) = t / p.Window := by
            rw [Int.tdiv_eq_ediv_of_nonneg h0]
            exact wrap64 (by omega) (by omega)
          have e2 : Int.tmod t p.Window = t % p.Window := Int.tmod_eq_emod_of_nonneg h0
          have hwM := hok.winM
          have e := Int.mul_ediv_add_emod t p.Window
          rw [Int.mul_comm p.Window] at e
          have e4 : t / p.Window * (p.Window - p.Down) = t / p.Window * p.Window - t / p.Window * p.Down := Int.mul_sub _ _ _
          have hsteps : stepsS p t = t - (t / p.Window * p.Down + min (t % p.Window) p.Down) := by unfold stepsS; rw [if_pos hd]
          have hmax : (if t % p.Window - p.Down < 0 then (0 : Int) else t % p.Window - p.Down) = t % p.Window - min (t % p.Window) p.Down := by
            rw [Int.min_def]; split <;> split <;> omega
          simp only [hd0, cond_false, hwn, chkO_true, e1, e2]
          rw [wrap64 (n := p.Window - p.Down) (by omega) (by omega), wrap64 (n := t % p.Window - p.Down) (by omega) (by omega), hmax, e4,
            wrap64 (n := t / p.Window * p.Window - t / p.Window * p.Down) (by omega) (by omega)]
          have e5 : t / p.Window * p.Window - t / p.Window * p.Down + (t % p.Window - min (t % p.Window) p.Down) = stepsS p t := by rw [hsteps]; omega
          rw [e5, wrap64 (n := stepsS p t) (by omega) (by omega), ht]
          rfl
        · have hd0 : (p.Down == 0) = true := by
            have := hok.down
            simp; omega
          have hsteps : stepsS p t = t := by unfold stepsS; rw [if_neg hd]
          simp only [hd0, cond_true]
          rw [hsteps] at ht ⊢
          rw [ht]
          rfl
      · have n0 : ¬ t < 0 := by omega
        have n1 : (1073741824 < t) := by omega
        simp [h0, h1, n0, n1]
    · have n0 : t < 0 := by omega
      simp [h0, n0]
/-- what a link gives until a step -/
def givesS (p : api_Profile) (now due : Int) : Int := bif decide (due < now) then 0 else bif (leastS p (due - now)).2 == 3 then 4503599627370496 else (leastS p (due - now)).1
theorem gives_eq (p : api_Profile) (hp : ProfOk p) (now due : Int) (h0 : 0 ≤ now) (h1 : now ≤ 1073741824) (h2 : 0 ≤ due) (h3 : due ≤ 1073741824) : admit_gives p now due = some (givesS p now due) ∧ ref29_gives p now due = some (givesS p now due) := by
  unfold admit_gives ref29_gives givesS
  rw [wrap64 (n := due - now) (by omega) (by omega), supply_Least_eq p hp, ref28_Least_eq p hp]
  cases decide (due < now)
  · simp only [cond_false, Option.bind_some]
    cases (leastS p (due - now)).2 == 3 <;> exact ⟨rfl, rfl⟩
  · exact ⟨rfl, rfl⟩
theorem stepsS_succ {p : api_Profile} (h : ChkOk p) {t : Int} (h0 : 0 ≤ t) : stepsS p t ≤ stepsS p (t + 1) ∧ stepsS p (t + 1) ≤ stepsS p t + 1 := by
  unfold stepsS
  by_cases hd : 0 < p.Down
  · have hw := h.win (by omega)
    have hwp : 0 < p.Window := by omega
    rw [if_pos hd, if_pos hd]
    have r0 := Int.emod_nonneg t (show p.Window ≠ 0 by omega)
    have r1 := Int.emod_lt_of_pos t hwp
    have e := Int.mul_ediv_add_emod t p.Window
    by_cases hl : t % p.Window + 1 < p.Window
    · have e1 : (t + 1) / p.Window = t / p.Window := by
        have : t + 1 = (t % p.Window + 1) + p.Window * (t / p.Window) := by omega
        rw [this, Int.add_mul_ediv_left _ _ (by omega), Int.ediv_eq_zero_of_lt (by omega) hl]
        omega
      have e2 : (t + 1) % p.Window = t % p.Window + 1 := by
        have : t + 1 = (t % p.Window + 1) + p.Window * (t / p.Window) := by omega
        rw [this, Int.add_mul_emod_self_left, Int.emod_eq_of_lt (by omega) hl]
      rw [e1, e2, Int.min_def, Int.min_def]
      split <;> split <;> omega
    · have hl : t % p.Window + 1 = p.Window := by omega
      have e1 : (t + 1) / p.Window = t / p.Window + 1 := by
        have : t + 1 = p.Window * (t / p.Window + 1) := by rw [Int.mul_add, Int.mul_one]; omega
        rw [this, Int.mul_ediv_cancel_left _ (by omega)]
      have e2 : (t + 1) % p.Window = 0 := by
        have : t + 1 = p.Window * (t / p.Window + 1) := by rw [Int.mul_add, Int.mul_one]; omega
        rw [this, Int.mul_emod_right]
      rw [e1, e2, Int.add_mul, Int.one_mul, Int.min_def, Int.min_def]
      split <;> split <;> omega
  · rw [if_neg hd, if_neg hd]
    omega
theorem stepsS_mono {p : api_Profile} (h : ChkOk p) {t : Int} (h0 : 0 ≤ t) : ∀ n : Nat, stepsS p t ≤ stepsS p (t + n)
  | 0 => by simp
  | n + 1 => by
    have := (stepsS_succ h (t := t + n) (by omega)).1
    have ih := stepsS_mono h h0 n
    have e : t + ((n + 1 : Nat) : Int) = t + n + 1 := by omega
    rw [e]
    omega
end Go.Proofs.Ytafgcjodefafoaa

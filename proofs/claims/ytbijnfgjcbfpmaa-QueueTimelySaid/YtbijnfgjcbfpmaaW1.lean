/-
  Outages that are allowed (plain law of layer 28), as the queue's theorem needs them.
-/
import Derived.Test.YtbijnfgjcbfpmaaVA
import Derived.Test.YtbijnfgjcbfpmaaH5
namespace Go.Proofs.Ytbijnfgjcbfpmaa
open Go.RowKit
def one (b : Bool) : Int := bif b then 0 else 1
def cntF : List Bool → Int
  | [] => 0
  | b :: r => one b + cntF r
def cntT : List Bool → Int
  | [] => 0
  | b :: r => (bif b then 1 else 0) + cntT r
theorem cntF_append : ∀ (a b : List Bool), cntF (a ++ b) = cntF a + cntF b
  | [], b => by simp [cntF]
  | x :: a, b => by simp only [List.cons_append, cntF, cntF_append a b]; omega
theorem cnt_sum : ∀ l : List Bool, cntT l + cntF l = l.length
  | [] => rfl
  | b :: l => by
    have := cnt_sum l
    simp only [cntT, cntF, one, List.length_cons]
    cases b <;> simp <;> omega
theorem cntF_range : ∀ l : List Bool, 0 ≤ cntF l ∧ cntF l ≤ l.length
  | [] => by simp [cntF]
  | b :: l => by
    have := cntF_range l
    simp only [cntF, one, List.length_cons]
    cases b <;> simp <;> omega
theorem cntT_append : ∀ (a b : List Bool), cntT (a ++ b) = cntT a + cntT b
  | [], b => by simp [cntT]
  | x :: a, b => by simp only [List.cons_append, cntT, cntT_append a b]; omega
/-- steps without service among the first ones -/
def offN (up : List Bool) (j : Nat) : Int := cntF (up.take j)
theorem off_succ {up : List Bool} {j : Nat} (h : j < up.length) : offN up (j + 1) = offN up j + one (up.getD j true) := by
  unfold offN
  rw [take_succ_getD up true h, cntF_append]
  simp [cntF]
theorem off_range (up : List Bool) (j : Nat) : 0 ≤ offN up j ∧ offN up j ≤ up.length ∧ offN up j ≤ j := by
  have := cntF_range (up.take j)
  unfold offN
  rw [List.length_take] at this
  omega
/-- steps without service in the last window -/
def winN (p : api_Profile) (up : List Bool) (j : Nat) : Int := if 0 < p.Down then offN up j - offN up (j - p.Window.toNat) else offN up j
def allowB (p : api_Profile) (up : List Bool) : Bool := (List.range up.length).all fun i => decide (winN p up (i + 1) ≤ p.Down)
theorem win_range (p : api_Profile) (up : List Bool) (j : Nat) : -(up.length : Int) ≤ winN p up j ∧ winN p up j ≤ up.length := by
  have h1 := off_range up j
  have h2 := off_range up (j - p.Window.toNat)
  unfold winN
  split <;> omega
theorem allowed_step {p : api_Profile} (h : ChkOk p) {up : List Bool} (hl : up.length ≤ 1000000) {i : Nat} (hi : i < up.length) :
    supply_Allowed_L1 up p (winN p up i, (i : Int)) = bif decide (winN p up (i + 1) ≤ p.Down) then some (.inl (winN p up (i + 1), (i : Int) + 1)) else some (.inr (.inr false)) := by
  have hw : IntKind.i64.wrap ((i : Int) + 1) = (i : Int) + 1 := wrap64 (by omega) (by omega)
  have hlt : ((i : Int) < (up.length : Int)) := by omega
  have wr := win_range p up i
  have hs := off_succ hi
  unfold supply_Allowed_L1
  simp only [hlt, decide_true, cond_true, hw]
  rw [bind_some_of (getI_in true hi)]
  by_cases hd : 0 < p.Down
  · have hwin := h.win (by omega)
    have hwM := h.winM
    by_cases hwi : p.Window ≤ (i : Int)
    · have hsub : IntKind.i64.wrap ((i : Int) - p.Window) = ((i - p.Window.toNat : Nat) : Int) := by
        rw [wrap64 (by omega) (by omega)]
        omega
      have hk : i - p.Window.toNat < up.length := by omega
      have hs2 := off_succ hk
      have e1 : i + 1 - p.Window.toNat = i - p.Window.toNat + 1 := by omega
      have hwin' : winN p up (i + 1) = winN p up i + one (up.getD i true) - one (up.getD (i - p.Window.toNat) true) := by
        unfold winN
        rw [if_pos hd, if_pos hd, e1]
        omega
      rw [hsub]
      simp only [hd, hwi, decide_true, cond_true]
      rw [bind_some_of (getI_in true hk)]
      generalize winN p up (i + 1) = e at *
      generalize winN p up i = d at *
      cases hu : up.getD i true <;> cases hv : up.getD (i - p.Window.toNat) true <;> rw [hu, hv] at hwin'
      · have he : e = d + 1 - 1 := hwin'
        subst he
        simp only [Bool.not_false, cond_true]
        rw [wrap64 (n := d + 1) (by omega) (by omega), wrap64 (n := d + 1 - 1) (by omega) (by omega), gt_not p.Down]
        cases decide (d + 1 - 1 ≤ p.Down) <;> rfl
      · have he : e = d + 1 := by rw [hwin']; simp only [one, cond_true, cond_false]; omega
        subst he
        simp only [Bool.not_false, Bool.not_true, cond_true, cond_false]
        rw [wrap64 (n := d + 1) (by omega) (by omega), gt_not p.Down]
        cases decide (d + 1 ≤ p.Down) <;> rfl
      · have he : e = d - 1 := by rw [hwin']; simp only [one, cond_true, cond_false]; omega
        subst he
        simp only [Bool.not_false, Bool.not_true, cond_true, cond_false]
        rw [bind_some_of (getI_in true hk), hv, wrap64 (n := d - 1) (by omega) (by omega), gt_not p.Down]
        cases decide (d - 1 ≤ p.Down) <;> rfl
      · have he : e = d := by rw [hwin']; simp only [one, cond_true]; omega
        subst he
        simp only [Bool.not_true, cond_false]
        rw [bind_some_of (getI_in true hk), hv]
        simp only [Bool.not_true, cond_false]
        rw [gt_not p.Down]
        cases decide (e ≤ p.Down) <;> rfl
    · have e0 : i - p.Window.toNat = 0 := by omega
      have e1 : i + 1 - p.Window.toNat = 0 := by omega
      have hwin' : winN p up (i + 1) = winN p up i + one (up.getD i true) := by
        unfold winN
        rw [if_pos hd, if_pos hd, e0, e1]
        omega
      simp only [hd, hwi, decide_true, decide_false, cond_true, cond_false]
      generalize winN p up (i + 1) = e at *
      generalize winN p up i = d at *
      cases hu : up.getD i true <;> rw [hu] at hwin'
      · have he : e = d + 1 := hwin'
        subst he
        simp only [Bool.not_false, cond_true]
        rw [wrap64 (n := d + 1) (by omega) (by omega), gt_not p.Down]
        cases decide (d + 1 ≤ p.Down) <;> rfl
      · have he : e = d := by rw [hwin']; simp only [one, cond_true]; omega
        subst he
        simp only [Bool.not_true, cond_false]
        rw [gt_not p.Down]
        cases decide (e ≤ p.Down) <;> rfl
  · have hwin' : winN p up (i + 1) = winN p up i + one (up.getD i true) := by
      unfold winN
      rw [if_neg hd, if_neg hd]
      omega
    simp only [hd, decide_false, cond_false]
    generalize winN p up (i + 1) = e at *
    generalize winN p up i = d at *
    cases hu : up.getD i true <;> rw [hu] at hwin'
    · have he : e = d + 1 := hwin'
      subst he
      simp only [Bool.not_false, cond_true]
      rw [wrap64 (n := d + 1) (by omega) (by omega), gt_not p.Down]
      cases decide (d + 1 ≤ p.Down) <;> rfl
    · have he : e = d := by rw [hwin']; simp only [one, cond_true]; omega
      subst he
      simp only [Bool.not_true, cond_false]
      rw [gt_not p.Down]
      cases decide (e ≤ p.Down) <;> rfl
theorem Allowed_eq (p : api_Profile) (hp : ProfOk p) (h0 : chk p = 0) (up : List Bool) (hl : up.length ≤ 1000000) : supply_Allowed p up = some (allowB p up) := by
  have hok := chk_ok h0
  have hz : winN p up 0 = 0 := by
    unfold winN offN
    simp [cntF]
  have := loopF_inv (body := supply_Allowed_L1 up p) up.length (fun i s => s = (winN p up i, (i : Int)) ∧ ∀ k, k < i → decide (winN p up (k + 1) ≤ p.Down) = true) (fun r => r = some (bif allowB p up then (.inl () : Unit ⊕ Bool) else .inr false))
    (fun i s hi hs => by
      obtain ⟨rfl, hk⟩ := hs
      rw [allowed_step hok hl hi]
      cases hd : decide (winN p up (i + 1) ≤ p.Down)
      · right
        refine ⟨_, rfl, ?_⟩
        have : allowB p up = false := all_false hi hd
        rw [this]
        rfl
      · left
        refine ⟨_, rfl, by simp only [Prod.mk.injEq]; exact ⟨trivial, by omega⟩, fun k hk' => ?_⟩
        by_cases hki : k < i
        · exact hk k hki
        · have : k = i := by omega
          subst this
          exact hd)
    (fun s hs => by
      obtain ⟨rfl, hk⟩ := hs
      refine ⟨.inl (), ?_, ?_⟩
      · unfold supply_Allowed_L1
        simp only [Int.lt_irrefl, decide_false, cond_false]
      · have : allowB p up = true := List.all_eq_true.2 fun k hk' => hk k (List.mem_range.1 hk')
        rw [this]
        rfl)
    (s0 := (0, 0)) ⟨by rw [hz]; rfl, fun k hk => by omega⟩
  unfold supply_Allowed
  rw [profile_Check_eq p hp, bind_some_of rfl, h0, this]
  cases allowB p up <;> rfl
/-- steps without service under an allowed outage -/
theorem off_bound {p : api_Profile} (h : ChkOk p) {up : List Bool} {t : Nat} (ht : t ≤ up.length) (ha : ∀ j, j < t → winN p up (j + 1) ≤ p.Down) : offN up t ≤ (t : Int) - stepsS p (t : Int) := by
  have h0 : offN up 0 = 0 := by simp [offN, cntF]
  by_cases hd : 0 < p.Down
  · have hwin := h.win (by omega)
    have hW : (p.Window.toNat : Int) = p.Window := by omega
    have key : ∀ q r : Nat, q * p.Window.toNat + r ≤ t → r < p.Window.toNat → offN up (q * p.Window.toNat + r) ≤ (q : Int) * p.Down + min (r : Int) p.Down := by
      intro q
      induction q with
      | zero =>
        intro r hr hrw
        rw [Nat.zero_mul, Nat.zero_add] at hr ⊢
        have h1 := (off_range up r).2.2
        have h2 : offN up r ≤ p.Down := by
          cases r with
          | zero => rw [h0]; omega
          | succ r =>
            have := ha r (by omega)
            unfold winN at this
            rw [if_pos hd, show r + 1 - p.Window.toNat = 0 by omega, h0] at this
            omega
        rw [Int.min_def]
        split <;> simp <;> omega
      | succ q ih =>
        intro r hr hrw
        have e : (q + 1) * p.Window.toNat + r = q * p.Window.toNat + r + p.Window.toNat := by rw [Nat.add_mul]; omega
        rw [e] at hr ⊢
        have ih := ih r (by omega) hrw
        have hpos : 0 < p.Window.toNat := by omega
        obtain ⟨j, hj⟩ : ∃ j, q * p.Window.toNat + r + p.Window.toNat = j + 1 := ⟨q * p.Window.toNat + r + p.Window.toNat - 1, by omega⟩
        have := ha j (by omega)
        unfold winN at this
        rw [if_pos hd, ← hj, Nat.add_sub_cancel] at this
        have e2 : ((q + 1 : Nat) : Int) * p.Down = (q : Int) * p.Down + p.Down := by
          rw [show ((q + 1 : Nat) : Int) = (q : Int) + 1 by omega, Int.add_mul, Int.one_mul]
        rw [e2]
        omega
    have hq := key (t / p.Window.toNat) (t % p.Window.toNat) (by rw [Nat.div_add_mod']; exact Nat.le_refl _) (Nat.mod_lt _ (by omega))
    rw [Nat.div_add_mod'] at hq
    have e1 : ((t / p.Window.toNat : Nat) : Int) = (t : Int) / p.Window := by rw [Int.natCast_ediv, hW]
    have e2 : ((t % p.Window.toNat : Nat) : Int) = (t : Int) % p.Window := by rw [Int.natCast_emod, hW]
    rw [e1, e2] at hq
    unfold stepsS
    rw [if_pos hd]
    omega
  · have hs : stepsS p (t : Int) = (t : Int) := by unfold stepsS; rw [if_neg hd]
    rw [hs]
    cases t with
    | zero => rw [h0]; simp
    | succ t =>
      have := ha t (by omega)
      unfold winN at this
      rw [if_neg hd] at this
      have := h.down
      omega
theorem times_small {p : api_Profile} (h : ChkOk p) {s : Int} (_h0 : 0 ≤ s) (h1 : s ≤ 60) : timesS p s = (p.Rate * s, 0) := by
  unfold timesS
  by_cases hs : 0 < s
  · have h2 : (4503599627370496 : Int) / 60 ≤ 4503599627370496 / s := div_anti (by omega) hs h1
    have h3 : (4503599627370496 : Int) / 60 = 75059993789508 := by decide
    have := h.rateM
    have hr : ¬ 4503599627370496 / s < p.Rate := by omega
    simp [hr]
  · simp [hs]
theorem gives_small {p : api_Profile} (h0 : chk p = 0) {now due : Int} (t0 : 0 ≤ due - now) (t1 : due - now ≤ 60) : givesS p now due = p.Rate * stepsS p (due - now) := by
  have hok := chk_ok h0
  obtain ⟨s0, s1, _⟩ := stepsS_range hok t0
  have h1 : ¬ due < now := by omega
  have h2 : due - now ≤ 1073741824 := by omega
  unfold givesS leastS
  simp only [h1, decide_false, cond_false, h0, t0, h2, decide_true, Bool.and_self, beq_self_eq_true, cond_true]
  rw [times_small hok s0 (by omega)]
  rfl
/-- steps without service, from a step on -/
theorem off_drop (U : List Bool) (n j : Nat) : offN (U.drop n) j = offN U (n + j) - offN U n := by
  unfold offN
  have h : U.take (n + j) = U.take n ++ (U.drop n).take j := by rw [List.take_add]
  rw [h, cntF_append]
  omega
theorem off_mono (U : List Bool) {a b : Nat} (h : a ≤ b) : offN U a ≤ offN U b := by
  obtain ⟨k, rfl⟩ := Nat.exists_eq_add_of_le h
  have := (off_range (U.drop a) k).1
  rw [off_drop] at this
  omega
theorem win_drop {p : api_Profile} {U : List Bool} (h : allowB p U = true) (n j : Nat) (hj : n + j < U.length) : winN p (U.drop n) (j + 1) ≤ p.Down := by
  have h1 := List.all_eq_true.1 h (n + j) (List.mem_range.2 hj)
  have h1 := of_decide_eq_true h1
  unfold winN at h1 ⊢
  rw [off_drop]
  split
  · rename_i hd
    rw [if_pos hd] at h1
    have := off_mono U (a := n + j + 1 - p.Window.toNat) (b := n + (j + 1 - p.Window.toNat)) (by omega)
    rw [off_drop, ← Nat.add_assoc]
    omega
  · rename_i hd
    rw [if_neg hd] at h1
    have := (off_range U n).1
    rw [← Nat.add_assoc]
    omega
/-- what a link gives between two steps is at least what is promised -/
theorem seg_least {p : api_Profile} (h0 : chk p = 0) {U : List Bool} (ha : allowB p U = true) {n d : Nat} (hn : n ≤ d) (hd : d ≤ U.length) (hl : U.length ≤ 60) : givesS p (n : Int) (d : Int) ≤ p.Rate * cntT ((U.take d).drop n) := by
  have hok := chk_ok h0
  rw [gives_small h0 (by omega) (by omega)]
  have e : (U.take d).drop n = (U.drop n).take (d - n) := by rw [List.drop_take]
  rw [e]
  have hb := off_bound hok (up := U.drop n) (t := d - n) (by rw [List.length_drop]; omega) fun j hj => win_drop ha n j (by omega)
  unfold offN at hb
  have hs := cnt_sum ((U.drop n).take (d - n))
  rw [List.length_take, List.length_drop, Nat.min_eq_left (by omega)] at hs
  have ec : ((d - n : Nat) : Int) = (d : Int) - (n : Int) := by omega
  rw [ec] at hb hs
  have hr := hok.rate
  exact Int.mul_le_mul_of_nonneg_left (by omega) (by omega)
end Go.Proofs.Ytbijnfgjcbfpmaa

/-
  Outages: which are allowed, what a link gives under them, and the worst one (plain law of layer 28).
-/
import Derived.Test.YtafgcjodefafoaaP10
namespace Go.Proofs.Ytafgcjodefafoaa
open Go.RowKit
def one (b : Bool) : Int := bif b then 0 else 1
def cntF : List Bool → Int
  | [] => 0
  | b :: r => one b + cntF r
def cntT : List Bool → Int
  | [] => 0
  | b :: r => (bif b then 1 else 0) + cntT r
theorem cntF_append : ∀ (a b : List Bool), cntF (a ++ b) = cntF a + cntF b
  | [], b => by simp [cntF]
  | x :: a, b => by simp only [List.cons_append, cntF, cntF_append a b]; omega
theorem cnt_sum : ∀ l : List Bool, cntT l + cntF l = l.length
  | [] => rfl
  | b :: l => by
    have := cnt_sum l
    simp only [cntT, cntF, one, List.length_cons]
    cases b <;> simp <;> omega
theorem cntF_range : ∀ l : List Bool, 0 ≤ cntF l ∧ cntF l ≤ l.length
  | [] => by simp [cntF]
  | b :: l => by
    have := cntF_range l
    simp only [cntF, one, List.length_cons]
    cases b <;> simp <;> omega
theorem cntT_append : ∀ (a b : List Bool), cntT (a ++ b) = cntT a + cntT b
  | [], b => by simp [cntT]
  | x :: a, b => by simp only [List.cons_append, cntT, cntT_append a b]; omega
/-- steps without service among the first ones -/
def offN (up : List Bool) (j : Nat) : Int := cntF (up.take j)
theorem off_succ {up : List Bool} {j : Nat} (h : j < up.length) : offN up (j + 1) = offN up j + one (up.getD j true) := by
  unfold offN
  rw [take_succ_getD up true h, cntF_append]
  simp [cntF]
theorem off_range (up : List Bool) (j : Nat) : 0 ≤ offN up j ∧ offN up j ≤ up.length ∧ offN up j ≤ j := by
  have := cntF_range (up.take j)
  unfold offN
  rw [List.length_take] at this
  omega
/-- steps without service in the last window -/
def winN (p : api_Profile) (up : List Bool) (j : Nat) : Int := if 0 < p.Down then offN up j - offN up (j - p.Window.toNat) else offN up j
def allowB (p : api_Profile) (up : List Bool) : Bool := (List.range up.length).all fun i => decide (winN p up (i + 1) ≤ p.Down)
theorem win_range (p : api_Profile) (up : List Bool) (j : Nat) : -(up.length : Int) ≤ winN p up j ∧ winN p up j ≤ up.length := by
  have h1 := off_range up j
  have h2 := off_range up (j - p.Window.toNat)
  unfold winN
  split <;> omega
theorem allowed_step {p : api_Profile} (h : ChkOk p) {up : List Bool} (hl : up.length ≤ 1000000) {i : Nat} (hi : i < up.length) :
    supply_Allowed_L1 up p (winN p up i, (i : Int)) = bif decide (winN p up (i + 1) ≤ p.Down) then some (.inl (winN p up (i + 1), (i : Int) + 1)) else some (.inr (.inr false)) := by
  have hw : IntKind.i64.wrap ((i : Int) + 1) = (i : Int) + 1 := wrap64 (by omega) (by omega)
  have hlt : ((i : Int) < (up.length : Int)) := by omega
  have wr := win_range p up i
  have hs := off_succ hi
  unfold supply_Allowed_L1
  simp only [hlt, decide_true, cond_true, hw]
  rw [bind_some_of (getI_in true hi)]
  by_cases hd : 0 < p.Down
  · have hwin := h.win (by omega)
    have hwM := h.winM
    by_cases hwi : p.Window ≤ (i : Int)
    · have hsub : IntKind.i64.wrap ((i : Int) - p.Window) = ((i - p.Window.toNat : Nat) : Int) := by
        rw [wrap64 (by omega) (by omega)]
        omega
      have hk : i - p.Window.toNat < up.length := by omega
      have hs2 := off_succ hk
      have e1 : i + 1 - p.Window.toNat = i - p.Window.toNat + 1 := by omega
      have hwin' : winN p up (i + 1) = winN p up i + one (up.getD i true) - one (up.getD (i - p.Window.toNat) true) := by
        unfold winN
        rw [if_pos hd, if_pos hd, e1]
        omega
      rw [hsub]
      simp only [hd, hwi, decide_true, cond_true]
      rw [bind_some_of (getI_in true hk)]
      generalize winN p up (i + 1) = e at *
      generalize winN p up i = d at *
      cases hu : up.getD i true <;> cases hv : up.getD (i - p.Window.toNat) true <;> rw [hu, hv] at hwin'
      · have he : e = d + 1 - 1 := hwin'
        subst he
        simp only [Bool.not_false, cond_true]
        rw [wrap64 (n := d + 1) (by omega) (by omega), wrap64 (n := d + 1 - 1) (by omega) (by omega), gt_not p.Down]
        cases decide (d + 1 - 1 ≤ p.Down) <;> rfl
      · have he : e = d + 1 := by rw [hwin']; simp only [one, cond_true, cond_false]; omega
        subst he
        simp only [Bool.not_false, Bool.not_true, cond_true, cond_false]
        rw [wrap64 (n := d + 1) (by omega) (by omega), gt_not p.Down]
        cases decide (d + 1 ≤ p.Down) <;> rfl
      · have he : e = d - 1 := by rw [hwin']; simp only [one, cond_true, cond_false]; omega
        subst he
        simp only [Bool.not_false, Bool.not_true, cond_true, cond_false]
        rw [bind_some_of (getI_in true hk), hv, wrap64 (n := d - 1) (by omega) (by omega), gt_not p.Down]
        cases decide (d - 1 ≤ p.Down) <;> rfl
      · have he : e = d := by rw [hwin']; simp only [one, cond_true, cond_false]; omega
        subst he
        simp only [Bool.not_true, cond_false]
        rw [bind_some_of (getI_in true hk), hv]
        simp only [Bool.not_true, cond_false]
        rw [gt_not p.Down]
        cases decide (e ≤ p.Down) <;> rfl
    · have e0 : i - p.Window.toNat = 0 := by omega
      have e1 : i + 1 - p.Window.toNat = 0 := by omega
      have hwin' : winN p up (i + 1) = winN p up i + one (up.getD i true) := by
        unfold winN
        rw [if_pos hd, if_pos hd, e0, e1]
        omega
      simp only [hd, hwi, decide_true, decide_false, cond_true, cond_false]
      generalize winN p up (i + 1) = e at *
      generalize winN p up i = d at *
      cases hu : up.getD i true <;> rw [hu] at hwin'
      · have he : e = d + 1 := hwin'
        subst he
        simp only [Bool.not_false, cond_true]
        rw [wrap64 (n := d + 1) (by omega) (by omega), gt_not p.Down]
        cases decide (d + 1 ≤ p.Down) <;> rfl
      · have he : e = d := by rw [hwin']; simp only [one, cond_true]; omega
        subst he
        simp only [Bool.not_true, cond_false]
        rw [gt_not p.Down]
        cases decide (e ≤ p.Down) <;> rfl
  · have hwin' : winN p up (i + 1) = winN p up i + one (up.getD i true) := by
      unfold winN
      rw [if_neg hd, if_neg hd]
      omega
    simp only [hd, decide_false, cond_false]
    generalize winN p up (i + 1) = e at *
    generalize winN p up i = d at *
    cases hu : up.getD i true <;> rw [hu] at hwin'
    · have he : e = d + 1 := hwin'
      subst he
      simp only [Bool.not_false, cond_true]
      rw [wrap64 (n := d + 1) (by omega) (by omega), gt_not p.Down]
      cases decide (d + 1 ≤ p.Down) <;> rfl
    · have he : e = d := by rw [hwin']; simp only [one, cond_true]; omega
      subst he
      simp only [Bool.not_true, cond_false]
      rw [gt_not p.Down]
      cases decide (e ≤ p.Down) <;> rfl
theorem Allowed_eq (p : api_Profile) (hp : ProfOk p) (h0 : chk p = 0) (up : List Bool) (hl : up.length ≤ 1000000) : supply_Allowed p up = some (allowB p up) := by
  have hok := chk_ok h0
  have hz : winN p up 0 = 0 := by
    unfold winN offN
    simp [cntF]
  have := loopF_inv (body := supply_Allowed_L1 up p) up.length (fun i s => s = (winN p up i, (i : Int)) ∧ ∀ k, k < i → decide (winN p up (k + 1) ≤ p.Down) = true) (fun r => r = some (bif allowB p up then (.inl () : Unit ⊕ Bool) else .inr false))
    (fun i s hi hs => by
      obtain ⟨rfl, hk⟩ := hs
      rw [allowed_step hok hl hi]
      cases hd : decide (winN p up (i + 1) ≤ p.Down)
      · right
        refine ⟨_, rfl, ?_⟩
        have : allowB p up = false := all_false hi hd
        rw [this]
        rfl
      · left
        refine ⟨_, rfl, by simp only [Prod.mk.injEq]; exact ⟨trivial, by omega⟩, fun k hk' => ?_⟩
        by_cases hki : k < i
        · exact hk k hki
        · have : k = i := by omega
          subst this
          exact hd)
    (fun s hs => by
      obtain ⟨rfl, hk⟩ := hs
      refine ⟨.inl (), ?_, ?_⟩
      · unfold supply_Allowed_L1
        simp only [Int.lt_irrefl, decide_false, cond_false]
      · have : allowB p up = true := List.all_eq_true.2 fun k hk' => hk k (List.mem_range.1 hk')
        rw [this]
        rfl)
    (s0 := (0, 0)) ⟨by rw [hz]; rfl, fun k hk => by omega⟩
  unfold supply_Allowed
  rw [profile_Check_eq p hp, bind_some_of rfl, h0, this]
  cases allowB p up <;> rfl
theorem Given_eq (p : api_Profile) (hp : ProfOk p) (h0 : chk p = 0) (up : List Bool) (hl : up.length ≤ 1000000) : supply_Given p up = some (timesS p (cntT up)) := by
  have hok := chk_ok h0
  have := loopF_inv (body := supply_Given_L1 up) up.length (fun i s => s = (cntT (up.take i), (i : Int))) (fun r => r = some (.inl (cntT up)))
    (fun i s hi hs => by
      left
      subst hs
      have hw : IntKind.i64.wrap ((i : Int) + 1) = (i : Int) + 1 := wrap64 (by omega) (by omega)
      have hlt : ((i : Int) < (up.length : Int)) := by omega
      have e := cnt_sum (up.take i)
      have e2 := cntF_range (up.take i)
      rw [List.length_take] at e e2
      refine ⟨(cntT (up.take (i + 1)), (i : Int) + 1), ?_, by simp only [Prod.mk.injEq]; exact ⟨trivial, by omega⟩⟩
      rw [take_succ_getD up true hi, cntT_append]
      unfold supply_Given_L1
      simp only [hlt, decide_true, cond_true, hw]
      rw [bind_some_of (getI_in true hi)]
      cases up.getD i true
      · simp [cntT]
      · simp only [cond_true]
        rw [wrap64 (n := cntT (up.take i) + 1) (by omega) (by omega)]
        rfl)
    (fun s hs => by
      subst hs
      refine ⟨.inl (cntT up), ?_, rfl⟩
      unfold supply_Given_L1
      simp only [Int.lt_irrefl, decide_false, cond_false, List.take_length])
    (s0 := (0, 0)) rfl
  have e := cnt_sum up
  have e2 := cntF_range up
  unfold supply_Given
  rw [profile_Check_eq p hp, bind_some_of rfl, h0, this]
  simp only [bne_self_eq_false, cond_false, seqF]
  rw [(times_eq p hok (s := cntT up) (by omega) (by omega)).1]
  rfl
def worstL (p : api_Profile) (t : Nat) : List Bool := (List.range t).map fun (i : Nat) => p.Down == 0 || decide (p.Down ≤ (i : Int) % p.Window)
theorem Worst_eq (p : api_Profile) (hp : ProfOk p) (h0 : chk p = 0) (t : Nat) (ht : t ≤ 50000) : supply_Worst p (t : Int) = some (worstL p t) := by
  have hok := chk_ok h0
  have := loopF_inv (body := supply_Worst_L1 (t : Int) p) t (fun i s => s = ((i : Int), worstL p i)) (fun r => r = some (.inl (worstL p t)))
    (fun i s hi hs => by
      left
      subst hs
      have hw : IntKind.i64.wrap ((i : Int) + 1) = (i : Int) + 1 := wrap64 (by omega) (by omega)
      have hlt : ((i : Int) < (t : Int)) := by omega
      have hlen : (worstL p i).length = i := by simp [worstL]
      have e : worstL p (i + 1) = worstL p i ++ [p.Down == 0 || decide (p.Down ≤ (i : Int) % p.Window)] := by
        unfold worstL
        rw [List.range_succ, List.map_append]
        rfl
      have c : ∀ b : Bool, decide ((worstL p i).length + [b].length ≤ 1000000) = true := fun b => by simp [hlen]; omega
      refine ⟨((i : Int) + 1, worstL p (i + 1)), ?_, by simp only [Prod.mk.injEq]; exact ⟨by omega, trivial⟩⟩
      rw [e]
      unfold supply_Worst_L1
      simp only [hlt, decide_true, cond_true, hw, c, chkO_true]
      cases hd : (p.Down == 0)
      · have hwn : (p.Window != 0) = true := by
          have := hok.win (by simpa using hd)
          have := hok.down
          simp
          omega
        simp only [cond_false, hwn, chkO_true, Bool.false_or]
        rw [Int.tmod_eq_emod_of_nonneg (by omega)]
      · rfl)
    (fun s hs => by
      subst hs
      refine ⟨.inl (worstL p t), ?_, rfl⟩
      unfold supply_Worst_L1
      simp only [Int.lt_irrefl, decide_false, cond_false])
    (s0 := (0, [])) rfl
  have n1 : ¬ ((t : Int) < 0) := by omega
  have n2 : ¬ ((50000 : Int) < (t : Int)) := by omega
  unfold supply_Worst
  rw [profile_Check_eq p hp, bind_some_of rfl, h0]
  simp only [bne_self_eq_false, cond_false, n1, n2, decide_false]
  rw [this]
  rfl
/-- steps without service under an allowed outage -/
theorem off_bound {p : api_Profile} (h : ChkOk p) {up : List Bool} {t : Nat} (ht : t ≤ up.length) (ha : ∀ j, j < t → winN p up (j + 1) ≤ p.Down) : offN up t ≤ (t : Int) - stepsS p (t : Int) := by
  have h0 : offN up 0 = 0 := by simp [offN, cntF]
  by_cases hd : 0 < p.Down
  · have hwin := h.win (by omega)
    have hW : (p.Window.toNat : Int) = p.Window := by omega
    have key : ∀ q r : Nat, q * p.Window.toNat + r ≤ t → r < p.Window.toNat → offN up (q * p.Window.toNat + r) ≤ (q : Int) * p.Down + min (r : Int) p.Down := by
      intro q
      induction q with
      | zero =>
        intro r hr hrw
        rw [Nat.zero_mul, Nat.zero_add] at hr ⊢
        have h1 := (off_range up r).2.2
        have h2 : offN up r ≤ p.Down := by
          cases r with
          | zero => rw [h0]; omega
          | succ r =>
            have := ha r (by omega)
            unfold winN at this
            rw [if_pos hd, show r + 1 - p.Window.toNat = 0 by omega, h0] at this
            omega
        rw [Int.min_def]
        split <;> simp <;> omega
      | succ q ih =>
        intro r hr hrw
        have e : (q + 1) * p.Window.toNat + r = q * p.Window.toNat + r + p.Window.toNat := by rw [Nat.add_mul]; omega
        rw [e] at hr ⊢
        have ih := ih r (by omega) hrw
        have hpos : 0 < p.Window.toNat := by omega
        obtain ⟨j, hj⟩ : ∃ j, q * p.Window.toNat + r + p.Window.toNat = j + 1 := ⟨q * p.Window.toNat + r + p.Window.toNat - 1, by omega⟩
        have := ha j (by omega)
        unfold winN at this
        rw [if_pos hd, ← hj, Nat.add_sub_cancel] at this
        have e2 : ((q + 1 : Nat) : Int) * p.Down = (q : Int) * p.Down + p.Down := by
          rw [show ((q + 1 : Nat) : Int) = (q : Int) + 1 by omega, Int.add_mul, Int.one_mul]
        rw [e2]
        omega
    have hq := key (t / p.Window.toNat) (t % p.Window.toNat) (by rw [Nat.div_add_mod']; exact Nat.le_refl _) (Nat.mod_lt _ (by omega))
    rw [Nat.div_add_mod'] at hq
    have e1 : ((t / p.Window.toNat : Nat) : Int) = (t : Int) / p.Window := by rw [Int.natCast_ediv, hW]
    have e2 : ((t % p.Window.toNat : Nat) : Int) = (t : Int) % p.Window := by rw [Int.natCast_emod, hW]
    rw [e1, e2] at hq
    unfold stepsS
    rw [if_pos hd]
    omega
  · have hs : stepsS p (t : Int) = (t : Int) := by unfold stepsS; rw [if_neg hd]
    rw [hs]
    cases t with
    | zero => rw [h0]; simp
    | succ t =>
      have := ha t (by omega)
      unfold winN at this
      rw [if_neg hd] at this
      have := h.down
      omega
/-- the worst outage -/
theorem off_worst {p : api_Profile} (h : ChkOk p) (t : Nat) : ∀ j, j ≤ t → offN (worstL p t) j = (j : Int) - stepsS p (j : Int)
  | 0, _ => by
    have : stepsS p 0 = 0 := by
      have := stepsS_range h (t := 0) (Int.le_refl _)
      omega
    simp [offN, cntF, this]
  | j + 1, hj => by
    have ih := off_worst h t j (by omega)
    have hlen : (worstL p t).length = t := by simp [worstL]
    rw [off_succ (by omega), ih]
    have hg : (worstL p t).getD j true = (p.Down == 0 || decide (p.Down ≤ (j : Int) % p.Window)) := by
      unfold worstL
      rw [List.getD_eq_getElem?_getD, List.getElem?_map, List.getElem?_range (by omega)]
      rfl
    rw [hg]
    have ej : ((j + 1 : Nat) : Int) = (j : Int) + 1 := by omega
    rw [ej]
    by_cases hd : 0 < p.Down
    · have hw := h.win (by omega)
      have hwp : 0 < p.Window := by omega
      have hd0 : (p.Down == 0) = false := by simp; omega
      have r0 := Int.emod_nonneg (j : Int) (show p.Window ≠ 0 by omega)
      have r1 := Int.emod_lt_of_pos (j : Int) hwp
      have e := Int.mul_ediv_add_emod (j : Int) p.Window
      unfold stepsS one
      rw [if_pos hd, if_pos hd, hd0, Bool.false_or]
      have hone : ∀ c : Bool, (c = true ↔ p.Down ≤ (j : Int) % p.Window) → (bif c then (0 : Int) else 1) = if p.Down ≤ (j : Int) % p.Window then 0 else 1 := by
        intro c hc
        by_cases h1 : p.Down ≤ (j : Int) % p.Window
        · rw [hc.2 h1, if_pos h1]; rfl
        · rw [if_neg h1, Bool.eq_false_iff.2 fun e => h1 (hc.1 e)]; rfl
      rw [hone _ (by rw [decide_eq_true_eq])]
      by_cases hl : (j : Int) % p.Window + 1 < p.Window
      · have e1 : ((j : Int) + 1) / p.Window = (j : Int) / p.Window := by
          have : (j : Int) + 1 = ((j : Int) % p.Window + 1) + p.Window * ((j : Int) / p.Window) := by omega
          rw [this, Int.add_mul_ediv_left _ _ (by omega), Int.ediv_eq_zero_of_lt (by omega) hl]
          omega
        have e2 : ((j : Int) + 1) % p.Window = (j : Int) % p.Window + 1 := by
          have : (j : Int) + 1 = ((j : Int) % p.Window + 1) + p.Window * ((j : Int) / p.Window) := by omega
          rw [this, Int.add_mul_emod_self_left, Int.emod_eq_of_lt (by omega) hl]
        rw [e1, e2, Int.min_def, Int.min_def]
        split <;> split <;> split <;> omega
      · have hl : (j : Int) % p.Window + 1 = p.Window := by omega
        have e1 : ((j : Int) + 1) / p.Window = (j : Int) / p.Window + 1 := by
          have : (j : Int) + 1 = p.Window * ((j : Int) / p.Window + 1) := by rw [Int.mul_add, Int.mul_one]; omega
          rw [this, Int.mul_ediv_cancel_left _ (by omega)]
        have e2 : ((j : Int) + 1) % p.Window = 0 := by
          have : (j : Int) + 1 = p.Window * ((j : Int) / p.Window + 1) := by rw [Int.mul_add, Int.mul_one]; omega
          rw [this, Int.mul_emod_right]
        rw [e1, e2, Int.add_mul, Int.one_mul, Int.min_def, Int.min_def]
        split <;> split <;> split <;> omega
    · have hd0 : p.Down = 0 := by have := h.down; omega
      unfold stepsS one
      rw [if_neg hd, if_neg hd, hd0]
      simp
theorem worst_allowed {p : api_Profile} (h : ChkOk p) (t : Nat) : allowB p (worstL p t) = true := by
  have hlen : (worstL p t).length = t := by simp [worstL]
  unfold allowB
  rw [hlen]
  refine List.all_eq_true.2 fun i hi => ?_
  have hi := List.mem_range.1 hi
  rw [decide_eq_true_eq]
  unfold winN
  by_cases hd : 0 < p.Down
  · have hw := h.win (by omega)
    have hW : (p.Window.toNat : Int) = p.Window := by omega
    rw [if_pos hd, off_worst h t (i + 1) (by omega), off_worst h t _ (by omega)]
    unfold stepsS
    rw [if_pos hd, if_pos hd]
    by_cases hiw : p.Window.toNat ≤ i + 1
    · have e : ((i + 1 - p.Window.toNat : Nat) : Int) = ((i + 1 : Nat) : Int) - p.Window := by omega
      rw [e]
      have e1 : (((i + 1 : Nat) : Int) - p.Window) / p.Window = ((i + 1 : Nat) : Int) / p.Window - 1 := by
        have := Int.add_mul_ediv_left ((i + 1 : Nat) : Int) (-1) (show p.Window ≠ 0 by omega)
        rw [show ((i + 1 : Nat) : Int) - p.Window = ((i + 1 : Nat) : Int) + p.Window * (-1) by omega, this]
        omega
      have e2 : (((i + 1 : Nat) : Int) - p.Window) % p.Window = ((i + 1 : Nat) : Int) % p.Window := by
        have := Int.add_mul_emod_self_left ((i + 1 : Nat) : Int) p.Window (-1)
        rw [show ((i + 1 : Nat) : Int) - p.Window = ((i + 1 : Nat) : Int) + p.Window * (-1) by omega, this]
      rw [e1, e2, Int.sub_mul, Int.one_mul]
      omega
    · have e : i + 1 - p.Window.toNat = 0 := by omega
      rw [e]
      have hlt : ((i + 1 : Nat) : Int) < p.Window := by omega
      have e1 : ((i + 1 : Nat) : Int) / p.Window = 0 := Int.ediv_eq_zero_of_lt (by omega) hlt
      have e2 : ((i + 1 : Nat) : Int) % p.Window = ((i + 1 : Nat) : Int) := Int.emod_eq_of_lt (by omega) hlt
      rw [e1, e2]
      have h3 := Int.min_le_right ((i + 1 : Nat) : Int) p.Down
      have h4 : min (0 : Int) p.Down = 0 := by rw [Int.min_def]; split <;> omega
      simp [h4]
      omega
  · have hd0 : p.Down = 0 := by have := h.down; omega
    rw [if_neg hd, off_worst h t (i + 1) (by omega)]
    unfold stepsS
    rw [if_neg hd]
    omega
end Go.Proofs.Ytafgcjodefafoaa

/-
  Plain laws of layer 32: a list stays right.
-/
import Derived.Test.YtikfbgbfjipceaaPc
namespace Go.Proofs.Ytikfbgbfjipceaa
theorem chain_cons (low : Int) (x : Rg) (r : List Rg) : chainB low (x :: r) = true ↔ low < x.1 ∧ x.1 < x.2 ∧ chainB x.2 r = true := by
  simp only [chainB, Bool.and_eq_true, decide_eq_true_eq, and_assoc]
/-- the first range may touch what is below -/
def ChW (low : Int) : List Rg → Prop
  | [] => True
  | x :: r => low ≤ x.1 ∧ x.1 < x.2 ∧ chainB x.2 r = true
theorem ChW.of {low : Int} : ∀ {rs : List Rg}, chainB low rs = true → ChW low rs
  | [], _ => trivial
  | x :: r, h => by rw [chain_cons] at h; exact ⟨by omega, h.2⟩
theorem hasR_false_cons {r : Rg} {rs : List Rg} {n : Int} : hasR (r :: rs) n = false ↔ ¬ (r.1 ≤ n ∧ n < r.2) ∧ hasR rs n = false := by
  rw [hasR_cons, Bool.or_eq_false_iff, ← Bool.decide_and, decide_eq_false_iff_not]
theorem place_chain : ∀ (rs : List Rg) (low n : Int), chainB low rs = true → low < n → hasR rs n = false → chainB low (placeR rs n) = true
  | [], low, n, _, h, _ => by rw [placeR, chain_cons]; exact ⟨h, by show n < n + 1; omega, rfl⟩
  | r :: rs, low, n, hc, hl, hh => by
    rw [chain_cons] at hc
    rw [hasR_false_cons] at hh
    unfold placeR
    split
    · next h => rw [chain_cons]; exact ⟨hc.1, hc.2.1, place_chain rs r.2 n hc.2.2 h hh.2⟩
    · split
      · next h2 =>
        cases rs with
        | nil => rw [chain_cons]; exact ⟨hc.1, by show r.1 < n + 1; omega, rfl⟩
        | cons s q =>
          have h3 := hc.2.2
          rw [chain_cons] at h3
          simp only
          split
          · rw [chain_cons]; exact ⟨hc.1, by show r.1 < s.2; omega, h3.2.2⟩
          · next h4 => rw [chain_cons, chain_cons]; exact ⟨hc.1, by show r.1 < n + 1; omega, by show n + 1 < s.1; omega, h3.2⟩
      · split
        · next h4 => rw [chain_cons]; exact ⟨hl, by show n < r.2; omega, hc.2.2⟩
        · next h4 => rw [chain_cons, chain_cons]; exact ⟨hl, by show n < n + 1; omega, by show n + 1 < r.1; omega, hc.2⟩
theorem place_low : ∀ (rs : List Rg) (n : Int), chainB n rs = true → placeR rs n = match rs with | [] => [(n, n + 1)] | r :: q => if r.1 = n + 1 then (n, r.2) :: q else (n, n + 1) :: r :: q
  | [], n, _ => rfl
  | r :: q, n, h => by
    rw [chain_cons] at h
    unfold placeR
    rw [if_neg (by omega), if_neg (by omega)]
theorem place_chW (rs : List Rg) (low n : Int) (hc : chainB low rs = true) (hl : low ≤ n) (hh : hasR rs n = false) : ChW low (placeR rs n) := by
  by_cases h : low = n
  · subst h
    rw [place_low rs low hc]
    cases rs with
    | nil => exact ⟨Int.le_refl _, by show low < low + 1; omega, rfl⟩
    | cons r q =>
      rw [chain_cons] at hc
      simp only
      split
      · exact ⟨Int.le_refl _, by show low < r.2; omega, hc.2.2⟩
      · refine ⟨Int.le_refl _, by show low < low + 1; omega, ?_⟩
        rw [chain_cons]
        exact ⟨by show low + 1 < r.1; omega, hc.2⟩
  · exact ChW.of (place_chain rs low n hc (by omega) hh)
theorem last_cons_any : ∀ (rs : List Rg) (a : Int) (x : Rg), lastI a (x :: rs) = lastI x.2 rs := fun _ _ _ => rfl
theorem last_ne : ∀ (rs : List Rg) (a b : Int), rs ≠ [] → lastI a rs = lastI b rs
  | [], _, _, h => absurd rfl h
  | _ :: _, _, _, _ => rfl
theorem place_last : ∀ (rs : List Rg) (low n M : Int), chainB low rs = true → lastI low rs ≤ M → n + 1 ≤ M → lastI low (placeR rs n) ≤ M
  | [], low, n, M, _, _, h => h
  | r :: rs, low, n, M, hc, hM, hn => by
    rw [chain_cons] at hc
    have hM' : lastI r.2 rs ≤ M := hM
    have hle := chain_last_le rs r.2 hc.2.2
    unfold placeR
    split
    · exact place_last rs r.2 n M hc.2.2 hM' hn
    · split
      · cases rs with
        | nil => exact hn
        | cons s q =>
          simp only
          split
          · exact hM
          · exact hM
      · split
        · exact hM
        · exact hM
/-- dropping -/
theorem drop_facts (most : Int) (hm : 0 ≤ most) : ∀ (zs : List Rg) (low : Int), ChW low zs → chainB (dropP most low zs).1 (dropP most low zs).2 = true ∧ low ≤ (dropP most low zs).1 ∧ ((dropP most low zs).2.length : Int) ≤ most
    ∧ lastI (dropP most low zs).1 (dropP most low zs).2 = lastI low zs ∧ (∀ m, inB (dropP most low zs).1 (dropP most low zs).2 m = (inB low zs m || decide (m < (dropP most low zs).1)))
  | [], low, _ => ⟨rfl, Int.le_refl _, by simpa [dropP] using hm, rfl, fun m => by simp only [dropP, inB_eq, hasR, List.any_nil, Bool.or_false]; exact (Bool.or_self _).symm⟩
  | x :: r, low, h => by
    obtain ⟨h1, h2, h3⟩ := h
    unfold dropP
    split
    · next hd =>
      obtain ⟨i1, i2, i3, i4, i5⟩ := drop_facts most hm r x.2 (ChW.of h3)
      refine ⟨i1, by omega, i3, i4, fun m => ?_⟩
      rw [i5 m]
      simp only [inB_eq, hasR_cons]
      cases hasR r m
      · simp only [Bool.or_false]
        rw [← Bool.decide_and, ← Bool.decide_or, ← Bool.decide_or, ← Bool.decide_or]
        exact decide_eq_decide.2 (by omega)
      · simp
    · next hd =>
      have hx : low < x.1 := by omega
      refine ⟨by rw [chain_cons]; exact ⟨hx, h2, h3⟩, Int.le_refl _, by simp; omega, rfl, fun m => ?_⟩
      simp only [inB_eq]
      cases decide (m < low) <;> simp
/-- a list that has not too many ranges only loses what touches -/
theorem drop_few (most : Int) : ∀ (zs : List Rg) (low : Int), ChW low zs → (zs.length : Int) ≤ most → dropP most low zs = match zs with | [] => (low, []) | x :: r => if x.1 = low then (x.2, r) else (low, x :: r)
  | [], low, _, _ => rfl
  | x :: r, low, h, hl => by
    obtain ⟨h1, h2, h3⟩ := h
    simp at hl
    unfold dropP
    simp only
    by_cases hx : x.1 = low
    · rw [if_pos (Or.inl hx), if_pos hx]
      cases r with
      | nil => rfl
      | cons y q =>
        rw [chain_cons] at h3
        simp at hl
        unfold dropP
        rw [if_neg (by rintro (h | h) <;> omega)]
    · rw [if_neg (by rintro (h | h); exact hx h; omega), if_neg hx]
/-- what a right list is -/
theorem right_iff (low : Int) (rs : List Rg) : rightB low rs = true ↔ chainB low rs = true ∧ 0 ≤ low ∧ low ≤ 1099511627776 ∧ lastI low rs ≤ 1099511627776 := by
  simp only [rightB, Bool.and_eq_true, decide_eq_true_eq, and_assoc]
/-- taking -/
theorem take_ok (low : Int) (rs : List Rg) (n most : Int) (hr : rightB low rs = true) (h0 : 0 ≤ n) (h1 : n < 1099511627776) (hm : 0 ≤ most) : (takeP low rs n most).ok = !inB low rs n := by
  have e : badT low rs n most = inB low rs n := by
    simp only [badT, hr, hasB]
    have a1 : decide (n < 0) = false := by simpa using h0
    have a2 : decide (1099511627776 ≤ n) = false := by simpa using h1
    have a3 : decide (most < 0) = false := by simpa using hm
    simp [a1, a2, a3]
  unfold takeP
  rw [e]
  cases inB low rs n <;> rfl
theorem take_bad (low : Int) (rs : List Rg) (n most : Int) (h : (takeP low rs n most).ok = false) : (takeP low rs n most).low = low ∧ (takeP low rs n most).rs = rs := by
  unfold takeP at *
  split at h
  · next hb => rw [if_pos hb]; exact ⟨rfl, rfl⟩
  · cases h
theorem take_good (low : Int) (rs : List Rg) (n most : Int) (hr : rightB low rs = true) (h0 : 0 ≤ n) (h1 : n < 1099511627776) (hm : 0 ≤ most) (hin : inB low rs n = false) :
    takeP low rs n most = ⟨(dropP most low (placeR rs n)).1, (dropP most low (placeR rs n)).2, true⟩ ∧ ChW low (placeR rs n) := by
  have hok := take_ok low rs n most hr h0 h1 hm
  rw [hin] at hok
  have hr' := (right_iff low rs).1 hr
  have hin' := hin
  rw [inB_eq, Bool.or_eq_false_iff, decide_eq_false_iff_not] at hin'
  refine ⟨?_, place_chW rs low n hr'.1 (by omega) hin'.2⟩
  unfold takeP at *
  split at hok
  · cases hok
  · next hb => rw [if_neg hb, placeP_eq rs low n hr'.1]
/-- a right list stays right; what it has -/
theorem take_facts (low : Int) (rs : List Rg) (n most : Int) (hr : rightB low rs = true) (h0 : 0 ≤ n) (h1 : n < 1099511627776) (hm : 0 ≤ most) :
    rightB (takeP low rs n most).low (takeP low rs n most).rs = true ∧ low ≤ (takeP low rs n most).low ∧ (∀ m, inB (takeP low rs n most).low (takeP low rs n most).rs m = (inB low rs m || decide (m = n) || decide (m < (takeP low rs n most).low)))
    ∧ (((takeP low rs n most).rs.length : Int) ≤ most ∨ (takeP low rs n most).ok = false) := by
  have hr' := (right_iff low rs).1 hr
  cases hin : inB low rs n
  · obtain ⟨e, hw⟩ := take_good low rs n most hr h0 h1 hm hin
    obtain ⟨i1, i2, i3, i4, i5⟩ := drop_facts most hm (placeR rs n) low hw
    rw [e]
    have hlast : lastI (dropP most low (placeR rs n)).1 (dropP most low (placeR rs n)).2 ≤ 1099511627776 := by rw [i4]; exact place_last rs low n _ hr'.1 hr'.2.2.2 (by omega)
    have hle := chain_last_le _ _ i1
    refine ⟨(right_iff _ _).2 ⟨i1, by simp only; omega, by simp only; omega, hlast⟩, i2, fun m => ?_, Or.inl i3⟩
    simp only
    rw [i5 m, inB_eq, place_has rs low n m hr'.1, inB_eq]
    simp only [Bool.or_assoc]
  · have hok : (takeP low rs n most).ok = false := by rw [take_ok low rs n most hr h0 h1 hm, hin]; rfl
    obtain ⟨e1, e2⟩ := take_bad low rs n most hok
    rw [e1, e2]
    refine ⟨hr, Int.le_refl _, fun m => ?_, Or.inr hok⟩
    by_cases h : m = n
    · subst h; rw [hin]; rfl
    · simp only [inB_eq, h, decide_false, Bool.or_false]
      cases decide (m < low) <;> simp
end Go.Proofs.Ytikfbgbfjipceaa

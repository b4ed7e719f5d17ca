/-
  Plain laws of layer 32: limits, and that what a list has fixes it.
-/
import Derived.Test.YtikfbgbfjipceaaPd
namespace Go.Proofs.Ytikfbgbfjipceaa
theorem drop_mono (a b : Int) (ha : 0 ≤ a) (hab : a ≤ b) : ∀ (zs : List Rg) (low : Int), ChW low zs → (dropP b low zs).1 ≤ (dropP a low zs).1
  | [], low, _ => Int.le_refl _
  | x :: r, low, h => by
    obtain ⟨h1, h2, h3⟩ := h
    by_cases hb : x.1 = low ∨ b < ((r.length : Int) + 1)
    · have hA : x.1 = low ∨ a < ((r.length : Int) + 1) := by omega
      rw [dropP, if_pos hb, dropP, if_pos hA]
      exact drop_mono a b ha hab r x.2 (ChW.of h3)
    · have e : dropP b low (x :: r) = (low, x :: r) := by rw [dropP, if_neg hb]
      rw [e]
      exact (drop_facts a ha (x :: r) low ⟨h1, h2, h3⟩).2.1
theorem chain_has : ∀ (rs : List Rg) (low m : Int), chainB low rs = true → hasR rs m = true → low < m
  | [], low, m, _, h => by simp [hasR] at h
  | x :: r, low, m, hc, h => by
    rw [chain_cons] at hc
    rw [hasR_cons, Bool.or_eq_true, Bool.and_eq_true, decide_eq_true_eq, decide_eq_true_eq] at h
    rcases h with h | h
    · omega
    · have := chain_has r x.2 m hc.2.2 h
      omega
theorem chain_not {rs : List Rg} {low m : Int} (hc : chainB low rs = true) (h : m ≤ low) : hasR rs m = false := by
  cases e : hasR rs m
  · rfl
  · have := chain_has rs low m hc e
    omega
theorem chain_low {low : Int} {rs : List Rg} (hc : chainB low rs = true) : inB low rs low = false := by
  rw [inB_eq, chain_not hc (Int.le_refl _)]
  simp
theorem uniq_rs : ∀ (rs ts : List Rg) (low low' : Int), chainB low rs = true → chainB low' ts = true → (∀ m, hasR rs m = hasR ts m) → rs = ts
  | [], [], _, _, _, _, _ => rfl
  | [], y :: q, _, _, _, h, e => by
    rw [chain_cons] at h
    have := e y.1
    rw [hasR_cons] at this
    simp [hasR, h.2.1] at this
  | x :: r, [], _, _, h, _, e => by
    rw [chain_cons] at h
    have := e x.1
    rw [hasR_cons] at this
    simp [hasR, h.2.1] at this
  | x :: r, y :: q, low, low', h, h', e => by
    rw [chain_cons] at h h'
    have ex : hasR (x :: r) x.1 = true := by rw [hasR_cons]; simp [h.2.1]
    have ey : hasR (y :: q) y.1 = true := by rw [hasR_cons]; simp [h'.2.1]
    have nx : hasR (x :: r) x.2 = false := by rw [hasR_cons, chain_not h.2.2 (Int.le_refl _)]; simp
    have ny : hasR (y :: q) y.2 = false := by rw [hasR_cons, chain_not h'.2.2 (Int.le_refl _)]; simp
    rw [e] at ex nx
    rw [← e] at ey ny
    rw [hasR_cons, Bool.or_eq_true, Bool.and_eq_true, decide_eq_true_eq, decide_eq_true_eq] at ex ey
    rw [hasR_false_cons] at nx ny
    have a1 : y.1 ≤ x.1 := by
      rcases ex with ex | ex
      · exact ex.1
      · have := chain_has q y.2 x.1 h'.2.2 ex
        omega
    have a2 : x.1 ≤ y.1 := by
      rcases ey with ey | ey
      · exact ey.1
      · have := chain_has r x.2 y.1 h.2.2 ey
        omega
    have b1 : x.1 = y.1 := by omega
    have b2 : x.2 = y.2 := by omega
    have hxy : x = y := Prod.ext b1 b2
    subst hxy
    rw [uniq_rs r q x.2 x.2 h.2.2 h'.2.2 (fun m => ?_)]
    have := e m
    rw [hasR_cons, hasR_cons] at this
    by_cases hm : m ≤ x.2
    · rw [chain_not h.2.2 hm, chain_not h'.2.2 hm]
    · have : (decide (x.1 ≤ m) && decide (m < x.2)) = false := by rw [← Bool.decide_and, decide_eq_false_iff_not]; omega
      simpa [this] using e m |> fun h => by rw [hasR_cons, hasR_cons, this] at h; simpa using h
theorem uniq_list (rs ts : List Rg) (low low' : Int) (h : chainB low rs = true) (h' : chainB low' ts = true) (e : ∀ m, inB low rs m = inB low' ts m) : low = low' ∧ rs = ts := by
  have a1 := e low
  rw [chain_low h, inB_eq, eq_comm, Bool.or_eq_false_iff, decide_eq_false_iff_not] at a1
  have a2 := e low'
  rw [chain_low h', inB_eq, Bool.or_eq_false_iff, decide_eq_false_iff_not] at a2
  have hl : low = low' := by omega
  subst hl
  refine ⟨rfl, uniq_rs rs ts low low h h' fun m => ?_⟩
  by_cases hm : m ≤ low
  · rw [chain_not h hm, chain_not h' hm]
  · have := e m
    have hd : decide (m < low) = false := by rw [decide_eq_false_iff_not]; omega
    rw [inB_eq, inB_eq, hd] at this
    simpa using this
theorem place_len : ∀ (rs : List Rg) (n : Int), (placeR rs n).length ≤ rs.length + 1
  | [], n => by simp [placeR]
  | r :: rs, n => by
    have ih := place_len rs n
    unfold placeR
    split
    · simp; exact ih
    · split
      · cases rs with
        | nil => simp
        | cons s q => simp only; split <;> simp
      · split <;> simp
theorem drop_len (most : Int) : ∀ (zs : List Rg) (low : Int), (dropP most low zs).2.length ≤ zs.length
  | [], low => Nat.le_refl _
  | x :: r, low => by
    unfold dropP
    split
    · have := drop_len most r x.2
      simp; omega
    · exact Nat.le_refl _
theorem take_len (low : Int) (rs : List Rg) (n most : Int) (hr : rightB low rs = true) : (takeP low rs n most).rs.length ≤ rs.length + 1 := by
  unfold takeP
  split
  · simp
  · simp only
    rw [placeP_eq rs low n ((right_iff _ _).1 hr).1]
    have := drop_len most (placeR rs n) low
    have := place_len rs n
    omega
/-- without dropping -/
theorem take_few (low : Int) (rs : List Rg) (n most : Int) (hr : rightB low rs = true) (h0 : 0 ≤ n) (h1 : n < 1099511627776) (hm : (rs.length : Int) + 1 ≤ most) (m : Int) :
    inB (takeP low rs n most).low (takeP low rs n most).rs m = (inB low rs m || decide (m = n)) := by
  have hm0 : 0 ≤ most := by omega
  have hr' := (right_iff low rs).1 hr
  cases hin : inB low rs n
  · obtain ⟨e, hw⟩ := take_good low rs n most hr h0 h1 hm0 hin
    have hp := place_has rs low n m hr'.1
    have hf := drop_few most (placeR rs n) low hw (by have := place_len rs n; omega)
    rw [e]
    simp only
    rw [hf, inB_eq low rs, Bool.or_assoc, ← hp]
    revert hw
    cases placeR rs n with
    | nil => intro _; rfl
    | cons x r =>
      rintro ⟨w1, w2, w3⟩
      simp only
      split
      · next hx =>
        simp only [inB_eq, hasR_cons]
        cases hasR r m
        · simp only [Bool.or_false]
          rw [← Bool.decide_and, ← Bool.decide_or]
          exact decide_eq_decide.2 (by omega)
        · simp
      · rfl
  · have hok : (takeP low rs n most).ok = false := by rw [take_ok low rs n most hr h0 h1 hm0, hin]; rfl
    obtain ⟨e1, e2⟩ := take_bad low rs n most hok
    rw [e1, e2]
    by_cases h : m = n
    · subst h; rw [hin]; rfl
    · simp [h]
end Go.Proofs.Ytikfbgbfjipceaa

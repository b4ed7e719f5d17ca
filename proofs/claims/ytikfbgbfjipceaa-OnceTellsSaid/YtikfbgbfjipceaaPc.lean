/-
  Plain laws of layer 32: the place of a number, by recursion.
-/
import Derived.Test.YtikfbgbfjipceaaPb
namespace Go.Proofs.Ytikfbgbfjipceaa
/-- a number finds its place among ranges -/
def placeR : List Rg → Int → List Rg
  | [], n => [(n, n + 1)]
  | r :: rs, n =>
    if r.2 < n then r :: placeR rs n
    else if r.2 = n then
      match rs with
      | [] => [(r.1, n + 1)]
      | s :: q => if s.1 = n + 1 then (r.1, s.2) :: q else (r.1, n + 1) :: s :: q
    else if r.1 = n + 1 then (n, r.2) :: rs
    else (n, n + 1) :: r :: rs
theorem idx_le {r : Rg} {rs : List Rg} {n : Int} (h : r.2 ≤ n) : idx (r :: rs) n = idx rs n + 1 := by
  simp [idx, List.takeWhile, h]
theorem idx_gt {r : Rg} {rs : List Rg} {n : Int} (h : ¬ r.2 ≤ n) : idx (r :: rs) n = 0 := by
  simp [idx, List.takeWhile, h]
theorem placeI_cons {r : Rg} {rs : List Rg} {n : Int} (h : r.2 ≠ n) (i : Nat) : placeI (r :: rs) (i + 1) n = r :: placeI rs i n := by
  have hb : bef (r :: rs) (i + 1) n = bef rs i n := by
    cases i with
    | zero => simp [bef, h]
    | succ i => simp [bef]
  have ha : aft (r :: rs) (i + 1) n = aft rs i n := by simp [aft]
  unfold placeI
  rw [hb, ha]
  cases i with
  | zero =>
    have : bef rs 0 n = false := by simp [bef]
    simp only [this]
    split
    · simp at *
    · split
      · simp at *
      · split <;> simp
  | succ i =>
    split
    · simp
    · split
      · simp
      · split <;> simp
theorem placeP_eq : ∀ (rs : List Rg) (low n : Int), chainB low rs = true → placeP rs n = placeR rs n
  | [], low, n, _ => by simp [placeP, placeI, idx, bef, aft, placeR]
  | r :: rs, low, n, hc => by
    simp only [chainB, Bool.and_eq_true, decide_eq_true_eq] at hc
    have ih := placeP_eq rs r.2 n hc.2
    unfold placeR
    split
    · next h =>
      rw [← ih, placeP, idx_le (by omega), placeI_cons (by omega)]
      rfl
    · next h =>
      split
      · next h2 =>
        have hi : idx rs n = 0 := by
          cases rs with
          | nil => rfl
          | cons s q =>
            have h3 := hc.2
            simp only [chainB, Bool.and_eq_true, decide_eq_true_eq] at h3
            exact idx_gt (by omega)
        rw [placeP, idx_le (by omega), hi]
        cases rs with
        | nil => simp [placeI, bef, aft, h2]
        | cons s q =>
          by_cases h4 : s.1 = n + 1
          · simp [placeI, bef, aft, h2, h4]
          · simp [placeI, bef, aft, h2, h4]
      · next h2 =>
        rw [placeP, idx_gt (by omega)]
        by_cases h4 : r.1 = n + 1
        · simp [placeI, bef, aft, h4]
        · simp [placeI, bef, aft, h4]
/-- what a list of ranges has -/
def hasR (rs : List Rg) (m : Int) : Bool := rs.any (fun x => decide (x.1 ≤ m) && decide (m < x.2))
theorem hasR_cons (r : Rg) (rs : List Rg) (m : Int) : hasR (r :: rs) m = ((decide (r.1 ≤ m) && decide (m < r.2)) || hasR rs m) := by simp [hasR]
theorem inB_eq (low : Int) (rs : List Rg) (m : Int) : inB low rs m = (decide (m < low) || hasR rs m) := rfl
theorem place_has : ∀ (rs : List Rg) (low n m : Int), chainB low rs = true → hasR (placeR rs n) m = (hasR rs m || decide (m = n))
  | [], low, n, m, _ => by
    simp only [placeR, hasR, List.any_cons, List.any_nil, Bool.or_false, Bool.false_or]
    rw [← Bool.decide_and]
    exact decide_eq_decide.2 (by omega)
  | r :: rs, low, n, m, hc => by
    simp only [chainB, Bool.and_eq_true, decide_eq_true_eq] at hc
    have ih := place_has rs r.2 n m hc.2
    unfold placeR
    split
    · rw [hasR_cons, ih, hasR_cons, Bool.or_assoc]
    · split
      · next h2 =>
        cases rs with
        | nil =>
          simp only [hasR, List.any_cons, List.any_nil, Bool.or_false]
          rw [← Bool.decide_and, ← Bool.decide_and, ← Bool.decide_or]
          exact decide_eq_decide.2 (by omega)
        | cons s q =>
          have h3 := hc.2
          simp only [chainB, Bool.and_eq_true, decide_eq_true_eq] at h3
          simp only
          split
          · simp only [hasR_cons]
            cases hasR q m
            · simp only [Bool.or_false]
              rw [← Bool.decide_and, ← Bool.decide_and, ← Bool.decide_and, ← Bool.decide_or, ← Bool.decide_or]
              exact decide_eq_decide.2 (by omega)
            · simp
          · simp only [hasR_cons]
            cases hasR q m
            · simp only [Bool.or_false]
              rw [← Bool.decide_and, ← Bool.decide_and, ← Bool.decide_and, ← Bool.decide_or, ← Bool.decide_or, ← Bool.decide_or]
              exact decide_eq_decide.2 (by omega)
            · simp
      · split
        · simp only [hasR_cons]
          cases hasR rs m
          · simp only [Bool.or_false]
            rw [← Bool.decide_and, ← Bool.decide_and, ← Bool.decide_or]
            exact decide_eq_decide.2 (by omega)
          · simp
        · simp only [hasR_cons]
          cases hasR rs m
          · simp only [Bool.or_false]
            rw [← Bool.decide_and, ← Bool.decide_and, ← Bool.decide_or, ← Bool.decide_or]
            exact decide_eq_decide.2 (by omega)
          · simp
end Go.Proofs.Ytikfbgbfjipceaa

/-
  Plain laws of layer 11 for the reference's Number.
-/
import Derived.Test.YtdmecoagiboieaaPa
namespace Go.Proofs.Ytdmecoagiboieaa
theorem numGo_mono : ∀ (l : List UInt8) (n : Int), 0 ≤ n → allB isDigit l = true → n ≤ numGo n l
  | [], n, _, _ => Int.le_refl _
  | c :: l, n, h, ha => by
    simp only [allB, List.all_cons, Bool.and_eq_true] at ha
    have hd : 48 ≤ (c.toNat : Int) := by have := ha.1; simp [isDigit] at this; omega
    have := numGo_mono l (10 * n + ((c.toNat : Int) - 48)) (by omega) ha.2
    simp only [numGo]
    omega
theorem numGo_append : ∀ (a b : List UInt8) (n : Int), numGo n (a ++ b) = numGo (numGo n a) b
  | [], _, _ => rfl
  | _ :: a, b, n => by simp only [List.cons_append, numGo]; exact numGo_append a b _
theorem numGo_low : ∀ (l : List UInt8) (n : Int), 1 ≤ n → allB isDigit l = true → (10 : Int) ^ l.length ≤ numGo n l
  | [], n, h, _ => by simpa [numGo] using h
  | c :: l, n, h, ha => by
    simp only [allB, List.all_cons, Bool.and_eq_true] at ha
    have hd : 48 ≤ (c.toNat : Int) := by have := ha.1; simp [isDigit] at this; omega
    have key : ∀ (l : List UInt8) (n : Int), 1 ≤ n → allB isDigit l = true → n * (10 : Int) ^ l.length ≤ numGo n l := by
      intro l
      induction l with
      | nil => intro n _ _; simp [numGo]
      | cons d l ih =>
        intro n hn ha
        simp only [allB, List.all_cons, Bool.and_eq_true] at ha
        have hd : 48 ≤ (d.toNat : Int) := by have := ha.1; simp [isDigit] at this; omega
        have h1 := ih (10 * n + ((d.toNat : Int) - 48)) (by omega) ha.2
        simp only [numGo, List.length_cons, Int.pow_succ]
        have hp : (0 : Int) < (10 : Int) ^ l.length := by exact Int.pow_pos (by omega)
        have h2 : n * ((10 : Int) ^ l.length * 10) ≤ (10 * n + ((d.toNat : Int) - 48)) * (10 : Int) ^ l.length := by
          have : n * ((10 : Int) ^ l.length * 10) = (10 * n) * (10 : Int) ^ l.length := by rw [Int.mul_comm ((10 : Int) ^ l.length) 10, ← Int.mul_assoc, Int.mul_comm n 10]
          rw [this]
          exact Int.mul_le_mul_of_nonneg_right (by omega) (by omega)
        omega
    have := key (c :: l) n h (by simp only [allB, List.all_cons, Bool.and_eq_true]; exact ha)
    have hp : (0 : Int) < (10 : Int) ^ (c :: l).length := Int.pow_pos (by omega)
    have h3 : 1 * (10 : Int) ^ (c :: l).length ≤ n * (10 : Int) ^ (c :: l).length := Int.mul_le_mul_of_nonneg_right h (by omega)
    omega
theorem num_bad_digit (l : List UInt8) (k : Nat) (hk : k < l.length) (h : isDigit (l[k].toNat) = false) : numOk l = false ∧ numOr l = 0 := by
  have h1 : numOk l = false := by
    cases l with
    | nil => rfl
    | cons c r =>
      have : allB isDigit (c :: r) = false := by
        rw [Bool.eq_false_iff]
        intro ha
        have := allB_get ha k hk
        rw [h] at this
        cases this
      simp [numOk, this]
  exact ⟨h1, by simp [numOr, h1]⟩
theorem num_big (l : List UInt8) (k : Nat) (h : 1099511627776 < numGo 0 (l.take k)) (hd : allB isDigit (l.take k) = true) : numOk l = false ∧ numOr l = 0 := by
  have h1 : numOk l = false := by
    cases l with
    | nil => rfl
    | cons c r =>
      rw [Bool.eq_false_iff]
      intro ho
      simp only [numOk, Bool.and_eq_true, decide_eq_true_eq] at ho
      obtain ⟨⟨⟨ha, _⟩, _⟩, hv⟩ := ho
      have e : numGo 0 (c :: r) = numGo (numGo 0 ((c :: r).take k)) ((c :: r).drop k) := by rw [← numGo_append, List.take_append_drop]
      have hdr : allB isDigit ((c :: r).drop k) = true := by
        simp only [allB, List.all_eq_true] at ha ⊢
        exact fun x hx => ha x (List.mem_of_mem_drop hx)
      have := numGo_mono _ _ (numGo_nonneg _ 0 (by omega) hd) hdr
      omega
  exact ⟨h1, by simp [numOr, h1]⟩
theorem num_zero (r : List UInt8) (hr : r ≠ []) : numOk (48 :: r) = false ∧ numOr (48 :: r) = 0 := by
  have h1 : numOk (48 :: r) = false := by
    cases r with
    | nil => exact absurd rfl hr
    | cons d r => simp [numOk]
  exact ⟨h1, by simp [numOr, h1]⟩
theorem num_good (c : UInt8) (r : List UInt8) (hd : allB isDigit (c :: r) = true) (h0 : c ≠ 48 ∨ r = []) (hv : numGo 0 (c :: r) ≤ 1099511627776) : numOk (c :: r) = true ∧ numOr (c :: r) = numGo 0 (c :: r) := by
  have hlen : r.length < 13 := by
    rcases h0 with h0 | h0
    · rcases Nat.lt_or_ge r.length 13 with h | h
      · exact h
      · have hd' := hd
        simp only [allB, List.all_cons, Bool.and_eq_true] at hd'
        have hc : 49 ≤ (c.toNat : Int) := by
          have h1 := hd'.1
          simp [isDigit] at h1
          have : c.toNat ≠ 48 := fun h => h0 (by apply UInt8.toNat_inj.1; simpa using h)
          omega
        have hl := numGo_low r (10 * 0 + ((c.toNat : Int) - 48)) (by omega) hd'.2
        have e : numGo 0 (c :: r) = numGo (10 * 0 + ((c.toNat : Int) - 48)) r := rfl
        have hpow : (10 : Int) ^ 13 ≤ (10 : Int) ^ r.length := by
          have : r.length = 13 + (r.length - 13) := by omega
          rw [this, Int.pow_add]
          have hp : (0 : Int) < (10 : Int) ^ (r.length - 13) := Int.pow_pos (by omega)
          have : (10 : Int) ^ 13 * 1 ≤ (10 : Int) ^ 13 * (10 : Int) ^ (r.length - 13) := Int.mul_le_mul_of_nonneg_left (by omega) (by decide)
          omega
        have : (10 : Int) ^ 13 = 10000000000000 := by decide
        omega
    · subst h0; simp
  have h1 : numOk (c :: r) = true := by
    simp only [numOk, hd, Bool.true_and, Bool.and_eq_true, decide_eq_true_eq]
    refine ⟨⟨?_, hlen⟩, hv⟩
    rcases h0 with h0 | h0
    · have : c.toNat ≠ 48 := fun h => h0 (by apply UInt8.toNat_inj.1; simpa using h)
      simp [this]
    · subst h0; simp
  exact ⟨h1, by simp [numOr, h1]⟩
end Go.Proofs.Ytdmecoagiboieaa

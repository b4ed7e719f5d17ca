/-
  Plain functions of layer 32 (numbers that were seen): what a right list is, what it has.
-/
namespace Go.Proofs.Ytikfbgbfjipceaa

abbrev Rg := Int × Int
def chainB : Int → List Rg → Bool
  | _, [] => true
  | last, x :: r => decide (last < x.1) && decide (x.1 < x.2) && chainB x.2 r
def lastI : Int → List Rg → Int
  | last, [] => last
  | _, x :: r => lastI x.2 r
def rightB (low : Int) (rs : List Rg) : Bool := chainB low rs && decide (0 ≤ low) && decide (low ≤ 1099511627776) && decide (lastI low rs ≤ 1099511627776)
/-- a number counts as seen -/
def inB (low : Int) (rs : List Rg) (n : Int) : Bool := decide (n < low) || rs.any (fun x => decide (x.1 ≤ n) && decide (n < x.2))
def hasB (low : Int) (rs : List Rg) (n : Int) : Bool := rightB low rs && inB low rs n

theorem chain_append (a : List Rg) : ∀ (last : Int) (b : List Rg), chainB last (a ++ b) = (chainB last a && chainB (lastI last a) b) := by
  induction a with
  | nil => intro last b; simp [chainB, lastI]
  | cons x a ih => intro last b; simp only [List.cons_append, chainB, lastI, ih]; cases decide (last < x.1) <;> cases decide (x.1 < x.2) <;> simp
theorem last_append (a : List Rg) : ∀ (last : Int) (b : List Rg), lastI last (a ++ b) = lastI (lastI last a) b := by
  induction a with
  | nil => intro last b; rfl
  | cons x a ih => intro last b; simp only [List.cons_append, lastI, ih]
theorem chain_last_le : ∀ (rs : List Rg) (last : Int), chainB last rs = true → last ≤ lastI last rs
  | [], _, _ => Int.le_refl _
  | x :: r, last, h => by
    simp only [chainB, Bool.and_eq_true, decide_eq_true_eq] at h
    have := chain_last_le r x.2 h.2
    simp only [lastI]
    omega
theorem chain_take_last (rs : List Rg) (last : Int) (h : chainB last rs = true) (k : Nat) : lastI last (rs.take k) ≤ lastI last rs := by
  have e : rs = rs.take k ++ rs.drop k := (List.take_append_drop k rs).symm
  rw [e, chain_append, Bool.and_eq_true] at h
  rw [e, last_append]
  have := chain_last_le _ _ h.2
  rw [← e]
  exact this
end Go.Proofs.Ytikfbgbfjipceaa

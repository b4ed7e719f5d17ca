/-
  Plain functions of layer 32: what taking a number does.
-/
import Derived.Test.YtikfbgbfjipceaaPa
namespace Go.Proofs.Ytikfbgbfjipceaa
/-- the index of the first range that ends after a number -/
def idx (rs : List Rg) (x : Int) : Nat := (rs.takeWhile (fun r => decide (r.2 ≤ x))).length
def bef (rs : List Rg) (i : Nat) (n : Int) : Bool := decide (0 < i) && decide ((rs.getD (i - 1) (0, 0)).2 = n)
def aft (rs : List Rg) (i : Nat) (n : Int) : Bool := decide (i < rs.length) && decide ((rs.getD i (0, 0)).1 = n + 1)
def placeI (rs : List Rg) (i : Nat) (n : Int) : List Rg :=
  if bef rs i n = true ∧ aft rs i n = true then (rs.set (i - 1) ((rs.getD (i - 1) (0, 0)).1, (rs.getD i (0, 0)).2)).eraseIdx i
  else if bef rs i n = true then rs.set (i - 1) ((rs.getD (i - 1) (0, 0)).1, n + 1)
  else if aft rs i n = true then rs.set i (n, (rs.getD i (0, 0)).2)
  else rs.take i ++ (n, n + 1) :: rs.drop i
def placeP (rs : List Rg) (n : Int) : List Rg := placeI rs (idx rs n) n
def dropP (most : Int) : Int → List Rg → Int × List Rg
  | low, [] => (low, [])
  | low, x :: r => if x.1 = low ∨ most < ((r.length : Int) + 1) then dropP most x.2 r else (low, x :: r)
def badT (low : Int) (rs : List Rg) (n most : Int) : Bool := !rightB low rs || decide (n < 0) || decide (1099511627776 ≤ n) || decide (most < 0) || hasB low rs n
structure Tk where
  low : Int
  rs : List Rg
  ok : Bool
  deriving DecidableEq
def takeP (low : Int) (rs : List Rg) (n most : Int) : Tk :=
  if badT low rs n most then ⟨low, rs, false⟩ else ⟨(dropP most low (placeP rs n)).1, (dropP most low (placeP rs n)).2, true⟩
theorem placeI_len (rs : List Rg) (i : Nat) (n : Int) (hi : i ≤ rs.length) : (placeI rs i n).length ≤ rs.length + 1 := by
  unfold placeI
  split
  · rw [List.length_eraseIdx]; simp; split <;> omega
  · split
    · simp
    · split
      · simp
      · simp; omega
end Go.Proofs.Ytikfbgbfjipceaa

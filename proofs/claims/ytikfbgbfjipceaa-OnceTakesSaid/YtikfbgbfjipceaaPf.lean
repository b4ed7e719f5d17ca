/-
  Plain laws of layer 32: OnceOrder.
-/
import Derived.Test.YtikfbgbfjipceaaPe
namespace Go.Proofs.Ytikfbgbfjipceaa
def tkS (s : Int × List Rg) (n : Int) : Int × List Rg := ((takeP s.1 s.2 n 100).low, (takeP s.1 s.2 n 100).rs)
/-- numbers, taken one after the other -/
def tk (xs : List Int) : Int × List Rg := xs.foldl tkS (0, [])
theorem tk_snoc (xs : List Int) (n : Int) : tk (xs ++ [n]) = tkS (tk xs) n := by simp [tk, List.foldl_append]
theorem snoc_ind {α : Type} {P : List α → Prop} (h0 : P []) (h1 : ∀ xs x, P xs → P (xs ++ [x])) (xs : List α) : P xs := by
  rw [← List.reverse_reverse xs]
  induction xs.reverse with
  | nil => exact h0
  | cons x r ih => rw [List.reverse_cons]; exact h1 _ _ ih
theorem tk_facts (xs : List Int) : (∀ x ∈ xs, 0 ≤ x ∧ x < 65536) → xs.length ≤ 60 → rightB (tk xs).1 (tk xs).2 = true ∧ (tk xs).2.length ≤ xs.length ∧ ∀ m, inB (tk xs).1 (tk xs).2 m = (decide (m < 0) || xs.contains m) := by
  refine snoc_ind (P := fun xs => (∀ x ∈ xs, 0 ≤ x ∧ x < 65536) → xs.length ≤ 60 → rightB (tk xs).1 (tk xs).2 = true ∧ (tk xs).2.length ≤ xs.length ∧ ∀ m, inB (tk xs).1 (tk xs).2 m = (decide (m < 0) || xs.contains m)) ?_ ?_ xs
  · intro _ _
    exact ⟨by decide, Nat.le_refl _, fun m => rfl⟩
  · intro xs x ih hx hl
    simp only [List.length_append, List.length_cons, List.length_nil] at hl
    obtain ⟨i1, i2, i3⟩ := ih (fun y hy => hx y (by simp [hy])) (by omega)
    have hb := hx x (by simp)
    have hf := take_facts (tk xs).1 (tk xs).2 x 100 i1 hb.1 (by omega) (by decide)
    have hw := take_few (tk xs).1 (tk xs).2 x 100 i1 hb.1 (by omega) (by omega)
    have hlen := take_len (tk xs).1 (tk xs).2 x 100 i1
    rw [tk_snoc]
    refine ⟨hf.1, by simp only [tkS, List.length_append, List.length_cons, List.length_nil]; omega, fun m => ?_⟩
    show inB (takeP (tk xs).1 (tk xs).2 x 100).low (takeP (tk xs).1 (tk xs).2 x 100).rs m = _
    rw [hw m, i3 m]
    cases decide (m < 0)
    · simp only [Bool.false_or]
      rw [Bool.eq_iff_iff]
      simp
    · simp
/-- the other order -/
def other (l : List Int) (b : Nat) : List Int := (List.range l.length).map fun i => l.getD (l.length - 1 - (i + b) % l.length) 0
theorem other_len (l : List Int) (b : Nat) : (other l b).length = l.length := by simp [other]
theorem other_get (l : List Int) (b i : Nat) (h : i < l.length) : (other l b)[i]? = some (l.getD (l.length - 1 - (i + b) % l.length) 0) := by simp [other, h]
theorem other_mem (l : List Int) (b : Nat) (m : Int) : (other l b).contains m = l.contains m := by
  rw [Bool.eq_iff_iff]
  simp only [List.contains_iff_mem, other, List.mem_map, List.mem_range]
  constructor
  · rintro ⟨i, hi, rfl⟩
    have : l.length - 1 - (i + b) % l.length < l.length := by omega
    simp [List.getD, this]
  · intro h
    obtain ⟨j, hj, e⟩ := List.getElem_of_mem h
    refine ⟨((l.length - 1 - j) + (l.length - b % l.length)) % l.length, Nat.mod_lt _ (by omega), ?_⟩
    have hb : b % l.length < l.length := Nat.mod_lt _ (by omega)
    have e2 : (((l.length - 1 - j) + (l.length - b % l.length)) % l.length + b) % l.length = l.length - 1 - j := by
      have e3 : ∀ X : Nat, (X % l.length + b) % l.length = (X + b % l.length) % l.length := fun X => by rw [Nat.mod_add_mod, Nat.add_mod_mod]
      rw [e3]
      rw [show l.length - 1 - j + (l.length - b % l.length) + b % l.length = (l.length - 1 - j) + l.length by omega, Nat.add_mod_right, Nat.mod_eq_of_lt (by omega)]
    rw [e2, show l.length - 1 - (l.length - 1 - j) = j by omega]
    simp [List.getD, hj, e]
theorem order_same (l : List Int) (b : Nat) (h : ∀ x ∈ l, 0 ≤ x ∧ x < 65536) (hl : l.length ≤ 60) : tk l = tk (other l b) := by
  have h' : ∀ x ∈ other l b, 0 ≤ x ∧ x < 65536 := fun x hx => h x (by have := other_mem l b x; rw [Bool.eq_iff_iff] at this; simpa using this.1 (by simpa using hx))
  obtain ⟨a1, _, a3⟩ := tk_facts l h hl
  obtain ⟨b1, _, b3⟩ := tk_facts (other l b) h' (by rw [other_len]; exact hl)
  have := uniq_list _ _ _ _ ((right_iff _ _).1 a1).1 ((right_iff _ _).1 b1).1 (fun m => by rw [a3, b3, other_mem])
  exact Prod.ext this.1 this.2
theorem order_has (l : List Int) (h : ∀ x ∈ l, 0 ≤ x ∧ x < 65536) (hl : l.length ≤ 60) (p : Int) (hp : 0 ≤ p) : hasB (tk l).1 (tk l).2 p = l.contains p := by
  obtain ⟨a1, _, a3⟩ := tk_facts l h hl
  have : decide (p < 0) = false := by simpa using hp
  rw [hasB, a1, a3, this]
  simp
theorem take_line (i : Nat) (h : i < 1000) : takeP i [] i 0 = ⟨(i : Int) + 1, [], true⟩ := by
  have a0 : rightB (i : Int) [] = true := (right_iff _ _).2 ⟨rfl, by omega, by omega, by show (i : Int) ≤ _; omega⟩
  have a1 : inB (i : Int) [] i = false := by simp [inB]
  obtain ⟨e, _⟩ := take_good (i : Int) [] i 0 a0 (by omega) (by omega) (by decide) a1
  rw [e]
  simp [placeR, dropP]
end Go.Proofs.Ytikfbgbfjipceaa

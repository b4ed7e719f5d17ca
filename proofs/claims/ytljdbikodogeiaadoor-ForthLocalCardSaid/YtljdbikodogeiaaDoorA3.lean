/-
  Profiles: what profile.Check and its reference compute (plain law).
-/
import Derived.Test.YtljdbikodogeiaaDoorA2
namespace Go.Proofs.YtljdbikodogeiaaDoor
open Go.RowKit
theorem contS (l : List ByteArray) (hl : l.length ≤ maxLen) (v : ByteArray) : slices_Contains_string_string l v = some (l.any fun y => v.toList == y.toList) := by
  unfold maxLen at hl
  have key := loopF_range (body := slices_Index_string_string_L1 l v) l (fun i => i) (fun x i => bif v.toList == x.toList then some (.inr (.inr i)) else some (.inl (i + 1))) (fun _ => .inl ()) (fun _ => True)
    (fun i x _ h0 hx => by
      have hlt := (List.getElem?_eq_some_iff.1 hx).1
      have h1 : i < (l.length : Int) := by omega
      have hw : IntKind.i64.wrap (i + 1) = i + 1 := wrap64 (by omega) (by omega)
      have hg : getI l i = some x := by rw [getI_of h0]; exact hx
      unfold slices_Index_string_string_L1
      simp only [h1, decide_true, cond_true, hw]
      rw [bind_some_of hg])
    (fun i _ hi => by
      unfold slices_Index_string_string_L1
      simp only [hi, Int.lt_irrefl, decide_false, cond_false])
    (fun x i i' _ h0 h1 hf => by
      cases hpx : (v.toList == x.toList)
      · rw [hpx] at hf
        injection hf with hf
        injection hf with hf
        exact ⟨hf.symm, trivial⟩
      · rw [hpx] at hf
        injection hf with hf
        cases hf)
    0 trivial (Int.le_refl _) (Int.natCast_nonneg _)
  have fold : ∀ (q : ByteArray → Bool) (r : List ByteArray) (i : Int), 0 ≤ i → (foldL (fun (x : ByteArray) (i : Int) => bif q x then some (.inr (.inr i)) else some (Sum.inl (i + 1))) (fun _ => some (.inl ())) r i = some (.inl () : Unit ⊕ Int) ∧ r.any q = false) ∨ ∃ j, 0 ≤ j ∧ foldL (fun (x : ByteArray) (i : Int) => bif q x then some (.inr (.inr i)) else some (Sum.inl (i + 1))) (fun _ => some (.inl ())) r i = some (.inr j : Unit ⊕ Int) ∧ r.any q = true := by
    intro q r
    induction r with
    | nil => exact fun i _ => Or.inl ⟨rfl, rfl⟩
    | cons x r ih =>
      intro i hi
      cases hx : q x
      · rcases ih (i + 1) (by omega) with ⟨h1, h2⟩ | ⟨j, h1, h2, h3⟩
        · exact Or.inl ⟨by rw [foldL]; simp only [hx, cond_false]; exact h1, by simp [hx, h2]⟩
        · exact Or.inr ⟨j, h1, by rw [foldL]; simp only [hx, cond_false]; exact h2, by simp [hx, h3]⟩
      · exact Or.inr ⟨i, hi, by rw [foldL]; simp only [hx, cond_true], by simp [hx]⟩
  unfold slices_Contains_string_string slices_Index_string_string
  rw [key, show List.drop (0 : Int).toNat l = l from rfl]
  rcases fold (fun y => v.toList == y.toList) l 0 (Int.le_refl _) with ⟨h1, h2⟩ | ⟨j, h1, h2, h3⟩
  · rw [h1, h2]
    rfl
  · rw [h2, h3]
    simp [seqF, h1]
end Go.Proofs.YtljdbikodogeiaaDoor

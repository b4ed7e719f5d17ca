/-
  Arrays that came in as an argument. Over any program.
-/
import Derived.Test.YtikfbgbfjipceaaEvT
namespace Go.Proofs.Ytikfbgbfjipceaa
open Go.ChangeShapes Go.WideShapes Go.ChangeAt Go.RowKit Go.Deep
section
variable {H : Type} {enc : TypeId × Value → H} {P : Program} {W : World}
theorem fieldsD_arr {t e : TypeId} {k sz fuel : Nat} {cs : List Value} {x : DataW H × List MemPlace} (ht : P.underlying t = some (.array k e)) (hsz : P.cellsOf e = sz) (h : DataW.trod enc P W 0 (fun _ => true) true fuel t cs = some x) :
    ∃ n, FieldsD enc P W n cs ((List.range k).map fun i => (i * sz, e)) ∧ cs.length = P.cellsOf t := by
  obtain ⟨xs, m, _, _, hl, hxl, hi⟩ := DataW.trod_array ht h
  refine ⟨m, ?_, hl⟩
  rw [hsz] at hi
  have : ∀ (l : List Nat), (∀ i ∈ l, i < k) → FieldsD enc P W m cs (l.map fun i => (i * sz, e)) := by
    intro l
    induction l with
    | nil => exact fun _ => trivial
    | cons i l ih =>
      intro hm
      have h1 := hm i (by simp)
      exact ⟨⟨xs[i]'(by omega), by rw [hsz]; exact (hi i h1).trans (List.getElem?_eq_getElem (by omega))⟩, ih fun j hj => hm j (by simp [hj])⟩
  exact this _ fun i hi => by simpa using hi
end
end Go.Proofs.Ytikfbgbfjipceaa

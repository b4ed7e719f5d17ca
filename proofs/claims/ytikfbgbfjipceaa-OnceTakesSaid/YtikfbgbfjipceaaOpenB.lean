/-
  Slices of numbers that came in, with their capacity (layer 32's laws).
-/
import Derived.Test.YtikfbgbfjipceaaOpen
namespace Go.Proofs.Ytikfbgbfjipceaa
open Go.ChangeShapes Go.WideShapes Go.ChangeAt Go.RowKit
open Go.ChangeShapes
theorem cap_u16s {H : Type} {enc : TypeId × Value → H} {W : World} {A : Option Addr} {n c : Nat} {d : DataW H} {p : List MemPlace} (h : DataW.Trod enc Try.prog W 0 (fun _ => true) true 37 (.slice A n c) d p) : n ≤ c := by
  obtain ⟨fuel, hf⟩ := h
  rcases open_ints Try.underlying37 Try.underlying38 (by kernel_rfl) hf with ⟨hcs, hx⟩ | ⟨a, len', cap', zs, hcs, _, hl, hm, hz, hx, hcell, hwz⟩
  · simp only [Value.cells] at hcs
    injection hcs with hcs
    injection hcs with h1 h2 h3
    omega
  · simp only [Value.cells] at hcs
    injection hcs with hcs
    injection hcs with h1 h2 h3
    subst h1; subst h2; subst h3
    exact hl
end Go.Proofs.Ytikfbgbfjipceaa

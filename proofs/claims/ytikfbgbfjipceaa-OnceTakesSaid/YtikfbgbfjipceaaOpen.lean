/-
  Slices of numbers that came in (layer 32's laws).
-/
import Derived.Test.YtikfbgbfjipceaaRows
import Derived.Test.YtikfbgbfjipceaaA4
import Derived.WalkKit
import Derived.ProofKit
import Derived.ChangeSlices
namespace Go.Proofs.Ytikfbgbfjipceaa
open Go.ChangeShapes Go.WideShapes Go.ChangeAt Go.RowKit
open Go.ChangeShapes
theorem wf_u16 {n : Int} (h : (Lit.int .u16 n).wf = true) : 0 ≤ n ∧ n < 65536 := by
  have h1 : IntKind.u16.min = 0 := by decide
  have h2 : IntKind.u16.max = 65535 := by decide
  simp [Lit.wf, h1, h2] at h
  omega
/-- a slice of uint16 that came in -/
theorem open_u16s {H : Type} {enc : TypeId × Value → H} {W : World} {v : Value} {d : DataW H} {p : List MemPlace} {r : Reach} {b0 : Nat} (hv : Value.okWide Try.prog W r b0 37 v) (h : DataW.Trod enc Try.prog W 0 (fun _ => true) true 37 v d p) :
    ∃ (A : Option Addr) (n c : Nat) (l : List Int), v = .slice A n c ∧ n ≤ maxLen ∧ Sl W A n 1 (l.map u16C) ∧ (∀ x ∈ l, 0 ≤ x ∧ x < 65536) ∧ (A = none → n = 0 ∧ c = 0) := by
  obtain ⟨a0, len, cap, rfl⟩ := okWide_slice Try.underlying37 hv
  obtain ⟨fuel, hf⟩ := h
  rcases open_ints Try.underlying37 Try.underlying38 (by kernel_rfl) hf with ⟨hcs, hx⟩ | ⟨a, len', cap', zs, hcs, _, hl, hm, hz, hx, hcell, hwz⟩
  · simp only [Value.cells] at hcs
    injection hcs with hcs
    injection hcs with h1 h2 h3
    subst h1; subst h2; subst h3
    exact ⟨none, 0, 0, [], rfl, by omega, ⟨by simp, fun h => absurd h (by omega)⟩, by simp, fun _ => ⟨rfl, rfl⟩⟩
  · simp only [Value.cells] at hcs
    injection hcs with hcs
    injection hcs with h1 h2 h3
    subst h1; subst h2; subst h3
    simp only [if_true] at hz
    refine ⟨some a, len, cap, zs.take len, rfl, by omega, ⟨by simp; omega, fun hn => ?_⟩, fun x hx => wf_u16 (hwz x (List.mem_of_mem_take hx)), fun h => by cases h⟩
    have hc0 := hcell 0 (by omega)
    have ha0 : a.add 0 = a := rfl
    rw [ha0] at hc0
    obtain ⟨hae, hab⟩ := addr_of_cell hc0
    refine ⟨a.block, a.off, by rw [← hae], hab, fun q u hu => ?_⟩
    rw [List.getElem?_map, Option.map_eq_some_iff] at hu
    obtain ⟨z, hz1, rfl⟩ := hu
    rw [List.getElem?_take] at hz1
    split at hz1
    · next hq =>
      have hc := hcell q (by omega)
      have e2 : a.add q = ⟨a.block, a.off + q, none⟩ := by
        rw [hae]
        unfold Addr.add
        by_cases hq0 : q = 0
        · subst hq0; rfl
        · simp [hq0]
      rw [e2] at hc
      rw [hc]
      simp [List.getD, hz1, u16C]
    · cases hz1
end Go.Proofs.Ytikfbgbfjipceaa

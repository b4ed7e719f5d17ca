/-
  Variables that hold lists (layer 32's laws): storing.
-/
import Derived.Test.YtikfbgbfjipceaaC2
import Derived.Test.YtikfbgbfjipceaaPe
namespace Go.Proofs.Ytikfbgbfjipceaa
open Go.RowKit
theorem pair_at : ∀ (rs : List Rg), 0 < rs.length → ∃ a b, (rs.flatMap pairC)[0]? = some (.int .i64 a) ∧ (rs.flatMap pairC)[1]? = some (.int .i64 b)
  | [], h => absurd h (by decide)
  | x :: r, _ => ⟨x.1, x.2, rfl, rfl⟩
/-- a row of ranges does not lie in a variable -/
theorem Sl.ne_var {W : World} {A : Option Addr} {n : Nat} {rs : List Rg} {g : Nat} {low : Int} {v : Value} (h : Sl W A n 2 (rs.flatMap pairC)) (hv : ∀ k a, v ≠ .int k a) (hg : W.heap[g]? = some (.cells #[.int .i64 low, v] 25 (0, 0))) (hn : 0 < n) :
    ∃ b o, A = some ⟨b, o, none⟩ ∧ b < W.heap.size ∧ b ≠ g ∧ ∀ j u, (rs.flatMap pairC)[j]? = some u → W.cell? ⟨b, o + j, none⟩ = some u := by
  obtain ⟨b, o, e, hlt, hc⟩ := h.2 hn
  refine ⟨b, o, e, hlt, ?_, hc⟩
  rintro rfl
  obtain ⟨a1, a2, p1, p2⟩ := pair_at rs (by have := h.len2; omega)
  have c2 := hc 1 _ p2
  rw [cell_of_row _ _ _ _ 25 (0, 0) hg] at c2
  cases o with
  | zero => simp at c2; exact hv _ _ c2
  | succ o => simp at c2
theorem Sl.put {W : World} {A : Option Addr} {n : Nat} {rs : List Rg} {g : Nat} {low : Int} {v : Value} (h : Sl W A n 2 (rs.flatMap pairC)) (hv : ∀ k a, v ≠ .int k a) (hg : W.heap[g]? = some (.cells #[.int .i64 low, v] 25 (0, 0))) (x y : Value) :
    Sl ((W.setCell ⟨g, 0, none⟩ x).setCell ⟨g, 1, none⟩ y) A n 2 (rs.flatMap pairC) := by
  refine ⟨h.1, fun hn => ?_⟩
  obtain ⟨b, o, e, hlt, hne, hc⟩ := h.ne_var hv hg hn
  refine ⟨b, o, e, by simp [World.setCell]; exact hlt, fun j u hu => ?_⟩
  rw [World.cell?_setCell_other _ _ _ _ (by intro e; injection e with e; exact hne e.symm), World.cell?_setCell_other _ _ _ _ (by intro e; injection e with e; exact hne e.symm)]
  exact hc j u hu
section
variable {W : World} {g n c : Nat} {low : Int} {rs : List Rg} {A : Option Addr}
theorem Tv.put (h : Tv W g low rs A n c) {A' : Option Addr} {n' c' : Nat} {rs' : List Rg} (hS : Sl W A' n' 2 (rs'.flatMap pairC)) (hn : A' = none → n' = 0 ∧ c' = 0) (low' : Int) :
    Tv ((W.setCell ⟨g, 0, none⟩ (.int .i64 low')).setCell ⟨g, 1, none⟩ (.slice A' n' c')) g low' rs' A' n' c' :=
  ⟨set_blk (set_blk h.blk _) _, hS.put (by intro k a e; cases e) h.blk _ _, hn⟩
theorem Tv.keep {g2 n2 c2 : Nat} {low2 : Int} {rs2 : List Rg} {A2 : Option Addr} (h : Tv W g low rs A n c) (h2 : Tv W g2 low2 rs2 A2 n2 c2) (hne : g2 ≠ g) (x y : Value) :
    Tv ((W.setCell ⟨g, 0, none⟩ x).setCell ⟨g, 1, none⟩ y) g2 low2 rs2 A2 n2 c2 :=
  ⟨by rw [Below.heap_setCell _ _ _ _ hne, Below.heap_setCell _ _ _ _ hne]; exact h2.blk, h2.sl.put (by intro k a e; cases e) h.blk _ _, h2.nil_⟩
theorem Tv.f (h : Tv W g low rs A n c) (i : Nat) : W.frozen? ⟨g, i, none⟩ = false := by simp [World.frozen?, h.blk]
end
end Go.Proofs.Ytikfbgbfjipceaa

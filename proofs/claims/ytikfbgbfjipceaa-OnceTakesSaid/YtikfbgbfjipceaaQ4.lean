/-
  The variables of OnceTakes.
-/
import Derived.Test.YtikfbgbfjipceaaL6
import Derived.Test.YtikfbgbfjipceaaPh
namespace Go.Proofs.Ytikfbgbfjipceaa
open Go.RowKit
/-- a slice that does not lie in the row of v -/
def ApA (v : Value) (A : Option Addr) (n : Nat) : Prop := 0 < n → ∀ b o, A = some ⟨b, o, none⟩ → v.ownBlock ≠ some b
theorem Sl.grown {W W' : World} {A : Option Addr} {n size : Nat} {xs : List Value} {v : Value} (h : Sl W A n size xs) (hg : W.grownBy W' v.ownBlock) (ha : ApA v A n) : Sl W' A n size xs := by
  refine ⟨h.1, fun hn => ?_⟩
  obtain ⟨b, o, e, hlt, hc⟩ := h.2 hn
  exact ⟨b, o, e, Nat.lt_of_lt_of_le hlt hg.size, fun j u hu => (hg.cell_far ⟨b, o + j, none⟩ hlt (Ne.symm (ha hn b o e))).trans (hc j u hu)⟩
theorem Tv.grown {W W' : World} {g n c : Nat} {low : Int} {rs : List Rg} {A : Option Addr} {v : Value} (h : Tv W g low rs A n c) (hg : W.grownBy W' v.ownBlock) (ha : ApA v A n) (hne : v.ownBlock ≠ some g) : Tv W' g low rs A n c :=
  ⟨(hg.block _ h.lt (Ne.symm hne)).trans h.blk, h.sl.grown hg ha, h.nil_⟩
/-- the variables cur and taken -/
structure TkS (w : World) (g : Nat) (low : Int) (rs : List Rg) (A : Option Addr) (n c : Nat) (v : Value) (t : List Int) (W : World) : Prop where
  t0 : Tv W g low rs A n c
  own : W.ownsRow (g + 1) 38 1 v t.length (t.map u16C)
  ap : ApA v A n
  up : w.heap.size ≤ g
  bel : Below w.heap.size w W
section
variable {w W W' : World} {g n c : Nat} {low : Int} {rs : List Rg} {A : Option Addr} {v : Value} {t : List Int}
theorem TkS.start {w1 : World} (hb : Below w.heap.size w w1) : TkS w w1.heap.size 0 [] none 0 0 (.slice none 0 0) [] (w1.alloc (.cells #[.int .i64 0, .slice none 0 0] 25)) :=
  ⟨Tv.new (sl_nil w1) (fun _ => ⟨rfl, rfl⟩) 0, World.ownsRow_nil _ _ _ _, fun h => absurd h (by decide), hb.size, ba hb _⟩
theorem TkS.next (h : TkS w g low rs A n c v t W) (hb : Below W.heap.size W W') : TkS w g low rs A n c v t W' := ⟨h.t0.next hb, own_below h.own hb, h.ap, h.up, bt h.bel hb⟩
theorem TkS.drew (h : TkS w g low rs A n c v t W) : TkS w g low rs A n c v t W.drew := h.next (bd (n := 1) (Below.refl _ _))
theorem TkS.ne (h : TkS w g low rs A n c v t W) {b : Nat} (hb : b ≤ g) : v.ownBlock ≠ some b := fun e => by have := (h.own.lt _ e).1; omega
end
/-- and next -/
structure TwS (w : World) (g g2 : Nat) (low : Int) (rs : List Rg) (A : Option Addr) (n c : Nat) (low2 : Int) (rs2 : List Rg) (A2 : Option Addr) (n2 c2 : Nat) (v : Value) (t : List Int) (W : World) : Prop where
  s : TkS w g low rs A n c v t W
  t1 : Tv W g2 low2 rs2 A2 n2 c2
  ne2 : v.ownBlock ≠ some g2
  ap2 : ApA v A2 n2
  ng : g2 ≠ g
  up2 : w.heap.size ≤ g2
section
variable {w W W' : World} {g g2 n c n2 c2 : Nat} {low low2 : Int} {rs rs2 : List Rg} {A A2 : Option Addr} {v : Value} {t : List Int}
theorem TwS.next (h : TwS w g g2 low rs A n c low2 rs2 A2 n2 c2 v t W) (hb : Below W.heap.size W W') : TwS w g g2 low rs A n c low2 rs2 A2 n2 c2 v t W' := ⟨h.s.next hb, h.t1.next hb, h.ne2, h.ap2, h.ng, h.up2⟩
theorem TwS.drew (h : TwS w g g2 low rs A n c low2 rs2 A2 n2 c2 v t W) : TwS w g g2 low rs A n c low2 rs2 A2 n2 c2 v t W.drew := h.next (bd (n := 1) (Below.refl _ _))
theorem TwS.cells (h : TwS w g g2 low rs A n c low2 rs2 A2 n2 c2 v t W) : W.cell? ⟨g, 0, none⟩ = some (.int .i64 low) ∧ W.cell? ⟨g, 1, none⟩ = some (.slice A n c) ∧ W.cell? ⟨g2, 0, none⟩ = some (.int .i64 low2) ∧ W.cell? ⟨g2, 1, none⟩ = some (.slice A2 n2 c2) := ⟨h.s.t0.c0, h.s.t0.c1, h.t1.c0, h.t1.c1⟩
theorem Tv.put1 (h : Tv W g low rs A n c) {A' : Option Addr} {n' c' : Nat} {rs' : List Rg} (hS : Sl W A' n' 2 (rs'.flatMap pairC)) (hn : A' = none → n' = 0 ∧ c' = 0) (low' : Int) :
    Tv (W.setCell ⟨g, 0, none⟩ (.int .i64 low') |>.setCell ⟨g, 1, none⟩ (.slice A' n' c')) g low' rs' A' n' c' := h.put hS hn low'
/-- the call first, then the variable next -/
theorem TwS.mk1 {w1 : World} {A' : Option Addr} {n' c' : Nat} {rs' : List Rg} (h : TkS w g low rs A n c v t W) (hb : Below W.heap.size W w1) (hS : Sl w1 A' n' 2 (rs'.flatMap pairC)) (hn : A' = none → n' = 0 ∧ c' = 0) (hf : FreshA W A') (low' : Int) :
    TwS w g w1.heap.size low rs A n c low' rs' A' n' c' v t (w1.alloc (.cells #[.int .i64 low', .slice A' n' c'] 25)) := by
  have hz := hb.size
  have hl := h.t0.lt
  have hu := h.up
  refine ⟨(h.next hb).next (below_alloc _ _), Tv.new hS hn low', fun e => ?_, fun _ b o e e2 => ?_, by omega, by omega⟩
  · have := (h.own.lt _ e).2; omega
  · have := (h.own.lt _ e2).2
    have := hf b o e
    omega
/-- the variable next first -/
theorem TwS.mk2 {w1 : World} {A' : Option Addr} {n' c' : Nat} {rs' : List Rg} (h : TkS w g low rs A n c v t W) (hb : Below (W.alloc (.cells #[.int .i64 0, .slice none 0 0] 25)).heap.size (W.alloc (.cells #[.int .i64 0, .slice none 0 0] 25)) w1) (hS : Sl w1 A' n' 2 (rs'.flatMap pairC)) (hn : A' = none → n' = 0 ∧ c' = 0) (hf : FreshA (W.alloc (.cells #[.int .i64 0, .slice none 0 0] 25)) A') (low' : Int) :
    TwS w g W.heap.size low rs A n c low' rs' A' n' c' v t ((w1.setCell ⟨W.heap.size, 0, none⟩ (.int .i64 low')).setCell ⟨W.heap.size, 1, none⟩ (.slice A' n' c')) := by
  have hl := h.t0.lt
  have hu := h.up
  have h2 := (h.next (below_alloc W (.cells #[.int .i64 0, .slice none 0 0] 25))).next hb
  have h1 : Tv w1 W.heap.size 0 [] none 0 0 := (Tv.new (sl_nil W) (fun _ => ⟨rfl, rfl⟩) 0).next hb
  have hne : v.ownBlock ≠ some W.heap.size := fun e => by have := (h.own.lt _ e).2; omega
  have t0 := h1.keep h2.t0 (by omega) (.int .i64 low') (.slice A' n' c')
  refine ⟨⟨t0, ?_, h.ap, h.up, (h2.bel.setCell (by show w.heap.size ≤ W.heap.size; omega) _).setCell (by show w.heap.size ≤ W.heap.size; omega) _⟩, h1.put hS hn low', hne, fun _ b o e e2 => ?_, by omega, by omega⟩
  · exact ownsRow_setCell_other (ownsRow_setCell_other h2.own (a := ⟨W.heap.size, 0, none⟩) hne _) (a := ⟨W.heap.size, 1, none⟩) hne _
  · have := (h.own.lt _ e2).2
    have := hf b o e
    simp at this
    omega
/-- a number is noted -/
theorem TwS.app {cap gg k : Nat} {x : Int} (h : TwS w g g2 low rs A n c low2 rs2 A2 n2 c2 v t W) (hk : t.length = k) (hg : W.grownBy W' v.ownBlock) (ho : W'.ownsRow (g + 1) 38 1 (.slice (some ⟨gg, 0, none⟩) (k + 1) cap) (k + 1) (t.map u16C ++ [.int .u16 x])) (hat : v.ownBlock = some gg ∨ gg = W.heap.size) :
    TwS w g g2 low rs A n c low2 rs2 A2 n2 c2 (.slice (some ⟨gg, 0, none⟩) (k + 1) cap) (t ++ [x]) W' := by
  have hl := h.s.t0.lt
  have hl2 := h.t1.lt
  have far : ∀ (A0 : Option Addr) (m : Nat) (ys : List Rg), Sl W A0 m 2 (ys.flatMap pairC) → ApA v A0 m → ApA (.slice (some ⟨gg, 0, none⟩) (k + 1) cap) A0 m := by
    intro A0 m ys hs ha hm b o e he
    have he : gg = b := by simpa [Value.ownBlock] using he
    subst he
    rcases hat with h1 | h1
    · exact ha hm _ _ e h1
    · obtain ⟨b', o', e', hlt, _⟩ := hs.2 hm
      rw [e] at e'
      injection e' with e'
      injection e' with e' _
      omega
  have hne := h.s.ne (Nat.le_refl g)
  refine ⟨⟨h.s.t0.grown hg h.s.ap hne, ?_, far _ _ _ h.s.t0.sl h.s.ap, h.s.up, h.s.bel.grown hg h.s.bel.size (fun k hk => by have := (h.s.own.lt k hk).1; have := h.s.up; omega)⟩, h.t1.grown hg h.ap2 h.ne2, ?_, far _ _ _ h.t1.sl h.ap2, h.ng, h.up2⟩
  · simp only [List.length_append, List.length_cons, List.length_nil, Nat.zero_add, List.map_append, List.map_cons, List.map_nil, hk]
    exact ho
  · intro e
    have e : gg = g2 := by simpa [Value.ownBlock] using e
    subst e
    rcases hat with h1 | h1
    · exact h.ne2 h1
    · omega
/-- next becomes cur -/
theorem TwS.store (h : TwS w g g2 low rs A n c low2 rs2 A2 n2 c2 v t W) : TkS w g low2 rs2 A2 n2 c2 v t ((W.setCell ⟨g, 0, none⟩ (.int .i64 low2)).setCell ⟨g, 1, none⟩ (.slice A2 n2 c2)) := by
  refine ⟨h.s.t0.put h.t1.sl h.t1.nil_ low2, ?_, h.ap2, h.s.up, (h.s.bel.setCell (by exact h.s.up) _).setCell (by exact h.s.up) _⟩
  have hne := h.s.ne (Nat.le_refl g)
  exact ownsRow_setCell_other (ownsRow_setCell_other h.s.own (a := ⟨g, 0, none⟩) hne _) (a := ⟨g, 1, none⟩) hne _
end
end Go.Proofs.Ytikfbgbfjipceaa

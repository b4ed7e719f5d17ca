/-
  The contract of Take (layer 32).
-/
import Derived.Test.YtikfbgbfjipceaaB5
import Derived.Test.YtikfbgbfjipceaaPb
import Derived.Deep.RegionHeld3
import Derived.Deep.DeepCutAuto
import Derived.Deep.CutBlock
import Derived.Deep.LoopGhost
namespace Go.Proofs.Ytikfbgbfjipceaa
open Go.RowKit

/-- memory while Take runs: the argument's box, the result's block, the variable out, its ranges -/
structure TkSt (w : World) (low0 : Int) (A : Option Addr) (n c : Nat) (low : Int) (xs : List Rg) (go : Nat) (v : Value) (W : World) : Prop where
  box0 : W.cell? ⟨w.heap.size, 0, none⟩ = some (.int .i64 low0)
  box1 : W.cell? ⟨w.heap.size, 1, none⟩ = some (.slice A n c)
  res : W.heap[w.heap.size + 1]? = some (.cells #[.int .i64 0, .slice none 0 0] 25 (0, 0))
  out : W.heap[go]? = some (.cells #[.int .i64 low, v] 25 (0, 0))
  above : w.heap.size + 2 ≤ go
  own : W.ownsRow (w.heap.size + 2) 46 2 v xs.length (xs.flatMap pairC)
  bel : Below w.heap.size w W
section
variable {w W : World} {low0 low : Int} {A : Option Addr} {n c go : Nat} {xs : List Rg} {v : Value}
theorem TkSt.size (h : TkSt w low0 A n c low xs go v W) : go < W.heap.size := lt_of_block h.out
theorem TkSt.next {W' : World} (h : TkSt w low0 A n c low xs go v W) (hb : Below W.heap.size W W') : TkSt w low0 A n c low xs go v W' := by
  have h2 := h.size
  have h3 := h.above
  exact ⟨(hb.cell (p := ⟨w.heap.size, 0, none⟩) (by show w.heap.size < _; omega)).trans h.box0, (hb.cell (p := ⟨w.heap.size, 1, none⟩) (by show w.heap.size < _; omega)).trans h.box1, (hb.block _ (by omega)).trans h.res, (hb.block _ h2).trans h.out, h3, own_below h.own hb, bt h.bel hb⟩
theorem TkSt.out0 (h : TkSt w low0 A n c low xs go v W) : W.cell? ⟨go, 0, none⟩ = some (.int .i64 low) := by rw [cell_of_row _ _ _ _ 25 (0, 0) h.out]; rfl
theorem TkSt.out1 (h : TkSt w low0 A n c low xs go v W) : W.cell? ⟨go, 1, none⟩ = some v := by rw [cell_of_row _ _ _ _ 25 (0, 0) h.out]; rfl
theorem TkSt.res0 (h : TkSt w low0 A n c low xs go v W) : W.cell? ⟨w.heap.size + 1, 0, none⟩ = some (.int .i64 0) := by rw [cell_of_row _ _ _ _ 25 (0, 0) h.res]; rfl
theorem TkSt.res1 (h : TkSt w low0 A n c low xs go v W) : W.cell? ⟨w.heap.size + 1, 1, none⟩ = some (.slice none 0 0) := by rw [cell_of_row _ _ _ _ 25 (0, 0) h.res]; rfl
theorem TkSt.resF (h : TkSt w low0 A n c low xs go v W) (i : Nat) : W.frozen? ⟨w.heap.size + 1, i, none⟩ = false := by simp [World.frozen?, h.res]
theorem TkSt.outF (h : TkSt w low0 A n c low xs go v W) (i : Nat) : W.frozen? ⟨go, i, none⟩ = false := by simp [World.frozen?, h.out]
end
/-- a slice that lies in new memory -/
def FreshA (w : World) (A : Option Addr) : Prop := ∀ b o, A = some ⟨b, o, none⟩ → w.heap.size ≤ b
/-- what Take returns -/
def TakeOut (w w' : World) (t : Tk) (e : Ending) : Prop := ∃ A' c', e = .returned (.tuple #[listV t.low A' t.rs.length c', .bool t.ok]) ∧ Sl w' A' t.rs.length 2 (t.rs.flatMap pairC) ∧ Below w.heap.size w w' ∧ (A' = none → t.rs.length = 0 ∧ c' = 0)
/-- what Take returns, and that it is new -/
def TakeNew (w w' : World) (t : Tk) (e : Ending) : Prop := ∃ A' c', e = .returned (.tuple #[listV t.low A' t.rs.length c', .bool t.ok]) ∧ Sl w' A' t.rs.length 2 (t.rs.flatMap pairC) ∧ Below w.heap.size w w' ∧ (A' = none → t.rs.length = 0 ∧ c' = 0) ∧ (FreshA w A' ∧ t.rs.length ≤ c')

theorem set_blk {w : World} {g i : Nat} {cs : Array Value} {t : TypeId} (h : w.heap[g]? = some (.cells cs t (0, 0))) (u : Value) : (w.setCell ⟨g, i, none⟩ u).heap[g]? = some (.cells (cs.setIfInBounds i u) t (0, 0)) := by
  simp [World.setCell, Array.getElem?_modify, h]
theorem own_ne {w : World} {base : Nat} {v : Value} {n go : Nat} {xs : List Value} {cs : Array Value} (h : w.ownsRow base 46 2 v n xs) (hg : w.heap[go]? = some (.cells cs 25 (0, 0))) : v.ownBlock ≠ some go := by
  rcases h.2 with ⟨rfl, _⟩ | ⟨g', cap, cur, rfl, _, hh, _⟩
  · simp [Value.ownBlock]
  · intro he
    have : g' = go := by simpa [Value.ownBlock] using he
    subst this
    rw [hh] at hg
    injection hg with hg
    injection hg with _ hg
    exact absurd hg (by decide)
section
variable {w W : World} {low0 low : Int} {A : Option Addr} {n c go : Nat} {xs : List Rg} {v : Value}
theorem TkSt.setLow (h : TkSt w low0 A n c low xs go v W) (low' : Int) : TkSt w low0 A n c low' xs go v (W.setCell ⟨go, 0, none⟩ (.int .i64 low')) := by
  have h3 := h.above
  refine ⟨?_, ?_, ?_, set_blk h.out _, h3, ownsRow_setCell_other h.own (own_ne h.own h.out) _, h.bel.setCell (by show w.heap.size ≤ go; omega) _⟩
  · rw [World.cell?_setCell_other _ _ _ _ (by intro e; injection e with e; omega)]; exact h.box0
  · rw [World.cell?_setCell_other _ _ _ _ (by intro e; injection e with e; omega)]; exact h.box1
  · rw [Below.heap_setCell _ _ _ _ (by show _ ≠ go; omega)]; exact h.res
/-- the ranges have changed, and out has the new slice -/
theorem TkSt.grownV {W' : World} {v' : Value} {ys : List Rg} (h : TkSt w low0 A n c low xs go v W) (hg : W.grownBy W' v.ownBlock) (ho : W'.ownsRow (w.heap.size + 2) 46 2 v' ys.length (ys.flatMap pairC)) :
    TkSt w low0 A n c low ys go v' (W'.setCell ⟨go, 1, none⟩ v') := by
  have h3 := h.above
  have h2 := h.size
  have hne := own_ne h.own h.out
  have hge : ∀ k, v.ownBlock = some k → w.heap.size + 2 ≤ k := fun k hk => (h.own.lt k hk).1
  have hout : W'.heap[go]? = some (.cells #[.int .i64 low, v] 25 (0, 0)) := (hg.block go h2 (fun e => hne e.symm)).trans h.out
  have hbox : ∀ i, W'.cell? ⟨w.heap.size, i, none⟩ = W.cell? ⟨w.heap.size, i, none⟩ := fun i => World.cell?_of_block (hg.block _ (by show w.heap.size < _; omega) (fun e => by have := hge _ e.symm; simp at this; omega))
  refine ⟨?_, ?_, ?_, set_blk hout _, h3, ownsRow_setCell_other ho (own_ne ho hout) _, (h.bel.grown hg h.bel.size (fun k hk => by have := hge k hk; omega)).setCell (by show w.heap.size ≤ go; omega) _⟩
  · rw [World.cell?_setCell_other _ _ _ _ (by intro e; injection e with e; omega), hbox]; exact h.box0
  · rw [World.cell?_setCell_other _ _ _ _ (by intro e; injection e with e; omega), hbox]; exact h.box1
  · rw [Below.heap_setCell _ _ _ _ (by show _ ≠ go; omega), hg.block _ (by omega) (fun e => by have := hge _ e.symm; omega)]; exact h.res
/-- the ranges have changed in place -/
theorem TkSt.inPlace {W' : World} {ys : List Rg} (h : TkSt w low0 A n c low xs go v W) (hg : W.grownBy W' v.ownBlock) (ho : W'.ownsRow (w.heap.size + 2) 46 2 v ys.length (ys.flatMap pairC)) :
    TkSt w low0 A n c low ys go v W' := by
  have h3 := h.above
  have h2 := h.size
  have hne := own_ne h.own h.out
  have hge : ∀ k, v.ownBlock = some k → w.heap.size + 2 ≤ k := fun k hk => (h.own.lt k hk).1
  have hout : W'.heap[go]? = some (.cells #[.int .i64 low, v] 25 (0, 0)) := (hg.block go h2 (fun e => hne e.symm)).trans h.out
  have hbox : ∀ i, W'.cell? ⟨w.heap.size, i, none⟩ = W.cell? ⟨w.heap.size, i, none⟩ := fun i => World.cell?_of_block (hg.block _ (by show w.heap.size < _; omega) (fun e => by have := hge _ e.symm; simp at this; omega))
  exact ⟨(hbox 0).trans h.box0, (hbox 1).trans h.box1, (hg.block _ (by omega) (fun e => by have := hge _ e.symm; omega)).trans h.res, hout, h3, ho, h.bel.grown hg h.bel.size (fun k hk => by have := hge k hk; omega)⟩
end
theorem start_a {w w1 : World} {low : Int} {A A1 : Option Addr} {n c k1 : Nat} {rs : List Rg} (hl : rs.length = n)
    (hb1 : Below ((w.alloc (.cells #[.int .i64 low, .slice A n c] 25)).alloc (.cells #[.int .i64 0, .slice none 0 0] 25)).drew.heap.size ((w.alloc (.cells #[.int .i64 low, .slice A n c] 25)).alloc (.cells #[.int .i64 0, .slice none 0 0] 25)).drew w1)
    (ho : w1.ownsRow ((w.alloc (.cells #[.int .i64 low, .slice A n c] 25)).alloc (.cells #[.int .i64 0, .slice none 0 0] 25)).drew.heap.size 46 2 (.slice A1 n k1) n (rs.flatMap pairC)) :
    TkSt w low A n c low rs w1.heap.size (.slice A1 n k1) (w1.alloc (.cells #[.int .i64 low, .slice A1 n k1] 25)) := by
  have hs := hb1.size
  simp at hs
  have hc0 := hb1.cell (p := ⟨w.heap.size, 0, none⟩) (by simp; omega)
  have hc1 := hb1.cell (p := ⟨w.heap.size, 1, none⟩) (by simp; omega)
  simp [go_sem] at hc0 hc1
  refine ⟨?_, ?_, ?_, heap_alloc_new w1 _, by omega, ?_, ?_⟩
  · rw [World.cell?_alloc_lt w1 _ _ (by show w.heap.size < _; omega)]; exact hc0
  · rw [World.cell?_alloc_lt w1 _ _ (by show w.heap.size < _; omega)]; exact hc1
  · rw [Below.heap_alloc w1 _ _ (by omega), hb1.block _ (by simp)]
    have := heap_alloc_new (w.alloc (.cells #[.int .i64 low, .slice A n c] 25)) (.cells #[.int .i64 0, .slice none 0 0] 25)
    rw [show (w.alloc (.cells #[.int .i64 low, .slice A n c] 25)).heap.size = w.heap.size + 1 by simp] at this
    exact this
  · rw [hl]
    simpa using ho.alloc _
  · exact ba (bt (bd (n := 1) (ba (below_alloc w _) _)) hb1) _
theorem start_b {w w1 : World} {low : Int} {A A1 : Option Addr} {n c k1 : Nat} {rs : List Rg} (hl : rs.length = n)
    (hb1 : Below (((w.alloc (.cells #[.int .i64 low, .slice A n c] 25)).alloc (.cells #[.int .i64 0, .slice none 0 0] 25)).alloc (.cells #[.int .i64 0, .slice none 0 0] 25)).drew.heap.size (((w.alloc (.cells #[.int .i64 low, .slice A n c] 25)).alloc (.cells #[.int .i64 0, .slice none 0 0] 25)).alloc (.cells #[.int .i64 0, .slice none 0 0] 25)).drew w1)
    (ho : w1.ownsRow (((w.alloc (.cells #[.int .i64 low, .slice A n c] 25)).alloc (.cells #[.int .i64 0, .slice none 0 0] 25)).alloc (.cells #[.int .i64 0, .slice none 0 0] 25)).drew.heap.size 46 2 (.slice A1 n k1) n (rs.flatMap pairC)) :
    TkSt w low A n c low rs (w.heap.size + 2) (.slice A1 n k1) ((w1.setCell ⟨w.heap.size + 1 + 1, 0, none⟩ (.int .i64 low)).setCell ⟨w.heap.size + 1 + 1, 1, none⟩ (.slice A1 n k1)) := by
  have hs := hb1.size
  simp at hs
  have hc0 := hb1.cell (p := ⟨w.heap.size, 0, none⟩) (by simp; omega)
  have hc1 := hb1.cell (p := ⟨w.heap.size, 1, none⟩) (by simp; omega)
  simp [go_sem] at hc0 hc1
  have hres : w1.heap[w.heap.size + 1]? = some (.cells #[.int .i64 0, .slice none 0 0] 25 (0, 0)) := by
    rw [hb1.block _ (by simp)]
    have := Below.heap_alloc ((w.alloc (.cells #[.int .i64 low, .slice A n c] 25)).alloc (.cells #[.int .i64 0, .slice none 0 0] 25)) (.cells #[.int .i64 0, .slice none 0 0] 25) (w.heap.size + 1) (by simp)
    refine Eq.trans this ?_
    have := heap_alloc_new (w.alloc (.cells #[.int .i64 low, .slice A n c] 25)) (.cells #[.int .i64 0, .slice none 0 0] 25)
    rw [show (w.alloc (.cells #[.int .i64 low, .slice A n c] 25)).heap.size = w.heap.size + 1 by simp] at this
    exact this
  have hout : w1.heap[w.heap.size + 2]? = some (.cells #[.int .i64 0, .slice none 0 0] 25 (0, 0)) := by
    rw [hb1.block _ (by simp)]
    have := heap_alloc_new ((w.alloc (.cells #[.int .i64 low, .slice A n c] 25)).alloc (.cells #[.int .i64 0, .slice none 0 0] 25)) (.cells #[.int .i64 0, .slice none 0 0] 25)
    rw [show ((w.alloc (.cells #[.int .i64 low, .slice A n c] 25)).alloc (.cells #[.int .i64 0, .slice none 0 0] 25)).heap.size = w.heap.size + 2 by simp] at this
    exact this
  have hne := own_ne ho hout
  have ho' : w1.ownsRow (w.heap.size + 2) 46 2 (.slice A1 n k1) rs.length (rs.flatMap pairC) := by
    rw [hl]
    obtain ⟨h1, h2⟩ := ho
    refine ⟨h1, ?_⟩
    rcases h2 with h2 | ⟨g, cap, cur, e1, e2, e3⟩
    · exact Or.inl h2
    · exact Or.inr ⟨g, cap, cur, e1, by simp at e2; omega, e3⟩
  have e2 : (⟨w.heap.size + 1 + 1, 0, none⟩ : Addr) = ⟨w.heap.size + 2, 0, none⟩ := rfl
  refine ⟨?_, ?_, ?_, set_blk (set_blk hout _) _, by omega, ownsRow_setCell_other (ownsRow_setCell_other ho' hne _) hne _, ?_⟩
  · rw [World.cell?_setCell_other _ _ _ _ (by intro e; injection e with e; omega), World.cell?_setCell_other _ _ _ _ (by intro e; injection e with e; omega)]; exact hc0
  · rw [World.cell?_setCell_other _ _ _ _ (by intro e; injection e with e; omega), World.cell?_setCell_other _ _ _ _ (by intro e; injection e with e; omega)]; exact hc1
  · rw [Below.heap_setCell _ _ _ _ (by show _ ≠ w.heap.size + 1 + 1; omega), Below.heap_setCell _ _ _ _ (by show _ ≠ w.heap.size + 1 + 1; omega)]; exact hres
  · exact ((bt (bd (n := 1) (ba (ba (below_alloc w _) _) _)) hb1).setCell (by show w.heap.size ≤ w.heap.size + 1 + 1; omega) _).setCell (by show w.heap.size ≤ w.heap.size + 1 + 1; omega) _

theorem TkSt.fin {w W : World} {low0 low : Int} {A A1 : Option Addr} {n c go m k1 : Nat} {xs : List Rg} (h : TkSt w low0 A n c low xs go (.slice A1 m k1) W) (a b : Value) :
    Sl ((W.setCell ⟨w.heap.size + 1, 0, none⟩ a).setCell ⟨w.heap.size + 1, 1, none⟩ b) A1 m 2 (xs.flatMap pairC) ∧ Below w.heap.size w ((W.setCell ⟨w.heap.size + 1, 0, none⟩ a).setCell ⟨w.heap.size + 1, 1, none⟩ b) ∧ (A1 = none → m = 0 ∧ k1 = 0) ∧ m = xs.length ∧ (FreshA w A1 ∧ m ≤ k1) := by
  have hne : (Value.slice A1 m k1).ownBlock ≠ some (w.heap.size + 1) := fun e => by have := (h.own.lt _ e).1; omega
  have ho := ownsRow_setCell_other (ownsRow_setCell_other h.own (a := ⟨w.heap.size + 1, 0, none⟩) hne a) (a := ⟨w.heap.size + 1, 1, none⟩) hne b
  have hm : m = xs.length := by
    rcases h.own.2 with ⟨e, e2⟩ | ⟨g, cap, cur, e, _⟩
    · injection e with _ e1; omega
    · injection e with _ e1; 
  obtain ⟨A2, c2, e, hs, hle, _⟩ := Sl.of_own ho
  injection e with e1 e2 e3
  subst e1; subst e3
  refine ⟨by rw [e2]; exact hs, (h.bel.setCell (by show w.heap.size ≤ w.heap.size + 1; omega) _).setCell (by show w.heap.size ≤ w.heap.size + 1; omega) _, fun hn => ?_, hm, fun b' o' e => by subst e; have := (h.own.lt b' rfl).1; omega, by omega⟩
  subst hn
  rcases h.own.2 with ⟨e, e2⟩ | ⟨g, cap, cur, e, _⟩
  · injection e with _ e1 e2; exact ⟨e1, e2⟩
  · injection e with e1; cases e1
theorem TkSt.sl {w W : World} {low0 low : Int} {A A1 : Option Addr} {n c go m k1 : Nat} {xs : List Rg} (h : TkSt w low0 A n c low xs go (.slice A1 m k1) W) : Sl W A1 m 2 (xs.flatMap pairC) ∧ m ≤ k1 := by
  obtain ⟨A2, c2, e, hs, hle, _⟩ := Sl.of_own h.own
  injection e with e1 e2 e3
  subst e1; subst e3
  exact ⟨by rw [e2]; exact hs, by omega⟩
theorem TkSt.outG {w W W' : World} {low0 low : Int} {A : Option Addr} {n c go : Nat} {xs : List Rg} {v : Value} (h : TkSt w low0 A n c low xs go v W) (hg : W.grownBy W' v.ownBlock) (i : Nat) :
    W'.cell? ⟨go, i, none⟩ = W.cell? ⟨go, i, none⟩ ∧ W'.frozen? ⟨go, i, none⟩ = false := by
  have hb := hg.block go h.size (fun e => own_ne h.own h.out e.symm)
  exact ⟨World.cell?_of_block hb, by rw [World.frozen?_of_block hb]; exact h.outF i⟩
theorem set_flat1 : ∀ (rs : List Rg) (i : Nat) (a : Int) (r : Rg), rs[i]? = some r → (rs.set i (a, r.2)).flatMap pairC = (rs.flatMap pairC).set (i * 2) (.int .i64 a)
  | [], i, a, r, h => by simp at h
  | y :: rs, 0, a, r, h => by simp at h; subst h; rfl
  | y :: rs, i + 1, a, r, h => by
    have := set_flat1 rs i a r (by simpa using h)
    simp only [List.set_cons_succ, List.flatMap_cons, this, pairC, Nat.add_mul]
    rfl
theorem set_flat2 : ∀ (rs : List Rg) (i : Nat) (a : Int) (r : Rg), rs[i]? = some r → (rs.set i (r.1, a)).flatMap pairC = (rs.flatMap pairC).set (i * 2 + 1) (.int .i64 a)
  | [], i, a, r, h => by simp at h
  | y :: rs, 0, a, r, h => by simp at h; subst h; rfl
  | y :: rs, i + 1, a, r, h => by
    have := set_flat2 rs i a r (by simpa using h)
    simp only [List.set_cons_succ, List.flatMap_cons, this, pairC, Nat.add_mul]
    rfl
theorem grown_setCell (w : World) (g i : Nat) (u : Value) : w.grownBy (w.setCell ⟨g, i, none⟩ u) (some g) := ⟨rfl, rfl, rfl, by simp [World.setCell], fun k _ hk => Below.heap_setCell w _ u k (fun e => hk (by rw [e]))⟩
theorem getD_of {rs : List Rg} {i : Nat} {r : Rg} (h : rs[i]? = some r) : rs.getD i (0, 0) = r := by simp [List.getD, h]
/-- memory while Take drops ranges -/
structure LpSt (w : World) (low : Int) (ys : List Rg) (go : Nat) (A : Option Addr) (m c : Nat) (W : World) : Prop where
  res : W.heap[w.heap.size + 1]? = some (.cells #[.int .i64 0, .slice none 0 0] 25 (0, 0))
  out : W.heap[go]? = some (.cells #[.int .i64 low, .slice A m c] 25 (0, 0))
  above : w.heap.size + 2 ≤ go
  len : ys.length = m
  cap : m ≤ c
  big : c ≤ 9223372036854775807
  sl : 0 < m → ∃ b o, A = some ⟨b, o, none⟩ ∧ b < W.heap.size ∧ b ≠ go ∧ b ≠ w.heap.size + 1 ∧ ∀ j u, (ys.flatMap pairC)[j]? = some u → W.cell? ⟨b, o + j, none⟩ = some u
  nil_ : A = none → m = 0 ∧ c = 0
  bel : Below w.heap.size w W
  fresh : FreshA w A
theorem TkSt.loop {w W : World} {low0 low : Int} {A A1 : Option Addr} {n c go m k1 : Nat} {xs : List Rg} (h : TkSt w low0 A n c low xs go (.slice A1 m k1) W) : LpSt w low xs go A1 m k1 W := by
  have hf := h.fin (.int .i64 0) (.slice none 0 0)
  have hs := h.sl
  have hne := own_ne h.own h.out
  refine ⟨h.res, h.out, h.above, hf.2.2.2.1.symm, hs.2, ?_, fun hm => ?_, hf.2.2.1, h.bel, hf.2.2.2.2.1⟩
  · rcases h.own.2 with ⟨e, _⟩ | ⟨g, cap, cur, e, _, _, _, hc, _⟩
    · injection e with _ _ e3; omega
    · injection e with _ _ e3; simp only [maxLen] at hc; omega
  · obtain ⟨b, o, e, hlt, hc⟩ := hs.1.2 hm
    subst e
    refine ⟨b, o, rfl, hlt, fun e => hne (by simp [Value.ownBlock, e]), fun e => ?_, hc⟩
    have := (h.own.lt b rfl).1
    omega
section
variable {w W : World} {low : Int} {ys : List Rg} {go m c : Nat} {A : Option Addr}
theorem LpSt.out0 (h : LpSt w low ys go A m c W) : W.cell? ⟨go, 0, none⟩ = some (.int .i64 low) := by rw [cell_of_row _ _ _ _ 25 (0, 0) h.out]; rfl
theorem LpSt.out1 (h : LpSt w low ys go A m c W) : W.cell? ⟨go, 1, none⟩ = some (.slice A m c) := by rw [cell_of_row _ _ _ _ 25 (0, 0) h.out]; rfl
theorem LpSt.res0 (h : LpSt w low ys go A m c W) : W.cell? ⟨w.heap.size + 1, 0, none⟩ = some (.int .i64 0) := by rw [cell_of_row _ _ _ _ 25 (0, 0) h.res]; rfl
theorem LpSt.res1 (h : LpSt w low ys go A m c W) : W.cell? ⟨w.heap.size + 1, 1, none⟩ = some (.slice none 0 0) := by rw [cell_of_row _ _ _ _ 25 (0, 0) h.res]; rfl
theorem LpSt.resF (h : LpSt w low ys go A m c W) (i : Nat) : W.frozen? ⟨w.heap.size + 1, i, none⟩ = false := by simp [World.frozen?, h.res]
theorem LpSt.outF (h : LpSt w low ys go A m c W) (i : Nat) : W.frozen? ⟨go, i, none⟩ = false := by simp [World.frozen?, h.out]
theorem LpSt.drew (h : LpSt w low ys go A m c W) (q : Nat) : LpSt w low ys go A m c (W.drewN q) := ⟨h.res, h.out, h.above, h.len, h.cap, h.big, h.sl, h.nil_, bd h.bel, h.fresh⟩
/-- the first range goes -/
theorem LpSt.step {x : Rg} {r : List Rg} {b o : Nat} (h : LpSt w low (x :: r) go (some ⟨b, o, none⟩) (m + 1) c W) (A' : Option Addr) (hA : A' = if c = 1 then some ⟨b, o, none⟩ else some ⟨b, o + 2, none⟩) :
    LpSt w x.2 r go A' m (c - 1) ((W.setCell ⟨go, 0, none⟩ (.int .i64 x.2)).setCell ⟨go, 1, none⟩ (.slice A' m (c - 1))) := by
  have h3 := h.above
  have hl := h.len
  have hc := h.cap
  obtain ⟨b', o', e, hlt, hn1, hn2, hcell⟩ := h.sl (by omega)
  injection e with e
  injection e with e1 e2
  subst e1; subst e2
  refine ⟨?_, set_blk (set_blk h.out _) _, h3, by simpa using hl, by omega, by have := h.big; omega, fun hm => ?_, fun hn => ?_, (h.bel.setCell (by show w.heap.size ≤ go; omega) _).setCell (by show w.heap.size ≤ go; omega) _, fun b' o' e => ?_⟩
  · rw [Below.heap_setCell _ _ _ _ (by show _ ≠ go; omega), Below.heap_setCell _ _ _ _ (by show _ ≠ go; omega)]; exact h.res
  · refine ⟨b, o + 2, by rw [hA, if_neg (by omega)], by simp [World.setCell]; exact hlt, hn1, hn2, fun j u hu => ?_⟩
    rw [World.cell?_setCell_other _ _ _ _ (by intro e; injection e with e; exact hn1 e.symm), World.cell?_setCell_other _ _ _ _ (by intro e; injection e with e; exact hn1 e.symm)]
    have := hcell (2 + j) u (by simp only [List.flatMap_cons, pairC]; rw [show 2 + j = j + 2 by omega]; simpa using hu)
    rw [← Nat.add_assoc] at this
    exact this
  · rw [hA] at hn
    split at hn <;> cases hn
  · have hfr := h.fresh b o rfl
    rw [hA] at e
    split at e <;> (injection e with e; injection e with e1 e2; omega)
theorem LpSt.fin (h : LpSt w low ys go A m c W) (a b : Value) :
    Sl ((W.setCell ⟨w.heap.size + 1, 0, none⟩ a).setCell ⟨w.heap.size + 1, 1, none⟩ b) A m 2 (ys.flatMap pairC) ∧ Below w.heap.size w ((W.setCell ⟨w.heap.size + 1, 0, none⟩ a).setCell ⟨w.heap.size + 1, 1, none⟩ b) := by
  refine ⟨⟨by rw [pair_len, h.len], fun hm => ?_⟩, (h.bel.setCell (by show w.heap.size ≤ w.heap.size + 1; omega) _).setCell (by show w.heap.size ≤ w.heap.size + 1; omega) _⟩
  obtain ⟨b', o', e, hlt, hn1, hn2, hcell⟩ := h.sl hm
  refine ⟨b', o', e, by simp [World.setCell]; exact hlt, fun j u hu => ?_⟩
  rw [World.cell?_setCell_other _ _ _ _ (by intro e; injection e with e; exact hn2 e.symm), World.cell?_setCell_other _ _ _ _ (by intro e; injection e with e; exact hn2 e.symm)]
  exact hcell j u hu
end
def dropFrom (most low0 : Int) (ys0 : List Rg) (low : Int) (ys : List Rg) : Prop := dropP most low0 ys0 = dropP most low ys

set_option maxRecDepth 100000 in
set_option maxHeartbeats 8000000 in
theorem take_new (low x most : Int) (A : Option Addr) (n c : Nat) (rs : List Rg) (w : World) (hS : Sl w A n 2 (rs.flatMap pairC)) (hn : n ≤ 100000) (hA : A = none → n = 0 ∧ c = 0) :
    Calls Try.prog 8 #[listV low A n c, .int .i64 x, .int .i64 most] w fun e w' => TakeNew w w' (takeP low rs x most) e := by
  have HA := Lib.hid hA
  have HL := Lib.hid hS.len2
  clear hA
  unfold listV
  go_enter Try.func8, Try.ntmps8
  go_upto_region 1 with fail
  go_cut [8] (fun s8 W => ∃ (go : Nat) (A1 : Option Addr) (k1 : Nat), s8 = .pointer (some ⟨go, 0, none⟩) ∧ TkSt w low A n c low rs go (.slice A1 n k1) W)
  case first =>
    go_region_held3 (fun w' => w'.cell? ⟨w.heap.size, 0, none⟩ = some (.int .i64 low) ∧ w'.cell? ⟨w.heap.size, 1, none⟩ = some (.slice A n c)) (first | go_keep | (refine ⟨?_, ?_⟩ <;> ((repeat rw [World.cell?_setCell_other _ _ _ _ (by intro h; injection h with h; omega)]); assumption)))
      (first | (go_at_call 19; refine (clone_any A n c rs _ (by repeat (first | exact hS | apply Sl.alloc | exact Sl.drewN (w := (w.alloc _).alloc _) ((hS.alloc _).alloc _) 1)) (by omega) HA.out).mono ?_; rintro e w1 ⟨v, rfl, ho, hb1⟩; obtain ⟨A1, k1, rfl, hS1, hk1, _⟩ := Sl.of_own ho; obtain ⟨hbc, hbf⟩ := bcell hb1; have hz := hb1.size; simp at hz; have hc0 : w1.cell? ⟨w.heap.size, 0, none⟩ = some (.int .i64 low) := (by rw [hbc _ _ (by simp; omega)]; simp [go_sem]); have hc1 : w1.cell? ⟨w.heap.size, 1, none⟩ = some (.slice A n c) := (by rw [hbc _ _ (by simp; omega)]; simp [go_sem]); have hq0 := hbc (w.heap.size + 2) 0; simp [go_sem] at hq0; have hq1 := hbc (w.heap.size + 2) 1; simp [go_sem] at hq1; have hq2 := hbf (w.heap.size + 2) 0; simp [go_sem] at hq2; have hq3 := hbf (w.heap.size + 2) 1; simp [go_sem] at hq3; clear hbc hbf))
    · go_wp2_with fail
      go_meet
      exact ⟨_, A1, k1, rfl, start_a HL.out hb1 ho⟩
    · go_wp2_with fail
      go_meet
      exact ⟨w.heap.size + 2, A1, k1, rfl, start_b HL.out hb1 ho⟩
  case rest =>
    obtain ⟨go, A1, k1, rfl, hst⟩ := hcut
    have hbx0 := hst.box0
    have hbx1 := hst.box1
    cases hbad : badT low rs x most
    · have hgood : rightB low rs = true ∧ 0 ≤ x ∧ x < 1099511627776 ∧ 0 ≤ most ∧ hasB low rs x = false := by
        simp only [badT, Bool.or_eq_false_iff, decide_eq_false_iff_not, Bool.not_eq_false'] at hbad
        exact ⟨hbad.1.1.1.1, by omega, by omega, by omega, hbad.2⟩
      obtain ⟨hr, hx0, hx1, hm0, hh⟩ := hgood
      have HR := Lib.hid hr
      have HH := Lib.hid hh
      have HBAD := Lib.hid hbad
      have hch : chainB low rs = true := by simp only [rightB, Bool.and_eq_true] at hr; exact hr.1.1.1
      have HCH := Lib.hid hch
      clear hr hh hbad hch
      go_wp2_with fail
      refine (right_any low A n c rs _ (hS.below hst.bel) (by omega)).mono ?_
      rintro e w2 ⟨rfl, hb2⟩
      rw [HR.out]
      have hst2 := hst.next hb2
      clear hst hb2 hbx0 hbx1
      have hby0 := hst2.box0
      have hby1 := hst2.box1
      go_wp2_with fail
      refine (has_any low x A n c rs _ (hS.below hst2.bel) (by omega)).mono ?_
      rintro e w3 ⟨rfl, hb3⟩
      rw [HH.out]
      have hst3 := hst2.next hb3
      clear hst2 hby0 hby1 hb3
      have hbz0 := hst3.box0
      have hbz1 := hst3.box1
      go_wp2_with fail
      refine (at_any low x A n c rs _ (hS.below hst3.bel) (by omega) HCH.out).mono ?_
      rintro e w4 ⟨rfl, hb4⟩
      have hst4 := hst3.next hb4
      clear hst3 hbz0 hbz1 hb4
      have hile := atN_le rs x
      rw [HL.out] at hile
      generalize hi : atN rs x = i at *
      have HI := Lib.hid hi
      clear hi
      go_upto_region 5 with fail
      go_cut [10] (fun s10 W => s10 = .bool (bef rs i x) ∧ TkSt w low A n c low rs go (.slice A1 n k1) W)
      case first =>
        have ho0 := hst4.out0
        have ho1 := hst4.out1
        have hsl := hst4.sl
        obtain ⟨hsl, hnk⟩ := hsl
        have HST := Lib.hid hst4
        clear hst4
        by_cases hi0 : 0 < i
        · obtain ⟨j, rfl⟩ : ∃ j, i = j + 1 := ⟨i - 1, by omega⟩
          obtain ⟨b, o, r, rfl, hb0, hX, hc0, hc1⟩ := hsl.pair j (by omega)
          have HX := Lib.hid hX
          clear hX
          go_wp2_with fail
          go_meet
          refine ⟨?_, HST.out⟩
          have e := getD_of HX.out
          simp only [bef, Nat.add_sub_cancel, e]
          congr 1
        · obtain rfl : i = 0 := by omega
          go_wp2_with fail
          go_meet
          exact ⟨by simp [bef], HST.out⟩
      case rest =>
        obtain ⟨rfl, hst5⟩ := hcut
        go_upto_region 6 with fail
        go_cut [11] (fun s11 W => s11 = .bool (aft rs i x) ∧ TkSt w low A n c low rs go (.slice A1 n k1) W)
        case first =>
          have ho0 := hst5.out0
          have ho1 := hst5.out1
          have hsl := hst5.sl
          obtain ⟨hsl, hnk⟩ := hsl
          have HST := Lib.hid hst5
          clear hst5
          by_cases hin : i < n
          · obtain ⟨b, o, r, rfl, hb0, hX, hc0, hc1⟩ := hsl.pair i hin
            have HX := Lib.hid hX
            clear hX
            go_wp2_with fail
            go_meet
            refine ⟨?_, HST.out⟩
            have e := getD_of HX.out
            have hil : i < rs.length := by rw [HL.out]; exact hin
            simp only [aft, e, hil]
            congr 1
          · go_wp2_with fail
            go_meet
            refine ⟨?_, HST.out⟩
            have hil : ¬ i < rs.length := by rw [HL.out]; exact hin
            simp [aft, hil]
        case rest =>
          obtain ⟨rfl, hst6⟩ := hcut
          go_upto_block 0 with fail
          go_cut [10, 11] (fun _ _ W => ∃ (A2 : Option Addr) (m2 k2 : Nat), TkSt w low A n c low (placeI rs i x) go (.slice A2 m2 k2) W)
          case first =>
            have htok : True := trivial -- KEEPDEV
            have ho0 := hst6.out0
            have ho1 := hst6.out1
            have hsz6 := hst6.size
            have hf1 := hst6.outF 1
            have hsl := hst6.sl
            obtain ⟨hsl, hnk⟩ := hsl
            have hbase : w.heap.size + 2 ≤ wc.heap.size := by have := hst6.above; omega
            have hown6 := hst6.own
            rw [HL.out] at hown6
            have HOWN := Lib.hid hown6
            clear hown6
            cases hbf : bef rs i x
            · cases haf : aft rs i x
              · have HPL := Lib.hid (show placeI rs i x = insAt rs i (x, x + 1) by simp [placeI, hbf, haf, insAt])
                have HST := Lib.hid (hst6.next (below_alloc wc (.cells #[.int .i64 x, .int .i64 (x + 1)] 46)))
                clear hst6
                have HBF := Lib.hid hbf
                have HAF := Lib.hid haf
                clear hbf haf
                go_wp2_with fail
                refine (insert_any (.slice A1 n k1) n i wc.heap.size (w.heap.size + 2) rs (x, x + 1) _ (HOWN.out.alloc _) (by simp; omega) (by omega) hile (heap_alloc_new wc _) (fun e => by have := (HOWN.out.lt _ e).2; omega)).mono ?_
                rintro e w5 ⟨v', rfl, ho', hg'⟩
                obtain ⟨A2, k2, rfl, _, _⟩ := Sl.of_own ho'
                have hg1 := HST.out.outG hg' 1
                have hc1 := hg1.1.trans HST.out.out1
                have hf2 := hg1.2
                have hlen : n + 1 = (insAt rs i (x, x + 1)).length := by have := HL.out; simp [insAt]; omega
                have HFIN := Lib.hid (HST.out.grownV (ys := insAt rs i (x, x + 1)) hg' (by rw [← hlen]; exact ho'))
                clear hg1 ho' hg' hlen
                go_wp2_with fail
                go_meet
                exact ⟨A2, n + 1, k2, by rw [HPL.out]; exact HFIN.out⟩
              · have hain : i < n := by have := HL.out; simp only [aft, Bool.and_eq_true, decide_eq_true_eq] at haf; omega
                obtain ⟨g, cap, hv, _, _, hR⟩ := RowAt.of_own HOWN.out (by omega)
                injection hv with hv1 _ hv3
                subst hv1; subst hv3
                obtain ⟨b, o, r, hb, _, hX, hc0, hc1⟩ := hsl.pair i hain
                injection hb with hb
                injection hb with hb1 hb2
                subst hb1; subst hb2
                simp only [Nat.zero_add] at hc0 hc1
                have hpl : placeI rs i x = rs.set i (x, r.2) := by simp [placeI, hbf, haf, hX]
                have HPL := Lib.hid hpl
                have hfz : wc.frozen? ⟨g, i * 2, none⟩ = false := HOWN.out.frozenAt _
                have hst := HOWN.out.stored (i * 2) (.int .i64 x)
                have hst := hst.1
                rw [← set_flat1 rs i x r hX] at hst
                have HST := Lib.hid (hst6.inPlace (ys := rs.set i (x, r.2)) (grown_setCell wc g (i * 2) (.int .i64 x)) (by rw [List.length_set, HL.out]; exact hst))
                clear hpl hst hX hst6 hR
                have HBF := Lib.hid hbf
                have HAF := Lib.hid haf
                clear hbf haf
                go_wp2_with fail
                go_meet
                exact ⟨_, n, k1, by rw [HPL.out]; exact HST.out⟩
            · have hbi : 0 < i := by simp only [bef, Bool.and_eq_true, decide_eq_true_eq] at hbf; exact hbf.1
              obtain ⟨j, rfl⟩ : ∃ j, i = j + 1 := ⟨i - 1, by omega⟩
              obtain ⟨g, cap, hv, hbg, hcm, hR⟩ := RowAt.of_own HOWN.out (by omega)
              injection hv with hv1 _ hv3
              subst hv1; subst hv3
              obtain ⟨b, o, r, hb, _, hX, hc0, hc1⟩ := hsl.pair j (by omega)
              injection hb with hb
              injection hb with hb1 hb2
              subst hb1; subst hb2
              simp only [Nat.zero_add] at hc0 hc1
              have hfz : wc.frozen? ⟨g, j * 2 + 1, none⟩ = false := HOWN.out.frozenAt _
              cases haf : aft rs (j + 1) x
              · have hpl : placeI rs (j + 1) x = rs.set j (r.1, x + 1) := by simp [placeI, hbf, haf, hX]
                have HPL := Lib.hid hpl
                have hst := HOWN.out.stored (j * 2 + 1) (.int .i64 (x + 1))
                have hst := hst.1
                rw [← set_flat2 rs j (x + 1) r hX] at hst
                have HST := Lib.hid (hst6.inPlace (ys := rs.set j (r.1, x + 1)) (grown_setCell wc g (j * 2 + 1) (.int .i64 (x + 1))) (by rw [List.length_set, HL.out]; exact hst))
                clear hpl hst hX hst6 hR
                have HBF := Lib.hid hbf
                have HAF := Lib.hid haf
                clear hbf haf
                go_wp2_with fail
                go_meet
                exact ⟨_, n, k1, by rw [HPL.out]; exact HST.out⟩
              · have hain : j + 1 < n := by have := HL.out; simp only [aft, Bool.and_eq_true, decide_eq_true_eq] at haf; omega
                obtain ⟨k, rfl⟩ : ∃ k, n = k + 1 := ⟨n - 1, by omega⟩
                obtain ⟨b, o, r2, hb, _, hX2, hd0, hd1⟩ := hsl.pair (j + 1) hain
                injection hb with hb
                injection hb with hb1 hb2
                subst hb1; subst hb2
                simp only [Nat.zero_add] at hd0 hd1
                have hpl : placeI rs (j + 1) x = (rs.set j (r.1, r2.2)).eraseIdx (j + 1) := by simp [placeI, hbf, haf, hX, hX2]
                have HPL := Lib.hid hpl
                have hst := (HOWN.out.stored (j * 2 + 1) (.int .i64 r2.2)).1
                rw [← set_flat2 rs j r2.2 r hX] at hst
                have hst' := hst6.inPlace (ys := rs.set j (r.1, r2.2)) (grown_setCell wc g (j * 2 + 1) (.int .i64 r2.2)) (by rw [List.length_set, HL.out]; exact hst)
                have hne : g ≠ go := fun e => own_ne hst6.own hst6.out (by rw [e]; rfl)
                have HST := Lib.hid hst'
                have HOW2 := Lib.hid hst
                clear hpl hst hst' hX hX2 hst6 hR
                have HBF := Lib.hid hbf
                have HAF := Lib.hid haf
                clear hbf haf
                have hjk : j + 1 ≤ k := by omega
                have hjk2 : j < k + 1 := by omega
                have hjk3 : j + 1 < k + 1 := by omega
                have hi1 : (j : Int) < (k : Int) + 1 := by omega
                have hi2 : (j : Int) + 1 < (k : Int) + 1 := by omega
                have hi3 : (0 : Int) ≤ (j : Int) + 1 := by omega
                have hi4 : ((j : Int) + 1).toNat = j + 1 := by omega
                have hi5 : IntKind.i64.wrap ((j : Int) + 1 - 1) = (j : Int) := by rw [show (j : Int) + 1 - 1 = (j : Int) by omega]; exact IntWalk.i64_in _ (by omega)
                have hi6 : IntKind.i64.wrap ((j : Int) + 1) = (j : Int) + 1 := IntWalk.i64_in _ (by omega)
                go_wp2_with fail
                go_region
                have hst8 : TkSt w low A (k + 1) c low (rs.set j (r.1, r2.2)) go (.slice (some ⟨g, 0, none⟩) (k + 1) k1) (wc.setCell ⟨g, j * 2 + 1, none⟩ (.int .i64 r2.2)).drew := HST.out.next ⟨rfl, rfl, rfl, Nat.le_refl _, fun _ _ => rfl⟩
                clear hi3 hi4 hi5 hi6 HST HOW2 hc0 hc1 hd0 hd1 ho0 ho1 hsl hf1 hfz hsz6 hbase
                generalize (wc.setCell ⟨g, j * 2 + 1, none⟩ (.int .i64 r2.2)).drew = W5 at *
                have ho1 := hst8.out1
                have hsz8 := hst8.size
                have hR8 : RowAt 46 2 W5 g k1 (k + 1) ((rs.set j (r.1, r2.2)).flatMap pairC) := by
                  have ho := hst8.own
                  rw [List.length_set, HL.out] at ho
                  obtain ⟨g', cap', hv, _, _, hR⟩ := RowAt.of_own ho (by omega)
                  injection hv with hv1 _ hv3
                  injection hv1 with hv1
                  injection hv1 with hv1
                  subst hv1; subst hv3
                  exact hR
                have hdel := delete_any g k1 k (j + 1) _ W5 hR8 hjk hcm
                simp only [Int.natCast_add, Int.natCast_one] at hdel
                have HDEL := Lib.hid hdel
                have HST := Lib.hid hst8
                clear hdel hR8 hst8
                go_wp2_with fail
                refine HDEL.out.mono ?_
                rintro e w6 ⟨rfl, hR6, hg6⟩
                have hg1 := HST.out.outG hg6 1
                have hcq := hg1.1.trans HST.out.out1
                have hfq := hg1.2
                have hlen : k = ((rs.set j (r.1, r2.2)).eraseIdx (j + 1)).length := by rw [List.length_eraseIdx, List.length_set, HL.out, if_pos (by omega)]; omega
                have HFIN := Lib.hid (HST.out.grownV (ys := (rs.set j (r.1, r2.2)).eraseIdx (j + 1)) hg6 (by rw [← hlen]; exact hR6.own hbg hcm))
                clear hg1 hR6 hg6 hlen
                go_wp2_with fail
                go_meet
                exact ⟨_, k, k1, by rw [HPL.out]; exact HFIN.out⟩
          case rest =>
            obtain ⟨A2, m2, k2, hst7⟩ := hcut
            have hlp := hst7.loop
            have hm2 : m2 ≤ n + 1 := by have := hlp.len; have := placeI_len rs i x (by rw [HL.out]; exact hile); have := HL.out; omega
            have HTP : Hid (takeP low rs x most = ⟨(dropP most low (placeI rs i x)).1, (dropP most low (placeI rs i x)).2, true⟩) := by
              show _ = _
              have e : placeP rs x = placeI rs i x := by rw [← HI.out]; rfl
              simp [takeP, HBAD.out, e]
            generalize placeI rs i x = zs at *
            have HLP := Lib.hid hlp
            clear hlp hst7
            go_wp2_with fail
            go_loopg [] m2 (fun q W => ∃ (lo : Int) (ys : List Rg) (A3 : Option Addr) (k3 : Nat), q ≤ m2 ∧ LpSt w lo ys go A3 q k3 W ∧ Hid (dropFrom most low zs lo ys))
            case atStart => exact ⟨low, zs, A2, k2, Nat.le_refl _, HLP.out, rfl⟩
            case round =>
              obtain ⟨lo, ys, A3, k3, hq, hst, HD⟩ := hrel
              have h0 := hst.out0
              have h1 := hst.out1
              have hf0 := hst.outF 0
              have hf1 := hst.outF 1
              have hgo : go < wr.heap.size := lt_of_block hst.out
              have hbig := hst.big
              have hcap := hst.cap
              have HST := Lib.hid hst
              clear hst
              cases ys with
              | nil =>
                have hq0 : gk = 0 := by have := HST.out.len; simpa using this.symm
                subst hq0
                have HDD : Hid (dropP most low zs = (lo, [])) := HD.out
                go_wp2_with fail
                go_quiet (fail)
                have hr0 := (HST.out.drew nq).res0
                have hr1 := (HST.out.drew nq).res1
                have hr2 := (HST.out.drew nq).resF 0
                have hr3 := (HST.out.drew nq).resF 1
                have hp0 := (HST.out.drew nq).out0
                have hp1 := (HST.out.drew nq).out1
                have hab := HST.out.above
                have HFIN := Lib.hid ((HST.out.drew nq).fin (.int .i64 lo) (.slice A3 0 k3))
                go_wp2_with fail
                refine bodyPost_ret (v := .tuple #[listV lo A3 0 k3, .bool true]) (by simp [results, Try.results8, go_sem, listV, hr0, hr1]) rfl ?_
                show TakeNew _ _ (takeP low rs x most) _
                rw [HTP.out, HDD.out]
                have hlen := HST.out.len
                exact ⟨A3, k3, by simp only; rw [hlen], by simp only; rw [hlen]; exact HFIN.out.1, HFIN.out.2, by simp only; rw [hlen]; exact HST.out.nil_, HST.out.fresh, by simp only; rw [hlen]; exact HST.out.cap⟩
              | cons z r =>
                obtain ⟨m, rfl⟩ : ∃ m, gk = m + 1 := ⟨gk - 1, by have := HST.out.len; simp at this; omega⟩
                obtain ⟨b, o, e, hlt, hn1, hn2, hcell⟩ := HST.out.sl (by omega)
                subst e
                have hz0 := hcell 0 (.int .i64 z.1) rfl
                have hz1 := hcell 1 (.int .i64 z.2) rfl
                rw [Nat.add_zero] at hz0
                have hrl : r.length = m := by have := HST.out.len; simpa using this
                have HRL := Lib.hid hrl
                clear hcell hrl
                have hd0 : decide (0 < m + 1) = true := by simp
                by_cases hc1 : z.1 = lo
                · have g1 : (z.1 == lo) = true := by simpa using hc1
                  have HC1 := Lib.hid hc1
                  clear hc1
                  have HDD : Hid (dropFrom most low zs z.2 r) := by
                    show _ = _
                    rw [HD.out, dropP, if_pos (Or.inl HC1.out)]
                  go_wp2_with fail
                  go_quiet (fail)
                  have hk3 : k3 ≠ 0 := by omega
                  have hkk : ((k3 : Int) - 1) = ((k3 - 1 : Nat) : Int) := by omega
                  by_cases hc3 : k3 = 1
                  · subst hc3
                    obtain rfl : m = 0 := by omega
                    have HLS := Lib.hid ((HST.out.drew nq).step (some ⟨b, o, none⟩) (by simp))
                    go_wp2_with fail
                    go_roundg 0
                    case measure => omega
                    exact ⟨z.2, r, _, 0, by omega, HLS.out, HDD⟩
                  · have hc3' : (k3 == 1) = false := by simpa using hc3
                    have HLS := Lib.hid ((HST.out.drew nq).step (some ⟨b, o + 2, none⟩) (by rw [if_neg hc3]))
                    go_wp2_with fail
                    go_roundg m
                    case measure => omega
                    exact ⟨z.2, r, _, k3 - 1, by omega, HLS.out, HDD⟩
                · have g1 : (z.1 == lo) = false := by simpa using hc1
                  by_cases hc2 : most < (m : Int) + 1
                  · have g2 : decide (most < (m : Int) + 1) = true := by simpa using hc2
                    have HDD : Hid (dropFrom most low zs z.2 r) := by
                      show _ = _
                      rw [HD.out, dropP, if_pos (Or.inr (by rw [HRL.out]; exact hc2))]
                    clear hc1 hc2
                    go_wp2_with fail
                    go_quiet (fail)
                    have hk3 : k3 ≠ 0 := by omega
                    have hkk : ((k3 : Int) - 1) = ((k3 - 1 : Nat) : Int) := by omega
                    by_cases hc3 : k3 = 1
                    · subst hc3
                      obtain rfl : m = 0 := by omega
                      have HLS := Lib.hid ((HST.out.drew nq).step (some ⟨b, o, none⟩) (by simp))
                      go_wp2_with fail
                      go_roundg 0
                      case measure => omega
                      exact ⟨z.2, r, _, 0, by omega, HLS.out, HDD⟩
                    · have hc3' : (k3 == 1) = false := by simpa using hc3
                      have HLS := Lib.hid ((HST.out.drew nq).step (some ⟨b, o + 2, none⟩) (by rw [if_neg hc3]))
                      go_wp2_with fail
                      go_roundg m
                      case measure => omega
                      exact ⟨z.2, r, _, k3 - 1, by omega, HLS.out, HDD⟩
                  · have g2 : decide (most < (m : Int) + 1) = false := by simpa using hc2
                    have HDD : Hid (dropP most low zs = (lo, z :: r)) := by
                      show _ = _
                      rw [HD.out, dropP, if_neg (by rw [HRL.out]; rintro (h | h); exact hc1 h; exact hc2 h)]
                    clear hc1 hc2
                    go_wp2_with fail
                    go_quiet (fail)
                    have hr0 := (HST.out.drew nq).res0
                    have hr1 := (HST.out.drew nq).res1
                    have hr2 := (HST.out.drew nq).resF 0
                    have hr3 := (HST.out.drew nq).resF 1
                    have hp0 := (HST.out.drew nq).out0
                    have hp1 := (HST.out.drew nq).out1
                    have hab := HST.out.above
                    have HFIN := Lib.hid ((HST.out.drew nq).fin (.int .i64 lo) (.slice (some ⟨b, o, none⟩) (m + 1) k3))
                    go_wp2_with fail
                    refine bodyPost_ret (v := .tuple #[listV lo (some ⟨b, o, none⟩) (m + 1) k3, .bool true]) (by simp [results, Try.results8, go_sem, listV, hr0, hr1]) rfl ?_
                    show TakeNew _ _ (takeP low rs x most) _
                    rw [HTP.out, HDD.out]
                    have hlen := HST.out.len
                    exact ⟨some ⟨b, o, none⟩, k3, by simp only; rw [hlen], by simp only; rw [hlen]; exact HFIN.out.1, HFIN.out.2, by simp only; rw [hlen]; exact HST.out.nil_, HST.out.fresh, by simp only; rw [hlen]; exact HST.out.cap⟩
    · have htp : takeP low rs x most = ⟨low, rs, false⟩ := by simp [takeP, hbad]
      have HTP := Lib.hid htp
      cases hr : rightB low rs
      · have HR := Lib.hid hr
        clear hr htp hbad
        go_wp2_with fail
        refine (right_any low A n c rs _ (hS.below hst.bel) (by omega)).mono ?_
        rintro e w2 ⟨rfl, hb2⟩
        rw [HR.out]
        have hst2 := hst.next hb2
        clear hst hb2
        clear hbx0 hbx1
        have hfin := hst2.fin (.int .i64 low) (.slice A1 n k1)
        have h0 := hst2.out0
        have h1 := hst2.out1
        have h2 := hst2.res0
        have h3 := hst2.res1
        have h4 := hst2.resF 0
        have h5 := hst2.resF 1
        have h6 := hst2.above
        have HFIN := Lib.hid hfin
        clear hst2 hfin
        go_wp2_with fail
        refine bodyPost_ret (v := .tuple #[listV low A1 n k1, .bool false]) (by simp [results, Try.results8, go_sem, listV, h2, h3]) rfl ?_
        have hm := HFIN.out.2.2.2.1
        show TakeNew _ _ (takeP low rs x most) _
        rw [HTP.out]
        exact ⟨A1, k1, by rw [← hm], by rw [← hm]; exact HFIN.out.1, HFIN.out.2.1, by rw [← hm]; exact HFIN.out.2.2.1, by rw [← hm]; exact HFIN.out.2.2.2.2⟩
      · have HR := Lib.hid hr
        by_cases c1 : x < 0
        · have g1 : decide (x < 0) = true := by simpa using c1
          clear hr htp hbad c1
          go_wp2_with fail
          refine (right_any low A n c rs _ (hS.below hst.bel) (by omega)).mono ?_
          rintro e w2 ⟨rfl, hb2⟩
          rw [HR.out]
          have hst2 := hst.next hb2
          clear hst hb2
          clear hbx0 hbx1
          have hfin := hst2.fin (.int .i64 low) (.slice A1 n k1)
          have h0 := hst2.out0
          have h1 := hst2.out1
          have h2 := hst2.res0
          have h3 := hst2.res1
          have h4 := hst2.resF 0
          have h5 := hst2.resF 1
          have h6 := hst2.above
          have HFIN := Lib.hid hfin
          clear hst2 hfin
          go_wp2_with fail
          refine bodyPost_ret (v := .tuple #[listV low A1 n k1, .bool false]) (by simp [results, Try.results8, go_sem, listV, h2, h3]) rfl ?_
          have hm := HFIN.out.2.2.2.1
          show TakeNew _ _ (takeP low rs x most) _
          rw [HTP.out]
          exact ⟨A1, k1, by rw [← hm], by rw [← hm]; exact HFIN.out.1, HFIN.out.2.1, by rw [← hm]; exact HFIN.out.2.2.1, by rw [← hm]; exact HFIN.out.2.2.2.2⟩
        · have g1 : decide (x < 0) = false := by simpa using c1
          by_cases c2 : 1099511627776 ≤ x
          · have g2 : decide (1099511627776 ≤ x) = true := by simpa using c2
            clear hr htp hbad c1 c2
            go_wp2_with fail
            refine (right_any low A n c rs _ (hS.below hst.bel) (by omega)).mono ?_
            rintro e w2 ⟨rfl, hb2⟩
            rw [HR.out]
            have hst2 := hst.next hb2
            clear hst hb2
            clear hbx0 hbx1
            have hfin := hst2.fin (.int .i64 low) (.slice A1 n k1)
            have h0 := hst2.out0
            have h1 := hst2.out1
            have h2 := hst2.res0
            have h3 := hst2.res1
            have h4 := hst2.resF 0
            have h5 := hst2.resF 1
            have h6 := hst2.above
            have HFIN := Lib.hid hfin
            clear hst2 hfin
            go_wp2_with fail
            refine bodyPost_ret (v := .tuple #[listV low A1 n k1, .bool false]) (by simp [results, Try.results8, go_sem, listV, h2, h3]) rfl ?_
            have hm := HFIN.out.2.2.2.1
            show TakeNew _ _ (takeP low rs x most) _
            rw [HTP.out]
            exact ⟨A1, k1, by rw [← hm], by rw [← hm]; exact HFIN.out.1, HFIN.out.2.1, by rw [← hm]; exact HFIN.out.2.2.1, by rw [← hm]; exact HFIN.out.2.2.2.2⟩
          · have g2 : decide (1099511627776 ≤ x) = false := by simpa using c2
            by_cases c3 : most < 0
            · have g3 : decide (most < 0) = true := by simpa using c3
              clear hr htp hbad c1 c2 c3
              go_wp2_with fail
              refine (right_any low A n c rs _ (hS.below hst.bel) (by omega)).mono ?_
              rintro e w2 ⟨rfl, hb2⟩
              rw [HR.out]
              have hst2 := hst.next hb2
              clear hst hb2
              clear hbx0 hbx1
              have hfin := hst2.fin (.int .i64 low) (.slice A1 n k1)
              have h0 := hst2.out0
              have h1 := hst2.out1
              have h2 := hst2.res0
              have h3 := hst2.res1
              have h4 := hst2.resF 0
              have h5 := hst2.resF 1
              have h6 := hst2.above
              have HFIN := Lib.hid hfin
              clear hst2 hfin
              go_wp2_with fail
              refine bodyPost_ret (v := .tuple #[listV low A1 n k1, .bool false]) (by simp [results, Try.results8, go_sem, listV, h2, h3]) rfl ?_
              have hm := HFIN.out.2.2.2.1
              show TakeNew _ _ (takeP low rs x most) _
              rw [HTP.out]
              exact ⟨A1, k1, by rw [← hm], by rw [← hm]; exact HFIN.out.1, HFIN.out.2.1, by rw [← hm]; exact HFIN.out.2.2.1, by rw [← hm]; exact HFIN.out.2.2.2.2⟩
            · have g3 : decide (most < 0) = false := by simpa using c3
              have hhas : hasB low rs x = true := by simpa [badT, hr, g1, g2, g3] using hbad
              have HH := Lib.hid hhas
              clear hr htp hbad c1 c2 c3 hhas
              go_wp2_with fail
              refine (right_any low A n c rs _ (hS.below hst.bel) (by omega)).mono ?_
              rintro e w2 ⟨rfl, hb2⟩
              rw [HR.out]
              have hst2 := hst.next hb2
              clear hst hb2
              have hby0 := hst2.box0
              have hby1 := hst2.box1
              go_wp2_with fail
              refine (has_any low x A n c rs _ (hS.below hst2.bel) (by omega)).mono ?_
              rintro e w3 ⟨rfl, hb3⟩
              rw [HH.out]
              have hst3 := hst2.next hb3
              clear hst2 hby0 hby1
              have hst2 := hst3
              clear hst3 hb3
              clear hbx0 hbx1
              have hfin := hst2.fin (.int .i64 low) (.slice A1 n k1)
              have h0 := hst2.out0
              have h1 := hst2.out1
              have h2 := hst2.res0
              have h3 := hst2.res1
              have h4 := hst2.resF 0
              have h5 := hst2.resF 1
              have h6 := hst2.above
              have HFIN := Lib.hid hfin
              clear hst2 hfin
              go_wp2_with fail
              refine bodyPost_ret (v := .tuple #[listV low A1 n k1, .bool false]) (by simp [results, Try.results8, go_sem, listV, h2, h3]) rfl ?_
              have hm := HFIN.out.2.2.2.1
              show TakeNew _ _ (takeP low rs x most) _
              rw [HTP.out]
              exact ⟨A1, k1, by rw [← hm], by rw [← hm]; exact HFIN.out.1, HFIN.out.2.1, by rw [← hm]; exact HFIN.out.2.2.1, by rw [← hm]; exact HFIN.out.2.2.2.2⟩
theorem take_any (low x most : Int) (A : Option Addr) (n c : Nat) (rs : List Rg) (w : World) (hS : Sl w A n 2 (rs.flatMap pairC)) (hn : n ≤ 100000) (hA : A = none → n = 0 ∧ c = 0) :
    Calls Try.prog 8 #[listV low A n c, .int .i64 x, .int .i64 most] w fun e w' => TakeOut w w' (takeP low rs x most) e :=
  (take_new low x most A n c rs w hS hn hA).mono fun _ _ ⟨A', c', h1, h2, h3, h4, _⟩ => ⟨A', c', h1, h2, h3, h4⟩
end Go.Proofs.Ytikfbgbfjipceaa

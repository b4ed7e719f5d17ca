/-
  The contract of small (layer 32's laws).
-/
import Derived.Test.YtikfbgbfjipceaaC1
import Derived.Test.YtikfbgbfjipceaaA4
namespace Go.Proofs.Ytikfbgbfjipceaa
open Go.RowKit

/-- a variable that holds a list -/
structure Tv (W : World) (g : Nat) (low : Int) (rs : List Rg) (A : Option Addr) (n c : Nat) : Prop where
  blk : W.heap[g]? = some (.cells #[.int .i64 low, .slice A n c] 25 (0, 0))
  sl : Sl W A n 2 (rs.flatMap pairC)
  nil_ : A = none → n = 0 ∧ c = 0
section
variable {W W' : World} {g n c : Nat} {low : Int} {rs : List Rg} {A : Option Addr}
theorem Tv.lt (h : Tv W g low rs A n c) : g < W.heap.size := lt_of_block h.blk
theorem Tv.next (h : Tv W g low rs A n c) (hb : Below W.heap.size W W') : Tv W' g low rs A n c := ⟨(hb.block _ h.lt).trans h.blk, h.sl.below hb, h.nil_⟩
theorem Tv.c0 (h : Tv W g low rs A n c) : W.cell? ⟨g, 0, none⟩ = some (.int .i64 low) := by rw [cell_of_row _ _ _ _ 25 (0, 0) h.blk]; rfl
theorem Tv.c1 (h : Tv W g low rs A n c) : W.cell? ⟨g, 1, none⟩ = some (.slice A n c) := by rw [cell_of_row _ _ _ _ 25 (0, 0) h.blk]; rfl
theorem Tv.new (h : Sl W A n 2 (rs.flatMap pairC)) (hn : A = none → n = 0 ∧ c = 0) (low : Int) : Tv (W.alloc (.cells #[.int .i64 low, .slice A n c] 25)) W.heap.size low rs A n c := ⟨heap_alloc_new W _, h.alloc _, hn⟩
theorem Tv.alloc (h : Tv W g low rs A n c) (b : Obj) : Tv (W.alloc b) g low rs A n c := h.next (below_alloc W b)
end
theorem take_val (low x most : Int) (A : Option Addr) (n c : Nat) (rs : List Rg) (w : World) (low' : Int) (rs' : List Rg) (ok : Bool) (m : Nat) (hv : takeP low rs x most = ⟨low', rs', ok⟩) (hm : rs'.length = m)
    (hS : Sl w A n 2 (rs.flatMap pairC)) (hn : n ≤ 100000) (hA : A = none → n = 0 ∧ c = 0) :
    Calls Try.prog 8 #[listV low A n c, .int .i64 x, .int .i64 most] w fun e w' => ∃ A' c', e = .returned (.tuple #[listV low' A' m c', .bool ok]) ∧ Sl w' A' m 2 (rs'.flatMap pairC) ∧ Below w.heap.size w w' ∧ (A' = none → m = 0 ∧ c' = 0) := by
  refine (take_any low x most A n c rs w hS hn hA).mono ?_
  intro e w' h
  rw [hv] at h
  subst hm
  exact h

theorem lit_sl (w : World) (xs : List Rg) : Sl (w.alloc (.cells (xs.flatMap pairC).toArray 46)) (some ⟨w.heap.size, 0, none⟩) xs.length 2 (xs.flatMap pairC) := by
  refine ⟨pair_len xs, fun _ => ⟨w.heap.size, 0, rfl, by simp, fun j u hu => ?_⟩⟩
  rw [cell_of_row _ _ _ _ 46 (0, 0) (heap_alloc_new w _)]
  simpa using hu
/-- the variables of small -/
structure Sm (w : World) (g1 g2 g3 g4 g5 g6 g7 : Nat) (A1 A2 A3 A4 A5 A6 A7 : Option Addr) (c1 c2 c3 c4 c5 c6 c7 : Nat) (W : World) : Prop where
  t1 : Tv W g1 3 [(5, 7)] A1 1 c1
  t2 : Tv W g2 3 [(4, 7)] A2 1 c2
  t3 : Tv W g3 4 [(5, 7)] A3 1 c3
  t4 : Tv W g4 3 [(5, 7)] A4 1 c4
  t5 : Tv W g5 3 [(5, 7), (9, 10)] A5 2 c5
  t6 : Tv W g6 7 [(9, 10)] A6 1 c6
  t7 : Tv W g7 7 [] A7 0 c7
  bel : Below w.heap.size w W
section
variable {w W W' : World} {g1 g2 g3 g4 g5 g6 g7 : Nat} {A1 A2 A3 A4 A5 A6 A7 : Option Addr} {c1 c2 c3 c4 c5 c6 c7 : Nat}
theorem Sm.next (h : Sm w g1 g2 g3 g4 g5 g6 g7 A1 A2 A3 A4 A5 A6 A7 c1 c2 c3 c4 c5 c6 c7 W) (hb : Below W.heap.size W W') : Sm w g1 g2 g3 g4 g5 g6 g7 A1 A2 A3 A4 A5 A6 A7 c1 c2 c3 c4 c5 c6 c7 W' := ⟨h.t1.next hb, h.t2.next hb, h.t3.next hb, h.t4.next hb, h.t5.next hb, h.t6.next hb, h.t7.next hb, bt h.bel hb⟩
theorem Sm.alloc (h : Sm w g1 g2 g3 g4 g5 g6 g7 A1 A2 A3 A4 A5 A6 A7 c1 c2 c3 c4 c5 c6 c7 W) (b : Obj) : Sm w g1 g2 g3 g4 g5 g6 g7 A1 A2 A3 A4 A5 A6 A7 c1 c2 c3 c4 c5 c6 c7 (W.alloc b) := h.next (below_alloc W b)
theorem Sm.drew (h : Sm w g1 g2 g3 g4 g5 g6 g7 A1 A2 A3 A4 A5 A6 A7 c1 c2 c3 c4 c5 c6 c7 W) : Sm w g1 g2 g3 g4 g5 g6 g7 A1 A2 A3 A4 A5 A6 A7 c1 c2 c3 c4 c5 c6 c7 W.drew := h.next (bd (n := 1) (Below.refl _ _))
theorem Sm.cells (h : Sm w g1 g2 g3 g4 g5 g6 g7 A1 A2 A3 A4 A5 A6 A7 c1 c2 c3 c4 c5 c6 c7 W) : W.cell? ⟨g1, 0, none⟩ = some (.int .i64 3) ∧ W.cell? ⟨g1, 1, none⟩ = some (.slice A1 1 c1) ∧ W.cell? ⟨g2, 0, none⟩ = some (.int .i64 3) ∧ W.cell? ⟨g2, 1, none⟩ = some (.slice A2 1 c2) ∧ W.cell? ⟨g3, 0, none⟩ = some (.int .i64 4) ∧ W.cell? ⟨g3, 1, none⟩ = some (.slice A3 1 c3) ∧ W.cell? ⟨g4, 0, none⟩ = some (.int .i64 3) ∧ W.cell? ⟨g4, 1, none⟩ = some (.slice A4 1 c4) ∧ W.cell? ⟨g5, 0, none⟩ = some (.int .i64 3) ∧ W.cell? ⟨g5, 1, none⟩ = some (.slice A5 2 c5) ∧ W.cell? ⟨g6, 0, none⟩ = some (.int .i64 7) ∧ W.cell? ⟨g6, 1, none⟩ = some (.slice A6 1 c6) ∧ W.cell? ⟨g7, 0, none⟩ = some (.int .i64 7) ∧ W.cell? ⟨g7, 1, none⟩ = some (.slice A7 0 c7) := ⟨h.t1.c0, h.t1.c1, h.t2.c0, h.t2.c1, h.t3.c0, h.t3.c1, h.t4.c0, h.t4.c1, h.t5.c0, h.t5.c1, h.t6.c0, h.t6.c1, h.t7.c0, h.t7.c1⟩
end
theorem sl_nil (w : World) : Sl w none 0 2 (List.flatMap pairC []) := ⟨rfl, fun h => absurd h (by decide)⟩
theorem lit1 (w : World) (a b : Int) : Sl (w.alloc (.cells #[.int .i64 a, .int .i64 b] 46)) (some ⟨w.heap.size, 0, none⟩) 1 2 (List.flatMap pairC [(a, b)]) := lit_sl w [(a, b)]
theorem lit1d (w : World) (a b : Int) : Sl (w.alloc (.cells #[.int .i64 a, .int .i64 b] 46)).drew (some ⟨w.heap.size, 0, none⟩) 1 2 (List.flatMap pairC [(a, b)]) := (lit1 w a b).below (bd (n := 1) (Below.refl _ _))
theorem lit2 (w : World) (a b c d : Int) : Sl (w.alloc (.cells #[.int .i64 a, .int .i64 b, .int .i64 c, .int .i64 d] 46)) (some ⟨w.heap.size, 0, none⟩) 2 2 (List.flatMap pairC [(a, b), (c, d)]) := lit_sl w [(a, b), (c, d)]
theorem list_v (low : Int) (A : Option Addr) (n c : Nat) (w : World) : Calls Try.prog 18 #[.int .i64 low, .slice A n c] w fun e w' => e = .returned (.agg #[.int .i64 low, .slice A n c]) ∧ Below w.heap.size w w' := list_any low A n c w
theorem same_tt (la : Int) (A A' : Option Addr) (n n' c c' : Nat) (xs : List Rg) (w : World) (ha : Sl w A n 2 (xs.flatMap pairC)) (hb : Sl w A' n' 2 (xs.flatMap pairC)) (hn : n ≤ 9223372036854775807) (hn' : n' ≤ 9223372036854775807) :
    Calls Try.prog 17 #[.agg #[.int .i64 la, .slice A n c], .agg #[.int .i64 la, .slice A' n' c']] w fun e w' => e = .returned (.bool true) ∧ Below w.heap.size w w' := by
  have := same_any la la A A' n n' c c' xs xs w ha hb hn hn'
  simpa [listV] using this
set_option maxRecDepth 100000 in
set_option maxHeartbeats 8000000 in
theorem small_any (w : World) : Calls Try.prog 7 #[] w fun e w' => e = .returned (.bool true) ∧ Below w.heap.size w w' := by
  go_enter Try.func7, Try.ntmps7
  go_wp2_with fail
  refine (list_any 3 _ 1 _ _).mono ?_
  rintro e w1 ⟨rfl, hb1⟩
  have HB1 : Hid (Below w.heap.size w w1) := bt (below_alloc w _) hb1
  have hS1 : Sl w1 (some ⟨w.heap.size, 0, none⟩) 1 2 (List.flatMap pairC [(5, 7)]) := (lit_sl w [(5, 7)]).below hb1
  have HT1 := Lib.hid (Tv.new (c := 1) hS1 (by simp) 3)
  have hz1 := hb1.size
  simp at hz1
  clear hb1 hS1
  unfold listV
  go_wp2_with fail
  refine (take_val 3 4 9 (some ⟨w.heap.size, 0, none⟩) 1 1 [(5, 7)] _ 3 [(4, 7)] true 1 (by decide +kernel) rfl HT1.out.sl (by omega) HT1.out.nil_).mono ?_
  rintro e w2 ⟨A2, c2, rfl, hS2, hb2, hn2⟩
  have HU1 := Lib.hid (HT1.out.next hb2)
  clear HT1
  have HC2 : Hid (Below w.heap.size w w2) := bt (ba HB1.out _) hb2
  clear HB1 hz1
  have hz2 := HC2.out.size
  have hc10 := HU1.out.c0
  have hc11 := HU1.out.c1
  have hl1 := HU1.out.lt
  have HB2 := Lib.hid HC2.out
  clear HC2
  have HT1 := Lib.hid (HU1.out.alloc (.cells #[.int .i64 3, .slice A2 1 c2] 25))
  clear HU1
  have HT2 := Lib.hid (Tv.new (c := c2) hS2 hn2 3)
  clear hS2 hb2 hn2
  unfold listV
  go_wp2_with fail
  refine (take_val 3 3 9 (some ⟨w.heap.size, 0, none⟩) 1 1 [(5, 7)] _ 4 [(5, 7)] true 1 (by decide +kernel) rfl HT1.out.sl (by omega) HT1.out.nil_).mono ?_
  rintro e w3 ⟨A3, c3, rfl, hS3, hb3, hn3⟩
  clear hc10 hc11 hl1
  have HU1 := Lib.hid (HT1.out.next hb3)
  clear HT1
  have HU2 := Lib.hid (HT2.out.next hb3)
  clear HT2
  have HC3 : Hid (Below w.heap.size w w3) := bt (ba HB2.out _) hb3
  clear HB2 hz2
  have hz3 := HC3.out.size
  have hc10 := HU1.out.c0
  have hc11 := HU1.out.c1
  have hl1 := HU1.out.lt
  have HB3 := Lib.hid HC3.out
  clear HC3
  have HT1 := Lib.hid (HU1.out.alloc (.cells #[.int .i64 4, .slice A3 1 c3] 25))
  clear HU1
  have HT2 := Lib.hid (HU2.out.alloc (.cells #[.int .i64 4, .slice A3 1 c3] 25))
  clear HU2
  have HT3 := Lib.hid (Tv.new (c := c3) hS3 hn3 4)
  clear hS3 hb3 hn3
  unfold listV
  go_wp2_with fail
  refine (take_val 3 6 9 (some ⟨w.heap.size, 0, none⟩) 1 1 [(5, 7)] _ 3 [(5, 7)] false 1 (by decide +kernel) rfl HT1.out.sl (by omega) HT1.out.nil_).mono ?_
  rintro e w4 ⟨A4, c4, rfl, hS4, hb4, hn4⟩
  clear hc10 hc11 hl1
  have HU1 := Lib.hid (HT1.out.next hb4)
  clear HT1
  have HU2 := Lib.hid (HT2.out.next hb4)
  clear HT2
  have HU3 := Lib.hid (HT3.out.next hb4)
  clear HT3
  have HC4 : Hid (Below w.heap.size w w4) := bt (ba HB3.out _) hb4
  clear HB3 hz3
  have hz4 := HC4.out.size
  have hc10 := HU1.out.c0
  have hc11 := HU1.out.c1
  have hl1 := HU1.out.lt
  have hc30 := HU3.out.c0
  have hc31 := HU3.out.c1
  have hl3 := HU3.out.lt
  have HB4 := Lib.hid HC4.out
  clear HC4
  have HT1 := Lib.hid (HU1.out.alloc (.cells #[.int .i64 3, .slice A4 1 c4] 25))
  clear HU1
  have HT2 := Lib.hid (HU2.out.alloc (.cells #[.int .i64 3, .slice A4 1 c4] 25))
  clear HU2
  have HT3 := Lib.hid (HU3.out.alloc (.cells #[.int .i64 3, .slice A4 1 c4] 25))
  clear HU3
  have HT4 := Lib.hid (Tv.new (c := c4) hS4 hn4 3)
  clear hS4 hb4 hn4
  unfold listV
  go_wp2_with fail
  refine (take_val 3 9 9 (some ⟨w.heap.size, 0, none⟩) 1 1 [(5, 7)] _ 3 [(5, 7), (9, 10)] true 2 (by decide +kernel) rfl HT1.out.sl (by omega) HT1.out.nil_).mono ?_
  rintro e w5 ⟨A5, c5, rfl, hS5, hb5, hn5⟩
  clear hc10 hc11 hl1 hc30 hc31 hl3
  have HU1 := Lib.hid (HT1.out.next hb5)
  clear HT1
  have HU2 := Lib.hid (HT2.out.next hb5)
  clear HT2
  have HU3 := Lib.hid (HT3.out.next hb5)
  clear HT3
  have HU4 := Lib.hid (HT4.out.next hb5)
  clear HT4
  have HC5 : Hid (Below w.heap.size w w5) := bt (ba HB4.out _) hb5
  clear HB4 hz4
  have hz5 := HC5.out.size
  have hc10 := HU1.out.c0
  have hc11 := HU1.out.c1
  have hl1 := HU1.out.lt
  have hc30 := HU3.out.c0
  have hc31 := HU3.out.c1
  have hl3 := HU3.out.lt
  have HB5 := Lib.hid HC5.out
  clear HC5
  have HT1 := Lib.hid (HU1.out.alloc (.cells #[.int .i64 3, .slice A5 2 c5] 25))
  clear HU1
  have HT2 := Lib.hid (HU2.out.alloc (.cells #[.int .i64 3, .slice A5 2 c5] 25))
  clear HU2
  have HT3 := Lib.hid (HU3.out.alloc (.cells #[.int .i64 3, .slice A5 2 c5] 25))
  clear HU3
  have HT4 := Lib.hid (HU4.out.alloc (.cells #[.int .i64 3, .slice A5 2 c5] 25))
  clear HU4
  have HT5 := Lib.hid (Tv.new (c := c5) hS5 hn5 3)
  clear hS5 hb5 hn5
  unfold listV
  go_wp2_with fail
  refine (take_val 3 9 1 (some ⟨w.heap.size, 0, none⟩) 1 1 [(5, 7)] _ 7 [(9, 10)] true 1 (by decide +kernel) rfl HT1.out.sl (by omega) HT1.out.nil_).mono ?_
  rintro e w6 ⟨A6, c6, rfl, hS6, hb6, hn6⟩
  clear hc10 hc11 hl1 hc30 hc31 hl3
  have HU1 := Lib.hid (HT1.out.next hb6)
  clear HT1
  have HU2 := Lib.hid (HT2.out.next hb6)
  clear HT2
  have HU3 := Lib.hid (HT3.out.next hb6)
  clear HT3
  have HU4 := Lib.hid (HT4.out.next hb6)
  clear HT4
  have HU5 := Lib.hid (HT5.out.next hb6)
  clear HT5
  have HC6 : Hid (Below w.heap.size w w6) := bt (ba HB5.out _) hb6
  clear HB5 hz5
  have hz6 := HC6.out.size
  have hc10 := HU1.out.c0
  have hc11 := HU1.out.c1
  have hl1 := HU1.out.lt
  have hc30 := HU3.out.c0
  have hc31 := HU3.out.c1
  have hl3 := HU3.out.lt
  have HB6 := Lib.hid HC6.out
  clear HC6
  have HT1 := Lib.hid (HU1.out.alloc (.cells #[.int .i64 7, .slice A6 1 c6] 25))
  clear HU1
  have HT2 := Lib.hid (HU2.out.alloc (.cells #[.int .i64 7, .slice A6 1 c6] 25))
  clear HU2
  have HT3 := Lib.hid (HU3.out.alloc (.cells #[.int .i64 7, .slice A6 1 c6] 25))
  clear HU3
  have HT4 := Lib.hid (HU4.out.alloc (.cells #[.int .i64 7, .slice A6 1 c6] 25))
  clear HU4
  have HT5 := Lib.hid (HU5.out.alloc (.cells #[.int .i64 7, .slice A6 1 c6] 25))
  clear HU5
  have HT6 := Lib.hid (Tv.new (c := c6) hS6 hn6 7)
  clear hS6 hb6 hn6
  unfold listV
  go_wp2_with fail
  refine (take_val 4 4 9 A3 1 c3 [(5, 7)] _ 7 [] true 0 (by decide +kernel) rfl HT3.out.sl (by omega) HT3.out.nil_).mono ?_
  rintro e w7 ⟨A7, c7, rfl, hS7, hb7, hn7⟩
  clear hc10 hc11 hl1 hc30 hc31 hl3
  have HU1 := Lib.hid (HT1.out.next hb7)
  clear HT1
  have HU2 := Lib.hid (HT2.out.next hb7)
  clear HT2
  have HU3 := Lib.hid (HT3.out.next hb7)
  clear HT3
  have HU4 := Lib.hid (HT4.out.next hb7)
  clear HT4
  have HU5 := Lib.hid (HT5.out.next hb7)
  clear HT5
  have HU6 := Lib.hid (HT6.out.next hb7)
  clear HT6
  have HC7 : Hid (Below w.heap.size w w7) := bt (ba HB6.out _) hb7
  clear HB6 hz6
  have hz7 := HC7.out.size
  have hc10 := HU1.out.c0
  have hc11 := HU1.out.c1
  have hl1 := HU1.out.lt
  have hc30 := HU3.out.c0
  have hc31 := HU3.out.c1
  have hl3 := HU3.out.lt
  have HB7 := Lib.hid HC7.out
  clear HC7
  have HT1 := Lib.hid (HU1.out.alloc (.cells #[.int .i64 7, .slice A7 0 c7] 25))
  clear HU1
  have HT2 := Lib.hid (HU2.out.alloc (.cells #[.int .i64 7, .slice A7 0 c7] 25))
  clear HU2
  have HT3 := Lib.hid (HU3.out.alloc (.cells #[.int .i64 7, .slice A7 0 c7] 25))
  clear HU3
  have HT4 := Lib.hid (HU4.out.alloc (.cells #[.int .i64 7, .slice A7 0 c7] 25))
  clear HU4
  have HT5 := Lib.hid (HU5.out.alloc (.cells #[.int .i64 7, .slice A7 0 c7] 25))
  clear HU5
  have HT6 := Lib.hid (HU6.out.alloc (.cells #[.int .i64 7, .slice A7 0 c7] 25))
  clear HU6
  have HT7 := Lib.hid (Tv.new (c := c7) hS7 hn7 7)
  clear hS7 hb7 hn7
  unfold listV
  go_upto_region 8 with fail
  have HSM : Hid (Sm w (w1.heap.size) (w2.heap.size) (w3.heap.size) (w4.heap.size) (w5.heap.size) (w6.heap.size) (w7.heap.size) (some ⟨w.heap.size, 0, none⟩) A2 A3 A4 A5 A6 A7 1 c2 c3 c4 c5 c6 c7 (w7.alloc (.cells #[.int .i64 7, .slice A7 0 c7] 25))) := ⟨HT1.out, HT2.out, HT3.out, HT4.out, HT5.out, HT6.out, HT7.out, ba HB7.out _⟩
  clear HT1 HT2 HT3 HT4 HT5 HT6 HT7 HB7 hc10 hc11 hl1 hc30 hc31 hl3 hz7
  generalize w7.alloc (.cells #[.int .i64 7, .slice A7 0 c7] 25) = W0 at *
  obtain ⟨hk10, hk11, hk20, hk21, hk30, hk31, hk40, hk41, hk50, hk51, hk60, hk61, hk70, hk71⟩ := HSM.out.cells
  go_cut [14] (fun s14 W => s14 = .bool true ∧ Sm w (w1.heap.size) (w2.heap.size) (w3.heap.size) (w4.heap.size) (w5.heap.size) (w6.heap.size) (w7.heap.size) (some ⟨w.heap.size, 0, none⟩) A2 A3 A4 A5 A6 A7 1 c2 c3 c4 c5 c6 c7 W)
  case first =>
    go_region_held3 (fun w' => w'.cell? ⟨w1.heap.size, 0, none⟩ = some (.int .i64 3) ∧ w'.cell? ⟨w1.heap.size, 1, none⟩ = some (.slice (some ⟨w.heap.size, 0, none⟩) 1 1) ∧ w'.cell? ⟨w2.heap.size, 0, none⟩ = some (.int .i64 3) ∧ w'.cell? ⟨w2.heap.size, 1, none⟩ = some (.slice A2 1 c2) ∧ w'.cell? ⟨w3.heap.size, 0, none⟩ = some (.int .i64 4) ∧ w'.cell? ⟨w3.heap.size, 1, none⟩ = some (.slice A3 1 c3) ∧ w'.cell? ⟨w4.heap.size, 0, none⟩ = some (.int .i64 3) ∧ w'.cell? ⟨w4.heap.size, 1, none⟩ = some (.slice A4 1 c4) ∧ w'.cell? ⟨w5.heap.size, 0, none⟩ = some (.int .i64 3) ∧ w'.cell? ⟨w5.heap.size, 1, none⟩ = some (.slice A5 2 c5) ∧ w'.cell? ⟨w6.heap.size, 0, none⟩ = some (.int .i64 7) ∧ w'.cell? ⟨w6.heap.size, 1, none⟩ = some (.slice A6 1 c6) ∧ w'.cell? ⟨w7.heap.size, 0, none⟩ = some (.int .i64 7) ∧ w'.cell? ⟨w7.heap.size, 1, none⟩ = some (.slice A7 0 c7)) (first | with_reducible exact HSM.out.cells | with_reducible exact (HSM.out.alloc _).cells | with_reducible exact HSM.out.drew.cells | with_reducible exact (HSM.out.drew.alloc _).cells | with_reducible exact (HSM.out.alloc _).drew.cells)
      (first | (go_at_call 18; refine (list_v _ _ _ _ _).mono ?_; rintro e wn ⟨rfl, hbn⟩; (first | (with_reducible have HLIT := Lib.hid ((lit1 _ _ _).below hbn)) | (with_reducible have HLIT := Lib.hid ((lit1d _ _ _).below hbn)) | (with_reducible have HLIT := Lib.hid ((lit2 _ _ _ _ _).below hbn)) | skip); have HSX : Hid (Sm w (w1.heap.size) (w2.heap.size) (w3.heap.size) (w4.heap.size) (w5.heap.size) (w6.heap.size) (w7.heap.size) (some ⟨w.heap.size, 0, none⟩) A2 A3 A4 A5 A6 A7 1 c2 c3 c4 c5 c6 c7 wn) := Sm.next (by first | with_reducible exact HSM.out | with_reducible exact HSM.out.alloc _ | with_reducible exact HSM.out.drew | with_reducible exact HSM.out.drew.alloc _ | with_reducible exact (HSM.out.alloc _).drew) hbn; clear HSM; have HSM := Lib.hid HSX.out; clear HSX; clear hk10 hk11 hk20 hk21 hk30 hk31 hk40 hk41 hk50 hk51 hk60 hk61 hk70 hk71; obtain ⟨hk10, hk11, hk20, hk21, hk30, hk31, hk40, hk41, hk50, hk51, hk60, hk61, hk70, hk71⟩ := HSM.out.cells; clear hbn) | (go_at_call 17; (first | with_reducible refine (same_tt _ _ _ _ _ _ _ _ _ HSM.out.t2.sl HLIT.out (by decide) (by decide)).mono ?_ | with_reducible refine (same_tt _ _ _ _ _ _ _ _ _ HSM.out.t3.sl HLIT.out (by decide) (by decide)).mono ?_ | with_reducible refine (same_tt _ _ _ _ _ _ _ _ _ HSM.out.t5.sl HLIT.out (by decide) (by decide)).mono ?_ | with_reducible refine (same_tt _ _ _ _ _ _ _ _ _ HSM.out.t6.sl HLIT.out (by decide) (by decide)).mono ?_ | with_reducible refine (same_tt _ _ _ _ _ _ _ _ _ HSM.out.t4.sl HSM.out.t1.sl (by decide) (by decide)).mono ?_ | with_reducible refine (same_tt _ _ _ _ _ _ _ [] _ HSM.out.t7.sl (sl_nil _) (by decide) (by decide)).mono ?_); rintro e wn ⟨rfl, hbn⟩; (try clear HLIT); have HSX : Hid (Sm w (w1.heap.size) (w2.heap.size) (w3.heap.size) (w4.heap.size) (w5.heap.size) (w6.heap.size) (w7.heap.size) (some ⟨w.heap.size, 0, none⟩) A2 A3 A4 A5 A6 A7 1 c2 c3 c4 c5 c6 c7 wn) := Sm.next (by first | with_reducible exact HSM.out | with_reducible exact HSM.out.alloc _ | with_reducible exact HSM.out.drew | with_reducible exact HSM.out.drew.alloc _ | with_reducible exact (HSM.out.alloc _).drew) hbn; clear HSM; have HSM := Lib.hid HSX.out; clear HSX; clear hk10 hk11 hk20 hk21 hk30 hk31 hk40 hk41 hk50 hk51 hk60 hk61 hk70 hk71; obtain ⟨hk10, hk11, hk20, hk21, hk30, hk31, hk40, hk41, hk50, hk51, hk60, hk61, hk70, hk71⟩ := HSM.out.cells; clear hbn))
    go_wp2_with fail
    go_meet
    exact ⟨rfl, HSM.out⟩
  case rest =>
    obtain ⟨rfl, hsm⟩ := hcut
    clear hk10 hk11 hk20 hk21 hk30 hk31 hk40 hk41 hk50 hk51 hk60 hk61 hk70 hk71 HSM
    have HSM := Lib.hid hsm
    clear hsm
    have hk10 := HSM.out.t1.c0
    have hk11 := HSM.out.t1.c1
    go_wp2_with fail
    refine (has_any 3 2 (some ⟨w.heap.size, 0, none⟩) 1 1 [(5, 7)] _ HSM.out.t1.sl (by decide)).mono ?_
    rintro e wn ⟨rfl, hbn⟩
    rw [show hasB 3 [(5, 7)] 2 = true by decide +kernel]
    have HSX : Hid (Sm w (w1.heap.size) (w2.heap.size) (w3.heap.size) (w4.heap.size) (w5.heap.size) (w6.heap.size) (w7.heap.size) (some ⟨w.heap.size, 0, none⟩) A2 A3 A4 A5 A6 A7 1 c2 c3 c4 c5 c6 c7 wn) := HSM.out.next hbn
    clear HSM hk10 hk11
    have HSM := Lib.hid HSX.out
    clear HSX hbn
    have hk10 := HSM.out.t1.c0
    have hk11 := HSM.out.t1.c1
    go_wp2_with fail
    refine (has_any 3 3 (some ⟨w.heap.size, 0, none⟩) 1 1 [(5, 7)] _ HSM.out.t1.sl (by decide)).mono ?_
    rintro e wn ⟨rfl, hbn⟩
    rw [show hasB 3 [(5, 7)] 3 = false by decide +kernel]
    have HSX : Hid (Sm w (w1.heap.size) (w2.heap.size) (w3.heap.size) (w4.heap.size) (w5.heap.size) (w6.heap.size) (w7.heap.size) (some ⟨w.heap.size, 0, none⟩) A2 A3 A4 A5 A6 A7 1 c2 c3 c4 c5 c6 c7 wn) := HSM.out.next hbn
    clear HSM hk10 hk11
    have HSM := Lib.hid HSX.out
    clear HSX hbn
    have hk10 := HSM.out.t1.c0
    have hk11 := HSM.out.t1.c1
    go_wp2_with fail
    refine (has_any 3 5 (some ⟨w.heap.size, 0, none⟩) 1 1 [(5, 7)] _ HSM.out.t1.sl (by decide)).mono ?_
    rintro e wn ⟨rfl, hbn⟩
    rw [show hasB 3 [(5, 7)] 5 = true by decide +kernel]
    have HSX : Hid (Sm w (w1.heap.size) (w2.heap.size) (w3.heap.size) (w4.heap.size) (w5.heap.size) (w6.heap.size) (w7.heap.size) (some ⟨w.heap.size, 0, none⟩) A2 A3 A4 A5 A6 A7 1 c2 c3 c4 c5 c6 c7 wn) := HSM.out.next hbn
    clear HSM hk10 hk11
    have HSM := Lib.hid HSX.out
    clear HSX hbn
    have hk10 := HSM.out.t1.c0
    have hk11 := HSM.out.t1.c1
    go_wp2_with fail
    refine (has_any 3 7 (some ⟨w.heap.size, 0, none⟩) 1 1 [(5, 7)] _ HSM.out.t1.sl (by decide)).mono ?_
    rintro e wn ⟨rfl, hbn⟩
    rw [show hasB 3 [(5, 7)] 7 = false by decide +kernel]
    have HSX : Hid (Sm w (w1.heap.size) (w2.heap.size) (w3.heap.size) (w4.heap.size) (w5.heap.size) (w6.heap.size) (w7.heap.size) (some ⟨w.heap.size, 0, none⟩) A2 A3 A4 A5 A6 A7 1 c2 c3 c4 c5 c6 c7 wn) := HSM.out.next hbn
    clear HSM hk10 hk11
    have HSM := Lib.hid HSX.out
    clear HSX hbn
    have hk10 := HSM.out.t1.c0
    have hk11 := HSM.out.t1.c1
    go_wp2_with fail
    refine (floor_any 3 (some ⟨w.heap.size, 0, none⟩) 1 1 [(5, 7)] _ HSM.out.t1.sl (by decide)).mono ?_
    rintro e wn ⟨rfl, hbn⟩
    rw [show rightB 3 [(5, 7)] = true by decide +kernel, if_pos rfl]
    have HSX : Hid (Sm w (w1.heap.size) (w2.heap.size) (w3.heap.size) (w4.heap.size) (w5.heap.size) (w6.heap.size) (w7.heap.size) (some ⟨w.heap.size, 0, none⟩) A2 A3 A4 A5 A6 A7 1 c2 c3 c4 c5 c6 c7 wn) := HSM.out.next hbn
    clear HSM hk10 hk11
    have HSM := Lib.hid HSX.out
    clear HSX hbn
    have hk10 := HSM.out.t1.c0
    have hk11 := HSM.out.t1.c1
    go_wp2_with fail
    refine (right_any 3 (some ⟨w.heap.size, 0, none⟩) 1 1 [(5, 7)] _ HSM.out.t1.sl (by decide)).mono ?_
    rintro e wn ⟨rfl, hbn⟩
    rw [show rightB 3 [(5, 7)] = true by decide +kernel]
    have HSX : Hid (Sm w (w1.heap.size) (w2.heap.size) (w3.heap.size) (w4.heap.size) (w5.heap.size) (w6.heap.size) (w7.heap.size) (some ⟨w.heap.size, 0, none⟩) A2 A3 A4 A5 A6 A7 1 c2 c3 c4 c5 c6 c7 wn) := HSM.out.next hbn
    clear HSM hk10 hk11
    have HSM := Lib.hid HSX.out
    clear HSX hbn
    have hk10 := HSM.out.t1.c0
    have hk11 := HSM.out.t1.c1
    go_wp2_with fail
    refine (list_v _ _ _ _ _).mono ?_
    rintro e wn ⟨rfl, hbn⟩
    have HLIT := Lib.hid ((lit1 _ 3 4).below hbn)
    have HBB : Hid (Below w.heap.size w wn) := bt (ba HSM.out.bel _) hbn
    clear HSM hk10 hk11 hbn
    go_wp2_with fail
    refine (right_any 3 _ 1 1 [(3, 4)] _ HLIT.out (by decide)).mono ?_
    rintro e wl ⟨rfl, hbn⟩
    rw [show rightB 3 [(3, 4)] = false by decide +kernel]
    have HBC : Hid (Below w.heap.size w wl) := bt HBB.out hbn
    clear hbn HBB HLIT
    go_wp2_with fail
    exact bodyPost_ret (v := .bool true) (by simp [results, Try.results7]) rfl ⟨rfl, HBC.out⟩
end Go.Proofs.Ytikfbgbfjipceaa
